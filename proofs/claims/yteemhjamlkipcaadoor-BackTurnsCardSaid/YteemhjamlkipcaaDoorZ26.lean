/- Part 26 of 34 of the proof of backTurns_holds. What it holds was printed or written for this claim, text by text, and merged. -/
import Derived.Test.YteemhjamlkipcaaDoorZ25
import Derived.Test.YteemhjamlkipcaaDoorZ24
import Derived.Deep.RegionHeld3
import Derived.Deep.AppendLies
section
namespace Go.Proofs.YteemhjamlkipcaaDoor.PT
open Go.RowKit Go.Proofs.YteemhjamlkipcaaDoorW.PrintWords Go.Proofs.YteemhjamlkipcaaDoorW.PrintLast Go.Proofs.YteemhjamlkipcaaDoorW.PrintMore
set_option linter.unusedVariables false
set_option linter.unusedSimpArgs false
def tyEq (y z : S71) : Bool := (y.f0 == z.f0 && (y.f1 == z.f1 && (y.f2.toList == z.f2.toList)))
def tyIdx (ts : List S71) (y : S71) : Nat → Int
  | 0 => -1
  | d + 1 => if tyEq y (rd_T71 ts ((ts.length : Int) - (d + 1 : Nat))) = true then (ts.length : Int) - (d + 1 : Nat) else tyIdx ts y d
theorem tyIdx_l0 (ts : List S71) (y : S71) (hl : ts.length ≤ 9223372036854775806) : ∀ d k, d < k → d ≤ ts.length →
    slices_Index_Type.l0 k ts (ts.length : Int) ((ts.length : Int) - d) y.f0 y.f1 y.f2 = some (tyIdx ts y d) := by
  intro d
  induction d with
  | zero =>
    intro k hk hd
    obtain ⟨k, rfl⟩ : ∃ m, k = m + 1 := ⟨k - 1, by omega⟩
    simp only [slices_Index_Type.l0]
    rw [if_neg (by omega)]
    rfl
  | succ d ih =>
    intro k hk hd
    obtain ⟨k, rfl⟩ : ∃ m, k = m + 1 := ⟨k - 1, by omega⟩
    simp only [slices_Index_Type.l0]
    rw [if_pos (by omega), if_pos (by omega), if_pos (by omega)]
    unfold tyIdx
    have e : wrap64 ((ts.length : Int) - ((d + 1 : Nat) : Int) + 1) = (ts.length : Int) - (d : Nat) := by
      unfold wrap64
      omega
    rw [e, ih k (by omega) (by omega)]
    unfold tyEq
    by_cases h : (y.f0 == (rd_T71 ts ((ts.length : Int) - (d + 1 : Nat))).f0 && (y.f1 == (rd_T71 ts ((ts.length : Int) - (d + 1 : Nat))).f1 && (y.f2.toList == (rd_T71 ts ((ts.length : Int) - (d + 1 : Nat))).f2.toList))) = true
    · rw [if_pos h, if_pos h]
    · rw [if_neg h, if_neg h]
theorem tyIdx_f (ts : List S71) (y : S71) (hl : ts.length ≤ 9223372036854775806) : slices_Index_Type.f (ts.length + 1) ts y.f0 y.f1 y.f2 = some (tyIdx ts y ts.length) := by
  have := tyIdx_l0 ts y hl ts.length (ts.length + 1) (by omega) (Nat.le_refl _)
  unfold slices_Index_Type.f
  rw [← this]
  congr 1
  omega
structure MakerAt (W : World) (base : Nat) (g : Nat) (ts : List S71) (cs : List S65) (x : S71) (v0 v2 : Value) : Prop where
  blk : W.heap[g]? = some (.cells #[v0, .int .i64 0, v2, .int .i64 x.f0, .bool x.f1, .string x.f2] 94 (0, 0))
  ge : base ≤ g
  rt : Kd.R k71 71 W base (fun _ => True) v0 ts
  rc : Kd.R k65 65 W base (fun _ => True) v2 cs
theorem MakerAt.below {W W' : World} {base g : Nat} {ts : List S71} {cs : List S65} {x : S71} {v0 v2 : Value} (h : MakerAt W base g ts cs x v0 v2) (hb : Below W.heap.size W W') : MakerAt W' base g ts cs x v0 v2 :=
  ⟨(hb.block g (Array.getElem?_eq_some_iff.1 h.blk).1).trans h.blk, h.ge, Kd.R_below h.rt hb, Kd.R_below h.rc hb⟩
theorem R_one {α : Type} (d : Kd α) (e base : Nat) (W : World) (x : α) (inner : List Value) (hM : ∀ (w : World) (ok : Nat → Prop), d.M w base ok x inner) (hbase : base ≤ W.heap.size) :
    Kd.R d e (W.alloc (.cells inner.toArray e)) base (fun _ => True) (.slice (some ⟨W.heap.size, 0, none⟩) 1 1) [x] := by
  have hlen : inner.length = d.sz := d.K_len (d.K_of_M (hM W (fun _ => True)))
  refine ⟨fun _ _ => trivial, inner, ?_, ?_⟩
  · have h2 := World.ownsRow_lit (base := base) (e := e) (size := d.sz) W inner.toArray 1 hbase (by decide) (by simpa using hlen)
    simpa using h2
  · simpa using (Reps.none (d.M (W.alloc (.cells inner.toArray e)) base (fun k => True ∧ some k ≠ (Value.slice (some ⟨W.heap.size, 0, none⟩) 1 1).ownBlock)) d.sz).snoc (hM _ _) hlen
set_option maxHeartbeats 4000000 in
set_option maxRecDepth 100000 in
theorem table_Begin.calls (x : S71) (w : World) :
    Calls Tryd.prog 32 #[.agg #[.int .i64 x.f0, .bool x.f1, .string x.f2]] w fun e w' => ∃ (g : Nat) (v0 v2 : Value), e = .returned (.pointer (some ⟨g, 0, none⟩)) ∧ MakerAt w' w.heap.size g [x] [] x v0 v2 ∧ Below w.heap.size w w' := by
  go_enter Tryd.func32, Tryd.ntmps32
  go_wp2
  go_ret
  have hR := R_one k71 71 w.heap.size (w.alloc (Obj.cells #[Value.int IntKind.i64 x.f0, Value.bool x.f1, Value.string x.f2] 71)) x [.int .i64 x.f0, .bool x.f1, .string x.f2] (fun w ok => k71_mkM w _ ok x) (by simp)
  refine ⟨w.heap.size + 1 + 1, .slice (some ⟨w.heap.size + 1, 0, none⟩) 1 1, .slice none 0 0, rfl, ⟨?_, by omega, ?_, Kd.R_nil _ _ _ _ _⟩, ?_⟩
  · simpa using heap_alloc_new ((w.alloc (Obj.cells #[Value.int IntKind.i64 x.f0, Value.bool x.f1, Value.string x.f2] 71)).alloc (Obj.cells #[Value.int IntKind.i64 x.f0, Value.bool x.f1, Value.string x.f2] 71)) (Obj.cells #[.slice (some ⟨w.heap.size + 1, 0, none⟩) 1 1, .int .i64 0, .slice none 0 0, .int .i64 x.f0, .bool x.f1, .string x.f2] 94)
  · refine Kd.R_below ?_ (below_alloc (Below.refl _ _) _)
    simpa using hR
  · exact (((Below.refl _ _).alloc (Nat.le_refl _) _).alloc (by simp) _).alloc (by simp; omega) _
structure But (w w' : World) (bad : Nat → Prop) : Prop where
  os : w'.os = w.os
  tape : w'.tape = w.tape
  output : w'.output = w.output
  size : w.heap.size ≤ w'.heap.size
  block : ∀ k, k < w.heap.size → ¬ bad k → w'.heap[k]? = w.heap[k]?
theorem But.refl (w : World) (bad : Nat → Prop) : But w w bad := ⟨rfl, rfl, rfl, Nat.le_refl _, fun _ _ _ => rfl⟩
theorem But.trans {a b c : World} {bad : Nat → Prop} (h : But a b bad) (k : But b c bad) : But a c bad :=
  ⟨k.os.trans h.os, k.tape.trans h.tape, k.output.trans h.output, Nat.le_trans h.size k.size, fun i hi hb => (k.block i (Nat.lt_of_lt_of_le hi h.size) hb).trans (h.block i hi hb)⟩
theorem But.of_below {w w' : World} (h : Below w.heap.size w w') (bad : Nat → Prop) : But w w' bad := ⟨h.os, h.tape, h.output, h.size, fun k hk _ => h.block k hk⟩
theorem But.mono {w w' : World} {bad bad' : Nat → Prop} (h : But w w' bad) (hb : ∀ k, bad k → bad' k) : But w w' bad' := ⟨h.os, h.tape, h.output, h.size, fun k hk hn => h.block k hk (fun hh => hn (hb k hh))⟩
theorem But.below {w w' : World} {bad : Nat → Prop} (h : But w w' bad) {B : Nat} (hB : B ≤ w.heap.size) (hbad : ∀ k, bad k → B ≤ k) : Below B w w' :=
  ⟨h.os, h.tape, h.output, h.size, fun k hk => h.block k (Nat.lt_of_lt_of_le hk hB) (fun hb => by have := hbad k hb; omega)⟩
theorem But.grown {w w' : World} {row : Option Nat} (h : w.grownBy w' row) {bad : Nat → Prop} (hb : ∀ k, some k = row → bad k) : But w w' bad := ⟨h.os, h.tape, h.output, h.size, fun k hk hn => h.block k hk (fun e => hn (hb k e))⟩
theorem But.setCell (w : World) (p : Addr) (v : Value) {bad : Nat → Prop} (hb : bad p.block) : But w (w.setCell p v) bad :=
  ⟨rfl, rfl, rfl, by simp [World.setCell], fun k _ hn => Below.heap_setCell w p v k (fun e => hn (e ▸ hb))⟩
def makerIdx (ts : List S71) (y : S71) : Int := if tyIdx ts y ts.length < 0 then (ts.length : Int) else tyIdx ts y ts.length
def makerTs (ts : List S71) (y : S71) : List S71 := if tyIdx ts y ts.length < 0 then ts ++ [y] else ts
theorem R_flat {α : Type} {d : Kd α} (hf : ∀ (w w' : World) (b : Nat) (ok ok' : Nat → Prop) (x : α) (cs : List Value), d.M w b ok x cs → d.M w' b ok' x cs) {e : Nat} {W W' : World} {base : Nat} {v : Value} {xs : List α}
    (h : Kd.R d e W base (fun _ => True) v xs) (hm : ∀ k, v.ownBlock = some k → W'.heap[k]? = W.heap[k]?) : Kd.R d e W' base (fun _ => True) v xs := by
  obtain ⟨_, inner, ho, hr⟩ := h
  exact ⟨fun _ _ => trivial, inner, own_move ho hm, hr.imp_ (fun _ _ hp => hf _ _ _ _ _ _ _ hp)⟩
theorem flatT (w w' : World) (b : Nat) (ok ok' : Nat → Prop) (x : S71) (cs : List Value) (h : k71.M w b ok x cs) : k71.M w' b ok' x cs := by
  obtain rfl := k71_openM h
  exact k71_mkM _ _ _ x
theorem flatC (w w' : World) (b : Nat) (ok ok' : Nat → Prop) (x : S65) (cs : List Value) (h : k65.M w b ok x cs) : k65.M w' b ok' x cs := by
  obtain rfl := k65_openM h
  exact k65_mkM _ _ _ x
theorem rows_ne {α β : Type} {d : Kd α} {d' : Kd β} {e e' : Nat} {W : World} {b b' : Nat} {ok ok' : Nat → Prop} {v v' : Value} {xs : List α} {ys : List β} (h : Kd.R d e W b ok v xs) (h' : Kd.R d' e' W b' ok' v' ys) (hne : e ≠ e') (k : Nat) (hk : v.ownBlock = some k) : some k ≠ v'.ownBlock := by
  obtain ⟨_, ho⟩ := Kd.R_own h
  obtain ⟨_, ho'⟩ := Kd.R_own h'
  rcases own_type_ne ho ho' hne with h0 | h0
  · rw [h0] at hk
    cases hk
  · exact hk ▸ h0
set_option maxHeartbeats 4000000 in
set_option maxRecDepth 100000 in
theorem maker_number (g : Nat) (ts : List S71) (cs : List S65) (x y : S71) (v0 v2 : Value) (base : Nat) (w : World) (hM : MakerAt w base g ts cs x v0 v2) (hbase : base ≤ w.heap.size) (hlen : ts.length < 4398046511104) :
    Calls Tryd.prog 53 #[.pointer (some ⟨g, 0, none⟩), .agg #[.int .i64 y.f0, .bool y.f1, .string y.f2]] w fun e w' => ∃ v0' : Value, e = .returned (.int .i64 (makerIdx ts y)) ∧ MakerAt w' base g (makerTs ts y) cs x v0' v2 ∧ But w w' (fun k => k = g ∨ some k = v0.ownBlock) := by
  have hu := Tryd.underlying71
  obtain ⟨A0, c0, hv0, hc0, hr0⟩ := Kd.R_reads hM.rt
  have hg0 : w.cell? ⟨g, 0, none⟩ = some v0 := (blk_cell hM.blk 0).trans rfl
  have hg := (Array.getElem?_eq_some_iff.1 hM.blk).1
  have hlt0 : ∀ k, v0.ownBlock = some k → k < w.heap.size := by
    obtain ⟨_, ho⟩ := Kd.R_own hM.rt
    exact own_lt ho
  have HM := Aside0.mk hM
  clear hM
  have HR := Aside0.mk hr0
  have HC := Aside0.mk hc0
  clear hr0 hc0
  have HF := Aside0.mk (tyIdx_f ts y (by omega))
  subst hv0
  by_cases hi : tyIdx ts y ts.length < 0
  · go_enter Tryd.func53, Tryd.ntmps53
    go_wp2_with fail
    go_region_held3 (fun w' => w'.cell? ⟨g, 0, none⟩ = some (.slice A0 ts.length c0) ∧ w'.cell? ⟨w.heap.size, 0, none⟩ = some (.int .i64 y.f0) ∧ w'.cell? ⟨w.heap.size, 1, none⟩ = some (.bool y.f1) ∧ w'.cell? ⟨w.heap.size, 2, none⟩ = some (.string y.f2)) (first | go_keep | (go_split_ands; (refine ⟨?_, ?_, ?_, ?_⟩ <;> first | (rw [hb1.cell (by first | (simp; done) | (simp; omega))]; done) | (rw [hb1.cell (by first | (simp; done) | (simp; omega))]; assumption)))) ((go_at_call 67; refine (slices_Index_Type.calls (ts.length + 1) _ _ ts y.f0 y.f1 y.f2 _ _ ?hr HC.out HF.out).mono ?_; (case hr => exact Kd.C_below HR.out (by exact (below_alloc (Below.refl _ _) _).drew)); rintro e w1 ⟨rfl, hb1⟩))
    have HX1 : Aside0 (w1.heap[w.heap.size]? = some (.cells #[.int .i64 y.f0, .bool y.f1, .string y.f2] 71 (0, 0))) := ⟨(hb1.block _ (by simp)).trans (heap_alloc_new w _)⟩
    have HW1 : Aside0 (But w w1 (fun k => k = g ∨ some k = (Value.slice A0 ts.length c0).ownBlock)) := ⟨But.trans (But.of_below ((below_alloc (Below.refl _ _) _).drew) _) (But.of_below hb1 _)⟩
    have HM1 : Aside0 (MakerAt w1 base g ts cs x (.slice A0 ts.length c0) v2) := ⟨(HM.out.below (below_alloc (Below.refl _ _) _).drew).below hb1⟩
    clear HM hb1
    go_wp2_with fail
    refine start_ (n := 13) (S := fun w' => w'.cell? ⟨g, 0, none⟩ = some (.slice A0 ts.length c0) ∧ w'.cell? ⟨w.heap.size, 0, none⟩ = some (.int .i64 y.f0) ∧ w'.cell? ⟨w.heap.size, 1, none⟩ = some (.bool y.f1) ∧ w'.cell? ⟨w.heap.size, 2, none⟩ = some (.string y.f2)) (ds := [12]) #[false, false, false, false, false, false, false, false, false, false, false, false, false] (by kernel_rfl) rfl rfl ⟨(blk_cell HM1.out.blk 0).trans rfl, (blk_cell HX1.out 0).trans rfl, (blk_cell HX1.out 1).trans rfl, (blk_cell HX1.out 2).trans rfl⟩ (fun hHeld => ?_)
    replace HM1 := Aside0.mk (HM1.out.below (below_drew (Below.refl _ _)))
    replace HX1 := Aside0.mk (show w1.drew.heap[w.heap.size]? = _ from HX1.out)
    replace HW1 := Aside0.mk (But.trans HW1.out (But.of_below (below_drew (Below.refl _ _)) _))
    generalize w1.drew = w2 at HM1 HX1 HW1 hHeld ⊢
    refine pure_ (i := 0) (N := (some 21)) (v := ?_) (a' := ?_) #[true, false, false, false, false, false, false, false, false, false, false, false, false] rfl rfl (by kernel_rfl) (fun _ _ _ h => h) (Or.inl ⟨by rfl, ?_⟩) ?_ ?_
    rotate_left
    · intro w'
      go_simp
      with_reducible rfl
    rotate_left
    · simp only [Act.put, List.setIfInBounds_toArray, List.set_cons_zero, List.set_cons_succ, i64_w, i32_w]
      rfl
    refine pure_ (i := 1) (N := (some 22)) (v := ?_) (a' := ?_) #[true, true, false, false, false, false, false, false, false, false, false, false, false] rfl rfl (by kernel_rfl) (fun _ _ _ h => h) (Or.inl ⟨by rfl, ?_⟩) ?_ ?_
    rotate_left
    · intro w'
      go_simp
      with_reducible rfl
    rotate_left
    · simp only [Act.put, List.setIfInBounds_toArray, List.set_cons_zero, List.set_cons_succ, i64_w, i32_w]
      rfl
    refine pure_ (i := 2) (N := (some 23)) (v := ?_) (a' := ?_) #[true, true, true, false, false, false, false, false, false, false, false, false, false] rfl rfl (by kernel_rfl) (fun _ _ _ h => h) (Or.inl ⟨by rfl, ?_⟩) ?_ ?_
    rotate_left
    · intro w'
      go_simp
      with_reducible rfl
    rotate_left
    · simp only [Act.put, List.setIfInBounds_toArray, List.set_cons_zero, List.set_cons_succ, i64_w, i32_w]
      rfl
    refine pure_ (i := 3) (N := (some 24)) (v := ?_) (a' := ?_) #[true, true, true, true, false, false, false, false, false, false, false, false, false] rfl rfl (by kernel_rfl) (fun _ _ _ h => h) (Or.inl ⟨by rfl, ?_⟩) ?_ ?_
    rotate_left
    · intro w'
      go_simp
      with_reducible rfl
    rotate_left
    · simp only [Act.put, List.setIfInBounds_toArray, List.set_cons_zero, List.set_cons_succ, i64_w, i32_w]
      rfl
    refine pure_ (i := 4) (N := (some 25)) (v := ?_) (a' := ?_) #[true, true, true, true, true, false, false, false, false, false, false, false, false] rfl rfl (by kernel_rfl) (fun _ _ _ h => h) (Or.inl ⟨by rfl, ?_⟩) ?_ ?_
    rotate_left
    · intro w'
      go_simp
      with_reducible rfl
    rotate_left
    · simp only [Act.put, List.setIfInBounds_toArray, List.set_cons_zero, List.set_cons_succ, i64_w, i32_w]
      rfl
    refine take_ (i := 5) (N := (some 26)) (v := ?_) (a' := ?_) #[true, true, true, true, true, true, false, false, false, false, false, false, false] rfl rfl (by kernel_rfl) (fun _ _ _ h => h) (Or.inl ⟨by rfl, ?_⟩) hHeld ?_ ?_
    rotate_left
    · rintro w' ⟨s0, s1, s2, s3⟩
      go_simp
      with_reducible rfl
    rotate_left
    · simp only [Act.put, List.setIfInBounds_toArray, List.set_cons_zero, List.set_cons_succ, i64_w, i32_w]
      rfl
    refine take_ (i := 6) (N := (some 27)) (v := ?_) (a' := ?_) #[true, true, true, true, true, true, true, false, false, false, false, false, false] rfl rfl (by kernel_rfl) (fun _ _ _ h => h) (Or.inl ⟨by rfl, ?_⟩) hHeld ?_ ?_
    rotate_left
    · rintro w' ⟨s0, s1, s2, s3⟩
      go_simp
      with_reducible rfl
    rotate_left
    · simp only [Act.put, List.setIfInBounds_toArray, List.set_cons_zero, List.set_cons_succ, i64_w, i32_w]
      rfl
    refine one_ (i := 7) (N := (some 28)) #[true, true, true, true, true, true, true, true, false, false, false, false, false] rfl rfl (by kernel_rfl) (by decide) (fun K hK => ?_)
    have hg2 := (Array.getElem?_eq_some_iff.1 HM1.out.blk).1
    have hx2 := (Array.getElem?_eq_some_iff.1 HX1.out).1
    refine value_ (w1 := w2.alloc (Obj.cells #[.int .i64 y.f0, .bool y.f1, .string y.f2] 71)) (v := .slice (some ⟨w2.heap.size, 0, none⟩) 1 1) (by rfl) rfl ?run ?h
    case run =>
      go_simp
    have hb := below_alloc (Below.refl w2.heap.size w2) (Obj.cells #[.int .i64 y.f0, .bool y.f1, .string y.f2] 71)
    refine hK.out _ _ ⟨(hb.cell (p := ⟨g, 0, none⟩) (by first | exact hg2 | exact Nat.lt_of_lt_of_le hg2 (by simp))).trans hHeld.1, (hb.cell (p := ⟨w.heap.size, 0, none⟩) hx2).trans hHeld.2.1, (hb.cell (p := ⟨w.heap.size, 1, none⟩) hx2).trans hHeld.2.2.1, (hb.cell (p := ⟨w.heap.size, 2, none⟩) hx2).trans hHeld.2.2.2⟩ (fun hHeld => ?_)
    clear hK K
    refine one_ (i := 8) (N := (some 29)) #[true, true, true, true, true, true, true, true, true, false, false, false, false] rfl rfl (by kernel_rfl) (by decide) (fun K hK => ?_)
    refine Kd.R_append_step k71 (w0 := w2) base (by rfl) (.tmp 26) (.tmp 28) 41 71 (.agg #[(.int .i64 0), (.bool false), (.string ⟨#[]⟩)]) 32 rfl Tryd.underlying41 info71 rfl (by decide) (by omega) (.slice A0 ts.length c0) ts y [.int .i64 y.f0, .bool y.f1, .string y.f2] (fun _ => True) (fun _ => False) rfl rfl ?aP (fun _ hk => hk.elim) ?aF ?aO ?aB ?aS ?aL ?_
    case aP => exact k71_mkM _ _ _ y
    case aF => exact fun _ _ => trivial
    case aO => exact HM1.out.rt
    case aB => exact Below.refl _ _
    case aS => omega
    case aL => omega
    intro v1 w3 ho hb3 hg3 hat
    obtain ⟨A1, c1, hv1⟩ := Kd.R_slice ho
    subst hv1
    have hgne : some g ≠ (Value.slice A0 ts.length c0).ownBlock := Kd.R_ne HM1.out.rt HM1.out.blk (by decide)
    have hxne : some w.heap.size ≠ (Value.slice A0 ts.length c0).ownBlock := fun e => by have := hlt0 _ e.symm; omega
    have hbg := (hg3.block g hg2 hgne).trans HM1.out.blk
    have hbx := (hg3.block w.heap.size hx2 hxne).trans HX1.out
    refine (show K (Act.put _ (some 29) _) _ from hK.out _ _ ⟨(blk_cell hbg 0).trans rfl, (blk_cell hbx 0).trans rfl, (blk_cell hbx 1).trans rfl, (blk_cell hbx 2).trans rfl⟩ (fun hHeld => ?_))
    refine norm_ (a' := ?_) ?na ?nh
    rotate_left
    · simp only [Act.put, List.setIfInBounds_toArray, List.set_cons_zero, List.set_cons_succ, i64_w, i32_w]
      rfl
    clear hK K
    refine pure_ (i := 9) (N := (some 30)) (v := ?_) (a' := ?_) #[true, true, true, true, true, true, true, true, true, true, false, false, false] rfl rfl (by kernel_rfl) (fun _ _ _ h => h) (Or.inl ⟨by rfl, ?_⟩) ?_ ?_
    rotate_left
    · intro w'
      go_simp
      with_reducible rfl
    rotate_left
    · simp only [Act.put, List.setIfInBounds_toArray, List.set_cons_zero, List.set_cons_succ, i64_w, i32_w]
      rfl
    refine pure_ (i := 10) (N := (some 31)) (v := ?_) (a' := ?_) #[true, true, true, true, true, true, true, true, true, true, true, false, false] rfl rfl (by kernel_rfl) (fun _ _ _ h => h) (Or.inl ⟨by rfl, ?_⟩) ?_ ?_
    rotate_left
    · intro w'
      go_simp
      with_reducible rfl
    rotate_left
    · simp only [Act.put, List.setIfInBounds_toArray, List.set_cons_zero, List.set_cons_succ, i64_w, i32_w]
      rfl
    refine pure_ (i := 11) (N := (some 32)) (v := ?_) (a' := ?_) #[true, true, true, true, true, true, true, true, true, true, true, true, false] rfl rfl (by kernel_rfl) (fun _ _ _ h => h) (Or.inl ⟨by rfl, ?_⟩) ?_ ?_
    rotate_left
    · intro w'
      go_simp
      with_reducible rfl
    rotate_left
    · simp only [Act.put, List.setIfInBounds_toArray, List.set_cons_zero, List.set_cons_succ, i64_w, i32_w]
      rfl
    refine last_ (i := 12) (N := none) #[true, true, true, true, true, true, true, true, true, true, true, true, true] rfl rfl (by kernel_rfl) (by decide) (fun K hK => ?_)
    have hs := (blk_cell hbg 0).trans (rfl : _ = some (Value.slice A0 ts.length c0))
    have hf := blk_frozen hbg 0
    refine skip_ (w1 := w3.setCell ⟨g, 0, none⟩ (.slice A1 (ts ++ [y]).length c1)) (by rfl) rfl ?run12 ?h12
    case run12 =>
      go_simp
    refine hK.out _ _ ?_
    clear hK K
    refine done_ (by kernel_rfl) ?_
    go_wp2
    go_ret
    have hidx : makerIdx ts y = (ts.length : Int) := if_pos hi
    have hts : makerTs ts y = ts ++ [y] := if_pos hi
    rw [hidx, hts]
    refine ⟨.slice A1 (ts ++ [y]).length c1, rfl, ⟨blk_put hbg 0 _ rfl, HM1.out.ge, Kd.R_set ho hbg (by decide) 0 _, ?_⟩, (HW1.out.trans (But.grown hg3 (fun k e => .inr e))).trans (But.setCell _ _ _ (.inl rfl))⟩
    refine R_flat flatC HM1.out.rc (fun k hk => ?_)
    have hne := rows_ne HM1.out.rc HM1.out.rt (by decide) k hk
    obtain ⟨_, ho2⟩ := Kd.R_own HM1.out.rc
    refine (Below.heap_setCell _ _ _ _ (fun e => ?_)).trans (hg3.block k (own_lt ho2 k hk) hne)
    have h2 := Kd.R_ne HM1.out.rc HM1.out.blk (by decide)
    exact h2 (by rw [hk, e])
  · go_enter Tryd.func53, Tryd.ntmps53
    go_wp2_with fail
    go_region_held3 (fun w' => w'.cell? ⟨g, 0, none⟩ = some (.slice A0 ts.length c0) ∧ w'.cell? ⟨w.heap.size, 0, none⟩ = some (.int .i64 y.f0) ∧ w'.cell? ⟨w.heap.size, 1, none⟩ = some (.bool y.f1) ∧ w'.cell? ⟨w.heap.size, 2, none⟩ = some (.string y.f2)) (first | go_keep | (go_split_ands; (refine ⟨?_, ?_, ?_, ?_⟩ <;> first | (rw [hb1.cell (by first | (simp; done) | (simp; omega))]; done) | (rw [hb1.cell (by first | (simp; done) | (simp; omega))]; assumption)))) ((go_at_call 67; refine (slices_Index_Type.calls (ts.length + 1) _ _ ts y.f0 y.f1 y.f2 _ _ ?hr HC.out HF.out).mono ?_; (case hr => exact Kd.C_below HR.out (by exact (below_alloc (Below.refl _ _) _).drew)); rintro e w1 ⟨rfl, hb1⟩))
    have HW1 : Aside0 (But w w1 (fun k => k = g ∨ some k = (Value.slice A0 ts.length c0).ownBlock)) := ⟨But.trans (But.of_below ((below_alloc (Below.refl _ _) _).drew) _) (But.of_below hb1 _)⟩
    have HM1 : Aside0 (MakerAt w1 base g ts cs x (.slice A0 ts.length c0) v2) := ⟨(HM.out.below (below_alloc (Below.refl _ _) _).drew).below hb1⟩
    clear HM hb1
    go_wp2
    go_ret
    have hidx : makerIdx ts y = tyIdx ts y ts.length := if_neg (by omega)
    have hts : makerTs ts y = ts := if_neg (by omega)
    rw [hidx, hts]
    exact ⟨_, rfl, HM1.out, HW1.out⟩
def makerTs' (ts : List S71) (x y : S71) : List S71 := if tyEq y x = true then ts else makerTs ts y
def makerCs' (ts : List S71) (cs : List S65) (x : S71) (at_ : Int) (y : S71) : List S65 := if tyEq y x = true then cs else cs ++ [⟨at_, makerIdx ts y⟩]
def makerX' (x y : S71) : S71 := if tyEq y x = true then x else y
attribute [local go_sem high] eqA71
set_option maxHeartbeats 4000000 in
set_option maxRecDepth 100000 in
theorem maker_Change (g : Nat) (ts : List S71) (cs : List S65) (x y : S71) (at_ : Int) (v0 v2 : Value) (base : Nat) (w : World) (hM : MakerAt w base g ts cs x v0 v2) (hbase : base ≤ w.heap.size) (hlen : ts.length < 4398046511104) (hlen2 : cs.length < 4398046511104) :
    Calls Tryd.prog 33 #[.pointer (some ⟨g, 0, none⟩), .int .i64 at_, .agg #[.int .i64 y.f0, .bool y.f1, .string y.f2]] w fun e w' => ∃ v0' v2' : Value, e = .returned (.tuple #[]) ∧ MakerAt w' base g (makerTs' ts x y) (makerCs' ts cs x at_ y) (makerX' x y) v0' v2' ∧ But w w' (fun k => k = g ∨ some k = v0.ownBlock ∨ some k = v2.ownBlock) := by
  have hu := Tryd.underlying71
  obtain ⟨A2, c2, hv2, _, _⟩ := Kd.R_reads hM.rc
  have hg := (Array.getElem?_eq_some_iff.1 hM.blk).1
  have hg3 : w.cell? ⟨g, 3, none⟩ = some (.int .i64 x.f0) := (blk_cell hM.blk 3).trans rfl
  have hg4 : w.cell? ⟨g, 4, none⟩ = some (.bool x.f1) := (blk_cell hM.blk 4).trans rfl
  have hg5 : w.cell? ⟨g, 5, none⟩ = some (.string x.f2) := (blk_cell hM.blk 5).trans rfl
  have hlt0 : ∀ k, v0.ownBlock = some k → k < w.heap.size := by
    obtain ⟨_, ho⟩ := Kd.R_own hM.rt
    exact own_lt ho
  have hlt2 : ∀ k, v2.ownBlock = some k → k < w.heap.size := by
    obtain ⟨_, ho⟩ := Kd.R_own hM.rc
    exact own_lt ho
  have HM := Aside0.mk hM
  clear hM
  subst hv2
  by_cases hi : tyEq y x = true
  · have HI := Aside0.mk hi
    have hb : (y.f0 == x.f0 && (y.f1 == x.f1 && (y.f2.toList == x.f2.toList))) = true := hi
    clear hi
    go_enter Tryd.func33, Tryd.ntmps33
    go_wp2_with fail
    go_quiet (fail)
    go_wp2
    go_end0
    have h1 : makerTs' ts x y = ts := if_pos HI.out
    have h2 : makerCs' ts cs x at_ y = cs := if_pos HI.out
    have h3 : makerX' x y = x := if_pos HI.out
    rw [h1, h2, h3]
    have hb1 : Below w.heap.size w ((w.alloc (Obj.cells #[Value.int IntKind.i64 y.f0, Value.bool y.f1, Value.string y.f2] 71)).drewN nq) := pw_below_drewN (below_alloc (Below.refl _ _) _) nq
    exact ⟨_, _, rfl, HM.out.below hb1, But.of_below hb1 _⟩
  · have HI := Aside0.mk hi
    have hb : (y.f0 == x.f0 && (y.f1 == x.f1 && (y.f2.toList == x.f2.toList))) = false := by
      have := Bool.eq_false_iff.2 hi
      exact this
    clear hi
    go_enter Tryd.func33, Tryd.ntmps33
    go_wp2_with fail
    go_quiet (fail)
    go_wp2_with fail
    have hb1 : Below w.heap.size w ((w.alloc (Obj.cells #[Value.int IntKind.i64 y.f0, Value.bool y.f1, Value.string y.f2] 71)).drewN nq) := pw_below_drewN (below_alloc (Below.refl _ _) _) nq
    have HM1 := Aside0.mk (HM.out.below hb1)
    have HX1 : Aside0 (((w.alloc (Obj.cells #[Value.int IntKind.i64 y.f0, Value.bool y.f1, Value.string y.f2] 71)).drewN nq).heap[w.heap.size]? = some (.cells #[.int .i64 y.f0, .bool y.f1, .string y.f2] 71 (0, 0))) := ⟨heap_alloc_new w _⟩
    have HW1 : Aside0 (But w ((w.alloc (Obj.cells #[Value.int IntKind.i64 y.f0, Value.bool y.f1, Value.string y.f2] 71)).drewN nq) (fun k => k = g ∨ some k = v0.ownBlock ∨ some k = (Value.slice A2 cs.length c2).ownBlock)) := ⟨But.of_below hb1 _⟩
    have HS1 := Aside0.mk hb1.size
    clear hb1 HM hg3 hg4 hg5
    generalize (w.alloc (Obj.cells #[Value.int IntKind.i64 y.f0, Value.bool y.f1, Value.string y.f2] 71)).drewN nq = w1 at HM1 HX1 HW1 HS1 ⊢
    refine start_ (n := 17) (S := fun w' => w'.cell? ⟨g, 2, none⟩ = some (.slice A2 cs.length c2) ∧ w'.cell? ⟨w.heap.size, 0, none⟩ = some (.int .i64 y.f0) ∧ w'.cell? ⟨w.heap.size, 1, none⟩ = some (.bool y.f1) ∧ w'.cell? ⟨w.heap.size, 2, none⟩ = some (.string y.f2)) (ds := [16]) #[false, false, false, false, false, false, false, false, false, false, false, false, false, false, false, false, false] (by kernel_rfl) rfl rfl ⟨(blk_cell HM1.out.blk 2).trans rfl, (blk_cell HX1.out 0).trans rfl, (blk_cell HX1.out 1).trans rfl, (blk_cell HX1.out 2).trans rfl⟩ (fun hHeld => ?_)
    replace HM1 := Aside0.mk (HM1.out.below (below_drew (Below.refl _ _)))
    replace HX1 := Aside0.mk (show w1.drew.heap[w.heap.size]? = _ from HX1.out)
    replace HW1 := Aside0.mk (But.trans HW1.out (But.of_below (below_drew (Below.refl _ _)) _))
    replace HS1 := Aside0.mk (show w.heap.size ≤ w1.drew.heap.size from HS1.out)
    generalize w1.drew = w2 at HM1 HX1 HW1 HS1 hHeld ⊢
    refine pure_ (i := 0) (N := (some 12)) (v := ?_) (a' := ?_) #[true, false, false, false, false, false, false, false, false, false, false, false, false, false, false, false, false] rfl rfl (by kernel_rfl) (fun _ _ _ h => h) (Or.inl ⟨by rfl, ?_⟩) ?_ ?_
    rotate_left
    · intro w'
      go_simp
      with_reducible rfl
    rotate_left
    · simp only [Act.put, List.setIfInBounds_toArray, List.set_cons_zero, List.set_cons_succ, i64_w, i32_w]
      rfl
    refine pure_ (i := 1) (N := (some 13)) (v := ?_) (a' := ?_) #[true, true, false, false, false, false, false, false, false, false, false, false, false, false, false, false, false] rfl rfl (by kernel_rfl) (fun _ _ _ h => h) (Or.inl ⟨by rfl, ?_⟩) ?_ ?_
    rotate_left
    · intro w'
      go_simp
      with_reducible rfl
    rotate_left
    · simp only [Act.put, List.setIfInBounds_toArray, List.set_cons_zero, List.set_cons_succ, i64_w, i32_w]
      rfl
    refine pure_ (i := 2) (N := (some 14)) (v := ?_) (a' := ?_) #[true, true, true, false, false, false, false, false, false, false, false, false, false, false, false, false, false] rfl rfl (by kernel_rfl) (fun _ _ _ h => h) (Or.inl ⟨by rfl, ?_⟩) ?_ ?_
    rotate_left
    · intro w'
      go_simp
      with_reducible rfl
    rotate_left
    · simp only [Act.put, List.setIfInBounds_toArray, List.set_cons_zero, List.set_cons_succ, i64_w, i32_w]
      rfl
    refine pure_ (i := 3) (N := (some 15)) (v := ?_) (a' := ?_) #[true, true, true, true, false, false, false, false, false, false, false, false, false, false, false, false, false] rfl rfl (by kernel_rfl) (fun _ _ _ h => h) (Or.inl ⟨by rfl, ?_⟩) ?_ ?_
    rotate_left
    · intro w'
      go_simp
      with_reducible rfl
    rotate_left
    · simp only [Act.put, List.setIfInBounds_toArray, List.set_cons_zero, List.set_cons_succ, i64_w, i32_w]
      rfl
    refine pure_ (i := 4) (N := (some 16)) (v := ?_) (a' := ?_) #[true, true, true, true, true, false, false, false, false, false, false, false, false, false, false, false, false] rfl rfl (by kernel_rfl) (fun _ _ _ h => h) (Or.inl ⟨by rfl, ?_⟩) ?_ ?_
    rotate_left
    · intro w'
      go_simp
      with_reducible rfl
    rotate_left
    · simp only [Act.put, List.setIfInBounds_toArray, List.set_cons_zero, List.set_cons_succ, i64_w, i32_w]
      rfl
    refine take_ (i := 5) (N := (some 17)) (v := ?_) (a' := ?_) #[true, true, true, true, true, true, false, false, false, false, false, false, false, false, false, false, false] rfl rfl (by kernel_rfl) (fun _ _ _ h => h) (Or.inl ⟨by rfl, ?_⟩) hHeld ?_ ?_
    rotate_left
    · rintro w' ⟨s0, s1, s2, s3⟩
      go_simp
      with_reducible rfl
    rotate_left
    · simp only [Act.put, List.setIfInBounds_toArray, List.set_cons_zero, List.set_cons_succ, i64_w, i32_w]
      rfl
    refine pure_ (i := 6) (N := (some 18)) (v := ?_) (a' := ?_) #[true, true, true, true, true, true, true, false, false, false, false, false, false, false, false, false, false] rfl rfl (by kernel_rfl) (fun _ _ _ h => h) (Or.inl ⟨by rfl, ?_⟩) ?_ ?_
    rotate_left
    · intro w'
      go_simp
      with_reducible rfl
    rotate_left
    · simp only [Act.put, List.setIfInBounds_toArray, List.set_cons_zero, List.set_cons_succ, i64_w, i32_w]
      rfl
    refine pure_ (i := 7) (N := (some 19)) (v := ?_) (a' := ?_) #[true, true, true, true, true, true, true, true, false, false, false, false, false, false, false, false, false] rfl rfl (by kernel_rfl) (fun _ _ _ h => h) (Or.inl ⟨by rfl, ?_⟩) ?_ ?_
    rotate_left
    · intro w'
      go_simp
      with_reducible rfl
    rotate_left
    · simp only [Act.put, List.setIfInBounds_toArray, List.set_cons_zero, List.set_cons_succ, i64_w, i32_w]
      rfl
    refine take_ (i := 8) (N := (some 20)) (v := ?_) (a' := ?_) #[true, true, true, true, true, true, true, true, true, false, false, false, false, false, false, false, false] rfl rfl (by kernel_rfl) (fun _ _ _ h => h) (Or.inl ⟨by rfl, ?_⟩) hHeld ?_ ?_
    rotate_left
    · rintro w' ⟨s0, s1, s2, s3⟩
      go_simp
      with_reducible rfl
    rotate_left
    · simp only [Act.put, List.setIfInBounds_toArray, List.set_cons_zero, List.set_cons_succ, i64_w, i32_w]
      rfl
    refine one_ (i := 9) (N := (some 21)) #[true, true, true, true, true, true, true, true, true, true, false, false, false, false, false, false, false] rfl rfl (by kernel_rfl) (by decide) (fun K hK => ?_)
    refine goes_ Tryd.func53 (by kernel_rfl) rfl #[.pointer (some ⟨g, 0, none⟩), .agg #[.int .i64 y.f0, .bool y.f1, .string y.f2]] (by rfl) rfl rfl (by (try simp only [List.map_toArray, List.map_cons, List.map_nil]); first | done | rfl) ?_
    refine (maker_number g ts cs x y v0 (.slice A2 cs.length c2) base w2 HM1.out (Nat.le_trans hbase HS1.out) hlen).mono ?_
    rintro e w3 ⟨v0', rfl, hM3, hB3⟩
    refine ⟨_, rfl, ?_⟩
    have hx2 := (Array.getElem?_eq_some_iff.1 HX1.out).1
    have hxb : ¬ (w.heap.size = g ∨ some w.heap.size = v0.ownBlock) := by
      rintro (e | e)
      · omega
      · have := hlt0 _ e.symm
        omega
    have HX3 := Aside0.mk ((hB3.block w.heap.size hx2 hxb).trans HX1.out)
    have HW3 := Aside0.mk (HW1.out.trans (But.mono hB3 (fun k h => Or.elim h (fun e => Or.inl e) (fun e => Or.inr (Or.inl e)))))
    have HM3 := Aside0.mk hM3
    have HS3 := Aside0.mk (Nat.le_trans HS1.out hB3.size)
    refine hK.out _ _ ⟨(blk_cell HM3.out.blk 2).trans rfl, (blk_cell HX3.out 0).trans rfl, (blk_cell HX3.out 1).trans rfl, (blk_cell HX3.out 2).trans rfl⟩ (fun hHeld => ?_)
    clear hK K hM3 hB3 HM1 HX1 HW1
    refine pure_ (i := 10) (N := (some 22)) (v := ?_) (a' := ?_) #[true, true, true, true, true, true, true, true, true, true, true, false, false, false, false, false, false] rfl rfl (by kernel_rfl) (fun _ _ _ h => h) (Or.inl ⟨by rfl, ?_⟩) ?_ ?_
    rotate_left
    · intro w'
      go_simp
      with_reducible rfl
    rotate_left
    · simp only [Act.put, List.setIfInBounds_toArray, List.set_cons_zero, List.set_cons_succ, i64_w, i32_w]
      rfl
    refine one_ (i := 11) (N := (some 23)) #[true, true, true, true, true, true, true, true, true, true, true, true, false, false, false, false, false] rfl rfl (by kernel_rfl) (by decide) (fun K hK => ?_)
    have hg2 := (Array.getElem?_eq_some_iff.1 HM3.out.blk).1
    have hx3 := (Array.getElem?_eq_some_iff.1 HX3.out).1
    refine value_ (w1 := w3.alloc (Obj.cells #[.int .i64 at_, .int .i64 (makerIdx ts y)] 65)) (v := .slice (some ⟨w3.heap.size, 0, none⟩) 1 1) (by rfl) rfl ?run11 ?h11
    case run11 =>
      go_simp
    have hb := below_alloc (Below.refl w3.heap.size w3) (Obj.cells #[.int .i64 at_, .int .i64 (makerIdx ts y)] 65)
    refine hK.out _ _ ⟨(hb.cell (p := ⟨g, 2, none⟩) hg2).trans hHeld.1, (hb.cell (p := ⟨w.heap.size, 0, none⟩) hx3).trans hHeld.2.1, (hb.cell (p := ⟨w.heap.size, 1, none⟩) hx3).trans hHeld.2.2.1, (hb.cell (p := ⟨w.heap.size, 2, none⟩) hx3).trans hHeld.2.2.2⟩ (fun hHeld => ?_)
    clear hK K
    refine one_ (i := 12) (N := (some 24)) #[true, true, true, true, true, true, true, true, true, true, true, true, true, false, false, false, false] rfl rfl (by kernel_rfl) (by decide) (fun K hK => ?_)
    refine Kd.R_append_step k65 (w0 := w3) base (by rfl) (.tmp 17) (.tmp 23) 42 65 (.agg #[(.int .i64 0), (.int .i64 0)]) 16 rfl Tryd.underlying42 info65 rfl (by decide) (by omega) (.slice A2 cs.length c2) cs (⟨at_, makerIdx ts y⟩ : S65) [.int .i64 at_, .int .i64 (makerIdx ts y)] (fun _ => True) (fun _ => False) rfl rfl ?aP (fun _ hk => hk.elim) ?aF ?aO ?aB ?aS ?aL ?_
    case aP => exact k65_mkM _ _ _ (⟨at_, makerIdx ts y⟩ : S65)
    case aF => exact fun _ _ => trivial
    case aO => exact HM3.out.rc
    case aB => exact Below.refl _ _
    case aS => exact Nat.le_trans hbase HS3.out
    case aL => omega
    intro v4 w4 ho hb4 hg4 hat
    obtain ⟨A4, c4, hv4⟩ := Kd.R_slice ho
    subst hv4
    have hgne : some g ≠ (Value.slice A2 cs.length c2).ownBlock := Kd.R_ne HM3.out.rc HM3.out.blk (by decide)
    have hxne : some w.heap.size ≠ (Value.slice A2 cs.length c2).ownBlock := fun e => by have := hlt2 _ e.symm; omega
    have hbg := (hg4.block g hg2 hgne).trans HM3.out.blk
    have hbx := (hg4.block w.heap.size hx3 hxne).trans HX3.out
    refine (show K (Act.put _ (some 24) _) _ from hK.out _ _ ⟨(blk_cell hbg 2).trans rfl, (blk_cell hbx 0).trans rfl, (blk_cell hbx 1).trans rfl, (blk_cell hbx 2).trans rfl⟩ (fun hHeld => ?_))
    refine norm_ (a' := ?_) ?na12 ?nh12
    rotate_left
    · simp only [Act.put, List.setIfInBounds_toArray, List.set_cons_zero, List.set_cons_succ, i64_w, i32_w]
      rfl
    clear hK K
    refine pure_ (i := 13) (N := (some 25)) (v := ?_) (a' := ?_) #[true, true, true, true, true, true, true, true, true, true, true, true, true, true, false, false, false] rfl rfl (by kernel_rfl) (fun _ _ _ h => h) (Or.inl ⟨by rfl, ?_⟩) ?_ ?_
    rotate_left
    · intro w'
      go_simp
      with_reducible rfl
    rotate_left
    · simp only [Act.put, List.setIfInBounds_toArray, List.set_cons_zero, List.set_cons_succ, i64_w, i32_w]
      rfl
    refine pure_ (i := 14) (N := (some 26)) (v := ?_) (a' := ?_) #[true, true, true, true, true, true, true, true, true, true, true, true, true, true, true, false, false] rfl rfl (by kernel_rfl) (fun _ _ _ h => h) (Or.inl ⟨by rfl, ?_⟩) ?_ ?_
    rotate_left
    · intro w'
      go_simp
      with_reducible rfl
    rotate_left
    · simp only [Act.put, List.setIfInBounds_toArray, List.set_cons_zero, List.set_cons_succ, i64_w, i32_w]
      rfl
    refine pure_ (i := 15) (N := (some 27)) (v := ?_) (a' := ?_) #[true, true, true, true, true, true, true, true, true, true, true, true, true, true, true, true, false] rfl rfl (by kernel_rfl) (fun _ _ _ h => h) (Or.inl ⟨by rfl, ?_⟩) ?_ ?_
    rotate_left
    · intro w'
      go_simp
      with_reducible rfl
    rotate_left
    · simp only [Act.put, List.setIfInBounds_toArray, List.set_cons_zero, List.set_cons_succ, i64_w, i32_w]
      rfl
    refine last_ (i := 16) (N := none) #[true, true, true, true, true, true, true, true, true, true, true, true, true, true, true, true, true] rfl rfl (by kernel_rfl) (by decide) (fun K hK => ?_)
    have hs := (blk_cell hbg 2).trans (rfl : _ = some (Value.slice A2 cs.length c2))
    have hf := blk_frozen hbg 2
    refine skip_ (w1 := w4.setCell ⟨g, 2, none⟩ (.slice A4 (cs ++ [(⟨at_, makerIdx ts y⟩ : S65)]).length c4)) (by rfl) rfl ?run16 ?h16
    case run16 =>
      go_simp
    refine hK.out _ _ ?_
    clear hK K
    refine done_ (by kernel_rfl) ?_
    have hB4 := But.trans HW3.out (But.mono (But.grown (bad := fun k => some k = (Value.slice A2 cs.length c2).ownBlock) hg4 (fun k e => e)) (fun k e => .inr (.inr e)))
    have hbg5 := blk_put hbg 2 (Value.slice A4 (cs ++ [(⟨at_, makerIdx ts y⟩ : S65)]).length c4) rfl
    have hbx5 := blk_far hbx (p := ⟨g, 2, none⟩) (by show w.heap.size ≠ g; omega) (Value.slice A4 (cs ++ [(⟨at_, makerIdx ts y⟩ : S65)]).length c4)
    have hB5 := hB4.trans (But.setCell w4 ⟨g, 2, none⟩ (Value.slice A4 (cs ++ [(⟨at_, makerIdx ts y⟩ : S65)]).length c4) (.inl rfl))
    have hM5 : MakerAt (w4.setCell ⟨g, 2, none⟩ (Value.slice A4 (cs ++ [(⟨at_, makerIdx ts y⟩ : S65)]).length c4)) base g (makerTs ts y) (cs ++ [⟨at_, makerIdx ts y⟩]) x v0' (.slice A4 (cs ++ [(⟨at_, makerIdx ts y⟩ : S65)]).length c4) := by
      refine ⟨hbg5, HM3.out.ge, ?_, Kd.R_set ho hbg (by decide) 2 _⟩
      refine R_flat flatT HM3.out.rt (fun k hk => ?_)
      have hne := rows_ne HM3.out.rt HM3.out.rc (by decide) k hk
      obtain ⟨_, ho2⟩ := Kd.R_own HM3.out.rt
      refine (Below.heap_setCell _ _ _ _ (fun e => ?_)).trans (hg4.block k (own_lt ho2 k hk) hne)
      have h2 := Kd.R_ne HM3.out.rt HM3.out.blk (by decide)
      exact h2 (by rw [hk, e])
    have HM5 := Aside0.mk hM5
    have HB5 := Aside0.mk hB5
    have HX5 := Aside0.mk hbx5
    clear hM5 hB5 hbx5 hbg5 hB4 ho hg4 hbg hbx hs hf HM3 HX3 HW3 hb4 hat hHeld hb
    generalize w4.setCell ⟨g, 2, none⟩ (Value.slice A4 (cs ++ [(⟨at_, makerIdx ts y⟩ : S65)]).length c4) = w5 at HM5 HB5 HX5 ⊢
    have q3 : w5.cell? ⟨g, 3, none⟩ = some (.int .i64 x.f0) := (blk_cell HM5.out.blk 3).trans rfl
    have q4 : w5.cell? ⟨g, 4, none⟩ = some (.bool x.f1) := (blk_cell HM5.out.blk 4).trans rfl
    have q5 : w5.cell? ⟨g, 5, none⟩ = some (.string x.f2) := (blk_cell HM5.out.blk 5).trans rfl
    have f3 := blk_frozen HM5.out.blk 3
    have f4 := blk_frozen HM5.out.blk 4
    have f5 := blk_frozen HM5.out.blk 5
    have b0 : w5.cell? ⟨w.heap.size, 0, none⟩ = some (.int .i64 y.f0) := (blk_cell HX5.out 0).trans rfl
    have b1 : w5.cell? ⟨w.heap.size, 1, none⟩ = some (.bool y.f1) := (blk_cell HX5.out 1).trans rfl
    have b2 : w5.cell? ⟨w.heap.size, 2, none⟩ = some (.string y.f2) := (blk_cell HX5.out 2).trans rfl
    go_wp2
    go_end0
    have h1 : makerTs' ts x y = makerTs ts y := if_neg HI.out
    have h2 : makerCs' ts cs x at_ y = cs ++ [⟨at_, makerIdx ts y⟩] := if_neg HI.out
    have h3 : makerX' x y = y := if_neg HI.out
    rw [h1, h2, h3]
    have k3 := blk_put HM5.out.blk 3 (.int .i64 y.f0) rfl
    have k4 := blk_put k3 4 (.bool y.f1) rfl
    have k5 := blk_put k4 5 (.string y.f2) rfl
    refine ⟨_, _, rfl, ⟨k5, HM5.out.ge, ?_, ?_⟩, ((HB5.out.trans (But.setCell _ _ _ (.inl rfl))).trans (But.setCell _ _ _ (.inl rfl))).trans (But.setCell _ _ _ (.inl rfl))⟩
    · exact Kd.R_set (Kd.R_set (Kd.R_set HM5.out.rt HM5.out.blk (by decide) 3 _) k3 (by decide) 4 _) k4 (by decide) 5 _
    · exact Kd.R_set (Kd.R_set (Kd.R_set HM5.out.rc HM5.out.blk (by decide) 3 _) k3 (by decide) 4 _) k4 (by decide) 5 _
structure MakerSt where
  ts : List S71
  cs : List S65
  x : S71
def makerStep (l : List S71) (s : MakerSt) (c : S65) : MakerSt := ⟨makerTs' s.ts s.x (rd_T71 l c.f1), makerCs' s.ts s.cs s.x c.f0 (rd_T71 l c.f1), makerX' s.x (rd_T71 l c.f1)⟩
def makerAll (l : List S71) (a : Int) (cs : List S65) : MakerSt := cs.foldl (makerStep l) ⟨[rd_T71 l a], [], rd_T71 l a⟩
theorem makerTs_len (ts : List S71) (y : S71) : (makerTs ts y).length ≤ ts.length + 1 := by
  unfold makerTs
  split <;> simp
theorem makerStep_len (l : List S71) (s : MakerSt) (c : S65) : (makerStep l s c).ts.length ≤ s.ts.length + 1 ∧ (makerStep l s c).cs.length ≤ s.cs.length + 1 := by
  unfold makerStep makerTs' makerCs'
  have := makerTs_len s.ts (rd_T71 l c.f1)
  constructor
  · dsimp only
    split <;> omega
  · dsimp only
    split <;> simp
theorem makerFold_len (l : List S71) : ∀ (cs : List S65) (s : MakerSt), (cs.foldl (makerStep l) s).ts.length ≤ s.ts.length + cs.length ∧ (cs.foldl (makerStep l) s).cs.length ≤ s.cs.length + cs.length
  | [], s => by simp
  | c :: cs, s => by
    have h1 := makerFold_len l cs (makerStep l s c)
    have h2 := makerStep_len l s c
    simp only [List.foldl_cons, List.length_cons]
    omega
theorem makerAll_len (l : List S71) (a : Int) (cs : List S65) : (makerAll l a cs).ts.length ≤ 1 + cs.length ∧ (makerAll l a cs).cs.length ≤ cs.length := by
  have := makerFold_len l cs ⟨[rd_T71 l a], [], rd_T71 l a⟩
  unfold makerAll
  simp only [List.length_cons, List.length_nil] at this
  omega
theorem makerAll_snoc (l : List S71) (a : Int) (cs : List S65) (k : Nat) (hk : k < cs.length) : makerAll l a (cs.take (k + 1)) = makerStep l (makerAll l a (cs.take k)) (rd_T65 cs (k : Int)) := by
  have e : cs.take (k + 1) = cs.take k ++ [cs[k]] := by rw [List.take_succ_eq_append_getElem hk]
  unfold makerAll
  rw [e, List.foldl_append]
  simp only [List.foldl_cons, List.foldl_nil]
  congr 1
  unfold rd_T65
  simp [List.getD_eq_getElem?_getD, List.getElem?_eq_getElem hk]
def norm_Of.f (l0_0 : List (S71)) (a0_1 : Int) (l0_2 : List (S65)) : Option ((List (S71)) × Int × (List (S65))) :=
  if 0 ≤ a0_1 ∧ a0_1 < l0_0.length ∧ l0_2.length ≤ 4000000000000 ∧ (l0_2.all fun c => decide (0 ≤ c.f1 ∧ c.f1 < l0_0.length)) = true then some ((makerAll l0_0 a0_1 l0_2).ts, 0, (makerAll l0_0 a0_1 l0_2).cs) else none
set_option maxHeartbeats 8000000 in
set_option maxRecDepth 100000 in
theorem norm_Of.calls (A0_0 : Option Addr) (c0_0 : Nat) (l0_0 : List (S71)) (a0_1 : Int) (A0_2 : Option Addr) (c0_2 : Nat) (l0_2 : List (S65)) (r1 : List (S71)) (r2 : Int) (r3 : List (S65)) (w : World) (hr0_0 : Kd.C k71 w A0_0 l0_0.length l0_0) (hc0_0 : l0_0.length ≤ c0_0) (hr0_2 : Kd.C k65 w A0_2 l0_2.length l0_2) (hc0_2 : l0_2.length ≤ c0_2) (h : norm_Of.f l0_0 a0_1 l0_2 = some (r1, r2, r3)) :
    Calls Tryd.prog 18 #[.agg #[.slice A0_0 l0_0.length c0_0, .int .i64 a0_1, .slice A0_2 l0_2.length c0_2]] w fun e w' => ∃ v0_ v2_ : Value, e = .returned (.agg #[v0_, .int .i64 r2, v2_]) ∧ Kd.R k71 71 w' w.heap.size (fun _ => True) v0_ r1 ∧ Kd.R k65 65 w' w.heap.size (fun _ => True) v2_ r3 ∧ Below w.heap.size w w' := by
  have hu44 := Tryd.underlying44
  have hu71 := Tryd.underlying71
  have hu65 := Tryd.underlying65
  unfold norm_Of.f at h
  split at h
  case isFalse => cases h
  case isTrue hh =>
  obtain ⟨h0, h1, hsz, hall⟩ := hh
  obtain ⟨rfl, rfl, rfl⟩ : _ ∧ _ ∧ _ := by simpa only [Option.some.injEq, Prod.mk.injEq] using h
  clear h
  have HALL : Aside0 (∀ i : Int, 0 ≤ i → i < l0_2.length → 0 ≤ (rd_T65 l0_2 i).f1 ∧ (rd_T65 l0_2 i).f1 < l0_0.length) := ⟨fun i hi0 hi1 => by
    have hm : rd_T65 l0_2 i ∈ l0_2 := by
      unfold rd_T65
      rw [List.getD_eq_getElem?_getD, List.getElem?_eq_getElem (show i.toNat < l0_2.length by omega)]
      exact List.getElem_mem _
    simpa using List.all_eq_true.1 hall _ hm⟩
  clear hall
  have HR0 := Aside0.mk hr0_0
  have HR2 := Aside0.mk hr0_2
  obtain ⟨ad, e, hx0, hx1, hx2⟩ := at_T71 hr0_0 a0_1 h0 h1
  cases e
  clear hr0_0 hr0_2
  have hlt := World.block_lt_of_cell? w _ hx0
  go_enter Tryd.func18, Tryd.ntmps18
  go_wp2_with (first | (go_at_call 32; refine (table_Begin.calls (rd_T71 l0_0 a0_1) _).mono ?_; rintro e w1 ⟨g, v0, v2, rfl, hM, hB⟩; have hBX : w1.heap[w.heap.size]? = some (.cells #[.slice (some ad) l0_0.length c0_0, .int .i64 a0_1, .slice A0_2 l0_2.length c0_2] 44 (0, 0)) := (hB.block _ (by simp; omega)).trans (blk_alloc (heap_alloc_new w _) _); have hBR : w1.heap[w.heap.size + 1]? = some (.cells #[.slice none 0 0, .int .i64 0, .slice none 0 0] 44 (0, 0)) := (hB.block _ (by simp)).trans (by simpa using heap_alloc_new (w.alloc (.cells #[.slice (some ad) l0_0.length c0_0, .int .i64 a0_1, .slice A0_2 l0_2.length c0_2] 44)) (.cells #[.slice none 0 0, .int .i64 0, .slice none 0 0] 44)); have q2 : w1.cell? ⟨w.heap.size, 2, none⟩ = some (.slice A0_2 l0_2.length c0_2) := (blk_cell hBX 2).trans rfl; have HBX := Aside0.mk hBX; have HBR := Aside0.mk hBR; have HM := Aside0.mk (show MakerAt w1 (w.heap.size + 1 + 1) g [rd_T71 l0_0 a0_1] [] (rd_T71 l0_0 a0_1) v0 v2 by simpa using hM); have HB : Aside0 (Below w.heap.size w w1) := ⟨below_then (((Below.refl _ _).alloc (Nat.le_refl _) _).alloc (by simp) _) (by simp; omega) hB⟩; have HSZ : Aside0 (w.heap.size + 1 + 1 ≤ w1.heap.size) := ⟨by have := hB.size; simpa using this⟩; clear hM hB hBX hBR))
  clear hx0 hx1 hx2 q2 hlt
  go_loopw [16] (fun i wr => ∃ (k : Nat) (u0 u2 : Value), i = .int .i64 k ∧ k ≤ l0_2.length ∧ Aside0 (MakerAt wr (w.heap.size + 1 + 1) g (makerAll l0_0 a0_1 (l0_2.take k)).ts (makerAll l0_0 a0_1 (l0_2.take k)).cs (makerAll l0_0 a0_1 (l0_2.take k)).x u0 u2) ∧ Aside0 (Below w.heap.size w wr) ∧ Aside0 (w.heap.size + 1 + 1 ≤ wr.heap.size) ∧ Aside0 (wr.heap[w.heap.size]? = some (.cells #[.slice (some ad) l0_0.length c0_0, .int .i64 a0_1, .slice A0_2 l0_2.length c0_2] 44 (0, 0))) ∧ Aside0 (wr.heap[w.heap.size + 1]? = some (.cells #[.slice none 0 0, .int .i64 0, .slice none 0 0] 44 (0, 0)))) (fun i _ => l0_2.length - (intOf i).toNat)
  case atStart => exact ⟨0, v0, v2, rfl, Nat.zero_le _, ⟨by simpa [makerAll] using HM.out⟩, HB, HSZ, HBX, HBR⟩
  case round =>
    obtain ⟨k, u0, u2, rfl, hk, HM1, HB1, HS1, HX1, HY1⟩ := hrel
    clear HM HB HSZ HBX HBR
    by_cases hlt : k < l0_2.length
    · have hk0 : (0 : Int) ≤ (k : Int) := Int.natCast_nonneg _
      have hk1 : (k : Int) < (l0_2.length : Int) := by omega
      obtain ⟨ac, e, hc0, hc1⟩ := at_T65 (Kd.C_below HR2.out HB1.out) (k : Int) hk0 hk1
      cases e
      rw [Int.toNat_natCast] at hc0 hc1
      have hcl := World.block_lt_of_cell? _ _ hc0
      go_wp2_with fail
      obtain ⟨hj0, hj1⟩ := HALL.out (k : Int) hk0 hk1
      obtain ⟨c, hc⟩ : ∃ c, c = rd_T65 l0_2 (k : Int) := ⟨_, rfl⟩
      rw [← hc] at hj0 hj1
      simp only [← hc]
      have HC := Aside0.mk hc
      clear hc hc0 hc1 hcl
      have hb2 := below_alloc (Below.refl wr.heap.size wr) (Obj.cells #[.int .i64 c.f0, .int .i64 c.f1] 65)
      have HV2 := Aside0.mk (heap_alloc_new wr (Obj.cells #[.int .i64 c.f0, .int .i64 c.f1] 65))
      have HM2 := Aside0.mk (HM1.out.below hb2)
      have HB2 := Aside0.mk (below_then HB1.out HB1.out.size hb2)
      have HS2 := Aside0.mk (Nat.le_trans HS1.out hb2.size)
      have HX2 := Aside0.mk ((hb2.block _ (by have := HS1.out; omega)).trans HX1.out)
      have HY2 := Aside0.mk ((hb2.block _ (by have := HS1.out; omega)).trans HY1.out)
      clear hb2 HM1 HB1 HX1 HY1
      generalize wr.alloc (Obj.cells #[.int .i64 c.f0, .int .i64 c.f1] 65) = w2 at HV2 HM2 HB2 HS2 HX2 HY2 ⊢
      have hbe : w.heap.size + 1 + 1 ≤ wr.heap.size := HS1.out
      clear HS1
      generalize wr.heap.size = b at HV2 hbe ⊢
      obtain ⟨ad', e, t0, t1, t2⟩ := at_T71 (Kd.C_below HR0.out HB2.out) c.f1 hj0 hj1
      cases e
      refine start_ (n := 10) (S := fun w' => w'.cell? ⟨b, 0, none⟩ = some (.int .i64 c.f0) ∧ w'.cell? ⟨b, 1, none⟩ = some (.int .i64 c.f1) ∧ w'.cell? ⟨w.heap.size, 0, none⟩ = some (.slice (some ad) l0_0.length c0_0) ∧ w'.cell? (ad.add (c.f1.toNat * 3)) = some (.int .i64 (rd_T71 l0_0 c.f1).f0) ∧ w'.cell? ⟨(ad.add (c.f1.toNat * 3)).block, (ad.add (c.f1.toNat * 3)).off + 1, none⟩ = some (.bool (rd_T71 l0_0 c.f1).f1) ∧ w'.cell? ⟨(ad.add (c.f1.toNat * 3)).block, (ad.add (c.f1.toNat * 3)).off + 2, none⟩ = some (.string (rd_T71 l0_0 c.f1).f2)) (ds := [9]) #[false, false, false, false, false, false, false, false, false, false] (by kernel_rfl) rfl rfl ⟨(blk_cell HV2.out 0).trans rfl, (blk_cell HV2.out 1).trans rfl, (blk_cell HX2.out 0).trans rfl, t0, t1, t2⟩ (fun hHeld => ?_)
      replace HM2 := Aside0.mk (HM2.out.below (below_drew (Below.refl _ _)))
      replace HB2 := Aside0.mk (below_drew HB2.out)
      replace HS2 := Aside0.mk (show w.heap.size + 1 + 1 ≤ w2.drew.heap.size from HS2.out)
      replace HX2 := Aside0.mk (show w2.drew.heap[w.heap.size]? = _ from HX2.out)
      replace HY2 := Aside0.mk (show w2.drew.heap[w.heap.size + 1]? = _ from HY2.out)
      clear t0 t1 t2 HV2
      generalize w2.drew = w3 at HM2 HB2 HS2 HX2 HY2 hHeld ⊢
      refine pure_ (i := 0) (N := (some 20)) (v := ?_) (a' := ?_) #[true, false, false, false, false, false, false, false, false, false] rfl rfl (by kernel_rfl) (fun _ _ _ h => h) (Or.inl ⟨by rfl, ?_⟩) ?_ ?_
      rotate_left
      · intro w'
        go_simp
        with_reducible rfl
      rotate_left
      · simp only [Act.put, List.setIfInBounds_toArray, List.set_cons_zero, List.set_cons_succ, i64_w, i32_w]
        rfl
      refine pure_ (i := 1) (N := (some 21)) (v := ?_) (a' := ?_) #[true, true, false, false, false, false, false, false, false, false] rfl rfl (by kernel_rfl) (fun _ _ _ h => h) (Or.inl ⟨by rfl, ?_⟩) ?_ ?_
      rotate_left
      · intro w'
        go_simp
        with_reducible rfl
      rotate_left
      · simp only [Act.put, List.setIfInBounds_toArray, List.set_cons_zero, List.set_cons_succ, i64_w, i32_w]
        rfl
      refine take_ (i := 2) (N := (some 22)) (v := ?_) (a' := ?_) #[true, true, true, false, false, false, false, false, false, false] rfl rfl (by kernel_rfl) (fun _ _ _ h => h) (Or.inl ⟨by rfl, ?_⟩) hHeld ?_ ?_
      rotate_left
      · rintro w' ⟨s0, s1, s2, s3, s4, s5⟩
        go_simp
        with_reducible rfl
      rotate_left
      · simp only [Act.put, List.setIfInBounds_toArray, List.set_cons_zero, List.set_cons_succ, i64_w, i32_w]
        rfl
      refine pure_ (i := 3) (N := (some 23)) (v := ?_) (a' := ?_) #[true, true, true, true, false, false, false, false, false, false] rfl rfl (by kernel_rfl) (fun _ _ _ h => h) (Or.inl ⟨by rfl, ?_⟩) ?_ ?_
      rotate_left
      · intro w'
        go_simp
        with_reducible rfl
      rotate_left
      · simp only [Act.put, List.setIfInBounds_toArray, List.set_cons_zero, List.set_cons_succ, i64_w, i32_w]
        rfl
      refine take_ (i := 4) (N := (some 24)) (v := ?_) (a' := ?_) #[true, true, true, true, true, false, false, false, false, false] rfl rfl (by kernel_rfl) (fun _ _ _ h => h) (Or.inl ⟨by rfl, ?_⟩) hHeld ?_ ?_
      rotate_left
      · rintro w' ⟨s0, s1, s2, s3, s4, s5⟩
        go_simp
        with_reducible rfl
      rotate_left
      · simp only [Act.put, List.setIfInBounds_toArray, List.set_cons_zero, List.set_cons_succ, i64_w, i32_w]
        rfl
      refine pure_ (i := 5) (N := (some 25)) (v := ?_) (a' := ?_) #[true, true, true, true, true, true, false, false, false, false] rfl rfl (by kernel_rfl) (fun _ _ _ h => h) (Or.inl ⟨by rfl, ?_⟩) ?_ ?_
      rotate_left
      · intro w'
        go_simp
        with_reducible rfl
      rotate_left
      · simp only [Act.put, List.setIfInBounds_toArray, List.set_cons_zero, List.set_cons_succ, i64_w, i32_w]
        rfl
      refine take_ (i := 6) (N := (some 26)) (v := ?_) (a' := ?_) #[true, true, true, true, true, true, true, false, false, false] rfl rfl (by kernel_rfl) (fun _ _ _ h => h) (Or.inl ⟨by rfl, ?_⟩) hHeld ?_ ?_
      rotate_left
      · rintro w' ⟨s0, s1, s2, s3, s4, s5⟩
        go_simp
        with_reducible rfl
      rotate_left
      · simp only [Act.put, List.setIfInBounds_toArray, List.set_cons_zero, List.set_cons_succ, i64_w, i32_w]
        rfl
      refine pure_ (i := 7) (N := (some 27)) (v := ?_) (a' := ?_) #[true, true, true, true, true, true, true, true, false, false] rfl rfl (by kernel_rfl) (fun _ _ _ h => h) (Or.inl ⟨by rfl, ?_⟩) ?_ ?_
      rotate_left
      · intro w'
        go_simp
        with_reducible rfl
      rotate_left
      · simp only [Act.put, List.setIfInBounds_toArray, List.set_cons_zero, List.set_cons_succ, i64_w, i32_w]
        rfl
      refine take_ (i := 8) (N := (some 28)) (v := ?_) (a' := ?_) #[true, true, true, true, true, true, true, true, true, false] rfl rfl (by kernel_rfl) (fun _ _ _ h => h) (Or.inl ⟨by rfl, ?_⟩) hHeld ?_ ?_
      rotate_left
      · rintro w' ⟨s0, s1, s2, s3, s4, s5⟩
        go_simp
        with_reducible rfl
      rotate_left
      · simp only [Act.put, List.setIfInBounds_toArray, List.set_cons_zero, List.set_cons_succ, i64_w, i32_w]
        rfl
      refine last_ (i := 9) (N := (some 29)) #[true, true, true, true, true, true, true, true, true, true] rfl rfl (by kernel_rfl) (by decide) (fun K hK => ?_)
      refine goes_ Tryd.func33 (by kernel_rfl) rfl #[.pointer (some ⟨g, 0, none⟩), .int .i64 c.f0, .agg #[.int .i64 (rd_T71 l0_0 c.f1).f0, .bool (rd_T71 l0_0 c.f1).f1, .string (rd_T71 l0_0 c.f1).f2]] (by rfl) rfl rfl (by (try simp only [List.map_toArray, List.map_cons, List.map_nil]); first | done | rfl) ?_
      have hl := makerAll_len l0_0 a0_1 (l0_2.take k)
      have hl2 : (l0_2.take k).length ≤ l0_2.length := List.length_take_le' _ _
      refine (maker_Change g _ _ _ (rd_T71 l0_0 c.f1) c.f0 u0 u2 (w.heap.size + 1 + 1) w3 HM2.out HS2.out (by omega) (by omega)).mono ?_
      rintro e w4 ⟨u0', u2', rfl, hM4, hB4⟩
      refine ⟨_, rfl, ?_⟩
      have hbad : ∀ q, (q = g ∨ some q = u0.ownBlock ∨ some q = u2.ownBlock) → w.heap.size + 1 + 1 ≤ q := by
        rintro q (rfl | e | e)
        · exact HM2.out.ge
        · exact Kd.R_base HM2.out.rt q e.symm
        · exact Kd.R_base HM2.out.rc q e.symm
      have hb4 := hB4.below HS2.out hbad
      have HM4 := Aside0.mk hM4
      have HB4 := Aside0.mk (HB2.out.trans (hb4.mono (by omega)))
      have HS4 := Aside0.mk (Nat.le_trans HS2.out hB4.size)
      have HX4 := Aside0.mk ((hb4.block _ (by omega)).trans HX2.out)
      have HY4 := Aside0.mk ((hb4.block _ (by omega)).trans HY2.out)
      clear hM4 hB4 hb4 hbad HM2 HB2 HS2 HX2 HY2 hHeld hl hl2
      refine hK.out _ _ ?_
      clear hK K
      refine done_ (by kernel_rfl) ?_
      go_wp2
      go_roundw
      case rel => exact ⟨k + 1, u0', u2', by go_num, by omega, ⟨by rw [makerAll_snoc _ _ _ k (by omega), ← HC.out]; exact HM4.out⟩, HB4, HS4, HX4, HY4⟩
      case measure =>
        simp [intOf]
        omega
    · obtain rfl : k = l0_2.length := by omega
      rw [List.take_length] at HM1
      obtain ⟨A5, c5, e5⟩ := Kd.R_slice HM1.out.rt
      obtain ⟨A6, c6, e6⟩ := Kd.R_slice HM1.out.rc
      subst e5
      subst e6
      have q0 := (blk_cell HM1.out.blk 0).trans (rfl : _ = some (Value.slice A5 (makerAll l0_0 a0_1 l0_2).ts.length c5))
      have q1 := (blk_cell HM1.out.blk 1).trans (rfl : _ = some (Value.int .i64 0))
      have q2 := (blk_cell HM1.out.blk 2).trans (rfl : _ = some (Value.slice A6 (makerAll l0_0 a0_1 l0_2).cs.length c6))
      have r0 := (blk_cell HY1.out 0).trans (rfl : _ = some (Value.slice none 0 0))
      have r1 := (blk_cell HY1.out 1).trans (rfl : _ = some (Value.int .i64 0))
      have r2 := (blk_cell HY1.out 2).trans (rfl : _ = some (Value.slice none 0 0))
      have f0 := blk_frozen HY1.out 0
      have f1 := blk_frozen HY1.out 1
      have f2 := blk_frozen HY1.out 2
      have hge := HM1.out.ge
      go_wp2
      have k0 := blk_put HY1.out 0 (Value.slice A5 (makerAll l0_0 a0_1 l0_2).ts.length c5) rfl
      have k1 := blk_put k0 1 (Value.int .i64 0) rfl
      have k2 := blk_put k1 2 (Value.slice A6 (makerAll l0_0 a0_1 l0_2).cs.length c6) rfl
      refine bodyPost_ret (results_cell_row rfl _ _ (w.heap.size + 1) 44 #[.slice A5 (makerAll l0_0 a0_1 l0_2).ts.length c5, .int .i64 0, .slice A6 (makerAll l0_0 a0_1 l0_2).cs.length c6] (0, 0) _ rfl k2 Tryd.underlying44 rfl (by kernel_rfl)) rfl ?_
      refine ⟨_, _, rfl, ?_, ?_, ((HB1.out.setCell (p := ⟨w.heap.size + 1, 0, none⟩) (Nat.le_succ _) _).setCell (p := ⟨w.heap.size + 1, 1, none⟩) (Nat.le_succ _) _).setCell (p := ⟨w.heap.size + 1, 2, none⟩) (Nat.le_succ _) _⟩
      · exact Kd.R_set (Kd.R_set (Kd.R_set (Kd.R_lower HM1.out.rt (by omega)) HY1.out (by decide) 0 _) k0 (by decide) 1 _) k1 (by decide) 2 _
      · exact Kd.R_set (Kd.R_set (Kd.R_set (Kd.R_lower HM1.out.rc (by omega)) HY1.out (by decide) 0 _) k0 (by decide) 1 _) k1 (by decide) 2 _
end Go.Proofs.YteemhjamlkipcaaDoor.PT
end
section
namespace Go.Proofs.YteemhjamlkipcaaDoor.PT
open Go.RowKit Go.Proofs.YteemhjamlkipcaaDoorW.PrintWords Go.Proofs.YteemhjamlkipcaaDoorW.PrintLast Go.Proofs.YteemhjamlkipcaaDoorW.PrintMore
attribute [local go_sem] max2_int min2_int max_two min_two max_three min_three max_four min_four   -- for this text's walks alone
set_option linter.unusedVariables false
set_option linter.unusedSimpArgs false
def back_era.f (a0_0 : Int) (a0_1 : Bool) (a0_2 : ByteArray) : Option (Int × ByteArray × Int × ByteArray × Int × Bool) := if a0_1 = true then (if (wrap64 (a0_0 - 3600)) ≥ (-64800) then (some (wrap64 (a0_0 - 3600), (⟨#[]⟩ : ByteArray), 3600, a0_2, 0, decide ((wrap64 (a0_0 - 3600)) ≤ 64800))) else (some (wrap64 (a0_0 - 3600), (⟨#[]⟩ : ByteArray), 3600, a0_2, 0, false))) else (if a0_0 ≥ (-64800) then (some (a0_0, (⟨#[]⟩ : ByteArray), 0, a0_2, 0, decide (a0_0 ≤ 64800))) else (some (a0_0, (⟨#[]⟩ : ByteArray), 0, a0_2, 0, false)))
def back_era.T4 : Bool × List (List Nat × List Nat) := (true, [([], []), ([], []), ([1], [1]), ([2], [2]), ([3], [3]), ([4], [4]), ([5, 4], [4, 5]), ([6, 4], [4, 6]), ([4, 7], [4, 7]), ([0, 4, 0], [0]), ([8, 9, 0, 1, 2, 3, 4, 5, 6, 7, 8, 9], [8])])
def back_era.B4 : List Nat := [0, 0, 2, 6, 14, 30, 62, 126, 254, 31, 1023]
theorem back_era.tab4 : rtab .any (opsOf Tryd.f20 4) = back_era.T4 := by kernel_rfl
theorem back_era.bits4 : waitsOk back_era.T4.2 back_era.B4 = true := by kernel_rfl
set_option maxHeartbeats 8000000 in
set_option maxRecDepth 100000 in
theorem back_era.calls (a0_0 : Int) (a0_1 : Bool) (a0_2 : ByteArray) (r1 : Int) (r2 : ByteArray) (r3 : Int) (r4 : ByteArray) (r5 : Int) (r6 : Bool) (w : World) (h : back_era.f a0_0 a0_1 a0_2 = some (r1, r2, r3, r4, r5, r6)) :
    Calls Tryd.prog 20 #[.agg #[.int .i64 a0_0, .bool a0_1, .string a0_2]] w fun e w' => e = .returned (.tuple #[.agg #[.int .i64 r1, .string r2, .int .i64 r3, .string r4, .int .i64 r5], .bool r6]) ∧ Below w.heap.size w w' := by
  have hu71 := Tryd.underlying71
  have hu50 := Tryd.underlying50
  have HB := Aside0.mk (Below.refl w.heap.size w)
  have H : (if a0_1 = true then (if (wrap64 (a0_0 - 3600)) ≥ (-64800) then (some (wrap64 (a0_0 - 3600), (⟨#[]⟩ : ByteArray), 3600, a0_2, 0, decide ((wrap64 (a0_0 - 3600)) ≤ 64800))) else (some (wrap64 (a0_0 - 3600), (⟨#[]⟩ : ByteArray), 3600, a0_2, 0, false))) else (if a0_0 ≥ (-64800) then (some (a0_0, (⟨#[]⟩ : ByteArray), 0, a0_2, 0, decide (a0_0 ≤ 64800))) else (some (a0_0, (⟨#[]⟩ : ByteArray), 0, a0_2, 0, false)))) = some (r1, r2, r3, r4, r5, r6) := h
  clear h
  by_cases c2 : a0_1 = true
  · subst c2
    have H1 : (if (wrap64 (a0_0 - 3600)) ≥ (-64800) then (some (wrap64 (a0_0 - 3600), (⟨#[]⟩ : ByteArray), 3600, a0_2, 0, decide ((wrap64 (a0_0 - 3600)) ≤ 64800))) else (some (wrap64 (a0_0 - 3600), (⟨#[]⟩ : ByteArray), 3600, a0_2, 0, false))) = some (r1, r2, r3, r4, r5, r6) := by rw [if_pos rfl] at H; exact H
    clear H
    have H := H1
    clear H1
    by_cases c3 : (wrap64 (a0_0 - 3600)) ≥ (-64800)
    · rw [if_pos c3] at H
      have c3b0 : decide ((-64800) ≤ (wrap64 (a0_0 - 3600))) = true := decide_eq_true c3
      clear c3
      simp only [Option.some.injEq, Prod.mk.injEq] at H
      obtain ⟨rfl, rfl, rfl, rfl, rfl, rfl⟩ := H
      go_enter Tryd.func20, Tryd.ntmps20
      try go_wp2_with (first | ((with_reducible refine gate_dst (N := 1) rfl ?_); refine box_event ?hg (N := 1) ?hd (cs := #[.int .i64 a0_0, .bool true, .string a0_2]) (t := 71) ?hr ?_; (case hd => rfl); (case hg => rfl); (case hr => first | (go_simp; done) | (go_simp; rfl)); intro gb135 hg w4 hbox hb; have n0_ := Aside0.mk (below_step (by repeat (first | (with_reducible first | exact HB.out | apply below_alloc | apply pw_below_drewN | apply below_drew1) | exact HB.out)) hb); have n1_ := Aside0.mk (hbox); have n2_ := Aside0.mk ((by rw [hg]; exact (below_size (by repeat (first | (with_reducible first | exact HB.out | apply below_alloc | apply pw_below_drewN | apply below_drew1) | exact HB.out))) : w.heap.size ≤ gb135)); have n3_ := Aside0.mk ((by rw [hg]; exact (below_size (by repeat (first | (with_reducible first | exact HB.out | apply below_alloc | apply pw_below_drewN | apply below_drew1) | exact HB.out))) : w.heap.size ≤ gb135)); clear HB; have HB := n0_; have BK135 := n1_; have GW135 := n2_; have GE135 := n3_; clear n0_ n1_ n2_ n3_; clear hb hbox hg) | ((with_reducible refine gate_dst (N := 2) rfl ?_); refine box_event ?hg (N := 2) ?hd (cs := #[.int .i64 0, .string (⟨#[]⟩ : ByteArray), .int .i64 0, .string (⟨#[]⟩ : ByteArray), .int .i64 0]) (t := 50) ?hr ?_; (case hd => rfl); (case hg => rfl); (case hr => first | (go_simp; done) | (go_simp; rfl)); intro gb136 hg w5 hbox hb; have n0_ := Aside0.mk (blk_below (g := gb135) (o := .cells #[.int .i64 a0_0, .bool true, .string a0_2] 71 (0, 0)) (by (with_reducible repeat (first | refine blk_drewN ?_ _ | refine blk_drew ?_ | refine blk_alloc ?_ _)); exact BK135.out) hb); have n1_ := Aside0.mk (below_step (by repeat (first | (with_reducible first | exact HB.out | apply below_alloc | apply pw_below_drewN | apply below_drew1 | refine below_set ?_ GE135.out) | exact HB.out)) hb); have n2_ := Aside0.mk (hbox); have n3_ := Aside0.mk ((by rw [hg]; exact (below_size (by repeat (first | (with_reducible first | exact HB.out | apply below_alloc | apply pw_below_drewN | apply below_drew1 | refine below_set ?_ GE135.out) | exact HB.out))) : w.heap.size ≤ gb136)); have n4_ := Aside0.mk ((by rw [hg]; exact (below_size (by repeat (first | (with_reducible first | exact HB.out | apply below_alloc | apply pw_below_drewN | apply below_drew1 | refine below_set ?_ GE135.out) | exact HB.out))) : w.heap.size ≤ gb136)); have n5_ := Aside0.mk ((by rw [hg]; exact Nat.ne_of_lt (blk_lt (g := gb135) (o := .cells #[.int .i64 a0_0, .bool true, .string a0_2] 71 (0, 0)) (by (with_reducible repeat (first | refine blk_drewN ?_ _ | refine blk_drew ?_ | refine blk_alloc ?_ _)); exact BK135.out)) : gb135 ≠ gb136)); have n6_ := Aside0.mk ((by rw [hg]; exact Nat.ne_of_gt (blk_lt (g := gb135) (o := .cells #[.int .i64 a0_0, .bool true, .string a0_2] 71 (0, 0)) (by (with_reducible repeat (first | refine blk_drewN ?_ _ | refine blk_drew ?_ | refine blk_alloc ?_ _)); exact BK135.out)) : gb136 ≠ gb135)); clear BK135; clear HB; have BK135 := n0_; have HB := n1_; have BK136 := n2_; have GW136 := n3_; have GE136 := n4_; have NB135_136 := n5_; have NB136_135 := n6_; clear n0_ n1_ n2_ n3_ n4_ n5_ n6_; clear hb hbox hg; have hnb6 := NB135_136.out; have hnc6 := NB136_135.out; have hcz7_0 : w5.cell? ⟨gb135, 0, none⟩ = some (.int .i64 a0_0) := (blk_cell BK135.out 0).trans rfl; have hcz7_1 : w5.cell? ⟨gb135, 1, none⟩ = some (.bool true) := (blk_cell BK135.out 1).trans rfl; have hcz7_2 : w5.cell? ⟨gb135, 2, none⟩ = some (.string a0_2) := (blk_cell BK135.out 2).trans rfl; have hfz7_0 := blk_frozen BK135.out 0; have hfz7_1 := blk_frozen BK135.out 1; have hfz7_2 := blk_frozen BK135.out 2) | ((with_reducible refine gate_dst (N := 4) rfl ?_); refine box_event ?hg (N := 4) ?hd (cs := #[.int .i64 0, .string (⟨#[]⟩ : ByteArray), .int .i64 0, .string (⟨#[]⟩ : ByteArray), .int .i64 0]) (t := 50) ?hr ?_; (case hd => rfl); (case hg => rfl); (case hr => first | (go_simp; done) | (go_simp; rfl)); intro gb137 hg w8 hbox hb; have n0_ := Aside0.mk (blk_below (g := gb135) (o := .cells #[.int .i64 a0_0, .bool true, .string a0_2] 71 (0, 0)) (by (with_reducible repeat (first | refine blk_drewN ?_ _ | refine blk_drew ?_ | refine blk_alloc ?_ _)); exact BK135.out) hb); have n1_ := Aside0.mk (blk_below (g := gb136) (o := .cells #[.int .i64 0, .string (⟨#[]⟩ : ByteArray), .int .i64 0, .string (⟨#[]⟩ : ByteArray), .int .i64 0] 50 (0, 0)) (by (with_reducible repeat (first | refine blk_drewN ?_ _ | refine blk_drew ?_ | refine blk_alloc ?_ _)); exact BK136.out) hb); have n2_ := Aside0.mk (below_step (by repeat (first | (with_reducible first | exact HB.out | apply below_alloc | apply pw_below_drewN | apply below_drew1 | refine below_set ?_ GE135.out | refine below_set ?_ GE136.out) | exact HB.out)) hb); have n3_ := Aside0.mk (hbox); have n4_ := Aside0.mk ((by rw [hg]; exact (below_size (by repeat (first | (with_reducible first | exact HB.out | apply below_alloc | apply pw_below_drewN | apply below_drew1 | refine below_set ?_ GE135.out | refine below_set ?_ GE136.out) | exact HB.out))) : w.heap.size ≤ gb137)); have n5_ := Aside0.mk ((by rw [hg]; exact (below_size (by repeat (first | (with_reducible first | exact HB.out | apply below_alloc | apply pw_below_drewN | apply below_drew1 | refine below_set ?_ GE135.out | refine below_set ?_ GE136.out) | exact HB.out))) : w.heap.size ≤ gb137)); have n6_ := Aside0.mk ((by rw [hg]; exact Nat.ne_of_lt (blk_lt (g := gb135) (o := .cells #[.int .i64 a0_0, .bool true, .string a0_2] 71 (0, 0)) (by (with_reducible repeat (first | refine blk_drewN ?_ _ | refine blk_drew ?_ | refine blk_alloc ?_ _)); exact BK135.out)) : gb135 ≠ gb137)); have n7_ := Aside0.mk ((by rw [hg]; exact Nat.ne_of_gt (blk_lt (g := gb135) (o := .cells #[.int .i64 a0_0, .bool true, .string a0_2] 71 (0, 0)) (by (with_reducible repeat (first | refine blk_drewN ?_ _ | refine blk_drew ?_ | refine blk_alloc ?_ _)); exact BK135.out)) : gb137 ≠ gb135)); have n8_ := Aside0.mk ((by rw [hg]; exact Nat.ne_of_lt (blk_lt (g := gb136) (o := .cells #[.int .i64 0, .string (⟨#[]⟩ : ByteArray), .int .i64 0, .string (⟨#[]⟩ : ByteArray), .int .i64 0] 50 (0, 0)) (by (with_reducible repeat (first | refine blk_drewN ?_ _ | refine blk_drew ?_ | refine blk_alloc ?_ _)); exact BK136.out)) : gb136 ≠ gb137)); have n9_ := Aside0.mk ((by rw [hg]; exact Nat.ne_of_gt (blk_lt (g := gb136) (o := .cells #[.int .i64 0, .string (⟨#[]⟩ : ByteArray), .int .i64 0, .string (⟨#[]⟩ : ByteArray), .int .i64 0] 50 (0, 0)) (by (with_reducible repeat (first | refine blk_drewN ?_ _ | refine blk_drew ?_ | refine blk_alloc ?_ _)); exact BK136.out)) : gb137 ≠ gb136)); clear BK135; clear BK136; clear HB; have BK135 := n0_; have BK136 := n1_; have HB := n2_; have BK137 := n3_; have GW137 := n4_; have GE137 := n5_; have NB135_137 := n6_; have NB137_135 := n7_; have NB136_137 := n8_; have NB137_136 := n9_; clear n0_ n1_ n2_ n3_ n4_ n5_ n6_ n7_ n8_ n9_; clear hb hbox hg; have hnb9 := NB137_135.out; have hnc9 := NB135_137.out; have hnb10 := NB137_136.out; have hnc10 := NB136_137.out; have hcz11_0 : w8.cell? ⟨gb137, 0, none⟩ = some (.int .i64 0) := (blk_cell BK137.out 0).trans rfl; have hcz11_1 : w8.cell? ⟨gb137, 1, none⟩ = some (.string (⟨#[]⟩ : ByteArray)) := (blk_cell BK137.out 1).trans rfl; have hcz11_2 : w8.cell? ⟨gb137, 2, none⟩ = some (.int .i64 0) := (blk_cell BK137.out 2).trans rfl; have hcz11_3 : w8.cell? ⟨gb137, 3, none⟩ = some (.string (⟨#[]⟩ : ByteArray)) := (blk_cell BK137.out 3).trans rfl; have hcz11_4 : w8.cell? ⟨gb137, 4, none⟩ = some (.int .i64 0) := (blk_cell BK137.out 4).trans rfl; have hfz11_0 := blk_frozen BK137.out 0; have hfz11_1 := blk_frozen BK137.out 1; have hfz11_2 := blk_frozen BK137.out 2; have hfz11_3 := blk_frozen BK137.out 3; have hfz11_4 := blk_frozen BK137.out 4; have hcz12_0 : w8.cell? ⟨gb135, 0, none⟩ = some (.int .i64 a0_0) := (blk_cell BK135.out 0).trans rfl; have hcz12_1 : w8.cell? ⟨gb135, 1, none⟩ = some (.bool true) := (blk_cell BK135.out 1).trans rfl; have hcz12_2 : w8.cell? ⟨gb135, 2, none⟩ = some (.string a0_2) := (blk_cell BK135.out 2).trans rfl; have hfz12_0 := blk_frozen BK135.out 0; have hfz12_1 := blk_frozen BK135.out 1; have hfz12_2 := blk_frozen BK135.out 2))
      have n0_ : Aside0 ((((((((w8.setCell ⟨gb137, 0, none⟩ (.int .i64 a0_0)).setCell ⟨gb137, 1, none⟩ (.string (⟨#[]⟩ : ByteArray))).setCell ⟨gb137, 2, none⟩ (.int .i64 0)).setCell ⟨gb137, 3, none⟩ (.string a0_2)).setCell ⟨gb137, 4, none⟩ (.int .i64 0)).setCell ⟨gb137, 0, none⟩ (.int .i64 (wrap64 (a0_0 - 3600)))).setCell ⟨gb137, 2, none⟩ (.int .i64 3600)).heap[gb135]? = some (.cells #[.int .i64 a0_0, .bool true, .string a0_2] 71 (0, 0))) := ⟨by (with_reducible repeat (first | refine blk_drewN ?_ _ | refine blk_drew ?_ | refine blk_alloc ?_ _)); refine blk_far ?_ NB135_137.out _; (with_reducible repeat (first | refine blk_drewN ?_ _ | refine blk_drew ?_ | refine blk_alloc ?_ _)); refine blk_far ?_ NB135_137.out _; (with_reducible repeat (first | refine blk_drewN ?_ _ | refine blk_drew ?_ | refine blk_alloc ?_ _)); refine blk_far ?_ NB135_137.out _; (with_reducible repeat (first | refine blk_drewN ?_ _ | refine blk_drew ?_ | refine blk_alloc ?_ _)); refine blk_far ?_ NB135_137.out _; (with_reducible repeat (first | refine blk_drewN ?_ _ | refine blk_drew ?_ | refine blk_alloc ?_ _)); refine blk_far ?_ NB135_137.out _; (with_reducible repeat (first | refine blk_drewN ?_ _ | refine blk_drew ?_ | refine blk_alloc ?_ _)); refine blk_far ?_ NB135_137.out _; (with_reducible repeat (first | refine blk_drewN ?_ _ | refine blk_drew ?_ | refine blk_alloc ?_ _)); refine blk_far ?_ NB135_137.out _; (with_reducible repeat (first | refine blk_drewN ?_ _ | refine blk_drew ?_ | refine blk_alloc ?_ _)); exact BK135.out⟩
      have n1_ : Aside0 ((((((((w8.setCell ⟨gb137, 0, none⟩ (.int .i64 a0_0)).setCell ⟨gb137, 1, none⟩ (.string (⟨#[]⟩ : ByteArray))).setCell ⟨gb137, 2, none⟩ (.int .i64 0)).setCell ⟨gb137, 3, none⟩ (.string a0_2)).setCell ⟨gb137, 4, none⟩ (.int .i64 0)).setCell ⟨gb137, 0, none⟩ (.int .i64 (wrap64 (a0_0 - 3600)))).setCell ⟨gb137, 2, none⟩ (.int .i64 3600)).heap[gb136]? = some (.cells #[.int .i64 0, .string (⟨#[]⟩ : ByteArray), .int .i64 0, .string (⟨#[]⟩ : ByteArray), .int .i64 0] 50 (0, 0))) := ⟨by (with_reducible repeat (first | refine blk_drewN ?_ _ | refine blk_drew ?_ | refine blk_alloc ?_ _)); refine blk_far ?_ NB136_137.out _; (with_reducible repeat (first | refine blk_drewN ?_ _ | refine blk_drew ?_ | refine blk_alloc ?_ _)); refine blk_far ?_ NB136_137.out _; (with_reducible repeat (first | refine blk_drewN ?_ _ | refine blk_drew ?_ | refine blk_alloc ?_ _)); refine blk_far ?_ NB136_137.out _; (with_reducible repeat (first | refine blk_drewN ?_ _ | refine blk_drew ?_ | refine blk_alloc ?_ _)); refine blk_far ?_ NB136_137.out _; (with_reducible repeat (first | refine blk_drewN ?_ _ | refine blk_drew ?_ | refine blk_alloc ?_ _)); refine blk_far ?_ NB136_137.out _; (with_reducible repeat (first | refine blk_drewN ?_ _ | refine blk_drew ?_ | refine blk_alloc ?_ _)); refine blk_far ?_ NB136_137.out _; (with_reducible repeat (first | refine blk_drewN ?_ _ | refine blk_drew ?_ | refine blk_alloc ?_ _)); refine blk_far ?_ NB136_137.out _; (with_reducible repeat (first | refine blk_drewN ?_ _ | refine blk_drew ?_ | refine blk_alloc ?_ _)); exact BK136.out⟩
      have n2_ : Aside0 ((((((((w8.setCell ⟨gb137, 0, none⟩ (.int .i64 a0_0)).setCell ⟨gb137, 1, none⟩ (.string (⟨#[]⟩ : ByteArray))).setCell ⟨gb137, 2, none⟩ (.int .i64 0)).setCell ⟨gb137, 3, none⟩ (.string a0_2)).setCell ⟨gb137, 4, none⟩ (.int .i64 0)).setCell ⟨gb137, 0, none⟩ (.int .i64 (wrap64 (a0_0 - 3600)))).setCell ⟨gb137, 2, none⟩ (.int .i64 3600)).heap[gb137]? = some (.cells #[.int .i64 (wrap64 (a0_0 - 3600)), .string (⟨#[]⟩ : ByteArray), .int .i64 3600, .string a0_2, .int .i64 0] 50 (0, 0))) := ⟨by (with_reducible repeat (first | refine blk_drewN ?_ _ | refine blk_drew ?_ | refine blk_alloc ?_ _)); refine blk_put (cs := #[.int .i64 (wrap64 (a0_0 - 3600)), .string (⟨#[]⟩ : ByteArray), .int .i64 0, .string a0_2, .int .i64 0]) ?_ 2 _ rfl; (with_reducible repeat (first | refine blk_drewN ?_ _ | refine blk_drew ?_ | refine blk_alloc ?_ _)); refine blk_put (cs := #[.int .i64 a0_0, .string (⟨#[]⟩ : ByteArray), .int .i64 0, .string a0_2, .int .i64 0]) ?_ 0 _ rfl; (with_reducible repeat (first | refine blk_drewN ?_ _ | refine blk_drew ?_ | refine blk_alloc ?_ _)); refine blk_put (cs := #[.int .i64 a0_0, .string (⟨#[]⟩ : ByteArray), .int .i64 0, .string a0_2, .int .i64 0]) ?_ 4 _ rfl; (with_reducible repeat (first | refine blk_drewN ?_ _ | refine blk_drew ?_ | refine blk_alloc ?_ _)); refine blk_put (cs := #[.int .i64 a0_0, .string (⟨#[]⟩ : ByteArray), .int .i64 0, .string (⟨#[]⟩ : ByteArray), .int .i64 0]) ?_ 3 _ rfl; (with_reducible repeat (first | refine blk_drewN ?_ _ | refine blk_drew ?_ | refine blk_alloc ?_ _)); refine blk_put (cs := #[.int .i64 a0_0, .string (⟨#[]⟩ : ByteArray), .int .i64 0, .string (⟨#[]⟩ : ByteArray), .int .i64 0]) ?_ 2 _ rfl; (with_reducible repeat (first | refine blk_drewN ?_ _ | refine blk_drew ?_ | refine blk_alloc ?_ _)); refine blk_put (cs := #[.int .i64 a0_0, .string (⟨#[]⟩ : ByteArray), .int .i64 0, .string (⟨#[]⟩ : ByteArray), .int .i64 0]) ?_ 1 _ rfl; (with_reducible repeat (first | refine blk_drewN ?_ _ | refine blk_drew ?_ | refine blk_alloc ?_ _)); refine blk_put (cs := #[.int .i64 0, .string (⟨#[]⟩ : ByteArray), .int .i64 0, .string (⟨#[]⟩ : ByteArray), .int .i64 0]) ?_ 0 _ rfl; (with_reducible repeat (first | refine blk_drewN ?_ _ | refine blk_drew ?_ | refine blk_alloc ?_ _)); exact BK137.out⟩
      have n3_ : Aside0 (Below w.heap.size w (((((((w8.setCell ⟨gb137, 0, none⟩ (.int .i64 a0_0)).setCell ⟨gb137, 1, none⟩ (.string (⟨#[]⟩ : ByteArray))).setCell ⟨gb137, 2, none⟩ (.int .i64 0)).setCell ⟨gb137, 3, none⟩ (.string a0_2)).setCell ⟨gb137, 4, none⟩ (.int .i64 0)).setCell ⟨gb137, 0, none⟩ (.int .i64 (wrap64 (a0_0 - 3600)))).setCell ⟨gb137, 2, none⟩ (.int .i64 3600))) := ⟨by repeat (first | (with_reducible first | exact HB.out | apply below_alloc | apply pw_below_drewN | apply below_drew1 | refine below_set ?_ GE135.out | refine below_set ?_ GE136.out | refine below_set ?_ GE137.out) | exact HB.out)⟩
      (try clear BK135)
      (try clear BK136)
      (try clear BK137)
      (try clear HB)
      generalize (((((((w8.setCell ⟨gb137, 0, none⟩ (.int .i64 a0_0)).setCell ⟨gb137, 1, none⟩ (.string (⟨#[]⟩ : ByteArray))).setCell ⟨gb137, 2, none⟩ (.int .i64 0)).setCell ⟨gb137, 3, none⟩ (.string a0_2)).setCell ⟨gb137, 4, none⟩ (.int .i64 0)).setCell ⟨gb137, 0, none⟩ (.int .i64 (wrap64 (a0_0 - 3600)))).setCell ⟨gb137, 2, none⟩ (.int .i64 3600)) = w13 at n0_ n1_ n2_ n3_ ⊢
      have BK135 := n0_
      have BK136 := n1_
      have BK137 := n2_
      have HB := n3_
      clear n0_ n1_ n2_ n3_
      have n0_ := Aside0.mk (blk_drew BK135.out)
      have n1_ := Aside0.mk (blk_drew BK136.out)
      have n2_ := Aside0.mk (blk_drew BK137.out)
      have n3_ := Aside0.mk (below_drew1 HB.out)
      clear BK135
      clear BK136
      clear BK137
      clear HB
      have BK135 := n0_
      have BK136 := n1_
      have BK137 := n2_
      have HB := n3_
      clear n0_ n1_ n2_ n3_
      refine start_ (n := 11) (S := fun w' => w'.cell? ⟨gb137, 0, none⟩ = some (.int .i64 (wrap64 (a0_0 - 3600))) ∧ w'.cell? ⟨gb137, 1, none⟩ = some (.string (⟨#[]⟩ : ByteArray)) ∧ w'.cell? ⟨gb137, 2, none⟩ = some (.int .i64 3600) ∧ w'.cell? ⟨gb137, 3, none⟩ = some (.string a0_2) ∧ w'.cell? ⟨gb137, 4, none⟩ = some (.int .i64 0)) (ds := []) #[false, false, false, false, false, false, false, false, false, false, false] (by kernel_rfl) rfl rfl ⟨(blk_cell BK137.out 0).trans rfl, (blk_cell BK137.out 1).trans rfl, (blk_cell BK137.out 2).trans rfl, (blk_cell BK137.out 3).trans rfl, (blk_cell BK137.out 4).trans rfl⟩ (fun hHeld => ?_); refine with_tabW back_era.tab4 back_era.bits4 (fun HT_ HW_ => ?_)
      generalize w13.drew = w14 at BK135 BK136 BK137 HB hHeld ⊢
      refine pure_ (i := 1) (N := some 18) (v := ?_) (a' := ?_) #[false, true, false, false, false, false, false, false, false, false, false] rfl rfl (any_of HT_.out (by kernel_rfl)) (fun _ _ _ h => h) (Or.inl ⟨by rfl, ?_⟩) ?_ ?_
      rotate_left
      · intro w'
        go_simp
        with_reducible rfl
      rotate_left
      · simp only [Act.put, List.setIfInBounds_toArray, List.set_cons_zero, List.set_cons_succ, i64_w, i32_w]
        rfl
      refine take_ (i := 0) (N := some 17) (v := ?_) (a' := ?_) #[true, true, false, false, false, false, false, false, false, false, false] rfl rfl (take_ofW HT_.out HW_.out (by kernel_rfl)) (fun _ _ _ h => h) (Or.inl ⟨by rfl, ?_⟩) hHeld ?_ ?_
      rotate_left
      · rintro w' ⟨s0, s1, s2, s3, s4⟩
        go_simp
        with_reducible rfl
      rotate_left
      · simp only [Act.put, List.setIfInBounds_toArray, List.set_cons_zero, List.set_cons_succ, i64_w, i32_w]
        rfl
      refine take_ (i := 2) (N := some 19) (v := ?_) (a' := ?_) #[true, true, true, false, false, false, false, false, false, false, false] rfl rfl (take_ofW HT_.out HW_.out (by kernel_rfl)) (fun _ _ _ h => h) (Or.inl ⟨by rfl, ?_⟩) hHeld ?_ ?_
      rotate_left
      · rintro w' ⟨s0, s1, s2, s3, s4⟩
        go_simp
        with_reducible rfl
      rotate_left
      · simp only [Act.put, List.setIfInBounds_toArray, List.set_cons_zero, List.set_cons_succ, i64_w, i32_w]
        rfl
      refine pure_ (i := 3) (N := some 20) (v := ?_) (a' := ?_) #[true, true, true, true, false, false, false, false, false, false, false] rfl rfl (any_of HT_.out (by kernel_rfl)) (fun _ _ _ h => h) (Or.inl ⟨by rfl, ?_⟩) ?_ ?_
      rotate_left
      · intro w'
        go_simp
        with_reducible rfl
      rotate_left
      · simp only [Act.put, List.setIfInBounds_toArray, List.set_cons_zero, List.set_cons_succ, i64_w, i32_w]
        rfl
      refine pure_ (i := 4) (N := some 21) (v := ?_) (a' := ?_) #[true, true, true, true, true, false, false, false, false, false, false] rfl rfl (any_of HT_.out (by kernel_rfl)) (fun _ _ _ h => h) (Or.inl ⟨by rfl, ?_⟩) ?_ ?_
      rotate_left
      · intro w'
        go_simp
        with_reducible rfl
      rotate_left
      · simp only [Act.put, List.setIfInBounds_toArray, List.set_cons_zero, List.set_cons_succ, i64_w, i32_w]
        rfl
      refine pure_ (i := 5) (N := some 22) (v := ?_) (a' := ?_) #[true, true, true, true, true, true, false, false, false, false, false] rfl rfl (any_of HT_.out (by kernel_rfl)) (fun _ _ _ h => h) (Or.inl ⟨by rfl, ?_⟩) ?_ ?_
      rotate_left
      · intro w'
        go_simp
        with_reducible rfl
      rotate_left
      · simp only [Act.put, List.setIfInBounds_toArray, List.set_cons_zero, List.set_cons_succ, i64_w, i32_w]
        rfl
      refine take_ (i := 6) (N := some 23) (v := ?_) (a' := ?_) #[true, true, true, true, true, true, true, false, false, false, false] rfl rfl (take_ofW HT_.out HW_.out (by kernel_rfl)) (fun _ _ _ h => h) (Or.inl ⟨by rfl, ?_⟩) hHeld ?_ ?_
      rotate_left
      · rintro w' ⟨s0, s1, s2, s3, s4⟩
        go_simp
        with_reducible rfl
      rotate_left
      · simp only [Act.put, List.setIfInBounds_toArray, List.set_cons_zero, List.set_cons_succ, i64_w, i32_w]
        rfl
      refine pure_ (i := 7) (N := some 24) (v := ?_) (a' := ?_) #[true, true, true, true, true, true, true, true, false, false, false] rfl rfl (any_of HT_.out (by kernel_rfl)) (fun _ _ _ h => h) (Or.inl ⟨by rfl, ?_⟩) ?_ ?_
      rotate_left
      · intro w'
        go_simp
        with_reducible rfl
      rotate_left
      · simp only [Act.put, List.setIfInBounds_toArray, List.set_cons_zero, List.set_cons_succ, i64_w, i32_w]
        rfl
      refine pure_ (i := 8) (N := some 25) (v := ?_) (a' := ?_) #[true, true, true, true, true, true, true, true, true, false, false] rfl rfl (any_of HT_.out (by kernel_rfl)) (fun _ _ _ h => h) (Or.inl ⟨by rfl, ?_⟩) ?_ ?_
      rotate_left
      · intro w'
        go_simp
        with_reducible rfl
      rotate_left
      · simp only [Act.put, List.setIfInBounds_toArray, List.set_cons_zero, List.set_cons_succ, i64_w, i32_w]
        rfl
      refine one_ (i := 9) (N := none) #[true, true, true, true, true, true, true, true, true, true, false] rfl rfl (one_of HT_.out (by kernel_rfl)) (by decide) (fun K hK => ?_)
      have hs15 : w14.cell? ⟨gb136, 0, none⟩ = some (.int .i64 0) := (blk_cell BK136.out 0).trans rfl
      have hfs15 := blk_frozen BK136.out 0
      have hns15_0 := NB135_136.out
      have hns15_2 := NB137_136.out
      have hms15_0 := NB136_135.out
      have hms15_2 := NB136_137.out
      have hs16 : w14.cell? ⟨gb136, 1, none⟩ = some (.string (⟨#[]⟩ : ByteArray)) := (blk_cell BK136.out 1).trans rfl
      have hfs16 := blk_frozen BK136.out 1
      have hns16_0 := NB135_136.out
      have hns16_2 := NB137_136.out
      have hms16_0 := NB136_135.out
      have hms16_2 := NB136_137.out
      have hs17 : w14.cell? ⟨gb136, 2, none⟩ = some (.int .i64 0) := (blk_cell BK136.out 2).trans rfl
      have hfs17 := blk_frozen BK136.out 2
      have hns17_0 := NB135_136.out
      have hns17_2 := NB137_136.out
      have hms17_0 := NB136_135.out
      have hms17_2 := NB136_137.out
      have hs18 : w14.cell? ⟨gb136, 3, none⟩ = some (.string (⟨#[]⟩ : ByteArray)) := (blk_cell BK136.out 3).trans rfl
      have hfs18 := blk_frozen BK136.out 3
      have hns18_0 := NB135_136.out
      have hns18_2 := NB137_136.out
      have hms18_0 := NB136_135.out
      have hms18_2 := NB136_137.out
      have hs19 : w14.cell? ⟨gb136, 4, none⟩ = some (.int .i64 0) := (blk_cell BK136.out 4).trans rfl
      have hfs19 := blk_frozen BK136.out 4
      have hns19_0 := NB135_136.out
      have hns19_2 := NB137_136.out
      have hms19_0 := NB136_135.out
      have hms19_2 := NB136_137.out
      refine skip_ (w1 := ?_) (by rfl) rfl ?_ ?_
      rotate_left
      · go_simp
        rfl
      refine hK.out _ _ ⟨((cell_far (p := ⟨gb136, _, none⟩) NB137_136.out _).trans (((cell_far (p := ⟨gb136, _, none⟩) NB137_136.out _).trans (((cell_far (p := ⟨gb136, _, none⟩) NB137_136.out _).trans (((cell_far (p := ⟨gb136, _, none⟩) NB137_136.out _).trans (((cell_far (p := ⟨gb136, _, none⟩) NB137_136.out _).trans (hHeld.1)))))))))), ((cell_far (p := ⟨gb136, _, none⟩) NB137_136.out _).trans (((cell_far (p := ⟨gb136, _, none⟩) NB137_136.out _).trans (((cell_far (p := ⟨gb136, _, none⟩) NB137_136.out _).trans (((cell_far (p := ⟨gb136, _, none⟩) NB137_136.out _).trans (((cell_far (p := ⟨gb136, _, none⟩) NB137_136.out _).trans (hHeld.2.1)))))))))), ((cell_far (p := ⟨gb136, _, none⟩) NB137_136.out _).trans (((cell_far (p := ⟨gb136, _, none⟩) NB137_136.out _).trans (((cell_far (p := ⟨gb136, _, none⟩) NB137_136.out _).trans (((cell_far (p := ⟨gb136, _, none⟩) NB137_136.out _).trans (((cell_far (p := ⟨gb136, _, none⟩) NB137_136.out _).trans (hHeld.2.2.1)))))))))), ((cell_far (p := ⟨gb136, _, none⟩) NB137_136.out _).trans (((cell_far (p := ⟨gb136, _, none⟩) NB137_136.out _).trans (((cell_far (p := ⟨gb136, _, none⟩) NB137_136.out _).trans (((cell_far (p := ⟨gb136, _, none⟩) NB137_136.out _).trans (((cell_far (p := ⟨gb136, _, none⟩) NB137_136.out _).trans (hHeld.2.2.2.1)))))))))), ((cell_far (p := ⟨gb136, _, none⟩) NB137_136.out _).trans (((cell_far (p := ⟨gb136, _, none⟩) NB137_136.out _).trans (((cell_far (p := ⟨gb136, _, none⟩) NB137_136.out _).trans (((cell_far (p := ⟨gb136, _, none⟩) NB137_136.out _).trans (((cell_far (p := ⟨gb136, _, none⟩) NB137_136.out _).trans (hHeld.2.2.2.2))))))))))⟩ (fun hHeld => ?_)
      clear hK K
      refine pure_ (i := 10) (N := some 3) (v := ?_) (a' := ?_) #[true, true, true, true, true, true, true, true, true, true, true] rfl rfl (any_of HT_.out (by kernel_rfl)) (fun _ _ _ h => h) (Or.inl ⟨by rfl, ?_⟩) ?_ ?_
      rotate_left
      · intro w'
        go_simp
        with_reducible rfl
      rotate_left
      · simp only [Act.put, List.setIfInBounds_toArray, List.set_cons_zero, List.set_cons_succ, i64_w, i32_w]
        rfl
      refine done_ (done_of HT_.out (by kernel_rfl)) ?_
      try go_wp2
      refine bodyPost_ret (results_ct rfl _ _ gb136 50 #[.int .i64 (wrap64 (a0_0 - 3600)), .string (⟨#[]⟩ : ByteArray), .int .i64 3600, .string a0_2, .int .i64 0] (0, 0) _ rfl (by (with_reducible repeat (first | refine blk_drewN ?_ _ | refine blk_drew ?_ | refine blk_alloc ?_ _)); refine blk_put (cs := #[.int .i64 (wrap64 (a0_0 - 3600)), .string (⟨#[]⟩ : ByteArray), .int .i64 3600, .string a0_2, .int .i64 0]) ?_ 4 _ rfl; (with_reducible repeat (first | refine blk_drewN ?_ _ | refine blk_drew ?_ | refine blk_alloc ?_ _)); refine blk_put (cs := #[.int .i64 (wrap64 (a0_0 - 3600)), .string (⟨#[]⟩ : ByteArray), .int .i64 3600, .string (⟨#[]⟩ : ByteArray), .int .i64 0]) ?_ 3 _ rfl; (with_reducible repeat (first | refine blk_drewN ?_ _ | refine blk_drew ?_ | refine blk_alloc ?_ _)); refine blk_put (cs := #[.int .i64 (wrap64 (a0_0 - 3600)), .string (⟨#[]⟩ : ByteArray), .int .i64 0, .string (⟨#[]⟩ : ByteArray), .int .i64 0]) ?_ 2 _ rfl; (with_reducible repeat (first | refine blk_drewN ?_ _ | refine blk_drew ?_ | refine blk_alloc ?_ _)); refine blk_put (cs := #[.int .i64 (wrap64 (a0_0 - 3600)), .string (⟨#[]⟩ : ByteArray), .int .i64 0, .string (⟨#[]⟩ : ByteArray), .int .i64 0]) ?_ 1 _ rfl; (with_reducible repeat (first | refine blk_drewN ?_ _ | refine blk_drew ?_ | refine blk_alloc ?_ _)); refine blk_put (cs := #[.int .i64 0, .string (⟨#[]⟩ : ByteArray), .int .i64 0, .string (⟨#[]⟩ : ByteArray), .int .i64 0]) ?_ 0 _ rfl; (with_reducible repeat (first | refine blk_drewN ?_ _ | refine blk_drew ?_ | refine blk_alloc ?_ _)); exact BK136.out) Tryd.underlying50 rfl (by kernel_rfl)) rfl ?_
      exact ⟨by first | rfl | (simp [errW_none, errW_some] <;> rfl) | (simp [*, errW_none, errW_some] <;> rfl), by repeat (first | (with_reducible first | exact HB.out | apply below_alloc | apply pw_below_drewN | apply below_drew1 | refine below_set ?_ GE135.out | refine below_set ?_ GE136.out | refine below_set ?_ GE137.out) | exact HB.out)⟩
    · rw [if_neg c3] at H
      have c3b0 : decide ((-64800) ≤ (wrap64 (a0_0 - 3600))) = false := decide_eq_false c3
      clear c3
      simp only [Option.some.injEq, Prod.mk.injEq] at H
      obtain ⟨rfl, rfl, rfl, rfl, rfl, rfl⟩ := H
      go_enter Tryd.func20, Tryd.ntmps20
      try go_wp2_with (first | ((with_reducible refine gate_dst (N := 1) rfl ?_); refine box_event ?hg (N := 1) ?hd (cs := #[.int .i64 a0_0, .bool true, .string a0_2]) (t := 71) ?hr ?_; (case hd => rfl); (case hg => rfl); (case hr => first | (go_simp; done) | (go_simp; rfl)); intro gb135 hg w20 hbox hb; have n0_ := Aside0.mk (below_step (by repeat (first | (with_reducible first | exact HB.out | apply below_alloc | apply pw_below_drewN | apply below_drew1) | exact HB.out)) hb); have n1_ := Aside0.mk (hbox); have n2_ := Aside0.mk ((by rw [hg]; exact (below_size (by repeat (first | (with_reducible first | exact HB.out | apply below_alloc | apply pw_below_drewN | apply below_drew1) | exact HB.out))) : w.heap.size ≤ gb135)); have n3_ := Aside0.mk ((by rw [hg]; exact (below_size (by repeat (first | (with_reducible first | exact HB.out | apply below_alloc | apply pw_below_drewN | apply below_drew1) | exact HB.out))) : w.heap.size ≤ gb135)); clear HB; have HB := n0_; have BK135 := n1_; have GW135 := n2_; have GE135 := n3_; clear n0_ n1_ n2_ n3_; clear hb hbox hg) | ((with_reducible refine gate_dst (N := 2) rfl ?_); refine box_event ?hg (N := 2) ?hd (cs := #[.int .i64 0, .string (⟨#[]⟩ : ByteArray), .int .i64 0, .string (⟨#[]⟩ : ByteArray), .int .i64 0]) (t := 50) ?hr ?_; (case hd => rfl); (case hg => rfl); (case hr => first | (go_simp; done) | (go_simp; rfl)); intro gb136 hg w21 hbox hb; have n0_ := Aside0.mk (blk_below (g := gb135) (o := .cells #[.int .i64 a0_0, .bool true, .string a0_2] 71 (0, 0)) (by (with_reducible repeat (first | refine blk_drewN ?_ _ | refine blk_drew ?_ | refine blk_alloc ?_ _)); exact BK135.out) hb); have n1_ := Aside0.mk (below_step (by repeat (first | (with_reducible first | exact HB.out | apply below_alloc | apply pw_below_drewN | apply below_drew1 | refine below_set ?_ GE135.out) | exact HB.out)) hb); have n2_ := Aside0.mk (hbox); have n3_ := Aside0.mk ((by rw [hg]; exact (below_size (by repeat (first | (with_reducible first | exact HB.out | apply below_alloc | apply pw_below_drewN | apply below_drew1 | refine below_set ?_ GE135.out) | exact HB.out))) : w.heap.size ≤ gb136)); have n4_ := Aside0.mk ((by rw [hg]; exact (below_size (by repeat (first | (with_reducible first | exact HB.out | apply below_alloc | apply pw_below_drewN | apply below_drew1 | refine below_set ?_ GE135.out) | exact HB.out))) : w.heap.size ≤ gb136)); have n5_ := Aside0.mk ((by rw [hg]; exact Nat.ne_of_lt (blk_lt (g := gb135) (o := .cells #[.int .i64 a0_0, .bool true, .string a0_2] 71 (0, 0)) (by (with_reducible repeat (first | refine blk_drewN ?_ _ | refine blk_drew ?_ | refine blk_alloc ?_ _)); exact BK135.out)) : gb135 ≠ gb136)); have n6_ := Aside0.mk ((by rw [hg]; exact Nat.ne_of_gt (blk_lt (g := gb135) (o := .cells #[.int .i64 a0_0, .bool true, .string a0_2] 71 (0, 0)) (by (with_reducible repeat (first | refine blk_drewN ?_ _ | refine blk_drew ?_ | refine blk_alloc ?_ _)); exact BK135.out)) : gb136 ≠ gb135)); clear BK135; clear HB; have BK135 := n0_; have HB := n1_; have BK136 := n2_; have GW136 := n3_; have GE136 := n4_; have NB135_136 := n5_; have NB136_135 := n6_; clear n0_ n1_ n2_ n3_ n4_ n5_ n6_; clear hb hbox hg; have hnb22 := NB135_136.out; have hnc22 := NB136_135.out; have hcz23_0 : w21.cell? ⟨gb135, 0, none⟩ = some (.int .i64 a0_0) := (blk_cell BK135.out 0).trans rfl; have hcz23_1 : w21.cell? ⟨gb135, 1, none⟩ = some (.bool true) := (blk_cell BK135.out 1).trans rfl; have hcz23_2 : w21.cell? ⟨gb135, 2, none⟩ = some (.string a0_2) := (blk_cell BK135.out 2).trans rfl; have hfz23_0 := blk_frozen BK135.out 0; have hfz23_1 := blk_frozen BK135.out 1; have hfz23_2 := blk_frozen BK135.out 2) | ((with_reducible refine gate_dst (N := 4) rfl ?_); refine box_event ?hg (N := 4) ?hd (cs := #[.int .i64 0, .string (⟨#[]⟩ : ByteArray), .int .i64 0, .string (⟨#[]⟩ : ByteArray), .int .i64 0]) (t := 50) ?hr ?_; (case hd => rfl); (case hg => rfl); (case hr => first | (go_simp; done) | (go_simp; rfl)); intro gb137 hg w24 hbox hb; have n0_ := Aside0.mk (blk_below (g := gb135) (o := .cells #[.int .i64 a0_0, .bool true, .string a0_2] 71 (0, 0)) (by (with_reducible repeat (first | refine blk_drewN ?_ _ | refine blk_drew ?_ | refine blk_alloc ?_ _)); exact BK135.out) hb); have n1_ := Aside0.mk (blk_below (g := gb136) (o := .cells #[.int .i64 0, .string (⟨#[]⟩ : ByteArray), .int .i64 0, .string (⟨#[]⟩ : ByteArray), .int .i64 0] 50 (0, 0)) (by (with_reducible repeat (first | refine blk_drewN ?_ _ | refine blk_drew ?_ | refine blk_alloc ?_ _)); exact BK136.out) hb); have n2_ := Aside0.mk (below_step (by repeat (first | (with_reducible first | exact HB.out | apply below_alloc | apply pw_below_drewN | apply below_drew1 | refine below_set ?_ GE135.out | refine below_set ?_ GE136.out) | exact HB.out)) hb); have n3_ := Aside0.mk (hbox); have n4_ := Aside0.mk ((by rw [hg]; exact (below_size (by repeat (first | (with_reducible first | exact HB.out | apply below_alloc | apply pw_below_drewN | apply below_drew1 | refine below_set ?_ GE135.out | refine below_set ?_ GE136.out) | exact HB.out))) : w.heap.size ≤ gb137)); have n5_ := Aside0.mk ((by rw [hg]; exact (below_size (by repeat (first | (with_reducible first | exact HB.out | apply below_alloc | apply pw_below_drewN | apply below_drew1 | refine below_set ?_ GE135.out | refine below_set ?_ GE136.out) | exact HB.out))) : w.heap.size ≤ gb137)); have n6_ := Aside0.mk ((by rw [hg]; exact Nat.ne_of_lt (blk_lt (g := gb135) (o := .cells #[.int .i64 a0_0, .bool true, .string a0_2] 71 (0, 0)) (by (with_reducible repeat (first | refine blk_drewN ?_ _ | refine blk_drew ?_ | refine blk_alloc ?_ _)); exact BK135.out)) : gb135 ≠ gb137)); have n7_ := Aside0.mk ((by rw [hg]; exact Nat.ne_of_gt (blk_lt (g := gb135) (o := .cells #[.int .i64 a0_0, .bool true, .string a0_2] 71 (0, 0)) (by (with_reducible repeat (first | refine blk_drewN ?_ _ | refine blk_drew ?_ | refine blk_alloc ?_ _)); exact BK135.out)) : gb137 ≠ gb135)); have n8_ := Aside0.mk ((by rw [hg]; exact Nat.ne_of_lt (blk_lt (g := gb136) (o := .cells #[.int .i64 0, .string (⟨#[]⟩ : ByteArray), .int .i64 0, .string (⟨#[]⟩ : ByteArray), .int .i64 0] 50 (0, 0)) (by (with_reducible repeat (first | refine blk_drewN ?_ _ | refine blk_drew ?_ | refine blk_alloc ?_ _)); exact BK136.out)) : gb136 ≠ gb137)); have n9_ := Aside0.mk ((by rw [hg]; exact Nat.ne_of_gt (blk_lt (g := gb136) (o := .cells #[.int .i64 0, .string (⟨#[]⟩ : ByteArray), .int .i64 0, .string (⟨#[]⟩ : ByteArray), .int .i64 0] 50 (0, 0)) (by (with_reducible repeat (first | refine blk_drewN ?_ _ | refine blk_drew ?_ | refine blk_alloc ?_ _)); exact BK136.out)) : gb137 ≠ gb136)); clear BK135; clear BK136; clear HB; have BK135 := n0_; have BK136 := n1_; have HB := n2_; have BK137 := n3_; have GW137 := n4_; have GE137 := n5_; have NB135_137 := n6_; have NB137_135 := n7_; have NB136_137 := n8_; have NB137_136 := n9_; clear n0_ n1_ n2_ n3_ n4_ n5_ n6_ n7_ n8_ n9_; clear hb hbox hg; have hnb25 := NB137_135.out; have hnc25 := NB135_137.out; have hnb26 := NB137_136.out; have hnc26 := NB136_137.out; have hcz27_0 : w24.cell? ⟨gb137, 0, none⟩ = some (.int .i64 0) := (blk_cell BK137.out 0).trans rfl; have hcz27_1 : w24.cell? ⟨gb137, 1, none⟩ = some (.string (⟨#[]⟩ : ByteArray)) := (blk_cell BK137.out 1).trans rfl; have hcz27_2 : w24.cell? ⟨gb137, 2, none⟩ = some (.int .i64 0) := (blk_cell BK137.out 2).trans rfl; have hcz27_3 : w24.cell? ⟨gb137, 3, none⟩ = some (.string (⟨#[]⟩ : ByteArray)) := (blk_cell BK137.out 3).trans rfl; have hcz27_4 : w24.cell? ⟨gb137, 4, none⟩ = some (.int .i64 0) := (blk_cell BK137.out 4).trans rfl; have hfz27_0 := blk_frozen BK137.out 0; have hfz27_1 := blk_frozen BK137.out 1; have hfz27_2 := blk_frozen BK137.out 2; have hfz27_3 := blk_frozen BK137.out 3; have hfz27_4 := blk_frozen BK137.out 4; have hcz28_0 : w24.cell? ⟨gb135, 0, none⟩ = some (.int .i64 a0_0) := (blk_cell BK135.out 0).trans rfl; have hcz28_1 : w24.cell? ⟨gb135, 1, none⟩ = some (.bool true) := (blk_cell BK135.out 1).trans rfl; have hcz28_2 : w24.cell? ⟨gb135, 2, none⟩ = some (.string a0_2) := (blk_cell BK135.out 2).trans rfl; have hfz28_0 := blk_frozen BK135.out 0; have hfz28_1 := blk_frozen BK135.out 1; have hfz28_2 := blk_frozen BK135.out 2))
      have n0_ : Aside0 ((((((((w24.setCell ⟨gb137, 0, none⟩ (.int .i64 a0_0)).setCell ⟨gb137, 1, none⟩ (.string (⟨#[]⟩ : ByteArray))).setCell ⟨gb137, 2, none⟩ (.int .i64 0)).setCell ⟨gb137, 3, none⟩ (.string a0_2)).setCell ⟨gb137, 4, none⟩ (.int .i64 0)).setCell ⟨gb137, 0, none⟩ (.int .i64 (wrap64 (a0_0 - 3600)))).setCell ⟨gb137, 2, none⟩ (.int .i64 3600)).heap[gb135]? = some (.cells #[.int .i64 a0_0, .bool true, .string a0_2] 71 (0, 0))) := ⟨by (with_reducible repeat (first | refine blk_drewN ?_ _ | refine blk_drew ?_ | refine blk_alloc ?_ _)); refine blk_far ?_ NB135_137.out _; (with_reducible repeat (first | refine blk_drewN ?_ _ | refine blk_drew ?_ | refine blk_alloc ?_ _)); refine blk_far ?_ NB135_137.out _; (with_reducible repeat (first | refine blk_drewN ?_ _ | refine blk_drew ?_ | refine blk_alloc ?_ _)); refine blk_far ?_ NB135_137.out _; (with_reducible repeat (first | refine blk_drewN ?_ _ | refine blk_drew ?_ | refine blk_alloc ?_ _)); refine blk_far ?_ NB135_137.out _; (with_reducible repeat (first | refine blk_drewN ?_ _ | refine blk_drew ?_ | refine blk_alloc ?_ _)); refine blk_far ?_ NB135_137.out _; (with_reducible repeat (first | refine blk_drewN ?_ _ | refine blk_drew ?_ | refine blk_alloc ?_ _)); refine blk_far ?_ NB135_137.out _; (with_reducible repeat (first | refine blk_drewN ?_ _ | refine blk_drew ?_ | refine blk_alloc ?_ _)); refine blk_far ?_ NB135_137.out _; (with_reducible repeat (first | refine blk_drewN ?_ _ | refine blk_drew ?_ | refine blk_alloc ?_ _)); exact BK135.out⟩
      have n1_ : Aside0 ((((((((w24.setCell ⟨gb137, 0, none⟩ (.int .i64 a0_0)).setCell ⟨gb137, 1, none⟩ (.string (⟨#[]⟩ : ByteArray))).setCell ⟨gb137, 2, none⟩ (.int .i64 0)).setCell ⟨gb137, 3, none⟩ (.string a0_2)).setCell ⟨gb137, 4, none⟩ (.int .i64 0)).setCell ⟨gb137, 0, none⟩ (.int .i64 (wrap64 (a0_0 - 3600)))).setCell ⟨gb137, 2, none⟩ (.int .i64 3600)).heap[gb136]? = some (.cells #[.int .i64 0, .string (⟨#[]⟩ : ByteArray), .int .i64 0, .string (⟨#[]⟩ : ByteArray), .int .i64 0] 50 (0, 0))) := ⟨by (with_reducible repeat (first | refine blk_drewN ?_ _ | refine blk_drew ?_ | refine blk_alloc ?_ _)); refine blk_far ?_ NB136_137.out _; (with_reducible repeat (first | refine blk_drewN ?_ _ | refine blk_drew ?_ | refine blk_alloc ?_ _)); refine blk_far ?_ NB136_137.out _; (with_reducible repeat (first | refine blk_drewN ?_ _ | refine blk_drew ?_ | refine blk_alloc ?_ _)); refine blk_far ?_ NB136_137.out _; (with_reducible repeat (first | refine blk_drewN ?_ _ | refine blk_drew ?_ | refine blk_alloc ?_ _)); refine blk_far ?_ NB136_137.out _; (with_reducible repeat (first | refine blk_drewN ?_ _ | refine blk_drew ?_ | refine blk_alloc ?_ _)); refine blk_far ?_ NB136_137.out _; (with_reducible repeat (first | refine blk_drewN ?_ _ | refine blk_drew ?_ | refine blk_alloc ?_ _)); refine blk_far ?_ NB136_137.out _; (with_reducible repeat (first | refine blk_drewN ?_ _ | refine blk_drew ?_ | refine blk_alloc ?_ _)); refine blk_far ?_ NB136_137.out _; (with_reducible repeat (first | refine blk_drewN ?_ _ | refine blk_drew ?_ | refine blk_alloc ?_ _)); exact BK136.out⟩
      have n2_ : Aside0 ((((((((w24.setCell ⟨gb137, 0, none⟩ (.int .i64 a0_0)).setCell ⟨gb137, 1, none⟩ (.string (⟨#[]⟩ : ByteArray))).setCell ⟨gb137, 2, none⟩ (.int .i64 0)).setCell ⟨gb137, 3, none⟩ (.string a0_2)).setCell ⟨gb137, 4, none⟩ (.int .i64 0)).setCell ⟨gb137, 0, none⟩ (.int .i64 (wrap64 (a0_0 - 3600)))).setCell ⟨gb137, 2, none⟩ (.int .i64 3600)).heap[gb137]? = some (.cells #[.int .i64 (wrap64 (a0_0 - 3600)), .string (⟨#[]⟩ : ByteArray), .int .i64 3600, .string a0_2, .int .i64 0] 50 (0, 0))) := ⟨by (with_reducible repeat (first | refine blk_drewN ?_ _ | refine blk_drew ?_ | refine blk_alloc ?_ _)); refine blk_put (cs := #[.int .i64 (wrap64 (a0_0 - 3600)), .string (⟨#[]⟩ : ByteArray), .int .i64 0, .string a0_2, .int .i64 0]) ?_ 2 _ rfl; (with_reducible repeat (first | refine blk_drewN ?_ _ | refine blk_drew ?_ | refine blk_alloc ?_ _)); refine blk_put (cs := #[.int .i64 a0_0, .string (⟨#[]⟩ : ByteArray), .int .i64 0, .string a0_2, .int .i64 0]) ?_ 0 _ rfl; (with_reducible repeat (first | refine blk_drewN ?_ _ | refine blk_drew ?_ | refine blk_alloc ?_ _)); refine blk_put (cs := #[.int .i64 a0_0, .string (⟨#[]⟩ : ByteArray), .int .i64 0, .string a0_2, .int .i64 0]) ?_ 4 _ rfl; (with_reducible repeat (first | refine blk_drewN ?_ _ | refine blk_drew ?_ | refine blk_alloc ?_ _)); refine blk_put (cs := #[.int .i64 a0_0, .string (⟨#[]⟩ : ByteArray), .int .i64 0, .string (⟨#[]⟩ : ByteArray), .int .i64 0]) ?_ 3 _ rfl; (with_reducible repeat (first | refine blk_drewN ?_ _ | refine blk_drew ?_ | refine blk_alloc ?_ _)); refine blk_put (cs := #[.int .i64 a0_0, .string (⟨#[]⟩ : ByteArray), .int .i64 0, .string (⟨#[]⟩ : ByteArray), .int .i64 0]) ?_ 2 _ rfl; (with_reducible repeat (first | refine blk_drewN ?_ _ | refine blk_drew ?_ | refine blk_alloc ?_ _)); refine blk_put (cs := #[.int .i64 a0_0, .string (⟨#[]⟩ : ByteArray), .int .i64 0, .string (⟨#[]⟩ : ByteArray), .int .i64 0]) ?_ 1 _ rfl; (with_reducible repeat (first | refine blk_drewN ?_ _ | refine blk_drew ?_ | refine blk_alloc ?_ _)); refine blk_put (cs := #[.int .i64 0, .string (⟨#[]⟩ : ByteArray), .int .i64 0, .string (⟨#[]⟩ : ByteArray), .int .i64 0]) ?_ 0 _ rfl; (with_reducible repeat (first | refine blk_drewN ?_ _ | refine blk_drew ?_ | refine blk_alloc ?_ _)); exact BK137.out⟩
      have n3_ : Aside0 (Below w.heap.size w (((((((w24.setCell ⟨gb137, 0, none⟩ (.int .i64 a0_0)).setCell ⟨gb137, 1, none⟩ (.string (⟨#[]⟩ : ByteArray))).setCell ⟨gb137, 2, none⟩ (.int .i64 0)).setCell ⟨gb137, 3, none⟩ (.string a0_2)).setCell ⟨gb137, 4, none⟩ (.int .i64 0)).setCell ⟨gb137, 0, none⟩ (.int .i64 (wrap64 (a0_0 - 3600)))).setCell ⟨gb137, 2, none⟩ (.int .i64 3600))) := ⟨by repeat (first | (with_reducible first | exact HB.out | apply below_alloc | apply pw_below_drewN | apply below_drew1 | refine below_set ?_ GE135.out | refine below_set ?_ GE136.out | refine below_set ?_ GE137.out) | exact HB.out)⟩
      (try clear BK135)
      (try clear BK136)
      (try clear BK137)
      (try clear HB)
      generalize (((((((w24.setCell ⟨gb137, 0, none⟩ (.int .i64 a0_0)).setCell ⟨gb137, 1, none⟩ (.string (⟨#[]⟩ : ByteArray))).setCell ⟨gb137, 2, none⟩ (.int .i64 0)).setCell ⟨gb137, 3, none⟩ (.string a0_2)).setCell ⟨gb137, 4, none⟩ (.int .i64 0)).setCell ⟨gb137, 0, none⟩ (.int .i64 (wrap64 (a0_0 - 3600)))).setCell ⟨gb137, 2, none⟩ (.int .i64 3600)) = w29 at n0_ n1_ n2_ n3_ ⊢
      have BK135 := n0_
      have BK136 := n1_
      have BK137 := n2_
      have HB := n3_
      clear n0_ n1_ n2_ n3_
      have n0_ := Aside0.mk (blk_drew BK135.out)
      have n1_ := Aside0.mk (blk_drew BK136.out)
      have n2_ := Aside0.mk (blk_drew BK137.out)
      have n3_ := Aside0.mk (below_drew1 HB.out)
      clear BK135
      clear BK136
      clear BK137
      clear HB
      have BK135 := n0_
      have BK136 := n1_
      have BK137 := n2_
      have HB := n3_
      clear n0_ n1_ n2_ n3_
      refine start_ (n := 11) (S := fun w' => w'.cell? ⟨gb137, 0, none⟩ = some (.int .i64 (wrap64 (a0_0 - 3600))) ∧ w'.cell? ⟨gb137, 1, none⟩ = some (.string (⟨#[]⟩ : ByteArray)) ∧ w'.cell? ⟨gb137, 2, none⟩ = some (.int .i64 3600) ∧ w'.cell? ⟨gb137, 3, none⟩ = some (.string a0_2) ∧ w'.cell? ⟨gb137, 4, none⟩ = some (.int .i64 0)) (ds := []) #[false, false, false, false, false, false, false, false, false, false, false] (by kernel_rfl) rfl rfl ⟨(blk_cell BK137.out 0).trans rfl, (blk_cell BK137.out 1).trans rfl, (blk_cell BK137.out 2).trans rfl, (blk_cell BK137.out 3).trans rfl, (blk_cell BK137.out 4).trans rfl⟩ (fun hHeld => ?_); refine with_tabW back_era.tab4 back_era.bits4 (fun HT_ HW_ => ?_)
      generalize w29.drew = w30 at BK135 BK136 BK137 HB hHeld ⊢
      refine pure_ (i := 1) (N := some 18) (v := ?_) (a' := ?_) #[false, true, false, false, false, false, false, false, false, false, false] rfl rfl (any_of HT_.out (by kernel_rfl)) (fun _ _ _ h => h) (Or.inl ⟨by rfl, ?_⟩) ?_ ?_
      rotate_left
      · intro w'
        go_simp
        with_reducible rfl
      rotate_left
      · simp only [Act.put, List.setIfInBounds_toArray, List.set_cons_zero, List.set_cons_succ, i64_w, i32_w]
        rfl
      refine take_ (i := 0) (N := some 17) (v := ?_) (a' := ?_) #[true, true, false, false, false, false, false, false, false, false, false] rfl rfl (take_ofW HT_.out HW_.out (by kernel_rfl)) (fun _ _ _ h => h) (Or.inl ⟨by rfl, ?_⟩) hHeld ?_ ?_
      rotate_left
      · rintro w' ⟨s0, s1, s2, s3, s4⟩
        go_simp
        with_reducible rfl
      rotate_left
      · simp only [Act.put, List.setIfInBounds_toArray, List.set_cons_zero, List.set_cons_succ, i64_w, i32_w]
        rfl
      refine take_ (i := 2) (N := some 19) (v := ?_) (a' := ?_) #[true, true, true, false, false, false, false, false, false, false, false] rfl rfl (take_ofW HT_.out HW_.out (by kernel_rfl)) (fun _ _ _ h => h) (Or.inl ⟨by rfl, ?_⟩) hHeld ?_ ?_
      rotate_left
      · rintro w' ⟨s0, s1, s2, s3, s4⟩
        go_simp
        with_reducible rfl
      rotate_left
      · simp only [Act.put, List.setIfInBounds_toArray, List.set_cons_zero, List.set_cons_succ, i64_w, i32_w]
        rfl
      refine pure_ (i := 3) (N := some 20) (v := ?_) (a' := ?_) #[true, true, true, true, false, false, false, false, false, false, false] rfl rfl (any_of HT_.out (by kernel_rfl)) (fun _ _ _ h => h) (Or.inl ⟨by rfl, ?_⟩) ?_ ?_
      rotate_left
      · intro w'
        go_simp
        with_reducible rfl
      rotate_left
      · simp only [Act.put, List.setIfInBounds_toArray, List.set_cons_zero, List.set_cons_succ, i64_w, i32_w]
        rfl
      refine pure_ (i := 4) (N := some 21) (v := ?_) (a' := ?_) #[true, true, true, true, true, false, false, false, false, false, false] rfl rfl (any_of HT_.out (by kernel_rfl)) (fun _ _ _ h => h) (Or.inl ⟨by rfl, ?_⟩) ?_ ?_
      rotate_left
      · intro w'
        go_simp
        with_reducible rfl
      rotate_left
      · simp only [Act.put, List.setIfInBounds_toArray, List.set_cons_zero, List.set_cons_succ, i64_w, i32_w]
        rfl
      refine pure_ (i := 5) (N := some 22) (v := undef) (a' := ?_) #[true, true, true, true, true, true, false, false, false, false, false] rfl rfl (any_of HT_.out (by kernel_rfl)) (fun _ _ _ h => h) (Or.inr ⟨by rfl, rfl⟩) ?_ ?_
      rotate_left
      · simp only [Act.put, List.setIfInBounds_toArray, List.set_cons_zero, List.set_cons_succ, i64_w, i32_w]
        rfl
      refine pure_ (i := 6) (N := some 23) (v := undef) (a' := ?_) #[true, true, true, true, true, true, true, false, false, false, false] rfl rfl (any_of HT_.out (by kernel_rfl)) (fun _ _ _ h => h) (Or.inr ⟨by rfl, rfl⟩) ?_ ?_
      rotate_left
      · simp only [Act.put, List.setIfInBounds_toArray, List.set_cons_zero, List.set_cons_succ, i64_w, i32_w]
        rfl
      refine pure_ (i := 7) (N := some 24) (v := undef) (a' := ?_) #[true, true, true, true, true, true, true, true, false, false, false] rfl rfl (any_of HT_.out (by kernel_rfl)) (fun _ _ _ h => h) (Or.inr ⟨by rfl, rfl⟩) ?_ ?_
      rotate_left
      · simp only [Act.put, List.setIfInBounds_toArray, List.set_cons_zero, List.set_cons_succ, i64_w, i32_w]
        rfl
      refine pure_ (i := 8) (N := some 25) (v := ?_) (a' := ?_) #[true, true, true, true, true, true, true, true, true, false, false] rfl rfl (any_of HT_.out (by kernel_rfl)) (fun _ _ _ h => h) (Or.inl ⟨by rfl, ?_⟩) ?_ ?_
      rotate_left
      · intro w'
        go_simp
        with_reducible rfl
      rotate_left
      · simp only [Act.put, List.setIfInBounds_toArray, List.set_cons_zero, List.set_cons_succ, i64_w, i32_w]
        rfl
      refine one_ (i := 9) (N := none) #[true, true, true, true, true, true, true, true, true, true, false] rfl rfl (one_of HT_.out (by kernel_rfl)) (by decide) (fun K hK => ?_)
      have hs31 : w30.cell? ⟨gb136, 0, none⟩ = some (.int .i64 0) := (blk_cell BK136.out 0).trans rfl
      have hfs31 := blk_frozen BK136.out 0
      have hns31_0 := NB135_136.out
      have hns31_2 := NB137_136.out
      have hms31_0 := NB136_135.out
      have hms31_2 := NB136_137.out
      have hs32 : w30.cell? ⟨gb136, 1, none⟩ = some (.string (⟨#[]⟩ : ByteArray)) := (blk_cell BK136.out 1).trans rfl
      have hfs32 := blk_frozen BK136.out 1
      have hns32_0 := NB135_136.out
      have hns32_2 := NB137_136.out
      have hms32_0 := NB136_135.out
      have hms32_2 := NB136_137.out
      have hs33 : w30.cell? ⟨gb136, 2, none⟩ = some (.int .i64 0) := (blk_cell BK136.out 2).trans rfl
      have hfs33 := blk_frozen BK136.out 2
      have hns33_0 := NB135_136.out
      have hns33_2 := NB137_136.out
      have hms33_0 := NB136_135.out
      have hms33_2 := NB136_137.out
      have hs34 : w30.cell? ⟨gb136, 3, none⟩ = some (.string (⟨#[]⟩ : ByteArray)) := (blk_cell BK136.out 3).trans rfl
      have hfs34 := blk_frozen BK136.out 3
      have hns34_0 := NB135_136.out
      have hns34_2 := NB137_136.out
      have hms34_0 := NB136_135.out
      have hms34_2 := NB136_137.out
      have hs35 : w30.cell? ⟨gb136, 4, none⟩ = some (.int .i64 0) := (blk_cell BK136.out 4).trans rfl
      have hfs35 := blk_frozen BK136.out 4
      have hns35_0 := NB135_136.out
      have hns35_2 := NB137_136.out
      have hms35_0 := NB136_135.out
      have hms35_2 := NB136_137.out
      refine skip_ (w1 := ?_) (by rfl) rfl ?_ ?_
      rotate_left
      · go_simp
        rfl
      refine hK.out _ _ ⟨((cell_far (p := ⟨gb136, _, none⟩) NB137_136.out _).trans (((cell_far (p := ⟨gb136, _, none⟩) NB137_136.out _).trans (((cell_far (p := ⟨gb136, _, none⟩) NB137_136.out _).trans (((cell_far (p := ⟨gb136, _, none⟩) NB137_136.out _).trans (((cell_far (p := ⟨gb136, _, none⟩) NB137_136.out _).trans (hHeld.1)))))))))), ((cell_far (p := ⟨gb136, _, none⟩) NB137_136.out _).trans (((cell_far (p := ⟨gb136, _, none⟩) NB137_136.out _).trans (((cell_far (p := ⟨gb136, _, none⟩) NB137_136.out _).trans (((cell_far (p := ⟨gb136, _, none⟩) NB137_136.out _).trans (((cell_far (p := ⟨gb136, _, none⟩) NB137_136.out _).trans (hHeld.2.1)))))))))), ((cell_far (p := ⟨gb136, _, none⟩) NB137_136.out _).trans (((cell_far (p := ⟨gb136, _, none⟩) NB137_136.out _).trans (((cell_far (p := ⟨gb136, _, none⟩) NB137_136.out _).trans (((cell_far (p := ⟨gb136, _, none⟩) NB137_136.out _).trans (((cell_far (p := ⟨gb136, _, none⟩) NB137_136.out _).trans (hHeld.2.2.1)))))))))), ((cell_far (p := ⟨gb136, _, none⟩) NB137_136.out _).trans (((cell_far (p := ⟨gb136, _, none⟩) NB137_136.out _).trans (((cell_far (p := ⟨gb136, _, none⟩) NB137_136.out _).trans (((cell_far (p := ⟨gb136, _, none⟩) NB137_136.out _).trans (((cell_far (p := ⟨gb136, _, none⟩) NB137_136.out _).trans (hHeld.2.2.2.1)))))))))), ((cell_far (p := ⟨gb136, _, none⟩) NB137_136.out _).trans (((cell_far (p := ⟨gb136, _, none⟩) NB137_136.out _).trans (((cell_far (p := ⟨gb136, _, none⟩) NB137_136.out _).trans (((cell_far (p := ⟨gb136, _, none⟩) NB137_136.out _).trans (((cell_far (p := ⟨gb136, _, none⟩) NB137_136.out _).trans (hHeld.2.2.2.2))))))))))⟩ (fun hHeld => ?_)
      clear hK K
      refine pure_ (i := 10) (N := some 3) (v := ?_) (a' := ?_) #[true, true, true, true, true, true, true, true, true, true, true] rfl rfl (any_of HT_.out (by kernel_rfl)) (fun _ _ _ h => h) (Or.inl ⟨by rfl, ?_⟩) ?_ ?_
      rotate_left
      · intro w'
        go_simp
        with_reducible rfl
      rotate_left
      · simp only [Act.put, List.setIfInBounds_toArray, List.set_cons_zero, List.set_cons_succ, i64_w, i32_w]
        rfl
      refine done_ (done_of HT_.out (by kernel_rfl)) ?_
      try go_wp2
      refine bodyPost_ret (results_ct rfl _ _ gb136 50 #[.int .i64 (wrap64 (a0_0 - 3600)), .string (⟨#[]⟩ : ByteArray), .int .i64 3600, .string a0_2, .int .i64 0] (0, 0) _ rfl (by (with_reducible repeat (first | refine blk_drewN ?_ _ | refine blk_drew ?_ | refine blk_alloc ?_ _)); refine blk_put (cs := #[.int .i64 (wrap64 (a0_0 - 3600)), .string (⟨#[]⟩ : ByteArray), .int .i64 3600, .string a0_2, .int .i64 0]) ?_ 4 _ rfl; (with_reducible repeat (first | refine blk_drewN ?_ _ | refine blk_drew ?_ | refine blk_alloc ?_ _)); refine blk_put (cs := #[.int .i64 (wrap64 (a0_0 - 3600)), .string (⟨#[]⟩ : ByteArray), .int .i64 3600, .string (⟨#[]⟩ : ByteArray), .int .i64 0]) ?_ 3 _ rfl; (with_reducible repeat (first | refine blk_drewN ?_ _ | refine blk_drew ?_ | refine blk_alloc ?_ _)); refine blk_put (cs := #[.int .i64 (wrap64 (a0_0 - 3600)), .string (⟨#[]⟩ : ByteArray), .int .i64 0, .string (⟨#[]⟩ : ByteArray), .int .i64 0]) ?_ 2 _ rfl; (with_reducible repeat (first | refine blk_drewN ?_ _ | refine blk_drew ?_ | refine blk_alloc ?_ _)); refine blk_put (cs := #[.int .i64 (wrap64 (a0_0 - 3600)), .string (⟨#[]⟩ : ByteArray), .int .i64 0, .string (⟨#[]⟩ : ByteArray), .int .i64 0]) ?_ 1 _ rfl; (with_reducible repeat (first | refine blk_drewN ?_ _ | refine blk_drew ?_ | refine blk_alloc ?_ _)); refine blk_put (cs := #[.int .i64 0, .string (⟨#[]⟩ : ByteArray), .int .i64 0, .string (⟨#[]⟩ : ByteArray), .int .i64 0]) ?_ 0 _ rfl; (with_reducible repeat (first | refine blk_drewN ?_ _ | refine blk_drew ?_ | refine blk_alloc ?_ _)); exact BK136.out) Tryd.underlying50 rfl (by kernel_rfl)) rfl ?_
      exact ⟨by first | rfl | (simp [errW_none, errW_some] <;> rfl) | (simp [*, errW_none, errW_some] <;> rfl), by repeat (first | (with_reducible first | exact HB.out | apply below_alloc | apply pw_below_drewN | apply below_drew1 | refine below_set ?_ GE135.out | refine below_set ?_ GE136.out | refine below_set ?_ GE137.out) | exact HB.out)⟩
  · replace c2 := Bool.eq_false_iff.mpr c2
    subst c2
    have H1 : (if a0_0 ≥ (-64800) then (some (a0_0, (⟨#[]⟩ : ByteArray), 0, a0_2, 0, decide (a0_0 ≤ 64800))) else (some (a0_0, (⟨#[]⟩ : ByteArray), 0, a0_2, 0, false))) = some (r1, r2, r3, r4, r5, r6) := by rw [if_neg (show ¬ (false = true) by decide)] at H; exact H
    clear H
    have H := H1
    clear H1
    by_cases c36 : a0_0 ≥ (-64800)
    · rw [if_pos c36] at H
      have c36b0 : decide ((-64800) ≤ a0_0) = true := decide_eq_true c36
      clear c36
      simp only [Option.some.injEq, Prod.mk.injEq] at H
      obtain ⟨rfl, rfl, rfl, rfl, rfl, rfl⟩ := H
      go_enter Tryd.func20, Tryd.ntmps20
      try go_wp2_with (first | ((with_reducible refine gate_dst (N := 1) rfl ?_); refine box_event ?hg (N := 1) ?hd (cs := #[.int .i64 a0_0, .bool false, .string a0_2]) (t := 71) ?hr ?_; (case hd => rfl); (case hg => rfl); (case hr => first | (go_simp; done) | (go_simp; rfl)); intro gb135 hg w37 hbox hb; have n0_ := Aside0.mk (below_step (by repeat (first | (with_reducible first | exact HB.out | apply below_alloc | apply pw_below_drewN | apply below_drew1) | exact HB.out)) hb); have n1_ := Aside0.mk (hbox); have n2_ := Aside0.mk ((by rw [hg]; exact (below_size (by repeat (first | (with_reducible first | exact HB.out | apply below_alloc | apply pw_below_drewN | apply below_drew1) | exact HB.out))) : w.heap.size ≤ gb135)); have n3_ := Aside0.mk ((by rw [hg]; exact (below_size (by repeat (first | (with_reducible first | exact HB.out | apply below_alloc | apply pw_below_drewN | apply below_drew1) | exact HB.out))) : w.heap.size ≤ gb135)); clear HB; have HB := n0_; have BK135 := n1_; have GW135 := n2_; have GE135 := n3_; clear n0_ n1_ n2_ n3_; clear hb hbox hg) | ((with_reducible refine gate_dst (N := 2) rfl ?_); refine box_event ?hg (N := 2) ?hd (cs := #[.int .i64 0, .string (⟨#[]⟩ : ByteArray), .int .i64 0, .string (⟨#[]⟩ : ByteArray), .int .i64 0]) (t := 50) ?hr ?_; (case hd => rfl); (case hg => rfl); (case hr => first | (go_simp; done) | (go_simp; rfl)); intro gb136 hg w38 hbox hb; have n0_ := Aside0.mk (blk_below (g := gb135) (o := .cells #[.int .i64 a0_0, .bool false, .string a0_2] 71 (0, 0)) (by (with_reducible repeat (first | refine blk_drewN ?_ _ | refine blk_drew ?_ | refine blk_alloc ?_ _)); exact BK135.out) hb); have n1_ := Aside0.mk (below_step (by repeat (first | (with_reducible first | exact HB.out | apply below_alloc | apply pw_below_drewN | apply below_drew1 | refine below_set ?_ GE135.out) | exact HB.out)) hb); have n2_ := Aside0.mk (hbox); have n3_ := Aside0.mk ((by rw [hg]; exact (below_size (by repeat (first | (with_reducible first | exact HB.out | apply below_alloc | apply pw_below_drewN | apply below_drew1 | refine below_set ?_ GE135.out) | exact HB.out))) : w.heap.size ≤ gb136)); have n4_ := Aside0.mk ((by rw [hg]; exact (below_size (by repeat (first | (with_reducible first | exact HB.out | apply below_alloc | apply pw_below_drewN | apply below_drew1 | refine below_set ?_ GE135.out) | exact HB.out))) : w.heap.size ≤ gb136)); have n5_ := Aside0.mk ((by rw [hg]; exact Nat.ne_of_lt (blk_lt (g := gb135) (o := .cells #[.int .i64 a0_0, .bool false, .string a0_2] 71 (0, 0)) (by (with_reducible repeat (first | refine blk_drewN ?_ _ | refine blk_drew ?_ | refine blk_alloc ?_ _)); exact BK135.out)) : gb135 ≠ gb136)); have n6_ := Aside0.mk ((by rw [hg]; exact Nat.ne_of_gt (blk_lt (g := gb135) (o := .cells #[.int .i64 a0_0, .bool false, .string a0_2] 71 (0, 0)) (by (with_reducible repeat (first | refine blk_drewN ?_ _ | refine blk_drew ?_ | refine blk_alloc ?_ _)); exact BK135.out)) : gb136 ≠ gb135)); clear BK135; clear HB; have BK135 := n0_; have HB := n1_; have BK136 := n2_; have GW136 := n3_; have GE136 := n4_; have NB135_136 := n5_; have NB136_135 := n6_; clear n0_ n1_ n2_ n3_ n4_ n5_ n6_; clear hb hbox hg; have hnb39 := NB135_136.out; have hnc39 := NB136_135.out; have hcz40_0 : w38.cell? ⟨gb135, 0, none⟩ = some (.int .i64 a0_0) := (blk_cell BK135.out 0).trans rfl; have hcz40_1 : w38.cell? ⟨gb135, 1, none⟩ = some (.bool false) := (blk_cell BK135.out 1).trans rfl; have hcz40_2 : w38.cell? ⟨gb135, 2, none⟩ = some (.string a0_2) := (blk_cell BK135.out 2).trans rfl; have hfz40_0 := blk_frozen BK135.out 0; have hfz40_1 := blk_frozen BK135.out 1; have hfz40_2 := blk_frozen BK135.out 2) | ((with_reducible refine gate_dst (N := 4) rfl ?_); refine box_event ?hg (N := 4) ?hd (cs := #[.int .i64 0, .string (⟨#[]⟩ : ByteArray), .int .i64 0, .string (⟨#[]⟩ : ByteArray), .int .i64 0]) (t := 50) ?hr ?_; (case hd => rfl); (case hg => rfl); (case hr => first | (go_simp; done) | (go_simp; rfl)); intro gb137 hg w41 hbox hb; have n0_ := Aside0.mk (blk_below (g := gb135) (o := .cells #[.int .i64 a0_0, .bool false, .string a0_2] 71 (0, 0)) (by (with_reducible repeat (first | refine blk_drewN ?_ _ | refine blk_drew ?_ | refine blk_alloc ?_ _)); exact BK135.out) hb); have n1_ := Aside0.mk (blk_below (g := gb136) (o := .cells #[.int .i64 0, .string (⟨#[]⟩ : ByteArray), .int .i64 0, .string (⟨#[]⟩ : ByteArray), .int .i64 0] 50 (0, 0)) (by (with_reducible repeat (first | refine blk_drewN ?_ _ | refine blk_drew ?_ | refine blk_alloc ?_ _)); exact BK136.out) hb); have n2_ := Aside0.mk (below_step (by repeat (first | (with_reducible first | exact HB.out | apply below_alloc | apply pw_below_drewN | apply below_drew1 | refine below_set ?_ GE135.out | refine below_set ?_ GE136.out) | exact HB.out)) hb); have n3_ := Aside0.mk (hbox); have n4_ := Aside0.mk ((by rw [hg]; exact (below_size (by repeat (first | (with_reducible first | exact HB.out | apply below_alloc | apply pw_below_drewN | apply below_drew1 | refine below_set ?_ GE135.out | refine below_set ?_ GE136.out) | exact HB.out))) : w.heap.size ≤ gb137)); have n5_ := Aside0.mk ((by rw [hg]; exact (below_size (by repeat (first | (with_reducible first | exact HB.out | apply below_alloc | apply pw_below_drewN | apply below_drew1 | refine below_set ?_ GE135.out | refine below_set ?_ GE136.out) | exact HB.out))) : w.heap.size ≤ gb137)); have n6_ := Aside0.mk ((by rw [hg]; exact Nat.ne_of_lt (blk_lt (g := gb135) (o := .cells #[.int .i64 a0_0, .bool false, .string a0_2] 71 (0, 0)) (by (with_reducible repeat (first | refine blk_drewN ?_ _ | refine blk_drew ?_ | refine blk_alloc ?_ _)); exact BK135.out)) : gb135 ≠ gb137)); have n7_ := Aside0.mk ((by rw [hg]; exact Nat.ne_of_gt (blk_lt (g := gb135) (o := .cells #[.int .i64 a0_0, .bool false, .string a0_2] 71 (0, 0)) (by (with_reducible repeat (first | refine blk_drewN ?_ _ | refine blk_drew ?_ | refine blk_alloc ?_ _)); exact BK135.out)) : gb137 ≠ gb135)); have n8_ := Aside0.mk ((by rw [hg]; exact Nat.ne_of_lt (blk_lt (g := gb136) (o := .cells #[.int .i64 0, .string (⟨#[]⟩ : ByteArray), .int .i64 0, .string (⟨#[]⟩ : ByteArray), .int .i64 0] 50 (0, 0)) (by (with_reducible repeat (first | refine blk_drewN ?_ _ | refine blk_drew ?_ | refine blk_alloc ?_ _)); exact BK136.out)) : gb136 ≠ gb137)); have n9_ := Aside0.mk ((by rw [hg]; exact Nat.ne_of_gt (blk_lt (g := gb136) (o := .cells #[.int .i64 0, .string (⟨#[]⟩ : ByteArray), .int .i64 0, .string (⟨#[]⟩ : ByteArray), .int .i64 0] 50 (0, 0)) (by (with_reducible repeat (first | refine blk_drewN ?_ _ | refine blk_drew ?_ | refine blk_alloc ?_ _)); exact BK136.out)) : gb137 ≠ gb136)); clear BK135; clear BK136; clear HB; have BK135 := n0_; have BK136 := n1_; have HB := n2_; have BK137 := n3_; have GW137 := n4_; have GE137 := n5_; have NB135_137 := n6_; have NB137_135 := n7_; have NB136_137 := n8_; have NB137_136 := n9_; clear n0_ n1_ n2_ n3_ n4_ n5_ n6_ n7_ n8_ n9_; clear hb hbox hg; have hnb42 := NB137_135.out; have hnc42 := NB135_137.out; have hnb43 := NB137_136.out; have hnc43 := NB136_137.out; have hcz44_0 : w41.cell? ⟨gb137, 0, none⟩ = some (.int .i64 0) := (blk_cell BK137.out 0).trans rfl; have hcz44_1 : w41.cell? ⟨gb137, 1, none⟩ = some (.string (⟨#[]⟩ : ByteArray)) := (blk_cell BK137.out 1).trans rfl; have hcz44_2 : w41.cell? ⟨gb137, 2, none⟩ = some (.int .i64 0) := (blk_cell BK137.out 2).trans rfl; have hcz44_3 : w41.cell? ⟨gb137, 3, none⟩ = some (.string (⟨#[]⟩ : ByteArray)) := (blk_cell BK137.out 3).trans rfl; have hcz44_4 : w41.cell? ⟨gb137, 4, none⟩ = some (.int .i64 0) := (blk_cell BK137.out 4).trans rfl; have hfz44_0 := blk_frozen BK137.out 0; have hfz44_1 := blk_frozen BK137.out 1; have hfz44_2 := blk_frozen BK137.out 2; have hfz44_3 := blk_frozen BK137.out 3; have hfz44_4 := blk_frozen BK137.out 4; have hcz45_0 : w41.cell? ⟨gb135, 0, none⟩ = some (.int .i64 a0_0) := (blk_cell BK135.out 0).trans rfl; have hcz45_1 : w41.cell? ⟨gb135, 1, none⟩ = some (.bool false) := (blk_cell BK135.out 1).trans rfl; have hcz45_2 : w41.cell? ⟨gb135, 2, none⟩ = some (.string a0_2) := (blk_cell BK135.out 2).trans rfl; have hfz45_0 := blk_frozen BK135.out 0; have hfz45_1 := blk_frozen BK135.out 1; have hfz45_2 := blk_frozen BK135.out 2))
      have n0_ : Aside0 ((((((w41.setCell ⟨gb137, 0, none⟩ (.int .i64 a0_0)).setCell ⟨gb137, 1, none⟩ (.string (⟨#[]⟩ : ByteArray))).setCell ⟨gb137, 2, none⟩ (.int .i64 0)).setCell ⟨gb137, 3, none⟩ (.string a0_2)).setCell ⟨gb137, 4, none⟩ (.int .i64 0)).heap[gb135]? = some (.cells #[.int .i64 a0_0, .bool false, .string a0_2] 71 (0, 0))) := ⟨by (with_reducible repeat (first | refine blk_drewN ?_ _ | refine blk_drew ?_ | refine blk_alloc ?_ _)); refine blk_far ?_ NB135_137.out _; (with_reducible repeat (first | refine blk_drewN ?_ _ | refine blk_drew ?_ | refine blk_alloc ?_ _)); refine blk_far ?_ NB135_137.out _; (with_reducible repeat (first | refine blk_drewN ?_ _ | refine blk_drew ?_ | refine blk_alloc ?_ _)); refine blk_far ?_ NB135_137.out _; (with_reducible repeat (first | refine blk_drewN ?_ _ | refine blk_drew ?_ | refine blk_alloc ?_ _)); refine blk_far ?_ NB135_137.out _; (with_reducible repeat (first | refine blk_drewN ?_ _ | refine blk_drew ?_ | refine blk_alloc ?_ _)); refine blk_far ?_ NB135_137.out _; (with_reducible repeat (first | refine blk_drewN ?_ _ | refine blk_drew ?_ | refine blk_alloc ?_ _)); exact BK135.out⟩
      have n1_ : Aside0 ((((((w41.setCell ⟨gb137, 0, none⟩ (.int .i64 a0_0)).setCell ⟨gb137, 1, none⟩ (.string (⟨#[]⟩ : ByteArray))).setCell ⟨gb137, 2, none⟩ (.int .i64 0)).setCell ⟨gb137, 3, none⟩ (.string a0_2)).setCell ⟨gb137, 4, none⟩ (.int .i64 0)).heap[gb136]? = some (.cells #[.int .i64 0, .string (⟨#[]⟩ : ByteArray), .int .i64 0, .string (⟨#[]⟩ : ByteArray), .int .i64 0] 50 (0, 0))) := ⟨by (with_reducible repeat (first | refine blk_drewN ?_ _ | refine blk_drew ?_ | refine blk_alloc ?_ _)); refine blk_far ?_ NB136_137.out _; (with_reducible repeat (first | refine blk_drewN ?_ _ | refine blk_drew ?_ | refine blk_alloc ?_ _)); refine blk_far ?_ NB136_137.out _; (with_reducible repeat (first | refine blk_drewN ?_ _ | refine blk_drew ?_ | refine blk_alloc ?_ _)); refine blk_far ?_ NB136_137.out _; (with_reducible repeat (first | refine blk_drewN ?_ _ | refine blk_drew ?_ | refine blk_alloc ?_ _)); refine blk_far ?_ NB136_137.out _; (with_reducible repeat (first | refine blk_drewN ?_ _ | refine blk_drew ?_ | refine blk_alloc ?_ _)); refine blk_far ?_ NB136_137.out _; (with_reducible repeat (first | refine blk_drewN ?_ _ | refine blk_drew ?_ | refine blk_alloc ?_ _)); exact BK136.out⟩
      have n2_ : Aside0 ((((((w41.setCell ⟨gb137, 0, none⟩ (.int .i64 a0_0)).setCell ⟨gb137, 1, none⟩ (.string (⟨#[]⟩ : ByteArray))).setCell ⟨gb137, 2, none⟩ (.int .i64 0)).setCell ⟨gb137, 3, none⟩ (.string a0_2)).setCell ⟨gb137, 4, none⟩ (.int .i64 0)).heap[gb137]? = some (.cells #[.int .i64 a0_0, .string (⟨#[]⟩ : ByteArray), .int .i64 0, .string a0_2, .int .i64 0] 50 (0, 0))) := ⟨by (with_reducible repeat (first | refine blk_drewN ?_ _ | refine blk_drew ?_ | refine blk_alloc ?_ _)); refine blk_put (cs := #[.int .i64 a0_0, .string (⟨#[]⟩ : ByteArray), .int .i64 0, .string a0_2, .int .i64 0]) ?_ 4 _ rfl; (with_reducible repeat (first | refine blk_drewN ?_ _ | refine blk_drew ?_ | refine blk_alloc ?_ _)); refine blk_put (cs := #[.int .i64 a0_0, .string (⟨#[]⟩ : ByteArray), .int .i64 0, .string (⟨#[]⟩ : ByteArray), .int .i64 0]) ?_ 3 _ rfl; (with_reducible repeat (first | refine blk_drewN ?_ _ | refine blk_drew ?_ | refine blk_alloc ?_ _)); refine blk_put (cs := #[.int .i64 a0_0, .string (⟨#[]⟩ : ByteArray), .int .i64 0, .string (⟨#[]⟩ : ByteArray), .int .i64 0]) ?_ 2 _ rfl; (with_reducible repeat (first | refine blk_drewN ?_ _ | refine blk_drew ?_ | refine blk_alloc ?_ _)); refine blk_put (cs := #[.int .i64 a0_0, .string (⟨#[]⟩ : ByteArray), .int .i64 0, .string (⟨#[]⟩ : ByteArray), .int .i64 0]) ?_ 1 _ rfl; (with_reducible repeat (first | refine blk_drewN ?_ _ | refine blk_drew ?_ | refine blk_alloc ?_ _)); refine blk_put (cs := #[.int .i64 0, .string (⟨#[]⟩ : ByteArray), .int .i64 0, .string (⟨#[]⟩ : ByteArray), .int .i64 0]) ?_ 0 _ rfl; (with_reducible repeat (first | refine blk_drewN ?_ _ | refine blk_drew ?_ | refine blk_alloc ?_ _)); exact BK137.out⟩
      have n3_ : Aside0 (Below w.heap.size w (((((w41.setCell ⟨gb137, 0, none⟩ (.int .i64 a0_0)).setCell ⟨gb137, 1, none⟩ (.string (⟨#[]⟩ : ByteArray))).setCell ⟨gb137, 2, none⟩ (.int .i64 0)).setCell ⟨gb137, 3, none⟩ (.string a0_2)).setCell ⟨gb137, 4, none⟩ (.int .i64 0))) := ⟨by repeat (first | (with_reducible first | exact HB.out | apply below_alloc | apply pw_below_drewN | apply below_drew1 | refine below_set ?_ GE135.out | refine below_set ?_ GE136.out | refine below_set ?_ GE137.out) | exact HB.out)⟩
      (try clear BK135)
      (try clear BK136)
      (try clear BK137)
      (try clear HB)
      generalize (((((w41.setCell ⟨gb137, 0, none⟩ (.int .i64 a0_0)).setCell ⟨gb137, 1, none⟩ (.string (⟨#[]⟩ : ByteArray))).setCell ⟨gb137, 2, none⟩ (.int .i64 0)).setCell ⟨gb137, 3, none⟩ (.string a0_2)).setCell ⟨gb137, 4, none⟩ (.int .i64 0)) = w46 at n0_ n1_ n2_ n3_ ⊢
      have BK135 := n0_
      have BK136 := n1_
      have BK137 := n2_
      have HB := n3_
      clear n0_ n1_ n2_ n3_
      have n0_ := Aside0.mk (blk_drew BK135.out)
      have n1_ := Aside0.mk (blk_drew BK136.out)
      have n2_ := Aside0.mk (blk_drew BK137.out)
      have n3_ := Aside0.mk (below_drew1 HB.out)
      clear BK135
      clear BK136
      clear BK137
      clear HB
      have BK135 := n0_
      have BK136 := n1_
      have BK137 := n2_
      have HB := n3_
      clear n0_ n1_ n2_ n3_
      refine start_ (n := 11) (S := fun w' => w'.cell? ⟨gb137, 0, none⟩ = some (.int .i64 a0_0) ∧ w'.cell? ⟨gb137, 1, none⟩ = some (.string (⟨#[]⟩ : ByteArray)) ∧ w'.cell? ⟨gb137, 2, none⟩ = some (.int .i64 0) ∧ w'.cell? ⟨gb137, 3, none⟩ = some (.string a0_2) ∧ w'.cell? ⟨gb137, 4, none⟩ = some (.int .i64 0)) (ds := []) #[false, false, false, false, false, false, false, false, false, false, false] (by kernel_rfl) rfl rfl ⟨(blk_cell BK137.out 0).trans rfl, (blk_cell BK137.out 1).trans rfl, (blk_cell BK137.out 2).trans rfl, (blk_cell BK137.out 3).trans rfl, (blk_cell BK137.out 4).trans rfl⟩ (fun hHeld => ?_); refine with_tabW back_era.tab4 back_era.bits4 (fun HT_ HW_ => ?_)
      generalize w46.drew = w47 at BK135 BK136 BK137 HB hHeld ⊢
      refine pure_ (i := 1) (N := some 18) (v := ?_) (a' := ?_) #[false, true, false, false, false, false, false, false, false, false, false] rfl rfl (any_of HT_.out (by kernel_rfl)) (fun _ _ _ h => h) (Or.inl ⟨by rfl, ?_⟩) ?_ ?_
      rotate_left
      · intro w'
        go_simp
        with_reducible rfl
      rotate_left
      · simp only [Act.put, List.setIfInBounds_toArray, List.set_cons_zero, List.set_cons_succ, i64_w, i32_w]
        rfl
      refine take_ (i := 0) (N := some 17) (v := ?_) (a' := ?_) #[true, true, false, false, false, false, false, false, false, false, false] rfl rfl (take_ofW HT_.out HW_.out (by kernel_rfl)) (fun _ _ _ h => h) (Or.inl ⟨by rfl, ?_⟩) hHeld ?_ ?_
      rotate_left
      · rintro w' ⟨s0, s1, s2, s3, s4⟩
        go_simp
        with_reducible rfl
      rotate_left
      · simp only [Act.put, List.setIfInBounds_toArray, List.set_cons_zero, List.set_cons_succ, i64_w, i32_w]
        rfl
      refine take_ (i := 2) (N := some 19) (v := ?_) (a' := ?_) #[true, true, true, false, false, false, false, false, false, false, false] rfl rfl (take_ofW HT_.out HW_.out (by kernel_rfl)) (fun _ _ _ h => h) (Or.inl ⟨by rfl, ?_⟩) hHeld ?_ ?_
      rotate_left
      · rintro w' ⟨s0, s1, s2, s3, s4⟩
        go_simp
        with_reducible rfl
      rotate_left
      · simp only [Act.put, List.setIfInBounds_toArray, List.set_cons_zero, List.set_cons_succ, i64_w, i32_w]
        rfl
      refine pure_ (i := 3) (N := some 20) (v := ?_) (a' := ?_) #[true, true, true, true, false, false, false, false, false, false, false] rfl rfl (any_of HT_.out (by kernel_rfl)) (fun _ _ _ h => h) (Or.inl ⟨by rfl, ?_⟩) ?_ ?_
      rotate_left
      · intro w'
        go_simp
        with_reducible rfl
      rotate_left
      · simp only [Act.put, List.setIfInBounds_toArray, List.set_cons_zero, List.set_cons_succ, i64_w, i32_w]
        rfl
      refine pure_ (i := 4) (N := some 21) (v := ?_) (a' := ?_) #[true, true, true, true, true, false, false, false, false, false, false] rfl rfl (any_of HT_.out (by kernel_rfl)) (fun _ _ _ h => h) (Or.inl ⟨by rfl, ?_⟩) ?_ ?_
      rotate_left
      · intro w'
        go_simp
        with_reducible rfl
      rotate_left
      · simp only [Act.put, List.setIfInBounds_toArray, List.set_cons_zero, List.set_cons_succ, i64_w, i32_w]
        rfl
      refine pure_ (i := 5) (N := some 22) (v := ?_) (a' := ?_) #[true, true, true, true, true, true, false, false, false, false, false] rfl rfl (any_of HT_.out (by kernel_rfl)) (fun _ _ _ h => h) (Or.inl ⟨by rfl, ?_⟩) ?_ ?_
      rotate_left
      · intro w'
        go_simp
        with_reducible rfl
      rotate_left
      · simp only [Act.put, List.setIfInBounds_toArray, List.set_cons_zero, List.set_cons_succ, i64_w, i32_w]
        rfl
      refine take_ (i := 6) (N := some 23) (v := ?_) (a' := ?_) #[true, true, true, true, true, true, true, false, false, false, false] rfl rfl (take_ofW HT_.out HW_.out (by kernel_rfl)) (fun _ _ _ h => h) (Or.inl ⟨by rfl, ?_⟩) hHeld ?_ ?_
      rotate_left
      · rintro w' ⟨s0, s1, s2, s3, s4⟩
        go_simp
        with_reducible rfl
      rotate_left
      · simp only [Act.put, List.setIfInBounds_toArray, List.set_cons_zero, List.set_cons_succ, i64_w, i32_w]
        rfl
      refine pure_ (i := 7) (N := some 24) (v := ?_) (a' := ?_) #[true, true, true, true, true, true, true, true, false, false, false] rfl rfl (any_of HT_.out (by kernel_rfl)) (fun _ _ _ h => h) (Or.inl ⟨by rfl, ?_⟩) ?_ ?_
      rotate_left
      · intro w'
        go_simp
        with_reducible rfl
      rotate_left
      · simp only [Act.put, List.setIfInBounds_toArray, List.set_cons_zero, List.set_cons_succ, i64_w, i32_w]
        rfl
      refine pure_ (i := 8) (N := some 25) (v := ?_) (a' := ?_) #[true, true, true, true, true, true, true, true, true, false, false] rfl rfl (any_of HT_.out (by kernel_rfl)) (fun _ _ _ h => h) (Or.inl ⟨by rfl, ?_⟩) ?_ ?_
      rotate_left
      · intro w'
        go_simp
        with_reducible rfl
      rotate_left
      · simp only [Act.put, List.setIfInBounds_toArray, List.set_cons_zero, List.set_cons_succ, i64_w, i32_w]
        rfl
      refine one_ (i := 9) (N := none) #[true, true, true, true, true, true, true, true, true, true, false] rfl rfl (one_of HT_.out (by kernel_rfl)) (by decide) (fun K hK => ?_)
      have hs48 : w47.cell? ⟨gb136, 0, none⟩ = some (.int .i64 0) := (blk_cell BK136.out 0).trans rfl
      have hfs48 := blk_frozen BK136.out 0
      have hns48_0 := NB135_136.out
      have hns48_2 := NB137_136.out
      have hms48_0 := NB136_135.out
      have hms48_2 := NB136_137.out
      have hs49 : w47.cell? ⟨gb136, 1, none⟩ = some (.string (⟨#[]⟩ : ByteArray)) := (blk_cell BK136.out 1).trans rfl
      have hfs49 := blk_frozen BK136.out 1
      have hns49_0 := NB135_136.out
      have hns49_2 := NB137_136.out
      have hms49_0 := NB136_135.out
      have hms49_2 := NB136_137.out
      have hs50 : w47.cell? ⟨gb136, 2, none⟩ = some (.int .i64 0) := (blk_cell BK136.out 2).trans rfl
      have hfs50 := blk_frozen BK136.out 2
      have hns50_0 := NB135_136.out
      have hns50_2 := NB137_136.out
      have hms50_0 := NB136_135.out
      have hms50_2 := NB136_137.out
      have hs51 : w47.cell? ⟨gb136, 3, none⟩ = some (.string (⟨#[]⟩ : ByteArray)) := (blk_cell BK136.out 3).trans rfl
      have hfs51 := blk_frozen BK136.out 3
      have hns51_0 := NB135_136.out
      have hns51_2 := NB137_136.out
      have hms51_0 := NB136_135.out
      have hms51_2 := NB136_137.out
      have hs52 : w47.cell? ⟨gb136, 4, none⟩ = some (.int .i64 0) := (blk_cell BK136.out 4).trans rfl
      have hfs52 := blk_frozen BK136.out 4
      have hns52_0 := NB135_136.out
      have hns52_2 := NB137_136.out
      have hms52_0 := NB136_135.out
      have hms52_2 := NB136_137.out
      refine skip_ (w1 := ?_) (by rfl) rfl ?_ ?_
      rotate_left
      · go_simp
        rfl
      refine hK.out _ _ ⟨((cell_far (p := ⟨gb136, _, none⟩) NB137_136.out _).trans (((cell_far (p := ⟨gb136, _, none⟩) NB137_136.out _).trans (((cell_far (p := ⟨gb136, _, none⟩) NB137_136.out _).trans (((cell_far (p := ⟨gb136, _, none⟩) NB137_136.out _).trans (((cell_far (p := ⟨gb136, _, none⟩) NB137_136.out _).trans (hHeld.1)))))))))), ((cell_far (p := ⟨gb136, _, none⟩) NB137_136.out _).trans (((cell_far (p := ⟨gb136, _, none⟩) NB137_136.out _).trans (((cell_far (p := ⟨gb136, _, none⟩) NB137_136.out _).trans (((cell_far (p := ⟨gb136, _, none⟩) NB137_136.out _).trans (((cell_far (p := ⟨gb136, _, none⟩) NB137_136.out _).trans (hHeld.2.1)))))))))), ((cell_far (p := ⟨gb136, _, none⟩) NB137_136.out _).trans (((cell_far (p := ⟨gb136, _, none⟩) NB137_136.out _).trans (((cell_far (p := ⟨gb136, _, none⟩) NB137_136.out _).trans (((cell_far (p := ⟨gb136, _, none⟩) NB137_136.out _).trans (((cell_far (p := ⟨gb136, _, none⟩) NB137_136.out _).trans (hHeld.2.2.1)))))))))), ((cell_far (p := ⟨gb136, _, none⟩) NB137_136.out _).trans (((cell_far (p := ⟨gb136, _, none⟩) NB137_136.out _).trans (((cell_far (p := ⟨gb136, _, none⟩) NB137_136.out _).trans (((cell_far (p := ⟨gb136, _, none⟩) NB137_136.out _).trans (((cell_far (p := ⟨gb136, _, none⟩) NB137_136.out _).trans (hHeld.2.2.2.1)))))))))), ((cell_far (p := ⟨gb136, _, none⟩) NB137_136.out _).trans (((cell_far (p := ⟨gb136, _, none⟩) NB137_136.out _).trans (((cell_far (p := ⟨gb136, _, none⟩) NB137_136.out _).trans (((cell_far (p := ⟨gb136, _, none⟩) NB137_136.out _).trans (((cell_far (p := ⟨gb136, _, none⟩) NB137_136.out _).trans (hHeld.2.2.2.2))))))))))⟩ (fun hHeld => ?_)
      clear hK K
      refine pure_ (i := 10) (N := some 3) (v := ?_) (a' := ?_) #[true, true, true, true, true, true, true, true, true, true, true] rfl rfl (any_of HT_.out (by kernel_rfl)) (fun _ _ _ h => h) (Or.inl ⟨by rfl, ?_⟩) ?_ ?_
      rotate_left
      · intro w'
        go_simp
        with_reducible rfl
      rotate_left
      · simp only [Act.put, List.setIfInBounds_toArray, List.set_cons_zero, List.set_cons_succ, i64_w, i32_w]
        rfl
      refine done_ (done_of HT_.out (by kernel_rfl)) ?_
      try go_wp2
      refine bodyPost_ret (results_ct rfl _ _ gb136 50 #[.int .i64 a0_0, .string (⟨#[]⟩ : ByteArray), .int .i64 0, .string a0_2, .int .i64 0] (0, 0) _ rfl (by (with_reducible repeat (first | refine blk_drewN ?_ _ | refine blk_drew ?_ | refine blk_alloc ?_ _)); refine blk_put (cs := #[.int .i64 a0_0, .string (⟨#[]⟩ : ByteArray), .int .i64 0, .string a0_2, .int .i64 0]) ?_ 4 _ rfl; (with_reducible repeat (first | refine blk_drewN ?_ _ | refine blk_drew ?_ | refine blk_alloc ?_ _)); refine blk_put (cs := #[.int .i64 a0_0, .string (⟨#[]⟩ : ByteArray), .int .i64 0, .string (⟨#[]⟩ : ByteArray), .int .i64 0]) ?_ 3 _ rfl; (with_reducible repeat (first | refine blk_drewN ?_ _ | refine blk_drew ?_ | refine blk_alloc ?_ _)); refine blk_put (cs := #[.int .i64 a0_0, .string (⟨#[]⟩ : ByteArray), .int .i64 0, .string (⟨#[]⟩ : ByteArray), .int .i64 0]) ?_ 2 _ rfl; (with_reducible repeat (first | refine blk_drewN ?_ _ | refine blk_drew ?_ | refine blk_alloc ?_ _)); refine blk_put (cs := #[.int .i64 a0_0, .string (⟨#[]⟩ : ByteArray), .int .i64 0, .string (⟨#[]⟩ : ByteArray), .int .i64 0]) ?_ 1 _ rfl; (with_reducible repeat (first | refine blk_drewN ?_ _ | refine blk_drew ?_ | refine blk_alloc ?_ _)); refine blk_put (cs := #[.int .i64 0, .string (⟨#[]⟩ : ByteArray), .int .i64 0, .string (⟨#[]⟩ : ByteArray), .int .i64 0]) ?_ 0 _ rfl; (with_reducible repeat (first | refine blk_drewN ?_ _ | refine blk_drew ?_ | refine blk_alloc ?_ _)); exact BK136.out) Tryd.underlying50 rfl (by kernel_rfl)) rfl ?_
      exact ⟨by first | rfl | (simp [errW_none, errW_some] <;> rfl) | (simp [*, errW_none, errW_some] <;> rfl), by repeat (first | (with_reducible first | exact HB.out | apply below_alloc | apply pw_below_drewN | apply below_drew1 | refine below_set ?_ GE135.out | refine below_set ?_ GE136.out | refine below_set ?_ GE137.out) | exact HB.out)⟩
    · rw [if_neg c36] at H
      have c36b0 : decide ((-64800) ≤ a0_0) = false := decide_eq_false c36
      clear c36
      simp only [Option.some.injEq, Prod.mk.injEq] at H
      obtain ⟨rfl, rfl, rfl, rfl, rfl, rfl⟩ := H
      go_enter Tryd.func20, Tryd.ntmps20
      try go_wp2_with (first | ((with_reducible refine gate_dst (N := 1) rfl ?_); refine box_event ?hg (N := 1) ?hd (cs := #[.int .i64 a0_0, .bool false, .string a0_2]) (t := 71) ?hr ?_; (case hd => rfl); (case hg => rfl); (case hr => first | (go_simp; done) | (go_simp; rfl)); intro gb135 hg w53 hbox hb; have n0_ := Aside0.mk (below_step (by repeat (first | (with_reducible first | exact HB.out | apply below_alloc | apply pw_below_drewN | apply below_drew1) | exact HB.out)) hb); have n1_ := Aside0.mk (hbox); have n2_ := Aside0.mk ((by rw [hg]; exact (below_size (by repeat (first | (with_reducible first | exact HB.out | apply below_alloc | apply pw_below_drewN | apply below_drew1) | exact HB.out))) : w.heap.size ≤ gb135)); have n3_ := Aside0.mk ((by rw [hg]; exact (below_size (by repeat (first | (with_reducible first | exact HB.out | apply below_alloc | apply pw_below_drewN | apply below_drew1) | exact HB.out))) : w.heap.size ≤ gb135)); clear HB; have HB := n0_; have BK135 := n1_; have GW135 := n2_; have GE135 := n3_; clear n0_ n1_ n2_ n3_; clear hb hbox hg) | ((with_reducible refine gate_dst (N := 2) rfl ?_); refine box_event ?hg (N := 2) ?hd (cs := #[.int .i64 0, .string (⟨#[]⟩ : ByteArray), .int .i64 0, .string (⟨#[]⟩ : ByteArray), .int .i64 0]) (t := 50) ?hr ?_; (case hd => rfl); (case hg => rfl); (case hr => first | (go_simp; done) | (go_simp; rfl)); intro gb136 hg w54 hbox hb; have n0_ := Aside0.mk (blk_below (g := gb135) (o := .cells #[.int .i64 a0_0, .bool false, .string a0_2] 71 (0, 0)) (by (with_reducible repeat (first | refine blk_drewN ?_ _ | refine blk_drew ?_ | refine blk_alloc ?_ _)); exact BK135.out) hb); have n1_ := Aside0.mk (below_step (by repeat (first | (with_reducible first | exact HB.out | apply below_alloc | apply pw_below_drewN | apply below_drew1 | refine below_set ?_ GE135.out) | exact HB.out)) hb); have n2_ := Aside0.mk (hbox); have n3_ := Aside0.mk ((by rw [hg]; exact (below_size (by repeat (first | (with_reducible first | exact HB.out | apply below_alloc | apply pw_below_drewN | apply below_drew1 | refine below_set ?_ GE135.out) | exact HB.out))) : w.heap.size ≤ gb136)); have n4_ := Aside0.mk ((by rw [hg]; exact (below_size (by repeat (first | (with_reducible first | exact HB.out | apply below_alloc | apply pw_below_drewN | apply below_drew1 | refine below_set ?_ GE135.out) | exact HB.out))) : w.heap.size ≤ gb136)); have n5_ := Aside0.mk ((by rw [hg]; exact Nat.ne_of_lt (blk_lt (g := gb135) (o := .cells #[.int .i64 a0_0, .bool false, .string a0_2] 71 (0, 0)) (by (with_reducible repeat (first | refine blk_drewN ?_ _ | refine blk_drew ?_ | refine blk_alloc ?_ _)); exact BK135.out)) : gb135 ≠ gb136)); have n6_ := Aside0.mk ((by rw [hg]; exact Nat.ne_of_gt (blk_lt (g := gb135) (o := .cells #[.int .i64 a0_0, .bool false, .string a0_2] 71 (0, 0)) (by (with_reducible repeat (first | refine blk_drewN ?_ _ | refine blk_drew ?_ | refine blk_alloc ?_ _)); exact BK135.out)) : gb136 ≠ gb135)); clear BK135; clear HB; have BK135 := n0_; have HB := n1_; have BK136 := n2_; have GW136 := n3_; have GE136 := n4_; have NB135_136 := n5_; have NB136_135 := n6_; clear n0_ n1_ n2_ n3_ n4_ n5_ n6_; clear hb hbox hg; have hnb55 := NB135_136.out; have hnc55 := NB136_135.out; have hcz56_0 : w54.cell? ⟨gb135, 0, none⟩ = some (.int .i64 a0_0) := (blk_cell BK135.out 0).trans rfl; have hcz56_1 : w54.cell? ⟨gb135, 1, none⟩ = some (.bool false) := (blk_cell BK135.out 1).trans rfl; have hcz56_2 : w54.cell? ⟨gb135, 2, none⟩ = some (.string a0_2) := (blk_cell BK135.out 2).trans rfl; have hfz56_0 := blk_frozen BK135.out 0; have hfz56_1 := blk_frozen BK135.out 1; have hfz56_2 := blk_frozen BK135.out 2) | ((with_reducible refine gate_dst (N := 4) rfl ?_); refine box_event ?hg (N := 4) ?hd (cs := #[.int .i64 0, .string (⟨#[]⟩ : ByteArray), .int .i64 0, .string (⟨#[]⟩ : ByteArray), .int .i64 0]) (t := 50) ?hr ?_; (case hd => rfl); (case hg => rfl); (case hr => first | (go_simp; done) | (go_simp; rfl)); intro gb137 hg w57 hbox hb; have n0_ := Aside0.mk (blk_below (g := gb135) (o := .cells #[.int .i64 a0_0, .bool false, .string a0_2] 71 (0, 0)) (by (with_reducible repeat (first | refine blk_drewN ?_ _ | refine blk_drew ?_ | refine blk_alloc ?_ _)); exact BK135.out) hb); have n1_ := Aside0.mk (blk_below (g := gb136) (o := .cells #[.int .i64 0, .string (⟨#[]⟩ : ByteArray), .int .i64 0, .string (⟨#[]⟩ : ByteArray), .int .i64 0] 50 (0, 0)) (by (with_reducible repeat (first | refine blk_drewN ?_ _ | refine blk_drew ?_ | refine blk_alloc ?_ _)); exact BK136.out) hb); have n2_ := Aside0.mk (below_step (by repeat (first | (with_reducible first | exact HB.out | apply below_alloc | apply pw_below_drewN | apply below_drew1 | refine below_set ?_ GE135.out | refine below_set ?_ GE136.out) | exact HB.out)) hb); have n3_ := Aside0.mk (hbox); have n4_ := Aside0.mk ((by rw [hg]; exact (below_size (by repeat (first | (with_reducible first | exact HB.out | apply below_alloc | apply pw_below_drewN | apply below_drew1 | refine below_set ?_ GE135.out | refine below_set ?_ GE136.out) | exact HB.out))) : w.heap.size ≤ gb137)); have n5_ := Aside0.mk ((by rw [hg]; exact (below_size (by repeat (first | (with_reducible first | exact HB.out | apply below_alloc | apply pw_below_drewN | apply below_drew1 | refine below_set ?_ GE135.out | refine below_set ?_ GE136.out) | exact HB.out))) : w.heap.size ≤ gb137)); have n6_ := Aside0.mk ((by rw [hg]; exact Nat.ne_of_lt (blk_lt (g := gb135) (o := .cells #[.int .i64 a0_0, .bool false, .string a0_2] 71 (0, 0)) (by (with_reducible repeat (first | refine blk_drewN ?_ _ | refine blk_drew ?_ | refine blk_alloc ?_ _)); exact BK135.out)) : gb135 ≠ gb137)); have n7_ := Aside0.mk ((by rw [hg]; exact Nat.ne_of_gt (blk_lt (g := gb135) (o := .cells #[.int .i64 a0_0, .bool false, .string a0_2] 71 (0, 0)) (by (with_reducible repeat (first | refine blk_drewN ?_ _ | refine blk_drew ?_ | refine blk_alloc ?_ _)); exact BK135.out)) : gb137 ≠ gb135)); have n8_ := Aside0.mk ((by rw [hg]; exact Nat.ne_of_lt (blk_lt (g := gb136) (o := .cells #[.int .i64 0, .string (⟨#[]⟩ : ByteArray), .int .i64 0, .string (⟨#[]⟩ : ByteArray), .int .i64 0] 50 (0, 0)) (by (with_reducible repeat (first | refine blk_drewN ?_ _ | refine blk_drew ?_ | refine blk_alloc ?_ _)); exact BK136.out)) : gb136 ≠ gb137)); have n9_ := Aside0.mk ((by rw [hg]; exact Nat.ne_of_gt (blk_lt (g := gb136) (o := .cells #[.int .i64 0, .string (⟨#[]⟩ : ByteArray), .int .i64 0, .string (⟨#[]⟩ : ByteArray), .int .i64 0] 50 (0, 0)) (by (with_reducible repeat (first | refine blk_drewN ?_ _ | refine blk_drew ?_ | refine blk_alloc ?_ _)); exact BK136.out)) : gb137 ≠ gb136)); clear BK135; clear BK136; clear HB; have BK135 := n0_; have BK136 := n1_; have HB := n2_; have BK137 := n3_; have GW137 := n4_; have GE137 := n5_; have NB135_137 := n6_; have NB137_135 := n7_; have NB136_137 := n8_; have NB137_136 := n9_; clear n0_ n1_ n2_ n3_ n4_ n5_ n6_ n7_ n8_ n9_; clear hb hbox hg; have hnb58 := NB137_135.out; have hnc58 := NB135_137.out; have hnb59 := NB137_136.out; have hnc59 := NB136_137.out; have hcz60_0 : w57.cell? ⟨gb137, 0, none⟩ = some (.int .i64 0) := (blk_cell BK137.out 0).trans rfl; have hcz60_1 : w57.cell? ⟨gb137, 1, none⟩ = some (.string (⟨#[]⟩ : ByteArray)) := (blk_cell BK137.out 1).trans rfl; have hcz60_2 : w57.cell? ⟨gb137, 2, none⟩ = some (.int .i64 0) := (blk_cell BK137.out 2).trans rfl; have hcz60_3 : w57.cell? ⟨gb137, 3, none⟩ = some (.string (⟨#[]⟩ : ByteArray)) := (blk_cell BK137.out 3).trans rfl; have hcz60_4 : w57.cell? ⟨gb137, 4, none⟩ = some (.int .i64 0) := (blk_cell BK137.out 4).trans rfl; have hfz60_0 := blk_frozen BK137.out 0; have hfz60_1 := blk_frozen BK137.out 1; have hfz60_2 := blk_frozen BK137.out 2; have hfz60_3 := blk_frozen BK137.out 3; have hfz60_4 := blk_frozen BK137.out 4; have hcz61_0 : w57.cell? ⟨gb135, 0, none⟩ = some (.int .i64 a0_0) := (blk_cell BK135.out 0).trans rfl; have hcz61_1 : w57.cell? ⟨gb135, 1, none⟩ = some (.bool false) := (blk_cell BK135.out 1).trans rfl; have hcz61_2 : w57.cell? ⟨gb135, 2, none⟩ = some (.string a0_2) := (blk_cell BK135.out 2).trans rfl; have hfz61_0 := blk_frozen BK135.out 0; have hfz61_1 := blk_frozen BK135.out 1; have hfz61_2 := blk_frozen BK135.out 2))
      have n0_ : Aside0 ((((((w57.setCell ⟨gb137, 0, none⟩ (.int .i64 a0_0)).setCell ⟨gb137, 1, none⟩ (.string (⟨#[]⟩ : ByteArray))).setCell ⟨gb137, 2, none⟩ (.int .i64 0)).setCell ⟨gb137, 3, none⟩ (.string a0_2)).setCell ⟨gb137, 4, none⟩ (.int .i64 0)).heap[gb135]? = some (.cells #[.int .i64 a0_0, .bool false, .string a0_2] 71 (0, 0))) := ⟨by (with_reducible repeat (first | refine blk_drewN ?_ _ | refine blk_drew ?_ | refine blk_alloc ?_ _)); refine blk_far ?_ NB135_137.out _; (with_reducible repeat (first | refine blk_drewN ?_ _ | refine blk_drew ?_ | refine blk_alloc ?_ _)); refine blk_far ?_ NB135_137.out _; (with_reducible repeat (first | refine blk_drewN ?_ _ | refine blk_drew ?_ | refine blk_alloc ?_ _)); refine blk_far ?_ NB135_137.out _; (with_reducible repeat (first | refine blk_drewN ?_ _ | refine blk_drew ?_ | refine blk_alloc ?_ _)); refine blk_far ?_ NB135_137.out _; (with_reducible repeat (first | refine blk_drewN ?_ _ | refine blk_drew ?_ | refine blk_alloc ?_ _)); refine blk_far ?_ NB135_137.out _; (with_reducible repeat (first | refine blk_drewN ?_ _ | refine blk_drew ?_ | refine blk_alloc ?_ _)); exact BK135.out⟩
      have n1_ : Aside0 ((((((w57.setCell ⟨gb137, 0, none⟩ (.int .i64 a0_0)).setCell ⟨gb137, 1, none⟩ (.string (⟨#[]⟩ : ByteArray))).setCell ⟨gb137, 2, none⟩ (.int .i64 0)).setCell ⟨gb137, 3, none⟩ (.string a0_2)).setCell ⟨gb137, 4, none⟩ (.int .i64 0)).heap[gb136]? = some (.cells #[.int .i64 0, .string (⟨#[]⟩ : ByteArray), .int .i64 0, .string (⟨#[]⟩ : ByteArray), .int .i64 0] 50 (0, 0))) := ⟨by (with_reducible repeat (first | refine blk_drewN ?_ _ | refine blk_drew ?_ | refine blk_alloc ?_ _)); refine blk_far ?_ NB136_137.out _; (with_reducible repeat (first | refine blk_drewN ?_ _ | refine blk_drew ?_ | refine blk_alloc ?_ _)); refine blk_far ?_ NB136_137.out _; (with_reducible repeat (first | refine blk_drewN ?_ _ | refine blk_drew ?_ | refine blk_alloc ?_ _)); refine blk_far ?_ NB136_137.out _; (with_reducible repeat (first | refine blk_drewN ?_ _ | refine blk_drew ?_ | refine blk_alloc ?_ _)); refine blk_far ?_ NB136_137.out _; (with_reducible repeat (first | refine blk_drewN ?_ _ | refine blk_drew ?_ | refine blk_alloc ?_ _)); refine blk_far ?_ NB136_137.out _; (with_reducible repeat (first | refine blk_drewN ?_ _ | refine blk_drew ?_ | refine blk_alloc ?_ _)); exact BK136.out⟩
      have n2_ : Aside0 ((((((w57.setCell ⟨gb137, 0, none⟩ (.int .i64 a0_0)).setCell ⟨gb137, 1, none⟩ (.string (⟨#[]⟩ : ByteArray))).setCell ⟨gb137, 2, none⟩ (.int .i64 0)).setCell ⟨gb137, 3, none⟩ (.string a0_2)).setCell ⟨gb137, 4, none⟩ (.int .i64 0)).heap[gb137]? = some (.cells #[.int .i64 a0_0, .string (⟨#[]⟩ : ByteArray), .int .i64 0, .string a0_2, .int .i64 0] 50 (0, 0))) := ⟨by (with_reducible repeat (first | refine blk_drewN ?_ _ | refine blk_drew ?_ | refine blk_alloc ?_ _)); refine blk_put (cs := #[.int .i64 a0_0, .string (⟨#[]⟩ : ByteArray), .int .i64 0, .string a0_2, .int .i64 0]) ?_ 4 _ rfl; (with_reducible repeat (first | refine blk_drewN ?_ _ | refine blk_drew ?_ | refine blk_alloc ?_ _)); refine blk_put (cs := #[.int .i64 a0_0, .string (⟨#[]⟩ : ByteArray), .int .i64 0, .string (⟨#[]⟩ : ByteArray), .int .i64 0]) ?_ 3 _ rfl; (with_reducible repeat (first | refine blk_drewN ?_ _ | refine blk_drew ?_ | refine blk_alloc ?_ _)); refine blk_put (cs := #[.int .i64 a0_0, .string (⟨#[]⟩ : ByteArray), .int .i64 0, .string (⟨#[]⟩ : ByteArray), .int .i64 0]) ?_ 2 _ rfl; (with_reducible repeat (first | refine blk_drewN ?_ _ | refine blk_drew ?_ | refine blk_alloc ?_ _)); refine blk_put (cs := #[.int .i64 a0_0, .string (⟨#[]⟩ : ByteArray), .int .i64 0, .string (⟨#[]⟩ : ByteArray), .int .i64 0]) ?_ 1 _ rfl; (with_reducible repeat (first | refine blk_drewN ?_ _ | refine blk_drew ?_ | refine blk_alloc ?_ _)); refine blk_put (cs := #[.int .i64 0, .string (⟨#[]⟩ : ByteArray), .int .i64 0, .string (⟨#[]⟩ : ByteArray), .int .i64 0]) ?_ 0 _ rfl; (with_reducible repeat (first | refine blk_drewN ?_ _ | refine blk_drew ?_ | refine blk_alloc ?_ _)); exact BK137.out⟩
      have n3_ : Aside0 (Below w.heap.size w (((((w57.setCell ⟨gb137, 0, none⟩ (.int .i64 a0_0)).setCell ⟨gb137, 1, none⟩ (.string (⟨#[]⟩ : ByteArray))).setCell ⟨gb137, 2, none⟩ (.int .i64 0)).setCell ⟨gb137, 3, none⟩ (.string a0_2)).setCell ⟨gb137, 4, none⟩ (.int .i64 0))) := ⟨by repeat (first | (with_reducible first | exact HB.out | apply below_alloc | apply pw_below_drewN | apply below_drew1 | refine below_set ?_ GE135.out | refine below_set ?_ GE136.out | refine below_set ?_ GE137.out) | exact HB.out)⟩
      (try clear BK135)
      (try clear BK136)
      (try clear BK137)
      (try clear HB)
      generalize (((((w57.setCell ⟨gb137, 0, none⟩ (.int .i64 a0_0)).setCell ⟨gb137, 1, none⟩ (.string (⟨#[]⟩ : ByteArray))).setCell ⟨gb137, 2, none⟩ (.int .i64 0)).setCell ⟨gb137, 3, none⟩ (.string a0_2)).setCell ⟨gb137, 4, none⟩ (.int .i64 0)) = w62 at n0_ n1_ n2_ n3_ ⊢
      have BK135 := n0_
      have BK136 := n1_
      have BK137 := n2_
      have HB := n3_
      clear n0_ n1_ n2_ n3_
      have n0_ := Aside0.mk (blk_drew BK135.out)
      have n1_ := Aside0.mk (blk_drew BK136.out)
      have n2_ := Aside0.mk (blk_drew BK137.out)
      have n3_ := Aside0.mk (below_drew1 HB.out)
      clear BK135
      clear BK136
      clear BK137
      clear HB
      have BK135 := n0_
      have BK136 := n1_
      have BK137 := n2_
      have HB := n3_
      clear n0_ n1_ n2_ n3_
      refine start_ (n := 11) (S := fun w' => w'.cell? ⟨gb137, 0, none⟩ = some (.int .i64 a0_0) ∧ w'.cell? ⟨gb137, 1, none⟩ = some (.string (⟨#[]⟩ : ByteArray)) ∧ w'.cell? ⟨gb137, 2, none⟩ = some (.int .i64 0) ∧ w'.cell? ⟨gb137, 3, none⟩ = some (.string a0_2) ∧ w'.cell? ⟨gb137, 4, none⟩ = some (.int .i64 0)) (ds := []) #[false, false, false, false, false, false, false, false, false, false, false] (by kernel_rfl) rfl rfl ⟨(blk_cell BK137.out 0).trans rfl, (blk_cell BK137.out 1).trans rfl, (blk_cell BK137.out 2).trans rfl, (blk_cell BK137.out 3).trans rfl, (blk_cell BK137.out 4).trans rfl⟩ (fun hHeld => ?_); refine with_tabW back_era.tab4 back_era.bits4 (fun HT_ HW_ => ?_)
      generalize w62.drew = w63 at BK135 BK136 BK137 HB hHeld ⊢
      refine pure_ (i := 1) (N := some 18) (v := ?_) (a' := ?_) #[false, true, false, false, false, false, false, false, false, false, false] rfl rfl (any_of HT_.out (by kernel_rfl)) (fun _ _ _ h => h) (Or.inl ⟨by rfl, ?_⟩) ?_ ?_
      rotate_left
      · intro w'
        go_simp
        with_reducible rfl
      rotate_left
      · simp only [Act.put, List.setIfInBounds_toArray, List.set_cons_zero, List.set_cons_succ, i64_w, i32_w]
        rfl
      refine take_ (i := 0) (N := some 17) (v := ?_) (a' := ?_) #[true, true, false, false, false, false, false, false, false, false, false] rfl rfl (take_ofW HT_.out HW_.out (by kernel_rfl)) (fun _ _ _ h => h) (Or.inl ⟨by rfl, ?_⟩) hHeld ?_ ?_
      rotate_left
      · rintro w' ⟨s0, s1, s2, s3, s4⟩
        go_simp
        with_reducible rfl
      rotate_left
      · simp only [Act.put, List.setIfInBounds_toArray, List.set_cons_zero, List.set_cons_succ, i64_w, i32_w]
        rfl
      refine take_ (i := 2) (N := some 19) (v := ?_) (a' := ?_) #[true, true, true, false, false, false, false, false, false, false, false] rfl rfl (take_ofW HT_.out HW_.out (by kernel_rfl)) (fun _ _ _ h => h) (Or.inl ⟨by rfl, ?_⟩) hHeld ?_ ?_
      rotate_left
      · rintro w' ⟨s0, s1, s2, s3, s4⟩
        go_simp
        with_reducible rfl
      rotate_left
      · simp only [Act.put, List.setIfInBounds_toArray, List.set_cons_zero, List.set_cons_succ, i64_w, i32_w]
        rfl
      refine pure_ (i := 3) (N := some 20) (v := ?_) (a' := ?_) #[true, true, true, true, false, false, false, false, false, false, false] rfl rfl (any_of HT_.out (by kernel_rfl)) (fun _ _ _ h => h) (Or.inl ⟨by rfl, ?_⟩) ?_ ?_
      rotate_left
      · intro w'
        go_simp
        with_reducible rfl
      rotate_left
      · simp only [Act.put, List.setIfInBounds_toArray, List.set_cons_zero, List.set_cons_succ, i64_w, i32_w]
        rfl
      refine pure_ (i := 4) (N := some 21) (v := ?_) (a' := ?_) #[true, true, true, true, true, false, false, false, false, false, false] rfl rfl (any_of HT_.out (by kernel_rfl)) (fun _ _ _ h => h) (Or.inl ⟨by rfl, ?_⟩) ?_ ?_
      rotate_left
      · intro w'
        go_simp
        with_reducible rfl
      rotate_left
      · simp only [Act.put, List.setIfInBounds_toArray, List.set_cons_zero, List.set_cons_succ, i64_w, i32_w]
        rfl
      refine pure_ (i := 5) (N := some 22) (v := undef) (a' := ?_) #[true, true, true, true, true, true, false, false, false, false, false] rfl rfl (any_of HT_.out (by kernel_rfl)) (fun _ _ _ h => h) (Or.inr ⟨by rfl, rfl⟩) ?_ ?_
      rotate_left
      · simp only [Act.put, List.setIfInBounds_toArray, List.set_cons_zero, List.set_cons_succ, i64_w, i32_w]
        rfl
      refine pure_ (i := 6) (N := some 23) (v := undef) (a' := ?_) #[true, true, true, true, true, true, true, false, false, false, false] rfl rfl (any_of HT_.out (by kernel_rfl)) (fun _ _ _ h => h) (Or.inr ⟨by rfl, rfl⟩) ?_ ?_
      rotate_left
      · simp only [Act.put, List.setIfInBounds_toArray, List.set_cons_zero, List.set_cons_succ, i64_w, i32_w]
        rfl
      refine pure_ (i := 7) (N := some 24) (v := undef) (a' := ?_) #[true, true, true, true, true, true, true, true, false, false, false] rfl rfl (any_of HT_.out (by kernel_rfl)) (fun _ _ _ h => h) (Or.inr ⟨by rfl, rfl⟩) ?_ ?_
      rotate_left
      · simp only [Act.put, List.setIfInBounds_toArray, List.set_cons_zero, List.set_cons_succ, i64_w, i32_w]
        rfl
      refine pure_ (i := 8) (N := some 25) (v := ?_) (a' := ?_) #[true, true, true, true, true, true, true, true, true, false, false] rfl rfl (any_of HT_.out (by kernel_rfl)) (fun _ _ _ h => h) (Or.inl ⟨by rfl, ?_⟩) ?_ ?_
      rotate_left
      · intro w'
        go_simp
        with_reducible rfl
      rotate_left
      · simp only [Act.put, List.setIfInBounds_toArray, List.set_cons_zero, List.set_cons_succ, i64_w, i32_w]
        rfl
      refine one_ (i := 9) (N := none) #[true, true, true, true, true, true, true, true, true, true, false] rfl rfl (one_of HT_.out (by kernel_rfl)) (by decide) (fun K hK => ?_)
      have hs64 : w63.cell? ⟨gb136, 0, none⟩ = some (.int .i64 0) := (blk_cell BK136.out 0).trans rfl
      have hfs64 := blk_frozen BK136.out 0
      have hns64_0 := NB135_136.out
      have hns64_2 := NB137_136.out
      have hms64_0 := NB136_135.out
      have hms64_2 := NB136_137.out
      have hs65 : w63.cell? ⟨gb136, 1, none⟩ = some (.string (⟨#[]⟩ : ByteArray)) := (blk_cell BK136.out 1).trans rfl
      have hfs65 := blk_frozen BK136.out 1
      have hns65_0 := NB135_136.out
      have hns65_2 := NB137_136.out
      have hms65_0 := NB136_135.out
      have hms65_2 := NB136_137.out
      have hs66 : w63.cell? ⟨gb136, 2, none⟩ = some (.int .i64 0) := (blk_cell BK136.out 2).trans rfl
      have hfs66 := blk_frozen BK136.out 2
      have hns66_0 := NB135_136.out
      have hns66_2 := NB137_136.out
      have hms66_0 := NB136_135.out
      have hms66_2 := NB136_137.out
      have hs67 : w63.cell? ⟨gb136, 3, none⟩ = some (.string (⟨#[]⟩ : ByteArray)) := (blk_cell BK136.out 3).trans rfl
      have hfs67 := blk_frozen BK136.out 3
      have hns67_0 := NB135_136.out
      have hns67_2 := NB137_136.out
      have hms67_0 := NB136_135.out
      have hms67_2 := NB136_137.out
      have hs68 : w63.cell? ⟨gb136, 4, none⟩ = some (.int .i64 0) := (blk_cell BK136.out 4).trans rfl
      have hfs68 := blk_frozen BK136.out 4
      have hns68_0 := NB135_136.out
      have hns68_2 := NB137_136.out
      have hms68_0 := NB136_135.out
      have hms68_2 := NB136_137.out
      refine skip_ (w1 := ?_) (by rfl) rfl ?_ ?_
      rotate_left
      · go_simp
        rfl
      refine hK.out _ _ ⟨((cell_far (p := ⟨gb136, _, none⟩) NB137_136.out _).trans (((cell_far (p := ⟨gb136, _, none⟩) NB137_136.out _).trans (((cell_far (p := ⟨gb136, _, none⟩) NB137_136.out _).trans (((cell_far (p := ⟨gb136, _, none⟩) NB137_136.out _).trans (((cell_far (p := ⟨gb136, _, none⟩) NB137_136.out _).trans (hHeld.1)))))))))), ((cell_far (p := ⟨gb136, _, none⟩) NB137_136.out _).trans (((cell_far (p := ⟨gb136, _, none⟩) NB137_136.out _).trans (((cell_far (p := ⟨gb136, _, none⟩) NB137_136.out _).trans (((cell_far (p := ⟨gb136, _, none⟩) NB137_136.out _).trans (((cell_far (p := ⟨gb136, _, none⟩) NB137_136.out _).trans (hHeld.2.1)))))))))), ((cell_far (p := ⟨gb136, _, none⟩) NB137_136.out _).trans (((cell_far (p := ⟨gb136, _, none⟩) NB137_136.out _).trans (((cell_far (p := ⟨gb136, _, none⟩) NB137_136.out _).trans (((cell_far (p := ⟨gb136, _, none⟩) NB137_136.out _).trans (((cell_far (p := ⟨gb136, _, none⟩) NB137_136.out _).trans (hHeld.2.2.1)))))))))), ((cell_far (p := ⟨gb136, _, none⟩) NB137_136.out _).trans (((cell_far (p := ⟨gb136, _, none⟩) NB137_136.out _).trans (((cell_far (p := ⟨gb136, _, none⟩) NB137_136.out _).trans (((cell_far (p := ⟨gb136, _, none⟩) NB137_136.out _).trans (((cell_far (p := ⟨gb136, _, none⟩) NB137_136.out _).trans (hHeld.2.2.2.1)))))))))), ((cell_far (p := ⟨gb136, _, none⟩) NB137_136.out _).trans (((cell_far (p := ⟨gb136, _, none⟩) NB137_136.out _).trans (((cell_far (p := ⟨gb136, _, none⟩) NB137_136.out _).trans (((cell_far (p := ⟨gb136, _, none⟩) NB137_136.out _).trans (((cell_far (p := ⟨gb136, _, none⟩) NB137_136.out _).trans (hHeld.2.2.2.2))))))))))⟩ (fun hHeld => ?_)
      clear hK K
      refine pure_ (i := 10) (N := some 3) (v := ?_) (a' := ?_) #[true, true, true, true, true, true, true, true, true, true, true] rfl rfl (any_of HT_.out (by kernel_rfl)) (fun _ _ _ h => h) (Or.inl ⟨by rfl, ?_⟩) ?_ ?_
      rotate_left
      · intro w'
        go_simp
        with_reducible rfl
      rotate_left
      · simp only [Act.put, List.setIfInBounds_toArray, List.set_cons_zero, List.set_cons_succ, i64_w, i32_w]
        rfl
      refine done_ (done_of HT_.out (by kernel_rfl)) ?_
      try go_wp2
      refine bodyPost_ret (results_ct rfl _ _ gb136 50 #[.int .i64 a0_0, .string (⟨#[]⟩ : ByteArray), .int .i64 0, .string a0_2, .int .i64 0] (0, 0) _ rfl (by (with_reducible repeat (first | refine blk_drewN ?_ _ | refine blk_drew ?_ | refine blk_alloc ?_ _)); refine blk_put (cs := #[.int .i64 a0_0, .string (⟨#[]⟩ : ByteArray), .int .i64 0, .string a0_2, .int .i64 0]) ?_ 4 _ rfl; (with_reducible repeat (first | refine blk_drewN ?_ _ | refine blk_drew ?_ | refine blk_alloc ?_ _)); refine blk_put (cs := #[.int .i64 a0_0, .string (⟨#[]⟩ : ByteArray), .int .i64 0, .string (⟨#[]⟩ : ByteArray), .int .i64 0]) ?_ 3 _ rfl; (with_reducible repeat (first | refine blk_drewN ?_ _ | refine blk_drew ?_ | refine blk_alloc ?_ _)); refine blk_put (cs := #[.int .i64 a0_0, .string (⟨#[]⟩ : ByteArray), .int .i64 0, .string (⟨#[]⟩ : ByteArray), .int .i64 0]) ?_ 2 _ rfl; (with_reducible repeat (first | refine blk_drewN ?_ _ | refine blk_drew ?_ | refine blk_alloc ?_ _)); refine blk_put (cs := #[.int .i64 a0_0, .string (⟨#[]⟩ : ByteArray), .int .i64 0, .string (⟨#[]⟩ : ByteArray), .int .i64 0]) ?_ 1 _ rfl; (with_reducible repeat (first | refine blk_drewN ?_ _ | refine blk_drew ?_ | refine blk_alloc ?_ _)); refine blk_put (cs := #[.int .i64 0, .string (⟨#[]⟩ : ByteArray), .int .i64 0, .string (⟨#[]⟩ : ByteArray), .int .i64 0]) ?_ 0 _ rfl; (with_reducible repeat (first | refine blk_drewN ?_ _ | refine blk_drew ?_ | refine blk_alloc ?_ _)); exact BK136.out) Tryd.underlying50 rfl (by kernel_rfl)) rfl ?_
      exact ⟨by first | rfl | (simp [errW_none, errW_some] <;> rfl) | (simp [*, errW_none, errW_some] <;> rfl), by repeat (first | (with_reducible first | exact HB.out | apply below_alloc | apply pw_below_drewN | apply below_drew1 | refine below_set ?_ GE135.out | refine below_set ?_ GE136.out | refine below_set ?_ GE137.out) | exact HB.out)⟩
end Go.Proofs.YteemhjamlkipcaaDoor.PT
end
section
namespace Go.Proofs.YteemhjamlkipcaaDoor.PT
open Go.RowKit Go.Proofs.YteemhjamlkipcaaDoorW.PrintWords Go.Proofs.YteemhjamlkipcaaDoorW.PrintLast Go.Proofs.YteemhjamlkipcaaDoorW.PrintMore
attribute [local go_sem] max2_int min2_int max_two min_two max_three min_three max_four min_four   -- for this text's walks alone
set_option linter.unusedVariables false
set_option linter.unusedSimpArgs false
def clock_two.f (a0 : Int) : Option (ByteArray) := some (strOfNums (([(wrap64 (48 + (wrap64 (Int.tdiv a0 10)))) % 256, (wrap64 (48 + (Int.tmod a0 10))) % 256] : List Int)))
set_option maxHeartbeats 8000000 in
set_option maxRecDepth 100000 in
theorem clock_two.calls (a0 : Int) (r : ByteArray) (w : World) (h : clock_two.f a0 = some r) :
    Calls Tryd.prog 35 #[.int .i64 a0] w fun e w' => e = .returned (.string r) ∧ Below w.heap.size w w' := by
  have HB := Aside0.mk (Below.refl w.heap.size w)
  have H : (some (strOfNums (([(wrap64 (48 + (wrap64 (Int.tdiv a0 10)))) % 256, (wrap64 (48 + (Int.tmod a0 10))) % 256] : List Int)))) = some r := h
  clear h
  obtain ⟨y120, hy120⟩ : ∃ y_ : List Int, y_ = (([(wrap64 (48 + (wrap64 (Int.tdiv a0 10)))) % 256, (wrap64 (48 + (Int.tmod a0 10))) % 256] : List Int)) := ⟨_, rfl⟩
  replace H : (some (strOfNums y120)) = some r := by first | (rw [hy120]; with_reducible exact H) | (have H2_ := (Option.bind_some _ _).symm.trans H; rw [hy120]; with_reducible exact H2_) | (have H2_ := (Option.bind_some _ _).symm.trans H; with_reducible exact H2_) | with_reducible exact H | (rw [hy120]; exact H) | exact H
  have Ny120 := Aside0.mk hy120
  clear hy120
  obtain rfl := Option.some.inj H
  go_enter Tryd.func35, Tryd.ntmps35
  go_wp2_with (first | ((with_reducible refine gate_dst (N := 11) rfl ?_); refine Kd.R_lit (Kd.int .u8) _ 5 ?hg (N := 11) ?hd (xs := ([(wrap64 (48 + (wrap64 (Int.tdiv a0 10)))) % 256, (wrap64 (48 + (Int.tmod a0 10))) % 256] : List Int)) (inner := [.int .u8 ((wrap64 (48 + (wrap64 (Int.tdiv a0 10)))) % 256), .int .u8 ((wrap64 (48 + (Int.tmod a0 10))) % 256)]) (ok := fun _ => True) (okp := fun _ => True) ?hr ?hp (fun _ hk => hk) trivial (Below.refl _ _) (Nat.le_refl _) (by simp) ?_; (case hd => rfl); (case hg => rfl); (case hr => first | (go_simp; done) | (go_simp; rfl)); (case hp => exact (Reps.one (show Kd.M (Kd.int .u8) _ _ _ ((wrap64 (48 + (wrap64 (Int.tdiv a0 10)))) % 256) [.int .u8 ((wrap64 (48 + (wrap64 (Int.tdiv a0 10)))) % 256)] from rfl) (Reps.one (show Kd.M (Kd.int .u8) _ _ _ ((wrap64 (48 + (Int.tmod a0 10))) % 256) [.int .u8 ((wrap64 (48 + (Int.tmod a0 10))) % 256)] from rfl) (Reps.none _ _)))); intro v121 w2 ho3 hb hg_ hnew_; clear hg_ hnew_; (first | rw [← Ny120.out] at ho3 | (simp only [Int.reduceToNat] at ho3; rw [← Ny120.out] at ho3)); have n0_ := Aside0.mk (Kd.R_lower ho3 (below_size (by repeat (first | (with_reducible first | exact HB.out | apply below_alloc | apply pw_below_drewN | apply below_drew1) | exact HB.out)))); have n1_ := Aside0.mk (below_step (by repeat (first | (with_reducible first | exact HB.out | apply below_alloc | apply pw_below_drewN | apply below_drew1) | exact HB.out)) hb); clear HB; have HO122 := n0_; have HB := n1_; clear n0_ n1_; clear hb ho3; have hcv4 := own_string (P := Tryd.prog) Tryd.underlying112 Tryd.underlying5 Tryd.underlying9 (Kd.own_of_R HO122.out)))
  go_ret
  exact ⟨by first | rfl | (simp [errW_none, errW_some] <;> rfl) | (simp [*, errW_none, errW_some] <;> rfl), by repeat (first | (with_reducible first | exact HB.out | apply below_alloc | apply pw_below_drewN | apply below_drew1) | exact HB.out)⟩
end Go.Proofs.YteemhjamlkipcaaDoor.PT
end
section
namespace Go.Proofs.YteemhjamlkipcaaDoor.PT
open Go.RowKit Go.Proofs.YteemhjamlkipcaaDoorW.PrintWords Go.Proofs.YteemhjamlkipcaaDoorW.PrintLast Go.Proofs.YteemhjamlkipcaaDoorW.PrintMore
attribute [local go_sem] max2_int min2_int max_two min_two max_three min_three max_four min_four   -- for this text's walks alone
set_option linter.unusedVariables false
set_option linter.unusedSimpArgs false
def clock_Stamp.f (k : Nat) (a0 : Int) : Option (ByteArray × Int) := (clock_Floor.f a0 86400).bind fun bt123 => ((civil_Date.f k bt123.1).bind fun bt125 => (if bt125.2.2.2 = 0 then ((strconv_Itoa.f bt125.1).bind fun t129 => (if t129.size + 1 ≤ 9223372036854775807 then ((clock_two.f bt125.2.1).bind fun t130 => (if (t129 ++ (⟨#[45]⟩ : ByteArray)).size + t130.size ≤ 9223372036854775807 then (if ((t129 ++ (⟨#[45]⟩ : ByteArray)) ++ t130).size + 1 ≤ 9223372036854775807 then ((clock_two.f bt125.2.2.1).bind fun t131 => (if (((t129 ++ (⟨#[45]⟩ : ByteArray)) ++ t130) ++ (⟨#[45]⟩ : ByteArray)).size + t131.size ≤ 9223372036854775807 then (if ((((t129 ++ (⟨#[45]⟩ : ByteArray)) ++ t130) ++ (⟨#[45]⟩ : ByteArray)) ++ t131).size + 1 ≤ 9223372036854775807 then ((clock_two.f (wrap64 (Int.tdiv bt123.2 3600))).bind fun t132 => (if (((((t129 ++ (⟨#[45]⟩ : ByteArray)) ++ t130) ++ (⟨#[45]⟩ : ByteArray)) ++ t131) ++ (⟨#[84]⟩ : ByteArray)).size + t132.size ≤ 9223372036854775807 then (if ((((((t129 ++ (⟨#[45]⟩ : ByteArray)) ++ t130) ++ (⟨#[45]⟩ : ByteArray)) ++ t131) ++ (⟨#[84]⟩ : ByteArray)) ++ t132).size + 1 ≤ 9223372036854775807 then ((clock_two.f (Int.tmod (wrap64 (Int.tdiv bt123.2 60)) 60)).bind fun t133 => (if (((((((t129 ++ (⟨#[45]⟩ : ByteArray)) ++ t130) ++ (⟨#[45]⟩ : ByteArray)) ++ t131) ++ (⟨#[84]⟩ : ByteArray)) ++ t132) ++ (⟨#[58]⟩ : ByteArray)).size + t133.size ≤ 9223372036854775807 then (if ((((((((t129 ++ (⟨#[45]⟩ : ByteArray)) ++ t130) ++ (⟨#[45]⟩ : ByteArray)) ++ t131) ++ (⟨#[84]⟩ : ByteArray)) ++ t132) ++ (⟨#[58]⟩ : ByteArray)) ++ t133).size + 1 ≤ 9223372036854775807 then ((clock_two.f (Int.tmod bt123.2 60)).bind fun t134 => (if (((((((((t129 ++ (⟨#[45]⟩ : ByteArray)) ++ t130) ++ (⟨#[45]⟩ : ByteArray)) ++ t131) ++ (⟨#[84]⟩ : ByteArray)) ++ t132) ++ (⟨#[58]⟩ : ByteArray)) ++ t133) ++ (⟨#[58]⟩ : ByteArray)).size + t134.size ≤ 9223372036854775807 then (some ((((((((((t129 ++ (⟨#[45]⟩ : ByteArray)) ++ t130) ++ (⟨#[45]⟩ : ByteArray)) ++ t131) ++ (⟨#[84]⟩ : ByteArray)) ++ t132) ++ (⟨#[58]⟩ : ByteArray)) ++ t133) ++ (⟨#[58]⟩ : ByteArray)) ++ t134, 0)) else (none))) else (none)) else (none))) else (none)) else (none))) else (none)) else (none))) else (none)) else (none))) else (none))) else (some ((⟨#[]⟩ : ByteArray), bt125.2.2.2))))
theorem clock_Stamp.mono : ∀ a0 k, LeO (clock_Stamp.f k a0) (clock_Stamp.f (k + 1) a0) := by
  intro a0 k
  unfold clock_Stamp.f
  repeat' first
      | (with_reducible exact civil_Date.mono _ _)
      | (with_reducible exact LeO.refl _)
      | (with_reducible exact LeO.none _)
      | (with_reducible refine LeO.ite ?_ ?_)
      | (with_reducible refine LeO.bind ?_ (fun _ => ?_))
      | exact civil_Date.mono _ _
      | exact LeO.none _
      | refine LeO.ite ?_ ?_
      | refine LeO.bind ?_ (fun _ => ?_)
set_option maxHeartbeats 8000000 in
set_option maxRecDepth 100000 in
theorem clock_Stamp.calls (k : Nat) (a0 : Int) (r1 : ByteArray) (r2 : Int) (w : World) (hL : LaidT w) (h : clock_Stamp.f k a0 = some (r1, r2)) :
    Calls Tryd.prog 19 #[.int .i64 a0] w fun e w' => e = .returned (.tuple #[.string r1, .int .i64 r2]) ∧ Below w.heap.size w w' := by
  have HB := Aside0.mk (Below.refl w.heap.size w)
  have HLA := Aside0.mk hL
  clear hL
  have H : ((clock_Floor.f a0 86400).bind fun bt123 => ((civil_Date.f k bt123.1).bind fun bt125 => (if bt125.2.2.2 = 0 then ((strconv_Itoa.f bt125.1).bind fun t129 => (if t129.size + 1 ≤ 9223372036854775807 then ((clock_two.f bt125.2.1).bind fun t130 => (if (t129 ++ (⟨#[45]⟩ : ByteArray)).size + t130.size ≤ 9223372036854775807 then (if ((t129 ++ (⟨#[45]⟩ : ByteArray)) ++ t130).size + 1 ≤ 9223372036854775807 then ((clock_two.f bt125.2.2.1).bind fun t131 => (if (((t129 ++ (⟨#[45]⟩ : ByteArray)) ++ t130) ++ (⟨#[45]⟩ : ByteArray)).size + t131.size ≤ 9223372036854775807 then (if ((((t129 ++ (⟨#[45]⟩ : ByteArray)) ++ t130) ++ (⟨#[45]⟩ : ByteArray)) ++ t131).size + 1 ≤ 9223372036854775807 then ((clock_two.f (wrap64 (Int.tdiv bt123.2 3600))).bind fun t132 => (if (((((t129 ++ (⟨#[45]⟩ : ByteArray)) ++ t130) ++ (⟨#[45]⟩ : ByteArray)) ++ t131) ++ (⟨#[84]⟩ : ByteArray)).size + t132.size ≤ 9223372036854775807 then (if ((((((t129 ++ (⟨#[45]⟩ : ByteArray)) ++ t130) ++ (⟨#[45]⟩ : ByteArray)) ++ t131) ++ (⟨#[84]⟩ : ByteArray)) ++ t132).size + 1 ≤ 9223372036854775807 then ((clock_two.f (Int.tmod (wrap64 (Int.tdiv bt123.2 60)) 60)).bind fun t133 => (if (((((((t129 ++ (⟨#[45]⟩ : ByteArray)) ++ t130) ++ (⟨#[45]⟩ : ByteArray)) ++ t131) ++ (⟨#[84]⟩ : ByteArray)) ++ t132) ++ (⟨#[58]⟩ : ByteArray)).size + t133.size ≤ 9223372036854775807 then (if ((((((((t129 ++ (⟨#[45]⟩ : ByteArray)) ++ t130) ++ (⟨#[45]⟩ : ByteArray)) ++ t131) ++ (⟨#[84]⟩ : ByteArray)) ++ t132) ++ (⟨#[58]⟩ : ByteArray)) ++ t133).size + 1 ≤ 9223372036854775807 then ((clock_two.f (Int.tmod bt123.2 60)).bind fun t134 => (if (((((((((t129 ++ (⟨#[45]⟩ : ByteArray)) ++ t130) ++ (⟨#[45]⟩ : ByteArray)) ++ t131) ++ (⟨#[84]⟩ : ByteArray)) ++ t132) ++ (⟨#[58]⟩ : ByteArray)) ++ t133) ++ (⟨#[58]⟩ : ByteArray)).size + t134.size ≤ 9223372036854775807 then (some ((((((((((t129 ++ (⟨#[45]⟩ : ByteArray)) ++ t130) ++ (⟨#[45]⟩ : ByteArray)) ++ t131) ++ (⟨#[84]⟩ : ByteArray)) ++ t132) ++ (⟨#[58]⟩ : ByteArray)) ++ t133) ++ (⟨#[58]⟩ : ByteArray)) ++ t134, 0)) else (none))) else (none)) else (none))) else (none)) else (none))) else (none)) else (none))) else (none)) else (none))) else (none))) else (some ((⟨#[]⟩ : ByteArray), bt125.2.2.2))))) = some (r1, r2) := h
  clear h
  replace H := Option.bind_eq_some_iff.mp H
  obtain ⟨⟨t123, t124⟩, A20, H⟩ := H
  replace H : ((civil_Date.f k t123).bind fun bt125 => (if bt125.2.2.2 = 0 then ((strconv_Itoa.f bt125.1).bind fun t129 => (if t129.size + 1 ≤ 9223372036854775807 then ((clock_two.f bt125.2.1).bind fun t130 => (if (t129 ++ (⟨#[45]⟩ : ByteArray)).size + t130.size ≤ 9223372036854775807 then (if ((t129 ++ (⟨#[45]⟩ : ByteArray)) ++ t130).size + 1 ≤ 9223372036854775807 then ((clock_two.f bt125.2.2.1).bind fun t131 => (if (((t129 ++ (⟨#[45]⟩ : ByteArray)) ++ t130) ++ (⟨#[45]⟩ : ByteArray)).size + t131.size ≤ 9223372036854775807 then (if ((((t129 ++ (⟨#[45]⟩ : ByteArray)) ++ t130) ++ (⟨#[45]⟩ : ByteArray)) ++ t131).size + 1 ≤ 9223372036854775807 then ((clock_two.f (wrap64 (Int.tdiv t124 3600))).bind fun t132 => (if (((((t129 ++ (⟨#[45]⟩ : ByteArray)) ++ t130) ++ (⟨#[45]⟩ : ByteArray)) ++ t131) ++ (⟨#[84]⟩ : ByteArray)).size + t132.size ≤ 9223372036854775807 then (if ((((((t129 ++ (⟨#[45]⟩ : ByteArray)) ++ t130) ++ (⟨#[45]⟩ : ByteArray)) ++ t131) ++ (⟨#[84]⟩ : ByteArray)) ++ t132).size + 1 ≤ 9223372036854775807 then ((clock_two.f (Int.tmod (wrap64 (Int.tdiv t124 60)) 60)).bind fun t133 => (if (((((((t129 ++ (⟨#[45]⟩ : ByteArray)) ++ t130) ++ (⟨#[45]⟩ : ByteArray)) ++ t131) ++ (⟨#[84]⟩ : ByteArray)) ++ t132) ++ (⟨#[58]⟩ : ByteArray)).size + t133.size ≤ 9223372036854775807 then (if ((((((((t129 ++ (⟨#[45]⟩ : ByteArray)) ++ t130) ++ (⟨#[45]⟩ : ByteArray)) ++ t131) ++ (⟨#[84]⟩ : ByteArray)) ++ t132) ++ (⟨#[58]⟩ : ByteArray)) ++ t133).size + 1 ≤ 9223372036854775807 then ((clock_two.f (Int.tmod t124 60)).bind fun t134 => (if (((((((((t129 ++ (⟨#[45]⟩ : ByteArray)) ++ t130) ++ (⟨#[45]⟩ : ByteArray)) ++ t131) ++ (⟨#[84]⟩ : ByteArray)) ++ t132) ++ (⟨#[58]⟩ : ByteArray)) ++ t133) ++ (⟨#[58]⟩ : ByteArray)).size + t134.size ≤ 9223372036854775807 then (some ((((((((((t129 ++ (⟨#[45]⟩ : ByteArray)) ++ t130) ++ (⟨#[45]⟩ : ByteArray)) ++ t131) ++ (⟨#[84]⟩ : ByteArray)) ++ t132) ++ (⟨#[58]⟩ : ByteArray)) ++ t133) ++ (⟨#[58]⟩ : ByteArray)) ++ t134, 0)) else (none))) else (none)) else (none))) else (none)) else (none))) else (none)) else (none))) else (none)) else (none))) else (none))) else (some ((⟨#[]⟩ : ByteArray), bt125.2.2.2)))) = some (r1, r2) := H
  have A2 := Aside0.mk A20
  clear A20
  replace H := Option.bind_eq_some_iff.mp H
  obtain ⟨⟨t125, t126, t127, t128⟩, A30, H⟩ := H
  replace H : (if t128 = 0 then ((strconv_Itoa.f t125).bind fun t129 => (if t129.size + 1 ≤ 9223372036854775807 then ((clock_two.f t126).bind fun t130 => (if (t129 ++ (⟨#[45]⟩ : ByteArray)).size + t130.size ≤ 9223372036854775807 then (if ((t129 ++ (⟨#[45]⟩ : ByteArray)) ++ t130).size + 1 ≤ 9223372036854775807 then ((clock_two.f t127).bind fun t131 => (if (((t129 ++ (⟨#[45]⟩ : ByteArray)) ++ t130) ++ (⟨#[45]⟩ : ByteArray)).size + t131.size ≤ 9223372036854775807 then (if ((((t129 ++ (⟨#[45]⟩ : ByteArray)) ++ t130) ++ (⟨#[45]⟩ : ByteArray)) ++ t131).size + 1 ≤ 9223372036854775807 then ((clock_two.f (wrap64 (Int.tdiv t124 3600))).bind fun t132 => (if (((((t129 ++ (⟨#[45]⟩ : ByteArray)) ++ t130) ++ (⟨#[45]⟩ : ByteArray)) ++ t131) ++ (⟨#[84]⟩ : ByteArray)).size + t132.size ≤ 9223372036854775807 then (if ((((((t129 ++ (⟨#[45]⟩ : ByteArray)) ++ t130) ++ (⟨#[45]⟩ : ByteArray)) ++ t131) ++ (⟨#[84]⟩ : ByteArray)) ++ t132).size + 1 ≤ 9223372036854775807 then ((clock_two.f (Int.tmod (wrap64 (Int.tdiv t124 60)) 60)).bind fun t133 => (if (((((((t129 ++ (⟨#[45]⟩ : ByteArray)) ++ t130) ++ (⟨#[45]⟩ : ByteArray)) ++ t131) ++ (⟨#[84]⟩ : ByteArray)) ++ t132) ++ (⟨#[58]⟩ : ByteArray)).size + t133.size ≤ 9223372036854775807 then (if ((((((((t129 ++ (⟨#[45]⟩ : ByteArray)) ++ t130) ++ (⟨#[45]⟩ : ByteArray)) ++ t131) ++ (⟨#[84]⟩ : ByteArray)) ++ t132) ++ (⟨#[58]⟩ : ByteArray)) ++ t133).size + 1 ≤ 9223372036854775807 then ((clock_two.f (Int.tmod t124 60)).bind fun t134 => (if (((((((((t129 ++ (⟨#[45]⟩ : ByteArray)) ++ t130) ++ (⟨#[45]⟩ : ByteArray)) ++ t131) ++ (⟨#[84]⟩ : ByteArray)) ++ t132) ++ (⟨#[58]⟩ : ByteArray)) ++ t133) ++ (⟨#[58]⟩ : ByteArray)).size + t134.size ≤ 9223372036854775807 then (some ((((((((((t129 ++ (⟨#[45]⟩ : ByteArray)) ++ t130) ++ (⟨#[45]⟩ : ByteArray)) ++ t131) ++ (⟨#[84]⟩ : ByteArray)) ++ t132) ++ (⟨#[58]⟩ : ByteArray)) ++ t133) ++ (⟨#[58]⟩ : ByteArray)) ++ t134, 0)) else (none))) else (none)) else (none))) else (none)) else (none))) else (none)) else (none))) else (none)) else (none))) else (none))) else (some ((⟨#[]⟩ : ByteArray), t128))) = some (r1, r2) := H
  have A3 := Aside0.mk A30
  clear A30
  by_cases c4 : t128 = 0
  · rw [if_pos c4] at H
    have c4b0 : (t128 == 0) = true := beq_iff_eq.mpr c4
    have c4b1 : (t128 != 0) = false := bne_eq_false_iff_eq.mpr c4
    clear c4
    replace H := Option.bind_eq_some_iff.mp H
    obtain ⟨t129, A50, H⟩ := H
    replace H : (if t129.size + 1 ≤ 9223372036854775807 then ((clock_two.f t126).bind fun t130 => (if (t129 ++ (⟨#[45]⟩ : ByteArray)).size + t130.size ≤ 9223372036854775807 then (if ((t129 ++ (⟨#[45]⟩ : ByteArray)) ++ t130).size + 1 ≤ 9223372036854775807 then ((clock_two.f t127).bind fun t131 => (if (((t129 ++ (⟨#[45]⟩ : ByteArray)) ++ t130) ++ (⟨#[45]⟩ : ByteArray)).size + t131.size ≤ 9223372036854775807 then (if ((((t129 ++ (⟨#[45]⟩ : ByteArray)) ++ t130) ++ (⟨#[45]⟩ : ByteArray)) ++ t131).size + 1 ≤ 9223372036854775807 then ((clock_two.f (wrap64 (Int.tdiv t124 3600))).bind fun t132 => (if (((((t129 ++ (⟨#[45]⟩ : ByteArray)) ++ t130) ++ (⟨#[45]⟩ : ByteArray)) ++ t131) ++ (⟨#[84]⟩ : ByteArray)).size + t132.size ≤ 9223372036854775807 then (if ((((((t129 ++ (⟨#[45]⟩ : ByteArray)) ++ t130) ++ (⟨#[45]⟩ : ByteArray)) ++ t131) ++ (⟨#[84]⟩ : ByteArray)) ++ t132).size + 1 ≤ 9223372036854775807 then ((clock_two.f (Int.tmod (wrap64 (Int.tdiv t124 60)) 60)).bind fun t133 => (if (((((((t129 ++ (⟨#[45]⟩ : ByteArray)) ++ t130) ++ (⟨#[45]⟩ : ByteArray)) ++ t131) ++ (⟨#[84]⟩ : ByteArray)) ++ t132) ++ (⟨#[58]⟩ : ByteArray)).size + t133.size ≤ 9223372036854775807 then (if ((((((((t129 ++ (⟨#[45]⟩ : ByteArray)) ++ t130) ++ (⟨#[45]⟩ : ByteArray)) ++ t131) ++ (⟨#[84]⟩ : ByteArray)) ++ t132) ++ (⟨#[58]⟩ : ByteArray)) ++ t133).size + 1 ≤ 9223372036854775807 then ((clock_two.f (Int.tmod t124 60)).bind fun t134 => (if (((((((((t129 ++ (⟨#[45]⟩ : ByteArray)) ++ t130) ++ (⟨#[45]⟩ : ByteArray)) ++ t131) ++ (⟨#[84]⟩ : ByteArray)) ++ t132) ++ (⟨#[58]⟩ : ByteArray)) ++ t133) ++ (⟨#[58]⟩ : ByteArray)).size + t134.size ≤ 9223372036854775807 then (some ((((((((((t129 ++ (⟨#[45]⟩ : ByteArray)) ++ t130) ++ (⟨#[45]⟩ : ByteArray)) ++ t131) ++ (⟨#[84]⟩ : ByteArray)) ++ t132) ++ (⟨#[58]⟩ : ByteArray)) ++ t133) ++ (⟨#[58]⟩ : ByteArray)) ++ t134, 0)) else (none))) else (none)) else (none))) else (none)) else (none))) else (none)) else (none))) else (none)) else (none))) else (none)) = some (r1, r2) := H
    have A5 := Aside0.mk A50
    clear A50
    by_cases c6 : t129.size + 1 ≤ 9223372036854775807
    · rw [if_pos c6] at H
      have c6b0 := eq_true c6
      have c6b1 : decide (t129.size + 1 ≤ 9223372036854775807) = true := decide_eq_true c6
      try have c6b2 : (9223372036854775807 < t129.size + 1) = False := eq_false (Nat.not_lt.2 c6)
      replace H := Option.bind_eq_some_iff.mp H
      obtain ⟨t130, A70, H⟩ := H
      replace H : (if (t129 ++ (⟨#[45]⟩ : ByteArray)).size + t130.size ≤ 9223372036854775807 then (if ((t129 ++ (⟨#[45]⟩ : ByteArray)) ++ t130).size + 1 ≤ 9223372036854775807 then ((clock_two.f t127).bind fun t131 => (if (((t129 ++ (⟨#[45]⟩ : ByteArray)) ++ t130) ++ (⟨#[45]⟩ : ByteArray)).size + t131.size ≤ 9223372036854775807 then (if ((((t129 ++ (⟨#[45]⟩ : ByteArray)) ++ t130) ++ (⟨#[45]⟩ : ByteArray)) ++ t131).size + 1 ≤ 9223372036854775807 then ((clock_two.f (wrap64 (Int.tdiv t124 3600))).bind fun t132 => (if (((((t129 ++ (⟨#[45]⟩ : ByteArray)) ++ t130) ++ (⟨#[45]⟩ : ByteArray)) ++ t131) ++ (⟨#[84]⟩ : ByteArray)).size + t132.size ≤ 9223372036854775807 then (if ((((((t129 ++ (⟨#[45]⟩ : ByteArray)) ++ t130) ++ (⟨#[45]⟩ : ByteArray)) ++ t131) ++ (⟨#[84]⟩ : ByteArray)) ++ t132).size + 1 ≤ 9223372036854775807 then ((clock_two.f (Int.tmod (wrap64 (Int.tdiv t124 60)) 60)).bind fun t133 => (if (((((((t129 ++ (⟨#[45]⟩ : ByteArray)) ++ t130) ++ (⟨#[45]⟩ : ByteArray)) ++ t131) ++ (⟨#[84]⟩ : ByteArray)) ++ t132) ++ (⟨#[58]⟩ : ByteArray)).size + t133.size ≤ 9223372036854775807 then (if ((((((((t129 ++ (⟨#[45]⟩ : ByteArray)) ++ t130) ++ (⟨#[45]⟩ : ByteArray)) ++ t131) ++ (⟨#[84]⟩ : ByteArray)) ++ t132) ++ (⟨#[58]⟩ : ByteArray)) ++ t133).size + 1 ≤ 9223372036854775807 then ((clock_two.f (Int.tmod t124 60)).bind fun t134 => (if (((((((((t129 ++ (⟨#[45]⟩ : ByteArray)) ++ t130) ++ (⟨#[45]⟩ : ByteArray)) ++ t131) ++ (⟨#[84]⟩ : ByteArray)) ++ t132) ++ (⟨#[58]⟩ : ByteArray)) ++ t133) ++ (⟨#[58]⟩ : ByteArray)).size + t134.size ≤ 9223372036854775807 then (some ((((((((((t129 ++ (⟨#[45]⟩ : ByteArray)) ++ t130) ++ (⟨#[45]⟩ : ByteArray)) ++ t131) ++ (⟨#[84]⟩ : ByteArray)) ++ t132) ++ (⟨#[58]⟩ : ByteArray)) ++ t133) ++ (⟨#[58]⟩ : ByteArray)) ++ t134, 0)) else (none))) else (none)) else (none))) else (none)) else (none))) else (none)) else (none))) else (none)) else (none)) = some (r1, r2) := H
      have A7 := Aside0.mk A70
      clear A70
      by_cases c8 : (t129 ++ (⟨#[45]⟩ : ByteArray)).size + t130.size ≤ 9223372036854775807
      · rw [if_pos c8] at H
        have c8b0 := eq_true c8
        have c8b1 : decide ((t129 ++ (⟨#[45]⟩ : ByteArray)).size + t130.size ≤ 9223372036854775807) = true := decide_eq_true c8
        try have c8b2 : (9223372036854775807 < (t129 ++ (⟨#[45]⟩ : ByteArray)).size + t130.size) = False := eq_false (Nat.not_lt.2 c8)
        have c8E : (t129.size + 1) + t130.size ≤ 9223372036854775807 := by have h_ := c8; simp only [ByteArray.size_append, ba_size, List.size_toArray, List.length_cons, List.length_nil] at h_; omega
        have c8E0 := eq_true c8E
        have c8E1 : decide ((t129.size + 1) + t130.size ≤ 9223372036854775807) = true := decide_eq_true c8E
        try have c8E2 : (9223372036854775807 < (t129.size + 1) + t130.size) = False := eq_false (Nat.not_lt.2 c8E)
        by_cases c9 : ((t129 ++ (⟨#[45]⟩ : ByteArray)) ++ t130).size + 1 ≤ 9223372036854775807
        · rw [if_pos c9] at H
          have c9b0 := eq_true c9
          have c9b1 : decide (((t129 ++ (⟨#[45]⟩ : ByteArray)) ++ t130).size + 1 ≤ 9223372036854775807) = true := decide_eq_true c9
          try have c9b2 : (9223372036854775807 < ((t129 ++ (⟨#[45]⟩ : ByteArray)) ++ t130).size + 1) = False := eq_false (Nat.not_lt.2 c9)
          have c9E : (t129.size + 1 + t130.size) + 1 ≤ 9223372036854775807 := by have h_ := c9; simp only [ByteArray.size_append, ba_size, List.size_toArray, List.length_cons, List.length_nil] at h_; omega
          have c9E0 := eq_true c9E
          have c9E1 : decide ((t129.size + 1 + t130.size) + 1 ≤ 9223372036854775807) = true := decide_eq_true c9E
          try have c9E2 : (9223372036854775807 < (t129.size + 1 + t130.size) + 1) = False := eq_false (Nat.not_lt.2 c9E)
          replace H := Option.bind_eq_some_iff.mp H
          obtain ⟨t131, A100, H⟩ := H
          replace H : (if (((t129 ++ (⟨#[45]⟩ : ByteArray)) ++ t130) ++ (⟨#[45]⟩ : ByteArray)).size + t131.size ≤ 9223372036854775807 then (if ((((t129 ++ (⟨#[45]⟩ : ByteArray)) ++ t130) ++ (⟨#[45]⟩ : ByteArray)) ++ t131).size + 1 ≤ 9223372036854775807 then ((clock_two.f (wrap64 (Int.tdiv t124 3600))).bind fun t132 => (if (((((t129 ++ (⟨#[45]⟩ : ByteArray)) ++ t130) ++ (⟨#[45]⟩ : ByteArray)) ++ t131) ++ (⟨#[84]⟩ : ByteArray)).size + t132.size ≤ 9223372036854775807 then (if ((((((t129 ++ (⟨#[45]⟩ : ByteArray)) ++ t130) ++ (⟨#[45]⟩ : ByteArray)) ++ t131) ++ (⟨#[84]⟩ : ByteArray)) ++ t132).size + 1 ≤ 9223372036854775807 then ((clock_two.f (Int.tmod (wrap64 (Int.tdiv t124 60)) 60)).bind fun t133 => (if (((((((t129 ++ (⟨#[45]⟩ : ByteArray)) ++ t130) ++ (⟨#[45]⟩ : ByteArray)) ++ t131) ++ (⟨#[84]⟩ : ByteArray)) ++ t132) ++ (⟨#[58]⟩ : ByteArray)).size + t133.size ≤ 9223372036854775807 then (if ((((((((t129 ++ (⟨#[45]⟩ : ByteArray)) ++ t130) ++ (⟨#[45]⟩ : ByteArray)) ++ t131) ++ (⟨#[84]⟩ : ByteArray)) ++ t132) ++ (⟨#[58]⟩ : ByteArray)) ++ t133).size + 1 ≤ 9223372036854775807 then ((clock_two.f (Int.tmod t124 60)).bind fun t134 => (if (((((((((t129 ++ (⟨#[45]⟩ : ByteArray)) ++ t130) ++ (⟨#[45]⟩ : ByteArray)) ++ t131) ++ (⟨#[84]⟩ : ByteArray)) ++ t132) ++ (⟨#[58]⟩ : ByteArray)) ++ t133) ++ (⟨#[58]⟩ : ByteArray)).size + t134.size ≤ 9223372036854775807 then (some ((((((((((t129 ++ (⟨#[45]⟩ : ByteArray)) ++ t130) ++ (⟨#[45]⟩ : ByteArray)) ++ t131) ++ (⟨#[84]⟩ : ByteArray)) ++ t132) ++ (⟨#[58]⟩ : ByteArray)) ++ t133) ++ (⟨#[58]⟩ : ByteArray)) ++ t134, 0)) else (none))) else (none)) else (none))) else (none)) else (none))) else (none)) else (none)) = some (r1, r2) := H
          have A10 := Aside0.mk A100
          clear A100
          by_cases c11 : (((t129 ++ (⟨#[45]⟩ : ByteArray)) ++ t130) ++ (⟨#[45]⟩ : ByteArray)).size + t131.size ≤ 9223372036854775807
          · rw [if_pos c11] at H
            have c11b0 := eq_true c11
            have c11b1 : decide ((((t129 ++ (⟨#[45]⟩ : ByteArray)) ++ t130) ++ (⟨#[45]⟩ : ByteArray)).size + t131.size ≤ 9223372036854775807) = true := decide_eq_true c11
            try have c11b2 : (9223372036854775807 < (((t129 ++ (⟨#[45]⟩ : ByteArray)) ++ t130) ++ (⟨#[45]⟩ : ByteArray)).size + t131.size) = False := eq_false (Nat.not_lt.2 c11)
            have c11E : (t129.size + 1 + t130.size + 1) + t131.size ≤ 9223372036854775807 := by have h_ := c11; simp only [ByteArray.size_append, ba_size, List.size_toArray, List.length_cons, List.length_nil] at h_; omega
            have c11E0 := eq_true c11E
            have c11E1 : decide ((t129.size + 1 + t130.size + 1) + t131.size ≤ 9223372036854775807) = true := decide_eq_true c11E
            try have c11E2 : (9223372036854775807 < (t129.size + 1 + t130.size + 1) + t131.size) = False := eq_false (Nat.not_lt.2 c11E)
            by_cases c12 : ((((t129 ++ (⟨#[45]⟩ : ByteArray)) ++ t130) ++ (⟨#[45]⟩ : ByteArray)) ++ t131).size + 1 ≤ 9223372036854775807
            · rw [if_pos c12] at H
              have c12b0 := eq_true c12
              have c12b1 : decide (((((t129 ++ (⟨#[45]⟩ : ByteArray)) ++ t130) ++ (⟨#[45]⟩ : ByteArray)) ++ t131).size + 1 ≤ 9223372036854775807) = true := decide_eq_true c12
              try have c12b2 : (9223372036854775807 < ((((t129 ++ (⟨#[45]⟩ : ByteArray)) ++ t130) ++ (⟨#[45]⟩ : ByteArray)) ++ t131).size + 1) = False := eq_false (Nat.not_lt.2 c12)
              have c12E : (t129.size + 1 + t130.size + 1 + t131.size) + 1 ≤ 9223372036854775807 := by have h_ := c12; simp only [ByteArray.size_append, ba_size, List.size_toArray, List.length_cons, List.length_nil] at h_; omega
              have c12E0 := eq_true c12E
              have c12E1 : decide ((t129.size + 1 + t130.size + 1 + t131.size) + 1 ≤ 9223372036854775807) = true := decide_eq_true c12E
              try have c12E2 : (9223372036854775807 < (t129.size + 1 + t130.size + 1 + t131.size) + 1) = False := eq_false (Nat.not_lt.2 c12E)
              replace H := Option.bind_eq_some_iff.mp H
              obtain ⟨t132, A130, H⟩ := H
              replace H : (if (((((t129 ++ (⟨#[45]⟩ : ByteArray)) ++ t130) ++ (⟨#[45]⟩ : ByteArray)) ++ t131) ++ (⟨#[84]⟩ : ByteArray)).size + t132.size ≤ 9223372036854775807 then (if ((((((t129 ++ (⟨#[45]⟩ : ByteArray)) ++ t130) ++ (⟨#[45]⟩ : ByteArray)) ++ t131) ++ (⟨#[84]⟩ : ByteArray)) ++ t132).size + 1 ≤ 9223372036854775807 then ((clock_two.f (Int.tmod (wrap64 (Int.tdiv t124 60)) 60)).bind fun t133 => (if (((((((t129 ++ (⟨#[45]⟩ : ByteArray)) ++ t130) ++ (⟨#[45]⟩ : ByteArray)) ++ t131) ++ (⟨#[84]⟩ : ByteArray)) ++ t132) ++ (⟨#[58]⟩ : ByteArray)).size + t133.size ≤ 9223372036854775807 then (if ((((((((t129 ++ (⟨#[45]⟩ : ByteArray)) ++ t130) ++ (⟨#[45]⟩ : ByteArray)) ++ t131) ++ (⟨#[84]⟩ : ByteArray)) ++ t132) ++ (⟨#[58]⟩ : ByteArray)) ++ t133).size + 1 ≤ 9223372036854775807 then ((clock_two.f (Int.tmod t124 60)).bind fun t134 => (if (((((((((t129 ++ (⟨#[45]⟩ : ByteArray)) ++ t130) ++ (⟨#[45]⟩ : ByteArray)) ++ t131) ++ (⟨#[84]⟩ : ByteArray)) ++ t132) ++ (⟨#[58]⟩ : ByteArray)) ++ t133) ++ (⟨#[58]⟩ : ByteArray)).size + t134.size ≤ 9223372036854775807 then (some ((((((((((t129 ++ (⟨#[45]⟩ : ByteArray)) ++ t130) ++ (⟨#[45]⟩ : ByteArray)) ++ t131) ++ (⟨#[84]⟩ : ByteArray)) ++ t132) ++ (⟨#[58]⟩ : ByteArray)) ++ t133) ++ (⟨#[58]⟩ : ByteArray)) ++ t134, 0)) else (none))) else (none)) else (none))) else (none)) else (none)) = some (r1, r2) := H
              have A13 := Aside0.mk A130
              clear A130
              by_cases c14 : (((((t129 ++ (⟨#[45]⟩ : ByteArray)) ++ t130) ++ (⟨#[45]⟩ : ByteArray)) ++ t131) ++ (⟨#[84]⟩ : ByteArray)).size + t132.size ≤ 9223372036854775807
              · rw [if_pos c14] at H
                have c14b0 := eq_true c14
                have c14b1 : decide ((((((t129 ++ (⟨#[45]⟩ : ByteArray)) ++ t130) ++ (⟨#[45]⟩ : ByteArray)) ++ t131) ++ (⟨#[84]⟩ : ByteArray)).size + t132.size ≤ 9223372036854775807) = true := decide_eq_true c14
                try have c14b2 : (9223372036854775807 < (((((t129 ++ (⟨#[45]⟩ : ByteArray)) ++ t130) ++ (⟨#[45]⟩ : ByteArray)) ++ t131) ++ (⟨#[84]⟩ : ByteArray)).size + t132.size) = False := eq_false (Nat.not_lt.2 c14)
                have c14E : (t129.size + 1 + t130.size + 1 + t131.size + 1) + t132.size ≤ 9223372036854775807 := by have h_ := c14; simp only [ByteArray.size_append, ba_size, List.size_toArray, List.length_cons, List.length_nil] at h_; omega
                have c14E0 := eq_true c14E
                have c14E1 : decide ((t129.size + 1 + t130.size + 1 + t131.size + 1) + t132.size ≤ 9223372036854775807) = true := decide_eq_true c14E
                try have c14E2 : (9223372036854775807 < (t129.size + 1 + t130.size + 1 + t131.size + 1) + t132.size) = False := eq_false (Nat.not_lt.2 c14E)
                by_cases c15 : ((((((t129 ++ (⟨#[45]⟩ : ByteArray)) ++ t130) ++ (⟨#[45]⟩ : ByteArray)) ++ t131) ++ (⟨#[84]⟩ : ByteArray)) ++ t132).size + 1 ≤ 9223372036854775807
                · rw [if_pos c15] at H
                  have c15b0 := eq_true c15
                  have c15b1 : decide (((((((t129 ++ (⟨#[45]⟩ : ByteArray)) ++ t130) ++ (⟨#[45]⟩ : ByteArray)) ++ t131) ++ (⟨#[84]⟩ : ByteArray)) ++ t132).size + 1 ≤ 9223372036854775807) = true := decide_eq_true c15
                  try have c15b2 : (9223372036854775807 < ((((((t129 ++ (⟨#[45]⟩ : ByteArray)) ++ t130) ++ (⟨#[45]⟩ : ByteArray)) ++ t131) ++ (⟨#[84]⟩ : ByteArray)) ++ t132).size + 1) = False := eq_false (Nat.not_lt.2 c15)
                  have c15E : (t129.size + 1 + t130.size + 1 + t131.size + 1 + t132.size) + 1 ≤ 9223372036854775807 := by have h_ := c15; simp only [ByteArray.size_append, ba_size, List.size_toArray, List.length_cons, List.length_nil] at h_; omega
                  have c15E0 := eq_true c15E
                  have c15E1 : decide ((t129.size + 1 + t130.size + 1 + t131.size + 1 + t132.size) + 1 ≤ 9223372036854775807) = true := decide_eq_true c15E
                  try have c15E2 : (9223372036854775807 < (t129.size + 1 + t130.size + 1 + t131.size + 1 + t132.size) + 1) = False := eq_false (Nat.not_lt.2 c15E)
                  replace H := Option.bind_eq_some_iff.mp H
                  obtain ⟨t133, A160, H⟩ := H
                  replace H : (if (((((((t129 ++ (⟨#[45]⟩ : ByteArray)) ++ t130) ++ (⟨#[45]⟩ : ByteArray)) ++ t131) ++ (⟨#[84]⟩ : ByteArray)) ++ t132) ++ (⟨#[58]⟩ : ByteArray)).size + t133.size ≤ 9223372036854775807 then (if ((((((((t129 ++ (⟨#[45]⟩ : ByteArray)) ++ t130) ++ (⟨#[45]⟩ : ByteArray)) ++ t131) ++ (⟨#[84]⟩ : ByteArray)) ++ t132) ++ (⟨#[58]⟩ : ByteArray)) ++ t133).size + 1 ≤ 9223372036854775807 then ((clock_two.f (Int.tmod t124 60)).bind fun t134 => (if (((((((((t129 ++ (⟨#[45]⟩ : ByteArray)) ++ t130) ++ (⟨#[45]⟩ : ByteArray)) ++ t131) ++ (⟨#[84]⟩ : ByteArray)) ++ t132) ++ (⟨#[58]⟩ : ByteArray)) ++ t133) ++ (⟨#[58]⟩ : ByteArray)).size + t134.size ≤ 9223372036854775807 then (some ((((((((((t129 ++ (⟨#[45]⟩ : ByteArray)) ++ t130) ++ (⟨#[45]⟩ : ByteArray)) ++ t131) ++ (⟨#[84]⟩ : ByteArray)) ++ t132) ++ (⟨#[58]⟩ : ByteArray)) ++ t133) ++ (⟨#[58]⟩ : ByteArray)) ++ t134, 0)) else (none))) else (none)) else (none)) = some (r1, r2) := H
                  have A16 := Aside0.mk A160
                  clear A160
                  by_cases c17 : (((((((t129 ++ (⟨#[45]⟩ : ByteArray)) ++ t130) ++ (⟨#[45]⟩ : ByteArray)) ++ t131) ++ (⟨#[84]⟩ : ByteArray)) ++ t132) ++ (⟨#[58]⟩ : ByteArray)).size + t133.size ≤ 9223372036854775807
                  · rw [if_pos c17] at H
                    have c17b0 := eq_true c17
                    have c17b1 : decide ((((((((t129 ++ (⟨#[45]⟩ : ByteArray)) ++ t130) ++ (⟨#[45]⟩ : ByteArray)) ++ t131) ++ (⟨#[84]⟩ : ByteArray)) ++ t132) ++ (⟨#[58]⟩ : ByteArray)).size + t133.size ≤ 9223372036854775807) = true := decide_eq_true c17
                    try have c17b2 : (9223372036854775807 < (((((((t129 ++ (⟨#[45]⟩ : ByteArray)) ++ t130) ++ (⟨#[45]⟩ : ByteArray)) ++ t131) ++ (⟨#[84]⟩ : ByteArray)) ++ t132) ++ (⟨#[58]⟩ : ByteArray)).size + t133.size) = False := eq_false (Nat.not_lt.2 c17)
                    have c17E : (t129.size + 1 + t130.size + 1 + t131.size + 1 + t132.size + 1) + t133.size ≤ 9223372036854775807 := by have h_ := c17; simp only [ByteArray.size_append, ba_size, List.size_toArray, List.length_cons, List.length_nil] at h_; omega
                    have c17E0 := eq_true c17E
                    have c17E1 : decide ((t129.size + 1 + t130.size + 1 + t131.size + 1 + t132.size + 1) + t133.size ≤ 9223372036854775807) = true := decide_eq_true c17E
                    try have c17E2 : (9223372036854775807 < (t129.size + 1 + t130.size + 1 + t131.size + 1 + t132.size + 1) + t133.size) = False := eq_false (Nat.not_lt.2 c17E)
                    by_cases c18 : ((((((((t129 ++ (⟨#[45]⟩ : ByteArray)) ++ t130) ++ (⟨#[45]⟩ : ByteArray)) ++ t131) ++ (⟨#[84]⟩ : ByteArray)) ++ t132) ++ (⟨#[58]⟩ : ByteArray)) ++ t133).size + 1 ≤ 9223372036854775807
                    · rw [if_pos c18] at H
                      have c18b0 := eq_true c18
                      have c18b1 : decide (((((((((t129 ++ (⟨#[45]⟩ : ByteArray)) ++ t130) ++ (⟨#[45]⟩ : ByteArray)) ++ t131) ++ (⟨#[84]⟩ : ByteArray)) ++ t132) ++ (⟨#[58]⟩ : ByteArray)) ++ t133).size + 1 ≤ 9223372036854775807) = true := decide_eq_true c18
                      try have c18b2 : (9223372036854775807 < ((((((((t129 ++ (⟨#[45]⟩ : ByteArray)) ++ t130) ++ (⟨#[45]⟩ : ByteArray)) ++ t131) ++ (⟨#[84]⟩ : ByteArray)) ++ t132) ++ (⟨#[58]⟩ : ByteArray)) ++ t133).size + 1) = False := eq_false (Nat.not_lt.2 c18)
                      have c18E : (t129.size + 1 + t130.size + 1 + t131.size + 1 + t132.size + 1 + t133.size) + 1 ≤ 9223372036854775807 := by have h_ := c18; simp only [ByteArray.size_append, ba_size, List.size_toArray, List.length_cons, List.length_nil] at h_; omega
                      have c18E0 := eq_true c18E
                      have c18E1 : decide ((t129.size + 1 + t130.size + 1 + t131.size + 1 + t132.size + 1 + t133.size) + 1 ≤ 9223372036854775807) = true := decide_eq_true c18E
                      try have c18E2 : (9223372036854775807 < (t129.size + 1 + t130.size + 1 + t131.size + 1 + t132.size + 1 + t133.size) + 1) = False := eq_false (Nat.not_lt.2 c18E)
                      replace H := Option.bind_eq_some_iff.mp H
                      obtain ⟨t134, A190, H⟩ := H
                      replace H : (if (((((((((t129 ++ (⟨#[45]⟩ : ByteArray)) ++ t130) ++ (⟨#[45]⟩ : ByteArray)) ++ t131) ++ (⟨#[84]⟩ : ByteArray)) ++ t132) ++ (⟨#[58]⟩ : ByteArray)) ++ t133) ++ (⟨#[58]⟩ : ByteArray)).size + t134.size ≤ 9223372036854775807 then (some ((((((((((t129 ++ (⟨#[45]⟩ : ByteArray)) ++ t130) ++ (⟨#[45]⟩ : ByteArray)) ++ t131) ++ (⟨#[84]⟩ : ByteArray)) ++ t132) ++ (⟨#[58]⟩ : ByteArray)) ++ t133) ++ (⟨#[58]⟩ : ByteArray)) ++ t134, 0)) else (none)) = some (r1, r2) := H
                      have A19 := Aside0.mk A190
                      clear A190
                      by_cases c20 : (((((((((t129 ++ (⟨#[45]⟩ : ByteArray)) ++ t130) ++ (⟨#[45]⟩ : ByteArray)) ++ t131) ++ (⟨#[84]⟩ : ByteArray)) ++ t132) ++ (⟨#[58]⟩ : ByteArray)) ++ t133) ++ (⟨#[58]⟩ : ByteArray)).size + t134.size ≤ 9223372036854775807
                      · rw [if_pos c20] at H
                        have c20b0 := eq_true c20
                        have c20b1 : decide ((((((((((t129 ++ (⟨#[45]⟩ : ByteArray)) ++ t130) ++ (⟨#[45]⟩ : ByteArray)) ++ t131) ++ (⟨#[84]⟩ : ByteArray)) ++ t132) ++ (⟨#[58]⟩ : ByteArray)) ++ t133) ++ (⟨#[58]⟩ : ByteArray)).size + t134.size ≤ 9223372036854775807) = true := decide_eq_true c20
                        try have c20b2 : (9223372036854775807 < (((((((((t129 ++ (⟨#[45]⟩ : ByteArray)) ++ t130) ++ (⟨#[45]⟩ : ByteArray)) ++ t131) ++ (⟨#[84]⟩ : ByteArray)) ++ t132) ++ (⟨#[58]⟩ : ByteArray)) ++ t133) ++ (⟨#[58]⟩ : ByteArray)).size + t134.size) = False := eq_false (Nat.not_lt.2 c20)
                        have c20E : (t129.size + 1 + t130.size + 1 + t131.size + 1 + t132.size + 1 + t133.size + 1) + t134.size ≤ 9223372036854775807 := by have h_ := c20; simp only [ByteArray.size_append, ba_size, List.size_toArray, List.length_cons, List.length_nil] at h_; omega
                        have c20E0 := eq_true c20E
                        have c20E1 : decide ((t129.size + 1 + t130.size + 1 + t131.size + 1 + t132.size + 1 + t133.size + 1) + t134.size ≤ 9223372036854775807) = true := decide_eq_true c20E
                        try have c20E2 : (9223372036854775807 < (t129.size + 1 + t130.size + 1 + t131.size + 1 + t132.size + 1 + t133.size + 1) + t134.size) = False := eq_false (Nat.not_lt.2 c20E)
                        simp only [Option.some.injEq, Prod.mk.injEq] at H
                        obtain ⟨rfl, rfl⟩ := H
                        go_enter Tryd.func19, Tryd.ntmps19
                        go_wp2_with (first | ((with_reducible refine gate_callee (f := 11) rfl ?_); refine goesL_ (some 12) rfl rfl Tryd.func11 (by kernel_rfl) rfl #[.int .i64 a0, .int .i64 86400] rfl (by (try simp only [List.map_toArray, List.map_cons, List.map_nil]); first | done | rfl | (simp only [List.length_drop, List.length_take]; rfl)) ?_; (with_reducible refine (clock_Floor.calls a0 86400 t123 t124 _ A2.out).mono ?_); rintro e w' ⟨rfl, ⟨nd, rfl⟩⟩; refine ⟨_, rfl, ?_⟩) | ((with_reducible refine gate_callee (f := 12) rfl ?_); refine goesL_ (some 17) rfl rfl Tryd.func12 (by kernel_rfl) rfl #[.int .i64 t123] rfl (by (try simp only [List.map_toArray, List.map_cons, List.map_nil]); first | done | rfl | (simp only [List.length_drop, List.length_take]; rfl)) ?_; (with_reducible refine (civil_Date.calls k t123 t125 t126 t127 t128 _ A3.out).mono ?_); rintro e w21 ⟨rfl, hb⟩; refine ⟨_, rfl, ?_⟩; have n0_ := Aside0.mk (below_step (by repeat (first | (with_reducible first | exact HB.out | apply below_alloc | apply pw_below_drewN | apply below_drew1) | exact HB.out)) hb); clear HB; have HB := n0_; clear n0_; (try clear hb); (try clear hb2); (try clear hk); (try clear hi)) | ((with_reducible refine gate_callee (f := 34) rfl ?_); refine goesL_ (some 26) rfl rfl Tryd.func34 (by kernel_rfl) rfl #[.int .i64 t125] rfl (by (try simp only [List.map_toArray, List.map_cons, List.map_nil]); first | done | rfl | (simp only [List.length_drop, List.length_take]; rfl)) ?_; (with_reducible refine (strconv_Itoa.calls t125 t129 _ ?side1 A5.out).mono ?_); (case side1 => exact LaidT.sub HLA.out (by repeat (first | (with_reducible first | exact HB.out | apply below_alloc | apply pw_below_drewN | apply below_drew1) | exact HB.out))); rintro e w22 ⟨rfl, hb⟩; refine ⟨_, rfl, ?_⟩; have n0_ := Aside0.mk (below_step (by repeat (first | (with_reducible first | exact HB.out | apply below_alloc | apply pw_below_drewN | apply below_drew1) | exact HB.out)) hb); clear HB; have HB := n0_; clear n0_; (try clear hb); (try clear hb2); (try clear hk); (try clear hi)) | ((with_reducible refine gate_callee (f := 35) rfl ?_); refine goesL_ (some 29) rfl rfl Tryd.func35 (by kernel_rfl) rfl #[.int .i64 t126] rfl (by (try simp only [List.map_toArray, List.map_cons, List.map_nil]); first | done | rfl | (simp only [List.length_drop, List.length_take]; rfl)) ?_; (with_reducible refine (clock_two.calls t126 t130 _ A7.out).mono ?_); rintro e w23 ⟨rfl, hb⟩; refine ⟨_, rfl, ?_⟩; have n0_ := Aside0.mk (below_step (by repeat (first | (with_reducible first | exact HB.out | apply below_alloc | apply pw_below_drewN | apply below_drew1) | exact HB.out)) hb); clear HB; have HB := n0_; clear n0_; (try clear hb); (try clear hb2); (try clear hk); (try clear hi)) | ((with_reducible refine gate_callee (f := 35) rfl ?_); refine goesL_ (some 33) rfl rfl Tryd.func35 (by kernel_rfl) rfl #[.int .i64 t127] rfl (by (try simp only [List.map_toArray, List.map_cons, List.map_nil]); first | done | rfl | (simp only [List.length_drop, List.length_take]; rfl)) ?_; (with_reducible refine (clock_two.calls t127 t131 _ A10.out).mono ?_); rintro e w24 ⟨rfl, hb⟩; refine ⟨_, rfl, ?_⟩; have n0_ := Aside0.mk (below_step (by repeat (first | (with_reducible first | exact HB.out | apply below_alloc | apply pw_below_drewN | apply below_drew1) | exact HB.out)) hb); clear HB; have HB := n0_; clear n0_; (try clear hb); (try clear hb2); (try clear hk); (try clear hi)) | ((with_reducible refine gate_callee (f := 35) rfl ?_); refine goesL_ (some 38) rfl rfl Tryd.func35 (by kernel_rfl) rfl #[.int .i64 (wrap64 (Int.tdiv t124 3600))] rfl (by (try simp only [List.map_toArray, List.map_cons, List.map_nil]); first | done | rfl | (simp only [List.length_drop, List.length_take]; rfl)) ?_; (with_reducible refine (clock_two.calls (wrap64 (Int.tdiv t124 3600)) t132 _ A13.out).mono ?_); rintro e w25 ⟨rfl, hb⟩; refine ⟨_, rfl, ?_⟩; have n0_ := Aside0.mk (below_step (by repeat (first | (with_reducible first | exact HB.out | apply below_alloc | apply pw_below_drewN | apply below_drew1) | exact HB.out)) hb); clear HB; have HB := n0_; clear n0_; (try clear hb); (try clear hb2); (try clear hk); (try clear hi)) | ((with_reducible refine gate_callee (f := 35) rfl ?_); refine goesL_ (some 44) rfl rfl Tryd.func35 (by kernel_rfl) rfl #[.int .i64 (Int.tmod (wrap64 (Int.tdiv t124 60)) 60)] rfl (by (try simp only [List.map_toArray, List.map_cons, List.map_nil]); first | done | rfl | (simp only [List.length_drop, List.length_take]; rfl)) ?_; (with_reducible refine (clock_two.calls (Int.tmod (wrap64 (Int.tdiv t124 60)) 60) t133 _ A16.out).mono ?_); rintro e w26 ⟨rfl, hb⟩; refine ⟨_, rfl, ?_⟩; have n0_ := Aside0.mk (below_step (by repeat (first | (with_reducible first | exact HB.out | apply below_alloc | apply pw_below_drewN | apply below_drew1) | exact HB.out)) hb); clear HB; have HB := n0_; clear n0_; (try clear hb); (try clear hb2); (try clear hk); (try clear hi)) | ((with_reducible refine gate_callee (f := 35) rfl ?_); refine goesL_ (some 49) rfl rfl Tryd.func35 (by kernel_rfl) rfl #[.int .i64 (Int.tmod t124 60)] rfl (by (try simp only [List.map_toArray, List.map_cons, List.map_nil]); first | done | rfl | (simp only [List.length_drop, List.length_take]; rfl)) ?_; (with_reducible refine (clock_two.calls (Int.tmod t124 60) t134 _ A19.out).mono ?_); rintro e w27 ⟨rfl, hb⟩; refine ⟨_, rfl, ?_⟩; have n0_ := Aside0.mk (below_step (by repeat (first | (with_reducible first | exact HB.out | apply below_alloc | apply pw_below_drewN | apply below_drew1) | exact HB.out)) hb); clear HB; have HB := n0_; clear n0_; (try clear hb); (try clear hb2); (try clear hk); (try clear hi)))
                        go_ret2
                        exact ⟨by first | rfl | (simp [errW_none, errW_some] <;> rfl) | (simp [*, errW_none, errW_some] <;> rfl), by repeat (first | (with_reducible first | exact HB.out | apply below_alloc | apply pw_below_drewN | apply below_drew1) | exact HB.out)⟩
                      · rw [if_neg c20] at H
                        exact absurd H (by simp)
                    · rw [if_neg c18] at H
                      exact absurd H (by simp)
                  · rw [if_neg c17] at H
                    exact absurd H (by simp)
                · rw [if_neg c15] at H
                  exact absurd H (by simp)
              · rw [if_neg c14] at H
                exact absurd H (by simp)
            · rw [if_neg c12] at H
              exact absurd H (by simp)
          · rw [if_neg c11] at H
            exact absurd H (by simp)
        · rw [if_neg c9] at H
          exact absurd H (by simp)
      · rw [if_neg c8] at H
        exact absurd H (by simp)
    · rw [if_neg c6] at H
      exact absurd H (by simp)
  · rw [if_neg c4] at H
    have c4b0 : (t128 == 0) = false := beq_eq_false_iff_ne.mpr c4
    have c4b1 : (t128 != 0) = true := bne_iff_ne.mpr c4
    simp only [Option.some.injEq, Prod.mk.injEq] at H
    obtain ⟨rfl, rfl⟩ := H
    go_enter Tryd.func19, Tryd.ntmps19
    go_wp2_with (first | ((with_reducible refine gate_callee (f := 11) rfl ?_); refine goesL_ (some 12) rfl rfl Tryd.func11 (by kernel_rfl) rfl #[.int .i64 a0, .int .i64 86400] rfl (by (try simp only [List.map_toArray, List.map_cons, List.map_nil]); first | done | rfl | (simp only [List.length_drop, List.length_take]; rfl)) ?_; (with_reducible refine (clock_Floor.calls a0 86400 t123 t124 _ A2.out).mono ?_); rintro e w' ⟨rfl, ⟨nd, rfl⟩⟩; refine ⟨_, rfl, ?_⟩) | ((with_reducible refine gate_callee (f := 12) rfl ?_); refine goesL_ (some 17) rfl rfl Tryd.func12 (by kernel_rfl) rfl #[.int .i64 t123] rfl (by (try simp only [List.map_toArray, List.map_cons, List.map_nil]); first | done | rfl | (simp only [List.length_drop, List.length_take]; rfl)) ?_; (with_reducible refine (civil_Date.calls k t123 t125 t126 t127 t128 _ A3.out).mono ?_); rintro e w28 ⟨rfl, hb⟩; refine ⟨_, rfl, ?_⟩; have n0_ := Aside0.mk (below_step (by repeat (first | (with_reducible first | exact HB.out | apply below_alloc | apply pw_below_drewN | apply below_drew1) | exact HB.out)) hb); clear HB; have HB := n0_; clear n0_; (try clear hb); (try clear hb2); (try clear hk); (try clear hi)))
    go_ret2
    exact ⟨by first | rfl | (simp [errW_none, errW_some] <;> rfl) | (simp [*, errW_none, errW_some] <;> rfl), by repeat (first | (with_reducible first | exact HB.out | apply below_alloc | apply pw_below_drewN | apply below_drew1) | exact HB.out)⟩
end Go.Proofs.YteemhjamlkipcaaDoor.PT
end
section
namespace Go.Proofs.YteemhjamlkipcaaDoor.PT
open Go.RowKit Go.Proofs.YteemhjamlkipcaaDoorW.PrintWords Go.Proofs.YteemhjamlkipcaaDoorW.PrintLast Go.Proofs.YteemhjamlkipcaaDoorW.PrintMore
attribute [local go_sem] max2_int min2_int max_two min_two max_three min_three max_four min_four   -- for this text's walks alone
set_option linter.unusedVariables false
set_option linter.unusedSimpArgs false
def rule_IsName.f (k : Nat) (a0 : ByteArray) : Option (Bool) := (rule_all.f k a0 20 (⟨#[95, 47, 45]⟩ : ByteArray)).bind fun t116 => (if t116 = true then (if 0 < (a0.size : Int) then ((rule_isLetter.f (bt a0 0)).bind fun t117 => (some t117)) else (none)) else (some false))
theorem rule_IsName.mono : ∀ a0 k, LeO (rule_IsName.f k a0) (rule_IsName.f (k + 1) a0) := by
  intro a0 k
  unfold rule_IsName.f
  repeat' first
      | (with_reducible exact rule_all.mono _ _ _ _)
      | (with_reducible exact LeO.refl _)
      | (with_reducible exact LeO.none _)
      | (with_reducible refine LeO.ite ?_ ?_)
      | (with_reducible refine LeO.bind ?_ (fun _ => ?_))
      | exact rule_all.mono _ _ _ _
      | exact LeO.none _
      | refine LeO.ite ?_ ?_
      | refine LeO.bind ?_ (fun _ => ?_)
set_option maxHeartbeats 8000000 in
set_option maxRecDepth 100000 in
theorem rule_IsName.calls (k : Nat) (a0 : ByteArray) (r : Bool) (w : World) (hL : LaidT w) (h : rule_IsName.f k a0 = some r) :
    Calls Tryd.prog 17 #[.string a0] w fun e w' => e = .returned (.bool r) ∧ Below w.heap.size w w' := by
  have HB := Aside0.mk (Below.refl w.heap.size w)
  have HLA := Aside0.mk hL
  clear hL
  have H : ((rule_all.f k a0 20 (⟨#[95, 47, 45]⟩ : ByteArray)).bind fun t116 => (if t116 = true then (if 0 < (a0.size : Int) then ((rule_isLetter.f (bt a0 0)).bind fun t117 => (some t117)) else (none)) else (some false))) = some r := h
  clear h
  replace H := Option.bind_eq_some_iff.mp H
  obtain ⟨t116, A20, H⟩ := H
  replace H : (if t116 = true then (if 0 < (a0.size : Int) then ((rule_isLetter.f (bt a0 0)).bind fun t117 => (some t117)) else (none)) else (some false)) = some r := H
  have A2 := Aside0.mk A20
  clear A20
  by_cases c3 : t116 = true
  · subst c3
    have H1 : (if 0 < (a0.size : Int) then ((rule_isLetter.f (bt a0 0)).bind fun t117 => (some t117)) else (none)) = some r := by rw [if_pos rfl] at H; exact H
    clear H
    have H := H1
    clear H1
    by_cases c4 : 0 < (a0.size : Int)
    · rw [if_pos c4] at H
      have c4b0 : decide (0 < (a0.size : Int)) = true := decide_eq_true c4
      have c4b1 : decide (0 < a0.size) = true := decide_eq_true (by omega)
      clear c4
      replace H := Option.bind_eq_some_iff.mp H
      obtain ⟨t117, A60, H⟩ := H
      replace H : (some t117) = some r := H
      have A6 := Aside0.mk A60
      clear A60
      obtain rfl := Option.some.inj H
      go_enter Tryd.func17, Tryd.ntmps17
      go_wp2_with (first | ((with_reducible refine gate_callee (f := 22) rfl ?_); refine goesL_ (some 4) rfl rfl Tryd.func22 (by kernel_rfl) rfl #[.string a0, .int .i64 20, .string (⟨#[95, 47, 45]⟩ : ByteArray)] rfl (by (try simp only [List.map_toArray, List.map_cons, List.map_nil]); first | done | rfl | (simp only [List.length_drop, List.length_take]; rfl)) ?_; (with_reducible refine (rule_all.calls k a0 20 (⟨#[95, 47, 45]⟩ : ByteArray) true _ ?side1 A2.out).mono ?_); (case side1 => exact LaidT.sub HLA.out (by repeat (first | (with_reducible first | exact HB.out | apply below_alloc | apply pw_below_drewN | apply below_drew1) | exact HB.out))); rintro e w7 ⟨rfl, hb⟩; refine ⟨_, rfl, ?_⟩; have n0_ := Aside0.mk (below_step (by repeat (first | (with_reducible first | exact HB.out | apply below_alloc | apply pw_below_drewN | apply below_drew1) | exact HB.out)) hb); clear HB; have HB := n0_; clear n0_; (try clear hb); (try clear hb2); (try clear hk); (try clear hi); have p5 : 0 ≤ (0 : Int) := (by omega); have q5 : 0 < a0.size := (by have : (0 : Int) < (a0.size : Int) := of_decide_eq_true (by first | (with_reducible assumption) | assumption); omega); have hx5 : ∀ h : 0 < a0.size, ((a0[0]'h).toNat : Int) = bt a0 0 := bt_at a0 0; clear p5; have qi5 : (0 < (a0.size : Int)) = True := eq_true (of_decide_eq_true (by first | (with_reducible assumption) | assumption)); replace q5 := eq_true q5) | (go_at_call 31; (with_reducible refine (rule_isLetter.calls (bt a0 0) t117 _ A6.out).mono ?_); rintro e w' ⟨rfl, ⟨nd, rfl⟩⟩))
      go_ret
      exact ⟨by first | rfl | (simp [errW_none, errW_some] <;> rfl) | (simp [*, errW_none, errW_some] <;> rfl), by repeat (first | (with_reducible first | exact HB.out | apply below_alloc | apply pw_below_drewN | apply below_drew1) | exact HB.out)⟩
    · rw [if_neg c4] at H
      exact absurd H (by simp)
  · replace c3 := Bool.eq_false_iff.mpr c3
    subst c3
    have H1 : (some false) = some r := by rw [if_neg (show ¬ (false = true) by decide)] at H; exact H
    clear H
    have H := H1
    clear H1
    obtain rfl := Option.some.inj H
    go_enter Tryd.func17, Tryd.ntmps17
    go_wp2_with (first | ((with_reducible refine gate_callee (f := 22) rfl ?_); refine goesL_ (some 4) rfl rfl Tryd.func22 (by kernel_rfl) rfl #[.string a0, .int .i64 20, .string (⟨#[95, 47, 45]⟩ : ByteArray)] rfl (by (try simp only [List.map_toArray, List.map_cons, List.map_nil]); first | done | rfl | (simp only [List.length_drop, List.length_take]; rfl)) ?_; (with_reducible refine (rule_all.calls k a0 20 (⟨#[95, 47, 45]⟩ : ByteArray) false _ ?side1 A2.out).mono ?_); (case side1 => exact LaidT.sub HLA.out (by repeat (first | (with_reducible first | exact HB.out | apply below_alloc | apply pw_below_drewN | apply below_drew1) | exact HB.out))); rintro e w8 ⟨rfl, hb⟩; refine ⟨_, rfl, ?_⟩; have n0_ := Aside0.mk (below_step (by repeat (first | (with_reducible first | exact HB.out | apply below_alloc | apply pw_below_drewN | apply below_drew1) | exact HB.out)) hb); clear HB; have HB := n0_; clear n0_; (try clear hb); (try clear hb2); (try clear hk); (try clear hi)))
    go_ret
    exact ⟨by first | rfl | (simp [errW_none, errW_some] <;> rfl) | (simp [*, errW_none, errW_some] <;> rfl), by repeat (first | (with_reducible first | exact HB.out | apply below_alloc | apply pw_below_drewN | apply below_drew1) | exact HB.out)⟩
end Go.Proofs.YteemhjamlkipcaaDoor.PT
end
section
namespace Go.Proofs.YteemhjamlkipcaaDoor.PT
open Go.RowKit Go.Proofs.YteemhjamlkipcaaDoorW.PrintWords Go.Proofs.YteemhjamlkipcaaDoorW.PrintLast Go.Proofs.YteemhjamlkipcaaDoorW.PrintMore
attribute [local go_sem] max2_int min2_int max_two min_two max_three min_three max_four min_four   -- for this text's walks alone
set_option linter.unusedVariables false
set_option linter.unusedSimpArgs false
def table_within.f (a0 : Int) (a1 : Int) (a2 : Int) : Option (Bool) := if a0 ≥ a1 then (some (decide (a0 ≤ a2))) else (some false)
set_option maxHeartbeats 8000000 in
set_option maxRecDepth 100000 in
theorem table_within.calls (a0 : Int) (a1 : Int) (a2 : Int) (r : Bool) (w : World) (h : table_within.f a0 a1 a2 = some r) :
    Calls Tryd.prog 30 #[.int .i64 a0, .int .i64 a1, .int .i64 a2] w fun e w' => e = .returned (.bool r) ∧ Drawn0 w w' := by
  have H : (if a0 ≥ a1 then (some (decide (a0 ≤ a2))) else (some false)) = some r := h
  clear h
  by_cases c4 : a0 ≥ a1
  · rw [if_pos c4] at H
    have c4b0 : decide (a1 ≤ a0) = true := decide_eq_true c4
    clear c4
    obtain rfl := Option.some.inj H
    go_enter Tryd.func30, Tryd.ntmps30
    go_wp2
    go_ret
    exact ⟨by first | rfl | (simp; done) | (simp [*]; done), by repeat (first | exact Drawn0.refl _ | apply Drawn0.step)⟩
  · rw [if_neg c4] at H
    have c4b0 : decide (a1 ≤ a0) = false := decide_eq_false c4
    clear c4
    obtain rfl := Option.some.inj H
    go_enter Tryd.func30, Tryd.ntmps30
    go_wp2
    go_ret
    exact ⟨by first | rfl | (simp; done) | (simp [*]; done), by repeat (first | exact Drawn0.refl _ | apply Drawn0.step)⟩
end Go.Proofs.YteemhjamlkipcaaDoor.PT
end
