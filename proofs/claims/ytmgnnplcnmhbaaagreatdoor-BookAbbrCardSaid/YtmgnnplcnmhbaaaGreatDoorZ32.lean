/- Part 32 of 36 of the proof of bookAbbr_holds. What it holds was printed or written for this claim, text by text, and merged. -/
import Derived.Test.YtmgnnplcnmhbaaaGreatDoorZ31
import Derived.Test.YtmgnnplcnmhbaaaGreatDoorZ29
import Derived.Test.YtmgnnplcnmhbaaaGreatDoorZ26
import Derived.Test.YtmgnnplcnmhbaaaGreatDoorZ25
section
namespace Go.Proofs.YtmgnnplcnmhbaaaGreatDoor.PT
open Go.RowKit Go.Proofs.YtmgnnplcnmhbaaaGreatDoorW.PrintWords Go.Proofs.YtmgnnplcnmhbaaaGreatDoorW.PrintLast Go.Proofs.YtmgnnplcnmhbaaaGreatDoorW.PrintMore
set_option linter.unusedVariables false
set_option linter.unusedSimpArgs false
theorem goesC_ {P : Program} {ops : Array Oper} {Q : Exit → Act → World → Prop} {oi : Oper} {N : Option Tmp} {a : Act} {w : World} {K : Act → World → Prop} {f : FuncId} {fn : Func} {t : Nat} {lb : Array Value} {ps : Array Operand} {ts : Array TypeId} {args : Array Value} (hf : P.funcs[f]? = some fn) (hname : (fn.name == "runtime.NumGoroutine") = false) (hb : fn.body.isSome = true)
    (hw : Region.wanted oi (yielded ops a.tmps) = true) (hN : oi.dst = N) (hop : oi.op = .call { callee := .value (.tmp t), args := ps, argTypes := ts }) (ht : a.eval (.tmp t) = .func (.func f) #[] lb) (hargs : ps.map a.eval ++ lb = args)
    (h : Calls P f args w fun e w' => ∃ v, e = .returned v ∧ K (a.put N v) w') : if Region.wanted oi (yielded ops a.tmps) = true then Oper.wp P oi a w K Q else K (a.put N undef) w := by
  refine call_ f args hw hN ?_ h
  have he := enters_ hf hname hb args w
  unfold execOp
  simp [hop, resolve, Deferred.ofValue, invoke, ht, hargs, he]
def bk_link (k : Nat) (l1 : List S43) (l2 : List S45) (i : Nat) : Option Int :=
  (rule_IsName.f k (rd_T45 l2 (i : Int)).f0).bind fun a => if a = true then
    (rule_IsName.f k (rd_T45 l2 (i : Int)).f1).bind fun b => if b = true then
      (if l1.any (fun y => same y.f0 (rd_T45 l2 (i : Int)).f0) = true then some 7
       else if (l2.take i).any (fun y => same y.f0 (rd_T45 l2 (i : Int)).f0) = true then some 7
       else if l1.any (fun y => same y.f0 (rd_T45 l2 (i : Int)).f1) = true then some 0
       else if l2.any (fun y => same y.f0 (rd_T45 l2 (i : Int)).f1) = true then some 0 else some 6)
    else some 3 else some 3
theorem is_zone_v.calls (gp gc : Nat) (A1 : Option Addr) (c1 : Nat) (l1 : List S43) (v0 v2 : Value) (nm : ByteArray) (v : Bool) (hv : l1.any (fun x => same x.f0 nm) = v) (w : World) (hp : w.heap[gp]? = some (.cells #[.pointer (some ⟨gc, 0, none⟩)] 67 (0, 0))) (hb : w.heap[gc]? = some (.cells #[v0, .slice A1 l1.length c1, v2] 69 (0, 0))) (hr : Kd.C k43 w A1 l1.length l1) (hn : l1.length ≤ 4611686018427387904) :
    Calls Tryz.prog 50 #[.string nm, .pointer (some ⟨gp, 0, none⟩)] w fun e w' => e = .returned (.bool v) ∧ Below w.heap.size w w' := by
  rw [← hv]
  exact is_zone.calls gp gc A1 c1 l1 v0 v2 nm w hp hb hr hn
theorem is_link_v.calls (A2 : Option Addr) (c2 : Nat) (l2 : List S45) (n : Nat) (hl : l2.length = n) (nm : ByteArray) (v : Bool) (hv : l2.any (fun x => same x.f0 nm) = v) (w : World) (hr : Kd.C k45 w A2 l2.length l2) (hn : l2.length ≤ 4611686018427387904) :
    Calls Tryz.prog 52 #[.slice A2 n c2, .string nm] w fun e w' => e = .returned (.bool v) ∧ Below w.heap.size w w' := by
  rw [← hv, ← hl]
  exact is_link.calls A2 c2 l2 nm w hr hn
set_option maxHeartbeats 8000000 in
set_option maxRecDepth 100000 in
theorem bk_link.calls (k : Nat) (gc : Nat) (v0 : Value) (A1 : Option Addr) (c1 : Nat) (l1 : List S43) (A2 : Option Addr) (c2 : Nat) (l2 : List S45) (i : Nat) (hi : i < l2.length) (r : Int) (w : World) (hL : LaidT w) (hb : w.heap[gc]? = some (.cells #[v0, .slice A1 l1.length c1, .slice A2 l2.length c2] 69 (0, 0))) (hr1 : Kd.C k43 w A1 l1.length l1) (hn1 : l1.length ≤ 4611686018427387904) (hr2 : Kd.C k45 w A2 l2.length l2) (hn2 : l2.length ≤ 4611686018427387904) (hc2 : l2.length ≤ c2) (h : bk_link k l1 l2 i = some r) :
    Calls Tryz.prog 29 #[.pointer (some ⟨gc, 0, none⟩), .int .i64 i] w fun e w' => e = .returned (.int .i64 r) ∧ Below w.heap.size w w' := by
  have hu := Tryz.underlying69
  have hu2 := Tryz.underlying27
  have hu3 := Tryz.underlying45
  have HC := Aside0.mk hb
  have HR1 := Aside0.mk hr1
  have HR2 := Aside0.mk hr2
  have HL := Aside0.mk hL
  have hk0 : (0 : Int) ≤ (i : Int) := Int.natCast_nonneg _
  have hk1 : (i : Int) < (l2.length : Int) := by omega
  have hk2 : (i : Int) ≤ (c2 : Int) := by omega
  have hk3 : i ≤ c2 := by omega
  obtain ⟨ac, e, p0, p1⟩ := at_T45 hr2 (i : Int) hk0 hk1
  cases e
  rw [Int.toNat_natCast] at p0 p1
  have hcl := World.block_lt_of_cell? _ _ p0
  obtain ⟨x, hx⟩ : ∃ x, x = rd_T45 l2 (i : Int) := ⟨_, rfl⟩
  unfold bk_link at h
  simp only [← hx] at p0 p1 h
  have HX0 := Aside0.mk hx
  have z2 : w.cell? ⟨gc, 2, none⟩ = some (.slice (some ac) l2.length c2) := (blk_cell hb 2).trans rfl
  have hgc := blk_lt hb
  obtain ⟨a, han, h⟩ := Option.bind_eq_some_iff.mp h
  have HN0 := Aside0.mk han
  have HH := Aside0.mk h
  clear hb hr1 hr2 hL h hx han
  go_enter Tryz.func29, Tryz.ntmps29
  go_wp2_with fail
  have HXp : Aside0 (((w.alloc (Obj.cells #[.pointer (some ⟨gc, 0, none⟩)] 67)).alloc (Obj.cells #[.string x.f0, .string x.f1] 45)).heap[w.heap.size]? = some (.cells #[.pointer (some ⟨gc, 0, none⟩)] 67 (0, 0))) := ⟨((below_alloc (Below.refl _ (w.alloc (Obj.cells #[.pointer (some ⟨gc, 0, none⟩)] 67))) (Obj.cells #[.string x.f0, .string x.f1] 45)).block w.heap.size (by simp)).trans (heap_alloc_new w (Obj.cells #[.pointer (some ⟨gc, 0, none⟩)] 67))⟩
  have HXx : Aside0 (((w.alloc (Obj.cells #[.pointer (some ⟨gc, 0, none⟩)] 67)).alloc (Obj.cells #[.string x.f0, .string x.f1] 45)).heap[w.heap.size + 1]? = some (.cells #[.string x.f0, .string x.f1] 45 (0, 0))) := ⟨by have h := heap_alloc_new (w.alloc (Obj.cells #[.pointer (some ⟨gc, 0, none⟩)] 67)) (Obj.cells #[.string x.f0, .string x.f1] 45); rw [World.size_alloc] at h; exact h⟩
  have HB := Aside0.mk (below_alloc (below_alloc (Below.refl w.heap.size w) (Obj.cells #[.pointer (some ⟨gc, 0, none⟩)] 67)) (Obj.cells #[.string x.f0, .string x.f1] 45))
  generalize (w.alloc (Obj.cells #[.pointer (some ⟨gc, 0, none⟩)] 67)).alloc (Obj.cells #[.string x.f0, .string x.f1] 45) = w2 at HXp HXx HB ⊢
  obtain ⟨bx, hbX⟩ : ∃ b, b = w.heap.size + 1 := ⟨_, rfl⟩
  obtain ⟨bp, hbP⟩ : ∃ b, b = w.heap.size := ⟨_, rfl⟩
  rw [← hbX] at HXx
  rw [← hbP] at HXp
  simp only [← hbX]
  simp only [← hbP]
  have HBX := Aside0.mk hbX
  have HBP := Aside0.mk hbP
  clear hbX hbP p0 p1 hcl z2 hgc
  have y0 : w2.cell? ⟨bx, 0, none⟩ = some (.string x.f0) := (blk_cell HXx.out 0).trans rfl
  have y1 : w2.cell? ⟨bx, 1, none⟩ = some (.string x.f1) := (blk_cell HXx.out 1).trans rfl
  have yp : w2.cell? ⟨bp, 0, none⟩ = some (.pointer (some ⟨gc, 0, none⟩)) := (blk_cell HXp.out 0).trans rfl
  have z2 : w2.cell? ⟨gc, 2, none⟩ = some (.slice (some ac) l2.length c2) := (blk_cell (blk_below HC.out HB.out) 2).trans rfl
  have hbx := blk_lt HXx.out
  have hbp := blk_lt HXp.out
  have hgc := blk_lt (blk_below HC.out HB.out)
  have hh := HH.out
  cases a with
  | false =>
    rw [if_neg (by decide)] at hh
    obtain rfl := Option.some.inj hh
    clear hh
    go_wp2_with (first | (go_at_call 15; with_reducible refine (rule_IsName.calls k x.f0 _ _ (HL.out.sub HB.out) HN0.out).mono ?_; rintro e' w3 ⟨rfl, hb'⟩; have n1 := Aside0.mk (blk_below HXx.out hb'); have n2 := Aside0.mk (blk_below HXp.out hb'); have n3 := Aside0.mk (below_then HB.out HB.out.size hb'); clear HXx HXp HB hb' y0 y1 yp z2 hbx hbp hgc; have HXx := n1; have HXp := n2; have HB := n3; clear n1 n2 n3; have y0 : w3.cell? ⟨bx, 0, none⟩ = some (.string x.f0) := (blk_cell HXx.out 0).trans rfl; have y1 : w3.cell? ⟨bx, 1, none⟩ = some (.string x.f1) := (blk_cell HXx.out 1).trans rfl; have yp : w3.cell? ⟨bp, 0, none⟩ = some (.pointer (some ⟨gc, 0, none⟩)) := (blk_cell HXp.out 0).trans rfl; have z2 : w3.cell? ⟨gc, 2, none⟩ = some (.slice (some ac) l2.length c2) := (blk_cell (blk_below HC.out HB.out) 2).trans rfl; have hbx := blk_lt HXx.out; have hbp := blk_lt HXp.out; have hgc := blk_lt (blk_below HC.out HB.out)))
    go_ret
    exact ⟨rfl, HB.out⟩
  | true =>
    rw [if_pos rfl] at hh
    obtain ⟨b, hbn, hh⟩ := Option.bind_eq_some_iff.mp hh
    have HN1 := Aside0.mk hbn
    clear hbn
    cases b with
    | false =>
      rw [if_neg (by decide)] at hh
      obtain rfl := Option.some.inj hh
      clear hh
      go_wp2_with (first | (go_at_call 15; with_reducible refine (rule_IsName.calls k x.f0 _ _ (HL.out.sub HB.out) HN0.out).mono ?_; rintro e' w3 ⟨rfl, hb'⟩; have n1 := Aside0.mk (blk_below HXx.out hb'); have n2 := Aside0.mk (blk_below HXp.out hb'); have n3 := Aside0.mk (below_then HB.out HB.out.size hb'); clear HXx HXp HB hb' y0 y1 yp z2 hbx hbp hgc; have HXx := n1; have HXp := n2; have HB := n3; clear n1 n2 n3; have y0 : w3.cell? ⟨bx, 0, none⟩ = some (.string x.f0) := (blk_cell HXx.out 0).trans rfl; have y1 : w3.cell? ⟨bx, 1, none⟩ = some (.string x.f1) := (blk_cell HXx.out 1).trans rfl; have yp : w3.cell? ⟨bp, 0, none⟩ = some (.pointer (some ⟨gc, 0, none⟩)) := (blk_cell HXp.out 0).trans rfl; have z2 : w3.cell? ⟨gc, 2, none⟩ = some (.slice (some ac) l2.length c2) := (blk_cell (blk_below HC.out HB.out) 2).trans rfl; have hbx := blk_lt HXx.out; have hbp := blk_lt HXp.out; have hgc := blk_lt (blk_below HC.out HB.out)) | (go_at_call 15; with_reducible refine (rule_IsName.calls k x.f1 _ _ (HL.out.sub HB.out) HN1.out).mono ?_; rintro e' w3 ⟨rfl, hb'⟩; have n1 := Aside0.mk (blk_below HXx.out hb'); have n2 := Aside0.mk (blk_below HXp.out hb'); have n3 := Aside0.mk (below_then HB.out HB.out.size hb'); clear HXx HXp HB hb' y0 y1 yp z2 hbx hbp hgc; have HXx := n1; have HXp := n2; have HB := n3; clear n1 n2 n3; have y0 : w3.cell? ⟨bx, 0, none⟩ = some (.string x.f0) := (blk_cell HXx.out 0).trans rfl; have y1 : w3.cell? ⟨bx, 1, none⟩ = some (.string x.f1) := (blk_cell HXx.out 1).trans rfl; have yp : w3.cell? ⟨bp, 0, none⟩ = some (.pointer (some ⟨gc, 0, none⟩)) := (blk_cell HXp.out 0).trans rfl; have z2 : w3.cell? ⟨gc, 2, none⟩ = some (.slice (some ac) l2.length c2) := (blk_cell (blk_below HC.out HB.out) 2).trans rfl; have hbx := blk_lt HXx.out; have hbp := blk_lt HXp.out; have hgc := blk_lt (blk_below HC.out HB.out)))
      go_ret
      exact ⟨rfl, HB.out⟩
    | true =>
      rw [if_pos rfl] at hh
      have hB0 : ∀ b, b = l1.any (fun y => same y.f0 x.f0) → Aside0 (l1.any (fun y => same y.f0 x.f0) = b) := fun b h => ⟨h.symm⟩
      have hB1 : ∀ b, b = (l2.take i).any (fun y => same y.f0 x.f0) → Aside0 ((l2.take i).any (fun y => same y.f0 x.f0) = b) := fun b h => ⟨h.symm⟩
      have hB2 : ∀ b, b = l1.any (fun y => same y.f0 x.f1) → Aside0 (l1.any (fun y => same y.f0 x.f1) = b) := fun b h => ⟨h.symm⟩
      have hB3 : ∀ b, b = l2.any (fun y => same y.f0 x.f1) → Aside0 (l2.any (fun y => same y.f0 x.f1) = b) := fun b h => ⟨h.symm⟩
      generalize ha : l1.any (fun y => same y.f0 x.f0) = a0 at hh
      generalize hb : (l2.take i).any (fun y => same y.f0 x.f0) = a1 at hh
      generalize hc : l1.any (fun y => same y.f0 x.f1) = a2 at hh
      generalize hd : l2.any (fun y => same y.f0 x.f1) = a3 at hh
      have HA0 := hB0 a0 ha.symm
      have HA1 := hB1 a1 hb.symm
      have HA2 := hB2 a2 hc.symm
      have HA3 := hB3 a3 hd.symm
      clear hB0 hB1 hB2 hB3 ha hb hc hd HH
      cases a0 with
      | true =>
        obtain rfl := Option.some.inj hh
        clear hh
        go_wp2_with (first | (go_at_call 15; with_reducible refine (rule_IsName.calls k x.f0 _ _ (HL.out.sub HB.out) HN0.out).mono ?_; rintro e' w3 ⟨rfl, hb'⟩; have n1 := Aside0.mk (blk_below HXx.out hb'); have n2 := Aside0.mk (blk_below HXp.out hb'); have n3 := Aside0.mk (below_then HB.out HB.out.size hb'); clear HXx HXp HB hb' y0 y1 yp z2 hbx hbp hgc; have HXx := n1; have HXp := n2; have HB := n3; clear n1 n2 n3; have y0 : w3.cell? ⟨bx, 0, none⟩ = some (.string x.f0) := (blk_cell HXx.out 0).trans rfl; have y1 : w3.cell? ⟨bx, 1, none⟩ = some (.string x.f1) := (blk_cell HXx.out 1).trans rfl; have yp : w3.cell? ⟨bp, 0, none⟩ = some (.pointer (some ⟨gc, 0, none⟩)) := (blk_cell HXp.out 0).trans rfl; have z2 : w3.cell? ⟨gc, 2, none⟩ = some (.slice (some ac) l2.length c2) := (blk_cell (blk_below HC.out HB.out) 2).trans rfl; have hbx := blk_lt HXx.out; have hbp := blk_lt HXp.out; have hgc := blk_lt (blk_below HC.out HB.out)) | (go_at_call 15; with_reducible refine (rule_IsName.calls k x.f1 _ _ (HL.out.sub HB.out) HN1.out).mono ?_; rintro e' w3 ⟨rfl, hb'⟩; have n1 := Aside0.mk (blk_below HXx.out hb'); have n2 := Aside0.mk (blk_below HXp.out hb'); have n3 := Aside0.mk (below_then HB.out HB.out.size hb'); clear HXx HXp HB hb' y0 y1 yp z2 hbx hbp hgc; have HXx := n1; have HXp := n2; have HB := n3; clear n1 n2 n3; have y0 : w3.cell? ⟨bx, 0, none⟩ = some (.string x.f0) := (blk_cell HXx.out 0).trans rfl; have y1 : w3.cell? ⟨bx, 1, none⟩ = some (.string x.f1) := (blk_cell HXx.out 1).trans rfl; have yp : w3.cell? ⟨bp, 0, none⟩ = some (.pointer (some ⟨gc, 0, none⟩)) := (blk_cell HXp.out 0).trans rfl; have z2 : w3.cell? ⟨gc, 2, none⟩ = some (.slice (some ac) l2.length c2) := (blk_cell (blk_below HC.out HB.out) 2).trans rfl; have hbx := blk_lt HXx.out; have hbp := blk_lt HXp.out; have hgc := blk_lt (blk_below HC.out HB.out)))
        refine start_ (n := 18) (S := fun w' => w'.cell? ⟨bx, 0, none⟩ = some (.string x.f0) ∧ w'.cell? ⟨bx, 1, none⟩ = some (.string x.f1) ∧ w'.cell? ⟨bp, 0, none⟩ = some (.pointer (some ⟨gc, 0, none⟩)) ∧ w'.cell? ⟨gc, 2, none⟩ = some (.slice (some ac) l2.length c2)) (ds := []) #[false, false, false, false, false, false, false, false, false, false, false, false, false, false, false, false, false, false] (by kernel_rfl) rfl rfl ⟨y0, y1, yp, z2⟩ (fun hHeld => ?_)
        refine pure_ (i := 0) (N := (some 29)) (v := ?_) (a' := ?_) #[true, false, false, false, false, false, false, false, false, false, false, false, false, false, false, false, false, false] rfl rfl (by kernel_rfl) (fun _ _ _ h => h) (Or.inl ⟨by rfl, ?_⟩) ?_ ?_
        rotate_left
        · intro w'
          go_simp
          with_reducible rfl
        rotate_left
        · simp only [Act.put, List.setIfInBounds_toArray, List.set_cons_zero, List.set_cons_succ, i64_w, i32_w]
          rfl
        refine pure_ (i := 1) (N := (some 30)) (v := ?_) (a' := ?_) #[true, true, false, false, false, false, false, false, false, false, false, false, false, false, false, false, false, false] rfl rfl (by kernel_rfl) (fun _ _ _ h => h) (Or.inl ⟨by rfl, ?_⟩) ?_ ?_
        rotate_left
        · intro w'
          go_simp
          with_reducible rfl
        rotate_left
        · simp only [Act.put, List.setIfInBounds_toArray, List.set_cons_zero, List.set_cons_succ, i64_w, i32_w]
          rfl
        refine take_ (i := 2) (N := (some 31)) (v := ?_) (a' := ?_) #[true, true, true, false, false, false, false, false, false, false, false, false, false, false, false, false, false, false] rfl rfl (by kernel_rfl) (fun _ _ _ h => h) (Or.inl ⟨by rfl, ?_⟩) hHeld ?_ ?_
        rotate_left
        · rintro w' ⟨s0, s1, s2, s3⟩
          go_simp
          with_reducible rfl
        rotate_left
        · simp only [Act.put, List.setIfInBounds_toArray, List.set_cons_zero, List.set_cons_succ, i64_w, i32_w]
          rfl
        refine one_ (i := 3) (N := (some 32)) #[true, true, true, true, false, false, false, false, false, false, false, false, false, false, false, false, false, false] rfl rfl (by kernel_rfl) (by decide) (fun K hK => ?_)
        refine goesC_ (args := #[.string x.f0, .pointer (some ⟨bp, 0, none⟩)]) Tryz.func50 rfl rfl (by rfl) rfl rfl (by rfl) (by (try simp only [List.map_toArray, List.map_cons, List.map_nil, List.append_toArray, List.cons_append, List.nil_append]); first | rfl | simp [Act.eval]) ?_
        have hz := is_zone_v.calls bp gc A1 c1 l1 v0 (.slice (some ac) l2.length c2) x.f0 true HA0.out w3.drew HXp.out (blk_below HC.out (below_drew HB.out)) (Kd.C_below HR1.out (below_drew HB.out)) hn1
        refine hz.mono ?_
        rintro e' w1 ⟨rfl, hb1⟩
        have hbc : Below w3.heap.size w3 w1 := below_then (below_drew (Below.refl _ _)) (Nat.le_refl _) hb1
        refine ⟨_, rfl, ?_⟩
        refine hK.out _ _ ⟨pw_cell_below hbc y0, pw_cell_below hbc y1, pw_cell_below hbc yp, pw_cell_below hbc z2⟩ (fun hHeld => ?_)
        clear hK K hz
        refine pure_ (i := 4) (N := (some 33)) (v := ?_) (a' := ?_) #[true, true, true, true, true, false, false, false, false, false, false, false, false, false, false, false, false, false] rfl rfl (by kernel_rfl) (fun _ _ _ h => h) (Or.inl ⟨by rfl, ?_⟩) ?_ ?_
        rotate_left
        · intro w'
          go_simp
          with_reducible rfl
        rotate_left
        · simp only [Act.put, List.setIfInBounds_toArray, List.set_cons_zero, List.set_cons_succ, i64_w, i32_w]
          rfl
        refine pure_ (i := 5) (N := (some 34)) (v := undef) (a' := ?_) #[true, true, true, true, true, true, false, false, false, false, false, false, false, false, false, false, false, false] rfl rfl (by kernel_rfl) (fun _ _ _ h => h) (Or.inr ⟨by rfl, rfl⟩) ?_ ?_
        rotate_left
        · simp only [Act.put, List.setIfInBounds_toArray, List.set_cons_zero, List.set_cons_succ]
          rfl
        refine pure_ (i := 6) (N := (some 35)) (v := undef) (a' := ?_) #[true, true, true, true, true, true, true, false, false, false, false, false, false, false, false, false, false, false] rfl rfl (by kernel_rfl) (fun _ _ _ h => h) (Or.inr ⟨by rfl, rfl⟩) ?_ ?_
        rotate_left
        · simp only [Act.put, List.setIfInBounds_toArray, List.set_cons_zero, List.set_cons_succ]
          rfl
        refine pure_ (i := 7) (N := (some 36)) (v := undef) (a' := ?_) #[true, true, true, true, true, true, true, true, false, false, false, false, false, false, false, false, false, false] rfl rfl (by kernel_rfl) (fun _ _ _ h => h) (Or.inr ⟨by rfl, rfl⟩) ?_ ?_
        rotate_left
        · simp only [Act.put, List.setIfInBounds_toArray, List.set_cons_zero, List.set_cons_succ]
          rfl
        refine pure_ (i := 8) (N := (some 37)) (v := undef) (a' := ?_) #[true, true, true, true, true, true, true, true, true, false, false, false, false, false, false, false, false, false] rfl rfl (by kernel_rfl) (fun _ _ _ h => h) (Or.inr ⟨by rfl, rfl⟩) ?_ ?_
        rotate_left
        · simp only [Act.put, List.setIfInBounds_toArray, List.set_cons_zero, List.set_cons_succ]
          rfl
        refine pure_ (i := 9) (N := (some 38)) (v := undef) (a' := ?_) #[true, true, true, true, true, true, true, true, true, true, false, false, false, false, false, false, false, false] rfl rfl (by kernel_rfl) (fun _ _ _ h => h) (Or.inr ⟨by rfl, rfl⟩) ?_ ?_
        rotate_left
        · simp only [Act.put, List.setIfInBounds_toArray, List.set_cons_zero, List.set_cons_succ]
          rfl
        refine pure_ (i := 10) (N := (some 39)) (v := undef) (a' := ?_) #[true, true, true, true, true, true, true, true, true, true, true, false, false, false, false, false, false, false] rfl rfl (by kernel_rfl) (fun _ _ _ h => h) (Or.inr ⟨by rfl, rfl⟩) ?_ ?_
        rotate_left
        · simp only [Act.put, List.setIfInBounds_toArray, List.set_cons_zero, List.set_cons_succ]
          rfl
        refine pure_ (i := 11) (N := (some 40)) (v := undef) (a' := ?_) #[true, true, true, true, true, true, true, true, true, true, true, true, false, false, false, false, false, false] rfl rfl (by kernel_rfl) (fun _ _ _ h => h) (Or.inr ⟨by rfl, rfl⟩) ?_ ?_
        rotate_left
        · simp only [Act.put, List.setIfInBounds_toArray, List.set_cons_zero, List.set_cons_succ]
          rfl
        refine pure_ (i := 12) (N := (some 41)) (v := undef) (a' := ?_) #[true, true, true, true, true, true, true, true, true, true, true, true, true, false, false, false, false, false] rfl rfl (by kernel_rfl) (fun _ _ _ h => h) (Or.inr ⟨by rfl, rfl⟩) ?_ ?_
        rotate_left
        · simp only [Act.put, List.setIfInBounds_toArray, List.set_cons_zero, List.set_cons_succ]
          rfl
        refine pure_ (i := 13) (N := (some 42)) (v := undef) (a' := ?_) #[true, true, true, true, true, true, true, true, true, true, true, true, true, true, false, false, false, false] rfl rfl (by kernel_rfl) (fun _ _ _ h => h) (Or.inr ⟨by rfl, rfl⟩) ?_ ?_
        rotate_left
        · simp only [Act.put, List.setIfInBounds_toArray, List.set_cons_zero, List.set_cons_succ]
          rfl
        refine pure_ (i := 14) (N := (some 43)) (v := undef) (a' := ?_) #[true, true, true, true, true, true, true, true, true, true, true, true, true, true, true, false, false, false] rfl rfl (by kernel_rfl) (fun _ _ _ h => h) (Or.inr ⟨by rfl, rfl⟩) ?_ ?_
        rotate_left
        · simp only [Act.put, List.setIfInBounds_toArray, List.set_cons_zero, List.set_cons_succ]
          rfl
        refine pure_ (i := 15) (N := (some 44)) (v := undef) (a' := ?_) #[true, true, true, true, true, true, true, true, true, true, true, true, true, true, true, true, false, false] rfl rfl (by kernel_rfl) (fun _ _ _ h => h) (Or.inr ⟨by rfl, rfl⟩) ?_ ?_
        rotate_left
        · simp only [Act.put, List.setIfInBounds_toArray, List.set_cons_zero, List.set_cons_succ]
          rfl
        refine pure_ (i := 16) (N := (some 45)) (v := ?_) (a' := ?_) #[true, true, true, true, true, true, true, true, true, true, true, true, true, true, true, true, true, false] rfl rfl (by kernel_rfl) (fun _ _ _ h => h) (Or.inl ⟨by rfl, ?_⟩) ?_ ?_
        rotate_left
        · intro w'
          go_simp
          with_reducible rfl
        rotate_left
        · simp only [Act.put, List.setIfInBounds_toArray, List.set_cons_zero, List.set_cons_succ, i64_w, i32_w]
          rfl
        refine pure_ (i := 17) (N := (some 28)) (v := ?_) (a' := ?_) #[true, true, true, true, true, true, true, true, true, true, true, true, true, true, true, true, true, true] rfl rfl (by kernel_rfl) (fun _ _ _ h => h) (Or.inl ⟨by rfl, ?_⟩) ?_ ?_
        rotate_left
        · intro w'
          go_simp
          with_reducible rfl
        rotate_left
        · simp only [Act.put, List.setIfInBounds_toArray, List.set_cons_zero, List.set_cons_succ, i64_w, i32_w]
          rfl
        refine done_ (by kernel_rfl) ?_
        have n0 := (below_then (below_drew (Below.refl w3.heap.size w3)) (Nat.le_refl _) hb1 : Below w3.heap.size w3 w1)
        have n1 := Aside0.mk (blk_below HXx.out n0)
        have n2 := Aside0.mk (blk_below HXp.out n0)
        have n3 := Aside0.mk (below_then HB.out HB.out.size n0)
        clear HXx HXp HB y0 y1 yp z2 hbx hbp hgc n0
        have HXx := n1
        have HXp := n2
        have HB := n3
        clear n1 n2 n3
        have y0 : w1.cell? ⟨bx, 0, none⟩ = some (.string x.f0) := (blk_cell HXx.out 0).trans rfl
        have y1 : w1.cell? ⟨bx, 1, none⟩ = some (.string x.f1) := (blk_cell HXx.out 1).trans rfl
        have yp : w1.cell? ⟨bp, 0, none⟩ = some (.pointer (some ⟨gc, 0, none⟩)) := (blk_cell HXp.out 0).trans rfl
        have z2 : w1.cell? ⟨gc, 2, none⟩ = some (.slice (some ac) l2.length c2) := (blk_cell (blk_below HC.out HB.out) 2).trans rfl
        have hbx := blk_lt HXx.out
        have hbp := blk_lt HXp.out
        have hgc := blk_lt (blk_below HC.out HB.out)
        go_wp2_with fail
        go_ret
        exact ⟨rfl, HB.out⟩
      | false =>
        cases a1 with
        | true =>
          obtain rfl := Option.some.inj hh
          clear hh
          go_wp2_with (first | (go_at_call 15; with_reducible refine (rule_IsName.calls k x.f0 _ _ (HL.out.sub HB.out) HN0.out).mono ?_; rintro e' w3 ⟨rfl, hb'⟩; have n1 := Aside0.mk (blk_below HXx.out hb'); have n2 := Aside0.mk (blk_below HXp.out hb'); have n3 := Aside0.mk (below_then HB.out HB.out.size hb'); clear HXx HXp HB hb' y0 y1 yp z2 hbx hbp hgc; have HXx := n1; have HXp := n2; have HB := n3; clear n1 n2 n3; have y0 : w3.cell? ⟨bx, 0, none⟩ = some (.string x.f0) := (blk_cell HXx.out 0).trans rfl; have y1 : w3.cell? ⟨bx, 1, none⟩ = some (.string x.f1) := (blk_cell HXx.out 1).trans rfl; have yp : w3.cell? ⟨bp, 0, none⟩ = some (.pointer (some ⟨gc, 0, none⟩)) := (blk_cell HXp.out 0).trans rfl; have z2 : w3.cell? ⟨gc, 2, none⟩ = some (.slice (some ac) l2.length c2) := (blk_cell (blk_below HC.out HB.out) 2).trans rfl; have hbx := blk_lt HXx.out; have hbp := blk_lt HXp.out; have hgc := blk_lt (blk_below HC.out HB.out)) | (go_at_call 15; with_reducible refine (rule_IsName.calls k x.f1 _ _ (HL.out.sub HB.out) HN1.out).mono ?_; rintro e' w3 ⟨rfl, hb'⟩; have n1 := Aside0.mk (blk_below HXx.out hb'); have n2 := Aside0.mk (blk_below HXp.out hb'); have n3 := Aside0.mk (below_then HB.out HB.out.size hb'); clear HXx HXp HB hb' y0 y1 yp z2 hbx hbp hgc; have HXx := n1; have HXp := n2; have HB := n3; clear n1 n2 n3; have y0 : w3.cell? ⟨bx, 0, none⟩ = some (.string x.f0) := (blk_cell HXx.out 0).trans rfl; have y1 : w3.cell? ⟨bx, 1, none⟩ = some (.string x.f1) := (blk_cell HXx.out 1).trans rfl; have yp : w3.cell? ⟨bp, 0, none⟩ = some (.pointer (some ⟨gc, 0, none⟩)) := (blk_cell HXp.out 0).trans rfl; have z2 : w3.cell? ⟨gc, 2, none⟩ = some (.slice (some ac) l2.length c2) := (blk_cell (blk_below HC.out HB.out) 2).trans rfl; have hbx := blk_lt HXx.out; have hbp := blk_lt HXp.out; have hgc := blk_lt (blk_below HC.out HB.out)))
          go_region_held3 (fun w' => w'.cell? ⟨bx, 0, none⟩ = some (.string x.f0) ∧ w'.cell? ⟨bx, 1, none⟩ = some (.string x.f1) ∧ w'.cell? ⟨bp, 0, none⟩ = some (.pointer (some ⟨gc, 0, none⟩)) ∧ w'.cell? ⟨gc, 2, none⟩ = some (.slice (some ac) l2.length c2)) (first | go_keep | assumption) (first | (go_at_call 50; have hz := is_zone_v.calls bp gc A1 c1 l1 v0 (.slice (some ac) l2.length c2) x.f0 false HA0.out w3.drew HXp.out (blk_below HC.out (below_drew HB.out)) (Kd.C_below HR1.out (below_drew HB.out)) hn1; refine hz.mono ?_; rintro e' w1 ⟨rfl, hb1⟩; have hbc : Below w3.heap.size w3 w1 := below_then (below_drew (Below.refl _ _)) (Nat.le_refl _) hb1; have k0 : w1.cell? ⟨bx, 0, none⟩ = some (.string x.f0) := pw_cell_below hbc y0; have k1 : w1.cell? ⟨bx, 1, none⟩ = some (.string x.f1) := pw_cell_below hbc y1; have k2 : w1.cell? ⟨bp, 0, none⟩ = some (.pointer (some ⟨gc, 0, none⟩)) := pw_cell_below hbc yp; have k3 : w1.cell? ⟨gc, 2, none⟩ = some (.slice (some ac) l2.length c2) := pw_cell_below hbc z2) | (go_at_call 52; have hz := is_link_v.calls (some ac) c2 (l2.take i) i (by rw [List.length_take]; omega) x.f0 true HA1.out w1 (Kd.C_take (Kd.C_below HR2.out (below_then HB.out HB.out.size hbc)) (by omega)) (by rw [List.length_take]; omega); refine hz.mono ?_; rintro e' w4 ⟨rfl, hb2⟩; have k0 : w4.cell? ⟨bx, 0, none⟩ = some (.string x.f0) := pw_cell_below hb2 k0; have k1 : w4.cell? ⟨bx, 1, none⟩ = some (.string x.f1) := pw_cell_below hb2 k1; have k2 : w4.cell? ⟨bp, 0, none⟩ = some (.pointer (some ⟨gc, 0, none⟩)) := pw_cell_below hb2 k2; have k3 : w4.cell? ⟨gc, 2, none⟩ = some (.slice (some ac) l2.length c2) := pw_cell_below hb2 k3))
          have n0 := (below_then (below_then (below_drew (Below.refl w3.heap.size w3)) (Nat.le_refl _) hb1) hbc.size hb2 : Below w3.heap.size w3 w4)
          have n1 := Aside0.mk (blk_below HXx.out n0)
          have n2 := Aside0.mk (blk_below HXp.out n0)
          have n3 := Aside0.mk (below_then HB.out HB.out.size n0)
          clear HXx HXp HB y0 y1 yp z2 hbx hbp hgc n0
          have HXx := n1
          have HXp := n2
          have HB := n3
          clear n1 n2 n3
          have y0 : w4.cell? ⟨bx, 0, none⟩ = some (.string x.f0) := (blk_cell HXx.out 0).trans rfl
          have y1 : w4.cell? ⟨bx, 1, none⟩ = some (.string x.f1) := (blk_cell HXx.out 1).trans rfl
          have yp : w4.cell? ⟨bp, 0, none⟩ = some (.pointer (some ⟨gc, 0, none⟩)) := (blk_cell HXp.out 0).trans rfl
          have z2 : w4.cell? ⟨gc, 2, none⟩ = some (.slice (some ac) l2.length c2) := (blk_cell (blk_below HC.out HB.out) 2).trans rfl
          have hbx := blk_lt HXx.out
          have hbp := blk_lt HXp.out
          have hgc := blk_lt (blk_below HC.out HB.out)
          go_wp2_with fail
          go_ret
          exact ⟨rfl, HB.out⟩
        | false =>
          have hh2 : (if a2 = true then some 0 else if a3 = true then some 0 else some 6) = some r := hh
          clear hh
          go_wp2_with (first | (go_at_call 15; with_reducible refine (rule_IsName.calls k x.f0 _ _ (HL.out.sub HB.out) HN0.out).mono ?_; rintro e' w3 ⟨rfl, hb'⟩; have n1 := Aside0.mk (blk_below HXx.out hb'); have n2 := Aside0.mk (blk_below HXp.out hb'); have n3 := Aside0.mk (below_then HB.out HB.out.size hb'); clear HXx HXp HB hb' y0 y1 yp z2 hbx hbp hgc; have HXx := n1; have HXp := n2; have HB := n3; clear n1 n2 n3; have y0 : w3.cell? ⟨bx, 0, none⟩ = some (.string x.f0) := (blk_cell HXx.out 0).trans rfl; have y1 : w3.cell? ⟨bx, 1, none⟩ = some (.string x.f1) := (blk_cell HXx.out 1).trans rfl; have yp : w3.cell? ⟨bp, 0, none⟩ = some (.pointer (some ⟨gc, 0, none⟩)) := (blk_cell HXp.out 0).trans rfl; have z2 : w3.cell? ⟨gc, 2, none⟩ = some (.slice (some ac) l2.length c2) := (blk_cell (blk_below HC.out HB.out) 2).trans rfl; have hbx := blk_lt HXx.out; have hbp := blk_lt HXp.out; have hgc := blk_lt (blk_below HC.out HB.out)) | (go_at_call 15; with_reducible refine (rule_IsName.calls k x.f1 _ _ (HL.out.sub HB.out) HN1.out).mono ?_; rintro e' w3 ⟨rfl, hb'⟩; have n1 := Aside0.mk (blk_below HXx.out hb'); have n2 := Aside0.mk (blk_below HXp.out hb'); have n3 := Aside0.mk (below_then HB.out HB.out.size hb'); clear HXx HXp HB hb' y0 y1 yp z2 hbx hbp hgc; have HXx := n1; have HXp := n2; have HB := n3; clear n1 n2 n3; have y0 : w3.cell? ⟨bx, 0, none⟩ = some (.string x.f0) := (blk_cell HXx.out 0).trans rfl; have y1 : w3.cell? ⟨bx, 1, none⟩ = some (.string x.f1) := (blk_cell HXx.out 1).trans rfl; have yp : w3.cell? ⟨bp, 0, none⟩ = some (.pointer (some ⟨gc, 0, none⟩)) := (blk_cell HXp.out 0).trans rfl; have z2 : w3.cell? ⟨gc, 2, none⟩ = some (.slice (some ac) l2.length c2) := (blk_cell (blk_below HC.out HB.out) 2).trans rfl; have hbx := blk_lt HXx.out; have hbp := blk_lt HXp.out; have hgc := blk_lt (blk_below HC.out HB.out)))
          go_region_held3 (fun w' => w'.cell? ⟨bx, 0, none⟩ = some (.string x.f0) ∧ w'.cell? ⟨bx, 1, none⟩ = some (.string x.f1) ∧ w'.cell? ⟨bp, 0, none⟩ = some (.pointer (some ⟨gc, 0, none⟩)) ∧ w'.cell? ⟨gc, 2, none⟩ = some (.slice (some ac) l2.length c2)) (first | go_keep | assumption) (first | (go_at_call 50; have hz := is_zone_v.calls bp gc A1 c1 l1 v0 (.slice (some ac) l2.length c2) x.f0 false HA0.out w3.drew HXp.out (blk_below HC.out (below_drew HB.out)) (Kd.C_below HR1.out (below_drew HB.out)) hn1; refine hz.mono ?_; rintro e' w1 ⟨rfl, hb1⟩; have hbc : Below w3.heap.size w3 w1 := below_then (below_drew (Below.refl _ _)) (Nat.le_refl _) hb1; have k0 : w1.cell? ⟨bx, 0, none⟩ = some (.string x.f0) := pw_cell_below hbc y0; have k1 : w1.cell? ⟨bx, 1, none⟩ = some (.string x.f1) := pw_cell_below hbc y1; have k2 : w1.cell? ⟨bp, 0, none⟩ = some (.pointer (some ⟨gc, 0, none⟩)) := pw_cell_below hbc yp; have k3 : w1.cell? ⟨gc, 2, none⟩ = some (.slice (some ac) l2.length c2) := pw_cell_below hbc z2) | (go_at_call 52; have hz := is_link_v.calls (some ac) c2 (l2.take i) i (by rw [List.length_take]; omega) x.f0 false HA1.out w1 (Kd.C_take (Kd.C_below HR2.out (below_then HB.out HB.out.size hbc)) (by omega)) (by rw [List.length_take]; omega); refine hz.mono ?_; rintro e' w4 ⟨rfl, hb2⟩; have k0 : w4.cell? ⟨bx, 0, none⟩ = some (.string x.f0) := pw_cell_below hb2 k0; have k1 : w4.cell? ⟨bx, 1, none⟩ = some (.string x.f1) := pw_cell_below hb2 k1; have k2 : w4.cell? ⟨bp, 0, none⟩ = some (.pointer (some ⟨gc, 0, none⟩)) := pw_cell_below hb2 k2; have k3 : w4.cell? ⟨gc, 2, none⟩ = some (.slice (some ac) l2.length c2) := pw_cell_below hb2 k3))
          have n0 := (below_then (below_then (below_drew (Below.refl w3.heap.size w3)) (Nat.le_refl _) hb1) hbc.size hb2 : Below w3.heap.size w3 w4)
          have n1 := Aside0.mk (blk_below HXx.out n0)
          have n2 := Aside0.mk (blk_below HXp.out n0)
          have n3 := Aside0.mk (below_then HB.out HB.out.size n0)
          clear HXx HXp HB y0 y1 yp z2 hbx hbp hgc n0
          have HXx := n1
          have HXp := n2
          have HB := n3
          clear n1 n2 n3
          have y0 : w4.cell? ⟨bx, 0, none⟩ = some (.string x.f0) := (blk_cell HXx.out 0).trans rfl
          have y1 : w4.cell? ⟨bx, 1, none⟩ = some (.string x.f1) := (blk_cell HXx.out 1).trans rfl
          have yp : w4.cell? ⟨bp, 0, none⟩ = some (.pointer (some ⟨gc, 0, none⟩)) := (blk_cell HXp.out 0).trans rfl
          have z2 : w4.cell? ⟨gc, 2, none⟩ = some (.slice (some ac) l2.length c2) := (blk_cell (blk_below HC.out HB.out) 2).trans rfl
          have hbx := blk_lt HXx.out
          have hbp := blk_lt HXp.out
          have hgc := blk_lt (blk_below HC.out HB.out)
          clear hb1 hbc hb2 k0 k1 k2 k3
          go_wp2_with fail
          cases a2 with
          | true =>
            obtain rfl := Option.some.inj hh2
            refine start_ (n := 18) (S := fun w' => w'.cell? ⟨bx, 0, none⟩ = some (.string x.f0) ∧ w'.cell? ⟨bx, 1, none⟩ = some (.string x.f1) ∧ w'.cell? ⟨bp, 0, none⟩ = some (.pointer (some ⟨gc, 0, none⟩)) ∧ w'.cell? ⟨gc, 2, none⟩ = some (.slice (some ac) l2.length c2)) (ds := []) #[false, false, false, false, false, false, false, false, false, false, false, false, false, false, false, false, false, false] (by kernel_rfl) rfl rfl ⟨y0, y1, yp, z2⟩ (fun hHeld => ?_)
            refine pure_ (i := 0) (N := (some 47)) (v := ?_) (a' := ?_) #[true, false, false, false, false, false, false, false, false, false, false, false, false, false, false, false, false, false] rfl rfl (by kernel_rfl) (fun _ _ _ h => h) (Or.inl ⟨by rfl, ?_⟩) ?_ ?_
            rotate_left
            · intro w'
              go_simp
              with_reducible rfl
            rotate_left
            · simp only [Act.put, List.setIfInBounds_toArray, List.set_cons_zero, List.set_cons_succ, i64_w, i32_w]
              rfl
            refine pure_ (i := 1) (N := (some 48)) (v := ?_) (a' := ?_) #[true, true, false, false, false, false, false, false, false, false, false, false, false, false, false, false, false, false] rfl rfl (by kernel_rfl) (fun _ _ _ h => h) (Or.inl ⟨by rfl, ?_⟩) ?_ ?_
            rotate_left
            · intro w'
              go_simp
              with_reducible rfl
            rotate_left
            · simp only [Act.put, List.setIfInBounds_toArray, List.set_cons_zero, List.set_cons_succ, i64_w, i32_w]
              rfl
            refine take_ (i := 2) (N := (some 49)) (v := ?_) (a' := ?_) #[true, true, true, false, false, false, false, false, false, false, false, false, false, false, false, false, false, false] rfl rfl (by kernel_rfl) (fun _ _ _ h => h) (Or.inl ⟨by rfl, ?_⟩) hHeld ?_ ?_
            rotate_left
            · rintro w' ⟨s0, s1, s2, s3⟩
              go_simp
              with_reducible rfl
            rotate_left
            · simp only [Act.put, List.setIfInBounds_toArray, List.set_cons_zero, List.set_cons_succ, i64_w, i32_w]
              rfl
            refine one_ (i := 3) (N := (some 50)) #[true, true, true, true, false, false, false, false, false, false, false, false, false, false, false, false, false, false] rfl rfl (by kernel_rfl) (by decide) (fun K hK => ?_)
            refine goesC_ (args := #[.string x.f1, .pointer (some ⟨bp, 0, none⟩)]) Tryz.func50 rfl rfl (by rfl) rfl rfl (by rfl) (by (try simp only [List.map_toArray, List.map_cons, List.map_nil, List.append_toArray, List.cons_append, List.nil_append]); first | rfl | simp [Act.eval]) ?_
            have hz := is_zone_v.calls bp gc A1 c1 l1 v0 (.slice (some ac) l2.length c2) x.f1 true HA2.out w4.drew HXp.out (blk_below HC.out (below_drew HB.out)) (Kd.C_below HR1.out (below_drew HB.out)) hn1
            refine hz.mono ?_
            rintro e' w5 ⟨rfl, hb1⟩
            have hbc : Below w4.heap.size w4 w5 := below_then (below_drew (Below.refl _ _)) (Nat.le_refl _) hb1
            refine ⟨_, rfl, ?_⟩
            refine hK.out _ _ ⟨pw_cell_below hbc y0, pw_cell_below hbc y1, pw_cell_below hbc yp, pw_cell_below hbc z2⟩ (fun hHeld => ?_)
            clear hK K hz
            refine pure_ (i := 4) (N := (some 51)) (v := ?_) (a' := ?_) #[true, true, true, true, true, false, false, false, false, false, false, false, false, false, false, false, false, false] rfl rfl (by kernel_rfl) (fun _ _ _ h => h) (Or.inl ⟨by rfl, ?_⟩) ?_ ?_
            rotate_left
            · intro w'
              go_simp
              with_reducible rfl
            rotate_left
            · simp only [Act.put, List.setIfInBounds_toArray, List.set_cons_zero, List.set_cons_succ, i64_w, i32_w]
              rfl
            refine pure_ (i := 5) (N := (some 52)) (v := ?_) (a' := ?_) #[true, true, true, true, true, true, false, false, false, false, false, false, false, false, false, false, false, false] rfl rfl (by kernel_rfl) (fun _ _ _ h => h) (Or.inl ⟨by rfl, ?_⟩) ?_ ?_
            rotate_left
            · intro w'
              go_simp
              with_reducible rfl
            rotate_left
            · simp only [Act.put, List.setIfInBounds_toArray, List.set_cons_zero, List.set_cons_succ, i64_w, i32_w]
              rfl
            refine pure_ (i := 6) (N := (some 53)) (v := undef) (a' := ?_) #[true, true, true, true, true, true, true, false, false, false, false, false, false, false, false, false, false, false] rfl rfl (by kernel_rfl) (fun _ _ _ h => h) (Or.inr ⟨by rfl, rfl⟩) ?_ ?_
            rotate_left
            · simp only [Act.put, List.setIfInBounds_toArray, List.set_cons_zero, List.set_cons_succ]
              rfl
            refine pure_ (i := 7) (N := (some 54)) (v := undef) (a' := ?_) #[true, true, true, true, true, true, true, true, false, false, false, false, false, false, false, false, false, false] rfl rfl (by kernel_rfl) (fun _ _ _ h => h) (Or.inr ⟨by rfl, rfl⟩) ?_ ?_
            rotate_left
            · simp only [Act.put, List.setIfInBounds_toArray, List.set_cons_zero, List.set_cons_succ]
              rfl
            refine pure_ (i := 8) (N := (some 55)) (v := undef) (a' := ?_) #[true, true, true, true, true, true, true, true, true, false, false, false, false, false, false, false, false, false] rfl rfl (by kernel_rfl) (fun _ _ _ h => h) (Or.inr ⟨by rfl, rfl⟩) ?_ ?_
            rotate_left
            · simp only [Act.put, List.setIfInBounds_toArray, List.set_cons_zero, List.set_cons_succ]
              rfl
            refine pure_ (i := 9) (N := (some 56)) (v := undef) (a' := ?_) #[true, true, true, true, true, true, true, true, true, true, false, false, false, false, false, false, false, false] rfl rfl (by kernel_rfl) (fun _ _ _ h => h) (Or.inr ⟨by rfl, rfl⟩) ?_ ?_
            rotate_left
            · simp only [Act.put, List.setIfInBounds_toArray, List.set_cons_zero, List.set_cons_succ]
              rfl
            refine pure_ (i := 10) (N := (some 57)) (v := undef) (a' := ?_) #[true, true, true, true, true, true, true, true, true, true, true, false, false, false, false, false, false, false] rfl rfl (by kernel_rfl) (fun _ _ _ h => h) (Or.inr ⟨by rfl, rfl⟩) ?_ ?_
            rotate_left
            · simp only [Act.put, List.setIfInBounds_toArray, List.set_cons_zero, List.set_cons_succ]
              rfl
            refine pure_ (i := 11) (N := (some 58)) (v := undef) (a' := ?_) #[true, true, true, true, true, true, true, true, true, true, true, true, false, false, false, false, false, false] rfl rfl (by kernel_rfl) (fun _ _ _ h => h) (Or.inr ⟨by rfl, rfl⟩) ?_ ?_
            rotate_left
            · simp only [Act.put, List.setIfInBounds_toArray, List.set_cons_zero, List.set_cons_succ]
              rfl
            refine pure_ (i := 12) (N := (some 59)) (v := undef) (a' := ?_) #[true, true, true, true, true, true, true, true, true, true, true, true, true, false, false, false, false, false] rfl rfl (by kernel_rfl) (fun _ _ _ h => h) (Or.inr ⟨by rfl, rfl⟩) ?_ ?_
            rotate_left
            · simp only [Act.put, List.setIfInBounds_toArray, List.set_cons_zero, List.set_cons_succ]
              rfl
            refine pure_ (i := 13) (N := (some 60)) (v := undef) (a' := ?_) #[true, true, true, true, true, true, true, true, true, true, true, true, true, true, false, false, false, false] rfl rfl (by kernel_rfl) (fun _ _ _ h => h) (Or.inr ⟨by rfl, rfl⟩) ?_ ?_
            rotate_left
            · simp only [Act.put, List.setIfInBounds_toArray, List.set_cons_zero, List.set_cons_succ]
              rfl
            refine pure_ (i := 14) (N := (some 61)) (v := undef) (a' := ?_) #[true, true, true, true, true, true, true, true, true, true, true, true, true, true, true, false, false, false] rfl rfl (by kernel_rfl) (fun _ _ _ h => h) (Or.inr ⟨by rfl, rfl⟩) ?_ ?_
            rotate_left
            · simp only [Act.put, List.setIfInBounds_toArray, List.set_cons_zero, List.set_cons_succ]
              rfl
            refine pure_ (i := 15) (N := (some 62)) (v := undef) (a' := ?_) #[true, true, true, true, true, true, true, true, true, true, true, true, true, true, true, true, false, false] rfl rfl (by kernel_rfl) (fun _ _ _ h => h) (Or.inr ⟨by rfl, rfl⟩) ?_ ?_
            rotate_left
            · simp only [Act.put, List.setIfInBounds_toArray, List.set_cons_zero, List.set_cons_succ]
              rfl
            refine pure_ (i := 16) (N := (some 63)) (v := ?_) (a' := ?_) #[true, true, true, true, true, true, true, true, true, true, true, true, true, true, true, true, true, false] rfl rfl (by kernel_rfl) (fun _ _ _ h => h) (Or.inl ⟨by rfl, ?_⟩) ?_ ?_
            rotate_left
            · intro w'
              go_simp
              with_reducible rfl
            rotate_left
            · simp only [Act.put, List.setIfInBounds_toArray, List.set_cons_zero, List.set_cons_succ, i64_w, i32_w]
              rfl
            refine pure_ (i := 17) (N := (some 46)) (v := ?_) (a' := ?_) #[true, true, true, true, true, true, true, true, true, true, true, true, true, true, true, true, true, true] rfl rfl (by kernel_rfl) (fun _ _ _ h => h) (Or.inl ⟨by rfl, ?_⟩) ?_ ?_
            rotate_left
            · intro w'
              go_simp
              with_reducible rfl
            rotate_left
            · simp only [Act.put, List.setIfInBounds_toArray, List.set_cons_zero, List.set_cons_succ, i64_w, i32_w]
              rfl
            refine done_ (by kernel_rfl) ?_
            have n0 := (below_then (below_drew (Below.refl w4.heap.size w4)) (Nat.le_refl _) hb1 : Below w4.heap.size w4 w5)
            have n1 := Aside0.mk (blk_below HXx.out n0)
            have n2 := Aside0.mk (blk_below HXp.out n0)
            have n3 := Aside0.mk (below_then HB.out HB.out.size n0)
            clear HXx HXp HB y0 y1 yp z2 hbx hbp hgc n0
            have HXx := n1
            have HXp := n2
            have HB := n3
            clear n1 n2 n3
            have y0 : w5.cell? ⟨bx, 0, none⟩ = some (.string x.f0) := (blk_cell HXx.out 0).trans rfl
            have y1 : w5.cell? ⟨bx, 1, none⟩ = some (.string x.f1) := (blk_cell HXx.out 1).trans rfl
            have yp : w5.cell? ⟨bp, 0, none⟩ = some (.pointer (some ⟨gc, 0, none⟩)) := (blk_cell HXp.out 0).trans rfl
            have z2 : w5.cell? ⟨gc, 2, none⟩ = some (.slice (some ac) l2.length c2) := (blk_cell (blk_below HC.out HB.out) 2).trans rfl
            have hbx := blk_lt HXx.out
            have hbp := blk_lt HXp.out
            have hgc := blk_lt (blk_below HC.out HB.out)
            go_wp2_with fail
            go_ret
            exact ⟨rfl, HB.out⟩
          | false =>
            cases a3 with
            | true =>
              obtain rfl := Option.some.inj hh2
              go_region_held3 (fun w' => w'.cell? ⟨bx, 0, none⟩ = some (.string x.f0) ∧ w'.cell? ⟨bx, 1, none⟩ = some (.string x.f1) ∧ w'.cell? ⟨bp, 0, none⟩ = some (.pointer (some ⟨gc, 0, none⟩)) ∧ w'.cell? ⟨gc, 2, none⟩ = some (.slice (some ac) l2.length c2)) (first | go_keep | assumption) (first | (go_at_call 50; have hz := is_zone_v.calls bp gc A1 c1 l1 v0 (.slice (some ac) l2.length c2) x.f1 false HA2.out w4.drew HXp.out (blk_below HC.out (below_drew HB.out)) (Kd.C_below HR1.out (below_drew HB.out)) hn1; refine hz.mono ?_; rintro e' w5 ⟨rfl, hb1⟩; have hbc : Below w4.heap.size w4 w5 := below_then (below_drew (Below.refl _ _)) (Nat.le_refl _) hb1; have k0 : w5.cell? ⟨bx, 0, none⟩ = some (.string x.f0) := pw_cell_below hbc y0; have k1 : w5.cell? ⟨bx, 1, none⟩ = some (.string x.f1) := pw_cell_below hbc y1; have k2 : w5.cell? ⟨bp, 0, none⟩ = some (.pointer (some ⟨gc, 0, none⟩)) := pw_cell_below hbc yp; have k3 : w5.cell? ⟨gc, 2, none⟩ = some (.slice (some ac) l2.length c2) := pw_cell_below hbc z2) | (go_at_call 52; have hz := is_link_v.calls (some ac) c2 l2 l2.length rfl x.f1 true HA3.out w5 (Kd.C_below HR2.out (below_then HB.out HB.out.size hbc)) hn2; refine hz.mono ?_; rintro e' w6 ⟨rfl, hb2⟩; have k0 : w6.cell? ⟨bx, 0, none⟩ = some (.string x.f0) := pw_cell_below hb2 k0; have k1 : w6.cell? ⟨bx, 1, none⟩ = some (.string x.f1) := pw_cell_below hb2 k1; have k2 : w6.cell? ⟨bp, 0, none⟩ = some (.pointer (some ⟨gc, 0, none⟩)) := pw_cell_below hb2 k2; have k3 : w6.cell? ⟨gc, 2, none⟩ = some (.slice (some ac) l2.length c2) := pw_cell_below hb2 k3))
              have n0 := (below_then (below_then (below_drew (Below.refl w4.heap.size w4)) (Nat.le_refl _) hb1) hbc.size hb2 : Below w4.heap.size w4 w6)
              have n1 := Aside0.mk (blk_below HXx.out n0)
              have n2 := Aside0.mk (blk_below HXp.out n0)
              have n3 := Aside0.mk (below_then HB.out HB.out.size n0)
              clear HXx HXp HB y0 y1 yp z2 hbx hbp hgc n0
              have HXx := n1
              have HXp := n2
              have HB := n3
              clear n1 n2 n3
              have y0 : w6.cell? ⟨bx, 0, none⟩ = some (.string x.f0) := (blk_cell HXx.out 0).trans rfl
              have y1 : w6.cell? ⟨bx, 1, none⟩ = some (.string x.f1) := (blk_cell HXx.out 1).trans rfl
              have yp : w6.cell? ⟨bp, 0, none⟩ = some (.pointer (some ⟨gc, 0, none⟩)) := (blk_cell HXp.out 0).trans rfl
              have z2 : w6.cell? ⟨gc, 2, none⟩ = some (.slice (some ac) l2.length c2) := (blk_cell (blk_below HC.out HB.out) 2).trans rfl
              have hbx := blk_lt HXx.out
              have hbp := blk_lt HXp.out
              have hgc := blk_lt (blk_below HC.out HB.out)
              go_wp2_with fail
              go_ret
              exact ⟨rfl, HB.out⟩
            | false =>
              obtain rfl := Option.some.inj hh2
              go_region_held3 (fun w' => w'.cell? ⟨bx, 0, none⟩ = some (.string x.f0) ∧ w'.cell? ⟨bx, 1, none⟩ = some (.string x.f1) ∧ w'.cell? ⟨bp, 0, none⟩ = some (.pointer (some ⟨gc, 0, none⟩)) ∧ w'.cell? ⟨gc, 2, none⟩ = some (.slice (some ac) l2.length c2)) (first | go_keep | assumption) (first | (go_at_call 50; have hz := is_zone_v.calls bp gc A1 c1 l1 v0 (.slice (some ac) l2.length c2) x.f1 false HA2.out w4.drew HXp.out (blk_below HC.out (below_drew HB.out)) (Kd.C_below HR1.out (below_drew HB.out)) hn1; refine hz.mono ?_; rintro e' w5 ⟨rfl, hb1⟩; have hbc : Below w4.heap.size w4 w5 := below_then (below_drew (Below.refl _ _)) (Nat.le_refl _) hb1; have k0 : w5.cell? ⟨bx, 0, none⟩ = some (.string x.f0) := pw_cell_below hbc y0; have k1 : w5.cell? ⟨bx, 1, none⟩ = some (.string x.f1) := pw_cell_below hbc y1; have k2 : w5.cell? ⟨bp, 0, none⟩ = some (.pointer (some ⟨gc, 0, none⟩)) := pw_cell_below hbc yp; have k3 : w5.cell? ⟨gc, 2, none⟩ = some (.slice (some ac) l2.length c2) := pw_cell_below hbc z2) | (go_at_call 52; have hz := is_link_v.calls (some ac) c2 l2 l2.length rfl x.f1 false HA3.out w5 (Kd.C_below HR2.out (below_then HB.out HB.out.size hbc)) hn2; refine hz.mono ?_; rintro e' w6 ⟨rfl, hb2⟩; have k0 : w6.cell? ⟨bx, 0, none⟩ = some (.string x.f0) := pw_cell_below hb2 k0; have k1 : w6.cell? ⟨bx, 1, none⟩ = some (.string x.f1) := pw_cell_below hb2 k1; have k2 : w6.cell? ⟨bp, 0, none⟩ = some (.pointer (some ⟨gc, 0, none⟩)) := pw_cell_below hb2 k2; have k3 : w6.cell? ⟨gc, 2, none⟩ = some (.slice (some ac) l2.length c2) := pw_cell_below hb2 k3))
              have n0 := (below_then (below_then (below_drew (Below.refl w4.heap.size w4)) (Nat.le_refl _) hb1) hbc.size hb2 : Below w4.heap.size w4 w6)
              have n1 := Aside0.mk (blk_below HXx.out n0)
              have n2 := Aside0.mk (blk_below HXp.out n0)
              have n3 := Aside0.mk (below_then HB.out HB.out.size n0)
              clear HXx HXp HB y0 y1 yp z2 hbx hbp hgc n0
              have HXx := n1
              have HXp := n2
              have HB := n3
              clear n1 n2 n3
              have y0 : w6.cell? ⟨bx, 0, none⟩ = some (.string x.f0) := (blk_cell HXx.out 0).trans rfl
              have y1 : w6.cell? ⟨bx, 1, none⟩ = some (.string x.f1) := (blk_cell HXx.out 1).trans rfl
              have yp : w6.cell? ⟨bp, 0, none⟩ = some (.pointer (some ⟨gc, 0, none⟩)) := (blk_cell HXp.out 0).trans rfl
              have z2 : w6.cell? ⟨gc, 2, none⟩ = some (.slice (some ac) l2.length c2) := (blk_cell (blk_below HC.out HB.out) 2).trans rfl
              have hbx := blk_lt HXx.out
              have hbp := blk_lt HXp.out
              have hgc := blk_lt (blk_below HC.out HB.out)
              go_wp2_with fail
              go_ret
              exact ⟨rfl, HB.out⟩
end Go.Proofs.YtmgnnplcnmhbaaaGreatDoor.PT
end
section
namespace Go.Proofs.YtmgnnplcnmhbaaaGreatDoor.PT
open Go.RowKit Go.Proofs.YtmgnnplcnmhbaaaGreatDoorW.PrintWords Go.Proofs.YtmgnnplcnmhbaaaGreatDoorW.PrintLast Go.Proofs.YtmgnnplcnmhbaaaGreatDoorW.PrintMore
set_option linter.unusedVariables false
set_option linter.unusedSimpArgs false
def bk_rule (k : Nat) (l0 : List S65) (i : Nat) : Option Int := rule_Check.f k (rd_T65 l0 (i : Int)).f0 (rd_T65 l0 (i : Int)).f1 (rd_T65 l0 (i : Int)).f2 (rd_T65 l0 (i : Int)).f3 (rd_T65 l0 (i : Int)).f4.f0 (rd_T65 l0 (i : Int)).f4.f1 (rd_T65 l0 (i : Int)).f4.f2 (rd_T65 l0 (i : Int)).f5 (rd_T65 l0 (i : Int)).f6 (rd_T65 l0 (i : Int)).f7 (rd_T65 l0 (i : Int)).f8
def book_Check.f (k : Nat) (l0_0 : List S65) (l0_1 : List S43) (l0_2 : List S45) : Option Int :=
  if 40 < l0_0.length ∨ 20 < l0_1.length ∨ 20 < l0_2.length then some 2
  else (errFrom (bk_rule k l0_0) 0 l0_0.length).bind fun e => if e = 0 then
    (errFrom (bk_zone k l0_0 l0_1) 0 l0_1.length).bind fun e => if e = 0 then errFrom (bk_link k l0_1 l0_2) 0 l0_2.length else some e
  else some e
theorem LeO.map_ {α β : Type} {a b : Option α} (f : α → β) (h : LeO a b) : LeO (a.map f) (b.map f) := by
  intro r hr
  obtain ⟨x, hx, rfl⟩ := Option.map_eq_some_iff.mp hr
  rw [h x hx]
  rfl
theorem bk_abbrs.mono (l0 : List S65) (x : S39) (k : Nat) : LeO (bk_abbrs.f k l0 x) (bk_abbrs.f (k + 1) l0 x) := by
  unfold bk_abbrs.f
  refine LeO.ite (LeO.map_ _ (book_Abbr.mono _ _ _ k)) (LeO.bind (errFrom_mono (fun i => ?_) _ _) (fun e => LeO.ite (LeO.map_ _ (book_Abbr.mono _ _ _ k)) (LeO.refl _)))
  unfold bk_abbr1
  exact LeO.ite (LeO.map_ _ (book_Abbr.mono _ _ _ k)) (LeO.refl _)
theorem bk_era_mono (l0 : List S65) (es : List S39) (i k : Nat) : LeO (bk_era k l0 es i) (bk_era (k + 1) l0 es i) := by
  unfold bk_era
  exact LeO.ite (LeO.refl _) (LeO.ite (LeO.refl _) (LeO.ite (LeO.refl _) (LeO.bind (bk_abbrs.mono _ _ k) (fun e => LeO.ite (LeO.refl _) (LeO.ite (LeO.refl _) (LeO.ite (LeO.refl _) (LeO.bind (clock_Stamp.mono _ k) (fun _ => LeO.refl _))))))))
theorem bk_zone_mono (l0 : List S65) (l1 : List S43) (i k : Nat) : LeO (bk_zone k l0 l1 i) (bk_zone (k + 1) l0 l1 i) := by
  unfold bk_zone
  exact LeO.bind (rule_IsName.mono _ k) (fun b => LeO.ite (LeO.ite (LeO.refl _) (LeO.ite (LeO.refl _) (LeO.ite (LeO.refl _) (errFrom_mono (fun j => bk_era_mono _ _ j k) _ _)))) (LeO.refl _))
theorem bk_link_mono (l1 : List S43) (l2 : List S45) (i k : Nat) : LeO (bk_link k l1 l2 i) (bk_link (k + 1) l1 l2 i) := by
  unfold bk_link
  exact LeO.bind (rule_IsName.mono _ k) (fun b => LeO.ite (LeO.bind (rule_IsName.mono _ k) (fun _ => LeO.refl _)) (LeO.refl _))
theorem book_Check.mono : ∀ a0 a1 a2 k, LeO (book_Check.f k a0 a1 a2) (book_Check.f (k + 1) a0 a1 a2) := by
  intro a0 a1 a2 k
  unfold book_Check.f
  exact LeO.ite (LeO.refl _) (LeO.bind (errFrom_mono (fun i => rule_Check.mono _ _ _ _ _ _ _ _ _ _ _ k) _ _) (fun e => LeO.ite (LeO.bind (errFrom_mono (fun i => bk_zone_mono _ _ i k) _ _) (fun e => LeO.ite (errFrom_mono (fun i => bk_link_mono _ _ i k) _ _) (LeO.refl _))) (LeO.refl _)))
set_option maxHeartbeats 4000000 in
set_option maxRecDepth 100000 in
theorem book_Check.calls (k : Nat) (A0_0 : Option Addr) (c0_0 : Nat) (l0_0 : List (S65)) (A0_1 : Option Addr) (c0_1 : Nat) (l0_1 : List (S43)) (A0_2 : Option Addr) (c0_2 : Nat) (l0_2 : List (S45)) (r : Int) (w : World) (hL : LaidT w) (hr0_0 : Kd.C k65 w A0_0 l0_0.length l0_0) (hc0_0 : l0_0.length ≤ c0_0) (hr0_1 : Kd.C k43 w A0_1 l0_1.length l0_1) (hc0_1 : l0_1.length ≤ c0_1) (hr0_2 : Kd.C k45 w A0_2 l0_2.length l0_2) (hc0_2 : l0_2.length ≤ c0_2) (h : book_Check.f k l0_0 l0_1 l0_2 = some r) :
    Calls Tryz.prog 14 #[.agg #[.slice A0_0 l0_0.length c0_0, .slice A0_1 l0_1.length c0_1, .slice A0_2 l0_2.length c0_2]] w fun e w' => e = .returned (.int .i64 r) ∧ Below w.heap.size w w' := by
  have hu34 := Tryz.underlying27
  have hu77 := Tryz.underlying69
  have hu59 := Tryz.underlying65
  have HR := Aside0.mk hr0_0
  have HR1 := Aside0.mk hr0_1
  have HR2 := Aside0.mk hr0_2
  have HL := Aside0.mk hL
  unfold book_Check.f at h
  clear hr0_0 hr0_1 hr0_2 hL
  by_cases hb : 40 < l0_0.length ∨ 20 < l0_1.length ∨ 20 < l0_2.length
  case pos =>
    rw [if_pos hb] at h
    obtain rfl := Option.some.inj h
    clear h
    have way : Aside0 ((decide ((40 : Int) < (l0_0.length : Int)) = true ∧ (40 : Int) < (l0_0.length : Int)) ∨ ((decide ((40 : Int) < (l0_0.length : Int)) = false ∧ ¬ (40 : Int) < (l0_0.length : Int)) ∧ (decide ((20 : Int) < (l0_1.length : Int)) = true ∧ (20 : Int) < (l0_1.length : Int))) ∨ ((decide ((40 : Int) < (l0_0.length : Int)) = false ∧ ¬ (40 : Int) < (l0_0.length : Int)) ∧ (decide ((20 : Int) < (l0_1.length : Int)) = false ∧ ¬ (20 : Int) < (l0_1.length : Int)) ∧ (decide ((20 : Int) < (l0_2.length : Int)) = true ∧ (20 : Int) < (l0_2.length : Int)))) := by
      constructor
      simp only [decide_eq_true_eq, decide_eq_false_iff_not]
      omega
    clear hb
    rcases way.out with ⟨t0, t1⟩ | ⟨⟨t0, t1⟩, t2, t3⟩ | ⟨⟨t0, t1⟩, ⟨t2, t3⟩, t4, t5⟩
    all_goals
      clear way
      go_enter Tryz.func14, Tryz.ntmps14
      go_wp2_with fail
      go_ret
      exact ⟨rfl, below_alloc (Below.refl _ _) _⟩
  rw [if_neg hb] at h
  have t0 : decide ((40 : Int) < (l0_0.length : Int)) = false := decide_eq_false (by omega)
  have t1 : ¬ (40 : Int) < (l0_0.length : Int) := by omega
  have t2 : decide ((20 : Int) < (l0_1.length : Int)) = false := decide_eq_false (by omega)
  have t3 : ¬ (20 : Int) < (l0_1.length : Int) := by omega
  have t4 : decide ((20 : Int) < (l0_2.length : Int)) = false := decide_eq_false (by omega)
  have t5 : ¬ (20 : Int) < (l0_2.length : Int) := by omega
  have hn0 : l0_0.length ≤ 4611686018427387904 := by omega
  have hn1 : l0_1.length ≤ 4611686018427387904 := by omega
  have hn2 : l0_2.length ≤ 4611686018427387904 := by omega
  clear hb
  obtain ⟨E, hE, h⟩ := Option.bind_eq_some_iff.mp h
  have HE := Aside0.mk hE
  have HH := Aside0.mk h
  clear hE h
  go_enter Tryz.func14, Tryz.ntmps14
  go_wp2_with fail
  have HB2 := Aside0.mk (below_alloc (Below.refl w.heap.size w) (Obj.cells #[.slice A0_0 l0_0.length c0_0, .slice A0_1 l0_1.length c0_1, .slice A0_2 l0_2.length c0_2] 27))
  have HX2 := Aside0.mk (heap_alloc_new w (Obj.cells #[.slice A0_0 l0_0.length c0_0, .slice A0_1 l0_1.length c0_1, .slice A0_2 l0_2.length c0_2] 27))
  generalize w.alloc (Obj.cells #[.slice A0_0 l0_0.length c0_0, .slice A0_1 l0_1.length c0_1, .slice A0_2 l0_2.length c0_2] 27) = w2 at HX2 HB2 ⊢
  obtain ⟨b, hb⟩ : ∃ b, b = w.heap.size := ⟨_, rfl⟩
  rw [← hb] at HX2 ⊢
  have HBE := Aside0.mk hb
  clear hb
  go_loopw [30] (fun i wr => ∃ j : Nat, i = .int .i64 j ∧ j ≤ l0_0.length ∧ Aside0 (errFrom (bk_rule k l0_0) j (l0_0.length - j) = some E) ∧ Aside0 (wr.heap[b]? = some (.cells #[.slice A0_0 l0_0.length c0_0, .slice A0_1 l0_1.length c0_1, .slice A0_2 l0_2.length c0_2] 27 (0, 0))) ∧ Aside0 (Below w.heap.size w wr)) (fun i _ => l0_0.length - (intOf i).toNat)
  case atStart => exact ⟨0, rfl, Nat.zero_le _, HE, HX2, HB2⟩
  case round =>
    obtain ⟨j, rfl, hj, HE1, HX, HB⟩ := hrel
    clear HX2 HB2 HE
    by_cases hlt : j < l0_0.length
    · have hk0 : (0 : Int) ≤ (j : Int) := Int.natCast_nonneg _
      have hk1 : (j : Int) < (l0_0.length : Int) := by omega
      obtain ⟨ac, e, p0, p1, p2, p3, p4, p5, p6, p7, p8, p9, p10⟩ := at_T65 (Kd.C_below HR.out HB.out) (j : Int) hk0 hk1
      cases e
      rw [Int.toNat_natCast] at p0 p1 p2 p3 p4 p5 p6 p7 p8 p9 p10
      have hcl := World.block_lt_of_cell? _ _ p0
      have hd := HE1.out
      rw [show l0_0.length - j = (l0_0.length - (j + 1)) + 1 by omega] at hd
      obtain ⟨e1, he1, hd⟩ := errFrom_step hd
      unfold bk_rule at he1
      obtain ⟨q, hq⟩ : ∃ q, q = rd_T65 l0_0 (j : Int) := ⟨_, rfl⟩
      simp only [← hq] at p0 p1 p2 p3 p4 p5 p6 p7 p8 p9 p10 he1
      have HE2 := Aside0.mk he1
      have HD := Aside0.mk hd
      have HQ := Aside0.mk hq
      have hbl := blk_lt HX.out
      clear he1 hd hq HE1
      by_cases e0 : e1 = 0
      · subst e0
        go_wp2_with (go_at_call 27; refine (rule_Check.calls k _ _ _ _ _ _ _ _ _ _ _ _ _ (HL.out.sub (below_then HB.out HB.out.size (below_alloc (Below.refl _ _) _))) HE2.out).mono ?_; rintro e w4 ⟨rfl, hb4⟩; have HX4 := Aside0.mk ((hb4.block b (by first | exact hbl | exact Nat.lt_of_lt_of_le hbl (by simp))).trans (((below_alloc (Below.refl _ _) _).block b hbl).trans HX.out)); have HB4 := Aside0.mk (below_then (below_then HB.out HB.out.size (below_alloc (Below.refl _ _) _)) (Nat.le_trans HB.out.size (by simp)) hb4); clear HX HB hb4 hbl p0 p1 p2 p3 p4 p5 p6 p7 p8 p9 p10 hcl)
        go_roundw
        case rel => exact ⟨j + 1, rfl, by omega, ⟨by rcases HD.out with ⟨_, h⟩ | ⟨h, _⟩; exact h; exact absurd rfl h⟩, HX4, HB4⟩
        case measure =>
          simp [intOf]
          try omega
      · obtain ⟨u0, u1⟩ := int_no e0
        have hE : E = e1 := by rcases HD.out with ⟨h, _⟩ | ⟨_, h⟩; exact absurd h e0; exact h
        have hr : r = e1 := by
          have h := HH.out
          rw [if_neg (by rw [hE]; exact e0)] at h
          rw [← Option.some.inj h, hE]
        subst hr
        clear HD e0 hE
        go_wp2_with (go_at_call 27; refine (rule_Check.calls k _ _ _ _ _ _ _ _ _ _ _ _ _ (HL.out.sub (below_then HB.out HB.out.size (below_alloc (Below.refl _ _) _))) HE2.out).mono ?_; rintro e w4 ⟨rfl, hb4⟩; have HB4 := Aside0.mk (below_then (below_then HB.out HB.out.size (below_alloc (Below.refl _ _) _)) (Nat.le_trans HB.out.size (by simp)) hb4); clear HX HB hb4 hbl p0 p1 p2 p3 p4 p5 p6 p7 p8 p9 p10 hcl)
        go_ret
        exact ⟨rfl, HB4.out⟩
    · have hjl : j = l0_0.length := by omega
      have hE : E = 0 := by
        have h := HE1.out
        rw [hjl, Nat.sub_self] at h
        exact errFrom_end h
      subst hE hjl
      have h := HH.out
      rw [if_pos rfl] at h
      obtain ⟨E1, hE1, h⟩ := Option.bind_eq_some_iff.mp h
      clear HH HE1
      have HE := Aside0.mk hE1
      have HH := Aside0.mk h
      clear hE1 h
      have z0 : wr.cell? ⟨b, 0, none⟩ = some (.slice A0_0 l0_0.length c0_0) := (blk_cell HX.out 0).trans rfl
      have z1 : wr.cell? ⟨b, 1, none⟩ = some (.slice A0_1 l0_1.length c0_1) := (blk_cell HX.out 1).trans rfl
      have z2 : wr.cell? ⟨b, 2, none⟩ = some (.slice A0_2 l0_2.length c0_2) := (blk_cell HX.out 2).trans rfl
      have hbl := blk_lt HX.out
      go_wp2_with fail
      have hb5 := below_alloc (Below.refl wr.heap.size wr) (Obj.cells #[.slice A0_0 l0_0.length c0_0, .slice A0_1 l0_1.length c0_1, .slice A0_2 l0_2.length c0_2] 69)
      have HC5 := Aside0.mk (heap_alloc_new wr (Obj.cells #[.slice A0_0 l0_0.length c0_0, .slice A0_1 l0_1.length c0_1, .slice A0_2 l0_2.length c0_2] 69))
      have HX5 := Aside0.mk ((hb5.block b hbl).trans HX.out)
      have HB5 := Aside0.mk (below_then HB.out HB.out.size hb5)
      clear hb5 z0 z1 z2 hbl
      generalize wr.alloc (Obj.cells #[.slice A0_0 l0_0.length c0_0, .slice A0_1 l0_1.length c0_1, .slice A0_2 l0_2.length c0_2] 69) = w5 at HX5 HB5 HC5 ⊢
      obtain ⟨gc, hgc⟩ : ∃ g, g = wr.heap.size := ⟨_, rfl⟩
      rw [← hgc] at HC5 ⊢
      have HGC := Aside0.mk hgc
      clear hgc HX
      go_loopw [46] (fun i wr => ∃ j : Nat, i = .int .i64 j ∧ j ≤ l0_1.length ∧ Aside0 (errFrom (bk_zone k l0_0 l0_1) j (l0_1.length - j) = some E1) ∧ Aside0 (wr.heap[gc]? = some (.cells #[.slice A0_0 l0_0.length c0_0, .slice A0_1 l0_1.length c0_1, .slice A0_2 l0_2.length c0_2] 69 (0, 0))) ∧ Aside0 (wr.heap[b]? = some (.cells #[.slice A0_0 l0_0.length c0_0, .slice A0_1 l0_1.length c0_1, .slice A0_2 l0_2.length c0_2] 27 (0, 0))) ∧ Aside0 (Below w.heap.size w wr)) (fun i _ => l0_1.length - (intOf i).toNat)
      case atStart => exact ⟨0, rfl, Nat.zero_le _, HE, HC5, HX5, HB5⟩
      case round =>
        clear HX5 HB5 HC5 HE HB
        obtain ⟨j, rfl, hj, HE1, HC, HX, HB⟩ := hrel
        by_cases hlt : j < l0_1.length
        · have hk1 : (j : Int) < (l0_1.length : Int) := by omega
          have hd := HE1.out
          rw [show l0_1.length - j = (l0_1.length - (j + 1)) + 1 by omega] at hd
          obtain ⟨e1, he1, hd⟩ := errFrom_step hd
          have HE2 := Aside0.mk he1
          have HD := Aside0.mk hd
          clear he1 hd HE1
          by_cases e0 : e1 = 0
          · subst e0
            go_wp2_with (go_at_call 28; with_reducible refine (bk_zone.calls k gc A0_0 c0_0 l0_0 A0_1 c0_1 l0_1 _ j hlt 0 _ (HL.out.sub HB.out) HC.out (Kd.C_below HR.out HB.out) hn0 (Kd.C_below HR1.out HB.out) hn1 hc0_1 HE2.out).mono ?_; rintro e w7 ⟨rfl, hb7⟩; have HC7 := Aside0.mk (blk_below HC.out hb7); have HX7 := Aside0.mk (blk_below HX.out hb7); have HB7 := Aside0.mk (below_then HB.out HB.out.size hb7); clear hb7 HC HX HB)
            go_roundw
            case rel => exact ⟨j + 1, rfl, by omega, ⟨by rcases HD.out with ⟨_, h⟩ | ⟨h, _⟩; exact h; exact absurd rfl h⟩, HC7, HX7, HB7⟩
            case measure =>
              simp [intOf]
              try omega
          · obtain ⟨u0, u1⟩ := int_no e0
            have hE : E1 = e1 := by rcases HD.out with ⟨h, _⟩ | ⟨_, h⟩; exact absurd h e0; exact h
            have hr : r = e1 := by
              have h := HH.out
              rw [if_neg (by rw [hE]; exact e0)] at h
              rw [← Option.some.inj h, hE]
            subst hr
            clear HD e0 hE
            go_wp2_with (go_at_call 28; with_reducible refine (bk_zone.calls k gc A0_0 c0_0 l0_0 A0_1 c0_1 l0_1 _ j hlt _ _ (HL.out.sub HB.out) HC.out (Kd.C_below HR.out HB.out) hn0 (Kd.C_below HR1.out HB.out) hn1 hc0_1 HE2.out).mono ?_; rintro e w7 ⟨rfl, hb7⟩; have HB7 := Aside0.mk (below_then HB.out HB.out.size hb7); clear hb7 HC HX HB)
            go_ret
            exact ⟨rfl, HB7.out⟩
        · have hjl : j = l0_1.length := by omega
          have hE : E1 = 0 := by
            have h := HE1.out
            rw [hjl, Nat.sub_self] at h
            exact errFrom_end h
          subst hE hjl
          have h := HH.out
          rw [if_pos rfl] at h
          clear HH HE1
          have HE := Aside0.mk h
          clear h
          have z2 : wr.cell? ⟨b, 2, none⟩ = some (.slice A0_2 l0_2.length c0_2) := (blk_cell HX.out 2).trans rfl
          have hbl := blk_lt HX.out
          go_wp2_with fail
          go_loopw [59] (fun i wr => ∃ j : Nat, i = .int .i64 j ∧ j ≤ l0_2.length ∧ Aside0 (errFrom (bk_link k l0_1 l0_2) j (l0_2.length - j) = some r) ∧ Aside0 (wr.heap[gc]? = some (.cells #[.slice A0_0 l0_0.length c0_0, .slice A0_1 l0_1.length c0_1, .slice A0_2 l0_2.length c0_2] 69 (0, 0))) ∧ Aside0 (Below w.heap.size w wr)) (fun i _ => l0_2.length - (intOf i).toNat)
          case atStart => exact ⟨0, rfl, Nat.zero_le _, HE, HC, HB⟩
          case round =>
            clear HX HB HC HE z2 hbl
            obtain ⟨j, rfl, hj, HE1, HC, HB⟩ := hrel
            by_cases hlt : j < l0_2.length
            · have hk1 : (j : Int) < (l0_2.length : Int) := by omega
              have hd := HE1.out
              rw [show l0_2.length - j = (l0_2.length - (j + 1)) + 1 by omega] at hd
              obtain ⟨e1, he1, hd⟩ := errFrom_step hd
              have HE2 := Aside0.mk he1
              have HD := Aside0.mk hd
              clear he1 hd HE1
              by_cases e0 : e1 = 0
              · subst e0
                go_wp2_with (go_at_call 29; with_reducible refine (bk_link.calls k gc _ A0_1 c0_1 l0_1 A0_2 c0_2 l0_2 j hlt 0 _ (HL.out.sub HB.out) HC.out (Kd.C_below HR1.out HB.out) hn1 (Kd.C_below HR2.out HB.out) hn2 hc0_2 HE2.out).mono ?_; rintro e w7 ⟨rfl, hb7⟩; have HC7 := Aside0.mk (blk_below HC.out hb7); have HB7 := Aside0.mk (below_then HB.out HB.out.size hb7); clear hb7 HC HB)
                go_roundw
                case rel => exact ⟨j + 1, rfl, by omega, ⟨by rcases HD.out with ⟨_, h⟩ | ⟨h, _⟩; exact h; exact absurd rfl h⟩, HC7, HB7⟩
                case measure =>
                  simp [intOf]
                  try omega
              · obtain ⟨u0, u1⟩ := int_no e0
                have hr : r = e1 := by rcases HD.out with ⟨h, _⟩ | ⟨_, h⟩; exact absurd h e0; exact h
                subst hr
                clear HD e0
                go_wp2_with (go_at_call 29; with_reducible refine (bk_link.calls k gc _ A0_1 c0_1 l0_1 A0_2 c0_2 l0_2 j hlt _ _ (HL.out.sub HB.out) HC.out (Kd.C_below HR1.out HB.out) hn1 (Kd.C_below HR2.out HB.out) hn2 hc0_2 HE2.out).mono ?_; rintro e w7 ⟨rfl, hb7⟩; have HB7 := Aside0.mk (below_then HB.out HB.out.size hb7); clear hb7 HC HB)
                go_ret
                exact ⟨rfl, HB7.out⟩
            · have hjl : j = l0_2.length := by omega
              have hr : r = 0 := by
                have h := HE1.out
                rw [hjl, Nat.sub_self] at h
                exact errFrom_end h
              subst hr hjl
              go_wp2_with fail
              go_ret
              exact ⟨rfl, HB.out⟩
end Go.Proofs.YtmgnnplcnmhbaaaGreatDoor.PT
end
section
namespace Go.Proofs.YtmgnnplcnmhbaaaGreatDoor.PT
open Go.RowKit Go.Proofs.YtmgnnplcnmhbaaaGreatDoorW.PrintWords Go.Proofs.YtmgnnplcnmhbaaaGreatDoorW.PrintLast Go.Proofs.YtmgnnplcnmhbaaaGreatDoorW.PrintMore
attribute [local go_sem] max2_int min2_int max_two min_two max_three min_three max_four min_four   -- for this text's walks alone
set_option linter.unusedVariables false
set_option linter.unusedSimpArgs false
mutual
def clock_Span.j0 : Nat → Int → Bool → Option (ByteArray × Int)
  | 0, _, _ => none
  | k + 1, x0, x11 => if x11 = true then (some ((⟨#[]⟩ : ByteArray), 1)) else (if x0 < 0 then (clock_Span.j1 k (wrap64 (-x0)) (⟨#[45]⟩ : ByteArray)) else (clock_Span.j1 k x0 (⟨#[]⟩ : ByteArray)))
def clock_Span.j1 : Nat → Int → ByteArray → Option (ByteArray × Int)
  | 0, _, _ => none
  | k + 1, x0, x4 => (strconv_Itoa.f (wrap64 (Int.tdiv x0 3600))).bind fun t198 => (if x4.size + t198.size ≤ 9223372036854775807 then (if (x4 ++ t198).size + 1 ≤ 9223372036854775807 then ((clock_two.f (Int.tmod (wrap64 (Int.tdiv x0 60)) 60)).bind fun t199 => (if ((x4 ++ t198) ++ (⟨#[58]⟩ : ByteArray)).size + t199.size ≤ 9223372036854775807 then (if (Int.tmod x0 60) = 0 then (some (((x4 ++ t198) ++ (⟨#[58]⟩ : ByteArray)) ++ t199, 0)) else ((clock_two.f (Int.tmod x0 60)).bind fun t200 => (if 1 + t200.size ≤ 9223372036854775807 then (if (((x4 ++ t198) ++ (⟨#[58]⟩ : ByteArray)) ++ t199).size + ((⟨#[58]⟩ : ByteArray) ++ t200).size ≤ 9223372036854775807 then (some ((((x4 ++ t198) ++ (⟨#[58]⟩ : ByteArray)) ++ t199) ++ ((⟨#[58]⟩ : ByteArray) ++ t200), 0)) else (none)) else (none)))) else (none))) else (none)) else (none))
end
def clock_Span.f (k : Nat) (a0 : Int) : Option (ByteArray × Int) := if a0 < (-604800) then (clock_Span.j0 k a0 true) else (clock_Span.j0 k a0 (decide (a0 > 604800)))
theorem clock_Span.mono_l : ∀ k, (∀ y0 y1, LeO (clock_Span.j0 k y0 y1) (clock_Span.j0 (k + 1) y0 y1)) ∧ (∀ y0 y1, LeO (clock_Span.j1 k y0 y1) (clock_Span.j1 (k + 1) y0 y1))
  | 0 => ⟨fun _ _ r h => by simp [clock_Span.j0] at h, fun _ _ r h => by simp [clock_Span.j1] at h⟩
  | k + 1 => by
    obtain ⟨ih0, ih1⟩ := clock_Span.mono_l k
    refine ⟨?_, ?_⟩
    · intro y0 y1
      unfold clock_Span.j0
      repeat' first
      | (with_reducible exact ih0 _ _)
      | (with_reducible exact ih1 _ _)
      | (with_reducible exact LeO.refl _)
      | (with_reducible exact LeO.none _)
      | (with_reducible refine LeO.ite ?_ ?_)
      | (with_reducible refine LeO.bind ?_ (fun _ => ?_))
      | exact ih0 _ _
      | exact ih1 _ _
      | exact LeO.none _
      | refine LeO.ite ?_ ?_
      | refine LeO.bind ?_ (fun _ => ?_)
    · intro y0 y1
      unfold clock_Span.j1
      repeat' first
      | (with_reducible exact ih0 _ _)
      | (with_reducible exact ih1 _ _)
      | (with_reducible exact LeO.refl _)
      | (with_reducible exact LeO.none _)
      | (with_reducible refine LeO.ite ?_ ?_)
      | (with_reducible refine LeO.bind ?_ (fun _ => ?_))
      | exact ih0 _ _
      | exact ih1 _ _
      | exact LeO.none _
      | refine LeO.ite ?_ ?_
      | refine LeO.bind ?_ (fun _ => ?_)
theorem clock_Span.mono : ∀ a0 k, LeO (clock_Span.f k a0) (clock_Span.f (k + 1) a0) := by
  intro a0 k
  obtain ⟨ih0, ih1⟩ := clock_Span.mono_l k
  unfold clock_Span.f
  repeat' first
      | (with_reducible exact ih0 _ _)
      | (with_reducible exact ih1 _ _)
      | (with_reducible exact LeO.refl _)
      | (with_reducible exact LeO.none _)
      | (with_reducible refine LeO.ite ?_ ?_)
      | (with_reducible refine LeO.bind ?_ (fun _ => ?_))
      | exact ih0 _ _
      | exact ih1 _ _
      | exact LeO.none _
      | refine LeO.ite ?_ ?_
      | refine LeO.bind ?_ (fun _ => ?_)
set_option maxHeartbeats 8000000 in
set_option maxRecDepth 100000 in
theorem clock_Span.calls (k : Nat) (a0 : Int) (r1 : ByteArray) (r2 : Int) (w : World) (hL : LaidT w) (h : clock_Span.f k a0 = some (r1, r2)) :
    Calls Tryz.prog 56 #[.int .i64 a0] w fun e w' => e = .returned (.tuple #[.string r1, .int .i64 r2]) ∧ Below w.heap.size w w' := by
  have HB := Aside0.mk (Below.refl w.heap.size w)
  have HLA := Aside0.mk hL
  clear hL
  have H : (if a0 < (-604800) then (clock_Span.j0 k a0 true) else (clock_Span.j0 k a0 (decide (a0 > 604800)))) = some (r1, r2) := h
  clear h
  have HC2 := Aside0.mk H
  clear H
  go_enter Tryz.func56, Tryz.ntmps56
  go_upto_region 1 with (fail)
  go_cut [11] (fun v11 wc => ∃ (kq : Nat) (x11_1 : Bool), v11 = .bool x11_1 ∧ Aside0 (clock_Span.j0 kq a0 x11_1 = some (r1, r2)) ∧ Aside0 (kq ≤ k) ∧ Aside0 (Below w.heap.size w wc))
  case first =>
    have H := HC2.out
    clear HC2
    by_cases c3 : a0 < (-604800)
    · rw [if_pos c3] at H
      have c3b0 : decide (a0 < (-604800)) = true := decide_eq_true c3
      clear c3
      (first | rw [c3b0] | (simp only [i64_w, i32_w]; rw [c3b0]) | skip)
      have H' := Aside0.mk H
      clear H
      go_wp2
      go_meet
      case rel => exact ⟨_, (true), (by first | rfl | (simp; done) | (simp [*]; done)), H', ⟨by first | omega | exact Nat.le_refl _⟩, ⟨by repeat (first | (with_reducible first | exact HB.out | apply below_alloc | apply pw_below_drewN | apply below_drew1) | exact HB.out)⟩⟩
    · rw [if_neg c3] at H
      have c3b0 : decide (a0 < (-604800)) = false := decide_eq_false c3
      clear c3
      (first | rw [c3b0] | (simp only [i64_w, i32_w]; rw [c3b0]) | skip)
      have H' := Aside0.mk H
      clear H
      go_wp2
      go_meet
      case rel => exact ⟨_, (decide (a0 > 604800)), (by first | rfl | (simp; done) | (simp [*]; done)), H', ⟨by first | omega | exact Nat.le_refl _⟩, ⟨by repeat (first | (with_reducible first | exact HB.out | apply below_alloc | apply pw_below_drewN | apply below_drew1) | exact HB.out)⟩⟩
  case rest =>
    clear HC2
    try clear p2
    try clear c3
    try clear c3b0
    obtain ⟨kq, x11_1, rfl, HA, HJ1, HB⟩ := hcut
    cases kq with
    | zero => exact absurd HA.out (by simp [clock_Span.j0])
    | succ kj1 =>
      have H := HA.out
      clear HA
      simp only [clock_Span.j0] at H
      by_cases c4 : x11_1 = true
      · subst c4
        have H1 : (some ((⟨#[]⟩ : ByteArray), 1)) = some (r1, r2) := by rw [if_pos rfl] at H; exact H
        clear H
        have H := H1
        clear H1
        simp only [Option.some.injEq, Prod.mk.injEq] at H
        obtain ⟨rfl, rfl⟩ := H
        go_wp2
        go_ret2
        exact ⟨by first | rfl | (simp [errW_none, errW_some] <;> rfl) | (simp [*, errW_none, errW_some] <;> rfl), by repeat (first | (with_reducible first | exact HB.out | apply below_alloc | apply pw_below_drewN | apply below_drew1) | exact HB.out)⟩
      · replace c4 := Bool.eq_false_iff.mpr c4
        subst c4
        have H1 : (if a0 < 0 then (clock_Span.j1 kj1 (wrap64 (-a0)) (⟨#[45]⟩ : ByteArray)) else (clock_Span.j1 kj1 a0 (⟨#[]⟩ : ByteArray))) = some (r1, r2) := by rw [if_neg (show ¬ (false = true) by decide)] at H; exact H
        clear H
        have H := H1
        clear H1
        have HC5 := Aside0.mk H
        clear H
        go_upto_if 13 with (fail)
        go_cut [0, 4] (fun v0 v4 wc => ∃ (kq : Nat) (x0_4 : Int) (x4_4 : ByteArray), v0 = .int .i64 x0_4 ∧ v4 = .string x4_4 ∧ Aside0 (clock_Span.j1 kq x0_4 x4_4 = some (r1, r2)) ∧ Aside0 (kq ≤ kj1) ∧ Aside0 (Below w.heap.size w wc))
        case first =>
          have H := HC5.out
          clear HC5
          by_cases c6 : a0 < 0
          · rw [if_pos c6] at H
            have c6b0 : decide (a0 < 0) = true := decide_eq_true c6
            clear c6
            (first | rw [c6b0] | (simp only [i64_w, i32_w]; rw [c6b0]) | skip)
            have H' := Aside0.mk H
            clear H
            go_wp2
            go_meet
            case rel => exact ⟨_, (wrap64 (-a0)), ((⟨#[45]⟩ : ByteArray)), (by first | rfl | (simp; done) | (simp [*]; done)), (by first | rfl | (simp; done) | (simp [*]; done)), H', ⟨by have := HJ1.out; first | omega | exact Nat.le_refl _⟩, ⟨by repeat (first | (with_reducible first | exact HB.out | apply below_alloc | apply pw_below_drewN | apply below_drew1) | exact HB.out)⟩⟩
          · rw [if_neg c6] at H
            have c6b0 : decide (a0 < 0) = false := decide_eq_false c6
            clear c6
            (first | rw [c6b0] | (simp only [i64_w, i32_w]; rw [c6b0]) | skip)
            have H' := Aside0.mk H
            clear H
            go_wp2
            go_meet
            case rel => exact ⟨_, (a0), ((⟨#[]⟩ : ByteArray)), (by first | rfl | (simp; done) | (simp [*]; done)), (by first | rfl | (simp; done) | (simp [*]; done)), H', ⟨by have := HJ1.out; first | omega | exact Nat.le_refl _⟩, ⟨by repeat (first | (with_reducible first | exact HB.out | apply below_alloc | apply pw_below_drewN | apply below_drew1) | exact HB.out)⟩⟩
        case rest =>
          clear HC5
          try clear p2
          try clear c3
          try clear c3b0
          try clear c4
          try clear c5
          try clear c6
          try clear c6b0
          try clear p6
          try clear p2
          obtain ⟨kq, x0_4, x4_4, rfl, rfl, HA, HJ4, HB⟩ := hcut
          cases kq with
          | zero => exact absurd HA.out (by simp [clock_Span.j1])
          | succ kj4 =>
            have H := HA.out
            clear HA
            simp only [clock_Span.j1] at H
            replace H := Option.bind_eq_some_iff.mp H
            obtain ⟨t198, A70, H⟩ := H
            replace H : (if x4_4.size + t198.size ≤ 9223372036854775807 then (if (x4_4 ++ t198).size + 1 ≤ 9223372036854775807 then ((clock_two.f (Int.tmod (wrap64 (Int.tdiv x0_4 60)) 60)).bind fun t199 => (if ((x4_4 ++ t198) ++ (⟨#[58]⟩ : ByteArray)).size + t199.size ≤ 9223372036854775807 then (if (Int.tmod x0_4 60) = 0 then (some (((x4_4 ++ t198) ++ (⟨#[58]⟩ : ByteArray)) ++ t199, 0)) else ((clock_two.f (Int.tmod x0_4 60)).bind fun t200 => (if 1 + t200.size ≤ 9223372036854775807 then (if (((x4_4 ++ t198) ++ (⟨#[58]⟩ : ByteArray)) ++ t199).size + ((⟨#[58]⟩ : ByteArray) ++ t200).size ≤ 9223372036854775807 then (some ((((x4_4 ++ t198) ++ (⟨#[58]⟩ : ByteArray)) ++ t199) ++ ((⟨#[58]⟩ : ByteArray) ++ t200), 0)) else (none)) else (none)))) else (none))) else (none)) else (none)) = some (r1, r2) := H
            have A7 := Aside0.mk A70
            clear A70
            by_cases c8 : x4_4.size + t198.size ≤ 9223372036854775807
            · rw [if_pos c8] at H
              have c8b0 := eq_true c8
              have c8b1 : decide (x4_4.size + t198.size ≤ 9223372036854775807) = true := decide_eq_true c8
              try have c8b2 : (9223372036854775807 < x4_4.size + t198.size) = False := eq_false (Nat.not_lt.2 c8)
              by_cases c9 : (x4_4 ++ t198).size + 1 ≤ 9223372036854775807
              · rw [if_pos c9] at H
                have c9b0 := eq_true c9
                have c9b1 : decide ((x4_4 ++ t198).size + 1 ≤ 9223372036854775807) = true := decide_eq_true c9
                try have c9b2 : (9223372036854775807 < (x4_4 ++ t198).size + 1) = False := eq_false (Nat.not_lt.2 c9)
                have c9E : (x4_4.size + t198.size) + 1 ≤ 9223372036854775807 := by have h_ := c9; simp only [ByteArray.size_append, ba_size, List.size_toArray, List.length_cons, List.length_nil] at h_; omega
                have c9E0 := eq_true c9E
                have c9E1 : decide ((x4_4.size + t198.size) + 1 ≤ 9223372036854775807) = true := decide_eq_true c9E
                try have c9E2 : (9223372036854775807 < (x4_4.size + t198.size) + 1) = False := eq_false (Nat.not_lt.2 c9E)
                replace H := Option.bind_eq_some_iff.mp H
                obtain ⟨t199, A100, H⟩ := H
                replace H : (if ((x4_4 ++ t198) ++ (⟨#[58]⟩ : ByteArray)).size + t199.size ≤ 9223372036854775807 then (if (Int.tmod x0_4 60) = 0 then (some (((x4_4 ++ t198) ++ (⟨#[58]⟩ : ByteArray)) ++ t199, 0)) else ((clock_two.f (Int.tmod x0_4 60)).bind fun t200 => (if 1 + t200.size ≤ 9223372036854775807 then (if (((x4_4 ++ t198) ++ (⟨#[58]⟩ : ByteArray)) ++ t199).size + ((⟨#[58]⟩ : ByteArray) ++ t200).size ≤ 9223372036854775807 then (some ((((x4_4 ++ t198) ++ (⟨#[58]⟩ : ByteArray)) ++ t199) ++ ((⟨#[58]⟩ : ByteArray) ++ t200), 0)) else (none)) else (none)))) else (none)) = some (r1, r2) := H
                have A10 := Aside0.mk A100
                clear A100
                by_cases c11 : ((x4_4 ++ t198) ++ (⟨#[58]⟩ : ByteArray)).size + t199.size ≤ 9223372036854775807
                · rw [if_pos c11] at H
                  have c11b0 := eq_true c11
                  have c11b1 : decide (((x4_4 ++ t198) ++ (⟨#[58]⟩ : ByteArray)).size + t199.size ≤ 9223372036854775807) = true := decide_eq_true c11
                  try have c11b2 : (9223372036854775807 < ((x4_4 ++ t198) ++ (⟨#[58]⟩ : ByteArray)).size + t199.size) = False := eq_false (Nat.not_lt.2 c11)
                  have c11E : (x4_4.size + t198.size + 1) + t199.size ≤ 9223372036854775807 := by have h_ := c11; simp only [ByteArray.size_append, ba_size, List.size_toArray, List.length_cons, List.length_nil] at h_; omega
                  have c11E0 := eq_true c11E
                  have c11E1 : decide ((x4_4.size + t198.size + 1) + t199.size ≤ 9223372036854775807) = true := decide_eq_true c11E
                  try have c11E2 : (9223372036854775807 < (x4_4.size + t198.size + 1) + t199.size) = False := eq_false (Nat.not_lt.2 c11E)
                  by_cases c12 : (Int.tmod x0_4 60) = 0
                  · rw [if_pos c12] at H
                    have c12b0 : ((Int.tmod x0_4 60) == 0) = true := beq_iff_eq.mpr c12
                    have c12b1 : ((Int.tmod x0_4 60) != 0) = false := bne_eq_false_iff_eq.mpr c12
                    clear c12
                    simp only [Option.some.injEq, Prod.mk.injEq] at H
                    obtain ⟨rfl, rfl⟩ := H
                    go_wp2_with (first | ((with_reducible refine gate_callee (f := 57) rfl ?_); refine goesL_ (some 19) rfl rfl Tryz.func57 (by kernel_rfl) rfl #[.int .i64 (wrap64 (Int.tdiv x0_4 3600))] rfl (by (try simp only [List.map_toArray, List.map_cons, List.map_nil]); first | done | rfl | (simp only [List.length_drop, List.length_take]; rfl)) ?_; (with_reducible refine (strconv_Itoa.calls (wrap64 (Int.tdiv x0_4 3600)) t198 _ ?side1 A7.out).mono ?_); (case side1 => exact LaidT.sub HLA.out (by repeat (first | (with_reducible first | exact HB.out | apply below_alloc | apply pw_below_drewN | apply below_drew1) | exact HB.out))); rintro e w13 ⟨rfl, hb⟩; refine ⟨_, rfl, ?_⟩; have n0_ := Aside0.mk (below_step (by repeat (first | (with_reducible first | exact HB.out | apply below_alloc | apply pw_below_drewN | apply below_drew1) | exact HB.out)) hb); clear HB; have HB := n0_; clear n0_; (try clear hb); (try clear hb2); (try clear hk); (try clear hi)) | ((with_reducible refine gate_callee (f := 84) rfl ?_); refine goesL_ (some 25) rfl rfl Tryz.func84 (by kernel_rfl) rfl #[.int .i64 (Int.tmod (wrap64 (Int.tdiv x0_4 60)) 60)] rfl (by (try simp only [List.map_toArray, List.map_cons, List.map_nil]); first | done | rfl | (simp only [List.length_drop, List.length_take]; rfl)) ?_; (with_reducible refine (clock_two.calls (Int.tmod (wrap64 (Int.tdiv x0_4 60)) 60) t199 _ A10.out).mono ?_); rintro e w14 ⟨rfl, hb⟩; refine ⟨_, rfl, ?_⟩; have n0_ := Aside0.mk (below_step (by repeat (first | (with_reducible first | exact HB.out | apply below_alloc | apply pw_below_drewN | apply below_drew1) | exact HB.out)) hb); clear HB; have HB := n0_; clear n0_; (try clear hb); (try clear hb2); (try clear hk); (try clear hi)))
                    go_ret2
                    exact ⟨by first | rfl | (simp [errW_none, errW_some] <;> rfl) | (simp [*, errW_none, errW_some] <;> rfl), by repeat (first | (with_reducible first | exact HB.out | apply below_alloc | apply pw_below_drewN | apply below_drew1) | exact HB.out)⟩
                  · rw [if_neg c12] at H
                    have c12b0 : ((Int.tmod x0_4 60) == 0) = false := beq_eq_false_iff_ne.mpr c12
                    have c12b1 : ((Int.tmod x0_4 60) != 0) = true := bne_iff_ne.mpr c12
                    replace H := Option.bind_eq_some_iff.mp H
                    obtain ⟨t200, A150, H⟩ := H
                    replace H : (if 1 + t200.size ≤ 9223372036854775807 then (if (((x4_4 ++ t198) ++ (⟨#[58]⟩ : ByteArray)) ++ t199).size + ((⟨#[58]⟩ : ByteArray) ++ t200).size ≤ 9223372036854775807 then (some ((((x4_4 ++ t198) ++ (⟨#[58]⟩ : ByteArray)) ++ t199) ++ ((⟨#[58]⟩ : ByteArray) ++ t200), 0)) else (none)) else (none)) = some (r1, r2) := H
                    have A15 := Aside0.mk A150
                    clear A150
                    by_cases c16 : 1 + t200.size ≤ 9223372036854775807
                    · rw [if_pos c16] at H
                      have c16b0 := eq_true c16
                      have c16b1 : decide (1 + t200.size ≤ 9223372036854775807) = true := decide_eq_true c16
                      try have c16b2 : (9223372036854775807 < 1 + t200.size) = False := eq_false (Nat.not_lt.2 c16)
                      by_cases c17 : (((x4_4 ++ t198) ++ (⟨#[58]⟩ : ByteArray)) ++ t199).size + ((⟨#[58]⟩ : ByteArray) ++ t200).size ≤ 9223372036854775807
                      · rw [if_pos c17] at H
                        have c17b0 := eq_true c17
                        have c17b1 : decide ((((x4_4 ++ t198) ++ (⟨#[58]⟩ : ByteArray)) ++ t199).size + ((⟨#[58]⟩ : ByteArray) ++ t200).size ≤ 9223372036854775807) = true := decide_eq_true c17
                        try have c17b2 : (9223372036854775807 < (((x4_4 ++ t198) ++ (⟨#[58]⟩ : ByteArray)) ++ t199).size + ((⟨#[58]⟩ : ByteArray) ++ t200).size) = False := eq_false (Nat.not_lt.2 c17)
                        have c17E : (x4_4.size + t198.size + 1 + t199.size) + (1 + t200.size) ≤ 9223372036854775807 := by have h_ := c17; simp only [ByteArray.size_append, ba_size, List.size_toArray, List.length_cons, List.length_nil] at h_; omega
                        have c17E0 := eq_true c17E
                        have c17E1 : decide ((x4_4.size + t198.size + 1 + t199.size) + (1 + t200.size) ≤ 9223372036854775807) = true := decide_eq_true c17E
                        try have c17E2 : (9223372036854775807 < (x4_4.size + t198.size + 1 + t199.size) + (1 + t200.size)) = False := eq_false (Nat.not_lt.2 c17E)
                        simp only [Option.some.injEq, Prod.mk.injEq] at H
                        obtain ⟨rfl, rfl⟩ := H
                        go_wp2_with (first | ((with_reducible refine gate_callee (f := 57) rfl ?_); refine goesL_ (some 19) rfl rfl Tryz.func57 (by kernel_rfl) rfl #[.int .i64 (wrap64 (Int.tdiv x0_4 3600))] rfl (by (try simp only [List.map_toArray, List.map_cons, List.map_nil]); first | done | rfl | (simp only [List.length_drop, List.length_take]; rfl)) ?_; (with_reducible refine (strconv_Itoa.calls (wrap64 (Int.tdiv x0_4 3600)) t198 _ ?side1 A7.out).mono ?_); (case side1 => exact LaidT.sub HLA.out (by repeat (first | (with_reducible first | exact HB.out | apply below_alloc | apply pw_below_drewN | apply below_drew1) | exact HB.out))); rintro e w18 ⟨rfl, hb⟩; refine ⟨_, rfl, ?_⟩; have n0_ := Aside0.mk (below_step (by repeat (first | (with_reducible first | exact HB.out | apply below_alloc | apply pw_below_drewN | apply below_drew1) | exact HB.out)) hb); clear HB; have HB := n0_; clear n0_; (try clear hb); (try clear hb2); (try clear hk); (try clear hi)) | ((with_reducible refine gate_callee (f := 84) rfl ?_); refine goesL_ (some 25) rfl rfl Tryz.func84 (by kernel_rfl) rfl #[.int .i64 (Int.tmod (wrap64 (Int.tdiv x0_4 60)) 60)] rfl (by (try simp only [List.map_toArray, List.map_cons, List.map_nil]); first | done | rfl | (simp only [List.length_drop, List.length_take]; rfl)) ?_; (with_reducible refine (clock_two.calls (Int.tmod (wrap64 (Int.tdiv x0_4 60)) 60) t199 _ A10.out).mono ?_); rintro e w19 ⟨rfl, hb⟩; refine ⟨_, rfl, ?_⟩; have n0_ := Aside0.mk (below_step (by repeat (first | (with_reducible first | exact HB.out | apply below_alloc | apply pw_below_drewN | apply below_drew1) | exact HB.out)) hb); clear HB; have HB := n0_; clear n0_; (try clear hb); (try clear hb2); (try clear hk); (try clear hi)) | ((with_reducible refine gate_callee (f := 84) rfl ?_); refine goesL_ (some 33) rfl rfl Tryz.func84 (by kernel_rfl) rfl #[.int .i64 (Int.tmod x0_4 60)] rfl (by (try simp only [List.map_toArray, List.map_cons, List.map_nil]); first | done | rfl | (simp only [List.length_drop, List.length_take]; rfl)) ?_; (with_reducible refine (clock_two.calls (Int.tmod x0_4 60) t200 _ A15.out).mono ?_); rintro e w20 ⟨rfl, hb⟩; refine ⟨_, rfl, ?_⟩; have n0_ := Aside0.mk (below_step (by repeat (first | (with_reducible first | exact HB.out | apply below_alloc | apply pw_below_drewN | apply below_drew1) | exact HB.out)) hb); clear HB; have HB := n0_; clear n0_; (try clear hb); (try clear hb2); (try clear hk); (try clear hi)))
                        go_ret2
                        exact ⟨by first | rfl | (simp [errW_none, errW_some] <;> rfl) | (simp [*, errW_none, errW_some] <;> rfl), by repeat (first | (with_reducible first | exact HB.out | apply below_alloc | apply pw_below_drewN | apply below_drew1) | exact HB.out)⟩
                      · rw [if_neg c17] at H
                        exact absurd H (by simp)
                    · rw [if_neg c16] at H
                      exact absurd H (by simp)
                · rw [if_neg c11] at H
                  exact absurd H (by simp)
              · rw [if_neg c9] at H
                exact absurd H (by simp)
            · rw [if_neg c8] at H
              exact absurd H (by simp)
end Go.Proofs.YtmgnnplcnmhbaaaGreatDoor.PT
end
section
namespace Go.Proofs.YtmgnnplcnmhbaaaGreatDoor.PT
open Go.RowKit Go.Proofs.YtmgnnplcnmhbaaaGreatDoorW.PrintWords Go.Proofs.YtmgnnplcnmhbaaaGreatDoorW.PrintLast Go.Proofs.YtmgnnplcnmhbaaaGreatDoorW.PrintMore
set_option linter.unusedVariables false
set_option linter.unusedSimpArgs false
theorem split_of (s sep : ByteArray) (n : Nat) (l : List ByteArray) (hc : Lib.countB s sep = n) (hl : Lib.splitB sep 0 n s = l) (h1 : 1 ≤ sep.size ∧ s.size < 4294967281) (m : Int) (w : World) (hm : w.cell? ⟨0, 0, none⟩ = some (.int .i64 m)) :
    Calls Tryz.prog 18 #[.string s, .string sep] w fun e w' => e = .returned (.slice (some ⟨w.heap.size, 0, none⟩) (n + 1) (n + 1)) ∧ w' = w.alloc (.cells (l.map Value.string).toArray 9) := by
  have h := Tryz.strings_Split s sep m w h1.2 hm h1.1
  rw [hc, hl] at h
  exact h
theorem atoi_of (s : ByteArray) (v : Int) (hs : s.size ≤ 9223372036854775806) (h : Lib.atoiAll s.data.toList = .ok v) (W : World) : Calls Tryz.prog 65 #[.string s] W fun e w' => e = .returned (.tuple #[.int .i64 v, .nilIface]) ∧ Below W.heap.size W w' :=
  (Tryz.strconv_Atoi_ok s hs v h W).mono fun e w' ⟨h1, h2⟩ => ⟨h1, by
    rcases h2 with rfl | ⟨t, rfl⟩
    · exact Below.refl _ _
    · exact bytes_below (Below.refl _ _) (Nat.le_refl _) _ _⟩
set_option maxHeartbeats 4000000 in
set_option maxRecDepth 100000 in
theorem read_100.calls (w : World) (hL : LaidT w) : Calls Tryz.prog 68 #[.string ⟨#[49, 58, 48, 48]⟩] w fun e w' => e = .returned (.tuple #[.int .i64 3600, .int .i64 0]) ∧ Below w.heap.size w w' := by
  have HL := Aside0.mk hL
  obtain ⟨m, hm⟩ := hL.most
  have hcp : Calls Tryz.prog 69 #[.string ⟨#[49, 58, 48, 48]⟩, .string ⟨#[45]⟩] w fun e w' => e = .returned (.tuple #[.string ⟨#[49, 58, 48, 48]⟩, .bool false]) ∧ w' = w := (Tryz.strings_CutPrefix ⟨#[49, 58, 48, 48]⟩ ⟨#[45]⟩ w).mono fun e w' ⟨h1, h2⟩ => ⟨h1.trans (by kernel_rfl), h2⟩
  have hsp := split_of ⟨#[49, 58, 48, 48]⟩ ⟨#[58]⟩ 1 [⟨#[49]⟩, ⟨#[48, 48]⟩] (by decide +kernel) (by decide +kernel) (by decide) m
  have HSP := Aside0.mk hsp
  have HCP := Aside0.mk hcp
  have HM := Aside0.mk hm
  have h0 : ∀ W, Calls Tryz.prog 65 #[.string ⟨#[49]⟩] W fun e w' => e = .returned (.tuple #[.int .i64 1, .nilIface]) ∧ Below W.heap.size W w' := atoi_of ⟨#[49]⟩ 1 (by decide) (by decide +kernel)
  have h1 : ∀ W, Calls Tryz.prog 65 #[.string ⟨#[48, 48]⟩] W fun e w' => e = .returned (.tuple #[.int .i64 0, .nilIface]) ∧ Below W.heap.size W w' := atoi_of ⟨#[48, 48]⟩ 0 (by decide) (by decide +kernel)
  have H0 := Aside0.mk h0
  have H1 := Aside0.mk h1
  clear hL hm hsp hcp h0 h1
  have m0 : min (0 : Int) 3 = 0 := by decide
  have m1 : min (1 : Int) 3 = 1 := by decide
  have m2 : min (1 : Int) 1000 = 1 := by decide
  have m3 : min (0 : Int) 1000 = 0 := by decide
  go_enter Tryz.func68, Tryz.ntmps68
  go_wp2_with (first | (go_at_call 69; with_reducible refine HCP.out.mono ?_; rintro e w' ⟨rfl, hq⟩; have hq2 := hq.symm; clear hq; subst hq2) | (go_at_call 18; with_reducible refine (HSP.out _ HM.out).mono ?_; rintro e w2 ⟨rfl, hw2⟩; have HW2 := Aside0.mk hw2; clear hw2))
  have HX := Aside0.mk (heap_alloc_new w (.cells ([⟨#[49]⟩, ⟨#[48, 48]⟩].map Value.string).toArray 9))
  have HB := Aside0.mk (below_alloc (Below.refl w.heap.size w) (.cells ([⟨#[49]⟩, ⟨#[48, 48]⟩].map Value.string).toArray 9))
  rw [← HW2.out] at HX HB
  clear HW2 HSP HCP HM
  obtain ⟨b, hb⟩ : ∃ b, b = w.heap.size := ⟨_, rfl⟩
  rw [← hb] at HX ⊢
  have HBE := Aside0.mk hb
  clear hb
  have y0 : w2.cell? ⟨b, 0, none⟩ = some (.string ⟨#[49]⟩) := (blk_cell HX.out 0).trans rfl
  have y1 : w2.cell? ⟨b, 1, none⟩ = some (.string ⟨#[48, 48]⟩) := (blk_cell HX.out 1).trans rfl
  have hbl := blk_lt HX.out
  refine wp_loop_rounds 3 ?_
  rw [rounds_succ]
  go_wp2_with (go_at_call 65; with_reducible refine (H0.out _).mono ?_; rintro e w3 ⟨rfl, hb'⟩; have n1 := Aside0.mk (blk_below HX.out hb'); have n2 := Aside0.mk (below_then HB.out HB.out.size hb'); clear HX HB hb' y0 y1 hbl; have HX := n1; have HB := n2; clear n1 n2; have y1 : w3.cell? ⟨b, 1, none⟩ = some (.string ⟨#[48, 48]⟩) := (blk_cell HX.out 1).trans rfl; have hbl := blk_lt HX.out)
  rw [rounds_succ]
  go_wp2_with (go_at_call 65; with_reducible refine (H1.out _).mono ?_; rintro e w4 ⟨rfl, hb'⟩; have n2 := Aside0.mk (below_then (below_alloc HB.out _) (Nat.le_trans HB.out.size (by simp)) hb'); clear HX HB hb' y1 hbl; have HB := n2; clear n2)
  rw [rounds_succ]
  go_wp2_with (go_at_call 56; with_reducible refine (clock_Span.calls 40 3600 ⟨#[49, 58, 48, 48]⟩ 0 _ (HL.out.sub (below_alloc HB.out _)) (by decide +kernel)).mono ?_; rintro e w5 ⟨rfl, hb'⟩; have HB5 := Aside0.mk (below_then (below_alloc HB.out _) (Nat.le_trans HB.out.size (by simp)) hb'); clear hb')
  go_ret2
  exact ⟨rfl, HB5.out⟩
set_option maxHeartbeats 4000000 in
set_option maxRecDepth 100000 in
theorem read_000.calls (w : World) (hL : LaidT w) : Calls Tryz.prog 68 #[.string ⟨#[48, 58, 48, 48]⟩] w fun e w' => e = .returned (.tuple #[.int .i64 0, .int .i64 0]) ∧ Below w.heap.size w w' := by
  have HL := Aside0.mk hL
  obtain ⟨m, hm⟩ := hL.most
  have hcp : Calls Tryz.prog 69 #[.string ⟨#[48, 58, 48, 48]⟩, .string ⟨#[45]⟩] w fun e w' => e = .returned (.tuple #[.string ⟨#[48, 58, 48, 48]⟩, .bool false]) ∧ w' = w := (Tryz.strings_CutPrefix ⟨#[48, 58, 48, 48]⟩ ⟨#[45]⟩ w).mono fun e w' ⟨h1, h2⟩ => ⟨h1.trans (by kernel_rfl), h2⟩
  have hsp := split_of ⟨#[48, 58, 48, 48]⟩ ⟨#[58]⟩ 1 [⟨#[48]⟩, ⟨#[48, 48]⟩] (by decide +kernel) (by decide +kernel) (by decide) m
  have HSP := Aside0.mk hsp
  have HCP := Aside0.mk hcp
  have HM := Aside0.mk hm
  have h0 : ∀ W, Calls Tryz.prog 65 #[.string ⟨#[48]⟩] W fun e w' => e = .returned (.tuple #[.int .i64 0, .nilIface]) ∧ Below W.heap.size W w' := atoi_of ⟨#[48]⟩ 0 (by decide) (by decide +kernel)
  have h1 : ∀ W, Calls Tryz.prog 65 #[.string ⟨#[48, 48]⟩] W fun e w' => e = .returned (.tuple #[.int .i64 0, .nilIface]) ∧ Below W.heap.size W w' := atoi_of ⟨#[48, 48]⟩ 0 (by decide) (by decide +kernel)
  have H0 := Aside0.mk h0
  have H1 := Aside0.mk h1
  clear hL hm hsp hcp h0 h1
  have m0 : min (0 : Int) 3 = 0 := by decide
  have m1 : min (1 : Int) 3 = 1 := by decide
  have m2 : min (1 : Int) 1000 = 1 := by decide
  have m3 : min (0 : Int) 1000 = 0 := by decide
  go_enter Tryz.func68, Tryz.ntmps68
  go_wp2_with (first | (go_at_call 69; with_reducible refine HCP.out.mono ?_; rintro e w' ⟨rfl, hq⟩; have hq2 := hq.symm; clear hq; subst hq2) | (go_at_call 18; with_reducible refine (HSP.out _ HM.out).mono ?_; rintro e w2 ⟨rfl, hw2⟩; have HW2 := Aside0.mk hw2; clear hw2))
  have HX := Aside0.mk (heap_alloc_new w (.cells ([⟨#[48]⟩, ⟨#[48, 48]⟩].map Value.string).toArray 9))
  have HB := Aside0.mk (below_alloc (Below.refl w.heap.size w) (.cells ([⟨#[48]⟩, ⟨#[48, 48]⟩].map Value.string).toArray 9))
  rw [← HW2.out] at HX HB
  clear HW2 HSP HCP HM
  obtain ⟨b, hb⟩ : ∃ b, b = w.heap.size := ⟨_, rfl⟩
  rw [← hb] at HX ⊢
  have HBE := Aside0.mk hb
  clear hb
  have y0 : w2.cell? ⟨b, 0, none⟩ = some (.string ⟨#[48]⟩) := (blk_cell HX.out 0).trans rfl
  have y1 : w2.cell? ⟨b, 1, none⟩ = some (.string ⟨#[48, 48]⟩) := (blk_cell HX.out 1).trans rfl
  have hbl := blk_lt HX.out
  refine wp_loop_rounds 3 ?_
  rw [rounds_succ]
  go_wp2_with (go_at_call 65; with_reducible refine (H0.out _).mono ?_; rintro e w3 ⟨rfl, hb'⟩; have n1 := Aside0.mk (blk_below HX.out hb'); have n2 := Aside0.mk (below_then HB.out HB.out.size hb'); clear HX HB hb' y0 y1 hbl; have HX := n1; have HB := n2; clear n1 n2; have y1 : w3.cell? ⟨b, 1, none⟩ = some (.string ⟨#[48, 48]⟩) := (blk_cell HX.out 1).trans rfl; have hbl := blk_lt HX.out)
  rw [rounds_succ]
  go_wp2_with (go_at_call 65; with_reducible refine (H1.out _).mono ?_; rintro e w4 ⟨rfl, hb'⟩; have n2 := Aside0.mk (below_then (below_alloc HB.out _) (Nat.le_trans HB.out.size (by simp)) hb'); clear HX HB hb' y1 hbl; have HB := n2; clear n2)
  rw [rounds_succ]
  go_wp2_with (go_at_call 56; with_reducible refine (clock_Span.calls 40 0 ⟨#[48, 58, 48, 48]⟩ 0 _ (HL.out.sub (below_alloc HB.out _)) (by decide +kernel)).mono ?_; rintro e w5 ⟨rfl, hb'⟩; have HB5 := Aside0.mk (below_then (below_alloc HB.out _) (Nat.le_trans HB.out.size (by simp)) hb'); clear hb')
  go_ret2
  exact ⟨rfl, HB5.out⟩
end Go.Proofs.YtmgnnplcnmhbaaaGreatDoor.PT
end
section
namespace Go.Proofs.YtmgnnplcnmhbaaaGreatDoor.PT
open Go.RowKit Go.Proofs.YtmgnnplcnmhbaaaGreatDoorW.PrintWords Go.Proofs.YtmgnnplcnmhbaaaGreatDoorW.PrintLast Go.Proofs.YtmgnnplcnmhbaaaGreatDoorW.PrintMore
set_option linter.unusedVariables false
set_option linter.unusedSimpArgs false
structure But (w w' : World) (bad : Nat → Prop) : Prop where
  os : w'.os = w.os
  tape : w'.tape = w.tape
  output : w'.output = w.output
  size : w.heap.size ≤ w'.heap.size
  block : ∀ k, k < w.heap.size → ¬ bad k → w'.heap[k]? = w.heap[k]?
theorem But.refl (w : World) (bad : Nat → Prop) : But w w bad := ⟨rfl, rfl, rfl, Nat.le_refl _, fun _ _ _ => rfl⟩
theorem But.trans {a b c : World} {bad : Nat → Prop} (h : But a b bad) (k : But b c bad) : But a c bad :=
  ⟨k.os.trans h.os, k.tape.trans h.tape, k.output.trans h.output, Nat.le_trans h.size k.size, fun i hi hb => (k.block i (Nat.lt_of_lt_of_le hi h.size) hb).trans (h.block i hi hb)⟩
theorem But.of_below {w w' : World} (h : Below w.heap.size w w') (bad : Nat → Prop) : But w w' bad := ⟨h.os, h.tape, h.output, h.size, fun k hk _ => h.block k hk⟩
theorem But.mono {w w' : World} {bad bad' : Nat → Prop} (h : But w w' bad) (hb : ∀ k, bad k → bad' k) : But w w' bad' := ⟨h.os, h.tape, h.output, h.size, fun k hk hn => h.block k hk (fun hh => hn (hb k hh))⟩
theorem But.below {w w' : World} {bad : Nat → Prop} (h : But w w' bad) {B : Nat} (hB : B ≤ w.heap.size) (hbad : ∀ k, bad k → B ≤ k) : Below B w w' :=
  ⟨h.os, h.tape, h.output, h.size, fun k hk => h.block k (Nat.lt_of_lt_of_le hk hB) (fun hb => by have := hbad k hb; omega)⟩
theorem But.grown {w w' : World} {row : Option Nat} (h : w.grownBy w' row) {bad : Nat → Prop} (hb : ∀ k, some k = row → bad k) : But w w' bad := ⟨h.os, h.tape, h.output, h.size, fun k hk hn => h.block k hk (fun e => hn (hb k e))⟩
theorem But.setCell (w : World) (p : Addr) (v : Value) {bad : Nat → Prop} (hb : bad p.block) : But w (w.setCell p v) bad :=
  ⟨rfl, rfl, rfl, by simp [World.setCell], fun k _ hn => Below.heap_setCell w p v k (fun e => hn (e ▸ hb))⟩
end Go.Proofs.YtmgnnplcnmhbaaaGreatDoor.PT
end
