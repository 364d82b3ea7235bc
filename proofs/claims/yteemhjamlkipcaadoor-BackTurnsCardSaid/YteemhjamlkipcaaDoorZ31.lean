/- Part 31 of 34 of the proof of backTurns_holds. What it holds was printed or written for this claim, text by text, and merged. -/
import Derived.Test.YteemhjamlkipcaaDoorZ30
import Derived.Test.YteemhjamlkipcaaDoorZ29
import Derived.Test.YteemhjamlkipcaaDoorZ25
section
namespace Go.Proofs.YteemhjamlkipcaaDoor.PT
open Go.RowKit Go.Proofs.YteemhjamlkipcaaDoorW.PrintWords Go.Proofs.YteemhjamlkipcaaDoorW.PrintLast Go.Proofs.YteemhjamlkipcaaDoorW.PrintMore
set_option linter.unusedVariables false
set_option linter.unusedSimpArgs false
def nomAt (r : S59) : Int :=
  match day_Of.f 20 r.f1 r.f3 r.f4.f0 r.f4.f1 r.f4.f2 with
  | some p => wrap64 (wrap64 (86400 * p.1) + r.f5)
  | none => 0
def turnOf (r : S59) : S37 := ⟨nomAt r, r.f7, r.f8⟩
structure TurnsFit (l0 : List S59) (a1 : ByteArray) : Prop where
  ne : 0 < l0.length
  len : l0.length ≤ 1500
  name : ∀ i : Int, 0 ≤ i → i < l0.length → (rd_T59 l0 i).f0 = a1
  year : ∀ i : Int, 0 ≤ i → i < l0.length → (rd_T59 l0 i).f2 = (rd_T59 l0 i).f1 ∧ -1000000 ≤ (rd_T59 l0 i).f1 ∧ (rd_T59 l0 i).f1 ≤ 1000000
  by_ : ∀ i : Int, 0 ≤ i → i < l0.length → (rd_T59 l0 i).f6 = 2
  day : ∀ i : Int, 0 ≤ i → i < l0.length → ∃ p, day_Of.f 20 (rd_T59 l0 i).f1 (rd_T59 l0 i).f3 (rd_T59 l0 i).f4.f0 (rd_T59 l0 i).f4.f1 (rd_T59 l0 i).f4.f2 = some p
  rise : ∀ i : Int, 0 ≤ i → i + 1 < l0.length → nomAt (rd_T59 l0 i) < nomAt (rd_T59 l0 (i + 1))
theorem TurnsFit.iff (l0 : List S59) (a1 : ByteArray) : (0 < l0.length ∧ l0.length ≤ 1500 ∧ ∀ i : Nat, i < l0.length → (rd_T59 l0 (i : Int)).f0 = a1 ∧ ((rd_T59 l0 (i : Int)).f2 = (rd_T59 l0 (i : Int)).f1 ∧ -1000000 ≤ (rd_T59 l0 (i : Int)).f1 ∧ (rd_T59 l0 (i : Int)).f1 ≤ 1000000) ∧ (rd_T59 l0 (i : Int)).f6 = 2 ∧ (day_Of.f 20 (rd_T59 l0 (i : Int)).f1 (rd_T59 l0 (i : Int)).f3 (rd_T59 l0 (i : Int)).f4.f0 (rd_T59 l0 (i : Int)).f4.f1 (rd_T59 l0 (i : Int)).f4.f2).isSome = true ∧ (i + 1 < l0.length → nomAt (rd_T59 l0 (i : Int)) < nomAt (rd_T59 l0 ((i : Int) + 1)))) ↔ TurnsFit l0 a1 := by
  constructor
  · rintro ⟨h1, h2, h3⟩
    have h4 : ∀ i : Int, 0 ≤ i → i < l0.length → ((i.toNat : Nat) : Int) = i := fun i h0 _ => Int.toNat_of_nonneg h0
    refine ⟨h1, h2, fun i h0 hl => ?_, fun i h0 hl => ?_, fun i h0 hl => ?_, fun i h0 hl => ?_, fun i h0 hl => ?_⟩
    · have := (h3 i.toNat (by omega)).1
      rwa [h4 i h0 hl] at this
    · have := (h3 i.toNat (by omega)).2.1
      rwa [h4 i h0 hl] at this
    · have := (h3 i.toNat (by omega)).2.2.1
      rwa [h4 i h0 hl] at this
    · have := (h3 i.toNat (by omega)).2.2.2.1
      rw [h4 i h0 hl] at this
      exact Option.isSome_iff_exists.1 this
    · have := (h3 i.toNat (by omega)).2.2.2.2 (by omega)
      rwa [h4 i h0 (by omega)] at this
  · intro h
    refine ⟨h.ne, h.len, fun i hi => ⟨h.name _ (Int.natCast_nonneg _) (by omega), h.year _ (Int.natCast_nonneg _) (by omega), h.by_ _ (Int.natCast_nonneg _) (by omega), Option.isSome_iff_exists.2 (h.day _ (Int.natCast_nonneg _) (by omega)), fun hj => h.rise _ (Int.natCast_nonneg _) (by omega)⟩⟩
instance (l0 : List S59) (a1 : ByteArray) : Decidable (TurnsFit l0 a1) := decidable_of_iff _ (TurnsFit.iff l0 a1)
def turns_Make.f (l0 : List S59) (a1 : ByteArray) (a2 : Int) : Option (List S37 × Int) :=
  if TurnsFit l0 a1 then some (l0.map turnOf, 0) else none
def ruleCells (r : S59) : Obj := .cells #[.string r.f0, .int .i64 r.f1, .int .i64 r.f2, .int .i64 r.f3, .int .i64 r.f4.f0, .int .i64 r.f4.f1, .int .i64 r.f4.f2, .int .i64 r.f5, .int .i64 r.f6, .int .i64 r.f7, .string r.f8] 59 (0, 0)
structure NomOk (W : World) (base : Nat) (ns : List SN) (l0 : List S59) (k : Nat) : Prop where
  len : ns.length = k
  at_ : ∀ i : Int, 0 ≤ i → i < k → (rd_N ns i).f0 = nomAt (rd_T59 l0 i)
  rule : ∀ i : Int, 0 ≤ i → i < k → ∃ g, (rd_N ns i).f1 = some ⟨g, 0, none⟩ ∧ base ≤ g ∧ W.heap[g]? = some (ruleCells (rd_T59 l0 i))
theorem NomOk.nil (W : World) (base : Nat) (l0 : List S59) : NomOk W base [] l0 0 := ⟨rfl, fun i h0 h1 => by omega, fun i h0 h1 => by omega⟩
theorem NomOk.below {W W' : World} {base : Nat} {ns : List SN} {l0 : List S59} {k : Nat} (h : NomOk W base ns l0 k) (hb : Below W.heap.size W W') : NomOk W' base ns l0 k :=
  ⟨h.len, h.at_, fun i h0 h1 => by
    obtain ⟨g, e, hg, hc⟩ := h.rule i h0 h1
    exact ⟨g, e, hg, (hb.block g (Array.getElem?_eq_some_iff.1 hc).1).trans hc⟩⟩
theorem NomOk.grown {W W' : World} {base : Nat} {ns : List SN} {l0 : List S59} {k : Nat} (h : NomOk W base ns l0 k) {v : Value} (hg : W.grownBy W' v.ownBlock) (hn : ∀ g r, W.heap[g]? = some (ruleCells r) → some g ≠ v.ownBlock) : NomOk W' base ns l0 k :=
  ⟨h.len, h.at_, fun i h0 h1 => by
    obtain ⟨g, e, hg', hc⟩ := h.rule i h0 h1
    exact ⟨g, e, hg', (hg.block g (Array.getElem?_eq_some_iff.1 hc).1 (hn g _ hc)).trans hc⟩⟩
theorem rd_N_append_lt (ns : List SN) (x : SN) (i : Int) (h0 : 0 ≤ i) (h1 : i < ns.length) : rd_N (ns ++ [x]) i = rd_N ns i := by
  unfold rd_N
  rw [List.getD_eq_getElem?_getD, List.getD_eq_getElem?_getD, List.getElem?_append_left (by omega)]
theorem rd_N_append_eq (ns : List SN) (x : SN) (i : Int) (h1 : i = ns.length) : rd_N (ns ++ [x]) i = x := by
  subst h1
  unfold rd_N
  rw [List.getD_eq_getElem?_getD, Int.toNat_natCast, List.getElem?_append_right (Nat.le_refl _)]
  simp
theorem NomOk.snoc {W : World} {base : Nat} {ns : List SN} {l0 : List S59} {k : Nat} (h : NomOk W base ns l0 k) (g : Nat) (hb : base ≤ g) (hc : W.heap[g]? = some (ruleCells (rd_T59 l0 (k : Int)))) : NomOk W base (ns ++ [⟨nomAt (rd_T59 l0 (k : Int)), some ⟨g, 0, none⟩⟩]) l0 (k + 1) :=
  ⟨by rw [List.length_append, h.len]; rfl, fun i h0 h1 => by
    by_cases e : i = (k : Int)
    · rw [rd_N_append_eq _ _ _ (by rw [e, h.len]), e]
    · rw [rd_N_append_lt _ _ _ h0 (by rw [h.len]; omega)]
      exact h.at_ i h0 (by omega), fun i h0 h1 => by
    by_cases e : i = (k : Int)
    · rw [rd_N_append_eq _ _ _ (by rw [e, h.len]), e]
      exact ⟨g, rfl, hb, hc⟩
    · rw [rd_N_append_lt _ _ _ h0 (by rw [h.len]; omega)]
      exact h.rule i h0 (by omega)⟩
theorem rising_of (f : Int → Int) (n : Int) (h : ∀ i : Int, 0 ≤ i → i + 1 < n → f i < f (i + 1)) : ∀ (d : Nat) (i : Int), 0 ≤ i → i + d < n → f i ≤ f (i + d)
  | 0, i, _, _ => by simp
  | d + 1, i, h0, h1 => by
    have h2 := rising_of f n h d i h0 (by omega)
    have h3 := h (i + d) (by omega) (by omega)
    have e : i + ((d + 1 : Nat) : Int) = i + d + 1 := by omega
    rw [e]
    omega
theorem NomOk.rising {W : World} {base : Nat} {ns : List SN} {l0 : List S59} {a1 : ByteArray} (hf : TurnsFit l0 a1) (h : NomOk W base ns l0 l0.length) : Rising ns := by
  intro i j h0 h1 h2
  have hl := h.len
  rw [h.at_ i h0 (by omega), h.at_ j (by omega) (by omega)]
  have := rising_of (fun i => nomAt (rd_T59 l0 i)) l0.length hf.rise (j - i).toNat i h0 (by omega)
  have e : i + ((j - i).toNat : Int) = j := by omega
  rw [e] at this
  exact this
theorem infoTurn : (Tryd.prog.info? 37).map (fun i => (i.zero, i.size, i.bytes)) = some (some (.agg #[.int .i64 0, .int .i64 0, .string ⟨#[]⟩]), 3, 32) := by kernel_rfl
theorem rd_turn (l0 : List S59) (k m : Nat) (h : m < k) (hk : k ≤ l0.length) : rd_T37 ((l0.take k).map turnOf) (m : Int) = turnOf (rd_T59 l0 (m : Int)) := by
  unfold rd_T37 rd_T59
  rw [List.getD_eq_getElem?_getD, List.getD_eq_getElem?_getD, Int.toNat_natCast, List.getElem?_map, List.getElem?_take, if_pos h, List.getElem?_eq_getElem (by omega)]
  rfl
theorem snoc_turn (l0 : List S59) (k : Nat) (hk : k < l0.length) : (l0.take k).map turnOf ++ [turnOf (rd_T59 l0 (k : Int))] = (l0.take (k + 1)).map turnOf := by
  have e : rd_T59 l0 (k : Int) = l0[k] := by
    unfold rd_T59
    rw [List.getD_eq_getElem?_getD, Int.toNat_natCast, List.getElem?_eq_getElem hk]
    rfl
  rw [e, List.take_add_one, List.getElem?_eq_getElem hk, List.map_append]
  rfl
theorem infoN : (Tryd.prog.info? 84).map (fun i => (i.zero, i.size, i.bytes)) = some (some (.agg #[.int .i64 0, .pointer none]), 2, 16) := by kernel_rfl
set_option maxHeartbeats 1000000 in
set_option maxRecDepth 100000 in
theorem turns_Make.calls (A0 : Option Addr) (c0 : Nat) (l0 : List S59) (a1 : ByteArray) (a2 : Int) (r1 : List S37) (r2 : Int) (w : World) (hr0 : Kd.C k59 w A0 l0.length l0) (hc0 : l0.length ≤ c0) (h : turns_Make.f l0 a1 a2 = some (r1, r2)) :
    Calls Tryd.prog 15 #[.slice A0 l0.length c0, .string a1, .int .i64 a2] w fun e w' => ∃ v0_ : Value, e = .returned (.tuple #[v0_, .int .i64 r2]) ∧ Kd.R k37 37 w' w.heap.size (fun _ => True) v0_ r1 ∧ Below w.heap.size w w' := by
  have hu59 := Tryd.underlying59
  have hu84 := Tryd.underlying84
  have hu37 := Tryd.underlying37
  unfold turns_Make.f at h
  split at h
  case isFalse => cases h
  case isTrue hf =>
  obtain ⟨rfl, rfl⟩ : _ ∧ _ := by simpa only [Option.some.injEq, Prod.mk.injEq] using h
  clear h
  have HF := Aside0.mk hf
  have HR := Aside0.mk hr0
  have hln := hf.len
  have hl0 := hf.ne
  clear hf hr0
  go_enter Tryd.func15, Tryd.ntmps15
  go_wp2_with fail
  go_loopw [8, 9, 10, 23] (fun s8 s9 s10 s23 wr => ∃ (k : Nat) (ns : List SN), s23 = .int .i64 k ∧ s9 = .int .i64 k ∧ s10 = .bool (decide (0 < k)) ∧ k ≤ l0.length ∧ Aside0 (Kd.R kN 84 wr w.heap.size (fun _ => True) s8 ns) ∧ Aside0 (NomOk wr w.heap.size ns l0 k) ∧ Aside0 (Below w.heap.size w wr)) (fun _ _ _ i _ => l0.length - (intOf i).toNat)
  case atStart => exact ⟨0, [], rfl, rfl, rfl, Nat.zero_le _, ⟨Kd.R_nil _ _ _ _ _⟩, ⟨NomOk.nil _ _ _⟩, ⟨Below.refl _ _⟩⟩
  case round =>
    obtain ⟨k, ns, rfl, rfl, rfl, hk, HN, HM, HB⟩ := hrel
    by_cases hlt : k < l0.length
    · have hk0 : (0 : Int) ≤ (k : Int) := Int.natCast_nonneg _
      have hk1 : (k : Int) < (l0.length : Int) := by omega
      obtain ⟨ac, e, p0, p1, p2, p3, p4, p5, p6, p7, p8, p9, p10⟩ := at_T59 (Kd.C_below HR.out HB.out) (k : Int) hk0 hk1
      cases e
      rw [Int.toNat_natCast] at p0 p1 p2 p3 p4 p5 p6 p7 p8 p9 p10
      have hcl := World.block_lt_of_cell? _ _ p0
      have q0 := HF.out.name (k : Int) hk0 hk1
      have q1 := HF.out.year (k : Int) hk0 hk1
      have q2 := HF.out.by_ (k : Int) hk0 hk1
      obtain ⟨r, hr⟩ : ∃ r, r = rd_T59 l0 (k : Int) := ⟨_, rfl⟩
      obtain ⟨⟨n1, n2⟩, hd⟩ := HF.out.day (k : Int) hk0 hk1
      simp only [← hr] at p0 p1 p2 p3 p4 p5 p6 p7 p8 p9 p10 q0 q1 q2 hd
      obtain ⟨nm, fr, tw, mo, ⟨dk, dw, dn⟩, aw, bw, sv, le⟩ := r
      obtain ⟨q1, q3, q4⟩ := q1
      dsimp only at p0 p1 p2 p3 p4 p5 p6 p7 p8 p9 p10 q0 q1 q2 q3 q4 hd
      subst q0 q1 q2
      have HRr := Aside0.mk hr
      have hnom : nomAt ⟨nm, tw, tw, mo, ⟨dk, dw, dn⟩, aw, 2, sv, le⟩ = wrap64 (wrap64 (86400 * n1) + aw) := by
        unfold nomAt
        dsimp only
        rw [hd]
      have HNOM := Aside0.mk hnom
      have HD := Aside0.mk hd
      clear hr hnom hd
      have hyr : wrap64 ((k : Int) + 1) = (k : Int) + 1 := IntWalk.wrap64_in _ (by omega)
      go_wp2_with fail
      have hb2 := below_alloc (Below.refl wr.heap.size wr) (Obj.cells #[.string nm, .int .i64 tw, .int .i64 tw, .int .i64 mo, .int .i64 dk, .int .i64 dw, .int .i64 dn, .int .i64 aw, .int .i64 2, .int .i64 sv, .string le] 59)
      have HG2 : Aside0 ((wr.alloc (Obj.cells #[.string nm, .int .i64 tw, .int .i64 tw, .int .i64 mo, .int .i64 dk, .int .i64 dw, .int .i64 dn, .int .i64 aw, .int .i64 2, .int .i64 sv, .string le] 59)).heap[wr.heap.size]? = some (ruleCells ⟨nm, tw, tw, mo, ⟨dk, dw, dn⟩, aw, 2, sv, le⟩)) := ⟨heap_alloc_new wr _⟩
      have HN2 := Aside0.mk (Kd.R_below HN.out hb2)
      have HM2 := Aside0.mk (HM.out.below hb2)
      have HB2 := Aside0.mk (below_then HB.out HB.out.size hb2)
      have hge : w.heap.size ≤ wr.heap.size := HB.out.size
      clear hb2 HN HM HB p0 p1 p2 p3 p4 p5 p6 p7 p8 p9 p10 hcl
      generalize (wr.alloc (Obj.cells #[.string nm, .int .i64 tw, .int .i64 tw, .int .i64 mo, .int .i64 dk, .int .i64 dw, .int .i64 dn, .int .i64 aw, .int .i64 2, .int .i64 sv, .string le] 59)) = w2 at HG2 HN2 HM2 HB2 ⊢
      generalize wr.heap.size = g at HG2 hge ⊢
      by_cases hmost : 1500 < (k : Int) + 1
      · omega
      have hmost' : decide (1500 < (k : Int) + 1) = false := decide_eq_false hmost
      rw [hmost']
      clear hmost'
      go_loopw [8, 13] (fun s8 s13 w3 => ∃ (y : Int) (ms : List SN), s13 = .int .i64 y ∧ ((y = tw ∧ ms = ns) ∨ (y = tw + 1 ∧ ms = ns ++ [⟨nomAt ⟨nm, tw, tw, mo, ⟨dk, dw, dn⟩, aw, 2, sv, le⟩, some ⟨g, 0, none⟩⟩])) ∧ Aside0 (Kd.R kN 84 w3 w.heap.size (fun _ => True) s8 ms) ∧ Aside0 (NomOk w3 w.heap.size ns l0 k) ∧ Aside0 (w3.heap[g]? = some (ruleCells ⟨nm, tw, tw, mo, ⟨dk, dw, dn⟩, aw, 2, sv, le⟩)) ∧ Aside0 (Below w.heap.size w w3)) (fun _ y _ => (tw + 1 - intOf y).toNat)
      case atStart => exact ⟨tw, ns, rfl, .inl ⟨rfl, rfl⟩, HN2, HM2, HG2, HB2⟩
      case round =>
        obtain ⟨y, ms, rfl, hy, HN3, HM3, HG3, HB3⟩ := hrel
        clear HN2 HM2 HG2 HB2
        have z1 : wr.cell? ⟨g, 1, none⟩ = some (.int .i64 tw) := (blk_cell HG3.out 1).trans rfl
        have z2 : wr.cell? ⟨g, 2, none⟩ = some (.int .i64 tw) := (blk_cell HG3.out 2).trans rfl
        have z3 : wr.cell? ⟨g, 3, none⟩ = some (.int .i64 mo) := (blk_cell HG3.out 3).trans rfl
        have z4 : wr.cell? ⟨g, 4, none⟩ = some (.int .i64 dk) := (blk_cell HG3.out 4).trans rfl
        have z5 : wr.cell? ⟨g, 5, none⟩ = some (.int .i64 dw) := (blk_cell HG3.out 5).trans rfl
        have z6 : wr.cell? ⟨g, 6, none⟩ = some (.int .i64 dn) := (blk_cell HG3.out 6).trans rfl
        have z7 : wr.cell? ⟨g, 7, none⟩ = some (.int .i64 aw) := (blk_cell HG3.out 7).trans rfl
        rcases hy with ⟨rfl, rfl⟩ | ⟨rfl, rfl⟩
        · have hgl := (Array.getElem?_eq_some_iff.1 HG3.out).1
          go_wp2_with (first | (go_at_call 26; refine (day_Of.calls 20 y mo dk dw dn n1 n2 _ HD.out).mono ?_; rintro e w4 ⟨rfl, hb4⟩; have HN4 := Aside0.mk (Kd.R_below HN3.out hb4); have HM4 := Aside0.mk (HM3.out.below hb4); have HG4 := Aside0.mk ((hb4.block g hgl).trans HG3.out); have HB4 := Aside0.mk (below_then HB3.out HB3.out.size hb4); clear HN3 HM3 HG3 HB3 hb4 hgl z1 z2 z3 z4 z5 z6 z7; have z7 : w4.cell? ⟨g, 7, none⟩ = some (.int .i64 aw) := (blk_cell HG4.out 7).trans rfl) | ((with_reducible refine gate_builtin (b := .append) (xs := #[.tmp 58, .tmp 65]) rfl ?_); at_builtin; refine Kd.R_append kN (w0 := w) w.heap.size rfl (.tmp 58) (.tmp 65) 79 84 (.agg #[.int .i64 0, .pointer none]) 16 rfl Tryd.underlying79 infoN rfl (by decide) (by omega) u8 ms ⟨wrap64 (wrap64 (86400 * n1) + aw), some ⟨g, 0, none⟩⟩ [.int .i64 (wrap64 (wrap64 (86400 * n1) + aw)), .pointer (some ⟨g, 0, none⟩)] (fun _ => True) (fun _ => False) rfl rfl ?aP (fun _ hk => hk.elim) ?aF ?aO ?aB ?aS ?aL ?_; (case aP => exact kN_mkM _ _ _ ⟨wrap64 (wrap64 (86400 * n1) + aw), some ⟨g, 0, none⟩⟩); (case aB => exact HB4.out); (case aF => exact (fun _ _ => trivial)); (case aO => exact HN4.out); (case aS => exact HB4.out.size); (case aL => have := HM4.out.len; omega); intro v5 w5 ho hb5 hg5 hat; have HN5 := Aside0.mk ho; have HM5 := Aside0.mk (HM4.out.grown hg5 (fun q rr hq => Kd.R_ne HN4.out hq (by decide))); have HG5 := Aside0.mk (blk_grown HG4.out hg5 (Kd.R_ne HN4.out HG4.out (by decide))); have HB5 := Aside0.mk hb5; clear HN4 HM4 HG4 HB4 ho hb5 hg5 hat z7))
          go_roundw
          case rel => exact ⟨y + 1, ms ++ [⟨nomAt ⟨nm, y, y, mo, ⟨dk, dw, dn⟩, aw, 2, sv, le⟩, some ⟨g, 0, none⟩⟩], rfl, .inr ⟨rfl, rfl⟩, ⟨by rw [HNOM.out]; exact HN5.out⟩, HM5, HG5, HB5⟩
          case measure =>
            simp [intOf]
            try omega
        · go_wp2_with fail
          go_roundw
          case rel => exact ⟨k + 1, ns ++ [⟨nomAt ⟨nm, tw, tw, mo, ⟨dk, dw, dn⟩, aw, 2, sv, le⟩, some ⟨g, 0, none⟩⟩], rfl, rfl, by simp, by omega, HN3, ⟨by
            have hs := HM3.out.snoc g hge (by rw [← HRr.out]; exact HG3.out)
            rw [← HRr.out] at hs
            exact hs⟩, HB3⟩
          case measure =>
            simp [intOf]
            try omega
    · have hkl : k = l0.length := by omega
      subst hkl
      have hl1 : decide (0 < l0.length) = true := decide_eq_true hl0
      have hl2 : decide (1500 < (l0.length : Int)) = false := decide_eq_false (by omega)
      obtain ⟨Ao, co, hvo, hco, hro⟩ := Kd.R_reads HN.out
      subst hvo
      have HRO := Aside0.mk hro
      clear hro
      have hnl := HM.out.len
      have HSO := Aside0.mk (turns_sort.calls Ao co ns (by rw [hnl]; exact Nat.le_trans hln (by decide)) (HM.out.rising HF.out) wr HRO.out)
      have HNL := Aside0.mk hnl
      clear hnl
      go_wp2_with (go_at_call 27; refine (HSO.out).mono ?_; rintro e w1 ⟨rfl, hb1⟩; have HRO1 := Aside0.mk (Kd.C_below HRO.out hb1); have HM1 := Aside0.mk (HM.out.below hb1); have HB1 := Aside0.mk (below_then HB.out HB.out.size hb1); clear HRO HN HM HB hb1 HSO)
      go_loopw [16, 17, 78] (fun s16 s17 s78 wr => ∃ (k : Nat) (sv : Int), s78 = .int .i64 k ∧ s17 = .int .i64 sv ∧ k ≤ l0.length ∧ Aside0 (Kd.R k37 37 wr w1.heap.size (fun _ => True) s16 ((l0.take k).map turnOf)) ∧ Aside0 (Below w1.heap.size w1 wr)) (fun _ _ i _ => l0.length - (intOf i).toNat)
      case atStart => exact ⟨0, 0, rfl, rfl, Nat.zero_le _, ⟨Kd.R_nil _ _ _ _ _⟩, ⟨Below.refl _ _⟩⟩
      case round =>
        obtain ⟨k, sv0, rfl, rfl, hk, HO, HC⟩ := hrel
        obtain ⟨out, hout⟩ : ∃ out, out = (l0.take k).map turnOf := ⟨_, rfl⟩
        have hol : out.length = k := by
          rw [hout, List.length_map, List.length_take]
          exact Nat.min_eq_left hk
        rw [← hout] at HO
        obtain ⟨Au, cu, hvu, hcu, _⟩ := Kd.R_reads HO.out
        subst hvu
        have HOL := Aside0.mk hol
        have HOUT := Aside0.mk hout
        clear hol hout
        by_cases hlt : k < l0.length
        · have hk0 : (0 : Int) ≤ (k : Int) := Int.natCast_nonneg _
          have hk1 : (k : Int) < (ns.length : Int) := by rw [HNL.out]; omega
          have hk2 : (k : Int) < (l0.length : Int) := by omega
          obtain ⟨ac, e, p0, p1⟩ := at_N (Kd.C_below HRO1.out HC.out) (k : Int) hk0 hk1
          cases e
          rw [Int.toNat_natCast] at p0 p1
          have hcl := World.block_lt_of_cell? _ _ p0
          obtain ⟨g, hg, hgb, hgc⟩ := HM1.out.rule (k : Int) hk0 hk2
          have HG : Aside0 (wr.heap[g]? = some (ruleCells (rd_T59 l0 (k : Int)))) := ⟨(HC.out.block g (Array.getElem?_eq_some_iff.1 hgc).1).trans hgc⟩
          have q2 := HF.out.by_ (k : Int) hk0 hk2
          have q3 := HM1.out.at_ (k : Int) hk0 hk2
          rw [hg] at p1
          rw [q3] at p0
          clear hgc hg q3
          obtain ⟨r, hr⟩ : ∃ r, r = rd_T59 l0 (k : Int) := ⟨_, rfl⟩
          simp only [← hr] at p0 q2 HG
          obtain ⟨aw, hat⟩ : ∃ a, a = nomAt r := ⟨_, rfl⟩
          rw [← hat] at p0
          have HRr := Aside0.mk hr
          have HAT := Aside0.mk hat
          clear hr hat
          obtain ⟨nm, fr, tw, mo, ⟨dk, dw, dn⟩, ar, bw, sv, le⟩ := r
          dsimp only at q2
          subst q2
          go_wp2_with fail
          have hb2 := below_alloc (Below.refl wr.heap.size wr) (Obj.cells #[.int .i64 aw, .pointer (some ⟨g, 0, none⟩)] 84)
          have HV2 := Aside0.mk (heap_alloc_new wr (Obj.cells #[.int .i64 aw, .pointer (some ⟨g, 0, none⟩)] 84))
          have HG2 := Aside0.mk ((hb2.block g (Array.getElem?_eq_some_iff.1 HG.out).1).trans HG.out)
          have HO2 := Aside0.mk (Kd.R_below HO.out hb2)
          have HC2 := Aside0.mk (below_then HC.out HC.out.size hb2)
          have hge : w1.heap.size ≤ wr.heap.size := HC.out.size
          clear hb2 HG HO HC p0 p1 hcl
          generalize wr.alloc (Obj.cells #[.int .i64 aw, .pointer (some ⟨g, 0, none⟩)] 84) = w2 at HV2 HG2 HO2 HC2 ⊢
          generalize wr.heap.size = h at HV2 hge ⊢
          refine start_ (n := 15) (S := fun w' => w'.cell? ⟨h, 0, none⟩ = some (.int .i64 aw) ∧ w'.cell? ⟨h, 1, none⟩ = some (.pointer (some ⟨g, 0, none⟩)) ∧ w'.cell? ⟨g, 9, none⟩ = some (.int .i64 sv) ∧ w'.cell? ⟨g, 10, none⟩ = some (.string le)) (ds := [14]) #[false, false, false, false, false, false, false, false, false, false, false, false, false, false, false] (by kernel_rfl) rfl rfl ⟨(blk_cell HV2.out 0).trans rfl, (blk_cell HV2.out 1).trans rfl, (blk_cell HG2.out 9).trans rfl, (blk_cell HG2.out 10).trans rfl⟩ (fun hHeld => ?_)
          have HV3 := Aside0.mk (show w2.drew.heap[h]? = _ from HV2.out)
          have HG3 := Aside0.mk (show w2.drew.heap[g]? = _ from HG2.out)
          have HO3 := Aside0.mk (Kd.R_below HO2.out (below_drew (Below.refl _ _)))
          have HC3 := Aside0.mk (below_then HC2.out HC2.out.size (below_drew (Below.refl _ _)))
          clear HV2 HG2 HO2 HC2
          generalize w2.drew = w3 at HV3 HG3 HO3 HC3 hHeld ⊢
          refine pure_ (i := 0) (N := (some 83)) (v := ?_) (a' := ?_) #[true, false, false, false, false, false, false, false, false, false, false, false, false, false, false] rfl rfl (by kernel_rfl) (fun _ _ _ h => h) (Or.inl ⟨by rfl, ?_⟩) ?_ ?_
          rotate_left
          · intro w'
            go_simp
            with_reducible rfl
          rotate_left
          · simp only [Act.put, List.setIfInBounds_toArray, List.set_cons_zero, List.set_cons_succ, i64_w, i32_w]
            rfl
          refine take_ (i := 1) (N := (some 84)) (v := ?_) (a' := ?_) #[true, true, false, false, false, false, false, false, false, false, false, false, false, false, false] rfl rfl (by kernel_rfl) (fun _ _ _ h => h) (Or.inl ⟨by rfl, ?_⟩) hHeld ?_ ?_
          rotate_left
          · rintro w' ⟨s0, s1, s2, s3⟩
            go_simp
            with_reducible rfl
          rotate_left
          · simp only [Act.put, List.setIfInBounds_toArray, List.set_cons_zero, List.set_cons_succ, i64_w, i32_w]
            rfl
          refine pure_ (i := 2) (N := (some 85)) (v := ?_) (a' := ?_) #[true, true, true, false, false, false, false, false, false, false, false, false, false, false, false] rfl rfl (by kernel_rfl) (fun _ _ _ h => h) (Or.inl ⟨by rfl, ?_⟩) ?_ ?_
          rotate_left
          · intro w'
            go_simp
            with_reducible rfl
          rotate_left
          · simp only [Act.put, List.setIfInBounds_toArray, List.set_cons_zero, List.set_cons_succ, i64_w, i32_w]
            rfl
          refine take_ (i := 3) (N := (some 86)) (v := ?_) (a' := ?_) #[true, true, true, true, false, false, false, false, false, false, false, false, false, false, false] rfl rfl (by kernel_rfl) (fun _ _ _ h => h) (Or.inl ⟨by rfl, ?_⟩) hHeld ?_ ?_
          rotate_left
          · rintro w' ⟨s0, s1, s2, s3⟩
            go_simp
            with_reducible rfl
          rotate_left
          · simp only [Act.put, List.setIfInBounds_toArray, List.set_cons_zero, List.set_cons_succ, i64_w, i32_w]
            rfl
          refine pure_ (i := 4) (N := (some 87)) (v := ?_) (a' := ?_) #[true, true, true, true, true, false, false, false, false, false, false, false, false, false, false] rfl rfl (by kernel_rfl) (fun _ _ _ h => h) (Or.inl ⟨by rfl, ?_⟩) ?_ ?_
          rotate_left
          · intro w'
            go_simp
            with_reducible rfl
          rotate_left
          · simp only [Act.put, List.setIfInBounds_toArray, List.set_cons_zero, List.set_cons_succ, i64_w, i32_w]
            rfl
          refine pure_ (i := 5) (N := (some 88)) (v := ?_) (a' := ?_) #[true, true, true, true, true, true, false, false, false, false, false, false, false, false, false] rfl rfl (by kernel_rfl) (fun _ _ _ h => h) (Or.inl ⟨by rfl, ?_⟩) ?_ ?_
          rotate_left
          · intro w'
            go_simp
            with_reducible rfl
          rotate_left
          · simp only [Act.put, List.setIfInBounds_toArray, List.set_cons_zero, List.set_cons_succ, i64_w, i32_w]
            rfl
          refine take_ (i := 6) (N := (some 89)) (v := ?_) (a' := ?_) #[true, true, true, true, true, true, true, false, false, false, false, false, false, false, false] rfl rfl (by kernel_rfl) (fun _ _ _ h => h) (Or.inl ⟨by rfl, ?_⟩) hHeld ?_ ?_
          rotate_left
          · rintro w' ⟨s0, s1, s2, s3⟩
            go_simp
            with_reducible rfl
          rotate_left
          · simp only [Act.put, List.setIfInBounds_toArray, List.set_cons_zero, List.set_cons_succ, i64_w, i32_w]
            rfl
          refine pure_ (i := 7) (N := (some 90)) (v := ?_) (a' := ?_) #[true, true, true, true, true, true, true, true, false, false, false, false, false, false, false] rfl rfl (by kernel_rfl) (fun _ _ _ h => h) (Or.inl ⟨by rfl, ?_⟩) ?_ ?_
          rotate_left
          · intro w'
            go_simp
            with_reducible rfl
          rotate_left
          · simp only [Act.put, List.setIfInBounds_toArray, List.set_cons_zero, List.set_cons_succ, i64_w, i32_w]
            rfl
          refine take_ (i := 8) (N := (some 91)) (v := ?_) (a' := ?_) #[true, true, true, true, true, true, true, true, true, false, false, false, false, false, false] rfl rfl (by kernel_rfl) (fun _ _ _ h => h) (Or.inl ⟨by rfl, ?_⟩) hHeld ?_ ?_
          rotate_left
          · rintro w' ⟨s0, s1, s2, s3⟩
            go_simp
            with_reducible rfl
          rotate_left
          · simp only [Act.put, List.setIfInBounds_toArray, List.set_cons_zero, List.set_cons_succ, i64_w, i32_w]
            rfl
          refine pure_ (i := 9) (N := (some 92)) (v := ?_) (a' := ?_) #[true, true, true, true, true, true, true, true, true, true, false, false, false, false, false] rfl rfl (by kernel_rfl) (fun _ _ _ h => h) (Or.inl ⟨by rfl, ?_⟩) ?_ ?_
          rotate_left
          · intro w'
            go_simp
            with_reducible rfl
          rotate_left
          · simp only [Act.put, List.setIfInBounds_toArray, List.set_cons_zero, List.set_cons_succ, i64_w, i32_w]
            rfl
          refine pure_ (i := 10) (N := (some 93)) (v := ?_) (a' := ?_) #[true, true, true, true, true, true, true, true, true, true, true, false, false, false, false] rfl rfl (by kernel_rfl) (fun _ _ _ h => h) (Or.inl ⟨by rfl, ?_⟩) ?_ ?_
          rotate_left
          · intro w'
            go_simp
            with_reducible rfl
          rotate_left
          · simp only [Act.put, List.setIfInBounds_toArray, List.set_cons_zero, List.set_cons_succ, i64_w, i32_w]
            rfl
          refine take_ (i := 11) (N := (some 94)) (v := ?_) (a' := ?_) #[true, true, true, true, true, true, true, true, true, true, true, true, false, false, false] rfl rfl (by kernel_rfl) (fun _ _ _ h => h) (Or.inl ⟨by rfl, ?_⟩) hHeld ?_ ?_
          rotate_left
          · rintro w' ⟨s0, s1, s2, s3⟩
            go_simp
            with_reducible rfl
          rotate_left
          · simp only [Act.put, List.setIfInBounds_toArray, List.set_cons_zero, List.set_cons_succ, i64_w, i32_w]
            rfl
          refine pure_ (i := 12) (N := (some 95)) (v := ?_) (a' := ?_) #[true, true, true, true, true, true, true, true, true, true, true, true, true, false, false] rfl rfl (by kernel_rfl) (fun _ _ _ h => h) (Or.inl ⟨by rfl, ?_⟩) ?_ ?_
          rotate_left
          · intro w'
            go_simp
            with_reducible rfl
          rotate_left
          · simp only [Act.put, List.setIfInBounds_toArray, List.set_cons_zero, List.set_cons_succ, i64_w, i32_w]
            rfl
          refine one_ (i := 13) (N := (some 20)) #[true, true, true, true, true, true, true, true, true, true, true, true, true, true, false] rfl rfl (by kernel_rfl) (by decide) (fun K hK => ?_)
          refine value_ (w1 := w3.alloc (Obj.cells #[.int .i64 0, .int .i64 0, .string ⟨#[]⟩] 37)) (v := .pointer (some ⟨w3.heap.size, 0, none⟩)) (by rfl) rfl ?run13 ?h13
          case run13 => go_simp
          have hb := below_alloc (Below.refl w3.heap.size w3) (Obj.cells #[.int .i64 0, .int .i64 0, .string ⟨#[]⟩] 37)
          have hh3 := (Array.getElem?_eq_some_iff.1 HV3.out).1
          have hg3 := (Array.getElem?_eq_some_iff.1 HG3.out).1
          refine hK.out _ _ ⟨(hb.cell (p := ⟨h, 0, none⟩) hh3).trans hHeld.1, (hb.cell (p := ⟨h, 1, none⟩) hh3).trans hHeld.2.1, (hb.cell (p := ⟨g, 9, none⟩) hg3).trans hHeld.2.2.1, (hb.cell (p := ⟨g, 10, none⟩) hg3).trans hHeld.2.2.2⟩ (fun hHeld => ?_)
          clear hK K
          refine norm_ (a' := ?_) ?na ?nh
          rotate_left
          · simp only [Act.put, List.setIfInBounds_toArray, List.set_cons_zero, List.set_cons_succ, i64_w, i32_w]
            rfl
          refine last_ (i := 14) (N := none) #[true, true, true, true, true, true, true, true, true, true, true, true, true, true, true] rfl rfl (by kernel_rfl) (by decide) (fun K hK => ?_)
          refine skip_ (w1 := w3.alloc (Obj.cells #[.int .i64 aw, .int .i64 sv, .string le] 37)) (by rfl) rfl ?run14 ?h14
          case run14 => go_simp
          refine hK.out _ _ ?_
          clear hK K
          refine done_ (by kernel_rfl) ?_
          have hb4 := below_alloc (Below.refl w3.heap.size w3) (Obj.cells #[.int .i64 aw, .int .i64 sv, .string le] 37)
          have HT4 := Aside0.mk (heap_alloc_new w3 (Obj.cells #[.int .i64 aw, .int .i64 sv, .string le] 37))
          have HV4 := Aside0.mk ((hb4.block h (Array.getElem?_eq_some_iff.1 HV3.out).1).trans HV3.out)
          have HG4 := Aside0.mk ((hb4.block g (Array.getElem?_eq_some_iff.1 HG3.out).1).trans HG3.out)
          have HO4 := Aside0.mk (Kd.R_below HO3.out hb4)
          have HC4 := Aside0.mk (below_then HC3.out HC3.out.size hb4)
          clear hb4 HV3 HG3 HO3 HC3 hHeld hb hh3 hg3
          generalize w3.alloc (Obj.cells #[.int .i64 aw, .int .i64 sv, .string le] 37) = w4 at HT4 HV4 HG4 HO4 HC4 ⊢
          generalize w3.heap.size = tt at HT4 ⊢
          have z1 : w4.cell? ⟨h, 1, none⟩ = some (.pointer (some ⟨g, 0, none⟩)) := (blk_cell HV4.out 1).trans rfl
          have z2 : w4.cell? ⟨g, 8, none⟩ = some (.int .i64 2) := (blk_cell HG4.out 8).trans rfl
          have z3 : w4.cell? ⟨g, 9, none⟩ = some (.int .i64 sv) := (blk_cell HG4.out 9).trans rfl
          have z4 : w4.cell? ⟨tt, 0, none⟩ = some (.int .i64 aw) := (blk_cell HT4.out 0).trans rfl
          have z5 : w4.cell? ⟨tt, 1, none⟩ = some (.int .i64 sv) := (blk_cell HT4.out 1).trans rfl
          have z6 : w4.cell? ⟨tt, 2, none⟩ = some (.string le) := (blk_cell HT4.out 2).trans rfl
          by_cases hk00 : k = 0
          · subst hk00
            go_wp2_with fail
            go_quiet (fail)
            have HT5 := Aside0.mk (show (w4.drewN nq).heap[tt]? = _ from HT4.out)
            have HV5 := Aside0.mk (show (w4.drewN nq).heap[h]? = _ from HV4.out)
            have HG5 := Aside0.mk (show (w4.drewN nq).heap[g]? = _ from HG4.out)
            have HO5 := Aside0.mk (Kd.R_below HO4.out (pw_below_drewN (Below.refl _ _) nq))
            have HC5 := Aside0.mk (below_then HC4.out HC4.out.size (pw_below_drewN (Below.refl _ _) nq))
            clear HT4 HV4 HG4 HO4 HC4 z1 z2 z3 z4 z5 z6
            generalize w4.drewN nq = w5 at HT5 HV5 HG5 HO5 HC5 ⊢
            have z1 : w5.cell? ⟨h, 1, none⟩ = some (.pointer (some ⟨g, 0, none⟩)) := (blk_cell HV5.out 1).trans rfl
            have z3 : w5.cell? ⟨g, 9, none⟩ = some (.int .i64 sv) := (blk_cell HG5.out 9).trans rfl
            have z4 : w5.cell? ⟨tt, 0, none⟩ = some (.int .i64 aw) := (blk_cell HT5.out 0).trans rfl
            have z5 : w5.cell? ⟨tt, 1, none⟩ = some (.int .i64 sv) := (blk_cell HT5.out 1).trans rfl
            have z6 : w5.cell? ⟨tt, 2, none⟩ = some (.string le) := (blk_cell HT5.out 2).trans rfl
            go_wp2_with ((with_reducible refine gate_builtin (b := .append) (xs := #[.tmp 135, .tmp 137]) rfl ?_); at_builtin; refine Kd.R_append k37 (w0 := w1) w1.heap.size rfl (.tmp 135) (.tmp 137) 22 37 (.agg #[.int .i64 0, .int .i64 0, .string ⟨#[]⟩]) 32 rfl Tryd.underlying22 infoTurn rfl (by decide) (by omega) (.slice Au out.length cu) out ⟨aw, sv, le⟩ [.int .i64 aw, .int .i64 sv, .string le] (fun _ => True) (fun _ => False) rfl rfl ?aP (fun _ hk => hk.elim) ?aF ?aO ?aB ?aS ?aL ?_; (case aP => exact k37_mkM _ _ _ ⟨aw, sv, le⟩); (case aB => exact HC5.out); (case aF => exact (fun _ _ => trivial)); (case aO => exact HO5.out); (case aS => exact HC5.out.size); (case aL => have := HOL.out; omega); intro v6 w6 ho hb6 hg6 hat; have HO6 := Aside0.mk ho; have HC6 := Aside0.mk hb6; clear HO5 HC5 HT5 HV5 HG5 ho hb6 hg6 hat z1 z3 z4 z5 z6)
            go_roundw
            case rel => exact ⟨0 + 1, sv, rfl, rfl, by omega, ⟨by
              have hs := snoc_turn l0 (0) (by omega)
              rw [← HRr.out] at hs
              rw [← hs, ← HOUT.out]
              have he : turnOf ⟨nm, fr, tw, mo, ⟨dk, dw, dn⟩, ar, 2, sv, le⟩ = ⟨aw, sv, le⟩ := by rw [HAT.out]; rfl
              rw [he]
              exact HO6.out⟩, HC6⟩
            case measure =>
              simp [intOf]
              try omega
          · obtain ⟨m, rfl⟩ : ∃ m, k = m + 1 := ⟨k - 1, by omega⟩
            have hg0 : (0 : Int) < (m : Int) + 1 := by omega
            have hg1 : decide ((0 : Int) < (m : Int) + 1) = true := decide_eq_true hg0
            have hm3 : m ≤ 1500 := by omega
            have hm4 : m < m + 1 := Nat.lt_succ_self m
            have hm5 : (m : Int) + 1 < (l0.length : Int) := by omega
            obtain ⟨A', c', e, _, hro⟩ := Kd.R_reads HO4.out
            cases e
            have hm1 : (m : Int) < (out.length : Int) := by rw [HOL.out]; omega
            have hm2 : m < out.length := by rw [HOL.out]; omega
            obtain ⟨ao, e, y0, _, _⟩ := at_T37 hro (m : Int) (Int.natCast_nonneg _) hm1
            cases e
            rw [Int.toNat_natCast] at y0
            have hlow : decide (aw ≤ (rd_T37 out (m : Int)).f0) = false := by
              rw [HOUT.out, rd_turn l0 (m + 1) m hm4 hk, HAT.out]
              have := HF.out.rise (m : Int) (Int.natCast_nonneg _) hm5
              have e2 : ((m + 1 : Nat) : Int) = (m : Int) + 1 := rfl
              rw [HRr.out, e2]
              exact decide_eq_false (Int.not_le.2 this)
            have HRO2 := Aside0.mk hro
            clear hro
            go_wp2_with fail
            go_quiet (fail)
            clear y0 hg0 hg1 hlow
            have HT5 := Aside0.mk (show (w4.drewN nq).heap[tt]? = _ from HT4.out)
            have HV5 := Aside0.mk (show (w4.drewN nq).heap[h]? = _ from HV4.out)
            have HG5 := Aside0.mk (show (w4.drewN nq).heap[g]? = _ from HG4.out)
            have HO5 := Aside0.mk (Kd.R_below HO4.out (pw_below_drewN (Below.refl _ _) nq))
            have HC5 := Aside0.mk (below_then HC4.out HC4.out.size (pw_below_drewN (Below.refl _ _) nq))
            clear HT4 HV4 HG4 HO4 HC4 z1 z2 z3 z4 z5 z6
            generalize w4.drewN nq = w5 at HT5 HV5 HG5 HO5 HC5 ⊢
            have z1 : w5.cell? ⟨h, 1, none⟩ = some (.pointer (some ⟨g, 0, none⟩)) := (blk_cell HV5.out 1).trans rfl
            have z3 : w5.cell? ⟨g, 9, none⟩ = some (.int .i64 sv) := (blk_cell HG5.out 9).trans rfl
            have z4 : w5.cell? ⟨tt, 0, none⟩ = some (.int .i64 aw) := (blk_cell HT5.out 0).trans rfl
            have z5 : w5.cell? ⟨tt, 1, none⟩ = some (.int .i64 sv) := (blk_cell HT5.out 1).trans rfl
            have z6 : w5.cell? ⟨tt, 2, none⟩ = some (.string le) := (blk_cell HT5.out 2).trans rfl
            go_wp2_with ((with_reducible refine gate_builtin (b := .append) (xs := #[.tmp 135, .tmp 137]) rfl ?_); at_builtin; refine Kd.R_append k37 (w0 := w1) w1.heap.size rfl (.tmp 135) (.tmp 137) 22 37 (.agg #[.int .i64 0, .int .i64 0, .string ⟨#[]⟩]) 32 rfl Tryd.underlying22 infoTurn rfl (by decide) (by omega) (.slice (some ao) out.length cu) out ⟨aw, sv, le⟩ [.int .i64 aw, .int .i64 sv, .string le] (fun _ => True) (fun _ => False) rfl rfl ?aP (fun _ hk => hk.elim) ?aF ?aO ?aB ?aS ?aL ?_; (case aP => exact k37_mkM _ _ _ ⟨aw, sv, le⟩); (case aB => exact HC5.out); (case aF => exact (fun _ _ => trivial)); (case aO => exact HO5.out); (case aS => exact HC5.out.size); (case aL => have := HOL.out; omega); intro v6 w6 ho hb6 hg6 hat; have HO6 := Aside0.mk ho; have HC6 := Aside0.mk hb6; clear HO5 HC5 HT5 HV5 HG5 ho hb6 hg6 hat z1 z3 z4 z5 z6)
            go_roundw
            case rel => exact ⟨m + 1 + 1, sv, rfl, rfl, by omega, ⟨by
              have hs := snoc_turn l0 (m + 1) (by omega)
              rw [← HRr.out] at hs
              rw [← hs, ← HOUT.out]
              have he : turnOf ⟨nm, fr, tw, mo, ⟨dk, dw, dn⟩, ar, 2, sv, le⟩ = ⟨aw, sv, le⟩ := by rw [HAT.out]; rfl
              rw [he]
              exact HO6.out⟩, HC6⟩
            case measure =>
              simp [intOf]
              try omega
        · have hkl : k = l0.length := by omega
          subst hkl
          have hx1 : ¬ ((l0.length : Int) < (ns.length : Int)) := by rw [HNL.out]; exact Int.lt_irrefl _
          have hx2 : decide ((l0.length : Int) < (ns.length : Int)) = false := decide_eq_false hx1
          go_wp2_with fail
          go_ret2
          refine ⟨_, rfl, ?_, below_then HB1.out HB1.out.size HC.out⟩
          have hr := Kd.R_lower HO.out HB1.out.size
          rw [HOUT.out, List.take_length] at hr
          rw [HOUT.out, List.take_length]
          exact hr
end Go.Proofs.YteemhjamlkipcaaDoor.PT
end
section
namespace Go.Proofs.YteemhjamlkipcaaDoor.PT
open Go.RowKit Go.Proofs.YteemhjamlkipcaaDoorW.PrintWords Go.Proofs.YteemhjamlkipcaaDoorW.PrintLast Go.Proofs.YteemhjamlkipcaaDoorW.PrintMore
attribute [local go_sem] max2_int min2_int max_two min_two max_three min_three max_four min_four   -- for this text's walks alone
set_option linter.unusedVariables false
set_option linter.unusedSimpArgs false
def turns_Of.f (l0_0 : List (S59)) (l0_1 : List (S48)) (l0_2 : List (S103)) (a1 : ByteArray) (a2 : Int) : Option ((List (S37)) × Int) := (book_Check.f l0_0 l0_1 l0_2).bind fun t221 => (if t221 = 0 then (if a2 < (-64800) then (some (([] : List (S37)), 1)) else (if a2 > 64800 then (some (([] : List (S37)), 1)) else ((turns_Make.f l0_0 a1 a2).bind fun bt222 => (some (bt222.1, bt222.2))))) else (some (([] : List (S37)), t221)))
set_option maxHeartbeats 8000000 in
set_option maxRecDepth 100000 in
theorem turns_Of.calls (A0_0 : Option Addr) (c0_0 : Nat) (l0_0 : List (S59)) (A0_1 : Option Addr) (c0_1 : Nat) (l0_1 : List (S48)) (A0_2 : Option Addr) (c0_2 : Nat) (l0_2 : List (S103)) (a1 : ByteArray) (a2 : Int) (r1 : List (S37)) (r2 : Int) (w : World) (hL : LaidT w) (hr0_0 : Kd.C k59 w A0_0 l0_0.length l0_0) (hc0_0 : l0_0.length ≤ c0_0) (hr0_1 : Kd.C k48 w A0_1 l0_1.length l0_1) (hc0_1 : l0_1.length ≤ c0_1) (hr0_2 : Kd.C k103 w A0_2 l0_2.length l0_2) (hc0_2 : l0_2.length ≤ c0_2) (h : turns_Of.f l0_0 l0_1 l0_2 a1 a2 = some (r1, r2)) :
    Calls Tryd.prog 7 #[.agg #[.slice A0_0 l0_0.length c0_0, .slice A0_1 l0_1.length c0_1, .slice A0_2 l0_2.length c0_2], .string a1, .int .i64 a2] w fun e w' => ∃ v0_ : Value, e = .returned (.tuple #[v0_, .int .i64 r2]) ∧ Kd.R k37 37 w' w.heap.size (fun _ => True) v0_ r1 ∧ Below w.heap.size w w' := by
  have hu34 := Tryd.underlying34
  have HR0_0 := Aside0.mk hr0_0
  have HC0_0 := Aside0.mk hc0_0
  clear hr0_0 hc0_0
  have HR0_1 := Aside0.mk hr0_1
  have HC0_1 := Aside0.mk hc0_1
  clear hr0_1 hc0_1
  have HR0_2 := Aside0.mk hr0_2
  have HC0_2 := Aside0.mk hc0_2
  clear hr0_2 hc0_2
  have HB := Aside0.mk (Below.refl w.heap.size w)
  have HLA := Aside0.mk hL
  clear hL
  have H : ((book_Check.f l0_0 l0_1 l0_2).bind fun t221 => (if t221 = 0 then (if a2 < (-64800) then (some (([] : List (S37)), 1)) else (if a2 > 64800 then (some (([] : List (S37)), 1)) else ((turns_Make.f l0_0 a1 a2).bind fun bt222 => (some (bt222.1, bt222.2))))) else (some (([] : List (S37)), t221)))) = some (r1, r2) := h
  clear h
  replace H := Option.bind_eq_some_iff.mp H
  obtain ⟨t221, A40, H⟩ := H
  replace H : (if t221 = 0 then (if a2 < (-64800) then (some (([] : List (S37)), 1)) else (if a2 > 64800 then (some (([] : List (S37)), 1)) else ((turns_Make.f l0_0 a1 a2).bind fun bt222 => (some (bt222.1, bt222.2))))) else (some (([] : List (S37)), t221))) = some (r1, r2) := H
  have A4 := Aside0.mk A40
  clear A40
  by_cases c5 : t221 = 0
  · rw [if_pos c5] at H
    have c5b0 : (t221 == 0) = true := beq_iff_eq.mpr c5
    have c5b1 : (t221 != 0) = false := bne_eq_false_iff_eq.mpr c5
    clear c5
    by_cases c6 : a2 < (-64800)
    · rw [if_pos c6] at H
      have c6b0 : decide (a2 < (-64800)) = true := decide_eq_true c6
      clear c6
      simp only [Option.some.injEq, Prod.mk.injEq] at H
      obtain ⟨rfl, rfl⟩ := H
      go_enter Tryd.func7, Tryd.ntmps7
      go_wp2_with (first | ((with_reducible refine gate_dst (N := 3) rfl ?_); refine box_event ?hg (N := 3) ?hd (cs := #[.slice A0_0 l0_0.length c0_0, .slice A0_1 l0_1.length c0_1, .slice A0_2 l0_2.length c0_2]) (t := 34) ?hr ?_; (case hd => rfl); (case hg => rfl); (case hr => first | (go_simp; done) | (go_simp; rfl)); intro gb220 hg w7 hbox hb; have n0_ := Aside0.mk (below_step (by repeat (first | (with_reducible first | exact HB.out | apply below_alloc | apply pw_below_drewN | apply below_drew1) | exact HB.out)) hb); have n1_ := Aside0.mk (hbox); have n2_ := Aside0.mk ((by rw [hg]; exact (below_size (by repeat (first | (with_reducible first | exact HB.out | apply below_alloc | apply pw_below_drewN | apply below_drew1) | exact HB.out))) : w.heap.size ≤ gb220)); have n3_ := Aside0.mk ((by rw [hg]; exact (below_size (by repeat (first | (with_reducible first | exact HB.out | apply below_alloc | apply pw_below_drewN | apply below_drew1) | exact HB.out))) : w.heap.size ≤ gb220)); clear HB; have HB := n0_; have BK220 := n1_; have GW220 := n2_; have GE220 := n3_; clear n0_ n1_ n2_ n3_; clear hb hbox hg; have hcz8_0 : w7.cell? ⟨gb220, 0, none⟩ = some (.slice A0_0 l0_0.length c0_0) := (blk_cell BK220.out 0).trans rfl; have hcz8_1 : w7.cell? ⟨gb220, 1, none⟩ = some (.slice A0_1 l0_1.length c0_1) := (blk_cell BK220.out 1).trans rfl; have hcz8_2 : w7.cell? ⟨gb220, 2, none⟩ = some (.slice A0_2 l0_2.length c0_2) := (blk_cell BK220.out 2).trans rfl; have hfz8_0 := blk_frozen BK220.out 0; have hfz8_1 := blk_frozen BK220.out 1; have hfz8_2 := blk_frozen BK220.out 2) | ((with_reducible refine gate_callee (f := 14) rfl ?_); refine goesL_ (some 10) rfl rfl Tryd.func14 (by kernel_rfl) rfl #[.agg #[.slice A0_0 l0_0.length c0_0, .slice A0_1 l0_1.length c0_1, .slice A0_2 l0_2.length c0_2]] rfl (by (try simp only [List.map_toArray, List.map_cons, List.map_nil]); first | done | rfl | (simp only [List.length_drop, List.length_take]; rfl)) ?_; (with_reducible refine (book_Check.calls _ _ l0_0 _ _ l0_1 _ _ l0_2 t221 _ ?side7 ?side1 ?side2 ?side3 ?side4 ?side5 ?side6 A4.out).mono ?_); (case side1 => repeat (first | exact (Kd.C_below HR0_0.out HB.out) | (with_reducible refine Kd.C_alloc ?_ _) | (with_reducible refine Kd.C_drewN ?_ _) | (with_reducible refine Kd.C_drew ?_))); (case side2 => exact HC0_0.out); (case side3 => repeat (first | exact (Kd.C_below HR0_1.out HB.out) | (with_reducible refine Kd.C_alloc ?_ _) | (with_reducible refine Kd.C_drewN ?_ _) | (with_reducible refine Kd.C_drew ?_))); (case side4 => exact HC0_1.out); (case side5 => repeat (first | exact (Kd.C_below HR0_2.out HB.out) | (with_reducible refine Kd.C_alloc ?_ _) | (with_reducible refine Kd.C_drewN ?_ _) | (with_reducible refine Kd.C_drew ?_))); (case side6 => exact HC0_2.out); (case side7 => exact LaidT.sub HLA.out (by repeat (first | (with_reducible first | exact HB.out | apply below_alloc | apply pw_below_drewN | apply below_drew1 | refine below_set ?_ GE220.out) | exact HB.out))); rintro e w9 ⟨rfl, hb⟩; refine ⟨_, rfl, ?_⟩; have n0_ := Aside0.mk (blk_below (g := gb220) (o := .cells #[.slice A0_0 l0_0.length c0_0, .slice A0_1 l0_1.length c0_1, .slice A0_2 l0_2.length c0_2] 34 (0, 0)) (by (with_reducible repeat (first | refine blk_drewN ?_ _ | refine blk_drew ?_ | refine blk_alloc ?_ _)); exact BK220.out) hb); have n1_ := Aside0.mk (below_step (by repeat (first | (with_reducible first | exact HB.out | apply below_alloc | apply pw_below_drewN | apply below_drew1 | refine below_set ?_ GE220.out) | exact HB.out)) hb); clear BK220; clear HB; have BK220 := n0_; have HB := n1_; clear n0_ n1_; (try clear hb); (try clear hb2); (try clear hk); (try clear hi)))
      go_ret2
      exact ⟨_, by first | rfl | (simp [errW_none, errW_some] <;> rfl) | (simp [*, errW_none, errW_some] <;> rfl), by first | exact Kd.R_nil _ _ _ _ _ | exact Kd.N_nil _ _ _ _ _ | exact Kd.V_nil _ _ _ _ _ | exact Kd.Q_nil _ _ _ _ _ | exact Kd.S_nil _ _ _ _ _, by repeat (first | (with_reducible first | exact HB.out | apply below_alloc | apply pw_below_drewN | apply below_drew1 | refine below_set ?_ GE220.out) | exact HB.out)⟩
    · rw [if_neg c6] at H
      have c6b0 : decide (a2 < (-64800)) = false := decide_eq_false c6
      clear c6
      by_cases c10 : a2 > 64800
      · rw [if_pos c10] at H
        have c10b0 : decide (64800 < a2) = true := decide_eq_true c10
        clear c10
        simp only [Option.some.injEq, Prod.mk.injEq] at H
        obtain ⟨rfl, rfl⟩ := H
        go_enter Tryd.func7, Tryd.ntmps7
        go_wp2_with (first | ((with_reducible refine gate_dst (N := 3) rfl ?_); refine box_event ?hg (N := 3) ?hd (cs := #[.slice A0_0 l0_0.length c0_0, .slice A0_1 l0_1.length c0_1, .slice A0_2 l0_2.length c0_2]) (t := 34) ?hr ?_; (case hd => rfl); (case hg => rfl); (case hr => first | (go_simp; done) | (go_simp; rfl)); intro gb220 hg w11 hbox hb; have n0_ := Aside0.mk (below_step (by repeat (first | (with_reducible first | exact HB.out | apply below_alloc | apply pw_below_drewN | apply below_drew1) | exact HB.out)) hb); have n1_ := Aside0.mk (hbox); have n2_ := Aside0.mk ((by rw [hg]; exact (below_size (by repeat (first | (with_reducible first | exact HB.out | apply below_alloc | apply pw_below_drewN | apply below_drew1) | exact HB.out))) : w.heap.size ≤ gb220)); have n3_ := Aside0.mk ((by rw [hg]; exact (below_size (by repeat (first | (with_reducible first | exact HB.out | apply below_alloc | apply pw_below_drewN | apply below_drew1) | exact HB.out))) : w.heap.size ≤ gb220)); clear HB; have HB := n0_; have BK220 := n1_; have GW220 := n2_; have GE220 := n3_; clear n0_ n1_ n2_ n3_; clear hb hbox hg; have hcz12_0 : w11.cell? ⟨gb220, 0, none⟩ = some (.slice A0_0 l0_0.length c0_0) := (blk_cell BK220.out 0).trans rfl; have hcz12_1 : w11.cell? ⟨gb220, 1, none⟩ = some (.slice A0_1 l0_1.length c0_1) := (blk_cell BK220.out 1).trans rfl; have hcz12_2 : w11.cell? ⟨gb220, 2, none⟩ = some (.slice A0_2 l0_2.length c0_2) := (blk_cell BK220.out 2).trans rfl; have hfz12_0 := blk_frozen BK220.out 0; have hfz12_1 := blk_frozen BK220.out 1; have hfz12_2 := blk_frozen BK220.out 2) | ((with_reducible refine gate_callee (f := 14) rfl ?_); refine goesL_ (some 10) rfl rfl Tryd.func14 (by kernel_rfl) rfl #[.agg #[.slice A0_0 l0_0.length c0_0, .slice A0_1 l0_1.length c0_1, .slice A0_2 l0_2.length c0_2]] rfl (by (try simp only [List.map_toArray, List.map_cons, List.map_nil]); first | done | rfl | (simp only [List.length_drop, List.length_take]; rfl)) ?_; (with_reducible refine (book_Check.calls _ _ l0_0 _ _ l0_1 _ _ l0_2 t221 _ ?side7 ?side1 ?side2 ?side3 ?side4 ?side5 ?side6 A4.out).mono ?_); (case side1 => repeat (first | exact (Kd.C_below HR0_0.out HB.out) | (with_reducible refine Kd.C_alloc ?_ _) | (with_reducible refine Kd.C_drewN ?_ _) | (with_reducible refine Kd.C_drew ?_))); (case side2 => exact HC0_0.out); (case side3 => repeat (first | exact (Kd.C_below HR0_1.out HB.out) | (with_reducible refine Kd.C_alloc ?_ _) | (with_reducible refine Kd.C_drewN ?_ _) | (with_reducible refine Kd.C_drew ?_))); (case side4 => exact HC0_1.out); (case side5 => repeat (first | exact (Kd.C_below HR0_2.out HB.out) | (with_reducible refine Kd.C_alloc ?_ _) | (with_reducible refine Kd.C_drewN ?_ _) | (with_reducible refine Kd.C_drew ?_))); (case side6 => exact HC0_2.out); (case side7 => exact LaidT.sub HLA.out (by repeat (first | (with_reducible first | exact HB.out | apply below_alloc | apply pw_below_drewN | apply below_drew1 | refine below_set ?_ GE220.out) | exact HB.out))); rintro e w13 ⟨rfl, hb⟩; refine ⟨_, rfl, ?_⟩; have n0_ := Aside0.mk (blk_below (g := gb220) (o := .cells #[.slice A0_0 l0_0.length c0_0, .slice A0_1 l0_1.length c0_1, .slice A0_2 l0_2.length c0_2] 34 (0, 0)) (by (with_reducible repeat (first | refine blk_drewN ?_ _ | refine blk_drew ?_ | refine blk_alloc ?_ _)); exact BK220.out) hb); have n1_ := Aside0.mk (below_step (by repeat (first | (with_reducible first | exact HB.out | apply below_alloc | apply pw_below_drewN | apply below_drew1 | refine below_set ?_ GE220.out) | exact HB.out)) hb); clear BK220; clear HB; have BK220 := n0_; have HB := n1_; clear n0_ n1_; (try clear hb); (try clear hb2); (try clear hk); (try clear hi)))
        go_ret2
        exact ⟨_, by first | rfl | (simp [errW_none, errW_some] <;> rfl) | (simp [*, errW_none, errW_some] <;> rfl), by first | exact Kd.R_nil _ _ _ _ _ | exact Kd.N_nil _ _ _ _ _ | exact Kd.V_nil _ _ _ _ _ | exact Kd.Q_nil _ _ _ _ _ | exact Kd.S_nil _ _ _ _ _, by repeat (first | (with_reducible first | exact HB.out | apply below_alloc | apply pw_below_drewN | apply below_drew1 | refine below_set ?_ GE220.out) | exact HB.out)⟩
      · rw [if_neg c10] at H
        have c10b0 : decide (64800 < a2) = false := decide_eq_false c10
        clear c10
        replace H := Option.bind_eq_some_iff.mp H
        obtain ⟨⟨t222, t223⟩, A140, H⟩ := H
        replace H : (some (t222, t223)) = some (r1, r2) := H
        have A14 := Aside0.mk A140
        clear A140
        simp only [Option.some.injEq, Prod.mk.injEq] at H
        obtain ⟨rfl, rfl⟩ := H
        go_enter Tryd.func7, Tryd.ntmps7
        go_wp2_with (first | ((with_reducible refine gate_dst (N := 3) rfl ?_); refine box_event ?hg (N := 3) ?hd (cs := #[.slice A0_0 l0_0.length c0_0, .slice A0_1 l0_1.length c0_1, .slice A0_2 l0_2.length c0_2]) (t := 34) ?hr ?_; (case hd => rfl); (case hg => rfl); (case hr => first | (go_simp; done) | (go_simp; rfl)); intro gb220 hg w15 hbox hb; have n0_ := Aside0.mk (below_step (by repeat (first | (with_reducible first | exact HB.out | apply below_alloc | apply pw_below_drewN | apply below_drew1) | exact HB.out)) hb); have n1_ := Aside0.mk (hbox); have n2_ := Aside0.mk ((by rw [hg]; exact (below_size (by repeat (first | (with_reducible first | exact HB.out | apply below_alloc | apply pw_below_drewN | apply below_drew1) | exact HB.out))) : w.heap.size ≤ gb220)); have n3_ := Aside0.mk ((by rw [hg]; exact (below_size (by repeat (first | (with_reducible first | exact HB.out | apply below_alloc | apply pw_below_drewN | apply below_drew1) | exact HB.out))) : w.heap.size ≤ gb220)); clear HB; have HB := n0_; have BK220 := n1_; have GW220 := n2_; have GE220 := n3_; clear n0_ n1_ n2_ n3_; clear hb hbox hg; have hcz16_0 : w15.cell? ⟨gb220, 0, none⟩ = some (.slice A0_0 l0_0.length c0_0) := (blk_cell BK220.out 0).trans rfl; have hcz16_1 : w15.cell? ⟨gb220, 1, none⟩ = some (.slice A0_1 l0_1.length c0_1) := (blk_cell BK220.out 1).trans rfl; have hcz16_2 : w15.cell? ⟨gb220, 2, none⟩ = some (.slice A0_2 l0_2.length c0_2) := (blk_cell BK220.out 2).trans rfl; have hfz16_0 := blk_frozen BK220.out 0; have hfz16_1 := blk_frozen BK220.out 1; have hfz16_2 := blk_frozen BK220.out 2) | ((with_reducible refine gate_callee (f := 14) rfl ?_); refine goesL_ (some 10) rfl rfl Tryd.func14 (by kernel_rfl) rfl #[.agg #[.slice A0_0 l0_0.length c0_0, .slice A0_1 l0_1.length c0_1, .slice A0_2 l0_2.length c0_2]] rfl (by (try simp only [List.map_toArray, List.map_cons, List.map_nil]); first | done | rfl | (simp only [List.length_drop, List.length_take]; rfl)) ?_; (with_reducible refine (book_Check.calls _ _ l0_0 _ _ l0_1 _ _ l0_2 t221 _ ?side7 ?side1 ?side2 ?side3 ?side4 ?side5 ?side6 A4.out).mono ?_); (case side1 => repeat (first | exact (Kd.C_below HR0_0.out HB.out) | (with_reducible refine Kd.C_alloc ?_ _) | (with_reducible refine Kd.C_drewN ?_ _) | (with_reducible refine Kd.C_drew ?_))); (case side2 => exact HC0_0.out); (case side3 => repeat (first | exact (Kd.C_below HR0_1.out HB.out) | (with_reducible refine Kd.C_alloc ?_ _) | (with_reducible refine Kd.C_drewN ?_ _) | (with_reducible refine Kd.C_drew ?_))); (case side4 => exact HC0_1.out); (case side5 => repeat (first | exact (Kd.C_below HR0_2.out HB.out) | (with_reducible refine Kd.C_alloc ?_ _) | (with_reducible refine Kd.C_drewN ?_ _) | (with_reducible refine Kd.C_drew ?_))); (case side6 => exact HC0_2.out); (case side7 => exact LaidT.sub HLA.out (by repeat (first | (with_reducible first | exact HB.out | apply below_alloc | apply pw_below_drewN | apply below_drew1 | refine below_set ?_ GE220.out) | exact HB.out))); rintro e w17 ⟨rfl, hb⟩; refine ⟨_, rfl, ?_⟩; have n0_ := Aside0.mk (blk_below (g := gb220) (o := .cells #[.slice A0_0 l0_0.length c0_0, .slice A0_1 l0_1.length c0_1, .slice A0_2 l0_2.length c0_2] 34 (0, 0)) (by (with_reducible repeat (first | refine blk_drewN ?_ _ | refine blk_drew ?_ | refine blk_alloc ?_ _)); exact BK220.out) hb); have n1_ := Aside0.mk (below_step (by repeat (first | (with_reducible first | exact HB.out | apply below_alloc | apply pw_below_drewN | apply below_drew1 | refine below_set ?_ GE220.out) | exact HB.out)) hb); clear BK220; clear HB; have BK220 := n0_; have HB := n1_; clear n0_ n1_; (try clear hb); (try clear hb2); (try clear hk); (try clear hi); have hcz18_0 : w17.cell? ⟨gb220, 0, none⟩ = some (.slice A0_0 l0_0.length c0_0) := (blk_cell BK220.out 0).trans rfl; have hcz18_1 : w17.cell? ⟨gb220, 1, none⟩ = some (.slice A0_1 l0_1.length c0_1) := (blk_cell BK220.out 1).trans rfl; have hcz18_2 : w17.cell? ⟨gb220, 2, none⟩ = some (.slice A0_2 l0_2.length c0_2) := (blk_cell BK220.out 2).trans rfl; have hfz18_0 := blk_frozen BK220.out 0; have hfz18_1 := blk_frozen BK220.out 1; have hfz18_2 := blk_frozen BK220.out 2) | ((with_reducible refine gate_callee (f := 15) rfl ?_); refine goesL_ (some 24) rfl rfl Tryd.func15 (by kernel_rfl) rfl #[.slice A0_0 l0_0.length c0_0, .string a1, .int .i64 a2] rfl (by (try simp only [List.map_toArray, List.map_cons, List.map_nil]); first | done | rfl | (simp only [List.length_drop, List.length_take]; rfl)) ?_; (with_reducible refine (turns_Make.calls _ _ l0_0 a1 a2 t222 t223 _ ?side1 ?side2 A14.out).mono ?_); (case side1 => repeat (first | exact (Kd.C_below HR0_0.out HB.out) | (with_reducible refine Kd.C_alloc ?_ _) | (with_reducible refine Kd.C_drewN ?_ _) | (with_reducible refine Kd.C_drew ?_))); (case side2 => exact HC0_0.out); rintro e w19 ⟨v224, rfl, ho0, hb⟩; refine ⟨_, rfl, ?_⟩; have n0_ := Aside0.mk (Kd.R_lower ho0 (below_size (by repeat (first | (with_reducible first | exact HB.out | apply below_alloc | apply pw_below_drewN | apply below_drew1 | refine below_set ?_ GE220.out) | exact HB.out)))); have n1_ := Aside0.mk (blk_below (g := gb220) (o := .cells #[.slice A0_0 l0_0.length c0_0, .slice A0_1 l0_1.length c0_1, .slice A0_2 l0_2.length c0_2] 34 (0, 0)) (by (with_reducible repeat (first | refine blk_drewN ?_ _ | refine blk_drew ?_ | refine blk_alloc ?_ _)); exact BK220.out) hb); have n2_ := Aside0.mk (below_step (by repeat (first | (with_reducible first | exact HB.out | apply below_alloc | apply pw_below_drewN | apply below_drew1 | refine below_set ?_ GE220.out) | exact HB.out)) hb); clear BK220; clear HB; have HO225 := n0_; have BK220 := n1_; have HB := n2_; clear n0_ n1_ n2_; (try clear hb); (try clear hb2); (try clear hk); (try clear hi); (try clear ho0)))
        go_ret2
        exact ⟨_, by first | rfl | (simp [errW_none, errW_some] <;> rfl) | (simp [*, errW_none, errW_some] <;> rfl), by (with_reducible repeat (first | apply Kd.R_alloc | apply Kd.R_drewN | apply Kd.R_drew)); exact HO225.out, by repeat (first | (with_reducible first | exact HB.out | apply below_alloc | apply pw_below_drewN | apply below_drew1 | refine below_set ?_ GE220.out) | exact HB.out)⟩
  · rw [if_neg c5] at H
    have c5b0 : (t221 == 0) = false := beq_eq_false_iff_ne.mpr c5
    have c5b1 : (t221 != 0) = true := bne_iff_ne.mpr c5
    simp only [Option.some.injEq, Prod.mk.injEq] at H
    obtain ⟨rfl, rfl⟩ := H
    go_enter Tryd.func7, Tryd.ntmps7
    go_wp2_with (first | ((with_reducible refine gate_dst (N := 3) rfl ?_); refine box_event ?hg (N := 3) ?hd (cs := #[.slice A0_0 l0_0.length c0_0, .slice A0_1 l0_1.length c0_1, .slice A0_2 l0_2.length c0_2]) (t := 34) ?hr ?_; (case hd => rfl); (case hg => rfl); (case hr => first | (go_simp; done) | (go_simp; rfl)); intro gb220 hg w20 hbox hb; have n0_ := Aside0.mk (below_step (by repeat (first | (with_reducible first | exact HB.out | apply below_alloc | apply pw_below_drewN | apply below_drew1) | exact HB.out)) hb); have n1_ := Aside0.mk (hbox); have n2_ := Aside0.mk ((by rw [hg]; exact (below_size (by repeat (first | (with_reducible first | exact HB.out | apply below_alloc | apply pw_below_drewN | apply below_drew1) | exact HB.out))) : w.heap.size ≤ gb220)); have n3_ := Aside0.mk ((by rw [hg]; exact (below_size (by repeat (first | (with_reducible first | exact HB.out | apply below_alloc | apply pw_below_drewN | apply below_drew1) | exact HB.out))) : w.heap.size ≤ gb220)); clear HB; have HB := n0_; have BK220 := n1_; have GW220 := n2_; have GE220 := n3_; clear n0_ n1_ n2_ n3_; clear hb hbox hg; have hcz21_0 : w20.cell? ⟨gb220, 0, none⟩ = some (.slice A0_0 l0_0.length c0_0) := (blk_cell BK220.out 0).trans rfl; have hcz21_1 : w20.cell? ⟨gb220, 1, none⟩ = some (.slice A0_1 l0_1.length c0_1) := (blk_cell BK220.out 1).trans rfl; have hcz21_2 : w20.cell? ⟨gb220, 2, none⟩ = some (.slice A0_2 l0_2.length c0_2) := (blk_cell BK220.out 2).trans rfl; have hfz21_0 := blk_frozen BK220.out 0; have hfz21_1 := blk_frozen BK220.out 1; have hfz21_2 := blk_frozen BK220.out 2) | ((with_reducible refine gate_callee (f := 14) rfl ?_); refine goesL_ (some 10) rfl rfl Tryd.func14 (by kernel_rfl) rfl #[.agg #[.slice A0_0 l0_0.length c0_0, .slice A0_1 l0_1.length c0_1, .slice A0_2 l0_2.length c0_2]] rfl (by (try simp only [List.map_toArray, List.map_cons, List.map_nil]); first | done | rfl | (simp only [List.length_drop, List.length_take]; rfl)) ?_; (with_reducible refine (book_Check.calls _ _ l0_0 _ _ l0_1 _ _ l0_2 t221 _ ?side7 ?side1 ?side2 ?side3 ?side4 ?side5 ?side6 A4.out).mono ?_); (case side1 => repeat (first | exact (Kd.C_below HR0_0.out HB.out) | (with_reducible refine Kd.C_alloc ?_ _) | (with_reducible refine Kd.C_drewN ?_ _) | (with_reducible refine Kd.C_drew ?_))); (case side2 => exact HC0_0.out); (case side3 => repeat (first | exact (Kd.C_below HR0_1.out HB.out) | (with_reducible refine Kd.C_alloc ?_ _) | (with_reducible refine Kd.C_drewN ?_ _) | (with_reducible refine Kd.C_drew ?_))); (case side4 => exact HC0_1.out); (case side5 => repeat (first | exact (Kd.C_below HR0_2.out HB.out) | (with_reducible refine Kd.C_alloc ?_ _) | (with_reducible refine Kd.C_drewN ?_ _) | (with_reducible refine Kd.C_drew ?_))); (case side6 => exact HC0_2.out); (case side7 => exact LaidT.sub HLA.out (by repeat (first | (with_reducible first | exact HB.out | apply below_alloc | apply pw_below_drewN | apply below_drew1 | refine below_set ?_ GE220.out) | exact HB.out))); rintro e w22 ⟨rfl, hb⟩; refine ⟨_, rfl, ?_⟩; have n0_ := Aside0.mk (blk_below (g := gb220) (o := .cells #[.slice A0_0 l0_0.length c0_0, .slice A0_1 l0_1.length c0_1, .slice A0_2 l0_2.length c0_2] 34 (0, 0)) (by (with_reducible repeat (first | refine blk_drewN ?_ _ | refine blk_drew ?_ | refine blk_alloc ?_ _)); exact BK220.out) hb); have n1_ := Aside0.mk (below_step (by repeat (first | (with_reducible first | exact HB.out | apply below_alloc | apply pw_below_drewN | apply below_drew1 | refine below_set ?_ GE220.out) | exact HB.out)) hb); clear BK220; clear HB; have BK220 := n0_; have HB := n1_; clear n0_ n1_; (try clear hb); (try clear hb2); (try clear hk); (try clear hi)))
    go_ret2
    exact ⟨_, by first | rfl | (simp [errW_none, errW_some] <;> rfl) | (simp [*, errW_none, errW_some] <;> rfl), by first | exact Kd.R_nil _ _ _ _ _ | exact Kd.N_nil _ _ _ _ _ | exact Kd.V_nil _ _ _ _ _ | exact Kd.Q_nil _ _ _ _ _ | exact Kd.S_nil _ _ _ _ _, by repeat (first | (with_reducible first | exact HB.out | apply below_alloc | apply pw_below_drewN | apply below_drew1 | refine below_set ?_ GE220.out) | exact HB.out)⟩
end Go.Proofs.YteemhjamlkipcaaDoor.PT
end
section
namespace Go.Proofs.YteemhjamlkipcaaDoor.PT
open Go.RowKit Go.Proofs.YteemhjamlkipcaaDoorW.PrintWords Go.Proofs.YteemhjamlkipcaaDoorW.PrintLast Go.Proofs.YteemhjamlkipcaaDoorW.PrintMore
attribute [local go_sem] max2_int min2_int max_two min_two max_three min_three max_four min_four   -- for this text's walks alone
set_option linter.unusedVariables false
set_option linter.unusedSimpArgs false
def timeballkeep_BackTurns.j0 : Nat → List (S37) → Int → List (S59) → Bool → Option (Bool)
  | 0, _, _, _, _ => none
  | k + 1, x0, x1, x5, x25 => if x25 = true then (some ((x5.length : Int) == 0)) else ((turns_Of.f x5 ([] : List (S48)) ([] : List (S103)) (⟨#[121, 101, 97, 114, 115]⟩ : ByteArray) x1).bind fun bt235 => (if bt235.2 = 0 then ((timeballref_Eq_Turn.f k x0 bt235.1).bind fun t239 => (some t239)) else (some false)))
def timeballkeep_BackTurns.f (k : Nat) (l0 : List (S37)) (a1 : Int) : Option (Bool) := (timeballkeep_backed.f k).bind fun t229 => (if t229 = true then ((timeballref_Rest.f a1 129601).bind fun t230 => ((back_Years.f k l0).bind fun bt231 => (if bt231.2 = 0 then (timeballkeep_BackTurns.j0 k l0 (wrap64 (t230 - 64800)) bt231.1 ((l0.length : Int) == 0)) else (timeballkeep_BackTurns.j0 k l0 (wrap64 (t230 - 64800)) bt231.1 true)))) else (some false))
theorem timeballkeep_BackTurns.mono_l : ∀ k, (∀ y0 y1 y2 y3, LeO (timeballkeep_BackTurns.j0 k y0 y1 y2 y3) (timeballkeep_BackTurns.j0 (k + 1) y0 y1 y2 y3))
  | 0 => fun _ _ _ _ r h => by simp [timeballkeep_BackTurns.j0] at h
  | k + 1 => by
    have ih0 := timeballkeep_BackTurns.mono_l k
    · intro y0 y1 y2 y3
      unfold timeballkeep_BackTurns.j0
      repeat' first
      | (with_reducible exact ih0 _ _ _ _)
      | (with_reducible exact back_Years.mono _ _)
      | (with_reducible exact timeballkeep_backed.mono _)
      | (with_reducible exact timeballref_Eq_Turn.mono _ _ _)
      | (with_reducible exact LeO.refl _)
      | (with_reducible exact LeO.none _)
      | (with_reducible refine LeO.ite ?_ ?_)
      | (with_reducible refine LeO.bind ?_ (fun _ => ?_))
      | exact ih0 _ _ _ _
      | exact back_Years.mono _ _
      | exact timeballkeep_backed.mono _
      | exact timeballref_Eq_Turn.mono _ _ _
      | exact LeO.none _
      | refine LeO.ite ?_ ?_
      | refine LeO.bind ?_ (fun _ => ?_)
theorem timeballkeep_BackTurns.mono : ∀ a0 a1 k, LeO (timeballkeep_BackTurns.f k a0 a1) (timeballkeep_BackTurns.f (k + 1) a0 a1) := by
  intro a0 a1 k
  have ih0 := timeballkeep_BackTurns.mono_l k
  unfold timeballkeep_BackTurns.f
  repeat' first
      | (with_reducible exact ih0 _ _ _ _)
      | (with_reducible exact back_Years.mono _ _)
      | (with_reducible exact timeballkeep_backed.mono _)
      | (with_reducible exact timeballref_Eq_Turn.mono _ _ _)
      | (with_reducible exact LeO.refl _)
      | (with_reducible exact LeO.none _)
      | (with_reducible refine LeO.ite ?_ ?_)
      | (with_reducible refine LeO.bind ?_ (fun _ => ?_))
      | exact ih0 _ _ _ _
      | exact back_Years.mono _ _
      | exact timeballkeep_backed.mono _
      | exact timeballref_Eq_Turn.mono _ _ _
      | exact LeO.none _
      | refine LeO.ite ?_ ?_
      | refine LeO.bind ?_ (fun _ => ?_)
set_option maxHeartbeats 8000000 in
set_option maxRecDepth 100000 in
theorem timeballkeep_BackTurns.calls (k : Nat) (A0 : Option Addr) (c0 : Nat) (l0 : List (S37)) (a1 : Int) (r : Bool) (w : World) (hL : LaidT w) (hr0 : Kd.C k37 w A0 l0.length l0) (hc0 : l0.length ≤ c0) (h : timeballkeep_BackTurns.f k l0 a1 = some r) :
    Calls Tryd.prog 3 #[.slice A0 l0.length c0, .int .i64 a1] w fun e w' => e = .returned (.bool r) ∧ Below w.heap.size w w' := by
  have hu34 := Tryd.underlying34
  have HR0 := Aside0.mk hr0
  have HC0 := Aside0.mk hc0
  clear hr0 hc0
  have HB := Aside0.mk (Below.refl w.heap.size w)
  have HLA := Aside0.mk hL
  clear hL
  have H : ((timeballkeep_backed.f k).bind fun t229 => (if t229 = true then ((timeballref_Rest.f a1 129601).bind fun t230 => ((back_Years.f k l0).bind fun bt231 => (if bt231.2 = 0 then (timeballkeep_BackTurns.j0 k l0 (wrap64 (t230 - 64800)) bt231.1 ((l0.length : Int) == 0)) else (timeballkeep_BackTurns.j0 k l0 (wrap64 (t230 - 64800)) bt231.1 true)))) else (some false))) = some r := h
  clear h
  replace H := Option.bind_eq_some_iff.mp H
  obtain ⟨t229, A30, H⟩ := H
  replace H : (if t229 = true then ((timeballref_Rest.f a1 129601).bind fun t230 => ((back_Years.f k l0).bind fun bt231 => (if bt231.2 = 0 then (timeballkeep_BackTurns.j0 k l0 (wrap64 (t230 - 64800)) bt231.1 ((l0.length : Int) == 0)) else (timeballkeep_BackTurns.j0 k l0 (wrap64 (t230 - 64800)) bt231.1 true)))) else (some false)) = some r := H
  have A3 := Aside0.mk A30
  clear A30
  by_cases c4 : t229 = true
  · subst c4
    have H1 : ((timeballref_Rest.f a1 129601).bind fun t230 => ((back_Years.f k l0).bind fun bt231 => (if bt231.2 = 0 then (timeballkeep_BackTurns.j0 k l0 (wrap64 (t230 - 64800)) bt231.1 ((l0.length : Int) == 0)) else (timeballkeep_BackTurns.j0 k l0 (wrap64 (t230 - 64800)) bt231.1 true)))) = some r := by rw [if_pos rfl] at H; exact H
    clear H
    have H := H1
    clear H1
    replace H := Option.bind_eq_some_iff.mp H
    obtain ⟨t230, A50, H⟩ := H
    replace H : ((back_Years.f k l0).bind fun bt231 => (if bt231.2 = 0 then (timeballkeep_BackTurns.j0 k l0 (wrap64 (t230 - 64800)) bt231.1 ((l0.length : Int) == 0)) else (timeballkeep_BackTurns.j0 k l0 (wrap64 (t230 - 64800)) bt231.1 true))) = some r := H
    have A5 := Aside0.mk A50
    clear A50
    replace H := Option.bind_eq_some_iff.mp H
    obtain ⟨⟨t231, t232⟩, A60, H⟩ := H
    replace H : (if t232 = 0 then (timeballkeep_BackTurns.j0 k l0 (wrap64 (t230 - 64800)) t231 ((l0.length : Int) == 0)) else (timeballkeep_BackTurns.j0 k l0 (wrap64 (t230 - 64800)) t231 true)) = some r := H
    have A6 := Aside0.mk A60
    clear A60
    have HC7 := Aside0.mk H
    clear H
    go_enter Tryd.func3, Tryd.ntmps3
    go_upto_region 5 with (first | ((with_reducible refine gate_callee (f := 4) rfl ?_); refine goesL_ (some 9) rfl rfl Tryd.func4 (by kernel_rfl) rfl #[] rfl (by (try simp only [List.map_toArray, List.map_cons, List.map_nil]); first | done | rfl | (simp only [List.length_drop, List.length_take]; rfl)) ?_; (with_reducible refine (timeballkeep_backed.calls k  true _ ?side1 A3.out).mono ?_); (case side1 => exact LaidT.sub HLA.out (by repeat (first | (with_reducible first | exact HB.out | apply below_alloc | apply pw_below_drewN | apply below_drew1) | exact HB.out))); rintro e w8 ⟨rfl, hb⟩; refine ⟨_, rfl, ?_⟩; have n0_ := Aside0.mk (below_step (by repeat (first | (with_reducible first | exact HB.out | apply below_alloc | apply pw_below_drewN | apply below_drew1) | exact HB.out)) hb); clear HB; have HB := n0_; clear n0_; (try clear hb); (try clear hb2); (try clear hk); (try clear hi)) | ((with_reducible refine gate_callee (f := 5) rfl ?_); refine goesL_ (some 12) rfl rfl Tryd.func5 (by kernel_rfl) rfl #[.int .i64 a1, .int .i64 129601] rfl (by (try simp only [List.map_toArray, List.map_cons, List.map_nil]); first | done | rfl | (simp only [List.length_drop, List.length_take]; rfl)) ?_; (with_reducible refine (timeballref_Rest.calls a1 129601 t230 _ A5.out).mono ?_); rintro e w' ⟨rfl, ⟨nd, rfl⟩⟩; refine ⟨_, rfl, ?_⟩) | ((with_reducible refine gate_callee (f := 6) rfl ?_); refine goesL_ (some 16) rfl rfl Tryd.func6 (by kernel_rfl) rfl #[.slice A0 l0.length c0] rfl (by (try simp only [List.map_toArray, List.map_cons, List.map_nil]); first | done | rfl | (simp only [List.length_drop, List.length_take]; rfl)) ?_; (with_reducible refine (back_Years.calls k _ _ l0 t231 t232 _ ?side3 ?side1 ?side2 A6.out).mono ?_); (case side1 => repeat (first | exact (Kd.C_below HR0.out (by repeat (first | (with_reducible first | exact HB.out | apply below_alloc | apply pw_below_drewN | apply below_drew1) | exact HB.out))) | (with_reducible refine Kd.C_alloc ?_ _) | (with_reducible refine Kd.C_drewN ?_ _) | (with_reducible refine Kd.C_drew ?_))); (case side2 => exact HC0.out); (case side3 => exact LaidT.sub HLA.out (by repeat (first | (with_reducible first | exact HB.out | apply below_alloc | apply pw_below_drewN | apply below_drew1) | exact HB.out))); rintro e w9 ⟨v233, rfl, ho0, hb⟩; refine ⟨_, rfl, ?_⟩; have n0_ := Aside0.mk (Kd.R_lower ho0 (below_size (by repeat (first | (with_reducible first | exact HB.out | apply below_alloc | apply pw_below_drewN | apply below_drew1) | exact HB.out)))); have n1_ := Aside0.mk (below_step (by repeat (first | (with_reducible first | exact HB.out | apply below_alloc | apply pw_below_drewN | apply below_drew1) | exact HB.out)) hb); clear HB; have HO234 := n0_; have HB := n1_; clear n0_ n1_; (try clear hb); (try clear hb2); (try clear hk); (try clear hi); (try clear ho0)))
    (try simp only [Act.put, List.setIfInBounds_toArray, List.set_cons_zero, List.set_cons_succ])
    go_cut [25] (fun v25 wc => ∃ (kq : Nat) (x25_6 : Bool), v25 = .bool x25_6 ∧ Aside0 (timeballkeep_BackTurns.j0 kq l0 (wrap64 (t230 - 64800)) t231 x25_6 = some r) ∧ Aside0 (kq ≤ k) ∧ Aside0 (Kd.R k59 59 wc w.heap.size (fun _ => True) v233 t231) ∧ Aside0 (Below w.heap.size w wc))
    case first =>
      have H := HC7.out
      clear HC7
      by_cases c10 : t232 = 0
      · rw [if_pos c10] at H
        have c10b0 : (t232 == 0) = true := beq_iff_eq.mpr c10
        have c10b1 : (t232 != 0) = false := bne_eq_false_iff_eq.mpr c10
        clear c10
        (first | rw [c10b0] | (simp only [i64_w, i32_w]; rw [c10b0]) | skip)
        have H' := Aside0.mk H
        clear H
        go_wp2
        go_meet
        case rel => exact ⟨_, (((l0.length : Int) == 0)), (by first | rfl | (simp; done) | (simp [*]; done)), H', ⟨by first | omega | exact Nat.le_refl _⟩, ⟨by (with_reducible repeat (first | apply Kd.R_alloc | apply Kd.R_drewN | apply Kd.R_drew)); exact HO234.out⟩, ⟨by repeat (first | (with_reducible first | exact HB.out | apply below_alloc | apply pw_below_drewN | apply below_drew1) | exact HB.out)⟩⟩
      · rw [if_neg c10] at H
        have c10b0 : (t232 == 0) = false := beq_eq_false_iff_ne.mpr c10
        have c10b1 : (t232 != 0) = true := bne_iff_ne.mpr c10
        (first | rw [c10b0] | (simp only [i64_w, i32_w]; rw [c10b0]) | skip)
        have H' := Aside0.mk H
        clear H
        go_wp2
        go_meet
        case rel => exact ⟨_, (true), (by first | rfl | (simp; done) | (simp [*]; done)), H', ⟨by first | omega | exact Nat.le_refl _⟩, ⟨by (with_reducible repeat (first | apply Kd.R_alloc | apply Kd.R_drewN | apply Kd.R_drew)); exact HO234.out⟩, ⟨by repeat (first | (with_reducible first | exact HB.out | apply below_alloc | apply pw_below_drewN | apply below_drew1) | exact HB.out)⟩⟩
    case rest =>
      clear HC7
      try clear c1
      try clear p2
      try clear c3
      try clear c4
      try clear c5
      try clear c6
      try clear p6
      try clear c10
      try clear c10b0
      try clear c10b1
      obtain ⟨kq, x25_6, rfl, HA, HJ6, HO_5, HB⟩ := hcut
      cases kq with
      | zero => exact absurd HA.out (by simp [timeballkeep_BackTurns.j0])
      | succ kj6 =>
        have H := HA.out
        clear HA
        simp only [timeballkeep_BackTurns.j0] at H
        by_cases c11 : x25_6 = true
        · subst c11
          have H1 : (some ((t231.length : Int) == 0)) = some r := by rw [if_pos rfl] at H; exact H
          clear H
          have H := H1
          clear H1
          obtain rfl := Option.some.inj H
          obtain ⟨Ao12, co12, eo12⟩ := Kd.R_slice HO_5.out
          subst eo12
          go_wp2
          go_ret
          exact ⟨by first | rfl | (simp [errW_none, errW_some] <;> rfl) | (simp [*, errW_none, errW_some] <;> rfl), by repeat (first | (with_reducible first | exact HB.out | apply below_alloc | apply pw_below_drewN | apply below_drew1) | exact HB.out)⟩
        · replace c11 := Bool.eq_false_iff.mpr c11
          subst c11
          have H1 : ((turns_Of.f t231 ([] : List (S48)) ([] : List (S103)) (⟨#[121, 101, 97, 114, 115]⟩ : ByteArray) (wrap64 (t230 - 64800))).bind fun bt235 => (if bt235.2 = 0 then ((timeballref_Eq_Turn.f kj6 l0 bt235.1).bind fun t239 => (some t239)) else (some false))) = some r := by rw [if_neg (show ¬ (false = true) by decide)] at H; exact H
          clear H
          have H := H1
          clear H1
          replace H := Option.bind_eq_some_iff.mp H
          obtain ⟨⟨t235, t238⟩, A130, H⟩ := H
          replace H : (if t238 = 0 then ((timeballref_Eq_Turn.f kj6 l0 t235).bind fun t239 => (some t239)) else (some false)) = some r := H
          have A13 := Aside0.mk A130
          clear A130
          by_cases c14 : t238 = 0
          · rw [if_pos c14] at H
            have c14b0 : (t238 == 0) = true := beq_iff_eq.mpr c14
            have c14b1 : (t238 != 0) = false := bne_eq_false_iff_eq.mpr c14
            clear c14
            replace H := Option.bind_eq_some_iff.mp H
            obtain ⟨t239, A150, H⟩ := H
            replace H : (some t239) = some r := H
            have A15 := Aside0.mk A150
            clear A150
            obtain rfl := Option.some.inj H
            obtain ⟨Ao16, co16, eo16⟩ := Kd.R_slice HO_5.out
            subst eo16
            go_wp2_with (first | ((with_reducible refine gate_callee (f := 7) rfl ?_); refine goesL_ (some 33) rfl rfl Tryd.func7 (by kernel_rfl) rfl #[.agg #[.slice Ao16 t231.length co16, .slice none 0 0, .slice none 0 0], .string (⟨#[121, 101, 97, 114, 115]⟩ : ByteArray), .int .i64 (wrap64 (t230 - 64800))] rfl (by (try simp only [List.map_toArray, List.map_cons, List.map_nil]); first | done | rfl | (simp only [List.length_drop, List.length_take]; rfl)) ?_; (refine (turns_Of.calls _ _ t231 _ _ ([] : List (S48)) _ _ ([] : List (S103)) (⟨#[121, 101, 97, 114, 115]⟩ : ByteArray) (wrap64 (t230 - 64800)) t235 t238 _ ?side7 ?side1 ?side2 ?side3 ?side4 ?side5 ?side6 A13.out).mono ?_); (case side1 => repeat (first | exact (Kd.R_reads' HO_5.out).2.2 | (with_reducible refine Kd.C_alloc ?_ _) | (with_reducible refine Kd.C_drewN ?_ _) | (with_reducible refine Kd.C_drew ?_))); (case side2 => exact (Kd.R_reads' HO_5.out).2.1); (case side3 => exact Kd.C_nil _ _); (case side4 => exact Nat.le_refl _); (case side5 => exact Kd.C_nil _ _); (case side6 => exact Nat.le_refl _); (case side7 => exact LaidT.sub HLA.out (by repeat (first | (with_reducible first | exact HB.out | apply below_alloc | apply pw_below_drewN | apply below_drew1) | exact HB.out))); rintro e w17 ⟨v236, rfl, ho0, hb⟩; refine ⟨_, rfl, ?_⟩; have n0_ := Aside0.mk (Kd.R_below (by (with_reducible repeat (first | apply Kd.R_alloc | apply Kd.R_drewN | apply Kd.R_drew)); exact HO_5.out) hb); have n1_ := Aside0.mk (Kd.R_lower ho0 (below_size (by repeat (first | (with_reducible first | exact HB.out | apply below_alloc | apply pw_below_drewN | apply below_drew1) | exact HB.out)))); have n2_ := Aside0.mk (below_step (by repeat (first | (with_reducible first | exact HB.out | apply below_alloc | apply pw_below_drewN | apply below_drew1) | exact HB.out)) hb); clear HO_5; clear HB; have HO_5 := n0_; have HO237 := n1_; have HB := n2_; clear n0_ n1_ n2_; (try clear hb); (try clear hb2); (try clear hk); (try clear hi); (try clear ho0); obtain ⟨Ao18, co18, eo18⟩ := Kd.R_slice HO237.out; subst eo18) | (go_at_call 8; (with_reducible refine (timeballref_Eq_Turn.calls kj6 _ _ l0 _ _ t235 t239 _ ?side1 ?side2 ?side3 ?side4 A15.out).mono ?_); (case side1 => repeat (first | exact (Kd.C_below HR0.out HB.out) | (with_reducible refine Kd.C_alloc ?_ _) | (with_reducible refine Kd.C_drewN ?_ _) | (with_reducible refine Kd.C_drew ?_))); (case side2 => exact HC0.out); (case side3 => repeat (first | exact (Kd.R_reads' HO237.out).2.2 | (with_reducible refine Kd.C_alloc ?_ _) | (with_reducible refine Kd.C_drewN ?_ _) | (with_reducible refine Kd.C_drew ?_))); (case side4 => exact (Kd.R_reads' HO237.out).2.1); rintro e w19 ⟨rfl, hb⟩; have n0_ := Aside0.mk (Kd.R_below (by (with_reducible repeat (first | apply Kd.R_alloc | apply Kd.R_drewN | apply Kd.R_drew)); exact HO_5.out) hb); have n1_ := Aside0.mk (Kd.R_below (by (with_reducible repeat (first | apply Kd.R_alloc | apply Kd.R_drewN | apply Kd.R_drew)); exact HO237.out) hb); have n2_ := Aside0.mk (below_step (by repeat (first | (with_reducible first | exact HB.out | apply below_alloc | apply pw_below_drewN | apply below_drew1) | exact HB.out)) hb); clear HO_5; clear HO237; clear HB; have HO_5 := n0_; have HO237 := n1_; have HB := n2_; clear n0_ n1_ n2_; (try clear hb); (try clear hb2); (try clear hk); (try clear hi)))
            go_ret
            exact ⟨by first | rfl | (simp [errW_none, errW_some] <;> rfl) | (simp [*, errW_none, errW_some] <;> rfl), by repeat (first | (with_reducible first | exact HB.out | apply below_alloc | apply pw_below_drewN | apply below_drew1) | exact HB.out)⟩
          · rw [if_neg c14] at H
            have c14b0 : (t238 == 0) = false := beq_eq_false_iff_ne.mpr c14
            have c14b1 : (t238 != 0) = true := bne_iff_ne.mpr c14
            obtain rfl := Option.some.inj H
            obtain ⟨Ao20, co20, eo20⟩ := Kd.R_slice HO_5.out
            subst eo20
            go_wp2_with (first | ((with_reducible refine gate_callee (f := 7) rfl ?_); refine goesL_ (some 33) rfl rfl Tryd.func7 (by kernel_rfl) rfl #[.agg #[.slice Ao20 t231.length co20, .slice none 0 0, .slice none 0 0], .string (⟨#[121, 101, 97, 114, 115]⟩ : ByteArray), .int .i64 (wrap64 (t230 - 64800))] rfl (by (try simp only [List.map_toArray, List.map_cons, List.map_nil]); first | done | rfl | (simp only [List.length_drop, List.length_take]; rfl)) ?_; (refine (turns_Of.calls _ _ t231 _ _ ([] : List (S48)) _ _ ([] : List (S103)) (⟨#[121, 101, 97, 114, 115]⟩ : ByteArray) (wrap64 (t230 - 64800)) t235 t238 _ ?side7 ?side1 ?side2 ?side3 ?side4 ?side5 ?side6 A13.out).mono ?_); (case side1 => repeat (first | exact (Kd.R_reads' HO_5.out).2.2 | (with_reducible refine Kd.C_alloc ?_ _) | (with_reducible refine Kd.C_drewN ?_ _) | (with_reducible refine Kd.C_drew ?_))); (case side2 => exact (Kd.R_reads' HO_5.out).2.1); (case side3 => exact Kd.C_nil _ _); (case side4 => exact Nat.le_refl _); (case side5 => exact Kd.C_nil _ _); (case side6 => exact Nat.le_refl _); (case side7 => exact LaidT.sub HLA.out (by repeat (first | (with_reducible first | exact HB.out | apply below_alloc | apply pw_below_drewN | apply below_drew1) | exact HB.out))); rintro e w21 ⟨v236, rfl, ho0, hb⟩; refine ⟨_, rfl, ?_⟩; have n0_ := Aside0.mk (Kd.R_below (by (with_reducible repeat (first | apply Kd.R_alloc | apply Kd.R_drewN | apply Kd.R_drew)); exact HO_5.out) hb); have n1_ := Aside0.mk (Kd.R_lower ho0 (below_size (by repeat (first | (with_reducible first | exact HB.out | apply below_alloc | apply pw_below_drewN | apply below_drew1) | exact HB.out)))); have n2_ := Aside0.mk (below_step (by repeat (first | (with_reducible first | exact HB.out | apply below_alloc | apply pw_below_drewN | apply below_drew1) | exact HB.out)) hb); clear HO_5; clear HB; have HO_5 := n0_; have HO237 := n1_; have HB := n2_; clear n0_ n1_ n2_; (try clear hb); (try clear hb2); (try clear hk); (try clear hi); (try clear ho0)))
            go_ret
            exact ⟨by first | rfl | (simp [errW_none, errW_some] <;> rfl) | (simp [*, errW_none, errW_some] <;> rfl), by repeat (first | (with_reducible first | exact HB.out | apply below_alloc | apply pw_below_drewN | apply below_drew1) | exact HB.out)⟩
  · replace c4 := Bool.eq_false_iff.mpr c4
    subst c4
    have H1 : (some false) = some r := by rw [if_neg (show ¬ (false = true) by decide)] at H; exact H
    clear H
    have H := H1
    clear H1
    obtain rfl := Option.some.inj H
    go_enter Tryd.func3, Tryd.ntmps3
    go_wp2_with (first | ((with_reducible refine gate_callee (f := 4) rfl ?_); refine goesL_ (some 9) rfl rfl Tryd.func4 (by kernel_rfl) rfl #[] rfl (by (try simp only [List.map_toArray, List.map_cons, List.map_nil]); first | done | rfl | (simp only [List.length_drop, List.length_take]; rfl)) ?_; (with_reducible refine (timeballkeep_backed.calls k  false _ ?side1 A3.out).mono ?_); (case side1 => exact LaidT.sub HLA.out (by repeat (first | (with_reducible first | exact HB.out | apply below_alloc | apply pw_below_drewN | apply below_drew1) | exact HB.out))); rintro e w22 ⟨rfl, hb⟩; refine ⟨_, rfl, ?_⟩; have n0_ := Aside0.mk (below_step (by repeat (first | (with_reducible first | exact HB.out | apply below_alloc | apply pw_below_drewN | apply below_drew1) | exact HB.out)) hb); clear HB; have HB := n0_; clear n0_; (try clear hb); (try clear hb2); (try clear hk); (try clear hi)))
    go_ret
    exact ⟨by first | rfl | (simp [errW_none, errW_some] <;> rfl) | (simp [*, errW_none, errW_some] <;> rfl), by repeat (first | (with_reducible first | exact HB.out | apply below_alloc | apply pw_below_drewN | apply below_drew1) | exact HB.out)⟩
end Go.Proofs.YteemhjamlkipcaaDoor.PT
end
