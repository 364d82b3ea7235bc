/- Part 31 of 36 of the proof of bookAbbr_holds. What it holds was printed or written for this claim, text by text, and merged. -/
import Derived.Test.YtmgnnplcnmhbaaaGreatDoorZ30
import Derived.RegionTactic
import Derived.BigRegion
section
namespace Go.Proofs.YtmgnnplcnmhbaaaGreatDoor.PT
open Go.RowKit Go.Proofs.YtmgnnplcnmhbaaaGreatDoorW.PrintWords Go.Proofs.YtmgnnplcnmhbaaaGreatDoorW.PrintLast Go.Proofs.YtmgnnplcnmhbaaaGreatDoorW.PrintMore
set_option linter.unusedVariables false
set_option linter.unusedSimpArgs false
theorem blk_below {w w' : World} {b : Nat} {o : Obj} (h : w.heap[b]? = some o) (hb : Below w.heap.size w w') : w'.heap[b]? = some o := (hb.block b (blk_lt h)).trans h
theorem int_yes {a b : Int} (h : a = b) : (a == b) = true ∧ (a != b) = false := ⟨beq_iff_eq.mpr h, bne_eq_false_iff_eq.mpr h⟩
theorem int_no {a b : Int} (h : a ≠ b) : (a == b) = false ∧ (a != b) = true := ⟨beq_eq_false_iff_ne.mpr h, bne_iff_ne.mpr h⟩
theorem str_yes {a b : List UInt8} (h : a = b) : (a == b) = true ∧ (a != b) = false := ⟨beq_iff_eq.mpr h, bne_eq_false_iff_eq.mpr h⟩
theorem str_no {a b : List UInt8} (h : a ≠ b) : (a == b) = false ∧ (a != b) = true := ⟨beq_eq_false_iff_ne.mpr h, bne_iff_ne.mpr h⟩
theorem has_era.calls (be : Nat) (x : S39) (A0 : Option Addr) (c0 : Nat) (l0 : List S65) (hn : l0.length ≤ 4611686018427387904) (v : Bool) (hv : l0.any (fun r => same r.f0 x.f1) = v) (w : World) (hr0 : Kd.C k65 w A0 l0.length l0) (hb : w.heap[be]? = some (.cells #[.int .i64 x.f0, .string x.f1, .int .i64 x.f2, .string x.f3, .int .i64 x.f4] 39 (0, 0))) :
    Calls Tryz.prog 80 #[.slice A0 l0.length c0, .func (.func 81) #[] #[.pointer (some ⟨be, 0, none⟩)]] w fun e w' => e = .returned (.bool v) ∧ Below w.heap.size w w' := by
  rw [← hv]
  exact has_rule.calls 81 _ (fun s => same s x.f1) (enters_ Tryz.func81 rfl rfl) A0 c0 l0 hn w hr0 (fun W n a1 a2 a3 a4 a5 a6 a7 a8 a9 a10 hW => clo_era.calls be x W (blk_below hb hW) n a1 a2 a3 a4 a5 a6 a7 a8 a9 a10)
def bk_era (k : Nat) (l0 : List S65) (es : List S39) (i : Nat) : Option Int :=
  let x := rd_T39 es (i : Int)
  if ¬ (-64800 ≤ x.f0 ∧ x.f0 ≤ 64800 ∧ 0 ≤ x.f2 ∧ x.f2 ≤ 10800) then some 1
  else if x.f2 ≠ 0 ∧ x.f1.toList ≠ ([] : List UInt8) then some 5
  else if x.f1.toList ≠ ([] : List UInt8) ∧ l0.any (fun r => same r.f0 x.f1) = false then some 6
  else (bk_abbrs.f k l0 x).bind fun e => if e ≠ 0 then some e
    else if i + 1 = es.length then (if x.f4 = 0 then some 0 else some 5)
    else if ¬ (-1099511627776 ≤ x.f4 ∧ x.f4 ≤ 1099511627776) then some 1
    else (clock_Stamp.f k x.f4).bind fun s => if s.2 ≠ 0 then some s.2
      else if 0 < i ∧ x.f4 ≤ (rd_T39 es ((i : Int) - 1)).f4 then some 5 else some 0
theorem era_cells {w : World} {b : Nat} {x : S39} (h : w.heap[b]? = some (.cells #[.int .i64 x.f0, .string x.f1, .int .i64 x.f2, .string x.f3, .int .i64 x.f4] 39 (0, 0))) : w.cell? ⟨b, 0, none⟩ = some (.int .i64 x.f0) ∧ w.cell? ⟨b, 1, none⟩ = some (.string x.f1) ∧ w.cell? ⟨b, 2, none⟩ = some (.int .i64 x.f2) ∧ w.cell? ⟨b, 3, none⟩ = some (.string x.f3) ∧ w.cell? ⟨b, 4, none⟩ = some (.int .i64 x.f4) ∧ b < w.heap.size :=
  ⟨(blk_cell h 0).trans rfl, (blk_cell h 1).trans rfl, (blk_cell h 2).trans rfl, (blk_cell h 3).trans rfl, (blk_cell h 4).trans rfl, blk_lt h⟩
theorem within_f (a lo hi : Int) : book_within.f a lo hi = some (decide (lo ≤ a ∧ a ≤ hi)) := by
  unfold book_within.f
  by_cases h : a ≥ lo
  · rw [if_pos h]
    congr 1
    by_cases h2 : a ≤ hi
    · rw [decide_eq_true h2, decide_eq_true ⟨h, h2⟩]
    · rw [decide_eq_false h2, decide_eq_false (fun q => h2 q.2)]
  · rw [if_neg h, decide_eq_false (fun q => h q.1)]
theorem within_yes {a lo hi : Int} (h : lo ≤ a ∧ a ≤ hi) : Aside0 (book_within.f a lo hi = some true) := ⟨by rw [within_f, decide_eq_true h]⟩
theorem within_no {a lo hi : Int} (h : ¬ (lo ≤ a ∧ a ≤ hi)) : Aside0 (book_within.f a lo hi = some false) := ⟨by rw [within_f, decide_eq_false h]⟩
theorem within_is {a lo hi : Int} {b : Bool} (h : Aside0 (book_within.f a lo hi = some b)) : book_within.f a lo hi = some b := h.out
set_option maxHeartbeats 4000000 in
set_option maxRecDepth 100000 in
theorem bk_era.calls (k : Nat) (gc : Nat) (A0 : Option Addr) (c0 : Nat) (l0 : List S65) (v1 v2 : Value) (nm : ByteArray) (A1 : Option Addr) (c1 : Nat) (es : List S39) (i : Nat) (hi : i < es.length) (hes : es.length ≤ 4611686018427387904) (r : Int) (w : World) (hL : LaidT w) (hb : w.heap[gc]? = some (.cells #[.slice A0 l0.length c0, v1, v2] 69 (0, 0))) (hr0 : Kd.C k65 w A0 l0.length l0) (hn : l0.length ≤ 4611686018427387904) (hr1 : Kd.C k39 w A1 es.length es) (h : bk_era k l0 es i = some r) :
    Calls Tryz.prog 49 #[.pointer (some ⟨gc, 0, none⟩), .agg #[.string nm, .slice A1 es.length c1], .int .i64 i] w fun e w' => e = .returned (.int .i64 r) ∧ Below w.heap.size w w' := by
  have hu := Tryz.underlying69
  have hu2 := Tryz.underlying27
  have hu3 := Tryz.underlying39
  have hu4 := Tryz.underlying65
  have hu5 := Tryz.underlying43
  have HC := Aside0.mk hb
  have HR := Aside0.mk hr0
  have HR1 := Aside0.mk hr1
  have HL := Aside0.mk hL
  have hk0 : (0 : Int) ≤ (i : Int) := Int.natCast_nonneg _
  have hk1 : (i : Int) < (es.length : Int) := by omega
  obtain ⟨ac, e, p0, p1, p2, p3, p4⟩ := at_T39 hr1 (i : Int) hk0 hk1
  cases e
  rw [Int.toNat_natCast] at p0 p1 p2 p3 p4
  have hcl := World.block_lt_of_cell? _ _ p0
  have HH := Aside0.mk h
  have hwi : wrap64 ((es.length : Int) - 1) = (es.length : Int) - 1 := IntWalk.wrap64_in _ (by omega)
  obtain ⟨x, hx⟩ : ∃ x, x = rd_T39 es (i : Int) := ⟨_, rfl⟩
  simp only [← hx] at p0 p1 p2 p3 p4
  have HX0 := Aside0.mk hx
  clear hb hr0 hr1 hL h hx
  go_enter Tryz.func49, Tryz.ntmps49
  go_wp2_with fail
  go_region
  have HXz := Aside0.mk (((below_alloc (Below.refl _ (w.alloc (Obj.cells #[.string nm, .slice (some ac) es.length c1] 43))) (Obj.cells #[.int .i64 x.f0, .string x.f1, .int .i64 x.f2, .string x.f3, .int .i64 x.f4] 39)).block w.heap.size (by simp)).trans (heap_alloc_new w (Obj.cells #[.string nm, .slice (some ac) es.length c1] 43)))
  have HXe : Aside0 ((((w.alloc (Obj.cells #[.string nm, .slice (some ac) es.length c1] 43)).alloc (Obj.cells #[.int .i64 x.f0, .string x.f1, .int .i64 x.f2, .string x.f3, .int .i64 x.f4] 39)).drew).heap[w.heap.size + 1]? = some (.cells #[.int .i64 x.f0, .string x.f1, .int .i64 x.f2, .string x.f3, .int .i64 x.f4] 39 (0, 0))) := ⟨by have h := heap_alloc_new (w.alloc (Obj.cells #[.string nm, .slice (some ac) es.length c1] 43)) (Obj.cells #[.int .i64 x.f0, .string x.f1, .int .i64 x.f2, .string x.f3, .int .i64 x.f4] 39); rw [World.size_alloc] at h; exact h⟩
  have HB := Aside0.mk (below_drew (below_alloc (below_alloc (Below.refl w.heap.size w) (Obj.cells #[.string nm, .slice (some ac) es.length c1] 43)) (Obj.cells #[.int .i64 x.f0, .string x.f1, .int .i64 x.f2, .string x.f3, .int .i64 x.f4] 39)))
  have HXz' : Aside0 ((((w.alloc (Obj.cells #[.string nm, .slice (some ac) es.length c1] 43)).alloc (Obj.cells #[.int .i64 x.f0, .string x.f1, .int .i64 x.f2, .string x.f3, .int .i64 x.f4] 39)).drew).heap[w.heap.size]? = _) := HXz
  clear HXz
  have HXz := HXz'
  clear HXz'
  generalize ((w.alloc (Obj.cells #[.string nm, .slice (some ac) es.length c1] 43)).alloc (Obj.cells #[.int .i64 x.f0, .string x.f1, .int .i64 x.f2, .string x.f3, .int .i64 x.f4] 39)).drew = w2 at HXz HXe HB ⊢
  obtain ⟨be, hbE⟩ : ∃ b, b = w.heap.size + 1 := ⟨_, rfl⟩
  obtain ⟨bz, hbZ⟩ : ∃ b, b = w.heap.size := ⟨_, rfl⟩
  rw [← hbE] at HXe
  rw [← hbZ] at HXz
  simp only [← hbE]
  simp only [← hbZ]
  have HBE := Aside0.mk hbE
  have HBZ := Aside0.mk hbZ
  clear hbE hbZ p0 p1 p2 p3 p4 hcl
  obtain ⟨y0, y1, y2, y3, y4, hbe⟩ := era_cells HXe.out
  have hbz := blk_lt HXz.out
  have z1 : w2.cell? ⟨bz, 1, none⟩ = some (.slice (some ac) es.length c1) := (blk_cell HXz.out 1).trans rfl
  have zc : w2.cell? ⟨gc, 0, none⟩ = some (.slice A0 l0.length c0) := (blk_cell (blk_below HC.out HB.out) 0).trans rfl
  have hgc := blk_lt (blk_below HC.out HB.out)
  have hh := HH.out
  unfold bk_era at hh
  simp only [← HX0.out] at hh
  by_cases q1 : -64800 ≤ x.f0 ∧ x.f0 ≤ 64800
  case neg =>
    rw [if_pos (by omega)] at hh
    obtain rfl := Option.some.inj hh
    clear hh
    have Q1 := within_no q1
    clear q1
    go_wp2_with (first | (go_at_call 25; with_reducible refine (book_within.calls x.f0 (-64800) 64800 false _ (within_is Q1)).mono ?_; rintro e' w3 ⟨rfl, hb'⟩; have n1 := Aside0.mk (blk_below HXz.out hb'.below); have n2 := Aside0.mk (blk_below HXe.out hb'.below); have n3 := Aside0.mk (below_then HB.out HB.out.size hb'.below); clear HXz HXe HB hb' y0 y1 y2 y3 y4 hbe hbz z1 zc hgc; have HXz := n1; have HXe := n2; have HB := n3; clear n1 n2 n3; obtain ⟨y0, y1, y2, y3, y4, hbe⟩ := era_cells HXe.out; have hbz := blk_lt HXz.out; have z1 : w3.cell? ⟨bz, 1, none⟩ = some (.slice (some ac) es.length c1) := (blk_cell HXz.out 1).trans rfl; have zc : w3.cell? ⟨gc, 0, none⟩ = some (.slice A0 l0.length c0) := (blk_cell (blk_below HC.out HB.out) 0).trans rfl; have hgc := blk_lt (blk_below HC.out HB.out)))
    go_ret
    exact ⟨rfl, HB.out⟩
  by_cases q2 : 0 ≤ x.f2 ∧ x.f2 ≤ 10800
  case neg =>
    rw [if_pos (by omega)] at hh
    obtain rfl := Option.some.inj hh
    clear hh
    have Q1 := within_yes q1
    have Q2 := within_no q2
    clear q1 q2
    go_wp2_with (first | (go_at_call 25; with_reducible refine (book_within.calls x.f0 (-64800) 64800 true _ (within_is Q1)).mono ?_; rintro e' w3 ⟨rfl, hb'⟩; have n1 := Aside0.mk (blk_below HXz.out hb'.below); have n2 := Aside0.mk (blk_below HXe.out hb'.below); have n3 := Aside0.mk (below_then HB.out HB.out.size hb'.below); clear HXz HXe HB hb' y0 y1 y2 y3 y4 hbe hbz z1 zc hgc; have HXz := n1; have HXe := n2; have HB := n3; clear n1 n2 n3; obtain ⟨y0, y1, y2, y3, y4, hbe⟩ := era_cells HXe.out; have hbz := blk_lt HXz.out; have z1 : w3.cell? ⟨bz, 1, none⟩ = some (.slice (some ac) es.length c1) := (blk_cell HXz.out 1).trans rfl; have zc : w3.cell? ⟨gc, 0, none⟩ = some (.slice A0 l0.length c0) := (blk_cell (blk_below HC.out HB.out) 0).trans rfl; have hgc := blk_lt (blk_below HC.out HB.out)) | (go_at_call 25; with_reducible refine (book_within.calls x.f2 0 10800 false _ (within_is Q2)).mono ?_; rintro e' w3 ⟨rfl, hb'⟩; have n1 := Aside0.mk (blk_below HXz.out hb'.below); have n2 := Aside0.mk (blk_below HXe.out hb'.below); have n3 := Aside0.mk (below_then HB.out HB.out.size hb'.below); clear HXz HXe HB hb' y0 y1 y2 y3 y4 hbe hbz z1 zc hgc; have HXz := n1; have HXe := n2; have HB := n3; clear n1 n2 n3; obtain ⟨y0, y1, y2, y3, y4, hbe⟩ := era_cells HXe.out; have hbz := blk_lt HXz.out; have z1 : w3.cell? ⟨bz, 1, none⟩ = some (.slice (some ac) es.length c1) := (blk_cell HXz.out 1).trans rfl; have zc : w3.cell? ⟨gc, 0, none⟩ = some (.slice A0 l0.length c0) := (blk_cell (blk_below HC.out HB.out) 0).trans rfl; have hgc := blk_lt (blk_below HC.out HB.out)))
    go_ret
    exact ⟨rfl, HB.out⟩
  rw [if_neg (by omega)] at hh
  have Q1 := within_yes q1
  have Q2 := within_yes q2
  clear q1 q2
  by_cases q3 : x.f2 ≠ 0 ∧ x.f1.toList ≠ ([] : List UInt8)
  case pos =>
    rw [if_pos q3] at hh
    obtain rfl := Option.some.inj hh
    obtain ⟨t0, t1⟩ := int_no q3.1
    obtain ⟨t2, t3⟩ := str_no q3.2
    clear hh q3
    go_wp2_with (first | (go_at_call 25; with_reducible refine (book_within.calls x.f0 (-64800) 64800 true _ (within_is Q1)).mono ?_; rintro e' w3 ⟨rfl, hb'⟩; have n1 := Aside0.mk (blk_below HXz.out hb'.below); have n2 := Aside0.mk (blk_below HXe.out hb'.below); have n3 := Aside0.mk (below_then HB.out HB.out.size hb'.below); clear HXz HXe HB hb' y0 y1 y2 y3 y4 hbe hbz z1 zc hgc; have HXz := n1; have HXe := n2; have HB := n3; clear n1 n2 n3; obtain ⟨y0, y1, y2, y3, y4, hbe⟩ := era_cells HXe.out; have hbz := blk_lt HXz.out; have z1 : w3.cell? ⟨bz, 1, none⟩ = some (.slice (some ac) es.length c1) := (blk_cell HXz.out 1).trans rfl; have zc : w3.cell? ⟨gc, 0, none⟩ = some (.slice A0 l0.length c0) := (blk_cell (blk_below HC.out HB.out) 0).trans rfl; have hgc := blk_lt (blk_below HC.out HB.out)) | (go_at_call 25; with_reducible refine (book_within.calls x.f2 0 10800 true _ (within_is Q2)).mono ?_; rintro e' w3 ⟨rfl, hb'⟩; have n1 := Aside0.mk (blk_below HXz.out hb'.below); have n2 := Aside0.mk (blk_below HXe.out hb'.below); have n3 := Aside0.mk (below_then HB.out HB.out.size hb'.below); clear HXz HXe HB hb' y0 y1 y2 y3 y4 hbe hbz z1 zc hgc; have HXz := n1; have HXe := n2; have HB := n3; clear n1 n2 n3; obtain ⟨y0, y1, y2, y3, y4, hbe⟩ := era_cells HXe.out; have hbz := blk_lt HXz.out; have z1 : w3.cell? ⟨bz, 1, none⟩ = some (.slice (some ac) es.length c1) := (blk_cell HXz.out 1).trans rfl; have zc : w3.cell? ⟨gc, 0, none⟩ = some (.slice A0 l0.length c0) := (blk_cell (blk_below HC.out HB.out) 0).trans rfl; have hgc := blk_lt (blk_below HC.out HB.out)))
    go_ret
    exact ⟨rfl, HB.out⟩
  rw [if_neg q3] at hh
  by_cases q4 : x.f1.toList ≠ ([] : List UInt8) ∧ l0.any (fun r => same r.f0 x.f1) = false
  case pos =>
    rw [if_pos q4] at hh
    obtain rfl := Option.some.inj hh
    obtain ⟨t0, t1⟩ := int_yes (show x.f2 = 0 from Classical.byContradiction fun h => q3 ⟨h, q4.1⟩)
    obtain ⟨t2, t3⟩ := str_no q4.1
    have HA := Aside0.mk q4.2
    clear hh q3 q4
    go_wp2_with (first | (go_at_call 25; with_reducible refine (book_within.calls x.f0 (-64800) 64800 true _ (within_is Q1)).mono ?_; rintro e' w3 ⟨rfl, hb'⟩; have n1 := Aside0.mk (blk_below HXz.out hb'.below); have n2 := Aside0.mk (blk_below HXe.out hb'.below); have n3 := Aside0.mk (below_then HB.out HB.out.size hb'.below); clear HXz HXe HB hb' y0 y1 y2 y3 y4 hbe hbz z1 zc hgc; have HXz := n1; have HXe := n2; have HB := n3; clear n1 n2 n3; obtain ⟨y0, y1, y2, y3, y4, hbe⟩ := era_cells HXe.out; have hbz := blk_lt HXz.out; have z1 : w3.cell? ⟨bz, 1, none⟩ = some (.slice (some ac) es.length c1) := (blk_cell HXz.out 1).trans rfl; have zc : w3.cell? ⟨gc, 0, none⟩ = some (.slice A0 l0.length c0) := (blk_cell (blk_below HC.out HB.out) 0).trans rfl; have hgc := blk_lt (blk_below HC.out HB.out)) | (go_at_call 25; with_reducible refine (book_within.calls x.f2 0 10800 true _ (within_is Q2)).mono ?_; rintro e' w3 ⟨rfl, hb'⟩; have n1 := Aside0.mk (blk_below HXz.out hb'.below); have n2 := Aside0.mk (blk_below HXe.out hb'.below); have n3 := Aside0.mk (below_then HB.out HB.out.size hb'.below); clear HXz HXe HB hb' y0 y1 y2 y3 y4 hbe hbz z1 zc hgc; have HXz := n1; have HXe := n2; have HB := n3; clear n1 n2 n3; obtain ⟨y0, y1, y2, y3, y4, hbe⟩ := era_cells HXe.out; have hbz := blk_lt HXz.out; have z1 : w3.cell? ⟨bz, 1, none⟩ = some (.slice (some ac) es.length c1) := (blk_cell HXz.out 1).trans rfl; have zc : w3.cell? ⟨gc, 0, none⟩ = some (.slice A0 l0.length c0) := (blk_cell (blk_below HC.out HB.out) 0).trans rfl; have hgc := blk_lt (blk_below HC.out HB.out)) | (go_at_call 80; with_reducible refine (has_era.calls be x A0 c0 l0 hn false HA.out _ (Kd.C_below HR.out HB.out) HXe.out).mono ?_; rintro e' w3 ⟨rfl, hb'⟩; have n1 := Aside0.mk (blk_below HXz.out hb'); have n2 := Aside0.mk (blk_below HXe.out hb'); have n3 := Aside0.mk (below_then HB.out HB.out.size hb'); clear HXz HXe HB hb' y0 y1 y2 y3 y4 hbe hbz z1 zc hgc; have HXz := n1; have HXe := n2; have HB := n3; clear n1 n2 n3; obtain ⟨y0, y1, y2, y3, y4, hbe⟩ := era_cells HXe.out; have hbz := blk_lt HXz.out; have z1 : w3.cell? ⟨bz, 1, none⟩ = some (.slice (some ac) es.length c1) := (blk_cell HXz.out 1).trans rfl; have zc : w3.cell? ⟨gc, 0, none⟩ = some (.slice A0 l0.length c0) := (blk_cell (blk_below HC.out HB.out) 0).trans rfl; have hgc := blk_lt (blk_below HC.out HB.out)))
    go_ret
    exact ⟨rfl, HB.out⟩
  rw [if_neg q4] at hh
  have way : Aside0 ((((x.f2 == 0) = false ∧ (x.f2 != 0) = true) ∧ ((x.f1.toList == ([] : List UInt8)) = true ∧ (x.f1.toList != ([] : List UInt8)) = false) ∧ Aside0 True) ∨ (((x.f2 == 0) = true ∧ (x.f2 != 0) = false) ∧ ((x.f1.toList == ([] : List UInt8)) = true ∧ (x.f1.toList != ([] : List UInt8)) = false) ∧ Aside0 True) ∨ (((x.f2 == 0) = true ∧ (x.f2 != 0) = false) ∧ ((x.f1.toList == ([] : List UInt8)) = false ∧ (x.f1.toList != ([] : List UInt8)) = true) ∧ Aside0 (l0.any (fun r => same r.f0 x.f1) = true))) := by
    constructor
    by_cases g1 : x.f2 = 0
    · by_cases g2 : x.f1.toList = ([] : List UInt8)
      · exact .inr (.inl ⟨int_yes g1, str_yes g2, ⟨trivial⟩⟩)
      · exact .inr (.inr ⟨int_yes g1, str_no g2, ⟨by
          cases h : l0.any (fun r => same r.f0 x.f1) with
          | true => rfl
          | false => exact absurd ⟨g2, h⟩ q4⟩⟩)
    · by_cases g2 : x.f1.toList = ([] : List UInt8)
      · exact .inl ⟨int_no g1, str_yes g2, ⟨trivial⟩⟩
      · exact absurd ⟨g1, g2⟩ q3
  clear q3 q4
  obtain ⟨e, he, hh⟩ := Option.bind_eq_some_iff.mp hh
  have HE := Aside0.mk he
  clear he
  by_cases e0 : e = 0
  case neg =>
    rw [if_pos e0] at hh
    obtain rfl := Option.some.inj hh
    obtain ⟨u0, u1⟩ := int_no e0
    clear hh e0
    rcases way.out with ⟨⟨t0, t1⟩, ⟨t2, t3⟩, HA⟩ | ⟨⟨t0, t1⟩, ⟨t2, t3⟩, HA⟩ | ⟨⟨t0, t1⟩, ⟨t2, t3⟩, HA⟩
    all_goals
      clear way
      go_wp2_with (first | (go_at_call 25; with_reducible refine (book_within.calls x.f0 (-64800) 64800 true _ (within_is Q1)).mono ?_; rintro e' w3 ⟨rfl, hb'⟩; have n1 := Aside0.mk (blk_below HXz.out hb'.below); have n2 := Aside0.mk (blk_below HXe.out hb'.below); have n3 := Aside0.mk (below_then HB.out HB.out.size hb'.below); clear HXz HXe HB hb' y0 y1 y2 y3 y4 hbe hbz z1 zc hgc; have HXz := n1; have HXe := n2; have HB := n3; clear n1 n2 n3; obtain ⟨y0, y1, y2, y3, y4, hbe⟩ := era_cells HXe.out; have hbz := blk_lt HXz.out; have z1 : w3.cell? ⟨bz, 1, none⟩ = some (.slice (some ac) es.length c1) := (blk_cell HXz.out 1).trans rfl; have zc : w3.cell? ⟨gc, 0, none⟩ = some (.slice A0 l0.length c0) := (blk_cell (blk_below HC.out HB.out) 0).trans rfl; have hgc := blk_lt (blk_below HC.out HB.out)) | (go_at_call 25; with_reducible refine (book_within.calls x.f2 0 10800 true _ (within_is Q2)).mono ?_; rintro e' w3 ⟨rfl, hb'⟩; have n1 := Aside0.mk (blk_below HXz.out hb'.below); have n2 := Aside0.mk (blk_below HXe.out hb'.below); have n3 := Aside0.mk (below_then HB.out HB.out.size hb'.below); clear HXz HXe HB hb' y0 y1 y2 y3 y4 hbe hbz z1 zc hgc; have HXz := n1; have HXe := n2; have HB := n3; clear n1 n2 n3; obtain ⟨y0, y1, y2, y3, y4, hbe⟩ := era_cells HXe.out; have hbz := blk_lt HXz.out; have z1 : w3.cell? ⟨bz, 1, none⟩ = some (.slice (some ac) es.length c1) := (blk_cell HXz.out 1).trans rfl; have zc : w3.cell? ⟨gc, 0, none⟩ = some (.slice A0 l0.length c0) := (blk_cell (blk_below HC.out HB.out) 0).trans rfl; have hgc := blk_lt (blk_below HC.out HB.out)) | (go_at_call 80; with_reducible refine (has_era.calls be x A0 c0 l0 hn true HA.out _ (Kd.C_below HR.out HB.out) HXe.out).mono ?_; rintro e' w3 ⟨rfl, hb'⟩; have n1 := Aside0.mk (blk_below HXz.out hb'); have n2 := Aside0.mk (blk_below HXe.out hb'); have n3 := Aside0.mk (below_then HB.out HB.out.size hb'); clear HXz HXe HB hb' y0 y1 y2 y3 y4 hbe hbz z1 zc hgc; have HXz := n1; have HXe := n2; have HB := n3; clear n1 n2 n3; obtain ⟨y0, y1, y2, y3, y4, hbe⟩ := era_cells HXe.out; have hbz := blk_lt HXz.out; have z1 : w3.cell? ⟨bz, 1, none⟩ = some (.slice (some ac) es.length c1) := (blk_cell HXz.out 1).trans rfl; have zc : w3.cell? ⟨gc, 0, none⟩ = some (.slice A0 l0.length c0) := (blk_cell (blk_below HC.out HB.out) 0).trans rfl; have hgc := blk_lt (blk_below HC.out HB.out)) | (go_at_call 82; with_reducible refine (bk_abbrs.calls k gc A0 c0 l0 v1 v2 x _ _ (HL.out.sub HB.out) (blk_below HC.out HB.out) (Kd.C_below HR.out HB.out) hn HE.out).mono ?_; rintro e' w3 ⟨rfl, hb'⟩; have n1 := Aside0.mk (blk_below HXz.out hb'); have n2 := Aside0.mk (blk_below HXe.out hb'); have n3 := Aside0.mk (below_then HB.out HB.out.size hb'); clear HXz HXe HB hb' y0 y1 y2 y3 y4 hbe hbz z1 zc hgc; have HXz := n1; have HXe := n2; have HB := n3; clear n1 n2 n3; obtain ⟨y0, y1, y2, y3, y4, hbe⟩ := era_cells HXe.out; have hbz := blk_lt HXz.out; have z1 : w3.cell? ⟨bz, 1, none⟩ = some (.slice (some ac) es.length c1) := (blk_cell HXz.out 1).trans rfl; have zc : w3.cell? ⟨gc, 0, none⟩ = some (.slice A0 l0.length c0) := (blk_cell (blk_below HC.out HB.out) 0).trans rfl; have hgc := blk_lt (blk_below HC.out HB.out)))
      go_ret
      exact ⟨rfl, HB.out⟩
  subst e0
  rw [if_neg (by decide)] at hh
  by_cases q5 : i + 1 = es.length
  case pos =>
    rw [if_pos q5] at hh
    have hlast : ((i : Int) == (es.length : Int) - 1) = true := beq_iff_eq.mpr (by omega)
    clear q5
    by_cases q6 : x.f4 = 0
    case pos =>
      rw [if_pos q6] at hh
      obtain rfl := Option.some.inj hh
      obtain ⟨u0, u1⟩ := int_yes q6
      clear hh q6
      rcases way.out with ⟨⟨t0, t1⟩, ⟨t2, t3⟩, HA⟩ | ⟨⟨t0, t1⟩, ⟨t2, t3⟩, HA⟩ | ⟨⟨t0, t1⟩, ⟨t2, t3⟩, HA⟩
      all_goals
        clear way
        go_wp2_with (first | (go_at_call 25; with_reducible refine (book_within.calls x.f0 (-64800) 64800 true _ (within_is Q1)).mono ?_; rintro e' w3 ⟨rfl, hb'⟩; have n1 := Aside0.mk (blk_below HXz.out hb'.below); have n2 := Aside0.mk (blk_below HXe.out hb'.below); have n3 := Aside0.mk (below_then HB.out HB.out.size hb'.below); clear HXz HXe HB hb' y0 y1 y2 y3 y4 hbe hbz z1 zc hgc; have HXz := n1; have HXe := n2; have HB := n3; clear n1 n2 n3; obtain ⟨y0, y1, y2, y3, y4, hbe⟩ := era_cells HXe.out; have hbz := blk_lt HXz.out; have z1 : w3.cell? ⟨bz, 1, none⟩ = some (.slice (some ac) es.length c1) := (blk_cell HXz.out 1).trans rfl; have zc : w3.cell? ⟨gc, 0, none⟩ = some (.slice A0 l0.length c0) := (blk_cell (blk_below HC.out HB.out) 0).trans rfl; have hgc := blk_lt (blk_below HC.out HB.out)) | (go_at_call 25; with_reducible refine (book_within.calls x.f2 0 10800 true _ (within_is Q2)).mono ?_; rintro e' w3 ⟨rfl, hb'⟩; have n1 := Aside0.mk (blk_below HXz.out hb'.below); have n2 := Aside0.mk (blk_below HXe.out hb'.below); have n3 := Aside0.mk (below_then HB.out HB.out.size hb'.below); clear HXz HXe HB hb' y0 y1 y2 y3 y4 hbe hbz z1 zc hgc; have HXz := n1; have HXe := n2; have HB := n3; clear n1 n2 n3; obtain ⟨y0, y1, y2, y3, y4, hbe⟩ := era_cells HXe.out; have hbz := blk_lt HXz.out; have z1 : w3.cell? ⟨bz, 1, none⟩ = some (.slice (some ac) es.length c1) := (blk_cell HXz.out 1).trans rfl; have zc : w3.cell? ⟨gc, 0, none⟩ = some (.slice A0 l0.length c0) := (blk_cell (blk_below HC.out HB.out) 0).trans rfl; have hgc := blk_lt (blk_below HC.out HB.out)) | (go_at_call 80; with_reducible refine (has_era.calls be x A0 c0 l0 hn true HA.out _ (Kd.C_below HR.out HB.out) HXe.out).mono ?_; rintro e' w3 ⟨rfl, hb'⟩; have n1 := Aside0.mk (blk_below HXz.out hb'); have n2 := Aside0.mk (blk_below HXe.out hb'); have n3 := Aside0.mk (below_then HB.out HB.out.size hb'); clear HXz HXe HB hb' y0 y1 y2 y3 y4 hbe hbz z1 zc hgc; have HXz := n1; have HXe := n2; have HB := n3; clear n1 n2 n3; obtain ⟨y0, y1, y2, y3, y4, hbe⟩ := era_cells HXe.out; have hbz := blk_lt HXz.out; have z1 : w3.cell? ⟨bz, 1, none⟩ = some (.slice (some ac) es.length c1) := (blk_cell HXz.out 1).trans rfl; have zc : w3.cell? ⟨gc, 0, none⟩ = some (.slice A0 l0.length c0) := (blk_cell (blk_below HC.out HB.out) 0).trans rfl; have hgc := blk_lt (blk_below HC.out HB.out)) | (go_at_call 82; with_reducible refine (bk_abbrs.calls k gc A0 c0 l0 v1 v2 x _ _ (HL.out.sub HB.out) (blk_below HC.out HB.out) (Kd.C_below HR.out HB.out) hn HE.out).mono ?_; rintro e' w3 ⟨rfl, hb'⟩; have n1 := Aside0.mk (blk_below HXz.out hb'); have n2 := Aside0.mk (blk_below HXe.out hb'); have n3 := Aside0.mk (below_then HB.out HB.out.size hb'); clear HXz HXe HB hb' y0 y1 y2 y3 y4 hbe hbz z1 zc hgc; have HXz := n1; have HXe := n2; have HB := n3; clear n1 n2 n3; obtain ⟨y0, y1, y2, y3, y4, hbe⟩ := era_cells HXe.out; have hbz := blk_lt HXz.out; have z1 : w3.cell? ⟨bz, 1, none⟩ = some (.slice (some ac) es.length c1) := (blk_cell HXz.out 1).trans rfl; have zc : w3.cell? ⟨gc, 0, none⟩ = some (.slice A0 l0.length c0) := (blk_cell (blk_below HC.out HB.out) 0).trans rfl; have hgc := blk_lt (blk_below HC.out HB.out)))
        go_ret
        exact ⟨rfl, HB.out⟩
    rw [if_neg q6] at hh
    obtain rfl := Option.some.inj hh
    obtain ⟨u0, u1⟩ := int_no q6
    clear hh q6
    rcases way.out with ⟨⟨t0, t1⟩, ⟨t2, t3⟩, HA⟩ | ⟨⟨t0, t1⟩, ⟨t2, t3⟩, HA⟩ | ⟨⟨t0, t1⟩, ⟨t2, t3⟩, HA⟩
    all_goals
      clear way
      go_wp2_with (first | (go_at_call 25; with_reducible refine (book_within.calls x.f0 (-64800) 64800 true _ (within_is Q1)).mono ?_; rintro e' w3 ⟨rfl, hb'⟩; have n1 := Aside0.mk (blk_below HXz.out hb'.below); have n2 := Aside0.mk (blk_below HXe.out hb'.below); have n3 := Aside0.mk (below_then HB.out HB.out.size hb'.below); clear HXz HXe HB hb' y0 y1 y2 y3 y4 hbe hbz z1 zc hgc; have HXz := n1; have HXe := n2; have HB := n3; clear n1 n2 n3; obtain ⟨y0, y1, y2, y3, y4, hbe⟩ := era_cells HXe.out; have hbz := blk_lt HXz.out; have z1 : w3.cell? ⟨bz, 1, none⟩ = some (.slice (some ac) es.length c1) := (blk_cell HXz.out 1).trans rfl; have zc : w3.cell? ⟨gc, 0, none⟩ = some (.slice A0 l0.length c0) := (blk_cell (blk_below HC.out HB.out) 0).trans rfl; have hgc := blk_lt (blk_below HC.out HB.out)) | (go_at_call 25; with_reducible refine (book_within.calls x.f2 0 10800 true _ (within_is Q2)).mono ?_; rintro e' w3 ⟨rfl, hb'⟩; have n1 := Aside0.mk (blk_below HXz.out hb'.below); have n2 := Aside0.mk (blk_below HXe.out hb'.below); have n3 := Aside0.mk (below_then HB.out HB.out.size hb'.below); clear HXz HXe HB hb' y0 y1 y2 y3 y4 hbe hbz z1 zc hgc; have HXz := n1; have HXe := n2; have HB := n3; clear n1 n2 n3; obtain ⟨y0, y1, y2, y3, y4, hbe⟩ := era_cells HXe.out; have hbz := blk_lt HXz.out; have z1 : w3.cell? ⟨bz, 1, none⟩ = some (.slice (some ac) es.length c1) := (blk_cell HXz.out 1).trans rfl; have zc : w3.cell? ⟨gc, 0, none⟩ = some (.slice A0 l0.length c0) := (blk_cell (blk_below HC.out HB.out) 0).trans rfl; have hgc := blk_lt (blk_below HC.out HB.out)) | (go_at_call 80; with_reducible refine (has_era.calls be x A0 c0 l0 hn true HA.out _ (Kd.C_below HR.out HB.out) HXe.out).mono ?_; rintro e' w3 ⟨rfl, hb'⟩; have n1 := Aside0.mk (blk_below HXz.out hb'); have n2 := Aside0.mk (blk_below HXe.out hb'); have n3 := Aside0.mk (below_then HB.out HB.out.size hb'); clear HXz HXe HB hb' y0 y1 y2 y3 y4 hbe hbz z1 zc hgc; have HXz := n1; have HXe := n2; have HB := n3; clear n1 n2 n3; obtain ⟨y0, y1, y2, y3, y4, hbe⟩ := era_cells HXe.out; have hbz := blk_lt HXz.out; have z1 : w3.cell? ⟨bz, 1, none⟩ = some (.slice (some ac) es.length c1) := (blk_cell HXz.out 1).trans rfl; have zc : w3.cell? ⟨gc, 0, none⟩ = some (.slice A0 l0.length c0) := (blk_cell (blk_below HC.out HB.out) 0).trans rfl; have hgc := blk_lt (blk_below HC.out HB.out)) | (go_at_call 82; with_reducible refine (bk_abbrs.calls k gc A0 c0 l0 v1 v2 x _ _ (HL.out.sub HB.out) (blk_below HC.out HB.out) (Kd.C_below HR.out HB.out) hn HE.out).mono ?_; rintro e' w3 ⟨rfl, hb'⟩; have n1 := Aside0.mk (blk_below HXz.out hb'); have n2 := Aside0.mk (blk_below HXe.out hb'); have n3 := Aside0.mk (below_then HB.out HB.out.size hb'); clear HXz HXe HB hb' y0 y1 y2 y3 y4 hbe hbz z1 zc hgc; have HXz := n1; have HXe := n2; have HB := n3; clear n1 n2 n3; obtain ⟨y0, y1, y2, y3, y4, hbe⟩ := era_cells HXe.out; have hbz := blk_lt HXz.out; have z1 : w3.cell? ⟨bz, 1, none⟩ = some (.slice (some ac) es.length c1) := (blk_cell HXz.out 1).trans rfl; have zc : w3.cell? ⟨gc, 0, none⟩ = some (.slice A0 l0.length c0) := (blk_cell (blk_below HC.out HB.out) 0).trans rfl; have hgc := blk_lt (blk_below HC.out HB.out)))
      go_ret
      exact ⟨rfl, HB.out⟩
  rw [if_neg q5] at hh
  have hlast : ((i : Int) == (es.length : Int) - 1) = false := beq_eq_false_iff_ne.mpr (by omega)
  clear q5
  by_cases q6 : -1099511627776 ≤ x.f4 ∧ x.f4 ≤ 1099511627776
  case neg =>
    rw [if_pos q6] at hh
    obtain rfl := Option.some.inj hh
    have Q4 := within_no q6
    clear hh q6
    rcases way.out with ⟨⟨t0, t1⟩, ⟨t2, t3⟩, HA⟩ | ⟨⟨t0, t1⟩, ⟨t2, t3⟩, HA⟩ | ⟨⟨t0, t1⟩, ⟨t2, t3⟩, HA⟩
    all_goals
      clear way
      go_wp2_with (first | (go_at_call 25; with_reducible refine (book_within.calls x.f0 (-64800) 64800 true _ (within_is Q1)).mono ?_; rintro e' w3 ⟨rfl, hb'⟩; have n1 := Aside0.mk (blk_below HXz.out hb'.below); have n2 := Aside0.mk (blk_below HXe.out hb'.below); have n3 := Aside0.mk (below_then HB.out HB.out.size hb'.below); clear HXz HXe HB hb' y0 y1 y2 y3 y4 hbe hbz z1 zc hgc; have HXz := n1; have HXe := n2; have HB := n3; clear n1 n2 n3; obtain ⟨y0, y1, y2, y3, y4, hbe⟩ := era_cells HXe.out; have hbz := blk_lt HXz.out; have z1 : w3.cell? ⟨bz, 1, none⟩ = some (.slice (some ac) es.length c1) := (blk_cell HXz.out 1).trans rfl; have zc : w3.cell? ⟨gc, 0, none⟩ = some (.slice A0 l0.length c0) := (blk_cell (blk_below HC.out HB.out) 0).trans rfl; have hgc := blk_lt (blk_below HC.out HB.out)) | (go_at_call 25; with_reducible refine (book_within.calls x.f2 0 10800 true _ (within_is Q2)).mono ?_; rintro e' w3 ⟨rfl, hb'⟩; have n1 := Aside0.mk (blk_below HXz.out hb'.below); have n2 := Aside0.mk (blk_below HXe.out hb'.below); have n3 := Aside0.mk (below_then HB.out HB.out.size hb'.below); clear HXz HXe HB hb' y0 y1 y2 y3 y4 hbe hbz z1 zc hgc; have HXz := n1; have HXe := n2; have HB := n3; clear n1 n2 n3; obtain ⟨y0, y1, y2, y3, y4, hbe⟩ := era_cells HXe.out; have hbz := blk_lt HXz.out; have z1 : w3.cell? ⟨bz, 1, none⟩ = some (.slice (some ac) es.length c1) := (blk_cell HXz.out 1).trans rfl; have zc : w3.cell? ⟨gc, 0, none⟩ = some (.slice A0 l0.length c0) := (blk_cell (blk_below HC.out HB.out) 0).trans rfl; have hgc := blk_lt (blk_below HC.out HB.out)) | (go_at_call 80; with_reducible refine (has_era.calls be x A0 c0 l0 hn true HA.out _ (Kd.C_below HR.out HB.out) HXe.out).mono ?_; rintro e' w3 ⟨rfl, hb'⟩; have n1 := Aside0.mk (blk_below HXz.out hb'); have n2 := Aside0.mk (blk_below HXe.out hb'); have n3 := Aside0.mk (below_then HB.out HB.out.size hb'); clear HXz HXe HB hb' y0 y1 y2 y3 y4 hbe hbz z1 zc hgc; have HXz := n1; have HXe := n2; have HB := n3; clear n1 n2 n3; obtain ⟨y0, y1, y2, y3, y4, hbe⟩ := era_cells HXe.out; have hbz := blk_lt HXz.out; have z1 : w3.cell? ⟨bz, 1, none⟩ = some (.slice (some ac) es.length c1) := (blk_cell HXz.out 1).trans rfl; have zc : w3.cell? ⟨gc, 0, none⟩ = some (.slice A0 l0.length c0) := (blk_cell (blk_below HC.out HB.out) 0).trans rfl; have hgc := blk_lt (blk_below HC.out HB.out)) | (go_at_call 82; with_reducible refine (bk_abbrs.calls k gc A0 c0 l0 v1 v2 x _ _ (HL.out.sub HB.out) (blk_below HC.out HB.out) (Kd.C_below HR.out HB.out) hn HE.out).mono ?_; rintro e' w3 ⟨rfl, hb'⟩; have n1 := Aside0.mk (blk_below HXz.out hb'); have n2 := Aside0.mk (blk_below HXe.out hb'); have n3 := Aside0.mk (below_then HB.out HB.out.size hb'); clear HXz HXe HB hb' y0 y1 y2 y3 y4 hbe hbz z1 zc hgc; have HXz := n1; have HXe := n2; have HB := n3; clear n1 n2 n3; obtain ⟨y0, y1, y2, y3, y4, hbe⟩ := era_cells HXe.out; have hbz := blk_lt HXz.out; have z1 : w3.cell? ⟨bz, 1, none⟩ = some (.slice (some ac) es.length c1) := (blk_cell HXz.out 1).trans rfl; have zc : w3.cell? ⟨gc, 0, none⟩ = some (.slice A0 l0.length c0) := (blk_cell (blk_below HC.out HB.out) 0).trans rfl; have hgc := blk_lt (blk_below HC.out HB.out)) | (go_at_call 25; with_reducible refine (book_within.calls x.f4 (-1099511627776) 1099511627776 false _ (within_is Q4)).mono ?_; rintro e' w3 ⟨rfl, hb'⟩; have n1 := Aside0.mk (blk_below HXz.out hb'.below); have n2 := Aside0.mk (blk_below HXe.out hb'.below); have n3 := Aside0.mk (below_then HB.out HB.out.size hb'.below); clear HXz HXe HB hb' y0 y1 y2 y3 y4 hbe hbz z1 zc hgc; have HXz := n1; have HXe := n2; have HB := n3; clear n1 n2 n3; obtain ⟨y0, y1, y2, y3, y4, hbe⟩ := era_cells HXe.out; have hbz := blk_lt HXz.out; have z1 : w3.cell? ⟨bz, 1, none⟩ = some (.slice (some ac) es.length c1) := (blk_cell HXz.out 1).trans rfl; have zc : w3.cell? ⟨gc, 0, none⟩ = some (.slice A0 l0.length c0) := (blk_cell (blk_below HC.out HB.out) 0).trans rfl; have hgc := blk_lt (blk_below HC.out HB.out)))
      go_ret
      exact ⟨rfl, HB.out⟩
  rw [if_neg (by omega)] at hh
  have Q4 := within_yes q6
  clear q6
  obtain ⟨⟨s, se⟩, hs, hh⟩ := Option.bind_eq_some_iff.mp hh
  have HS := Aside0.mk hs
  clear hs
  dsimp only at hh
  by_cases q7 : se = 0
  case neg =>
    rw [if_pos q7] at hh
    obtain rfl := Option.some.inj hh
    obtain ⟨u0, u1⟩ := int_no q7
    clear hh q7
    rcases way.out with ⟨⟨t0, t1⟩, ⟨t2, t3⟩, HA⟩ | ⟨⟨t0, t1⟩, ⟨t2, t3⟩, HA⟩ | ⟨⟨t0, t1⟩, ⟨t2, t3⟩, HA⟩
    all_goals
      clear way
      go_wp2_with (first | (go_at_call 25; with_reducible refine (book_within.calls x.f0 (-64800) 64800 true _ (within_is Q1)).mono ?_; rintro e' w3 ⟨rfl, hb'⟩; have n1 := Aside0.mk (blk_below HXz.out hb'.below); have n2 := Aside0.mk (blk_below HXe.out hb'.below); have n3 := Aside0.mk (below_then HB.out HB.out.size hb'.below); clear HXz HXe HB hb' y0 y1 y2 y3 y4 hbe hbz z1 zc hgc; have HXz := n1; have HXe := n2; have HB := n3; clear n1 n2 n3; obtain ⟨y0, y1, y2, y3, y4, hbe⟩ := era_cells HXe.out; have hbz := blk_lt HXz.out; have z1 : w3.cell? ⟨bz, 1, none⟩ = some (.slice (some ac) es.length c1) := (blk_cell HXz.out 1).trans rfl; have zc : w3.cell? ⟨gc, 0, none⟩ = some (.slice A0 l0.length c0) := (blk_cell (blk_below HC.out HB.out) 0).trans rfl; have hgc := blk_lt (blk_below HC.out HB.out)) | (go_at_call 25; with_reducible refine (book_within.calls x.f2 0 10800 true _ (within_is Q2)).mono ?_; rintro e' w3 ⟨rfl, hb'⟩; have n1 := Aside0.mk (blk_below HXz.out hb'.below); have n2 := Aside0.mk (blk_below HXe.out hb'.below); have n3 := Aside0.mk (below_then HB.out HB.out.size hb'.below); clear HXz HXe HB hb' y0 y1 y2 y3 y4 hbe hbz z1 zc hgc; have HXz := n1; have HXe := n2; have HB := n3; clear n1 n2 n3; obtain ⟨y0, y1, y2, y3, y4, hbe⟩ := era_cells HXe.out; have hbz := blk_lt HXz.out; have z1 : w3.cell? ⟨bz, 1, none⟩ = some (.slice (some ac) es.length c1) := (blk_cell HXz.out 1).trans rfl; have zc : w3.cell? ⟨gc, 0, none⟩ = some (.slice A0 l0.length c0) := (blk_cell (blk_below HC.out HB.out) 0).trans rfl; have hgc := blk_lt (blk_below HC.out HB.out)) | (go_at_call 80; with_reducible refine (has_era.calls be x A0 c0 l0 hn true HA.out _ (Kd.C_below HR.out HB.out) HXe.out).mono ?_; rintro e' w3 ⟨rfl, hb'⟩; have n1 := Aside0.mk (blk_below HXz.out hb'); have n2 := Aside0.mk (blk_below HXe.out hb'); have n3 := Aside0.mk (below_then HB.out HB.out.size hb'); clear HXz HXe HB hb' y0 y1 y2 y3 y4 hbe hbz z1 zc hgc; have HXz := n1; have HXe := n2; have HB := n3; clear n1 n2 n3; obtain ⟨y0, y1, y2, y3, y4, hbe⟩ := era_cells HXe.out; have hbz := blk_lt HXz.out; have z1 : w3.cell? ⟨bz, 1, none⟩ = some (.slice (some ac) es.length c1) := (blk_cell HXz.out 1).trans rfl; have zc : w3.cell? ⟨gc, 0, none⟩ = some (.slice A0 l0.length c0) := (blk_cell (blk_below HC.out HB.out) 0).trans rfl; have hgc := blk_lt (blk_below HC.out HB.out)) | (go_at_call 82; with_reducible refine (bk_abbrs.calls k gc A0 c0 l0 v1 v2 x _ _ (HL.out.sub HB.out) (blk_below HC.out HB.out) (Kd.C_below HR.out HB.out) hn HE.out).mono ?_; rintro e' w3 ⟨rfl, hb'⟩; have n1 := Aside0.mk (blk_below HXz.out hb'); have n2 := Aside0.mk (blk_below HXe.out hb'); have n3 := Aside0.mk (below_then HB.out HB.out.size hb'); clear HXz HXe HB hb' y0 y1 y2 y3 y4 hbe hbz z1 zc hgc; have HXz := n1; have HXe := n2; have HB := n3; clear n1 n2 n3; obtain ⟨y0, y1, y2, y3, y4, hbe⟩ := era_cells HXe.out; have hbz := blk_lt HXz.out; have z1 : w3.cell? ⟨bz, 1, none⟩ = some (.slice (some ac) es.length c1) := (blk_cell HXz.out 1).trans rfl; have zc : w3.cell? ⟨gc, 0, none⟩ = some (.slice A0 l0.length c0) := (blk_cell (blk_below HC.out HB.out) 0).trans rfl; have hgc := blk_lt (blk_below HC.out HB.out)) | (go_at_call 25; with_reducible refine (book_within.calls x.f4 (-1099511627776) 1099511627776 true _ (within_is Q4)).mono ?_; rintro e' w3 ⟨rfl, hb'⟩; have n1 := Aside0.mk (blk_below HXz.out hb'.below); have n2 := Aside0.mk (blk_below HXe.out hb'.below); have n3 := Aside0.mk (below_then HB.out HB.out.size hb'.below); clear HXz HXe HB hb' y0 y1 y2 y3 y4 hbe hbz z1 zc hgc; have HXz := n1; have HXe := n2; have HB := n3; clear n1 n2 n3; obtain ⟨y0, y1, y2, y3, y4, hbe⟩ := era_cells HXe.out; have hbz := blk_lt HXz.out; have z1 : w3.cell? ⟨bz, 1, none⟩ = some (.slice (some ac) es.length c1) := (blk_cell HXz.out 1).trans rfl; have zc : w3.cell? ⟨gc, 0, none⟩ = some (.slice A0 l0.length c0) := (blk_cell (blk_below HC.out HB.out) 0).trans rfl; have hgc := blk_lt (blk_below HC.out HB.out)) | (go_at_call 59; with_reducible refine (clock_Stamp.calls k x.f4 _ _ _ (HL.out.sub HB.out) HS.out).mono ?_; rintro e' w3 ⟨rfl, hb'⟩; have n1 := Aside0.mk (blk_below HXz.out hb'); have n2 := Aside0.mk (blk_below HXe.out hb'); have n3 := Aside0.mk (below_then HB.out HB.out.size hb'); clear HXz HXe HB hb' y0 y1 y2 y3 y4 hbe hbz z1 zc hgc; have HXz := n1; have HXe := n2; have HB := n3; clear n1 n2 n3; obtain ⟨y0, y1, y2, y3, y4, hbe⟩ := era_cells HXe.out; have hbz := blk_lt HXz.out; have z1 : w3.cell? ⟨bz, 1, none⟩ = some (.slice (some ac) es.length c1) := (blk_cell HXz.out 1).trans rfl; have zc : w3.cell? ⟨gc, 0, none⟩ = some (.slice A0 l0.length c0) := (blk_cell (blk_below HC.out HB.out) 0).trans rfl; have hgc := blk_lt (blk_below HC.out HB.out)))
      go_ret
      exact ⟨rfl, HB.out⟩
  subst q7
  rw [if_neg (by decide)] at hh
  by_cases q8 : 0 < i
  case neg =>
    rw [if_neg (fun h => q8 h.1)] at hh
    obtain rfl := Option.some.inj hh
    have g1 : decide ((0 : Int) < (i : Int)) = false := decide_eq_false (by omega)
    have g2 : ¬ ((0 : Int) < (i : Int)) := by omega
    have g3 : decide (0 < i) = false := decide_eq_false q8
    clear hh
    rcases way.out with ⟨⟨t0, t1⟩, ⟨t2, t3⟩, HA⟩ | ⟨⟨t0, t1⟩, ⟨t2, t3⟩, HA⟩ | ⟨⟨t0, t1⟩, ⟨t2, t3⟩, HA⟩
    all_goals
      clear way
      go_wp2_with (first | (go_at_call 25; with_reducible refine (book_within.calls x.f0 (-64800) 64800 true _ (within_is Q1)).mono ?_; rintro e' w3 ⟨rfl, hb'⟩; have n1 := Aside0.mk (blk_below HXz.out hb'.below); have n2 := Aside0.mk (blk_below HXe.out hb'.below); have n3 := Aside0.mk (below_then HB.out HB.out.size hb'.below); clear HXz HXe HB hb' y0 y1 y2 y3 y4 hbe hbz z1 zc hgc; have HXz := n1; have HXe := n2; have HB := n3; clear n1 n2 n3; obtain ⟨y0, y1, y2, y3, y4, hbe⟩ := era_cells HXe.out; have hbz := blk_lt HXz.out; have z1 : w3.cell? ⟨bz, 1, none⟩ = some (.slice (some ac) es.length c1) := (blk_cell HXz.out 1).trans rfl; have zc : w3.cell? ⟨gc, 0, none⟩ = some (.slice A0 l0.length c0) := (blk_cell (blk_below HC.out HB.out) 0).trans rfl; have hgc := blk_lt (blk_below HC.out HB.out)) | (go_at_call 25; with_reducible refine (book_within.calls x.f2 0 10800 true _ (within_is Q2)).mono ?_; rintro e' w3 ⟨rfl, hb'⟩; have n1 := Aside0.mk (blk_below HXz.out hb'.below); have n2 := Aside0.mk (blk_below HXe.out hb'.below); have n3 := Aside0.mk (below_then HB.out HB.out.size hb'.below); clear HXz HXe HB hb' y0 y1 y2 y3 y4 hbe hbz z1 zc hgc; have HXz := n1; have HXe := n2; have HB := n3; clear n1 n2 n3; obtain ⟨y0, y1, y2, y3, y4, hbe⟩ := era_cells HXe.out; have hbz := blk_lt HXz.out; have z1 : w3.cell? ⟨bz, 1, none⟩ = some (.slice (some ac) es.length c1) := (blk_cell HXz.out 1).trans rfl; have zc : w3.cell? ⟨gc, 0, none⟩ = some (.slice A0 l0.length c0) := (blk_cell (blk_below HC.out HB.out) 0).trans rfl; have hgc := blk_lt (blk_below HC.out HB.out)) | (go_at_call 80; with_reducible refine (has_era.calls be x A0 c0 l0 hn true HA.out _ (Kd.C_below HR.out HB.out) HXe.out).mono ?_; rintro e' w3 ⟨rfl, hb'⟩; have n1 := Aside0.mk (blk_below HXz.out hb'); have n2 := Aside0.mk (blk_below HXe.out hb'); have n3 := Aside0.mk (below_then HB.out HB.out.size hb'); clear HXz HXe HB hb' y0 y1 y2 y3 y4 hbe hbz z1 zc hgc; have HXz := n1; have HXe := n2; have HB := n3; clear n1 n2 n3; obtain ⟨y0, y1, y2, y3, y4, hbe⟩ := era_cells HXe.out; have hbz := blk_lt HXz.out; have z1 : w3.cell? ⟨bz, 1, none⟩ = some (.slice (some ac) es.length c1) := (blk_cell HXz.out 1).trans rfl; have zc : w3.cell? ⟨gc, 0, none⟩ = some (.slice A0 l0.length c0) := (blk_cell (blk_below HC.out HB.out) 0).trans rfl; have hgc := blk_lt (blk_below HC.out HB.out)) | (go_at_call 82; with_reducible refine (bk_abbrs.calls k gc A0 c0 l0 v1 v2 x _ _ (HL.out.sub HB.out) (blk_below HC.out HB.out) (Kd.C_below HR.out HB.out) hn HE.out).mono ?_; rintro e' w3 ⟨rfl, hb'⟩; have n1 := Aside0.mk (blk_below HXz.out hb'); have n2 := Aside0.mk (blk_below HXe.out hb'); have n3 := Aside0.mk (below_then HB.out HB.out.size hb'); clear HXz HXe HB hb' y0 y1 y2 y3 y4 hbe hbz z1 zc hgc; have HXz := n1; have HXe := n2; have HB := n3; clear n1 n2 n3; obtain ⟨y0, y1, y2, y3, y4, hbe⟩ := era_cells HXe.out; have hbz := blk_lt HXz.out; have z1 : w3.cell? ⟨bz, 1, none⟩ = some (.slice (some ac) es.length c1) := (blk_cell HXz.out 1).trans rfl; have zc : w3.cell? ⟨gc, 0, none⟩ = some (.slice A0 l0.length c0) := (blk_cell (blk_below HC.out HB.out) 0).trans rfl; have hgc := blk_lt (blk_below HC.out HB.out)) | (go_at_call 25; with_reducible refine (book_within.calls x.f4 (-1099511627776) 1099511627776 true _ (within_is Q4)).mono ?_; rintro e' w3 ⟨rfl, hb'⟩; have n1 := Aside0.mk (blk_below HXz.out hb'.below); have n2 := Aside0.mk (blk_below HXe.out hb'.below); have n3 := Aside0.mk (below_then HB.out HB.out.size hb'.below); clear HXz HXe HB hb' y0 y1 y2 y3 y4 hbe hbz z1 zc hgc; have HXz := n1; have HXe := n2; have HB := n3; clear n1 n2 n3; obtain ⟨y0, y1, y2, y3, y4, hbe⟩ := era_cells HXe.out; have hbz := blk_lt HXz.out; have z1 : w3.cell? ⟨bz, 1, none⟩ = some (.slice (some ac) es.length c1) := (blk_cell HXz.out 1).trans rfl; have zc : w3.cell? ⟨gc, 0, none⟩ = some (.slice A0 l0.length c0) := (blk_cell (blk_below HC.out HB.out) 0).trans rfl; have hgc := blk_lt (blk_below HC.out HB.out)) | (go_at_call 59; with_reducible refine (clock_Stamp.calls k x.f4 _ _ _ (HL.out.sub HB.out) HS.out).mono ?_; rintro e' w3 ⟨rfl, hb'⟩; have n1 := Aside0.mk (blk_below HXz.out hb'); have n2 := Aside0.mk (blk_below HXe.out hb'); have n3 := Aside0.mk (below_then HB.out HB.out.size hb'); clear HXz HXe HB hb' y0 y1 y2 y3 y4 hbe hbz z1 zc hgc; have HXz := n1; have HXe := n2; have HB := n3; clear n1 n2 n3; obtain ⟨y0, y1, y2, y3, y4, hbe⟩ := era_cells HXe.out; have hbz := blk_lt HXz.out; have z1 : w3.cell? ⟨bz, 1, none⟩ = some (.slice (some ac) es.length c1) := (blk_cell HXz.out 1).trans rfl; have zc : w3.cell? ⟨gc, 0, none⟩ = some (.slice A0 l0.length c0) := (blk_cell (blk_below HC.out HB.out) 0).trans rfl; have hgc := blk_lt (blk_below HC.out HB.out)))
      go_quiet (fail)
      go_wp2_with fail
      go_ret
      exact ⟨rfl, pw_below_drewN HB.out _⟩
  obtain ⟨m, rfl⟩ : ∃ m, i = m + 1 := ⟨i - 1, by omega⟩
  have hl2 : ((m : Int) + 1 == (es.length : Int) - 1) = false := hlast
  have g1 : decide ((0 : Int) < (m : Int) + 1) = true := decide_eq_true (by omega)
  have g2 : (0 : Int) < (m : Int) + 1 := by omega
  have g3 : wrap64 ((m : Int) + 1 - 1) = (m : Int) := by rw [IntWalk.wrap64_in _ (by omega)]; omega
  have g3' : wrap64 (m : Int) = (m : Int) := IntWalk.wrap64_in _ (by omega)
  have g4 : (0 : Int) ≤ (m : Int) := by omega
  have g5 : (m : Int) < (es.length : Int) := by omega
  have g8 : m < es.length := by omega
  rw [show (((m + 1 : Nat) : Int) - 1) = (m : Int) by omega] at hh
  simp only [Int.natCast_succ]
  by_cases q9 : x.f4 ≤ (rd_T39 es (m : Int)).f4
  case pos =>
    rw [if_pos ⟨q8, q9⟩] at hh
    obtain rfl := Option.some.inj hh
    have g6 : decide (x.f4 ≤ (rd_T39 es (m : Int)).f4) = true := decide_eq_true q9
    have g7 : decide (0 < m + 1) = true := decide_eq_true q8
    clear hh
    rcases way.out with ⟨⟨t0, t1⟩, ⟨t2, t3⟩, HA⟩ | ⟨⟨t0, t1⟩, ⟨t2, t3⟩, HA⟩ | ⟨⟨t0, t1⟩, ⟨t2, t3⟩, HA⟩
    all_goals
      clear way
      go_wp2_with (first | (go_at_call 25; with_reducible refine (book_within.calls x.f0 (-64800) 64800 true _ (within_is Q1)).mono ?_; rintro e' w3 ⟨rfl, hb'⟩; have n1 := Aside0.mk (blk_below HXz.out hb'.below); have n2 := Aside0.mk (blk_below HXe.out hb'.below); have n3 := Aside0.mk (below_then HB.out HB.out.size hb'.below); clear HXz HXe HB hb' y0 y1 y2 y3 y4 hbe hbz z1 zc hgc; have HXz := n1; have HXe := n2; have HB := n3; clear n1 n2 n3; obtain ⟨y0, y1, y2, y3, y4, hbe⟩ := era_cells HXe.out; have hbz := blk_lt HXz.out; have z1 : w3.cell? ⟨bz, 1, none⟩ = some (.slice (some ac) es.length c1) := (blk_cell HXz.out 1).trans rfl; have zc : w3.cell? ⟨gc, 0, none⟩ = some (.slice A0 l0.length c0) := (blk_cell (blk_below HC.out HB.out) 0).trans rfl; have hgc := blk_lt (blk_below HC.out HB.out)) | (go_at_call 25; with_reducible refine (book_within.calls x.f2 0 10800 true _ (within_is Q2)).mono ?_; rintro e' w3 ⟨rfl, hb'⟩; have n1 := Aside0.mk (blk_below HXz.out hb'.below); have n2 := Aside0.mk (blk_below HXe.out hb'.below); have n3 := Aside0.mk (below_then HB.out HB.out.size hb'.below); clear HXz HXe HB hb' y0 y1 y2 y3 y4 hbe hbz z1 zc hgc; have HXz := n1; have HXe := n2; have HB := n3; clear n1 n2 n3; obtain ⟨y0, y1, y2, y3, y4, hbe⟩ := era_cells HXe.out; have hbz := blk_lt HXz.out; have z1 : w3.cell? ⟨bz, 1, none⟩ = some (.slice (some ac) es.length c1) := (blk_cell HXz.out 1).trans rfl; have zc : w3.cell? ⟨gc, 0, none⟩ = some (.slice A0 l0.length c0) := (blk_cell (blk_below HC.out HB.out) 0).trans rfl; have hgc := blk_lt (blk_below HC.out HB.out)) | (go_at_call 80; with_reducible refine (has_era.calls be x A0 c0 l0 hn true HA.out _ (Kd.C_below HR.out HB.out) HXe.out).mono ?_; rintro e' w3 ⟨rfl, hb'⟩; have n1 := Aside0.mk (blk_below HXz.out hb'); have n2 := Aside0.mk (blk_below HXe.out hb'); have n3 := Aside0.mk (below_then HB.out HB.out.size hb'); clear HXz HXe HB hb' y0 y1 y2 y3 y4 hbe hbz z1 zc hgc; have HXz := n1; have HXe := n2; have HB := n3; clear n1 n2 n3; obtain ⟨y0, y1, y2, y3, y4, hbe⟩ := era_cells HXe.out; have hbz := blk_lt HXz.out; have z1 : w3.cell? ⟨bz, 1, none⟩ = some (.slice (some ac) es.length c1) := (blk_cell HXz.out 1).trans rfl; have zc : w3.cell? ⟨gc, 0, none⟩ = some (.slice A0 l0.length c0) := (blk_cell (blk_below HC.out HB.out) 0).trans rfl; have hgc := blk_lt (blk_below HC.out HB.out)) | (go_at_call 82; with_reducible refine (bk_abbrs.calls k gc A0 c0 l0 v1 v2 x _ _ (HL.out.sub HB.out) (blk_below HC.out HB.out) (Kd.C_below HR.out HB.out) hn HE.out).mono ?_; rintro e' w3 ⟨rfl, hb'⟩; have n1 := Aside0.mk (blk_below HXz.out hb'); have n2 := Aside0.mk (blk_below HXe.out hb'); have n3 := Aside0.mk (below_then HB.out HB.out.size hb'); clear HXz HXe HB hb' y0 y1 y2 y3 y4 hbe hbz z1 zc hgc; have HXz := n1; have HXe := n2; have HB := n3; clear n1 n2 n3; obtain ⟨y0, y1, y2, y3, y4, hbe⟩ := era_cells HXe.out; have hbz := blk_lt HXz.out; have z1 : w3.cell? ⟨bz, 1, none⟩ = some (.slice (some ac) es.length c1) := (blk_cell HXz.out 1).trans rfl; have zc : w3.cell? ⟨gc, 0, none⟩ = some (.slice A0 l0.length c0) := (blk_cell (blk_below HC.out HB.out) 0).trans rfl; have hgc := blk_lt (blk_below HC.out HB.out)) | (go_at_call 25; with_reducible refine (book_within.calls x.f4 (-1099511627776) 1099511627776 true _ (within_is Q4)).mono ?_; rintro e' w3 ⟨rfl, hb'⟩; have n1 := Aside0.mk (blk_below HXz.out hb'.below); have n2 := Aside0.mk (blk_below HXe.out hb'.below); have n3 := Aside0.mk (below_then HB.out HB.out.size hb'.below); clear HXz HXe HB hb' y0 y1 y2 y3 y4 hbe hbz z1 zc hgc; have HXz := n1; have HXe := n2; have HB := n3; clear n1 n2 n3; obtain ⟨y0, y1, y2, y3, y4, hbe⟩ := era_cells HXe.out; have hbz := blk_lt HXz.out; have z1 : w3.cell? ⟨bz, 1, none⟩ = some (.slice (some ac) es.length c1) := (blk_cell HXz.out 1).trans rfl; have zc : w3.cell? ⟨gc, 0, none⟩ = some (.slice A0 l0.length c0) := (blk_cell (blk_below HC.out HB.out) 0).trans rfl; have hgc := blk_lt (blk_below HC.out HB.out)) | (go_at_call 59; with_reducible refine (clock_Stamp.calls k x.f4 _ _ _ (HL.out.sub HB.out) HS.out).mono ?_; rintro e' w3 ⟨rfl, hb'⟩; have n1 := Aside0.mk (blk_below HXz.out hb'); have n2 := Aside0.mk (blk_below HXe.out hb'); have n3 := Aside0.mk (below_then HB.out HB.out.size hb'); clear HXz HXe HB hb' y0 y1 y2 y3 y4 hbe hbz z1 zc hgc; have HXz := n1; have HXe := n2; have HB := n3; clear n1 n2 n3; obtain ⟨y0, y1, y2, y3, y4, hbe⟩ := era_cells HXe.out; have hbz := blk_lt HXz.out; have z1 : w3.cell? ⟨bz, 1, none⟩ = some (.slice (some ac) es.length c1) := (blk_cell HXz.out 1).trans rfl; have zc : w3.cell? ⟨gc, 0, none⟩ = some (.slice A0 l0.length c0) := (blk_cell (blk_below HC.out HB.out) 0).trans rfl; have hgc := blk_lt (blk_below HC.out HB.out)))
      obtain ⟨ac', e', r0, r1, r2, r3, r4⟩ := at_T39 (Kd.C_below HR1.out HB.out) (m : Int) g4 g5
      cases e'
      rw [Int.toNat_natCast] at r0 r1 r2 r3 r4
      have hcl := World.block_lt_of_cell? _ _ r4
      go_quiet (fail)
      go_wp2_with fail
      go_ret
      exact ⟨rfl, pw_below_drewN HB.out _⟩
  rw [if_neg (fun h => q9 h.2)] at hh
  obtain rfl := Option.some.inj hh
  have g6 : decide (x.f4 ≤ (rd_T39 es (m : Int)).f4) = false := decide_eq_false q9
  have g7 : decide (0 < m + 1) = true := decide_eq_true q8
  clear hh
  rcases way.out with ⟨⟨t0, t1⟩, ⟨t2, t3⟩, HA⟩ | ⟨⟨t0, t1⟩, ⟨t2, t3⟩, HA⟩ | ⟨⟨t0, t1⟩, ⟨t2, t3⟩, HA⟩
  all_goals
    clear way
    go_wp2_with (first | (go_at_call 25; with_reducible refine (book_within.calls x.f0 (-64800) 64800 true _ (within_is Q1)).mono ?_; rintro e' w3 ⟨rfl, hb'⟩; have n1 := Aside0.mk (blk_below HXz.out hb'.below); have n2 := Aside0.mk (blk_below HXe.out hb'.below); have n3 := Aside0.mk (below_then HB.out HB.out.size hb'.below); clear HXz HXe HB hb' y0 y1 y2 y3 y4 hbe hbz z1 zc hgc; have HXz := n1; have HXe := n2; have HB := n3; clear n1 n2 n3; obtain ⟨y0, y1, y2, y3, y4, hbe⟩ := era_cells HXe.out; have hbz := blk_lt HXz.out; have z1 : w3.cell? ⟨bz, 1, none⟩ = some (.slice (some ac) es.length c1) := (blk_cell HXz.out 1).trans rfl; have zc : w3.cell? ⟨gc, 0, none⟩ = some (.slice A0 l0.length c0) := (blk_cell (blk_below HC.out HB.out) 0).trans rfl; have hgc := blk_lt (blk_below HC.out HB.out)) | (go_at_call 25; with_reducible refine (book_within.calls x.f2 0 10800 true _ (within_is Q2)).mono ?_; rintro e' w3 ⟨rfl, hb'⟩; have n1 := Aside0.mk (blk_below HXz.out hb'.below); have n2 := Aside0.mk (blk_below HXe.out hb'.below); have n3 := Aside0.mk (below_then HB.out HB.out.size hb'.below); clear HXz HXe HB hb' y0 y1 y2 y3 y4 hbe hbz z1 zc hgc; have HXz := n1; have HXe := n2; have HB := n3; clear n1 n2 n3; obtain ⟨y0, y1, y2, y3, y4, hbe⟩ := era_cells HXe.out; have hbz := blk_lt HXz.out; have z1 : w3.cell? ⟨bz, 1, none⟩ = some (.slice (some ac) es.length c1) := (blk_cell HXz.out 1).trans rfl; have zc : w3.cell? ⟨gc, 0, none⟩ = some (.slice A0 l0.length c0) := (blk_cell (blk_below HC.out HB.out) 0).trans rfl; have hgc := blk_lt (blk_below HC.out HB.out)) | (go_at_call 80; with_reducible refine (has_era.calls be x A0 c0 l0 hn true HA.out _ (Kd.C_below HR.out HB.out) HXe.out).mono ?_; rintro e' w3 ⟨rfl, hb'⟩; have n1 := Aside0.mk (blk_below HXz.out hb'); have n2 := Aside0.mk (blk_below HXe.out hb'); have n3 := Aside0.mk (below_then HB.out HB.out.size hb'); clear HXz HXe HB hb' y0 y1 y2 y3 y4 hbe hbz z1 zc hgc; have HXz := n1; have HXe := n2; have HB := n3; clear n1 n2 n3; obtain ⟨y0, y1, y2, y3, y4, hbe⟩ := era_cells HXe.out; have hbz := blk_lt HXz.out; have z1 : w3.cell? ⟨bz, 1, none⟩ = some (.slice (some ac) es.length c1) := (blk_cell HXz.out 1).trans rfl; have zc : w3.cell? ⟨gc, 0, none⟩ = some (.slice A0 l0.length c0) := (blk_cell (blk_below HC.out HB.out) 0).trans rfl; have hgc := blk_lt (blk_below HC.out HB.out)) | (go_at_call 82; with_reducible refine (bk_abbrs.calls k gc A0 c0 l0 v1 v2 x _ _ (HL.out.sub HB.out) (blk_below HC.out HB.out) (Kd.C_below HR.out HB.out) hn HE.out).mono ?_; rintro e' w3 ⟨rfl, hb'⟩; have n1 := Aside0.mk (blk_below HXz.out hb'); have n2 := Aside0.mk (blk_below HXe.out hb'); have n3 := Aside0.mk (below_then HB.out HB.out.size hb'); clear HXz HXe HB hb' y0 y1 y2 y3 y4 hbe hbz z1 zc hgc; have HXz := n1; have HXe := n2; have HB := n3; clear n1 n2 n3; obtain ⟨y0, y1, y2, y3, y4, hbe⟩ := era_cells HXe.out; have hbz := blk_lt HXz.out; have z1 : w3.cell? ⟨bz, 1, none⟩ = some (.slice (some ac) es.length c1) := (blk_cell HXz.out 1).trans rfl; have zc : w3.cell? ⟨gc, 0, none⟩ = some (.slice A0 l0.length c0) := (blk_cell (blk_below HC.out HB.out) 0).trans rfl; have hgc := blk_lt (blk_below HC.out HB.out)) | (go_at_call 25; with_reducible refine (book_within.calls x.f4 (-1099511627776) 1099511627776 true _ (within_is Q4)).mono ?_; rintro e' w3 ⟨rfl, hb'⟩; have n1 := Aside0.mk (blk_below HXz.out hb'.below); have n2 := Aside0.mk (blk_below HXe.out hb'.below); have n3 := Aside0.mk (below_then HB.out HB.out.size hb'.below); clear HXz HXe HB hb' y0 y1 y2 y3 y4 hbe hbz z1 zc hgc; have HXz := n1; have HXe := n2; have HB := n3; clear n1 n2 n3; obtain ⟨y0, y1, y2, y3, y4, hbe⟩ := era_cells HXe.out; have hbz := blk_lt HXz.out; have z1 : w3.cell? ⟨bz, 1, none⟩ = some (.slice (some ac) es.length c1) := (blk_cell HXz.out 1).trans rfl; have zc : w3.cell? ⟨gc, 0, none⟩ = some (.slice A0 l0.length c0) := (blk_cell (blk_below HC.out HB.out) 0).trans rfl; have hgc := blk_lt (blk_below HC.out HB.out)) | (go_at_call 59; with_reducible refine (clock_Stamp.calls k x.f4 _ _ _ (HL.out.sub HB.out) HS.out).mono ?_; rintro e' w3 ⟨rfl, hb'⟩; have n1 := Aside0.mk (blk_below HXz.out hb'); have n2 := Aside0.mk (blk_below HXe.out hb'); have n3 := Aside0.mk (below_then HB.out HB.out.size hb'); clear HXz HXe HB hb' y0 y1 y2 y3 y4 hbe hbz z1 zc hgc; have HXz := n1; have HXe := n2; have HB := n3; clear n1 n2 n3; obtain ⟨y0, y1, y2, y3, y4, hbe⟩ := era_cells HXe.out; have hbz := blk_lt HXz.out; have z1 : w3.cell? ⟨bz, 1, none⟩ = some (.slice (some ac) es.length c1) := (blk_cell HXz.out 1).trans rfl; have zc : w3.cell? ⟨gc, 0, none⟩ = some (.slice A0 l0.length c0) := (blk_cell (blk_below HC.out HB.out) 0).trans rfl; have hgc := blk_lt (blk_below HC.out HB.out)))
    obtain ⟨ac', e', r0, r1, r2, r3, r4⟩ := at_T39 (Kd.C_below HR1.out HB.out) (m : Int) g4 g5
    cases e'
    rw [Int.toNat_natCast] at r0 r1 r2 r3 r4
    have hcl := World.block_lt_of_cell? _ _ r4
    go_quiet (fail)
    go_wp2_with fail
    go_ret
    exact ⟨rfl, pw_below_drewN HB.out _⟩
end Go.Proofs.YtmgnnplcnmhbaaaGreatDoor.PT
end
section
namespace Go.Proofs.YtmgnnplcnmhbaaaGreatDoor.PT
open Go.RowKit Go.Proofs.YtmgnnplcnmhbaaaGreatDoorW.PrintWords Go.Proofs.YtmgnnplcnmhbaaaGreatDoorW.PrintLast Go.Proofs.YtmgnnplcnmhbaaaGreatDoorW.PrintMore
set_option linter.unusedVariables false
set_option linter.unusedSimpArgs false
def bk_zone (k : Nat) (l0 : List S65) (l1 : List S43) (i : Nat) : Option Int :=
  (rule_IsName.f k (rd_T43 l1 (i : Int)).f0).bind fun b => if b = true then
    (if (l1.take i).any (fun y => same y.f0 (rd_T43 l1 (i : Int)).f0) = true then some 7
     else if (rd_T43 l1 (i : Int)).f1.length = 0 then some 5
     else if 700 < (rd_T43 l1 (i : Int)).f1.length then some 2
     else errFrom (bk_era k l0 (rd_T43 l1 (i : Int)).f1) 0 (rd_T43 l1 (i : Int)).f1.length) else some 3
theorem has_z.calls (bz : Nat) (s : ByteArray) (u : Value) (A1 : Option Addr) (c1 : Nat) (l1 : List S43) (i : Nat) (hi : i ≤ l1.length) (hn : l1.length ≤ 4611686018427387904) (v : Bool) (hv : (l1.take i).any (fun y => same y.f0 s) = v) (w : World) (hr : Kd.C k43 w A1 l1.length l1) (hb : w.heap[bz]? = some (.cells #[.string s, u] 43 (0, 0))) :
    Calls Tryz.prog 47 #[.slice A1 i c1, .func (.func 48) #[] #[.pointer (some ⟨bz, 0, none⟩)]] w fun e w' => e = .returned (.bool v) ∧ Below w.heap.size w w' := by
  have hl : (l1.take i).length = i := by rw [List.length_take]; omega
  have h := has_zone.calls 48 #[.pointer (some ⟨bz, 0, none⟩)] (fun x => same x s) (enters_ Tryz.func48 rfl rfl) A1 c1 (l1.take i) (by omega) w (Kd.C_take hr hi) (fun W n a hW => clo_zone.calls bz s u W (blk_below hb hW) n a)
  rw [hl] at h
  rw [← hv]
  exact h
set_option maxHeartbeats 4000000 in
set_option maxRecDepth 100000 in
theorem bk_zone.calls (k : Nat) (gc : Nat) (A0 : Option Addr) (c0 : Nat) (l0 : List S65) (A1 : Option Addr) (c1 : Nat) (l1 : List S43) (v2 : Value) (i : Nat) (hi : i < l1.length) (r : Int) (w : World) (hL : LaidT w) (hb : w.heap[gc]? = some (.cells #[.slice A0 l0.length c0, .slice A1 l1.length c1, v2] 69 (0, 0))) (hr0 : Kd.C k65 w A0 l0.length l0) (hn : l0.length ≤ 4611686018427387904) (hr1 : Kd.C k43 w A1 l1.length l1) (hn1 : l1.length ≤ 4611686018427387904) (hc1 : l1.length ≤ c1) (h : bk_zone k l0 l1 i = some r) :
    Calls Tryz.prog 28 #[.pointer (some ⟨gc, 0, none⟩), .int .i64 i] w fun e w' => e = .returned (.int .i64 r) ∧ Below w.heap.size w w' := by
  have hu := Tryz.underlying69
  have hu2 := Tryz.underlying27
  have hu3 := Tryz.underlying39
  have hu5 := Tryz.underlying43
  have HC := Aside0.mk hb
  have HR := Aside0.mk hr0
  have HR1 := Aside0.mk hr1
  have HL := Aside0.mk hL
  have hk0 : (0 : Int) ≤ (i : Int) := Int.natCast_nonneg _
  have hk1 : (i : Int) < (l1.length : Int) := by omega
  have hk2 : (i : Int) ≤ (c1 : Int) := by omega
  have hk3 : i ≤ c1 := by omega
  obtain ⟨ac, Az, cz, e, p0, p1, hcz, hrz⟩ := at_T43 hr1 (i : Int) hk0 hk1
  cases e
  rw [Int.toNat_natCast] at p0 p1
  have hcl := World.block_lt_of_cell? _ _ p0
  obtain ⟨z, hz⟩ : ∃ z, z = rd_T43 l1 (i : Int) := ⟨_, rfl⟩
  unfold bk_zone at h
  simp only [← hz] at p0 p1 hcz hrz h
  have HRz := Aside0.mk hrz
  have HZ0 := Aside0.mk hz
  have z1 : w.cell? ⟨gc, 1, none⟩ = some (.slice (some ac) l1.length c1) := (blk_cell hb 1).trans rfl
  have hgc := blk_lt hb
  obtain ⟨b, hbn, h⟩ := Option.bind_eq_some_iff.mp h
  have HN := Aside0.mk hbn
  have HH := Aside0.mk h
  clear hb hr0 hr1 hL h hz hrz hbn
  go_enter Tryz.func28, Tryz.ntmps28
  go_wp2_with fail
  have HXz := Aside0.mk (heap_alloc_new w (Obj.cells #[.string z.f0, .slice Az z.f1.length cz] 43))
  have HB := Aside0.mk (below_alloc (Below.refl w.heap.size w) (Obj.cells #[.string z.f0, .slice Az z.f1.length cz] 43))
  generalize w.alloc (Obj.cells #[.string z.f0, .slice Az z.f1.length cz] 43) = w2 at HXz HB ⊢
  obtain ⟨bz, hbZ⟩ : ∃ b, b = w.heap.size := ⟨_, rfl⟩
  rw [← hbZ] at HXz ⊢
  have HBZ := Aside0.mk hbZ
  clear hbZ p0 p1 hcl z1 hgc
  have y0 : w2.cell? ⟨bz, 0, none⟩ = some (.string z.f0) := (blk_cell HXz.out 0).trans rfl
  have y1 : w2.cell? ⟨bz, 1, none⟩ = some (.slice Az z.f1.length cz) := (blk_cell HXz.out 1).trans rfl
  have hbz := blk_lt HXz.out
  have z1 : w2.cell? ⟨gc, 1, none⟩ = some (.slice (some ac) l1.length c1) := (blk_cell (blk_below HC.out HB.out) 1).trans rfl
  have hgc := blk_lt (blk_below HC.out HB.out)
  have hh := HH.out
  cases b with
  | false =>
    rw [if_neg (by decide)] at hh
    obtain rfl := Option.some.inj hh
    clear hh
    go_wp2_with (first | (go_at_call 15; with_reducible refine (rule_IsName.calls k z.f0 _ _ (HL.out.sub HB.out) HN.out).mono ?_; rintro e' w3 ⟨rfl, hb'⟩; have n1 := Aside0.mk (blk_below HXz.out hb'); have n3 := Aside0.mk (below_then HB.out HB.out.size hb'); clear HXz HB hb' y0 y1 hbz z1 hgc; have HXz := n1; have HB := n3; clear n1 n3; have y0 : w3.cell? ⟨bz, 0, none⟩ = some (.string z.f0) := (blk_cell HXz.out 0).trans rfl; have y1 : w3.cell? ⟨bz, 1, none⟩ = some (.slice Az z.f1.length cz) := (blk_cell HXz.out 1).trans rfl; have hbz := blk_lt HXz.out; have z1 : w3.cell? ⟨gc, 1, none⟩ = some (.slice (some ac) l1.length c1) := (blk_cell (blk_below HC.out HB.out) 1).trans rfl; have hgc := blk_lt (blk_below HC.out HB.out)))
    go_ret
    exact ⟨rfl, HB.out⟩
  | true =>
    rw [if_pos rfl] at hh
    cases hA : (l1.take i).any (fun y => same y.f0 z.f0) with
    | true =>
      rw [hA, if_pos rfl] at hh
      have HA := Aside0.mk hA
      obtain rfl := Option.some.inj hh
      clear hh hA
      go_wp2_with (first | (go_at_call 15; with_reducible refine (rule_IsName.calls k z.f0 _ _ (HL.out.sub HB.out) HN.out).mono ?_; rintro e' w3 ⟨rfl, hb'⟩; have n1 := Aside0.mk (blk_below HXz.out hb'); have n3 := Aside0.mk (below_then HB.out HB.out.size hb'); clear HXz HB hb' y0 y1 hbz z1 hgc; have HXz := n1; have HB := n3; clear n1 n3; have y0 : w3.cell? ⟨bz, 0, none⟩ = some (.string z.f0) := (blk_cell HXz.out 0).trans rfl; have y1 : w3.cell? ⟨bz, 1, none⟩ = some (.slice Az z.f1.length cz) := (blk_cell HXz.out 1).trans rfl; have hbz := blk_lt HXz.out; have z1 : w3.cell? ⟨gc, 1, none⟩ = some (.slice (some ac) l1.length c1) := (blk_cell (blk_below HC.out HB.out) 1).trans rfl; have hgc := blk_lt (blk_below HC.out HB.out)) | (go_at_call 47; with_reducible refine (has_z.calls bz z.f0 _ (some ac) c1 l1 i (by omega) hn1 _ HA.out _ (Kd.C_below HR1.out HB.out) HXz.out).mono ?_; rintro e' w3 ⟨rfl, hb'⟩; have n1 := Aside0.mk (blk_below HXz.out hb'); have n3 := Aside0.mk (below_then HB.out HB.out.size hb'); clear HXz HB hb' y0 y1 hbz z1 hgc; have HXz := n1; have HB := n3; clear n1 n3; have y0 : w3.cell? ⟨bz, 0, none⟩ = some (.string z.f0) := (blk_cell HXz.out 0).trans rfl; have y1 : w3.cell? ⟨bz, 1, none⟩ = some (.slice Az z.f1.length cz) := (blk_cell HXz.out 1).trans rfl; have hbz := blk_lt HXz.out; have z1 : w3.cell? ⟨gc, 1, none⟩ = some (.slice (some ac) l1.length c1) := (blk_cell (blk_below HC.out HB.out) 1).trans rfl; have hgc := blk_lt (blk_below HC.out HB.out)))
      go_ret
      exact ⟨rfl, HB.out⟩
    | false =>
      rw [hA, if_neg (by decide)] at hh
      have HA := Aside0.mk hA
      clear hA
      by_cases q5 : z.f1.length = 0
      · rw [if_pos q5] at hh
        obtain rfl := Option.some.inj hh
        have t0 : ((z.f1.length : Int) == 0) = true := beq_iff_eq.mpr (by omega)
        clear hh
        go_wp2_with (first | (go_at_call 15; with_reducible refine (rule_IsName.calls k z.f0 _ _ (HL.out.sub HB.out) HN.out).mono ?_; rintro e' w3 ⟨rfl, hb'⟩; have n1 := Aside0.mk (blk_below HXz.out hb'); have n3 := Aside0.mk (below_then HB.out HB.out.size hb'); clear HXz HB hb' y0 y1 hbz z1 hgc; have HXz := n1; have HB := n3; clear n1 n3; have y0 : w3.cell? ⟨bz, 0, none⟩ = some (.string z.f0) := (blk_cell HXz.out 0).trans rfl; have y1 : w3.cell? ⟨bz, 1, none⟩ = some (.slice Az z.f1.length cz) := (blk_cell HXz.out 1).trans rfl; have hbz := blk_lt HXz.out; have z1 : w3.cell? ⟨gc, 1, none⟩ = some (.slice (some ac) l1.length c1) := (blk_cell (blk_below HC.out HB.out) 1).trans rfl; have hgc := blk_lt (blk_below HC.out HB.out)) | (go_at_call 47; with_reducible refine (has_z.calls bz z.f0 _ (some ac) c1 l1 i (by omega) hn1 _ HA.out _ (Kd.C_below HR1.out HB.out) HXz.out).mono ?_; rintro e' w3 ⟨rfl, hb'⟩; have n1 := Aside0.mk (blk_below HXz.out hb'); have n3 := Aside0.mk (below_then HB.out HB.out.size hb'); clear HXz HB hb' y0 y1 hbz z1 hgc; have HXz := n1; have HB := n3; clear n1 n3; have y0 : w3.cell? ⟨bz, 0, none⟩ = some (.string z.f0) := (blk_cell HXz.out 0).trans rfl; have y1 : w3.cell? ⟨bz, 1, none⟩ = some (.slice Az z.f1.length cz) := (blk_cell HXz.out 1).trans rfl; have hbz := blk_lt HXz.out; have z1 : w3.cell? ⟨gc, 1, none⟩ = some (.slice (some ac) l1.length c1) := (blk_cell (blk_below HC.out HB.out) 1).trans rfl; have hgc := blk_lt (blk_below HC.out HB.out)))
        go_ret
        exact ⟨rfl, HB.out⟩
      · rw [if_neg q5] at hh
        have t0 : ((z.f1.length : Int) == 0) = false := beq_eq_false_iff_ne.mpr (by omega)
        have t5 : ¬ ((z.f1.length : Int) = 0) := by omega
        by_cases q2 : 700 < z.f1.length
        · rw [if_pos q2] at hh
          obtain rfl := Option.some.inj hh
          have t1 : decide ((700 : Int) < (z.f1.length : Int)) = true := decide_eq_true (by omega)
          have t2 : (700 : Int) < (z.f1.length : Int) := by omega
          clear hh
          go_wp2_with (first | (go_at_call 15; with_reducible refine (rule_IsName.calls k z.f0 _ _ (HL.out.sub HB.out) HN.out).mono ?_; rintro e' w3 ⟨rfl, hb'⟩; have n1 := Aside0.mk (blk_below HXz.out hb'); have n3 := Aside0.mk (below_then HB.out HB.out.size hb'); clear HXz HB hb' y0 y1 hbz z1 hgc; have HXz := n1; have HB := n3; clear n1 n3; have y0 : w3.cell? ⟨bz, 0, none⟩ = some (.string z.f0) := (blk_cell HXz.out 0).trans rfl; have y1 : w3.cell? ⟨bz, 1, none⟩ = some (.slice Az z.f1.length cz) := (blk_cell HXz.out 1).trans rfl; have hbz := blk_lt HXz.out; have z1 : w3.cell? ⟨gc, 1, none⟩ = some (.slice (some ac) l1.length c1) := (blk_cell (blk_below HC.out HB.out) 1).trans rfl; have hgc := blk_lt (blk_below HC.out HB.out)) | (go_at_call 47; with_reducible refine (has_z.calls bz z.f0 _ (some ac) c1 l1 i (by omega) hn1 _ HA.out _ (Kd.C_below HR1.out HB.out) HXz.out).mono ?_; rintro e' w3 ⟨rfl, hb'⟩; have n1 := Aside0.mk (blk_below HXz.out hb'); have n3 := Aside0.mk (below_then HB.out HB.out.size hb'); clear HXz HB hb' y0 y1 hbz z1 hgc; have HXz := n1; have HB := n3; clear n1 n3; have y0 : w3.cell? ⟨bz, 0, none⟩ = some (.string z.f0) := (blk_cell HXz.out 0).trans rfl; have y1 : w3.cell? ⟨bz, 1, none⟩ = some (.slice Az z.f1.length cz) := (blk_cell HXz.out 1).trans rfl; have hbz := blk_lt HXz.out; have z1 : w3.cell? ⟨gc, 1, none⟩ = some (.slice (some ac) l1.length c1) := (blk_cell (blk_below HC.out HB.out) 1).trans rfl; have hgc := blk_lt (blk_below HC.out HB.out)))
          go_ret
          exact ⟨rfl, HB.out⟩
        · rw [if_neg q2] at hh
          have t1 : decide ((700 : Int) < (z.f1.length : Int)) = false := decide_eq_false (by omega)
          have t2 : ¬ ((700 : Int) < (z.f1.length : Int)) := by omega
          have hz7 : z.f1.length ≤ 4611686018427387904 := by omega
          have HE := Aside0.mk hh
          clear hh HH
          go_wp2_with (first | (go_at_call 15; with_reducible refine (rule_IsName.calls k z.f0 _ _ (HL.out.sub HB.out) HN.out).mono ?_; rintro e' w3 ⟨rfl, hb'⟩; have n1 := Aside0.mk (blk_below HXz.out hb'); have n3 := Aside0.mk (below_then HB.out HB.out.size hb'); clear HXz HB hb' y0 y1 hbz z1 hgc; have HXz := n1; have HB := n3; clear n1 n3; have y0 : w3.cell? ⟨bz, 0, none⟩ = some (.string z.f0) := (blk_cell HXz.out 0).trans rfl; have y1 : w3.cell? ⟨bz, 1, none⟩ = some (.slice Az z.f1.length cz) := (blk_cell HXz.out 1).trans rfl; have hbz := blk_lt HXz.out; have z1 : w3.cell? ⟨gc, 1, none⟩ = some (.slice (some ac) l1.length c1) := (blk_cell (blk_below HC.out HB.out) 1).trans rfl; have hgc := blk_lt (blk_below HC.out HB.out)) | (go_at_call 47; with_reducible refine (has_z.calls bz z.f0 _ (some ac) c1 l1 i (by omega) hn1 _ HA.out _ (Kd.C_below HR1.out HB.out) HXz.out).mono ?_; rintro e' w3 ⟨rfl, hb'⟩; have n1 := Aside0.mk (blk_below HXz.out hb'); have n3 := Aside0.mk (below_then HB.out HB.out.size hb'); clear HXz HB hb' y0 y1 hbz z1 hgc; have HXz := n1; have HB := n3; clear n1 n3; have y0 : w3.cell? ⟨bz, 0, none⟩ = some (.string z.f0) := (blk_cell HXz.out 0).trans rfl; have y1 : w3.cell? ⟨bz, 1, none⟩ = some (.slice Az z.f1.length cz) := (blk_cell HXz.out 1).trans rfl; have hbz := blk_lt HXz.out; have z1 : w3.cell? ⟨gc, 1, none⟩ = some (.slice (some ac) l1.length c1) := (blk_cell (blk_below HC.out HB.out) 1).trans rfl; have hgc := blk_lt (blk_below HC.out HB.out)))
          rename_i w3 _
          go_loopw [44] (fun q wr => ∃ j : Nat, q = .int .i64 j ∧ j ≤ z.f1.length ∧ Aside0 (errFrom (bk_era k l0 z.f1) j (z.f1.length - j) = some r) ∧ Aside0 (wr.heap[bz]? = some (.cells #[.string z.f0, .slice Az z.f1.length cz] 43 (0, 0))) ∧ Aside0 (Below w.heap.size w wr)) (fun q _ => z.f1.length - (intOf q).toNat)
          case atStart => exact ⟨0, rfl, Nat.zero_le _, HE, HXz, HB⟩
          case round =>
            clear HE HXz HB y0 y1 hbz z1 hgc
            obtain ⟨j, rfl, hj, HE, HXz, HB⟩ := hrel
            have y0 : wr.cell? ⟨bz, 0, none⟩ = some (.string z.f0) := (blk_cell HXz.out 0).trans rfl
            have y1 : wr.cell? ⟨bz, 1, none⟩ = some (.slice Az z.f1.length cz) := (blk_cell HXz.out 1).trans rfl
            have hbz := blk_lt HXz.out
            have z1 : wr.cell? ⟨gc, 1, none⟩ = some (.slice (some ac) l1.length c1) := (blk_cell (blk_below HC.out HB.out) 1).trans rfl
            have hgc := blk_lt (blk_below HC.out HB.out)
            by_cases hlt : j < z.f1.length
            · have hk4 : (j : Int) < (z.f1.length : Int) := by omega
              have hd := HE.out
              rw [show z.f1.length - j = (z.f1.length - (j + 1)) + 1 by omega] at hd
              obtain ⟨e1, he1, hd⟩ := errFrom_step hd
              have HE1 := Aside0.mk he1
              have HD := Aside0.mk hd
              clear he1 hd HE
              by_cases e0 : e1 = 0
              · subst e0
                go_wp2_with (first | (go_at_call 49; with_reducible refine (bk_era.calls k gc A0 c0 l0 (.slice (some ac) l1.length c1) v2 z.f0 Az cz z.f1 j hlt hz7 0 _ (HL.out.sub HB.out) (blk_below HC.out HB.out) (Kd.C_below HR.out HB.out) hn (Kd.C_below HRz.out HB.out) HE1.out).mono ?_; rintro e' w3 ⟨rfl, hb'⟩; have n1 := Aside0.mk (blk_below HXz.out hb'); have n3 := Aside0.mk (below_then HB.out HB.out.size hb'); clear HXz HB hb' y0 y1 hbz z1 hgc; have HXz := n1; have HB := n3; clear n1 n3; have y0 : w3.cell? ⟨bz, 0, none⟩ = some (.string z.f0) := (blk_cell HXz.out 0).trans rfl; have y1 : w3.cell? ⟨bz, 1, none⟩ = some (.slice Az z.f1.length cz) := (blk_cell HXz.out 1).trans rfl; have hbz := blk_lt HXz.out; have z1 : w3.cell? ⟨gc, 1, none⟩ = some (.slice (some ac) l1.length c1) := (blk_cell (blk_below HC.out HB.out) 1).trans rfl; have hgc := blk_lt (blk_below HC.out HB.out)))
                go_roundw
                case rel => exact ⟨j + 1, rfl, by omega, ⟨by rcases HD.out with ⟨_, h⟩ | ⟨h, _⟩; exact h; exact absurd rfl h⟩, HXz, HB⟩
                case measure =>
                  simp [intOf]
                  try omega
              · obtain ⟨u0, u1⟩ := int_no e0
                have hr : r = e1 := by rcases HD.out with ⟨h, _⟩ | ⟨_, h⟩; exact absurd h e0; exact h
                subst hr
                clear HD e0
                go_wp2_with (first | (go_at_call 49; with_reducible refine (bk_era.calls k gc A0 c0 l0 (.slice (some ac) l1.length c1) v2 z.f0 Az cz z.f1 j hlt hz7 _ _ (HL.out.sub HB.out) (blk_below HC.out HB.out) (Kd.C_below HR.out HB.out) hn (Kd.C_below HRz.out HB.out) HE1.out).mono ?_; rintro e' w3 ⟨rfl, hb'⟩; have n1 := Aside0.mk (blk_below HXz.out hb'); have n3 := Aside0.mk (below_then HB.out HB.out.size hb'); clear HXz HB hb' y0 y1 hbz z1 hgc; have HXz := n1; have HB := n3; clear n1 n3; have y0 : w3.cell? ⟨bz, 0, none⟩ = some (.string z.f0) := (blk_cell HXz.out 0).trans rfl; have y1 : w3.cell? ⟨bz, 1, none⟩ = some (.slice Az z.f1.length cz) := (blk_cell HXz.out 1).trans rfl; have hbz := blk_lt HXz.out; have z1 : w3.cell? ⟨gc, 1, none⟩ = some (.slice (some ac) l1.length c1) := (blk_cell (blk_below HC.out HB.out) 1).trans rfl; have hgc := blk_lt (blk_below HC.out HB.out)))
                go_ret
                exact ⟨rfl, HB.out⟩
            · have hjl : j = z.f1.length := by omega
              have hr : r = 0 := by
                have h := HE.out
                rw [hjl, Nat.sub_self] at h
                exact errFrom_end h
              subst hr hjl
              go_wp2_with fail
              go_ret
              exact ⟨rfl, HB.out⟩
end Go.Proofs.YtmgnnplcnmhbaaaGreatDoor.PT
end
