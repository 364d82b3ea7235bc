/- Part 30 of 34 of the proof of backTurns_holds. What it holds was printed or written for this claim, text by text, and merged. -/
import Derived.Test.YteemhjamlkipcaaDoorZ29
import Derived.Test.YteemhjamlkipcaaDoorZ26
import Derived.Test.YteemhjamlkipcaaDoorZ25
import Derived.Test.YteemhjamlkipcaaDoorZ1
import Derived.Deep.RegionHeld3
section
namespace Go.Proofs.YteemhjamlkipcaaDoor.PT
open Go.RowKit Go.Proofs.YteemhjamlkipcaaDoorW.PrintWords Go.Proofs.YteemhjamlkipcaaDoorW.PrintLast Go.Proofs.YteemhjamlkipcaaDoorW.PrintMore
attribute [local go_sem] max2_int min2_int max_two min_two max_three min_three max_four min_four   -- for this text's walks alone
set_option linter.unusedVariables false
set_option linter.unusedSimpArgs false
def rule_Check.j0 : Nat → Bool → ByteArray → Int → Int → Int → Int → Int → Int → Int → Int → Int → ByteArray → Option (Int)
  | 0, _, _, _, _, _, _, _, _, _, _, _, _ => none
  | k + 1, x6, x262000, x262001, x262002, x262003, x262004, x262005, x262006, x262007, x262008, x262009, x262010 => if x6 = true then (some 3) else ((rule_within.f x262001 1900 2100).bind fun t264 => (if t264 = true then ((rule_within.f x262002 x262001 2100).bind fun t265 => (if t265 = true then ((rule_within.f x262003 1 12).bind fun t266 => (if t266 = true then ((day_Check.f k x262004 x262005 x262006).bind fun t267 => (if t267 = 0 then ((civil_Length.f 1901 x262003).bind fun bt268 => (if x262006 > bt268.1 then (some 1) else ((rule_within.f x262007 (-604800) 604800).bind fun t270 => (if t270 = true then ((rule_within.f x262008 0 2).bind fun t271 => (if t271 = true then ((rule_within.f x262009 0 10800).bind fun t272 => (if t272 = true then (some 0) else (some 1))) else (some 1))) else (some 1))))) else (some t267))) else (some 1))) else (some 1))) else (some 1)))
def rule_Check.f (k : Nat) (a0_0 : ByteArray) (a0_1 : Int) (a0_2 : Int) (a0_3 : Int) (a0_4 : Int) (a0_5 : Int) (a0_6 : Int) (a0_7 : Int) (a0_8 : Int) (a0_9 : Int) (a0_10 : ByteArray) : Option (Int) := (rule_IsName.f k a0_0).bind fun t262 => (if t262 = true then (if a0_10.toList = ([45] : List UInt8) then (rule_Check.j0 k false a0_0 a0_1 a0_2 a0_3 a0_4 a0_5 a0_6 a0_7 a0_8 a0_9 a0_10) else ((rule_IsAbbr.f k a0_10).bind fun t263 => (rule_Check.j0 k (!t263) a0_0 a0_1 a0_2 a0_3 a0_4 a0_5 a0_6 a0_7 a0_8 a0_9 a0_10))) else (rule_Check.j0 k true a0_0 a0_1 a0_2 a0_3 a0_4 a0_5 a0_6 a0_7 a0_8 a0_9 a0_10))
theorem rule_Check.mono_l : ∀ k, (∀ y0 y1 y2 y3 y4 y5 y6 y7 y8 y9 y10 y11, LeO (rule_Check.j0 k y0 y1 y2 y3 y4 y5 y6 y7 y8 y9 y10 y11) (rule_Check.j0 (k + 1) y0 y1 y2 y3 y4 y5 y6 y7 y8 y9 y10 y11))
  | 0 => fun _ _ _ _ _ _ _ _ _ _ _ _ r h => by simp [rule_Check.j0] at h
  | k + 1 => by
    have ih0 := rule_Check.mono_l k
    · intro y0 y1 y2 y3 y4 y5 y6 y7 y8 y9 y10 y11
      unfold rule_Check.j0
      repeat' first
      | (with_reducible exact ih0 _ _ _ _ _ _ _ _ _ _ _ _)
      | (with_reducible exact day_Check.mono _ _ _ _)
      | (with_reducible exact rule_IsAbbr.mono _ _)
      | (with_reducible exact rule_IsName.mono _ _)
      | (with_reducible exact LeO.refl _)
      | (with_reducible exact LeO.none _)
      | (with_reducible refine LeO.ite ?_ ?_)
      | (with_reducible refine LeO.bind ?_ (fun _ => ?_))
      | exact ih0 _ _ _ _ _ _ _ _ _ _ _ _
      | exact day_Check.mono _ _ _ _
      | exact rule_IsAbbr.mono _ _
      | exact rule_IsName.mono _ _
      | exact LeO.none _
      | refine LeO.ite ?_ ?_
      | refine LeO.bind ?_ (fun _ => ?_)
theorem rule_Check.mono : ∀ a0 a1 a2 a3 a4 a5 a6 a7 a8 a9 a10 k, LeO (rule_Check.f k a0 a1 a2 a3 a4 a5 a6 a7 a8 a9 a10) (rule_Check.f (k + 1) a0 a1 a2 a3 a4 a5 a6 a7 a8 a9 a10) := by
  intro a0 a1 a2 a3 a4 a5 a6 a7 a8 a9 a10 k
  have ih0 := rule_Check.mono_l k
  unfold rule_Check.f
  repeat' first
      | (with_reducible exact ih0 _ _ _ _ _ _ _ _ _ _ _ _)
      | (with_reducible exact day_Check.mono _ _ _ _)
      | (with_reducible exact rule_IsAbbr.mono _ _)
      | (with_reducible exact rule_IsName.mono _ _)
      | (with_reducible exact LeO.refl _)
      | (with_reducible exact LeO.none _)
      | (with_reducible refine LeO.ite ?_ ?_)
      | (with_reducible refine LeO.bind ?_ (fun _ => ?_))
      | exact ih0 _ _ _ _ _ _ _ _ _ _ _ _
      | exact day_Check.mono _ _ _ _
      | exact rule_IsAbbr.mono _ _
      | exact rule_IsName.mono _ _
      | exact LeO.none _
      | refine LeO.ite ?_ ?_
      | refine LeO.bind ?_ (fun _ => ?_)
set_option maxHeartbeats 8000000 in
set_option maxRecDepth 100000 in
theorem rule_Check.calls (k : Nat) (a0_0 : ByteArray) (a0_1 : Int) (a0_2 : Int) (a0_3 : Int) (a0_4 : Int) (a0_5 : Int) (a0_6 : Int) (a0_7 : Int) (a0_8 : Int) (a0_9 : Int) (a0_10 : ByteArray) (r : Int) (w : World) (hL : LaidT w) (h : rule_Check.f k a0_0 a0_1 a0_2 a0_3 a0_4 a0_5 a0_6 a0_7 a0_8 a0_9 a0_10 = some r) :
    Calls Tryd.prog 23 #[.agg #[.string a0_0, .int .i64 a0_1, .int .i64 a0_2, .int .i64 a0_3, .int .i64 a0_4, .int .i64 a0_5, .int .i64 a0_6, .int .i64 a0_7, .int .i64 a0_8, .int .i64 a0_9, .string a0_10]] w fun e w' => e = .returned (.int .i64 r) ∧ Below w.heap.size w w' := by
  have hu59 := Tryd.underlying59
  have hu57 := Tryd.underlying57
  have HB := Aside0.mk (Below.refl w.heap.size w)
  have HLA := Aside0.mk hL
  clear hL
  have H : ((rule_IsName.f k a0_0).bind fun t262 => (if t262 = true then (if a0_10.toList = ([45] : List UInt8) then (rule_Check.j0 k false a0_0 a0_1 a0_2 a0_3 a0_4 a0_5 a0_6 a0_7 a0_8 a0_9 a0_10) else ((rule_IsAbbr.f k a0_10).bind fun t263 => (rule_Check.j0 k (!t263) a0_0 a0_1 a0_2 a0_3 a0_4 a0_5 a0_6 a0_7 a0_8 a0_9 a0_10))) else (rule_Check.j0 k true a0_0 a0_1 a0_2 a0_3 a0_4 a0_5 a0_6 a0_7 a0_8 a0_9 a0_10))) = some r := h
  clear h
  have HC2 := Aside0.mk H
  clear H
  go_enter Tryd.func23, Tryd.ntmps23
  go_upto_region 1 with (first | ((with_reducible refine gate_dst (N := 1) rfl ?_); refine box_event ?hg (N := 1) ?hd (cs := #[.string a0_0, .int .i64 a0_1, .int .i64 a0_2, .int .i64 a0_3, .int .i64 a0_4, .int .i64 a0_5, .int .i64 a0_6, .int .i64 a0_7, .int .i64 a0_8, .int .i64 a0_9, .string a0_10]) (t := 59) ?hr ?_; (case hd => rfl); (case hg => rfl); (case hr => first | (go_simp; done) | (go_simp; rfl)); intro gb261 hg w3 hbox hb; have n0_ := Aside0.mk (below_step (by repeat (first | (with_reducible first | exact HB.out | apply below_alloc | apply pw_below_drewN | apply below_drew1) | exact HB.out)) hb); have n1_ := Aside0.mk (hbox); have n2_ := Aside0.mk ((by rw [hg]; exact (below_size (by repeat (first | (with_reducible first | exact HB.out | apply below_alloc | apply pw_below_drewN | apply below_drew1) | exact HB.out))) : w.heap.size ≤ gb261)); have n3_ := Aside0.mk ((by rw [hg]; exact (below_size (by repeat (first | (with_reducible first | exact HB.out | apply below_alloc | apply pw_below_drewN | apply below_drew1) | exact HB.out))) : w.heap.size ≤ gb261)); clear HB; have HB := n0_; have BK261 := n1_; have GW261 := n2_; have GE261 := n3_; clear n0_ n1_ n2_ n3_; clear hb hbox hg))
  (try simp only [Act.put, List.setIfInBounds_toArray, List.set_cons_zero, List.set_cons_succ])
  go_cut [6] (fun v6 wc => ∃ (kq : Nat) (x6_1 : Bool), v6 = .bool x6_1 ∧ Aside0 (rule_Check.j0 kq x6_1 a0_0 a0_1 a0_2 a0_3 a0_4 a0_5 a0_6 a0_7 a0_8 a0_9 a0_10 = some r) ∧ Aside0 (kq ≤ k) ∧ Aside0 (wc.heap[gb261]? = some (.cells #[.string a0_0, .int .i64 a0_1, .int .i64 a0_2, .int .i64 a0_3, .int .i64 a0_4, .int .i64 a0_5, .int .i64 a0_6, .int .i64 a0_7, .int .i64 a0_8, .int .i64 a0_9, .string a0_10] 59 (0, 0))) ∧ Aside0 (Below w.heap.size w wc))
  case first =>
    have H := HC2.out
    clear HC2
    replace H := Option.bind_eq_some_iff.mp H
    obtain ⟨t262, A40, H⟩ := H
    replace H : (if t262 = true then (if a0_10.toList = ([45] : List UInt8) then (rule_Check.j0 k false a0_0 a0_1 a0_2 a0_3 a0_4 a0_5 a0_6 a0_7 a0_8 a0_9 a0_10) else ((rule_IsAbbr.f k a0_10).bind fun t263 => (rule_Check.j0 k (!t263) a0_0 a0_1 a0_2 a0_3 a0_4 a0_5 a0_6 a0_7 a0_8 a0_9 a0_10))) else (rule_Check.j0 k true a0_0 a0_1 a0_2 a0_3 a0_4 a0_5 a0_6 a0_7 a0_8 a0_9 a0_10)) = some r := H
    have A4 := Aside0.mk A40
    clear A40
    by_cases c5 : t262 = true
    · subst c5
      have H1 : (if a0_10.toList = ([45] : List UInt8) then (rule_Check.j0 k false a0_0 a0_1 a0_2 a0_3 a0_4 a0_5 a0_6 a0_7 a0_8 a0_9 a0_10) else ((rule_IsAbbr.f k a0_10).bind fun t263 => (rule_Check.j0 k (!t263) a0_0 a0_1 a0_2 a0_3 a0_4 a0_5 a0_6 a0_7 a0_8 a0_9 a0_10))) = some r := by rw [if_pos rfl] at H; exact H
      clear H
      have H := H1
      clear H1
      by_cases c6 : a0_10.toList = ([45] : List UInt8)
      · rw [if_pos c6] at H
        have c6b0 : (a0_10.toList == ([45] : List UInt8)) = true := beq_iff_eq.mpr c6
        have c6b1 : (a0_10.toList != ([45] : List UInt8)) = false := bne_eq_false_iff_eq.mpr c6
        clear c6
        (first | rw [c6b0] | (simp only [i64_w, i32_w]; rw [c6b0]) | skip)
        have H' := Aside0.mk H
        clear H
        have hcz7_0 : w3.cell? ⟨gb261, 0, none⟩ = some (.string a0_0) := (blk_cell BK261.out 0).trans rfl
        have hcz7_1 : w3.cell? ⟨gb261, 1, none⟩ = some (.int .i64 a0_1) := (blk_cell BK261.out 1).trans rfl
        have hcz7_2 : w3.cell? ⟨gb261, 2, none⟩ = some (.int .i64 a0_2) := (blk_cell BK261.out 2).trans rfl
        have hcz7_3 : w3.cell? ⟨gb261, 3, none⟩ = some (.int .i64 a0_3) := (blk_cell BK261.out 3).trans rfl
        have hcz7_4 : w3.cell? ⟨gb261, 4, none⟩ = some (.int .i64 a0_4) := (blk_cell BK261.out 4).trans rfl
        have hcz7_5 : w3.cell? ⟨gb261, 5, none⟩ = some (.int .i64 a0_5) := (blk_cell BK261.out 5).trans rfl
        have hcz7_6 : w3.cell? ⟨gb261, 6, none⟩ = some (.int .i64 a0_6) := (blk_cell BK261.out 6).trans rfl
        have hcz7_7 : w3.cell? ⟨gb261, 7, none⟩ = some (.int .i64 a0_7) := (blk_cell BK261.out 7).trans rfl
        have hcz7_8 : w3.cell? ⟨gb261, 8, none⟩ = some (.int .i64 a0_8) := (blk_cell BK261.out 8).trans rfl
        have hcz7_9 : w3.cell? ⟨gb261, 9, none⟩ = some (.int .i64 a0_9) := (blk_cell BK261.out 9).trans rfl
        have hcz7_10 : w3.cell? ⟨gb261, 10, none⟩ = some (.string a0_10) := (blk_cell BK261.out 10).trans rfl
        have hfz7_0 := blk_frozen BK261.out 0
        have hfz7_1 := blk_frozen BK261.out 1
        have hfz7_2 := blk_frozen BK261.out 2
        have hfz7_3 := blk_frozen BK261.out 3
        have hfz7_4 := blk_frozen BK261.out 4
        have hfz7_5 := blk_frozen BK261.out 5
        have hfz7_6 := blk_frozen BK261.out 6
        have hfz7_7 := blk_frozen BK261.out 7
        have hfz7_8 := blk_frozen BK261.out 8
        have hfz7_9 := blk_frozen BK261.out 9
        have hfz7_10 := blk_frozen BK261.out 10
        go_wp2_with (first | ((with_reducible refine gate_callee (f := 17) rfl ?_); refine goesL_ (some 9) rfl rfl Tryd.func17 (by kernel_rfl) rfl #[.string a0_0] rfl (by (try simp only [List.map_toArray, List.map_cons, List.map_nil]); first | done | rfl | (simp only [List.length_drop, List.length_take]; rfl)) ?_; (with_reducible refine (rule_IsName.calls k a0_0 true _ ?side1 A4.out).mono ?_); (case side1 => exact LaidT.sub HLA.out (by repeat (first | (with_reducible first | exact HB.out | apply below_alloc | apply pw_below_drewN | apply below_drew1 | refine below_set ?_ GE261.out) | exact HB.out))); rintro e w8 ⟨rfl, hb⟩; refine ⟨_, rfl, ?_⟩; have n0_ := Aside0.mk (blk_below (g := gb261) (o := .cells #[.string a0_0, .int .i64 a0_1, .int .i64 a0_2, .int .i64 a0_3, .int .i64 a0_4, .int .i64 a0_5, .int .i64 a0_6, .int .i64 a0_7, .int .i64 a0_8, .int .i64 a0_9, .string a0_10] 59 (0, 0)) (by (with_reducible repeat (first | refine blk_drewN ?_ _ | refine blk_drew ?_ | refine blk_alloc ?_ _)); exact BK261.out) hb); have n1_ := Aside0.mk (below_step (by repeat (first | (with_reducible first | exact HB.out | apply below_alloc | apply pw_below_drewN | apply below_drew1 | refine below_set ?_ GE261.out) | exact HB.out)) hb); clear BK261; clear HB; have BK261 := n0_; have HB := n1_; clear n0_ n1_; (try clear hb); (try clear hb2); (try clear hk); (try clear hi); have hcz9_0 : w8.cell? ⟨gb261, 0, none⟩ = some (.string a0_0) := (blk_cell BK261.out 0).trans rfl; have hcz9_1 : w8.cell? ⟨gb261, 1, none⟩ = some (.int .i64 a0_1) := (blk_cell BK261.out 1).trans rfl; have hcz9_2 : w8.cell? ⟨gb261, 2, none⟩ = some (.int .i64 a0_2) := (blk_cell BK261.out 2).trans rfl; have hcz9_3 : w8.cell? ⟨gb261, 3, none⟩ = some (.int .i64 a0_3) := (blk_cell BK261.out 3).trans rfl; have hcz9_4 : w8.cell? ⟨gb261, 4, none⟩ = some (.int .i64 a0_4) := (blk_cell BK261.out 4).trans rfl; have hcz9_5 : w8.cell? ⟨gb261, 5, none⟩ = some (.int .i64 a0_5) := (blk_cell BK261.out 5).trans rfl; have hcz9_6 : w8.cell? ⟨gb261, 6, none⟩ = some (.int .i64 a0_6) := (blk_cell BK261.out 6).trans rfl; have hcz9_7 : w8.cell? ⟨gb261, 7, none⟩ = some (.int .i64 a0_7) := (blk_cell BK261.out 7).trans rfl; have hcz9_8 : w8.cell? ⟨gb261, 8, none⟩ = some (.int .i64 a0_8) := (blk_cell BK261.out 8).trans rfl; have hcz9_9 : w8.cell? ⟨gb261, 9, none⟩ = some (.int .i64 a0_9) := (blk_cell BK261.out 9).trans rfl; have hcz9_10 : w8.cell? ⟨gb261, 10, none⟩ = some (.string a0_10) := (blk_cell BK261.out 10).trans rfl; have hfz9_0 := blk_frozen BK261.out 0; have hfz9_1 := blk_frozen BK261.out 1; have hfz9_2 := blk_frozen BK261.out 2; have hfz9_3 := blk_frozen BK261.out 3; have hfz9_4 := blk_frozen BK261.out 4; have hfz9_5 := blk_frozen BK261.out 5; have hfz9_6 := blk_frozen BK261.out 6; have hfz9_7 := blk_frozen BK261.out 7; have hfz9_8 := blk_frozen BK261.out 8; have hfz9_9 := blk_frozen BK261.out 9; have hfz9_10 := blk_frozen BK261.out 10))
        go_meet
        case rel => exact ⟨_, (false), (by first | rfl | (simp; done) | (simp [*]; done)), H', ⟨by first | omega | exact Nat.le_refl _⟩, ⟨by (with_reducible repeat (first | refine blk_drewN ?_ _ | refine blk_drew ?_ | refine blk_alloc ?_ _)); exact BK261.out⟩, ⟨by repeat (first | (with_reducible first | exact HB.out | apply below_alloc | apply pw_below_drewN | apply below_drew1 | refine below_set ?_ GE261.out) | exact HB.out)⟩⟩
      · rw [if_neg c6] at H
        have c6b0 : (a0_10.toList == ([45] : List UInt8)) = false := beq_eq_false_iff_ne.mpr c6
        have c6b1 : (a0_10.toList != ([45] : List UInt8)) = true := bne_iff_ne.mpr c6
        (first | rw [c6b0] | (simp only [i64_w, i32_w]; rw [c6b0]) | skip)
        replace H := Option.bind_eq_some_iff.mp H
        obtain ⟨t263, A100, H⟩ := H
        replace H : (rule_Check.j0 k (!t263) a0_0 a0_1 a0_2 a0_3 a0_4 a0_5 a0_6 a0_7 a0_8 a0_9 a0_10) = some r := H
        have A10 := Aside0.mk A100
        clear A100
        have H' := Aside0.mk H
        clear H
        have hcz11_0 : w3.cell? ⟨gb261, 0, none⟩ = some (.string a0_0) := (blk_cell BK261.out 0).trans rfl
        have hcz11_1 : w3.cell? ⟨gb261, 1, none⟩ = some (.int .i64 a0_1) := (blk_cell BK261.out 1).trans rfl
        have hcz11_2 : w3.cell? ⟨gb261, 2, none⟩ = some (.int .i64 a0_2) := (blk_cell BK261.out 2).trans rfl
        have hcz11_3 : w3.cell? ⟨gb261, 3, none⟩ = some (.int .i64 a0_3) := (blk_cell BK261.out 3).trans rfl
        have hcz11_4 : w3.cell? ⟨gb261, 4, none⟩ = some (.int .i64 a0_4) := (blk_cell BK261.out 4).trans rfl
        have hcz11_5 : w3.cell? ⟨gb261, 5, none⟩ = some (.int .i64 a0_5) := (blk_cell BK261.out 5).trans rfl
        have hcz11_6 : w3.cell? ⟨gb261, 6, none⟩ = some (.int .i64 a0_6) := (blk_cell BK261.out 6).trans rfl
        have hcz11_7 : w3.cell? ⟨gb261, 7, none⟩ = some (.int .i64 a0_7) := (blk_cell BK261.out 7).trans rfl
        have hcz11_8 : w3.cell? ⟨gb261, 8, none⟩ = some (.int .i64 a0_8) := (blk_cell BK261.out 8).trans rfl
        have hcz11_9 : w3.cell? ⟨gb261, 9, none⟩ = some (.int .i64 a0_9) := (blk_cell BK261.out 9).trans rfl
        have hcz11_10 : w3.cell? ⟨gb261, 10, none⟩ = some (.string a0_10) := (blk_cell BK261.out 10).trans rfl
        have hfz11_0 := blk_frozen BK261.out 0
        have hfz11_1 := blk_frozen BK261.out 1
        have hfz11_2 := blk_frozen BK261.out 2
        have hfz11_3 := blk_frozen BK261.out 3
        have hfz11_4 := blk_frozen BK261.out 4
        have hfz11_5 := blk_frozen BK261.out 5
        have hfz11_6 := blk_frozen BK261.out 6
        have hfz11_7 := blk_frozen BK261.out 7
        have hfz11_8 := blk_frozen BK261.out 8
        have hfz11_9 := blk_frozen BK261.out 9
        have hfz11_10 := blk_frozen BK261.out 10
        go_wp2_with (first | ((with_reducible refine gate_callee (f := 17) rfl ?_); refine goesL_ (some 9) rfl rfl Tryd.func17 (by kernel_rfl) rfl #[.string a0_0] rfl (by (try simp only [List.map_toArray, List.map_cons, List.map_nil]); first | done | rfl | (simp only [List.length_drop, List.length_take]; rfl)) ?_; (with_reducible refine (rule_IsName.calls k a0_0 true _ ?side1 A4.out).mono ?_); (case side1 => exact LaidT.sub HLA.out (by repeat (first | (with_reducible first | exact HB.out | apply below_alloc | apply pw_below_drewN | apply below_drew1 | refine below_set ?_ GE261.out) | exact HB.out))); rintro e w12 ⟨rfl, hb⟩; refine ⟨_, rfl, ?_⟩; have n0_ := Aside0.mk (blk_below (g := gb261) (o := .cells #[.string a0_0, .int .i64 a0_1, .int .i64 a0_2, .int .i64 a0_3, .int .i64 a0_4, .int .i64 a0_5, .int .i64 a0_6, .int .i64 a0_7, .int .i64 a0_8, .int .i64 a0_9, .string a0_10] 59 (0, 0)) (by (with_reducible repeat (first | refine blk_drewN ?_ _ | refine blk_drew ?_ | refine blk_alloc ?_ _)); exact BK261.out) hb); have n1_ := Aside0.mk (below_step (by repeat (first | (with_reducible first | exact HB.out | apply below_alloc | apply pw_below_drewN | apply below_drew1 | refine below_set ?_ GE261.out) | exact HB.out)) hb); clear BK261; clear HB; have BK261 := n0_; have HB := n1_; clear n0_ n1_; (try clear hb); (try clear hb2); (try clear hk); (try clear hi); have hcz13_0 : w12.cell? ⟨gb261, 0, none⟩ = some (.string a0_0) := (blk_cell BK261.out 0).trans rfl; have hcz13_1 : w12.cell? ⟨gb261, 1, none⟩ = some (.int .i64 a0_1) := (blk_cell BK261.out 1).trans rfl; have hcz13_2 : w12.cell? ⟨gb261, 2, none⟩ = some (.int .i64 a0_2) := (blk_cell BK261.out 2).trans rfl; have hcz13_3 : w12.cell? ⟨gb261, 3, none⟩ = some (.int .i64 a0_3) := (blk_cell BK261.out 3).trans rfl; have hcz13_4 : w12.cell? ⟨gb261, 4, none⟩ = some (.int .i64 a0_4) := (blk_cell BK261.out 4).trans rfl; have hcz13_5 : w12.cell? ⟨gb261, 5, none⟩ = some (.int .i64 a0_5) := (blk_cell BK261.out 5).trans rfl; have hcz13_6 : w12.cell? ⟨gb261, 6, none⟩ = some (.int .i64 a0_6) := (blk_cell BK261.out 6).trans rfl; have hcz13_7 : w12.cell? ⟨gb261, 7, none⟩ = some (.int .i64 a0_7) := (blk_cell BK261.out 7).trans rfl; have hcz13_8 : w12.cell? ⟨gb261, 8, none⟩ = some (.int .i64 a0_8) := (blk_cell BK261.out 8).trans rfl; have hcz13_9 : w12.cell? ⟨gb261, 9, none⟩ = some (.int .i64 a0_9) := (blk_cell BK261.out 9).trans rfl; have hcz13_10 : w12.cell? ⟨gb261, 10, none⟩ = some (.string a0_10) := (blk_cell BK261.out 10).trans rfl; have hfz13_0 := blk_frozen BK261.out 0; have hfz13_1 := blk_frozen BK261.out 1; have hfz13_2 := blk_frozen BK261.out 2; have hfz13_3 := blk_frozen BK261.out 3; have hfz13_4 := blk_frozen BK261.out 4; have hfz13_5 := blk_frozen BK261.out 5; have hfz13_6 := blk_frozen BK261.out 6; have hfz13_7 := blk_frozen BK261.out 7; have hfz13_8 := blk_frozen BK261.out 8; have hfz13_9 := blk_frozen BK261.out 9; have hfz13_10 := blk_frozen BK261.out 10) | (go_at_call 13; (with_reducible refine (rule_IsAbbr.calls k a0_10 t263 _ ?side1 A10.out).mono ?_); (case side1 => exact LaidT.sub HLA.out (by repeat (first | (with_reducible first | exact HB.out | apply below_alloc | apply pw_below_drewN | apply below_drew1 | refine below_set ?_ GE261.out) | exact HB.out))); rintro e w14 ⟨rfl, hb⟩; have n0_ := Aside0.mk (blk_below (g := gb261) (o := .cells #[.string a0_0, .int .i64 a0_1, .int .i64 a0_2, .int .i64 a0_3, .int .i64 a0_4, .int .i64 a0_5, .int .i64 a0_6, .int .i64 a0_7, .int .i64 a0_8, .int .i64 a0_9, .string a0_10] 59 (0, 0)) (by (with_reducible repeat (first | refine blk_drewN ?_ _ | refine blk_drew ?_ | refine blk_alloc ?_ _)); exact BK261.out) hb); have n1_ := Aside0.mk (below_step (by repeat (first | (with_reducible first | exact HB.out | apply below_alloc | apply pw_below_drewN | apply below_drew1 | refine below_set ?_ GE261.out) | exact HB.out)) hb); clear BK261; clear HB; have BK261 := n0_; have HB := n1_; clear n0_ n1_; (try clear hb); (try clear hb2); (try clear hk); (try clear hi)))
        go_meet
        case rel => exact ⟨_, (!t263), (by first | rfl | (simp; done) | (simp [*]; done)), H', ⟨by first | omega | exact Nat.le_refl _⟩, ⟨by (with_reducible repeat (first | refine blk_drewN ?_ _ | refine blk_drew ?_ | refine blk_alloc ?_ _)); exact BK261.out⟩, ⟨by repeat (first | (with_reducible first | exact HB.out | apply below_alloc | apply pw_below_drewN | apply below_drew1 | refine below_set ?_ GE261.out) | exact HB.out)⟩⟩
    · replace c5 := Bool.eq_false_iff.mpr c5
      subst c5
      have H1 : (rule_Check.j0 k true a0_0 a0_1 a0_2 a0_3 a0_4 a0_5 a0_6 a0_7 a0_8 a0_9 a0_10) = some r := by rw [if_neg (show ¬ (false = true) by decide)] at H; exact H
      clear H
      have H := H1
      clear H1
      have H' := Aside0.mk H
      clear H
      have hcz15_0 : w3.cell? ⟨gb261, 0, none⟩ = some (.string a0_0) := (blk_cell BK261.out 0).trans rfl
      have hcz15_1 : w3.cell? ⟨gb261, 1, none⟩ = some (.int .i64 a0_1) := (blk_cell BK261.out 1).trans rfl
      have hcz15_2 : w3.cell? ⟨gb261, 2, none⟩ = some (.int .i64 a0_2) := (blk_cell BK261.out 2).trans rfl
      have hcz15_3 : w3.cell? ⟨gb261, 3, none⟩ = some (.int .i64 a0_3) := (blk_cell BK261.out 3).trans rfl
      have hcz15_4 : w3.cell? ⟨gb261, 4, none⟩ = some (.int .i64 a0_4) := (blk_cell BK261.out 4).trans rfl
      have hcz15_5 : w3.cell? ⟨gb261, 5, none⟩ = some (.int .i64 a0_5) := (blk_cell BK261.out 5).trans rfl
      have hcz15_6 : w3.cell? ⟨gb261, 6, none⟩ = some (.int .i64 a0_6) := (blk_cell BK261.out 6).trans rfl
      have hcz15_7 : w3.cell? ⟨gb261, 7, none⟩ = some (.int .i64 a0_7) := (blk_cell BK261.out 7).trans rfl
      have hcz15_8 : w3.cell? ⟨gb261, 8, none⟩ = some (.int .i64 a0_8) := (blk_cell BK261.out 8).trans rfl
      have hcz15_9 : w3.cell? ⟨gb261, 9, none⟩ = some (.int .i64 a0_9) := (blk_cell BK261.out 9).trans rfl
      have hcz15_10 : w3.cell? ⟨gb261, 10, none⟩ = some (.string a0_10) := (blk_cell BK261.out 10).trans rfl
      have hfz15_0 := blk_frozen BK261.out 0
      have hfz15_1 := blk_frozen BK261.out 1
      have hfz15_2 := blk_frozen BK261.out 2
      have hfz15_3 := blk_frozen BK261.out 3
      have hfz15_4 := blk_frozen BK261.out 4
      have hfz15_5 := blk_frozen BK261.out 5
      have hfz15_6 := blk_frozen BK261.out 6
      have hfz15_7 := blk_frozen BK261.out 7
      have hfz15_8 := blk_frozen BK261.out 8
      have hfz15_9 := blk_frozen BK261.out 9
      have hfz15_10 := blk_frozen BK261.out 10
      go_wp2_with (first | ((with_reducible refine gate_callee (f := 17) rfl ?_); refine goesL_ (some 9) rfl rfl Tryd.func17 (by kernel_rfl) rfl #[.string a0_0] rfl (by (try simp only [List.map_toArray, List.map_cons, List.map_nil]); first | done | rfl | (simp only [List.length_drop, List.length_take]; rfl)) ?_; (with_reducible refine (rule_IsName.calls k a0_0 false _ ?side1 A4.out).mono ?_); (case side1 => exact LaidT.sub HLA.out (by repeat (first | (with_reducible first | exact HB.out | apply below_alloc | apply pw_below_drewN | apply below_drew1 | refine below_set ?_ GE261.out) | exact HB.out))); rintro e w16 ⟨rfl, hb⟩; refine ⟨_, rfl, ?_⟩; have n0_ := Aside0.mk (blk_below (g := gb261) (o := .cells #[.string a0_0, .int .i64 a0_1, .int .i64 a0_2, .int .i64 a0_3, .int .i64 a0_4, .int .i64 a0_5, .int .i64 a0_6, .int .i64 a0_7, .int .i64 a0_8, .int .i64 a0_9, .string a0_10] 59 (0, 0)) (by (with_reducible repeat (first | refine blk_drewN ?_ _ | refine blk_drew ?_ | refine blk_alloc ?_ _)); exact BK261.out) hb); have n1_ := Aside0.mk (below_step (by repeat (first | (with_reducible first | exact HB.out | apply below_alloc | apply pw_below_drewN | apply below_drew1 | refine below_set ?_ GE261.out) | exact HB.out)) hb); clear BK261; clear HB; have BK261 := n0_; have HB := n1_; clear n0_ n1_; (try clear hb); (try clear hb2); (try clear hk); (try clear hi)))
      go_meet
      case rel => exact ⟨_, (true), (by first | rfl | (simp; done) | (simp [*]; done)), H', ⟨by first | omega | exact Nat.le_refl _⟩, ⟨by (with_reducible repeat (first | refine blk_drewN ?_ _ | refine blk_drew ?_ | refine blk_alloc ?_ _)); exact BK261.out⟩, ⟨by repeat (first | (with_reducible first | exact HB.out | apply below_alloc | apply pw_below_drewN | apply below_drew1 | refine below_set ?_ GE261.out) | exact HB.out)⟩⟩
  case rest =>
    clear HC2
    try clear c1
    try clear c2
    try clear p2
    try clear c5
    try clear c6
    try clear c6b0
    try clear c6b1
    try clear hcz11_0
    try clear hcz11_1
    try clear hcz11_10
    try clear hcz11_2
    try clear hcz11_3
    try clear hcz11_4
    try clear hcz11_5
    try clear hcz11_6
    try clear hcz11_7
    try clear hcz11_8
    try clear hcz11_9
    try clear hcz13_0
    try clear hcz13_1
    try clear hcz13_10
    try clear hcz13_2
    try clear hcz13_3
    try clear hcz13_4
    try clear hcz13_5
    try clear hcz13_6
    try clear hcz13_7
    try clear hcz13_8
    try clear hcz13_9
    try clear hcz15_0
    try clear hcz15_1
    try clear hcz15_10
    try clear hcz15_2
    try clear hcz15_3
    try clear hcz15_4
    try clear hcz15_5
    try clear hcz15_6
    try clear hcz15_7
    try clear hcz15_8
    try clear hcz15_9
    try clear hcz7_0
    try clear hcz7_1
    try clear hcz7_10
    try clear hcz7_2
    try clear hcz7_3
    try clear hcz7_4
    try clear hcz7_5
    try clear hcz7_6
    try clear hcz7_7
    try clear hcz7_8
    try clear hcz7_9
    try clear hcz9_0
    try clear hcz9_1
    try clear hcz9_10
    try clear hcz9_2
    try clear hcz9_3
    try clear hcz9_4
    try clear hcz9_5
    try clear hcz9_6
    try clear hcz9_7
    try clear hcz9_8
    try clear hcz9_9
    try clear hfz11_0
    try clear hfz11_1
    try clear hfz11_10
    try clear hfz11_2
    try clear hfz11_3
    try clear hfz11_4
    try clear hfz11_5
    try clear hfz11_6
    try clear hfz11_7
    try clear hfz11_8
    try clear hfz11_9
    try clear hfz13_0
    try clear hfz13_1
    try clear hfz13_10
    try clear hfz13_2
    try clear hfz13_3
    try clear hfz13_4
    try clear hfz13_5
    try clear hfz13_6
    try clear hfz13_7
    try clear hfz13_8
    try clear hfz13_9
    try clear hfz15_0
    try clear hfz15_1
    try clear hfz15_10
    try clear hfz15_2
    try clear hfz15_3
    try clear hfz15_4
    try clear hfz15_5
    try clear hfz15_6
    try clear hfz15_7
    try clear hfz15_8
    try clear hfz15_9
    try clear hfz7_0
    try clear hfz7_1
    try clear hfz7_10
    try clear hfz7_2
    try clear hfz7_3
    try clear hfz7_4
    try clear hfz7_5
    try clear hfz7_6
    try clear hfz7_7
    try clear hfz7_8
    try clear hfz7_9
    try clear hfz9_0
    try clear hfz9_1
    try clear hfz9_10
    try clear hfz9_2
    try clear hfz9_3
    try clear hfz9_4
    try clear hfz9_5
    try clear hfz9_6
    try clear hfz9_7
    try clear hfz9_8
    try clear hfz9_9
    obtain ⟨kq, x6_1, rfl, HA, HJ1, BK261, HB⟩ := hcut
    cases kq with
    | zero => exact absurd HA.out (by simp [rule_Check.j0])
    | succ kj1 =>
      have H := HA.out
      clear HA
      simp only [rule_Check.j0] at H
      by_cases c17 : x6_1 = true
      · subst c17
        have H1 : (some 3) = some r := by rw [if_pos rfl] at H; exact H
        clear H
        have H := H1
        clear H1
        obtain rfl := Option.some.inj H
        go_wp2
        go_ret
        exact ⟨by first | rfl | (simp [errW_none, errW_some] <;> rfl) | (simp [*, errW_none, errW_some] <;> rfl), by repeat (first | (with_reducible first | exact HB.out | apply below_alloc | apply pw_below_drewN | apply below_drew1 | refine below_set ?_ GE261.out) | exact HB.out)⟩
      · replace c17 := Bool.eq_false_iff.mpr c17
        subst c17
        have H1 : ((rule_within.f a0_1 1900 2100).bind fun t264 => (if t264 = true then ((rule_within.f a0_2 a0_1 2100).bind fun t265 => (if t265 = true then ((rule_within.f a0_3 1 12).bind fun t266 => (if t266 = true then ((day_Check.f kj1 a0_4 a0_5 a0_6).bind fun t267 => (if t267 = 0 then ((civil_Length.f 1901 a0_3).bind fun bt268 => (if a0_6 > bt268.1 then (some 1) else ((rule_within.f a0_7 (-604800) 604800).bind fun t270 => (if t270 = true then ((rule_within.f a0_8 0 2).bind fun t271 => (if t271 = true then ((rule_within.f a0_9 0 10800).bind fun t272 => (if t272 = true then (some 0) else (some 1))) else (some 1))) else (some 1))))) else (some t267))) else (some 1))) else (some 1))) else (some 1))) = some r := by rw [if_neg (show ¬ (false = true) by decide)] at H; exact H
        clear H
        have H := H1
        clear H1
        replace H := Option.bind_eq_some_iff.mp H
        obtain ⟨t264, A180, H⟩ := H
        replace H : (if t264 = true then ((rule_within.f a0_2 a0_1 2100).bind fun t265 => (if t265 = true then ((rule_within.f a0_3 1 12).bind fun t266 => (if t266 = true then ((day_Check.f kj1 a0_4 a0_5 a0_6).bind fun t267 => (if t267 = 0 then ((civil_Length.f 1901 a0_3).bind fun bt268 => (if a0_6 > bt268.1 then (some 1) else ((rule_within.f a0_7 (-604800) 604800).bind fun t270 => (if t270 = true then ((rule_within.f a0_8 0 2).bind fun t271 => (if t271 = true then ((rule_within.f a0_9 0 10800).bind fun t272 => (if t272 = true then (some 0) else (some 1))) else (some 1))) else (some 1))))) else (some t267))) else (some 1))) else (some 1))) else (some 1)) = some r := H
        have A18 := Aside0.mk A180
        clear A180
        by_cases c19 : t264 = true
        · subst c19
          have H1 : ((rule_within.f a0_2 a0_1 2100).bind fun t265 => (if t265 = true then ((rule_within.f a0_3 1 12).bind fun t266 => (if t266 = true then ((day_Check.f kj1 a0_4 a0_5 a0_6).bind fun t267 => (if t267 = 0 then ((civil_Length.f 1901 a0_3).bind fun bt268 => (if a0_6 > bt268.1 then (some 1) else ((rule_within.f a0_7 (-604800) 604800).bind fun t270 => (if t270 = true then ((rule_within.f a0_8 0 2).bind fun t271 => (if t271 = true then ((rule_within.f a0_9 0 10800).bind fun t272 => (if t272 = true then (some 0) else (some 1))) else (some 1))) else (some 1))))) else (some t267))) else (some 1))) else (some 1))) = some r := by rw [if_pos rfl] at H; exact H
          clear H
          have H := H1
          clear H1
          replace H := Option.bind_eq_some_iff.mp H
          obtain ⟨t265, A200, H⟩ := H
          replace H : (if t265 = true then ((rule_within.f a0_3 1 12).bind fun t266 => (if t266 = true then ((day_Check.f kj1 a0_4 a0_5 a0_6).bind fun t267 => (if t267 = 0 then ((civil_Length.f 1901 a0_3).bind fun bt268 => (if a0_6 > bt268.1 then (some 1) else ((rule_within.f a0_7 (-604800) 604800).bind fun t270 => (if t270 = true then ((rule_within.f a0_8 0 2).bind fun t271 => (if t271 = true then ((rule_within.f a0_9 0 10800).bind fun t272 => (if t272 = true then (some 0) else (some 1))) else (some 1))) else (some 1))))) else (some t267))) else (some 1))) else (some 1)) = some r := H
          have A20 := Aside0.mk A200
          clear A200
          by_cases c21 : t265 = true
          · subst c21
            have H1 : ((rule_within.f a0_3 1 12).bind fun t266 => (if t266 = true then ((day_Check.f kj1 a0_4 a0_5 a0_6).bind fun t267 => (if t267 = 0 then ((civil_Length.f 1901 a0_3).bind fun bt268 => (if a0_6 > bt268.1 then (some 1) else ((rule_within.f a0_7 (-604800) 604800).bind fun t270 => (if t270 = true then ((rule_within.f a0_8 0 2).bind fun t271 => (if t271 = true then ((rule_within.f a0_9 0 10800).bind fun t272 => (if t272 = true then (some 0) else (some 1))) else (some 1))) else (some 1))))) else (some t267))) else (some 1))) = some r := by rw [if_pos rfl] at H; exact H
            clear H
            have H := H1
            clear H1
            replace H := Option.bind_eq_some_iff.mp H
            obtain ⟨t266, A220, H⟩ := H
            replace H : (if t266 = true then ((day_Check.f kj1 a0_4 a0_5 a0_6).bind fun t267 => (if t267 = 0 then ((civil_Length.f 1901 a0_3).bind fun bt268 => (if a0_6 > bt268.1 then (some 1) else ((rule_within.f a0_7 (-604800) 604800).bind fun t270 => (if t270 = true then ((rule_within.f a0_8 0 2).bind fun t271 => (if t271 = true then ((rule_within.f a0_9 0 10800).bind fun t272 => (if t272 = true then (some 0) else (some 1))) else (some 1))) else (some 1))))) else (some t267))) else (some 1)) = some r := H
            have A22 := Aside0.mk A220
            clear A220
            by_cases c23 : t266 = true
            · subst c23
              have H1 : ((day_Check.f kj1 a0_4 a0_5 a0_6).bind fun t267 => (if t267 = 0 then ((civil_Length.f 1901 a0_3).bind fun bt268 => (if a0_6 > bt268.1 then (some 1) else ((rule_within.f a0_7 (-604800) 604800).bind fun t270 => (if t270 = true then ((rule_within.f a0_8 0 2).bind fun t271 => (if t271 = true then ((rule_within.f a0_9 0 10800).bind fun t272 => (if t272 = true then (some 0) else (some 1))) else (some 1))) else (some 1))))) else (some t267))) = some r := by rw [if_pos rfl] at H; exact H
              clear H
              have H := H1
              clear H1
              replace H := Option.bind_eq_some_iff.mp H
              obtain ⟨t267, A240, H⟩ := H
              replace H : (if t267 = 0 then ((civil_Length.f 1901 a0_3).bind fun bt268 => (if a0_6 > bt268.1 then (some 1) else ((rule_within.f a0_7 (-604800) 604800).bind fun t270 => (if t270 = true then ((rule_within.f a0_8 0 2).bind fun t271 => (if t271 = true then ((rule_within.f a0_9 0 10800).bind fun t272 => (if t272 = true then (some 0) else (some 1))) else (some 1))) else (some 1))))) else (some t267)) = some r := H
              have A24 := Aside0.mk A240
              clear A240
              by_cases c25 : t267 = 0
              · rw [if_pos c25] at H
                have c25b0 : (t267 == 0) = true := beq_iff_eq.mpr c25
                have c25b1 : (t267 != 0) = false := bne_eq_false_iff_eq.mpr c25
                clear c25
                replace H := Option.bind_eq_some_iff.mp H
                obtain ⟨⟨t268, t269⟩, A260, H⟩ := H
                replace H : (if a0_6 > t268 then (some 1) else ((rule_within.f a0_7 (-604800) 604800).bind fun t270 => (if t270 = true then ((rule_within.f a0_8 0 2).bind fun t271 => (if t271 = true then ((rule_within.f a0_9 0 10800).bind fun t272 => (if t272 = true then (some 0) else (some 1))) else (some 1))) else (some 1)))) = some r := H
                have A26 := Aside0.mk A260
                clear A260
                by_cases c27 : a0_6 > t268
                · rw [if_pos c27] at H
                  have c27b0 : decide (t268 < a0_6) = true := decide_eq_true c27
                  clear c27
                  obtain rfl := Option.some.inj H
                  have hcz28_0 : wc.cell? ⟨gb261, 0, none⟩ = some (.string a0_0) := (blk_cell BK261.out 0).trans rfl
                  have hcz28_1 : wc.cell? ⟨gb261, 1, none⟩ = some (.int .i64 a0_1) := (blk_cell BK261.out 1).trans rfl
                  have hcz28_2 : wc.cell? ⟨gb261, 2, none⟩ = some (.int .i64 a0_2) := (blk_cell BK261.out 2).trans rfl
                  have hcz28_3 : wc.cell? ⟨gb261, 3, none⟩ = some (.int .i64 a0_3) := (blk_cell BK261.out 3).trans rfl
                  have hcz28_4 : wc.cell? ⟨gb261, 4, none⟩ = some (.int .i64 a0_4) := (blk_cell BK261.out 4).trans rfl
                  have hcz28_5 : wc.cell? ⟨gb261, 5, none⟩ = some (.int .i64 a0_5) := (blk_cell BK261.out 5).trans rfl
                  have hcz28_6 : wc.cell? ⟨gb261, 6, none⟩ = some (.int .i64 a0_6) := (blk_cell BK261.out 6).trans rfl
                  have hcz28_7 : wc.cell? ⟨gb261, 7, none⟩ = some (.int .i64 a0_7) := (blk_cell BK261.out 7).trans rfl
                  have hcz28_8 : wc.cell? ⟨gb261, 8, none⟩ = some (.int .i64 a0_8) := (blk_cell BK261.out 8).trans rfl
                  have hcz28_9 : wc.cell? ⟨gb261, 9, none⟩ = some (.int .i64 a0_9) := (blk_cell BK261.out 9).trans rfl
                  have hcz28_10 : wc.cell? ⟨gb261, 10, none⟩ = some (.string a0_10) := (blk_cell BK261.out 10).trans rfl
                  have hfz28_0 := blk_frozen BK261.out 0
                  have hfz28_1 := blk_frozen BK261.out 1
                  have hfz28_2 := blk_frozen BK261.out 2
                  have hfz28_3 := blk_frozen BK261.out 3
                  have hfz28_4 := blk_frozen BK261.out 4
                  have hfz28_5 := blk_frozen BK261.out 5
                  have hfz28_6 := blk_frozen BK261.out 6
                  have hfz28_7 := blk_frozen BK261.out 7
                  have hfz28_8 := blk_frozen BK261.out 8
                  have hfz28_9 := blk_frozen BK261.out 9
                  have hfz28_10 := blk_frozen BK261.out 10
                  go_wp2_with (first | ((with_reducible refine gate_callee (f := 38) rfl ?_); refine goesL_ (some 25) rfl rfl Tryd.func38 (by kernel_rfl) rfl #[.int .i64 a0_1, .int .i64 1900, .int .i64 2100] rfl (by (try simp only [List.map_toArray, List.map_cons, List.map_nil]); first | done | rfl | (simp only [List.length_drop, List.length_take]; rfl)) ?_; (with_reducible refine (rule_within.calls a0_1 1900 2100 true _ A18.out).mono ?_); rintro e w' ⟨rfl, ⟨nd, rfl⟩⟩; refine ⟨_, rfl, ?_⟩) | (go_at_call 38; (with_reducible refine (rule_within.calls a0_2 a0_1 2100 true _ A20.out).mono ?_); rintro e w' ⟨rfl, ⟨nd, rfl⟩⟩) | (go_at_call 38; (with_reducible refine (rule_within.calls a0_3 1 12 true _ A22.out).mono ?_); rintro e w' ⟨rfl, ⟨nd, rfl⟩⟩) | ((with_reducible refine gate_callee (f := 39) rfl ?_); refine goesL_ (some 43) rfl rfl Tryd.func39 (by kernel_rfl) rfl #[.agg #[.int .i64 a0_4, .int .i64 a0_5, .int .i64 a0_6]] rfl (by (try simp only [List.map_toArray, List.map_cons, List.map_nil]); first | done | rfl | (simp only [List.length_drop, List.length_take]; rfl)) ?_; (with_reducible refine (day_Check.calls kj1 a0_4 a0_5 a0_6 t267 _ A24.out).mono ?_); rintro e w29 ⟨rfl, hb⟩; refine ⟨_, rfl, ?_⟩; have n0_ := Aside0.mk (blk_below (g := gb261) (o := .cells #[.string a0_0, .int .i64 a0_1, .int .i64 a0_2, .int .i64 a0_3, .int .i64 a0_4, .int .i64 a0_5, .int .i64 a0_6, .int .i64 a0_7, .int .i64 a0_8, .int .i64 a0_9, .string a0_10] 59 (0, 0)) (by (with_reducible repeat (first | refine blk_drewN ?_ _ | refine blk_drew ?_ | refine blk_alloc ?_ _)); exact BK261.out) hb); have n1_ := Aside0.mk (below_step (by repeat (first | (with_reducible first | exact HB.out | apply below_alloc | apply pw_below_drewN | apply below_drew1 | refine below_set ?_ GE261.out) | exact HB.out)) hb); clear BK261; clear HB; have BK261 := n0_; have HB := n1_; clear n0_ n1_; (try clear hb); (try clear hb2); (try clear hk); (try clear hi); have hcz30_0 : w29.cell? ⟨gb261, 0, none⟩ = some (.string a0_0) := (blk_cell BK261.out 0).trans rfl; have hcz30_1 : w29.cell? ⟨gb261, 1, none⟩ = some (.int .i64 a0_1) := (blk_cell BK261.out 1).trans rfl; have hcz30_2 : w29.cell? ⟨gb261, 2, none⟩ = some (.int .i64 a0_2) := (blk_cell BK261.out 2).trans rfl; have hcz30_3 : w29.cell? ⟨gb261, 3, none⟩ = some (.int .i64 a0_3) := (blk_cell BK261.out 3).trans rfl; have hcz30_4 : w29.cell? ⟨gb261, 4, none⟩ = some (.int .i64 a0_4) := (blk_cell BK261.out 4).trans rfl; have hcz30_5 : w29.cell? ⟨gb261, 5, none⟩ = some (.int .i64 a0_5) := (blk_cell BK261.out 5).trans rfl; have hcz30_6 : w29.cell? ⟨gb261, 6, none⟩ = some (.int .i64 a0_6) := (blk_cell BK261.out 6).trans rfl; have hcz30_7 : w29.cell? ⟨gb261, 7, none⟩ = some (.int .i64 a0_7) := (blk_cell BK261.out 7).trans rfl; have hcz30_8 : w29.cell? ⟨gb261, 8, none⟩ = some (.int .i64 a0_8) := (blk_cell BK261.out 8).trans rfl; have hcz30_9 : w29.cell? ⟨gb261, 9, none⟩ = some (.int .i64 a0_9) := (blk_cell BK261.out 9).trans rfl; have hcz30_10 : w29.cell? ⟨gb261, 10, none⟩ = some (.string a0_10) := (blk_cell BK261.out 10).trans rfl; have hfz30_0 := blk_frozen BK261.out 0; have hfz30_1 := blk_frozen BK261.out 1; have hfz30_2 := blk_frozen BK261.out 2; have hfz30_3 := blk_frozen BK261.out 3; have hfz30_4 := blk_frozen BK261.out 4; have hfz30_5 := blk_frozen BK261.out 5; have hfz30_6 := blk_frozen BK261.out 6; have hfz30_7 := blk_frozen BK261.out 7; have hfz30_8 := blk_frozen BK261.out 8; have hfz30_9 := blk_frozen BK261.out 9; have hfz30_10 := blk_frozen BK261.out 10) | ((with_reducible refine gate_callee (f := 40) rfl ?_); refine goesL_ (some 50) rfl rfl Tryd.func40 (by kernel_rfl) rfl #[.int .i64 1901, .int .i64 a0_3] rfl (by (try simp only [List.map_toArray, List.map_cons, List.map_nil]); first | done | rfl | (simp only [List.length_drop, List.length_take]; rfl)) ?_; (with_reducible refine (civil_Length.calls 1901 a0_3 t268 t269 _ A26.out).mono ?_); rintro e w' ⟨rfl, ⟨nd, rfl⟩⟩; refine ⟨_, rfl, ?_⟩))
                  go_ret
                  exact ⟨by first | rfl | (simp [errW_none, errW_some] <;> rfl) | (simp [*, errW_none, errW_some] <;> rfl), by repeat (first | (with_reducible first | exact HB.out | apply below_alloc | apply pw_below_drewN | apply below_drew1 | refine below_set ?_ GE261.out) | exact HB.out)⟩
                · rw [if_neg c27] at H
                  have c27b0 : decide (t268 < a0_6) = false := decide_eq_false c27
                  clear c27
                  replace H := Option.bind_eq_some_iff.mp H
                  obtain ⟨t270, A310, H⟩ := H
                  replace H : (if t270 = true then ((rule_within.f a0_8 0 2).bind fun t271 => (if t271 = true then ((rule_within.f a0_9 0 10800).bind fun t272 => (if t272 = true then (some 0) else (some 1))) else (some 1))) else (some 1)) = some r := H
                  have A31 := Aside0.mk A310
                  clear A310
                  by_cases c32 : t270 = true
                  · subst c32
                    have H1 : ((rule_within.f a0_8 0 2).bind fun t271 => (if t271 = true then ((rule_within.f a0_9 0 10800).bind fun t272 => (if t272 = true then (some 0) else (some 1))) else (some 1))) = some r := by rw [if_pos rfl] at H; exact H
                    clear H
                    have H := H1
                    clear H1
                    replace H := Option.bind_eq_some_iff.mp H
                    obtain ⟨t271, A330, H⟩ := H
                    replace H : (if t271 = true then ((rule_within.f a0_9 0 10800).bind fun t272 => (if t272 = true then (some 0) else (some 1))) else (some 1)) = some r := H
                    have A33 := Aside0.mk A330
                    clear A330
                    by_cases c34 : t271 = true
                    · subst c34
                      have H1 : ((rule_within.f a0_9 0 10800).bind fun t272 => (if t272 = true then (some 0) else (some 1))) = some r := by rw [if_pos rfl] at H; exact H
                      clear H
                      have H := H1
                      clear H1
                      replace H := Option.bind_eq_some_iff.mp H
                      obtain ⟨t272, A350, H⟩ := H
                      replace H : (if t272 = true then (some 0) else (some 1)) = some r := H
                      have A35 := Aside0.mk A350
                      clear A350
                      by_cases c36 : t272 = true
                      · subst c36
                        have H1 : (some 0) = some r := by rw [if_pos rfl] at H; exact H
                        clear H
                        have H := H1
                        clear H1
                        obtain rfl := Option.some.inj H
                        have hcz37_0 : wc.cell? ⟨gb261, 0, none⟩ = some (.string a0_0) := (blk_cell BK261.out 0).trans rfl
                        have hcz37_1 : wc.cell? ⟨gb261, 1, none⟩ = some (.int .i64 a0_1) := (blk_cell BK261.out 1).trans rfl
                        have hcz37_2 : wc.cell? ⟨gb261, 2, none⟩ = some (.int .i64 a0_2) := (blk_cell BK261.out 2).trans rfl
                        have hcz37_3 : wc.cell? ⟨gb261, 3, none⟩ = some (.int .i64 a0_3) := (blk_cell BK261.out 3).trans rfl
                        have hcz37_4 : wc.cell? ⟨gb261, 4, none⟩ = some (.int .i64 a0_4) := (blk_cell BK261.out 4).trans rfl
                        have hcz37_5 : wc.cell? ⟨gb261, 5, none⟩ = some (.int .i64 a0_5) := (blk_cell BK261.out 5).trans rfl
                        have hcz37_6 : wc.cell? ⟨gb261, 6, none⟩ = some (.int .i64 a0_6) := (blk_cell BK261.out 6).trans rfl
                        have hcz37_7 : wc.cell? ⟨gb261, 7, none⟩ = some (.int .i64 a0_7) := (blk_cell BK261.out 7).trans rfl
                        have hcz37_8 : wc.cell? ⟨gb261, 8, none⟩ = some (.int .i64 a0_8) := (blk_cell BK261.out 8).trans rfl
                        have hcz37_9 : wc.cell? ⟨gb261, 9, none⟩ = some (.int .i64 a0_9) := (blk_cell BK261.out 9).trans rfl
                        have hcz37_10 : wc.cell? ⟨gb261, 10, none⟩ = some (.string a0_10) := (blk_cell BK261.out 10).trans rfl
                        have hfz37_0 := blk_frozen BK261.out 0
                        have hfz37_1 := blk_frozen BK261.out 1
                        have hfz37_2 := blk_frozen BK261.out 2
                        have hfz37_3 := blk_frozen BK261.out 3
                        have hfz37_4 := blk_frozen BK261.out 4
                        have hfz37_5 := blk_frozen BK261.out 5
                        have hfz37_6 := blk_frozen BK261.out 6
                        have hfz37_7 := blk_frozen BK261.out 7
                        have hfz37_8 := blk_frozen BK261.out 8
                        have hfz37_9 := blk_frozen BK261.out 9
                        have hfz37_10 := blk_frozen BK261.out 10
                        go_wp2_with (first | ((with_reducible refine gate_callee (f := 38) rfl ?_); refine goesL_ (some 25) rfl rfl Tryd.func38 (by kernel_rfl) rfl #[.int .i64 a0_1, .int .i64 1900, .int .i64 2100] rfl (by (try simp only [List.map_toArray, List.map_cons, List.map_nil]); first | done | rfl | (simp only [List.length_drop, List.length_take]; rfl)) ?_; (with_reducible refine (rule_within.calls a0_1 1900 2100 true _ A18.out).mono ?_); rintro e w' ⟨rfl, ⟨nd, rfl⟩⟩; refine ⟨_, rfl, ?_⟩) | (go_at_call 38; (with_reducible refine (rule_within.calls a0_2 a0_1 2100 true _ A20.out).mono ?_); rintro e w' ⟨rfl, ⟨nd, rfl⟩⟩) | (go_at_call 38; (with_reducible refine (rule_within.calls a0_3 1 12 true _ A22.out).mono ?_); rintro e w' ⟨rfl, ⟨nd, rfl⟩⟩) | ((with_reducible refine gate_callee (f := 39) rfl ?_); refine goesL_ (some 43) rfl rfl Tryd.func39 (by kernel_rfl) rfl #[.agg #[.int .i64 a0_4, .int .i64 a0_5, .int .i64 a0_6]] rfl (by (try simp only [List.map_toArray, List.map_cons, List.map_nil]); first | done | rfl | (simp only [List.length_drop, List.length_take]; rfl)) ?_; (with_reducible refine (day_Check.calls kj1 a0_4 a0_5 a0_6 t267 _ A24.out).mono ?_); rintro e w38 ⟨rfl, hb⟩; refine ⟨_, rfl, ?_⟩; have n0_ := Aside0.mk (blk_below (g := gb261) (o := .cells #[.string a0_0, .int .i64 a0_1, .int .i64 a0_2, .int .i64 a0_3, .int .i64 a0_4, .int .i64 a0_5, .int .i64 a0_6, .int .i64 a0_7, .int .i64 a0_8, .int .i64 a0_9, .string a0_10] 59 (0, 0)) (by (with_reducible repeat (first | refine blk_drewN ?_ _ | refine blk_drew ?_ | refine blk_alloc ?_ _)); exact BK261.out) hb); have n1_ := Aside0.mk (below_step (by repeat (first | (with_reducible first | exact HB.out | apply below_alloc | apply pw_below_drewN | apply below_drew1 | refine below_set ?_ GE261.out) | exact HB.out)) hb); clear BK261; clear HB; have BK261 := n0_; have HB := n1_; clear n0_ n1_; (try clear hb); (try clear hb2); (try clear hk); (try clear hi); have hcz39_0 : w38.cell? ⟨gb261, 0, none⟩ = some (.string a0_0) := (blk_cell BK261.out 0).trans rfl; have hcz39_1 : w38.cell? ⟨gb261, 1, none⟩ = some (.int .i64 a0_1) := (blk_cell BK261.out 1).trans rfl; have hcz39_2 : w38.cell? ⟨gb261, 2, none⟩ = some (.int .i64 a0_2) := (blk_cell BK261.out 2).trans rfl; have hcz39_3 : w38.cell? ⟨gb261, 3, none⟩ = some (.int .i64 a0_3) := (blk_cell BK261.out 3).trans rfl; have hcz39_4 : w38.cell? ⟨gb261, 4, none⟩ = some (.int .i64 a0_4) := (blk_cell BK261.out 4).trans rfl; have hcz39_5 : w38.cell? ⟨gb261, 5, none⟩ = some (.int .i64 a0_5) := (blk_cell BK261.out 5).trans rfl; have hcz39_6 : w38.cell? ⟨gb261, 6, none⟩ = some (.int .i64 a0_6) := (blk_cell BK261.out 6).trans rfl; have hcz39_7 : w38.cell? ⟨gb261, 7, none⟩ = some (.int .i64 a0_7) := (blk_cell BK261.out 7).trans rfl; have hcz39_8 : w38.cell? ⟨gb261, 8, none⟩ = some (.int .i64 a0_8) := (blk_cell BK261.out 8).trans rfl; have hcz39_9 : w38.cell? ⟨gb261, 9, none⟩ = some (.int .i64 a0_9) := (blk_cell BK261.out 9).trans rfl; have hcz39_10 : w38.cell? ⟨gb261, 10, none⟩ = some (.string a0_10) := (blk_cell BK261.out 10).trans rfl; have hfz39_0 := blk_frozen BK261.out 0; have hfz39_1 := blk_frozen BK261.out 1; have hfz39_2 := blk_frozen BK261.out 2; have hfz39_3 := blk_frozen BK261.out 3; have hfz39_4 := blk_frozen BK261.out 4; have hfz39_5 := blk_frozen BK261.out 5; have hfz39_6 := blk_frozen BK261.out 6; have hfz39_7 := blk_frozen BK261.out 7; have hfz39_8 := blk_frozen BK261.out 8; have hfz39_9 := blk_frozen BK261.out 9; have hfz39_10 := blk_frozen BK261.out 10) | ((with_reducible refine gate_callee (f := 40) rfl ?_); refine goesL_ (some 50) rfl rfl Tryd.func40 (by kernel_rfl) rfl #[.int .i64 1901, .int .i64 a0_3] rfl (by (try simp only [List.map_toArray, List.map_cons, List.map_nil]); first | done | rfl | (simp only [List.length_drop, List.length_take]; rfl)) ?_; (with_reducible refine (civil_Length.calls 1901 a0_3 t268 t269 _ A26.out).mono ?_); rintro e w' ⟨rfl, ⟨nd, rfl⟩⟩; refine ⟨_, rfl, ?_⟩) | (go_at_call 38; (with_reducible refine (rule_within.calls a0_7 (-604800) 604800 true _ A31.out).mono ?_); rintro e w' ⟨rfl, ⟨nd, rfl⟩⟩) | (go_at_call 38; (with_reducible refine (rule_within.calls a0_8 0 2 true _ A33.out).mono ?_); rintro e w' ⟨rfl, ⟨nd, rfl⟩⟩) | (go_at_call 38; (with_reducible refine (rule_within.calls a0_9 0 10800 true _ A35.out).mono ?_); rintro e w' ⟨rfl, ⟨nd, rfl⟩⟩))
                        go_ret
                        exact ⟨by first | rfl | (simp [errW_none, errW_some] <;> rfl) | (simp [*, errW_none, errW_some] <;> rfl), by repeat (first | (with_reducible first | exact HB.out | apply below_alloc | apply pw_below_drewN | apply below_drew1 | refine below_set ?_ GE261.out) | exact HB.out)⟩
                      · replace c36 := Bool.eq_false_iff.mpr c36
                        subst c36
                        have H1 : (some 1) = some r := by rw [if_neg (show ¬ (false = true) by decide)] at H; exact H
                        clear H
                        have H := H1
                        clear H1
                        obtain rfl := Option.some.inj H
                        have hcz40_0 : wc.cell? ⟨gb261, 0, none⟩ = some (.string a0_0) := (blk_cell BK261.out 0).trans rfl
                        have hcz40_1 : wc.cell? ⟨gb261, 1, none⟩ = some (.int .i64 a0_1) := (blk_cell BK261.out 1).trans rfl
                        have hcz40_2 : wc.cell? ⟨gb261, 2, none⟩ = some (.int .i64 a0_2) := (blk_cell BK261.out 2).trans rfl
                        have hcz40_3 : wc.cell? ⟨gb261, 3, none⟩ = some (.int .i64 a0_3) := (blk_cell BK261.out 3).trans rfl
                        have hcz40_4 : wc.cell? ⟨gb261, 4, none⟩ = some (.int .i64 a0_4) := (blk_cell BK261.out 4).trans rfl
                        have hcz40_5 : wc.cell? ⟨gb261, 5, none⟩ = some (.int .i64 a0_5) := (blk_cell BK261.out 5).trans rfl
                        have hcz40_6 : wc.cell? ⟨gb261, 6, none⟩ = some (.int .i64 a0_6) := (blk_cell BK261.out 6).trans rfl
                        have hcz40_7 : wc.cell? ⟨gb261, 7, none⟩ = some (.int .i64 a0_7) := (blk_cell BK261.out 7).trans rfl
                        have hcz40_8 : wc.cell? ⟨gb261, 8, none⟩ = some (.int .i64 a0_8) := (blk_cell BK261.out 8).trans rfl
                        have hcz40_9 : wc.cell? ⟨gb261, 9, none⟩ = some (.int .i64 a0_9) := (blk_cell BK261.out 9).trans rfl
                        have hcz40_10 : wc.cell? ⟨gb261, 10, none⟩ = some (.string a0_10) := (blk_cell BK261.out 10).trans rfl
                        have hfz40_0 := blk_frozen BK261.out 0
                        have hfz40_1 := blk_frozen BK261.out 1
                        have hfz40_2 := blk_frozen BK261.out 2
                        have hfz40_3 := blk_frozen BK261.out 3
                        have hfz40_4 := blk_frozen BK261.out 4
                        have hfz40_5 := blk_frozen BK261.out 5
                        have hfz40_6 := blk_frozen BK261.out 6
                        have hfz40_7 := blk_frozen BK261.out 7
                        have hfz40_8 := blk_frozen BK261.out 8
                        have hfz40_9 := blk_frozen BK261.out 9
                        have hfz40_10 := blk_frozen BK261.out 10
                        go_wp2_with (first | ((with_reducible refine gate_callee (f := 38) rfl ?_); refine goesL_ (some 25) rfl rfl Tryd.func38 (by kernel_rfl) rfl #[.int .i64 a0_1, .int .i64 1900, .int .i64 2100] rfl (by (try simp only [List.map_toArray, List.map_cons, List.map_nil]); first | done | rfl | (simp only [List.length_drop, List.length_take]; rfl)) ?_; (with_reducible refine (rule_within.calls a0_1 1900 2100 true _ A18.out).mono ?_); rintro e w' ⟨rfl, ⟨nd, rfl⟩⟩; refine ⟨_, rfl, ?_⟩) | (go_at_call 38; (with_reducible refine (rule_within.calls a0_2 a0_1 2100 true _ A20.out).mono ?_); rintro e w' ⟨rfl, ⟨nd, rfl⟩⟩) | (go_at_call 38; (with_reducible refine (rule_within.calls a0_3 1 12 true _ A22.out).mono ?_); rintro e w' ⟨rfl, ⟨nd, rfl⟩⟩) | ((with_reducible refine gate_callee (f := 39) rfl ?_); refine goesL_ (some 43) rfl rfl Tryd.func39 (by kernel_rfl) rfl #[.agg #[.int .i64 a0_4, .int .i64 a0_5, .int .i64 a0_6]] rfl (by (try simp only [List.map_toArray, List.map_cons, List.map_nil]); first | done | rfl | (simp only [List.length_drop, List.length_take]; rfl)) ?_; (with_reducible refine (day_Check.calls kj1 a0_4 a0_5 a0_6 t267 _ A24.out).mono ?_); rintro e w41 ⟨rfl, hb⟩; refine ⟨_, rfl, ?_⟩; have n0_ := Aside0.mk (blk_below (g := gb261) (o := .cells #[.string a0_0, .int .i64 a0_1, .int .i64 a0_2, .int .i64 a0_3, .int .i64 a0_4, .int .i64 a0_5, .int .i64 a0_6, .int .i64 a0_7, .int .i64 a0_8, .int .i64 a0_9, .string a0_10] 59 (0, 0)) (by (with_reducible repeat (first | refine blk_drewN ?_ _ | refine blk_drew ?_ | refine blk_alloc ?_ _)); exact BK261.out) hb); have n1_ := Aside0.mk (below_step (by repeat (first | (with_reducible first | exact HB.out | apply below_alloc | apply pw_below_drewN | apply below_drew1 | refine below_set ?_ GE261.out) | exact HB.out)) hb); clear BK261; clear HB; have BK261 := n0_; have HB := n1_; clear n0_ n1_; (try clear hb); (try clear hb2); (try clear hk); (try clear hi); have hcz42_0 : w41.cell? ⟨gb261, 0, none⟩ = some (.string a0_0) := (blk_cell BK261.out 0).trans rfl; have hcz42_1 : w41.cell? ⟨gb261, 1, none⟩ = some (.int .i64 a0_1) := (blk_cell BK261.out 1).trans rfl; have hcz42_2 : w41.cell? ⟨gb261, 2, none⟩ = some (.int .i64 a0_2) := (blk_cell BK261.out 2).trans rfl; have hcz42_3 : w41.cell? ⟨gb261, 3, none⟩ = some (.int .i64 a0_3) := (blk_cell BK261.out 3).trans rfl; have hcz42_4 : w41.cell? ⟨gb261, 4, none⟩ = some (.int .i64 a0_4) := (blk_cell BK261.out 4).trans rfl; have hcz42_5 : w41.cell? ⟨gb261, 5, none⟩ = some (.int .i64 a0_5) := (blk_cell BK261.out 5).trans rfl; have hcz42_6 : w41.cell? ⟨gb261, 6, none⟩ = some (.int .i64 a0_6) := (blk_cell BK261.out 6).trans rfl; have hcz42_7 : w41.cell? ⟨gb261, 7, none⟩ = some (.int .i64 a0_7) := (blk_cell BK261.out 7).trans rfl; have hcz42_8 : w41.cell? ⟨gb261, 8, none⟩ = some (.int .i64 a0_8) := (blk_cell BK261.out 8).trans rfl; have hcz42_9 : w41.cell? ⟨gb261, 9, none⟩ = some (.int .i64 a0_9) := (blk_cell BK261.out 9).trans rfl; have hcz42_10 : w41.cell? ⟨gb261, 10, none⟩ = some (.string a0_10) := (blk_cell BK261.out 10).trans rfl; have hfz42_0 := blk_frozen BK261.out 0; have hfz42_1 := blk_frozen BK261.out 1; have hfz42_2 := blk_frozen BK261.out 2; have hfz42_3 := blk_frozen BK261.out 3; have hfz42_4 := blk_frozen BK261.out 4; have hfz42_5 := blk_frozen BK261.out 5; have hfz42_6 := blk_frozen BK261.out 6; have hfz42_7 := blk_frozen BK261.out 7; have hfz42_8 := blk_frozen BK261.out 8; have hfz42_9 := blk_frozen BK261.out 9; have hfz42_10 := blk_frozen BK261.out 10) | ((with_reducible refine gate_callee (f := 40) rfl ?_); refine goesL_ (some 50) rfl rfl Tryd.func40 (by kernel_rfl) rfl #[.int .i64 1901, .int .i64 a0_3] rfl (by (try simp only [List.map_toArray, List.map_cons, List.map_nil]); first | done | rfl | (simp only [List.length_drop, List.length_take]; rfl)) ?_; (with_reducible refine (civil_Length.calls 1901 a0_3 t268 t269 _ A26.out).mono ?_); rintro e w' ⟨rfl, ⟨nd, rfl⟩⟩; refine ⟨_, rfl, ?_⟩) | (go_at_call 38; (with_reducible refine (rule_within.calls a0_7 (-604800) 604800 true _ A31.out).mono ?_); rintro e w' ⟨rfl, ⟨nd, rfl⟩⟩) | (go_at_call 38; (with_reducible refine (rule_within.calls a0_8 0 2 true _ A33.out).mono ?_); rintro e w' ⟨rfl, ⟨nd, rfl⟩⟩) | (go_at_call 38; (with_reducible refine (rule_within.calls a0_9 0 10800 false _ A35.out).mono ?_); rintro e w' ⟨rfl, ⟨nd, rfl⟩⟩))
                        go_ret
                        exact ⟨by first | rfl | (simp [errW_none, errW_some] <;> rfl) | (simp [*, errW_none, errW_some] <;> rfl), by repeat (first | (with_reducible first | exact HB.out | apply below_alloc | apply pw_below_drewN | apply below_drew1 | refine below_set ?_ GE261.out) | exact HB.out)⟩
                    · replace c34 := Bool.eq_false_iff.mpr c34
                      subst c34
                      have H1 : (some 1) = some r := by rw [if_neg (show ¬ (false = true) by decide)] at H; exact H
                      clear H
                      have H := H1
                      clear H1
                      obtain rfl := Option.some.inj H
                      have hcz43_0 : wc.cell? ⟨gb261, 0, none⟩ = some (.string a0_0) := (blk_cell BK261.out 0).trans rfl
                      have hcz43_1 : wc.cell? ⟨gb261, 1, none⟩ = some (.int .i64 a0_1) := (blk_cell BK261.out 1).trans rfl
                      have hcz43_2 : wc.cell? ⟨gb261, 2, none⟩ = some (.int .i64 a0_2) := (blk_cell BK261.out 2).trans rfl
                      have hcz43_3 : wc.cell? ⟨gb261, 3, none⟩ = some (.int .i64 a0_3) := (blk_cell BK261.out 3).trans rfl
                      have hcz43_4 : wc.cell? ⟨gb261, 4, none⟩ = some (.int .i64 a0_4) := (blk_cell BK261.out 4).trans rfl
                      have hcz43_5 : wc.cell? ⟨gb261, 5, none⟩ = some (.int .i64 a0_5) := (blk_cell BK261.out 5).trans rfl
                      have hcz43_6 : wc.cell? ⟨gb261, 6, none⟩ = some (.int .i64 a0_6) := (blk_cell BK261.out 6).trans rfl
                      have hcz43_7 : wc.cell? ⟨gb261, 7, none⟩ = some (.int .i64 a0_7) := (blk_cell BK261.out 7).trans rfl
                      have hcz43_8 : wc.cell? ⟨gb261, 8, none⟩ = some (.int .i64 a0_8) := (blk_cell BK261.out 8).trans rfl
                      have hcz43_9 : wc.cell? ⟨gb261, 9, none⟩ = some (.int .i64 a0_9) := (blk_cell BK261.out 9).trans rfl
                      have hcz43_10 : wc.cell? ⟨gb261, 10, none⟩ = some (.string a0_10) := (blk_cell BK261.out 10).trans rfl
                      have hfz43_0 := blk_frozen BK261.out 0
                      have hfz43_1 := blk_frozen BK261.out 1
                      have hfz43_2 := blk_frozen BK261.out 2
                      have hfz43_3 := blk_frozen BK261.out 3
                      have hfz43_4 := blk_frozen BK261.out 4
                      have hfz43_5 := blk_frozen BK261.out 5
                      have hfz43_6 := blk_frozen BK261.out 6
                      have hfz43_7 := blk_frozen BK261.out 7
                      have hfz43_8 := blk_frozen BK261.out 8
                      have hfz43_9 := blk_frozen BK261.out 9
                      have hfz43_10 := blk_frozen BK261.out 10
                      go_wp2_with (first | ((with_reducible refine gate_callee (f := 38) rfl ?_); refine goesL_ (some 25) rfl rfl Tryd.func38 (by kernel_rfl) rfl #[.int .i64 a0_1, .int .i64 1900, .int .i64 2100] rfl (by (try simp only [List.map_toArray, List.map_cons, List.map_nil]); first | done | rfl | (simp only [List.length_drop, List.length_take]; rfl)) ?_; (with_reducible refine (rule_within.calls a0_1 1900 2100 true _ A18.out).mono ?_); rintro e w' ⟨rfl, ⟨nd, rfl⟩⟩; refine ⟨_, rfl, ?_⟩) | (go_at_call 38; (with_reducible refine (rule_within.calls a0_2 a0_1 2100 true _ A20.out).mono ?_); rintro e w' ⟨rfl, ⟨nd, rfl⟩⟩) | (go_at_call 38; (with_reducible refine (rule_within.calls a0_3 1 12 true _ A22.out).mono ?_); rintro e w' ⟨rfl, ⟨nd, rfl⟩⟩) | ((with_reducible refine gate_callee (f := 39) rfl ?_); refine goesL_ (some 43) rfl rfl Tryd.func39 (by kernel_rfl) rfl #[.agg #[.int .i64 a0_4, .int .i64 a0_5, .int .i64 a0_6]] rfl (by (try simp only [List.map_toArray, List.map_cons, List.map_nil]); first | done | rfl | (simp only [List.length_drop, List.length_take]; rfl)) ?_; (with_reducible refine (day_Check.calls kj1 a0_4 a0_5 a0_6 t267 _ A24.out).mono ?_); rintro e w44 ⟨rfl, hb⟩; refine ⟨_, rfl, ?_⟩; have n0_ := Aside0.mk (blk_below (g := gb261) (o := .cells #[.string a0_0, .int .i64 a0_1, .int .i64 a0_2, .int .i64 a0_3, .int .i64 a0_4, .int .i64 a0_5, .int .i64 a0_6, .int .i64 a0_7, .int .i64 a0_8, .int .i64 a0_9, .string a0_10] 59 (0, 0)) (by (with_reducible repeat (first | refine blk_drewN ?_ _ | refine blk_drew ?_ | refine blk_alloc ?_ _)); exact BK261.out) hb); have n1_ := Aside0.mk (below_step (by repeat (first | (with_reducible first | exact HB.out | apply below_alloc | apply pw_below_drewN | apply below_drew1 | refine below_set ?_ GE261.out) | exact HB.out)) hb); clear BK261; clear HB; have BK261 := n0_; have HB := n1_; clear n0_ n1_; (try clear hb); (try clear hb2); (try clear hk); (try clear hi); have hcz45_0 : w44.cell? ⟨gb261, 0, none⟩ = some (.string a0_0) := (blk_cell BK261.out 0).trans rfl; have hcz45_1 : w44.cell? ⟨gb261, 1, none⟩ = some (.int .i64 a0_1) := (blk_cell BK261.out 1).trans rfl; have hcz45_2 : w44.cell? ⟨gb261, 2, none⟩ = some (.int .i64 a0_2) := (blk_cell BK261.out 2).trans rfl; have hcz45_3 : w44.cell? ⟨gb261, 3, none⟩ = some (.int .i64 a0_3) := (blk_cell BK261.out 3).trans rfl; have hcz45_4 : w44.cell? ⟨gb261, 4, none⟩ = some (.int .i64 a0_4) := (blk_cell BK261.out 4).trans rfl; have hcz45_5 : w44.cell? ⟨gb261, 5, none⟩ = some (.int .i64 a0_5) := (blk_cell BK261.out 5).trans rfl; have hcz45_6 : w44.cell? ⟨gb261, 6, none⟩ = some (.int .i64 a0_6) := (blk_cell BK261.out 6).trans rfl; have hcz45_7 : w44.cell? ⟨gb261, 7, none⟩ = some (.int .i64 a0_7) := (blk_cell BK261.out 7).trans rfl; have hcz45_8 : w44.cell? ⟨gb261, 8, none⟩ = some (.int .i64 a0_8) := (blk_cell BK261.out 8).trans rfl; have hcz45_9 : w44.cell? ⟨gb261, 9, none⟩ = some (.int .i64 a0_9) := (blk_cell BK261.out 9).trans rfl; have hcz45_10 : w44.cell? ⟨gb261, 10, none⟩ = some (.string a0_10) := (blk_cell BK261.out 10).trans rfl; have hfz45_0 := blk_frozen BK261.out 0; have hfz45_1 := blk_frozen BK261.out 1; have hfz45_2 := blk_frozen BK261.out 2; have hfz45_3 := blk_frozen BK261.out 3; have hfz45_4 := blk_frozen BK261.out 4; have hfz45_5 := blk_frozen BK261.out 5; have hfz45_6 := blk_frozen BK261.out 6; have hfz45_7 := blk_frozen BK261.out 7; have hfz45_8 := blk_frozen BK261.out 8; have hfz45_9 := blk_frozen BK261.out 9; have hfz45_10 := blk_frozen BK261.out 10) | ((with_reducible refine gate_callee (f := 40) rfl ?_); refine goesL_ (some 50) rfl rfl Tryd.func40 (by kernel_rfl) rfl #[.int .i64 1901, .int .i64 a0_3] rfl (by (try simp only [List.map_toArray, List.map_cons, List.map_nil]); first | done | rfl | (simp only [List.length_drop, List.length_take]; rfl)) ?_; (with_reducible refine (civil_Length.calls 1901 a0_3 t268 t269 _ A26.out).mono ?_); rintro e w' ⟨rfl, ⟨nd, rfl⟩⟩; refine ⟨_, rfl, ?_⟩) | (go_at_call 38; (with_reducible refine (rule_within.calls a0_7 (-604800) 604800 true _ A31.out).mono ?_); rintro e w' ⟨rfl, ⟨nd, rfl⟩⟩) | (go_at_call 38; (with_reducible refine (rule_within.calls a0_8 0 2 false _ A33.out).mono ?_); rintro e w' ⟨rfl, ⟨nd, rfl⟩⟩))
                      go_ret
                      exact ⟨by first | rfl | (simp [errW_none, errW_some] <;> rfl) | (simp [*, errW_none, errW_some] <;> rfl), by repeat (first | (with_reducible first | exact HB.out | apply below_alloc | apply pw_below_drewN | apply below_drew1 | refine below_set ?_ GE261.out) | exact HB.out)⟩
                  · replace c32 := Bool.eq_false_iff.mpr c32
                    subst c32
                    have H1 : (some 1) = some r := by rw [if_neg (show ¬ (false = true) by decide)] at H; exact H
                    clear H
                    have H := H1
                    clear H1
                    obtain rfl := Option.some.inj H
                    have hcz46_0 : wc.cell? ⟨gb261, 0, none⟩ = some (.string a0_0) := (blk_cell BK261.out 0).trans rfl
                    have hcz46_1 : wc.cell? ⟨gb261, 1, none⟩ = some (.int .i64 a0_1) := (blk_cell BK261.out 1).trans rfl
                    have hcz46_2 : wc.cell? ⟨gb261, 2, none⟩ = some (.int .i64 a0_2) := (blk_cell BK261.out 2).trans rfl
                    have hcz46_3 : wc.cell? ⟨gb261, 3, none⟩ = some (.int .i64 a0_3) := (blk_cell BK261.out 3).trans rfl
                    have hcz46_4 : wc.cell? ⟨gb261, 4, none⟩ = some (.int .i64 a0_4) := (blk_cell BK261.out 4).trans rfl
                    have hcz46_5 : wc.cell? ⟨gb261, 5, none⟩ = some (.int .i64 a0_5) := (blk_cell BK261.out 5).trans rfl
                    have hcz46_6 : wc.cell? ⟨gb261, 6, none⟩ = some (.int .i64 a0_6) := (blk_cell BK261.out 6).trans rfl
                    have hcz46_7 : wc.cell? ⟨gb261, 7, none⟩ = some (.int .i64 a0_7) := (blk_cell BK261.out 7).trans rfl
                    have hcz46_8 : wc.cell? ⟨gb261, 8, none⟩ = some (.int .i64 a0_8) := (blk_cell BK261.out 8).trans rfl
                    have hcz46_9 : wc.cell? ⟨gb261, 9, none⟩ = some (.int .i64 a0_9) := (blk_cell BK261.out 9).trans rfl
                    have hcz46_10 : wc.cell? ⟨gb261, 10, none⟩ = some (.string a0_10) := (blk_cell BK261.out 10).trans rfl
                    have hfz46_0 := blk_frozen BK261.out 0
                    have hfz46_1 := blk_frozen BK261.out 1
                    have hfz46_2 := blk_frozen BK261.out 2
                    have hfz46_3 := blk_frozen BK261.out 3
                    have hfz46_4 := blk_frozen BK261.out 4
                    have hfz46_5 := blk_frozen BK261.out 5
                    have hfz46_6 := blk_frozen BK261.out 6
                    have hfz46_7 := blk_frozen BK261.out 7
                    have hfz46_8 := blk_frozen BK261.out 8
                    have hfz46_9 := blk_frozen BK261.out 9
                    have hfz46_10 := blk_frozen BK261.out 10
                    go_wp2_with (first | ((with_reducible refine gate_callee (f := 38) rfl ?_); refine goesL_ (some 25) rfl rfl Tryd.func38 (by kernel_rfl) rfl #[.int .i64 a0_1, .int .i64 1900, .int .i64 2100] rfl (by (try simp only [List.map_toArray, List.map_cons, List.map_nil]); first | done | rfl | (simp only [List.length_drop, List.length_take]; rfl)) ?_; (with_reducible refine (rule_within.calls a0_1 1900 2100 true _ A18.out).mono ?_); rintro e w' ⟨rfl, ⟨nd, rfl⟩⟩; refine ⟨_, rfl, ?_⟩) | (go_at_call 38; (with_reducible refine (rule_within.calls a0_2 a0_1 2100 true _ A20.out).mono ?_); rintro e w' ⟨rfl, ⟨nd, rfl⟩⟩) | (go_at_call 38; (with_reducible refine (rule_within.calls a0_3 1 12 true _ A22.out).mono ?_); rintro e w' ⟨rfl, ⟨nd, rfl⟩⟩) | ((with_reducible refine gate_callee (f := 39) rfl ?_); refine goesL_ (some 43) rfl rfl Tryd.func39 (by kernel_rfl) rfl #[.agg #[.int .i64 a0_4, .int .i64 a0_5, .int .i64 a0_6]] rfl (by (try simp only [List.map_toArray, List.map_cons, List.map_nil]); first | done | rfl | (simp only [List.length_drop, List.length_take]; rfl)) ?_; (with_reducible refine (day_Check.calls kj1 a0_4 a0_5 a0_6 t267 _ A24.out).mono ?_); rintro e w47 ⟨rfl, hb⟩; refine ⟨_, rfl, ?_⟩; have n0_ := Aside0.mk (blk_below (g := gb261) (o := .cells #[.string a0_0, .int .i64 a0_1, .int .i64 a0_2, .int .i64 a0_3, .int .i64 a0_4, .int .i64 a0_5, .int .i64 a0_6, .int .i64 a0_7, .int .i64 a0_8, .int .i64 a0_9, .string a0_10] 59 (0, 0)) (by (with_reducible repeat (first | refine blk_drewN ?_ _ | refine blk_drew ?_ | refine blk_alloc ?_ _)); exact BK261.out) hb); have n1_ := Aside0.mk (below_step (by repeat (first | (with_reducible first | exact HB.out | apply below_alloc | apply pw_below_drewN | apply below_drew1 | refine below_set ?_ GE261.out) | exact HB.out)) hb); clear BK261; clear HB; have BK261 := n0_; have HB := n1_; clear n0_ n1_; (try clear hb); (try clear hb2); (try clear hk); (try clear hi); have hcz48_0 : w47.cell? ⟨gb261, 0, none⟩ = some (.string a0_0) := (blk_cell BK261.out 0).trans rfl; have hcz48_1 : w47.cell? ⟨gb261, 1, none⟩ = some (.int .i64 a0_1) := (blk_cell BK261.out 1).trans rfl; have hcz48_2 : w47.cell? ⟨gb261, 2, none⟩ = some (.int .i64 a0_2) := (blk_cell BK261.out 2).trans rfl; have hcz48_3 : w47.cell? ⟨gb261, 3, none⟩ = some (.int .i64 a0_3) := (blk_cell BK261.out 3).trans rfl; have hcz48_4 : w47.cell? ⟨gb261, 4, none⟩ = some (.int .i64 a0_4) := (blk_cell BK261.out 4).trans rfl; have hcz48_5 : w47.cell? ⟨gb261, 5, none⟩ = some (.int .i64 a0_5) := (blk_cell BK261.out 5).trans rfl; have hcz48_6 : w47.cell? ⟨gb261, 6, none⟩ = some (.int .i64 a0_6) := (blk_cell BK261.out 6).trans rfl; have hcz48_7 : w47.cell? ⟨gb261, 7, none⟩ = some (.int .i64 a0_7) := (blk_cell BK261.out 7).trans rfl; have hcz48_8 : w47.cell? ⟨gb261, 8, none⟩ = some (.int .i64 a0_8) := (blk_cell BK261.out 8).trans rfl; have hcz48_9 : w47.cell? ⟨gb261, 9, none⟩ = some (.int .i64 a0_9) := (blk_cell BK261.out 9).trans rfl; have hcz48_10 : w47.cell? ⟨gb261, 10, none⟩ = some (.string a0_10) := (blk_cell BK261.out 10).trans rfl; have hfz48_0 := blk_frozen BK261.out 0; have hfz48_1 := blk_frozen BK261.out 1; have hfz48_2 := blk_frozen BK261.out 2; have hfz48_3 := blk_frozen BK261.out 3; have hfz48_4 := blk_frozen BK261.out 4; have hfz48_5 := blk_frozen BK261.out 5; have hfz48_6 := blk_frozen BK261.out 6; have hfz48_7 := blk_frozen BK261.out 7; have hfz48_8 := blk_frozen BK261.out 8; have hfz48_9 := blk_frozen BK261.out 9; have hfz48_10 := blk_frozen BK261.out 10) | ((with_reducible refine gate_callee (f := 40) rfl ?_); refine goesL_ (some 50) rfl rfl Tryd.func40 (by kernel_rfl) rfl #[.int .i64 1901, .int .i64 a0_3] rfl (by (try simp only [List.map_toArray, List.map_cons, List.map_nil]); first | done | rfl | (simp only [List.length_drop, List.length_take]; rfl)) ?_; (with_reducible refine (civil_Length.calls 1901 a0_3 t268 t269 _ A26.out).mono ?_); rintro e w' ⟨rfl, ⟨nd, rfl⟩⟩; refine ⟨_, rfl, ?_⟩) | (go_at_call 38; (with_reducible refine (rule_within.calls a0_7 (-604800) 604800 false _ A31.out).mono ?_); rintro e w' ⟨rfl, ⟨nd, rfl⟩⟩))
                    go_ret
                    exact ⟨by first | rfl | (simp [errW_none, errW_some] <;> rfl) | (simp [*, errW_none, errW_some] <;> rfl), by repeat (first | (with_reducible first | exact HB.out | apply below_alloc | apply pw_below_drewN | apply below_drew1 | refine below_set ?_ GE261.out) | exact HB.out)⟩
              · rw [if_neg c25] at H
                have c25b0 : (t267 == 0) = false := beq_eq_false_iff_ne.mpr c25
                have c25b1 : (t267 != 0) = true := bne_iff_ne.mpr c25
                obtain rfl := Option.some.inj H
                have hcz49_0 : wc.cell? ⟨gb261, 0, none⟩ = some (.string a0_0) := (blk_cell BK261.out 0).trans rfl
                have hcz49_1 : wc.cell? ⟨gb261, 1, none⟩ = some (.int .i64 a0_1) := (blk_cell BK261.out 1).trans rfl
                have hcz49_2 : wc.cell? ⟨gb261, 2, none⟩ = some (.int .i64 a0_2) := (blk_cell BK261.out 2).trans rfl
                have hcz49_3 : wc.cell? ⟨gb261, 3, none⟩ = some (.int .i64 a0_3) := (blk_cell BK261.out 3).trans rfl
                have hcz49_4 : wc.cell? ⟨gb261, 4, none⟩ = some (.int .i64 a0_4) := (blk_cell BK261.out 4).trans rfl
                have hcz49_5 : wc.cell? ⟨gb261, 5, none⟩ = some (.int .i64 a0_5) := (blk_cell BK261.out 5).trans rfl
                have hcz49_6 : wc.cell? ⟨gb261, 6, none⟩ = some (.int .i64 a0_6) := (blk_cell BK261.out 6).trans rfl
                have hcz49_7 : wc.cell? ⟨gb261, 7, none⟩ = some (.int .i64 a0_7) := (blk_cell BK261.out 7).trans rfl
                have hcz49_8 : wc.cell? ⟨gb261, 8, none⟩ = some (.int .i64 a0_8) := (blk_cell BK261.out 8).trans rfl
                have hcz49_9 : wc.cell? ⟨gb261, 9, none⟩ = some (.int .i64 a0_9) := (blk_cell BK261.out 9).trans rfl
                have hcz49_10 : wc.cell? ⟨gb261, 10, none⟩ = some (.string a0_10) := (blk_cell BK261.out 10).trans rfl
                have hfz49_0 := blk_frozen BK261.out 0
                have hfz49_1 := blk_frozen BK261.out 1
                have hfz49_2 := blk_frozen BK261.out 2
                have hfz49_3 := blk_frozen BK261.out 3
                have hfz49_4 := blk_frozen BK261.out 4
                have hfz49_5 := blk_frozen BK261.out 5
                have hfz49_6 := blk_frozen BK261.out 6
                have hfz49_7 := blk_frozen BK261.out 7
                have hfz49_8 := blk_frozen BK261.out 8
                have hfz49_9 := blk_frozen BK261.out 9
                have hfz49_10 := blk_frozen BK261.out 10
                go_wp2_with (first | ((with_reducible refine gate_callee (f := 38) rfl ?_); refine goesL_ (some 25) rfl rfl Tryd.func38 (by kernel_rfl) rfl #[.int .i64 a0_1, .int .i64 1900, .int .i64 2100] rfl (by (try simp only [List.map_toArray, List.map_cons, List.map_nil]); first | done | rfl | (simp only [List.length_drop, List.length_take]; rfl)) ?_; (with_reducible refine (rule_within.calls a0_1 1900 2100 true _ A18.out).mono ?_); rintro e w' ⟨rfl, ⟨nd, rfl⟩⟩; refine ⟨_, rfl, ?_⟩) | (go_at_call 38; (with_reducible refine (rule_within.calls a0_2 a0_1 2100 true _ A20.out).mono ?_); rintro e w' ⟨rfl, ⟨nd, rfl⟩⟩) | (go_at_call 38; (with_reducible refine (rule_within.calls a0_3 1 12 true _ A22.out).mono ?_); rintro e w' ⟨rfl, ⟨nd, rfl⟩⟩) | ((with_reducible refine gate_callee (f := 39) rfl ?_); refine goesL_ (some 43) rfl rfl Tryd.func39 (by kernel_rfl) rfl #[.agg #[.int .i64 a0_4, .int .i64 a0_5, .int .i64 a0_6]] rfl (by (try simp only [List.map_toArray, List.map_cons, List.map_nil]); first | done | rfl | (simp only [List.length_drop, List.length_take]; rfl)) ?_; (with_reducible refine (day_Check.calls kj1 a0_4 a0_5 a0_6 t267 _ A24.out).mono ?_); rintro e w50 ⟨rfl, hb⟩; refine ⟨_, rfl, ?_⟩; have n0_ := Aside0.mk (blk_below (g := gb261) (o := .cells #[.string a0_0, .int .i64 a0_1, .int .i64 a0_2, .int .i64 a0_3, .int .i64 a0_4, .int .i64 a0_5, .int .i64 a0_6, .int .i64 a0_7, .int .i64 a0_8, .int .i64 a0_9, .string a0_10] 59 (0, 0)) (by (with_reducible repeat (first | refine blk_drewN ?_ _ | refine blk_drew ?_ | refine blk_alloc ?_ _)); exact BK261.out) hb); have n1_ := Aside0.mk (below_step (by repeat (first | (with_reducible first | exact HB.out | apply below_alloc | apply pw_below_drewN | apply below_drew1 | refine below_set ?_ GE261.out) | exact HB.out)) hb); clear BK261; clear HB; have BK261 := n0_; have HB := n1_; clear n0_ n1_; (try clear hb); (try clear hb2); (try clear hk); (try clear hi)))
                go_ret
                exact ⟨by first | rfl | (simp [errW_none, errW_some] <;> rfl) | (simp [*, errW_none, errW_some] <;> rfl), by repeat (first | (with_reducible first | exact HB.out | apply below_alloc | apply pw_below_drewN | apply below_drew1 | refine below_set ?_ GE261.out) | exact HB.out)⟩
            · replace c23 := Bool.eq_false_iff.mpr c23
              subst c23
              have H1 : (some 1) = some r := by rw [if_neg (show ¬ (false = true) by decide)] at H; exact H
              clear H
              have H := H1
              clear H1
              obtain rfl := Option.some.inj H
              have hcz51_0 : wc.cell? ⟨gb261, 0, none⟩ = some (.string a0_0) := (blk_cell BK261.out 0).trans rfl
              have hcz51_1 : wc.cell? ⟨gb261, 1, none⟩ = some (.int .i64 a0_1) := (blk_cell BK261.out 1).trans rfl
              have hcz51_2 : wc.cell? ⟨gb261, 2, none⟩ = some (.int .i64 a0_2) := (blk_cell BK261.out 2).trans rfl
              have hcz51_3 : wc.cell? ⟨gb261, 3, none⟩ = some (.int .i64 a0_3) := (blk_cell BK261.out 3).trans rfl
              have hcz51_4 : wc.cell? ⟨gb261, 4, none⟩ = some (.int .i64 a0_4) := (blk_cell BK261.out 4).trans rfl
              have hcz51_5 : wc.cell? ⟨gb261, 5, none⟩ = some (.int .i64 a0_5) := (blk_cell BK261.out 5).trans rfl
              have hcz51_6 : wc.cell? ⟨gb261, 6, none⟩ = some (.int .i64 a0_6) := (blk_cell BK261.out 6).trans rfl
              have hcz51_7 : wc.cell? ⟨gb261, 7, none⟩ = some (.int .i64 a0_7) := (blk_cell BK261.out 7).trans rfl
              have hcz51_8 : wc.cell? ⟨gb261, 8, none⟩ = some (.int .i64 a0_8) := (blk_cell BK261.out 8).trans rfl
              have hcz51_9 : wc.cell? ⟨gb261, 9, none⟩ = some (.int .i64 a0_9) := (blk_cell BK261.out 9).trans rfl
              have hcz51_10 : wc.cell? ⟨gb261, 10, none⟩ = some (.string a0_10) := (blk_cell BK261.out 10).trans rfl
              have hfz51_0 := blk_frozen BK261.out 0
              have hfz51_1 := blk_frozen BK261.out 1
              have hfz51_2 := blk_frozen BK261.out 2
              have hfz51_3 := blk_frozen BK261.out 3
              have hfz51_4 := blk_frozen BK261.out 4
              have hfz51_5 := blk_frozen BK261.out 5
              have hfz51_6 := blk_frozen BK261.out 6
              have hfz51_7 := blk_frozen BK261.out 7
              have hfz51_8 := blk_frozen BK261.out 8
              have hfz51_9 := blk_frozen BK261.out 9
              have hfz51_10 := blk_frozen BK261.out 10
              go_wp2_with (first | ((with_reducible refine gate_callee (f := 38) rfl ?_); refine goesL_ (some 25) rfl rfl Tryd.func38 (by kernel_rfl) rfl #[.int .i64 a0_1, .int .i64 1900, .int .i64 2100] rfl (by (try simp only [List.map_toArray, List.map_cons, List.map_nil]); first | done | rfl | (simp only [List.length_drop, List.length_take]; rfl)) ?_; (with_reducible refine (rule_within.calls a0_1 1900 2100 true _ A18.out).mono ?_); rintro e w' ⟨rfl, ⟨nd, rfl⟩⟩; refine ⟨_, rfl, ?_⟩) | (go_at_call 38; (with_reducible refine (rule_within.calls a0_2 a0_1 2100 true _ A20.out).mono ?_); rintro e w' ⟨rfl, ⟨nd, rfl⟩⟩) | (go_at_call 38; (with_reducible refine (rule_within.calls a0_3 1 12 false _ A22.out).mono ?_); rintro e w' ⟨rfl, ⟨nd, rfl⟩⟩))
              go_ret
              exact ⟨by first | rfl | (simp [errW_none, errW_some] <;> rfl) | (simp [*, errW_none, errW_some] <;> rfl), by repeat (first | (with_reducible first | exact HB.out | apply below_alloc | apply pw_below_drewN | apply below_drew1 | refine below_set ?_ GE261.out) | exact HB.out)⟩
          · replace c21 := Bool.eq_false_iff.mpr c21
            subst c21
            have H1 : (some 1) = some r := by rw [if_neg (show ¬ (false = true) by decide)] at H; exact H
            clear H
            have H := H1
            clear H1
            obtain rfl := Option.some.inj H
            have hcz52_0 : wc.cell? ⟨gb261, 0, none⟩ = some (.string a0_0) := (blk_cell BK261.out 0).trans rfl
            have hcz52_1 : wc.cell? ⟨gb261, 1, none⟩ = some (.int .i64 a0_1) := (blk_cell BK261.out 1).trans rfl
            have hcz52_2 : wc.cell? ⟨gb261, 2, none⟩ = some (.int .i64 a0_2) := (blk_cell BK261.out 2).trans rfl
            have hcz52_3 : wc.cell? ⟨gb261, 3, none⟩ = some (.int .i64 a0_3) := (blk_cell BK261.out 3).trans rfl
            have hcz52_4 : wc.cell? ⟨gb261, 4, none⟩ = some (.int .i64 a0_4) := (blk_cell BK261.out 4).trans rfl
            have hcz52_5 : wc.cell? ⟨gb261, 5, none⟩ = some (.int .i64 a0_5) := (blk_cell BK261.out 5).trans rfl
            have hcz52_6 : wc.cell? ⟨gb261, 6, none⟩ = some (.int .i64 a0_6) := (blk_cell BK261.out 6).trans rfl
            have hcz52_7 : wc.cell? ⟨gb261, 7, none⟩ = some (.int .i64 a0_7) := (blk_cell BK261.out 7).trans rfl
            have hcz52_8 : wc.cell? ⟨gb261, 8, none⟩ = some (.int .i64 a0_8) := (blk_cell BK261.out 8).trans rfl
            have hcz52_9 : wc.cell? ⟨gb261, 9, none⟩ = some (.int .i64 a0_9) := (blk_cell BK261.out 9).trans rfl
            have hcz52_10 : wc.cell? ⟨gb261, 10, none⟩ = some (.string a0_10) := (blk_cell BK261.out 10).trans rfl
            have hfz52_0 := blk_frozen BK261.out 0
            have hfz52_1 := blk_frozen BK261.out 1
            have hfz52_2 := blk_frozen BK261.out 2
            have hfz52_3 := blk_frozen BK261.out 3
            have hfz52_4 := blk_frozen BK261.out 4
            have hfz52_5 := blk_frozen BK261.out 5
            have hfz52_6 := blk_frozen BK261.out 6
            have hfz52_7 := blk_frozen BK261.out 7
            have hfz52_8 := blk_frozen BK261.out 8
            have hfz52_9 := blk_frozen BK261.out 9
            have hfz52_10 := blk_frozen BK261.out 10
            go_wp2_with (first | ((with_reducible refine gate_callee (f := 38) rfl ?_); refine goesL_ (some 25) rfl rfl Tryd.func38 (by kernel_rfl) rfl #[.int .i64 a0_1, .int .i64 1900, .int .i64 2100] rfl (by (try simp only [List.map_toArray, List.map_cons, List.map_nil]); first | done | rfl | (simp only [List.length_drop, List.length_take]; rfl)) ?_; (with_reducible refine (rule_within.calls a0_1 1900 2100 true _ A18.out).mono ?_); rintro e w' ⟨rfl, ⟨nd, rfl⟩⟩; refine ⟨_, rfl, ?_⟩) | (go_at_call 38; (with_reducible refine (rule_within.calls a0_2 a0_1 2100 false _ A20.out).mono ?_); rintro e w' ⟨rfl, ⟨nd, rfl⟩⟩))
            go_ret
            exact ⟨by first | rfl | (simp [errW_none, errW_some] <;> rfl) | (simp [*, errW_none, errW_some] <;> rfl), by repeat (first | (with_reducible first | exact HB.out | apply below_alloc | apply pw_below_drewN | apply below_drew1 | refine below_set ?_ GE261.out) | exact HB.out)⟩
        · replace c19 := Bool.eq_false_iff.mpr c19
          subst c19
          have H1 : (some 1) = some r := by rw [if_neg (show ¬ (false = true) by decide)] at H; exact H
          clear H
          have H := H1
          clear H1
          obtain rfl := Option.some.inj H
          have hcz53_0 : wc.cell? ⟨gb261, 0, none⟩ = some (.string a0_0) := (blk_cell BK261.out 0).trans rfl
          have hcz53_1 : wc.cell? ⟨gb261, 1, none⟩ = some (.int .i64 a0_1) := (blk_cell BK261.out 1).trans rfl
          have hcz53_2 : wc.cell? ⟨gb261, 2, none⟩ = some (.int .i64 a0_2) := (blk_cell BK261.out 2).trans rfl
          have hcz53_3 : wc.cell? ⟨gb261, 3, none⟩ = some (.int .i64 a0_3) := (blk_cell BK261.out 3).trans rfl
          have hcz53_4 : wc.cell? ⟨gb261, 4, none⟩ = some (.int .i64 a0_4) := (blk_cell BK261.out 4).trans rfl
          have hcz53_5 : wc.cell? ⟨gb261, 5, none⟩ = some (.int .i64 a0_5) := (blk_cell BK261.out 5).trans rfl
          have hcz53_6 : wc.cell? ⟨gb261, 6, none⟩ = some (.int .i64 a0_6) := (blk_cell BK261.out 6).trans rfl
          have hcz53_7 : wc.cell? ⟨gb261, 7, none⟩ = some (.int .i64 a0_7) := (blk_cell BK261.out 7).trans rfl
          have hcz53_8 : wc.cell? ⟨gb261, 8, none⟩ = some (.int .i64 a0_8) := (blk_cell BK261.out 8).trans rfl
          have hcz53_9 : wc.cell? ⟨gb261, 9, none⟩ = some (.int .i64 a0_9) := (blk_cell BK261.out 9).trans rfl
          have hcz53_10 : wc.cell? ⟨gb261, 10, none⟩ = some (.string a0_10) := (blk_cell BK261.out 10).trans rfl
          have hfz53_0 := blk_frozen BK261.out 0
          have hfz53_1 := blk_frozen BK261.out 1
          have hfz53_2 := blk_frozen BK261.out 2
          have hfz53_3 := blk_frozen BK261.out 3
          have hfz53_4 := blk_frozen BK261.out 4
          have hfz53_5 := blk_frozen BK261.out 5
          have hfz53_6 := blk_frozen BK261.out 6
          have hfz53_7 := blk_frozen BK261.out 7
          have hfz53_8 := blk_frozen BK261.out 8
          have hfz53_9 := blk_frozen BK261.out 9
          have hfz53_10 := blk_frozen BK261.out 10
          go_wp2_with (first | ((with_reducible refine gate_callee (f := 38) rfl ?_); refine goesL_ (some 25) rfl rfl Tryd.func38 (by kernel_rfl) rfl #[.int .i64 a0_1, .int .i64 1900, .int .i64 2100] rfl (by (try simp only [List.map_toArray, List.map_cons, List.map_nil]); first | done | rfl | (simp only [List.length_drop, List.length_take]; rfl)) ?_; (with_reducible refine (rule_within.calls a0_1 1900 2100 false _ A18.out).mono ?_); rintro e w' ⟨rfl, ⟨nd, rfl⟩⟩; refine ⟨_, rfl, ?_⟩))
          go_ret
          exact ⟨by first | rfl | (simp [errW_none, errW_some] <;> rfl) | (simp [*, errW_none, errW_some] <;> rfl), by repeat (first | (with_reducible first | exact HB.out | apply below_alloc | apply pw_below_drewN | apply below_drew1 | refine below_set ?_ GE261.out) | exact HB.out)⟩
end Go.Proofs.YteemhjamlkipcaaDoor.PT
end
section
namespace Go.Proofs.YteemhjamlkipcaaDoor.PT
open Go.RowKit Go.Proofs.YteemhjamlkipcaaDoorW.PrintWords Go.Proofs.YteemhjamlkipcaaDoorW.PrintLast Go.Proofs.YteemhjamlkipcaaDoorW.PrintMore
set_option linter.unusedVariables false
set_option linter.unusedSimpArgs false
structure RulesFit (l0 : List S59) (l1 : List S48) (l2 : List S103) : Prop where
  len : l0.length ≤ 40
  zones : l1 = []
  links : l2 = []
  each : ∀ i : Int, 0 ≤ i → i < l0.length → rule_Check.f 60 (rd_T59 l0 i).f0 (rd_T59 l0 i).f1 (rd_T59 l0 i).f2 (rd_T59 l0 i).f3 (rd_T59 l0 i).f4.f0 (rd_T59 l0 i).f4.f1 (rd_T59 l0 i).f4.f2 (rd_T59 l0 i).f5 (rd_T59 l0 i).f6 (rd_T59 l0 i).f7 (rd_T59 l0 i).f8 = some 0
theorem RulesFit.iff (l0 : List S59) (l1 : List S48) (l2 : List S103) : (l0.length ≤ 40 ∧ l1.length = 0 ∧ l2.length = 0 ∧ ∀ i : Nat, i < l0.length → rule_Check.f 60 (rd_T59 l0 (i : Int)).f0 (rd_T59 l0 (i : Int)).f1 (rd_T59 l0 (i : Int)).f2 (rd_T59 l0 (i : Int)).f3 (rd_T59 l0 (i : Int)).f4.f0 (rd_T59 l0 (i : Int)).f4.f1 (rd_T59 l0 (i : Int)).f4.f2 (rd_T59 l0 (i : Int)).f5 (rd_T59 l0 (i : Int)).f6 (rd_T59 l0 (i : Int)).f7 (rd_T59 l0 (i : Int)).f8 = some 0) ↔ RulesFit l0 l1 l2 := by
  constructor
  · rintro ⟨h1, h2, h3, h4⟩
    refine ⟨h1, List.eq_nil_of_length_eq_zero h2, List.eq_nil_of_length_eq_zero h3, fun i h0 hl => ?_⟩
    have := h4 i.toNat (by omega)
    rwa [Int.toNat_of_nonneg h0] at this
  · intro h
    exact ⟨h.len, by rw [h.zones]; rfl, by rw [h.links]; rfl, fun i hi => h.each _ (Int.natCast_nonneg _) (by omega)⟩
instance (l0 : List S59) (l1 : List S48) (l2 : List S103) : Decidable (RulesFit l0 l1 l2) := decidable_of_iff _ (RulesFit.iff l0 l1 l2)
def book_Check.f (l0_0 : List S59) (l0_1 : List S48) (l0_2 : List S103) : Option Int :=
  if RulesFit l0_0 l0_1 l0_2 then some 0 else none
set_option maxHeartbeats 1000000 in
set_option maxRecDepth 100000 in
theorem book_Check.calls (A0_0 : Option Addr) (c0_0 : Nat) (l0_0 : List (S59)) (A0_1 : Option Addr) (c0_1 : Nat) (l0_1 : List (S48)) (A0_2 : Option Addr) (c0_2 : Nat) (l0_2 : List (S103)) (r : Int) (w : World) (hL : LaidT w) (hr0_0 : Kd.C k59 w A0_0 l0_0.length l0_0) (hc0_0 : l0_0.length ≤ c0_0) (hr0_1 : Kd.C k48 w A0_1 l0_1.length l0_1) (hc0_1 : l0_1.length ≤ c0_1) (hr0_2 : Kd.C k103 w A0_2 l0_2.length l0_2) (hc0_2 : l0_2.length ≤ c0_2) (h : book_Check.f l0_0 l0_1 l0_2 = some r) :
    Calls Tryd.prog 14 #[.agg #[.slice A0_0 l0_0.length c0_0, .slice A0_1 l0_1.length c0_1, .slice A0_2 l0_2.length c0_2]] w fun e w' => e = .returned (.int .i64 r) ∧ Below w.heap.size w w' := by
  have hu34 := Tryd.underlying34
  have hu77 := Tryd.underlying77
  have hu59 := Tryd.underlying59
  unfold book_Check.f at h
  split at h
  case isFalse => cases h
  case isTrue hf =>
  obtain rfl : 0 = r := by simpa only [Option.some.injEq] using h
  clear h hr0_1 hr0_2
  have hz := hf.zones
  have hli := hf.links
  subst hz hli
  have HF := Aside0.mk hf
  have HR := Aside0.mk hr0_0
  have HL := Aside0.mk hL
  have hln := hf.len
  clear hf hr0_0 hL
  have hmost1 : decide ((40 : Int) < (l0_0.length : Int)) = false := decide_eq_false (by omega)
  have hmost : ¬ ((40 : Int) < (l0_0.length : Int)) := by omega
  go_enter Tryd.func14, Tryd.ntmps14
  go_wp2_with fail
  have hb2 := below_alloc (Below.refl w.heap.size w) (Obj.cells #[.slice A0_0 l0_0.length c0_0, .slice A0_1 0 c0_1, .slice A0_2 0 c0_2] 34)
  have HX2 := Aside0.mk (heap_alloc_new w (Obj.cells #[.slice A0_0 l0_0.length c0_0, .slice A0_1 0 c0_1, .slice A0_2 0 c0_2] 34))
  have HB2 := Aside0.mk hb2
  clear hb2
  generalize w.alloc (Obj.cells #[.slice A0_0 l0_0.length c0_0, .slice A0_1 0 c0_1, .slice A0_2 0 c0_2] 34) = w2 at HX2 HB2 ⊢
  obtain ⟨b, hb⟩ : ∃ b, b = w.heap.size := ⟨_, rfl⟩
  rw [← hb] at HX2 ⊢
  have HBE := Aside0.mk hb
  clear hb
  go_loopw [30] (fun i wr => ∃ k : Nat, i = .int .i64 k ∧ k ≤ l0_0.length ∧ Aside0 (wr.heap[b]? = some (.cells #[.slice A0_0 l0_0.length c0_0, .slice A0_1 0 c0_1, .slice A0_2 0 c0_2] 34 (0, 0))) ∧ Aside0 (Below w.heap.size w wr)) (fun i _ => l0_0.length - (intOf i).toNat)
  case atStart => exact ⟨0, rfl, Nat.zero_le _, HX2, HB2⟩
  case round =>
    obtain ⟨k, rfl, hk, HX, HB⟩ := hrel
    clear HX2 HB2
    by_cases hlt : k < l0_0.length
    · have hk0 : (0 : Int) ≤ (k : Int) := Int.natCast_nonneg _
      have hk1 : (k : Int) < (l0_0.length : Int) := by omega
      obtain ⟨ac, e, p0, p1, p2, p3, p4, p5, p6, p7, p8, p9, p10⟩ := at_T59 (Kd.C_below HR.out HB.out) (k : Int) hk0 hk1
      cases e
      rw [Int.toNat_natCast] at p0 p1 p2 p3 p4 p5 p6 p7 p8 p9 p10
      have hcl := World.block_lt_of_cell? _ _ p0
      have hd := HF.out.each (k : Int) hk0 hk1
      obtain ⟨r, hr⟩ : ∃ r, r = rd_T59 l0_0 (k : Int) := ⟨_, rfl⟩
      simp only [← hr] at p0 p1 p2 p3 p4 p5 p6 p7 p8 p9 p10 hd
      obtain ⟨nm, fr, tw, mo, ⟨dk, dw, dn⟩, aw, bw, sv, le⟩ := r
      dsimp only at p0 p1 p2 p3 p4 p5 p6 p7 p8 p9 p10 hd
      have HRr := Aside0.mk hr
      have HD := Aside0.mk hd
      clear hr hd
      have hbl := (Array.getElem?_eq_some_iff.1 HX.out).1
      go_wp2_with (go_at_call 23; refine (rule_Check.calls 60 _ _ _ _ _ _ _ _ _ _ _ _ _ (HL.out.sub (below_then HB.out HB.out.size (below_alloc (Below.refl _ _) _))) HD.out).mono ?_; rintro e w4 ⟨rfl, hb4⟩; have HX4 := Aside0.mk ((hb4.block b (by first | exact hbl | exact Nat.lt_of_lt_of_le hbl (by simp))).trans (((below_alloc (Below.refl _ _) _).block b hbl).trans HX.out)); have HB4 := Aside0.mk (below_then (below_then HB.out HB.out.size (below_alloc (Below.refl _ _) _)) (Nat.le_trans HB.out.size (by simp)) hb4); clear HX HB hb4 hbl p0 p1 p2 p3 p4 p5 p6 p7 p8 p9 p10 hcl)
      go_roundw
      case rel => exact ⟨k + 1, rfl, by omega, HX4, HB4⟩
      case measure =>
        simp [intOf]
        try omega
    · have hkl : k = l0_0.length := by omega
      subst hkl
      have z0 : wr.cell? ⟨b, 0, none⟩ = some (.slice A0_0 l0_0.length c0_0) := (blk_cell HX.out 0).trans rfl
      have z1 : wr.cell? ⟨b, 1, none⟩ = some (.slice A0_1 0 c0_1) := (blk_cell HX.out 1).trans rfl
      have z2 : wr.cell? ⟨b, 2, none⟩ = some (.slice A0_2 0 c0_2) := (blk_cell HX.out 2).trans rfl
      have hbl := (Array.getElem?_eq_some_iff.1 HX.out).1
      go_wp2_with fail
      have hb5 := below_alloc (Below.refl wr.heap.size wr) (Obj.cells #[.slice A0_0 l0_0.length c0_0, .slice A0_1 0 c0_1, .slice A0_2 0 c0_2] 77)
      have HX5 := Aside0.mk ((hb5.block b hbl).trans HX.out)
      have HB5 := Aside0.mk (below_then HB.out HB.out.size hb5)
      clear hb5 HX HB hbl z0 z1 z2
      generalize wr.alloc (Obj.cells #[.slice A0_0 l0_0.length c0_0, .slice A0_1 0 c0_1, .slice A0_2 0 c0_2] 77) = w5 at HX5 HB5 ⊢
      go_loopw [46] (fun i wr => i = .int .i64 0 ∧ Aside0 (wr.heap[b]? = some (.cells #[.slice A0_0 l0_0.length c0_0, .slice A0_1 0 c0_1, .slice A0_2 0 c0_2] 34 (0, 0))) ∧ Aside0 (Below w.heap.size w wr)) (fun _ _ => 0)
      case atStart => exact ⟨rfl, HX5, HB5⟩
      case round =>
        obtain ⟨rfl, HX6, HB6⟩ := hrel
        clear HX5 HB5
        have z2 : wr.cell? ⟨b, 2, none⟩ = some (.slice A0_2 0 c0_2) := (blk_cell HX6.out 2).trans rfl
        go_wp2_with fail
        go_loopw [59] (fun i wr => i = .int .i64 0 ∧ Aside0 (Below w.heap.size w wr)) (fun _ _ => 0)
        case atStart => exact ⟨rfl, HB6⟩
        case round =>
          obtain ⟨rfl, HB7⟩ := hrel
          go_wp2_with fail
          go_ret
          exact ⟨rfl, HB7.out⟩
end Go.Proofs.YteemhjamlkipcaaDoor.PT
end
section
namespace Go.Proofs.YteemhjamlkipcaaDoor.PT
open Go.RowKit Go.Proofs.YteemhjamlkipcaaDoorW.PrintWords Go.Proofs.YteemhjamlkipcaaDoorW.PrintLast Go.Proofs.YteemhjamlkipcaaDoorW.PrintMore
set_option linter.unusedVariables false
set_option linter.unusedSimpArgs false
structure SN where
  f0 : Int
  f1 : Option Addr
def zN : SN := ⟨0, none⟩
def kN : Kd SN := Kd.iso (Kd.pair (Kd.int .i64) (Kd.scalar Value.pointer (fun _ => rfl))) (fun x : SN => (x.f0, x.f1))
theorem kN_open {w : World} {x : SN} {cs : List Value} (h : kN.K w x cs) : cs = [.int .i64 x.f0, .pointer x.f1] := by
  obtain ⟨_, _, rfl, rfl, rfl⟩ := h
  exact rfl
theorem kN_mkM (w : World) (base : Nat) (ok : Nat → Prop) (x : SN) : kN.M w base ok x [.int .i64 x.f0, .pointer x.f1] := ⟨[.int .i64 x.f0], [.pointer x.f1], rfl, rfl, rfl⟩
def rd_N (xs : List SN) (i : Int) : SN := xs.getD i.toNat zN
theorem at_N {w : World} {A : Option Addr} {n : Nat} {xs : List SN} (h : Kd.C kN w A n xs) (i : Int) (h0 : 0 ≤ i) (h1 : i < n) : ∃ ad, A = some ad ∧ w.cell? (ad.add (i.toNat * 2)) = some (.int .i64 (rd_N xs i).f0) ∧ w.cell? ⟨(ad.add (i.toNat * 2)).block, (ad.add (i.toNat * 2)).off + 1, none⟩ = some (.pointer (rd_N xs i).f1) := by
  obtain ⟨ad, c, e, _, hK, hc0⟩ := Kd.C_get h zN i h0 h1
  have hc : ∀ j u, c[j]? = some u → w.cell? (ad.add (i.toNat * 2 + j)) = some u := hc0
  obtain rfl := kN_open hK
  exact ⟨ad, e, hc 0 _ rfl, by rw [← add_field _ _ 1 (by omega)]; exact hc 1 _ rfl⟩
def Rising (xs : List SN) : Prop := ∀ i j : Int, 0 ≤ i → i ≤ j → j < xs.length → (rd_N xs i).f0 ≤ (rd_N xs j).f0
theorem cmp_le {a b : Int} (h : a ≤ b) : decide (Lib.compareInt b a < 0) = false := by
  unfold Lib.compareInt
  split
  · omega
  · split <;> simp
set_option maxHeartbeats 1000000 in
set_option maxRecDepth 100000 in
theorem turns_cmp.calls (x y : SN) (w : World) :
    Calls Tryd.prog 28 #[.agg #[.int .i64 x.f0, .pointer x.f1], .agg #[.int .i64 y.f0, .pointer y.f1]] w fun e w' => e = .returned (.int .i64 (Lib.compareInt x.f0 y.f0)) ∧ Below w.heap.size w w' := by
  go_enter Tryd.func28, Tryd.ntmps28
  go_wp2_with (go_at_call 29; refine (Tryd.cmp_Compare_int _ _ _).mono ?_; rintro e w1 ⟨rfl, rfl⟩)
  go_ret
  exact ⟨rfl, below_alloc (below_alloc (Below.refl _ _) _) _⟩
theorem goesV_ {P : Program} {ops : Array Oper} {Q : Exit → Act → World → Prop} {oi : Oper} {N : Option Tmp} {a : Act} {w : World} {K : Act → World → Prop} {f : FuncId} {fn : Func} {t : Nat} {ps : Array Operand} {ts : Array TypeId} (hf : P.funcs[f]? = some fn) (hname : (fn.name == "runtime.NumGoroutine") = false) (hb : fn.body.isSome = true) (args : Array Value)
    (hw : Region.wanted oi (yielded ops a.tmps) = true) (hN : oi.dst = N) (hop : oi.op = .call { callee := .value (.tmp t), args := ps, argTypes := ts }) (ht : a.eval (.tmp t) = .func (.func f) #[] #[]) (hargs : ps.map a.eval = args)
    (h : Calls P f args w fun e w' => ∃ v, e = .returned v ∧ K (a.put N v) w') : if Region.wanted oi (yielded ops a.tmps) = true then Oper.wp P oi a w K Q else K (a.put N undef) w := by
  refine call_ f args hw hN ?_ h
  have he := enters_ hf hname hb args w
  unfold execOp
  simp [hop, resolve, Deferred.ofValue, invoke, ht, hargs, he]
set_option maxHeartbeats 1000000 in
set_option maxRecDepth 100000 in
theorem turns_insertion.calls (A0 : Option Addr) (c0 : Nat) (xs : List SN) (a b : Int) (ha : 0 ≤ a) (hab : a ≤ b) (hb : b ≤ xs.length) (hl : xs.length ≤ 4611686018427387904) (hs : Rising xs) (w : World) (hr0 : Kd.C kN w A0 xs.length xs) :
    Calls Tryd.prog 65 #[.slice A0 xs.length c0, .int .i64 a, .int .i64 b, .func (.func 28) #[] #[]] w fun e w' => e = .returned (.tuple #[]) ∧ Below w.heap.size w w' := by
  have hu := Tryd.underlying84
  have HR := Aside0.mk hr0
  have HS := Aside0.mk hs
  clear hr0 hs
  go_enter Tryd.func65, Tryd.ntmps65
  go_wp2_with fail
  go_loopw [8] (fun i wr => ∃ k : Int, i = .int .i64 k ∧ a < k ∧ (k ≤ b ∨ k = a + 1) ∧ Aside0 (Below w.heap.size w wr)) (fun i _ => (b - intOf i).toNat)
  case atStart => exact ⟨a + 1, rfl, by omega, .inr rfl, ⟨Below.refl _ _⟩⟩
  case round =>
    obtain ⟨k, rfl, hk1, hk2, HB⟩ := hrel
    by_cases hkb : k < b
    · go_wp2_with fail
      go_loopw [9] (fun j wr' => j = .int .i64 k ∧ Aside0 (Below w.heap.size w wr')) (fun _ _ => 0)
      case atStart => exact ⟨rfl, HB⟩
      case round =>
        obtain ⟨rfl, HB1⟩ := hrel
        clear HB
        obtain ⟨m, rfl⟩ : ∃ m : Nat, k = (m : Int) + 1 := ⟨(k - 1).toNat, by omega⟩
        obtain ⟨ac, e, p0, p1⟩ := at_N (Kd.C_below HR.out HB1.out) ((m : Int) + 1) (by omega) (by omega)
        cases e
        obtain ⟨ac', e, q0, q1⟩ := at_N (Kd.C_below HR.out HB1.out) (m : Int) (by omega) (by omega)
        cases e
        rw [show ((m : Int) + 1).toNat = m + 1 by omega] at p0 p1
        rw [Int.toNat_natCast] at q0 q1
        have hl1 := World.block_lt_of_cell? _ _ p0
        have hl2 := World.block_lt_of_cell? _ _ q0
        have hl3 := World.block_lt_of_cell? _ _ p1
        have hl4 := World.block_lt_of_cell? _ _ q1
        have hk3 : (0 : Int) ≤ (m : Int) + 1 := by omega
        have hk4 : (m : Int) + 1 < (xs.length : Int) := by omega
        have hk5 : m + 1 < xs.length := by omega
        have hk6 : (m : Int) < (xs.length : Int) := by omega
        have hk7 : m < xs.length := by omega
        have hw1 : wrap64 ((m : Int) + 1 - 1) = (m : Int) := by rw [IntWalk.wrap64_in _ (by omega)]; omega
        have hw2 : wrap64 (m : Int) = (m : Int) := IntWalk.wrap64_in _ (by omega)
        have hcmp := cmp_le (HS.out (m : Int) ((m : Int) + 1) (Int.natCast_nonneg m) (Int.le_of_lt (Int.lt_succ _)) hk4)
        go_wp2_with fail
        refine start_ (n := 17) (S := fun w' => w'.cell? (ac.add ((m + 1) * 2)) = some (.int .i64 (rd_N xs ((m : Int) + 1)).f0) ∧ w'.cell? ⟨(ac.add ((m + 1) * 2)).block, (ac.add ((m + 1) * 2)).off + 1, none⟩ = some (.pointer (rd_N xs ((m : Int) + 1)).f1) ∧ w'.cell? (ac.add (m * 2)) = some (.int .i64 (rd_N xs (m : Int)).f0) ∧ w'.cell? ⟨(ac.add (m * 2)).block, (ac.add (m * 2)).off + 1, none⟩ = some (.pointer (rd_N xs (m : Int)).f1)) (ds := []) #[false, false, false, false, false, false, false, false, false, false, false, false, false, false, false, false, false] (by kernel_rfl) rfl rfl ⟨p0, p1, q0, q1⟩ (fun hHeld => ?_)
        refine pure_ (i := 0) (N := (some 18)) (v := ?_) (a' := ?_) #[true, false, false, false, false, false, false, false, false, false, false, false, false, false, false, false, false] rfl rfl (by kernel_rfl) (fun _ _ _ h => h) (Or.inl ⟨by rfl, ?_⟩) ?_ ?_
        rotate_left
        · intro w'
          go_simp
          with_reducible rfl
        rotate_left
        · simp only [Act.put, List.setIfInBounds_toArray, List.set_cons_zero, List.set_cons_succ, i64_w, i32_w]
          rfl
        refine pure_ (i := 1) (N := (some 19)) (v := ?_) (a' := ?_) #[true, true, false, false, false, false, false, false, false, false, false, false, false, false, false, false, false] rfl rfl (by kernel_rfl) (fun _ _ _ h => h) (Or.inl ⟨by rfl, ?_⟩) ?_ ?_
        rotate_left
        · intro w'
          go_simp
          with_reducible rfl
        rotate_left
        · simp only [Act.put, List.setIfInBounds_toArray, List.set_cons_zero, List.set_cons_succ, i64_w, i32_w]
          rfl
        refine pure_ (i := 2) (N := (some 20)) (v := ?_) (a' := ?_) #[true, true, true, false, false, false, false, false, false, false, false, false, false, false, false, false, false] rfl rfl (by kernel_rfl) (fun _ _ _ h => h) (Or.inl ⟨by rfl, ?_⟩) ?_ ?_
        rotate_left
        · intro w'
          go_simp
          with_reducible rfl
        rotate_left
        · simp only [Act.put, List.setIfInBounds_toArray, List.set_cons_zero, List.set_cons_succ, i64_w, i32_w]
          rfl
        refine pure_ (i := 3) (N := (some 21)) (v := ?_) (a' := ?_) #[true, true, true, true, false, false, false, false, false, false, false, false, false, false, false, false, false] rfl rfl (by kernel_rfl) (fun _ _ _ h => h) (Or.inl ⟨by rfl, ?_⟩) ?_ ?_
        rotate_left
        · intro w'
          go_simp
          with_reducible rfl
        rotate_left
        · simp only [Act.put, List.setIfInBounds_toArray, List.set_cons_zero, List.set_cons_succ, i64_w, i32_w]
          rfl
        refine pure_ (i := 4) (N := (some 22)) (v := ?_) (a' := ?_) #[true, true, true, true, true, false, false, false, false, false, false, false, false, false, false, false, false] rfl rfl (by kernel_rfl) (fun _ _ _ h => h) (Or.inl ⟨by rfl, ?_⟩) ?_ ?_
        rotate_left
        · intro w'
          go_simp
          with_reducible rfl
        rotate_left
        · simp only [Act.put, List.setIfInBounds_toArray, List.set_cons_zero, List.set_cons_succ, i64_w, i32_w]
          rfl
        refine pure_ (i := 5) (N := (some 23)) (v := ?_) (a' := ?_) #[true, true, true, true, true, true, false, false, false, false, false, false, false, false, false, false, false] rfl rfl (by kernel_rfl) (fun _ _ _ h => h) (Or.inl ⟨by rfl, ?_⟩) ?_ ?_
        rotate_left
        · intro w'
          go_simp
          with_reducible rfl
        rotate_left
        · simp only [Act.put, List.setIfInBounds_toArray, List.set_cons_zero, List.set_cons_succ, i64_w, i32_w]
          rfl
        refine pure_ (i := 6) (N := (some 24)) (v := ?_) (a' := ?_) #[true, true, true, true, true, true, true, false, false, false, false, false, false, false, false, false, false] rfl rfl (by kernel_rfl) (fun _ _ _ h => h) (Or.inl ⟨by rfl, ?_⟩) ?_ ?_
        rotate_left
        · intro w'
          go_simp
          with_reducible rfl
        rotate_left
        · simp only [Act.put, List.setIfInBounds_toArray, List.set_cons_zero, List.set_cons_succ, i64_w, i32_w]
          rfl
        refine pure_ (i := 7) (N := (some 25)) (v := ?_) (a' := ?_) #[true, true, true, true, true, true, true, true, false, false, false, false, false, false, false, false, false] rfl rfl (by kernel_rfl) (fun _ _ _ h => h) (Or.inl ⟨by rfl, ?_⟩) ?_ ?_
        rotate_left
        · intro w'
          go_simp
          with_reducible rfl
        rotate_left
        · simp only [Act.put, List.setIfInBounds_toArray, List.set_cons_zero, List.set_cons_succ, i64_w, i32_w]
          rfl
        refine take_ (i := 8) (N := (some 26)) (v := ?_) (a' := ?_) #[true, true, true, true, true, true, true, true, true, false, false, false, false, false, false, false, false] rfl rfl (by kernel_rfl) (fun _ _ _ h => h) (Or.inl ⟨by rfl, ?_⟩) hHeld ?_ ?_
        rotate_left
        · rintro w' ⟨s0, s1, s2, s3⟩
          go_simp
          with_reducible rfl
        rotate_left
        · simp only [Act.put, List.setIfInBounds_toArray, List.set_cons_zero, List.set_cons_succ, i64_w, i32_w]
          rfl
        refine pure_ (i := 9) (N := (some 27)) (v := ?_) (a' := ?_) #[true, true, true, true, true, true, true, true, true, true, false, false, false, false, false, false, false] rfl rfl (by kernel_rfl) (fun _ _ _ h => h) (Or.inl ⟨by rfl, ?_⟩) ?_ ?_
        rotate_left
        · intro w'
          go_simp
          with_reducible rfl
        rotate_left
        · simp only [Act.put, List.setIfInBounds_toArray, List.set_cons_zero, List.set_cons_succ, i64_w, i32_w]
          rfl
        refine pure_ (i := 10) (N := (some 28)) (v := ?_) (a' := ?_) #[true, true, true, true, true, true, true, true, true, true, true, false, false, false, false, false, false] rfl rfl (by kernel_rfl) (fun _ _ _ h => h) (Or.inl ⟨by rfl, ?_⟩) ?_ ?_
        rotate_left
        · intro w'
          go_simp
          with_reducible rfl
        rotate_left
        · simp only [Act.put, List.setIfInBounds_toArray, List.set_cons_zero, List.set_cons_succ, i64_w, i32_w]
          rfl
        refine pure_ (i := 11) (N := (some 29)) (v := ?_) (a' := ?_) #[true, true, true, true, true, true, true, true, true, true, true, true, false, false, false, false, false] rfl rfl (by kernel_rfl) (fun _ _ _ h => h) (Or.inl ⟨by rfl, ?_⟩) ?_ ?_
        rotate_left
        · intro w'
          go_simp
          with_reducible rfl
        rotate_left
        · simp only [Act.put, List.setIfInBounds_toArray, List.set_cons_zero, List.set_cons_succ, i64_w, i32_w]
          rfl
        refine pure_ (i := 12) (N := (some 30)) (v := ?_) (a' := ?_) #[true, true, true, true, true, true, true, true, true, true, true, true, true, false, false, false, false] rfl rfl (by kernel_rfl) (fun _ _ _ h => h) (Or.inl ⟨by rfl, ?_⟩) ?_ ?_
        rotate_left
        · intro w'
          go_simp
          with_reducible rfl
        rotate_left
        · simp only [Act.put, List.setIfInBounds_toArray, List.set_cons_zero, List.set_cons_succ, i64_w, i32_w]
          rfl
        refine take_ (i := 13) (N := (some 31)) (v := ?_) (a' := ?_) #[true, true, true, true, true, true, true, true, true, true, true, true, true, true, false, false, false] rfl rfl (by kernel_rfl) (fun _ _ _ h => h) (Or.inl ⟨by rfl, ?_⟩) hHeld ?_ ?_
        rotate_left
        · rintro w' ⟨s0, s1, s2, s3⟩
          go_simp
          with_reducible rfl
        rotate_left
        · simp only [Act.put, List.setIfInBounds_toArray, List.set_cons_zero, List.set_cons_succ, i64_w, i32_w]
          rfl
        refine one_ (i := 14) (N := (some 32)) #[true, true, true, true, true, true, true, true, true, true, true, true, true, true, true, false, false] rfl rfl (by kernel_rfl) (by decide) (fun K hK => ?_)
        refine goesV_ Tryd.func28 (by kernel_rfl) rfl #[.agg #[.int .i64 (rd_N xs ((m : Int) + 1)).f0, .pointer (rd_N xs ((m : Int) + 1)).f1], .agg #[.int .i64 (rd_N xs (m : Int)).f0, .pointer (rd_N xs (m : Int)).f1]] (by rfl) rfl rfl (by rfl) (by (try simp only [List.map_toArray, List.map_cons, List.map_nil]); first | done | rfl) ?_
        refine (turns_cmp.calls _ _ _).mono ?_
        rintro e w1 ⟨rfl, hb1⟩
        refine ⟨_, rfl, ?_⟩
        refine hK.out _ _ ⟨(hb1.cell hl1).trans hHeld.1, (hb1.cell (p := ⟨(ac.add ((m + 1) * 2)).block, (ac.add ((m + 1) * 2)).off + 1, none⟩) hl3).trans hHeld.2.1, (hb1.cell hl2).trans hHeld.2.2.1, (hb1.cell (p := ⟨(ac.add (m * 2)).block, (ac.add (m * 2)).off + 1, none⟩) hl4).trans hHeld.2.2.2⟩ (fun hHeld => ?_)
        clear hK K
        refine pure_ (i := 15) (N := (some 33)) (v := ?_) (a' := ?_) #[true, true, true, true, true, true, true, true, true, true, true, true, true, true, true, true, false] rfl rfl (by kernel_rfl) (fun _ _ _ h => h) (Or.inl ⟨by rfl, ?_⟩) ?_ ?_
        rotate_left
        · intro w'
          go_simp
          with_reducible rfl
        rotate_left
        · simp only [Act.put, List.setIfInBounds_toArray, List.set_cons_zero, List.set_cons_succ, i64_w, i32_w]
          rfl
        refine pure_ (i := 16) (N := (some 34)) (v := ?_) (a' := ?_) #[true, true, true, true, true, true, true, true, true, true, true, true, true, true, true, true, true] rfl rfl (by kernel_rfl) (fun _ _ _ h => h) (Or.inl ⟨by rfl, ?_⟩) ?_ ?_
        rotate_left
        · intro w'
          go_simp
          with_reducible rfl
        rotate_left
        · simp only [Act.put, List.setIfInBounds_toArray, List.set_cons_zero, List.set_cons_succ, i64_w, i32_w]
          rfl
        refine done_ (by kernel_rfl) ?_
        go_wp2_with fail
        go_roundw
        case rel => exact ⟨(m : Int) + 1 + 1, rfl, by omega, by omega, ⟨below_then HB1.out HB1.out.size (below_then (below_drew (Below.refl _ _)) (by simp) hb1)⟩⟩
        case measure =>
          simp [intOf]
          omega
    · go_wp2_with fail
      go_end0
      exact ⟨rfl, HB.out⟩
set_option maxHeartbeats 1000000 in
set_option maxRecDepth 100000 in
theorem turns_symMerge.calls (A0 : Option Addr) (c0 : Nat) (xs : List SN) (hl : xs.length ≤ 4611686018427387904) (hs : Rising xs) : ∀ (n : Nat) (a m b : Int) (w : World), 0 ≤ a → a < m → m < b → b ≤ xs.length → b - a ≤ n → Kd.C kN w A0 xs.length xs →
    Calls Tryd.prog 66 #[.slice A0 xs.length c0, .int .i64 a, .int .i64 m, .int .i64 b, .func (.func 28) #[] #[]] w fun e w' => e = .returned (.tuple #[]) ∧ Below w.heap.size w w' := by
  have hu := Tryd.underlying84
  have HS := Aside0.mk hs
  clear hs
  intro n
  induction n with
  | zero =>
    intro a m b w h1 h2 h3 h4 h5
    omega
  | succ n ih =>
  intro a m b w ha ham hmb hb hn hr0
  have HR := Aside0.mk hr0
  have IH := Aside0.mk ih
  clear hr0 ih
  by_cases c1 : m - a = 1
  · go_enter Tryd.func66, Tryd.ntmps66
    go_wp2_with fail
    go_loopw [10, 11] (fun i j wr => ∃ k : Int, i = .int .i64 m ∧ j = .int .i64 k ∧ m ≤ k ∧ k ≤ b ∧ Aside0 (Below w.heap.size w wr)) (fun _ j _ => (intOf j).toNat)
    case atStart => exact ⟨b, rfl, rfl, by omega, by omega, ⟨Below.refl _ _⟩⟩
    case round =>
      obtain ⟨k, rfl, rfl, hk1, hk2, HB⟩ := hrel
      by_cases hkb : m < k
      · go_wp2_with fail
        obtain ⟨h, hh⟩ : ∃ h : Int, h = (m + k) / 2 := ⟨_, rfl⟩
        rw [← hh]
        have hm1 : m ≤ h := by omega
        have hm2 : h < k := by omega
        clear hh
        have hcmp := cmp_le (HS.out a h (by omega) (by omega) (by omega))
        obtain ⟨ac, e, p0, p1⟩ := at_N (Kd.C_below HR.out HB.out) h (by omega) (by omega)
        cases e
        obtain ⟨ac', e, q0, q1⟩ := at_N (Kd.C_below HR.out HB.out) a (by omega) (by omega)
        cases e
        have hl1 := World.block_lt_of_cell? _ _ p0
        have hl2 := World.block_lt_of_cell? _ _ q0
        have hl3 := World.block_lt_of_cell? _ _ p1
        have hl4 := World.block_lt_of_cell? _ _ q1
        have i1 : (0 : Int) ≤ h := by omega
        have i2 : h < (xs.length : Int) := by omega
        have i3 : (0 : Int) ≤ a := by omega
        have i4 : a < (xs.length : Int) := by omega
        refine start_ (n := 11) (S := fun w' => w'.cell? (ac.add (h.toNat * 2)) = some (.int .i64 (rd_N xs h).f0) ∧ w'.cell? ⟨(ac.add (h.toNat * 2)).block, (ac.add (h.toNat * 2)).off + 1, none⟩ = some (.pointer (rd_N xs h).f1) ∧ w'.cell? (ac.add (a.toNat * 2)) = some (.int .i64 (rd_N xs a).f0) ∧ w'.cell? ⟨(ac.add (a.toNat * 2)).block, (ac.add (a.toNat * 2)).off + 1, none⟩ = some (.pointer (rd_N xs a).f1)) (ds := []) #[false, false, false, false, false, false, false, false, false, false, false] (by kernel_rfl) rfl rfl ⟨p0, p1, q0, q1⟩ (fun hHeld => ?_)
        refine pure_ (i := 0) (N := (some 40)) (v := ?_) (a' := ?_) #[true, false, false, false, false, false, false, false, false, false, false] rfl rfl (by kernel_rfl) (fun _ _ _ h => h) (Or.inl ⟨by rfl, ?_⟩) ?_ ?_
        rotate_left
        · intro w'
          go_simp
          with_reducible rfl
        rotate_left
        · simp only [Act.put, List.setIfInBounds_toArray, List.set_cons_zero, List.set_cons_succ, i64_w, i32_w]
          rfl
        refine pure_ (i := 1) (N := (some 41)) (v := ?_) (a' := ?_) #[true, true, false, false, false, false, false, false, false, false, false] rfl rfl (by kernel_rfl) (fun _ _ _ h => h) (Or.inl ⟨by rfl, ?_⟩) ?_ ?_
        rotate_left
        · intro w'
          go_simp
          with_reducible rfl
        rotate_left
        · simp only [Act.put, List.setIfInBounds_toArray, List.set_cons_zero, List.set_cons_succ, i64_w, i32_w]
          rfl
        refine pure_ (i := 2) (N := (some 42)) (v := ?_) (a' := ?_) #[true, true, true, false, false, false, false, false, false, false, false] rfl rfl (by kernel_rfl) (fun _ _ _ h => h) (Or.inl ⟨by rfl, ?_⟩) ?_ ?_
        rotate_left
        · intro w'
          go_simp
          with_reducible rfl
        rotate_left
        · simp only [Act.put, List.setIfInBounds_toArray, List.set_cons_zero, List.set_cons_succ, i64_w, i32_w]
          rfl
        refine pure_ (i := 3) (N := (some 43)) (v := ?_) (a' := ?_) #[true, true, true, true, false, false, false, false, false, false, false] rfl rfl (by kernel_rfl) (fun _ _ _ h => h) (Or.inl ⟨by rfl, ?_⟩) ?_ ?_
        rotate_left
        · intro w'
          go_simp
          with_reducible rfl
        rotate_left
        · simp only [Act.put, List.setIfInBounds_toArray, List.set_cons_zero, List.set_cons_succ, i64_w, i32_w]
          rfl
        refine take_ (i := 4) (N := (some 44)) (v := ?_) (a' := ?_) #[true, true, true, true, true, false, false, false, false, false, false] rfl rfl (by kernel_rfl) (fun _ _ _ h => h) (Or.inl ⟨by rfl, ?_⟩) hHeld ?_ ?_
        rotate_left
        · rintro w' ⟨s0, s1, s2, s3⟩
          go_simp
          with_reducible rfl
        rotate_left
        · simp only [Act.put, List.setIfInBounds_toArray, List.set_cons_zero, List.set_cons_succ, i64_w, i32_w]
          rfl
        refine pure_ (i := 5) (N := (some 45)) (v := ?_) (a' := ?_) #[true, true, true, true, true, true, false, false, false, false, false] rfl rfl (by kernel_rfl) (fun _ _ _ h => h) (Or.inl ⟨by rfl, ?_⟩) ?_ ?_
        rotate_left
        · intro w'
          go_simp
          with_reducible rfl
        rotate_left
        · simp only [Act.put, List.setIfInBounds_toArray, List.set_cons_zero, List.set_cons_succ, i64_w, i32_w]
          rfl
        refine pure_ (i := 6) (N := (some 46)) (v := ?_) (a' := ?_) #[true, true, true, true, true, true, true, false, false, false, false] rfl rfl (by kernel_rfl) (fun _ _ _ h => h) (Or.inl ⟨by rfl, ?_⟩) ?_ ?_
        rotate_left
        · intro w'
          go_simp
          with_reducible rfl
        rotate_left
        · simp only [Act.put, List.setIfInBounds_toArray, List.set_cons_zero, List.set_cons_succ, i64_w, i32_w]
          rfl
        refine pure_ (i := 7) (N := (some 47)) (v := ?_) (a' := ?_) #[true, true, true, true, true, true, true, true, false, false, false] rfl rfl (by kernel_rfl) (fun _ _ _ h => h) (Or.inl ⟨by rfl, ?_⟩) ?_ ?_
        rotate_left
        · intro w'
          go_simp
          with_reducible rfl
        rotate_left
        · simp only [Act.put, List.setIfInBounds_toArray, List.set_cons_zero, List.set_cons_succ, i64_w, i32_w]
          rfl
        refine take_ (i := 8) (N := (some 48)) (v := ?_) (a' := ?_) #[true, true, true, true, true, true, true, true, true, false, false] rfl rfl (by kernel_rfl) (fun _ _ _ h => h) (Or.inl ⟨by rfl, ?_⟩) hHeld ?_ ?_
        rotate_left
        · rintro w' ⟨s0, s1, s2, s3⟩
          go_simp
          with_reducible rfl
        rotate_left
        · simp only [Act.put, List.setIfInBounds_toArray, List.set_cons_zero, List.set_cons_succ, i64_w, i32_w]
          rfl
        refine one_ (i := 9) (N := (some 49)) #[true, true, true, true, true, true, true, true, true, true, false] rfl rfl (by kernel_rfl) (by decide) (fun K hK => ?_)
        refine goesV_ Tryd.func28 (by kernel_rfl) rfl #[.agg #[.int .i64 (rd_N xs h).f0, .pointer (rd_N xs h).f1], .agg #[.int .i64 (rd_N xs a).f0, .pointer (rd_N xs a).f1]] (by rfl) rfl rfl (by rfl) (by (try simp only [List.map_toArray, List.map_cons, List.map_nil]); first | done | rfl) ?_
        refine (turns_cmp.calls _ _ _).mono ?_
        rintro e w1 ⟨rfl, hb1⟩
        refine ⟨_, rfl, ?_⟩
        refine hK.out _ _ ⟨(hb1.cell hl1).trans hHeld.1, (hb1.cell (p := ⟨(ac.add (h.toNat * 2)).block, (ac.add (h.toNat * 2)).off + 1, none⟩) hl3).trans hHeld.2.1, (hb1.cell hl2).trans hHeld.2.2.1, (hb1.cell (p := ⟨(ac.add (a.toNat * 2)).block, (ac.add (a.toNat * 2)).off + 1, none⟩) hl4).trans hHeld.2.2.2⟩ (fun hHeld => ?_)
        clear hK K
        refine pure_ (i := 10) (N := (some 50)) (v := ?_) (a' := ?_) #[true, true, true, true, true, true, true, true, true, true, true] rfl rfl (by kernel_rfl) (fun _ _ _ h => h) (Or.inl ⟨by rfl, ?_⟩) ?_ ?_
        rotate_left
        · intro w'
          go_simp
          with_reducible rfl
        rotate_left
        · simp only [Act.put, List.setIfInBounds_toArray, List.set_cons_zero, List.set_cons_succ, i64_w, i32_w]
          rfl
        refine done_ (by kernel_rfl) ?_
        have HB1 : Aside0 (Below w.heap.size w w1) := ⟨below_then HB.out HB.out.size (below_then (below_drew (Below.refl _ _)) (by simp) hb1)⟩
        clear HB hb1 p0 p1 q0 q1 hHeld
        go_wp2_with fail
        go_roundw
        case rel => exact ⟨h, rfl, rfl, by omega, by omega, HB1⟩
        case measure =>
          simp [intOf]
          omega
      · go_wp2_with fail
        go_loopw [13] (fun i wr => i = .int .i64 a ∧ Aside0 (Below w.heap.size w wr)) (fun _ _ => 0)
        case atStart => exact ⟨rfl, HB⟩
        case round =>
          obtain ⟨rfl, HB1⟩ := hrel
          have e1 : wrap64 (m - 1) = a := by rw [IntWalk.wrap64_in _ (by omega)]; omega
          have e2 : m - 1 = a := by omega
          go_wp2_with fail
          refine bodyPost_ret (results_none rfl _ _ _) rfl ?_
          exact ⟨rfl, HB1.out⟩
  · by_cases c2 : b - m = 1
    · go_enter Tryd.func66, Tryd.ntmps66
      go_wp2_with fail
      go_loopw [14, 15] (fun i j wr => ∃ k : Int, i = .int .i64 k ∧ j = .int .i64 m ∧ a ≤ k ∧ k ≤ m ∧ Aside0 (Below w.heap.size w wr)) (fun i _ _ => (m - intOf i).toNat)
      case atStart => exact ⟨a, rfl, rfl, by omega, by omega, ⟨Below.refl _ _⟩⟩
      case round =>
        obtain ⟨k, rfl, rfl, hk1, hk2, HB⟩ := hrel
        by_cases hkb : k < m
        · go_wp2_with fail
          obtain ⟨h, hh⟩ : ∃ h : Int, h = (k + m) / 2 := ⟨_, rfl⟩
          rw [← hh]
          have hm1 : k ≤ h := by omega
          have hm2 : h < m := by omega
          clear hh
          have hcmp := cmp_le (HS.out h m (by omega) (by omega) (by omega))
          obtain ⟨ac, e, p0, p1⟩ := at_N (Kd.C_below HR.out HB.out) m (by omega) (by omega)
          cases e
          obtain ⟨ac', e, q0, q1⟩ := at_N (Kd.C_below HR.out HB.out) h (by omega) (by omega)
          cases e
          have hl1 := World.block_lt_of_cell? _ _ p0
          have hl2 := World.block_lt_of_cell? _ _ q0
          have hl3 := World.block_lt_of_cell? _ _ p1
          have hl4 := World.block_lt_of_cell? _ _ q1
          have i1 : (0 : Int) ≤ m := by omega
          have i2 : m < (xs.length : Int) := by omega
          have i3 : (0 : Int) ≤ h := by omega
          have i4 : h < (xs.length : Int) := by omega
          refine start_ (n := 12) (S := fun w' => w'.cell? (ac.add (m.toNat * 2)) = some (.int .i64 (rd_N xs m).f0) ∧ w'.cell? ⟨(ac.add (m.toNat * 2)).block, (ac.add (m.toNat * 2)).off + 1, none⟩ = some (.pointer (rd_N xs m).f1) ∧ w'.cell? (ac.add (h.toNat * 2)) = some (.int .i64 (rd_N xs h).f0) ∧ w'.cell? ⟨(ac.add (h.toNat * 2)).block, (ac.add (h.toNat * 2)).off + 1, none⟩ = some (.pointer (rd_N xs h).f1)) (ds := []) #[false, false, false, false, false, false, false, false, false, false, false, false] (by kernel_rfl) rfl rfl ⟨p0, p1, q0, q1⟩ (fun hHeld => ?_)
          refine pure_ (i := 0) (N := (some 92)) (v := ?_) (a' := ?_) #[true, false, false, false, false, false, false, false, false, false, false, false] rfl rfl (by kernel_rfl) (fun _ _ _ h => h) (Or.inl ⟨by rfl, ?_⟩) ?_ ?_
          rotate_left
          · intro w'
            go_simp
            with_reducible rfl
          rotate_left
          · simp only [Act.put, List.setIfInBounds_toArray, List.set_cons_zero, List.set_cons_succ, i64_w, i32_w]
            rfl
          refine pure_ (i := 1) (N := (some 93)) (v := ?_) (a' := ?_) #[true, true, false, false, false, false, false, false, false, false, false, false] rfl rfl (by kernel_rfl) (fun _ _ _ h => h) (Or.inl ⟨by rfl, ?_⟩) ?_ ?_
          rotate_left
          · intro w'
            go_simp
            with_reducible rfl
          rotate_left
          · simp only [Act.put, List.setIfInBounds_toArray, List.set_cons_zero, List.set_cons_succ, i64_w, i32_w]
            rfl
          refine pure_ (i := 2) (N := (some 94)) (v := ?_) (a' := ?_) #[true, true, true, false, false, false, false, false, false, false, false, false] rfl rfl (by kernel_rfl) (fun _ _ _ h => h) (Or.inl ⟨by rfl, ?_⟩) ?_ ?_
          rotate_left
          · intro w'
            go_simp
            with_reducible rfl
          rotate_left
          · simp only [Act.put, List.setIfInBounds_toArray, List.set_cons_zero, List.set_cons_succ, i64_w, i32_w]
            rfl
          refine pure_ (i := 3) (N := (some 95)) (v := ?_) (a' := ?_) #[true, true, true, true, false, false, false, false, false, false, false, false] rfl rfl (by kernel_rfl) (fun _ _ _ h => h) (Or.inl ⟨by rfl, ?_⟩) ?_ ?_
          rotate_left
          · intro w'
            go_simp
            with_reducible rfl
          rotate_left
          · simp only [Act.put, List.setIfInBounds_toArray, List.set_cons_zero, List.set_cons_succ, i64_w, i32_w]
            rfl
          refine take_ (i := 4) (N := (some 96)) (v := ?_) (a' := ?_) #[true, true, true, true, true, false, false, false, false, false, false, false] rfl rfl (by kernel_rfl) (fun _ _ _ h => h) (Or.inl ⟨by rfl, ?_⟩) hHeld ?_ ?_
          rotate_left
          · rintro w' ⟨s0, s1, s2, s3⟩
            go_simp
            with_reducible rfl
          rotate_left
          · simp only [Act.put, List.setIfInBounds_toArray, List.set_cons_zero, List.set_cons_succ, i64_w, i32_w]
            rfl
          refine pure_ (i := 5) (N := (some 97)) (v := ?_) (a' := ?_) #[true, true, true, true, true, true, false, false, false, false, false, false] rfl rfl (by kernel_rfl) (fun _ _ _ h => h) (Or.inl ⟨by rfl, ?_⟩) ?_ ?_
          rotate_left
          · intro w'
            go_simp
            with_reducible rfl
          rotate_left
          · simp only [Act.put, List.setIfInBounds_toArray, List.set_cons_zero, List.set_cons_succ, i64_w, i32_w]
            rfl
          refine pure_ (i := 6) (N := (some 98)) (v := ?_) (a' := ?_) #[true, true, true, true, true, true, true, false, false, false, false, false] rfl rfl (by kernel_rfl) (fun _ _ _ h => h) (Or.inl ⟨by rfl, ?_⟩) ?_ ?_
          rotate_left
          · intro w'
            go_simp
            with_reducible rfl
          rotate_left
          · simp only [Act.put, List.setIfInBounds_toArray, List.set_cons_zero, List.set_cons_succ, i64_w, i32_w]
            rfl
          refine pure_ (i := 7) (N := (some 99)) (v := ?_) (a' := ?_) #[true, true, true, true, true, true, true, true, false, false, false, false] rfl rfl (by kernel_rfl) (fun _ _ _ h => h) (Or.inl ⟨by rfl, ?_⟩) ?_ ?_
          rotate_left
          · intro w'
            go_simp
            with_reducible rfl
          rotate_left
          · simp only [Act.put, List.setIfInBounds_toArray, List.set_cons_zero, List.set_cons_succ, i64_w, i32_w]
            rfl
          refine take_ (i := 8) (N := (some 100)) (v := ?_) (a' := ?_) #[true, true, true, true, true, true, true, true, true, false, false, false] rfl rfl (by kernel_rfl) (fun _ _ _ h => h) (Or.inl ⟨by rfl, ?_⟩) hHeld ?_ ?_
          rotate_left
          · rintro w' ⟨s0, s1, s2, s3⟩
            go_simp
            with_reducible rfl
          rotate_left
          · simp only [Act.put, List.setIfInBounds_toArray, List.set_cons_zero, List.set_cons_succ, i64_w, i32_w]
            rfl
          refine one_ (i := 9) (N := (some 101)) #[true, true, true, true, true, true, true, true, true, true, false, false] rfl rfl (by kernel_rfl) (by decide) (fun K hK => ?_)
          refine goesV_ Tryd.func28 (by kernel_rfl) rfl #[.agg #[.int .i64 (rd_N xs m).f0, .pointer (rd_N xs m).f1], .agg #[.int .i64 (rd_N xs h).f0, .pointer (rd_N xs h).f1]] (by rfl) rfl rfl (by rfl) (by (try simp only [List.map_toArray, List.map_cons, List.map_nil]); first | done | rfl) ?_
          refine (turns_cmp.calls _ _ _).mono ?_
          rintro e w1 ⟨rfl, hb1⟩
          refine ⟨_, rfl, ?_⟩
          refine hK.out _ _ ⟨(hb1.cell hl1).trans hHeld.1, (hb1.cell (p := ⟨(ac.add (m.toNat * 2)).block, (ac.add (m.toNat * 2)).off + 1, none⟩) hl3).trans hHeld.2.1, (hb1.cell hl2).trans hHeld.2.2.1, (hb1.cell (p := ⟨(ac.add (h.toNat * 2)).block, (ac.add (h.toNat * 2)).off + 1, none⟩) hl4).trans hHeld.2.2.2⟩ (fun hHeld => ?_)
          clear hK K
          refine pure_ (i := 10) (N := (some 102)) (v := ?_) (a' := ?_) #[true, true, true, true, true, true, true, true, true, true, true, false] rfl rfl (by kernel_rfl) (fun _ _ _ h => h) (Or.inl ⟨by rfl, ?_⟩) ?_ ?_
          rotate_left
          · intro w'
            go_simp
            with_reducible rfl
          rotate_left
          · simp only [Act.put, List.setIfInBounds_toArray, List.set_cons_zero, List.set_cons_succ, i64_w, i32_w]
            rfl
          refine pure_ (i := 11) (N := (some 103)) (v := ?_) (a' := ?_) #[true, true, true, true, true, true, true, true, true, true, true, true] rfl rfl (by kernel_rfl) (fun _ _ _ h => h) (Or.inl ⟨by rfl, ?_⟩) ?_ ?_
          rotate_left
          · intro w'
            go_simp
            with_reducible rfl
          rotate_left
          · simp only [Act.put, List.setIfInBounds_toArray, List.set_cons_zero, List.set_cons_succ, i64_w, i32_w]
            rfl
          refine done_ (by kernel_rfl) ?_
          have HB1 : Aside0 (Below w.heap.size w w1) := ⟨below_then HB.out HB.out.size (below_then (below_drew (Below.refl _ _)) (by simp) hb1)⟩
          clear HB hb1 p0 p1 q0 q1 hHeld
          go_wp2_with fail
          go_roundw
          case rel => exact ⟨h + 1, rfl, rfl, by omega, by omega, HB1⟩
          case measure =>
            simp [intOf]
            omega
        · have e1 : k = m := by omega
          subst e1
          go_wp2_with fail
          go_loopw [17] (fun i wr => i = .int .i64 k ∧ Aside0 (Below w.heap.size w wr)) (fun _ _ => 0)
          case atStart => exact ⟨rfl, HB⟩
          case round =>
            obtain ⟨rfl, HB1⟩ := hrel
            go_wp2_with fail
            refine bodyPost_ret (results_none rfl _ _ _) rfl ?_
            exact ⟨rfl, HB1.out⟩
    · by_cases c3 : (a + b) / 2 < m
      · go_enter Tryd.func66, Tryd.ntmps66
        go_wp2_with fail
        obtain ⟨d, hd⟩ : ∃ d : Int, d = (a + b) / 2 := ⟨_, rfl⟩
        simp only [← hd] at c3 ⊢
        have hd1 : a + b - 1 ≤ d + d := by omega
        have hd2 : d + d ≤ a + b := by omega
        clear hd
        obtain ⟨p, hp⟩ : ∃ p : Int, p = d + m - 1 := ⟨_, rfl⟩
        rw [← hp]
        go_loopw [20, 21] (fun i j wr => ∃ k : Int, i = .int .i64 k ∧ j = .int .i64 d ∧ (d + m - b) ≤ k ∧ k ≤ d ∧ Aside0 (Below w.heap.size w wr)) (fun i _ _ => (d - intOf i).toNat)
        case atStart => exact ⟨(d + m - b), rfl, rfl, by omega, by omega, ⟨Below.refl _ _⟩⟩
        case round =>
          obtain ⟨k, rfl, rfl, hk1, hk2, HB⟩ := hrel
          by_cases hkb : k < d
          · have hk0 : 0 ≤ k := by omega
            go_wp2_with fail
            obtain ⟨h, hh⟩ : ∃ h : Int, h = (k + d) / 2 := ⟨_, rfl⟩
            rw [← hh]
            have hm1 : k ≤ h := by omega
            have hm2 : h < d := by omega
            clear hh
            obtain ⟨q, rfl⟩ : ∃ q : Int, p = q + h := ⟨p - h, by omega⟩
            have hq0 : 0 ≤ q := by omega
            have hq1 : h ≤ q := by omega
            have hq2 : q < (xs.length : Int) := by omega
            have hcmp := cmp_le (HS.out h q (by omega) hq1 hq2)
            have hwq : wrap64 q = q := IntWalk.wrap64_in _ (by omega)
            have HP := Aside0.mk hp
            clear hp
            obtain ⟨ac, e, p0, p1⟩ := at_N (Kd.C_below HR.out HB.out) q (by omega) (by omega)
            cases e
            obtain ⟨ac', e, q0, q1⟩ := at_N (Kd.C_below HR.out HB.out) h (by omega) (by omega)
            cases e
            have hl1 := World.block_lt_of_cell? _ _ p0
            have hl2 := World.block_lt_of_cell? _ _ q0
            have hl3 := World.block_lt_of_cell? _ _ p1
            have hl4 := World.block_lt_of_cell? _ _ q1
            have i1 : (0 : Int) ≤ q := by omega
            have i2 : q < (xs.length : Int) := by omega
            have i3 : (0 : Int) ≤ h := by omega
            have i4 : h < (xs.length : Int) := by omega
            refine start_ (n := 14) (S := fun w' => w'.cell? (ac.add (q.toNat * 2)) = some (.int .i64 (rd_N xs q).f0) ∧ w'.cell? ⟨(ac.add (q.toNat * 2)).block, (ac.add (q.toNat * 2)).off + 1, none⟩ = some (.pointer (rd_N xs q).f1) ∧ w'.cell? (ac.add (h.toNat * 2)) = some (.int .i64 (rd_N xs h).f0) ∧ w'.cell? ⟨(ac.add (h.toNat * 2)).block, (ac.add (h.toNat * 2)).off + 1, none⟩ = some (.pointer (rd_N xs h).f1)) (ds := []) #[false, false, false, false, false, false, false, false, false, false, false, false, false, false] (by kernel_rfl) rfl rfl ⟨p0, p1, q0, q1⟩ (fun hHeld => ?_)
            refine pure_ (i := 0) (N := (some 158)) (v := ?_) (a' := ?_) #[true, false, false, false, false, false, false, false, false, false, false, false, false, false] rfl rfl (by kernel_rfl) (fun _ _ _ h => h) (Or.inl ⟨by rfl, ?_⟩) ?_ ?_
            rotate_left
            · intro w'
              go_simp
              with_reducible rfl
            rotate_left
            · simp only [Act.put, List.setIfInBounds_toArray, List.set_cons_zero, List.set_cons_succ, i64_w, i32_w]
              rfl
            refine pure_ (i := 1) (N := (some 159)) (v := ?_) (a' := ?_) #[true, true, false, false, false, false, false, false, false, false, false, false, false, false] rfl rfl (by kernel_rfl) (fun _ _ _ h => h) (Or.inl ⟨by rfl, ?_⟩) ?_ ?_
            rotate_left
            · intro w'
              go_simp
              with_reducible rfl
            rotate_left
            · simp only [Act.put, List.setIfInBounds_toArray, List.set_cons_zero, List.set_cons_succ, i64_w, i32_w]
              rfl
            refine pure_ (i := 2) (N := (some 160)) (v := ?_) (a' := ?_) #[true, true, true, false, false, false, false, false, false, false, false, false, false, false] rfl rfl (by kernel_rfl) (fun _ _ _ h => h) (Or.inl ⟨by rfl, ?_⟩) ?_ ?_
            rotate_left
            · intro w'
              go_simp
              with_reducible rfl
            rotate_left
            · simp only [Act.put, List.setIfInBounds_toArray, List.set_cons_zero, List.set_cons_succ, i64_w, i32_w]
              rfl
            refine pure_ (i := 3) (N := (some 161)) (v := ?_) (a' := ?_) #[true, true, true, true, false, false, false, false, false, false, false, false, false, false] rfl rfl (by kernel_rfl) (fun _ _ _ h => h) (Or.inl ⟨by rfl, ?_⟩) ?_ ?_
            rotate_left
            · intro w'
              go_simp
              with_reducible rfl
            rotate_left
            · simp only [Act.put, List.setIfInBounds_toArray, List.set_cons_zero, List.set_cons_succ, i64_w, i32_w]
              rfl
            refine pure_ (i := 4) (N := (some 162)) (v := ?_) (a' := ?_) #[true, true, true, true, true, false, false, false, false, false, false, false, false, false] rfl rfl (by kernel_rfl) (fun _ _ _ h => h) (Or.inl ⟨by rfl, ?_⟩) ?_ ?_
            rotate_left
            · intro w'
              go_simp
              with_reducible rfl
            rotate_left
            · simp only [Act.put, List.setIfInBounds_toArray, List.set_cons_zero, List.set_cons_succ, i64_w, i32_w]
              rfl
            refine pure_ (i := 5) (N := (some 163)) (v := ?_) (a' := ?_) #[true, true, true, true, true, true, false, false, false, false, false, false, false, false] rfl rfl (by kernel_rfl) (fun _ _ _ h => h) (Or.inl ⟨by rfl, ?_⟩) ?_ ?_
            rotate_left
            · intro w'
              go_simp
              with_reducible rfl
            rotate_left
            · simp only [Act.put, List.setIfInBounds_toArray, List.set_cons_zero, List.set_cons_succ, i64_w, i32_w]
              rfl
            refine take_ (i := 6) (N := (some 164)) (v := ?_) (a' := ?_) #[true, true, true, true, true, true, true, false, false, false, false, false, false, false] rfl rfl (by kernel_rfl) (fun _ _ _ h => h) (Or.inl ⟨by rfl, ?_⟩) hHeld ?_ ?_
            rotate_left
            · rintro w' ⟨s0, s1, s2, s3⟩
              go_simp
              with_reducible rfl
            rotate_left
            · simp only [Act.put, List.setIfInBounds_toArray, List.set_cons_zero, List.set_cons_succ, i64_w, i32_w]
              rfl
            refine pure_ (i := 7) (N := (some 165)) (v := ?_) (a' := ?_) #[true, true, true, true, true, true, true, true, false, false, false, false, false, false] rfl rfl (by kernel_rfl) (fun _ _ _ h => h) (Or.inl ⟨by rfl, ?_⟩) ?_ ?_
            rotate_left
            · intro w'
              go_simp
              with_reducible rfl
            rotate_left
            · simp only [Act.put, List.setIfInBounds_toArray, List.set_cons_zero, List.set_cons_succ, i64_w, i32_w]
              rfl
            refine pure_ (i := 8) (N := (some 166)) (v := ?_) (a' := ?_) #[true, true, true, true, true, true, true, true, true, false, false, false, false, false] rfl rfl (by kernel_rfl) (fun _ _ _ h => h) (Or.inl ⟨by rfl, ?_⟩) ?_ ?_
            rotate_left
            · intro w'
              go_simp
              with_reducible rfl
            rotate_left
            · simp only [Act.put, List.setIfInBounds_toArray, List.set_cons_zero, List.set_cons_succ, i64_w, i32_w]
              rfl
            refine pure_ (i := 9) (N := (some 167)) (v := ?_) (a' := ?_) #[true, true, true, true, true, true, true, true, true, true, false, false, false, false] rfl rfl (by kernel_rfl) (fun _ _ _ h => h) (Or.inl ⟨by rfl, ?_⟩) ?_ ?_
            rotate_left
            · intro w'
              go_simp
              with_reducible rfl
            rotate_left
            · simp only [Act.put, List.setIfInBounds_toArray, List.set_cons_zero, List.set_cons_succ, i64_w, i32_w]
              rfl
            refine take_ (i := 10) (N := (some 168)) (v := ?_) (a' := ?_) #[true, true, true, true, true, true, true, true, true, true, true, false, false, false] rfl rfl (by kernel_rfl) (fun _ _ _ h => h) (Or.inl ⟨by rfl, ?_⟩) hHeld ?_ ?_
            rotate_left
            · rintro w' ⟨s0, s1, s2, s3⟩
              go_simp
              with_reducible rfl
            rotate_left
            · simp only [Act.put, List.setIfInBounds_toArray, List.set_cons_zero, List.set_cons_succ, i64_w, i32_w]
              rfl
            refine one_ (i := 11) (N := (some 169)) #[true, true, true, true, true, true, true, true, true, true, true, true, false, false] rfl rfl (by kernel_rfl) (by decide) (fun K hK => ?_)
            refine goesV_ Tryd.func28 (by kernel_rfl) rfl #[.agg #[.int .i64 (rd_N xs q).f0, .pointer (rd_N xs q).f1], .agg #[.int .i64 (rd_N xs h).f0, .pointer (rd_N xs h).f1]] (by rfl) rfl rfl (by rfl) (by (try simp only [List.map_toArray, List.map_cons, List.map_nil]); first | done | rfl) ?_
            refine (turns_cmp.calls _ _ _).mono ?_
            rintro e w1 ⟨rfl, hb1⟩
            refine ⟨_, rfl, ?_⟩
            refine hK.out _ _ ⟨(hb1.cell hl1).trans hHeld.1, (hb1.cell (p := ⟨(ac.add (q.toNat * 2)).block, (ac.add (q.toNat * 2)).off + 1, none⟩) hl3).trans hHeld.2.1, (hb1.cell hl2).trans hHeld.2.2.1, (hb1.cell (p := ⟨(ac.add (h.toNat * 2)).block, (ac.add (h.toNat * 2)).off + 1, none⟩) hl4).trans hHeld.2.2.2⟩ (fun hHeld => ?_)
            clear hK K
            refine pure_ (i := 12) (N := (some 170)) (v := ?_) (a' := ?_) #[true, true, true, true, true, true, true, true, true, true, true, true, true, false] rfl rfl (by kernel_rfl) (fun _ _ _ h => h) (Or.inl ⟨by rfl, ?_⟩) ?_ ?_
            rotate_left
            · intro w'
              go_simp
              with_reducible rfl
            rotate_left
            · simp only [Act.put, List.setIfInBounds_toArray, List.set_cons_zero, List.set_cons_succ, i64_w, i32_w]
              rfl
            refine pure_ (i := 13) (N := (some 171)) (v := ?_) (a' := ?_) #[true, true, true, true, true, true, true, true, true, true, true, true, true, true] rfl rfl (by kernel_rfl) (fun _ _ _ h => h) (Or.inl ⟨by rfl, ?_⟩) ?_ ?_
            rotate_left
            · intro w'
              go_simp
              with_reducible rfl
            rotate_left
            · simp only [Act.put, List.setIfInBounds_toArray, List.set_cons_zero, List.set_cons_succ, i64_w, i32_w]
              rfl
            refine done_ (by kernel_rfl) ?_
            have HB1 : Aside0 (Below w.heap.size w w1) := ⟨below_then HB.out HB.out.size (below_then (below_drew (Below.refl _ _)) (by simp) hb1)⟩
            clear HB hb1 p0 p1 q0 q1 hHeld
            go_wp2_with fail
            go_roundw
            case rel => exact ⟨h + 1, rfl, rfl, by omega, by omega, HB1⟩
            case measure =>
              simp [intOf]
              omega
          · have e1 : k = d := by omega
            subst e1
            go_wp2_with (go_at_call 66; rw [show k + m - k = m by omega]; refine (IH.out k m b _ (by omega) (by omega) (by omega) (by omega) (by omega) (Kd.C_below HR.out HB.out)).mono ?_; rintro e w1 ⟨rfl, hb1⟩; have HB1 : Aside0 (Below w.heap.size w w1) := ⟨below_then HB.out HB.out.size hb1⟩; clear HB hb1)
            go_end0
            exact ⟨rfl, HB1.out⟩
      · go_enter Tryd.func66, Tryd.ntmps66
        go_wp2_with fail
        obtain ⟨d, hd⟩ : ∃ d : Int, d = (a + b) / 2 := ⟨_, rfl⟩
        simp only [← hd] at c3 ⊢
        have hd1 : a + b - 1 ≤ d + d := by omega
        have hd2 : d + d ≤ a + b := by omega
        clear hd
        obtain ⟨p, hp⟩ : ∃ p : Int, p = d + m - 1 := ⟨_, rfl⟩
        rw [← hp]
        go_loopw [20, 21] (fun i j wr => ∃ k : Int, i = .int .i64 k ∧ j = .int .i64 m ∧ a ≤ k ∧ k ≤ m ∧ Aside0 (Below w.heap.size w wr)) (fun i _ _ => (m - intOf i).toNat)
        case atStart => exact ⟨a, rfl, rfl, by omega, by omega, ⟨Below.refl _ _⟩⟩
        case round =>
          obtain ⟨k, rfl, rfl, hk1, hk2, HB⟩ := hrel
          by_cases hkb : k < m
          · have hk0 : 0 ≤ k := by omega
            go_wp2_with fail
            obtain ⟨h, hh⟩ : ∃ h : Int, h = (k + m) / 2 := ⟨_, rfl⟩
            rw [← hh]
            have hm1 : k ≤ h := by omega
            have hm2 : h < m := by omega
            clear hh
            obtain ⟨q, rfl⟩ : ∃ q : Int, p = q + h := ⟨p - h, by omega⟩
            have hq0 : 0 ≤ q := by omega
            have hq1 : h ≤ q := by omega
            have hq2 : q < (xs.length : Int) := by omega
            have hcmp := cmp_le (HS.out h q (by omega) hq1 hq2)
            have hwq : wrap64 q = q := IntWalk.wrap64_in _ (by omega)
            have HP := Aside0.mk hp
            clear hp
            obtain ⟨ac, e, p0, p1⟩ := at_N (Kd.C_below HR.out HB.out) q (by omega) (by omega)
            cases e
            obtain ⟨ac', e, q0, q1⟩ := at_N (Kd.C_below HR.out HB.out) h (by omega) (by omega)
            cases e
            have hl1 := World.block_lt_of_cell? _ _ p0
            have hl2 := World.block_lt_of_cell? _ _ q0
            have hl3 := World.block_lt_of_cell? _ _ p1
            have hl4 := World.block_lt_of_cell? _ _ q1
            have i1 : (0 : Int) ≤ q := by omega
            have i2 : q < (xs.length : Int) := by omega
            have i3 : (0 : Int) ≤ h := by omega
            have i4 : h < (xs.length : Int) := by omega
            refine start_ (n := 14) (S := fun w' => w'.cell? (ac.add (q.toNat * 2)) = some (.int .i64 (rd_N xs q).f0) ∧ w'.cell? ⟨(ac.add (q.toNat * 2)).block, (ac.add (q.toNat * 2)).off + 1, none⟩ = some (.pointer (rd_N xs q).f1) ∧ w'.cell? (ac.add (h.toNat * 2)) = some (.int .i64 (rd_N xs h).f0) ∧ w'.cell? ⟨(ac.add (h.toNat * 2)).block, (ac.add (h.toNat * 2)).off + 1, none⟩ = some (.pointer (rd_N xs h).f1)) (ds := []) #[false, false, false, false, false, false, false, false, false, false, false, false, false, false] (by kernel_rfl) rfl rfl ⟨p0, p1, q0, q1⟩ (fun hHeld => ?_)
            refine pure_ (i := 0) (N := (some 158)) (v := ?_) (a' := ?_) #[true, false, false, false, false, false, false, false, false, false, false, false, false, false] rfl rfl (by kernel_rfl) (fun _ _ _ h => h) (Or.inl ⟨by rfl, ?_⟩) ?_ ?_
            rotate_left
            · intro w'
              go_simp
              with_reducible rfl
            rotate_left
            · simp only [Act.put, List.setIfInBounds_toArray, List.set_cons_zero, List.set_cons_succ, i64_w, i32_w]
              rfl
            refine pure_ (i := 1) (N := (some 159)) (v := ?_) (a' := ?_) #[true, true, false, false, false, false, false, false, false, false, false, false, false, false] rfl rfl (by kernel_rfl) (fun _ _ _ h => h) (Or.inl ⟨by rfl, ?_⟩) ?_ ?_
            rotate_left
            · intro w'
              go_simp
              with_reducible rfl
            rotate_left
            · simp only [Act.put, List.setIfInBounds_toArray, List.set_cons_zero, List.set_cons_succ, i64_w, i32_w]
              rfl
            refine pure_ (i := 2) (N := (some 160)) (v := ?_) (a' := ?_) #[true, true, true, false, false, false, false, false, false, false, false, false, false, false] rfl rfl (by kernel_rfl) (fun _ _ _ h => h) (Or.inl ⟨by rfl, ?_⟩) ?_ ?_
            rotate_left
            · intro w'
              go_simp
              with_reducible rfl
            rotate_left
            · simp only [Act.put, List.setIfInBounds_toArray, List.set_cons_zero, List.set_cons_succ, i64_w, i32_w]
              rfl
            refine pure_ (i := 3) (N := (some 161)) (v := ?_) (a' := ?_) #[true, true, true, true, false, false, false, false, false, false, false, false, false, false] rfl rfl (by kernel_rfl) (fun _ _ _ h => h) (Or.inl ⟨by rfl, ?_⟩) ?_ ?_
            rotate_left
            · intro w'
              go_simp
              with_reducible rfl
            rotate_left
            · simp only [Act.put, List.setIfInBounds_toArray, List.set_cons_zero, List.set_cons_succ, i64_w, i32_w]
              rfl
            refine pure_ (i := 4) (N := (some 162)) (v := ?_) (a' := ?_) #[true, true, true, true, true, false, false, false, false, false, false, false, false, false] rfl rfl (by kernel_rfl) (fun _ _ _ h => h) (Or.inl ⟨by rfl, ?_⟩) ?_ ?_
            rotate_left
            · intro w'
              go_simp
              with_reducible rfl
            rotate_left
            · simp only [Act.put, List.setIfInBounds_toArray, List.set_cons_zero, List.set_cons_succ, i64_w, i32_w]
              rfl
            refine pure_ (i := 5) (N := (some 163)) (v := ?_) (a' := ?_) #[true, true, true, true, true, true, false, false, false, false, false, false, false, false] rfl rfl (by kernel_rfl) (fun _ _ _ h => h) (Or.inl ⟨by rfl, ?_⟩) ?_ ?_
            rotate_left
            · intro w'
              go_simp
              with_reducible rfl
            rotate_left
            · simp only [Act.put, List.setIfInBounds_toArray, List.set_cons_zero, List.set_cons_succ, i64_w, i32_w]
              rfl
            refine take_ (i := 6) (N := (some 164)) (v := ?_) (a' := ?_) #[true, true, true, true, true, true, true, false, false, false, false, false, false, false] rfl rfl (by kernel_rfl) (fun _ _ _ h => h) (Or.inl ⟨by rfl, ?_⟩) hHeld ?_ ?_
            rotate_left
            · rintro w' ⟨s0, s1, s2, s3⟩
              go_simp
              with_reducible rfl
            rotate_left
            · simp only [Act.put, List.setIfInBounds_toArray, List.set_cons_zero, List.set_cons_succ, i64_w, i32_w]
              rfl
            refine pure_ (i := 7) (N := (some 165)) (v := ?_) (a' := ?_) #[true, true, true, true, true, true, true, true, false, false, false, false, false, false] rfl rfl (by kernel_rfl) (fun _ _ _ h => h) (Or.inl ⟨by rfl, ?_⟩) ?_ ?_
            rotate_left
            · intro w'
              go_simp
              with_reducible rfl
            rotate_left
            · simp only [Act.put, List.setIfInBounds_toArray, List.set_cons_zero, List.set_cons_succ, i64_w, i32_w]
              rfl
            refine pure_ (i := 8) (N := (some 166)) (v := ?_) (a' := ?_) #[true, true, true, true, true, true, true, true, true, false, false, false, false, false] rfl rfl (by kernel_rfl) (fun _ _ _ h => h) (Or.inl ⟨by rfl, ?_⟩) ?_ ?_
            rotate_left
            · intro w'
              go_simp
              with_reducible rfl
            rotate_left
            · simp only [Act.put, List.setIfInBounds_toArray, List.set_cons_zero, List.set_cons_succ, i64_w, i32_w]
              rfl
            refine pure_ (i := 9) (N := (some 167)) (v := ?_) (a' := ?_) #[true, true, true, true, true, true, true, true, true, true, false, false, false, false] rfl rfl (by kernel_rfl) (fun _ _ _ h => h) (Or.inl ⟨by rfl, ?_⟩) ?_ ?_
            rotate_left
            · intro w'
              go_simp
              with_reducible rfl
            rotate_left
            · simp only [Act.put, List.setIfInBounds_toArray, List.set_cons_zero, List.set_cons_succ, i64_w, i32_w]
              rfl
            refine take_ (i := 10) (N := (some 168)) (v := ?_) (a' := ?_) #[true, true, true, true, true, true, true, true, true, true, true, false, false, false] rfl rfl (by kernel_rfl) (fun _ _ _ h => h) (Or.inl ⟨by rfl, ?_⟩) hHeld ?_ ?_
            rotate_left
            · rintro w' ⟨s0, s1, s2, s3⟩
              go_simp
              with_reducible rfl
            rotate_left
            · simp only [Act.put, List.setIfInBounds_toArray, List.set_cons_zero, List.set_cons_succ, i64_w, i32_w]
              rfl
            refine one_ (i := 11) (N := (some 169)) #[true, true, true, true, true, true, true, true, true, true, true, true, false, false] rfl rfl (by kernel_rfl) (by decide) (fun K hK => ?_)
            refine goesV_ Tryd.func28 (by kernel_rfl) rfl #[.agg #[.int .i64 (rd_N xs q).f0, .pointer (rd_N xs q).f1], .agg #[.int .i64 (rd_N xs h).f0, .pointer (rd_N xs h).f1]] (by rfl) rfl rfl (by rfl) (by (try simp only [List.map_toArray, List.map_cons, List.map_nil]); first | done | rfl) ?_
            refine (turns_cmp.calls _ _ _).mono ?_
            rintro e w1 ⟨rfl, hb1⟩
            refine ⟨_, rfl, ?_⟩
            refine hK.out _ _ ⟨(hb1.cell hl1).trans hHeld.1, (hb1.cell (p := ⟨(ac.add (q.toNat * 2)).block, (ac.add (q.toNat * 2)).off + 1, none⟩) hl3).trans hHeld.2.1, (hb1.cell hl2).trans hHeld.2.2.1, (hb1.cell (p := ⟨(ac.add (h.toNat * 2)).block, (ac.add (h.toNat * 2)).off + 1, none⟩) hl4).trans hHeld.2.2.2⟩ (fun hHeld => ?_)
            clear hK K
            refine pure_ (i := 12) (N := (some 170)) (v := ?_) (a' := ?_) #[true, true, true, true, true, true, true, true, true, true, true, true, true, false] rfl rfl (by kernel_rfl) (fun _ _ _ h => h) (Or.inl ⟨by rfl, ?_⟩) ?_ ?_
            rotate_left
            · intro w'
              go_simp
              with_reducible rfl
            rotate_left
            · simp only [Act.put, List.setIfInBounds_toArray, List.set_cons_zero, List.set_cons_succ, i64_w, i32_w]
              rfl
            refine pure_ (i := 13) (N := (some 171)) (v := ?_) (a' := ?_) #[true, true, true, true, true, true, true, true, true, true, true, true, true, true] rfl rfl (by kernel_rfl) (fun _ _ _ h => h) (Or.inl ⟨by rfl, ?_⟩) ?_ ?_
            rotate_left
            · intro w'
              go_simp
              with_reducible rfl
            rotate_left
            · simp only [Act.put, List.setIfInBounds_toArray, List.set_cons_zero, List.set_cons_succ, i64_w, i32_w]
              rfl
            refine done_ (by kernel_rfl) ?_
            have HB1 : Aside0 (Below w.heap.size w w1) := ⟨below_then HB.out HB.out.size (below_then (below_drew (Below.refl _ _)) (by simp) hb1)⟩
            clear HB hb1 p0 p1 q0 q1 hHeld
            go_wp2_with fail
            go_roundw
            case rel => exact ⟨h + 1, rfl, rfl, by omega, by omega, HB1⟩
            case measure =>
              simp [intOf]
              omega
          · have e1 : k = m := by omega
            subst e1
            by_cases c5 : k < d
            · go_wp2_with (go_at_call 66; refine (IH.out a k d _ (by omega) (by omega) (by omega) (by omega) (by omega) (Kd.C_below HR.out HB.out)).mono ?_; rintro e w1 ⟨rfl, hb1⟩; have HB1 : Aside0 (Below w.heap.size w w1) := ⟨below_then HB.out HB.out.size hb1⟩; clear HB hb1)
              go_end0
              exact ⟨rfl, HB1.out⟩
            · go_wp2_with fail
              go_end0
              exact ⟨rfl, HB.out⟩
end Go.Proofs.YteemhjamlkipcaaDoor.PT
end
section
namespace Go.Proofs.YteemhjamlkipcaaDoor.PT
open Go.RowKit Go.Proofs.YteemhjamlkipcaaDoorW.PrintWords Go.Proofs.YteemhjamlkipcaaDoorW.PrintLast Go.Proofs.YteemhjamlkipcaaDoorW.PrintMore
set_option linter.unusedVariables false
set_option linter.unusedSimpArgs false
set_option maxHeartbeats 1000000 in
set_option maxRecDepth 100000 in
theorem turns_stable.calls (A0 : Option Addr) (c0 : Nat) (xs : List SN) (hl : xs.length ≤ 1000000000000) (hs : Rising xs) (w : World) (hr0 : Kd.C kN w A0 xs.length xs) :
    Calls Tryd.prog 51 #[.slice A0 xs.length c0, .int .i64 xs.length, .func (.func 28) #[] #[]] w fun e w' => e = .returned (.tuple #[]) ∧ Below w.heap.size w w' := by
  have HS := Aside0.mk hs
  have HR := Aside0.mk hr0
  clear hr0 hs
  obtain ⟨n, hn⟩ : ∃ n : Int, n = (xs.length : Int) := ⟨_, rfl⟩
  rw [← hn]
  have hn0 : 0 ≤ n := by omega
  have hn1 : n ≤ 1000000000000 := by omega
  have HN := Aside0.mk hn
  clear hn
  go_enter Tryd.func51, Tryd.ntmps51
  go_wp2_with fail
  go_loopw [7, 8] (fun i j wr => ∃ k : Int, i = .int .i64 k ∧ j = .int .i64 (k + 20) ∧ 0 ≤ k ∧ k ≤ n ∧ Aside0 (Below w.heap.size w wr)) (fun i _ _ => (n - intOf i).toNat)
  case atStart => exact ⟨0, rfl, rfl, by omega, by omega, ⟨Below.refl _ _⟩⟩
  case round =>
    obtain ⟨k, rfl, rfl, hk1, hk2, HB⟩ := hrel
    by_cases hkb : k + 20 ≤ n
    · go_wp2_with (go_at_call 65; refine (turns_insertion.calls _ _ xs k (k + 20) (by omega) (by omega) (by have := HN.out; omega) (by omega) HS.out _ (Kd.C_below HR.out HB.out)).mono ?_; rintro e w1 ⟨rfl, hb1⟩; have HB1 : Aside0 (Below w.heap.size w w1) := ⟨below_then HB.out HB.out.size hb1⟩; clear HB hb1)
      go_roundw
      case rel => exact ⟨k + 20, rfl, rfl, by omega, by omega, HB1⟩
      case measure =>
        simp [intOf]
        omega
    · go_wp2_with (go_at_call 65; refine (turns_insertion.calls _ _ xs k n (by omega) (by omega) (by have := HN.out; omega) (by omega) HS.out _ (Kd.C_below HR.out HB.out)).mono ?_; rintro e w1 ⟨rfl, hb1⟩; have HB1 : Aside0 (Below w.heap.size w w1) := ⟨below_then HB.out HB.out.size hb1⟩; clear HB hb1)
      go_loopw [6, 7, 8, 9] (fun b _ _ _ wr => ∃ k : Int, b = .int .i64 k ∧ 20 ≤ k ∧ k ≤ n + n + 20 ∧ Aside0 (Below w.heap.size w wr)) (fun b _ _ _ _ => (n + n + 20 - intOf b).toNat)
      case atStart => exact ⟨20, rfl, by omega, by omega, HB1⟩
      case round =>
        obtain ⟨B, rfl, hB0, hB1, HB2⟩ := hrel
        by_cases hBn : B < n
        · go_wp2_with fail
          go_loopw [7, 8] (fun i j wr => ∃ k : Int, i = .int .i64 k ∧ j = .int .i64 (k + B + B) ∧ 0 ≤ k ∧ k ≤ n ∧ Aside0 (Below w.heap.size w wr)) (fun i _ _ => (n - intOf i).toNat)
          case atStart => exact ⟨0, rfl, by first | rfl | (simp; done) | (simp; omega) | (congr 1; omega), by omega, by omega, HB2⟩
          case round =>
            obtain ⟨K, rfl, rfl, hK1, hK2, HB3⟩ := hrel
            by_cases hKb : K + B + B ≤ n
            · go_wp2_with (go_at_call 66; refine (turns_symMerge.calls _ _ xs (by omega) HS.out xs.length K (K + B) (K + B + B) _ (by omega) (by omega) (by omega) (by have := HN.out; omega) (by have := HN.out; omega) (Kd.C_below HR.out HB3.out)).mono ?_; rintro e w1 ⟨rfl, hb1⟩; have HB4 : Aside0 (Below w.heap.size w w1) := ⟨below_then HB3.out HB3.out.size hb1⟩; clear HB3 hb1)
              go_roundw
              case rel => exact ⟨K + B + B, rfl, by first | rfl | (simp; done) | (simp; omega) | (congr 1; omega), by omega, by omega, HB4⟩
              case measure =>
                simp [intOf]
                omega
            · by_cases hKn : K + B < n
              · go_wp2_with (go_at_call 66; refine (turns_symMerge.calls _ _ xs (by omega) HS.out xs.length K (K + B) n _ (by omega) (by omega) (by omega) (by have := HN.out; omega) (by have := HN.out; omega) (Kd.C_below HR.out HB3.out)).mono ?_; rintro e w1 ⟨rfl, hb1⟩; have HB4 : Aside0 (Below w.heap.size w w1) := ⟨below_then HB3.out HB3.out.size hb1⟩; clear HB3 hb1)
                go_roundw
                case rel => exact ⟨B + B, by first | rfl | (simp; done) | (simp; omega) | (congr 1; omega), by omega, by omega, HB4⟩
                case measure =>
                  simp [intOf]
                  omega
              · go_wp2_with fail
                go_roundw
                case rel => exact ⟨B + B, by first | rfl | (simp; done) | (simp; omega) | (congr 1; omega), by omega, by omega, HB3⟩
                case measure =>
                  simp [intOf]
                  omega
        · go_wp2_with fail
          go_end0
          exact ⟨rfl, HB2.out⟩
set_option maxHeartbeats 1000000 in
set_option maxRecDepth 100000 in
theorem turns_sort.calls (A0 : Option Addr) (c0 : Nat) (xs : List SN) (hl : xs.length ≤ 1000000000000) (hs : Rising xs) (w : World) (hr0 : Kd.C kN w A0 xs.length xs) :
    Calls Tryd.prog 27 #[.slice A0 xs.length c0, .func (.func 28) #[] #[]] w fun e w' => e = .returned (.tuple #[]) ∧ Below w.heap.size w w' := by
  go_enter Tryd.func27, Tryd.ntmps27
  go_wp2_with (go_at_call 51; refine (turns_stable.calls _ _ xs hl hs _ hr0).mono ?_; rintro e w1 ⟨rfl, hb1⟩)
  go_end0
  exact ⟨rfl, hb1⟩
end Go.Proofs.YteemhjamlkipcaaDoor.PT
end
section
namespace Go.Proofs.YteemhjamlkipcaaDoor.PT
open Go.RowKit Go.Proofs.YteemhjamlkipcaaDoorW.PrintWords Go.Proofs.YteemhjamlkipcaaDoorW.PrintLast Go.Proofs.YteemhjamlkipcaaDoorW.PrintMore
attribute [local go_sem] max2_int min2_int max_two min_two max_three min_three max_four min_four   -- for this text's walks alone
set_option linter.unusedVariables false
set_option linter.unusedSimpArgs false
def civil_Days.f (a0 : Int) (a1 : Int) (a2 : Int) : Option (Int × Int) := (civil_Length.f a0 a1).bind fun bt246 => (if bt246.2 = 0 then (if a2 < 1 then (some (0, 1)) else (if a2 > bt246.1 then (some (0, 1)) else ((civil_days.f a0 a1 a2).bind fun t248 => (some (t248, 0))))) else (some (0, 1)))
set_option maxHeartbeats 8000000 in
set_option maxRecDepth 100000 in
theorem civil_Days.calls (a0 : Int) (a1 : Int) (a2 : Int) (r1 : Int) (r2 : Int) (w : World) (h : civil_Days.f a0 a1 a2 = some (r1, r2)) :
    Calls Tryd.prog 49 #[.int .i64 a0, .int .i64 a1, .int .i64 a2] w fun e w' => e = .returned (.tuple #[.int .i64 r1, .int .i64 r2]) ∧ Drawn0 w w' := by
  have H : ((civil_Length.f a0 a1).bind fun bt246 => (if bt246.2 = 0 then (if a2 < 1 then (some (0, 1)) else (if a2 > bt246.1 then (some (0, 1)) else ((civil_days.f a0 a1 a2).bind fun t248 => (some (t248, 0))))) else (some (0, 1)))) = some (r1, r2) := h
  clear h
  replace H := Option.bind_eq_some_iff.mp H
  obtain ⟨⟨t246, t247⟩, A40, H⟩ := H
  replace H : (if t247 = 0 then (if a2 < 1 then (some (0, 1)) else (if a2 > t246 then (some (0, 1)) else ((civil_days.f a0 a1 a2).bind fun t248 => (some (t248, 0))))) else (some (0, 1))) = some (r1, r2) := H
  have A4 := Aside0.mk A40
  clear A40
  by_cases c5 : t247 = 0
  · rw [if_pos c5] at H
    have c5b0 : (t247 == 0) = true := beq_iff_eq.mpr c5
    have c5b1 : (t247 != 0) = false := bne_eq_false_iff_eq.mpr c5
    clear c5
    by_cases c6 : a2 < 1
    · rw [if_pos c6] at H
      have c6b0 : decide (a2 < 1) = true := decide_eq_true c6
      clear c6
      simp only [Option.some.injEq, Prod.mk.injEq] at H
      obtain ⟨rfl, rfl⟩ := H
      go_enter Tryd.func49, Tryd.ntmps49
      go_wp2_with (first | ((with_reducible refine gate_callee (f := 40) rfl ?_); refine goesL_ (some 13) rfl rfl Tryd.func40 (by kernel_rfl) rfl #[.int .i64 a0, .int .i64 a1] rfl (by (try simp only [List.map_toArray, List.map_cons, List.map_nil]); first | done | rfl | (simp only [List.length_drop, List.length_take]; rfl)) ?_; (with_reducible refine (civil_Length.calls a0 a1 t246 t247 _ A4.out).mono ?_); rintro e w' ⟨rfl, ⟨nd, rfl⟩⟩; refine ⟨_, rfl, ?_⟩))
      go_ret2
      exact ⟨by first | rfl | (simp; done) | (simp [*]; done), by repeat (first | exact Drawn0.refl _ | apply Drawn0.step)⟩
    · rw [if_neg c6] at H
      have c6b0 : decide (a2 < 1) = false := decide_eq_false c6
      clear c6
      by_cases c7 : a2 > t246
      · rw [if_pos c7] at H
        have c7b0 : decide (t246 < a2) = true := decide_eq_true c7
        clear c7
        simp only [Option.some.injEq, Prod.mk.injEq] at H
        obtain ⟨rfl, rfl⟩ := H
        go_enter Tryd.func49, Tryd.ntmps49
        go_wp2_with (first | ((with_reducible refine gate_callee (f := 40) rfl ?_); refine goesL_ (some 13) rfl rfl Tryd.func40 (by kernel_rfl) rfl #[.int .i64 a0, .int .i64 a1] rfl (by (try simp only [List.map_toArray, List.map_cons, List.map_nil]); first | done | rfl | (simp only [List.length_drop, List.length_take]; rfl)) ?_; (with_reducible refine (civil_Length.calls a0 a1 t246 t247 _ A4.out).mono ?_); rintro e w' ⟨rfl, ⟨nd, rfl⟩⟩; refine ⟨_, rfl, ?_⟩))
        go_ret2
        exact ⟨by first | rfl | (simp; done) | (simp [*]; done), by repeat (first | exact Drawn0.refl _ | apply Drawn0.step)⟩
      · rw [if_neg c7] at H
        have c7b0 : decide (t246 < a2) = false := decide_eq_false c7
        clear c7
        replace H := Option.bind_eq_some_iff.mp H
        obtain ⟨t248, A80, H⟩ := H
        replace H : (some (t248, 0)) = some (r1, r2) := H
        have A8 := Aside0.mk A80
        clear A80
        simp only [Option.some.injEq, Prod.mk.injEq] at H
        obtain ⟨rfl, rfl⟩ := H
        go_enter Tryd.func49, Tryd.ntmps49
        go_wp2_with (first | ((with_reducible refine gate_callee (f := 40) rfl ?_); refine goesL_ (some 13) rfl rfl Tryd.func40 (by kernel_rfl) rfl #[.int .i64 a0, .int .i64 a1] rfl (by (try simp only [List.map_toArray, List.map_cons, List.map_nil]); first | done | rfl | (simp only [List.length_drop, List.length_take]; rfl)) ?_; (with_reducible refine (civil_Length.calls a0 a1 t246 t247 _ A4.out).mono ?_); rintro e w' ⟨rfl, ⟨nd, rfl⟩⟩; refine ⟨_, rfl, ?_⟩) | ((with_reducible refine gate_callee (f := 21) rfl ?_); refine goesL_ (some 30) rfl rfl Tryd.func21 (by kernel_rfl) rfl #[.int .i64 a0, .int .i64 a1, .int .i64 a2] rfl (by (try simp only [List.map_toArray, List.map_cons, List.map_nil]); first | done | rfl | (simp only [List.length_drop, List.length_take]; rfl)) ?_; (with_reducible refine (civil_days.calls a0 a1 a2 t248 _ A8.out).mono ?_); rintro e w' ⟨rfl, ⟨nd, rfl⟩⟩; refine ⟨_, rfl, ?_⟩))
        go_ret2
        exact ⟨by first | rfl | (simp; done) | (simp [*]; done), by repeat (first | exact Drawn0.refl _ | apply Drawn0.step)⟩
  · rw [if_neg c5] at H
    have c5b0 : (t247 == 0) = false := beq_eq_false_iff_ne.mpr c5
    have c5b1 : (t247 != 0) = true := bne_iff_ne.mpr c5
    simp only [Option.some.injEq, Prod.mk.injEq] at H
    obtain ⟨rfl, rfl⟩ := H
    go_enter Tryd.func49, Tryd.ntmps49
    go_wp2_with (first | ((with_reducible refine gate_callee (f := 40) rfl ?_); refine goesL_ (some 13) rfl rfl Tryd.func40 (by kernel_rfl) rfl #[.int .i64 a0, .int .i64 a1] rfl (by (try simp only [List.map_toArray, List.map_cons, List.map_nil]); first | done | rfl | (simp only [List.length_drop, List.length_take]; rfl)) ?_; (with_reducible refine (civil_Length.calls a0 a1 t246 t247 _ A4.out).mono ?_); rintro e w' ⟨rfl, ⟨nd, rfl⟩⟩; refine ⟨_, rfl, ?_⟩))
    go_ret2
    exact ⟨by first | rfl | (simp; done) | (simp [*]; done), by repeat (first | exact Drawn0.refl _ | apply Drawn0.step)⟩
end Go.Proofs.YteemhjamlkipcaaDoor.PT
end
section
namespace Go.Proofs.YteemhjamlkipcaaDoor.PT
open Go.RowKit Go.Proofs.YteemhjamlkipcaaDoorW.PrintWords Go.Proofs.YteemhjamlkipcaaDoorW.PrintLast Go.Proofs.YteemhjamlkipcaaDoorW.PrintMore
attribute [local go_sem] max2_int min2_int max_two min_two max_three min_three max_four min_four   -- for this text's walks alone
set_option linter.unusedVariables false
set_option linter.unusedSimpArgs false
def civil_Weekday.f (k : Nat) (a0 : Int) : Option (Int × Int) := (civil_Date.f k a0).bind fun bt249 => (if bt249.2.2.2 = 0 then (some (Int.tmod (wrap64 ((Int.tmod (wrap64 (a0 + 4)) 7) + 7)) 7, 0)) else (some (0, bt249.2.2.2)))
theorem civil_Weekday.mono : ∀ a0 k, LeO (civil_Weekday.f k a0) (civil_Weekday.f (k + 1) a0) := by
  intro a0 k
  unfold civil_Weekday.f
  repeat' first
      | (with_reducible exact civil_Date.mono _ _)
      | (with_reducible exact LeO.refl _)
      | (with_reducible exact LeO.none _)
      | (with_reducible refine LeO.ite ?_ ?_)
      | (with_reducible refine LeO.bind ?_ (fun _ => ?_))
      | exact civil_Date.mono _ _
      | exact LeO.none _
      | refine LeO.ite ?_ ?_
      | refine LeO.bind ?_ (fun _ => ?_)
set_option maxHeartbeats 8000000 in
set_option maxRecDepth 100000 in
theorem civil_Weekday.calls (k : Nat) (a0 : Int) (r1 : Int) (r2 : Int) (w : World) (h : civil_Weekday.f k a0 = some (r1, r2)) :
    Calls Tryd.prog 50 #[.int .i64 a0] w fun e w' => e = .returned (.tuple #[.int .i64 r1, .int .i64 r2]) ∧ Below w.heap.size w w' := by
  have HB := Aside0.mk (Below.refl w.heap.size w)
  have H : ((civil_Date.f k a0).bind fun bt249 => (if bt249.2.2.2 = 0 then (some (Int.tmod (wrap64 ((Int.tmod (wrap64 (a0 + 4)) 7) + 7)) 7, 0)) else (some (0, bt249.2.2.2)))) = some (r1, r2) := h
  clear h
  replace H := Option.bind_eq_some_iff.mp H
  obtain ⟨⟨t249, t250, t251, t252⟩, A20, H⟩ := H
  replace H : (if t252 = 0 then (some (Int.tmod (wrap64 ((Int.tmod (wrap64 (a0 + 4)) 7) + 7)) 7, 0)) else (some (0, t252))) = some (r1, r2) := H
  have A2 := Aside0.mk A20
  clear A20
  by_cases c3 : t252 = 0
  · rw [if_pos c3] at H
    have c3b0 : (t252 == 0) = true := beq_iff_eq.mpr c3
    have c3b1 : (t252 != 0) = false := bne_eq_false_iff_eq.mpr c3
    clear c3
    simp only [Option.some.injEq, Prod.mk.injEq] at H
    obtain ⟨rfl, rfl⟩ := H
    go_enter Tryd.func50, Tryd.ntmps50
    go_wp2_with (first | ((with_reducible refine gate_callee (f := 12) rfl ?_); refine goesL_ (some 10) rfl rfl Tryd.func12 (by kernel_rfl) rfl #[.int .i64 a0] rfl (by (try simp only [List.map_toArray, List.map_cons, List.map_nil]); first | done | rfl | (simp only [List.length_drop, List.length_take]; rfl)) ?_; (with_reducible refine (civil_Date.calls k a0 t249 t250 t251 t252 _ A2.out).mono ?_); rintro e w4 ⟨rfl, hb⟩; refine ⟨_, rfl, ?_⟩; have n0_ := Aside0.mk (below_step (by repeat (first | (with_reducible first | exact HB.out | apply below_alloc | apply pw_below_drewN | apply below_drew1) | exact HB.out)) hb); clear HB; have HB := n0_; clear n0_; (try clear hb); (try clear hb2); (try clear hk); (try clear hi)))
    go_ret2
    exact ⟨by first | rfl | (simp [errW_none, errW_some] <;> rfl) | (simp [*, errW_none, errW_some] <;> rfl), by repeat (first | (with_reducible first | exact HB.out | apply below_alloc | apply pw_below_drewN | apply below_drew1) | exact HB.out)⟩
  · rw [if_neg c3] at H
    have c3b0 : (t252 == 0) = false := beq_eq_false_iff_ne.mpr c3
    have c3b1 : (t252 != 0) = true := bne_iff_ne.mpr c3
    simp only [Option.some.injEq, Prod.mk.injEq] at H
    obtain ⟨rfl, rfl⟩ := H
    go_enter Tryd.func50, Tryd.ntmps50
    go_wp2_with (first | ((with_reducible refine gate_callee (f := 12) rfl ?_); refine goesL_ (some 10) rfl rfl Tryd.func12 (by kernel_rfl) rfl #[.int .i64 a0] rfl (by (try simp only [List.map_toArray, List.map_cons, List.map_nil]); first | done | rfl | (simp only [List.length_drop, List.length_take]; rfl)) ?_; (with_reducible refine (civil_Date.calls k a0 t249 t250 t251 t252 _ A2.out).mono ?_); rintro e w5 ⟨rfl, hb⟩; refine ⟨_, rfl, ?_⟩; have n0_ := Aside0.mk (below_step (by repeat (first | (with_reducible first | exact HB.out | apply below_alloc | apply pw_below_drewN | apply below_drew1) | exact HB.out)) hb); clear HB; have HB := n0_; clear n0_; (try clear hb); (try clear hb2); (try clear hk); (try clear hi)))
    go_ret2
    exact ⟨by first | rfl | (simp [errW_none, errW_some] <;> rfl) | (simp [*, errW_none, errW_some] <;> rfl), by repeat (first | (with_reducible first | exact HB.out | apply below_alloc | apply pw_below_drewN | apply below_drew1) | exact HB.out)⟩
end Go.Proofs.YteemhjamlkipcaaDoor.PT
end
section
namespace Go.Proofs.YteemhjamlkipcaaDoor.PT
open Go.RowKit Go.Proofs.YteemhjamlkipcaaDoorW.PrintWords Go.Proofs.YteemhjamlkipcaaDoorW.PrintLast Go.Proofs.YteemhjamlkipcaaDoorW.PrintMore
attribute [local go_sem] max2_int min2_int max_two min_two max_three min_three max_four min_four   -- for this text's walks alone
set_option linter.unusedVariables false
set_option linter.unusedSimpArgs false
mutual
def day_Of.j0 : Nat → Int → Int → Int → Int → Int → Option (Int × Int)
  | 0, _, _, _, _, _ => none
  | k + 1, x13, x14, x254000, x254001, x254002 => day_Of.l0 k x13 x14 x254000 x254001 x254002
def day_Of.l0 : Nat → Int → Int → Int → Int → Int → Option (Int × Int)
  | 0, _, _, _, _, _ => none
  | k + 1, x13, x14, x254000, x254001, x254002 => if x14 = 0 then (some (x13, 0)) else ((civil_Weekday.f k x13).bind fun bt259 => (if bt259.2 = 0 then (if bt259.1 = x254001 then (some (x13, 0)) else (day_Of.l0 k (wrap64 (x13 + x14)) x14 x254000 x254001 x254002)) else (some (0, bt259.2))))
end
def day_Of.f (k : Nat) (a0 : Int) (a1 : Int) (a2_0 : Int) (a2_1 : Int) (a2_2 : Int) : Option (Int × Int) := (day_Check.f k a2_0 a2_1 a2_2).bind fun t254 => (if t254 = 0 then ((civil_Length.f a0 a1).bind fun bt255 => (if bt255.2 = 0 then (if a2_2 > bt255.1 then (some (0, 6)) else ((civil_Days.f a0 a1 1).bind fun bt257 => (if a2_0 = 2 then (day_Of.j0 k (wrap64 ((wrap64 (bt257.1 + bt255.1)) - 1)) (-1) a2_0 a2_1 a2_2) else (if a2_0 = 4 then (day_Of.j0 k (wrap64 ((wrap64 (bt257.1 + a2_2)) - 1)) (-1) a2_0 a2_1 a2_2) else (if a2_0 = 3 then (day_Of.j0 k (wrap64 ((wrap64 (bt257.1 + a2_2)) - 1)) 1 a2_0 a2_1 a2_2) else (day_Of.j0 k (wrap64 ((wrap64 (bt257.1 + a2_2)) - 1)) 0 a2_0 a2_1 a2_2)))))) else (some (0, bt255.2)))) else (some (0, t254)))
theorem day_Of.mono_l : ∀ k, (∀ y0 y1 y2 y3 y4, LeO (day_Of.j0 k y0 y1 y2 y3 y4) (day_Of.j0 (k + 1) y0 y1 y2 y3 y4)) ∧ (∀ y0 y1 y2 y3 y4, LeO (day_Of.l0 k y0 y1 y2 y3 y4) (day_Of.l0 (k + 1) y0 y1 y2 y3 y4))
  | 0 => ⟨fun _ _ _ _ _ r h => by simp [day_Of.j0] at h, fun _ _ _ _ _ r h => by simp [day_Of.l0] at h⟩
  | k + 1 => by
    obtain ⟨ih0, ih1⟩ := day_Of.mono_l k
    refine ⟨?_, ?_⟩
    · intro y0 y1 y2 y3 y4
      unfold day_Of.j0
      repeat' first
      | (with_reducible exact ih0 _ _ _ _ _)
      | (with_reducible exact ih1 _ _ _ _ _)
      | (with_reducible exact civil_Weekday.mono _ _)
      | (with_reducible exact day_Check.mono _ _ _ _)
      | (with_reducible exact LeO.refl _)
      | (with_reducible exact LeO.none _)
      | (with_reducible refine LeO.ite ?_ ?_)
      | (with_reducible refine LeO.bind ?_ (fun _ => ?_))
      | exact ih0 _ _ _ _ _
      | exact ih1 _ _ _ _ _
      | exact civil_Weekday.mono _ _
      | exact day_Check.mono _ _ _ _
      | exact LeO.none _
      | refine LeO.ite ?_ ?_
      | refine LeO.bind ?_ (fun _ => ?_)
    · intro y0 y1 y2 y3 y4
      unfold day_Of.l0
      repeat' first
      | (with_reducible exact ih0 _ _ _ _ _)
      | (with_reducible exact ih1 _ _ _ _ _)
      | (with_reducible exact civil_Weekday.mono _ _)
      | (with_reducible exact day_Check.mono _ _ _ _)
      | (with_reducible exact LeO.refl _)
      | (with_reducible exact LeO.none _)
      | (with_reducible refine LeO.ite ?_ ?_)
      | (with_reducible refine LeO.bind ?_ (fun _ => ?_))
      | exact ih0 _ _ _ _ _
      | exact ih1 _ _ _ _ _
      | exact civil_Weekday.mono _ _
      | exact day_Check.mono _ _ _ _
      | exact LeO.none _
      | refine LeO.ite ?_ ?_
      | refine LeO.bind ?_ (fun _ => ?_)
theorem day_Of.mono : ∀ a0 a1 a2 a3 a4 k, LeO (day_Of.f k a0 a1 a2 a3 a4) (day_Of.f (k + 1) a0 a1 a2 a3 a4) := by
  intro a0 a1 a2 a3 a4 k
  obtain ⟨ih0, ih1⟩ := day_Of.mono_l k
  unfold day_Of.f
  repeat' first
      | (with_reducible exact ih0 _ _ _ _ _)
      | (with_reducible exact ih1 _ _ _ _ _)
      | (with_reducible exact civil_Weekday.mono _ _)
      | (with_reducible exact day_Check.mono _ _ _ _)
      | (with_reducible exact LeO.refl _)
      | (with_reducible exact LeO.none _)
      | (with_reducible refine LeO.ite ?_ ?_)
      | (with_reducible refine LeO.bind ?_ (fun _ => ?_))
      | exact ih0 _ _ _ _ _
      | exact ih1 _ _ _ _ _
      | exact civil_Weekday.mono _ _
      | exact day_Check.mono _ _ _ _
      | exact LeO.none _
      | refine LeO.ite ?_ ?_
      | refine LeO.bind ?_ (fun _ => ?_)
set_option maxHeartbeats 8000000 in
set_option maxRecDepth 100000 in
theorem day_Of.calls (k : Nat) (a0 : Int) (a1 : Int) (a2_0 : Int) (a2_1 : Int) (a2_2 : Int) (r1 : Int) (r2 : Int) (w : World) (h : day_Of.f k a0 a1 a2_0 a2_1 a2_2 = some (r1, r2)) :
    Calls Tryd.prog 26 #[.int .i64 a0, .int .i64 a1, .agg #[.int .i64 a2_0, .int .i64 a2_1, .int .i64 a2_2]] w fun e w' => e = .returned (.tuple #[.int .i64 r1, .int .i64 r2]) ∧ Below w.heap.size w w' := by
  have hu57 := Tryd.underlying57
  have HB := Aside0.mk (Below.refl w.heap.size w)
  have H : ((day_Check.f k a2_0 a2_1 a2_2).bind fun t254 => (if t254 = 0 then ((civil_Length.f a0 a1).bind fun bt255 => (if bt255.2 = 0 then (if a2_2 > bt255.1 then (some (0, 6)) else ((civil_Days.f a0 a1 1).bind fun bt257 => (if a2_0 = 2 then (day_Of.j0 k (wrap64 ((wrap64 (bt257.1 + bt255.1)) - 1)) (-1) a2_0 a2_1 a2_2) else (if a2_0 = 4 then (day_Of.j0 k (wrap64 ((wrap64 (bt257.1 + a2_2)) - 1)) (-1) a2_0 a2_1 a2_2) else (if a2_0 = 3 then (day_Of.j0 k (wrap64 ((wrap64 (bt257.1 + a2_2)) - 1)) 1 a2_0 a2_1 a2_2) else (day_Of.j0 k (wrap64 ((wrap64 (bt257.1 + a2_2)) - 1)) 0 a2_0 a2_1 a2_2)))))) else (some (0, bt255.2)))) else (some (0, t254)))) = some (r1, r2) := h
  clear h
  replace H := Option.bind_eq_some_iff.mp H
  obtain ⟨t254, A40, H⟩ := H
  replace H : (if t254 = 0 then ((civil_Length.f a0 a1).bind fun bt255 => (if bt255.2 = 0 then (if a2_2 > bt255.1 then (some (0, 6)) else ((civil_Days.f a0 a1 1).bind fun bt257 => (if a2_0 = 2 then (day_Of.j0 k (wrap64 ((wrap64 (bt257.1 + bt255.1)) - 1)) (-1) a2_0 a2_1 a2_2) else (if a2_0 = 4 then (day_Of.j0 k (wrap64 ((wrap64 (bt257.1 + a2_2)) - 1)) (-1) a2_0 a2_1 a2_2) else (if a2_0 = 3 then (day_Of.j0 k (wrap64 ((wrap64 (bt257.1 + a2_2)) - 1)) 1 a2_0 a2_1 a2_2) else (day_Of.j0 k (wrap64 ((wrap64 (bt257.1 + a2_2)) - 1)) 0 a2_0 a2_1 a2_2)))))) else (some (0, bt255.2)))) else (some (0, t254))) = some (r1, r2) := H
  have A4 := Aside0.mk A40
  clear A40
  by_cases c5 : t254 = 0
  · rw [if_pos c5] at H
    have c5b0 : (t254 == 0) = true := beq_iff_eq.mpr c5
    have c5b1 : (t254 != 0) = false := bne_eq_false_iff_eq.mpr c5
    clear c5
    replace H := Option.bind_eq_some_iff.mp H
    obtain ⟨⟨t255, t256⟩, A60, H⟩ := H
    replace H : (if t256 = 0 then (if a2_2 > t255 then (some (0, 6)) else ((civil_Days.f a0 a1 1).bind fun bt257 => (if a2_0 = 2 then (day_Of.j0 k (wrap64 ((wrap64 (bt257.1 + t255)) - 1)) (-1) a2_0 a2_1 a2_2) else (if a2_0 = 4 then (day_Of.j0 k (wrap64 ((wrap64 (bt257.1 + a2_2)) - 1)) (-1) a2_0 a2_1 a2_2) else (if a2_0 = 3 then (day_Of.j0 k (wrap64 ((wrap64 (bt257.1 + a2_2)) - 1)) 1 a2_0 a2_1 a2_2) else (day_Of.j0 k (wrap64 ((wrap64 (bt257.1 + a2_2)) - 1)) 0 a2_0 a2_1 a2_2)))))) else (some (0, t256))) = some (r1, r2) := H
    have A6 := Aside0.mk A60
    clear A60
    by_cases c7 : t256 = 0
    · rw [if_pos c7] at H
      have c7b0 : (t256 == 0) = true := beq_iff_eq.mpr c7
      have c7b1 : (t256 != 0) = false := bne_eq_false_iff_eq.mpr c7
      clear c7
      by_cases c8 : a2_2 > t255
      · rw [if_pos c8] at H
        have c8b0 : decide (t255 < a2_2) = true := decide_eq_true c8
        clear c8
        simp only [Option.some.injEq, Prod.mk.injEq] at H
        obtain ⟨rfl, rfl⟩ := H
        go_enter Tryd.func26, Tryd.ntmps26
        go_wp2_with (first | ((with_reducible refine gate_dst (N := 5) rfl ?_); refine box_event ?hg (N := 5) ?hd (cs := #[.int .i64 a2_0, .int .i64 a2_1, .int .i64 a2_2]) (t := 57) ?hr ?_; (case hd => rfl); (case hg => rfl); (case hr => first | (go_simp; done) | (go_simp; rfl)); intro gb253 hg w9 hbox hb; have n0_ := Aside0.mk (below_step (by repeat (first | (with_reducible first | exact HB.out | apply below_alloc | apply pw_below_drewN | apply below_drew1) | exact HB.out)) hb); have n1_ := Aside0.mk (hbox); have n2_ := Aside0.mk ((by rw [hg]; exact (below_size (by repeat (first | (with_reducible first | exact HB.out | apply below_alloc | apply pw_below_drewN | apply below_drew1) | exact HB.out))) : w.heap.size ≤ gb253)); have n3_ := Aside0.mk ((by rw [hg]; exact (below_size (by repeat (first | (with_reducible first | exact HB.out | apply below_alloc | apply pw_below_drewN | apply below_drew1) | exact HB.out))) : w.heap.size ≤ gb253)); clear HB; have HB := n0_; have BK253 := n1_; have GW253 := n2_; have GE253 := n3_; clear n0_ n1_ n2_ n3_; clear hb hbox hg; have hcz10_0 : w9.cell? ⟨gb253, 0, none⟩ = some (.int .i64 a2_0) := (blk_cell BK253.out 0).trans rfl; have hcz10_1 : w9.cell? ⟨gb253, 1, none⟩ = some (.int .i64 a2_1) := (blk_cell BK253.out 1).trans rfl; have hcz10_2 : w9.cell? ⟨gb253, 2, none⟩ = some (.int .i64 a2_2) := (blk_cell BK253.out 2).trans rfl; have hfz10_0 := blk_frozen BK253.out 0; have hfz10_1 := blk_frozen BK253.out 1; have hfz10_2 := blk_frozen BK253.out 2) | ((with_reducible refine gate_callee (f := 39) rfl ?_); refine goesL_ (some 18) rfl rfl Tryd.func39 (by kernel_rfl) rfl #[.agg #[.int .i64 a2_0, .int .i64 a2_1, .int .i64 a2_2]] rfl (by (try simp only [List.map_toArray, List.map_cons, List.map_nil]); first | done | rfl | (simp only [List.length_drop, List.length_take]; rfl)) ?_; (with_reducible refine (day_Check.calls k a2_0 a2_1 a2_2 t254 _ A4.out).mono ?_); rintro e w11 ⟨rfl, hb⟩; refine ⟨_, rfl, ?_⟩; have n0_ := Aside0.mk (blk_below (g := gb253) (o := .cells #[.int .i64 a2_0, .int .i64 a2_1, .int .i64 a2_2] 57 (0, 0)) (by (with_reducible repeat (first | refine blk_drewN ?_ _ | refine blk_drew ?_ | refine blk_alloc ?_ _)); exact BK253.out) hb); have n1_ := Aside0.mk (below_step (by repeat (first | (with_reducible first | exact HB.out | apply below_alloc | apply pw_below_drewN | apply below_drew1 | refine below_set ?_ GE253.out) | exact HB.out)) hb); clear BK253; clear HB; have BK253 := n0_; have HB := n1_; clear n0_ n1_; (try clear hb); (try clear hb2); (try clear hk); (try clear hi)) | ((with_reducible refine gate_callee (f := 40) rfl ?_); refine goesL_ (some 25) rfl rfl Tryd.func40 (by kernel_rfl) rfl #[.int .i64 a0, .int .i64 a1] rfl (by (try simp only [List.map_toArray, List.map_cons, List.map_nil]); first | done | rfl | (simp only [List.length_drop, List.length_take]; rfl)) ?_; (with_reducible refine (civil_Length.calls a0 a1 t255 t256 _ A6.out).mono ?_); rintro e w' ⟨rfl, ⟨nd, rfl⟩⟩; refine ⟨_, rfl, ?_⟩; have hcz12_0 : w11.cell? ⟨gb253, 0, none⟩ = some (.int .i64 a2_0) := (blk_cell BK253.out 0).trans rfl; have hcz12_1 : w11.cell? ⟨gb253, 1, none⟩ = some (.int .i64 a2_1) := (blk_cell BK253.out 1).trans rfl; have hcz12_2 : w11.cell? ⟨gb253, 2, none⟩ = some (.int .i64 a2_2) := (blk_cell BK253.out 2).trans rfl; have hfz12_0 := blk_frozen BK253.out 0; have hfz12_1 := blk_frozen BK253.out 1; have hfz12_2 := blk_frozen BK253.out 2))
        go_ret2
        exact ⟨by first | rfl | (simp [errW_none, errW_some] <;> rfl) | (simp [*, errW_none, errW_some] <;> rfl), by repeat (first | (with_reducible first | exact HB.out | apply below_alloc | apply pw_below_drewN | apply below_drew1 | refine below_set ?_ GE253.out) | exact HB.out)⟩
      · rw [if_neg c8] at H
        have c8b0 : decide (t255 < a2_2) = false := decide_eq_false c8
        clear c8
        replace H := Option.bind_eq_some_iff.mp H
        obtain ⟨⟨t257, t258⟩, A130, H⟩ := H
        replace H : (if a2_0 = 2 then (day_Of.j0 k (wrap64 ((wrap64 (t257 + t255)) - 1)) (-1) a2_0 a2_1 a2_2) else (if a2_0 = 4 then (day_Of.j0 k (wrap64 ((wrap64 (t257 + a2_2)) - 1)) (-1) a2_0 a2_1 a2_2) else (if a2_0 = 3 then (day_Of.j0 k (wrap64 ((wrap64 (t257 + a2_2)) - 1)) 1 a2_0 a2_1 a2_2) else (day_Of.j0 k (wrap64 ((wrap64 (t257 + a2_2)) - 1)) 0 a2_0 a2_1 a2_2)))) = some (r1, r2) := H
        have A13 := Aside0.mk A130
        clear A130
        have HC14 := Aside0.mk H
        clear H
        go_enter Tryd.func26, Tryd.ntmps26
        go_upto_block 0 with (first | ((with_reducible refine gate_dst (N := 5) rfl ?_); refine box_event ?hg (N := 5) ?hd (cs := #[.int .i64 a2_0, .int .i64 a2_1, .int .i64 a2_2]) (t := 57) ?hr ?_; (case hd => rfl); (case hg => rfl); (case hr => first | (go_simp; done) | (go_simp; rfl)); intro gb253 hg w15 hbox hb; have n0_ := Aside0.mk (below_step (by repeat (first | (with_reducible first | exact HB.out | apply below_alloc | apply pw_below_drewN | apply below_drew1) | exact HB.out)) hb); have n1_ := Aside0.mk (hbox); have n2_ := Aside0.mk ((by rw [hg]; exact (below_size (by repeat (first | (with_reducible first | exact HB.out | apply below_alloc | apply pw_below_drewN | apply below_drew1) | exact HB.out))) : w.heap.size ≤ gb253)); have n3_ := Aside0.mk ((by rw [hg]; exact (below_size (by repeat (first | (with_reducible first | exact HB.out | apply below_alloc | apply pw_below_drewN | apply below_drew1) | exact HB.out))) : w.heap.size ≤ gb253)); clear HB; have HB := n0_; have BK253 := n1_; have GW253 := n2_; have GE253 := n3_; clear n0_ n1_ n2_ n3_; clear hb hbox hg; have hcz16_0 : w15.cell? ⟨gb253, 0, none⟩ = some (.int .i64 a2_0) := (blk_cell BK253.out 0).trans rfl; have hcz16_1 : w15.cell? ⟨gb253, 1, none⟩ = some (.int .i64 a2_1) := (blk_cell BK253.out 1).trans rfl; have hcz16_2 : w15.cell? ⟨gb253, 2, none⟩ = some (.int .i64 a2_2) := (blk_cell BK253.out 2).trans rfl; have hfz16_0 := blk_frozen BK253.out 0; have hfz16_1 := blk_frozen BK253.out 1; have hfz16_2 := blk_frozen BK253.out 2) | ((with_reducible refine gate_callee (f := 39) rfl ?_); refine goesL_ (some 18) rfl rfl Tryd.func39 (by kernel_rfl) rfl #[.agg #[.int .i64 a2_0, .int .i64 a2_1, .int .i64 a2_2]] rfl (by (try simp only [List.map_toArray, List.map_cons, List.map_nil]); first | done | rfl | (simp only [List.length_drop, List.length_take]; rfl)) ?_; (with_reducible refine (day_Check.calls k a2_0 a2_1 a2_2 t254 _ A4.out).mono ?_); rintro e w17 ⟨rfl, hb⟩; refine ⟨_, rfl, ?_⟩; have n0_ := Aside0.mk (blk_below (g := gb253) (o := .cells #[.int .i64 a2_0, .int .i64 a2_1, .int .i64 a2_2] 57 (0, 0)) (by (with_reducible repeat (first | refine blk_drewN ?_ _ | refine blk_drew ?_ | refine blk_alloc ?_ _)); exact BK253.out) hb); have n1_ := Aside0.mk (below_step (by repeat (first | (with_reducible first | exact HB.out | apply below_alloc | apply pw_below_drewN | apply below_drew1 | refine below_set ?_ GE253.out) | exact HB.out)) hb); clear BK253; clear HB; have BK253 := n0_; have HB := n1_; clear n0_ n1_; (try clear hb); (try clear hb2); (try clear hk); (try clear hi)) | ((with_reducible refine gate_callee (f := 40) rfl ?_); refine goesL_ (some 25) rfl rfl Tryd.func40 (by kernel_rfl) rfl #[.int .i64 a0, .int .i64 a1] rfl (by (try simp only [List.map_toArray, List.map_cons, List.map_nil]); first | done | rfl | (simp only [List.length_drop, List.length_take]; rfl)) ?_; (with_reducible refine (civil_Length.calls a0 a1 t255 t256 _ A6.out).mono ?_); rintro e w' ⟨rfl, ⟨nd, rfl⟩⟩; refine ⟨_, rfl, ?_⟩; have hcz18_0 : w17.cell? ⟨gb253, 0, none⟩ = some (.int .i64 a2_0) := (blk_cell BK253.out 0).trans rfl; have hcz18_1 : w17.cell? ⟨gb253, 1, none⟩ = some (.int .i64 a2_1) := (blk_cell BK253.out 1).trans rfl; have hcz18_2 : w17.cell? ⟨gb253, 2, none⟩ = some (.int .i64 a2_2) := (blk_cell BK253.out 2).trans rfl; have hfz18_0 := blk_frozen BK253.out 0; have hfz18_1 := blk_frozen BK253.out 1; have hfz18_2 := blk_frozen BK253.out 2) | ((with_reducible refine gate_callee (f := 49) rfl ?_); refine goesL_ (some 38) rfl rfl Tryd.func49 (by kernel_rfl) rfl #[.int .i64 a0, .int .i64 a1, .int .i64 1] rfl (by (try simp only [List.map_toArray, List.map_cons, List.map_nil]); first | done | rfl | (simp only [List.length_drop, List.length_take]; rfl)) ?_; (with_reducible refine (civil_Days.calls a0 a1 1 t257 t258 _ A13.out).mono ?_); rintro e w' ⟨rfl, ⟨nd, rfl⟩⟩; refine ⟨_, rfl, ?_⟩))
        (try simp only [Act.put, List.setIfInBounds_toArray, List.set_cons_zero, List.set_cons_succ])
        go_cut [13, 14] (fun v13 v14 wc => ∃ (kq : Nat) (x13_13 : Int) (x14_13 : Int), v13 = .int .i64 x13_13 ∧ v14 = .int .i64 x14_13 ∧ Aside0 (day_Of.j0 kq x13_13 x14_13 a2_0 a2_1 a2_2 = some (r1, r2)) ∧ Aside0 (kq ≤ k) ∧ Aside0 (wc.heap[gb253]? = some (.cells #[.int .i64 a2_0, .int .i64 a2_1, .int .i64 a2_2] 57 (0, 0))) ∧ Aside0 (Below w.heap.size w wc))
        case first =>
          have H := HC14.out
          clear HC14
          by_cases c19 : a2_0 = 2
          · rw [if_pos c19] at H
            have c19b0 : (a2_0 == 2) = true := beq_iff_eq.mpr c19
            have c19b1 : (a2_0 != 2) = false := bne_eq_false_iff_eq.mpr c19
            clear c19
            (first | rw [c19b0] | (simp only [i64_w, i32_w]; rw [c19b0]) | skip)
            have H' := Aside0.mk H
            clear H
            go_wp2
            go_meet
            case rel => exact ⟨_, (wrap64 ((wrap64 (t257 + t255)) - 1)), ((-1)), (by first | rfl | (simp; done) | (simp [*]; done)), (by first | rfl | (simp; done) | (simp [*]; done)), H', ⟨by first | omega | exact Nat.le_refl _⟩, ⟨by (with_reducible repeat (first | refine blk_drewN ?_ _ | refine blk_drew ?_ | refine blk_alloc ?_ _)); exact BK253.out⟩, ⟨by repeat (first | (with_reducible first | exact HB.out | apply below_alloc | apply pw_below_drewN | apply below_drew1 | refine below_set ?_ GE253.out) | exact HB.out)⟩⟩
          · rw [if_neg c19] at H
            have c19b0 : (a2_0 == 2) = false := beq_eq_false_iff_ne.mpr c19
            have c19b1 : (a2_0 != 2) = true := bne_iff_ne.mpr c19
            (first | rw [c19b0] | (simp only [i64_w, i32_w]; rw [c19b0]) | skip)
            by_cases c20 : a2_0 = 4
            · rw [if_pos c20] at H
              have c20b0 : (a2_0 == 4) = true := beq_iff_eq.mpr c20
              have c20b1 : (a2_0 != 4) = false := bne_eq_false_iff_eq.mpr c20
              clear c20
              have H' := Aside0.mk H
              clear H
              go_wp2
              go_meet
              case rel => exact ⟨_, (wrap64 ((wrap64 (t257 + a2_2)) - 1)), ((-1)), (by first | rfl | (simp; done) | (simp [*]; done)), (by first | rfl | (simp; done) | (simp [*]; done)), H', ⟨by first | omega | exact Nat.le_refl _⟩, ⟨by (with_reducible repeat (first | refine blk_drewN ?_ _ | refine blk_drew ?_ | refine blk_alloc ?_ _)); exact BK253.out⟩, ⟨by repeat (first | (with_reducible first | exact HB.out | apply below_alloc | apply pw_below_drewN | apply below_drew1 | refine below_set ?_ GE253.out) | exact HB.out)⟩⟩
            · rw [if_neg c20] at H
              have c20b0 : (a2_0 == 4) = false := beq_eq_false_iff_ne.mpr c20
              have c20b1 : (a2_0 != 4) = true := bne_iff_ne.mpr c20
              by_cases c21 : a2_0 = 3
              · rw [if_pos c21] at H
                have c21b0 : (a2_0 == 3) = true := beq_iff_eq.mpr c21
                have c21b1 : (a2_0 != 3) = false := bne_eq_false_iff_eq.mpr c21
                clear c21
                have H' := Aside0.mk H
                clear H
                go_wp2
                go_meet
                case rel => exact ⟨_, (wrap64 ((wrap64 (t257 + a2_2)) - 1)), (1), (by first | rfl | (simp; done) | (simp [*]; done)), (by first | rfl | (simp; done) | (simp [*]; done)), H', ⟨by first | omega | exact Nat.le_refl _⟩, ⟨by (with_reducible repeat (first | refine blk_drewN ?_ _ | refine blk_drew ?_ | refine blk_alloc ?_ _)); exact BK253.out⟩, ⟨by repeat (first | (with_reducible first | exact HB.out | apply below_alloc | apply pw_below_drewN | apply below_drew1 | refine below_set ?_ GE253.out) | exact HB.out)⟩⟩
              · rw [if_neg c21] at H
                have c21b0 : (a2_0 == 3) = false := beq_eq_false_iff_ne.mpr c21
                have c21b1 : (a2_0 != 3) = true := bne_iff_ne.mpr c21
                have H' := Aside0.mk H
                clear H
                go_wp2
                go_meet
                case rel => exact ⟨_, (wrap64 ((wrap64 (t257 + a2_2)) - 1)), (0), (by first | rfl | (simp; done) | (simp [*]; done)), (by first | rfl | (simp; done) | (simp [*]; done)), H', ⟨by first | omega | exact Nat.le_refl _⟩, ⟨by (with_reducible repeat (first | refine blk_drewN ?_ _ | refine blk_drew ?_ | refine blk_alloc ?_ _)); exact BK253.out⟩, ⟨by repeat (first | (with_reducible first | exact HB.out | apply below_alloc | apply pw_below_drewN | apply below_drew1 | refine below_set ?_ GE253.out) | exact HB.out)⟩⟩
        case rest =>
          clear HC14
          try clear c1
          try clear c2
          try clear p2
          try clear c3
          try clear c4
          try clear c5
          try clear c5b0
          try clear c5b1
          try clear p6
          try clear c7
          try clear c7b0
          try clear c7b1
          try clear c8
          try clear c8b0
          try clear c19
          try clear c19b0
          try clear c19b1
          try clear c20
          try clear c20b0
          try clear c20b1
          try clear c21
          try clear c21b0
          try clear c21b1
          try clear hcz10_0
          try clear hcz10_1
          try clear hcz10_2
          try clear hcz12_0
          try clear hcz12_1
          try clear hcz12_2
          try clear hcz16_0
          try clear hcz16_1
          try clear hcz16_2
          try clear hcz18_0
          try clear hcz18_1
          try clear hcz18_2
          try clear hfz10_0
          try clear hfz10_1
          try clear hfz10_2
          try clear hfz12_0
          try clear hfz12_1
          try clear hfz12_2
          try clear hfz16_0
          try clear hfz16_1
          try clear hfz16_2
          try clear hfz18_0
          try clear hfz18_1
          try clear hfz18_2
          obtain ⟨kq, x13_13, x14_13, rfl, rfl, HA, HJ13, BK253, HB⟩ := hcut
          cases kq with
          | zero => exact absurd HA.out (by simp [day_Of.j0])
          | succ kj13 =>
            have H := HA.out
            clear HA
            simp only [day_Of.j0] at H
            have H' := Aside0.mk H
            clear H
            go_wp2
            go_loopg [13] kj13 (fun kq v13 w' => ∃ (x13_2 : Int), v13 = .int .i64 x13_2 ∧ Aside0 (day_Of.l0 kq x13_2 x14_13 a2_0 a2_1 a2_2 = some (r1, r2)) ∧ Aside0 (kq ≤ kj13) ∧ Aside0 (w'.heap[gb253]? = some (.cells #[.int .i64 a2_0, .int .i64 a2_1, .int .i64 a2_2] 57 (0, 0))) ∧ Aside0 (Below w.heap.size w w'))
            case atStart => exact ⟨(x13_13), (by first | rfl | (simp; done) | (simp [*]; done)), H', ⟨Nat.le_refl _⟩, ⟨by (with_reducible repeat (first | refine blk_drewN ?_ _ | refine blk_drew ?_ | refine blk_alloc ?_ _)); exact BK253.out⟩, ⟨by repeat (first | (with_reducible first | exact HB.out | apply below_alloc | apply pw_below_drewN | apply below_drew1 | refine below_set ?_ GE253.out) | exact HB.out)⟩⟩
            case round =>
              clear H'
              try clear c1
              try clear c2
              try clear p2
              try clear c3
              try clear c4
              try clear c5
              try clear c5b0
              try clear c5b1
              try clear p6
              try clear c7
              try clear c7b0
              try clear c7b1
              try clear c8
              try clear c8b0
              try clear c19
              try clear c19b0
              try clear c19b1
              try clear c20
              try clear c20b0
              try clear c20b1
              try clear c21
              try clear c21b0
              try clear c21b1
              try clear hcz10_0
              try clear hcz10_1
              try clear hcz10_2
              try clear hcz12_0
              try clear hcz12_1
              try clear hcz12_2
              try clear hcz16_0
              try clear hcz16_1
              try clear hcz16_2
              try clear hcz18_0
              try clear hcz18_1
              try clear hcz18_2
              try clear hfz10_0
              try clear hfz10_1
              try clear hfz10_2
              try clear hfz12_0
              try clear hfz12_1
              try clear hfz12_2
              try clear hfz16_0
              try clear hfz16_1
              try clear hfz16_2
              try clear hfz18_0
              try clear hfz18_1
              try clear hfz18_2
              try clear p2
              try clear p6
              obtain ⟨x13_2, rfl, HA, HK2, BK253, HB⟩ := hrel
              cases gk with
              | zero => exact absurd HA.out (by simp [day_Of.l0])
              | succ k2 =>
                have H := HA.out
                clear HA
                simp only [day_Of.l0] at H
                by_cases c22 : x14_13 = 0
                · rw [if_pos c22] at H
                  have c22b0 : (x14_13 == 0) = true := beq_iff_eq.mpr c22
                  have c22b1 : (x14_13 != 0) = false := bne_eq_false_iff_eq.mpr c22
                  clear c22
                  simp only [Option.some.injEq, Prod.mk.injEq] at H
                  obtain ⟨rfl, rfl⟩ := H
                  go_wp2
                  go_ret2
                  exact ⟨by first | rfl | (simp [errW_none, errW_some] <;> rfl) | (simp [*, errW_none, errW_some] <;> rfl), by repeat (first | (with_reducible first | exact HB.out | apply below_alloc | apply pw_below_drewN | apply below_drew1 | refine below_set ?_ GE253.out) | exact HB.out)⟩
                · rw [if_neg c22] at H
                  have c22b0 : (x14_13 == 0) = false := beq_eq_false_iff_ne.mpr c22
                  have c22b1 : (x14_13 != 0) = true := bne_iff_ne.mpr c22
                  replace H := Option.bind_eq_some_iff.mp H
                  obtain ⟨⟨t259, t260⟩, A230, H⟩ := H
                  replace H : (if t260 = 0 then (if t259 = a2_1 then (some (x13_2, 0)) else (day_Of.l0 k2 (wrap64 (x13_2 + x14_13)) x14_13 a2_0 a2_1 a2_2)) else (some (0, t260))) = some (r1, r2) := H
                  have A23 := Aside0.mk A230
                  clear A230
                  by_cases c24 : t260 = 0
                  · rw [if_pos c24] at H
                    have c24b0 : (t260 == 0) = true := beq_iff_eq.mpr c24
                    have c24b1 : (t260 != 0) = false := bne_eq_false_iff_eq.mpr c24
                    clear c24
                    by_cases c25 : t259 = a2_1
                    · rw [if_pos c25] at H
                      have c25b0 : (t259 == a2_1) = true := beq_iff_eq.mpr c25
                      have c25b1 : (t259 != a2_1) = false := bne_eq_false_iff_eq.mpr c25
                      clear c25
                      simp only [Option.some.injEq, Prod.mk.injEq] at H
                      obtain ⟨rfl, rfl⟩ := H
                      go_wp2_with (first | ((with_reducible refine gate_callee (f := 50) rfl ?_); refine goesL_ (some 62) rfl rfl Tryd.func50 (by kernel_rfl) rfl #[.int .i64 x13_2] rfl (by (try simp only [List.map_toArray, List.map_cons, List.map_nil]); first | done | rfl | (simp only [List.length_drop, List.length_take]; rfl)) ?_; (with_reducible refine (civil_Weekday.calls k2 x13_2 t259 t260 _ A23.out).mono ?_); rintro e w26 ⟨rfl, hb⟩; refine ⟨_, rfl, ?_⟩; have n0_ := Aside0.mk (blk_below (g := gb253) (o := .cells #[.int .i64 a2_0, .int .i64 a2_1, .int .i64 a2_2] 57 (0, 0)) (by (with_reducible repeat (first | refine blk_drewN ?_ _ | refine blk_drew ?_ | refine blk_alloc ?_ _)); exact BK253.out) hb); have n1_ := Aside0.mk (below_step (by repeat (first | (with_reducible first | exact HB.out | apply below_alloc | apply pw_below_drewN | apply below_drew1 | refine below_set ?_ GE253.out) | exact HB.out)) hb); clear BK253; clear HB; have BK253 := n0_; have HB := n1_; clear n0_ n1_; (try clear hb); (try clear hb2); (try clear hk); (try clear hi); have hcz27_0 : w26.cell? ⟨gb253, 0, none⟩ = some (.int .i64 a2_0) := (blk_cell BK253.out 0).trans rfl; have hcz27_1 : w26.cell? ⟨gb253, 1, none⟩ = some (.int .i64 a2_1) := (blk_cell BK253.out 1).trans rfl; have hcz27_2 : w26.cell? ⟨gb253, 2, none⟩ = some (.int .i64 a2_2) := (blk_cell BK253.out 2).trans rfl; have hfz27_0 := blk_frozen BK253.out 0; have hfz27_1 := blk_frozen BK253.out 1; have hfz27_2 := blk_frozen BK253.out 2))
                      go_ret2
                      exact ⟨by first | rfl | (simp [errW_none, errW_some] <;> rfl) | (simp [*, errW_none, errW_some] <;> rfl), by repeat (first | (with_reducible first | exact HB.out | apply below_alloc | apply pw_below_drewN | apply below_drew1 | refine below_set ?_ GE253.out) | exact HB.out)⟩
                    · rw [if_neg c25] at H
                      have c25b0 : (t259 == a2_1) = false := beq_eq_false_iff_ne.mpr c25
                      have c25b1 : (t259 != a2_1) = true := bne_iff_ne.mpr c25
                      have H' := Aside0.mk H
                      clear H
                      go_wp2_with (first | ((with_reducible refine gate_callee (f := 50) rfl ?_); refine goesL_ (some 62) rfl rfl Tryd.func50 (by kernel_rfl) rfl #[.int .i64 x13_2] rfl (by (try simp only [List.map_toArray, List.map_cons, List.map_nil]); first | done | rfl | (simp only [List.length_drop, List.length_take]; rfl)) ?_; (with_reducible refine (civil_Weekday.calls k2 x13_2 t259 t260 _ A23.out).mono ?_); rintro e w28 ⟨rfl, hb⟩; refine ⟨_, rfl, ?_⟩; have n0_ := Aside0.mk (blk_below (g := gb253) (o := .cells #[.int .i64 a2_0, .int .i64 a2_1, .int .i64 a2_2] 57 (0, 0)) (by (with_reducible repeat (first | refine blk_drewN ?_ _ | refine blk_drew ?_ | refine blk_alloc ?_ _)); exact BK253.out) hb); have n1_ := Aside0.mk (below_step (by repeat (first | (with_reducible first | exact HB.out | apply below_alloc | apply pw_below_drewN | apply below_drew1 | refine below_set ?_ GE253.out) | exact HB.out)) hb); clear BK253; clear HB; have BK253 := n0_; have HB := n1_; clear n0_ n1_; (try clear hb); (try clear hb2); (try clear hk); (try clear hi); have hcz29_0 : w28.cell? ⟨gb253, 0, none⟩ = some (.int .i64 a2_0) := (blk_cell BK253.out 0).trans rfl; have hcz29_1 : w28.cell? ⟨gb253, 1, none⟩ = some (.int .i64 a2_1) := (blk_cell BK253.out 1).trans rfl; have hcz29_2 : w28.cell? ⟨gb253, 2, none⟩ = some (.int .i64 a2_2) := (blk_cell BK253.out 2).trans rfl; have hfz29_0 := blk_frozen BK253.out 0; have hfz29_1 := blk_frozen BK253.out 1; have hfz29_2 := blk_frozen BK253.out 2))
                      go_roundg k2
                      case measure => have := HJ13.out; have := HK2.out; omega
                      case rel => exact ⟨(wrap64 (x13_2 + x14_13)), (by first | rfl | (simp; done) | (simp [*]; done)), H', ⟨by have := HJ13.out; have := HK2.out; omega⟩, ⟨by (with_reducible repeat (first | refine blk_drewN ?_ _ | refine blk_drew ?_ | refine blk_alloc ?_ _)); exact BK253.out⟩, ⟨by repeat (first | (with_reducible first | exact HB.out | apply below_alloc | apply pw_below_drewN | apply below_drew1 | refine below_set ?_ GE253.out) | exact HB.out)⟩⟩
                  · rw [if_neg c24] at H
                    have c24b0 : (t260 == 0) = false := beq_eq_false_iff_ne.mpr c24
                    have c24b1 : (t260 != 0) = true := bne_iff_ne.mpr c24
                    simp only [Option.some.injEq, Prod.mk.injEq] at H
                    obtain ⟨rfl, rfl⟩ := H
                    go_wp2_with (first | ((with_reducible refine gate_callee (f := 50) rfl ?_); refine goesL_ (some 62) rfl rfl Tryd.func50 (by kernel_rfl) rfl #[.int .i64 x13_2] rfl (by (try simp only [List.map_toArray, List.map_cons, List.map_nil]); first | done | rfl | (simp only [List.length_drop, List.length_take]; rfl)) ?_; (with_reducible refine (civil_Weekday.calls k2 x13_2 t259 t260 _ A23.out).mono ?_); rintro e w30 ⟨rfl, hb⟩; refine ⟨_, rfl, ?_⟩; have n0_ := Aside0.mk (blk_below (g := gb253) (o := .cells #[.int .i64 a2_0, .int .i64 a2_1, .int .i64 a2_2] 57 (0, 0)) (by (with_reducible repeat (first | refine blk_drewN ?_ _ | refine blk_drew ?_ | refine blk_alloc ?_ _)); exact BK253.out) hb); have n1_ := Aside0.mk (below_step (by repeat (first | (with_reducible first | exact HB.out | apply below_alloc | apply pw_below_drewN | apply below_drew1 | refine below_set ?_ GE253.out) | exact HB.out)) hb); clear BK253; clear HB; have BK253 := n0_; have HB := n1_; clear n0_ n1_; (try clear hb); (try clear hb2); (try clear hk); (try clear hi)))
                    go_ret2
                    exact ⟨by first | rfl | (simp [errW_none, errW_some] <;> rfl) | (simp [*, errW_none, errW_some] <;> rfl), by repeat (first | (with_reducible first | exact HB.out | apply below_alloc | apply pw_below_drewN | apply below_drew1 | refine below_set ?_ GE253.out) | exact HB.out)⟩
    · rw [if_neg c7] at H
      have c7b0 : (t256 == 0) = false := beq_eq_false_iff_ne.mpr c7
      have c7b1 : (t256 != 0) = true := bne_iff_ne.mpr c7
      simp only [Option.some.injEq, Prod.mk.injEq] at H
      obtain ⟨rfl, rfl⟩ := H
      go_enter Tryd.func26, Tryd.ntmps26
      go_wp2_with (first | ((with_reducible refine gate_dst (N := 5) rfl ?_); refine box_event ?hg (N := 5) ?hd (cs := #[.int .i64 a2_0, .int .i64 a2_1, .int .i64 a2_2]) (t := 57) ?hr ?_; (case hd => rfl); (case hg => rfl); (case hr => first | (go_simp; done) | (go_simp; rfl)); intro gb253 hg w31 hbox hb; have n0_ := Aside0.mk (below_step (by repeat (first | (with_reducible first | exact HB.out | apply below_alloc | apply pw_below_drewN | apply below_drew1) | exact HB.out)) hb); have n1_ := Aside0.mk (hbox); have n2_ := Aside0.mk ((by rw [hg]; exact (below_size (by repeat (first | (with_reducible first | exact HB.out | apply below_alloc | apply pw_below_drewN | apply below_drew1) | exact HB.out))) : w.heap.size ≤ gb253)); have n3_ := Aside0.mk ((by rw [hg]; exact (below_size (by repeat (first | (with_reducible first | exact HB.out | apply below_alloc | apply pw_below_drewN | apply below_drew1) | exact HB.out))) : w.heap.size ≤ gb253)); clear HB; have HB := n0_; have BK253 := n1_; have GW253 := n2_; have GE253 := n3_; clear n0_ n1_ n2_ n3_; clear hb hbox hg; have hcz32_0 : w31.cell? ⟨gb253, 0, none⟩ = some (.int .i64 a2_0) := (blk_cell BK253.out 0).trans rfl; have hcz32_1 : w31.cell? ⟨gb253, 1, none⟩ = some (.int .i64 a2_1) := (blk_cell BK253.out 1).trans rfl; have hcz32_2 : w31.cell? ⟨gb253, 2, none⟩ = some (.int .i64 a2_2) := (blk_cell BK253.out 2).trans rfl; have hfz32_0 := blk_frozen BK253.out 0; have hfz32_1 := blk_frozen BK253.out 1; have hfz32_2 := blk_frozen BK253.out 2) | ((with_reducible refine gate_callee (f := 39) rfl ?_); refine goesL_ (some 18) rfl rfl Tryd.func39 (by kernel_rfl) rfl #[.agg #[.int .i64 a2_0, .int .i64 a2_1, .int .i64 a2_2]] rfl (by (try simp only [List.map_toArray, List.map_cons, List.map_nil]); first | done | rfl | (simp only [List.length_drop, List.length_take]; rfl)) ?_; (with_reducible refine (day_Check.calls k a2_0 a2_1 a2_2 t254 _ A4.out).mono ?_); rintro e w33 ⟨rfl, hb⟩; refine ⟨_, rfl, ?_⟩; have n0_ := Aside0.mk (blk_below (g := gb253) (o := .cells #[.int .i64 a2_0, .int .i64 a2_1, .int .i64 a2_2] 57 (0, 0)) (by (with_reducible repeat (first | refine blk_drewN ?_ _ | refine blk_drew ?_ | refine blk_alloc ?_ _)); exact BK253.out) hb); have n1_ := Aside0.mk (below_step (by repeat (first | (with_reducible first | exact HB.out | apply below_alloc | apply pw_below_drewN | apply below_drew1 | refine below_set ?_ GE253.out) | exact HB.out)) hb); clear BK253; clear HB; have BK253 := n0_; have HB := n1_; clear n0_ n1_; (try clear hb); (try clear hb2); (try clear hk); (try clear hi)) | ((with_reducible refine gate_callee (f := 40) rfl ?_); refine goesL_ (some 25) rfl rfl Tryd.func40 (by kernel_rfl) rfl #[.int .i64 a0, .int .i64 a1] rfl (by (try simp only [List.map_toArray, List.map_cons, List.map_nil]); first | done | rfl | (simp only [List.length_drop, List.length_take]; rfl)) ?_; (with_reducible refine (civil_Length.calls a0 a1 t255 t256 _ A6.out).mono ?_); rintro e w' ⟨rfl, ⟨nd, rfl⟩⟩; refine ⟨_, rfl, ?_⟩))
      go_ret2
      exact ⟨by first | rfl | (simp [errW_none, errW_some] <;> rfl) | (simp [*, errW_none, errW_some] <;> rfl), by repeat (first | (with_reducible first | exact HB.out | apply below_alloc | apply pw_below_drewN | apply below_drew1 | refine below_set ?_ GE253.out) | exact HB.out)⟩
  · rw [if_neg c5] at H
    have c5b0 : (t254 == 0) = false := beq_eq_false_iff_ne.mpr c5
    have c5b1 : (t254 != 0) = true := bne_iff_ne.mpr c5
    simp only [Option.some.injEq, Prod.mk.injEq] at H
    obtain ⟨rfl, rfl⟩ := H
    go_enter Tryd.func26, Tryd.ntmps26
    go_wp2_with (first | ((with_reducible refine gate_dst (N := 5) rfl ?_); refine box_event ?hg (N := 5) ?hd (cs := #[.int .i64 a2_0, .int .i64 a2_1, .int .i64 a2_2]) (t := 57) ?hr ?_; (case hd => rfl); (case hg => rfl); (case hr => first | (go_simp; done) | (go_simp; rfl)); intro gb253 hg w34 hbox hb; have n0_ := Aside0.mk (below_step (by repeat (first | (with_reducible first | exact HB.out | apply below_alloc | apply pw_below_drewN | apply below_drew1) | exact HB.out)) hb); have n1_ := Aside0.mk (hbox); have n2_ := Aside0.mk ((by rw [hg]; exact (below_size (by repeat (first | (with_reducible first | exact HB.out | apply below_alloc | apply pw_below_drewN | apply below_drew1) | exact HB.out))) : w.heap.size ≤ gb253)); have n3_ := Aside0.mk ((by rw [hg]; exact (below_size (by repeat (first | (with_reducible first | exact HB.out | apply below_alloc | apply pw_below_drewN | apply below_drew1) | exact HB.out))) : w.heap.size ≤ gb253)); clear HB; have HB := n0_; have BK253 := n1_; have GW253 := n2_; have GE253 := n3_; clear n0_ n1_ n2_ n3_; clear hb hbox hg; have hcz35_0 : w34.cell? ⟨gb253, 0, none⟩ = some (.int .i64 a2_0) := (blk_cell BK253.out 0).trans rfl; have hcz35_1 : w34.cell? ⟨gb253, 1, none⟩ = some (.int .i64 a2_1) := (blk_cell BK253.out 1).trans rfl; have hcz35_2 : w34.cell? ⟨gb253, 2, none⟩ = some (.int .i64 a2_2) := (blk_cell BK253.out 2).trans rfl; have hfz35_0 := blk_frozen BK253.out 0; have hfz35_1 := blk_frozen BK253.out 1; have hfz35_2 := blk_frozen BK253.out 2) | ((with_reducible refine gate_callee (f := 39) rfl ?_); refine goesL_ (some 18) rfl rfl Tryd.func39 (by kernel_rfl) rfl #[.agg #[.int .i64 a2_0, .int .i64 a2_1, .int .i64 a2_2]] rfl (by (try simp only [List.map_toArray, List.map_cons, List.map_nil]); first | done | rfl | (simp only [List.length_drop, List.length_take]; rfl)) ?_; (with_reducible refine (day_Check.calls k a2_0 a2_1 a2_2 t254 _ A4.out).mono ?_); rintro e w36 ⟨rfl, hb⟩; refine ⟨_, rfl, ?_⟩; have n0_ := Aside0.mk (blk_below (g := gb253) (o := .cells #[.int .i64 a2_0, .int .i64 a2_1, .int .i64 a2_2] 57 (0, 0)) (by (with_reducible repeat (first | refine blk_drewN ?_ _ | refine blk_drew ?_ | refine blk_alloc ?_ _)); exact BK253.out) hb); have n1_ := Aside0.mk (below_step (by repeat (first | (with_reducible first | exact HB.out | apply below_alloc | apply pw_below_drewN | apply below_drew1 | refine below_set ?_ GE253.out) | exact HB.out)) hb); clear BK253; clear HB; have BK253 := n0_; have HB := n1_; clear n0_ n1_; (try clear hb); (try clear hb2); (try clear hk); (try clear hi)))
    go_ret2
    exact ⟨by first | rfl | (simp [errW_none, errW_some] <;> rfl) | (simp [*, errW_none, errW_some] <;> rfl), by repeat (first | (with_reducible first | exact HB.out | apply below_alloc | apply pw_below_drewN | apply below_drew1 | refine below_set ?_ GE253.out) | exact HB.out)⟩
end Go.Proofs.YteemhjamlkipcaaDoor.PT
end
