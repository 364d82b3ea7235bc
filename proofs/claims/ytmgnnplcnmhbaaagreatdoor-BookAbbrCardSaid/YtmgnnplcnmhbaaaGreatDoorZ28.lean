/- Part 28 of 36 of the proof of bookAbbr_holds. What it holds was printed or written for this claim, text by text, and merged. -/
import Derived.Test.YtmgnnplcnmhbaaaGreatDoorZ27
import Derived.Test.YtmgnnplcnmhbaaaGreatDoorZ26
section
namespace Go.Proofs.YtmgnnplcnmhbaaaGreatDoor.PT
open Go.RowKit Go.Proofs.YtmgnnplcnmhbaaaGreatDoorW.PrintWords Go.Proofs.YtmgnnplcnmhbaaaGreatDoorW.PrintLast Go.Proofs.YtmgnnplcnmhbaaaGreatDoorW.PrintMore
attribute [local go_sem] max2_int min2_int max_two min_two max_three min_three max_four min_four   -- for this text's walks alone
set_option linter.unusedVariables false
set_option linter.unusedSimpArgs false
def rule_Check.j0 : Nat → Bool → ByteArray → Int → Int → Int → Int → Int → Int → Int → Int → Int → ByteArray → Option (Int)
  | 0, _, _, _, _, _, _, _, _, _, _, _, _ => none
  | k + 1, x6, x170000, x170001, x170002, x170003, x170004, x170005, x170006, x170007, x170008, x170009, x170010 => if x6 = true then (some 3) else ((rule_within.f x170001 1900 2100).bind fun t172 => (if t172 = true then ((rule_within.f x170002 x170001 2100).bind fun t173 => (if t173 = true then ((rule_within.f x170003 1 12).bind fun t174 => (if t174 = true then ((day_Check.f k x170004 x170005 x170006).bind fun t175 => (if t175 = 0 then ((civil_Length.f 1901 x170003).bind fun bt176 => (if x170006 > bt176.1 then (some 1) else ((rule_within.f x170007 (-604800) 604800).bind fun t178 => (if t178 = true then ((rule_within.f x170008 0 2).bind fun t179 => (if t179 = true then ((rule_within.f x170009 0 10800).bind fun t180 => (if t180 = true then (some 0) else (some 1))) else (some 1))) else (some 1))))) else (some t175))) else (some 1))) else (some 1))) else (some 1)))
def rule_Check.f (k : Nat) (a0_0 : ByteArray) (a0_1 : Int) (a0_2 : Int) (a0_3 : Int) (a0_4 : Int) (a0_5 : Int) (a0_6 : Int) (a0_7 : Int) (a0_8 : Int) (a0_9 : Int) (a0_10 : ByteArray) : Option (Int) := (rule_IsName.f k a0_0).bind fun t170 => (if t170 = true then (if a0_10.toList = ([45] : List UInt8) then (rule_Check.j0 k false a0_0 a0_1 a0_2 a0_3 a0_4 a0_5 a0_6 a0_7 a0_8 a0_9 a0_10) else ((rule_IsAbbr.f k a0_10).bind fun t171 => (rule_Check.j0 k (!t171) a0_0 a0_1 a0_2 a0_3 a0_4 a0_5 a0_6 a0_7 a0_8 a0_9 a0_10))) else (rule_Check.j0 k true a0_0 a0_1 a0_2 a0_3 a0_4 a0_5 a0_6 a0_7 a0_8 a0_9 a0_10))
theorem rule_Check.mono_l : ∀ k, (∀ y0 y1 y2 y3 y4 y5 y6 y7 y8 y9 y10 y11, LeO (rule_Check.j0 k y0 y1 y2 y3 y4 y5 y6 y7 y8 y9 y10 y11) (rule_Check.j0 (k + 1) y0 y1 y2 y3 y4 y5 y6 y7 y8 y9 y10 y11))
  | 0 => fun _ _ _ _ _ _ _ _ _ _ _ _ r h => by simp [rule_Check.j0] at h
  | k + 1 => by
    have ih0 := rule_Check.mono_l k
    · intro y0 y1 y2 y3 y4 y5 y6 y7 y8 y9 y10 y11
      unfold rule_Check.j0
      repeat' first
      | (with_reducible exact ih0 _ _ _ _ _ _ _ _ _ _ _ _)
      | (with_reducible exact day_Check.mono _ _ _ _)
      | (with_reducible exact rule_IsAbbr.mono _ _)
      | (with_reducible exact rule_IsName.mono _ _)
      | (with_reducible exact LeO.refl _)
      | (with_reducible exact LeO.none _)
      | (with_reducible refine LeO.ite ?_ ?_)
      | (with_reducible refine LeO.bind ?_ (fun _ => ?_))
      | exact ih0 _ _ _ _ _ _ _ _ _ _ _ _
      | exact day_Check.mono _ _ _ _
      | exact rule_IsAbbr.mono _ _
      | exact rule_IsName.mono _ _
      | exact LeO.none _
      | refine LeO.ite ?_ ?_
      | refine LeO.bind ?_ (fun _ => ?_)
theorem rule_Check.mono : ∀ a0 a1 a2 a3 a4 a5 a6 a7 a8 a9 a10 k, LeO (rule_Check.f k a0 a1 a2 a3 a4 a5 a6 a7 a8 a9 a10) (rule_Check.f (k + 1) a0 a1 a2 a3 a4 a5 a6 a7 a8 a9 a10) := by
  intro a0 a1 a2 a3 a4 a5 a6 a7 a8 a9 a10 k
  have ih0 := rule_Check.mono_l k
  unfold rule_Check.f
  repeat' first
      | (with_reducible exact ih0 _ _ _ _ _ _ _ _ _ _ _ _)
      | (with_reducible exact day_Check.mono _ _ _ _)
      | (with_reducible exact rule_IsAbbr.mono _ _)
      | (with_reducible exact rule_IsName.mono _ _)
      | (with_reducible exact LeO.refl _)
      | (with_reducible exact LeO.none _)
      | (with_reducible refine LeO.ite ?_ ?_)
      | (with_reducible refine LeO.bind ?_ (fun _ => ?_))
      | exact ih0 _ _ _ _ _ _ _ _ _ _ _ _
      | exact day_Check.mono _ _ _ _
      | exact rule_IsAbbr.mono _ _
      | exact rule_IsName.mono _ _
      | exact LeO.none _
      | refine LeO.ite ?_ ?_
      | refine LeO.bind ?_ (fun _ => ?_)
set_option maxHeartbeats 8000000 in
set_option maxRecDepth 100000 in
theorem rule_Check.calls (k : Nat) (a0_0 : ByteArray) (a0_1 : Int) (a0_2 : Int) (a0_3 : Int) (a0_4 : Int) (a0_5 : Int) (a0_6 : Int) (a0_7 : Int) (a0_8 : Int) (a0_9 : Int) (a0_10 : ByteArray) (r : Int) (w : World) (hL : LaidT w) (h : rule_Check.f k a0_0 a0_1 a0_2 a0_3 a0_4 a0_5 a0_6 a0_7 a0_8 a0_9 a0_10 = some r) :
    Calls Tryz.prog 27 #[.agg #[.string a0_0, .int .i64 a0_1, .int .i64 a0_2, .int .i64 a0_3, .int .i64 a0_4, .int .i64 a0_5, .int .i64 a0_6, .int .i64 a0_7, .int .i64 a0_8, .int .i64 a0_9, .string a0_10]] w fun e w' => e = .returned (.int .i64 r) ∧ Below w.heap.size w w' := by
  have hu65 := Tryz.underlying65
  have hu63 := Tryz.underlying63
  have HB := Aside0.mk (Below.refl w.heap.size w)
  have HLA := Aside0.mk hL
  clear hL
  have H : ((rule_IsName.f k a0_0).bind fun t170 => (if t170 = true then (if a0_10.toList = ([45] : List UInt8) then (rule_Check.j0 k false a0_0 a0_1 a0_2 a0_3 a0_4 a0_5 a0_6 a0_7 a0_8 a0_9 a0_10) else ((rule_IsAbbr.f k a0_10).bind fun t171 => (rule_Check.j0 k (!t171) a0_0 a0_1 a0_2 a0_3 a0_4 a0_5 a0_6 a0_7 a0_8 a0_9 a0_10))) else (rule_Check.j0 k true a0_0 a0_1 a0_2 a0_3 a0_4 a0_5 a0_6 a0_7 a0_8 a0_9 a0_10))) = some r := h
  clear h
  have HC2 := Aside0.mk H
  clear H
  go_enter Tryz.func27, Tryz.ntmps27
  go_upto_region 1 with (first | ((with_reducible refine gate_dst (N := 1) rfl ?_); refine box_event ?hg (N := 1) ?hd (cs := #[.string a0_0, .int .i64 a0_1, .int .i64 a0_2, .int .i64 a0_3, .int .i64 a0_4, .int .i64 a0_5, .int .i64 a0_6, .int .i64 a0_7, .int .i64 a0_8, .int .i64 a0_9, .string a0_10]) (t := 65) ?hr ?_; (case hd => rfl); (case hg => rfl); (case hr => first | (go_simp; done) | (go_simp; rfl)); intro gb169 hg w3 hbox hb; have n0_ := Aside0.mk (below_step (by repeat (first | (with_reducible first | exact HB.out | apply below_alloc | apply pw_below_drewN | apply below_drew1) | exact HB.out)) hb); have n1_ := Aside0.mk (hbox); have n2_ := Aside0.mk ((by rw [hg]; exact (below_size (by repeat (first | (with_reducible first | exact HB.out | apply below_alloc | apply pw_below_drewN | apply below_drew1) | exact HB.out))) : w.heap.size ≤ gb169)); have n3_ := Aside0.mk ((by rw [hg]; exact (below_size (by repeat (first | (with_reducible first | exact HB.out | apply below_alloc | apply pw_below_drewN | apply below_drew1) | exact HB.out))) : w.heap.size ≤ gb169)); clear HB; have HB := n0_; have BK169 := n1_; have GW169 := n2_; have GE169 := n3_; clear n0_ n1_ n2_ n3_; clear hb hbox hg))
  (try simp only [Act.put, List.setIfInBounds_toArray, List.set_cons_zero, List.set_cons_succ])
  go_cut [6] (fun v6 wc => ∃ (kq : Nat) (x6_1 : Bool), v6 = .bool x6_1 ∧ Aside0 (rule_Check.j0 kq x6_1 a0_0 a0_1 a0_2 a0_3 a0_4 a0_5 a0_6 a0_7 a0_8 a0_9 a0_10 = some r) ∧ Aside0 (kq ≤ k) ∧ Aside0 (wc.heap[gb169]? = some (.cells #[.string a0_0, .int .i64 a0_1, .int .i64 a0_2, .int .i64 a0_3, .int .i64 a0_4, .int .i64 a0_5, .int .i64 a0_6, .int .i64 a0_7, .int .i64 a0_8, .int .i64 a0_9, .string a0_10] 65 (0, 0))) ∧ Aside0 (Below w.heap.size w wc))
  case first =>
    have H := HC2.out
    clear HC2
    replace H := Option.bind_eq_some_iff.mp H
    obtain ⟨t170, A40, H⟩ := H
    replace H : (if t170 = true then (if a0_10.toList = ([45] : List UInt8) then (rule_Check.j0 k false a0_0 a0_1 a0_2 a0_3 a0_4 a0_5 a0_6 a0_7 a0_8 a0_9 a0_10) else ((rule_IsAbbr.f k a0_10).bind fun t171 => (rule_Check.j0 k (!t171) a0_0 a0_1 a0_2 a0_3 a0_4 a0_5 a0_6 a0_7 a0_8 a0_9 a0_10))) else (rule_Check.j0 k true a0_0 a0_1 a0_2 a0_3 a0_4 a0_5 a0_6 a0_7 a0_8 a0_9 a0_10)) = some r := H
    have A4 := Aside0.mk A40
    clear A40
    by_cases c5 : t170 = true
    · subst c5
      have H1 : (if a0_10.toList = ([45] : List UInt8) then (rule_Check.j0 k false a0_0 a0_1 a0_2 a0_3 a0_4 a0_5 a0_6 a0_7 a0_8 a0_9 a0_10) else ((rule_IsAbbr.f k a0_10).bind fun t171 => (rule_Check.j0 k (!t171) a0_0 a0_1 a0_2 a0_3 a0_4 a0_5 a0_6 a0_7 a0_8 a0_9 a0_10))) = some r := by rw [if_pos rfl] at H; exact H
      clear H
      have H := H1
      clear H1
      by_cases c6 : a0_10.toList = ([45] : List UInt8)
      · rw [if_pos c6] at H
        have c6b0 : (a0_10.toList == ([45] : List UInt8)) = true := beq_iff_eq.mpr c6
        have c6b1 : (a0_10.toList != ([45] : List UInt8)) = false := bne_eq_false_iff_eq.mpr c6
        clear c6
        (first | rw [c6b0] | (simp only [i64_w, i32_w]; rw [c6b0]) | skip)
        have H' := Aside0.mk H
        clear H
        have hcz7_0 : w3.cell? ⟨gb169, 0, none⟩ = some (.string a0_0) := (blk_cell BK169.out 0).trans rfl
        have hcz7_1 : w3.cell? ⟨gb169, 1, none⟩ = some (.int .i64 a0_1) := (blk_cell BK169.out 1).trans rfl
        have hcz7_2 : w3.cell? ⟨gb169, 2, none⟩ = some (.int .i64 a0_2) := (blk_cell BK169.out 2).trans rfl
        have hcz7_3 : w3.cell? ⟨gb169, 3, none⟩ = some (.int .i64 a0_3) := (blk_cell BK169.out 3).trans rfl
        have hcz7_4 : w3.cell? ⟨gb169, 4, none⟩ = some (.int .i64 a0_4) := (blk_cell BK169.out 4).trans rfl
        have hcz7_5 : w3.cell? ⟨gb169, 5, none⟩ = some (.int .i64 a0_5) := (blk_cell BK169.out 5).trans rfl
        have hcz7_6 : w3.cell? ⟨gb169, 6, none⟩ = some (.int .i64 a0_6) := (blk_cell BK169.out 6).trans rfl
        have hcz7_7 : w3.cell? ⟨gb169, 7, none⟩ = some (.int .i64 a0_7) := (blk_cell BK169.out 7).trans rfl
        have hcz7_8 : w3.cell? ⟨gb169, 8, none⟩ = some (.int .i64 a0_8) := (blk_cell BK169.out 8).trans rfl
        have hcz7_9 : w3.cell? ⟨gb169, 9, none⟩ = some (.int .i64 a0_9) := (blk_cell BK169.out 9).trans rfl
        have hcz7_10 : w3.cell? ⟨gb169, 10, none⟩ = some (.string a0_10) := (blk_cell BK169.out 10).trans rfl
        have hfz7_0 := blk_frozen BK169.out 0
        have hfz7_1 := blk_frozen BK169.out 1
        have hfz7_2 := blk_frozen BK169.out 2
        have hfz7_3 := blk_frozen BK169.out 3
        have hfz7_4 := blk_frozen BK169.out 4
        have hfz7_5 := blk_frozen BK169.out 5
        have hfz7_6 := blk_frozen BK169.out 6
        have hfz7_7 := blk_frozen BK169.out 7
        have hfz7_8 := blk_frozen BK169.out 8
        have hfz7_9 := blk_frozen BK169.out 9
        have hfz7_10 := blk_frozen BK169.out 10
        go_wp2_with (first | ((with_reducible refine gate_callee (f := 15) rfl ?_); refine goesL_ (some 9) rfl rfl Tryz.func15 (by kernel_rfl) rfl #[.string a0_0] rfl (by (try simp only [List.map_toArray, List.map_cons, List.map_nil]); first | done | rfl | (simp only [List.length_drop, List.length_take]; rfl)) ?_; (with_reducible refine (rule_IsName.calls k a0_0 true _ ?side1 A4.out).mono ?_); (case side1 => exact LaidT.sub HLA.out (by repeat (first | (with_reducible first | exact HB.out | apply below_alloc | apply pw_below_drewN | apply below_drew1 | refine below_set ?_ GE169.out) | exact HB.out))); rintro e w8 ⟨rfl, hb⟩; refine ⟨_, rfl, ?_⟩; have n0_ := Aside0.mk (blk_below (g := gb169) (o := .cells #[.string a0_0, .int .i64 a0_1, .int .i64 a0_2, .int .i64 a0_3, .int .i64 a0_4, .int .i64 a0_5, .int .i64 a0_6, .int .i64 a0_7, .int .i64 a0_8, .int .i64 a0_9, .string a0_10] 65 (0, 0)) (by (with_reducible repeat (first | refine blk_drewN ?_ _ | refine blk_drew ?_ | refine blk_alloc ?_ _)); exact BK169.out) hb); have n1_ := Aside0.mk (below_step (by repeat (first | (with_reducible first | exact HB.out | apply below_alloc | apply pw_below_drewN | apply below_drew1 | refine below_set ?_ GE169.out) | exact HB.out)) hb); clear BK169; clear HB; have BK169 := n0_; have HB := n1_; clear n0_ n1_; (try clear hb); (try clear hb2); (try clear hk); (try clear hi); have hcz9_0 : w8.cell? ⟨gb169, 0, none⟩ = some (.string a0_0) := (blk_cell BK169.out 0).trans rfl; have hcz9_1 : w8.cell? ⟨gb169, 1, none⟩ = some (.int .i64 a0_1) := (blk_cell BK169.out 1).trans rfl; have hcz9_2 : w8.cell? ⟨gb169, 2, none⟩ = some (.int .i64 a0_2) := (blk_cell BK169.out 2).trans rfl; have hcz9_3 : w8.cell? ⟨gb169, 3, none⟩ = some (.int .i64 a0_3) := (blk_cell BK169.out 3).trans rfl; have hcz9_4 : w8.cell? ⟨gb169, 4, none⟩ = some (.int .i64 a0_4) := (blk_cell BK169.out 4).trans rfl; have hcz9_5 : w8.cell? ⟨gb169, 5, none⟩ = some (.int .i64 a0_5) := (blk_cell BK169.out 5).trans rfl; have hcz9_6 : w8.cell? ⟨gb169, 6, none⟩ = some (.int .i64 a0_6) := (blk_cell BK169.out 6).trans rfl; have hcz9_7 : w8.cell? ⟨gb169, 7, none⟩ = some (.int .i64 a0_7) := (blk_cell BK169.out 7).trans rfl; have hcz9_8 : w8.cell? ⟨gb169, 8, none⟩ = some (.int .i64 a0_8) := (blk_cell BK169.out 8).trans rfl; have hcz9_9 : w8.cell? ⟨gb169, 9, none⟩ = some (.int .i64 a0_9) := (blk_cell BK169.out 9).trans rfl; have hcz9_10 : w8.cell? ⟨gb169, 10, none⟩ = some (.string a0_10) := (blk_cell BK169.out 10).trans rfl; have hfz9_0 := blk_frozen BK169.out 0; have hfz9_1 := blk_frozen BK169.out 1; have hfz9_2 := blk_frozen BK169.out 2; have hfz9_3 := blk_frozen BK169.out 3; have hfz9_4 := blk_frozen BK169.out 4; have hfz9_5 := blk_frozen BK169.out 5; have hfz9_6 := blk_frozen BK169.out 6; have hfz9_7 := blk_frozen BK169.out 7; have hfz9_8 := blk_frozen BK169.out 8; have hfz9_9 := blk_frozen BK169.out 9; have hfz9_10 := blk_frozen BK169.out 10))
        go_meet
        case rel => exact ⟨_, (false), (by first | rfl | (simp; done) | (simp [*]; done)), H', ⟨by first | omega | exact Nat.le_refl _⟩, ⟨by (with_reducible repeat (first | refine blk_drewN ?_ _ | refine blk_drew ?_ | refine blk_alloc ?_ _)); exact BK169.out⟩, ⟨by repeat (first | (with_reducible first | exact HB.out | apply below_alloc | apply pw_below_drewN | apply below_drew1 | refine below_set ?_ GE169.out) | exact HB.out)⟩⟩
      · rw [if_neg c6] at H
        have c6b0 : (a0_10.toList == ([45] : List UInt8)) = false := beq_eq_false_iff_ne.mpr c6
        have c6b1 : (a0_10.toList != ([45] : List UInt8)) = true := bne_iff_ne.mpr c6
        (first | rw [c6b0] | (simp only [i64_w, i32_w]; rw [c6b0]) | skip)
        replace H := Option.bind_eq_some_iff.mp H
        obtain ⟨t171, A100, H⟩ := H
        replace H : (rule_Check.j0 k (!t171) a0_0 a0_1 a0_2 a0_3 a0_4 a0_5 a0_6 a0_7 a0_8 a0_9 a0_10) = some r := H
        have A10 := Aside0.mk A100
        clear A100
        have H' := Aside0.mk H
        clear H
        have hcz11_0 : w3.cell? ⟨gb169, 0, none⟩ = some (.string a0_0) := (blk_cell BK169.out 0).trans rfl
        have hcz11_1 : w3.cell? ⟨gb169, 1, none⟩ = some (.int .i64 a0_1) := (blk_cell BK169.out 1).trans rfl
        have hcz11_2 : w3.cell? ⟨gb169, 2, none⟩ = some (.int .i64 a0_2) := (blk_cell BK169.out 2).trans rfl
        have hcz11_3 : w3.cell? ⟨gb169, 3, none⟩ = some (.int .i64 a0_3) := (blk_cell BK169.out 3).trans rfl
        have hcz11_4 : w3.cell? ⟨gb169, 4, none⟩ = some (.int .i64 a0_4) := (blk_cell BK169.out 4).trans rfl
        have hcz11_5 : w3.cell? ⟨gb169, 5, none⟩ = some (.int .i64 a0_5) := (blk_cell BK169.out 5).trans rfl
        have hcz11_6 : w3.cell? ⟨gb169, 6, none⟩ = some (.int .i64 a0_6) := (blk_cell BK169.out 6).trans rfl
        have hcz11_7 : w3.cell? ⟨gb169, 7, none⟩ = some (.int .i64 a0_7) := (blk_cell BK169.out 7).trans rfl
        have hcz11_8 : w3.cell? ⟨gb169, 8, none⟩ = some (.int .i64 a0_8) := (blk_cell BK169.out 8).trans rfl
        have hcz11_9 : w3.cell? ⟨gb169, 9, none⟩ = some (.int .i64 a0_9) := (blk_cell BK169.out 9).trans rfl
        have hcz11_10 : w3.cell? ⟨gb169, 10, none⟩ = some (.string a0_10) := (blk_cell BK169.out 10).trans rfl
        have hfz11_0 := blk_frozen BK169.out 0
        have hfz11_1 := blk_frozen BK169.out 1
        have hfz11_2 := blk_frozen BK169.out 2
        have hfz11_3 := blk_frozen BK169.out 3
        have hfz11_4 := blk_frozen BK169.out 4
        have hfz11_5 := blk_frozen BK169.out 5
        have hfz11_6 := blk_frozen BK169.out 6
        have hfz11_7 := blk_frozen BK169.out 7
        have hfz11_8 := blk_frozen BK169.out 8
        have hfz11_9 := blk_frozen BK169.out 9
        have hfz11_10 := blk_frozen BK169.out 10
        go_wp2_with (first | ((with_reducible refine gate_callee (f := 15) rfl ?_); refine goesL_ (some 9) rfl rfl Tryz.func15 (by kernel_rfl) rfl #[.string a0_0] rfl (by (try simp only [List.map_toArray, List.map_cons, List.map_nil]); first | done | rfl | (simp only [List.length_drop, List.length_take]; rfl)) ?_; (with_reducible refine (rule_IsName.calls k a0_0 true _ ?side1 A4.out).mono ?_); (case side1 => exact LaidT.sub HLA.out (by repeat (first | (with_reducible first | exact HB.out | apply below_alloc | apply pw_below_drewN | apply below_drew1 | refine below_set ?_ GE169.out) | exact HB.out))); rintro e w12 ⟨rfl, hb⟩; refine ⟨_, rfl, ?_⟩; have n0_ := Aside0.mk (blk_below (g := gb169) (o := .cells #[.string a0_0, .int .i64 a0_1, .int .i64 a0_2, .int .i64 a0_3, .int .i64 a0_4, .int .i64 a0_5, .int .i64 a0_6, .int .i64 a0_7, .int .i64 a0_8, .int .i64 a0_9, .string a0_10] 65 (0, 0)) (by (with_reducible repeat (first | refine blk_drewN ?_ _ | refine blk_drew ?_ | refine blk_alloc ?_ _)); exact BK169.out) hb); have n1_ := Aside0.mk (below_step (by repeat (first | (with_reducible first | exact HB.out | apply below_alloc | apply pw_below_drewN | apply below_drew1 | refine below_set ?_ GE169.out) | exact HB.out)) hb); clear BK169; clear HB; have BK169 := n0_; have HB := n1_; clear n0_ n1_; (try clear hb); (try clear hb2); (try clear hk); (try clear hi); have hcz13_0 : w12.cell? ⟨gb169, 0, none⟩ = some (.string a0_0) := (blk_cell BK169.out 0).trans rfl; have hcz13_1 : w12.cell? ⟨gb169, 1, none⟩ = some (.int .i64 a0_1) := (blk_cell BK169.out 1).trans rfl; have hcz13_2 : w12.cell? ⟨gb169, 2, none⟩ = some (.int .i64 a0_2) := (blk_cell BK169.out 2).trans rfl; have hcz13_3 : w12.cell? ⟨gb169, 3, none⟩ = some (.int .i64 a0_3) := (blk_cell BK169.out 3).trans rfl; have hcz13_4 : w12.cell? ⟨gb169, 4, none⟩ = some (.int .i64 a0_4) := (blk_cell BK169.out 4).trans rfl; have hcz13_5 : w12.cell? ⟨gb169, 5, none⟩ = some (.int .i64 a0_5) := (blk_cell BK169.out 5).trans rfl; have hcz13_6 : w12.cell? ⟨gb169, 6, none⟩ = some (.int .i64 a0_6) := (blk_cell BK169.out 6).trans rfl; have hcz13_7 : w12.cell? ⟨gb169, 7, none⟩ = some (.int .i64 a0_7) := (blk_cell BK169.out 7).trans rfl; have hcz13_8 : w12.cell? ⟨gb169, 8, none⟩ = some (.int .i64 a0_8) := (blk_cell BK169.out 8).trans rfl; have hcz13_9 : w12.cell? ⟨gb169, 9, none⟩ = some (.int .i64 a0_9) := (blk_cell BK169.out 9).trans rfl; have hcz13_10 : w12.cell? ⟨gb169, 10, none⟩ = some (.string a0_10) := (blk_cell BK169.out 10).trans rfl; have hfz13_0 := blk_frozen BK169.out 0; have hfz13_1 := blk_frozen BK169.out 1; have hfz13_2 := blk_frozen BK169.out 2; have hfz13_3 := blk_frozen BK169.out 3; have hfz13_4 := blk_frozen BK169.out 4; have hfz13_5 := blk_frozen BK169.out 5; have hfz13_6 := blk_frozen BK169.out 6; have hfz13_7 := blk_frozen BK169.out 7; have hfz13_8 := blk_frozen BK169.out 8; have hfz13_9 := blk_frozen BK169.out 9; have hfz13_10 := blk_frozen BK169.out 10) | (go_at_call 13; (with_reducible refine (rule_IsAbbr.calls k a0_10 t171 _ ?side1 A10.out).mono ?_); (case side1 => exact LaidT.sub HLA.out (by repeat (first | (with_reducible first | exact HB.out | apply below_alloc | apply pw_below_drewN | apply below_drew1 | refine below_set ?_ GE169.out) | exact HB.out))); rintro e w14 ⟨rfl, hb⟩; have n0_ := Aside0.mk (blk_below (g := gb169) (o := .cells #[.string a0_0, .int .i64 a0_1, .int .i64 a0_2, .int .i64 a0_3, .int .i64 a0_4, .int .i64 a0_5, .int .i64 a0_6, .int .i64 a0_7, .int .i64 a0_8, .int .i64 a0_9, .string a0_10] 65 (0, 0)) (by (with_reducible repeat (first | refine blk_drewN ?_ _ | refine blk_drew ?_ | refine blk_alloc ?_ _)); exact BK169.out) hb); have n1_ := Aside0.mk (below_step (by repeat (first | (with_reducible first | exact HB.out | apply below_alloc | apply pw_below_drewN | apply below_drew1 | refine below_set ?_ GE169.out) | exact HB.out)) hb); clear BK169; clear HB; have BK169 := n0_; have HB := n1_; clear n0_ n1_; (try clear hb); (try clear hb2); (try clear hk); (try clear hi)))
        go_meet
        case rel => exact ⟨_, (!t171), (by first | rfl | (simp; done) | (simp [*]; done)), H', ⟨by first | omega | exact Nat.le_refl _⟩, ⟨by (with_reducible repeat (first | refine blk_drewN ?_ _ | refine blk_drew ?_ | refine blk_alloc ?_ _)); exact BK169.out⟩, ⟨by repeat (first | (with_reducible first | exact HB.out | apply below_alloc | apply pw_below_drewN | apply below_drew1 | refine below_set ?_ GE169.out) | exact HB.out)⟩⟩
    · replace c5 := Bool.eq_false_iff.mpr c5
      subst c5
      have H1 : (rule_Check.j0 k true a0_0 a0_1 a0_2 a0_3 a0_4 a0_5 a0_6 a0_7 a0_8 a0_9 a0_10) = some r := by rw [if_neg (show ¬ (false = true) by decide)] at H; exact H
      clear H
      have H := H1
      clear H1
      have H' := Aside0.mk H
      clear H
      have hcz15_0 : w3.cell? ⟨gb169, 0, none⟩ = some (.string a0_0) := (blk_cell BK169.out 0).trans rfl
      have hcz15_1 : w3.cell? ⟨gb169, 1, none⟩ = some (.int .i64 a0_1) := (blk_cell BK169.out 1).trans rfl
      have hcz15_2 : w3.cell? ⟨gb169, 2, none⟩ = some (.int .i64 a0_2) := (blk_cell BK169.out 2).trans rfl
      have hcz15_3 : w3.cell? ⟨gb169, 3, none⟩ = some (.int .i64 a0_3) := (blk_cell BK169.out 3).trans rfl
      have hcz15_4 : w3.cell? ⟨gb169, 4, none⟩ = some (.int .i64 a0_4) := (blk_cell BK169.out 4).trans rfl
      have hcz15_5 : w3.cell? ⟨gb169, 5, none⟩ = some (.int .i64 a0_5) := (blk_cell BK169.out 5).trans rfl
      have hcz15_6 : w3.cell? ⟨gb169, 6, none⟩ = some (.int .i64 a0_6) := (blk_cell BK169.out 6).trans rfl
      have hcz15_7 : w3.cell? ⟨gb169, 7, none⟩ = some (.int .i64 a0_7) := (blk_cell BK169.out 7).trans rfl
      have hcz15_8 : w3.cell? ⟨gb169, 8, none⟩ = some (.int .i64 a0_8) := (blk_cell BK169.out 8).trans rfl
      have hcz15_9 : w3.cell? ⟨gb169, 9, none⟩ = some (.int .i64 a0_9) := (blk_cell BK169.out 9).trans rfl
      have hcz15_10 : w3.cell? ⟨gb169, 10, none⟩ = some (.string a0_10) := (blk_cell BK169.out 10).trans rfl
      have hfz15_0 := blk_frozen BK169.out 0
      have hfz15_1 := blk_frozen BK169.out 1
      have hfz15_2 := blk_frozen BK169.out 2
      have hfz15_3 := blk_frozen BK169.out 3
      have hfz15_4 := blk_frozen BK169.out 4
      have hfz15_5 := blk_frozen BK169.out 5
      have hfz15_6 := blk_frozen BK169.out 6
      have hfz15_7 := blk_frozen BK169.out 7
      have hfz15_8 := blk_frozen BK169.out 8
      have hfz15_9 := blk_frozen BK169.out 9
      have hfz15_10 := blk_frozen BK169.out 10
      go_wp2_with (first | ((with_reducible refine gate_callee (f := 15) rfl ?_); refine goesL_ (some 9) rfl rfl Tryz.func15 (by kernel_rfl) rfl #[.string a0_0] rfl (by (try simp only [List.map_toArray, List.map_cons, List.map_nil]); first | done | rfl | (simp only [List.length_drop, List.length_take]; rfl)) ?_; (with_reducible refine (rule_IsName.calls k a0_0 false _ ?side1 A4.out).mono ?_); (case side1 => exact LaidT.sub HLA.out (by repeat (first | (with_reducible first | exact HB.out | apply below_alloc | apply pw_below_drewN | apply below_drew1 | refine below_set ?_ GE169.out) | exact HB.out))); rintro e w16 ⟨rfl, hb⟩; refine ⟨_, rfl, ?_⟩; have n0_ := Aside0.mk (blk_below (g := gb169) (o := .cells #[.string a0_0, .int .i64 a0_1, .int .i64 a0_2, .int .i64 a0_3, .int .i64 a0_4, .int .i64 a0_5, .int .i64 a0_6, .int .i64 a0_7, .int .i64 a0_8, .int .i64 a0_9, .string a0_10] 65 (0, 0)) (by (with_reducible repeat (first | refine blk_drewN ?_ _ | refine blk_drew ?_ | refine blk_alloc ?_ _)); exact BK169.out) hb); have n1_ := Aside0.mk (below_step (by repeat (first | (with_reducible first | exact HB.out | apply below_alloc | apply pw_below_drewN | apply below_drew1 | refine below_set ?_ GE169.out) | exact HB.out)) hb); clear BK169; clear HB; have BK169 := n0_; have HB := n1_; clear n0_ n1_; (try clear hb); (try clear hb2); (try clear hk); (try clear hi)))
      go_meet
      case rel => exact ⟨_, (true), (by first | rfl | (simp; done) | (simp [*]; done)), H', ⟨by first | omega | exact Nat.le_refl _⟩, ⟨by (with_reducible repeat (first | refine blk_drewN ?_ _ | refine blk_drew ?_ | refine blk_alloc ?_ _)); exact BK169.out⟩, ⟨by repeat (first | (with_reducible first | exact HB.out | apply below_alloc | apply pw_below_drewN | apply below_drew1 | refine below_set ?_ GE169.out) | exact HB.out)⟩⟩
  case rest =>
    clear HC2
    try clear c1
    try clear c2
    try clear p2
    try clear c5
    try clear c6
    try clear c6b0
    try clear c6b1
    try clear c15
    try clear hcz11_0
    try clear hcz11_1
    try clear hcz11_10
    try clear hcz11_2
    try clear hcz11_3
    try clear hcz11_4
    try clear hcz11_5
    try clear hcz11_6
    try clear hcz11_7
    try clear hcz11_8
    try clear hcz11_9
    try clear hcz13_0
    try clear hcz13_1
    try clear hcz13_10
    try clear hcz13_2
    try clear hcz13_3
    try clear hcz13_4
    try clear hcz13_5
    try clear hcz13_6
    try clear hcz13_7
    try clear hcz13_8
    try clear hcz13_9
    try clear hcz15_0
    try clear hcz15_1
    try clear hcz15_10
    try clear hcz15_2
    try clear hcz15_3
    try clear hcz15_4
    try clear hcz15_5
    try clear hcz15_6
    try clear hcz15_7
    try clear hcz15_8
    try clear hcz15_9
    try clear hcz7_0
    try clear hcz7_1
    try clear hcz7_10
    try clear hcz7_2
    try clear hcz7_3
    try clear hcz7_4
    try clear hcz7_5
    try clear hcz7_6
    try clear hcz7_7
    try clear hcz7_8
    try clear hcz7_9
    try clear hcz9_0
    try clear hcz9_1
    try clear hcz9_10
    try clear hcz9_2
    try clear hcz9_3
    try clear hcz9_4
    try clear hcz9_5
    try clear hcz9_6
    try clear hcz9_7
    try clear hcz9_8
    try clear hcz9_9
    try clear hfz11_0
    try clear hfz11_1
    try clear hfz11_10
    try clear hfz11_2
    try clear hfz11_3
    try clear hfz11_4
    try clear hfz11_5
    try clear hfz11_6
    try clear hfz11_7
    try clear hfz11_8
    try clear hfz11_9
    try clear hfz13_0
    try clear hfz13_1
    try clear hfz13_10
    try clear hfz13_2
    try clear hfz13_3
    try clear hfz13_4
    try clear hfz13_5
    try clear hfz13_6
    try clear hfz13_7
    try clear hfz13_8
    try clear hfz13_9
    try clear hfz15_0
    try clear hfz15_1
    try clear hfz15_10
    try clear hfz15_2
    try clear hfz15_3
    try clear hfz15_4
    try clear hfz15_5
    try clear hfz15_6
    try clear hfz15_7
    try clear hfz15_8
    try clear hfz15_9
    try clear hfz7_0
    try clear hfz7_1
    try clear hfz7_10
    try clear hfz7_2
    try clear hfz7_3
    try clear hfz7_4
    try clear hfz7_5
    try clear hfz7_6
    try clear hfz7_7
    try clear hfz7_8
    try clear hfz7_9
    try clear hfz9_0
    try clear hfz9_1
    try clear hfz9_10
    try clear hfz9_2
    try clear hfz9_3
    try clear hfz9_4
    try clear hfz9_5
    try clear hfz9_6
    try clear hfz9_7
    try clear hfz9_8
    try clear hfz9_9
    obtain ⟨kq, x6_1, rfl, HA, HJ1, BK169, HB⟩ := hcut
    cases kq with
    | zero => exact absurd HA.out (by simp [rule_Check.j0])
    | succ kj1 =>
      have H := HA.out
      clear HA
      simp only [rule_Check.j0] at H
      by_cases c17 : x6_1 = true
      · subst c17
        have H1 : (some 3) = some r := by rw [if_pos rfl] at H; exact H
        clear H
        have H := H1
        clear H1
        obtain rfl := Option.some.inj H
        go_wp2
        go_ret
        exact ⟨by first | rfl | (simp [errW_none, errW_some] <;> rfl) | (simp [*, errW_none, errW_some] <;> rfl), by repeat (first | (with_reducible first | exact HB.out | apply below_alloc | apply pw_below_drewN | apply below_drew1 | refine below_set ?_ GE169.out) | exact HB.out)⟩
      · replace c17 := Bool.eq_false_iff.mpr c17
        subst c17
        have H1 : ((rule_within.f a0_1 1900 2100).bind fun t172 => (if t172 = true then ((rule_within.f a0_2 a0_1 2100).bind fun t173 => (if t173 = true then ((rule_within.f a0_3 1 12).bind fun t174 => (if t174 = true then ((day_Check.f kj1 a0_4 a0_5 a0_6).bind fun t175 => (if t175 = 0 then ((civil_Length.f 1901 a0_3).bind fun bt176 => (if a0_6 > bt176.1 then (some 1) else ((rule_within.f a0_7 (-604800) 604800).bind fun t178 => (if t178 = true then ((rule_within.f a0_8 0 2).bind fun t179 => (if t179 = true then ((rule_within.f a0_9 0 10800).bind fun t180 => (if t180 = true then (some 0) else (some 1))) else (some 1))) else (some 1))))) else (some t175))) else (some 1))) else (some 1))) else (some 1))) = some r := by rw [if_neg (show ¬ (false = true) by decide)] at H; exact H
        clear H
        have H := H1
        clear H1
        replace H := Option.bind_eq_some_iff.mp H
        obtain ⟨t172, A180, H⟩ := H
        replace H : (if t172 = true then ((rule_within.f a0_2 a0_1 2100).bind fun t173 => (if t173 = true then ((rule_within.f a0_3 1 12).bind fun t174 => (if t174 = true then ((day_Check.f kj1 a0_4 a0_5 a0_6).bind fun t175 => (if t175 = 0 then ((civil_Length.f 1901 a0_3).bind fun bt176 => (if a0_6 > bt176.1 then (some 1) else ((rule_within.f a0_7 (-604800) 604800).bind fun t178 => (if t178 = true then ((rule_within.f a0_8 0 2).bind fun t179 => (if t179 = true then ((rule_within.f a0_9 0 10800).bind fun t180 => (if t180 = true then (some 0) else (some 1))) else (some 1))) else (some 1))))) else (some t175))) else (some 1))) else (some 1))) else (some 1)) = some r := H
        have A18 := Aside0.mk A180
        clear A180
        by_cases c19 : t172 = true
        · subst c19
          have H1 : ((rule_within.f a0_2 a0_1 2100).bind fun t173 => (if t173 = true then ((rule_within.f a0_3 1 12).bind fun t174 => (if t174 = true then ((day_Check.f kj1 a0_4 a0_5 a0_6).bind fun t175 => (if t175 = 0 then ((civil_Length.f 1901 a0_3).bind fun bt176 => (if a0_6 > bt176.1 then (some 1) else ((rule_within.f a0_7 (-604800) 604800).bind fun t178 => (if t178 = true then ((rule_within.f a0_8 0 2).bind fun t179 => (if t179 = true then ((rule_within.f a0_9 0 10800).bind fun t180 => (if t180 = true then (some 0) else (some 1))) else (some 1))) else (some 1))))) else (some t175))) else (some 1))) else (some 1))) = some r := by rw [if_pos rfl] at H; exact H
          clear H
          have H := H1
          clear H1
          replace H := Option.bind_eq_some_iff.mp H
          obtain ⟨t173, A200, H⟩ := H
          replace H : (if t173 = true then ((rule_within.f a0_3 1 12).bind fun t174 => (if t174 = true then ((day_Check.f kj1 a0_4 a0_5 a0_6).bind fun t175 => (if t175 = 0 then ((civil_Length.f 1901 a0_3).bind fun bt176 => (if a0_6 > bt176.1 then (some 1) else ((rule_within.f a0_7 (-604800) 604800).bind fun t178 => (if t178 = true then ((rule_within.f a0_8 0 2).bind fun t179 => (if t179 = true then ((rule_within.f a0_9 0 10800).bind fun t180 => (if t180 = true then (some 0) else (some 1))) else (some 1))) else (some 1))))) else (some t175))) else (some 1))) else (some 1)) = some r := H
          have A20 := Aside0.mk A200
          clear A200
          by_cases c21 : t173 = true
          · subst c21
            have H1 : ((rule_within.f a0_3 1 12).bind fun t174 => (if t174 = true then ((day_Check.f kj1 a0_4 a0_5 a0_6).bind fun t175 => (if t175 = 0 then ((civil_Length.f 1901 a0_3).bind fun bt176 => (if a0_6 > bt176.1 then (some 1) else ((rule_within.f a0_7 (-604800) 604800).bind fun t178 => (if t178 = true then ((rule_within.f a0_8 0 2).bind fun t179 => (if t179 = true then ((rule_within.f a0_9 0 10800).bind fun t180 => (if t180 = true then (some 0) else (some 1))) else (some 1))) else (some 1))))) else (some t175))) else (some 1))) = some r := by rw [if_pos rfl] at H; exact H
            clear H
            have H := H1
            clear H1
            replace H := Option.bind_eq_some_iff.mp H
            obtain ⟨t174, A220, H⟩ := H
            replace H : (if t174 = true then ((day_Check.f kj1 a0_4 a0_5 a0_6).bind fun t175 => (if t175 = 0 then ((civil_Length.f 1901 a0_3).bind fun bt176 => (if a0_6 > bt176.1 then (some 1) else ((rule_within.f a0_7 (-604800) 604800).bind fun t178 => (if t178 = true then ((rule_within.f a0_8 0 2).bind fun t179 => (if t179 = true then ((rule_within.f a0_9 0 10800).bind fun t180 => (if t180 = true then (some 0) else (some 1))) else (some 1))) else (some 1))))) else (some t175))) else (some 1)) = some r := H
            have A22 := Aside0.mk A220
            clear A220
            by_cases c23 : t174 = true
            · subst c23
              have H1 : ((day_Check.f kj1 a0_4 a0_5 a0_6).bind fun t175 => (if t175 = 0 then ((civil_Length.f 1901 a0_3).bind fun bt176 => (if a0_6 > bt176.1 then (some 1) else ((rule_within.f a0_7 (-604800) 604800).bind fun t178 => (if t178 = true then ((rule_within.f a0_8 0 2).bind fun t179 => (if t179 = true then ((rule_within.f a0_9 0 10800).bind fun t180 => (if t180 = true then (some 0) else (some 1))) else (some 1))) else (some 1))))) else (some t175))) = some r := by rw [if_pos rfl] at H; exact H
              clear H
              have H := H1
              clear H1
              replace H := Option.bind_eq_some_iff.mp H
              obtain ⟨t175, A240, H⟩ := H
              replace H : (if t175 = 0 then ((civil_Length.f 1901 a0_3).bind fun bt176 => (if a0_6 > bt176.1 then (some 1) else ((rule_within.f a0_7 (-604800) 604800).bind fun t178 => (if t178 = true then ((rule_within.f a0_8 0 2).bind fun t179 => (if t179 = true then ((rule_within.f a0_9 0 10800).bind fun t180 => (if t180 = true then (some 0) else (some 1))) else (some 1))) else (some 1))))) else (some t175)) = some r := H
              have A24 := Aside0.mk A240
              clear A240
              by_cases c25 : t175 = 0
              · rw [if_pos c25] at H
                have c25b0 : (t175 == 0) = true := beq_iff_eq.mpr c25
                have c25b1 : (t175 != 0) = false := bne_eq_false_iff_eq.mpr c25
                clear c25
                replace H := Option.bind_eq_some_iff.mp H
                obtain ⟨⟨t176, t177⟩, A260, H⟩ := H
                replace H : (if a0_6 > t176 then (some 1) else ((rule_within.f a0_7 (-604800) 604800).bind fun t178 => (if t178 = true then ((rule_within.f a0_8 0 2).bind fun t179 => (if t179 = true then ((rule_within.f a0_9 0 10800).bind fun t180 => (if t180 = true then (some 0) else (some 1))) else (some 1))) else (some 1)))) = some r := H
                have A26 := Aside0.mk A260
                clear A260
                by_cases c27 : a0_6 > t176
                · rw [if_pos c27] at H
                  have c27b0 : decide (t176 < a0_6) = true := decide_eq_true c27
                  clear c27
                  obtain rfl := Option.some.inj H
                  have hcz28_0 : wc.cell? ⟨gb169, 0, none⟩ = some (.string a0_0) := (blk_cell BK169.out 0).trans rfl
                  have hcz28_1 : wc.cell? ⟨gb169, 1, none⟩ = some (.int .i64 a0_1) := (blk_cell BK169.out 1).trans rfl
                  have hcz28_2 : wc.cell? ⟨gb169, 2, none⟩ = some (.int .i64 a0_2) := (blk_cell BK169.out 2).trans rfl
                  have hcz28_3 : wc.cell? ⟨gb169, 3, none⟩ = some (.int .i64 a0_3) := (blk_cell BK169.out 3).trans rfl
                  have hcz28_4 : wc.cell? ⟨gb169, 4, none⟩ = some (.int .i64 a0_4) := (blk_cell BK169.out 4).trans rfl
                  have hcz28_5 : wc.cell? ⟨gb169, 5, none⟩ = some (.int .i64 a0_5) := (blk_cell BK169.out 5).trans rfl
                  have hcz28_6 : wc.cell? ⟨gb169, 6, none⟩ = some (.int .i64 a0_6) := (blk_cell BK169.out 6).trans rfl
                  have hcz28_7 : wc.cell? ⟨gb169, 7, none⟩ = some (.int .i64 a0_7) := (blk_cell BK169.out 7).trans rfl
                  have hcz28_8 : wc.cell? ⟨gb169, 8, none⟩ = some (.int .i64 a0_8) := (blk_cell BK169.out 8).trans rfl
                  have hcz28_9 : wc.cell? ⟨gb169, 9, none⟩ = some (.int .i64 a0_9) := (blk_cell BK169.out 9).trans rfl
                  have hcz28_10 : wc.cell? ⟨gb169, 10, none⟩ = some (.string a0_10) := (blk_cell BK169.out 10).trans rfl
                  have hfz28_0 := blk_frozen BK169.out 0
                  have hfz28_1 := blk_frozen BK169.out 1
                  have hfz28_2 := blk_frozen BK169.out 2
                  have hfz28_3 := blk_frozen BK169.out 3
                  have hfz28_4 := blk_frozen BK169.out 4
                  have hfz28_5 := blk_frozen BK169.out 5
                  have hfz28_6 := blk_frozen BK169.out 6
                  have hfz28_7 := blk_frozen BK169.out 7
                  have hfz28_8 := blk_frozen BK169.out 8
                  have hfz28_9 := blk_frozen BK169.out 9
                  have hfz28_10 := blk_frozen BK169.out 10
                  go_wp2_with (first | ((with_reducible refine gate_callee (f := 44) rfl ?_); refine goesL_ (some 25) rfl rfl Tryz.func44 (by kernel_rfl) rfl #[.int .i64 a0_1, .int .i64 1900, .int .i64 2100] rfl (by (try simp only [List.map_toArray, List.map_cons, List.map_nil]); first | done | rfl | (simp only [List.length_drop, List.length_take]; rfl)) ?_; (with_reducible refine (rule_within.calls a0_1 1900 2100 true _ A18.out).mono ?_); rintro e w' ⟨rfl, ⟨nd, rfl⟩⟩; refine ⟨_, rfl, ?_⟩) | (go_at_call 44; (with_reducible refine (rule_within.calls a0_2 a0_1 2100 true _ A20.out).mono ?_); rintro e w' ⟨rfl, ⟨nd, rfl⟩⟩) | (go_at_call 44; (with_reducible refine (rule_within.calls a0_3 1 12 true _ A22.out).mono ?_); rintro e w' ⟨rfl, ⟨nd, rfl⟩⟩) | ((with_reducible refine gate_callee (f := 45) rfl ?_); refine goesL_ (some 43) rfl rfl Tryz.func45 (by kernel_rfl) rfl #[.agg #[.int .i64 a0_4, .int .i64 a0_5, .int .i64 a0_6]] rfl (by (try simp only [List.map_toArray, List.map_cons, List.map_nil]); first | done | rfl | (simp only [List.length_drop, List.length_take]; rfl)) ?_; (with_reducible refine (day_Check.calls kj1 a0_4 a0_5 a0_6 t175 _ A24.out).mono ?_); rintro e w29 ⟨rfl, hb⟩; refine ⟨_, rfl, ?_⟩; have n0_ := Aside0.mk (blk_below (g := gb169) (o := .cells #[.string a0_0, .int .i64 a0_1, .int .i64 a0_2, .int .i64 a0_3, .int .i64 a0_4, .int .i64 a0_5, .int .i64 a0_6, .int .i64 a0_7, .int .i64 a0_8, .int .i64 a0_9, .string a0_10] 65 (0, 0)) (by (with_reducible repeat (first | refine blk_drewN ?_ _ | refine blk_drew ?_ | refine blk_alloc ?_ _)); exact BK169.out) hb); have n1_ := Aside0.mk (below_step (by repeat (first | (with_reducible first | exact HB.out | apply below_alloc | apply pw_below_drewN | apply below_drew1 | refine below_set ?_ GE169.out) | exact HB.out)) hb); clear BK169; clear HB; have BK169 := n0_; have HB := n1_; clear n0_ n1_; (try clear hb); (try clear hb2); (try clear hk); (try clear hi); have hcz30_0 : w29.cell? ⟨gb169, 0, none⟩ = some (.string a0_0) := (blk_cell BK169.out 0).trans rfl; have hcz30_1 : w29.cell? ⟨gb169, 1, none⟩ = some (.int .i64 a0_1) := (blk_cell BK169.out 1).trans rfl; have hcz30_2 : w29.cell? ⟨gb169, 2, none⟩ = some (.int .i64 a0_2) := (blk_cell BK169.out 2).trans rfl; have hcz30_3 : w29.cell? ⟨gb169, 3, none⟩ = some (.int .i64 a0_3) := (blk_cell BK169.out 3).trans rfl; have hcz30_4 : w29.cell? ⟨gb169, 4, none⟩ = some (.int .i64 a0_4) := (blk_cell BK169.out 4).trans rfl; have hcz30_5 : w29.cell? ⟨gb169, 5, none⟩ = some (.int .i64 a0_5) := (blk_cell BK169.out 5).trans rfl; have hcz30_6 : w29.cell? ⟨gb169, 6, none⟩ = some (.int .i64 a0_6) := (blk_cell BK169.out 6).trans rfl; have hcz30_7 : w29.cell? ⟨gb169, 7, none⟩ = some (.int .i64 a0_7) := (blk_cell BK169.out 7).trans rfl; have hcz30_8 : w29.cell? ⟨gb169, 8, none⟩ = some (.int .i64 a0_8) := (blk_cell BK169.out 8).trans rfl; have hcz30_9 : w29.cell? ⟨gb169, 9, none⟩ = some (.int .i64 a0_9) := (blk_cell BK169.out 9).trans rfl; have hcz30_10 : w29.cell? ⟨gb169, 10, none⟩ = some (.string a0_10) := (blk_cell BK169.out 10).trans rfl; have hfz30_0 := blk_frozen BK169.out 0; have hfz30_1 := blk_frozen BK169.out 1; have hfz30_2 := blk_frozen BK169.out 2; have hfz30_3 := blk_frozen BK169.out 3; have hfz30_4 := blk_frozen BK169.out 4; have hfz30_5 := blk_frozen BK169.out 5; have hfz30_6 := blk_frozen BK169.out 6; have hfz30_7 := blk_frozen BK169.out 7; have hfz30_8 := blk_frozen BK169.out 8; have hfz30_9 := blk_frozen BK169.out 9; have hfz30_10 := blk_frozen BK169.out 10) | ((with_reducible refine gate_callee (f := 46) rfl ?_); refine goesL_ (some 50) rfl rfl Tryz.func46 (by kernel_rfl) rfl #[.int .i64 1901, .int .i64 a0_3] rfl (by (try simp only [List.map_toArray, List.map_cons, List.map_nil]); first | done | rfl | (simp only [List.length_drop, List.length_take]; rfl)) ?_; (with_reducible refine (civil_Length.calls 1901 a0_3 t176 t177 _ A26.out).mono ?_); rintro e w' ⟨rfl, ⟨nd, rfl⟩⟩; refine ⟨_, rfl, ?_⟩))
                  go_ret
                  exact ⟨by first | rfl | (simp [errW_none, errW_some] <;> rfl) | (simp [*, errW_none, errW_some] <;> rfl), by repeat (first | (with_reducible first | exact HB.out | apply below_alloc | apply pw_below_drewN | apply below_drew1 | refine below_set ?_ GE169.out) | exact HB.out)⟩
                · rw [if_neg c27] at H
                  have c27b0 : decide (t176 < a0_6) = false := decide_eq_false c27
                  clear c27
                  replace H := Option.bind_eq_some_iff.mp H
                  obtain ⟨t178, A310, H⟩ := H
                  replace H : (if t178 = true then ((rule_within.f a0_8 0 2).bind fun t179 => (if t179 = true then ((rule_within.f a0_9 0 10800).bind fun t180 => (if t180 = true then (some 0) else (some 1))) else (some 1))) else (some 1)) = some r := H
                  have A31 := Aside0.mk A310
                  clear A310
                  by_cases c32 : t178 = true
                  · subst c32
                    have H1 : ((rule_within.f a0_8 0 2).bind fun t179 => (if t179 = true then ((rule_within.f a0_9 0 10800).bind fun t180 => (if t180 = true then (some 0) else (some 1))) else (some 1))) = some r := by rw [if_pos rfl] at H; exact H
                    clear H
                    have H := H1
                    clear H1
                    replace H := Option.bind_eq_some_iff.mp H
                    obtain ⟨t179, A330, H⟩ := H
                    replace H : (if t179 = true then ((rule_within.f a0_9 0 10800).bind fun t180 => (if t180 = true then (some 0) else (some 1))) else (some 1)) = some r := H
                    have A33 := Aside0.mk A330
                    clear A330
                    by_cases c34 : t179 = true
                    · subst c34
                      have H1 : ((rule_within.f a0_9 0 10800).bind fun t180 => (if t180 = true then (some 0) else (some 1))) = some r := by rw [if_pos rfl] at H; exact H
                      clear H
                      have H := H1
                      clear H1
                      replace H := Option.bind_eq_some_iff.mp H
                      obtain ⟨t180, A350, H⟩ := H
                      replace H : (if t180 = true then (some 0) else (some 1)) = some r := H
                      have A35 := Aside0.mk A350
                      clear A350
                      by_cases c36 : t180 = true
                      · subst c36
                        have H1 : (some 0) = some r := by rw [if_pos rfl] at H; exact H
                        clear H
                        have H := H1
                        clear H1
                        obtain rfl := Option.some.inj H
                        have hcz37_0 : wc.cell? ⟨gb169, 0, none⟩ = some (.string a0_0) := (blk_cell BK169.out 0).trans rfl
                        have hcz37_1 : wc.cell? ⟨gb169, 1, none⟩ = some (.int .i64 a0_1) := (blk_cell BK169.out 1).trans rfl
                        have hcz37_2 : wc.cell? ⟨gb169, 2, none⟩ = some (.int .i64 a0_2) := (blk_cell BK169.out 2).trans rfl
                        have hcz37_3 : wc.cell? ⟨gb169, 3, none⟩ = some (.int .i64 a0_3) := (blk_cell BK169.out 3).trans rfl
                        have hcz37_4 : wc.cell? ⟨gb169, 4, none⟩ = some (.int .i64 a0_4) := (blk_cell BK169.out 4).trans rfl
                        have hcz37_5 : wc.cell? ⟨gb169, 5, none⟩ = some (.int .i64 a0_5) := (blk_cell BK169.out 5).trans rfl
                        have hcz37_6 : wc.cell? ⟨gb169, 6, none⟩ = some (.int .i64 a0_6) := (blk_cell BK169.out 6).trans rfl
                        have hcz37_7 : wc.cell? ⟨gb169, 7, none⟩ = some (.int .i64 a0_7) := (blk_cell BK169.out 7).trans rfl
                        have hcz37_8 : wc.cell? ⟨gb169, 8, none⟩ = some (.int .i64 a0_8) := (blk_cell BK169.out 8).trans rfl
                        have hcz37_9 : wc.cell? ⟨gb169, 9, none⟩ = some (.int .i64 a0_9) := (blk_cell BK169.out 9).trans rfl
                        have hcz37_10 : wc.cell? ⟨gb169, 10, none⟩ = some (.string a0_10) := (blk_cell BK169.out 10).trans rfl
                        have hfz37_0 := blk_frozen BK169.out 0
                        have hfz37_1 := blk_frozen BK169.out 1
                        have hfz37_2 := blk_frozen BK169.out 2
                        have hfz37_3 := blk_frozen BK169.out 3
                        have hfz37_4 := blk_frozen BK169.out 4
                        have hfz37_5 := blk_frozen BK169.out 5
                        have hfz37_6 := blk_frozen BK169.out 6
                        have hfz37_7 := blk_frozen BK169.out 7
                        have hfz37_8 := blk_frozen BK169.out 8
                        have hfz37_9 := blk_frozen BK169.out 9
                        have hfz37_10 := blk_frozen BK169.out 10
                        go_wp2_with (first | ((with_reducible refine gate_callee (f := 44) rfl ?_); refine goesL_ (some 25) rfl rfl Tryz.func44 (by kernel_rfl) rfl #[.int .i64 a0_1, .int .i64 1900, .int .i64 2100] rfl (by (try simp only [List.map_toArray, List.map_cons, List.map_nil]); first | done | rfl | (simp only [List.length_drop, List.length_take]; rfl)) ?_; (with_reducible refine (rule_within.calls a0_1 1900 2100 true _ A18.out).mono ?_); rintro e w' ⟨rfl, ⟨nd, rfl⟩⟩; refine ⟨_, rfl, ?_⟩) | (go_at_call 44; (with_reducible refine (rule_within.calls a0_2 a0_1 2100 true _ A20.out).mono ?_); rintro e w' ⟨rfl, ⟨nd, rfl⟩⟩) | (go_at_call 44; (with_reducible refine (rule_within.calls a0_3 1 12 true _ A22.out).mono ?_); rintro e w' ⟨rfl, ⟨nd, rfl⟩⟩) | ((with_reducible refine gate_callee (f := 45) rfl ?_); refine goesL_ (some 43) rfl rfl Tryz.func45 (by kernel_rfl) rfl #[.agg #[.int .i64 a0_4, .int .i64 a0_5, .int .i64 a0_6]] rfl (by (try simp only [List.map_toArray, List.map_cons, List.map_nil]); first | done | rfl | (simp only [List.length_drop, List.length_take]; rfl)) ?_; (with_reducible refine (day_Check.calls kj1 a0_4 a0_5 a0_6 t175 _ A24.out).mono ?_); rintro e w38 ⟨rfl, hb⟩; refine ⟨_, rfl, ?_⟩; have n0_ := Aside0.mk (blk_below (g := gb169) (o := .cells #[.string a0_0, .int .i64 a0_1, .int .i64 a0_2, .int .i64 a0_3, .int .i64 a0_4, .int .i64 a0_5, .int .i64 a0_6, .int .i64 a0_7, .int .i64 a0_8, .int .i64 a0_9, .string a0_10] 65 (0, 0)) (by (with_reducible repeat (first | refine blk_drewN ?_ _ | refine blk_drew ?_ | refine blk_alloc ?_ _)); exact BK169.out) hb); have n1_ := Aside0.mk (below_step (by repeat (first | (with_reducible first | exact HB.out | apply below_alloc | apply pw_below_drewN | apply below_drew1 | refine below_set ?_ GE169.out) | exact HB.out)) hb); clear BK169; clear HB; have BK169 := n0_; have HB := n1_; clear n0_ n1_; (try clear hb); (try clear hb2); (try clear hk); (try clear hi); have hcz39_0 : w38.cell? ⟨gb169, 0, none⟩ = some (.string a0_0) := (blk_cell BK169.out 0).trans rfl; have hcz39_1 : w38.cell? ⟨gb169, 1, none⟩ = some (.int .i64 a0_1) := (blk_cell BK169.out 1).trans rfl; have hcz39_2 : w38.cell? ⟨gb169, 2, none⟩ = some (.int .i64 a0_2) := (blk_cell BK169.out 2).trans rfl; have hcz39_3 : w38.cell? ⟨gb169, 3, none⟩ = some (.int .i64 a0_3) := (blk_cell BK169.out 3).trans rfl; have hcz39_4 : w38.cell? ⟨gb169, 4, none⟩ = some (.int .i64 a0_4) := (blk_cell BK169.out 4).trans rfl; have hcz39_5 : w38.cell? ⟨gb169, 5, none⟩ = some (.int .i64 a0_5) := (blk_cell BK169.out 5).trans rfl; have hcz39_6 : w38.cell? ⟨gb169, 6, none⟩ = some (.int .i64 a0_6) := (blk_cell BK169.out 6).trans rfl; have hcz39_7 : w38.cell? ⟨gb169, 7, none⟩ = some (.int .i64 a0_7) := (blk_cell BK169.out 7).trans rfl; have hcz39_8 : w38.cell? ⟨gb169, 8, none⟩ = some (.int .i64 a0_8) := (blk_cell BK169.out 8).trans rfl; have hcz39_9 : w38.cell? ⟨gb169, 9, none⟩ = some (.int .i64 a0_9) := (blk_cell BK169.out 9).trans rfl; have hcz39_10 : w38.cell? ⟨gb169, 10, none⟩ = some (.string a0_10) := (blk_cell BK169.out 10).trans rfl; have hfz39_0 := blk_frozen BK169.out 0; have hfz39_1 := blk_frozen BK169.out 1; have hfz39_2 := blk_frozen BK169.out 2; have hfz39_3 := blk_frozen BK169.out 3; have hfz39_4 := blk_frozen BK169.out 4; have hfz39_5 := blk_frozen BK169.out 5; have hfz39_6 := blk_frozen BK169.out 6; have hfz39_7 := blk_frozen BK169.out 7; have hfz39_8 := blk_frozen BK169.out 8; have hfz39_9 := blk_frozen BK169.out 9; have hfz39_10 := blk_frozen BK169.out 10) | ((with_reducible refine gate_callee (f := 46) rfl ?_); refine goesL_ (some 50) rfl rfl Tryz.func46 (by kernel_rfl) rfl #[.int .i64 1901, .int .i64 a0_3] rfl (by (try simp only [List.map_toArray, List.map_cons, List.map_nil]); first | done | rfl | (simp only [List.length_drop, List.length_take]; rfl)) ?_; (with_reducible refine (civil_Length.calls 1901 a0_3 t176 t177 _ A26.out).mono ?_); rintro e w' ⟨rfl, ⟨nd, rfl⟩⟩; refine ⟨_, rfl, ?_⟩) | (go_at_call 44; (with_reducible refine (rule_within.calls a0_7 (-604800) 604800 true _ A31.out).mono ?_); rintro e w' ⟨rfl, ⟨nd, rfl⟩⟩) | (go_at_call 44; (with_reducible refine (rule_within.calls a0_8 0 2 true _ A33.out).mono ?_); rintro e w' ⟨rfl, ⟨nd, rfl⟩⟩) | (go_at_call 44; (with_reducible refine (rule_within.calls a0_9 0 10800 true _ A35.out).mono ?_); rintro e w' ⟨rfl, ⟨nd, rfl⟩⟩))
                        go_ret
                        exact ⟨by first | rfl | (simp [errW_none, errW_some] <;> rfl) | (simp [*, errW_none, errW_some] <;> rfl), by repeat (first | (with_reducible first | exact HB.out | apply below_alloc | apply pw_below_drewN | apply below_drew1 | refine below_set ?_ GE169.out) | exact HB.out)⟩
                      · replace c36 := Bool.eq_false_iff.mpr c36
                        subst c36
                        have H1 : (some 1) = some r := by rw [if_neg (show ¬ (false = true) by decide)] at H; exact H
                        clear H
                        have H := H1
                        clear H1
                        obtain rfl := Option.some.inj H
                        have hcz40_0 : wc.cell? ⟨gb169, 0, none⟩ = some (.string a0_0) := (blk_cell BK169.out 0).trans rfl
                        have hcz40_1 : wc.cell? ⟨gb169, 1, none⟩ = some (.int .i64 a0_1) := (blk_cell BK169.out 1).trans rfl
                        have hcz40_2 : wc.cell? ⟨gb169, 2, none⟩ = some (.int .i64 a0_2) := (blk_cell BK169.out 2).trans rfl
                        have hcz40_3 : wc.cell? ⟨gb169, 3, none⟩ = some (.int .i64 a0_3) := (blk_cell BK169.out 3).trans rfl
                        have hcz40_4 : wc.cell? ⟨gb169, 4, none⟩ = some (.int .i64 a0_4) := (blk_cell BK169.out 4).trans rfl
                        have hcz40_5 : wc.cell? ⟨gb169, 5, none⟩ = some (.int .i64 a0_5) := (blk_cell BK169.out 5).trans rfl
                        have hcz40_6 : wc.cell? ⟨gb169, 6, none⟩ = some (.int .i64 a0_6) := (blk_cell BK169.out 6).trans rfl
                        have hcz40_7 : wc.cell? ⟨gb169, 7, none⟩ = some (.int .i64 a0_7) := (blk_cell BK169.out 7).trans rfl
                        have hcz40_8 : wc.cell? ⟨gb169, 8, none⟩ = some (.int .i64 a0_8) := (blk_cell BK169.out 8).trans rfl
                        have hcz40_9 : wc.cell? ⟨gb169, 9, none⟩ = some (.int .i64 a0_9) := (blk_cell BK169.out 9).trans rfl
                        have hcz40_10 : wc.cell? ⟨gb169, 10, none⟩ = some (.string a0_10) := (blk_cell BK169.out 10).trans rfl
                        have hfz40_0 := blk_frozen BK169.out 0
                        have hfz40_1 := blk_frozen BK169.out 1
                        have hfz40_2 := blk_frozen BK169.out 2
                        have hfz40_3 := blk_frozen BK169.out 3
                        have hfz40_4 := blk_frozen BK169.out 4
                        have hfz40_5 := blk_frozen BK169.out 5
                        have hfz40_6 := blk_frozen BK169.out 6
                        have hfz40_7 := blk_frozen BK169.out 7
                        have hfz40_8 := blk_frozen BK169.out 8
                        have hfz40_9 := blk_frozen BK169.out 9
                        have hfz40_10 := blk_frozen BK169.out 10
                        go_wp2_with (first | ((with_reducible refine gate_callee (f := 44) rfl ?_); refine goesL_ (some 25) rfl rfl Tryz.func44 (by kernel_rfl) rfl #[.int .i64 a0_1, .int .i64 1900, .int .i64 2100] rfl (by (try simp only [List.map_toArray, List.map_cons, List.map_nil]); first | done | rfl | (simp only [List.length_drop, List.length_take]; rfl)) ?_; (with_reducible refine (rule_within.calls a0_1 1900 2100 true _ A18.out).mono ?_); rintro e w' ⟨rfl, ⟨nd, rfl⟩⟩; refine ⟨_, rfl, ?_⟩) | (go_at_call 44; (with_reducible refine (rule_within.calls a0_2 a0_1 2100 true _ A20.out).mono ?_); rintro e w' ⟨rfl, ⟨nd, rfl⟩⟩) | (go_at_call 44; (with_reducible refine (rule_within.calls a0_3 1 12 true _ A22.out).mono ?_); rintro e w' ⟨rfl, ⟨nd, rfl⟩⟩) | ((with_reducible refine gate_callee (f := 45) rfl ?_); refine goesL_ (some 43) rfl rfl Tryz.func45 (by kernel_rfl) rfl #[.agg #[.int .i64 a0_4, .int .i64 a0_5, .int .i64 a0_6]] rfl (by (try simp only [List.map_toArray, List.map_cons, List.map_nil]); first | done | rfl | (simp only [List.length_drop, List.length_take]; rfl)) ?_; (with_reducible refine (day_Check.calls kj1 a0_4 a0_5 a0_6 t175 _ A24.out).mono ?_); rintro e w41 ⟨rfl, hb⟩; refine ⟨_, rfl, ?_⟩; have n0_ := Aside0.mk (blk_below (g := gb169) (o := .cells #[.string a0_0, .int .i64 a0_1, .int .i64 a0_2, .int .i64 a0_3, .int .i64 a0_4, .int .i64 a0_5, .int .i64 a0_6, .int .i64 a0_7, .int .i64 a0_8, .int .i64 a0_9, .string a0_10] 65 (0, 0)) (by (with_reducible repeat (first | refine blk_drewN ?_ _ | refine blk_drew ?_ | refine blk_alloc ?_ _)); exact BK169.out) hb); have n1_ := Aside0.mk (below_step (by repeat (first | (with_reducible first | exact HB.out | apply below_alloc | apply pw_below_drewN | apply below_drew1 | refine below_set ?_ GE169.out) | exact HB.out)) hb); clear BK169; clear HB; have BK169 := n0_; have HB := n1_; clear n0_ n1_; (try clear hb); (try clear hb2); (try clear hk); (try clear hi); have hcz42_0 : w41.cell? ⟨gb169, 0, none⟩ = some (.string a0_0) := (blk_cell BK169.out 0).trans rfl; have hcz42_1 : w41.cell? ⟨gb169, 1, none⟩ = some (.int .i64 a0_1) := (blk_cell BK169.out 1).trans rfl; have hcz42_2 : w41.cell? ⟨gb169, 2, none⟩ = some (.int .i64 a0_2) := (blk_cell BK169.out 2).trans rfl; have hcz42_3 : w41.cell? ⟨gb169, 3, none⟩ = some (.int .i64 a0_3) := (blk_cell BK169.out 3).trans rfl; have hcz42_4 : w41.cell? ⟨gb169, 4, none⟩ = some (.int .i64 a0_4) := (blk_cell BK169.out 4).trans rfl; have hcz42_5 : w41.cell? ⟨gb169, 5, none⟩ = some (.int .i64 a0_5) := (blk_cell BK169.out 5).trans rfl; have hcz42_6 : w41.cell? ⟨gb169, 6, none⟩ = some (.int .i64 a0_6) := (blk_cell BK169.out 6).trans rfl; have hcz42_7 : w41.cell? ⟨gb169, 7, none⟩ = some (.int .i64 a0_7) := (blk_cell BK169.out 7).trans rfl; have hcz42_8 : w41.cell? ⟨gb169, 8, none⟩ = some (.int .i64 a0_8) := (blk_cell BK169.out 8).trans rfl; have hcz42_9 : w41.cell? ⟨gb169, 9, none⟩ = some (.int .i64 a0_9) := (blk_cell BK169.out 9).trans rfl; have hcz42_10 : w41.cell? ⟨gb169, 10, none⟩ = some (.string a0_10) := (blk_cell BK169.out 10).trans rfl; have hfz42_0 := blk_frozen BK169.out 0; have hfz42_1 := blk_frozen BK169.out 1; have hfz42_2 := blk_frozen BK169.out 2; have hfz42_3 := blk_frozen BK169.out 3; have hfz42_4 := blk_frozen BK169.out 4; have hfz42_5 := blk_frozen BK169.out 5; have hfz42_6 := blk_frozen BK169.out 6; have hfz42_7 := blk_frozen BK169.out 7; have hfz42_8 := blk_frozen BK169.out 8; have hfz42_9 := blk_frozen BK169.out 9; have hfz42_10 := blk_frozen BK169.out 10) | ((with_reducible refine gate_callee (f := 46) rfl ?_); refine goesL_ (some 50) rfl rfl Tryz.func46 (by kernel_rfl) rfl #[.int .i64 1901, .int .i64 a0_3] rfl (by (try simp only [List.map_toArray, List.map_cons, List.map_nil]); first | done | rfl | (simp only [List.length_drop, List.length_take]; rfl)) ?_; (with_reducible refine (civil_Length.calls 1901 a0_3 t176 t177 _ A26.out).mono ?_); rintro e w' ⟨rfl, ⟨nd, rfl⟩⟩; refine ⟨_, rfl, ?_⟩) | (go_at_call 44; (with_reducible refine (rule_within.calls a0_7 (-604800) 604800 true _ A31.out).mono ?_); rintro e w' ⟨rfl, ⟨nd, rfl⟩⟩) | (go_at_call 44; (with_reducible refine (rule_within.calls a0_8 0 2 true _ A33.out).mono ?_); rintro e w' ⟨rfl, ⟨nd, rfl⟩⟩) | (go_at_call 44; (with_reducible refine (rule_within.calls a0_9 0 10800 false _ A35.out).mono ?_); rintro e w' ⟨rfl, ⟨nd, rfl⟩⟩))
                        go_ret
                        exact ⟨by first | rfl | (simp [errW_none, errW_some] <;> rfl) | (simp [*, errW_none, errW_some] <;> rfl), by repeat (first | (with_reducible first | exact HB.out | apply below_alloc | apply pw_below_drewN | apply below_drew1 | refine below_set ?_ GE169.out) | exact HB.out)⟩
                    · replace c34 := Bool.eq_false_iff.mpr c34
                      subst c34
                      have H1 : (some 1) = some r := by rw [if_neg (show ¬ (false = true) by decide)] at H; exact H
                      clear H
                      have H := H1
                      clear H1
                      obtain rfl := Option.some.inj H
                      have hcz43_0 : wc.cell? ⟨gb169, 0, none⟩ = some (.string a0_0) := (blk_cell BK169.out 0).trans rfl
                      have hcz43_1 : wc.cell? ⟨gb169, 1, none⟩ = some (.int .i64 a0_1) := (blk_cell BK169.out 1).trans rfl
                      have hcz43_2 : wc.cell? ⟨gb169, 2, none⟩ = some (.int .i64 a0_2) := (blk_cell BK169.out 2).trans rfl
                      have hcz43_3 : wc.cell? ⟨gb169, 3, none⟩ = some (.int .i64 a0_3) := (blk_cell BK169.out 3).trans rfl
                      have hcz43_4 : wc.cell? ⟨gb169, 4, none⟩ = some (.int .i64 a0_4) := (blk_cell BK169.out 4).trans rfl
                      have hcz43_5 : wc.cell? ⟨gb169, 5, none⟩ = some (.int .i64 a0_5) := (blk_cell BK169.out 5).trans rfl
                      have hcz43_6 : wc.cell? ⟨gb169, 6, none⟩ = some (.int .i64 a0_6) := (blk_cell BK169.out 6).trans rfl
                      have hcz43_7 : wc.cell? ⟨gb169, 7, none⟩ = some (.int .i64 a0_7) := (blk_cell BK169.out 7).trans rfl
                      have hcz43_8 : wc.cell? ⟨gb169, 8, none⟩ = some (.int .i64 a0_8) := (blk_cell BK169.out 8).trans rfl
                      have hcz43_9 : wc.cell? ⟨gb169, 9, none⟩ = some (.int .i64 a0_9) := (blk_cell BK169.out 9).trans rfl
                      have hcz43_10 : wc.cell? ⟨gb169, 10, none⟩ = some (.string a0_10) := (blk_cell BK169.out 10).trans rfl
                      have hfz43_0 := blk_frozen BK169.out 0
                      have hfz43_1 := blk_frozen BK169.out 1
                      have hfz43_2 := blk_frozen BK169.out 2
                      have hfz43_3 := blk_frozen BK169.out 3
                      have hfz43_4 := blk_frozen BK169.out 4
                      have hfz43_5 := blk_frozen BK169.out 5
                      have hfz43_6 := blk_frozen BK169.out 6
                      have hfz43_7 := blk_frozen BK169.out 7
                      have hfz43_8 := blk_frozen BK169.out 8
                      have hfz43_9 := blk_frozen BK169.out 9
                      have hfz43_10 := blk_frozen BK169.out 10
                      go_wp2_with (first | ((with_reducible refine gate_callee (f := 44) rfl ?_); refine goesL_ (some 25) rfl rfl Tryz.func44 (by kernel_rfl) rfl #[.int .i64 a0_1, .int .i64 1900, .int .i64 2100] rfl (by (try simp only [List.map_toArray, List.map_cons, List.map_nil]); first | done | rfl | (simp only [List.length_drop, List.length_take]; rfl)) ?_; (with_reducible refine (rule_within.calls a0_1 1900 2100 true _ A18.out).mono ?_); rintro e w' ⟨rfl, ⟨nd, rfl⟩⟩; refine ⟨_, rfl, ?_⟩) | (go_at_call 44; (with_reducible refine (rule_within.calls a0_2 a0_1 2100 true _ A20.out).mono ?_); rintro e w' ⟨rfl, ⟨nd, rfl⟩⟩) | (go_at_call 44; (with_reducible refine (rule_within.calls a0_3 1 12 true _ A22.out).mono ?_); rintro e w' ⟨rfl, ⟨nd, rfl⟩⟩) | ((with_reducible refine gate_callee (f := 45) rfl ?_); refine goesL_ (some 43) rfl rfl Tryz.func45 (by kernel_rfl) rfl #[.agg #[.int .i64 a0_4, .int .i64 a0_5, .int .i64 a0_6]] rfl (by (try simp only [List.map_toArray, List.map_cons, List.map_nil]); first | done | rfl | (simp only [List.length_drop, List.length_take]; rfl)) ?_; (with_reducible refine (day_Check.calls kj1 a0_4 a0_5 a0_6 t175 _ A24.out).mono ?_); rintro e w44 ⟨rfl, hb⟩; refine ⟨_, rfl, ?_⟩; have n0_ := Aside0.mk (blk_below (g := gb169) (o := .cells #[.string a0_0, .int .i64 a0_1, .int .i64 a0_2, .int .i64 a0_3, .int .i64 a0_4, .int .i64 a0_5, .int .i64 a0_6, .int .i64 a0_7, .int .i64 a0_8, .int .i64 a0_9, .string a0_10] 65 (0, 0)) (by (with_reducible repeat (first | refine blk_drewN ?_ _ | refine blk_drew ?_ | refine blk_alloc ?_ _)); exact BK169.out) hb); have n1_ := Aside0.mk (below_step (by repeat (first | (with_reducible first | exact HB.out | apply below_alloc | apply pw_below_drewN | apply below_drew1 | refine below_set ?_ GE169.out) | exact HB.out)) hb); clear BK169; clear HB; have BK169 := n0_; have HB := n1_; clear n0_ n1_; (try clear hb); (try clear hb2); (try clear hk); (try clear hi); have hcz45_0 : w44.cell? ⟨gb169, 0, none⟩ = some (.string a0_0) := (blk_cell BK169.out 0).trans rfl; have hcz45_1 : w44.cell? ⟨gb169, 1, none⟩ = some (.int .i64 a0_1) := (blk_cell BK169.out 1).trans rfl; have hcz45_2 : w44.cell? ⟨gb169, 2, none⟩ = some (.int .i64 a0_2) := (blk_cell BK169.out 2).trans rfl; have hcz45_3 : w44.cell? ⟨gb169, 3, none⟩ = some (.int .i64 a0_3) := (blk_cell BK169.out 3).trans rfl; have hcz45_4 : w44.cell? ⟨gb169, 4, none⟩ = some (.int .i64 a0_4) := (blk_cell BK169.out 4).trans rfl; have hcz45_5 : w44.cell? ⟨gb169, 5, none⟩ = some (.int .i64 a0_5) := (blk_cell BK169.out 5).trans rfl; have hcz45_6 : w44.cell? ⟨gb169, 6, none⟩ = some (.int .i64 a0_6) := (blk_cell BK169.out 6).trans rfl; have hcz45_7 : w44.cell? ⟨gb169, 7, none⟩ = some (.int .i64 a0_7) := (blk_cell BK169.out 7).trans rfl; have hcz45_8 : w44.cell? ⟨gb169, 8, none⟩ = some (.int .i64 a0_8) := (blk_cell BK169.out 8).trans rfl; have hcz45_9 : w44.cell? ⟨gb169, 9, none⟩ = some (.int .i64 a0_9) := (blk_cell BK169.out 9).trans rfl; have hcz45_10 : w44.cell? ⟨gb169, 10, none⟩ = some (.string a0_10) := (blk_cell BK169.out 10).trans rfl; have hfz45_0 := blk_frozen BK169.out 0; have hfz45_1 := blk_frozen BK169.out 1; have hfz45_2 := blk_frozen BK169.out 2; have hfz45_3 := blk_frozen BK169.out 3; have hfz45_4 := blk_frozen BK169.out 4; have hfz45_5 := blk_frozen BK169.out 5; have hfz45_6 := blk_frozen BK169.out 6; have hfz45_7 := blk_frozen BK169.out 7; have hfz45_8 := blk_frozen BK169.out 8; have hfz45_9 := blk_frozen BK169.out 9; have hfz45_10 := blk_frozen BK169.out 10) | ((with_reducible refine gate_callee (f := 46) rfl ?_); refine goesL_ (some 50) rfl rfl Tryz.func46 (by kernel_rfl) rfl #[.int .i64 1901, .int .i64 a0_3] rfl (by (try simp only [List.map_toArray, List.map_cons, List.map_nil]); first | done | rfl | (simp only [List.length_drop, List.length_take]; rfl)) ?_; (with_reducible refine (civil_Length.calls 1901 a0_3 t176 t177 _ A26.out).mono ?_); rintro e w' ⟨rfl, ⟨nd, rfl⟩⟩; refine ⟨_, rfl, ?_⟩) | (go_at_call 44; (with_reducible refine (rule_within.calls a0_7 (-604800) 604800 true _ A31.out).mono ?_); rintro e w' ⟨rfl, ⟨nd, rfl⟩⟩) | (go_at_call 44; (with_reducible refine (rule_within.calls a0_8 0 2 false _ A33.out).mono ?_); rintro e w' ⟨rfl, ⟨nd, rfl⟩⟩))
                      go_ret
                      exact ⟨by first | rfl | (simp [errW_none, errW_some] <;> rfl) | (simp [*, errW_none, errW_some] <;> rfl), by repeat (first | (with_reducible first | exact HB.out | apply below_alloc | apply pw_below_drewN | apply below_drew1 | refine below_set ?_ GE169.out) | exact HB.out)⟩
                  · replace c32 := Bool.eq_false_iff.mpr c32
                    subst c32
                    have H1 : (some 1) = some r := by rw [if_neg (show ¬ (false = true) by decide)] at H; exact H
                    clear H
                    have H := H1
                    clear H1
                    obtain rfl := Option.some.inj H
                    have hcz46_0 : wc.cell? ⟨gb169, 0, none⟩ = some (.string a0_0) := (blk_cell BK169.out 0).trans rfl
                    have hcz46_1 : wc.cell? ⟨gb169, 1, none⟩ = some (.int .i64 a0_1) := (blk_cell BK169.out 1).trans rfl
                    have hcz46_2 : wc.cell? ⟨gb169, 2, none⟩ = some (.int .i64 a0_2) := (blk_cell BK169.out 2).trans rfl
                    have hcz46_3 : wc.cell? ⟨gb169, 3, none⟩ = some (.int .i64 a0_3) := (blk_cell BK169.out 3).trans rfl
                    have hcz46_4 : wc.cell? ⟨gb169, 4, none⟩ = some (.int .i64 a0_4) := (blk_cell BK169.out 4).trans rfl
                    have hcz46_5 : wc.cell? ⟨gb169, 5, none⟩ = some (.int .i64 a0_5) := (blk_cell BK169.out 5).trans rfl
                    have hcz46_6 : wc.cell? ⟨gb169, 6, none⟩ = some (.int .i64 a0_6) := (blk_cell BK169.out 6).trans rfl
                    have hcz46_7 : wc.cell? ⟨gb169, 7, none⟩ = some (.int .i64 a0_7) := (blk_cell BK169.out 7).trans rfl
                    have hcz46_8 : wc.cell? ⟨gb169, 8, none⟩ = some (.int .i64 a0_8) := (blk_cell BK169.out 8).trans rfl
                    have hcz46_9 : wc.cell? ⟨gb169, 9, none⟩ = some (.int .i64 a0_9) := (blk_cell BK169.out 9).trans rfl
                    have hcz46_10 : wc.cell? ⟨gb169, 10, none⟩ = some (.string a0_10) := (blk_cell BK169.out 10).trans rfl
                    have hfz46_0 := blk_frozen BK169.out 0
                    have hfz46_1 := blk_frozen BK169.out 1
                    have hfz46_2 := blk_frozen BK169.out 2
                    have hfz46_3 := blk_frozen BK169.out 3
                    have hfz46_4 := blk_frozen BK169.out 4
                    have hfz46_5 := blk_frozen BK169.out 5
                    have hfz46_6 := blk_frozen BK169.out 6
                    have hfz46_7 := blk_frozen BK169.out 7
                    have hfz46_8 := blk_frozen BK169.out 8
                    have hfz46_9 := blk_frozen BK169.out 9
                    have hfz46_10 := blk_frozen BK169.out 10
                    go_wp2_with (first | ((with_reducible refine gate_callee (f := 44) rfl ?_); refine goesL_ (some 25) rfl rfl Tryz.func44 (by kernel_rfl) rfl #[.int .i64 a0_1, .int .i64 1900, .int .i64 2100] rfl (by (try simp only [List.map_toArray, List.map_cons, List.map_nil]); first | done | rfl | (simp only [List.length_drop, List.length_take]; rfl)) ?_; (with_reducible refine (rule_within.calls a0_1 1900 2100 true _ A18.out).mono ?_); rintro e w' ⟨rfl, ⟨nd, rfl⟩⟩; refine ⟨_, rfl, ?_⟩) | (go_at_call 44; (with_reducible refine (rule_within.calls a0_2 a0_1 2100 true _ A20.out).mono ?_); rintro e w' ⟨rfl, ⟨nd, rfl⟩⟩) | (go_at_call 44; (with_reducible refine (rule_within.calls a0_3 1 12 true _ A22.out).mono ?_); rintro e w' ⟨rfl, ⟨nd, rfl⟩⟩) | ((with_reducible refine gate_callee (f := 45) rfl ?_); refine goesL_ (some 43) rfl rfl Tryz.func45 (by kernel_rfl) rfl #[.agg #[.int .i64 a0_4, .int .i64 a0_5, .int .i64 a0_6]] rfl (by (try simp only [List.map_toArray, List.map_cons, List.map_nil]); first | done | rfl | (simp only [List.length_drop, List.length_take]; rfl)) ?_; (with_reducible refine (day_Check.calls kj1 a0_4 a0_5 a0_6 t175 _ A24.out).mono ?_); rintro e w47 ⟨rfl, hb⟩; refine ⟨_, rfl, ?_⟩; have n0_ := Aside0.mk (blk_below (g := gb169) (o := .cells #[.string a0_0, .int .i64 a0_1, .int .i64 a0_2, .int .i64 a0_3, .int .i64 a0_4, .int .i64 a0_5, .int .i64 a0_6, .int .i64 a0_7, .int .i64 a0_8, .int .i64 a0_9, .string a0_10] 65 (0, 0)) (by (with_reducible repeat (first | refine blk_drewN ?_ _ | refine blk_drew ?_ | refine blk_alloc ?_ _)); exact BK169.out) hb); have n1_ := Aside0.mk (below_step (by repeat (first | (with_reducible first | exact HB.out | apply below_alloc | apply pw_below_drewN | apply below_drew1 | refine below_set ?_ GE169.out) | exact HB.out)) hb); clear BK169; clear HB; have BK169 := n0_; have HB := n1_; clear n0_ n1_; (try clear hb); (try clear hb2); (try clear hk); (try clear hi); have hcz48_0 : w47.cell? ⟨gb169, 0, none⟩ = some (.string a0_0) := (blk_cell BK169.out 0).trans rfl; have hcz48_1 : w47.cell? ⟨gb169, 1, none⟩ = some (.int .i64 a0_1) := (blk_cell BK169.out 1).trans rfl; have hcz48_2 : w47.cell? ⟨gb169, 2, none⟩ = some (.int .i64 a0_2) := (blk_cell BK169.out 2).trans rfl; have hcz48_3 : w47.cell? ⟨gb169, 3, none⟩ = some (.int .i64 a0_3) := (blk_cell BK169.out 3).trans rfl; have hcz48_4 : w47.cell? ⟨gb169, 4, none⟩ = some (.int .i64 a0_4) := (blk_cell BK169.out 4).trans rfl; have hcz48_5 : w47.cell? ⟨gb169, 5, none⟩ = some (.int .i64 a0_5) := (blk_cell BK169.out 5).trans rfl; have hcz48_6 : w47.cell? ⟨gb169, 6, none⟩ = some (.int .i64 a0_6) := (blk_cell BK169.out 6).trans rfl; have hcz48_7 : w47.cell? ⟨gb169, 7, none⟩ = some (.int .i64 a0_7) := (blk_cell BK169.out 7).trans rfl; have hcz48_8 : w47.cell? ⟨gb169, 8, none⟩ = some (.int .i64 a0_8) := (blk_cell BK169.out 8).trans rfl; have hcz48_9 : w47.cell? ⟨gb169, 9, none⟩ = some (.int .i64 a0_9) := (blk_cell BK169.out 9).trans rfl; have hcz48_10 : w47.cell? ⟨gb169, 10, none⟩ = some (.string a0_10) := (blk_cell BK169.out 10).trans rfl; have hfz48_0 := blk_frozen BK169.out 0; have hfz48_1 := blk_frozen BK169.out 1; have hfz48_2 := blk_frozen BK169.out 2; have hfz48_3 := blk_frozen BK169.out 3; have hfz48_4 := blk_frozen BK169.out 4; have hfz48_5 := blk_frozen BK169.out 5; have hfz48_6 := blk_frozen BK169.out 6; have hfz48_7 := blk_frozen BK169.out 7; have hfz48_8 := blk_frozen BK169.out 8; have hfz48_9 := blk_frozen BK169.out 9; have hfz48_10 := blk_frozen BK169.out 10) | ((with_reducible refine gate_callee (f := 46) rfl ?_); refine goesL_ (some 50) rfl rfl Tryz.func46 (by kernel_rfl) rfl #[.int .i64 1901, .int .i64 a0_3] rfl (by (try simp only [List.map_toArray, List.map_cons, List.map_nil]); first | done | rfl | (simp only [List.length_drop, List.length_take]; rfl)) ?_; (with_reducible refine (civil_Length.calls 1901 a0_3 t176 t177 _ A26.out).mono ?_); rintro e w' ⟨rfl, ⟨nd, rfl⟩⟩; refine ⟨_, rfl, ?_⟩) | (go_at_call 44; (with_reducible refine (rule_within.calls a0_7 (-604800) 604800 false _ A31.out).mono ?_); rintro e w' ⟨rfl, ⟨nd, rfl⟩⟩))
                    go_ret
                    exact ⟨by first | rfl | (simp [errW_none, errW_some] <;> rfl) | (simp [*, errW_none, errW_some] <;> rfl), by repeat (first | (with_reducible first | exact HB.out | apply below_alloc | apply pw_below_drewN | apply below_drew1 | refine below_set ?_ GE169.out) | exact HB.out)⟩
              · rw [if_neg c25] at H
                have c25b0 : (t175 == 0) = false := beq_eq_false_iff_ne.mpr c25
                have c25b1 : (t175 != 0) = true := bne_iff_ne.mpr c25
                obtain rfl := Option.some.inj H
                have hcz49_0 : wc.cell? ⟨gb169, 0, none⟩ = some (.string a0_0) := (blk_cell BK169.out 0).trans rfl
                have hcz49_1 : wc.cell? ⟨gb169, 1, none⟩ = some (.int .i64 a0_1) := (blk_cell BK169.out 1).trans rfl
                have hcz49_2 : wc.cell? ⟨gb169, 2, none⟩ = some (.int .i64 a0_2) := (blk_cell BK169.out 2).trans rfl
                have hcz49_3 : wc.cell? ⟨gb169, 3, none⟩ = some (.int .i64 a0_3) := (blk_cell BK169.out 3).trans rfl
                have hcz49_4 : wc.cell? ⟨gb169, 4, none⟩ = some (.int .i64 a0_4) := (blk_cell BK169.out 4).trans rfl
                have hcz49_5 : wc.cell? ⟨gb169, 5, none⟩ = some (.int .i64 a0_5) := (blk_cell BK169.out 5).trans rfl
                have hcz49_6 : wc.cell? ⟨gb169, 6, none⟩ = some (.int .i64 a0_6) := (blk_cell BK169.out 6).trans rfl
                have hcz49_7 : wc.cell? ⟨gb169, 7, none⟩ = some (.int .i64 a0_7) := (blk_cell BK169.out 7).trans rfl
                have hcz49_8 : wc.cell? ⟨gb169, 8, none⟩ = some (.int .i64 a0_8) := (blk_cell BK169.out 8).trans rfl
                have hcz49_9 : wc.cell? ⟨gb169, 9, none⟩ = some (.int .i64 a0_9) := (blk_cell BK169.out 9).trans rfl
                have hcz49_10 : wc.cell? ⟨gb169, 10, none⟩ = some (.string a0_10) := (blk_cell BK169.out 10).trans rfl
                have hfz49_0 := blk_frozen BK169.out 0
                have hfz49_1 := blk_frozen BK169.out 1
                have hfz49_2 := blk_frozen BK169.out 2
                have hfz49_3 := blk_frozen BK169.out 3
                have hfz49_4 := blk_frozen BK169.out 4
                have hfz49_5 := blk_frozen BK169.out 5
                have hfz49_6 := blk_frozen BK169.out 6
                have hfz49_7 := blk_frozen BK169.out 7
                have hfz49_8 := blk_frozen BK169.out 8
                have hfz49_9 := blk_frozen BK169.out 9
                have hfz49_10 := blk_frozen BK169.out 10
                go_wp2_with (first | ((with_reducible refine gate_callee (f := 44) rfl ?_); refine goesL_ (some 25) rfl rfl Tryz.func44 (by kernel_rfl) rfl #[.int .i64 a0_1, .int .i64 1900, .int .i64 2100] rfl (by (try simp only [List.map_toArray, List.map_cons, List.map_nil]); first | done | rfl | (simp only [List.length_drop, List.length_take]; rfl)) ?_; (with_reducible refine (rule_within.calls a0_1 1900 2100 true _ A18.out).mono ?_); rintro e w' ⟨rfl, ⟨nd, rfl⟩⟩; refine ⟨_, rfl, ?_⟩) | (go_at_call 44; (with_reducible refine (rule_within.calls a0_2 a0_1 2100 true _ A20.out).mono ?_); rintro e w' ⟨rfl, ⟨nd, rfl⟩⟩) | (go_at_call 44; (with_reducible refine (rule_within.calls a0_3 1 12 true _ A22.out).mono ?_); rintro e w' ⟨rfl, ⟨nd, rfl⟩⟩) | ((with_reducible refine gate_callee (f := 45) rfl ?_); refine goesL_ (some 43) rfl rfl Tryz.func45 (by kernel_rfl) rfl #[.agg #[.int .i64 a0_4, .int .i64 a0_5, .int .i64 a0_6]] rfl (by (try simp only [List.map_toArray, List.map_cons, List.map_nil]); first | done | rfl | (simp only [List.length_drop, List.length_take]; rfl)) ?_; (with_reducible refine (day_Check.calls kj1 a0_4 a0_5 a0_6 t175 _ A24.out).mono ?_); rintro e w50 ⟨rfl, hb⟩; refine ⟨_, rfl, ?_⟩; have n0_ := Aside0.mk (blk_below (g := gb169) (o := .cells #[.string a0_0, .int .i64 a0_1, .int .i64 a0_2, .int .i64 a0_3, .int .i64 a0_4, .int .i64 a0_5, .int .i64 a0_6, .int .i64 a0_7, .int .i64 a0_8, .int .i64 a0_9, .string a0_10] 65 (0, 0)) (by (with_reducible repeat (first | refine blk_drewN ?_ _ | refine blk_drew ?_ | refine blk_alloc ?_ _)); exact BK169.out) hb); have n1_ := Aside0.mk (below_step (by repeat (first | (with_reducible first | exact HB.out | apply below_alloc | apply pw_below_drewN | apply below_drew1 | refine below_set ?_ GE169.out) | exact HB.out)) hb); clear BK169; clear HB; have BK169 := n0_; have HB := n1_; clear n0_ n1_; (try clear hb); (try clear hb2); (try clear hk); (try clear hi)))
                go_ret
                exact ⟨by first | rfl | (simp [errW_none, errW_some] <;> rfl) | (simp [*, errW_none, errW_some] <;> rfl), by repeat (first | (with_reducible first | exact HB.out | apply below_alloc | apply pw_below_drewN | apply below_drew1 | refine below_set ?_ GE169.out) | exact HB.out)⟩
            · replace c23 := Bool.eq_false_iff.mpr c23
              subst c23
              have H1 : (some 1) = some r := by rw [if_neg (show ¬ (false = true) by decide)] at H; exact H
              clear H
              have H := H1
              clear H1
              obtain rfl := Option.some.inj H
              have hcz51_0 : wc.cell? ⟨gb169, 0, none⟩ = some (.string a0_0) := (blk_cell BK169.out 0).trans rfl
              have hcz51_1 : wc.cell? ⟨gb169, 1, none⟩ = some (.int .i64 a0_1) := (blk_cell BK169.out 1).trans rfl
              have hcz51_2 : wc.cell? ⟨gb169, 2, none⟩ = some (.int .i64 a0_2) := (blk_cell BK169.out 2).trans rfl
              have hcz51_3 : wc.cell? ⟨gb169, 3, none⟩ = some (.int .i64 a0_3) := (blk_cell BK169.out 3).trans rfl
              have hcz51_4 : wc.cell? ⟨gb169, 4, none⟩ = some (.int .i64 a0_4) := (blk_cell BK169.out 4).trans rfl
              have hcz51_5 : wc.cell? ⟨gb169, 5, none⟩ = some (.int .i64 a0_5) := (blk_cell BK169.out 5).trans rfl
              have hcz51_6 : wc.cell? ⟨gb169, 6, none⟩ = some (.int .i64 a0_6) := (blk_cell BK169.out 6).trans rfl
              have hcz51_7 : wc.cell? ⟨gb169, 7, none⟩ = some (.int .i64 a0_7) := (blk_cell BK169.out 7).trans rfl
              have hcz51_8 : wc.cell? ⟨gb169, 8, none⟩ = some (.int .i64 a0_8) := (blk_cell BK169.out 8).trans rfl
              have hcz51_9 : wc.cell? ⟨gb169, 9, none⟩ = some (.int .i64 a0_9) := (blk_cell BK169.out 9).trans rfl
              have hcz51_10 : wc.cell? ⟨gb169, 10, none⟩ = some (.string a0_10) := (blk_cell BK169.out 10).trans rfl
              have hfz51_0 := blk_frozen BK169.out 0
              have hfz51_1 := blk_frozen BK169.out 1
              have hfz51_2 := blk_frozen BK169.out 2
              have hfz51_3 := blk_frozen BK169.out 3
              have hfz51_4 := blk_frozen BK169.out 4
              have hfz51_5 := blk_frozen BK169.out 5
              have hfz51_6 := blk_frozen BK169.out 6
              have hfz51_7 := blk_frozen BK169.out 7
              have hfz51_8 := blk_frozen BK169.out 8
              have hfz51_9 := blk_frozen BK169.out 9
              have hfz51_10 := blk_frozen BK169.out 10
              go_wp2_with (first | ((with_reducible refine gate_callee (f := 44) rfl ?_); refine goesL_ (some 25) rfl rfl Tryz.func44 (by kernel_rfl) rfl #[.int .i64 a0_1, .int .i64 1900, .int .i64 2100] rfl (by (try simp only [List.map_toArray, List.map_cons, List.map_nil]); first | done | rfl | (simp only [List.length_drop, List.length_take]; rfl)) ?_; (with_reducible refine (rule_within.calls a0_1 1900 2100 true _ A18.out).mono ?_); rintro e w' ⟨rfl, ⟨nd, rfl⟩⟩; refine ⟨_, rfl, ?_⟩) | (go_at_call 44; (with_reducible refine (rule_within.calls a0_2 a0_1 2100 true _ A20.out).mono ?_); rintro e w' ⟨rfl, ⟨nd, rfl⟩⟩) | (go_at_call 44; (with_reducible refine (rule_within.calls a0_3 1 12 false _ A22.out).mono ?_); rintro e w' ⟨rfl, ⟨nd, rfl⟩⟩))
              go_ret
              exact ⟨by first | rfl | (simp [errW_none, errW_some] <;> rfl) | (simp [*, errW_none, errW_some] <;> rfl), by repeat (first | (with_reducible first | exact HB.out | apply below_alloc | apply pw_below_drewN | apply below_drew1 | refine below_set ?_ GE169.out) | exact HB.out)⟩
          · replace c21 := Bool.eq_false_iff.mpr c21
            subst c21
            have H1 : (some 1) = some r := by rw [if_neg (show ¬ (false = true) by decide)] at H; exact H
            clear H
            have H := H1
            clear H1
            obtain rfl := Option.some.inj H
            have hcz52_0 : wc.cell? ⟨gb169, 0, none⟩ = some (.string a0_0) := (blk_cell BK169.out 0).trans rfl
            have hcz52_1 : wc.cell? ⟨gb169, 1, none⟩ = some (.int .i64 a0_1) := (blk_cell BK169.out 1).trans rfl
            have hcz52_2 : wc.cell? ⟨gb169, 2, none⟩ = some (.int .i64 a0_2) := (blk_cell BK169.out 2).trans rfl
            have hcz52_3 : wc.cell? ⟨gb169, 3, none⟩ = some (.int .i64 a0_3) := (blk_cell BK169.out 3).trans rfl
            have hcz52_4 : wc.cell? ⟨gb169, 4, none⟩ = some (.int .i64 a0_4) := (blk_cell BK169.out 4).trans rfl
            have hcz52_5 : wc.cell? ⟨gb169, 5, none⟩ = some (.int .i64 a0_5) := (blk_cell BK169.out 5).trans rfl
            have hcz52_6 : wc.cell? ⟨gb169, 6, none⟩ = some (.int .i64 a0_6) := (blk_cell BK169.out 6).trans rfl
            have hcz52_7 : wc.cell? ⟨gb169, 7, none⟩ = some (.int .i64 a0_7) := (blk_cell BK169.out 7).trans rfl
            have hcz52_8 : wc.cell? ⟨gb169, 8, none⟩ = some (.int .i64 a0_8) := (blk_cell BK169.out 8).trans rfl
            have hcz52_9 : wc.cell? ⟨gb169, 9, none⟩ = some (.int .i64 a0_9) := (blk_cell BK169.out 9).trans rfl
            have hcz52_10 : wc.cell? ⟨gb169, 10, none⟩ = some (.string a0_10) := (blk_cell BK169.out 10).trans rfl
            have hfz52_0 := blk_frozen BK169.out 0
            have hfz52_1 := blk_frozen BK169.out 1
            have hfz52_2 := blk_frozen BK169.out 2
            have hfz52_3 := blk_frozen BK169.out 3
            have hfz52_4 := blk_frozen BK169.out 4
            have hfz52_5 := blk_frozen BK169.out 5
            have hfz52_6 := blk_frozen BK169.out 6
            have hfz52_7 := blk_frozen BK169.out 7
            have hfz52_8 := blk_frozen BK169.out 8
            have hfz52_9 := blk_frozen BK169.out 9
            have hfz52_10 := blk_frozen BK169.out 10
            go_wp2_with (first | ((with_reducible refine gate_callee (f := 44) rfl ?_); refine goesL_ (some 25) rfl rfl Tryz.func44 (by kernel_rfl) rfl #[.int .i64 a0_1, .int .i64 1900, .int .i64 2100] rfl (by (try simp only [List.map_toArray, List.map_cons, List.map_nil]); first | done | rfl | (simp only [List.length_drop, List.length_take]; rfl)) ?_; (with_reducible refine (rule_within.calls a0_1 1900 2100 true _ A18.out).mono ?_); rintro e w' ⟨rfl, ⟨nd, rfl⟩⟩; refine ⟨_, rfl, ?_⟩) | (go_at_call 44; (with_reducible refine (rule_within.calls a0_2 a0_1 2100 false _ A20.out).mono ?_); rintro e w' ⟨rfl, ⟨nd, rfl⟩⟩))
            go_ret
            exact ⟨by first | rfl | (simp [errW_none, errW_some] <;> rfl) | (simp [*, errW_none, errW_some] <;> rfl), by repeat (first | (with_reducible first | exact HB.out | apply below_alloc | apply pw_below_drewN | apply below_drew1 | refine below_set ?_ GE169.out) | exact HB.out)⟩
        · replace c19 := Bool.eq_false_iff.mpr c19
          subst c19
          have H1 : (some 1) = some r := by rw [if_neg (show ¬ (false = true) by decide)] at H; exact H
          clear H
          have H := H1
          clear H1
          obtain rfl := Option.some.inj H
          have hcz53_0 : wc.cell? ⟨gb169, 0, none⟩ = some (.string a0_0) := (blk_cell BK169.out 0).trans rfl
          have hcz53_1 : wc.cell? ⟨gb169, 1, none⟩ = some (.int .i64 a0_1) := (blk_cell BK169.out 1).trans rfl
          have hcz53_2 : wc.cell? ⟨gb169, 2, none⟩ = some (.int .i64 a0_2) := (blk_cell BK169.out 2).trans rfl
          have hcz53_3 : wc.cell? ⟨gb169, 3, none⟩ = some (.int .i64 a0_3) := (blk_cell BK169.out 3).trans rfl
          have hcz53_4 : wc.cell? ⟨gb169, 4, none⟩ = some (.int .i64 a0_4) := (blk_cell BK169.out 4).trans rfl
          have hcz53_5 : wc.cell? ⟨gb169, 5, none⟩ = some (.int .i64 a0_5) := (blk_cell BK169.out 5).trans rfl
          have hcz53_6 : wc.cell? ⟨gb169, 6, none⟩ = some (.int .i64 a0_6) := (blk_cell BK169.out 6).trans rfl
          have hcz53_7 : wc.cell? ⟨gb169, 7, none⟩ = some (.int .i64 a0_7) := (blk_cell BK169.out 7).trans rfl
          have hcz53_8 : wc.cell? ⟨gb169, 8, none⟩ = some (.int .i64 a0_8) := (blk_cell BK169.out 8).trans rfl
          have hcz53_9 : wc.cell? ⟨gb169, 9, none⟩ = some (.int .i64 a0_9) := (blk_cell BK169.out 9).trans rfl
          have hcz53_10 : wc.cell? ⟨gb169, 10, none⟩ = some (.string a0_10) := (blk_cell BK169.out 10).trans rfl
          have hfz53_0 := blk_frozen BK169.out 0
          have hfz53_1 := blk_frozen BK169.out 1
          have hfz53_2 := blk_frozen BK169.out 2
          have hfz53_3 := blk_frozen BK169.out 3
          have hfz53_4 := blk_frozen BK169.out 4
          have hfz53_5 := blk_frozen BK169.out 5
          have hfz53_6 := blk_frozen BK169.out 6
          have hfz53_7 := blk_frozen BK169.out 7
          have hfz53_8 := blk_frozen BK169.out 8
          have hfz53_9 := blk_frozen BK169.out 9
          have hfz53_10 := blk_frozen BK169.out 10
          go_wp2_with (first | ((with_reducible refine gate_callee (f := 44) rfl ?_); refine goesL_ (some 25) rfl rfl Tryz.func44 (by kernel_rfl) rfl #[.int .i64 a0_1, .int .i64 1900, .int .i64 2100] rfl (by (try simp only [List.map_toArray, List.map_cons, List.map_nil]); first | done | rfl | (simp only [List.length_drop, List.length_take]; rfl)) ?_; (with_reducible refine (rule_within.calls a0_1 1900 2100 false _ A18.out).mono ?_); rintro e w' ⟨rfl, ⟨nd, rfl⟩⟩; refine ⟨_, rfl, ?_⟩))
          go_ret
          exact ⟨by first | rfl | (simp [errW_none, errW_some] <;> rfl) | (simp [*, errW_none, errW_some] <;> rfl), by repeat (first | (with_reducible first | exact HB.out | apply below_alloc | apply pw_below_drewN | apply below_drew1 | refine below_set ?_ GE169.out) | exact HB.out)⟩
end Go.Proofs.YtmgnnplcnmhbaaaGreatDoor.PT
end
section
namespace Go.Proofs.YtmgnnplcnmhbaaaGreatDoor.PT
open Go.RowKit Go.Proofs.YtmgnnplcnmhbaaaGreatDoorW.PrintWords Go.Proofs.YtmgnnplcnmhbaaaGreatDoorW.PrintLast Go.Proofs.YtmgnnplcnmhbaaaGreatDoorW.PrintMore
attribute [local go_sem] max2_int min2_int max_two min_two max_three min_three max_four min_four   -- for this text's walks alone
set_option linter.unusedVariables false
set_option linter.unusedSimpArgs false
def book_isLetter.f (k : Nat) (a0 : ByteArray) : Option (Bool) := if a0.toList = ([45] : List UInt8) then (some true) else ((rule_IsAbbr.f k a0).bind fun t116 => (some t116))
theorem book_isLetter.mono : ∀ a0 k, LeO (book_isLetter.f k a0) (book_isLetter.f (k + 1) a0) := by
  intro a0 k
  unfold book_isLetter.f
  repeat' first
      | (with_reducible exact rule_IsAbbr.mono _ _)
      | (with_reducible exact LeO.refl _)
      | (with_reducible exact LeO.none _)
      | (with_reducible refine LeO.ite ?_ ?_)
      | (with_reducible refine LeO.bind ?_ (fun _ => ?_))
      | exact rule_IsAbbr.mono _ _
      | exact LeO.none _
      | refine LeO.ite ?_ ?_
      | refine LeO.bind ?_ (fun _ => ?_)
set_option maxHeartbeats 8000000 in
set_option maxRecDepth 100000 in
theorem book_isLetter.calls (k : Nat) (a0 : ByteArray) (r : Bool) (w : World) (hL : LaidT w) (h : book_isLetter.f k a0 = some r) :
    Calls Tryz.prog 24 #[.string a0] w fun e w' => e = .returned (.bool r) ∧ Below w.heap.size w w' := by
  have HB := Aside0.mk (Below.refl w.heap.size w)
  have HLA := Aside0.mk hL
  clear hL
  have H : (if a0.toList = ([45] : List UInt8) then (some true) else ((rule_IsAbbr.f k a0).bind fun t116 => (some t116))) = some r := h
  clear h
  by_cases c2 : a0.toList = ([45] : List UInt8)
  · rw [if_pos c2] at H
    have c2b0 : (a0.toList == ([45] : List UInt8)) = true := beq_iff_eq.mpr c2
    have c2b1 : (a0.toList != ([45] : List UInt8)) = false := bne_eq_false_iff_eq.mpr c2
    clear c2
    obtain rfl := Option.some.inj H
    go_enter Tryz.func24, Tryz.ntmps24
    go_wp2
    go_ret
    exact ⟨by first | rfl | (simp [errW_none, errW_some] <;> rfl) | (simp [*, errW_none, errW_some] <;> rfl), by repeat (first | (with_reducible first | exact HB.out | apply below_alloc | apply pw_below_drewN | apply below_drew1) | exact HB.out)⟩
  · rw [if_neg c2] at H
    have c2b0 : (a0.toList == ([45] : List UInt8)) = false := beq_eq_false_iff_ne.mpr c2
    have c2b1 : (a0.toList != ([45] : List UInt8)) = true := bne_iff_ne.mpr c2
    replace H := Option.bind_eq_some_iff.mp H
    obtain ⟨t116, A30, H⟩ := H
    replace H : (some t116) = some r := H
    have A3 := Aside0.mk A30
    clear A30
    obtain rfl := Option.some.inj H
    go_enter Tryz.func24, Tryz.ntmps24
    go_wp2_with (first | (go_at_call 13; (with_reducible refine (rule_IsAbbr.calls k a0 t116 _ ?side1 A3.out).mono ?_); (case side1 => exact LaidT.sub HLA.out (by repeat (first | (with_reducible first | exact HB.out | apply below_alloc | apply pw_below_drewN | apply below_drew1) | exact HB.out))); rintro e w4 ⟨rfl, hb⟩; have n0_ := Aside0.mk (below_step (by repeat (first | (with_reducible first | exact HB.out | apply below_alloc | apply pw_below_drewN | apply below_drew1) | exact HB.out)) hb); clear HB; have HB := n0_; clear n0_; (try clear hb); (try clear hb2); (try clear hk); (try clear hi)))
    go_ret
    exact ⟨by first | rfl | (simp [errW_none, errW_some] <;> rfl) | (simp [*, errW_none, errW_some] <;> rfl), by repeat (first | (with_reducible first | exact HB.out | apply below_alloc | apply pw_below_drewN | apply below_drew1) | exact HB.out)⟩
end Go.Proofs.YtmgnnplcnmhbaaaGreatDoor.PT
end
