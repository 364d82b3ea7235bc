/- Part 29 of 36 of the proof of bookAbbr_holds. What it holds was printed or written for this claim, text by text, and merged. -/
import Derived.Test.YtmgnnplcnmhbaaaGreatDoorZ28
import Derived.Test.YtmgnnplcnmhbaaaGreatDoorZ27
import Derived.Test.YtmgnnplcnmhbaaaGreatDoorZ26
import Derived.Test.YtmgnnplcnmhbaaaGreatDoorZ25
section
namespace Go.Proofs.YtmgnnplcnmhbaaaGreatDoor.PT
open Go.RowKit Go.Proofs.YtmgnnplcnmhbaaaGreatDoorW.PrintWords Go.Proofs.YtmgnnplcnmhbaaaGreatDoorW.PrintLast Go.Proofs.YtmgnnplcnmhbaaaGreatDoorW.PrintMore
attribute [local go_sem] max2_int min2_int max_two min_two max_three min_three max_four min_four   -- for this text's walks alone
set_option linter.unusedVariables false
set_option linter.unusedSimpArgs false
def book_split.l0 : Nat → ByteArray → List ByteArray → Int → Int → Option (ByteArray × ByteArray × ByteArray × Bool)
  | 0, _, _, _, _ => none
  | k + 1, x0, x14, x15, x16 => if x16 < x15 then (if 0 ≤ x16 then (if x16 < (x14.length : Int) then ((strings_Cut.f x0 (rdOf ByteArray.empty x14 x16)).bind fun bt110 => (if bt110.2.2 = true then (if (rdOf ByteArray.empty x14 x16).toList = ([47] : List UInt8) then ((rule_IsAbbr.f k bt110.1).bind fun t113 => (if t113 = true then ((rule_IsAbbr.f k bt110.2.1).bind fun t114 => (some (bt110.1, bt110.2.1, rdOf ByteArray.empty x14 x16, t114))) else (some (bt110.1, bt110.2.1, rdOf ByteArray.empty x14 x16, false)))) else (if bt110.1.size + bt110.2.1.size ≤ 9223372036854775807 then (if (bt110.1 ++ bt110.2.1).toList = ([] : List UInt8) then (some (bt110.1, bt110.2.1, rdOf ByteArray.empty x14 x16, true)) else (if ((bt110.1 ++ bt110.2.1).size : Int) ≤ 8 then ((rule_IsAbbr.f k (bt110.1 ++ bt110.2.1)).bind fun t115 => (some (bt110.1, bt110.2.1, rdOf ByteArray.empty x14 x16, t115))) else (some (bt110.1, bt110.2.1, rdOf ByteArray.empty x14 x16, false)))) else (none))) else (book_split.l0 k x0 x14 x15 (wrap64 (x16 + 1))))) else (none)) else (none)) else ((rule_IsAbbr.f k x0).bind fun t108 => (some (x0, (⟨#[]⟩ : ByteArray), (⟨#[]⟩ : ByteArray), t108)))
def book_split.f (k : Nat) (a0 : ByteArray) : Option (ByteArray × ByteArray × ByteArray × Bool) := if (a0.size : Int) > 12 then (some ((⟨#[]⟩ : ByteArray), (⟨#[]⟩ : ByteArray), (⟨#[]⟩ : ByteArray), false)) else ((some (([(⟨#[47]⟩ : ByteArray), (⟨#[37]⟩ : ByteArray)] : List ByteArray) : List ByteArray)).bind fun y105 => (book_split.l0 k a0 y105 (y105.length : Int) 0))
theorem book_split.mono_l : ∀ k, (∀ y0 y1 y2 y3, LeO (book_split.l0 k y0 y1 y2 y3) (book_split.l0 (k + 1) y0 y1 y2 y3))
  | 0 => fun _ _ _ _ r h => by simp [book_split.l0] at h
  | k + 1 => by
    have ih0 := book_split.mono_l k
    · intro y0 y1 y2 y3
      unfold book_split.l0
      repeat' first
      | (with_reducible exact ih0 _ _ _ _)
      | (with_reducible exact rule_IsAbbr.mono _ _)
      | (with_reducible exact LeO.refl _)
      | (with_reducible exact LeO.none _)
      | (with_reducible refine LeO.ite ?_ ?_)
      | (with_reducible refine LeO.bind ?_ (fun _ => ?_))
      | exact ih0 _ _ _ _
      | exact rule_IsAbbr.mono _ _
      | exact LeO.none _
      | refine LeO.ite ?_ ?_
      | refine LeO.bind ?_ (fun _ => ?_)
theorem book_split.mono : ∀ a0 k, LeO (book_split.f k a0) (book_split.f (k + 1) a0) := by
  intro a0 k
  have ih0 := book_split.mono_l k
  unfold book_split.f
  repeat' first
      | (with_reducible exact ih0 _ _ _ _)
      | (with_reducible exact rule_IsAbbr.mono _ _)
      | (with_reducible exact LeO.refl _)
      | (with_reducible exact LeO.none _)
      | (with_reducible refine LeO.ite ?_ ?_)
      | (with_reducible refine LeO.bind ?_ (fun _ => ?_))
      | exact ih0 _ _ _ _
      | exact rule_IsAbbr.mono _ _
      | exact LeO.none _
      | refine LeO.ite ?_ ?_
      | refine LeO.bind ?_ (fun _ => ?_)
set_option maxHeartbeats 8000000 in
set_option maxRecDepth 100000 in
theorem book_split.calls (k : Nat) (a0 : ByteArray) (r1 : ByteArray) (r2 : ByteArray) (r3 : ByteArray) (r4 : Bool) (w : World) (hL : LaidT w) (h : book_split.f k a0 = some (r1, r2, r3, r4)) :
    Calls Tryz.prog 23 #[.string a0] w fun e w' => e = .returned (.tuple #[.string r1, .string r2, .string r3, .bool r4]) ∧ Below w.heap.size w w' := by
  have HB := Aside0.mk (Below.refl w.heap.size w)
  have HLA := Aside0.mk hL
  clear hL
  have H : (if (a0.size : Int) > 12 then (some ((⟨#[]⟩ : ByteArray), (⟨#[]⟩ : ByteArray), (⟨#[]⟩ : ByteArray), false)) else ((some (([(⟨#[47]⟩ : ByteArray), (⟨#[37]⟩ : ByteArray)] : List ByteArray) : List ByteArray)).bind fun y105 => (book_split.l0 k a0 y105 (y105.length : Int) 0))) = some (r1, r2, r3, r4) := h
  clear h
  by_cases c2 : (a0.size : Int) > 12
  · rw [if_pos c2] at H
    have c2b0 : decide (12 < (a0.size : Int)) = true := decide_eq_true c2
    have c2b1 : decide (12 < a0.size) = true := decide_eq_true (by omega)
    clear c2
    simp only [Option.some.injEq, Prod.mk.injEq] at H
    obtain ⟨rfl, rfl, rfl, rfl⟩ := H
    go_enter Tryz.func23, Tryz.ntmps23
    go_wp2
    refine bodyPost_ret (results_list (rs := [.tmp 2, .tmp 3, .tmp 4, .tmp 5]) rfl (by simp) (.tmp (.tmp (.tmp (.tmp .nil))))) rfl ?_
    exact ⟨by first | rfl | (simp [errW_none, errW_some] <;> rfl) | (simp [*, errW_none, errW_some] <;> rfl), by repeat (first | (with_reducible first | exact HB.out | apply below_alloc | apply pw_below_drewN | apply below_drew1) | exact HB.out)⟩
  · rw [if_neg c2] at H
    have c2b0 : decide (12 < (a0.size : Int)) = false := decide_eq_false c2
    have c2b1 : decide (12 < a0.size) = false := decide_eq_false (by omega)
    clear c2
    obtain ⟨y105, hy105⟩ : ∃ y_ : List ByteArray, y_ = (([(⟨#[47]⟩ : ByteArray), (⟨#[37]⟩ : ByteArray)] : List ByteArray)) := ⟨_, rfl⟩
    replace H : (book_split.l0 k a0 y105 (y105.length : Int) 0) = some (r1, r2, r3, r4) := by first | (rw [hy105]; with_reducible exact H) | (have H2_ := (Option.bind_some _ _).symm.trans H; rw [hy105]; with_reducible exact H2_) | (have H2_ := (Option.bind_some _ _).symm.trans H; with_reducible exact H2_) | with_reducible exact H | (rw [hy105]; exact H) | exact H
    have Ny105 := Aside0.mk hy105
    clear hy105
    have H' := Aside0.mk H
    clear H
    go_enter Tryz.func23, Tryz.ntmps23
    go_wp2_with (first | ((with_reducible refine gate_dst (N := 14) rfl ?_); (try (refine gate_guard (by rfl) ?_; dsimp only)); refine Kd.R_lit Kd.string _ 9 ?hg (N := 14) ?hd (xs := ([(⟨#[47]⟩ : ByteArray), (⟨#[37]⟩ : ByteArray)] : List ByteArray)) (inner := [.string (⟨#[47]⟩ : ByteArray), .string (⟨#[37]⟩ : ByteArray)]) (ok := fun _ => True) (okp := fun _ => True) ?hr ?hp (fun _ hk => hk) trivial (Below.refl _ _) (Nat.le_refl _) (by simp) ?_; (case hd => rfl); (case hg => rfl); (case hr => first | (go_simp; done) | (go_simp; rfl)); (case hp => exact (Reps.one (show Kd.M Kd.string _ _ _ (⟨#[47]⟩ : ByteArray) [.string (⟨#[47]⟩ : ByteArray)] from rfl) (Reps.one (show Kd.M Kd.string _ _ _ (⟨#[37]⟩ : ByteArray) [.string (⟨#[37]⟩ : ByteArray)] from rfl) (Reps.none _ _)))); intro v106 w3 ho4 hb hg_ hnew_; clear hg_ hnew_; (first | rw [← Ny105.out] at ho4 | (simp only [Int.reduceToNat] at ho4; rw [← Ny105.out] at ho4)); have n0_ := Aside0.mk (Kd.R_lower ho4 (below_size (by repeat (first | (with_reducible first | exact HB.out | apply below_alloc | apply pw_below_drewN | apply below_drew1) | exact HB.out)))); have n1_ := Aside0.mk (below_step (by repeat (first | (with_reducible first | exact HB.out | apply below_alloc | apply pw_below_drewN | apply below_drew1) | exact HB.out)) hb); clear HB; have HO107 := n0_; have HB := n1_; clear n0_ n1_; clear hb ho4; obtain ⟨Ao5, co5, eo5⟩ := Kd.R_slice HO107.out; subst eo5))
    go_loopg [16] k (fun kq v16 w' => ∃ (x16_1 : Int), v16 = .int .i64 x16_1 ∧ Aside0 (book_split.l0 kq a0 y105 (y105.length : Int) x16_1 = some (r1, r2, r3, r4)) ∧ Aside0 (kq ≤ k) ∧ Aside0 (Kd.R Kd.string 9 w' w.heap.size (fun _ => True) (.slice Ao5 y105.length co5) y105) ∧ Aside0 (Below w.heap.size w w'))
    case atStart => exact ⟨(0), (by first | rfl | (simp; done) | (simp [*]; done)), H', ⟨Nat.le_refl _⟩, ⟨by (with_reducible repeat (first | apply Kd.R_alloc | apply Kd.R_drewN | apply Kd.R_drew)); exact HO107.out⟩, ⟨by repeat (first | (with_reducible first | exact HB.out | apply below_alloc | apply pw_below_drewN | apply below_drew1) | exact HB.out)⟩⟩
    case round =>
      clear H'
      try clear c2
      try clear c2b0
      try clear c2b1
      try clear p2
      obtain ⟨x16_1, rfl, HA, HK1, HO_14, HB⟩ := hrel
      cases gk with
      | zero => exact absurd HA.out (by simp [book_split.l0])
      | succ k1 =>
        have H := HA.out
        clear HA
        simp only [book_split.l0] at H
        by_cases c6 : x16_1 < (y105.length : Int)
        · rw [if_pos c6] at H
          have c6b0 : decide (x16_1 < (y105.length : Int)) = true := decide_eq_true c6
          clear c6
          by_cases c7 : 0 ≤ x16_1
          · rw [if_pos c7] at H
            have c7b0 : decide (0 ≤ x16_1) = true := decide_eq_true c7
            clear c7
            by_cases c8 : x16_1 < (y105.length : Int)
            · rw [if_pos c8] at H
              have c8b0 : decide (x16_1 < (y105.length : Int)) = true := decide_eq_true c8
              clear c8
              replace H := Option.bind_eq_some_iff.mp H
              obtain ⟨⟨t110, t111, t112⟩, A90, H⟩ := H
              replace H : (if t112 = true then (if (rdOf ByteArray.empty y105 x16_1).toList = ([47] : List UInt8) then ((rule_IsAbbr.f k1 t110).bind fun t113 => (if t113 = true then ((rule_IsAbbr.f k1 t111).bind fun t114 => (some (t110, t111, rdOf ByteArray.empty y105 x16_1, t114))) else (some (t110, t111, rdOf ByteArray.empty y105 x16_1, false)))) else (if t110.size + t111.size ≤ 9223372036854775807 then (if (t110 ++ t111).toList = ([] : List UInt8) then (some (t110, t111, rdOf ByteArray.empty y105 x16_1, true)) else (if ((t110 ++ t111).size : Int) ≤ 8 then ((rule_IsAbbr.f k1 (t110 ++ t111)).bind fun t115 => (some (t110, t111, rdOf ByteArray.empty y105 x16_1, t115))) else (some (t110, t111, rdOf ByteArray.empty y105 x16_1, false)))) else (none))) else (book_split.l0 k1 a0 y105 (y105.length : Int) (wrap64 (x16_1 + 1)))) = some (r1, r2, r3, r4) := H
              have A9 := Aside0.mk A90
              clear A90
              by_cases c10 : t112 = true
              · subst c10
                have H1 : (if (rdOf ByteArray.empty y105 x16_1).toList = ([47] : List UInt8) then ((rule_IsAbbr.f k1 t110).bind fun t113 => (if t113 = true then ((rule_IsAbbr.f k1 t111).bind fun t114 => (some (t110, t111, rdOf ByteArray.empty y105 x16_1, t114))) else (some (t110, t111, rdOf ByteArray.empty y105 x16_1, false)))) else (if t110.size + t111.size ≤ 9223372036854775807 then (if (t110 ++ t111).toList = ([] : List UInt8) then (some (t110, t111, rdOf ByteArray.empty y105 x16_1, true)) else (if ((t110 ++ t111).size : Int) ≤ 8 then ((rule_IsAbbr.f k1 (t110 ++ t111)).bind fun t115 => (some (t110, t111, rdOf ByteArray.empty y105 x16_1, t115))) else (some (t110, t111, rdOf ByteArray.empty y105 x16_1, false)))) else (none))) = some (r1, r2, r3, r4) := by rw [if_pos rfl] at H; exact H
                clear H
                have H := H1
                clear H1
                by_cases c11 : (rdOf ByteArray.empty y105 x16_1).toList = ([47] : List UInt8)
                · rw [if_pos c11] at H
                  have c11b0 : ((rdOf ByteArray.empty y105 x16_1).toList == ([47] : List UInt8)) = true := beq_iff_eq.mpr c11
                  have c11b1 : ((rdOf ByteArray.empty y105 x16_1).toList != ([47] : List UInt8)) = false := bne_eq_false_iff_eq.mpr c11
                  clear c11
                  replace H := Option.bind_eq_some_iff.mp H
                  obtain ⟨t113, A120, H⟩ := H
                  replace H : (if t113 = true then ((rule_IsAbbr.f k1 t111).bind fun t114 => (some (t110, t111, rdOf ByteArray.empty y105 x16_1, t114))) else (some (t110, t111, rdOf ByteArray.empty y105 x16_1, false))) = some (r1, r2, r3, r4) := H
                  have A12 := Aside0.mk A120
                  clear A120
                  by_cases c13 : t113 = true
                  · subst c13
                    have H1 : ((rule_IsAbbr.f k1 t111).bind fun t114 => (some (t110, t111, rdOf ByteArray.empty y105 x16_1, t114))) = some (r1, r2, r3, r4) := by rw [if_pos rfl] at H; exact H
                    clear H
                    have H := H1
                    clear H1
                    replace H := Option.bind_eq_some_iff.mp H
                    obtain ⟨t114, A140, H⟩ := H
                    replace H : (some (t110, t111, rdOf ByteArray.empty y105 x16_1, t114)) = some (r1, r2, r3, r4) := H
                    have A14 := Aside0.mk A140
                    clear A140
                    simp only [Option.some.injEq, Prod.mk.injEq] at H
                    obtain ⟨rfl, rfl, rfl, rfl⟩ := H
                    have p109 : 0 ≤ (x16_1 : Int) := of_decide_eq_true (by first | (with_reducible assumption) | assumption)
                    have q109 : x16_1 < (y105.length : Int) := of_decide_eq_true (by first | (with_reducible assumption) | assumption)
                    obtain ⟨ad109, e109, hx109_0⟩ := Kd.at_string (Kd.R_reads' HO_14.out).2.2 x16_1 p109 q109
                    cases e109
                    replace p109 := eq_true p109
                    replace q109 := eq_true q109
                    go_wp2_with (first | ((with_reducible refine gate_callee (f := 41) rfl ?_); refine goesL_ (some 23) rfl rfl Tryz.func41 (by kernel_rfl) rfl #[.string a0, .string (rdOf ByteArray.empty y105 x16_1)] rfl (by (try simp only [List.map_toArray, List.map_cons, List.map_nil]); first | done | rfl | (simp only [List.length_drop, List.length_take]; rfl)) ?_; (with_reducible refine (strings_Cut.calls a0 (rdOf ByteArray.empty y105 x16_1) t110 t111 true _ ?side1 A9.out).mono ?_); (case side1 => exact LaidT.sub HLA.out (by repeat (first | (with_reducible first | exact HB.out | apply below_alloc | apply pw_below_drewN | apply below_drew1) | exact HB.out))); rintro e w15 ⟨rfl, hb⟩; refine ⟨_, rfl, ?_⟩; have n0_ := Aside0.mk (Kd.R_below (by (with_reducible repeat (first | apply Kd.R_alloc | apply Kd.R_drewN | apply Kd.R_drew)); exact HO_14.out) hb); have n1_ := Aside0.mk (below_step (by repeat (first | (with_reducible first | exact HB.out | apply below_alloc | apply pw_below_drewN | apply below_drew1) | exact HB.out)) hb); clear HO_14; clear HB; have HO_14 := n0_; have HB := n1_; clear n0_ n1_; (try clear hb); (try clear hb2); (try clear hk); (try clear hi)) | ((with_reducible refine gate_callee (f := 13) rfl ?_); refine goesL_ (some 57) rfl rfl Tryz.func13 (by kernel_rfl) rfl #[.string t110] rfl (by (try simp only [List.map_toArray, List.map_cons, List.map_nil]); first | done | rfl | (simp only [List.length_drop, List.length_take]; rfl)) ?_; (with_reducible refine (rule_IsAbbr.calls k1 t110 true _ ?side1 A12.out).mono ?_); (case side1 => exact LaidT.sub HLA.out (by repeat (first | (with_reducible first | exact HB.out | apply below_alloc | apply pw_below_drewN | apply below_drew1) | exact HB.out))); rintro e w16 ⟨rfl, hb⟩; refine ⟨_, rfl, ?_⟩; have n0_ := Aside0.mk (Kd.R_below (by (with_reducible repeat (first | apply Kd.R_alloc | apply Kd.R_drewN | apply Kd.R_drew)); exact HO_14.out) hb); have n1_ := Aside0.mk (below_step (by repeat (first | (with_reducible first | exact HB.out | apply below_alloc | apply pw_below_drewN | apply below_drew1) | exact HB.out)) hb); clear HO_14; clear HB; have HO_14 := n0_; have HB := n1_; clear n0_ n1_; (try clear hb); (try clear hb2); (try clear hk); (try clear hi)) | (go_at_call 13; (with_reducible refine (rule_IsAbbr.calls k1 t111 t114 _ ?side1 A14.out).mono ?_); (case side1 => exact LaidT.sub HLA.out (by repeat (first | (with_reducible first | exact HB.out | apply below_alloc | apply pw_below_drewN | apply below_drew1) | exact HB.out))); rintro e w17 ⟨rfl, hb⟩; have n0_ := Aside0.mk (Kd.R_below (by (with_reducible repeat (first | apply Kd.R_alloc | apply Kd.R_drewN | apply Kd.R_drew)); exact HO_14.out) hb); have n1_ := Aside0.mk (below_step (by repeat (first | (with_reducible first | exact HB.out | apply below_alloc | apply pw_below_drewN | apply below_drew1) | exact HB.out)) hb); clear HO_14; clear HB; have HO_14 := n0_; have HB := n1_; clear n0_ n1_; (try clear hb); (try clear hb2); (try clear hk); (try clear hi)))
                    refine bodyPost_ret (results_list (rs := [.tmp 2, .tmp 3, .tmp 4, .tmp 5]) rfl (by simp) (.tmp (.tmp (.tmp (.tmp .nil))))) rfl ?_
                    exact ⟨by first | rfl | (simp [errW_none, errW_some] <;> rfl) | (simp [*, errW_none, errW_some] <;> rfl), by repeat (first | (with_reducible first | exact HB.out | apply below_alloc | apply pw_below_drewN | apply below_drew1) | exact HB.out)⟩
                  · replace c13 := Bool.eq_false_iff.mpr c13
                    subst c13
                    have H1 : (some (t110, t111, rdOf ByteArray.empty y105 x16_1, false)) = some (r1, r2, r3, r4) := by rw [if_neg (show ¬ (false = true) by decide)] at H; exact H
                    clear H
                    have H := H1
                    clear H1
                    simp only [Option.some.injEq, Prod.mk.injEq] at H
                    obtain ⟨rfl, rfl, rfl, rfl⟩ := H
                    have p109 : 0 ≤ (x16_1 : Int) := of_decide_eq_true (by first | (with_reducible assumption) | assumption)
                    have q109 : x16_1 < (y105.length : Int) := of_decide_eq_true (by first | (with_reducible assumption) | assumption)
                    obtain ⟨ad109, e109, hx109_0⟩ := Kd.at_string (Kd.R_reads' HO_14.out).2.2 x16_1 p109 q109
                    cases e109
                    replace p109 := eq_true p109
                    replace q109 := eq_true q109
                    go_wp2_with (first | ((with_reducible refine gate_callee (f := 41) rfl ?_); refine goesL_ (some 23) rfl rfl Tryz.func41 (by kernel_rfl) rfl #[.string a0, .string (rdOf ByteArray.empty y105 x16_1)] rfl (by (try simp only [List.map_toArray, List.map_cons, List.map_nil]); first | done | rfl | (simp only [List.length_drop, List.length_take]; rfl)) ?_; (with_reducible refine (strings_Cut.calls a0 (rdOf ByteArray.empty y105 x16_1) t110 t111 true _ ?side1 A9.out).mono ?_); (case side1 => exact LaidT.sub HLA.out (by repeat (first | (with_reducible first | exact HB.out | apply below_alloc | apply pw_below_drewN | apply below_drew1) | exact HB.out))); rintro e w18 ⟨rfl, hb⟩; refine ⟨_, rfl, ?_⟩; have n0_ := Aside0.mk (Kd.R_below (by (with_reducible repeat (first | apply Kd.R_alloc | apply Kd.R_drewN | apply Kd.R_drew)); exact HO_14.out) hb); have n1_ := Aside0.mk (below_step (by repeat (first | (with_reducible first | exact HB.out | apply below_alloc | apply pw_below_drewN | apply below_drew1) | exact HB.out)) hb); clear HO_14; clear HB; have HO_14 := n0_; have HB := n1_; clear n0_ n1_; (try clear hb); (try clear hb2); (try clear hk); (try clear hi)) | ((with_reducible refine gate_callee (f := 13) rfl ?_); refine goesL_ (some 57) rfl rfl Tryz.func13 (by kernel_rfl) rfl #[.string t110] rfl (by (try simp only [List.map_toArray, List.map_cons, List.map_nil]); first | done | rfl | (simp only [List.length_drop, List.length_take]; rfl)) ?_; (with_reducible refine (rule_IsAbbr.calls k1 t110 false _ ?side1 A12.out).mono ?_); (case side1 => exact LaidT.sub HLA.out (by repeat (first | (with_reducible first | exact HB.out | apply below_alloc | apply pw_below_drewN | apply below_drew1) | exact HB.out))); rintro e w19 ⟨rfl, hb⟩; refine ⟨_, rfl, ?_⟩; have n0_ := Aside0.mk (Kd.R_below (by (with_reducible repeat (first | apply Kd.R_alloc | apply Kd.R_drewN | apply Kd.R_drew)); exact HO_14.out) hb); have n1_ := Aside0.mk (below_step (by repeat (first | (with_reducible first | exact HB.out | apply below_alloc | apply pw_below_drewN | apply below_drew1) | exact HB.out)) hb); clear HO_14; clear HB; have HO_14 := n0_; have HB := n1_; clear n0_ n1_; (try clear hb); (try clear hb2); (try clear hk); (try clear hi)))
                    refine bodyPost_ret (results_list (rs := [.tmp 2, .tmp 3, .tmp 4, .tmp 5]) rfl (by simp) (.tmp (.tmp (.tmp (.tmp .nil))))) rfl ?_
                    exact ⟨by first | rfl | (simp [errW_none, errW_some] <;> rfl) | (simp [*, errW_none, errW_some] <;> rfl), by repeat (first | (with_reducible first | exact HB.out | apply below_alloc | apply pw_below_drewN | apply below_drew1) | exact HB.out)⟩
                · rw [if_neg c11] at H
                  have c11b0 : ((rdOf ByteArray.empty y105 x16_1).toList == ([47] : List UInt8)) = false := beq_eq_false_iff_ne.mpr c11
                  have c11b1 : ((rdOf ByteArray.empty y105 x16_1).toList != ([47] : List UInt8)) = true := bne_iff_ne.mpr c11
                  by_cases c20 : t110.size + t111.size ≤ 9223372036854775807
                  · rw [if_pos c20] at H
                    have c20b0 := eq_true c20
                    have c20b1 : decide (t110.size + t111.size ≤ 9223372036854775807) = true := decide_eq_true c20
                    try have c20b2 : (9223372036854775807 < t110.size + t111.size) = False := eq_false (Nat.not_lt.2 c20)
                    by_cases c21 : (t110 ++ t111).toList = ([] : List UInt8)
                    · rw [if_pos c21] at H
                      have c21b0 : ((t110 ++ t111).toList == ([] : List UInt8)) = true := beq_iff_eq.mpr c21
                      have c21b1 : ((t110 ++ t111).toList != ([] : List UInt8)) = false := bne_eq_false_iff_eq.mpr c21
                      clear c21
                      simp only [Option.some.injEq, Prod.mk.injEq] at H
                      obtain ⟨rfl, rfl, rfl, rfl⟩ := H
                      have p109 : 0 ≤ (x16_1 : Int) := of_decide_eq_true (by first | (with_reducible assumption) | assumption)
                      have q109 : x16_1 < (y105.length : Int) := of_decide_eq_true (by first | (with_reducible assumption) | assumption)
                      obtain ⟨ad109, e109, hx109_0⟩ := Kd.at_string (Kd.R_reads' HO_14.out).2.2 x16_1 p109 q109
                      cases e109
                      replace p109 := eq_true p109
                      replace q109 := eq_true q109
                      go_wp2_with (first | ((with_reducible refine gate_callee (f := 41) rfl ?_); refine goesL_ (some 23) rfl rfl Tryz.func41 (by kernel_rfl) rfl #[.string a0, .string (rdOf ByteArray.empty y105 x16_1)] rfl (by (try simp only [List.map_toArray, List.map_cons, List.map_nil]); first | done | rfl | (simp only [List.length_drop, List.length_take]; rfl)) ?_; (with_reducible refine (strings_Cut.calls a0 (rdOf ByteArray.empty y105 x16_1) t110 t111 true _ ?side1 A9.out).mono ?_); (case side1 => exact LaidT.sub HLA.out (by repeat (first | (with_reducible first | exact HB.out | apply below_alloc | apply pw_below_drewN | apply below_drew1) | exact HB.out))); rintro e w22 ⟨rfl, hb⟩; refine ⟨_, rfl, ?_⟩; have n0_ := Aside0.mk (Kd.R_below (by (with_reducible repeat (first | apply Kd.R_alloc | apply Kd.R_drewN | apply Kd.R_drew)); exact HO_14.out) hb); have n1_ := Aside0.mk (below_step (by repeat (first | (with_reducible first | exact HB.out | apply below_alloc | apply pw_below_drewN | apply below_drew1) | exact HB.out)) hb); clear HO_14; clear HB; have HO_14 := n0_; have HB := n1_; clear n0_ n1_; (try clear hb); (try clear hb2); (try clear hk); (try clear hi)))
                      refine bodyPost_ret (results_list (rs := [.tmp 2, .tmp 3, .tmp 4, .tmp 5]) rfl (by simp) (.tmp (.tmp (.tmp (.tmp .nil))))) rfl ?_
                      exact ⟨by first | rfl | (simp [errW_none, errW_some] <;> rfl) | (simp [*, errW_none, errW_some] <;> rfl), by repeat (first | (with_reducible first | exact HB.out | apply below_alloc | apply pw_below_drewN | apply below_drew1) | exact HB.out)⟩
                    · rw [if_neg c21] at H
                      have c21b0 : ((t110 ++ t111).toList == ([] : List UInt8)) = false := beq_eq_false_iff_ne.mpr c21
                      have c21b1 : ((t110 ++ t111).toList != ([] : List UInt8)) = true := bne_iff_ne.mpr c21
                      by_cases c23 : ((t110 ++ t111).size : Int) ≤ 8
                      · rw [if_pos c23] at H
                        have c23E : ((t110.size + t111.size) : Int) ≤ 8 := by have h_ := c23; simp only [ByteArray.size_append, ba_size, List.size_toArray, List.length_cons, List.length_nil] at h_; omega
                        have c23E1 := decide_eq_true c23E
                        have c23b0 : decide (((t110 ++ t111).size : Int) ≤ 8) = true := decide_eq_true c23
                        have c23b1 : decide ((t110 ++ t111).size ≤ 8) = true := decide_eq_true (by omega)
                        clear c23
                        replace H := Option.bind_eq_some_iff.mp H
                        obtain ⟨t115, A240, H⟩ := H
                        replace H : (some (t110, t111, rdOf ByteArray.empty y105 x16_1, t115)) = some (r1, r2, r3, r4) := H
                        have A24 := Aside0.mk A240
                        clear A240
                        simp only [Option.some.injEq, Prod.mk.injEq] at H
                        obtain ⟨rfl, rfl, rfl, rfl⟩ := H
                        have p109 : 0 ≤ (x16_1 : Int) := of_decide_eq_true (by first | (with_reducible assumption) | assumption)
                        have q109 : x16_1 < (y105.length : Int) := of_decide_eq_true (by first | (with_reducible assumption) | assumption)
                        obtain ⟨ad109, e109, hx109_0⟩ := Kd.at_string (Kd.R_reads' HO_14.out).2.2 x16_1 p109 q109
                        cases e109
                        replace p109 := eq_true p109
                        replace q109 := eq_true q109
                        go_wp2_with (first | ((with_reducible refine gate_callee (f := 41) rfl ?_); refine goesL_ (some 23) rfl rfl Tryz.func41 (by kernel_rfl) rfl #[.string a0, .string (rdOf ByteArray.empty y105 x16_1)] rfl (by (try simp only [List.map_toArray, List.map_cons, List.map_nil]); first | done | rfl | (simp only [List.length_drop, List.length_take]; rfl)) ?_; (with_reducible refine (strings_Cut.calls a0 (rdOf ByteArray.empty y105 x16_1) t110 t111 true _ ?side1 A9.out).mono ?_); (case side1 => exact LaidT.sub HLA.out (by repeat (first | (with_reducible first | exact HB.out | apply below_alloc | apply pw_below_drewN | apply below_drew1) | exact HB.out))); rintro e w25 ⟨rfl, hb⟩; refine ⟨_, rfl, ?_⟩; have n0_ := Aside0.mk (Kd.R_below (by (with_reducible repeat (first | apply Kd.R_alloc | apply Kd.R_drewN | apply Kd.R_drew)); exact HO_14.out) hb); have n1_ := Aside0.mk (below_step (by repeat (first | (with_reducible first | exact HB.out | apply below_alloc | apply pw_below_drewN | apply below_drew1) | exact HB.out)) hb); clear HO_14; clear HB; have HO_14 := n0_; have HB := n1_; clear n0_ n1_; (try clear hb); (try clear hb2); (try clear hk); (try clear hi)) | (go_at_call 13; (with_reducible refine (rule_IsAbbr.calls k1 (t110 ++ t111) t115 _ ?side1 A24.out).mono ?_); (case side1 => exact LaidT.sub HLA.out (by repeat (first | (with_reducible first | exact HB.out | apply below_alloc | apply pw_below_drewN | apply below_drew1) | exact HB.out))); rintro e w26 ⟨rfl, hb⟩; have n0_ := Aside0.mk (Kd.R_below (by (with_reducible repeat (first | apply Kd.R_alloc | apply Kd.R_drewN | apply Kd.R_drew)); exact HO_14.out) hb); have n1_ := Aside0.mk (below_step (by repeat (first | (with_reducible first | exact HB.out | apply below_alloc | apply pw_below_drewN | apply below_drew1) | exact HB.out)) hb); clear HO_14; clear HB; have HO_14 := n0_; have HB := n1_; clear n0_ n1_; (try clear hb); (try clear hb2); (try clear hk); (try clear hi)))
                        refine bodyPost_ret (results_list (rs := [.tmp 2, .tmp 3, .tmp 4, .tmp 5]) rfl (by simp) (.tmp (.tmp (.tmp (.tmp .nil))))) rfl ?_
                        exact ⟨by first | rfl | (simp [errW_none, errW_some] <;> rfl) | (simp [*, errW_none, errW_some] <;> rfl), by repeat (first | (with_reducible first | exact HB.out | apply below_alloc | apply pw_below_drewN | apply below_drew1) | exact HB.out)⟩
                      · rw [if_neg c23] at H
                        have c23E : ¬ (((t110.size + t111.size) : Int) ≤ 8) := by have h_ := c23; simp only [ByteArray.size_append, ba_size, List.size_toArray, List.length_cons, List.length_nil] at h_; omega
                        have c23E1 := decide_eq_false c23E
                        have c23b0 : decide (((t110 ++ t111).size : Int) ≤ 8) = false := decide_eq_false c23
                        have c23b1 : decide ((t110 ++ t111).size ≤ 8) = false := decide_eq_false (by omega)
                        clear c23
                        simp only [Option.some.injEq, Prod.mk.injEq] at H
                        obtain ⟨rfl, rfl, rfl, rfl⟩ := H
                        have p109 : 0 ≤ (x16_1 : Int) := of_decide_eq_true (by first | (with_reducible assumption) | assumption)
                        have q109 : x16_1 < (y105.length : Int) := of_decide_eq_true (by first | (with_reducible assumption) | assumption)
                        obtain ⟨ad109, e109, hx109_0⟩ := Kd.at_string (Kd.R_reads' HO_14.out).2.2 x16_1 p109 q109
                        cases e109
                        replace p109 := eq_true p109
                        replace q109 := eq_true q109
                        go_wp2_with (first | ((with_reducible refine gate_callee (f := 41) rfl ?_); refine goesL_ (some 23) rfl rfl Tryz.func41 (by kernel_rfl) rfl #[.string a0, .string (rdOf ByteArray.empty y105 x16_1)] rfl (by (try simp only [List.map_toArray, List.map_cons, List.map_nil]); first | done | rfl | (simp only [List.length_drop, List.length_take]; rfl)) ?_; (with_reducible refine (strings_Cut.calls a0 (rdOf ByteArray.empty y105 x16_1) t110 t111 true _ ?side1 A9.out).mono ?_); (case side1 => exact LaidT.sub HLA.out (by repeat (first | (with_reducible first | exact HB.out | apply below_alloc | apply pw_below_drewN | apply below_drew1) | exact HB.out))); rintro e w27 ⟨rfl, hb⟩; refine ⟨_, rfl, ?_⟩; have n0_ := Aside0.mk (Kd.R_below (by (with_reducible repeat (first | apply Kd.R_alloc | apply Kd.R_drewN | apply Kd.R_drew)); exact HO_14.out) hb); have n1_ := Aside0.mk (below_step (by repeat (first | (with_reducible first | exact HB.out | apply below_alloc | apply pw_below_drewN | apply below_drew1) | exact HB.out)) hb); clear HO_14; clear HB; have HO_14 := n0_; have HB := n1_; clear n0_ n1_; (try clear hb); (try clear hb2); (try clear hk); (try clear hi)))
                        refine bodyPost_ret (results_list (rs := [.tmp 2, .tmp 3, .tmp 4, .tmp 5]) rfl (by simp) (.tmp (.tmp (.tmp (.tmp .nil))))) rfl ?_
                        exact ⟨by first | rfl | (simp [errW_none, errW_some] <;> rfl) | (simp [*, errW_none, errW_some] <;> rfl), by repeat (first | (with_reducible first | exact HB.out | apply below_alloc | apply pw_below_drewN | apply below_drew1) | exact HB.out)⟩
                  · rw [if_neg c20] at H
                    exact absurd H (by simp)
              · replace c10 := Bool.eq_false_iff.mpr c10
                subst c10
                have H1 : (book_split.l0 k1 a0 y105 (y105.length : Int) (wrap64 (x16_1 + 1))) = some (r1, r2, r3, r4) := by rw [if_neg (show ¬ (false = true) by decide)] at H; exact H
                clear H
                have H := H1
                clear H1
                have H' := Aside0.mk H
                clear H
                have p109 : 0 ≤ (x16_1 : Int) := of_decide_eq_true (by first | (with_reducible assumption) | assumption)
                have q109 : x16_1 < (y105.length : Int) := of_decide_eq_true (by first | (with_reducible assumption) | assumption)
                obtain ⟨ad109, e109, hx109_0⟩ := Kd.at_string (Kd.R_reads' HO_14.out).2.2 x16_1 p109 q109
                cases e109
                replace p109 := eq_true p109
                replace q109 := eq_true q109
                go_wp2_with (first | ((with_reducible refine gate_callee (f := 41) rfl ?_); refine goesL_ (some 23) rfl rfl Tryz.func41 (by kernel_rfl) rfl #[.string a0, .string (rdOf ByteArray.empty y105 x16_1)] rfl (by (try simp only [List.map_toArray, List.map_cons, List.map_nil]); first | done | rfl | (simp only [List.length_drop, List.length_take]; rfl)) ?_; (with_reducible refine (strings_Cut.calls a0 (rdOf ByteArray.empty y105 x16_1) t110 t111 false _ ?side1 A9.out).mono ?_); (case side1 => exact LaidT.sub HLA.out (by repeat (first | (with_reducible first | exact HB.out | apply below_alloc | apply pw_below_drewN | apply below_drew1) | exact HB.out))); rintro e w28 ⟨rfl, hb⟩; refine ⟨_, rfl, ?_⟩; have n0_ := Aside0.mk (Kd.R_below (by (with_reducible repeat (first | apply Kd.R_alloc | apply Kd.R_drewN | apply Kd.R_drew)); exact HO_14.out) hb); have n1_ := Aside0.mk (below_step (by repeat (first | (with_reducible first | exact HB.out | apply below_alloc | apply pw_below_drewN | apply below_drew1) | exact HB.out)) hb); clear HO_14; clear HB; have HO_14 := n0_; have HB := n1_; clear n0_ n1_; (try clear hb); (try clear hb2); (try clear hk); (try clear hi)))
                go_roundg k1
                case measure => have := HK1.out; omega
                case rel => exact ⟨(wrap64 (x16_1 + 1)), (by first | rfl | (simp; done) | (simp [*]; done)), H', ⟨by have := HK1.out; omega⟩, ⟨by (with_reducible repeat (first | apply Kd.R_alloc | apply Kd.R_drewN | apply Kd.R_drew)); exact HO_14.out⟩, ⟨by repeat (first | (with_reducible first | exact HB.out | apply below_alloc | apply pw_below_drewN | apply below_drew1) | exact HB.out)⟩⟩
            · rw [if_neg c8] at H
              exact absurd H (by simp)
          · rw [if_neg c7] at H
            exact absurd H (by simp)
        · rw [if_neg c6] at H
          have c6b0 : decide (x16_1 < (y105.length : Int)) = false := decide_eq_false c6
          clear c6
          replace H := Option.bind_eq_some_iff.mp H
          obtain ⟨t108, A290, H⟩ := H
          replace H : (some (a0, (⟨#[]⟩ : ByteArray), (⟨#[]⟩ : ByteArray), t108)) = some (r1, r2, r3, r4) := H
          have A29 := Aside0.mk A290
          clear A290
          simp only [Option.some.injEq, Prod.mk.injEq] at H
          obtain ⟨rfl, rfl, rfl, rfl⟩ := H
          go_wp2_with (first | ((with_reducible refine gate_callee (f := 13) rfl ?_); refine goesL_ (some 65) rfl rfl Tryz.func13 (by kernel_rfl) rfl #[.string a0] rfl (by (try simp only [List.map_toArray, List.map_cons, List.map_nil]); first | done | rfl | (simp only [List.length_drop, List.length_take]; rfl)) ?_; (with_reducible refine (rule_IsAbbr.calls k1 a0 t108 _ ?side1 A29.out).mono ?_); (case side1 => exact LaidT.sub HLA.out (by repeat (first | (with_reducible first | exact HB.out | apply below_alloc | apply pw_below_drewN | apply below_drew1) | exact HB.out))); rintro e w30 ⟨rfl, hb⟩; refine ⟨_, rfl, ?_⟩; have n0_ := Aside0.mk (Kd.R_below (by (with_reducible repeat (first | apply Kd.R_alloc | apply Kd.R_drewN | apply Kd.R_drew)); exact HO_14.out) hb); have n1_ := Aside0.mk (below_step (by repeat (first | (with_reducible first | exact HB.out | apply below_alloc | apply pw_below_drewN | apply below_drew1) | exact HB.out)) hb); clear HO_14; clear HB; have HO_14 := n0_; have HB := n1_; clear n0_ n1_; (try clear hb); (try clear hb2); (try clear hk); (try clear hi)))
          refine bodyPost_ret (results_list (rs := [.tmp 2, .tmp 3, .tmp 4, .tmp 5]) rfl (by simp) (.tmp (.tmp (.tmp (.tmp .nil))))) rfl ?_
          exact ⟨by first | rfl | (simp [errW_none, errW_some] <;> rfl) | (simp [*, errW_none, errW_some] <;> rfl), by repeat (first | (with_reducible first | exact HB.out | apply below_alloc | apply pw_below_drewN | apply below_drew1) | exact HB.out)⟩
end Go.Proofs.YtmgnnplcnmhbaaaGreatDoor.PT
end
section
namespace Go.Proofs.YtmgnnplcnmhbaaaGreatDoor.PT
open Go.RowKit Go.Proofs.YtmgnnplcnmhbaaaGreatDoorW.PrintWords Go.Proofs.YtmgnnplcnmhbaaaGreatDoorW.PrintLast Go.Proofs.YtmgnnplcnmhbaaaGreatDoorW.PrintMore
attribute [local go_sem] max2_int min2_int max_two min_two max_three min_three max_four min_four   -- for this text's walks alone
set_option linter.unusedVariables false
set_option linter.unusedSimpArgs false
def book_within.f (a0 : Int) (a1 : Int) (a2 : Int) : Option (Bool) := if a0 ≥ a1 then (some (decide (a0 ≤ a2))) else (some false)
set_option maxHeartbeats 8000000 in
set_option maxRecDepth 100000 in
theorem book_within.calls (a0 : Int) (a1 : Int) (a2 : Int) (r : Bool) (w : World) (h : book_within.f a0 a1 a2 = some r) :
    Calls Tryz.prog 25 #[.int .i64 a0, .int .i64 a1, .int .i64 a2] w fun e w' => e = .returned (.bool r) ∧ Drawn0 w w' := by
  have H : (if a0 ≥ a1 then (some (decide (a0 ≤ a2))) else (some false)) = some r := h
  clear h
  by_cases c4 : a0 ≥ a1
  · rw [if_pos c4] at H
    have c4b0 : decide (a1 ≤ a0) = true := decide_eq_true c4
    clear c4
    obtain rfl := Option.some.inj H
    go_enter Tryz.func25, Tryz.ntmps25
    go_wp2
    go_ret
    exact ⟨by first | rfl | (simp; done) | (simp [*]; done), by repeat (first | exact Drawn0.refl _ | apply Drawn0.step)⟩
  · rw [if_neg c4] at H
    have c4b0 : decide (a1 ≤ a0) = false := decide_eq_false c4
    clear c4
    obtain rfl := Option.some.inj H
    go_enter Tryz.func25, Tryz.ntmps25
    go_wp2
    go_ret
    exact ⟨by first | rfl | (simp; done) | (simp [*]; done), by repeat (first | exact Drawn0.refl _ | apply Drawn0.step)⟩
end Go.Proofs.YtmgnnplcnmhbaaaGreatDoor.PT
end
section
namespace Go.Proofs.YtmgnnplcnmhbaaaGreatDoor.PT
open Go.RowKit Go.Proofs.YtmgnnplcnmhbaaaGreatDoorW.PrintWords Go.Proofs.YtmgnnplcnmhbaaaGreatDoorW.PrintLast Go.Proofs.YtmgnnplcnmhbaaaGreatDoorW.PrintMore
attribute [local go_sem] max2_int min2_int max_two min_two max_three min_three max_four min_four   -- for this text's walks alone
set_option linter.unusedVariables false
set_option linter.unusedSimpArgs false
mutual
def book_Abbr.j0 : Nat → Int → ByteArray → ByteArray → ByteArray → ByteArray → Bool → Option (ByteArray × Int)
  | 0, _, _, _, _, _, _ => none
  | k + 1, x1, x2, x8, x9, x10, x19 => if x19 = true then (some ((⟨#[]⟩ : ByteArray), 3)) else ((book_within.f x1 0 10800).bind fun t122 => (if t122 = true then (if x10.toList = ([47] : List UInt8) then (if x1 = 0 then (book_Abbr.j1 k x8) else (book_Abbr.j1 k x9)) else (if x10.toList = ([37] : List UInt8) then (if x2.toList = ([45] : List UInt8) then (if 0 + x9.size ≤ 9223372036854775807 then (if x8.size + ((⟨#[]⟩ : ByteArray) ++ x9).size ≤ 9223372036854775807 then (book_Abbr.j1 k (x8 ++ ((⟨#[]⟩ : ByteArray) ++ x9))) else (none)) else (none)) else (if x2.size + x9.size ≤ 9223372036854775807 then (if x8.size + (x2 ++ x9).size ≤ 9223372036854775807 then (book_Abbr.j1 k (x8 ++ (x2 ++ x9))) else (none)) else (none))) else (book_Abbr.j1 k x8))) else (some ((⟨#[]⟩ : ByteArray), 1))))
def book_Abbr.j1 : Nat → ByteArray → Option (ByteArray × Int)
  | 0, _ => none
  | k + 1, x8 => if (x8.size : Int) > 8 then (some ((⟨#[]⟩ : ByteArray), 2)) else (if x8.toList = ([] : List UInt8) then (some ((⟨#[]⟩ : ByteArray), 5)) else (some (x8, 0)))
end
def book_Abbr.f (k : Nat) (a0 : ByteArray) (a1 : Int) (a2 : ByteArray) : Option (ByteArray × Int) := (book_split.f k a0).bind fun bt117 => (if bt117.2.2.2 = true then ((book_isLetter.f k a2).bind fun t121 => (book_Abbr.j0 k a1 a2 bt117.1 bt117.2.1 bt117.2.2.1 (!t121))) else (book_Abbr.j0 k a1 a2 bt117.1 bt117.2.1 bt117.2.2.1 true))
theorem book_Abbr.mono_l : ∀ k, (∀ y0 y1 y2 y3 y4 y5, LeO (book_Abbr.j0 k y0 y1 y2 y3 y4 y5) (book_Abbr.j0 (k + 1) y0 y1 y2 y3 y4 y5)) ∧ (∀ y0, LeO (book_Abbr.j1 k y0) (book_Abbr.j1 (k + 1) y0))
  | 0 => ⟨fun _ _ _ _ _ _ r h => by simp [book_Abbr.j0] at h, fun _ r h => by simp [book_Abbr.j1] at h⟩
  | k + 1 => by
    obtain ⟨ih0, ih1⟩ := book_Abbr.mono_l k
    refine ⟨?_, ?_⟩
    · intro y0 y1 y2 y3 y4 y5
      unfold book_Abbr.j0
      repeat' first
      | (with_reducible exact ih0 _ _ _ _ _ _)
      | (with_reducible exact ih1 _)
      | (with_reducible exact book_isLetter.mono _ _)
      | (with_reducible exact book_split.mono _ _)
      | (with_reducible exact LeO.refl _)
      | (with_reducible exact LeO.none _)
      | (with_reducible refine LeO.ite ?_ ?_)
      | (with_reducible refine LeO.bind ?_ (fun _ => ?_))
      | exact ih0 _ _ _ _ _ _
      | exact ih1 _
      | exact book_isLetter.mono _ _
      | exact book_split.mono _ _
      | exact LeO.none _
      | refine LeO.ite ?_ ?_
      | refine LeO.bind ?_ (fun _ => ?_)
    · intro y0
      unfold book_Abbr.j1
      repeat' first
      | (with_reducible exact ih0 _ _ _ _ _ _)
      | (with_reducible exact ih1 _)
      | (with_reducible exact book_isLetter.mono _ _)
      | (with_reducible exact book_split.mono _ _)
      | (with_reducible exact LeO.refl _)
      | (with_reducible exact LeO.none _)
      | (with_reducible refine LeO.ite ?_ ?_)
      | (with_reducible refine LeO.bind ?_ (fun _ => ?_))
      | exact ih0 _ _ _ _ _ _
      | exact ih1 _
      | exact book_isLetter.mono _ _
      | exact book_split.mono _ _
      | exact LeO.none _
      | refine LeO.ite ?_ ?_
      | refine LeO.bind ?_ (fun _ => ?_)
theorem book_Abbr.mono : ∀ a0 a1 a2 k, LeO (book_Abbr.f k a0 a1 a2) (book_Abbr.f (k + 1) a0 a1 a2) := by
  intro a0 a1 a2 k
  obtain ⟨ih0, ih1⟩ := book_Abbr.mono_l k
  unfold book_Abbr.f
  repeat' first
      | (with_reducible exact ih0 _ _ _ _ _ _)
      | (with_reducible exact ih1 _)
      | (with_reducible exact book_isLetter.mono _ _)
      | (with_reducible exact book_split.mono _ _)
      | (with_reducible exact LeO.refl _)
      | (with_reducible exact LeO.none _)
      | (with_reducible refine LeO.ite ?_ ?_)
      | (with_reducible refine LeO.bind ?_ (fun _ => ?_))
      | exact ih0 _ _ _ _ _ _
      | exact ih1 _
      | exact book_isLetter.mono _ _
      | exact book_split.mono _ _
      | exact LeO.none _
      | refine LeO.ite ?_ ?_
      | refine LeO.bind ?_ (fun _ => ?_)
set_option maxHeartbeats 8000000 in
set_option maxRecDepth 100000 in
theorem book_Abbr.calls (k : Nat) (a0 : ByteArray) (a1 : Int) (a2 : ByteArray) (r1 : ByteArray) (r2 : Int) (w : World) (hL : LaidT w) (h : book_Abbr.f k a0 a1 a2 = some (r1, r2)) :
    Calls Tryz.prog 12 #[.string a0, .int .i64 a1, .string a2] w fun e w' => e = .returned (.tuple #[.string r1, .int .i64 r2]) ∧ Below w.heap.size w w' := by
  have HB := Aside0.mk (Below.refl w.heap.size w)
  have HLA := Aside0.mk hL
  clear hL
  have H : ((book_split.f k a0).bind fun bt117 => (if bt117.2.2.2 = true then ((book_isLetter.f k a2).bind fun t121 => (book_Abbr.j0 k a1 a2 bt117.1 bt117.2.1 bt117.2.2.1 (!t121))) else (book_Abbr.j0 k a1 a2 bt117.1 bt117.2.1 bt117.2.2.1 true))) = some (r1, r2) := h
  clear h
  replace H := Option.bind_eq_some_iff.mp H
  obtain ⟨⟨t117, t118, t119, t120⟩, A40, H⟩ := H
  replace H : (if t120 = true then ((book_isLetter.f k a2).bind fun t121 => (book_Abbr.j0 k a1 a2 t117 t118 t119 (!t121))) else (book_Abbr.j0 k a1 a2 t117 t118 t119 true)) = some (r1, r2) := H
  have A4 := Aside0.mk A40
  clear A40
  have HC5 := Aside0.mk H
  clear H
  go_enter Tryz.func12, Tryz.ntmps12
  go_upto_region 2 with (first | ((with_reducible refine gate_callee (f := 23) rfl ?_); refine goesL_ (some 14) rfl rfl Tryz.func23 (by kernel_rfl) rfl #[.string a0] rfl (by (try simp only [List.map_toArray, List.map_cons, List.map_nil]); first | done | rfl | (simp only [List.length_drop, List.length_take]; rfl)) ?_; (with_reducible refine (book_split.calls k a0 t117 t118 t119 t120 _ ?side1 A4.out).mono ?_); (case side1 => exact LaidT.sub HLA.out (by repeat (first | (with_reducible first | exact HB.out | apply below_alloc | apply pw_below_drewN | apply below_drew1) | exact HB.out))); rintro e w6 ⟨rfl, hb⟩; refine ⟨_, rfl, ?_⟩; have n0_ := Aside0.mk (below_step (by repeat (first | (with_reducible first | exact HB.out | apply below_alloc | apply pw_below_drewN | apply below_drew1) | exact HB.out)) hb); clear HB; have HB := n0_; clear n0_; (try clear hb); (try clear hb2); (try clear hk); (try clear hi)))
  (try simp only [Act.put, List.setIfInBounds_toArray, List.set_cons_zero, List.set_cons_succ])
  go_cut [19] (fun v19 wc => ∃ (kq : Nat) (x19_4 : Bool), v19 = .bool x19_4 ∧ Aside0 (book_Abbr.j0 kq a1 a2 t117 t118 t119 x19_4 = some (r1, r2)) ∧ Aside0 (kq ≤ k) ∧ Aside0 (Below w.heap.size w wc))
  case first =>
    have H := HC5.out
    clear HC5
    by_cases c7 : t120 = true
    · subst c7
      have H1 : ((book_isLetter.f k a2).bind fun t121 => (book_Abbr.j0 k a1 a2 t117 t118 t119 (!t121))) = some (r1, r2) := by rw [if_pos rfl] at H; exact H
      clear H
      have H := H1
      clear H1
      replace H := Option.bind_eq_some_iff.mp H
      obtain ⟨t121, A80, H⟩ := H
      replace H : (book_Abbr.j0 k a1 a2 t117 t118 t119 (!t121)) = some (r1, r2) := H
      have A8 := Aside0.mk A80
      clear A80
      have H' := Aside0.mk H
      clear H
      go_wp2_with (first | (go_at_call 24; (with_reducible refine (book_isLetter.calls k a2 t121 _ ?side1 A8.out).mono ?_); (case side1 => exact LaidT.sub HLA.out (by repeat (first | (with_reducible first | exact HB.out | apply below_alloc | apply pw_below_drewN | apply below_drew1) | exact HB.out))); rintro e w9 ⟨rfl, hb⟩; have n0_ := Aside0.mk (below_step (by repeat (first | (with_reducible first | exact HB.out | apply below_alloc | apply pw_below_drewN | apply below_drew1) | exact HB.out)) hb); clear HB; have HB := n0_; clear n0_; (try clear hb); (try clear hb2); (try clear hk); (try clear hi)))
      go_meet
      case rel => exact ⟨_, (!t121), (by first | rfl | (simp; done) | (simp [*]; done)), H', ⟨by first | omega | exact Nat.le_refl _⟩, ⟨by repeat (first | (with_reducible first | exact HB.out | apply below_alloc | apply pw_below_drewN | apply below_drew1) | exact HB.out)⟩⟩
    · replace c7 := Bool.eq_false_iff.mpr c7
      subst c7
      have H1 : (book_Abbr.j0 k a1 a2 t117 t118 t119 true) = some (r1, r2) := by rw [if_neg (show ¬ (false = true) by decide)] at H; exact H
      clear H
      have H := H1
      clear H1
      have H' := Aside0.mk H
      clear H
      go_wp2
      go_meet
      case rel => exact ⟨_, (true), (by first | rfl | (simp; done) | (simp [*]; done)), H', ⟨by first | omega | exact Nat.le_refl _⟩, ⟨by repeat (first | (with_reducible first | exact HB.out | apply below_alloc | apply pw_below_drewN | apply below_drew1) | exact HB.out)⟩⟩
  case rest =>
    clear HC5
    try clear c1
    try clear c2
    try clear p2
    try clear c7
    obtain ⟨kq, x19_4, rfl, HA, HJ4, HB⟩ := hcut
    cases kq with
    | zero => exact absurd HA.out (by simp [book_Abbr.j0])
    | succ kj4 =>
      have H := HA.out
      clear HA
      simp only [book_Abbr.j0] at H
      by_cases c10 : x19_4 = true
      · subst c10
        have H1 : (some ((⟨#[]⟩ : ByteArray), 3)) = some (r1, r2) := by rw [if_pos rfl] at H; exact H
        clear H
        have H := H1
        clear H1
        simp only [Option.some.injEq, Prod.mk.injEq] at H
        obtain ⟨rfl, rfl⟩ := H
        go_wp2
        go_ret2
        exact ⟨by first | rfl | (simp [errW_none, errW_some] <;> rfl) | (simp [*, errW_none, errW_some] <;> rfl), by repeat (first | (with_reducible first | exact HB.out | apply below_alloc | apply pw_below_drewN | apply below_drew1) | exact HB.out)⟩
      · replace c10 := Bool.eq_false_iff.mpr c10
        subst c10
        have H1 : ((book_within.f a1 0 10800).bind fun t122 => (if t122 = true then (if t119.toList = ([47] : List UInt8) then (if a1 = 0 then (book_Abbr.j1 kj4 t117) else (book_Abbr.j1 kj4 t118)) else (if t119.toList = ([37] : List UInt8) then (if a2.toList = ([45] : List UInt8) then (if 0 + t118.size ≤ 9223372036854775807 then (if t117.size + ((⟨#[]⟩ : ByteArray) ++ t118).size ≤ 9223372036854775807 then (book_Abbr.j1 kj4 (t117 ++ ((⟨#[]⟩ : ByteArray) ++ t118))) else (none)) else (none)) else (if a2.size + t118.size ≤ 9223372036854775807 then (if t117.size + (a2 ++ t118).size ≤ 9223372036854775807 then (book_Abbr.j1 kj4 (t117 ++ (a2 ++ t118))) else (none)) else (none))) else (book_Abbr.j1 kj4 t117))) else (some ((⟨#[]⟩ : ByteArray), 1)))) = some (r1, r2) := by rw [if_neg (show ¬ (false = true) by decide)] at H; exact H
        clear H
        have H := H1
        clear H1
        replace H := Option.bind_eq_some_iff.mp H
        obtain ⟨t122, A110, H⟩ := H
        replace H : (if t122 = true then (if t119.toList = ([47] : List UInt8) then (if a1 = 0 then (book_Abbr.j1 kj4 t117) else (book_Abbr.j1 kj4 t118)) else (if t119.toList = ([37] : List UInt8) then (if a2.toList = ([45] : List UInt8) then (if 0 + t118.size ≤ 9223372036854775807 then (if t117.size + ((⟨#[]⟩ : ByteArray) ++ t118).size ≤ 9223372036854775807 then (book_Abbr.j1 kj4 (t117 ++ ((⟨#[]⟩ : ByteArray) ++ t118))) else (none)) else (none)) else (if a2.size + t118.size ≤ 9223372036854775807 then (if t117.size + (a2 ++ t118).size ≤ 9223372036854775807 then (book_Abbr.j1 kj4 (t117 ++ (a2 ++ t118))) else (none)) else (none))) else (book_Abbr.j1 kj4 t117))) else (some ((⟨#[]⟩ : ByteArray), 1))) = some (r1, r2) := H
        have A11 := Aside0.mk A110
        clear A110
        by_cases c12 : t122 = true
        · subst c12
          have H1 : (if t119.toList = ([47] : List UInt8) then (if a1 = 0 then (book_Abbr.j1 kj4 t117) else (book_Abbr.j1 kj4 t118)) else (if t119.toList = ([37] : List UInt8) then (if a2.toList = ([45] : List UInt8) then (if 0 + t118.size ≤ 9223372036854775807 then (if t117.size + ((⟨#[]⟩ : ByteArray) ++ t118).size ≤ 9223372036854775807 then (book_Abbr.j1 kj4 (t117 ++ ((⟨#[]⟩ : ByteArray) ++ t118))) else (none)) else (none)) else (if a2.size + t118.size ≤ 9223372036854775807 then (if t117.size + (a2 ++ t118).size ≤ 9223372036854775807 then (book_Abbr.j1 kj4 (t117 ++ (a2 ++ t118))) else (none)) else (none))) else (book_Abbr.j1 kj4 t117))) = some (r1, r2) := by rw [if_pos rfl] at H; exact H
          clear H
          have H := H1
          clear H1
          have HC13 := Aside0.mk H
          clear H
          go_upto_block 1 with (first | ((with_reducible refine gate_callee (f := 25) rfl ?_); refine goesL_ (some 29) rfl rfl Tryz.func25 (by kernel_rfl) rfl #[.int .i64 a1, .int .i64 0, .int .i64 10800] rfl (by (try simp only [List.map_toArray, List.map_cons, List.map_nil]); first | done | rfl | (simp only [List.length_drop, List.length_take]; rfl)) ?_; (with_reducible refine (book_within.calls a1 0 10800 true _ A11.out).mono ?_); rintro e w' ⟨rfl, ⟨nd, rfl⟩⟩; refine ⟨_, rfl, ?_⟩))
          (try simp only [Act.put, List.setIfInBounds_toArray, List.set_cons_zero, List.set_cons_succ])
          go_cut [8] (fun v8 wc => ∃ (kq : Nat) (x8_12 : ByteArray), v8 = .string x8_12 ∧ Aside0 (book_Abbr.j1 kq x8_12 = some (r1, r2)) ∧ Aside0 (kq ≤ kj4) ∧ Aside0 (Below w.heap.size w wc))
          case first =>
            have H := HC13.out
            clear HC13
            by_cases c14 : t119.toList = ([47] : List UInt8)
            · rw [if_pos c14] at H
              have c14b0 : (t119.toList == ([47] : List UInt8)) = true := beq_iff_eq.mpr c14
              have c14b1 : (t119.toList != ([47] : List UInt8)) = false := bne_eq_false_iff_eq.mpr c14
              clear c14
              (first | rw [c14b0] | (simp only [i64_w, i32_w]; rw [c14b0]) | skip)
              by_cases c15 : a1 = 0
              · rw [if_pos c15] at H
                have c15b0 : (a1 == 0) = true := beq_iff_eq.mpr c15
                have c15b1 : (a1 != 0) = false := bne_eq_false_iff_eq.mpr c15
                clear c15
                have H' := Aside0.mk H
                clear H
                go_wp2
                go_meet
                case rel => exact ⟨_, (t117), (by first | rfl | (simp; done) | (simp [*]; done)), H', ⟨by have := HJ4.out; first | omega | exact Nat.le_refl _⟩, ⟨by repeat (first | (with_reducible first | exact HB.out | apply below_alloc | apply pw_below_drewN | apply below_drew1) | exact HB.out)⟩⟩
              · rw [if_neg c15] at H
                have c15b0 : (a1 == 0) = false := beq_eq_false_iff_ne.mpr c15
                have c15b1 : (a1 != 0) = true := bne_iff_ne.mpr c15
                have H' := Aside0.mk H
                clear H
                go_wp2
                go_meet
                case rel => exact ⟨_, (t118), (by first | rfl | (simp; done) | (simp [*]; done)), H', ⟨by have := HJ4.out; first | omega | exact Nat.le_refl _⟩, ⟨by repeat (first | (with_reducible first | exact HB.out | apply below_alloc | apply pw_below_drewN | apply below_drew1) | exact HB.out)⟩⟩
            · rw [if_neg c14] at H
              have c14b0 : (t119.toList == ([47] : List UInt8)) = false := beq_eq_false_iff_ne.mpr c14
              have c14b1 : (t119.toList != ([47] : List UInt8)) = true := bne_iff_ne.mpr c14
              (first | rw [c14b0] | (simp only [i64_w, i32_w]; rw [c14b0]) | skip)
              by_cases c16 : t119.toList = ([37] : List UInt8)
              · rw [if_pos c16] at H
                have c16b0 : (t119.toList == ([37] : List UInt8)) = true := beq_iff_eq.mpr c16
                have c16b1 : (t119.toList != ([37] : List UInt8)) = false := bne_eq_false_iff_eq.mpr c16
                clear c16
                by_cases c17 : a2.toList = ([45] : List UInt8)
                · rw [if_pos c17] at H
                  have c17b0 : (a2.toList == ([45] : List UInt8)) = true := beq_iff_eq.mpr c17
                  have c17b1 : (a2.toList != ([45] : List UInt8)) = false := bne_eq_false_iff_eq.mpr c17
                  clear c17
                  by_cases c18 : 0 + t118.size ≤ 9223372036854775807
                  · rw [if_pos c18] at H
                    have c18b0 := eq_true c18
                    have c18b1 : decide (0 + t118.size ≤ 9223372036854775807) = true := decide_eq_true c18
                    try have c18b2 : (9223372036854775807 < 0 + t118.size) = False := eq_false (Nat.not_lt.2 c18)
                    by_cases c19 : t117.size + ((⟨#[]⟩ : ByteArray) ++ t118).size ≤ 9223372036854775807
                    · rw [if_pos c19] at H
                      have c19b0 := eq_true c19
                      have c19b1 : decide (t117.size + ((⟨#[]⟩ : ByteArray) ++ t118).size ≤ 9223372036854775807) = true := decide_eq_true c19
                      try have c19b2 : (9223372036854775807 < t117.size + ((⟨#[]⟩ : ByteArray) ++ t118).size) = False := eq_false (Nat.not_lt.2 c19)
                      have c19E : t117.size + (0 + t118.size) ≤ 9223372036854775807 := by have h_ := c19; simp only [ByteArray.size_append, ba_size, List.size_toArray, List.length_cons, List.length_nil] at h_; omega
                      have c19E0 := eq_true c19E
                      have c19E1 : decide (t117.size + (0 + t118.size) ≤ 9223372036854775807) = true := decide_eq_true c19E
                      try have c19E2 : (9223372036854775807 < t117.size + (0 + t118.size)) = False := eq_false (Nat.not_lt.2 c19E)
                      have H' := Aside0.mk H
                      clear H
                      go_wp2
                      go_meet
                      case rel => exact ⟨_, (t117 ++ ((⟨#[]⟩ : ByteArray) ++ t118)), (by first | rfl | (simp; done) | (simp [*]; done)), H', ⟨by have := HJ4.out; first | omega | exact Nat.le_refl _⟩, ⟨by repeat (first | (with_reducible first | exact HB.out | apply below_alloc | apply pw_below_drewN | apply below_drew1) | exact HB.out)⟩⟩
                    · rw [if_neg c19] at H
                      exact absurd H (by simp)
                  · rw [if_neg c18] at H
                    exact absurd H (by simp)
                · rw [if_neg c17] at H
                  have c17b0 : (a2.toList == ([45] : List UInt8)) = false := beq_eq_false_iff_ne.mpr c17
                  have c17b1 : (a2.toList != ([45] : List UInt8)) = true := bne_iff_ne.mpr c17
                  by_cases c20 : a2.size + t118.size ≤ 9223372036854775807
                  · rw [if_pos c20] at H
                    have c20b0 := eq_true c20
                    have c20b1 : decide (a2.size + t118.size ≤ 9223372036854775807) = true := decide_eq_true c20
                    try have c20b2 : (9223372036854775807 < a2.size + t118.size) = False := eq_false (Nat.not_lt.2 c20)
                    by_cases c21 : t117.size + (a2 ++ t118).size ≤ 9223372036854775807
                    · rw [if_pos c21] at H
                      have c21b0 := eq_true c21
                      have c21b1 : decide (t117.size + (a2 ++ t118).size ≤ 9223372036854775807) = true := decide_eq_true c21
                      try have c21b2 : (9223372036854775807 < t117.size + (a2 ++ t118).size) = False := eq_false (Nat.not_lt.2 c21)
                      have c21E : t117.size + (a2.size + t118.size) ≤ 9223372036854775807 := by have h_ := c21; simp only [ByteArray.size_append, ba_size, List.size_toArray, List.length_cons, List.length_nil] at h_; omega
                      have c21E0 := eq_true c21E
                      have c21E1 : decide (t117.size + (a2.size + t118.size) ≤ 9223372036854775807) = true := decide_eq_true c21E
                      try have c21E2 : (9223372036854775807 < t117.size + (a2.size + t118.size)) = False := eq_false (Nat.not_lt.2 c21E)
                      have H' := Aside0.mk H
                      clear H
                      go_wp2
                      go_meet
                      case rel => exact ⟨_, (t117 ++ (a2 ++ t118)), (by first | rfl | (simp; done) | (simp [*]; done)), H', ⟨by have := HJ4.out; first | omega | exact Nat.le_refl _⟩, ⟨by repeat (first | (with_reducible first | exact HB.out | apply below_alloc | apply pw_below_drewN | apply below_drew1) | exact HB.out)⟩⟩
                    · rw [if_neg c21] at H
                      exact absurd H (by simp)
                  · rw [if_neg c20] at H
                    exact absurd H (by simp)
              · rw [if_neg c16] at H
                have c16b0 : (t119.toList == ([37] : List UInt8)) = false := beq_eq_false_iff_ne.mpr c16
                have c16b1 : (t119.toList != ([37] : List UInt8)) = true := bne_iff_ne.mpr c16
                have H' := Aside0.mk H
                clear H
                go_wp2
                go_meet
                case rel => exact ⟨_, (t117), (by first | rfl | (simp; done) | (simp [*]; done)), H', ⟨by have := HJ4.out; first | omega | exact Nat.le_refl _⟩, ⟨by repeat (first | (with_reducible first | exact HB.out | apply below_alloc | apply pw_below_drewN | apply below_drew1) | exact HB.out)⟩⟩
          case rest =>
            clear HC13
            try clear c1
            try clear c2
            try clear p2
            try clear c7
            try clear c10
            try clear c12
            try clear c14
            try clear c14b0
            try clear c14b1
            try clear c15
            try clear c15b0
            try clear c15b1
            try clear c16
            try clear c16b0
            try clear c16b1
            try clear c17
            try clear c17b0
            try clear c17b1
            try clear c18
            try clear c18b0
            try clear c18b1
            try clear c18b2
            try clear c19
            try clear c19b0
            try clear c19b1
            try clear c19b2
            try clear c20
            try clear c20b0
            try clear c20b1
            try clear c20b2
            try clear c21
            try clear c21b0
            try clear c21b1
            try clear c21b2
            try clear p2
            obtain ⟨kq, x8_12, rfl, HA, HJ12, HB⟩ := hcut
            cases kq with
            | zero => exact absurd HA.out (by simp [book_Abbr.j1])
            | succ kj12 =>
              have H := HA.out
              clear HA
              simp only [book_Abbr.j1] at H
              by_cases c22 : (x8_12.size : Int) > 8
              · rw [if_pos c22] at H
                have c22b0 : decide (8 < (x8_12.size : Int)) = true := decide_eq_true c22
                have c22b1 : decide (8 < x8_12.size) = true := decide_eq_true (by omega)
                clear c22
                simp only [Option.some.injEq, Prod.mk.injEq] at H
                obtain ⟨rfl, rfl⟩ := H
                go_wp2
                go_ret2
                exact ⟨by first | rfl | (simp [errW_none, errW_some] <;> rfl) | (simp [*, errW_none, errW_some] <;> rfl), by repeat (first | (with_reducible first | exact HB.out | apply below_alloc | apply pw_below_drewN | apply below_drew1) | exact HB.out)⟩
              · rw [if_neg c22] at H
                have c22b0 : decide (8 < (x8_12.size : Int)) = false := decide_eq_false c22
                have c22b1 : decide (8 < x8_12.size) = false := decide_eq_false (by omega)
                clear c22
                by_cases c23 : x8_12.toList = ([] : List UInt8)
                · rw [if_pos c23] at H
                  have c23b0 : (x8_12.toList == ([] : List UInt8)) = true := beq_iff_eq.mpr c23
                  have c23b1 : (x8_12.toList != ([] : List UInt8)) = false := bne_eq_false_iff_eq.mpr c23
                  clear c23
                  simp only [Option.some.injEq, Prod.mk.injEq] at H
                  obtain ⟨rfl, rfl⟩ := H
                  go_wp2
                  go_ret2
                  exact ⟨by first | rfl | (simp [errW_none, errW_some] <;> rfl) | (simp [*, errW_none, errW_some] <;> rfl), by repeat (first | (with_reducible first | exact HB.out | apply below_alloc | apply pw_below_drewN | apply below_drew1) | exact HB.out)⟩
                · rw [if_neg c23] at H
                  have c23b0 : (x8_12.toList == ([] : List UInt8)) = false := beq_eq_false_iff_ne.mpr c23
                  have c23b1 : (x8_12.toList != ([] : List UInt8)) = true := bne_iff_ne.mpr c23
                  simp only [Option.some.injEq, Prod.mk.injEq] at H
                  obtain ⟨rfl, rfl⟩ := H
                  go_wp2
                  go_ret2
                  exact ⟨by first | rfl | (simp [errW_none, errW_some] <;> rfl) | (simp [*, errW_none, errW_some] <;> rfl), by repeat (first | (with_reducible first | exact HB.out | apply below_alloc | apply pw_below_drewN | apply below_drew1) | exact HB.out)⟩
        · replace c12 := Bool.eq_false_iff.mpr c12
          subst c12
          have H1 : (some ((⟨#[]⟩ : ByteArray), 1)) = some (r1, r2) := by rw [if_neg (show ¬ (false = true) by decide)] at H; exact H
          clear H
          have H := H1
          clear H1
          simp only [Option.some.injEq, Prod.mk.injEq] at H
          obtain ⟨rfl, rfl⟩ := H
          go_wp2_with (first | ((with_reducible refine gate_callee (f := 25) rfl ?_); refine goesL_ (some 29) rfl rfl Tryz.func25 (by kernel_rfl) rfl #[.int .i64 a1, .int .i64 0, .int .i64 10800] rfl (by (try simp only [List.map_toArray, List.map_cons, List.map_nil]); first | done | rfl | (simp only [List.length_drop, List.length_take]; rfl)) ?_; (with_reducible refine (book_within.calls a1 0 10800 false _ A11.out).mono ?_); rintro e w' ⟨rfl, ⟨nd, rfl⟩⟩; refine ⟨_, rfl, ?_⟩))
          go_ret2
          exact ⟨by first | rfl | (simp [errW_none, errW_some] <;> rfl) | (simp [*, errW_none, errW_some] <;> rfl), by repeat (first | (with_reducible first | exact HB.out | apply below_alloc | apply pw_below_drewN | apply below_drew1) | exact HB.out)⟩
end Go.Proofs.YtmgnnplcnmhbaaaGreatDoor.PT
end
section
namespace Go.Proofs.YtmgnnplcnmhbaaaGreatDoor.PT
open Go.RowKit Go.Proofs.YtmgnnplcnmhbaaaGreatDoorW.PrintWords Go.Proofs.YtmgnnplcnmhbaaaGreatDoorW.PrintLast Go.Proofs.YtmgnnplcnmhbaaaGreatDoorW.PrintMore
attribute [local go_sem] max2_int min2_int max_two min_two max_three min_three max_four min_four   -- for this text's walks alone
set_option linter.unusedVariables false
set_option linter.unusedSimpArgs false
def civil_days.f (a0 : Int) (a1 : Int) (a2 : Int) : Option (Int) := if (wrap64 (a1 - 3)) < 0 then (some (wrap64 ((wrap64 ((wrap64 ((wrap64 ((wrap64 ((wrap64 ((wrap64 (365 * (wrap64 (a0 - 1)))) + (wrap64 (Int.tdiv (wrap64 (a0 - 1)) 4)))) - (wrap64 (Int.tdiv (wrap64 (a0 - 1)) 100)))) + (wrap64 (Int.tdiv (wrap64 (a0 - 1)) 400)))) + (wrap64 (Int.tdiv (wrap64 ((wrap64 (153 * (wrap64 ((wrap64 (a1 - 3)) + 12)))) + 2)) 5)))) + a2)) - 719469))) else (some (wrap64 ((wrap64 ((wrap64 ((wrap64 ((wrap64 ((wrap64 ((wrap64 (365 * a0)) + (wrap64 (Int.tdiv a0 4)))) - (wrap64 (Int.tdiv a0 100)))) + (wrap64 (Int.tdiv a0 400)))) + (wrap64 (Int.tdiv (wrap64 ((wrap64 (153 * (wrap64 (a1 - 3)))) + 2)) 5)))) + a2)) - 719469)))
set_option maxHeartbeats 8000000 in
set_option maxRecDepth 100000 in
theorem civil_days.calls (a0 : Int) (a1 : Int) (a2 : Int) (r : Int) (w : World) (h : civil_days.f a0 a1 a2 = some r) :
    Calls Tryz.prog 109 #[.int .i64 a0, .int .i64 a1, .int .i64 a2] w fun e w' => e = .returned (.int .i64 r) ∧ Drawn0 w w' := by
  have H : (if (wrap64 (a1 - 3)) < 0 then (some (wrap64 ((wrap64 ((wrap64 ((wrap64 ((wrap64 ((wrap64 ((wrap64 (365 * (wrap64 (a0 - 1)))) + (wrap64 (Int.tdiv (wrap64 (a0 - 1)) 4)))) - (wrap64 (Int.tdiv (wrap64 (a0 - 1)) 100)))) + (wrap64 (Int.tdiv (wrap64 (a0 - 1)) 400)))) + (wrap64 (Int.tdiv (wrap64 ((wrap64 (153 * (wrap64 ((wrap64 (a1 - 3)) + 12)))) + 2)) 5)))) + a2)) - 719469))) else (some (wrap64 ((wrap64 ((wrap64 ((wrap64 ((wrap64 ((wrap64 ((wrap64 (365 * a0)) + (wrap64 (Int.tdiv a0 4)))) - (wrap64 (Int.tdiv a0 100)))) + (wrap64 (Int.tdiv a0 400)))) + (wrap64 (Int.tdiv (wrap64 ((wrap64 (153 * (wrap64 (a1 - 3)))) + 2)) 5)))) + a2)) - 719469)))) = some r := h
  clear h
  by_cases c4 : (wrap64 (a1 - 3)) < 0
  · rw [if_pos c4] at H
    have c4b0 : decide ((wrap64 (a1 - 3)) < 0) = true := decide_eq_true c4
    clear c4
    obtain rfl := Option.some.inj H
    go_enter Tryz.func109, Tryz.ntmps109
    go_wp2
    go_ret
    exact ⟨by first | rfl | (simp; done) | (simp [*]; done), by repeat (first | exact Drawn0.refl _ | apply Drawn0.step)⟩
  · rw [if_neg c4] at H
    have c4b0 : decide ((wrap64 (a1 - 3)) < 0) = false := decide_eq_false c4
    clear c4
    obtain rfl := Option.some.inj H
    go_enter Tryz.func109, Tryz.ntmps109
    go_wp2
    go_ret
    exact ⟨by first | rfl | (simp; done) | (simp [*]; done), by repeat (first | exact Drawn0.refl _ | apply Drawn0.step)⟩
end Go.Proofs.YtmgnnplcnmhbaaaGreatDoor.PT
end
section
namespace Go.Proofs.YtmgnnplcnmhbaaaGreatDoor.PT
open Go.RowKit Go.Proofs.YtmgnnplcnmhbaaaGreatDoorW.PrintWords Go.Proofs.YtmgnnplcnmhbaaaGreatDoorW.PrintLast Go.Proofs.YtmgnnplcnmhbaaaGreatDoorW.PrintMore
attribute [local go_sem] max2_int min2_int max_two min_two max_three min_three max_four min_four   -- for this text's walks alone
set_option linter.unusedVariables false
set_option linter.unusedSimpArgs false
def civil_Date.j0 : Nat → Int → Bool → Option (Int × Int × Int × Int)
  | 0, _, _ => none
  | k + 1, x0, x17 => if x17 = true then (some (0, 0, 0, 1)) else (if (wrap64 ((wrap64 (Int.tdiv (wrap64 ((wrap64 (5 * (wrap64 ((wrap64 ((wrap64 ((Int.tmod (wrap64 (x0 + 719468)) 146097) - (wrap64 (36524 * (mn (wrap64 (Int.tdiv (Int.tmod (wrap64 (x0 + 719468)) 146097) 36524)) 3))))) - (wrap64 (1461 * (wrap64 (Int.tdiv (wrap64 ((Int.tmod (wrap64 (x0 + 719468)) 146097) - (wrap64 (36524 * (mn (wrap64 (Int.tdiv (Int.tmod (wrap64 (x0 + 719468)) 146097) 36524)) 3))))) 1461)))))) - (wrap64 (365 * (mn (wrap64 (Int.tdiv (wrap64 ((wrap64 ((Int.tmod (wrap64 (x0 + 719468)) 146097) - (wrap64 (36524 * (mn (wrap64 (Int.tdiv (Int.tmod (wrap64 (x0 + 719468)) 146097) 36524)) 3))))) - (wrap64 (1461 * (wrap64 (Int.tdiv (wrap64 ((Int.tmod (wrap64 (x0 + 719468)) 146097) - (wrap64 (36524 * (mn (wrap64 (Int.tdiv (Int.tmod (wrap64 (x0 + 719468)) 146097) 36524)) 3))))) 1461)))))) 365)) 3))))))) + 2)) 153)) + 3)) > 12 then (some (wrap64 ((wrap64 ((wrap64 ((wrap64 ((wrap64 ((wrap64 (Int.tdiv (wrap64 (x0 + 719468)) 146097)) * 400)) + (wrap64 (100 * (mn (wrap64 (Int.tdiv (Int.tmod (wrap64 (x0 + 719468)) 146097) 36524)) 3))))) + (wrap64 (4 * (wrap64 (Int.tdiv (wrap64 ((Int.tmod (wrap64 (x0 + 719468)) 146097) - (wrap64 (36524 * (mn (wrap64 (Int.tdiv (Int.tmod (wrap64 (x0 + 719468)) 146097) 36524)) 3))))) 1461)))))) + (mn (wrap64 (Int.tdiv (wrap64 ((wrap64 ((Int.tmod (wrap64 (x0 + 719468)) 146097) - (wrap64 (36524 * (mn (wrap64 (Int.tdiv (Int.tmod (wrap64 (x0 + 719468)) 146097) 36524)) 3))))) - (wrap64 (1461 * (wrap64 (Int.tdiv (wrap64 ((Int.tmod (wrap64 (x0 + 719468)) 146097) - (wrap64 (36524 * (mn (wrap64 (Int.tdiv (Int.tmod (wrap64 (x0 + 719468)) 146097) 36524)) 3))))) 1461)))))) 365)) 3))) + 1), wrap64 ((wrap64 ((wrap64 (Int.tdiv (wrap64 ((wrap64 (5 * (wrap64 ((wrap64 ((wrap64 ((Int.tmod (wrap64 (x0 + 719468)) 146097) - (wrap64 (36524 * (mn (wrap64 (Int.tdiv (Int.tmod (wrap64 (x0 + 719468)) 146097) 36524)) 3))))) - (wrap64 (1461 * (wrap64 (Int.tdiv (wrap64 ((Int.tmod (wrap64 (x0 + 719468)) 146097) - (wrap64 (36524 * (mn (wrap64 (Int.tdiv (Int.tmod (wrap64 (x0 + 719468)) 146097) 36524)) 3))))) 1461)))))) - (wrap64 (365 * (mn (wrap64 (Int.tdiv (wrap64 ((wrap64 ((Int.tmod (wrap64 (x0 + 719468)) 146097) - (wrap64 (36524 * (mn (wrap64 (Int.tdiv (Int.tmod (wrap64 (x0 + 719468)) 146097) 36524)) 3))))) - (wrap64 (1461 * (wrap64 (Int.tdiv (wrap64 ((Int.tmod (wrap64 (x0 + 719468)) 146097) - (wrap64 (36524 * (mn (wrap64 (Int.tdiv (Int.tmod (wrap64 (x0 + 719468)) 146097) 36524)) 3))))) 1461)))))) 365)) 3))))))) + 2)) 153)) + 3)) - 12), wrap64 ((wrap64 ((wrap64 ((wrap64 ((wrap64 ((Int.tmod (wrap64 (x0 + 719468)) 146097) - (wrap64 (36524 * (mn (wrap64 (Int.tdiv (Int.tmod (wrap64 (x0 + 719468)) 146097) 36524)) 3))))) - (wrap64 (1461 * (wrap64 (Int.tdiv (wrap64 ((Int.tmod (wrap64 (x0 + 719468)) 146097) - (wrap64 (36524 * (mn (wrap64 (Int.tdiv (Int.tmod (wrap64 (x0 + 719468)) 146097) 36524)) 3))))) 1461)))))) - (wrap64 (365 * (mn (wrap64 (Int.tdiv (wrap64 ((wrap64 ((Int.tmod (wrap64 (x0 + 719468)) 146097) - (wrap64 (36524 * (mn (wrap64 (Int.tdiv (Int.tmod (wrap64 (x0 + 719468)) 146097) 36524)) 3))))) - (wrap64 (1461 * (wrap64 (Int.tdiv (wrap64 ((Int.tmod (wrap64 (x0 + 719468)) 146097) - (wrap64 (36524 * (mn (wrap64 (Int.tdiv (Int.tmod (wrap64 (x0 + 719468)) 146097) 36524)) 3))))) 1461)))))) 365)) 3))))) - (wrap64 (Int.tdiv (wrap64 ((wrap64 (153 * (wrap64 (Int.tdiv (wrap64 ((wrap64 (5 * (wrap64 ((wrap64 ((wrap64 ((Int.tmod (wrap64 (x0 + 719468)) 146097) - (wrap64 (36524 * (mn (wrap64 (Int.tdiv (Int.tmod (wrap64 (x0 + 719468)) 146097) 36524)) 3))))) - (wrap64 (1461 * (wrap64 (Int.tdiv (wrap64 ((Int.tmod (wrap64 (x0 + 719468)) 146097) - (wrap64 (36524 * (mn (wrap64 (Int.tdiv (Int.tmod (wrap64 (x0 + 719468)) 146097) 36524)) 3))))) 1461)))))) - (wrap64 (365 * (mn (wrap64 (Int.tdiv (wrap64 ((wrap64 ((Int.tmod (wrap64 (x0 + 719468)) 146097) - (wrap64 (36524 * (mn (wrap64 (Int.tdiv (Int.tmod (wrap64 (x0 + 719468)) 146097) 36524)) 3))))) - (wrap64 (1461 * (wrap64 (Int.tdiv (wrap64 ((Int.tmod (wrap64 (x0 + 719468)) 146097) - (wrap64 (36524 * (mn (wrap64 (Int.tdiv (Int.tmod (wrap64 (x0 + 719468)) 146097) 36524)) 3))))) 1461)))))) 365)) 3))))))) + 2)) 153)))) + 2)) 5)))) + 1), 0)) else (some (wrap64 ((wrap64 ((wrap64 ((wrap64 ((wrap64 (Int.tdiv (wrap64 (x0 + 719468)) 146097)) * 400)) + (wrap64 (100 * (mn (wrap64 (Int.tdiv (Int.tmod (wrap64 (x0 + 719468)) 146097) 36524)) 3))))) + (wrap64 (4 * (wrap64 (Int.tdiv (wrap64 ((Int.tmod (wrap64 (x0 + 719468)) 146097) - (wrap64 (36524 * (mn (wrap64 (Int.tdiv (Int.tmod (wrap64 (x0 + 719468)) 146097) 36524)) 3))))) 1461)))))) + (mn (wrap64 (Int.tdiv (wrap64 ((wrap64 ((Int.tmod (wrap64 (x0 + 719468)) 146097) - (wrap64 (36524 * (mn (wrap64 (Int.tdiv (Int.tmod (wrap64 (x0 + 719468)) 146097) 36524)) 3))))) - (wrap64 (1461 * (wrap64 (Int.tdiv (wrap64 ((Int.tmod (wrap64 (x0 + 719468)) 146097) - (wrap64 (36524 * (mn (wrap64 (Int.tdiv (Int.tmod (wrap64 (x0 + 719468)) 146097) 36524)) 3))))) 1461)))))) 365)) 3)), wrap64 ((wrap64 (Int.tdiv (wrap64 ((wrap64 (5 * (wrap64 ((wrap64 ((wrap64 ((Int.tmod (wrap64 (x0 + 719468)) 146097) - (wrap64 (36524 * (mn (wrap64 (Int.tdiv (Int.tmod (wrap64 (x0 + 719468)) 146097) 36524)) 3))))) - (wrap64 (1461 * (wrap64 (Int.tdiv (wrap64 ((Int.tmod (wrap64 (x0 + 719468)) 146097) - (wrap64 (36524 * (mn (wrap64 (Int.tdiv (Int.tmod (wrap64 (x0 + 719468)) 146097) 36524)) 3))))) 1461)))))) - (wrap64 (365 * (mn (wrap64 (Int.tdiv (wrap64 ((wrap64 ((Int.tmod (wrap64 (x0 + 719468)) 146097) - (wrap64 (36524 * (mn (wrap64 (Int.tdiv (Int.tmod (wrap64 (x0 + 719468)) 146097) 36524)) 3))))) - (wrap64 (1461 * (wrap64 (Int.tdiv (wrap64 ((Int.tmod (wrap64 (x0 + 719468)) 146097) - (wrap64 (36524 * (mn (wrap64 (Int.tdiv (Int.tmod (wrap64 (x0 + 719468)) 146097) 36524)) 3))))) 1461)))))) 365)) 3))))))) + 2)) 153)) + 3), wrap64 ((wrap64 ((wrap64 ((wrap64 ((wrap64 ((Int.tmod (wrap64 (x0 + 719468)) 146097) - (wrap64 (36524 * (mn (wrap64 (Int.tdiv (Int.tmod (wrap64 (x0 + 719468)) 146097) 36524)) 3))))) - (wrap64 (1461 * (wrap64 (Int.tdiv (wrap64 ((Int.tmod (wrap64 (x0 + 719468)) 146097) - (wrap64 (36524 * (mn (wrap64 (Int.tdiv (Int.tmod (wrap64 (x0 + 719468)) 146097) 36524)) 3))))) 1461)))))) - (wrap64 (365 * (mn (wrap64 (Int.tdiv (wrap64 ((wrap64 ((Int.tmod (wrap64 (x0 + 719468)) 146097) - (wrap64 (36524 * (mn (wrap64 (Int.tdiv (Int.tmod (wrap64 (x0 + 719468)) 146097) 36524)) 3))))) - (wrap64 (1461 * (wrap64 (Int.tdiv (wrap64 ((Int.tmod (wrap64 (x0 + 719468)) 146097) - (wrap64 (36524 * (mn (wrap64 (Int.tdiv (Int.tmod (wrap64 (x0 + 719468)) 146097) 36524)) 3))))) 1461)))))) 365)) 3))))) - (wrap64 (Int.tdiv (wrap64 ((wrap64 (153 * (wrap64 (Int.tdiv (wrap64 ((wrap64 (5 * (wrap64 ((wrap64 ((wrap64 ((Int.tmod (wrap64 (x0 + 719468)) 146097) - (wrap64 (36524 * (mn (wrap64 (Int.tdiv (Int.tmod (wrap64 (x0 + 719468)) 146097) 36524)) 3))))) - (wrap64 (1461 * (wrap64 (Int.tdiv (wrap64 ((Int.tmod (wrap64 (x0 + 719468)) 146097) - (wrap64 (36524 * (mn (wrap64 (Int.tdiv (Int.tmod (wrap64 (x0 + 719468)) 146097) 36524)) 3))))) 1461)))))) - (wrap64 (365 * (mn (wrap64 (Int.tdiv (wrap64 ((wrap64 ((Int.tmod (wrap64 (x0 + 719468)) 146097) - (wrap64 (36524 * (mn (wrap64 (Int.tdiv (Int.tmod (wrap64 (x0 + 719468)) 146097) 36524)) 3))))) - (wrap64 (1461 * (wrap64 (Int.tdiv (wrap64 ((Int.tmod (wrap64 (x0 + 719468)) 146097) - (wrap64 (36524 * (mn (wrap64 (Int.tdiv (Int.tmod (wrap64 (x0 + 719468)) 146097) 36524)) 3))))) 1461)))))) 365)) 3))))))) + 2)) 153)))) + 2)) 5)))) + 1), 0)))
def civil_Date.f (k : Nat) (a0 : Int) : Option (Int × Int × Int × Int) := (civil_days.f 1600 1 1).bind fun t184 => (if a0 < t184 then (civil_Date.j0 k a0 true) else ((civil_days.f 2399 12 31).bind fun t185 => (civil_Date.j0 k a0 (decide (a0 > t185)))))
theorem civil_Date.mono_l : ∀ k, (∀ y0 y1, LeO (civil_Date.j0 k y0 y1) (civil_Date.j0 (k + 1) y0 y1))
  | 0 => fun _ _ r h => by simp [civil_Date.j0] at h
  | k + 1 => by
    have ih0 := civil_Date.mono_l k
    · intro y0 y1
      unfold civil_Date.j0
      repeat' first
      | (with_reducible exact ih0 _ _)
      | (with_reducible exact LeO.refl _)
      | (with_reducible exact LeO.none _)
      | (with_reducible refine LeO.ite ?_ ?_)
      | (with_reducible refine LeO.bind ?_ (fun _ => ?_))
      | exact ih0 _ _
      | exact LeO.none _
      | refine LeO.ite ?_ ?_
      | refine LeO.bind ?_ (fun _ => ?_)
theorem civil_Date.mono : ∀ a0 k, LeO (civil_Date.f k a0) (civil_Date.f (k + 1) a0) := by
  intro a0 k
  have ih0 := civil_Date.mono_l k
  unfold civil_Date.f
  repeat' first
      | (with_reducible exact ih0 _ _)
      | (with_reducible exact LeO.refl _)
      | (with_reducible exact LeO.none _)
      | (with_reducible refine LeO.ite ?_ ?_)
      | (with_reducible refine LeO.bind ?_ (fun _ => ?_))
      | exact ih0 _ _
      | exact LeO.none _
      | refine LeO.ite ?_ ?_
      | refine LeO.bind ?_ (fun _ => ?_)
set_option maxHeartbeats 8000000 in
set_option maxRecDepth 100000 in
theorem civil_Date.calls (k : Nat) (a0 : Int) (r1 : Int) (r2 : Int) (r3 : Int) (r4 : Int) (w : World) (h : civil_Date.f k a0 = some (r1, r2, r3, r4)) :
    Calls Tryz.prog 90 #[.int .i64 a0] w fun e w' => e = .returned (.tuple #[.int .i64 r1, .int .i64 r2, .int .i64 r3, .int .i64 r4]) ∧ Below w.heap.size w w' := by
  have HB := Aside0.mk (Below.refl w.heap.size w)
  have H : ((civil_days.f 1600 1 1).bind fun t184 => (if a0 < t184 then (civil_Date.j0 k a0 true) else ((civil_days.f 2399 12 31).bind fun t185 => (civil_Date.j0 k a0 (decide (a0 > t185)))))) = some (r1, r2, r3, r4) := h
  clear h
  have HC2 := Aside0.mk H
  clear H
  go_enter Tryz.func90, Tryz.ntmps90
  go_upto_region 1 with (fail)
  go_cut [17] (fun v17 wc => ∃ (kq : Nat) (x17_1 : Bool), v17 = .bool x17_1 ∧ Aside0 (civil_Date.j0 kq a0 x17_1 = some (r1, r2, r3, r4)) ∧ Aside0 (kq ≤ k) ∧ Aside0 (Below w.heap.size w wc))
  case first =>
    have H := HC2.out
    clear HC2
    replace H := Option.bind_eq_some_iff.mp H
    obtain ⟨t184, A30, H⟩ := H
    replace H : (if a0 < t184 then (civil_Date.j0 k a0 true) else ((civil_days.f 2399 12 31).bind fun t185 => (civil_Date.j0 k a0 (decide (a0 > t185))))) = some (r1, r2, r3, r4) := H
    have A3 := Aside0.mk A30
    clear A30
    by_cases c4 : a0 < t184
    · rw [if_pos c4] at H
      have c4b0 : decide (a0 < t184) = true := decide_eq_true c4
      clear c4
      (first | rw [c4b0] | (simp only [i64_w, i32_w]; rw [c4b0]) | skip)
      have H' := Aside0.mk H
      clear H
      go_wp2_with (first | ((with_reducible refine gate_callee (f := 109) rfl ?_); refine goesL_ (some 11) rfl rfl Tryz.func109 (by kernel_rfl) rfl #[.int .i64 1600, .int .i64 1, .int .i64 1] rfl (by (try simp only [List.map_toArray, List.map_cons, List.map_nil]); first | done | rfl | (simp only [List.length_drop, List.length_take]; rfl)) ?_; (with_reducible refine (civil_days.calls 1600 1 1 t184 _ A3.out).mono ?_); rintro e w' ⟨rfl, ⟨nd, rfl⟩⟩; refine ⟨_, rfl, ?_⟩))
      go_meet
      case rel => exact ⟨_, (true), (by first | rfl | (simp; done) | (simp [*]; done)), H', ⟨by first | omega | exact Nat.le_refl _⟩, ⟨by repeat (first | (with_reducible first | exact HB.out | apply below_alloc | apply pw_below_drewN | apply below_drew1) | exact HB.out)⟩⟩
    · rw [if_neg c4] at H
      have c4b0 : decide (a0 < t184) = false := decide_eq_false c4
      clear c4
      (first | rw [c4b0] | (simp only [i64_w, i32_w]; rw [c4b0]) | skip)
      replace H := Option.bind_eq_some_iff.mp H
      obtain ⟨t185, A50, H⟩ := H
      replace H : (civil_Date.j0 k a0 (decide (a0 > t185))) = some (r1, r2, r3, r4) := H
      have A5 := Aside0.mk A50
      clear A50
      have H' := Aside0.mk H
      clear H
      go_wp2_with (first | ((with_reducible refine gate_callee (f := 109) rfl ?_); refine goesL_ (some 11) rfl rfl Tryz.func109 (by kernel_rfl) rfl #[.int .i64 1600, .int .i64 1, .int .i64 1] rfl (by (try simp only [List.map_toArray, List.map_cons, List.map_nil]); first | done | rfl | (simp only [List.length_drop, List.length_take]; rfl)) ?_; (with_reducible refine (civil_days.calls 1600 1 1 t184 _ A3.out).mono ?_); rintro e w' ⟨rfl, ⟨nd, rfl⟩⟩; refine ⟨_, rfl, ?_⟩) | (go_at_call 109; (with_reducible refine (civil_days.calls 2399 12 31 t185 _ A5.out).mono ?_); rintro e w' ⟨rfl, ⟨nd, rfl⟩⟩))
      go_meet
      case rel => exact ⟨_, (decide (a0 > t185)), (by first | rfl | (simp; done) | (simp [*]; done)), H', ⟨by first | omega | exact Nat.le_refl _⟩, ⟨by repeat (first | (with_reducible first | exact HB.out | apply below_alloc | apply pw_below_drewN | apply below_drew1) | exact HB.out)⟩⟩
  case rest =>
    clear HC2
    try clear c1
    try clear p2
    try clear c4
    try clear c4b0
    obtain ⟨kq, x17_1, rfl, HA, HJ1, HB⟩ := hcut
    cases kq with
    | zero => exact absurd HA.out (by simp [civil_Date.j0])
    | succ kj1 =>
      have H := HA.out
      clear HA
      simp only [civil_Date.j0] at H
      by_cases c6 : x17_1 = true
      · subst c6
        have H1 : (some (0, 0, 0, 1)) = some (r1, r2, r3, r4) := by rw [if_pos rfl] at H; exact H
        clear H
        have H := H1
        clear H1
        simp only [Option.some.injEq, Prod.mk.injEq] at H
        obtain ⟨rfl, rfl, rfl, rfl⟩ := H
        go_wp2
        refine bodyPost_ret (results_list (rs := [.tmp 2, .tmp 3, .tmp 4, .tmp 5]) rfl (by simp) (.tmp (.tmp (.tmp (.tmp .nil))))) rfl ?_
        exact ⟨by first | rfl | (simp [errW_none, errW_some] <;> rfl) | (simp [*, errW_none, errW_some] <;> rfl), by repeat (first | (with_reducible first | exact HB.out | apply below_alloc | apply pw_below_drewN | apply below_drew1) | exact HB.out)⟩
      · replace c6 := Bool.eq_false_iff.mpr c6
        subst c6
        have H1 : (if (wrap64 ((wrap64 (Int.tdiv (wrap64 ((wrap64 (5 * (wrap64 ((wrap64 ((wrap64 ((Int.tmod (wrap64 (a0 + 719468)) 146097) - (wrap64 (36524 * (mn (wrap64 (Int.tdiv (Int.tmod (wrap64 (a0 + 719468)) 146097) 36524)) 3))))) - (wrap64 (1461 * (wrap64 (Int.tdiv (wrap64 ((Int.tmod (wrap64 (a0 + 719468)) 146097) - (wrap64 (36524 * (mn (wrap64 (Int.tdiv (Int.tmod (wrap64 (a0 + 719468)) 146097) 36524)) 3))))) 1461)))))) - (wrap64 (365 * (mn (wrap64 (Int.tdiv (wrap64 ((wrap64 ((Int.tmod (wrap64 (a0 + 719468)) 146097) - (wrap64 (36524 * (mn (wrap64 (Int.tdiv (Int.tmod (wrap64 (a0 + 719468)) 146097) 36524)) 3))))) - (wrap64 (1461 * (wrap64 (Int.tdiv (wrap64 ((Int.tmod (wrap64 (a0 + 719468)) 146097) - (wrap64 (36524 * (mn (wrap64 (Int.tdiv (Int.tmod (wrap64 (a0 + 719468)) 146097) 36524)) 3))))) 1461)))))) 365)) 3))))))) + 2)) 153)) + 3)) > 12 then (some (wrap64 ((wrap64 ((wrap64 ((wrap64 ((wrap64 ((wrap64 (Int.tdiv (wrap64 (a0 + 719468)) 146097)) * 400)) + (wrap64 (100 * (mn (wrap64 (Int.tdiv (Int.tmod (wrap64 (a0 + 719468)) 146097) 36524)) 3))))) + (wrap64 (4 * (wrap64 (Int.tdiv (wrap64 ((Int.tmod (wrap64 (a0 + 719468)) 146097) - (wrap64 (36524 * (mn (wrap64 (Int.tdiv (Int.tmod (wrap64 (a0 + 719468)) 146097) 36524)) 3))))) 1461)))))) + (mn (wrap64 (Int.tdiv (wrap64 ((wrap64 ((Int.tmod (wrap64 (a0 + 719468)) 146097) - (wrap64 (36524 * (mn (wrap64 (Int.tdiv (Int.tmod (wrap64 (a0 + 719468)) 146097) 36524)) 3))))) - (wrap64 (1461 * (wrap64 (Int.tdiv (wrap64 ((Int.tmod (wrap64 (a0 + 719468)) 146097) - (wrap64 (36524 * (mn (wrap64 (Int.tdiv (Int.tmod (wrap64 (a0 + 719468)) 146097) 36524)) 3))))) 1461)))))) 365)) 3))) + 1), wrap64 ((wrap64 ((wrap64 (Int.tdiv (wrap64 ((wrap64 (5 * (wrap64 ((wrap64 ((wrap64 ((Int.tmod (wrap64 (a0 + 719468)) 146097) - (wrap64 (36524 * (mn (wrap64 (Int.tdiv (Int.tmod (wrap64 (a0 + 719468)) 146097) 36524)) 3))))) - (wrap64 (1461 * (wrap64 (Int.tdiv (wrap64 ((Int.tmod (wrap64 (a0 + 719468)) 146097) - (wrap64 (36524 * (mn (wrap64 (Int.tdiv (Int.tmod (wrap64 (a0 + 719468)) 146097) 36524)) 3))))) 1461)))))) - (wrap64 (365 * (mn (wrap64 (Int.tdiv (wrap64 ((wrap64 ((Int.tmod (wrap64 (a0 + 719468)) 146097) - (wrap64 (36524 * (mn (wrap64 (Int.tdiv (Int.tmod (wrap64 (a0 + 719468)) 146097) 36524)) 3))))) - (wrap64 (1461 * (wrap64 (Int.tdiv (wrap64 ((Int.tmod (wrap64 (a0 + 719468)) 146097) - (wrap64 (36524 * (mn (wrap64 (Int.tdiv (Int.tmod (wrap64 (a0 + 719468)) 146097) 36524)) 3))))) 1461)))))) 365)) 3))))))) + 2)) 153)) + 3)) - 12), wrap64 ((wrap64 ((wrap64 ((wrap64 ((wrap64 ((Int.tmod (wrap64 (a0 + 719468)) 146097) - (wrap64 (36524 * (mn (wrap64 (Int.tdiv (Int.tmod (wrap64 (a0 + 719468)) 146097) 36524)) 3))))) - (wrap64 (1461 * (wrap64 (Int.tdiv (wrap64 ((Int.tmod (wrap64 (a0 + 719468)) 146097) - (wrap64 (36524 * (mn (wrap64 (Int.tdiv (Int.tmod (wrap64 (a0 + 719468)) 146097) 36524)) 3))))) 1461)))))) - (wrap64 (365 * (mn (wrap64 (Int.tdiv (wrap64 ((wrap64 ((Int.tmod (wrap64 (a0 + 719468)) 146097) - (wrap64 (36524 * (mn (wrap64 (Int.tdiv (Int.tmod (wrap64 (a0 + 719468)) 146097) 36524)) 3))))) - (wrap64 (1461 * (wrap64 (Int.tdiv (wrap64 ((Int.tmod (wrap64 (a0 + 719468)) 146097) - (wrap64 (36524 * (mn (wrap64 (Int.tdiv (Int.tmod (wrap64 (a0 + 719468)) 146097) 36524)) 3))))) 1461)))))) 365)) 3))))) - (wrap64 (Int.tdiv (wrap64 ((wrap64 (153 * (wrap64 (Int.tdiv (wrap64 ((wrap64 (5 * (wrap64 ((wrap64 ((wrap64 ((Int.tmod (wrap64 (a0 + 719468)) 146097) - (wrap64 (36524 * (mn (wrap64 (Int.tdiv (Int.tmod (wrap64 (a0 + 719468)) 146097) 36524)) 3))))) - (wrap64 (1461 * (wrap64 (Int.tdiv (wrap64 ((Int.tmod (wrap64 (a0 + 719468)) 146097) - (wrap64 (36524 * (mn (wrap64 (Int.tdiv (Int.tmod (wrap64 (a0 + 719468)) 146097) 36524)) 3))))) 1461)))))) - (wrap64 (365 * (mn (wrap64 (Int.tdiv (wrap64 ((wrap64 ((Int.tmod (wrap64 (a0 + 719468)) 146097) - (wrap64 (36524 * (mn (wrap64 (Int.tdiv (Int.tmod (wrap64 (a0 + 719468)) 146097) 36524)) 3))))) - (wrap64 (1461 * (wrap64 (Int.tdiv (wrap64 ((Int.tmod (wrap64 (a0 + 719468)) 146097) - (wrap64 (36524 * (mn (wrap64 (Int.tdiv (Int.tmod (wrap64 (a0 + 719468)) 146097) 36524)) 3))))) 1461)))))) 365)) 3))))))) + 2)) 153)))) + 2)) 5)))) + 1), 0)) else (some (wrap64 ((wrap64 ((wrap64 ((wrap64 ((wrap64 (Int.tdiv (wrap64 (a0 + 719468)) 146097)) * 400)) + (wrap64 (100 * (mn (wrap64 (Int.tdiv (Int.tmod (wrap64 (a0 + 719468)) 146097) 36524)) 3))))) + (wrap64 (4 * (wrap64 (Int.tdiv (wrap64 ((Int.tmod (wrap64 (a0 + 719468)) 146097) - (wrap64 (36524 * (mn (wrap64 (Int.tdiv (Int.tmod (wrap64 (a0 + 719468)) 146097) 36524)) 3))))) 1461)))))) + (mn (wrap64 (Int.tdiv (wrap64 ((wrap64 ((Int.tmod (wrap64 (a0 + 719468)) 146097) - (wrap64 (36524 * (mn (wrap64 (Int.tdiv (Int.tmod (wrap64 (a0 + 719468)) 146097) 36524)) 3))))) - (wrap64 (1461 * (wrap64 (Int.tdiv (wrap64 ((Int.tmod (wrap64 (a0 + 719468)) 146097) - (wrap64 (36524 * (mn (wrap64 (Int.tdiv (Int.tmod (wrap64 (a0 + 719468)) 146097) 36524)) 3))))) 1461)))))) 365)) 3)), wrap64 ((wrap64 (Int.tdiv (wrap64 ((wrap64 (5 * (wrap64 ((wrap64 ((wrap64 ((Int.tmod (wrap64 (a0 + 719468)) 146097) - (wrap64 (36524 * (mn (wrap64 (Int.tdiv (Int.tmod (wrap64 (a0 + 719468)) 146097) 36524)) 3))))) - (wrap64 (1461 * (wrap64 (Int.tdiv (wrap64 ((Int.tmod (wrap64 (a0 + 719468)) 146097) - (wrap64 (36524 * (mn (wrap64 (Int.tdiv (Int.tmod (wrap64 (a0 + 719468)) 146097) 36524)) 3))))) 1461)))))) - (wrap64 (365 * (mn (wrap64 (Int.tdiv (wrap64 ((wrap64 ((Int.tmod (wrap64 (a0 + 719468)) 146097) - (wrap64 (36524 * (mn (wrap64 (Int.tdiv (Int.tmod (wrap64 (a0 + 719468)) 146097) 36524)) 3))))) - (wrap64 (1461 * (wrap64 (Int.tdiv (wrap64 ((Int.tmod (wrap64 (a0 + 719468)) 146097) - (wrap64 (36524 * (mn (wrap64 (Int.tdiv (Int.tmod (wrap64 (a0 + 719468)) 146097) 36524)) 3))))) 1461)))))) 365)) 3))))))) + 2)) 153)) + 3), wrap64 ((wrap64 ((wrap64 ((wrap64 ((wrap64 ((Int.tmod (wrap64 (a0 + 719468)) 146097) - (wrap64 (36524 * (mn (wrap64 (Int.tdiv (Int.tmod (wrap64 (a0 + 719468)) 146097) 36524)) 3))))) - (wrap64 (1461 * (wrap64 (Int.tdiv (wrap64 ((Int.tmod (wrap64 (a0 + 719468)) 146097) - (wrap64 (36524 * (mn (wrap64 (Int.tdiv (Int.tmod (wrap64 (a0 + 719468)) 146097) 36524)) 3))))) 1461)))))) - (wrap64 (365 * (mn (wrap64 (Int.tdiv (wrap64 ((wrap64 ((Int.tmod (wrap64 (a0 + 719468)) 146097) - (wrap64 (36524 * (mn (wrap64 (Int.tdiv (Int.tmod (wrap64 (a0 + 719468)) 146097) 36524)) 3))))) - (wrap64 (1461 * (wrap64 (Int.tdiv (wrap64 ((Int.tmod (wrap64 (a0 + 719468)) 146097) - (wrap64 (36524 * (mn (wrap64 (Int.tdiv (Int.tmod (wrap64 (a0 + 719468)) 146097) 36524)) 3))))) 1461)))))) 365)) 3))))) - (wrap64 (Int.tdiv (wrap64 ((wrap64 (153 * (wrap64 (Int.tdiv (wrap64 ((wrap64 (5 * (wrap64 ((wrap64 ((wrap64 ((Int.tmod (wrap64 (a0 + 719468)) 146097) - (wrap64 (36524 * (mn (wrap64 (Int.tdiv (Int.tmod (wrap64 (a0 + 719468)) 146097) 36524)) 3))))) - (wrap64 (1461 * (wrap64 (Int.tdiv (wrap64 ((Int.tmod (wrap64 (a0 + 719468)) 146097) - (wrap64 (36524 * (mn (wrap64 (Int.tdiv (Int.tmod (wrap64 (a0 + 719468)) 146097) 36524)) 3))))) 1461)))))) - (wrap64 (365 * (mn (wrap64 (Int.tdiv (wrap64 ((wrap64 ((Int.tmod (wrap64 (a0 + 719468)) 146097) - (wrap64 (36524 * (mn (wrap64 (Int.tdiv (Int.tmod (wrap64 (a0 + 719468)) 146097) 36524)) 3))))) - (wrap64 (1461 * (wrap64 (Int.tdiv (wrap64 ((Int.tmod (wrap64 (a0 + 719468)) 146097) - (wrap64 (36524 * (mn (wrap64 (Int.tdiv (Int.tmod (wrap64 (a0 + 719468)) 146097) 36524)) 3))))) 1461)))))) 365)) 3))))))) + 2)) 153)))) + 2)) 5)))) + 1), 0))) = some (r1, r2, r3, r4) := by rw [if_neg (show ¬ (false = true) by decide)] at H; exact H
        clear H
        have H := H1
        clear H1
        obtain ⟨ji7, hji7⟩ : ∃ j_ : Int, (mn (wrap64 (Int.tdiv (Int.tmod (wrap64 (a0 + 719468)) 146097) 36524)) 3) = j_ := ⟨_, rfl⟩
        replace H : (if (wrap64 ((wrap64 (Int.tdiv (wrap64 ((wrap64 (5 * (wrap64 ((wrap64 ((wrap64 ((Int.tmod (wrap64 (a0 + 719468)) 146097) - (wrap64 (36524 * (ji7))))) - (wrap64 (1461 * (wrap64 (Int.tdiv (wrap64 ((Int.tmod (wrap64 (a0 + 719468)) 146097) - (wrap64 (36524 * (ji7))))) 1461)))))) - (wrap64 (365 * (mn (wrap64 (Int.tdiv (wrap64 ((wrap64 ((Int.tmod (wrap64 (a0 + 719468)) 146097) - (wrap64 (36524 * (ji7))))) - (wrap64 (1461 * (wrap64 (Int.tdiv (wrap64 ((Int.tmod (wrap64 (a0 + 719468)) 146097) - (wrap64 (36524 * (ji7))))) 1461)))))) 365)) 3))))))) + 2)) 153)) + 3)) > 12 then (some (wrap64 ((wrap64 ((wrap64 ((wrap64 ((wrap64 ((wrap64 (Int.tdiv (wrap64 (a0 + 719468)) 146097)) * 400)) + (wrap64 (100 * (ji7))))) + (wrap64 (4 * (wrap64 (Int.tdiv (wrap64 ((Int.tmod (wrap64 (a0 + 719468)) 146097) - (wrap64 (36524 * (ji7))))) 1461)))))) + (mn (wrap64 (Int.tdiv (wrap64 ((wrap64 ((Int.tmod (wrap64 (a0 + 719468)) 146097) - (wrap64 (36524 * (ji7))))) - (wrap64 (1461 * (wrap64 (Int.tdiv (wrap64 ((Int.tmod (wrap64 (a0 + 719468)) 146097) - (wrap64 (36524 * (ji7))))) 1461)))))) 365)) 3))) + 1), wrap64 ((wrap64 ((wrap64 (Int.tdiv (wrap64 ((wrap64 (5 * (wrap64 ((wrap64 ((wrap64 ((Int.tmod (wrap64 (a0 + 719468)) 146097) - (wrap64 (36524 * (ji7))))) - (wrap64 (1461 * (wrap64 (Int.tdiv (wrap64 ((Int.tmod (wrap64 (a0 + 719468)) 146097) - (wrap64 (36524 * (ji7))))) 1461)))))) - (wrap64 (365 * (mn (wrap64 (Int.tdiv (wrap64 ((wrap64 ((Int.tmod (wrap64 (a0 + 719468)) 146097) - (wrap64 (36524 * (ji7))))) - (wrap64 (1461 * (wrap64 (Int.tdiv (wrap64 ((Int.tmod (wrap64 (a0 + 719468)) 146097) - (wrap64 (36524 * (ji7))))) 1461)))))) 365)) 3))))))) + 2)) 153)) + 3)) - 12), wrap64 ((wrap64 ((wrap64 ((wrap64 ((wrap64 ((Int.tmod (wrap64 (a0 + 719468)) 146097) - (wrap64 (36524 * (ji7))))) - (wrap64 (1461 * (wrap64 (Int.tdiv (wrap64 ((Int.tmod (wrap64 (a0 + 719468)) 146097) - (wrap64 (36524 * (ji7))))) 1461)))))) - (wrap64 (365 * (mn (wrap64 (Int.tdiv (wrap64 ((wrap64 ((Int.tmod (wrap64 (a0 + 719468)) 146097) - (wrap64 (36524 * (ji7))))) - (wrap64 (1461 * (wrap64 (Int.tdiv (wrap64 ((Int.tmod (wrap64 (a0 + 719468)) 146097) - (wrap64 (36524 * (ji7))))) 1461)))))) 365)) 3))))) - (wrap64 (Int.tdiv (wrap64 ((wrap64 (153 * (wrap64 (Int.tdiv (wrap64 ((wrap64 (5 * (wrap64 ((wrap64 ((wrap64 ((Int.tmod (wrap64 (a0 + 719468)) 146097) - (wrap64 (36524 * (ji7))))) - (wrap64 (1461 * (wrap64 (Int.tdiv (wrap64 ((Int.tmod (wrap64 (a0 + 719468)) 146097) - (wrap64 (36524 * (ji7))))) 1461)))))) - (wrap64 (365 * (mn (wrap64 (Int.tdiv (wrap64 ((wrap64 ((Int.tmod (wrap64 (a0 + 719468)) 146097) - (wrap64 (36524 * (ji7))))) - (wrap64 (1461 * (wrap64 (Int.tdiv (wrap64 ((Int.tmod (wrap64 (a0 + 719468)) 146097) - (wrap64 (36524 * (ji7))))) 1461)))))) 365)) 3))))))) + 2)) 153)))) + 2)) 5)))) + 1), 0)) else (some (wrap64 ((wrap64 ((wrap64 ((wrap64 ((wrap64 (Int.tdiv (wrap64 (a0 + 719468)) 146097)) * 400)) + (wrap64 (100 * (ji7))))) + (wrap64 (4 * (wrap64 (Int.tdiv (wrap64 ((Int.tmod (wrap64 (a0 + 719468)) 146097) - (wrap64 (36524 * (ji7))))) 1461)))))) + (mn (wrap64 (Int.tdiv (wrap64 ((wrap64 ((Int.tmod (wrap64 (a0 + 719468)) 146097) - (wrap64 (36524 * (ji7))))) - (wrap64 (1461 * (wrap64 (Int.tdiv (wrap64 ((Int.tmod (wrap64 (a0 + 719468)) 146097) - (wrap64 (36524 * (ji7))))) 1461)))))) 365)) 3)), wrap64 ((wrap64 (Int.tdiv (wrap64 ((wrap64 (5 * (wrap64 ((wrap64 ((wrap64 ((Int.tmod (wrap64 (a0 + 719468)) 146097) - (wrap64 (36524 * (ji7))))) - (wrap64 (1461 * (wrap64 (Int.tdiv (wrap64 ((Int.tmod (wrap64 (a0 + 719468)) 146097) - (wrap64 (36524 * (ji7))))) 1461)))))) - (wrap64 (365 * (mn (wrap64 (Int.tdiv (wrap64 ((wrap64 ((Int.tmod (wrap64 (a0 + 719468)) 146097) - (wrap64 (36524 * (ji7))))) - (wrap64 (1461 * (wrap64 (Int.tdiv (wrap64 ((Int.tmod (wrap64 (a0 + 719468)) 146097) - (wrap64 (36524 * (ji7))))) 1461)))))) 365)) 3))))))) + 2)) 153)) + 3), wrap64 ((wrap64 ((wrap64 ((wrap64 ((wrap64 ((Int.tmod (wrap64 (a0 + 719468)) 146097) - (wrap64 (36524 * (ji7))))) - (wrap64 (1461 * (wrap64 (Int.tdiv (wrap64 ((Int.tmod (wrap64 (a0 + 719468)) 146097) - (wrap64 (36524 * (ji7))))) 1461)))))) - (wrap64 (365 * (mn (wrap64 (Int.tdiv (wrap64 ((wrap64 ((Int.tmod (wrap64 (a0 + 719468)) 146097) - (wrap64 (36524 * (ji7))))) - (wrap64 (1461 * (wrap64 (Int.tdiv (wrap64 ((Int.tmod (wrap64 (a0 + 719468)) 146097) - (wrap64 (36524 * (ji7))))) 1461)))))) 365)) 3))))) - (wrap64 (Int.tdiv (wrap64 ((wrap64 (153 * (wrap64 (Int.tdiv (wrap64 ((wrap64 (5 * (wrap64 ((wrap64 ((wrap64 ((Int.tmod (wrap64 (a0 + 719468)) 146097) - (wrap64 (36524 * (ji7))))) - (wrap64 (1461 * (wrap64 (Int.tdiv (wrap64 ((Int.tmod (wrap64 (a0 + 719468)) 146097) - (wrap64 (36524 * (ji7))))) 1461)))))) - (wrap64 (365 * (mn (wrap64 (Int.tdiv (wrap64 ((wrap64 ((Int.tmod (wrap64 (a0 + 719468)) 146097) - (wrap64 (36524 * (ji7))))) - (wrap64 (1461 * (wrap64 (Int.tdiv (wrap64 ((Int.tmod (wrap64 (a0 + 719468)) 146097) - (wrap64 (36524 * (ji7))))) 1461)))))) 365)) 3))))))) + 2)) 153)))) + 2)) 5)))) + 1), 0))) = some (r1, r2, r3, r4) := by first | (rw [hji7] at H; exact H) | (simp only [hji7] at H ⊢; exact H)
        have hji7_ : (if 3 < (wrap64 (Int.tdiv (Int.tmod (wrap64 (a0 + 719468)) 146097) 36524)) then 3 else (wrap64 (Int.tdiv (Int.tmod (wrap64 (a0 + 719468)) 146097) 36524))) = ji7 := hji7
        obtain ⟨ji8, hji8⟩ : ∃ j_ : Int, (mn (wrap64 (Int.tdiv (wrap64 ((wrap64 ((Int.tmod (wrap64 (a0 + 719468)) 146097) - (wrap64 (36524 * (ji7))))) - (wrap64 (1461 * (wrap64 (Int.tdiv (wrap64 ((Int.tmod (wrap64 (a0 + 719468)) 146097) - (wrap64 (36524 * (ji7))))) 1461)))))) 365)) 3) = j_ := ⟨_, rfl⟩
        replace H : (if (wrap64 ((wrap64 (Int.tdiv (wrap64 ((wrap64 (5 * (wrap64 ((wrap64 ((wrap64 ((Int.tmod (wrap64 (a0 + 719468)) 146097) - (wrap64 (36524 * (ji7))))) - (wrap64 (1461 * (wrap64 (Int.tdiv (wrap64 ((Int.tmod (wrap64 (a0 + 719468)) 146097) - (wrap64 (36524 * (ji7))))) 1461)))))) - (wrap64 (365 * (ji8))))))) + 2)) 153)) + 3)) > 12 then (some (wrap64 ((wrap64 ((wrap64 ((wrap64 ((wrap64 ((wrap64 (Int.tdiv (wrap64 (a0 + 719468)) 146097)) * 400)) + (wrap64 (100 * (ji7))))) + (wrap64 (4 * (wrap64 (Int.tdiv (wrap64 ((Int.tmod (wrap64 (a0 + 719468)) 146097) - (wrap64 (36524 * (ji7))))) 1461)))))) + (ji8))) + 1), wrap64 ((wrap64 ((wrap64 (Int.tdiv (wrap64 ((wrap64 (5 * (wrap64 ((wrap64 ((wrap64 ((Int.tmod (wrap64 (a0 + 719468)) 146097) - (wrap64 (36524 * (ji7))))) - (wrap64 (1461 * (wrap64 (Int.tdiv (wrap64 ((Int.tmod (wrap64 (a0 + 719468)) 146097) - (wrap64 (36524 * (ji7))))) 1461)))))) - (wrap64 (365 * (ji8))))))) + 2)) 153)) + 3)) - 12), wrap64 ((wrap64 ((wrap64 ((wrap64 ((wrap64 ((Int.tmod (wrap64 (a0 + 719468)) 146097) - (wrap64 (36524 * (ji7))))) - (wrap64 (1461 * (wrap64 (Int.tdiv (wrap64 ((Int.tmod (wrap64 (a0 + 719468)) 146097) - (wrap64 (36524 * (ji7))))) 1461)))))) - (wrap64 (365 * (ji8))))) - (wrap64 (Int.tdiv (wrap64 ((wrap64 (153 * (wrap64 (Int.tdiv (wrap64 ((wrap64 (5 * (wrap64 ((wrap64 ((wrap64 ((Int.tmod (wrap64 (a0 + 719468)) 146097) - (wrap64 (36524 * (ji7))))) - (wrap64 (1461 * (wrap64 (Int.tdiv (wrap64 ((Int.tmod (wrap64 (a0 + 719468)) 146097) - (wrap64 (36524 * (ji7))))) 1461)))))) - (wrap64 (365 * (ji8))))))) + 2)) 153)))) + 2)) 5)))) + 1), 0)) else (some (wrap64 ((wrap64 ((wrap64 ((wrap64 ((wrap64 (Int.tdiv (wrap64 (a0 + 719468)) 146097)) * 400)) + (wrap64 (100 * (ji7))))) + (wrap64 (4 * (wrap64 (Int.tdiv (wrap64 ((Int.tmod (wrap64 (a0 + 719468)) 146097) - (wrap64 (36524 * (ji7))))) 1461)))))) + (ji8)), wrap64 ((wrap64 (Int.tdiv (wrap64 ((wrap64 (5 * (wrap64 ((wrap64 ((wrap64 ((Int.tmod (wrap64 (a0 + 719468)) 146097) - (wrap64 (36524 * (ji7))))) - (wrap64 (1461 * (wrap64 (Int.tdiv (wrap64 ((Int.tmod (wrap64 (a0 + 719468)) 146097) - (wrap64 (36524 * (ji7))))) 1461)))))) - (wrap64 (365 * (ji8))))))) + 2)) 153)) + 3), wrap64 ((wrap64 ((wrap64 ((wrap64 ((wrap64 ((Int.tmod (wrap64 (a0 + 719468)) 146097) - (wrap64 (36524 * (ji7))))) - (wrap64 (1461 * (wrap64 (Int.tdiv (wrap64 ((Int.tmod (wrap64 (a0 + 719468)) 146097) - (wrap64 (36524 * (ji7))))) 1461)))))) - (wrap64 (365 * (ji8))))) - (wrap64 (Int.tdiv (wrap64 ((wrap64 (153 * (wrap64 (Int.tdiv (wrap64 ((wrap64 (5 * (wrap64 ((wrap64 ((wrap64 ((Int.tmod (wrap64 (a0 + 719468)) 146097) - (wrap64 (36524 * (ji7))))) - (wrap64 (1461 * (wrap64 (Int.tdiv (wrap64 ((Int.tmod (wrap64 (a0 + 719468)) 146097) - (wrap64 (36524 * (ji7))))) 1461)))))) - (wrap64 (365 * (ji8))))))) + 2)) 153)))) + 2)) 5)))) + 1), 0))) = some (r1, r2, r3, r4) := by first | (rw [hji8] at H; exact H) | (simp only [hji8] at H ⊢; exact H)
        have hji8_ : (if 3 < (wrap64 (Int.tdiv (wrap64 ((wrap64 ((Int.tmod (wrap64 (a0 + 719468)) 146097) - (wrap64 (36524 * (ji7))))) - (wrap64 (1461 * (wrap64 (Int.tdiv (wrap64 ((Int.tmod (wrap64 (a0 + 719468)) 146097) - (wrap64 (36524 * (ji7))))) 1461)))))) 365)) then 3 else (wrap64 (Int.tdiv (wrap64 ((wrap64 ((Int.tmod (wrap64 (a0 + 719468)) 146097) - (wrap64 (36524 * (ji7))))) - (wrap64 (1461 * (wrap64 (Int.tdiv (wrap64 ((Int.tmod (wrap64 (a0 + 719468)) 146097) - (wrap64 (36524 * (ji7))))) 1461)))))) 365))) = ji8 := hji8
        by_cases c9 : (wrap64 ((wrap64 (Int.tdiv (wrap64 ((wrap64 (5 * (wrap64 ((wrap64 ((wrap64 ((Int.tmod (wrap64 (a0 + 719468)) 146097) - (wrap64 (36524 * (ji7))))) - (wrap64 (1461 * (wrap64 (Int.tdiv (wrap64 ((Int.tmod (wrap64 (a0 + 719468)) 146097) - (wrap64 (36524 * (ji7))))) 1461)))))) - (wrap64 (365 * (ji8))))))) + 2)) 153)) + 3)) > 12
        · rw [if_pos c9] at H
          have c9b0 : decide (12 < (wrap64 ((wrap64 (Int.tdiv (wrap64 ((wrap64 (5 * (wrap64 ((wrap64 ((wrap64 ((Int.tmod (wrap64 (a0 + 719468)) 146097) - (wrap64 (36524 * (ji7))))) - (wrap64 (1461 * (wrap64 (Int.tdiv (wrap64 ((Int.tmod (wrap64 (a0 + 719468)) 146097) - (wrap64 (36524 * (ji7))))) 1461)))))) - (wrap64 (365 * (ji8))))))) + 2)) 153)) + 3))) = true := decide_eq_true c9
          clear c9
          simp only [Option.some.injEq, Prod.mk.injEq] at H
          obtain ⟨rfl, rfl, rfl, rfl⟩ := H
          go_wp2
          refine bodyPost_ret (results_list (rs := [.tmp 2, .tmp 3, .tmp 4, .tmp 5]) rfl (by simp) (.tmp (.tmp (.tmp (.tmp .nil))))) rfl ?_
          exact ⟨by first | rfl | (simp [errW_none, errW_some] <;> rfl) | (simp only [← hji7, ← hji8]; first | rfl | (simp [errW_none, errW_some] <;> rfl)) | (simp [*, errW_none, errW_some] <;> rfl), by repeat (first | (with_reducible first | exact HB.out | apply below_alloc | apply pw_below_drewN | apply below_drew1) | exact HB.out)⟩
        · rw [if_neg c9] at H
          have c9b0 : decide (12 < (wrap64 ((wrap64 (Int.tdiv (wrap64 ((wrap64 (5 * (wrap64 ((wrap64 ((wrap64 ((Int.tmod (wrap64 (a0 + 719468)) 146097) - (wrap64 (36524 * (ji7))))) - (wrap64 (1461 * (wrap64 (Int.tdiv (wrap64 ((Int.tmod (wrap64 (a0 + 719468)) 146097) - (wrap64 (36524 * (ji7))))) 1461)))))) - (wrap64 (365 * (ji8))))))) + 2)) 153)) + 3))) = false := decide_eq_false c9
          clear c9
          simp only [Option.some.injEq, Prod.mk.injEq] at H
          obtain ⟨rfl, rfl, rfl, rfl⟩ := H
          go_wp2
          refine bodyPost_ret (results_list (rs := [.tmp 2, .tmp 3, .tmp 4, .tmp 5]) rfl (by simp) (.tmp (.tmp (.tmp (.tmp .nil))))) rfl ?_
          exact ⟨by first | rfl | (simp [errW_none, errW_some] <;> rfl) | (simp only [← hji7, ← hji8]; first | rfl | (simp [errW_none, errW_some] <;> rfl)) | (simp [*, errW_none, errW_some] <;> rfl), by repeat (first | (with_reducible first | exact HB.out | apply below_alloc | apply pw_below_drewN | apply below_drew1) | exact HB.out)⟩
end Go.Proofs.YtmgnnplcnmhbaaaGreatDoor.PT
end
section
namespace Go.Proofs.YtmgnnplcnmhbaaaGreatDoor.PT
open Go.RowKit Go.Proofs.YtmgnnplcnmhbaaaGreatDoorW.PrintWords Go.Proofs.YtmgnnplcnmhbaaaGreatDoorW.PrintLast Go.Proofs.YtmgnnplcnmhbaaaGreatDoorW.PrintMore
attribute [local go_sem] max2_int min2_int max_two min_two max_three min_three max_four min_four   -- for this text's walks alone
set_option linter.unusedVariables false
set_option linter.unusedSimpArgs false
def clock_Floor.f (a0 : Int) (a1 : Int) : Option (Int × Int) := if a1 = 0 then (none) else (if (Int.tmod a0 a1) < 0 then (some (wrap64 ((wrap64 (Int.tdiv a0 a1)) - 1), wrap64 ((Int.tmod a0 a1) + a1))) else (some (wrap64 (Int.tdiv a0 a1), Int.tmod a0 a1)))
set_option maxHeartbeats 8000000 in
set_option maxRecDepth 100000 in
theorem clock_Floor.calls (a0 : Int) (a1 : Int) (r1 : Int) (r2 : Int) (w : World) (h : clock_Floor.f a0 a1 = some (r1, r2)) :
    Calls Tryz.prog 89 #[.int .i64 a0, .int .i64 a1] w fun e w' => e = .returned (.tuple #[.int .i64 r1, .int .i64 r2]) ∧ Drawn0 w w' := by
  have H : (if a1 = 0 then (none) else (if (Int.tmod a0 a1) < 0 then (some (wrap64 ((wrap64 (Int.tdiv a0 a1)) - 1), wrap64 ((Int.tmod a0 a1) + a1))) else (some (wrap64 (Int.tdiv a0 a1), Int.tmod a0 a1)))) = some (r1, r2) := h
  clear h
  by_cases c3 : a1 = 0
  · rw [if_pos c3] at H
    exact absurd H (by simp)
  · rw [if_neg c3] at H
    have c3b0 : (a1 == 0) = false := beq_eq_false_iff_ne.mpr c3
    have c3b1 : (a1 != 0) = true := bne_iff_ne.mpr c3
    by_cases c4 : (Int.tmod a0 a1) < 0
    · rw [if_pos c4] at H
      have c4b0 : decide ((Int.tmod a0 a1) < 0) = true := decide_eq_true c4
      clear c4
      simp only [Option.some.injEq, Prod.mk.injEq] at H
      obtain ⟨rfl, rfl⟩ := H
      go_enter Tryz.func89, Tryz.ntmps89
      go_wp2
      repeat (go_quiet (fail); try go_wp2)
      go_ret2
      exact ⟨by first | rfl | (simp; done) | (simp [*]; done), by repeat (first | exact Drawn0.refl _ | apply Drawn0.step)⟩
    · rw [if_neg c4] at H
      have c4b0 : decide ((Int.tmod a0 a1) < 0) = false := decide_eq_false c4
      clear c4
      simp only [Option.some.injEq, Prod.mk.injEq] at H
      obtain ⟨rfl, rfl⟩ := H
      go_enter Tryz.func89, Tryz.ntmps89
      go_wp2
      repeat (go_quiet (fail); try go_wp2)
      go_ret2
      exact ⟨by first | rfl | (simp; done) | (simp [*]; done), by repeat (first | exact Drawn0.refl _ | apply Drawn0.step)⟩
end Go.Proofs.YtmgnnplcnmhbaaaGreatDoor.PT
end
section
namespace Go.Proofs.YtmgnnplcnmhbaaaGreatDoor.PT
open Go.RowKit Go.Proofs.YtmgnnplcnmhbaaaGreatDoorW.PrintWords Go.Proofs.YtmgnnplcnmhbaaaGreatDoorW.PrintLast Go.Proofs.YtmgnnplcnmhbaaaGreatDoorW.PrintMore
attribute [local go_sem] max2_int min2_int max_two min_two max_three min_three max_four min_four   -- for this text's walks alone
set_option linter.unusedVariables false
set_option linter.unusedSimpArgs false
def clock_two.f (a0 : Int) : Option (ByteArray) := some (strOfNums (([(wrap64 (48 + (wrap64 (Int.tdiv a0 10)))) % 256, (wrap64 (48 + (Int.tmod a0 10))) % 256] : List Int)))
set_option maxHeartbeats 8000000 in
set_option maxRecDepth 100000 in
theorem clock_two.calls (a0 : Int) (r : ByteArray) (w : World) (h : clock_two.f a0 = some r) :
    Calls Tryz.prog 84 #[.int .i64 a0] w fun e w' => e = .returned (.string r) ∧ Below w.heap.size w w' := by
  have HB := Aside0.mk (Below.refl w.heap.size w)
  have H : (some (strOfNums (([(wrap64 (48 + (wrap64 (Int.tdiv a0 10)))) % 256, (wrap64 (48 + (Int.tmod a0 10))) % 256] : List Int)))) = some r := h
  clear h
  obtain ⟨y181, hy181⟩ : ∃ y_ : List Int, y_ = (([(wrap64 (48 + (wrap64 (Int.tdiv a0 10)))) % 256, (wrap64 (48 + (Int.tmod a0 10))) % 256] : List Int)) := ⟨_, rfl⟩
  replace H : (some (strOfNums y181)) = some r := by first | (rw [hy181]; with_reducible exact H) | (have H2_ := (Option.bind_some _ _).symm.trans H; rw [hy181]; with_reducible exact H2_) | (have H2_ := (Option.bind_some _ _).symm.trans H; with_reducible exact H2_) | with_reducible exact H | (rw [hy181]; exact H) | exact H
  have Ny181 := Aside0.mk hy181
  clear hy181
  obtain rfl := Option.some.inj H
  go_enter Tryz.func84, Tryz.ntmps84
  go_wp2_with (first | ((with_reducible refine gate_dst (N := 11) rfl ?_); refine Kd.R_lit (Kd.int .u8) _ 5 ?hg (N := 11) ?hd (xs := ([(wrap64 (48 + (wrap64 (Int.tdiv a0 10)))) % 256, (wrap64 (48 + (Int.tmod a0 10))) % 256] : List Int)) (inner := [.int .u8 ((wrap64 (48 + (wrap64 (Int.tdiv a0 10)))) % 256), .int .u8 ((wrap64 (48 + (Int.tmod a0 10))) % 256)]) (ok := fun _ => True) (okp := fun _ => True) ?hr ?hp (fun _ hk => hk) trivial (Below.refl _ _) (Nat.le_refl _) (by simp) ?_; (case hd => rfl); (case hg => rfl); (case hr => first | (go_simp; done) | (go_simp; rfl)); (case hp => exact (Reps.one (show Kd.M (Kd.int .u8) _ _ _ ((wrap64 (48 + (wrap64 (Int.tdiv a0 10)))) % 256) [.int .u8 ((wrap64 (48 + (wrap64 (Int.tdiv a0 10)))) % 256)] from rfl) (Reps.one (show Kd.M (Kd.int .u8) _ _ _ ((wrap64 (48 + (Int.tmod a0 10))) % 256) [.int .u8 ((wrap64 (48 + (Int.tmod a0 10))) % 256)] from rfl) (Reps.none _ _)))); intro v182 w2 ho3 hb hg_ hnew_; clear hg_ hnew_; (first | rw [← Ny181.out] at ho3 | (simp only [Int.reduceToNat] at ho3; rw [← Ny181.out] at ho3)); have n0_ := Aside0.mk (Kd.R_lower ho3 (below_size (by repeat (first | (with_reducible first | exact HB.out | apply below_alloc | apply pw_below_drewN | apply below_drew1) | exact HB.out)))); have n1_ := Aside0.mk (below_step (by repeat (first | (with_reducible first | exact HB.out | apply below_alloc | apply pw_below_drewN | apply below_drew1) | exact HB.out)) hb); clear HB; have HO183 := n0_; have HB := n1_; clear n0_ n1_; clear hb ho3; have hcv4 := own_string (P := Tryz.prog) Tryz.underlying98 Tryz.underlying5 Tryz.underlying9 (Kd.own_of_R HO183.out)))
  go_ret
  exact ⟨by first | rfl | (simp [errW_none, errW_some] <;> rfl) | (simp [*, errW_none, errW_some] <;> rfl), by repeat (first | (with_reducible first | exact HB.out | apply below_alloc | apply pw_below_drewN | apply below_drew1) | exact HB.out)⟩
end Go.Proofs.YtmgnnplcnmhbaaaGreatDoor.PT
end
