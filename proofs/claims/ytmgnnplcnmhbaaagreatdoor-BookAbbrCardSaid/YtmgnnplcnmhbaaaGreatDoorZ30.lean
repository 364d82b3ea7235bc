/- Part 30 of 36 of the proof of bookAbbr_holds. What it holds was printed or written for this claim, text by text, and merged. -/
import Derived.Test.YtmgnnplcnmhbaaaGreatDoorZ29
import Derived.Test.YtmgnnplcnmhbaaaGreatDoorZ28
import Derived.Test.YtmgnnplcnmhbaaaGreatDoorZ26
import Derived.Test.YtmgnnplcnmhbaaaGreatDoorZ25
section
namespace Go.Proofs.YtmgnnplcnmhbaaaGreatDoor.PT
open Go.RowKit Go.Proofs.YtmgnnplcnmhbaaaGreatDoorW.PrintWords Go.Proofs.YtmgnnplcnmhbaaaGreatDoorW.PrintLast Go.Proofs.YtmgnnplcnmhbaaaGreatDoorW.PrintMore
attribute [local go_sem] max2_int min2_int max_two min_two max_three min_three max_four min_four   -- for this text's walks alone
set_option linter.unusedVariables false
set_option linter.unusedSimpArgs false
def clock_Stamp.f (k : Nat) (a0 : Int) : Option (ByteArray × Int) := (clock_Floor.f a0 86400).bind fun bt186 => ((civil_Date.f k bt186.1).bind fun bt188 => (if bt188.2.2.2 = 0 then ((strconv_Itoa.f bt188.1).bind fun t192 => (if t192.size + 1 ≤ 9223372036854775807 then ((clock_two.f bt188.2.1).bind fun t193 => (if (t192 ++ (⟨#[45]⟩ : ByteArray)).size + t193.size ≤ 9223372036854775807 then (if ((t192 ++ (⟨#[45]⟩ : ByteArray)) ++ t193).size + 1 ≤ 9223372036854775807 then ((clock_two.f bt188.2.2.1).bind fun t194 => (if (((t192 ++ (⟨#[45]⟩ : ByteArray)) ++ t193) ++ (⟨#[45]⟩ : ByteArray)).size + t194.size ≤ 9223372036854775807 then (if ((((t192 ++ (⟨#[45]⟩ : ByteArray)) ++ t193) ++ (⟨#[45]⟩ : ByteArray)) ++ t194).size + 1 ≤ 9223372036854775807 then ((clock_two.f (wrap64 (Int.tdiv bt186.2 3600))).bind fun t195 => (if (((((t192 ++ (⟨#[45]⟩ : ByteArray)) ++ t193) ++ (⟨#[45]⟩ : ByteArray)) ++ t194) ++ (⟨#[84]⟩ : ByteArray)).size + t195.size ≤ 9223372036854775807 then (if ((((((t192 ++ (⟨#[45]⟩ : ByteArray)) ++ t193) ++ (⟨#[45]⟩ : ByteArray)) ++ t194) ++ (⟨#[84]⟩ : ByteArray)) ++ t195).size + 1 ≤ 9223372036854775807 then ((clock_two.f (Int.tmod (wrap64 (Int.tdiv bt186.2 60)) 60)).bind fun t196 => (if (((((((t192 ++ (⟨#[45]⟩ : ByteArray)) ++ t193) ++ (⟨#[45]⟩ : ByteArray)) ++ t194) ++ (⟨#[84]⟩ : ByteArray)) ++ t195) ++ (⟨#[58]⟩ : ByteArray)).size + t196.size ≤ 9223372036854775807 then (if ((((((((t192 ++ (⟨#[45]⟩ : ByteArray)) ++ t193) ++ (⟨#[45]⟩ : ByteArray)) ++ t194) ++ (⟨#[84]⟩ : ByteArray)) ++ t195) ++ (⟨#[58]⟩ : ByteArray)) ++ t196).size + 1 ≤ 9223372036854775807 then ((clock_two.f (Int.tmod bt186.2 60)).bind fun t197 => (if (((((((((t192 ++ (⟨#[45]⟩ : ByteArray)) ++ t193) ++ (⟨#[45]⟩ : ByteArray)) ++ t194) ++ (⟨#[84]⟩ : ByteArray)) ++ t195) ++ (⟨#[58]⟩ : ByteArray)) ++ t196) ++ (⟨#[58]⟩ : ByteArray)).size + t197.size ≤ 9223372036854775807 then (some ((((((((((t192 ++ (⟨#[45]⟩ : ByteArray)) ++ t193) ++ (⟨#[45]⟩ : ByteArray)) ++ t194) ++ (⟨#[84]⟩ : ByteArray)) ++ t195) ++ (⟨#[58]⟩ : ByteArray)) ++ t196) ++ (⟨#[58]⟩ : ByteArray)) ++ t197, 0)) else (none))) else (none)) else (none))) else (none)) else (none))) else (none)) else (none))) else (none)) else (none))) else (none))) else (some ((⟨#[]⟩ : ByteArray), bt188.2.2.2))))
theorem clock_Stamp.mono : ∀ a0 k, LeO (clock_Stamp.f k a0) (clock_Stamp.f (k + 1) a0) := by
  intro a0 k
  unfold clock_Stamp.f
  repeat' first
      | (with_reducible exact civil_Date.mono _ _)
      | (with_reducible exact LeO.refl _)
      | (with_reducible exact LeO.none _)
      | (with_reducible refine LeO.ite ?_ ?_)
      | (with_reducible refine LeO.bind ?_ (fun _ => ?_))
      | exact civil_Date.mono _ _
      | exact LeO.none _
      | refine LeO.ite ?_ ?_
      | refine LeO.bind ?_ (fun _ => ?_)
set_option maxHeartbeats 8000000 in
set_option maxRecDepth 100000 in
theorem clock_Stamp.calls (k : Nat) (a0 : Int) (r1 : ByteArray) (r2 : Int) (w : World) (hL : LaidT w) (h : clock_Stamp.f k a0 = some (r1, r2)) :
    Calls Tryz.prog 59 #[.int .i64 a0] w fun e w' => e = .returned (.tuple #[.string r1, .int .i64 r2]) ∧ Below w.heap.size w w' := by
  have HB := Aside0.mk (Below.refl w.heap.size w)
  have HLA := Aside0.mk hL
  clear hL
  have H : ((clock_Floor.f a0 86400).bind fun bt186 => ((civil_Date.f k bt186.1).bind fun bt188 => (if bt188.2.2.2 = 0 then ((strconv_Itoa.f bt188.1).bind fun t192 => (if t192.size + 1 ≤ 9223372036854775807 then ((clock_two.f bt188.2.1).bind fun t193 => (if (t192 ++ (⟨#[45]⟩ : ByteArray)).size + t193.size ≤ 9223372036854775807 then (if ((t192 ++ (⟨#[45]⟩ : ByteArray)) ++ t193).size + 1 ≤ 9223372036854775807 then ((clock_two.f bt188.2.2.1).bind fun t194 => (if (((t192 ++ (⟨#[45]⟩ : ByteArray)) ++ t193) ++ (⟨#[45]⟩ : ByteArray)).size + t194.size ≤ 9223372036854775807 then (if ((((t192 ++ (⟨#[45]⟩ : ByteArray)) ++ t193) ++ (⟨#[45]⟩ : ByteArray)) ++ t194).size + 1 ≤ 9223372036854775807 then ((clock_two.f (wrap64 (Int.tdiv bt186.2 3600))).bind fun t195 => (if (((((t192 ++ (⟨#[45]⟩ : ByteArray)) ++ t193) ++ (⟨#[45]⟩ : ByteArray)) ++ t194) ++ (⟨#[84]⟩ : ByteArray)).size + t195.size ≤ 9223372036854775807 then (if ((((((t192 ++ (⟨#[45]⟩ : ByteArray)) ++ t193) ++ (⟨#[45]⟩ : ByteArray)) ++ t194) ++ (⟨#[84]⟩ : ByteArray)) ++ t195).size + 1 ≤ 9223372036854775807 then ((clock_two.f (Int.tmod (wrap64 (Int.tdiv bt186.2 60)) 60)).bind fun t196 => (if (((((((t192 ++ (⟨#[45]⟩ : ByteArray)) ++ t193) ++ (⟨#[45]⟩ : ByteArray)) ++ t194) ++ (⟨#[84]⟩ : ByteArray)) ++ t195) ++ (⟨#[58]⟩ : ByteArray)).size + t196.size ≤ 9223372036854775807 then (if ((((((((t192 ++ (⟨#[45]⟩ : ByteArray)) ++ t193) ++ (⟨#[45]⟩ : ByteArray)) ++ t194) ++ (⟨#[84]⟩ : ByteArray)) ++ t195) ++ (⟨#[58]⟩ : ByteArray)) ++ t196).size + 1 ≤ 9223372036854775807 then ((clock_two.f (Int.tmod bt186.2 60)).bind fun t197 => (if (((((((((t192 ++ (⟨#[45]⟩ : ByteArray)) ++ t193) ++ (⟨#[45]⟩ : ByteArray)) ++ t194) ++ (⟨#[84]⟩ : ByteArray)) ++ t195) ++ (⟨#[58]⟩ : ByteArray)) ++ t196) ++ (⟨#[58]⟩ : ByteArray)).size + t197.size ≤ 9223372036854775807 then (some ((((((((((t192 ++ (⟨#[45]⟩ : ByteArray)) ++ t193) ++ (⟨#[45]⟩ : ByteArray)) ++ t194) ++ (⟨#[84]⟩ : ByteArray)) ++ t195) ++ (⟨#[58]⟩ : ByteArray)) ++ t196) ++ (⟨#[58]⟩ : ByteArray)) ++ t197, 0)) else (none))) else (none)) else (none))) else (none)) else (none))) else (none)) else (none))) else (none)) else (none))) else (none))) else (some ((⟨#[]⟩ : ByteArray), bt188.2.2.2))))) = some (r1, r2) := h
  clear h
  replace H := Option.bind_eq_some_iff.mp H
  obtain ⟨⟨t186, t187⟩, A20, H⟩ := H
  replace H : ((civil_Date.f k t186).bind fun bt188 => (if bt188.2.2.2 = 0 then ((strconv_Itoa.f bt188.1).bind fun t192 => (if t192.size + 1 ≤ 9223372036854775807 then ((clock_two.f bt188.2.1).bind fun t193 => (if (t192 ++ (⟨#[45]⟩ : ByteArray)).size + t193.size ≤ 9223372036854775807 then (if ((t192 ++ (⟨#[45]⟩ : ByteArray)) ++ t193).size + 1 ≤ 9223372036854775807 then ((clock_two.f bt188.2.2.1).bind fun t194 => (if (((t192 ++ (⟨#[45]⟩ : ByteArray)) ++ t193) ++ (⟨#[45]⟩ : ByteArray)).size + t194.size ≤ 9223372036854775807 then (if ((((t192 ++ (⟨#[45]⟩ : ByteArray)) ++ t193) ++ (⟨#[45]⟩ : ByteArray)) ++ t194).size + 1 ≤ 9223372036854775807 then ((clock_two.f (wrap64 (Int.tdiv t187 3600))).bind fun t195 => (if (((((t192 ++ (⟨#[45]⟩ : ByteArray)) ++ t193) ++ (⟨#[45]⟩ : ByteArray)) ++ t194) ++ (⟨#[84]⟩ : ByteArray)).size + t195.size ≤ 9223372036854775807 then (if ((((((t192 ++ (⟨#[45]⟩ : ByteArray)) ++ t193) ++ (⟨#[45]⟩ : ByteArray)) ++ t194) ++ (⟨#[84]⟩ : ByteArray)) ++ t195).size + 1 ≤ 9223372036854775807 then ((clock_two.f (Int.tmod (wrap64 (Int.tdiv t187 60)) 60)).bind fun t196 => (if (((((((t192 ++ (⟨#[45]⟩ : ByteArray)) ++ t193) ++ (⟨#[45]⟩ : ByteArray)) ++ t194) ++ (⟨#[84]⟩ : ByteArray)) ++ t195) ++ (⟨#[58]⟩ : ByteArray)).size + t196.size ≤ 9223372036854775807 then (if ((((((((t192 ++ (⟨#[45]⟩ : ByteArray)) ++ t193) ++ (⟨#[45]⟩ : ByteArray)) ++ t194) ++ (⟨#[84]⟩ : ByteArray)) ++ t195) ++ (⟨#[58]⟩ : ByteArray)) ++ t196).size + 1 ≤ 9223372036854775807 then ((clock_two.f (Int.tmod t187 60)).bind fun t197 => (if (((((((((t192 ++ (⟨#[45]⟩ : ByteArray)) ++ t193) ++ (⟨#[45]⟩ : ByteArray)) ++ t194) ++ (⟨#[84]⟩ : ByteArray)) ++ t195) ++ (⟨#[58]⟩ : ByteArray)) ++ t196) ++ (⟨#[58]⟩ : ByteArray)).size + t197.size ≤ 9223372036854775807 then (some ((((((((((t192 ++ (⟨#[45]⟩ : ByteArray)) ++ t193) ++ (⟨#[45]⟩ : ByteArray)) ++ t194) ++ (⟨#[84]⟩ : ByteArray)) ++ t195) ++ (⟨#[58]⟩ : ByteArray)) ++ t196) ++ (⟨#[58]⟩ : ByteArray)) ++ t197, 0)) else (none))) else (none)) else (none))) else (none)) else (none))) else (none)) else (none))) else (none)) else (none))) else (none))) else (some ((⟨#[]⟩ : ByteArray), bt188.2.2.2)))) = some (r1, r2) := H
  have A2 := Aside0.mk A20
  clear A20
  replace H := Option.bind_eq_some_iff.mp H
  obtain ⟨⟨t188, t189, t190, t191⟩, A30, H⟩ := H
  replace H : (if t191 = 0 then ((strconv_Itoa.f t188).bind fun t192 => (if t192.size + 1 ≤ 9223372036854775807 then ((clock_two.f t189).bind fun t193 => (if (t192 ++ (⟨#[45]⟩ : ByteArray)).size + t193.size ≤ 9223372036854775807 then (if ((t192 ++ (⟨#[45]⟩ : ByteArray)) ++ t193).size + 1 ≤ 9223372036854775807 then ((clock_two.f t190).bind fun t194 => (if (((t192 ++ (⟨#[45]⟩ : ByteArray)) ++ t193) ++ (⟨#[45]⟩ : ByteArray)).size + t194.size ≤ 9223372036854775807 then (if ((((t192 ++ (⟨#[45]⟩ : ByteArray)) ++ t193) ++ (⟨#[45]⟩ : ByteArray)) ++ t194).size + 1 ≤ 9223372036854775807 then ((clock_two.f (wrap64 (Int.tdiv t187 3600))).bind fun t195 => (if (((((t192 ++ (⟨#[45]⟩ : ByteArray)) ++ t193) ++ (⟨#[45]⟩ : ByteArray)) ++ t194) ++ (⟨#[84]⟩ : ByteArray)).size + t195.size ≤ 9223372036854775807 then (if ((((((t192 ++ (⟨#[45]⟩ : ByteArray)) ++ t193) ++ (⟨#[45]⟩ : ByteArray)) ++ t194) ++ (⟨#[84]⟩ : ByteArray)) ++ t195).size + 1 ≤ 9223372036854775807 then ((clock_two.f (Int.tmod (wrap64 (Int.tdiv t187 60)) 60)).bind fun t196 => (if (((((((t192 ++ (⟨#[45]⟩ : ByteArray)) ++ t193) ++ (⟨#[45]⟩ : ByteArray)) ++ t194) ++ (⟨#[84]⟩ : ByteArray)) ++ t195) ++ (⟨#[58]⟩ : ByteArray)).size + t196.size ≤ 9223372036854775807 then (if ((((((((t192 ++ (⟨#[45]⟩ : ByteArray)) ++ t193) ++ (⟨#[45]⟩ : ByteArray)) ++ t194) ++ (⟨#[84]⟩ : ByteArray)) ++ t195) ++ (⟨#[58]⟩ : ByteArray)) ++ t196).size + 1 ≤ 9223372036854775807 then ((clock_two.f (Int.tmod t187 60)).bind fun t197 => (if (((((((((t192 ++ (⟨#[45]⟩ : ByteArray)) ++ t193) ++ (⟨#[45]⟩ : ByteArray)) ++ t194) ++ (⟨#[84]⟩ : ByteArray)) ++ t195) ++ (⟨#[58]⟩ : ByteArray)) ++ t196) ++ (⟨#[58]⟩ : ByteArray)).size + t197.size ≤ 9223372036854775807 then (some ((((((((((t192 ++ (⟨#[45]⟩ : ByteArray)) ++ t193) ++ (⟨#[45]⟩ : ByteArray)) ++ t194) ++ (⟨#[84]⟩ : ByteArray)) ++ t195) ++ (⟨#[58]⟩ : ByteArray)) ++ t196) ++ (⟨#[58]⟩ : ByteArray)) ++ t197, 0)) else (none))) else (none)) else (none))) else (none)) else (none))) else (none)) else (none))) else (none)) else (none))) else (none))) else (some ((⟨#[]⟩ : ByteArray), t191))) = some (r1, r2) := H
  have A3 := Aside0.mk A30
  clear A30
  by_cases c4 : t191 = 0
  · rw [if_pos c4] at H
    have c4b0 : (t191 == 0) = true := beq_iff_eq.mpr c4
    have c4b1 : (t191 != 0) = false := bne_eq_false_iff_eq.mpr c4
    clear c4
    replace H := Option.bind_eq_some_iff.mp H
    obtain ⟨t192, A50, H⟩ := H
    replace H : (if t192.size + 1 ≤ 9223372036854775807 then ((clock_two.f t189).bind fun t193 => (if (t192 ++ (⟨#[45]⟩ : ByteArray)).size + t193.size ≤ 9223372036854775807 then (if ((t192 ++ (⟨#[45]⟩ : ByteArray)) ++ t193).size + 1 ≤ 9223372036854775807 then ((clock_two.f t190).bind fun t194 => (if (((t192 ++ (⟨#[45]⟩ : ByteArray)) ++ t193) ++ (⟨#[45]⟩ : ByteArray)).size + t194.size ≤ 9223372036854775807 then (if ((((t192 ++ (⟨#[45]⟩ : ByteArray)) ++ t193) ++ (⟨#[45]⟩ : ByteArray)) ++ t194).size + 1 ≤ 9223372036854775807 then ((clock_two.f (wrap64 (Int.tdiv t187 3600))).bind fun t195 => (if (((((t192 ++ (⟨#[45]⟩ : ByteArray)) ++ t193) ++ (⟨#[45]⟩ : ByteArray)) ++ t194) ++ (⟨#[84]⟩ : ByteArray)).size + t195.size ≤ 9223372036854775807 then (if ((((((t192 ++ (⟨#[45]⟩ : ByteArray)) ++ t193) ++ (⟨#[45]⟩ : ByteArray)) ++ t194) ++ (⟨#[84]⟩ : ByteArray)) ++ t195).size + 1 ≤ 9223372036854775807 then ((clock_two.f (Int.tmod (wrap64 (Int.tdiv t187 60)) 60)).bind fun t196 => (if (((((((t192 ++ (⟨#[45]⟩ : ByteArray)) ++ t193) ++ (⟨#[45]⟩ : ByteArray)) ++ t194) ++ (⟨#[84]⟩ : ByteArray)) ++ t195) ++ (⟨#[58]⟩ : ByteArray)).size + t196.size ≤ 9223372036854775807 then (if ((((((((t192 ++ (⟨#[45]⟩ : ByteArray)) ++ t193) ++ (⟨#[45]⟩ : ByteArray)) ++ t194) ++ (⟨#[84]⟩ : ByteArray)) ++ t195) ++ (⟨#[58]⟩ : ByteArray)) ++ t196).size + 1 ≤ 9223372036854775807 then ((clock_two.f (Int.tmod t187 60)).bind fun t197 => (if (((((((((t192 ++ (⟨#[45]⟩ : ByteArray)) ++ t193) ++ (⟨#[45]⟩ : ByteArray)) ++ t194) ++ (⟨#[84]⟩ : ByteArray)) ++ t195) ++ (⟨#[58]⟩ : ByteArray)) ++ t196) ++ (⟨#[58]⟩ : ByteArray)).size + t197.size ≤ 9223372036854775807 then (some ((((((((((t192 ++ (⟨#[45]⟩ : ByteArray)) ++ t193) ++ (⟨#[45]⟩ : ByteArray)) ++ t194) ++ (⟨#[84]⟩ : ByteArray)) ++ t195) ++ (⟨#[58]⟩ : ByteArray)) ++ t196) ++ (⟨#[58]⟩ : ByteArray)) ++ t197, 0)) else (none))) else (none)) else (none))) else (none)) else (none))) else (none)) else (none))) else (none)) else (none))) else (none)) = some (r1, r2) := H
    have A5 := Aside0.mk A50
    clear A50
    by_cases c6 : t192.size + 1 ≤ 9223372036854775807
    · rw [if_pos c6] at H
      have c6b0 := eq_true c6
      have c6b1 : decide (t192.size + 1 ≤ 9223372036854775807) = true := decide_eq_true c6
      try have c6b2 : (9223372036854775807 < t192.size + 1) = False := eq_false (Nat.not_lt.2 c6)
      replace H := Option.bind_eq_some_iff.mp H
      obtain ⟨t193, A70, H⟩ := H
      replace H : (if (t192 ++ (⟨#[45]⟩ : ByteArray)).size + t193.size ≤ 9223372036854775807 then (if ((t192 ++ (⟨#[45]⟩ : ByteArray)) ++ t193).size + 1 ≤ 9223372036854775807 then ((clock_two.f t190).bind fun t194 => (if (((t192 ++ (⟨#[45]⟩ : ByteArray)) ++ t193) ++ (⟨#[45]⟩ : ByteArray)).size + t194.size ≤ 9223372036854775807 then (if ((((t192 ++ (⟨#[45]⟩ : ByteArray)) ++ t193) ++ (⟨#[45]⟩ : ByteArray)) ++ t194).size + 1 ≤ 9223372036854775807 then ((clock_two.f (wrap64 (Int.tdiv t187 3600))).bind fun t195 => (if (((((t192 ++ (⟨#[45]⟩ : ByteArray)) ++ t193) ++ (⟨#[45]⟩ : ByteArray)) ++ t194) ++ (⟨#[84]⟩ : ByteArray)).size + t195.size ≤ 9223372036854775807 then (if ((((((t192 ++ (⟨#[45]⟩ : ByteArray)) ++ t193) ++ (⟨#[45]⟩ : ByteArray)) ++ t194) ++ (⟨#[84]⟩ : ByteArray)) ++ t195).size + 1 ≤ 9223372036854775807 then ((clock_two.f (Int.tmod (wrap64 (Int.tdiv t187 60)) 60)).bind fun t196 => (if (((((((t192 ++ (⟨#[45]⟩ : ByteArray)) ++ t193) ++ (⟨#[45]⟩ : ByteArray)) ++ t194) ++ (⟨#[84]⟩ : ByteArray)) ++ t195) ++ (⟨#[58]⟩ : ByteArray)).size + t196.size ≤ 9223372036854775807 then (if ((((((((t192 ++ (⟨#[45]⟩ : ByteArray)) ++ t193) ++ (⟨#[45]⟩ : ByteArray)) ++ t194) ++ (⟨#[84]⟩ : ByteArray)) ++ t195) ++ (⟨#[58]⟩ : ByteArray)) ++ t196).size + 1 ≤ 9223372036854775807 then ((clock_two.f (Int.tmod t187 60)).bind fun t197 => (if (((((((((t192 ++ (⟨#[45]⟩ : ByteArray)) ++ t193) ++ (⟨#[45]⟩ : ByteArray)) ++ t194) ++ (⟨#[84]⟩ : ByteArray)) ++ t195) ++ (⟨#[58]⟩ : ByteArray)) ++ t196) ++ (⟨#[58]⟩ : ByteArray)).size + t197.size ≤ 9223372036854775807 then (some ((((((((((t192 ++ (⟨#[45]⟩ : ByteArray)) ++ t193) ++ (⟨#[45]⟩ : ByteArray)) ++ t194) ++ (⟨#[84]⟩ : ByteArray)) ++ t195) ++ (⟨#[58]⟩ : ByteArray)) ++ t196) ++ (⟨#[58]⟩ : ByteArray)) ++ t197, 0)) else (none))) else (none)) else (none))) else (none)) else (none))) else (none)) else (none))) else (none)) else (none)) = some (r1, r2) := H
      have A7 := Aside0.mk A70
      clear A70
      by_cases c8 : (t192 ++ (⟨#[45]⟩ : ByteArray)).size + t193.size ≤ 9223372036854775807
      · rw [if_pos c8] at H
        have c8b0 := eq_true c8
        have c8b1 : decide ((t192 ++ (⟨#[45]⟩ : ByteArray)).size + t193.size ≤ 9223372036854775807) = true := decide_eq_true c8
        try have c8b2 : (9223372036854775807 < (t192 ++ (⟨#[45]⟩ : ByteArray)).size + t193.size) = False := eq_false (Nat.not_lt.2 c8)
        have c8E : (t192.size + 1) + t193.size ≤ 9223372036854775807 := by have h_ := c8; simp only [ByteArray.size_append, ba_size, List.size_toArray, List.length_cons, List.length_nil] at h_; omega
        have c8E0 := eq_true c8E
        have c8E1 : decide ((t192.size + 1) + t193.size ≤ 9223372036854775807) = true := decide_eq_true c8E
        try have c8E2 : (9223372036854775807 < (t192.size + 1) + t193.size) = False := eq_false (Nat.not_lt.2 c8E)
        by_cases c9 : ((t192 ++ (⟨#[45]⟩ : ByteArray)) ++ t193).size + 1 ≤ 9223372036854775807
        · rw [if_pos c9] at H
          have c9b0 := eq_true c9
          have c9b1 : decide (((t192 ++ (⟨#[45]⟩ : ByteArray)) ++ t193).size + 1 ≤ 9223372036854775807) = true := decide_eq_true c9
          try have c9b2 : (9223372036854775807 < ((t192 ++ (⟨#[45]⟩ : ByteArray)) ++ t193).size + 1) = False := eq_false (Nat.not_lt.2 c9)
          have c9E : (t192.size + 1 + t193.size) + 1 ≤ 9223372036854775807 := by have h_ := c9; simp only [ByteArray.size_append, ba_size, List.size_toArray, List.length_cons, List.length_nil] at h_; omega
          have c9E0 := eq_true c9E
          have c9E1 : decide ((t192.size + 1 + t193.size) + 1 ≤ 9223372036854775807) = true := decide_eq_true c9E
          try have c9E2 : (9223372036854775807 < (t192.size + 1 + t193.size) + 1) = False := eq_false (Nat.not_lt.2 c9E)
          replace H := Option.bind_eq_some_iff.mp H
          obtain ⟨t194, A100, H⟩ := H
          replace H : (if (((t192 ++ (⟨#[45]⟩ : ByteArray)) ++ t193) ++ (⟨#[45]⟩ : ByteArray)).size + t194.size ≤ 9223372036854775807 then (if ((((t192 ++ (⟨#[45]⟩ : ByteArray)) ++ t193) ++ (⟨#[45]⟩ : ByteArray)) ++ t194).size + 1 ≤ 9223372036854775807 then ((clock_two.f (wrap64 (Int.tdiv t187 3600))).bind fun t195 => (if (((((t192 ++ (⟨#[45]⟩ : ByteArray)) ++ t193) ++ (⟨#[45]⟩ : ByteArray)) ++ t194) ++ (⟨#[84]⟩ : ByteArray)).size + t195.size ≤ 9223372036854775807 then (if ((((((t192 ++ (⟨#[45]⟩ : ByteArray)) ++ t193) ++ (⟨#[45]⟩ : ByteArray)) ++ t194) ++ (⟨#[84]⟩ : ByteArray)) ++ t195).size + 1 ≤ 9223372036854775807 then ((clock_two.f (Int.tmod (wrap64 (Int.tdiv t187 60)) 60)).bind fun t196 => (if (((((((t192 ++ (⟨#[45]⟩ : ByteArray)) ++ t193) ++ (⟨#[45]⟩ : ByteArray)) ++ t194) ++ (⟨#[84]⟩ : ByteArray)) ++ t195) ++ (⟨#[58]⟩ : ByteArray)).size + t196.size ≤ 9223372036854775807 then (if ((((((((t192 ++ (⟨#[45]⟩ : ByteArray)) ++ t193) ++ (⟨#[45]⟩ : ByteArray)) ++ t194) ++ (⟨#[84]⟩ : ByteArray)) ++ t195) ++ (⟨#[58]⟩ : ByteArray)) ++ t196).size + 1 ≤ 9223372036854775807 then ((clock_two.f (Int.tmod t187 60)).bind fun t197 => (if (((((((((t192 ++ (⟨#[45]⟩ : ByteArray)) ++ t193) ++ (⟨#[45]⟩ : ByteArray)) ++ t194) ++ (⟨#[84]⟩ : ByteArray)) ++ t195) ++ (⟨#[58]⟩ : ByteArray)) ++ t196) ++ (⟨#[58]⟩ : ByteArray)).size + t197.size ≤ 9223372036854775807 then (some ((((((((((t192 ++ (⟨#[45]⟩ : ByteArray)) ++ t193) ++ (⟨#[45]⟩ : ByteArray)) ++ t194) ++ (⟨#[84]⟩ : ByteArray)) ++ t195) ++ (⟨#[58]⟩ : ByteArray)) ++ t196) ++ (⟨#[58]⟩ : ByteArray)) ++ t197, 0)) else (none))) else (none)) else (none))) else (none)) else (none))) else (none)) else (none)) = some (r1, r2) := H
          have A10 := Aside0.mk A100
          clear A100
          by_cases c11 : (((t192 ++ (⟨#[45]⟩ : ByteArray)) ++ t193) ++ (⟨#[45]⟩ : ByteArray)).size + t194.size ≤ 9223372036854775807
          · rw [if_pos c11] at H
            have c11b0 := eq_true c11
            have c11b1 : decide ((((t192 ++ (⟨#[45]⟩ : ByteArray)) ++ t193) ++ (⟨#[45]⟩ : ByteArray)).size + t194.size ≤ 9223372036854775807) = true := decide_eq_true c11
            try have c11b2 : (9223372036854775807 < (((t192 ++ (⟨#[45]⟩ : ByteArray)) ++ t193) ++ (⟨#[45]⟩ : ByteArray)).size + t194.size) = False := eq_false (Nat.not_lt.2 c11)
            have c11E : (t192.size + 1 + t193.size + 1) + t194.size ≤ 9223372036854775807 := by have h_ := c11; simp only [ByteArray.size_append, ba_size, List.size_toArray, List.length_cons, List.length_nil] at h_; omega
            have c11E0 := eq_true c11E
            have c11E1 : decide ((t192.size + 1 + t193.size + 1) + t194.size ≤ 9223372036854775807) = true := decide_eq_true c11E
            try have c11E2 : (9223372036854775807 < (t192.size + 1 + t193.size + 1) + t194.size) = False := eq_false (Nat.not_lt.2 c11E)
            by_cases c12 : ((((t192 ++ (⟨#[45]⟩ : ByteArray)) ++ t193) ++ (⟨#[45]⟩ : ByteArray)) ++ t194).size + 1 ≤ 9223372036854775807
            · rw [if_pos c12] at H
              have c12b0 := eq_true c12
              have c12b1 : decide (((((t192 ++ (⟨#[45]⟩ : ByteArray)) ++ t193) ++ (⟨#[45]⟩ : ByteArray)) ++ t194).size + 1 ≤ 9223372036854775807) = true := decide_eq_true c12
              try have c12b2 : (9223372036854775807 < ((((t192 ++ (⟨#[45]⟩ : ByteArray)) ++ t193) ++ (⟨#[45]⟩ : ByteArray)) ++ t194).size + 1) = False := eq_false (Nat.not_lt.2 c12)
              have c12E : (t192.size + 1 + t193.size + 1 + t194.size) + 1 ≤ 9223372036854775807 := by have h_ := c12; simp only [ByteArray.size_append, ba_size, List.size_toArray, List.length_cons, List.length_nil] at h_; omega
              have c12E0 := eq_true c12E
              have c12E1 : decide ((t192.size + 1 + t193.size + 1 + t194.size) + 1 ≤ 9223372036854775807) = true := decide_eq_true c12E
              try have c12E2 : (9223372036854775807 < (t192.size + 1 + t193.size + 1 + t194.size) + 1) = False := eq_false (Nat.not_lt.2 c12E)
              replace H := Option.bind_eq_some_iff.mp H
              obtain ⟨t195, A130, H⟩ := H
              replace H : (if (((((t192 ++ (⟨#[45]⟩ : ByteArray)) ++ t193) ++ (⟨#[45]⟩ : ByteArray)) ++ t194) ++ (⟨#[84]⟩ : ByteArray)).size + t195.size ≤ 9223372036854775807 then (if ((((((t192 ++ (⟨#[45]⟩ : ByteArray)) ++ t193) ++ (⟨#[45]⟩ : ByteArray)) ++ t194) ++ (⟨#[84]⟩ : ByteArray)) ++ t195).size + 1 ≤ 9223372036854775807 then ((clock_two.f (Int.tmod (wrap64 (Int.tdiv t187 60)) 60)).bind fun t196 => (if (((((((t192 ++ (⟨#[45]⟩ : ByteArray)) ++ t193) ++ (⟨#[45]⟩ : ByteArray)) ++ t194) ++ (⟨#[84]⟩ : ByteArray)) ++ t195) ++ (⟨#[58]⟩ : ByteArray)).size + t196.size ≤ 9223372036854775807 then (if ((((((((t192 ++ (⟨#[45]⟩ : ByteArray)) ++ t193) ++ (⟨#[45]⟩ : ByteArray)) ++ t194) ++ (⟨#[84]⟩ : ByteArray)) ++ t195) ++ (⟨#[58]⟩ : ByteArray)) ++ t196).size + 1 ≤ 9223372036854775807 then ((clock_two.f (Int.tmod t187 60)).bind fun t197 => (if (((((((((t192 ++ (⟨#[45]⟩ : ByteArray)) ++ t193) ++ (⟨#[45]⟩ : ByteArray)) ++ t194) ++ (⟨#[84]⟩ : ByteArray)) ++ t195) ++ (⟨#[58]⟩ : ByteArray)) ++ t196) ++ (⟨#[58]⟩ : ByteArray)).size + t197.size ≤ 9223372036854775807 then (some ((((((((((t192 ++ (⟨#[45]⟩ : ByteArray)) ++ t193) ++ (⟨#[45]⟩ : ByteArray)) ++ t194) ++ (⟨#[84]⟩ : ByteArray)) ++ t195) ++ (⟨#[58]⟩ : ByteArray)) ++ t196) ++ (⟨#[58]⟩ : ByteArray)) ++ t197, 0)) else (none))) else (none)) else (none))) else (none)) else (none)) = some (r1, r2) := H
              have A13 := Aside0.mk A130
              clear A130
              by_cases c14 : (((((t192 ++ (⟨#[45]⟩ : ByteArray)) ++ t193) ++ (⟨#[45]⟩ : ByteArray)) ++ t194) ++ (⟨#[84]⟩ : ByteArray)).size + t195.size ≤ 9223372036854775807
              · rw [if_pos c14] at H
                have c14b0 := eq_true c14
                have c14b1 : decide ((((((t192 ++ (⟨#[45]⟩ : ByteArray)) ++ t193) ++ (⟨#[45]⟩ : ByteArray)) ++ t194) ++ (⟨#[84]⟩ : ByteArray)).size + t195.size ≤ 9223372036854775807) = true := decide_eq_true c14
                try have c14b2 : (9223372036854775807 < (((((t192 ++ (⟨#[45]⟩ : ByteArray)) ++ t193) ++ (⟨#[45]⟩ : ByteArray)) ++ t194) ++ (⟨#[84]⟩ : ByteArray)).size + t195.size) = False := eq_false (Nat.not_lt.2 c14)
                have c14E : (t192.size + 1 + t193.size + 1 + t194.size + 1) + t195.size ≤ 9223372036854775807 := by have h_ := c14; simp only [ByteArray.size_append, ba_size, List.size_toArray, List.length_cons, List.length_nil] at h_; omega
                have c14E0 := eq_true c14E
                have c14E1 : decide ((t192.size + 1 + t193.size + 1 + t194.size + 1) + t195.size ≤ 9223372036854775807) = true := decide_eq_true c14E
                try have c14E2 : (9223372036854775807 < (t192.size + 1 + t193.size + 1 + t194.size + 1) + t195.size) = False := eq_false (Nat.not_lt.2 c14E)
                by_cases c15 : ((((((t192 ++ (⟨#[45]⟩ : ByteArray)) ++ t193) ++ (⟨#[45]⟩ : ByteArray)) ++ t194) ++ (⟨#[84]⟩ : ByteArray)) ++ t195).size + 1 ≤ 9223372036854775807
                · rw [if_pos c15] at H
                  have c15b0 := eq_true c15
                  have c15b1 : decide (((((((t192 ++ (⟨#[45]⟩ : ByteArray)) ++ t193) ++ (⟨#[45]⟩ : ByteArray)) ++ t194) ++ (⟨#[84]⟩ : ByteArray)) ++ t195).size + 1 ≤ 9223372036854775807) = true := decide_eq_true c15
                  try have c15b2 : (9223372036854775807 < ((((((t192 ++ (⟨#[45]⟩ : ByteArray)) ++ t193) ++ (⟨#[45]⟩ : ByteArray)) ++ t194) ++ (⟨#[84]⟩ : ByteArray)) ++ t195).size + 1) = False := eq_false (Nat.not_lt.2 c15)
                  have c15E : (t192.size + 1 + t193.size + 1 + t194.size + 1 + t195.size) + 1 ≤ 9223372036854775807 := by have h_ := c15; simp only [ByteArray.size_append, ba_size, List.size_toArray, List.length_cons, List.length_nil] at h_; omega
                  have c15E0 := eq_true c15E
                  have c15E1 : decide ((t192.size + 1 + t193.size + 1 + t194.size + 1 + t195.size) + 1 ≤ 9223372036854775807) = true := decide_eq_true c15E
                  try have c15E2 : (9223372036854775807 < (t192.size + 1 + t193.size + 1 + t194.size + 1 + t195.size) + 1) = False := eq_false (Nat.not_lt.2 c15E)
                  replace H := Option.bind_eq_some_iff.mp H
                  obtain ⟨t196, A160, H⟩ := H
                  replace H : (if (((((((t192 ++ (⟨#[45]⟩ : ByteArray)) ++ t193) ++ (⟨#[45]⟩ : ByteArray)) ++ t194) ++ (⟨#[84]⟩ : ByteArray)) ++ t195) ++ (⟨#[58]⟩ : ByteArray)).size + t196.size ≤ 9223372036854775807 then (if ((((((((t192 ++ (⟨#[45]⟩ : ByteArray)) ++ t193) ++ (⟨#[45]⟩ : ByteArray)) ++ t194) ++ (⟨#[84]⟩ : ByteArray)) ++ t195) ++ (⟨#[58]⟩ : ByteArray)) ++ t196).size + 1 ≤ 9223372036854775807 then ((clock_two.f (Int.tmod t187 60)).bind fun t197 => (if (((((((((t192 ++ (⟨#[45]⟩ : ByteArray)) ++ t193) ++ (⟨#[45]⟩ : ByteArray)) ++ t194) ++ (⟨#[84]⟩ : ByteArray)) ++ t195) ++ (⟨#[58]⟩ : ByteArray)) ++ t196) ++ (⟨#[58]⟩ : ByteArray)).size + t197.size ≤ 9223372036854775807 then (some ((((((((((t192 ++ (⟨#[45]⟩ : ByteArray)) ++ t193) ++ (⟨#[45]⟩ : ByteArray)) ++ t194) ++ (⟨#[84]⟩ : ByteArray)) ++ t195) ++ (⟨#[58]⟩ : ByteArray)) ++ t196) ++ (⟨#[58]⟩ : ByteArray)) ++ t197, 0)) else (none))) else (none)) else (none)) = some (r1, r2) := H
                  have A16 := Aside0.mk A160
                  clear A160
                  by_cases c17 : (((((((t192 ++ (⟨#[45]⟩ : ByteArray)) ++ t193) ++ (⟨#[45]⟩ : ByteArray)) ++ t194) ++ (⟨#[84]⟩ : ByteArray)) ++ t195) ++ (⟨#[58]⟩ : ByteArray)).size + t196.size ≤ 9223372036854775807
                  · rw [if_pos c17] at H
                    have c17b0 := eq_true c17
                    have c17b1 : decide ((((((((t192 ++ (⟨#[45]⟩ : ByteArray)) ++ t193) ++ (⟨#[45]⟩ : ByteArray)) ++ t194) ++ (⟨#[84]⟩ : ByteArray)) ++ t195) ++ (⟨#[58]⟩ : ByteArray)).size + t196.size ≤ 9223372036854775807) = true := decide_eq_true c17
                    try have c17b2 : (9223372036854775807 < (((((((t192 ++ (⟨#[45]⟩ : ByteArray)) ++ t193) ++ (⟨#[45]⟩ : ByteArray)) ++ t194) ++ (⟨#[84]⟩ : ByteArray)) ++ t195) ++ (⟨#[58]⟩ : ByteArray)).size + t196.size) = False := eq_false (Nat.not_lt.2 c17)
                    have c17E : (t192.size + 1 + t193.size + 1 + t194.size + 1 + t195.size + 1) + t196.size ≤ 9223372036854775807 := by have h_ := c17; simp only [ByteArray.size_append, ba_size, List.size_toArray, List.length_cons, List.length_nil] at h_; omega
                    have c17E0 := eq_true c17E
                    have c17E1 : decide ((t192.size + 1 + t193.size + 1 + t194.size + 1 + t195.size + 1) + t196.size ≤ 9223372036854775807) = true := decide_eq_true c17E
                    try have c17E2 : (9223372036854775807 < (t192.size + 1 + t193.size + 1 + t194.size + 1 + t195.size + 1) + t196.size) = False := eq_false (Nat.not_lt.2 c17E)
                    by_cases c18 : ((((((((t192 ++ (⟨#[45]⟩ : ByteArray)) ++ t193) ++ (⟨#[45]⟩ : ByteArray)) ++ t194) ++ (⟨#[84]⟩ : ByteArray)) ++ t195) ++ (⟨#[58]⟩ : ByteArray)) ++ t196).size + 1 ≤ 9223372036854775807
                    · rw [if_pos c18] at H
                      have c18b0 := eq_true c18
                      have c18b1 : decide (((((((((t192 ++ (⟨#[45]⟩ : ByteArray)) ++ t193) ++ (⟨#[45]⟩ : ByteArray)) ++ t194) ++ (⟨#[84]⟩ : ByteArray)) ++ t195) ++ (⟨#[58]⟩ : ByteArray)) ++ t196).size + 1 ≤ 9223372036854775807) = true := decide_eq_true c18
                      try have c18b2 : (9223372036854775807 < ((((((((t192 ++ (⟨#[45]⟩ : ByteArray)) ++ t193) ++ (⟨#[45]⟩ : ByteArray)) ++ t194) ++ (⟨#[84]⟩ : ByteArray)) ++ t195) ++ (⟨#[58]⟩ : ByteArray)) ++ t196).size + 1) = False := eq_false (Nat.not_lt.2 c18)
                      have c18E : (t192.size + 1 + t193.size + 1 + t194.size + 1 + t195.size + 1 + t196.size) + 1 ≤ 9223372036854775807 := by have h_ := c18; simp only [ByteArray.size_append, ba_size, List.size_toArray, List.length_cons, List.length_nil] at h_; omega
                      have c18E0 := eq_true c18E
                      have c18E1 : decide ((t192.size + 1 + t193.size + 1 + t194.size + 1 + t195.size + 1 + t196.size) + 1 ≤ 9223372036854775807) = true := decide_eq_true c18E
                      try have c18E2 : (9223372036854775807 < (t192.size + 1 + t193.size + 1 + t194.size + 1 + t195.size + 1 + t196.size) + 1) = False := eq_false (Nat.not_lt.2 c18E)
                      replace H := Option.bind_eq_some_iff.mp H
                      obtain ⟨t197, A190, H⟩ := H
                      replace H : (if (((((((((t192 ++ (⟨#[45]⟩ : ByteArray)) ++ t193) ++ (⟨#[45]⟩ : ByteArray)) ++ t194) ++ (⟨#[84]⟩ : ByteArray)) ++ t195) ++ (⟨#[58]⟩ : ByteArray)) ++ t196) ++ (⟨#[58]⟩ : ByteArray)).size + t197.size ≤ 9223372036854775807 then (some ((((((((((t192 ++ (⟨#[45]⟩ : ByteArray)) ++ t193) ++ (⟨#[45]⟩ : ByteArray)) ++ t194) ++ (⟨#[84]⟩ : ByteArray)) ++ t195) ++ (⟨#[58]⟩ : ByteArray)) ++ t196) ++ (⟨#[58]⟩ : ByteArray)) ++ t197, 0)) else (none)) = some (r1, r2) := H
                      have A19 := Aside0.mk A190
                      clear A190
                      by_cases c20 : (((((((((t192 ++ (⟨#[45]⟩ : ByteArray)) ++ t193) ++ (⟨#[45]⟩ : ByteArray)) ++ t194) ++ (⟨#[84]⟩ : ByteArray)) ++ t195) ++ (⟨#[58]⟩ : ByteArray)) ++ t196) ++ (⟨#[58]⟩ : ByteArray)).size + t197.size ≤ 9223372036854775807
                      · rw [if_pos c20] at H
                        have c20b0 := eq_true c20
                        have c20b1 : decide ((((((((((t192 ++ (⟨#[45]⟩ : ByteArray)) ++ t193) ++ (⟨#[45]⟩ : ByteArray)) ++ t194) ++ (⟨#[84]⟩ : ByteArray)) ++ t195) ++ (⟨#[58]⟩ : ByteArray)) ++ t196) ++ (⟨#[58]⟩ : ByteArray)).size + t197.size ≤ 9223372036854775807) = true := decide_eq_true c20
                        try have c20b2 : (9223372036854775807 < (((((((((t192 ++ (⟨#[45]⟩ : ByteArray)) ++ t193) ++ (⟨#[45]⟩ : ByteArray)) ++ t194) ++ (⟨#[84]⟩ : ByteArray)) ++ t195) ++ (⟨#[58]⟩ : ByteArray)) ++ t196) ++ (⟨#[58]⟩ : ByteArray)).size + t197.size) = False := eq_false (Nat.not_lt.2 c20)
                        have c20E : (t192.size + 1 + t193.size + 1 + t194.size + 1 + t195.size + 1 + t196.size + 1) + t197.size ≤ 9223372036854775807 := by have h_ := c20; simp only [ByteArray.size_append, ba_size, List.size_toArray, List.length_cons, List.length_nil] at h_; omega
                        have c20E0 := eq_true c20E
                        have c20E1 : decide ((t192.size + 1 + t193.size + 1 + t194.size + 1 + t195.size + 1 + t196.size + 1) + t197.size ≤ 9223372036854775807) = true := decide_eq_true c20E
                        try have c20E2 : (9223372036854775807 < (t192.size + 1 + t193.size + 1 + t194.size + 1 + t195.size + 1 + t196.size + 1) + t197.size) = False := eq_false (Nat.not_lt.2 c20E)
                        simp only [Option.some.injEq, Prod.mk.injEq] at H
                        obtain ⟨rfl, rfl⟩ := H
                        go_enter Tryz.func59, Tryz.ntmps59
                        go_wp2_with (first | ((with_reducible refine gate_callee (f := 89) rfl ?_); refine goesL_ (some 12) rfl rfl Tryz.func89 (by kernel_rfl) rfl #[.int .i64 a0, .int .i64 86400] rfl (by (try simp only [List.map_toArray, List.map_cons, List.map_nil]); first | done | rfl | (simp only [List.length_drop, List.length_take]; rfl)) ?_; (with_reducible refine (clock_Floor.calls a0 86400 t186 t187 _ A2.out).mono ?_); rintro e w' ⟨rfl, ⟨nd, rfl⟩⟩; refine ⟨_, rfl, ?_⟩) | ((with_reducible refine gate_callee (f := 90) rfl ?_); refine goesL_ (some 17) rfl rfl Tryz.func90 (by kernel_rfl) rfl #[.int .i64 t186] rfl (by (try simp only [List.map_toArray, List.map_cons, List.map_nil]); first | done | rfl | (simp only [List.length_drop, List.length_take]; rfl)) ?_; (with_reducible refine (civil_Date.calls k t186 t188 t189 t190 t191 _ A3.out).mono ?_); rintro e w21 ⟨rfl, hb⟩; refine ⟨_, rfl, ?_⟩; have n0_ := Aside0.mk (below_step (by repeat (first | (with_reducible first | exact HB.out | apply below_alloc | apply pw_below_drewN | apply below_drew1) | exact HB.out)) hb); clear HB; have HB := n0_; clear n0_; (try clear hb); (try clear hb2); (try clear hk); (try clear hi)) | ((with_reducible refine gate_callee (f := 57) rfl ?_); refine goesL_ (some 26) rfl rfl Tryz.func57 (by kernel_rfl) rfl #[.int .i64 t188] rfl (by (try simp only [List.map_toArray, List.map_cons, List.map_nil]); first | done | rfl | (simp only [List.length_drop, List.length_take]; rfl)) ?_; (with_reducible refine (strconv_Itoa.calls t188 t192 _ ?side1 A5.out).mono ?_); (case side1 => exact LaidT.sub HLA.out (by repeat (first | (with_reducible first | exact HB.out | apply below_alloc | apply pw_below_drewN | apply below_drew1) | exact HB.out))); rintro e w22 ⟨rfl, hb⟩; refine ⟨_, rfl, ?_⟩; have n0_ := Aside0.mk (below_step (by repeat (first | (with_reducible first | exact HB.out | apply below_alloc | apply pw_below_drewN | apply below_drew1) | exact HB.out)) hb); clear HB; have HB := n0_; clear n0_; (try clear hb); (try clear hb2); (try clear hk); (try clear hi)) | ((with_reducible refine gate_callee (f := 84) rfl ?_); refine goesL_ (some 29) rfl rfl Tryz.func84 (by kernel_rfl) rfl #[.int .i64 t189] rfl (by (try simp only [List.map_toArray, List.map_cons, List.map_nil]); first | done | rfl | (simp only [List.length_drop, List.length_take]; rfl)) ?_; (with_reducible refine (clock_two.calls t189 t193 _ A7.out).mono ?_); rintro e w23 ⟨rfl, hb⟩; refine ⟨_, rfl, ?_⟩; have n0_ := Aside0.mk (below_step (by repeat (first | (with_reducible first | exact HB.out | apply below_alloc | apply pw_below_drewN | apply below_drew1) | exact HB.out)) hb); clear HB; have HB := n0_; clear n0_; (try clear hb); (try clear hb2); (try clear hk); (try clear hi)) | ((with_reducible refine gate_callee (f := 84) rfl ?_); refine goesL_ (some 33) rfl rfl Tryz.func84 (by kernel_rfl) rfl #[.int .i64 t190] rfl (by (try simp only [List.map_toArray, List.map_cons, List.map_nil]); first | done | rfl | (simp only [List.length_drop, List.length_take]; rfl)) ?_; (with_reducible refine (clock_two.calls t190 t194 _ A10.out).mono ?_); rintro e w24 ⟨rfl, hb⟩; refine ⟨_, rfl, ?_⟩; have n0_ := Aside0.mk (below_step (by repeat (first | (with_reducible first | exact HB.out | apply below_alloc | apply pw_below_drewN | apply below_drew1) | exact HB.out)) hb); clear HB; have HB := n0_; clear n0_; (try clear hb); (try clear hb2); (try clear hk); (try clear hi)) | ((with_reducible refine gate_callee (f := 84) rfl ?_); refine goesL_ (some 38) rfl rfl Tryz.func84 (by kernel_rfl) rfl #[.int .i64 (wrap64 (Int.tdiv t187 3600))] rfl (by (try simp only [List.map_toArray, List.map_cons, List.map_nil]); first | done | rfl | (simp only [List.length_drop, List.length_take]; rfl)) ?_; (with_reducible refine (clock_two.calls (wrap64 (Int.tdiv t187 3600)) t195 _ A13.out).mono ?_); rintro e w25 ⟨rfl, hb⟩; refine ⟨_, rfl, ?_⟩; have n0_ := Aside0.mk (below_step (by repeat (first | (with_reducible first | exact HB.out | apply below_alloc | apply pw_below_drewN | apply below_drew1) | exact HB.out)) hb); clear HB; have HB := n0_; clear n0_; (try clear hb); (try clear hb2); (try clear hk); (try clear hi)) | ((with_reducible refine gate_callee (f := 84) rfl ?_); refine goesL_ (some 44) rfl rfl Tryz.func84 (by kernel_rfl) rfl #[.int .i64 (Int.tmod (wrap64 (Int.tdiv t187 60)) 60)] rfl (by (try simp only [List.map_toArray, List.map_cons, List.map_nil]); first | done | rfl | (simp only [List.length_drop, List.length_take]; rfl)) ?_; (with_reducible refine (clock_two.calls (Int.tmod (wrap64 (Int.tdiv t187 60)) 60) t196 _ A16.out).mono ?_); rintro e w26 ⟨rfl, hb⟩; refine ⟨_, rfl, ?_⟩; have n0_ := Aside0.mk (below_step (by repeat (first | (with_reducible first | exact HB.out | apply below_alloc | apply pw_below_drewN | apply below_drew1) | exact HB.out)) hb); clear HB; have HB := n0_; clear n0_; (try clear hb); (try clear hb2); (try clear hk); (try clear hi)) | ((with_reducible refine gate_callee (f := 84) rfl ?_); refine goesL_ (some 49) rfl rfl Tryz.func84 (by kernel_rfl) rfl #[.int .i64 (Int.tmod t187 60)] rfl (by (try simp only [List.map_toArray, List.map_cons, List.map_nil]); first | done | rfl | (simp only [List.length_drop, List.length_take]; rfl)) ?_; (with_reducible refine (clock_two.calls (Int.tmod t187 60) t197 _ A19.out).mono ?_); rintro e w27 ⟨rfl, hb⟩; refine ⟨_, rfl, ?_⟩; have n0_ := Aside0.mk (below_step (by repeat (first | (with_reducible first | exact HB.out | apply below_alloc | apply pw_below_drewN | apply below_drew1) | exact HB.out)) hb); clear HB; have HB := n0_; clear n0_; (try clear hb); (try clear hb2); (try clear hk); (try clear hi)))
                        go_ret2
                        exact ⟨by first | rfl | (simp [errW_none, errW_some] <;> rfl) | (simp [*, errW_none, errW_some] <;> rfl), by repeat (first | (with_reducible first | exact HB.out | apply below_alloc | apply pw_below_drewN | apply below_drew1) | exact HB.out)⟩
                      · rw [if_neg c20] at H
                        exact absurd H (by simp)
                    · rw [if_neg c18] at H
                      exact absurd H (by simp)
                  · rw [if_neg c17] at H
                    exact absurd H (by simp)
                · rw [if_neg c15] at H
                  exact absurd H (by simp)
              · rw [if_neg c14] at H
                exact absurd H (by simp)
            · rw [if_neg c12] at H
              exact absurd H (by simp)
          · rw [if_neg c11] at H
            exact absurd H (by simp)
        · rw [if_neg c9] at H
          exact absurd H (by simp)
      · rw [if_neg c8] at H
        exact absurd H (by simp)
    · rw [if_neg c6] at H
      exact absurd H (by simp)
  · rw [if_neg c4] at H
    have c4b0 : (t191 == 0) = false := beq_eq_false_iff_ne.mpr c4
    have c4b1 : (t191 != 0) = true := bne_iff_ne.mpr c4
    simp only [Option.some.injEq, Prod.mk.injEq] at H
    obtain ⟨rfl, rfl⟩ := H
    go_enter Tryz.func59, Tryz.ntmps59
    go_wp2_with (first | ((with_reducible refine gate_callee (f := 89) rfl ?_); refine goesL_ (some 12) rfl rfl Tryz.func89 (by kernel_rfl) rfl #[.int .i64 a0, .int .i64 86400] rfl (by (try simp only [List.map_toArray, List.map_cons, List.map_nil]); first | done | rfl | (simp only [List.length_drop, List.length_take]; rfl)) ?_; (with_reducible refine (clock_Floor.calls a0 86400 t186 t187 _ A2.out).mono ?_); rintro e w' ⟨rfl, ⟨nd, rfl⟩⟩; refine ⟨_, rfl, ?_⟩) | ((with_reducible refine gate_callee (f := 90) rfl ?_); refine goesL_ (some 17) rfl rfl Tryz.func90 (by kernel_rfl) rfl #[.int .i64 t186] rfl (by (try simp only [List.map_toArray, List.map_cons, List.map_nil]); first | done | rfl | (simp only [List.length_drop, List.length_take]; rfl)) ?_; (with_reducible refine (civil_Date.calls k t186 t188 t189 t190 t191 _ A3.out).mono ?_); rintro e w28 ⟨rfl, hb⟩; refine ⟨_, rfl, ?_⟩; have n0_ := Aside0.mk (below_step (by repeat (first | (with_reducible first | exact HB.out | apply below_alloc | apply pw_below_drewN | apply below_drew1) | exact HB.out)) hb); clear HB; have HB := n0_; clear n0_; (try clear hb); (try clear hb2); (try clear hk); (try clear hi)))
    go_ret2
    exact ⟨by first | rfl | (simp [errW_none, errW_some] <;> rfl) | (simp [*, errW_none, errW_some] <;> rfl), by repeat (first | (with_reducible first | exact HB.out | apply below_alloc | apply pw_below_drewN | apply below_drew1) | exact HB.out)⟩
end Go.Proofs.YtmgnnplcnmhbaaaGreatDoor.PT
end
section
namespace Go.Proofs.YtmgnnplcnmhbaaaGreatDoor.PT
open Go.RowKit Go.Proofs.YtmgnnplcnmhbaaaGreatDoorW.PrintWords Go.Proofs.YtmgnnplcnmhbaaaGreatDoorW.PrintLast Go.Proofs.YtmgnnplcnmhbaaaGreatDoorW.PrintMore
set_option linter.unusedVariables false
set_option linter.unusedSimpArgs false
def same (a b : ByteArray) : Bool := a.toList == b.toList
def errFrom (f : Nat → Option Int) : Nat → Nat → Option Int
  | _, 0 => some 0
  | i, m + 1 => (f i).bind fun e => if e = 0 then errFrom f (i + 1) m else some e
theorem errFrom_mono {f g : Nat → Option Int} (h : ∀ i, LeO (f i) (g i)) : ∀ m i, LeO (errFrom f i m) (errFrom g i m)
  | 0, _ => LeO.refl _
  | m + 1, i => LeO.bind (h i) fun e => LeO.ite (errFrom_mono h m (i + 1)) (LeO.refl _)
theorem errFrom_step {f : Nat → Option Int} {i m : Nat} {r : Int} (h : errFrom f i (m + 1) = some r) : ∃ e, f i = some e ∧ ((e = 0 ∧ errFrom f (i + 1) m = some r) ∨ (e ≠ 0 ∧ r = e)) := by
  unfold errFrom at h
  obtain ⟨e, he, h⟩ := Option.bind_eq_some_iff.mp h
  refine ⟨e, he, ?_⟩
  by_cases h0 : e = 0
  · rw [if_pos h0] at h
    exact .inl ⟨h0, h⟩
  · rw [if_neg h0] at h
    exact .inr ⟨h0, (Option.some.inj h).symm⟩
theorem errFrom_end {f : Nat → Option Int} {i : Nat} {r : Int} (h : errFrom f i 0 = some r) : r = 0 := (Option.some.inj h).symm
def bk_abbr1 (k : Nat) (l0 : List S65) (x : S39) (i : Nat) : Option Int :=
  if same (rd_T65 l0 (i : Int)).f0 x.f1 = true then (book_Abbr.f k x.f3 (rd_T65 l0 (i : Int)).f7 (rd_T65 l0 (i : Int)).f8).map (·.2) else some 0
def bk_abbrs.f (k : Nat) (l0 : List S65) (x : S39) : Option Int :=
  if x.f1.toList = ([] : List UInt8) then (book_Abbr.f k x.f3 x.f2 ⟨#[45]⟩).map (·.2)
  else (errFrom (bk_abbr1 k l0 x) 0 l0.length).bind fun e => if e = 0 then (book_Abbr.f k x.f3 0 ⟨#[45]⟩).map (·.2) else some e
set_option maxHeartbeats 1000000 in
set_option maxRecDepth 100000 in
theorem clo_era.calls (gb : Nat) (x : S39) (W : World) (hb : W.heap[gb]? = some (.cells #[.int .i64 x.f0, .string x.f1, .int .i64 x.f2, .string x.f3, .int .i64 x.f4] 39 (0, 0))) (nm : ByteArray) (v1 v2 v3 v4 v5 v6 v7 v8 v9 v10 : Value) :
    Calls Tryz.prog 81 (#[.agg #[.string nm, v1, v2, v3, v4, v5, v6, v7, v8, v9, v10]] ++ #[.pointer (some ⟨gb, 0, none⟩)]) W fun e w' => e = .returned (.bool (same nm x.f1)) ∧ Below W.heap.size W w' := by
  have hu := Tryz.underlying65
  have hu2 := Tryz.underlying39
  have z1 : W.cell? ⟨gb, 1, none⟩ = some (.string x.f1) := (blk_cell hb 1).trans rfl
  have hgl := blk_lt hb
  clear hb
  go_enter Tryz.func81, Tryz.ntmps81
  go_wp2_with fail
  go_ret
  exact ⟨by rfl, below_alloc (Below.refl _ _) _⟩
set_option maxHeartbeats 1000000 in
set_option maxRecDepth 100000 in
theorem clo_zone.calls (gb : Nat) (s : ByteArray) (u : Value) (W : World) (hb : W.heap[gb]? = some (.cells #[.string s, u] 43 (0, 0))) (nm : ByteArray) (v : Value) :
    Calls Tryz.prog 48 (#[.agg #[.string nm, v]] ++ #[.pointer (some ⟨gb, 0, none⟩)]) W fun e w' => e = .returned (.bool (same nm s)) ∧ Below W.heap.size W w' := by
  have hu := Tryz.underlying43
  have z1 : W.cell? ⟨gb, 0, none⟩ = some (.string s) := (blk_cell hb 0).trans rfl
  have hgl := blk_lt hb
  clear hb
  go_enter Tryz.func48, Tryz.ntmps48
  go_wp2_with fail
  go_ret
  exact ⟨by rfl, below_alloc (Below.refl _ _) _⟩
set_option maxHeartbeats 1000000 in
set_option maxRecDepth 100000 in
theorem clo_isZone.calls (gb : Nat) (s : ByteArray) (W : World) (hb : W.heap[gb]? = some (.cells #[.string s] 9 (0, 0))) (nm : ByteArray) (v : Value) :
    Calls Tryz.prog 51 (#[.agg #[.string nm, v]] ++ #[.pointer (some ⟨gb, 0, none⟩)]) W fun e w' => e = .returned (.bool (same nm s)) ∧ Below W.heap.size W w' := by
  have hu := Tryz.underlying43
  have z1 : W.cell? ⟨gb, 0, none⟩ = some (.string s) := (blk_cell hb 0).trans rfl
  have hgl := blk_lt hb
  clear hb
  go_enter Tryz.func51, Tryz.ntmps51
  go_wp2_with fail
  go_ret
  exact ⟨by rfl, below_alloc (Below.refl _ _) _⟩
set_option maxHeartbeats 1000000 in
set_option maxRecDepth 100000 in
theorem clo_isLink.calls (gb : Nat) (s : ByteArray) (W : World) (hb : W.heap[gb]? = some (.cells #[.string s] 9 (0, 0))) (nm : ByteArray) (v : Value) :
    Calls Tryz.prog 54 (#[.agg #[.string nm, v]] ++ #[.pointer (some ⟨gb, 0, none⟩)]) W fun e w' => e = .returned (.bool (same nm s)) ∧ Below W.heap.size W w' := by
  have hu := Tryz.underlying45
  have z1 : W.cell? ⟨gb, 0, none⟩ = some (.string s) := (blk_cell hb 0).trans rfl
  have hgl := blk_lt hb
  clear hb
  go_enter Tryz.func54, Tryz.ntmps54
  go_wp2_with fail
  go_ret
  exact ⟨by rfl, below_alloc (Below.refl _ _) _⟩
set_option maxHeartbeats 1000000 in
set_option maxRecDepth 100000 in
theorem is_zone.calls (gp gc : Nat) (A1 : Option Addr) (c1 : Nat) (l1 : List S43) (v0 v2 : Value) (nm : ByteArray) (w : World) (hp : w.heap[gp]? = some (.cells #[.pointer (some ⟨gc, 0, none⟩)] 67 (0, 0))) (hb : w.heap[gc]? = some (.cells #[v0, .slice A1 l1.length c1, v2] 69 (0, 0))) (hr : Kd.C k43 w A1 l1.length l1) (hn : l1.length ≤ 4611686018427387904) :
    Calls Tryz.prog 50 (#[.string nm] ++ #[.pointer (some ⟨gp, 0, none⟩)]) w fun e w' => e = .returned (.bool (l1.any (fun x => same x.f0 nm))) ∧ Below w.heap.size w w' := by
  have hu := Tryz.underlying69
  have hu2 := Tryz.underlying27
  have z0 : w.cell? ⟨gp, 0, none⟩ = some (.pointer (some ⟨gc, 0, none⟩)) := (blk_cell hp 0).trans rfl
  have z1 : w.cell? ⟨gc, 1, none⟩ = some (.slice A1 l1.length c1) := (blk_cell hb 1).trans rfl
  have hgp := blk_lt hp
  have hgc := blk_lt hb
  have HR := Aside0.mk hr
  clear hp hb hr
  go_enter Tryz.func50, Tryz.ntmps50
  go_wp2_with (go_at_call 47; refine (has_zone.calls 51 _ (fun x => same x nm) (enters_ Tryz.func51 rfl rfl) A1 c1 l1 hn _ (Kd.C_below HR.out (below_alloc (Below.refl _ _) _)) (fun W n v hW => clo_isZone.calls w.heap.size nm W ((hW.block _ (by simp)).trans (heap_alloc_new w _)) n v)).mono ?_; rintro e w' ⟨rfl, hb'⟩)
  go_ret
  exact ⟨rfl, below_then (below_alloc (Below.refl _ _) _) (by simp) hb'⟩
set_option maxHeartbeats 1000000 in
set_option maxRecDepth 100000 in
theorem is_link.calls (A2 : Option Addr) (c2 : Nat) (l2 : List S45) (nm : ByteArray) (w : World) (hr : Kd.C k45 w A2 l2.length l2) (hn : l2.length ≤ 4611686018427387904) :
    Calls Tryz.prog 52 #[.slice A2 l2.length c2, .string nm] w fun e w' => e = .returned (.bool (l2.any (fun x => same x.f0 nm))) ∧ Below w.heap.size w w' := by
  have HR := Aside0.mk hr
  clear hr
  go_enter Tryz.func52, Tryz.ntmps52
  go_wp2_with (go_at_call 53; refine (has_link.calls 54 _ (fun x => same x nm) (enters_ Tryz.func54 rfl rfl) A2 c2 l2 hn _ (Kd.C_below HR.out (below_alloc (Below.refl _ _) _)) (fun W n v hW => clo_isLink.calls w.heap.size nm W ((hW.block _ (by simp)).trans (heap_alloc_new w _)) n v)).mono ?_; rintro e w' ⟨rfl, hb'⟩)
  go_ret
  exact ⟨rfl, below_then (below_alloc (Below.refl _ _) _) (by simp) hb'⟩
set_option maxHeartbeats 1000000 in
set_option maxRecDepth 100000 in
theorem bk_abbrs.calls (k : Nat) (gc : Nat) (A0 : Option Addr) (c0 : Nat) (l0 : List S65) (v1 v2 : Value) (x : S39) (r : Int) (w : World) (hL : LaidT w) (hb : w.heap[gc]? = some (.cells #[.slice A0 l0.length c0, v1, v2] 69 (0, 0))) (hr0 : Kd.C k65 w A0 l0.length l0) (hn : l0.length ≤ 4611686018427387904) (h : bk_abbrs.f k l0 x = some r) :
    Calls Tryz.prog 82 #[.pointer (some ⟨gc, 0, none⟩), .agg #[.int .i64 x.f0, .string x.f1, .int .i64 x.f2, .string x.f3, .int .i64 x.f4]] w fun e w' => e = .returned (.int .i64 r) ∧ Below w.heap.size w w' := by
  have hu := Tryz.underlying69
  have hu2 := Tryz.underlying27
  have hu3 := Tryz.underlying39
  have hu4 := Tryz.underlying65
  have HC := Aside0.mk hb
  have HR := Aside0.mk hr0
  have HL := Aside0.mk hL
  clear hb hr0 hL
  unfold bk_abbrs.f at h
  by_cases hz : x.f1.toList = ([] : List UInt8)
  · rw [if_pos hz] at h
    obtain ⟨⟨s, e⟩, he, rfl⟩ := Option.map_eq_some_iff.mp h
    clear h
    have hzb : (x.f1.toList == ([] : List UInt8)) = true := by rw [hz]; rfl
    have HE := Aside0.mk he
    clear he hz
    go_enter Tryz.func82, Tryz.ntmps82
    go_wp2_with (go_at_call 12; refine (book_Abbr.calls k _ _ _ s e _ (HL.out.sub (below_alloc (Below.refl _ _) _)) HE.out).mono ?_; rintro e' w' ⟨rfl, hb'⟩; have HB' := Aside0.mk hb'; clear hb')
    go_ret
    exact ⟨rfl, below_then (below_alloc (Below.refl _ _) _) (by simp) HB'.out⟩
  · rw [if_neg hz] at h
    obtain ⟨E, hE, h⟩ := Option.bind_eq_some_iff.mp h
    have hzb : (x.f1.toList == ([] : List UInt8)) = false := by
      rw [beq_eq_false_iff_ne]
      exact hz
    have z0 : w.cell? ⟨gc, 0, none⟩ = some (.slice A0 l0.length c0) := (blk_cell HC.out 0).trans rfl
    have hgc := blk_lt HC.out
    have HE := Aside0.mk hE
    have HH := Aside0.mk h
    clear hE hz h
    go_enter Tryz.func82, Tryz.ntmps82
    go_wp2_with fail
    have HX := Aside0.mk (heap_alloc_new w (Obj.cells #[.int .i64 x.f0, .string x.f1, .int .i64 x.f2, .string x.f3, .int .i64 x.f4] 39))
    have HB := Aside0.mk (below_alloc (Below.refl w.heap.size w) (Obj.cells #[.int .i64 x.f0, .string x.f1, .int .i64 x.f2, .string x.f3, .int .i64 x.f4] 39))
    generalize w.alloc (Obj.cells #[.int .i64 x.f0, .string x.f1, .int .i64 x.f2, .string x.f3, .int .i64 x.f4] 39) = w2 at HX HB ⊢
    obtain ⟨b, hb⟩ : ∃ b, b = w.heap.size := ⟨_, rfl⟩
    rw [← hb] at HX ⊢
    have HBE := Aside0.mk hb
    clear hb z0 hgc
    go_loopw [31] (fun i wr => ∃ j : Nat, i = .int .i64 j ∧ j ≤ l0.length ∧ Aside0 (errFrom (bk_abbr1 k l0 x) j (l0.length - j) = some E) ∧ Aside0 (wr.heap[b]? = some (.cells #[.int .i64 x.f0, .string x.f1, .int .i64 x.f2, .string x.f3, .int .i64 x.f4] 39 (0, 0))) ∧ Aside0 (Below w.heap.size w wr)) (fun i _ => l0.length - (intOf i).toNat)
    case atStart => exact ⟨0, rfl, Nat.zero_le _, HE, HX, HB⟩
    case round =>
      obtain ⟨j, rfl, hj, HE1, HX1, HB1⟩ := hrel
      clear HX HB HE
      have y1 : wr.cell? ⟨b, 1, none⟩ = some (.string x.f1) := (blk_cell HX1.out 1).trans rfl
      have y3 : wr.cell? ⟨b, 3, none⟩ = some (.string x.f3) := (blk_cell HX1.out 3).trans rfl
      have hbl := blk_lt HX1.out
      by_cases hlt : j < l0.length
      · have hk0 : (0 : Int) ≤ (j : Int) := Int.natCast_nonneg _
        have hk1 : (j : Int) < (l0.length : Int) := by omega
        obtain ⟨ac, e, p0, p1, p2, p3, p4, p5, p6, p7, p8, p9, p10⟩ := at_T65 (Kd.C_below HR.out HB1.out) (j : Int) hk0 hk1
        cases e
        rw [Int.toNat_natCast] at p0 p1 p2 p3 p4 p5 p6 p7 p8 p9 p10
        have hcl := World.block_lt_of_cell? _ _ p0
        have hd := HE1.out
        rw [show l0.length - j = (l0.length - (j + 1)) + 1 by omega] at hd
        obtain ⟨e1, he1, hd⟩ := errFrom_step hd
        unfold bk_abbr1 at he1
        obtain ⟨q, hq⟩ : ∃ q, q = rd_T65 l0 (j : Int) := ⟨_, rfl⟩
        simp only [← hq] at p0 p1 p2 p3 p4 p5 p6 p7 p8 p9 p10 he1
        clear HE1
        by_cases hs : same q.f0 x.f1 = true
        · rw [if_pos hs] at he1
          obtain ⟨⟨s, e2⟩, he2, rfl⟩ := Option.map_eq_some_iff.mp he1
          have hsb : (q.f0.toList == x.f1.toList) = true := hs
          have HE2 := Aside0.mk he2
          have HD := Aside0.mk hd
          have HQ := Aside0.mk hq
          clear he1 he2 hd hq hs
          by_cases h0 : e2 = 0
          · subst h0
            go_wp2_with (go_at_call 12; refine (book_Abbr.calls k _ _ _ s 0 _ (HL.out.sub (below_then HB1.out HB1.out.size (below_alloc (Below.refl _ _) _))) HE2.out).mono ?_; rintro e' w' ⟨rfl, hb'⟩; have HX2 := Aside0.mk ((hb'.block b (by first | exact hbl | exact Nat.lt_of_lt_of_le hbl (by simp))).trans (((below_alloc (Below.refl _ _) _).block b hbl).trans HX1.out)); have HB2 := Aside0.mk (below_then (below_then HB1.out HB1.out.size (below_alloc (Below.refl _ _) _)) (Nat.le_trans HB1.out.size (by simp)) hb'); clear HX1 HB1 hb' hbl y1 y3 p0 p1 p2 p3 p4 p5 p6 p7 p8 p9 p10 hcl)
            go_roundw
            case rel => exact ⟨j + 1, rfl, by omega, ⟨by rcases HD.out with ⟨_, h⟩ | ⟨h, _⟩; exact h; exact absurd rfl h⟩, HX2, HB2⟩
            case measure =>
              simp [intOf]
              try omega
          · have HN := Aside0.mk h0
            have hnb : (e2 != 0) = true := bne_iff_ne.mpr h0
            have hnb2 : (e2 == 0) = false := beq_eq_false_iff_ne.mpr h0
            clear h0
            go_wp2_with (go_at_call 12; refine (book_Abbr.calls k _ _ _ s e2 _ (HL.out.sub (below_then HB1.out HB1.out.size (below_alloc (Below.refl _ _) _))) HE2.out).mono ?_; rintro e' w' ⟨rfl, hb'⟩; have HB2 := Aside0.mk (below_then (below_then HB1.out HB1.out.size (below_alloc (Below.refl _ _) _)) (Nat.le_trans HB1.out.size (by simp)) hb'); clear HX1 HB1 hb' hbl y1 y3 p0 p1 p2 p3 p4 p5 p6 p7 p8 p9 p10 hcl)
            go_ret
            refine ⟨?_, HB2.out⟩
            rcases HD.out with ⟨h, _⟩ | ⟨_, h⟩
            · exact absurd h HN.out
            · have hh := HH.out
              rw [h, if_neg HN.out] at hh
              rw [← Option.some.inj hh]
              rfl
        · rw [if_neg hs] at he1
          obtain rfl := Option.some.inj he1
          have hsb : (q.f0.toList == x.f1.toList) = false := Bool.eq_false_iff.mpr hs
          have hsb2 : (q.f0.toList != x.f1.toList) = true := by
            rw [bne, hsb]
            rfl
          have HD := Aside0.mk hd
          have HQ := Aside0.mk hq
          clear he1 hd hq hs
          go_wp2_with fail
          have HX2 := Aside0.mk (((below_alloc (Below.refl _ _) (Obj.cells #[.string q.f0, .int .i64 q.f1, .int .i64 q.f2, .int .i64 q.f3, .int .i64 q.f4.f0, .int .i64 q.f4.f1, .int .i64 q.f4.f2, .int .i64 q.f5, .int .i64 q.f6, .int .i64 q.f7, .string q.f8] 65)).block b hbl).trans HX1.out)
          go_roundw
          case rel => exact ⟨j + 1, rfl, by omega, ⟨by rcases HD.out with ⟨_, h⟩ | ⟨h, _⟩; exact h; exact absurd rfl h⟩, HX2, ⟨below_then HB1.out HB1.out.size (below_alloc (Below.refl _ _) _)⟩⟩
          case measure =>
            simp [intOf]
            try omega
      · have hjl : j = l0.length := by omega
        subst hjl
        have he := HE1.out
        rw [Nat.sub_self] at he
        obtain rfl := errFrom_end he
        have hh := HH.out
        rw [if_pos rfl] at hh
        obtain ⟨⟨s, e⟩, he2, rfl⟩ := Option.map_eq_some_iff.mp hh
        have HE2 := Aside0.mk he2
        clear hh he he2 HE1
        go_wp2_with (go_at_call 12; refine (book_Abbr.calls k _ _ _ s e _ (HL.out.sub HB1.out) HE2.out).mono ?_; rintro e' w' ⟨rfl, hb'⟩; have HB2 := Aside0.mk (below_then HB1.out HB1.out.size hb'); clear hb')
        go_ret
        exact ⟨rfl, HB2.out⟩
end Go.Proofs.YtmgnnplcnmhbaaaGreatDoor.PT
end
