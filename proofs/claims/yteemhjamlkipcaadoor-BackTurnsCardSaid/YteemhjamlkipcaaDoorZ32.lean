/- Part 32 of 34 of the proof of backTurns_holds. What it holds was printed or written for this claim, text by text, and merged. -/
import Derived.Test.YteemhjamlkipcaaDoorZ31
import Derived.Test.YteemhjamlkipcaaDoorZ30
import Derived.Test.YteemhjamlkipcaaDoorZ25
import Derived.IntWalk
section
namespace Go.Proofs.YteemhjamlkipcaaDoor.PT
open Go.RowKit Go.Proofs.YteemhjamlkipcaaDoorW.PrintWords Go.Proofs.YteemhjamlkipcaaDoorW.PrintLast Go.Proofs.YteemhjamlkipcaaDoorW.PrintMore
set_option linter.unusedVariables false
set_option linter.unusedSimpArgs false
def dayNo (y m d : Int) : Int :=
  if m < 3 then 365 * (y - 1) + (y - 1) / 4 - (y - 1) / 100 + (y - 1) / 400 + (153 * (m + 9) + 2) / 5 + d - 719469
  else 365 * y + y / 4 - y / 100 + y / 400 + (153 * (m - 3) + 2) / 5 + d - 719469
theorem days_f (y m d : Int) (hy0 : 1000 ≤ y) (hy1 : y ≤ 3000) (hm0 : 1 ≤ m) (hm1 : m ≤ 12) (hd0 : 0 ≤ d) (hd1 : d ≤ 100) : civil_days.f y m d = some (dayNo y m d) := by
  unfold civil_days.f dayNo
  have e1 : wrap64 (m - 3) = m - 3 := IntWalk.wrap64_in _ (by omega)
  rw [e1]
  by_cases h : m < 3
  · rw [if_pos (by omega), if_pos h]
    congr 1
    rw [IntWalk.wrap64_in (y - 1) (by omega), IntWalk.wrap64_in (m - 3 + 12) (by omega)]
    generalize hz : y - 1 = z
    have hz0 : 999 ≤ z := by omega
    have hz1 : z ≤ 2999 := by omega
    rw [Int.tdiv_eq_ediv_of_nonneg (by omega : 0 ≤ z), Int.tdiv_eq_ediv_of_nonneg (by omega : 0 ≤ z), Int.tdiv_eq_ediv_of_nonneg (by omega : 0 ≤ z)]
    generalize h4 : z / 4 = z4
    generalize h100 : z / 100 = z100
    generalize h400 : z / 400 = z400
    have b4 : 0 ≤ z4 ∧ z4 ≤ 3000 := by omega
    have b100 : 0 ≤ z100 ∧ z100 ≤ 3000 := by omega
    have b400 : 0 ≤ z400 ∧ z400 ≤ 3000 := by omega
    rw [show m - 3 + 12 = m + 9 by omega]
    rw [IntWalk.wrap64_in (153 * (m + 9)) (by omega), IntWalk.wrap64_in (153 * (m + 9) + 2) (by omega), Int.tdiv_eq_ediv_of_nonneg (by omega : 0 ≤ 153 * (m + 9) + 2)]
    generalize h5 : (153 * (m + 9) + 2) / 5 = z5
    have b5 : 0 ≤ z5 ∧ z5 ≤ 1000 := by omega
    clear h4 h100 h400 h5
    rw [IntWalk.wrap64_in (365 * z) (by omega), IntWalk.wrap64_in z4 (by omega), IntWalk.wrap64_in (365 * z + z4) (by omega), IntWalk.wrap64_in z100 (by omega), IntWalk.wrap64_in (365 * z + z4 - z100) (by omega), IntWalk.wrap64_in z400 (by omega), IntWalk.wrap64_in (365 * z + z4 - z100 + z400) (by omega), IntWalk.wrap64_in z5 (by omega), IntWalk.wrap64_in (365 * z + z4 - z100 + z400 + z5) (by omega), IntWalk.wrap64_in (365 * z + z4 - z100 + z400 + z5 + d) (by omega), IntWalk.wrap64_in _ (by omega)]
  · rw [if_neg (by omega), if_neg h]
    congr 1
    have hy2 : 0 ≤ y := by omega
    rw [Int.tdiv_eq_ediv_of_nonneg hy2, Int.tdiv_eq_ediv_of_nonneg hy2, Int.tdiv_eq_ediv_of_nonneg hy2]
    generalize h4 : y / 4 = z4
    generalize h100 : y / 100 = z100
    generalize h400 : y / 400 = z400
    have b4 : 0 ≤ z4 ∧ z4 ≤ 3000 := by omega
    have b100 : 0 ≤ z100 ∧ z100 ≤ 3000 := by omega
    have b400 : 0 ≤ z400 ∧ z400 ≤ 3000 := by omega
    rw [IntWalk.wrap64_in (153 * (m - 3)) (by omega), IntWalk.wrap64_in (153 * (m - 3) + 2) (by omega), Int.tdiv_eq_ediv_of_nonneg (by omega : 0 ≤ 153 * (m - 3) + 2)]
    generalize h5 : (153 * (m - 3) + 2) / 5 = z5
    have b5 : 0 ≤ z5 ∧ z5 ≤ 1000 := by omega
    clear h4 h100 h400 h5
    rw [IntWalk.wrap64_in (365 * y) (by omega), IntWalk.wrap64_in z4 (by omega), IntWalk.wrap64_in (365 * y + z4) (by omega), IntWalk.wrap64_in z100 (by omega), IntWalk.wrap64_in (365 * y + z4 - z100) (by omega), IntWalk.wrap64_in z400 (by omega), IntWalk.wrap64_in (365 * y + z4 - z100 + z400) (by omega), IntWalk.wrap64_in z5 (by omega), IntWalk.wrap64_in (365 * y + z4 - z100 + z400 + z5) (by omega), IntWalk.wrap64_in (365 * y + z4 - z100 + z400 + z5 + d) (by omega), IntWalk.wrap64_in _ (by omega)]
def monthLen (y m : Int) : Int := if m = 2 then (if y % 4 = 0 ∧ y % 100 ≠ 0 ∨ y % 400 = 0 then 29 else 28) else 30 + (m + m / 8) % 2
theorem length_f (y m : Int) (hy0 : 0 ≤ y) (hm0 : 1 ≤ m) (hm1 : m ≤ 12) : civil_length.f y m = some (monthLen y m) := by
  unfold civil_length.f monthLen
  by_cases h : m = 2
  · rw [if_pos h, if_pos h]
    unfold civil_isLong.f
    rw [Int.tmod_eq_emod_of_nonneg hy0, Int.tmod_eq_emod_of_nonneg hy0, Int.tmod_eq_emod_of_nonneg hy0]
    by_cases h4 : y % 4 = 0
    · rw [if_pos h4]
      by_cases h100 : y % 100 = 0
      · rw [if_pos h100]
        by_cases h400 : y % 400 = 0
        · simp [h400]
        · simp [h400, h100]
      · rw [if_neg h100]
        simp [h4, h100]
    · rw [if_neg h4]
      have h400 : ¬ y % 400 = 0 := by omega
      simp [h4, h400]
  · rw [if_neg h, if_neg h]
    congr 1
    rw [Int.tdiv_eq_ediv_of_nonneg (by omega : 0 ≤ m)]
    generalize h8 : m / 8 = m8
    have b8 : 0 ≤ m8 ∧ m8 ≤ 1 := by omega
    rw [IntWalk.wrap64_in m8 (by omega), IntWalk.wrap64_in (m + m8) (by omega), Int.tmod_eq_emod_of_nonneg (by omega : 0 ≤ m + m8), IntWalk.wrap64_in _ (by omega)]
theorem Length_f (y m : Int) (hy0 : 1600 ≤ y) (hy1 : y ≤ 2399) (hm0 : 1 ≤ m) (hm1 : m ≤ 12) : civil_Length.f y m = some (monthLen y m, 0) := by
  unfold civil_Length.f civil_isYear.f
  rw [if_pos (by omega : y ≥ 1600)]
  simp only [Option.bind_some, decide_eq_true_eq]
  rw [if_pos hy1, if_neg (by omega), if_neg (by omega), length_f y m (by omega) hm0 hm1]
  rfl
theorem monthLen_le (y m : Int) (hm0 : 1 ≤ m) (hm1 : m ≤ 12) : 28 ≤ monthLen y m ∧ monthLen y m ≤ 31 := by
  unfold monthLen
  split
  · split <;> omega
  · omega
theorem Days_f (y m d : Int) (hy0 : 1600 ≤ y) (hy1 : y ≤ 2399) (hm0 : 1 ≤ m) (hm1 : m ≤ 12) (hd0 : 1 ≤ d) (hd1 : d ≤ monthLen y m) : civil_Days.f y m d = some (dayNo y m d, 0) := by
  unfold civil_Days.f
  have := monthLen_le y m hm0 hm1
  rw [Length_f y m hy0 hy1 hm0 hm1]
  simp only [Option.bind_some]
  rw [if_pos trivial, if_neg (by omega), if_neg (by omega), days_f y m d (by omega) (by omega) hm0 hm1 (by omega) (by omega)]
  rfl
theorem dayNo_first : civil_days.f 1600 1 1 = some (-135140) := by
  rw [days_f 1600 1 1 (by decide) (by decide) (by decide) (by decide) (by decide) (by decide)]
  rfl
theorem dayNo_last : civil_days.f 2399 12 31 = some 157053 := by
  rw [days_f 2399 12 31 (by decide) (by decide) (by decide) (by decide) (by decide) (by decide)]
  rfl
theorem Date_out (k : Nat) (n : Int) (h : n < -135140 ∨ 157053 < n) : civil_Date.f (k + 1) n = some (0, 0, 0, 1) := by
  unfold civil_Date.f
  rw [dayNo_first, dayNo_last]
  simp only [Option.bind_some]
  by_cases h0 : n < -135140
  · rw [if_pos h0]
    simp only [civil_Date.j0]
    try rfl
  · rw [if_neg h0]
    have h1 : decide (n > 157053) = true := decide_eq_true (by omega)
    rw [h1]
    simp only [civil_Date.j0]
    try rfl
theorem Date_f (k : Nat) (n : Int) (h0 : -135140 ≤ n) (h1 : n ≤ 157053) : ∃ y m d : Int, civil_Date.f (k + 1) n = some (y, m, d, 0) ∧ dayNo y m d = n ∧ 1 ≤ m ∧ m ≤ 12 ∧ 1 ≤ d ∧ d ≤ monthLen y m ∧ 1600 ≤ y ∧ y ≤ 2399 := by
  unfold civil_Date.f
  rw [dayNo_first, dayNo_last]
  simp only [Option.bind_some]
  rw [if_neg (by omega)]
  have e1 : decide (n > 157053) = false := decide_eq_false (by omega)
  rw [e1]
  simp only [civil_Date.j0]
  try rw [if_neg Bool.false_ne_true]
  rw [IntWalk.wrap64_in (n + 719468) (by omega)]
  obtain ⟨N, hN⟩ : ∃ N, n + 719468 = N := ⟨_, rfl⟩
  rw [hN]
  have hN0 : 584328 ≤ N := by omega
  have hN1 : N ≤ 876521 := by omega
  rw [Int.tmod_eq_emod_of_nonneg (by omega : 0 ≤ N), Int.tdiv_eq_ediv_of_nonneg (by omega : 0 ≤ N)]
  generalize hr : N % 146097 = r
  generalize hq : N / 146097 = q
  have fN : N = 146097 * q + r := by omega
  have r0 : 0 ≤ r := by omega
  have r1 : r < 146097 := by omega
  have q0 : 3 ≤ q := by omega
  have q1 : q ≤ 5 := by omega
  clear hr hq
  rw [Int.tdiv_eq_ediv_of_nonneg r0]
  generalize hk0 : r / 36524 = k0
  have k00 : 0 ≤ k0 := by omega
  have k01 : k0 ≤ 4 := by omega
  rw [IntWalk.wrap64_in k0 (by omega)]
  generalize hk1 : mn k0 3 = k1
  have f1 : (k1 = k0 ∧ k0 ≤ 3) ∨ (k1 = 3 ∧ k0 = 4) := by
    unfold mn at hk1
    split at hk1 <;> omega
  have k10 : 0 ≤ k1 := by omega
  have k11 : k1 ≤ 3 := by omega
  rw [IntWalk.wrap64_in (36524 * k1) (by omega), IntWalk.wrap64_in (r - 36524 * k1) (by omega)]
  generalize hs : r - 36524 * k1 = s
  have s0 : 0 ≤ s := by omega
  have s1 : s ≤ 36524 := by omega
  have s2 : s = 36524 → k1 = 3 := by omega
  clear hk0 hk1
  rw [Int.tdiv_eq_ediv_of_nonneg s0]
  generalize hk2 : s / 1461 = k2
  have k20 : 0 ≤ k2 := by omega
  have k21 : k2 ≤ 24 := by omega
  rw [IntWalk.wrap64_in k2 (by omega), IntWalk.wrap64_in (1461 * k2) (by omega), IntWalk.wrap64_in (s - 1461 * k2) (by omega)]
  generalize ht : s - 1461 * k2 = t
  have t0 : 0 ≤ t := by omega
  have t1 : t ≤ 1460 := by omega
  clear hk2
  rw [Int.tdiv_eq_ediv_of_nonneg t0]
  generalize hk3 : t / 365 = k3
  have k30 : 0 ≤ k3 := by omega
  have k31 : k3 ≤ 4 := by omega
  rw [IntWalk.wrap64_in k3 (by omega)]
  generalize hk4 : mn k3 3 = k4
  have f4 : (k4 = k3 ∧ k3 ≤ 3) ∨ (k4 = 3 ∧ k3 = 4) := by
    unfold mn at hk4
    split at hk4 <;> omega
  have k40 : 0 ≤ k4 := by omega
  have k41 : k4 ≤ 3 := by omega
  rw [IntWalk.wrap64_in (365 * k4) (by omega), IntWalk.wrap64_in (t - 365 * k4) (by omega)]
  generalize hu : t - 365 * k4 = u
  have u0 : 0 ≤ u := by omega
  have u1 : u ≤ 365 := by omega
  have u2 : u = 365 → k4 = 3 ∧ t = 1460 := by omega
  clear hk3 hk4
  rw [IntWalk.wrap64_in (5 * u) (by omega), IntWalk.wrap64_in (5 * u + 2) (by omega), Int.tdiv_eq_ediv_of_nonneg (by omega : 0 ≤ 5 * u + 2)]
  generalize hm : (5 * u + 2) / 153 = m
  have m0 : 0 ≤ m := by omega
  have m1 : m ≤ 11 := by omega
  rw [IntWalk.wrap64_in m (by omega), IntWalk.wrap64_in (m + 3) (by omega), IntWalk.wrap64_in (153 * m) (by omega), IntWalk.wrap64_in (153 * m + 2) (by omega), Int.tdiv_eq_ediv_of_nonneg (by omega : 0 ≤ 153 * m + 2)]
  generalize hz : (153 * m + 2) / 5 = z
  have z0 : 0 ≤ z := by omega
  have z1 : z ≤ 337 := by omega
  rw [IntWalk.wrap64_in z (by omega), IntWalk.wrap64_in (u - z) (by omega), IntWalk.wrap64_in (u - z + 1) (by omega)]
  rw [IntWalk.wrap64_in q (by omega), IntWalk.wrap64_in (q * 400) (by omega), IntWalk.wrap64_in (100 * k1) (by omega), IntWalk.wrap64_in (q * 400 + 100 * k1) (by omega), IntWalk.wrap64_in (4 * k2) (by omega), IntWalk.wrap64_in (q * 400 + 100 * k1 + 4 * k2) (by omega), IntWalk.wrap64_in (q * 400 + 100 * k1 + 4 * k2 + k4) (by omega)]
  have fn : n = 146097 * q + 36524 * k1 + 1461 * k2 + 365 * k4 + u - 719468 := by omega
  generalize hY : q * 400 + 100 * k1 + 4 * k2 + k4 = Y
  have y4 : Y / 4 = 100 * q + 25 * k1 + k2 := by omega
  have y100 : Y / 100 = 4 * q + k1 := by omega
  have y400 : Y / 400 = q := by omega
  by_cases hgt : m + 3 > 12
  · rw [if_pos hgt, IntWalk.wrap64_in (m + 3 - 12) (by omega), IntWalk.wrap64_in (Y + 1) (by omega)]
    refine ⟨Y + 1, m + 3 - 12, u - z + 1, rfl, ?_, by omega, by omega, ?_, ?_, ?_, ?_⟩
    · unfold dayNo
      rw [if_pos (by omega), show Y + 1 - 1 = Y by omega, show m + 3 - 12 + 9 = m by omega, hz, y4, y100, y400]
      omega
    · omega
    · have hm2 : m = 10 ∨ m = 11 := by omega
      rcases hm2 with rfl | rfl
      · have e : monthLen (Y + 1) (10 + 3 - 12) = 31 := rfl
        rw [e]
        omega
      · unfold monthLen
        rw [if_pos (by decide)]
        split
        · omega
        · rename_i hlong
          have hu3 : u ≠ 365 := by
            intro hu4
            obtain ⟨a1, a2⟩ := u2 hu4
            apply hlong
            have b1 : (Y + 1) % 4 = 0 := by omega
            by_cases b2 : k2 = 24
            · right
              omega
            · left
              refine ⟨b1, ?_⟩
              omega
          omega
    · omega
    · omega
  · rw [if_neg hgt]
    refine ⟨Y, m + 3, u - z + 1, rfl, ?_, by omega, by omega, ?_, ?_, ?_, ?_⟩
    · unfold dayNo
      rw [if_neg (by omega), show m + 3 - 3 = m by omega, hz, y4, y100, y400]
      omega
    · omega
    · have hm2 : m = 0 ∨ m = 1 ∨ m = 2 ∨ m = 3 ∨ m = 4 ∨ m = 5 ∨ m = 6 ∨ m = 7 ∨ m = 8 ∨ m = 9 := by omega
      unfold monthLen
      rw [if_neg (by omega)]
      rcases hm2 with rfl | rfl | rfl | rfl | rfl | rfl | rfl | rfl | rfl | rfl <;> omega
    · omega
    · omega
end Go.Proofs.YteemhjamlkipcaaDoor.PT
end
section
namespace Go.Proofs.YteemhjamlkipcaaDoor.PT
open Go.RowKit Go.Proofs.YteemhjamlkipcaaDoorW.PrintWords Go.Proofs.YteemhjamlkipcaaDoorW.PrintLast Go.Proofs.YteemhjamlkipcaaDoorW.PrintMore
set_option linter.unusedVariables false
set_option linter.unusedSimpArgs false
theorem isLetter_total (c : Int) : ∃ b, rule_isLetter.f c = some b := by
  unfold rule_isLetter.f
  repeat' split
  all_goals exact ⟨_, rfl⟩
theorem isDigit_total (c : Int) : ∃ b, rule_isDigit.f c = some b := by
  unfold rule_isDigit.f
  repeat' split
  all_goals exact ⟨_, rfl⟩
theorem all_total (s : ByteArray) (M : Int) (x : ByteArray) (hx : x.size < 4294967281) (hs : s.size ≤ 9223372036854775807) : ∀ (d : Nat) (i : Int) (k : Nat), 0 ≤ i → i + d = s.size → d < k → ∃ b, rule_all.l0 k s M x (s.size : Int) i = some b := by
  intro d
  induction d with
  | zero =>
    intro i k h0 h1 h2
    obtain ⟨k, rfl⟩ : ∃ m, k = m + 1 := ⟨k - 1, by omega⟩
    simp only [rule_all.l0]
    rw [if_neg (by omega)]
    split <;> exact ⟨_, rfl⟩
  | succ d ih =>
    intro i k h0 h1 h2
    obtain ⟨k, rfl⟩ : ∃ m, k = m + 1 := ⟨k - 1, by omega⟩
    have e : wrap64 (i + 1) = i + 1 := IntWalk.wrap64_in _ (by omega)
    obtain ⟨b, hb⟩ := ih (i + 1) k (by omega) (by omega) (by omega)
    obtain ⟨b1, hb1⟩ := isLetter_total (bt s i)
    obtain ⟨b2, hb2⟩ := isDigit_total (bt s i)
    simp only [rule_all.l0]
    rw [if_pos (by omega), if_pos h0, if_pos (by omega), hb1, e]
    simp only [Option.bind_some]
    split
    · exact ⟨b, hb⟩
    · rw [hb2]
      simp only [Option.bind_some]
      split
      · exact ⟨b, hb⟩
      · rw [if_pos (by omega), if_pos (by omega)]
        unfold strings_Contains.f
        rw [if_pos hx]
        simp only [Option.bind_some]
        split
        · exact ⟨b, hb⟩
        · exact ⟨_, rfl⟩
theorem IsAbbr_total (s : ByteArray) (hs : s.size ≤ 9223372036854775807) (k : Nat) (hk : s.size < k) : ∃ b, rule_IsAbbr.f k s = some b := by
  obtain ⟨b, hb⟩ := all_total s 8 ⟨#[43, 45]⟩ (by decide) hs s.size 0 k (by omega) (by omega) hk
  refine ⟨b, ?_⟩
  unfold rule_IsAbbr.f rule_all.f
  rw [hb]
  rfl
structure YearOk (t : S37) (r : S59) : Prop where
  f0 : r.f0 = ⟨#[121, 101, 97, 114, 115]⟩
  y0 : 1900 ≤ r.f1
  y1 : r.f1 ≤ 2100
  f2 : r.f2 = r.f1
  m0 : 1 ≤ r.f3
  m1 : r.f3 ≤ 12
  d0 : r.f4.f0 = 1
  d1 : r.f4.f1 = 0
  d2 : 1 ≤ r.f4.f2
  d3 : r.f4.f2 ≤ monthLen 1901 r.f3
  a0 : 0 ≤ r.f5
  a1 : r.f5 < 172800
  at_ : 86400 * dayNo r.f1 r.f3 r.f4.f2 + r.f5 = t.f0
  f6 : r.f6 = 2
  s0 : 0 ≤ r.f7
  s1 : r.f7 ≤ 10800
  s : r.f7 = t.f1
  l : r.f8 = t.f2
  ab : r.f8.toList = ([45] : List UInt8) ∨ ∃ K, rule_IsAbbr.f K r.f8 = some true
theorem Floor_f (a : Int) (h0 : -9223372036854775808 ≤ a) (h1 : a ≤ 9223372036854775807) : clock_Floor.f a 86400 = some (a / 86400, a % 86400) := by
  unfold clock_Floor.f
  rw [if_neg (by decide)]
  have hq := Int.tmod_add_mul_tdiv a 86400
  by_cases hn : Int.tmod a 86400 < 0
  · rw [if_pos hn]
    have hlt : -86400 < Int.tmod a 86400 := by
      have := Int.lt_tmod_of_pos a (by decide : (0 : Int) < 86400)
      omega
    generalize Int.tmod a 86400 = r at hq hn hlt ⊢
    generalize Int.tdiv a 86400 = q at hq ⊢
    rw [IntWalk.wrap64_in q (by omega), IntWalk.wrap64_in (q - 1) (by omega), IntWalk.wrap64_in (r + 86400) (by omega)]
    have e1 : q - 1 = a / 86400 := by omega
    have e2 : r + 86400 = a % 86400 := by omega
    rw [e1, e2]
  · rw [if_neg hn]
    have hlt : Int.tmod a 86400 < 86400 := Int.tmod_lt_of_pos a (by decide)
    generalize Int.tmod a 86400 = r at hq hn hlt ⊢
    generalize Int.tdiv a 86400 = q at hq ⊢
    rw [IntWalk.wrap64_in q (by omega)]
    have e1 : q = a / 86400 := by omega
    have e2 : r = a % 86400 := by omega
    rw [e1, e2]
theorem Years_step (l0 : List S37) (hn : l0.length ≤ 40) (i : Int) (h0 : 0 ≤ i) (h1 : i < l0.length) (hI : -9223372036854775808 ≤ (rd_T37 l0 i).f0 ∧ (rd_T37 l0 i).f0 ≤ 9223372036854775807) (hs : (rd_T37 l0 i).f2.size ≤ 9223372036854775807) (k : Nat) (hk : (rd_T37 l0 i).f2.size ≤ k) (acc : List S59) (hacc : acc.length ≤ 40) :
    (∃ e, e ≠ 0 ∧ back_Years.l0 (k + 5) l0 acc l0 (l0.length : Int) i = some ([], e)) ∨
    (∃ r, YearOk (rd_T37 l0 i) r ∧ (0 < i → (rd_T37 l0 (i - 1)).f0 < (rd_T37 l0 i).f0) ∧ back_Years.l0 (k + 5) l0 acc l0 (l0.length : Int) i = back_Years.l0 k l0 (acc ++ [r]) l0 (l0.length : Int) (i + 1)) := by
  have e1 : wrap64 (i + 1) = i + 1 := IntWalk.wrap64_in _ (by omega)
  have e2 : wrap64 (i - 1) = i - 1 := IntWalk.wrap64_in _ (by omega)
  have hal : acc.length < 1353245080339 := by omega
  simp only [back_Years.l0, back_Years.j1, back_Years.j2, back_Years.j3, back_Years.j4, e1, e2]
  rw [if_pos h1, if_pos h0, if_pos h1, Floor_f _ hI.1 hI.2]
  simp only [Option.bind_some]
  generalize rd_T37 l0 i = t at *
  obtain ⟨at_, sv, le⟩ := t
  dsimp only at *
  have hn0 : at_ = 86400 * (at_ / 86400) + at_ % 86400 := by omega
  have hn1 : 0 ≤ at_ % 86400 := by omega
  have hn2 : at_ % 86400 < 86400 := by omega
  generalize at_ / 86400 = n at *
  generalize at_ % 86400 = rest at *
  by_cases hr : -135140 ≤ n ∧ n ≤ 157053
  · obtain ⟨y, m, d, hd, hday, hm0, hm1, hd0, hd1, hy0, hy1⟩ := Date_f (k + 3) n hr.1 hr.2
    rw [hd]
    simp only [Option.bind_some, if_true]
    have e3 : wrap64 (rest + 86400) = rest + 86400 := IntWalk.wrap64_in _ (by omega)
    simp only [decide_eq_true_eq, Bool.false_eq_true, if_false, e3, hal, if_true]
    by_cases c1 : y < 1900
    · left
      exact ⟨1, by decide, by rw [if_pos c1]⟩
    rw [if_neg c1]
    by_cases c2 : y > 2100
    · left
      exact ⟨1, by decide, by rw [if_pos c2]⟩
    rw [if_neg c2]
    have hrule : ∃ R : S59, (rule_IsAbbr.f (k + 1) le = some true ∨ le.toList = ([45] : List UInt8) → 0 ≤ sv → sv ≤ 10800 → YearOk ⟨at_, sv, le⟩ R) ∧ (if m = 2 then (if d = 29 then back_Years.l0 k l0 (acc ++ [⟨⟨#[121, 101, 97, 114, 115]⟩, y, y, m, ⟨1, 0, 28⟩, rest + 86400, 2, sv, le⟩]) l0 (l0.length : Int) (i + 1) else back_Years.l0 k l0 (acc ++ [⟨⟨#[121, 101, 97, 114, 115]⟩, y, y, m, ⟨1, 0, d⟩, rest, 2, sv, le⟩]) l0 (l0.length : Int) (i + 1)) else back_Years.l0 k l0 (acc ++ [⟨⟨#[121, 101, 97, 114, 115]⟩, y, y, m, ⟨1, 0, d⟩, rest, 2, sv, le⟩]) l0 (l0.length : Int) (i + 1)) = back_Years.l0 k l0 (acc ++ [R]) l0 (l0.length : Int) (i + 1) := by
      by_cases c3 : m = 2 ∧ d = 29
      · obtain ⟨rfl, rfl⟩ := c3
        refine ⟨_, fun ha hs0 hs1 => ?_, by rw [if_pos rfl, if_pos rfl]⟩
        have e4 : dayNo y 2 28 = n - 1 := by
          rw [← hday]
          unfold dayNo
          rw [if_pos (by decide), if_pos (by decide)]
          omega
        exact ⟨rfl, by dsimp only; omega, by dsimp only; omega, rfl, (show (1 : Int) ≤ 2 by decide), (show (2 : Int) ≤ 12 by decide), rfl, rfl, (show (1 : Int) ≤ 28 by decide), (show (28 : Int) ≤ monthLen 1901 2 by decide), by dsimp only; omega, by dsimp only; omega, by dsimp only; rw [e4]; omega, rfl, hs0, hs1, rfl, rfl, ha.elim (fun h => .inr ⟨_, h⟩) .inl⟩
      · refine ⟨⟨⟨#[121, 101, 97, 114, 115]⟩, y, y, m, ⟨1, 0, d⟩, rest, 2, sv, le⟩, fun ha hs0 hs1 => ?_, ?_⟩
        · have e5 : d ≤ monthLen 1901 m := by
            unfold monthLen at hd1 ⊢
            by_cases c4 : m = 2
            · rw [if_pos c4] at hd1 ⊢
              rw [if_neg (by decide)]
              split at hd1 <;> omega
            · rw [if_neg c4] at hd1 ⊢
              exact hd1
          exact ⟨rfl, by dsimp only; omega, by dsimp only; omega, rfl, hm0, hm1, rfl, rfl, hd0, e5, by dsimp only; omega, by dsimp only; omega, by dsimp only; rw [hday]; omega, rfl, hs0, hs1, rfl, rfl, ha.elim (fun h => .inr ⟨_, h⟩) .inl⟩
        · by_cases c4 : m = 2
          · rw [if_pos c4, if_neg (fun h => c3 ⟨c4, h⟩)]
          · rw [if_neg c4]
    obtain ⟨R, hR, hX⟩ := hrule
    rw [hX]
    obtain ⟨b, hb⟩ := IsAbbr_total le hs (k + 1) (by omega)
    rw [hb]
    simp only [Option.bind_some]
    have hrest : (0 < i → (rd_T37 l0 (i - 1)).f0 < at_) → (∃ e : Int, e ≠ 0 ∧ (if sv < 0 then some (([] : List S59), (1 : Int)) else if sv > 10800 then some ([], 1) else if le.toList = [45] then back_Years.l0 k l0 (acc ++ [R]) l0 (l0.length : Int) (i + 1) else if (!b) = true then some ([], 3) else back_Years.l0 k l0 (acc ++ [R]) l0 (l0.length : Int) (i + 1)) = some ([], e)) ∨ (∃ r, YearOk ⟨at_, sv, le⟩ r ∧ (0 < i → (rd_T37 l0 (i - 1)).f0 < at_) ∧ (if sv < 0 then some (([] : List S59), (1 : Int)) else if sv > 10800 then some ([], 1) else if le.toList = [45] then back_Years.l0 k l0 (acc ++ [R]) l0 (l0.length : Int) (i + 1) else if (!b) = true then some ([], 3) else back_Years.l0 k l0 (acc ++ [R]) l0 (l0.length : Int) (i + 1)) = back_Years.l0 k l0 (acc ++ [r]) l0 (l0.length : Int) (i + 1)) := by
      intro hp
      by_cases d1 : sv < 0
      · left
        exact ⟨1, by decide, by rw [if_pos d1]⟩
      by_cases d2 : sv > 10800
      · left
        exact ⟨1, by decide, by rw [if_neg d1, if_pos d2]⟩
      by_cases d3 : le.toList = [45]
      · right
        exact ⟨R, hR (.inr d3) (by omega) (by omega), hp, by rw [if_neg d1, if_neg d2, if_pos d3]⟩
      cases b with
      | false =>
        left
        exact ⟨3, by decide, by rw [if_neg d1, if_neg d2, if_neg d3]; rfl⟩
      | true =>
        right
        exact ⟨R, hR (.inl hb) (by omega) (by omega), hp, by rw [if_neg d1, if_neg d2, if_neg d3]; rfl⟩
    by_cases c5 : i > 0
    · rw [if_pos c5, if_pos (by omega), if_pos (by omega)]
      by_cases c6 : at_ ≤ (rd_T37 l0 (i - 1)).f0
      · left
        exact ⟨5, by decide, by rw [if_pos c6]⟩
      · rw [if_neg c6]
        exact hrest (fun _ => by omega)
    · rw [if_neg c5]
      exact hrest (fun h => absurd h c5)
  · left
    refine ⟨1, by decide, ?_⟩
    rw [Date_out (k + 3) n (by omega)]
    simp
theorem rd_rule_lt (acc : List S59) (x : S59) (i : Int) (h0 : 0 ≤ i) (h1 : i < acc.length) : rd_T59 (acc ++ [x]) i = rd_T59 acc i := by
  unfold rd_T59
  rw [List.getD_eq_getElem?_getD, List.getD_eq_getElem?_getD, List.getElem?_append_left (by omega)]
theorem rd_rule_eq (acc : List S59) (x : S59) (i : Int) (h1 : i = acc.length) : rd_T59 (acc ++ [x]) i = x := by
  subst h1
  unfold rd_T59
  rw [List.getD_eq_getElem?_getD, Int.toNat_natCast, List.getElem?_append_right (Nat.le_refl _)]
  simp
structure YearsOk (l0 : List S37) (out : List S59) : Prop where
  len : out.length = l0.length
  each : ∀ i : Int, 0 ≤ i → i < l0.length → YearOk (rd_T37 l0 i) (rd_T59 out i)
  rise : ∀ i : Int, 0 ≤ i → i + 1 < l0.length → (rd_T37 l0 i).f0 < (rd_T37 l0 (i + 1)).f0
theorem Years_all (l0 : List S37) (hn : l0.length ≤ 40) (K : Nat) (hI : ∀ i : Int, 0 ≤ i → i < l0.length → -9223372036854775808 ≤ (rd_T37 l0 i).f0 ∧ (rd_T37 l0 i).f0 ≤ 9223372036854775807) (hs : ∀ i : Int, 0 ≤ i → i < l0.length → (rd_T37 l0 i).f2.size ≤ 9223372036854775807 ∧ (rd_T37 l0 i).f2.size ≤ K) :
    ∀ (d : Nat) (i : Int) (acc : List S59) (k : Nat), 0 ≤ i → i + d = l0.length → (acc.length : Int) = i → K + 5 * d + 1 ≤ k → (∀ j : Int, 0 ≤ j → j < i → YearOk (rd_T37 l0 j) (rd_T59 acc j)) → (∀ j : Int, 0 ≤ j → j + 1 < i → (rd_T37 l0 j).f0 < (rd_T37 l0 (j + 1)).f0) →
      ∃ out e, back_Years.l0 k l0 acc l0 (l0.length : Int) i = some (out, e) ∧ ((e ≠ 0 ∧ out = []) ∨ (e = 0 ∧ YearsOk l0 out)) := by
  intro d
  induction d with
  | zero =>
    intro i acc k h0 h1 h2 h3 h4 h5
    obtain ⟨k, rfl⟩ : ∃ m, k = m + 1 := ⟨k - 1, by omega⟩
    refine ⟨acc, 0, ?_, .inr ⟨rfl, by omega, fun j g0 g1 => h4 j g0 (by omega), fun j g0 g1 => h5 j g0 (by omega)⟩⟩
    simp only [back_Years.l0]
    rw [if_neg (by omega)]
  | succ d ih =>
    intro i acc k h0 h1 h2 h3 h4 h5
    obtain ⟨k, rfl⟩ : ∃ m, k = m + 5 := ⟨k - 5, by omega⟩
    have hil : i < l0.length := by omega
    rcases Years_step l0 hn i h0 hil (hI i h0 hil) (hs i h0 hil).1 k (by have := (hs i h0 hil).2; omega) acc (by omega) with ⟨e, he, hh⟩ | ⟨r, hr, hp, hh⟩
    · exact ⟨[], e, hh, .inl ⟨he, rfl⟩⟩
    · obtain ⟨out, e, ho, hc⟩ := ih (i + 1) (acc ++ [r]) k (by omega) (by omega) (by rw [List.length_append]; simp; omega) (by omega) (fun j g0 g1 => by
        by_cases hj : j = i
        · subst hj
          rw [rd_rule_eq acc r j (by omega)]
          exact hr
        · rw [rd_rule_lt acc r j g0 (by omega)]
          exact h4 j g0 (by omega)) (fun j g0 g1 => by
        by_cases hj : j + 1 = i
        · have := hp (by omega)
          rw [← hj] at this
          rwa [show j + 1 - 1 = j by omega] at this
        · exact h5 j g0 (by omega))
      exact ⟨out, e, hh.trans ho, hc⟩
theorem Years_f (l0 : List S37) (K : Nat) (hI : ∀ i : Int, 0 ≤ i → i < l0.length → -9223372036854775808 ≤ (rd_T37 l0 i).f0 ∧ (rd_T37 l0 i).f0 ≤ 9223372036854775807) (hs : ∀ i : Int, 0 ≤ i → i < l0.length → (rd_T37 l0 i).f2.size ≤ 9223372036854775807 ∧ (rd_T37 l0 i).f2.size ≤ K) (k : Nat) (hk : K + 205 ≤ k) :
    ∃ out e, back_Years.f k l0 = some (out, e) ∧ ((e ≠ 0 ∧ out = []) ∨ (e = 0 ∧ l0.length ≤ 40 ∧ YearsOk l0 out)) := by
  unfold back_Years.f
  by_cases h : (l0.length : Int) > 40
  · exact ⟨[], 2, by rw [if_pos h], .inl ⟨by decide, rfl⟩⟩
  · rw [if_neg h]
    obtain ⟨out, e, ho, hc⟩ := Years_all l0 (by omega) K hI hs l0.length 0 [] k (by omega) (by omega) rfl (by omega) (fun j g0 g1 => by omega) (fun j g0 g1 => by omega)
    refine ⟨out, e, ho, ?_⟩
    rcases hc with hc | ⟨hc1, hc2⟩
    · exact .inl hc
    · exact .inr ⟨hc1, by omega, hc2⟩
end Go.Proofs.YteemhjamlkipcaaDoor.PT
end
section
namespace Go.Proofs.YteemhjamlkipcaaDoor.PT
open Go.RowKit Go.Proofs.YteemhjamlkipcaaDoorW.PrintWords Go.Proofs.YteemhjamlkipcaaDoorW.PrintLast Go.Proofs.YteemhjamlkipcaaDoorW.PrintMore
set_option linter.unusedVariables false
set_option linter.unusedSimpArgs false
theorem dayNo_lin (y m d : Int) : dayNo y m 1 + d - 1 = dayNo y m d := by
  unfold dayNo
  split <;> omega
theorem dayNo_range (y m d : Int) (hy0 : 1600 ≤ y) (hy1 : y ≤ 2399) (hm0 : 1 ≤ m) (hm1 : m ≤ 12) (hd0 : 1 ≤ d) (hd1 : d ≤ 31) : -200000 ≤ dayNo y m d ∧ dayNo y m d ≤ 200000 := by
  unfold dayNo
  split <;> omega
theorem monthLen_1901 (y m : Int) (hm0 : 1 ≤ m) (hm1 : m ≤ 12) : monthLen 1901 m ≤ monthLen y m := by
  unfold monthLen
  by_cases h : m = 2
  · rw [if_pos h, if_pos h, if_neg (by decide)]
    split <;> omega
  · rw [if_neg h, if_neg h]
    omega
theorem dayCheck_f (k : Nat) (n : Int) (h0 : 1 ≤ n) (h1 : n ≤ 31) : day_Check.f k 1 0 n = some 0 := by
  unfold day_Check.f day_within.f
  rw [if_pos (by decide), if_pos h0]
  simp only [Option.bind_some]
  rw [if_pos (by decide), if_pos (by decide), if_pos (decide_eq_true h1)]
theorem dayOf_f {t : S37} {r : S59} (h : YearOk t r) : day_Of.f 20 r.f1 r.f3 r.f4.f0 r.f4.f1 r.f4.f2 = some (dayNo r.f1 r.f3 r.f4.f2, 0) := by
  have h1 := monthLen_1901 r.f1 r.f3 h.m0 h.m1
  have h2 := monthLen_le 1901 r.f3 h.m0 h.m1
  have h3 := monthLen_le r.f1 r.f3 h.m0 h.m1
  have a1 := h.y0
  have a2 := h.y1
  have a3 := h.d2
  have a4 := h.d3
  unfold day_Of.f
  rw [h.d0, h.d1, dayCheck_f 20 _ a3 (by omega)]
  simp only [Option.bind_some]
  rw [if_pos trivial, Length_f _ _ (by omega) (by omega) h.m0 h.m1]
  simp only [Option.bind_some]
  rw [if_pos trivial, if_neg (by omega), Days_f _ _ 1 (by omega) (by omega) h.m0 h.m1 (by omega) (by omega)]
  simp only [Option.bind_some]
  have h4 := dayNo_range r.f1 r.f3 1 (by omega) (by omega) h.m0 h.m1 (by omega) (by omega)
  rw [if_neg (by decide), if_neg (by decide), if_neg (by decide), IntWalk.wrap64_in (dayNo r.f1 r.f3 1 + r.f4.f2) (by omega), IntWalk.wrap64_in _ (by omega), dayNo_lin]
  simp only [day_Of.j0, day_Of.l0]
  exact if_pos trivial
theorem nomAt_f {t : S37} {r : S59} (h : YearOk t r) : nomAt r = t.f0 := by
  have h4 := dayNo_range r.f1 r.f3 r.f4.f2 (by have := h.y0; omega) (by have := h.y1; omega) h.m0 h.m1 h.d2 (by have := h.d3; have := monthLen_le 1901 r.f3 h.m0 h.m1; omega)
  have a1 := h.a0
  have a2 := h.a1
  have a3 := h.at_
  unfold nomAt
  rw [dayOf_f h]
  dsimp only
  rw [IntWalk.wrap64_in (86400 * _) (by omega), IntWalk.wrap64_in _ (by omega), a3]
theorem turnOf_f {t : S37} {r : S59} (h : YearOk t r) : turnOf r = t := by
  obtain ⟨a, b, c⟩ := t
  have h1 := nomAt_f h
  have h2 := h.s
  have h3 := h.l
  unfold turnOf
  rw [h1, h2, h3]
theorem turnsFit_f {l0 : List S37} {out : List S59} (h : YearsOk l0 out) (hn : l0.length ≤ 40) (h0 : 0 < l0.length) : TurnsFit out ⟨#[121, 101, 97, 114, 115]⟩ := by
  have hl := h.len
  refine ⟨by omega, by omega, fun i g0 g1 => (h.each i g0 (by omega)).f0, fun i g0 g1 => ?_, fun i g0 g1 => (h.each i g0 (by omega)).f6, fun i g0 g1 => ⟨_, dayOf_f (h.each i g0 (by omega))⟩, fun i g0 g1 => ?_⟩
  · have e := h.each i g0 (by omega)
    have e0 := e.y0
    have e1 := e.y1
    exact ⟨e.f2, by omega, by omega⟩
  · rw [nomAt_f (h.each i g0 (by omega)), nomAt_f (h.each (i + 1) (by omega) (by omega))]
    exact h.rise i g0 (by omega)
theorem mapTurn_f {l0 : List S37} {out : List S59} (h : YearsOk l0 out) : out.map turnOf = l0 := by
  have hl := h.len
  apply List.ext_getElem?
  intro i
  rw [List.getElem?_map]
  by_cases hi : i < l0.length
  · have e := turnOf_f (h.each (i : Int) (Int.natCast_nonneg _) (by omega))
    unfold rd_T37 rd_T59 at e
    rw [List.getD_eq_getElem?_getD, List.getD_eq_getElem?_getD, Int.toNat_natCast] at e
    rw [List.getElem?_eq_getElem hi] at e ⊢
    rw [List.getElem?_eq_getElem (by omega : i < out.length)] at e ⊢
    simp only [Option.map_some, Option.getD_some] at e ⊢
    rw [e]
  · rw [List.getElem?_eq_none (by omega), List.getElem?_eq_none (by omega)]
    rfl
theorem fuel_le {α : Type} (f : Nat → Option α) (hm : ∀ k, LeO (f k) (f (k + 1))) {k k' : Nat} (h : k ≤ k') {r : α} (hr : f k = some r) : f k' = some r := by
  obtain ⟨d, rfl⟩ := Nat.exists_eq_add_of_le h
  clear h
  induction d with
  | zero => exact hr
  | succ n ih => exact hm (k + n) _ ih
theorem all_size (s : ByteArray) (M : Int) (x : ByteArray) : ∀ (k : Nat) (n i : Int), rule_all.l0 k s M x n i = some true → (s.size : Int) ≤ M := by
  intro k
  induction k with
  | zero => intro n i h; simp [rule_all.l0] at h
  | succ k ih =>
    intro n i h
    simp only [rule_all.l0] at h
    split at h
    · split at h
      · split at h
        · obtain ⟨b1, _, h⟩ := Option.bind_eq_some_iff.1 h
          split at h
          · exact ih _ _ h
          · obtain ⟨b2, _, h⟩ := Option.bind_eq_some_iff.1 h
            split at h
            · exact ih _ _ h
            · split at h
              · split at h
                · obtain ⟨b3, _, h⟩ := Option.bind_eq_some_iff.1 h
                  split at h
                  · exact ih _ _ h
                  · cases h
                · cases h
              · cases h
        · cases h
      · cases h
    · split at h
      · cases h
      · simpa using h
theorem abbr_60 {s : ByteArray} {K : Nat} (h : rule_IsAbbr.f K s = some true) : rule_IsAbbr.f 60 s = some true := by
  have hsz : (s.size : Int) ≤ 8 := by
    unfold rule_IsAbbr.f at h
    obtain ⟨b, hb, h⟩ := Option.bind_eq_some_iff.1 h
    cases h
    exact all_size s 8 _ K _ _ hb
  obtain ⟨b, hb⟩ := IsAbbr_total s (by omega) 60 (by omega)
  have h1 := fuel_le (fun k => rule_IsAbbr.f k s) (fun k => rule_IsAbbr.mono s k) (Nat.le_max_left 60 K) hb
  have h2 := fuel_le (fun k => rule_IsAbbr.f k s) (fun k => rule_IsAbbr.mono s k) (Nat.le_max_right 60 K) h
  rw [hb]
  exact h1.symm.trans h2
theorem name_years : rule_IsName.f 60 ⟨#[121, 101, 97, 114, 115]⟩ = some true := by kernel_rfl
theorem within_f (a b c : Int) (h0 : b ≤ a) (h1 : a ≤ c) : rule_within.f a b c = some true := by
  unfold rule_within.f
  rw [if_pos h0, decide_eq_true h1]
theorem ruleCheck_f {t : S37} {r : S59} (h : YearOk t r) : rule_Check.f 60 r.f0 r.f1 r.f2 r.f3 r.f4.f0 r.f4.f1 r.f4.f2 r.f5 r.f6 r.f7 r.f8 = some 0 := by
  have h2 := monthLen_le 1901 r.f3 h.m0 h.m1
  have a3 := h.d2
  have a4 := h.d3
  have a5 := h.a0
  have a6 := h.a1
  have hj : rule_Check.j0 60 false r.f0 r.f1 r.f2 r.f3 r.f4.f0 r.f4.f1 r.f4.f2 r.f5 r.f6 r.f7 r.f8 = some 0 := by
    simp only [rule_Check.j0]
    rw [h.f2, within_f _ _ _ h.y0 h.y1]
    simp only [Option.bind_some, if_true, Bool.false_eq_true, if_false]
    rw [within_f _ _ _ (Int.le_refl _) h.y1]
    simp only [Option.bind_some, if_true]
    rw [within_f _ _ _ h.m0 h.m1]
    simp only [Option.bind_some, if_true]
    rw [h.d0, h.d1, dayCheck_f _ _ a3 (by omega)]
    simp only [Option.bind_some, if_true]
    rw [Length_f 1901 _ (by decide) (by decide) h.m0 h.m1]
    simp only [Option.bind_some]
    rw [if_neg (by omega), within_f _ _ _ (by omega) (by omega)]
    simp only [Option.bind_some, if_true]
    rw [h.f6, within_f _ _ _ (by decide) (by decide)]
    simp only [Option.bind_some, if_true]
    rw [within_f _ _ _ h.s0 h.s1]
    simp only [Option.bind_some, if_true]
  unfold rule_Check.f
  rw [h.f0, name_years, ← h.f0]
  simp only [Option.bind_some, if_true]
  rcases h.ab with hl | ⟨K, hl⟩
  · rw [if_pos hl]
    exact hj
  · by_cases hl2 : r.f8.toList = ([45] : List UInt8)
    · rw [if_pos hl2]
      exact hj
    · rw [if_neg hl2, abbr_60 hl]
      exact hj
theorem rulesFit_f {l0 : List S37} {out : List S59} (h : YearsOk l0 out) (hn : l0.length ≤ 40) : RulesFit out [] [] :=
  ⟨by rw [h.len]; exact hn, rfl, rfl, fun i g0 g1 => ruleCheck_f (h.each i g0 (by rw [← h.len]; exact g1))⟩
theorem EqTurn_f (l0 : List S37) (hn : l0.length ≤ 40) (k : Nat) (hk : l0.length < k) : timeballref_Eq_Turn.f k l0 l0 = some true := by
  have key : ∀ (d : Nat) (i : Int) (k : Nat), 0 ≤ i → i + d = l0.length → d < k → timeballref_Eq_Turn.l0 k l0 l0 (l0.length : Int) i = some true := by
    intro d
    induction d with
    | zero =>
      intro i k h0 h1 h2
      obtain ⟨k, rfl⟩ : ∃ m, k = m + 1 := ⟨k - 1, by omega⟩
      simp only [timeballref_Eq_Turn.l0]
      rw [if_neg (by omega)]
    | succ d ih =>
      intro i k h0 h1 h2
      obtain ⟨k, rfl⟩ : ∃ m, k = m + 1 := ⟨k - 1, by omega⟩
      simp only [timeballref_Eq_Turn.l0]
      rw [if_pos (by omega), if_pos h0, if_pos (by omega), if_pos (by omega), IntWalk.wrap64_in (i + 1) (by omega)]
      simp only [beq_self_eq_true, Bool.not_true, Bool.or_self, Bool.false_eq_true, if_false]
      exact ih (i + 1) k (by omega) (by omega) (by omega)
  unfold timeballref_Eq_Turn.f
  rw [if_pos rfl]
  exact key l0.length 0 k (by omega) (by omega) hk
theorem Rest_f (a : Int) (h0 : -9223372036854775808 ≤ a) (h1 : a ≤ 9223372036854775807) : ∃ r, timeballref_Rest.f a 129601 = some r ∧ 0 ≤ r ∧ r ≤ 129600 := by
  unfold timeballref_Rest.f
  rw [if_neg (by decide)]
  have hlt : Int.tmod a 129601 < 129601 := Int.tmod_lt_of_pos a (by decide)
  have hgt : -129601 < Int.tmod a 129601 := by
    have := Int.lt_tmod_of_pos a (by decide : (0 : Int) < 129601)
    omega
  generalize Int.tmod a 129601 = r at *
  by_cases hn : r < 0
  · exact ⟨r + 129601, by rw [if_pos hn, IntWalk.wrap64_in _ (by omega)], by omega, by omega⟩
  · exact ⟨r, by rw [if_neg hn], by omega, by omega⟩
theorem backed_f : timeballkeep_backed.f 60 = some true := by kernel_rfl
theorem turnsOf_f {l0 : List S37} {out : List S59} (h : YearsOk l0 out) (hn : l0.length ≤ 40) (h0 : 0 < l0.length) (a : Int) (g0 : -64800 ≤ a) (g1 : a ≤ 64800) : turns_Of.f out [] [] ⟨#[121, 101, 97, 114, 115]⟩ a = some (l0, 0) := by
  unfold turns_Of.f book_Check.f turns_Make.f
  rw [if_pos (rulesFit_f h hn)]
  simp only [Option.bind_some, if_true]
  rw [if_neg (by omega), if_neg (by omega), if_pos (turnsFit_f h hn h0)]
  simp only [Option.bind_some]
  rw [mapTurn_f h]
theorem BackTurns_f (l0 : List S37) (a1 : Int) (ha0 : -9223372036854775808 ≤ a1) (ha1 : a1 ≤ 9223372036854775807) (K : Nat) (hI : ∀ i : Int, 0 ≤ i → i < l0.length → -9223372036854775808 ≤ (rd_T37 l0 i).f0 ∧ (rd_T37 l0 i).f0 ≤ 9223372036854775807) (hs : ∀ i : Int, 0 ≤ i → i < l0.length → (rd_T37 l0 i).f2.size ≤ 9223372036854775807 ∧ (rd_T37 l0 i).f2.size ≤ K) :
    timeballkeep_BackTurns.f (K + 301) l0 a1 = some true := by
  unfold timeballkeep_BackTurns.f
  rw [fuel_le (fun k => timeballkeep_backed.f k) timeballkeep_backed.mono (by omega : 60 ≤ K + 301) backed_f]
  simp only [Option.bind_some, if_true]
  obtain ⟨r, hr, r0, r1⟩ := Rest_f a1 ha0 ha1
  rw [hr]
  simp only [Option.bind_some]
  obtain ⟨out, e, ho, hc⟩ := Years_f l0 K hI hs (K + 301) (by omega)
  rw [ho, IntWalk.wrap64_in (r - 64800) (by omega)]
  simp only [Option.bind_some]
  rcases hc with ⟨h1, h2⟩ | ⟨h1, h2, h3⟩
  · rw [if_neg h1, h2]
    simp only [timeballkeep_BackTurns.j0]
    rfl
  · rw [if_pos h1]
    simp only [timeballkeep_BackTurns.j0]
    by_cases h4 : l0.length = 0
    · have hl := h3.len
      rw [h4] at hl ⊢
      rw [if_pos (by rfl), hl]
      rfl
    · rw [if_neg (by simp; exact fun h => h4 (by rw [h]; rfl)), turnsOf_f h3 h2 (by omega) _ (by omega) (by omega)]
      simp only [Option.bind_some, if_true]
      rw [EqTurn_f l0 h2 _ (by omega)]
      rfl
end Go.Proofs.YteemhjamlkipcaaDoor.PT
end
