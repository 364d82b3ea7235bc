/- Part 35 of 36 of the proof of bookAbbr_holds. What it holds was printed or written for this claim, text by text, and merged. -/
import Derived.Test.YtmgnnplcnmhbaaaGreatDoorZ34
import Derived.Test.YtmgnnplcnmhbaaaGreatDoorZ29
import Derived.Test.YtmgnnplcnmhbaaaGreatDoorZ3
import Derived.Lib.CutLaws
section
namespace Go.Proofs.YtmgnnplcnmhbaaaGreatDoor.PT
open Go.RowKit Go.Proofs.YtmgnnplcnmhbaaaGreatDoorW.PrintWords Go.Proofs.YtmgnnplcnmhbaaaGreatDoorW.PrintLast Go.Proofs.YtmgnnplcnmhbaaaGreatDoorW.PrintMore
set_option linter.unusedVariables false
set_option linter.unusedSimpArgs false
def isLet (n : Nat) : Bool := decide ((97 ≤ n ∧ n ≤ 122) ∨ (65 ≤ n ∧ n ≤ 90))
def isDig (n : Nat) : Bool := decide (48 ≤ n ∧ n ≤ 57)
def okc (c : UInt8) : Bool := isLet c.toNat || isDig c.toNat || c == 43 || c == 45
def Short (l : List UInt8) : Prop := l.all okc = true ∧ l ≠ [] ∧ l.length ≤ 8
theorem isLetter_f (n : Nat) : rule_isLetter.f (n : Int) = some (isLet n) := by
  unfold rule_isLetter.f isLet
  split
  · split
    · rw [decide_eq_true (by omega)]
    · split
      · congr 1
        exact decide_eq_decide.mpr (by omega)
      · omega
  · split
    · congr 1
      exact decide_eq_decide.mpr (by omega)
    · rw [decide_eq_false (by omega)]
theorem isDigit_f (n : Nat) : rule_isDigit.f (n : Int) = some (isDig n) := by
  unfold rule_isDigit.f isDig
  split
  · congr 1
    exact decide_eq_decide.mpr (by omega)
  · rw [decide_eq_false (by omega)]
theorem bt_get (s : ByteArray) (i : Nat) (h : i < s.data.toList.length) : bt s (i : Int) = ((s.data.toList[i]'h).toNat : Int) := by
  have hs : i < s.size := by rw [← data_length]; exact h
  unfold bt
  simp only [Int.toNat_natCast]
  rw [dif_pos hs]
  rfl
theorem has_sign (c : UInt8) : Lib.contains [43, 45] [c] = (c == 43 || c == 45) := by
  unfold Lib.contains Lib.index Lib.index Lib.index
  by_cases h1 : c = 43
  · subst h1; rfl
  · by_cases h2 : c = 45
    · subst h2; rfl
    · have e1 : (c == 43) = false := beq_eq_false_iff_ne.mpr h1
      have e2 : (c == 45) = false := beq_eq_false_iff_ne.mpr h2
      simp [List.isPrefixOf, e1, e2, List.isEmpty]
theorem extract_one (s : ByteArray) (i : Nat) (h : i < s.data.toList.length) : (s.extract i (i + 1)).data.toList = [s.data.toList[i]'h] := by
  have hs : i < s.data.size := by simpa using h
  rw [ByteArray.data_extract]
  apply List.ext_getElem?
  intro j
  rw [Array.getElem?_toList, Array.getElem?_extract]
  match j with
  | 0 =>
    rw [if_pos (by omega)]
    simp [hs]
  | j + 1 =>
    rw [if_neg (by omega)]
    simp
theorem all_spec (s : ByteArray) (M : Int) (hs : s.size ≤ 9223372036854775806) : ∀ (k i : Nat), i ≤ s.size → ∀ b, rule_all.l0 k s M ⟨#[43, 45]⟩ (s.size : Int) (i : Int) = some b →
    (b = true ↔ (s.data.toList.drop i).all okc = true ∧ s.toList ≠ [] ∧ (s.size : Int) ≤ M) := by
  intro k
  induction k with
  | zero => intro i hi b h; simp [rule_all.l0] at h
  | succ k ih =>
    intro i hi b h
    simp only [rule_all.l0] at h
    have hlen := data_length s
    by_cases hlt : i < s.size
    · have hl : i < s.data.toList.length := by omega
      rw [if_pos (by omega), if_pos (by omega), if_pos (by omega), bt_get s i hl, isLetter_f, isDigit_f, IntWalk.wrap64_in _ (by omega)] at h
      simp only [Option.bind_some] at h
      have hnext := ih (i + 1) (by omega)
      rw [show ((i + 1 : Nat) : Int) = (i : Int) + 1 from rfl] at hnext
      rw [List.drop_eq_getElem_cons hl, List.all_cons, Bool.and_eq_true]
      by_cases h1 : isLet (s.data.toList[i]'hl).toNat = true
      · rw [if_pos h1] at h
        rw [hnext b h]
        have : okc (s.data.toList[i]'hl) = true := by unfold okc; rw [h1]; rfl
        simp only [this, true_and]
      · rw [if_neg h1] at h
        by_cases h2 : isDig (s.data.toList[i]'hl).toNat = true
        · rw [if_pos h2] at h
          rw [hnext b h]
          have : okc (s.data.toList[i]'hl) = true := by unfold okc; rw [h2]; simp
          simp only [this, true_and]
        · rw [if_neg h2, if_pos (by omega), if_pos (by omega)] at h
          unfold strings_Contains.f at h
          rw [if_pos (by decide)] at h
          rw [show (((i : Int)).toNat) = i from Int.toNat_natCast i, show ((i : Int) + 1).toNat = i + 1 by omega, extract_one s i hl] at h
          simp only [Option.bind_some] at h
          rw [has_sign] at h
          by_cases h3 : (s.data.toList[i]'hl == 43 || s.data.toList[i]'hl == 45) = true
          · rw [if_pos h3] at h
            rw [hnext b h]
            have : okc (s.data.toList[i]'hl) = true := by unfold okc; rw [Bool.or_assoc, h3]; simp
            simp only [this, true_and]
          · rw [if_neg h3] at h
            obtain rfl := Option.some.inj h
            have : okc (s.data.toList[i]'hl) = false := by
              unfold okc
              rw [Bool.or_assoc, Bool.eq_false_iff.mpr h1, Bool.eq_false_iff.mpr h2, Bool.eq_false_iff.mpr h3]
              rfl
            simp only [this, Bool.false_eq_true, false_and]
    · rw [if_neg (by omega)] at h
      have hd : s.data.toList.drop i = [] := List.drop_eq_nil_of_le (by omega)
      rw [hd]
      by_cases h0 : s.toList = ([] : List UInt8)
      · rw [if_pos h0] at h
        obtain rfl := Option.some.inj h
        simp [h0]
      · rw [if_neg h0] at h
        obtain rfl := Option.some.inj h
        simp [h0]
theorem toList_data (s : ByteArray) : s.toList = s.data.toList := by
  exact ByteArray.toList_eq s
theorem abbr_spec (s : ByteArray) (hs : s.size ≤ 9223372036854775806) (k : Nat) (b : Bool) (h : rule_IsAbbr.f k s = some b) : b = true ↔ Short s.data.toList := by
  unfold rule_IsAbbr.f rule_all.f at h
  obtain ⟨b', hb, h⟩ := Option.bind_eq_some_iff.mp h
  obtain rfl := Option.some.inj h
  have := all_spec s 8 hs k 0 (Nat.zero_le _) b' hb
  rw [this, List.drop_zero, toList_data]
  have hl := data_length s
  unfold Short
  constructor
  · rintro ⟨h1, h2, h3⟩
    exact ⟨h1, h2, by omega⟩
  · rintro ⟨h1, h2, h3⟩
    exact ⟨h1, h2, by omega⟩
theorem index_miss (c : UInt8) : ∀ l : List UInt8, c ∉ l → Lib.index l [c] = -1
  | [], _ => rfl
  | b :: l, h => by
    have hb : (c == b) = false := beq_eq_false_iff_ne.mpr (fun e => h (e ▸ List.mem_cons_self ..))
    unfold Lib.index
    rw [index_miss c l (fun hm => h (List.mem_cons_of_mem _ hm))]
    simp [List.isPrefixOf, hb]
theorem index_hit (c : UInt8) : ∀ (la lb : List UInt8), c ∉ la → Lib.index (la ++ c :: lb) [c] = (la.length : Int)
  | [], lb, _ => by unfold Lib.index; simp [List.isPrefixOf]
  | b :: la, lb, h => by
    have hb : (c == b) = false := beq_eq_false_iff_ne.mpr (fun e => h (e ▸ List.mem_cons_self ..))
    have ih := index_hit c la lb (fun hm => h (List.mem_cons_of_mem _ hm))
    rw [List.cons_append]
    unfold Lib.index
    rw [ih]
    have : ((la.length : Int) == -1) = false := beq_eq_false_iff_ne.mpr (by omega)
    simp [List.isPrefixOf, hb, this]
theorem cut_miss (c : UInt8) (l : List UInt8) (h : c ∉ l) : Lib.cut l [c] = (l, [], false) := by
  unfold Lib.cut
  rw [index_miss c l h, if_neg (by decide)]
theorem cut_hit (c : UInt8) (la lb : List UInt8) (h : c ∉ la) : Lib.cut (la ++ c :: lb) [c] = (la, lb, true) := by
  unfold Lib.cut
  rw [index_hit c la lb h, if_pos (by omega)]
  simp
theorem cut_f (s : ByteArray) (c : UInt8) (hs : s.size < 4294967281) : strings_Cut.f s ⟨#[c]⟩ = some (⟨(Lib.cut s.data.toList [c]).1.toArray⟩, ⟨(Lib.cut s.data.toList [c]).2.1.toArray⟩, (Lib.cut s.data.toList [c]).2.2) := by
  unfold strings_Cut.f
  rw [if_pos hs]
theorem split_eq (k : Nat) (s : ByteArray) (h12 : s.size ≤ 12) : book_split.f (k + 3) s = (strings_Cut.f s ⟨#[47]⟩).bind fun c1 => if c1.2.2 = true then (rule_IsAbbr.f (k + 2) c1.1).bind fun t => (if t = true then (rule_IsAbbr.f (k + 2) c1.2.1).bind fun u => some (c1.1, c1.2.1, ⟨#[47]⟩, u) else some (c1.1, c1.2.1, ⟨#[47]⟩, false))
    else (strings_Cut.f s ⟨#[37]⟩).bind fun c2 => if c2.2.2 = true then (if c2.1.size + c2.2.1.size ≤ 9223372036854775807 then (if (c2.1 ++ c2.2.1).toList = ([] : List UInt8) then some (c2.1, c2.2.1, ⟨#[37]⟩, true) else (if ((c2.1 ++ c2.2.1).size : Int) ≤ 8 then (rule_IsAbbr.f (k + 1) (c2.1 ++ c2.2.1)).bind fun u => some (c2.1, c2.2.1, ⟨#[37]⟩, u) else some (c2.1, c2.2.1, ⟨#[37]⟩, false))) else none)
      else (rule_IsAbbr.f k s).bind fun u => some (s, ⟨#[]⟩, ⟨#[]⟩, u) := by
  unfold book_split.f
  rw [if_neg (by omega)]
  have f1 : (⟨#[47]⟩ : ByteArray).toList = [47] := by decide +kernel
  have f2 : (⟨#[37]⟩ : ByteArray).toList = [37] := by decide +kernel
  simp [book_split.l0, rdOf, wrap64, f1, f2]
theorem data_app (a b : ByteArray) : (a ++ b).data.toList = a.data.toList ++ b.data.toList := by simp [ByteArray.data_append]
theorem j1_spec {k : Nat} {x y : ByteArray} {e : Int} (h : book_Abbr.j1 (k + 1) x = some (y, e)) (he : e = 0) : y = x ∧ x.data.toList.length ≤ 8 ∧ x.data.toList ≠ [] := by
  subst he
  simp only [book_Abbr.j1] at h
  rw [data_length]
  split at h
  · simp at h
  · split at h
    · simp at h
    · rename_i h1 h2
      rw [toList_data] at h2
      have h3 : x = y := by simpa using h
      exact ⟨h3.symm, by omega, h2⟩
theorem okc_slash : okc 47 = false := by decide
theorem okc_percent : okc 37 = false := by decide
theorem not_short {c : UInt8} {l : List UInt8} (hc : okc c = false) (h : c ∈ l) : ¬ Short l := fun hs => by
  have := List.all_eq_true.1 hs.1 c h
  rw [hc] at this
  cases this
theorem within_of {a lo hi : Int} {b : Bool} (h : book_within.f a lo hi = some b) (hb : b = true) : lo ≤ a ∧ a ≤ hi := by
  subst hb
  unfold book_within.f at h
  split at h
  · have : a ≤ hi := by simpa using h
    omega
  · cases h
theorem abbr_main (k : Nat) (s : ByteArray) (save : Int) (letter x : ByteArray) (hl : letter.size ≤ 9223372036854775806) (hsv : 1 ≤ save) (h : book_Abbr.f (k + 5) s save letter = some (x, 0)) : Short x.data.toList ∧ (Short s.data.toList → x = s) := by
  unfold book_Abbr.f at h
  obtain ⟨⟨a, b, sg, ok⟩, hsp, h⟩ := Option.bind_eq_some_iff.mp h
  dsimp only at h
  by_cases h12 : s.size ≤ 12
  case neg =>
    unfold book_split.f at hsp
    rw [if_pos (by omega)] at hsp
    obtain ⟨rfl, rfl, rfl, rfl⟩ : _ ∧ _ ∧ _ ∧ _ := by simpa using hsp
    rw [if_neg (by decide)] at h
    simp [book_Abbr.j0] at h
  rw [split_eq (k + 2) s h12] at hsp
  have hfin : ∀ (ok : Bool), (if ok = true then ((book_isLetter.f (k + 5) letter).bind fun t289 => (book_Abbr.j0 (k + 5) save letter a b sg (!t289))) else (book_Abbr.j0 (k + 5) save letter a b sg true)) = some (x, 0) → ok = true ∧ book_isLetter.f (k + 5) letter = some true ∧ (0 ≤ save ∧ save ≤ 10800) ∧ (if sg.toList = ([47] : List UInt8) then book_Abbr.j1 (k + 4) b else if sg.toList = ([37] : List UInt8) then (if letter.toList = ([45] : List UInt8) then book_Abbr.j1 (k + 4) (a ++ (⟨#[]⟩ ++ b)) else book_Abbr.j1 (k + 4) (a ++ (letter ++ b))) else book_Abbr.j1 (k + 4) a) = some (x, 0) := by
    intro ok h
    cases ok with
    | false =>
      rw [if_neg (by decide)] at h
      simp [book_Abbr.j0] at h
    | true =>
      rw [if_pos rfl] at h
      obtain ⟨t, ht, h⟩ := Option.bind_eq_some_iff.mp h
      cases t with
      | false => simp [book_Abbr.j0] at h
      | true =>
        refine ⟨rfl, ht, ?_⟩
        simp only [book_Abbr.j0, Bool.not_true, Bool.false_eq_true, if_false] at h
        obtain ⟨t, htw, h⟩ := Option.bind_eq_some_iff.mp h
        cases t with
        | false => simp at h
        | true =>
          refine ⟨within_of htw rfl, ?_⟩
          rw [if_pos rfl] at h
          by_cases g1 : sg.toList = ([47] : List UInt8)
          · rw [if_pos g1, if_neg (by omega)] at h
            rw [if_pos g1]
            exact h
          · rw [if_neg g1] at h ⊢
            by_cases g2 : sg.toList = ([37] : List UInt8)
            · rw [if_pos g2] at h ⊢
              by_cases g3 : letter.toList = ([45] : List UInt8)
              · rw [if_pos g3] at h ⊢
                split at h
                · split at h
                  · exact h
                  · cases h
                · cases h
              · rw [if_neg g3] at h ⊢
                split at h
                · split at h
                  · exact h
                  · cases h
                · cases h
            · rw [if_neg g2] at h ⊢
              exact h
  obtain ⟨hok, hlet, hwi, hj⟩ := hfin ok h
  subst hok
  clear hfin h
  have f1 : (⟨#[47]⟩ : ByteArray).toList = [47] := by decide +kernel
  have f2 : (⟨#[37]⟩ : ByteArray).toList = [37] := by decide +kernel
  have f3 : (⟨#[]⟩ : ByteArray).toList = [] := by decide +kernel
  have hLs := data_length s
  rw [cut_f s 47 (by omega)] at hsp
  simp only [Option.bind_some] at hsp
  by_cases m1 : (47 : UInt8) ∈ s.data.toList
  · obtain ⟨la, lb, hL, hna⟩ := List.eq_append_cons_of_mem m1
    rw [hL, cut_hit 47 la lb hna] at hsp
    simp only [if_true] at hsp
    obtain ⟨u, hu, hsp⟩ := Option.bind_eq_some_iff.mp hsp
    cases u with
    | false => simp at hsp
    | true =>
      simp only [if_true] at hsp
      obtain ⟨v, hv, hsp⟩ := Option.bind_eq_some_iff.mp hsp
      obtain ⟨rfl, rfl, rfl, rfl⟩ : _ ∧ _ ∧ _ ∧ _ := by simpa using hsp
      have hlen : la.length + (lb.length + 1) = s.size := by rw [← hLs, hL]; simp
      have hb := (abbr_spec _ (by simp [ByteArray.size]; omega) _ _ hv).mp rfl
      rw [if_pos f1] at hj
      obtain ⟨rfl, _, _⟩ := j1_spec hj rfl
      exact ⟨by simpa using hb, fun hs => absurd hs (not_short okc_slash m1)⟩
  · rw [cut_miss 47 _ m1, cut_f s 37 (by omega)] at hsp
    simp only [Bool.false_eq_true, if_false, Option.bind_some] at hsp
    by_cases m2 : (37 : UInt8) ∈ s.data.toList
    · obtain ⟨la, lb, hL, hna⟩ := List.eq_append_cons_of_mem m2
      rw [hL, cut_hit 37 la lb hna] at hsp
      simp only [if_true] at hsp
      have hlen : la.length + (lb.length + 1) = s.size := by rw [← hLs, hL]; simp
      refine ⟨?_, fun hs => absurd hs (not_short okc_percent m2)⟩
      have key : ∀ le : ByteArray, (le.data.toList.all okc = true) → (la ++ lb).all okc = true → book_Abbr.j1 (k + 4) ((⟨la.toArray⟩ : ByteArray) ++ (le ++ ⟨lb.toArray⟩)) = some (x, 0) → Short x.data.toList := by
        intro le h1 h2 h3
        obtain ⟨rfl, h4, h5⟩ := j1_spec h3 rfl
        refine ⟨?_, h5, h4⟩
        rw [data_app, data_app]
        simp only [List.all_append, Bool.and_eq_true] at h2 ⊢
        exact ⟨h2.1, h1, h2.2⟩
      have hle : letter.toList = ([45] : List UInt8) ∨ letter.data.toList.all okc = true := by
        unfold book_isLetter.f at hlet
        split at hlet
        · exact .inl (by assumption)
        · obtain ⟨v, hv, hlet⟩ := Option.bind_eq_some_iff.mp hlet
          obtain rfl := Option.some.inj hlet
          exact .inr ((abbr_spec _ hl _ _ hv).mp rfl).1
      rw [if_pos (by simp [ByteArray.size]; omega)] at hsp
      have hall : (la ++ lb).all okc = true ∧ (⟨la.toArray⟩ : ByteArray) = a ∧ (⟨lb.toArray⟩ : ByteArray) = b ∧ (⟨#[37]⟩ : ByteArray) = sg := by
        split at hsp
        · rename_i h0
          obtain ⟨rfl, rfl, rfl⟩ : _ ∧ _ ∧ _ := by simpa using hsp
          rw [toList_data, data_app] at h0
          have h0' : la ++ lb = [] := h0
          exact ⟨by rw [h0']; rfl, rfl, rfl, rfl⟩
        · split at hsp
          · obtain ⟨v, hv, hsp⟩ := Option.bind_eq_some_iff.mp hsp
            obtain ⟨rfl, rfl, rfl, rfl⟩ : _ ∧ _ ∧ _ ∧ _ := by simpa using hsp
            have hb := (abbr_spec _ (by simp [ByteArray.size]; omega) _ _ hv).mp rfl
            rw [data_app] at hb
            exact ⟨hb.1, rfl, rfl, rfl⟩
          · simp at hsp
      obtain ⟨hall, rfl, rfl, rfl⟩ := hall
      rw [if_neg (by rw [f2]; decide), if_pos f2] at hj
      by_cases g3 : letter.toList = ([45] : List UInt8)
      · rw [if_pos g3] at hj
        exact key ⟨#[]⟩ rfl hall hj
      · rw [if_neg g3] at hj
        rcases hle with h | h
        · exact absurd h g3
        · exact key letter h hall hj
    · rw [cut_miss 37 _ m2] at hsp
      simp only [Bool.false_eq_true, if_false] at hsp
      obtain ⟨v, hv, hsp⟩ := Option.bind_eq_some_iff.mp hsp
      obtain ⟨rfl, rfl, rfl, rfl⟩ : _ ∧ _ ∧ _ ∧ _ := by simpa using hsp
      have hb := (abbr_spec _ (by omega) _ _ hv).mp rfl
      rw [if_neg (by rw [f3]; decide), if_neg (by rw [f3]; decide)] at hj
      obtain ⟨rfl, _, _⟩ := j1_spec hj rfl
      exact ⟨hb, fun _ => rfl⟩
theorem isLetter_tot (c : Int) : ∃ b, rule_isLetter.f c = some b := by
  unfold rule_isLetter.f
  repeat' split
  all_goals exact ⟨_, rfl⟩
theorem isDigit_tot (c : Int) : ∃ b, rule_isDigit.f c = some b := by
  unfold rule_isDigit.f
  repeat' split
  all_goals exact ⟨_, rfl⟩
theorem all_tot (s : ByteArray) (M : Int) (x : ByteArray) (hx : x.size < 4294967281) (hs : s.size ≤ 9223372036854775807) : ∀ (d : Nat) (i : Int) (k : Nat), 0 ≤ i → i + d = s.size → d < k → ∃ b, rule_all.l0 k s M x (s.size : Int) i = some b := by
  intro d
  induction d with
  | zero =>
    intro i k h0 h1 h2
    obtain ⟨k, rfl⟩ : ∃ m, k = m + 1 := ⟨k - 1, by omega⟩
    simp only [rule_all.l0]
    rw [if_neg (by omega)]
    split <;> exact ⟨_, rfl⟩
  | succ d ih =>
    intro i k h0 h1 h2
    obtain ⟨k, rfl⟩ : ∃ m, k = m + 1 := ⟨k - 1, by omega⟩
    have e : wrap64 (i + 1) = i + 1 := IntWalk.wrap64_in _ (by omega)
    obtain ⟨b, hb⟩ := ih (i + 1) k (by omega) (by omega) (by omega)
    obtain ⟨b1, hb1⟩ := isLetter_tot (bt s i)
    obtain ⟨b2, hb2⟩ := isDigit_tot (bt s i)
    simp only [rule_all.l0]
    rw [if_pos (by omega), if_pos h0, if_pos (by omega), hb1, e]
    simp only [Option.bind_some]
    split
    · exact ⟨b, hb⟩
    · rw [hb2]
      simp only [Option.bind_some]
      split
      · exact ⟨b, hb⟩
      · rw [if_pos (by omega), if_pos (by omega)]
        unfold strings_Contains.f
        rw [if_pos hx]
        simp only [Option.bind_some]
        split
        · exact ⟨b, hb⟩
        · exact ⟨_, rfl⟩
theorem IsAbbr_tot (s : ByteArray) (hs : s.size ≤ 9223372036854775807) (k : Nat) (hk : s.size < k) : ∃ b, rule_IsAbbr.f k s = some b := by
  obtain ⟨b, hb⟩ := all_tot s 8 ⟨#[43, 45]⟩ (by decide) hs s.size 0 k (by omega) (by omega) hk
  refine ⟨b, ?_⟩
  unfold rule_IsAbbr.f rule_all.f
  rw [hb]
  rfl
theorem isAbbr_yes (s : ByteArray) (h : Short s.data.toList) (k : Nat) (hk : s.size < k) : rule_IsAbbr.f k s = some true := by
  have hl := data_length s
  have h8 := h.2.2
  obtain ⟨b, hb⟩ := IsAbbr_tot s (by omega) k hk
  rw [hb, (abbr_spec s (by omega) k b hb).mpr h]
theorem isLetter_dash (k : Nat) : book_isLetter.f k ⟨#[45]⟩ = some true := by
  unfold book_isLetter.f
  rw [if_pos (by decide +kernel)]
theorem within_ok {a : Int} (h0 : 0 ≤ a) (h1 : a ≤ 10800) : book_within.f a 0 10800 = some true := by
  unfold book_within.f
  rw [if_pos h0, decide_eq_true h1]
theorem abbr_two (k : Nat) (a b : ByteArray) (save : Int) (ha : Short a.data.toList) (hb : Short b.data.toList) (hsz : a.size + b.size ≤ 11) (h0 : 0 ≤ save) (h1 : save ≤ 10800) : book_Abbr.f (k + 20) ((a ++ ⟨#[47]⟩) ++ b) save ⟨#[45]⟩ = some (if save = 0 then a else b, 0) := by
  have hla := data_length a
  have hlb := data_length b
  have ha8 := ha.2.2
  have hb8 := hb.2.2
  have hd : ((a ++ ⟨#[47]⟩) ++ b).data.toList = a.data.toList ++ 47 :: b.data.toList := by
    rw [data_app, data_app]
    simp
  have hsize : ((a ++ ⟨#[47]⟩) ++ b).size = a.size + 1 + b.size := by
    rw [← data_length, hd, List.length_append, List.length_cons]
    omega
  have hna : (47 : UInt8) ∉ a.data.toList := fun h => not_short okc_slash h ha
  have f1 : (⟨#[47]⟩ : ByteArray).toList = [47] := by decide +kernel
  have ea : (⟨a.data.toList.toArray⟩ : ByteArray) = a := by simp
  have eb : (⟨b.data.toList.toArray⟩ : ByteArray) = b := by simp
  have hj : ∀ x : ByteArray, Short x.data.toList → book_Abbr.j1 (k + 19) x = some (x, 0) := by
    intro x hx
    have hlx := data_length x
    have hx8 := hx.2.2
    simp only [book_Abbr.j1]
    rw [if_neg (by omega), if_neg (by rw [toList_data]; exact hx.2.1)]
  unfold book_Abbr.f
  rw [split_eq (k + 17) _ (by omega), cut_f _ 47 (by omega), hd, cut_hit 47 _ _ hna, ea, eb]
  simp only [Option.bind_some, if_true]
  rw [isAbbr_yes a ha _ (by omega)]
  simp only [Option.bind_some, if_true]
  rw [isAbbr_yes b hb _ (by omega)]
  simp only [Option.bind_some, if_true]
  rw [isLetter_dash]
  simp only [Option.bind_some, book_Abbr.j0, Bool.not_true, Bool.false_eq_true, if_false]
  rw [within_ok h0 h1]
  simp only [Option.bind_some, if_true]
  rw [if_pos f1]
  by_cases hs : save = 0
  · rw [if_pos hs, if_pos hs]
    exact hj a ha
  · rw [if_neg hs, if_neg hs]
    exact hj b hb
theorem split_tot (k : Nat) (s : ByteArray) : ∃ r, book_split.f (k + 20) s = some r ∧ r.1.size ≤ 12 ∧ r.2.1.size ≤ 12 := by
  have q5 : (⟨#[]⟩ : ByteArray).size = 0 := rfl
  by_cases h12 : s.size ≤ 12
  · rw [split_eq (k + 17) s h12, cut_f s 47 (by omega), cut_f s 37 (by omega)]
    have hls := data_length s
    simp only [Option.bind_some]
    have htk : ∀ c : UInt8, (Lib.cut s.data.toList [c]).1.length + (Lib.cut s.data.toList [c]).2.1.length ≤ s.size := by
      intro c
      by_cases m : c ∈ s.data.toList
      · obtain ⟨la, lb, hL, hna⟩ := List.eq_append_cons_of_mem m
        rw [hL, cut_hit c la lb hna]
        have : s.size = la.length + (lb.length + 1) := by rw [← hls, hL]; simp
        dsimp only
        omega
      · rw [cut_miss c _ m]
        simp
    have t1 := htk 47
    have t2 := htk 37
    generalize Lib.cut s.data.toList [47] = c1 at t1
    generalize Lib.cut s.data.toList [37] = c2 at t2
    have q1 : (⟨c1.1.toArray⟩ : ByteArray).size = c1.1.length := by simp [ByteArray.size]
    have q2 : (⟨c1.2.1.toArray⟩ : ByteArray).size = c1.2.1.length := by simp [ByteArray.size]
    have q3 : (⟨c2.1.toArray⟩ : ByteArray).size = c2.1.length := by simp [ByteArray.size]
    have q4 : (⟨c2.2.1.toArray⟩ : ByteArray).size = c2.2.1.length := by simp [ByteArray.size]
    split
    · obtain ⟨u, hu⟩ := IsAbbr_tot ⟨c1.1.toArray⟩ (by omega) (k + 17 + 2) (by omega)
      rw [hu]
      simp only [Option.bind_some]
      split
      · obtain ⟨v, hv⟩ := IsAbbr_tot ⟨c1.2.1.toArray⟩ (by omega) (k + 17 + 2) (by omega)
        rw [hv]
        exact ⟨_, rfl, by dsimp only; omega, by dsimp only; omega⟩
      · exact ⟨_, rfl, by dsimp only; omega, by dsimp only; omega⟩
    · split
      · rw [if_pos (by omega)]
        split
        · exact ⟨_, rfl, by dsimp only; omega, by dsimp only; omega⟩
        · split
          · obtain ⟨v, hv⟩ := IsAbbr_tot (⟨c2.1.toArray⟩ ++ ⟨c2.2.1.toArray⟩) (by omega) (k + 17 + 1) (by omega)
            rw [hv]
            exact ⟨_, rfl, by dsimp only; omega, by dsimp only; omega⟩
          · exact ⟨_, rfl, by dsimp only; omega, by dsimp only; omega⟩
      · obtain ⟨v, hv⟩ := IsAbbr_tot s (by omega) (k + 17) (by omega)
        rw [hv]
        exact ⟨_, rfl, by dsimp only; omega, by dsimp only; omega⟩
  · unfold book_split.f
    rw [if_pos (by omega)]
    exact ⟨_, rfl, by dsimp only; omega, by dsimp only; omega⟩
end Go.Proofs.YtmgnnplcnmhbaaaGreatDoor.PT
end
section
namespace Go.Proofs.YtmgnnplcnmhbaaaGreatDoor.PT
open Go.RowKit Go.Proofs.YtmgnnplcnmhbaaaGreatDoorW.PrintWords Go.Proofs.YtmgnnplcnmhbaaaGreatDoorW.PrintLast Go.Proofs.YtmgnnplcnmhbaaaGreatDoorW.PrintMore
set_option linter.unusedVariables false
set_option linter.unusedSimpArgs false
theorem abbr_tot (k : Nat) (s letter : ByteArray) (save : Int) (hs : s.size ≤ 140737488355328) (hl : letter.size ≤ 140737488355328) (hk : letter.size ≤ k) (h0 : 0 ≤ save) (h1 : save ≤ 10800) : ∃ x e, book_Abbr.f (k + 20) s save letter = some (x, e) := by
  obtain ⟨⟨a, b, sg, ok⟩, hsp, hza, hzb⟩ := split_tot k s
  dsimp only at hza hzb
  have q5 : (⟨#[]⟩ : ByteArray).size = 0 := rfl
  unfold book_Abbr.f
  rw [hsp]
  simp only [Option.bind_some]
  have hj1 : ∀ m x, ∃ y e, book_Abbr.j1 (m + 1) x = some (y, e) := by
    intro m x
    simp only [book_Abbr.j1]
    split
    · exact ⟨_, _, rfl⟩
    · split
      · exact ⟨_, _, rfl⟩
      · exact ⟨_, _, rfl⟩
  have hj0 : ∀ f, (∃ y e, book_Abbr.j0 (k + 20) save letter a b sg f = some (y, e)) := by
    intro f
    cases f with
    | true => exact ⟨_, _, by simp only [book_Abbr.j0]; rfl⟩
    | false =>
      simp only [book_Abbr.j0, Bool.false_eq_true, if_false]
      rw [within_ok h0 h1]
      simp only [Option.bind_some, if_true]
      split
      · split
        · exact hj1 _ _
        · exact hj1 _ _
      · split
        · split
          · rw [if_pos (by omega), if_pos (by rw [ByteArray.size_append, q5]; omega)]
            exact hj1 _ _
          · rw [if_pos (by omega), if_pos (by rw [ByteArray.size_append]; omega)]
            exact hj1 _ _
        · exact hj1 _ _
  cases ok with
  | false =>
    rw [if_neg (by decide)]
    exact hj0 true
  | true =>
    rw [if_pos rfl]
    unfold book_isLetter.f
    split
    · simp only [Option.bind_some]
      exact hj0 _
    · obtain ⟨u, hu⟩ := IsAbbr_tot letter (by omega) (k + 20) (by omega)
      rw [hu]
      simp only [Option.bind_some]
      exact hj0 _
theorem Rest_abbr (a : Int) (h0 : -9223372036854775808 ≤ a) (h1 : a ≤ 9223372036854775807) : ∃ r, timeballref_Rest.f a 10800 = some r ∧ 0 ≤ r ∧ r ≤ 10799 := by
  unfold timeballref_Rest.f
  rw [if_neg (by decide)]
  have h2 : Int.tmod a 10800 < 10800 := Int.tmod_lt_of_pos a (by decide)
  have h3 : -10800 < Int.tmod a 10800 := by
    have := Int.lt_tmod_of_pos a (show (0 : Int) < 10800 by decide)
    omega
  split
  · refine ⟨_, rfl, ?_⟩
    rw [IntWalk.wrap64_in _ (by omega)]
    omega
  · exact ⟨_, rfl, by omega, by omega⟩
theorem BookAbbr_f (a b letter : ByteArray) (save : Int) (ha : a.size ≤ 140737488355328) (hb : b.size ≤ 140737488355328) (hl : letter.size ≤ 140737488355328) (h0 : -9223372036854775808 ≤ save) (h1 : save ≤ 9223372036854775807) : timeballkeep_BookAbbr.f (140737488355328 + 140737488355328 + 100) a b letter save = some true := by
  obtain ⟨t, ht, ht0, ht1⟩ := Rest_abbr save h0 h1
  obtain ⟨K, hK⟩ : ∃ K, K = 140737488355328 + 140737488355328 + 75 := ⟨_, rfl⟩
  rw [show 140737488355328 + 140737488355328 + 100 = K + 25 by omega]
  have hw : wrap64 (t + 1) = t + 1 := IntWalk.wrap64_in _ (by omega)
  obtain ⟨x, e, hx⟩ := abbr_tot (K + 5) a letter (t + 1) ha hl (by omega) (by omega) (by omega)
  obtain ⟨ua, hua⟩ := IsAbbr_tot a (by omega) (K + 25) (by omega)
  have hj1 : ∀ m, timeballkeep_BookAbbr.j1 (m + 1) a b (t + 1) true = some true := fun m => by simp only [timeballkeep_BookAbbr.j1, if_true]
  have hj0 : timeballkeep_BookAbbr.j0 (K + 25) a b (t + 1) false = some true := by
    simp only [timeballkeep_BookAbbr.j0, Bool.false_eq_true, if_false]
    obtain ⟨va, hva⟩ := IsAbbr_tot a (by omega) (K + 24) (by omega)
    obtain ⟨vb, hvb⟩ := IsAbbr_tot b (by omega) (K + 24) (by omega)
    rw [hva]
    simp only [Option.bind_some]
    cases va with
    | false => rw [if_neg (by decide)]; exact hj1 _
    | true =>
      rw [if_pos rfl, hvb]
      simp only [Option.bind_some]
      cases vb with
      | false => rw [if_neg (by decide)]; exact hj1 _
      | true =>
        rw [if_pos rfl]
        have sa := (abbr_spec a (by omega) _ _ hva).mp rfl
        have sb := (abbr_spec b (by omega) _ _ hvb).mp rfl
        rw [IntWalk.wrap64_in _ (by omega)]
        by_cases h11 : ((a.size : Int) + (b.size : Int)) > 11
        · rw [decide_eq_true h11]; exact hj1 _
        · rw [decide_eq_false h11]
          have t1 := abbr_two (K + 3) a b 0 sa sb (by omega) (by omega) (by omega)
          have t2 := abbr_two (K + 3) a b (t + 1) sa sb (by omega) (by omega) (by omega)
          have hsz : (a ++ (⟨#[47]⟩ : ByteArray)).size = a.size + 1 := by simp [ByteArray.size_append]; rfl
          simp only [timeballkeep_BookAbbr.j1, Bool.false_eq_true, if_false]
          rw [if_pos (by omega), if_pos (by omega), show K + 23 = K + 3 + 20 by omega, t1, t2]
          simp only [Option.bind_some, if_true]
          rw [if_neg (show ¬ t + 1 = 0 by omega)]
          simp
  unfold timeballkeep_BookAbbr.f timeballkeep_booked.f
  simp only [Option.bind_some, if_true]
  rw [ht]
  simp only [Option.bind_some]
  rw [hw, show K + 25 = K + 5 + 20 by omega, hx]
  simp only [Option.bind_some]
  rw [show K + 5 + 20 = K + 25 by omega]
  by_cases he : e = 0
  · subst he
    rw [if_pos rfl]
    have hm := abbr_main (K + 20) a (t + 1) letter x (by omega) (by omega) (by rw [show K + 20 + 5 = K + 5 + 20 by omega]; exact hx)
    have h8 := hm.1.2.2
    rw [data_length] at h8
    rw [isAbbr_yes x hm.1 (K + 25) (by omega)]
    simp only [Option.bind_some, if_true]
    rw [hua]
    simp only [Option.bind_some]
    cases ua with
    | false => rw [if_neg (by decide)]; exact hj0
    | true =>
      rw [if_pos rfl]
      have := hm.2 ((abbr_spec a (by omega) _ _ hua).mp rfl)
      subst this
      simp only [bne_self_eq_false]
      exact hj0
  · rw [if_neg he]
    exact hj0
end Go.Proofs.YtmgnnplcnmhbaaaGreatDoor.PT
end
section
namespace Go.Proofs.YtmgnnplcnmhbaaaGreatDoor
open Go.ChangeShapes Go.WideShapes Go.ChangeAt Go.RowKit
open Go.ChangeMaps (open_string shut_string)
set_option linter.unusedVariables false
set_option maxRecDepth 100000 in
theorem bookAbbr_lifted (os : Os) (started : os.Started) (H : Type) (enc : TypeId × Value → H) :
    ReturnsInHanded {} Tryz.checked os 4 .any (fun w args => (Rows.bookAbbrSpec.pre enc Tryz.prog Tryz.f4 Rows.bookAbbrRow.domain false w args ∧ laidMetH Tryz.prog Rows.bookAbbrRow.laid w) ∧ sizedMet enc Tryz.prog Tryz.f4 (OpenSpec.ofChange Rows.bookAbbrSpec) false w args)
      (Rows.bookAbbrSpec.post enc Tryz.prog Tryz.f4 false true false false) := by
  refine handed_laid (C := Tryz.checked) (X := fun w _ => laidMetH Tryz.prog Rows.bookAbbrRow.laid w) (fun _ _ _ hh h => h.of_heap hh) own started (by kernel_rfl) Tryz.func4
    (ChangeSpec.witness_shaped (enc := enc) (C := Tryz.checked) (os := os) (X := fun w _ => laidMetH Tryz.prog Rows.bookAbbrRow.laid w) false (World.laidAll Tryz.prog os Rows.bookAbbrRow.laid) #[.string ⟨#[]⟩, .string ⟨#[]⟩, .string ⟨#[]⟩, .int .i64 0] 8 (World.laidAll_os _ _ _)
      (World.shaped_of_ZipB (by kernel_rfl) (by kernel_rfl)) (by kernel_rfl) (by kernel_rfl) (by kernel_rfl)
      (by rw [MakeChecks.laidMetH_plain _ _ _ (by kernel_rfl)]; exact laidMet_laidAll _ (by kernel_rfl) (by kernel_rfl))) ?_
  intro W base args ds gs before hval0 hW hc hsz0 hL0 hsh _
  have hL : laidMet Tryz.prog Rows.bookAbbrRow.laid W := by
    rw [MakeChecks.laidMetH_plain _ _ _ (by kernel_rfl)] at hL0
    exact hL0
  have hsz : (DataW.weightsEach Tryz.prog (Tryz.f4.params.toList ++ Rows.bookAbbrSpec.plain.varTypes Tryz.prog) (ds ++ gs)).all (· ≤ reachBytes) = true := hsz0
  have hval : ∀ (j : Nat) t v, Tryz.f4.params[j]? = some t → args[j]? = some v → Value.okWide Tryz.prog W .any base t v := hval0
  have hW' := hW
  obtain ⟨p, q, hA0, hV, rfl, hfz, hnd⟩ := hW
  have hA : DataW.TrodAll enc Tryz.prog W 0 (fun _ => true) true Tryz.f4.params.toList args.toList ds p := hA0
  rw [Tryz.params4] at hA hval hsz
  obtain ⟨v0, vs0, d0, ds0, p0, q0, hargs, rfl, rfl, h0, r0⟩ := trodAll_cons hA
  obtain ⟨v1, vs1, d1, ds1, p1, q1, rfl, rfl, rfl, h1, r1⟩ := trodAll_cons r0
  obtain ⟨v2, vs2, d2, ds2, p2, q2, rfl, rfl, rfl, h2, r2⟩ := trodAll_cons r1
  obtain ⟨v3, vs3, d3, ds3, p3, q3, rfl, rfl, rfl, h3, r3⟩ := trodAll_cons r2
  obtain ⟨rfl, rfl, rfl⟩ := trodAll_nil r3
  obtain rfl : args = #[v0, v1, v2, v3] := by cases args; simp_all
  obtain ⟨rfl, rfl⟩ := trodVars_none hV
  obtain ⟨a0, rfl, rfl, rfl, y0⟩ := open_string Tryz.underlying9 (hval 0 9 v0 rfl rfl) h0
  obtain ⟨a1, rfl, rfl, rfl, y1⟩ := open_string Tryz.underlying9 (hval 1 9 v1 rfl rfl) h1
  obtain ⟨a2, rfl, rfl, rfl, y2⟩ := open_string Tryz.underlying9 (hval 2 9 v2 rfl rfl) h2
  obtain ⟨a3, rfl, rfl, rfl, w3⟩ := open_int Tryz.underlying3 (hval 3 3 v3 rfl rfl) h3
  have z0 : a0.size ≤ 140737488351232 := by
    have z := sized_string hsz (j := 0) (t := 9) rfl rfl
    rw [Array.length_toList] at z
    exact z
  have z1 : a1.size ≤ 140737488351232 := by
    have z := sized_string hsz (j := 1) (t := 9) rfl rfl
    rw [Array.length_toList] at z
    exact z
  have z2 : a2.size ≤ 140737488351232 := by
    have z := sized_string hsz (j := 2) (t := 9) rfl rfl
    rw [Array.length_toList] at z
    exact z
  have hm : IntKind.i64.min = -9223372036854775808 := by kernel_rfl
  have ha : -9223372036854775808 ≤ a3 ∧ a3 ≤ 9223372036854775807 := by simpa [Lit.wf, hm] using w3
  refine (PT.timeballkeep_BookAbbr.calls _ a0 a1 a2 a3 true W (laidT_of hL (by kernel_rfl) (by decide) hsh) (PT.BookAbbr_f a0 a1 a2 a3 (by omega) (by omega) (by omega) ha.1 ha.2)).mono fun e W' ⟨he, bel⟩ => ?_
  subst he
  exact ⟨_, rfl, _, _, _, [], _, [], hW', trodAll_mk1 (shut_bool Tryz.underlying4 _), trodAll_cons_mk (shut_string Tryz.underlying9 y0) (trodAll_cons_mk (shut_string Tryz.underlying9 y1) (trodAll_cons_mk (shut_string Tryz.underlying9 y2) (trodAll_cons_mk (shut_int Tryz.underlying3 w3) trodAll_mk0))), rfl, bel.frame _, fun h => by cases h⟩
theorem bookAbbr_row : Rows.BookAbbrSaid :=
  OpenClaim.holds_of_wide 4 Tryz.f4 rfl rfl rfl rfl rfl rfl rfl ⟨rfl, rfl, rfl, rfl, rfl⟩ rfl rfl rfl rfl rfl (by kernel_rfl) Tryz.func4 (by kernel_rfl)
    (of_decide_eq_true (by kernel_rfl)) (by unfold Func.isWrapper; first | (rw [if_pos (by decide +kernel)]; kernel_rfl) | (rw [if_neg (by decide +kernel)]; exact ⟨rfl, rfl⟩))
    (fun os started H enc _ => bookAbbr_lifted os started H enc)
end Go.Proofs.YtmgnnplcnmhbaaaGreatDoor
end
