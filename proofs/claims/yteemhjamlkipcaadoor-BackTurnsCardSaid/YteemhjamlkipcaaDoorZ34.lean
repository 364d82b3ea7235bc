/- Proved: timeballkeep.BackTurns returns true for every list of turns and every offset, and each argument reads afterwards as before. Conditions: those of the row, that the package-level variables that it lists hold what the program's text lays at the start (the card ties them). -/
import Derived.Test.YteemhjamlkipcaaDoorZ33
import Derived.Test.YteemhjamlkipcaaDoorTie
import Derived.Test.YteemhjamlkipcaaDoorCards
import Derived.SevenTiedAt
section
namespace Go.Proofs.YteemhjamlkipcaaDoor
theorem backTurns_holds : Rows.BackTurnsCardSaid :=
  Claim7.holds_tied_plain_at .later [] [.data, .data, .data] true (true, "b465a84b18dc6890572b8eaece40580c4aa40d5258303e7c223b3cf5fa160dcb") false
    backTurns_row (fun _ h => by cases h) (by kernel_rfl) (fun _ h => by cases h) backTurns_row_tie rfl ⟨rfl, rfl⟩ (by kernel_rfl) rfl
    (fun f fn hf hfn => by
      obtain rfl : f = 3 := Option.some.inj ((show Tryd.prog.funcNamed "timeball/timeballkeep.BackTurns" = some 3 by kernel_rfl).symm.trans hf) |>.symm
      obtain rfl : fn = Tryd.f3 := (Option.some.inj (Tryd.func3.symm.trans hfn)).symm
      exact ⟨by kernel_rfl, fun j t ht => by
        rw [Tryd.params3] at ht
        have hm : t ∈ [22, 3] := by simpa using Array.mem_of_getElem? ht
        have hall : ([22, 3].all fun u => !Tryd.prog.wantsStandIn u) = true := by kernel_rfl
        exact (show Tryd.prog.wantsStandIn t = false by simpa using List.all_eq_true.1 hall t hm)⟩)
    (by kernel_rfl)
end Go.Proofs.YteemhjamlkipcaaDoor
end
