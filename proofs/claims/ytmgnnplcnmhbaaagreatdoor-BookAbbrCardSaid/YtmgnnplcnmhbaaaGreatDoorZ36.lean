/- Proved: timeballkeep.BookAbbr returns true for every two texts, every letter and every number of seconds, and each argument reads afterwards as before. Conditions: those of the row, that the package-level variables that it lists hold what the program's text lays at the start (the card ties them). -/
import Derived.Test.YtmgnnplcnmhbaaaGreatDoorZ35
import Derived.Test.YtmgnnplcnmhbaaaGreatDoorTie
import Derived.Test.YtmgnnplcnmhbaaaGreatDoorCards
import Derived.SevenTiedAt
section
namespace Go.Proofs.YtmgnnplcnmhbaaaGreatDoor
theorem bookAbbr_holds : Rows.BookAbbrCardSaid :=
  Claim7.holds_tied_plain_at .later [] [.data, .data, .data, .data, .sentinel, .sentinel, .listed, .data, .pinned] true (true, "27b2f0b84d3846270660a9cd39f3ba50c29b36c65fd05cef3fb8900c6e783aa4") true
    bookAbbr_row (fun _ h => by cases h) (by kernel_rfl) (fun _ h => by cases h) bookAbbr_row_tie rfl ⟨rfl, rfl⟩ (by kernel_rfl) rfl
    (fun f fn hf hfn => by
      obtain rfl : f = 4 := Option.some.inj ((show Tryz.prog.funcNamed "timeball/timeballkeep.BookAbbr" = some 4 by kernel_rfl).symm.trans hf) |>.symm
      obtain rfl : fn = Tryz.f4 := (Option.some.inj (Tryz.func4.symm.trans hfn)).symm
      exact ⟨by kernel_rfl, fun j t ht => by
        rw [Tryz.params4] at ht
        have hm : t ∈ [9, 9, 9, 3] := by simpa using Array.mem_of_getElem? ht
        have hall : ([9, 9, 9, 3].all fun u => !Tryz.prog.wantsStandIn u) = true := by kernel_rfl
        exact (show Tryz.prog.wantsStandIn t = false by simpa using List.all_eq_true.1 hall t hm)⟩)
    (by kernel_rfl)
end Go.Proofs.YtmgnnplcnmhbaaaGreatDoor
end
