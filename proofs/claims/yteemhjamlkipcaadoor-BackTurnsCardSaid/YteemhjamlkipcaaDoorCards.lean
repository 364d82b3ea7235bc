/-
  DERIVED. GIVEN WITH THE SEED: THE CARDS: each row of YteemhjamlkipcaaDoorRows.lean that lists a variable, with what it lists TIED to the program's text (the seventh form; the later family's looks); each row that meets fmt, with fmt's text TOLD by the authors' own Lean function (tested against real Go, not proved from fmt's source: count such statements apart). THE CARD IS WHAT COUNTS. Prove the row's statement (the work); the ties are given (YteemhjamlkipcaaDoorTie.lean); close each card by the builder's one call (the guide's Derived/Test/ToyasCard.lean, 'card_holds'). Laid BY PROGRAM, IN A SANDBOX (cutbox-door.mjs). By AI agents, Wed Nov 11 2026. No macro, syntax, notation, axiom, sorry.
-/
import Derived.Test.YteemhjamlkipcaaDoorRows
import GoSem.ClaimSeven
namespace Go.Proofs.YteemhjamlkipcaaDoor
namespace Rows

/-- THE TIED CARD OF 'timeballkeep.BackTurns'. -/
def backTurnsCard : Claim7 := { stood := { row := backTurnsRow, standIns := [], harness := (true, "b465a84b18dc6890572b8eaece40580c4aa40d5258303e7c223b3cf5fa160dcb"), looks := false }, kinds := [], alts := [], laidByText := true, laidKinds := [.data, .data, .data], laidTests := true, laidLooks := .later }
def BackTurnsCardSaid : Prop := Claim7.holds Tryd.pinned (.plain (OpenSpec.ofChange backTurnsSpec)) backTurnsCard

/-- THE SECOND FORM's CARD OF 'timeballkeep.BackTurns'. -/
def backTurnsUptoCard : Claim7 := { stood := { row := backTurnsUptoRow, standIns := [], harness := (true, "b465a84b18dc6890572b8eaece40580c4aa40d5258303e7c223b3cf5fa160dcb"), looks := false }, kinds := [], alts := [], laidByText := true, laidKinds := [.data, .data, .data], laidTests := true, laidLooks := .later }
def BackTurnsUptoCardSaid : Prop := Claim7.holds Tryd.pinned (.plain (OpenSpec.upto backTurnsSpec)) backTurnsUptoCard
end Rows
end Go.Proofs.YteemhjamlkipcaaDoor
