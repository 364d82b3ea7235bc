/- Part 6 of 34 of the proof of backTurns_holds. What it holds was printed or written for this claim, text by text, and merged. -/
import Derived.Test.YteemhjamlkipcaaDoorZ5
namespace Go.Proofs.YteemhjamlkipcaaDoorW.PrintLast
end Go.Proofs.YteemhjamlkipcaaDoorW.PrintLast
