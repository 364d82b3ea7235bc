/- Part 12 of 34 of the proof of backTurns_holds. What it holds was printed or written for this claim, text by text, and merged. -/
import Derived.Test.YteemhjamlkipcaaDoorZ11
namespace Go.Proofs.YteemhjamlkipcaaDoorW.PrintWords
end Go.Proofs.YteemhjamlkipcaaDoorW.PrintWords
namespace Kd
end Kd
