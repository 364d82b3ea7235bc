/- Part 6 of 36 of the proof of bookAbbr_holds. What it holds was printed or written for this claim, text by text, and merged. -/
import Derived.Test.YtmgnnplcnmhbaaaGreatDoorZ5
import Derived.Test.YtmgnnplcnmhbaaaGreatDoorZ4
namespace Go.Proofs.YtmgnnplcnmhbaaaGreatDoorW.PrintLast
end Go.Proofs.YtmgnnplcnmhbaaaGreatDoorW.PrintLast
