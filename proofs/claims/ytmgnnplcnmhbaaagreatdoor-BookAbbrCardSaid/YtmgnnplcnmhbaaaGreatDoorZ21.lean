/- Part 21 of 36 of the proof of bookAbbr_holds. What it holds was printed or written for this claim, text by text, and merged. -/
import Derived.Test.YtmgnnplcnmhbaaaGreatDoorZ20
import Derived.Test.YtmgnnplcnmhbaaaGreatDoorZ16
namespace Go.Proofs.YtmgnnplcnmhbaaaGreatDoorW.PrintWords
end Go.Proofs.YtmgnnplcnmhbaaaGreatDoorW.PrintWords
namespace Go.Proofs.YtmgnnplcnmhbaaaGreatDoorW.PrintLast
end Go.Proofs.YtmgnnplcnmhbaaaGreatDoorW.PrintLast
