/- Part 17 of 36 of the proof of bookAbbr_holds. What it holds was printed or written for this claim, text by text, and merged. -/
import Derived.Test.YtmgnnplcnmhbaaaGreatDoorZ16
namespace Go.Proofs.YtmgnnplcnmhbaaaGreatDoorW.PrintWords
end Go.Proofs.YtmgnnplcnmhbaaaGreatDoorW.PrintWords
namespace Kd
end Kd
