/- Parts of the proof (printed walks, lemmas of our own, contracts of the library laid for this program), merged into one text by wip/mclaim.py. Conditions: each theorem's own. -/
import Derived.Test.YtmbnchgfjijobaaGreatDoorVInv
import Derived.Test.YtmbnchgfjijobaaGreatDoorVFootNe
section
-- PRINTED BY print.sh 35421559b90ae4d0a3588c463048766b98c2df88dd9212a6774a882060cdf62d: not written by this session
namespace Go.Proofs.YtmbnchgfjijobaaGreatDoorW.PrintWords
open Go.RowKit
end Go.Proofs.YtmbnchgfjijobaaGreatDoorW.PrintWords
namespace Go.Proofs.YtmbnchgfjijobaaGreatDoorW.PrintLast
section
variable {ops : Array Oper} {a : Act} {o og : Oper} {g : Nat} {t : Tmp} {u : Bool}
end
end Go.Proofs.YtmbnchgfjijobaaGreatDoorW.PrintLast
end
