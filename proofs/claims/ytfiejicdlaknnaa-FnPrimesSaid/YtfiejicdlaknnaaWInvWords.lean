-- PRINTED BY print.sh 35421559b90ae4d0a3588c463048766b98c2df88dd9212a6774a882060cdf62d: not written by this session; cut by a program of this session to what this claim needs
import Derived.Test.YtfiejicdlaknnaaWInv
import Derived.Test.YtfiejicdlaknnaaWFootNe
namespace Go.Proofs.YtfiejicdlaknnaaW.PrintWords
open Go.RowKit
end Go.Proofs.YtfiejicdlaknnaaW.PrintWords
namespace Go.Proofs.YtfiejicdlaknnaaW.PrintLast
section
variable {ops : Array Oper} {a : Act} {o og : Oper} {g : Nat} {t : Tmp} {u : Bool}
end
end Go.Proofs.YtfiejicdlaknnaaW.PrintLast
