-- PRINTED BY print.sh 35421559b90ae4d0a3588c463048766b98c2df88dd9212a6774a882060cdf62d: not written by this session; cut by a program of this session to what this claim needs
import Derived.Test.YtijpcemcijaeeaaWInv
import Derived.Test.YtijpcemcijaeeaaWFootNe
namespace Go.Proofs.YtijpcemcijaeeaaW.PrintWords
open Go.RowKit
end Go.Proofs.YtijpcemcijaeeaaW.PrintWords
namespace Go.Proofs.YtijpcemcijaeeaaW.PrintLast
section
variable {ops : Array Oper} {a : Act} {o og : Oper} {g : Nat} {t : Tmp} {u : Bool}
end
end Go.Proofs.YtijpcemcijaeeaaW.PrintLast
