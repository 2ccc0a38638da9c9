-- words of the printing program, less what this chapter does not name
import Derived.Test.YtgjmfehdjbepiaaWInv
import Derived.Test.YtgjmfehdjbepiaaWFootNe
namespace Go.Proofs.YtgjmfehdjbepiaaW.PrintWords
open Go.RowKit
end Go.Proofs.YtgjmfehdjbepiaaW.PrintWords
namespace Go.Proofs.YtgjmfehdjbepiaaW.PrintLast
section
variable {ops : Array Oper} {a : Act} {o og : Oper} {g : Nat} {t : Tmp} {u : Bool}
end
end Go.Proofs.YtgjmfehdjbepiaaW.PrintLast

