-- Words that the kit's own.py printed, cut by wcut.py to what this claim names: theorems left out, none changed
import Derived.Test.YtblkkhddefnkpaaDoorWInv
import Derived.Test.YtblkkhddefnkpaaDoorWFootNe
namespace Go.Proofs.YtblkkhddefnkpaaDoorW.PrintWords
open Go.RowKit
end Go.Proofs.YtblkkhddefnkpaaDoorW.PrintWords
namespace Go.Proofs.YtblkkhddefnkpaaDoorW.PrintLast
section
variable {ops : Array Oper} {a : Act} {o og : Oper} {g : Nat} {t : Tmp} {u : Bool}
end
end Go.Proofs.YtblkkhddefnkpaaDoorW.PrintLast
