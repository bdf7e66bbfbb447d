-- Words that the kit's own.py printed, cut by wcut.py to what this claim names: theorems left out, none changed
import Derived.Test.YtbkdaofddnkaaaaWInv
import Derived.Test.YtbkdaofddnkaaaaWFootNe
namespace Go.Proofs.YtbkdaofddnkaaaaW.PrintWords
open Go.RowKit
end Go.Proofs.YtbkdaofddnkaaaaW.PrintWords
namespace Go.Proofs.YtbkdaofddnkaaaaW.PrintLast
section
variable {ops : Array Oper} {a : Act} {o og : Oper} {g : Nat} {t : Tmp} {u : Bool}
end
end Go.Proofs.YtbkdaofddnkaaaaW.PrintLast
