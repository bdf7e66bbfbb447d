-- Words that the kit's own.py printed, cut by wcut.py to what this claim names: theorems left out, none changed
import Derived.Test.YtjpdcnaealdbjaaWInv
import Derived.Test.YtjpdcnaealdbjaaWFootNe
namespace Go.Proofs.YtjpdcnaealdbjaaW.PrintWords
open Go.RowKit
end Go.Proofs.YtjpdcnaealdbjaaW.PrintWords
namespace Go.Proofs.YtjpdcnaealdbjaaW.PrintLast
section
variable {ops : Array Oper} {a : Act} {o og : Oper} {g : Nat} {t : Tmp} {u : Bool}
end
end Go.Proofs.YtjpdcnaealdbjaaW.PrintLast
