-- Words that the kit's own.py printed, cut by wcut.py to what this claim names: theorems left out, none changed
import Derived.Test.YtblkkhddefnkpaaDoorWTab
/-! ### 56. Four, five, six operations that may come up next, in any order -/
namespace Go.Proofs.YtblkkhddefnkpaaDoorW.PrintLast
section
variable {P : Program} {ops : Array Oper} {Q : Exit → Act → World → Prop} {md : Region.Mode} {S : World → Prop} {ds : List Nat} {T : Bool × List (List Nat × List Nat)}
end
end Go.Proofs.YtblkkhddefnkpaaDoorW.PrintLast
