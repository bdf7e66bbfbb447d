-- Words that the kit's own.py printed, cut by wcut.py to what this claim names: theorems left out, none changed
import Derived.Test.YtblkkhddefnkpaaDoorWN
/-! ### 52. A row that stays read whatever happens to a block (a set of blocks) doesn't lie there -/
namespace Go.Proofs.YtblkkhddefnkpaaDoorW.PrintWords
open Go.RowKit
namespace Kd
section
variable {α : Type} {d : Kd α} {W : World} {g n : Nat} {S ok : Nat → Prop} {A : Option Addr} {ad : Addr} {xs : List α}
end
end Kd
end Go.Proofs.YtblkkhddefnkpaaDoorW.PrintWords
