-- Cut down by wip/tools/prune.py out of the words that the kit's print.sh laid for this seat: what this claim needs of them.
import Derived.Test.YthafedmlbialiaaDoorBWN
/-! ### 52. A row that stays read whatever happens to a block (a set of blocks) doesn't lie there -/
namespace Go.Proofs.YthafedmlbialiaaDoorW.PrintWords
open Go.RowKit
namespace Kd
section
variable {α : Type} {d : Kd α} {W : World} {g n : Nat} {S ok : Nat → Prop} {A : Option Addr} {ad : Addr} {xs : List α}
end
end Kd
end Go.Proofs.YthafedmlbialiaaDoorW.PrintWords
