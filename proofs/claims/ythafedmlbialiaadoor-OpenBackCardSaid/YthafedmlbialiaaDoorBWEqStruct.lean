-- Cut down by wip/tools/prune.py out of the words that the kit's print.sh laid for this seat: what this claim needs of them.
import Derived.Test.YthafedmlbialiaaDoorBWWords
import Derived.Laws.StructEq
/-! ### 53. '==' of structs as_ one Bool -/
namespace Go.Proofs.YthafedmlbialiaaDoorW.PrintWords
open Go.RowKit
section
variable {P : Program} {d : Nat} {xs ys : Array Value} {f : Field} {fs : List Field} {a b : Value} {r s : Bool} {w : World}
end
end Go.Proofs.YthafedmlbialiaaDoorW.PrintWords
