-- Cut down by wip/tools/prune.py out of the words that the kit's print.sh laid for this seat: what this claim needs of them.
import Derived.Test.YthafedmlbialiaaDoorBWInv
import Derived.Test.YthafedmlbialiaaDoorBWFootNe
namespace Go.Proofs.YthafedmlbialiaaDoorW.PrintWords
open Go.RowKit
end Go.Proofs.YthafedmlbialiaaDoorW.PrintWords
namespace Go.Proofs.YthafedmlbialiaaDoorW.PrintLast
section
variable {ops : Array Oper} {a : Act} {o og : Oper} {g : Nat} {t : Tmp} {u : Bool}
end
end Go.Proofs.YthafedmlbialiaaDoorW.PrintLast
