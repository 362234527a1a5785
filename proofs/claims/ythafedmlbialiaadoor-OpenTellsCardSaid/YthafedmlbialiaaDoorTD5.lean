/-
  The walk of law05.few.
-/
import Derived.Test.YthafedmlbialiaaDoorTD0
import Derived.Test.YthafedmlbialiaaDoorTC1
namespace Go.Proofs.YthafedmlbialiaaDoor
open Go.RowKit Go.Proofs.YthafedmlbialiaaDoorW.PrintWords Go.Proofs.YthafedmlbialiaaDoorW.PrintLast Go.Proofs.YthafedmlbialiaaDoorW.PrintMore
set_option linter.unusedVariables false
set_option linter.unusedSimpArgs false

def few (l : List PA.S61) : List PA.S61 := (l.take 20).map fun x => ⟨x.f0, x.f1.take 260⟩
end Go.Proofs.YthafedmlbialiaaDoor
