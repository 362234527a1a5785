/-
  Plain: what is told of capabilities is the document's.
-/
import Derived.Test.YthafedmlbialiaaDoorBP0
import Derived.Test.YthafedmlbialiaaDoorBPAx6
import Derived.Test.YthafedmlbialiaaDoorBPAx7
import Derived.Test.YthafedmlbialiaaDoorBD5
namespace Go.Proofs.YthafedmlbialiaaDoor
open Go.RowKit Go.Proofs.YthafedmlbialiaaDoorW.PrintWords
set_option linter.unusedVariables false
set_option linter.unusedSimpArgs false

end Go.Proofs.YthafedmlbialiaaDoor
