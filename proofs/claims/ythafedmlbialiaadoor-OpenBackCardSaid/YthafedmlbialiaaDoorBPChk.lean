-- Printed by the kit's print.py (PAx9, ref06.Check); cut by wip/tools/check9.py.
import Derived.Test.YthafedmlbialiaaDoorBPAx0
import Derived.Test.YthafedmlbialiaaDoorBPAx7
import Derived.Test.YthafedmlbialiaaDoorBPAx8
namespace Go.Proofs.YthafedmlbialiaaDoor.PA
open Go.RowKit Go.Proofs.YthafedmlbialiaaDoorW.PrintWords Go.Proofs.YthafedmlbialiaaDoorW.PrintLast Go.Proofs.YthafedmlbialiaaDoorW.PrintMore
attribute [local go_sem] max2_int min2_int max_two min_two max_three min_three max_four min_four   -- for this text's walks alone
set_option linter.unusedVariables false
set_option linter.unusedSimpArgs false

/-! ### consulateref06_Check: function 44 -/
end Go.Proofs.YthafedmlbialiaaDoor.PA
