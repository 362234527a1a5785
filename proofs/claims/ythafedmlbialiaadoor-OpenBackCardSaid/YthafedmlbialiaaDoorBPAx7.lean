-- Written by the kit's print.py, all laws of the seat in one call (wip/tools/print-all.sh).
import Derived.Test.YthafedmlbialiaaDoorBPAx0
namespace Go.Proofs.YthafedmlbialiaaDoor.PA
open Go.RowKit Go.Proofs.YthafedmlbialiaaDoorW.PrintWords Go.Proofs.YthafedmlbialiaaDoorW.PrintLast Go.Proofs.YthafedmlbialiaaDoorW.PrintMore
attribute [local go_sem] max2_int min2_int max_two min_two max_three min_three max_four min_four   -- for this text's walks alone
set_option linter.unusedVariables false
set_option linter.unusedSimpArgs false

/-! ### consulateref05_IPv4: function 38 -/
/-! ### consulateref05_Ours: function 39 -/
-- NOT PRINTED: function 9 (consulatelaw05_CapsTells)

-- NOT PRINTED: function 10 (consulatelaw05_CapsOurs)

end Go.Proofs.YthafedmlbialiaaDoor.PA
