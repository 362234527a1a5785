-- Written by the kit's print.py, all laws of the seat in one call (wip/tools/print-all.sh).
import Derived.Test.YthafedmlbialiaaDoorBPAx0
namespace Go.Proofs.YthafedmlbialiaaDoor.PA
open Go.RowKit Go.Proofs.YthafedmlbialiaaDoorW.PrintWords Go.Proofs.YthafedmlbialiaaDoorW.PrintLast Go.Proofs.YthafedmlbialiaaDoorW.PrintMore
attribute [local go_sem] max2_int min2_int max_two min_two max_three min_three max_four min_four   -- for this text's walks alone
set_option linter.unusedVariables false
set_option linter.unusedSimpArgs false

/-! ### consulateref05_Bytes: function 35 -/
/-! ### consulateref05_Number: function 36 -/
/-! ### consulateref05_Refreshes: function 37 -/
end Go.Proofs.YthafedmlbialiaaDoor.PA
