-- Written by the kit's print.py, all laws of the seat in one call (wip/tools/print-all.sh).
import Derived.Test.YthafedmlbialiaaDoorBPAx0
namespace Go.Proofs.YthafedmlbialiaaDoor.PA
open Go.RowKit Go.Proofs.YthafedmlbialiaaDoorW.PrintWords Go.Proofs.YthafedmlbialiaaDoorW.PrintLast Go.Proofs.YthafedmlbialiaaDoorW.PrintMore
attribute [local go_sem] max2_int min2_int max_two min_two max_three min_three max_four min_four   -- for this text's walks alone
set_option linter.unusedVariables false
set_option linter.unusedSimpArgs false

-- NOT PRINTED: function 14 (bytes_Clone)

-- NOT PRINTED: function 66 (slices_Clone_byte_byte)

-- NOT PRINTED: function 56 (scroll_New)

-- NOT PRINTED: function 60 (scroll_Reader_Err)

-- NOT PRINTED: function 57 (scroll_Reader_Left)

-- NOT PRINTED: function 91 (scroll_Reader_Fail)

-- NOT PRINTED: function 89 (scroll_Reader_has)

-- NOT PRINTED: function 61 (scroll_Reader_Take)

-- NOT PRINTED: function 88 (scroll_number_byte)

-- NOT PRINTED: function 58 (scroll_Reader_Byte)

-- NOT PRINTED: function 59 (scroll_Reader_Open)

-- NOT PRINTED: function 99 (scroll_Reader_Deep)

-- NOT PRINTED: function 90 (scroll_Reader_within)

-- NOT PRINTED: function 62 (scroll_Reader_Close)

-- NOT PRINTED: function 15 (caps_Read)

/-! ### consulateref05_Read: function 16 -/
/-! ### bytes_Equal: function 19 -/
end Go.Proofs.YthafedmlbialiaaDoor.PA
