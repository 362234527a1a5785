/-
  DERIVED. GIVEN WITH THE SEED: THE PROGRAM's TIES (one call each: nine closed facts by the kernel) AND EACH ROW's TIE, after the 31st guide's Derived/Test/Toyas{Tie, Card}.lean. No idea stands in it: it is a product of the set-up. Laid BY PROGRAM, IN A SANDBOX (cutbox-door.mjs). By AI agents, Wed Nov 11 2026. No macro, syntax, notation, axiom, sorry.
-/
import Derived.Test.YthafedmlbialiaaDoorRows
import Derived.LaidByTextLater
import Derived.SevenTiedAt
import Derived.LaidSub
import Derived.LaidOnce
namespace Go.Proofs.YthafedmlbialiaaDoor
open Go
set_option maxRecDepth 100000
theorem seatTie1 : Tryd.prog.laidByTextLater [("consulate/caps.unicast", Rows.laid_consulate_caps_unicast), ("consulate/caps.cut", Rows.laid_consulate_caps_cut), ("consulate/caps.odd", Rows.laid_consulate_caps_odd), ("consulate/open.wanted", Rows.laid_consulate_open_wanted), ("consulate/open.family", Rows.laid_consulate_open_family)] [.widerDeep, .data, .data, .widerDeep, .widerDeep] true :=
  Program.laidByTextLater_by_one 34 8 7 (by kernel_rfl) (by kernel_rfl) (by kernel_rfl) (by kernel_rfl) (by kernel_rfl) (by kernel_rfl) (fun _ _ => by kernel_rfl)
theorem noOwnUnsafe : Tryd.pinned.checked.prog.headLifts.contains "ownunsafe" = false := by kernel_rfl
theorem tie : Tryd.prog.laidByTextLater [("consulate/caps.cut", Rows.laid_consulate_caps_cut), ("consulate/caps.odd", Rows.laid_consulate_caps_odd)] [.data, .data] true :=
  Program.laidByTextLater.sub seatTie1 ["consulate/caps.cut", "consulate/caps.odd"] (by kernel_rfl) (by kernel_rfl)
theorem capsReads_row_tie : Rows.capsReadsRow.laidByTextAt .later Tryd.pinned [.data, .data] true :=
  OpenClaim.laidByTextAt_later rfl rfl tie noOwnUnsafe
theorem capsBack_row_tie : Rows.capsBackRow.laidByTextAt .later Tryd.pinned [.data, .data] true :=
  OpenClaim.laidByTextAt_later rfl rfl tie noOwnUnsafe
theorem tie2 : Tryd.prog.laidByTextLater [("consulate/caps.unicast", Rows.laid_consulate_caps_unicast), ("consulate/caps.cut", Rows.laid_consulate_caps_cut), ("consulate/caps.odd", Rows.laid_consulate_caps_odd), ("consulate/open.wanted", Rows.laid_consulate_open_wanted), ("consulate/open.family", Rows.laid_consulate_open_family)] [.widerDeep, .data, .data, .widerDeep, .widerDeep] true :=
  Program.laidByTextLater.sub seatTie1 ["consulate/caps.unicast", "consulate/caps.cut", "consulate/caps.odd", "consulate/open.wanted", "consulate/open.family"] (by kernel_rfl) (by kernel_rfl)
theorem openGets_row_tie : Rows.openGetsRow.laidByTextAt .later Tryd.pinned [.widerDeep, .data, .data, .widerDeep, .widerDeep] true :=
  OpenClaim.laidByTextAt_later rfl rfl tie2 noOwnUnsafe
theorem openOurs_row_tie : Rows.openOursRow.laidByTextAt .later Tryd.pinned [.widerDeep, .data, .data, .widerDeep, .widerDeep] true :=
  OpenClaim.laidByTextAt_later rfl rfl tie2 noOwnUnsafe
theorem openNumbers_row_tie : Rows.openNumbersRow.laidByTextAt .later Tryd.pinned [.widerDeep, .data, .data, .widerDeep, .widerDeep] true :=
  OpenClaim.laidByTextAt_later rfl rfl tie2 noOwnUnsafe
theorem openTells_row_tie : Rows.openTellsRow.laidByTextAt .later Tryd.pinned [.widerDeep, .data, .data, .widerDeep, .widerDeep] true :=
  OpenClaim.laidByTextAt_later rfl rfl tie2 noOwnUnsafe
theorem openBack_row_tie : Rows.openBackRow.laidByTextAt .later Tryd.pinned [.widerDeep, .data, .data, .widerDeep, .widerDeep] true :=
  OpenClaim.laidByTextAt_later rfl rfl tie2 noOwnUnsafe
theorem openKnown_row_tie : Rows.openKnownRow.laidByTextAt .later Tryd.pinned [.widerDeep, .data, .data, .widerDeep, .widerDeep] true :=
  OpenClaim.laidByTextAt_later rfl rfl tie2 noOwnUnsafe
theorem tie3 : Tryd.prog.laidByTextLater [("consulate/caps.unicast", Rows.laid_consulate_caps_unicast), ("consulate/caps.cut", Rows.laid_consulate_caps_cut), ("consulate/caps.odd", Rows.laid_consulate_caps_odd)] [.widerDeep, .data, .data] true :=
  Program.laidByTextLater.sub seatTie1 ["consulate/caps.unicast", "consulate/caps.cut", "consulate/caps.odd"] (by kernel_rfl) (by kernel_rfl)
theorem capsKnown_row_tie : Rows.capsKnownRow.laidByTextAt .later Tryd.pinned [.widerDeep, .data, .data] true :=
  OpenClaim.laidByTextAt_later rfl rfl tie3 noOwnUnsafe
theorem capsTells_row_tie : Rows.capsTellsRow.laidByTextAt .later Tryd.pinned [.widerDeep, .data, .data] true :=
  OpenClaim.laidByTextAt_later rfl rfl tie3 noOwnUnsafe
theorem capsOurs_row_tie : Rows.capsOursRow.laidByTextAt .later Tryd.pinned [.widerDeep, .data, .data] true :=
  OpenClaim.laidByTextAt_later rfl rfl tie3 noOwnUnsafe
theorem capsReadsUpto_row_tie : Rows.capsReadsUptoRow.laidByTextAt .later Tryd.pinned [.data, .data] true :=
  OpenClaim.laidByTextAt_later rfl rfl tie noOwnUnsafe
theorem openGetsUpto_row_tie : Rows.openGetsUptoRow.laidByTextAt .later Tryd.pinned [.widerDeep, .data, .data, .widerDeep, .widerDeep] true :=
  OpenClaim.laidByTextAt_later rfl rfl tie2 noOwnUnsafe
theorem openOursUpto_row_tie : Rows.openOursUptoRow.laidByTextAt .later Tryd.pinned [.widerDeep, .data, .data, .widerDeep, .widerDeep] true :=
  OpenClaim.laidByTextAt_later rfl rfl tie2 noOwnUnsafe
theorem openNumbersUpto_row_tie : Rows.openNumbersUptoRow.laidByTextAt .later Tryd.pinned [.widerDeep, .data, .data, .widerDeep, .widerDeep] true :=
  OpenClaim.laidByTextAt_later rfl rfl tie2 noOwnUnsafe
theorem capsKnownUpto_row_tie : Rows.capsKnownUptoRow.laidByTextAt .later Tryd.pinned [.widerDeep, .data, .data] true :=
  OpenClaim.laidByTextAt_later rfl rfl tie3 noOwnUnsafe
theorem capsBackUpto_row_tie : Rows.capsBackUptoRow.laidByTextAt .later Tryd.pinned [.data, .data] true :=
  OpenClaim.laidByTextAt_later rfl rfl tie noOwnUnsafe
theorem capsTellsUpto_row_tie : Rows.capsTellsUptoRow.laidByTextAt .later Tryd.pinned [.widerDeep, .data, .data] true :=
  OpenClaim.laidByTextAt_later rfl rfl tie3 noOwnUnsafe
theorem capsOursUpto_row_tie : Rows.capsOursUptoRow.laidByTextAt .later Tryd.pinned [.widerDeep, .data, .data] true :=
  OpenClaim.laidByTextAt_later rfl rfl tie3 noOwnUnsafe
theorem openTellsUpto_row_tie : Rows.openTellsUptoRow.laidByTextAt .later Tryd.pinned [.widerDeep, .data, .data, .widerDeep, .widerDeep] true :=
  OpenClaim.laidByTextAt_later rfl rfl tie2 noOwnUnsafe
theorem openBackUpto_row_tie : Rows.openBackUptoRow.laidByTextAt .later Tryd.pinned [.widerDeep, .data, .data, .widerDeep, .widerDeep] true :=
  OpenClaim.laidByTextAt_later rfl rfl tie2 noOwnUnsafe
theorem openKnownUpto_row_tie : Rows.openKnownUptoRow.laidByTextAt .later Tryd.pinned [.widerDeep, .data, .data, .widerDeep, .widerDeep] true :=
  OpenClaim.laidByTextAt_later rfl rfl tie2 noOwnUnsafe
end Go.Proofs.YthafedmlbialiaaDoor
