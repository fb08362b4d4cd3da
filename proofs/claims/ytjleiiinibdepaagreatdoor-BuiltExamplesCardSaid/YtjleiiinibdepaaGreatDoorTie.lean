/-
  DERIVED. GIVEN WITH THE SEED: THE PROGRAM's TIES (one call each: nine closed facts by the kernel) AND EACH ROW's TIE, after the 31st guide's Derived/Test/Toyas{Tie, Card}.lean. No idea stands in it: it is a product of the set-up. Laid BY PROGRAM, IN A SANDBOX (cutbox-door.mjs). By AI agents, Wed Nov 11 2026. No macro, syntax, notation, axiom, sorry.
-/
import Derived.Test.YtjleiiinibdepaaGreatDoorRows
import Derived.LaidByTextLater
import Derived.SevenTiedAt
import Derived.LaidSub
import Derived.LaidOnce
namespace Go.Proofs.YtjleiiinibdepaaGreatDoor
open Go
set_option maxRecDepth 100000
theorem seatTie1 : Tryz.prog.laidByTextLater [("blueline/sheet.checks", Rows.laid_blueline_sheet_checks), ("blueline/note.checks", Rows.laid_blueline_note_checks), ("blueline/built.nothing", Rows.laid_blueline_built_nothing), ("blueline/built.kinds", Rows.laid_blueline_built_kinds)] [.funcs, .funcs, .data, .funcs] true :=
  Program.laidByTextLater_by_one 44 8 3 (by kernel_rfl) (by kernel_rfl) (by kernel_rfl) (by kernel_rfl) (by kernel_rfl) (by kernel_rfl) (fun _ _ => by kernel_rfl)
theorem noOwnUnsafe : Tryz.pinned.checked.prog.headLifts.contains "ownunsafe" = false := by kernel_rfl
theorem tie : Tryz.prog.laidByTextLater [("blueline/sheet.checks", Rows.laid_blueline_sheet_checks), ("blueline/note.checks", Rows.laid_blueline_note_checks), ("blueline/built.nothing", Rows.laid_blueline_built_nothing), ("blueline/built.kinds", Rows.laid_blueline_built_kinds)] [.funcs, .funcs, .data, .funcs] true :=
  Program.laidByTextLater.sub seatTie1 ["blueline/sheet.checks", "blueline/note.checks", "blueline/built.nothing", "blueline/built.kinds"] (by kernel_rfl) (by kernel_rfl)
theorem builtExamples_row_tie : Rows.builtExamplesRow.laidByTextAt .later Tryz.pinned [.funcs, .funcs, .data, .funcs] true :=
  OpenClaim.laidByTextAt_later rfl rfl tie noOwnUnsafe
theorem builtMore_row_tie : Rows.builtMoreRow.laidByTextAt .later Tryz.pinned [.funcs, .funcs, .data, .funcs] true :=
  OpenClaim.laidByTextAt_later rfl rfl tie noOwnUnsafe
theorem builtWithdrawn_row_tie : Rows.builtWithdrawnRow.laidByTextAt .later Tryz.pinned [.funcs, .funcs, .data, .funcs] true :=
  OpenClaim.laidByTextAt_later rfl rfl tie noOwnUnsafe
theorem builtOrder_row_tie : Rows.builtOrderRow.laidByTextAt .later Tryz.pinned [.funcs, .funcs, .data, .funcs] true :=
  OpenClaim.laidByTextAt_later rfl rfl tie noOwnUnsafe
theorem builtKnown_row_tie : Rows.builtKnownRow.laidByTextAt .later Tryz.pinned [.funcs, .funcs, .data, .funcs] true :=
  OpenClaim.laidByTextAt_later rfl rfl tie noOwnUnsafe
theorem builtExamplesUpto_row_tie : Rows.builtExamplesUptoRow.laidByTextAt .later Tryz.pinned [.funcs, .funcs, .data, .funcs] true :=
  OpenClaim.laidByTextAt_later rfl rfl tie noOwnUnsafe
theorem builtMoreUpto_row_tie : Rows.builtMoreUptoRow.laidByTextAt .later Tryz.pinned [.funcs, .funcs, .data, .funcs] true :=
  OpenClaim.laidByTextAt_later rfl rfl tie noOwnUnsafe
theorem builtWithdrawnUpto_row_tie : Rows.builtWithdrawnUptoRow.laidByTextAt .later Tryz.pinned [.funcs, .funcs, .data, .funcs] true :=
  OpenClaim.laidByTextAt_later rfl rfl tie noOwnUnsafe
theorem builtOrderUpto_row_tie : Rows.builtOrderUptoRow.laidByTextAt .later Tryz.pinned [.funcs, .funcs, .data, .funcs] true :=
  OpenClaim.laidByTextAt_later rfl rfl tie noOwnUnsafe
theorem builtKnownUpto_row_tie : Rows.builtKnownUptoRow.laidByTextAt .later Tryz.pinned [.funcs, .funcs, .data, .funcs] true :=
  OpenClaim.laidByTextAt_later rfl rfl tie noOwnUnsafe
end Go.Proofs.YtjleiiinibdepaaGreatDoor
