/-
  DERIVED. GIVEN WITH THE SEED: THE PROGRAM's TIES (one call each: nine closed facts by the kernel) AND EACH ROW's TIE, after the 31st guide's Derived/Test/Toyas{Tie, Card}.lean. No idea stands in it: it is a product of the set-up. Laid BY PROGRAM, IN A SANDBOX (cutbox-door.mjs). By AI agents, Wed Nov 11 2026. No macro, syntax, notation, axiom, sorry.
-/
import Derived.Test.YtpolpdegpbahiaaGreatDoorRows
import Derived.LaidByTextLater
import Derived.SevenTiedAt
import Derived.LaidSub
import Derived.LaidOnce
namespace Go.Proofs.YtpolpdegpbahiaaGreatDoor
open Go
set_option maxRecDepth 100000
theorem seatTie1 : Tryz.prog.laidByTextLater [("blueline/sheet.checks", Rows.laid_blueline_sheet_checks), ("blueline/note.checks", Rows.laid_blueline_note_checks), ("blueline/built.nothing", Rows.laid_blueline_built_nothing), ("blueline/built.kinds", Rows.laid_blueline_built_kinds)] [.funcs, .funcs, .data, .funcs] true :=
  Program.laidByTextLater_by_one 44 8 3 (by kernel_rfl) (by kernel_rfl) (by kernel_rfl) (by kernel_rfl) (by kernel_rfl) (by kernel_rfl) (fun _ _ => by kernel_rfl)
theorem noOwnUnsafe : Tryz.pinned.checked.prog.headLifts.contains "ownunsafe" = false := by kernel_rfl
theorem tie : Tryz.prog.laidByTextLater [("blueline/sheet.checks", Rows.laid_blueline_sheet_checks), ("blueline/note.checks", Rows.laid_blueline_note_checks), ("blueline/built.nothing", Rows.laid_blueline_built_nothing), ("blueline/built.kinds", Rows.laid_blueline_built_kinds)] [.funcs, .funcs, .data, .funcs] true :=
  Program.laidByTextLater.sub seatTie1 ["blueline/sheet.checks", "blueline/note.checks", "blueline/built.nothing", "blueline/built.kinds"] (by kernel_rfl) (by kernel_rfl)
theorem builtParts_row_tie : Rows.builtPartsRow.laidByTextAt .later Tryz.pinned [.funcs, .funcs, .data, .funcs] true :=
  OpenClaim.laidByTextAt_later rfl rfl tie noOwnUnsafe
theorem builtTells_row_tie : Rows.builtTellsRow.laidByTextAt .later Tryz.pinned [.funcs, .funcs, .data, .funcs] true :=
  OpenClaim.laidByTextAt_later rfl rfl tie noOwnUnsafe
theorem builtLeft_row_tie : Rows.builtLeftRow.laidByTextAt .later Tryz.pinned [.funcs, .funcs, .data, .funcs] true :=
  OpenClaim.laidByTextAt_later rfl rfl tie noOwnUnsafe
theorem builtPartsUpto_row_tie : Rows.builtPartsUptoRow.laidByTextAt .later Tryz.pinned [.funcs, .funcs, .data, .funcs] true :=
  OpenClaim.laidByTextAt_later rfl rfl tie noOwnUnsafe
theorem builtTellsUpto_row_tie : Rows.builtTellsUptoRow.laidByTextAt .later Tryz.pinned [.funcs, .funcs, .data, .funcs] true :=
  OpenClaim.laidByTextAt_later rfl rfl tie noOwnUnsafe
theorem builtLeftUpto_row_tie : Rows.builtLeftUptoRow.laidByTextAt .later Tryz.pinned [.funcs, .funcs, .data, .funcs] true :=
  OpenClaim.laidByTextAt_later rfl rfl tie noOwnUnsafe
end Go.Proofs.YtpolpdegpbahiaaGreatDoor
