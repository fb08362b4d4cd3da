/-
  DERIVED. GIVEN WITH THE SEED: THE PROGRAM's TIES (one call each: nine closed facts by the kernel) AND EACH ROW's TIE, after the 31st guide's Derived/Test/Toyas{Tie, Card}.lean. No idea stands in it: it is a product of the set-up. Laid BY PROGRAM, IN A SANDBOX (cutbox-door.mjs). By AI agents, Wed Nov 11 2026. No macro, syntax, notation, axiom, sorry.
-/
import Derived.Test.YtipaopbmklbmnaaGreatDoorRows
import Derived.LaidByTextLater
import Derived.SevenTiedAt
import Derived.LaidSub
import Derived.LaidOnce
namespace Go.Proofs.YtipaopbmklbmnaaGreatDoor
open Go
set_option maxRecDepth 100000
theorem seatTie1 : Tryz.prog.laidByTextLater [("blueline/sheet.checks", Rows.laid_blueline_sheet_checks), ("blueline/note.checks", Rows.laid_blueline_note_checks), ("blueline/built.nothing", Rows.laid_blueline_built_nothing), ("blueline/built.kinds", Rows.laid_blueline_built_kinds)] [.funcs, .funcs, .data, .funcs] true :=
  Program.laidByTextLater_by_one 44 8 3 (by kernel_rfl) (by kernel_rfl) (by kernel_rfl) (by kernel_rfl) (by kernel_rfl) (by kernel_rfl) (fun _ _ => by kernel_rfl)
theorem noOwnUnsafe : Tryz.pinned.checked.prog.headLifts.contains "ownunsafe" = false := by kernel_rfl
theorem tie : Tryz.prog.laidByTextLater [("blueline/sheet.checks", Rows.laid_blueline_sheet_checks), ("blueline/note.checks", Rows.laid_blueline_note_checks), ("blueline/built.nothing", Rows.laid_blueline_built_nothing), ("blueline/built.kinds", Rows.laid_blueline_built_kinds)] [.funcs, .funcs, .data, .funcs] true :=
  Program.laidByTextLater.sub seatTie1 ["blueline/sheet.checks", "blueline/note.checks", "blueline/built.nothing", "blueline/built.kinds"] (by kernel_rfl) (by kernel_rfl)
theorem builtTrue_row_tie : Rows.builtTrueRow.laidByTextAt .later Tryz.pinned [.funcs, .funcs, .data, .funcs] true :=
  OpenClaim.laidByTextAt_later rfl rfl tie noOwnUnsafe
theorem builtEnds_row_tie : Rows.builtEndsRow.laidByTextAt .later Tryz.pinned [.funcs, .funcs, .data, .funcs] true :=
  OpenClaim.laidByTextAt_later rfl rfl tie noOwnUnsafe
theorem builtHeap_row_tie : Rows.builtHeapRow.laidByTextAt .later Tryz.pinned [.funcs, .funcs, .data, .funcs] true :=
  OpenClaim.laidByTextAt_later rfl rfl tie noOwnUnsafe
theorem builtNeeds_row_tie : Rows.builtNeedsRow.laidByTextAt .later Tryz.pinned [.funcs, .funcs, .data, .funcs] true :=
  OpenClaim.laidByTextAt_later rfl rfl tie noOwnUnsafe
theorem builtTrueUpto_row_tie : Rows.builtTrueUptoRow.laidByTextAt .later Tryz.pinned [.funcs, .funcs, .data, .funcs] true :=
  OpenClaim.laidByTextAt_later rfl rfl tie noOwnUnsafe
theorem builtEndsUpto_row_tie : Rows.builtEndsUptoRow.laidByTextAt .later Tryz.pinned [.funcs, .funcs, .data, .funcs] true :=
  OpenClaim.laidByTextAt_later rfl rfl tie noOwnUnsafe
theorem builtHeapUpto_row_tie : Rows.builtHeapUptoRow.laidByTextAt .later Tryz.pinned [.funcs, .funcs, .data, .funcs] true :=
  OpenClaim.laidByTextAt_later rfl rfl tie noOwnUnsafe
theorem builtNeedsUpto_row_tie : Rows.builtNeedsUptoRow.laidByTextAt .later Tryz.pinned [.funcs, .funcs, .data, .funcs] true :=
  OpenClaim.laidByTextAt_later rfl rfl tie noOwnUnsafe
end Go.Proofs.YtipaopbmklbmnaaGreatDoor
