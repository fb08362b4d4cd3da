/-
  DERIVED. GIVEN WITH THE SEED: THE CARDS: each row of YtpolpdegpbahiaaGreatDoorRows.lean that lists a variable, with what it lists TIED to the program's text (the seventh form; the later family's looks); each row that meets fmt, with fmt's text TOLD by the authors' own Lean function (tested against real Go, not proved from fmt's source: count such statements apart). THE CARD IS WHAT COUNTS. Prove the row's statement (the work); the ties are given (YtpolpdegpbahiaaGreatDoorTie.lean); close each card by the builder's one call (the guide's Derived/Test/ToyasCard.lean, 'card_holds'). Laid BY PROGRAM, IN A SANDBOX (cutbox-door.mjs). By AI agents, Wed Nov 11 2026. No macro, syntax, notation, axiom, sorry.
-/
import Derived.Test.YtpolpdegpbahiaaGreatDoorRows
import GoSem.ClaimSeven
namespace Go.Proofs.YtpolpdegpbahiaaGreatDoor
namespace Rows

/-- THE TIED CARD OF 'bluelinelaw08.BuiltParts'. -/
def builtPartsCard : Claim7 := { stood := { row := builtPartsRow, standIns := [], harness := (true, "5a628c4009b91138cac520b64729847951568090d1c676d27ca6317a917168eb"), looks := false }, kinds := [], alts := [], laidByText := true, laidKinds := [.funcs, .funcs, .data, .funcs], laidTests := true, laidLooks := .later }
def BuiltPartsCardSaid : Prop := Claim7.holds Tryz.pinned (.plain (OpenSpec.ofChange builtPartsSpec)) builtPartsCard

/-- THE TIED CARD OF 'bluelinelaw08.BuiltTells'. -/
def builtTellsCard : Claim7 := { stood := { row := builtTellsRow, standIns := [], harness := (true, "5a628c4009b91138cac520b64729847951568090d1c676d27ca6317a917168eb"), looks := false }, kinds := [], alts := [], laidByText := true, laidKinds := [.funcs, .funcs, .data, .funcs], laidTests := true, laidLooks := .later }
def BuiltTellsCardSaid : Prop := Claim7.holds Tryz.pinned (.plain (OpenSpec.ofChange builtTellsSpec)) builtTellsCard

/-- THE TIED CARD OF 'bluelinelaw08.BuiltLeft'. -/
def builtLeftCard : Claim7 := { stood := { row := builtLeftRow, standIns := [], harness := (true, "5a628c4009b91138cac520b64729847951568090d1c676d27ca6317a917168eb"), looks := false }, kinds := [], alts := [], laidByText := true, laidKinds := [.funcs, .funcs, .data, .funcs], laidTests := true, laidLooks := .later }
def BuiltLeftCardSaid : Prop := Claim7.holds Tryz.pinned (.plain (OpenSpec.ofChange builtLeftSpec)) builtLeftCard

/-- THE SECOND FORM's CARD OF 'bluelinelaw08.BuiltParts'. -/
def builtPartsUptoCard : Claim7 := { stood := { row := builtPartsUptoRow, standIns := [], harness := (true, "5a628c4009b91138cac520b64729847951568090d1c676d27ca6317a917168eb"), looks := false }, kinds := [], alts := [], laidByText := true, laidKinds := [.funcs, .funcs, .data, .funcs], laidTests := true, laidLooks := .later }
def BuiltPartsUptoCardSaid : Prop := Claim7.holds Tryz.pinned (.plain (OpenSpec.upto builtPartsSpec)) builtPartsUptoCard

/-- THE SECOND FORM's CARD OF 'bluelinelaw08.BuiltTells'. -/
def builtTellsUptoCard : Claim7 := { stood := { row := builtTellsUptoRow, standIns := [], harness := (true, "5a628c4009b91138cac520b64729847951568090d1c676d27ca6317a917168eb"), looks := false }, kinds := [], alts := [], laidByText := true, laidKinds := [.funcs, .funcs, .data, .funcs], laidTests := true, laidLooks := .later }
def BuiltTellsUptoCardSaid : Prop := Claim7.holds Tryz.pinned (.plain (OpenSpec.upto builtTellsSpec)) builtTellsUptoCard

/-- THE SECOND FORM's CARD OF 'bluelinelaw08.BuiltLeft'. -/
def builtLeftUptoCard : Claim7 := { stood := { row := builtLeftUptoRow, standIns := [], harness := (true, "5a628c4009b91138cac520b64729847951568090d1c676d27ca6317a917168eb"), looks := false }, kinds := [], alts := [], laidByText := true, laidKinds := [.funcs, .funcs, .data, .funcs], laidTests := true, laidLooks := .later }
def BuiltLeftUptoCardSaid : Prop := Claim7.holds Tryz.pinned (.plain (OpenSpec.upto builtLeftSpec)) builtLeftUptoCard
end Rows
end Go.Proofs.YtpolpdegpbahiaaGreatDoor
