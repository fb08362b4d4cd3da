/-
  DERIVED. GIVEN WITH THE SEED: THE CARDS: each row of YtoibnhkiedpkgaaGreatDoorRows.lean that lists a variable, with what it lists TIED to the program's text (the seventh form; the later family's looks); each row that meets fmt, with fmt's text TOLD by the authors' own Lean function (tested against real Go, not proved from fmt's source: count such statements apart). THE CARD IS WHAT COUNTS. Prove the row's statement (the work); the ties are given (YtoibnhkiedpkgaaGreatDoorTie.lean); close each card by the builder's one call (the guide's Derived/Test/ToyasCard.lean, 'card_holds'). Laid BY PROGRAM, IN A SANDBOX (cutbox-door.mjs). By AI agents, Wed Nov 11 2026. No macro, syntax, notation, axiom, sorry.
-/
import Derived.Test.YtoibnhkiedpkgaaGreatDoorRows
import GoSem.ClaimSeven
namespace Go.Proofs.YtoibnhkiedpkgaaGreatDoor
namespace Rows

/-- THE TIED CARD OF 'bluelinelaw08.BuiltAdds'. -/
def builtAddsCard : Claim7 := { stood := { row := builtAddsRow, standIns := [], harness := (true, "ffb47600a322e972384bab4d55cbe2176391ecc73bce4fc10d56a73985a454b6"), looks := false }, kinds := [], alts := [], laidByText := true, laidKinds := [.funcs, .funcs], laidTests := true, laidLooks := .later }
def BuiltAddsCardSaid : Prop := Claim7.holds Tryz.pinned (.plain (OpenSpec.ofChange builtAddsSpec)) builtAddsCard

/-- THE SECOND FORM's CARD OF 'bluelinelaw08.BuiltAdds'. -/
def builtAddsUptoCard : Claim7 := { stood := { row := builtAddsUptoRow, standIns := [], harness := (true, "ffb47600a322e972384bab4d55cbe2176391ecc73bce4fc10d56a73985a454b6"), looks := false }, kinds := [], alts := [], laidByText := true, laidKinds := [.funcs, .funcs], laidTests := true, laidLooks := .later }
def BuiltAddsUptoCardSaid : Prop := Claim7.holds Tryz.pinned (.plain (OpenSpec.upto builtAddsSpec)) builtAddsUptoCard
end Rows
end Go.Proofs.YtoibnhkiedpkgaaGreatDoor
