/-
  DERIVED. GIVEN WITH THE SEED: THE CARDS: each row of YtipaopbmklbmnaaGreatDoorRows.lean that lists a variable, with what it lists TIED to the program's text (the seventh form; the later family's looks); each row that meets fmt, with fmt's text TOLD by the authors' own Lean function (tested against real Go, not proved from fmt's source: count such statements apart). THE CARD IS WHAT COUNTS. Prove the row's statement (the work); the ties are given (YtipaopbmklbmnaaGreatDoorTie.lean); close each card by the builder's one call (the guide's Derived/Test/ToyasCard.lean, 'card_holds'). Laid BY PROGRAM, IN A SANDBOX (cutbox-door.mjs). By AI agents, Wed Nov 11 2026. No macro, syntax, notation, axiom, sorry.
-/
import Derived.Test.YtipaopbmklbmnaaGreatDoorRows
import GoSem.ClaimSeven
namespace Go.Proofs.YtipaopbmklbmnaaGreatDoor
namespace Rows

/-- THE TIED CARD OF 'bluelinelaw08.BuiltTrue'. -/
def builtTrueCard : Claim7 := { stood := { row := builtTrueRow, standIns := [], harness := (true, "6b435967320f01d8c0b4100aa221356572f39f2d554f695416c1b34111653312"), looks := false }, kinds := [], alts := [], laidByText := true, laidKinds := [.funcs, .funcs, .data, .funcs], laidTests := true, laidLooks := .later }
def BuiltTrueCardSaid : Prop := Claim7.holds Tryz.pinned (.plain (OpenSpec.ofChange builtTrueSpec)) builtTrueCard

/-- THE TIED CARD OF 'bluelinelaw08.BuiltEnds'. -/
def builtEndsCard : Claim7 := { stood := { row := builtEndsRow, standIns := [], harness := (true, "6b435967320f01d8c0b4100aa221356572f39f2d554f695416c1b34111653312"), looks := false }, kinds := [], alts := [], laidByText := true, laidKinds := [.funcs, .funcs, .data, .funcs], laidTests := true, laidLooks := .later }
def BuiltEndsCardSaid : Prop := Claim7.holds Tryz.pinned (.plain (OpenSpec.ofChange builtEndsSpec)) builtEndsCard

/-- THE TIED CARD OF 'bluelinelaw08.BuiltHeap'. -/
def builtHeapCard : Claim7 := { stood := { row := builtHeapRow, standIns := [], harness := (true, "6b435967320f01d8c0b4100aa221356572f39f2d554f695416c1b34111653312"), looks := false }, kinds := [], alts := [], laidByText := true, laidKinds := [.funcs, .funcs, .data, .funcs], laidTests := true, laidLooks := .later }
def BuiltHeapCardSaid : Prop := Claim7.holds Tryz.pinned (.plain (OpenSpec.ofChange builtHeapSpec)) builtHeapCard

/-- THE TIED CARD OF 'bluelinelaw08.BuiltNeeds'. -/
def builtNeedsCard : Claim7 := { stood := { row := builtNeedsRow, standIns := [], harness := (true, "6b435967320f01d8c0b4100aa221356572f39f2d554f695416c1b34111653312"), looks := false }, kinds := [], alts := [], laidByText := true, laidKinds := [.funcs, .funcs, .data, .funcs], laidTests := true, laidLooks := .later }
def BuiltNeedsCardSaid : Prop := Claim7.holds Tryz.pinned (.plain (OpenSpec.ofChange builtNeedsSpec)) builtNeedsCard

/-- THE SECOND FORM's CARD OF 'bluelinelaw08.BuiltTrue'. -/
def builtTrueUptoCard : Claim7 := { stood := { row := builtTrueUptoRow, standIns := [], harness := (true, "6b435967320f01d8c0b4100aa221356572f39f2d554f695416c1b34111653312"), looks := false }, kinds := [], alts := [], laidByText := true, laidKinds := [.funcs, .funcs, .data, .funcs], laidTests := true, laidLooks := .later }
def BuiltTrueUptoCardSaid : Prop := Claim7.holds Tryz.pinned (.plain (OpenSpec.upto builtTrueSpec)) builtTrueUptoCard

/-- THE SECOND FORM's CARD OF 'bluelinelaw08.BuiltEnds'. -/
def builtEndsUptoCard : Claim7 := { stood := { row := builtEndsUptoRow, standIns := [], harness := (true, "6b435967320f01d8c0b4100aa221356572f39f2d554f695416c1b34111653312"), looks := false }, kinds := [], alts := [], laidByText := true, laidKinds := [.funcs, .funcs, .data, .funcs], laidTests := true, laidLooks := .later }
def BuiltEndsUptoCardSaid : Prop := Claim7.holds Tryz.pinned (.plain (OpenSpec.upto builtEndsSpec)) builtEndsUptoCard

/-- THE SECOND FORM's CARD OF 'bluelinelaw08.BuiltHeap'. -/
def builtHeapUptoCard : Claim7 := { stood := { row := builtHeapUptoRow, standIns := [], harness := (true, "6b435967320f01d8c0b4100aa221356572f39f2d554f695416c1b34111653312"), looks := false }, kinds := [], alts := [], laidByText := true, laidKinds := [.funcs, .funcs, .data, .funcs], laidTests := true, laidLooks := .later }
def BuiltHeapUptoCardSaid : Prop := Claim7.holds Tryz.pinned (.plain (OpenSpec.upto builtHeapSpec)) builtHeapUptoCard

/-- THE SECOND FORM's CARD OF 'bluelinelaw08.BuiltNeeds'. -/
def builtNeedsUptoCard : Claim7 := { stood := { row := builtNeedsUptoRow, standIns := [], harness := (true, "6b435967320f01d8c0b4100aa221356572f39f2d554f695416c1b34111653312"), looks := false }, kinds := [], alts := [], laidByText := true, laidKinds := [.funcs, .funcs, .data, .funcs], laidTests := true, laidLooks := .later }
def BuiltNeedsUptoCardSaid : Prop := Claim7.holds Tryz.pinned (.plain (OpenSpec.upto builtNeedsSpec)) builtNeedsUptoCard
end Rows
end Go.Proofs.YtipaopbmklbmnaaGreatDoor
