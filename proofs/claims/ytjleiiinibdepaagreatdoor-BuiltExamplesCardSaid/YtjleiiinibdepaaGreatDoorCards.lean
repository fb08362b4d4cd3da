/-
  DERIVED. GIVEN WITH THE SEED: THE CARDS: each row of YtjleiiinibdepaaGreatDoorRows.lean that lists a variable, with what it lists TIED to the program's text (the seventh form; the later family's looks); each row that meets fmt, with fmt's text TOLD by the authors' own Lean function (tested against real Go, not proved from fmt's source: count such statements apart). THE CARD IS WHAT COUNTS. Prove the row's statement (the work); the ties are given (YtjleiiinibdepaaGreatDoorTie.lean); close each card by the builder's one call (the guide's Derived/Test/ToyasCard.lean, 'card_holds'). Laid BY PROGRAM, IN A SANDBOX (cutbox-door.mjs). By AI agents, Wed Nov 11 2026. No macro, syntax, notation, axiom, sorry.
-/
import Derived.Test.YtjleiiinibdepaaGreatDoorRows
import GoSem.ClaimSeven
namespace Go.Proofs.YtjleiiinibdepaaGreatDoor
namespace Rows

/-- THE TIED CARD OF 'bluelinelaw08.BuiltExamples'. -/
def builtExamplesCard : Claim7 := { stood := { row := builtExamplesRow, standIns := [], harness := (true, "a842b2b334bf2835bc00a290728c6c530c9defa7e39a6824a6af5040e143c24d"), looks := false }, kinds := [], alts := [], laidByText := true, laidKinds := [.funcs, .funcs, .data, .funcs], laidTests := true, laidLooks := .later }
def BuiltExamplesCardSaid : Prop := Claim7.holds Tryz.pinned (.plain (OpenSpec.ofChange builtExamplesSpec)) builtExamplesCard

/-- THE TIED CARD OF 'bluelinelaw08.BuiltMore'. -/
def builtMoreCard : Claim7 := { stood := { row := builtMoreRow, standIns := [], harness := (true, "a842b2b334bf2835bc00a290728c6c530c9defa7e39a6824a6af5040e143c24d"), looks := false }, kinds := [], alts := [], laidByText := true, laidKinds := [.funcs, .funcs, .data, .funcs], laidTests := true, laidLooks := .later }
def BuiltMoreCardSaid : Prop := Claim7.holds Tryz.pinned (.plain (OpenSpec.ofChange builtMoreSpec)) builtMoreCard

/-- THE TIED CARD OF 'bluelinelaw08.BuiltWithdrawn'. -/
def builtWithdrawnCard : Claim7 := { stood := { row := builtWithdrawnRow, standIns := [], harness := (true, "a842b2b334bf2835bc00a290728c6c530c9defa7e39a6824a6af5040e143c24d"), looks := false }, kinds := [], alts := [], laidByText := true, laidKinds := [.funcs, .funcs, .data, .funcs], laidTests := true, laidLooks := .later }
def BuiltWithdrawnCardSaid : Prop := Claim7.holds Tryz.pinned (.plain (OpenSpec.ofChange builtWithdrawnSpec)) builtWithdrawnCard

/-- THE TIED CARD OF 'bluelinelaw08.BuiltOrder'. -/
def builtOrderCard : Claim7 := { stood := { row := builtOrderRow, standIns := [], harness := (true, "a842b2b334bf2835bc00a290728c6c530c9defa7e39a6824a6af5040e143c24d"), looks := false }, kinds := [], alts := [], laidByText := true, laidKinds := [.funcs, .funcs, .data, .funcs], laidTests := true, laidLooks := .later }
def BuiltOrderCardSaid : Prop := Claim7.holds Tryz.pinned (.plain (OpenSpec.ofChange builtOrderSpec)) builtOrderCard

/-- THE TIED CARD OF 'bluelinelaw08.BuiltKnown'. -/
def builtKnownCard : Claim7 := { stood := { row := builtKnownRow, standIns := [], harness := (true, "a842b2b334bf2835bc00a290728c6c530c9defa7e39a6824a6af5040e143c24d"), looks := false }, kinds := [], alts := [], laidByText := true, laidKinds := [.funcs, .funcs, .data, .funcs], laidTests := true, laidLooks := .later }
def BuiltKnownCardSaid : Prop := Claim7.holds Tryz.pinned (.plain (OpenSpec.ofChange builtKnownSpec)) builtKnownCard

/-- THE SECOND FORM's CARD OF 'bluelinelaw08.BuiltExamples'. -/
def builtExamplesUptoCard : Claim7 := { stood := { row := builtExamplesUptoRow, standIns := [], harness := (true, "a842b2b334bf2835bc00a290728c6c530c9defa7e39a6824a6af5040e143c24d"), looks := false }, kinds := [], alts := [], laidByText := true, laidKinds := [.funcs, .funcs, .data, .funcs], laidTests := true, laidLooks := .later }
def BuiltExamplesUptoCardSaid : Prop := Claim7.holds Tryz.pinned (.plain (OpenSpec.upto builtExamplesSpec)) builtExamplesUptoCard

/-- THE SECOND FORM's CARD OF 'bluelinelaw08.BuiltMore'. -/
def builtMoreUptoCard : Claim7 := { stood := { row := builtMoreUptoRow, standIns := [], harness := (true, "a842b2b334bf2835bc00a290728c6c530c9defa7e39a6824a6af5040e143c24d"), looks := false }, kinds := [], alts := [], laidByText := true, laidKinds := [.funcs, .funcs, .data, .funcs], laidTests := true, laidLooks := .later }
def BuiltMoreUptoCardSaid : Prop := Claim7.holds Tryz.pinned (.plain (OpenSpec.upto builtMoreSpec)) builtMoreUptoCard

/-- THE SECOND FORM's CARD OF 'bluelinelaw08.BuiltWithdrawn'. -/
def builtWithdrawnUptoCard : Claim7 := { stood := { row := builtWithdrawnUptoRow, standIns := [], harness := (true, "a842b2b334bf2835bc00a290728c6c530c9defa7e39a6824a6af5040e143c24d"), looks := false }, kinds := [], alts := [], laidByText := true, laidKinds := [.funcs, .funcs, .data, .funcs], laidTests := true, laidLooks := .later }
def BuiltWithdrawnUptoCardSaid : Prop := Claim7.holds Tryz.pinned (.plain (OpenSpec.upto builtWithdrawnSpec)) builtWithdrawnUptoCard

/-- THE SECOND FORM's CARD OF 'bluelinelaw08.BuiltOrder'. -/
def builtOrderUptoCard : Claim7 := { stood := { row := builtOrderUptoRow, standIns := [], harness := (true, "a842b2b334bf2835bc00a290728c6c530c9defa7e39a6824a6af5040e143c24d"), looks := false }, kinds := [], alts := [], laidByText := true, laidKinds := [.funcs, .funcs, .data, .funcs], laidTests := true, laidLooks := .later }
def BuiltOrderUptoCardSaid : Prop := Claim7.holds Tryz.pinned (.plain (OpenSpec.upto builtOrderSpec)) builtOrderUptoCard

/-- THE SECOND FORM's CARD OF 'bluelinelaw08.BuiltKnown'. -/
def builtKnownUptoCard : Claim7 := { stood := { row := builtKnownUptoRow, standIns := [], harness := (true, "a842b2b334bf2835bc00a290728c6c530c9defa7e39a6824a6af5040e143c24d"), looks := false }, kinds := [], alts := [], laidByText := true, laidKinds := [.funcs, .funcs, .data, .funcs], laidTests := true, laidLooks := .later }
def BuiltKnownUptoCardSaid : Prop := Claim7.holds Tryz.pinned (.plain (OpenSpec.upto builtKnownSpec)) builtKnownUptoCard
end Rows
end Go.Proofs.YtjleiiinibdepaaGreatDoor
