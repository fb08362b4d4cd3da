/-
  NARROWER THAN 'FOR EVERY INPUT', by the rows' own cells (each row's printed sentence says how): BuiltExamples: laid · BuiltMore: laid · BuiltWithdrawn: laid · BuiltOrder: laid · BuiltKnown: laid.
  DERIVED. THE GIVEN ROWS OF THIS SEAT. 5 by the template 'for every input the law returns true; each argument reads behind the call as it read before'; 0 by the template 'total and deterministic' (their statements: YtjleiiinibdepaaGreatDoorTotals.lean).
  GIVEN WITH THE SEED: the statements are not yours to turn. If you find one false, say at which input.
  Laid BY PROGRAM, IN A SANDBOX (cutbox-rows.mjs): the forced cells as the released guide's own fill.sh prints them over the translation db72a8153f4e5a6c… (all of the seat's roots in one cut). By AI agents, Wed Nov 11 2026. No macro, syntax, notation, axiom, sorry.
-/
import Derived.Test.YtjleiiinibdepaaGreatDoorChecked
import GoSem.Claim
import GoSem.ClaimJoined
import GoSem.ClaimMapViews
import Derived.JoinedTies
import Derived.KernelRfl
namespace Go.Proofs.YtjleiiinibdepaaGreatDoor
/- THE CELL 'sum', in the pinned program and in every row, IS THE sha256 OF THE DUMP (.gsa) THAT YtjleiiinibdepaaGreatDoorProg.lean LOADS. Nothing in Lean hashes anything: it is a label: what it is worth is what the hold of that sum in a sandbox is worth. -/
noncomputable def Tryz.pinned : Pinned := { name := "ytjleiiinibdepaagreatdoor", sum := "db72a8153f4e5a6cc8f10a99e2793dd77fba60483c306473e3d7baf55cdce66f", checked := Tryz.checked }
namespace Rows
def none {H : Type} : Left H := { results := [], args := [] }

/- WHAT THE LISTED PACKAGE-LEVEL VARIABLES READ AS WHEN THE CALL BEGINS. Each datum BY PROGRAM (the guide's laid-datum.mjs) off the statement by which the dump's own 'gosem.cut.vars' lays the variable. In a bare row this is a premise. The card (YtjleiiinibdepaaGreatDoorCards.lean) ties it to the program's text. -/
def laid_blueline_sheet_checks {H : Type} : DataW H := .iface "func table" (.agg [.agg [.iface "func" (.lit (.string [98, 108, 117, 101, 108, 105, 110, 101, 47, 115, 104, 101, 101, 116, 46, 99, 104, 101, 99, 107, 115, 36, 49]))], .agg [.iface "func" (.lit (.string [98, 108, 117, 101, 108, 105, 110, 101, 47, 115, 104, 101, 101, 116, 46, 99, 104, 101, 99, 107, 115, 36, 50]))], .agg [.iface "func" (.lit (.string [98, 108, 117, 101, 108, 105, 110, 101, 47, 115, 104, 101, 101, 116, 46, 99, 104, 101, 99, 107, 115, 36, 51]))], .agg [.iface "func" (.lit (.string [98, 108, 117, 101, 108, 105, 110, 101, 47, 115, 104, 101, 101, 116, 46, 99, 104, 101, 99, 107, 115, 36, 52]))]])
def laid_blueline_note_checks {H : Type} : DataW H := .iface "func table" (.agg [.agg [.iface "func" (.lit (.string [98, 108, 117, 101, 108, 105, 110, 101, 47, 110, 111, 116, 101, 46, 99, 104, 101, 99, 107, 115, 36, 49]))], .agg [.iface "func" (.lit (.string [98, 108, 117, 101, 108, 105, 110, 101, 47, 110, 111, 116, 101, 46, 99, 104, 101, 99, 107, 115, 36, 50]))], .agg [.iface "func" (.lit (.string [98, 108, 117, 101, 108, 105, 110, 101, 47, 110, 111, 116, 101, 46, 99, 104, 101, 99, 107, 115, 36, 51]))], .agg [.iface "func" (.lit (.string [98, 108, 117, 101, 108, 105, 110, 101, 47, 110, 111, 116, 101, 46, 99, 104, 101, 99, 107, 115, 36, 52]))], .agg [.iface "func" (.lit (.string [98, 108, 117, 101, 108, 105, 110, 101, 47, 110, 111, 116, 101, 46, 99, 104, 101, 99, 107, 115, 36, 53]))], .agg [.iface "func" (.lit (.string [98, 108, 117, 101, 108, 105, 110, 101, 47, 110, 111, 116, 101, 46, 99, 104, 101, 99, 107, 115, 36, 54]))], .agg [.iface "func" (.lit (.string [98, 108, 117, 101, 108, 105, 110, 101, 47, 110, 111, 116, 101, 46, 99, 104, 101, 99, 107, 115, 36, 55]))], .agg [.iface "func" (.lit (.string [98, 108, 117, 101, 108, 105, 110, 101, 47, 110, 111, 116, 101, 46, 99, 104, 101, 99, 107, 115, 36, 56]))]])
def laid_blueline_built_nothing {H : Type} : DataW H := .agg [.lit (.int .i64 1), .lit (.int .i64 0)]
def laid_blueline_built_kinds {H : Type} : DataW H := .iface "func table" (.agg [.agg [.nil, .nil], .agg [.iface "func" (.lit (.string [98, 108, 117, 101, 108, 105, 110, 101, 47, 98, 117, 105, 108, 116, 46, 107, 105, 110, 100, 115, 36, 49])), .iface "func" (.lit (.string [98, 108, 117, 101, 108, 105, 110, 101, 47, 98, 117, 105, 108, 116, 46, 107, 105, 110, 100, 115, 36, 50]))], .agg [.iface "func" (.lit (.string [98, 108, 117, 101, 108, 105, 110, 101, 47, 98, 117, 105, 108, 116, 46, 107, 105, 110, 100, 115, 36, 51])), .iface "func" (.lit (.string [98, 108, 117, 101, 108, 105, 110, 101, 47, 98, 117, 105, 108, 116, 46, 107, 105, 110, 100, 115, 36, 52]))], .agg [.iface "func" (.lit (.string [98, 108, 117, 101, 108, 105, 110, 101, 47, 98, 117, 105, 108, 116, 46, 107, 105, 110, 100, 115, 36, 53])), .iface "func" (.lit (.string [98, 108, 117, 101, 108, 105, 110, 101, 47, 98, 117, 105, 108, 116, 46, 107, 105, 110, 100, 115, 36, 54]))]])

/-- 'bluelinelaw08.BuiltExamples': WHATEVER THE INPUT: true; the input reads as it did. -/
def builtExamplesSpec : ChangeSpec := { name := "builtExamples", fn := fun _ => fun
  | [] => { results := [.lit (.bool true)], args := [] }
  | _ => none }
def builtExamplesRow : OpenClaim := { program := "ytjleiiinibdepaagreatdoor", sum := "db72a8153f4e5a6cc8f10a99e2793dd77fba60483c306473e3d7baf55cdce66f", func := "blueline/bluelinelaw08.BuiltExamples", spec := "builtExamples", unfollowed := true, recurses := true, named := ["blueline/note.checks", "blueline/sheet.checks", "blueline/built.nothing", "blueline/built.kinds"], plainKeys := false, apart := false, laid := [("blueline/sheet.checks", laid_blueline_sheet_checks), ("blueline/note.checks", laid_blueline_note_checks), ("blueline/built.nothing", laid_blueline_built_nothing), ("blueline/built.kinds", laid_blueline_built_kinds)] }
def BuiltExamplesSaid : Prop := builtExamplesRow.holds Tryz.pinned (OpenSpec.ofChange builtExamplesSpec)

/-- ITS FALSE NEIGHBOUR: 'it returns false'. Refute it at one input. -/
def builtExamplesWrong : ChangeSpec := { name := "builtExamples", fn := fun _ => fun
  | [] => { results := [.lit (.bool false)], args := [] }
  | _ => none }
def BuiltExamplesWrongFalsely : Prop := builtExamplesRow.holds Tryz.pinned (OpenSpec.ofChange builtExamplesWrong)

/-- 'bluelinelaw08.BuiltMore': WHATEVER THE INPUT: true; the input reads as it did. -/
def builtMoreSpec : ChangeSpec := { name := "builtMore", fn := fun _ => fun
  | [d1, d2, d3, d4] => { results := [.lit (.bool true)], args := [d1, d2, d3, d4] }
  | _ => none }
def builtMoreRow : OpenClaim := { program := "ytjleiiinibdepaagreatdoor", sum := "db72a8153f4e5a6cc8f10a99e2793dd77fba60483c306473e3d7baf55cdce66f", func := "blueline/bluelinelaw08.BuiltMore", spec := "builtMore", unfollowed := true, recurses := true, named := ["blueline/note.checks", "blueline/sheet.checks", "blueline/built.nothing", "blueline/built.kinds"], plainKeys := false, apart := false, laid := [("blueline/sheet.checks", laid_blueline_sheet_checks), ("blueline/note.checks", laid_blueline_note_checks), ("blueline/built.nothing", laid_blueline_built_nothing), ("blueline/built.kinds", laid_blueline_built_kinds)] }
def BuiltMoreSaid : Prop := builtMoreRow.holds Tryz.pinned (OpenSpec.ofChange builtMoreSpec)

/-- ITS FALSE NEIGHBOUR: 'it returns false'. Refute it at one input. -/
def builtMoreWrong : ChangeSpec := { name := "builtMore", fn := fun _ => fun
  | [d1, d2, d3, d4] => { results := [.lit (.bool false)], args := [d1, d2, d3, d4] }
  | _ => none }
def BuiltMoreWrongFalsely : Prop := builtMoreRow.holds Tryz.pinned (OpenSpec.ofChange builtMoreWrong)

/-- 'bluelinelaw08.BuiltWithdrawn': WHATEVER THE INPUT: true; the input reads as it did. -/
def builtWithdrawnSpec : ChangeSpec := { name := "builtWithdrawn", fn := fun _ => fun
  | [d1, d2] => { results := [.lit (.bool true)], args := [d1, d2] }
  | _ => none }
def builtWithdrawnRow : OpenClaim := { program := "ytjleiiinibdepaagreatdoor", sum := "db72a8153f4e5a6cc8f10a99e2793dd77fba60483c306473e3d7baf55cdce66f", func := "blueline/bluelinelaw08.BuiltWithdrawn", spec := "builtWithdrawn", unfollowed := true, recurses := true, named := ["blueline/note.checks", "blueline/sheet.checks", "blueline/built.nothing", "blueline/built.kinds"], plainKeys := false, apart := false, laid := [("blueline/sheet.checks", laid_blueline_sheet_checks), ("blueline/note.checks", laid_blueline_note_checks), ("blueline/built.nothing", laid_blueline_built_nothing), ("blueline/built.kinds", laid_blueline_built_kinds)] }
def BuiltWithdrawnSaid : Prop := builtWithdrawnRow.holds Tryz.pinned (OpenSpec.ofChange builtWithdrawnSpec)

/-- ITS FALSE NEIGHBOUR: 'it returns false'. Refute it at one input. -/
def builtWithdrawnWrong : ChangeSpec := { name := "builtWithdrawn", fn := fun _ => fun
  | [d1, d2] => { results := [.lit (.bool false)], args := [d1, d2] }
  | _ => none }
def BuiltWithdrawnWrongFalsely : Prop := builtWithdrawnRow.holds Tryz.pinned (OpenSpec.ofChange builtWithdrawnWrong)

/-- 'bluelinelaw08.BuiltOrder': WHATEVER THE INPUT: true; the input reads as it did. -/
def builtOrderSpec : ChangeSpec := { name := "builtOrder", fn := fun _ => fun
  | [d1, d2] => { results := [.lit (.bool true)], args := [d1, d2] }
  | _ => none }
def builtOrderRow : OpenClaim := { program := "ytjleiiinibdepaagreatdoor", sum := "db72a8153f4e5a6cc8f10a99e2793dd77fba60483c306473e3d7baf55cdce66f", func := "blueline/bluelinelaw08.BuiltOrder", spec := "builtOrder", unfollowed := true, recurses := true, named := ["blueline/note.checks", "blueline/sheet.checks", "blueline/built.nothing", "blueline/built.kinds"], plainKeys := false, apart := false, laid := [("blueline/sheet.checks", laid_blueline_sheet_checks), ("blueline/note.checks", laid_blueline_note_checks), ("blueline/built.nothing", laid_blueline_built_nothing), ("blueline/built.kinds", laid_blueline_built_kinds)] }
def BuiltOrderSaid : Prop := builtOrderRow.holds Tryz.pinned (OpenSpec.ofChange builtOrderSpec)

/-- ITS FALSE NEIGHBOUR: 'it returns false'. Refute it at one input. -/
def builtOrderWrong : ChangeSpec := { name := "builtOrder", fn := fun _ => fun
  | [d1, d2] => { results := [.lit (.bool false)], args := [d1, d2] }
  | _ => none }
def BuiltOrderWrongFalsely : Prop := builtOrderRow.holds Tryz.pinned (OpenSpec.ofChange builtOrderWrong)

/-- 'bluelinelaw08.BuiltKnown': WHATEVER THE INPUT: true; the input reads as it did. -/
def builtKnownSpec : ChangeSpec := { name := "builtKnown", fn := fun _ => fun
  | [d1, d2, d3] => { results := [.lit (.bool true)], args := [d1, d2, d3] }
  | _ => none }
def builtKnownRow : OpenClaim := { program := "ytjleiiinibdepaagreatdoor", sum := "db72a8153f4e5a6cc8f10a99e2793dd77fba60483c306473e3d7baf55cdce66f", func := "blueline/bluelinelaw08.BuiltKnown", spec := "builtKnown", unfollowed := true, recurses := true, named := ["blueline/note.checks", "blueline/sheet.checks", "blueline/built.nothing", "blueline/built.kinds"], plainKeys := false, apart := false, laid := [("blueline/sheet.checks", laid_blueline_sheet_checks), ("blueline/note.checks", laid_blueline_note_checks), ("blueline/built.nothing", laid_blueline_built_nothing), ("blueline/built.kinds", laid_blueline_built_kinds)] }
def BuiltKnownSaid : Prop := builtKnownRow.holds Tryz.pinned (OpenSpec.ofChange builtKnownSpec)

/-- ITS FALSE NEIGHBOUR: 'it returns false'. Refute it at one input. -/
def builtKnownWrong : ChangeSpec := { name := "builtKnown", fn := fun _ => fun
  | [d1, d2, d3] => { results := [.lit (.bool false)], args := [d1, d2, d3] }
  | _ => none }
def BuiltKnownWrongFalsely : Prop := builtKnownRow.holds Tryz.pinned (OpenSpec.ofChange builtKnownWrong)

/- THE SECOND FORM. 'bulk': how many values and letters a reading holds, each counted each time it is reached (what is shared counts as often as it is met; a slice's spare places count too). A statement '..UptoSaid' is the law's where the arguments, and the package variables that the reading takes, are together of bulk at most 1048576: NARROWER than '..Said'. Prove '..Said' where nothing that the law and all that it calls make is longer than what came in: it says more and counts as full. Else prove '..UptoSaid'. A law counts once. -/
mutual
def uptoBulk {H : Type} : DataW H → Nat
  | .lit (.string bytes) => bytes.length + 1
  | .lit _ => 1
  | .nil => 1
  | .ptr d => uptoBulk d + 1
  | .slice elems spare => uptoBulkAll elems + uptoBulkAll spare + 1
  | .agg parts => uptoBulkAll parts + 1
  | .iface _ d => uptoBulk d + 1
  | .map entries => uptoBulkEntries entries + 1
  | .held _ => 1
def uptoBulkAll {H : Type} : List (DataW H) → Nat
  | [] => 0
  | d :: r => uptoBulk d + uptoBulkAll r
def uptoBulkEntries {H : Type} : List (Lit × DataW H) → Nat
  | [] => 0
  | x :: r => uptoBulkEntry x + uptoBulkEntries r
def uptoBulkEntry {H : Type} : Lit × DataW H → Nat
  | (.string bytes, d) => bytes.length + uptoBulk d + 1
  | (_, d) => uptoBulk d + 1
 end
def uptoSmall : (H : Type) → List (DataW H) → Bool := fun _ ds => decide (uptoBulkAll ds ≤ 1048576)
def OpenSpec.upto (s : _root_.Go.ChangeSpec) : _root_.Go.OpenSpec := { _root_.Go.OpenSpec.ofChange s with cond := some uptoSmall }

/-- 'bluelinelaw08.BuiltExamples', WHERE WHAT IT READS IS OF BULK AT MOST 1048576: true; the input reads as it did. -/
def builtExamplesUptoRow : OpenClaim := { program := "ytjleiiinibdepaagreatdoor", sum := "db72a8153f4e5a6cc8f10a99e2793dd77fba60483c306473e3d7baf55cdce66f", func := "blueline/bluelinelaw08.BuiltExamples", spec := "builtExamples", unfollowed := true, recurses := true, named := ["blueline/note.checks", "blueline/sheet.checks", "blueline/built.nothing", "blueline/built.kinds"], plainKeys := false, apart := false, laid := [("blueline/sheet.checks", laid_blueline_sheet_checks), ("blueline/note.checks", laid_blueline_note_checks), ("blueline/built.nothing", laid_blueline_built_nothing), ("blueline/built.kinds", laid_blueline_built_kinds)], narrowed := true }
def BuiltExamplesUptoSaid : Prop := builtExamplesUptoRow.holds Tryz.pinned (OpenSpec.upto builtExamplesSpec)

/-- 'bluelinelaw08.BuiltMore', WHERE WHAT IT READS IS OF BULK AT MOST 1048576: true; the input reads as it did. -/
def builtMoreUptoRow : OpenClaim := { program := "ytjleiiinibdepaagreatdoor", sum := "db72a8153f4e5a6cc8f10a99e2793dd77fba60483c306473e3d7baf55cdce66f", func := "blueline/bluelinelaw08.BuiltMore", spec := "builtMore", unfollowed := true, recurses := true, named := ["blueline/note.checks", "blueline/sheet.checks", "blueline/built.nothing", "blueline/built.kinds"], plainKeys := false, apart := false, laid := [("blueline/sheet.checks", laid_blueline_sheet_checks), ("blueline/note.checks", laid_blueline_note_checks), ("blueline/built.nothing", laid_blueline_built_nothing), ("blueline/built.kinds", laid_blueline_built_kinds)], narrowed := true }
def BuiltMoreUptoSaid : Prop := builtMoreUptoRow.holds Tryz.pinned (OpenSpec.upto builtMoreSpec)

/-- 'bluelinelaw08.BuiltWithdrawn', WHERE WHAT IT READS IS OF BULK AT MOST 1048576: true; the input reads as it did. -/
def builtWithdrawnUptoRow : OpenClaim := { program := "ytjleiiinibdepaagreatdoor", sum := "db72a8153f4e5a6cc8f10a99e2793dd77fba60483c306473e3d7baf55cdce66f", func := "blueline/bluelinelaw08.BuiltWithdrawn", spec := "builtWithdrawn", unfollowed := true, recurses := true, named := ["blueline/note.checks", "blueline/sheet.checks", "blueline/built.nothing", "blueline/built.kinds"], plainKeys := false, apart := false, laid := [("blueline/sheet.checks", laid_blueline_sheet_checks), ("blueline/note.checks", laid_blueline_note_checks), ("blueline/built.nothing", laid_blueline_built_nothing), ("blueline/built.kinds", laid_blueline_built_kinds)], narrowed := true }
def BuiltWithdrawnUptoSaid : Prop := builtWithdrawnUptoRow.holds Tryz.pinned (OpenSpec.upto builtWithdrawnSpec)

/-- 'bluelinelaw08.BuiltOrder', WHERE WHAT IT READS IS OF BULK AT MOST 1048576: true; the input reads as it did. -/
def builtOrderUptoRow : OpenClaim := { program := "ytjleiiinibdepaagreatdoor", sum := "db72a8153f4e5a6cc8f10a99e2793dd77fba60483c306473e3d7baf55cdce66f", func := "blueline/bluelinelaw08.BuiltOrder", spec := "builtOrder", unfollowed := true, recurses := true, named := ["blueline/note.checks", "blueline/sheet.checks", "blueline/built.nothing", "blueline/built.kinds"], plainKeys := false, apart := false, laid := [("blueline/sheet.checks", laid_blueline_sheet_checks), ("blueline/note.checks", laid_blueline_note_checks), ("blueline/built.nothing", laid_blueline_built_nothing), ("blueline/built.kinds", laid_blueline_built_kinds)], narrowed := true }
def BuiltOrderUptoSaid : Prop := builtOrderUptoRow.holds Tryz.pinned (OpenSpec.upto builtOrderSpec)

/-- 'bluelinelaw08.BuiltKnown', WHERE WHAT IT READS IS OF BULK AT MOST 1048576: true; the input reads as it did. -/
def builtKnownUptoRow : OpenClaim := { program := "ytjleiiinibdepaagreatdoor", sum := "db72a8153f4e5a6cc8f10a99e2793dd77fba60483c306473e3d7baf55cdce66f", func := "blueline/bluelinelaw08.BuiltKnown", spec := "builtKnown", unfollowed := true, recurses := true, named := ["blueline/note.checks", "blueline/sheet.checks", "blueline/built.nothing", "blueline/built.kinds"], plainKeys := false, apart := false, laid := [("blueline/sheet.checks", laid_blueline_sheet_checks), ("blueline/note.checks", laid_blueline_note_checks), ("blueline/built.nothing", laid_blueline_built_nothing), ("blueline/built.kinds", laid_blueline_built_kinds)], narrowed := true }
def BuiltKnownUptoSaid : Prop := builtKnownUptoRow.holds Tryz.pinned (OpenSpec.upto builtKnownSpec)

end Rows
end Go.Proofs.YtjleiiinibdepaaGreatDoor
