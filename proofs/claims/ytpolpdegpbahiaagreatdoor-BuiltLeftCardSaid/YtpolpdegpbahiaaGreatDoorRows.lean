/-
  NARROWER THAN 'FOR EVERY INPUT', by the rows' own cells (each row's printed sentence says how): BuiltParts: laid · BuiltTells: laid · BuiltLeft: laid.
  DERIVED. THE GIVEN ROWS OF THIS SEAT. 3 by the template 'for every input the law returns true; each argument reads behind the call as it read before'; 0 by the template 'total and deterministic' (their statements: YtpolpdegpbahiaaGreatDoorTotals.lean).
  GIVEN WITH THE SEED: the statements are not yours to turn. If you find one false, say at which input.
  Laid BY PROGRAM, IN A SANDBOX (cutbox-rows.mjs): the forced cells as the released guide's own fill.sh prints them over the translation 042a16437e7e7d9d… (all of the seat's roots in one cut). By AI agents, Wed Nov 11 2026. No macro, syntax, notation, axiom, sorry.
-/
import Derived.Test.YtpolpdegpbahiaaGreatDoorChecked
import GoSem.Claim
import GoSem.ClaimJoined
import GoSem.ClaimMapViews
import Derived.JoinedTies
import Derived.KernelRfl
namespace Go.Proofs.YtpolpdegpbahiaaGreatDoor
/- THE CELL 'sum', in the pinned program and in every row, IS THE sha256 OF THE DUMP (.gsa) THAT YtpolpdegpbahiaaGreatDoorProg.lean LOADS. Nothing in Lean hashes anything: it is a label: what it is worth is what the hold of that sum in a sandbox is worth. -/
noncomputable def Tryz.pinned : Pinned := { name := "ytpolpdegpbahiaagreatdoor", sum := "042a16437e7e7d9d83ed999f16408845d89835cee19b985ec0bf73882c87c520", checked := Tryz.checked }
namespace Rows
def none {H : Type} : Left H := { results := [], args := [] }

/- WHAT THE LISTED PACKAGE-LEVEL VARIABLES READ AS WHEN THE CALL BEGINS. Each datum BY PROGRAM (the guide's laid-datum.mjs) off the statement by which the dump's own 'gosem.cut.vars' lays the variable. In a bare row this is a premise. The card (YtpolpdegpbahiaaGreatDoorCards.lean) ties it to the program's text. -/
def laid_blueline_sheet_checks {H : Type} : DataW H := .iface "func table" (.agg [.agg [.iface "func" (.lit (.string [98, 108, 117, 101, 108, 105, 110, 101, 47, 115, 104, 101, 101, 116, 46, 99, 104, 101, 99, 107, 115, 36, 49]))], .agg [.iface "func" (.lit (.string [98, 108, 117, 101, 108, 105, 110, 101, 47, 115, 104, 101, 101, 116, 46, 99, 104, 101, 99, 107, 115, 36, 50]))], .agg [.iface "func" (.lit (.string [98, 108, 117, 101, 108, 105, 110, 101, 47, 115, 104, 101, 101, 116, 46, 99, 104, 101, 99, 107, 115, 36, 51]))], .agg [.iface "func" (.lit (.string [98, 108, 117, 101, 108, 105, 110, 101, 47, 115, 104, 101, 101, 116, 46, 99, 104, 101, 99, 107, 115, 36, 52]))]])
def laid_blueline_note_checks {H : Type} : DataW H := .iface "func table" (.agg [.agg [.iface "func" (.lit (.string [98, 108, 117, 101, 108, 105, 110, 101, 47, 110, 111, 116, 101, 46, 99, 104, 101, 99, 107, 115, 36, 49]))], .agg [.iface "func" (.lit (.string [98, 108, 117, 101, 108, 105, 110, 101, 47, 110, 111, 116, 101, 46, 99, 104, 101, 99, 107, 115, 36, 50]))], .agg [.iface "func" (.lit (.string [98, 108, 117, 101, 108, 105, 110, 101, 47, 110, 111, 116, 101, 46, 99, 104, 101, 99, 107, 115, 36, 51]))], .agg [.iface "func" (.lit (.string [98, 108, 117, 101, 108, 105, 110, 101, 47, 110, 111, 116, 101, 46, 99, 104, 101, 99, 107, 115, 36, 52]))], .agg [.iface "func" (.lit (.string [98, 108, 117, 101, 108, 105, 110, 101, 47, 110, 111, 116, 101, 46, 99, 104, 101, 99, 107, 115, 36, 53]))], .agg [.iface "func" (.lit (.string [98, 108, 117, 101, 108, 105, 110, 101, 47, 110, 111, 116, 101, 46, 99, 104, 101, 99, 107, 115, 36, 54]))], .agg [.iface "func" (.lit (.string [98, 108, 117, 101, 108, 105, 110, 101, 47, 110, 111, 116, 101, 46, 99, 104, 101, 99, 107, 115, 36, 55]))], .agg [.iface "func" (.lit (.string [98, 108, 117, 101, 108, 105, 110, 101, 47, 110, 111, 116, 101, 46, 99, 104, 101, 99, 107, 115, 36, 56]))]])
def laid_blueline_built_nothing {H : Type} : DataW H := .agg [.lit (.int .i64 1), .lit (.int .i64 0)]
def laid_blueline_built_kinds {H : Type} : DataW H := .iface "func table" (.agg [.agg [.nil, .nil], .agg [.iface "func" (.lit (.string [98, 108, 117, 101, 108, 105, 110, 101, 47, 98, 117, 105, 108, 116, 46, 107, 105, 110, 100, 115, 36, 49])), .iface "func" (.lit (.string [98, 108, 117, 101, 108, 105, 110, 101, 47, 98, 117, 105, 108, 116, 46, 107, 105, 110, 100, 115, 36, 50]))], .agg [.iface "func" (.lit (.string [98, 108, 117, 101, 108, 105, 110, 101, 47, 98, 117, 105, 108, 116, 46, 107, 105, 110, 100, 115, 36, 51])), .iface "func" (.lit (.string [98, 108, 117, 101, 108, 105, 110, 101, 47, 98, 117, 105, 108, 116, 46, 107, 105, 110, 100, 115, 36, 52]))], .agg [.iface "func" (.lit (.string [98, 108, 117, 101, 108, 105, 110, 101, 47, 98, 117, 105, 108, 116, 46, 107, 105, 110, 100, 115, 36, 53])), .iface "func" (.lit (.string [98, 108, 117, 101, 108, 105, 110, 101, 47, 98, 117, 105, 108, 116, 46, 107, 105, 110, 100, 115, 36, 54]))]])

/-- 'bluelinelaw08.BuiltParts': WHATEVER THE INPUT: true; the input reads as it did. -/
def builtPartsSpec : ChangeSpec := { name := "builtParts", fn := fun _ => fun
  | [d1, d2, d3] => { results := [.lit (.bool true)], args := [d1, d2, d3] }
  | _ => none }
def builtPartsRow : OpenClaim := { program := "ytpolpdegpbahiaagreatdoor", sum := "042a16437e7e7d9d83ed999f16408845d89835cee19b985ec0bf73882c87c520", func := "blueline/bluelinelaw08.BuiltParts", spec := "builtParts", unfollowed := true, recurses := true, named := ["blueline/sheet.checks", "blueline/note.checks", "blueline/built.nothing", "blueline/built.kinds"], plainKeys := false, apart := false, laid := [("blueline/sheet.checks", laid_blueline_sheet_checks), ("blueline/note.checks", laid_blueline_note_checks), ("blueline/built.nothing", laid_blueline_built_nothing), ("blueline/built.kinds", laid_blueline_built_kinds)] }
def BuiltPartsSaid : Prop := builtPartsRow.holds Tryz.pinned (OpenSpec.ofChange builtPartsSpec)

/-- ITS FALSE NEIGHBOUR: 'it returns false'. Refute it at one input. -/
def builtPartsWrong : ChangeSpec := { name := "builtParts", fn := fun _ => fun
  | [d1, d2, d3] => { results := [.lit (.bool false)], args := [d1, d2, d3] }
  | _ => none }
def BuiltPartsWrongFalsely : Prop := builtPartsRow.holds Tryz.pinned (OpenSpec.ofChange builtPartsWrong)

/-- 'bluelinelaw08.BuiltTells': WHATEVER THE INPUT: true; the input reads as it did. -/
def builtTellsSpec : ChangeSpec := { name := "builtTells", fn := fun _ => fun
  | [d1, d2, d3] => { results := [.lit (.bool true)], args := [d1, d2, d3] }
  | _ => none }
def builtTellsRow : OpenClaim := { program := "ytpolpdegpbahiaagreatdoor", sum := "042a16437e7e7d9d83ed999f16408845d89835cee19b985ec0bf73882c87c520", func := "blueline/bluelinelaw08.BuiltTells", spec := "builtTells", unfollowed := true, recurses := true, named := ["blueline/note.checks", "blueline/sheet.checks", "blueline/built.nothing", "blueline/built.kinds"], plainKeys := false, apart := false, laid := [("blueline/sheet.checks", laid_blueline_sheet_checks), ("blueline/note.checks", laid_blueline_note_checks), ("blueline/built.nothing", laid_blueline_built_nothing), ("blueline/built.kinds", laid_blueline_built_kinds)] }
def BuiltTellsSaid : Prop := builtTellsRow.holds Tryz.pinned (OpenSpec.ofChange builtTellsSpec)

/-- ITS FALSE NEIGHBOUR: 'it returns false'. Refute it at one input. -/
def builtTellsWrong : ChangeSpec := { name := "builtTells", fn := fun _ => fun
  | [d1, d2, d3] => { results := [.lit (.bool false)], args := [d1, d2, d3] }
  | _ => none }
def BuiltTellsWrongFalsely : Prop := builtTellsRow.holds Tryz.pinned (OpenSpec.ofChange builtTellsWrong)

/-- 'bluelinelaw08.BuiltLeft': WHATEVER THE INPUT: true; the input reads as it did. -/
def builtLeftSpec : ChangeSpec := { name := "builtLeft", fn := fun _ => fun
  | [d1, d2] => { results := [.lit (.bool true)], args := [d1, d2] }
  | _ => none }
def builtLeftRow : OpenClaim := { program := "ytpolpdegpbahiaagreatdoor", sum := "042a16437e7e7d9d83ed999f16408845d89835cee19b985ec0bf73882c87c520", func := "blueline/bluelinelaw08.BuiltLeft", spec := "builtLeft", unfollowed := true, recurses := true, named := ["blueline/note.checks", "blueline/sheet.checks", "blueline/built.nothing", "blueline/built.kinds"], plainKeys := false, apart := false, laid := [("blueline/sheet.checks", laid_blueline_sheet_checks), ("blueline/note.checks", laid_blueline_note_checks), ("blueline/built.nothing", laid_blueline_built_nothing), ("blueline/built.kinds", laid_blueline_built_kinds)] }
def BuiltLeftSaid : Prop := builtLeftRow.holds Tryz.pinned (OpenSpec.ofChange builtLeftSpec)

/-- ITS FALSE NEIGHBOUR: 'it returns false'. Refute it at one input. -/
def builtLeftWrong : ChangeSpec := { name := "builtLeft", fn := fun _ => fun
  | [d1, d2] => { results := [.lit (.bool false)], args := [d1, d2] }
  | _ => none }
def BuiltLeftWrongFalsely : Prop := builtLeftRow.holds Tryz.pinned (OpenSpec.ofChange builtLeftWrong)

/- THE SECOND FORM. 'bulk': how many values and letters a reading holds, each counted each time it is reached (what is shared counts as often as it is met; a slice's spare places count too). A statement '..UptoSaid' is the law's where the arguments, and the package variables that the reading takes, are together of bulk at most 1048576: NARROWER than '..Said'. Prove '..Said' where nothing that the law and all that it calls make is longer than what came in: it says more and counts as full. Else prove '..UptoSaid'. A law counts once. -/
mutual
def uptoBulk {H : Type} : DataW H → Nat
  | .lit (.string bytes) => bytes.length + 1
  | .lit _ => 1
  | .nil => 1
  | .ptr d => uptoBulk d + 1
  | .slice elems spare => uptoBulkAll elems + uptoBulkAll spare + 1
  | .agg parts => uptoBulkAll parts + 1
  | .iface _ d => uptoBulk d + 1
  | .map entries => uptoBulkEntries entries + 1
  | .held _ => 1
def uptoBulkAll {H : Type} : List (DataW H) → Nat
  | [] => 0
  | d :: r => uptoBulk d + uptoBulkAll r
def uptoBulkEntries {H : Type} : List (Lit × DataW H) → Nat
  | [] => 0
  | x :: r => uptoBulkEntry x + uptoBulkEntries r
def uptoBulkEntry {H : Type} : Lit × DataW H → Nat
  | (.string bytes, d) => bytes.length + uptoBulk d + 1
  | (_, d) => uptoBulk d + 1
 end
def uptoSmall : (H : Type) → List (DataW H) → Bool := fun _ ds => decide (uptoBulkAll ds ≤ 1048576)
def OpenSpec.upto (s : _root_.Go.ChangeSpec) : _root_.Go.OpenSpec := { _root_.Go.OpenSpec.ofChange s with cond := some uptoSmall }

/-- 'bluelinelaw08.BuiltParts', WHERE WHAT IT READS IS OF BULK AT MOST 1048576: true; the input reads as it did. -/
def builtPartsUptoRow : OpenClaim := { program := "ytpolpdegpbahiaagreatdoor", sum := "042a16437e7e7d9d83ed999f16408845d89835cee19b985ec0bf73882c87c520", func := "blueline/bluelinelaw08.BuiltParts", spec := "builtParts", unfollowed := true, recurses := true, named := ["blueline/sheet.checks", "blueline/note.checks", "blueline/built.nothing", "blueline/built.kinds"], plainKeys := false, apart := false, laid := [("blueline/sheet.checks", laid_blueline_sheet_checks), ("blueline/note.checks", laid_blueline_note_checks), ("blueline/built.nothing", laid_blueline_built_nothing), ("blueline/built.kinds", laid_blueline_built_kinds)], narrowed := true }
def BuiltPartsUptoSaid : Prop := builtPartsUptoRow.holds Tryz.pinned (OpenSpec.upto builtPartsSpec)

/-- 'bluelinelaw08.BuiltTells', WHERE WHAT IT READS IS OF BULK AT MOST 1048576: true; the input reads as it did. -/
def builtTellsUptoRow : OpenClaim := { program := "ytpolpdegpbahiaagreatdoor", sum := "042a16437e7e7d9d83ed999f16408845d89835cee19b985ec0bf73882c87c520", func := "blueline/bluelinelaw08.BuiltTells", spec := "builtTells", unfollowed := true, recurses := true, named := ["blueline/note.checks", "blueline/sheet.checks", "blueline/built.nothing", "blueline/built.kinds"], plainKeys := false, apart := false, laid := [("blueline/sheet.checks", laid_blueline_sheet_checks), ("blueline/note.checks", laid_blueline_note_checks), ("blueline/built.nothing", laid_blueline_built_nothing), ("blueline/built.kinds", laid_blueline_built_kinds)], narrowed := true }
def BuiltTellsUptoSaid : Prop := builtTellsUptoRow.holds Tryz.pinned (OpenSpec.upto builtTellsSpec)

/-- 'bluelinelaw08.BuiltLeft', WHERE WHAT IT READS IS OF BULK AT MOST 1048576: true; the input reads as it did. -/
def builtLeftUptoRow : OpenClaim := { program := "ytpolpdegpbahiaagreatdoor", sum := "042a16437e7e7d9d83ed999f16408845d89835cee19b985ec0bf73882c87c520", func := "blueline/bluelinelaw08.BuiltLeft", spec := "builtLeft", unfollowed := true, recurses := true, named := ["blueline/note.checks", "blueline/sheet.checks", "blueline/built.nothing", "blueline/built.kinds"], plainKeys := false, apart := false, laid := [("blueline/sheet.checks", laid_blueline_sheet_checks), ("blueline/note.checks", laid_blueline_note_checks), ("blueline/built.nothing", laid_blueline_built_nothing), ("blueline/built.kinds", laid_blueline_built_kinds)], narrowed := true }
def BuiltLeftUptoSaid : Prop := builtLeftUptoRow.holds Tryz.pinned (OpenSpec.upto builtLeftSpec)

end Rows
end Go.Proofs.YtpolpdegpbahiaaGreatDoor
