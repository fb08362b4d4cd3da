/- The plain data of registers, notes and machines, and how they lie in memory. What the program's tables say of the elements' types, and slices that a call makes itself. Slices in memory of a call's own: what is copied lies there as it lay. Regions that draw their order, only read, and hold calls that make memory: any later world. Regions that draw their order and whose operations make new memory: whatever order is picked, the same facts hold behind them; then those that wait for all others come, one behind the other. The reference's numbers between bounds, sizes, issues. The reference's look at an issue by itself. The numbers of a register's drawings, in plain Lean. The reference's numbers of drawings, index in a list, and greatest letter. The reference's look at a register but for circles. The longest chains of a register's drawings by rounds, in plain Lean. The reference's longest chains, as the plain function has them. -/
import Derived.WalkKit
import Derived.Lib.Hide
import Derived.WalkSmall
import Derived.Test.YtoibnhkiedpkgaaGreatDoorProg
import Derived.KernelRfl
import Derived.Deep.QuietTactic
import Derived.Tactics
import Derived.Tactics2
import Derived.BigQuiet
import Derived.StillTailTactics
import Derived.Maps.AppendAt
set_option linter.unusedVariables false
set_option linter.unusedSimpArgs false
set_option linter.all false

namespace Go.Proofs.YtoibnhkiedpkgaaGreatDoor
open Go.RowKit

structure Item where
  d : Int
  c : Int
structure Dim where
  n : Int
  lo : Int
  up : Int
structure Issue where
  d : Int
  l : Int
  k : Int
  items : List Item
  dims : List Dim
structure Note where
  num : Int
  day : Int
  sg : Int
  d : Int
  l : Int
  fr : Int
  to : Int
  ca : Int
  use : Bool
  ways : Int
structure Heap where
  d : Int
  l : Int
  lo : Int
  hi : Int
structure Report where
  num : Int
  m : Int
  d : Int
  l : Int
  k : Int
structure Notes where
  reg : List Issue
  notes : List Note
structure Built where
  ns : Notes
  of : Int
  ms : List Int
  hs : List Heap
  rs : List Report

/-- An int of 64 bits. -/
def I64 (n : Int) : Prop := -9223372036854775808 ≤ n ∧ n ≤ 9223372036854775807
def U8 (n : Int) : Prop := 0 ≤ n ∧ n ≤ 255

/-- Cells read so, and are not frozen. -/
def Cell (w : World) (b o : Nat) (v : Value) : Prop := w.cell? ⟨b, o, none⟩ = some v

/-- A slice value of as many elements as the list has; E says how an element lies at a place. -/
def Sl {α : Type} (E : World → Nat → Nat → α → Prop) (sz : Nat) (w : World) (v : Value) (xs : List α) : Prop :=
  ∃ a cap, v = .slice a xs.length cap ∧ xs.length ≤ 9223372036854775807 ∧ ∀ k (hk : k < xs.length), ∃ b off, a = some ⟨b, off, none⟩ ∧ E w b (off + k * sz) xs[k]

def AtInt (w : World) (b o : Nat) (x : Int) : Prop := Cell w b o (.int .i64 x) ∧ I64 x
def AtItem (w : World) (b o : Nat) (x : Item) : Prop := (Cell w b o (.int .i64 x.d) ∧ Cell w b (o + 1) (.int .i64 x.c)) ∧ I64 x.d ∧ I64 x.c
def AtDim (w : World) (b o : Nat) (x : Dim) : Prop := (Cell w b o (.int .i64 x.n) ∧ Cell w b (o + 1) (.int .i64 x.lo) ∧ Cell w b (o + 2) (.int .i64 x.up)) ∧ I64 x.n ∧ I64 x.lo ∧ I64 x.up
def AtIssue (w : World) (b o : Nat) (x : Issue) : Prop :=
  (Cell w b o (.int .i64 x.d) ∧ Cell w b (o + 1) (.int .i64 x.l) ∧ Cell w b (o + 2) (.int .u8 x.k)) ∧ (I64 x.d ∧ I64 x.l ∧ U8 x.k) ∧
  ∃ vi vd, Cell w b (o + 3) vi ∧ Cell w b (o + 4) vd ∧ Sl AtItem 2 w vi x.items ∧ Sl AtDim 3 w vd x.dims
def AtNote (w : World) (b o : Nat) (x : Note) : Prop :=
  (Cell w b o (.int .i64 x.num) ∧ Cell w b (o + 1) (.int .i64 x.day) ∧ Cell w b (o + 2) (.int .u8 x.sg) ∧ Cell w b (o + 3) (.int .i64 x.d) ∧ Cell w b (o + 4) (.int .i64 x.l) ∧
   Cell w b (o + 5) (.int .i64 x.fr) ∧ Cell w b (o + 6) (.int .i64 x.to) ∧ Cell w b (o + 7) (.int .i64 x.ca) ∧ Cell w b (o + 8) (.bool x.use) ∧ Cell w b (o + 9) (.int .u8 x.ways)) ∧
  (I64 x.num ∧ I64 x.day ∧ U8 x.sg ∧ I64 x.d ∧ I64 x.l ∧ I64 x.fr ∧ I64 x.to ∧ I64 x.ca ∧ U8 x.ways)
def AtHeap (w : World) (b o : Nat) (x : Heap) : Prop :=
  (Cell w b o (.int .i64 x.d) ∧ Cell w b (o + 1) (.int .i64 x.l) ∧ Cell w b (o + 2) (.int .i64 x.lo) ∧ Cell w b (o + 3) (.int .i64 x.hi)) ∧ (I64 x.d ∧ I64 x.l ∧ I64 x.lo ∧ I64 x.hi)
def AtReport (w : World) (b o : Nat) (x : Report) : Prop :=
  (Cell w b o (.int .i64 x.num) ∧ Cell w b (o + 1) (.int .i64 x.m) ∧ Cell w b (o + 2) (.int .i64 x.d) ∧ Cell w b (o + 3) (.int .i64 x.l) ∧ Cell w b (o + 4) (.int .u8 x.k)) ∧
  (I64 x.num ∧ I64 x.m ∧ I64 x.d ∧ I64 x.l ∧ U8 x.k)

/-! What is read stays while only new memory is made. -/
theorem cell_lt {w : World} {b o : Nat} {v : Value} (h : Cell w b o v) : b < w.heap.size := by
  unfold Cell World.cell? at h
  by_cases hb : b < w.heap.size
  · exact hb
  · simp [Array.getElem?_eq_none (by omega : w.heap.size ≤ b)] at h

theorem cell_ext {w w' : World} (hb : Below w.heap.size w w') {b o : Nat} {v : Value} (h : Cell w b o v) : Cell w' b o v :=
  (hb.cell (p := ⟨b, o, none⟩) (cell_lt h)).trans h

/-- A way to lie that stays while only new memory is made. -/
def Stays {α : Type} (E : World → Nat → Nat → α → Prop) : Prop := ∀ w w' b o x, Below w.heap.size w w' → E w b o x → E w' b o x

theorem sl_ext {α : Type} {E : World → Nat → Nat → α → Prop} (hE : Stays E) {sz : Nat} {w w' : World} {v : Value} {xs : List α} (hb : Below w.heap.size w w') (h : Sl E sz w v xs) : Sl E sz w' v xs := by
  obtain ⟨a, cap, hv, hm, hc⟩ := h
  refine ⟨a, cap, hv, hm, fun k hk => ?_⟩
  obtain ⟨b, off, ha, he⟩ := hc k hk
  exact ⟨b, off, ha, hE _ _ _ _ _ hb he⟩

theorem stays_int : Stays AtInt := fun _ _ _ _ _ hb h => ⟨cell_ext hb h.1, h.2⟩
theorem stays_item : Stays AtItem := fun _ _ _ _ _ hb h => ⟨⟨cell_ext hb h.1.1, cell_ext hb h.1.2⟩, h.2⟩
theorem stays_dim : Stays AtDim := fun _ _ _ _ _ hb h => ⟨⟨cell_ext hb h.1.1, cell_ext hb h.1.2.1, cell_ext hb h.1.2.2⟩, h.2⟩
theorem stays_issue : Stays AtIssue := fun _ _ _ _ _ hb ⟨⟨h1, h2, h3⟩, hr, vi, vd, h4, h5, h6, h7⟩ =>
  ⟨⟨cell_ext hb h1, cell_ext hb h2, cell_ext hb h3⟩, hr, vi, vd, cell_ext hb h4, cell_ext hb h5, sl_ext stays_item hb h6, sl_ext stays_dim hb h7⟩
theorem stays_note : Stays AtNote := fun _ _ _ _ _ hb ⟨⟨h0, h1, h2, h3, h4, h5, h6, h7, h8, h9⟩, hr⟩ =>
  ⟨⟨cell_ext hb h0, cell_ext hb h1, cell_ext hb h2, cell_ext hb h3, cell_ext hb h4, cell_ext hb h5, cell_ext hb h6, cell_ext hb h7, cell_ext hb h8, cell_ext hb h9⟩, hr⟩
theorem stays_heap : Stays AtHeap := fun _ _ _ _ _ hb ⟨⟨h0, h1, h2, h3⟩, hr⟩ => ⟨⟨cell_ext hb h0, cell_ext hb h1, cell_ext hb h2, cell_ext hb h3⟩, hr⟩
theorem stays_report : Stays AtReport := fun _ _ _ _ _ hb ⟨⟨h0, h1, h2, h3, h4⟩, hr⟩ => ⟨⟨cell_ext hb h0, cell_ext hb h1, cell_ext hb h2, cell_ext hb h3, cell_ext hb h4⟩, hr⟩

/-- Opened: either nothing, or a place. -/
theorem sl_open {α : Type} {E : World → Nat → Nat → α → Prop} {sz : Nat} {w : World} {v : Value} {xs : List α} (h : Sl E sz w v xs) :
    (xs = [] ∧ ∃ a cap, v = .slice a 0 cap) ∨ (0 < xs.length ∧ xs.length ≤ 9223372036854775807 ∧ ∃ b off cap, v = .slice (some ⟨b, off, none⟩) xs.length cap ∧ ∀ k (hk : k < xs.length), E w b (off + k * sz) xs[k]) := by
  obtain ⟨a, cap, hv, hm, hc⟩ := h
  cases xs with
  | nil => exact .inl ⟨rfl, a, cap, hv⟩
  | cons x xs =>
    right
    refine ⟨by simp, hm, ?_⟩
    obtain ⟨b, off, rfl, _⟩ := hc 0 (by simp)
    refine ⟨b, off, cap, hv, fun k hk => ?_⟩
    obtain ⟨b', off', hab, he⟩ := hc k hk
    cases hab
    exact he

theorem sl_nil {α : Type} {E : World → Nat → Nat → α → Prop} {sz : Nat} {w : World} {v : Value} (h : Sl E sz w v []) : ∃ a cap, v = .slice a 0 cap := by
  obtain ⟨a, cap, hv, _⟩ := h
  exact ⟨a, cap, hv⟩

theorem sl_shape {α : Type} {E : World → Nat → Nat → α → Prop} {sz : Nat} {w : World} {v : Value} {xs : List α} (h : Sl E sz w v xs) :
    ∃ a cap, v = .slice a xs.length cap ∧ xs.length ≤ 9223372036854775807 := by
  obtain ⟨a, cap, hv, hm, _⟩ := h
  exact ⟨a, cap, hv, hm⟩

theorem sl_at {α : Type} {E : World → Nat → Nat → α → Prop} {sz : Nat} {w : World} {a : Option Addr} {n cap : Nat} {xs : List α} (h : Sl E sz w (.slice a n cap) xs) :
    n = xs.length ∧ ∀ k (hk : k < xs.length), ∃ b off, a = some ⟨b, off, none⟩ ∧ E w b (off + k * sz) xs[k] := by
  obtain ⟨a', cap', hv, _, hc⟩ := h
  cases hv
  exact ⟨rfl, hc⟩

/-- It returns a bool that tells whether something is so; what lay there stays. -/
def RetB (p : Prop) (w : World) (e : Ending) (w' : World) : Prop := ∃ b, e = .returned (.bool b) ∧ (b = true ↔ p) ∧ Below w.heap.size w w'
theorem RetB.t {p : Prop} {w w' : World} (hp : p) (hb : Below w.heap.size w w') : RetB p w (.returned (.bool true)) w' := ⟨true, rfl, by simp [hp], hb⟩
theorem RetB.f {p : Prop} {w w' : World} (hp : ¬ p) (hb : Below w.heap.size w w') : RetB p w (.returned (.bool false)) w' := ⟨false, rfl, by simp [hp], hb⟩
theorem RetB.both {p : Prop} {w w' : World} {e : Ending} (h : RetB p w e w') : (p ∧ e = .returned (.bool true) ∧ Below w.heap.size w w') ∨ (¬ p ∧ e = .returned (.bool false) ∧ Below w.heap.size w w') := by
  obtain ⟨b, he, hi, hb⟩ := h
  cases b
  · right; exact ⟨by simpa using hi, he, hb⟩
  · left; exact ⟨by simpa using hi, he, hb⟩
theorem RetB.weak {p : Prop} {w w1 w' : World} {e : Ending} (h : RetB p w1 e w') (hb : Below w.heap.size w w1) : RetB p w e w' := by
  obtain ⟨b, he, hi, hb'⟩ := h
  exact ⟨b, he, hi, hb.trans (hb'.mono hb.size)⟩
/-- It returns a bool that tells whether something is so; the world is the same. -/
def RetS (p : Prop) (w : World) (e : Ending) (w' : World) : Prop := ∃ b, e = .returned (.bool b) ∧ (b = true ↔ p) ∧ w = w'
theorem RetS.t {p : Prop} {w : World} (hp : p) : RetS p w (.returned (.bool true)) w := ⟨true, rfl, by simp [hp], rfl⟩
theorem RetS.f {p : Prop} {w : World} (hp : ¬ p) : RetS p w (.returned (.bool false)) w := ⟨false, rfl, by simp [hp], rfl⟩
theorem RetS.both {p : Prop} {w w' : World} {e : Ending} (h : RetS p w e w') : (p ∧ e = .returned (.bool true) ∧ w = w') ∨ (¬ p ∧ e = .returned (.bool false) ∧ w = w') := by
  obtain ⟨b, he, hi, hb⟩ := h
  cases b
  · right; exact ⟨by simpa using hi, he, hb⟩
  · left; exact ⟨by simpa using hi, he, hb⟩
/-! Small steps. -/
theorem below_trans {w w1 w2 : World} (h : Below w.heap.size w w1) (k : Below w1.heap.size w1 w2) : Below w.heap.size w w2 := h.trans (k.mono h.size)
theorem below_drew_n (w : World) (n : Nat) : Below w.heap.size w (w.drewN n) := ⟨rfl, rfl, rfl, Nat.le_refl _, fun _ _ => rfl⟩
theorem below_drew (w : World) : Below w.heap.size w w.drew := ⟨rfl, rfl, rfl, Nat.le_refl _, fun _ _ => rfl⟩
theorem below_alloc (w : World) (o : Obj) : Below w.heap.size w (w.alloc o) := (Below.refl _ w).alloc (Nat.le_refl _) o
theorem box_cell (w : World) (v : Value) (t : TypeId) : Cell (w.alloc (.cells #[v] t)) w.heap.size 0 v := by
  unfold Cell; simp
theorem new_cell (w : World) (cs : Array Value) (t : TypeId) (j : Nat) (v : Value) (h : cs[j]? = some v) : Cell (w.alloc (.cells cs t)) w.heap.size j v := by
  unfold Cell
  rw [← h]
  simp
theorem new_cell2 (w : World) (o o2 : Obj) (b j : Nat) (v : Value) (h : Cell (w.alloc o) b j v) : Cell ((w.alloc o).alloc o2) b j v :=
  cell_ext (below_alloc _ _) h
theorem cell_set_other {w : World} {b o g j : Nat} {v u : Value} (h : Cell w b o v) (hne : b ≠ g) : Cell (w.setCell ⟨g, j, none⟩ u) b o v := by
  unfold Cell at *
  rw [World.cell?_of_block (w := w) (Below.heap_setCell w ⟨g, j, none⟩ u b hne)]
  exact h
theorem boxed1 (w : World) (cs : Array Value) (t : TypeId) : Below w.heap.size w (w.alloc (.cells cs t)) ∧ (∀ j v, cs[j]? = some v → Cell (w.alloc (.cells cs t)) w.heap.size j v) :=
  ⟨below_alloc _ _, fun j v h => new_cell w cs t j v h⟩
theorem boxed2 (w : World) (cs cs' : Array Value) (t t' : TypeId) : Below w.heap.size w ((w.alloc (.cells cs t)).alloc (.cells cs' t')) ∧
    (∀ j v, cs[j]? = some v → Cell ((w.alloc (.cells cs t)).alloc (.cells cs' t')) w.heap.size j v) ∧ (∀ j v, cs'[j]? = some v → Cell ((w.alloc (.cells cs t)).alloc (.cells cs' t')) (w.heap.size + 1) j v) :=
  ⟨below_trans (below_alloc _ _) (below_alloc _ _), fun j v h => cell_ext (below_alloc _ _) (new_cell w cs t j v h), fun j v h => by
    have := new_cell (w.alloc (.cells cs t)) cs' t' j v h
    rwa [World.size_alloc] at this⟩
theorem any_step {α : Type} (p : α → Bool) (xs : List α) (k : Nat) (h : k < xs.length) : (xs.take (k + 1)).any p = ((xs.take k).any p || p xs[k]) := by
  rw [List.take_succ_eq_append_getElem h, List.any_append]; simp
theorem all_step (p : Nat → Prop) (k : Nat) (h : ∀ j, j < k → p j) (hk : p k) : ∀ j, j < k + 1 → p j := by
  intro j hj
  by_cases e : j = k
  · rw [e]; exact hk
  · exact h j (by omega)
theorem any_at {α : Type} (p : α → Bool) (xs : List α) (k : Nat) (h : k < xs.length) (hp : p xs[k] = true) : xs.any p = true :=
  List.any_eq_true.2 ⟨xs[k], List.getElem_mem h, hp⟩
theorem any_done {α : Type} (p : α → Bool) (xs : List α) (k : Nat) (h : xs.length ≤ k) (hp : (xs.take k).any p = false) : xs.any p = false := by
  rwa [List.take_of_length_le h] at hp
theorem ret_bool {a b : Bool} (h : a = b) : Ending.returned (.bool a) = .returned (.bool b) := by rw [h]
theorem ret_int {k : IntKind} {a b : Int} (h : a = b) : Ending.returned (.int k a) = .returned (.int k b) := by rw [h]

end Go.Proofs.YtoibnhkiedpkgaaGreatDoor

namespace Go.Proofs.YtoibnhkiedpkgaaGreatDoor
open Go.RowKit

theorem infoInt : (Tryz.prog.info? 3).map (fun i => (i.zero, i.size, i.bytes)) = some (some (.int .i64 0), 1, 8) := by kernel_rfl
theorem infoItem : (Tryz.prog.info? 48).map (fun i => (i.zero, i.size, i.bytes)) = some (some (.agg #[.int .i64 0, .int .i64 0]), 2, 16) := by kernel_rfl
theorem infoDim : (Tryz.prog.info? 50).map (fun i => (i.zero, i.size, i.bytes)) = some (some (.agg #[.int .i64 0, .int .i64 0, .int .i64 0]), 3, 24) := by kernel_rfl
theorem infoIssue : (Tryz.prog.info? 46).map (fun i => (i.zero, i.size, i.bytes)) = some (some (.agg #[.int .i64 0, .int .i64 0, .int .u8 0, .slice none 0 0, .slice none 0 0]), 5, 72) := by kernel_rfl
theorem infoNote : (Tryz.prog.info? 52).map (fun i => (i.zero, i.size, i.bytes)) = some (some (.agg #[.int .i64 0, .int .i64 0, .int .u8 0, .int .i64 0, .int .i64 0, .int .i64 0, .int .i64 0, .int .i64 0, .bool false, .int .u8 0]), 10, 72) := by kernel_rfl
theorem infoHeap : (Tryz.prog.info? 56).map (fun i => (i.zero, i.size, i.bytes)) = some (some (.agg #[.int .i64 0, .int .i64 0, .int .i64 0, .int .i64 0]), 4, 32) := by kernel_rfl
theorem infoReport : (Tryz.prog.info? 34).map (fun i => (i.zero, i.size, i.bytes)) = some (some (.agg #[.int .i64 0, .int .i64 0, .int .i64 0, .int .i64 0, .int .u8 0]), 5, 40) := by kernel_rfl

theorem add_at (g j : Nat) : (⟨g, 0, none⟩ : Addr).add j = ⟨g, j, none⟩ := by
  unfold Addr.add
  split
  · rename_i h; subst h; rfl
  · simp

/-- A row of numbers that the call owns reads as a list. -/
theorem ints_of_own {w : World} {base : Nat} {v : Value} {xs : List Int} (h : w.ownsRow base 3 1 v xs.length (xs.map (Value.int .i64))) (hI : ∀ x ∈ xs, I64 x) : Sl AtInt 1 w v xs := by
  have h' := h
  obtain ⟨_, h2⟩ := h
  rcases h2 with ⟨rfl, hn⟩ | ⟨g, cap, cur, rfl, _, _, hc, hcm, _⟩
  · exact ⟨none, 0, by rw [hn], by omega, fun k hk => by omega⟩
  · refine ⟨some ⟨g, 0, none⟩, cap, rfl, by unfold maxLen at hcm; omega, fun k hk => ⟨g, 0, rfl, ?_, hI _ (List.getElem_mem hk)⟩⟩
    have := h'.cells (g := g) rfl k (.int .i64 xs[k]) (by simp [hk])
    rw [add_at] at this
    unfold Cell
    simpa using this

end Go.Proofs.YtoibnhkiedpkgaaGreatDoor

namespace Go.Proofs.YtoibnhkiedpkgaaGreatDoor
open Go.RowKit

/-- A slice in memory from block 'base' on, not frozen, known whole. -/
def New {α : Type} (E : World → Nat → Nat → α → Prop) (sz : Nat) (e : TypeId) (base : Nat) (w : World) (v : Value) (xs : List α) : Prop :=
  Sl E sz w v xs ∧ ∃ cs, w.ownsRow base e sz v xs.length cs

/-- Cells that are the same elsewhere, what they refer to still there. -/
def Copies {α : Type} (E : World → Nat → Nat → α → Prop) (sz : Nat) : Prop :=
  ∀ w w' b o b' o' x, Below w.heap.size w w' → (∀ j u, j < sz → Cell w b (o + j) u → Cell w' b' (o' + j) u) → E w b o x → E w' b' o' x
def HasCells {α : Type} (E : World → Nat → Nat → α → Prop) (sz : Nat) : Prop :=
  ∀ w b o x, E w b o x → ∀ j, j < sz → ∃ u, Cell w b (o + j) u ∧ u.oneCell' = true

theorem copies_int : Copies AtInt 1 := fun w w' b o b' o' x _ hc ⟨h, hr⟩ => ⟨hc 0 _ (by omega) h, hr⟩
theorem copies_item : Copies AtItem 2 := fun w w' b o b' o' x _ hc ⟨⟨h0, h1⟩, hr⟩ => ⟨⟨hc 0 _ (by omega) h0, hc 1 _ (by omega) h1⟩, hr⟩
theorem copies_dim : Copies AtDim 3 := fun w w' b o b' o' x _ hc ⟨⟨h0, h1, h2⟩, hr⟩ => ⟨⟨hc 0 _ (by omega) h0, hc 1 _ (by omega) h1, hc 2 _ (by omega) h2⟩, hr⟩
theorem copies_issue : Copies AtIssue 5 := fun w w' b o b' o' x hb hc ⟨⟨h0, h1, h2⟩, hr, vi, vd, h3, h4, h5, h6⟩ =>
  ⟨⟨hc 0 _ (by omega) h0, hc 1 _ (by omega) h1, hc 2 _ (by omega) h2⟩, hr, vi, vd, hc 3 _ (by omega) h3, hc 4 _ (by omega) h4, sl_ext stays_item hb h5, sl_ext stays_dim hb h6⟩
theorem copies_note : Copies AtNote 10 := fun w w' b o b' o' x _ hc ⟨⟨h0, h1, h2, h3, h4, h5, h6, h7, h8, h9⟩, hr⟩ =>
  ⟨⟨hc 0 _ (by omega) h0, hc 1 _ (by omega) h1, hc 2 _ (by omega) h2, hc 3 _ (by omega) h3, hc 4 _ (by omega) h4, hc 5 _ (by omega) h5, hc 6 _ (by omega) h6, hc 7 _ (by omega) h7, hc 8 _ (by omega) h8, hc 9 _ (by omega) h9⟩, hr⟩
theorem copies_heap : Copies AtHeap 4 := fun w w' b o b' o' x _ hc ⟨⟨h0, h1, h2, h3⟩, hr⟩ => ⟨⟨hc 0 _ (by omega) h0, hc 1 _ (by omega) h1, hc 2 _ (by omega) h2, hc 3 _ (by omega) h3⟩, hr⟩
theorem copies_report : Copies AtReport 5 := fun w w' b o b' o' x _ hc ⟨⟨h0, h1, h2, h3, h4⟩, hr⟩ => ⟨⟨hc 0 _ (by omega) h0, hc 1 _ (by omega) h1, hc 2 _ (by omega) h2, hc 3 _ (by omega) h3, hc 4 _ (by omega) h4⟩, hr⟩

theorem cells_int : HasCells AtInt 1 := fun w b o x h j hj => by
  obtain rfl : j = 0 := by omega
  exact ⟨_, h.1, rfl⟩
theorem cells_item : HasCells AtItem 2 := fun w b o x ⟨⟨h0, h1⟩, _⟩ j hj => by
  match j, hj with
  | 0, _ => exact ⟨_, h0, rfl⟩
  | 1, _ => exact ⟨_, h1, rfl⟩
theorem cells_dim : HasCells AtDim 3 := fun w b o x ⟨⟨h0, h1, h2⟩, _⟩ j hj => by
  match j, hj with
  | 0, _ => exact ⟨_, h0, rfl⟩
  | 1, _ => exact ⟨_, h1, rfl⟩
  | 2, _ => exact ⟨_, h2, rfl⟩
theorem cells_issue : HasCells AtIssue 5 := fun w b o x ⟨⟨h0, h1, h2⟩, _, vi, vd, h3, h4, h5, h6⟩ j hj => by
  obtain ⟨a, cap, rfl, _⟩ := sl_shape h5
  obtain ⟨a', cap', rfl, _⟩ := sl_shape h6
  match j, hj with
  | 0, _ => exact ⟨_, h0, rfl⟩
  | 1, _ => exact ⟨_, h1, rfl⟩
  | 2, _ => exact ⟨_, h2, rfl⟩
  | 3, _ => exact ⟨_, h3, rfl⟩
  | 4, _ => exact ⟨_, h4, rfl⟩
theorem cells_note : HasCells AtNote 10 := fun w b o x ⟨⟨h0, h1, h2, h3, h4, h5, h6, h7, h8, h9⟩, _⟩ j hj => by
  match j, hj with
  | 0, _ => exact ⟨_, h0, rfl⟩
  | 1, _ => exact ⟨_, h1, rfl⟩
  | 2, _ => exact ⟨_, h2, rfl⟩
  | 3, _ => exact ⟨_, h3, rfl⟩
  | 4, _ => exact ⟨_, h4, rfl⟩
  | 5, _ => exact ⟨_, h5, rfl⟩
  | 6, _ => exact ⟨_, h6, rfl⟩
  | 7, _ => exact ⟨_, h7, rfl⟩
  | 8, _ => exact ⟨_, h8, rfl⟩
  | 9, _ => exact ⟨_, h9, rfl⟩
theorem cells_heap : HasCells AtHeap 4 := fun w b o x ⟨⟨h0, h1, h2, h3⟩, _⟩ j hj => by
  match j, hj with
  | 0, _ => exact ⟨_, h0, rfl⟩
  | 1, _ => exact ⟨_, h1, rfl⟩
  | 2, _ => exact ⟨_, h2, rfl⟩
  | 3, _ => exact ⟨_, h3, rfl⟩
theorem cells_report : HasCells AtReport 5 := fun w b o x ⟨⟨h0, h1, h2, h3, h4⟩, _⟩ j hj => by
  match j, hj with
  | 0, _ => exact ⟨_, h0, rfl⟩
  | 1, _ => exact ⟨_, h1, rfl⟩
  | 2, _ => exact ⟨_, h2, rfl⟩
  | 3, _ => exact ⟨_, h3, rfl⟩
  | 4, _ => exact ⟨_, h4, rfl⟩

/-- The cells of a slice, as a list. -/
theorem sl_news {α : Type} {E : World → Nat → Nat → α → Prop} {sz : Nat} (hE : HasCells E sz) {w : World} {b off : Nat} (xs : List α) (h : ∀ k (hk : k < xs.length), E w b (off + k * sz) xs[k]) :
    ∃ news : List Value, news.length = xs.length * sz ∧ (∀ j u, news[j]? = some u → Cell w b (off + j) u) ∧ (∀ u ∈ news, u.oneCell' = true) := by
  have key : ∀ j, j < xs.length * sz → ∃ u, Cell w b (off + j) u ∧ u.oneCell' = true := fun j hj => by
    have hsz : 0 < sz := Nat.pos_of_ne_zero fun e => by subst e; simp at hj
    have hk : j / sz < xs.length := (Nat.div_lt_iff_lt_mul hsz).2 hj
    obtain ⟨u, hu, h1⟩ := hE _ _ _ _ (h (j / sz) hk) (j % sz) (Nat.mod_lt _ hsz)
    have e := Nat.div_add_mod' j sz
    exact ⟨u, by rw [show off + j = off + j / sz * sz + j % sz by omega]; exact hu, h1⟩
  refine ⟨(List.range (xs.length * sz)).map (fun j => (w.cell? ⟨b, off + j, none⟩).getD (.bool false)), by simp, fun j u hj => ?_, fun u hu => ?_⟩
  · rw [List.getElem?_map] at hj
    by_cases hl : j < xs.length * sz
    · obtain ⟨u', hu', _⟩ := key j hl
      rw [List.getElem?_range hl] at hj
      unfold Cell at hu' ⊢
      simp [hu'] at hj
      rw [← hj]
      exact hu'
    · rw [List.getElem?_eq_none (by simpa using hl)] at hj
      simp at hj
  · obtain ⟨j, hj, rfl⟩ := List.mem_map.1 hu
    obtain ⟨u', hu', h1⟩ := key j (List.mem_range.1 hj)
    unfold Cell at hu'
    rw [hu']
    exact h1

/-- Cells that were copied to a row of the call's own read as the list that they were copied from. -/
theorem sl_of_row {α : Type} {E : World → Nat → Nat → α → Prop} {sz : Nat} (hC : Copies E sz) {w w' : World} (hb : Below w.heap.size w w') {b off : Nat} {xs : List α}
    (h : ∀ k (hk : k < xs.length), E w b (off + k * sz) xs[k]) {news : List Value} (hl : news.length = xs.length * sz) (hn : ∀ j u, news[j]? = some u → Cell w b (off + j) u)
    {base : Nat} {e : TypeId} {v : Value} (hown : w'.ownsRow base e sz v xs.length news) : Sl E sz w' v xs := by
  have hown' := hown
  obtain ⟨_, h2⟩ := hown
  rcases h2 with ⟨rfl, hn0⟩ | ⟨g, cap, cur, rfl, _, _, hc, hcm, _⟩
  · exact ⟨none, 0, by rw [hn0], by omega, fun k hk => by omega⟩
  · refine ⟨some ⟨g, 0, none⟩, cap, rfl, by unfold maxLen at hcm; omega, fun k hk => ⟨g, 0, rfl, ?_⟩⟩
    refine hC w w' b (off + k * sz) g (0 + k * sz) _ hb (fun j u hj hu => ?_) (h k hk)
    have hlt : k * sz + j < news.length := by
      rw [hl]
      exact Nat.lt_of_lt_of_le (show k * sz + j < (k + 1) * sz by rw [Nat.add_mul, Nat.one_mul]; omega) (Nat.mul_le_mul_right _ hk)
    have e1 : news[k * sz + j]? = some news[k * sz + j] := List.getElem?_eq_getElem hlt
    have c1 := hn _ _ e1
    have c2 := hown'.cells (g := g) rfl _ _ e1
    rw [add_at] at c2
    unfold Cell at *
    rw [Nat.zero_add, c2, ← c1, ← hu, Nat.add_assoc]

theorem New.sl {α : Type} {E : World → Nat → Nat → α → Prop} {sz : Nat} {e : TypeId} {base : Nat} {w : World} {v : Value} {xs : List α} (h : New E sz e base w v xs) : Sl E sz w v xs := h.1
theorem New.nil {α : Type} (E : World → Nat → Nat → α → Prop) (sz : Nat) (e : TypeId) (base : Nat) (w : World) : New E sz e base w (.slice none 0 0) ([] : List α) :=
  ⟨⟨none, 0, rfl, by simp, fun k hk => by simp at hk⟩, [], World.ownsRow_nil _ _ _ _⟩
theorem New.weak {α : Type} {E : World → Nat → Nat → α → Prop} {sz : Nat} {e : TypeId} {base base' : Nat} {w : World} {v : Value} {xs : List α} (h : New E sz e base w v xs) (hb : base' ≤ base) : New E sz e base' w v xs := by
  obtain ⟨h1, cs, hl, h2⟩ := h
  refine ⟨h1, cs, hl, ?_⟩
  rcases h2 with h2 | ⟨g, cap, cur, hv, hg, h3⟩
  · exact .inl h2
  · exact .inr ⟨g, cap, cur, hv, by omega, h3⟩
/-- It stays while only new memory is made. -/
theorem own_ext {w w' : World} {base : Nat} {e : TypeId} {sz : Nat} {v : Value} {n : Nat} {cs : List Value} (hb : Below w.heap.size w w') (h : w.ownsRow base e sz v n cs) : w'.ownsRow base e sz v n cs := by
  obtain ⟨hl, h2⟩ := h
  refine ⟨hl, ?_⟩
  rcases h2 with h2 | ⟨g, cap, cur, hv, hg, hc, h3⟩
  · exact .inl h2
  · exact .inr ⟨g, cap, cur, hv, hg, (hb.block g (Array.getElem?_eq_some_iff.1 hc).1).trans hc, h3⟩
theorem New.ext {α : Type} {E : World → Nat → Nat → α → Prop} {sz : Nat} {e : TypeId} {base : Nat} {w w' : World} {v : Value} {xs : List α} (hs : Stays E) (hb : Below w.heap.size w w') (h : New E sz e base w v xs) : New E sz e base w' v xs := by
  obtain ⟨h1, cs, h2⟩ := h
  exact ⟨sl_ext hs hb h1, cs, own_ext hb h2⟩

end Go.Proofs.YtoibnhkiedpkgaaGreatDoor

namespace Go

structure Later where
  suf : Array Obj
  d : Nat


instance : Inhabited Later := ⟨⟨#[], 0⟩⟩

/-- The world with more memory, and other draws. -/
def World.later (w : World) (x : Later) : World := { w with heap := w.heap ++ x.suf, drawn := x.d }

theorem below_later (w : World) (x : Later) : RowKit.Below w.heap.size w (w.later x) :=
  ⟨rfl, rfl, rfl, by simp [World.later], fun k hk => by simp [World.later, Array.getElem?_append_left hk]⟩

theorem later_of_below {w w' : World} (h : RowKit.Below w.heap.size w w') : ∃ x, w' = w.later x := by
  refine ⟨⟨w'.heap.extract w.heap.size w'.heap.size, w'.drawn⟩, ?_⟩
  have he : w'.heap = w.heap ++ w'.heap.extract w.heap.size w'.heap.size := by
    apply Array.ext_getElem?
    intro i
    by_cases hi : i < w.heap.size
    · rw [Array.getElem?_append_left hi]
      exact h.block i hi
    · rw [Array.getElem?_append_right (by omega), Array.getElem?_extract]
      by_cases h2 : i < w'.heap.size
      · rw [if_pos (by omega), show w.heap.size + (i - w.heap.size) = i by omega]
      · rw [Array.getElem?_eq_none (by omega)]
        split
        · omega
        · rfl
  obtain ⟨a, b, c, d, e⟩ := w'
  have h1 := h.os
  have h2 := h.tape
  have h3 := h.output
  simp only at h1 h2 h3 he
  unfold World.later
  simp only
  congr 1

theorem Calls.quiet_later {P : Program} {f : FuncId} {args : Array Value} {w : World} {x : Later} {v : Value}
    (h : Calls P f args (w.later x) fun e w' => e = .returned v ∧ RowKit.Below (w.later x).heap.size (w.later x) w') : Calls P f args (w.later x) fun e w'' => e = .returned v ∧ ∃ y, w'' = w.later y :=
  h.mono fun _ _ ⟨he, hb⟩ => ⟨he, later_of_below ((below_later w x).trans (hb.mono (below_later w x).size))⟩

theorem wp_region_later {P : Program} {id : Nat} {Q : Exit → Act → World → Prop} {a : Act} {w : World} {l : List Oper} (hm : P.follows .mixedOrders = true) (hB : Region.lexB .any l.toArray = true)
    (h : wpQuiet P l.toArray (fun w' => ∃ x, w' = w.later x) (fun a' => ∀ w', (∃ x, w' = w.later x) → Q .normal a' w') l a) : (Code.region id l.toArray true).wp P Q a w :=
  wp_region_quiet (C := fun w' => ∃ x, w' = w.later x) hm hB (later_of_below (RowKit.Below.drew (RowKit.Below.refl _ _))) (by simpa using h)

end Go
namespace Go.Proofs.YtoibnhkiedpkgaaGreatDoor
open Go.RowKit

theorem RetB.yes {P : Program} {f : FuncId} {args : Array Value} {w : World} {p : Prop} (hp : p) (h : Calls P f args w (RetB p w)) : Calls P f args w fun e w' => e = .returned (.bool true) ∧ Below w.heap.size w w' :=
  h.mono fun _ _ ⟨b, he, hi, hb⟩ => ⟨by rw [he, hi.2 hp], hb⟩
theorem RetB.no {P : Program} {f : FuncId} {args : Array Value} {w : World} {p : Prop} (hp : ¬ p) (h : Calls P f args w (RetB p w)) : Calls P f args w fun e w' => e = .returned (.bool false) ∧ Below w.heap.size w w' :=
  h.mono fun _ _ ⟨b, he, hi, hb⟩ => ⟨by rw [he]; cases b; rfl; exact absurd (hi.1 rfl) hp, hb⟩
theorem cell_later {w : World} {b o : Nat} {v : Value} (h : Cell w b o v) : ∀ x, (w.later x).cell? ⟨b, o, none⟩ = some v := fun x => cell_ext (below_later w x) h

end Go.Proofs.YtoibnhkiedpkgaaGreatDoor

namespace Go
open Go.RowKit

/-- The frame with values in the slots of operations. -/
def putsFrom (vs : Nat → Value) : List Oper → Nat → Act → Act
  | [], _, a => a
  | o :: l, k, a => putsFrom vs l (k + 1) (a.put o.dst (vs k))

def apartFrom (d : Option Tmp) : List Oper → Bool
  | [] => true
  | o :: l => (match d with | none => true | some t => !(o.dst == some t)) && apartFrom d l
def dstsApart : List Oper → Bool
  | [] => true
  | o :: l => apartFrom o.dst l && dstsApart l

theorem act_put_put (a : Act) (d : Option Tmp) (v u : Value) : (a.put d v).put d u = a.put d u := by
  cases d with
  | none => rfl
  | some d =>
    have e : (a.tmps.setIfInBounds d v).setIfInBounds d u = a.tmps.setIfInBounds d u := by
      apply Array.ext_getElem?
      intro i
      by_cases h : d = i
      · subst h; simp
      · simp [h]
    simp only [Act.put, e]

theorem act_put_self (a : Act) (d : Option Tmp) : ∃ v, a.put d v = a := by
  cases d with
  | none => exact ⟨.bool false, rfl⟩
  | some d =>
    refine ⟨a.tmps.getD d undef, ?_⟩
    obtain ⟨ts, df⟩ := a
    have e : ts.setIfInBounds d (ts.getD d undef) = ts := by
      apply Array.ext_getElem?
      intro i
      by_cases h : d = i
      · subst h
        by_cases hl : d < ts.size
        · simp [hl]
        · simp [hl]
      · simp [h]
    simp only [Act.put, e]

theorem puts_comm (vs : Nat → Value) (d : Option Tmp) (v : Value) : ∀ (l : List Oper) (k : Nat) (a : Act), apartFrom d l = true → (putsFrom vs l k a).put d v = putsFrom vs l k (a.put d v) := by
  intro l
  induction l with
  | nil => intro k a _; rfl
  | cons o l ih =>
    intro k a h
    simp only [apartFrom, Bool.and_eq_true] at h
    simp only [putsFrom]
    rw [ih _ _ h.2]
    congr 1
    refine Act.put_comm a _ _ fun t ht => ?_
    intro hd
    subst hd
    simp [ht] at h

theorem puts_congr (vs us : Nat → Value) : ∀ (l : List Oper) (k : Nat) (a : Act), (∀ j, k ≤ j → vs j = us j) → putsFrom vs l k a = putsFrom us l k a := by
  intro l
  induction l with
  | nil => intro k a _; rfl
  | cons o l ih =>
    intro k a h
    simp only [putsFrom]
    rw [h k (Nat.le_refl _), ih _ _ fun j hj => h j (by omega)]

theorem puts_set (vs : Nat → Value) (v : Value) : ∀ (l : List Oper) (k i : Nat) (a : Act) (o : Oper), dstsApart l = true → l[i]? = some o →
    (putsFrom vs l k a).put o.dst v = putsFrom (fun j => if j = k + i then v else vs j) l k a := by
  intro l
  induction l with
  | nil => intro k i a o _ h; simp at h
  | cons o' l ih =>
    intro k i a o hd h
    simp only [dstsApart, Bool.and_eq_true] at hd
    cases i with
    | zero =>
      simp only [List.getElem?_cons_zero, Option.some.injEq] at h
      subst h
      simp only [putsFrom, Nat.add_zero, if_true]
      rw [puts_comm _ _ _ _ _ _ hd.1, act_put_put]
      exact puts_congr _ _ _ _ _ fun j hj => by rw [if_neg (by omega)]
    | succ i =>
      simp only [List.getElem?_cons_succ] at h
      simp only [putsFrom]
      rw [ih (k + 1) i _ o hd.2 h, if_neg (by omega)]
      exact puts_congr _ _ _ _ _ fun j hj => by rw [show k + 1 + i = k + (i + 1) by omega]

theorem puts_self : ∀ (l : List Oper) (k : Nat) (a : Act), ∃ vs, putsFrom vs l k a = a := by
  intro l
  induction l with
  | nil => intro k a; exact ⟨fun _ => .bool false, rfl⟩
  | cons o l ih =>
    intro k a
    obtain ⟨v, hv⟩ := act_put_self a o.dst
    obtain ⟨vs, hvs⟩ := ih (k + 1) a
    refine ⟨fun j => if j = k then v else vs j, ?_⟩
    simp only [putsFrom, if_true, hv]
    rw [← hvs]
    rw [hvs]
    rw [puts_congr _ vs l (k + 1) a fun j hj => by rw [if_neg (by omega)]]
    exact hvs

/-- What an operation waits for. -/
def Oper.waitsOn (o : Oper) : List Nat := (o.after.toList.filter (Region.binds .any)).map (·.on)
def noDups : List Nat → List Nat
  | [] => []
  | x :: l => if (noDups l).contains x then noDups l else x :: noDups l
theorem mem_noDups {x : Nat} : ∀ {l : List Nat}, x ∈ noDups l → x ∈ l := by
  intro l
  induction l with
  | nil => intro h; exact h
  | cons y l ih =>
    intro h
    simp only [noDups] at h
    split at h
    · exact List.mem_cons_of_mem _ (ih h)
    · rcases List.mem_cons.1 h with h | h
      · exact h ▸ List.mem_cons_self
      · exact List.mem_cons_of_mem _ (ih h)
def reachOf (ops : List Oper) : Nat → List Nat → List Nat
  | 0, S => S
  | f + 1, S => reachOf ops f (noDups (S ++ S.flatMap fun k => match ops[k]? with | none => [] | some o => o.waitsOn))
def growB (ops : List Oper) (m : Nat) : Bool :=
  dstsApart (ops.take m) && decide (m ≤ ops.length) &&
  (List.range ops.length).all (fun i => match ops[i]? with | none => true | some o => o.waitsOn.all (· < i)) &&
  (List.range ops.length).all (fun k => decide (k < m) || (List.range k).all (fun j => (reachOf ops 12 ((ops[k]?).elim [] Oper.waitsOn)).contains j))

def downClosed (ops : List Oper) (L : Array Bool) : Prop := ∀ i o, L.getD i false = true → ops[i]? = some o → ∀ j ∈ o.waitsOn, L.getD j false = true

theorem reach_listed {ops : List Oper} {L : Array Bool} (hd : downClosed ops L) : ∀ (f : Nat) (S : List Nat), (∀ j ∈ S, L.getD j false = true) → ∀ j ∈ reachOf ops f S, L.getD j false = true := by
  intro f
  induction f with
  | zero => intro S h j hj; exact h j hj
  | succ f ih =>
    intro S h j hj
    refine ih _ (fun i hi => ?_) j hj
    rcases List.mem_append.1 (mem_noDups hi) with h1 | h1
    · exact h i h1
    · obtain ⟨k, hk, hik⟩ := List.mem_flatMap.1 h1
      cases hok : ops[k]? with
      | none => simp [hok] at hik
      | some o =>
        simp only [hok] at hik
        exact hd k o (h k hk) hok i hik

theorem mem_waitsOn {o : Oper} {j : Nat} : j ∈ o.waitsOn ↔ ∃ e ∈ o.after, Region.binds .any e = true ∧ e.on = j := by
  unfold Oper.waitsOn
  simp only [List.mem_map, List.mem_filter, Array.mem_toList_iff]
  constructor
  · rintro ⟨e, ⟨h1, h2⟩, h3⟩; exact ⟨e, h1, h2, h3⟩
  · rintro ⟨e, h1, h2, h3⟩; exact ⟨e, ⟨h1, h2⟩, h3⟩

theorem ready_waits {ops : List Oper} {L : Array Bool} {k : Nat} : k ∈ Region.ready .any ops.toArray L ↔ L.getD k true = false ∧ ∃ o, ops[k]? = some o ∧ ∀ j ∈ o.waitsOn, L.getD j false = true := by
  rw [mem_ready]
  simp only [List.getElem?_toArray]
  constructor
  · rintro ⟨h0, o, ho, h⟩
    exact ⟨h0, o, ho, fun j hj => by obtain ⟨e, he, hb, rfl⟩ := mem_waitsOn.1 hj; exact h e he hb⟩
  · rintro ⟨h0, o, ho, h⟩
    exact ⟨h0, o, ho, fun e he hb => h _ (mem_waitsOn.2 ⟨e, he, hb, rfl⟩)⟩

/-- How many of the first operations are not listed. -/
def unTo (L : Array Bool) : Nat → Nat
  | 0 => 0
  | k + 1 => unTo L k + (if L.getD k true then 0 else 1)
theorem unTo_le (L : Array Bool) (i : Nat) (k : Nat) : unTo (L.setIfInBounds i true) k ≤ unTo L k := by
  induction k with
  | zero => simp [unTo]
  | succ k ih =>
    simp only [unTo]
    by_cases h : i = k
    · subst h
      have : (L.setIfInBounds i true).getD i true = true := by
        simp only [Array.getD_eq_getD_getElem?, Array.getElem?_setIfInBounds]
        by_cases hl : i < L.size <;> simp [hl]
      rw [this]
      simp
      omega
    · rw [getD_set_ne true h]
      omega
theorem unTo_lt (L : Array Bool) (i : Nat) (hi : L.getD i true = false) (k : Nat) (hk : i < k) : unTo (L.setIfInBounds i true) k + 1 ≤ unTo L k := by
  induction k with
  | zero => omega
  | succ k ih =>
    simp only [unTo]
    by_cases h : i = k
    · subst h
      have : (L.setIfInBounds i true).getD i true = true := by
        simp only [Array.getD_eq_getD_getElem?, Array.getElem?_setIfInBounds]
        by_cases hl : i < L.size <;> simp [hl]
      rw [this, hi]
      have := unTo_le L i i
      simp
      omega
    · rw [getD_set_ne true h]
      have := ih (by omega)
      omega
theorem unTo_zero (L : Array Bool) (k : Nat) (h : unTo L k = 0) : ∀ i, i < k → L.getD i true = true := by
  induction k with
  | zero => intro i hi; omega
  | succ k ih =>
    simp only [unTo] at h
    intro i hi
    by_cases e : i = k
    · subst e
      by_cases hh : L.getD i true = true
      · exact hh
      · simp [hh] at h
    · exact ih (by omega) i (by omega)
theorem unTo_start (n k : Nat) : unTo (Array.replicate n false) k ≤ k := by
  induction k with
  | zero => simp [unTo]
  | succ k ih => simp only [unTo]; split <;> omega

theorem getD_rep (n i : Nat) : (Array.replicate n false).getD i false = false := by
  simp only [Array.getD_eq_getD_getElem?, Array.getElem?_replicate]
  split <;> rfl
theorem getD_tf {L : Array Bool} {i : Nat} (h : L.getD i false = true) : L.getD i true = true := by
  simp only [Array.getD_eq_getD_getElem?] at *
  cases hh : L[i]? <;> simp_all
theorem getD_ft {L : Array Bool} {i : Nat} (hi : i < L.size) (h : L.getD i true = true) : L.getD i false = true := by
  simp only [Array.getD_eq_getD_getElem?] at *
  simp_all

section
variable {P : Program} {Q : Exit → Act → World → Prop} {ops : List Oper} {m : Nat}

theorem growB_lt (hB : growB ops m = true) {i : Nat} {o : Oper} (ho : ops[i]? = some o) : ∀ j ∈ o.waitsOn, j < i := by
  simp only [growB, Bool.and_eq_true] at hB
  have h := List.all_eq_true.1 hB.1.2 i (List.mem_range.2 (List.getElem?_eq_some_iff.1 ho).1)
  simp only [ho] at h
  intro j hj
  simpa using List.all_eq_true.1 h j hj
theorem growB_tail (hB : growB ops m = true) {k : Nat} (hk : k < ops.length) (hm : m ≤ k) : ∀ j, j < k → j ∈ reachOf ops 12 ((ops[k]?).elim [] Oper.waitsOn) := by
  simp only [growB, Bool.and_eq_true] at hB
  have h := List.all_eq_true.1 hB.2 k (List.mem_range.2 hk)
  simp only [Bool.or_eq_true, decide_eq_true_eq] at h
  rcases h with h | h
  · omega
  · intro j hj
    simpa using List.all_eq_true.1 h j (List.mem_range.2 hj)
theorem growB_apart (hB : growB ops m = true) : dstsApart (ops.take m) = true := by
  simp only [growB, Bool.and_eq_true] at hB
  exact hB.1.1.1
theorem growB_le (hB : growB ops m = true) : m ≤ ops.length := by
  simp only [growB, Bool.and_eq_true, decide_eq_true_eq] at hB
  exact hB.1.1.2

theorem downClosed_set {L : Array Bool} {i : Nat} {o : Oper} (hd : downClosed ops L) (ho : ops[i]? = some o) (hw : ∀ j ∈ o.waitsOn, L.getD j false = true) : downClosed ops (L.setIfInBounds i true) := by
  intro k ok hk hok j hj
  by_cases e : i = k
  · subst e
    rw [ho] at hok
    cases hok
    exact getD_set_true (hw j hj)
  · rw [getD_set_ne false e] at hk
    exact getD_set_true (hd k ok hk hok j hj)

/-- The least one that is not listed may come. -/
theorem some_ready (hB : growB ops m = true) {L : Array Bool} (hL : L.size = ops.length) (h : Region.ready .any ops.toArray L = []) : ∀ i, i < ops.length → L.getD i true = true := by
  intro i
  induction i using Nat.strongRecOn with
  | _ i ih =>
    intro hi
    by_cases hh : L.getD i true = true
    · exact hh
    · exfalso
      have ho : ops[i]? = some ops[i] := List.getElem?_eq_getElem hi
      have : i ∈ Region.ready .any ops.toArray L := ready_waits.2 ⟨by simpa using hh, _, ho, fun j hj => by
        have hji := growB_lt hB ho j hj
        exact getD_ft (by omega) (ih j hji (by omega))⟩
      rw [h] at this
      cases this

theorem tail_any (hB : growB ops m = true) : ∀ (fuel : Nat) (L : Array Bool) (t : Nat) (a : Act) (w : World), L.size = ops.length → m ≤ t → (∀ i, i < ops.length → L.getD i true = decide (i < t)) → unTo L ops.length ≤ fuel →
    wpList P ops.toArray Q (ops.drop t) a w → wpAny P .any ops.toArray Q fuel L a w := by
  intro fuel
  induction fuel with
  | zero =>
    intro L t a w hs hm hl hu h
    have hall := unTo_zero L ops.length (by omega)
    have ht : ops.length ≤ t := by
      by_cases e : ops.length ≤ t
      · exact e
      · have h1 := hall t (by omega)
        rw [hl t (by omega)] at h1
        simp at h1
    refine ⟨?_, ?_⟩
    · apply List.eq_nil_iff_forall_not_mem.2
      intro k hk
      obtain ⟨h0, o, ho, _⟩ := ready_waits.1 hk
      rw [hall k (List.getElem?_eq_some_iff.1 ho).1] at h0
      cases h0
    · rw [List.drop_eq_nil_of_le ht] at h
      exact h
  | succ fuel ih =>
    intro L t a w hs hm hl hu h
    by_cases ht : ops.length ≤ t
    · refine ⟨fun _ => by rw [List.drop_eq_nil_of_le ht] at h; exact h, fun k hk => ?_⟩
      obtain ⟨h0, o, ho, _⟩ := ready_waits.1 hk
      rw [hl k (List.getElem?_eq_some_iff.1 ho).1] at h0
      have := (List.getElem?_eq_some_iff.1 ho).1
      simp at h0
      omega
    · have htl : t < ops.length := by omega
      have ho : ops[t]? = some ops[t] := List.getElem?_eq_getElem htl
      refine ⟨fun h0 => ?_, fun k hk => ?_⟩
      · have := some_ready hB hs h0 t htl
        rw [hl t htl] at this
        simp at this
      · obtain ⟨h0, o, hok, hw⟩ := ready_waits.1 hk
        have hkl := (List.getElem?_eq_some_iff.1 hok).1
        rw [hl k hkl] at h0
        have hkt : k = t := by
          by_cases e : k = t
          · exact e
          · exfalso
            have hlt : t < k := by simp at h0; omega
            have hdc : downClosed ops L := by
              intro i oi hi hoi j hj
              have hil := (List.getElem?_eq_some_iff.1 hoi).1
              have h1 := getD_tf hi
              rw [hl i hil] at h1
              have hji := growB_lt hB hoi j hj
              refine getD_ft (by omega) ?_
              rw [hl j (by omega)]
              simp at h1 ⊢
              omega
            have h2 := reach_listed hdc 12 _ (by rw [hok]; exact hw) t (growB_tail hB hkl (by omega) t hlt)
            have h3 := getD_tf h2
            rw [hl t htl] at h3
            simp at h3
        subst hkt
        rw [List.drop_eq_getElem_cons htl] at h
        unfold wpOp
        simp only [List.getElem?_toArray, ho]
        unfold wpList at h
        have hnext : ∀ a' w', wpList P ops.toArray Q (ops.drop (k + 1)) a' w' → wpAny P .any ops.toArray Q fuel (L.setIfInBounds k true) a' w' := fun a' w' h' => by
          refine ih _ (k + 1) a' w' (by simpa using hs) (by omega) (fun i hi => ?_) ?_ h'
          · by_cases e : k = i
            · subst e
              have : (L.setIfInBounds k true).getD k true = true := getD_tf (by simp [hs, htl])
              rw [this]
              simp
            · rw [getD_set_ne true e, hl i hi]
              simp
              omega
          · have := unTo_lt L k (by rw [hl k htl]; simp) ops.length htl
            omega
        split
        · rename_i hwn
          rw [if_pos hwn] at h
          rcases h with h | h
          · exact .inl (Oper.wp_mono hnext h)
          · exact .inr h
        · rename_i hwn
          rw [if_neg hwn] at h
          exact hnext _ _ h

/-- What is asked once an operation has been carried out: new memory alone, and a fact of its value. -/
def Oper.growUpon (P : Program) (w : World) (R : Value → World → Prop) : Result Next → Prop
  | .ok (.value v) w' => Below w.heap.size w w' ∧ R v w'
  | .ok .skip w' => Below w.heap.size w w' ∧ R undef w'
  | .ok (.enter f args) w' => Calls P f args w' (fun e w'' => ∃ v, e = .returned v ∧ Below w.heap.size w w'' ∧ R v w'')
  | _ => False
def Oper.grows (P : Program) (o : Oper) (a : Act) (w : World) (R : Value → World → Prop) : Prop := Oper.growUpon P w R ((execOp a.eval o).run P w)
def stepOk (P : Program) (ops : Array Oper) (o : Oper) (a : Act) (w : World) (R : Value → World → Prop) : Prop :=
  if Region.wanted o (yielded ops a.tmps) then o.grows P a w R else R undef w

theorem Oper.wp_of_grows {o : Oper} {a : Act} {w : World} {R : Value → World → Prop} {K : Act → World → Prop} {Q' : Exit → Act → World → Prop} (hh : o.grows P a w R)
    (h : ∀ v w', Below w.heap.size w w' → R v w' → K (a.put o.dst v) w') : o.wp P a w K Q' := by
  unfold Oper.grows at hh
  unfold Oper.wp
  generalize (execOp a.eval o).run P w = r at *
  cases r with
  | ok n w' =>
    cases n <;> simp only [Oper.growUpon] at hh <;> simp only [Oper.upon]
    case value u => exact h _ _ hh.1 hh.2
    case skip => exact h _ _ hh.1 hh.2
    case enter f args => exact hh.mono fun e w'' ⟨v, he, hb, hr⟩ => by subst he; exact h _ _ hb hr
  | halt x w' => simp only [Oper.growUpon] at hh

/-- A fact of a value that stays while new memory is made. -/
def StaysV (R : Value → World → Prop) : Prop := ∀ v w w', Below w.heap.size w w' → R v w → R v w'

theorem grow_any (hB : growB ops m = true) {a0 : Act} {w0 : World} (H : Nat → Value → World → Prop) (hs : ∀ i, StaysV (H i))
    (step : ∀ i o, i < m → ops[i]? = some o → ∀ vs w, Below w0.heap.size w0 w → (∀ j ∈ o.waitsOn, H j (vs j) w) → stepOk P ops.toArray o (putsFrom vs (ops.take m) 0 a0) w (H i))
    (done : ∀ vs w, Below w0.heap.size w0 w → (∀ i, i < m → H i (vs i) w) → wpList P ops.toArray Q (ops.drop m) (putsFrom vs (ops.take m) 0 a0) w) :
    ∀ (fuel : Nat) (L : Array Bool) (a : Act) (w : World), L.size = ops.length → downClosed ops L → (∀ j, m ≤ j → L.getD j false = false) → unTo L ops.length ≤ fuel →
      (∃ vs, a = putsFrom vs (ops.take m) 0 a0 ∧ Below w0.heap.size w0 w ∧ ∀ i, i < m → L.getD i false = true → H i (vs i) w) → wpAny P .any ops.toArray Q fuel L a w := by
  have hml := growB_le hB
  intro fuel
  induction fuel with
  | zero =>
    intro L a w hL hd ht hu ⟨vs, ha, hb, hf⟩
    have hall := unTo_zero L ops.length (by omega)
    refine tail_any hB 0 L m a w hL (Nat.le_refl _) (fun i hi => ?_) hu ?_
    · rw [hall i hi]
      by_cases e : i < m
      · simp [e]
      · have h1 := getD_ft (by omega) (hall i hi)
        rw [ht i (by omega)] at h1
        cases h1
    · rw [ha]
      exact done vs w hb fun i hi => hf i hi (getD_ft (by omega) (hall i (by omega)))
  | succ fuel ih =>
    intro L a w hL hd ht hu ⟨vs, ha, hb, hf⟩
    by_cases hall : ∀ i, i < m → L.getD i true = true
    · refine tail_any hB (fuel + 1) L m a w hL (Nat.le_refl _) (fun i hi => ?_) hu ?_
      · by_cases e : i < m
        · rw [hall i e]; simp [e]
        · have h1 := ht i (by omega)
          have h2 : L.getD i true = false := by
            by_cases h3 : L.getD i true = true
            · rw [getD_ft (by omega) h3] at h1; cases h1
            · simpa using h3
          rw [h2]
          simp
          omega
      · rw [ha]
        exact done vs w hb fun i hi => hf i hi (getD_ft (by omega) (hall i hi))
    · refine ⟨fun h0 => (hall fun i hi => some_ready hB hL h0 i (by omega)).elim, fun k hk => ?_⟩
      obtain ⟨h0, o, hok, hw⟩ := ready_waits.1 hk
      have hkl := (List.getElem?_eq_some_iff.1 hok).1
      have hkm : k < m := by
        by_cases e : k < m
        · exact e
        · exfalso
          refine hall fun i hi => getD_tf ?_
          exact reach_listed hd 12 _ (by rw [hok]; exact hw) i (growB_tail hB hkl (by omega) i (by omega))
      have hdeps : ∀ j ∈ o.waitsOn, H j (vs j) w := fun j hj => hf j (by have := growB_lt hB hok j hj; omega) (hw j hj)
      have hst := step k o hkm hok vs w hb hdeps
      have hnext : ∀ v w', Below w.heap.size w w' → H k v w' → wpAny P .any ops.toArray Q fuel (L.setIfInBounds k true) (a.put o.dst v) w' := fun v w' hbw hv => by
        refine ih _ _ w' (by simpa using hL) (downClosed_set hd hok hw) (fun j hj => ?_) ?_ ⟨fun j => if j = k then v else vs j, ?_, hb.trans (hbw.mono hb.size), fun i hi hli => ?_⟩
        · rw [getD_set_ne false (by omega)]; exact ht j hj
        · have := unTo_lt L k h0 ops.length hkl
          omega
        · rw [ha]
          have := puts_set vs v (ops.take m) 0 k a0 o (growB_apart hB) (by rw [List.getElem?_take_of_lt hkm]; exact hok)
          rw [this]
          exact puts_congr _ _ _ _ _ fun j _ => by rw [Nat.zero_add]
        · simp only
          by_cases e : i = k
          · subst e; rw [if_pos rfl]; exact hv
          · rw [if_neg e]
            rw [getD_set_ne false (Ne.symm e)] at hli
            exact hs i _ _ _ hbw (hf i hi hli)
      unfold wpOp
      simp only [List.getElem?_toArray, hok]
      unfold stepOk at hst
      rw [← ha] at hst
      split
      · rename_i hwn
        rw [if_pos hwn] at hst
        exact .inl (Oper.wp_of_grows hst hnext)
      · rename_i hwn
        rw [if_neg hwn] at hst
        exact hnext _ _ (Below.refl _ _) hst

theorem wp_region_grow {id : Nat} {a0 : Act} {w0 : World} (m : Nat) (hm : P.follows .mixedOrders = true) (hB : growB ops m = true) (H : Nat → Value → World → Prop) (hs : ∀ i, StaysV (H i))
    (step : ∀ i o, i < m → ops[i]? = some o → ∀ vs w, Below w0.heap.size w0 w → (∀ j ∈ o.waitsOn, H j (vs j) w) → stepOk P ops.toArray o (putsFrom vs (ops.take m) 0 a0) w (H i))
    (done : ∀ vs w, Below w0.heap.size w0 w → (∀ i, i < m → H i (vs i) w) → wpList P ops.toArray Q (ops.drop m) (putsFrom vs (ops.take m) 0 a0) w) :
    (Code.region id ops.toArray true).wp P Q a0 w0 := by
  refine wp_region_any hm ?_
  obtain ⟨vs, hvs⟩ := puts_self (ops.take m) 0 a0
  refine grow_any hB H hs step done _ _ _ _ (by simp) ?_ (fun j _ => ?_) ?_ ⟨vs, hvs.symm, ⟨rfl, rfl, rfl, Nat.le_refl _, fun _ _ => rfl⟩, fun i hi hli => ?_⟩
  · intro i o hi
    rw [getD_rep] at hi
    cases hi
  · exact getD_rep _ _
  · simpa using unTo_start ops.length ops.length
  · rw [getD_rep] at hli
    cases hli

/-! The facts, one operation after the other. -/
def factAt (Hs : List (Value → World → Prop)) (i : Nat) : Value → World → Prop := (Hs[i]?).getD fun _ _ => True

/-- All operations of a list, from number k on, the facts of those before known. -/
def growAll (P : Program) (ops : Array Oper) (pre : List Oper) (a0 : Act) (w0 : World) (Q : List (Value → World → Prop) → Prop) : List Oper → List (Value → World → Prop) → Prop
  | [], Hs => Q Hs
  | o :: l, Hs => ∃ R : Value → World → Prop, StaysV R ∧
      (∀ vs w, Below w0.heap.size w0 w → (∀ j ∈ o.waitsOn, factAt Hs j (vs j) w) → stepOk P ops o (putsFrom vs pre 0 a0) w R) ∧ growAll P ops pre a0 w0 Q l (Hs ++ [R])

theorem growAll_out {a0 : Act} {w0 : World} {Q' : List (Value → World → Prop) → Prop} (hlt : ∀ (i : Nat) (o : Oper), ops[i]? = some o → ∀ j ∈ o.waitsOn, j < i) : ∀ (l : List Oper) (Hs : List (Value → World → Prop)), (∀ R ∈ Hs, StaysV R) → (∀ i, l[i]? = (ops.take m)[Hs.length + i]?) → Hs.length + l.length = m →
    growAll P ops.toArray (ops.take m) a0 w0 Q' l Hs → ∃ Hs', Q' (Hs ++ Hs') ∧ (∀ R ∈ Hs ++ Hs', StaysV R) ∧ Hs'.length = l.length ∧
      ∀ (i : Nat) (o : Oper), Hs.length ≤ i → i < m → ops[i]? = some o → ∀ (vs : Nat → Value) (w : World), Below w0.heap.size w0 w → (∀ j ∈ o.waitsOn, factAt (Hs ++ Hs') j (vs j) w) → stepOk P ops.toArray o (putsFrom vs (ops.take m) 0 a0) w (factAt (Hs ++ Hs') i) := by
  intro l
  induction l with
  | nil =>
    intro Hs hst _ hlen h
    exact ⟨[], by simpa [growAll] using h, by simpa using hst, rfl, fun i o h1 h2 => by simp at hlen; omega⟩
  | cons o l ih =>
    intro Hs hst hl hlen h
    obtain ⟨R, hR, hstep, h⟩ := h
    obtain ⟨Hs', hQ, hst', hlen', hstep'⟩ := ih (Hs ++ [R]) (fun R' hR' => by
      rcases List.mem_append.1 hR' with h1 | h1
      · exact hst _ h1
      · simp at h1; subst h1; exact hR) (fun i => by
      have := hl (i + 1)
      simp only [List.getElem?_cons_succ] at this
      rw [this, List.length_append]
      congr 1
      simp; omega) (by simp at hlen ⊢; omega) h
    refine ⟨R :: Hs', by simpa using hQ, by simpa using hst', by simp [hlen'], fun i o' h1 h2 ho' vs w hb hd => ?_⟩
    have e : Hs ++ R :: Hs' = Hs ++ [R] ++ Hs' := by simp
    by_cases hi : i = Hs.length
    · subst hi
      have h0 := hl 0
      simp only [List.getElem?_cons_zero, Nat.add_zero] at h0
      rw [List.getElem?_take_of_lt h2, ho'] at h0
      cases h0
      have hf : factAt (Hs ++ R :: Hs') Hs.length = R := by
        unfold factAt
        simp
      rw [hf]
      refine hstep vs w hb fun j hj => ?_
      have hjl := hlt _ _ ho' j hj
      have := hd j hj
      unfold factAt at this ⊢
      rwa [List.getElem?_append_left hjl] at this
    · rw [e] at hd ⊢
      exact hstep' i o' (by simp; omega) h2 ho' vs w hb hd

theorem wp_region_grow_all {id : Nat} {a0 : Act} {w0 : World} (m : Nat) (hm : P.follows .mixedOrders = true) (hB : growB ops m = true)
    (h : growAll P ops.toArray (ops.take m) a0 w0 (fun Hs => ∀ vs w, Below w0.heap.size w0 w → (∀ i, i < m → factAt Hs i (vs i) w) → wpList P ops.toArray Q (ops.drop m) (putsFrom vs (ops.take m) 0 a0) w) (ops.take m) []) :
    (Code.region id ops.toArray true).wp P Q a0 w0 := by
  have hml := growB_le hB
  obtain ⟨Hs, hQ, hst, _, hstep⟩ := growAll_out (fun i o ho => growB_lt hB ho) (ops.take m) [] (fun R hR => by simp at hR) (fun i => by simp) (by simp; omega) h
  simp only [List.nil_append] at hQ hst hstep
  refine wp_region_grow m hm hB (factAt Hs) (fun i => ?_) (fun i o hi ho => hstep i o (Nat.zero_le _) hi ho) hQ
  unfold factAt
  cases hh : Hs[i]? with
  | none => exact fun _ _ _ _ h => h
  | some R => exact hst R (List.mem_of_getElem? hh)

theorem stepOk_plain {pops : Array Oper} {o : Oper} {a : Act} {w : World} {R R' : Value → World → Prop} (hg : o.guard = none) (h : o.grows P a w R') (hR : ∀ v w', R' v w' → R v w') : stepOk P pops o a w R := by
  unfold stepOk Region.wanted
  simp only [hg, if_true]
  unfold Oper.grows at *
  generalize (execOp a.eval o).run P w = r at *
  cases r with
  | ok n w' =>
    cases n <;> simp only [Oper.growUpon] at h ⊢
    case value u => exact ⟨h.1, hR _ _ h.2⟩
    case skip => exact ⟨h.1, hR _ _ h.2⟩
    case enter f args => exact h.mono fun e w'' ⟨v, he, hb, hr⟩ => ⟨v, he, hb, hR _ _ hr⟩
  | halt x w' => simp only [Oper.growUpon] at h
/-- An operation that makes new memory, in a plain list. -/
theorem wpList_grows {pops : Array Oper} {o : Oper} {rest : List Oper} {a : Act} {w : World} {R : Value → World → Prop} (hg : o.guard = none) (h : o.grows P a w R)
    (k : ∀ v w', Below w.heap.size w w' → R v w' → wpList P pops Q rest (a.put o.dst v) w') : wpList P pops Q (o :: rest) a w :=
  wpList_plain hg fun _ hK => Oper.wp_of_grows h fun v w' hb hr => hK _ _ (k v w' hb hr)
/-- The facts of those that an operation waits for. -/
def depsHold (Hs : List (Value → World → Prop)) (vs : Nat → Value) (w : World) : List Nat → Prop
  | [] => True
  | j :: l => factAt Hs j (vs j) w ∧ depsHold Hs vs w l
theorem depsHold_of {Hs : List (Value → World → Prop)} {vs : Nat → Value} {w : World} : ∀ {l : List Nat}, (∀ j ∈ l, factAt Hs j (vs j) w) → depsHold Hs vs w l
  | [], _ => trivial
  | j :: l, h => ⟨h j (by simp), depsHold_of fun i hi => h i (by simp [hi])⟩

theorem growAll_step {pops : Array Oper} {pre : List Oper} {a0 : Act} {w0 : World} {Q' : List (Value → World → Prop) → Prop} {o : Oper} {l : List Oper} {Hs : List (Value → World → Prop)} (R : Value → World → Prop) (hR : StaysV R)
    (h : ∀ vs x, depsHold Hs vs (w0.later x) o.waitsOn → stepOk P pops o (putsFrom vs pre 0 a0) (w0.later x) R) (k : growAll P pops pre a0 w0 Q' l (Hs ++ [R])) : growAll P pops pre a0 w0 Q' (o :: l) Hs :=
  ⟨R, hR, fun vs w hb hd => by obtain ⟨x, rfl⟩ := later_of_below hb; exact h vs x (depsHold_of hd), k⟩
theorem growAll_exact {pops : Array Oper} {pre : List Oper} {a0 : Act} {w0 : World} {Q' : List (Value → World → Prop) → Prop} {o : Oper} {l : List Oper} {Hs : List (Value → World → Prop)}
    (h : ∃ u, (∀ vs x, depsHold Hs vs (w0.later x) o.waitsOn → stepOk P pops o (putsFrom vs pre 0 a0) (w0.later x) (fun v _ => v = u)) ∧ growAll P pops pre a0 w0 Q' l (Hs ++ [fun v _ => v = u])) : growAll P pops pre a0 w0 Q' (o :: l) Hs := by
  obtain ⟨u, h, k⟩ := h
  exact growAll_step _ (fun _ _ _ _ h => h) h k
theorem growAll_done {pops : Array Oper} {pre : List Oper} {a0 : Act} {w0 : World} {m' : Nat} {K : (Nat → Value) → World → Prop} {Hs : List (Value → World → Prop)} (hm : m' = Hs.length) (h : ∀ vs x, depsHold Hs vs (w0.later x) (List.range m') → K vs (w0.later x)) :
    growAll P pops pre a0 w0 (fun Hs => ∀ vs w, Below w0.heap.size w0 w → (∀ i, i < m' → factAt Hs i (vs i) w) → K vs w) [] Hs := by
  intro vs w hb hd
  obtain ⟨x, rfl⟩ := later_of_below hb
  exact h vs x (depsHold_of fun j hj => hd j (List.mem_range.1 hj))
end
end Go

namespace Go.Proofs.YtoibnhkiedpkgaaGreatDoor
open Go.RowKit

def In (n lo hi : Int) : Prop := lo ≤ n ∧ n ≤ hi

theorem within01 (n lo hi : Int) (w : World) : Calls Tryz.prog 111 #[.int .i64 n, .int .i64 lo, .int .i64 hi] w (RetS (In n lo hi) w) := by
  by_cases h1 : lo ≤ n
  · by_cases h2 : n ≤ hi
    · go_enter Tryz.func111, Tryz.ntmps111
      go_wp2
      go_ret
      exact RetS.t ⟨h1, h2⟩
    · go_enter Tryz.func111, Tryz.ntmps111
      go_wp2
      go_ret
      exact RetS.f (by unfold In; omega)
  · go_enter Tryz.func111, Tryz.ntmps111
    go_wp2
    go_ret
    exact RetS.f (by unfold In; omega)

theorem within02 (n lo hi : Int) (w : World) : Calls Tryz.prog 87 #[.int .i64 n, .int .i64 lo, .int .i64 hi] w (RetS (In n lo hi) w) := by
  by_cases h1 : lo ≤ n
  · by_cases h2 : n ≤ hi
    · go_enter Tryz.func87, Tryz.ntmps87
      go_wp2
      go_ret
      exact RetS.t ⟨h1, h2⟩
    · go_enter Tryz.func87, Tryz.ntmps87
      go_wp2
      go_ret
      exact RetS.f (by unfold In; omega)
  · go_enter Tryz.func87, Tryz.ntmps87
    go_wp2
    go_ret
    exact RetS.f (by unfold In; omega)

theorem within03 (n lo hi : Int) (w : World) : Calls Tryz.prog 90 #[.int .i64 n, .int .i64 lo, .int .i64 hi] w (RetS (In n lo hi) w) := by
  by_cases h1 : lo ≤ n
  · by_cases h2 : n ≤ hi
    · go_enter Tryz.func90, Tryz.ntmps90
      go_wp2
      go_ret
      exact RetS.t ⟨h1, h2⟩
    · go_enter Tryz.func90, Tryz.ntmps90
      go_wp2
      go_ret
      exact RetS.f (by unfold In; omega)
  · go_enter Tryz.func90, Tryz.ntmps90
    go_wp2
    go_ret
    exact RetS.f (by unfold In; omega)

theorem within08 (n lo hi : Int) (w : World) : Calls Tryz.prog 41 #[.int .i64 n, .int .i64 lo, .int .i64 hi] w (RetS (In n lo hi) w) := by
  by_cases h1 : lo ≤ n
  · by_cases h2 : n ≤ hi
    · go_enter Tryz.func41, Tryz.ntmps41
      go_wp2
      go_ret
      exact RetS.t ⟨h1, h2⟩
    · go_enter Tryz.func41, Tryz.ntmps41
      go_wp2
      go_ret
      exact RetS.f (by unfold In; omega)
  · go_enter Tryz.func41, Tryz.ntmps41
    go_wp2
    go_ret
    exact RetS.f (by unfold In; omega)

def inB (n lo hi : Int) : Bool := decide (lo ≤ n) && decide (n ≤ hi)
theorem inB_t {n lo hi : Int} (h : inB n lo hi = true) : In n lo hi := by unfold inB at h; simpa [In] using h
theorem inB_f {n lo hi : Int} (h : ¬ inB n lo hi = true) : ¬ In n lo hi := fun hh => h (by unfold inB; simpa [In] using hh)
theorem inB_ff {n lo hi : Int} (h : ¬ inB n lo hi = true) : inB n lo hi = false := by simpa using h

theorem within02_v (n lo hi : Int) (w : World) : Calls Tryz.prog 87 #[.int .i64 n, .int .i64 lo, .int .i64 hi] w fun e w' => e = .returned (.bool (inB n lo hi)) ∧ w' = w := by
  refine (within02 n lo hi w).mono ?_
  intro e w' h
  rcases h.both with ⟨h1, rfl, rfl⟩ | ⟨h1, rfl, rfl⟩
  · exact ⟨by rw [show inB n lo hi = true from by unfold inB; simpa [In] using h1], rfl⟩
  · exact ⟨by rw [show inB n lo hi = false from by unfold In at h1; unfold inB; rw [Bool.eq_false_iff]; simpa using h1], rfl⟩

def DimOk (d : Dim) : Prop := In d.n 0 1000000000 ∧ In d.up 0 1000000000 ∧ In d.lo 0 d.up

theorem dim01 (d : Dim) (w : World) : Calls Tryz.prog 105 #[.agg #[.int .i64 d.n, .int .i64 d.lo, .int .i64 d.up]] w (RetB (DimOk d) w) := by
  obtain ⟨hb1, B1⟩ := boxed1 w #[.int .i64 d.n, .int .i64 d.lo, .int .i64 d.up] 50
  have c1 := B1 1 _ rfl
  have c2 := B1 2 _ rfl
  clear B1
  unfold Cell at c1 c2
  go_enter Tryz.func105, Tryz.ntmps105
  go_wp2_with fail
  generalize w.alloc _ = w1 at *
  refine (within01 _ _ _ _).mono ?_
  intro e w2 h
  rcases h.both with ⟨h1, rfl, rfl⟩ | ⟨h1, rfl, rfl⟩
  · clear h
    go_wp2_with fail
    refine (within01 _ _ _ _).mono ?_
    intro e w3 h
    rcases h.both with ⟨h2, rfl, rfl⟩ | ⟨h2, rfl, rfl⟩
    · clear h
      go_wp2_with fail
      refine (within01 _ _ _ _).mono ?_
      intro e w4 h
      rcases h.both with ⟨h3, rfl, rfl⟩ | ⟨h3, rfl, rfl⟩
      · go_wp2
        go_ret
        exact RetB.t ⟨h1, h2, h3⟩ hb1
      · go_wp2
        go_ret
        exact RetB.f (fun h => h3 h.2.2) hb1
    · go_wp2
      go_ret
      exact RetB.f (fun h => h2 h.2.1) hb1
  · go_wp2
    go_ret
    exact RetB.f (fun h => h1 h.1) hb1

end Go.Proofs.YtoibnhkiedpkgaaGreatDoor

namespace Go.Proofs.YtoibnhkiedpkgaaGreatDoor
open Go.RowKit

def ItemOk (x : Issue) (k : Nat) : Prop := ∀ h : k < x.items.length, In x.items[k].d 1 9999 ∧ In x.items[k].c 1 20 ∧ x.items[k].d ≠ x.d ∧ (∀ h1 : 0 < k, x.items[k - 1].d < x.items[k].d)
def HeadOk (x : Issue) : Prop := In x.d 1 9999 ∧ In x.l 1 8 ∧ In x.k 1 3 ∧ (x.k = 1 → In x.items.length 1 8 ∧ x.dims.length = 0) ∧ (1 < x.k → x.dims.length ≤ 4 ∧ x.items.length = 0)
def IssueOk (x : Issue) : Prop := HeadOk x ∧ (∀ k, k < x.items.length → ItemOk x k) ∧ (∀ k, (h : k < x.dims.length) → DimOk x.dims[k])

/-- An issue in memory: the values of its two slices. -/
structure IssueAt (w : World) (vi vd : Value) (x : Issue) : Prop where
  items : Sl AtItem 2 w vi x.items
  dims : Sl AtDim 3 w vd x.dims
  num : I64 x.d ∧ I64 x.l ∧ U8 x.k
theorem IssueAt.ext {w w' : World} {vi vd : Value} {x : Issue} (hb : Below w.heap.size w w') (h : IssueAt w vi vd x) : IssueAt w' vi vd x :=
  ⟨sl_ext stays_item hb h.items, sl_ext stays_dim hb h.dims, h.num⟩

set_option maxRecDepth 100000 in
set_option maxHeartbeats 1600000 in
theorem issue02 (w : World) (vi vd : Value) (x : Issue) (h : IssueAt w vi vd x) :
    Calls Tryz.prog 88 #[.agg #[.int .i64 x.d, .int .i64 x.l, .int .u8 x.k, vi, vd]] w (RetB (IssueOk x) w) := by
  obtain ⟨hb1, B1⟩ := boxed1 w #[.int .i64 x.d, .int .i64 x.l, .int .u8 x.k, vi, vd] 46
  have c0 := B1 0 _ rfl
  have c1 := B1 1 _ rfl
  have c2 := B1 2 _ rfl
  have c3 := B1 3 _ rfl
  have c4 := B1 4 _ rfl
  clear B1
  obtain ⟨ai, capi, rfl, hmi⟩ := sl_shape h.items
  obtain ⟨ad, capd, rfl, hmd⟩ := sl_shape h.dims
  obtain ⟨_, _, hu0, hu1⟩ := h.num
  have hx := h.ext hb1
  clear h
  have C0 := Lib.hid c0
  have C3 := Lib.hid c3
  have C4 := Lib.hid c4
  unfold Cell at c0 c1 c2 c3 c4
  go_enter Tryz.func88, Tryz.ntmps88
  go_wp2_with fail
  generalize w.alloc _ = w1 at *
  refine (within02 _ _ _ _).mono ?_
  intro e w2 h
  rcases h.both with ⟨h1, rfl, rfl⟩ | ⟨h1, rfl, rfl⟩
  case inr => go_wp2; go_ret; exact RetB.f (fun h => h1 h.1.1) hb1
  clear h
  go_wp2_with fail
  refine (within02 _ _ _ _).mono ?_
  intro e w2 h
  rcases h.both with ⟨h2, rfl, rfl⟩ | ⟨h2, rfl, rfl⟩
  case inr => go_wp2; go_ret; exact RetB.f (fun h => h2 h.1.2.1) hb1
  clear h
  go_wp2_with fail
  refine (within02 _ _ _ _).mono ?_
  intro e w2 h
  rcases h.both with ⟨h3, rfl, rfl⟩ | ⟨h3, rfl, rfl⟩
  case inr => go_wp2; go_ret; exact RetB.f (fun h => h3 h.1.2.2.1) hb1
  clear h
  by_cases k1 : x.k = 1
  case' pos =>
    have b1 : (x.k == 1) = true := by simp [k1]
    have b2 : x.k ≤ 1 := by omega
    have K1 := Lib.hid k1
    clear k1
    go_wp2_with fail
    refine (within02 _ _ _ _).mono ?_
    intro e w2 h
    rcases h.both with ⟨h4, rfl, rfl⟩ | ⟨h4, rfl, rfl⟩
    case inr => go_wp2; go_ret; exact RetB.f (fun h => h4 (h.1.2.2.2.1 K1.out).1) hb1
    clear h
    by_cases h5 : 0 < x.dims.length
    case pos =>
      go_wp2
      go_ret
      exact RetB.f (fun h => by have := (h.1.2.2.2.1 K1.out).2; omega) hb1
    go_wp2
    have HH : HeadOk x := ⟨h1, h2, h3, fun _ => ⟨h4, by omega⟩, fun _ => by omega⟩
    clear b1 b2 h4 h5 K1
  case' neg =>
    have b1 : (x.k == 1) = false := by simp [k1]
    have b2 : 1 < x.k := by have := h3.1; omega
    by_cases h4 : 4 < x.dims.length
    case pos =>
      clear k1
      go_wp2
      go_ret
      exact RetB.f (fun h => by have := (h.1.2.2.2.2 b2).1; omega) hb1
    by_cases h5 : 0 < x.items.length
    case pos =>
      clear k1
      go_wp2
      go_ret
      exact RetB.f (fun h => by have := (h.1.2.2.2.2 b2).2; omega) hb1
    have HH : HeadOk x := ⟨h1, h2, h3, fun h => (k1 h).elim, fun _ => ⟨by omega, by omega⟩⟩
    clear k1
    go_wp2
    clear b1 b2 h4 h5
  all_goals
    clear c0 c1 c2 c3 c4 h1 h2 h3 hu0 hu1
    go_loopw [3] (fun i wr => ∃ k : Nat, i = .int .i64 k ∧ k ≤ x.items.length ∧ Below w1.heap.size w1 wr ∧ ∀ j, j < k → ItemOk x j) (fun i _ => x.items.length - (intOf i).toNat)
    case atStart => exact ⟨0, rfl, by omega, Below.refl _ _, fun j hj => absurd hj (by omega)⟩
    case round =>
      obtain ⟨k, rfl, hk, hb, hall⟩ := hrel
      have HALL := Lib.hid hall
      clear hall
      have e3 := cell_ext hb C3.out
      unfold Cell at e3
      by_cases hlt : k < x.items.length
      · obtain ⟨_, hX⟩ := sl_at (hx.ext hb).items
        obtain ⟨b, off, rfl, ⟨q0, q1⟩, _⟩ := hX k hlt
        unfold Cell at q0 q1
        have hY : ItemOk x k ↔ In x.items[k].d 1 9999 ∧ In x.items[k].c 1 20 ∧ x.items[k].d ≠ x.d ∧ (∀ h1 : 0 < k, x.items[k - 1].d < x.items[k].d) := ⟨fun h => h hlt, fun h _ => h⟩
        have HYY := Lib.hid hY
        clear hY
        generalize x.items[k] = y at *
        have hb2 := below_trans hb (below_alloc wr (.cells #[.int .i64 y.d, .int .i64 y.c] 48))
        have m0 := cell_ext (below_alloc wr (.cells #[.int .i64 y.d, .int .i64 y.c] 48)) (cell_ext hb C0.out)
        have m3 := cell_ext (below_alloc wr (.cells #[.int .i64 y.d, .int .i64 y.c] 48)) e3
        have n0 := new_cell wr #[.int .i64 y.d, .int .i64 y.c] 48 0 _ rfl
        have n1 := new_cell wr #[.int .i64 y.d, .int .i64 y.c] 48 1 _ rfl
        have hX2 := (sl_at (hx.ext hb2).items).2
        go_wp2
        clear e3 q0 q1 hX
        generalize wr.alloc _ = w2 at *
        generalize wr.heap.size = s2 at *
        unfold Cell at m0 m3 n0 n1
        have G0 := m0
        by_cases g1 : inB y.d 1 9999 = true
        · by_cases g2 : inB y.c 1 20 = true
          · by_cases g3 : (y.d == x.d) = true
            · clear hX2
              go_quiet ((go_at_call 87; exact Calls.quiet_of_same (within02_v _ _ _ _)))
              go_wp2
              go_ret
              exact RetB.f (fun h => ((HYY.out.1 (h.2.1 k hlt)).2.2.1 (by simpa using g3))) (below_trans hb1 (below_trans hb2 (below_drew_n _ _)))
            · have g3' : (y.d == x.d) = false := by simpa using g3
              by_cases g4 : 0 < k
              · obtain ⟨b', off', hbb, ⟨p0, _⟩, _⟩ := hX2 (k - 1) (by omega)
                cases hbb
                unfold Cell at p0
                have HY4 := Lib.hid (show ItemOk x k ↔ _ from HYY.out)
                have hp : x.items[k - 1] = x.items[k - 1] := rfl
                generalize hz : x.items[k - 1] = z at *
                have HZ := Lib.hid hz
                clear hX2 hz hp
                by_cases g5 : z.d < y.d
                · go_quiet ((go_at_call 87; exact Calls.quiet_of_same (within02_v _ _ _ _)))
                  go_wp2
                  go_roundw
                  case rel => exact ⟨k + 1, by go_num, by omega, below_trans hb2 (below_drew_n _ _), all_step _ k HALL.out (HYY.out.2 ⟨inB_t g1, inB_t g2, by simpa using g3', fun _ => by rw [HZ.out]; exact g5⟩)⟩
                  case measure => simp [intOf]; omega
                · go_quiet ((go_at_call 87; exact Calls.quiet_of_same (within02_v _ _ _ _)))
                  go_wp2
                  go_ret
                  exact RetB.f (fun h => by have := (HYY.out.1 (h.2.1 k hlt)).2.2.2 g4; rw [HZ.out] at this; omega) (below_trans hb1 (below_trans hb2 (below_drew_n _ _)))
              · clear hX2
                go_quiet ((go_at_call 87; exact Calls.quiet_of_same (within02_v _ _ _ _)))
                go_wp2
                go_roundw
                case rel => exact ⟨k + 1, by go_num, by omega, below_trans hb2 (below_drew_n _ _), all_step _ k HALL.out (HYY.out.2 ⟨inB_t g1, inB_t g2, by simpa using g3', fun h => absurd h g4⟩)⟩
                case measure => simp [intOf]; omega
          · have g2' := inB_ff g2
            clear hX2
            go_quiet ((go_at_call 87; exact Calls.quiet_of_same (within02_v _ _ _ _)))
            go_wp2
            go_ret
            exact RetB.f (fun h => inB_f g2 (HYY.out.1 (h.2.1 k hlt)).2.1) (below_trans hb1 (below_trans hb2 (below_drew_n _ _)))
        · have g1' := inB_ff g1
          clear hX2
          go_quiet ((go_at_call 87; exact Calls.quiet_of_same (within02_v _ _ _ _)))
          go_wp2
          go_ret
          exact RetB.f (fun h => inB_f g1 (HYY.out.1 (h.2.1 k hlt)).1) (below_trans hb1 (below_trans hb2 (below_drew_n _ _)))
      · have hb2 := below_trans hb1 hb
        have HA : Hid (∀ j, j < x.items.length → ItemOk x j) := fun j hj => HALL.out j (by omega)
        have hx2 := hx.ext hb
        have C4' := Lib.hid (cell_ext hb C4.out)
        clear HALL hb1 hb hx C0 C3 C4
        obtain ⟨wo, rfl⟩ : ∃ wo : World, wo = wr := ⟨_, rfl⟩
        go_wp2
        clear e3 hlt hk
        go_loopw [5] (fun i wr => ∃ k : Nat, i = .int .i64 k ∧ k ≤ x.dims.length ∧ Below wo.heap.size wo wr ∧ ∀ j, j < k → (h : j < x.dims.length) → DimOk x.dims[j]) (fun i _ => x.dims.length - (intOf i).toNat)
        case atStart => exact ⟨0, rfl, by omega, Below.refl _ _, fun j hj => absurd hj (by omega)⟩
        case round =>
          obtain ⟨k, rfl, hk, hb, hall⟩ := hrel
          have HALL := Lib.hid hall
          clear hall
          have e4 := cell_ext hb C4'.out
          unfold Cell at e4
          have hb3 := below_trans hb2 hb
          by_cases hlt : k < x.dims.length
          · obtain ⟨_, hX⟩ := sl_at (hx2.ext hb).dims
            obtain ⟨b, off, rfl, ⟨q0, q1, q2⟩, _⟩ := hX k hlt
            unfold Cell at q0 q1 q2
            have hY : DimOk x.dims[k] ↔ DimOk x.dims[k] := Iff.rfl
            generalize hy : x.dims[k] = y at *
            have HYY := Lib.hid hy
            clear hy hX hY hx2
            go_wp2_with fail
            refine (dim01 y _).mono ?_
            intro e w4 h
            rcases h.both with ⟨d1, rfl, hb4⟩ | ⟨d1, rfl, hb4⟩
            · clear h
              go_wp2
              go_roundw
              case rel => exact ⟨k + 1, by go_num, by omega, below_trans hb hb4, all_step _ k HALL.out (fun _ => by rw [HYY.out]; exact d1)⟩
              case measure => simp [intOf]; omega
            · clear h
              go_wp2
              go_ret
              exact RetB.f (fun h => d1 (by have := h.2.2 k hlt; rw [HYY.out] at this; exact this)) (below_trans hb3 hb4)
          · clear hx2
            go_wp2
            go_ret
            exact RetB.t ⟨HH, HA.out, fun j hj => HALL.out j (by omega) hj⟩ hb3

end Go.Proofs.YtoibnhkiedpkgaaGreatDoor

namespace Go.Proofs.YtoibnhkiedpkgaaGreatDoor

def numsTo (R : List Issue) : Nat → List Int
  | 0 => []
  | k + 1 => numsTo R k ++ (match R[k]? with | none => [] | some x => if k ≠ 0 ∧ (R[k - 1]?).map (·.d) = some x.d then [] else [x.d])
def nums (R : List Issue) : List Int := numsTo R R.length

theorem numsTo_new (R : List Issue) (k : Nat) (hk : k < R.length) (h : k = 0 ∨ R[k - 1].d ≠ R[k].d) : numsTo R (k + 1) = numsTo R k ++ [R[k].d] := by
  simp only [numsTo, List.getElem?_eq_getElem hk]
  rw [if_neg]
  rintro ⟨h0, h1⟩
  rw [List.getElem?_eq_getElem (by omega)] at h1
  simp at h1
  rcases h with h | h
  · exact h0 h
  · exact h h1
theorem numsTo_same (R : List Issue) (k : Nat) (hk : k < R.length) (h0 : k ≠ 0) (h : R[k - 1].d = R[k].d) : numsTo R (k + 1) = numsTo R k := by
  simp only [numsTo, List.getElem?_eq_getElem hk]
  rw [if_pos]
  · simp
  · refine ⟨h0, ?_⟩
    rw [List.getElem?_eq_getElem (by omega)]
    simp [h]
theorem numsTo_le (R : List Issue) (k : Nat) : (numsTo R k).length ≤ k := by
  induction k with
  | zero => simp [numsTo]
  | succ k ih =>
    simp only [numsTo, List.length_append]
    split
    · simp; omega
    · split <;> simp <;> omega
theorem numsTo_mem (R : List Issue) (k : Nat) (n : Int) (h : n ∈ numsTo R k) : ∃ x ∈ R, x.d = n := by
  induction k with
  | zero => simp [numsTo] at h
  | succ k ih =>
    simp only [numsTo, List.mem_append] at h
    rcases h with h | h
    · exact ih h
    · split at h
      · simp at h
      · rename_i x hx
        split at h
        · simp at h
        · simp at h
          exact ⟨x, List.mem_of_getElem? hx, h.symm⟩

end Go.Proofs.YtoibnhkiedpkgaaGreatDoor

namespace Go.Proofs.YtoibnhkiedpkgaaGreatDoor
open Go.RowKit

def idxI (l : List Int) (n : Int) : Int := if n ∈ l then (l.idxOf n : Int) else -1
theorem idxI_at (l : List Int) (n : Int) (k : Nat) (hk : k < l.length) (h : l[k] = n) (hf : ∀ j, j < k → (hj : j < l.length) → l[j] ≠ n) : idxI l n = k := by
  unfold idxI
  rw [if_pos (h ▸ List.getElem_mem hk)]
  congr 1
  induction l generalizing k with
  | nil => simp at hk
  | cons a l ih =>
    cases k with
    | zero => simp at h; simp [h]
    | succ k =>
      have ha : a ≠ n := hf 0 (by omega) (by simp)
      rw [List.idxOf_cons]
      simp only [cond_false, beq_eq_false_iff_ne.2 ha]
      congr 1
      exact ih k (by simpa using hk) (by simpa using h) (fun j hj hjl => by have := hf (j + 1) (by omega) (by simp; omega); simpa using this)
theorem reg_num {w : World} {v : Value} {R : List Issue} (h : Sl AtIssue 5 w v R) : ∀ x ∈ R, I64 x.d ∧ I64 x.l ∧ U8 x.k := by
  intro x hx
  obtain ⟨k, hk, rfl⟩ := List.getElem_of_mem hx
  obtain ⟨a, cap, rfl, _, hc⟩ := h
  obtain ⟨_, _, _, _, h2, _⟩ := hc k hk
  exact h2
theorem nums_I64 {w : World} {v : Value} {R : List Issue} (h : Sl AtIssue 5 w v R) : ∀ n ∈ nums R, I64 n := by
  intro n hn
  obtain ⟨x, hx, rfl⟩ := numsTo_mem R _ n hn
  exact (reg_num h x hx).1
theorem idxI_none (l : List Int) (n : Int) (hf : ∀ j, (hj : j < l.length) → l[j] ≠ n) : idxI l n = -1 := by
  unfold idxI
  rw [if_neg]
  intro h
  obtain ⟨i, hi, rfl⟩ := List.getElem_of_mem h
  exact hf i hi rfl

theorem idxI_in (l : List Int) (n : Int) (h : n ∈ l) : 0 ≤ idxI l n := by unfold idxI; rw [if_pos h]; omega
theorem idxI_out (l : List Int) (n : Int) (h : ¬ n ∈ l) : idxI l n < 0 := by unfold idxI; rw [if_neg h]; omega

set_option maxRecDepth 100000 in
set_option maxHeartbeats 800000 in
theorem index02 (w : World) (v : Value) (l : List Int) (n : Int) (h : Sl AtInt 1 w v l) :
    Calls Tryz.prog 59 #[v, .int .i64 n] w fun e w' => e = .returned (.int .i64 (idxI l n)) ∧ w = w' := by
  obtain ⟨a, cap, rfl, hm⟩ := sl_shape h
  go_enter Tryz.func59, Tryz.ntmps59
  go_wp2
  go_loop [5] (fun i => ∃ k : Nat, i = .int .i64 k ∧ k ≤ l.length ∧ ∀ j, j < k → (hj : j < l.length) → l[j] ≠ n) (fun i => l.length - (intOf i).toNat)
  case atStart => exact ⟨0, rfl, by omega, fun j hj => absurd hj (by omega)⟩
  case round =>
    obtain ⟨k, rfl, hk, hall⟩ := hrel
    have HALL := Lib.hid hall
    clear hall
    by_cases hlt : k < l.length
    · obtain ⟨b, off, rfl, hc, _⟩ := (sl_at h).2 k hlt
      unfold Cell at hc
      rw [Nat.mul_one] at hc
      generalize hx : l[k] = x at *
      have HX := Lib.hid hx
      clear hx h
      by_cases he : (x == n) = true
      · go_wp2
        go_ret
        exact ⟨ret_int (idxI_at l n k hlt (by rw [HX.out]; simpa using he) HALL.out).symm, rfl⟩
      · have he' : (x == n) = false := by simpa using he
        go_wp2
        go_round
        case rel => exact ⟨k + 1, by go_num, by omega, all_step _ k HALL.out (fun _ => by rw [HX.out]; simpa using he)⟩
        case measure => simp [intOf]; omega
    · clear h
      go_wp2
      go_ret
      exact ⟨ret_int (idxI_none l n (fun j hj => HALL.out j (by omega) hj)).symm, rfl⟩

set_option maxRecDepth 100000 in
set_option maxHeartbeats 800000 in
theorem numbers02 (w : World) (v : Value) (R : List Issue) (h : Sl AtIssue 5 w v R) (hR : R.length ≤ 1000) :
    Calls Tryz.prog 89 #[.agg #[v]] w fun e w' => ∃ u, e = .returned u ∧ Sl AtInt 1 w' u (nums R) ∧ Below w.heap.size w w' := by
  obtain ⟨i0, hi, hz0, hz1, hz2⟩ := info_parts infoInt
  obtain ⟨hb1, B1⟩ := boxed1 w #[v] 24
  have c0 := B1 0 v rfl
  clear B1
  obtain ⟨a, cap, rfl, hm⟩ := sl_shape h
  have h1 := sl_ext stays_issue hb1 h
  have C0 := Lib.hid c0
  clear h c0
  go_enter Tryz.func89, Tryz.ntmps89
  go_wp2
  generalize w.alloc _ = w1 at *
  go_loopw [3, 4] (fun o i wr => ∃ k : Nat, i = .int .i64 k ∧ k ≤ R.length ∧ wr.ownsRow w1.heap.size 3 1 o (numsTo R k).length ((numsTo R k).map (Value.int .i64)) ∧ Below w1.heap.size w1 wr) (fun _ i _ => R.length - (intOf i).toNat)
  case atStart => exact ⟨0, rfl, by omega, World.ownsRow_nil _ _ _ _, Below.refl _ _⟩
  case round =>
    obtain ⟨k, rfl, hk, hown, hb⟩ := hrel
    have e0 := cell_ext hb C0.out
    unfold Cell at e0
    have hle := numsTo_le R k
    by_cases hlt : k < R.length
    · have hX := (sl_at (sl_ext stays_issue hb h1)).2
      obtain ⟨b, off, rfl, ⟨q0, _⟩, _⟩ := hX k hlt
      have hnew := Lib.hid (numsTo_new R k hlt)
      have hsame := Lib.hid (numsTo_same R k hlt)
      unfold Cell at q0
      generalize hx : R[k] = x at *
      have HX := Lib.hid hx
      clear hx
      by_cases h0 : k = 0
      · have hk0 : ((k : Int) == 0) = true := by simp [h0]
        have H0 := Lib.hid h0
        clear hX h0
        go_wp2_with (at_builtin; refine wpList_append_own _ rfl _ _ 28 rfl w1.heap.size 3 i0 (.int .i64 0) 1 8 Tryz.underlying28 hi hz0 hz1 hz2 rfl (by decide) _ _ _ rfl (hown.alloc _) ⟨wr.heap.size, 0, none⟩ 1 1 [.int .i64 x.d] rfl rfl (cell_one_new _ _ _) (by simp [Value.oneCell']) (by unfold maxLen; omega) (by omega) (by have := hb.size; simp; omega) ?_; intro v' w2 hown' hgrow _)
        have hb2 := (hb.alloc hb.size (.cells #[.int .i64 x.d] 3)).grown hgrow (by have := hb.size; simp; omega) (fun k e => (hown.lt k e).1)
        go_roundw
        case rel => exact ⟨k + 1, by go_num, by omega, by rw [hnew.out (.inl H0.out)]; simpa using hown', hb2⟩
        case measure => simp [intOf]; omega
      · obtain ⟨b', off', hbb, ⟨p0, _⟩, _⟩ := hX (k - 1) (by omega)
        cases hbb
        unfold Cell at p0
        generalize hz : R[k - 1] = z at *
        have HZ := Lib.hid hz
        have hk0 : ((k : Int) == 0) = false := by simp; omega
        clear hX hz
        by_cases he : (z.d != x.d) = true
        · go_wp2_with (at_builtin; refine wpList_append_own _ rfl _ _ 28 rfl w1.heap.size 3 i0 (.int .i64 0) 1 8 Tryz.underlying28 hi hz0 hz1 hz2 rfl (by decide) _ _ _ rfl (hown.alloc _) ⟨wr.heap.size, 0, none⟩ 1 1 [.int .i64 x.d] rfl rfl (cell_one_new _ _ _) (by simp [Value.oneCell']) (by unfold maxLen; omega) (by omega) (by have := hb.size; simp; omega) ?_; intro v' w2 hown' hgrow _)
          have hb2 := (hb.alloc hb.size (.cells #[.int .i64 x.d] 3)).grown hgrow (by have := hb.size; simp; omega) (fun k e => (hown.lt k e).1)
          go_roundw
          case rel => exact ⟨k + 1, by go_num, by omega, by rw [hnew.out (.inr (by simpa using he))]; simpa using hown', hb2⟩
          case measure => simp [intOf]; omega
        · have he' : (z.d != x.d) = false := by simpa using he
          go_wp2
          go_roundw
          case rel => exact ⟨k + 1, by go_num, by omega, by rw [hsame.out h0 (by simpa using he')]; exact hown, hb⟩
          case measure => simp [intOf]; omega
    · go_wp2
      go_ret
      obtain rfl : k = R.length := by omega
      exact ⟨_, rfl, ints_of_own hown (nums_I64 h1), below_trans hb1 hb⟩

end Go.Proofs.YtoibnhkiedpkgaaGreatDoor

namespace Go.Proofs.YtoibnhkiedpkgaaGreatDoor
open Go.RowKit

def OrdOk (R : List Issue) (k : Nat) : Prop := ∀ h : k < R.length,
  (k = 0 → R[k].l = 1) ∧ (∀ h0 : 0 < k, R[k - 1].d < R[k].d ∧ R[k].l = 1 ∨ R[k - 1].d = R[k].d ∧ R[k].l = R[k - 1].l + 1 ∧ R[k].k = R[k - 1].k)
def EachOk (R : List Issue) (k : Nat) : Prop := (∀ h : k < R.length, IssueOk R[k]) ∧ OrdOk R k
def ItemsIn (R : List Issue) (k : Nat) : Prop := ∀ h : k < R.length, ∀ j, (hj : j < R[k].items.length) → R[k].items[j].d ∈ nums R
def Listed (R : List Issue) : Prop := In R.length 1 60 ∧ (∀ k, k < R.length → EachOk R k) ∧ (∀ k, k < R.length → ItemsIn R k) ∧ (nums R).length ≤ 20

set_option maxRecDepth 100000 in
set_option maxHeartbeats 3200000 in
theorem listed02 (w : World) (v : Value) (R : List Issue) (h : Sl AtIssue 5 w v R) :
    Calls Tryz.prog 71 #[.agg #[v]] w (RetB (Listed R) w) := by
  obtain ⟨hb1, B1⟩ := boxed1 w #[v] 24
  have c0 := B1 0 v rfl
  clear B1
  obtain ⟨a, cap, rfl, hm⟩ := sl_shape h
  have h1 := sl_ext stays_issue hb1 h
  have C0 := Lib.hid c0
  unfold Cell at c0
  clear h
  go_enter Tryz.func71, Tryz.ntmps71
  go_wp2_with fail
  generalize w.alloc _ = w1 at *
  refine (within02 _ _ _ _).mono ?_
  intro e w2 hh
  rcases hh.both with ⟨hl, rfl, rfl⟩ | ⟨hl, rfl, rfl⟩
  case inr => go_wp2; go_ret; exact RetB.f (fun h => hl h.1) hb1
  clear hh
  go_wp2
  clear c0
  have hl2 := hl.2
  go_loopw [3] (fun i wr => ∃ k : Nat, i = .int .i64 k ∧ k ≤ R.length ∧ Below w1.heap.size w1 wr ∧ ∀ j, j < k → EachOk R j) (fun i _ => R.length - (intOf i).toNat)
  case atStart => exact ⟨0, rfl, by omega, Below.refl _ _, fun j hj => absurd hj (by omega)⟩
  case round =>
    obtain ⟨k, rfl, hk, hb, hall⟩ := hrel
    have HALL := Lib.hid hall
    clear hall
    have e0 := cell_ext hb C0.out
    unfold Cell at e0
    by_cases hlt : k < R.length
    · have hX := (sl_at (sl_ext stays_issue hb h1)).2
      obtain ⟨b, off, rfl, ⟨q0, q1, q2⟩, hnum, vi, vd, q3, q4, si, sd⟩ := hX k hlt
      have HEA : Hid (EachOk R k ↔ IssueOk R[k] ∧ (k = 0 → R[k].l = 1) ∧ (∀ h0 : 0 < k, R[k - 1].d < R[k].d ∧ R[k].l = 1 ∨ R[k - 1].d = R[k].d ∧ R[k].l = R[k - 1].l + 1 ∧ R[k].k = R[k - 1].k)) :=
        ⟨fun h => ⟨h.1 hlt, h.2 hlt⟩, fun h => ⟨fun _ => h.1, fun _ => h.2⟩⟩
      unfold Cell at q0 q1 q2 q3 q4
      generalize hx : R[k] = x at *
      clear hx hX
      obtain ⟨ai, capi, rfl, _⟩ := sl_shape si
      obtain ⟨ad, capd, rfl, _⟩ := sl_shape sd
      have hbx := below_alloc wr (.cells #[.int .i64 x.d, .int .i64 x.l, .int .u8 x.k, .slice ai x.items.length capi, .slice ad x.dims.length capd] 46)
      have x0 := new_cell wr #[.int .i64 x.d, .int .i64 x.l, .int .u8 x.k, .slice ai x.items.length capi, .slice ad x.dims.length capd] 46 0 (.int .i64 x.d) rfl
      have x1 := new_cell wr #[.int .i64 x.d, .int .i64 x.l, .int .u8 x.k, .slice ai x.items.length capi, .slice ad x.dims.length capd] 46 1 (.int .i64 x.l) rfl
      have x2 := new_cell wr #[.int .i64 x.d, .int .i64 x.l, .int .u8 x.k, .slice ai x.items.length capi, .slice ad x.dims.length capd] 46 2 (.int .u8 x.k) rfl
      go_wp2_with fail
      generalize hwA : wr.alloc _ = wA at *
      clear hwA
      refine (issue02 _ _ _ x ⟨sl_ext stays_item hbx si, sl_ext stays_dim hbx sd, hnum⟩).mono ?_
      intro e w2 hh
      rcases hh.both with ⟨hok, rfl, hb2⟩ | ⟨hok, rfl, hb2⟩
      case inr =>
        go_wp2
        go_ret
        exact RetB.f (fun h => hok (HEA.out.1 (h.2.1 k hlt)).1) (below_trans hb1 (below_trans hb (below_trans hbx hb2)))
      clear hh
      have hb3 := below_trans hb (below_trans hbx hb2)
      have y0 := cell_ext hb2 x0
      have y1 := cell_ext hb2 x1
      have y2 := cell_ext hb2 x2
      have hxd := hok.1.1.1
      have hX := (sl_at (sl_ext stays_issue hb3 h1)).2
      have e1 := cell_ext hb3 C0.out
      have z1 := cell_lt y0
      have z2 := cell_lt e1
      clear x0 x1 x2 q0 q1 q2 q3 q4 si sd hbx hb2
      unfold Cell at y0 y1 y2 e1
      by_cases h0 : k = 0
      · have hk0 : (k : Int) ≤ 0 := by omega
        have H0 := Lib.hid h0
        clear h0 hX
        by_cases hl1 : (x.l != 1) = true
        · go_wp2
          go_ret
          exact RetB.f (fun h => by have := (HEA.out.1 (h.2.1 k hlt)).2.1 H0.out; rw [this] at hl1; simp at hl1) (below_trans hb1 (below_trans hb3 (below_alloc _ _)))
        · have hl1' : (x.l != 1) = false := by simpa using hl1
          go_wp2
          go_roundw
          case rel => exact ⟨k + 1, by go_num, by omega, below_trans hb3 (below_alloc _ _), all_step _ k HALL.out (HEA.out.2 ⟨hok, fun _ => by simpa using hl1', fun h => absurd h (by have := H0.out; omega)⟩)⟩
          case measure => simp [intOf]; omega
      · obtain ⟨b', off', hbb, ⟨p0, p1, p2⟩, hpn, pi, pd, p3, p4, ssi, ssd⟩ := hX (k - 1) (by omega)
        cases hbb
        obtain ⟨bi, bapi, rfl, _⟩ := sl_shape ssi
        obtain ⟨bd, bapd, rfl, _⟩ := sl_shape ssd
        have z3 := cell_lt p0
        unfold Cell at p0 p1 p2 p3 p4
        have hk0 : 0 < k := by omega
        have hpok := (HALL.out (k - 1) (by omega)).1 (by omega)
        generalize hz : R[k - 1] = z at *
        have HZ := Lib.hid hz
        clear hX hz h0
        have hpl := hpok.1.2.1
        clear ssi ssd hpok
        have hp1 := hpl.1
        have hp2 := hpl.2
        have HEB : Hid (EachOk R k ↔ IssueOk x ∧ (z.d < x.d ∧ x.l = 1 ∨ z.d = x.d ∧ x.l = z.l + 1 ∧ x.k = z.k)) :=
          ⟨fun h => ⟨(HEA.out.1 h).1, by have := (HEA.out.1 h).2.2 hk0; rw [HZ.out] at this; exact this⟩,
           fun h => HEA.out.2 ⟨h.1, fun h0 => absurd hk0 (by omega), fun _ => by rw [HZ.out]; exact h.2⟩⟩
        clear HEA
        by_cases hlt1 : x.d < z.d
        · go_wp2
          go_ret
          exact RetB.f (fun h => by have := (HEB.out.1 (h.2.1 k hlt)).2; rcases this with h | h <;> omega) (below_trans hb1 (below_trans hb3 (below_alloc _ _)))
        · by_cases hlt2 : z.d < x.d
          · by_cases hl1 : (x.l != 1) = true
            · go_wp2
              go_ret
              exact RetB.f (fun h => by have := (HEB.out.1 (h.2.1 k hlt)).2; rcases this with h | h; · rw [h.2] at hl1; simp at hl1
                                        · omega) (below_trans hb1 (below_trans hb3 (below_alloc _ _)))
            · have hl1' : (x.l != 1) = false := by simpa using hl1
              go_wp2
              go_roundw
              case rel => exact ⟨k + 1, by go_num, by omega, below_trans hb3 (below_alloc _ _), all_step _ k HALL.out (HEB.out.2 ⟨hok, .inl ⟨hlt2, by simpa using hl1'⟩⟩)⟩
              case measure => simp [intOf]; omega
          · by_cases hl1 : (x.l != z.l + 1) = true
            · go_wp2
              go_ret
              exact RetB.f (fun h => by have := (HEB.out.1 (h.2.1 k hlt)).2; rcases this with h | h; · omega
                                        · rw [h.2.1] at hl1; simp at hl1) (below_trans hb1 (below_trans hb3 (below_alloc _ _)))
            · have hl1' : (x.l != z.l + 1) = false := by simpa using hl1
              by_cases hl2 : (x.k != z.k) = true
              · go_wp2
                go_ret
                exact RetB.f (fun h => by have := (HEB.out.1 (h.2.1 k hlt)).2; rcases this with h | h; · omega
                                          · rw [h.2.2] at hl2; simp at hl2) (below_trans hb1 (below_trans hb3 (below_alloc _ _)))
              · have hl2' : (x.k != z.k) = false := by simpa using hl2
                go_wp2
                go_roundw
                case rel => exact ⟨k + 1, by go_num, by omega, below_trans hb3 (below_alloc _ _), all_step _ k HALL.out (HEB.out.2 ⟨hok, .inr ⟨by omega, by simpa using hl1', by simpa using hl2'⟩⟩)⟩
                case measure => simp [intOf]; omega
    · have HA : Hid (∀ j, j < R.length → EachOk R j) := fun j hj => HALL.out j (by omega)
      have hb2 := below_trans hb1 hb
      have hr := sl_ext stays_issue hb h1
      clear HALL hb1
      go_wp2_with fail
      refine (numbers02 _ _ R hr (by omega)).mono ?_
      rintro e w3 ⟨u, rfl, hu, hb3⟩
      have hb4 := below_trans hb2 hb3
      have e3 := cell_ext hb3 e0
      have hr3 := sl_ext stays_issue hb3 hr
      clear e0 h1 hr hb hb2 hb3 C0 hk hlt
      unfold Cell at e3
      obtain ⟨au, capu, rfl, hmu⟩ := sl_shape hu
      go_wp2
      go_loop [7] (fun i => ∃ k : Nat, i = .int .i64 k ∧ k ≤ R.length ∧ ∀ j, j < k → ItemsIn R j) (fun i => R.length - (intOf i).toNat)
      case atStart => exact ⟨0, rfl, by omega, fun j hj => absurd hj (by omega)⟩
      case round =>
        obtain ⟨k, rfl, hk, hall⟩ := hrel
        have HALL := Lib.hid hall
        clear hall
        by_cases hlt : k < R.length
        · obtain ⟨b, off, rfl, ⟨q0, q1, q2⟩, hnum, vi, vd, q3, q4, si, sd⟩ := (sl_at hr3).2 k hlt
          have HIN : Hid (ItemsIn R k ↔ ∀ j, (hj : j < R[k].items.length) → R[k].items[j].d ∈ nums R) := ⟨fun h => h hlt, fun h _ => h⟩
          unfold Cell at q3
          generalize hx : R[k] = x at *
          clear hx q0 q1 q2 q4 sd
          obtain ⟨ai, capi, rfl, hmi⟩ := sl_shape si
          go_wp2
          go_loop [8] (fun i => ∃ m : Nat, i = .int .i64 m ∧ m ≤ x.items.length ∧ ∀ j, j < m → (hj : j < x.items.length) → x.items[j].d ∈ nums R) (fun i => x.items.length - (intOf i).toNat)
          case atStart => exact ⟨0, rfl, by omega, fun j hj => absurd hj (by omega)⟩
          case round =>
            obtain ⟨m, rfl, hmk, hall⟩ := hrel
            have HALM := Lib.hid hall
            clear hall
            by_cases hlm : m < x.items.length
            · obtain ⟨b', off', rfl, ⟨p0, _⟩, _⟩ := (sl_at si).2 m hlm
              unfold Cell at p0
              generalize hy : x.items[m] = y at *
              have HY := Lib.hid hy
              clear hy si
              go_wp2_with fail
              refine (index02 _ _ _ y.d hu).mono ?_
              rintro e w4 ⟨rfl, rfl⟩
              by_cases hin : y.d ∈ nums R
              · have hge := idxI_in _ _ hin
                generalize idxI (nums R) y.d = ix at *
                go_wp2
                go_round
                case rel => exact ⟨m + 1, by go_num, by omega, all_step _ m HALM.out (fun _ => by rw [HY.out]; exact hin)⟩
                case measure => simp [intOf]; omega
              · have hge := idxI_out _ _ hin
                generalize idxI (nums R) y.d = ix at *
                go_wp2
                go_ret
                exact RetB.f (fun h => hin (by have := HIN.out.1 (h.2.2.1 k hlt) m hlm; rw [HY.out] at this; exact this)) hb4
            · clear si
              go_wp2
              go_round
              case rel => exact ⟨k + 1, by go_num, by omega, all_step _ k HALL.out (HIN.out.2 (fun j hj => HALM.out j (by omega) hj))⟩
              case measure => simp [intOf]; omega
        · clear hr3
          by_cases h20 : ((nums R).length : Int) ≤ 20
          · go_wp2
            go_ret
            exact (RetB.t ⟨hl, HA.out, fun j hj => HALL.out j (by omega), by omega⟩ hb4 : RetB (Listed R) w (Ending.returned (Value.bool true)) _)
          · go_wp2
            go_ret
            exact (RetB.f (fun h => by have := h.2.2.2; omega) hb4 : RetB (Listed R) w (Ending.returned (Value.bool false)) _)

end Go.Proofs.YtoibnhkiedpkgaaGreatDoor

namespace Go.Proofs.YtoibnhkiedpkgaaGreatDoor

def issFold (f : Int → Int) (x : Issue) : Nat → Int → Int
  | 0, acc => acc
  | j + 1, acc => match x.items[j]? with
    | none => issFold f x j acc
    | some y => max (issFold f x j acc) (1 + f y.d)
def accTo (R : List Issue) (f : Int → Int) : Nat → Int → Int
  | 0, _ => 0
  | k + 1, n => match R[k]? with
    | none => accTo R f k n
    | some x => if n = x.d then issFold f x x.items.length (max (accTo R f k x.d) 1) else accTo R f k n
def dep (R : List Issue) : Nat → Int → Int
  | 0, _ => 0
  | r + 1, n => accTo R (dep R r) R.length n
/-- The values of the list 'next' amid issue number k, behind m of its items. -/
def mid (R : List Issue) (f : Int → Int) (k : Nat) (x : Issue) (m : Nat) (n : Int) : Int :=
  if n = x.d then issFold f x m (max (accTo R f k x.d) 1) else accTo R f k n

theorem accTo_succ (R : List Issue) (f : Int → Int) (k : Nat) (h : k < R.length) (n : Int) : accTo R f (k + 1) n = mid R f k R[k] R[k].items.length n := by
  simp only [accTo, List.getElem?_eq_getElem h, mid]
theorem mid_zero (R : List Issue) (f : Int → Int) (k : Nat) (x : Issue) (n : Int) : mid R f k x 0 n = if n = x.d then max (accTo R f k x.d) 1 else accTo R f k n := rfl
theorem mid_at (R : List Issue) (f : Int → Int) (k : Nat) (x : Issue) (m : Nat) : mid R f k x m x.d = issFold f x m (max (accTo R f k x.d) 1) := by
  unfold mid; rw [if_pos rfl]
theorem mid_succ (R : List Issue) (f : Int → Int) (k : Nat) (x : Issue) (m : Nat) (h : m < x.items.length) (n : Int) :
    mid R f k x (m + 1) n = if n = x.d then max (mid R f k x m x.d) (1 + f x.items[m].d) else mid R f k x m n := by
  unfold mid
  by_cases e : n = x.d
  · simp [e, issFold, List.getElem?_eq_getElem h]
  · simp [e]

theorem issFold_bd (f : Int → Int) (x : Issue) (B : Int) (hf : ∀ n, 0 ≤ f n ∧ f n ≤ B) (m : Nat) (acc : Int) (h0 : 0 ≤ acc) (h1 : acc ≤ B + 1) : 0 ≤ issFold f x m acc ∧ issFold f x m acc ≤ B + 1 := by
  induction m with
  | zero => exact ⟨h0, h1⟩
  | succ m ih =>
    simp only [issFold]
    split
    · exact ih
    · rename_i y _
      have := hf y.d
      omega
theorem accTo_bd (R : List Issue) (f : Int → Int) (B : Int) (hB : 0 ≤ B) (hf : ∀ n, 0 ≤ f n ∧ f n ≤ B) (k : Nat) (n : Int) : 0 ≤ accTo R f k n ∧ accTo R f k n ≤ B + 1 := by
  induction k generalizing n with
  | zero => simp [accTo]; omega
  | succ k ih =>
    simp only [accTo]
    split
    · exact ih n
    · rename_i x _
      split
      · have := ih x.d
        exact issFold_bd f x B hf _ _ (by omega) (by omega)
      · exact ih n
theorem dep_bd (R : List Issue) (r : Nat) (n : Int) : 0 ≤ dep R r n ∧ dep R r n ≤ r := by
  induction r generalizing n with
  | zero => simp [dep]
  | succ r ih =>
    have := accTo_bd R (dep R r) r (by omega) ih R.length n
    simp only [dep]
    omega
theorem mid_bd (R : List Issue) (r k : Nat) (x : Issue) (m : Nat) (n : Int) : 0 ≤ mid R (dep R r) k x m n ∧ mid R (dep R r) k x m n ≤ r + 1 := by
  unfold mid
  split
  · have := accTo_bd R (dep R r) r (by omega) (dep_bd R r) k x.d
    exact issFold_bd _ x r (dep_bd R r) m _ (by omega) (by omega)
  · exact accTo_bd R (dep R r) r (by omega) (dep_bd R r) k n

theorem set_map (l : List Int) (g : Int → Value) (d : Int) (v : Value) (hd : d ∈ l) (hl : l.Nodup) : (l.map g).set (l.idxOf d) v = l.map (fun n => if n = d then v else g n) := by
  induction l with
  | nil => simp at hd
  | cons a l ih =>
    by_cases e : a = d
    · subst e
      simp only [List.map_cons, List.idxOf_cons_self, List.set_cons_zero, if_true]
      congr 1
      refine List.map_congr_left fun n hn => ?_
      have : a ∉ l := (List.nodup_cons.1 hl).1
      rw [if_neg]
      intro h; subst h; exact this hn
    · have hd' : d ∈ l := by
        rcases List.mem_cons.1 hd with h | h
        · exact absurd h.symm e
        · exact h
      rw [List.idxOf_cons]
      simp only [cond_false, beq_eq_false_iff_ne.2 e, List.map_cons, List.set_cons_succ, if_neg e]
      rw [ih hd' (List.nodup_cons.1 hl).2]

theorem idxI_mem (l : List Int) (n : Int) (h : n ∈ l) : idxI l n = ((l.idxOf n : Nat) : Int) := by unfold idxI; rw [if_pos h]

/-! The numbers of a register that is listed are in increasing order. -/
theorem numsTo_last (R : List Issue) (k : Nat) (hk : k < R.length) (h : ∀ j, j ≤ k → OrdOk R j) : (∀ n ∈ numsTo R (k + 1), n ≤ R[k].d) ∧ R[k].d ∈ numsTo R (k + 1) ∧ (numsTo R (k + 1)).Pairwise (· < ·) := by
  induction k with
  | zero =>
    rw [numsTo_new R 0 hk (.inl rfl)]
    simp [numsTo]
  | succ k ih =>
    have ih := ih (by omega) (fun j hj => h j (by omega))
    have ho := (h (k + 1) (Nat.le_refl _) hk).2 (by omega)
    simp only [Nat.add_sub_cancel] at ho
    rcases ho with ⟨h1, _⟩ | ⟨h1, _⟩
    · rw [numsTo_new R (k + 1) hk (.inr (by simp only [Nat.add_sub_cancel]; omega))]
      refine ⟨fun n hn => ?_, by simp, ?_⟩
      · rcases List.mem_append.1 hn with h2 | h2
        · have := ih.1 n h2; omega
        · simp at h2; omega
      · rw [List.pairwise_append]
        refine ⟨ih.2.2, by simp, fun a ha b hb => ?_⟩
        simp at hb
        have := ih.1 a ha
        omega
    · rw [numsTo_same R (k + 1) hk (by omega) (by simp only [Nat.add_sub_cancel]; omega)]
      rw [← h1]
      exact ih

theorem nums_sorted (R : List Issue) (h : ∀ j, j < R.length → OrdOk R j) : (nums R).Pairwise (· < ·) := by
  unfold nums
  cases hl : R.length with
  | zero => simp [numsTo]
  | succ k => exact (numsTo_last R k (by omega) (fun j hj => h j (by omega))).2.2
theorem nums_nodup (R : List Issue) (h : ∀ j, j < R.length → OrdOk R j) : (nums R).Nodup := by
  have := nums_sorted R h
  exact this.imp fun hab => by omega
theorem numsTo_mono (R : List Issue) (k m : Nat) (h : k ≤ m) (n : Int) (hn : n ∈ numsTo R k) : n ∈ numsTo R m := by
  induction m with
  | zero => obtain rfl : k = 0 := by omega
            exact hn
  | succ m ih =>
    by_cases e : k = m + 1
    · subst e; exact hn
    · simp only [numsTo, List.mem_append]
      exact .inl (ih (by omega))
theorem nums_has (R : List Issue) (h : ∀ j, j < R.length → OrdOk R j) (k : Nat) (hk : k < R.length) : R[k].d ∈ nums R :=
  numsTo_mono R (k + 1) R.length (by omega) _ (numsTo_last R k hk (fun j hj => h j (by omega))).2.1

end Go.Proofs.YtoibnhkiedpkgaaGreatDoor

namespace Go.Proofs.YtoibnhkiedpkgaaGreatDoor
open Go.RowKit

/-- The list that holds a number for each drawing. -/
def row (R : List Issue) (g : Int → Int) : List Value := (nums R).map (fun n => Value.int .i64 (g n))
theorem row_at (R : List Issue) (g : Int → Int) (d : Int) (hd : d ∈ nums R) : (row R g)[(nums R).idxOf d]? = some (.int .i64 (g d)) := by
  unfold row
  rw [List.getElem?_map, List.getElem?_eq_getElem (List.idxOf_lt_length_of_mem hd)]
  simp
theorem row_set (R : List Issue) (g g' : Int → Int) (d : Int) (hd : d ∈ nums R) (hn : (nums R).Nodup) (u : Int) (h : ∀ n, g' n = if n = d then u else g n) : (row R g).set ((nums R).idxOf d) (.int .i64 u) = row R g' := by
  unfold row
  rw [set_map _ _ _ _ hd hn]
  refine List.map_congr_left fun n _ => ?_
  rw [h]
  split <;> rfl

theorem row_zero (R : List Issue) (g : Int → Int) (h : ∀ n, g n = 0) (N : Nat) (hN : (nums R).length = N) : (madeCells (Value.int IntKind.i64 0).cells (N * 1)).toList = row R g := by
  rw [Nat.mul_one]
  show (madeCells #[Value.int IntKind.i64 0] N).toList = _
  rw [toList_madeCells_one, ← hN]
  unfold row
  rw [show (fun n => Value.int .i64 (g n)) = (fun _ => Value.int .i64 0) from funext fun n => by rw [h]]
  exact List.map_const'.symm

set_option maxRecDepth 100000 in
set_option maxHeartbeats 3200000 in
theorem depths02 (w : World) (v : Value) (R : List Issue) (h : Sl AtIssue 5 w v R) (hL : Listed R) :
    Calls Tryz.prog 72 #[.agg #[v]] w fun e w' => ∃ u, e = .returned u ∧ Sl AtInt 1 w' u ((nums R).map (dep R ((nums R).length + 1))) ∧ Below w.heap.size w w' := by
  obtain ⟨i0, hi, hz0, hz1, hz2⟩ := info_parts infoInt
  have hR60 : R.length ≤ 60 := by have := hL.1.2; omega
  have hN20 := hL.2.2.2
  have hnd := Lib.hid (nums_nodup R (fun j hj => (hL.2.1 j hj).2))
  have hhas := Lib.hid (nums_has R (fun j hj => (hL.2.1 j hj).2))
  have hitm := Lib.hid hL.2.2.1
  clear hL
  obtain ⟨hb1, B1⟩ := boxed1 w #[v] 24
  have c0 := B1 0 v rfl
  clear B1
  obtain ⟨a, cap, rfl, hm⟩ := sl_shape h
  have h1 := sl_ext stays_issue hb1 h
  have C0 := Lib.hid c0
  unfold Cell at c0
  clear h
  go_enter Tryz.func72, Tryz.ntmps72
  go_wp2_with fail
  generalize w.alloc _ = w1 at *
  refine (numbers02 _ _ R h1 (by omega)).mono ?_
  rintro e w2 ⟨u, rfl, hu, hb2⟩
  have hb3 := below_trans hb1 hb2
  have h2 := sl_ext stays_issue hb2 h1
  have C2 := Lib.hid (cell_ext hb2 C0.out)
  clear C0 c0 hb1 hb2 h1
  obtain ⟨au, capu, rfl, hmu⟩ := sl_shape hu
  generalize hN : (nums R).length = N at *
  have HN := Lib.hid hN
  clear hN
  go_wp2_with (at_make; refine wpList_make_full _ rfl _ _ 28 rfl w2.heap.size 3 i0 (.int .i64 0) 1 Tryz.underlying28 hi hz0 hz1 .i64 .i64 _ _ N rfl rfl rfl rfl (by rw [hz2]; omega) (by unfold maxLen; omega) (Nat.le_refl _) ?_; intro w3 hown0 hg0)
  have hrow0 : w3.ownsRow w2.heap.size 3 1 (.slice (some ⟨w2.heap.size, 0, none⟩) N N) N (row R (dep R 0)) := by
    have e := row_zero R (dep R 0) (fun _ => rfl) N HN.out
    rw [← e]
    exact hown0
  have hb4 : Below w2.heap.size w2 w3 := (Below.refl _ w2).grown hg0 (Nat.le_refl _) (fun k e => by cases e)
  clear hown0 hg0
  go_loopw [4, 5] (fun o i wr => ∃ (r go : Nat), i = .int .i64 r ∧ r ≤ N + 1 ∧ o = .slice (some ⟨go, 0, none⟩) N N ∧ wr.ownsRow w2.heap.size 3 1 o N (row R (dep R r)) ∧ Below w2.heap.size w2 wr) (fun _ i _ => N + 1 - (intOf i).toNat)
  case atStart => exact ⟨0, w2.heap.size, rfl, by omega, rfl, hrow0, hb4⟩
  case round =>
    obtain ⟨r, go, rfl, hr, rfl, hown, hb⟩ := hrel
    clear hrow0 hb4
    by_cases hrn : r ≤ N
    · go_wp2_with (at_make; refine wpList_make_full _ rfl _ _ 28 rfl w2.heap.size 3 i0 (.int .i64 0) 1 Tryz.underlying28 hi hz0 hz1 .i64 .i64 _ _ N rfl rfl rfl rfl (by rw [hz2]; omega) (by unfold maxLen; omega) hb.size ?_; intro w4 hown1 hg1)
      have hne : go ≠ wr.heap.size := by have := (hown.lt go rfl).2; omega
      have hgb : w2.heap.size ≤ wr.heap.size := hb.size
      have hb5 : Below w2.heap.size w2 w4 := hb.grown hg1 hb.size (fun k e => by cases e)
      have hown2 := hown.kept hg1 (.inr (by simp [Value.ownBlock]))
      have hrow1 : w4.ownsRow w2.heap.size 3 1 (.slice (some ⟨wr.heap.size, 0, none⟩) N N) N (row R (accTo R (dep R r) 0)) := by
        rw [← row_zero R (accTo R (dep R r) 0) (fun _ => rfl) N HN.out]
        exact hown1
      clear hown1 hg1 hown hb
      generalize wr.heap.size = g at *
      go_loopw [7] (fun i wm => ∃ k : Nat, i = .int .i64 k ∧ k ≤ R.length ∧ wm.ownsRow w2.heap.size 3 1 (.slice (some ⟨go, 0, none⟩) N N) N (row R (dep R r)) ∧ wm.ownsRow w2.heap.size 3 1 (.slice (some ⟨g, 0, none⟩) N N) N (row R (accTo R (dep R r) k)) ∧ Below w2.heap.size w2 wm) (fun i _ => R.length - (intOf i).toNat)
      case atStart => exact ⟨0, rfl, by omega, hown2, hrow1, hb5⟩
      case round =>
        obtain ⟨k, rfl, hk, ho, hn, hb⟩ := hrel
        clear hown2 hrow1 hb5
        have e0 := cell_ext hb C2.out
        unfold Cell at e0
        by_cases hlt : k < R.length
        · obtain ⟨b, off, rfl, ⟨q0, q1, q2⟩, hnum, vi, vd, q3, q4, si, sd⟩ := (sl_at h2).2 k hlt
          have q0 := cell_ext hb q0
          have q1 := cell_ext hb q1
          have q2 := cell_ext hb q2
          have q3 := cell_ext hb q3
          have q4 := cell_ext hb q4
          have hd := hhas.out k hlt
          have hit := Lib.hid (fun j hj => hitm.out k hlt hlt j hj)
          have hsucc := Lib.hid (accTo_succ R (dep R r) k hlt)
          unfold Cell at q0 q1 q2 q3 q4
          generalize hx : R[k] = x at *
          clear hx
          obtain ⟨ai, capi, rfl, hmi⟩ := sl_shape si
          obtain ⟨ad, capd, rfl, _⟩ := sl_shape sd
          have x3 := new_cell wr #[.int .i64 x.d, .int .i64 x.l, .int .u8 x.k, .slice ai x.items.length capi, .slice ad x.dims.length capd] 46 3 (.slice ai x.items.length capi) rfl
          have hb6 := hb.alloc hb.size (.cells #[.int .i64 x.d, .int .i64 x.l, .int .u8 x.k, .slice ai x.items.length capi, .slice ad x.dims.length capd] 46)
          have ho2 := ho.alloc (.cells #[.int .i64 x.d, .int .i64 x.l, .int .u8 x.k, .slice ai x.items.length capi, .slice ad x.dims.length capd] 46)
          have hn2 := hn.alloc (.cells #[.int .i64 x.d, .int .i64 x.l, .int .u8 x.k, .slice ai x.items.length capi, .slice ad x.dims.length capd] 46)
          have e1 := cell_ext hb6 C2.out
          have xlt := cell_lt x3
          have glt := (hn.lt g rfl).2
          unfold Cell at e1
          go_wp2_with fail
          clear e0 q0 q1 q2 q3 q4 ho hn
          have hxb : w2.heap.size ≤ wr.heap.size := hb.size
          clear sd hb
          generalize wr.alloc _ = w5 at *
          generalize wr.heap.size = xb at *
          refine (index02 _ _ _ x.d (sl_ext stays_int hb6 hu)).mono ?_
          rintro e w6 ⟨rfl, rfl⟩
          rw [idxI_mem _ _ hd]
          have hat : (nums R).idxOf x.d < N := by rw [← HN.out]; exact List.idxOf_lt_length_of_mem hd
          have ga := hn2.cells (g := g) rfl _ _ (row_at R (accTo R (dep R r) k) x.d hd)
          rw [add_at] at ga
          have fa := hn2.frozenAt ((nums R).idxOf x.d)
          have hbd := accTo_bd R (dep R r) r (by omega) (dep_bd R r) k x.d
          have hset := Lib.hid (fun u h => row_set R (accTo R (dep R r) k) (mid R (dep R r) k x 0) x.d hd hnd.out u h)
          generalize hatn : (nums R).idxOf x.d = at0 at *
          have HAT := Lib.hid hatn
          clear hatn
          generalize hacc : accTo R (dep R r) k x.d = acc at *
          have HACC := Lib.hid hacc
          clear hacc
          by_cases h1 : 1 ≤ acc
          case' pos =>
            have h1' : ¬ (1 > acc) := by omega
            go_wp2
            obtain ⟨hn3, hgr⟩ := hn2.stored at0 (.int .i64 acc)
            rw [hset.out acc (fun n => by rw [mid_zero, HACC.out, Int.max_eq_left h1])] at hn3
            have x7 := cell_set_other (j := at0) (u := Value.int .i64 acc) x3 (by omega : xb ≠ g)
          case' neg =>
            have h1' : 1 > acc := by omega
            go_wp2
            obtain ⟨hn3, hgr⟩ := hn2.stored at0 (.int .i64 1)
            rw [hset.out 1 (fun n => by rw [mid_zero, HACC.out, Int.max_eq_right (by omega)])] at hn3
            have x7 := cell_set_other (j := at0) (u := Value.int .i64 1) x3 (by omega : xb ≠ g)
          all_goals
            have ho3 := ho2.kept hgr (.inr (by simp [Value.ownBlock]; omega))
            have hb7 := hb6.grown hgr hb6.size (fun k e => by cases e; exact (hn2.lt g rfl).1)
            clear h1 h1' hgr ho2 hn2 hb6 x3 ga fa hset
            generalize w5.setCell _ _ = w7 at *
            go_loopw [10] (fun i wi => ∃ m : Nat, i = .int .i64 m ∧ m ≤ x.items.length ∧ wi.ownsRow w2.heap.size 3 1 (.slice (some ⟨go, 0, none⟩) N N) N (row R (dep R r)) ∧ wi.ownsRow w2.heap.size 3 1 (.slice (some ⟨g, 0, none⟩) N N) N (row R (mid R (dep R r) k x m)) ∧ Below w2.heap.size w2 wi ∧ Cell wi xb 3 (.slice ai x.items.length capi)) (fun i _ => x.items.length - (intOf i).toNat)
            case atStart => exact ⟨0, rfl, by omega, ho3, hn3, hb7, x7⟩
            case round =>
              obtain ⟨m, rfl, hmi2, ho, hn, hb, hx3⟩ := hrel
              clear ho3 hn3 hb7 x7
              unfold Cell at hx3
              by_cases hlm : m < x.items.length
              · obtain ⟨b', off', rfl, ⟨p0, _⟩, _⟩ := (sl_at si).2 m hlm
                have p0 := cell_ext hb p0
                unfold Cell at p0
                have hyd := hit.out m hlm
                have hsucc2 := Lib.hid (mid_succ R (dep R r) k x m hlm)
                generalize hy : x.items[m] = y at *
                clear hy
                have hmem : y.d ∈ nums R := hyd
                have hcall := fun W (hW : Below w2.heap.size w2 W) => (index02 W _ _ y.d (sl_ext stays_int hW hu)).mono (fun e w' (h : e = .returned (.int .i64 (idxI (nums R) y.d)) ∧ W = w') => (show e = .returned (.int .i64 (((nums R).idxOf y.d : Nat) : Int)) ∧ w' = W from ⟨by rw [h.1, idxI_mem _ _ hmem], h.2.symm⟩))
                have hat1 : (nums R).idxOf y.d < N := by rw [← HN.out]; exact List.idxOf_lt_length_of_mem hmem
                have ga := hn.cells (g := g) rfl _ _ (row_at R (mid R (dep R r) k x m) x.d hd)
                have gb := ho.cells (g := go) rfl _ _ (row_at R (dep R r) y.d hmem)
                rw [add_at] at ga gb
                rw [HAT.out] at ga
                have fa := hn.frozenAt at0
                have hbd1 := mid_bd R r k x m x.d
                have hbd2 := dep_bd R r y.d
                have hset := Lib.hid (fun u h => row_set R (mid R (dep R r) k x m) (mid R (dep R r) k x (m + 1)) x.d hd hnd.out u h)
                generalize (nums R).idxOf y.d = at1 at *
                generalize hmv : mid R (dep R r) k x m x.d = mv at *
                generalize hdv : dep R r y.d = dv at *
                have HMV := Lib.hid hmv
                have HDV := Lib.hid hdv
                clear hmv hdv hyd
                have hcW := hcall wr.drew (hb.drew)
                clear hcall
                have HC := Lib.hid hcW
                clear hcW
                by_cases h1 : 1 + dv ≤ mv
                case' pos =>
                  have h1' : ¬ (1 + dv > mv) := by omega
                  go_wp2
                  go_still_tail 20, (by kernel_rfl)
                  still_call HC.out
                  repeat still_step
                  refine wpStill_nil ?_
                  go_wp2
                  obtain ⟨hn3, hgr⟩ := hn.drew.stored at0 (.int .i64 mv)
                  rw [← HAT.out, hset.out mv (fun n => by rw [hsucc2.out, Int.max_eq_left h1]), HAT.out] at hn3
                  go_roundw
                  case rel => exact ⟨m + 1, by go_num, by omega, ho.drew.kept hgr (.inr (by simp [Value.ownBlock]; omega)), hn3, hb.drew.grown hgr (by have := hb.size; simpa using this) (fun k e => by cases e; exact (hn.lt g rfl).1), cell_set_other (w := wr.drew) hx3 (by omega)⟩
                  case measure => simp [intOf]; omega
                case' neg =>
                  have h1' : 1 + dv > mv := by omega
                  go_wp2
                  go_still_tail 20, (by kernel_rfl)
                  still_call HC.out
                  repeat still_step
                  refine wpStill_nil ?_
                  go_wp2
                  obtain ⟨hn3, hgr⟩ := hn.drew.stored at0 (.int .i64 (1 + dv))
                  rw [← HAT.out, hset.out (1 + dv) (fun n => by rw [hsucc2.out, Int.max_eq_right (by omega)]), HAT.out] at hn3
                  go_roundw
                  case rel => exact ⟨m + 1, by go_num, by omega, ho.drew.kept hgr (.inr (by simp [Value.ownBlock]; omega)), hn3, hb.drew.grown hgr (by have := hb.size; simpa using this) (fun k e => by cases e; exact (hn.lt g rfl).1), cell_set_other (w := wr.drew) hx3 (by omega)⟩
                  case measure => simp [intOf]; omega
              · go_wp2
                go_roundw
                case rel => exact ⟨k + 1, by go_num, by omega, ho, by rw [show m = x.items.length by omega] at hn; rw [show accTo R (dep R r) (k + 1) = mid R (dep R r) k x x.items.length from funext hsucc.out]; exact hn, hb⟩
                case measure => simp [intOf]; omega
        · go_wp2
          go_roundw
          case rel => exact ⟨r + 1, g, by go_num, by omega, rfl, by rw [show k = R.length by omega] at hn; exact hn, hb⟩
          case measure => simp [intOf]; omega
    · go_wp2
      go_ret
      obtain rfl : r = N + 1 := by omega
      refine ⟨_, rfl, ?_, below_trans hb3 hb⟩
      rw [HN.out]
      refine ints_of_own (by simpa [row, HN.out, Function.comp_def] using hown) (fun x hx => ?_)
      obtain ⟨n, _, rfl⟩ := List.mem_map.1 hx
      have := dep_bd R (N + 1) n
      unfold I64
      omega

end Go.Proofs.YtoibnhkiedpkgaaGreatDoor
