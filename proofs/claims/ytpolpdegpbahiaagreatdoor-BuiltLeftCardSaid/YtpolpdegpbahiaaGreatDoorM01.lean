/- Regions that draw their order, only read, and hold calls that make memory: any later world. -/
import Derived.WalkKit
import Derived.Lib.Hide
import Derived.WalkSmall
import Derived.Test.YtpolpdegpbahiaaGreatDoorProg
import Derived.Deep.QuietTactic
import Derived.BigQuiet
import Derived.StillTailTactics
import Derived.KernelRfl
import Derived.Maps.AppendAt
set_option linter.all false
set_option maxRecDepth 100000
set_option maxHeartbeats 12800000

namespace Go.Proofs.YtpolpdegpbahiaaGreatDoor
section
open Go.RowKit
structure Item where
 d : Int
 c : Int
structure Dim where
 n : Int
 lo : Int
 up : Int
structure Issue where
 d : Int
 l : Int
 k : Int
 items : List Item
 dims : List Dim
structure Note where
 num : Int
 day : Int
 sg : Int
 d : Int
 l : Int
 fr : Int
 to : Int
 ca : Int
 use : Bool
 ways : Int
structure Heap where
 d : Int
 l : Int
 lo : Int
 hi : Int
structure Report where
 num : Int
 m : Int
 d : Int
 l : Int
 k : Int
structure Notes where
 reg : List Issue
 notes : List Note
structure Built where
 ns : Notes
 of : Int
 ms : List Int
 hs : List Heap
 rs : List Report
def I64 (n : Int) : Prop := -9223372036854775808 ≤ n ∧ n ≤ 9223372036854775807
def U8 (n : Int) : Prop := 0 ≤ n ∧ n ≤ 255
def zJ (w : World) (b o : Nat) (v : Value) : Prop := w.cell? ⟨b, o, none⟩ = some v
def Sl {α : Type} (E : World → Nat → Nat → α → Prop) (sz : Nat) (w : World) (v : Value) (xs : List α) : Prop :=
 ∃ a cap, v = .slice a xs.length cap ∧ xs.length ≤ 9223372036854775807 ∧ ∀ k (hk : k < xs.length), ∃ b off, a = some ⟨b, off, none⟩ ∧ E w b (off + k * sz) xs[k]
def zAJ (w : World) (b o : Nat) (x : Int) : Prop := zJ w b o (.int .i64 x) ∧ I64 x
def zCP (w : World) (b o : Nat) (x : Item) : Prop := (zJ w b o (.int .i64 x.d) ∧ zJ w b (o + 1) (.int .i64 x.c)) ∧ I64 x.d ∧ I64 x.c
def zGQ (w : World) (b o : Nat) (x : Dim) : Prop := (zJ w b o (.int .i64 x.n) ∧ zJ w b (o + 1) (.int .i64 x.lo) ∧ zJ w b (o + 2) (.int .i64 x.up)) ∧ I64 x.n ∧ I64 x.lo ∧ I64 x.up
def zAU (w : World) (b o : Nat) (x : Issue) : Prop :=
 (zJ w b o (.int .i64 x.d) ∧ zJ w b (o + 1) (.int .i64 x.l) ∧ zJ w b (o + 2) (.int .u8 x.k)) ∧ (I64 x.d ∧ I64 x.l ∧ U8 x.k) ∧
 ∃ vi vd, zJ w b (o + 3) vi ∧ zJ w b (o + 4) vd ∧ Sl zCP 2 w vi x.items ∧ Sl zGQ 3 w vd x.dims
def zBM (w : World) (b o : Nat) (x : Note) : Prop :=
 (zJ w b o (.int .i64 x.num) ∧ zJ w b (o + 1) (.int .i64 x.day) ∧ zJ w b (o + 2) (.int .u8 x.sg) ∧ zJ w b (o + 3) (.int .i64 x.d) ∧ zJ w b (o + 4) (.int .i64 x.l) ∧
  zJ w b (o + 5) (.int .i64 x.fr) ∧ zJ w b (o + 6) (.int .i64 x.to) ∧ zJ w b (o + 7) (.int .i64 x.ca) ∧ zJ w b (o + 8) (.bool x.use) ∧ zJ w b (o + 9) (.int .u8 x.ways)) ∧
 (I64 x.num ∧ I64 x.day ∧ U8 x.sg ∧ I64 x.d ∧ I64 x.l ∧ I64 x.fr ∧ I64 x.to ∧ I64 x.ca ∧ U8 x.ways)
def zHA (w : World) (b o : Nat) (x : Heap) : Prop :=
 (zJ w b o (.int .i64 x.d) ∧ zJ w b (o + 1) (.int .i64 x.l) ∧ zJ w b (o + 2) (.int .i64 x.lo) ∧ zJ w b (o + 3) (.int .i64 x.hi)) ∧ (I64 x.d ∧ I64 x.l ∧ I64 x.lo ∧ I64 x.hi)
def zDD (w : World) (b o : Nat) (x : Report) : Prop :=
 (zJ w b o (.int .i64 x.num) ∧ zJ w b (o + 1) (.int .i64 x.m) ∧ zJ w b (o + 2) (.int .i64 x.d) ∧ zJ w b (o + 3) (.int .i64 x.l) ∧ zJ w b (o + 4) (.int .u8 x.k)) ∧
 (I64 x.num ∧ I64 x.m ∧ I64 x.d ∧ I64 x.l ∧ U8 x.k)
theorem zAF {w : World} {b o : Nat} {v : Value} (h : zJ w b o v) : b < w.heap.size := by
 unfold zJ World.cell? at h
 by_cases hb : b < w.heap.size
 ·exact hb
 ·simp [Array.getElem?_eq_none (by omega : w.heap.size ≤ b)] at h
theorem zC {w w' : World} (hb : Below w.heap.size w w') {b o : Nat} {v : Value} (h : zJ w b o v) : zJ w' b o v :=
 (hb.cell (p := ⟨b, o, none⟩) (zAF h)).trans h
def zHU {α : Type} (E : World → Nat → Nat → α → Prop) : Prop := ∀ w w' b o x, Below w.heap.size w w' → E w b o x → E w' b o x
theorem zI {α : Type} {E : World → Nat → Nat → α → Prop} (hE : zHU E) {sz : Nat} {w w' : World} {v : Value} {xs : List α} (hb : Below w.heap.size w w') (h : Sl E sz w v xs) : Sl E sz w' v xs := by
 obtain ⟨a, cap, hv, hm, hc⟩ := h
 refine ⟨a, cap, hv, hm, fun k hk => ?_⟩
 obtain ⟨b, off, ha, he⟩ := hc k hk
 exact ⟨b, off, ha, hE _ _ _ _ _ hb he⟩
theorem zN : zHU zAJ := fun _ _ _ _ _ hb h => ⟨zC hb h.1, h.2⟩
theorem zBB : zHU zCP := fun _ _ _ _ _ hb h => ⟨⟨zC hb h.1.1, zC hb h.1.2⟩, h.2⟩
theorem zBY : zHU zGQ := fun _ _ _ _ _ hb h => ⟨⟨zC hb h.1.1, zC hb h.1.2.1, zC hb h.1.2.2⟩, h.2⟩
theorem zP : zHU zAU := fun _ _ _ _ _ hb ⟨⟨h1, h2, h3⟩, hr, vi, vd, h4, h5, h6, h7⟩ =>
 ⟨⟨zC hb h1, zC hb h2, zC hb h3⟩, hr, vi, vd, zC hb h4, zC hb h5, zI zBB hb h6, zI zBY hb h7⟩
theorem zS : zHU zBM := fun _ _ _ _ _ hb ⟨⟨h0, h1, h2, h3, h4, h5, h6, h7, h8, h9⟩, hr⟩ =>
 ⟨⟨zC hb h0, zC hb h1, zC hb h2, zC hb h3, zC hb h4, zC hb h5, zC hb h6, zC hb h7, zC hb h8, zC hb h9⟩, hr⟩
theorem zCL : zHU zHA := fun _ _ _ _ _ hb ⟨⟨h0, h1, h2, h3⟩, hr⟩ => ⟨⟨zC hb h0, zC hb h1, zC hb h2, zC hb h3⟩, hr⟩
theorem zAV : zHU zDD := fun _ _ _ _ _ hb ⟨⟨h0, h1, h2, h3, h4⟩, hr⟩ => ⟨⟨zC hb h0, zC hb h1, zC hb h2, zC hb h3, zC hb h4⟩, hr⟩
theorem zD {α : Type} {E : World → Nat → Nat → α → Prop} {sz : Nat} {w : World} {v : Value} {xs : List α} (h : Sl E sz w v xs) :
  ∃ a cap, v = .slice a xs.length cap ∧ xs.length ≤ 9223372036854775807 := by
 obtain ⟨a, cap, hv, hm, _⟩ := h
 exact ⟨a, cap, hv, hm⟩
theorem zZ {α : Type} {E : World → Nat → Nat → α → Prop} {sz : Nat} {w : World} {a : Option Addr} {n cap : Nat} {xs : List α} (h : Sl E sz w (.slice a n cap) xs) :
  n = xs.length ∧ ∀ k (hk : k < xs.length), ∃ b off, a = some ⟨b, off, none⟩ ∧ E w b (off + k * sz) xs[k] := by
 obtain ⟨a', cap', hv, _, hc⟩ := h
 cases hv
 exact ⟨rfl, hc⟩
def zAK (p : Prop) (w : World) (e : Ending) (w' : World) : Prop := ∃ b, e = .returned (.bool b) ∧ (b = true ↔ p) ∧ Below w.heap.size w w'
theorem zAK.t {p : Prop} {w w' : World} (hp : p) (hb : Below w.heap.size w w') : zAK p w (.returned (.bool true)) w' := ⟨true, rfl, by simp [hp], hb⟩
theorem zAK.f {p : Prop} {w w' : World} (hp : ¬ p) (hb : Below w.heap.size w w') : zAK p w (.returned (.bool false)) w' := ⟨false, rfl, by simp [hp], hb⟩
theorem zAK.both {p : Prop} {w w' : World} {e : Ending} (h : zAK p w e w') : (p ∧ e = .returned (.bool true) ∧ Below w.heap.size w w') ∨ (¬ p ∧ e = .returned (.bool false) ∧ Below w.heap.size w w') := by
 obtain ⟨b, he, hi, hb⟩ := h
 cases b
 ·right; exact ⟨by simpa using hi, he, hb⟩
 ·left; exact ⟨by simpa using hi, he, hb⟩
def RetS (p : Prop) (w : World) (e : Ending) (w' : World) : Prop := ∃ b, e = .returned (.bool b) ∧ (b = true ↔ p) ∧ w = w'
theorem RetS.t {p : Prop} {w : World} (hp : p) : RetS p w (.returned (.bool true)) w := ⟨true, rfl, by simp [hp], rfl⟩
theorem RetS.f {p : Prop} {w : World} (hp : ¬ p) : RetS p w (.returned (.bool false)) w := ⟨false, rfl, by simp [hp], rfl⟩
theorem RetS.both {p : Prop} {w w' : World} {e : Ending} (h : RetS p w e w') : (p ∧ e = .returned (.bool true) ∧ w = w') ∨ (¬ p ∧ e = .returned (.bool false) ∧ w = w') := by
 obtain ⟨b, he, hi, hb⟩ := h
 cases b
 ·right; exact ⟨by simpa using hi, he, hb⟩
 ·left; exact ⟨by simpa using hi, he, hb⟩
theorem zA {w w1 w2 : World} (h : Below w.heap.size w w1) (k : Below w1.heap.size w1 w2) : Below w.heap.size w w2 := h.trans (k.mono h.size)
theorem zO (w : World) (n : Nat) : Below w.heap.size w (w.drewN n) := ⟨rfl, rfl, rfl, Nat.le_refl _, fun _ _ => rfl⟩
theorem zR (w : World) : Below w.heap.size w w.drew := ⟨rfl, rfl, rfl, Nat.le_refl _, fun _ _ => rfl⟩
theorem zB (w : World) (o : Obj) : Below w.heap.size w (w.alloc o) := (Below.refl _ w).alloc (Nat.le_refl _) o
theorem zU (w : World) (cs : Array Value) (t : TypeId) (j : Nat) (v : Value) (h : cs[j]? = some v) : zJ (w.alloc (.cells cs t)) w.heap.size j v := by
 unfold zJ
 rw [← h]
 simp
theorem new_cell2 (w : World) (o o2 : Obj) (b j : Nat) (v : Value) (h : zJ (w.alloc o) b j v) : zJ ((w.alloc o).alloc o2) b j v :=
 zC (zB _ _) h
theorem zBE {w : World} {b o g j : Nat} {v u : Value} (h : zJ w b o v) (hne : b ≠ g) : zJ (w.setCell ⟨g, j, none⟩ u) b o v := by
 unfold zJ at *
 rw [World.cell?_of_block (w := w) (Below.heap_setCell w ⟨g, j, none⟩ u b hne)]
 exact h
theorem zAZ (w : World) (cs : Array Value) (t : TypeId) : Below w.heap.size w (w.alloc (.cells cs t)) ∧ (∀ j v, cs[j]? = some v → zJ (w.alloc (.cells cs t)) w.heap.size j v) :=
 ⟨zB _ _, fun j v h => zU w cs t j v h⟩
theorem zDY (w : World) (cs cs' : Array Value) (t t' : TypeId) : Below w.heap.size w ((w.alloc (.cells cs t)).alloc (.cells cs' t')) ∧
  (∀ j v, cs[j]? = some v → zJ ((w.alloc (.cells cs t)).alloc (.cells cs' t')) w.heap.size j v) ∧ (∀ j v, cs'[j]? = some v → zJ ((w.alloc (.cells cs t)).alloc (.cells cs' t')) (w.heap.size + 1) j v) :=
 ⟨zA (zB _ _) (zB _ _), fun j v h => zC (zB _ _) (zU w cs t j v h), fun j v h => by
  have := zU (w.alloc (.cells cs t)) cs' t' j v h
  rwa [World.size_alloc] at this⟩
theorem zAO (p : Nat → Prop) (k : Nat) (h : ∀ j, j < k → p j) (hk : p k) : ∀ j, j < k + 1 → p j := by
 intro j hj
 by_cases e : j = k
 ·rw [e]; exact hk
 ·exact h j (by omega)
theorem zCQ {a b : Bool} (h : a = b) : Ending.returned (.bool a) = .returned (.bool b) := by rw [h]
theorem zBT {k : IntKind} {a b : Int} (h : a = b) : Ending.returned (.int k a) = .returned (.int k b) := by rw [h]
end
section
open Go.RowKit
def In (n lo hi : Int) : Prop := lo ≤ n ∧ n ≤ hi
theorem within01 (n lo hi : Int) (w : World) : Calls Tryz.prog 225 #[.int .i64 n, .int .i64 lo, .int .i64 hi] w (RetS (In n lo hi) w) := by
 by_cases h1 : lo ≤ n
 ·by_cases h2 : n ≤ hi
  ·go_enter Tryz.func225, Tryz.ntmps225
   go_wp2
   go_ret
   exact RetS.t ⟨h1, h2⟩
  ·go_enter Tryz.func225, Tryz.ntmps225
   go_wp2
   go_ret
   exact RetS.f (by unfold In; omega)
 ·go_enter Tryz.func225, Tryz.ntmps225
  go_wp2
  go_ret
  exact RetS.f (by unfold In; omega)
theorem zJZ (n lo hi : Int) (w : World) : Calls Tryz.prog 188 #[.int .i64 n, .int .i64 lo, .int .i64 hi] w (RetS (In n lo hi) w) := by
 by_cases h1 : lo ≤ n
 ·by_cases h2 : n ≤ hi
  ·go_enter Tryz.func188, Tryz.ntmps188
   go_wp2
   go_ret
   exact RetS.t ⟨h1, h2⟩
  ·go_enter Tryz.func188, Tryz.ntmps188
   go_wp2
   go_ret
   exact RetS.f (by unfold In; omega)
 ·go_enter Tryz.func188, Tryz.ntmps188
  go_wp2
  go_ret
  exact RetS.f (by unfold In; omega)
theorem zPZ (n lo hi : Int) (w : World) : Calls Tryz.prog 190 #[.int .i64 n, .int .i64 lo, .int .i64 hi] w (RetS (In n lo hi) w) := by
 by_cases h1 : lo ≤ n
 ·by_cases h2 : n ≤ hi
  ·go_enter Tryz.func190, Tryz.ntmps190
   go_wp2
   go_ret
   exact RetS.t ⟨h1, h2⟩
  ·go_enter Tryz.func190, Tryz.ntmps190
   go_wp2
   go_ret
   exact RetS.f (by unfold In; omega)
 ·go_enter Tryz.func190, Tryz.ntmps190
  go_wp2
  go_ret
  exact RetS.f (by unfold In; omega)
theorem within08 (n lo hi : Int) (w : World) : Calls Tryz.prog 59 #[.int .i64 n, .int .i64 lo, .int .i64 hi] w (RetS (In n lo hi) w) := by
 by_cases h1 : lo ≤ n
 ·by_cases h2 : n ≤ hi
  ·go_enter Tryz.func59, Tryz.ntmps59
   go_wp2
   go_ret
   exact RetS.t ⟨h1, h2⟩
  ·go_enter Tryz.func59, Tryz.ntmps59
   go_wp2
   go_ret
   exact RetS.f (by unfold In; omega)
 ·go_enter Tryz.func59, Tryz.ntmps59
  go_wp2
  go_ret
  exact RetS.f (by unfold In; omega)
def inB (n lo hi : Int) : Bool := decide (lo ≤ n) && decide (n ≤ hi)
theorem zFM {n lo hi : Int} (h : inB n lo hi = true) : In n lo hi := by unfold inB at h; simpa [In] using h
theorem zLJ {n lo hi : Int} (h : ¬ inB n lo hi = true) : ¬ In n lo hi := fun hh => h (by unfold inB; simpa [In] using hh)
theorem zFS {n lo hi : Int} (h : ¬ inB n lo hi = true) : inB n lo hi = false := by simpa using h
theorem zFZ (n lo hi : Int) (w : World) : Calls Tryz.prog 188 #[.int .i64 n, .int .i64 lo, .int .i64 hi] w fun e w' => e = .returned (.bool (inB n lo hi)) ∧ w' = w := by
 refine (zJZ n lo hi w).mono ?_
 intro e w' h
 rcases h.both with ⟨h1, rfl, rfl⟩ | ⟨h1, rfl, rfl⟩
 ·exact ⟨by rw [show inB n lo hi = true from by unfold inB; simpa [In] using h1], rfl⟩
 ·exact ⟨by rw [show inB n lo hi = false from by unfold In at h1; unfold inB; rw [Bool.eq_false_iff]; simpa using h1], rfl⟩
def zPB (d : Dim) : Prop := In d.n 0 1000000000 ∧ In d.up 0 1000000000 ∧ In d.lo 0 d.up
theorem dim01 (d : Dim) (w : World) : Calls Tryz.prog 216 #[.agg #[.int .i64 d.n, .int .i64 d.lo, .int .i64 d.up]] w (zAK (zPB d) w) := by
 obtain ⟨hb1, B1⟩ := zAZ w #[.int .i64 d.n, .int .i64 d.lo, .int .i64 d.up] 252
 have c1 := B1 1 _ rfl
 have c2 := B1 2 _ rfl
 clear B1
 unfold zJ at c1 c2
 go_enter Tryz.func216, Tryz.ntmps216
 go_wp2_with fail
 generalize w.alloc _ = w1 at *
 refine (within01 _ _ _ _).mono ?_
 intro e w2 h
 rcases h.both with ⟨h1, rfl, rfl⟩ | ⟨h1, rfl, rfl⟩
 ·clear h
  go_wp2_with fail
  refine (within01 _ _ _ _).mono ?_
  intro e w3 h
  rcases h.both with ⟨h2, rfl, rfl⟩ | ⟨h2, rfl, rfl⟩
  ·clear h
   go_wp2_with fail
   refine (within01 _ _ _ _).mono ?_
   intro e w4 h
   rcases h.both with ⟨h3, rfl, rfl⟩ | ⟨h3, rfl, rfl⟩
   ·go_wp2
    go_ret
    exact zAK.t ⟨h1, h2, h3⟩ hb1
   ·go_wp2
    go_ret
    exact zAK.f (fun h => h3 h.2.2) hb1
  ·go_wp2
   go_ret
   exact zAK.f (fun h => h2 h.2.1) hb1
 ·go_wp2
  go_ret
  exact zAK.f (fun h => h1 h.1) hb1
end
section
open Go.RowKit
def zMH (x : Issue) (k : Nat) : Prop := ∀ h : k < x.items.length, In x.items[k].d 1 9999 ∧ In x.items[k].c 1 20 ∧ x.items[k].d ≠ x.d ∧ (∀ h1 : 0 < k, x.items[k - 1].d < x.items[k].d)
def HeadOk (x : Issue) : Prop := In x.d 1 9999 ∧ In x.l 1 8 ∧ In x.k 1 3 ∧ (x.k = 1 → In x.items.length 1 8 ∧ x.dims.length = 0) ∧ (1 < x.k → x.dims.length ≤ 4 ∧ x.items.length = 0)
def zHI (x : Issue) : Prop := HeadOk x ∧ (∀ k, k < x.items.length → zMH x k) ∧ (∀ k, (h : k < x.dims.length) → zPB x.dims[k])
structure IssueAt (w : World) (vi vd : Value) (x : Issue) : Prop where
 items : Sl zCP 2 w vi x.items
 dims : Sl zGQ 3 w vd x.dims
 num : I64 x.d ∧ I64 x.l ∧ U8 x.k
theorem IssueAt.ext {w w' : World} {vi vd : Value} {x : Issue} (hb : Below w.heap.size w w') (h : IssueAt w vi vd x) : IssueAt w' vi vd x :=
 ⟨zI zBB hb h.items, zI zBY hb h.dims, h.num⟩
theorem issue02 (w : World) (vi vd : Value) (x : Issue) (h : IssueAt w vi vd x) :
  Calls Tryz.prog 189 #[.agg #[.int .i64 x.d, .int .i64 x.l, .int .u8 x.k, vi, vd]] w (zAK (zHI x) w) := by
 obtain ⟨hb1, B1⟩ := zAZ w #[.int .i64 x.d, .int .i64 x.l, .int .u8 x.k, vi, vd] 107
 have c0 := B1 0 _ rfl
 have c1 := B1 1 _ rfl
 have c2 := B1 2 _ rfl
 have c3 := B1 3 _ rfl
 have c4 := B1 4 _ rfl
 clear B1
 obtain ⟨ai, capi, rfl, hmi⟩ := zD h.items
 obtain ⟨ad, capd, rfl, hmd⟩ := zD h.dims
 obtain ⟨_, _, hu0, hu1⟩ := h.num
 have hx := h.ext hb1
 clear h
 have C0 := Lib.hid c0
 have C3 := Lib.hid c3
 have C4 := Lib.hid c4
 unfold zJ at c0 c1 c2 c3 c4
 go_enter Tryz.func189, Tryz.ntmps189
 go_wp2_with fail
 generalize w.alloc _ = w1 at *
 refine (zJZ _ _ _ _).mono ?_
 intro e w2 h
 rcases h.both with ⟨h1, rfl, rfl⟩ | ⟨h1, rfl, rfl⟩
 case inr => go_wp2; go_ret; exact zAK.f (fun h => h1 h.1.1) hb1
 clear h
 go_wp2_with fail
 refine (zJZ _ _ _ _).mono ?_
 intro e w2 h
 rcases h.both with ⟨h2, rfl, rfl⟩ | ⟨h2, rfl, rfl⟩
 case inr => go_wp2; go_ret; exact zAK.f (fun h => h2 h.1.2.1) hb1
 clear h
 go_wp2_with fail
 refine (zJZ _ _ _ _).mono ?_
 intro e w2 h
 rcases h.both with ⟨h3, rfl, rfl⟩ | ⟨h3, rfl, rfl⟩
 case inr => go_wp2; go_ret; exact zAK.f (fun h => h3 h.1.2.2.1) hb1
 clear h
 by_cases k1 : x.k = 1
 case' pos =>
  have b1 : (x.k == 1) = true := by simp [k1]
  have b2 : x.k ≤ 1 := by omega
  have K1 := Lib.hid k1
  clear k1
  go_wp2_with fail
  refine (zJZ _ _ _ _).mono ?_
  intro e w2 h
  rcases h.both with ⟨h4, rfl, rfl⟩ | ⟨h4, rfl, rfl⟩
  case inr => go_wp2; go_ret; exact zAK.f (fun h => h4 (h.1.2.2.2.1 K1.out).1) hb1
  clear h
  by_cases h5 : 0 < x.dims.length
  case pos =>
   go_wp2
   go_ret
   exact zAK.f (fun h => by have := (h.1.2.2.2.1 K1.out).2; omega) hb1
  go_wp2
  have HH : HeadOk x := ⟨h1, h2, h3, fun _ => ⟨h4, by omega⟩, fun _ => by omega⟩
  clear b1 b2 h4 h5 K1
 case' neg =>
  have b1 : (x.k == 1) = false := by simp [k1]
  have b2 : 1 < x.k := by have := h3.1; omega
  by_cases h4 : 4 < x.dims.length
  case pos =>
   clear k1
   go_wp2
   go_ret
   exact zAK.f (fun h => by have := (h.1.2.2.2.2 b2).1; omega) hb1
  by_cases h5 : 0 < x.items.length
  case pos =>
   clear k1
   go_wp2
   go_ret
   exact zAK.f (fun h => by have := (h.1.2.2.2.2 b2).2; omega) hb1
  have HH : HeadOk x := ⟨h1, h2, h3, fun h => (k1 h).elim, fun _ => ⟨by omega, by omega⟩⟩
  clear k1
  go_wp2
  clear b1 b2 h4 h5
 all_goals
  clear c0 c1 c2 c3 c4 h1 h2 h3 hu0 hu1
  go_loopw [3] (fun i wr => ∃ k : Nat, i = .int .i64 k ∧ k ≤ x.items.length ∧ Below w1.heap.size w1 wr ∧ ∀ j, j < k → zMH x j) (fun i _ => x.items.length - (intOf i).toNat)
  case atStart => exact ⟨0, rfl, by omega, Below.refl _ _, fun j hj => absurd hj (by omega)⟩
  case round =>
   obtain ⟨k, rfl, hk, hb, hall⟩ := hrel
   have HALL := Lib.hid hall
   clear hall
   have e3 := zC hb C3.out
   unfold zJ at e3
   by_cases hlt : k < x.items.length
   ·obtain ⟨_, hX⟩ := zZ (hx.ext hb).items
    obtain ⟨b, off, rfl, ⟨q0, q1⟩, _⟩ := hX k hlt
    unfold zJ at q0 q1
    have hY : zMH x k ↔ In x.items[k].d 1 9999 ∧ In x.items[k].c 1 20 ∧ x.items[k].d ≠ x.d ∧ (∀ h1 : 0 < k, x.items[k - 1].d < x.items[k].d) := ⟨fun h => h hlt, fun h _ => h⟩
    have HYY := Lib.hid hY
    clear hY
    generalize x.items[k] = y at *
    have hb2 := zA hb (zB wr (.cells #[.int .i64 y.d, .int .i64 y.c] 205))
    have m0 := zC (zB wr (.cells #[.int .i64 y.d, .int .i64 y.c] 205)) (zC hb C0.out)
    have m3 := zC (zB wr (.cells #[.int .i64 y.d, .int .i64 y.c] 205)) e3
    have n0 := zU wr #[.int .i64 y.d, .int .i64 y.c] 205 0 _ rfl
    have n1 := zU wr #[.int .i64 y.d, .int .i64 y.c] 205 1 _ rfl
    have hX2 := (zZ (hx.ext hb2).items).2
    go_wp2
    clear e3 q0 q1 hX
    generalize wr.alloc _ = w2 at *
    generalize wr.heap.size = s2 at *
    unfold zJ at m0 m3 n0 n1
    have G0 := m0
    by_cases g1 : inB y.d 1 9999 = true
    ·by_cases g2 : inB y.c 1 20 = true
     ·by_cases g3 : (y.d == x.d) = true
      ·clear hX2
       go_quiet ((go_at_call 188; exact Calls.quiet_of_same (zFZ _ _ _ _)))
       go_wp2
       go_ret
       exact zAK.f (fun h => ((HYY.out.1 (h.2.1 k hlt)).2.2.1 (by simpa using g3))) (zA hb1 (zA hb2 (zO _ _)))
      ·have g3' : (y.d == x.d) = false := by simpa using g3
       by_cases g4 : 0 < k
       ·obtain ⟨b', off', hbb, ⟨p0, _⟩, _⟩ := hX2 (k - 1) (by omega)
        cases hbb
        unfold zJ at p0
        have HY4 := Lib.hid (show zMH x k ↔ _ from HYY.out)
        have hp : x.items[k - 1] = x.items[k - 1] := rfl
        generalize hz : x.items[k - 1] = z at *
        have HZ := Lib.hid hz
        clear hX2 hz hp
        by_cases g5 : z.d < y.d
        ·go_quiet ((go_at_call 188; exact Calls.quiet_of_same (zFZ _ _ _ _)))
         go_wp2
         go_roundw
         case rel => exact ⟨k + 1, by go_num, by omega, zA hb2 (zO _ _), zAO _ k HALL.out (HYY.out.2 ⟨zFM g1, zFM g2, by simpa using g3', fun _ => by rw [HZ.out]; exact g5⟩)⟩
         case measure => simp [intOf]; omega
        ·go_quiet ((go_at_call 188; exact Calls.quiet_of_same (zFZ _ _ _ _)))
         go_wp2
         go_ret
         exact zAK.f (fun h => by have := (HYY.out.1 (h.2.1 k hlt)).2.2.2 g4; rw [HZ.out] at this; omega) (zA hb1 (zA hb2 (zO _ _)))
       ·clear hX2
        go_quiet ((go_at_call 188; exact Calls.quiet_of_same (zFZ _ _ _ _)))
        go_wp2
        go_roundw
        case rel => exact ⟨k + 1, by go_num, by omega, zA hb2 (zO _ _), zAO _ k HALL.out (HYY.out.2 ⟨zFM g1, zFM g2, by simpa using g3', fun h => absurd h g4⟩)⟩
        case measure => simp [intOf]; omega
     ·have g2' := zFS g2
      clear hX2
      go_quiet ((go_at_call 188; exact Calls.quiet_of_same (zFZ _ _ _ _)))
      go_wp2
      go_ret
      exact zAK.f (fun h => zLJ g2 (HYY.out.1 (h.2.1 k hlt)).2.1) (zA hb1 (zA hb2 (zO _ _)))
    ·have g1' := zFS g1
     clear hX2
     go_quiet ((go_at_call 188; exact Calls.quiet_of_same (zFZ _ _ _ _)))
     go_wp2
     go_ret
     exact zAK.f (fun h => zLJ g1 (HYY.out.1 (h.2.1 k hlt)).1) (zA hb1 (zA hb2 (zO _ _)))
   ·have hb2 := zA hb1 hb
    have HA : Hid (∀ j, j < x.items.length → zMH x j) := fun j hj => HALL.out j (by omega)
    have hx2 := hx.ext hb
    have C4' := Lib.hid (zC hb C4.out)
    clear HALL hb1 hb hx C0 C3 C4
    obtain ⟨wo, rfl⟩ : ∃ wo : World, wo = wr := ⟨_, rfl⟩
    go_wp2
    clear e3 hlt hk
    go_loopw [5] (fun i wr => ∃ k : Nat, i = .int .i64 k ∧ k ≤ x.dims.length ∧ Below wo.heap.size wo wr ∧ ∀ j, j < k → (h : j < x.dims.length) → zPB x.dims[j]) (fun i _ => x.dims.length - (intOf i).toNat)
    case atStart => exact ⟨0, rfl, by omega, Below.refl _ _, fun j hj => absurd hj (by omega)⟩
    case round =>
     obtain ⟨k, rfl, hk, hb, hall⟩ := hrel
     have HALL := Lib.hid hall
     clear hall
     have e4 := zC hb C4'.out
     unfold zJ at e4
     have hb3 := zA hb2 hb
     by_cases hlt : k < x.dims.length
     ·obtain ⟨_, hX⟩ := zZ (hx2.ext hb).dims
      obtain ⟨b, off, rfl, ⟨q0, q1, q2⟩, _⟩ := hX k hlt
      unfold zJ at q0 q1 q2
      have hY : zPB x.dims[k] ↔ zPB x.dims[k] := Iff.rfl
      generalize hy : x.dims[k] = y at *
      have HYY := Lib.hid hy
      clear hy hX hY hx2
      go_wp2_with fail
      refine (dim01 y _).mono ?_
      intro e w4 h
      rcases h.both with ⟨d1, rfl, hb4⟩ | ⟨d1, rfl, hb4⟩
      ·clear h
       go_wp2
       go_roundw
       case rel => exact ⟨k + 1, by go_num, by omega, zA hb hb4, zAO _ k HALL.out (fun _ => by rw [HYY.out]; exact d1)⟩
       case measure => simp [intOf]; omega
      ·clear h
       go_wp2
       go_ret
       exact zAK.f (fun h => d1 (by have := h.2.2 k hlt; rw [HYY.out] at this; exact this)) (zA hb3 hb4)
     ·clear hx2
      go_wp2
      go_ret
      exact zAK.t ⟨HH, HA.out, fun j hj => HALL.out j (by omega) hj⟩ hb3
end
section
open Go.RowKit
theorem zDM : (Tryz.prog.info? 3).map (fun i => (i.zero, i.size, i.bytes)) = some (some (.int .i64 0), 1, 8) := by kernel_rfl
theorem zPR : (Tryz.prog.info? 205).map (fun i => (i.zero, i.size, i.bytes)) = some (some (.agg #[.int .i64 0, .int .i64 0]), 2, 16) := by kernel_rfl
theorem infoDim : (Tryz.prog.info? 252).map (fun i => (i.zero, i.size, i.bytes)) = some (some (.agg #[.int .i64 0, .int .i64 0, .int .i64 0]), 3, 24) := by kernel_rfl
theorem infoIssue : (Tryz.prog.info? 107).map (fun i => (i.zero, i.size, i.bytes)) = some (some (.agg #[.int .i64 0, .int .i64 0, .int .u8 0, .slice none 0 0, .slice none 0 0]), 5, 72) := by kernel_rfl
theorem infoNote : (Tryz.prog.info? 147).map (fun i => (i.zero, i.size, i.bytes)) = some (some (.agg #[.int .i64 0, .int .i64 0, .int .u8 0, .int .i64 0, .int .i64 0, .int .i64 0, .int .i64 0, .int .i64 0, .bool false, .int .u8 0]), 10, 72) := by kernel_rfl
theorem infoHeap : (Tryz.prog.info? 114).map (fun i => (i.zero, i.size, i.bytes)) = some (some (.agg #[.int .i64 0, .int .i64 0, .int .i64 0, .int .i64 0]), 4, 32) := by kernel_rfl
theorem infoReport : (Tryz.prog.info? 116).map (fun i => (i.zero, i.size, i.bytes)) = some (some (.agg #[.int .i64 0, .int .i64 0, .int .i64 0, .int .i64 0, .int .u8 0]), 5, 40) := by kernel_rfl
theorem zBP (g j : Nat) : (⟨g, 0, none⟩ : Addr).add j = ⟨g, j, none⟩ := by
 unfold Addr.add
 split
 ·rename_i h; subst h; rfl
 ·simp
theorem zBG {w : World} {base : Nat} {v : Value} {xs : List Int} (h : w.ownsRow base 3 1 v xs.length (xs.map (Value.int .i64))) (hI : ∀ x ∈ xs, I64 x) : Sl zAJ 1 w v xs := by
 have h' := h
 obtain ⟨_, h2⟩ := h
 rcases h2 with ⟨rfl, hn⟩ | ⟨g, cap, cur, rfl, _, _, hc, hcm, _⟩
 ·exact ⟨none, 0, by rw [hn], by omega, fun k hk => by omega⟩
 ·refine ⟨some ⟨g, 0, none⟩, cap, rfl, by unfold maxLen at hcm; omega, fun k hk => ⟨g, 0, rfl, ?_, hI _ (List.getElem_mem hk)⟩⟩
  have := h'.cells (g := g) rfl k (.int .i64 xs[k]) (by simp [hk])
  rw [zBP] at this
  unfold zJ
  simpa using this
end
section
def zBR (R : List Issue) : Nat → List Int
 | 0 => []
 | k + 1 => zBR R k ++ (match R[k]? with | none => [] | some x => if k ≠ 0 ∧ (R[k - 1]?).map (·.d) = some x.d then [] else [x.d])
def nums (R : List Issue) : List Int := zBR R R.length
theorem zIA (R : List Issue) (k : Nat) (hk : k < R.length) (h : k = 0 ∨ R[k - 1].d ≠ R[k].d) : zBR R (k + 1) = zBR R k ++ [R[k].d] := by
 simp only [zBR, List.getElem?_eq_getElem hk]
 rw [if_neg]
 rintro ⟨h0, h1⟩
 rw [List.getElem?_eq_getElem (by omega)] at h1
 simp at h1
 rcases h with h | h
 ·exact h0 h
 ·exact h h1
theorem zLL (R : List Issue) (k : Nat) (hk : k < R.length) (h0 : k ≠ 0) (h : R[k - 1].d = R[k].d) : zBR R (k + 1) = zBR R k := by
 simp only [zBR, List.getElem?_eq_getElem hk]
 rw [if_pos]
 ·simp
 ·refine ⟨h0, ?_⟩
  rw [List.getElem?_eq_getElem (by omega)]
  simp [h]
theorem zMR (R : List Issue) (k : Nat) : (zBR R k).length ≤ k := by
 induction k with
 | zero => simp [zBR]
 | succ k ih =>
   simp only [zBR, List.length_append]
   split
   ·simp; omega
   ·split <;> simp <;> omega
theorem numsTo_mem (R : List Issue) (k : Nat) (n : Int) (h : n ∈ zBR R k) : ∃ x ∈ R, x.d = n := by
 induction k with
 | zero => simp [zBR] at h
 | succ k ih =>
   simp only [zBR, List.mem_append] at h
   rcases h with h | h
   ·exact ih h
   ·split at h
    ·simp at h
    ·rename_i x hx
     split at h
     ·simp at h
     ·simp at h
      exact ⟨x, List.mem_of_getElem? hx, h.symm⟩
end
section
open Go.RowKit
def zJA (l : List Int) (n : Int) : Int := if n ∈ l then (l.idxOf n : Int) else -1
theorem idxI_at (l : List Int) (n : Int) (k : Nat) (hk : k < l.length) (h : l[k] = n) (hf : ∀ j, j < k → (hj : j < l.length) → l[j] ≠ n) : zJA l n = k := by
 unfold zJA
 rw [if_pos (h ▸ List.getElem_mem hk)]
 congr 1
 induction l generalizing k with
 | nil => simp at hk
 | cons a l ih =>
   cases k with
   | zero => simp at h; simp [h]
   | succ k =>
     have ha : a ≠ n := hf 0 (by omega) (by simp)
     rw [List.idxOf_cons]
     simp only [cond_false, beq_eq_false_iff_ne.2 ha]
     congr 1
     exact ih k (by simpa using hk) (by simpa using h) (fun j hj hjl => by have := hf (j + 1) (by omega) (by simp; omega); simpa using this)
theorem reg_num {w : World} {v : Value} {R : List Issue} (h : Sl zAU 5 w v R) : ∀ x ∈ R, I64 x.d ∧ I64 x.l ∧ U8 x.k := by
 intro x hx
 obtain ⟨k, hk, rfl⟩ := List.getElem_of_mem hx
 obtain ⟨a, cap, rfl, _, hc⟩ := h
 obtain ⟨_, _, _, _, h2, _⟩ := hc k hk
 exact h2
theorem nums_I64 {w : World} {v : Value} {R : List Issue} (h : Sl zAU 5 w v R) : ∀ n ∈ nums R, I64 n := by
 intro n hn
 obtain ⟨x, hx, rfl⟩ := numsTo_mem R _ n hn
 exact (reg_num h x hx).1
theorem idxI_none (l : List Int) (n : Int) (hf : ∀ j, (hj : j < l.length) → l[j] ≠ n) : zJA l n = -1 := by
 unfold zJA
 rw [if_neg]
 intro h
 obtain ⟨i, hi, rfl⟩ := List.getElem_of_mem h
 exact hf i hi rfl
theorem idxI_in (l : List Int) (n : Int) (h : n ∈ l) : 0 ≤ zJA l n := by unfold zJA; rw [if_pos h]; omega
theorem zPJ (l : List Int) (n : Int) (h : ¬ n ∈ l) : zJA l n < 0 := by unfold zJA; rw [if_neg h]; omega
theorem zLY (w : World) (v : Value) (l : List Int) (n : Int) (h : Sl zAJ 1 w v l) :
  Calls Tryz.prog 80 #[v, .int .i64 n] w fun e w' => e = .returned (.int .i64 (zJA l n)) ∧ w = w' := by
 obtain ⟨a, cap, rfl, hm⟩ := zD h
 go_enter Tryz.func80, Tryz.ntmps80
 go_wp2
 go_loop [5] (fun i => ∃ k : Nat, i = .int .i64 k ∧ k ≤ l.length ∧ ∀ j, j < k → (hj : j < l.length) → l[j] ≠ n) (fun i => l.length - (intOf i).toNat)
 case atStart => exact ⟨0, rfl, by omega, fun j hj => absurd hj (by omega)⟩
 case round =>
  obtain ⟨k, rfl, hk, hall⟩ := hrel
  have HALL := Lib.hid hall
  clear hall
  by_cases hlt : k < l.length
  ·obtain ⟨b, off, rfl, hc, _⟩ := (zZ h).2 k hlt
   unfold zJ at hc
   rw [Nat.mul_one] at hc
   generalize hx : l[k] = x at *
   have HX := Lib.hid hx
   clear hx h
   by_cases he : (x == n) = true
   ·go_wp2
    go_ret
    exact ⟨zBT (idxI_at l n k hlt (by rw [HX.out]; simpa using he) HALL.out).symm, rfl⟩
   ·have he' : (x == n) = false := by simpa using he
    go_wp2
    go_round
    case rel => exact ⟨k + 1, by go_num, by omega, zAO _ k HALL.out (fun _ => by rw [HX.out]; simpa using he)⟩
    case measure => simp [intOf]; omega
  ·clear h
   go_wp2
   go_ret
   exact ⟨zBT (idxI_none l n (fun j hj => HALL.out j (by omega) hj)).symm, rfl⟩
theorem zFK (w : World) (v : Value) (R : List Issue) (h : Sl zAU 5 w v R) (hR : R.length ≤ 1000) :
  Calls Tryz.prog 127 #[.agg #[v]] w fun e w' => ∃ u, e = .returned u ∧ Sl zAJ 1 w' u (nums R) ∧ Below w.heap.size w w' := by
 obtain ⟨i0, hi, hz0, hz1, hz2⟩ := info_parts zDM
 obtain ⟨hb1, B1⟩ := zAZ w #[v] 24
 have c0 := B1 0 v rfl
 clear B1
 obtain ⟨a, cap, rfl, hm⟩ := zD h
 have h1 := zI zP hb1 h
 have C0 := Lib.hid c0
 clear h c0
 go_enter Tryz.func127, Tryz.ntmps127
 go_wp2
 generalize w.alloc _ = w1 at *
 go_loopw [3, 4] (fun o i wr => ∃ k : Nat, i = .int .i64 k ∧ k ≤ R.length ∧ wr.ownsRow w1.heap.size 3 1 o (zBR R k).length ((zBR R k).map (Value.int .i64)) ∧ Below w1.heap.size w1 wr) (fun _ i _ => R.length - (intOf i).toNat)
 case atStart => exact ⟨0, rfl, by omega, World.ownsRow_nil _ _ _ _, Below.refl _ _⟩
 case round =>
  obtain ⟨k, rfl, hk, hown, hb⟩ := hrel
  have e0 := zC hb C0.out
  unfold zJ at e0
  have hle := zMR R k
  by_cases hlt : k < R.length
  ·have hX := (zZ (zI zP hb h1)).2
   obtain ⟨b, off, rfl, ⟨q0, _⟩, _⟩ := hX k hlt
   have hnew := Lib.hid (zIA R k hlt)
   have hsame := Lib.hid (zLL R k hlt)
   unfold zJ at q0
   generalize hx : R[k] = x at *
   have HX := Lib.hid hx
   clear hx
   by_cases h0 : k = 0
   ·have hk0 : ((k : Int) == 0) = true := by simp [h0]
    have H0 := Lib.hid h0
    clear hX h0
    go_wp2_with (at_builtin; refine wpList_append_own _ rfl _ _ 28 rfl w1.heap.size 3 i0 (.int .i64 0) 1 8 Tryz.underlying28 hi hz0 hz1 hz2 rfl (by decide) _ _ _ rfl (hown.alloc _) ⟨wr.heap.size, 0, none⟩ 1 1 [.int .i64 x.d] rfl rfl (cell_one_new _ _ _) (by simp [Value.oneCell']) (by unfold maxLen; omega) (by omega) (by have := hb.size; simp; omega) ?_; intro v' w2 hown' hgrow _)
    have hb2 := (hb.alloc hb.size (.cells #[.int .i64 x.d] 3)).grown hgrow (by have := hb.size; simp; omega) (fun k e => (hown.lt k e).1)
    go_roundw
    case rel => exact ⟨k + 1, by go_num, by omega, by rw [hnew.out (.inl H0.out)]; simpa using hown', hb2⟩
    case measure => simp [intOf]; omega
   ·obtain ⟨b', off', hbb, ⟨p0, _⟩, _⟩ := hX (k - 1) (by omega)
    cases hbb
    unfold zJ at p0
    generalize hz : R[k - 1] = z at *
    have HZ := Lib.hid hz
    have hk0 : ((k : Int) == 0) = false := by simp; omega
    clear hX hz
    by_cases he : (z.d != x.d) = true
    ·go_wp2_with (at_builtin; refine wpList_append_own _ rfl _ _ 28 rfl w1.heap.size 3 i0 (.int .i64 0) 1 8 Tryz.underlying28 hi hz0 hz1 hz2 rfl (by decide) _ _ _ rfl (hown.alloc _) ⟨wr.heap.size, 0, none⟩ 1 1 [.int .i64 x.d] rfl rfl (cell_one_new _ _ _) (by simp [Value.oneCell']) (by unfold maxLen; omega) (by omega) (by have := hb.size; simp; omega) ?_; intro v' w2 hown' hgrow _)
     have hb2 := (hb.alloc hb.size (.cells #[.int .i64 x.d] 3)).grown hgrow (by have := hb.size; simp; omega) (fun k e => (hown.lt k e).1)
     go_roundw
     case rel => exact ⟨k + 1, by go_num, by omega, by rw [hnew.out (.inr (by simpa using he))]; simpa using hown', hb2⟩
     case measure => simp [intOf]; omega
    ·have he' : (z.d != x.d) = false := by simpa using he
     go_wp2
     go_roundw
     case rel => exact ⟨k + 1, by go_num, by omega, by rw [hsame.out h0 (by simpa using he')]; exact hown, hb⟩
     case measure => simp [intOf]; omega
  ·go_wp2
   go_ret
   obtain rfl : k = R.length := by omega
   exact ⟨_, rfl, zBG hown (nums_I64 h1), zA hb1 hb⟩
end
section
def inF (S : List Int) (m : Int) (x : Note) : Bool := (x.sg == 2 || decide (x.num ∈ S)) && (decide (x.fr ≤ m) && decide (m ≤ x.to))
def frc (S : List Int) (m : Int) : List Note → List Bool
 | [] => []
 | x :: N => (inF S m x && !((N.zip (frc S m N)).any fun p => p.2 && p.1.ca == x.num)) :: frc S m N
theorem zNV (S : List Int) (m : Int) (N : List Note) : (frc S m N).length = N.length := by
 induction N with
 | nil => rfl
 | cons x N ih => simp [frc, ih]
def fAt (S : List Int) (m : Int) (N : List Note) (k : Nat) : Bool := (frc S m N).getD k false
theorem fAt_zero (S : List Int) (m : Int) (x : Note) (N : List Note) : fAt S m (x :: N) 0 = (inF S m x && !((N.zip (frc S m N)).any fun p => p.2 && p.1.ca == x.num)) := rfl
theorem fAt_succ (S : List Int) (m : Int) (x : Note) (N : List Note) (k : Nat) : fAt S m (x :: N) (k + 1) = fAt S m N k := rfl
theorem any_zip (S : List Int) (m c : Int) : ∀ N : List Note, ((N.zip (frc S m N)).any fun p => p.2 && p.1.ca == c) = true ↔ ∃ j, ∃ h : j < N.length, fAt S m N j = true ∧ N[j].ca = c := by
 suffices ∀ (N : List Note) (B : List Bool), N.length = B.length → (((N.zip B).any fun p => p.2 && p.1.ca == c) = true ↔ ∃ j, ∃ h : j < N.length, B.getD j false = true ∧ N[j].ca = c) from fun N => this N _ (zNV S m N).symm
 intro N B hl
 rw [List.any_eq_true]
 constructor
 ·rintro ⟨p, hp, h⟩
  obtain ⟨j, hj, rfl⟩ := List.getElem_of_mem hp
  rw [List.length_zip] at hj
  simp at h
  refine ⟨j, by omega, ?_, h.2⟩
  rw [List.getD_eq_getElem?_getD, List.getElem?_eq_getElem (by omega)]
  exact h.1
 ·rintro ⟨j, hj, h1, h2⟩
  rw [List.getD_eq_getElem?_getD, List.getElem?_eq_getElem (by omega)] at h1
  refine ⟨(N[j], B[j]), ?_, by simp [h2]; simpa using h1⟩
  rw [← List.getElem_zip (h := by rw [List.length_zip]; omega)]
  exact List.getElem_mem _
theorem fAt_iff (S : List Int) (m : Int) : ∀ (N : List Note) (k : Nat) (hk : k < N.length), fAt S m N k = true ↔ inF S m N[k] = true ∧ ∀ j, k < j → ∀ hj : j < N.length, fAt S m N j = true → N[j].ca ≠ N[k].num
 | [], k, hk => by simp at hk
 | x :: N, 0, _ => by
   rw [fAt_zero, Bool.and_eq_true, Bool.not_eq_true', ← Bool.not_eq_true, any_zip]
   constructor
   ·rintro ⟨h1, h2⟩
    refine ⟨h1, fun j hj hl hf hc => ?_⟩
    obtain ⟨i, rfl⟩ : ∃ i, j = i + 1 := ⟨j - 1, by omega⟩
    exact h2 ⟨i, by simpa using hl, hf, hc⟩
   ·rintro ⟨h1, h2⟩
    refine ⟨h1, ?_⟩
    rintro ⟨j, hj, hf, hc⟩
    exact h2 (j + 1) (by omega) (by simpa using hj) hf hc
 | x :: N, k + 1, hk => by
   rw [fAt_succ, fAt_iff S m N k (by simpa using hk)]
   constructor
   ·rintro ⟨h1, h2⟩
    refine ⟨h1, fun j hj hl hf => ?_⟩
    obtain ⟨i, rfl⟩ : ∃ i, j = i + 1 := ⟨j - 1, by omega⟩
    exact h2 i (by omega) (by simpa using hl) hf
   ·rintro ⟨h1, h2⟩
    refine ⟨h1, fun j hj hl hf => h2 (j + 1) (by omega) (by simpa using hl) hf⟩
def zFU (N : List Note) (f : Nat → Bool) (d : Int) : Nat → Option Note
 | 0 => none
 | k + 1 => if f k = true ∧ (N[k]?).map (·.d) = some d then N[k]? else zFU N f d k
def zGX (S : List Int) (m : Int) (N : List Note) (d : Int) : Option Note := zFU N (fAt S m N) d N.length
def zQ (S : List Int) (m : Int) (N : List Note) (d : Int) : Int := (zGX S m N d).elim 1 (·.l)
def zFO (S : List Int) (m : Int) (N : List Note) (d : Int) : Int := (zGX S m N d).elim 0 (·.num)
theorem noteTo_yes {N : List Note} {f : Nat → Bool} {d : Int} {k : Nat} (hk : k < N.length) (h : f k = true) (hd : N[k].d = d) : zFU N f d (k + 1) = some N[k] := by
 simp only [zFU]
 rw [if_pos ⟨h, by rw [List.getElem?_eq_getElem hk]; simp [hd]⟩, List.getElem?_eq_getElem hk]
theorem noteTo_no {N : List Note} {f : Nat → Bool} {d : Int} {k : Nat} (hk : k < N.length) (h : ¬ (f k = true ∧ N[k].d = d)) : zFU N f d (k + 1) = zFU N f d k := by
 simp only [zFU]
 rw [if_neg]
 rintro ⟨h1, h2⟩
 rw [List.getElem?_eq_getElem hk] at h2
 exact h ⟨h1, by simpa using h2⟩
theorem noteTo_mem {N : List Note} {f : Nat → Bool} {d : Int} {k : Nat} {x : Note} (h : zFU N f d k = some x) : x ∈ N ∧ x.d = d := by
 induction k with
 | zero => cases h
 | succ k ih =>
   simp only [zFU] at h
   split at h
   ·rename_i hc
    refine ⟨List.mem_of_getElem? h, ?_⟩
    rw [h] at hc
    simpa using hc.2
   ·exact ih h
end
section
open Go.RowKit
theorem has03 (w : World) (v : Value) (l : List Int) (n : Int) (h : Sl zAJ 1 w v l) :
  Calls Tryz.prog 106 #[v, .int .i64 n] w fun e w' => e = .returned (.bool (decide (n ∈ l))) ∧ w' = w := by
 obtain ⟨a, cap, rfl, hm⟩ := zD h
 go_enter Tryz.func106, Tryz.ntmps106
 go_wp2
 go_loop [5] (fun i => ∃ k : Nat, i = .int .i64 k ∧ k ≤ l.length ∧ ∀ j, j < k → (hj : j < l.length) → l[j] ≠ n) (fun i => l.length - (intOf i).toNat)
 case atStart => exact ⟨0, rfl, by omega, fun j hj => absurd hj (by omega)⟩
 case round =>
  obtain ⟨k, rfl, hk, hall⟩ := hrel
  have HALL := Lib.hid hall
  clear hall
  by_cases hlt : k < l.length
  ·obtain ⟨b, off, rfl, hc, _⟩ := (zZ h).2 k hlt
   unfold zJ at hc
   rw [Nat.mul_one] at hc
   generalize hx : l[k] = x at *
   have HX := Lib.hid hx
   clear hx h
   by_cases he : (x == n) = true
   ·go_wp2
    go_ret
    refine ⟨zCQ ?_, rfl⟩
    have e : x = n := by simpa using he
    rw [← e, ← HX.out]
    simp
   ·have he' : (x == n) = false := by simpa using he
    go_wp2
    go_round
    case rel => exact ⟨k + 1, by go_num, by omega, zAO _ k HALL.out (fun _ => by rw [HX.out]; simpa using he)⟩
    case measure => simp [intOf]; omega
  ·clear h
   go_wp2
   go_ret
   refine ⟨zCQ ?_, rfl⟩
   simp only [Bool.false_eq, decide_eq_false_iff_not]
   intro hn
   obtain ⟨j, hj, hjn⟩ := List.getElem_of_mem hn
   exact HALL.out j (by omega) hj hjn
def zJQ (w : World) (b o : Nat) (x : Bool) : Prop := zJ w b o (.bool x)
theorem zID : zHU zJQ := fun _ _ _ _ _ hb h => zC hb h
def byTo (N : List Note) (f : Nat → Bool) (d : Int) : Nat → Int
 | 0 => -1
 | k + 1 => if f k = true ∧ (N[k]?).map (·.d) = some d then k else byTo N f d k
theorem byTo_bd (N : List Note) (f : Nat → Bool) (d : Int) (k : Nat) : -1 ≤ byTo N f d k ∧ byTo N f d k < k := by
 induction k with
 | zero => simp [byTo]
 | succ k ih =>
   simp only [byTo]
   split <;> omega
theorem byTo_yes {N : List Note} {f : Nat → Bool} {d : Int} {k : Nat} (hk : k < N.length) (h : f k = true) (hd : N[k].d = d) : byTo N f d (k + 1) = k := by
 simp only [byTo]
 rw [if_pos ⟨h, by rw [List.getElem?_eq_getElem hk]; simp [hd]⟩]
theorem byTo_no {N : List Note} {f : Nat → Bool} {d : Int} {k : Nat} (hk : k < N.length) (h : ¬ (f k = true ∧ N[k].d = d)) : byTo N f d (k + 1) = byTo N f d k := by
 simp only [byTo]
 rw [if_neg]
 rintro ⟨h1, h2⟩
 rw [List.getElem?_eq_getElem hk] at h2
 exact h ⟨h1, by simpa using h2⟩
theorem noteTo_by (N : List Note) (f : Nat → Bool) (d : Int) (k : Nat) : zFU N f d k = if byTo N f d k < 0 then none else N[(byTo N f d k).toNat]? := by
 induction k with
 | zero => simp [zFU, byTo]
 | succ k ih =>
   simp only [zFU, byTo]
   split
   ·rw [if_neg (by omega)]; simp
   ·exact ih
theorem by03 (w : World) (vr vn vb : Value) (N : List Note) (B : List Bool) (d : Int) (hn : Sl zBM 10 w vn N) (hB : Sl zJQ 1 w vb B) (hl : B.length = N.length) :
  Calls Tryz.prog 167 #[.agg #[vr, vn], vb, .int .i64 d] w fun e w' => e = .returned (.int .i64 (byTo N (fun k => B.getD k false) d N.length)) ∧ Below w.heap.size w w' := by
 obtain ⟨hb1, B1⟩ := zAZ w #[vr, vn] 27
 have c1 := B1 1 vn rfl
 clear B1
 obtain ⟨an, capn, rfl, hmn⟩ := zD hn
 obtain ⟨ab, capb, rfl, hmb⟩ := zD hB
 have hn1 := zI zS hb1 hn
 have hB1 := zI zID hb1 hB
 have C1 := Lib.hid c1
 clear hn hB c1
 go_enter Tryz.func167, Tryz.ntmps167
 go_wp2
 generalize w.alloc _ = w1 at *
 have HB1 := Lib.hid hb1
 clear hb1
 go_loopw [7, 8] (fun o i wr => ∃ k : Nat, i = .int .i64 k ∧ k ≤ N.length ∧ o = .int .i64 (byTo N (fun k => B.getD k false) d k) ∧ wr = w1) (fun _ i _ => N.length - (intOf i).toNat)
 case atStart => exact ⟨0, rfl, by omega, rfl, rfl⟩
 case round =>
  obtain ⟨k, rfl, hk, rfl, rfl⟩ := hrel
  have hbd := byTo_bd N (fun k => B.getD k false) d k
  by_cases hlt : k < N.length
  ·obtain ⟨b, off, rfl, hc⟩ := (zZ hB1).2 k (by omega)
   obtain ⟨b2, off2, rfl, ⟨⟨_, _, _, q3, _⟩, _⟩⟩ := (zZ hn1).2 k hlt
   have hg : B.getD k false = B[k]'(by omega) := by rw [List.getD_eq_getElem?_getD, List.getElem?_eq_getElem (by omega)]; rfl
   have hyes : Hid (B.getD k false = true → N[k].d = d → byTo N (fun k => B.getD k false) d (k + 1) = k) := fun h1 h2 => byTo_yes hlt h1 h2
   have hno : Hid (¬ (B.getD k false = true ∧ N[k].d = d) → byTo N (fun k => B.getD k false) d (k + 1) = byTo N (fun k => B.getD k false) d k) := fun h => byTo_no hlt h
   rw [hg] at hyes hno
   have c1 := C1.out
   unfold zJQ zJ at hc
   unfold zJ at q3 c1
   rw [Nat.mul_one] at hc
   generalize hx : N[k].d = x at *
   generalize hy : B[k]'(by omega) = y at *
   generalize byTo N (fun k => B.getD k false) d k = z at *
   clear hx hy hg
   have hkl : (k : Int) < B.length := by omega
   cases y
   ·go_wp2
    go_roundw
    case rel => exact ⟨k + 1, by go_num, by omega, by rw [hno.out (by simp)], trivial⟩
    case measure => simp [intOf]; omega
   ·by_cases he : (x == d) = true
    ·go_wp2
     go_roundw
     case rel => exact ⟨k + 1, by go_num, by omega, by rw [hyes.out rfl (by simpa using he)], trivial⟩
     case measure => simp [intOf]; omega
    ·have he' : (x == d) = false := by simpa using he
     go_wp2
     go_roundw
     case rel => exact ⟨k + 1, by go_num, by omega, by rw [hno.out (by simpa using he)], trivial⟩
     case measure => simp [intOf]; omega
  ·go_wp2
   go_ret
   obtain rfl : k = N.length := by omega
   exact ⟨rfl, HB1.out⟩
theorem letter03 (w : World) (vr vn vb : Value) (N : List Note) (B : List Bool) (d : Int) (hn : Sl zBM 10 w vn N) (hB : Sl zJQ 1 w vb B) (hl : B.length = N.length) :
  Calls Tryz.prog 194 #[.agg #[vr, vn], vb, .int .i64 d] w fun e w' => e = .returned (.int .i64 ((zFU N (fun k => B.getD k false) d N.length).elim 1 (·.l))) ∧ Below w.heap.size w w' := by
 obtain ⟨hb1, B1⟩ := zAZ w #[vr, vn] 27
 have c0 := B1 0 vr rfl
 have c1 := B1 1 vn rfl
 clear B1
 obtain ⟨an, capn, rfl, hmn⟩ := zD hn
 obtain ⟨ab, capb, rfl, hmb⟩ := zD hB
 have hn1 := zI zS hb1 hn
 have hB1 := zI zID hb1 hB
 have C1 := Lib.hid c1
 clear hn hB
 have hbd := byTo_bd N (fun k => B.getD k false) d N.length
 generalize hL : (zFU N (fun k => B.getD k false) d N.length).elim 1 (·.l) = L
 rw [noteTo_by] at hL
 have HL := Lib.hid hL
 clear hL
 have HLEN := Lib.hid hl
 clear hl
 unfold zJ at c0 c1
 go_enter Tryz.func194, Tryz.ntmps194
 go_wp2_with fail
 clear c0 c1
 generalize w.alloc _ = w1 at *
 refine (by03 _ _ _ _ N B d hn1 hB1 HLEN.out).mono ?_
 rintro e w2 ⟨rfl, hb2⟩
 have hn2 := zI zS hb2 hn1
 have c1 := zC hb2 C1.out
 unfold zJ at c1
 generalize byTo N (fun k => B.getD k false) d N.length = z at *
 by_cases hz : z < 0
 ·have hz2 : ¬ 0 ≤ z := by omega
  obtain rfl : L = 1 := by have := HL.out; rw [if_pos hz] at this; exact this.symm
  clear HL
  go_wp2
  go_ret
  exact ⟨rfl, zA hb1 hb2⟩
 ·obtain ⟨k, rfl⟩ : ∃ k : Nat, z = k := ⟨z.toNat, by omega⟩
  have hk : k < N.length := by omega
  obtain ⟨b, off, rfl, ⟨⟨_, _, _, _, q4, _⟩, _⟩⟩ := (zZ hn2).2 k hk
  obtain rfl : L = N[k].l := by have := HL.out; rw [if_neg hz, Int.toNat_natCast, List.getElem?_eq_getElem hk] at this; exact this.symm
  clear HL
  unfold zJ at q4
  clear hn1 hn2 hB1
  go_wp2
  go_ret
  exact ⟨rfl, zA hb1 hb2⟩
end
end Go.Proofs.YtpolpdegpbahiaaGreatDoor
namespace Go
structure Later where
 suf : Array Obj
 d : Nat
instance : Inhabited Later := ⟨⟨#[], 0⟩⟩
def World.later (w : World) (x : Later) : World := { w with heap := w.heap ++ x.suf, drawn := x.d }
theorem zE (w : World) (x : Later) : RowKit.Below w.heap.size w (w.later x) :=
 ⟨rfl, rfl, rfl, by simp [World.later], fun k hk => by simp [World.later, Array.getElem?_append_left hk]⟩
theorem zFC {w w' : World} (h : RowKit.Below w.heap.size w w') : ∃ x, w' = w.later x := by
 refine ⟨⟨w'.heap.extract w.heap.size w'.heap.size, w'.drawn⟩, ?_⟩
 have he : w'.heap = w.heap ++ w'.heap.extract w.heap.size w'.heap.size := by
  apply Array.ext_getElem?
  intro i
  by_cases hi : i < w.heap.size
  ·rw [Array.getElem?_append_left hi]
   exact h.block i hi
  ·rw [Array.getElem?_append_right (by omega), Array.getElem?_extract]
   by_cases h2 : i < w'.heap.size
   ·rw [if_pos (by omega), show w.heap.size + (i - w.heap.size) = i by omega]
   ·rw [Array.getElem?_eq_none (by omega)]
    split
    ·omega
    ·rfl
 obtain ⟨a, b, c, d, e⟩ := w'
 have h1 := h.os
 have h2 := h.tape
 have h3 := h.output
 simp only at h1 h2 h3 he
 unfold World.later
 simp only
 congr 1
theorem Calls.quiet_later {P : Program} {f : FuncId} {args : Array Value} {w : World} {x : Later} {v : Value}
  (h : Calls P f args (w.later x) fun e w' => e = .returned v ∧ RowKit.Below (w.later x).heap.size (w.later x) w') : Calls P f args (w.later x) fun e w'' => e = .returned v ∧ ∃ y, w'' = w.later y :=
 h.mono fun _ _ ⟨he, hb⟩ => ⟨he, zFC ((zE w x).trans (hb.mono (zE w x).size))⟩
theorem zAW {P : Program} {id : Nat} {Q : Exit → Act → World → Prop} {a : Act} {w : World} {l : List Oper} (hm : P.follows .mixedOrders = true) (hB : Region.lexB .any l.toArray = true)
  (h : wpQuiet P l.toArray (fun w' => ∃ x, w' = w.later x) (fun a' => ∀ w', (∃ x, w' = w.later x) → Q .normal a' w') l a) : (Code.region id l.toArray true).wp P Q a w :=
 wp_region_quiet (C := fun w' => ∃ x, w' = w.later x) hm hB (zFC (RowKit.Below.drew (RowKit.Below.refl _ _))) (by simpa using h)
end Go
namespace Go.Proofs.YtpolpdegpbahiaaGreatDoor
open Go.RowKit
theorem zAK.yes {P : Program} {f : FuncId} {args : Array Value} {w : World} {p : Prop} (hp : p) (h : Calls P f args w (zAK p w)) : Calls P f args w fun e w' => e = .returned (.bool true) ∧ Below w.heap.size w w' :=
 h.mono fun _ _ ⟨b, he, hi, hb⟩ => ⟨by rw [he, hi.2 hp], hb⟩
theorem zAK.no {P : Program} {f : FuncId} {args : Array Value} {w : World} {p : Prop} (hp : ¬ p) (h : Calls P f args w (zAK p w)) : Calls P f args w fun e w' => e = .returned (.bool false) ∧ Below w.heap.size w w' :=
 h.mono fun _ _ ⟨b, he, hi, hb⟩ => ⟨by rw [he]; cases b; rfl; exact absurd (hi.1 rfl) hp, hb⟩
theorem zG {w : World} {b o : Nat} {v : Value} (h : zJ w b o v) : ∀ x, (w.later x).cell? ⟨b, o, none⟩ = some v := fun x => zC (zE w x) h
end Go.Proofs.YtpolpdegpbahiaaGreatDoor
