/- The program's way to the longest chains finds what the reference's rounds find. -/
import Derived.Shelf.RegionOpen
import Derived.Test.YtpolpdegpbahiaaGreatDoorM02
import Derived.Test.YtpolpdegpbahiaaGreatDoorM13
import Derived.Test.YtpolpdegpbahiaaGreatDoorM14
set_option linter.all false
set_option maxRecDepth 100000
set_option maxHeartbeats 12800000

namespace Go.Proofs.YtpolpdegpbahiaaGreatDoor
open Tryz
section
def zBJ (xs : List Issue) : List Int := xs.flatMap (fun x => x.items.map (·.d))
def zFV (f : Int → Option Int) (l : List Int) : Int := l.foldl (fun m y => max m ((f y).getD 0)) 0
def zDE (L : List Int) (n : Int) (l : List Int) : Bool := decide (n ∈ L) && l.all (fun y => !decide (y ∈ L))
def zER (R : List Issue) (s : List Int × (Int → Option Int)) (n : Int) : List Int × (Int → Option Int) :=
 if zDE s.1 n (zBJ (zAM R n)) = true then (s.1.erase n, fun y => if y = n then some (zFV s.2 (zBJ (zAM R n)) + 1) else s.2 y) else s
def stD (R : List Issue) (D : List Int) : Nat → List Int × (Int → Option Int)
 | 0 => (D, fun _ => none)
 | r + 1 => D.foldl (zER R) (stD R D r)
theorem mostOf_snoc (f : Int → Option Int) (l : List Int) (y : Int) : zFV f (l ++ [y]) = max (zFV f l) ((f y).getD 0) := by simp [zFV, List.foldl_append]
theorem readyOf_snoc (L : List Int) (n : Int) (l : List Int) (y : Int) : zDE L n (l ++ [y]) = (zDE L n l && !decide (y ∈ L)) := by
 unfold zDE
 rw [List.all_append]
 simp [Bool.and_assoc]
theorem mostOf_bd (f : Int → Option Int) (B : Int) (hB : 0 ≤ B) (hf : ∀ y c, f y = some c → 0 ≤ c ∧ c ≤ B) (l : List Int) : 0 ≤ zFV f l ∧ zFV f l ≤ B := by
 unfold zFV
 have key : ∀ (l : List Int) (a : Int), 0 ≤ a → a ≤ B → 0 ≤ l.foldl (fun m y => max m ((f y).getD 0)) a ∧ l.foldl (fun m y => max m ((f y).getD 0)) a ≤ B := by
  intro l
  induction l with
  | nil => intro a h0 h1; exact ⟨h0, h1⟩
  | cons y l ih =>
    intro a h0 h1
    rw [List.foldl_cons]
    have : 0 ≤ (f y).getD 0 ∧ (f y).getD 0 ≤ B := by
     cases h : f y with
     | none => simp; omega
     | some c => simpa using hf y c h
    exact ih _ (by omega) (by omega)
 exact key l 0 (Int.le_refl _) hB
structure Sane (D : List Int) (s : List Int × (Int → Option Int)) : Prop where
 nodup : s.1.Nodup
 sub : ∀ y ∈ s.1, y ∈ D
 len : s.1.length ≤ D.length
 bd : ∀ y c, s.2 y = some c → 1 ≤ c ∧ c ≤ (D.length : Int) - s.1.length
theorem sane_start (D : List Int) (hD : D.Nodup) : Sane D (D, fun _ => none) := ⟨hD, fun _ h => h, Nat.le_refl _, fun _ _ h => by cases h⟩
theorem sane_step (R : List Issue) (D : List Int) (s : List Int × (Int → Option Int)) (n : Int) (h : Sane D s) : Sane D (zER R s n) := by
 unfold zER
 split
 case isFalse => exact h
 case isTrue hr =>
  have hn : n ∈ s.1 := by unfold zDE at hr; rw [Bool.and_eq_true] at hr; exact of_decide_eq_true hr.1
  have hl := List.length_erase_of_mem hn
  have hpos : 0 < s.1.length := List.length_pos_of_mem hn
  have := h.len
  refine ⟨h.nodup.erase _, fun y hy => h.sub y (List.mem_of_mem_erase hy), (show (s.1.erase n).length ≤ D.length by omega), fun y c hy => ?_⟩
  simp only at hy ⊢
  split at hy
  ·cases hy
   have := mostOf_bd s.2 ((D.length : Int) - s.1.length) (by omega) (fun y c hc => by have := h.bd y c hc; omega) (zBJ (zAM R n))
   omega
  ·have := h.bd y c hy
   omega
theorem sane_fold (R : List Issue) (D l : List Int) (s : List Int × (Int → Option Int)) (h : Sane D s) : Sane D (l.foldl (zER R) s) := by
 induction l generalizing s with
 | nil => exact h
 | cons n l ih => exact ih _ (sane_step R D s n h)
theorem sane_st (R : List Issue) (D : List Int) (hD : D.Nodup) (r : Nat) : Sane D (stD R D r) := by
 induction r with
 | zero => exact sane_start D hD
 | succ r ih => exact sane_fold R D D _ ih
def stI (R : List Issue) (D : List Int) (r i : Nat) : List Int × (Int → Option Int) := (D.take i).foldl (zER R) (stD R D r)
theorem stI_all (R : List Issue) (D : List Int) (r i : Nat) (h : D.length ≤ i) : stI R D r i = stD R D (r + 1) := by unfold stI; rw [List.take_of_length_le h]; rfl
theorem stI_succ (R : List Issue) (D : List Int) (r i : Nat) (h : i < D.length) : stI R D r (i + 1) = zER R (stI R D r i) D[i] := by
 unfold stI
 rw [List.take_succ_eq_append_getElem h, List.foldl_append]
 rfl
theorem sane_stI (R : List Issue) (D : List Int) (hD : D.Nodup) (r i : Nat) : Sane D (stI R D r i) := sane_fold R D _ _ (sane_st R D hD r)
end
section
open Go.RowKit Go.Shelf
attribute [local go_sem] zAN Oper.grows Oper.growUpon Oper.semAt_some
structure St (w0 wr : World) (k : Nat) (s : List Int × (Int → Option Int)) : Prop where
 below : Below w0.heap.size w0 wr
 dbox : Boxed wr (w0.heap.size + 1) 246 (.map (some w0.heap.size))
 lbox : Boxed wr (w0.heap.size + 1 + 1 + 1) 275 (.map (some (w0.heap.size + 1 + 1)))
 dm : ∃ m, m ≤ k ∧ MapI wr w0.heap.size m s.2
 lm : ∃ m, m ≤ k ∧ MapB wr (w0.heap.size + 1 + 1) m s.1
theorem Boxed.same2 {W W' : World} {B : Nat} {t : TypeId} {v : Value} (h : Boxed W B t v) (e : W'.heap[B]? = W.heap[B]?) : Boxed W' B t v := e.trans h
theorem St.same {w0 wr wr' : World} {k : Nat} {s : List Int × (Int → Option Int)} (h : St w0 wr k s) (hb : Below w0.heap.size w0 wr') (e : ∀ b, b < w0.heap.size + 4 → wr'.heap[b]? = wr.heap[b]?) : St w0 wr' k s := by
 obtain ⟨h1, h2, h3, ⟨m, hm, h4⟩, ⟨m', hm', h5⟩⟩ := h
 exact ⟨hb, Boxed.same2 h2 (e _ (by omega)), Boxed.same2 h3 (e _ (by omega)), ⟨m, hm, h4.same (e _ (by omega))⟩, ⟨m', hm', h5.same (e _ (by omega))⟩⟩
theorem MapI.alloc {w : World} {b n : Nat} {f : Int → Option Int} (h : MapI w b n f) (o : Obj) : MapI (w.alloc o) b n f := h.same (Below.block (zB w o) b h.lt)
theorem MapB.alloc {w : World} {b n : Nat} {f : List Int} (h : MapB w b n f) (o : Obj) : MapB (w.alloc o) b n f := h.same (Below.block (zB w o) b h.lt)
theorem St.lt {w0 wr : World} {k : Nat} {s : List Int × (Int → Option Int)} (h : St w0 wr k s) : w0.heap.size + 4 ≤ wr.heap.size := by have := h.lbox.lt; omega
theorem St.ext {w0 wr wr' : World} {k : Nat} {s : List Int × (Int → Option Int)} (h : St w0 wr k s) (hb : Below wr.heap.size wr wr') : St w0 wr' k s :=
 h.same (zA h.below hb) (fun b hlt => hb.block b (by have := h.lt; omega))
theorem St.kept {w0 wr wr' : World} {k : Nat} {s : List Int × (Int → Option Int)} {row : Option Nat} (h : St w0 wr k s) (hg : wr.grownBy wr' row) (hr : ∀ r, row = some r → w0.heap.size + 4 ≤ r) : St w0 wr' k s :=
 h.same (h.below.grown hg h.below.size (fun r e => by have := hr r e; omega)) (fun b hlt => hg.block b (by have := h.lt; omega) (fun e => by have := hr b e.symm; omega))
theorem St.set {w0 wr : World} {k : Nat} {s : List Int × (Int → Option Int)} (h : St w0 wr k s) {g j : Nat} (hg : w0.heap.size + 4 ≤ g) (v : Value) : St w0 (wr.setCell ⟨g, j, none⟩ v) k s :=
 h.same (h.below.setCell (p := ⟨g, j, none⟩) (by show w0.heap.size ≤ g; omega) v) (fun b hlt => Below.heap_setCell wr ⟨g, j, none⟩ v b (by show b ≠ g; omega))
def marks (ds : List Nat) : List Deferred := ds.map (fun d => { target := .collected d, args := #[] })
def zBW (n : Nat) (w : World) (ds : List Nat) : Prop := ds.Nodup ∧ ∀ d ∈ ds, n ≤ d ∧ w.heap[d]? = some (.deferred (some []))
theorem zBW.ext {n : Nat} {w w' : World} {ds : List Nat} (h : zBW n w ds) (hb : Below w.heap.size w w') : zBW n w' ds :=
 ⟨h.1, fun d hd => ⟨(h.2 d hd).1, (hb.block d (Array.getElem?_eq_some_iff.1 (h.2 d hd).2).1).trans (h.2 d hd).2⟩⟩
theorem zBW.keeps {n : Nat} {w w' : World} {ds : List Nat} (h : zBW n w ds) (hk : KeepsFrom n w w') : zBW n w' ds :=
 ⟨h.1, fun d hd => ⟨(h.2 d hd).1, hk.same d _ (h.2 d hd).1 (h.2 d hd).2 rfl⟩⟩
theorem zBW.cons {n : Nat} {w : World} {ds : List Nat} {d : Nat} (h : zBW n w ds) (hn : n ≤ d) (hd : w.heap[d]? = some (.deferred (some []))) (hf : d ∉ ds) : zBW n w (d :: ds) :=
 ⟨List.nodup_cons.2 ⟨hf, h.1⟩, fun e he => by
  rcases List.mem_cons.1 he with rfl | h'
  ·exact ⟨hn, hd⟩
  ·exact h.2 e h'⟩
theorem zBW.kept {n : Nat} {w w' : World} {ds : List Nat} {row : Option Nat} (h : zBW n w ds) (hg : w.grownBy w' row) (hr : ∀ d ∈ ds, some d ≠ row) : zBW n w' ds :=
 ⟨h.1, fun d hd => ⟨(h.2 d hd).1, (hg.block d (Array.getElem?_eq_some_iff.1 (h.2 d hd).2).1 (hr d hd)).trans (h.2 d hd).2⟩⟩
theorem Boxed.keptN {W W' : World} {row : Option Nat} {B : Nat} {v : Value} {t : TypeId} (h : Boxed W B t v) (hg : W.grownBy W' row) (hr : ∀ r, row = some r → ∃ o : Obj, W.heap[r]? = some o ∧ o.isCells = false) : Boxed W' B t v :=
 Lay.keptN h hg hr
theorem zBW.lt {n : Nat} {w : World} {ds : List Nat} (h : zBW n w ds) {d : Nat} (hd : d ∈ ds) : d < w.heap.size := (Array.getElem?_eq_some_iff.1 (h.2 d hd).2).1
theorem leaves_marks {F : Fence} {n : Nat} {P : Program} {fn : Func} {tmps : Array Value} {R : Ending → World → Prop} {v : Value} (b : Nat) (Z : World → Prop) (hZ : ∀ (W : World) (d : Nat), b ≤ d → W.heap[d]? = some (.deferred (some [])) → Z W → Z (W.putObj d (.deferred none)))
  (hR : ∀ W, Z W → (results fn tmps).run P W = .ok v W ∧ R (.returned v) W) (ds : List Nat) (w : World) (hm : zBW b w ds) (hz : Z w) : LeavesInM F n P fn tmps R (marks ds) .returning w := by
 induction ds generalizing w with
 | nil =>
   obtain ⟨h1, h2⟩ := hR w hz
   exact ⟨_, h1, h2⟩
 | cons d ds ih =>
   obtain ⟨hd, hk⟩ := hm.2 d (by simp)
   have hn := (List.nodup_cons.1 hm.1)
   refine ⟨by simp, .inl ⟨d, _, rfl, run_takeDeferred hk, ih _ ⟨hn.2, fun e he => ?_⟩ (hZ w d hd hk hz)⟩⟩
   have := hm.2 e (by simp [he])
   exact ⟨this.1, (World.putObj_heap_other (fun h => hn.1 (by first | (rw [h]; exact he) | (rw [← h]; exact he)))).trans this.2⟩
def nth : List Value → Nat → Value
 | [], _ => undef
 | x :: _, 0 => x
 | _ :: l, k + 1 => nth l k
def Out (w0 : World) (pb : Nat) (R : List Issue) (D : List Int) (a : Act) (wr : World) : Prop :=
 ∃ (u : Nat → Value) (ds : List Nat) (r : Nat), a = { tmps := #[.pointer (some ⟨pb, 0, none⟩), (u 1), (u 2), (u 3), .pointer (some ⟨w0.heap.size + 1, 0, none⟩), .pointer (some ⟨w0.heap.size + 1 + 1 + 1, 0, none⟩), (u 6), (u 7), (u 8), (u 9), (u 10), (u 11), (u 12), (u 13), (u 14), (u 15), (u 16), (u 17), (u 18), (u 19), (u 20), (u 21), (u 22), (u 23), (u 24), (u 25), (u 26), (u 27), (u 28), (u 29), (u 30), (u 31), (u 32), .int .i64 D.length, .int .i64 r, (u 35), (u 36), (u 37), (u 38), (u 39), (u 40), (u 41), (u 42), (u 43), (u 44), (u 45), (u 46), (u 47), (u 48), (u 49), (u 50), (u 51), (u 52), (u 53), (u 54), (u 55), (u 56), (u 57), (u 58), (u 59), (u 60), (u 61), (u 62), (u 63), (u 64), (u 65), (u 66), (u 67), (u 68), (u 69), (u 70), (u 71), (u 72), (u 73), (u 74), (u 75), (u 76), (u 77), (u 78), (u 79), (u 80), (u 81), (u 82), (u 83), (u 84), (u 85), (u 86)], defers := marks ds } ∧
  r ≤ D.length ∧ St w0 wr (D.length + r * D.length) (stD R D r) ∧ zBW (w0.heap.size + 4) wr ds
theorem Out.of {w0 : World} {pb : Nat} {R : List Issue} {D : List Int} {wr : World} (l : List Value) (ds : List Nat) (r : Nat) (hl : l.toArray = #[.pointer (some ⟨pb, 0, none⟩), ((nth l) 1), ((nth l) 2), ((nth l) 3), .pointer (some ⟨w0.heap.size + 1, 0, none⟩), .pointer (some ⟨w0.heap.size + 1 + 1 + 1, 0, none⟩), ((nth l) 6), ((nth l) 7), ((nth l) 8), ((nth l) 9), ((nth l) 10), ((nth l) 11), ((nth l) 12), ((nth l) 13), ((nth l) 14), ((nth l) 15), ((nth l) 16), ((nth l) 17), ((nth l) 18), ((nth l) 19), ((nth l) 20), ((nth l) 21), ((nth l) 22), ((nth l) 23), ((nth l) 24), ((nth l) 25), ((nth l) 26), ((nth l) 27), ((nth l) 28), ((nth l) 29), ((nth l) 30), ((nth l) 31), ((nth l) 32), .int .i64 D.length, .int .i64 r, ((nth l) 35), ((nth l) 36), ((nth l) 37), ((nth l) 38), ((nth l) 39), ((nth l) 40), ((nth l) 41), ((nth l) 42), ((nth l) 43), ((nth l) 44), ((nth l) 45), ((nth l) 46), ((nth l) 47), ((nth l) 48), ((nth l) 49), ((nth l) 50), ((nth l) 51), ((nth l) 52), ((nth l) 53), ((nth l) 54), ((nth l) 55), ((nth l) 56), ((nth l) 57), ((nth l) 58), ((nth l) 59), ((nth l) 60), ((nth l) 61), ((nth l) 62), ((nth l) 63), ((nth l) 64), ((nth l) 65), ((nth l) 66), ((nth l) 67), ((nth l) 68), ((nth l) 69), ((nth l) 70), ((nth l) 71), ((nth l) 72), ((nth l) 73), ((nth l) 74), ((nth l) 75), ((nth l) 76), ((nth l) 77), ((nth l) 78), ((nth l) 79), ((nth l) 80), ((nth l) 81), ((nth l) 82), ((nth l) 83), ((nth l) 84), ((nth l) 85), ((nth l) 86)])
  (h1 : r ≤ D.length) (h2 : St w0 wr (D.length + r * D.length) (stD R D r)) (h3 : zBW (w0.heap.size + 4) wr ds) : Out w0 pb R D { tmps := l.toArray, defers := marks ds } wr :=
 ⟨nth l, ds, r, by rw [← hl], h1, h2, h3⟩
def Inn (w0 : World) (pb : Nat) (R : List Issue) (D : List Int) (ad : Option Addr) (cd r : Nat) (a : Act) (wr : World) : Prop :=
 ∃ (u : Nat → Value) (ds : List Nat) (i : Nat), a = { tmps := #[.pointer (some ⟨pb, 0, none⟩), (u 1), (u 2), (u 3), .pointer (some ⟨w0.heap.size + 1, 0, none⟩), .pointer (some ⟨w0.heap.size + 1 + 1 + 1, 0, none⟩), (u 6), (u 7), (u 8), (u 9), (u 10), (u 11), (u 12), (u 13), (u 14), (u 15), (u 16), (u 17), (u 18), (u 19), (u 20), (u 21), (u 22), (u 23), (u 24), (u 25), (u 26), (u 27), (u 28), (u 29), (u 30), (u 31), (u 32), .int .i64 D.length, .int .i64 r, (u 35), (u 36), (u 37), (u 38), .slice ad D.length cd, .int .i64 D.length, .int .i64 i, (u 42), (u 43), (u 44), (u 45), (u 46), (u 47), (u 48), (u 49), (u 50), (u 51), (u 52), (u 53), (u 54), (u 55), (u 56), (u 57), (u 58), (u 59), (u 60), (u 61), (u 62), (u 63), (u 64), (u 65), (u 66), (u 67), (u 68), (u 69), (u 70), (u 71), (u 72), (u 73), (u 74), (u 75), (u 76), (u 77), (u 78), (u 79), (u 80), (u 81), (u 82), (u 83), (u 84), (u 85), (u 86)], defers := marks ds } ∧
  i ≤ D.length ∧ St w0 wr (D.length + r * D.length + i) (stI R D r i) ∧ zBW (w0.heap.size + 4) wr ds
theorem Inn.of {w0 : World} {pb : Nat} {R : List Issue} {D : List Int} {ad : Option Addr} {cd r : Nat} {wr : World} (l : List Value) (ds : List Nat) (i : Nat) (hl : l.toArray = #[.pointer (some ⟨pb, 0, none⟩), ((nth l) 1), ((nth l) 2), ((nth l) 3), .pointer (some ⟨w0.heap.size + 1, 0, none⟩), .pointer (some ⟨w0.heap.size + 1 + 1 + 1, 0, none⟩), ((nth l) 6), ((nth l) 7), ((nth l) 8), ((nth l) 9), ((nth l) 10), ((nth l) 11), ((nth l) 12), ((nth l) 13), ((nth l) 14), ((nth l) 15), ((nth l) 16), ((nth l) 17), ((nth l) 18), ((nth l) 19), ((nth l) 20), ((nth l) 21), ((nth l) 22), ((nth l) 23), ((nth l) 24), ((nth l) 25), ((nth l) 26), ((nth l) 27), ((nth l) 28), ((nth l) 29), ((nth l) 30), ((nth l) 31), ((nth l) 32), .int .i64 D.length, .int .i64 r, ((nth l) 35), ((nth l) 36), ((nth l) 37), ((nth l) 38), .slice ad D.length cd, .int .i64 D.length, .int .i64 i, ((nth l) 42), ((nth l) 43), ((nth l) 44), ((nth l) 45), ((nth l) 46), ((nth l) 47), ((nth l) 48), ((nth l) 49), ((nth l) 50), ((nth l) 51), ((nth l) 52), ((nth l) 53), ((nth l) 54), ((nth l) 55), ((nth l) 56), ((nth l) 57), ((nth l) 58), ((nth l) 59), ((nth l) 60), ((nth l) 61), ((nth l) 62), ((nth l) 63), ((nth l) 64), ((nth l) 65), ((nth l) 66), ((nth l) 67), ((nth l) 68), ((nth l) 69), ((nth l) 70), ((nth l) 71), ((nth l) 72), ((nth l) 73), ((nth l) 74), ((nth l) 75), ((nth l) 76), ((nth l) 77), ((nth l) 78), ((nth l) 79), ((nth l) 80), ((nth l) 81), ((nth l) 82), ((nth l) 83), ((nth l) 84), ((nth l) 85), ((nth l) 86)])
  (h1 : i ≤ D.length) (h2 : St w0 wr (D.length + r * D.length + i) (stI R D r i)) (h3 : zBW (w0.heap.size + 4) wr ds) : Inn w0 pb R D ad cd r { tmps := l.toArray, defers := marks ds } wr :=
 ⟨nth l, ds, i, by rw [← hl], h1, h2, h3⟩
def NewBox (base : Nat) (t : TypeId) (v0 : Value) (v : Value) (w : World) : Prop := ∃ b, v = .pointer (some ⟨b, 0, none⟩) ∧ base ≤ b ∧ Boxed w b t v0
theorem zON (base : Nat) (t : TypeId) (v0 : Value) : zCX (NewBox base t v0) := fun _ _ _ hb ⟨b, h1, h2, h3⟩ => ⟨b, h1, h2, Boxed.same2 h3 (hb.block b h3.lt)⟩
theorem set_self {w : World} {b : Nat} {t : TypeId} {v : Value} (h : Boxed w b t v) : w.setCell ⟨b, 0, none⟩ v = w := by
 obtain ⟨hlt, hk⟩ := Array.getElem?_eq_some_iff.1 (show w.heap[b]? = _ from h)
 have e : (w.setCell ⟨b, 0, none⟩ v).heap = w.heap := by
  apply Array.ext_getElem?
  intro j
  by_cases hj : j = b
  ·subst hj
   exact (h.set v).trans (show w.heap[j]? = _ from h).symm
  ·exact Below.heap_setCell w ⟨b, 0, none⟩ v j hj
 have e2 : w.setCell ⟨b, 0, none⟩ v = { w with heap := (w.setCell ⟨b, 0, none⟩ v).heap } := rfl
 rw [e2, e]
theorem max_if (a b : Int) : max a b = if a < b then b else a := by split <;> omega
theorem round_two {w W wr : World} {K B10 B11 b3 b6 : Nat} {s : List Int × (Int → Option Int)} {t t' : TypeId} {u u' v m : Value} {ds : List Nat} {o : Obj} (h : St w wr K s ∧ zBW (w.heap.size + 4) wr ds ∧ KeepsFrom b6 W wr ∧ KpB w.heap.size b3 W wr) (h10 : Boxed wr B10 t u) (h11 : Boxed wr B11 t' u')
  (hl10 : w.heap.size + 4 ≤ B10) (hl11 : w.heap.size + 4 ≤ B11) (hne : B10 ≠ B11) (h30 : b3 ≠ B10) (h31 : b3 ≠ B11) (W' : World) (e : W' = ((wr.setCell ⟨B11, 0, none⟩ v).setCell ⟨B10, 0, none⟩ m).alloc o) :
  Boxed W' B10 t m ∧ Boxed W' B11 t' v ∧ St w W' K s ∧ zBW (w.heap.size + 4) W' ds ∧ KeepsFrom b6 W W' ∧ KpB w.heap.size b3 W W' := by
 subst e
 obtain ⟨h1, h2, h3, h4⟩ := h
 have ks : KeepsOthers wr (((wr.setCell ⟨B11, 0, none⟩ v).setCell ⟨B10, 0, none⟩ m).alloc o) := ((KeepsOthers.setCell _ _ _).trans (KeepsOthers.setCell _ _ _)).trans (KeepsOthers.alloc _ _)
 have hs2 := (h1.set (j := 0) hl11 v).set (j := 0) hl10 m
 refine ⟨((h10.other hne v).set m).alloc o, ((h11.set v).other hne.symm m).alloc o, hs2.ext (zB _ _), h2.keeps (ks.from _), h3.trans (ks.from _), kpB_t (kpB_t (kpB_t h4 (kpB_set (by omega) h31 v)) (kpB_set (by omega) h30 m)) (kpB_alloc hs2.below.size o)⟩
theorem depths_iss (w : World) (pb : Nat) (vr vd : Value) (R : List Issue) (D : List Int) (hB : BookAt w pb vr vd R D) (hs : zKX R) (hlen : R.length ≤ 100) (hne : R ≠ []) (hD : D.Nodup) (hDl : D.length ≤ 20) :
  Calls prog 159 #[.pointer (some ⟨pb, 0, none⟩)] w fun e w' =>
   (∃ b m, e = .returned (.tuple #[.map (some b), .bool (decide (0 < (stD R D D.length).1.length))]) ∧ m ≤ 1000 ∧ MapI w' b m (stD R D D.length).2) ∧ Below w.heap.size w w' := by
 have hmm := @run_makeMap prog
 have hc1 := hB.c1
 have hdr := hB.dr
 obtain ⟨ad, cd, rfl, _⟩ := zD hdr
 unfold zJ at hc1
 refine (callsIn_wide (n := 3)).1 ?_
 refine callsIn_of_wp_marks func159 rfl trivial ?_ rfl
 simp only [ntmps159, List.size_toArray, List.length_cons, List.length_nil, Nat.reduceAdd, Nat.reduceSub, Array.replicate_succ, Array.replicate_zero, List.push_toArray, List.append_toArray, List.nil_append, List.cons_append]
 have hpl := zAF hB.c1
 have HB := zF hB
 have HDR := zF (zZ hdr).2
 have HND := zF hD
 have hsub := hdr
 clear hdr hB hD
 have m1 := mapI_made w
 have m2 := mapB_made ((w.alloc (.map #[] 0)).alloc (.cells #[.map (some w.heap.size)] 246))
 have b1 := ((Boxed.new (w.alloc (.map #[] 0)) 246 (.map (some w.heap.size))).alloc (.map #[] 0)).alloc (.cells #[.map (some (w.heap.size + 1 + 1))] 275)
 have b2 := Boxed.new (((w.alloc (.map #[] 0)).alloc (.cells #[.map (some w.heap.size)] 246)).alloc (.map #[] 0)) 275 (.map (some (w.heap.size + 1 + 1)))
 have hb := (((Below.refl w.heap.size w).alloc (Nat.le_refl _) (.map #[] 0)).alloc (by simp) (.cells #[.map (some w.heap.size)] 246)).alloc (by simp; omega) (.map #[] 0) |>.alloc (by simp; omega) (.cells #[.map (some (w.heap.size + 1 + 1))] 275)
 simp only [World.size_alloc] at m2 b1 b2
 have m1 := ((MapI.alloc m1 (.cells #[.map (some w.heap.size)] 246)).alloc (.map #[] 0)).alloc (.cells #[.map (some (w.heap.size + 1 + 1))] 275)
 have m2 := MapB.alloc m2 (.cells #[.map (some (w.heap.size + 1 + 1))] 275)
 have hc4 := zC hb HB.out.c1
 unfold zJ at hc4
 gi_wp2
 clear hc4
 gi_loopw [22] (fun i wr => ∃ k : Nat, i = .int .i64 k ∧ k ≤ D.length ∧ St w wr k (D.take k, fun _ => none)) (fun i _ => D.length - (intOf i).toNat)
 case atStart => exact ⟨0, rfl, Nat.zero_le _, hb, b1, b2, ⟨0, Nat.le_refl _, m1⟩, ⟨0, Nat.le_refl _, m2⟩⟩
 case round =>
  obtain ⟨k, rfl, hk, hst⟩ := hrel
  clear m1 m2 b1 b2 hb hc1
  have hpc := zC hst.below HB.out.c1
  have cl := hst.lbox.cell
  by_cases hlt : k < D.length
  ·obtain ⟨b, off, rfl, hc, hx⟩ := HDR.out k hlt
   have hc := zC hst.below hc
   have hnot : D[k] ∉ D.take k := by
    intro h
    obtain ⟨j, hj, e⟩ := List.getElem_of_mem h
    rw [List.length_take] at hj
    rw [List.getElem_take] at e
    have := (List.getElem_inj HND.out).1 e
    omega
   have htk : D.take (k + 1) = D.take k ++ [D[k]] := List.take_succ_eq_append_getElem hlt
   obtain ⟨m, hm, hM⟩ := hst.lm
   obtain ⟨w', hr, hM', hg⟩ := mapB_put hM hx hnot (by have : (20 : Nat) < maxLen := (by decide); omega)
   rw [← htk] at hM'
   have hst' : St w w' (k + 1) (D.take (k + 1), fun _ => none) := by
    obtain ⟨h1, h2, h3, ⟨q, hq, h4⟩, -⟩ := hst
    refine ⟨h1.grown hg h1.size (fun r e => by cases e; omega), Boxed.same2 h2 (hg.block _ h2.lt (by simp)), Boxed.same2 h3 (hg.block _ h3.lt (by simp)), ⟨q, by omega, h4.same (hg.block _ h4.lt (by simp; omega))⟩, ⟨m + 1, by omega, hM'⟩⟩
   have HST := zF hst'
   clear hst' hM' hM hg htk hnot
   unfold zJ at hc hpc
   rw [Nat.mul_one] at hc
   generalize D[k] = x at *
   gi_wp2
   go_roundw
   ·exact ⟨k + 1, by go_num, by omega, HST.out⟩
   ·simp [intOf]; omega
  ·have hk' : k = D.length := by omega
   subst hk'
   rw [List.take_length] at hst
   have HST : Hid (St w wr D.length (stD R D 0)) := hst
   unfold zJ at hpc
   gi_wp2
   clear hpc cl hst
   refine wpIn_loop (Out w pb R D) (fun a _ => D.length - (intOf (a.tmps.getD 34 undef)).toNat) (Out.of _ [] 0 rfl (Nat.zero_le _) (by simpa using HST.out) ⟨List.nodup_nil, fun _ h => by cases h⟩) ?_
   rintro a wr2 ⟨u, ds, r, rfl, hr, hst, hmk⟩
   have hpc := zC hst.below HB.out.c1
   unfold zJ at hpc
   by_cases hlt2 : r < D.length
   ·gi_wp2
    clear hpc
    refine wpIn_loop (Inn w pb R D ad cd r) (fun a _ => D.length - (intOf (a.tmps.getD 41 undef)).toNat) (Inn.of _ ds 0 rfl (Nat.zero_le _) hst hmk) ?_
    clear hst hmk HST
    rintro a wr3 ⟨u, ds, i, rfl, hi, hst, hmk⟩
    have hpc := zC hst.below HB.out.c1
    have cl := hst.lbox.cell
    unfold zJ at hpc
    by_cases hlt3 : i < D.length
    ·obtain ⟨b, off, rfl, hc, hx⟩ := HDR.out i hlt3
     have hc := zC hst.below hc
     obtain ⟨hsi⟩ : Nonempty (stI R D r (i + 1) = zER R (stI R D r i) D[i]) := ⟨stI_succ R D r i hlt3⟩
     have hsane := sane_stI R D HND.out r i
     unfold zJ at hc
     rw [Nat.mul_one] at hc
     generalize hn : D[i] = n at *
     generalize hsn : stI R D r i = s at *
     have LL : ∀ xq, (Instr.lookup 275 (.map (some (w.heap.size + 1 + 1))) (.int .i64 n) false).run prog (wr3.later xq) = .ok (.bool (decide (n ∈ s.1))) (wr3.later xq) := fun xq => by
      obtain ⟨m, _, hM⟩ := hst.lm
      exact mapB_look (hM.same ((zE wr3 xq).block _ hM.lt)) hx
     have k0 := fun xq => (hst.ext (zE wr3 xq)).lbox.cell
     gi_wp2
     refine wpIn_wide.2 ?_
     refine zK 6 (by kernel_rfl) (by kernel_rfl) ?_
     simp only [tk_]
     iterate 3 (apply gx_; focus (intro vs xq hd; (try simp [hq_] at hd); simp only [pf_]; go_simp; first | exact ⟨br_, rfl⟩ | exact rfl))
     refine zL (NewBox wr3.heap.size 3 (.int .i64 0)) (zON _ _ _) ?_ ?_
     ·intro vs xq hd
      (try simp [hq_] at hd)
      simp only [pf_]
      go_simp
      exact ⟨zB _ _, _, rfl, (zE wr3 xq).size, Boxed.new _ _ _⟩
     refine zL (NewBox wr3.heap.size 4 (.bool false)) (zON _ _ _) ?_ ?_
     ·intro vs xq hd
      (try simp [hq_] at hd)
      simp only [pf_]
      go_simp
      exact ⟨zB _ _, _, rfl, (zE wr3 xq).size, Boxed.new _ _ _⟩
     refine zL (fun _ _ => True) (fun _ _ _ _ h => h) ?_ ?_
     ·intro vs xq hd
      (try simp [hq_] at hd)
      simp only [pf_]
      obtain ⟨⟨b3, e, hb3, hx3⟩, -⟩ := hd
      have c3 := hx3.cell
      have f3 := hx3.frozen
      have e3 := set_self hx3
      simp only [e]
      go_simp
      exact br_
     refine zT rfl (fun vs xq hd => ?_)
     simp [zV, zAD, List.range, List.range.loop] at hd
     simp only [pf_]
     obtain ⟨e0, e1, e2, ⟨B10, e3, hb10, x10⟩, ⟨B11, e4, hb11, x11⟩⟩ := hd
     simp only [Nat.zero_add, Nat.reduceAdd] at e3 e4 ⊢
     simp only [e0, e1, e2, e3, e4]
     have c11 := x11.cell
     have f11 := x11.frozen
     have hne : B10 ≠ B11 := by
      intro e
      subst e
      have h1 : (wr3.later xq).heap[B10]? = _ := x10
      rw [show (wr3.later xq).heap[B10]? = _ from x11] at h1
      cases h1
     have hst5 := (hst.ext (zE wr3 xq)).set (g := B11) (j := 0) (by have := hst.lt; omega) (.bool (decide (n ∈ s.1)))
     have hmk5 := (hmk.ext (zE wr3 xq)).keeps ((KeepsOthers.setCell (wr3.later xq) ⟨B11, 0, none⟩ (.bool (decide (n ∈ s.1)))).from _)
     have x10 := x10.other (by first | exact hne | exact hne.symm) (.bool (decide (n ∈ s.1)))
     have x11 := x11.set (.bool (decide (n ∈ s.1)))
     go_wp2
     clear c11 f11 cl k0 LL hpc hc
     have hB5 : B10 < ((wr3.later xq).setCell ⟨B11, 0, none⟩ (.bool (decide (n ∈ s.1)))).heap.size ∧ B11 < ((wr3.later xq).setCell ⟨B11, 0, none⟩ (.bool (decide (n ∈ s.1)))).heap.size := ⟨x10.lt, x11.lt⟩
     have hlo : w.heap.size + 4 ≤ B10 ∧ w.heap.size + 4 ≤ B11 := by have := hst.lt; omega
     generalize (wr3.later xq).setCell ⟨B11, 0, none⟩ (.bool (decide (n ∈ s.1))) = W5 at *
     clear hst hmk hb10 hb11 e0 e1 e2 e3 e4
     gi_wp2_with (refine ⟨trivial, ?_⟩; gi_at_call 149; refine (callsIn_wide.2 (zNO _ _ _)).mono ?_; rintro e w' ⟨rfl, rfl⟩)
     have h2 := two_a W5 (.pointer (some ⟨pb, 0, none⟩)) (.int .i64 n) 187 3 W5.heap.size rfl
     have h3 := two_b W5 (.pointer (some ⟨pb, 0, none⟩)) (.int .i64 n) 187 3 (W5.heap.size + 1) rfl
     have hb6 : Below W5.heap.size W5 ((W5.alloc (.cells #[.pointer (some ⟨pb, 0, none⟩)] 187)).alloc (.cells #[.int .i64 n] 3)) := zA (zB _ _) (zB _ _)
     have hsz6 : ((W5.alloc (.cells #[.pointer (some ⟨pb, 0, none⟩)] 187)).alloc (.cells #[.int .i64 n] 3)).heap.size = W5.heap.size + 2 := by simp
     have hst6 := hst5.ext hb6
     have hmk6 := hmk5.ext hb6
     have hml : ∀ d ∈ ds, d < W5.heap.size := fun d hd => hmk5.lt hd
     have x10 := Boxed.same2 x10 (hb6.block _ x10.lt)
     have x11 := Boxed.same2 x11 (hb6.block _ x11.lt)
     generalize (W5.alloc _).alloc _ = W6 at *
     have hl5 := hst5.lt
     clear hst5 hmk5 hb6
     refine wpIn_rangeFunc_ownH (n := 3) rfl (by decide) (gf := 185) (lb := #[.pointer (some ⟨W5.heap.size, 0, none⟩), .pointer (some ⟨W5.heap.size + 1, 0, none⟩)]) rfl trivial (enters_of func185 (by kernel_rfl) rfl)
      (zJC 2 (by decide) w W6 hst6.below pb W5.heap.size (W5.heap.size + 1) _ _ R D n HB.out h2 h3 hs hlen (by assumption)) kpB_t (kpB_b (by omega)) (br_) (fun _ => rfl)
      (fun pre W => (St w W (D.length + r * D.length + i) s ∧ Boxed W B10 3 (.int .i64 (zFV s.2 (zBJ (pre.map (·.x))))) ∧ Boxed W B11 4 (.bool (zDE s.1 n (zBJ (pre.map (·.x)))))) ∧ zBW (w.heap.size + 4) W ds)
      (fun _ _ _ => False)
      (fun _ A B row hs hg hr => ⟨⟨hs.1.1.kept hg (fun q e => by have := (hr q e).1; omega), Boxed.keptN hs.1.2.1 hg (fun r e => (hr r e).2), Boxed.keptN hs.1.2.2 hg (fun r e => (hr r e).2)⟩, zBW.kept hs.2 hg (fun d hd e => by have h1 := (hr d e.symm).1; have h2 := hml d hd; omega)⟩)
      (fun _ _ _ _ _ hs _ _ => hs)
      ⟨⟨hst6, x10, by simpa [zBJ, zDE] using x11⟩, hmk6⟩
      (fun x a' W => ∃ Bx, B10 < Bx ∧ Lay W Bx #[.int .i64 x.x.d, .int .i64 x.x.l, .int .u8 x.x.k, .slice x.ai x.x.items.length x.ci, .slice x.ad x.x.dims.length x.cd] 107 ∧ a' = { tmps := #[.pointer (some ⟨pb, 0, none⟩), (u 1), (u 2), (u 3), .pointer (some ⟨w.heap.size + 1, 0, none⟩), .pointer (some ⟨w.heap.size + 1 + 1 + 1, 0, none⟩), (u 6), (u 7), (u 8), .int .i64 n, .pointer (some ⟨B10, 0, none⟩), .pointer (some ⟨B11, 0, none⟩), .pointer (some ⟨Bx, 0, none⟩), (u 13), (u 14), (u 15), (u 16), (u 17), (u 18), (u 19), (u 20), (u 21), (u 22), (u 23), (u 24), (u 25), (u 26), (u 27), (u 28), (u 29), (u 30), (u 31), (u 32), .int .i64 D.length, .int .i64 r, (u 35), (u 36), (u 37), (u 38), .slice (some ⟨b, off, none⟩) D.length cd, .int .i64 D.length, .int .i64 i, .bool true, .pointer (some ⟨b, off + i, none⟩), .int .i64 n, .map (some (w.heap.size + 1 + 1)), .int .i64 n, .bool (decide (n ∈ s.1)), .pointer (some ⟨pb, 0, none⟩), .int .i64 n, .func (.func 185) #[] #[.pointer (some ⟨W5.heap.size, 0, none⟩), .pointer (some ⟨W5.heap.size + 1, 0, none⟩)], x.enc, (u 52), (u 53), (u 54), (u 55), (u 56), (u 57), (u 58), (u 59), (u 60), (u 61), (u 62), (u 63), (u 64), (u 65), (u 66), (u 67), (u 68), (u 69), (u 70), (u 71), (u 72), (u 73), (u 74), (u 75), (u 76), (u 77), (u 78), (u 79), (u 80), (u 81), (u 82), (u 83), (u 84), (u 85), (u 86)], defers := [] })
      (fun x a' _ X Y row hs hg hr => by obtain ⟨Bx, h1, h2, h3⟩ := hs; exact ⟨Bx, h1, h2.keptN hg (fun r e => (hr r e).2), h3⟩)
      ?assign ?body ?done ?stop
     case assign =>
      rintro l0 pre x W K ⟨⟨hstW, y10, y11⟩, hmkW⟩ hK
      have hbn := zB W (.cells #[.int .i64 x.x.d, .int .i64 x.x.l, .int .u8 x.x.k, .slice x.ai x.x.items.length x.ci, .slice x.ad x.x.dims.length x.cd] 107)
      simp [List.zip_toArray]
      have hK' := hK _ _ (zEE hbn |>.from _) (kpB_alloc hstW.below.size _) ⟨⟨hstW.ext hbn, Boxed.same2 y10 (hbn.block _ y10.lt), Boxed.same2 y11 (hbn.block _ y11.lt)⟩, hmkW.ext hbn⟩ ⟨W.heap.size, y10.lt, Lay.new W _ _, rfl⟩
      clear hK
      unfold Iss.enc at hK' ⊢
      gi_wp2
      exact hK'
     case body =>
      rintro l0 pre ⟨x, ai, ci, aj, cj, hlies⟩ a' W hl ⟨rr, hrr⟩ ⟨⟨hstW, y10, y11⟩, hmkW⟩ ⟨Bx, hBx, bX, rfl⟩ hlt
      have cX3 := bX.cell 3 _ rfl
      have HST := zF hstW
      have HMK := zF hmkW
      have hl4 := hstW.lt
      have hHI := zF (zZ hlies.items).2
      have hil : x.items.length ≤ 9223372036854775807 := by obtain ⟨_, _, _, h, _⟩ := hlies.items; exact h
      clear hrr hmkW hmk6 hst6 x10 x11 h2 h3 hs hlen hsub
      gi_wp2
      clear cX3 bX hstW
      gi_loopw [55] (fun v4 wr4 => ∃ j : Nat, v4 = .int .i64 j ∧ j ≤ x.items.length ∧ Boxed wr4 B10 3 (.int .i64 (zFV s.2 (zBJ (pre.map (·.x)) ++ (x.items.take j).map (·.d)))) ∧ Boxed wr4 B11 4 (.bool (zDE s.1 n (zBJ (pre.map (·.x)) ++ (x.items.take j).map (·.d)))) ∧ Hid (St w wr4 (D.length + r * D.length + i) s ∧ zBW (w.heap.size + 4) wr4 ds ∧ KeepsFrom W6.heap.size W wr4 ∧ KpB w.heap.size (W5.heap.size + 1) W wr4)) (fun v4 _ => x.items.length - (intOf v4).toNat)
      case atStart => exact ⟨0, rfl, Nat.zero_le _, by simpa using y10, by simpa using y11, zF ⟨HST.out, HMK.out, KeepsFrom.refl _ _, kpB_refl _ _ _⟩⟩
      case round =>
       obtain ⟨j, rfl, hj, z10, z11, HH⟩ := hrel
       clear y10 y11
       by_cases hlt5 : j < x.items.length
       ·obtain ⟨b5, off5, rfl, ⟨q0, q1⟩, hnum⟩ := hHI.out j hlt5
        have hst4 := HH.out.1
        have q0 := zC hst4.below q0
        have q1 := zC hst4.below q1
        have l5 := zAF q0
        have cl := hst4.lbox.cell
        have dl := hst4.dbox.cell
        have l10 := z10.lt
        have l11 := z11.lt
        have ll1 := hst4.lbox.lt
        have ll2 := hst4.dbox.lt
        have f10 := z10.frozen
        have f11 := z11.frozen
        have htk : (x.items.take (j + 1)).map (·.d) = (x.items.take j).map (·.d) ++ [x.items[j].d] := by rw [List.take_succ_eq_append_getElem hlt5, List.map_append]; rfl
        have hmo := zF (show zFV s.2 (zBJ (pre.map (·.x)) ++ (x.items.take (j + 1)).map (·.d)) = max (zFV s.2 (zBJ (pre.map (·.x)) ++ (x.items.take j).map (·.d))) ((s.2 x.items[j].d).getD 0) by rw [htk, ← List.append_assoc, mostOf_snoc])
        have hre := zF (show zDE s.1 n (zBJ (pre.map (·.x)) ++ (x.items.take (j + 1)).map (·.d)) = (zDE s.1 n (zBJ (pre.map (·.x)) ++ (x.items.take j).map (·.d)) && !decide (x.items[j].d ∈ s.1)) by rw [htk, ← List.append_assoc, readyOf_snoc])
        clear htk
        generalize x.items[j] = y at *
        generalize hlr : zDE s.1 n (zBJ (pre.map (·.x)) ++ (x.items.take j).map (·.d)) = rb at *
        generalize hlm : zFV s.2 (zBJ (pre.map (·.x)) ++ (x.items.take j).map (·.d)) = mm at *
        clear hlr hlm
        have LA : (Instr.lookup 275 (.map (some (w.heap.size + 1 + 1))) (.int .i64 y.d) false).run prog (wr.alloc (.cells #[.int .i64 y.d, .int .i64 y.c] 205)) = .ok (.bool (decide (y.d ∈ s.1))) (wr.alloc (.cells #[.int .i64 y.d, .int .i64 y.c] 205)) := by
         obtain ⟨m, _, hM⟩ := hst4.lm
         exact mapB_look (hM.alloc _) hnum.1
        have LB : ∀ v, (Instr.lookup 246 (.map (some w.heap.size)) (.int .i64 y.d) false).run prog ((wr.setCell ⟨B11, 0, none⟩ v).alloc (.cells #[.int .i64 y.d, .int .i64 y.c] 205)) = .ok (.int .i64 ((s.2 y.d).getD 0)) ((wr.setCell ⟨B11, 0, none⟩ v).alloc (.cells #[.int .i64 y.d, .int .i64 y.c] 205)) := fun v => by
         obtain ⟨m, _, hM⟩ := hst4.dm
         exact mapI_look (MapI.alloc (hM.same (Below.heap_setCell wr ⟨B11, 0, none⟩ v _ (by show w.heap.size ≠ B11; omega))) _) hnum.1
        have c10 := z10.cell
        have c11 := z11.cell
        unfold zJ at q0 q1
        have ZZ := zF (And.intro z10 z11)
        clear z10 z11 hst4
        cases rb with
        | true =>
          gi_wp2
          have HR := round_two (v := .bool (!decide (y.d ∈ s.1))) (m := .int .i64 (if mm < (s.2 y.d).getD 0 then (s.2 y.d).getD 0 else mm)) (o := .cells #[.int .i64 y.d, .int .i64 y.c] 205) HH.out ZZ.out.1 ZZ.out.2 hlo.1 hlo.2 (by assumption) (by omega) (by omega) _ rfl
          go_roundw
          ·exact ⟨j + 1, by go_num, by omega, by rw [hmo.out, max_if]; exact HR.1, by rw [hre.out]; exact HR.2.1, zF HR.2.2⟩
          ·simp [intOf]; omega
        | false =>
          gi_wp2
          have HR := round_two (v := .bool (false)) (m := .int .i64 (if mm < (s.2 y.d).getD 0 then (s.2 y.d).getD 0 else mm)) (o := .cells #[.int .i64 y.d, .int .i64 y.c] 205) HH.out ZZ.out.1 ZZ.out.2 hlo.1 hlo.2 (by assumption) (by omega) (by omega) _ rfl
          go_roundw
          ·exact ⟨j + 1, by go_num, by omega, by rw [hmo.out, max_if]; exact HR.1, by rw [hre.out]; exact HR.2.1, zF HR.2.2⟩
          ·simp [intOf]; omega
       ·have hje : j = x.items.length := by omega
        subst hje
        rw [List.take_length] at z10 z11
        gi_wp2
        have hsn : zBJ ((pre ++ [(⟨x, ai, ci, aj, cj, hlies⟩ : Iss w)]).map (·.x)) = zBJ (pre.map (·.x)) ++ x.items.map (·.d) := by simp [zBJ]
        exact ⟨HH.out.2.2.1, HH.out.2.2.2, ⟨⟨HH.out.1, by rw [hsn]; exact z10, by rw [hsn]; exact z11⟩, HH.out.2.1⟩⟩
     case done =>
      rintro Dm ys W hDm hS ⟨⟨hstW, y10, y11⟩, hmkW⟩ hK
      rw [hS] at y10 y11
      have hbd := mostOf_bd s.2 ((D.length : Int) - s.1.length) (by have := hsane.len; omega) (fun y c hc => by have := hsane.bd y c hc; omega) (zBJ (zAM R n))
      have hml64 : (1000 : Nat) < maxLen := by decide
      have hKb : D.length + r * D.length + i < 1000 := by
       have : r * D.length ≤ 20 * 20 := Nat.mul_le_mul (by omega) hDl
       omega
      have hstep : zER R s n = if zDE s.1 n (zBJ (zAM R n)) = true then (s.1.erase n, fun y => if y = n then some (zFV s.2 (zBJ (zAM R n)) + 1) else s.2 y) else s := rfl
      have hnd : Dm ∉ ds := fun h => by have := hml _ h; omega
      clear x10 x11 hst6 hmk6 h2 h3 hs hlen hsub
      generalize zFV s.2 (zBJ (zAM R n)) = mm at *
      have hready : zDE s.1 n (zBJ (zAM R n)) = true → n ∈ s.1 := fun h => by
       unfold zDE at h
       rw [Bool.and_eq_true] at h
       exact of_decide_eq_true h.1
      generalize zDE s.1 n (zBJ (zAM R n)) = rb at *
      have c10 := y10.cell
      have c11 := y11.cell
      have dl := hstW.dbox.cell
      cases rb with
      | true =>
        have hin := hready rfl
        rw [if_pos rfl] at hstep
        have hw1 : IntKind.i64.wrap (mm + 1) = mm + 1 := IntWalk.i64_in _ (by omega)
        obtain ⟨m, hm, hMI⟩ := hstW.dm
        obtain ⟨w7, hr7, hM7, hg7⟩ := mapI_put hMI hx (c := mm + 1) ⟨by omega, by omega⟩ (by omega)
        obtain ⟨m2, hm2, hMB⟩ := hstW.lm
        have hMB7 := hMB.same (hg7.block _ hMB.lt (by simp; omega))
        obtain ⟨w8, hr8, hM8, hg8⟩ := mapB_del hMB7 hx hin 0
        have bl7 := Boxed.same2 hstW.lbox (hg7.block _ hstW.lbox.lt (by simp; omega))
        have bd7 := Boxed.same2 hstW.dbox (hg7.block _ hstW.dbox.lt (by simp))
        have cl7 := bl7.cell
        have hst8 : St w w8 (D.length + r * D.length + (i + 1)) (zER R s n) := by
         rw [hstep]
         exact ⟨(hstW.below.grown hg7 hstW.below.size (fun q e => by cases e; omega)).grown hg8 (by have := hstW.below.size; have := hg7.size; omega) (fun q e => by cases e; omega), Boxed.same2 bd7 (hg8.block _ bd7.lt (by simp)), Boxed.same2 bl7 (hg8.block _ bl7.lt (by simp)),
          ⟨m + 1, by omega, hM7.same (hg8.block _ hM7.lt (by simp; omega))⟩, ⟨m2, by omega, hM8⟩⟩
        have hmk8 : zBW (w.heap.size + 4) w8 (Dm :: ds) := by
         refine zBW.cons ((hmkW.kept hg7 (fun d hd e => by cases e; have := (hmkW.2 _ hd).1; omega)).kept hg8 (fun d hd e => by cases e; have := (hmkW.2 _ hd).1; omega)) (by omega) ?_ hnd
         have hlt := (Array.getElem?_eq_some_iff.1 hK).1
         rw [hg8.block Dm (by have := hg7.size; omega) (by simp; omega), hg7.block Dm hlt (by simp; omega)]
         exact hK
        rw [← hsi] at hst8
        clear hM7 hM8 hMB7 hMI hMB hg7 hg8 bl7 bd7 y10 y11 hstW hmkW hK hstep
        gi_wp2
        refine ⟨Inn.of _ (Dm :: ds) (i + 1) rfl (by omega) hst8 hmk8, ?_⟩
        show D.length - (intOf (.int .i64 ((i : Int) + 1))).toNat < D.length - (intOf (.int .i64 (i : Int))).toNat
        simp [intOf]
        omega
      | false =>
        rw [if_neg (by simp)] at hstep
        have hst8 : St w W (D.length + r * D.length + (i + 1)) (zER R s n) := by
         rw [hstep]
         obtain ⟨h1, h2, h3, ⟨m, hm, h4⟩, ⟨m', hm', h5⟩⟩ := hstW
         exact ⟨h1, h2, h3, ⟨m, by omega, h4⟩, ⟨m', by omega, h5⟩⟩
        have hmk8 := hmkW.cons (by omega) hK hnd
        rw [← hsi] at hst8
        clear y10 y11 hstW hmkW hK hstep
        gi_wp2
        refine ⟨Inn.of _ (Dm :: ds) (i + 1) rfl (by omega) hst8 hmk8, ?_⟩
        show D.length - (intOf (.int .i64 ((i : Int) + 1))).toNat < D.length - (intOf (.int .i64 (i : Int))).toNat
        simp [intOf]
        omega
     case stop =>
      rintro Dm c pre W _ _ h _
      exact h.elim
    ·have hie : i = D.length := by omega
     subst hie
     rw [stI_all R D r _ (Nat.le_refl _)] at hst
     clear hpc cl
     gi_wp2
     refine ⟨Out.of _ ds (r + 1) rfl (by omega) (by rw [Nat.succ_mul, ← Nat.add_assoc]; exact hst) hmk, ?_⟩
     show D.length - (intOf (.int .i64 ((r : Int) + 1))).toNat < D.length - (intOf (.int .i64 (r : Int))).toNat
     simp [intOf]
     omega
   ·have hre : r = D.length := by omega
    subst hre
    have cl := hst.lbox.cell
    have dl := hst.dbox.cell
    obtain ⟨m', _, hMB⟩ := hst.lm
    have hln := mapB_len hMB
    gi_wp2
    have hKb : D.length + D.length * D.length ≤ 1000 := by
     have : D.length * D.length ≤ 20 * 20 := Nat.mul_le_mul hDl hDl
     omega
    obtain ⟨hbl, h2, h3, ⟨m, hm, h4⟩, -⟩ := hst
    refine leaves_marks (w.heap.size + 4) (fun W => Below w.heap.size w W ∧ MapI W w.heap.size m (stD R D D.length).2) (fun W d hd hk hz => ⟨hz.1.trans (belowK_b (w := w) (Nat.le_refl _) W d _ _ (by omega) hk rfl rfl), hz.2.same (World.putObj_heap_other (by omega))⟩) (fun W hz => ⟨?_, ⟨⟨_, m, rfl, by omega, hz.2⟩, hz.1⟩⟩) ds wr2 hmk ⟨hbl, h4⟩
    simp [results, results159, go_sem]
end
section
def zKL (f : Int → Int) (a : Int) (l : List Int) : Int := l.foldl (fun m y => max m (f y)) a
theorem mostI_ge (f : Int → Int) (l : List Int) (a : Int) : a ≤ zKL f a l := by
 unfold zKL
 induction l generalizing a with
 | nil => exact Int.le_refl _
 | cons y l ih => rw [List.foldl_cons]; have := ih (max a (f y)); omega
theorem mostI_mem (f : Int → Int) (l : List Int) (a : Int) (y : Int) (h : y ∈ l) : f y ≤ zKL f a l := by
 unfold zKL
 induction l generalizing a with
 | nil => simp at h
 | cons z l ih =>
   rw [List.foldl_cons]
   rcases List.mem_cons.1 h with rfl | h
   ·have := mostI_ge f l (max a (f y)); unfold zKL at this; omega
   ·exact ih _ h
theorem mostI_app (f : Int → Int) (l l' : List Int) (a : Int) : zKL f a (l ++ l') = zKL f (zKL f a l) l' := by unfold zKL; rw [List.foldl_append]
theorem issFold_most (f : Int → Int) (x : Issue) (m : Nat) (a : Int) (hm : m ≤ x.items.length) : zDT f x m (1 + a) = 1 + zKL f a ((x.items.take m).map (·.d)) := by
 induction m with
 | zero => simp [zDT, zKL]
 | succ m ih =>
   simp only [zDT, List.getElem?_eq_getElem (show m < x.items.length by omega)]
   rw [ih (by omega), List.take_succ_eq_append_getElem (by omega), List.map_append, mostI_app]
   simp only [List.map_cons, List.map_nil]
   unfold zKL
   simp only [List.foldl_cons, List.foldl_nil]
   omega
theorem sonsOf_app (xs ys : List Issue) : zBJ (xs ++ ys) = zBJ xs ++ zBJ ys := by simp [zBJ]
theorem acc_most (R : List Issue) (f : Int → Int) (n : Int) (k : Nat) (hk : k ≤ R.length) :
  zDU R f k n = if (R.take k).filter (fun x => x.d == n) = [] then 0 else 1 + zKL f 0 (zBJ ((R.take k).filter (fun x => x.d == n))) := by
 induction k with
 | zero => simp [zDU]
 | succ k ih =>
   have ih := ih (by omega)
   have hlt : k < R.length := by omega
   rw [List.take_succ_eq_append_getElem hlt, List.filter_append]
   simp only [zDU, List.getElem?_eq_getElem hlt]
   by_cases e : n = R[k].d
   ·rw [if_pos e]
    have ef : [R[k]].filter (fun x => x.d == n) = [R[k]] := by simp [e]
    rw [ef, if_neg (by simp), sonsOf_app, mostI_app, ← e, ih]
    have es : zBJ [R[k]] = (R[k].items.take R[k].items.length).map (·.d) := by simp [zBJ]
    rw [es, ← issFold_most f R[k] _ _ (Nat.le_refl _)]
    congr 1
    split
    ·rename_i h0
     rw [h0]
     simp [zBJ, zKL]
     omega
    ·have := mostI_ge f (zBJ ((R.take k).filter (fun x => x.d == n))) 0
     omega
   ·rw [if_neg e, ih]
    have ef : [R[k]].filter (fun x => x.d == n) = [] := by simp; omega
    rw [ef, List.append_nil]
theorem zNR (R : List Issue) (n : Int) (h : n ∈ nums R) : zAM R n ≠ [] := by
 have key : ∀ k, k ≤ R.length → n ∈ zBR R k → ∃ x ∈ R, x.d = n := by
  intro k hk hn
  induction k with
  | zero => simp [zBR] at hn
  | succ k ih =>
    simp only [zBR] at hn
    rcases List.mem_append.1 hn with h | h
    ·exact ih (by omega) h
    ·rw [List.getElem?_eq_getElem (by omega)] at h
     simp only at h
     split at h
     ·simp at h
     ·rw [List.mem_singleton] at h
      exact ⟨R[k], List.getElem_mem _, h.symm⟩
 obtain ⟨x, hx, e⟩ := key _ (Nat.le_refl _) h
 intro h0
 have : x ∈ zAM R n := by unfold zAM; rw [List.mem_filter]; exact ⟨hx, by simp [e]⟩
 rw [h0] at this
 simp at this
theorem dep_most (R : List Issue) (r : Nat) (n : Int) (h : n ∈ nums R) : dep R (r + 1) n = 1 + zKL (dep R r) 0 (zBJ (zAM R n)) := by
 have := acc_most R (dep R r) n R.length (Nat.le_refl _)
 rw [List.take_length] at this
 show zDU R (dep R r) R.length n = _
 rw [this]
 exact if_neg (zNR R n h)
theorem zLG (L : List Int) (n : Int) (l : List Int) : zDE L n l = true ↔ n ∈ L ∧ ∀ y ∈ l, y ∉ L := by
 unfold zDE
 rw [Bool.and_eq_true, decide_eq_true_iff, List.all_eq_true]
 constructor
 ·rintro ⟨h1, h2⟩; exact ⟨h1, fun y hy => by simpa using h2 y hy⟩
 ·rintro ⟨h1, h2⟩; exact ⟨h1, fun y hy => by simpa using h2 y hy⟩
structure Tells (R : List Issue) (s : List Int × (Int → Option Int)) : Prop where
 sane : Sane (nums R) s
 dom : ∀ y ∈ nums R, y ∉ s.1 → ∃ c, s.2 y = some c
 of : ∀ y c, s.2 y = some c → y ∈ nums R ∧ ∀ r : Nat, (nums R).length - s.1.length ≤ r → dep R r y = c
theorem tells_start (R : List Issue) (hD : (nums R).Nodup) : Tells R (nums R, fun _ => none) := ⟨sane_start _ hD, fun y h h' => absurd h h', fun _ _ h => by cases h⟩
theorem most_same (f : Int → Option Int) (g : Int → Int) (l : List Int) (h : ∀ y ∈ l, (f y).getD 0 = g y) : zFV f l = zKL g 0 l := by
 have key : ∀ (l : List Int) (a : Int), (∀ y ∈ l, (f y).getD 0 = g y) → l.foldl (fun m y => max m ((f y).getD 0)) a = l.foldl (fun m y => max m (g y)) a := by
  intro l
  induction l with
  | nil => intro a _; rfl
  | cons y l ih => intro a h; rw [List.foldl_cons, List.foldl_cons, h y (by simp), ih _ (fun z hz => h z (by simp [hz]))]
 exact key l 0 h
theorem tells_step (R : List Issue) (hs : ∀ n, ∀ y ∈ zBJ (zAM R n), y ∈ nums R) (s : List Int × (Int → Option Int)) (n : Int) (h : Tells R s) : Tells R (zER R s n) := by
 have hsane := sane_step R _ s n h.sane
 by_cases hr : zDE s.1 n (zBJ (zAM R n)) = true
 ·have e : zER R s n = (s.1.erase n, fun y => if y = n then some (zFV s.2 (zBJ (zAM R n)) + 1) else s.2 y) := by unfold zER; rw [if_pos hr]
  rw [e] at hsane ⊢
  obtain ⟨hn, hy⟩ := (zLG _ _ _).1 hr
  have hl := List.length_erase_of_mem hn
  have hpos : 0 < s.1.length := List.length_pos_of_mem hn
  have hle := h.sane.len
  refine ⟨hsane, fun y hy1 hy2 => ?_, fun y c hc => ?_⟩
  ·by_cases ey : y = n
   ·exact ⟨_, by simp [ey]; rfl⟩
   ·have : y ∉ s.1 := fun h' => hy2 ((h.sane.nodup.mem_erase_iff).2 ⟨ey, h'⟩)
    obtain ⟨c, hc⟩ := h.dom y hy1 this
    exact ⟨c, by simpa [ey] using hc⟩
  ·simp only at hc ⊢
   split at hc
   ·rename_i ey
    cases hc
    subst ey
    refine ⟨h.sane.sub y hn, fun r hrr => ?_⟩
    obtain ⟨r, rfl⟩ : ∃ q, r = q + 1 := ⟨r - 1, by omega⟩
    rw [dep_most R r y (h.sane.sub y hn), most_same s.2 (dep R r) _ (fun z hz => ?_)]
    ·omega
    ·obtain ⟨c, hc⟩ := h.dom z (hs y z hz) (hy z hz)
     rw [hc, (h.of z c hc).2 r (by omega)]
     rfl
   ·have := h.of y c hc
    exact ⟨this.1, fun r hrr => this.2 r (by omega)⟩
 ·have e : zER R s n = s := by unfold zER; rw [if_neg hr]
  rw [e]
  exact h
theorem tells_fold (R : List Issue) (hs : ∀ n, ∀ y ∈ zBJ (zAM R n), y ∈ nums R) (l : List Int) (s : List Int × (Int → Option Int)) (h : Tells R s) : Tells R (l.foldl (zER R) s) := by
 induction l generalizing s with
 | nil => exact h
 | cons n l ih => exact ih _ (tells_step R hs s n h)
theorem tells_st (R : List Issue) (hD : (nums R).Nodup) (hs : ∀ n, ∀ y ∈ zBJ (zAM R n), y ∈ nums R) (r : Nat) : Tells R (stD R (nums R) r) := by
 induction r with
 | zero => exact tells_start R hD
 | succ r ih => exact tells_fold R hs _ _ ih
theorem step_len (R : List Issue) (s : List Int × (Int → Option Int)) (n : Int) : (zER R s n).1.length < s.1.length ∨ zER R s n = s := by
 unfold zER
 split
 ·rename_i hr
  left
  have hn := ((zLG _ _ _).1 hr).1
  have := List.length_erase_of_mem hn
  have := List.length_pos_of_mem hn
  show (s.1.erase n).length < _
  omega
 ·exact .inr rfl
theorem fold_len (R : List Issue) (l : List Int) (s : List Int × (Int → Option Int)) : (l.foldl (zER R) s).1.length < s.1.length ∨ ((∀ n ∈ l, zER R s n = s) ∧ l.foldl (zER R) s = s) := by
 induction l generalizing s with
 | nil => exact .inr ⟨fun _ h => (by cases h), rfl⟩
 | cons n l ih =>
   rw [List.foldl_cons]
   rcases step_len R s n with h | h
   ·left
    rcases ih (zER R s n) with h2 | ⟨_, h2⟩
    ·omega
    ·rw [h2]; exact h
   ·rw [h]
    rcases ih s with h2 | ⟨h2, h3⟩
    ·exact .inl h2
    ·exact .inr ⟨fun m hm => by
      rcases List.mem_cons.1 hm with rfl | hm
      ·exact h
      ·exact h2 m hm, h3⟩
theorem st_still (R : List Issue) (D : List Int) (r : Nat) (hr : r ≤ D.length) : (stD R D r).1.length + r ≤ D.length ∨ ∀ n ∈ D, zER R (stD R D r) n = stD R D r := by
 induction r with
 | zero => exact .inl (Nat.le_refl _)
 | succ r ih =>
   have e : stD R D (r + 1) = D.foldl (zER R) (stD R D r) := rfl
   rcases fold_len R D (stD R D r) with h | ⟨h1, h2⟩
   ·rcases ih (by omega) with h3 | h3
    ·left; rw [e]; omega
    ·exfalso
     have key : ∀ l : List Int, (∀ n ∈ l, zER R (stD R D r) n = stD R D r) → l.foldl (zER R) (stD R D r) = stD R D r := by
      intro l hl
      induction l with
      | nil => rfl
      | cons n l ih2 => rw [List.foldl_cons, hl n (by simp)]; exact ih2 (fun m hm => hl m (by simp [hm]))
     rw [key D h3] at h
     omega
   ·right
    rw [e, h2]
    exact h1
theorem still_deep (R : List Issue) (s : List Int × (Int → Option Int)) (hsub : ∀ y ∈ s.1, y ∈ nums R) (hst : ∀ n ∈ nums R, zER R s n = s) (r : Nat) : ∀ n ∈ s.1, (r : Int) ≤ dep R r n := by
 induction r with
 | zero => intro n _; exact (zJP R 0 n).1
 | succ r ih =>
   intro n hn
   have hns : ∃ y ∈ zBJ (zAM R n), y ∈ s.1 := by
    by_cases h : zDE s.1 n (zBJ (zAM R n)) = true
    ·exfalso
     have h2 := hst n (hsub n hn)
     unfold zER at h2
     rw [if_pos h] at h2
     have h3 := congrArg (fun t => t.1.length) h2
     have h4 := List.length_erase_of_mem hn
     have h5 := List.length_pos_of_mem hn
     simp only at h3
     omega
    ·refine Classical.byContradiction fun hc => h ((zLG _ _ _).2 ⟨hn, fun y hy hys => hc ⟨y, hy, hys⟩⟩)
   obtain ⟨y, hy, hys⟩ := hns
   rw [dep_most R r n (hsub n hn)]
   have h1 := mostI_mem (dep R r) _ 0 y hy
   have h2 := ih y hys
   omega
theorem depths_tell (R : List Issue) (hD : (nums R).Nodup) (hs : ∀ n, ∀ y ∈ zBJ (zAM R n), y ∈ nums R) :
  (0 < (stD R (nums R) (nums R).length).1.length → zGI R (nums R).length) ∧
  (¬ 0 < (stD R (nums R) (nums R).length).1.length → ¬ zGI R (nums R).length ∧ (zGI R 6 → ∃ n c, n ∈ nums R ∧ (stD R (nums R) (nums R).length).2 n = some c ∧ 6 < c) ∧ (∀ n c, (stD R (nums R) (nums R).length).2 n = some c → 6 < c → zGI R 6)) := by
 have ht := tells_st R hD hs (nums R).length
 constructor
 ·intro h
  rcases st_still R (nums R) (nums R).length (Nat.le_refl _) with h1 | h1
  ·omega
  ·obtain ⟨n, hn⟩ := List.exists_mem_of_length_pos h
   have := still_deep R _ ht.sane.sub h1 ((nums R).length + 1) n hn
   exact ⟨n, ht.sane.sub n hn, by push_cast at this; omega⟩
 ·intro h
  have h0 : (stD R (nums R) (nums R).length).1.length = 0 := by omega
  have hnil := List.eq_nil_of_length_eq_zero h0
  have hall : ∀ n ∈ nums R, ∃ c, (stD R (nums R) (nums R).length).2 n = some c ∧ dep R ((nums R).length + 1) n = c := fun n hn => by
   obtain ⟨c, hc⟩ := ht.dom n hn (by rw [hnil]; simp)
   exact ⟨c, hc, (ht.of n c hc).2 _ (by omega)⟩
  refine ⟨fun ⟨n, hn, hd⟩ => ?_, fun ⟨n, hn, hd⟩ => ?_, fun n c hc h6 => ?_⟩
  ·obtain ⟨c, hc, he⟩ := hall n hn
   have := ht.sane.bd n c hc
   omega
  ·obtain ⟨c, hc, he⟩ := hall n hn
   exact ⟨n, c, hn, hc, by omega⟩
  ·have h1 := ht.of n c hc
   exact ⟨n, h1.1, by rw [h1.2 _ (by omega)]; exact h6⟩
end
end Go.Proofs.YtpolpdegpbahiaaGreatDoor
