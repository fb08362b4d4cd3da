/- The reference's error of a register; its greatest letter; great registers. The reference's way to find an issue. Slices that may be written to; 'append([]T{}, s...)' as an operation of a region that draws its order. As Copy's append onto an empty slice, with what its capacity is. Two readings of the same data are found to be the same: lists of numbers, of items, issues, registers. Two readings of the same data are found to be the same: issues, registers, notes, machines. Two readings of the same register, notes, machines are found to be the same. Two readings of the same notes are found to be the same. Two readings of the same machines are found to be the same. What an argument's reading tells of its memory: machines and reports. The reference's issue in new memory. The reference's register in new memory. -/
import Derived.Laws.OwnMore
import Derived.ArgAppend
import Derived.Test.YtoibnhkiedpkgaaGreatDoorProg
import Derived.Deep.QuietTactic
import Derived.BigQuiet
import Derived.StillTailTactics
import Derived.Deep.Slices
import Derived.Test.YtoibnhkiedpkgaaGreatDoorM01
set_option linter.unusedVariables false
set_option linter.unusedSimpArgs false
set_option linter.all false

namespace Go.Proofs.YtoibnhkiedpkgaaGreatDoor
open Go.RowKit

def Deeper (R : List Issue) (B : Int) : Prop := ∃ n ∈ nums R, B < dep R ((nums R).length + 1) n
open Classical in
/-- The error of a register. -/
noncomputable def regCode (R : List Issue) : Int :=
  if Listed R then (if Deeper R (nums R).length then 21 else if Deeper R 6 then 20 else 0) else 20

theorem regCode_not {R : List Issue} (h : ¬ Listed R) : regCode R = 20 := by unfold regCode; rw [if_neg h]
theorem regCode_circle {R : List Issue} (h : Listed R) (h1 : Deeper R (nums R).length) : regCode R = 21 := by unfold regCode; rw [if_pos h, if_pos h1]
theorem regCode_deep {R : List Issue} (h : Listed R) (h1 : ¬ Deeper R (nums R).length) (h2 : Deeper R 6) : regCode R = 20 := by unfold regCode; rw [if_pos h, if_neg h1, if_pos h2]
theorem regCode_ok {R : List Issue} (h : Listed R) (h1 : ¬ Deeper R (nums R).length) (h2 : ¬ Deeper R 6) : regCode R = 0 := by unfold regCode; rw [if_pos h, if_neg h1, if_neg h2]

def maxTo (l : List Int) : Nat → Int
  | 0 => 0
  | k + 1 => max (maxTo l k) (l[k]?.getD 0)
theorem maxTo_gt (l : List Int) (B : Int) (hB : 0 ≤ B) (k : Nat) (hk : k ≤ l.length) : B < maxTo l k ↔ ∃ j, j < k ∧ B < l[j]?.getD 0 := by
  induction k with
  | zero => simp [maxTo]; omega
  | succ k ih =>
    have ih := ih (by omega)
    simp only [maxTo]
    constructor
    · intro h
      by_cases h1 : B < maxTo l k
      · obtain ⟨j, hj, hb⟩ := ih.1 h1
        exact ⟨j, by omega, hb⟩
      · exact ⟨k, by omega, by omega⟩
    · rintro ⟨j, hj, hb⟩
      by_cases e : j = k
      · subst e; omega
      · have := ih.2 ⟨j, by omega, hb⟩
        omega
theorem maxTo_deeper (R : List Issue) (B : Int) (hB : 0 ≤ B) : B < maxTo ((nums R).map (dep R ((nums R).length + 1))) (nums R).length ↔ Deeper R B := by
  rw [maxTo_gt _ B hB _ (by simp)]
  constructor
  · rintro ⟨j, hj, hb⟩
    simp [hj] at hb
    exact ⟨_, List.getElem_mem hj, hb⟩
  · rintro ⟨n, hn, hb⟩
    obtain ⟨j, hj, rfl⟩ := List.getElem_of_mem hn
    exact ⟨j, hj, by simpa [hj] using hb⟩
theorem maxTo_bd (l : List Int) (k : Nat) (h : ∀ x ∈ l, 0 ≤ x ∧ x ≤ 1000) : 0 ≤ maxTo l k ∧ maxTo l k ≤ 1000 := by
  induction k with
  | zero => simp [maxTo]
  | succ k ih =>
    simp only [maxTo]
    cases hk : l[k]? with
    | none => simp; omega
    | some x =>
      have := h x (List.mem_of_getElem? hk)
      simp; omega

set_option maxRecDepth 100000 in
set_option maxHeartbeats 1600000 in
theorem check02 (w : World) (v : Value) (R : List Issue) (h : Sl AtIssue 5 w v R) :
    Calls Tryz.prog 56 #[.agg #[v]] w fun e w' => e = .returned (.int .i64 (regCode R)) ∧ Below w.heap.size w w' := by
  obtain ⟨hb1, B1⟩ := boxed1 w #[v] 24
  have c0 := B1 0 v rfl
  clear B1
  obtain ⟨a, cap, rfl, hm⟩ := sl_shape h
  have h1 := sl_ext stays_issue hb1 h
  have C0 := Lib.hid c0
  unfold Cell at c0
  clear h
  go_enter Tryz.func56, Tryz.ntmps56
  go_wp2_with fail
  clear c0
  generalize w.alloc _ = w1 at *
  refine (listed02 _ _ R h1).mono ?_
  intro e w2 hh
  rcases hh.both with ⟨hl, rfl, hb2⟩ | ⟨hl, rfl, hb2⟩
  case inr =>
    clear hh
    go_wp2
    go_ret
    exact ⟨ret_int (regCode_not hl).symm, below_trans hb1 hb2⟩
  clear hh
  have hb3 := below_trans hb1 hb2
  have c2 := cell_ext hb2 C0.out
  have h2 := sl_ext stays_issue hb2 h1
  unfold Cell at c2
  clear hb1 hb2 h1 C0
  go_wp2_with fail
  refine (depths02 _ _ R h2 hl).mono ?_
  rintro e w3 ⟨u, rfl, hu, hb4⟩
  have hb5 := below_trans hb3 hb4
  clear hb3 hb4 h2 c2
  have hN20 := hl.2.2.2
  have k1 := Lib.hid (@regCode_circle R hl)
  have k2 := Lib.hid (@regCode_deep R hl)
  have k3 := Lib.hid (@regCode_ok R hl)
  have hd1 := Lib.hid (maxTo_deeper R (nums R).length (by omega))
  have hd2 := Lib.hid (maxTo_deeper R 6 (by omega))
  have hbd := Lib.hid (fun k => maxTo_bd ((nums R).map (dep R ((nums R).length + 1))) k (fun x hx => by
    obtain ⟨n, _, rfl⟩ := List.mem_map.1 hx
    have := dep_bd R ((nums R).length + 1) n
    omega))
  have hlen : ((nums R).map (dep R ((nums R).length + 1))).length = (nums R).length := by simp
  clear hl
  generalize hL : (nums R).map (dep R ((nums R).length + 1)) = L at *
  clear hL
  generalize (nums R).length = N at *
  obtain ⟨au, capu, rfl, hmu⟩ := sl_shape hu
  have HLEN := Lib.hid hlen
  clear hlen
  go_wp2
  go_loop [4, 5] (fun m i => ∃ k : Nat, i = .int .i64 k ∧ k ≤ L.length ∧ m = .int .i64 (maxTo L k)) (fun _ i => L.length - (intOf i).toNat)
  case atStart => exact ⟨0, rfl, by omega, rfl⟩
  case round =>
    obtain ⟨k, rfl, hk, rfl⟩ := hrel
    by_cases hlt : k < L.length
    · obtain ⟨b, off, rfl, hc, _⟩ := (sl_at hu).2 k hlt
      unfold Cell at hc
      rw [Nat.mul_one] at hc
      have hs : Hid (maxTo L (k + 1) = max (maxTo L k) L[k]) := by
        show maxTo L (k + 1) = _
        simp only [maxTo, List.getElem?_eq_getElem hlt, Option.getD_some]
      generalize L[k] = x at *
      clear hu
      generalize maxTo L k = mk at *
      by_cases hx : x ≤ mk
      · have hx' : ¬ (x > mk) := by omega
        go_wp2
        go_round
        case rel => exact ⟨k + 1, by go_num, by omega, by rw [hs.out, Int.max_eq_left hx]⟩
        case measure => simp [intOf]; omega
      · have hx' : x > mk := by omega
        go_wp2
        go_round
        case rel => exact ⟨k + 1, by go_num, by omega, by rw [hs.out, Int.max_eq_right (by omega)]⟩
        case measure => simp [intOf]; omega
    · obtain rfl : k = L.length := by omega
      have hb := hbd.out L.length
      have hb0 := hb.1
      have hb6 := hb.2
      clear hu hb
      have hd1' := Lib.hid (show (N : Int) < maxTo L L.length ↔ Deeper R N from by rw [HLEN.out]; exact hd1.out)
      have hd2' := Lib.hid (show (6 : Int) < maxTo L L.length ↔ Deeper R 6 from by rw [HLEN.out]; exact hd2.out)
      have hN' : L.length ≤ 20 := by rw [HLEN.out]; exact hN20
      generalize maxTo L L.length = mx at *
      by_cases h1 : (N : Int) < mx
      · have h1' : (L.length : Int) < mx := by rw [HLEN.out]; exact h1
        go_wp2
        go_ret
        exact ⟨ret_int (k1.out (hd1'.out.1 h1)).symm, hb5⟩
      · have h1' : ¬ (L.length : Int) < mx := by rw [HLEN.out]; exact h1
        by_cases h2 : 6 < mx
        · go_wp2
          go_ret
          exact ⟨ret_int (k2.out (fun h => by have := hd1'.out.2 h; omega) (hd2'.out.1 h2)).symm, hb5⟩
        · go_wp2
          go_ret
          exact ⟨ret_int (k3.out (fun h => by have := hd1'.out.2 h; omega) (fun h => by have := hd2'.out.2 h; omega)).symm, hb5⟩

end Go.Proofs.YtoibnhkiedpkgaaGreatDoor

namespace Go.Proofs.YtoibnhkiedpkgaaGreatDoor
open Go.RowKit

/-- No cell of a block is frozen. -/
def Free (w : World) (b : Nat) : Prop := b < w.heap.size ∧ ∀ j, w.frozen? ⟨b, j, none⟩ = false
theorem free_new (w : World) (cs : Array Value) (t : TypeId) : Free (w.alloc (.cells cs t)) w.heap.size :=
  ⟨by simp, fun _ => World.frozen?_alloc_at _ _ _ _ rfl⟩
theorem free_ext {w w' : World} (hb : Below w.heap.size w w') {b : Nat} (h : Free w b) : Free w' b :=
  ⟨Nat.lt_of_lt_of_le h.1 hb.size, fun j => (hb.frozen (p := ⟨b, j, none⟩) h.1).trans (h.2 j)⟩

def isRef (d l : Int) (x : Issue) : Bool := x.d == d && x.l == l
def findR (R : List Issue) (d l : Int) : Option Issue := R.find? (isRef d l)
theorem findR_at (R : List Issue) (d l : Int) (k : Nat) (hk : k < R.length) (h : isRef d l R[k] = true) (hf : ∀ j, j < k → (hj : j < R.length) → isRef d l R[j] = false) : findR R d l = some R[k] := by
  unfold findR
  rw [List.find?_eq_some_iff_getElem]
  exact ⟨h, k, hk, rfl, fun j hj => by simp [hf j hj (by omega)]⟩
theorem findR_none (R : List Issue) (d l : Int) (hf : ∀ j, (hj : j < R.length) → isRef d l R[j] = false) : findR R d l = none := by
  unfold findR
  rw [List.find?_eq_none]
  intro x hx
  obtain ⟨j, hj, rfl⟩ := List.getElem_of_mem hx
  simp [hf j hj]

def zeroIssue : Array Value := #[.int .i64 0, .int .i64 0, .int .u8 0, .slice none 0 0, .slice none 0 0]
/-- What is returned of an issue that was looked for. -/
def RetFind (R : List Issue) (d l : Int) (w : World) (e : Ending) (w' : World) : Prop :=
  Below w.heap.size w w' ∧
  ((∃ x vi vd, findR R d l = some x ∧ e = .returned (.tuple #[.agg #[.int .i64 x.d, .int .i64 x.l, .int .u8 x.k, vi, vd], .bool true]) ∧ IssueAt w' vi vd x) ∨
   (findR R d l = none ∧ e = .returned (.tuple #[.agg #[.int .i64 0, .int .i64 0, .int .u8 0, .slice none 0 0, .slice none 0 0], .bool false])))

theorem boxed3 (w : World) (cs cs' cs'' : Array Value) (t t' t'' : TypeId) : Below w.heap.size w (((w.alloc (.cells cs t)).alloc (.cells cs' t')).alloc (.cells cs'' t'')) ∧
    (∀ j v, cs[j]? = some v → Cell (((w.alloc (.cells cs t)).alloc (.cells cs' t')).alloc (.cells cs'' t'')) w.heap.size j v) ∧
    (∀ j v, cs'[j]? = some v → Cell (((w.alloc (.cells cs t)).alloc (.cells cs' t')).alloc (.cells cs'' t'')) (w.heap.size + 1) j v) ∧
    (∀ j v, cs''[j]? = some v → Cell (((w.alloc (.cells cs t)).alloc (.cells cs' t')).alloc (.cells cs'' t'')) (w.heap.size + 1 + 1) j v) ∧
    Free (((w.alloc (.cells cs t)).alloc (.cells cs' t')).alloc (.cells cs'' t'')) (w.heap.size + 1 + 1) := by
  obtain ⟨h1, h2, h3⟩ := boxed2 w cs cs' t t'
  refine ⟨below_trans h1 (below_alloc _ _), fun j v h => cell_ext (below_alloc _ _) (h2 j v h), fun j v h => cell_ext (below_alloc _ _) (h3 j v h), fun j v h => ?_, ?_⟩
  · have := new_cell ((w.alloc (.cells cs t)).alloc (.cells cs' t')) cs'' t'' j v h
    rwa [World.size_alloc, World.size_alloc] at this
  · have := free_new ((w.alloc (.cells cs t)).alloc (.cells cs' t')) cs'' t''
    rwa [World.size_alloc, World.size_alloc] at this

set_option maxRecDepth 100000 in
set_option maxHeartbeats 1600000 in
theorem find02 (w : World) (v : Value) (R : List Issue) (d l : Int) (h : Sl AtIssue 5 w v R) :
    Calls Tryz.prog 58 #[.agg #[v], .agg #[.int .i64 d, .int .i64 l]] w (RetFind R d l w) := by
  obtain ⟨hb1, B1, B2, B3, hfr⟩ := boxed3 w #[v] #[.int .i64 d, .int .i64 l] #[.int .i64 0, .int .i64 0, .int .u8 0, .slice none 0 0, .slice none 0 0] 24 84 46
  have c0 := B1 0 v rfl
  have d0 := B2 0 (.int .i64 d) rfl
  have d1 := B2 1 (.int .i64 l) rfl
  have r0 := B3 0 (.int .i64 0) rfl
  have r1 := B3 1 (.int .i64 0) rfl
  have r2 := B3 2 (.int .u8 0) rfl
  have r3 := B3 3 (.slice none 0 0) rfl
  have r4 := B3 4 (.slice none 0 0) rfl
  clear B1 B2 B3
  obtain ⟨a, cap, rfl, hm⟩ := sl_shape h
  have HF := Lib.hid hfr
  have K : Hid (Cell (((w.alloc (.cells #[.slice a R.length cap] 24)).alloc (.cells #[.int .i64 d, .int .i64 l] 84)).alloc (.cells #[.int .i64 0, .int .i64 0, .int .u8 0, .slice none 0 0, .slice none 0 0] 46)) w.heap.size 0 (.slice a R.length cap)) := c0
  have D0 := Lib.hid d0
  have D1 := Lib.hid d1
  have R0 := Lib.hid r0
  have R1 := Lib.hid r1
  have R2 := Lib.hid r2
  have R3 := Lib.hid r3
  have R4 := Lib.hid r4
  clear hfr c0 d0 d1 r0 r1 r2 r3 r4
  go_enter Tryz.func58, Tryz.ntmps58
  go_wp2
  generalize ((w.alloc _).alloc _).alloc _ = w1 at *
  generalize hpr : w.heap.size + 1 + 1 = pr at *
  generalize hpd : w.heap.size + 1 = pd at *
  have hpw : w.heap.size ≤ pr := by omega
  clear hpr hpd
  go_loopw [6] (fun i wr => ∃ k : Nat, i = .int .i64 k ∧ k ≤ R.length ∧ Below w1.heap.size w1 wr ∧ ∀ j, j < k → (hj : j < R.length) → isRef d l R[j] = false) (fun i _ => R.length - (intOf i).toNat)
  case atStart => exact ⟨0, rfl, by omega, Below.refl _ _, fun j hj => absurd hj (by omega)⟩
  case round =>
    obtain ⟨k, rfl, hk, hb, hall⟩ := hrel
    have HALL := Lib.hid hall
    clear hall
    have e0 := cell_ext hb K.out
    have x0 := cell_ext hb D0.out
    have x1 := cell_ext hb D1.out
    have y0 := cell_ext hb R0.out
    have y1 := cell_ext hb R1.out
    have y2 := cell_ext hb R2.out
    have y3 := cell_ext hb R3.out
    have y4 := cell_ext hb R4.out
    have fr := free_ext hb HF.out
    have f0 := fr.2 0
    have f1 := fr.2 1
    have f2 := fr.2 2
    have f3 := fr.2 3
    have f4 := fr.2 4
    have hsz2 := fr.1
    have hsz1 := cell_lt x0
    have hsz0 := cell_lt e0
    unfold Cell at e0 x0 x1 y0 y1 y2 y3 y4
    clear fr
    by_cases hlt : k < R.length
    · obtain ⟨b, off, rfl, ⟨q0, q1, q2⟩, hnum, vi, vd, q3, q4, si, sd⟩ := (sl_at h).2 k hlt
      have hw := below_trans hb1 hb
      have q0 := cell_ext hw q0
      have q1 := cell_ext hw q1
      have q2 := cell_ext hw q2
      have q3 := cell_ext hw q3
      have q4 := cell_ext hw q4
      have hbl := cell_lt q0
      unfold Cell at q0 q1 q2 q3 q4
      generalize hx : R[k] = x at *
      have HX := Lib.hid hx
      clear hx
      obtain ⟨ai, capi, rfl, _⟩ := sl_shape si
      obtain ⟨ad, capd, rfl, _⟩ := sl_shape sd
      by_cases g1 : (x.d == d) = true
      · by_cases g2 : (x.l == l) = true
        · go_wp2
          refine bodyPost_ret (v := .tuple #[.agg #[.int .i64 x.d, .int .i64 x.l, .int .u8 x.k, .slice ai x.items.length capi, .slice ad x.dims.length capd], .bool true]) ?_ rfl ?_
          · simp [results, Tryz.results58, go_sem, y0, y1, y2, y3, y4, hsz2]
          · have hW := ((((((hw.setCell (p := ⟨pr, 0, none⟩) hpw (.int .i64 x.d)).setCell (p := ⟨pr, 1, none⟩) hpw (.int .i64 x.l)).setCell (p := ⟨pr, 2, none⟩) hpw (.int .u8 x.k)).setCell (p := ⟨pr, 3, none⟩) hpw (.slice ai x.items.length capi)).setCell (p := ⟨pr, 4, none⟩) hpw (.slice ad x.dims.length capd)).alloc (by simpa using hw.size) (.cells #[.int .i64 x.d, .int .i64 x.l, .int .u8 x.k, .slice ai x.items.length capi, .slice ad x.dims.length capd] 46))
            refine ⟨hW, .inl ⟨x, _, _, ?_, rfl, sl_ext stays_item hW si, sl_ext stays_dim hW sd, hnum⟩⟩
            rw [← HX.out]
            exact findR_at R d l k hlt (by rw [HX.out]; simp [isRef, g1, g2]) HALL.out
        · have g2' : (x.l == l) = false := by simpa using g2
          go_wp2
          go_roundw
          case rel => exact ⟨k + 1, by go_num, by omega, hb.alloc hb.size _, all_step _ k HALL.out (fun _ => by rw [HX.out]; simp [isRef, g2'])⟩
          case measure => simp [intOf]; omega
      · have g1' : (x.d == d) = false := by simpa using g1
        go_wp2
        go_roundw
        case rel => exact ⟨k + 1, by go_num, by omega, hb.alloc hb.size _, all_step _ k HALL.out (fun _ => by rw [HX.out]; simp [isRef, g1'])⟩
        case measure => simp [intOf]; omega
    · clear h
      go_wp2
      refine bodyPost_ret (v := .tuple #[.agg #[.int .i64 0, .int .i64 0, .int .u8 0, .slice none 0 0, .slice none 0 0], .bool false]) ?_ rfl ?_
      · simp [results, Tryz.results58, go_sem, y0, y1, y2, y3, y4]
      · have hw := below_trans hb1 hb
        have hW := (((((hw.setCell (p := ⟨pr, 0, none⟩) hpw (.int .i64 0)).setCell (p := ⟨pr, 1, none⟩) hpw (.int .i64 0)).setCell (p := ⟨pr, 2, none⟩) hpw (.int .u8 0)).setCell (p := ⟨pr, 3, none⟩) hpw (.slice none 0 0)).setCell (p := ⟨pr, 4, none⟩) hpw (.slice none 0 0))
        exact ⟨hW, .inr ⟨findR_none R d l (fun j hj => HALL.out j (by omega) hj), rfl⟩⟩

end Go.Proofs.YtoibnhkiedpkgaaGreatDoor

namespace Go.Proofs.YtoibnhkiedpkgaaGreatDoor
open Go.RowKit

/-- An element in memory from block 'base' on, in a block of elements of type e that may be written to. -/
def Fr {α : Type} (base : Nat) (e : TypeId) (E : World → Nat → Nat → α → Prop) : World → Nat → Nat → α → Prop :=
  fun w b o x => E w b o x ∧ base ≤ b ∧ ∃ cur, w.heap[b]? = some (.cells cur e (0, 0))
theorem Fr.free {α : Type} {base : Nat} {e : TypeId} {E : World → Nat → Nat → α → Prop} {w : World} {b o : Nat} {x : α} (h : Fr base e E w b o x) (j : Nat) : w.frozen? ⟨b, j, none⟩ = false := by
  obtain ⟨_, _, cur, hc⟩ := h
  unfold World.frozen?
  rw [hc]
  simp
theorem Fr.lt {α : Type} {base : Nat} {e : TypeId} {E : World → Nat → Nat → α → Prop} {w : World} {b o : Nat} {x : α} (h : Fr base e E w b o x) : b < w.heap.size := by
  obtain ⟨_, _, cur, hc⟩ := h
  exact (Array.getElem?_eq_some_iff.1 hc).1
/-- The blocks of elements of type e from 'base' on are as they were. -/
def SameAt (base : Nat) (e : TypeId) (w w' : World) : Prop := ∀ k cur, base ≤ k → w.heap[k]? = some (.cells cur e (0, 0)) → w'.heap[k]? = some (.cells cur e (0, 0))
theorem same_below {base : Nat} {e : TypeId} {w w' : World} (hb : Below w.heap.size w w') : SameAt base e w w' := fun k _ _ hc => (hb.block k (Array.getElem?_eq_some_iff.1 hc).1).trans hc
theorem same_set {base g j : Nat} {e : TypeId} {w : World} {u : Value} (hg : g < base) : SameAt base e w (w.setCell ⟨g, j, none⟩ u) := fun k _ hk hc =>
  (Below.heap_setCell w ⟨g, j, none⟩ u k (by simp; omega)).trans hc
theorem same_set_type {base g j : Nat} {e e' : TypeId} {w : World} {u : Value} {cur : Array Value} (hg : w.heap[g]? = some (.cells cur e' (0, 0))) (hne : e ≠ e') : SameAt base e w (w.setCell ⟨g, j, none⟩ u) := fun k _ _ hc => by
  refine (Below.heap_setCell w ⟨g, j, none⟩ u k (fun h => ?_)).trans hc
  subst h
  rw [hg] at hc
  cases hc
  exact hne rfl
theorem same_grown {base : Nat} {e e' : TypeId} {w w' : World} {v : Value} {sz n : Nat} {cs : List Value} {base' : Nat} (hgr : w.grownBy w' v.ownBlock) (hown : w.ownsRow base' e' sz v n cs) (hne : e ≠ e') : SameAt base e w w' := fun k cur _ hc => by
  have hk := (Array.getElem?_eq_some_iff.1 hc).1
  refine (hgr.block k hk (fun h => ?_)).trans hc
  rcases hown.2 with ⟨rfl, _⟩ | ⟨g, cap, cur', rfl, _, hcur, _⟩
  · simp [Value.ownBlock] at h
  · simp [Value.ownBlock] at h
    subst h
    rw [hcur] at hc
    cases hc
    exact hne rfl
theorem SameAt.trans {base : Nat} {e : TypeId} {w w1 w2 : World} (h : SameAt base e w w1) (k : SameAt base e w1 w2) : SameAt base e w w2 := fun b cur hb hc => k b cur hb (h b cur hb hc)

theorem stays_fr {α : Type} {base : Nat} {e : TypeId} {E : World → Nat → Nat → α → Prop} (hE : Stays E) : Stays (Fr base e E) := fun w w' b o x hb h =>
  ⟨hE _ _ _ _ _ hb h.1, h.2.1, by obtain ⟨cur, hc⟩ := h.2.2; exact ⟨cur, same_below (base := 0) hb b cur (Nat.zero_le _) hc⟩⟩
theorem sl_map {α : Type} {E E' : World → Nat → Nat → α → Prop} {sz : Nat} {w : World} {v : Value} {xs : List α} (h : ∀ b o x, E w b o x → E' w b o x) (hs : Sl E sz w v xs) : Sl E' sz w v xs := by
  obtain ⟨a, cap, hv, hm, hc⟩ := hs
  exact ⟨a, cap, hv, hm, fun k hk => by obtain ⟨b, off, ha, he⟩ := hc k hk; exact ⟨b, off, ha, h _ _ _ he⟩⟩
theorem sl_to {α : Type} {E E' : World → Nat → Nat → α → Prop} {sz : Nat} {w w' : World} {v : Value} {xs : List α} (h : ∀ b o x, E w b o x → E' w' b o x) (hs : Sl E sz w v xs) : Sl E' sz w' v xs := by
  obtain ⟨a, cap, hv, hm, hc⟩ := hs
  exact ⟨a, cap, hv, hm, fun k hk => by obtain ⟨b, off, ha, he⟩ := hc k hk; exact ⟨b, off, ha, h _ _ _ he⟩⟩
theorem sl_unfr {α : Type} {base : Nat} {e : TypeId} {E : World → Nat → Nat → α → Prop} {sz : Nat} {w : World} {v : Value} {xs : List α} (h : Sl (Fr base e E) sz w v xs) : Sl E sz w v xs := sl_map (fun _ _ _ h => h.1) h
theorem sl_weak {α : Type} {base base' : Nat} (hb : base' ≤ base) {e : TypeId} {E : World → Nat → Nat → α → Prop} {sz : Nat} {w : World} {v : Value} {xs : List α} (h : Sl (Fr base e E) sz w v xs) : Sl (Fr base' e E) sz w v xs :=
  sl_map (fun _ _ _ h => ⟨h.1, Nat.le_trans hb h.2.1, h.2.2⟩) h
theorem sl_empty {α : Type} (E : World → Nat → Nat → α → Prop) (sz : Nat) (w : World) (a : Option Addr) (cap : Nat) : Sl E sz w (.slice a 0 cap) ([] : List α) :=
  ⟨a, cap, rfl, by simp, fun k hk => by simp at hk⟩
/-- A row that the call owns, and that reads as a list, may be written to. -/
theorem fr_of_own {α : Type} {E : World → Nat → Nat → α → Prop} {sz : Nat} {w : World} {v : Value} {xs : List α} {base : Nat} {e : TypeId} {cs : List Value} (h : Sl E sz w v xs) (hown : w.ownsRow base e sz v xs.length cs) : Sl (Fr base e E) sz w v xs := by
  obtain ⟨a, cap, hv, hm, hc⟩ := h
  refine ⟨a, cap, hv, hm, fun k hk => ?_⟩
  obtain ⟨b, off, ha, he⟩ := hc k hk
  refine ⟨b, off, ha, he, ?_⟩
  subst ha
  rcases hown.2 with ⟨h0, _⟩ | ⟨g, cap', cur, hv', hg, hcur, _⟩
  · rw [h0] at hv; cases hv
  · rw [hv'] at hv
    cases hv
    exact ⟨hg, cur, hcur⟩
theorem New.fr {α : Type} {E : World → Nat → Nat → α → Prop} {sz : Nat} {e : TypeId} {base : Nat} {w : World} {v : Value} {xs : List α} (h : New E sz e base w v xs) : Sl (Fr base e E) sz w v xs := by
  obtain ⟨h1, cs, h2⟩ := h
  exact fr_of_own h1 h2

/-- What lies in one block alone, and stays while that block is as it was. -/
def Local {α : Type} (E : World → Nat → Nat → α → Prop) : Prop := ∀ w w' b o x, w'.heap[b]? = w.heap[b]? → E w b o x → E w' b o x
theorem cell_local {w w' : World} {b o : Nat} {v : Value} (h : w'.heap[b]? = w.heap[b]?) (hc : Cell w b o v) : Cell w' b o v := by
  unfold Cell at *
  rw [World.cell?_of_block (w := w) (a := ⟨b, o, none⟩) h]
  exact hc
theorem local_int : Local AtInt := fun _ _ _ _ _ h ⟨h0, hr⟩ => ⟨cell_local h h0, hr⟩
theorem local_item : Local AtItem := fun _ _ _ _ _ h ⟨⟨h0, h1⟩, hr⟩ => ⟨⟨cell_local h h0, cell_local h h1⟩, hr⟩
theorem local_dim : Local AtDim := fun _ _ _ _ _ h ⟨⟨h0, h1, h2⟩, hr⟩ => ⟨⟨cell_local h h0, cell_local h h1, cell_local h h2⟩, hr⟩
theorem local_note : Local AtNote := fun _ _ _ _ _ h ⟨⟨h0, h1, h2, h3, h4, h5, h6, h7, h8, h9⟩, hr⟩ =>
  ⟨⟨cell_local h h0, cell_local h h1, cell_local h h2, cell_local h h3, cell_local h h4, cell_local h h5, cell_local h h6, cell_local h h7, cell_local h h8, cell_local h h9⟩, hr⟩
theorem local_heap : Local AtHeap := fun _ _ _ _ _ h ⟨⟨h0, h1, h2, h3⟩, hr⟩ => ⟨⟨cell_local h h0, cell_local h h1, cell_local h h2, cell_local h h3⟩, hr⟩
theorem local_report : Local AtReport := fun _ _ _ _ _ h ⟨⟨h0, h1, h2, h3, h4⟩, hr⟩ => ⟨⟨cell_local h h0, cell_local h h1, cell_local h h2, cell_local h h3, cell_local h h4⟩, hr⟩
theorem sl_same {α : Type} {base : Nat} {e : TypeId} {E : World → Nat → Nat → α → Prop} {sz : Nat} (hE : Local E) {w w' : World} (h : SameAt base e w w') {v : Value} {xs : List α} (hh : Sl (Fr base e E) sz w v xs) : Sl (Fr base e E) sz w' v xs :=
  sl_to (fun b o x ⟨he, hb, cur, hc⟩ => ⟨hE w w' b o x ((h b cur hb hc).trans hc.symm) he, hb, cur, h b cur hb hc⟩) hh
theorem sl_set {α : Type} {base g j : Nat} {e : TypeId} {u : Value} {E : World → Nat → Nat → α → Prop} {sz : Nat} (hE : Local E) (hg : g < base) {w : World} {v : Value} {xs : List α} (h : Sl (Fr base e E) sz w v xs) : Sl (Fr base e E) sz (w.setCell ⟨g, j, none⟩ u) v xs :=
  sl_same hE (same_set hg) h
theorem below_set {B g j : Nat} {u : Value} {w w' : World} (hg : B ≤ g) (h : Below B w w') : Below B w (w'.setCell ⟨g, j, none⟩ u) := h.setCell (p := ⟨g, j, none⟩) hg u
theorem grown_set (w : World) (g j : Nat) (u : Value) : w.grownBy (w.setCell ⟨g, j, none⟩ u) (some g) :=
  ⟨rfl, rfl, rfl, by simp, fun k _ hk => Below.heap_setCell w ⟨g, j, none⟩ u k (fun h => hk (by rw [h]))⟩
theorem own_set {w : World} {base g j : Nat} {e : TypeId} {sz n : Nat} {v u : Value} {cs : List Value} (h : w.ownsRow base e sz v n cs) (hg : g < base) : (w.setCell ⟨g, j, none⟩ u).ownsRow base e sz v n cs :=
  h.kept (grown_set w g j u) (.inr fun e => by have := (h.lt g e).1; omega)
theorem own_shape {w : World} {base : Nat} {e : TypeId} {sz : Nat} {v : Value} {k : Nat} {cs : List Value} (h : w.ownsRow base e sz v (k + 1) cs) : ∃ g cap, v = .slice (some ⟨g, 0, none⟩) (k + 1) cap := by
  rcases h.2 with ⟨_, h0⟩ | ⟨g, cap, _, rfl, _⟩
  · omega
  · exact ⟨g, cap, rfl⟩
theorem grown_cell {w w' : World} {base : Nat} {e : TypeId} {sz n : Nat} {v : Value} {cs : List Value} (hown : w.ownsRow base e sz v n cs) (hg : w.grownBy w' v.ownBlock) {b o : Nat} {u : Value} (hb : b < base) (h : Cell w b o u) : Cell w' b o u :=
  cell_local (hg.block b (cell_lt h) (fun e => by have := (hown.lt b e.symm).1; omega)) h
theorem free_local {w w' : World} {b : Nat} (hs : w.heap.size ≤ w'.heap.size) (h : w'.heap[b]? = w.heap[b]?) (hf : Free w b) : Free w' b :=
  ⟨Nat.lt_of_lt_of_le hf.1 hs, fun j => (World.frozen?_of_block (a := ⟨b, j, none⟩) h).trans (hf.2 j)⟩
theorem grown_free {w w' : World} {base : Nat} {e : TypeId} {sz n : Nat} {v : Value} {cs : List Value} (hown : w.ownsRow base e sz v n cs) (hg : w.grownBy w' v.ownBlock) {b : Nat} (hb : b < base) (h : Free w b) : Free w' b :=
  free_local hg.size (hg.block b h.1 (fun e => by have := (hown.lt b e.symm).1; omega)) h
theorem grown_below {w0 w w' : World} {base : Nat} {e : TypeId} {sz n : Nat} {v : Value} {cs : List Value} (hown : w.ownsRow base e sz v n cs) (hg : w.grownBy w' v.ownBlock) (hb : Below w0.heap.size w0 w) (hz : w0.heap.size ≤ base) : Below w0.heap.size w0 w' :=
  hb.grown hg hb.size (fun k e => Nat.le_trans hz (hown.lt k e).1)
theorem free_set {w : World} {b g j : Nat} {u : Value} (h : Free w b) : Free (w.setCell ⟨g, j, none⟩ u) b := ⟨by simpa using h.1, fun k => by rw [World.frozen?_setCell]; exact h.2 k⟩
theorem cell_set_off {w : World} {b o j : Nat} {u v : Value} (hne : o ≠ j) (h : Cell w b o v) : Cell (w.setCell ⟨b, j, none⟩ u) b o v := by
  unfold Cell at *
  rw [World.cell?_setCell_other]
  · exact h
  · intro e; cases e; exact hne rfl
theorem cell_set_same {w : World} {g j : Nat} {u v : Value} (h : Cell w g j v) : Cell (w.setCell ⟨g, j, none⟩ u) g j u := World.cell?_setCell_same w ⟨g, j, none⟩ u h
/-- An issue whose items and sizes lie in memory from block 'base' on. -/
def AtIssueN (base : Nat) (w : World) (b o : Nat) (x : Issue) : Prop :=
  (Cell w b o (.int .i64 x.d) ∧ Cell w b (o + 1) (.int .i64 x.l) ∧ Cell w b (o + 2) (.int .u8 x.k)) ∧ (I64 x.d ∧ I64 x.l ∧ U8 x.k) ∧
  ∃ vi vd, Cell w b (o + 3) vi ∧ Cell w b (o + 4) vd ∧ Sl (Fr base 48 AtItem) 2 w vi x.items ∧ Sl (Fr base 50 AtDim) 3 w vd x.dims
theorem issueN_issue {base : Nat} {w : World} {b o : Nat} {x : Issue} (h : AtIssueN base w b o x) : AtIssue w b o x := by
  obtain ⟨h1, h2, vi, vd, h3, h4, h5, h6⟩ := h
  exact ⟨h1, h2, vi, vd, h3, h4, sl_unfr h5, sl_unfr h6⟩
theorem stays_issueN {base : Nat} : Stays (AtIssueN base) := fun _ _ _ _ _ hb ⟨⟨h1, h2, h3⟩, hr, vi, vd, h4, h5, h6, h7⟩ =>
  ⟨⟨cell_ext hb h1, cell_ext hb h2, cell_ext hb h3⟩, hr, vi, vd, cell_ext hb h4, cell_ext hb h5, sl_ext (stays_fr stays_item) hb h6, sl_ext (stays_fr stays_dim) hb h7⟩
theorem sl_same_issue {base base' : Nat} {w w' : World} (h : SameAt base' 46 w w') (hi : SameAt base 48 w w') (hd : SameAt base 50 w w') {v : Value} {xs : List Issue} (hh : Sl (Fr base' 46 (AtIssueN base)) 5 w v xs) :
    Sl (Fr base' 46 (AtIssueN base)) 5 w' v xs :=
  sl_to (fun b o x ⟨⟨⟨h1, h2, h3⟩, hr, vi, vd, h4, h5, h6, h7⟩, hb, cur, hc⟩ => by
    have e := (h b cur hb hc).trans hc.symm
    exact ⟨⟨⟨cell_local e h1, cell_local e h2, cell_local e h3⟩, hr, vi, vd, cell_local e h4, cell_local e h5, sl_same local_item hi h6, sl_same local_dim hd h7⟩, hb, cur, h b cur hb hc⟩) hh

/-- The cells of a row of issues. -/
def IssRow (base : Nat) (w : World) (cs : List Value) (xs : List Issue) : Prop :=
  cs.length = xs.length * 5 ∧ ∀ k (hk : k < xs.length), (I64 xs[k].d ∧ I64 xs[k].l ∧ U8 xs[k].k) ∧ ∃ vi vd, cs[k * 5]? = some (.int .i64 xs[k].d) ∧ cs[k * 5 + 1]? = some (.int .i64 xs[k].l) ∧ cs[k * 5 + 2]? = some (.int .u8 xs[k].k) ∧
    cs[k * 5 + 3]? = some vi ∧ cs[k * 5 + 4]? = some vd ∧ Sl (Fr base 48 AtItem) 2 w vi xs[k].items ∧ Sl (Fr base 50 AtDim) 3 w vd xs[k].dims
theorem issRow_nil (base : Nat) (w : World) : IssRow base w [] [] := ⟨rfl, fun k hk => absurd hk (by simp)⟩
theorem issRow_snoc {base : Nat} {w : World} {cs : List Value} {xs : List Issue} (h : IssRow base w cs xs) (x : Issue) (vi vd : Value) (hn : I64 x.d ∧ I64 x.l ∧ U8 x.k) (hi : Sl (Fr base 48 AtItem) 2 w vi x.items) (hd : Sl (Fr base 50 AtDim) 3 w vd x.dims) :
    IssRow base w (cs ++ [.int .i64 x.d, .int .i64 x.l, .int .u8 x.k, vi, vd]) (xs ++ [x]) := by
  obtain ⟨hl, h⟩ := h
  refine ⟨by simp [hl]; omega, fun k hk => ?_⟩
  simp only [List.length_append, List.length_cons, List.length_nil] at hk
  by_cases e : k < xs.length
  · obtain ⟨h0, vi', vd', h1, h2, h3, h4, h5, h6, h7⟩ := h k e
    have ex : (xs ++ [x])[k] = xs[k] := List.getElem_append_left e
    refine ⟨by rw [ex]; exact h0, vi', vd', ?_, ?_, ?_, ?_, ?_, by rw [ex]; exact h6, by rw [ex]; exact h7⟩
    · rw [List.getElem?_append_left (by omega), ex]; exact h1
    · rw [List.getElem?_append_left (by omega), ex]; exact h2
    · rw [List.getElem?_append_left (by omega), ex]; exact h3
    · rw [List.getElem?_append_left (by omega)]; exact h4
    · rw [List.getElem?_append_left (by omega)]; exact h5
  · obtain rfl : k = xs.length := by omega
    have ex : (xs ++ [x])[xs.length] = x := by simp
    refine ⟨by rw [ex]; exact hn, vi, vd, ?_, ?_, ?_, ?_, ?_, by rw [ex]; exact hi, by rw [ex]; exact hd⟩
    · rw [List.getElem?_append_right (by omega), ex, show xs.length * 5 - cs.length = 0 by omega]; rfl
    · rw [List.getElem?_append_right (by omega), ex, show xs.length * 5 + 1 - cs.length = 1 by omega]; rfl
    · rw [List.getElem?_append_right (by omega), ex, show xs.length * 5 + 2 - cs.length = 2 by omega]; rfl
    · rw [List.getElem?_append_right (by omega), show xs.length * 5 + 3 - cs.length = 3 by omega]; rfl
    · rw [List.getElem?_append_right (by omega), show xs.length * 5 + 4 - cs.length = 4 by omega]; rfl
theorem issRow_same {base : Nat} {w w' : World} {cs : List Value} {xs : List Issue} (hi : SameAt base 48 w w') (hd : SameAt base 50 w w') (h : IssRow base w cs xs) : IssRow base w' cs xs := by
  obtain ⟨hl, h⟩ := h
  refine ⟨hl, fun k hk => ?_⟩
  obtain ⟨h0, vi', vd', h1, h2, h3, h4, h5, h6, h7⟩ := h k hk
  exact ⟨h0, vi', vd', h1, h2, h3, h4, h5, sl_same local_item hi h6, sl_same local_dim hd h7⟩
theorem issRow_sl {base base' : Nat} {w : World} {cs : List Value} {xs : List Issue} {v : Value} (h : IssRow base w cs xs) (hown : w.ownsRow base' 46 5 v xs.length cs) : Sl (Fr base' 46 (AtIssueN base)) 5 w v xs := by
  refine fr_of_own ?_ hown
  have hown' := hown
  obtain ⟨hl, h⟩ := h
  rcases hown.2 with ⟨rfl, hn0⟩ | ⟨g, cap, cur, rfl, _, _, hc, hcm, _⟩
  · exact ⟨none, 0, by rw [hn0], by omega, fun k hk => by omega⟩
  · refine ⟨some ⟨g, 0, none⟩, cap, rfl, by unfold maxLen at hcm; omega, fun k hk => ⟨g, 0, rfl, ?_⟩⟩
    obtain ⟨h0, vi', vd', h1, h2, h3, h4, h5, h6, h7⟩ := h k hk
    have key : ∀ j u, cs[j]? = some u → Cell w g j u := fun j u hj => by
      have := hown'.cells (g := g) rfl j u hj
      rw [add_at] at this
      exact this
    rw [Nat.zero_add]
    exact ⟨⟨key _ _ h1, key _ _ h2, key _ _ h3⟩, h0, vi', vd', key _ _ h4, key _ _ h5, h6, h7⟩

section
variable {P : Program}
theorem run_append_empty (w : World) (t ty e : TypeId) (i : TypeInfo) (ht : P.underlying t = some (.slice e)) (hi : P.info? e = some i) (g : Nat) (a : Option Addr) (c : Nat) :
    (Builtin.append_ #[t, t] ty #[.slice (some ⟨g, 0, none⟩) 0 0, .slice a 0 c]).run P w = .ok (.slice (some ⟨g, 0, none⟩) 0 0) w := by
  cases a with
  | none => simp [Builtin.append_, run_underlying ht, sizeOf, typeInfo, hi, Builtin.lenOf, Builtin.firstCells, storeCells]
  | some ad =>
    have := run_append_room_cells (P := P) w t ty e i ht hi g 0 0 0 ad 0 c [] (by simp) (fun j u h => by simp at h) (fun u h => by simp at h) (by omega) (fun j h => by simp at h) (fun j h => by simp at h)
    simpa [World.setCells] using this

/-- What is copied behind an empty slice without capacity. -/
theorem grows_append_copy {o : Oper} {a : Act} {w : World} (s x : Operand) (t : TypeId) (ho : o.op = .call { callee := .builtin .append, args := #[s, x], argTypes := #[t, t] })
    (e : TypeId) (i : TypeInfo) (z : Value) (sz bytes : Nat) (ht : P.underlying t = some (.slice e)) (hi : P.info? e = some i) (hz : i.zero = some z) (hsize : i.size = sz) (hby : i.bytes = bytes) (hzs : z.cells.size = sz) (hsz : 0 < sz) (hby2 : bytes ≤ 1000)
    {α : Type} {E : World → Nat → Nat → α → Prop} (hC : Copies E sz) (hE : HasCells E sz) (v0 v : Value) (xs : List α) (hs : a.eval s = v0) (hv0 : ∃ g, v0 = .slice (some ⟨g, 0, none⟩) 0 0) (hx : a.eval x = v) (hsl : Sl E sz w v xs) (hn : xs.length ≤ 100000) (base : Nat) (hbase : base ≤ w.heap.size) :
    o.grows P a w (fun u w' => Sl (Fr base e E) sz w' u xs) := by
  obtain ⟨g, rfl⟩ := hv0
  by_cases hx0 : xs = []
  · subst hx0
    obtain ⟨a', cap, rfl, _⟩ := sl_shape hsl
    have hrun := run_append_empty (P := P) w t o.type e i ht hi g a' cap
    unfold Oper.grows
    simp only [List.length_nil] at hx
    simp [execOp, ho, resolve, invoke, builtin, hs, hx, hrun, Result.andThen]
    exact ⟨Below.refl _ _, sl_empty _ _ _ _ _⟩
  · obtain ⟨a', cap, rfl, _⟩ := sl_shape hsl
    obtain ⟨_, hX⟩ := sl_at hsl
    obtain ⟨b, off, hh, _⟩ := hX 0 (List.length_pos_iff.2 hx0)
    cases hh
    have hEE : ∀ k (hk : k < xs.length), E w b (off + k * sz) xs[k] := fun k hk => by
      obtain ⟨b', off', hh, he⟩ := hX k hk
      cases hh
      exact he
    obtain ⟨news, hl, hc, h1⟩ := sl_news hE xs hEE
    have hpos := List.length_pos_iff.2 hx0
    obtain ⟨v', w', hrun, r1, r2⟩ := run_append_arg_grows (P := P) w t o.type e i z sz bytes ht hi hz hsize hby hzs hsz ⟨g, 0, none⟩ 0 0 [] (by simp) (fun j u hj => by simp at hj) ⟨b, off, none⟩ xs.length cap news hl (fun j u hj => by rw [Addr.add_lit]; exact hc j u hj)
      (by omega) (by unfold maxLen; omega) (by
        have : (0 + xs.length) * bytes ≤ 100000 * 1000 := Nat.mul_le_mul (by omega) hby2
        omega)
    have hb : Below w.heap.size w w' := (Below.refl _ w).grown r2 (Nat.le_refl _) (fun k e => by cases e)
    rw [Nat.zero_add, List.nil_append] at r1
    unfold Oper.grows
    simp [execOp, ho, resolve, invoke, builtin, hs, hx, hrun, Result.andThen]
    have hs' := sl_of_row hC hb hEE hl hc r1
    exact ⟨hb, sl_weak hbase (fr_of_own hs' r1)⟩
/-- The same, where the empty slice is a row of the call's own: so is what comes of it. -/
theorem grows_append_new {o : Oper} {a : Act} {w : World} (s x : Operand) (t : TypeId) (ho : o.op = .call { callee := .builtin .append, args := #[s, x], argTypes := #[t, t] })
    (e : TypeId) (i : TypeInfo) (z : Value) (sz bytes : Nat) (ht : P.underlying t = some (.slice e)) (hi : P.info? e = some i) (hz : i.zero = some z) (hsize : i.size = sz) (hby : i.bytes = bytes) (hzs : z.cells.size = sz) (hsz : 0 < sz) (hby2 : bytes ≤ 1000)
    {α : Type} {E : World → Nat → Nat → α → Prop} (hC : Copies E sz) (hE : HasCells E sz) (v0 v : Value) (xs : List α) (hs : a.eval s = v0) (hv0 : ∃ g, v0 = .slice (some ⟨g, 0, none⟩) 0 0) (hx : a.eval x = v) (hsl : Sl E sz w v xs) (hn : xs.length ≤ 100000) (base : Nat) (hbase : base ≤ w.heap.size)
    (hown0 : w.ownsRow base e sz v0 0 []) : o.grows P a w (fun u w' => New E sz e base w' u xs ∧ ∃ g cap, u = .slice (some ⟨g, 0, none⟩) xs.length cap) := by
  obtain ⟨g, rfl⟩ := hv0
  by_cases hx0 : xs = []
  · subst hx0
    obtain ⟨a', cap, rfl, _⟩ := sl_shape hsl
    have hrun := run_append_empty (P := P) w t o.type e i ht hi g a' cap
    unfold Oper.grows
    simp only [List.length_nil] at hx
    simp [execOp, ho, resolve, invoke, builtin, hs, hx, hrun, Result.andThen]
    exact ⟨Below.refl _ _, ⟨sl_empty _ _ _ _ _, _, hown0⟩, g, 0, rfl⟩
  · obtain ⟨a', cap, rfl, _⟩ := sl_shape hsl
    obtain ⟨_, hX⟩ := sl_at hsl
    obtain ⟨b, off, hh, _⟩ := hX 0 (List.length_pos_iff.2 hx0)
    cases hh
    have hEE : ∀ k (hk : k < xs.length), E w b (off + k * sz) xs[k] := fun k hk => by
      obtain ⟨b', off', hh, he⟩ := hX k hk
      cases hh
      exact he
    obtain ⟨news, hl, hc, h1⟩ := sl_news hE xs hEE
    have hpos := List.length_pos_iff.2 hx0
    obtain ⟨v', w', hrun, r1, r2⟩ := run_append_arg_grows (P := P) w t o.type e i z sz bytes ht hi hz hsize hby hzs hsz ⟨g, 0, none⟩ 0 0 [] (by simp) (fun j u hj => by simp at hj) ⟨b, off, none⟩ xs.length cap news hl (fun j u hj => by rw [Addr.add_lit]; exact hc j u hj)
      (by omega) (by unfold maxLen; omega) (by
        have : (0 + xs.length) * bytes ≤ 100000 * 1000 := Nat.mul_le_mul (by omega) hby2
        omega)
    have hb : Below w.heap.size w w' := (Below.refl _ w).grown r2 (Nat.le_refl _) (fun k e => by cases e)
    rw [Nat.zero_add, List.nil_append] at r1
    unfold Oper.grows
    simp [execOp, ho, resolve, invoke, builtin, hs, hx, hrun, Result.andThen]
    refine ⟨hb, ⟨sl_of_row hC hb hEE hl hc r1, news, hl, ?_⟩, ?_⟩
    · rcases r1.2 with h | ⟨g', cap', cur, h1, h2, h3⟩
      · exact .inl h
      · exact .inr ⟨g', cap', cur, h1, Nat.le_trans hbase h2, h3⟩
    · rcases r1.2 with h | ⟨g', cap', cur, h1, h2, h3⟩
      · omega
      · exact ⟨g', cap', h1⟩
end
end Go.Proofs.YtoibnhkiedpkgaaGreatDoor

namespace Go.Proofs.YtoibnhkiedpkgaaGreatDoor
open Go.RowKit

/-- A slice of n elements whose capacity is n at least. -/
def Capd (v : Value) (n : Nat) : Prop := ∃ a c, v = .slice a n c ∧ n ≤ c
theorem capd_own {w : World} {base n : Nat} {e : TypeId} {sz : Nat} {v : Value} {cs : List Value} (h : w.ownsRow base e sz v n cs) : Capd v n := by
  obtain ⟨_, h⟩ := h
  rcases h with ⟨rfl, h0⟩ | ⟨g, cap, cur, rfl, _, _, hn, _⟩
  · exact ⟨none, 0, by rw [h0], by omega⟩
  · exact ⟨_, _, rfl, hn⟩
section
variable {P : Program}
theorem grows_append_copyC {o : Oper} {a : Act} {w : World} (s x : Operand) (t : TypeId) (ho : o.op = .call { callee := .builtin .append, args := #[s, x], argTypes := #[t, t] })
    (e : TypeId) (i : TypeInfo) (z : Value) (sz bytes : Nat) (ht : P.underlying t = some (.slice e)) (hi : P.info? e = some i) (hz : i.zero = some z) (hsize : i.size = sz) (hby : i.bytes = bytes) (hzs : z.cells.size = sz) (hsz : 0 < sz) (hby2 : bytes ≤ 1000)
    {α : Type} {E : World → Nat → Nat → α → Prop} (hC : Copies E sz) (hE : HasCells E sz) (v0 v : Value) (xs : List α) (hs : a.eval s = v0) (hv0 : ∃ g, v0 = .slice (some ⟨g, 0, none⟩) 0 0) (hx : a.eval x = v) (hsl : Sl E sz w v xs) (hn : xs.length ≤ 100000) (base : Nat) (hbase : base ≤ w.heap.size) :
    o.grows P a w (fun u w' => Sl (Fr base e E) sz w' u xs ∧ Capd u xs.length) := by
  obtain ⟨g, rfl⟩ := hv0
  by_cases hx0 : xs = []
  · subst hx0
    obtain ⟨a', cap, rfl, _⟩ := sl_shape hsl
    have hrun := run_append_empty (P := P) w t o.type e i ht hi g a' cap
    unfold Oper.grows
    simp only [List.length_nil] at hx
    simp [execOp, ho, resolve, invoke, builtin, hs, hx, hrun, Result.andThen]
    exact ⟨Below.refl _ _, sl_empty _ _ _ _ _, _, _, rfl, Nat.zero_le _⟩
  · obtain ⟨a', cap, rfl, _⟩ := sl_shape hsl
    obtain ⟨_, hX⟩ := sl_at hsl
    obtain ⟨b, off, hh, _⟩ := hX 0 (List.length_pos_iff.2 hx0)
    cases hh
    have hEE : ∀ k (hk : k < xs.length), E w b (off + k * sz) xs[k] := fun k hk => by
      obtain ⟨b', off', hh, he⟩ := hX k hk
      cases hh
      exact he
    obtain ⟨news, hl, hc, h1⟩ := sl_news hE xs hEE
    have hpos := List.length_pos_iff.2 hx0
    obtain ⟨v', w', hrun, r1, r2⟩ := run_append_arg_grows (P := P) w t o.type e i z sz bytes ht hi hz hsize hby hzs hsz ⟨g, 0, none⟩ 0 0 [] (by simp) (fun j u hj => by simp at hj) ⟨b, off, none⟩ xs.length cap news hl (fun j u hj => by rw [Addr.add_lit]; exact hc j u hj)
      (by omega) (by unfold maxLen; omega) (by
        have : (0 + xs.length) * bytes ≤ 100000 * 1000 := Nat.mul_le_mul (by omega) hby2
        omega)
    have hb : Below w.heap.size w w' := (Below.refl _ w).grown r2 (Nat.le_refl _) (fun k e => by cases e)
    rw [Nat.zero_add, List.nil_append] at r1
    unfold Oper.grows
    simp [execOp, ho, resolve, invoke, builtin, hs, hx, hrun, Result.andThen]
    have hs' := sl_of_row hC hb hEE hl hc r1
    exact ⟨hb, sl_weak hbase (fr_of_own hs' r1), capd_own r1⟩
end

end Go.Proofs.YtoibnhkiedpkgaaGreatDoor

namespace Go.Proofs.YtoibnhkiedpkgaaGreatDoor
open Go.RowKit

set_option maxHeartbeats 400000 in
theorem sameInts02 (w : World) (v v' : Value) (xs : List Int) (hx : Sl AtInt 1 w v xs) (hy : Sl AtInt 1 w v' xs) :
    Calls Tryz.prog 25 #[v, v'] w fun e w' => e = .returned (.bool true) ∧ Below w.heap.size w w' := by
  obtain ⟨a, cap, rfl, hm⟩ := sl_shape hx
  obtain ⟨a', cap', rfl, _⟩ := sl_shape hy
  go_enter Tryz.func25, Tryz.ntmps25
  go_wp2
  go_loopw [5] (fun i wr => ∃ k : Nat, i = .int .i64 k ∧ k ≤ xs.length ∧ Below w.heap.size w wr) (fun i _ => xs.length - (intOf i).toNat)
  case atStart => exact ⟨0, rfl, by omega, Below.refl _ _⟩
  case round =>
    obtain ⟨k, rfl, hk, hb⟩ := hrel
    by_cases hlt : k < xs.length
    · have X := (sl_at (sl_ext stays_int hb hx)).2 k hlt
      have Y := (sl_at (sl_ext stays_int hb hy)).2 k hlt
      obtain ⟨b, off, rfl, hc, _⟩ := X
      obtain ⟨b', off', rfl, hc', _⟩ := Y
      unfold Cell at hc hc'
      rw [Nat.mul_one] at hc hc'
      generalize xs[k] = x at *
      clear hx hy
      go_wp2
      go_quiet (fail)
      go_wp2
      go_roundw
      case rel => exact ⟨k + 1, by go_num, by omega, below_trans hb (below_drew_n _ _)⟩
      case measure => simp [intOf]; omega
    · go_wp2
      go_ret
      exact ⟨rfl, hb⟩

set_option maxHeartbeats 400000 in
theorem sameItems02 (w : World) (v v' : Value) (xs : List Item) (hx : Sl AtItem 2 w v xs) (hy : Sl AtItem 2 w v' xs) :
    Calls Tryz.prog 74 #[v, v'] w fun e w' => e = .returned (.bool true) ∧ Below w.heap.size w w' := by
  obtain ⟨a, cap, rfl, hm⟩ := sl_shape hx
  obtain ⟨a', cap', rfl, _⟩ := sl_shape hy
  go_enter Tryz.func74, Tryz.ntmps74
  go_wp2
  go_loopw [5] (fun i wr => ∃ k : Nat, i = .int .i64 k ∧ k ≤ xs.length ∧ Below w.heap.size w wr) (fun i _ => xs.length - (intOf i).toNat)
  case atStart => exact ⟨0, rfl, by omega, Below.refl _ _⟩
  case round =>
    obtain ⟨k, rfl, hk, hb⟩ := hrel
    by_cases hlt : k < xs.length
    · have X := (sl_at (sl_ext stays_item hb hx)).2 k hlt
      have Y := (sl_at (sl_ext stays_item hb hy)).2 k hlt
      obtain ⟨b, off, rfl, ⟨hc0, hc1⟩, _⟩ := X
      obtain ⟨b', off', rfl, ⟨hc0', hc1'⟩, _⟩ := Y
      unfold Cell at hc0 hc1 hc0' hc1'
      generalize xs[k] = x at *
      clear hx hy
      go_wp2
      go_quiet (fail)
      go_wp2
      go_roundw
      case rel => exact ⟨k + 1, by go_num, by omega, below_trans hb (below_drew_n _ _)⟩
      case measure => simp [intOf]; omega
    · go_wp2
      go_ret
      exact ⟨rfl, hb⟩

end Go.Proofs.YtoibnhkiedpkgaaGreatDoor

namespace Go.Proofs.YtoibnhkiedpkgaaGreatDoor
open Go.RowKit

set_option maxHeartbeats 800000 in
theorem sameIssue02 (w : World) (x : Issue) (vi vi' vd vd' : Value) (hi : Sl AtItem 2 w vi x.items) (hi' : Sl AtItem 2 w vi' x.items) (hd : Sl AtDim 3 w vd x.dims) (hd' : Sl AtDim 3 w vd' x.dims) :
    Calls Tryz.prog 60 #[.agg #[.int .i64 x.d, .int .i64 x.l, .int .u8 x.k, vi, vd], .agg #[.int .i64 x.d, .int .i64 x.l, .int .u8 x.k, vi', vd']] w fun e w' => e = .returned (.bool true) ∧ Below w.heap.size w w' := by
  have hb1 := below_trans (below_alloc w (.cells #[.int .i64 x.d, .int .i64 x.l, .int .u8 x.k, vi, vd] 46)) (below_alloc _ (.cells #[.int .i64 x.d, .int .i64 x.l, .int .u8 x.k, vi', vd'] 46))
  have c3 := new_cell2 w (.cells #[.int .i64 x.d, .int .i64 x.l, .int .u8 x.k, vi, vd] 46) (.cells #[.int .i64 x.d, .int .i64 x.l, .int .u8 x.k, vi', vd'] 46) _ 3 vi (new_cell w _ _ 3 vi rfl)
  have c4 := new_cell2 w (.cells #[.int .i64 x.d, .int .i64 x.l, .int .u8 x.k, vi, vd] 46) (.cells #[.int .i64 x.d, .int .i64 x.l, .int .u8 x.k, vi', vd'] 46) _ 4 vd (new_cell w _ _ 4 vd rfl)
  have c3' := new_cell (w.alloc (.cells #[.int .i64 x.d, .int .i64 x.l, .int .u8 x.k, vi, vd] 46)) #[.int .i64 x.d, .int .i64 x.l, .int .u8 x.k, vi', vd'] 46 3 vi' rfl
  have c4' := new_cell (w.alloc (.cells #[.int .i64 x.d, .int .i64 x.l, .int .u8 x.k, vi, vd] 46)) #[.int .i64 x.d, .int .i64 x.l, .int .u8 x.k, vi', vd'] 46 4 vd' rfl
  rw [World.size_alloc] at c3' c4'
  obtain ⟨ad, capd, rfl, hmd⟩ := sl_shape hd
  obtain ⟨ad', capd', rfl, _⟩ := sl_shape hd'
  go_enter Tryz.func60, Tryz.ntmps60
  go_wp2_with fail
  generalize (w.alloc _).alloc _ = w1 at *

  refine (sameItems02 _ _ _ x.items (sl_ext stays_item hb1 hi) (sl_ext stays_item hb1 hi')).mono ?_
  rintro e w2 ⟨rfl, hb2⟩
  have d4 := cell_ext hb2 c4
  have d4' := cell_ext hb2 c4'
  have hb3 := hb1.trans (hb2.mono hb1.size)
  have hd3 := sl_ext stays_dim hb3 hd
  have hd3' := sl_ext stays_dim hb3 hd'
  clear c3 c4 c3' c4' hb1 hb2 hd hd' hi hi'
  have D4 := Lib.hid d4
  have D4' := Lib.hid d4'
  unfold Cell at d4 d4'
  go_wp2
  clear d4 d4'
  go_loopw [5] (fun i wr => ∃ k : Nat, i = .int .i64 k ∧ k ≤ x.dims.length ∧ Below w2.heap.size w2 wr) (fun i _ => x.dims.length - (intOf i).toNat)
  case atStart => exact ⟨0, rfl, by omega, Below.refl _ _⟩
  case round =>
    obtain ⟨k, rfl, hk, hb⟩ := hrel
    have e4 := cell_ext hb D4.out
    have e4' := cell_ext hb D4'.out
    unfold Cell at e4 e4'
    by_cases hlt : k < x.dims.length
    · have X := (sl_at (sl_ext stays_dim hb hd3)).2 k hlt
      have Y := (sl_at (sl_ext stays_dim hb hd3')).2 k hlt
      obtain ⟨b, off, rfl, ⟨hc0, hc1, hc2⟩, _⟩ := X
      obtain ⟨b', off', rfl, ⟨hc0', hc1', hc2'⟩, _⟩ := Y
      unfold Cell at hc0 hc1 hc2 hc0' hc1' hc2'
      generalize x.dims[k] = y at *
      clear hd3 hd3' D4 D4'
      go_wp2
      go_quiet (fail)
      go_wp2
      go_roundw
      case rel => exact ⟨k + 1, by go_num, by omega, below_trans hb (below_drew_n _ _)⟩
      case measure => simp [intOf]; omega
    · go_wp2
      go_ret
      exact ⟨rfl, hb3.trans (hb.mono hb3.size)⟩

end Go.Proofs.YtoibnhkiedpkgaaGreatDoor

namespace Go.Proofs.YtoibnhkiedpkgaaGreatDoor
open Go.RowKit

set_option maxRecDepth 100000 in
set_option maxHeartbeats 800000 in
theorem sameReg02 (w : World) (v v' : Value) (R : List Issue) (h : Sl AtIssue 5 w v R) (h' : Sl AtIssue 5 w v' R) :
    Calls Tryz.prog 44 #[.agg #[v], .agg #[v']] w fun e w' => e = .returned (.bool true) ∧ Below w.heap.size w w' := by
  obtain ⟨hb1, B1, B2⟩ := boxed2 w #[v] #[v'] 24 24
  have c := B1 0 v rfl
  have c' := B2 0 v' rfl
  clear B1 B2
  obtain ⟨a, cap, rfl, hm⟩ := sl_shape h
  obtain ⟨a', cap', rfl, _⟩ := sl_shape h'
  have h1 := sl_ext stays_issue hb1 h
  have h1' := sl_ext stays_issue hb1 h'
  clear h h'
  go_enter Tryz.func44, Tryz.ntmps44
  go_wp2
  generalize (w.alloc _).alloc _ = w1 at *
  go_loopw [5] (fun i wr => ∃ k : Nat, i = .int .i64 k ∧ k ≤ R.length ∧ Below w1.heap.size w1 wr) (fun i _ => R.length - (intOf i).toNat)
  case atStart => exact ⟨0, rfl, by omega, Below.refl _ _⟩
  case round =>
    obtain ⟨k, rfl, hk, hb⟩ := hrel
    have e := cell_ext hb c
    have e' := cell_ext hb c'
    clear c c'
    unfold Cell at e e'
    by_cases hlt : k < R.length
    · have X := (sl_at (sl_ext stays_issue hb h1)).2 k hlt
      have Y := (sl_at (sl_ext stays_issue hb h1')).2 k hlt
      clear h1 h1'
      obtain ⟨b, off, rfl, ⟨hc0, hc1, hc2⟩, _, vi, vd, hc3, hc4, si, sd⟩ := X
      obtain ⟨b', off', rfl, ⟨hc0', hc1', hc2'⟩, _, vi', vd', hc3', hc4', si', sd'⟩ := Y
      unfold Cell at hc0 hc1 hc2 hc3 hc4 hc0' hc1' hc2' hc3' hc4'
      generalize R[k] = x at *
      go_wp2
      go_still_tail 10, (by kernel_rfl)
      go_wp2_with fail
      refine (sameIssue02 _ x vi vi' vd vd' (sl_ext stays_item (below_drew wr) si) (sl_ext stays_item (below_drew wr) si') (sl_ext stays_dim (below_drew wr) sd) (sl_ext stays_dim (below_drew wr) sd')).mono ?_
      rintro ee w2 ⟨rfl, hb2⟩
      go_wp2
      go_roundw
      case rel => exact ⟨k + 1, by go_num, by omega, below_trans hb (below_trans (below_drew wr) hb2)⟩
      case measure => simp [intOf]; omega
    · go_wp2
      go_ret
      exact ⟨rfl, below_trans hb1 hb⟩

end Go.Proofs.YtoibnhkiedpkgaaGreatDoor

namespace Go.Proofs.YtoibnhkiedpkgaaGreatDoor
open Go.RowKit

set_option maxRecDepth 100000 in
set_option maxHeartbeats 800000 in
theorem sameNotes03 (w : World) (vr vn vr' vn' : Value) (R : List Issue) (N : List Note) (hr : Sl AtIssue 5 w vr R) (hr' : Sl AtIssue 5 w vr' R) (hn : Sl AtNote 10 w vn N) (hn' : Sl AtNote 10 w vn' N) :
    Calls Tryz.prog 24 #[.agg #[vr, vn], .agg #[vr', vn']] w fun e w' => e = .returned (.bool true) ∧ Below w.heap.size w w' := by
  obtain ⟨hb1, B1, B2⟩ := boxed2 w #[vr, vn] #[vr', vn'] 27 27
  have c := B1 1 vn rfl
  have c' := B2 1 vn' rfl
  clear B1 B2
  obtain ⟨a, cap, rfl, hm⟩ := sl_shape hn
  obtain ⟨a', cap', rfl, _⟩ := sl_shape hn'
  go_enter Tryz.func24, Tryz.ntmps24
  go_wp2_with fail
  generalize (w.alloc _).alloc _ = w1 at *
  refine (sameReg02 _ vr vr' R (sl_ext stays_issue hb1 hr) (sl_ext stays_issue hb1 hr')).mono ?_
  rintro e w2 ⟨rfl, hb2⟩
  have d := cell_ext hb2 c
  have d' := cell_ext hb2 c'
  have hb3 := below_trans hb1 hb2
  have h3 := sl_ext stays_note hb3 hn
  have h3' := sl_ext stays_note hb3 hn'
  clear hn hn' hr hr' c c' hb1 hb2
  have D := Lib.hid d
  have D' := Lib.hid d'
  unfold Cell at d d'
  go_wp2
  clear d d'
  go_loopw [5] (fun i wr => ∃ k : Nat, i = .int .i64 k ∧ k ≤ N.length ∧ Below w2.heap.size w2 wr) (fun i _ => N.length - (intOf i).toNat)
  case atStart => exact ⟨0, rfl, by omega, Below.refl _ _⟩
  case round =>
    obtain ⟨k, rfl, hk, hb⟩ := hrel
    have e4 := cell_ext hb D.out
    have e4' := cell_ext hb D'.out
    clear D D'
    unfold Cell at e4 e4'
    by_cases hlt : k < N.length
    · have X := (sl_at (sl_ext stays_note hb h3)).2 k hlt
      have Y := (sl_at (sl_ext stays_note hb h3')).2 k hlt
      clear h3 h3'
      obtain ⟨b, off, rfl, ⟨p0, p1, p2, p3, p4, p5, p6, p7, p8, p9⟩, _⟩ := X
      obtain ⟨b', off', rfl, ⟨q0, q1, q2, q3, q4, q5, q6, q7, q8, q9⟩, _⟩ := Y
      unfold Cell at p0 p1 p2 p3 p4 p5 p6 p7 p8 p9 q0 q1 q2 q3 q4 q5 q6 q7 q8 q9
      generalize N[k] = y at *
      go_wp2
      go_quiet (fail)
      go_wp2
      go_roundw
      case rel => exact ⟨k + 1, by go_num, by omega, below_trans hb (below_drew_n _ _)⟩
      case measure => simp [intOf]; omega
    · go_wp2
      go_ret
      exact ⟨rfl, below_trans hb3 hb⟩

end Go.Proofs.YtoibnhkiedpkgaaGreatDoor

namespace Go.Proofs.YtoibnhkiedpkgaaGreatDoor
open Go.RowKit

/-- Machines in memory: the values of their five fields. -/
structure BuiltAt (w : World) (vr vn vm vh vs : Value) (b : Built) : Prop where
  reg : Sl AtIssue 5 w vr b.ns.reg
  notes : Sl AtNote 10 w vn b.ns.notes
  ms : Sl AtInt 1 w vm b.ms
  hs : Sl AtHeap 4 w vh b.hs
  rs : Sl AtReport 5 w vs b.rs
  of : I64 b.of

theorem BuiltAt.ext {w w' : World} {vr vn vm vh vs : Value} {b : Built} (hb : Below w.heap.size w w') (h : BuiltAt w vr vn vm vh vs b) : BuiltAt w' vr vn vm vh vs b :=
  ⟨sl_ext stays_issue hb h.reg, sl_ext stays_note hb h.notes, sl_ext stays_int hb h.ms, sl_ext stays_heap hb h.hs, sl_ext stays_report hb h.rs, h.of⟩

set_option maxRecDepth 100000 in
set_option maxHeartbeats 1600000 in
theorem sameBuilt08 (w : World) (vr vn vm vh vs vr' vn' vm' vh' vs' : Value) (b : Built) (h : BuiltAt w vr vn vm vh vs b) (h' : BuiltAt w vr' vn' vm' vh' vs' b) :
    Calls Tryz.prog 8 #[.agg #[vr, vn, .int .i64 b.of, vm, vh, vs], .agg #[vr', vn', .int .i64 b.of, vm', vh', vs']] w fun e w' => e = .returned (.bool true) ∧ Below w.heap.size w w' := by
  obtain ⟨hb1, B1, B2⟩ := boxed2 w #[vr, vn, .int .i64 b.of, vm, vh, vs] #[vr', vn', .int .i64 b.of, vm', vh', vs'] 32 32
  have c2 := B1 2 _ rfl
  have c2' := B2 2 _ rfl
  have c3 := B1 3 vm rfl
  have c3' := B2 3 vm' rfl
  have c4 := B1 4 vh rfl
  have c4' := B2 4 vh' rfl
  have c5 := B1 5 vs rfl
  have c5' := B2 5 vs' rfl
  clear B1 B2
  obtain ⟨ah, caph, rfl, hmh⟩ := sl_shape h.hs
  obtain ⟨ah', caph', rfl, _⟩ := sl_shape h'.hs
  obtain ⟨az, capz, rfl, hms⟩ := sl_shape h.rs
  obtain ⟨az', capz', rfl, _⟩ := sl_shape h'.rs
  go_enter Tryz.func8, Tryz.ntmps8
  go_wp2_with fail
  generalize (w.alloc _).alloc _ = w1 at *
  refine (sameNotes03 _ vr vn vr' vn' b.ns.reg b.ns.notes (h.ext hb1).reg (h'.ext hb1).reg (h.ext hb1).notes (h'.ext hb1).notes).mono ?_
  rintro e w2 ⟨rfl, hb2⟩
  have hb3 := below_trans hb1 hb2
  have d2 := cell_ext hb2 c2
  have d2' := cell_ext hb2 c2'
  have d3 := cell_ext hb2 c3
  have d3' := cell_ext hb2 c3'
  have d4 := cell_ext hb2 c4
  have d4' := cell_ext hb2 c4'
  have d5 := cell_ext hb2 c5
  have d5' := cell_ext hb2 c5'
  clear c2 c2' c3 c3' c4 c4' c5 c5' hb1 hb2
  have D4 := Lib.hid d4
  have D4' := Lib.hid d4'
  have D5 := Lib.hid d5
  have D5' := Lib.hid d5'
  clear d4 d4' d5 d5'
  unfold Cell at d2 d2' d3 d3'
  go_wp2_with fail
  clear d2 d2' d3 d3'
  refine (sameInts02 _ vm vm' b.ms (h.ext hb3).ms (h'.ext hb3).ms).mono ?_
  rintro e w3 ⟨rfl, hb4⟩
  have hb5 := below_trans hb3 hb4
  have d4 := cell_ext hb4 D4.out
  have d4' := cell_ext hb4 D4'.out
  have d5 := cell_ext hb4 D5.out
  have d5' := cell_ext hb4 D5'.out
  clear D4 D4' D5 D5' hb3 hb4
  have D4 := Lib.hid d4
  have D4' := Lib.hid d4'
  have D5 := Lib.hid d5
  have D5' := Lib.hid d5'
  unfold Cell at d4 d4' d5 d5'
  have k1 := (h.ext hb5).hs
  have k1' := (h'.ext hb5).hs
  have k2 := (h.ext hb5).rs
  have k2' := (h'.ext hb5).rs
  clear h h'
  go_wp2
  clear d4 d4' d5 d5'
  go_loopw [5] (fun i wr => ∃ k : Nat, i = .int .i64 k ∧ k ≤ b.hs.length ∧ Below w3.heap.size w3 wr) (fun i _ => b.hs.length - (intOf i).toNat)
  case atStart => exact ⟨0, rfl, by omega, Below.refl _ _⟩
  case round =>
    obtain ⟨k, rfl, hk, hb⟩ := hrel
    have e4 := cell_ext hb D4.out
    have e4' := cell_ext hb D4'.out
    unfold Cell at e4 e4'
    by_cases hlt : k < b.hs.length
    · have X := (sl_at (sl_ext stays_heap hb k1)).2 k hlt
      have Y := (sl_at (sl_ext stays_heap hb k1')).2 k hlt
      clear k1 k1' k2 k2'
      obtain ⟨g, off, rfl, ⟨p0, p1, p2, p3⟩, _⟩ := X
      obtain ⟨g', off', rfl, ⟨q0, q1, q2, q3⟩, _⟩ := Y
      unfold Cell at p0 p1 p2 p3 q0 q1 q2 q3
      generalize b.hs[k] = y at *
      go_wp2
      go_quiet (fail)
      go_wp2
      go_roundw
      case rel => exact ⟨k + 1, by go_num, by omega, below_trans hb (below_drew_n _ _)⟩
      case measure => simp [intOf]; omega
    · have hb6 := below_trans hb5 hb
      have e5 := cell_ext hb D5.out
      have e5' := cell_ext hb D5'.out
      have m2 := sl_ext stays_report hb k2
      have m2' := sl_ext stays_report hb k2'
      clear k1 k1' k2 k2' D4 D4' D5 D5' hb5 hb
      have E5 := Lib.hid e5
      have E5' := Lib.hid e5'
      clear e5 e5'
      obtain ⟨wo, rfl⟩ : ∃ wo : World, wo = wr := ⟨_, rfl⟩
      go_wp2
      clear e4 e4' hk hlt
      go_loopw [6] (fun i wr => ∃ k : Nat, i = .int .i64 k ∧ k ≤ b.rs.length ∧ Below wo.heap.size wo wr) (fun i _ => b.rs.length - (intOf i).toNat)
      case atStart => exact ⟨0, rfl, by omega, Below.refl _ _⟩
      case round =>
        obtain ⟨k, rfl, hk, hb⟩ := hrel
        have e5 := cell_ext hb E5.out
        have e5' := cell_ext hb E5'.out
        unfold Cell at e5 e5'
        by_cases hlt : k < b.rs.length
        · have X := (sl_at (sl_ext stays_report hb m2)).2 k hlt
          have Y := (sl_at (sl_ext stays_report hb m2')).2 k hlt
          clear m2 m2'
          obtain ⟨g, off, rfl, ⟨p0, p1, p2, p3, p4⟩, _⟩ := X
          obtain ⟨g', off', rfl, ⟨q0, q1, q2, q3, q4⟩, _⟩ := Y
          unfold Cell at p0 p1 p2 p3 p4 q0 q1 q2 q3 q4
          generalize b.rs[k] = y at *
          go_wp2
          go_quiet (fail)
          go_wp2
          go_roundw
          case rel => exact ⟨k + 1, by go_num, by omega, below_trans hb (below_drew_n _ _)⟩
          case measure => simp [intOf]; omega
        · go_wp2
          go_ret
          exact ⟨rfl, below_trans hb6 hb⟩

end Go.Proofs.YtoibnhkiedpkgaaGreatDoor

namespace Go.Proofs.YtoibnhkiedpkgaaGreatDoor
open Go.RowKit Go.ChangeShapes Go.WideShapes

section
variable {H : Type} {enc : TypeId × Value → H} {w : World} {sp : Nat → Bool} {hd : Bool}

theorem sub_get {cs : List Value} {o k j : Nat} {v : Value} (h : ((cs.drop o).take k)[j]? = some v) : cs[o + j]? = some v := by
  rw [List.getElem?_take] at h
  split at h
  · rw [List.getElem?_drop] at h; exact h
  · cases h
theorem leaf_one {cs : List Value} {o : Nat} {v : Value} (h : (cs.drop o).take 1 = [v]) : cs[o]? = some v := by
  have : ((cs.drop o).take 1)[0]? = some v := by rw [h]; rfl
  exact sub_get this
theorem cells_i : Tryz.prog.cellsOf 3 = 1 := by kernel_rfl
theorem cells_u : Tryz.prog.cellsOf 5 = 1 := by kernel_rfl
theorem cells_b : Tryz.prog.cellsOf 4 = 1 := by kernel_rfl
theorem leaf_i {n o : Nat} {cs : List Value} {y : DataW H × List MemPlace} (h : DataW.trod enc Tryz.prog w 0 sp hd n 3 ((cs.drop o).take (Tryz.prog.cellsOf 3)) = some y) : ∃ x, cs[o]? = some (.int .i64 x) ∧ I64 x := by
  rw [cells_i] at h
  obtain ⟨x, e, _, hw⟩ := DataW.trod_int Tryz.underlying3 h
  refine ⟨x, leaf_one e, ?_⟩
  simp [Lit.wf, IntKind.has, IntKind.min, IntKind.max, IntKind.signed, IntKind.bits] at hw
  unfold I64
  omega
theorem leaf_u {n o : Nat} {cs : List Value} {y : DataW H × List MemPlace} (h : DataW.trod enc Tryz.prog w 0 sp hd n 5 ((cs.drop o).take (Tryz.prog.cellsOf 5)) = some y) : ∃ x, cs[o]? = some (.int .u8 x) ∧ U8 x := by
  rw [cells_u] at h
  obtain ⟨x, e, _, hw⟩ := DataW.trod_int Tryz.underlying5 h
  refine ⟨x, leaf_one e, ?_⟩
  simp [Lit.wf, IntKind.has, IntKind.min, IntKind.max, IntKind.signed, IntKind.bits] at hw
  unfold U8
  omega
theorem leaf_b {n o : Nat} {cs : List Value} {y : DataW H × List MemPlace} (h : DataW.trod enc Tryz.prog w 0 sp hd n 4 ((cs.drop o).take (Tryz.prog.cellsOf 4)) = some y) : ∃ x, cs[o]? = some (.bool x) := by
  rw [cells_b] at h
  obtain ⟨x, e, _⟩ := DataW.trod_bool Tryz.underlying4 h
  exact ⟨x, leaf_one e⟩
theorem fields_of {n : Nat} {t : TypeId} {fs : Array Field} {cs : List Value} {y : DataW H × List MemPlace} (ht : Tryz.prog.underlying t = some (.struct fs)) (h : DataW.trod enc Tryz.prog w 0 sp hd n t cs = some y) :
    cs.length = Tryz.prog.cellsOf t ∧ ∃ m, ∀ (i : Nat) (f : Field), fs[i]? = some f → ∃ z, DataW.trod enc Tryz.prog w 0 sp hd m f.type ((cs.drop f.offset).take (Tryz.prog.cellsOf f.type)) = some z := by
  obtain ⟨xs, m, _, _, hl, hx, hf⟩ := DataW.trod_struct ht h
  refine ⟨hl, m, fun i f hi => ?_⟩
  have hlt : i < xs.length := by rw [hx]; exact (Array.getElem?_eq_some_iff.1 hi).1
  exact ⟨xs[i], by rw [hf i f hi, List.getElem?_eq_getElem hlt]⟩
theorem list_of {α : Type} : ∀ (n : Nat) (p : Nat → α → Prop), (∀ i, i < n → ∃ x, p i x) → ∃ xs : List α, xs.length = n ∧ ∀ i (h : i < xs.length), p i xs[i]
  | 0, _, _ => ⟨[], rfl, fun i h => by simp at h⟩
  | n + 1, p, h => by
    obtain ⟨xs, hl, hx⟩ := list_of n p (fun i hi => h i (by omega))
    obtain ⟨x, hp⟩ := h n (by omega)
    refine ⟨xs ++ [x], by simp [hl], fun i hi => ?_⟩
    by_cases e : i < xs.length
    · rw [List.getElem_append_left e]; exact hx i e
    · have e2 : i = n := by simp at hi; omega
      subst e2
      have : (xs ++ [x])[i] = x := by simp [← hl]
      rw [this]; exact hp
theorem leaf_sl {n o sz : Nat} {t e : TypeId} {cs : List Value} {y : DataW H × List MemPlace} {α : Type} {E : World → Nat → Nat → α → Prop} (ht : Tryz.prog.underlying t = some (.slice e)) (hc : Tryz.prog.cellsOf t = 1) (hz : Tryz.prog.cellsOf e = sz) (hpos : 0 < sz)
    (hE : ∀ (m : Nat) (cs' : List Value) (z : DataW H × List MemPlace) (b o' : Nat), DataW.trod enc Tryz.prog w 0 sp hd m e cs' = some z → (∀ j v, cs'[j]? = some v → Cell w b (o' + j) v) → ∃ x, E w b o' x)
    (h : DataW.trod enc Tryz.prog w 0 sp hd n t ((cs.drop o).take (Tryz.prog.cellsOf t)) = some y) : ∃ v xs, cs[o]? = some v ∧ Sl E sz w v xs ∧ Capd v xs.length := by
  rw [hc] at h
  rcases Deep.open_slice ht h with ⟨e0, _⟩ | ⟨a, len, cap, m, k, D, Pl, e0, _, hl, hm, hmm, _, hx⟩
  · exact ⟨_, [], leaf_one e0, sl_empty _ _ _ _ _, _, _, rfl, Nat.zero_le _⟩
  · rw [hz] at hx
    have hlm : len ≤ m := by rw [hmm]; split <;> omega
    have key : ∀ i, i < len → ∃ x, ∃ b off, a = ⟨b, off, none⟩ ∧ E w b (off + i * sz) x := fun i hi => by
      obtain ⟨cs', h1, h2⟩ := hx i (by omega)
      obtain ⟨_, hlen, hcell⟩ := World.cells?_some h1
      obtain ⟨cs0, h10, _⟩ := hx 0 (by omega)
      obtain ⟨_, hlen0, hcell0⟩ := World.cells?_some h10
      obtain ⟨b, off, spot⟩ := a
      have h0 := hcell0 0 hpos
      rw [List.getElem?_eq_getElem (by omega)] at h0
      have hspot : spot = none := by simpa [Addr.add] using World.cell?_spot h0
      subst hspot
      obtain ⟨x, hX⟩ := hE _ cs' _ b (off + i * sz) h2 (fun j v hj => by
        have hj2 : j < sz := by rw [← hlen]; exact (List.getElem?_eq_some_iff.1 hj).1
        have := hcell j hj2
        rw [hj] at this
        simp only [Addr.add_lit] at this
        exact this)
      exact ⟨x, b, off, rfl, hX⟩
    obtain ⟨xs, hxl, hxs⟩ := list_of len _ key
    subst hxl
    refine ⟨_, xs, leaf_one e0, ⟨some a, cap, rfl, by unfold maxLen at hm; omega, fun i hi => ?_⟩, _, _, rfl, hl⟩
    obtain ⟨b, off, rfl, hX⟩ := hxs i hi
    exact ⟨b, off, rfl, hX⟩
theorem el_item (m : Nat) (cs : List Value) (z : DataW H × List MemPlace) (b o : Nat) (h : DataW.trod enc Tryz.prog w 0 sp hd m 48 cs = some z) (hc : ∀ j v, cs[j]? = some v → Cell w b (o + j) v) : ∃ x, AtItem w b o x := by
  obtain ⟨_, k, hf⟩ := fields_of Tryz.underlying48 h
  obtain ⟨_, h0⟩ := hf 0 _ rfl
  obtain ⟨x0, c0, r0⟩ := leaf_i h0
  obtain ⟨_, h1⟩ := hf 1 _ rfl
  obtain ⟨x1, c1, r1⟩ := leaf_i h1
  exact ⟨⟨x0, x1⟩, ⟨hc 0 _ c0, hc 1 _ c1⟩, r0, r1⟩
theorem el_dim (m : Nat) (cs : List Value) (z : DataW H × List MemPlace) (b o : Nat) (h : DataW.trod enc Tryz.prog w 0 sp hd m 50 cs = some z) (hc : ∀ j v, cs[j]? = some v → Cell w b (o + j) v) : ∃ x, AtDim w b o x := by
  obtain ⟨_, k, hf⟩ := fields_of Tryz.underlying50 h
  obtain ⟨_, h0⟩ := hf 0 _ rfl
  obtain ⟨x0, c0, r0⟩ := leaf_i h0
  obtain ⟨_, h1⟩ := hf 1 _ rfl
  obtain ⟨x1, c1, r1⟩ := leaf_i h1
  obtain ⟨_, h2⟩ := hf 2 _ rfl
  obtain ⟨x2, c2, r2⟩ := leaf_i h2
  exact ⟨⟨x0, x1, x2⟩, ⟨hc 0 _ c0, hc 1 _ c1, hc 2 _ c2⟩, r0, r1, r2⟩
theorem el_note (m : Nat) (cs : List Value) (z : DataW H × List MemPlace) (b o : Nat) (h : DataW.trod enc Tryz.prog w 0 sp hd m 52 cs = some z) (hc : ∀ j v, cs[j]? = some v → Cell w b (o + j) v) : ∃ x, AtNote w b o x := by
  obtain ⟨_, k, hf⟩ := fields_of Tryz.underlying52 h
  obtain ⟨_, h0⟩ := hf 0 _ rfl
  obtain ⟨x0, c0, r0⟩ := leaf_i h0
  obtain ⟨_, h1⟩ := hf 1 _ rfl
  obtain ⟨x1, c1, r1⟩ := leaf_i h1
  obtain ⟨_, h2⟩ := hf 2 _ rfl
  obtain ⟨x2, c2, r2⟩ := leaf_u h2
  obtain ⟨_, h3⟩ := hf 3 _ rfl
  obtain ⟨x3, c3, r3⟩ := leaf_i h3
  obtain ⟨_, h4⟩ := hf 4 _ rfl
  obtain ⟨x4, c4, r4⟩ := leaf_i h4
  obtain ⟨_, h5⟩ := hf 5 _ rfl
  obtain ⟨x5, c5, r5⟩ := leaf_i h5
  obtain ⟨_, h6⟩ := hf 6 _ rfl
  obtain ⟨x6, c6, r6⟩ := leaf_i h6
  obtain ⟨_, h7⟩ := hf 7 _ rfl
  obtain ⟨x7, c7, r7⟩ := leaf_i h7
  obtain ⟨_, h8⟩ := hf 8 _ rfl
  obtain ⟨x8, c8⟩ := leaf_b h8
  obtain ⟨_, h9⟩ := hf 9 _ rfl
  obtain ⟨x9, c9, r9⟩ := leaf_u h9
  exact ⟨⟨x0, x1, x2, x3, x4, x5, x6, x7, x8, x9⟩, ⟨hc 0 _ c0, hc 1 _ c1, hc 2 _ c2, hc 3 _ c3, hc 4 _ c4, hc 5 _ c5, hc 6 _ c6, hc 7 _ c7, hc 8 _ c8, hc 9 _ c9⟩, r0, r1, r2, r3, r4, r5, r6, r7, r9⟩
theorem el_report (m : Nat) (cs : List Value) (z : DataW H × List MemPlace) (b o : Nat) (h : DataW.trod enc Tryz.prog w 0 sp hd m 34 cs = some z) (hc : ∀ j v, cs[j]? = some v → Cell w b (o + j) v) : ∃ x, AtReport w b o x := by
  obtain ⟨_, k, hf⟩ := fields_of Tryz.underlying34 h
  obtain ⟨_, h0⟩ := hf 0 _ rfl
  obtain ⟨x0, c0, r0⟩ := leaf_i h0
  obtain ⟨_, h1⟩ := hf 1 _ rfl
  obtain ⟨x1, c1, r1⟩ := leaf_i h1
  obtain ⟨_, h2⟩ := hf 2 _ rfl
  obtain ⟨x2, c2, r2⟩ := leaf_i h2
  obtain ⟨_, h3⟩ := hf 3 _ rfl
  obtain ⟨x3, c3, r3⟩ := leaf_i h3
  obtain ⟨_, h4⟩ := hf 4 _ rfl
  obtain ⟨x4, c4, r4⟩ := leaf_u h4
  exact ⟨⟨x0, x1, x2, x3, x4⟩, ⟨hc 0 _ c0, hc 1 _ c1, hc 2 _ c2, hc 3 _ c3, hc 4 _ c4⟩, r0, r1, r2, r3, r4⟩
theorem el_int (m : Nat) (cs : List Value) (z : DataW H × List MemPlace) (b o : Nat) (h : DataW.trod enc Tryz.prog w 0 sp hd m 3 cs = some z) (hc : ∀ j v, cs[j]? = some v → Cell w b (o + j) v) : ∃ x, AtInt w b o x := by
  obtain ⟨x, e, _, hw⟩ := DataW.trod_int Tryz.underlying3 h
  subst e
  refine ⟨x, hc 0 _ rfl, ?_⟩
  simp [Lit.wf, IntKind.has, IntKind.min, IntKind.max, IntKind.signed, IntKind.bits] at hw
  unfold I64
  omega
theorem el_heap (m : Nat) (cs : List Value) (z : DataW H × List MemPlace) (b o : Nat) (h : DataW.trod enc Tryz.prog w 0 sp hd m 56 cs = some z) (hc : ∀ j v, cs[j]? = some v → Cell w b (o + j) v) : ∃ x, AtHeap w b o x := by
  obtain ⟨_, k, hf⟩ := fields_of Tryz.underlying56 h
  obtain ⟨_, h0⟩ := hf 0 _ rfl
  obtain ⟨x0, c0, r0⟩ := leaf_i h0
  obtain ⟨_, h1⟩ := hf 1 _ rfl
  obtain ⟨x1, c1, r1⟩ := leaf_i h1
  obtain ⟨_, h2⟩ := hf 2 _ rfl
  obtain ⟨_, k2, hg⟩ := fields_of Tryz.underlying54 h2
  obtain ⟨_, g0⟩ := hg 0 _ rfl
  obtain ⟨x2, c2, r2⟩ := leaf_i g0
  obtain ⟨_, g1⟩ := hg 1 _ rfl
  obtain ⟨x3, c3, r3⟩ := leaf_i g1
  exact ⟨⟨x0, x1, x2, x3⟩, ⟨hc 0 _ c0, hc 1 _ c1, hc 2 _ (sub_get c2), hc 3 _ (sub_get c3)⟩, r0, r1, r2, r3⟩
theorem el_issue (m : Nat) (cs : List Value) (z : DataW H × List MemPlace) (b o : Nat) (h : DataW.trod enc Tryz.prog w 0 sp hd m 46 cs = some z) (hc : ∀ j v, cs[j]? = some v → Cell w b (o + j) v) : ∃ x, AtIssue w b o x := by
  obtain ⟨_, k, hf⟩ := fields_of Tryz.underlying46 h
  obtain ⟨_, h0⟩ := hf 0 _ rfl
  obtain ⟨x0, c0, r0⟩ := leaf_i h0
  obtain ⟨_, h1⟩ := hf 1 _ rfl
  obtain ⟨x1, c1, r1⟩ := leaf_i h1
  obtain ⟨_, h2⟩ := hf 2 _ rfl
  obtain ⟨x2, c2, r2⟩ := leaf_u h2
  obtain ⟨_, h3⟩ := hf 3 _ rfl
  obtain ⟨v3, x3, c3, s3, _⟩ := leaf_sl (E := AtItem) (sz := 2) Tryz.underlying43 (by kernel_rfl) (by kernel_rfl) (by decide) el_item h3
  obtain ⟨_, h4⟩ := hf 4 _ rfl
  obtain ⟨v4, x4, c4, s4, _⟩ := leaf_sl (E := AtDim) (sz := 3) Tryz.underlying44 (by kernel_rfl) (by kernel_rfl) (by decide) el_dim h4
  exact ⟨⟨x0, x1, x2, x3, x4⟩, ⟨hc 0 _ c0, hc 1 _ c1, hc 2 _ c2⟩, ⟨r0, r1, r2⟩, v3, v4, hc 3 _ c3, hc 4 _ c4, s3, s4⟩

set_option maxRecDepth 100000 in
/-- Machines that are handed in, opened. -/
theorem open_built {r : Reach} {b0 : Nat} {v : Value} {d : DataW H} {p : List MemPlace} (hv : Value.okWide Tryz.prog w r b0 32 v) (h : DataW.Trod enc Tryz.prog w 0 sp hd 32 v d p) :
    ∃ vr vn vm vh vs b, v = .agg #[vr, vn, .int .i64 (Built.of b), vm, vh, vs] ∧ BuiltAt w vr vn vm vh vs b := by
  obtain ⟨cs, rfl, hsz⟩ := okWide_struct Tryz.underlying32 hv
  rw [show Tryz.prog.cellsOf 32 = 6 by kernel_rfl] at hsz
  obtain ⟨fuel, h⟩ := h
  obtain ⟨_, k, hf⟩ := fields_of Tryz.underlying32 h
  obtain ⟨_, h0⟩ := hf 0 _ rfl
  obtain ⟨_, k0, hg⟩ := fields_of Tryz.underlying27 h0
  obtain ⟨_, g0⟩ := hg 0 _ rfl
  obtain ⟨_, k1, hr⟩ := fields_of Tryz.underlying24 g0
  obtain ⟨_, r0⟩ := hr 0 _ rfl
  obtain ⟨vr, R, cr, sr, _⟩ := leaf_sl (E := AtIssue) (sz := 5) Tryz.underlying22 (by kernel_rfl) (by kernel_rfl) (by decide) el_issue r0
  obtain ⟨_, g1⟩ := hg 1 _ rfl
  obtain ⟨vn, N, cn, sn, _⟩ := leaf_sl (E := AtNote) (sz := 10) Tryz.underlying25 (by kernel_rfl) (by kernel_rfl) (by decide) el_note g1
  obtain ⟨_, h1⟩ := hf 1 _ rfl
  obtain ⟨of, cof, rof⟩ := leaf_i h1
  obtain ⟨_, h2⟩ := hf 2 _ rfl
  obtain ⟨vm, ms, cm, sm, _⟩ := leaf_sl (E := AtInt) (sz := 1) Tryz.underlying28 (by kernel_rfl) (by kernel_rfl) (by decide) el_int h2
  obtain ⟨_, h3⟩ := hf 3 _ rfl
  obtain ⟨vh, hs, ch, sh, _⟩ := leaf_sl (E := AtHeap) (sz := 4) Tryz.underlying29 (by kernel_rfl) (by kernel_rfl) (by decide) el_heap h3
  obtain ⟨_, h4⟩ := hf 4 _ rfl
  obtain ⟨vs, rs, cs', ss, _⟩ := leaf_sl (E := AtReport) (sz := 5) Tryz.underlying30 (by kernel_rfl) (by kernel_rfl) (by decide) el_report h4
  refine ⟨vr, vn, vm, vh, vs, ⟨⟨R, N⟩, of, ms, hs, rs⟩, ?_, sr, sn, sm, sh, ss, rof⟩
  have q0 := sub_get (sub_get cr)
  have q1 := sub_get cn
  obtain ⟨l⟩ := cs
  match l, hsz with
  | [c0, c1, c2, c3, c4, c5], _ =>
    simp [Value.cells] at q0 q1 cof cm ch cs'
    subst q0 q1 cof cm ch cs'
    rfl
set_option maxRecDepth 100000 in
/-- A report that is handed in, opened. -/
theorem open_report {r : Reach} {b0 : Nat} {v : Value} {d : DataW H} {p : List MemPlace} (hv : Value.okWide Tryz.prog w r b0 34 v) (h : DataW.Trod enc Tryz.prog w 0 sp hd 34 v d p) :
    ∃ x : Report, v = .agg #[.int .i64 x.num, .int .i64 x.m, .int .i64 x.d, .int .i64 x.l, .int .u8 x.k] ∧ (I64 x.num ∧ I64 x.m ∧ I64 x.d ∧ I64 x.l ∧ U8 x.k) := by
  obtain ⟨cs, rfl, hsz⟩ := okWide_struct Tryz.underlying34 hv
  rw [show Tryz.prog.cellsOf 34 = 5 by kernel_rfl] at hsz
  obtain ⟨fuel, h⟩ := h
  obtain ⟨_, k, hf⟩ := fields_of Tryz.underlying34 h
  obtain ⟨_, h0⟩ := hf 0 _ rfl
  obtain ⟨x0, c0, r0⟩ := leaf_i h0
  obtain ⟨_, h1⟩ := hf 1 _ rfl
  obtain ⟨x1, c1, r1⟩ := leaf_i h1
  obtain ⟨_, h2⟩ := hf 2 _ rfl
  obtain ⟨x2, c2, r2⟩ := leaf_i h2
  obtain ⟨_, h3⟩ := hf 3 _ rfl
  obtain ⟨x3, c3, r3⟩ := leaf_i h3
  obtain ⟨_, h4⟩ := hf 4 _ rfl
  obtain ⟨x4, c4, r4⟩ := leaf_u h4
  refine ⟨⟨x0, x1, x2, x3, x4⟩, ?_, r0, r1, r2, r3, r4⟩
  obtain ⟨l⟩ := cs
  match l, hsz with
  | [d0, d1, d2, d3, d4], _ =>
    simp [Value.cells] at c0 c1 c2 c3 c4
    subst c0 c1 c2 c3 c4
    rfl
end

end Go.Proofs.YtoibnhkiedpkgaaGreatDoor

namespace Go.Proofs.YtoibnhkiedpkgaaGreatDoor
open Go.RowKit
attribute [local go_sem] stepOk Oper.grows Oper.growUpon

set_option maxRecDepth 100000 in
set_option maxHeartbeats 1600000 in
theorem twinIssue02 (w : World) (vi vd : Value) (x : Issue) (h : IssueAt w vi vd x) (hn : x.items.length ≤ 100) (hn2 : x.dims.length ≤ 100) :
    Calls Tryz.prog 45 #[.agg #[.int .i64 x.d, .int .i64 x.l, .int .u8 x.k, vi, vd]] w fun e w' => ∃ ui ud, e = .returned (.agg #[.int .i64 x.d, .int .i64 x.l, .int .u8 x.k, ui, ud]) ∧
      Sl (Fr w.heap.size 48 AtItem) 2 w' ui x.items ∧ Sl (Fr w.heap.size 50 AtDim) 3 w' ud x.dims ∧ Below w.heap.size w w' := by
  obtain ⟨i0, hi0, hz0, hz1, hz2⟩ := info_parts infoItem
  obtain ⟨i1, hi1, hy0, hy1, hy2⟩ := info_parts infoDim
  obtain ⟨ai, capi, rfl, _⟩ := sl_shape h.items
  obtain ⟨ad, capd, rfl, _⟩ := sl_shape h.dims
  obtain ⟨hb1, B1, B2⟩ := boxed2 w #[.int .i64 x.d, .int .i64 x.l, .int .u8 x.k, .slice ai x.items.length capi, .slice ad x.dims.length capd] #[.int .i64 0, .int .i64 0, .int .u8 0, .slice none 0 0, .slice none 0 0] 46 46
  have c0 := B1 0 (.int .i64 x.d) rfl
  have c1 := B1 1 (.int .i64 x.l) rfl
  have c2 := B1 2 (.int .u8 x.k) rfl
  have c3 := B1 3 (.slice ai x.items.length capi) rfl
  have c4 := B1 4 (.slice ad x.dims.length capd) rfl
  have r0 := B2 0 (.int .i64 0) rfl
  have r1 := B2 1 (.int .i64 0) rfl
  have r2 := B2 2 (.int .u8 0) rfl
  have r3 := B2 3 (.slice none 0 0) rfl
  have r4 := B2 4 (.slice none 0 0) rfl
  have f1 := free_ext (below_alloc _ (.cells #[.int .i64 0, .int .i64 0, .int .u8 0, .slice none 0 0, .slice none 0 0] 46)) (free_new w #[.int .i64 x.d, .int .i64 x.l, .int .u8 x.k, .slice ai x.items.length capi, .slice ad x.dims.length capd] 46)
  have f2 := free_new (w.alloc (.cells #[.int .i64 x.d, .int .i64 x.l, .int .u8 x.k, .slice ai x.items.length capi, .slice ad x.dims.length capd] 46)) #[.int .i64 0, .int .i64 0, .int .u8 0, .slice none 0 0, .slice none 0 0] 46
  rw [World.size_alloc] at f2
  have F : Hid (Free ((w.alloc (.cells #[.int .i64 x.d, .int .i64 x.l, .int .u8 x.k, .slice ai x.items.length capi, .slice ad x.dims.length capd] 46)).alloc (.cells #[.int .i64 0, .int .i64 0, .int .u8 0, .slice none 0 0, .slice none 0 0] 46)) w.heap.size ∧
    Free ((w.alloc (.cells #[.int .i64 x.d, .int .i64 x.l, .int .u8 x.k, .slice ai x.items.length capi, .slice ad x.dims.length capd] 46)).alloc (.cells #[.int .i64 0, .int .i64 0, .int .u8 0, .slice none 0 0, .slice none 0 0] 46)) (w.heap.size + 1)) := ⟨f1, f2⟩
  have C : Hid (∀ w1, Cell w1 w.heap.size 0 (.int .i64 x.d) → True) := fun _ _ => trivial
  clear B1 B2 f1 f2 C
  have hx := h.ext hb1
  go_enter Tryz.func45, Tryz.ntmps45
  go_wp2_with fail
  generalize (w.alloc _).alloc _ = w1 at *
  refine wp_region_grow_all 9 (by kernel_rfl) (by kernel_rfl) ?_
  simp only [List.take_succ_cons, List.take_zero]
  have K3 := cell_later c3
  have K4 := cell_later c4
  refine growAll_step (fun v _ => ∃ g, v = .slice (some ⟨g, 0, none⟩) 0 0) (fun _ _ _ _ h => h) ?_ ?_
  · intro vs xq hd
    (try simp [Oper.waitsOn, Region.binds, List.filter_cons, List.filter_nil, factAt, depsHold] at hd)
    simp only [putsFrom, Act.put, List.setIfInBounds_toArray, List.set_cons_succ, List.set_cons_zero]
    go_simp
    exact below_alloc _ _
  refine growAll_exact ?_
  apply Exists.intro
  refine ⟨fun vs xq hd => ?_, ?_⟩
  · (try simp [Oper.waitsOn, Region.binds, List.filter_cons, List.filter_nil, factAt, depsHold] at hd)
    simp only [putsFrom, Act.put, List.setIfInBounds_toArray, List.set_cons_succ, List.set_cons_zero]
    go_simp
    exact ⟨Below.refl _ _, rfl⟩
  refine growAll_exact ?_
  apply Exists.intro
  refine ⟨fun vs xq hd => ?_, ?_⟩
  · (try simp [Oper.waitsOn, Region.binds, List.filter_cons, List.filter_nil, factAt, depsHold] at hd)
    simp only [putsFrom, Act.put, List.setIfInBounds_toArray, List.set_cons_succ, List.set_cons_zero]
    go_simp
    exact ⟨Below.refl _ _, rfl⟩
  refine growAll_step (fun v w' => Sl (Fr w1.heap.size 48 AtItem) 2 w' v x.items) (fun v w w' hb h => sl_ext (stays_fr stays_item) hb h) ?_ ?_
  · intro vs xq hd
    (try simp [Oper.waitsOn, Region.binds, List.filter_cons, List.filter_nil, factAt, depsHold] at hd)
    simp only [putsFrom, Act.put, List.setIfInBounds_toArray, List.set_cons_succ, List.set_cons_zero]
    exact stepOk_plain (by rfl) (grows_append_copy (.tmp 3) (.tmp 5) 43 (by rfl) 48 i0 _ 2 16 Tryz.underlying43 hi0 hz0 hz1 hz2 rfl (by decide) (by decide) copies_item cells_item (vs 0) (.slice ai x.items.length capi) x.items (by rfl) hd.1 (by exact hd.2) (hx.ext (below_later _ _)).items (Nat.le_trans hn (by decide)) w1.heap.size (below_later w1 xq).size) (fun v w' h => h)
  refine growAll_step (fun v _ => ∃ g, v = .slice (some ⟨g, 0, none⟩) 0 0) (fun _ _ _ _ h => h) ?_ ?_
  · intro vs xq hd
    (try simp [Oper.waitsOn, Region.binds, List.filter_cons, List.filter_nil, factAt, depsHold] at hd)
    simp only [putsFrom, Act.put, List.setIfInBounds_toArray, List.set_cons_succ, List.set_cons_zero]
    go_simp
    exact below_alloc _ _
  refine growAll_exact ?_
  apply Exists.intro
  refine ⟨fun vs xq hd => ?_, ?_⟩
  · (try simp [Oper.waitsOn, Region.binds, List.filter_cons, List.filter_nil, factAt, depsHold] at hd)
    simp only [putsFrom, Act.put, List.setIfInBounds_toArray, List.set_cons_succ, List.set_cons_zero]
    go_simp
    exact ⟨Below.refl _ _, rfl⟩
  refine growAll_exact ?_
  apply Exists.intro
  refine ⟨fun vs xq hd => ?_, ?_⟩
  · (try simp [Oper.waitsOn, Region.binds, List.filter_cons, List.filter_nil, factAt, depsHold] at hd)
    simp only [putsFrom, Act.put, List.setIfInBounds_toArray, List.set_cons_succ, List.set_cons_zero]
    go_simp
    exact ⟨Below.refl _ _, rfl⟩
  refine growAll_step (fun v w' => Sl (Fr w1.heap.size 50 AtDim) 3 w' v x.dims) (fun v w w' hb h => sl_ext (stays_fr stays_dim) hb h) ?_ ?_
  · intro vs xq hd
    (try simp [Oper.waitsOn, Region.binds, List.filter_cons, List.filter_nil, factAt, depsHold] at hd)
    simp only [putsFrom, Act.put, List.setIfInBounds_toArray, List.set_cons_succ, List.set_cons_zero]
    exact stepOk_plain (by rfl) (grows_append_copy (.tmp 7) (.tmp 9) 44 (by rfl) 50 i1 _ 3 24 Tryz.underlying44 hi1 hy0 hy1 hy2 rfl (by decide) (by decide) copies_dim cells_dim (vs 4) (.slice ad x.dims.length capd) x.dims (by rfl) hd.1 (by exact hd.2.1) (hx.ext (below_later _ _)).dims (Nat.le_trans hn2 (by decide)) w1.heap.size (below_later w1 xq).size) (fun v w' h => h)
  refine growAll_exact ?_
  apply Exists.intro
  refine ⟨fun vs xq hd => ?_, ?_⟩
  · (try simp [Oper.waitsOn, Region.binds, List.filter_cons, List.filter_nil, factAt, depsHold] at hd)
    simp only [putsFrom, Act.put, List.setIfInBounds_toArray, List.set_cons_succ, List.set_cons_zero]
    go_simp
    exact ⟨Below.refl _ _, rfl⟩
  refine growAll_done rfl (fun vs xq hd => ?_)
  simp [depsHold, factAt, List.range, List.range.loop] at hd
  simp only [putsFrom, Act.put, List.setIfInBounds_toArray, List.set_cons_succ, List.set_cons_zero, List.drop_succ_cons, List.drop_zero]
  obtain ⟨_, _, _, s3, _, _, _, s7, e8⟩ := hd
  generalize vs 0 = u0 at *
  generalize vs 1 = u1 at *
  generalize vs 2 = u2 at *
  generalize vs 3 = u3 at *
  generalize vs 4 = u4 at *
  generalize vs 5 = u5 at *
  generalize vs 6 = u6 at *
  generalize vs 7 = u7 at *
  generalize vs 8 = u8 at *
  subst e8
  have hbl := below_later w1 xq
  have c0 := cell_ext hbl c0
  have c1 := cell_ext hbl c1
  have c2 := cell_ext hbl c2
  have c3 := cell_ext hbl c3
  have c4 := cell_ext hbl c4
  have r0 := cell_ext hbl r0
  have r1 := cell_ext hbl r1
  have r2 := cell_ext hbl r2
  have r3 := cell_ext hbl r3
  have r4 := cell_ext hbl r4
  have f1 := free_ext hbl F.out.1
  have f2 := free_ext hbl F.out.2
  have hbb := below_trans hb1 hbl
  have hlt := (F.out.2).1
  have S3 := Lib.hid s3
  have S7 := Lib.hid s7
  obtain ⟨a3, cap3, rfl, _⟩ := sl_shape s3
  obtain ⟨a7, cap7, rfl, _⟩ := sl_shape s7
  clear s3 s7 K3 K4 hx F h hbl
  generalize w1.heap.size = z1 at *
  generalize w1.later xq = w2 at *
  generalize hg0 : w.heap.size = g0 at *
  have HG := Lib.hid hg0
  clear hg0
  have p0 := f1.2 3
  have p1 := f1.2 4
  have q0 := f2.2 0
  have q1 := f2.2 1
  have q2 := f2.2 2
  have q3 := f2.2 3
  have q4 := f2.2 4
  have h1 := f1.1
  have h2 := f2.1
  unfold Cell at c0 c1 c2 c3 c4 r0 r1 r2 r3 r4
  clear f1 f2
  go_wp2
  refine bodyPost_ret (v := .agg #[.int .i64 x.d, .int .i64 x.l, .int .u8 x.k, .slice a3 x.items.length cap3, .slice a7 x.dims.length cap7]) ?_ rfl ⟨_, _, rfl, ?_, ?_, ?_⟩
  · simp [results, Tryz.results45, go_sem, r0, r1, r2, r3, r4, h2]
  · rw [HG.out]
    refine sl_weak (base := z1) (by omega) ?_
    repeat (refine sl_set local_item (by omega) ?_)
    exact S3.out
  · rw [HG.out]
    refine sl_weak (base := z1) (by omega) ?_
    repeat (refine sl_set local_dim (by omega) ?_)
    exact S7.out
  · rw [HG.out]
    repeat (refine below_set (by omega) ?_)
    exact hbb

end Go.Proofs.YtoibnhkiedpkgaaGreatDoor

namespace Go.Proofs.YtoibnhkiedpkgaaGreatDoor
open Go.RowKit
attribute [local go_sem] stepOk Oper.grows Oper.growUpon

def Small (R : List Issue) : Prop := R.length ≤ 80 ∧ ∀ k (h : k < R.length), R[k].items.length ≤ 16 ∧ R[k].dims.length ≤ 8

def RetIss (base : Nat) (x : Issue) (v : Value) (w' : World) : Prop :=
  ∃ ui ud, v = .agg #[.int .i64 x.d, .int .i64 x.l, .int .u8 x.k, ui, ud] ∧ Sl (Fr base 48 AtItem) 2 w' ui x.items ∧ Sl (Fr base 50 AtDim) 3 w' ud x.dims
theorem retIss_stays (base : Nat) (x : Issue) : StaysV (RetIss base x) := fun _ _ _ hb ⟨ui, ud, h1, h2, h3⟩ => ⟨ui, ud, h1, sl_ext (stays_fr stays_item) hb h2, sl_ext (stays_fr stays_dim) hb h3⟩
def BoxIss (base : Nat) (x : Issue) (v : Value) (w' : World) : Prop :=
  ∃ bb ui ud, v = .slice (some ⟨bb, 0, none⟩) 1 1 ∧ (Cell w' bb 0 (.int .i64 x.d) ∧ Cell w' bb 1 (.int .i64 x.l) ∧ Cell w' bb 2 (.int .u8 x.k) ∧ Cell w' bb 3 ui ∧ Cell w' bb 4 ud) ∧ ui.oneCell' = true ∧ ud.oneCell' = true ∧ Sl (Fr base 48 AtItem) 2 w' ui x.items ∧ Sl (Fr base 50 AtDim) 3 w' ud x.dims
theorem boxIss_stays (base : Nat) (x : Issue) : StaysV (BoxIss base x) := fun _ _ _ hb ⟨bb, ui, ud, h1, ⟨g0, g1, g2, g3, g4⟩, o1, o2, h2, h3⟩ => ⟨bb, ui, ud, h1, ⟨cell_ext hb g0, cell_ext hb g1, cell_ext hb g2, cell_ext hb g3, cell_ext hb g4⟩, o1, o2, sl_ext (stays_fr stays_item) hb h2, sl_ext (stays_fr stays_dim) hb h3⟩

set_option maxRecDepth 100000 in
set_option maxHeartbeats 1600000 in
theorem twin02 (w : World) (v : Value) (R : List Issue) (h : Sl AtIssue 5 w v R) (hS : Small R) :
    Calls Tryz.prog 27 #[.agg #[v]] w fun e w' => ∃ u, e = .returned (.agg #[u]) ∧ Sl (Fr w.heap.size 46 (AtIssueN w.heap.size)) 5 w' u R ∧ Below w.heap.size w w' ∧ Capd u R.length := by
  obtain ⟨i0, hi0, hz0, hz1, hz2⟩ := info_parts infoIssue
  obtain ⟨hR80, hRS⟩ := hS
  have HRS := Lib.hid hRS
  clear hRS
  obtain ⟨a, cap, rfl, hm⟩ := sl_shape h
  obtain ⟨hb1, B1, B2, B3, hfr⟩ := boxed3 w #[.slice a R.length cap] #[.slice none 0 0] #[.slice none 0 0] 24 24 24
  have c0 := B1 0 (.slice a R.length cap) rfl
  have d0 := B2 0 (.slice none 0 0) rfl
  have r0 := B3 0 (.slice none 0 0) rfl
  have f2 := free_new (w.alloc (.cells #[.slice a R.length cap] 24)) #[.slice none 0 0] 24
  rw [World.size_alloc] at f2
  replace f2 := free_ext (below_alloc _ (.cells #[.slice none 0 0] 24)) f2
  have hsz : (((w.alloc (.cells #[.slice a R.length cap] 24)).alloc (.cells #[.slice none 0 0] 24)).alloc (.cells #[.slice none 0 0] 24)).heap.size = w.heap.size + 3 := by simp
  clear B1 B2 B3
  go_enter Tryz.func27, Tryz.ntmps27
  go_wp2
  generalize ((w.alloc _).alloc _).alloc _ = w1 at *
  generalize hg3 : w.heap.size + 1 + 1 = g3 at *
  generalize hg2 : w.heap.size + 1 = g2 at *
  generalize hz : w1.heap.size = z1 at *
  have HG : Hid (g2 = w.heap.size + 1 ∧ g3 = w.heap.size + 2 ∧ z1 = w.heap.size + 3 ∧ w1.heap.size = z1) := ⟨hg2.symm, by omega, by omega, hz⟩
  have hlt1 : w.heap.size < g2 := by omega
  have hlt2 : w.heap.size < g3 := by omega
  have hlt3 : g2 < g3 := by omega
  have hlt4 : g3 < z1 := by omega
  clear hg2 hg3 hz hsz
  go_loopw [4] (fun i wr => ∃ (k : Nat) (u : Value) (cs : List Value), i = .int .i64 k ∧ k ≤ R.length ∧ Below w.heap.size w wr ∧ Cell wr w.heap.size 0 (.slice a R.length cap) ∧ Cell wr g3 0 u ∧ Free wr g3 ∧ Cell wr g2 0 (.slice none 0 0) ∧ Free wr g2 ∧
    wr.ownsRow z1 46 5 u k cs ∧ IssRow z1 wr cs (R.take k) ∧ z1 ≤ wr.heap.size) (fun i _ => R.length - (intOf i).toNat)
  case atStart => exact ⟨0, _, [], rfl, by omega, hb1, c0, r0, hfr, d0, f2, World.ownsRow_nil _ _ _ _, issRow_nil _ _, by rw [HG.out.2.2.2]; omega⟩
  case round =>
    clear c0 d0 r0 f2 hfr
    obtain ⟨k, u, cs, rfl, hk, hb, c0, r0, hfr, d0, f2, hown, hrow, hzs⟩ := hrel
    by_cases hlt : k < R.length
    · have e0 := c0
      unfold Cell at e0
      go_wp2
      clear e0
      have hle := HRS.out k hlt
      obtain ⟨b, off, rfl, ⟨q0, q1, q2⟩, hnum, vi, vd, q3, q4, si, sd⟩ := (sl_at (sl_ext stays_issue hb h)).2 k hlt
      have htk : R.take (k + 1) = R.take k ++ [R[k]] := List.take_succ_eq_append_getElem hlt
      have HTK := Lib.hid htk
      clear htk
      generalize R[k] = x at *
      obtain ⟨ai, capi, rfl, _⟩ := sl_shape si
      obtain ⟨ad, capd, rfl, _⟩ := sl_shape sd
      have K0 := cell_later c0
      have K1 := cell_later r0
      have K2 := cell_later q0
      have K3 := cell_later q1
      have K4 := cell_later q2
      have K5 := cell_later q3
      have K6 := cell_later q4
      refine wp_region_grow_all 9 (by kernel_rfl) (by kernel_rfl) ?_
      simp only [List.take_succ_cons, List.take_zero]
      refine growAll_exact ?_
      apply Exists.intro
      refine ⟨fun vs xq hd => ?_, ?_⟩
      · (try simp [Oper.waitsOn, Region.binds, List.filter_cons, List.filter_nil, factAt, depsHold] at hd)
        simp only [putsFrom, Act.put, List.setIfInBounds_toArray, List.set_cons_succ, List.set_cons_zero]
        go_simp
        exact ⟨Below.refl _ _, rfl⟩
      refine growAll_exact ?_
      apply Exists.intro
      refine ⟨fun vs xq hd => ?_, ?_⟩
      · (try simp [Oper.waitsOn, Region.binds, List.filter_cons, List.filter_nil, factAt, depsHold] at hd)
        simp only [putsFrom, Act.put, List.setIfInBounds_toArray, List.set_cons_succ, List.set_cons_zero]
        go_simp
        exact ⟨Below.refl _ _, rfl⟩
      refine growAll_exact ?_
      apply Exists.intro
      refine ⟨fun vs xq hd => ?_, ?_⟩
      · (try simp [Oper.waitsOn, Region.binds, List.filter_cons, List.filter_nil, factAt, depsHold] at hd)
        simp only [putsFrom, Act.put, List.setIfInBounds_toArray, List.set_cons_succ, List.set_cons_zero]
        go_simp
        exact ⟨Below.refl _ _, rfl⟩
      refine growAll_exact ?_
      apply Exists.intro
      refine ⟨fun vs xq hd => ?_, ?_⟩
      · (try simp [Oper.waitsOn, Region.binds, List.filter_cons, List.filter_nil, factAt, depsHold] at hd)
        simp only [putsFrom, Act.put, List.setIfInBounds_toArray, List.set_cons_succ, List.set_cons_zero]
        go_simp
        exact ⟨Below.refl _ _, rfl⟩
      refine growAll_exact ?_
      apply Exists.intro
      refine ⟨fun vs xq hd => ?_, ?_⟩
      · (try simp [Oper.waitsOn, Region.binds, List.filter_cons, List.filter_nil, factAt, depsHold] at hd)
        simp only [putsFrom, Act.put, List.setIfInBounds_toArray, List.set_cons_succ, List.set_cons_zero]
        go_simp
        exact ⟨Below.refl _ _, rfl⟩
      refine growAll_exact ?_
      apply Exists.intro
      refine ⟨fun vs xq hd => ?_, ?_⟩
      · (try simp [Oper.waitsOn, Region.binds, List.filter_cons, List.filter_nil, factAt, depsHold] at hd)
        simp only [putsFrom, Act.put, List.setIfInBounds_toArray, List.set_cons_succ, List.set_cons_zero]
        go_simp
        exact ⟨Below.refl _ _, rfl⟩
      refine growAll_exact ?_
      apply Exists.intro
      refine ⟨fun vs xq hd => ?_, ?_⟩
      · (try simp [Oper.waitsOn, Region.binds, List.filter_cons, List.filter_nil, factAt, depsHold] at hd)
        simp only [putsFrom, Act.put, List.setIfInBounds_toArray, List.set_cons_succ, List.set_cons_zero]
        go_simp
        exact ⟨Below.refl _ _, rfl⟩
      refine growAll_step (RetIss z1 x) (retIss_stays z1 x) ?_ ?_
      · intro vs xq hd
        (try simp [Oper.waitsOn, Region.binds, List.filter_cons, List.filter_nil, factAt, depsHold] at hd)
        simp only [putsFrom, Act.put, List.setIfInBounds_toArray, List.set_cons_succ, List.set_cons_zero]
        go_simp
        have hbx := below_later wr xq
        refine (twinIssue02 _ _ _ x ⟨sl_ext stays_item hbx si, sl_ext stays_dim hbx sd, hnum⟩ (by omega) (by omega)).mono ?_
        rintro e w2 ⟨ui, ud, rfl, h1, h2, h3⟩
        have hz2 : z1 ≤ (wr.later xq).heap.size := Nat.le_trans hzs hbx.size
        exact ⟨_, rfl, h3, ui, ud, rfl, sl_weak hz2 h1, sl_weak hz2 h2⟩
      refine growAll_step (BoxIss z1 x) (boxIss_stays z1 x) ?_ ?_
      · intro vs xq hd
        (try simp [Oper.waitsOn, Region.binds, List.filter_cons, List.filter_nil, factAt, depsHold] at hd)
        simp only [putsFrom, Act.put, List.setIfInBounds_toArray, List.set_cons_succ, List.set_cons_zero]
        obtain ⟨ui, ud, e7, s1, s2⟩ := hd
        obtain ⟨a3, cap3, rfl, _⟩ := sl_shape s1
        obtain ⟨a7, cap7, rfl, _⟩ := sl_shape s2
        have S1 := Lib.hid s1
        have S2 := Lib.hid s2
        clear s1 s2
        go_simp
        have hba := below_alloc (wr.later xq) (.cells #[.int .i64 x.d, .int .i64 x.l, .int .u8 x.k, .slice a3 x.items.length cap3, .slice a7 x.dims.length cap7] 46)
        have B := new_cell (wr.later xq) #[.int .i64 x.d, .int .i64 x.l, .int .u8 x.k, .slice a3 x.items.length cap3, .slice a7 x.dims.length cap7] 46
        exact ⟨hba, _, _, _, rfl, ⟨B 0 _ rfl, B 1 _ rfl, B 2 _ rfl, B 3 _ rfl, B 4 _ rfl⟩, rfl, rfl, sl_ext (stays_fr stays_item) hba S1.out, sl_ext (stays_fr stays_dim) hba S2.out⟩
      refine growAll_done rfl (fun vs xq hd => ?_)
      simp [depsHold, factAt, List.range, List.range.loop] at hd
      simp only [putsFrom, Act.put, List.setIfInBounds_toArray, List.set_cons_succ, List.set_cons_zero, List.drop_succ_cons, List.drop_zero]
      obtain ⟨e0, e1, e2, e3, e4, e5, e6, _, bb, ui, ud, e8, ⟨c80, c81, c82, c83, c84⟩, o1, o2, s1, s2⟩ := hd
      generalize vs 0 = u0 at *
      generalize vs 1 = u1 at *
      generalize vs 2 = u2 at *
      generalize vs 3 = u3 at *
      generalize vs 4 = u4 at *
      generalize vs 5 = u5 at *
      generalize vs 6 = u6 at *
      generalize vs 7 = u7 at *
      generalize vs 8 = u8 at *
      subst e0 e1 e2 e3 e4 e5 e6 e8
      have hbl := below_later wr xq
      replace c0 := cell_ext hbl c0
      replace r0 := cell_ext hbl r0
      replace hfr := free_ext hbl hfr
      replace d0 := cell_ext hbl d0
      replace f2 := free_ext hbl f2
      replace hown := own_ext hbl hown
      replace hrow := issRow_same (same_below hbl) (same_below hbl) hrow
      have hbb := below_trans hb hbl
      have hzs2 := Nat.le_trans hzs hbl.size
      clear K0 K1 K2 K3 K4 K5 K6 q0 q1 q2 q3 q4 si sd hbl hb h hb1
      generalize wr.later xq = w2 at *
      obtain ⟨hlt5, hff⟩ := id hfr
      have hf0 := hff 0
      clear hff
      have hk80 : k < 80 := by omega
      have HOWN := Lib.hid hown
      go_wp2_with (at_builtin; refine wpList_append_own _ rfl (.tmp 13) (.tmp 20) 22 rfl z1 46 i0 _ 5 72 Tryz.underlying22 hi0 hz0 hz1 hz2 rfl (by decide) u1 k cs rfl HOWN.out ⟨bb, 0, none⟩ 1 1 [.int .i64 x.d, .int .i64 x.l, .int .u8 x.k, ui, ud] rfl rfl ?c1 ?c2 ?c3 ?c4 hzs2 ?_)
      case c1 =>
        intro j u hj
        rw [add_at]
        match j, hj with
        | 0, hj => cases hj; exact c80
        | 1, hj => cases hj; exact c81
        | 2, hj => cases hj; exact c82
        | 3, hj => cases hj; exact c83
        | 4, hj => cases hj; exact c84
        | j + 5, hj => simp at hj
      case c2 => intro u hu; simp only [List.mem_cons, List.not_mem_nil, or_false] at hu; rcases hu with rfl | rfl | rfl | rfl | rfl <;> first | rfl | assumption
      case c3 => unfold maxLen; omega
      case c4 => omega
      intro v' w3 hown' hgrow _
      obtain ⟨g', cap', rfl⟩ := own_shape hown'
      have c0' := grown_cell HOWN.out hgrow (by omega) c0
      have r0' := grown_cell HOWN.out hgrow (by omega) r0
      have d0' := grown_cell HOWN.out hgrow (by omega) d0
      have fr' := grown_free HOWN.out hgrow (by omega) hfr
      have f2' := grown_free HOWN.out hgrow (by omega) f2
      have hb' := grown_below HOWN.out hgrow hbb (by omega)
      have hrow' := issRow_same (same_grown hgrow HOWN.out (by decide)) (same_grown hgrow HOWN.out (by decide)) hrow
      have s1' := sl_same local_item (same_grown hgrow HOWN.out (by decide)) s1
      have s2' := sl_same local_dim (same_grown hgrow HOWN.out (by decide)) s2
      have hrow2 := Lib.hid (issRow_same (same_set (j := 0) (u := .slice (some ⟨g', 0, none⟩) (k + 1) cap') hlt4) (same_set hlt4) (issRow_snoc hrow' x ui ud hnum s1' s2'))
      have hown2 := Lib.hid (own_set (j := 0) (u := .slice (some ⟨g', 0, none⟩) (k + 1) cap') hown' hlt4)
      have hzs3 := Nat.le_trans hzs2 hgrow.size
      have C0 := Lib.hid (cell_set_other (j := 0) (u := .slice (some ⟨g', 0, none⟩) (k + 1) cap') c0' (by omega : w.heap.size ≠ g3))
      have R0 := Lib.hid (cell_set_same (u := .slice (some ⟨g', 0, none⟩) (k + 1) cap') r0')
      have D0 := Lib.hid (cell_set_other (j := 0) (u := .slice (some ⟨g', 0, none⟩) (k + 1) cap') d0' (by omega : g2 ≠ g3))
      have hf0' := fr'.2 0
      clear hgrow hown' hrow hrow' s1 s2 s1' s2' hown c0 c0' d0 d0' r0 hf0
      unfold Cell at r0'
      go_wp2
      go_roundw
      case rel => exact ⟨k + 1, _, _, by go_num, by omega, below_set (by omega) hb', C0.out, R0.out, free_set fr', D0.out, free_set f2', hown2.out, by rw [HTK.out]; exact hrow2.out, by simpa using hzs3⟩
      case measure => simp [intOf]; omega
    · obtain rfl : k = R.length := by omega
      rw [List.take_of_length_le (Nat.le_refl _)] at hrow
      have hs := Lib.hid (issRow_sl hrow hown)
      have hcd := Lib.hid (capd_own hown)
      have hw : Hid (z1 ≥ w.heap.size) := by have := HG.out.2.2.1; show w.heap.size ≤ z1; omega
      obtain ⟨au, cu, rfl, _⟩ := sl_shape hs.out
      have hl3 := hfr.1
      have hl2 := f2.1
      have hf2 := f2.2 0
      clear hrow hown hfr f2
      unfold Cell at c0 r0 d0
      go_wp2
      refine bodyPost_ret (v := .agg #[.slice au R.length cu]) ?_ rfl ⟨_, rfl, ?_, ?_, hcd.out⟩
      · simp [results, Tryz.results27, go_sem, d0, hl2]
      · have h1 := sl_same_issue (same_set (g := g2) (j := 0) (u := .slice au R.length cu) (by omega)) (same_set (by omega)) (same_set (by omega)) hs.out
        refine sl_to (fun b o x hx => ?_) h1
        obtain ⟨⟨h1, h2, vi, vd, h3, h4, h5, h6⟩, h7, h8⟩ := hx
        exact ⟨⟨h1, h2, vi, vd, h3, h4, sl_weak hw.out h5, sl_weak hw.out h6⟩, Nat.le_trans hw.out h7, h8⟩
      · exact below_set (by omega) hb

end Go.Proofs.YtoibnhkiedpkgaaGreatDoor
