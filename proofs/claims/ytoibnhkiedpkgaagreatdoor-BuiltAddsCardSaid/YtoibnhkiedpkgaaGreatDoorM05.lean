/- The reference's look at all notes, and its error of notes. The reference's greatest letter, parts, and reports. Slices after calls that only make memory. -/
import Derived.Tactics
import Derived.Tactics2
import Derived.KernelRfl
import Derived.Test.YtoibnhkiedpkgaaGreatDoorM01
import Derived.Test.YtoibnhkiedpkgaaGreatDoorM02
import Derived.Test.YtoibnhkiedpkgaaGreatDoorM04
set_option linter.unusedVariables false
set_option linter.unusedSimpArgs false
set_option linter.all false

namespace Go.Proofs.YtoibnhkiedpkgaaGreatDoor
open Go.RowKit

def openTo (N : List Note) : Nat → Nat
  | 0 => 0
  | k + 1 => openTo N k + (match N[k]? with | none => 0 | some x => if x.sg = 1 then 1 else 0)
theorem openTo_le (N : List Note) (k : Nat) : openTo N k ≤ k := by
  induction k with
  | zero => simp [openTo]
  | succ k ih =>
    simp only [openTo]
    split
    · omega
    · split <;> omega
theorem openTo_succ (N : List Note) (k : Nat) (h : k < N.length) : openTo N (k + 1) = openTo N k + if N[k].sg = 1 then 1 else 0 := by
  simp only [openTo, List.getElem?_eq_getElem h]
def NotesOk (R : List Issue) (N : List Note) : Prop := N.length ≤ 12 ∧ (∀ k, (h : k < N.length) → NoteOk R N k N[k]) ∧ openTo N N.length ≤ 5

set_option maxRecDepth 100000 in
set_option maxHeartbeats 1600000 in
theorem notes03 (w : World) (vr vn : Value) (R : List Issue) (N : List Note) (hr : Sl AtIssue 5 w vr R) (hn : Sl AtNote 10 w vn N) :
    Calls Tryz.prog 57 #[.agg #[vr, vn]] w (RetB (NotesOk R N) w) := by
  obtain ⟨hb1, B1⟩ := boxed1 w #[vr, vn] 27
  have c0 := B1 0 vr rfl
  have c1 := B1 1 vn rfl
  clear B1
  obtain ⟨an, capn, rfl, hmn⟩ := sl_shape hn
  obtain ⟨ar, capr, rfl, hmr⟩ := sl_shape hr
  have hn1 := sl_ext stays_note hb1 hn
  have hr1 := sl_ext stays_issue hb1 hr
  have C0 := Lib.hid c0
  have C1 := Lib.hid c1
  clear hn hr
  unfold Cell at c1
  by_cases h12 : 12 < N.length
  · go_enter Tryz.func57, Tryz.ntmps57
    go_wp2
    go_ret
    exact RetB.f (fun h => by have := h.1; omega) hb1
  go_enter Tryz.func57, Tryz.ntmps57
  go_wp2
  clear c0 c1
  generalize w.alloc _ = w1 at *
  go_loopw [3, 4] (fun o i wr => ∃ k : Nat, i = .int .i64 k ∧ k ≤ N.length ∧ o = .int .i64 (openTo N k : Nat) ∧ Below w1.heap.size w1 wr ∧ ∀ j, j < k → (h : j < N.length) → NoteOk R N j N[j]) (fun _ i _ => N.length - (intOf i).toNat)
  case atStart => exact ⟨0, rfl, by omega, rfl, Below.refl _ _, fun j hj => absurd hj (by omega)⟩
  case round =>
    obtain ⟨k, rfl, hk, rfl, hb, hall⟩ := hrel
    have HALL := Lib.hid hall
    clear hall
    have hol := openTo_le N k
    have e0 := cell_ext hb C0.out
    have e1 := cell_ext hb C1.out
    unfold Cell at e0 e1
    by_cases hlt : k < N.length
    · have hn2 := sl_ext stays_note hb hn1
      have hos := Lib.hid (openTo_succ N k hlt)
      go_wp2_with fail
      refine (note03 _ _ _ R N (sl_ext stays_issue hb hr1) hn2 k hlt).mono ?_
      intro e w2 hh
      rcases hh.both with ⟨hok, rfl, hb2⟩ | ⟨hok, rfl, hb2⟩
      case inr =>
        have HOK := Lib.hid hok
        clear hok hh
        go_wp2
        go_ret
        exact RetB.f (fun h => HOK.out (h.2.1 k hlt)) (below_trans hb1 (below_trans hb hb2))
      have HOK := Lib.hid hok
      have hb3 := below_trans hb hb2
      have e1 := cell_ext hb3 C1.out
      obtain ⟨b, off, rfl, ⟨_, _, p2, _⟩, _⟩ := (sl_at (sl_ext stays_note hb3 hn1)).2 k hlt
      clear hok hh hn2
      unfold Cell at e1 p2
      generalize hx : N[k] = x at *
      have HX := Lib.hid hx
      clear hx
      generalize openTo N k = m at *
      by_cases hs : (x.sg == 1) = true
      · go_wp2
        go_roundw
        case rel => exact ⟨k + 1, by go_num, by omega, by rw [hos.out, if_pos (by simpa using hs)]; go_num, hb3, all_step _ k HALL.out (fun _ => by rw [HX.out]; exact HOK.out)⟩
        case measure => simp [intOf]; omega
      · have hs' : (x.sg == 1) = false := by simpa using hs
        go_wp2
        go_roundw
        case rel => exact ⟨k + 1, by go_num, by omega, by rw [hos.out, if_neg (by simpa using hs')]; rfl, hb3, all_step _ k HALL.out (fun _ => by rw [HX.out]; exact HOK.out)⟩
        case measure => simp [intOf]; omega
    · have hkn : k = N.length := by omega
      have HK := Lib.hid hkn
      clear hkn
      by_cases h5 : openTo N k ≤ 5
      · generalize hm : openTo N k = m at *
        have HM := Lib.hid hm
        clear hm
        have h5' : (m : Int) ≤ 5 := by omega
        go_wp2
        go_ret
        exact RetB.t ⟨by omega, fun j hj => HALL.out j (by rw [HK.out]; exact hj) hj, by rw [← HK.out, HM.out]; exact h5⟩ (below_trans hb1 hb)
      · generalize hm : openTo N k = m at *
        have HM := Lib.hid hm
        clear hm
        have h5' : ¬ (m : Int) ≤ 5 := by omega
        go_wp2
        go_ret
        exact RetB.f (fun h => by have := h.2.2; rw [← HK.out, HM.out] at this; omega) (below_trans hb1 hb)

open Classical in
/-- The error of notes. -/
noncomputable def notesCode (R : List Issue) (N : List Note) : Int := if regCode R ≠ 0 then regCode R else if NotesOk R N then 0 else 30

set_option maxRecDepth 100000 in
set_option maxHeartbeats 1600000 in
theorem check03 (w : World) (vr vn : Value) (R : List Issue) (N : List Note) (hr : Sl AtIssue 5 w vr R) (hn : Sl AtNote 10 w vn N) :
    Calls Tryz.prog 39 #[.agg #[vr, vn]] w fun e w' => e = .returned (.int .i64 (notesCode R N)) ∧ Below w.heap.size w w' := by
  obtain ⟨hb1, B1⟩ := boxed1 w #[vr, vn] 27
  have c0 := B1 0 vr rfl
  have c1 := B1 1 vn rfl
  clear B1
  have hn1 := sl_ext stays_note hb1 hn
  have hr1 := sl_ext stays_issue hb1 hr
  have C0 := Lib.hid c0
  have C1 := Lib.hid c1
  clear hn hr
  unfold Cell at c0
  go_enter Tryz.func39, Tryz.ntmps39
  go_wp2_with fail
  clear c0 c1
  generalize w.alloc _ = w1 at *
  refine (check02 _ _ R hr1).mono ?_
  rintro e w2 ⟨rfl, hb2⟩
  have hb3 := below_trans hb1 hb2
  have e0 := cell_ext hb2 C0.out
  have e1 := cell_ext hb2 C1.out
  have hn2 := sl_ext stays_note hb2 hn1
  have hr2 := sl_ext stays_issue hb2 hr1
  have k1 : Hid (regCode R ≠ 0 → notesCode R N = regCode R) := fun h => by unfold notesCode; rw [if_pos h]
  have k2 : Hid (¬ regCode R ≠ 0 → NotesOk R N → notesCode R N = 0) := fun h h' => by unfold notesCode; rw [if_neg h, if_pos h']
  have k3 : Hid (¬ regCode R ≠ 0 → ¬ NotesOk R N → notesCode R N = 30) := fun h h' => by unfold notesCode; rw [if_neg h, if_neg h']
  clear hb1 hb2 hn1 hr1 C0 C1
  unfold Cell at e0 e1
  generalize regCode R = c at *
  by_cases hc : (c != 0) = true
  · go_wp2
    go_ret
    exact ⟨ret_int (k1.out (by simpa using hc)).symm, hb3⟩
  · have hc' : (c != 0) = false := by simpa using hc
    go_wp2_with fail
    refine (notes03 _ _ _ R N hr2 hn2).mono ?_
    intro e w3 hh
    rcases hh.both with ⟨hok, rfl, hb4⟩ | ⟨hok, rfl, hb4⟩
    · have HOK := Lib.hid hok
      clear hok hh
      go_wp2
      go_ret
      exact ⟨ret_int (k2.out (by simpa using hc') HOK.out).symm, below_trans hb3 hb4⟩
    · have HOK := Lib.hid hok
      clear hok hh
      go_wp2
      go_ret
      exact ⟨ret_int (k3.out (by simpa using hc') HOK.out).symm, below_trans hb3 hb4⟩

end Go.Proofs.YtoibnhkiedpkgaaGreatDoor

namespace Go.Proofs.YtoibnhkiedpkgaaGreatDoor
open Go.RowKit

def lastTo (R : List Issue) (d : Int) : Nat → Int
  | 0 => 0
  | k + 1 => match R[k]? with
    | none => lastTo R d k
    | some x => if x.d = d then max (lastTo R d k) x.l else lastTo R d k
def lastR (R : List Issue) (d : Int) : Int := lastTo R d R.length
theorem lastTo_succ (R : List Issue) (d : Int) (k : Nat) (h : k < R.length) : lastTo R d (k + 1) = if R[k].d = d then max (lastTo R d k) R[k].l else lastTo R d k := by
  simp only [lastTo, List.getElem?_eq_getElem h]

set_option maxRecDepth 100000 in
set_option maxHeartbeats 1600000 in
theorem lastOf02 (w : World) (v : Value) (R : List Issue) (d : Int) (h : Sl AtIssue 5 w v R) :
    Calls Tryz.prog 40 #[.agg #[v], .int .i64 d] w fun e w' => e = .returned (.int .i64 (lastR R d)) ∧ Below w.heap.size w w' := by
  obtain ⟨hb1, B1⟩ := boxed1 w #[v] 24
  have c0 := B1 0 v rfl
  clear B1
  obtain ⟨a, cap, rfl, hm⟩ := sl_shape h
  have h1 := sl_ext stays_issue hb1 h
  clear h
  unfold Cell at c0
  go_enter Tryz.func40, Tryz.ntmps40
  go_wp2
  generalize w.alloc _ = w1 at *
  go_loop [5, 6] (fun n i => ∃ k : Nat, i = .int .i64 k ∧ k ≤ R.length ∧ n = .int .i64 (lastTo R d k)) (fun _ i => R.length - (intOf i).toNat)
  case atStart => exact ⟨0, rfl, by omega, rfl⟩
  case round =>
    obtain ⟨k, rfl, hk, rfl⟩ := hrel
    by_cases hlt : k < R.length
    · obtain ⟨b, off, rfl, ⟨q0, q1, _⟩, _⟩ := (sl_at h1).2 k hlt
      have hs := Lib.hid (lastTo_succ R d k hlt)
      unfold Cell at q0 q1
      generalize R[k] = x at *
      generalize lastTo R d k = m at *
      clear h1
      by_cases e1 : (x.d == d) = true
      · by_cases e2 : x.l ≤ m
        · have e2' : ¬ (x.l > m) := by omega
          go_wp2
          go_round
          case rel => exact ⟨k + 1, by go_num, by omega, by rw [hs.out, if_pos (by simpa using e1), Int.max_eq_left e2]⟩
          case measure => simp [intOf]; omega
        · have e2' : x.l > m := by omega
          go_wp2
          go_round
          case rel => exact ⟨k + 1, by go_num, by omega, by rw [hs.out, if_pos (by simpa using e1), Int.max_eq_right (by omega)]⟩
          case measure => simp [intOf]; omega
      · have e1' : (x.d == d) = false := by simpa using e1
        go_wp2
        go_round
        case rel => exact ⟨k + 1, by go_num, by omega, by rw [hs.out, if_neg (by simpa using e1')]⟩
        case measure => simp [intOf]; omega
    · obtain rfl : k = R.length := by omega
      clear h1
      go_wp2
      go_ret
      exact ⟨rfl, hb1⟩

def PartR (R : List Issue) (d l : Int) : Prop := ∃ x, findR R d l = some x ∧ 1 < x.k

set_option maxRecDepth 100000 in
set_option maxHeartbeats 1600000 in
theorem part08 (w : World) (v : Value) (R : List Issue) (d l : Int) (h : Sl AtIssue 5 w v R) :
    Calls Tryz.prog 42 #[.agg #[v], .int .i64 d, .int .i64 l] w (RetB (PartR R d l) w) := by
  obtain ⟨hb1, B1⟩ := boxed1 w #[v] 24
  have c0 := B1 0 v rfl
  clear B1
  have h1 := sl_ext stays_issue hb1 h
  clear h
  unfold Cell at c0
  go_enter Tryz.func42, Tryz.ntmps42
  go_wp2_with fail
  clear c0
  generalize w.alloc _ = w1 at *
  refine (find02 _ _ R d l h1).mono ?_
  rintro e w2 ⟨hb2, hf⟩
  rcases hf with ⟨x, vi, vd, hfx, rfl, hx⟩ | ⟨hfx, rfl⟩
  · obtain ⟨ai, capi, rfl, _⟩ := sl_shape hx.items
    obtain ⟨ad, capd, rfl, _⟩ := sl_shape hx.dims
    have HF := Lib.hid hfx
    clear hx hfx
    by_cases hk : 1 < x.k
    · go_wp2
      go_ret
      exact RetB.t ⟨x, HF.out, hk⟩ (below_trans hb1 (below_trans hb2 (below_alloc _ _)))
    · go_wp2
      go_ret
      show RetB (PartR R d l) w (Ending.returned (.bool (decide (1 < x.k)))) _
      rw [decide_eq_false (by omega)]
      exact RetB.f (fun h => by obtain ⟨y, hy, hky⟩ := h; rw [HF.out] at hy; cases hy; omega) (below_trans hb1 (below_trans hb2 (below_alloc _ _)))
  · have HF := Lib.hid hfx
    clear hfx
    go_wp2
    go_ret
    exact RetB.f (fun h => by obtain ⟨y, hy, hky⟩ := h; rw [HF.out] at hy; cases hy) (below_trans hb1 (below_trans hb2 (below_alloc _ _)))

def ReportOk (R : List Issue) (ms : List Int) (x : Report) : Prop := In x.num 1 9999 ∧ In x.k 1 3 ∧ x.m ∈ ms ∧ PartR R x.d x.l

set_option maxRecDepth 100000 in
set_option maxHeartbeats 1600000 in
theorem report08 (w : World) (vr vn vm vh vs : Value) (b : Built) (x : Report) (h : BuiltAt w vr vn vm vh vs b) (hu : U8 x.k) :
    Calls Tryz.prog 43 #[.agg #[vr, vn, .int .i64 b.of, vm, vh, vs], .agg #[.int .i64 x.num, .int .i64 x.m, .int .i64 x.d, .int .i64 x.l, .int .u8 x.k]] w (RetB (ReportOk b.ns.reg b.ms x) w) := by
  obtain ⟨hb1, B1, B2⟩ := boxed2 w #[vr, vn, .int .i64 b.of, vm, vh, vs] #[.int .i64 x.num, .int .i64 x.m, .int .i64 x.d, .int .i64 x.l, .int .u8 x.k] 32 34
  have c0 := B1 0 vr rfl
  have c2 := B1 3 vm rfl
  have x1 := B2 1 (.int .i64 x.m) rfl
  have x2 := B2 2 (.int .i64 x.d) rfl
  have x3 := B2 3 (.int .i64 x.l) rfl
  have x4 := B2 4 (.int .u8 x.k) rfl
  clear B1 B2
  have hr1 := sl_ext stays_issue hb1 h.reg
  have hm1 := sl_ext stays_int hb1 h.ms
  clear h
  obtain ⟨hu0, hu1⟩ := hu
  unfold Cell at c0 c2 x1 x2 x3 x4
  go_enter Tryz.func43, Tryz.ntmps43
  go_wp2_with fail
  generalize (w.alloc _).alloc _ = w1 at *
  refine (within08 _ _ _ _).mono ?_
  intro e w2 hh
  rcases hh.both with ⟨h1, rfl, rfl⟩ | ⟨h1, rfl, rfl⟩
  case inr => go_wp2; go_ret; exact RetB.f (fun h => h1 h.1) hb1
  clear hh
  go_wp2_with fail
  refine (within08 _ _ _ _).mono ?_
  intro e w2 hh
  rcases hh.both with ⟨h2, rfl, rfl⟩ | ⟨h2, rfl, rfl⟩
  case inr => go_wp2; go_ret; exact RetB.f (fun h => h2 h.2.1) hb1
  clear hh
  go_wp2_with fail
  refine (index02 _ _ b.ms x.m hm1).mono ?_
  rintro e w2 ⟨rfl, rfl⟩
  by_cases hin : x.m ∈ b.ms
  · have hge := idxI_in _ _ hin
    have HIN := Lib.hid hin
    clear hin
    generalize idxI b.ms x.m = ix at *
    go_wp2_with fail
    refine (part08 _ _ b.ns.reg x.d x.l hr1).mono ?_
    intro e w2 hh
    rcases hh.both with ⟨h3, rfl, hb2⟩ | ⟨h3, rfl, hb2⟩
    · clear hh
      have H3 := Lib.hid h3
      clear h3
      go_wp2
      go_ret
      exact RetB.t ⟨h1, h2, HIN.out, H3.out⟩ (below_trans hb1 hb2)
    · clear hh
      have H3 := Lib.hid h3
      clear h3
      go_wp2
      go_ret
      exact RetB.f (fun h => H3.out h.2.2.2) (below_trans hb1 hb2)
  · have hge := idxI_out _ _ hin
    have HIN := Lib.hid hin
    clear hin
    generalize idxI b.ms x.m = ix at *
    go_wp2
    go_ret
    exact RetB.f (fun h => HIN.out h.2.2.1) hb1

end Go.Proofs.YtoibnhkiedpkgaaGreatDoor

namespace Go.Proofs.YtoibnhkiedpkgaaGreatDoor
open Go.RowKit
theorem sl_later {α : Type} {E : World → Nat → Nat → α → Prop} {sz : Nat} {w : World} {v : Value} {xs : List α} (hs : Stays E) (h : Sl E sz w v xs) : ∀ x, Sl E sz (w.later x) v xs :=
  fun x => sl_ext hs (below_later w x) h
end Go.Proofs.YtoibnhkiedpkgaaGreatDoor
