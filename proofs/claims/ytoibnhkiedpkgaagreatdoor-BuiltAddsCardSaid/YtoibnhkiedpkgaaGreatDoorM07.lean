/- Whether a register, notes, machines are more than the statements consider; the reference's look at machines with their notes. The reference's machines in new memory. Reports as rows of cells. As Grow, where one operation among them writes into memory that is there: it keeps the facts that are asked of it. -/
import Derived.Test.YtoibnhkiedpkgaaGreatDoorM01
import Derived.Test.YtoibnhkiedpkgaaGreatDoorM02
import Derived.Test.YtoibnhkiedpkgaaGreatDoorM03
import Derived.Test.YtoibnhkiedpkgaaGreatDoorM05
import Derived.Test.YtoibnhkiedpkgaaGreatDoorM06
set_option linter.unusedVariables false
set_option linter.unusedSimpArgs false
set_option linter.all false

namespace Go.Proofs.YtoibnhkiedpkgaaGreatDoor
open Go.RowKit

def Tiny (b : Built) : Prop := (Small b.ns.reg ∧ b.ns.notes.length ≤ 16) ∧ b.ms.length ≤ 20 ∧ b.hs.length ≤ 8 ∧ b.rs.length ≤ 16

set_option maxRecDepth 100000 in
set_option maxHeartbeats 800000 in
theorem great02 (w : World) (v : Value) (R : List Issue) (h : Sl AtIssue 5 w v R) :
    Calls Tryz.prog 26 #[.agg #[v]] w (RetB (¬ Small R) w) := by
  obtain ⟨hb1, B1⟩ := boxed1 w #[v] 24
  have c0 := B1 0 v rfl
  clear B1
  obtain ⟨a, cap, rfl, hm⟩ := sl_shape h
  have h1 := sl_ext stays_issue hb1 h
  have C0 := Lib.hid c0
  unfold Cell at c0
  clear h
  by_cases hlen : 80 < R.length
  · go_enter Tryz.func26, Tryz.ntmps26
    go_wp2
    go_ret
    exact RetB.t (fun h => by have := h.1; omega) hb1
  go_enter Tryz.func26, Tryz.ntmps26
  go_wp2
  generalize w.alloc _ = w1 at *
  go_loop [3] (fun i => ∃ k : Nat, i = .int .i64 k ∧ k ≤ R.length ∧ ∀ j, j < k → (hj : j < R.length) → R[j].items.length ≤ 16 ∧ R[j].dims.length ≤ 8) (fun i => R.length - (intOf i).toNat)
  case atStart => exact ⟨0, rfl, by omega, fun j hj => absurd hj (by omega)⟩
  case round =>
    obtain ⟨k, rfl, hk, hall⟩ := hrel
    have HALL := Lib.hid hall
    clear hall
    by_cases hlt : k < R.length
    · obtain ⟨b, off, rfl, ⟨q0, q1, q2⟩, hnum, vi, vd, q3, q4, si, sd⟩ := (sl_at h1).2 k hlt
      have HY : Hid (R[k] = R[k]) := rfl
      generalize hy : R[k] = x at *
      have HX := Lib.hid hy
      clear hy HY h1 q0 q1 q2
      unfold Cell at q3 q4
      obtain ⟨ai, capi, rfl, _⟩ := sl_shape si
      obtain ⟨ad, capd, rfl, _⟩ := sl_shape sd
      clear si sd
      by_cases g1 : 16 < x.items.length
      · go_wp2
        go_ret
        exact RetB.t (fun h => by have := (h.2 k hlt).1; rw [HX.out] at this; omega) hb1
      · by_cases g2 : 8 < x.dims.length
        · go_wp2
          go_ret
          exact RetB.t (fun h => by have := (h.2 k hlt).2; rw [HX.out] at this; omega) hb1
        · go_wp2
          go_round
          case rel => exact ⟨k + 1, by go_num, by omega, all_step _ k HALL.out (fun _ => by rw [HX.out]; omega)⟩
          case measure => simp [intOf]; omega
    · go_wp2
      go_ret
      exact RetB.f (fun h => h ⟨by omega, fun k hk => HALL.out k (by omega) hk⟩) hb1

theorem great03 (w : World) (vr vn : Value) (R : List Issue) (N : List Note) (hr : Sl AtIssue 5 w vr R) (hn : Sl AtNote 10 w vn N) :
    Calls Tryz.prog 9 #[.agg #[vr, vn]] w (RetB (¬ (Small R ∧ N.length ≤ 16)) w) := by
  obtain ⟨hb1, B1⟩ := boxed1 w #[vr, vn] 27
  have c0 := B1 0 vr rfl
  have c1 := B1 1 vn rfl
  clear B1
  obtain ⟨a, cap, rfl, _⟩ := sl_shape hr
  obtain ⟨an, capn, rfl, _⟩ := sl_shape hn
  have h1 := sl_ext stays_issue hb1 hr
  have C1 := Lib.hid c1
  unfold Cell at c0 c1
  clear hr
  go_enter Tryz.func9, Tryz.ntmps9
  go_wp2_with fail
  generalize w.alloc _ = w1 at *
  refine (great02 _ _ R h1).mono ?_
  intro e w2 h
  rcases h.both with ⟨g1, rfl, hb2⟩ | ⟨g1, rfl, hb2⟩
  · clear h
    go_wp2
    go_ret
    exact RetB.t (fun h => g1 h.1) (below_trans hb1 hb2)
  · clear h c0 c1
    have c1 := cell_ext hb2 C1.out
    unfold Cell at c1
    have hS : Small R := Classical.byContradiction g1
    clear g1
    have HS := Lib.hid hS
    clear hS
    go_wp2
    go_ret
    refine ⟨_, rfl, ?_, below_trans hb1 hb2⟩
    have hS := HS.out
    rw [decide_eq_true_eq]
    constructor
    · intro h1 h2; omega
    · intro h1
      by_cases g2 : 16 < N.length
      · omega
      · exact (h1 ⟨hS, by omega⟩).elim

set_option maxRecDepth 100000 in
set_option maxHeartbeats 800000 in
theorem great08 (w : World) (vr vn vm vh vs : Value) (b : Built) (h : BuiltAt w vr vn vm vh vs b) :
    Calls Tryz.prog 4 #[.agg #[vr, vn, .int .i64 b.of, vm, vh, vs]] w (RetB (¬ Tiny b) w) := by
  obtain ⟨ar, capr, rfl, _⟩ := sl_shape h.reg
  obtain ⟨an, capn, rfl, _⟩ := sl_shape h.notes
  obtain ⟨am, capm, rfl, hmm⟩ := sl_shape h.ms
  obtain ⟨ah, caph, rfl, hmh⟩ := sl_shape h.hs
  obtain ⟨az, capz, rfl, hmz⟩ := sl_shape h.rs
  obtain ⟨hb1, B1⟩ := boxed1 w #[.slice ar b.ns.reg.length capr, .slice an b.ns.notes.length capn, .int .i64 b.of, .slice am b.ms.length capm, .slice ah b.hs.length caph, .slice az b.rs.length capz] 32
  have c0 := B1 0 _ rfl
  have c1 := B1 1 _ rfl
  have c3 := B1 3 (.slice am b.ms.length capm) rfl
  have c4 := B1 4 (.slice ah b.hs.length caph) rfl
  have c5 := B1 5 (.slice az b.rs.length capz) rfl
  clear B1
  have h1 := h.ext hb1
  clear h
  have C3 := Lib.hid c3
  have C4 := Lib.hid c4
  have C5 := Lib.hid c5
  unfold Cell at c0 c1 c3 c4 c5
  go_enter Tryz.func4, Tryz.ntmps4
  go_wp2_with fail
  generalize w.alloc _ = w1 at *
  refine (great03 _ _ _ b.ns.reg b.ns.notes h1.reg h1.notes).mono ?_
  intro e w2 h
  clear c0 c1 c3 c4 c5
  rcases h.both with ⟨g1, rfl, hb2⟩ | ⟨g1, rfl, hb2⟩
  · clear h
    go_wp2
    go_ret
    exact RetB.t (fun h => g1 h.1) (below_trans hb1 hb2)
  clear h
  have hS := Lib.hid (Classical.byContradiction g1)
  have c3 := cell_ext hb2 C3.out
  have c4 := cell_ext hb2 C4.out
  have c5 := cell_ext hb2 C5.out
  clear g1 h1
  unfold Cell at c3 c4 c5
  by_cases g2 : 20 < b.ms.length
  · go_wp2
    go_ret
    exact ⟨_, rfl, ⟨fun _ h => by have := h.2.1; omega, fun _ => by simp; try omega⟩, below_trans hb1 hb2⟩
  by_cases g3 : 8 < b.hs.length
  · go_wp2
    go_ret
    exact ⟨_, rfl, ⟨fun _ h => by have := h.2.2.1; omega, fun _ => by simp; try omega⟩, below_trans hb1 hb2⟩
  by_cases g4 : 16 < b.rs.length
  · go_wp2
    go_ret
    exact ⟨_, rfl, ⟨fun _ h => by have := h.2.2.2; omega, fun _ => by simp; try omega⟩, below_trans hb1 hb2⟩
  go_wp2
  go_ret
  exact ⟨_, rfl, ⟨fun h => by simp at h; try omega, fun h => (h ⟨hS.out, by omega, by omega, by omega⟩).elim⟩, below_trans hb1 hb2⟩

open Classical in
/-- The error of machines. -/
noncomputable def builtCode (b : Built) : Int := if notesCode b.ns.reg b.ns.notes ≠ 0 then notesCode b.ns.reg b.ns.notes else if BuiltOk b then 0 else 80

theorem check08 (w : World) (vr vn vm vh vs : Value) (b : Built) (h : BuiltAt w vr vn vm vh vs b) :
    Calls Tryz.prog 22 #[.agg #[vr, vn, .int .i64 b.of, vm, vh, vs]] w fun e w' => e = .returned (.int .i64 (builtCode b)) ∧ Below w.heap.size w w' := by
  obtain ⟨ar, capr, rfl, _⟩ := sl_shape h.reg
  obtain ⟨an, capn, rfl, _⟩ := sl_shape h.notes
  obtain ⟨am, capm, rfl, hmm⟩ := sl_shape h.ms
  obtain ⟨ah, caph, rfl, hmh⟩ := sl_shape h.hs
  obtain ⟨az, capz, rfl, hmz⟩ := sl_shape h.rs
  obtain ⟨hb1, B1⟩ := boxed1 w #[.slice ar b.ns.reg.length capr, .slice an b.ns.notes.length capn, .int .i64 b.of, .slice am b.ms.length capm, .slice ah b.hs.length caph, .slice az b.rs.length capz] 32
  have c0 := B1 0 (.slice ar b.ns.reg.length capr) rfl
  have c1 := B1 1 (.slice an b.ns.notes.length capn) rfl
  have c2 := B1 2 (.int .i64 b.of) rfl
  have c3 := B1 3 (.slice am b.ms.length capm) rfl
  have c4 := B1 4 (.slice ah b.hs.length caph) rfl
  have c5 := B1 5 (.slice az b.rs.length capz) rfl
  clear B1
  have h1 := h.ext hb1
  clear h
  have C := Lib.hid (And.intro c0 (And.intro c1 (And.intro c2 (And.intro c3 (And.intro c4 c5)))))
  unfold Cell at c0 c1 c2 c3 c4 c5
  go_enter Tryz.func22, Tryz.ntmps22
  go_wp2_with fail
  generalize w.alloc _ = w1 at *
  refine (check03 _ _ _ b.ns.reg b.ns.notes h1.reg h1.notes).mono ?_
  rintro e w2 ⟨rfl, hb2⟩
  clear c0 c1 c2 c3 c4 c5
  obtain ⟨c0, c1, c2, c3, c4, c5⟩ := C.out
  replace c0 := cell_ext hb2 c0
  replace c1 := cell_ext hb2 c1
  replace c2 := cell_ext hb2 c2
  replace c3 := cell_ext hb2 c3
  replace c4 := cell_ext hb2 c4
  replace c5 := cell_ext hb2 c5
  clear C
  have h2 := h1.ext hb2
  clear h1
  unfold Cell at c0 c1 c2 c3 c4 c5
  have HC : Hid (builtCode b = _) := (rfl : builtCode b = builtCode b)
  generalize hc : notesCode b.ns.reg b.ns.notes = c at *
  have HN := Lib.hid hc
  clear hc
  by_cases g1 : (c != 0) = true
  · go_wp2
    go_ret
    refine ⟨ret_int ?_, below_trans hb1 hb2⟩
    unfold builtCode
    rw [HN.out, if_pos (by simpa using g1)]
  · have g1' : (c != 0) = false := by simpa using g1
    clear g1
    go_wp2_with fail
    refine (built08 _ _ _ _ _ _ b h2).mono ?_
    intro e w3 h
    clear c0 c1 c2 c3 c4 c5
    rcases h.both with ⟨k1, rfl, hb3⟩ | ⟨k1, rfl, hb3⟩
    · clear h
      go_wp2
      go_ret
      refine ⟨ret_int ?_, below_trans hb1 (below_trans hb2 hb3)⟩
      unfold builtCode
      rw [HN.out, if_neg (by simpa using g1'), if_pos k1]
    · clear h
      go_wp2
      go_ret
      refine ⟨ret_int ?_, below_trans hb1 (below_trans hb2 hb3)⟩
      unfold builtCode
      rw [HN.out, if_neg (by simpa using g1'), if_neg k1]

end Go.Proofs.YtoibnhkiedpkgaaGreatDoor

namespace Go.Proofs.YtoibnhkiedpkgaaGreatDoor
open Go.RowKit
attribute [local go_sem] stepOk Oper.grows Oper.growUpon

/-- Machines whose memory lies from block 'base' on, and may be written to. -/
structure BuiltN (base : Nat) (w : World) (vr vn vm vh vs : Value) (b : Built) : Prop where
  reg : Sl (Fr base 46 (AtIssueN base)) 5 w vr b.ns.reg
  notes : Sl (Fr base 52 AtNote) 10 w vn b.ns.notes
  ms : Sl (Fr base 3 AtInt) 1 w vm b.ms
  hs : Sl (Fr base 56 AtHeap) 4 w vh b.hs
  rs : Sl (Fr base 34 AtReport) 5 w vs b.rs
  of : I64 b.of
theorem BuiltN.ext {base : Nat} {w w' : World} {vr vn vm vh vs : Value} {b : Built} (hb : Below w.heap.size w w') (h : BuiltN base w vr vn vm vh vs b) : BuiltN base w' vr vn vm vh vs b :=
  ⟨sl_ext (stays_fr stays_issueN) hb h.reg, sl_ext (stays_fr stays_note) hb h.notes, sl_ext (stays_fr stays_int) hb h.ms, sl_ext (stays_fr stays_heap) hb h.hs, sl_ext (stays_fr stays_report) hb h.rs, h.of⟩
theorem BuiltN.at {base : Nat} {w : World} {vr vn vm vh vs : Value} {b : Built} (h : BuiltN base w vr vn vm vh vs b) : BuiltAt w vr vn vm vh vs b :=
  ⟨sl_map (fun _ _ _ h => issueN_issue h.1) h.reg, sl_unfr h.notes, sl_unfr h.ms, sl_unfr h.hs, sl_unfr h.rs, h.of⟩
theorem BuiltN.set {base g j : Nat} {u : Value} {w : World} {vr vn vm vh vs : Value} {b : Built} (hg : g < base) (h : BuiltN base w vr vn vm vh vs b) : BuiltN base (w.setCell ⟨g, j, none⟩ u) vr vn vm vh vs b :=
  ⟨sl_same_issue (same_set hg) (same_set hg) (same_set hg) h.reg, sl_set local_note hg h.notes, sl_set local_int hg h.ms, sl_set local_heap hg h.hs, sl_set local_report hg h.rs, h.of⟩
theorem BuiltN.weak {base base' : Nat} {w : World} {vr vn vm vh vs : Value} {b : Built} (hw : base' ≤ base) (h : BuiltN base w vr vn vm vh vs b) : BuiltN base' w vr vn vm vh vs b :=
  ⟨issueN_weak hw h.reg, sl_weak hw h.notes, sl_weak hw h.ms, sl_weak hw h.hs, sl_weak hw h.rs, h.of⟩
def NilRow (e : TypeId) (sz base : Nat) (v : Value) (w : World) : Prop := NilSl v ∧ w.ownsRow base e sz v 0 []
theorem nilRow_stays (e : TypeId) (sz base : Nat) : StaysV (NilRow e sz base) := fun _ _ _ hb h => ⟨h.1, own_ext hb h.2⟩
theorem nilRow_new (e : TypeId) (sz base : Nat) (w : World) (h : base ≤ w.heap.size) : NilRow e sz base (.slice (some ⟨w.heap.size, 0, none⟩) 0 0) (w.alloc (.cells #[] e)) :=
  ⟨⟨_, rfl⟩, World.ownsRow_made w #[] 0 h (Nat.zero_le _) (by simp)⟩

set_option maxRecDepth 100000 in
set_option maxHeartbeats 3200000 in
theorem twin08 (w : World) (vr vn vm vh vs : Value) (b : Built) (h : BuiltAt w vr vn vm vh vs b) (hT : Tiny b) :
    Calls Tryz.prog 5 #[.agg #[vr, vn, .int .i64 b.of, vm, vh, vs]] w fun e w' => ∃ ur un um uh us, e = .returned (.agg #[ur, un, .int .i64 b.of, um, uh, us]) ∧
      BuiltN w.heap.size w' ur un um uh us b ∧ ((∃ cs, w'.ownsRow w.heap.size 34 5 us b.rs.length cs) ∧ ∃ g cap, us = .slice (some ⟨g, 0, none⟩) b.rs.length cap) ∧ Below w.heap.size w w' ∧ Capd ur b.ns.reg.length ∧ Capd un b.ns.notes.length ∧ Capd uh b.hs.length := by
  obtain ⟨i0, hi0, hx0, hx1, hx2⟩ := info_parts infoInt
  obtain ⟨i1, hi1, hy0, hy1, hy2⟩ := info_parts infoHeap
  obtain ⟨i2, hi2, hz0, hz1, hz2⟩ := info_parts infoReport
  obtain ⟨⟨hS, hN⟩, hM, hH, hR⟩ := hT
  have HS := Lib.hid hS
  clear hS
  obtain ⟨ar, capr, rfl, _⟩ := sl_shape h.reg
  obtain ⟨an, capn, rfl, _⟩ := sl_shape h.notes
  obtain ⟨am, capm, rfl, hmm⟩ := sl_shape h.ms
  obtain ⟨ah, caph, rfl, hmh⟩ := sl_shape h.hs
  obtain ⟨az, capz, rfl, hmz⟩ := sl_shape h.rs
  obtain ⟨hb1, B1, B2⟩ := boxed2 w #[.slice ar b.ns.reg.length capr, .slice an b.ns.notes.length capn, .int .i64 b.of, .slice am b.ms.length capm, .slice ah b.hs.length caph, .slice az b.rs.length capz] #[.slice none 0 0, .slice none 0 0, .int .i64 0, .slice none 0 0, .slice none 0 0, .slice none 0 0] 32 32
  have c0 := B1 0 (.slice ar b.ns.reg.length capr) rfl
  have c1 := B1 1 (.slice an b.ns.notes.length capn) rfl
  have c2 := B1 2 (.int .i64 b.of) rfl
  have c3 := B1 3 (.slice am b.ms.length capm) rfl
  have c4 := B1 4 (.slice ah b.hs.length caph) rfl
  have c5 := B1 5 (.slice az b.rs.length capz) rfl
  have r0 := B2 0 (.slice none 0 0) rfl
  have r1 := B2 1 (.slice none 0 0) rfl
  have r2 := B2 2 (.int .i64 0) rfl
  have r3 := B2 3 (.slice none 0 0) rfl
  have r4 := B2 4 (.slice none 0 0) rfl
  have r5 := B2 5 (.slice none 0 0) rfl
  have f1 := free_ext (below_alloc _ (.cells #[.slice none 0 0, .slice none 0 0, .int .i64 0, .slice none 0 0, .slice none 0 0, .slice none 0 0] 32)) (free_new w #[.slice ar b.ns.reg.length capr, .slice an b.ns.notes.length capn, .int .i64 b.of, .slice am b.ms.length capm, .slice ah b.hs.length caph, .slice az b.rs.length capz] 32)
  have f2 := free_new (w.alloc (.cells #[.slice ar b.ns.reg.length capr, .slice an b.ns.notes.length capn, .int .i64 b.of, .slice am b.ms.length capm, .slice ah b.hs.length caph, .slice az b.rs.length capz] 32)) #[.slice none 0 0, .slice none 0 0, .int .i64 0, .slice none 0 0, .slice none 0 0, .slice none 0 0] 32
  rw [World.size_alloc] at f2
  have F1 := Lib.hid f1
  have F2 := Lib.hid f2
  have C2 := Lib.hid c2
  have C3 := Lib.hid c3
  have C4 := Lib.hid c4
  have C5 := Lib.hid c5
  clear B1 B2 f1 f2 c2 c3 c4 c5
  have h1 := h.ext hb1
  unfold Cell at c0 c1
  go_enter Tryz.func5, Tryz.ntmps5
  go_wp2_with fail
  generalize (w.alloc _).alloc _ = w1 at *
  refine (twin03 _ _ _ b.ns.reg b.ns.notes h1.reg h1.notes HS.out hN).mono ?_
  rintro e w2 ⟨ur, un, rfl, s0, s1, hb2, hcd0, hcd1⟩
  have HCD := Lib.hid (And.intro hcd0 hcd1)
  clear hcd0 hcd1
  obtain ⟨a0, cap0, rfl, _⟩ := sl_shape s0
  obtain ⟨a1, cap1, rfl, _⟩ := sl_shape s1
  replace h1 := h1.ext hb2
  have hz9 : w.heap.size + 1 < w1.heap.size := F2.out.1
  replace F1 := Lib.hid (free_ext hb2 F1.out)
  replace F2 := Lib.hid (free_ext hb2 F2.out)
  replace C2 := Lib.hid (cell_ext hb2 C2.out)
  replace C3 := Lib.hid (cell_ext hb2 C3.out)
  replace C4 := Lib.hid (cell_ext hb2 C4.out)
  replace C5 := Lib.hid (cell_ext hb2 C5.out)
  replace c0 := cell_ext hb2 c0
  replace c1 := cell_ext hb2 c1
  replace r0 := cell_ext hb2 r0
  replace r1 := cell_ext hb2 r1
  replace r2 := cell_ext hb2 r2
  replace r3 := cell_ext hb2 r3
  replace r4 := cell_ext hb2 r4
  replace r5 := cell_ext hb2 r5
  have S0 := Lib.hid s0
  have S1 := Lib.hid s1
  have R0 := Lib.hid (And.intro r0 (And.intro r1 (And.intro r2 (And.intro r3 (And.intro r4 r5)))))
  have hbb := below_trans hb1 hb2
  have hzz := hb2.size
  clear s0 s1 hb2 hb1 r0 r1 r2 r3 r4 r5
  generalize w1.heap.size = z1 at *
  have p0 := F1.out.2 0
  have p1 := F1.out.2 1
  have c0x := c0
  unfold Cell at c0 c1
  go_wp2
  have hg0 : w.heap.size < z1 := by omega
  have hb4 : Below w.heap.size w ((w2.setCell ⟨w.heap.size, 0, none⟩ (.slice a0 b.ns.reg.length cap0)).setCell ⟨w.heap.size, 1, none⟩ (.slice a1 b.ns.notes.length cap1)) := below_set (Nat.le_refl _) (below_set (Nat.le_refl _) hbb)
  have S0 := Lib.hid (sl_same_issue ((same_set hg0).trans (same_set (w := w2.setCell ⟨w.heap.size, 0, none⟩ (.slice a0 b.ns.reg.length cap0)) (j := 1) (u := .slice a1 b.ns.notes.length cap1) hg0)) ((same_set hg0).trans (same_set hg0)) ((same_set hg0).trans (same_set hg0)) S0.out)
  have S1 := Lib.hid (sl_set (j := 1) (u := .slice a1 b.ns.notes.length cap1) local_note hg0 (sl_set (j := 0) (u := .slice a0 b.ns.reg.length cap0) local_note hg0 S1.out))
  have F1 := Lib.hid (free_set (g := w.heap.size) (j := 1) (u := .slice a1 b.ns.notes.length cap1) (free_set (g := w.heap.size) (j := 0) (u := .slice a0 b.ns.reg.length cap0) F1.out))
  have F2 := Lib.hid (free_set (g := w.heap.size) (j := 1) (u := .slice a1 b.ns.notes.length cap1) (free_set (g := w.heap.size) (j := 0) (u := .slice a0 b.ns.reg.length cap0) F2.out))
  have c2 := cell_set_off (j := 1) (u := .slice a1 b.ns.notes.length cap1) (by decide) (cell_set_off (j := 0) (u := .slice a0 b.ns.reg.length cap0) (by decide) C2.out)
  have c3 := cell_set_off (j := 1) (u := .slice a1 b.ns.notes.length cap1) (by decide) (cell_set_off (j := 0) (u := .slice a0 b.ns.reg.length cap0) (by decide) C3.out)
  have c4 := cell_set_off (j := 1) (u := .slice a1 b.ns.notes.length cap1) (by decide) (cell_set_off (j := 0) (u := .slice a0 b.ns.reg.length cap0) (by decide) C4.out)
  have c5 := cell_set_off (j := 1) (u := .slice a1 b.ns.notes.length cap1) (by decide) (cell_set_off (j := 0) (u := .slice a0 b.ns.reg.length cap0) (by decide) C5.out)
  have c0' := cell_set_off (j := 1) (u := .slice a1 b.ns.notes.length cap1) (by decide) (cell_set_same (u := .slice a0 b.ns.reg.length cap0) c0)
  have c1' := cell_set_same (u := .slice a1 b.ns.notes.length cap1) (cell_set_off (j := 0) (u := .slice a0 b.ns.reg.length cap0) (by decide : 1 ≠ 0) c1)
  have rr : ∀ (j : Nat) (v : Value), Cell w2 (w.heap.size + 1) j v → Cell ((w2.setCell ⟨w.heap.size, 0, none⟩ (.slice a0 b.ns.reg.length cap0)).setCell ⟨w.heap.size, 1, none⟩ (.slice a1 b.ns.notes.length cap1)) (w.heap.size + 1) j v := fun j v hj => cell_set_other (cell_set_other hj (by omega)) (by omega)
  obtain ⟨r0, r1, r2, r3, r4, r5⟩ := R0.out
  have R0 := Lib.hid (And.intro (rr _ _ r0) (And.intro (rr _ _ r1) (And.intro (rr _ _ r2) (And.intro (rr _ _ r3) (And.intro (rr _ _ r4) (rr _ _ r5))))))
  have hzz : z1 ≤ ((w2.setCell ⟨w.heap.size, 0, none⟩ (.slice a0 b.ns.reg.length cap0)).setCell ⟨w.heap.size, 1, none⟩ (.slice a1 b.ns.notes.length cap1)).heap.size := by simpa using hzz
  clear rr r0 r1 r2 r3 r4 r5 c0 c1 c0x p0 p1 C2 C3 C4 C5 hbb h1
  generalize (w2.setCell _ _).setCell _ _ = w4 at *
  have C0 := Lib.hid (And.intro c0' c1')
  have K2 := cell_later c3
  have K3 := cell_later c4
  have K4 := cell_later c5
  have C2 := Lib.hid c2
  clear c0' c1' c2
  refine wp_region_grow_all 13 (by kernel_rfl) (by kernel_rfl) ?_
  simp only [List.take_succ_cons, List.take_zero]
  refine growAll_step (fun v _ => NilSl v) nilSl_stays ?_ ?_
  · intro vs xq hd
    (try simp [Oper.waitsOn, Region.binds, List.filter_cons, List.filter_nil, factAt, depsHold] at hd)
    simp only [putsFrom, Act.put, List.setIfInBounds_toArray, List.set_cons_succ, List.set_cons_zero]
    go_simp
    exact ⟨below_alloc _ _, _, rfl⟩
  refine growAll_exact ?_
  apply Exists.intro
  refine ⟨fun vs xq hd => ?_, ?_⟩
  · (try simp [Oper.waitsOn, Region.binds, List.filter_cons, List.filter_nil, factAt, depsHold] at hd)
    simp only [putsFrom, Act.put, List.setIfInBounds_toArray, List.set_cons_succ, List.set_cons_zero]
    go_simp
    exact ⟨Below.refl _ _, rfl⟩
  refine growAll_exact ?_
  apply Exists.intro
  refine ⟨fun vs xq hd => ?_, ?_⟩
  · (try simp [Oper.waitsOn, Region.binds, List.filter_cons, List.filter_nil, factAt, depsHold] at hd)
    simp only [putsFrom, Act.put, List.setIfInBounds_toArray, List.set_cons_succ, List.set_cons_zero]
    go_simp
    exact ⟨Below.refl _ _, rfl⟩
  refine growAll_step (fun v w' => Sl (Fr z1 3 AtInt) 1 w' v b.ms) (fun v w w' hb h => sl_ext (stays_fr stays_int) hb h) ?_ ?_
  · intro vs xq hd
    (try simp [Oper.waitsOn, Region.binds, List.filter_cons, List.filter_nil, factAt, depsHold] at hd)
    simp only [putsFrom, Act.put, List.setIfInBounds_toArray, List.set_cons_succ, List.set_cons_zero]
    exact stepOk_plain (by rfl) (grows_append_copyC (.tmp 7) (.tmp 9) 28 (by rfl) 3 i0 _ 1 8 Tryz.underlying28 hi0 hx0 hx1 hx2 rfl (by decide) (by decide) copies_int cells_int (vs 0) (.slice am b.ms.length capm) b.ms (by rfl) hd.1 (by exact hd.2) (h.ext (below_trans hb4 (below_later _ _))).ms (Nat.le_trans hM (by decide)) z1 (Nat.le_trans hzz (below_later w4 xq).size)) (fun v w' h => h.1)
  refine growAll_step (fun v _ => NilSl v) nilSl_stays ?_ ?_
  · intro vs xq hd
    (try simp [Oper.waitsOn, Region.binds, List.filter_cons, List.filter_nil, factAt, depsHold] at hd)
    simp only [putsFrom, Act.put, List.setIfInBounds_toArray, List.set_cons_succ, List.set_cons_zero]
    go_simp
    exact ⟨below_alloc _ _, _, rfl⟩
  refine growAll_exact ?_
  apply Exists.intro
  refine ⟨fun vs xq hd => ?_, ?_⟩
  · (try simp [Oper.waitsOn, Region.binds, List.filter_cons, List.filter_nil, factAt, depsHold] at hd)
    simp only [putsFrom, Act.put, List.setIfInBounds_toArray, List.set_cons_succ, List.set_cons_zero]
    go_simp
    exact ⟨Below.refl _ _, rfl⟩
  refine growAll_exact ?_
  apply Exists.intro
  refine ⟨fun vs xq hd => ?_, ?_⟩
  · (try simp [Oper.waitsOn, Region.binds, List.filter_cons, List.filter_nil, factAt, depsHold] at hd)
    simp only [putsFrom, Act.put, List.setIfInBounds_toArray, List.set_cons_succ, List.set_cons_zero]
    go_simp
    exact ⟨Below.refl _ _, rfl⟩
  refine growAll_step (fun v w' => Sl (Fr z1 56 AtHeap) 4 w' v b.hs ∧ Capd v b.hs.length) (fun v w w' hb h => ⟨sl_ext (stays_fr stays_heap) hb h.1, h.2⟩) ?_ ?_
  · intro vs xq hd
    (try simp [Oper.waitsOn, Region.binds, List.filter_cons, List.filter_nil, factAt, depsHold] at hd)
    simp only [putsFrom, Act.put, List.setIfInBounds_toArray, List.set_cons_succ, List.set_cons_zero]
    exact stepOk_plain (by rfl) (grows_append_copyC (.tmp 11) (.tmp 13) 29 (by rfl) 56 i1 _ 4 32 Tryz.underlying29 hi1 hy0 hy1 hy2 rfl (by decide) (by decide) copies_heap cells_heap (vs 4) (.slice ah b.hs.length caph) b.hs (by rfl) hd.1 (by exact hd.2.1) (h.ext (below_trans hb4 (below_later _ _))).hs (Nat.le_trans hH (by decide)) z1 (Nat.le_trans hzz (below_later w4 xq).size)) (fun v w' h => h)
  refine growAll_step (fun v w' => NilRow 34 5 z1 v w') (nilRow_stays _ _ _) ?_ ?_
  · intro vs xq hd
    (try simp [Oper.waitsOn, Region.binds, List.filter_cons, List.filter_nil, factAt, depsHold] at hd)
    simp only [putsFrom, Act.put, List.setIfInBounds_toArray, List.set_cons_succ, List.set_cons_zero]
    go_simp
    exact ⟨below_alloc _ _, nilRow_new _ _ _ _ (Nat.le_trans hzz (below_later w4 xq).size)⟩
  refine growAll_exact ?_
  apply Exists.intro
  refine ⟨fun vs xq hd => ?_, ?_⟩
  · (try simp [Oper.waitsOn, Region.binds, List.filter_cons, List.filter_nil, factAt, depsHold] at hd)
    simp only [putsFrom, Act.put, List.setIfInBounds_toArray, List.set_cons_succ, List.set_cons_zero]
    go_simp
    exact ⟨Below.refl _ _, rfl⟩
  refine growAll_exact ?_
  apply Exists.intro
  refine ⟨fun vs xq hd => ?_, ?_⟩
  · (try simp [Oper.waitsOn, Region.binds, List.filter_cons, List.filter_nil, factAt, depsHold] at hd)
    simp only [putsFrom, Act.put, List.setIfInBounds_toArray, List.set_cons_succ, List.set_cons_zero]
    go_simp
    exact ⟨Below.refl _ _, rfl⟩
  refine growAll_step (fun v w' => New AtReport 5 34 z1 w' v b.rs ∧ ∃ g cap, v = .slice (some ⟨g, 0, none⟩) b.rs.length cap) (fun v w w' hb h => ⟨h.1.ext stays_report hb, h.2⟩) ?_ ?_
  · intro vs xq hd
    (try simp [Oper.waitsOn, Region.binds, List.filter_cons, List.filter_nil, factAt, depsHold] at hd)
    simp only [putsFrom, Act.put, List.setIfInBounds_toArray, List.set_cons_succ, List.set_cons_zero]
    exact stepOk_plain (by rfl) (grows_append_new (.tmp 15) (.tmp 17) 30 (by rfl) 34 i2 _ 5 40 Tryz.underlying30 hi2 hz0 hz1 hz2 rfl (by decide) (by decide) copies_report cells_report (vs 8) (.slice az b.rs.length capz) b.rs (by rfl) hd.1.1 (by exact hd.2.1) (h.ext (below_trans hb4 (below_later _ _))).rs (Nat.le_trans hR (by decide)) z1 (Nat.le_trans hzz (below_later w4 xq).size) hd.1.2) (fun v w' h => h)
  refine growAll_exact ?_
  apply Exists.intro
  refine ⟨fun vs xq hd => ?_, ?_⟩
  · (try simp [Oper.waitsOn, Region.binds, List.filter_cons, List.filter_nil, factAt, depsHold] at hd)
    simp only [putsFrom, Act.put, List.setIfInBounds_toArray, List.set_cons_succ, List.set_cons_zero]
    go_simp
    exact ⟨Below.refl _ _, rfl⟩
  refine growAll_done rfl (fun vs xq hd => ?_)
  simp [depsHold, factAt, List.range, List.range.loop] at hd
  simp only [putsFrom, Act.put, List.setIfInBounds_toArray, List.set_cons_succ, List.set_cons_zero, List.drop_succ_cons, List.drop_zero]
  obtain ⟨_, _, _, s3, _, _, _, ⟨s7, hcd7⟩, _, _, _, ⟨s11, g11, cap11, e11⟩, e12⟩ := hd
  generalize vs 0 = u0 at *
  generalize vs 1 = u1 at *
  generalize vs 2 = u2 at *
  generalize vs 3 = u3 at *
  generalize vs 4 = u4 at *
  generalize vs 5 = u5 at *
  generalize vs 6 = u6 at *
  generalize vs 7 = u7 at *
  generalize vs 8 = u8 at *
  generalize vs 9 = u9 at *
  generalize vs 10 = u10 at *
  generalize vs 11 = u11 at *
  generalize vs 12 = u12 at *
  subst e12 e11
  obtain ⟨a3, cap3, rfl, _⟩ := sl_shape s3
  obtain ⟨a7, cap7, rfl, _⟩ := sl_shape s7
  have HCD7 := Lib.hid hcd7
  clear hcd7
  have hbl := below_later w4 xq
  have S : Hid (BuiltN z1 (w4.later xq) (.slice a0 b.ns.reg.length cap0) (.slice a1 b.ns.notes.length cap1) (.slice a3 b.ms.length cap3) (.slice a7 b.hs.length cap7) (.slice (some ⟨g11, 0, none⟩) b.rs.length cap11) b) :=
    ⟨sl_ext (stays_fr stays_issueN) hbl S0.out, sl_ext (stays_fr stays_note) hbl S1.out, s3, s7, s11.fr, h.of⟩
  have SP := Lib.hid s11.2
  have c0 := cell_ext hbl C0.out.1
  have c1 := cell_ext hbl C0.out.2
  have c2 := cell_ext hbl C2.out
  replace c3 := cell_ext hbl c3
  replace c4 := cell_ext hbl c4
  replace c5 := cell_ext hbl c5
  have r0 := cell_ext hbl R0.out.1
  have r1 := cell_ext hbl R0.out.2.1
  have r2 := cell_ext hbl R0.out.2.2.1
  have r3 := cell_ext hbl R0.out.2.2.2.1
  have r4 := cell_ext hbl R0.out.2.2.2.2.1
  have r5 := cell_ext hbl R0.out.2.2.2.2.2
  have f1 := free_ext hbl F1.out
  have f2 := free_ext hbl F2.out
  have hbb := below_trans hb4 hbl
  clear S0 S1 s3 s7 s11 C0 C2 K2 K3 K4 R0 F1 F2 hb4 hbl h HS
  generalize w4.later xq = w5 at *
  have p2 := f1.2 2
  have p3 := f1.2 3
  have p4 := f1.2 4
  have p5 := f1.2 5
  have q0 := f2.2 0
  have q1 := f2.2 1
  have q2 := f2.2 2
  have q3 := f2.2 3
  have q4 := f2.2 4
  have q5 := f2.2 5
  have hl1 := f1.1
  have hl2 := f2.1
  clear f1 f2
  unfold Cell at c0 c1 c2 c3 c4 c5 r0 r1 r2 r3 r4 r5
  go_wp2
  refine bodyPost_ret (v := .agg #[.slice a0 b.ns.reg.length cap0, .slice a1 b.ns.notes.length cap1, .int .i64 b.of, .slice a3 b.ms.length cap3, .slice a7 b.hs.length cap7, .slice (some ⟨g11, 0, none⟩) b.rs.length cap11]) ?_ rfl ⟨_, _, _, _, _, rfl, ?_, ?_, ?_, HCD.out.1, HCD.out.2, HCD7.out⟩
  · simp [results, Tryz.results5, go_sem, r0, r1, r2, r3, r4, r5, hl2]
  · refine BuiltN.weak (base := z1) (by omega) ?_
    repeat (refine BuiltN.set (by omega) ?_)
    exact S.out
  · obtain ⟨cs, hl, hcs⟩ := SP.out
    refine ⟨⟨cs, ?_⟩, g11, cap11, rfl⟩
    have hcs2 : w5.ownsRow w.heap.size 34 5 (.slice (some ⟨g11, 0, none⟩) b.rs.length cap11) b.rs.length cs ∧ w5.ownsRow z1 34 5 (.slice (some ⟨g11, 0, none⟩) b.rs.length cap11) b.rs.length cs := by
      refine ⟨⟨hl, ?_⟩, hl, hcs⟩
      rcases hcs with h | ⟨g', cap', cur, h1, h2, h3⟩
      · exact .inl h
      · exact .inr ⟨g', cap', cur, h1, by omega, h3⟩
    have hcs3 := hcs2.2
    have key : ∀ w' : World, w'.ownsRow z1 34 5 (.slice (some ⟨g11, 0, none⟩) b.rs.length cap11) b.rs.length cs → w'.ownsRow w.heap.size 34 5 (.slice (some ⟨g11, 0, none⟩) b.rs.length cap11) b.rs.length cs := fun w' ⟨hl, h⟩ => by
      refine ⟨hl, ?_⟩
      rcases h with h | ⟨g', cap', cur, h1, h2, h3⟩
      · exact .inl h
      · exact .inr ⟨g', cap', cur, h1, by omega, h3⟩
    refine key _ ?_
    repeat (refine own_set ?_ (by omega))
    exact hcs3
  · repeat (refine below_set (by omega) ?_)
    exact hbb

end Go.Proofs.YtoibnhkiedpkgaaGreatDoor

namespace Go.Proofs.YtoibnhkiedpkgaaGreatDoor
open Go.RowKit

def encR (x : Report) : List Value := [.int .i64 x.num, .int .i64 x.m, .int .i64 x.d, .int .i64 x.l, .int .u8 x.k]
def flatR (xs : List Report) : List Value := xs.flatMap encR
theorem flatR_len (xs : List Report) : (flatR xs).length = xs.length * 5 := by
  unfold flatR
  induction xs with
  | nil => rfl
  | cons x xs ih => simp [encR, ih]; omega
theorem flatR_append (xs ys : List Report) : flatR (xs ++ ys) = flatR xs ++ flatR ys := by unfold flatR; rw [List.flatMap_append]
theorem flatR_take (xs : List Report) (k : Nat) (hk : k ≤ xs.length) : (flatR xs).take (k * 5) = flatR (xs.take k) := by
  have h : (flatR (xs.take k ++ xs.drop k)).take (k * 5) = (flatR xs).take (k * 5) := by rw [List.take_append_drop]
  rw [← h, flatR_append, List.take_append_of_le_length (by rw [flatR_len]; simp; omega), List.take_of_length_le (by rw [flatR_len]; simp; omega)]
theorem flatR_drop (xs : List Report) (k : Nat) (hk : k ≤ xs.length) : (flatR xs).drop (k * 5) = flatR (xs.drop k) := by
  have h : (flatR (xs.take k ++ xs.drop k)).drop (k * 5) = (flatR xs).drop (k * 5) := by rw [List.take_append_drop]
  have e : (flatR (xs.take k)).length = k * 5 := by rw [flatR_len, List.length_take, Nat.min_eq_left hk]
  rw [← h, flatR_append, ← e, List.drop_left']
  rfl
theorem flatR_get (xs : List Report) (k : Nat) (hk : k < xs.length) (j : Nat) (hj : j < 5) : (flatR xs)[k * 5 + j]? = (encR xs[k])[j]? := by
  have h : flatR xs = flatR (xs.take k) ++ (encR xs[k] ++ flatR (xs.drop (k + 1))) := by
    have e : xs = xs.take k ++ (xs[k] :: xs.drop (k + 1)) := by rw [← List.drop_eq_getElem_cons hk, List.take_append_drop]
    have := congrArg flatR e
    rw [this, flatR_append]
    rfl
  have e : (flatR (xs.take k)).length = k * 5 := by rw [flatR_len, List.length_take, Nat.min_eq_left (by omega)]
  rw [h, List.getElem?_append_right (by omega), e, show k * 5 + j - k * 5 = j by omega, List.getElem?_append_left (by simp [encR]; omega)]
def RNum (x : Report) : Prop := I64 x.num ∧ I64 x.m ∧ I64 x.d ∧ I64 x.l ∧ U8 x.k
/-- Cells that read as reports are these. -/
theorem flatR_of {w : World} {b off : Nat} {cs : List Value} (hcs : ∀ j u, cs[j]? = some u → Cell w b (off + j) u) : ∀ (xs : List Report), cs.length = xs.length * 5 → (∀ k (hk : k < xs.length), AtReport w b (off + k * 5) xs[k]) → cs = flatR xs := by
  intro xs hl h
  apply List.ext_getElem?
  intro i
  by_cases hi : i < cs.length
  · have hk : i / 5 < xs.length := by omega
    have hj : i % 5 < 5 := Nat.mod_lt _ (by omega)
    have e : i = i / 5 * 5 + i % 5 := by omega
    have c := hcs i _ (List.getElem?_eq_getElem hi)
    have e1 := flatR_get xs _ hk _ hj
    rw [← e] at e1
    rw [e1, List.getElem?_eq_getElem hi]
    obtain ⟨⟨h0, h1, h2, h3, h4⟩, _⟩ := h (i / 5) hk
    unfold Cell at *
    have e2 : off + i = off + i / 5 * 5 + i % 5 := by omega
    rw [e2] at c
    generalize i % 5 = j at *
    generalize xs[i / 5] = x at *
    generalize cs[i] = u at *
    unfold encR
    match j, hj with
    | 0, _ => simp at c ⊢; rw [h0] at c; simpa using c.symm
    | 1, _ => simp at c ⊢; rw [h1] at c; simpa using c.symm
    | 2, _ => simp at c ⊢; rw [h2] at c; simpa using c.symm
    | 3, _ => simp at c ⊢; rw [h3] at c; simpa using c.symm
    | 4, _ => simp at c ⊢; rw [h4] at c; simpa using c.symm
  · rw [List.getElem?_eq_none (by omega), List.getElem?_eq_none (by rw [flatR_len]; omega)]
theorem own_flat {w : World} {base : Nat} {e : TypeId} {v : Value} {xs : List Report} {cs : List Value} (hs : Sl AtReport 5 w v xs) (hown : w.ownsRow base e 5 v xs.length cs) : cs = flatR xs := by
  by_cases hx : xs = []
  · subst hx
    have := hown.1
    simp at this
    rw [this]
    rfl
  · obtain ⟨a, cap, rfl, _⟩ := sl_shape hs
    obtain ⟨_, hX⟩ := sl_at hs
    have hown' := hown
    rcases hown.2 with ⟨h0, h1⟩ | ⟨g, cap', cur, hv, _⟩
    · exact absurd (List.eq_nil_of_length_eq_zero h1) hx
    · cases hv
      refine flatR_of (w := w) (b := g) (off := 0) (fun j u hj => ?_) xs hown.1 (fun k hk => ?_)
      · have := hown'.cells (g := g) rfl j u hj
        rw [add_at] at this
        rw [Nat.zero_add]
        exact this
      · obtain ⟨b', off', hh, he⟩ := hX k hk
        cases hh
        exact he
theorem flat_sl {w : World} {base : Nat} {e : TypeId} {v : Value} {xs : List Report} (hown : w.ownsRow base e 5 v xs.length (flatR xs)) (hn : ∀ x ∈ xs, RNum x) : New AtReport 5 e base w v xs := by
  refine ⟨?_, _, hown⟩
  have hown' := hown
  rcases hown.2 with ⟨rfl, hn0⟩ | ⟨g, cap, cur, rfl, _, _, hc, hcm, _⟩
  · exact ⟨none, 0, by rw [hn0], by omega, fun k hk => by omega⟩
  · refine ⟨some ⟨g, 0, none⟩, cap, rfl, by unfold maxLen at hcm; omega, fun k hk => ⟨g, 0, rfl, ?_⟩⟩
    have key : ∀ j u, j < 5 → (encR xs[k])[j]? = some u → Cell w g (0 + k * 5 + j) u := fun j u hj hu => by
      have := hown'.cells (g := g) rfl (k * 5 + j) u (by rw [flatR_get xs k hk j hj]; exact hu)
      rw [add_at] at this
      rw [Nat.zero_add]
      exact this
    exact ⟨⟨key 0 _ (by omega) rfl, key 1 _ (by omega) rfl, key 2 _ (by omega) rfl, key 3 _ (by omega) rfl, key 4 _ (by omega) rfl⟩, hn _ (List.getElem_mem hk)⟩
theorem rep_num {w : World} {v : Value} {xs : List Report} (h : Sl AtReport 5 w v xs) : ∀ x ∈ xs, RNum x := by
  intro x hx
  obtain ⟨k, hk, rfl⟩ := List.getElem_of_mem hx
  obtain ⟨_, _, hX⟩ := sl_shape h
  obtain ⟨a, cap, hv, _, hc⟩ := h
  obtain ⟨b, off, _, he⟩ := hc k hk
  exact he.2

/-- A report more, ahead of the first one whose number is not less. -/
def insR (rs : List Report) (r : Report) : List Report := rs.takeWhile (fun x => decide (x.num < r.num)) ++ r :: rs.dropWhile (fun x => decide (x.num < r.num))
theorem insR_at (rs : List Report) (r : Report) (k : Nat) (hk : k ≤ rs.length) (h1 : ∀ j, j < k → (hj : j < rs.length) → rs[j].num < r.num) (h2 : (hk : k < rs.length) → ¬ rs[k].num < r.num) : insR rs r = rs.take k ++ r :: rs.drop k := by
  have h : rs.takeWhile (fun x => decide (x.num < r.num)) = rs.take k ∧ rs.dropWhile (fun x => decide (x.num < r.num)) = rs.drop k := by
    induction rs generalizing k with
    | nil => simp
    | cons x rs ih =>
      cases k with
      | zero =>
        have := h2 (by simp)
        simp at this
        simp [List.takeWhile_cons, List.dropWhile_cons, this]
      | succ k =>
        have hx := h1 0 (by omega) (by simp)
        simp at hx
        obtain ⟨e1, e2⟩ := ih k (by simpa using hk) (fun j hj hjl => by have := h1 (j + 1) (by omega) (by simp; omega); rwa [List.getElem_cons_succ] at this) (fun hk' => by have := h2 (by simp; omega); rwa [List.getElem_cons_succ] at this)
        simp [List.takeWhile_cons, List.dropWhile_cons, hx, e1, e2]
  unfold insR
  rw [h.1, h.2]
def addB (b : Built) (r : Report) : Built := { b with rs := insR b.rs r }

end Go.Proofs.YtoibnhkiedpkgaaGreatDoor

namespace Go
open Go.RowKit

section
variable {P : Program} {Q : Exit → Act → World → Prop} {ops : List Oper} {m : Nat}

/-- The operation that writes. -/
def Oper.wildUpon (Cw : World → Prop) (w : World) (T : World → World → Prop) (R : Value → World → Prop) : Result Next → Prop
  | .ok (.value v) w' => Cw w' ∧ T w w' ∧ R v w'
  | .ok .skip w' => Cw w' ∧ T w w' ∧ R undef w'
  | _ => False
def Oper.wild (P : Program) (o : Oper) (a : Act) (Cw : World → Prop) (w : World) (T : World → World → Prop) (R : Value → World → Prop) : Prop := Oper.wildUpon Cw w T R ((execOp a.eval o).run P w)
theorem Oper.wp_of_wild {o : Oper} {a : Act} {Cw : World → Prop} {w : World} {T : World → World → Prop} {R : Value → World → Prop} {K : Act → World → Prop} {Q' : Exit → Act → World → Prop} (hh : o.wild P a Cw w T R)
    (h : ∀ v w', Cw w' → T w w' → R v w' → K (a.put o.dst v) w') : o.wp P a w K Q' := by
  unfold Oper.wild at hh
  unfold Oper.wp
  generalize (execOp a.eval o).run P w = r at *
  cases r with
  | ok n w' =>
    cases n <;> simp only [Oper.wildUpon] at hh <;> simp only [Oper.upon]
    case value u => exact h _ _ hh.1 hh.2.1 hh.2.2
    case skip => exact h _ _ hh.1 hh.2.1 hh.2.2
  | halt x w' => simp only [Oper.wildUpon] at hh

def StaysT (T : World → World → Prop) (R : Value → World → Prop) : Prop := ∀ v w w', T w w' → R v w → R v w'
/-- Whether number i comes behind p. -/
def behindB (ops : List Oper) (p i : Nat) : Bool := (reachOf ops 12 ((ops[i]?).elim [] Oper.waitsOn)).contains p
def wildB (ops : List Oper) (m p : Nat) (C : List Nat) : Bool :=
  growB ops m && decide (p < m) && ((ops[p]?).elim false fun o => o.guard.isNone) && !C.contains p &&
  (List.range m).all (fun k => k == p || ((ops[k]?).elim [] Oper.waitsOn).all (fun j => !C.contains j))

theorem growW_any (p : Nat) (C : List Nat) (T : World → World → Prop) (hW : wildB ops m p C = true) {a0 : Act} {Cw : World → Prop} (hCw : ∀ w w', Below w.heap.size w w' → Cw w → Cw w') (H : Nat → Value → World → Prop) (hs : ∀ i, StaysV (H i))
    (hT : ∀ i, i < m → i ≠ p → C.contains i = true ∨ behindB ops p i = true ∨ StaysT T (H i))
    {I0 : World → Prop} (step : ∀ i o, i < m → i ≠ p → ops[i]? = some o → ∀ vs w, Cw w → (behindB ops i p = true → I0 w) → (∀ j ∈ o.waitsOn, H j (vs j) w) → stepOk P ops.toArray o (putsFrom vs (ops.take m) 0 a0) w (H i))
     (hI : ∀ w w', Below w.heap.size w w' → I0 w → I0 w')
    (wild : ∀ o, ops[p]? = some o → ∀ vs w, Cw w → I0 w → (∀ j ∈ o.waitsOn, H j (vs j) w) → o.wild P (putsFrom vs (ops.take m) 0 a0) Cw w T (H p))
    (done : ∀ vs w, Cw w → (∀ i, i < m → C.contains i = false → H i (vs i) w) → wpList P ops.toArray Q (ops.drop m) (putsFrom vs (ops.take m) 0 a0) w) :
    ∀ (fuel : Nat) (L : Array Bool) (a : Act) (w : World), L.size = ops.length → downClosed ops L → (∀ j, m ≤ j → L.getD j false = false) → unTo L ops.length ≤ fuel →
      (∃ vs, a = putsFrom vs (ops.take m) 0 a0 ∧ Cw w ∧ (L.getD p false = false → I0 w) ∧ ∀ i, i < m → L.getD i false = true → (C.contains i = true → L.getD p false = false) → H i (vs i) w) → wpAny P .any ops.toArray Q fuel L a w := by
  simp only [wildB, Bool.and_eq_true, decide_eq_true_eq] at hW
  obtain ⟨⟨⟨⟨hB, hp⟩, hpg⟩, hpC⟩, hC⟩ := hW
  have hml := growB_le hB
  have hCC : ∀ k o, k < m → k ≠ p → ops[k]? = some o → ∀ j ∈ o.waitsOn, C.contains j = false := fun k o hk hkp ho j hj => by
    have := List.all_eq_true.1 hC k (List.mem_range.2 hk)
    simp only [ho, Option.elim, Bool.or_eq_true, beq_iff_eq, hkp, false_or] at this
    simpa using List.all_eq_true.1 this j hj
  have hpl : p < ops.length := by omega
  intro fuel
  induction fuel with
  | zero =>
    intro L a w hL hd ht hu ⟨vs, ha, hb, hi0, hf⟩
    have hall := unTo_zero L ops.length (by omega)
    refine tail_any hB 0 L m a w hL (Nat.le_refl _) (fun i hi => ?_) hu ?_
    · rw [hall i hi]
      by_cases e : i < m
      · simp [e]
      · have h1 := getD_ft (by omega) (hall i hi)
        rw [ht i (by omega)] at h1
        cases h1
    · rw [ha]
      exact done vs w hb fun i hi hc => hf i hi (getD_ft (by omega) (hall i (by omega))) (fun h => by rw [hc] at h; cases h)
  | succ fuel ih =>
    intro L a w hL hd ht hu ⟨vs, ha, hb, hi0, hf⟩
    by_cases hall : ∀ i, i < m → L.getD i true = true
    · refine tail_any hB (fuel + 1) L m a w hL (Nat.le_refl _) (fun i hi => ?_) hu ?_
      · by_cases e : i < m
        · rw [hall i e]; simp [e]
        · have h1 := ht i (by omega)
          have h2 : L.getD i true = false := by
            by_cases h3 : L.getD i true = true
            · rw [getD_ft (by omega) h3] at h1; cases h1
            · simpa using h3
          rw [h2]
          simp
          omega
      · rw [ha]
        exact done vs w hb fun i hi hc => hf i hi (getD_ft (by omega) (hall i hi)) (fun h => by rw [hc] at h; cases h)
    · refine ⟨fun h0 => (hall fun i hi => some_ready hB hL h0 i (by omega)).elim, fun k hk => ?_⟩
      obtain ⟨h0, o, hok, hw⟩ := ready_waits.1 hk
      have hkl := (List.getElem?_eq_some_iff.1 hok).1
      have hkm : k < m := by
        by_cases e : k < m
        · exact e
        · exfalso
          refine hall fun i hi => getD_tf ?_
          exact reach_listed hd 12 _ (by rw [hok]; exact hw) i (growB_tail hB hkl (by omega) i (by omega))
      have hkf : L.getD k false = false := by
        by_cases e : L.getD k false = true
        · rw [getD_tf e] at h0; cases h0
        · simpa using e
      have hput : ∀ v, a.put o.dst v = putsFrom (fun j => if j = k then v else vs j) (ops.take m) 0 a0 := fun v => by
        rw [ha]
        have := puts_set vs v (ops.take m) 0 k a0 o (growB_apart hB) (by rw [List.getElem?_take_of_lt hkm]; exact hok)
        rw [this]
        exact puts_congr _ _ _ _ _ fun j _ => by rw [Nat.zero_add]
      have hcnt : unTo (L.setIfInBounds k true) ops.length ≤ fuel := by
        have := unTo_lt L k h0 ops.length hkl
        omega
      have htl : ∀ j, m ≤ j → (L.setIfInBounds k true).getD j false = false := fun j hj => by
        rw [getD_set_ne false (by omega)]; exact ht j hj
      by_cases hkp : k = p
      · subst hkp
        have hdeps : ∀ j ∈ o.waitsOn, H j (vs j) w := fun j hj => hf j (by have := growB_lt hB hok j hj; omega) (hw j hj) (fun _ => hkf)
        have hwd := wild o hok vs w hb (hi0 hkf) hdeps
        unfold wpOp
        simp only [List.getElem?_toArray, hok]
        simp only [hok, Option.elim] at hpg
        have hg : o.guard = none := by simpa using hpg
        rw [if_pos (by unfold Region.wanted; rw [hg])]
        refine .inl ?_
        rw [← ha] at hwd
        refine Oper.wp_of_wild hwd fun v w' hb' hTw hv => ?_
        have hset : (L.setIfInBounds k true).getD k false = true := by simp [hL, hpl]
        refine ih _ _ w' (by simpa using hL) (downClosed_set hd hok hw) htl hcnt ⟨_, hput v, hb', fun h => (by rw [hset] at h; cases h), fun i hi hli hci => ?_⟩
        by_cases e : i = k
        · subst e; simp only [if_pos]; exact hv
        · simp only [if_neg e]
          rw [getD_set_ne false (Ne.symm e)] at hli
          rcases hT i hi e with h1 | h1 | h1
          · rw [hci h1] at hset; cases hset
          · exfalso
            have ho' : ops[i]? = some ops[i] := List.getElem?_eq_getElem (by omega)
            have : L.getD k false = true := by
              refine reach_listed hd 12 _ (fun j hj => ?_) k (by simpa [behindB] using h1)
              rw [ho'] at hj
              exact hd i _ hli ho' j hj
            rw [hkf] at this
            cases this
          · exact h1 _ _ _ hTw (hf i hi hli (fun _ => hkf))
      · have hdeps : ∀ j ∈ o.waitsOn, H j (vs j) w := fun j hj => hf j (by have := growB_lt hB hok j hj; omega) (hw j hj) (fun h => by rw [hCC k o hkm hkp hok j hj] at h; cases h)
        have hbe : behindB ops k p = true → I0 w := fun h1 => hi0 (by
          by_cases e : L.getD p false = true
          · exfalso
            have ho' : ops[p]? = some ops[p] := List.getElem?_eq_getElem (by omega)
            have : L.getD k false = true := by
              refine reach_listed hd 12 _ (fun j hj => ?_) k (by simpa [behindB] using h1)
              rw [ho'] at hj
              exact hd p _ e ho' j hj
            rw [hkf] at this
            cases this
          · simpa using e)
        have hst := step k o hkm hkp hok vs w hb hbe hdeps
        have hnext : ∀ v w', Below w.heap.size w w' → H k v w' → wpAny P .any ops.toArray Q fuel (L.setIfInBounds k true) (a.put o.dst v) w' := fun v w' hbw hv => by
          refine ih _ _ w' (by simpa using hL) (downClosed_set hd hok hw) htl hcnt ⟨_, hput v, hCw _ _ hbw hb, fun h => hI _ _ hbw (hi0 (by rwa [getD_set_ne false hkp] at h)), fun i hi hli hci => ?_⟩
          by_cases e : i = k
          · subst e; simp only [if_pos]; exact hv
          · simp only [if_neg e]
            rw [getD_set_ne false (Ne.symm e)] at hli
            refine hs i _ _ _ hbw (hf i hi hli (fun h => ?_))
            have := hci h
            rwa [getD_set_ne false hkp] at this
        unfold wpOp
        simp only [List.getElem?_toArray, hok]
        unfold stepOk at hst
        rw [← ha] at hst
        split
        · rename_i hwn
          rw [if_pos hwn] at hst
          exact .inl (Oper.wp_of_grows hst hnext)
        · rename_i hwn
          rw [if_neg hwn] at hst
          exact hnext _ _ (Below.refl _ _) hst

/-- All operations of a list, from number k on. -/
def growAllW (P : Program) (ops : List Oper) (pre : List Oper) (a0 : Act) (Cw : World → Prop) (I0 : World → Prop) (p : Nat) (C : List Nat) (T : World → World → Prop) (Q : List (Value → World → Prop) → Prop) : List Oper → List (Value → World → Prop) → Prop
  | [], Hs => Q Hs
  | o :: l, Hs => ∃ R : Value → World → Prop, StaysV R ∧
      (if Hs.length = p then ∀ vs w, Cw w → I0 w → depsHold Hs vs w o.waitsOn → o.wild P (putsFrom vs pre 0 a0) Cw w T R
       else (C.contains Hs.length = true ∨ behindB ops p Hs.length = true ∨ StaysT T R) ∧ ∀ vs w, Cw w → (behindB ops Hs.length p = true → I0 w) → depsHold Hs vs w o.waitsOn → stepOk P ops.toArray o (putsFrom vs pre 0 a0) w R) ∧
      growAllW P ops pre a0 Cw I0 p C T Q l (Hs ++ [R])

theorem growAllW_out {a0 : Act} {Cw I0 : World → Prop} {p : Nat} {C : List Nat} {T : World → World → Prop} {Q' : List (Value → World → Prop) → Prop} (hlt : ∀ (i : Nat) (o : Oper), ops[i]? = some o → ∀ j ∈ o.waitsOn, j < i) : ∀ (l : List Oper) (Hs : List (Value → World → Prop)), (∀ R ∈ Hs, StaysV R) → (∀ i, l[i]? = (ops.take m)[Hs.length + i]?) → Hs.length + l.length = m →
    growAllW P ops (ops.take m) a0 Cw I0 p C T Q' l Hs → ∃ Hs', Q' (Hs ++ Hs') ∧ (∀ R ∈ Hs ++ Hs', StaysV R) ∧ Hs'.length = l.length ∧
      ∀ (i : Nat) (o : Oper), Hs.length ≤ i → i < m → ops[i]? = some o →
        (i = p → ∀ (vs : Nat → Value) (w : World), Cw w → I0 w → (∀ j ∈ o.waitsOn, factAt (Hs ++ Hs') j (vs j) w) → o.wild P (putsFrom vs (ops.take m) 0 a0) Cw w T (factAt (Hs ++ Hs') i)) ∧
        (i ≠ p → (C.contains i = true ∨ behindB ops p i = true ∨ StaysT T (factAt (Hs ++ Hs') i)) ∧
          ∀ (vs : Nat → Value) (w : World), Cw w → (behindB ops i p = true → I0 w) → (∀ j ∈ o.waitsOn, factAt (Hs ++ Hs') j (vs j) w) → stepOk P ops.toArray o (putsFrom vs (ops.take m) 0 a0) w (factAt (Hs ++ Hs') i)) := by
  intro l
  induction l with
  | nil =>
    intro Hs hst _ hlen h
    exact ⟨[], by simpa [growAllW] using h, by simpa using hst, rfl, fun i o h1 h2 => by simp at hlen; omega⟩
  | cons o l ih =>
    intro Hs hst hl hlen h
    obtain ⟨R, hR, hstep, h⟩ := h
    obtain ⟨Hs', hQ, hst', hlen', hstep'⟩ := ih (Hs ++ [R]) (fun R' hR' => by
      rcases List.mem_append.1 hR' with h1 | h1
      · exact hst _ h1
      · simp at h1; subst h1; exact hR) (fun i => by
      have := hl (i + 1)
      simp only [List.getElem?_cons_succ] at this
      rw [this, List.length_append]
      congr 1
      simp; omega) (by simp at hlen ⊢; omega) h
    have e : Hs ++ R :: Hs' = Hs ++ [R] ++ Hs' := by simp
    refine ⟨R :: Hs', by simpa using hQ, by simpa using hst', by simp [hlen'], fun i o' h1 h2 ho' => ?_⟩
    by_cases hi : i = Hs.length
    · subst hi
      have h0 := hl 0
      simp only [List.getElem?_cons_zero, Nat.add_zero] at h0
      rw [List.getElem?_take_of_lt h2, ho'] at h0
      cases h0
      have hf : factAt (Hs ++ R :: Hs') Hs.length = R := by
        unfold factAt
        simp
      rw [hf]
      have hdep : ∀ (vs : Nat → Value) (w : World), (∀ j ∈ o.waitsOn, factAt (Hs ++ R :: Hs') j (vs j) w) → depsHold Hs vs w o.waitsOn := fun vs w hd => depsHold_of fun j hj => by
        have hjl := hlt _ _ ho' j hj
        have := hd j hj
        unfold factAt at this ⊢
        rwa [List.getElem?_append_left hjl] at this
      constructor
      · intro hp vs w hb hi hd
        rw [if_pos hp] at hstep
        exact hstep vs w hb hi (hdep vs _ hd)
      · intro hp
        rw [if_neg hp] at hstep
        refine ⟨hstep.1, fun vs w hb hbe hd => ?_⟩
        exact hstep.2 vs w hb hbe (hdep vs _ hd)
    · rw [e]
      exact hstep' i o' (by simp; omega) h2 ho'

theorem wp_region_growW {id : Nat} {a0 : Act} {w0 : World} (m p : Nat) (C : List Nat) (T : World → World → Prop) (Cw : World → Prop) (hCw : ∀ w w', Below w.heap.size w w' → Cw w → Cw w') (h0 : Cw { w0 with drawn := w0.drawn + 1 }) (I0 : World → Prop) (hI : ∀ w w', Below w.heap.size w w' → I0 w → I0 w') (hI0 : I0 { w0 with drawn := w0.drawn + 1 }) (hm : P.follows .mixedOrders = true) (hW : wildB ops m p C = true)
    (h : growAllW P ops (ops.take m) a0 Cw I0 p C T (fun Hs => ∀ vs w, Cw w → (∀ i, i < m → C.contains i = false → factAt Hs i (vs i) w) → wpList P ops.toArray Q (ops.drop m) (putsFrom vs (ops.take m) 0 a0) w) (ops.take m) []) :
    (Code.region id ops.toArray true).wp P Q a0 w0 := by
  have hB : growB ops m = true := by
    simp only [wildB, Bool.and_eq_true] at hW
    exact hW.1.1.1.1
  have hml := growB_le hB
  obtain ⟨Hs, hQ, hst, _, hstep⟩ := growAllW_out (fun i o ho => growB_lt hB ho) (ops.take m) [] (fun R hR => by simp at hR) (fun i => by simp) (by simp; omega) h
  simp only [List.nil_append] at hQ hst hstep
  refine wp_region_any hm ?_
  obtain ⟨vs, hvs⟩ := puts_self (ops.take m) 0 a0
  refine growW_any p C T hW hCw (factAt Hs) (fun i => ?_) (fun i hi hip => ?_) (fun i o hi hip ho => ((hstep i o (Nat.zero_le _) hi ho).2 hip).2) hI (fun o ho => ?_) hQ _ _ _ _ (by simp) ?_ (fun j _ => getD_rep _ _) ?_ ⟨vs, hvs.symm, h0, fun _ => hI0, fun i hi hli => ?_⟩
  · unfold factAt
    cases hh : Hs[i]? with
    | none => exact fun _ _ _ _ h => h
    | some R => exact hst R (List.mem_of_getElem? hh)
  · exact ((hstep i ops[i] (Nat.zero_le _) hi (List.getElem?_eq_getElem (by omega))).2 hip).1
  · have hp : p < m := by
      simp only [wildB, Bool.and_eq_true, decide_eq_true_eq] at hW
      exact hW.1.1.1.2
    exact (hstep p o (Nat.zero_le _) hp ho).1 rfl
  · intro i o hi
    rw [getD_rep] at hi
    cases hi
  · simpa using unTo_start ops.length ops.length
  · rw [getD_rep] at hli
    cases hli

theorem growW_step {pre : List Oper} {a0 : Act} {Cw I0 : World → Prop} {p : Nat} {C : List Nat} {T : World → World → Prop} {Q' : List (Value → World → Prop) → Prop} {o : Oper} {l : List Oper} {Hs : List (Value → World → Prop)} (R : Value → World → Prop) (hR : StaysV R)
    (hp : (Hs.length == p) = false) (hT : C.contains Hs.length = true ∨ behindB ops p Hs.length = true ∨ StaysT T R)
    (h : ∀ vs w, Cw w → depsHold Hs vs w o.waitsOn → stepOk P ops.toArray o (putsFrom vs pre 0 a0) w R) (k : growAllW P ops pre a0 Cw I0 p C T Q' l (Hs ++ [R])) : growAllW P ops pre a0 Cw I0 p C T Q' (o :: l) Hs :=
  ⟨R, hR, by rw [if_neg (by simpa using hp)]; exact ⟨hT, fun vs w hc _ hd => h vs w hc hd⟩, k⟩
theorem growW_exact {pre : List Oper} {a0 : Act} {Cw I0 : World → Prop} {p : Nat} {C : List Nat} {T : World → World → Prop} {Q' : List (Value → World → Prop) → Prop} {o : Oper} {l : List Oper} {Hs : List (Value → World → Prop)} (hp : (Hs.length == p) = false)
    (h : ∃ u, (∀ vs w, Cw w → depsHold Hs vs w o.waitsOn → stepOk P ops.toArray o (putsFrom vs pre 0 a0) w (fun v _ => v = u)) ∧ growAllW P ops pre a0 Cw I0 p C T Q' l (Hs ++ [fun v _ => v = u])) : growAllW P ops pre a0 Cw I0 p C T Q' (o :: l) Hs := by
  obtain ⟨u, h, k⟩ := h
  exact growW_step _ (fun _ _ _ _ h => h) hp (.inr (.inr fun _ _ _ _ h => h)) h k
theorem growW_exactI {pre : List Oper} {a0 : Act} {Cw I0 : World → Prop} {p : Nat} {C : List Nat} {T : World → World → Prop} {Q' : List (Value → World → Prop) → Prop} {o : Oper} {l : List Oper} {Hs : List (Value → World → Prop)} (hp : (Hs.length == p) = false) (hbe : behindB ops Hs.length p = true)
    (h : ∃ u, (∀ vs w, Cw w → I0 w → depsHold Hs vs w o.waitsOn → stepOk P ops.toArray o (putsFrom vs pre 0 a0) w (fun v _ => v = u)) ∧ growAllW P ops pre a0 Cw I0 p C T Q' l (Hs ++ [fun v _ => v = u])) : growAllW P ops pre a0 Cw I0 p C T Q' (o :: l) Hs := by
  obtain ⟨u, h, k⟩ := h
  exact ⟨_, fun _ _ _ _ h => h, by rw [if_neg (by simpa using hp)]; exact ⟨.inr (.inr fun _ _ _ _ h => h), fun vs w hc hi hd => h vs w hc (hi hbe) hd⟩, k⟩
theorem growW_wild {pre : List Oper} {a0 : Act} {Cw I0 : World → Prop} {p : Nat} {C : List Nat} {T : World → World → Prop} {Q' : List (Value → World → Prop) → Prop} {o : Oper} {l : List Oper} {Hs : List (Value → World → Prop)} (R : Value → World → Prop) (hR : StaysV R)
    (hp : (Hs.length == p) = true) (h : ∀ vs w, Cw w → I0 w → depsHold Hs vs w o.waitsOn → o.wild P (putsFrom vs pre 0 a0) Cw w T R) (k : growAllW P ops pre a0 Cw I0 p C T Q' l (Hs ++ [R])) : growAllW P ops pre a0 Cw I0 p C T Q' (o :: l) Hs :=
  ⟨R, hR, by rw [if_pos (by simpa using hp)]; exact h, k⟩
theorem growW_done {pre : List Oper} {a0 : Act} {Cw I0 : World → Prop} {p : Nat} {C : List Nat} {T : World → World → Prop} {m' : Nat} {K : (Nat → Value) → World → Prop} {Hs : List (Value → World → Prop)} (hm : m' = Hs.length) (h : ∀ vs w, Cw w → depsHold Hs vs w ((List.range m').filter fun i => !C.contains i) → K vs w) :
    growAllW P ops pre a0 Cw I0 p C T (fun Hs => ∀ vs w, Cw w → (∀ i, i < m' → C.contains i = false → factAt Hs i (vs i) w) → K vs w) [] Hs := by
  intro vs w hb hd
  refine h vs w hb (depsHold_of fun j hj => ?_)
  rw [List.mem_filter, List.mem_range] at hj
  exact hd j hj.1 (by simpa using hj.2)
end
end Go
