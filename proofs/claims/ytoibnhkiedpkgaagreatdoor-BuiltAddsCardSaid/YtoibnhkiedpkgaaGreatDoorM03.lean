/- The reference's notes and machines in new memory. -/
import Derived.Test.YtoibnhkiedpkgaaGreatDoorM02
set_option linter.unusedVariables false
set_option linter.unusedSimpArgs false
set_option linter.all false

namespace Go.Proofs.YtoibnhkiedpkgaaGreatDoor
open Go.RowKit
attribute [local go_sem] stepOk Oper.grows Oper.growUpon

def NilSl (v : Value) : Prop := ∃ g, v = .slice (some ⟨g, 0, none⟩) 0 0
theorem nilSl_stays : StaysV fun v _ => NilSl v := fun _ _ _ _ h => h
def RetReg (base : Nat) (R : List Issue) (v : Value) (w' : World) : Prop :=
  ∃ a n cap, v = .agg #[.slice a n cap] ∧ Sl (Fr base 46 (AtIssueN base)) 5 w' (.slice a n cap) R ∧ Capd (.slice a n cap) R.length
theorem retReg_stays (base : Nat) (R : List Issue) : StaysV (RetReg base R) := fun _ _ _ hb ⟨a, n, cap, h1, h2, h3⟩ => ⟨a, n, cap, h1, sl_ext (stays_fr stays_issueN) hb h2, h3⟩
theorem issueN_weak {base base' : Nat} (hw : base' ≤ base) {w : World} {v : Value} {R : List Issue} (h : Sl (Fr base 46 (AtIssueN base)) 5 w v R) : Sl (Fr base' 46 (AtIssueN base')) 5 w v R := by
  refine sl_to (fun b o x hx => ?_) h
  obtain ⟨⟨h1, h2, vi, vd, h3, h4, h5, h6⟩, h7, h8⟩ := hx
  exact ⟨⟨h1, h2, vi, vd, h3, h4, sl_weak hw h5, sl_weak hw h6⟩, Nat.le_trans hw h7, h8⟩

set_option maxRecDepth 100000 in
set_option maxHeartbeats 1600000 in
theorem twin03 (w : World) (vr vn : Value) (R : List Issue) (N : List Note) (hr : Sl AtIssue 5 w vr R) (hn : Sl AtNote 10 w vn N) (hS : Small R) (hN : N.length ≤ 16) :
    Calls Tryz.prog 10 #[.agg #[vr, vn]] w fun e w' => ∃ ur un, e = .returned (.agg #[ur, un]) ∧
      Sl (Fr w.heap.size 46 (AtIssueN w.heap.size)) 5 w' ur R ∧ Sl (Fr w.heap.size 52 AtNote) 10 w' un N ∧ Below w.heap.size w w' ∧ Capd ur R.length ∧ Capd un N.length := by
  obtain ⟨i0, hi0, hz0, hz1, hz2⟩ := info_parts infoNote
  have HS := Lib.hid hS
  clear hS
  obtain ⟨ar, capr, rfl, _⟩ := sl_shape hr
  obtain ⟨an, capn, rfl, _⟩ := sl_shape hn
  obtain ⟨hb1, B1, B2⟩ := boxed2 w #[.slice ar R.length capr, .slice an N.length capn] #[.slice none 0 0, .slice none 0 0] 27 27
  have c0 := B1 0 (.slice ar R.length capr) rfl
  have c1 := B1 1 (.slice an N.length capn) rfl
  have r0 := B2 0 (.slice none 0 0) rfl
  have r1 := B2 1 (.slice none 0 0) rfl
  have f2 := free_new (w.alloc (.cells #[.slice ar R.length capr, .slice an N.length capn] 27)) #[.slice none 0 0, .slice none 0 0] 27
  rw [World.size_alloc] at f2
  clear B1 B2
  have F2 := Lib.hid f2
  clear f2
  go_enter Tryz.func10, Tryz.ntmps10
  go_wp2_with fail
  generalize (w.alloc _).alloc _ = w1 at *
  have hr1 := sl_ext stays_issue hb1 hr
  have hn1 := sl_ext stays_note hb1 hn
  have K0 := cell_later c0
  have K1 := cell_later c1
  refine wp_region_grow_all 6 (by kernel_rfl) (by kernel_rfl) ?_
  simp only [List.take_succ_cons, List.take_zero]
  refine growAll_exact ?_
  apply Exists.intro
  refine ⟨fun vs xq hd => ?_, ?_⟩
  · (try simp [Oper.waitsOn, Region.binds, List.filter_cons, List.filter_nil, factAt, depsHold] at hd)
    simp only [putsFrom, Act.put, List.setIfInBounds_toArray, List.set_cons_succ, List.set_cons_zero]
    go_simp
    exact ⟨Below.refl _ _, rfl⟩
  refine growAll_exact ?_
  apply Exists.intro
  refine ⟨fun vs xq hd => ?_, ?_⟩
  · (try simp [Oper.waitsOn, Region.binds, List.filter_cons, List.filter_nil, factAt, depsHold] at hd)
    simp only [putsFrom, Act.put, List.setIfInBounds_toArray, List.set_cons_succ, List.set_cons_zero]
    go_simp
    exact ⟨Below.refl _ _, rfl⟩
  refine growAll_step (RetReg w1.heap.size R) (retReg_stays _ R) ?_ ?_
  · intro vs xq hd
    (try simp [Oper.waitsOn, Region.binds, List.filter_cons, List.filter_nil, factAt, depsHold] at hd)
    simp only [putsFrom, Act.put, List.setIfInBounds_toArray, List.set_cons_succ, List.set_cons_zero]
    go_simp
    have hbx := below_later w1 xq
    refine (twin02 _ _ R (sl_ext stays_issue hbx hr1) HS.out).mono ?_
    rintro e w2 ⟨u, rfl, h1, h2, h3⟩
    obtain ⟨a', cap', rfl, _⟩ := sl_shape h1
    exact ⟨_, rfl, h2, a', _, cap', rfl, issueN_weak hbx.size h1, h3⟩
  refine growAll_step (fun v _ => NilSl v) nilSl_stays ?_ ?_
  · intro vs xq hd
    (try simp [Oper.waitsOn, Region.binds, List.filter_cons, List.filter_nil, factAt, depsHold] at hd)
    simp only [putsFrom, Act.put, List.setIfInBounds_toArray, List.set_cons_succ, List.set_cons_zero]
    go_simp
    exact ⟨below_alloc _ _, _, rfl⟩
  refine growAll_exact ?_
  apply Exists.intro
  refine ⟨fun vs xq hd => ?_, ?_⟩
  · (try simp [Oper.waitsOn, Region.binds, List.filter_cons, List.filter_nil, factAt, depsHold] at hd)
    simp only [putsFrom, Act.put, List.setIfInBounds_toArray, List.set_cons_succ, List.set_cons_zero]
    go_simp
    exact ⟨Below.refl _ _, rfl⟩
  refine growAll_exact ?_
  apply Exists.intro
  refine ⟨fun vs xq hd => ?_, ?_⟩
  · (try simp [Oper.waitsOn, Region.binds, List.filter_cons, List.filter_nil, factAt, depsHold] at hd)
    simp only [putsFrom, Act.put, List.setIfInBounds_toArray, List.set_cons_succ, List.set_cons_zero]
    go_simp
    exact ⟨Below.refl _ _, rfl⟩
  refine growAll_done rfl (fun vs xq hd => ?_)
  simp [depsHold, factAt, List.range, List.range.loop] at hd
  simp only [putsFrom, Act.put, List.setIfInBounds_toArray, List.set_cons_succ, List.set_cons_zero, List.drop_succ_cons, List.drop_zero]
  obtain ⟨_, _, ⟨a2, n2, cap2, e2, s2, hcd⟩, s3, _, e5⟩ := hd
  generalize vs 0 = u0 at *
  generalize vs 1 = u1 at *
  generalize vs 2 = u2 at *
  generalize vs 3 = u3 at *
  generalize vs 4 = u4 at *
  generalize vs 5 = u5 at *
  subst e2 e5
  have hbl := below_later w1 xq
  replace r0 := cell_ext hbl r0
  replace r1 := cell_ext hbl r1
  have f2 := free_ext hbl F2.out
  replace hn1 := sl_ext stays_note hbl hn1
  have hbb := below_trans hb1 hbl
  have hzz := hbl.size
  have hz9 : w.heap.size + 1 < w1.heap.size := F2.out.1
  clear K0 K1 c0 c1 hr1 hr hn F2 hb1 hbl
  generalize w1.heap.size = z1 at *
  generalize w1.later xq = w2 at *
  refine wpList_grows rfl (grows_append_copyC (.tmp 6) (.tmp 8) 25 rfl 52 i0 _ 10 72 Tryz.underlying25 hi0 hz0 hz1 hz2 rfl (by decide) (by decide) copies_note cells_note u3 (.slice an N.length capn) N rfl s3 rfl hn1 (by omega) z1 hzz) ?_
  rintro v3 w3 hb3 ⟨s4, hcd4⟩
  obtain ⟨a4, cap4, rfl, _⟩ := sl_shape s4
  replace r0 := cell_ext hb3 r0
  replace r1 := cell_ext hb3 r1
  replace f2 := free_ext hb3 f2
  replace s2 := sl_ext (stays_fr stays_issueN) hb3 s2
  replace hbb := below_trans hbb hb3
  have hl2 := f2.1
  have q0 := f2.2 0
  have q1 := f2.2 1
  have S2 := Lib.hid s2
  have S4 := Lib.hid s4
  have HCD := Lib.hid (And.intro hcd hcd4)
  clear f2 s2 s4 hn1 s3 hb3 hcd hcd4
  unfold Cell at r0 r1
  simp only [Act.put, List.setIfInBounds_toArray, List.set_cons_succ, List.set_cons_zero]
  go_wp2
  refine bodyPost_ret (v := .agg #[.slice a2 n2 cap2, .slice a4 N.length cap4]) ?_ rfl ⟨_, _, rfl, ?_, ?_, ?_, HCD.out⟩
  · simp [results, Tryz.results10, go_sem, r0, r1, hl2]
  · refine issueN_weak (base := z1) (by omega) ?_
    refine sl_same_issue ?_ ?_ ?_ S2.out
    all_goals exact (same_set (by omega)).trans (same_set (by omega))
  · refine sl_weak (base := z1) (by omega) ?_
    refine sl_set local_note (by omega) (sl_set local_note (by omega) S4.out)
  · exact below_set (by omega) (below_set (by omega) hbb)

end Go.Proofs.YtoibnhkiedpkgaaGreatDoor
