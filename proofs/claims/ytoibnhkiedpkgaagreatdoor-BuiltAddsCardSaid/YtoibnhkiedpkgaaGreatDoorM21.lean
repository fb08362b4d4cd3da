/- The program's machines with a report more. -/
import Derived.Test.YtoibnhkiedpkgaaGreatDoorM19
import Derived.Test.YtoibnhkiedpkgaaGreatDoorM20
set_option linter.unusedVariables false
set_option linter.unusedSimpArgs false
set_option linter.all false

namespace Go.Proofs.YtoibnhkiedpkgaaGreatDoor
open Go.RowKit Go.Shelf
attribute [local go_sem] stepOk Oper.grows Oper.growUpon

set_option maxRecDepth 100000 in
set_option maxHeartbeats 6400000 in
theorem add_built (w : World) (vr vn vm vh vs : Value) (b : Built) (r : Report) (h : BuiltArg w vr vn vm vh vs b) (hT : Tiny b) (hr : RNum r) :
    Calls Tryz.prog 6 #[.agg #[vr, vn, .int .i64 b.of, vm, vh, vs], .agg #[.int .i64 r.num, .int .i64 r.m, .int .i64 r.d, .int .i64 r.l, .int .u8 r.k]] w (RetAdd b r w) := by
  obtain ⟨i0, hi0, hz0, hz1, hz2⟩ := info_parts infoReport
  obtain ⟨ar, cr, rfl, _⟩ := sl_shape h.at_.reg
  obtain ⟨an, cn, rfl, _⟩ := sl_shape h.at_.notes
  obtain ⟨am, cm, rfl, _⟩ := sl_shape h.at_.ms
  obtain ⟨ah, ch, rfl, _⟩ := sl_shape h.at_.hs
  obtain ⟨az, cz, rfl, _⟩ := sl_shape h.at_.rs
  have hOf : I64 b.of := h.at_.of
  have hb1 := below_alloc w (.cells #[.slice ar b.ns.reg.length cr, .slice an b.ns.notes.length cn, .int .i64 b.of, .slice am b.ms.length cm, .slice ah b.hs.length ch, .slice az b.rs.length cz] 32)
  have L0 := Lay.new w 32 #[.slice ar b.ns.reg.length cr, .slice an b.ns.notes.length cn, .int .i64 b.of, .slice am b.ms.length cm, .slice ah b.hs.length ch, .slice az b.rs.length cz]
  have L1 := Lay.new (w.alloc (.cells #[.slice ar b.ns.reg.length cr, .slice an b.ns.notes.length cn, .int .i64 b.of, .slice am b.ms.length cm, .slice ah b.hs.length ch, .slice az b.rs.length cz] 32)) 34 #[.int .i64 r.num, .int .i64 r.m, .int .i64 r.d, .int .i64 r.l, .int .u8 r.k]
  have L2 := Lay.new ((w.alloc (.cells #[.slice ar b.ns.reg.length cr, .slice an b.ns.notes.length cn, .int .i64 b.of, .slice am b.ms.length cm, .slice ah b.hs.length ch, .slice az b.rs.length cz] 32)).alloc (.cells #[.int .i64 r.num, .int .i64 r.m, .int .i64 r.d, .int .i64 r.l, .int .u8 r.k] 34)) 32 #[.slice none 0 0, .slice none 0 0, .int .i64 0, .slice none 0 0, .slice none 0 0, .slice none 0 0]
  have hb2 := below_alloc (w.alloc (.cells #[.slice ar b.ns.reg.length cr, .slice an b.ns.notes.length cn, .int .i64 b.of, .slice am b.ms.length cm, .slice ah b.hs.length ch, .slice az b.rs.length cz] 32)) (.cells #[.int .i64 r.num, .int .i64 r.m, .int .i64 r.d, .int .i64 r.l, .int .u8 r.k] 34)
  have hb3 := below_alloc ((w.alloc (.cells #[.slice ar b.ns.reg.length cr, .slice an b.ns.notes.length cn, .int .i64 b.of, .slice am b.ms.length cm, .slice ah b.hs.length ch, .slice az b.rs.length cz] 32)).alloc (.cells #[.int .i64 r.num, .int .i64 r.m, .int .i64 r.d, .int .i64 r.l, .int .u8 r.k] 34)) (.cells #[.slice none 0 0, .slice none 0 0, .int .i64 0, .slice none 0 0, .slice none 0 0, .slice none 0 0] 32)
  replace L0 := L0.ext (below_trans hb2 hb3)
  replace L1 := L1.ext hb3
  rw [World.size_alloc] at L1
  rw [World.size_alloc, World.size_alloc] at L2
  have hbe := below_trans (below_trans hb1 hb2) hb3
  have c0 := L0.cell 0 _ rfl
  have c1 := L0.cell 1 _ rfl
  have c2 := L0.cell 2 _ rfl
  have c3 := L0.cell 3 _ rfl
  have c4 := L0.cell 4 _ rfl
  have c5 := L0.cell 5 _ rfl
  have HTT := Lib.hid hT
  have H0 := Lib.hid h
  clear h hT hb1 hb2 hb3
  go_enter Tryz.func6, Tryz.ntmps6
  go_wp2_with fail
  clear c0 c1 c2 c3 c4 c5
  have hsz : w.heap.size + 1 + 1 < (((w.alloc (.cells #[.slice ar b.ns.reg.length cr, .slice an b.ns.notes.length cn, .int .i64 b.of, .slice am b.ms.length cm, .slice ah b.hs.length ch, .slice az b.rs.length cz] 32)).alloc (.cells #[.int .i64 r.num, .int .i64 r.m, .int .i64 r.d, .int .i64 r.l, .int .u8 r.k] 34)).alloc (.cells #[.slice none 0 0, .slice none 0 0, .int .i64 0, .slice none 0 0, .slice none 0 0, .slice none 0 0] 32)).heap.size := L2.lt
  generalize ((w.alloc _).alloc _).alloc _ = w1 at *
  generalize hg4 : w.heap.size + 1 + 1 = g4 at *
  generalize hg3 : w.heap.size + 1 = g3 at *
  have hgw : w.heap.size < g3 ∧ g3 < g4 := by omega
  clear hg4 hg3
  refine (check_built _ _ _ _ _ _ b (H0.out.ext hbe)).mono ?_
  rintro e wB ⟨rfl, hb2⟩
  have hbe := below_trans hbe hb2
  have L0 := Lib.hid (L0.ext hb2)
  have L1 := Lib.hid (L1.ext hb2)
  have L2 := Lib.hid (L2.ext hb2)
  have hsz : g4 < wB.heap.size := L2.out.lt
  clear hb2
  by_cases k0 : builtCode b = 0
  case neg =>
    have HA := Lib.hid (addCode_bad (r := r) k0)
    have k0' : (builtCode b != 0) = true := by simpa using k0
    have K0 := Lib.hid k0
    clear k0
    have L2' := L2.out
    have r0 := L2'.cell 0 _ rfl
    have r1 := L2'.cell 1 _ rfl
    have r2 := L2'.cell 2 _ rfl
    have r3 := L2'.cell 3 _ rfl
    have r4 := L2'.cell 4 _ rfl
    have r5 := L2'.cell 5 _ rfl
    have q0 := L2'.frozen 0
    have q1 := L2'.frozen 1
    have q2 := L2'.frozen 2
    have q3 := L2'.frozen 3
    have q4 := L2'.frozen 4
    have q5 := L2'.frozen 5
    go_wp2
    refine bodyPost_ret (v := .tuple #[.agg #[.slice none 0 0, .slice none 0 0, .int .i64 0, .slice none 0 0, .slice none 0 0, .slice none 0 0], .int .i64 (builtCode b)]) ?_ rfl ⟨?_, .inl ⟨by rw [HA.out]; exact K0.out, by rw [HA.out]⟩⟩
    · simp [results, Tryz.results6, go_sem, r0, r1, r2, r3, r4, r5, hsz]
    · repeat (refine below_set (by omega) ?_)
      exact hbe
  have k0' : (builtCode b != 0) = false := by simpa using k0
  have K0 := Lib.hid k0
  clear k0
  by_cases k1 : b.rs.length = 10
  case pos =>
    have HA := Lib.hid (addCode_full (r := r) K0.out k1)
    have k1' : ((b.rs.length : Int) == 10) = true := by simp [k1]
    clear k1
    have L2' := L2.out
    have r0 := L2'.cell 0 _ rfl
    have r1 := L2'.cell 1 _ rfl
    have r2 := L2'.cell 2 _ rfl
    have r3 := L2'.cell 3 _ rfl
    have r4 := L2'.cell 4 _ rfl
    have r5 := L2'.cell 5 _ rfl
    have q0 := L2'.frozen 0
    have q1 := L2'.frozen 1
    have q2 := L2'.frozen 2
    have q3 := L2'.frozen 3
    have q4 := L2'.frozen 4
    have q5 := L2'.frozen 5
    have c5 := L0.out.cell 5 _ rfl
    go_wp2
    refine bodyPost_ret (v := .tuple #[.agg #[.slice none 0 0, .slice none 0 0, .int .i64 0, .slice none 0 0, .slice none 0 0, .slice none 0 0], .int .i64 9]) ?_ rfl ⟨?_, .inl ⟨by rw [HA.out]; decide, by rw [HA.out]⟩⟩
    · simp [results, Tryz.results6, go_sem, r0, r1, r2, r3, r4, r5, hsz]
    · repeat (refine below_set (by omega) ?_)
      exact hbe
  have k1' : ((b.rs.length : Int) == 10) = false := by simp; omega
  have K1 := Lib.hid k1
  clear k1
  have c5 := L0.out.cell 5 _ rfl
  go_wp2_with fail
  clear c5
  have hAt := Lib.hid (H0.out.ext hbe)
  have hmn := HTT.out.2.1
  have hhn := HTT.out.2.2.1
  have hrn := HTT.out.2.2.2
  have hzb : ∀ c, Below wB.heap.size wB c → wB.heap.size ≤ c.heap.size := fun _ h => h.size
  refine wp_region_growW 16 13 [10, 12] (fun a c => ∀ e, e ≠ 34 → SameAt wB.heap.size e a c) (fun c => Below wB.heap.size wB c) (fun _ _ hb h => below_trans h hb) ⟨rfl, rfl, rfl, Nat.le_refl _, fun _ _ => rfl⟩ (fun _ => True) (fun _ _ _ h => h) trivial (by kernel_rfl) (by kernel_rfl) ?_
  simp only [List.take_succ_cons, List.take_zero]
  refine growW_exact (by rfl) ?_
  apply Exists.intro
  refine ⟨fun vs w2 hw hd => ?_, ?_⟩
  · (try simp [Oper.waitsOn, Region.binds, List.filter_cons, List.filter_nil, factAt, depsHold] at hd)
    simp only [putsFrom, Act.put, List.setIfInBounds_toArray, List.set_cons_succ, List.set_cons_zero]
    go_simp
    exact ⟨Below.refl _ _, rfl⟩
  refine growW_exact (by rfl) ?_
  apply Exists.intro
  refine ⟨fun vs w2 hw hd => ?_, ?_⟩
  · (try simp [Oper.waitsOn, Region.binds, List.filter_cons, List.filter_nil, factAt, depsHold] at hd)
    have k2 := (L0.out.ext hw).cell 2 _ rfl
    simp only [putsFrom, Act.put, List.setIfInBounds_toArray, List.set_cons_succ, List.set_cons_zero]
    go_simp
    exact ⟨Below.refl _ _, rfl⟩
  refine growW_exact (by rfl) ?_
  apply Exists.intro
  refine ⟨fun vs w2 hw hd => ?_, ?_⟩
  · (try simp [Oper.waitsOn, Region.binds, List.filter_cons, List.filter_nil, factAt, depsHold] at hd)
    simp only [putsFrom, Act.put, List.setIfInBounds_toArray, List.set_cons_succ, List.set_cons_zero]
    go_simp
    exact ⟨Below.refl _ _, rfl⟩
  refine growW_exact (by rfl) ?_
  apply Exists.intro
  refine ⟨fun vs w2 hw hd => ?_, ?_⟩
  · (try simp [Oper.waitsOn, Region.binds, List.filter_cons, List.filter_nil, factAt, depsHold] at hd)
    have k3 := (L0.out.ext hw).cell 3 _ rfl
    simp only [putsFrom, Act.put, List.setIfInBounds_toArray, List.set_cons_succ, List.set_cons_zero]
    go_simp
    exact ⟨Below.refl _ _, rfl⟩
  refine growW_step (fun v w' => New AtInt 1 3 wB.heap.size w' v b.ms) (fun _ _ _ hb h => h.ext stays_int hb) (by rfl) (.inr (.inr (fun _ _ _ hT h => h.same local_int (hT _ (by decide))))) ?_ ?_
  · intro vs w2 hw hd
    (try simp [Oper.waitsOn, Region.binds, List.filter_cons, List.filter_nil, factAt, depsHold] at hd)
    simp only [putsFrom, Act.put, List.setIfInBounds_toArray, List.set_cons_succ, List.set_cons_zero]
    go_simp
    refine (clone_int _ _ b.ms (hAt.out.ext hw).at_.ms (by omega)).mono ?_
    rintro e c2 ⟨u, rfl, hnew, hb⟩
    exact ⟨_, rfl, hb, hnew.weak hw.size⟩
  refine growW_exact (by rfl) ?_
  apply Exists.intro
  refine ⟨fun vs w2 hw hd => ?_, ?_⟩
  · (try simp [Oper.waitsOn, Region.binds, List.filter_cons, List.filter_nil, factAt, depsHold] at hd)
    simp only [putsFrom, Act.put, List.setIfInBounds_toArray, List.set_cons_succ, List.set_cons_zero]
    go_simp
    exact ⟨Below.refl _ _, rfl⟩
  refine growW_exact (by rfl) ?_
  apply Exists.intro
  refine ⟨fun vs w2 hw hd => ?_, ?_⟩
  · (try simp [Oper.waitsOn, Region.binds, List.filter_cons, List.filter_nil, factAt, depsHold] at hd)
    have k4 := (L0.out.ext hw).cell 4 _ rfl
    simp only [putsFrom, Act.put, List.setIfInBounds_toArray, List.set_cons_succ, List.set_cons_zero]
    go_simp
    exact ⟨Below.refl _ _, rfl⟩
  refine growW_step (fun v w' => New AtHeap 4 56 wB.heap.size w' v b.hs) (fun _ _ _ hb h => h.ext stays_heap hb) (by rfl) (.inr (.inr (fun _ _ _ hT h => h.same local_heap (hT _ (by decide))))) ?_ ?_
  · intro vs w2 hw hd
    (try simp [Oper.waitsOn, Region.binds, List.filter_cons, List.filter_nil, factAt, depsHold] at hd)
    simp only [putsFrom, Act.put, List.setIfInBounds_toArray, List.set_cons_succ, List.set_cons_zero]
    go_simp
    refine (clone_heap _ _ b.hs (hAt.out.ext hw).at_.hs (by omega)).mono ?_
    rintro e c2 ⟨u, rfl, hnew, hb⟩
    exact ⟨_, rfl, hb, hnew.weak hw.size⟩
  refine growW_exact (by rfl) ?_
  apply Exists.intro
  refine ⟨fun vs w2 hw hd => ?_, ?_⟩
  · (try simp [Oper.waitsOn, Region.binds, List.filter_cons, List.filter_nil, factAt, depsHold] at hd)
    simp only [putsFrom, Act.put, List.setIfInBounds_toArray, List.set_cons_succ, List.set_cons_zero]
    go_simp
    exact ⟨Below.refl _ _, rfl⟩
  refine growW_exact (by rfl) ?_
  apply Exists.intro
  refine ⟨fun vs w2 hw hd => ?_, ?_⟩
  · (try simp [Oper.waitsOn, Region.binds, List.filter_cons, List.filter_nil, factAt, depsHold] at hd)
    have k5 := (L0.out.ext hw).cell 5 _ rfl
    simp only [putsFrom, Act.put, List.setIfInBounds_toArray, List.set_cons_succ, List.set_cons_zero]
    go_simp
    exact ⟨Below.refl _ _, rfl⟩
  refine growW_step (fun v w' => w'.ownsRow wB.heap.size 34 5 v b.rs.length (flatR b.rs)) (fun _ _ _ hb h => own_ext hb h) (by rfl) (.inl (by rfl)) ?_ ?_
  · intro vs w2 hw hd
    (try simp [Oper.waitsOn, Region.binds, List.filter_cons, List.filter_nil, factAt, depsHold] at hd)
    simp only [putsFrom, Act.put, List.setIfInBounds_toArray, List.set_cons_succ, List.set_cons_zero]
    go_simp
    refine (clone_report _ _ b.rs (hAt.out.ext hw).at_.rs (by omega)).mono ?_
    rintro e c2 ⟨u, rfl, hnew, hb⟩
    obtain ⟨cs, hown⟩ := hnew.2
    obtain rfl := own_flat hnew.1 hown
    exact ⟨_, rfl, hb, own_weak hw.size hown⟩
  refine growW_exact (by rfl) ?_
  apply Exists.intro
  refine ⟨fun vs w2 hw hd => ?_, ?_⟩
  · (try simp [Oper.waitsOn, Region.binds, List.filter_cons, List.filter_nil, factAt, depsHold] at hd)
    have LL := L1.out.ext hw; have k0 := LL.cell 0 _ rfl; have k1 := LL.cell 1 _ rfl; have k2 := LL.cell 2 _ rfl; have k3 := LL.cell 3 _ rfl; have k4 := LL.cell 4 _ rfl
    simp only [putsFrom, Act.put, List.setIfInBounds_toArray, List.set_cons_succ, List.set_cons_zero]
    go_simp
    exact ⟨Below.refl _ _, rfl⟩
  refine growW_step (fun v w' => BoxRep r v w') (boxRep_stays r) (by rfl) (.inl (by rfl)) ?_ ?_
  · intro vs w2 hw hd
    (try simp [Oper.waitsOn, Region.binds, List.filter_cons, List.filter_nil, factAt, depsHold] at hd)
    simp only [putsFrom, Act.put, List.setIfInBounds_toArray, List.set_cons_succ, List.set_cons_zero]
    go_simp
    have B := new_cell w2 #[.int .i64 r.num, .int .i64 r.m, .int .i64 r.d, .int .i64 r.l, .int .u8 r.k] 34
    exact ⟨below_alloc _ _, _, rfl, B 0 _ rfl, B 1 _ rfl, B 2 _ rfl, B 3 _ rfl, B 4 _ rfl⟩
  refine growW_wild (fun v w' => w'.ownsRow wB.heap.size 34 5 v (b.rs.length + 1) (flatR (b.rs ++ [r]))) (fun _ _ _ hb h => own_ext hb h) (by rfl) ?_ ?_
  · intro vs w2 hw hi hd
    (try simp [Oper.waitsOn, Region.binds, List.filter_cons, List.filter_nil, factAt, depsHold] at hd)
    simp only [putsFrom, Act.put, List.setIfInBounds_toArray, List.set_cons_succ, List.set_cons_zero]
    obtain ⟨e3, ⟨bb, e5, hbb⟩, _⟩ := hd
    refine wild_append_own (.tmp 31) (.tmp 33) 30 (by rfl) wB.heap.size 34 i0 _ 5 40 Tryz.underlying30 hi0 hz0 hz1 hz2 rfl (by decide) (vs 10) b.rs.length _ (by rfl) e3 (vs 12) ⟨bb, 0, none⟩ 1 1 e5 (encR r) (by rfl) rfl (boxRep_cells hbb) (encR_one r) (by unfold maxLen; omega) (by omega) hw.size (fun v' w' h1 h2 => ⟨grown_below e3 h2 hw (Nat.le_refl _), fun e hne => same_grown h2 e3 hne, ?_⟩)
    rw [flatR_append]
    exact h1
  refine growW_step (fun v w' => ∃ a c d, v = .agg #[.slice none 0 0, .slice none 0 0, .int .i64 b.of, a, c, d] ∧ New AtInt 1 3 wB.heap.size w' a b.ms ∧ New AtHeap 4 56 wB.heap.size w' c b.hs ∧ w'.ownsRow wB.heap.size 34 5 d (b.rs.length + 1) (flatR (b.rs ++ [r]))) (fun _ _ _ hb ⟨a, c, d, h, h1, h2, h3⟩ => ⟨a, c, d, h, h1.ext stays_int hb, h2.ext stays_heap hb, own_ext hb h3⟩) (by rfl) (.inr (.inl (by kernel_rfl))) ?_ ?_
  · intro vs w2 hw hd
    (try simp [Oper.waitsOn, Region.binds, List.filter_cons, List.filter_nil, factAt, depsHold] at hd)
    obtain ⟨e1, e4, e7, e13⟩ := hd
    obtain ⟨a4, p4, q4, _⟩ := e4.cap
    obtain ⟨a7, p7, q7, _⟩ := e7.cap
    obtain ⟨g13, p13, q13⟩ := own_shape e13
    simp only [putsFrom, Act.put, List.setIfInBounds_toArray, List.set_cons_succ, List.set_cons_zero]
    go_simp
    exact ⟨Below.refl _ _, _, _, _, ⟨rfl, rfl, rfl⟩, by rw [← q4]; exact e4, by rw [← q7]; exact e7, by rw [← q13]; exact e13⟩
  refine growW_step (fun v w' => ∃ g, v = .pointer (some ⟨g, 0, none⟩) ∧ wB.heap.size ≤ g ∧ Lay w' g #[.slice none 0 0, .slice none 0 0, .int .i64 0, .slice none 0 0, .slice none 0 0, .slice none 0 0] 32) (fun _ _ _ hb ⟨g, h, h1, h2⟩ => ⟨g, h, h1, h2.ext hb⟩) (by rfl) (.inr (.inr (fun _ _ _ hT ⟨g, h, h1, h2⟩ => ⟨g, h, h1, h2.same (hT _ (by decide)) h1⟩))) ?_ ?_
  · intro vs w2 hw hd
    (try simp [Oper.waitsOn, Region.binds, List.filter_cons, List.filter_nil, factAt, depsHold] at hd)
    simp only [putsFrom, Act.put, List.setIfInBounds_toArray, List.set_cons_succ, List.set_cons_zero]
    go_simp
    have hx := below_alloc w2 (.cells #[.slice none 0 0, .slice none 0 0, .int .i64 0, .slice none 0 0, .slice none 0 0, .slice none 0 0] 32)
    exact ⟨hx, Lay.new _ _ _⟩
  refine growW_done rfl (fun vs w3 hw hd => ?_)
  simp [depsHold, factAt, List.range, List.range.loop, List.filter_cons, List.filter_nil] at hd
  simp only [putsFrom, Act.put, List.setIfInBounds_toArray, List.set_cons_succ, List.set_cons_zero, List.drop_succ_cons, List.drop_zero]
  obtain ⟨_, _, _, _, _, _, _, _, _, _, _, _, ⟨ua, uc, ud, e14, sa, sc, sd⟩, g7, e15, hg7, L7⟩ := hd
  generalize vs 0 = u0 at *
  generalize vs 1 = u1 at *
  generalize vs 2 = u2 at *
  generalize vs 3 = u3 at *
  generalize vs 4 = u4 at *
  generalize vs 5 = u5 at *
  generalize vs 6 = u6 at *
  generalize vs 7 = u7 at *
  generalize vs 8 = u8 at *
  generalize vs 9 = u9 at *
  generalize vs 10 = u10 at *
  generalize vs 11 = u11 at *
  generalize vs 12 = u12 at *
  generalize vs 13 = u13 at *
  generalize vs 14 = u14 at *
  generalize vs 15 = u15 at *
  subst e14 e15
  obtain ⟨a4, p4, rfl, _⟩ := sa.cap
  obtain ⟨a7, p7, rfl, _⟩ := sc.cap
  obtain ⟨g13, p13, rfl⟩ := own_shape sd
  have c0 := L7.cell 0 _ rfl
  have c1 := L7.cell 1 _ rfl
  have c2 := L7.cell 2 _ rfl
  have c3 := L7.cell 3 _ rfl
  have c4 := L7.cell 4 _ rfl
  have c5 := L7.cell 5 _ rfl
  have q0 := L7.frozen 0
  have q1 := L7.frozen 1
  have q2 := L7.frozen 2
  have q3 := L7.frozen 3
  have q4 := L7.frozen 4
  have q5 := L7.frozen 5
  have l7 := L7.lt
  go_wp2_with fail
  obtain ⟨L7', hgr⟩ := lay_set6 L7 (.slice none 0 0) (.slice none 0 0) (.int .i64 b.of) (.slice a4 b.ms.length p4) (.slice a7 b.hs.length p7) (.slice (some ⟨g13, 0, none⟩) (b.rs.length + 1) p13)
  have SM := Lib.hid (sa.same local_int (same_only hgr L7 (by decide)))
  have SH := Lib.hid (sc.same local_heap (same_only hgr L7 (by decide)))
  have SR := Lib.hid (ownRow_same (same_only hgr L7 (by decide)) (Nat.le_refl _) sd)
  have L0 := Lib.hid ((L0.out.ext hw).kept hgr (by simp; omega))
  have L2 := Lib.hid ((L2.out.ext hw).kept hgr (by simp; omega))
  have hbe := (below_trans hbe hw).grown hgr (below_trans hbe hw).size (fun k e => by cases e; omega)
  have L7 := Lib.hid L7'
  have hzb4 := Nat.le_trans hw.size hgr.size
  clear hgr L7' c0 c1 c2 c3 c4 c5 q0 q1 q2 q3 q4 q5 l7 hw sa sc sd L1 hAt hzb
  generalize (((((w3.setCell _ _).setCell _ _).setCell _ _).setCell _ _).setCell _ _).setCell _ _ = w4 at *
  have hA4 := Lib.hid (H0.out.ext hbe)
  have hn16 := HTT.out.1.2
  have hr80 := HTT.out.1.1.1
  have hLo := Lib.hid (sl_ext stays_issueB hbe (issue_lo H0.out.at_.reg))
  have K0 := cell_later (show Cell w4 w.heap.size 0 (.slice ar b.ns.reg.length cr) from L0.out.cell 0 _ rfl)
  have K1 := cell_later (show Cell w4 w.heap.size 1 (.slice an b.ns.notes.length cn) from L0.out.cell 1 _ rfl)
  refine wp_region_grow_all 11 (by kernel_rfl) (by kernel_rfl) ?_
  simp only [List.take_succ_cons, List.take_zero]
  refine growAll_exact ?_
  apply Exists.intro
  refine ⟨fun vs xq hd => ?_, ?_⟩
  · (try simp [Oper.waitsOn, Region.binds, List.filter_cons, List.filter_nil, factAt, depsHold] at hd)
    simp only [putsFrom, Act.put, List.setIfInBounds_toArray, List.set_cons_succ, List.set_cons_zero]
    go_simp
    exact ⟨Below.refl _ _, rfl⟩
  refine growAll_exact ?_
  apply Exists.intro
  refine ⟨fun vs xq hd => ?_, ?_⟩
  · (try simp [Oper.waitsOn, Region.binds, List.filter_cons, List.filter_nil, factAt, depsHold] at hd)
    simp only [putsFrom, Act.put, List.setIfInBounds_toArray, List.set_cons_succ, List.set_cons_zero]
    go_simp
    exact ⟨Below.refl _ _, rfl⟩
  refine growAll_exact ?_
  apply Exists.intro
  refine ⟨fun vs xq hd => ?_, ?_⟩
  · (try simp [Oper.waitsOn, Region.binds, List.filter_cons, List.filter_nil, factAt, depsHold] at hd)
    simp only [putsFrom, Act.put, List.setIfInBounds_toArray, List.set_cons_succ, List.set_cons_zero]
    go_simp
    exact ⟨Below.refl _ _, rfl⟩
  refine growAll_exact ?_
  apply Exists.intro
  refine ⟨fun vs xq hd => ?_, ?_⟩
  · (try simp [Oper.waitsOn, Region.binds, List.filter_cons, List.filter_nil, factAt, depsHold] at hd)
    simp only [putsFrom, Act.put, List.setIfInBounds_toArray, List.set_cons_succ, List.set_cons_zero]
    go_simp
    exact ⟨Below.refl _ _, rfl⟩
  refine growAll_step (fun v w' => New (AtIssueB w.heap.size) 5 46 wB.heap.size w' v b.ns.reg) (fun _ _ _ hb h => h.ext stays_issueB hb) ?_ ?_
  · intro vs xq hd
    (try simp [Oper.waitsOn, Region.binds, List.filter_cons, List.filter_nil, factAt, depsHold] at hd)
    simp only [putsFrom, Act.put, List.setIfInBounds_toArray, List.set_cons_succ, List.set_cons_zero]
    go_simp
    have hbl := below_later w4 xq
    refine (clone_issueB _ _ _ b.ns.reg (sl_ext stays_issueB hbl hLo.out) (by omega)).mono ?_
    rintro e c2 ⟨u, rfl, hnew, hb⟩
    exact ⟨_, rfl, hb, hnew.weak (Nat.le_trans hzb4 hbl.size)⟩
  refine growAll_step (fun v w' => ∃ u, v = .agg #[u] ∧ New (AtIssueB w.heap.size) 5 46 wB.heap.size w' u b.ns.reg) (fun _ _ _ hb ⟨u, h1, h⟩ => ⟨u, h1, h.ext stays_issueB hb⟩) ?_ ?_
  · intro vs xq hd
    (try simp [Oper.waitsOn, Region.binds, List.filter_cons, List.filter_nil, factAt, depsHold] at hd)
    simp only [putsFrom, Act.put, List.setIfInBounds_toArray, List.set_cons_succ, List.set_cons_zero]
    obtain ⟨ay, py, qy, _⟩ := hd.cap
    have hx := hd
    rw [qy] at hx
    go_simp
    first | exact Below.refl _ _ | exact ⟨Below.refl _ _, hx⟩ | exact ⟨Below.refl _ _, _, rfl, hx⟩
  refine growAll_exact ?_
  apply Exists.intro
  refine ⟨fun vs xq hd => ?_, ?_⟩
  · (try simp [Oper.waitsOn, Region.binds, List.filter_cons, List.filter_nil, factAt, depsHold] at hd)
    simp only [putsFrom, Act.put, List.setIfInBounds_toArray, List.set_cons_succ, List.set_cons_zero]
    go_simp
    exact ⟨Below.refl _ _, rfl⟩
  refine growAll_exact ?_
  apply Exists.intro
  refine ⟨fun vs xq hd => ?_, ?_⟩
  · (try simp [Oper.waitsOn, Region.binds, List.filter_cons, List.filter_nil, factAt, depsHold] at hd)
    simp only [putsFrom, Act.put, List.setIfInBounds_toArray, List.set_cons_succ, List.set_cons_zero]
    go_simp
    exact ⟨Below.refl _ _, rfl⟩
  refine growAll_exact ?_
  apply Exists.intro
  refine ⟨fun vs xq hd => ?_, ?_⟩
  · (try simp [Oper.waitsOn, Region.binds, List.filter_cons, List.filter_nil, factAt, depsHold] at hd)
    simp only [putsFrom, Act.put, List.setIfInBounds_toArray, List.set_cons_succ, List.set_cons_zero]
    go_simp
    exact ⟨Below.refl _ _, rfl⟩
  refine growAll_step (fun v w' => New AtNote 10 52 wB.heap.size w' v b.ns.notes) (fun _ _ _ hb h => h.ext stays_note hb) ?_ ?_
  · intro vs xq hd
    (try simp [Oper.waitsOn, Region.binds, List.filter_cons, List.filter_nil, factAt, depsHold] at hd)
    simp only [putsFrom, Act.put, List.setIfInBounds_toArray, List.set_cons_succ, List.set_cons_zero]
    go_simp
    have hbl := below_later w4 xq
    refine (clone_note _ _ b.ns.notes (hA4.out.ext hbl).at_.notes (by omega)).mono ?_
    rintro e c2 ⟨u, rfl, hnew, hb⟩
    exact ⟨_, rfl, hb, hnew.weak (Nat.le_trans hzb4 hbl.size)⟩
  refine growAll_step (fun v w' => ∃ a c, v = .agg #[a, c] ∧ New (AtIssueB w.heap.size) 5 46 wB.heap.size w' a b.ns.reg ∧ New AtNote 10 52 wB.heap.size w' c b.ns.notes) (fun _ _ _ hb ⟨a, c, h1, h, h2⟩ => ⟨a, c, h1, h.ext stays_issueB hb, h2.ext stays_note hb⟩) ?_ ?_
  · intro vs xq hd
    (try simp [Oper.waitsOn, Region.binds, List.filter_cons, List.filter_nil, factAt, depsHold] at hd)
    simp only [putsFrom, Act.put, List.setIfInBounds_toArray, List.set_cons_succ, List.set_cons_zero]
    go_simp
    obtain ⟨⟨u, e5, h5⟩, h9⟩ := hd
    obtain ⟨ay, py, rfl, _⟩ := h5.cap
    obtain ⟨az', pz, qz, _⟩ := h9.cap
    rw [qz] at h9
    go_simp
    first | exact Below.refl _ _ | exact ⟨Below.refl _ _, h5, h9⟩ | exact ⟨Below.refl _ _, _, _, ⟨rfl, rfl⟩, h5, h9⟩ | exact ⟨Below.refl _ _, _, _, rfl, h5, h9⟩
  refine growAll_done rfl (fun vs xq hd => ?_)
  simp [depsHold, factAt, List.range, List.range.loop] at hd
  simp only [putsFrom, Act.put, List.setIfInBounds_toArray, List.set_cons_succ, List.set_cons_zero, List.drop_succ_cons, List.drop_zero]
  obtain ⟨_, _, _, _, _, _, _, _, _, _, ua, uc, e10, sa, sc⟩ := hd
  generalize vs 0 = u0 at *
  generalize vs 1 = u1 at *
  generalize vs 2 = u2 at *
  generalize vs 3 = u3 at *
  generalize vs 4 = u4 at *
  generalize vs 5 = u5 at *
  generalize vs 6 = u6 at *
  generalize vs 7 = u7 at *
  generalize vs 8 = u8 at *
  generalize vs 9 = u9 at *
  generalize vs 10 = u10 at *
  subst e10
  obtain ⟨a0, p0, rfl, hp0⟩ := sa.cap
  obtain ⟨a1, p1, rfl, hp1⟩ := sc.cap
  have hbl := below_later w4 xq
  have L7x := L7.out.ext hbl
  have c0 := L7x.cell 0 _ rfl
  have c1 := L7x.cell 1 _ rfl
  have q0 := L7x.frozen 0
  have q1 := L7x.frozen 1
  have l7 := L7x.lt
  go_wp2_with fail
  obtain ⟨L7', hgr⟩ := lay_set2 L7x (.slice a0 b.ns.reg.length p0) (.slice a1 b.ns.notes.length p1)
  have elen : (b.rs ++ [r]).length = b.rs.length + 1 := by simp
  have SRx := own_ext hbl SR.out
  have MID := Lib.hid (AddMid.mk (zb := wB.heap.size) (L := b.rs ++ [r]) (sc.same local_note (same_only hgr L7x (by decide))) ((SM.out.ext stays_int hbl).same local_int (same_only hgr L7x (by decide))) ((SH.out.ext stays_heap hbl).same local_heap (same_only hgr L7x (by decide)))
    (by rw [elen]; exact ownRow_same (same_only hgr L7x (by decide)) (Nat.le_refl _) SRx) L7' ((L2.out.ext hbl).kept hgr (by simp; omega)))
  have hbe := (below_trans hbe hbl).grown hgr (below_trans hbe hbl).size (fun k e => by cases e; omega)
  have hrow0 : ∃ cs, Hid (((((w4.later xq).setCell ⟨g7, 0, none⟩ (.slice a0 b.ns.reg.length p0)).setCell ⟨g7, 1, none⟩ (.slice a1 b.ns.notes.length p1))).ownsRow wB.heap.size 46 5 (.slice a0 b.ns.reg.length p0) b.ns.reg.length cs) ∧
      Hid (IssRowK wB.heap.size w.heap.size 0 (((w4.later xq).setCell ⟨g7, 0, none⟩ (.slice a0 b.ns.reg.length p0)).setCell ⟨g7, 1, none⟩ (.slice a1 b.ns.notes.length p1)) cs b.ns.reg) := by
    obtain ⟨cs, hown⟩ := sa.2
    have hown2 := ownRow_same (same_only hgr L7x (e := 46) (base := 0) (by decide)) (Nat.zero_le _) hown
    by_cases hn : 0 < b.ns.reg.length
    · obtain ⟨gI, pI, e, _⟩ := own_shape_pos hown hn
      cases e
      refine ⟨cs, Lib.hid hown2, Lib.hid (issRowK_same (same_only hgr L7x (by decide)) (same_only hgr L7x (by decide)) (fun k hk => ?_) (issRowK_new sa.1 hown))⟩
      exact hgr.block k (by omega) (fun e => by cases e; omega)
    · refine ⟨cs, Lib.hid hown2, Lib.hid ⟨hown2.1, fun j hj => absurd hj (by omega)⟩⟩
  clear L7' hgr hbl L7x c0 c1 q0 q1 l7 L7 L2 SM SH SR SRx sa sc K0 K1 hLo L0
  generalize ((w4.later xq).setCell _ _).setCell _ _ = w5 at *
  go_loopw [53] (fun i wr => ∃ (k : Nat) (cs : List Value), i = .int .i64 k ∧ k ≤ b.ns.reg.length ∧ Hid (Below w.heap.size w wr) ∧ Hid (wr.ownsRow wB.heap.size 46 5 (.slice a0 b.ns.reg.length p0) b.ns.reg.length cs) ∧
    Hid (IssRowK wB.heap.size w.heap.size k wr cs b.ns.reg) ∧ Hid (AddMid wB.heap.size g4 g7 wr (.slice a0 b.ns.reg.length p0) (.slice a1 b.ns.notes.length p1) (.slice a4 b.ms.length p4) (.slice a7 b.hs.length p7) (.slice (some ⟨g13, 0, none⟩) (b.rs.length + 1) p13) b (b.rs ++ [r])) ∧ wB.heap.size ≤ wr.heap.size) (fun i _ => b.ns.reg.length - (intOf i).toNat)
  case atStart =>
    obtain ⟨cs, h1, h2⟩ := hrow0
    exact ⟨0, cs, rfl, Nat.zero_le _, Lib.hid hbe, h1, h2, MID, by first | omega | (have := MID.out.box.lt; omega)⟩
  case round =>
    clear hrow0 MID hbe hA4
    obtain ⟨k, cs, rfl, hk, hbe, HOWN, HROW, MID, hzr⟩ := hrel
    by_cases hlt : k < b.ns.reg.length
    · obtain ⟨gI, pI, e, hgI⟩ := own_shape_pos HOWN.out (by omega)
      cases e
      have c0 := MID.out.box.cell 0 _ rfl
      have hki : (k : Int) < b.ns.reg.length := by omega
      go_wp2
      clear c0
      have hro := HROW.out
      obtain ⟨hnum, vi, vd, r0, r1, r2, r3, r4, _, hlo⟩ := hro.2 k hlt
      obtain ⟨si, sd⟩ := hlo (Nat.le_refl _)
      obtain ⟨ai, pi, rfl, _⟩ := sl_shape si
      obtain ⟨ad, pd, rfl, _⟩ := sl_shape sd
      have sm16 := (HTT.out.1.1.2 k hlt).1
      have sm8 := (HTT.out.1.1.2 k hlt).2
      have SI := Lib.hid si
      have SD := Lib.hid sd
      have HR4 := Lib.hid r4
      have HCI := Lib.hid (fun (c : World) (h : c.ownsRow wB.heap.size 46 5 (.slice (some ⟨gI, 0, none⟩) b.ns.reg.length p0) b.ns.reg.length cs) => (show Cell c gI (k * 5 + 3) (.slice ai b.ns.reg[k].items.length pi) ∧ Cell c gI (k * 5 + 4) (.slice ad b.ns.reg[k].dims.length pd) from ⟨by have := h.cells (g := gI) rfl _ _ r3; rw [add_at] at this; exact this, by have := h.cells (g := gI) rfl _ _ r4; rw [add_at] at this; exact this⟩))
      have HFZ := Lib.hid (fun (c : World) (h : c.ownsRow wB.heap.size 46 5 (.slice (some ⟨gI, 0, none⟩) b.ns.reg.length p0) b.ns.reg.length cs) => own_unfrozen h)
      have hgn : w.heap.size < gI := by omega
      clear hro r0 r1 r2 r3 r4 hlo si sd
      refine wp_region_growW 17 14 [] (fun a c => ∀ e, e ≠ 46 → SameAt 0 e a c) (fun c => wr.grownBy c (some gI)) (fun _ _ hb h => grown_then hb h) (grown_self _ _ _ rfl rfl rfl rfl)
        (fun c => Below wr.heap.size wr c) (fun _ _ hb h => below_trans h hb) ⟨rfl, rfl, rfl, Nat.le_refl _, fun _ _ => rfl⟩ (by kernel_rfl) (by kernel_rfl) ?_
      simp only [List.take_succ_cons, List.take_zero]
      refine growW_exact (by rfl) ?_
      apply Exists.intro
      refine ⟨fun vs w2 hw hd => ?_, ?_⟩
      · (try simp [Oper.waitsOn, Region.binds, List.filter_cons, List.filter_nil, factAt, depsHold] at hd)
        simp only [putsFrom, Act.put, List.setIfInBounds_toArray, List.set_cons_succ, List.set_cons_zero]
        go_simp
        exact ⟨Below.refl _ _, rfl⟩
      refine growW_exact (by rfl) ?_
      apply Exists.intro
      refine ⟨fun vs w2 hw hd => ?_, ?_⟩
      · (try simp [Oper.waitsOn, Region.binds, List.filter_cons, List.filter_nil, factAt, depsHold] at hd)
        simp only [putsFrom, Act.put, List.setIfInBounds_toArray, List.set_cons_succ, List.set_cons_zero]
        go_simp
        exact ⟨Below.refl _ _, rfl⟩
      refine growW_exact (by rfl) ?_
      apply Exists.intro
      refine ⟨fun vs w2 hw hd => ?_, ?_⟩
      · (try simp [Oper.waitsOn, Region.binds, List.filter_cons, List.filter_nil, factAt, depsHold] at hd)
        simp only [putsFrom, Act.put, List.setIfInBounds_toArray, List.set_cons_succ, List.set_cons_zero]
        go_simp
        exact ⟨Below.refl _ _, rfl⟩
      refine growW_exact (by rfl) ?_
      apply Exists.intro
      refine ⟨fun vs w2 hw hd => ?_, ?_⟩
      · (try simp [Oper.waitsOn, Region.binds, List.filter_cons, List.filter_nil, factAt, depsHold] at hd)
        simp only [putsFrom, Act.put, List.setIfInBounds_toArray, List.set_cons_succ, List.set_cons_zero]
        go_simp
        exact ⟨Below.refl _ _, rfl⟩
      refine growW_exact (by rfl) ?_
      apply Exists.intro
      refine ⟨fun vs w2 hw hd => ?_, ?_⟩
      · (try simp [Oper.waitsOn, Region.binds, List.filter_cons, List.filter_nil, factAt, depsHold] at hd)
        simp only [putsFrom, Act.put, List.setIfInBounds_toArray, List.set_cons_succ, List.set_cons_zero]
        go_simp
        exact ⟨Below.refl _ _, rfl⟩
      refine growW_exactI (by rfl) (by kernel_rfl) ?_
      apply Exists.intro
      refine ⟨fun vs w2 hw hi hd => ?_, ?_⟩
      · (try simp [Oper.waitsOn, Region.binds, List.filter_cons, List.filter_nil, factAt, depsHold] at hd)
        have q3 := (HCI.out _ (own_ext hi HOWN.out)).1; unfold Cell at q3
        simp only [putsFrom, Act.put, List.setIfInBounds_toArray, List.set_cons_succ, List.set_cons_zero]
        go_simp
        exact ⟨Below.refl _ _, rfl⟩
      refine growW_step (fun v w' => Sl (Fr wB.heap.size 48 AtItem) 2 w' v b.ns.reg[k].items) (fun _ _ _ hb h => sl_ext (stays_fr stays_item) hb h) (by rfl) (.inr (.inr (fun _ _ _ hT h => sl_same local_item ((hT _ (by decide)).mono (Nat.zero_le _)) h))) ?_ ?_
      · intro vs w2 hw hd
        (try simp [Oper.waitsOn, Region.binds, List.filter_cons, List.filter_nil, factAt, depsHold] at hd)
        simp only [putsFrom, Act.put, List.setIfInBounds_toArray, List.set_cons_succ, List.set_cons_zero]
        go_simp
        refine (clone_item _ _ b.ns.reg[k].items (sl_unlo (sl_lo local_item SI.out (fun j hj => hw.block j (by omega) (fun e => by cases e; omega)))) (by omega)).mono ?_
        rintro e c2 ⟨u, rfl, hnew, hb⟩
        exact ⟨_, rfl, hb, (hnew.weak (Nat.le_trans hzr hw.size)).fr⟩
      refine growW_exact (by rfl) ?_
      apply Exists.intro
      refine ⟨fun vs w2 hw hd => ?_, ?_⟩
      · (try simp [Oper.waitsOn, Region.binds, List.filter_cons, List.filter_nil, factAt, depsHold] at hd)
        simp only [putsFrom, Act.put, List.setIfInBounds_toArray, List.set_cons_succ, List.set_cons_zero]
        go_simp
        exact ⟨Below.refl _ _, rfl⟩
      refine growW_exact (by rfl) ?_
      apply Exists.intro
      refine ⟨fun vs w2 hw hd => ?_, ?_⟩
      · (try simp [Oper.waitsOn, Region.binds, List.filter_cons, List.filter_nil, factAt, depsHold] at hd)
        simp only [putsFrom, Act.put, List.setIfInBounds_toArray, List.set_cons_succ, List.set_cons_zero]
        go_simp
        exact ⟨Below.refl _ _, rfl⟩
      refine growW_exact (by rfl) ?_
      apply Exists.intro
      refine ⟨fun vs w2 hw hd => ?_, ?_⟩
      · (try simp [Oper.waitsOn, Region.binds, List.filter_cons, List.filter_nil, factAt, depsHold] at hd)
        simp only [putsFrom, Act.put, List.setIfInBounds_toArray, List.set_cons_succ, List.set_cons_zero]
        go_simp
        exact ⟨Below.refl _ _, rfl⟩
      refine growW_exactI (by rfl) (by kernel_rfl) ?_
      apply Exists.intro
      refine ⟨fun vs w2 hw hi hd => ?_, ?_⟩
      · (try simp [Oper.waitsOn, Region.binds, List.filter_cons, List.filter_nil, factAt, depsHold] at hd)
        have q4 := (HCI.out _ (own_ext hi HOWN.out)).2; unfold Cell at q4
        simp only [putsFrom, Act.put, List.setIfInBounds_toArray, List.set_cons_succ, List.set_cons_zero]
        go_simp
        exact ⟨Below.refl _ _, rfl⟩
      refine growW_step (fun v w' => Sl (Fr wB.heap.size 50 AtDim) 3 w' v b.ns.reg[k].dims) (fun _ _ _ hb h => sl_ext (stays_fr stays_dim) hb h) (by rfl) (.inr (.inr (fun _ _ _ hT h => sl_same local_dim ((hT _ (by decide)).mono (Nat.zero_le _)) h))) ?_ ?_
      · intro vs w2 hw hd
        (try simp [Oper.waitsOn, Region.binds, List.filter_cons, List.filter_nil, factAt, depsHold] at hd)
        simp only [putsFrom, Act.put, List.setIfInBounds_toArray, List.set_cons_succ, List.set_cons_zero]
        go_simp
        refine (clone_dim _ _ b.ns.reg[k].dims (sl_unlo (sl_lo local_dim SD.out (fun j hj => hw.block j (by omega) (fun e => by cases e; omega)))) (by omega)).mono ?_
        rintro e c2 ⟨u, rfl, hnew, hb⟩
        exact ⟨_, rfl, hb, (hnew.weak (Nat.le_trans hzr hw.size)).fr⟩
      refine growW_exact (by rfl) ?_
      apply Exists.intro
      refine ⟨fun vs w2 hw hd => ?_, ?_⟩
      · (try simp [Oper.waitsOn, Region.binds, List.filter_cons, List.filter_nil, factAt, depsHold] at hd)
        simp only [putsFrom, Act.put, List.setIfInBounds_toArray, List.set_cons_succ, List.set_cons_zero]
        go_simp
        exact ⟨Below.refl _ _, rfl⟩
      refine growW_exact (by rfl) ?_
      apply Exists.intro
      refine ⟨fun vs w2 hw hd => ?_, ?_⟩
      · (try simp [Oper.waitsOn, Region.binds, List.filter_cons, List.filter_nil, factAt, depsHold] at hd)
        simp only [putsFrom, Act.put, List.setIfInBounds_toArray, List.set_cons_succ, List.set_cons_zero]
        go_simp
        exact ⟨Below.refl _ _, rfl⟩
      refine growW_wild (fun _ w' => ∃ u, Sl (Fr wB.heap.size 48 AtItem) 2 w' u b.ns.reg[k].items ∧ w'.ownsRow wB.heap.size 46 5 (.slice (some ⟨gI, 0, none⟩) b.ns.reg.length p0) b.ns.reg.length (cs.set (k * 5 + 3) u)) (fun _ _ _ hb ⟨u, h1, h2⟩ => ⟨u, sl_ext (stays_fr stays_item) hb h1, own_ext hb h2⟩) (by rfl) ?_ ?_
      · intro vs w2 hw hi hd
        (try simp [Oper.waitsOn, Region.binds, List.filter_cons, List.filter_nil, factAt, depsHold] at hd)
        simp only [putsFrom, Act.put, List.setIfInBounds_toArray, List.set_cons_succ, List.set_cons_zero]
        obtain ⟨e13, s6, _⟩ := hd
        have hh := own_ext hi HOWN.out
        have q3 := (HCI.out _ hh).1
        have z3 := HFZ.out _ hh (k * 5 + 3)
        obtain ⟨a6, p6, q6, _⟩ := sl_shape s6
        obtain ⟨hs1, hs2⟩ := hh.stored (k * 5 + 3) (.slice a6 b.ns.reg[k].items.length p6)
        have hfin : wr.grownBy (w2.setCell ⟨gI, k * 5 + 3, none⟩ (.slice a6 b.ns.reg[k].items.length p6)) (some gI) ∧ (∀ e, e ≠ 46 → SameAt 0 e w2 (w2.setCell ⟨gI, k * 5 + 3, none⟩ (.slice a6 b.ns.reg[k].items.length p6))) ∧
            ∃ u, Sl (Fr wB.heap.size 48 AtItem) 2 (w2.setCell ⟨gI, k * 5 + 3, none⟩ (.slice a6 b.ns.reg[k].items.length p6)) u b.ns.reg[k].items ∧ (w2.setCell ⟨gI, k * 5 + 3, none⟩ (.slice a6 b.ns.reg[k].items.length p6)).ownsRow wB.heap.size 46 5 (.slice (some ⟨gI, 0, none⟩) b.ns.reg.length p0) b.ns.reg.length (cs.set (k * 5 + 3) u) :=
          ⟨grown_join hw hs2, fun e hne => same_own hs2 hh hne, _, sl_same local_item (same_own hs2 hh (by decide)) (by rw [← q6]; exact s6), hs1⟩
        have HFIN := Lib.hid hfin
        have lI := cell_lt q3
        clear hfin hs1 hs2 hh s6
        unfold Cell at q3
        unfold Oper.wild
        go_simp
        exact HFIN.out
      refine growW_exact (by rfl) ?_
      apply Exists.intro
      refine ⟨fun vs w2 hw hd => ?_, ?_⟩
      · (try simp [Oper.waitsOn, Region.binds, List.filter_cons, List.filter_nil, factAt, depsHold] at hd)
        simp only [putsFrom, Act.put, List.setIfInBounds_toArray, List.set_cons_succ, List.set_cons_zero]
        go_simp
        exact ⟨Below.refl _ _, rfl⟩
      refine growW_exact (by rfl) ?_
      apply Exists.intro
      refine ⟨fun vs w2 hw hd => ?_, ?_⟩
      · (try simp [Oper.waitsOn, Region.binds, List.filter_cons, List.filter_nil, factAt, depsHold] at hd)
        simp only [putsFrom, Act.put, List.setIfInBounds_toArray, List.set_cons_succ, List.set_cons_zero]
        go_simp
        exact ⟨Below.refl _ _, rfl⟩
      refine growW_done rfl (fun vs w6 hw hd => ?_)
      simp [depsHold, factAt, List.range, List.range.loop, List.filter_cons, List.filter_nil] at hd
      simp only [putsFrom, Act.put, List.setIfInBounds_toArray, List.set_cons_succ, List.set_cons_zero, List.drop_succ_cons, List.drop_zero]
      obtain ⟨_, _, _, _, _, _, _, _, _, _, _, s11, _, _, ⟨ui, si, hown6⟩, _, e16⟩ := hd
      generalize vs 0 = u0 at *
      generalize vs 1 = u1 at *
      generalize vs 2 = u2 at *
      generalize vs 3 = u3 at *
      generalize vs 4 = u4 at *
      generalize vs 5 = u5 at *
      generalize vs 6 = u6 at *
      generalize vs 7 = u7 at *
      generalize vs 8 = u8 at *
      generalize vs 9 = u9 at *
      generalize vs 10 = u10 at *
      generalize vs 11 = u11 at *
      generalize vs 12 = u12 at *
      generalize vs 13 = u13 at *
      generalize vs 14 = u14 at *
      generalize vs 15 = u15 at *
      generalize vs 16 = u16 at *
      obtain ⟨a11, p11, rfl, _⟩ := sl_shape s11
      subst e16
      have c4 : Cell w6 gI (k * 5 + 4) (.slice ad b.ns.reg[k].dims.length pd) := by have := hown6.cells (g := gI) rfl (k * 5 + 4) _ (by rw [List.getElem?_set_ne (by omega)]; exact HR4.out); rw [add_at] at this; exact this
      have z4 := own_unfrozen hown6 (k * 5 + 4)
      have lI := cell_lt c4
      obtain ⟨hown7, hgr7⟩ := hown6.stored (k * 5 + 4) (.slice a11 b.ns.reg[k].dims.length p11)
      have hgt := grown_join hw hgr7
      have hbe7 := Lib.hid (hbe.out.grown hgt hbe.out.size (fun j e => by cases e; omega))
      have MID7 := Lib.hid (MID.out.same (fun e hne => same_own hgt HOWN.out hne))
      have HROW7 := Lib.hid (issRowK_step (issRowK_same (same_own hgt HOWN.out (by decide)) (same_own hgt HOWN.out (by decide)) (fun j hj => hgt.block j (by omega) (fun e => by cases e; omega)) HROW.out) hlt _ _ (sl_same local_item (same_own hgr7 hown6 (by decide)) si) (sl_same local_dim (same_own hgr7 hown6 (by decide)) s11))
      have hzr7 := Nat.le_trans hzr hgt.size
      have HOWN7 := Lib.hid hown7
      unfold Cell at c4
      clear hgr7 hgt si s11 hown6 hown7 hw HOWN HROW MID SI SD HCI HFZ HR4 hbe
      go_wp2
      clear c4 z4 lI
      generalize w6.setCell _ _ = w7 at *
      go_roundw
      case rel => exact ⟨k + 1, _, by go_num, by omega, hbe7, HOWN7, HROW7, MID7, hzr7⟩
      case measure => simp [intOf]; omega
    · have hkn : k = b.ns.reg.length := by omega
      subst hkn
      have hki : ¬ ((b.ns.reg.length : Int) < b.ns.reg.length) := by omega
      have c0 := MID.out.box.cell 5 _ rfl
      have hrise := ok_rise (code_zero K0.out).2
      have hor := MID.out.rs
      rw [elen] at hor
      go_wp2_with (go_at_call 19; refine (sortStable _ wB.heap.size g13 p13 b.rs r (by omega) hor hrise).mono ?_)
      rintro e w7 ⟨⟨v, rfl⟩, hown7, hgr7⟩
      have hli : (insS b.rs r).length = b.rs.length + 1 := (insS_perm b.rs r).length_eq
      have hg13 := hor.lt g13 rfl
      have hbe7 := hbe.out.grown hgr7 hbe.out.size (fun j e => by cases e; omega)
      have MID7 := MID.out.put (L' := insS b.rs r) (fun e hne => same_own hgr7 hor hne) rfl (by rw [hli]; exact hown7)
      have hownI := ownRow_same (same_own hgr7 hor (by decide)) (Nat.zero_le _) HOWN.out
      have hrowI := issRow_same (same_own hgr7 hor (by decide)) (same_own hgr7 hor (by decide)) (issRowK_row HROW.out (Nat.le_refl _))
      have hnum : ∀ x ∈ insS b.rs r, RNum x := fun x hx => by
        rcases List.mem_cons.1 ((insS_perm b.rs r).mem_iff.1 hx) with h | h
        · rw [h]; exact hr
        · exact rep_num H0.out.at_.rs x h
      have BN := Lib.hid (MID7.built hrowI hownI hOf hnum)
      have BA := Lib.hid (MID7.arg hownI BN.out (H0.out.notes.reg.looks.ext hbe7) (H0.out.looks.ext hbe7))
      have LB := Lib.hid MID7.box
      have LR := Lib.hid MID7.res
      clear c0 hor hown7 hgr7 hbe hownI hrowI MID7 MID HOWN HROW hnum
      have c0 := LB.out.cell 0 _ rfl
      have c1 := LB.out.cell 1 _ rfl
      have c2 := LB.out.cell 2 _ rfl
      have c3 := LB.out.cell 3 _ rfl
      have c4 := LB.out.cell 4 _ rfl
      have c5 := LB.out.cell 5 _ rfl
      go_wp2_with fail
      clear c0 c1 c2 c3 c4 c5
      refine (check_built _ _ _ _ _ _ { b with rs := insS b.rs r } BA.out).mono ?_
      rintro e w8 ⟨rfl, hb8⟩
      have hbe8 := below_trans hbe7 hb8
      have hnz := (code_zero K0.out).1
      have LR8 := LR.out.ext hb8
      have r0 := LR8.cell 0 _ rfl
      have r1 := LR8.cell 1 _ rfl
      have r2 := LR8.cell 2 _ rfl
      have r3 := LR8.cell 3 _ rfl
      have r4 := LR8.cell 4 _ rfl
      have r5 := LR8.cell 5 _ rfl
      have q0 := LR8.frozen 0
      have q1 := LR8.frozen 1
      have q2 := LR8.frozen 2
      have q3 := LR8.frozen 3
      have q4 := LR8.frozen 4
      have q5 := LR8.frozen 5
      have lr := LR8.lt
      by_cases y1 : BuiltOk { b with rs := insS b.rs r }
      · have HA := Lib.hid (addCode_ok K0.out K1.out ((ins_ok b r).1 y1))
        have e1 := code_ok (b := { b with rs := insS b.rs r }) hnz y1
        have ebb : { b with rs := insS b.rs r } = addB b r := by unfold addB; rw [ins_eq b r y1]
        have BN8 := Lib.hid (BN.out.ext hb8)
        rw [ebb] at BN8
        rw [e1]
        have LB8 := LB.out.ext hb8
        have c0 := LB8.cell 0 _ rfl
        have c1 := LB8.cell 1 _ rfl
        have c2 := LB8.cell 2 _ rfl
        have c3 := LB8.cell 3 _ rfl
        have c4 := LB8.cell 4 _ rfl
        have c5 := LB8.cell 5 _ rfl
        clear y1 e1 hb8 BN BA LB LR LR8 LB8 ebb
        go_wp2
        refine bodyPost_ret (v := .tuple #[.agg #[.slice a0 b.ns.reg.length p0, .slice a1 b.ns.notes.length p1, .int .i64 b.of, .slice a4 b.ms.length p4, .slice a7 b.hs.length p7, .slice (some ⟨g13, 0, none⟩) (b.rs.length + 1) p13], .int .i64 0]) ?_ rfl ⟨?_, .inr ⟨HA.out, _, _, _, _, _, rfl, ?_⟩⟩
        · simp [results, Tryz.results6, go_sem, r0, r1, r2, r3, r4, r5]
        · repeat (refine below_set (by omega) ?_)
          exact hbe8
        · refine BuiltN.weak (base := wB.heap.size) (by omega) ?_
          repeat (refine BuiltN.set (by omega) ?_)
          exact BN8.out
      · have HA := Lib.hid (addCode_no K0.out K1.out (fun h => y1 ((ins_ok b r).2 h)))
        have e1 := code_no (b := { b with rs := insS b.rs r }) hnz y1
        rw [e1]
        clear y1 e1 hb8 BN BA LB LR LR8
        go_wp2
        refine bodyPost_ret (v := .tuple #[.agg #[.slice none 0 0, .slice none 0 0, .int .i64 0, .slice none 0 0, .slice none 0 0, .slice none 0 0], .int .i64 81]) ?_ rfl ⟨?_, .inl ⟨by rw [HA.out]; decide, by rw [HA.out]⟩⟩
        · simp [results, Tryz.results6, go_sem, r0, r1, r2, r3, r4, r5]
        · repeat (refine below_set (by omega) ?_)
          exact hbe8

end Go.Proofs.YtoibnhkiedpkgaaGreatDoor
