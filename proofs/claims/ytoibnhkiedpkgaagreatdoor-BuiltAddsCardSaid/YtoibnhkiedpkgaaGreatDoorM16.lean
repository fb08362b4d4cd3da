/- The looks that a note gets: the others. -/
import Derived.Test.YtoibnhkiedpkgaaGreatDoorM15
set_option linter.unusedVariables false
set_option linter.unusedSimpArgs false
set_option linter.all false

namespace Go.Proofs.YtoibnhkiedpkgaaGreatDoor
open Go.RowKit Go.Shelf
attribute [local go_sem] stepOk Oper.grows Oper.growUpon

def RowTwo (x y : Int) (v : Value) (w : World) : Prop := ∃ b, v = .slice (some ⟨b, 0, none⟩) 2 2 ∧ Cell w b 0 (.int .i64 x) ∧ Cell w b 1 (.int .i64 y)
theorem rowTwo_stays (x y : Int) : StaysV (RowTwo x y) := fun _ _ _ hb ⟨b, h, h0, h1⟩ => ⟨b, h, cell_ext hb h0, cell_ext hb h1⟩
def orI (x y : Int) : Int := if x = 0 then y else x
set_option maxRecDepth 100000 in
set_option maxHeartbeats 1600000 in
theorem or_int (w : World) (x y : Int) (b : Nat) (h : Cell w b 0 (.int .i64 x) ∧ Cell w b 1 (.int .i64 y)) :
    Calls Tryz.prog 143 #[.slice (some ⟨b, 0, none⟩) 2 2] w fun e w' => e = .returned (.int .i64 (orI x y)) ∧ w = w' := by
  obtain ⟨c0, c1⟩ := h
  unfold Cell at c0 c1
  go_enter Tryz.func143, Tryz.ntmps143
  go_wp2
  go_loop [8] (fun i => ∃ k : Nat, i = .int .i64 k ∧ k ≤ 2 ∧ (0 < k → x = 0) ∧ (1 < k → y = 0)) (fun i => 2 - (intOf i).toNat)
  case atStart => exact ⟨0, rfl, by omega, fun h => absurd h (by omega), fun h => absurd h (by omega)⟩
  case round =>
    obtain ⟨k, rfl, hk, hx, hy⟩ := hrel
    have hkc : k = 0 ∨ k = 1 ∨ k = 2 := by omega
    rcases hkc with rfl | rfl | rfl
    · by_cases g : x = 0
      · have g' : (x != 0) = false := by simp [g]
        have G := Lib.hid g
        clear g hx hy
        go_wp2
        go_round
        case rel => exact ⟨1, by go_num, by omega, fun _ => G.out, fun h => absurd h (by omega)⟩
        case measure => simp [intOf]
      · have g' : (x != 0) = true := by simp [g]
        have G := Lib.hid g
        clear g hx hy
        go_wp2
        go_ret
        exact ⟨by unfold orI; rw [if_neg G.out]; rfl, rfl⟩
    · have HX := Lib.hid (hx (by omega))
      clear hx hy
      by_cases g : y = 0
      · have g' : (y != 0) = false := by simp [g]
        have G := Lib.hid g
        clear g
        go_wp2
        go_round
        case rel => exact ⟨2, by go_num, by omega, fun _ => HX.out, fun _ => G.out⟩
        case measure => simp [intOf]
      · have g' : (y != 0) = true := by simp [g]
        have G := Lib.hid g
        clear g
        go_wp2
        go_ret
        exact ⟨by unfold orI; rw [if_pos HX.out]; rfl, rfl⟩
    · have HX := Lib.hid (hx (by omega))
      have HY := Lib.hid (hy (by omega))
      clear hx hy
      go_wp2
      go_ret
      exact ⟨by unfold orI; rw [if_pos HX.out, HY.out]; rfl, rfl⟩

def encN (x : Note) : Array Value := #[.int .i64 x.num, .int .i64 x.day, .int .u8 x.sg, .int .i64 x.d, .int .i64 x.l, .int .i64 x.fr, .int .i64 x.to, .int .i64 x.ca, .bool x.use, .int .u8 x.ways]
theorem enter_n6 : Enters Tryz.prog 139 := enters_of Tryz.func139 (by kernel_rfl) rfl
theorem note61 (w : World) (y : Note) (g : Nat) (ca : Int) (hc : Cell w g 7 (.int .i64 ca)) :
    Calls Tryz.prog 139 #[.agg #[.int .i64 y.num, .int .i64 y.day, .int .u8 y.sg, .int .i64 y.d, .int .i64 y.l, .int .i64 y.fr, .int .i64 y.to, .int .i64 y.ca, .bool y.use, .int .u8 y.ways], .pointer (some ⟨g, 0, none⟩)] w (RetB (y.num = ca) w) := by
  have hb1 := below_alloc w (.cells #[.int .i64 y.num, .int .i64 y.day, .int .u8 y.sg, .int .i64 y.d, .int .i64 y.l, .int .i64 y.fr, .int .i64 y.to, .int .i64 y.ca, .bool y.use, .int .u8 y.ways] 52)
  have hl := cell_lt hc
  unfold Cell at hc
  go_enter Tryz.func139, Tryz.ntmps139
  go_wp2
  go_ret
  exact ⟨y.num == ca, rfl, beq_iff_eq, hb1⟩

set_option maxRecDepth 100000 in
set_option maxHeartbeats 1600000 in
theorem ncheck6 (w : World) (vr vn : Value) (R : List Issue) (N : List Note) (i : Nat) (h : NoteArg w vr vn R N) (hi : i < N.length) :
    Calls Tryz.prog 137 #[.agg #[vr, vn], .int .i64 i] w (RetB (NChk6 N i N[i]) w) := by
  obtain ⟨ar, cr, rfl, _⟩ := sl_shape h.reg.sl
  obtain ⟨an, cn, rfl, hcn⟩ := h.cap
  obtain ⟨b, off, rfl, hx⟩ := (sl_at h.sl).2 i hi
  have QX := Lib.hid hx
  obtain ⟨⟨q0, q1, q2, q3, q4, q5, q6, q7, q8, q9⟩, hnum⟩ := hx
  have hlb := cell_lt q0
  generalize N[i] = x at *
  have hb1 := below_alloc w (.cells #[.slice ar R.length cr, .slice (some ⟨b, off, none⟩) N.length cn] 27)
  have LB := Lay.new w 27 #[.slice ar R.length cr, .slice (some ⟨b, off, none⟩) N.length cn]
  have HA := Lib.hid (h.ext hb1)
  have HI : Hid (i < N.length) := hi
  have hil : (i : Int) < N.length := by omega
  clear h
  unfold Cell at q0 q1 q2 q3 q4 q5 q6 q7 q8 q9
  have hb2 := below_trans hb1 (below_alloc _ (.cells #[.int .i64 x.num, .int .i64 x.day, .int .u8 x.sg, .int .i64 x.d, .int .i64 x.l, .int .i64 x.fr, .int .i64 x.to, .int .i64 x.ca, .bool x.use, .int .u8 x.ways] 52))
  have LX := Lay.new (w.alloc (.cells #[.slice ar R.length cr, .slice (some ⟨b, off, none⟩) N.length cn] 27)) 52 #[.int .i64 x.num, .int .i64 x.day, .int .u8 x.sg, .int .i64 x.d, .int .i64 x.l, .int .i64 x.fr, .int .i64 x.to, .int .i64 x.ca, .bool x.use, .int .u8 x.ways]
  rw [World.size_alloc] at LX
  have hic : (i : Int) ≤ cn := by omega
  have HSL := Lib.hid (sl_take (HA.out.ext (below_alloc _ (.cells #[.int .i64 x.num, .int .i64 x.day, .int .u8 x.sg, .int .i64 x.d, .int .i64 x.l, .int .i64 x.fr, .int .i64 x.to, .int .i64 x.ca, .bool x.use, .int .u8 x.ways] 52))).sl i cn (by omega))
  have HLX := Lib.hid (show Cell _ (w.heap.size + 1) 7 (.int .i64 x.ca) from LX.cell 7 _ rfl)
  go_enter Tryz.func137, Tryz.ntmps137
  by_cases g : x.ca = 0
  · have g' : (x.ca == 0) = true := by simp [g]
    have G := Lib.hid g
    clear g
    go_wp2
    go_ret
    exact RetB.t (show NChk6 N i x from .inl G.out) hb2
  · have g' : (x.ca == 0) = false := by simp [g]
    have G := Lib.hid g
    clear g LX
    go_wp2_with fail
    refine (containsFunc_note _ _ (N.take i) HSL.out 139 #[.pointer (some ⟨w.heap.size + 1, 0, none⟩)] enter_n6 (fun y => y.num = x.ca) (fun y hy w' hb => note61 w' y _ x.ca (cell_ext hb HLX.out))).mono ?_
    intro e w2 hh
    rcases hh.both with ⟨h1, rfl, hb3⟩ | ⟨h1, rfl, hb3⟩
    · have H1 := Lib.hid h1
      clear hh h1
      go_wp2
      go_ret
      exact RetB.t (show NChk6 N i x from .inr H1.out) (below_trans hb2 hb3)
    · have H1 := Lib.hid h1
      clear hh h1
      go_wp2
      go_ret
      exact RetB.f (fun (h : NChk6 N i x) => by
        rcases h with h | h
        · exact G.out h
        · exact H1.out h) (below_trans hb2 hb3)

theorem enter_n7 : Enters Tryz.prog 141 := enters_of Tryz.func141 (by kernel_rfl) rfl
set_option maxRecDepth 100000 in
set_option maxHeartbeats 1600000 in
theorem note71 (w : World) (y x : Note) (g h : Nat) (b off : Nat) (n c i : Nat) (hi : i < n) (h1 : Cell w g 1 (.slice (some ⟨b, off, none⟩) n c)) (h2 : Cell w h 0 (.int .i64 i)) (h3 : Cell w b (off + i * 10) (.int .i64 x.num)) :
    Calls Tryz.prog 141 #[.agg #[.int .i64 y.num, .int .i64 y.day, .int .u8 y.sg, .int .i64 y.d, .int .i64 y.l, .int .i64 y.fr, .int .i64 y.to, .int .i64 y.ca, .bool y.use, .int .u8 y.ways], .pointer (some ⟨g, 0, none⟩), .pointer (some ⟨h, 0, none⟩)] w (RetB (y.num = x.num) w) := by
  have hb1 := below_alloc w (.cells #[.int .i64 y.num, .int .i64 y.day, .int .u8 y.sg, .int .i64 y.d, .int .i64 y.l, .int .i64 y.fr, .int .i64 y.to, .int .i64 y.ca, .bool y.use, .int .u8 y.ways] 52)
  have LY := Lay.new w 52 #[.int .i64 y.num, .int .i64 y.day, .int .u8 y.sg, .int .i64 y.d, .int .i64 y.l, .int .i64 y.fr, .int .i64 y.to, .int .i64 y.ca, .bool y.use, .int .u8 y.ways]
  have k0 := cell_later (show Cell _ w.heap.size 0 (.int .i64 y.num) from LY.cell 0 _ rfl)
  have k1 := cell_later (cell_ext hb1 h1)
  have k2 := cell_later (cell_ext hb1 h2)
  have k3 := cell_later (cell_ext hb1 h3)
  have hil : (i : Int) < n := by omega
  go_enter Tryz.func141, Tryz.ntmps141
  go_wp2
  generalize w.alloc _ = w1 at *
  refine wp_region_grow_all 10 (by kernel_rfl) (by kernel_rfl) ?_
  simp only [List.take_succ_cons, List.take_zero]
  refine growAll_exact ?_; apply Exists.intro; refine ⟨fun vs xq hd => ?_, ?_⟩; focus ((try simp [Oper.waitsOn, Region.binds, List.filter_cons, List.filter_nil, factAt, depsHold] at hd); simp only [putsFrom, Act.put, List.setIfInBounds_toArray, List.set_cons_succ, List.set_cons_zero]; go_simp; first | exact ⟨Below.refl _ _, rfl⟩ | exact rfl)
  refine growAll_exact ?_; apply Exists.intro; refine ⟨fun vs xq hd => ?_, ?_⟩; focus ((try simp [Oper.waitsOn, Region.binds, List.filter_cons, List.filter_nil, factAt, depsHold] at hd); simp only [putsFrom, Act.put, List.setIfInBounds_toArray, List.set_cons_succ, List.set_cons_zero]; go_simp; first | exact ⟨Below.refl _ _, rfl⟩ | exact rfl)
  refine growAll_exact ?_; apply Exists.intro; refine ⟨fun vs xq hd => ?_, ?_⟩; focus ((try simp [Oper.waitsOn, Region.binds, List.filter_cons, List.filter_nil, factAt, depsHold] at hd); simp only [putsFrom, Act.put, List.setIfInBounds_toArray, List.set_cons_succ, List.set_cons_zero]; go_simp; first | exact ⟨Below.refl _ _, rfl⟩ | exact rfl)
  refine growAll_exact ?_; apply Exists.intro; refine ⟨fun vs xq hd => ?_, ?_⟩; focus ((try simp [Oper.waitsOn, Region.binds, List.filter_cons, List.filter_nil, factAt, depsHold] at hd); simp only [putsFrom, Act.put, List.setIfInBounds_toArray, List.set_cons_succ, List.set_cons_zero]; go_simp; first | exact ⟨Below.refl _ _, rfl⟩ | exact rfl)
  refine growAll_exact ?_; apply Exists.intro; refine ⟨fun vs xq hd => ?_, ?_⟩; focus ((try simp [Oper.waitsOn, Region.binds, List.filter_cons, List.filter_nil, factAt, depsHold] at hd); simp only [putsFrom, Act.put, List.setIfInBounds_toArray, List.set_cons_succ, List.set_cons_zero]; go_simp; first | exact ⟨Below.refl _ _, rfl⟩ | exact rfl)
  refine growAll_exact ?_; apply Exists.intro; refine ⟨fun vs xq hd => ?_, ?_⟩; focus ((try simp [Oper.waitsOn, Region.binds, List.filter_cons, List.filter_nil, factAt, depsHold] at hd); simp only [putsFrom, Act.put, List.setIfInBounds_toArray, List.set_cons_succ, List.set_cons_zero]; go_simp; first | exact ⟨Below.refl _ _, rfl⟩ | exact rfl)
  refine growAll_exact ?_; apply Exists.intro; refine ⟨fun vs xq hd => ?_, ?_⟩; focus ((try simp [Oper.waitsOn, Region.binds, List.filter_cons, List.filter_nil, factAt, depsHold] at hd); simp only [putsFrom, Act.put, List.setIfInBounds_toArray, List.set_cons_succ, List.set_cons_zero]; go_simp; first | exact ⟨Below.refl _ _, rfl⟩ | exact rfl)
  refine growAll_exact ?_; apply Exists.intro; refine ⟨fun vs xq hd => ?_, ?_⟩; focus ((try simp [Oper.waitsOn, Region.binds, List.filter_cons, List.filter_nil, factAt, depsHold] at hd); simp only [putsFrom, Act.put, List.setIfInBounds_toArray, List.set_cons_succ, List.set_cons_zero]; go_simp; first | exact ⟨Below.refl _ _, rfl⟩ | exact rfl)
  refine growAll_exact ?_; apply Exists.intro; refine ⟨fun vs xq hd => ?_, ?_⟩; focus ((try simp [Oper.waitsOn, Region.binds, List.filter_cons, List.filter_nil, factAt, depsHold] at hd); simp only [putsFrom, Act.put, List.setIfInBounds_toArray, List.set_cons_succ, List.set_cons_zero]; go_simp; first | exact ⟨Below.refl _ _, rfl⟩ | exact rfl)
  refine growAll_exact ?_; apply Exists.intro; refine ⟨fun vs xq hd => ?_, ?_⟩; focus ((try simp [Oper.waitsOn, Region.binds, List.filter_cons, List.filter_nil, factAt, depsHold] at hd); simp only [putsFrom, Act.put, List.setIfInBounds_toArray, List.set_cons_succ, List.set_cons_zero]; go_simp; first | exact ⟨Below.refl _ _, rfl⟩ | exact rfl)
  refine growAll_done rfl (fun vs xq hd => ?_)
  simp [depsHold, factAt, List.range, List.range.loop] at hd
  simp only [putsFrom, Act.put, List.setIfInBounds_toArray, List.set_cons_succ, List.set_cons_zero, List.drop_succ_cons, List.drop_zero]
  obtain ⟨_, _, _, _, _, _, _, _, _, e9⟩ := hd
  simp only [Nat.zero_add, Nat.reduceAdd] at e9 ⊢
  simp only [e9]
  clear k0 k1 k2 k3
  have hb := below_trans hb1 (below_later w1 xq)
  go_wp2
  go_ret
  exact ⟨y.num == x.num, rfl, beq_iff_eq, hb⟩

set_option maxRecDepth 100000 in
set_option maxHeartbeats 1600000 in
theorem ncheck7 (w : World) (vr vn : Value) (R : List Issue) (N : List Note) (i : Nat) (h : NoteArg w vr vn R N) (hi : i < N.length) :
    Calls Tryz.prog 140 #[.agg #[vr, vn], .int .i64 i] w (RetB (NChk7 N i N[i]) w) := by
  obtain ⟨ar, cr, rfl, _⟩ := sl_shape h.reg.sl
  obtain ⟨an, cn, rfl, hcn⟩ := h.cap
  obtain ⟨b, off, rfl, hx⟩ := (sl_at h.sl).2 i hi
  have QX := Lib.hid hx
  obtain ⟨⟨q0, q1, q2, q3, q4, q5, q6, q7, q8, q9⟩, hnum⟩ := hx
  have hlb := cell_lt q0
  generalize N[i] = x at *
  have hb1 := below_alloc w (.cells #[.slice ar R.length cr, .slice (some ⟨b, off, none⟩) N.length cn] 27)
  have LB := Lay.new w 27 #[.slice ar R.length cr, .slice (some ⟨b, off, none⟩) N.length cn]
  have HA := Lib.hid (h.ext hb1)
  have HI : Hid (i < N.length) := hi
  have hil : (i : Int) < N.length := by omega
  clear h
  unfold Cell at q0 q1 q2 q3 q4 q5 q6 q7 q8 q9
  have hb2 := below_trans hb1 (below_alloc _ (.cells #[.int .i64 i] 3))
  have LI := Lay.new (w.alloc (.cells #[.slice ar R.length cr, .slice (some ⟨b, off, none⟩) N.length cn] 27)) 3 #[.int .i64 i]
  rw [World.size_alloc] at LI
  have hic : (i : Int) ≤ cn := by omega
  have HSL := Lib.hid (sl_take (HA.out.ext (below_alloc _ (.cells #[.int .i64 i] 3))).sl i cn (by omega))
  have HB1 := Lib.hid (show Cell _ w.heap.size 1 (.slice (some ⟨b, off, none⟩) N.length cn) from (LB.alloc (.cells #[.int .i64 i] 3)).cell 1 _ rfl)
  have HB2 := Lib.hid (show Cell _ (w.heap.size + 1) 0 (.int .i64 i) from LI.cell 0 _ rfl)
  have HB3 := Lib.hid (cell_ext hb2 QX.out.1.1)
  clear LI LB
  go_enter Tryz.func140, Tryz.ntmps140
  go_wp2_with fail
  refine (containsFunc_note _ _ (N.take i) HSL.out 141 #[.pointer (some ⟨w.heap.size, 0, none⟩), .pointer (some ⟨w.heap.size + 1, 0, none⟩)] enter_n7 (fun y => y.num = x.num) (fun y hy w' hb => note71 w' y x _ _ b off _ cn i HI.out (cell_ext hb HB1.out) (cell_ext hb HB2.out) (cell_ext hb HB3.out))).mono ?_
  intro e w2 hh
  rcases hh.both with ⟨h1, rfl, hb3⟩ | ⟨h1, rfl, hb3⟩
  · have H1 := Lib.hid h1
    clear hh h1
    go_wp2
    go_ret
    exact RetB.f (fun (h : NChk7 N i x) => h H1.out) (below_trans hb2 hb3)
  · have H1 := Lib.hid h1
    clear hh h1
    go_wp2
    go_ret
    exact RetB.t (show NChk7 N i x from H1.out) (below_trans hb2 hb3)

def NChk8 (N : List Note) (i : Nat) (x : Note) : Prop := ∀ h0 : 0 < i, ∀ h : i - 1 < N.length, orI (cmpI N[i - 1].day x.day) (cmpI N[i - 1].num x.num) < 0
set_option maxRecDepth 100000 in
set_option maxHeartbeats 3200000 in
theorem ncheck8 (w : World) (vr vn : Value) (R : List Issue) (N : List Note) (i : Nat) (h : NoteArg w vr vn R N) (hi : i < N.length) :
    Calls Tryz.prog 142 #[.agg #[vr, vn], .int .i64 i] w (RetB (NChk8 N i N[i]) w) := by
  obtain ⟨ar, cr, rfl, _⟩ := sl_shape h.reg.sl
  obtain ⟨an, cn, rfl, hcn⟩ := h.cap
  obtain ⟨b, off, rfl, hx⟩ := (sl_at h.sl).2 i hi
  have QX := Lib.hid hx
  obtain ⟨⟨q0, q1, q2, q3, q4, q5, q6, q7, q8, q9⟩, hnum⟩ := hx
  have hlb := cell_lt q0
  generalize N[i] = x at *
  have hb1 := below_alloc w (.cells #[.slice ar R.length cr, .slice (some ⟨b, off, none⟩) N.length cn] 27)
  have LB := Lay.new w 27 #[.slice ar R.length cr, .slice (some ⟨b, off, none⟩) N.length cn]
  have HA := Lib.hid (h.ext hb1)
  have HI : Hid (i < N.length) := hi
  have hil : (i : Int) < N.length := by omega
  clear h
  unfold Cell at q0 q1 q2 q3 q4 q5 q6 q7 q8 q9
  have k1 := cell_later (show Cell _ w.heap.size 1 (.slice (some ⟨b, off, none⟩) N.length cn) from LB.cell 1 _ rfl)
  have QX1 := stays_note _ _ _ _ _ hb1 QX.out
  have x0 := cell_later QX1.1.1
  have x1 := cell_later QX1.1.2.1
  clear q0 q1 q2 q3 q4 q5 q6 q7 q8 q9
  go_enter Tryz.func142, Tryz.ntmps142
  by_cases h0 : i = 0
  · have H8 := Lib.hid (show NChk8 N i x from fun h => absurd h (by omega))
    subst h0
    go_wp2
    generalize w.alloc _ = w1 at *
    refine wp_region_grow_all 35 (by kernel_rfl) (by kernel_rfl) ?_
    simp only [List.take_succ_cons, List.take_zero]
    refine growAll_exact ?_; apply Exists.intro; refine ⟨fun vs xq hd => ?_, ?_⟩; focus ((try simp [Oper.waitsOn, Region.binds, List.filter_cons, List.filter_nil, factAt, depsHold] at hd); simp only [putsFrom, Act.put, List.setIfInBounds_toArray, List.set_cons_succ, List.set_cons_zero]; go_simp; first | exact ⟨Below.refl _ _, rfl⟩ | exact rfl)
    refine growAll_exact ?_; apply Exists.intro; refine ⟨fun vs xq hd => ?_, ?_⟩; focus ((try simp [Oper.waitsOn, Region.binds, List.filter_cons, List.filter_nil, factAt, depsHold] at hd); simp only [putsFrom, Act.put, List.setIfInBounds_toArray, List.set_cons_succ, List.set_cons_zero]; go_simp; first | exact ⟨Below.refl _ _, rfl⟩ | exact rfl)
    refine growAll_exact ?_; apply Exists.intro; refine ⟨fun vs xq hd => ?_, ?_⟩; focus ((try simp [Oper.waitsOn, Region.binds, List.filter_cons, List.filter_nil, factAt, depsHold] at hd); simp only [putsFrom, Act.put, List.setIfInBounds_toArray, List.set_cons_succ, List.set_cons_zero]; go_simp; first | exact ⟨Below.refl _ _, rfl⟩ | exact rfl)
    refine growAll_exact ?_; apply Exists.intro; refine ⟨fun vs xq hd => ?_, ?_⟩; focus ((try simp [Oper.waitsOn, Region.binds, List.filter_cons, List.filter_nil, factAt, depsHold] at hd); simp only [putsFrom, Act.put, List.setIfInBounds_toArray, List.set_cons_succ, List.set_cons_zero]; go_simp; first | exact ⟨Below.refl _ _, rfl⟩ | exact rfl)
    refine growAll_exact ?_; apply Exists.intro; refine ⟨fun vs xq hd => ?_, ?_⟩; focus ((try simp [Oper.waitsOn, Region.binds, List.filter_cons, List.filter_nil, factAt, depsHold] at hd); simp only [putsFrom, Act.put, List.setIfInBounds_toArray, List.set_cons_succ, List.set_cons_zero]; go_simp; first | exact ⟨Below.refl _ _, rfl⟩ | exact rfl)
    refine growAll_exact ?_; apply Exists.intro; refine ⟨fun vs xq hd => ?_, ?_⟩; focus ((try simp [Oper.waitsOn, Region.binds, List.filter_cons, List.filter_nil, factAt, depsHold] at hd); simp only [putsFrom, Act.put, List.setIfInBounds_toArray, List.set_cons_succ, List.set_cons_zero]; go_simp; first | exact ⟨Below.refl _ _, rfl⟩ | exact rfl)
    refine growAll_exact ?_; apply Exists.intro; refine ⟨fun vs xq hd => ?_, ?_⟩; focus ((try simp [Oper.waitsOn, Region.binds, List.filter_cons, List.filter_nil, factAt, depsHold] at hd); simp only [putsFrom, Act.put, List.setIfInBounds_toArray, List.set_cons_succ, List.set_cons_zero]; go_simp; first | exact ⟨Below.refl _ _, rfl⟩ | exact rfl)
    refine growAll_exact ?_; apply Exists.intro; refine ⟨fun vs xq hd => ?_, ?_⟩; focus ((try simp [Oper.waitsOn, Region.binds, List.filter_cons, List.filter_nil, factAt, depsHold] at hd); simp only [putsFrom, Act.put, List.setIfInBounds_toArray, List.set_cons_succ, List.set_cons_zero]; go_simp; first | exact ⟨Below.refl _ _, rfl⟩ | exact rfl)
    refine growAll_exact ?_; apply Exists.intro; refine ⟨fun vs xq hd => ?_, ?_⟩; focus ((try simp [Oper.waitsOn, Region.binds, List.filter_cons, List.filter_nil, factAt, depsHold] at hd); simp only [putsFrom, Act.put, List.setIfInBounds_toArray, List.set_cons_succ, List.set_cons_zero]; go_simp; first | exact ⟨Below.refl _ _, rfl⟩ | exact rfl)
    refine growAll_exact ?_; apply Exists.intro; refine ⟨fun vs xq hd => ?_, ?_⟩; focus ((try simp [Oper.waitsOn, Region.binds, List.filter_cons, List.filter_nil, factAt, depsHold] at hd); simp only [putsFrom, Act.put, List.setIfInBounds_toArray, List.set_cons_succ, List.set_cons_zero]; go_simp; first | exact ⟨Below.refl _ _, rfl⟩ | exact rfl)
    refine growAll_exact ?_; apply Exists.intro; refine ⟨fun vs xq hd => ?_, ?_⟩; focus ((try simp [Oper.waitsOn, Region.binds, List.filter_cons, List.filter_nil, factAt, depsHold] at hd); simp only [putsFrom, Act.put, List.setIfInBounds_toArray, List.set_cons_succ, List.set_cons_zero]; go_simp; first | exact ⟨Below.refl _ _, rfl⟩ | exact rfl)
    refine growAll_exact ?_; apply Exists.intro; refine ⟨fun vs xq hd => ?_, ?_⟩; focus ((try simp [Oper.waitsOn, Region.binds, List.filter_cons, List.filter_nil, factAt, depsHold] at hd); simp only [putsFrom, Act.put, List.setIfInBounds_toArray, List.set_cons_succ, List.set_cons_zero]; go_simp; first | exact ⟨Below.refl _ _, rfl⟩ | exact rfl)
    refine growAll_exact ?_; apply Exists.intro; refine ⟨fun vs xq hd => ?_, ?_⟩; focus ((try simp [Oper.waitsOn, Region.binds, List.filter_cons, List.filter_nil, factAt, depsHold] at hd); simp only [putsFrom, Act.put, List.setIfInBounds_toArray, List.set_cons_succ, List.set_cons_zero]; go_simp; first | exact ⟨Below.refl _ _, rfl⟩ | exact rfl)
    refine growAll_exact ?_; apply Exists.intro; refine ⟨fun vs xq hd => ?_, ?_⟩; focus ((try simp [Oper.waitsOn, Region.binds, List.filter_cons, List.filter_nil, factAt, depsHold] at hd); simp only [putsFrom, Act.put, List.setIfInBounds_toArray, List.set_cons_succ, List.set_cons_zero]; go_simp; first | exact ⟨Below.refl _ _, rfl⟩ | exact rfl)
    refine growAll_exact ?_; apply Exists.intro; refine ⟨fun vs xq hd => ?_, ?_⟩; focus ((try simp [Oper.waitsOn, Region.binds, List.filter_cons, List.filter_nil, factAt, depsHold] at hd); simp only [putsFrom, Act.put, List.setIfInBounds_toArray, List.set_cons_succ, List.set_cons_zero]; go_simp; first | exact ⟨Below.refl _ _, rfl⟩ | exact rfl)
    refine growAll_exact ?_; apply Exists.intro; refine ⟨fun vs xq hd => ?_, ?_⟩; focus ((try simp [Oper.waitsOn, Region.binds, List.filter_cons, List.filter_nil, factAt, depsHold] at hd); simp only [putsFrom, Act.put, List.setIfInBounds_toArray, List.set_cons_succ, List.set_cons_zero]; go_simp; first | exact ⟨Below.refl _ _, rfl⟩ | exact rfl)
    refine growAll_exact ?_; apply Exists.intro; refine ⟨fun vs xq hd => ?_, ?_⟩; focus ((try simp [Oper.waitsOn, Region.binds, List.filter_cons, List.filter_nil, factAt, depsHold] at hd); simp only [putsFrom, Act.put, List.setIfInBounds_toArray, List.set_cons_succ, List.set_cons_zero]; go_simp; first | exact ⟨Below.refl _ _, rfl⟩ | exact rfl)
    refine growAll_exact ?_; apply Exists.intro; refine ⟨fun vs xq hd => ?_, ?_⟩; focus ((try simp [Oper.waitsOn, Region.binds, List.filter_cons, List.filter_nil, factAt, depsHold] at hd); simp only [putsFrom, Act.put, List.setIfInBounds_toArray, List.set_cons_succ, List.set_cons_zero]; go_simp; first | exact ⟨Below.refl _ _, rfl⟩ | exact rfl)
    refine growAll_exact ?_; apply Exists.intro; refine ⟨fun vs xq hd => ?_, ?_⟩; focus ((try simp [Oper.waitsOn, Region.binds, List.filter_cons, List.filter_nil, factAt, depsHold] at hd); simp only [putsFrom, Act.put, List.setIfInBounds_toArray, List.set_cons_succ, List.set_cons_zero]; go_simp; first | exact ⟨Below.refl _ _, rfl⟩ | exact rfl)
    refine growAll_exact ?_; apply Exists.intro; refine ⟨fun vs xq hd => ?_, ?_⟩; focus ((try simp [Oper.waitsOn, Region.binds, List.filter_cons, List.filter_nil, factAt, depsHold] at hd); simp only [putsFrom, Act.put, List.setIfInBounds_toArray, List.set_cons_succ, List.set_cons_zero]; go_simp; first | exact ⟨Below.refl _ _, rfl⟩ | exact rfl)
    refine growAll_exact ?_; apply Exists.intro; refine ⟨fun vs xq hd => ?_, ?_⟩; focus ((try simp [Oper.waitsOn, Region.binds, List.filter_cons, List.filter_nil, factAt, depsHold] at hd); simp only [putsFrom, Act.put, List.setIfInBounds_toArray, List.set_cons_succ, List.set_cons_zero]; go_simp; first | exact ⟨Below.refl _ _, rfl⟩ | exact rfl)
    refine growAll_exact ?_; apply Exists.intro; refine ⟨fun vs xq hd => ?_, ?_⟩; focus ((try simp [Oper.waitsOn, Region.binds, List.filter_cons, List.filter_nil, factAt, depsHold] at hd); simp only [putsFrom, Act.put, List.setIfInBounds_toArray, List.set_cons_succ, List.set_cons_zero]; go_simp; first | exact ⟨Below.refl _ _, rfl⟩ | exact rfl)
    refine growAll_exact ?_; apply Exists.intro; refine ⟨fun vs xq hd => ?_, ?_⟩; focus ((try simp [Oper.waitsOn, Region.binds, List.filter_cons, List.filter_nil, factAt, depsHold] at hd); simp only [putsFrom, Act.put, List.setIfInBounds_toArray, List.set_cons_succ, List.set_cons_zero]; go_simp; first | exact ⟨Below.refl _ _, rfl⟩ | exact rfl)
    refine growAll_exact ?_; apply Exists.intro; refine ⟨fun vs xq hd => ?_, ?_⟩; focus ((try simp [Oper.waitsOn, Region.binds, List.filter_cons, List.filter_nil, factAt, depsHold] at hd); simp only [putsFrom, Act.put, List.setIfInBounds_toArray, List.set_cons_succ, List.set_cons_zero]; go_simp; first | exact ⟨Below.refl _ _, rfl⟩ | exact rfl)
    refine growAll_exact ?_; apply Exists.intro; refine ⟨fun vs xq hd => ?_, ?_⟩; focus ((try simp [Oper.waitsOn, Region.binds, List.filter_cons, List.filter_nil, factAt, depsHold] at hd); simp only [putsFrom, Act.put, List.setIfInBounds_toArray, List.set_cons_succ, List.set_cons_zero]; go_simp; first | exact ⟨Below.refl _ _, rfl⟩ | exact rfl)
    refine growAll_exact ?_; apply Exists.intro; refine ⟨fun vs xq hd => ?_, ?_⟩; focus ((try simp [Oper.waitsOn, Region.binds, List.filter_cons, List.filter_nil, factAt, depsHold] at hd); simp only [putsFrom, Act.put, List.setIfInBounds_toArray, List.set_cons_succ, List.set_cons_zero]; go_simp; first | exact ⟨Below.refl _ _, rfl⟩ | exact rfl)
    refine growAll_exact ?_; apply Exists.intro; refine ⟨fun vs xq hd => ?_, ?_⟩; focus ((try simp [Oper.waitsOn, Region.binds, List.filter_cons, List.filter_nil, factAt, depsHold] at hd); simp only [putsFrom, Act.put, List.setIfInBounds_toArray, List.set_cons_succ, List.set_cons_zero]; go_simp; first | exact ⟨Below.refl _ _, rfl⟩ | exact rfl)
    refine growAll_exact ?_; apply Exists.intro; refine ⟨fun vs xq hd => ?_, ?_⟩; focus ((try simp [Oper.waitsOn, Region.binds, List.filter_cons, List.filter_nil, factAt, depsHold] at hd); simp only [putsFrom, Act.put, List.setIfInBounds_toArray, List.set_cons_succ, List.set_cons_zero]; go_simp; first | exact ⟨Below.refl _ _, rfl⟩ | exact rfl)
    refine growAll_exact ?_; apply Exists.intro; refine ⟨fun vs xq hd => ?_, ?_⟩; focus ((try simp [Oper.waitsOn, Region.binds, List.filter_cons, List.filter_nil, factAt, depsHold] at hd); simp only [putsFrom, Act.put, List.setIfInBounds_toArray, List.set_cons_succ, List.set_cons_zero]; go_simp; first | exact ⟨Below.refl _ _, rfl⟩ | exact rfl)
    refine growAll_exact ?_; apply Exists.intro; refine ⟨fun vs xq hd => ?_, ?_⟩; focus ((try simp [Oper.waitsOn, Region.binds, List.filter_cons, List.filter_nil, factAt, depsHold] at hd); simp only [putsFrom, Act.put, List.setIfInBounds_toArray, List.set_cons_succ, List.set_cons_zero]; go_simp; first | exact ⟨Below.refl _ _, rfl⟩ | exact rfl)
    refine growAll_exact ?_; apply Exists.intro; refine ⟨fun vs xq hd => ?_, ?_⟩; focus ((try simp [Oper.waitsOn, Region.binds, List.filter_cons, List.filter_nil, factAt, depsHold] at hd); simp only [putsFrom, Act.put, List.setIfInBounds_toArray, List.set_cons_succ, List.set_cons_zero]; go_simp; first | exact ⟨Below.refl _ _, rfl⟩ | exact rfl)
    refine growAll_exact ?_; apply Exists.intro; refine ⟨fun vs xq hd => ?_, ?_⟩; focus ((try simp [Oper.waitsOn, Region.binds, List.filter_cons, List.filter_nil, factAt, depsHold] at hd); simp only [putsFrom, Act.put, List.setIfInBounds_toArray, List.set_cons_succ, List.set_cons_zero]; go_simp; first | exact ⟨Below.refl _ _, rfl⟩ | exact rfl)
    refine growAll_exact ?_; apply Exists.intro; refine ⟨fun vs xq hd => ?_, ?_⟩; focus ((try simp [Oper.waitsOn, Region.binds, List.filter_cons, List.filter_nil, factAt, depsHold] at hd); simp only [putsFrom, Act.put, List.setIfInBounds_toArray, List.set_cons_succ, List.set_cons_zero]; go_simp; first | exact ⟨Below.refl _ _, rfl⟩ | exact rfl)
    refine growAll_exact ?_; apply Exists.intro; refine ⟨fun vs xq hd => ?_, ?_⟩; focus ((try simp [Oper.waitsOn, Region.binds, List.filter_cons, List.filter_nil, factAt, depsHold] at hd); simp only [putsFrom, Act.put, List.setIfInBounds_toArray, List.set_cons_succ, List.set_cons_zero]; go_simp; first | exact ⟨Below.refl _ _, rfl⟩ | exact rfl)
    refine growAll_exact ?_; apply Exists.intro; refine ⟨fun vs xq hd => ?_, ?_⟩; focus ((try simp [Oper.waitsOn, Region.binds, List.filter_cons, List.filter_nil, factAt, depsHold] at hd); simp only [putsFrom, Act.put, List.setIfInBounds_toArray, List.set_cons_succ, List.set_cons_zero]; go_simp; first | exact ⟨Below.refl _ _, rfl⟩ | exact rfl)
    refine growAll_done (by simp only [List.length_append, List.length_cons, List.length_nil]) (fun vs xq hd => ?_)
    simp [depsHold, factAt, List.range, List.range.loop] at hd
    simp only [putsFrom, Act.put, List.setIfInBounds_toArray, List.set_cons_succ, List.set_cons_zero, List.drop_succ_cons, List.drop_zero]
    obtain ⟨_, _, _, _, _, _, _, _, _, _, _, _, _, _, _, _, _, _, _, _, _, _, _, _, _, _, _, _, _, _, _, _, _, _, e34⟩ := hd
    simp only [Nat.zero_add, Nat.reduceAdd] at e34 ⊢
    simp only [e34]
    clear k1 x0 x1
    have hb := below_trans hb1 (below_later w1 xq)
    go_wp2
    go_ret
    exact RetB.t H8.out hb
  · obtain ⟨b', off', hh, ⟨y0, y1, _⟩, hnum2⟩ := (sl_at HA.out.sl).2 (i - 1) (by omega)
    cases hh
    have H8 : Hid (NChk8 N i x ↔ orI (cmpI N[i - 1].day x.day) (cmpI N[i - 1].num x.num) < 0) := ⟨fun h => h (by omega) (by omega), fun h _ _ => h⟩
    have hz : IntKind.i64.wrap ((i : Int) - 1) = ((i - 1 : Nat) : Int) := by rw [IntWalk.i64_in _ (by have := HA.out.sl; obtain ⟨_, _, _, hm, _⟩ := this; omega)]; omega
    have hz2 : ((i - 1 : Nat) : Int) < N.length := by omega
    have hi0 : ((i : Int) == 0) = false := by simp [h0]
    generalize N[i - 1] = y at *
    have y0 := cell_later y0
    have y1 := cell_later y1
    clear h0 QX1
    go_wp2
    generalize w.alloc _ = w1 at *
    refine wp_region_grow_all 35 (by kernel_rfl) (by kernel_rfl) ?_
    simp only [List.take_succ_cons, List.take_zero]
    refine growAll_exact ?_; apply Exists.intro; refine ⟨fun vs xq hd => ?_, ?_⟩; focus ((try simp [Oper.waitsOn, Region.binds, List.filter_cons, List.filter_nil, factAt, depsHold] at hd); simp only [putsFrom, Act.put, List.setIfInBounds_toArray, List.set_cons_succ, List.set_cons_zero]; go_simp; first | exact ⟨Below.refl _ _, rfl⟩ | exact rfl)
    refine growAll_exact ?_; apply Exists.intro; refine ⟨fun vs xq hd => ?_, ?_⟩; focus ((try simp [Oper.waitsOn, Region.binds, List.filter_cons, List.filter_nil, factAt, depsHold] at hd); simp only [putsFrom, Act.put, List.setIfInBounds_toArray, List.set_cons_succ, List.set_cons_zero]; go_simp; first | exact ⟨Below.refl _ _, rfl⟩ | exact rfl)
    refine growAll_exact ?_; apply Exists.intro; refine ⟨fun vs xq hd => ?_, ?_⟩; focus ((try simp [Oper.waitsOn, Region.binds, List.filter_cons, List.filter_nil, factAt, depsHold] at hd); simp only [putsFrom, Act.put, List.setIfInBounds_toArray, List.set_cons_succ, List.set_cons_zero]; go_simp; first | exact ⟨Below.refl _ _, rfl⟩ | exact rfl)
    refine growAll_exact ?_; apply Exists.intro; refine ⟨fun vs xq hd => ?_, ?_⟩; focus ((try simp [Oper.waitsOn, Region.binds, List.filter_cons, List.filter_nil, factAt, depsHold] at hd); simp only [putsFrom, Act.put, List.setIfInBounds_toArray, List.set_cons_succ, List.set_cons_zero]; go_simp; first | exact ⟨Below.refl _ _, rfl⟩ | exact rfl)
    refine growAll_exact ?_; apply Exists.intro; refine ⟨fun vs xq hd => ?_, ?_⟩; focus ((try simp [Oper.waitsOn, Region.binds, List.filter_cons, List.filter_nil, factAt, depsHold] at hd); simp only [putsFrom, Act.put, List.setIfInBounds_toArray, List.set_cons_succ, List.set_cons_zero]; go_simp; first | exact ⟨Below.refl _ _, rfl⟩ | exact rfl)
    refine growAll_exact ?_; apply Exists.intro; refine ⟨fun vs xq hd => ?_, ?_⟩; focus ((try simp [Oper.waitsOn, Region.binds, List.filter_cons, List.filter_nil, factAt, depsHold] at hd); simp only [putsFrom, Act.put, List.setIfInBounds_toArray, List.set_cons_succ, List.set_cons_zero]; go_simp; first | exact ⟨Below.refl _ _, rfl⟩ | exact rfl)
    refine growAll_exact ?_; apply Exists.intro; refine ⟨fun vs xq hd => ?_, ?_⟩; focus ((try simp [Oper.waitsOn, Region.binds, List.filter_cons, List.filter_nil, factAt, depsHold] at hd); simp only [putsFrom, Act.put, List.setIfInBounds_toArray, List.set_cons_succ, List.set_cons_zero]; go_simp; first | exact ⟨Below.refl _ _, rfl⟩ | exact rfl)
    refine growAll_exact ?_; apply Exists.intro; refine ⟨fun vs xq hd => ?_, ?_⟩; focus ((try simp [Oper.waitsOn, Region.binds, List.filter_cons, List.filter_nil, factAt, depsHold] at hd); simp only [putsFrom, Act.put, List.setIfInBounds_toArray, List.set_cons_succ, List.set_cons_zero]; go_simp; first | exact ⟨Below.refl _ _, rfl⟩ | exact rfl)
    refine growAll_exact ?_; apply Exists.intro; refine ⟨fun vs xq hd => ?_, ?_⟩; focus ((try simp [Oper.waitsOn, Region.binds, List.filter_cons, List.filter_nil, factAt, depsHold] at hd); simp only [putsFrom, Act.put, List.setIfInBounds_toArray, List.set_cons_succ, List.set_cons_zero]; go_simp; first | exact ⟨Below.refl _ _, rfl⟩ | exact rfl)
    refine growAll_exact ?_; apply Exists.intro; refine ⟨fun vs xq hd => ?_, ?_⟩; focus ((try simp [Oper.waitsOn, Region.binds, List.filter_cons, List.filter_nil, factAt, depsHold] at hd); simp only [putsFrom, Act.put, List.setIfInBounds_toArray, List.set_cons_succ, List.set_cons_zero]; go_simp; first | exact ⟨Below.refl _ _, rfl⟩ | exact rfl)
    refine growAll_exact ?_; apply Exists.intro; refine ⟨fun vs xq hd => ?_, ?_⟩; focus ((try simp [Oper.waitsOn, Region.binds, List.filter_cons, List.filter_nil, factAt, depsHold] at hd); simp only [putsFrom, Act.put, List.setIfInBounds_toArray, List.set_cons_succ, List.set_cons_zero]; go_simp; first | exact ⟨Below.refl _ _, rfl⟩ | exact rfl)
    refine growAll_exact ?_; apply Exists.intro; refine ⟨fun vs xq hd => ?_, ?_⟩; focus ((try simp [Oper.waitsOn, Region.binds, List.filter_cons, List.filter_nil, factAt, depsHold] at hd); simp only [putsFrom, Act.put, List.setIfInBounds_toArray, List.set_cons_succ, List.set_cons_zero]; go_simp; first | exact ⟨Below.refl _ _, rfl⟩ | exact rfl)
    refine growAll_exact ?_; apply Exists.intro; refine ⟨fun vs xq hd => ?_, ?_⟩; focus ((try simp [Oper.waitsOn, Region.binds, List.filter_cons, List.filter_nil, factAt, depsHold] at hd); simp only [putsFrom, Act.put, List.setIfInBounds_toArray, List.set_cons_succ, List.set_cons_zero]; go_simp; first | exact ⟨Below.refl _ _, rfl⟩ | exact rfl)
    refine growAll_exact ?_; apply Exists.intro; refine ⟨fun vs xq hd => ?_, ?_⟩; focus ((try simp [Oper.waitsOn, Region.binds, List.filter_cons, List.filter_nil, factAt, depsHold] at hd); simp only [putsFrom, Act.put, List.setIfInBounds_toArray, List.set_cons_succ, List.set_cons_zero]; go_simp; first | exact ⟨Below.refl _ _, rfl⟩ | exact rfl)
    refine growAll_exact ?_; apply Exists.intro; refine ⟨fun vs xq hd => ?_, ?_⟩; focus ((try simp [Oper.waitsOn, Region.binds, List.filter_cons, List.filter_nil, factAt, depsHold] at hd); simp only [putsFrom, Act.put, List.setIfInBounds_toArray, List.set_cons_succ, List.set_cons_zero]; go_simp; first | exact ⟨Below.refl _ _, rfl⟩ | exact rfl)
    refine growAll_exact ?_; apply Exists.intro; refine ⟨fun vs xq hd => ?_, ?_⟩; focus ((try simp [Oper.waitsOn, Region.binds, List.filter_cons, List.filter_nil, factAt, depsHold] at hd); simp only [putsFrom, Act.put, List.setIfInBounds_toArray, List.set_cons_succ, List.set_cons_zero]; go_simp; first | exact ⟨Below.refl _ _, rfl⟩ | exact rfl)
    refine growAll_exact ?_; apply Exists.intro; refine ⟨fun vs xq hd => ?_, ?_⟩; focus ((try simp [Oper.waitsOn, Region.binds, List.filter_cons, List.filter_nil, factAt, depsHold] at hd); simp only [putsFrom, Act.put, List.setIfInBounds_toArray, List.set_cons_succ, List.set_cons_zero]; go_simp; first | exact ⟨Below.refl _ _, rfl⟩ | exact rfl | (refine (compare_int _ _ _).mono ?_; rintro e w' ⟨rfl, rfl⟩; exact ⟨rfl, Below.refl _ _⟩))
    refine growAll_exact ?_; apply Exists.intro; refine ⟨fun vs xq hd => ?_, ?_⟩; focus ((try simp [Oper.waitsOn, Region.binds, List.filter_cons, List.filter_nil, factAt, depsHold] at hd); simp only [putsFrom, Act.put, List.setIfInBounds_toArray, List.set_cons_succ, List.set_cons_zero]; go_simp; first | exact ⟨Below.refl _ _, rfl⟩ | exact rfl)
    refine growAll_exact ?_; apply Exists.intro; refine ⟨fun vs xq hd => ?_, ?_⟩; focus ((try simp [Oper.waitsOn, Region.binds, List.filter_cons, List.filter_nil, factAt, depsHold] at hd); simp only [putsFrom, Act.put, List.setIfInBounds_toArray, List.set_cons_succ, List.set_cons_zero]; go_simp; first | exact ⟨Below.refl _ _, rfl⟩ | exact rfl)
    refine growAll_exact ?_; apply Exists.intro; refine ⟨fun vs xq hd => ?_, ?_⟩; focus ((try simp [Oper.waitsOn, Region.binds, List.filter_cons, List.filter_nil, factAt, depsHold] at hd); simp only [putsFrom, Act.put, List.setIfInBounds_toArray, List.set_cons_succ, List.set_cons_zero]; go_simp; first | exact ⟨Below.refl _ _, rfl⟩ | exact rfl)
    refine growAll_exact ?_; apply Exists.intro; refine ⟨fun vs xq hd => ?_, ?_⟩; focus ((try simp [Oper.waitsOn, Region.binds, List.filter_cons, List.filter_nil, factAt, depsHold] at hd); simp only [putsFrom, Act.put, List.setIfInBounds_toArray, List.set_cons_succ, List.set_cons_zero]; go_simp; first | exact ⟨Below.refl _ _, rfl⟩ | exact rfl)
    refine growAll_exact ?_; apply Exists.intro; refine ⟨fun vs xq hd => ?_, ?_⟩; focus ((try simp [Oper.waitsOn, Region.binds, List.filter_cons, List.filter_nil, factAt, depsHold] at hd); simp only [putsFrom, Act.put, List.setIfInBounds_toArray, List.set_cons_succ, List.set_cons_zero]; go_simp; first | exact ⟨Below.refl _ _, rfl⟩ | exact rfl)
    refine growAll_exact ?_; apply Exists.intro; refine ⟨fun vs xq hd => ?_, ?_⟩; focus ((try simp [Oper.waitsOn, Region.binds, List.filter_cons, List.filter_nil, factAt, depsHold] at hd); simp only [putsFrom, Act.put, List.setIfInBounds_toArray, List.set_cons_succ, List.set_cons_zero]; go_simp; first | exact ⟨Below.refl _ _, rfl⟩ | exact rfl)
    refine growAll_exact ?_; apply Exists.intro; refine ⟨fun vs xq hd => ?_, ?_⟩; focus ((try simp [Oper.waitsOn, Region.binds, List.filter_cons, List.filter_nil, factAt, depsHold] at hd); simp only [putsFrom, Act.put, List.setIfInBounds_toArray, List.set_cons_succ, List.set_cons_zero]; go_simp; first | exact ⟨Below.refl _ _, rfl⟩ | exact rfl)
    refine growAll_exact ?_; apply Exists.intro; refine ⟨fun vs xq hd => ?_, ?_⟩; focus ((try simp [Oper.waitsOn, Region.binds, List.filter_cons, List.filter_nil, factAt, depsHold] at hd); simp only [putsFrom, Act.put, List.setIfInBounds_toArray, List.set_cons_succ, List.set_cons_zero]; go_simp; first | exact ⟨Below.refl _ _, rfl⟩ | exact rfl)
    refine growAll_exact ?_; apply Exists.intro; refine ⟨fun vs xq hd => ?_, ?_⟩; focus ((try simp [Oper.waitsOn, Region.binds, List.filter_cons, List.filter_nil, factAt, depsHold] at hd); simp only [putsFrom, Act.put, List.setIfInBounds_toArray, List.set_cons_succ, List.set_cons_zero]; go_simp; first | exact ⟨Below.refl _ _, rfl⟩ | exact rfl)
    refine growAll_exact ?_; apply Exists.intro; refine ⟨fun vs xq hd => ?_, ?_⟩; focus ((try simp [Oper.waitsOn, Region.binds, List.filter_cons, List.filter_nil, factAt, depsHold] at hd); simp only [putsFrom, Act.put, List.setIfInBounds_toArray, List.set_cons_succ, List.set_cons_zero]; go_simp; first | exact ⟨Below.refl _ _, rfl⟩ | exact rfl)
    refine growAll_exact ?_; apply Exists.intro; refine ⟨fun vs xq hd => ?_, ?_⟩; focus ((try simp [Oper.waitsOn, Region.binds, List.filter_cons, List.filter_nil, factAt, depsHold] at hd); simp only [putsFrom, Act.put, List.setIfInBounds_toArray, List.set_cons_succ, List.set_cons_zero]; go_simp; first | exact ⟨Below.refl _ _, rfl⟩ | exact rfl)
    refine growAll_exact ?_; apply Exists.intro; refine ⟨fun vs xq hd => ?_, ?_⟩; focus ((try simp [Oper.waitsOn, Region.binds, List.filter_cons, List.filter_nil, factAt, depsHold] at hd); simp only [putsFrom, Act.put, List.setIfInBounds_toArray, List.set_cons_succ, List.set_cons_zero]; go_simp; first | exact ⟨Below.refl _ _, rfl⟩ | exact rfl)
    refine growAll_exact ?_; apply Exists.intro; refine ⟨fun vs xq hd => ?_, ?_⟩; focus ((try simp [Oper.waitsOn, Region.binds, List.filter_cons, List.filter_nil, factAt, depsHold] at hd); simp only [putsFrom, Act.put, List.setIfInBounds_toArray, List.set_cons_succ, List.set_cons_zero]; go_simp; first | exact ⟨Below.refl _ _, rfl⟩ | exact rfl)
    refine growAll_exact ?_; apply Exists.intro; refine ⟨fun vs xq hd => ?_, ?_⟩; focus ((try simp [Oper.waitsOn, Region.binds, List.filter_cons, List.filter_nil, factAt, depsHold] at hd); simp only [putsFrom, Act.put, List.setIfInBounds_toArray, List.set_cons_succ, List.set_cons_zero]; go_simp; first | exact ⟨Below.refl _ _, rfl⟩ | exact rfl | (refine (compare_int _ _ _).mono ?_; rintro e w' ⟨rfl, rfl⟩; exact ⟨rfl, Below.refl _ _⟩))
    refine growAll_step (RowTwo (cmpI y.day x.day) (cmpI y.num x.num)) (rowTwo_stays _ _) ?_ ?_
    · intro vs xq hd
      (try simp [Oper.waitsOn, Region.binds, List.filter_cons, List.filter_nil, factAt, depsHold] at hd)
      simp only [putsFrom, Act.put, List.setIfInBounds_toArray, List.set_cons_succ, List.set_cons_zero]
      go_simp
      exact ⟨below_alloc _ _, _, rfl, new_cell _ _ _ 0 _ rfl, new_cell _ _ _ 1 _ rfl⟩
    refine growAll_step (fun v _ => v = .int .i64 (orI (cmpI y.day x.day) (cmpI y.num x.num))) (fun _ _ _ _ h => h) ?_ ?_
    · intro vs xq hd
      (try simp [Oper.waitsOn, Region.binds, List.filter_cons, List.filter_nil, factAt, depsHold] at hd)
      simp only [putsFrom, Act.put, List.setIfInBounds_toArray, List.set_cons_succ, List.set_cons_zero]
      obtain ⟨⟨bb, e, hc⟩, -, eg⟩ := hd
      simp only [e, eg]
      go_simp
      refine (or_int _ _ _ bb hc).mono ?_
      rintro e w' ⟨rfl, rfl⟩
      exact ⟨rfl, Below.refl _ _⟩
    refine growAll_exact ?_; apply Exists.intro; refine ⟨fun vs xq hd => ?_, ?_⟩; focus ((try simp [Oper.waitsOn, Region.binds, List.filter_cons, List.filter_nil, factAt, depsHold] at hd); simp only [putsFrom, Act.put, List.setIfInBounds_toArray, List.set_cons_succ, List.set_cons_zero]; go_simp; first | exact ⟨Below.refl _ _, rfl⟩ | exact rfl)
    refine growAll_exact ?_; apply Exists.intro; refine ⟨fun vs xq hd => ?_, ?_⟩; focus ((try simp [Oper.waitsOn, Region.binds, List.filter_cons, List.filter_nil, factAt, depsHold] at hd); simp only [putsFrom, Act.put, List.setIfInBounds_toArray, List.set_cons_succ, List.set_cons_zero]; go_simp; first | exact ⟨Below.refl _ _, rfl⟩ | exact rfl)
    refine growAll_done (by simp only [List.length_append, List.length_cons, List.length_nil]) (fun vs xq hd => ?_)
    simp [depsHold, factAt, List.range, List.range.loop] at hd
    simp only [putsFrom, Act.put, List.setIfInBounds_toArray, List.set_cons_succ, List.set_cons_zero, List.drop_succ_cons, List.drop_zero]
    obtain ⟨_, _, _, _, _, _, _, _, _, _, _, _, _, _, _, _, _, _, _, _, _, _, _, _, _, _, _, _, _, _, _, _, _, _, e34⟩ := hd
    simp only [Nat.zero_add, Nat.reduceAdd] at e34 ⊢
    simp only [e34]
    clear k1 x0 x1 y0 y1
    have hb := below_trans hb1 (below_later w1 xq)
    generalize orI (cmpI y.day x.day) (cmpI y.num x.num) = c at *
    go_wp2
    go_ret
    exact ⟨decide (c < 0), rfl, by rw [decide_eq_true_iff]; exact H8.out.symm, hb⟩

end Go.Proofs.YtoibnhkiedpkgaaGreatDoor
