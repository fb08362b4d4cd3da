/- The program's look at an issue by itself. -/
import Derived.Test.YtoibnhkiedpkgaaGreatDoorM01
import Derived.Test.YtoibnhkiedpkgaaGreatDoorM09
set_option linter.unusedVariables false
set_option linter.unusedSimpArgs false
set_option linter.all false

namespace Go.Proofs.YtoibnhkiedpkgaaGreatDoor
open Go.RowKit Go.Shelf
attribute [local go_sem] stepOk Oper.grows Oper.growUpon

/-- A new row of one number. -/
def RowOne (x : Int) (v : Value) (w : World) : Prop := ∃ b, v = .slice (some ⟨b, 0, none⟩) 1 1 ∧ Cell w b 0 (.int .i64 x)
theorem rowOne_stays (x : Int) : StaysV (RowOne x) := fun _ _ _ hb ⟨b, h, hc⟩ => ⟨b, h, cell_ext hb hc⟩
theorem inB_out {n lo hi : Int} (h : ¬ In n lo hi) : inB n lo hi = false := by
  by_cases e : inB n lo hi = true
  · exact (h (inB_t e)).elim
  · simpa using e
theorem inB_in {n lo hi : Int} (h : In n lo hi) : inB n lo hi = true := by unfold inB; simpa [In] using h
theorem in_sheet1 (w : World) (lo hi x : Int) (v : Value) (h : RowOne x v w) (hx : I64 x) :
    Calls Tryz.prog 77 #[.int .i64 lo, .int .i64 hi, v] w fun e w' => e = .returned (.bool (inB x lo hi)) ∧ Below w.heap.size w w' := by
  obtain ⟨b, rfl, hc⟩ := h
  refine (in_sheet w lo hi _ [x] (sl_row1 hc hx)).mono ?_
  intro e w' h
  rcases h.both with ⟨g1, rfl, hb⟩ | ⟨g1, rfl, hb⟩
  · exact ⟨ret_bool (inB_in (g1 x (by simp))).symm, hb⟩
  · exact ⟨ret_bool (inB_out (fun h => g1 (fun y hy => by simp at hy; rw [hy]; exact h))).symm, hb⟩

structure IssBox (w : World) (g : Nat) (x : Issue) (ai ad : Option Addr) (ci cd : Nat) : Prop where
  c0 : Cell w g 0 (.int .i64 x.d)
  c1 : Cell w g 1 (.int .i64 x.l)
  c2 : Cell w g 2 (.int .u8 x.k)
  c3 : Cell w g 3 (.slice ai x.items.length ci)
  c4 : Cell w g 4 (.slice ad x.dims.length cd)
theorem IssBox.ext {w w' : World} {g : Nat} {x : Issue} {ai ad : Option Addr} {ci cd : Nat} (hb : Below w.heap.size w w') (h : IssBox w g x ai ad ci cd) : IssBox w' g x ai ad ci cd :=
  ⟨cell_ext hb h.c0, cell_ext hb h.c1, cell_ext hb h.c2, cell_ext hb h.c3, cell_ext hb h.c4⟩
theorem issBox_new (w : World) (x : Issue) (ai ad : Option Addr) (ci cd : Nat) : IssBox (w.alloc (.cells #[.int .i64 x.d, .int .i64 x.l, .int .u8 x.k, .slice ai x.items.length ci, .slice ad x.dims.length cd] 46)) w.heap.size x ai ad ci cd :=
  ⟨new_cell _ _ _ 0 _ rfl, new_cell _ _ _ 1 _ rfl, new_cell _ _ _ 2 _ rfl, new_cell _ _ _ 3 _ rfl, new_cell _ _ _ 4 _ rfl⟩

def Chk1 (x : Issue) : Prop := In x.d 1 9999 ∧ In x.l 1 8
def Chk2 (x : Issue) : Prop := (x.k = 1 → In x.items.length 1 8 ∧ x.dims.length = 0) ∧ (x.k ≠ 1 → In x.k 2 3 ∧ x.dims.length ≤ 4 ∧ x.items.length = 0)
def Chk3 (x : Issue) : Prop := ∀ k, k < x.items.length → ItemOk x k
def Chk4 (x : Issue) : Prop := ∀ d ∈ x.dims, DimOk d
theorem chk_all (x : Issue) (hk : U8 x.k) : IssueOk x ↔ Chk1 x ∧ Chk2 x ∧ Chk3 x ∧ Chk4 x := by
  unfold IssueOk HeadOk Chk1 Chk2 Chk3 Chk4 In
  constructor
  · rintro ⟨⟨h1, h2, h3, h4, h5⟩, h6, h7⟩
    refine ⟨⟨h1, h2⟩, ⟨h4, fun h => ?_⟩, h6, fun d hd => ?_⟩
    · have := h5 (by omega)
      omega
    · obtain ⟨k, hk, rfl⟩ := List.getElem_of_mem hd
      exact h7 k hk
  · rintro ⟨⟨h1, h2⟩, ⟨h3, h4⟩, h5, h6⟩
    refine ⟨⟨h1, h2, ?_, h3, fun h => ?_⟩, h5, fun k hk => h6 _ (List.getElem_mem hk)⟩
    · by_cases e : x.k = 1
      · omega
      · have := (h4 e).1; omega
    · have := h4 (by omega)
      omega

set_option maxRecDepth 100000 in
set_option maxHeartbeats 800000 in
theorem checks1 (w : World) (x : Issue) (vi vd : Value) (h : IssueAt w vi vd x) :
    Calls Tryz.prog 146 #[.agg #[.int .i64 x.d, .int .i64 x.l, .int .u8 x.k, vi, vd]] w (RetB (Chk1 x) w) := by
  obtain ⟨ai, capi, rfl, _⟩ := sl_shape h.items
  obtain ⟨ad, capd, rfl, _⟩ := sl_shape h.dims
  obtain ⟨hd0, hd1, hd2⟩ := h.num
  have B := issBox_new w x ai ad capi capd
  have hb1 := below_alloc w (.cells #[.int .i64 x.d, .int .i64 x.l, .int .u8 x.k, .slice ai x.items.length capi, .slice ad x.dims.length capd] 46)
  go_enter Tryz.func146, Tryz.ntmps146
  go_wp2_with fail
  have row := new_cell (w.alloc (.cells #[.int .i64 x.d, .int .i64 x.l, .int .u8 x.k, .slice ai x.items.length capi, .slice ad x.dims.length capd] 46)) #[.int .i64 x.d] 3 0 (.int .i64 x.d) rfl
  rw [World.size_alloc] at row
  have hb2 := below_trans hb1 (below_alloc (w.alloc (.cells #[.int .i64 x.d, .int .i64 x.l, .int .u8 x.k, .slice ai x.items.length capi, .slice ad x.dims.length capd] 46)) (.cells #[.int .i64 x.d] 3))
  have B := B.ext (below_alloc _ (.cells #[.int .i64 x.d] 3))
  clear hb1
  generalize (w.alloc _).alloc _ = w1 at *
  refine (in_sheet1 _ _ _ x.d _ ⟨_, rfl, row⟩ hd0).mono ?_
  rintro e w2 ⟨rfl, hb3⟩
  have hbb := below_trans hb2 hb3
  have c1 := (B.ext hb3).c1
  clear B row hb2 hb3 h
  by_cases g1 : inB x.d 1 9999 = true
  · have hl := cell_lt c1
    unfold Cell at c1
    go_wp2_with fail
    have row := new_cell w2 #[.int .i64 x.l] 3 0 (.int .i64 x.l) rfl
    have hb4 := below_trans hbb (below_alloc w2 (.cells #[.int .i64 x.l] 3))
    generalize w2.alloc _ = w3 at *
    refine (in_sheet1 _ _ _ x.l _ ⟨_, rfl, row⟩ hd1).mono ?_
    rintro e w4 ⟨rfl, hb5⟩
    clear c1 row
    by_cases g2 : inB x.l 1 8 = true
    · go_wp2
      go_ret
      exact RetB.t ⟨inB_t g1, inB_t g2⟩ (below_trans hb4 hb5)
    · have g2' := inB_ff g2
      go_wp2
      go_ret
      exact RetB.f (fun h => inB_f g2 h.2) (below_trans hb4 hb5)
  · have g1' := inB_ff g1
    clear c1
    go_wp2
    go_ret
    exact RetB.f (fun h => inB_f g1 h.1) hbb

set_option maxRecDepth 100000 in
set_option maxHeartbeats 1600000 in
theorem checks3 (w : World) (x : Issue) (vi vd : Value) (h : IssueAt w vi vd x) :
    Calls Tryz.prog 148 #[.agg #[.int .i64 x.d, .int .i64 x.l, .int .u8 x.k, vi, vd]] w (RetB (Chk3 x) w) := by
  obtain ⟨ai, capi, rfl, hmi⟩ := sl_shape h.items
  obtain ⟨ad, capd, rfl, _⟩ := sl_shape h.dims
  have hb1 := below_alloc w (.cells #[.int .i64 x.d, .int .i64 x.l, .int .u8 x.k, .slice ai x.items.length capi, .slice ad x.dims.length capd] 46)
  have B := Lib.hid (issBox_new w x ai ad capi capd)
  go_enter Tryz.func148, Tryz.ntmps148
  go_wp2
  generalize w.alloc _ = w1 at *
  go_loopw [8] (fun i wr => ∃ k : Nat, i = .int .i64 k ∧ k ≤ x.items.length ∧ Below w1.heap.size w1 wr ∧ Hid (∀ j, j < k → ItemOk x j)) (fun i _ => x.items.length - (intOf i).toNat)
  case atStart => exact ⟨0, rfl, by omega, Below.refl _ _, fun j hj => absurd hj (by omega)⟩
  case round =>
    obtain ⟨k, rfl, hk, hb, hall⟩ := hrel
    by_cases hlt : k < x.items.length
    · have hbw := below_trans hb1 hb
      have hXX := (sl_at (sl_ext stays_item hbw h.items)).2
      obtain ⟨b, off, rfl, ⟨q0, q1⟩, hn0, hn1⟩ := hXX k hlt
      have hY : Hid (ItemOk x k ↔ In x.items[k].d 1 9999 ∧ In x.items[k].c 1 20 ∧ x.items[k].d ≠ x.d ∧ (∀ h1 : 0 < k, x.items[k - 1].d < x.items[k].d)) := ⟨fun h => h hlt, fun h _ => h⟩
      have HP : Hid (∀ h0 : 0 < k, Cell wr b (off + (k - 1) * 2) (.int .i64 x.items[k - 1].d)) := fun h0 => by
        obtain ⟨b', off', hh, ⟨p0, _⟩, _⟩ := hXX (k - 1) (by omega)
        cases hh
        exact p0
      generalize x.items[k] = y at *
      unfold Cell at q0 q1
      go_wp2
      have n0 := new_cell wr #[.int .i64 y.d, .int .i64 y.c] 48 0 (.int .i64 y.d) rfl
      have n1 := new_cell wr #[.int .i64 y.d, .int .i64 y.c] 48 1 (.int .i64 y.c) rfl
      have hba := below_alloc wr (.cells #[.int .i64 y.d, .int .i64 y.c] 48)
      have B2 := B.out.ext (below_trans hb hba)
      have HP2 : Hid (∀ h0 : 0 < k, Cell (wr.alloc (.cells #[.int .i64 y.d, .int .i64 y.c] 48)) b (off + (k - 1) * 2) (.int .i64 x.items[k - 1].d)) := fun h0 => cell_ext hba (HP.out h0)
      have hb2 := below_trans hb hba
      clear HP hXX q0 q1 hba
      generalize wr.alloc _ = w2 at *
      generalize wr.heap.size = s2 at *
      have K0 := cell_later n0
      have K1 := cell_later n1
      have K2 := cell_later B2.c0
      have K3 := cell_later B2.c3
      have hz : ∀ h0 : 0 < k, IntKind.i64.wrap ((k : Int) - 1) = ((k - 1 : Nat) : Int) := fun h0 => by rw [IntWalk.i64_in _ (by omega)]; omega
      have HZ := Lib.hid hz
      clear hz n0 n1 B2
      by_cases g1 : inB y.d 1 9999 = true
      case neg =>
        have g1' := inB_ff g1
        refine wp_region_grow_all 35 (by kernel_rfl) (by kernel_rfl) ?_
        simp only [List.take_succ_cons, List.take_zero]
        refine growAll_exact ?_; apply Exists.intro; refine ⟨fun vs xq hd => ?_, ?_⟩; focus ((try simp [Oper.waitsOn, Region.binds, List.filter_cons, List.filter_nil, factAt, depsHold] at hd); simp only [putsFrom, Act.put, List.setIfInBounds_toArray, List.set_cons_succ, List.set_cons_zero]; go_simp; first | exact ⟨Below.refl _ _, rfl⟩ | exact rfl)
        refine growAll_exact ?_; apply Exists.intro; refine ⟨fun vs xq hd => ?_, ?_⟩; focus ((try simp [Oper.waitsOn, Region.binds, List.filter_cons, List.filter_nil, factAt, depsHold] at hd); simp only [putsFrom, Act.put, List.setIfInBounds_toArray, List.set_cons_succ, List.set_cons_zero]; go_simp; first | exact ⟨Below.refl _ _, rfl⟩ | exact rfl)
        first | (refine growAll_exact ?_; apply Exists.intro; refine ⟨fun vs xq hd => ?_, ?_⟩; focus ((try simp [Oper.waitsOn, Region.binds, List.filter_cons, List.filter_nil, factAt, depsHold] at hd); simp only [putsFrom, Act.put, List.setIfInBounds_toArray, List.set_cons_succ, List.set_cons_zero]; go_simp; exact rfl)) | (refine growAll_step (fun v w9 => RowOne y.d v w9) (rowOne_stays y.d) (fun vs xq hd => ?_) ?_; focus ((try simp [Oper.waitsOn, Region.binds, List.filter_cons, List.filter_nil, factAt, depsHold] at hd); simp only [putsFrom, Act.put, List.setIfInBounds_toArray, List.set_cons_succ, List.set_cons_zero]; go_simp; exact ⟨below_alloc _ _, _, rfl, new_cell _ _ _ 0 _ rfl⟩))
        refine growAll_exact ?_; apply Exists.intro; refine ⟨fun vs xq hd => ?_, ?_⟩; focus ((try simp [Oper.waitsOn, Region.binds, List.filter_cons, List.filter_nil, factAt, depsHold] at hd); simp only [putsFrom, Act.put, List.setIfInBounds_toArray, List.set_cons_succ, List.set_cons_zero]; go_simp; first | exact ⟨Below.refl _ _, rfl⟩ | exact rfl | (refine (in_sheet1 _ _ _ y.d _ hd hn0).mono ?_; rintro e w9 ⟨rfl, hb9⟩; exact ⟨rfl, hb9⟩))
        refine growAll_exact ?_; apply Exists.intro; refine ⟨fun vs xq hd => ?_, ?_⟩; focus ((try simp [Oper.waitsOn, Region.binds, List.filter_cons, List.filter_nil, factAt, depsHold] at hd); simp only [putsFrom, Act.put, List.setIfInBounds_toArray, List.set_cons_succ, List.set_cons_zero]; go_simp; first | exact ⟨Below.refl _ _, rfl⟩ | exact rfl)
        refine growAll_exact ?_; apply Exists.intro; refine ⟨fun vs xq hd => ?_, ?_⟩; focus ((try simp [Oper.waitsOn, Region.binds, List.filter_cons, List.filter_nil, factAt, depsHold] at hd); simp only [putsFrom, Act.put, List.setIfInBounds_toArray, List.set_cons_succ, List.set_cons_zero]; go_simp; first | exact ⟨Below.refl _ _, rfl⟩ | exact rfl)
        refine growAll_exact ?_; apply Exists.intro; refine ⟨fun vs xq hd => ?_, ?_⟩; focus ((try simp [Oper.waitsOn, Region.binds, List.filter_cons, List.filter_nil, factAt, depsHold] at hd); simp only [putsFrom, Act.put, List.setIfInBounds_toArray, List.set_cons_succ, List.set_cons_zero]; go_simp; first | exact ⟨Below.refl _ _, rfl⟩ | exact rfl)
        refine growAll_exact ?_; apply Exists.intro; refine ⟨fun vs xq hd => ?_, ?_⟩; focus ((try simp [Oper.waitsOn, Region.binds, List.filter_cons, List.filter_nil, factAt, depsHold] at hd); simp only [putsFrom, Act.put, List.setIfInBounds_toArray, List.set_cons_succ, List.set_cons_zero]; go_simp; first | exact ⟨Below.refl _ _, rfl⟩ | exact rfl)
        first | (refine growAll_exact ?_; apply Exists.intro; refine ⟨fun vs xq hd => ?_, ?_⟩; focus ((try simp [Oper.waitsOn, Region.binds, List.filter_cons, List.filter_nil, factAt, depsHold] at hd); simp only [putsFrom, Act.put, List.setIfInBounds_toArray, List.set_cons_succ, List.set_cons_zero]; go_simp; exact rfl)) | (refine growAll_step (fun v w9 => RowOne y.c v w9) (rowOne_stays y.c) (fun vs xq hd => ?_) ?_; focus ((try simp [Oper.waitsOn, Region.binds, List.filter_cons, List.filter_nil, factAt, depsHold] at hd); simp only [putsFrom, Act.put, List.setIfInBounds_toArray, List.set_cons_succ, List.set_cons_zero]; go_simp; exact ⟨below_alloc _ _, _, rfl, new_cell _ _ _ 0 _ rfl⟩))
        refine growAll_exact ?_; apply Exists.intro; refine ⟨fun vs xq hd => ?_, ?_⟩; focus ((try simp [Oper.waitsOn, Region.binds, List.filter_cons, List.filter_nil, factAt, depsHold] at hd); simp only [putsFrom, Act.put, List.setIfInBounds_toArray, List.set_cons_succ, List.set_cons_zero]; go_simp; first | exact ⟨Below.refl _ _, rfl⟩ | exact rfl | (refine (in_sheet1 _ _ _ y.c _ hd.1 hn1).mono ?_; rintro e w9 ⟨rfl, hb9⟩; exact ⟨rfl, hb9⟩))
        refine growAll_exact ?_; apply Exists.intro; refine ⟨fun vs xq hd => ?_, ?_⟩; focus ((try simp [Oper.waitsOn, Region.binds, List.filter_cons, List.filter_nil, factAt, depsHold] at hd); simp only [putsFrom, Act.put, List.setIfInBounds_toArray, List.set_cons_succ, List.set_cons_zero]; go_simp; first | exact ⟨Below.refl _ _, rfl⟩ | exact rfl)
        refine growAll_exact ?_; apply Exists.intro; refine ⟨fun vs xq hd => ?_, ?_⟩; focus ((try simp [Oper.waitsOn, Region.binds, List.filter_cons, List.filter_nil, factAt, depsHold] at hd); simp only [putsFrom, Act.put, List.setIfInBounds_toArray, List.set_cons_succ, List.set_cons_zero]; go_simp; first | exact ⟨Below.refl _ _, rfl⟩ | exact rfl)
        refine growAll_exact ?_; apply Exists.intro; refine ⟨fun vs xq hd => ?_, ?_⟩; focus ((try simp [Oper.waitsOn, Region.binds, List.filter_cons, List.filter_nil, factAt, depsHold] at hd); simp only [putsFrom, Act.put, List.setIfInBounds_toArray, List.set_cons_succ, List.set_cons_zero]; go_simp; first | exact ⟨Below.refl _ _, rfl⟩ | exact rfl)
        refine growAll_exact ?_; apply Exists.intro; refine ⟨fun vs xq hd => ?_, ?_⟩; focus ((try simp [Oper.waitsOn, Region.binds, List.filter_cons, List.filter_nil, factAt, depsHold] at hd); simp only [putsFrom, Act.put, List.setIfInBounds_toArray, List.set_cons_succ, List.set_cons_zero]; go_simp; first | exact ⟨Below.refl _ _, rfl⟩ | exact rfl)
        refine growAll_exact ?_; apply Exists.intro; refine ⟨fun vs xq hd => ?_, ?_⟩; focus ((try simp [Oper.waitsOn, Region.binds, List.filter_cons, List.filter_nil, factAt, depsHold] at hd); simp only [putsFrom, Act.put, List.setIfInBounds_toArray, List.set_cons_succ, List.set_cons_zero]; go_simp; first | exact ⟨Below.refl _ _, rfl⟩ | exact rfl)
        refine growAll_exact ?_; apply Exists.intro; refine ⟨fun vs xq hd => ?_, ?_⟩; focus ((try simp [Oper.waitsOn, Region.binds, List.filter_cons, List.filter_nil, factAt, depsHold] at hd); simp only [putsFrom, Act.put, List.setIfInBounds_toArray, List.set_cons_succ, List.set_cons_zero]; go_simp; first | exact ⟨Below.refl _ _, rfl⟩ | exact rfl)
        refine growAll_exact ?_; apply Exists.intro; refine ⟨fun vs xq hd => ?_, ?_⟩; focus ((try simp [Oper.waitsOn, Region.binds, List.filter_cons, List.filter_nil, factAt, depsHold] at hd); simp only [putsFrom, Act.put, List.setIfInBounds_toArray, List.set_cons_succ, List.set_cons_zero]; go_simp; first | exact ⟨Below.refl _ _, rfl⟩ | exact rfl)
        refine growAll_exact ?_; apply Exists.intro; refine ⟨fun vs xq hd => ?_, ?_⟩; focus ((try simp [Oper.waitsOn, Region.binds, List.filter_cons, List.filter_nil, factAt, depsHold] at hd); simp only [putsFrom, Act.put, List.setIfInBounds_toArray, List.set_cons_succ, List.set_cons_zero]; go_simp; first | exact ⟨Below.refl _ _, rfl⟩ | exact rfl)
        refine growAll_exact ?_; apply Exists.intro; refine ⟨fun vs xq hd => ?_, ?_⟩; focus ((try simp [Oper.waitsOn, Region.binds, List.filter_cons, List.filter_nil, factAt, depsHold] at hd); simp only [putsFrom, Act.put, List.setIfInBounds_toArray, List.set_cons_succ, List.set_cons_zero]; go_simp; first | exact ⟨Below.refl _ _, rfl⟩ | exact rfl)
        refine growAll_exact ?_; apply Exists.intro; refine ⟨fun vs xq hd => ?_, ?_⟩; focus ((try simp [Oper.waitsOn, Region.binds, List.filter_cons, List.filter_nil, factAt, depsHold] at hd); simp only [putsFrom, Act.put, List.setIfInBounds_toArray, List.set_cons_succ, List.set_cons_zero]; go_simp; first | exact ⟨Below.refl _ _, rfl⟩ | exact rfl)
        refine growAll_exact ?_; apply Exists.intro; refine ⟨fun vs xq hd => ?_, ?_⟩; focus ((try simp [Oper.waitsOn, Region.binds, List.filter_cons, List.filter_nil, factAt, depsHold] at hd); simp only [putsFrom, Act.put, List.setIfInBounds_toArray, List.set_cons_succ, List.set_cons_zero]; go_simp; first | exact ⟨Below.refl _ _, rfl⟩ | exact rfl)
        refine growAll_exact ?_; apply Exists.intro; refine ⟨fun vs xq hd => ?_, ?_⟩; focus ((try simp [Oper.waitsOn, Region.binds, List.filter_cons, List.filter_nil, factAt, depsHold] at hd); simp only [putsFrom, Act.put, List.setIfInBounds_toArray, List.set_cons_succ, List.set_cons_zero]; go_simp; first | exact ⟨Below.refl _ _, rfl⟩ | exact rfl)
        refine growAll_exact ?_; apply Exists.intro; refine ⟨fun vs xq hd => ?_, ?_⟩; focus ((try simp [Oper.waitsOn, Region.binds, List.filter_cons, List.filter_nil, factAt, depsHold] at hd); simp only [putsFrom, Act.put, List.setIfInBounds_toArray, List.set_cons_succ, List.set_cons_zero]; go_simp; first | exact ⟨Below.refl _ _, rfl⟩ | exact rfl)
        refine growAll_exact ?_; apply Exists.intro; refine ⟨fun vs xq hd => ?_, ?_⟩; focus ((try simp [Oper.waitsOn, Region.binds, List.filter_cons, List.filter_nil, factAt, depsHold] at hd); simp only [putsFrom, Act.put, List.setIfInBounds_toArray, List.set_cons_succ, List.set_cons_zero]; go_simp; first | exact ⟨Below.refl _ _, rfl⟩ | exact rfl)
        refine growAll_exact ?_; apply Exists.intro; refine ⟨fun vs xq hd => ?_, ?_⟩; focus ((try simp [Oper.waitsOn, Region.binds, List.filter_cons, List.filter_nil, factAt, depsHold] at hd); simp only [putsFrom, Act.put, List.setIfInBounds_toArray, List.set_cons_succ, List.set_cons_zero]; go_simp; first | exact ⟨Below.refl _ _, rfl⟩ | exact rfl)
        refine growAll_exact ?_; apply Exists.intro; refine ⟨fun vs xq hd => ?_, ?_⟩; focus ((try simp [Oper.waitsOn, Region.binds, List.filter_cons, List.filter_nil, factAt, depsHold] at hd); simp only [putsFrom, Act.put, List.setIfInBounds_toArray, List.set_cons_succ, List.set_cons_zero]; go_simp; first | exact ⟨Below.refl _ _, rfl⟩ | exact rfl)
        refine growAll_exact ?_; apply Exists.intro; refine ⟨fun vs xq hd => ?_, ?_⟩; focus ((try simp [Oper.waitsOn, Region.binds, List.filter_cons, List.filter_nil, factAt, depsHold] at hd); simp only [putsFrom, Act.put, List.setIfInBounds_toArray, List.set_cons_succ, List.set_cons_zero]; go_simp; first | exact ⟨Below.refl _ _, rfl⟩ | exact rfl)
        refine growAll_exact ?_; apply Exists.intro; refine ⟨fun vs xq hd => ?_, ?_⟩; focus ((try simp [Oper.waitsOn, Region.binds, List.filter_cons, List.filter_nil, factAt, depsHold] at hd); simp only [putsFrom, Act.put, List.setIfInBounds_toArray, List.set_cons_succ, List.set_cons_zero]; go_simp; first | exact ⟨Below.refl _ _, rfl⟩ | exact rfl)
        refine growAll_exact ?_; apply Exists.intro; refine ⟨fun vs xq hd => ?_, ?_⟩; focus ((try simp [Oper.waitsOn, Region.binds, List.filter_cons, List.filter_nil, factAt, depsHold] at hd); simp only [putsFrom, Act.put, List.setIfInBounds_toArray, List.set_cons_succ, List.set_cons_zero]; go_simp; first | exact ⟨Below.refl _ _, rfl⟩ | exact rfl)
        refine growAll_exact ?_; apply Exists.intro; refine ⟨fun vs xq hd => ?_, ?_⟩; focus ((try simp [Oper.waitsOn, Region.binds, List.filter_cons, List.filter_nil, factAt, depsHold] at hd); simp only [putsFrom, Act.put, List.setIfInBounds_toArray, List.set_cons_succ, List.set_cons_zero]; go_simp; first | exact ⟨Below.refl _ _, rfl⟩ | exact rfl)
        refine growAll_exact ?_; apply Exists.intro; refine ⟨fun vs xq hd => ?_, ?_⟩; focus ((try simp [Oper.waitsOn, Region.binds, List.filter_cons, List.filter_nil, factAt, depsHold] at hd); simp only [putsFrom, Act.put, List.setIfInBounds_toArray, List.set_cons_succ, List.set_cons_zero]; go_simp; first | exact ⟨Below.refl _ _, rfl⟩ | exact rfl)
        refine growAll_exact ?_; apply Exists.intro; refine ⟨fun vs xq hd => ?_, ?_⟩; focus ((try simp [Oper.waitsOn, Region.binds, List.filter_cons, List.filter_nil, factAt, depsHold] at hd); simp only [putsFrom, Act.put, List.setIfInBounds_toArray, List.set_cons_succ, List.set_cons_zero]; go_simp; first | exact ⟨Below.refl _ _, rfl⟩ | exact rfl)
        refine growAll_exact ?_; apply Exists.intro; refine ⟨fun vs xq hd => ?_, ?_⟩; focus ((try simp [Oper.waitsOn, Region.binds, List.filter_cons, List.filter_nil, factAt, depsHold] at hd); simp only [putsFrom, Act.put, List.setIfInBounds_toArray, List.set_cons_succ, List.set_cons_zero]; go_simp; first | exact ⟨Below.refl _ _, rfl⟩ | exact rfl)
        refine growAll_exact ?_; apply Exists.intro; refine ⟨fun vs xq hd => ?_, ?_⟩; focus ((try simp [Oper.waitsOn, Region.binds, List.filter_cons, List.filter_nil, factAt, depsHold] at hd); simp only [putsFrom, Act.put, List.setIfInBounds_toArray, List.set_cons_succ, List.set_cons_zero]; go_simp; first | exact ⟨Below.refl _ _, rfl⟩ | exact rfl)
        refine growAll_exact ?_; apply Exists.intro; refine ⟨fun vs xq hd => ?_, ?_⟩; focus ((try simp [Oper.waitsOn, Region.binds, List.filter_cons, List.filter_nil, factAt, depsHold] at hd); simp only [putsFrom, Act.put, List.setIfInBounds_toArray, List.set_cons_succ, List.set_cons_zero]; go_simp; first | exact ⟨Below.refl _ _, rfl⟩ | exact rfl)
        refine growAll_done (by simp only [List.length_append, List.length_cons, List.length_nil]) (fun vs xq hd => ?_)
        simp [depsHold, factAt, List.range, List.range.loop] at hd
        simp only [putsFrom, Act.put, List.setIfInBounds_toArray, List.set_cons_succ, List.set_cons_zero, List.drop_succ_cons, List.drop_zero]
        have e34 := hd.2.2.2.2.2.2.2.2.2.2.2.2.2.2.2.2.2.2.2.2.2.2.2.2.2.2.2.2.2.2.2.2.2.2
        clear hd
        generalize vs 34 = u34 at *
        subst e34
        have hbl := below_trans hb2 (below_later w2 xq)
        clear K0 K1 K2 K3
        generalize w2.later xq = w3 at *
        go_wp2
        go_ret
        exact RetB.f (fun h => inB_f g1 (hY.out.1 (h k hlt)).1) (below_trans hb1 hbl)
      by_cases g2 : inB y.c 1 20 = true
      case neg =>
        have g2' := inB_ff g2
        refine wp_region_grow_all 35 (by kernel_rfl) (by kernel_rfl) ?_
        simp only [List.take_succ_cons, List.take_zero]
        refine growAll_exact ?_; apply Exists.intro; refine ⟨fun vs xq hd => ?_, ?_⟩; focus ((try simp [Oper.waitsOn, Region.binds, List.filter_cons, List.filter_nil, factAt, depsHold] at hd); simp only [putsFrom, Act.put, List.setIfInBounds_toArray, List.set_cons_succ, List.set_cons_zero]; go_simp; first | exact ⟨Below.refl _ _, rfl⟩ | exact rfl)
        refine growAll_exact ?_; apply Exists.intro; refine ⟨fun vs xq hd => ?_, ?_⟩; focus ((try simp [Oper.waitsOn, Region.binds, List.filter_cons, List.filter_nil, factAt, depsHold] at hd); simp only [putsFrom, Act.put, List.setIfInBounds_toArray, List.set_cons_succ, List.set_cons_zero]; go_simp; first | exact ⟨Below.refl _ _, rfl⟩ | exact rfl)
        first | (refine growAll_exact ?_; apply Exists.intro; refine ⟨fun vs xq hd => ?_, ?_⟩; focus ((try simp [Oper.waitsOn, Region.binds, List.filter_cons, List.filter_nil, factAt, depsHold] at hd); simp only [putsFrom, Act.put, List.setIfInBounds_toArray, List.set_cons_succ, List.set_cons_zero]; go_simp; exact rfl)) | (refine growAll_step (fun v w9 => RowOne y.d v w9) (rowOne_stays y.d) (fun vs xq hd => ?_) ?_; focus ((try simp [Oper.waitsOn, Region.binds, List.filter_cons, List.filter_nil, factAt, depsHold] at hd); simp only [putsFrom, Act.put, List.setIfInBounds_toArray, List.set_cons_succ, List.set_cons_zero]; go_simp; exact ⟨below_alloc _ _, _, rfl, new_cell _ _ _ 0 _ rfl⟩))
        refine growAll_exact ?_; apply Exists.intro; refine ⟨fun vs xq hd => ?_, ?_⟩; focus ((try simp [Oper.waitsOn, Region.binds, List.filter_cons, List.filter_nil, factAt, depsHold] at hd); simp only [putsFrom, Act.put, List.setIfInBounds_toArray, List.set_cons_succ, List.set_cons_zero]; go_simp; first | exact ⟨Below.refl _ _, rfl⟩ | exact rfl | (refine (in_sheet1 _ _ _ y.d _ hd hn0).mono ?_; rintro e w9 ⟨rfl, hb9⟩; exact ⟨rfl, hb9⟩))
        refine growAll_exact ?_; apply Exists.intro; refine ⟨fun vs xq hd => ?_, ?_⟩; focus ((try simp [Oper.waitsOn, Region.binds, List.filter_cons, List.filter_nil, factAt, depsHold] at hd); simp only [putsFrom, Act.put, List.setIfInBounds_toArray, List.set_cons_succ, List.set_cons_zero]; go_simp; first | exact ⟨Below.refl _ _, rfl⟩ | exact rfl)
        refine growAll_exact ?_; apply Exists.intro; refine ⟨fun vs xq hd => ?_, ?_⟩; focus ((try simp [Oper.waitsOn, Region.binds, List.filter_cons, List.filter_nil, factAt, depsHold] at hd); simp only [putsFrom, Act.put, List.setIfInBounds_toArray, List.set_cons_succ, List.set_cons_zero]; go_simp; first | exact ⟨Below.refl _ _, rfl⟩ | exact rfl)
        refine growAll_exact ?_; apply Exists.intro; refine ⟨fun vs xq hd => ?_, ?_⟩; focus ((try simp [Oper.waitsOn, Region.binds, List.filter_cons, List.filter_nil, factAt, depsHold] at hd); simp only [putsFrom, Act.put, List.setIfInBounds_toArray, List.set_cons_succ, List.set_cons_zero]; go_simp; first | exact ⟨Below.refl _ _, rfl⟩ | exact rfl)
        refine growAll_exact ?_; apply Exists.intro; refine ⟨fun vs xq hd => ?_, ?_⟩; focus ((try simp [Oper.waitsOn, Region.binds, List.filter_cons, List.filter_nil, factAt, depsHold] at hd); simp only [putsFrom, Act.put, List.setIfInBounds_toArray, List.set_cons_succ, List.set_cons_zero]; go_simp; first | exact ⟨Below.refl _ _, rfl⟩ | exact rfl)
        first | (refine growAll_exact ?_; apply Exists.intro; refine ⟨fun vs xq hd => ?_, ?_⟩; focus ((try simp [Oper.waitsOn, Region.binds, List.filter_cons, List.filter_nil, factAt, depsHold] at hd); simp only [putsFrom, Act.put, List.setIfInBounds_toArray, List.set_cons_succ, List.set_cons_zero]; go_simp; exact rfl)) | (refine growAll_step (fun v w9 => RowOne y.c v w9) (rowOne_stays y.c) (fun vs xq hd => ?_) ?_; focus ((try simp [Oper.waitsOn, Region.binds, List.filter_cons, List.filter_nil, factAt, depsHold] at hd); simp only [putsFrom, Act.put, List.setIfInBounds_toArray, List.set_cons_succ, List.set_cons_zero]; go_simp; exact ⟨below_alloc _ _, _, rfl, new_cell _ _ _ 0 _ rfl⟩))
        refine growAll_exact ?_; apply Exists.intro; refine ⟨fun vs xq hd => ?_, ?_⟩; focus ((try simp [Oper.waitsOn, Region.binds, List.filter_cons, List.filter_nil, factAt, depsHold] at hd); simp only [putsFrom, Act.put, List.setIfInBounds_toArray, List.set_cons_succ, List.set_cons_zero]; go_simp; first | exact ⟨Below.refl _ _, rfl⟩ | exact rfl | (refine (in_sheet1 _ _ _ y.c _ hd.1 hn1).mono ?_; rintro e w9 ⟨rfl, hb9⟩; exact ⟨rfl, hb9⟩))
        refine growAll_exact ?_; apply Exists.intro; refine ⟨fun vs xq hd => ?_, ?_⟩; focus ((try simp [Oper.waitsOn, Region.binds, List.filter_cons, List.filter_nil, factAt, depsHold] at hd); simp only [putsFrom, Act.put, List.setIfInBounds_toArray, List.set_cons_succ, List.set_cons_zero]; go_simp; first | exact ⟨Below.refl _ _, rfl⟩ | exact rfl)
        refine growAll_exact ?_; apply Exists.intro; refine ⟨fun vs xq hd => ?_, ?_⟩; focus ((try simp [Oper.waitsOn, Region.binds, List.filter_cons, List.filter_nil, factAt, depsHold] at hd); simp only [putsFrom, Act.put, List.setIfInBounds_toArray, List.set_cons_succ, List.set_cons_zero]; go_simp; first | exact ⟨Below.refl _ _, rfl⟩ | exact rfl)
        refine growAll_exact ?_; apply Exists.intro; refine ⟨fun vs xq hd => ?_, ?_⟩; focus ((try simp [Oper.waitsOn, Region.binds, List.filter_cons, List.filter_nil, factAt, depsHold] at hd); simp only [putsFrom, Act.put, List.setIfInBounds_toArray, List.set_cons_succ, List.set_cons_zero]; go_simp; first | exact ⟨Below.refl _ _, rfl⟩ | exact rfl)
        refine growAll_exact ?_; apply Exists.intro; refine ⟨fun vs xq hd => ?_, ?_⟩; focus ((try simp [Oper.waitsOn, Region.binds, List.filter_cons, List.filter_nil, factAt, depsHold] at hd); simp only [putsFrom, Act.put, List.setIfInBounds_toArray, List.set_cons_succ, List.set_cons_zero]; go_simp; first | exact ⟨Below.refl _ _, rfl⟩ | exact rfl)
        refine growAll_exact ?_; apply Exists.intro; refine ⟨fun vs xq hd => ?_, ?_⟩; focus ((try simp [Oper.waitsOn, Region.binds, List.filter_cons, List.filter_nil, factAt, depsHold] at hd); simp only [putsFrom, Act.put, List.setIfInBounds_toArray, List.set_cons_succ, List.set_cons_zero]; go_simp; first | exact ⟨Below.refl _ _, rfl⟩ | exact rfl)
        refine growAll_exact ?_; apply Exists.intro; refine ⟨fun vs xq hd => ?_, ?_⟩; focus ((try simp [Oper.waitsOn, Region.binds, List.filter_cons, List.filter_nil, factAt, depsHold] at hd); simp only [putsFrom, Act.put, List.setIfInBounds_toArray, List.set_cons_succ, List.set_cons_zero]; go_simp; first | exact ⟨Below.refl _ _, rfl⟩ | exact rfl)
        refine growAll_exact ?_; apply Exists.intro; refine ⟨fun vs xq hd => ?_, ?_⟩; focus ((try simp [Oper.waitsOn, Region.binds, List.filter_cons, List.filter_nil, factAt, depsHold] at hd); simp only [putsFrom, Act.put, List.setIfInBounds_toArray, List.set_cons_succ, List.set_cons_zero]; go_simp; first | exact ⟨Below.refl _ _, rfl⟩ | exact rfl)
        refine growAll_exact ?_; apply Exists.intro; refine ⟨fun vs xq hd => ?_, ?_⟩; focus ((try simp [Oper.waitsOn, Region.binds, List.filter_cons, List.filter_nil, factAt, depsHold] at hd); simp only [putsFrom, Act.put, List.setIfInBounds_toArray, List.set_cons_succ, List.set_cons_zero]; go_simp; first | exact ⟨Below.refl _ _, rfl⟩ | exact rfl)
        refine growAll_exact ?_; apply Exists.intro; refine ⟨fun vs xq hd => ?_, ?_⟩; focus ((try simp [Oper.waitsOn, Region.binds, List.filter_cons, List.filter_nil, factAt, depsHold] at hd); simp only [putsFrom, Act.put, List.setIfInBounds_toArray, List.set_cons_succ, List.set_cons_zero]; go_simp; first | exact ⟨Below.refl _ _, rfl⟩ | exact rfl)
        refine growAll_exact ?_; apply Exists.intro; refine ⟨fun vs xq hd => ?_, ?_⟩; focus ((try simp [Oper.waitsOn, Region.binds, List.filter_cons, List.filter_nil, factAt, depsHold] at hd); simp only [putsFrom, Act.put, List.setIfInBounds_toArray, List.set_cons_succ, List.set_cons_zero]; go_simp; first | exact ⟨Below.refl _ _, rfl⟩ | exact rfl)
        refine growAll_exact ?_; apply Exists.intro; refine ⟨fun vs xq hd => ?_, ?_⟩; focus ((try simp [Oper.waitsOn, Region.binds, List.filter_cons, List.filter_nil, factAt, depsHold] at hd); simp only [putsFrom, Act.put, List.setIfInBounds_toArray, List.set_cons_succ, List.set_cons_zero]; go_simp; first | exact ⟨Below.refl _ _, rfl⟩ | exact rfl)
        refine growAll_exact ?_; apply Exists.intro; refine ⟨fun vs xq hd => ?_, ?_⟩; focus ((try simp [Oper.waitsOn, Region.binds, List.filter_cons, List.filter_nil, factAt, depsHold] at hd); simp only [putsFrom, Act.put, List.setIfInBounds_toArray, List.set_cons_succ, List.set_cons_zero]; go_simp; first | exact ⟨Below.refl _ _, rfl⟩ | exact rfl)
        refine growAll_exact ?_; apply Exists.intro; refine ⟨fun vs xq hd => ?_, ?_⟩; focus ((try simp [Oper.waitsOn, Region.binds, List.filter_cons, List.filter_nil, factAt, depsHold] at hd); simp only [putsFrom, Act.put, List.setIfInBounds_toArray, List.set_cons_succ, List.set_cons_zero]; go_simp; first | exact ⟨Below.refl _ _, rfl⟩ | exact rfl)
        refine growAll_exact ?_; apply Exists.intro; refine ⟨fun vs xq hd => ?_, ?_⟩; focus ((try simp [Oper.waitsOn, Region.binds, List.filter_cons, List.filter_nil, factAt, depsHold] at hd); simp only [putsFrom, Act.put, List.setIfInBounds_toArray, List.set_cons_succ, List.set_cons_zero]; go_simp; first | exact ⟨Below.refl _ _, rfl⟩ | exact rfl)
        refine growAll_exact ?_; apply Exists.intro; refine ⟨fun vs xq hd => ?_, ?_⟩; focus ((try simp [Oper.waitsOn, Region.binds, List.filter_cons, List.filter_nil, factAt, depsHold] at hd); simp only [putsFrom, Act.put, List.setIfInBounds_toArray, List.set_cons_succ, List.set_cons_zero]; go_simp; first | exact ⟨Below.refl _ _, rfl⟩ | exact rfl)
        refine growAll_exact ?_; apply Exists.intro; refine ⟨fun vs xq hd => ?_, ?_⟩; focus ((try simp [Oper.waitsOn, Region.binds, List.filter_cons, List.filter_nil, factAt, depsHold] at hd); simp only [putsFrom, Act.put, List.setIfInBounds_toArray, List.set_cons_succ, List.set_cons_zero]; go_simp; first | exact ⟨Below.refl _ _, rfl⟩ | exact rfl)
        refine growAll_exact ?_; apply Exists.intro; refine ⟨fun vs xq hd => ?_, ?_⟩; focus ((try simp [Oper.waitsOn, Region.binds, List.filter_cons, List.filter_nil, factAt, depsHold] at hd); simp only [putsFrom, Act.put, List.setIfInBounds_toArray, List.set_cons_succ, List.set_cons_zero]; go_simp; first | exact ⟨Below.refl _ _, rfl⟩ | exact rfl)
        refine growAll_exact ?_; apply Exists.intro; refine ⟨fun vs xq hd => ?_, ?_⟩; focus ((try simp [Oper.waitsOn, Region.binds, List.filter_cons, List.filter_nil, factAt, depsHold] at hd); simp only [putsFrom, Act.put, List.setIfInBounds_toArray, List.set_cons_succ, List.set_cons_zero]; go_simp; first | exact ⟨Below.refl _ _, rfl⟩ | exact rfl)
        refine growAll_exact ?_; apply Exists.intro; refine ⟨fun vs xq hd => ?_, ?_⟩; focus ((try simp [Oper.waitsOn, Region.binds, List.filter_cons, List.filter_nil, factAt, depsHold] at hd); simp only [putsFrom, Act.put, List.setIfInBounds_toArray, List.set_cons_succ, List.set_cons_zero]; go_simp; first | exact ⟨Below.refl _ _, rfl⟩ | exact rfl)
        refine growAll_exact ?_; apply Exists.intro; refine ⟨fun vs xq hd => ?_, ?_⟩; focus ((try simp [Oper.waitsOn, Region.binds, List.filter_cons, List.filter_nil, factAt, depsHold] at hd); simp only [putsFrom, Act.put, List.setIfInBounds_toArray, List.set_cons_succ, List.set_cons_zero]; go_simp; first | exact ⟨Below.refl _ _, rfl⟩ | exact rfl)
        refine growAll_exact ?_; apply Exists.intro; refine ⟨fun vs xq hd => ?_, ?_⟩; focus ((try simp [Oper.waitsOn, Region.binds, List.filter_cons, List.filter_nil, factAt, depsHold] at hd); simp only [putsFrom, Act.put, List.setIfInBounds_toArray, List.set_cons_succ, List.set_cons_zero]; go_simp; first | exact ⟨Below.refl _ _, rfl⟩ | exact rfl)
        refine growAll_exact ?_; apply Exists.intro; refine ⟨fun vs xq hd => ?_, ?_⟩; focus ((try simp [Oper.waitsOn, Region.binds, List.filter_cons, List.filter_nil, factAt, depsHold] at hd); simp only [putsFrom, Act.put, List.setIfInBounds_toArray, List.set_cons_succ, List.set_cons_zero]; go_simp; first | exact ⟨Below.refl _ _, rfl⟩ | exact rfl)
        refine growAll_exact ?_; apply Exists.intro; refine ⟨fun vs xq hd => ?_, ?_⟩; focus ((try simp [Oper.waitsOn, Region.binds, List.filter_cons, List.filter_nil, factAt, depsHold] at hd); simp only [putsFrom, Act.put, List.setIfInBounds_toArray, List.set_cons_succ, List.set_cons_zero]; go_simp; first | exact ⟨Below.refl _ _, rfl⟩ | exact rfl)
        refine growAll_exact ?_; apply Exists.intro; refine ⟨fun vs xq hd => ?_, ?_⟩; focus ((try simp [Oper.waitsOn, Region.binds, List.filter_cons, List.filter_nil, factAt, depsHold] at hd); simp only [putsFrom, Act.put, List.setIfInBounds_toArray, List.set_cons_succ, List.set_cons_zero]; go_simp; first | exact ⟨Below.refl _ _, rfl⟩ | exact rfl)
        refine growAll_exact ?_; apply Exists.intro; refine ⟨fun vs xq hd => ?_, ?_⟩; focus ((try simp [Oper.waitsOn, Region.binds, List.filter_cons, List.filter_nil, factAt, depsHold] at hd); simp only [putsFrom, Act.put, List.setIfInBounds_toArray, List.set_cons_succ, List.set_cons_zero]; go_simp; first | exact ⟨Below.refl _ _, rfl⟩ | exact rfl)
        refine growAll_done (by simp only [List.length_append, List.length_cons, List.length_nil]) (fun vs xq hd => ?_)
        simp [depsHold, factAt, List.range, List.range.loop] at hd
        simp only [putsFrom, Act.put, List.setIfInBounds_toArray, List.set_cons_succ, List.set_cons_zero, List.drop_succ_cons, List.drop_zero]
        have e34 := hd.2.2.2.2.2.2.2.2.2.2.2.2.2.2.2.2.2.2.2.2.2.2.2.2.2.2.2.2.2.2.2.2.2.2
        clear hd
        generalize vs 34 = u34 at *
        subst e34
        have hbl := below_trans hb2 (below_later w2 xq)
        clear K0 K1 K2 K3
        generalize w2.later xq = w3 at *
        go_wp2
        go_ret
        exact RetB.f (fun h => inB_f g2 (hY.out.1 (h k hlt)).2.1) (below_trans hb1 hbl)
      by_cases g3 : (y.d == x.d) = true
      case pos =>
        refine wp_region_grow_all 35 (by kernel_rfl) (by kernel_rfl) ?_
        simp only [List.take_succ_cons, List.take_zero]
        refine growAll_exact ?_; apply Exists.intro; refine ⟨fun vs xq hd => ?_, ?_⟩; focus ((try simp [Oper.waitsOn, Region.binds, List.filter_cons, List.filter_nil, factAt, depsHold] at hd); simp only [putsFrom, Act.put, List.setIfInBounds_toArray, List.set_cons_succ, List.set_cons_zero]; go_simp; first | exact ⟨Below.refl _ _, rfl⟩ | exact rfl)
        refine growAll_exact ?_; apply Exists.intro; refine ⟨fun vs xq hd => ?_, ?_⟩; focus ((try simp [Oper.waitsOn, Region.binds, List.filter_cons, List.filter_nil, factAt, depsHold] at hd); simp only [putsFrom, Act.put, List.setIfInBounds_toArray, List.set_cons_succ, List.set_cons_zero]; go_simp; first | exact ⟨Below.refl _ _, rfl⟩ | exact rfl)
        first | (refine growAll_exact ?_; apply Exists.intro; refine ⟨fun vs xq hd => ?_, ?_⟩; focus ((try simp [Oper.waitsOn, Region.binds, List.filter_cons, List.filter_nil, factAt, depsHold] at hd); simp only [putsFrom, Act.put, List.setIfInBounds_toArray, List.set_cons_succ, List.set_cons_zero]; go_simp; exact rfl)) | (refine growAll_step (fun v w9 => RowOne y.d v w9) (rowOne_stays y.d) (fun vs xq hd => ?_) ?_; focus ((try simp [Oper.waitsOn, Region.binds, List.filter_cons, List.filter_nil, factAt, depsHold] at hd); simp only [putsFrom, Act.put, List.setIfInBounds_toArray, List.set_cons_succ, List.set_cons_zero]; go_simp; exact ⟨below_alloc _ _, _, rfl, new_cell _ _ _ 0 _ rfl⟩))
        refine growAll_exact ?_; apply Exists.intro; refine ⟨fun vs xq hd => ?_, ?_⟩; focus ((try simp [Oper.waitsOn, Region.binds, List.filter_cons, List.filter_nil, factAt, depsHold] at hd); simp only [putsFrom, Act.put, List.setIfInBounds_toArray, List.set_cons_succ, List.set_cons_zero]; go_simp; first | exact ⟨Below.refl _ _, rfl⟩ | exact rfl | (refine (in_sheet1 _ _ _ y.d _ hd hn0).mono ?_; rintro e w9 ⟨rfl, hb9⟩; exact ⟨rfl, hb9⟩))
        refine growAll_exact ?_; apply Exists.intro; refine ⟨fun vs xq hd => ?_, ?_⟩; focus ((try simp [Oper.waitsOn, Region.binds, List.filter_cons, List.filter_nil, factAt, depsHold] at hd); simp only [putsFrom, Act.put, List.setIfInBounds_toArray, List.set_cons_succ, List.set_cons_zero]; go_simp; first | exact ⟨Below.refl _ _, rfl⟩ | exact rfl)
        refine growAll_exact ?_; apply Exists.intro; refine ⟨fun vs xq hd => ?_, ?_⟩; focus ((try simp [Oper.waitsOn, Region.binds, List.filter_cons, List.filter_nil, factAt, depsHold] at hd); simp only [putsFrom, Act.put, List.setIfInBounds_toArray, List.set_cons_succ, List.set_cons_zero]; go_simp; first | exact ⟨Below.refl _ _, rfl⟩ | exact rfl)
        refine growAll_exact ?_; apply Exists.intro; refine ⟨fun vs xq hd => ?_, ?_⟩; focus ((try simp [Oper.waitsOn, Region.binds, List.filter_cons, List.filter_nil, factAt, depsHold] at hd); simp only [putsFrom, Act.put, List.setIfInBounds_toArray, List.set_cons_succ, List.set_cons_zero]; go_simp; first | exact ⟨Below.refl _ _, rfl⟩ | exact rfl)
        refine growAll_exact ?_; apply Exists.intro; refine ⟨fun vs xq hd => ?_, ?_⟩; focus ((try simp [Oper.waitsOn, Region.binds, List.filter_cons, List.filter_nil, factAt, depsHold] at hd); simp only [putsFrom, Act.put, List.setIfInBounds_toArray, List.set_cons_succ, List.set_cons_zero]; go_simp; first | exact ⟨Below.refl _ _, rfl⟩ | exact rfl)
        first | (refine growAll_exact ?_; apply Exists.intro; refine ⟨fun vs xq hd => ?_, ?_⟩; focus ((try simp [Oper.waitsOn, Region.binds, List.filter_cons, List.filter_nil, factAt, depsHold] at hd); simp only [putsFrom, Act.put, List.setIfInBounds_toArray, List.set_cons_succ, List.set_cons_zero]; go_simp; exact rfl)) | (refine growAll_step (fun v w9 => RowOne y.c v w9) (rowOne_stays y.c) (fun vs xq hd => ?_) ?_; focus ((try simp [Oper.waitsOn, Region.binds, List.filter_cons, List.filter_nil, factAt, depsHold] at hd); simp only [putsFrom, Act.put, List.setIfInBounds_toArray, List.set_cons_succ, List.set_cons_zero]; go_simp; exact ⟨below_alloc _ _, _, rfl, new_cell _ _ _ 0 _ rfl⟩))
        refine growAll_exact ?_; apply Exists.intro; refine ⟨fun vs xq hd => ?_, ?_⟩; focus ((try simp [Oper.waitsOn, Region.binds, List.filter_cons, List.filter_nil, factAt, depsHold] at hd); simp only [putsFrom, Act.put, List.setIfInBounds_toArray, List.set_cons_succ, List.set_cons_zero]; go_simp; first | exact ⟨Below.refl _ _, rfl⟩ | exact rfl | (refine (in_sheet1 _ _ _ y.c _ hd.1 hn1).mono ?_; rintro e w9 ⟨rfl, hb9⟩; exact ⟨rfl, hb9⟩))
        refine growAll_exact ?_; apply Exists.intro; refine ⟨fun vs xq hd => ?_, ?_⟩; focus ((try simp [Oper.waitsOn, Region.binds, List.filter_cons, List.filter_nil, factAt, depsHold] at hd); simp only [putsFrom, Act.put, List.setIfInBounds_toArray, List.set_cons_succ, List.set_cons_zero]; go_simp; first | exact ⟨Below.refl _ _, rfl⟩ | exact rfl)
        refine growAll_exact ?_; apply Exists.intro; refine ⟨fun vs xq hd => ?_, ?_⟩; focus ((try simp [Oper.waitsOn, Region.binds, List.filter_cons, List.filter_nil, factAt, depsHold] at hd); simp only [putsFrom, Act.put, List.setIfInBounds_toArray, List.set_cons_succ, List.set_cons_zero]; go_simp; first | exact ⟨Below.refl _ _, rfl⟩ | exact rfl)
        refine growAll_exact ?_; apply Exists.intro; refine ⟨fun vs xq hd => ?_, ?_⟩; focus ((try simp [Oper.waitsOn, Region.binds, List.filter_cons, List.filter_nil, factAt, depsHold] at hd); simp only [putsFrom, Act.put, List.setIfInBounds_toArray, List.set_cons_succ, List.set_cons_zero]; go_simp; first | exact ⟨Below.refl _ _, rfl⟩ | exact rfl)
        refine growAll_exact ?_; apply Exists.intro; refine ⟨fun vs xq hd => ?_, ?_⟩; focus ((try simp [Oper.waitsOn, Region.binds, List.filter_cons, List.filter_nil, factAt, depsHold] at hd); simp only [putsFrom, Act.put, List.setIfInBounds_toArray, List.set_cons_succ, List.set_cons_zero]; go_simp; first | exact ⟨Below.refl _ _, rfl⟩ | exact rfl)
        refine growAll_exact ?_; apply Exists.intro; refine ⟨fun vs xq hd => ?_, ?_⟩; focus ((try simp [Oper.waitsOn, Region.binds, List.filter_cons, List.filter_nil, factAt, depsHold] at hd); simp only [putsFrom, Act.put, List.setIfInBounds_toArray, List.set_cons_succ, List.set_cons_zero]; go_simp; first | exact ⟨Below.refl _ _, rfl⟩ | exact rfl)
        refine growAll_exact ?_; apply Exists.intro; refine ⟨fun vs xq hd => ?_, ?_⟩; focus ((try simp [Oper.waitsOn, Region.binds, List.filter_cons, List.filter_nil, factAt, depsHold] at hd); simp only [putsFrom, Act.put, List.setIfInBounds_toArray, List.set_cons_succ, List.set_cons_zero]; go_simp; first | exact ⟨Below.refl _ _, rfl⟩ | exact rfl)
        refine growAll_exact ?_; apply Exists.intro; refine ⟨fun vs xq hd => ?_, ?_⟩; focus ((try simp [Oper.waitsOn, Region.binds, List.filter_cons, List.filter_nil, factAt, depsHold] at hd); simp only [putsFrom, Act.put, List.setIfInBounds_toArray, List.set_cons_succ, List.set_cons_zero]; go_simp; first | exact ⟨Below.refl _ _, rfl⟩ | exact rfl)
        refine growAll_exact ?_; apply Exists.intro; refine ⟨fun vs xq hd => ?_, ?_⟩; focus ((try simp [Oper.waitsOn, Region.binds, List.filter_cons, List.filter_nil, factAt, depsHold] at hd); simp only [putsFrom, Act.put, List.setIfInBounds_toArray, List.set_cons_succ, List.set_cons_zero]; go_simp; first | exact ⟨Below.refl _ _, rfl⟩ | exact rfl)
        refine growAll_exact ?_; apply Exists.intro; refine ⟨fun vs xq hd => ?_, ?_⟩; focus ((try simp [Oper.waitsOn, Region.binds, List.filter_cons, List.filter_nil, factAt, depsHold] at hd); simp only [putsFrom, Act.put, List.setIfInBounds_toArray, List.set_cons_succ, List.set_cons_zero]; go_simp; first | exact ⟨Below.refl _ _, rfl⟩ | exact rfl)
        refine growAll_exact ?_; apply Exists.intro; refine ⟨fun vs xq hd => ?_, ?_⟩; focus ((try simp [Oper.waitsOn, Region.binds, List.filter_cons, List.filter_nil, factAt, depsHold] at hd); simp only [putsFrom, Act.put, List.setIfInBounds_toArray, List.set_cons_succ, List.set_cons_zero]; go_simp; first | exact ⟨Below.refl _ _, rfl⟩ | exact rfl)
        refine growAll_exact ?_; apply Exists.intro; refine ⟨fun vs xq hd => ?_, ?_⟩; focus ((try simp [Oper.waitsOn, Region.binds, List.filter_cons, List.filter_nil, factAt, depsHold] at hd); simp only [putsFrom, Act.put, List.setIfInBounds_toArray, List.set_cons_succ, List.set_cons_zero]; go_simp; first | exact ⟨Below.refl _ _, rfl⟩ | exact rfl)
        refine growAll_exact ?_; apply Exists.intro; refine ⟨fun vs xq hd => ?_, ?_⟩; focus ((try simp [Oper.waitsOn, Region.binds, List.filter_cons, List.filter_nil, factAt, depsHold] at hd); simp only [putsFrom, Act.put, List.setIfInBounds_toArray, List.set_cons_succ, List.set_cons_zero]; go_simp; first | exact ⟨Below.refl _ _, rfl⟩ | exact rfl)
        refine growAll_exact ?_; apply Exists.intro; refine ⟨fun vs xq hd => ?_, ?_⟩; focus ((try simp [Oper.waitsOn, Region.binds, List.filter_cons, List.filter_nil, factAt, depsHold] at hd); simp only [putsFrom, Act.put, List.setIfInBounds_toArray, List.set_cons_succ, List.set_cons_zero]; go_simp; first | exact ⟨Below.refl _ _, rfl⟩ | exact rfl)
        refine growAll_exact ?_; apply Exists.intro; refine ⟨fun vs xq hd => ?_, ?_⟩; focus ((try simp [Oper.waitsOn, Region.binds, List.filter_cons, List.filter_nil, factAt, depsHold] at hd); simp only [putsFrom, Act.put, List.setIfInBounds_toArray, List.set_cons_succ, List.set_cons_zero]; go_simp; first | exact ⟨Below.refl _ _, rfl⟩ | exact rfl)
        refine growAll_exact ?_; apply Exists.intro; refine ⟨fun vs xq hd => ?_, ?_⟩; focus ((try simp [Oper.waitsOn, Region.binds, List.filter_cons, List.filter_nil, factAt, depsHold] at hd); simp only [putsFrom, Act.put, List.setIfInBounds_toArray, List.set_cons_succ, List.set_cons_zero]; go_simp; first | exact ⟨Below.refl _ _, rfl⟩ | exact rfl)
        refine growAll_exact ?_; apply Exists.intro; refine ⟨fun vs xq hd => ?_, ?_⟩; focus ((try simp [Oper.waitsOn, Region.binds, List.filter_cons, List.filter_nil, factAt, depsHold] at hd); simp only [putsFrom, Act.put, List.setIfInBounds_toArray, List.set_cons_succ, List.set_cons_zero]; go_simp; first | exact ⟨Below.refl _ _, rfl⟩ | exact rfl)
        refine growAll_exact ?_; apply Exists.intro; refine ⟨fun vs xq hd => ?_, ?_⟩; focus ((try simp [Oper.waitsOn, Region.binds, List.filter_cons, List.filter_nil, factAt, depsHold] at hd); simp only [putsFrom, Act.put, List.setIfInBounds_toArray, List.set_cons_succ, List.set_cons_zero]; go_simp; first | exact ⟨Below.refl _ _, rfl⟩ | exact rfl)
        refine growAll_exact ?_; apply Exists.intro; refine ⟨fun vs xq hd => ?_, ?_⟩; focus ((try simp [Oper.waitsOn, Region.binds, List.filter_cons, List.filter_nil, factAt, depsHold] at hd); simp only [putsFrom, Act.put, List.setIfInBounds_toArray, List.set_cons_succ, List.set_cons_zero]; go_simp; first | exact ⟨Below.refl _ _, rfl⟩ | exact rfl)
        refine growAll_exact ?_; apply Exists.intro; refine ⟨fun vs xq hd => ?_, ?_⟩; focus ((try simp [Oper.waitsOn, Region.binds, List.filter_cons, List.filter_nil, factAt, depsHold] at hd); simp only [putsFrom, Act.put, List.setIfInBounds_toArray, List.set_cons_succ, List.set_cons_zero]; go_simp; first | exact ⟨Below.refl _ _, rfl⟩ | exact rfl)
        refine growAll_exact ?_; apply Exists.intro; refine ⟨fun vs xq hd => ?_, ?_⟩; focus ((try simp [Oper.waitsOn, Region.binds, List.filter_cons, List.filter_nil, factAt, depsHold] at hd); simp only [putsFrom, Act.put, List.setIfInBounds_toArray, List.set_cons_succ, List.set_cons_zero]; go_simp; first | exact ⟨Below.refl _ _, rfl⟩ | exact rfl)
        refine growAll_exact ?_; apply Exists.intro; refine ⟨fun vs xq hd => ?_, ?_⟩; focus ((try simp [Oper.waitsOn, Region.binds, List.filter_cons, List.filter_nil, factAt, depsHold] at hd); simp only [putsFrom, Act.put, List.setIfInBounds_toArray, List.set_cons_succ, List.set_cons_zero]; go_simp; first | exact ⟨Below.refl _ _, rfl⟩ | exact rfl)
        refine growAll_exact ?_; apply Exists.intro; refine ⟨fun vs xq hd => ?_, ?_⟩; focus ((try simp [Oper.waitsOn, Region.binds, List.filter_cons, List.filter_nil, factAt, depsHold] at hd); simp only [putsFrom, Act.put, List.setIfInBounds_toArray, List.set_cons_succ, List.set_cons_zero]; go_simp; first | exact ⟨Below.refl _ _, rfl⟩ | exact rfl)
        refine growAll_exact ?_; apply Exists.intro; refine ⟨fun vs xq hd => ?_, ?_⟩; focus ((try simp [Oper.waitsOn, Region.binds, List.filter_cons, List.filter_nil, factAt, depsHold] at hd); simp only [putsFrom, Act.put, List.setIfInBounds_toArray, List.set_cons_succ, List.set_cons_zero]; go_simp; first | exact ⟨Below.refl _ _, rfl⟩ | exact rfl)
        refine growAll_exact ?_; apply Exists.intro; refine ⟨fun vs xq hd => ?_, ?_⟩; focus ((try simp [Oper.waitsOn, Region.binds, List.filter_cons, List.filter_nil, factAt, depsHold] at hd); simp only [putsFrom, Act.put, List.setIfInBounds_toArray, List.set_cons_succ, List.set_cons_zero]; go_simp; first | exact ⟨Below.refl _ _, rfl⟩ | exact rfl)
        refine growAll_exact ?_; apply Exists.intro; refine ⟨fun vs xq hd => ?_, ?_⟩; focus ((try simp [Oper.waitsOn, Region.binds, List.filter_cons, List.filter_nil, factAt, depsHold] at hd); simp only [putsFrom, Act.put, List.setIfInBounds_toArray, List.set_cons_succ, List.set_cons_zero]; go_simp; first | exact ⟨Below.refl _ _, rfl⟩ | exact rfl)
        refine growAll_done (by simp only [List.length_append, List.length_cons, List.length_nil]) (fun vs xq hd => ?_)
        simp [depsHold, factAt, List.range, List.range.loop] at hd
        simp only [putsFrom, Act.put, List.setIfInBounds_toArray, List.set_cons_succ, List.set_cons_zero, List.drop_succ_cons, List.drop_zero]
        have e34 := hd.2.2.2.2.2.2.2.2.2.2.2.2.2.2.2.2.2.2.2.2.2.2.2.2.2.2.2.2.2.2.2.2.2.2
        clear hd
        generalize vs 34 = u34 at *
        subst e34
        have hbl := below_trans hb2 (below_later w2 xq)
        clear K0 K1 K2 K3
        generalize w2.later xq = w3 at *
        go_wp2
        go_ret
        exact RetB.f (fun h => (hY.out.1 (h k hlt)).2.2.1 (by simpa using g3)) (below_trans hb1 hbl)
      have g3' : (y.d == x.d) = false := by simpa using g3
      by_cases h0 : 0 < k
      case neg =>
        have h0i : ¬ (0 < (k : Int)) := by omega
        have h0d : decide (0 < (k : Int)) = false := by simpa using h0
        refine wp_region_grow_all 35 (by kernel_rfl) (by kernel_rfl) ?_
        simp only [List.take_succ_cons, List.take_zero]
        refine growAll_exact ?_; apply Exists.intro; refine ⟨fun vs xq hd => ?_, ?_⟩; focus ((try simp [Oper.waitsOn, Region.binds, List.filter_cons, List.filter_nil, factAt, depsHold] at hd); simp only [putsFrom, Act.put, List.setIfInBounds_toArray, List.set_cons_succ, List.set_cons_zero]; go_simp; first | exact ⟨Below.refl _ _, rfl⟩ | exact rfl)
        refine growAll_exact ?_; apply Exists.intro; refine ⟨fun vs xq hd => ?_, ?_⟩; focus ((try simp [Oper.waitsOn, Region.binds, List.filter_cons, List.filter_nil, factAt, depsHold] at hd); simp only [putsFrom, Act.put, List.setIfInBounds_toArray, List.set_cons_succ, List.set_cons_zero]; go_simp; first | exact ⟨Below.refl _ _, rfl⟩ | exact rfl)
        first | (refine growAll_exact ?_; apply Exists.intro; refine ⟨fun vs xq hd => ?_, ?_⟩; focus ((try simp [Oper.waitsOn, Region.binds, List.filter_cons, List.filter_nil, factAt, depsHold] at hd); simp only [putsFrom, Act.put, List.setIfInBounds_toArray, List.set_cons_succ, List.set_cons_zero]; go_simp; exact rfl)) | (refine growAll_step (fun v w9 => RowOne y.d v w9) (rowOne_stays y.d) (fun vs xq hd => ?_) ?_; focus ((try simp [Oper.waitsOn, Region.binds, List.filter_cons, List.filter_nil, factAt, depsHold] at hd); simp only [putsFrom, Act.put, List.setIfInBounds_toArray, List.set_cons_succ, List.set_cons_zero]; go_simp; exact ⟨below_alloc _ _, _, rfl, new_cell _ _ _ 0 _ rfl⟩))
        refine growAll_exact ?_; apply Exists.intro; refine ⟨fun vs xq hd => ?_, ?_⟩; focus ((try simp [Oper.waitsOn, Region.binds, List.filter_cons, List.filter_nil, factAt, depsHold] at hd); simp only [putsFrom, Act.put, List.setIfInBounds_toArray, List.set_cons_succ, List.set_cons_zero]; go_simp; first | exact ⟨Below.refl _ _, rfl⟩ | exact rfl | (refine (in_sheet1 _ _ _ y.d _ hd hn0).mono ?_; rintro e w9 ⟨rfl, hb9⟩; exact ⟨rfl, hb9⟩))
        refine growAll_exact ?_; apply Exists.intro; refine ⟨fun vs xq hd => ?_, ?_⟩; focus ((try simp [Oper.waitsOn, Region.binds, List.filter_cons, List.filter_nil, factAt, depsHold] at hd); simp only [putsFrom, Act.put, List.setIfInBounds_toArray, List.set_cons_succ, List.set_cons_zero]; go_simp; first | exact ⟨Below.refl _ _, rfl⟩ | exact rfl)
        refine growAll_exact ?_; apply Exists.intro; refine ⟨fun vs xq hd => ?_, ?_⟩; focus ((try simp [Oper.waitsOn, Region.binds, List.filter_cons, List.filter_nil, factAt, depsHold] at hd); simp only [putsFrom, Act.put, List.setIfInBounds_toArray, List.set_cons_succ, List.set_cons_zero]; go_simp; first | exact ⟨Below.refl _ _, rfl⟩ | exact rfl)
        refine growAll_exact ?_; apply Exists.intro; refine ⟨fun vs xq hd => ?_, ?_⟩; focus ((try simp [Oper.waitsOn, Region.binds, List.filter_cons, List.filter_nil, factAt, depsHold] at hd); simp only [putsFrom, Act.put, List.setIfInBounds_toArray, List.set_cons_succ, List.set_cons_zero]; go_simp; first | exact ⟨Below.refl _ _, rfl⟩ | exact rfl)
        refine growAll_exact ?_; apply Exists.intro; refine ⟨fun vs xq hd => ?_, ?_⟩; focus ((try simp [Oper.waitsOn, Region.binds, List.filter_cons, List.filter_nil, factAt, depsHold] at hd); simp only [putsFrom, Act.put, List.setIfInBounds_toArray, List.set_cons_succ, List.set_cons_zero]; go_simp; first | exact ⟨Below.refl _ _, rfl⟩ | exact rfl)
        first | (refine growAll_exact ?_; apply Exists.intro; refine ⟨fun vs xq hd => ?_, ?_⟩; focus ((try simp [Oper.waitsOn, Region.binds, List.filter_cons, List.filter_nil, factAt, depsHold] at hd); simp only [putsFrom, Act.put, List.setIfInBounds_toArray, List.set_cons_succ, List.set_cons_zero]; go_simp; exact rfl)) | (refine growAll_step (fun v w9 => RowOne y.c v w9) (rowOne_stays y.c) (fun vs xq hd => ?_) ?_; focus ((try simp [Oper.waitsOn, Region.binds, List.filter_cons, List.filter_nil, factAt, depsHold] at hd); simp only [putsFrom, Act.put, List.setIfInBounds_toArray, List.set_cons_succ, List.set_cons_zero]; go_simp; exact ⟨below_alloc _ _, _, rfl, new_cell _ _ _ 0 _ rfl⟩))
        refine growAll_exact ?_; apply Exists.intro; refine ⟨fun vs xq hd => ?_, ?_⟩; focus ((try simp [Oper.waitsOn, Region.binds, List.filter_cons, List.filter_nil, factAt, depsHold] at hd); simp only [putsFrom, Act.put, List.setIfInBounds_toArray, List.set_cons_succ, List.set_cons_zero]; go_simp; first | exact ⟨Below.refl _ _, rfl⟩ | exact rfl | (refine (in_sheet1 _ _ _ y.c _ hd.1 hn1).mono ?_; rintro e w9 ⟨rfl, hb9⟩; exact ⟨rfl, hb9⟩))
        refine growAll_exact ?_; apply Exists.intro; refine ⟨fun vs xq hd => ?_, ?_⟩; focus ((try simp [Oper.waitsOn, Region.binds, List.filter_cons, List.filter_nil, factAt, depsHold] at hd); simp only [putsFrom, Act.put, List.setIfInBounds_toArray, List.set_cons_succ, List.set_cons_zero]; go_simp; first | exact ⟨Below.refl _ _, rfl⟩ | exact rfl)
        refine growAll_exact ?_; apply Exists.intro; refine ⟨fun vs xq hd => ?_, ?_⟩; focus ((try simp [Oper.waitsOn, Region.binds, List.filter_cons, List.filter_nil, factAt, depsHold] at hd); simp only [putsFrom, Act.put, List.setIfInBounds_toArray, List.set_cons_succ, List.set_cons_zero]; go_simp; first | exact ⟨Below.refl _ _, rfl⟩ | exact rfl)
        refine growAll_exact ?_; apply Exists.intro; refine ⟨fun vs xq hd => ?_, ?_⟩; focus ((try simp [Oper.waitsOn, Region.binds, List.filter_cons, List.filter_nil, factAt, depsHold] at hd); simp only [putsFrom, Act.put, List.setIfInBounds_toArray, List.set_cons_succ, List.set_cons_zero]; go_simp; first | exact ⟨Below.refl _ _, rfl⟩ | exact rfl)
        refine growAll_exact ?_; apply Exists.intro; refine ⟨fun vs xq hd => ?_, ?_⟩; focus ((try simp [Oper.waitsOn, Region.binds, List.filter_cons, List.filter_nil, factAt, depsHold] at hd); simp only [putsFrom, Act.put, List.setIfInBounds_toArray, List.set_cons_succ, List.set_cons_zero]; go_simp; first | exact ⟨Below.refl _ _, rfl⟩ | exact rfl)
        refine growAll_exact ?_; apply Exists.intro; refine ⟨fun vs xq hd => ?_, ?_⟩; focus ((try simp [Oper.waitsOn, Region.binds, List.filter_cons, List.filter_nil, factAt, depsHold] at hd); simp only [putsFrom, Act.put, List.setIfInBounds_toArray, List.set_cons_succ, List.set_cons_zero]; go_simp; first | exact ⟨Below.refl _ _, rfl⟩ | exact rfl)
        refine growAll_exact ?_; apply Exists.intro; refine ⟨fun vs xq hd => ?_, ?_⟩; focus ((try simp [Oper.waitsOn, Region.binds, List.filter_cons, List.filter_nil, factAt, depsHold] at hd); simp only [putsFrom, Act.put, List.setIfInBounds_toArray, List.set_cons_succ, List.set_cons_zero]; go_simp; first | exact ⟨Below.refl _ _, rfl⟩ | exact rfl)
        refine growAll_exact ?_; apply Exists.intro; refine ⟨fun vs xq hd => ?_, ?_⟩; focus ((try simp [Oper.waitsOn, Region.binds, List.filter_cons, List.filter_nil, factAt, depsHold] at hd); simp only [putsFrom, Act.put, List.setIfInBounds_toArray, List.set_cons_succ, List.set_cons_zero]; go_simp; first | exact ⟨Below.refl _ _, rfl⟩ | exact rfl)
        refine growAll_exact ?_; apply Exists.intro; refine ⟨fun vs xq hd => ?_, ?_⟩; focus ((try simp [Oper.waitsOn, Region.binds, List.filter_cons, List.filter_nil, factAt, depsHold] at hd); simp only [putsFrom, Act.put, List.setIfInBounds_toArray, List.set_cons_succ, List.set_cons_zero]; go_simp; first | exact ⟨Below.refl _ _, rfl⟩ | exact rfl)
        refine growAll_exact ?_; apply Exists.intro; refine ⟨fun vs xq hd => ?_, ?_⟩; focus ((try simp [Oper.waitsOn, Region.binds, List.filter_cons, List.filter_nil, factAt, depsHold] at hd); simp only [putsFrom, Act.put, List.setIfInBounds_toArray, List.set_cons_succ, List.set_cons_zero]; go_simp; first | exact ⟨Below.refl _ _, rfl⟩ | exact rfl)
        refine growAll_exact ?_; apply Exists.intro; refine ⟨fun vs xq hd => ?_, ?_⟩; focus ((try simp [Oper.waitsOn, Region.binds, List.filter_cons, List.filter_nil, factAt, depsHold] at hd); simp only [putsFrom, Act.put, List.setIfInBounds_toArray, List.set_cons_succ, List.set_cons_zero]; go_simp; first | exact ⟨Below.refl _ _, rfl⟩ | exact rfl)
        refine growAll_exact ?_; apply Exists.intro; refine ⟨fun vs xq hd => ?_, ?_⟩; focus ((try simp [Oper.waitsOn, Region.binds, List.filter_cons, List.filter_nil, factAt, depsHold] at hd); simp only [putsFrom, Act.put, List.setIfInBounds_toArray, List.set_cons_succ, List.set_cons_zero]; go_simp; first | exact ⟨Below.refl _ _, rfl⟩ | exact rfl)
        refine growAll_exact ?_; apply Exists.intro; refine ⟨fun vs xq hd => ?_, ?_⟩; focus ((try simp [Oper.waitsOn, Region.binds, List.filter_cons, List.filter_nil, factAt, depsHold] at hd); simp only [putsFrom, Act.put, List.setIfInBounds_toArray, List.set_cons_succ, List.set_cons_zero]; go_simp; first | exact ⟨Below.refl _ _, rfl⟩ | exact rfl)
        refine growAll_exact ?_; apply Exists.intro; refine ⟨fun vs xq hd => ?_, ?_⟩; focus ((try simp [Oper.waitsOn, Region.binds, List.filter_cons, List.filter_nil, factAt, depsHold] at hd); simp only [putsFrom, Act.put, List.setIfInBounds_toArray, List.set_cons_succ, List.set_cons_zero]; go_simp; first | exact ⟨Below.refl _ _, rfl⟩ | exact rfl)
        refine growAll_exact ?_; apply Exists.intro; refine ⟨fun vs xq hd => ?_, ?_⟩; focus ((try simp [Oper.waitsOn, Region.binds, List.filter_cons, List.filter_nil, factAt, depsHold] at hd); simp only [putsFrom, Act.put, List.setIfInBounds_toArray, List.set_cons_succ, List.set_cons_zero]; go_simp; first | exact ⟨Below.refl _ _, rfl⟩ | exact rfl)
        refine growAll_exact ?_; apply Exists.intro; refine ⟨fun vs xq hd => ?_, ?_⟩; focus ((try simp [Oper.waitsOn, Region.binds, List.filter_cons, List.filter_nil, factAt, depsHold] at hd); simp only [putsFrom, Act.put, List.setIfInBounds_toArray, List.set_cons_succ, List.set_cons_zero]; go_simp; first | exact ⟨Below.refl _ _, rfl⟩ | exact rfl)
        refine growAll_exact ?_; apply Exists.intro; refine ⟨fun vs xq hd => ?_, ?_⟩; focus ((try simp [Oper.waitsOn, Region.binds, List.filter_cons, List.filter_nil, factAt, depsHold] at hd); simp only [putsFrom, Act.put, List.setIfInBounds_toArray, List.set_cons_succ, List.set_cons_zero]; go_simp; first | exact ⟨Below.refl _ _, rfl⟩ | exact rfl)
        refine growAll_exact ?_; apply Exists.intro; refine ⟨fun vs xq hd => ?_, ?_⟩; focus ((try simp [Oper.waitsOn, Region.binds, List.filter_cons, List.filter_nil, factAt, depsHold] at hd); simp only [putsFrom, Act.put, List.setIfInBounds_toArray, List.set_cons_succ, List.set_cons_zero]; go_simp; first | exact ⟨Below.refl _ _, rfl⟩ | exact rfl)
        refine growAll_exact ?_; apply Exists.intro; refine ⟨fun vs xq hd => ?_, ?_⟩; focus ((try simp [Oper.waitsOn, Region.binds, List.filter_cons, List.filter_nil, factAt, depsHold] at hd); simp only [putsFrom, Act.put, List.setIfInBounds_toArray, List.set_cons_succ, List.set_cons_zero]; go_simp; first | exact ⟨Below.refl _ _, rfl⟩ | exact rfl)
        refine growAll_exact ?_; apply Exists.intro; refine ⟨fun vs xq hd => ?_, ?_⟩; focus ((try simp [Oper.waitsOn, Region.binds, List.filter_cons, List.filter_nil, factAt, depsHold] at hd); simp only [putsFrom, Act.put, List.setIfInBounds_toArray, List.set_cons_succ, List.set_cons_zero]; go_simp; first | exact ⟨Below.refl _ _, rfl⟩ | exact rfl)
        refine growAll_exact ?_; apply Exists.intro; refine ⟨fun vs xq hd => ?_, ?_⟩; focus ((try simp [Oper.waitsOn, Region.binds, List.filter_cons, List.filter_nil, factAt, depsHold] at hd); simp only [putsFrom, Act.put, List.setIfInBounds_toArray, List.set_cons_succ, List.set_cons_zero]; go_simp; first | exact ⟨Below.refl _ _, rfl⟩ | exact rfl)
        refine growAll_exact ?_; apply Exists.intro; refine ⟨fun vs xq hd => ?_, ?_⟩; focus ((try simp [Oper.waitsOn, Region.binds, List.filter_cons, List.filter_nil, factAt, depsHold] at hd); simp only [putsFrom, Act.put, List.setIfInBounds_toArray, List.set_cons_succ, List.set_cons_zero]; go_simp; first | exact ⟨Below.refl _ _, rfl⟩ | exact rfl)
        refine growAll_exact ?_; apply Exists.intro; refine ⟨fun vs xq hd => ?_, ?_⟩; focus ((try simp [Oper.waitsOn, Region.binds, List.filter_cons, List.filter_nil, factAt, depsHold] at hd); simp only [putsFrom, Act.put, List.setIfInBounds_toArray, List.set_cons_succ, List.set_cons_zero]; go_simp; first | exact ⟨Below.refl _ _, rfl⟩ | exact rfl)
        refine growAll_exact ?_; apply Exists.intro; refine ⟨fun vs xq hd => ?_, ?_⟩; focus ((try simp [Oper.waitsOn, Region.binds, List.filter_cons, List.filter_nil, factAt, depsHold] at hd); simp only [putsFrom, Act.put, List.setIfInBounds_toArray, List.set_cons_succ, List.set_cons_zero]; go_simp; first | exact ⟨Below.refl _ _, rfl⟩ | exact rfl)
        refine growAll_exact ?_; apply Exists.intro; refine ⟨fun vs xq hd => ?_, ?_⟩; focus ((try simp [Oper.waitsOn, Region.binds, List.filter_cons, List.filter_nil, factAt, depsHold] at hd); simp only [putsFrom, Act.put, List.setIfInBounds_toArray, List.set_cons_succ, List.set_cons_zero]; go_simp; first | exact ⟨Below.refl _ _, rfl⟩ | exact rfl)
        refine growAll_exact ?_; apply Exists.intro; refine ⟨fun vs xq hd => ?_, ?_⟩; focus ((try simp [Oper.waitsOn, Region.binds, List.filter_cons, List.filter_nil, factAt, depsHold] at hd); simp only [putsFrom, Act.put, List.setIfInBounds_toArray, List.set_cons_succ, List.set_cons_zero]; go_simp; first | exact ⟨Below.refl _ _, rfl⟩ | exact rfl)
        refine growAll_done (by simp only [List.length_append, List.length_cons, List.length_nil]) (fun vs xq hd => ?_)
        simp [depsHold, factAt, List.range, List.range.loop] at hd
        simp only [putsFrom, Act.put, List.setIfInBounds_toArray, List.set_cons_succ, List.set_cons_zero, List.drop_succ_cons, List.drop_zero]
        have e34 := hd.2.2.2.2.2.2.2.2.2.2.2.2.2.2.2.2.2.2.2.2.2.2.2.2.2.2.2.2.2.2.2.2.2.2
        clear hd
        generalize vs 34 = u34 at *
        subst e34
        have hbl := below_trans hb2 (below_later w2 xq)
        clear K0 K1 K2 K3
        generalize w2.later xq = w3 at *
        go_wp2
        go_roundw
        case rel => exact ⟨k + 1, by go_num, by omega, hbl, all_step _ k hall.out (hY.out.2 ⟨inB_t g1, inB_t g2, by simpa using g3', fun h => absurd h h0⟩)⟩
        case measure => simp [intOf]; omega
      have KP := cell_later (HP2.out h0)
      have hz := HZ.out h0
      have hYY : Hid (ItemOk x k ↔ In y.d 1 9999 ∧ In y.c 1 20 ∧ y.d ≠ x.d ∧ x.items[k - 1].d < y.d) := ⟨fun h => by have := hY.out.1 h; exact ⟨this.1, this.2.1, this.2.2.1, this.2.2.2 h0⟩, fun h => hY.out.2 ⟨h.1, h.2.1, h.2.2.1, fun _ => h.2.2.2⟩⟩
      have hk1 : k - 1 < x.items.length := by omega
      clear HP2 hY HZ
      generalize x.items[k - 1] = z at *
      by_cases g4 : y.d ≤ z.d
      case pos =>
        refine wp_region_grow_all 35 (by kernel_rfl) (by kernel_rfl) ?_
        simp only [List.take_succ_cons, List.take_zero]
        refine growAll_exact ?_; apply Exists.intro; refine ⟨fun vs xq hd => ?_, ?_⟩; focus ((try simp [Oper.waitsOn, Region.binds, List.filter_cons, List.filter_nil, factAt, depsHold] at hd); simp only [putsFrom, Act.put, List.setIfInBounds_toArray, List.set_cons_succ, List.set_cons_zero]; go_simp; first | exact ⟨Below.refl _ _, rfl⟩ | exact rfl)
        refine growAll_exact ?_; apply Exists.intro; refine ⟨fun vs xq hd => ?_, ?_⟩; focus ((try simp [Oper.waitsOn, Region.binds, List.filter_cons, List.filter_nil, factAt, depsHold] at hd); simp only [putsFrom, Act.put, List.setIfInBounds_toArray, List.set_cons_succ, List.set_cons_zero]; go_simp; first | exact ⟨Below.refl _ _, rfl⟩ | exact rfl)
        first | (refine growAll_exact ?_; apply Exists.intro; refine ⟨fun vs xq hd => ?_, ?_⟩; focus ((try simp [Oper.waitsOn, Region.binds, List.filter_cons, List.filter_nil, factAt, depsHold] at hd); simp only [putsFrom, Act.put, List.setIfInBounds_toArray, List.set_cons_succ, List.set_cons_zero]; go_simp; exact rfl)) | (refine growAll_step (fun v w9 => RowOne y.d v w9) (rowOne_stays y.d) (fun vs xq hd => ?_) ?_; focus ((try simp [Oper.waitsOn, Region.binds, List.filter_cons, List.filter_nil, factAt, depsHold] at hd); simp only [putsFrom, Act.put, List.setIfInBounds_toArray, List.set_cons_succ, List.set_cons_zero]; go_simp; exact ⟨below_alloc _ _, _, rfl, new_cell _ _ _ 0 _ rfl⟩))
        refine growAll_exact ?_; apply Exists.intro; refine ⟨fun vs xq hd => ?_, ?_⟩; focus ((try simp [Oper.waitsOn, Region.binds, List.filter_cons, List.filter_nil, factAt, depsHold] at hd); simp only [putsFrom, Act.put, List.setIfInBounds_toArray, List.set_cons_succ, List.set_cons_zero]; go_simp; first | exact ⟨Below.refl _ _, rfl⟩ | exact rfl | (refine (in_sheet1 _ _ _ y.d _ hd hn0).mono ?_; rintro e w9 ⟨rfl, hb9⟩; exact ⟨rfl, hb9⟩))
        refine growAll_exact ?_; apply Exists.intro; refine ⟨fun vs xq hd => ?_, ?_⟩; focus ((try simp [Oper.waitsOn, Region.binds, List.filter_cons, List.filter_nil, factAt, depsHold] at hd); simp only [putsFrom, Act.put, List.setIfInBounds_toArray, List.set_cons_succ, List.set_cons_zero]; go_simp; first | exact ⟨Below.refl _ _, rfl⟩ | exact rfl)
        refine growAll_exact ?_; apply Exists.intro; refine ⟨fun vs xq hd => ?_, ?_⟩; focus ((try simp [Oper.waitsOn, Region.binds, List.filter_cons, List.filter_nil, factAt, depsHold] at hd); simp only [putsFrom, Act.put, List.setIfInBounds_toArray, List.set_cons_succ, List.set_cons_zero]; go_simp; first | exact ⟨Below.refl _ _, rfl⟩ | exact rfl)
        refine growAll_exact ?_; apply Exists.intro; refine ⟨fun vs xq hd => ?_, ?_⟩; focus ((try simp [Oper.waitsOn, Region.binds, List.filter_cons, List.filter_nil, factAt, depsHold] at hd); simp only [putsFrom, Act.put, List.setIfInBounds_toArray, List.set_cons_succ, List.set_cons_zero]; go_simp; first | exact ⟨Below.refl _ _, rfl⟩ | exact rfl)
        refine growAll_exact ?_; apply Exists.intro; refine ⟨fun vs xq hd => ?_, ?_⟩; focus ((try simp [Oper.waitsOn, Region.binds, List.filter_cons, List.filter_nil, factAt, depsHold] at hd); simp only [putsFrom, Act.put, List.setIfInBounds_toArray, List.set_cons_succ, List.set_cons_zero]; go_simp; first | exact ⟨Below.refl _ _, rfl⟩ | exact rfl)
        first | (refine growAll_exact ?_; apply Exists.intro; refine ⟨fun vs xq hd => ?_, ?_⟩; focus ((try simp [Oper.waitsOn, Region.binds, List.filter_cons, List.filter_nil, factAt, depsHold] at hd); simp only [putsFrom, Act.put, List.setIfInBounds_toArray, List.set_cons_succ, List.set_cons_zero]; go_simp; exact rfl)) | (refine growAll_step (fun v w9 => RowOne y.c v w9) (rowOne_stays y.c) (fun vs xq hd => ?_) ?_; focus ((try simp [Oper.waitsOn, Region.binds, List.filter_cons, List.filter_nil, factAt, depsHold] at hd); simp only [putsFrom, Act.put, List.setIfInBounds_toArray, List.set_cons_succ, List.set_cons_zero]; go_simp; exact ⟨below_alloc _ _, _, rfl, new_cell _ _ _ 0 _ rfl⟩))
        refine growAll_exact ?_; apply Exists.intro; refine ⟨fun vs xq hd => ?_, ?_⟩; focus ((try simp [Oper.waitsOn, Region.binds, List.filter_cons, List.filter_nil, factAt, depsHold] at hd); simp only [putsFrom, Act.put, List.setIfInBounds_toArray, List.set_cons_succ, List.set_cons_zero]; go_simp; first | exact ⟨Below.refl _ _, rfl⟩ | exact rfl | (refine (in_sheet1 _ _ _ y.c _ hd.1 hn1).mono ?_; rintro e w9 ⟨rfl, hb9⟩; exact ⟨rfl, hb9⟩))
        refine growAll_exact ?_; apply Exists.intro; refine ⟨fun vs xq hd => ?_, ?_⟩; focus ((try simp [Oper.waitsOn, Region.binds, List.filter_cons, List.filter_nil, factAt, depsHold] at hd); simp only [putsFrom, Act.put, List.setIfInBounds_toArray, List.set_cons_succ, List.set_cons_zero]; go_simp; first | exact ⟨Below.refl _ _, rfl⟩ | exact rfl)
        refine growAll_exact ?_; apply Exists.intro; refine ⟨fun vs xq hd => ?_, ?_⟩; focus ((try simp [Oper.waitsOn, Region.binds, List.filter_cons, List.filter_nil, factAt, depsHold] at hd); simp only [putsFrom, Act.put, List.setIfInBounds_toArray, List.set_cons_succ, List.set_cons_zero]; go_simp; first | exact ⟨Below.refl _ _, rfl⟩ | exact rfl)
        refine growAll_exact ?_; apply Exists.intro; refine ⟨fun vs xq hd => ?_, ?_⟩; focus ((try simp [Oper.waitsOn, Region.binds, List.filter_cons, List.filter_nil, factAt, depsHold] at hd); simp only [putsFrom, Act.put, List.setIfInBounds_toArray, List.set_cons_succ, List.set_cons_zero]; go_simp; first | exact ⟨Below.refl _ _, rfl⟩ | exact rfl)
        refine growAll_exact ?_; apply Exists.intro; refine ⟨fun vs xq hd => ?_, ?_⟩; focus ((try simp [Oper.waitsOn, Region.binds, List.filter_cons, List.filter_nil, factAt, depsHold] at hd); simp only [putsFrom, Act.put, List.setIfInBounds_toArray, List.set_cons_succ, List.set_cons_zero]; go_simp; first | exact ⟨Below.refl _ _, rfl⟩ | exact rfl)
        refine growAll_exact ?_; apply Exists.intro; refine ⟨fun vs xq hd => ?_, ?_⟩; focus ((try simp [Oper.waitsOn, Region.binds, List.filter_cons, List.filter_nil, factAt, depsHold] at hd); simp only [putsFrom, Act.put, List.setIfInBounds_toArray, List.set_cons_succ, List.set_cons_zero]; go_simp; first | exact ⟨Below.refl _ _, rfl⟩ | exact rfl)
        refine growAll_exact ?_; apply Exists.intro; refine ⟨fun vs xq hd => ?_, ?_⟩; focus ((try simp [Oper.waitsOn, Region.binds, List.filter_cons, List.filter_nil, factAt, depsHold] at hd); simp only [putsFrom, Act.put, List.setIfInBounds_toArray, List.set_cons_succ, List.set_cons_zero]; go_simp; first | exact ⟨Below.refl _ _, rfl⟩ | exact rfl)
        refine growAll_exact ?_; apply Exists.intro; refine ⟨fun vs xq hd => ?_, ?_⟩; focus ((try simp [Oper.waitsOn, Region.binds, List.filter_cons, List.filter_nil, factAt, depsHold] at hd); simp only [putsFrom, Act.put, List.setIfInBounds_toArray, List.set_cons_succ, List.set_cons_zero]; go_simp; first | exact ⟨Below.refl _ _, rfl⟩ | exact rfl)
        refine growAll_exact ?_; apply Exists.intro; refine ⟨fun vs xq hd => ?_, ?_⟩; focus ((try simp [Oper.waitsOn, Region.binds, List.filter_cons, List.filter_nil, factAt, depsHold] at hd); simp only [putsFrom, Act.put, List.setIfInBounds_toArray, List.set_cons_succ, List.set_cons_zero]; go_simp; first | exact ⟨Below.refl _ _, rfl⟩ | exact rfl)
        refine growAll_exact ?_; apply Exists.intro; refine ⟨fun vs xq hd => ?_, ?_⟩; focus ((try simp [Oper.waitsOn, Region.binds, List.filter_cons, List.filter_nil, factAt, depsHold] at hd); simp only [putsFrom, Act.put, List.setIfInBounds_toArray, List.set_cons_succ, List.set_cons_zero]; go_simp; first | exact ⟨Below.refl _ _, rfl⟩ | exact rfl)
        refine growAll_exact ?_; apply Exists.intro; refine ⟨fun vs xq hd => ?_, ?_⟩; focus ((try simp [Oper.waitsOn, Region.binds, List.filter_cons, List.filter_nil, factAt, depsHold] at hd); simp only [putsFrom, Act.put, List.setIfInBounds_toArray, List.set_cons_succ, List.set_cons_zero]; go_simp; first | exact ⟨Below.refl _ _, rfl⟩ | exact rfl)
        refine growAll_exact ?_; apply Exists.intro; refine ⟨fun vs xq hd => ?_, ?_⟩; focus ((try simp [Oper.waitsOn, Region.binds, List.filter_cons, List.filter_nil, factAt, depsHold] at hd); simp only [putsFrom, Act.put, List.setIfInBounds_toArray, List.set_cons_succ, List.set_cons_zero]; go_simp; first | exact ⟨Below.refl _ _, rfl⟩ | exact rfl)
        refine growAll_exact ?_; apply Exists.intro; refine ⟨fun vs xq hd => ?_, ?_⟩; focus ((try simp [Oper.waitsOn, Region.binds, List.filter_cons, List.filter_nil, factAt, depsHold] at hd); simp only [putsFrom, Act.put, List.setIfInBounds_toArray, List.set_cons_succ, List.set_cons_zero]; go_simp; first | exact ⟨Below.refl _ _, rfl⟩ | exact rfl)
        refine growAll_exact ?_; apply Exists.intro; refine ⟨fun vs xq hd => ?_, ?_⟩; focus ((try simp [Oper.waitsOn, Region.binds, List.filter_cons, List.filter_nil, factAt, depsHold] at hd); simp only [putsFrom, Act.put, List.setIfInBounds_toArray, List.set_cons_succ, List.set_cons_zero]; go_simp; first | exact ⟨Below.refl _ _, rfl⟩ | exact rfl)
        refine growAll_exact ?_; apply Exists.intro; refine ⟨fun vs xq hd => ?_, ?_⟩; focus ((try simp [Oper.waitsOn, Region.binds, List.filter_cons, List.filter_nil, factAt, depsHold] at hd); simp only [putsFrom, Act.put, List.setIfInBounds_toArray, List.set_cons_succ, List.set_cons_zero]; go_simp; first | exact ⟨Below.refl _ _, rfl⟩ | exact rfl)
        refine growAll_exact ?_; apply Exists.intro; refine ⟨fun vs xq hd => ?_, ?_⟩; focus ((try simp [Oper.waitsOn, Region.binds, List.filter_cons, List.filter_nil, factAt, depsHold] at hd); simp only [putsFrom, Act.put, List.setIfInBounds_toArray, List.set_cons_succ, List.set_cons_zero]; go_simp; first | exact ⟨Below.refl _ _, rfl⟩ | exact rfl)
        refine growAll_exact ?_; apply Exists.intro; refine ⟨fun vs xq hd => ?_, ?_⟩; focus ((try simp [Oper.waitsOn, Region.binds, List.filter_cons, List.filter_nil, factAt, depsHold] at hd); simp only [putsFrom, Act.put, List.setIfInBounds_toArray, List.set_cons_succ, List.set_cons_zero]; go_simp; first | exact ⟨Below.refl _ _, rfl⟩ | exact rfl)
        refine growAll_exact ?_; apply Exists.intro; refine ⟨fun vs xq hd => ?_, ?_⟩; focus ((try simp [Oper.waitsOn, Region.binds, List.filter_cons, List.filter_nil, factAt, depsHold] at hd); simp only [putsFrom, Act.put, List.setIfInBounds_toArray, List.set_cons_succ, List.set_cons_zero]; go_simp; first | exact ⟨Below.refl _ _, rfl⟩ | exact rfl)
        refine growAll_exact ?_; apply Exists.intro; refine ⟨fun vs xq hd => ?_, ?_⟩; focus ((try simp [Oper.waitsOn, Region.binds, List.filter_cons, List.filter_nil, factAt, depsHold] at hd); simp only [putsFrom, Act.put, List.setIfInBounds_toArray, List.set_cons_succ, List.set_cons_zero]; go_simp; first | exact ⟨Below.refl _ _, rfl⟩ | exact rfl)
        refine growAll_exact ?_; apply Exists.intro; refine ⟨fun vs xq hd => ?_, ?_⟩; focus ((try simp [Oper.waitsOn, Region.binds, List.filter_cons, List.filter_nil, factAt, depsHold] at hd); simp only [putsFrom, Act.put, List.setIfInBounds_toArray, List.set_cons_succ, List.set_cons_zero]; go_simp; first | exact ⟨Below.refl _ _, rfl⟩ | exact rfl)
        refine growAll_exact ?_; apply Exists.intro; refine ⟨fun vs xq hd => ?_, ?_⟩; focus ((try simp [Oper.waitsOn, Region.binds, List.filter_cons, List.filter_nil, factAt, depsHold] at hd); simp only [putsFrom, Act.put, List.setIfInBounds_toArray, List.set_cons_succ, List.set_cons_zero]; go_simp; first | exact ⟨Below.refl _ _, rfl⟩ | exact rfl)
        refine growAll_exact ?_; apply Exists.intro; refine ⟨fun vs xq hd => ?_, ?_⟩; focus ((try simp [Oper.waitsOn, Region.binds, List.filter_cons, List.filter_nil, factAt, depsHold] at hd); simp only [putsFrom, Act.put, List.setIfInBounds_toArray, List.set_cons_succ, List.set_cons_zero]; go_simp; first | exact ⟨Below.refl _ _, rfl⟩ | exact rfl)
        refine growAll_exact ?_; apply Exists.intro; refine ⟨fun vs xq hd => ?_, ?_⟩; focus ((try simp [Oper.waitsOn, Region.binds, List.filter_cons, List.filter_nil, factAt, depsHold] at hd); simp only [putsFrom, Act.put, List.setIfInBounds_toArray, List.set_cons_succ, List.set_cons_zero]; go_simp; first | exact ⟨Below.refl _ _, rfl⟩ | exact rfl)
        refine growAll_exact ?_; apply Exists.intro; refine ⟨fun vs xq hd => ?_, ?_⟩; focus ((try simp [Oper.waitsOn, Region.binds, List.filter_cons, List.filter_nil, factAt, depsHold] at hd); simp only [putsFrom, Act.put, List.setIfInBounds_toArray, List.set_cons_succ, List.set_cons_zero]; go_simp; first | exact ⟨Below.refl _ _, rfl⟩ | exact rfl)
        refine growAll_exact ?_; apply Exists.intro; refine ⟨fun vs xq hd => ?_, ?_⟩; focus ((try simp [Oper.waitsOn, Region.binds, List.filter_cons, List.filter_nil, factAt, depsHold] at hd); simp only [putsFrom, Act.put, List.setIfInBounds_toArray, List.set_cons_succ, List.set_cons_zero]; go_simp; first | exact ⟨Below.refl _ _, rfl⟩ | exact rfl)
        refine growAll_exact ?_; apply Exists.intro; refine ⟨fun vs xq hd => ?_, ?_⟩; focus ((try simp [Oper.waitsOn, Region.binds, List.filter_cons, List.filter_nil, factAt, depsHold] at hd); simp only [putsFrom, Act.put, List.setIfInBounds_toArray, List.set_cons_succ, List.set_cons_zero]; go_simp; first | exact ⟨Below.refl _ _, rfl⟩ | exact rfl)
        refine growAll_done (by simp only [List.length_append, List.length_cons, List.length_nil]) (fun vs xq hd => ?_)
        simp [depsHold, factAt, List.range, List.range.loop] at hd
        simp only [putsFrom, Act.put, List.setIfInBounds_toArray, List.set_cons_succ, List.set_cons_zero, List.drop_succ_cons, List.drop_zero]
        have e34 := hd.2.2.2.2.2.2.2.2.2.2.2.2.2.2.2.2.2.2.2.2.2.2.2.2.2.2.2.2.2.2.2.2.2.2
        clear hd
        generalize vs 34 = u34 at *
        subst e34
        have hbl := below_trans hb2 (below_later w2 xq)
        clear K0 K1 K2 K3
        generalize w2.later xq = w3 at *
        clear KP hz
        go_wp2
        go_ret
        exact RetB.f (fun h => by have := (hYY.out.1 (h k hlt)).2.2.2; omega) (below_trans hb1 hbl)
      have g4' : decide (y.d ≤ z.d) = false := by simpa using g4
      refine wp_region_grow_all 35 (by kernel_rfl) (by kernel_rfl) ?_
      simp only [List.take_succ_cons, List.take_zero]
      refine growAll_exact ?_; apply Exists.intro; refine ⟨fun vs xq hd => ?_, ?_⟩; focus ((try simp [Oper.waitsOn, Region.binds, List.filter_cons, List.filter_nil, factAt, depsHold] at hd); simp only [putsFrom, Act.put, List.setIfInBounds_toArray, List.set_cons_succ, List.set_cons_zero]; go_simp; first | exact ⟨Below.refl _ _, rfl⟩ | exact rfl)
      refine growAll_exact ?_; apply Exists.intro; refine ⟨fun vs xq hd => ?_, ?_⟩; focus ((try simp [Oper.waitsOn, Region.binds, List.filter_cons, List.filter_nil, factAt, depsHold] at hd); simp only [putsFrom, Act.put, List.setIfInBounds_toArray, List.set_cons_succ, List.set_cons_zero]; go_simp; first | exact ⟨Below.refl _ _, rfl⟩ | exact rfl)
      first | (refine growAll_exact ?_; apply Exists.intro; refine ⟨fun vs xq hd => ?_, ?_⟩; focus ((try simp [Oper.waitsOn, Region.binds, List.filter_cons, List.filter_nil, factAt, depsHold] at hd); simp only [putsFrom, Act.put, List.setIfInBounds_toArray, List.set_cons_succ, List.set_cons_zero]; go_simp; exact rfl)) | (refine growAll_step (fun v w9 => RowOne y.d v w9) (rowOne_stays y.d) (fun vs xq hd => ?_) ?_; focus ((try simp [Oper.waitsOn, Region.binds, List.filter_cons, List.filter_nil, factAt, depsHold] at hd); simp only [putsFrom, Act.put, List.setIfInBounds_toArray, List.set_cons_succ, List.set_cons_zero]; go_simp; exact ⟨below_alloc _ _, _, rfl, new_cell _ _ _ 0 _ rfl⟩))
      refine growAll_exact ?_; apply Exists.intro; refine ⟨fun vs xq hd => ?_, ?_⟩; focus ((try simp [Oper.waitsOn, Region.binds, List.filter_cons, List.filter_nil, factAt, depsHold] at hd); simp only [putsFrom, Act.put, List.setIfInBounds_toArray, List.set_cons_succ, List.set_cons_zero]; go_simp; first | exact ⟨Below.refl _ _, rfl⟩ | exact rfl | (refine (in_sheet1 _ _ _ y.d _ hd hn0).mono ?_; rintro e w9 ⟨rfl, hb9⟩; exact ⟨rfl, hb9⟩))
      refine growAll_exact ?_; apply Exists.intro; refine ⟨fun vs xq hd => ?_, ?_⟩; focus ((try simp [Oper.waitsOn, Region.binds, List.filter_cons, List.filter_nil, factAt, depsHold] at hd); simp only [putsFrom, Act.put, List.setIfInBounds_toArray, List.set_cons_succ, List.set_cons_zero]; go_simp; first | exact ⟨Below.refl _ _, rfl⟩ | exact rfl)
      refine growAll_exact ?_; apply Exists.intro; refine ⟨fun vs xq hd => ?_, ?_⟩; focus ((try simp [Oper.waitsOn, Region.binds, List.filter_cons, List.filter_nil, factAt, depsHold] at hd); simp only [putsFrom, Act.put, List.setIfInBounds_toArray, List.set_cons_succ, List.set_cons_zero]; go_simp; first | exact ⟨Below.refl _ _, rfl⟩ | exact rfl)
      refine growAll_exact ?_; apply Exists.intro; refine ⟨fun vs xq hd => ?_, ?_⟩; focus ((try simp [Oper.waitsOn, Region.binds, List.filter_cons, List.filter_nil, factAt, depsHold] at hd); simp only [putsFrom, Act.put, List.setIfInBounds_toArray, List.set_cons_succ, List.set_cons_zero]; go_simp; first | exact ⟨Below.refl _ _, rfl⟩ | exact rfl)
      refine growAll_exact ?_; apply Exists.intro; refine ⟨fun vs xq hd => ?_, ?_⟩; focus ((try simp [Oper.waitsOn, Region.binds, List.filter_cons, List.filter_nil, factAt, depsHold] at hd); simp only [putsFrom, Act.put, List.setIfInBounds_toArray, List.set_cons_succ, List.set_cons_zero]; go_simp; first | exact ⟨Below.refl _ _, rfl⟩ | exact rfl)
      first | (refine growAll_exact ?_; apply Exists.intro; refine ⟨fun vs xq hd => ?_, ?_⟩; focus ((try simp [Oper.waitsOn, Region.binds, List.filter_cons, List.filter_nil, factAt, depsHold] at hd); simp only [putsFrom, Act.put, List.setIfInBounds_toArray, List.set_cons_succ, List.set_cons_zero]; go_simp; exact rfl)) | (refine growAll_step (fun v w9 => RowOne y.c v w9) (rowOne_stays y.c) (fun vs xq hd => ?_) ?_; focus ((try simp [Oper.waitsOn, Region.binds, List.filter_cons, List.filter_nil, factAt, depsHold] at hd); simp only [putsFrom, Act.put, List.setIfInBounds_toArray, List.set_cons_succ, List.set_cons_zero]; go_simp; exact ⟨below_alloc _ _, _, rfl, new_cell _ _ _ 0 _ rfl⟩))
      refine growAll_exact ?_; apply Exists.intro; refine ⟨fun vs xq hd => ?_, ?_⟩; focus ((try simp [Oper.waitsOn, Region.binds, List.filter_cons, List.filter_nil, factAt, depsHold] at hd); simp only [putsFrom, Act.put, List.setIfInBounds_toArray, List.set_cons_succ, List.set_cons_zero]; go_simp; first | exact ⟨Below.refl _ _, rfl⟩ | exact rfl | (refine (in_sheet1 _ _ _ y.c _ hd.1 hn1).mono ?_; rintro e w9 ⟨rfl, hb9⟩; exact ⟨rfl, hb9⟩))
      refine growAll_exact ?_; apply Exists.intro; refine ⟨fun vs xq hd => ?_, ?_⟩; focus ((try simp [Oper.waitsOn, Region.binds, List.filter_cons, List.filter_nil, factAt, depsHold] at hd); simp only [putsFrom, Act.put, List.setIfInBounds_toArray, List.set_cons_succ, List.set_cons_zero]; go_simp; first | exact ⟨Below.refl _ _, rfl⟩ | exact rfl)
      refine growAll_exact ?_; apply Exists.intro; refine ⟨fun vs xq hd => ?_, ?_⟩; focus ((try simp [Oper.waitsOn, Region.binds, List.filter_cons, List.filter_nil, factAt, depsHold] at hd); simp only [putsFrom, Act.put, List.setIfInBounds_toArray, List.set_cons_succ, List.set_cons_zero]; go_simp; first | exact ⟨Below.refl _ _, rfl⟩ | exact rfl)
      refine growAll_exact ?_; apply Exists.intro; refine ⟨fun vs xq hd => ?_, ?_⟩; focus ((try simp [Oper.waitsOn, Region.binds, List.filter_cons, List.filter_nil, factAt, depsHold] at hd); simp only [putsFrom, Act.put, List.setIfInBounds_toArray, List.set_cons_succ, List.set_cons_zero]; go_simp; first | exact ⟨Below.refl _ _, rfl⟩ | exact rfl)
      refine growAll_exact ?_; apply Exists.intro; refine ⟨fun vs xq hd => ?_, ?_⟩; focus ((try simp [Oper.waitsOn, Region.binds, List.filter_cons, List.filter_nil, factAt, depsHold] at hd); simp only [putsFrom, Act.put, List.setIfInBounds_toArray, List.set_cons_succ, List.set_cons_zero]; go_simp; first | exact ⟨Below.refl _ _, rfl⟩ | exact rfl)
      refine growAll_exact ?_; apply Exists.intro; refine ⟨fun vs xq hd => ?_, ?_⟩; focus ((try simp [Oper.waitsOn, Region.binds, List.filter_cons, List.filter_nil, factAt, depsHold] at hd); simp only [putsFrom, Act.put, List.setIfInBounds_toArray, List.set_cons_succ, List.set_cons_zero]; go_simp; first | exact ⟨Below.refl _ _, rfl⟩ | exact rfl)
      refine growAll_exact ?_; apply Exists.intro; refine ⟨fun vs xq hd => ?_, ?_⟩; focus ((try simp [Oper.waitsOn, Region.binds, List.filter_cons, List.filter_nil, factAt, depsHold] at hd); simp only [putsFrom, Act.put, List.setIfInBounds_toArray, List.set_cons_succ, List.set_cons_zero]; go_simp; first | exact ⟨Below.refl _ _, rfl⟩ | exact rfl)
      refine growAll_exact ?_; apply Exists.intro; refine ⟨fun vs xq hd => ?_, ?_⟩; focus ((try simp [Oper.waitsOn, Region.binds, List.filter_cons, List.filter_nil, factAt, depsHold] at hd); simp only [putsFrom, Act.put, List.setIfInBounds_toArray, List.set_cons_succ, List.set_cons_zero]; go_simp; first | exact ⟨Below.refl _ _, rfl⟩ | exact rfl)
      refine growAll_exact ?_; apply Exists.intro; refine ⟨fun vs xq hd => ?_, ?_⟩; focus ((try simp [Oper.waitsOn, Region.binds, List.filter_cons, List.filter_nil, factAt, depsHold] at hd); simp only [putsFrom, Act.put, List.setIfInBounds_toArray, List.set_cons_succ, List.set_cons_zero]; go_simp; first | exact ⟨Below.refl _ _, rfl⟩ | exact rfl)
      refine growAll_exact ?_; apply Exists.intro; refine ⟨fun vs xq hd => ?_, ?_⟩; focus ((try simp [Oper.waitsOn, Region.binds, List.filter_cons, List.filter_nil, factAt, depsHold] at hd); simp only [putsFrom, Act.put, List.setIfInBounds_toArray, List.set_cons_succ, List.set_cons_zero]; go_simp; first | exact ⟨Below.refl _ _, rfl⟩ | exact rfl)
      refine growAll_exact ?_; apply Exists.intro; refine ⟨fun vs xq hd => ?_, ?_⟩; focus ((try simp [Oper.waitsOn, Region.binds, List.filter_cons, List.filter_nil, factAt, depsHold] at hd); simp only [putsFrom, Act.put, List.setIfInBounds_toArray, List.set_cons_succ, List.set_cons_zero]; go_simp; first | exact ⟨Below.refl _ _, rfl⟩ | exact rfl)
      refine growAll_exact ?_; apply Exists.intro; refine ⟨fun vs xq hd => ?_, ?_⟩; focus ((try simp [Oper.waitsOn, Region.binds, List.filter_cons, List.filter_nil, factAt, depsHold] at hd); simp only [putsFrom, Act.put, List.setIfInBounds_toArray, List.set_cons_succ, List.set_cons_zero]; go_simp; first | exact ⟨Below.refl _ _, rfl⟩ | exact rfl)
      refine growAll_exact ?_; apply Exists.intro; refine ⟨fun vs xq hd => ?_, ?_⟩; focus ((try simp [Oper.waitsOn, Region.binds, List.filter_cons, List.filter_nil, factAt, depsHold] at hd); simp only [putsFrom, Act.put, List.setIfInBounds_toArray, List.set_cons_succ, List.set_cons_zero]; go_simp; first | exact ⟨Below.refl _ _, rfl⟩ | exact rfl)
      refine growAll_exact ?_; apply Exists.intro; refine ⟨fun vs xq hd => ?_, ?_⟩; focus ((try simp [Oper.waitsOn, Region.binds, List.filter_cons, List.filter_nil, factAt, depsHold] at hd); simp only [putsFrom, Act.put, List.setIfInBounds_toArray, List.set_cons_succ, List.set_cons_zero]; go_simp; first | exact ⟨Below.refl _ _, rfl⟩ | exact rfl)
      refine growAll_exact ?_; apply Exists.intro; refine ⟨fun vs xq hd => ?_, ?_⟩; focus ((try simp [Oper.waitsOn, Region.binds, List.filter_cons, List.filter_nil, factAt, depsHold] at hd); simp only [putsFrom, Act.put, List.setIfInBounds_toArray, List.set_cons_succ, List.set_cons_zero]; go_simp; first | exact ⟨Below.refl _ _, rfl⟩ | exact rfl)
      refine growAll_exact ?_; apply Exists.intro; refine ⟨fun vs xq hd => ?_, ?_⟩; focus ((try simp [Oper.waitsOn, Region.binds, List.filter_cons, List.filter_nil, factAt, depsHold] at hd); simp only [putsFrom, Act.put, List.setIfInBounds_toArray, List.set_cons_succ, List.set_cons_zero]; go_simp; first | exact ⟨Below.refl _ _, rfl⟩ | exact rfl)
      refine growAll_exact ?_; apply Exists.intro; refine ⟨fun vs xq hd => ?_, ?_⟩; focus ((try simp [Oper.waitsOn, Region.binds, List.filter_cons, List.filter_nil, factAt, depsHold] at hd); simp only [putsFrom, Act.put, List.setIfInBounds_toArray, List.set_cons_succ, List.set_cons_zero]; go_simp; first | exact ⟨Below.refl _ _, rfl⟩ | exact rfl)
      refine growAll_exact ?_; apply Exists.intro; refine ⟨fun vs xq hd => ?_, ?_⟩; focus ((try simp [Oper.waitsOn, Region.binds, List.filter_cons, List.filter_nil, factAt, depsHold] at hd); simp only [putsFrom, Act.put, List.setIfInBounds_toArray, List.set_cons_succ, List.set_cons_zero]; go_simp; first | exact ⟨Below.refl _ _, rfl⟩ | exact rfl)
      refine growAll_exact ?_; apply Exists.intro; refine ⟨fun vs xq hd => ?_, ?_⟩; focus ((try simp [Oper.waitsOn, Region.binds, List.filter_cons, List.filter_nil, factAt, depsHold] at hd); simp only [putsFrom, Act.put, List.setIfInBounds_toArray, List.set_cons_succ, List.set_cons_zero]; go_simp; first | exact ⟨Below.refl _ _, rfl⟩ | exact rfl)
      refine growAll_exact ?_; apply Exists.intro; refine ⟨fun vs xq hd => ?_, ?_⟩; focus ((try simp [Oper.waitsOn, Region.binds, List.filter_cons, List.filter_nil, factAt, depsHold] at hd); simp only [putsFrom, Act.put, List.setIfInBounds_toArray, List.set_cons_succ, List.set_cons_zero]; go_simp; first | exact ⟨Below.refl _ _, rfl⟩ | exact rfl)
      refine growAll_exact ?_; apply Exists.intro; refine ⟨fun vs xq hd => ?_, ?_⟩; focus ((try simp [Oper.waitsOn, Region.binds, List.filter_cons, List.filter_nil, factAt, depsHold] at hd); simp only [putsFrom, Act.put, List.setIfInBounds_toArray, List.set_cons_succ, List.set_cons_zero]; go_simp; first | exact ⟨Below.refl _ _, rfl⟩ | exact rfl)
      refine growAll_exact ?_; apply Exists.intro; refine ⟨fun vs xq hd => ?_, ?_⟩; focus ((try simp [Oper.waitsOn, Region.binds, List.filter_cons, List.filter_nil, factAt, depsHold] at hd); simp only [putsFrom, Act.put, List.setIfInBounds_toArray, List.set_cons_succ, List.set_cons_zero]; go_simp; first | exact ⟨Below.refl _ _, rfl⟩ | exact rfl)
      refine growAll_exact ?_; apply Exists.intro; refine ⟨fun vs xq hd => ?_, ?_⟩; focus ((try simp [Oper.waitsOn, Region.binds, List.filter_cons, List.filter_nil, factAt, depsHold] at hd); simp only [putsFrom, Act.put, List.setIfInBounds_toArray, List.set_cons_succ, List.set_cons_zero]; go_simp; first | exact ⟨Below.refl _ _, rfl⟩ | exact rfl)
      refine growAll_exact ?_; apply Exists.intro; refine ⟨fun vs xq hd => ?_, ?_⟩; focus ((try simp [Oper.waitsOn, Region.binds, List.filter_cons, List.filter_nil, factAt, depsHold] at hd); simp only [putsFrom, Act.put, List.setIfInBounds_toArray, List.set_cons_succ, List.set_cons_zero]; go_simp; first | exact ⟨Below.refl _ _, rfl⟩ | exact rfl)
      refine growAll_exact ?_; apply Exists.intro; refine ⟨fun vs xq hd => ?_, ?_⟩; focus ((try simp [Oper.waitsOn, Region.binds, List.filter_cons, List.filter_nil, factAt, depsHold] at hd); simp only [putsFrom, Act.put, List.setIfInBounds_toArray, List.set_cons_succ, List.set_cons_zero]; go_simp; first | exact ⟨Below.refl _ _, rfl⟩ | exact rfl)
      refine growAll_exact ?_; apply Exists.intro; refine ⟨fun vs xq hd => ?_, ?_⟩; focus ((try simp [Oper.waitsOn, Region.binds, List.filter_cons, List.filter_nil, factAt, depsHold] at hd); simp only [putsFrom, Act.put, List.setIfInBounds_toArray, List.set_cons_succ, List.set_cons_zero]; go_simp; first | exact ⟨Below.refl _ _, rfl⟩ | exact rfl)
      refine growAll_done (by simp only [List.length_append, List.length_cons, List.length_nil]) (fun vs xq hd => ?_)
      simp [depsHold, factAt, List.range, List.range.loop] at hd
      simp only [putsFrom, Act.put, List.setIfInBounds_toArray, List.set_cons_succ, List.set_cons_zero, List.drop_succ_cons, List.drop_zero]
      have e34 := hd.2.2.2.2.2.2.2.2.2.2.2.2.2.2.2.2.2.2.2.2.2.2.2.2.2.2.2.2.2.2.2.2.2.2
      clear hd
      generalize vs 34 = u34 at *
      subst e34
      have hbl := below_trans hb2 (below_later w2 xq)
      clear K0 K1 K2 K3
      generalize w2.later xq = w3 at *
      clear KP hz
      go_wp2
      go_roundw
      case rel => exact ⟨k + 1, by go_num, by omega, hbl, all_step _ k hall.out (hYY.out.2 ⟨inB_t g1, inB_t g2, by simpa using g3', by omega⟩)⟩
      case measure => simp [intOf]; omega
    · clear h
      go_wp2
      go_ret
      exact RetB.t (fun j hj => hall.out j (by omega)) (below_trans hb1 hb)

set_option maxRecDepth 100000 in
set_option maxHeartbeats 800000 in
theorem checks2 (w : World) (x : Issue) (vi vd : Value) (h : IssueAt w vi vd x) :
    Calls Tryz.prog 147 #[.agg #[.int .i64 x.d, .int .i64 x.l, .int .u8 x.k, vi, vd]] w (RetB (Chk2 x) w) := by
  obtain ⟨ai, capi, rfl, hli⟩ := sl_shape h.items
  obtain ⟨ad, capd, rfl, hld⟩ := sl_shape h.dims
  obtain ⟨hd0, hd1, hd2, hd3⟩ := h.num
  clear h
  have B := issBox_new w x ai ad capi capd
  have hb1 := below_alloc w (.cells #[.int .i64 x.d, .int .i64 x.l, .int .u8 x.k, .slice ai x.items.length capi, .slice ad x.dims.length capd] 46)
  by_cases k1 : x.k = 1
  · have b1 : (x.k == 1) = true := by simp [k1]
    have K1 := Lib.hid k1
    clear k1
    go_enter Tryz.func147, Tryz.ntmps147
    go_wp2_with fail
    have row := new_cell (w.alloc (.cells #[.int .i64 x.d, .int .i64 x.l, .int .u8 x.k, .slice ai x.items.length capi, .slice ad x.dims.length capd] 46)) #[.int .i64 x.items.length] 3 0 (.int .i64 x.items.length) rfl
    rw [World.size_alloc] at row
    have hb2 := below_trans hb1 (below_alloc (w.alloc (.cells #[.int .i64 x.d, .int .i64 x.l, .int .u8 x.k, .slice ai x.items.length capi, .slice ad x.dims.length capd] 46)) (.cells #[.int .i64 x.items.length] 3))
    have B := B.ext (below_alloc _ (.cells #[.int .i64 x.items.length] 3))
    clear hb1
    generalize (w.alloc _).alloc _ = w1 at *
    refine (in_sheet1 _ _ _ x.items.length _ ⟨_, rfl, row⟩ ⟨by omega, by omega⟩).mono ?_
    rintro e w2 ⟨rfl, hb3⟩
    have hbb := below_trans hb2 hb3
    have c4 := (B.ext hb3).c4
    clear B row hb2 hb3
    unfold Cell at c4
    by_cases g1 : inB x.items.length 1 8 = true
    · have G1 := Lib.hid (inB_t g1)
      go_wp2
      go_ret
      refine ⟨_, rfl, ?_, hbb⟩
      constructor
      · intro h; exact ⟨fun _ => ⟨G1.out, by simpa using h⟩, fun h => absurd K1.out h⟩
      · intro h; have := (h.1 K1.out).2; simpa using this
    · have g1' := inB_ff g1
      go_wp2
      go_ret
      exact RetB.f (fun h => inB_f g1 (h.1 K1.out).1) hbb
  · have b1 : (x.k == 1) = false := by simp [k1]
    have K1 := Lib.hid k1
    clear k1
    go_enter Tryz.func147, Tryz.ntmps147
    go_wp2_with fail
    have row := new_cell (w.alloc (.cells #[.int .i64 x.d, .int .i64 x.l, .int .u8 x.k, .slice ai x.items.length capi, .slice ad x.dims.length capd] 46)) #[.int .i64 x.k] 3 0 (.int .i64 x.k) rfl
    rw [World.size_alloc] at row
    have hb2 := below_trans hb1 (below_alloc (w.alloc (.cells #[.int .i64 x.d, .int .i64 x.l, .int .u8 x.k, .slice ai x.items.length capi, .slice ad x.dims.length capd] 46)) (.cells #[.int .i64 x.k] 3))
    have B := B.ext (below_alloc _ (.cells #[.int .i64 x.k] 3))
    clear hb1
    generalize (w.alloc _).alloc _ = w1 at *
    refine (in_sheet1 _ _ _ x.k _ ⟨_, rfl, row⟩ ⟨by omega, by omega⟩).mono ?_
    rintro e w2 ⟨rfl, hb3⟩
    have hbb := below_trans hb2 hb3
    have c4 := (B.ext hb3).c4
    have c3 := (B.ext hb3).c3
    clear B row hb2 hb3
    unfold Cell at c3 c4
    by_cases g1 : inB x.k 2 3 = true
    · have G1 := Lib.hid (inB_t g1)
      by_cases g2 : x.dims.length ≤ 4
      · go_wp2
        go_ret
        refine ⟨_, rfl, ?_, hbb⟩
        constructor
        · intro h; exact ⟨fun h => absurd h K1.out, fun _ => ⟨G1.out, g2, by simpa using h⟩⟩
        · intro h; have := (h.2 K1.out).2.2; simpa using this
      · go_wp2
        go_ret
        exact ⟨_, rfl, ⟨fun h => by simp at h, fun h => by have := (h.2 K1.out).2.1; omega⟩, hbb⟩
    · have g1' := inB_ff g1
      go_wp2
      go_ret
      exact RetB.f (fun h => inB_f g1 (h.2 K1.out).1) hbb

theorem enter_checks41 : Enters Tryz.prog 151 := enters_of Tryz.func151 (by kernel_rfl) rfl
theorem checks41 (w : World) (d : Dim) (hd : I64 d.n ∧ I64 d.lo ∧ I64 d.up) :
    Calls Tryz.prog 151 #[.agg #[.int .i64 d.n, .int .i64 d.lo, .int .i64 d.up]] w (RetB (¬ DimOk d) w) := by
  have hb1 := below_alloc w (.cells #[.int .i64 d.n, .int .i64 d.lo, .int .i64 d.up] 50)
  go_enter Tryz.func151, Tryz.ntmps151
  go_wp2_with fail
  generalize w.alloc _ = w1 at *
  refine (check_size _ d hd).mono ?_
  rintro e w2 ⟨rfl, hb2⟩
  have H : Hid (sizeCode d ≠ 0 ↔ ¬ DimOk d) := by
    unfold sizeCode
    constructor
    · intro h h1; exact h (if_pos h1)
    · intro h h1; rw [if_neg h] at h1; cases h1
  generalize sizeCode d = c at *
  go_wp2
  go_ret
  exact ⟨c != 0, rfl, by rw [bne_iff_ne]; exact H.out, below_trans hb1 hb2⟩
set_option maxRecDepth 100000 in
theorem checks4 (w : World) (x : Issue) (vi vd : Value) (h : IssueAt w vi vd x) :
    Calls Tryz.prog 149 #[.agg #[.int .i64 x.d, .int .i64 x.l, .int .u8 x.k, vi, vd]] w (RetB (Chk4 x) w) := by
  obtain ⟨ai, capi, rfl, _⟩ := sl_shape h.items
  obtain ⟨ad, capd, rfl, _⟩ := sl_shape h.dims
  have hb1 := below_alloc w (.cells #[.int .i64 x.d, .int .i64 x.l, .int .u8 x.k, .slice ai x.items.length capi, .slice ad x.dims.length capd] 46)
  go_enter Tryz.func149, Tryz.ntmps149
  go_wp2_with fail
  generalize w.alloc _ = w1 at *
  refine (containsFunc_dim _ _ x.dims (h.ext hb1).dims 151 #[] enter_checks41 (fun d => ¬ DimOk d) (fun d hdm w' hb => ?_)).mono ?_
  · simp only [Array.append_empty]
    refine checks41 w' d ?_
    obtain ⟨k, hk, rfl⟩ := List.getElem_of_mem hdm
    obtain ⟨b, off, _, he⟩ := (sl_at h.dims).2 k hk
    exact he.2
  · intro e w2 hr
    rcases hr.both with ⟨k1, rfl, hb2⟩ | ⟨k1, rfl, hb2⟩
    · have K := Lib.hid k1
      clear k1 hr
      go_wp2
      go_ret
      exact RetB.f (fun h => by obtain ⟨x, hx, hn⟩ := K.out; exact hn (h x hx)) (below_trans hb1 hb2)
    · have K := Lib.hid k1
      clear k1 hr
      go_wp2
      go_ret
      exact RetB.t (fun x hx => Classical.byContradiction fun hn => K.out ⟨x, hx, hn⟩) (below_trans hb1 hb2)

end Go.Proofs.YtoibnhkiedpkgaaGreatDoor
