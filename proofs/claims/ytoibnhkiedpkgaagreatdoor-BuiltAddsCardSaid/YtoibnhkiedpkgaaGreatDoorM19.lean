/- The program's look at machines: its pieces. Rows of the call's own where other blocks were written to. What the law writes over: memory of the machines that Add made. -/
import Derived.Test.YtoibnhkiedpkgaaGreatDoorM06
import Derived.Test.YtoibnhkiedpkgaaGreatDoorM08
import Derived.Test.YtoibnhkiedpkgaaGreatDoorM09
import Derived.Test.YtoibnhkiedpkgaaGreatDoorM11
import Derived.Test.YtoibnhkiedpkgaaGreatDoorM18
set_option linter.unusedVariables false
set_option linter.unusedSimpArgs false
set_option linter.all false

namespace Go.Proofs.YtoibnhkiedpkgaaGreatDoor
open Go.RowKit Go.Shelf
attribute [local go_sem] stepOk Oper.grows Oper.growUpon

set_option maxRecDepth 100000 in
theorem check_note (w : World) (vr vn : Value) (R : List Issue) (N : List Note) (h : NoteArg w vr vn R N) (hk : LooksN w) :
    Calls Tryz.prog 28 #[.agg #[vr, vn]] w fun e w' => e = .returned (.int .i64 (notesCode R N)) ∧ Below w.heap.size w w' := by
  have hb1 := below_alloc w (.cells #[vr, vn] 27)
  have LB := Lay.new w 27 #[vr, vn]
  have HA := Lib.hid (h.ext hb1)
  have HK := Lib.hid (hk.ext hb1)
  obtain ⟨ar, cr, rfl, _⟩ := sl_shape h.reg.sl
  obtain ⟨an, cn, rfl, _⟩ := sl_shape h.sl
  have c0 := LB.cell 0 _ rfl
  have c1 := LB.cell 1 _ rfl
  clear h hk LB
  go_enter Tryz.func28, Tryz.ntmps28
  go_wp2_with fail
  refine (opened_note _ _ _ R N HA.out HK.out).mono ?_
  rintro e w2 ⟨⟨p, rfl⟩, hb2⟩
  have hb := below_trans hb1 hb2
  clear c0 c1
  generalize hc : notesCode R N = c at *
  go_wp2
  go_ret
  exact ⟨by rw [hc]; rfl, hb⟩

theorem in_built1 (w : World) (lo hi x : Int) (v : Value) (h : RowOne x v w) (hx : I64 x) :
    Calls Tryz.prog 31 #[.int .i64 lo, .int .i64 hi, v] w fun e w' => e = .returned (.bool (inB x lo hi)) ∧ Below w.heap.size w w' := by
  obtain ⟨b, rfl, hc⟩ := h
  refine (in_built w lo hi _ [x] (sl_row1 hc hx)).mono ?_
  intro e w' h
  rcases h.both with ⟨g1, rfl, hb⟩ | ⟨g1, rfl, hb⟩
  · exact ⟨ret_bool (inB_in (g1 x (by simp))).symm, hb⟩
  · exact ⟨ret_bool (inB_out (fun h => g1 (fun y hy => by simp at hy; rw [hy]; exact h))).symm, hb⟩

open Classical in
noncomputable def partB (R : List Issue) (d l : Int) : Bool := decide (PartR R d l)
open Classical in
theorem partB_iff (R : List Issue) (d l : Int) : partB R d l = true ↔ PartR R d l := by unfold partB; rw [decide_eq_true_iff]
set_option maxRecDepth 100000 in
set_option maxHeartbeats 1600000 in
theorem part_built (w : World) (v : Value) (R : List Issue) (d l : Int) (h : RegArg w v R) (hz : regCode R = 0) (hk : ∀ x ∈ R, In x.k 1 3) :
    Calls Tryz.prog 35 #[.agg #[v], .agg #[.int .i64 d, .int .i64 l]] w fun e w' => e = .returned (.bool (partB R d l)) ∧ Below w.heap.size w w' := by
  have hb1 := below_trans (below_alloc w (.cells #[v] 24)) (below_alloc _ (.cells #[.int .i64 d, .int .i64 l] 84))
  have HA := Lib.hid (h.ext hb1)
  have L0 := (Lay.new w 24 #[v]).alloc (.cells #[.int .i64 d, .int .i64 l] 84)
  obtain ⟨ar, cr, rfl, _⟩ := sl_shape h.sl
  have c0 := L0.cell 0 _ rfl
  clear h L0
  go_enter Tryz.func35, Tryz.ntmps35
  go_wp2_with fail
  refine (at_sheet _ _ R d l HA.out).mono ?_
  rintro e w2 ⟨⟨x1, x2, x3, vi, vs, rfl, ⟨a1, n1, c1, rfl⟩, ⟨a2, n2, c2, rfl⟩, hx3⟩, hb2⟩
  have hb := below_trans hb1 (below_trans hb2 (below_alloc w2 (.cells #[.int .i64 x1, .int .i64 x2, .int .u8 x3, .slice a1 n1 c1, .slice a2 n2 c2] 46)))
  have ha : atCode R d l = if findR R d l ≠ none then 0 else 6 := by unfold atCode; rw [if_pos hz]
  clear c0
  cases hf : findR R d l with
  | none =>
    have e0 : atCode R d l = 6 := by rw [ha, if_neg (by rw [hf]; simp)]
    have hp : partB R d l = false := by
      rw [Bool.eq_false_iff]
      intro h
      obtain ⟨x, hx, _⟩ := (partB_iff _ _ _).1 h
      rw [hf] at hx
      cases hx
    have HP := Lib.hid hp
    rw [e0]
    clear hp ha hx3 hf
    go_wp2
    go_ret
    exact ⟨by rw [HP.out]; rfl, hb⟩
  | some x =>
    have e0 : atCode R d l = 0 := by rw [ha, if_pos (by rw [hf]; simp)]
    have hxk := hx3 x hz hf
    have hin := hk x (by unfold findR at hf; exact List.mem_of_find?_eq_some hf)
    have hp : partB R d l = (x3 != 1) := by
      rw [Bool.eq_iff_iff, partB_iff, bne_iff_ne]
      constructor
      · rintro ⟨y, hy, h1⟩ h2
        rw [hf] at hy
        cases hy
        rw [hxk] at h2
        omega
      · intro h2
        exact ⟨x, hf, by have := hin.1; rw [hxk] at h2; omega⟩
    have HP := Lib.hid hp
    rw [e0]
    clear hp ha hx3 hf hxk
    go_wp2
    go_ret
    exact ⟨by rw [HP.out]; rfl, hb⟩

/-- What is wanted of machines as an argument. -/
structure BuiltArg (w : World) (vr vn vm vh vs : Value) (b : Built) : Prop where
  notes : NoteArg w vr vn b.ns.reg b.ns.notes
  at_ : BuiltAt w vr vn vm vh vs b
  hcap : ∃ a c, vh = .slice a b.hs.length c ∧ b.hs.length ≤ c
  looks : LooksN w
theorem BuiltArg.ext {w w' : World} {vr vn vm vh vs : Value} {b : Built} (hb : Below w.heap.size w w') (h : BuiltArg w vr vn vm vh vs b) : BuiltArg w' vr vn vm vh vs b := ⟨h.notes.ext hb, h.at_.ext hb, h.hcap, h.looks.ext hb⟩

set_option maxRecDepth 100000 in
set_option maxHeartbeats 3200000 in
theorem right_built (w : World) (vr vn vm vh vs : Value) (b : Built) (x : Report) (h : BuiltArg w vr vn vm vh vs b) (hx : RNum x) (hz : regCode b.ns.reg = 0) (hk : ∀ x ∈ b.ns.reg, In x.k 1 3) :
    Calls Tryz.prog 36 #[.agg #[vr, vn, .int .i64 b.of, vm, vh, vs], .agg #[.int .i64 x.num, .int .i64 x.m, .int .i64 x.d, .int .i64 x.l, .int .u8 x.k]] w (RetB (ReportOk b.ns.reg b.ms x) w) := by
  obtain ⟨hn1, hn2, hn3, hn4, hn5⟩ := hx
  obtain ⟨ar, cr, rfl, _⟩ := sl_shape h.at_.reg
  obtain ⟨an, cn, rfl, _⟩ := sl_shape h.at_.notes
  obtain ⟨am, cm, rfl, _⟩ := sl_shape h.at_.ms
  obtain ⟨ah, ch, rfl, _⟩ := sl_shape h.at_.hs
  obtain ⟨az, cz, rfl, _⟩ := sl_shape h.at_.rs
  have hb1 := below_trans (below_alloc w (.cells #[.slice ar b.ns.reg.length cr, .slice an b.ns.notes.length cn, .int .i64 b.of, .slice am b.ms.length cm, .slice ah b.hs.length ch, .slice az b.rs.length cz] 32)) (below_alloc _ (.cells #[.int .i64 x.num, .int .i64 x.m, .int .i64 x.d, .int .i64 x.l, .int .u8 x.k] 34))
  have L0 := (Lay.new w 32 #[.slice ar b.ns.reg.length cr, .slice an b.ns.notes.length cn, .int .i64 b.of, .slice am b.ms.length cm, .slice ah b.hs.length ch, .slice az b.rs.length cz]).alloc (.cells #[.int .i64 x.num, .int .i64 x.m, .int .i64 x.d, .int .i64 x.l, .int .u8 x.k] 34)
  have L1 := Lay.new (w.alloc (.cells #[.slice ar b.ns.reg.length cr, .slice an b.ns.notes.length cn, .int .i64 b.of, .slice am b.ms.length cm, .slice ah b.hs.length ch, .slice az b.rs.length cz] 32)) 34 #[.int .i64 x.num, .int .i64 x.m, .int .i64 x.d, .int .i64 x.l, .int .u8 x.k]
  rw [World.size_alloc] at L1
  have HA := Lib.hid (h.ext hb1)
  clear h
  go_enter Tryz.func36, Tryz.ntmps36
  have hu8 : IntKind.i64.wrap x.k = x.k := IntWalk.i64_in _ (by have := hn5.1; have := hn5.2; omega)
  go_wp2_with fail
  have row := new_cell ((w.alloc (.cells #[.slice ar b.ns.reg.length cr, .slice an b.ns.notes.length cn, .int .i64 b.of, .slice am b.ms.length cm, .slice ah b.hs.length ch, .slice az b.rs.length cz] 32)).alloc (.cells #[.int .i64 x.num, .int .i64 x.m, .int .i64 x.d, .int .i64 x.l, .int .u8 x.k] 34)) #[.int .i64 x.num] 3 0 (.int .i64 x.num) rfl
  simp only [World.size_alloc] at row
  have hb2 := below_alloc ((w.alloc (.cells #[.slice ar b.ns.reg.length cr, .slice an b.ns.notes.length cn, .int .i64 b.of, .slice am b.ms.length cm, .slice ah b.hs.length ch, .slice az b.rs.length cz] 32)).alloc (.cells #[.int .i64 x.num, .int .i64 x.m, .int .i64 x.d, .int .i64 x.l, .int .u8 x.k] 34)) (.cells #[.int .i64 x.num] 3)
  have hb := below_trans hb1 hb2
  have L0 := L0.ext hb2
  have L1 := L1.ext hb2
  have HA := Lib.hid (HA.out.ext hb2)
  clear hb1 hb2
  generalize ((w.alloc _).alloc _).alloc _ = w1 at *
  refine (in_built1 _ _ _ x.num _ ⟨_, rfl, row⟩ hn1).mono ?_
  rintro e w2 ⟨rfl, hb3⟩
  clear row
  have hb := below_trans hb hb3
  have L0 := L0.ext hb3
  have L1 := L1.ext hb3
  have HA := Lib.hid (HA.out.ext hb3)
  by_cases g1 : inB x.num 1 9999 = true
  case neg =>
    have g1' := inB_ff g1
    go_wp2
    go_ret
    exact RetB.f (fun h => inB_f g1 h.1) hb
  have x4 := L1.cell 4 _ rfl
  have l4 := L1.lt
  go_wp2_with fail
  have row := new_cell w2 #[.int .i64 x.k] 3 0 (.int .i64 x.k) rfl
  have hb4 := below_alloc w2 (.cells #[.int .i64 x.k] 3)
  have hb := below_trans hb hb4
  have L0 := L0.ext hb4
  have L1 := L1.ext hb4
  have HA := Lib.hid (HA.out.ext hb4)
  clear x4 l4
  generalize w2.alloc _ = w3 at *
  refine (in_built1 _ _ _ x.k _ ⟨_, rfl, row⟩ ⟨by have := hn5.1; omega, by have := hn5.2; omega⟩).mono ?_
  rintro e w4 ⟨rfl, hb5⟩
  clear row
  have hb := below_trans hb hb5
  have L0 := L0.ext hb5
  have L1 := L1.ext hb5
  have HA := Lib.hid (HA.out.ext hb5)
  by_cases g2 : inB x.k 1 3 = true
  case neg =>
    have g2' := inB_ff g2
    go_wp2
    go_ret
    exact RetB.f (fun h => inB_f g2 h.2.1) hb
  have c3 := L0.cell 3 _ rfl
  have x1 := L1.cell 1 _ rfl
  have l0 := L0.lt
  have l1 := L1.lt
  go_wp2_with fail
  refine (contains_int _ _ b.ms x.m HA.out.at_.ms).mono ?_
  clear c3 x1 l0 l1
  intro e w5 hh
  rcases hh.both with ⟨h1, rfl, rfl⟩ | ⟨h1, rfl, rfl⟩
  case inr =>
    have H1 := Lib.hid h1
    clear hh h1
    go_wp2
    go_ret
    exact RetB.f (fun h => H1.out h.2.2.1) hb
  have H1 := Lib.hid h1
  clear hh h1
  have c0 := L0.cell 0 _ rfl
  have x2 := L1.cell 2 _ rfl
  have x3 := L1.cell 3 _ rfl
  go_wp2_with fail
  refine (part_built _ _ b.ns.reg x.d x.l HA.out.notes.reg hz hk).mono ?_
  clear c0 x2 x3
  rintro e w6 ⟨rfl, hb6⟩
  have hb := below_trans hb hb6
  have HP := Lib.hid (partB_iff b.ns.reg x.d x.l)
  generalize partB b.ns.reg x.d x.l = pb at *
  have G1 := Lib.hid (inB_t g1)
  have G2 := Lib.hid (inB_t g2)
  cases pb with
  | true =>
    go_wp2
    go_ret
    exact RetB.t (show ReportOk b.ns.reg b.ms x from ⟨G1.out, G2.out, H1.out, HP.out.1 (by simp)⟩) hb
  | false =>
    go_wp2
    go_ret
    exact RetB.f (fun (h : ReportOk b.ns.reg b.ms x) => by have := HP.out.2 h.2.2.2; simp at this) hb

theorem enter_c1 : Enters Tryz.prog 30 := enters_of Tryz.func30 (by kernel_rfl) rfl
set_option maxRecDepth 100000 in
set_option maxHeartbeats 3200000 in
theorem rising_built (w : World) (g : Nat) (vm : Value) (ms : List Int) (i : Nat) (hc : Cell w g 2 vm ∨ Cell w g 3 vm) (hg : Cell w g 3 vm) (h : Sl AtInt 1 w vm ms) (hi : i < ms.length) :
    Calls Tryz.prog 30 #[.int .i64 i, .pointer (some ⟨g, 0, none⟩)] w (RetB (∀ h0 : 0 < i, ∀ h1 : i - 1 < ms.length, ms[i - 1] < ms[i]) w) := by
  obtain ⟨am, cm, rfl, _⟩ := sl_shape h
  obtain ⟨b, off, rfl, q0, _⟩ := (sl_at h).2 i hi
  rw [Nat.mul_one] at q0
  have k3 := cell_later hg
  have kq := cell_later q0
  have hil : (i : Int) < ms.length := by omega
  go_enter Tryz.func30, Tryz.ntmps30
  by_cases h0 : i = 0
  · have H := Lib.hid (show ∀ h0 : 0 < i, ∀ h1 : i - 1 < ms.length, ms[i - 1] < ms[i] from fun h => absurd h (by omega))
    have hi0 : ((i : Int) == 0) = true := by simp [h0]
    have HI0 := Lib.hid h0
    clear h0
    go_wp2
    refine wp_region_grow_all 16 (by kernel_rfl) (by kernel_rfl) ?_
    simp only [List.take_succ_cons, List.take_zero]
    refine growAll_exact ?_; apply Exists.intro; refine ⟨fun vs xq hd => ?_, ?_⟩; focus ((try simp [Oper.waitsOn, Region.binds, List.filter_cons, List.filter_nil, factAt, depsHold] at hd); simp only [putsFrom, Act.put, List.setIfInBounds_toArray, List.set_cons_succ, List.set_cons_zero]; go_simp; first | exact ⟨Below.refl _ _, rfl⟩ | exact rfl)
    refine growAll_exact ?_; apply Exists.intro; refine ⟨fun vs xq hd => ?_, ?_⟩; focus ((try simp [Oper.waitsOn, Region.binds, List.filter_cons, List.filter_nil, factAt, depsHold] at hd); simp only [putsFrom, Act.put, List.setIfInBounds_toArray, List.set_cons_succ, List.set_cons_zero]; go_simp; first | exact ⟨Below.refl _ _, rfl⟩ | exact rfl)
    refine growAll_exact ?_; apply Exists.intro; refine ⟨fun vs xq hd => ?_, ?_⟩; focus ((try simp [Oper.waitsOn, Region.binds, List.filter_cons, List.filter_nil, factAt, depsHold] at hd); simp only [putsFrom, Act.put, List.setIfInBounds_toArray, List.set_cons_succ, List.set_cons_zero]; go_simp; first | exact ⟨Below.refl _ _, rfl⟩ | exact rfl)
    refine growAll_exact ?_; apply Exists.intro; refine ⟨fun vs xq hd => ?_, ?_⟩; focus ((try simp [Oper.waitsOn, Region.binds, List.filter_cons, List.filter_nil, factAt, depsHold] at hd); simp only [putsFrom, Act.put, List.setIfInBounds_toArray, List.set_cons_succ, List.set_cons_zero]; go_simp; first | exact ⟨Below.refl _ _, rfl⟩ | exact rfl)
    refine growAll_exact ?_; apply Exists.intro; refine ⟨fun vs xq hd => ?_, ?_⟩; focus ((try simp [Oper.waitsOn, Region.binds, List.filter_cons, List.filter_nil, factAt, depsHold] at hd); simp only [putsFrom, Act.put, List.setIfInBounds_toArray, List.set_cons_succ, List.set_cons_zero]; go_simp; first | exact ⟨Below.refl _ _, rfl⟩ | exact rfl)
    refine growAll_exact ?_; apply Exists.intro; refine ⟨fun vs xq hd => ?_, ?_⟩; focus ((try simp [Oper.waitsOn, Region.binds, List.filter_cons, List.filter_nil, factAt, depsHold] at hd); simp only [putsFrom, Act.put, List.setIfInBounds_toArray, List.set_cons_succ, List.set_cons_zero]; go_simp; first | exact ⟨Below.refl _ _, rfl⟩ | exact rfl)
    refine growAll_exact ?_; apply Exists.intro; refine ⟨fun vs xq hd => ?_, ?_⟩; focus ((try simp [Oper.waitsOn, Region.binds, List.filter_cons, List.filter_nil, factAt, depsHold] at hd); simp only [putsFrom, Act.put, List.setIfInBounds_toArray, List.set_cons_succ, List.set_cons_zero]; go_simp; first | exact ⟨Below.refl _ _, rfl⟩ | exact rfl)
    refine growAll_exact ?_; apply Exists.intro; refine ⟨fun vs xq hd => ?_, ?_⟩; focus ((try simp [Oper.waitsOn, Region.binds, List.filter_cons, List.filter_nil, factAt, depsHold] at hd); simp only [putsFrom, Act.put, List.setIfInBounds_toArray, List.set_cons_succ, List.set_cons_zero]; go_simp; first | exact ⟨Below.refl _ _, rfl⟩ | exact rfl)
    refine growAll_exact ?_; apply Exists.intro; refine ⟨fun vs xq hd => ?_, ?_⟩; focus ((try simp [Oper.waitsOn, Region.binds, List.filter_cons, List.filter_nil, factAt, depsHold] at hd); simp only [putsFrom, Act.put, List.setIfInBounds_toArray, List.set_cons_succ, List.set_cons_zero]; go_simp; first | exact ⟨Below.refl _ _, rfl⟩ | exact rfl)
    refine growAll_exact ?_; apply Exists.intro; refine ⟨fun vs xq hd => ?_, ?_⟩; focus ((try simp [Oper.waitsOn, Region.binds, List.filter_cons, List.filter_nil, factAt, depsHold] at hd); simp only [putsFrom, Act.put, List.setIfInBounds_toArray, List.set_cons_succ, List.set_cons_zero]; go_simp; first | exact ⟨Below.refl _ _, rfl⟩ | exact rfl)
    refine growAll_exact ?_; apply Exists.intro; refine ⟨fun vs xq hd => ?_, ?_⟩; focus ((try simp [Oper.waitsOn, Region.binds, List.filter_cons, List.filter_nil, factAt, depsHold] at hd); simp only [putsFrom, Act.put, List.setIfInBounds_toArray, List.set_cons_succ, List.set_cons_zero]; go_simp; first | exact ⟨Below.refl _ _, rfl⟩ | exact rfl)
    refine growAll_exact ?_; apply Exists.intro; refine ⟨fun vs xq hd => ?_, ?_⟩; focus ((try simp [Oper.waitsOn, Region.binds, List.filter_cons, List.filter_nil, factAt, depsHold] at hd); simp only [putsFrom, Act.put, List.setIfInBounds_toArray, List.set_cons_succ, List.set_cons_zero]; go_simp; first | exact ⟨Below.refl _ _, rfl⟩ | exact rfl)
    refine growAll_exact ?_; apply Exists.intro; refine ⟨fun vs xq hd => ?_, ?_⟩; focus ((try simp [Oper.waitsOn, Region.binds, List.filter_cons, List.filter_nil, factAt, depsHold] at hd); simp only [putsFrom, Act.put, List.setIfInBounds_toArray, List.set_cons_succ, List.set_cons_zero]; go_simp; first | exact ⟨Below.refl _ _, rfl⟩ | exact rfl)
    refine growAll_exact ?_; apply Exists.intro; refine ⟨fun vs xq hd => ?_, ?_⟩; focus ((try simp [Oper.waitsOn, Region.binds, List.filter_cons, List.filter_nil, factAt, depsHold] at hd); simp only [putsFrom, Act.put, List.setIfInBounds_toArray, List.set_cons_succ, List.set_cons_zero]; go_simp; first | exact ⟨Below.refl _ _, rfl⟩ | exact rfl)
    refine growAll_exact ?_; apply Exists.intro; refine ⟨fun vs xq hd => ?_, ?_⟩; focus ((try simp [Oper.waitsOn, Region.binds, List.filter_cons, List.filter_nil, factAt, depsHold] at hd); simp only [putsFrom, Act.put, List.setIfInBounds_toArray, List.set_cons_succ, List.set_cons_zero]; go_simp; first | exact ⟨Below.refl _ _, rfl⟩ | exact rfl)
    refine growAll_exact ?_; apply Exists.intro; refine ⟨fun vs xq hd => ?_, ?_⟩; focus ((try simp [Oper.waitsOn, Region.binds, List.filter_cons, List.filter_nil, factAt, depsHold] at hd); simp only [putsFrom, Act.put, List.setIfInBounds_toArray, List.set_cons_succ, List.set_cons_zero]; go_simp; first | exact ⟨Below.refl _ _, rfl⟩ | exact rfl)
    refine growAll_done (by simp only [List.length_append, List.length_cons, List.length_nil]) (fun vs xq hd => ?_)
    simp [depsHold, factAt, List.range, List.range.loop] at hd
    simp only [putsFrom, Act.put, List.setIfInBounds_toArray, List.set_cons_succ, List.set_cons_zero, List.drop_succ_cons, List.drop_zero]
    obtain ⟨_, _, _, _, _, _, _, _, _, _, _, _, _, _, _, e15⟩ := hd
    simp only [Nat.zero_add, Nat.reduceAdd] at e15 ⊢
    simp only [e15]
    clear k3 kq
    go_wp2
    go_ret
    exact RetB.t H.out (below_later w xq)
  · obtain ⟨b', off', hh, y0, _⟩ := (sl_at h).2 (i - 1) (by omega)
    cases hh
    rw [Nat.mul_one] at y0
    have ky := cell_later y0
    have H : Hid ((∀ h0 : 0 < i, ∀ h1 : i - 1 < ms.length, ms[i - 1] < ms[i]) ↔ ms[i - 1] < ms[i]) := ⟨fun h => h (by omega) (by omega), fun h _ _ => h⟩
    have hi0 : ((i : Int) == 0) = false := by simp [h0]
    have hz : IntKind.i64.wrap ((i : Int) - 1) = ((i - 1 : Nat) : Int) := by rw [IntWalk.i64_in _ (by obtain ⟨_, _, _, hm, _⟩ := h; omega)]; omega
    have hz2 : ((i - 1 : Nat) : Int) < ms.length := by omega
    generalize hP : (∀ h0 : 0 < i, ∀ h1 : i - 1 < ms.length, ms[i - 1] < ms[i]) = PP at *
    generalize ms[i - 1] = y at *
    generalize ms[i] = x at *
    clear h0 hP
    go_wp2
    refine wp_region_grow_all 16 (by kernel_rfl) (by kernel_rfl) ?_
    simp only [List.take_succ_cons, List.take_zero]
    refine growAll_exact ?_; apply Exists.intro; refine ⟨fun vs xq hd => ?_, ?_⟩; focus ((try simp [Oper.waitsOn, Region.binds, List.filter_cons, List.filter_nil, factAt, depsHold] at hd); simp only [putsFrom, Act.put, List.setIfInBounds_toArray, List.set_cons_succ, List.set_cons_zero]; go_simp; first | exact ⟨Below.refl _ _, rfl⟩ | exact rfl)
    refine growAll_exact ?_; apply Exists.intro; refine ⟨fun vs xq hd => ?_, ?_⟩; focus ((try simp [Oper.waitsOn, Region.binds, List.filter_cons, List.filter_nil, factAt, depsHold] at hd); simp only [putsFrom, Act.put, List.setIfInBounds_toArray, List.set_cons_succ, List.set_cons_zero]; go_simp; first | exact ⟨Below.refl _ _, rfl⟩ | exact rfl)
    refine growAll_exact ?_; apply Exists.intro; refine ⟨fun vs xq hd => ?_, ?_⟩; focus ((try simp [Oper.waitsOn, Region.binds, List.filter_cons, List.filter_nil, factAt, depsHold] at hd); simp only [putsFrom, Act.put, List.setIfInBounds_toArray, List.set_cons_succ, List.set_cons_zero]; go_simp; first | exact ⟨Below.refl _ _, rfl⟩ | exact rfl)
    refine growAll_exact ?_; apply Exists.intro; refine ⟨fun vs xq hd => ?_, ?_⟩; focus ((try simp [Oper.waitsOn, Region.binds, List.filter_cons, List.filter_nil, factAt, depsHold] at hd); simp only [putsFrom, Act.put, List.setIfInBounds_toArray, List.set_cons_succ, List.set_cons_zero]; go_simp; first | exact ⟨Below.refl _ _, rfl⟩ | exact rfl)
    refine growAll_exact ?_; apply Exists.intro; refine ⟨fun vs xq hd => ?_, ?_⟩; focus ((try simp [Oper.waitsOn, Region.binds, List.filter_cons, List.filter_nil, factAt, depsHold] at hd); simp only [putsFrom, Act.put, List.setIfInBounds_toArray, List.set_cons_succ, List.set_cons_zero]; go_simp; first | exact ⟨Below.refl _ _, rfl⟩ | exact rfl)
    refine growAll_exact ?_; apply Exists.intro; refine ⟨fun vs xq hd => ?_, ?_⟩; focus ((try simp [Oper.waitsOn, Region.binds, List.filter_cons, List.filter_nil, factAt, depsHold] at hd); simp only [putsFrom, Act.put, List.setIfInBounds_toArray, List.set_cons_succ, List.set_cons_zero]; go_simp; first | exact ⟨Below.refl _ _, rfl⟩ | exact rfl)
    refine growAll_exact ?_; apply Exists.intro; refine ⟨fun vs xq hd => ?_, ?_⟩; focus ((try simp [Oper.waitsOn, Region.binds, List.filter_cons, List.filter_nil, factAt, depsHold] at hd); simp only [putsFrom, Act.put, List.setIfInBounds_toArray, List.set_cons_succ, List.set_cons_zero]; go_simp; first | exact ⟨Below.refl _ _, rfl⟩ | exact rfl)
    refine growAll_exact ?_; apply Exists.intro; refine ⟨fun vs xq hd => ?_, ?_⟩; focus ((try simp [Oper.waitsOn, Region.binds, List.filter_cons, List.filter_nil, factAt, depsHold] at hd); simp only [putsFrom, Act.put, List.setIfInBounds_toArray, List.set_cons_succ, List.set_cons_zero]; go_simp; first | exact ⟨Below.refl _ _, rfl⟩ | exact rfl)
    refine growAll_exact ?_; apply Exists.intro; refine ⟨fun vs xq hd => ?_, ?_⟩; focus ((try simp [Oper.waitsOn, Region.binds, List.filter_cons, List.filter_nil, factAt, depsHold] at hd); simp only [putsFrom, Act.put, List.setIfInBounds_toArray, List.set_cons_succ, List.set_cons_zero]; go_simp; first | exact ⟨Below.refl _ _, rfl⟩ | exact rfl)
    refine growAll_exact ?_; apply Exists.intro; refine ⟨fun vs xq hd => ?_, ?_⟩; focus ((try simp [Oper.waitsOn, Region.binds, List.filter_cons, List.filter_nil, factAt, depsHold] at hd); simp only [putsFrom, Act.put, List.setIfInBounds_toArray, List.set_cons_succ, List.set_cons_zero]; go_simp; first | exact ⟨Below.refl _ _, rfl⟩ | exact rfl)
    refine growAll_exact ?_; apply Exists.intro; refine ⟨fun vs xq hd => ?_, ?_⟩; focus ((try simp [Oper.waitsOn, Region.binds, List.filter_cons, List.filter_nil, factAt, depsHold] at hd); simp only [putsFrom, Act.put, List.setIfInBounds_toArray, List.set_cons_succ, List.set_cons_zero]; go_simp; first | exact ⟨Below.refl _ _, rfl⟩ | exact rfl)
    refine growAll_exact ?_; apply Exists.intro; refine ⟨fun vs xq hd => ?_, ?_⟩; focus ((try simp [Oper.waitsOn, Region.binds, List.filter_cons, List.filter_nil, factAt, depsHold] at hd); simp only [putsFrom, Act.put, List.setIfInBounds_toArray, List.set_cons_succ, List.set_cons_zero]; go_simp; first | exact ⟨Below.refl _ _, rfl⟩ | exact rfl)
    refine growAll_exact ?_; apply Exists.intro; refine ⟨fun vs xq hd => ?_, ?_⟩; focus ((try simp [Oper.waitsOn, Region.binds, List.filter_cons, List.filter_nil, factAt, depsHold] at hd); simp only [putsFrom, Act.put, List.setIfInBounds_toArray, List.set_cons_succ, List.set_cons_zero]; go_simp; first | exact ⟨Below.refl _ _, rfl⟩ | exact rfl)
    refine growAll_exact ?_; apply Exists.intro; refine ⟨fun vs xq hd => ?_, ?_⟩; focus ((try simp [Oper.waitsOn, Region.binds, List.filter_cons, List.filter_nil, factAt, depsHold] at hd); simp only [putsFrom, Act.put, List.setIfInBounds_toArray, List.set_cons_succ, List.set_cons_zero]; go_simp; first | exact ⟨Below.refl _ _, rfl⟩ | exact rfl)
    refine growAll_exact ?_; apply Exists.intro; refine ⟨fun vs xq hd => ?_, ?_⟩; focus ((try simp [Oper.waitsOn, Region.binds, List.filter_cons, List.filter_nil, factAt, depsHold] at hd); simp only [putsFrom, Act.put, List.setIfInBounds_toArray, List.set_cons_succ, List.set_cons_zero]; go_simp; first | exact ⟨Below.refl _ _, rfl⟩ | exact rfl)
    refine growAll_exact ?_; apply Exists.intro; refine ⟨fun vs xq hd => ?_, ?_⟩; focus ((try simp [Oper.waitsOn, Region.binds, List.filter_cons, List.filter_nil, factAt, depsHold] at hd); simp only [putsFrom, Act.put, List.setIfInBounds_toArray, List.set_cons_succ, List.set_cons_zero]; go_simp; first | exact ⟨Below.refl _ _, rfl⟩ | exact rfl)
    refine growAll_done (by simp only [List.length_append, List.length_cons, List.length_nil]) (fun vs xq hd => ?_)
    simp [depsHold, factAt, List.range, List.range.loop] at hd
    simp only [putsFrom, Act.put, List.setIfInBounds_toArray, List.set_cons_succ, List.set_cons_zero, List.drop_succ_cons, List.drop_zero]
    obtain ⟨_, _, _, _, _, _, _, _, _, _, _, _, _, _, _, e15⟩ := hd
    simp only [Nat.zero_add, Nat.reduceAdd] at e15 ⊢
    simp only [e15]
    clear k3 kq ky
    go_wp2
    go_ret
    exact ⟨decide (y < x), rfl, by rw [decide_eq_true_iff]; exact H.out.symm, below_later w xq⟩

theorem enter_c2 : Enters Tryz.prog 33 := enters_of Tryz.func33 (by kernel_rfl) rfl
set_option maxRecDepth 100000 in
set_option maxHeartbeats 3200000 in
theorem same_built (w : World) (o x : Heap) (g : Nat) (hg : Cell w g 0 (.int .i64 x.d) ∧ Cell w g 1 (.int .i64 x.l) ∧ Cell w g 2 (.int .i64 x.lo) ∧ Cell w g 3 (.int .i64 x.hi)) :
    Calls Tryz.prog 33 #[.agg #[.int .i64 o.d, .int .i64 o.l, .int .i64 o.lo, .int .i64 o.hi], .pointer (some ⟨g, 0, none⟩)] w (RetB (o.d = x.d ∧ o.l = x.l) w) := by
  have hb1 := below_alloc w (.cells #[.int .i64 o.d, .int .i64 o.l, .int .i64 o.lo, .int .i64 o.hi] 56)
  have L0 := Lay.new w 56 #[.int .i64 o.d, .int .i64 o.l, .int .i64 o.lo, .int .i64 o.hi]
  have o0 := cell_later (show Cell _ w.heap.size 0 (.int .i64 o.d) from L0.cell 0 _ rfl)
  have o1 := cell_later (show Cell _ w.heap.size 1 (.int .i64 o.l) from L0.cell 1 _ rfl)
  have o2 := cell_later (show Cell _ w.heap.size 2 (.int .i64 o.lo) from L0.cell 2 _ rfl)
  have o3 := cell_later (show Cell _ w.heap.size 3 (.int .i64 o.hi) from L0.cell 3 _ rfl)
  have x0 := cell_later (cell_ext hb1 hg.1)
  have x1 := cell_later (cell_ext hb1 hg.2.1)
  have x2 := cell_later (cell_ext hb1 hg.2.2.1)
  have x3 := cell_later (cell_ext hb1 hg.2.2.2)
  go_enter Tryz.func33, Tryz.ntmps33
  go_wp2
  generalize w.alloc _ = w1 at *
  refine wp_region_grow_all 5 (by kernel_rfl) (by kernel_rfl) ?_
  simp only [List.take_succ_cons, List.take_zero]
  refine growAll_exact ?_; apply Exists.intro; refine ⟨fun vs xq hd => ?_, ?_⟩; focus ((try simp [Oper.waitsOn, Region.binds, List.filter_cons, List.filter_nil, factAt, depsHold] at hd); simp only [putsFrom, Act.put, List.setIfInBounds_toArray, List.set_cons_succ, List.set_cons_zero]; go_simp; first | exact ⟨Below.refl _ _, rfl⟩ | exact rfl)
  refine growAll_exact ?_; apply Exists.intro; refine ⟨fun vs xq hd => ?_, ?_⟩; focus ((try simp [Oper.waitsOn, Region.binds, List.filter_cons, List.filter_nil, factAt, depsHold] at hd); simp only [putsFrom, Act.put, List.setIfInBounds_toArray, List.set_cons_succ, List.set_cons_zero]; go_simp; first | exact ⟨Below.refl _ _, rfl⟩ | exact rfl | (refine (name_built _ o).mono ?_; rintro e w' ⟨rfl, hb⟩; exact ⟨rfl, hb⟩))
  refine growAll_exact ?_; apply Exists.intro; refine ⟨fun vs xq hd => ?_, ?_⟩; focus ((try simp [Oper.waitsOn, Region.binds, List.filter_cons, List.filter_nil, factAt, depsHold] at hd); simp only [putsFrom, Act.put, List.setIfInBounds_toArray, List.set_cons_succ, List.set_cons_zero]; go_simp; first | exact ⟨Below.refl _ _, rfl⟩ | exact rfl)
  refine growAll_exact ?_; apply Exists.intro; refine ⟨fun vs xq hd => ?_, ?_⟩; focus ((try simp [Oper.waitsOn, Region.binds, List.filter_cons, List.filter_nil, factAt, depsHold] at hd); simp only [putsFrom, Act.put, List.setIfInBounds_toArray, List.set_cons_succ, List.set_cons_zero]; go_simp; first | exact ⟨Below.refl _ _, rfl⟩ | exact rfl | (refine (name_built _ x).mono ?_; rintro e w' ⟨rfl, hb⟩; exact ⟨rfl, hb⟩))
  refine growAll_step (fun v _ => v = .bool (decide (o.d = x.d ∧ o.l = x.l))) (fun _ _ _ _ h => h) ?_ ?_
  · intro vs xq hd
    (try simp [Oper.waitsOn, Region.binds, List.filter_cons, List.filter_nil, factAt, depsHold] at hd)
    simp only [putsFrom, Act.put, List.setIfInBounds_toArray, List.set_cons_succ, List.set_cons_zero]
    go_simp
    by_cases p : o.d = x.d <;> by_cases q : o.l = x.l <;> simp [p, q, Below.refl]
  refine growAll_done rfl (fun vs xq hd => ?_)
  simp [depsHold, factAt, List.range, List.range.loop] at hd
  simp only [putsFrom, Act.put, List.setIfInBounds_toArray, List.set_cons_succ, List.set_cons_zero, List.drop_succ_cons, List.drop_zero]
  obtain ⟨_, _, _, _, e4⟩ := hd
  simp only [Nat.zero_add, Nat.reduceAdd] at e4 ⊢
  simp only [e4]
  have hb := below_trans hb1 (below_later w1 xq)
  clear o0 o1 o2 o3 x0 x1 x2 x3
  go_wp2
  go_ret
  exact ⟨_, rfl, by simp, hb⟩

end Go.Proofs.YtoibnhkiedpkgaaGreatDoor

namespace Go.Proofs.YtoibnhkiedpkgaaGreatDoor
open Go.RowKit

theorem ownRow_same {w w' : World} {base base' : Nat} {e : TypeId} {sz n : Nat} {v : Value} {cs : List Value} (h : SameAt base' e w w') (hbb : base' ≤ base) (hown : w.ownsRow base e sz v n cs) : w'.ownsRow base e sz v n cs := by
  obtain ⟨hl, hown⟩ := hown
  refine ⟨hl, ?_⟩
  rcases hown with h0 | ⟨g, cap, cur, hv, hg, hc, h3⟩
  · exact .inl h0
  · exact .inr ⟨g, cap, cur, hv, hg, h g cur (Nat.le_trans hbb hg) hc, h3⟩
theorem New.same {α : Type} {E : World → Nat → Nat → α → Prop} (hE : Local E) {sz : Nat} {e : TypeId} {base : Nat} {w w' : World} {v : Value} {xs : List α} (hs : SameAt base e w w') (h : New E sz e base w v xs) : New E sz e base w' v xs := by
  obtain ⟨cs, hc⟩ := h.2
  exact ⟨sl_unfr (sl_same hE hs h.fr), cs, ownRow_same hs (Nat.le_refl _) hc⟩
/-- Its capacity is that of its length at least. -/
theorem New.cap {α : Type} {E : World → Nat → Nat → α → Prop} {sz : Nat} {e : TypeId} {base : Nat} {w : World} {v : Value} {xs : List α} (h : New E sz e base w v xs) : ∃ a c, v = .slice a xs.length c ∧ xs.length ≤ c := by
  obtain ⟨_, cs, _, h⟩ := h
  rcases h with ⟨rfl, h0⟩ | ⟨g, cap, cur, rfl, _, _, hn, _⟩
  · exact ⟨none, 0, by rw [h0], by omega⟩
  · exact ⟨_, _, rfl, hn⟩
theorem own_cap {w : World} {base n : Nat} {e : TypeId} {sz : Nat} {v : Value} {cs : List Value} (h : w.ownsRow base e sz v n cs) : ∃ a c, v = .slice a n c ∧ n ≤ c := by
  obtain ⟨_, h⟩ := h
  rcases h with ⟨rfl, h0⟩ | ⟨g, cap, cur, rfl, _, _, hn, _⟩
  · exact ⟨none, 0, by rw [h0], by omega⟩
  · exact ⟨_, _, rfl, hn⟩
theorem own_weak {w : World} {base base' n : Nat} {e : TypeId} {sz : Nat} {v : Value} {cs : List Value} (hb : base' ≤ base) (h : w.ownsRow base e sz v n cs) : w.ownsRow base' e sz v n cs := by
  obtain ⟨hl, h⟩ := h
  refine ⟨hl, ?_⟩
  rcases h with h0 | ⟨g, cap, cur, hv, hg, h3⟩
  · exact .inl h0
  · exact .inr ⟨g, cap, cur, hv, Nat.le_trans hb hg, h3⟩
/-- What is written into a block of known cells. -/
theorem Lay.set {W : World} {B : Nat} {cs : Array Value} {t : TypeId} (h : Lay W B cs t) (j : Nat) (u : Value) : Lay (W.setCell ⟨B, j, none⟩ u) B (cs.setIfInBounds j u) t := by
  unfold Lay at *
  exact heap_setCell_same W B j cs t u h
theorem Lay.set_other {W : World} {B B' j : Nat} {cs : Array Value} {t : TypeId} {u : Value} (h : Lay W B cs t) (hne : B ≠ B') : Lay (W.setCell ⟨B', j, none⟩ u) B cs t :=
  (Below.heap_setCell W ⟨B', j, none⟩ u B (by simpa using hne)).trans h
theorem Lay.same {W W' : World} {base B : Nat} {cs : Array Value} {t : TypeId} (h : Lay W B cs t) (hs : SameAt base t W W') (hb : base ≤ B) : Lay W' B cs t := hs B cs hb h
theorem same_lay {W : World} {base B j : Nat} {cs : Array Value} {t e : TypeId} {u : Value} (h : Lay W B cs t) (hne : e ≠ t) : SameAt base e W (W.setCell ⟨B, j, none⟩ u) := same_set_type h hne
theorem same_only {w w' : World} {base g : Nat} {cs : Array Value} {t e : TypeId} (h : w.grownBy w' (some g)) (hl : Lay w g cs t) (hne : e ≠ t) : SameAt base e w w' := fun k cur _ hc => by
  refine (h.block k (Array.getElem?_eq_some_iff.1 hc).1 (fun hh => ?_)).trans hc
  cases hh
  unfold Lay at hl
  rw [hl] at hc
  cases hc
  exact hne rfl
theorem lay_set6 {W : World} {B : Nat} {x0 x1 x2 x3 x4 x5 : Value} {t : TypeId} (h : Lay W B #[x0, x1, x2, x3, x4, x5] t) (u0 u1 u2 u3 u4 u5 : Value) :
    Lay ((((((W.setCell ⟨B, 0, none⟩ u0).setCell ⟨B, 1, none⟩ u1).setCell ⟨B, 2, none⟩ u2).setCell ⟨B, 3, none⟩ u3).setCell ⟨B, 4, none⟩ u4).setCell ⟨B, 5, none⟩ u5) B #[u0, u1, u2, u3, u4, u5] t ∧
    W.grownBy ((((((W.setCell ⟨B, 0, none⟩ u0).setCell ⟨B, 1, none⟩ u1).setCell ⟨B, 2, none⟩ u2).setCell ⟨B, 3, none⟩ u3).setCell ⟨B, 4, none⟩ u4).setCell ⟨B, 5, none⟩ u5) (some B) :=
  ⟨(((((h.set 0 u0).set 1 u1).set 2 u2).set 3 u3).set 4 u4).set 5 u5, grown_join (grown_join (grown_join (grown_join (grown_join (grown_set _ _ _ _) (grown_set _ _ _ _)) (grown_set _ _ _ _)) (grown_set _ _ _ _)) (grown_set _ _ _ _)) (grown_set _ _ _ _)⟩
theorem lay_set2 {W : World} {B : Nat} {x0 x1 x2 x3 x4 x5 : Value} {t : TypeId} (h : Lay W B #[x0, x1, x2, x3, x4, x5] t) (u0 u1 : Value) :
    Lay ((W.setCell ⟨B, 0, none⟩ u0).setCell ⟨B, 1, none⟩ u1) B #[u0, u1, x2, x3, x4, x5] t ∧ W.grownBy ((W.setCell ⟨B, 0, none⟩ u0).setCell ⟨B, 1, none⟩ u1) (some B) :=
  ⟨(h.set 0 u0).set 1 u1, grown_join (grown_set _ _ _ _) (grown_set _ _ _ _)⟩
theorem SameAt.mono {base base' : Nat} {e : TypeId} {w w' : World} (h : SameAt base e w w') (hb : base ≤ base') : SameAt base' e w w' := fun k cur hk hc => h k cur (Nat.le_trans hb hk) hc
/-- The machines that Add makes, but for the register. -/
structure AddMid (zb g4 g7 : Nat) (w : World) (vr vn vm vh vs : Value) (b : Built) (L : List Report) : Prop where
  notes : New AtNote 10 52 zb w vn b.ns.notes
  ms : New AtInt 1 3 zb w vm b.ms
  hs : New AtHeap 4 56 zb w vh b.hs
  rs : w.ownsRow zb 34 5 vs L.length (flatR L)
  box : Lay w g7 #[vr, vn, .int .i64 b.of, vm, vh, vs] 32
  res : Lay w g4 #[.slice none 0 0, .slice none 0 0, .int .i64 0, .slice none 0 0, .slice none 0 0, .slice none 0 0] 32
theorem AddMid.same {zb g4 g7 : Nat} {w w' : World} {vr vn vm vh vs : Value} {b : Built} {L : List Report} (h : AddMid zb g4 g7 w vr vn vm vh vs b L) (hs : ∀ e, e ≠ 46 → SameAt 0 e w w') : AddMid zb g4 g7 w' vr vn vm vh vs b L :=
  ⟨h.notes.same local_note ((hs _ (by decide)).mono (Nat.zero_le _)), h.ms.same local_int ((hs _ (by decide)).mono (Nat.zero_le _)), h.hs.same local_heap ((hs _ (by decide)).mono (Nat.zero_le _)), ownRow_same (hs _ (by decide)) (Nat.zero_le _) h.rs, h.box.same (hs _ (by decide)) (Nat.zero_le _), h.res.same (hs _ (by decide)) (Nat.zero_le _)⟩
theorem AddMid.ext {zb g4 g7 : Nat} {w w' : World} {vr vn vm vh vs : Value} {b : Built} {L : List Report} (h : AddMid zb g4 g7 w vr vn vm vh vs b L) (hb : Below w.heap.size w w') : AddMid zb g4 g7 w' vr vn vm vh vs b L := h.same fun _ _ => same_below hb
theorem own_shape_pos {w : World} {base : Nat} {e : TypeId} {sz n : Nat} {v : Value} {cs : List Value} (h : w.ownsRow base e sz v n cs) (hn : 0 < n) : ∃ g cap, v = .slice (some ⟨g, 0, none⟩) n cap ∧ base ≤ g := by
  rcases h.2 with ⟨_, h0⟩ | ⟨g, cap, _, rfl, hg, _⟩
  · omega
  · exact ⟨g, cap, rfl, hg⟩
theorem AddMid.put {zb g4 g7 : Nat} {w w' : World} {vr vn vm vh vs vs' : Value} {b : Built} {L L' : List Report} (h : AddMid zb g4 g7 w vr vn vm vh vs b L) (hs : ∀ e, e ≠ 34 → SameAt 0 e w w') (hv : vs' = vs) (hr : w'.ownsRow zb 34 5 vs L'.length (flatR L')) : AddMid zb g4 g7 w' vr vn vm vh vs' b L' := by
  subst hv
  exact ⟨h.notes.same local_note ((hs _ (by decide)).mono (Nat.zero_le _)), h.ms.same local_int ((hs _ (by decide)).mono (Nat.zero_le _)), h.hs.same local_heap ((hs _ (by decide)).mono (Nat.zero_le _)), hr, h.box.same (hs _ (by decide)) (Nat.zero_le _), h.res.same (hs _ (by decide)) (Nat.zero_le _)⟩
theorem AddMid.built {zb g4 g7 : Nat} {w : World} {vr vn vm vh vs : Value} {b : Built} {L : List Report} {cs : List Value} (h : AddMid zb g4 g7 w vr vn vm vh vs b L) (hrow : IssRow zb w cs b.ns.reg) (hown : w.ownsRow zb 46 5 vr b.ns.reg.length cs) (hof : I64 b.of) (hnum : ∀ x ∈ L, RNum x) :
    BuiltN zb w vr vn vm vh vs { b with rs := L } := ⟨issRow_sl hrow hown, h.notes.fr, h.ms.fr, h.hs.fr, (flat_sl h.rs hnum).fr, hof⟩
theorem AddMid.arg {zb g4 g7 : Nat} {w : World} {vr vn vm vh vs : Value} {b : Built} {L : List Report} {cs : List Value} (h : AddMid zb g4 g7 w vr vn vm vh vs b L) (hown : w.ownsRow zb 46 5 vr b.ns.reg.length cs) (hb : BuiltN zb w vr vn vm vh vs { b with rs := L }) (h1 : Looks w) (h2 : LooksN w) :
    BuiltArg w vr vn vm vh vs { b with rs := L } := ⟨⟨⟨hb.at.reg, own_cap hown, h1⟩, hb.at.notes, h.notes.cap⟩, hb.at, h.hs.cap, h2⟩
theorem code_zero {b : Built} (h : builtCode b = 0) : notesCode b.ns.reg b.ns.notes = 0 ∧ BuiltOk b := by
  unfold builtCode at h
  by_cases h1 : notesCode b.ns.reg b.ns.notes = 0
  · refine ⟨h1, ?_⟩
    rw [if_neg (by simp [h1])] at h
    by_cases h2 : BuiltOk b
    · exact h2
    · rw [if_neg h2] at h; cases h
  · rw [if_pos h1] at h
    exact absurd h h1
theorem code_ok {b : Built} (h : notesCode b.ns.reg b.ns.notes = 0) (h2 : BuiltOk b) : builtCode b = 0 := by unfold builtCode; rw [if_neg (by simp [h]), if_pos h2]
theorem code_no {b : Built} (h : notesCode b.ns.reg b.ns.notes = 0) (h2 : ¬ BuiltOk b) : builtCode b = 80 := by unfold builtCode; rw [if_neg (by simp [h]), if_neg h2]
theorem own_unfrozen {w : World} {base g n cap : Nat} {e : TypeId} {sz : Nat} {cs : List Value} (h : w.ownsRow base e sz (.slice (some ⟨g, 0, none⟩) n cap) n cs) (j : Nat) : w.frozen? ⟨g, j, none⟩ = false := by
  rcases h.2 with ⟨h, _⟩ | ⟨g', cap', cur, hv, _, hc, _⟩
  · cases h
  · cases hv
    unfold World.frozen?
    rw [hc]
    simp
theorem same_own {w w' : World} {base base' g n cap : Nat} {e e' : TypeId} {sz : Nat} {cs : List Value} (h : w.grownBy w' (some g)) (hown : w.ownsRow base' e' sz (.slice (some ⟨g, 0, none⟩) n cap) n cs) (hne : e ≠ e') : SameAt base e w w' :=
  same_grown (v := .slice (some ⟨g, 0, none⟩) n cap) h hown hne

end Go.Proofs.YtoibnhkiedpkgaaGreatDoor

namespace Go.Proofs.YtoibnhkiedpkgaaGreatDoor
open Go.RowKit

/-- A place of sz cells in memory from block 'base' on, in a block of elements of type e, that may be written to. -/
def Wr {α : Type} (base : Nat) (e : TypeId) (sz : Nat) : World → Nat → Nat → α → Prop := fun w b o _ => base ≤ b ∧ ∃ cur, w.heap[b]? = some (.cells cur e (0, 0)) ∧ o + sz ≤ cur.size
theorem Wr.free {α : Type} {base sz : Nat} {e : TypeId} {w : World} {b o : Nat} {x : α} (h : Wr base e sz w b o x) (j : Nat) : w.frozen? ⟨b, j, none⟩ = false := by
  obtain ⟨_, cur, hc, _⟩ := h
  unfold World.frozen?
  rw [hc]
  simp
theorem Wr.cell {α : Type} {base sz : Nat} {e : TypeId} {w : World} {b o : Nat} {x : α} (h : Wr base e sz w b o x) (j : Nat) (hj : j < sz) : ∃ v, w.cell? ⟨b, o + j, none⟩ = some v := by
  obtain ⟨_, cur, hc, hs⟩ := h
  refine ⟨cur[o + j]'(by omega), ?_⟩
  unfold World.cell?
  rw [hc]
  simp [Array.getElem?_eq_getElem (show o + j < cur.size by omega)]
theorem Wr.lt {α : Type} {base sz : Nat} {e : TypeId} {w : World} {b o : Nat} {x : α} (h : Wr base e sz w b o x) : b < w.heap.size := by
  obtain ⟨_, cur, hc, _⟩ := h
  exact (Array.getElem?_eq_some_iff.1 hc).1
theorem Wr.boxT {α : Type} {base sz : Nat} {e : TypeId} {w : World} {b o : Nat} {x : α} (h : Wr base e sz w b o x) : BoxT w b e := ⟨_, h.2.choose_spec.1⟩
theorem Wr.set {α : Type} {base sz : Nat} {e : TypeId} {w : World} {b o : Nat} {x : α} (h : Wr base e sz w b o x) (g j : Nat) (u : Value) : Wr base e sz (w.setCell ⟨g, j, none⟩ u) b o x := by
  obtain ⟨hb, cur, hc, hs⟩ := h
  by_cases hg : b = g
  · subst hg
    exact ⟨hb, _, heap_setCell_same w b j cur e u hc, by simpa using hs⟩
  · exact ⟨hb, cur, (Below.heap_setCell w ⟨g, j, none⟩ u b (by simpa using hg)).trans hc, hs⟩
theorem wr_of_fr {α : Type} {E : World → Nat → Nat → α → Prop} {base sz : Nat} {e : TypeId} (hE : HasCells E sz) (hsz : 0 < sz) {w : World} {b o : Nat} {x : α} (h : Fr base e E w b o x) : Wr base e sz w b o x := by
  obtain ⟨he, hb, cur, hc⟩ := h
  obtain ⟨u, hu, _⟩ := hE _ _ _ _ he (sz - 1) (by omega)
  refine ⟨hb, cur, hc, ?_⟩
  unfold Cell World.cell? at hu
  rw [hc] at hu
  have := (Array.getElem?_eq_some_iff.1 (show cur[o + (sz - 1)]? = some u by simpa using hu)).1
  omega
/-- An issue whose items and sizes may be written to. -/
def AtIssW (base : Nat) (w : World) (b o : Nat) (x : Issue) : Prop :=
  ∃ vi vd, Cell w b (o + 3) vi ∧ Cell w b (o + 4) vd ∧ Sl (Wr base 48 2) 2 w vi x.items ∧ Sl (Wr base 50 3) 3 w vd x.dims
/-- Machines whose memory may be written to. -/
structure ForX (base g : Nat) (w : World) (vr vn vm vh vs : Value) (b : Built) : Prop where
  box : Lay w g #[vr, vn, .int .i64 b.of, vm, vh, vs] 32
  reg : Sl (Fr base 46 (AtIssW base)) 5 w vr b.ns.reg
  notes : Sl (Wr base 52 10) 10 w vn b.ns.notes
  ms : Sl (Wr base 3 1) 1 w vm b.ms
  hs : Sl (Wr base 56 4) 4 w vh b.hs
  rs : Sl (Wr base 34 5) 5 w vs b.rs
theorem ForX.set {base g k j : Nat} {u : Value} {t : TypeId} {w : World} {vr vn vm vh vs : Value} {b : Built} (h : ForX base g w vr vn vm vh vs b) (hk : BoxT w k t) (h1 : 46 ≠ t) (h2 : 32 ≠ t) : ForX base g (w.setCell ⟨k, j, none⟩ u) vr vn vm vh vs b where
  box := h.box.same (base := 0) (same_boxT hk h2) (Nat.zero_le _)
  reg := sl_to (fun b' o x ⟨⟨vi, vd, c3, c4, si, sd⟩, hb, cur, hc⟩ => by
    have e := same_boxT (base := 0) (j := j) (u := u) hk h1 b' cur (Nat.zero_le _) hc
    have e2 := e.trans hc.symm
    exact ⟨⟨vi, vd, cell_local e2 c3, cell_local e2 c4, sl_to (fun _ _ _ h => h.set _ _ _) si, sl_to (fun _ _ _ h => h.set _ _ _) sd⟩, hb, cur, e⟩) h.reg
  notes := sl_to (fun _ _ _ h => h.set _ _ _) h.notes
  ms := sl_to (fun _ _ _ h => h.set _ _ _) h.ms
  hs := sl_to (fun _ _ _ h => h.set _ _ _) h.hs
  rs := sl_to (fun _ _ _ h => h.set _ _ _) h.rs
theorem ForX.of {base g : Nat} {w : World} {vr vn vm vh vs : Value} {b : Built} (h : BuiltN base w vr vn vm vh vs b) (hl : Lay w g #[vr, vn, .int .i64 b.of, vm, vh, vs] 32) : ForX base g w vr vn vm vh vs b where
  box := hl
  reg := sl_map (fun _ _ _ ⟨⟨_, _, vi, vd, c3, c4, si, sd⟩, hb, cur, hc⟩ => ⟨⟨vi, vd, c3, c4, sl_map (fun _ _ _ h => wr_of_fr cells_item (by decide) h) si, sl_map (fun _ _ _ h => wr_of_fr cells_dim (by decide) h) sd⟩, hb, cur, hc⟩) h.reg
  notes := sl_map (fun _ _ _ h => wr_of_fr cells_note (by decide) h) h.notes
  ms := sl_map (fun _ _ _ h => wr_of_fr cells_int (by decide) h) h.ms
  hs := sl_map (fun _ _ _ h => wr_of_fr cells_heap (by decide) h) h.hs
  rs := sl_map (fun _ _ _ h => wr_of_fr cells_report (by decide) h) h.rs

/-- An issue of theirs: where its lists are. -/
theorem ForX.iss {base g n cr : Nat} {ar : Option Addr} {w : World} {vn vm vh vs : Value} {b : Built} (h : ForX base g w (.slice ar n cr) vn vm vh vs b) {k : Nat} {x : Issue} (hx : b.ns.reg[k]? = some x) :
    ∃ bb off ai ci ad cd, ar = some ⟨bb, off, none⟩ ∧ w.cell? ⟨bb, off + k * 5 + 3, none⟩ = some (.slice ai x.items.length ci) ∧ w.cell? ⟨bb, off + k * 5 + 4, none⟩ = some (.slice ad x.dims.length cd) ∧
      Sl (Wr base 48 2) 2 w (.slice ai x.items.length ci) x.items ∧ Sl (Wr base 50 3) 3 w (.slice ad x.dims.length cd) x.dims ∧ x.items.length ≤ 9223372036854775807 ∧ x.dims.length ≤ 9223372036854775807 := by
  obtain ⟨hk, rfl⟩ := List.getElem?_eq_some_iff.1 hx
  obtain ⟨bb, off, rfl, ⟨vi, vd, c3, c4, si, sd⟩, _⟩ := (sl_at h.reg).2 k hk
  obtain ⟨ai, ci, rfl, h1⟩ := sl_shape si
  obtain ⟨ad, cd, rfl, h2⟩ := sl_shape sd
  exact ⟨bb, off, ai, ci, ad, cd, rfl, c3, c4, si, sd, h1, h2⟩
/-- A cell that may be written to. -/
theorem wr_at {α : Type} {base sz n cap : Nat} {e : TypeId} {w : World} {a : Option Addr} {xs : List α} (h : Sl (Wr base e sz) sz w (.slice a n cap) xs) (j k : Nat) (hj : j < xs.length) (hk : k < sz) :
    ∃ b o v, a = some ⟨b, o, none⟩ ∧ w.cell? ⟨b, o + j * sz + k, none⟩ = some v ∧ w.frozen? ⟨b, o + j * sz + k, none⟩ = false ∧ base ≤ b ∧ b < w.heap.size ∧ BoxT w b e := by
  obtain ⟨b, o, rfl, hw⟩ := (sl_at h).2 j hj
  obtain ⟨v, hv⟩ := hw.cell k hk
  exact ⟨b, o, v, rfl, hv, hw.free _, hw.1, hw.lt, hw.boxT⟩

/-- The machines that Add hands out: none where it tells an error. -/
noncomputable def addX (b : Built) (r : Report) : Built := open Classical in if addCode b r = 0 then addB b r else ⟨⟨[], []⟩, 0, [], [], []⟩
theorem RetAdd.out {b : Built} {r : Report} {w w' : World} {e : Ending} (h : RetAdd b r w e w') : Below w.heap.size w w' ∧ ∃ vr vn vm vh vs, e = .returned (.tuple #[.agg #[vr, vn, .int .i64 (addX b r).of, vm, vh, vs], .int .i64 (addCode b r)]) ∧ BuiltN w.heap.size w' vr vn vm vh vs (addX b r) := by
  obtain ⟨hb, h⟩ := h
  refine ⟨hb, ?_⟩
  rcases h with ⟨h0, rfl⟩ | ⟨h0, vr, vn, vm, vh, vs, rfl, hN⟩
  · refine ⟨_, _, _, _, _, by unfold addX; rw [if_neg h0], ?_⟩
    unfold addX
    rw [if_neg h0]
    exact ⟨sl_empty _ _ _ _ _, sl_empty _ _ _ _ _, sl_empty _ _ _ _ _, sl_empty _ _ _ _ _, sl_empty _ _ _ _ _, by unfold I64; exact ⟨by decide, by decide⟩⟩
  · have e0 : addX b r = addB b r := by unfold addX; rw [if_pos h0]
    refine ⟨vr, vn, vm, vh, vs, by rw [e0, h0]; rfl, ?_⟩
    rw [e0]
    exact hN

end Go.Proofs.YtoibnhkiedpkgaaGreatDoor
