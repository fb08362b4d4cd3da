/- The program's register: its drawings, its last letters, its issues. The looks that a note gets. -/
import Derived.Test.YtoibnhkiedpkgaaGreatDoorM04
import Derived.Test.YtoibnhkiedpkgaaGreatDoorM09
import Derived.Test.YtoibnhkiedpkgaaGreatDoorM14
set_option linter.unusedVariables false
set_option linter.unusedSimpArgs false
set_option linter.all false

namespace Go.Proofs.YtoibnhkiedpkgaaGreatDoor
open Go.RowKit Go.Shelf
attribute [local go_sem] stepOk Oper.grows Oper.growUpon

theorem regCode_zero {R : List Issue} (h : regCode R = 0) : Listed R := by
  by_cases hl : Listed R
  · exact hl
  · rw [regCode_not hl] at h; cases h
theorem listed_ne {R : List Issue} (h : Listed R) : R ≠ [] ∧ R.length ≤ 60 := by
  have h1 := h.1.1
  have h2 := h.1.2
  exact ⟨fun e => by rw [e] at h1; simp at h1, by omega⟩
theorem listed_mount {R : List Issue} (h : Listed R) : MountR R ∧ Mount (nums R) := ⟨mount_of R (fun k hk => (h.2.1 k hk).2), mount_nums R (fun k hk => (h.2.1 k hk).2)⟩

/-- A slice, wherever it lies. -/
def AnySl (v : Value) : Prop := ∃ a n c, v = .slice a n c
theorem anySl_of {α : Type} {E : World → Nat → Nat → α → Prop} {sz : Nat} {w : World} {v : Value} {xs : List α} (h : Sl E sz w v xs) : AnySl v := by obtain ⟨a, c, rfl, _⟩ := h; exact ⟨_, _, _, rfl⟩

/-- What is wanted of a register as an argument. -/
structure RegArg (w : World) (v : Value) (R : List Issue) : Prop where
  sl : Sl AtIssue 5 w v R
  cap : ∃ a c, v = .slice a R.length c ∧ R.length ≤ c
  looks : Looks w
theorem RegArg.ext {w w' : World} {v : Value} {R : List Issue} (hb : Below w.heap.size w w') (h : RegArg w v R) : RegArg w' v R := ⟨sl_ext stays_issue hb h.sl, h.cap, h.looks.ext hb⟩

set_option maxRecDepth 100000 in
theorem drawings_sheet (w : World) (v : Value) (R : List Issue) (h : RegArg w v R) :
    Calls Tryz.prog 61 #[.agg #[v]] w fun e w' => (∃ u, e = .returned (.tuple #[u, .int .i64 (regCode R)]) ∧ AnySl u) ∧ Below w.heap.size w w' := by
  obtain ⟨hb1, B1⟩ := boxed1 w #[v] 24
  have c0 := B1 0 _ rfl
  have h1 := h.ext hb1
  obtain ⟨a, cap, rfl, _⟩ := sl_shape h.sl
  have c0 : Cell _ w.heap.size 0 (.slice a R.length cap) := c0
  unfold Cell at c0
  clear B1 h
  go_enter Tryz.func61, Tryz.ntmps61
  go_wp2_with fail
  clear c0
  generalize w.alloc _ = w1 at *
  refine (open_reg _ _ R h1.sl h1.cap h1.looks).mono ?_
  rintro e w2 ⟨⟨p, rfl, hp1, hp2⟩, hb2⟩
  have hb := below_trans hb1 hb2
  by_cases hz : regCode R = 0
  · obtain ⟨pb, vd, rfl, hbk⟩ := hp2 hz
    rw [hz]
    have c1 := hbk.c1
    obtain ⟨ad, cd, rfl, _⟩ := sl_shape hbk.dr
    unfold Cell at c1
    clear hp1 hp2 hbk h1 hb2 hb1
    go_wp2
    go_ret2
    exact ⟨⟨.slice ad (nums R).length cd, by rw [hz]; rfl, _, _, _, rfl⟩, hb⟩
  · obtain rfl := hp1 hz
    clear hp1 hp2 h1
    generalize hcc : regCode R = c at *
    go_wp2
    go_ret2
    exact ⟨⟨.slice none 0 0, by rw [hcc]; rfl, _, _, _, rfl⟩, hb⟩

open Classical in
noncomputable def knownCode (R : List Issue) (d : Int) : Int := if regCode R = 0 then (if d ∈ nums R then 0 else 6) else regCode R
set_option maxRecDepth 100000 in
theorem known_sheet (w : World) (v : Value) (R : List Issue) (d : Int) (h : RegArg w v R) :
    Calls Tryz.prog 47 #[.agg #[v], .int .i64 d] w fun e w' => (∃ p, e = .returned (.tuple #[p, .int .i64 (knownCode R d)]) ∧ (knownCode R d ≠ 0 → p = .pointer none) ∧ (knownCode R d = 0 → ∃ pb vd, p = .pointer (some ⟨pb, 0, none⟩) ∧ BookAt w' pb v vd R (nums R))) ∧ Below w.heap.size w w' := by
  obtain ⟨hb1, B1⟩ := boxed1 w #[v] 24
  have c0 := B1 0 _ rfl
  have h1 := h.ext hb1
  obtain ⟨a, cap, rfl, _⟩ := sl_shape h.sl
  have c0 : Cell _ w.heap.size 0 (.slice a R.length cap) := c0
  unfold Cell at c0
  clear B1 h
  go_enter Tryz.func47, Tryz.ntmps47
  go_wp2_with fail
  clear c0
  generalize w.alloc _ = w1 at *
  refine (open_reg _ _ R h1.sl h1.cap h1.looks).mono ?_
  rintro e w2 ⟨⟨p, rfl, hp1, hp2⟩, hb2⟩
  have hb := below_trans hb1 hb2
  by_cases hz : regCode R = 0
  · obtain ⟨pb, vd, rfl, hbk⟩ := hp2 hz
    have hl := regCode_zero hz
    have hm := (listed_mount hl).2
    have hn := hl.2.2.2
    have hk : knownCode R d = if d ∈ nums R then 0 else 6 := by unfold knownCode; rw [if_pos hz]
    rw [hz]
    have HBK := Lib.hid hbk
    have HK := Lib.hid hk
    clear hp1 hp2 h1 hb2 hb1 hl hk
    go_wp2_with fail
    refine (has_int _ pb (.slice a R.length cap) vd R (nums R) d HBK.out.c1 HBK.out.dr hm (by omega)).mono ?_
    rintro e w3 ⟨rfl, rfl⟩
    by_cases hd : d ∈ nums R
    · have e0 : knownCode R d = 0 := by rw [HK.out, if_pos hd]
      rw [decide_eq_true hd]
      clear hd HK hbk
      go_wp2
      go_ret2
      exact ⟨⟨.pointer (some ⟨pb, 0, none⟩), by rw [e0]; rfl, fun h => absurd e0 h, fun _ => ⟨_, _, rfl, HBK.out⟩⟩, hb⟩
    · have e0 : knownCode R d = 6 := by rw [HK.out, if_neg hd]
      rw [decide_eq_false hd]
      clear hd HK hbk
      go_wp2
      go_ret2
      exact ⟨⟨.pointer none, by rw [e0]; rfl, fun h => rfl, fun h => by rw [e0] at h; cases h⟩, hb⟩
  · obtain rfl := hp1 hz
    have e0 : knownCode R d = regCode R := by unfold knownCode; rw [if_neg hz]
    have hz' := Lib.hid hz
    clear hp1 hp2 h1
    have E0 := Lib.hid e0
    clear e0
    generalize hcc : regCode R = c at *
    go_wp2
    go_ret2
    exact ⟨⟨.pointer none, by rw [E0.out]; rfl, fun _ => rfl, fun h => by rw [E0.out] at h; exact absurd h hz'.out⟩, hb⟩

/-! The last letter of a drawing is how many issues it has. -/
theorem last_len (R : List Issue) (h : ∀ k, k < R.length → OrdOk R k) (d : Int) : ((issuesOf R d).length : Int) = lastR R d ∧ ((issuesOf R d).length ≠ 0 ↔ d ∈ nums R) := by
  have hm := mount_of R h
  have key : ∀ k, k ≤ R.length → (∀ d, lastTo R d k = (((R.take k).filter (fun x => x.d == d)).length : Int)) ∧ (∀ h0 : 0 < k, ∀ hk : k - 1 < R.length, R[k - 1].l = (((R.take k).filter (fun x => x.d == R[k - 1].d)).length : Int)) := by
    intro k
    induction k with
    | zero => intro _; exact ⟨fun d => by simp [lastTo], fun h0 => absurd h0 (by omega)⟩
    | succ k ih =>
      intro hk
      obtain ⟨ih1, ih2⟩ := ih (by omega)
      have hlt : k < R.length := by omega
      have hl : R[k].l = (((R.take k).filter (fun x => x.d == R[k].d)).length : Int) + 1 := by
        have ho := h k hlt hlt
        by_cases h0 : 0 < k
        · rcases ho.2 h0 with ⟨h1, h2⟩ | ⟨h1, h2, _⟩
          · have e : (R.take k).filter (fun x => x.d == R[k].d) = [] := by
              rw [List.filter_eq_nil_iff]
              intro x hx
              obtain ⟨j, hj, rfl⟩ := List.getElem_of_mem hx
              rw [List.length_take] at hj
              rw [List.getElem_take]
              have := hm j (k - 1) (by omega) (by omega)
              simp
              omega
            rw [e, h2]; rfl
          · have := ih2 h0 (by omega)
            rw [h1] at this
            rw [h2, this]
        · have hk0 : k = 0 := by omega
          rw [ho.1 hk0]
          subst hk0
          simp
      have hf : ∀ d, (R.take (k + 1)).filter (fun x => x.d == d) = (R.take k).filter (fun x => x.d == d) ++ [R[k]].filter (fun x => x.d == d) := fun d => by rw [List.take_succ_eq_append_getElem hlt, List.filter_append]
      refine ⟨fun d => ?_, fun _ _ => ?_⟩
      · rw [lastTo_succ R d k hlt, hf d, List.length_append]
        by_cases e : R[k].d = d
        · subst e
          rw [if_pos rfl, ih1, hl]
          simp
          omega
        · rw [if_neg e, ih1]
          simp [e]
      · simp only [Nat.add_sub_cancel]
        rw [hf, List.length_append, hl]
        simp
  constructor
  · have := (key R.length (Nat.le_refl _)).1 d
    rw [List.take_length] at this
    exact this.symm
  · constructor
    · intro h1
      cases hi : issuesOf R d with
      | nil => rw [hi] at h1; simp at h1
      | cons x l =>
        have hx : x ∈ issuesOf R d := by rw [hi]; simp
        unfold issuesOf at hx
        rw [List.mem_filter] at hx
        obtain ⟨k, hk, rfl⟩ := List.getElem_of_mem hx.1
        have := nums_has R h k hk
        have e : R[k].d = d := by simpa using hx.2
        rwa [e] at this
    · intro h1 h2
      exact nums_issue R d h1 (List.eq_nil_of_length_eq_zero h2)

set_option maxRecDepth 100000 in
theorem last_sheet (w : World) (v : Value) (R : List Issue) (d : Int) (h : RegArg w v R) :
    Calls Tryz.prog 29 #[.agg #[v], .int .i64 d] w fun e w' => (∃ n, e = .returned (.tuple #[.int .i64 n, .int .i64 (knownCode R d)]) ∧ (regCode R = 0 → n = lastR R d)) ∧ Below w.heap.size w w' := by
  obtain ⟨hb1, B1⟩ := boxed1 w #[v] 24
  have c0 := B1 0 _ rfl
  have h1 := h.ext hb1
  obtain ⟨a, cap, rfl, _⟩ := sl_shape h.sl
  have c0 : Cell _ w.heap.size 0 (.slice a R.length cap) := c0
  unfold Cell at c0
  clear B1 h
  go_enter Tryz.func29, Tryz.ntmps29
  go_wp2_with fail
  clear c0
  generalize w.alloc _ = w1 at *
  refine (known_sheet _ _ R d h1).mono ?_
  rintro e w2 ⟨⟨p, rfl, hp1, hp2⟩, hb2⟩
  have hb := below_trans hb1 hb2
  have hkz : knownCode R d = 0 → regCode R = 0 := fun h => by
    unfold knownCode at h
    by_cases hz : regCode R = 0
    · exact hz
    · rw [if_neg hz] at h; exact h
  by_cases hz : knownCode R d = 0
  · obtain ⟨pb, vd, rfl, hbk⟩ := hp2 hz
    have hl := regCode_zero (hkz hz)
    have hn := listed_ne hl
    have hlen := (last_len R (fun k hk => (hl.2.1 k hk).2) d).1
    rw [hz]
    have HBK := Lib.hid hbk
    clear hp1 hp2 h1 hb2 hb1 hbk
    go_wp2_with fail
    refine (last_num _ pb _ vd R (nums R) d HBK.out (listed_mount hl).1 (by omega) hn.1).mono ?_
    rintro e w3 ⟨rfl, hb3⟩
    have hb := below_trans hb hb3
    rw [hlen]
    clear hlen hn hl
    go_wp2
    go_ret2
    exact ⟨⟨lastR R d, by rw [hz]; rfl, fun _ => rfl⟩, hb⟩
  · obtain rfl := hp1 hz
    have hreg : regCode R = 0 → lastR R d = 0 := fun h0 => by
      have hl := regCode_zero h0
      have h2 := last_len R (fun k hk => (hl.2.1 k hk).2) d
      have hd : d ∉ nums R := fun hd => hz (by unfold knownCode; rw [if_pos h0, if_pos hd])
      have : (issuesOf R d).length = 0 := Classical.byContradiction fun h => hd (h2.2.1 h)
      rw [← h2.1, this]; rfl
    have HRG := Lib.hid hreg
    clear hp1 hp2 h1 hkz hreg
    generalize hcc : knownCode R d = c at *
    go_wp2
    go_ret2
    exact ⟨⟨0, by rw [hcc]; rfl, fun h => (HRG.out h).symm⟩, hb⟩

set_option maxRecDepth 100000 in
set_option maxHeartbeats 1600000 in
theorem copied_sheet (w : World) (x : Issue) (vi vd : Value) (h : IssueAt w vi vd x) (hi : x.items.length ≤ 100000) (hdl : x.dims.length ≤ 100000) :
    Calls Tryz.prog 68 #[.agg #[.int .i64 x.d, .int .i64 x.l, .int .u8 x.k, vi, vd]] w fun e w' => (∃ vi' vd', e = .returned (.agg #[.int .i64 x.d, .int .i64 x.l, .int .u8 x.k, vi', vd']) ∧ AnySl vi' ∧ AnySl vd') ∧ Below w.heap.size w w' := by
  obtain ⟨ai, ci, rfl, _⟩ := sl_shape h.items
  obtain ⟨ad, cd, rfl, _⟩ := sl_shape h.dims
  go_enter Tryz.func68, Tryz.ntmps68
  go_wp2
  have hb1 := below_trans (below_alloc w (.cells #[.int .i64 x.d, .int .i64 x.l, .int .u8 x.k, .slice ai x.items.length ci, .slice ad x.dims.length cd] 46)) (below_alloc _ (.cells #[.int .i64 0, .int .i64 0, .int .u8 0, .slice none 0 0, .slice none 0 0] 46))
  have L1 := (Lay.new w 46 #[.int .i64 x.d, .int .i64 x.l, .int .u8 x.k, .slice ai x.items.length ci, .slice ad x.dims.length cd]).alloc (.cells #[.int .i64 0, .int .i64 0, .int .u8 0, .slice none 0 0, .slice none 0 0] 46)
  have L2 := Lay.new (w.alloc (.cells #[.int .i64 x.d, .int .i64 x.l, .int .u8 x.k, .slice ai x.items.length ci, .slice ad x.dims.length cd] 46)) 46 #[.int .i64 0, .int .i64 0, .int .u8 0, .slice none 0 0, .slice none 0 0]
  rw [World.size_alloc] at L2
  have h1 := h.ext hb1
  clear h
  generalize (w.alloc _).alloc _ = w1 at *
  have k3 := cell_later (show Cell w1 w.heap.size 3 (.slice ai x.items.length ci) from L1.cell 3 _ rfl)
  have k4 := cell_later (show Cell w1 w.heap.size 4 (.slice ad x.dims.length cd) from L1.cell 4 _ rfl)
  refine wp_region_grow_all 7 (by kernel_rfl) (by kernel_rfl) ?_
  simp only [List.take_succ_cons, List.take_zero]
  refine growAll_exact ?_; apply Exists.intro; refine ⟨fun vs xq hd => ?_, ?_⟩; focus ((try simp [Oper.waitsOn, Region.binds, List.filter_cons, List.filter_nil, factAt, depsHold] at hd); simp only [putsFrom, Act.put, List.setIfInBounds_toArray, List.set_cons_succ, List.set_cons_zero]; go_simp; first | exact ⟨Below.refl _ _, rfl⟩ | exact rfl)
  refine growAll_exact ?_; apply Exists.intro; refine ⟨fun vs xq hd => ?_, ?_⟩; focus ((try simp [Oper.waitsOn, Region.binds, List.filter_cons, List.filter_nil, factAt, depsHold] at hd); simp only [putsFrom, Act.put, List.setIfInBounds_toArray, List.set_cons_succ, List.set_cons_zero]; go_simp; first | exact ⟨Below.refl _ _, rfl⟩ | exact rfl)
  refine growAll_step (fun v _ => AnySl v) (fun _ _ _ _ h => h) ?_ ?_
  · intro vs xq hd
    (try simp [Oper.waitsOn, Region.binds, List.filter_cons, List.filter_nil, factAt, depsHold] at hd)
    simp only [putsFrom, Act.put, List.setIfInBounds_toArray, List.set_cons_succ, List.set_cons_zero]
    go_simp
    refine (clone_item _ _ x.items (sl_ext stays_item (below_later w1 xq) h1.items) hi).mono ?_
    rintro e w' ⟨u, rfl, hu, hb⟩
    exact ⟨u, rfl, hb, anySl_of hu.sl⟩
  refine growAll_exact ?_; apply Exists.intro; refine ⟨fun vs xq hd => ?_, ?_⟩; focus ((try simp [Oper.waitsOn, Region.binds, List.filter_cons, List.filter_nil, factAt, depsHold] at hd); simp only [putsFrom, Act.put, List.setIfInBounds_toArray, List.set_cons_succ, List.set_cons_zero]; go_simp; first | exact ⟨Below.refl _ _, rfl⟩ | exact rfl)
  refine growAll_exact ?_; apply Exists.intro; refine ⟨fun vs xq hd => ?_, ?_⟩; focus ((try simp [Oper.waitsOn, Region.binds, List.filter_cons, List.filter_nil, factAt, depsHold] at hd); simp only [putsFrom, Act.put, List.setIfInBounds_toArray, List.set_cons_succ, List.set_cons_zero]; go_simp; first | exact ⟨Below.refl _ _, rfl⟩ | exact rfl)
  refine growAll_step (fun v _ => AnySl v) (fun _ _ _ _ h => h) ?_ ?_
  · intro vs xq hd
    (try simp [Oper.waitsOn, Region.binds, List.filter_cons, List.filter_nil, factAt, depsHold] at hd)
    simp only [putsFrom, Act.put, List.setIfInBounds_toArray, List.set_cons_succ, List.set_cons_zero]
    go_simp
    refine (clone_dim _ _ x.dims (sl_ext stays_dim (below_later w1 xq) h1.dims) hdl).mono ?_
    rintro e w' ⟨u, rfl, hu, hb⟩
    exact ⟨u, rfl, hb, anySl_of hu.sl⟩
  refine growAll_exact ?_; apply Exists.intro; refine ⟨fun vs xq hd => ?_, ?_⟩; focus ((try simp [Oper.waitsOn, Region.binds, List.filter_cons, List.filter_nil, factAt, depsHold] at hd); simp only [putsFrom, Act.put, List.setIfInBounds_toArray, List.set_cons_succ, List.set_cons_zero]; go_simp; first | exact ⟨Below.refl _ _, rfl⟩ | exact rfl)
  refine growAll_done rfl (fun vs xq hd => ?_)
  simp [depsHold, factAt, List.range, List.range.loop] at hd
  simp only [putsFrom, Act.put, List.setIfInBounds_toArray, List.set_cons_succ, List.set_cons_zero, List.drop_succ_cons, List.drop_zero]
  obtain ⟨e0, e1, ⟨a2, n2, c2, e2⟩, e3, e4, ⟨a5, n5, c5, e5⟩, e6⟩ := hd
  simp only [Nat.zero_add, Nat.reduceAdd] at e0 e1 e2 e3 e4 e5 e6 ⊢
  simp only [e0, e1, e2, e3, e4, e5, e6]
  have M1 := L1.ext (below_later w1 xq)
  have M2 := L2.ext (below_later w1 xq)
  have hb2 := below_trans hb1 (below_later w1 xq)
  clear k3 k4 L1 L2 h1 e0 e1 e2 e3 e4 e5 e6 hb1
  generalize World.later w1 xq = wL at *
  have c0 := M1.cell 0 _ rfl
  have c1 := M1.cell 1 _ rfl
  have c2' := M1.cell 2 _ rfl
  have c3 := M1.cell 3 _ rfl
  have c4 := M1.cell 4 _ rfl
  have f3 := M1.frozen 3
  have f4 := M1.frozen 4
  have d0 := M2.cell 0 _ rfl
  have d1 := M2.cell 1 _ rfl
  have d2 := M2.cell 2 _ rfl
  have d3 := M2.cell 3 _ rfl
  have d4 := M2.cell 4 _ rfl
  have g0 := M2.frozen 0
  have g1 := M2.frozen 1
  have g2 := M2.frozen 2
  have g3 := M2.frozen 3
  have g4 := M2.frozen 4
  clear M1 M2
  go_wp2
  refine bodyPost_ret (v := .agg #[.int .i64 x.d, .int .i64 x.l, .int .u8 x.k, .slice a2 n2 c2, .slice a5 n5 c5]) ?_ rfl ?_
  · simp [results, Tryz.results68, go_sem, d0, d1, d2, d3, d4]
  · refine ⟨⟨_, _, rfl, ⟨_, _, _, rfl⟩, ⟨_, _, _, rfl⟩⟩, ?_⟩
    exact below_set (by omega) (below_set (by omega) (below_set (by omega) (below_set (by omega) (below_set (by omega) (below_set (by omega) (below_set (by omega) hb2))))))

/-- An issue's size stays small in a register that is listed. -/
theorem listed_small {R : List Issue} (h : Listed R) (x : Issue) (hx : x ∈ R) : x.items.length ≤ 8 ∧ x.dims.length ≤ 4 := by
  obtain ⟨k, hk, rfl⟩ := List.getElem_of_mem hx
  obtain ⟨_, _, h1, h2, h3⟩ := ((h.2.1 k hk).1 hk).1
  have := h1.1
  by_cases e : R[k].k = 1
  · have := (h2 e).1.2; have := (h2 e).2; omega
  · have := h3 (by omega); omega

open Classical in
noncomputable def atCode (R : List Issue) (d l : Int) : Int := if regCode R = 0 then (if findR R d l ≠ none then 0 else 6) else regCode R
set_option maxRecDepth 100000 in
set_option maxHeartbeats 1600000 in
theorem at_sheet (w : World) (v : Value) (R : List Issue) (d l : Int) (h : RegArg w v R) :
    Calls Tryz.prog 52 #[.agg #[v], .agg #[.int .i64 d, .int .i64 l]] w fun e w' =>
      (∃ x1 x2 x3 vi vd, e = .returned (.tuple #[.agg #[.int .i64 x1, .int .i64 x2, .int .u8 x3, vi, vd], .int .i64 (atCode R d l)]) ∧ AnySl vi ∧ AnySl vd ∧ (∀ x, regCode R = 0 → findR R d l = some x → x3 = x.k)) ∧ Below w.heap.size w w' := by
  obtain ⟨hb1, B1⟩ := boxed1 w #[v] 24
  have hb2 := below_trans hb1 (below_trans (below_alloc _ (.cells #[.int .i64 d, .int .i64 l] 84)) (below_alloc _ (.cells #[.int .i64 0, .int .i64 0, .int .u8 0, .slice none 0 0, .slice none 0 0] 46)))
  have h1 := h.ext hb2
  obtain ⟨a, cap, rfl, _⟩ := sl_shape h.sl
  have L0 := ((Lay.new w 24 #[.slice a R.length cap]).alloc (.cells #[.int .i64 d, .int .i64 l] 84)).alloc (.cells #[.int .i64 0, .int .i64 0, .int .u8 0, .slice none 0 0, .slice none 0 0] 46)
  have L1 := (Lay.new (w.alloc (.cells #[.slice a R.length cap] 24)) 84 #[.int .i64 d, .int .i64 l]).alloc (.cells #[.int .i64 0, .int .i64 0, .int .u8 0, .slice none 0 0, .slice none 0 0] 46)
  have L2 := Lay.new ((w.alloc (.cells #[.slice a R.length cap] 24)).alloc (.cells #[.int .i64 d, .int .i64 l] 84)) 46 #[.int .i64 0, .int .i64 0, .int .u8 0, .slice none 0 0, .slice none 0 0]
  simp only [World.size_alloc] at L1 L2
  have c0 := L0.cell 0 _ rfl
  clear B1 h
  go_enter Tryz.func52, Tryz.ntmps52
  go_wp2_with fail
  clear c0
  generalize ((w.alloc _).alloc _).alloc _ = w1 at *
  refine (open_reg _ _ R h1.sl h1.cap h1.looks).mono ?_
  rintro e w2 ⟨⟨p, rfl, hp1, hp2⟩, hb3⟩
  have hb := below_trans hb2 hb3
  have L1 := L1.ext hb3
  have L2 := L2.ext hb3
  by_cases hz : regCode R = 0
  case neg =>
    obtain rfl := hp1 hz
    have e0 : atCode R d l = regCode R := by unfold atCode; rw [if_neg hz]
    have E0 := Lib.hid e0
    have HZ := Lib.hid hz
    have M2 := L2
    have d0 := M2.cell 0 _ rfl
    have d1 := M2.cell 1 _ rfl
    have d2 := M2.cell 2 _ rfl
    have d3 := M2.cell 3 _ rfl
    have d4 := M2.cell 4 _ rfl
    have g0 := M2.frozen 0
    have g1 := M2.frozen 1
    have g2 := M2.frozen 2
    have g3 := M2.frozen 3
    have g4 := M2.frozen 4
    have gl := M2.lt
    clear hp1 hp2 h1 e0 L0 L1 L2 M2
    generalize hcc : regCode R = c at *
    go_wp2
    refine bodyPost_ret (v := .tuple #[.agg #[.int .i64 0, .int .i64 0, .int .u8 0, .slice none 0 0, .slice none 0 0], .int .i64 c]) ?_ rfl ?_
    · simp [results, Tryz.results52, go_sem, d0, d1, d2, d3, d4]
    · exact ⟨⟨0, 0, 0, .slice none 0 0, .slice none 0 0, by rw [E0.out], ⟨_, _, _, rfl⟩, ⟨_, _, _, rfl⟩, fun _ h => absurd (hcc.symm.trans h) HZ.out⟩, below_set (by omega) (below_set (by omega) (below_set (by omega) (below_set (by omega) (below_set (by omega) hb))))⟩
  obtain ⟨pb, vd, rfl, hbk⟩ := hp2 hz
  have hl := regCode_zero hz
  have e0 : atCode R d l = if findR R d l ≠ none then 0 else 6 := by unfold atCode; rw [if_pos hz]
  have E0 := Lib.hid e0
  have HBK := Lib.hid hbk
  have HL := Lib.hid hl
  have hne := listed_ne hl
  have x0 := L1.cell 0 _ rfl
  have x1 := L1.cell 1 _ rfl
  rw [hz]
  clear hp1 hp2 h1 e0 L0 hbk hl
  go_wp2_with fail
  refine (find_iss _ pb _ vd R (nums R) d l HBK.out (listed_mount HL.out).1 (by omega) hne.1).mono ?_
  clear x0 x1
  intro e w3 hf
  obtain ⟨hb4, hf⟩ := hf
  have M2 := L2.ext hb4
  have hb := below_trans hb hb4
  rcases hf with ⟨x, vi, vs, hfr, rfl, hia⟩ | ⟨hfr, rfl⟩
  · obtain ⟨ai, ci, rfl, _⟩ := sl_shape hia.items
    obtain ⟨al, cl, rfl, _⟩ := sl_shape hia.dims
    have hsm := listed_small HL.out x (by unfold findR at hfr; exact List.mem_of_find?_eq_some hfr)
    have e1 : atCode R d l = 0 := by rw [E0.out, if_pos (by rw [hfr]; simp)]
    have HIA := Lib.hid hia
    have HM2 := Lib.hid M2
    clear hia M2 L1 L2
    go_wp2_with fail
    refine (copied_sheet _ x _ _ (HIA.out.ext (below_alloc _ _)) (by omega) (by omega)).mono ?_
    rintro e w4 ⟨⟨vi', vs', rfl, ⟨a1, n1, c1, rfl⟩, ⟨a2, n2, c2, rfl⟩⟩, hb5⟩
    have hb := below_trans hb (below_trans (below_alloc _ _) hb5)
    have M2 := HM2.out.ext (below_trans (below_alloc _ _) hb5)
    have d0 := M2.cell 0 _ rfl
    have d1 := M2.cell 1 _ rfl
    have d2 := M2.cell 2 _ rfl
    have d3 := M2.cell 3 _ rfl
    have d4 := M2.cell 4 _ rfl
    have g0 := M2.frozen 0
    have g1 := M2.frozen 1
    have g2 := M2.frozen 2
    have g3 := M2.frozen 3
    have g4 := M2.frozen 4
    have gl := M2.lt
    clear M2
    go_wp2
    refine bodyPost_ret (v := .tuple #[.agg #[.int .i64 x.d, .int .i64 x.l, .int .u8 x.k, .slice a1 n1 c1, .slice a2 n2 c2], .int .i64 0]) ?_ rfl ?_
    · simp [results, Tryz.results52, go_sem, d0, d1, d2, d3, d4]
    · exact ⟨⟨_, _, _, _, _, by rw [e1], ⟨_, _, _, rfl⟩, ⟨_, _, _, rfl⟩, fun y _ h => by rw [hfr] at h; cases h; rfl⟩, below_set (by omega) (below_set (by omega) (below_set (by omega) (below_set (by omega) (below_set (by omega) hb))))⟩
  · have e1 : atCode R d l = 6 := by rw [E0.out, if_neg (by rw [hfr]; simp)]
    have d0 := M2.cell 0 _ rfl
    have d1 := M2.cell 1 _ rfl
    have d2 := M2.cell 2 _ rfl
    have d3 := M2.cell 3 _ rfl
    have d4 := M2.cell 4 _ rfl
    have g0 := M2.frozen 0
    have g1 := M2.frozen 1
    have g2 := M2.frozen 2
    have g3 := M2.frozen 3
    have g4 := M2.frozen 4
    have gl := M2.lt
    clear M2 L1 L2
    go_wp2
    refine bodyPost_ret (v := .tuple #[.agg #[.int .i64 0, .int .i64 0, .int .u8 0, .slice none 0 0, .slice none 0 0], .int .i64 6]) ?_ rfl ?_
    · simp [results, Tryz.results52, go_sem, d0, d1, d2, d3, d4, gl]
    · exact ⟨⟨0, 0, 0, .slice none 0 0, .slice none 0 0, by rw [e1], ⟨_, _, _, rfl⟩, ⟨_, _, _, rfl⟩, fun y _ h => by rw [hfr] at h; cases h⟩, Below.alloc (below_set (by omega) (below_set (by omega) (below_set (by omega) (below_set (by omega) (below_set (by omega) hb))))) (by simpa using hb.size) _⟩

end Go.Proofs.YtoibnhkiedpkgaaGreatDoor

namespace Go.Proofs.YtoibnhkiedpkgaaGreatDoor
open Go.RowKit Go.Shelf
attribute [local go_sem] stepOk Oper.grows Oper.growUpon

theorem sl_take {α : Type} {E : World → Nat → Nat → α → Prop} {sz : Nat} {w : World} {a : Option Addr} {n c : Nat} {xs : List α} (h : Sl E sz w (.slice a n c) xs) (i c' : Nat) (hi : i ≤ xs.length) : Sl E sz w (.slice a i c') (xs.take i) := by
  obtain ⟨a', cap, e, hm, hc⟩ := h
  cases e
  refine ⟨a, c', by rw [List.length_take, Nat.min_eq_left hi], by rw [List.length_take]; omega, fun k hk => ?_⟩
  rw [List.length_take] at hk
  obtain ⟨b, off, ha, he⟩ := hc k (by omega)
  exact ⟨b, off, ha, by rw [List.getElem_take]; exact he⟩
theorem in_note1 (w : World) (lo hi x : Int) (v : Value) (h : RowOne x v w) (hx : I64 x) :
    Calls Tryz.prog 132 #[.int .i64 lo, .int .i64 hi, v] w fun e w' => e = .returned (.bool (inB x lo hi)) ∧ Below w.heap.size w w' := by
  obtain ⟨b, rfl, hc⟩ := h
  refine (in_note w lo hi _ [x] (sl_row1 hc hx)).mono ?_
  intro e w' h
  rcases h.both with ⟨g1, rfl, hb⟩ | ⟨g1, rfl, hb⟩
  · exact ⟨ret_bool (inB_in (g1 x (by simp))).symm, hb⟩
  · exact ⟨ret_bool (inB_out (fun h => g1 (fun y hy => by simp at hy; rw [hy]; exact h))).symm, hb⟩
theorem in_note2 (w : World) (lo hi x y : Int) (b : Nat) (h : Cell w b 0 (.int .i64 x) ∧ Cell w b 1 (.int .i64 y)) (hx : I64 x) (hy : I64 y) :
    Calls Tryz.prog 132 #[.int .i64 lo, .int .i64 hi, .slice (some ⟨b, 0, none⟩) 2 2] w fun e w' => e = .returned (.bool (inB x lo hi && inB y lo hi)) ∧ Below w.heap.size w w' := by
  refine (in_note w lo hi _ [x, y] (sl_row2 h hx hy)).mono ?_
  intro e w' h
  rcases h.both with ⟨g1, rfl, hb⟩ | ⟨g1, rfl, hb⟩
  · exact ⟨ret_bool (by rw [inB_in (g1 x (by simp)), inB_in (g1 y (by simp))]; rfl), hb⟩
  · refine ⟨ret_bool ?_, hb⟩
    by_cases h1 : In x lo hi
    · by_cases h2 : In y lo hi
      · exact absurd (fun z hz => by
          simp at hz
          rcases hz with rfl | rfl
          · exact h1
          · exact h2) g1
      · rw [inB_out h2]; simp
    · rw [inB_out h1]; rfl

/-- What is wanted of notes as an argument. -/
structure NoteArg (w : World) (vr vn : Value) (R : List Issue) (N : List Note) : Prop where
  reg : RegArg w vr R
  sl : Sl AtNote 10 w vn N
  cap : ∃ a c, vn = .slice a N.length c ∧ N.length ≤ c
theorem NoteArg.ext {w w' : World} {vr vn : Value} {R : List Issue} {N : List Note} (hb : Below w.heap.size w w') (h : NoteArg w vr vn R N) : NoteArg w' vr vn R N := ⟨h.reg.ext hb, sl_ext stays_note hb h.sl, h.cap⟩

def NChk1 (x : Note) : Prop := In x.num 1 9999 ∧ In x.day 0 14610
def NChk2 (x : Note) : Prop := x.sg ≤ 2 ∧ x.ways ≤ 3
def NChk3 (x : Note) : Prop := (In x.fr 1 999 ∧ In x.to 1 999) ∧ x.fr ≤ x.to
def NChk4 (R : List Issue) (x : Note) : Prop := if x.d = 0 ∧ x.l = 0 then x.ca ≠ 0 else atCode R x.d x.l = 0
def NChk5 (x : Note) : Prop := 2 ≤ x.l ∨ (x.use = false ∧ x.ways = 0)
def NChk6 (N : List Note) (i : Nat) (x : Note) : Prop := x.ca = 0 ∨ ∃ y ∈ N.take i, y.num = x.ca
def NChk7 (N : List Note) (i : Nat) (x : Note) : Prop := ¬ ∃ y ∈ N.take i, y.num = x.num

set_option maxRecDepth 100000 in
set_option maxHeartbeats 1600000 in
theorem ncheck1 (w : World) (vr vn : Value) (R : List Issue) (N : List Note) (i : Nat) (h : NoteArg w vr vn R N) (hi : i < N.length) :
    Calls Tryz.prog 131 #[.agg #[vr, vn], .int .i64 i] w (RetB (NChk1 N[i]) w) := by
  obtain ⟨ar, cr, rfl, _⟩ := sl_shape h.reg.sl
  obtain ⟨an, cn, rfl, hcn⟩ := h.cap
  obtain ⟨b, off, rfl, hx⟩ := (sl_at h.sl).2 i hi
  have QX := Lib.hid hx
  obtain ⟨⟨q0, q1, q2, q3, q4, q5, q6, q7, q8, q9⟩, hnum⟩ := hx
  have hlb := cell_lt q0
  generalize N[i] = x at *
  have hb1 := below_alloc w (.cells #[.slice ar R.length cr, .slice (some ⟨b, off, none⟩) N.length cn] 27)
  have LB := Lay.new w 27 #[.slice ar R.length cr, .slice (some ⟨b, off, none⟩) N.length cn]
  have HA := Lib.hid (h.ext hb1)
  have HI : Hid (i < N.length) := hi
  have hil : (i : Int) < N.length := by omega
  clear h
  unfold Cell at q0 q1 q2 q3 q4 q5 q6 q7 q8 q9
  go_enter Tryz.func131, Tryz.ntmps131
  go_wp2_with fail
  have row := new_cell (w.alloc (.cells #[.slice ar R.length cr, .slice (some ⟨b, off, none⟩) N.length cn] 27)) #[.int .i64 x.num] 3 0 (.int .i64 x.num) rfl
  rw [World.size_alloc] at row
  have hb2 := below_trans hb1 (below_alloc (w.alloc (.cells #[.slice ar R.length cr, .slice (some ⟨b, off, none⟩) N.length cn] 27)) (.cells #[.int .i64 x.num] 3))
  have L2 := LB.alloc (.cells #[.int .i64 x.num] 3)
  clear hb1 LB
  generalize (w.alloc _).alloc _ = w1 at *
  refine (in_note1 _ _ _ x.num _ ⟨_, rfl, row⟩ hnum.1).mono ?_
  rintro e w2 ⟨rfl, hb3⟩
  have hbb := below_trans hb2 hb3
  have c1 := (L2.ext hb3).cell 1 _ rfl
  obtain ⟨⟨p0, p1, _⟩, _⟩ := stays_note _ _ _ _ _ hbb QX.out
  have hl := cell_lt p0
  have hl2 := (L2.ext hb3).lt
  unfold Cell at p0 p1
  clear row hb2 hb3 L2 q0 q1 q2 q3 q4 q5 q6 q7 q8 q9
  by_cases g1 : inB x.num 1 9999 = true
  · go_wp2_with fail
    have row := new_cell w2 #[.int .i64 x.day] 3 0 (.int .i64 x.day) rfl
    have hb4 := below_trans hbb (below_alloc w2 (.cells #[.int .i64 x.day] 3))
    generalize w2.alloc _ = w3 at *
    refine (in_note1 _ _ _ x.day _ ⟨_, rfl, row⟩ hnum.2.1).mono ?_
    rintro e w4 ⟨rfl, hb5⟩
    clear c1 row p0 p1
    by_cases g2 : inB x.day 0 14610 = true
    · go_wp2
      go_ret
      exact RetB.t ⟨inB_t g1, inB_t g2⟩ (below_trans hb4 hb5)
    · have g2' := inB_ff g2
      go_wp2
      go_ret
      exact RetB.f (fun h => inB_f g2 h.2) (below_trans hb4 hb5)
  · have g1' := inB_ff g1
    clear c1 p0 p1
    go_wp2
    go_ret
    exact RetB.f (fun h => inB_f g1 h.1) hbb

set_option maxRecDepth 100000 in
set_option maxHeartbeats 1600000 in
theorem ncheck2 (w : World) (vr vn : Value) (R : List Issue) (N : List Note) (i : Nat) (h : NoteArg w vr vn R N) (hi : i < N.length) :
    Calls Tryz.prog 133 #[.agg #[vr, vn], .int .i64 i] w (RetB (NChk2 N[i]) w) := by
  obtain ⟨ar, cr, rfl, _⟩ := sl_shape h.reg.sl
  obtain ⟨an, cn, rfl, hcn⟩ := h.cap
  obtain ⟨b, off, rfl, hx⟩ := (sl_at h.sl).2 i hi
  have QX := Lib.hid hx
  obtain ⟨⟨q0, q1, q2, q3, q4, q5, q6, q7, q8, q9⟩, hnum⟩ := hx
  have hlb := cell_lt q0
  generalize N[i] = x at *
  have hb1 := below_alloc w (.cells #[.slice ar R.length cr, .slice (some ⟨b, off, none⟩) N.length cn] 27)
  have LB := Lay.new w 27 #[.slice ar R.length cr, .slice (some ⟨b, off, none⟩) N.length cn]
  have HA := Lib.hid (h.ext hb1)
  have HI : Hid (i < N.length) := hi
  have hil : (i : Int) < N.length := by omega
  clear h
  unfold Cell at q0 q1 q2 q3 q4 q5 q6 q7 q8 q9
  go_enter Tryz.func133, Tryz.ntmps133
  by_cases g1 : x.sg ≤ 2
  · by_cases g2 : x.ways ≤ 3
    · go_wp2
      go_ret
      exact RetB.t ⟨g1, g2⟩ hb1
    · go_wp2
      go_ret
      exact RetB.f (fun h => by have := h.2; omega) hb1
  · go_wp2
    go_ret
    exact RetB.f (fun h => by have := h.1; omega) hb1

set_option maxRecDepth 100000 in
set_option maxHeartbeats 1600000 in
theorem ncheck5 (w : World) (vr vn : Value) (R : List Issue) (N : List Note) (i : Nat) (h : NoteArg w vr vn R N) (hi : i < N.length) :
    Calls Tryz.prog 136 #[.agg #[vr, vn], .int .i64 i] w (RetB (NChk5 N[i]) w) := by
  obtain ⟨ar, cr, rfl, _⟩ := sl_shape h.reg.sl
  obtain ⟨an, cn, rfl, hcn⟩ := h.cap
  obtain ⟨b, off, rfl, hx⟩ := (sl_at h.sl).2 i hi
  have QX := Lib.hid hx
  obtain ⟨⟨q0, q1, q2, q3, q4, q5, q6, q7, q8, q9⟩, hnum⟩ := hx
  have hlb := cell_lt q0
  generalize N[i] = x at *
  have hb1 := below_alloc w (.cells #[.slice ar R.length cr, .slice (some ⟨b, off, none⟩) N.length cn] 27)
  have LB := Lay.new w 27 #[.slice ar R.length cr, .slice (some ⟨b, off, none⟩) N.length cn]
  have HA := Lib.hid (h.ext hb1)
  have HI : Hid (i < N.length) := hi
  have hil : (i : Int) < N.length := by omega
  clear h
  unfold Cell at q0 q1 q2 q3 q4 q5 q6 q7 q8 q9
  have hb2 := below_trans hb1 (below_alloc _ (.cells #[.int .i64 x.num, .int .i64 x.day, .int .u8 x.sg, .int .i64 x.d, .int .i64 x.l, .int .i64 x.fr, .int .i64 x.to, .int .i64 x.ca, .bool x.use, .int .u8 x.ways] 52))
  go_enter Tryz.func136, Tryz.ntmps136
  by_cases g1 : 2 ≤ x.l
  · go_wp2
    go_ret
    exact RetB.t (show NChk5 x from .inl g1) hb2
  · cases hu : x.use with
    | true =>
      have HU := Lib.hid hu
      rw [hu] at q8 hb2
      clear hu
      go_wp2
      go_ret
      exact RetB.f (fun h => by
        rcases (show _ ∨ _ from h) with h | h
        · omega
        · rw [HU.out] at h; cases h.1) hb2
    | false =>
      have HU := Lib.hid hu
      rw [hu] at q8 hb2
      clear hu
      by_cases g2 : x.ways = 0
      · have g2' : (x.ways == 0) = true := by simp [g2]
        have G2 := Lib.hid g2
        clear g2
        go_wp2
        go_ret
        exact RetB.t (show NChk5 x from .inr ⟨HU.out, G2.out⟩) hb2
      · have g2' : (x.ways == 0) = false := by simp [g2]
        have G2 := Lib.hid g2
        clear g2
        go_wp2
        go_ret
        exact RetB.f (fun h => by
          rcases (show _ ∨ _ from h) with h | h
          · omega
          · exact G2.out h.2) hb2

set_option maxRecDepth 100000 in
set_option maxHeartbeats 1600000 in
theorem ncheck3 (w : World) (vr vn : Value) (R : List Issue) (N : List Note) (i : Nat) (h : NoteArg w vr vn R N) (hi : i < N.length) :
    Calls Tryz.prog 134 #[.agg #[vr, vn], .int .i64 i] w (RetB (NChk3 N[i]) w) := by
  obtain ⟨ar, cr, rfl, _⟩ := sl_shape h.reg.sl
  obtain ⟨an, cn, rfl, hcn⟩ := h.cap
  obtain ⟨b, off, rfl, hx⟩ := (sl_at h.sl).2 i hi
  have QX := Lib.hid hx
  obtain ⟨⟨q0, q1, q2, q3, q4, q5, q6, q7, q8, q9⟩, hnum⟩ := hx
  have hlb := cell_lt q0
  generalize N[i] = x at *
  have hb1 := below_alloc w (.cells #[.slice ar R.length cr, .slice (some ⟨b, off, none⟩) N.length cn] 27)
  have LB := Lay.new w 27 #[.slice ar R.length cr, .slice (some ⟨b, off, none⟩) N.length cn]
  have HA := Lib.hid (h.ext hb1)
  have HI : Hid (i < N.length) := hi
  have hil : (i : Int) < N.length := by omega
  clear h
  unfold Cell at q0 q1 q2 q3 q4 q5 q6 q7 q8 q9
  have hb2 := below_trans hb1 (below_alloc _ (.cells #[.int .i64 x.num, .int .i64 x.day, .int .u8 x.sg, .int .i64 x.d, .int .i64 x.l, .int .i64 x.fr, .int .i64 x.to, .int .i64 x.ca, .bool x.use, .int .u8 x.ways] 52))
  have LX := Lay.new (w.alloc (.cells #[.slice ar R.length cr, .slice (some ⟨b, off, none⟩) N.length cn] 27)) 52 #[.int .i64 x.num, .int .i64 x.day, .int .u8 x.sg, .int .i64 x.d, .int .i64 x.l, .int .i64 x.fr, .int .i64 x.to, .int .i64 x.ca, .bool x.use, .int .u8 x.ways]
  rw [World.size_alloc] at LX
  go_enter Tryz.func134, Tryz.ntmps134
  go_wp2_with fail
  have row := new_cell ((w.alloc (.cells #[.slice ar R.length cr, .slice (some ⟨b, off, none⟩) N.length cn] 27)).alloc (.cells #[.int .i64 x.num, .int .i64 x.day, .int .u8 x.sg, .int .i64 x.d, .int .i64 x.l, .int .i64 x.fr, .int .i64 x.to, .int .i64 x.ca, .bool x.use, .int .u8 x.ways] 52)) #[.int .i64 x.fr, .int .i64 x.to] 3
  have r0 := row 0 (.int .i64 x.fr) rfl
  have r1 := row 1 (.int .i64 x.to) rfl
  simp only [World.size_alloc] at r0 r1
  have LX := LX.alloc (.cells #[.int .i64 x.fr, .int .i64 x.to] 3)
  have hb2 := below_trans hb2 (below_alloc _ (.cells #[.int .i64 x.fr, .int .i64 x.to] 3))
  clear row hb1 LB q0 q1 q2 q3 q4 q5 q6 q7 q8 q9
  generalize ((w.alloc _).alloc _).alloc _ = w1 at *
  refine (in_note2 _ _ _ x.fr x.to _ ⟨r0, r1⟩ hnum.2.2.2.2.2.1 hnum.2.2.2.2.2.2.1).mono ?_
  rintro e w2 ⟨rfl, hb3⟩
  have L2 := LX.ext hb3
  have c5 := L2.cell 5 _ rfl
  have c6 := L2.cell 6 _ rfl
  have hbb := below_trans hb2 hb3
  clear r0 r1 LX L2 hb2 hb3
  have hiff : (inB x.fr 1 999 && inB x.to 1 999) = true ↔ In x.fr 1 999 ∧ In x.to 1 999 := by
    rw [Bool.and_eq_true]
    exact ⟨fun h => ⟨inB_t h.1, inB_t h.2⟩, fun h => ⟨inB_in h.1, inB_in h.2⟩⟩
  generalize (inB x.fr 1 999 && inB x.to 1 999) = bb at *
  have HIFF := Lib.hid hiff
  clear hiff
  cases bb with
  | true =>
    by_cases g1 : x.fr ≤ x.to
    · go_wp2
      go_ret
      exact RetB.t (show NChk3 x from ⟨HIFF.out.1 (by simp), g1⟩) hbb
    · have g1' : decide (x.fr ≤ x.to) = false := by simp; omega
      go_wp2
      go_ret
      exact RetB.f (fun (h : NChk3 x) => by have := h.2; omega) hbb
  | false =>
    go_wp2
    go_ret
    exact RetB.f (fun (h : NChk3 x) => by have := HIFF.out.2 h.1; simp at this) hbb

set_option maxRecDepth 100000 in
set_option maxHeartbeats 1600000 in
theorem ncheck4 (w : World) (vr vn : Value) (R : List Issue) (N : List Note) (i : Nat) (h : NoteArg w vr vn R N) (hi : i < N.length) :
    Calls Tryz.prog 135 #[.agg #[vr, vn], .int .i64 i] w (RetB (NChk4 R N[i]) w) := by
  obtain ⟨ar, cr, rfl, _⟩ := sl_shape h.reg.sl
  obtain ⟨an, cn, rfl, hcn⟩ := h.cap
  obtain ⟨b, off, rfl, hx⟩ := (sl_at h.sl).2 i hi
  have QX := Lib.hid hx
  obtain ⟨⟨q0, q1, q2, q3, q4, q5, q6, q7, q8, q9⟩, hnum⟩ := hx
  have hlb := cell_lt q0
  generalize N[i] = x at *
  have hb1 := below_alloc w (.cells #[.slice ar R.length cr, .slice (some ⟨b, off, none⟩) N.length cn] 27)
  have LB := Lay.new w 27 #[.slice ar R.length cr, .slice (some ⟨b, off, none⟩) N.length cn]
  have HA := Lib.hid (h.ext hb1)
  have HI : Hid (i < N.length) := hi
  have hil : (i : Int) < N.length := by omega
  clear h
  unfold Cell at q0 q1 q2 q3 q4 q5 q6 q7 q8 q9
  have hb2 := below_trans hb1 (below_alloc _ (.cells #[.int .i64 x.num, .int .i64 x.day, .int .u8 x.sg, .int .i64 x.d, .int .i64 x.l, .int .i64 x.fr, .int .i64 x.to, .int .i64 x.ca, .bool x.use, .int .u8 x.ways] 52))
  have h4 : NChk4 R x ↔ if x.d = 0 ∧ x.l = 0 then x.ca ≠ 0 else atCode R x.d x.l = 0 := Iff.rfl
  have H4 := Lib.hid h4
  have HA2 := Lib.hid (HA.out.ext (below_alloc _ (.cells #[.int .i64 x.num, .int .i64 x.day, .int .u8 x.sg, .int .i64 x.d, .int .i64 x.l, .int .i64 x.fr, .int .i64 x.to, .int .i64 x.ca, .bool x.use, .int .u8 x.ways] 52)))
  clear h4
  go_enter Tryz.func135, Tryz.ntmps135
  by_cases g1 : ((0 : Int) == x.d) = true
  · by_cases g2 : ((0 : Int) == x.l) = true
    · have e1 : x.d = 0 ∧ x.l = 0 := by
        have h1 := beq_iff_eq.1 g1
        have h2 := beq_iff_eq.1 g2
        exact ⟨h1.symm, h2.symm⟩
      rw [if_pos e1] at H4
      have HH4 := Lib.hid H4.out
      clear H4 e1
      by_cases g3 : x.ca = 0
      · have g3' : (x.ca != 0) = false := by simp [g3]
        have G3 := Lib.hid g3
        clear g3
        go_wp2
        go_ret
        exact RetB.f (fun h => (HH4.out.1 h) G3.out) hb2
      · have g3' : (x.ca != 0) = true := by simp [g3]
        have G3 := Lib.hid g3
        clear g3
        go_wp2
        go_ret
        exact RetB.t (HH4.out.2 G3.out) hb2
    · have g2' : ((0 : Int) == x.l) = false := by simpa using g2
      have G1 := Lib.hid (show ¬ (x.d = 0 ∧ x.l = 0) from fun h => g2 (by rw [h.2]; rfl))
      clear g2
      go_wp2_with fail
      refine (at_sheet _ _ R x.d x.l HA2.out.reg).mono ?_
      rintro e w2 ⟨⟨x1, x2, x3, vi, vs, rfl, ⟨a1, n1, c1, rfl⟩, ⟨a2, n2, c2, rfl⟩, -⟩, hb3⟩
      have hbb := below_trans hb2 (below_trans hb3 (below_alloc w2 (.cells #[.int .i64 x1, .int .i64 x2, .int .u8 x3, .slice a1 n1 c1, .slice a2 n2 c2] 46)))
      rw [if_neg G1.out] at H4
      have H4b := Lib.hid H4.out
      clear H4
      generalize atCode R x.d x.l = c at *
      by_cases gc : c = 0
      · subst gc
        go_wp2
        go_ret
        exact RetB.t (H4b.out.2 (by simp)) hbb
      · have gc' : (c == 0) = false := by simp [gc]
        have GC := Lib.hid gc
        clear gc
        go_wp2
        go_ret
        exact RetB.f (fun h => GC.out (H4b.out.1 h)) hbb
  · have g1' : ((0 : Int) == x.d) = false := by simpa using g1
    have G1 := Lib.hid (show ¬ (x.d = 0 ∧ x.l = 0) from fun h => g1 (by rw [h.1]; rfl))
    clear g1
    go_wp2_with fail
    refine (at_sheet _ _ R x.d x.l HA2.out.reg).mono ?_
    rintro e w2 ⟨⟨x1, x2, x3, vi, vs, rfl, ⟨a1, n1, c1, rfl⟩, ⟨a2, n2, c2, rfl⟩, -⟩, hb3⟩
    have hbb := below_trans hb2 (below_trans hb3 (below_alloc w2 (.cells #[.int .i64 x1, .int .i64 x2, .int .u8 x3, .slice a1 n1 c1, .slice a2 n2 c2] 46)))
    rw [if_neg G1.out] at H4
    have H4b := Lib.hid H4.out
    clear H4
    generalize atCode R x.d x.l = c at *
    by_cases gc : c = 0
    · subst gc
      go_wp2
      go_ret
      exact RetB.t (H4b.out.2 (by simp)) hbb
    · have gc' : (c == 0) = false := by simp [gc]
      have GC := Lib.hid gc
      clear gc
      go_wp2
      go_ret
      exact RetB.f (fun h => GC.out (H4b.out.1 h)) hbb

end Go.Proofs.YtoibnhkiedpkgaaGreatDoor
