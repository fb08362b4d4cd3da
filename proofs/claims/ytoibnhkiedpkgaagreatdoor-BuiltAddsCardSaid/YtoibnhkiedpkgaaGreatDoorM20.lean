/- The program's error of machines. -/
import Derived.Test.YtoibnhkiedpkgaaGreatDoorM07
import Derived.Test.YtoibnhkiedpkgaaGreatDoorM19
set_option linter.unusedVariables false
set_option linter.unusedSimpArgs false
set_option linter.all false

namespace Go.Proofs.YtoibnhkiedpkgaaGreatDoor
open Go.RowKit Go.Shelf
attribute [local go_sem] stepOk Oper.grows Oper.growUpon

theorem in_built2 (w : World) (lo hi x y : Int) (v : Value) (h : RowTwo x y v w) (hx : I64 x) (hy : I64 y) :
    Calls Tryz.prog 31 #[.int .i64 lo, .int .i64 hi, v] w fun e w' => e = .returned (.bool (inB x lo hi && inB y lo hi)) ∧ Below w.heap.size w w' := by
  obtain ⟨b, rfl, h0, h1⟩ := h
  refine (in_built w lo hi _ [x, y] (sl_row2 ⟨h0, h1⟩ hx hy)).mono ?_
  intro e w' h
  rcases h.both with ⟨g1, rfl, hb⟩ | ⟨g1, rfl, hb⟩
  · exact ⟨ret_bool (by rw [inB_in (g1 x (by simp)), inB_in (g1 y (by simp))]; rfl), hb⟩
  · refine ⟨ret_bool ?_, hb⟩
    by_cases h1 : In x lo hi
    · by_cases h2 : In y lo hi
      · exact absurd (fun z hz => by
          simp at hz
          rcases hz with rfl | rfl
          · exact h1
          · exact h2) g1
      · rw [inB_out h2]; simp
    · rw [inB_out h1]; rfl
theorem notesCode_zero {R : List Issue} {N : List Note} (h : notesCode R N = 0) : regCode R = 0 := by
  by_cases hz : regCode R = 0
  · exact hz
  · unfold notesCode at h
    rw [if_pos hz] at h
    exact absurd h hz
theorem known_last {R : List Issue} (d : Int) (hz : regCode R = 0) : knownCode R d = 0 ↔ lastR R d ≠ 0 := by
  have hl := regCode_zero hz
  have h2 := last_len R (fun k hk => (hl.2.1 k hk).2) d
  unfold knownCode
  rw [if_pos hz]
  by_cases hd : d ∈ nums R
  · rw [if_pos hd]
    have := h2.2.2 hd
    rw [← h2.1]
    exact ⟨fun _ => by omega, fun _ => rfl⟩
  · rw [if_neg hd]
    have : (issuesOf R d).length = 0 := Classical.byContradiction fun h => hd (h2.2.1 h)
    rw [← h2.1, this]
    exact ⟨fun h => (by cases h), fun h => absurd rfl h⟩

set_option maxRecDepth 100000 in
set_option maxHeartbeats 12800000 in
theorem check_built (w : World) (vr vn vm vh vs : Value) (b : Built) (h : BuiltArg w vr vn vm vh vs b) :
    Calls Tryz.prog 11 #[.agg #[vr, vn, .int .i64 b.of, vm, vh, vs]] w fun e w' => e = .returned (.int .i64 (builtCode b)) ∧ Below w.heap.size w w' := by
  obtain ⟨ar, cr, rfl, _⟩ := sl_shape h.at_.reg
  obtain ⟨an, cn, rfl, _⟩ := sl_shape h.at_.notes
  obtain ⟨am, cm, rfl, _⟩ := sl_shape h.at_.ms
  obtain ⟨ah, ch, rfl, hch⟩ := h.hcap
  obtain ⟨az, cz, rfl, _⟩ := sl_shape h.at_.rs
  have hb1 := below_alloc w (.cells #[.slice ar b.ns.reg.length cr, .slice an b.ns.notes.length cn, .int .i64 b.of, .slice am b.ms.length cm, .slice ah b.hs.length ch, .slice az b.rs.length cz] 32)
  have L0 := Lay.new w 32 #[.slice ar b.ns.reg.length cr, .slice an b.ns.notes.length cn, .int .i64 b.of, .slice am b.ms.length cm, .slice ah b.hs.length ch, .slice az b.rs.length cz]
  have H0 := Lib.hid h
  have HA := Lib.hid (h.ext hb1)
  have c0 := L0.cell 0 _ rfl
  have c1 := L0.cell 1 _ rfl
  clear h
  go_enter Tryz.func11, Tryz.ntmps11
  go_wp2_with fail
  clear c0 c1
  generalize w.alloc _ = w1 at *
  refine (check_note _ _ _ b.ns.reg b.ns.notes HA.out.notes HA.out.looks).mono ?_
  rintro e w2 ⟨rfl, hb2⟩
  have hbe := below_trans hb1 hb2
  have hcode : notesCode b.ns.reg b.ns.notes ≠ 0 → builtCode b = notesCode b.ns.reg b.ns.notes := fun h => by unfold builtCode; rw [if_pos h]
  by_cases hnz : notesCode b.ns.reg b.ns.notes = 0
  case neg =>
    have e1 : builtCode b = notesCode b.ns.reg b.ns.notes := hcode hnz
    clear hcode
    generalize hcc : notesCode b.ns.reg b.ns.notes = c at *
    go_wp2
    go_ret
    exact ⟨by first | (rw [e1]; rfl) | rfl, hbe⟩
  have hz := notesCode_zero hnz
  have hl := regCode_zero hz
  have hkind : ∀ x ∈ b.ns.reg, In x.k 1 3 := fun x hx => by
    obtain ⟨k, hk, rfl⟩ := List.getElem_of_mem hx
    exact ((hl.2.1 k hk).1 hk).1.2.2.1
  have hgood : BuiltOk b → builtCode b = 0 := fun h => by unfold builtCode; rw [if_neg (by simp [hnz]), if_pos h]
  have hbad : ¬ BuiltOk b → builtCode b = 80 := fun h => by unfold builtCode; rw [if_neg (by simp [hnz]), if_neg h]
  rw [hnz]
  have L2 := L0.ext hb2
  have c0 := L2.cell 0 _ rfl
  have c2 := L2.cell 2 _ rfl
  have l0 := L2.lt
  clear hcode
  go_wp2_with fail
  have hb3 := below_alloc w2 (.cells #[.slice ar b.ns.reg.length cr] 24)
  have hbe := below_trans hbe hb3
  have L3 := Lib.hid (L2.ext hb3)
  have LR := Lay.new w2 24 #[.slice ar b.ns.reg.length cr]
  have HA3 := Lib.hid (H0.out.ext hbe)
  clear c0 c2 hb1 hb2 L2 L0
  generalize hg4 : w2.heap.size = g4 at *
  generalize w2.alloc _ = w3 at *
  refine (last_sheet _ _ b.ns.reg b.of HA3.out.notes.reg).mono ?_
  rintro e w4 ⟨⟨n, rfl, -⟩, hb4⟩
  have hbe := below_trans hbe hb4
  have L4 := Lib.hid (L3.out.ext hb4)
  have LR := Lib.hid (LR.ext hb4)
  have hkl := known_last b.of hz
  clear hb3 L3 HA3
  by_cases hkn : knownCode b.ns.reg b.of = 0
  case neg =>
    have e1 := hbad (fun h => (fun h2 => hkn (hkl.2 h2)) h.1)
    clear hkl
    have hkn' : (knownCode b.ns.reg b.of != 0) = true := by simp [hkn]
    generalize knownCode b.ns.reg b.of = c at *
    go_wp2
    go_ret
    exact ⟨by first | (rw [e1]; rfl) | rfl, hbe⟩
  rw [hkn]
  have hlast := hkl.1 hkn
  have c3 := L4.out.cell 3 _ rfl
  have c4 := L4.out.cell 4 _ rfl
  have c5 := L4.out.cell 5 _ rfl
  clear hkl
  by_cases g1 : 12 < b.ms.length
  · have e1 := hbad (fun h => by have := h.2.1; omega)
    generalize b.ms.length = nm at *
    go_wp2
    go_ret
    exact ⟨by first | (rw [e1]; rfl) | rfl, hbe⟩
  by_cases g2 : 4 < b.hs.length
  · have e1 := hbad (fun h => by have := h.2.2.1; omega)
    generalize b.ms.length = nm at *
    generalize b.hs.length = nh at *
    go_wp2
    go_ret
    exact ⟨by first | (rw [e1]; rfl) | rfl, hbe⟩
  by_cases g3 : 10 < b.rs.length
  · have e1 := hbad (fun h => by have := h.2.2.2.1; omega)
    generalize b.ms.length = nm at *
    generalize b.hs.length = nh at *
    generalize b.rs.length = nr at *
    go_wp2
    go_ret
    exact ⟨by first | (rw [e1]; rfl) | rfl, hbe⟩
  have hm12 : b.ms.length ≤ 12 := by omega
  have hh4 : b.hs.length ≤ 4 := by omega
  have hr10 : b.rs.length ≤ 10 := by omega
  have HA4 := Lib.hid (H0.out.ext hbe)
  go_wp2_with fail
  refine (in_built _ 1 999 _ b.ms HA4.out.at_.ms).mono ?_
  clear c3 c4 c5 g1 g2 g3
  intro e w5 hh
  have hms : (∀ x ∈ b.ms, In x 1 999) ↔ ∀ i, (h : i < b.ms.length) → In b.ms[i] 1 999 := by
    constructor
    · intro h i hi; exact h _ (List.getElem_mem hi)
    · intro h x hx; obtain ⟨i, hi, rfl⟩ := List.getElem_of_mem hx; exact h i hi
  have HMS := Lib.hid hms
  clear hms
  rcases hh.both with ⟨hin, rfl, hb5⟩ | ⟨hin, rfl, hb5⟩
  case inr =>
    have hbe := below_trans hbe hb5
    have e1 := hbad (fun h => hin (HMS.out.2 (fun i hi => ((h.2.2.2.2.1 i hi) hi).1)))
    clear hh hin
    go_wp2
    go_ret
    exact ⟨by first | (rw [e1]; rfl) | rfl, hbe⟩
  have hbe := below_trans hbe hb5
  have L5 := Lib.hid (L4.out.ext hb5)
  have LR := Lib.hid (LR.out.ext hb5)
  have HIN := Lib.hid (HMS.out.1 hin)
  have c3 := L5.out.cell 3 _ rfl
  clear hh hin hb5 hb4 L4 HA4
  go_wp2
  clear c3
  go_loopw [62] (fun i wr => ∃ k : Nat, i = .int .i64 k ∧ k ≤ b.ms.length ∧ Hid (Below w5.heap.size w5 wr) ∧ Hid (∀ j, j < k → MsOk b.ms j)) (fun i _ => b.ms.length - (intOf i).toNat)
  case atStart => exact ⟨0, rfl, Nat.zero_le _, Lib.hid (Below.refl _ _), Lib.hid fun j hj => absurd hj (Nat.not_lt_zero _)⟩
  case round =>
    obtain ⟨k, rfl, hk, hbw, hall⟩ := hrel
    have L6 := Lib.hid (L5.out.ext hbw.out)
    have LR6 := Lib.hid (LR.out.ext hbw.out)
    by_cases hlt : k < b.ms.length
    · have eg := enter_c1
      unfold Enters at eg
      have HC := Lib.hid (rising_built wr w.heap.size _ b.ms k (.inr (L6.out.cell 3 _ rfl)) (L6.out.cell 3 _ rfl) (H0.out.ext (below_trans hbe hbw.out)).at_.ms hlt)
      have HIFF : Hid (MsOk b.ms k ↔ ∀ h0 : 0 < k, ∀ h1 : k - 1 < b.ms.length, b.ms[k - 1] < b.ms[k]) := ⟨fun h h0 _ => (h hlt).2 h0, fun h _ => ⟨HIN.out k hlt, fun h0 => h h0 (by omega)⟩⟩
      go_wp2_with (go_at_fn 30; refine HC.out.mono ?_; intro e w' hr; rcases hr.both with ⟨h1, rfl, hb'⟩ | ⟨h1, rfl, hb'⟩ <;> clear hr)
      · have hok := HIFF.out.2 h1
        have hb6 := Lib.hid (below_trans hbw.out hb')
        clear h1 HC HIFF
        go_wp2
        go_roundw
        case rel => exact ⟨k + 1, by go_num, by omega, hb6, Lib.hid (all_step _ k hall.out hok)⟩
        case measure => simp [intOf]; omega
      · have e1 := hbad (fun h => h1 (HIFF.out.1 (h.2.2.2.2.1 k hlt)))
        have hbe := below_trans hbe (below_trans hbw.out hb')
        clear h1 HC HIFF
        go_wp2
        go_ret
        exact ⟨by first | (rw [e1]; rfl) | rfl, hbe⟩
    · have hbe := below_trans hbe hbw.out
      have hmsok := Lib.hid (fun j (hj : j < b.ms.length) => hall.out j (by omega))
      have c4 := L6.out.cell 4 _ rfl
      clear L5 LR hall hbw
      go_wp2
      clear c4
      go_loopw [73] (fun i wh => ∃ k : Nat, i = .int .i64 k ∧ k ≤ b.hs.length ∧ Hid (Below wr.heap.size wr wh) ∧ Hid (∀ j, j < k → HeapOk b.ns.reg b.hs j)) (fun i _ => b.hs.length - (intOf i).toNat)
      case atStart => exact ⟨0, rfl, Nat.zero_le _, Lib.hid (Below.refl _ _), Lib.hid fun j hj => absurd hj (Nat.not_lt_zero _)⟩
      case round =>
        obtain ⟨k, rfl, hk, hbw, hall⟩ := hrel
        have L7 := Lib.hid (L6.out.ext hbw.out)
        have LR7 := Lib.hid (LR6.out.ext hbw.out)
        have hbe := below_trans hbe hbw.out
        by_cases hlt : k < b.hs.length
        · have HAw := Lib.hid (H0.out.ext hbe)
          obtain ⟨bq, oq, rfl, ⟨q0, q1, q2, q3⟩, hnum⟩ := (sl_at HAw.out.at_.hs).2 k hlt
          have hlq := cell_lt q0
          have HIFF : Hid (HeapOk b.ns.reg b.hs k ↔ PartR b.ns.reg b.hs[k].d b.hs[k].l ∧ b.hs[k].l < lastR b.ns.reg b.hs[k].d ∧ In b.hs[k].lo 0 200 ∧ In b.hs[k].hi b.hs[k].lo 200 ∧ ¬ ∃ o ∈ b.hs.take k, o.d = b.hs[k].d ∧ o.l = b.hs[k].l) := by
            constructor
            · intro h
              obtain ⟨h1, h2, h3, h4, h5⟩ := h hlt
              refine ⟨h1, h2, h3, h4, ?_⟩
              rintro ⟨o, ho, e⟩
              obtain ⟨j, hj, hjl, rfl⟩ := mem_take.1 ho
              exact h5 j hj hjl e
            · rintro ⟨h1, h2, h3, h4, h5⟩ _
              exact ⟨h1, h2, h3, h4, fun j hj hjl e => h5 ⟨_, mem_take.2 ⟨j, hj, hjl, rfl⟩, e⟩⟩
          have hbk : ¬ HeapOk b.ns.reg b.hs k → builtCode b = 80 := fun h => hbad (fun h2 => h (h2.2.2.2.2.2.1 k hlt))
          generalize b.hs[k] = x at *
          have HBK := Lib.hid hbk
          have HNUM := Lib.hid hnum
          have c0 := LR7.out.cell 0 _ rfl
          have lg4 := LR7.out.lt
          have hba := below_alloc wr (.cells #[.int .i64 x.d, .int .i64 x.l, .int .i64 x.lo, .int .i64 x.hi] 56)
          have LX := Lay.new wr 56 #[.int .i64 x.d, .int .i64 x.l, .int .i64 x.lo, .int .i64 x.hi]
          unfold Cell at q0 q1 q2 q3
          clear hbk
          go_wp2_with fail
          have L8 := Lib.hid (L7.out.ext hba)
          have LR8 := Lib.hid (LR7.out.ext hba)
          have hbe := below_trans hbe hba
          clear q0 q1 q2 q3 c0 lg4 hlq
          generalize hgx : wr.heap.size = gx at *
          generalize wr.alloc _ = wA at *
          refine (last_sheet _ _ b.ns.reg x.d (H0.out.ext hbe).notes.reg).mono ?_
          rintro e w8 ⟨⟨n, rfl, hn⟩, hb8⟩
          have HN := Lib.hid (hn hz)
          clear hn
          have L8 := Lib.hid (L8.out.ext hb8)
          have LR8 := Lib.hid (LR8.out.ext hb8)
          have LX := Lib.hid (LX.ext hb8)
          have hbe := below_trans hbe hb8
          have c4 := L8.out.cell 4 _ rfl
          have hkc : (k : Int) ≤ ch := by omega
          generalize knownCode b.ns.reg x.d = kc at *
          go_wp2_with fail
          refine (containsFunc_heap _ _ (b.hs.take k) (sl_take (H0.out.ext hbe).at_.hs k ch (by omega)) 33 #[.pointer (some ⟨gx, 0, none⟩)] enter_c2 (fun o => o.d = x.d ∧ o.l = x.l) (fun o ho w' hb => same_built w' o x gx ⟨(LX.out.ext hb).cell 0 _ rfl, (LX.out.ext hb).cell 1 _ rfl, (LX.out.ext hb).cell 2 _ rfl, (LX.out.ext hb).cell 3 _ rfl⟩)).mono ?_
          clear c4
          intro e wq hh
          have hbb : ∃ bt : Bool, e = .returned (.bool bt) ∧ (bt = true ↔ ∃ o ∈ b.hs.take k, o.d = x.d ∧ o.l = x.l) ∧ Below w8.heap.size w8 wq := hh
          obtain ⟨bt, rfl, hbt, hb9⟩ := hbb
          have hbe := below_trans hbe hb9
          have hba : Below wr.heap.size wr wA := by rw [hgx]; exact hba
          have hwq := below_trans (below_trans hba hb8) hb9
          have LXq := LX.out.ext hb9
          have LRq := LR8.out.ext hb9
          have HBT := Lib.hid hbt
          have HAR := Lib.hid (H0.out.ext hbe)
          have x0 := cell_later (show Cell wq gx 0 (.int .i64 x.d) from LXq.cell 0 _ rfl)
          have x1 := cell_later (show Cell wq gx 1 (.int .i64 x.l) from LXq.cell 1 _ rfl)
          have x2 := cell_later (show Cell wq gx 2 (.int .i64 x.lo) from LXq.cell 2 _ rfl)
          have x3 := cell_later (show Cell wq gx 3 (.int .i64 x.hi) from LXq.cell 3 _ rfl)
          have r0 := cell_later (show Cell wq g4 0 (.slice ar b.ns.reg.length cr) from LRq.cell 0 _ rfl)
          have hnum := HNUM.out
          clear hh hbt hb9 hb8 LXq LRq L8 LR8
          cases bt with
          | true =>
            have e1 := HBK.out (fun h => (HIFF.out.1 h).2.2.2.2 (HBT.out.1 rfl))
            go_wp2
            refine wp_region_grow_all 34 (by kernel_rfl) (by kernel_rfl) ?_
            simp only [List.take_succ_cons, List.take_zero]
            refine growAll_exact ?_; apply Exists.intro; refine ⟨fun vs xq hd => ?_, ?_⟩; focus ((try simp [Oper.waitsOn, Region.binds, List.filter_cons, List.filter_nil, factAt, depsHold] at hd); simp only [putsFrom, Act.put, List.setIfInBounds_toArray, List.set_cons_succ, List.set_cons_zero]; go_simp; first | exact ⟨Below.refl _ _, rfl⟩ | exact rfl)
            refine growAll_exact ?_; apply Exists.intro; refine ⟨fun vs xq hd => ?_, ?_⟩; focus ((try simp [Oper.waitsOn, Region.binds, List.filter_cons, List.filter_nil, factAt, depsHold] at hd); simp only [putsFrom, Act.put, List.setIfInBounds_toArray, List.set_cons_succ, List.set_cons_zero]; go_simp; first | exact ⟨Below.refl _ _, rfl⟩ | exact rfl)
            refine growAll_exact ?_; apply Exists.intro; refine ⟨fun vs xq hd => ?_, ?_⟩; focus ((try simp [Oper.waitsOn, Region.binds, List.filter_cons, List.filter_nil, factAt, depsHold] at hd); simp only [putsFrom, Act.put, List.setIfInBounds_toArray, List.set_cons_succ, List.set_cons_zero]; go_simp; first | exact ⟨Below.refl _ _, rfl⟩ | exact rfl)
            refine growAll_exact ?_; apply Exists.intro; refine ⟨fun vs xq hd => ?_, ?_⟩; focus ((try simp [Oper.waitsOn, Region.binds, List.filter_cons, List.filter_nil, factAt, depsHold] at hd); simp only [putsFrom, Act.put, List.setIfInBounds_toArray, List.set_cons_succ, List.set_cons_zero]; go_simp; first | exact ⟨Below.refl _ _, rfl⟩ | exact rfl)
            refine growAll_exact ?_; apply Exists.intro; refine ⟨fun vs xq hd => ?_, ?_⟩; focus ((try simp [Oper.waitsOn, Region.binds, List.filter_cons, List.filter_nil, factAt, depsHold] at hd); simp only [putsFrom, Act.put, List.setIfInBounds_toArray, List.set_cons_succ, List.set_cons_zero]; go_simp; first | exact ⟨Below.refl _ _, rfl⟩ | exact rfl | (refine (name_built _ x).mono ?_; rintro e w' ⟨rfl, hb⟩; exact ⟨rfl, hb⟩))
            refine growAll_exact ?_; apply Exists.intro; refine ⟨fun vs xq hd => ?_, ?_⟩; focus ((try simp [Oper.waitsOn, Region.binds, List.filter_cons, List.filter_nil, factAt, depsHold] at hd); simp only [putsFrom, Act.put, List.setIfInBounds_toArray, List.set_cons_succ, List.set_cons_zero]; go_simp; first | exact ⟨Below.refl _ _, rfl⟩ | exact rfl | (refine (part_built _ _ b.ns.reg x.d x.l (HAR.out.ext (below_later wq xq)).notes.reg hz hkind).mono ?_; rintro e w' ⟨rfl, hb⟩; rw [hp]; exact ⟨rfl, hb⟩))
            refine growAll_exact ?_; apply Exists.intro; refine ⟨fun vs xq hd => ?_, ?_⟩; focus ((try simp [Oper.waitsOn, Region.binds, List.filter_cons, List.filter_nil, factAt, depsHold] at hd); simp only [putsFrom, Act.put, List.setIfInBounds_toArray, List.set_cons_succ, List.set_cons_zero]; go_simp; first | exact ⟨Below.refl _ _, rfl⟩ | exact rfl)
            refine growAll_exact ?_; apply Exists.intro; refine ⟨fun vs xq hd => ?_, ?_⟩; focus ((try simp [Oper.waitsOn, Region.binds, List.filter_cons, List.filter_nil, factAt, depsHold] at hd); simp only [putsFrom, Act.put, List.setIfInBounds_toArray, List.set_cons_succ, List.set_cons_zero]; go_simp; first | exact ⟨Below.refl _ _, rfl⟩ | exact rfl)
            refine growAll_exact ?_; apply Exists.intro; refine ⟨fun vs xq hd => ?_, ?_⟩; focus ((try simp [Oper.waitsOn, Region.binds, List.filter_cons, List.filter_nil, factAt, depsHold] at hd); simp only [putsFrom, Act.put, List.setIfInBounds_toArray, List.set_cons_succ, List.set_cons_zero]; go_simp; first | exact ⟨Below.refl _ _, rfl⟩ | exact rfl)
            refine growAll_exact ?_; apply Exists.intro; refine ⟨fun vs xq hd => ?_, ?_⟩; focus ((try simp [Oper.waitsOn, Region.binds, List.filter_cons, List.filter_nil, factAt, depsHold] at hd); simp only [putsFrom, Act.put, List.setIfInBounds_toArray, List.set_cons_succ, List.set_cons_zero]; go_simp; first | exact ⟨Below.refl _ _, rfl⟩ | exact rfl)
            refine growAll_exact ?_; apply Exists.intro; refine ⟨fun vs xq hd => ?_, ?_⟩; focus ((try simp [Oper.waitsOn, Region.binds, List.filter_cons, List.filter_nil, factAt, depsHold] at hd); simp only [putsFrom, Act.put, List.setIfInBounds_toArray, List.set_cons_succ, List.set_cons_zero]; go_simp; first | exact ⟨Below.refl _ _, rfl⟩ | exact rfl)
            refine growAll_exact ?_; apply Exists.intro; refine ⟨fun vs xq hd => ?_, ?_⟩; focus ((try simp [Oper.waitsOn, Region.binds, List.filter_cons, List.filter_nil, factAt, depsHold] at hd); simp only [putsFrom, Act.put, List.setIfInBounds_toArray, List.set_cons_succ, List.set_cons_zero]; go_simp; first | exact ⟨Below.refl _ _, rfl⟩ | exact rfl)
            refine growAll_exact ?_; apply Exists.intro; refine ⟨fun vs xq hd => ?_, ?_⟩; focus ((try simp [Oper.waitsOn, Region.binds, List.filter_cons, List.filter_nil, factAt, depsHold] at hd); simp only [putsFrom, Act.put, List.setIfInBounds_toArray, List.set_cons_succ, List.set_cons_zero]; go_simp; first | exact ⟨Below.refl _ _, rfl⟩ | exact rfl)
            refine growAll_exact ?_; apply Exists.intro; refine ⟨fun vs xq hd => ?_, ?_⟩; focus ((try simp [Oper.waitsOn, Region.binds, List.filter_cons, List.filter_nil, factAt, depsHold] at hd); simp only [putsFrom, Act.put, List.setIfInBounds_toArray, List.set_cons_succ, List.set_cons_zero]; go_simp; first | exact ⟨Below.refl _ _, rfl⟩ | exact rfl)
            refine growAll_exact ?_; apply Exists.intro; refine ⟨fun vs xq hd => ?_, ?_⟩; focus ((try simp [Oper.waitsOn, Region.binds, List.filter_cons, List.filter_nil, factAt, depsHold] at hd); simp only [putsFrom, Act.put, List.setIfInBounds_toArray, List.set_cons_succ, List.set_cons_zero]; go_simp; first | exact ⟨Below.refl _ _, rfl⟩ | exact rfl)
            refine growAll_exact ?_; apply Exists.intro; refine ⟨fun vs xq hd => ?_, ?_⟩; focus ((try simp [Oper.waitsOn, Region.binds, List.filter_cons, List.filter_nil, factAt, depsHold] at hd); simp only [putsFrom, Act.put, List.setIfInBounds_toArray, List.set_cons_succ, List.set_cons_zero]; go_simp; first | exact ⟨Below.refl _ _, rfl⟩ | exact rfl)
            refine growAll_exact ?_; apply Exists.intro; refine ⟨fun vs xq hd => ?_, ?_⟩; focus ((try simp [Oper.waitsOn, Region.binds, List.filter_cons, List.filter_nil, factAt, depsHold] at hd); simp only [putsFrom, Act.put, List.setIfInBounds_toArray, List.set_cons_succ, List.set_cons_zero]; go_simp; first | exact ⟨Below.refl _ _, rfl⟩ | exact rfl)
            refine growAll_exact ?_; apply Exists.intro; refine ⟨fun vs xq hd => ?_, ?_⟩; focus ((try simp [Oper.waitsOn, Region.binds, List.filter_cons, List.filter_nil, factAt, depsHold] at hd); simp only [putsFrom, Act.put, List.setIfInBounds_toArray, List.set_cons_succ, List.set_cons_zero]; go_simp; first | exact ⟨Below.refl _ _, rfl⟩ | exact rfl)
            refine growAll_exact ?_; apply Exists.intro; refine ⟨fun vs xq hd => ?_, ?_⟩; focus ((try simp [Oper.waitsOn, Region.binds, List.filter_cons, List.filter_nil, factAt, depsHold] at hd); simp only [putsFrom, Act.put, List.setIfInBounds_toArray, List.set_cons_succ, List.set_cons_zero]; go_simp; first | exact ⟨Below.refl _ _, rfl⟩ | exact rfl)
            refine growAll_exact ?_; apply Exists.intro; refine ⟨fun vs xq hd => ?_, ?_⟩; focus ((try simp [Oper.waitsOn, Region.binds, List.filter_cons, List.filter_nil, factAt, depsHold] at hd); simp only [putsFrom, Act.put, List.setIfInBounds_toArray, List.set_cons_succ, List.set_cons_zero]; go_simp; first | exact ⟨Below.refl _ _, rfl⟩ | exact rfl)
            refine growAll_exact ?_; apply Exists.intro; refine ⟨fun vs xq hd => ?_, ?_⟩; focus ((try simp [Oper.waitsOn, Region.binds, List.filter_cons, List.filter_nil, factAt, depsHold] at hd); simp only [putsFrom, Act.put, List.setIfInBounds_toArray, List.set_cons_succ, List.set_cons_zero]; go_simp; first | exact ⟨Below.refl _ _, rfl⟩ | exact rfl)
            refine growAll_exact ?_; apply Exists.intro; refine ⟨fun vs xq hd => ?_, ?_⟩; focus ((try simp [Oper.waitsOn, Region.binds, List.filter_cons, List.filter_nil, factAt, depsHold] at hd); simp only [putsFrom, Act.put, List.setIfInBounds_toArray, List.set_cons_succ, List.set_cons_zero]; go_simp; first | exact ⟨Below.refl _ _, rfl⟩ | exact rfl)
            refine growAll_exact ?_; apply Exists.intro; refine ⟨fun vs xq hd => ?_, ?_⟩; focus ((try simp [Oper.waitsOn, Region.binds, List.filter_cons, List.filter_nil, factAt, depsHold] at hd); simp only [putsFrom, Act.put, List.setIfInBounds_toArray, List.set_cons_succ, List.set_cons_zero]; go_simp; first | exact ⟨Below.refl _ _, rfl⟩ | exact rfl)
            refine growAll_exact ?_; apply Exists.intro; refine ⟨fun vs xq hd => ?_, ?_⟩; focus ((try simp [Oper.waitsOn, Region.binds, List.filter_cons, List.filter_nil, factAt, depsHold] at hd); simp only [putsFrom, Act.put, List.setIfInBounds_toArray, List.set_cons_succ, List.set_cons_zero]; go_simp; first | exact ⟨Below.refl _ _, rfl⟩ | exact rfl)
            refine growAll_exact ?_; apply Exists.intro; refine ⟨fun vs xq hd => ?_, ?_⟩; focus ((try simp [Oper.waitsOn, Region.binds, List.filter_cons, List.filter_nil, factAt, depsHold] at hd); simp only [putsFrom, Act.put, List.setIfInBounds_toArray, List.set_cons_succ, List.set_cons_zero]; go_simp; first | exact ⟨Below.refl _ _, rfl⟩ | exact rfl)
            refine growAll_exact ?_; apply Exists.intro; refine ⟨fun vs xq hd => ?_, ?_⟩; focus ((try simp [Oper.waitsOn, Region.binds, List.filter_cons, List.filter_nil, factAt, depsHold] at hd); simp only [putsFrom, Act.put, List.setIfInBounds_toArray, List.set_cons_succ, List.set_cons_zero]; go_simp; first | exact ⟨Below.refl _ _, rfl⟩ | exact rfl)
            refine growAll_exact ?_; apply Exists.intro; refine ⟨fun vs xq hd => ?_, ?_⟩; focus ((try simp [Oper.waitsOn, Region.binds, List.filter_cons, List.filter_nil, factAt, depsHold] at hd); simp only [putsFrom, Act.put, List.setIfInBounds_toArray, List.set_cons_succ, List.set_cons_zero]; go_simp; first | exact ⟨Below.refl _ _, rfl⟩ | exact rfl)
            refine growAll_exact ?_; apply Exists.intro; refine ⟨fun vs xq hd => ?_, ?_⟩; focus ((try simp [Oper.waitsOn, Region.binds, List.filter_cons, List.filter_nil, factAt, depsHold] at hd); simp only [putsFrom, Act.put, List.setIfInBounds_toArray, List.set_cons_succ, List.set_cons_zero]; go_simp; first | exact ⟨Below.refl _ _, rfl⟩ | exact rfl)
            refine growAll_exact ?_; apply Exists.intro; refine ⟨fun vs xq hd => ?_, ?_⟩; focus ((try simp [Oper.waitsOn, Region.binds, List.filter_cons, List.filter_nil, factAt, depsHold] at hd); simp only [putsFrom, Act.put, List.setIfInBounds_toArray, List.set_cons_succ, List.set_cons_zero]; go_simp; first | exact ⟨Below.refl _ _, rfl⟩ | exact rfl)
            refine growAll_exact ?_; apply Exists.intro; refine ⟨fun vs xq hd => ?_, ?_⟩; focus ((try simp [Oper.waitsOn, Region.binds, List.filter_cons, List.filter_nil, factAt, depsHold] at hd); simp only [putsFrom, Act.put, List.setIfInBounds_toArray, List.set_cons_succ, List.set_cons_zero]; go_simp; first | exact ⟨Below.refl _ _, rfl⟩ | exact rfl)
            refine growAll_exact ?_; apply Exists.intro; refine ⟨fun vs xq hd => ?_, ?_⟩; focus ((try simp [Oper.waitsOn, Region.binds, List.filter_cons, List.filter_nil, factAt, depsHold] at hd); simp only [putsFrom, Act.put, List.setIfInBounds_toArray, List.set_cons_succ, List.set_cons_zero]; go_simp; first | exact ⟨Below.refl _ _, rfl⟩ | exact rfl)
            refine growAll_exact ?_; apply Exists.intro; refine ⟨fun vs xq hd => ?_, ?_⟩; focus ((try simp [Oper.waitsOn, Region.binds, List.filter_cons, List.filter_nil, factAt, depsHold] at hd); simp only [putsFrom, Act.put, List.setIfInBounds_toArray, List.set_cons_succ, List.set_cons_zero]; go_simp; first | exact ⟨Below.refl _ _, rfl⟩ | exact rfl)
            refine growAll_exact ?_; apply Exists.intro; refine ⟨fun vs xq hd => ?_, ?_⟩; focus ((try simp [Oper.waitsOn, Region.binds, List.filter_cons, List.filter_nil, factAt, depsHold] at hd); simp only [putsFrom, Act.put, List.setIfInBounds_toArray, List.set_cons_succ, List.set_cons_zero]; go_simp; first | exact ⟨Below.refl _ _, rfl⟩ | exact rfl)
            refine growAll_exact ?_; apply Exists.intro; refine ⟨fun vs xq hd => ?_, ?_⟩; focus ((try simp [Oper.waitsOn, Region.binds, List.filter_cons, List.filter_nil, factAt, depsHold] at hd); simp only [putsFrom, Act.put, List.setIfInBounds_toArray, List.set_cons_succ, List.set_cons_zero]; go_simp; first | exact ⟨Below.refl _ _, rfl⟩ | exact rfl)
            refine growAll_done (by simp only [List.length_append, List.length_cons, List.length_nil]) (fun vs xq hd => ?_)
            simp [depsHold, factAt, List.range, List.range.loop] at hd
            simp only [putsFrom, Act.put, List.setIfInBounds_toArray, List.set_cons_succ, List.set_cons_zero, List.drop_succ_cons, List.drop_zero]
            obtain ⟨_, _, _, _, _, _, _, _, _, _, _, _, _, _, _, _, _, _, _, _, _, _, _, _, _, _, _, _, _, _, _, _, _, e33⟩ := hd
            simp only [Nat.zero_add, Nat.reduceAdd] at e33 ⊢
            have hbe := below_trans hbe (below_later wq xq)
            simp only [e33]
            clear x0 x1 x2 x3 r0
            go_wp2
            go_ret
            exact ⟨by first | (rw [e1]; rfl) | rfl, hbe⟩
          | false =>
            have hnt : ¬ ∃ o ∈ b.hs.take k, o.d = x.d ∧ o.l = x.l := fun h => by have := HBT.out.2 h; cases this
            have HNT := Lib.hid hnt
            clear hnt
            by_cases hpp : partB b.ns.reg x.d x.l = true
            case neg =>
              have hp : partB b.ns.reg x.d x.l = false := by simpa using hpp
              have e1 := HBK.out (fun h => hpp ((partB_iff _ _ _).2 (HIFF.out.1 h).1))
              clear hpp
              go_wp2
              refine wp_region_grow_all 34 (by kernel_rfl) (by kernel_rfl) ?_
              simp only [List.take_succ_cons, List.take_zero]
              refine growAll_exact ?_; apply Exists.intro; refine ⟨fun vs xq hd => ?_, ?_⟩; focus ((try simp [Oper.waitsOn, Region.binds, List.filter_cons, List.filter_nil, factAt, depsHold] at hd); simp only [putsFrom, Act.put, List.setIfInBounds_toArray, List.set_cons_succ, List.set_cons_zero]; go_simp; first | exact ⟨Below.refl _ _, rfl⟩ | exact rfl)
              refine growAll_exact ?_; apply Exists.intro; refine ⟨fun vs xq hd => ?_, ?_⟩; focus ((try simp [Oper.waitsOn, Region.binds, List.filter_cons, List.filter_nil, factAt, depsHold] at hd); simp only [putsFrom, Act.put, List.setIfInBounds_toArray, List.set_cons_succ, List.set_cons_zero]; go_simp; first | exact ⟨Below.refl _ _, rfl⟩ | exact rfl)
              refine growAll_exact ?_; apply Exists.intro; refine ⟨fun vs xq hd => ?_, ?_⟩; focus ((try simp [Oper.waitsOn, Region.binds, List.filter_cons, List.filter_nil, factAt, depsHold] at hd); simp only [putsFrom, Act.put, List.setIfInBounds_toArray, List.set_cons_succ, List.set_cons_zero]; go_simp; first | exact ⟨Below.refl _ _, rfl⟩ | exact rfl)
              refine growAll_exact ?_; apply Exists.intro; refine ⟨fun vs xq hd => ?_, ?_⟩; focus ((try simp [Oper.waitsOn, Region.binds, List.filter_cons, List.filter_nil, factAt, depsHold] at hd); simp only [putsFrom, Act.put, List.setIfInBounds_toArray, List.set_cons_succ, List.set_cons_zero]; go_simp; first | exact ⟨Below.refl _ _, rfl⟩ | exact rfl)
              refine growAll_exact ?_; apply Exists.intro; refine ⟨fun vs xq hd => ?_, ?_⟩; focus ((try simp [Oper.waitsOn, Region.binds, List.filter_cons, List.filter_nil, factAt, depsHold] at hd); simp only [putsFrom, Act.put, List.setIfInBounds_toArray, List.set_cons_succ, List.set_cons_zero]; go_simp; first | exact ⟨Below.refl _ _, rfl⟩ | exact rfl | (refine (name_built _ x).mono ?_; rintro e w' ⟨rfl, hb⟩; exact ⟨rfl, hb⟩))
              refine growAll_exact ?_; apply Exists.intro; refine ⟨fun vs xq hd => ?_, ?_⟩; focus ((try simp [Oper.waitsOn, Region.binds, List.filter_cons, List.filter_nil, factAt, depsHold] at hd); simp only [putsFrom, Act.put, List.setIfInBounds_toArray, List.set_cons_succ, List.set_cons_zero]; go_simp; first | exact ⟨Below.refl _ _, rfl⟩ | exact rfl | (refine (part_built _ _ b.ns.reg x.d x.l (HAR.out.ext (below_later wq xq)).notes.reg hz hkind).mono ?_; rintro e w' ⟨rfl, hb⟩; rw [hp]; exact ⟨rfl, hb⟩))
              refine growAll_exact ?_; apply Exists.intro; refine ⟨fun vs xq hd => ?_, ?_⟩; focus ((try simp [Oper.waitsOn, Region.binds, List.filter_cons, List.filter_nil, factAt, depsHold] at hd); simp only [putsFrom, Act.put, List.setIfInBounds_toArray, List.set_cons_succ, List.set_cons_zero]; go_simp; first | exact ⟨Below.refl _ _, rfl⟩ | exact rfl)
              refine growAll_exact ?_; apply Exists.intro; refine ⟨fun vs xq hd => ?_, ?_⟩; focus ((try simp [Oper.waitsOn, Region.binds, List.filter_cons, List.filter_nil, factAt, depsHold] at hd); simp only [putsFrom, Act.put, List.setIfInBounds_toArray, List.set_cons_succ, List.set_cons_zero]; go_simp; first | exact ⟨Below.refl _ _, rfl⟩ | exact rfl)
              refine growAll_exact ?_; apply Exists.intro; refine ⟨fun vs xq hd => ?_, ?_⟩; focus ((try simp [Oper.waitsOn, Region.binds, List.filter_cons, List.filter_nil, factAt, depsHold] at hd); simp only [putsFrom, Act.put, List.setIfInBounds_toArray, List.set_cons_succ, List.set_cons_zero]; go_simp; first | exact ⟨Below.refl _ _, rfl⟩ | exact rfl)
              refine growAll_exact ?_; apply Exists.intro; refine ⟨fun vs xq hd => ?_, ?_⟩; focus ((try simp [Oper.waitsOn, Region.binds, List.filter_cons, List.filter_nil, factAt, depsHold] at hd); simp only [putsFrom, Act.put, List.setIfInBounds_toArray, List.set_cons_succ, List.set_cons_zero]; go_simp; first | exact ⟨Below.refl _ _, rfl⟩ | exact rfl)
              refine growAll_exact ?_; apply Exists.intro; refine ⟨fun vs xq hd => ?_, ?_⟩; focus ((try simp [Oper.waitsOn, Region.binds, List.filter_cons, List.filter_nil, factAt, depsHold] at hd); simp only [putsFrom, Act.put, List.setIfInBounds_toArray, List.set_cons_succ, List.set_cons_zero]; go_simp; first | exact ⟨Below.refl _ _, rfl⟩ | exact rfl)
              refine growAll_exact ?_; apply Exists.intro; refine ⟨fun vs xq hd => ?_, ?_⟩; focus ((try simp [Oper.waitsOn, Region.binds, List.filter_cons, List.filter_nil, factAt, depsHold] at hd); simp only [putsFrom, Act.put, List.setIfInBounds_toArray, List.set_cons_succ, List.set_cons_zero]; go_simp; first | exact ⟨Below.refl _ _, rfl⟩ | exact rfl)
              refine growAll_exact ?_; apply Exists.intro; refine ⟨fun vs xq hd => ?_, ?_⟩; focus ((try simp [Oper.waitsOn, Region.binds, List.filter_cons, List.filter_nil, factAt, depsHold] at hd); simp only [putsFrom, Act.put, List.setIfInBounds_toArray, List.set_cons_succ, List.set_cons_zero]; go_simp; first | exact ⟨Below.refl _ _, rfl⟩ | exact rfl)
              refine growAll_exact ?_; apply Exists.intro; refine ⟨fun vs xq hd => ?_, ?_⟩; focus ((try simp [Oper.waitsOn, Region.binds, List.filter_cons, List.filter_nil, factAt, depsHold] at hd); simp only [putsFrom, Act.put, List.setIfInBounds_toArray, List.set_cons_succ, List.set_cons_zero]; go_simp; first | exact ⟨Below.refl _ _, rfl⟩ | exact rfl)
              refine growAll_exact ?_; apply Exists.intro; refine ⟨fun vs xq hd => ?_, ?_⟩; focus ((try simp [Oper.waitsOn, Region.binds, List.filter_cons, List.filter_nil, factAt, depsHold] at hd); simp only [putsFrom, Act.put, List.setIfInBounds_toArray, List.set_cons_succ, List.set_cons_zero]; go_simp; first | exact ⟨Below.refl _ _, rfl⟩ | exact rfl)
              refine growAll_exact ?_; apply Exists.intro; refine ⟨fun vs xq hd => ?_, ?_⟩; focus ((try simp [Oper.waitsOn, Region.binds, List.filter_cons, List.filter_nil, factAt, depsHold] at hd); simp only [putsFrom, Act.put, List.setIfInBounds_toArray, List.set_cons_succ, List.set_cons_zero]; go_simp; first | exact ⟨Below.refl _ _, rfl⟩ | exact rfl)
              refine growAll_exact ?_; apply Exists.intro; refine ⟨fun vs xq hd => ?_, ?_⟩; focus ((try simp [Oper.waitsOn, Region.binds, List.filter_cons, List.filter_nil, factAt, depsHold] at hd); simp only [putsFrom, Act.put, List.setIfInBounds_toArray, List.set_cons_succ, List.set_cons_zero]; go_simp; first | exact ⟨Below.refl _ _, rfl⟩ | exact rfl)
              refine growAll_exact ?_; apply Exists.intro; refine ⟨fun vs xq hd => ?_, ?_⟩; focus ((try simp [Oper.waitsOn, Region.binds, List.filter_cons, List.filter_nil, factAt, depsHold] at hd); simp only [putsFrom, Act.put, List.setIfInBounds_toArray, List.set_cons_succ, List.set_cons_zero]; go_simp; first | exact ⟨Below.refl _ _, rfl⟩ | exact rfl)
              refine growAll_exact ?_; apply Exists.intro; refine ⟨fun vs xq hd => ?_, ?_⟩; focus ((try simp [Oper.waitsOn, Region.binds, List.filter_cons, List.filter_nil, factAt, depsHold] at hd); simp only [putsFrom, Act.put, List.setIfInBounds_toArray, List.set_cons_succ, List.set_cons_zero]; go_simp; first | exact ⟨Below.refl _ _, rfl⟩ | exact rfl)
              refine growAll_exact ?_; apply Exists.intro; refine ⟨fun vs xq hd => ?_, ?_⟩; focus ((try simp [Oper.waitsOn, Region.binds, List.filter_cons, List.filter_nil, factAt, depsHold] at hd); simp only [putsFrom, Act.put, List.setIfInBounds_toArray, List.set_cons_succ, List.set_cons_zero]; go_simp; first | exact ⟨Below.refl _ _, rfl⟩ | exact rfl)
              refine growAll_exact ?_; apply Exists.intro; refine ⟨fun vs xq hd => ?_, ?_⟩; focus ((try simp [Oper.waitsOn, Region.binds, List.filter_cons, List.filter_nil, factAt, depsHold] at hd); simp only [putsFrom, Act.put, List.setIfInBounds_toArray, List.set_cons_succ, List.set_cons_zero]; go_simp; first | exact ⟨Below.refl _ _, rfl⟩ | exact rfl)
              refine growAll_exact ?_; apply Exists.intro; refine ⟨fun vs xq hd => ?_, ?_⟩; focus ((try simp [Oper.waitsOn, Region.binds, List.filter_cons, List.filter_nil, factAt, depsHold] at hd); simp only [putsFrom, Act.put, List.setIfInBounds_toArray, List.set_cons_succ, List.set_cons_zero]; go_simp; first | exact ⟨Below.refl _ _, rfl⟩ | exact rfl)
              refine growAll_exact ?_; apply Exists.intro; refine ⟨fun vs xq hd => ?_, ?_⟩; focus ((try simp [Oper.waitsOn, Region.binds, List.filter_cons, List.filter_nil, factAt, depsHold] at hd); simp only [putsFrom, Act.put, List.setIfInBounds_toArray, List.set_cons_succ, List.set_cons_zero]; go_simp; first | exact ⟨Below.refl _ _, rfl⟩ | exact rfl)
              refine growAll_exact ?_; apply Exists.intro; refine ⟨fun vs xq hd => ?_, ?_⟩; focus ((try simp [Oper.waitsOn, Region.binds, List.filter_cons, List.filter_nil, factAt, depsHold] at hd); simp only [putsFrom, Act.put, List.setIfInBounds_toArray, List.set_cons_succ, List.set_cons_zero]; go_simp; first | exact ⟨Below.refl _ _, rfl⟩ | exact rfl)
              refine growAll_exact ?_; apply Exists.intro; refine ⟨fun vs xq hd => ?_, ?_⟩; focus ((try simp [Oper.waitsOn, Region.binds, List.filter_cons, List.filter_nil, factAt, depsHold] at hd); simp only [putsFrom, Act.put, List.setIfInBounds_toArray, List.set_cons_succ, List.set_cons_zero]; go_simp; first | exact ⟨Below.refl _ _, rfl⟩ | exact rfl)
              refine growAll_exact ?_; apply Exists.intro; refine ⟨fun vs xq hd => ?_, ?_⟩; focus ((try simp [Oper.waitsOn, Region.binds, List.filter_cons, List.filter_nil, factAt, depsHold] at hd); simp only [putsFrom, Act.put, List.setIfInBounds_toArray, List.set_cons_succ, List.set_cons_zero]; go_simp; first | exact ⟨Below.refl _ _, rfl⟩ | exact rfl)
              refine growAll_exact ?_; apply Exists.intro; refine ⟨fun vs xq hd => ?_, ?_⟩; focus ((try simp [Oper.waitsOn, Region.binds, List.filter_cons, List.filter_nil, factAt, depsHold] at hd); simp only [putsFrom, Act.put, List.setIfInBounds_toArray, List.set_cons_succ, List.set_cons_zero]; go_simp; first | exact ⟨Below.refl _ _, rfl⟩ | exact rfl)
              refine growAll_exact ?_; apply Exists.intro; refine ⟨fun vs xq hd => ?_, ?_⟩; focus ((try simp [Oper.waitsOn, Region.binds, List.filter_cons, List.filter_nil, factAt, depsHold] at hd); simp only [putsFrom, Act.put, List.setIfInBounds_toArray, List.set_cons_succ, List.set_cons_zero]; go_simp; first | exact ⟨Below.refl _ _, rfl⟩ | exact rfl)
              refine growAll_exact ?_; apply Exists.intro; refine ⟨fun vs xq hd => ?_, ?_⟩; focus ((try simp [Oper.waitsOn, Region.binds, List.filter_cons, List.filter_nil, factAt, depsHold] at hd); simp only [putsFrom, Act.put, List.setIfInBounds_toArray, List.set_cons_succ, List.set_cons_zero]; go_simp; first | exact ⟨Below.refl _ _, rfl⟩ | exact rfl)
              refine growAll_exact ?_; apply Exists.intro; refine ⟨fun vs xq hd => ?_, ?_⟩; focus ((try simp [Oper.waitsOn, Region.binds, List.filter_cons, List.filter_nil, factAt, depsHold] at hd); simp only [putsFrom, Act.put, List.setIfInBounds_toArray, List.set_cons_succ, List.set_cons_zero]; go_simp; first | exact ⟨Below.refl _ _, rfl⟩ | exact rfl)
              refine growAll_exact ?_; apply Exists.intro; refine ⟨fun vs xq hd => ?_, ?_⟩; focus ((try simp [Oper.waitsOn, Region.binds, List.filter_cons, List.filter_nil, factAt, depsHold] at hd); simp only [putsFrom, Act.put, List.setIfInBounds_toArray, List.set_cons_succ, List.set_cons_zero]; go_simp; first | exact ⟨Below.refl _ _, rfl⟩ | exact rfl)
              refine growAll_exact ?_; apply Exists.intro; refine ⟨fun vs xq hd => ?_, ?_⟩; focus ((try simp [Oper.waitsOn, Region.binds, List.filter_cons, List.filter_nil, factAt, depsHold] at hd); simp only [putsFrom, Act.put, List.setIfInBounds_toArray, List.set_cons_succ, List.set_cons_zero]; go_simp; first | exact ⟨Below.refl _ _, rfl⟩ | exact rfl)
              refine growAll_exact ?_; apply Exists.intro; refine ⟨fun vs xq hd => ?_, ?_⟩; focus ((try simp [Oper.waitsOn, Region.binds, List.filter_cons, List.filter_nil, factAt, depsHold] at hd); simp only [putsFrom, Act.put, List.setIfInBounds_toArray, List.set_cons_succ, List.set_cons_zero]; go_simp; first | exact ⟨Below.refl _ _, rfl⟩ | exact rfl)
              refine growAll_exact ?_; apply Exists.intro; refine ⟨fun vs xq hd => ?_, ?_⟩; focus ((try simp [Oper.waitsOn, Region.binds, List.filter_cons, List.filter_nil, factAt, depsHold] at hd); simp only [putsFrom, Act.put, List.setIfInBounds_toArray, List.set_cons_succ, List.set_cons_zero]; go_simp; first | exact ⟨Below.refl _ _, rfl⟩ | exact rfl)
              refine growAll_done (by simp only [List.length_append, List.length_cons, List.length_nil]) (fun vs xq hd => ?_)
              simp [depsHold, factAt, List.range, List.range.loop] at hd
              simp only [putsFrom, Act.put, List.setIfInBounds_toArray, List.set_cons_succ, List.set_cons_zero, List.drop_succ_cons, List.drop_zero]
              obtain ⟨_, _, _, _, _, _, _, _, _, _, _, _, _, _, _, _, _, _, _, _, _, _, _, _, _, _, _, _, _, _, _, _, _, e33⟩ := hd
              simp only [Nat.zero_add, Nat.reduceAdd] at e33 ⊢
              have hbe := below_trans hbe (below_later wq xq)
              simp only [e33]
              clear x0 x1 x2 x3 r0
              go_wp2
              go_ret
              exact ⟨by first | (rw [e1]; rfl) | rfl, hbe⟩
            have hp := hpp
            have HP := Lib.hid ((partB_iff _ _ _).1 hpp)
            clear hpp
            by_cases hle : n ≤ x.l
            · have hle' : ¬ x.l < n := by omega
              have e1 := HBK.out (fun h => by have := (HIFF.out.1 h).2.1; rw [← HN.out] at this; omega)
              go_wp2
              refine wp_region_grow_all 34 (by kernel_rfl) (by kernel_rfl) ?_
              simp only [List.take_succ_cons, List.take_zero]
              refine growAll_exact ?_; apply Exists.intro; refine ⟨fun vs xq hd => ?_, ?_⟩; focus ((try simp [Oper.waitsOn, Region.binds, List.filter_cons, List.filter_nil, factAt, depsHold] at hd); simp only [putsFrom, Act.put, List.setIfInBounds_toArray, List.set_cons_succ, List.set_cons_zero]; go_simp; first | exact ⟨Below.refl _ _, rfl⟩ | exact rfl)
              refine growAll_exact ?_; apply Exists.intro; refine ⟨fun vs xq hd => ?_, ?_⟩; focus ((try simp [Oper.waitsOn, Region.binds, List.filter_cons, List.filter_nil, factAt, depsHold] at hd); simp only [putsFrom, Act.put, List.setIfInBounds_toArray, List.set_cons_succ, List.set_cons_zero]; go_simp; first | exact ⟨Below.refl _ _, rfl⟩ | exact rfl)
              refine growAll_exact ?_; apply Exists.intro; refine ⟨fun vs xq hd => ?_, ?_⟩; focus ((try simp [Oper.waitsOn, Region.binds, List.filter_cons, List.filter_nil, factAt, depsHold] at hd); simp only [putsFrom, Act.put, List.setIfInBounds_toArray, List.set_cons_succ, List.set_cons_zero]; go_simp; first | exact ⟨Below.refl _ _, rfl⟩ | exact rfl)
              refine growAll_exact ?_; apply Exists.intro; refine ⟨fun vs xq hd => ?_, ?_⟩; focus ((try simp [Oper.waitsOn, Region.binds, List.filter_cons, List.filter_nil, factAt, depsHold] at hd); simp only [putsFrom, Act.put, List.setIfInBounds_toArray, List.set_cons_succ, List.set_cons_zero]; go_simp; first | exact ⟨Below.refl _ _, rfl⟩ | exact rfl)
              refine growAll_exact ?_; apply Exists.intro; refine ⟨fun vs xq hd => ?_, ?_⟩; focus ((try simp [Oper.waitsOn, Region.binds, List.filter_cons, List.filter_nil, factAt, depsHold] at hd); simp only [putsFrom, Act.put, List.setIfInBounds_toArray, List.set_cons_succ, List.set_cons_zero]; go_simp; first | exact ⟨Below.refl _ _, rfl⟩ | exact rfl | (refine (name_built _ x).mono ?_; rintro e w' ⟨rfl, hb⟩; exact ⟨rfl, hb⟩))
              refine growAll_exact ?_; apply Exists.intro; refine ⟨fun vs xq hd => ?_, ?_⟩; focus ((try simp [Oper.waitsOn, Region.binds, List.filter_cons, List.filter_nil, factAt, depsHold] at hd); simp only [putsFrom, Act.put, List.setIfInBounds_toArray, List.set_cons_succ, List.set_cons_zero]; go_simp; first | exact ⟨Below.refl _ _, rfl⟩ | exact rfl | (refine (part_built _ _ b.ns.reg x.d x.l (HAR.out.ext (below_later wq xq)).notes.reg hz hkind).mono ?_; rintro e w' ⟨rfl, hb⟩; rw [hp]; exact ⟨rfl, hb⟩))
              refine growAll_exact ?_; apply Exists.intro; refine ⟨fun vs xq hd => ?_, ?_⟩; focus ((try simp [Oper.waitsOn, Region.binds, List.filter_cons, List.filter_nil, factAt, depsHold] at hd); simp only [putsFrom, Act.put, List.setIfInBounds_toArray, List.set_cons_succ, List.set_cons_zero]; go_simp; first | exact ⟨Below.refl _ _, rfl⟩ | exact rfl)
              refine growAll_exact ?_; apply Exists.intro; refine ⟨fun vs xq hd => ?_, ?_⟩; focus ((try simp [Oper.waitsOn, Region.binds, List.filter_cons, List.filter_nil, factAt, depsHold] at hd); simp only [putsFrom, Act.put, List.setIfInBounds_toArray, List.set_cons_succ, List.set_cons_zero]; go_simp; first | exact ⟨Below.refl _ _, rfl⟩ | exact rfl)
              refine growAll_exact ?_; apply Exists.intro; refine ⟨fun vs xq hd => ?_, ?_⟩; focus ((try simp [Oper.waitsOn, Region.binds, List.filter_cons, List.filter_nil, factAt, depsHold] at hd); simp only [putsFrom, Act.put, List.setIfInBounds_toArray, List.set_cons_succ, List.set_cons_zero]; go_simp; first | exact ⟨Below.refl _ _, rfl⟩ | exact rfl)
              refine growAll_exact ?_; apply Exists.intro; refine ⟨fun vs xq hd => ?_, ?_⟩; focus ((try simp [Oper.waitsOn, Region.binds, List.filter_cons, List.filter_nil, factAt, depsHold] at hd); simp only [putsFrom, Act.put, List.setIfInBounds_toArray, List.set_cons_succ, List.set_cons_zero]; go_simp; first | exact ⟨Below.refl _ _, rfl⟩ | exact rfl)
              refine growAll_exact ?_; apply Exists.intro; refine ⟨fun vs xq hd => ?_, ?_⟩; focus ((try simp [Oper.waitsOn, Region.binds, List.filter_cons, List.filter_nil, factAt, depsHold] at hd); simp only [putsFrom, Act.put, List.setIfInBounds_toArray, List.set_cons_succ, List.set_cons_zero]; go_simp; first | exact ⟨Below.refl _ _, rfl⟩ | exact rfl)
              refine growAll_exact ?_; apply Exists.intro; refine ⟨fun vs xq hd => ?_, ?_⟩; focus ((try simp [Oper.waitsOn, Region.binds, List.filter_cons, List.filter_nil, factAt, depsHold] at hd); simp only [putsFrom, Act.put, List.setIfInBounds_toArray, List.set_cons_succ, List.set_cons_zero]; go_simp; first | exact ⟨Below.refl _ _, rfl⟩ | exact rfl)
              refine growAll_exact ?_; apply Exists.intro; refine ⟨fun vs xq hd => ?_, ?_⟩; focus ((try simp [Oper.waitsOn, Region.binds, List.filter_cons, List.filter_nil, factAt, depsHold] at hd); simp only [putsFrom, Act.put, List.setIfInBounds_toArray, List.set_cons_succ, List.set_cons_zero]; go_simp; first | exact ⟨Below.refl _ _, rfl⟩ | exact rfl)
              refine growAll_exact ?_; apply Exists.intro; refine ⟨fun vs xq hd => ?_, ?_⟩; focus ((try simp [Oper.waitsOn, Region.binds, List.filter_cons, List.filter_nil, factAt, depsHold] at hd); simp only [putsFrom, Act.put, List.setIfInBounds_toArray, List.set_cons_succ, List.set_cons_zero]; go_simp; first | exact ⟨Below.refl _ _, rfl⟩ | exact rfl)
              refine growAll_exact ?_; apply Exists.intro; refine ⟨fun vs xq hd => ?_, ?_⟩; focus ((try simp [Oper.waitsOn, Region.binds, List.filter_cons, List.filter_nil, factAt, depsHold] at hd); simp only [putsFrom, Act.put, List.setIfInBounds_toArray, List.set_cons_succ, List.set_cons_zero]; go_simp; first | exact ⟨Below.refl _ _, rfl⟩ | exact rfl)
              refine growAll_exact ?_; apply Exists.intro; refine ⟨fun vs xq hd => ?_, ?_⟩; focus ((try simp [Oper.waitsOn, Region.binds, List.filter_cons, List.filter_nil, factAt, depsHold] at hd); simp only [putsFrom, Act.put, List.setIfInBounds_toArray, List.set_cons_succ, List.set_cons_zero]; go_simp; first | exact ⟨Below.refl _ _, rfl⟩ | exact rfl)
              refine growAll_exact ?_; apply Exists.intro; refine ⟨fun vs xq hd => ?_, ?_⟩; focus ((try simp [Oper.waitsOn, Region.binds, List.filter_cons, List.filter_nil, factAt, depsHold] at hd); simp only [putsFrom, Act.put, List.setIfInBounds_toArray, List.set_cons_succ, List.set_cons_zero]; go_simp; first | exact ⟨Below.refl _ _, rfl⟩ | exact rfl)
              refine growAll_exact ?_; apply Exists.intro; refine ⟨fun vs xq hd => ?_, ?_⟩; focus ((try simp [Oper.waitsOn, Region.binds, List.filter_cons, List.filter_nil, factAt, depsHold] at hd); simp only [putsFrom, Act.put, List.setIfInBounds_toArray, List.set_cons_succ, List.set_cons_zero]; go_simp; first | exact ⟨Below.refl _ _, rfl⟩ | exact rfl)
              refine growAll_exact ?_; apply Exists.intro; refine ⟨fun vs xq hd => ?_, ?_⟩; focus ((try simp [Oper.waitsOn, Region.binds, List.filter_cons, List.filter_nil, factAt, depsHold] at hd); simp only [putsFrom, Act.put, List.setIfInBounds_toArray, List.set_cons_succ, List.set_cons_zero]; go_simp; first | exact ⟨Below.refl _ _, rfl⟩ | exact rfl)
              refine growAll_exact ?_; apply Exists.intro; refine ⟨fun vs xq hd => ?_, ?_⟩; focus ((try simp [Oper.waitsOn, Region.binds, List.filter_cons, List.filter_nil, factAt, depsHold] at hd); simp only [putsFrom, Act.put, List.setIfInBounds_toArray, List.set_cons_succ, List.set_cons_zero]; go_simp; first | exact ⟨Below.refl _ _, rfl⟩ | exact rfl)
              refine growAll_exact ?_; apply Exists.intro; refine ⟨fun vs xq hd => ?_, ?_⟩; focus ((try simp [Oper.waitsOn, Region.binds, List.filter_cons, List.filter_nil, factAt, depsHold] at hd); simp only [putsFrom, Act.put, List.setIfInBounds_toArray, List.set_cons_succ, List.set_cons_zero]; go_simp; first | exact ⟨Below.refl _ _, rfl⟩ | exact rfl)
              refine growAll_exact ?_; apply Exists.intro; refine ⟨fun vs xq hd => ?_, ?_⟩; focus ((try simp [Oper.waitsOn, Region.binds, List.filter_cons, List.filter_nil, factAt, depsHold] at hd); simp only [putsFrom, Act.put, List.setIfInBounds_toArray, List.set_cons_succ, List.set_cons_zero]; go_simp; first | exact ⟨Below.refl _ _, rfl⟩ | exact rfl)
              refine growAll_exact ?_; apply Exists.intro; refine ⟨fun vs xq hd => ?_, ?_⟩; focus ((try simp [Oper.waitsOn, Region.binds, List.filter_cons, List.filter_nil, factAt, depsHold] at hd); simp only [putsFrom, Act.put, List.setIfInBounds_toArray, List.set_cons_succ, List.set_cons_zero]; go_simp; first | exact ⟨Below.refl _ _, rfl⟩ | exact rfl)
              refine growAll_exact ?_; apply Exists.intro; refine ⟨fun vs xq hd => ?_, ?_⟩; focus ((try simp [Oper.waitsOn, Region.binds, List.filter_cons, List.filter_nil, factAt, depsHold] at hd); simp only [putsFrom, Act.put, List.setIfInBounds_toArray, List.set_cons_succ, List.set_cons_zero]; go_simp; first | exact ⟨Below.refl _ _, rfl⟩ | exact rfl)
              refine growAll_exact ?_; apply Exists.intro; refine ⟨fun vs xq hd => ?_, ?_⟩; focus ((try simp [Oper.waitsOn, Region.binds, List.filter_cons, List.filter_nil, factAt, depsHold] at hd); simp only [putsFrom, Act.put, List.setIfInBounds_toArray, List.set_cons_succ, List.set_cons_zero]; go_simp; first | exact ⟨Below.refl _ _, rfl⟩ | exact rfl)
              refine growAll_exact ?_; apply Exists.intro; refine ⟨fun vs xq hd => ?_, ?_⟩; focus ((try simp [Oper.waitsOn, Region.binds, List.filter_cons, List.filter_nil, factAt, depsHold] at hd); simp only [putsFrom, Act.put, List.setIfInBounds_toArray, List.set_cons_succ, List.set_cons_zero]; go_simp; first | exact ⟨Below.refl _ _, rfl⟩ | exact rfl)
              refine growAll_exact ?_; apply Exists.intro; refine ⟨fun vs xq hd => ?_, ?_⟩; focus ((try simp [Oper.waitsOn, Region.binds, List.filter_cons, List.filter_nil, factAt, depsHold] at hd); simp only [putsFrom, Act.put, List.setIfInBounds_toArray, List.set_cons_succ, List.set_cons_zero]; go_simp; first | exact ⟨Below.refl _ _, rfl⟩ | exact rfl)
              refine growAll_exact ?_; apply Exists.intro; refine ⟨fun vs xq hd => ?_, ?_⟩; focus ((try simp [Oper.waitsOn, Region.binds, List.filter_cons, List.filter_nil, factAt, depsHold] at hd); simp only [putsFrom, Act.put, List.setIfInBounds_toArray, List.set_cons_succ, List.set_cons_zero]; go_simp; first | exact ⟨Below.refl _ _, rfl⟩ | exact rfl)
              refine growAll_exact ?_; apply Exists.intro; refine ⟨fun vs xq hd => ?_, ?_⟩; focus ((try simp [Oper.waitsOn, Region.binds, List.filter_cons, List.filter_nil, factAt, depsHold] at hd); simp only [putsFrom, Act.put, List.setIfInBounds_toArray, List.set_cons_succ, List.set_cons_zero]; go_simp; first | exact ⟨Below.refl _ _, rfl⟩ | exact rfl)
              refine growAll_exact ?_; apply Exists.intro; refine ⟨fun vs xq hd => ?_, ?_⟩; focus ((try simp [Oper.waitsOn, Region.binds, List.filter_cons, List.filter_nil, factAt, depsHold] at hd); simp only [putsFrom, Act.put, List.setIfInBounds_toArray, List.set_cons_succ, List.set_cons_zero]; go_simp; first | exact ⟨Below.refl _ _, rfl⟩ | exact rfl)
              refine growAll_exact ?_; apply Exists.intro; refine ⟨fun vs xq hd => ?_, ?_⟩; focus ((try simp [Oper.waitsOn, Region.binds, List.filter_cons, List.filter_nil, factAt, depsHold] at hd); simp only [putsFrom, Act.put, List.setIfInBounds_toArray, List.set_cons_succ, List.set_cons_zero]; go_simp; first | exact ⟨Below.refl _ _, rfl⟩ | exact rfl)
              refine growAll_exact ?_; apply Exists.intro; refine ⟨fun vs xq hd => ?_, ?_⟩; focus ((try simp [Oper.waitsOn, Region.binds, List.filter_cons, List.filter_nil, factAt, depsHold] at hd); simp only [putsFrom, Act.put, List.setIfInBounds_toArray, List.set_cons_succ, List.set_cons_zero]; go_simp; first | exact ⟨Below.refl _ _, rfl⟩ | exact rfl)
              refine growAll_exact ?_; apply Exists.intro; refine ⟨fun vs xq hd => ?_, ?_⟩; focus ((try simp [Oper.waitsOn, Region.binds, List.filter_cons, List.filter_nil, factAt, depsHold] at hd); simp only [putsFrom, Act.put, List.setIfInBounds_toArray, List.set_cons_succ, List.set_cons_zero]; go_simp; first | exact ⟨Below.refl _ _, rfl⟩ | exact rfl)
              refine growAll_exact ?_; apply Exists.intro; refine ⟨fun vs xq hd => ?_, ?_⟩; focus ((try simp [Oper.waitsOn, Region.binds, List.filter_cons, List.filter_nil, factAt, depsHold] at hd); simp only [putsFrom, Act.put, List.setIfInBounds_toArray, List.set_cons_succ, List.set_cons_zero]; go_simp; first | exact ⟨Below.refl _ _, rfl⟩ | exact rfl)
              refine growAll_done (by simp only [List.length_append, List.length_cons, List.length_nil]) (fun vs xq hd => ?_)
              simp [depsHold, factAt, List.range, List.range.loop] at hd
              simp only [putsFrom, Act.put, List.setIfInBounds_toArray, List.set_cons_succ, List.set_cons_zero, List.drop_succ_cons, List.drop_zero]
              obtain ⟨_, _, _, _, _, _, _, _, _, _, _, _, _, _, _, _, _, _, _, _, _, _, _, _, _, _, _, _, _, _, _, _, _, e33⟩ := hd
              simp only [Nat.zero_add, Nat.reduceAdd] at e33 ⊢
              have hbe := below_trans hbe (below_later wq xq)
              simp only [e33]
              clear x0 x1 x2 x3 r0
              go_wp2
              go_ret
              exact ⟨by first | (rw [e1]; rfl) | rfl, hbe⟩
            · have hle' : x.l < n := by omega
              by_cases hi2 : (inB x.lo 0 200 && inB x.hi 0 200) = true
              case neg =>
                have hi2' := hi2
                have hi2 : (inB x.lo 0 200 && inB x.hi 0 200) = false := by simpa using hi2
                have e1 := HBK.out (fun h => by
                  have h3 := (HIFF.out.1 h).2.2.1
                  have h4 := (HIFF.out.1 h).2.2.2.1
                  refine hi2' ?_
                  rw [inB_in h3, inB_in (show In x.hi 0 200 from ⟨by have := h3.1; have := h4.1; omega, h4.2⟩)]
                  rfl)
                clear hi2'
                go_wp2
                refine wp_region_grow_all 34 (by kernel_rfl) (by kernel_rfl) ?_
                simp only [List.take_succ_cons, List.take_zero]
                refine growAll_exact ?_; apply Exists.intro; refine ⟨fun vs xq hd => ?_, ?_⟩; focus ((try simp [Oper.waitsOn, Region.binds, List.filter_cons, List.filter_nil, factAt, depsHold] at hd); simp only [putsFrom, Act.put, List.setIfInBounds_toArray, List.set_cons_succ, List.set_cons_zero]; go_simp; first | exact ⟨Below.refl _ _, rfl⟩ | exact rfl)
                refine growAll_exact ?_; apply Exists.intro; refine ⟨fun vs xq hd => ?_, ?_⟩; focus ((try simp [Oper.waitsOn, Region.binds, List.filter_cons, List.filter_nil, factAt, depsHold] at hd); simp only [putsFrom, Act.put, List.setIfInBounds_toArray, List.set_cons_succ, List.set_cons_zero]; go_simp; first | exact ⟨Below.refl _ _, rfl⟩ | exact rfl)
                refine growAll_exact ?_; apply Exists.intro; refine ⟨fun vs xq hd => ?_, ?_⟩; focus ((try simp [Oper.waitsOn, Region.binds, List.filter_cons, List.filter_nil, factAt, depsHold] at hd); simp only [putsFrom, Act.put, List.setIfInBounds_toArray, List.set_cons_succ, List.set_cons_zero]; go_simp; first | exact ⟨Below.refl _ _, rfl⟩ | exact rfl)
                refine growAll_exact ?_; apply Exists.intro; refine ⟨fun vs xq hd => ?_, ?_⟩; focus ((try simp [Oper.waitsOn, Region.binds, List.filter_cons, List.filter_nil, factAt, depsHold] at hd); simp only [putsFrom, Act.put, List.setIfInBounds_toArray, List.set_cons_succ, List.set_cons_zero]; go_simp; first | exact ⟨Below.refl _ _, rfl⟩ | exact rfl)
                refine growAll_exact ?_; apply Exists.intro; refine ⟨fun vs xq hd => ?_, ?_⟩; focus ((try simp [Oper.waitsOn, Region.binds, List.filter_cons, List.filter_nil, factAt, depsHold] at hd); simp only [putsFrom, Act.put, List.setIfInBounds_toArray, List.set_cons_succ, List.set_cons_zero]; go_simp; first | exact ⟨Below.refl _ _, rfl⟩ | exact rfl | (refine (name_built _ x).mono ?_; rintro e w' ⟨rfl, hb⟩; exact ⟨rfl, hb⟩))
                refine growAll_exact ?_; apply Exists.intro; refine ⟨fun vs xq hd => ?_, ?_⟩; focus ((try simp [Oper.waitsOn, Region.binds, List.filter_cons, List.filter_nil, factAt, depsHold] at hd); simp only [putsFrom, Act.put, List.setIfInBounds_toArray, List.set_cons_succ, List.set_cons_zero]; go_simp; first | exact ⟨Below.refl _ _, rfl⟩ | exact rfl | (refine (part_built _ _ b.ns.reg x.d x.l (HAR.out.ext (below_later wq xq)).notes.reg hz hkind).mono ?_; rintro e w' ⟨rfl, hb⟩; rw [hp]; exact ⟨rfl, hb⟩))
                refine growAll_exact ?_; apply Exists.intro; refine ⟨fun vs xq hd => ?_, ?_⟩; focus ((try simp [Oper.waitsOn, Region.binds, List.filter_cons, List.filter_nil, factAt, depsHold] at hd); simp only [putsFrom, Act.put, List.setIfInBounds_toArray, List.set_cons_succ, List.set_cons_zero]; go_simp; first | exact ⟨Below.refl _ _, rfl⟩ | exact rfl)
                refine growAll_exact ?_; apply Exists.intro; refine ⟨fun vs xq hd => ?_, ?_⟩; focus ((try simp [Oper.waitsOn, Region.binds, List.filter_cons, List.filter_nil, factAt, depsHold] at hd); simp only [putsFrom, Act.put, List.setIfInBounds_toArray, List.set_cons_succ, List.set_cons_zero]; go_simp; first | exact ⟨Below.refl _ _, rfl⟩ | exact rfl)
                refine growAll_exact ?_; apply Exists.intro; refine ⟨fun vs xq hd => ?_, ?_⟩; focus ((try simp [Oper.waitsOn, Region.binds, List.filter_cons, List.filter_nil, factAt, depsHold] at hd); simp only [putsFrom, Act.put, List.setIfInBounds_toArray, List.set_cons_succ, List.set_cons_zero]; go_simp; first | exact ⟨Below.refl _ _, rfl⟩ | exact rfl)
                refine growAll_exact ?_; apply Exists.intro; refine ⟨fun vs xq hd => ?_, ?_⟩; focus ((try simp [Oper.waitsOn, Region.binds, List.filter_cons, List.filter_nil, factAt, depsHold] at hd); simp only [putsFrom, Act.put, List.setIfInBounds_toArray, List.set_cons_succ, List.set_cons_zero]; go_simp; first | exact ⟨Below.refl _ _, rfl⟩ | exact rfl)
                refine growAll_exact ?_; apply Exists.intro; refine ⟨fun vs xq hd => ?_, ?_⟩; focus ((try simp [Oper.waitsOn, Region.binds, List.filter_cons, List.filter_nil, factAt, depsHold] at hd); simp only [putsFrom, Act.put, List.setIfInBounds_toArray, List.set_cons_succ, List.set_cons_zero]; go_simp; first | exact ⟨Below.refl _ _, rfl⟩ | exact rfl)
                refine growAll_exact ?_; apply Exists.intro; refine ⟨fun vs xq hd => ?_, ?_⟩; focus ((try simp [Oper.waitsOn, Region.binds, List.filter_cons, List.filter_nil, factAt, depsHold] at hd); simp only [putsFrom, Act.put, List.setIfInBounds_toArray, List.set_cons_succ, List.set_cons_zero]; go_simp; first | exact ⟨Below.refl _ _, rfl⟩ | exact rfl)
                refine growAll_exact ?_; apply Exists.intro; refine ⟨fun vs xq hd => ?_, ?_⟩; focus ((try simp [Oper.waitsOn, Region.binds, List.filter_cons, List.filter_nil, factAt, depsHold] at hd); simp only [putsFrom, Act.put, List.setIfInBounds_toArray, List.set_cons_succ, List.set_cons_zero]; go_simp; first | exact ⟨Below.refl _ _, rfl⟩ | exact rfl)
                refine growAll_exact ?_; apply Exists.intro; refine ⟨fun vs xq hd => ?_, ?_⟩; focus ((try simp [Oper.waitsOn, Region.binds, List.filter_cons, List.filter_nil, factAt, depsHold] at hd); simp only [putsFrom, Act.put, List.setIfInBounds_toArray, List.set_cons_succ, List.set_cons_zero]; go_simp; first | exact ⟨Below.refl _ _, rfl⟩ | exact rfl)
                refine growAll_exact ?_; apply Exists.intro; refine ⟨fun vs xq hd => ?_, ?_⟩; focus ((try simp [Oper.waitsOn, Region.binds, List.filter_cons, List.filter_nil, factAt, depsHold] at hd); simp only [putsFrom, Act.put, List.setIfInBounds_toArray, List.set_cons_succ, List.set_cons_zero]; go_simp; first | exact ⟨Below.refl _ _, rfl⟩ | exact rfl)
                refine growAll_exact ?_; apply Exists.intro; refine ⟨fun vs xq hd => ?_, ?_⟩; focus ((try simp [Oper.waitsOn, Region.binds, List.filter_cons, List.filter_nil, factAt, depsHold] at hd); simp only [putsFrom, Act.put, List.setIfInBounds_toArray, List.set_cons_succ, List.set_cons_zero]; go_simp; first | exact ⟨Below.refl _ _, rfl⟩ | exact rfl)
                refine growAll_exact ?_; apply Exists.intro; refine ⟨fun vs xq hd => ?_, ?_⟩; focus ((try simp [Oper.waitsOn, Region.binds, List.filter_cons, List.filter_nil, factAt, depsHold] at hd); simp only [putsFrom, Act.put, List.setIfInBounds_toArray, List.set_cons_succ, List.set_cons_zero]; go_simp; first | exact ⟨Below.refl _ _, rfl⟩ | exact rfl)
                refine growAll_exact ?_; apply Exists.intro; refine ⟨fun vs xq hd => ?_, ?_⟩; focus ((try simp [Oper.waitsOn, Region.binds, List.filter_cons, List.filter_nil, factAt, depsHold] at hd); simp only [putsFrom, Act.put, List.setIfInBounds_toArray, List.set_cons_succ, List.set_cons_zero]; go_simp; first | exact ⟨Below.refl _ _, rfl⟩ | exact rfl)
                refine growAll_exact ?_; apply Exists.intro; refine ⟨fun vs xq hd => ?_, ?_⟩; focus ((try simp [Oper.waitsOn, Region.binds, List.filter_cons, List.filter_nil, factAt, depsHold] at hd); simp only [putsFrom, Act.put, List.setIfInBounds_toArray, List.set_cons_succ, List.set_cons_zero]; go_simp; first | exact ⟨Below.refl _ _, rfl⟩ | exact rfl)
                refine growAll_exact ?_; apply Exists.intro; refine ⟨fun vs xq hd => ?_, ?_⟩; focus ((try simp [Oper.waitsOn, Region.binds, List.filter_cons, List.filter_nil, factAt, depsHold] at hd); simp only [putsFrom, Act.put, List.setIfInBounds_toArray, List.set_cons_succ, List.set_cons_zero]; go_simp; first | exact ⟨Below.refl _ _, rfl⟩ | exact rfl)
                refine growAll_exact ?_; apply Exists.intro; refine ⟨fun vs xq hd => ?_, ?_⟩; focus ((try simp [Oper.waitsOn, Region.binds, List.filter_cons, List.filter_nil, factAt, depsHold] at hd); simp only [putsFrom, Act.put, List.setIfInBounds_toArray, List.set_cons_succ, List.set_cons_zero]; go_simp; first | exact ⟨Below.refl _ _, rfl⟩ | exact rfl)
                refine growAll_step (RowTwo x.lo x.hi) (rowTwo_stays _ _) ?_ ?_
                · intro vs xq hd
                  (try simp [Oper.waitsOn, Region.binds, List.filter_cons, List.filter_nil, factAt, depsHold] at hd)
                  simp only [putsFrom, Act.put, List.setIfInBounds_toArray, List.set_cons_succ, List.set_cons_zero]
                  go_simp
                  exact ⟨below_alloc _ _, _, rfl, new_cell _ _ _ 0 _ rfl, new_cell _ _ _ 1 _ rfl⟩
                refine growAll_step (fun v _ => v = .bool false) (fun _ _ _ _ h => h) ?_ ?_
                · intro vs xq hd
                  (try simp [Oper.waitsOn, Region.binds, List.filter_cons, List.filter_nil, factAt, depsHold] at hd)
                  simp only [putsFrom, Act.put, List.setIfInBounds_toArray, List.set_cons_succ, List.set_cons_zero]
                  have hr2 := hd.1
                  have eg := hd.2
                  simp only [eg]
                  go_simp
                  refine (in_built2 _ _ _ x.lo x.hi _ hr2 hnum.2.2.1 hnum.2.2.2).mono ?_
                  rintro e w' ⟨rfl, hb⟩
                  rw [hi2]
                  exact ⟨rfl, hb⟩
                refine growAll_exact ?_; apply Exists.intro; refine ⟨fun vs xq hd => ?_, ?_⟩; focus ((try simp [Oper.waitsOn, Region.binds, List.filter_cons, List.filter_nil, factAt, depsHold] at hd); simp only [putsFrom, Act.put, List.setIfInBounds_toArray, List.set_cons_succ, List.set_cons_zero]; go_simp; first | exact ⟨Below.refl _ _, rfl⟩ | exact rfl)
                refine growAll_exact ?_; apply Exists.intro; refine ⟨fun vs xq hd => ?_, ?_⟩; focus ((try simp [Oper.waitsOn, Region.binds, List.filter_cons, List.filter_nil, factAt, depsHold] at hd); simp only [putsFrom, Act.put, List.setIfInBounds_toArray, List.set_cons_succ, List.set_cons_zero]; go_simp; first | exact ⟨Below.refl _ _, rfl⟩ | exact rfl)
                refine growAll_exact ?_; apply Exists.intro; refine ⟨fun vs xq hd => ?_, ?_⟩; focus ((try simp [Oper.waitsOn, Region.binds, List.filter_cons, List.filter_nil, factAt, depsHold] at hd); simp only [putsFrom, Act.put, List.setIfInBounds_toArray, List.set_cons_succ, List.set_cons_zero]; go_simp; first | exact ⟨Below.refl _ _, rfl⟩ | exact rfl)
                refine growAll_exact ?_; apply Exists.intro; refine ⟨fun vs xq hd => ?_, ?_⟩; focus ((try simp [Oper.waitsOn, Region.binds, List.filter_cons, List.filter_nil, factAt, depsHold] at hd); simp only [putsFrom, Act.put, List.setIfInBounds_toArray, List.set_cons_succ, List.set_cons_zero]; go_simp; first | exact ⟨Below.refl _ _, rfl⟩ | exact rfl)
                refine growAll_exact ?_; apply Exists.intro; refine ⟨fun vs xq hd => ?_, ?_⟩; focus ((try simp [Oper.waitsOn, Region.binds, List.filter_cons, List.filter_nil, factAt, depsHold] at hd); simp only [putsFrom, Act.put, List.setIfInBounds_toArray, List.set_cons_succ, List.set_cons_zero]; go_simp; first | exact ⟨Below.refl _ _, rfl⟩ | exact rfl)
                refine growAll_exact ?_; apply Exists.intro; refine ⟨fun vs xq hd => ?_, ?_⟩; focus ((try simp [Oper.waitsOn, Region.binds, List.filter_cons, List.filter_nil, factAt, depsHold] at hd); simp only [putsFrom, Act.put, List.setIfInBounds_toArray, List.set_cons_succ, List.set_cons_zero]; go_simp; first | exact ⟨Below.refl _ _, rfl⟩ | exact rfl)
                refine growAll_exact ?_; apply Exists.intro; refine ⟨fun vs xq hd => ?_, ?_⟩; focus ((try simp [Oper.waitsOn, Region.binds, List.filter_cons, List.filter_nil, factAt, depsHold] at hd); simp only [putsFrom, Act.put, List.setIfInBounds_toArray, List.set_cons_succ, List.set_cons_zero]; go_simp; first | exact ⟨Below.refl _ _, rfl⟩ | exact rfl)
                refine growAll_exact ?_; apply Exists.intro; refine ⟨fun vs xq hd => ?_, ?_⟩; focus ((try simp [Oper.waitsOn, Region.binds, List.filter_cons, List.filter_nil, factAt, depsHold] at hd); simp only [putsFrom, Act.put, List.setIfInBounds_toArray, List.set_cons_succ, List.set_cons_zero]; go_simp; first | exact ⟨Below.refl _ _, rfl⟩ | exact rfl)
                refine growAll_exact ?_; apply Exists.intro; refine ⟨fun vs xq hd => ?_, ?_⟩; focus ((try simp [Oper.waitsOn, Region.binds, List.filter_cons, List.filter_nil, factAt, depsHold] at hd); simp only [putsFrom, Act.put, List.setIfInBounds_toArray, List.set_cons_succ, List.set_cons_zero]; go_simp; first | exact ⟨Below.refl _ _, rfl⟩ | exact rfl)
                refine growAll_exact ?_; apply Exists.intro; refine ⟨fun vs xq hd => ?_, ?_⟩; focus ((try simp [Oper.waitsOn, Region.binds, List.filter_cons, List.filter_nil, factAt, depsHold] at hd); simp only [putsFrom, Act.put, List.setIfInBounds_toArray, List.set_cons_succ, List.set_cons_zero]; go_simp; first | exact ⟨Below.refl _ _, rfl⟩ | exact rfl)
                refine growAll_exact ?_; apply Exists.intro; refine ⟨fun vs xq hd => ?_, ?_⟩; focus ((try simp [Oper.waitsOn, Region.binds, List.filter_cons, List.filter_nil, factAt, depsHold] at hd); simp only [putsFrom, Act.put, List.setIfInBounds_toArray, List.set_cons_succ, List.set_cons_zero]; go_simp; first | exact ⟨Below.refl _ _, rfl⟩ | exact rfl)
                refine growAll_done (by simp only [List.length_append, List.length_cons, List.length_nil]) (fun vs xq hd => ?_)
                simp [depsHold, factAt, List.range, List.range.loop] at hd
                simp only [putsFrom, Act.put, List.setIfInBounds_toArray, List.set_cons_succ, List.set_cons_zero, List.drop_succ_cons, List.drop_zero]
                obtain ⟨_, _, _, _, _, _, _, _, _, _, _, _, _, _, _, _, _, _, _, _, _, _, _, _, _, _, _, _, _, _, _, _, _, e33⟩ := hd
                simp only [Nat.zero_add, Nat.reduceAdd] at e33 ⊢
                have hbe := below_trans hbe (below_later wq xq)
                simp only [e33]
                clear x0 x1 x2 x3 r0
                go_wp2
                go_ret
                exact ⟨by first | (rw [e1]; rfl) | rfl, hbe⟩
              have h3 : In x.lo 0 200 ∧ In x.hi 0 200 := by rw [Bool.and_eq_true] at hi2; exact ⟨inB_t hi2.1, inB_t hi2.2⟩
              go_wp2
              refine wp_region_grow_all 34 (by kernel_rfl) (by kernel_rfl) ?_
              simp only [List.take_succ_cons, List.take_zero]
              refine growAll_exact ?_; apply Exists.intro; refine ⟨fun vs xq hd => ?_, ?_⟩; focus ((try simp [Oper.waitsOn, Region.binds, List.filter_cons, List.filter_nil, factAt, depsHold] at hd); simp only [putsFrom, Act.put, List.setIfInBounds_toArray, List.set_cons_succ, List.set_cons_zero]; go_simp; first | exact ⟨Below.refl _ _, rfl⟩ | exact rfl)
              refine growAll_exact ?_; apply Exists.intro; refine ⟨fun vs xq hd => ?_, ?_⟩; focus ((try simp [Oper.waitsOn, Region.binds, List.filter_cons, List.filter_nil, factAt, depsHold] at hd); simp only [putsFrom, Act.put, List.setIfInBounds_toArray, List.set_cons_succ, List.set_cons_zero]; go_simp; first | exact ⟨Below.refl _ _, rfl⟩ | exact rfl)
              refine growAll_exact ?_; apply Exists.intro; refine ⟨fun vs xq hd => ?_, ?_⟩; focus ((try simp [Oper.waitsOn, Region.binds, List.filter_cons, List.filter_nil, factAt, depsHold] at hd); simp only [putsFrom, Act.put, List.setIfInBounds_toArray, List.set_cons_succ, List.set_cons_zero]; go_simp; first | exact ⟨Below.refl _ _, rfl⟩ | exact rfl)
              refine growAll_exact ?_; apply Exists.intro; refine ⟨fun vs xq hd => ?_, ?_⟩; focus ((try simp [Oper.waitsOn, Region.binds, List.filter_cons, List.filter_nil, factAt, depsHold] at hd); simp only [putsFrom, Act.put, List.setIfInBounds_toArray, List.set_cons_succ, List.set_cons_zero]; go_simp; first | exact ⟨Below.refl _ _, rfl⟩ | exact rfl)
              refine growAll_exact ?_; apply Exists.intro; refine ⟨fun vs xq hd => ?_, ?_⟩; focus ((try simp [Oper.waitsOn, Region.binds, List.filter_cons, List.filter_nil, factAt, depsHold] at hd); simp only [putsFrom, Act.put, List.setIfInBounds_toArray, List.set_cons_succ, List.set_cons_zero]; go_simp; first | exact ⟨Below.refl _ _, rfl⟩ | exact rfl | (refine (name_built _ x).mono ?_; rintro e w' ⟨rfl, hb⟩; exact ⟨rfl, hb⟩))
              refine growAll_exact ?_; apply Exists.intro; refine ⟨fun vs xq hd => ?_, ?_⟩; focus ((try simp [Oper.waitsOn, Region.binds, List.filter_cons, List.filter_nil, factAt, depsHold] at hd); simp only [putsFrom, Act.put, List.setIfInBounds_toArray, List.set_cons_succ, List.set_cons_zero]; go_simp; first | exact ⟨Below.refl _ _, rfl⟩ | exact rfl | (refine (part_built _ _ b.ns.reg x.d x.l (HAR.out.ext (below_later wq xq)).notes.reg hz hkind).mono ?_; rintro e w' ⟨rfl, hb⟩; rw [hp]; exact ⟨rfl, hb⟩))
              refine growAll_exact ?_; apply Exists.intro; refine ⟨fun vs xq hd => ?_, ?_⟩; focus ((try simp [Oper.waitsOn, Region.binds, List.filter_cons, List.filter_nil, factAt, depsHold] at hd); simp only [putsFrom, Act.put, List.setIfInBounds_toArray, List.set_cons_succ, List.set_cons_zero]; go_simp; first | exact ⟨Below.refl _ _, rfl⟩ | exact rfl)
              refine growAll_exact ?_; apply Exists.intro; refine ⟨fun vs xq hd => ?_, ?_⟩; focus ((try simp [Oper.waitsOn, Region.binds, List.filter_cons, List.filter_nil, factAt, depsHold] at hd); simp only [putsFrom, Act.put, List.setIfInBounds_toArray, List.set_cons_succ, List.set_cons_zero]; go_simp; first | exact ⟨Below.refl _ _, rfl⟩ | exact rfl)
              refine growAll_exact ?_; apply Exists.intro; refine ⟨fun vs xq hd => ?_, ?_⟩; focus ((try simp [Oper.waitsOn, Region.binds, List.filter_cons, List.filter_nil, factAt, depsHold] at hd); simp only [putsFrom, Act.put, List.setIfInBounds_toArray, List.set_cons_succ, List.set_cons_zero]; go_simp; first | exact ⟨Below.refl _ _, rfl⟩ | exact rfl)
              refine growAll_exact ?_; apply Exists.intro; refine ⟨fun vs xq hd => ?_, ?_⟩; focus ((try simp [Oper.waitsOn, Region.binds, List.filter_cons, List.filter_nil, factAt, depsHold] at hd); simp only [putsFrom, Act.put, List.setIfInBounds_toArray, List.set_cons_succ, List.set_cons_zero]; go_simp; first | exact ⟨Below.refl _ _, rfl⟩ | exact rfl)
              refine growAll_exact ?_; apply Exists.intro; refine ⟨fun vs xq hd => ?_, ?_⟩; focus ((try simp [Oper.waitsOn, Region.binds, List.filter_cons, List.filter_nil, factAt, depsHold] at hd); simp only [putsFrom, Act.put, List.setIfInBounds_toArray, List.set_cons_succ, List.set_cons_zero]; go_simp; first | exact ⟨Below.refl _ _, rfl⟩ | exact rfl)
              refine growAll_exact ?_; apply Exists.intro; refine ⟨fun vs xq hd => ?_, ?_⟩; focus ((try simp [Oper.waitsOn, Region.binds, List.filter_cons, List.filter_nil, factAt, depsHold] at hd); simp only [putsFrom, Act.put, List.setIfInBounds_toArray, List.set_cons_succ, List.set_cons_zero]; go_simp; first | exact ⟨Below.refl _ _, rfl⟩ | exact rfl)
              refine growAll_exact ?_; apply Exists.intro; refine ⟨fun vs xq hd => ?_, ?_⟩; focus ((try simp [Oper.waitsOn, Region.binds, List.filter_cons, List.filter_nil, factAt, depsHold] at hd); simp only [putsFrom, Act.put, List.setIfInBounds_toArray, List.set_cons_succ, List.set_cons_zero]; go_simp; first | exact ⟨Below.refl _ _, rfl⟩ | exact rfl)
              refine growAll_exact ?_; apply Exists.intro; refine ⟨fun vs xq hd => ?_, ?_⟩; focus ((try simp [Oper.waitsOn, Region.binds, List.filter_cons, List.filter_nil, factAt, depsHold] at hd); simp only [putsFrom, Act.put, List.setIfInBounds_toArray, List.set_cons_succ, List.set_cons_zero]; go_simp; first | exact ⟨Below.refl _ _, rfl⟩ | exact rfl)
              refine growAll_exact ?_; apply Exists.intro; refine ⟨fun vs xq hd => ?_, ?_⟩; focus ((try simp [Oper.waitsOn, Region.binds, List.filter_cons, List.filter_nil, factAt, depsHold] at hd); simp only [putsFrom, Act.put, List.setIfInBounds_toArray, List.set_cons_succ, List.set_cons_zero]; go_simp; first | exact ⟨Below.refl _ _, rfl⟩ | exact rfl)
              refine growAll_exact ?_; apply Exists.intro; refine ⟨fun vs xq hd => ?_, ?_⟩; focus ((try simp [Oper.waitsOn, Region.binds, List.filter_cons, List.filter_nil, factAt, depsHold] at hd); simp only [putsFrom, Act.put, List.setIfInBounds_toArray, List.set_cons_succ, List.set_cons_zero]; go_simp; first | exact ⟨Below.refl _ _, rfl⟩ | exact rfl)
              refine growAll_exact ?_; apply Exists.intro; refine ⟨fun vs xq hd => ?_, ?_⟩; focus ((try simp [Oper.waitsOn, Region.binds, List.filter_cons, List.filter_nil, factAt, depsHold] at hd); simp only [putsFrom, Act.put, List.setIfInBounds_toArray, List.set_cons_succ, List.set_cons_zero]; go_simp; first | exact ⟨Below.refl _ _, rfl⟩ | exact rfl)
              refine growAll_exact ?_; apply Exists.intro; refine ⟨fun vs xq hd => ?_, ?_⟩; focus ((try simp [Oper.waitsOn, Region.binds, List.filter_cons, List.filter_nil, factAt, depsHold] at hd); simp only [putsFrom, Act.put, List.setIfInBounds_toArray, List.set_cons_succ, List.set_cons_zero]; go_simp; first | exact ⟨Below.refl _ _, rfl⟩ | exact rfl)
              refine growAll_exact ?_; apply Exists.intro; refine ⟨fun vs xq hd => ?_, ?_⟩; focus ((try simp [Oper.waitsOn, Region.binds, List.filter_cons, List.filter_nil, factAt, depsHold] at hd); simp only [putsFrom, Act.put, List.setIfInBounds_toArray, List.set_cons_succ, List.set_cons_zero]; go_simp; first | exact ⟨Below.refl _ _, rfl⟩ | exact rfl)
              refine growAll_exact ?_; apply Exists.intro; refine ⟨fun vs xq hd => ?_, ?_⟩; focus ((try simp [Oper.waitsOn, Region.binds, List.filter_cons, List.filter_nil, factAt, depsHold] at hd); simp only [putsFrom, Act.put, List.setIfInBounds_toArray, List.set_cons_succ, List.set_cons_zero]; go_simp; first | exact ⟨Below.refl _ _, rfl⟩ | exact rfl)
              refine growAll_exact ?_; apply Exists.intro; refine ⟨fun vs xq hd => ?_, ?_⟩; focus ((try simp [Oper.waitsOn, Region.binds, List.filter_cons, List.filter_nil, factAt, depsHold] at hd); simp only [putsFrom, Act.put, List.setIfInBounds_toArray, List.set_cons_succ, List.set_cons_zero]; go_simp; first | exact ⟨Below.refl _ _, rfl⟩ | exact rfl)
              refine growAll_step (RowTwo x.lo x.hi) (rowTwo_stays _ _) ?_ ?_
              · intro vs xq hd
                (try simp [Oper.waitsOn, Region.binds, List.filter_cons, List.filter_nil, factAt, depsHold] at hd)
                simp only [putsFrom, Act.put, List.setIfInBounds_toArray, List.set_cons_succ, List.set_cons_zero]
                go_simp
                exact ⟨below_alloc _ _, _, rfl, new_cell _ _ _ 0 _ rfl, new_cell _ _ _ 1 _ rfl⟩
              refine growAll_step (fun v _ => v = .bool true) (fun _ _ _ _ h => h) ?_ ?_
              · intro vs xq hd
                (try simp [Oper.waitsOn, Region.binds, List.filter_cons, List.filter_nil, factAt, depsHold] at hd)
                simp only [putsFrom, Act.put, List.setIfInBounds_toArray, List.set_cons_succ, List.set_cons_zero]
                have hr2 := hd.1
                have eg := hd.2
                simp only [eg]
                go_simp
                refine (in_built2 _ _ _ x.lo x.hi _ hr2 hnum.2.2.1 hnum.2.2.2).mono ?_
                rintro e w' ⟨rfl, hb⟩
                rw [hi2]
                exact ⟨rfl, hb⟩
              refine growAll_exact ?_; apply Exists.intro; refine ⟨fun vs xq hd => ?_, ?_⟩; focus ((try simp [Oper.waitsOn, Region.binds, List.filter_cons, List.filter_nil, factAt, depsHold] at hd); simp only [putsFrom, Act.put, List.setIfInBounds_toArray, List.set_cons_succ, List.set_cons_zero]; go_simp; first | exact ⟨Below.refl _ _, rfl⟩ | exact rfl)
              refine growAll_exact ?_; apply Exists.intro; refine ⟨fun vs xq hd => ?_, ?_⟩; focus ((try simp [Oper.waitsOn, Region.binds, List.filter_cons, List.filter_nil, factAt, depsHold] at hd); simp only [putsFrom, Act.put, List.setIfInBounds_toArray, List.set_cons_succ, List.set_cons_zero]; go_simp; first | exact ⟨Below.refl _ _, rfl⟩ | exact rfl)
              refine growAll_exact ?_; apply Exists.intro; refine ⟨fun vs xq hd => ?_, ?_⟩; focus ((try simp [Oper.waitsOn, Region.binds, List.filter_cons, List.filter_nil, factAt, depsHold] at hd); simp only [putsFrom, Act.put, List.setIfInBounds_toArray, List.set_cons_succ, List.set_cons_zero]; go_simp; first | exact ⟨Below.refl _ _, rfl⟩ | exact rfl)
              refine growAll_exact ?_; apply Exists.intro; refine ⟨fun vs xq hd => ?_, ?_⟩; focus ((try simp [Oper.waitsOn, Region.binds, List.filter_cons, List.filter_nil, factAt, depsHold] at hd); simp only [putsFrom, Act.put, List.setIfInBounds_toArray, List.set_cons_succ, List.set_cons_zero]; go_simp; first | exact ⟨Below.refl _ _, rfl⟩ | exact rfl)
              refine growAll_exact ?_; apply Exists.intro; refine ⟨fun vs xq hd => ?_, ?_⟩; focus ((try simp [Oper.waitsOn, Region.binds, List.filter_cons, List.filter_nil, factAt, depsHold] at hd); simp only [putsFrom, Act.put, List.setIfInBounds_toArray, List.set_cons_succ, List.set_cons_zero]; go_simp; first | exact ⟨Below.refl _ _, rfl⟩ | exact rfl)
              refine growAll_exact ?_; apply Exists.intro; refine ⟨fun vs xq hd => ?_, ?_⟩; focus ((try simp [Oper.waitsOn, Region.binds, List.filter_cons, List.filter_nil, factAt, depsHold] at hd); simp only [putsFrom, Act.put, List.setIfInBounds_toArray, List.set_cons_succ, List.set_cons_zero]; go_simp; first | exact ⟨Below.refl _ _, rfl⟩ | exact rfl)
              refine growAll_exact ?_; apply Exists.intro; refine ⟨fun vs xq hd => ?_, ?_⟩; focus ((try simp [Oper.waitsOn, Region.binds, List.filter_cons, List.filter_nil, factAt, depsHold] at hd); simp only [putsFrom, Act.put, List.setIfInBounds_toArray, List.set_cons_succ, List.set_cons_zero]; go_simp; first | exact ⟨Below.refl _ _, rfl⟩ | exact rfl)
              refine growAll_exact ?_; apply Exists.intro; refine ⟨fun vs xq hd => ?_, ?_⟩; focus ((try simp [Oper.waitsOn, Region.binds, List.filter_cons, List.filter_nil, factAt, depsHold] at hd); simp only [putsFrom, Act.put, List.setIfInBounds_toArray, List.set_cons_succ, List.set_cons_zero]; go_simp; first | exact ⟨Below.refl _ _, rfl⟩ | exact rfl)
              refine growAll_exact ?_; apply Exists.intro; refine ⟨fun vs xq hd => ?_, ?_⟩; focus ((try simp [Oper.waitsOn, Region.binds, List.filter_cons, List.filter_nil, factAt, depsHold] at hd); simp only [putsFrom, Act.put, List.setIfInBounds_toArray, List.set_cons_succ, List.set_cons_zero]; go_simp; first | exact ⟨Below.refl _ _, rfl⟩ | exact rfl)
              refine growAll_exact ?_; apply Exists.intro; refine ⟨fun vs xq hd => ?_, ?_⟩; focus ((try simp [Oper.waitsOn, Region.binds, List.filter_cons, List.filter_nil, factAt, depsHold] at hd); simp only [putsFrom, Act.put, List.setIfInBounds_toArray, List.set_cons_succ, List.set_cons_zero]; go_simp; first | exact ⟨Below.refl _ _, rfl⟩ | exact rfl)
              refine growAll_exact ?_; apply Exists.intro; refine ⟨fun vs xq hd => ?_, ?_⟩; focus ((try simp [Oper.waitsOn, Region.binds, List.filter_cons, List.filter_nil, factAt, depsHold] at hd); simp only [putsFrom, Act.put, List.setIfInBounds_toArray, List.set_cons_succ, List.set_cons_zero]; go_simp; first | exact ⟨Below.refl _ _, rfl⟩ | exact rfl)
              refine growAll_done (by simp only [List.length_append, List.length_cons, List.length_nil]) (fun vs xq hd => ?_)
              simp [depsHold, factAt, List.range, List.range.loop] at hd
              simp only [putsFrom, Act.put, List.setIfInBounds_toArray, List.set_cons_succ, List.set_cons_zero, List.drop_succ_cons, List.drop_zero]
              obtain ⟨_, _, _, _, _, _, _, _, _, _, _, _, _, _, _, _, _, _, _, _, _, _, _, _, _, _, _, _, _, _, _, _, _, e33⟩ := hd
              simp only [Nat.zero_add, Nat.reduceAdd] at e33 ⊢
              have hbe := below_trans hbe (below_later wq xq)
              have hlx : decide (n ≤ x.l) = false := by simpa using hle'
              by_cases hgt : x.hi < x.lo
              · have e1 := HBK.out (fun h => by have := (HIFF.out.1 h).2.2.2.1.1; omega)
                have hgt' : decide (x.hi < x.lo) = true := by simpa using hgt
                rw [hlx, hgt', Bool.false_or] at e33
                simp only [e33]
                clear x0 x1 x2 x3 r0
                go_wp2
                go_ret
                exact ⟨by first | (rw [e1]; rfl) | rfl, hbe⟩
              · have hok := HIFF.out.2 ⟨HP.out, by rw [← HN.out]; omega, h3.1, ⟨by omega, h3.2.2⟩, HNT.out⟩
                have hgt' : decide (x.hi < x.lo) = false := by simpa using hgt
                rw [hlx, hgt', Bool.false_or] at e33
                simp only [e33]
                have hb7 := Lib.hid (below_trans hbw.out (below_trans hwq (below_later wq xq)))
                clear x0 x1 x2 x3 r0
                go_wp2
                go_roundw
                case rel => exact ⟨k + 1, by go_num, by omega, hb7, Lib.hid (all_step _ k hall.out hok)⟩
                case measure => simp [intOf]; omega
        · have hhsok := Lib.hid (fun j (hj : j < b.hs.length) => hall.out j (by omega))
          have c5 := L7.out.cell 5 _ rfl
          clear L6 LR6 LR7 hall hbw
          go_wp2
          clear c5
          go_loopw [129] (fun i wh => ∃ k : Nat, i = .int .i64 k ∧ k ≤ b.rs.length ∧ Hid (Below wr.heap.size wr wh) ∧ Hid (∀ j, j < k → RepOk b.ns.reg b.ms b.rs j)) (fun i _ => b.rs.length - (intOf i).toNat)
          case atStart => exact ⟨0, rfl, Nat.zero_le _, Lib.hid (Below.refl _ _), Lib.hid fun j hj => absurd hj (Nat.not_lt_zero _)⟩
          case round =>
            obtain ⟨k, rfl, hk, hbw, hall⟩ := hrel
            have L8 := Lib.hid (L7.out.ext hbw.out)
            have hbe := below_trans hbe hbw.out
            by_cases hlt : k < b.rs.length
            · have HAw := Lib.hid (H0.out.ext hbe)
              obtain ⟨bq, oq, rfl, ⟨q0, q1, q2, q3, q4⟩, hrn⟩ := (sl_at HAw.out.at_.rs).2 k hlt
              have hlq := cell_lt q0
              have hbk : ¬ RepOk b.ns.reg b.ms b.rs k → builtCode b = 80 := fun h => hbad (fun h2 => h (h2.2.2.2.2.2.2 k hlt))
              have hiff : RepOk b.ns.reg b.ms b.rs k ↔ ReportOk b.ns.reg b.ms b.rs[k] ∧ (∀ h0 : 0 < k, b.rs[k - 1].num < b.rs[k].num) := ⟨fun h => h hlt, fun h _ => h⟩
              have hprev := fun h0 : 0 < k => (sl_at HAw.out.at_.rs).2 (k - 1) (by omega)
              have HIFF := Lib.hid hiff
              have HPREV := Lib.hid hprev
              have HBK := Lib.hid hbk
              clear hiff hprev hbk
              have hxx : ∃ x, x = b.rs[k] := ⟨_, rfl⟩
              obtain ⟨x, hxx⟩ := hxx
              rw [← hxx] at q0 q1 q2 q3 q4 hrn HIFF
              have HXX := Lib.hid hxx
              clear hxx
              have hba := below_alloc wr (.cells #[.int .i64 x.num, .int .i64 x.m, .int .i64 x.d, .int .i64 x.l, .int .u8 x.k] 34)
              have LX := Lay.new wr 34 #[.int .i64 x.num, .int .i64 x.m, .int .i64 x.d, .int .i64 x.l, .int .u8 x.k]
              unfold Cell at q0 q1 q2 q3 q4
              have hrn : RNum x := hrn
              go_wp2
              have L9 := L8.out.ext hba
              have hbe := below_trans hbe hba
              have HBA := Lib.hid hba
              clear q0 q1 q2 q3 q4 hlq
              obtain ⟨gx, hgx⟩ : ∃ gx, gx = wr.heap.size := ⟨_, rfl⟩
              rw [← hgx] at LX ⊢
              obtain ⟨wq, hwq⟩ : ∃ wq, wq = wr.alloc (.cells #[.int .i64 x.num, .int .i64 x.m, .int .i64 x.d, .int .i64 x.l, .int .u8 x.k] 34) := ⟨_, rfl⟩
              rw [← hwq] at LX L9 hbe hba ⊢
              clear hgx hwq HBA
              have k0 := cell_later (show Cell wq w.heap.size 0 _ from L9.cell 0 _ rfl)
              have k1 := cell_later (show Cell wq w.heap.size 1 _ from L9.cell 1 _ rfl)
              have k2 := cell_later (show Cell wq w.heap.size 2 _ from L9.cell 2 _ rfl)
              have k3 := cell_later (show Cell wq w.heap.size 3 _ from L9.cell 3 _ rfl)
              have k4 := cell_later (show Cell wq w.heap.size 4 _ from L9.cell 4 _ rfl)
              have k5 := cell_later (show Cell wq w.heap.size 5 _ from L9.cell 5 _ rfl)
              have x0 := cell_later (show Cell wq gx 0 _ from LX.cell 0 _ rfl)
              have x1 := cell_later (show Cell wq gx 1 _ from LX.cell 1 _ rfl)
              have x2 := cell_later (show Cell wq gx 2 _ from LX.cell 2 _ rfl)
              have x3 := cell_later (show Cell wq gx 3 _ from LX.cell 3 _ rfl)
              have x4 := cell_later (show Cell wq gx 4 _ from LX.cell 4 _ rfl)
              by_cases hro : ReportOk b.ns.reg b.ms x
              case neg =>
                have e1 := HBK.out (fun h => hro (HIFF.out.1 h).1)
                refine wp_region_grow_all 20 (by kernel_rfl) (by kernel_rfl) ?_
                simp only [List.take_succ_cons, List.take_zero]
                refine growAll_exact ?_; apply Exists.intro; refine ⟨fun vs xq hd => ?_, ?_⟩; focus ((try simp [Oper.waitsOn, Region.binds, List.filter_cons, List.filter_nil, factAt, depsHold] at hd); simp only [putsFrom, Act.put, List.setIfInBounds_toArray, List.set_cons_succ, List.set_cons_zero]; go_simp; first | exact ⟨Below.refl _ _, rfl⟩ | exact rfl)
                refine growAll_exact ?_; apply Exists.intro; refine ⟨fun vs xq hd => ?_, ?_⟩; focus ((try simp [Oper.waitsOn, Region.binds, List.filter_cons, List.filter_nil, factAt, depsHold] at hd); simp only [putsFrom, Act.put, List.setIfInBounds_toArray, List.set_cons_succ, List.set_cons_zero]; go_simp; first | exact ⟨Below.refl _ _, rfl⟩ | exact rfl)
                refine growAll_exact ?_; apply Exists.intro; refine ⟨fun vs xq hd => ?_, ?_⟩; focus ((try simp [Oper.waitsOn, Region.binds, List.filter_cons, List.filter_nil, factAt, depsHold] at hd); simp only [putsFrom, Act.put, List.setIfInBounds_toArray, List.set_cons_succ, List.set_cons_zero]; go_simp; first | exact ⟨Below.refl _ _, rfl⟩ | exact rfl | (refine (right_built _ _ _ _ _ _ b x (H0.out.ext (below_trans hbe (below_later wq xq))) hrn hz hkind).mono ?_; intro e w' hr; obtain ⟨bb, rfl, hbb, hb⟩ := hr; obtain rfl : bb = false := (by cases bb with | false => rfl | true => exact absurd (hbb.1 rfl) hro); exact ⟨rfl, hb⟩))
                refine growAll_exact ?_; apply Exists.intro; refine ⟨fun vs xq hd => ?_, ?_⟩; focus ((try simp [Oper.waitsOn, Region.binds, List.filter_cons, List.filter_nil, factAt, depsHold] at hd); simp only [putsFrom, Act.put, List.setIfInBounds_toArray, List.set_cons_succ, List.set_cons_zero]; go_simp; first | exact ⟨Below.refl _ _, rfl⟩ | exact rfl)
                refine growAll_exact ?_; apply Exists.intro; refine ⟨fun vs xq hd => ?_, ?_⟩; focus ((try simp [Oper.waitsOn, Region.binds, List.filter_cons, List.filter_nil, factAt, depsHold] at hd); simp only [putsFrom, Act.put, List.setIfInBounds_toArray, List.set_cons_succ, List.set_cons_zero]; go_simp; first | exact ⟨Below.refl _ _, rfl⟩ | exact rfl)
                refine growAll_exact ?_; apply Exists.intro; refine ⟨fun vs xq hd => ?_, ?_⟩; focus ((try simp [Oper.waitsOn, Region.binds, List.filter_cons, List.filter_nil, factAt, depsHold] at hd); simp only [putsFrom, Act.put, List.setIfInBounds_toArray, List.set_cons_succ, List.set_cons_zero]; go_simp; first | exact ⟨Below.refl _ _, rfl⟩ | exact rfl)
                refine growAll_exact ?_; apply Exists.intro; refine ⟨fun vs xq hd => ?_, ?_⟩; focus ((try simp [Oper.waitsOn, Region.binds, List.filter_cons, List.filter_nil, factAt, depsHold] at hd); simp only [putsFrom, Act.put, List.setIfInBounds_toArray, List.set_cons_succ, List.set_cons_zero]; go_simp; first | exact ⟨Below.refl _ _, rfl⟩ | exact rfl)
                refine growAll_exact ?_; apply Exists.intro; refine ⟨fun vs xq hd => ?_, ?_⟩; focus ((try simp [Oper.waitsOn, Region.binds, List.filter_cons, List.filter_nil, factAt, depsHold] at hd); simp only [putsFrom, Act.put, List.setIfInBounds_toArray, List.set_cons_succ, List.set_cons_zero]; go_simp; first | exact ⟨Below.refl _ _, rfl⟩ | exact rfl)
                refine growAll_exact ?_; apply Exists.intro; refine ⟨fun vs xq hd => ?_, ?_⟩; focus ((try simp [Oper.waitsOn, Region.binds, List.filter_cons, List.filter_nil, factAt, depsHold] at hd); simp only [putsFrom, Act.put, List.setIfInBounds_toArray, List.set_cons_succ, List.set_cons_zero]; go_simp; first | exact ⟨Below.refl _ _, rfl⟩ | exact rfl)
                refine growAll_exact ?_; apply Exists.intro; refine ⟨fun vs xq hd => ?_, ?_⟩; focus ((try simp [Oper.waitsOn, Region.binds, List.filter_cons, List.filter_nil, factAt, depsHold] at hd); simp only [putsFrom, Act.put, List.setIfInBounds_toArray, List.set_cons_succ, List.set_cons_zero]; go_simp; first | exact ⟨Below.refl _ _, rfl⟩ | exact rfl)
                refine growAll_exact ?_; apply Exists.intro; refine ⟨fun vs xq hd => ?_, ?_⟩; focus ((try simp [Oper.waitsOn, Region.binds, List.filter_cons, List.filter_nil, factAt, depsHold] at hd); simp only [putsFrom, Act.put, List.setIfInBounds_toArray, List.set_cons_succ, List.set_cons_zero]; go_simp; first | exact ⟨Below.refl _ _, rfl⟩ | exact rfl)
                refine growAll_exact ?_; apply Exists.intro; refine ⟨fun vs xq hd => ?_, ?_⟩; focus ((try simp [Oper.waitsOn, Region.binds, List.filter_cons, List.filter_nil, factAt, depsHold] at hd); simp only [putsFrom, Act.put, List.setIfInBounds_toArray, List.set_cons_succ, List.set_cons_zero]; go_simp; first | exact ⟨Below.refl _ _, rfl⟩ | exact rfl)
                refine growAll_exact ?_; apply Exists.intro; refine ⟨fun vs xq hd => ?_, ?_⟩; focus ((try simp [Oper.waitsOn, Region.binds, List.filter_cons, List.filter_nil, factAt, depsHold] at hd); simp only [putsFrom, Act.put, List.setIfInBounds_toArray, List.set_cons_succ, List.set_cons_zero]; go_simp; first | exact ⟨Below.refl _ _, rfl⟩ | exact rfl)
                refine growAll_exact ?_; apply Exists.intro; refine ⟨fun vs xq hd => ?_, ?_⟩; focus ((try simp [Oper.waitsOn, Region.binds, List.filter_cons, List.filter_nil, factAt, depsHold] at hd); simp only [putsFrom, Act.put, List.setIfInBounds_toArray, List.set_cons_succ, List.set_cons_zero]; go_simp; first | exact ⟨Below.refl _ _, rfl⟩ | exact rfl)
                refine growAll_exact ?_; apply Exists.intro; refine ⟨fun vs xq hd => ?_, ?_⟩; focus ((try simp [Oper.waitsOn, Region.binds, List.filter_cons, List.filter_nil, factAt, depsHold] at hd); simp only [putsFrom, Act.put, List.setIfInBounds_toArray, List.set_cons_succ, List.set_cons_zero]; go_simp; first | exact ⟨Below.refl _ _, rfl⟩ | exact rfl)
                refine growAll_exact ?_; apply Exists.intro; refine ⟨fun vs xq hd => ?_, ?_⟩; focus ((try simp [Oper.waitsOn, Region.binds, List.filter_cons, List.filter_nil, factAt, depsHold] at hd); simp only [putsFrom, Act.put, List.setIfInBounds_toArray, List.set_cons_succ, List.set_cons_zero]; go_simp; first | exact ⟨Below.refl _ _, rfl⟩ | exact rfl)
                refine growAll_exact ?_; apply Exists.intro; refine ⟨fun vs xq hd => ?_, ?_⟩; focus ((try simp [Oper.waitsOn, Region.binds, List.filter_cons, List.filter_nil, factAt, depsHold] at hd); simp only [putsFrom, Act.put, List.setIfInBounds_toArray, List.set_cons_succ, List.set_cons_zero]; go_simp; first | exact ⟨Below.refl _ _, rfl⟩ | exact rfl)
                refine growAll_exact ?_; apply Exists.intro; refine ⟨fun vs xq hd => ?_, ?_⟩; focus ((try simp [Oper.waitsOn, Region.binds, List.filter_cons, List.filter_nil, factAt, depsHold] at hd); simp only [putsFrom, Act.put, List.setIfInBounds_toArray, List.set_cons_succ, List.set_cons_zero]; go_simp; first | exact ⟨Below.refl _ _, rfl⟩ | exact rfl)
                refine growAll_exact ?_; apply Exists.intro; refine ⟨fun vs xq hd => ?_, ?_⟩; focus ((try simp [Oper.waitsOn, Region.binds, List.filter_cons, List.filter_nil, factAt, depsHold] at hd); simp only [putsFrom, Act.put, List.setIfInBounds_toArray, List.set_cons_succ, List.set_cons_zero]; go_simp; first | exact ⟨Below.refl _ _, rfl⟩ | exact rfl)
                refine growAll_exact ?_; apply Exists.intro; refine ⟨fun vs xq hd => ?_, ?_⟩; focus ((try simp [Oper.waitsOn, Region.binds, List.filter_cons, List.filter_nil, factAt, depsHold] at hd); simp only [putsFrom, Act.put, List.setIfInBounds_toArray, List.set_cons_succ, List.set_cons_zero]; go_simp; first | exact ⟨Below.refl _ _, rfl⟩ | exact rfl)
                refine growAll_done (by simp only [List.length_append, List.length_cons, List.length_nil]) (fun vs xq hd => ?_)
                simp [depsHold, factAt, List.range, List.range.loop] at hd
                simp only [putsFrom, Act.put, List.setIfInBounds_toArray, List.set_cons_succ, List.set_cons_zero, List.drop_succ_cons, List.drop_zero]
                obtain ⟨_, _, _, _, _, _, _, _, _, _, _, _, _, _, _, _, _, _, _, e19⟩ := hd
                simp only [Nat.zero_add, Nat.reduceAdd] at e19 ⊢
                simp only [e19]
                have hbe := below_trans hbe (below_later wq xq)
                clear k0 k1 k2 k3 k4 k5 x0 x1 x2 x3 x4
                go_wp2
                go_ret
                exact ⟨by first | (rw [e1]; rfl) | rfl, hbe⟩
              by_cases hk0 : 0 < k
              · obtain ⟨b', o', hh, ⟨y0, _⟩, _⟩ := HPREV.out hk0
                cases hh
                have HI2 : Hid (RepOk b.ns.reg b.ms b.rs k ↔ b.rs[k - 1].num < x.num) := ⟨fun h => (HIFF.out.1 h).2 hk0, fun h => HIFF.out.2 ⟨hro, fun _ => h⟩⟩
                have hz1 : IntKind.i64.wrap ((k : Int) - 1) = ((k - 1 : Nat) : Int) := by rw [IntWalk.i64_in _ (by omega)]; omega
                have hz2 : ((k - 1 : Nat) : Int) < b.rs.length := by omega
                have hki : (0 : Int) < (k : Int) := by omega
                have ky := cell_later (cell_ext hba y0)
                clear HPREV y0
                generalize b.rs[k - 1] = y at *
                refine wp_region_grow_all 20 (by kernel_rfl) (by kernel_rfl) ?_
                simp only [List.take_succ_cons, List.take_zero]
                refine growAll_exact ?_; apply Exists.intro; refine ⟨fun vs xq hd => ?_, ?_⟩; focus ((try simp [Oper.waitsOn, Region.binds, List.filter_cons, List.filter_nil, factAt, depsHold] at hd); simp only [putsFrom, Act.put, List.setIfInBounds_toArray, List.set_cons_succ, List.set_cons_zero]; go_simp; first | exact ⟨Below.refl _ _, rfl⟩ | exact rfl)
                refine growAll_exact ?_; apply Exists.intro; refine ⟨fun vs xq hd => ?_, ?_⟩; focus ((try simp [Oper.waitsOn, Region.binds, List.filter_cons, List.filter_nil, factAt, depsHold] at hd); simp only [putsFrom, Act.put, List.setIfInBounds_toArray, List.set_cons_succ, List.set_cons_zero]; go_simp; first | exact ⟨Below.refl _ _, rfl⟩ | exact rfl)
                refine growAll_exact ?_; apply Exists.intro; refine ⟨fun vs xq hd => ?_, ?_⟩; focus ((try simp [Oper.waitsOn, Region.binds, List.filter_cons, List.filter_nil, factAt, depsHold] at hd); simp only [putsFrom, Act.put, List.setIfInBounds_toArray, List.set_cons_succ, List.set_cons_zero]; go_simp; first | exact ⟨Below.refl _ _, rfl⟩ | exact rfl | (refine (right_built _ _ _ _ _ _ b x (H0.out.ext (below_trans hbe (below_later wq xq))) hrn hz hkind).mono ?_; intro e w' hr; obtain ⟨bb, rfl, hbb, hb⟩ := hr; obtain rfl : bb = true := (hbb.2 hro); exact ⟨rfl, hb⟩))
                refine growAll_exact ?_; apply Exists.intro; refine ⟨fun vs xq hd => ?_, ?_⟩; focus ((try simp [Oper.waitsOn, Region.binds, List.filter_cons, List.filter_nil, factAt, depsHold] at hd); simp only [putsFrom, Act.put, List.setIfInBounds_toArray, List.set_cons_succ, List.set_cons_zero]; go_simp; first | exact ⟨Below.refl _ _, rfl⟩ | exact rfl)
                refine growAll_exact ?_; apply Exists.intro; refine ⟨fun vs xq hd => ?_, ?_⟩; focus ((try simp [Oper.waitsOn, Region.binds, List.filter_cons, List.filter_nil, factAt, depsHold] at hd); simp only [putsFrom, Act.put, List.setIfInBounds_toArray, List.set_cons_succ, List.set_cons_zero]; go_simp; first | exact ⟨Below.refl _ _, rfl⟩ | exact rfl)
                refine growAll_exact ?_; apply Exists.intro; refine ⟨fun vs xq hd => ?_, ?_⟩; focus ((try simp [Oper.waitsOn, Region.binds, List.filter_cons, List.filter_nil, factAt, depsHold] at hd); simp only [putsFrom, Act.put, List.setIfInBounds_toArray, List.set_cons_succ, List.set_cons_zero]; go_simp; first | exact ⟨Below.refl _ _, rfl⟩ | exact rfl)
                refine growAll_exact ?_; apply Exists.intro; refine ⟨fun vs xq hd => ?_, ?_⟩; focus ((try simp [Oper.waitsOn, Region.binds, List.filter_cons, List.filter_nil, factAt, depsHold] at hd); simp only [putsFrom, Act.put, List.setIfInBounds_toArray, List.set_cons_succ, List.set_cons_zero]; go_simp; first | exact ⟨Below.refl _ _, rfl⟩ | exact rfl)
                refine growAll_exact ?_; apply Exists.intro; refine ⟨fun vs xq hd => ?_, ?_⟩; focus ((try simp [Oper.waitsOn, Region.binds, List.filter_cons, List.filter_nil, factAt, depsHold] at hd); simp only [putsFrom, Act.put, List.setIfInBounds_toArray, List.set_cons_succ, List.set_cons_zero]; go_simp; first | exact ⟨Below.refl _ _, rfl⟩ | exact rfl)
                refine growAll_exact ?_; apply Exists.intro; refine ⟨fun vs xq hd => ?_, ?_⟩; focus ((try simp [Oper.waitsOn, Region.binds, List.filter_cons, List.filter_nil, factAt, depsHold] at hd); simp only [putsFrom, Act.put, List.setIfInBounds_toArray, List.set_cons_succ, List.set_cons_zero]; go_simp; first | exact ⟨Below.refl _ _, rfl⟩ | exact rfl)
                refine growAll_exact ?_; apply Exists.intro; refine ⟨fun vs xq hd => ?_, ?_⟩; focus ((try simp [Oper.waitsOn, Region.binds, List.filter_cons, List.filter_nil, factAt, depsHold] at hd); simp only [putsFrom, Act.put, List.setIfInBounds_toArray, List.set_cons_succ, List.set_cons_zero]; go_simp; first | exact ⟨Below.refl _ _, rfl⟩ | exact rfl)
                refine growAll_exact ?_; apply Exists.intro; refine ⟨fun vs xq hd => ?_, ?_⟩; focus ((try simp [Oper.waitsOn, Region.binds, List.filter_cons, List.filter_nil, factAt, depsHold] at hd); simp only [putsFrom, Act.put, List.setIfInBounds_toArray, List.set_cons_succ, List.set_cons_zero]; go_simp; first | exact ⟨Below.refl _ _, rfl⟩ | exact rfl)
                refine growAll_exact ?_; apply Exists.intro; refine ⟨fun vs xq hd => ?_, ?_⟩; focus ((try simp [Oper.waitsOn, Region.binds, List.filter_cons, List.filter_nil, factAt, depsHold] at hd); simp only [putsFrom, Act.put, List.setIfInBounds_toArray, List.set_cons_succ, List.set_cons_zero]; go_simp; first | exact ⟨Below.refl _ _, rfl⟩ | exact rfl)
                refine growAll_exact ?_; apply Exists.intro; refine ⟨fun vs xq hd => ?_, ?_⟩; focus ((try simp [Oper.waitsOn, Region.binds, List.filter_cons, List.filter_nil, factAt, depsHold] at hd); simp only [putsFrom, Act.put, List.setIfInBounds_toArray, List.set_cons_succ, List.set_cons_zero]; go_simp; first | exact ⟨Below.refl _ _, rfl⟩ | exact rfl)
                refine growAll_exact ?_; apply Exists.intro; refine ⟨fun vs xq hd => ?_, ?_⟩; focus ((try simp [Oper.waitsOn, Region.binds, List.filter_cons, List.filter_nil, factAt, depsHold] at hd); simp only [putsFrom, Act.put, List.setIfInBounds_toArray, List.set_cons_succ, List.set_cons_zero]; go_simp; first | exact ⟨Below.refl _ _, rfl⟩ | exact rfl)
                refine growAll_exact ?_; apply Exists.intro; refine ⟨fun vs xq hd => ?_, ?_⟩; focus ((try simp [Oper.waitsOn, Region.binds, List.filter_cons, List.filter_nil, factAt, depsHold] at hd); simp only [putsFrom, Act.put, List.setIfInBounds_toArray, List.set_cons_succ, List.set_cons_zero]; go_simp; first | exact ⟨Below.refl _ _, rfl⟩ | exact rfl)
                refine growAll_exact ?_; apply Exists.intro; refine ⟨fun vs xq hd => ?_, ?_⟩; focus ((try simp [Oper.waitsOn, Region.binds, List.filter_cons, List.filter_nil, factAt, depsHold] at hd); simp only [putsFrom, Act.put, List.setIfInBounds_toArray, List.set_cons_succ, List.set_cons_zero]; go_simp; first | exact ⟨Below.refl _ _, rfl⟩ | exact rfl)
                refine growAll_exact ?_; apply Exists.intro; refine ⟨fun vs xq hd => ?_, ?_⟩; focus ((try simp [Oper.waitsOn, Region.binds, List.filter_cons, List.filter_nil, factAt, depsHold] at hd); simp only [putsFrom, Act.put, List.setIfInBounds_toArray, List.set_cons_succ, List.set_cons_zero]; go_simp; first | exact ⟨Below.refl _ _, rfl⟩ | exact rfl)
                refine growAll_exact ?_; apply Exists.intro; refine ⟨fun vs xq hd => ?_, ?_⟩; focus ((try simp [Oper.waitsOn, Region.binds, List.filter_cons, List.filter_nil, factAt, depsHold] at hd); simp only [putsFrom, Act.put, List.setIfInBounds_toArray, List.set_cons_succ, List.set_cons_zero]; go_simp; first | exact ⟨Below.refl _ _, rfl⟩ | exact rfl)
                refine growAll_exact ?_; apply Exists.intro; refine ⟨fun vs xq hd => ?_, ?_⟩; focus ((try simp [Oper.waitsOn, Region.binds, List.filter_cons, List.filter_nil, factAt, depsHold] at hd); simp only [putsFrom, Act.put, List.setIfInBounds_toArray, List.set_cons_succ, List.set_cons_zero]; go_simp; first | exact ⟨Below.refl _ _, rfl⟩ | exact rfl)
                refine growAll_exact ?_; apply Exists.intro; refine ⟨fun vs xq hd => ?_, ?_⟩; focus ((try simp [Oper.waitsOn, Region.binds, List.filter_cons, List.filter_nil, factAt, depsHold] at hd); simp only [putsFrom, Act.put, List.setIfInBounds_toArray, List.set_cons_succ, List.set_cons_zero]; go_simp; first | exact ⟨Below.refl _ _, rfl⟩ | exact rfl)
                refine growAll_done (by simp only [List.length_append, List.length_cons, List.length_nil]) (fun vs xq hd => ?_)
                simp [depsHold, factAt, List.range, List.range.loop] at hd
                simp only [putsFrom, Act.put, List.setIfInBounds_toArray, List.set_cons_succ, List.set_cons_zero, List.drop_succ_cons, List.drop_zero]
                obtain ⟨_, _, _, _, _, _, _, _, _, _, _, _, _, _, _, _, _, _, _, e19⟩ := hd
                simp only [Nat.zero_add, Nat.reduceAdd] at e19 ⊢
                clear ky
                by_cases hlt2 : y.num < x.num
                · have hok := HI2.out.2 hlt2
                  have hd2 : decide (x.num ≤ y.num) = false := by simp; omega
                  rw [hd2] at e19
                  simp only [e19]
                  have hb7 := Lib.hid (below_trans hbw.out (below_trans hba (below_later wq xq)))
                  clear k0 k1 k2 k3 k4 k5 x0 x1 x2 x3 x4
                  go_wp2
                  go_roundw
                  case rel => exact ⟨k + 1, by go_num, by omega, hb7, Lib.hid (all_step _ k hall.out hok)⟩
                  case measure => simp [intOf]; omega
                · have e1 := HBK.out (fun h => hlt2 (HI2.out.1 h))
                  have hd2 : decide (x.num ≤ y.num) = true := by simp; omega
                  rw [hd2] at e19
                  simp only [e19]
                  have hbe := below_trans hbe (below_later wq xq)
                  clear k0 k1 k2 k3 k4 k5 x0 x1 x2 x3 x4
                  go_wp2
                  go_ret
                  exact ⟨by first | (rw [e1]; rfl) | rfl, hbe⟩
              · have hok := HIFF.out.2 ⟨hro, fun h => absurd h hk0⟩
                have hki : ¬ (0 : Int) < (k : Int) := by omega
                refine wp_region_grow_all 20 (by kernel_rfl) (by kernel_rfl) ?_
                simp only [List.take_succ_cons, List.take_zero]
                refine growAll_exact ?_; apply Exists.intro; refine ⟨fun vs xq hd => ?_, ?_⟩; focus ((try simp [Oper.waitsOn, Region.binds, List.filter_cons, List.filter_nil, factAt, depsHold] at hd); simp only [putsFrom, Act.put, List.setIfInBounds_toArray, List.set_cons_succ, List.set_cons_zero]; go_simp; first | exact ⟨Below.refl _ _, rfl⟩ | exact rfl)
                refine growAll_exact ?_; apply Exists.intro; refine ⟨fun vs xq hd => ?_, ?_⟩; focus ((try simp [Oper.waitsOn, Region.binds, List.filter_cons, List.filter_nil, factAt, depsHold] at hd); simp only [putsFrom, Act.put, List.setIfInBounds_toArray, List.set_cons_succ, List.set_cons_zero]; go_simp; first | exact ⟨Below.refl _ _, rfl⟩ | exact rfl)
                refine growAll_exact ?_; apply Exists.intro; refine ⟨fun vs xq hd => ?_, ?_⟩; focus ((try simp [Oper.waitsOn, Region.binds, List.filter_cons, List.filter_nil, factAt, depsHold] at hd); simp only [putsFrom, Act.put, List.setIfInBounds_toArray, List.set_cons_succ, List.set_cons_zero]; go_simp; first | exact ⟨Below.refl _ _, rfl⟩ | exact rfl | (refine (right_built _ _ _ _ _ _ b x (H0.out.ext (below_trans hbe (below_later wq xq))) hrn hz hkind).mono ?_; intro e w' hr; obtain ⟨bb, rfl, hbb, hb⟩ := hr; obtain rfl : bb = true := (hbb.2 hro); exact ⟨rfl, hb⟩))
                refine growAll_exact ?_; apply Exists.intro; refine ⟨fun vs xq hd => ?_, ?_⟩; focus ((try simp [Oper.waitsOn, Region.binds, List.filter_cons, List.filter_nil, factAt, depsHold] at hd); simp only [putsFrom, Act.put, List.setIfInBounds_toArray, List.set_cons_succ, List.set_cons_zero]; go_simp; first | exact ⟨Below.refl _ _, rfl⟩ | exact rfl)
                refine growAll_exact ?_; apply Exists.intro; refine ⟨fun vs xq hd => ?_, ?_⟩; focus ((try simp [Oper.waitsOn, Region.binds, List.filter_cons, List.filter_nil, factAt, depsHold] at hd); simp only [putsFrom, Act.put, List.setIfInBounds_toArray, List.set_cons_succ, List.set_cons_zero]; go_simp; first | exact ⟨Below.refl _ _, rfl⟩ | exact rfl)
                refine growAll_exact ?_; apply Exists.intro; refine ⟨fun vs xq hd => ?_, ?_⟩; focus ((try simp [Oper.waitsOn, Region.binds, List.filter_cons, List.filter_nil, factAt, depsHold] at hd); simp only [putsFrom, Act.put, List.setIfInBounds_toArray, List.set_cons_succ, List.set_cons_zero]; go_simp; first | exact ⟨Below.refl _ _, rfl⟩ | exact rfl)
                refine growAll_exact ?_; apply Exists.intro; refine ⟨fun vs xq hd => ?_, ?_⟩; focus ((try simp [Oper.waitsOn, Region.binds, List.filter_cons, List.filter_nil, factAt, depsHold] at hd); simp only [putsFrom, Act.put, List.setIfInBounds_toArray, List.set_cons_succ, List.set_cons_zero]; go_simp; first | exact ⟨Below.refl _ _, rfl⟩ | exact rfl)
                refine growAll_exact ?_; apply Exists.intro; refine ⟨fun vs xq hd => ?_, ?_⟩; focus ((try simp [Oper.waitsOn, Region.binds, List.filter_cons, List.filter_nil, factAt, depsHold] at hd); simp only [putsFrom, Act.put, List.setIfInBounds_toArray, List.set_cons_succ, List.set_cons_zero]; go_simp; first | exact ⟨Below.refl _ _, rfl⟩ | exact rfl)
                refine growAll_exact ?_; apply Exists.intro; refine ⟨fun vs xq hd => ?_, ?_⟩; focus ((try simp [Oper.waitsOn, Region.binds, List.filter_cons, List.filter_nil, factAt, depsHold] at hd); simp only [putsFrom, Act.put, List.setIfInBounds_toArray, List.set_cons_succ, List.set_cons_zero]; go_simp; first | exact ⟨Below.refl _ _, rfl⟩ | exact rfl)
                refine growAll_exact ?_; apply Exists.intro; refine ⟨fun vs xq hd => ?_, ?_⟩; focus ((try simp [Oper.waitsOn, Region.binds, List.filter_cons, List.filter_nil, factAt, depsHold] at hd); simp only [putsFrom, Act.put, List.setIfInBounds_toArray, List.set_cons_succ, List.set_cons_zero]; go_simp; first | exact ⟨Below.refl _ _, rfl⟩ | exact rfl)
                refine growAll_exact ?_; apply Exists.intro; refine ⟨fun vs xq hd => ?_, ?_⟩; focus ((try simp [Oper.waitsOn, Region.binds, List.filter_cons, List.filter_nil, factAt, depsHold] at hd); simp only [putsFrom, Act.put, List.setIfInBounds_toArray, List.set_cons_succ, List.set_cons_zero]; go_simp; first | exact ⟨Below.refl _ _, rfl⟩ | exact rfl)
                refine growAll_exact ?_; apply Exists.intro; refine ⟨fun vs xq hd => ?_, ?_⟩; focus ((try simp [Oper.waitsOn, Region.binds, List.filter_cons, List.filter_nil, factAt, depsHold] at hd); simp only [putsFrom, Act.put, List.setIfInBounds_toArray, List.set_cons_succ, List.set_cons_zero]; go_simp; first | exact ⟨Below.refl _ _, rfl⟩ | exact rfl)
                refine growAll_exact ?_; apply Exists.intro; refine ⟨fun vs xq hd => ?_, ?_⟩; focus ((try simp [Oper.waitsOn, Region.binds, List.filter_cons, List.filter_nil, factAt, depsHold] at hd); simp only [putsFrom, Act.put, List.setIfInBounds_toArray, List.set_cons_succ, List.set_cons_zero]; go_simp; first | exact ⟨Below.refl _ _, rfl⟩ | exact rfl)
                refine growAll_exact ?_; apply Exists.intro; refine ⟨fun vs xq hd => ?_, ?_⟩; focus ((try simp [Oper.waitsOn, Region.binds, List.filter_cons, List.filter_nil, factAt, depsHold] at hd); simp only [putsFrom, Act.put, List.setIfInBounds_toArray, List.set_cons_succ, List.set_cons_zero]; go_simp; first | exact ⟨Below.refl _ _, rfl⟩ | exact rfl)
                refine growAll_exact ?_; apply Exists.intro; refine ⟨fun vs xq hd => ?_, ?_⟩; focus ((try simp [Oper.waitsOn, Region.binds, List.filter_cons, List.filter_nil, factAt, depsHold] at hd); simp only [putsFrom, Act.put, List.setIfInBounds_toArray, List.set_cons_succ, List.set_cons_zero]; go_simp; first | exact ⟨Below.refl _ _, rfl⟩ | exact rfl)
                refine growAll_exact ?_; apply Exists.intro; refine ⟨fun vs xq hd => ?_, ?_⟩; focus ((try simp [Oper.waitsOn, Region.binds, List.filter_cons, List.filter_nil, factAt, depsHold] at hd); simp only [putsFrom, Act.put, List.setIfInBounds_toArray, List.set_cons_succ, List.set_cons_zero]; go_simp; first | exact ⟨Below.refl _ _, rfl⟩ | exact rfl)
                refine growAll_exact ?_; apply Exists.intro; refine ⟨fun vs xq hd => ?_, ?_⟩; focus ((try simp [Oper.waitsOn, Region.binds, List.filter_cons, List.filter_nil, factAt, depsHold] at hd); simp only [putsFrom, Act.put, List.setIfInBounds_toArray, List.set_cons_succ, List.set_cons_zero]; go_simp; first | exact ⟨Below.refl _ _, rfl⟩ | exact rfl)
                refine growAll_exact ?_; apply Exists.intro; refine ⟨fun vs xq hd => ?_, ?_⟩; focus ((try simp [Oper.waitsOn, Region.binds, List.filter_cons, List.filter_nil, factAt, depsHold] at hd); simp only [putsFrom, Act.put, List.setIfInBounds_toArray, List.set_cons_succ, List.set_cons_zero]; go_simp; first | exact ⟨Below.refl _ _, rfl⟩ | exact rfl)
                refine growAll_exact ?_; apply Exists.intro; refine ⟨fun vs xq hd => ?_, ?_⟩; focus ((try simp [Oper.waitsOn, Region.binds, List.filter_cons, List.filter_nil, factAt, depsHold] at hd); simp only [putsFrom, Act.put, List.setIfInBounds_toArray, List.set_cons_succ, List.set_cons_zero]; go_simp; first | exact ⟨Below.refl _ _, rfl⟩ | exact rfl)
                refine growAll_exact ?_; apply Exists.intro; refine ⟨fun vs xq hd => ?_, ?_⟩; focus ((try simp [Oper.waitsOn, Region.binds, List.filter_cons, List.filter_nil, factAt, depsHold] at hd); simp only [putsFrom, Act.put, List.setIfInBounds_toArray, List.set_cons_succ, List.set_cons_zero]; go_simp; first | exact ⟨Below.refl _ _, rfl⟩ | exact rfl)
                refine growAll_done (by simp only [List.length_append, List.length_cons, List.length_nil]) (fun vs xq hd => ?_)
                simp [depsHold, factAt, List.range, List.range.loop] at hd
                simp only [putsFrom, Act.put, List.setIfInBounds_toArray, List.set_cons_succ, List.set_cons_zero, List.drop_succ_cons, List.drop_zero]
                obtain ⟨_, _, _, _, _, _, _, _, _, _, _, _, _, _, _, _, _, _, _, e19⟩ := hd
                simp only [Nat.zero_add, Nat.reduceAdd] at e19 ⊢
                simp only [e19]
                have hb7 := Lib.hid (below_trans hbw.out (below_trans hba (below_later wq xq)))
                clear k0 k1 k2 k3 k4 k5 x0 x1 x2 x3 x4
                go_wp2
                go_roundw
                case rel => exact ⟨k + 1, by go_num, by omega, hb7, Lib.hid (all_step _ k hall.out hok)⟩
                case measure => simp [intOf]; omega
            · have e1 := hgood ⟨hlast, hm12, hh4, hr10, fun j hj => hmsok.out j hj, fun j hj => hhsok.out j hj, fun j hj => hall.out j (by omega)⟩
              go_wp2
              go_ret
              exact ⟨by first | (rw [e1]; rfl) | rfl, hbe⟩

end Go.Proofs.YtoibnhkiedpkgaaGreatDoor
