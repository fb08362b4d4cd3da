/- The reference: which notes are in force for a machine; the letters of all drawings. -/
import Derived.Test.YtpolpdegpbahiaaGreatDoorM01
import Derived.Test.YtpolpdegpbahiaaGreatDoorM02
import Derived.Test.YtpolpdegpbahiaaGreatDoorM03
set_option linter.all false
set_option maxRecDepth 100000
set_option maxHeartbeats 12800000

namespace Go.Proofs.YtpolpdegpbahiaaGreatDoor
open Tryz
open Go.RowKit
theorem infoBool : (prog.info? 4).map (fun i => (i.zero, i.size, i.bytes)) = some (some (.bool false), 1, 1) := by kernel_rfl
def rowB (g : Nat → Bool) (n : Nat) : List Value := (List.range n).map (fun j => Value.bool (g j))
theorem zKF (g : Nat → Bool) (n : Nat) : (rowB g n).length = n := by simp [rowB]
theorem zNM (g : Nat → Bool) (n i : Nat) (h : i < n) : (rowB g n)[i]? = some (.bool (g i)) := by
 unfold rowB
 rw [List.getElem?_map, List.getElem?_range h]
 rfl
theorem rowB_eq {g g' : Nat → Bool} {n : Nat} (h : ∀ j, j < n → g j = g' j) : rowB g n = rowB g' n := by
 unfold rowB
 exact List.map_congr_left fun j hj => by rw [h j (List.mem_range.1 hj)]
theorem rowB_set (g : Nat → Bool) (n i : Nat) (x : Bool) : (rowB g n).set i (.bool x) = rowB (fun j => if j = i then x else g j) n := by
 apply List.ext_getElem?
 intro j
 rw [List.getElem?_set]
 by_cases e : i = j
 ·subst e
  by_cases hl : i < n
  ·rw [if_pos rfl, if_pos (by rw [zKF]; exact hl), zNM _ _ _ hl]; simp
  ·rw [if_pos rfl, if_neg (by rw [zKF]; exact hl), List.getElem?_eq_none (by rw [zKF]; omega)]
 ·rw [if_neg e]
  by_cases hl : j < n
  ·rw [zNM _ _ _ hl, zNM _ _ _ hl, if_neg (fun h => e h.symm)]
  ·rw [List.getElem?_eq_none (by rw [zKF]; omega), List.getElem?_eq_none (by rw [zKF]; omega)]
theorem rowB_zero (n : Nat) : (madeCells (Value.bool false).cells (n * 1)).toList = rowB (fun _ => false) n := by
 rw [Nat.mul_one]
 show (madeCells #[Value.bool false] n).toList = _
 rw [toList_madeCells_one]
 unfold rowB
 rw [List.map_const', List.length_range]
theorem bools_of_own {w : World} {base : Nat} {v : Value} {xs : List Bool} (h : w.ownsRow base 4 1 v xs.length (xs.map Value.bool)) : Sl zJQ 1 w v xs := by
 have h' := h
 obtain ⟨_, h2⟩ := h
 rcases h2 with ⟨rfl, hn⟩ | ⟨g, cap, cur, rfl, _, _, hc, hcm, _⟩
 ·exact ⟨none, 0, by rw [hn], by omega, fun k hk => by omega⟩
 ·refine ⟨some ⟨g, 0, none⟩, cap, rfl, by unfold maxLen at hcm; omega, fun k hk => ⟨g, 0, rfl, ?_⟩⟩
  have := h'.cells (g := g) rfl k (.bool xs[k]) (by simp [hk])
  rw [zBP] at this
  unfold zJQ zJ
  simpa using this
theorem zFE {w : World} {base g n cap : Nat} {e : TypeId} {sz : Nat} {cs : List Value} (h : w.ownsRow base e sz (.slice (some ⟨g, 0, none⟩) n cap) n cs) (j : Nat) : w.frozen? ⟨g, j, none⟩ = false := by
 rcases h.2 with ⟨h, _⟩ | ⟨g', cap', cur, hv, _, hc, _⟩
 ·cases h
 ·cases hv
  unfold World.frozen?
  rw [hc]
  simp
theorem rowB_frc (S : List Int) (m : Int) (N : List Note) : rowB (fAt S m N) N.length = (frc S m N).map Value.bool := by
 apply List.ext_getElem?
 intro j
 by_cases hl : j < N.length
 ·rw [zNM _ _ _ hl, List.getElem?_map]
  unfold fAt
  rw [List.getD_eq_getElem?_getD, List.getElem?_eq_getElem (by rw [zNV]; exact hl)]
  rfl
 ·rw [List.getElem?_eq_none (by rw [zKF]; omega), List.getElem?_eq_none (by rw [List.length_map, zNV]; omega)]
theorem zND (n lo hi : Int) (w : World) : Calls prog 190 #[.int .i64 n, .int .i64 lo, .int .i64 hi] w fun e w' => e = .returned (.bool (inB n lo hi)) ∧ w' = w := by
 refine (zPZ n lo hi w).mono ?_
 rintro e w' ⟨b, rfl, h1, h2⟩
 refine ⟨zCQ ?_, h2.symm⟩
 unfold inB
 cases b
 ·have : ¬ In n lo hi := fun h => by simpa using h1.2 h
  unfold In at this
  symm
  simp
  intro h3
  omega
 ·have := h1.1 rfl
  unfold In at this
  symm
  simp
  exact this
theorem force03 (w : World) (vr vn vs : Value) (N : List Note) (S : List Int) (m : Int) (hn : Sl zBM 10 w vn N) (hs : Sl zAJ 1 w vs S) (hN : N.length ≤ 1000) :
  Calls prog 168 #[.agg #[vr, vn], vs, .slice none 0 0, .int .i64 m] w fun e w' => ∃ u, e = .returned u ∧ Sl zJQ 1 w' u (frc S m N) ∧ Below w.heap.size w w' := by
 obtain ⟨i0, hi, hz0, hz1, hz2⟩ := info_parts infoBool
 obtain ⟨hb1, B1⟩ := zAZ w #[vr, vn] 27
 have c1 := B1 1 vn rfl
 clear B1
 obtain ⟨an, capn, rfl, hmn⟩ := zD hn
 obtain ⟨az, capz, rfl, hms⟩ := zD hs
 have hn1 := zI zS hb1 hn
 have hs1 := zI zN hb1 hs
 have C1 := zF c1
 clear hn hs
 unfold zJ at c1
 go_enter func168, ntmps168
 go_wp2_with (at_make; refine wpList_make_full _ rfl _ _ 257 rfl (w.heap.size + 1) 4 i0 (.bool false) 1 underlying257 hi hz0 hz1 .i64 .i64 _ _ N.length rfl rfl rfl rfl (by rw [hz2]; omega) (by unfold maxLen; omega) (by simp) ?_; intro w3 hown0 hg0; have hb4 := (br_).grown hg0 (Nat.le_refl _) (fun k e => by cases e); clear c1; have c1 := zC hb4 C1.out; unfold zJ at c1)
 rw [World.size_alloc] at hown0
 have HW1 : Hid ((w.alloc (.cells #[vr, .slice an N.length capn] 27)).heap.size = w.heap.size + 1) := World.size_alloc _ _
 generalize w.alloc _ = w1 at *
 have hrow0 : w3.ownsRow (w.heap.size + 1) 4 1 (.slice (some ⟨w.heap.size + 1, 0, none⟩) N.length N.length) N.length (rowB (fun j => decide (N.length ≤ j) && fAt S m N j) N.length) := by
  rw [rowB_zero] at hown0
  rw [rowB_eq (g' := fun _ => false) (fun j hj => by simp; omega)]
  exact hown0
 clear hown0 hg0 c1
 go_loopw [10] (fun i wr => ∃ k : Nat, i = .int .i64 ((k : Int) - 1) ∧ k ≤ N.length ∧ wr.ownsRow (w.heap.size + 1) 4 1 (.slice (some ⟨w.heap.size + 1, 0, none⟩) N.length N.length) N.length (rowB (fun j => decide (k ≤ j) && fAt S m N j) N.length) ∧ Below w1.heap.size w1 wr) (fun i _ => (intOf i + 1).toNat)
 case atStart => exact ⟨N.length, rfl, Nat.le_refl _, hrow0, hb4⟩
 case round =>
  obtain ⟨k, rfl, hk, hown, hb⟩ := hrel
  clear hrow0 hb4
  have hH := hown.lt (w.heap.size + 1) rfl
  cases k with
  | zero =>
    have hrow : Sl zJQ 1 wr (.slice (some ⟨w.heap.size + 1, 0, none⟩) N.length N.length) (frc S m N) := by
     have h2 := hown
     rw [rowB_eq (g' := fAt S m N) (fun j hj => by simp), rowB_frc] at h2
     have := bools_of_own (xs := frc S m N) (base := w.heap.size + 1) (w := wr) (v := .slice (some ⟨w.heap.size + 1, 0, none⟩) N.length N.length) (by rw [zNV]; exact h2)
     exact this
    have HROW := zF hrow
    clear hrow hown
    go_wp2
    go_ret
    exact ⟨_, rfl, HROW.out, zA hb1 hb⟩
  | succ k =>
    have e1 : ((k + 1 : Nat) : Int) - 1 = k := by omega
    rw [e1]
    clear e1
    have c1 := zC hb C1.out
    have hX := (zZ (zI zS hb hn1)).2
    obtain ⟨b, off, rfl, ⟨q0, q1, q2, q3, q4, q5, q6, q7, q8, q9⟩, _⟩ := hX k (by omega)
    have hfi : Hid (fAt S m N k = true ↔ inF S m N[k] = true ∧ ∀ j, k < j → ∀ hj : j < N.length, fAt S m N j = true → N[j].ca ≠ N[k].num) := fAt_iff S m N k (by omega)
    generalize hx : N[k] = x at *
    clear hx
    have hs2 := zI zN hb hs1
    have HOWN := zF hown
    have HBB := zF hb
    clear hown hb hX
    unfold zJ at q0 q1 q2 q3 q4 q5 q6 q7 q8 q9 c1
    have hkl : (k : Int) < N.length := by omega
    have hcell : ∀ j, k + 1 ≤ j → j < N.length → Hid (zJ wr (w.heap.size + 1) j (.bool (fAt S m N j))) := fun j h1 h2 => by
     have := HOWN.out.cells (g := w.heap.size + 1) rfl j (.bool (fAt S m N j)) (by rw [zNM _ _ _ h2]; simp [h1])
     rw [zBP] at this
     exact this
    by_cases g1 : (x.sg == 2) = true
    case' pos =>
     go_wp2_with fail
     refine (has03 _ _ [] _ (zGS _ _ _ _ _)).mono ?_
     rintro e w5 ⟨rfl, rfl⟩
     go_wp2_with fail
     refine (zND _ _ _ _).mono ?_
     rintro e w5 ⟨rfl, rfl⟩
     have hy : inB m x.fr x.to = inF S m x := by unfold inB inF; rw [g1]; simp
     generalize inB m x.fr x.to = y0 at *
     have HY := zF hy
     clear hy
    case' neg =>
     have g1' : (x.sg == 2) = false := by simpa using g1
     by_cases g2 : x.num ∈ S
     case' pos =>
      have g2' : decide (x.num ∈ S) = true := by simpa using g2
      have G2 := zF g2
      clear g2 g1
      go_wp2_with fail
      refine (has03 _ _ S _ (zI zN (zB _ _) hs2)).mono ?_
      rintro e w5 ⟨rfl, rfl⟩
      rw [g2']
      clear g2'
      go_wp2_with fail
      refine (has03 _ _ [] _ (zGS _ _ _ _ _)).mono ?_
      rintro e w5 ⟨rfl, rfl⟩
      go_wp2_with fail
      refine (zND _ _ _ _).mono ?_
      rintro e w5 ⟨rfl, rfl⟩
      have hy : inB m x.fr x.to = inF S m x := by unfold inB inF; have := G2.out; simp [this]
      generalize inB m x.fr x.to = y0 at *
      have HY := zF hy
      clear hy
     case' neg =>
      have g2' : decide (x.num ∈ S) = false := by simpa using g2
      have HY : Hid (false = inF S m x) := by unfold inF; rw [g1', g2']; rfl
      clear g2 g1
      go_wp2_with fail
      refine (has03 _ _ S _ (zI zN (zB _ _) hs2)).mono ?_
      rintro e w5 ⟨rfl, rfl⟩
      rw [g2']
      clear g2'
    all_goals
     go_wp2
     obtain ⟨hb5, B5⟩ := zAZ wr #[.int .i64 x.num, .int .i64 x.day, .int .u8 x.sg, .int .i64 x.d, .int .i64 x.l, .int .i64 x.fr, .int .i64 x.to, .int .i64 x.ca, .bool x.use, .int .u8 x.ways] 147
     have D0 := zF (B5 0 (.int .i64 x.num) rfl)
     have HB5 := zF (And.intro (zA HBB.out hb5) (zAA hb5 HOWN.out))
     have hcell5 : ∀ j, k + 1 ≤ j → j < N.length → Hid (zJ (wr.alloc (.cells #[.int .i64 x.num, .int .i64 x.day, .int .u8 x.sg, .int .i64 x.d, .int .i64 x.l, .int .i64 x.fr, .int .i64 x.to, .int .i64 x.ca, .bool x.use, .int .u8 x.ways] 147)) (w.heap.size + 1) j (.bool (fAt S m N j))) := fun j h1 h2 => zC hb5 (hcell j h1 h2).out
     clear B5 hb5 q0 q1 q2 q3 q4 q5 q6 q7 q8 q9 c1 hcell
     generalize wr.alloc _ = w5 at *
     go_loopw [12, 13] (fun v i wz => ∃ (j : Nat) (y : Bool), i = .int .i64 ((j : Int) + 1) ∧ k ≤ j ∧ j + 1 ≤ N.length ∧ v = .bool y ∧ (y = true ↔ inF S m x = true ∧ ∀ l, k < l → l < j + 1 → ∀ hl : l < N.length, fAt S m N l = true → N[l].ca ≠ x.num) ∧ Below w5.heap.size w5 wz) (fun _ i _ => N.length - (intOf i).toNat)
     case atStart => exact ⟨k, _, rfl, Nat.le_refl _, hk, rfl, ⟨fun h => ⟨by rw [← HY.out]; exact h, fun l h1 h2 => by omega⟩, fun h => by rw [HY.out]; exact h.1⟩, br_⟩
     case round =>
      obtain ⟨j, y, rfl, hkj, hjl, rfl, hiff, hbz⟩ := hrel
      have HIFF := zF hiff
      clear hiff
      have d0 := zC hbz D0.out
      have c1 := zC (zA HB5.out.1 hbz) C1.out
      by_cases hlt : j + 1 < N.length
      case pos =>
       have e3 := zC hbz (hcell5 (j + 1) (by omega) hlt).out
       obtain ⟨b2, off2, hh2, ⟨_, _, _, _, _, _, _, q7, _⟩, _⟩ := (zZ (zI zS (zA HB5.out.1 hbz) hn1)).2 (j + 1) hlt
       cases hh2
       have HN7 : Hid (∀ c, N[j + 1].ca = c → N[j + 1].ca = c) := fun _ h => h
       generalize hca : N[j + 1].ca = ca at *
       have HCA := zF hca
       clear HN7 hca
       generalize hf : fAt S m N (j + 1) = fj at *
       have HF := zF hf
       clear hf
       unfold zJ at d0 c1 e3 q7
       have hji : (j : Int) + 1 < N.length := by omega
       have hj0 : 0 ≤ (j : Int) + 1 := by omega
       have hj1 : ((j : Int) + 1).toNat = j + 1 := by omega
       have hstep : ∀ y2 : Bool, Hid ((y2 = true ↔ y = true ∧ (fj = true → ca ≠ x.num)) → (y2 = true ↔ inF S m x = true ∧ ∀ l, k < l → l < j + 1 + 1 → ∀ hl : l < N.length, fAt S m N l = true → N[l].ca ≠ x.num)) := fun y2 h => by
        rw [h, HIFF.out]
        constructor
        ·rintro ⟨⟨h1, h2⟩, h3⟩
         refine ⟨h1, fun l a1 a2 hl a3 => ?_⟩
         by_cases el : l = j + 1
         ·subst el; rw [HCA.out]; exact h3 (by rw [← HF.out]; exact a3)
         ·exact h2 l a1 (by omega) hl a3
        ·rintro ⟨h1, h2⟩
         refine ⟨⟨h1, fun l a1 a2 hl a3 => h2 l a1 (by omega) hl a3⟩, fun h3 => ?_⟩
         have := h2 (j + 1) (by omega) (by omega) hlt (by rw [HF.out]; exact h3)
         rwa [HCA.out] at this
       cases y
       ·go_wp2
        refine wp_region_quiet_lit (by kernel_rfl) (by kernel_rfl) (no_implicit_lambda% ?_)
        repeat ((with_reducible refine wpQuiet_step (fun K hK => ?_)); go_simp; first | ((with_reducible refine hK _ ?_); clear hK K) | (refine hK _ (no_implicit_lambda% ?_); clear hK K) | (apply Exists.intro; (with_reducible refine ⟨fun _ => ?_, hK _ ?_⟩); (fail); clear hK K))
        with_reducible refine wpQuiet_nil ?_
        intro _ hw9
        obtain ⟨nq, hw8⟩ := hw9
        subst hw8
        go_wp2
        go_roundw
        ·exact ⟨j + 1, false, by go_num, by omega, by omega, rfl, (hstep false).out (by simp), zA hbz (zO _ _)⟩
        ·simp [intOf]; omega
       ·cases fj
        ·go_wp2
         refine wp_region_quiet_lit (by kernel_rfl) (by kernel_rfl) (no_implicit_lambda% ?_)
         repeat ((with_reducible refine wpQuiet_step (fun K hK => ?_)); go_simp; first | ((with_reducible refine hK _ ?_); clear hK K) | (refine hK _ (no_implicit_lambda% ?_); clear hK K) | (apply Exists.intro; (with_reducible refine ⟨fun _ => ?_, hK _ ?_⟩); (fail); clear hK K))
         with_reducible refine wpQuiet_nil ?_
         intro _ hw9
         obtain ⟨nq, hw8⟩ := hw9
         subst hw8
         go_wp2
         go_roundw
         ·exact ⟨j + 1, true, by go_num, by omega, by omega, rfl, (hstep true).out (by simp), zA hbz (zO _ _)⟩
         ·simp [intOf]; omega
        ·by_cases he : (ca == x.num) = true
         ·go_wp2
          refine wp_region_quiet_lit (by kernel_rfl) (by kernel_rfl) (no_implicit_lambda% ?_)
          repeat ((with_reducible refine wpQuiet_step (fun K hK => ?_)); go_simp; first | ((with_reducible refine hK _ ?_); clear hK K) | (refine hK _ (no_implicit_lambda% ?_); clear hK K) | (apply Exists.intro; (with_reducible refine ⟨fun _ => ?_, hK _ ?_⟩); (fail); clear hK K))
          with_reducible refine wpQuiet_nil ?_
          intro _ hw9
          obtain ⟨nq, hw8⟩ := hw9
          subst hw8
          go_wp2
          go_roundw
          ·exact ⟨j + 1, false, by go_num, by omega, by omega, rfl, (hstep false).out (by simpa using he), zA hbz (zO _ _)⟩
          ·simp [intOf]; omega
         ·have he' : (ca == x.num) = false := by simpa using he
          go_wp2
          refine wp_region_quiet_lit (by kernel_rfl) (by kernel_rfl) (no_implicit_lambda% ?_)
          repeat ((with_reducible refine wpQuiet_step (fun K hK => ?_)); go_simp; first | ((with_reducible refine hK _ ?_); clear hK K) | (refine hK _ (no_implicit_lambda% ?_); clear hK K) | (apply Exists.intro; (with_reducible refine ⟨fun _ => ?_, hK _ ?_⟩); (fail); clear hK K))
          with_reducible refine wpQuiet_nil ?_
          intro _ hw9
          obtain ⟨nq, hw8⟩ := hw9
          subst hw8
          go_wp2
          go_roundw
          ·exact ⟨j + 1, true, by go_num, by omega, by omega, rfl, (hstep true).out (by simpa using he), zA hbz (zO _ _)⟩
          ·simp [intOf]; omega
      case neg =>
       have hown5 := zAA hbz HB5.out.2
       have e3 := hown5.cells (g := w.heap.size + 1) rfl k (.bool false) (by rw [zNM _ _ _ (by omega)]; simp; intro h; omega)
       rw [zBP] at e3
       unfold zJ at c1
       have hfz := zFE hown5 k
       go_wp2
       go_roundw
       case rel =>
        have hjn : j + 1 = N.length := by omega
        refine ⟨k, rfl, by omega, ?_, ?_⟩
        ·have hst := (hown5.stored k (.bool y)).1
         rw [rowB_set] at hst
         rw [rowB_eq (g' := fun i => if i = k then y else decide (k + 1 ≤ i) && fAt S m N i) (fun i hi => ?_)]
         ·exact hst
         ·by_cases ei : i = k
          ·subst ei
           simp only [Nat.le_refl, decide_true, Bool.true_and, if_true]
           rw [Bool.eq_iff_iff, hfi.out, HIFF.out]
           exact ⟨fun ⟨a1, a2⟩ => ⟨a1, fun l b1 _ hl b3 => a2 l b1 hl b3⟩, fun ⟨a1, a2⟩ => ⟨a1, fun l b1 hl b3 => a2 l b1 (by omega) hl b3⟩⟩
          ·simp only [ei, if_false]
           congr 1
           exact decide_eq_decide.2 ⟨fun h => by omega, fun h => by omega⟩
        ·exact (zA HB5.out.1 hbz).setCell (by have := HW1.out; simp; omega) _
       case measure => first | (simp [intOf]; done) | (simp [intOf]; omega)
end Go.Proofs.YtpolpdegpbahiaaGreatDoor
