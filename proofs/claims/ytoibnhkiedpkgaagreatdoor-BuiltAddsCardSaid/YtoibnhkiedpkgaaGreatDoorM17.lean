/- slices.Sort at a few numbers: it ends, and writes over its slice alone. slices.Sort at a few numbers, from its call on. All looks at a note together. -/
import Derived.Test.YtoibnhkiedpkgaaGreatDoorM05
import Derived.Test.YtoibnhkiedpkgaaGreatDoorM07
import Derived.Test.YtoibnhkiedpkgaaGreatDoorM08
import Derived.Test.YtoibnhkiedpkgaaGreatDoorM09
import Derived.Test.YtoibnhkiedpkgaaGreatDoorM11
import Derived.Test.YtoibnhkiedpkgaaGreatDoorM16
set_option linter.unusedVariables false
set_option linter.unusedSimpArgs false
set_option linter.all false

namespace Go.Proofs.YtoibnhkiedpkgaaGreatDoor
open Go.RowKit Go.Shelf
attribute [local go_sem] stepOk Oper.grows Oper.growUpon Oper.wild Oper.wildUpon

/-- A row of numbers of the call's own. -/
def OwnI (w : World) (base g cap n : Nat) (cs : List Int) : Prop := w.ownsRow base 3 1 (.slice (some ⟨g, 0, none⟩) n cap) n (cs.map (Value.int .i64)) ∧ cs.length = n
theorem OwnI.cell {w : World} {base g cap n : Nat} {cs : List Int} (h : OwnI w base g cap n cs) (k : Nat) (x : Int) (hx : cs[k]? = some x) : w.cell? ⟨g, k, none⟩ = some (.int .i64 x) := by
  have := h.1.cells (g := g) rfl k (.int .i64 x) (by rw [List.getElem?_map, hx]; rfl)
  rw [add_at] at this
  exact this
theorem OwnI.ext {w w' : World} {base g cap n : Nat} {cs : List Int} (h : OwnI w base g cap n cs) (hb : Below w.heap.size w w') : OwnI w' base g cap n cs := ⟨own_ext hb h.1, h.2⟩
theorem OwnI.set {w : World} {base g cap n : Nat} {cs : List Int} (h : OwnI w base g cap n cs) (k : Nat) (x : Int) : OwnI (w.setCell ⟨g, k, none⟩ (.int .i64 x)) base g cap n (cs.set k x) :=
  ⟨by rw [List.map_set]; exact (h.1.stored k (.int .i64 x)).1, by rw [List.length_set]; exact h.2⟩

set_option maxRecDepth 100000 in
set_option maxHeartbeats 6400000 in
theorem insertion_ints (w : World) (base g cap n : Nat) (cs : List Int) (hn : n ≤ 100) (hown : OwnI w base g cap n cs) :
    Calls Tryz.prog 91 #[.slice (some ⟨g, 0, none⟩) n cap, .int .i64 0, .int .i64 n] w fun e w' => (∃ v, e = .returned v) ∧ (∃ cs', OwnI w' base g cap n cs') ∧ w.grownBy w' (some g) := by
  go_enter Tryz.func91, Tryz.ntmps91
  go_wp2
  go_loopw [6] (fun i wr => ∃ k : Nat, i = .int .i64 k ∧ k ≤ n + 1 ∧ Hid (w.grownBy wr (some g) ∧ ∃ cs, OwnI wr base g cap n cs)) (fun i _ => n + 1 - (intOf i).toNat)
  case atStart => exact ⟨1, rfl, by omega, Lib.hid ⟨grown_self w w _ rfl rfl rfl rfl, _, hown⟩⟩
  case round =>
    obtain ⟨k, rfl, hk, H⟩ := hrel
    clear hown
    by_cases hkn : k < n
    · go_wp2
      go_loopw [7] (fun j wi => ∃ m : Nat, j = .int .i64 m ∧ m ≤ k ∧ Hid (w.grownBy wi (some g) ∧ ∃ cs, OwnI wi base g cap n cs)) (fun j _ => (intOf j).toNat)
      case atStart => exact ⟨k, rfl, Nat.le_refl _, H⟩
      case round =>
        clear H
        obtain ⟨m, rfl, hm, H⟩ := hrel
        obtain ⟨hg, cs, ho⟩ := H.out
        by_cases h0 : 0 < m
        · have hc1 : m < cs.length := by rw [ho.2]; omega
          have hc2 : m - 1 < cs.length := by rw [ho.2]; omega
          have k1 := fun xq => (ho.ext (below_later wr xq)).cell m cs[m] (by rw [List.getElem?_eq_getElem hc1])
          have k2 := fun xq => (ho.ext (below_later wr xq)).cell (m - 1) cs[m - 1] (by rw [List.getElem?_eq_getElem hc2])
          have hz : IntKind.i64.wrap ((m : Int) - 1) = ((m - 1 : Nat) : Int) := by rw [IntWalk.i64_in _ (by omega)]; omega
          have hml : (m : Int) < n := by omega
          have hkp : ((m - 1 : Nat) : Int) < n := by omega
          have hx1 := Lib.hid (List.getElem?_eq_getElem hc1)
          have hx2 := Lib.hid (List.getElem?_eq_getElem hc2)
          generalize cs[m] = x at *
          generalize cs[m - 1] = y at *
          go_wp2
          refine wp_region_grow_all 15 (by kernel_rfl) (by kernel_rfl) ?_
          simp only [List.take_succ_cons, List.take_zero]
          refine growAll_exact ?_; apply Exists.intro; refine ⟨fun vs xq hd => ?_, ?_⟩; focus ((try simp [Oper.waitsOn, Region.binds, List.filter_cons, List.filter_nil, factAt, depsHold] at hd); simp only [putsFrom, Act.put, List.setIfInBounds_toArray, List.set_cons_succ, List.set_cons_zero]; go_simp; first | exact ⟨Below.refl _ _, rfl⟩ | exact rfl)
          refine growAll_exact ?_; apply Exists.intro; refine ⟨fun vs xq hd => ?_, ?_⟩; focus ((try simp [Oper.waitsOn, Region.binds, List.filter_cons, List.filter_nil, factAt, depsHold] at hd); simp only [putsFrom, Act.put, List.setIfInBounds_toArray, List.set_cons_succ, List.set_cons_zero]; go_simp; first | exact ⟨Below.refl _ _, rfl⟩ | exact rfl)
          refine growAll_exact ?_; apply Exists.intro; refine ⟨fun vs xq hd => ?_, ?_⟩; focus ((try simp [Oper.waitsOn, Region.binds, List.filter_cons, List.filter_nil, factAt, depsHold] at hd); simp only [putsFrom, Act.put, List.setIfInBounds_toArray, List.set_cons_succ, List.set_cons_zero]; go_simp; first | exact ⟨Below.refl _ _, rfl⟩ | exact rfl)
          refine growAll_exact ?_; apply Exists.intro; refine ⟨fun vs xq hd => ?_, ?_⟩; focus ((try simp [Oper.waitsOn, Region.binds, List.filter_cons, List.filter_nil, factAt, depsHold] at hd); simp only [putsFrom, Act.put, List.setIfInBounds_toArray, List.set_cons_succ, List.set_cons_zero]; go_simp; first | exact ⟨Below.refl _ _, rfl⟩ | exact rfl)
          refine growAll_exact ?_; apply Exists.intro; refine ⟨fun vs xq hd => ?_, ?_⟩; focus ((try simp [Oper.waitsOn, Region.binds, List.filter_cons, List.filter_nil, factAt, depsHold] at hd); simp only [putsFrom, Act.put, List.setIfInBounds_toArray, List.set_cons_succ, List.set_cons_zero]; go_simp; first | exact ⟨Below.refl _ _, rfl⟩ | exact rfl)
          refine growAll_exact ?_; apply Exists.intro; refine ⟨fun vs xq hd => ?_, ?_⟩; focus ((try simp [Oper.waitsOn, Region.binds, List.filter_cons, List.filter_nil, factAt, depsHold] at hd); simp only [putsFrom, Act.put, List.setIfInBounds_toArray, List.set_cons_succ, List.set_cons_zero]; go_simp; first | exact ⟨Below.refl _ _, rfl⟩ | exact rfl)
          refine growAll_exact ?_; apply Exists.intro; refine ⟨fun vs xq hd => ?_, ?_⟩; focus ((try simp [Oper.waitsOn, Region.binds, List.filter_cons, List.filter_nil, factAt, depsHold] at hd); simp only [putsFrom, Act.put, List.setIfInBounds_toArray, List.set_cons_succ, List.set_cons_zero]; go_simp; first | exact ⟨Below.refl _ _, rfl⟩ | exact rfl)
          refine growAll_exact ?_; apply Exists.intro; refine ⟨fun vs xq hd => ?_, ?_⟩; focus ((try simp [Oper.waitsOn, Region.binds, List.filter_cons, List.filter_nil, factAt, depsHold] at hd); simp only [putsFrom, Act.put, List.setIfInBounds_toArray, List.set_cons_succ, List.set_cons_zero]; go_simp; first | exact ⟨Below.refl _ _, rfl⟩ | exact rfl)
          refine growAll_exact ?_; apply Exists.intro; refine ⟨fun vs xq hd => ?_, ?_⟩; focus ((try simp [Oper.waitsOn, Region.binds, List.filter_cons, List.filter_nil, factAt, depsHold] at hd); simp only [putsFrom, Act.put, List.setIfInBounds_toArray, List.set_cons_succ, List.set_cons_zero]; go_simp; first | exact ⟨Below.refl _ _, rfl⟩ | exact rfl)
          refine growAll_exact ?_; apply Exists.intro; refine ⟨fun vs xq hd => ?_, ?_⟩; focus ((try simp [Oper.waitsOn, Region.binds, List.filter_cons, List.filter_nil, factAt, depsHold] at hd); simp only [putsFrom, Act.put, List.setIfInBounds_toArray, List.set_cons_succ, List.set_cons_zero]; go_simp; first | exact ⟨Below.refl _ _, rfl⟩ | exact rfl)
          refine growAll_exact ?_; apply Exists.intro; refine ⟨fun vs xq hd => ?_, ?_⟩; focus ((try simp [Oper.waitsOn, Region.binds, List.filter_cons, List.filter_nil, factAt, depsHold] at hd); simp only [putsFrom, Act.put, List.setIfInBounds_toArray, List.set_cons_succ, List.set_cons_zero]; go_simp; first | exact ⟨Below.refl _ _, rfl⟩ | exact rfl)
          refine growAll_exact ?_; apply Exists.intro; refine ⟨fun vs xq hd => ?_, ?_⟩; focus ((try simp [Oper.waitsOn, Region.binds, List.filter_cons, List.filter_nil, factAt, depsHold] at hd); simp only [putsFrom, Act.put, List.setIfInBounds_toArray, List.set_cons_succ, List.set_cons_zero]; go_simp; first | exact ⟨Below.refl _ _, rfl⟩ | exact rfl)
          refine growAll_exact ?_; apply Exists.intro; refine ⟨fun vs xq hd => ?_, ?_⟩; focus ((try simp [Oper.waitsOn, Region.binds, List.filter_cons, List.filter_nil, factAt, depsHold] at hd); simp only [putsFrom, Act.put, List.setIfInBounds_toArray, List.set_cons_succ, List.set_cons_zero]; go_simp; first | exact ⟨Below.refl _ _, rfl⟩ | exact rfl)
          refine growAll_exact ?_; apply Exists.intro; refine ⟨fun vs xq hd => ?_, ?_⟩; focus ((try simp [Oper.waitsOn, Region.binds, List.filter_cons, List.filter_nil, factAt, depsHold] at hd); simp only [putsFrom, Act.put, List.setIfInBounds_toArray, List.set_cons_succ, List.set_cons_zero]; go_simp; first | exact ⟨Below.refl _ _, rfl⟩ | exact rfl | (refine (less_int _ _ _).mono ?_; rintro e w' ⟨rfl, rfl⟩; exact ⟨rfl, Below.refl _ _⟩))
          refine growAll_exact ?_; apply Exists.intro; refine ⟨fun vs xq hd => ?_, ?_⟩; focus ((try simp [Oper.waitsOn, Region.binds, List.filter_cons, List.filter_nil, factAt, depsHold] at hd); simp only [putsFrom, Act.put, List.setIfInBounds_toArray, List.set_cons_succ, List.set_cons_zero]; go_simp; first | exact ⟨Below.refl _ _, rfl⟩ | exact rfl)
          refine growAll_done (by simp only [List.length_append, List.length_cons, List.length_nil]) (fun vs xq hd => ?_)
          simp [depsHold, factAt, List.range, List.range.loop] at hd
          simp only [putsFrom, Act.put, List.setIfInBounds_toArray, List.set_cons_succ, List.set_cons_zero, List.drop_succ_cons, List.drop_zero]
          obtain ⟨_, _, _, _, _, _, _, _, _, _, _, _, _, _, e14⟩ := hd
          simp only [Nat.zero_add, Nat.reduceAdd] at e14 ⊢
          have hg2 := grown_then (below_later wr xq) hg
          have ho2 := Lib.hid (ho.ext (below_later wr xq))
          clear k1 k2 ho hg
          generalize wr.later xq = wq at *
          by_cases hlt : x < y
          · have hlt' : decide (x < y) = true := by simpa using hlt
            clear hlt
            rw [hlt'] at e14
            simp only [e14]
            go_wp2
            have F1 := Lib.hid (fun (c : World) (h : OwnI c base g cap n cs) => h.cell m x hx1.out)
            have F2 := Lib.hid (fun (c : World) (h : OwnI c base g cap n cs) => h.cell (m - 1) y hx2.out)
            refine wp_region_growW 16 15 [] (fun a c => a.grownBy c (some g)) (fun c => wq.grownBy c (some g)) (fun _ _ hb h => grown_then hb h) (grown_self _ _ _ rfl rfl rfl rfl)
              (fun c => OwnI c base g cap n cs) (fun _ _ hb h => h.ext hb) (ho2.out.ext ⟨rfl, rfl, rfl, Nat.le_refl _, fun _ _ => rfl⟩) (by kernel_rfl) (by kernel_rfl) ?_
            simp only [List.take_succ_cons, List.take_zero]
            refine growW_exact (by rfl) ?_
            apply Exists.intro
            refine ⟨fun vs w2 hw hd => ?_, ?_⟩
            · (try simp [Oper.waitsOn, Region.binds, List.filter_cons, List.filter_nil, factAt, depsHold] at hd)
              simp only [putsFrom, Act.put, List.setIfInBounds_toArray, List.set_cons_succ, List.set_cons_zero]
              go_simp
              exact ⟨Below.refl _ _, rfl⟩
            refine growW_exact (by rfl) ?_
            apply Exists.intro
            refine ⟨fun vs w2 hw hd => ?_, ?_⟩
            · (try simp [Oper.waitsOn, Region.binds, List.filter_cons, List.filter_nil, factAt, depsHold] at hd)
              simp only [putsFrom, Act.put, List.setIfInBounds_toArray, List.set_cons_succ, List.set_cons_zero]
              go_simp
              exact ⟨Below.refl _ _, rfl⟩
            refine growW_exact (by rfl) ?_
            apply Exists.intro
            refine ⟨fun vs w2 hw hd => ?_, ?_⟩
            · (try simp [Oper.waitsOn, Region.binds, List.filter_cons, List.filter_nil, factAt, depsHold] at hd)
              simp only [putsFrom, Act.put, List.setIfInBounds_toArray, List.set_cons_succ, List.set_cons_zero]
              go_simp
              exact ⟨Below.refl _ _, rfl⟩
            refine growW_exact (by rfl) ?_
            apply Exists.intro
            refine ⟨fun vs w2 hw hd => ?_, ?_⟩
            · (try simp [Oper.waitsOn, Region.binds, List.filter_cons, List.filter_nil, factAt, depsHold] at hd)
              simp only [putsFrom, Act.put, List.setIfInBounds_toArray, List.set_cons_succ, List.set_cons_zero]
              go_simp
              exact ⟨Below.refl _ _, rfl⟩
            refine growW_exact (by rfl) ?_
            apply Exists.intro
            refine ⟨fun vs w2 hw hd => ?_, ?_⟩
            · (try simp [Oper.waitsOn, Region.binds, List.filter_cons, List.filter_nil, factAt, depsHold] at hd)
              simp only [putsFrom, Act.put, List.setIfInBounds_toArray, List.set_cons_succ, List.set_cons_zero]
              go_simp
              exact ⟨Below.refl _ _, rfl⟩
            refine growW_exact (by rfl) ?_
            apply Exists.intro
            refine ⟨fun vs w2 hw hd => ?_, ?_⟩
            · (try simp [Oper.waitsOn, Region.binds, List.filter_cons, List.filter_nil, factAt, depsHold] at hd)
              simp only [putsFrom, Act.put, List.setIfInBounds_toArray, List.set_cons_succ, List.set_cons_zero]
              go_simp
              exact ⟨Below.refl _ _, rfl⟩
            refine growW_exact (by rfl) ?_
            apply Exists.intro
            refine ⟨fun vs w2 hw hd => ?_, ?_⟩
            · (try simp [Oper.waitsOn, Region.binds, List.filter_cons, List.filter_nil, factAt, depsHold] at hd)
              simp only [putsFrom, Act.put, List.setIfInBounds_toArray, List.set_cons_succ, List.set_cons_zero]
              go_simp
              exact ⟨Below.refl _ _, rfl⟩
            refine growW_exact (by rfl) ?_
            apply Exists.intro
            refine ⟨fun vs w2 hw hd => ?_, ?_⟩
            · (try simp [Oper.waitsOn, Region.binds, List.filter_cons, List.filter_nil, factAt, depsHold] at hd)
              simp only [putsFrom, Act.put, List.setIfInBounds_toArray, List.set_cons_succ, List.set_cons_zero]
              go_simp
              exact ⟨Below.refl _ _, rfl⟩
            refine growW_exact (by rfl) ?_
            apply Exists.intro
            refine ⟨fun vs w2 hw hd => ?_, ?_⟩
            · (try simp [Oper.waitsOn, Region.binds, List.filter_cons, List.filter_nil, factAt, depsHold] at hd)
              simp only [putsFrom, Act.put, List.setIfInBounds_toArray, List.set_cons_succ, List.set_cons_zero]
              go_simp
              exact ⟨Below.refl _ _, rfl⟩
            refine growW_exactI (by rfl) (by kernel_rfl) ?_
            apply Exists.intro
            refine ⟨fun vs w2 hw hi hd => ?_, ?_⟩
            · (try simp [Oper.waitsOn, Region.binds, List.filter_cons, List.filter_nil, factAt, depsHold] at hd)
              have k0 := F2.out w2 hi
              simp only [putsFrom, Act.put, List.setIfInBounds_toArray, List.set_cons_succ, List.set_cons_zero]
              go_simp
              exact ⟨Below.refl _ _, rfl⟩
            refine growW_exact (by rfl) ?_
            apply Exists.intro
            refine ⟨fun vs w2 hw hd => ?_, ?_⟩
            · (try simp [Oper.waitsOn, Region.binds, List.filter_cons, List.filter_nil, factAt, depsHold] at hd)
              simp only [putsFrom, Act.put, List.setIfInBounds_toArray, List.set_cons_succ, List.set_cons_zero]
              go_simp
              exact ⟨Below.refl _ _, rfl⟩
            refine growW_exact (by rfl) ?_
            apply Exists.intro
            refine ⟨fun vs w2 hw hd => ?_, ?_⟩
            · (try simp [Oper.waitsOn, Region.binds, List.filter_cons, List.filter_nil, factAt, depsHold] at hd)
              simp only [putsFrom, Act.put, List.setIfInBounds_toArray, List.set_cons_succ, List.set_cons_zero]
              go_simp
              exact ⟨Below.refl _ _, rfl⟩
            refine growW_exact (by rfl) ?_
            apply Exists.intro
            refine ⟨fun vs w2 hw hd => ?_, ?_⟩
            · (try simp [Oper.waitsOn, Region.binds, List.filter_cons, List.filter_nil, factAt, depsHold] at hd)
              simp only [putsFrom, Act.put, List.setIfInBounds_toArray, List.set_cons_succ, List.set_cons_zero]
              go_simp
              exact ⟨Below.refl _ _, rfl⟩
            refine growW_exactI (by rfl) (by kernel_rfl) ?_
            apply Exists.intro
            refine ⟨fun vs w2 hw hi hd => ?_, ?_⟩
            · (try simp [Oper.waitsOn, Region.binds, List.filter_cons, List.filter_nil, factAt, depsHold] at hd)
              have k0 := F1.out w2 hi
              simp only [putsFrom, Act.put, List.setIfInBounds_toArray, List.set_cons_succ, List.set_cons_zero]
              go_simp
              exact ⟨Below.refl _ _, rfl⟩
            refine growW_exact (by rfl) ?_
            apply Exists.intro
            refine ⟨fun vs w2 hw hd => ?_, ?_⟩
            · (try simp [Oper.waitsOn, Region.binds, List.filter_cons, List.filter_nil, factAt, depsHold] at hd)
              simp only [putsFrom, Act.put, List.setIfInBounds_toArray, List.set_cons_succ, List.set_cons_zero]
              go_simp
              exact ⟨Below.refl _ _, rfl⟩
            refine growW_wild (fun _ w' => OwnI w' base g cap n (cs.set m y)) (fun _ _ _ hb h => h.ext hb) (by rfl) ?_ ?_
            · intro vs w2 hw hi hd
              (try simp [Oper.waitsOn, Region.binds, List.filter_cons, List.filter_nil, factAt, depsHold] at hd)
              simp only [putsFrom, Act.put, List.setIfInBounds_toArray, List.set_cons_succ, List.set_cons_zero]
              have k0 := F1.out w2 hi
              have fz := fun q => hi.1.frozenAt (j := q)
              go_simp
              exact ⟨grown_put1 hw, grown_put1 (grown_self w2 w2 _ rfl rfl rfl rfl), hi.set m y⟩
            refine growW_done rfl (fun vs w7 hw hd => ?_)
            simp [depsHold, factAt, List.range, List.range.loop, List.filter_cons, List.filter_nil] at hd
            simp only [putsFrom, Act.put, List.setIfInBounds_toArray, List.set_cons_succ, List.set_cons_zero, List.drop_succ_cons, List.drop_zero]
            obtain ⟨_, _, e2, _, e4, _, _, _, _, _, _, _, _, e13, _, e15⟩ := hd
            simp only [Nat.zero_add, Nat.reduceAdd] at e2 e4 e13 ⊢
            simp only [e2, e4, e13]
            have hl : m - 1 < (cs.set m y).length := by rw [e15.2]; omega
            have c0 := e15.cell (m - 1) _ (List.getElem?_eq_getElem hl)
            have fz := e15.1.frozenAt (j := m - 1)
            have hs := Lib.hid (e15.set (m - 1) x)
            have hg3 := grown_put1 (a := m - 1) (u := .int .i64 x) (grown_join hg2 hw)
            clear e15 F1 F2 ho2
            go_wp2
            go_roundw
            case rel => exact ⟨m - 1, by go_num, by omega, Lib.hid ⟨hg3, _, hs.out⟩⟩
            case measure => simp [intOf]; omega
          · have hlt' : decide (x < y) = false := by simpa using hlt
            clear hlt
            rw [hlt'] at e14
            simp only [e14]
            go_wp2
            go_roundw
            case rel => exact ⟨k + 1, by go_num, by omega, Lib.hid ⟨hg2, _, ho2.out⟩⟩
            case measure => simp [intOf]; omega
        · have hm0 : m = 0 := by omega
          subst hm0
          obtain ⟨x, -⟩ : ∃ x : Int, x = 0 := ⟨0, rfl⟩
          go_wp2
          refine wp_region_grow_all 15 (by kernel_rfl) (by kernel_rfl) ?_
          simp only [List.take_succ_cons, List.take_zero]
          refine growAll_exact ?_; apply Exists.intro; refine ⟨fun vs xq hd => ?_, ?_⟩; focus ((try simp [Oper.waitsOn, Region.binds, List.filter_cons, List.filter_nil, factAt, depsHold] at hd); simp only [putsFrom, Act.put, List.setIfInBounds_toArray, List.set_cons_succ, List.set_cons_zero]; go_simp; first | exact ⟨Below.refl _ _, rfl⟩ | exact rfl)
          refine growAll_exact ?_; apply Exists.intro; refine ⟨fun vs xq hd => ?_, ?_⟩; focus ((try simp [Oper.waitsOn, Region.binds, List.filter_cons, List.filter_nil, factAt, depsHold] at hd); simp only [putsFrom, Act.put, List.setIfInBounds_toArray, List.set_cons_succ, List.set_cons_zero]; go_simp; first | exact ⟨Below.refl _ _, rfl⟩ | exact rfl)
          refine growAll_exact ?_; apply Exists.intro; refine ⟨fun vs xq hd => ?_, ?_⟩; focus ((try simp [Oper.waitsOn, Region.binds, List.filter_cons, List.filter_nil, factAt, depsHold] at hd); simp only [putsFrom, Act.put, List.setIfInBounds_toArray, List.set_cons_succ, List.set_cons_zero]; go_simp; first | exact ⟨Below.refl _ _, rfl⟩ | exact rfl)
          refine growAll_exact ?_; apply Exists.intro; refine ⟨fun vs xq hd => ?_, ?_⟩; focus ((try simp [Oper.waitsOn, Region.binds, List.filter_cons, List.filter_nil, factAt, depsHold] at hd); simp only [putsFrom, Act.put, List.setIfInBounds_toArray, List.set_cons_succ, List.set_cons_zero]; go_simp; first | exact ⟨Below.refl _ _, rfl⟩ | exact rfl)
          refine growAll_exact ?_; apply Exists.intro; refine ⟨fun vs xq hd => ?_, ?_⟩; focus ((try simp [Oper.waitsOn, Region.binds, List.filter_cons, List.filter_nil, factAt, depsHold] at hd); simp only [putsFrom, Act.put, List.setIfInBounds_toArray, List.set_cons_succ, List.set_cons_zero]; go_simp; first | exact ⟨Below.refl _ _, rfl⟩ | exact rfl)
          refine growAll_exact ?_; apply Exists.intro; refine ⟨fun vs xq hd => ?_, ?_⟩; focus ((try simp [Oper.waitsOn, Region.binds, List.filter_cons, List.filter_nil, factAt, depsHold] at hd); simp only [putsFrom, Act.put, List.setIfInBounds_toArray, List.set_cons_succ, List.set_cons_zero]; go_simp; first | exact ⟨Below.refl _ _, rfl⟩ | exact rfl)
          refine growAll_exact ?_; apply Exists.intro; refine ⟨fun vs xq hd => ?_, ?_⟩; focus ((try simp [Oper.waitsOn, Region.binds, List.filter_cons, List.filter_nil, factAt, depsHold] at hd); simp only [putsFrom, Act.put, List.setIfInBounds_toArray, List.set_cons_succ, List.set_cons_zero]; go_simp; first | exact ⟨Below.refl _ _, rfl⟩ | exact rfl)
          refine growAll_exact ?_; apply Exists.intro; refine ⟨fun vs xq hd => ?_, ?_⟩; focus ((try simp [Oper.waitsOn, Region.binds, List.filter_cons, List.filter_nil, factAt, depsHold] at hd); simp only [putsFrom, Act.put, List.setIfInBounds_toArray, List.set_cons_succ, List.set_cons_zero]; go_simp; first | exact ⟨Below.refl _ _, rfl⟩ | exact rfl)
          refine growAll_exact ?_; apply Exists.intro; refine ⟨fun vs xq hd => ?_, ?_⟩; focus ((try simp [Oper.waitsOn, Region.binds, List.filter_cons, List.filter_nil, factAt, depsHold] at hd); simp only [putsFrom, Act.put, List.setIfInBounds_toArray, List.set_cons_succ, List.set_cons_zero]; go_simp; first | exact ⟨Below.refl _ _, rfl⟩ | exact rfl)
          refine growAll_exact ?_; apply Exists.intro; refine ⟨fun vs xq hd => ?_, ?_⟩; focus ((try simp [Oper.waitsOn, Region.binds, List.filter_cons, List.filter_nil, factAt, depsHold] at hd); simp only [putsFrom, Act.put, List.setIfInBounds_toArray, List.set_cons_succ, List.set_cons_zero]; go_simp; first | exact ⟨Below.refl _ _, rfl⟩ | exact rfl)
          refine growAll_exact ?_; apply Exists.intro; refine ⟨fun vs xq hd => ?_, ?_⟩; focus ((try simp [Oper.waitsOn, Region.binds, List.filter_cons, List.filter_nil, factAt, depsHold] at hd); simp only [putsFrom, Act.put, List.setIfInBounds_toArray, List.set_cons_succ, List.set_cons_zero]; go_simp; first | exact ⟨Below.refl _ _, rfl⟩ | exact rfl)
          refine growAll_exact ?_; apply Exists.intro; refine ⟨fun vs xq hd => ?_, ?_⟩; focus ((try simp [Oper.waitsOn, Region.binds, List.filter_cons, List.filter_nil, factAt, depsHold] at hd); simp only [putsFrom, Act.put, List.setIfInBounds_toArray, List.set_cons_succ, List.set_cons_zero]; go_simp; first | exact ⟨Below.refl _ _, rfl⟩ | exact rfl)
          refine growAll_exact ?_; apply Exists.intro; refine ⟨fun vs xq hd => ?_, ?_⟩; focus ((try simp [Oper.waitsOn, Region.binds, List.filter_cons, List.filter_nil, factAt, depsHold] at hd); simp only [putsFrom, Act.put, List.setIfInBounds_toArray, List.set_cons_succ, List.set_cons_zero]; go_simp; first | exact ⟨Below.refl _ _, rfl⟩ | exact rfl)
          refine growAll_exact ?_; apply Exists.intro; refine ⟨fun vs xq hd => ?_, ?_⟩; focus ((try simp [Oper.waitsOn, Region.binds, List.filter_cons, List.filter_nil, factAt, depsHold] at hd); simp only [putsFrom, Act.put, List.setIfInBounds_toArray, List.set_cons_succ, List.set_cons_zero]; go_simp; first | exact ⟨Below.refl _ _, rfl⟩ | exact rfl | (refine (less_int _ _ _).mono ?_; rintro e w' ⟨rfl, rfl⟩; exact ⟨rfl, Below.refl _ _⟩))
          refine growAll_exact ?_; apply Exists.intro; refine ⟨fun vs xq hd => ?_, ?_⟩; focus ((try simp [Oper.waitsOn, Region.binds, List.filter_cons, List.filter_nil, factAt, depsHold] at hd); simp only [putsFrom, Act.put, List.setIfInBounds_toArray, List.set_cons_succ, List.set_cons_zero]; go_simp; first | exact ⟨Below.refl _ _, rfl⟩ | exact rfl)
          refine growAll_done (by simp only [List.length_append, List.length_cons, List.length_nil]) (fun vs xq hd => ?_)
          simp [depsHold, factAt, List.range, List.range.loop] at hd
          simp only [putsFrom, Act.put, List.setIfInBounds_toArray, List.set_cons_succ, List.set_cons_zero, List.drop_succ_cons, List.drop_zero]
          obtain ⟨_, _, _, _, _, _, _, _, _, _, _, _, _, _, e14⟩ := hd
          simp only [Nat.zero_add, Nat.reduceAdd] at e14 ⊢
          have hg2 := grown_then (below_later wr xq) hg
          have ho2 := Lib.hid (ho.ext (below_later wr xq))
          clear ho hg
          generalize wr.later xq = wq at *
          simp only [e14]
          go_wp2
          go_roundw
          case rel => exact ⟨k + 1, by go_num, by omega, Lib.hid ⟨hg2, _, ho2.out⟩⟩
          case measure => simp [intOf]; omega
    · go_wp2
      exact bodyPost_end (v := .tuple #[]) (by simp [results, Tryz.results91, go_sem]) rfl ⟨⟨_, rfl⟩, H.out.2, H.out.1⟩

end Go.Proofs.YtoibnhkiedpkgaaGreatDoor

namespace Go.Proofs.YtoibnhkiedpkgaaGreatDoor
open Go.RowKit Go.Shelf

set_option maxRecDepth 100000 in
set_option maxHeartbeats 1600000 in
theorem len64_small (w : World) (n : Nat) (hn : n ≤ 5) :
    Calls Tryz.prog 101 #[.int .u64 n] w fun e w' => (∃ k : Int, e = .returned (.int .i64 k)) ∧ w = w' := by
  have hc : n = 0 ∨ n = 1 ∨ n = 2 ∨ n = 3 ∨ n = 4 ∨ n = 5 := by omega
  clear hn
  rcases hc with rfl | rfl | rfl | rfl | rfl | rfl <;>
  · go_enter Tryz.func101, Tryz.ntmps101
    go_wp2
    go_ret
    exact ⟨⟨_, rfl⟩, rfl⟩
set_option maxRecDepth 100000 in
theorem len_small (w : World) (n : Nat) (hn : n ≤ 5) :
    Calls Tryz.prog 76 #[.int .u64 n] w fun e w' => (∃ k : Int, e = .returned (.int .i64 k)) ∧ w = w' := by
  go_enter Tryz.func76, Tryz.ntmps76
  go_wp2_with fail
  refine (len64_small _ n hn).mono ?_
  rintro e w' ⟨⟨k, rfl⟩, rfl⟩
  go_wp2
  go_ret
  exact ⟨⟨_, rfl⟩, rfl⟩

set_option maxRecDepth 100000 in
theorem insertion_nil (w : World) : Calls Tryz.prog 91 #[.slice none 0 0, .int .i64 0, .int .i64 0] w fun e w' => (∃ v, e = .returned v) ∧ w = w' := by
  go_enter Tryz.func91, Tryz.ntmps91
  go_wp2
  go_loopw [6] (fun i wr => i = .int .i64 1 ∧ wr = w) (fun _ _ => 0)
  case atStart => exact ⟨rfl, rfl⟩
  case round =>
    obtain ⟨rfl, rfl⟩ := hrel
    go_wp2
    exact bodyPost_end (v := .tuple #[]) (by simp [results, Tryz.results91, go_sem]) rfl ⟨⟨_, rfl⟩, rfl⟩

set_option maxRecDepth 100000 in
set_option maxHeartbeats 1600000 in
theorem pdq_small (w : World) (v : Value) (n : Nat) (k : Int) (hn : n ≤ 12) (Q : World → Prop) (h : Calls Tryz.prog 91 #[v, .int .i64 0, .int .i64 n] w fun e w' => (∃ v, e = .returned v) ∧ Q w') :
    Calls Tryz.prog 75 #[v, .int .i64 0, .int .i64 n, .int .i64 k] w fun e w' => (∃ v, e = .returned v) ∧ Q w' := by
  have hz : IntKind.i64.wrap ((n : Int) - 0) = (n : Int) := by rw [IntWalk.i64_in _ (by omega)]; omega
  have hz' : IntKind.i64.wrap (n : Int) = (n : Int) := IntWalk.i64_in _ (by omega)
  have hle : (n : Int) ≤ 12 := by omega
  have H := Lib.hid h
  clear h
  go_enter Tryz.func75, Tryz.ntmps75
  go_wp2
  go_loopw [1, 2] (fun a b wr => a = .int .i64 0 ∧ b = .int .i64 n ∧ wr = w) (fun _ _ _ => 0)
  case atStart => exact ⟨rfl, rfl, rfl⟩
  case round =>
    obtain ⟨rfl, rfl, rfl⟩ := hrel
    go_wp2_with fail
    refine H.out.mono ?_
    rintro e w' ⟨⟨u, rfl⟩, hq⟩
    go_wp2
    exact bodyPost_ret (v := .tuple #[]) (by simp [results, Tryz.results75, go_sem]) rfl ⟨⟨_, rfl⟩, hq⟩

set_option maxRecDepth 100000 in
set_option maxHeartbeats 1600000 in
theorem sort_ints (w : World) (base : Nat) (v : Value) (cs : List Int) (hn : cs.length ≤ 5) (hown : w.ownsRow base 3 1 v cs.length (cs.map (Value.int .i64))) :
    Calls Tryz.prog 62 #[v] w fun e w' => (∃ v, e = .returned v) ∧ w.grownBy w' v.ownBlock := by
  have hmain : Calls Tryz.prog 91 #[v, .int .i64 0, .int .i64 (cs.length : Nat)] w fun e w' => (∃ v, e = .returned v) ∧ w.grownBy w' v.ownBlock := by
    rcases hown.2 with ⟨rfl, h0⟩ | ⟨g, cap, cur, rfl, _⟩
    · rw [h0]
      refine (insertion_nil w).mono ?_
      rintro e w' ⟨he, rfl⟩
      exact ⟨he, grown_self _ _ _ rfl rfl rfl rfl⟩
    · refine (insertion_ints w base g cap cs.length cs (by omega) ⟨hown, rfl⟩).mono ?_
      rintro e w' ⟨he, _, hg⟩
      exact ⟨he, hg⟩
  have hsl : ∃ a c, v = .slice a cs.length c := by
    rcases hown.2 with ⟨rfl, h0⟩ | ⟨g, cap, cur, rfl, _⟩
    · exact ⟨none, 0, by rw [h0]⟩
    · exact ⟨_, _, rfl⟩
  obtain ⟨a, c, rfl⟩ := hsl
  have hw : IntKind.u64.wrap (cs.length : Int) = (cs.length : Int) := by
    have hc : cs.length = 0 ∨ cs.length = 1 ∨ cs.length = 2 ∨ cs.length = 3 ∨ cs.length = 4 ∨ cs.length = 5 := by omega
    rcases hc with h | h | h | h | h | h <;> rw [h] <;> rfl
  have HM := Lib.hid (fun k => pdq_small w _ cs.length k (by omega) _ hmain)
  clear hmain hown
  go_enter Tryz.func62, Tryz.ntmps62
  go_wp2_with fail
  refine (len_small _ cs.length hn).mono ?_
  rintro e w' ⟨⟨k, rfl⟩, rfl⟩
  go_wp2_with fail
  refine (HM.out k).mono ?_
  rintro e w' ⟨⟨u, rfl⟩, hg⟩
  go_wp2
  exact bodyPost_end (v := .tuple #[]) (by simp [results, Tryz.results62, go_sem]) rfl ⟨⟨_, rfl⟩, hg⟩

end Go.Proofs.YtoibnhkiedpkgaaGreatDoor

namespace Go.Proofs.YtoibnhkiedpkgaaGreatDoor
open Go.RowKit Go.Shelf
attribute [local go_sem] stepOk Oper.grows Oper.growUpon Oper.wild Oper.wildUpon

theorem mem_take {α : Type} {l : List α} {i : Nat} {y : α} : y ∈ l.take i ↔ ∃ k, k < i ∧ ∃ h : k < l.length, l[k] = y := by
  constructor
  · intro h
    obtain ⟨k, hk, rfl⟩ := List.getElem_of_mem h
    rw [List.length_take] at hk
    exact ⟨k, by omega, by omega, by rw [List.getElem_take]⟩
  · rintro ⟨k, hk, h, rfl⟩
    have hk2 : k < (l.take i).length := by rw [List.length_take]; omega
    have e : (l.take i)[k] = l[k] := List.getElem_take
    rw [← e]
    exact List.getElem_mem hk2
theorem ord_iff (a b c d : Int) : orI (cmpI a b) (cmpI c d) < 0 ↔ a < b ∨ a = b ∧ c < d := by
  unfold orI cmpI
  split <;> split <;> (try split) <;> (try split) <;> omega
theorem note_all (R : List Issue) (N : List Note) (i : Nat) (x : Note) (hR : regCode R = 0) (hw : 0 ≤ x.ways) :
    NoteOk R N i x ↔ NChk1 x ∧ NChk2 x ∧ NChk3 x ∧ NChk4 R x ∧ NChk5 x ∧ NChk6 N i x ∧ NChk7 N i x ∧ NChk8 N i x := by
  have h4 : NoteRef R x ↔ NChk4 R x := by
    unfold NoteRef NChk4 atCode
    rw [if_pos hR]
    by_cases h0 : x.d = 0 ∧ x.l = 0
    · rw [if_pos h0]
      constructor
      · rintro (h | h)
        · exact h.2.2
        · exact absurd h0 h.1
      · intro h; exact .inl ⟨h0.1, h0.2, h⟩
    · rw [if_neg h0]
      by_cases hf : findR R x.d x.l ≠ none
      · rw [if_pos hf]
        exact ⟨fun _ => rfl, fun _ => .inr ⟨h0, hf⟩⟩
      · rw [if_neg hf]
        constructor
        · rintro (h | h)
          · exact absurd ⟨h.1, h.2.1⟩ h0
          · exact absurd h.2 hf
        · intro h; cases h
  have h6 : NoteBack N i x ↔ NChk6 N i x := by
    unfold NoteBack NChk6
    constructor
    · rintro (h | ⟨k, hk, h, e⟩)
      · exact .inl h
      · exact .inr ⟨_, mem_take.2 ⟨k, hk, h, rfl⟩, e⟩
    · rintro (h | ⟨y, hy, e⟩)
      · exact .inl h
      · obtain ⟨k, hk, h, rfl⟩ := mem_take.1 hy
        exact .inr ⟨k, hk, h, e⟩
  have h7 : NoteNew N i x ↔ NChk7 N i x := by
    unfold NoteNew NChk7
    constructor
    · rintro h ⟨y, hy, e⟩
      obtain ⟨k, hk, h2, rfl⟩ := mem_take.1 hy
      exact h k hk h2 e
    · intro h k hk h2 e
      exact h ⟨_, mem_take.2 ⟨k, hk, h2, rfl⟩, e⟩
  have h8 : NoteOrd N i x ↔ NChk8 N i x := by
    unfold NoteOrd NChk8
    exact ⟨fun h h0 h1 => (ord_iff _ _ _ _).2 (h h0 h1), fun h h0 h1 => (ord_iff _ _ _ _).1 (h h0 h1)⟩
  unfold NoteOk
  rw [h4, h6, h7, h8]
  unfold NoteHead NoteUse NChk1 NChk2 NChk3 NChk5 In
  constructor
  · rintro ⟨⟨h1, h2, h3, h4, h5, h6⟩, a, b, c, d, e⟩
    refine ⟨⟨h1, h2⟩, ⟨h3, h6⟩, ⟨⟨⟨by omega, by omega⟩, ⟨by omega, by omega⟩⟩, by omega⟩, a, ?_, d, c, e⟩
    by_cases hl : x.l < 2
    · exact .inr ⟨(b hl).1, by have := (b hl).2; omega⟩
    · exact .inl (by omega)
  · rintro ⟨⟨h1, h2⟩, ⟨h3, h6⟩, ⟨⟨⟨f1, f2⟩, ⟨t1, t2⟩⟩, ft⟩, a, b, d, c, e⟩
    refine ⟨⟨h1, h2, h3, ⟨by omega, by omega⟩, by omega, h6⟩, a, fun hl => ?_, c, d, e⟩
    rcases b with b | b
    · omega
    · exact ⟨b.1, by omega⟩

/-- The numbers of open notes. -/
def opensTo (N : List Note) (k : Nat) : List Int := ((N.take k).filter (fun x => x.sg == 1)).map (·.num)
theorem opensTo_len (N : List Note) (k : Nat) (hk : k ≤ N.length) : (opensTo N k).length = openTo N k := by
  induction k with
  | zero => simp [opensTo, openTo]
  | succ k ih =>
    have hlt : k < N.length := by omega
    have ih := ih (by omega)
    unfold opensTo at ih ⊢
    rw [List.length_map] at ih ⊢
    rw [List.take_succ_eq_append_getElem hlt, List.filter_append, List.length_append, ih, openTo_succ N k hlt]
    by_cases e : N[k].sg = 1 <;> simp [e]
theorem opensTo_succ (N : List Note) (k : Nat) (hk : k < N.length) : opensTo N (k + 1) = opensTo N k ++ (if N[k].sg = 1 then [N[k].num] else []) := by
  unfold opensTo
  rw [List.take_succ_eq_append_getElem hk, List.filter_append, List.map_append]
  by_cases e : N[k].sg = 1 <;> simp [e]

end Go.Proofs.YtoibnhkiedpkgaaGreatDoor
