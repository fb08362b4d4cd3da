/- slices.SortStableFunc at reports that are in order but for the last one. slices.BinarySearch at rising numbers. -/
import Derived.Test.YtoibnhkiedpkgaaGreatDoorM09
import Derived.Test.YtoibnhkiedpkgaaGreatDoorM10
set_option linter.unusedVariables false
set_option linter.unusedSimpArgs false
set_option linter.all false

namespace Go.Proofs.YtoibnhkiedpkgaaGreatDoor
open Go.RowKit Go.Shelf
attribute [local go_sem] stepOk Oper.grows Oper.growUpon

def Sorted (w : World) (base g cap : Nat) (rs : List Report) (r : Report) (e : Ending) (w' : World) : Prop :=
  (∃ v, e = .returned v) ∧ w'.ownsRow base 34 5 (.slice (some ⟨g, 0, none⟩) (rs.length + 1) cap) (rs.length + 1) (flatR (insS rs r)) ∧ w.grownBy w' (some g)

set_option maxRecDepth 100000 in
set_option maxHeartbeats 1600000 in
theorem stableCmp (w : World) (base g cap : Nat) (rs : List Report) (r : Report) (hn : rs.length ≤ 16) (hown : w.ownsRow base 34 5 (.slice (some ⟨g, 0, none⟩) (rs.length + 1) cap) (rs.length + 1) (flatR (rs ++ [r]))) (hrise : Rise rs) :
    Calls Tryz.prog 37 #[.slice (some ⟨g, 0, none⟩) (rs.length + 1) cap, .int .i64 ((rs.length : Int) + 1), .func (.func 20) #[] #[]] w
      (Sorted w base g cap rs r) := by
  have HC := Lib.hid (insertionSort w base g cap rs r (by omega) hown hrise)
  clear hown hrise
  have hl1 : ¬ (20 ≤ (rs.length : Int) + 1) := by omega
  have hl2 : ¬ (20 < (rs.length : Int) + 1) := by omega
  go_enter Tryz.func37, Tryz.ntmps37
  go_wp2
  go_loopw [7, 8] (fun a i wr => a = .int .i64 0 ∧ i = .int .i64 20 ∧ wr = w) (fun _ _ _ => 0)
  case atStart => exact ⟨rfl, rfl, rfl⟩
  case round =>
    obtain ⟨rfl, rfl, rfl⟩ := hrel
    go_wp2_with (go_at_call 54; refine HC.out.mono ?_; rintro e w1 ⟨⟨v, rfl⟩, hown, hg⟩)
    go_loopw [6, 7, 8] (fun b a i wr => b = .int .i64 20 ∧ wr = w1) (fun _ _ _ _ => 0)
    case atStart => exact ⟨rfl, rfl⟩
    case round =>
      obtain ⟨rfl, rfl⟩ := hrel
      go_wp2
      exact bodyPost_end (v := .tuple #[]) (by simp [results, Tryz.results37, go_sem]) rfl ⟨⟨_, rfl⟩, hown, hg⟩

set_option maxRecDepth 100000 in
set_option maxHeartbeats 1600000 in
theorem sortStable (w : World) (base g cap : Nat) (rs : List Report) (r : Report) (hn : rs.length ≤ 16) (hown : w.ownsRow base 34 5 (.slice (some ⟨g, 0, none⟩) (rs.length + 1) cap) (rs.length + 1) (flatR (rs ++ [r]))) (hrise : Rise rs) :
    Calls Tryz.prog 19 #[.slice (some ⟨g, 0, none⟩) (rs.length + 1) cap, .func (.func 20) #[] #[]] w
      (Sorted w base g cap rs r) := by
  have HC := Lib.hid (stableCmp w base g cap rs r (by omega) hown hrise)
  clear hown hrise
  go_enter Tryz.func19, Tryz.ntmps19
  go_wp2_with (go_at_call 37; refine HC.out.mono ?_; rintro e w1 ⟨⟨v, rfl⟩, hown, hg⟩)
  exact bodyPost_end (v := .tuple #[]) (by simp [results, Tryz.results19, go_sem]) rfl ⟨⟨_, rfl⟩, hown, hg⟩

end Go.Proofs.YtoibnhkiedpkgaaGreatDoor

namespace Go.Proofs.YtoibnhkiedpkgaaGreatDoor
open Go.RowKit Go.Shelf

theorem isNaN_sl (w : World) (n : Int) : Calls Tryz.prog 104 #[.int .i64 n] w fun e w' => e = .returned (.bool false) ∧ w = w' := by
  go_enter Tryz.func104, Tryz.ntmps104
  go_wp2
  go_ret
  exact ⟨by simp, rfl⟩
set_option maxHeartbeats 800000 in
theorem less_int (w : World) (a b : Int) : Calls Tryz.prog 97 #[.int .i64 a, .int .i64 b] w fun e w' => e = .returned (.bool (decide (a < b))) ∧ w = w' := by
  by_cases h1 : a < b
  · go_enter Tryz.func97, Tryz.ntmps97
    go_wp2_with (go_at_call 38; refine (isNaN_cmp _ _).mono ?_; rintro e w' ⟨rfl, rfl⟩)
    go_ret
    exact ⟨by simp [h1], rfl⟩
  · go_enter Tryz.func97, Tryz.ntmps97
    go_wp2_with (go_at_call 38; refine (isNaN_cmp _ _).mono ?_; rintro e w' ⟨rfl, rfl⟩)
    go_ret
    exact ⟨by simp [h1], rfl⟩

/-- Numbers that do not fall. -/
def Mount (xs : List Int) : Prop := ∀ i j, (hij : i ≤ j) → (h : j < xs.length) → (xs[i]'(by omega)) ≤ xs[j]

set_option maxRecDepth 100000 in
set_option maxHeartbeats 1600000 in
theorem search_int (w : World) (v : Value) (xs : List Int) (x : Int) (h : Sl AtInt 1 w v xs) (hs : Mount xs) (hlen : xs.length ≤ 1000) :
    Calls Tryz.prog 81 #[v, .int .i64 x] w fun e w' => (∃ i : Nat, e = .returned (.tuple #[.int .i64 i, .bool (decide (x ∈ xs))])) ∧ w = w' := by
  obtain ⟨a, cap, rfl, _⟩ := sl_shape h
  have S := Lib.hid hs
  have HX := Lib.hid (sl_at h).2
  clear hs h
  go_enter Tryz.func81, Tryz.ntmps81
  go_wp2
  go_loopw [7, 8] (fun s7 s8 wr => ∃ lo hi : Nat, s7 = .int .i64 lo ∧ s8 = .int .i64 hi ∧ lo ≤ hi ∧ hi ≤ xs.length ∧ wr = w ∧ Hid ((∀ t, t < lo → (ht : t < xs.length) → xs[t] < x) ∧ (∀ t, hi ≤ t → (ht : t < xs.length) → x ≤ xs[t]))) (fun s7 s8 _ => (intOf s8 - intOf s7).toNat)
  case atStart => exact ⟨0, xs.length, rfl, rfl, Nat.zero_le _, Nat.le_refl _, rfl, Lib.hid ⟨fun t ht => absurd ht (Nat.not_lt_zero _), fun t h1 h2 => absurd h2 (by omega)⟩⟩
  case round =>
    obtain ⟨lo, hi, rfl, rfl, hlh, hin, rfl, I⟩ := hrel
    by_cases hlt : lo < hi
    · have hm : (lo + hi) / 2 < xs.length := by omega
      obtain ⟨b, off, rfl, c0, _⟩ := HX.out ((lo + hi) / 2) hm
      have YL := Lib.hid (fun (hy : xs[(lo + hi) / 2] < x) t (ht : t < (lo + hi) / 2 + 1) (htl : t < xs.length) => show xs[t] < x from by have := S.out t ((lo + hi) / 2) (by omega) hm; omega)
      have YR := Lib.hid (fun (hy : ¬ xs[(lo + hi) / 2] < x) t (ht : (lo + hi) / 2 ≤ t) (htl : t < xs.length) => show x ≤ xs[t] from by have := S.out ((lo + hi) / 2) t ht htl; omega)
      generalize xs[(lo + hi) / 2] = y at *
      unfold Cell at c0
      simp only [Nat.mul_one] at c0
      by_cases hyx : y < x
      · go_wp2_with (go_at_call 97; refine (less_int _ _ _).mono ?_; rintro e w' ⟨rfl, rfl⟩)
        go_roundw
        case rel => exact ⟨(lo + hi) / 2 + 1, hi, by rw [show ((lo : Int) + (hi : Int)) / 2 + 1 = (((lo + hi) / 2 + 1 : Nat) : Int) by omega], rfl, by omega, hin, trivial, Lib.hid ⟨YL.out hyx, I.out.2⟩⟩
        case measure => simp [intOf]; omega
      · go_wp2_with (go_at_call 97; refine (less_int _ _ _).mono ?_; rintro e w' ⟨rfl, rfl⟩)
        go_roundw
        case rel => exact ⟨lo, (lo + hi) / 2, rfl, by rw [show ((lo : Int) + (hi : Int)) / 2 = (((lo + hi) / 2 : Nat) : Int) by omega], by omega, by omega, trivial, Lib.hid ⟨I.out.1, YR.out hyx⟩⟩
        case measure => simp [intOf]; omega
    · obtain rfl : hi = lo := by omega
      by_cases hn : hi < xs.length
      · obtain ⟨b, off, rfl, c0, _⟩ := HX.out hi hn
        unfold Cell at c0
        simp only [Nat.mul_one] at c0
        have hmem : Hid (x ∈ xs ↔ xs[hi] = x) := ⟨fun hx => by
          obtain ⟨j, hj, e⟩ := List.getElem_of_mem hx
          by_cases h1 : j < hi
          · have := I.out.1 j h1 hj; omega
          · have h2 := I.out.2 hi (Nat.le_refl _) hn
            have h3 := S.out hi j (by omega) hj
            omega, fun e => e ▸ List.getElem_mem hn⟩
        generalize xs[hi] = y at *
        by_cases hyx : y = x
        · go_wp2_with (go_at_call 104; refine (isNaN_sl _ _).mono ?_; rintro e w' ⟨rfl, rfl⟩)
          go_ret2
          exact ⟨⟨hi, by rw [decide_eq_true (hmem.out.2 hyx)]; try simp [hyx, hn]⟩, rfl⟩
        · go_wp2_with (go_at_call 104; refine (isNaN_sl _ _).mono ?_; rintro e w' ⟨rfl, rfl⟩)
          go_ret2
          exact ⟨⟨hi, by rw [decide_eq_false (fun h => hyx (hmem.out.1 h))]; try simp [hyx, hn]⟩, rfl⟩
      · have hmem : Hid (x ∉ xs) := fun hx => by
          obtain ⟨j, hj, e⟩ := List.getElem_of_mem hx
          have := I.out.1 j (by omega) hj
          omega
        go_wp2
        go_ret2
        exact ⟨⟨hi, by rw [decide_eq_false hmem.out]; try simp [hn]⟩, rfl⟩

end Go.Proofs.YtoibnhkiedpkgaaGreatDoor
