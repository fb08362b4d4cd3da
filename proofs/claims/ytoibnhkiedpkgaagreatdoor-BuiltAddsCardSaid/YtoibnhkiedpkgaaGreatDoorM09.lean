/- A report put into its place by a stable sort, in plain Lean. A report put among reports: behind those of its number, or ahead of them: both are machines just where its number is new. slices.Clone at the seven kinds of elements: the same list in memory of the call's own. slices.Clone at issues whose lists lie in old memory. slices.IndexFunc and ContainsFunc; 'in' of the four packages. Small functions of the program and of the library. Signs of a comparison. -/
import Derived.WalkSpells
import Derived.Lib.SliceRun
import Derived.Laws.AppendOwnNone
import Derived.Maps.AppendAt
import Derived.Shelf.Abstract
import Derived.Test.YtoibnhkiedpkgaaGreatDoorM01
import Derived.Test.YtoibnhkiedpkgaaGreatDoorM02
import Derived.Test.YtoibnhkiedpkgaaGreatDoorM05
import Derived.Test.YtoibnhkiedpkgaaGreatDoorM06
import Derived.Test.YtoibnhkiedpkgaaGreatDoorM07
set_option linter.unusedVariables false
set_option linter.unusedSimpArgs false
set_option linter.all false

namespace Go.Proofs.YtoibnhkiedpkgaaGreatDoor
open Go.RowKit

theorem flatR_set5 (L : List Report) (k : Nat) (hk : k < L.length) (x : Report) :
    (((((flatR L).set (k * 5) (.int .i64 x.num)).set (k * 5 + 1) (.int .i64 x.m)).set (k * 5 + 2) (.int .i64 x.d)).set (k * 5 + 3) (.int .i64 x.l)).set (k * 5 + 4) (.int .u8 x.k) = flatR (L.set k x) := by
  apply List.ext_getElem?
  intro i
  have hlen := flatR_len L
  have hlen2 := flatR_len (L.set k x)
  rw [List.length_set] at hlen2
  by_cases hi : i < L.length * 5
  · have hq : i / 5 < L.length := by omega
    have hs : i % 5 < 5 := Nat.mod_lt _ (by omega)
    have e := flatR_get (L.set k x) (i / 5) (by simpa using hq) (i % 5) hs
    have e0 := flatR_get L (i / 5) hq (i % 5) hs
    rw [show i / 5 * 5 + i % 5 = i by omega] at e e0
    rw [e]
    have hd : i = i / 5 * 5 + i % 5 := by omega
    generalize hqq : i / 5 = q at *
    generalize hss : i % 5 = s at *
    by_cases hqk : q = k
    · subst hqk
      have e1 : (L.set q x)[q]'(by simpa using hq) = x := List.getElem_set_self _
      rw [e1]
      match s, hs with
      | 0, _ => simp only [List.getElem?_set, List.length_set, hlen]; simp [encR, show i = q * 5 by omega]; omega
      | 1, _ => simp only [List.getElem?_set, List.length_set, hlen]; simp [encR, show i = q * 5 + 1 by omega]; omega
      | 2, _ => simp only [List.getElem?_set, List.length_set, hlen]; simp [encR, show i = q * 5 + 2 by omega]; omega
      | 3, _ => simp only [List.getElem?_set, List.length_set, hlen]; simp [encR, show i = q * 5 + 3 by omega]; omega
      | 4, _ => simp only [List.getElem?_set, List.length_set, hlen]; simp [encR, show i = q * 5 + 4 by omega]; omega
    · have e1 : (L.set k x)[q]'(by simpa using hq) = L[q] := List.getElem_set_ne (Ne.symm hqk) _
      rw [e1, ← e0]
      rw [List.getElem?_set_ne (by omega), List.getElem?_set_ne (by omega), List.getElem?_set_ne (by omega), List.getElem?_set_ne (by omega), List.getElem?_set_ne (by omega)]
  · rw [List.getElem?_eq_none (by simp [hlen]; omega), List.getElem?_eq_none (by omega)]

theorem swap_down (rs : List Report) (r : Report) (j : Nat) (h0 : 0 < j) (hj : j ≤ rs.length) :
    ((rs.take j ++ r :: rs.drop j).set j (rs[j - 1]'(by omega))).set (j - 1) r = rs.take (j - 1) ++ r :: rs.drop (j - 1) := by
  obtain ⟨i, rfl⟩ : ∃ i, j = i + 1 := ⟨j - 1, by omega⟩
  simp only [Nat.add_sub_cancel]
  rw [List.take_succ_eq_append_getElem (by omega), List.append_assoc]
  have hl : (rs.take i).length = i := by rw [List.length_take]; omega
  rw [List.set_append_right _ _ (by omega), hl, List.set_append_right _ _ (by omega), hl]
  have e : rs.drop i = rs[i] :: rs.drop (i + 1) := List.drop_eq_getElem_cons (by omega)
  rw [e]
  simp

/-- A report more, behind all whose number is not greater. -/
def insS (rs : List Report) (r : Report) : List Report := rs.takeWhile (fun x => decide (x.num ≤ r.num)) ++ r :: rs.dropWhile (fun x => decide (x.num ≤ r.num))
theorem insS_at (rs : List Report) (r : Report) (k : Nat) (hk : k ≤ rs.length) (h1 : ∀ j, j < k → (hj : j < rs.length) → rs[j].num ≤ r.num) (h2 : (hk : k < rs.length) → ¬ rs[k].num ≤ r.num) : insS rs r = rs.take k ++ r :: rs.drop k := by
  have h : rs.takeWhile (fun x => decide (x.num ≤ r.num)) = rs.take k ∧ rs.dropWhile (fun x => decide (x.num ≤ r.num)) = rs.drop k := by
    induction rs generalizing k with
    | nil => simp
    | cons x rs ih =>
      cases k with
      | zero =>
        have := h2 (by simp)
        simp at this
        simp [List.takeWhile_cons, List.dropWhile_cons, this]
      | succ k =>
        have hx := h1 0 (by omega) (by simp)
        simp at hx
        obtain ⟨e1, e2⟩ := ih k (by simpa using hk) (fun j hj hjl => by have := h1 (j + 1) (by omega) (by simp; omega); rwa [List.getElem_cons_succ] at this) (fun hk' => by have := h2 (by simp; omega); rwa [List.getElem_cons_succ] at this)
        simp [List.takeWhile_cons, List.dropWhile_cons, hx, e1, e2]
  unfold insS
  rw [h.1, h.2]
/-- Numbers that rise. -/
def Rise (rs : List Report) : Prop := ∀ i, (h : i + 1 < rs.length) → rs[i].num < rs[i + 1].num
theorem rise_le {rs : List Report} (h : Rise rs) : ∀ (d i : Nat) (hi : i + d < rs.length), rs[i].num ≤ (rs[i + d]).num := by
  intro d
  induction d with
  | zero => intro i hi; exact Int.le_refl _
  | succ d ih =>
    intro i hi
    have h1 := ih i (by omega)
    have h2 := h (i + d) (by omega)
    have e : rs[i + (d + 1)] = rs[i + d + 1] := rfl
    rw [e]
    omega

theorem cells_rep {w : World} {base g n cap : Nat} {e : TypeId} {L : List Report} (h : w.ownsRow base e 5 (.slice (some ⟨g, 0, none⟩) n cap) n (flatR L)) (k : Nat) (hk : k < L.length) :
    Cell w g (k * 5) (.int .i64 L[k].num) ∧ Cell w g (k * 5 + 1) (.int .i64 L[k].m) ∧ Cell w g (k * 5 + 2) (.int .i64 L[k].d) ∧ Cell w g (k * 5 + 3) (.int .i64 L[k].l) ∧ Cell w g (k * 5 + 4) (.int .u8 L[k].k) := by
  have key : ∀ j u, j < 5 → (encR L[k])[j]? = some u → Cell w g (k * 5 + j) u := fun j u hj hu => by
    have := h.cells (g := g) rfl (k * 5 + j) u (by rw [flatR_get L k hk j hj]; exact hu)
    rw [add_at] at this
    exact this
  exact ⟨key 0 _ (by omega) rfl, key 1 _ (by omega) rfl, key 2 _ (by omega) rfl, key 3 _ (by omega) rfl, key 4 _ (by omega) rfl⟩
theorem own_put_aux {w : World} {base g n cap : Nat} {e : TypeId} {vs : List Value} (h : w.ownsRow base e 5 (.slice (some ⟨g, 0, none⟩) n cap) n vs) (a b c d f : Nat) (u1 u2 u3 u4 u5 : Value) :
    (((((w.setCell ⟨g, a, none⟩ u1).setCell ⟨g, b, none⟩ u2).setCell ⟨g, c, none⟩ u3).setCell ⟨g, d, none⟩ u4).setCell ⟨g, f, none⟩ u5).ownsRow base e 5 (.slice (some ⟨g, 0, none⟩) n cap) n (((((vs.set a u1).set b u2).set c u3).set d u4).set f u5) :=
  by
  have h1 := (h.stored a u1).1
  have h2 := (h1.stored b u2).1
  have h3 := (h2.stored c u3).1
  have h4 := (h3.stored d u4).1
  have h5 := (h4.stored f u5).1
  exact h5
/-- An element of a row that the call owns is written over. -/
theorem own_put {w : World} {base g n cap : Nat} {e : TypeId} {L : List Report} (h : w.ownsRow base e 5 (.slice (some ⟨g, 0, none⟩) n cap) n (flatR L)) (k : Nat) (hk : k < L.length) (x : Report) :
    (((((w.setCell ⟨g, k * 5, none⟩ (.int .i64 x.num)).setCell ⟨g, k * 5 + 1, none⟩ (.int .i64 x.m)).setCell ⟨g, k * 5 + 2, none⟩ (.int .i64 x.d)).setCell ⟨g, k * 5 + 3, none⟩ (.int .i64 x.l)).setCell ⟨g, k * 5 + 4, none⟩ (.int .u8 x.k)).ownsRow base e 5 (.slice (some ⟨g, 0, none⟩) n cap) n (flatR (L.set k x)) := by
  have h5 := own_put_aux h (k * 5) (k * 5 + 1) (k * 5 + 2) (k * 5 + 3) (k * 5 + 4) (.int .i64 x.num) (.int .i64 x.m) (.int .i64 x.d) (.int .i64 x.l) (.int .u8 x.k)
  rw [flatR_set5 L k hk x] at h5
  exact h5
theorem grown_put1 {w0 w : World} {g a : Nat} {u : Value} (h : w0.grownBy w (some g)) : w0.grownBy (w.setCell ⟨g, a, none⟩ u) (some g) :=
  ⟨Eq.trans rfl h.os, Eq.trans rfl h.tape, Eq.trans rfl h.output, by simpa using h.size, fun k hk hne => by
    have hg : k ≠ g := fun e => hne (by rw [e])
    rw [Below.heap_setCell _ ⟨g, a, none⟩ u k hg]
    exact h.block k hk hne⟩
theorem grown_put {w0 w : World} {g a b c d f : Nat} {u1 u2 u3 u4 u5 : Value} (h : w0.grownBy w (some g)) : w0.grownBy (((((w.setCell ⟨g, a, none⟩ u1).setCell ⟨g, b, none⟩ u2).setCell ⟨g, c, none⟩ u3).setCell ⟨g, d, none⟩ u4).setCell ⟨g, f, none⟩ u5) (some g) :=
  grown_put1 (grown_put1 (grown_put1 (grown_put1 (grown_put1 h))))

end Go.Proofs.YtoibnhkiedpkgaaGreatDoor

namespace Go.Proofs.YtoibnhkiedpkgaaGreatDoor

theorem ins_same (rs : List Report) (r : Report) (h : ∀ x ∈ rs, x.num ≠ r.num) : insS rs r = insR rs r := by
  have e : ∀ x ∈ rs, decide (x.num ≤ r.num) = decide (x.num < r.num) := fun x hx => by
    have := h x hx
    by_cases h1 : x.num < r.num
    · simp [h1]; omega
    · simp [h1]; omega
  have e1 : rs.takeWhile (fun x => decide (x.num ≤ r.num)) = rs.takeWhile (fun x => decide (x.num < r.num)) ∧ rs.dropWhile (fun x => decide (x.num ≤ r.num)) = rs.dropWhile (fun x => decide (x.num < r.num)) := by
    clear h
    induction rs with
    | nil => exact ⟨rfl, rfl⟩
    | cons x rs ih =>
      have e0 := e x (by simp)
      have ih := ih (fun y hy => e y (by simp [hy]))
      simp only [List.takeWhile_cons, List.dropWhile_cons, e0]
      exact ⟨by rw [ih.1], by rw [ih.2]⟩
  unfold insS insR
  rw [e1.1, e1.2]
theorem insS_perm (rs : List Report) (r : Report) : (insS rs r).Perm (r :: rs) := by
  unfold insS
  refine List.perm_middle.trans ?_
  rw [List.takeWhile_append_dropWhile]
theorem insR_perm (rs : List Report) (r : Report) : (insR rs r).Perm (r :: rs) := by
  unfold insR
  refine List.perm_middle.trans ?_
  rw [List.takeWhile_append_dropWhile]
theorem ok_rise {b : Built} (h : BuiltOk b) : Rise b.rs := fun i hi => by
  have := ((h.2.2.2.2.2.2 (i + 1) hi) hi).2 (by omega)
  simpa using this
theorem rise_nodup {rs : List Report} (h : Rise rs) : (rs.map (·.num)).Nodup := by
  rw [List.Nodup, List.pairwise_map, List.pairwise_iff_getElem]
  intro i j hi hj hij
  have h1 := rise_le h (j - (i + 1)) (i + 1) (by omega)
  have h2 := h i (by omega)
  have e : rs[i + 1 + (j - (i + 1))]'(by omega) = rs[j] := by congr 1; omega
  rw [e] at h1
  omega
theorem ins_ok (b : Built) (r : Report) : BuiltOk { b with rs := insS b.rs r } ↔ BuiltOk (addB b r) := by
  by_cases h : ∀ x ∈ b.rs, x.num ≠ r.num
  · rw [ins_same b.rs r h]; rfl
  · have hno : ∀ L : List Report, L.Perm (r :: b.rs) → ¬ (L.map (·.num)).Nodup := fun L hp hn => by
      have := (hp.map (·.num)).nodup_iff.1 hn
      rw [List.map_cons, List.nodup_cons] at this
      refine h fun x hx e => this.1 ?_
      rw [← e]
      exact List.mem_map_of_mem hx
    constructor
    · intro hk
      exact absurd (rise_nodup (ok_rise hk)) (hno _ (insS_perm b.rs r))
    · intro hk
      exact absurd (rise_nodup (ok_rise hk)) (hno _ (insR_perm b.rs r))
theorem ins_eq (b : Built) (r : Report) (h : BuiltOk { b with rs := insS b.rs r }) : insS b.rs r = insR b.rs r := by
  refine ins_same b.rs r fun x hx e => ?_
  have hn := rise_nodup (ok_rise h)
  have := ((insS_perm b.rs r).map (·.num)).nodup_iff.1 hn
  rw [List.map_cons, List.nodup_cons] at this
  refine this.1 ?_
  rw [← e]
  exact List.mem_map_of_mem hx

end Go.Proofs.YtoibnhkiedpkgaaGreatDoor

namespace Go.Proofs.YtoibnhkiedpkgaaGreatDoor
open Go.RowKit

set_option maxHeartbeats 800000 in
theorem clone_int (w : World) (v : Value) (xs : List Int) (h : Sl AtInt 1 w v xs) (hn : xs.length ≤ 100000) :
    Calls Tryz.prog 12 #[v] w fun e w' => ∃ u, e = .returned u ∧ New AtInt 1 3 w.heap.size w' u xs ∧ Below w.heap.size w w' := by
  obtain ⟨i0, hi, hz0, hz1, hz2⟩ := info_parts infoInt
  have q := fun (w : World) (a : Option Addr) (n c : Nat) => Lib.run_eql_slice_nil w _ _ a n c 0 0 Tryz.underlying28
  obtain ⟨a, cap, rfl, _⟩ := sl_shape h
  cases a with
  | none =>
    have hx : xs = [] := by
      cases xs with
      | nil => rfl
      | cons x xs => obtain ⟨b, off, hh, _⟩ := (sl_at h).2 0 (by simp); cases hh
    subst hx
    go_enter Tryz.func12, Tryz.ntmps12
    go_wp2
    go_ret
    exact ⟨_, rfl, New.nil _ _ _ _ _, Below.refl _ _⟩
  | some ad =>
    have key : ∃ news : List Value, news.length = xs.length * 1 ∧ (∀ j u, news[j]? = some u → w.cell? (ad.add j) = some u) ∧ (∀ u ∈ news, u.oneCell' = true) ∧
        (∀ w' base e v, Below w.heap.size w w' → w'.ownsRow base e 1 v xs.length news → Sl AtInt 1 w' v xs) := by
      by_cases hx : xs = []
      · subst hx
        refine ⟨[], by simp, fun j u hj => by simp at hj, fun u hu => by simp at hu, fun w' base e v _ hown => ?_⟩
        rcases hown.2 with ⟨rfl, _⟩ | ⟨g, cap, cur, rfl, _⟩
        · exact ⟨none, 0, rfl, by simp, fun k hk => by simp at hk⟩
        · exact ⟨_, cap, rfl, by simp, fun k hk => by simp at hk⟩
      · obtain ⟨_, hX⟩ := sl_at h
        obtain ⟨b, off, hh, _⟩ := hX 0 (List.length_pos_iff.2 hx)
        cases hh
        have hE : ∀ k (hk : k < xs.length), AtInt w b (off + k * 1) xs[k] := fun k hk => by
          obtain ⟨b', off', hh, he⟩ := hX k hk
          cases hh
          exact he
        obtain ⟨news, hl, hc, h1⟩ := sl_news cells_int xs hE
        refine ⟨news, hl, fun j u hj => ?_, h1, fun w' base e v hb hown => sl_of_row copies_int hb hE hl hc hown⟩
        rw [Addr.add_lit]
        exact hc j u hj
    obtain ⟨news, hl, hc, h1, hS⟩ := key
    have HS := Lib.hid hS
    have HC := Lib.hid hc
    have H1 := Lib.hid h1
    clear h hS hc h1
    go_enter Tryz.func12, Tryz.ntmps12
    go_wp2_with (at_builtin; refine wpList_append_own _ rfl _ _ 28 rfl w.heap.size 3 i0 (.int .i64 0) 1 8 Tryz.underlying28 hi hz0 hz1 hz2 rfl (by decide) _ _ _ rfl (World.ownsRow_made w #[] 0 (Nat.le_refl _) (Nat.zero_le _) rfl) ad xs.length cap news rfl ?qc1 ?qc2 ?qc3 ?qc4 ?qc5 ?qc6 ?_)
    case qc1 => exact hl
    case qc2 => exact fun j u hj => Lib.cell?_alloc_some _ (HC.out j u hj)
    case qc3 => exact H1.out
    case qc4 => unfold maxLen; omega
    case qc5 => omega
    case qc6 => simp
    intro v' w1 hown hgrow hnil
    have hb : Below w.heap.size w w1 := ((Below.refl _ w).alloc (Nat.le_refl _) _).grown hgrow (by simp) (by intro k hk; simp [Value.ownBlock] at hk; omega)
    have hown2 : w1.ownsRow w.heap.size 3 1 v' xs.length news := by simpa using hown
    clear hown hgrow
    go_wp2
    go_ret
    exact ⟨_, rfl, ⟨HS.out _ _ _ _ hb hown2, _, hown2⟩, hb⟩

set_option maxHeartbeats 800000 in
theorem clone_item (w : World) (v : Value) (xs : List Item) (h : Sl AtItem 2 w v xs) (hn : xs.length ≤ 100000) :
    Calls Tryz.prog 17 #[v] w fun e w' => ∃ u, e = .returned u ∧ New AtItem 2 48 w.heap.size w' u xs ∧ Below w.heap.size w w' := by
  obtain ⟨i0, hi, hz0, hz1, hz2⟩ := info_parts infoItem
  have q := fun (w : World) (a : Option Addr) (n c : Nat) => Lib.run_eql_slice_nil w _ _ a n c 0 0 Tryz.underlying43
  obtain ⟨a, cap, rfl, _⟩ := sl_shape h
  cases a with
  | none =>
    have hx : xs = [] := by
      cases xs with
      | nil => rfl
      | cons x xs => obtain ⟨b, off, hh, _⟩ := (sl_at h).2 0 (by simp); cases hh
    subst hx
    go_enter Tryz.func17, Tryz.ntmps17
    go_wp2
    go_ret
    exact ⟨_, rfl, New.nil _ _ _ _ _, Below.refl _ _⟩
  | some ad =>
    have key : ∃ news : List Value, news.length = xs.length * 2 ∧ (∀ j u, news[j]? = some u → w.cell? (ad.add j) = some u) ∧ (∀ u ∈ news, u.oneCell' = true) ∧
        (∀ w' base e v, Below w.heap.size w w' → w'.ownsRow base e 2 v xs.length news → Sl AtItem 2 w' v xs) := by
      by_cases hx : xs = []
      · subst hx
        refine ⟨[], by simp, fun j u hj => by simp at hj, fun u hu => by simp at hu, fun w' base e v _ hown => ?_⟩
        rcases hown.2 with ⟨rfl, _⟩ | ⟨g, cap, cur, rfl, _⟩
        · exact ⟨none, 0, rfl, by simp, fun k hk => by simp at hk⟩
        · exact ⟨_, cap, rfl, by simp, fun k hk => by simp at hk⟩
      · obtain ⟨_, hX⟩ := sl_at h
        obtain ⟨b, off, hh, _⟩ := hX 0 (List.length_pos_iff.2 hx)
        cases hh
        have hE : ∀ k (hk : k < xs.length), AtItem w b (off + k * 2) xs[k] := fun k hk => by
          obtain ⟨b', off', hh, he⟩ := hX k hk
          cases hh
          exact he
        obtain ⟨news, hl, hc, h1⟩ := sl_news cells_item xs hE
        refine ⟨news, hl, fun j u hj => ?_, h1, fun w' base e v hb hown => sl_of_row copies_item hb hE hl hc hown⟩
        rw [Addr.add_lit]
        exact hc j u hj
    obtain ⟨news, hl, hc, h1, hS⟩ := key
    have HS := Lib.hid hS
    have HC := Lib.hid hc
    have H1 := Lib.hid h1
    clear h hS hc h1
    go_enter Tryz.func17, Tryz.ntmps17
    go_wp2_with (at_builtin; refine wpList_append_own _ rfl _ _ 43 rfl w.heap.size 48 i0 (.agg #[.int .i64 0, .int .i64 0]) 2 16 Tryz.underlying43 hi hz0 hz1 hz2 rfl (by decide) _ _ _ rfl (World.ownsRow_made w #[] 0 (Nat.le_refl _) (Nat.zero_le _) rfl) ad xs.length cap news rfl ?qc1 ?qc2 ?qc3 ?qc4 ?qc5 ?qc6 ?_)
    case qc1 => exact hl
    case qc2 => exact fun j u hj => Lib.cell?_alloc_some _ (HC.out j u hj)
    case qc3 => exact H1.out
    case qc4 => unfold maxLen; omega
    case qc5 => omega
    case qc6 => simp
    intro v' w1 hown hgrow hnil
    have hb : Below w.heap.size w w1 := ((Below.refl _ w).alloc (Nat.le_refl _) _).grown hgrow (by simp) (by intro k hk; simp [Value.ownBlock] at hk; omega)
    have hown2 : w1.ownsRow w.heap.size 48 2 v' xs.length news := by simpa using hown
    clear hown hgrow
    go_wp2
    go_ret
    exact ⟨_, rfl, ⟨HS.out _ _ _ _ hb hown2, _, hown2⟩, hb⟩

set_option maxHeartbeats 800000 in
theorem clone_dim (w : World) (v : Value) (xs : List Dim) (h : Sl AtDim 3 w v xs) (hn : xs.length ≤ 100000) :
    Calls Tryz.prog 18 #[v] w fun e w' => ∃ u, e = .returned u ∧ New AtDim 3 50 w.heap.size w' u xs ∧ Below w.heap.size w w' := by
  obtain ⟨i0, hi, hz0, hz1, hz2⟩ := info_parts infoDim
  have q := fun (w : World) (a : Option Addr) (n c : Nat) => Lib.run_eql_slice_nil w _ _ a n c 0 0 Tryz.underlying44
  obtain ⟨a, cap, rfl, _⟩ := sl_shape h
  cases a with
  | none =>
    have hx : xs = [] := by
      cases xs with
      | nil => rfl
      | cons x xs => obtain ⟨b, off, hh, _⟩ := (sl_at h).2 0 (by simp); cases hh
    subst hx
    go_enter Tryz.func18, Tryz.ntmps18
    go_wp2
    go_ret
    exact ⟨_, rfl, New.nil _ _ _ _ _, Below.refl _ _⟩
  | some ad =>
    have key : ∃ news : List Value, news.length = xs.length * 3 ∧ (∀ j u, news[j]? = some u → w.cell? (ad.add j) = some u) ∧ (∀ u ∈ news, u.oneCell' = true) ∧
        (∀ w' base e v, Below w.heap.size w w' → w'.ownsRow base e 3 v xs.length news → Sl AtDim 3 w' v xs) := by
      by_cases hx : xs = []
      · subst hx
        refine ⟨[], by simp, fun j u hj => by simp at hj, fun u hu => by simp at hu, fun w' base e v _ hown => ?_⟩
        rcases hown.2 with ⟨rfl, _⟩ | ⟨g, cap, cur, rfl, _⟩
        · exact ⟨none, 0, rfl, by simp, fun k hk => by simp at hk⟩
        · exact ⟨_, cap, rfl, by simp, fun k hk => by simp at hk⟩
      · obtain ⟨_, hX⟩ := sl_at h
        obtain ⟨b, off, hh, _⟩ := hX 0 (List.length_pos_iff.2 hx)
        cases hh
        have hE : ∀ k (hk : k < xs.length), AtDim w b (off + k * 3) xs[k] := fun k hk => by
          obtain ⟨b', off', hh, he⟩ := hX k hk
          cases hh
          exact he
        obtain ⟨news, hl, hc, h1⟩ := sl_news cells_dim xs hE
        refine ⟨news, hl, fun j u hj => ?_, h1, fun w' base e v hb hown => sl_of_row copies_dim hb hE hl hc hown⟩
        rw [Addr.add_lit]
        exact hc j u hj
    obtain ⟨news, hl, hc, h1, hS⟩ := key
    have HS := Lib.hid hS
    have HC := Lib.hid hc
    have H1 := Lib.hid h1
    clear h hS hc h1
    go_enter Tryz.func18, Tryz.ntmps18
    go_wp2_with (at_builtin; refine wpList_append_own _ rfl _ _ 44 rfl w.heap.size 50 i0 (.agg #[.int .i64 0, .int .i64 0, .int .i64 0]) 3 24 Tryz.underlying44 hi hz0 hz1 hz2 rfl (by decide) _ _ _ rfl (World.ownsRow_made w #[] 0 (Nat.le_refl _) (Nat.zero_le _) rfl) ad xs.length cap news rfl ?qc1 ?qc2 ?qc3 ?qc4 ?qc5 ?qc6 ?_)
    case qc1 => exact hl
    case qc2 => exact fun j u hj => Lib.cell?_alloc_some _ (HC.out j u hj)
    case qc3 => exact H1.out
    case qc4 => unfold maxLen; omega
    case qc5 => omega
    case qc6 => simp
    intro v' w1 hown hgrow hnil
    have hb : Below w.heap.size w w1 := ((Below.refl _ w).alloc (Nat.le_refl _) _).grown hgrow (by simp) (by intro k hk; simp [Value.ownBlock] at hk; omega)
    have hown2 : w1.ownsRow w.heap.size 50 3 v' xs.length news := by simpa using hown
    clear hown hgrow
    go_wp2
    go_ret
    exact ⟨_, rfl, ⟨HS.out _ _ _ _ hb hown2, _, hown2⟩, hb⟩

set_option maxHeartbeats 800000 in
theorem clone_issue (w : World) (v : Value) (xs : List Issue) (h : Sl AtIssue 5 w v xs) (hn : xs.length ≤ 100000) :
    Calls Tryz.prog 15 #[v] w fun e w' => ∃ u, e = .returned u ∧ New AtIssue 5 46 w.heap.size w' u xs ∧ Below w.heap.size w w' := by
  obtain ⟨i0, hi, hz0, hz1, hz2⟩ := info_parts infoIssue
  have q := fun (w : World) (a : Option Addr) (n c : Nat) => Lib.run_eql_slice_nil w _ _ a n c 0 0 Tryz.underlying22
  obtain ⟨a, cap, rfl, _⟩ := sl_shape h
  cases a with
  | none =>
    have hx : xs = [] := by
      cases xs with
      | nil => rfl
      | cons x xs => obtain ⟨b, off, hh, _⟩ := (sl_at h).2 0 (by simp); cases hh
    subst hx
    go_enter Tryz.func15, Tryz.ntmps15
    go_wp2
    go_ret
    exact ⟨_, rfl, New.nil _ _ _ _ _, Below.refl _ _⟩
  | some ad =>
    have key : ∃ news : List Value, news.length = xs.length * 5 ∧ (∀ j u, news[j]? = some u → w.cell? (ad.add j) = some u) ∧ (∀ u ∈ news, u.oneCell' = true) ∧
        (∀ w' base e v, Below w.heap.size w w' → w'.ownsRow base e 5 v xs.length news → Sl AtIssue 5 w' v xs) := by
      by_cases hx : xs = []
      · subst hx
        refine ⟨[], by simp, fun j u hj => by simp at hj, fun u hu => by simp at hu, fun w' base e v _ hown => ?_⟩
        rcases hown.2 with ⟨rfl, _⟩ | ⟨g, cap, cur, rfl, _⟩
        · exact ⟨none, 0, rfl, by simp, fun k hk => by simp at hk⟩
        · exact ⟨_, cap, rfl, by simp, fun k hk => by simp at hk⟩
      · obtain ⟨_, hX⟩ := sl_at h
        obtain ⟨b, off, hh, _⟩ := hX 0 (List.length_pos_iff.2 hx)
        cases hh
        have hE : ∀ k (hk : k < xs.length), AtIssue w b (off + k * 5) xs[k] := fun k hk => by
          obtain ⟨b', off', hh, he⟩ := hX k hk
          cases hh
          exact he
        obtain ⟨news, hl, hc, h1⟩ := sl_news cells_issue xs hE
        refine ⟨news, hl, fun j u hj => ?_, h1, fun w' base e v hb hown => sl_of_row copies_issue hb hE hl hc hown⟩
        rw [Addr.add_lit]
        exact hc j u hj
    obtain ⟨news, hl, hc, h1, hS⟩ := key
    have HS := Lib.hid hS
    have HC := Lib.hid hc
    have H1 := Lib.hid h1
    clear h hS hc h1
    go_enter Tryz.func15, Tryz.ntmps15
    go_wp2_with (at_builtin; refine wpList_append_own _ rfl _ _ 22 rfl w.heap.size 46 i0 (.agg #[.int .i64 0, .int .i64 0, .int .u8 0, .slice none 0 0, .slice none 0 0]) 5 72 Tryz.underlying22 hi hz0 hz1 hz2 rfl (by decide) _ _ _ rfl (World.ownsRow_made w #[] 0 (Nat.le_refl _) (Nat.zero_le _) rfl) ad xs.length cap news rfl ?qc1 ?qc2 ?qc3 ?qc4 ?qc5 ?qc6 ?_)
    case qc1 => exact hl
    case qc2 => exact fun j u hj => Lib.cell?_alloc_some _ (HC.out j u hj)
    case qc3 => exact H1.out
    case qc4 => unfold maxLen; omega
    case qc5 => omega
    case qc6 => simp
    intro v' w1 hown hgrow hnil
    have hb : Below w.heap.size w w1 := ((Below.refl _ w).alloc (Nat.le_refl _) _).grown hgrow (by simp) (by intro k hk; simp [Value.ownBlock] at hk; omega)
    have hown2 : w1.ownsRow w.heap.size 46 5 v' xs.length news := by simpa using hown
    clear hown hgrow
    go_wp2
    go_ret
    exact ⟨_, rfl, ⟨HS.out _ _ _ _ hb hown2, _, hown2⟩, hb⟩

set_option maxHeartbeats 800000 in
theorem clone_note (w : World) (v : Value) (xs : List Note) (h : Sl AtNote 10 w v xs) (hn : xs.length ≤ 100000) :
    Calls Tryz.prog 16 #[v] w fun e w' => ∃ u, e = .returned u ∧ New AtNote 10 52 w.heap.size w' u xs ∧ Below w.heap.size w w' := by
  obtain ⟨i0, hi, hz0, hz1, hz2⟩ := info_parts infoNote
  have q := fun (w : World) (a : Option Addr) (n c : Nat) => Lib.run_eql_slice_nil w _ _ a n c 0 0 Tryz.underlying25
  obtain ⟨a, cap, rfl, _⟩ := sl_shape h
  cases a with
  | none =>
    have hx : xs = [] := by
      cases xs with
      | nil => rfl
      | cons x xs => obtain ⟨b, off, hh, _⟩ := (sl_at h).2 0 (by simp); cases hh
    subst hx
    go_enter Tryz.func16, Tryz.ntmps16
    go_wp2
    go_ret
    exact ⟨_, rfl, New.nil _ _ _ _ _, Below.refl _ _⟩
  | some ad =>
    have key : ∃ news : List Value, news.length = xs.length * 10 ∧ (∀ j u, news[j]? = some u → w.cell? (ad.add j) = some u) ∧ (∀ u ∈ news, u.oneCell' = true) ∧
        (∀ w' base e v, Below w.heap.size w w' → w'.ownsRow base e 10 v xs.length news → Sl AtNote 10 w' v xs) := by
      by_cases hx : xs = []
      · subst hx
        refine ⟨[], by simp, fun j u hj => by simp at hj, fun u hu => by simp at hu, fun w' base e v _ hown => ?_⟩
        rcases hown.2 with ⟨rfl, _⟩ | ⟨g, cap, cur, rfl, _⟩
        · exact ⟨none, 0, rfl, by simp, fun k hk => by simp at hk⟩
        · exact ⟨_, cap, rfl, by simp, fun k hk => by simp at hk⟩
      · obtain ⟨_, hX⟩ := sl_at h
        obtain ⟨b, off, hh, _⟩ := hX 0 (List.length_pos_iff.2 hx)
        cases hh
        have hE : ∀ k (hk : k < xs.length), AtNote w b (off + k * 10) xs[k] := fun k hk => by
          obtain ⟨b', off', hh, he⟩ := hX k hk
          cases hh
          exact he
        obtain ⟨news, hl, hc, h1⟩ := sl_news cells_note xs hE
        refine ⟨news, hl, fun j u hj => ?_, h1, fun w' base e v hb hown => sl_of_row copies_note hb hE hl hc hown⟩
        rw [Addr.add_lit]
        exact hc j u hj
    obtain ⟨news, hl, hc, h1, hS⟩ := key
    have HS := Lib.hid hS
    have HC := Lib.hid hc
    have H1 := Lib.hid h1
    clear h hS hc h1
    go_enter Tryz.func16, Tryz.ntmps16
    go_wp2_with (at_builtin; refine wpList_append_own _ rfl _ _ 25 rfl w.heap.size 52 i0 (.agg #[.int .i64 0, .int .i64 0, .int .u8 0, .int .i64 0, .int .i64 0, .int .i64 0, .int .i64 0, .int .i64 0, .bool false, .int .u8 0]) 10 72 Tryz.underlying25 hi hz0 hz1 hz2 rfl (by decide) _ _ _ rfl (World.ownsRow_made w #[] 0 (Nat.le_refl _) (Nat.zero_le _) rfl) ad xs.length cap news rfl ?qc1 ?qc2 ?qc3 ?qc4 ?qc5 ?qc6 ?_)
    case qc1 => exact hl
    case qc2 => exact fun j u hj => Lib.cell?_alloc_some _ (HC.out j u hj)
    case qc3 => exact H1.out
    case qc4 => unfold maxLen; omega
    case qc5 => omega
    case qc6 => simp
    intro v' w1 hown hgrow hnil
    have hb : Below w.heap.size w w1 := ((Below.refl _ w).alloc (Nat.le_refl _) _).grown hgrow (by simp) (by intro k hk; simp [Value.ownBlock] at hk; omega)
    have hown2 : w1.ownsRow w.heap.size 52 10 v' xs.length news := by simpa using hown
    clear hown hgrow
    go_wp2
    go_ret
    exact ⟨_, rfl, ⟨HS.out _ _ _ _ hb hown2, _, hown2⟩, hb⟩

set_option maxHeartbeats 800000 in
theorem clone_heap (w : World) (v : Value) (xs : List Heap) (h : Sl AtHeap 4 w v xs) (hn : xs.length ≤ 100000) :
    Calls Tryz.prog 13 #[v] w fun e w' => ∃ u, e = .returned u ∧ New AtHeap 4 56 w.heap.size w' u xs ∧ Below w.heap.size w w' := by
  obtain ⟨i0, hi, hz0, hz1, hz2⟩ := info_parts infoHeap
  have q := fun (w : World) (a : Option Addr) (n c : Nat) => Lib.run_eql_slice_nil w _ _ a n c 0 0 Tryz.underlying29
  obtain ⟨a, cap, rfl, _⟩ := sl_shape h
  cases a with
  | none =>
    have hx : xs = [] := by
      cases xs with
      | nil => rfl
      | cons x xs => obtain ⟨b, off, hh, _⟩ := (sl_at h).2 0 (by simp); cases hh
    subst hx
    go_enter Tryz.func13, Tryz.ntmps13
    go_wp2
    go_ret
    exact ⟨_, rfl, New.nil _ _ _ _ _, Below.refl _ _⟩
  | some ad =>
    have key : ∃ news : List Value, news.length = xs.length * 4 ∧ (∀ j u, news[j]? = some u → w.cell? (ad.add j) = some u) ∧ (∀ u ∈ news, u.oneCell' = true) ∧
        (∀ w' base e v, Below w.heap.size w w' → w'.ownsRow base e 4 v xs.length news → Sl AtHeap 4 w' v xs) := by
      by_cases hx : xs = []
      · subst hx
        refine ⟨[], by simp, fun j u hj => by simp at hj, fun u hu => by simp at hu, fun w' base e v _ hown => ?_⟩
        rcases hown.2 with ⟨rfl, _⟩ | ⟨g, cap, cur, rfl, _⟩
        · exact ⟨none, 0, rfl, by simp, fun k hk => by simp at hk⟩
        · exact ⟨_, cap, rfl, by simp, fun k hk => by simp at hk⟩
      · obtain ⟨_, hX⟩ := sl_at h
        obtain ⟨b, off, hh, _⟩ := hX 0 (List.length_pos_iff.2 hx)
        cases hh
        have hE : ∀ k (hk : k < xs.length), AtHeap w b (off + k * 4) xs[k] := fun k hk => by
          obtain ⟨b', off', hh, he⟩ := hX k hk
          cases hh
          exact he
        obtain ⟨news, hl, hc, h1⟩ := sl_news cells_heap xs hE
        refine ⟨news, hl, fun j u hj => ?_, h1, fun w' base e v hb hown => sl_of_row copies_heap hb hE hl hc hown⟩
        rw [Addr.add_lit]
        exact hc j u hj
    obtain ⟨news, hl, hc, h1, hS⟩ := key
    have HS := Lib.hid hS
    have HC := Lib.hid hc
    have H1 := Lib.hid h1
    clear h hS hc h1
    go_enter Tryz.func13, Tryz.ntmps13
    go_wp2_with (at_builtin; refine wpList_append_own _ rfl _ _ 29 rfl w.heap.size 56 i0 (.agg #[.int .i64 0, .int .i64 0, .int .i64 0, .int .i64 0]) 4 32 Tryz.underlying29 hi hz0 hz1 hz2 rfl (by decide) _ _ _ rfl (World.ownsRow_made w #[] 0 (Nat.le_refl _) (Nat.zero_le _) rfl) ad xs.length cap news rfl ?qc1 ?qc2 ?qc3 ?qc4 ?qc5 ?qc6 ?_)
    case qc1 => exact hl
    case qc2 => exact fun j u hj => Lib.cell?_alloc_some _ (HC.out j u hj)
    case qc3 => exact H1.out
    case qc4 => unfold maxLen; omega
    case qc5 => omega
    case qc6 => simp
    intro v' w1 hown hgrow hnil
    have hb : Below w.heap.size w w1 := ((Below.refl _ w).alloc (Nat.le_refl _) _).grown hgrow (by simp) (by intro k hk; simp [Value.ownBlock] at hk; omega)
    have hown2 : w1.ownsRow w.heap.size 56 4 v' xs.length news := by simpa using hown
    clear hown hgrow
    go_wp2
    go_ret
    exact ⟨_, rfl, ⟨HS.out _ _ _ _ hb hown2, _, hown2⟩, hb⟩

set_option maxHeartbeats 800000 in
theorem clone_report (w : World) (v : Value) (xs : List Report) (h : Sl AtReport 5 w v xs) (hn : xs.length ≤ 100000) :
    Calls Tryz.prog 14 #[v] w fun e w' => ∃ u, e = .returned u ∧ New AtReport 5 34 w.heap.size w' u xs ∧ Below w.heap.size w w' := by
  obtain ⟨i0, hi, hz0, hz1, hz2⟩ := info_parts infoReport
  have q := fun (w : World) (a : Option Addr) (n c : Nat) => Lib.run_eql_slice_nil w _ _ a n c 0 0 Tryz.underlying30
  obtain ⟨a, cap, rfl, _⟩ := sl_shape h
  cases a with
  | none =>
    have hx : xs = [] := by
      cases xs with
      | nil => rfl
      | cons x xs => obtain ⟨b, off, hh, _⟩ := (sl_at h).2 0 (by simp); cases hh
    subst hx
    go_enter Tryz.func14, Tryz.ntmps14
    go_wp2
    go_ret
    exact ⟨_, rfl, New.nil _ _ _ _ _, Below.refl _ _⟩
  | some ad =>
    have key : ∃ news : List Value, news.length = xs.length * 5 ∧ (∀ j u, news[j]? = some u → w.cell? (ad.add j) = some u) ∧ (∀ u ∈ news, u.oneCell' = true) ∧
        (∀ w' base e v, Below w.heap.size w w' → w'.ownsRow base e 5 v xs.length news → Sl AtReport 5 w' v xs) := by
      by_cases hx : xs = []
      · subst hx
        refine ⟨[], by simp, fun j u hj => by simp at hj, fun u hu => by simp at hu, fun w' base e v _ hown => ?_⟩
        rcases hown.2 with ⟨rfl, _⟩ | ⟨g, cap, cur, rfl, _⟩
        · exact ⟨none, 0, rfl, by simp, fun k hk => by simp at hk⟩
        · exact ⟨_, cap, rfl, by simp, fun k hk => by simp at hk⟩
      · obtain ⟨_, hX⟩ := sl_at h
        obtain ⟨b, off, hh, _⟩ := hX 0 (List.length_pos_iff.2 hx)
        cases hh
        have hE : ∀ k (hk : k < xs.length), AtReport w b (off + k * 5) xs[k] := fun k hk => by
          obtain ⟨b', off', hh, he⟩ := hX k hk
          cases hh
          exact he
        obtain ⟨news, hl, hc, h1⟩ := sl_news cells_report xs hE
        refine ⟨news, hl, fun j u hj => ?_, h1, fun w' base e v hb hown => sl_of_row copies_report hb hE hl hc hown⟩
        rw [Addr.add_lit]
        exact hc j u hj
    obtain ⟨news, hl, hc, h1, hS⟩ := key
    have HS := Lib.hid hS
    have HC := Lib.hid hc
    have H1 := Lib.hid h1
    clear h hS hc h1
    go_enter Tryz.func14, Tryz.ntmps14
    go_wp2_with (at_builtin; refine wpList_append_own _ rfl _ _ 30 rfl w.heap.size 34 i0 (.agg #[.int .i64 0, .int .i64 0, .int .i64 0, .int .i64 0, .int .u8 0]) 5 40 Tryz.underlying30 hi hz0 hz1 hz2 rfl (by decide) _ _ _ rfl (World.ownsRow_made w #[] 0 (Nat.le_refl _) (Nat.zero_le _) rfl) ad xs.length cap news rfl ?qc1 ?qc2 ?qc3 ?qc4 ?qc5 ?qc6 ?_)
    case qc1 => exact hl
    case qc2 => exact fun j u hj => Lib.cell?_alloc_some _ (HC.out j u hj)
    case qc3 => exact H1.out
    case qc4 => unfold maxLen; omega
    case qc5 => omega
    case qc6 => simp
    intro v' w1 hown hgrow hnil
    have hb : Below w.heap.size w w1 := ((Below.refl _ w).alloc (Nat.le_refl _) _).grown hgrow (by simp) (by intro k hk; simp [Value.ownBlock] at hk; omega)
    have hown2 : w1.ownsRow w.heap.size 34 5 v' xs.length news := by simpa using hown
    clear hown hgrow
    go_wp2
    go_ret
    exact ⟨_, rfl, ⟨HS.out _ _ _ _ hb hown2, _, hown2⟩, hb⟩

end Go.Proofs.YtoibnhkiedpkgaaGreatDoor

namespace Go.Proofs.YtoibnhkiedpkgaaGreatDoor
open Go.RowKit

/-- It lies below block b0. -/
def Lo {α : Type} (b0 : Nat) (E : World → Nat → Nat → α → Prop) : World → Nat → Nat → α → Prop := fun w b o x => b < b0 ∧ E w b o x
theorem stays_lo {α : Type} {b0 : Nat} {E : World → Nat → Nat → α → Prop} (hE : Stays E) : Stays (Lo b0 E) := fun w w' b o x hb h => ⟨h.1, hE _ _ _ _ _ hb h.2⟩
theorem sl_lo {α : Type} {b0 sz : Nat} {E : World → Nat → Nat → α → Prop} {w w' : World} {v : Value} {xs : List α} (hE : Local E) (h : Sl (Lo b0 E) sz w v xs) (hs : ∀ b, b < b0 → w'.heap[b]? = w.heap[b]?) : Sl (Lo b0 E) sz w' v xs :=
  sl_to (fun b o x h => ⟨h.1, hE _ _ _ _ _ (hs b h.1) h.2⟩) h
theorem sl_unlo {α : Type} {b0 sz : Nat} {E : World → Nat → Nat → α → Prop} {w : World} {v : Value} {xs : List α} (h : Sl (Lo b0 E) sz w v xs) : Sl E sz w v xs := sl_map (fun _ _ _ h => h.2) h
def AtIssueB (b0 : Nat) (w : World) (b o : Nat) (x : Issue) : Prop :=
  (Cell w b o (.int .i64 x.d) ∧ Cell w b (o + 1) (.int .i64 x.l) ∧ Cell w b (o + 2) (.int .u8 x.k)) ∧ (I64 x.d ∧ I64 x.l ∧ U8 x.k) ∧
  ∃ vi vd, Cell w b (o + 3) vi ∧ Cell w b (o + 4) vd ∧ Sl (Lo b0 AtItem) 2 w vi x.items ∧ Sl (Lo b0 AtDim) 3 w vd x.dims
theorem copies_issueB (b0 : Nat) : Copies (AtIssueB b0) 5 := fun w w' b o b' o' x hb hc ⟨⟨h0, h1, h2⟩, hr, vi, vd, h3, h4, h5, h6⟩ =>
  ⟨⟨hc 0 _ (by omega) h0, hc 1 _ (by omega) h1, hc 2 _ (by omega) h2⟩, hr, vi, vd, hc 3 _ (by omega) h3, hc 4 _ (by omega) h4, sl_ext (stays_lo stays_item) hb h5, sl_ext (stays_lo stays_dim) hb h6⟩
theorem cells_issueB (b0 : Nat) : HasCells (AtIssueB b0) 5 := fun w b o x ⟨⟨h0, h1, h2⟩, _, vi, vd, h3, h4, h5, h6⟩ j hj => by
  obtain ⟨a, cap, rfl, _⟩ := sl_shape h5
  obtain ⟨a', cap', rfl, _⟩ := sl_shape h6
  match j, hj with
  | 0, _ => exact ⟨_, h0, rfl⟩
  | 1, _ => exact ⟨_, h1, rfl⟩
  | 2, _ => exact ⟨_, h2, rfl⟩
  | 3, _ => exact ⟨_, h3, rfl⟩
  | 4, _ => exact ⟨_, h4, rfl⟩
/-- A slice whose elements can be read lies in what is there. -/
theorem sl_in {α : Type} {E : World → Nat → Nat → α → Prop} {sz : Nat} {w : World} {v : Value} {xs : List α} (hE : ∀ b o x, E w b o x → b < w.heap.size) (h : Sl E sz w v xs) : Sl (Lo w.heap.size E) sz w v xs := sl_map (fun b o x h => ⟨hE b o x h, h⟩) h
theorem issue_lo {w : World} {v : Value} {R : List Issue} (h : Sl AtIssue 5 w v R) : Sl (AtIssueB w.heap.size) 5 w v R :=
  sl_map (fun b o x ⟨h1, h2, vi, vd, h3, h4, h5, h6⟩ => ⟨h1, h2, vi, vd, h3, h4, sl_in (fun _ _ _ h => cell_lt h.1.1) h5, sl_in (fun _ _ _ h => cell_lt h.1.1) h6⟩) h

set_option maxHeartbeats 800000 in
theorem clone_issueB (b0 : Nat) (w : World) (v : Value) (xs : List Issue) (h : Sl (AtIssueB b0) 5 w v xs) (hn : xs.length ≤ 100000) :
    Calls Tryz.prog 15 #[v] w fun e w' => ∃ u, e = .returned u ∧ New (AtIssueB b0) 5 46 w.heap.size w' u xs ∧ Below w.heap.size w w' := by
  obtain ⟨i0, hi, hz0, hz1, hz2⟩ := info_parts infoIssue
  have q := fun (w : World) (a : Option Addr) (n c : Nat) => Lib.run_eql_slice_nil w _ _ a n c 0 0 Tryz.underlying22
  obtain ⟨a, cap, rfl, _⟩ := sl_shape h
  cases a with
  | none =>
    have hx : xs = [] := by
      cases xs with
      | nil => rfl
      | cons x xs => obtain ⟨b, off, hh, _⟩ := (sl_at h).2 0 (by simp); cases hh
    subst hx
    go_enter Tryz.func15, Tryz.ntmps15
    go_wp2
    go_ret
    exact ⟨_, rfl, New.nil _ _ _ _ _, Below.refl _ _⟩
  | some ad =>
    have key : ∃ news : List Value, news.length = xs.length * 5 ∧ (∀ j u, news[j]? = some u → w.cell? (ad.add j) = some u) ∧ (∀ u ∈ news, u.oneCell' = true) ∧
        (∀ w' base e v, Below w.heap.size w w' → w'.ownsRow base e 5 v xs.length news → Sl (AtIssueB b0) 5 w' v xs) := by
      by_cases hx : xs = []
      · subst hx
        refine ⟨[], by simp, fun j u hj => by simp at hj, fun u hu => by simp at hu, fun w' base e v _ hown => ?_⟩
        rcases hown.2 with ⟨rfl, _⟩ | ⟨g, cap, cur, rfl, _⟩
        · exact ⟨none, 0, rfl, by simp, fun k hk => by simp at hk⟩
        · exact ⟨_, cap, rfl, by simp, fun k hk => by simp at hk⟩
      · obtain ⟨_, hX⟩ := sl_at h
        obtain ⟨b, off, hh, _⟩ := hX 0 (List.length_pos_iff.2 hx)
        cases hh
        have hE : ∀ k (hk : k < xs.length), AtIssueB b0 w b (off + k * 5) xs[k] := fun k hk => by
          obtain ⟨b', off', hh, he⟩ := hX k hk
          cases hh
          exact he
        obtain ⟨news, hl, hc, h1⟩ := sl_news (cells_issueB b0) xs hE
        refine ⟨news, hl, fun j u hj => ?_, h1, fun w' base e v hb hown => sl_of_row (copies_issueB b0) hb hE hl hc hown⟩
        rw [Addr.add_lit]
        exact hc j u hj
    obtain ⟨news, hl, hc, h1, hS⟩ := key
    have HS := Lib.hid hS
    have HC := Lib.hid hc
    have H1 := Lib.hid h1
    clear h hS hc h1
    go_enter Tryz.func15, Tryz.ntmps15
    go_wp2_with (at_builtin; refine wpList_append_own _ rfl _ _ 22 rfl w.heap.size 46 i0 (.agg #[.int .i64 0, .int .i64 0, .int .u8 0, .slice none 0 0, .slice none 0 0]) 5 72 Tryz.underlying22 hi hz0 hz1 hz2 rfl (by decide) _ _ _ rfl (World.ownsRow_made w #[] 0 (Nat.le_refl _) (Nat.zero_le _) rfl) ad xs.length cap news rfl ?qc1 ?qc2 ?qc3 ?qc4 ?qc5 ?qc6 ?_)
    case qc1 => exact hl
    case qc2 => exact fun j u hj => Lib.cell?_alloc_some _ (HC.out j u hj)
    case qc3 => exact H1.out
    case qc4 => unfold maxLen; omega
    case qc5 => omega
    case qc6 => simp
    intro v' w1 hown hgrow hnil
    have hb : Below w.heap.size w w1 := ((Below.refl _ w).alloc (Nat.le_refl _) _).grown hgrow (by simp) (by intro k hk; simp [Value.ownBlock] at hk; omega)
    have hown2 : w1.ownsRow w.heap.size 46 5 v' xs.length news := by simpa using hown
    clear hown hgrow
    go_wp2
    go_ret
    exact ⟨_, rfl, ⟨HS.out _ _ _ _ hb hown2, _, hown2⟩, hb⟩


theorem stays_issueB {b0 : Nat} : Stays (AtIssueB b0) := fun _ _ _ _ _ hb ⟨⟨h1, h2, h3⟩, hr, vi, vd, h4, h5, h6, h7⟩ =>
  ⟨⟨cell_ext hb h1, cell_ext hb h2, cell_ext hb h3⟩, hr, vi, vd, cell_ext hb h4, cell_ext hb h5, sl_ext (stays_lo stays_item) hb h6, sl_ext (stays_lo stays_dim) hb h7⟩

/-- The cells of a row of issues of which the first k have lists in new memory, the others in old memory. -/
def IssRowK (base b0 k : Nat) (w : World) (cs : List Value) (xs : List Issue) : Prop :=
  cs.length = xs.length * 5 ∧ ∀ j (hj : j < xs.length), (I64 xs[j].d ∧ I64 xs[j].l ∧ U8 xs[j].k) ∧ ∃ vi vd, cs[j * 5]? = some (.int .i64 xs[j].d) ∧ cs[j * 5 + 1]? = some (.int .i64 xs[j].l) ∧ cs[j * 5 + 2]? = some (.int .u8 xs[j].k) ∧
    cs[j * 5 + 3]? = some vi ∧ cs[j * 5 + 4]? = some vd ∧ (j < k → Sl (Fr base 48 AtItem) 2 w vi xs[j].items ∧ Sl (Fr base 50 AtDim) 3 w vd xs[j].dims) ∧
    (k ≤ j → Sl (Lo b0 AtItem) 2 w vi xs[j].items ∧ Sl (Lo b0 AtDim) 3 w vd xs[j].dims)
theorem issRowK_row {base b0 k : Nat} {w : World} {cs : List Value} {xs : List Issue} (h : IssRowK base b0 k w cs xs) (hk : xs.length ≤ k) : IssRow base w cs xs := by
  obtain ⟨hl, h⟩ := h
  refine ⟨hl, fun j hj => ?_⟩
  obtain ⟨h0, vi, vd, h1, h2, h3, h4, h5, h6, _⟩ := h j hj
  exact ⟨h0, vi, vd, h1, h2, h3, h4, h5, (h6 (by omega)).1, (h6 (by omega)).2⟩
theorem issRowK_same {base b0 k : Nat} {w w' : World} {cs : List Value} {xs : List Issue} (hi : SameAt base 48 w w') (hd : SameAt base 50 w w') (hs : ∀ b, b < b0 → w'.heap[b]? = w.heap[b]?) (h : IssRowK base b0 k w cs xs) : IssRowK base b0 k w' cs xs := by
  obtain ⟨hl, h⟩ := h
  refine ⟨hl, fun j hj => ?_⟩
  obtain ⟨h0, vi, vd, h1, h2, h3, h4, h5, h6, h7⟩ := h j hj
  exact ⟨h0, vi, vd, h1, h2, h3, h4, h5, fun hk => ⟨sl_same local_item hi (h6 hk).1, sl_same local_dim hd (h6 hk).2⟩, fun hk => ⟨sl_lo local_item (h7 hk).1 hs, sl_lo local_dim (h7 hk).2 hs⟩⟩
/-- One issue more has its lists in new memory. -/
theorem issRowK_step {base b0 k : Nat} {w : World} {cs : List Value} {xs : List Issue} (h : IssRowK base b0 k w cs xs) (hk : k < xs.length) (vi vd : Value) (hi : Sl (Fr base 48 AtItem) 2 w vi xs[k].items) (hd : Sl (Fr base 50 AtDim) 3 w vd xs[k].dims) :
    IssRowK base b0 (k + 1) w ((cs.set (k * 5 + 3) vi).set (k * 5 + 4) vd) xs := by
  obtain ⟨hl, h⟩ := h
  refine ⟨by simp [hl], fun j hj => ?_⟩
  obtain ⟨h0, vi', vd', h1, h2, h3, h4, h5, h6, h7⟩ := h j hj
  by_cases e : j = k
  · subst e
    have hlt3 : j * 5 + 3 < cs.length := by omega
    have hlt4 : j * 5 + 4 < cs.length := by omega
    refine ⟨h0, vi, vd, ?_, ?_, ?_, ?_, ?_, fun _ => ⟨hi, hd⟩, fun hk => absurd hk (by omega)⟩
    · rw [List.getElem?_set_ne (by omega), List.getElem?_set_ne (by omega)]; exact h1
    · rw [List.getElem?_set_ne (by omega), List.getElem?_set_ne (by omega)]; exact h2
    · rw [List.getElem?_set_ne (by omega), List.getElem?_set_ne (by omega)]; exact h3
    · rw [List.getElem?_set_ne (by omega), List.getElem?_set_self hlt3]
    · rw [List.getElem?_set_self (by rw [List.length_set]; exact hlt4)]
  · refine ⟨h0, vi', vd', ?_, ?_, ?_, ?_, ?_, fun hk => h6 (by omega), fun hk => h7 (by omega)⟩
    · rw [List.getElem?_set_ne (by omega), List.getElem?_set_ne (by omega)]; exact h1
    · rw [List.getElem?_set_ne (by omega), List.getElem?_set_ne (by omega)]; exact h2
    · rw [List.getElem?_set_ne (by omega), List.getElem?_set_ne (by omega)]; exact h3
    · rw [List.getElem?_set_ne (by omega), List.getElem?_set_ne (by omega)]; exact h4
    · rw [List.getElem?_set_ne (by omega), List.getElem?_set_ne (by omega)]; exact h5
/-- What slices.Clone made of a register. -/
theorem issRowK_new {base base' b0 : Nat} {w : World} {g cap : Nat} {cs : List Value} {xs : List Issue} (h : Sl (AtIssueB b0) 5 w (.slice (some ⟨g, 0, none⟩) xs.length cap) xs) (hown : w.ownsRow base' 46 5 (.slice (some ⟨g, 0, none⟩) xs.length cap) xs.length cs) : IssRowK base b0 0 w cs xs := by
  have hl : cs.length = xs.length * 5 := hown.1
  refine ⟨hl, fun j hj => ?_⟩
  obtain ⟨b, off, hh, ⟨h0, h1, h2⟩, hr, vi, vd, h3, h4, h5, h6⟩ := (sl_at h).2 j hj
  cases hh
  simp only [Nat.zero_add] at h0 h1 h2 h3 h4
  have key : ∀ i u, i < 5 → Cell w g (j * 5 + i) u → cs[j * 5 + i]? = some u := fun i u hi hc => by
    have hlt : j * 5 + i < cs.length := by omega
    have := hown.cells (g := g) rfl (j * 5 + i) cs[j * 5 + i] (List.getElem?_eq_getElem hlt)
    rw [add_at] at this
    unfold Cell at hc
    rw [hc] at this
    rw [List.getElem?_eq_getElem hlt, this]
  exact ⟨hr, vi, vd, key 0 _ (by omega) h0, key 1 _ (by omega) h1, key 2 _ (by omega) h2, key 3 _ (by omega) h3, key 4 _ (by omega) h4, fun hk => absurd hk (by omega), fun _ => ⟨h5, h6⟩⟩

end Go.Proofs.YtoibnhkiedpkgaaGreatDoor

namespace Go.Proofs.YtoibnhkiedpkgaaGreatDoor
open Go.RowKit Go.Shelf

set_option maxRecDepth 100000 in
set_option maxHeartbeats 800000 in
theorem indexFunc_int (w : World) (v : Value) (xs : List Int) (h : Sl AtInt 1 w v xs) (g : FuncId) (caps : Array Value) (eg : ∀ args w, (callFunc g args).run Tryz.prog w = .ok (.enter g args) w) (p : Int → Prop)
    (hp : ∀ x ∈ xs, ∀ w', Below w.heap.size w w' → Calls Tryz.prog g (#[.int .i64 x] ++ caps) w' (RetB (p x) w')) :
    Calls Tryz.prog 66 #[v, .func (.func g) #[] caps] w fun e w' => ∃ i : Int, e = .returned (.int .i64 i) ∧ (0 ≤ i ↔ ∃ x ∈ xs, p x) ∧ Below w.heap.size w w' := by
  obtain ⟨a, cap, rfl, hm⟩ := sl_shape h
  go_enter Tryz.func66, Tryz.ntmps66
  go_wp2
  go_loopw [8] (fun i wr => ∃ k : Nat, i = .int .i64 k ∧ k ≤ xs.length ∧ Hid (Below w.heap.size w wr) ∧ Hid (∀ j, j < k → (hj : j < xs.length) → ¬ p xs[j])) (fun i _ => xs.length - (intOf i).toNat)
  case atStart => exact ⟨0, rfl, by omega, Below.refl _ _, fun j hj => absurd hj (by omega)⟩
  case round =>
    obtain ⟨k, rfl, hk, hb, hall⟩ := hrel
    by_cases hlt : k < xs.length
    · have hcall := hp xs[k] (List.getElem_mem hlt) wr hb.out
      have HM := Lib.hid (List.getElem_mem hlt)
      obtain ⟨b, off, rfl, ⟨h0, _⟩⟩ := (sl_at (sl_ext stays_int hb.out h)).2 k hlt
      generalize hx : xs[k] = x at *
      have HX := Lib.hid hx
      clear hx hp h
      have hlt3 := cell_lt h0
      unfold Cell at h0
      rw [Nat.mul_one] at h0
      go_wp2_with (go_at_fn g; refine hcall.mono ?_; intro e w' hr; rcases hr.both with ⟨h1, rfl, hb'⟩ | ⟨h1, rfl, hb'⟩ <;> clear hr)
      · have h1' := Lib.hid h1
        clear h1
        go_wp2
        go_ret
        exact ⟨k, rfl, ⟨fun _ => ⟨x, HM.out, h1'.out⟩, fun _ => by omega⟩, below_trans hb.out hb'⟩
      · have h1' := Lib.hid h1
        clear h1
        go_wp2
        go_roundw
        case rel => exact ⟨k + 1, by go_num, by omega, below_trans hb.out hb', all_step _ k hall.out (fun _ => by rw [HX.out]; exact h1'.out)⟩
        case measure => simp [intOf]; omega
    · clear hp h
      go_wp2
      go_ret
      refine ⟨-1, rfl, ⟨fun h => by omega, fun ⟨x, hx, hpx⟩ => ?_⟩, hb.out⟩
      obtain ⟨j, hj, rfl⟩ := List.getElem_of_mem hx
      exact (hall.out j (by omega) hj hpx).elim

theorem containsFunc_int (w : World) (v : Value) (xs : List Int) (h : Sl AtInt 1 w v xs) (g : FuncId) (caps : Array Value) (eg : ∀ args w, (callFunc g args).run Tryz.prog w = .ok (.enter g args) w) (p : Int → Prop)
    (hp : ∀ x ∈ xs, ∀ w', Below w.heap.size w w' → Calls Tryz.prog g (#[.int .i64 x] ++ caps) w' (RetB (p x) w')) :
    Calls Tryz.prog 49 #[v, .func (.func g) #[] caps] w (RetB (∃ x ∈ xs, p x) w) := by
  go_enter Tryz.func49, Tryz.ntmps49
  go_wp2_with fail
  refine (indexFunc_int _ _ xs h g caps eg p hp).mono ?_
  rintro e w' ⟨i, rfl, hi, hb⟩
  have HI := Lib.hid hi
  clear hi h hp
  go_wp2
  go_ret
  exact ⟨decide (0 ≤ i), rfl, by rw [decide_eq_true_eq]; exact HI.out, hb⟩

set_option maxRecDepth 100000 in
set_option maxHeartbeats 800000 in
theorem indexFunc_heap (w : World) (v : Value) (xs : List Heap) (h : Sl AtHeap 4 w v xs) (g : FuncId) (caps : Array Value) (eg : ∀ args w, (callFunc g args).run Tryz.prog w = .ok (.enter g args) w) (p : Heap → Prop)
    (hp : ∀ x ∈ xs, ∀ w', Below w.heap.size w w' → Calls Tryz.prog g (#[.agg #[.int .i64 x.d, .int .i64 x.l, .int .i64 x.lo, .int .i64 x.hi]] ++ caps) w' (RetB (p x) w')) :
    Calls Tryz.prog 51 #[v, .func (.func g) #[] caps] w fun e w' => ∃ i : Int, e = .returned (.int .i64 i) ∧ (0 ≤ i ↔ ∃ x ∈ xs, p x) ∧ Below w.heap.size w w' := by
  obtain ⟨a, cap, rfl, hm⟩ := sl_shape h
  go_enter Tryz.func51, Tryz.ntmps51
  go_wp2
  go_loopw [8] (fun i wr => ∃ k : Nat, i = .int .i64 k ∧ k ≤ xs.length ∧ Hid (Below w.heap.size w wr) ∧ Hid (∀ j, j < k → (hj : j < xs.length) → ¬ p xs[j])) (fun i _ => xs.length - (intOf i).toNat)
  case atStart => exact ⟨0, rfl, by omega, Below.refl _ _, fun j hj => absurd hj (by omega)⟩
  case round =>
    obtain ⟨k, rfl, hk, hb, hall⟩ := hrel
    by_cases hlt : k < xs.length
    · have hcall := hp xs[k] (List.getElem_mem hlt) wr hb.out
      have HM := Lib.hid (List.getElem_mem hlt)
      obtain ⟨b, off, rfl, ⟨⟨h0, h1, h2, h3⟩, _⟩⟩ := (sl_at (sl_ext stays_heap hb.out h)).2 k hlt
      generalize hx : xs[k] = x at *
      have HX := Lib.hid hx
      clear hx hp h
      have hlt3 := cell_lt h0
      unfold Cell at h0 h1 h2 h3
      go_wp2_with (go_at_fn g; refine hcall.mono ?_; intro e w' hr; rcases hr.both with ⟨h1, rfl, hb'⟩ | ⟨h1, rfl, hb'⟩ <;> clear hr)
      · have h1' := Lib.hid h1
        clear h1
        go_wp2
        go_ret
        exact ⟨k, rfl, ⟨fun _ => ⟨x, HM.out, h1'.out⟩, fun _ => by omega⟩, below_trans hb.out hb'⟩
      · have h1' := Lib.hid h1
        clear h1
        go_wp2
        go_roundw
        case rel => exact ⟨k + 1, by go_num, by omega, below_trans hb.out hb', all_step _ k hall.out (fun _ => by rw [HX.out]; exact h1'.out)⟩
        case measure => simp [intOf]; omega
    · clear hp h
      go_wp2
      go_ret
      refine ⟨-1, rfl, ⟨fun h => by omega, fun ⟨x, hx, hpx⟩ => ?_⟩, hb.out⟩
      obtain ⟨j, hj, rfl⟩ := List.getElem_of_mem hx
      exact (hall.out j (by omega) hj hpx).elim

theorem containsFunc_heap (w : World) (v : Value) (xs : List Heap) (h : Sl AtHeap 4 w v xs) (g : FuncId) (caps : Array Value) (eg : ∀ args w, (callFunc g args).run Tryz.prog w = .ok (.enter g args) w) (p : Heap → Prop)
    (hp : ∀ x ∈ xs, ∀ w', Below w.heap.size w w' → Calls Tryz.prog g (#[.agg #[.int .i64 x.d, .int .i64 x.l, .int .i64 x.lo, .int .i64 x.hi]] ++ caps) w' (RetB (p x) w')) :
    Calls Tryz.prog 32 #[v, .func (.func g) #[] caps] w (RetB (∃ x ∈ xs, p x) w) := by
  go_enter Tryz.func32, Tryz.ntmps32
  go_wp2_with fail
  refine (indexFunc_heap _ _ xs h g caps eg p hp).mono ?_
  rintro e w' ⟨i, rfl, hi, hb⟩
  have HI := Lib.hid hi
  clear hi h hp
  go_wp2
  go_ret
  exact ⟨decide (0 ≤ i), rfl, by rw [decide_eq_true_eq]; exact HI.out, hb⟩

set_option maxRecDepth 100000 in
set_option maxHeartbeats 800000 in
theorem indexFunc_item (w : World) (v : Value) (xs : List Item) (h : Sl AtItem 2 w v xs) (g : FuncId) (caps : Array Value) (eg : ∀ args w, (callFunc g args).run Tryz.prog w = .ok (.enter g args) w) (p : Item → Prop)
    (hp : ∀ x ∈ xs, ∀ w', Below w.heap.size w w' → Calls Tryz.prog g (#[.agg #[.int .i64 x.d, .int .i64 x.c]] ++ caps) w' (RetB (p x) w')) :
    Calls Tryz.prog 103 #[v, .func (.func g) #[] caps] w fun e w' => ∃ i : Int, e = .returned (.int .i64 i) ∧ (0 ≤ i ↔ ∃ x ∈ xs, p x) ∧ Below w.heap.size w w' := by
  obtain ⟨a, cap, rfl, hm⟩ := sl_shape h
  go_enter Tryz.func103, Tryz.ntmps103
  go_wp2
  go_loopw [8] (fun i wr => ∃ k : Nat, i = .int .i64 k ∧ k ≤ xs.length ∧ Hid (Below w.heap.size w wr) ∧ Hid (∀ j, j < k → (hj : j < xs.length) → ¬ p xs[j])) (fun i _ => xs.length - (intOf i).toNat)
  case atStart => exact ⟨0, rfl, by omega, Below.refl _ _, fun j hj => absurd hj (by omega)⟩
  case round =>
    obtain ⟨k, rfl, hk, hb, hall⟩ := hrel
    by_cases hlt : k < xs.length
    · have hcall := hp xs[k] (List.getElem_mem hlt) wr hb.out
      have HM := Lib.hid (List.getElem_mem hlt)
      obtain ⟨b, off, rfl, ⟨⟨h0, h1⟩, _⟩⟩ := (sl_at (sl_ext stays_item hb.out h)).2 k hlt
      generalize hx : xs[k] = x at *
      have HX := Lib.hid hx
      clear hx hp h
      have hlt3 := cell_lt h0
      unfold Cell at h0 h1
      go_wp2_with (go_at_fn g; refine hcall.mono ?_; intro e w' hr; rcases hr.both with ⟨h1, rfl, hb'⟩ | ⟨h1, rfl, hb'⟩ <;> clear hr)
      · have h1' := Lib.hid h1
        clear h1
        go_wp2
        go_ret
        exact ⟨k, rfl, ⟨fun _ => ⟨x, HM.out, h1'.out⟩, fun _ => by omega⟩, below_trans hb.out hb'⟩
      · have h1' := Lib.hid h1
        clear h1
        go_wp2
        go_roundw
        case rel => exact ⟨k + 1, by go_num, by omega, below_trans hb.out hb', all_step _ k hall.out (fun _ => by rw [HX.out]; exact h1'.out)⟩
        case measure => simp [intOf]; omega
    · clear hp h
      go_wp2
      go_ret
      refine ⟨-1, rfl, ⟨fun h => by omega, fun ⟨x, hx, hpx⟩ => ?_⟩, hb.out⟩
      obtain ⟨j, hj, rfl⟩ := List.getElem_of_mem hx
      exact (hall.out j (by omega) hj hpx).elim

theorem containsFunc_item (w : World) (v : Value) (xs : List Item) (h : Sl AtItem 2 w v xs) (g : FuncId) (caps : Array Value) (eg : ∀ args w, (callFunc g args).run Tryz.prog w = .ok (.enter g args) w) (p : Item → Prop)
    (hp : ∀ x ∈ xs, ∀ w', Below w.heap.size w w' → Calls Tryz.prog g (#[.agg #[.int .i64 x.d, .int .i64 x.c]] ++ caps) w' (RetB (p x) w')) :
    Calls Tryz.prog 78 #[v, .func (.func g) #[] caps] w (RetB (∃ x ∈ xs, p x) w) := by
  go_enter Tryz.func78, Tryz.ntmps78
  go_wp2_with fail
  refine (indexFunc_item _ _ xs h g caps eg p hp).mono ?_
  rintro e w' ⟨i, rfl, hi, hb⟩
  have HI := Lib.hid hi
  clear hi h hp
  go_wp2
  go_ret
  exact ⟨decide (0 ≤ i), rfl, by rw [decide_eq_true_eq]; exact HI.out, hb⟩

set_option maxRecDepth 100000 in
set_option maxHeartbeats 800000 in
theorem indexFunc_dim (w : World) (v : Value) (xs : List Dim) (h : Sl AtDim 3 w v xs) (g : FuncId) (caps : Array Value) (eg : ∀ args w, (callFunc g args).run Tryz.prog w = .ok (.enter g args) w) (p : Dim → Prop)
    (hp : ∀ x ∈ xs, ∀ w', Below w.heap.size w w' → Calls Tryz.prog g (#[.agg #[.int .i64 x.n, .int .i64 x.lo, .int .i64 x.up]] ++ caps) w' (RetB (p x) w')) :
    Calls Tryz.prog 153 #[v, .func (.func g) #[] caps] w fun e w' => ∃ i : Int, e = .returned (.int .i64 i) ∧ (0 ≤ i ↔ ∃ x ∈ xs, p x) ∧ Below w.heap.size w w' := by
  obtain ⟨a, cap, rfl, hm⟩ := sl_shape h
  go_enter Tryz.func153, Tryz.ntmps153
  go_wp2
  go_loopw [8] (fun i wr => ∃ k : Nat, i = .int .i64 k ∧ k ≤ xs.length ∧ Hid (Below w.heap.size w wr) ∧ Hid (∀ j, j < k → (hj : j < xs.length) → ¬ p xs[j])) (fun i _ => xs.length - (intOf i).toNat)
  case atStart => exact ⟨0, rfl, by omega, Below.refl _ _, fun j hj => absurd hj (by omega)⟩
  case round =>
    obtain ⟨k, rfl, hk, hb, hall⟩ := hrel
    by_cases hlt : k < xs.length
    · have hcall := hp xs[k] (List.getElem_mem hlt) wr hb.out
      have HM := Lib.hid (List.getElem_mem hlt)
      obtain ⟨b, off, rfl, ⟨⟨h0, h1, h2⟩, _⟩⟩ := (sl_at (sl_ext stays_dim hb.out h)).2 k hlt
      generalize hx : xs[k] = x at *
      have HX := Lib.hid hx
      clear hx hp h
      have hlt3 := cell_lt h0
      unfold Cell at h0 h1 h2
      go_wp2_with (go_at_fn g; refine hcall.mono ?_; intro e w' hr; rcases hr.both with ⟨h1, rfl, hb'⟩ | ⟨h1, rfl, hb'⟩ <;> clear hr)
      · have h1' := Lib.hid h1
        clear h1
        go_wp2
        go_ret
        exact ⟨k, rfl, ⟨fun _ => ⟨x, HM.out, h1'.out⟩, fun _ => by omega⟩, below_trans hb.out hb'⟩
      · have h1' := Lib.hid h1
        clear h1
        go_wp2
        go_roundw
        case rel => exact ⟨k + 1, by go_num, by omega, below_trans hb.out hb', all_step _ k hall.out (fun _ => by rw [HX.out]; exact h1'.out)⟩
        case measure => simp [intOf]; omega
    · clear hp h
      go_wp2
      go_ret
      refine ⟨-1, rfl, ⟨fun h => by omega, fun ⟨x, hx, hpx⟩ => ?_⟩, hb.out⟩
      obtain ⟨j, hj, rfl⟩ := List.getElem_of_mem hx
      exact (hall.out j (by omega) hj hpx).elim

theorem containsFunc_dim (w : World) (v : Value) (xs : List Dim) (h : Sl AtDim 3 w v xs) (g : FuncId) (caps : Array Value) (eg : ∀ args w, (callFunc g args).run Tryz.prog w = .ok (.enter g args) w) (p : Dim → Prop)
    (hp : ∀ x ∈ xs, ∀ w', Below w.heap.size w w' → Calls Tryz.prog g (#[.agg #[.int .i64 x.n, .int .i64 x.lo, .int .i64 x.up]] ++ caps) w' (RetB (p x) w')) :
    Calls Tryz.prog 150 #[v, .func (.func g) #[] caps] w (RetB (∃ x ∈ xs, p x) w) := by
  go_enter Tryz.func150, Tryz.ntmps150
  go_wp2_with fail
  refine (indexFunc_dim _ _ xs h g caps eg p hp).mono ?_
  rintro e w' ⟨i, rfl, hi, hb⟩
  have HI := Lib.hid hi
  clear hi h hp
  go_wp2
  go_ret
  exact ⟨decide (0 ≤ i), rfl, by rw [decide_eq_true_eq]; exact HI.out, hb⟩

set_option maxRecDepth 100000 in
set_option maxHeartbeats 800000 in
theorem indexFunc_note (w : World) (v : Value) (xs : List Note) (h : Sl AtNote 10 w v xs) (g : FuncId) (caps : Array Value) (eg : ∀ args w, (callFunc g args).run Tryz.prog w = .ok (.enter g args) w) (p : Note → Prop)
    (hp : ∀ x ∈ xs, ∀ w', Below w.heap.size w w' → Calls Tryz.prog g (#[.agg #[.int .i64 x.num, .int .i64 x.day, .int .u8 x.sg, .int .i64 x.d, .int .i64 x.l, .int .i64 x.fr, .int .i64 x.to, .int .i64 x.ca, .bool x.use, .int .u8 x.ways]] ++ caps) w' (RetB (p x) w')) :
    Calls Tryz.prog 145 #[v, .func (.func g) #[] caps] w fun e w' => ∃ i : Int, e = .returned (.int .i64 i) ∧ (0 ≤ i ↔ ∃ x ∈ xs, p x) ∧ Below w.heap.size w w' := by
  obtain ⟨a, cap, rfl, hm⟩ := sl_shape h
  go_enter Tryz.func145, Tryz.ntmps145
  go_wp2
  go_loopw [8] (fun i wr => ∃ k : Nat, i = .int .i64 k ∧ k ≤ xs.length ∧ Hid (Below w.heap.size w wr) ∧ Hid (∀ j, j < k → (hj : j < xs.length) → ¬ p xs[j])) (fun i _ => xs.length - (intOf i).toNat)
  case atStart => exact ⟨0, rfl, by omega, Below.refl _ _, fun j hj => absurd hj (by omega)⟩
  case round =>
    obtain ⟨k, rfl, hk, hb, hall⟩ := hrel
    by_cases hlt : k < xs.length
    · have hcall := hp xs[k] (List.getElem_mem hlt) wr hb.out
      have HM := Lib.hid (List.getElem_mem hlt)
      obtain ⟨b, off, rfl, ⟨⟨h0, h1, h2, h3, h4, h5, h6, h7, h8, h9⟩, _⟩⟩ := (sl_at (sl_ext stays_note hb.out h)).2 k hlt
      generalize hx : xs[k] = x at *
      have HX := Lib.hid hx
      clear hx hp h
      have hlt3 := cell_lt h0
      unfold Cell at h0 h1 h2 h3 h4 h5 h6 h7 h8 h9
      go_wp2_with (go_at_fn g; refine hcall.mono ?_; intro e w' hr; rcases hr.both with ⟨h1, rfl, hb'⟩ | ⟨h1, rfl, hb'⟩ <;> clear hr)
      · have h1' := Lib.hid h1
        clear h1
        go_wp2
        go_ret
        exact ⟨k, rfl, ⟨fun _ => ⟨x, HM.out, h1'.out⟩, fun _ => by omega⟩, below_trans hb.out hb'⟩
      · have h1' := Lib.hid h1
        clear h1
        go_wp2
        go_roundw
        case rel => exact ⟨k + 1, by go_num, by omega, below_trans hb.out hb', all_step _ k hall.out (fun _ => by rw [HX.out]; exact h1'.out)⟩
        case measure => simp [intOf]; omega
    · clear hp h
      go_wp2
      go_ret
      refine ⟨-1, rfl, ⟨fun h => by omega, fun ⟨x, hx, hpx⟩ => ?_⟩, hb.out⟩
      obtain ⟨j, hj, rfl⟩ := List.getElem_of_mem hx
      exact (hall.out j (by omega) hj hpx).elim

theorem containsFunc_note (w : World) (v : Value) (xs : List Note) (h : Sl AtNote 10 w v xs) (g : FuncId) (caps : Array Value) (eg : ∀ args w, (callFunc g args).run Tryz.prog w = .ok (.enter g args) w) (p : Note → Prop)
    (hp : ∀ x ∈ xs, ∀ w', Below w.heap.size w w' → Calls Tryz.prog g (#[.agg #[.int .i64 x.num, .int .i64 x.day, .int .u8 x.sg, .int .i64 x.d, .int .i64 x.l, .int .i64 x.fr, .int .i64 x.to, .int .i64 x.ca, .bool x.use, .int .u8 x.ways]] ++ caps) w' (RetB (p x) w')) :
    Calls Tryz.prog 138 #[v, .func (.func g) #[] caps] w (RetB (∃ x ∈ xs, p x) w) := by
  go_enter Tryz.func138, Tryz.ntmps138
  go_wp2_with fail
  refine (indexFunc_note _ _ xs h g caps eg p hp).mono ?_
  rintro e w' ⟨i, rfl, hi, hb⟩
  have HI := Lib.hid hi
  clear hi h hp
  go_wp2
  go_ret
  exact ⟨decide (0 ≤ i), rfl, by rw [decide_eq_true_eq]; exact HI.out, hb⟩

theorem in1_built (w : World) (n lo hi : Int) (b1 b2 : Nat) (h1 : Cell w b1 0 (.int .i64 lo)) (h2 : Cell w b2 0 (.int .i64 hi)) :
    Calls Tryz.prog 50 #[.int .i64 n, .pointer (some ⟨b1, 0, none⟩), .pointer (some ⟨b2, 0, none⟩)] w (RetB (¬ In n lo hi) w) := by
  unfold Cell at h1 h2
  by_cases g1 : n < lo
  · go_enter Tryz.func50, Tryz.ntmps50
    go_wp2
    go_ret
    exact RetB.t (by unfold In; omega) (Below.refl _ _)
  · by_cases g2 : hi < n
    · go_enter Tryz.func50, Tryz.ntmps50
      go_wp2
      go_ret
      exact RetB.t (by unfold In; omega) (Below.refl _ _)
    · go_enter Tryz.func50, Tryz.ntmps50
      go_wp2
      go_ret
      exact RetB.f (fun h => h ⟨by omega, by omega⟩) (Below.refl _ _)
theorem enter_in_built : Enters Tryz.prog 50 := enters_of Tryz.func50 (by kernel_rfl) rfl
set_option maxRecDepth 100000 in
theorem in_built (w : World) (lo hi : Int) (v : Value) (xs : List Int) (h : Sl AtInt 1 w v xs) :
    Calls Tryz.prog 31 #[.int .i64 lo, .int .i64 hi, v] w (RetB (∀ x ∈ xs, In x lo hi) w) := by
  obtain ⟨hb1, B1, B2⟩ := boxed2 w #[.int .i64 lo] #[.int .i64 hi] 3 3
  have c1 := B1 0 (.int .i64 lo) rfl
  have c2 := B2 0 (.int .i64 hi) rfl
  clear B1 B2
  have h1 := sl_ext stays_int hb1 h
  clear h
  go_enter Tryz.func31, Tryz.ntmps31
  go_wp2_with fail
  generalize (w.alloc _).alloc _ = w1 at *
  refine (containsFunc_int _ _ xs h1 50 _ enter_in_built (fun x => ¬ In x lo hi) (fun x _ w' hb => by simp only [List.append_toArray, List.cons_append, List.nil_append]; exact in1_built w' x lo hi _ _ (cell_ext hb c1) (cell_ext hb c2))).mono ?_
  intro e w2 hr
  rcases hr.both with ⟨k1, rfl, hb2⟩ | ⟨k1, rfl, hb2⟩
  · have K := Lib.hid k1
    clear k1 hr
    go_wp2
    go_ret
    exact RetB.f (fun h => by obtain ⟨x, hx, hn⟩ := K.out; exact hn (h x hx)) (below_trans hb1 hb2)
  · have K := Lib.hid k1
    clear k1 hr
    go_wp2
    go_ret
    exact RetB.t (fun x hx => Classical.byContradiction fun hn => K.out ⟨x, hx, hn⟩) (below_trans hb1 hb2)

theorem in1_sheet (w : World) (n lo hi : Int) (b1 b2 : Nat) (h1 : Cell w b1 0 (.int .i64 lo)) (h2 : Cell w b2 0 (.int .i64 hi)) :
    Calls Tryz.prog 102 #[.int .i64 n, .pointer (some ⟨b1, 0, none⟩), .pointer (some ⟨b2, 0, none⟩)] w (RetB (¬ In n lo hi) w) := by
  unfold Cell at h1 h2
  by_cases g1 : n < lo
  · go_enter Tryz.func102, Tryz.ntmps102
    go_wp2
    go_ret
    exact RetB.t (by unfold In; omega) (Below.refl _ _)
  · by_cases g2 : hi < n
    · go_enter Tryz.func102, Tryz.ntmps102
      go_wp2
      go_ret
      exact RetB.t (by unfold In; omega) (Below.refl _ _)
    · go_enter Tryz.func102, Tryz.ntmps102
      go_wp2
      go_ret
      exact RetB.f (fun h => h ⟨by omega, by omega⟩) (Below.refl _ _)
theorem enter_in_sheet : Enters Tryz.prog 102 := enters_of Tryz.func102 (by kernel_rfl) rfl
set_option maxRecDepth 100000 in
theorem in_sheet (w : World) (lo hi : Int) (v : Value) (xs : List Int) (h : Sl AtInt 1 w v xs) :
    Calls Tryz.prog 77 #[.int .i64 lo, .int .i64 hi, v] w (RetB (∀ x ∈ xs, In x lo hi) w) := by
  obtain ⟨hb1, B1, B2⟩ := boxed2 w #[.int .i64 lo] #[.int .i64 hi] 3 3
  have c1 := B1 0 (.int .i64 lo) rfl
  have c2 := B2 0 (.int .i64 hi) rfl
  clear B1 B2
  have h1 := sl_ext stays_int hb1 h
  clear h
  go_enter Tryz.func77, Tryz.ntmps77
  go_wp2_with fail
  generalize (w.alloc _).alloc _ = w1 at *
  refine (containsFunc_int _ _ xs h1 102 _ enter_in_sheet (fun x => ¬ In x lo hi) (fun x _ w' hb => by simp only [List.append_toArray, List.cons_append, List.nil_append]; exact in1_sheet w' x lo hi _ _ (cell_ext hb c1) (cell_ext hb c2))).mono ?_
  intro e w2 hr
  rcases hr.both with ⟨k1, rfl, hb2⟩ | ⟨k1, rfl, hb2⟩
  · have K := Lib.hid k1
    clear k1 hr
    go_wp2
    go_ret
    exact RetB.f (fun h => by obtain ⟨x, hx, hn⟩ := K.out; exact hn (h x hx)) (below_trans hb1 hb2)
  · have K := Lib.hid k1
    clear k1 hr
    go_wp2
    go_ret
    exact RetB.t (fun x hx => Classical.byContradiction fun hn => K.out ⟨x, hx, hn⟩) (below_trans hb1 hb2)

theorem in1_note (w : World) (n lo hi : Int) (b1 b2 : Nat) (h1 : Cell w b1 0 (.int .i64 lo)) (h2 : Cell w b2 0 (.int .i64 hi)) :
    Calls Tryz.prog 144 #[.int .i64 n, .pointer (some ⟨b1, 0, none⟩), .pointer (some ⟨b2, 0, none⟩)] w (RetB (¬ In n lo hi) w) := by
  unfold Cell at h1 h2
  by_cases g1 : n < lo
  · go_enter Tryz.func144, Tryz.ntmps144
    go_wp2
    go_ret
    exact RetB.t (by unfold In; omega) (Below.refl _ _)
  · by_cases g2 : hi < n
    · go_enter Tryz.func144, Tryz.ntmps144
      go_wp2
      go_ret
      exact RetB.t (by unfold In; omega) (Below.refl _ _)
    · go_enter Tryz.func144, Tryz.ntmps144
      go_wp2
      go_ret
      exact RetB.f (fun h => h ⟨by omega, by omega⟩) (Below.refl _ _)
theorem enter_in_note : Enters Tryz.prog 144 := enters_of Tryz.func144 (by kernel_rfl) rfl
set_option maxRecDepth 100000 in
theorem in_note (w : World) (lo hi : Int) (v : Value) (xs : List Int) (h : Sl AtInt 1 w v xs) :
    Calls Tryz.prog 132 #[.int .i64 lo, .int .i64 hi, v] w (RetB (∀ x ∈ xs, In x lo hi) w) := by
  obtain ⟨hb1, B1, B2⟩ := boxed2 w #[.int .i64 lo] #[.int .i64 hi] 3 3
  have c1 := B1 0 (.int .i64 lo) rfl
  have c2 := B2 0 (.int .i64 hi) rfl
  clear B1 B2
  have h1 := sl_ext stays_int hb1 h
  clear h
  go_enter Tryz.func132, Tryz.ntmps132
  go_wp2_with fail
  generalize (w.alloc _).alloc _ = w1 at *
  refine (containsFunc_int _ _ xs h1 144 _ enter_in_note (fun x => ¬ In x lo hi) (fun x _ w' hb => by simp only [List.append_toArray, List.cons_append, List.nil_append]; exact in1_note w' x lo hi _ _ (cell_ext hb c1) (cell_ext hb c2))).mono ?_
  intro e w2 hr
  rcases hr.both with ⟨k1, rfl, hb2⟩ | ⟨k1, rfl, hb2⟩
  · have K := Lib.hid k1
    clear k1 hr
    go_wp2
    go_ret
    exact RetB.f (fun h => by obtain ⟨x, hx, hn⟩ := K.out; exact hn (h x hx)) (below_trans hb1 hb2)
  · have K := Lib.hid k1
    clear k1 hr
    go_wp2
    go_ret
    exact RetB.t (fun x hx => Classical.byContradiction fun hn => K.out ⟨x, hx, hn⟩) (below_trans hb1 hb2)

theorem in1_size (w : World) (n lo hi : Int) (b1 b2 : Nat) (h1 : Cell w b1 0 (.int .i64 lo)) (h2 : Cell w b2 0 (.int .i64 hi)) :
    Calls Tryz.prog 155 #[.int .i64 n, .pointer (some ⟨b1, 0, none⟩), .pointer (some ⟨b2, 0, none⟩)] w (RetB (¬ In n lo hi) w) := by
  unfold Cell at h1 h2
  by_cases g1 : n < lo
  · go_enter Tryz.func155, Tryz.ntmps155
    go_wp2
    go_ret
    exact RetB.t (by unfold In; omega) (Below.refl _ _)
  · by_cases g2 : hi < n
    · go_enter Tryz.func155, Tryz.ntmps155
      go_wp2
      go_ret
      exact RetB.t (by unfold In; omega) (Below.refl _ _)
    · go_enter Tryz.func155, Tryz.ntmps155
      go_wp2
      go_ret
      exact RetB.f (fun h => h ⟨by omega, by omega⟩) (Below.refl _ _)
theorem enter_in_size : Enters Tryz.prog 155 := enters_of Tryz.func155 (by kernel_rfl) rfl
set_option maxRecDepth 100000 in
theorem in_size (w : World) (lo hi : Int) (v : Value) (xs : List Int) (h : Sl AtInt 1 w v xs) :
    Calls Tryz.prog 154 #[.int .i64 lo, .int .i64 hi, v] w (RetB (∀ x ∈ xs, In x lo hi) w) := by
  obtain ⟨hb1, B1, B2⟩ := boxed2 w #[.int .i64 lo] #[.int .i64 hi] 3 3
  have c1 := B1 0 (.int .i64 lo) rfl
  have c2 := B2 0 (.int .i64 hi) rfl
  clear B1 B2
  have h1 := sl_ext stays_int hb1 h
  clear h
  go_enter Tryz.func154, Tryz.ntmps154
  go_wp2_with fail
  generalize (w.alloc _).alloc _ = w1 at *
  refine (containsFunc_int _ _ xs h1 155 _ enter_in_size (fun x => ¬ In x lo hi) (fun x _ w' hb => by simp only [List.append_toArray, List.cons_append, List.nil_append]; exact in1_size w' x lo hi _ _ (cell_ext hb c1) (cell_ext hb c2))).mono ?_
  intro e w2 hr
  rcases hr.both with ⟨k1, rfl, hb2⟩ | ⟨k1, rfl, hb2⟩
  · have K := Lib.hid k1
    clear k1 hr
    go_wp2
    go_ret
    exact RetB.f (fun h => by obtain ⟨x, hx, hn⟩ := K.out; exact hn (h x hx)) (below_trans hb1 hb2)
  · have K := Lib.hid k1
    clear k1 hr
    go_wp2
    go_ret
    exact RetB.t (fun x hx => Classical.byContradiction fun hn => K.out ⟨x, hx, hn⟩) (below_trans hb1 hb2)

end Go.Proofs.YtoibnhkiedpkgaaGreatDoor

namespace Go.Proofs.YtoibnhkiedpkgaaGreatDoor
open Go.RowKit Go.Shelf

theorem isNaN_cmp (w : World) (n : Int) : Calls Tryz.prog 38 #[.int .i64 n] w fun e w' => e = .returned (.bool false) ∧ w = w' := by
  go_enter Tryz.func38, Tryz.ntmps38
  go_wp2
  go_ret
  exact ⟨by simp, rfl⟩

def cmpI (a b : Int) : Int := if a < b then -1 else if b < a then 1 else 0
theorem compare_int (w : World) (a b : Int) : Calls Tryz.prog 21 #[.int .i64 a, .int .i64 b] w fun e w' => e = .returned (.int .i64 (cmpI a b)) ∧ w = w' := by
  by_cases h1 : a < b
  · go_enter Tryz.func21, Tryz.ntmps21
    go_wp2_with (go_at_call 38; refine (isNaN_cmp _ _).mono ?_; rintro e w' ⟨rfl, rfl⟩)
    go_ret
    exact ⟨ret_int (by unfold cmpI; rw [if_pos h1]), rfl⟩
  · by_cases h2 : b < a
    · go_enter Tryz.func21, Tryz.ntmps21
      go_wp2_with (go_at_call 38; refine (isNaN_cmp _ _).mono ?_; rintro e w' ⟨rfl, rfl⟩)
      go_ret
      exact ⟨ret_int (by unfold cmpI; rw [if_neg (by omega), if_pos h2]), rfl⟩
    · go_enter Tryz.func21, Tryz.ntmps21
      go_wp2_with (go_at_call 38; refine (isNaN_cmp _ _).mono ?_; rintro e w' ⟨rfl, rfl⟩)
      go_ret
      exact ⟨ret_int (by unfold cmpI; rw [if_neg (by omega), if_neg (by omega)]), rfl⟩

set_option maxRecDepth 100000 in
set_option maxHeartbeats 800000 in
theorem index_int (w : World) (v : Value) (l : List Int) (n : Int) (h : Sl AtInt 1 w v l) :
    Calls Tryz.prog 69 #[v, .int .i64 n] w fun e w' => e = .returned (.int .i64 (idxI l n)) ∧ w = w' := by
  obtain ⟨a, cap, rfl, hm⟩ := sl_shape h
  go_enter Tryz.func69, Tryz.ntmps69
  go_wp2
  go_loop [8] (fun i => ∃ k : Nat, i = .int .i64 k ∧ k ≤ l.length ∧ Hid (∀ j, j < k → (hj : j < l.length) → l[j] ≠ n)) (fun i => l.length - (intOf i).toNat)
  case atStart => exact ⟨0, rfl, by omega, fun j hj => absurd hj (by omega)⟩
  case round =>
    obtain ⟨k, rfl, hk, hall⟩ := hrel
    by_cases hlt : k < l.length
    · obtain ⟨b, off, rfl, h0, _⟩ := (sl_at h).2 k hlt
      generalize hx : l[k] = x at *
      have HX := Lib.hid hx
      clear hx h
      unfold Cell at h0
      rw [Nat.mul_one] at h0
      by_cases he : (n == x) = true
      · go_wp2
        go_ret
        exact ⟨ret_int (by rw [idxI_at l n k hlt (by rw [HX.out]; simpa using (by simpa using he : n = x).symm) hall.out]), rfl⟩
      · have he' : (n == x) = false := by simpa using he
        clear he
        go_wp2
        go_round
        case rel => exact ⟨k + 1, by go_num, by omega, all_step _ k hall.out (fun _ => by rw [HX.out]; simpa using fun h => (by simpa using he' : ¬ n = x) h.symm)⟩
        case measure => simp [intOf]; omega
    · clear h
      go_wp2
      go_ret
      exact ⟨ret_int (by rw [idxI_none l n (fun j hj => hall.out j (by omega) hj)]), rfl⟩

theorem contains_int (w : World) (v : Value) (l : List Int) (n : Int) (h : Sl AtInt 1 w v l) :
    Calls Tryz.prog 53 #[v, .int .i64 n] w (RetS (n ∈ l) w) := by
  go_enter Tryz.func53, Tryz.ntmps53
  go_wp2_with fail
  refine (index_int _ _ l n h).mono ?_
  rintro e w' ⟨rfl, rfl⟩
  have H : Hid (0 ≤ idxI l n ↔ n ∈ l) := ⟨fun h => Classical.byContradiction fun hn => by have := idxI_out l n hn; omega, fun h => idxI_in l n h⟩
  generalize idxI l n = i at *
  clear h
  go_wp2
  go_ret
  exact ⟨decide (0 ≤ i), rfl, by rw [decide_eq_true_eq]; exact H.out, rfl⟩

set_option maxRecDepth 100000 in
theorem name_built (w : World) (x : Heap) :
    Calls Tryz.prog 34 #[.agg #[.int .i64 x.d, .int .i64 x.l, .int .i64 x.lo, .int .i64 x.hi]] w fun e w' => e = .returned (.agg #[.int .i64 x.d, .int .i64 x.l]) ∧ Below w.heap.size w w' := by
  go_enter Tryz.func34, Tryz.ntmps34
  go_wp2
  refine bodyPost_ret (v := .agg #[.int .i64 x.d, .int .i64 x.l]) ?_ rfl ⟨rfl, ?_⟩
  · simp [results, Tryz.results34, go_sem]
  · exact below_trans (below_alloc _ _) (below_alloc _ _)

set_option maxRecDepth 100000 in
theorem name_sheet (w : World) (x : Issue) (vi vd : Value) (a a' : Option Addr) (n n' c c' : Nat) (h1 : vi = .slice a n c) (h2 : vd = .slice a' n' c') :
    Calls Tryz.prog 85 #[.agg #[.int .i64 x.d, .int .i64 x.l, .int .u8 x.k, vi, vd]] w fun e w' => e = .returned (.agg #[.int .i64 x.d, .int .i64 x.l]) ∧ Below w.heap.size w w' := by
  subst h1 h2
  go_enter Tryz.func85, Tryz.ntmps85
  go_wp2
  refine bodyPost_ret (v := .agg #[.int .i64 x.d, .int .i64 x.l]) ?_ rfl ⟨rfl, ?_⟩
  · simp [results, Tryz.results85, go_sem]
  · exact below_trans (below_alloc _ _) (below_alloc _ _)

def DimOkP (d : Dim) : Prop := (∀ x ∈ [d.n, d.lo, d.up], In x 0 1000000000) ∧ d.lo ≤ d.up
theorem dimOkP (d : Dim) : DimOkP d ↔ DimOk d := by
  unfold DimOkP DimOk In
  simp
  omega
def Row3 (w : World) (b : Nat) (x y z : Int) : Prop := Cell w b 0 (.int .i64 x) ∧ Cell w b 1 (.int .i64 y) ∧ Cell w b 2 (.int .i64 z)
theorem sl_row3 {w : World} {b : Nat} {x y z : Int} (h : Row3 w b x y z) (hx : I64 x) (hy : I64 y) (hz : I64 z) : Sl AtInt 1 w (.slice (some ⟨b, 0, none⟩) 3 3) [x, y, z] := by
  refine ⟨_, 3, rfl, by simp, fun k hk => ⟨b, 0, rfl, ?_⟩⟩
  match k, hk with
  | 0, _ => exact ⟨h.1, hx⟩
  | 1, _ => exact ⟨h.2.1, hy⟩
  | 2, _ => exact ⟨h.2.2, hz⟩
theorem sl_row2 {w : World} {b : Nat} {x y : Int} (h : Cell w b 0 (.int .i64 x) ∧ Cell w b 1 (.int .i64 y)) (hx : I64 x) (hy : I64 y) : Sl AtInt 1 w (.slice (some ⟨b, 0, none⟩) 2 2) [x, y] := by
  refine ⟨_, 2, rfl, by simp, fun k hk => ⟨b, 0, rfl, ?_⟩⟩
  match k, hk with
  | 0, _ => exact ⟨h.1, hx⟩
  | 1, _ => exact ⟨h.2, hy⟩
theorem sl_row1 {w : World} {b : Nat} {x : Int} (h : Cell w b 0 (.int .i64 x)) (hx : I64 x) : Sl AtInt 1 w (.slice (some ⟨b, 0, none⟩) 1 1) [x] := by
  refine ⟨_, 1, rfl, by simp, fun k hk => ⟨b, 0, rfl, ?_⟩⟩
  match k, hk with
  | 0, _ => exact ⟨h, hx⟩

open Classical in
noncomputable def sizeCode (d : Dim) : Int := if DimOk d then 0 else 10
set_option maxRecDepth 100000 in
set_option maxHeartbeats 800000 in
theorem check_size (w : World) (d : Dim) (hd : I64 d.n ∧ I64 d.lo ∧ I64 d.up) : Calls Tryz.prog 152 #[.agg #[.int .i64 d.n, .int .i64 d.lo, .int .i64 d.up]] w fun e w' => e = .returned (.int .i64 (sizeCode d)) ∧ Below w.heap.size w w' := by
  obtain ⟨hb1, B1⟩ := boxed1 w #[.int .i64 d.n, .int .i64 d.lo, .int .i64 d.up] 50
  have c0 := B1 0 (.int .i64 d.n) rfl
  have c1 := B1 1 (.int .i64 d.lo) rfl
  have c2 := B1 2 (.int .i64 d.up) rfl
  clear B1
  have C1 := Lib.hid c1
  have C2 := Lib.hid c2
  unfold Cell at c0 c1 c2
  have hlt := cell_lt C1.out
  go_enter Tryz.func152, Tryz.ntmps152
  go_wp2_with fail
  have hb2 := below_trans hb1 (below_alloc (w.alloc (.cells #[.int .i64 d.n, .int .i64 d.lo, .int .i64 d.up] 50)) (.cells #[.int .i64 d.n, .int .i64 d.lo, .int .i64 d.up] 3))
  have B2 := new_cell (w.alloc (.cells #[.int .i64 d.n, .int .i64 d.lo, .int .i64 d.up] 50)) #[.int .i64 d.n, .int .i64 d.lo, .int .i64 d.up] 3
  rw [World.size_alloc] at B2
  have row : Row3 ((w.alloc (.cells #[.int .i64 d.n, .int .i64 d.lo, .int .i64 d.up] 50)).alloc (.cells #[.int .i64 d.n, .int .i64 d.lo, .int .i64 d.up] 3)) (w.heap.size + 1) d.n d.lo d.up := ⟨B2 0 _ rfl, B2 1 _ rfl, B2 2 _ rfl⟩
  have C1 := Lib.hid (cell_ext (below_alloc _ (.cells #[.int .i64 d.n, .int .i64 d.lo, .int .i64 d.up] 3)) C1.out)
  have C2 := Lib.hid (cell_ext (below_alloc _ (.cells #[.int .i64 d.n, .int .i64 d.lo, .int .i64 d.up] 3)) C2.out)
  clear c0 c1 c2 B2 hlt hb1
  generalize (w.alloc _).alloc _ = w1 at *
  refine (in_size _ _ _ _ [d.n, d.lo, d.up] (sl_row3 row hd.1 hd.2.1 hd.2.2)).mono ?_
  intro e w2 h
  rcases h.both with ⟨g1, rfl, hb3⟩ | ⟨g1, rfl, hb3⟩
  · have G1 := Lib.hid g1
    clear h g1
    have c1 := cell_ext hb3 C1.out
    have c2 := cell_ext hb3 C2.out
    unfold Cell at c1 c2
    by_cases g2 : d.up < d.lo
    · go_wp2
      go_ret
      exact ⟨ret_int (by unfold sizeCode; rw [if_neg]; intro h; have := ((dimOkP d).2 h).2; omega), below_trans hb2 hb3⟩
    · go_wp2
      go_ret
      exact ⟨ret_int (by unfold sizeCode; rw [if_pos ((dimOkP d).1 ⟨G1.out, by omega⟩)]), below_trans hb2 hb3⟩
  · have G1 := Lib.hid g1
    clear h g1
    go_wp2
    go_ret
    exact ⟨ret_int (by unfold sizeCode; rw [if_neg]; intro h; exact G1.out ((dimOkP d).2 h).1), below_trans hb2 hb3⟩

end Go.Proofs.YtoibnhkiedpkgaaGreatDoor

namespace Go.Proofs.YtoibnhkiedpkgaaGreatDoor

theorem cmpI_neg {a b : Int} (h : a < b) : cmpI a b = -1 := by unfold cmpI; rw [if_pos h]
theorem cmpI_not {a b : Int} (h : ¬ a < b) : 0 ≤ cmpI a b := by unfold cmpI; rw [if_neg h]; split <;> omega

end Go.Proofs.YtoibnhkiedpkgaaGreatDoor
