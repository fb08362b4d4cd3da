/- Maps from ints to ints and to Bools, in plain terms. -/
import Derived.Maps.OwnIn
import Derived.Maps.RangeWalk
import Derived.Test.YtpolpdegpbahiaaGreatDoorProg
import Derived.Test.YtpolpdegpbahiaaGreatDoorM01
import Derived.Test.YtpolpdegpbahiaaGreatDoorM02
import Derived.Test.YtpolpdegpbahiaaGreatDoorM08
import Derived.Test.YtpolpdegpbahiaaGreatDoorM12
import Derived.Test.YtpolpdegpbahiaaGreatDoorM13
set_option linter.all false
set_option maxRecDepth 100000
set_option maxHeartbeats 12800000

namespace Go.Proofs.YtpolpdegpbahiaaGreatDoor
def meet (a b : Span) : Span := ⟨max a.lo b.lo, min a.hi b.hi⟩
theorem meet_has {a b : Span} {n : Int} : (meet a b).has n ↔ a.has n ∧ b.has n := by unfold meet Span.has; simp only; omega
section
variable (H : Report → Has) (B : Report → Int)
def cutOf (r : Report) : Span := zBN (H r) (B r) r.l r.k
open Classical in
noncomputable def zKS (L : List Span) : List Report → Option (List Span)
 | [] => some L
 | r :: rs => if 0 ≤ (H r).h then (if (meet (L.getD (H r).h.toNat zDV) (cutOf H B r)).lo ≤ (meet (L.getD (H r).h.toNat zDV) (cutOf H B r)).hi then zKS (L.set (H r).h.toNat (meet (L.getD (H r).h.toNat zDV) (cutOf H B r))) rs else none)
   else if cutOf H B r = zDV then none else zKS L rs
def NumLeft (rs : List Report) (k : Nat) (n : Int) : Prop := ∀ r ∈ rs, (H r).h = k → (cutOf H B r).has n
theorem leftGo_some {L L' : List Span} {rs : List Report} (hin : ∀ r ∈ rs, (H r).h < L.length) (hne : ∀ k (hk : k < L.length), L[k].lo ≤ L[k].hi) (h : zKS H B L rs = some L') :
  (∀ r ∈ rs, (H r).h < 0 → cutOf H B r ≠ zDV) ∧ ∃ hl : L'.length = L.length, ∀ k (hk : k < L.length), L'[k].lo ≤ L'[k].hi ∧ ∀ n, L'[k].has n ↔ L[k].has n ∧ NumLeft H B rs k n := by
 induction rs generalizing L with
 | nil =>
   simp only [zKS, Option.some.injEq] at h
   subst h
   exact ⟨fun r hr => by simp at hr, rfl, fun k hk => ⟨hne k hk, fun n => ⟨fun hn => ⟨hn, fun r hr => by simp at hr⟩, fun hn => hn.1⟩⟩⟩
 | cons r rs ih =>
   simp only [zKS] at h
   by_cases h0 : 0 ≤ (H r).h
   ·rw [if_pos h0] at h
    split at h
    ·rename_i hm
     have hr := hin r (List.mem_cons_self ..)
     generalize hk0 : (H r).h.toNat = k0 at *
     have hk0' : (H r).h = k0 := by omega
     have hkl : k0 < L.length := by omega
     have hg : L.getD k0 zDV = L[k0] := by rw [List.getD_eq_getElem?_getD, List.getElem?_eq_getElem hkl]; rfl
     rw [hg] at h hm
     obtain ⟨h1, hl, h2⟩ := ih (L := L.set k0 (meet L[k0] (cutOf H B r))) (fun r' hr' => by rw [List.length_set]; exact hin r' (List.mem_cons_of_mem _ hr')) (fun k hk => by
      rw [List.length_set] at hk
      by_cases e : k0 = k
      ·subst e; simp only [List.getElem_set_self]; exact hm
      ·rw [List.getElem_set_ne e]; exact hne k hk) h
     rw [List.length_set] at hl
     refine ⟨fun r' hr' hn => ?_, hl, fun k hk => ?_⟩
     ·rcases List.mem_cons.1 hr' with rfl | hr'
      ·omega
      ·exact h1 r' hr' hn
     ·obtain ⟨h3, h4⟩ := h2 k (by rw [List.length_set]; exact hk)
      refine ⟨h3, fun n => (h4 n).trans ?_⟩
      by_cases e : k0 = k
      ·subst e
       simp only [List.getElem_set_self]
       rw [meet_has]
       constructor
       ·rintro ⟨⟨a1, a2⟩, a3⟩
        refine ⟨a1, fun r' hr' he => ?_⟩
        rcases List.mem_cons.1 hr' with rfl | hr'
        ·exact a2
        ·exact a3 r' hr' he
       ·rintro ⟨a1, a2⟩
        exact ⟨⟨a1, a2 r (List.mem_cons_self ..) hk0'⟩, fun r' hr' he => a2 r' (List.mem_cons_of_mem _ hr') he⟩
      ·rw [List.getElem_set_ne e]
       constructor
       ·rintro ⟨a1, a2⟩
        refine ⟨a1, fun r' hr' he => ?_⟩
        rcases List.mem_cons.1 hr' with rfl | hr'
        ·omega
        ·exact a2 r' hr' he
       ·rintro ⟨a1, a2⟩
        exact ⟨a1, fun r' hr' he => a2 r' (List.mem_cons_of_mem _ hr') he⟩
    ·cases h
   ·rw [if_neg h0] at h
    split at h
    ·cases h
    ·rename_i hc
     obtain ⟨h1, hl, h2⟩ := ih (fun r' hr' => hin r' (List.mem_cons_of_mem _ hr')) hne h
     refine ⟨fun r' hr' hn => ?_, hl, fun k hk => ?_⟩
     ·rcases List.mem_cons.1 hr' with rfl | hr'
      ·exact hc
      ·exact h1 r' hr' hn
     ·obtain ⟨h3, h4⟩ := h2 k hk
      refine ⟨h3, fun n => (h4 n).trans ⟨fun ⟨a1, a2⟩ => ⟨a1, fun r' hr' he => ?_⟩, fun ⟨a1, a2⟩ => ⟨a1, fun r' hr' he => a2 r' (List.mem_cons_of_mem _ hr') he⟩⟩⟩
      rcases List.mem_cons.1 hr' with rfl | hr'
      ·omega
      ·exact a2 r' hr' he
theorem leftGo_none {L : List Span} {rs : List Report} (hin : ∀ r ∈ rs, (H r).h < L.length) (h : zKS H B L rs = none) :
  (∃ r ∈ rs, (H r).h < 0 ∧ cutOf H B r = zDV) ∨ ∃ k, ∃ hk : k < L.length, ∀ n, ¬ (L[k].has n ∧ NumLeft H B rs k n) := by
 induction rs generalizing L with
 | nil => simp [zKS] at h
 | cons r rs ih =>
   simp only [zKS] at h
   by_cases h0 : 0 ≤ (H r).h
   ·rw [if_pos h0] at h
    have hr := hin r (List.mem_cons_self ..)
    generalize hk0 : (H r).h.toNat = k0 at *
    have hk0' : (H r).h = k0 := by omega
    have hkl : k0 < L.length := by omega
    have hg : L.getD k0 zDV = L[k0] := by rw [List.getD_eq_getElem?_getD, List.getElem?_eq_getElem hkl]; rfl
    rw [hg] at h
    split at h
    ·rcases ih (L := L.set k0 (meet L[k0] (cutOf H B r))) (fun r' hr' => by rw [List.length_set]; exact hin r' (List.mem_cons_of_mem _ hr')) h with ⟨r', hr', h1⟩ | ⟨k, hk, h1⟩
     ·exact .inl ⟨r', List.mem_cons_of_mem _ hr', h1⟩
     ·rw [List.length_set] at hk
      refine .inr ⟨k, hk, fun n ⟨a1, a2⟩ => h1 n ⟨?_, fun r' hr' he => a2 r' (List.mem_cons_of_mem _ hr') he⟩⟩
      by_cases e : k0 = k
      ·subst e
       simp only [List.getElem_set_self]
       exact meet_has.2 ⟨a1, a2 r (List.mem_cons_self ..) hk0'⟩
      ·rw [List.getElem_set_ne e]; exact a1
    ·rename_i hm
     refine .inr ⟨k0, hkl, fun n ⟨a1, a2⟩ => hm ?_⟩
     have := meet_has.2 ⟨a1, a2 r (List.mem_cons_self ..) hk0'⟩
     unfold Span.has at this
     omega
   ·rw [if_neg h0] at h
    split at h
    ·rename_i hc
     exact .inl ⟨r, List.mem_cons_self .., by omega, hc⟩
    ·rcases ih (fun r' hr' => hin r' (List.mem_cons_of_mem _ hr')) h with ⟨r', hr', h1⟩ | ⟨k, hk, h1⟩
     ·exact .inl ⟨r', List.mem_cons_of_mem _ hr', h1⟩
     ·exact .inr ⟨k, hk, fun n ⟨a1, a2⟩ => h1 n ⟨a1, fun r' hr' he => a2 r' (List.mem_cons_of_mem _ hr') he⟩⟩
end
open Classical in
noncomputable def hull (p : Int → Prop) (lo : Int) : Nat → Option Span
 | 0 => none
 | j + 1 => if p (lo + j) then some (match hull p lo j with | none => ⟨lo + j, lo + j⟩ | some s => ⟨s.lo, lo + j⟩) else hull p lo j
theorem hull_none {p : Int → Prop} {lo : Int} {j : Nat} (h : hull p lo j = none) : ∀ n, lo ≤ n → n < lo + j → ¬ p n := by
 induction j with
 | zero => intro n h1 h2; omega
 | succ j ih =>
   simp only [hull] at h
   split at h
   ·cases h
   ·rename_i hp
    intro n h1 h2
    by_cases e : n = lo + j
    ·subst e; exact hp
    ·exact ih h n h1 (by omega)
theorem hull_some {p : Int → Prop} {lo : Int} {j : Nat} {s : Span} (h : hull p lo j = some s) : lo ≤ s.lo ∧ s.lo ≤ s.hi ∧ s.hi < lo + j ∧ p s.lo ∧ p s.hi ∧ ∀ n, lo ≤ n → n < lo + j → p n → s.has n := by
 induction j generalizing s with
 | zero => cases h
 | succ j ih =>
   simp only [hull] at h
   split at h
   ·rename_i hp
    cases hh : hull p lo j with
    | none =>
      rw [hh] at h
      simp only [Option.some.injEq] at h
      subst h
      refine ⟨by simp only; omega, Int.le_refl _, by simp only; omega, hp, hp, fun n h1 h2 h3 => ?_⟩
      by_cases e : n = lo + j
      ·subst e; exact ⟨Int.le_refl _, Int.le_refl _⟩
      ·exact absurd h3 (hull_none hh n h1 (by omega))
    | some t =>
      rw [hh] at h
      simp only [Option.some.injEq] at h
      subst h
      obtain ⟨a1, a2, a3, a4, a5, a6⟩ := ih hh
      refine ⟨a1, by simp only; omega, by simp only; omega, a4, hp, fun n h1 h2 h3 => ?_⟩
      by_cases e : n = lo + j
      ·subst e; exact ⟨by simp only; omega, Int.le_refl _⟩
      ·have := a6 n h1 (by omega) h3
       unfold Span.has at *
       simp only
       omega
   ·rename_i hp
    obtain ⟨a1, a2, a3, a4, a5, a6⟩ := ih h
    refine ⟨a1, a2, by omega, a4, a5, fun n h1 h2 h3 => ?_⟩
    by_cases e : n = lo + j
    ·subst e; exact absurd h3 hp
    ·exact a6 n h1 (by omega) h3
theorem hull_eq {p : Int → Prop} {lo hi : Int} (h : lo ≤ hi) {s : Span} (hs : s.lo ≤ s.hi) (hin : ∀ n, s.has n ↔ (lo ≤ n ∧ n ≤ hi) ∧ p n) : hull p lo (hi - lo + 1).toNat = some s := by
 cases hh : hull p lo (hi - lo + 1).toNat with
 | none =>
   have h1 := (hin s.lo).1 ⟨Int.le_refl _, hs⟩
   exact absurd h1.2 (hull_none hh _ h1.1.1 (by omega))
 | some t =>
   obtain ⟨a1, a2, a3, a4, a5, a6⟩ := hull_some hh
   have h1 := (hin s.lo).1 ⟨Int.le_refl _, hs⟩
   have h2 := (hin s.hi).1 ⟨hs, Int.le_refl _⟩
   have h3 := (hin t.lo).2 ⟨⟨a1, by omega⟩, a4⟩
   have h4 := (hin t.hi).2 ⟨⟨by omega, by omega⟩, a5⟩
   have h5 := a6 s.lo h1.1.1 (by omega) h1.2
   have h6 := a6 s.hi h2.1.1 (by omega) h2.2
   unfold Span.has at *
   obtain ⟨sl, sh⟩ := s
   obtain ⟨tl, th⟩ := t
   simp only [Option.some.injEq, Span.mk.injEq] at *
   omega
theorem hull_no {p : Int → Prop} {lo hi : Int} (hin : ∀ n, ¬ ((lo ≤ n ∧ n ≤ hi) ∧ p n)) : hull p lo (hi - lo + 1).toNat = none := by
 cases hh : hull p lo (hi - lo + 1).toNat with
 | none => rfl
 | some t =>
   obtain ⟨a1, a2, a3, a4, a5, a6⟩ := hull_some hh
   exact absurd ⟨⟨a1, by omega⟩, a4⟩ (hin t.lo)
end Go.Proofs.YtpolpdegpbahiaaGreatDoor
namespace Go.Proofs.YtpolpdegpbahiaaGreatDoor
open Tryz
section
open Go.RowKit
attribute [local go_sem] zAN Oper.grows Oper.growUpon
open Classical in
noncomputable def zCR (P : Nat → Prop) (rs : List Report) : Nat → List Int
 | 0 => []
 | k + 1 => zCR P rs k ++ (if P k then [((rs[k]?).elim 0 (·.num))] else [])
theorem failTo_yes {P : Nat → Prop} {rs : List Report} {k : Nat} (hk : k < rs.length) (h : P k) : zCR P rs (k + 1) = zCR P rs k ++ [rs[k].num] := by
 simp only [zCR, if_pos h, List.getElem?_eq_getElem hk, Option.elim]
theorem failTo_no {P : Nat → Prop} {rs : List Report} {k : Nat} (h : ¬ P k) : zCR P rs (k + 1) = zCR P rs k := by
 simp only [zCR, if_neg h, List.append_nil]
theorem failTo_le (P : Nat → Prop) (rs : List Report) (k : Nat) : (zCR P rs k).length ≤ k := by
 induction k with
 | zero => simp [zCR]
 | succ k ih =>
   simp only [zCR, List.length_append]
   split <;> simp <;> omega
theorem failTo_nil {P : Nat → Prop} {rs : List Report} {k : Nat} : zCR P rs k = [] ↔ ∀ j, j < k → ¬ P j := by
 induction k with
 | zero => simp [zCR]
 | succ k ih =>
   simp only [zCR, List.append_eq_nil_iff, ih]
   constructor
   ·rintro ⟨h1, h2⟩ j hj
    by_cases e : j = k
    ·subst e
     split at h2
     ·cases h2
     ·assumption
    ·exact h1 j (by omega)
   ·intro h
    exact ⟨fun j hj => h j (by omega), by rw [if_neg (h k (by omega))]⟩
theorem failTo_I64 {P : Nat → Prop} {rs : List Report} (h : ∀ x ∈ rs, I64 x.num) (k : Nat) (hk : k ≤ rs.length) : ∀ n ∈ zCR P rs k, I64 n := by
 induction k with
 | zero => simp [zCR]
 | succ k ih =>
   intro n hn
   simp only [zCR, List.mem_append] at hn
   rcases hn with hn | hn
   ·exact ih (by omega) n hn
   ·split at hn
    ·simp [List.getElem?_eq_getElem (show k < rs.length by omega)] at hn
     subst hn
     exact h _ (List.getElem_mem _)
    ·cases hn
def zET (ms : List Int) (rs : List Report) (X : List Has) (T : List (List Int)) (hp n : Int) (i : Nat) : Prop := ∃ (h1 : i < X.length) (h2 : i < rs.length), X[i].h = hp ∧ ¬ zML ms T X[i] rs[i] n
theorem every_bit : ∀ n, n < 17 → ∀ k, k < n → bits BinOp.and IntKind.i64 ((2 ^ n - 1) / 2 ^ k) 1 = 1 := by decide
theorem fails08 (w : World) (vr vn vm vh vs vp vt : Value) (o : Int) (ms : List Int) (rs : List Report) (X : List Has) (T : List (List Int)) (hms : Sl zAJ 1 w vm ms) (hrs : Sl zDD 5 w vs rs) (hV : ViewAt w vp vt X T) (hO : ViewOk ms rs X T) (hr10 : rs.length ≤ 10)
  (hp n : Int) (hn : 0 ≤ n ∧ n ≤ 200) :
  Calls prog 107 #[.agg #[vr, vn, .int .i64 o, vm, vh, vs], .agg #[vp, vt], .int .i64 (2 ^ rs.length - 1), .int .i64 hp, .int .i64 n] w fun e w' =>
   ∃ u, e = .returned u ∧ Sl zAJ 1 w' u (zCR (zET ms rs X T hp n) rs rs.length) ∧ Below w.heap.size w w' := by
 obtain ⟨i0, hi, hz0, hz1, hz2⟩ := info_parts zDM
 obtain ⟨hb1, B1, B2⟩ := zDY w #[vr, vn, .int .i64 o, vm, vh, vs] #[vp, vt] 32 130
 have hb0 := B1 0 vr rfl
 have hb1' := B1 1 vn rfl
 have hb2 := B1 2 (.int .i64 o) rfl
 have hb3 := B1 3 vm rfl
 have hb4 := B1 4 vh rfl
 have hb5 := B1 5 vs rfl
 have d0 := B2 0 vp rfl
 have d1 := B2 1 vt rfl
 clear B1 B2
 have CA := zF (And.intro hb0 (And.intro hb1' (And.intro hb2 (And.intro hb3 (And.intro hb4 (And.intro hb5 (And.intro d0 d1)))))))
 clear hb0 hb1' hb2 hb3 hb4 hb5 d0 d1
 obtain ⟨az, capz, rfl, hmz⟩ := zD hrs
 obtain ⟨ap, capp, rfl, _⟩ := zD hV.reports
 have hms1 := zF (zI zN hb1 hms)
 have hrs1 := zF (zI zAV hb1 hrs)
 have hV1 := zF (hV.ext hb1)
 have HO := zF hO
 have hNum : Hid (∀ x ∈ rs, I64 x.num) := fun x hx => by
  obtain ⟨k, hk, rfl⟩ := List.getElem_of_mem hx
  obtain ⟨_, _, _, _, hr⟩ := (zZ hrs).2 k hk
  exact hr.1
 have HPL := zF hO.len
 clear hms hrs hV hO
 have hwl : w.heap.size + 1 < ((w.alloc (.cells #[vr, vn, .int .i64 o, vm, vh, .slice az rs.length capz] 32)).alloc (.cells #[.slice ap X.length capp, vt] 130)).heap.size := by simp
 go_enter func107, ntmps107
 go_wp2
 generalize (w.alloc _).alloc _ = w1 at *
 have HB1 := zF hb1
 clear hb1
 go_loopw [11, 12] (fun q i wr => ∃ k : Nat, i = .int .i64 k ∧ k ≤ rs.length ∧ wr.ownsRow w1.heap.size 3 1 q (zCR (zET ms rs X T hp n) rs k).length ((zCR (zET ms rs X T hp n) rs k).map (Value.int .i64)) ∧ Below w1.heap.size w1 wr) (fun _ i _ => rs.length - (intOf i).toNat)
 case atStart => exact ⟨0, rfl, by omega, World.ownsRow_nil _ _ _ _, br_⟩
 case round =>
  obtain ⟨k, rfl, hk, hown, hb⟩ := hrel
  have HOWN := zF hown
  have HB := zF hb
  clear hown hb
  have c5 := zC HB.out CA.out.2.2.2.2.2.1
  have c0 := zC HB.out CA.out.1
  have c1 := zC HB.out CA.out.2.1
  have c2 := zC HB.out CA.out.2.2.1
  have c3 := zC HB.out CA.out.2.2.2.1
  have c4 := zC HB.out CA.out.2.2.2.2.1
  have d0 := zC HB.out CA.out.2.2.2.2.2.2.1
  have d1 := zC HB.out CA.out.2.2.2.2.2.2.2
  unfold zJ at c0 c1 c2 c3 c4 c5 d0 d1
  by_cases hlt : k < rs.length
  ·have hkX : k < X.length := by rw [HPL.out]; exact hlt
   obtain ⟨bp, op, rfl, ⟨x0, x1, x2⟩, hxn⟩ := (zZ (zI stays_has HB.out hV1.out.reports)).2 k hkX
   unfold zJ at x0 x1 x2
   have hbit := every_bit rs.length (by omega) k hlt
   have hkl : (k : Int) < X.length := by omega
   have hyes : Hid (zET ms rs X T hp n k → zCR (zET ms rs X T hp n) rs (k + 1) = zCR (zET ms rs X T hp n) rs k ++ [rs[k].num]) := fun h => failTo_yes hlt h
   have hno : Hid (¬ zET ms rs X T hp n k → zCR (zET ms rs X T hp n) rs (k + 1) = zCR (zET ms rs X T hp n) rs k) := fun h => failTo_no h
   have hle := failTo_le (zET ms rs X T hp n) rs k
   by_cases hh : X[k].h = hp
   ·have hh' : (X[k].h == hp) = true := by simpa using hh
    have hcall := zF (holds08 wr vr vn vm vh (.slice az rs.length capz) (.slice (some ⟨bp, op, none⟩) X.length capp) vt o ms rs X T (zI zN HB.out hms1.out) (zI zAV HB.out hrs1.out) (hV1.out.ext HB.out) HO.out k hlt hkX n hn)
    have hfv : Hid (zET ms rs X T hp n k ↔ ¬ zML ms T X[k] rs[k] n) := ⟨fun ⟨_, _, _, h⟩ => h, fun h => ⟨hkX, hlt, hh, h⟩⟩
    generalize X[k] = x at *
    clear hh
    go_wp2_with fail
    refine hcall.out.mono ?_
    intro e w2 hret
    rcases hret.both with ⟨hp1, rfl, hb2⟩ | ⟨hn1, rfl, hb2⟩
    ·have hf := zF (hno.out (fun h => hfv.out.1 h hp1))
     have hbb := zF (zA HB.out hb2)
     have hown2 := zF (zAA hb2 HOWN.out)
     clear hp1 hret hcall hyes hno hfv
     go_wp2
     go_roundw
     ·exact ⟨k + 1, by go_num, by omega, by rw [hf.out]; exact hown2.out, hbb.out⟩
     ·simp [intOf]; omega
    ·have hf := zF (hyes.out (hfv.out.2 hn1))
     have hbb := zA HB.out hb2
     have hown2 := zAA hb2 HOWN.out
     obtain ⟨bz, oz, rfl, ⟨r0, _⟩, _⟩ := (zZ (zI zAV hbb hrs1.out)).2 k hlt
     have c5 := zC hbb CA.out.2.2.2.2.2.1
     clear hn1 hret hcall hyes hno hfv c0 c1 c2 c3 c4 d0 d1 x0 x1 x2
     generalize rs[k].num = q at *
     unfold zJ at r0 c5
     go_wp2_with (at_builtin; refine wpList_append_own _ rfl _ _ 28 rfl w1.heap.size 3 i0 (.int .i64 0) 1 8 underlying28 hi hz0 hz1 hz2 rfl (by decide) _ _ _ rfl (hown2.alloc _) ⟨w2.heap.size, 0, none⟩ 1 1 [.int .i64 q] rfl rfl (cell_one_new _ _ _) (by simp [Value.oneCell']) (by unfold maxLen; omega) (by omega) (by have := hbb.size; simp; omega) ?_; intro v' w4 hown' hgrow _)
     have hb4 := (hbb.alloc hbb.size (.cells #[.int .i64 q] 3)).grown hgrow (by have := hbb.size; simp; omega) (fun k e => (hown2.lt k e).1)
     go_roundw
     ·exact ⟨k + 1, by go_num, by omega, by rw [hf.out]; simpa using hown', hb4⟩
     ·simp [intOf]; omega
   ·have hh' : (X[k].h == hp) = false := by simpa using hh
    have hfv : Hid (¬ zET ms rs X T hp n k) := fun ⟨_, _, h, _⟩ => hh h
    generalize X[k] = x at *
    clear hh
    go_wp2
    go_roundw
    ·exact ⟨k + 1, by go_num, by omega, by rw [hno.out hfv.out]; exact HOWN.out, HB.out⟩
    ·simp [intOf]; omega
  ·go_wp2
   go_ret
   obtain rfl : k = rs.length := by omega
   exact ⟨_, rfl, zBG HOWN.out (failTo_I64 hNum.out _ (Nat.le_refl _)), zA HB1.out HB.out⟩
end
section
open Go.RowKit
attribute [local go_sem] zAN Oper.grows Oper.growUpon
def zKP (ms : List Int) (rs : List Report) (X : List Has) (T : List (List Int)) (k : Int) (n : Int) : Prop := ∀ i, i < rs.length → ¬ zET ms rs X T k n i
noncomputable def zBL (ms : List Int) (rs : List Report) (X : List Has) (T : List (List Int)) (k : Int) (lo : Int) (j : Nat) : Option Span := hull (zKP ms rs X T k) lo j
theorem countsOf_yes {ms : List Int} {rs : List Report} {X : List Has} {T : List (List Int)} {k lo : Int} {j : Nat} (h : zKP ms rs X T k (lo + j)) :
  zBL ms rs X T k lo (j + 1) = some (zFR ((zBL ms rs X T k lo j).getD ⟨0, 0⟩) (zBL ms rs X T k lo j).isSome (lo + j)) := by
 unfold zBL
 simp only [hull, if_pos h]
 cases hh : hull (zKP ms rs X T k) lo j with
 | none => rfl
 | some s =>
   obtain ⟨h1, h2, h3, _⟩ := hull_some hh
   simp only [Option.getD_some, Option.isSome_some, zFR, if_true]
   rw [Int.min_eq_left (by omega), Int.max_eq_right (by omega)]
theorem countsOf_no {ms : List Int} {rs : List Report} {X : List Has} {T : List (List Int)} {k lo : Int} {j : Nat} (h : ¬ zKP ms rs X T k (lo + j)) : zBL ms rs X T k lo (j + 1) = zBL ms rs X T k lo j := by
 unfold zBL
 simp only [hull, if_neg h]
theorem counts08 (w : World) (vr vn vm vh vs vp vt : Value) (o : Int) (ms : List Int) (hs : List Heap) (rs : List Report) (X : List Has) (T : List (List Int)) (hms : Sl zAJ 1 w vm ms) (hhs : Sl zHA 4 w vh hs) (hrs : Sl zDD 5 w vs rs) (hV : ViewAt w vp vt X T) (hO : ViewOk ms rs X T) (hr10 : rs.length ≤ 10)
  (k : Nat) (hk : k < hs.length) (hb : 0 ≤ hs[k].lo ∧ hs[k].lo ≤ hs[k].hi ∧ hs[k].hi ≤ 200) :
  Calls prog 62 #[.agg #[vr, vn, .int .i64 o, vm, vh, vs], .agg #[vp, vt], .int .i64 (2 ^ rs.length - 1), .int .i64 k] w fun e w' =>
   e = .returned (.tuple #[.agg #[.int .i64 ((zBL ms rs X T k hs[k].lo (hs[k].hi - hs[k].lo + 1).toNat).getD ⟨0, 0⟩).lo, .int .i64 ((zBL ms rs X T k hs[k].lo (hs[k].hi - hs[k].lo + 1).toNat).getD ⟨0, 0⟩).hi], .bool (zBL ms rs X T k hs[k].lo (hs[k].hi - hs[k].lo + 1).toNat).isSome]) ∧ Below w.heap.size w w' := by
 obtain ⟨hb1, B1, B2⟩ := zDY w #[vr, vn, .int .i64 o, vm, vh, vs] #[vp, vt] 32 130
 have hb0 := B1 0 vr rfl
 have hb1' := B1 1 vn rfl
 have hb2 := B1 2 (.int .i64 o) rfl
 have hb3 := B1 3 vm rfl
 have hb4 := B1 4 vh rfl
 have hb5 := B1 5 vs rfl
 have d0 := B2 0 vp rfl
 have d1 := B2 1 vt rfl
 clear B1 B2
 have CA := zF (And.intro hb0 (And.intro hb1' (And.intro hb2 (And.intro hb3 (And.intro hb4 (And.intro hb5 (And.intro d0 d1)))))))
 obtain ⟨ah, caph, rfl, hmh⟩ := zD hhs
 obtain ⟨bh, oh, rfl, ⟨_, _, h2, h3⟩, _⟩ := (zZ (zI zCL hb1 hhs)).2 k hk
 have hms1 := zF (zI zN hb1 hms)
 have hrs1 := zF (zI zAV hb1 hrs)
 have hV1 := zF (hV.ext hb1)
 have HO := zF hO
 have CH := zF (And.intro h2 h3)
 have hkh : (k : Int) < hs.length := by omega
 clear hms hrs hV hO hhs
 generalize hs[k].lo = lo at *
 generalize hs[k].hi = hi at *
 unfold zJ at hb4 h2
 clear hb0 hb1' hb2 hb3 hb5 d0 d1 h3
 have L1 := Lay.new ((w.alloc (.cells #[vr, vn, .int .i64 o, vm, .slice (some ⟨bh, oh, none⟩) hs.length caph, vs] 32)).alloc (.cells #[vp, vt] 130)) 38 #[.int .i64 0, .int .i64 0]
 have L2 := Lay.new (((w.alloc (.cells #[vr, vn, .int .i64 o, vm, .slice (some ⟨bh, oh, none⟩) hs.length caph, vs] 32)).alloc (.cells #[vp, vt] 130)).alloc (.cells #[.int .i64 0, .int .i64 0] 38)) 38 #[.int .i64 0, .int .i64 0]
 replace L1 := L1.ext (zB _ (.cells #[.int .i64 0, .int .i64 0] 38))
 simp only [World.size_alloc] at L1 L2
 have hwl : ((w.alloc (.cells #[vr, vn, .int .i64 o, vm, .slice (some ⟨bh, oh, none⟩) hs.length caph, vs] 32)).alloc (.cells #[vp, vt] 130)).heap.size = w.heap.size + 1 + 1 := by simp
 have hbn := zA (zB ((w.alloc (.cells #[vr, vn, .int .i64 o, vm, .slice (some ⟨bh, oh, none⟩) hs.length caph, vs] 32)).alloc (.cells #[vp, vt] 130)) (.cells #[.int .i64 0, .int .i64 0] 38)) (zB _ (.cells #[.int .i64 0, .int .i64 0] 38))
 have hb4n := zC hbn hb4
 have h2n := zC hbn h2
 unfold zJ at hb4n h2n
 go_enter func62, ntmps62
 go_wp2
 generalize (w.alloc _).alloc _ = w1 at *
 generalize (w1.alloc _).alloc _ = w3 at *
 have HB1 := zF hb1
 have HL1 := zF L1
 have HL2 := zF L2
 have HBN := zF hbn
 have HH4 := zF (And.intro hb4 h2)
 have hn0 : Hid (zBL ms rs X T k lo 0 = none) := rfl
 clear hb4n h2n hb1 L1 L2 hbn hb4 h2
 go_loopw [11, 12] (fun f i wr => ∃ (j : Nat) (s : Span), i = .int .i64 (lo + j) ∧ j ≤ (hi - lo + 1).toNat ∧ f = .bool (zBL ms rs X T k lo j).isSome ∧ Hid (s = (zBL ms rs X T k lo j).getD ⟨0, 0⟩) ∧
  Lay wr (w.heap.size + 1 + 1 + 1) #[.int .i64 s.lo, .int .i64 s.hi] 38 ∧ Lay wr (w.heap.size + 1 + 1) #[.int .i64 0, .int .i64 0] 38 ∧ Below w1.heap.size w1 wr) (fun _ i _ => (hi + 1 - intOf i).toNat)
 case atStart => exact ⟨0, ⟨0, 0⟩, by simp, by omega, by rw [hn0.out]; rfl, by rw [hn0.out]; rfl, HL2.out, HL1.out, HBN.out⟩
 case round =>
  obtain ⟨j, s, rfl, hj, rfl, HS, hL2, hL1, hb⟩ := hrel
  have HB := zF hb
  have c4 := zC HB.out CA.out.2.2.2.2.1
  have c0 := zC HB.out CA.out.1
  have c1 := zC HB.out CA.out.2.1
  have c2 := zC HB.out CA.out.2.2.1
  have c3 := zC HB.out CA.out.2.2.2.1
  have c5 := zC HB.out CA.out.2.2.2.2.2.1
  have d0 := zC HB.out CA.out.2.2.2.2.2.2.1
  have d1 := zC HB.out CA.out.2.2.2.2.2.2.2
  have h3 := zC HB.out CH.out.2
  have q0 : wr.cell? ⟨w.heap.size + 1 + 1 + 1, 0, none⟩ = some (.int .i64 s.lo) := hL2.cell 0 _ rfl
  have q1 : wr.cell? ⟨w.heap.size + 1 + 1 + 1, 1, none⟩ = some (.int .i64 s.hi) := hL2.cell 1 _ rfl
  have HLL := zF (And.intro hL1 hL2)
  unfold zJ at c0 c1 c2 c3 c4 c5 d0 d1 h3
  clear hb hL1 hL2
  by_cases hlt : lo + j ≤ hi
  ·have hyes : Hid (zKP ms rs X T k (lo + j) → zBL ms rs X T k lo (j + 1) = some (zFR s (zBL ms rs X T k lo j).isSome (lo + j))) := fun h => by rw [countsOf_yes h, HS.out]
   have hno : Hid (¬ zKP ms rs X T k (lo + j) → zBL ms rs X T k lo (j + 1) = zBL ms rs X T k lo j) := fun h => countsOf_no h
   have hcall := zF (fails08 wr vr vn vm (.slice (some ⟨bh, oh, none⟩) hs.length caph) vs vp vt o ms rs X T (zI zN HB.out hms1.out) (zI zAV HB.out hrs1.out) (hV1.out.ext HB.out) HO.out hr10 k (lo + j) (by omega))
   have hnil : Hid (zCR (zET ms rs X T k (lo + j)) rs rs.length = [] ↔ zKP ms rs X T k (lo + j)) := failTo_nil
   generalize zCR (zET ms rs X T k (lo + j)) rs rs.length = F at *
   go_wp2_with fail
   clear c0 c1 c2 c3 c4 c5 d0 d1 h3 q0 q1
   refine hcall.out.mono ?_
   rintro e w2 ⟨u, rfl, hu, hb2⟩
   obtain ⟨au, cu, rfl, hmu⟩ := zD hu
   have hbb := zF (zA HB.out hb2)
   have hLL := zF (And.intro (HLL.out.1.ext hb2) (HLL.out.2.ext hb2))
   clear hu hb2 hcall HLL HB
   by_cases hF : F = []
   ·have hP := hnil.out.1 hF
    have hnew := zF (hyes.out hP)
    have hF0 : (F.length : Int) = 0 := by rw [hF]; rfl
    have q0 := hLL.out.2.cell 0 _ rfl
    have q1 := hLL.out.2.cell 1 _ rfl
    clear hF hP hyes hno hnil
    go_wp2_with fail
    clear q0 q1
    refine (wider08 w2 s _ _).mono ?_
    rintro e w4 ⟨rfl, hb4⟩
    have hb5 := zF (zA hbb.out hb4)
    have hL1 := hLL.out.1.ext hb4
    have hL2 := hLL.out.2.ext hb4
    clear hb4 hLL hbb
    have q0 := hL2.cell 0 _ rfl
    have q1 := hL2.cell 1 _ rfl
    have f0 := hL2.frozen 0
    have f1 := hL2.frozen 1
    have hl := hL2.lt
    have HW : Hid (zBL ms rs X T k lo (j + 1) = some (zFR s (zBL ms rs X T k lo j).isSome (lo + j))) := hnew
    clear hnew
    generalize zFR s (zBL ms rs X T k lo j).isSome (lo + j) = z at *
    have HL2' := zF (zBC (zBC hL2 0 (.int .i64 z.lo)) 1 (.int .i64 z.hi))
    have HL1' := zF (zBD (zBD hL1 (show w.heap.size + 1 + 1 ≠ w.heap.size + 1 + 1 + 1 by omega) 0 (.int .i64 z.lo)) (show w.heap.size + 1 + 1 ≠ w.heap.size + 1 + 1 + 1 by omega) 1 (.int .i64 z.hi))
    have hle : w1.heap.size ≤ w.heap.size + 1 + 1 + 1 := by omega
    have HB' := zF (zH (j := 1) (u := .int .i64 z.hi) hle (zH (j := 0) (u := .int .i64 z.lo) hle hb5.out))
    clear hL1 hL2 hb5
    go_wp2
    go_roundw
    ·exact ⟨j + 1, z, by go_num, by omega, by rw [HW.out]; rfl, by rw [HW.out]; rfl, HL2'.out, HL1'.out, HB'.out⟩
    ·simp [intOf]; omega
   ·have hnew := zF (hno.out (fun h => hF (hnil.out.2 h)))
    have hF0 : 0 < (F.length : Int) := by
     have := List.length_pos_iff.2 hF
     omega
    clear hF hyes hno hnil
    go_wp2
    go_roundw
    ·exact ⟨j + 1, s, by go_num, by omega, by rw [hnew.out], by rw [hnew.out]; exact HS, hLL.out.2, hLL.out.1, hbb.out⟩
    ·simp [intOf]; omega
  ·obtain rfl : j = (hi - lo + 1).toNat := by omega
   have f0 := HLL.out.1.frozen 0
   have f1 := HLL.out.1.frozen 1
   have p0 : wr.cell? ⟨w.heap.size + 1 + 1, 0, none⟩ = some (.int .i64 0) := HLL.out.1.cell 0 _ rfl
   have p1 : wr.cell? ⟨w.heap.size + 1 + 1, 1, none⟩ = some (.int .i64 0) := HLL.out.1.cell 1 _ rfl
   have hl := HLL.out.1.lt
   have hle : w.heap.size ≤ w.heap.size + 1 + 1 := by omega
   have HB' := zF (zH (j := 1) (u := .int .i64 s.hi) hle (zH (j := 0) (u := .int .i64 s.lo) hle (zA HB1.out HB.out)))
   clear HLL
   go_wp2
   refine bodyPost_ret (v := .tuple #[.agg #[.int .i64 s.lo, .int .i64 s.hi], .bool (zBL ms rs X T k lo (hi - lo + 1).toNat).isSome]) (by simp [results, results62, go_sem, p0, p1, hl]) rfl ?_
   exact ⟨by rw [← HS.out], HB'.out⟩
end
section
open Go.RowKit
noncomputable def zHL (ms : List Int) (hs : List Heap) (rs : List Report) (X : List Has) (T : List (List Int)) (k : Nat) : Option Span := (hs[k]?).elim none fun h => zBL ms rs X T k h.lo (h.hi - h.lo + 1).toNat
theorem countsV_at {ms : List Int} {hs : List Heap} {rs : List Report} {X : List Has} {T : List (List Int)} {k : Nat} (hk : k < hs.length) : zHL ms hs rs X T k = zBL ms rs X T k hs[k].lo (hs[k].hi - hs[k].lo + 1).toNat := by
 unfold zHL
 rw [List.getElem?_eq_getElem hk]
 rfl
def leftV (ms : List Int) (hs : List Heap) (rs : List Report) (X : List Has) (T : List (List Int)) : Prop := (∀ k, k < hs.length → zHL ms hs rs X T k ≠ none) ∧ zKP ms rs X T (-1) 0
theorem left08 (w : World) (vr vn vm vh vs vp vt : Value) (o : Int) (ms : List Int) (hs : List Heap) (rs : List Report) (X : List Has) (T : List (List Int)) (hms : Sl zAJ 1 w vm ms) (hhs : Sl zHA 4 w vh hs) (hrs : Sl zDD 5 w vs rs) (hV : ViewAt w vp vt X T) (hO : ViewOk ms rs X T) (hr10 : rs.length ≤ 10)
  (hb : ∀ k (hk : k < hs.length), 0 ≤ hs[k].lo ∧ hs[k].lo ≤ hs[k].hi ∧ hs[k].hi ≤ 200) :
  Calls prog 61 #[.agg #[vr, vn, .int .i64 o, vm, vh, vs], .agg #[vp, vt], .int .i64 (2 ^ rs.length - 1)] w (zAK (leftV ms hs rs X T) w) := by
 obtain ⟨hb1, B1, B2⟩ := zDY w #[vr, vn, .int .i64 o, vm, vh, vs] #[vp, vt] 32 130
 have hb0 := B1 0 vr rfl
 have hb1' := B1 1 vn rfl
 have hb2 := B1 2 (.int .i64 o) rfl
 have hb3 := B1 3 vm rfl
 have hb4 := B1 4 vh rfl
 have hb5 := B1 5 vs rfl
 have d0 := B2 0 vp rfl
 have d1 := B2 1 vt rfl
 clear B1 B2
 have CA := zF (And.intro hb0 (And.intro hb1' (And.intro hb2 (And.intro hb3 (And.intro hb4 (And.intro hb5 (And.intro d0 d1)))))))
 obtain ⟨ah, caph, rfl, hmh⟩ := zD hhs
 have hms1 := zF (zI zN hb1 hms)
 have hrs1 := zF (zI zAV hb1 hrs)
 have hhs1 := zF (zI zCL hb1 hhs)
 have hV1 := zF (hV.ext hb1)
 have HO := zF hO
 have HLO := zF hb
 clear hms hrs hV hO hhs hb0 hb1' hb2 hb3 hb4 hb5 d0 d1 hb
 have hwl : w.heap.size + 1 < ((w.alloc (.cells #[vr, vn, .int .i64 o, vm, .slice ah hs.length caph, vs] 32)).alloc (.cells #[vp, vt] 130)).heap.size := by simp
 go_enter func61, ntmps61
 go_wp2
 generalize (w.alloc _).alloc _ = w1 at *
 have HB1 := zF hb1
 clear hb1
 go_loopw [7] (fun i wr => ∃ j : Nat, i = .int .i64 j ∧ j ≤ hs.length ∧ Hid (∀ k, k < j → zHL ms hs rs X T k ≠ none) ∧ Below w1.heap.size w1 wr) (fun i _ => hs.length - (intOf i).toNat)
 case atStart => exact ⟨0, rfl, by omega, fun k hk => absurd hk (by omega), br_⟩
 case round =>
  obtain ⟨j, rfl, hj, HALL, hb⟩ := hrel
  have HB := zF hb
  have c0 := zC HB.out CA.out.1
  have c1 := zC HB.out CA.out.2.1
  have c2 := zC HB.out CA.out.2.2.1
  have c3 := zC HB.out CA.out.2.2.2.1
  have c4 := zC HB.out CA.out.2.2.2.2.1
  have c5 := zC HB.out CA.out.2.2.2.2.2.1
  have d0 := zC HB.out CA.out.2.2.2.2.2.2.1
  have d1 := zC HB.out CA.out.2.2.2.2.2.2.2
  unfold zJ at c0 c1 c2 c3 c4 c5 d0 d1
  by_cases hlt : j < hs.length
  ·have hcall := zF (counts08 wr vr vn vm (.slice ah hs.length caph) vs vp vt o ms hs rs X T (zI zN HB.out hms1.out) (zI zCL HB.out hhs1.out) (zI zAV HB.out hrs1.out) (hV1.out.ext HB.out) HO.out hr10 j hlt (HLO.out j hlt))
   rw [← countsV_at hlt] at hcall
   have hsnoc : Hid (zHL ms hs rs X T j ≠ none → ∀ k, k < j + 1 → zHL ms hs rs X T k ≠ none) := fun h k hk => by
    by_cases e : k = j
    ·subst e; exact h
    ·exact HALL.out k (by omega)
   have hout : Hid (zHL ms hs rs X T j = none → ¬ leftV ms hs rs X T) := fun h hl => hl.1 j hlt h
   generalize zHL ms hs rs X T j = C at *
   go_wp2_with fail
   clear c0 c1 c2 c3 c4 c5 d0 d1
   refine hcall.out.mono ?_
   rintro e w2 ⟨rfl, hb2⟩
   have HB2 := zF (zA HB.out hb2)
   clear hb hb2 hcall
   cases C with
   | none =>
     have hn := zF (hout.out rfl)
     clear hout hsnoc
     go_wp2
     go_ret
     refine zAK.f hn.out (zA HB1.out (zA HB2.out ?_))
     exact zB _ _
   | some s =>
     have hn := zF (hsnoc.out (by simp))
     clear hout hsnoc
     simp only [Option.getD_some, Option.isSome_some]
     go_wp2
     go_roundw
     ·exact ⟨j + 1, by go_num, by omega, hn, zA HB2.out (zB _ _)⟩
     ·simp [intOf]; omega
  ·obtain rfl : j = hs.length := by omega
   have hcall := zF (fails08 wr vr vn vm (.slice ah hs.length caph) vs vp vt o ms rs X T (zI zN HB.out hms1.out) (zI zAV HB.out hrs1.out) (hV1.out.ext HB.out) HO.out hr10 (-1) 0 (by omega))
   have hnil : Hid (zCR (zET ms rs X T (-1) 0) rs rs.length = [] ↔ leftV ms hs rs X T) := failTo_nil.trans ⟨fun h => ⟨HALL.out, h⟩, fun h => h.2⟩
   generalize zCR (zET ms rs X T (-1) 0) rs rs.length = F at *
   go_wp2_with fail
   clear c0 c1 c2 c3 c4 c5 d0 d1
   refine hcall.out.mono ?_
   rintro e w2 ⟨u, rfl, hu, hb2⟩
   obtain ⟨au, cu, rfl, hmu⟩ := zD hu
   have hbb := zF (zA HB1.out (zA HB.out hb2))
   clear hu hb2 hcall hb
   have hF : Hid (F = [] ↔ F.length = 0) := List.length_eq_zero_iff.symm
   go_wp2
   go_ret
   exact ⟨_, rfl, by rw [← hnil.out, hF.out]; simp, hbb.out⟩
end
section
open Go.RowKit
attribute [local go_sem] zAN Oper.grows Oper.growUpon
def TupF (x : Issue) (W : World) (v : Value) : Prop := ∃ vi vd, v = .tuple #[.agg #[.int .i64 x.d, .int .i64 x.l, .int .u8 x.k, vi, vd], .bool true] ∧ IssueAt W vi vd x
def AggF (x : Issue) (W : World) (v : Value) : Prop := ∃ vi vd, v = .agg #[.int .i64 x.d, .int .i64 x.l, .int .u8 x.k, vi, vd] ∧ IssueAt W vi vd x
def NewIss (base : Nat) (v : Value) (w : World) : Prop := ∃ b, v = .pointer (some ⟨b, 0, none⟩) ∧ base ≤ b ∧ Lay w b #[.int .i64 0, .int .i64 0, .int .u8 0, .slice none 0 0, .slice none 0 0] 107
theorem lay_set5 {W : World} {B : Nat} {x0 x1 x2 x3 x4 : Value} {t : TypeId} (h : Lay W B #[x0, x1, x2, x3, x4] t) (u0 u1 u2 u3 u4 : Value) :
  Lay (((((W.setCell ⟨B, 0, none⟩ u0).setCell ⟨B, 1, none⟩ u1).setCell ⟨B, 2, none⟩ u2).setCell ⟨B, 3, none⟩ u3).setCell ⟨B, 4, none⟩ u4) B #[u0, u1, u2, u3, u4] t := by
 have s : ∀ (W : World) (cs : Array Value) (j : Nat) (u : Value), Lay W B cs t → Lay (W.setCell ⟨B, j, none⟩ u) B (cs.setIfInBounds j u) t := fun W cs j u h => heap_setCell_same W B j cs t u h
 exact s _ _ 4 u4 (s _ _ 3 u3 (s _ _ 2 u2 (s _ _ 1 u1 (s _ _ 0 u0 h))))
theorem lay_other5 {W : World} {B G : Nat} {cs : Array Value} {t : TypeId} (h : Lay W B cs t) (hne : B ≠ G) (u0 u1 u2 u3 u4 : Value) :
  Lay (((((W.setCell ⟨G, 0, none⟩ u0).setCell ⟨G, 1, none⟩ u1).setCell ⟨G, 2, none⟩ u2).setCell ⟨G, 3, none⟩ u3).setCell ⟨G, 4, none⟩ u4) B cs t := by
 have s : ∀ (W : World) (j : Nat) (u : Value), Lay W B cs t → Lay (W.setCell ⟨G, j, none⟩ u) B cs t := fun W j u h => (Below.heap_setCell W ⟨G, j, none⟩ u B (by simpa using hne)).trans h
 exact s _ _ _ (s _ _ _ (s _ _ _ (s _ _ _ (s _ _ _ h))))
theorem index02_at (w : World) (v : Value) (l : List Int) (n : Int) (h : Sl zAJ 1 w v l) (hn : n ∈ l) :
  Calls prog 80 #[v, .int .i64 n] w fun e w' => e = .returned (.int .i64 (l.idxOf n : Nat)) ∧ Below w.heap.size w w' := by
 refine (zLY w v l n h).mono ?_
 rintro e w' ⟨rfl, rfl⟩
 exact ⟨by rw [zPY l n hn], br_⟩
theorem taken02 (w0 w : World) (vr vl : Value) (R : List Issue) (lt : Int → Int) (d : Int) (x : Issue) (hr0 : Sl zAU 5 w0 vr R) (hb0 : Below w0.heap.size w0 w) (hl : Sl zAJ 1 w vl ((nums R).map lt)) (hR : R.length ≤ 1000) (hd : d ∈ nums R) (hx : zDB R d (lt d) = some x) :
  Calls prog 195 #[.agg #[vr], vl, .int .i64 d] w fun e w' => ∃ vi vd, e = .returned (.agg #[.int .i64 x.d, .int .i64 x.l, .int .u8 x.k, vi, vd]) ∧ IssueAt w0 vi vd x ∧ Below w.heap.size w w' := by
 have hr := zI zP hb0 hr0
 obtain ⟨hb1, B1, B2⟩ := zDY w #[vr] #[.int .i64 0, .int .i64 0, .int .u8 0, .slice none 0 0, .slice none 0 0] 24 107
 have c0 := B1 0 vr rfl
 have L0 := Lay.new (w.alloc (.cells #[vr] 24)) 107 #[.int .i64 0, .int .i64 0, .int .u8 0, .slice none 0 0, .slice none 0 0]
 rw [World.size_alloc] at L0
 clear B1 B2
 obtain ⟨ar, capr, rfl, hmr⟩ := zD hr
 obtain ⟨al, capl, rfl, hml⟩ := zD hl
 have hix : (nums R).idxOf d < (nums R).length := List.idxOf_lt_length_of_mem hd
 have hixm : (nums R).idxOf d < ((nums R).map lt).length := by rw [List.length_map]; exact hix
 obtain ⟨bl, ol, rfl, hcl, _⟩ := (zZ hl).2 _ hixm
 have hval : ((nums R).map lt)[(nums R).idxOf d] = lt d := by rw [List.getElem_map]; congr 1; exact List.getElem_idxOf hix
 rw [hval] at hcl
 have hr1 := zF (zI zP hb1 hr)
 have HR0 := zF hr0
 have HB0 := zF hb0
 have hc1 := zC hb1 hcl
 have HX := zF hx
 have HD := zF hd
 have HB1 := zF hb1
 have C0 := zF c0
 have HL0 := zF L0
 clear hr hr0 hb0 hl hcl hval hx hd c0 hb1 L0
 rw [List.length_map] at *
 generalize hixe : (nums R).idxOf d = ix at *
 have HIX := zF hixe
 clear hixe
 go_enter func195, ntmps195
 go_wp2
 generalize (w.alloc _).alloc _ = w1 at *
 have c0 : ∀ xq, (w1.later xq).cell? ⟨w.heap.size, 0, none⟩ = some (.slice ar R.length capr) := fun xq => zC (zE w1 xq) C0.out
 have c1 : ∀ xq, (w1.later xq).cell? ⟨bl, ol + ix, none⟩ = some (.int .i64 (lt d)) := fun xq => by
  have := zC (zE w1 xq) hc1
  rw [Nat.mul_one] at this
  exact this
 have hixl : (ix : Int) < (nums R).length := by omega
 refine zGC 15 13 (by kernel_rfl) (by kernel_rfl) rfl rfl (fun v => v = .bool true) ?_
 simp only [tk_]
 iterate 4 (apply gx_; focus (intro vs xq hd; (try simp [hq_] at hd); simp only [pf_]; go_simp; exact ⟨br_, rfl⟩))
 refine zL (fun v w' => Hid (Sl zAJ 1 w' v (nums R))) (fun v w w' hb h => zF (zI zN hb h.out)) ?_ ?_
 ·intro vs xq hd
  (try simp [hq_] at hd)
  simp only [pf_]
  go_simp
  refine (zFK _ _ R (zI zP (zE w1 xq) hr1.out) hR).mono ?_
  rintro e w9 ⟨u, rfl, hu, hb⟩
  exact ⟨u, rfl, hb, zF hu⟩
 apply gx_; focus (intro vs xq hd; (try simp [hq_] at hd); simp only [pf_]; go_simp; exact ⟨br_, rfl⟩)
 refine zAE ?_
 apply Exists.intro
 refine ⟨fun vs xq hd => ?_, ?_⟩
 ·(try simp [hq_] at hd)
  have k4 := hd.1
  simp only [pf_]
  go_simp
  refine (index02_at _ _ (nums R) d k4.out HD.out).mono ?_
  rintro e w9 ⟨rfl, hb9⟩
  rw [HIX.out]
  exact ⟨rfl, hb9⟩
 iterate 3 (apply gx_; focus (intro vs xq hd; (try simp [hq_] at hd); simp only [pf_]; go_simp; exact ⟨br_, rfl⟩))
 refine zL (fun v _ => TupF x w0 v) (fun v w w' hb h => h) ?_ ?_
 ·intro vs xq hd
  (try simp [hq_] at hd)
  simp only [pf_]
  go_simp
  refine (find02w w0 _ _ R d (lt d) HR0.out (zA HB0.out (zA HB1.out (zE w1 xq)))).mono ?_
  rintro e w9 ⟨hb9, hf⟩
  rcases hf with ⟨y, vi, vd, h1, rfl, h3⟩ | ⟨h1, _⟩
  ·have hyx : y = x := by rw [HX.out] at h1; cases h1; rfl
   subst hyx
   exact ⟨_, rfl, hb9, vi, vd, rfl, h3⟩
  ·rw [HX.out] at h1; cases h1
 refine zL (fun v _ => TupF x w0 v) (fun v w w' hb h => h) ?_ ?_
 ·intro vs xq hd
  (try simp [hq_] at hd)
  simp only [pf_]
  go_simp
  exact br_
 refine zL (fun v _ => AggF x w0 v) (fun v w w' hb h => h) ?_ ?_
 ·intro vs xq hd
  (try simp [hq_] at hd)
  simp only [pf_]
  obtain ⟨vi, vd, e, hI⟩ := hd
  rw [e]
  go_simp
  exact ⟨br_, vi, vd, rfl, hI⟩
 refine zL (fun v _ => v = .bool true) (fun v w w' hb h => h) ?_ ?_
 ·intro vs xq hd
  (try simp [hq_] at hd)
  simp only [pf_]
  obtain ⟨vi, vd, e, hI⟩ := hd
  rw [e]
  go_simp
  exact br_
 refine zL (NewIss w1.heap.size) (fun v w w' hb h => by obtain ⟨b, e, h1, h2⟩ := h; exact ⟨b, e, h1, h2.ext hb⟩) ?_ ?_
 ·intro vs xq hd
  (try simp [hq_] at hd)
  simp only [pf_]
  go_simp
  exact ⟨zB _ _, _, rfl, (zE w1 xq).size, Lay.new _ _ _⟩
 refine ⟨fun v w h => h, fun vs w8 w9 hd => ?_, fun vs w8 hb8 hf => ?_⟩
 ·simp [Oper.waitsOn, Region.binds, List.filter_cons, List.filter_nil, zAD] at hd
  obtain ⟨vi, vd, e, hI⟩ := hd
  refine ⟨.bool true, ?_, rfl⟩
  simp only [pf_]
  rw [e]
  go_simp
 ·have h12 := hf 12 (by decide) (by decide)
  have h14 := hf 14 (by decide) (by decide)
  simp [zAD] at h12 h14
  clear hf
  obtain ⟨vi, vd, e12, hI⟩ := h12
  obtain ⟨gb, e14, hgb, hLb⟩ := h14
  obtain ⟨ai, capi, rfl, _⟩ := zD hI.items
  obtain ⟨ad, capd, rfl, _⟩ := zD hI.dims
  have HI := zF hI
  have HLB := zF hLb
  have q0 := hLb.cell 0 _ rfl
  have q1 := hLb.cell 1 _ rfl
  have q2 := hLb.cell 2 _ rfl
  have q3 := hLb.cell 3 _ rfl
  have q4 := hLb.cell 4 _ rfl
  have f0 := hLb.frozen 0
  have f1 := hLb.frozen 1
  have f2 := hLb.frozen 2
  have f3 := hLb.frozen 3
  have f4 := hLb.frozen 4
  have hl := hLb.lt
  clear hLb hI c0 c1
  simp only [pf_]
  rw [e12, e14]
  go_simp
  (try simp only [List.drop_succ_cons, List.drop_zero])
  have hL5 := lay_set5 HLB.out (.int .i64 x.d) (.int .i64 x.l) (.int .u8 x.k) (.slice ai x.items.length capi) (.slice ad x.dims.length capd)
  have hg1 := HL0.out.lt
  have hL1 := lay_other5 (G := gb) (HL0.out.ext hb8) (by omega) (.int .i64 x.d) (.int .i64 x.l) (.int .u8 x.k) (.slice ai x.items.length capi) (.slice ad x.dims.length capd)
  have hbw : Below w1.heap.size w1 (((((w8.setCell ⟨gb, 0, none⟩ (.int .i64 x.d)).setCell ⟨gb, 1, none⟩ (.int .i64 x.l)).setCell ⟨gb, 2, none⟩ (.int .u8 x.k)).setCell ⟨gb, 3, none⟩ (.slice ai x.items.length capi)).setCell ⟨gb, 4, none⟩ (.slice ad x.dims.length capd)) :=
   zH hgb (zH hgb (zH hgb (zH hgb (zH hgb hb8))))
  clear q0 q1 q2 q3 q4 f0 f1 f2 f3 f4 hl
  generalize ((((w8.setCell ⟨gb, 0, none⟩ (.int .i64 x.d)).setCell ⟨gb, 1, none⟩ (.int .i64 x.l)).setCell ⟨gb, 2, none⟩ (.int .u8 x.k)).setCell ⟨gb, 3, none⟩ (.slice ai x.items.length capi)).setCell ⟨gb, 4, none⟩ (.slice ad x.dims.length capd) = w5 at *
  have q0 := hL5.cell 0 _ rfl
  have q1 := hL5.cell 1 _ rfl
  have q2 := hL5.cell 2 _ rfl
  have q3 := hL5.cell 3 _ rfl
  have q4 := hL5.cell 4 _ rfl
  have s0 := hL1.cell 0 _ rfl
  have s1 := hL1.cell 1 _ rfl
  have s2 := hL1.cell 2 _ rfl
  have s3 := hL1.cell 3 _ rfl
  have s4 := hL1.cell 4 _ rfl
  have h0 := hL1.frozen 0
  have h1 := hL1.frozen 1
  have h2 := hL1.frozen 2
  have h3 := hL1.frozen 3
  have h4 := hL1.frozen 4
  have hl1 := hL1.lt
  have hwb := zF (zA HB1.out hbw)
  clear hL5 hL1 hbw hb8
  go_wp2
  have hle : w.heap.size ≤ w.heap.size + 1 := Nat.le_succ _
  have hW := zH (j := 4) (u := .slice ad x.dims.length capd) hle (zH (j := 3) (u := .slice ai x.items.length capi) hle (zH (j := 2) (u := .int .u8 x.k) hle (zH (j := 1) (u := .int .i64 x.l) hle (zH (j := 0) (u := .int .i64 x.d) hle hwb.out))))
  refine bodyPost_ret (v := .agg #[.int .i64 x.d, .int .i64 x.l, .int .u8 x.k, .slice ai x.items.length capi, .slice ad x.dims.length capd]) ?_ rfl ⟨_, _, rfl, HI.out, hW⟩
  simp [results, results195, go_sem, s0, s1, s2, s3, s4, hl1]
end
end Go.Proofs.YtpolpdegpbahiaaGreatDoor
namespace Go.Proofs.YtpolpdegpbahiaaGreatDoor
theorem issFold_acc (f : Int → Int) (x : Issue) (m : Nat) (acc : Int) : acc ≤ zDT f x m acc := by
 induction m with
 | zero => exact Int.le_refl _
 | succ m ih =>
   simp only [zDT]
   split
   ·exact ih
   ·omega
theorem issFold_ge (f : Int → Int) (x : Issue) (m : Nat) (acc : Int) (j : Nat) (hj : j < m) (y : Item) (hy : x.items[j]? = some y) : 1 + f y.d ≤ zDT f x m acc := by
 induction m with
 | zero => omega
 | succ m ih =>
   simp only [zDT]
   by_cases e : j = m
   ·subst e
    rw [hy]
    simp only
    omega
   ·have := ih (by omega)
    split
    ·exact this
    ·omega
theorem accTo_step (R : List Issue) (f : Int → Int) (k : Nat) (n : Int) : zDU R f k n ≤ zDU R f (k + 1) n := by
 simp only [zDU]
 split
 ·exact Int.le_refl _
 ·rename_i x _
  split
  ·rename_i h
   subst h
   have := issFold_acc f x x.items.length (max (zDU R f k x.d) 1)
   omega
  ·exact Int.le_refl _
theorem accTo_mono (R : List Issue) (f : Int → Int) (k m : Nat) (h : k ≤ m) (n : Int) : zDU R f k n ≤ zDU R f m n := by
 induction m with
 | zero =>
   obtain rfl : k = 0 := by omega
   exact Int.le_refl _
 | succ m ih =>
   by_cases e : k = m + 1
   ·subst e; exact Int.le_refl _
   ·exact Int.le_trans (ih (by omega)) (accTo_step R f m n)
theorem zJJ {R : List Issue} {x : Issue} (hx : x ∈ R) {y : Item} (hy : y ∈ x.items) (f : Nat) : 1 + dep R f y.d ≤ dep R (f + 1) x.d := by
 obtain ⟨k, hk, rfl⟩ := List.getElem_of_mem hx
 obtain ⟨j, hj, hy'⟩ := List.getElem_of_mem hy
 have h1 := accTo_mono R (dep R f) (k + 1) R.length (by omega) R[k].d
 simp only [dep]
 refine Int.le_trans ?_ h1
 rw [zOB R (dep R f) k hk, mid_at]
 exact issFold_ge _ _ _ _ j hj y (by rw [List.getElem?_eq_getElem hj, hy'])
theorem dep_pos {R : List Issue} {x : Issue} (hx : x ∈ R) (f : Nat) : 1 ≤ dep R (f + 1) x.d := by
 obtain ⟨k, hk, rfl⟩ := List.getElem_of_mem hx
 have h1 := accTo_mono R (dep R f) (k + 1) R.length (by omega) R[k].d
 simp only [dep]
 refine Int.le_trans ?_ h1
 rw [zOB R (dep R f) k hk, mid_at]
 have := issFold_acc (dep R f) R[k] R[k].items.length (max (zDU R (dep R f) k R[k].d) 1)
 omega
def zCS (R : List Issue) (lt : Int → Int) : Nat → Int → Int → List (Int × Int)
 | 0, _, _ => []
 | f + 1, d, m => match zDB R d (lt d) with
   | none => []
   | some x => (if x.k = 1 then [] else [(d, m)]) ++ x.items.flatMap (fun y => zCS R lt f y.d (m * y.c))
def tot (n : Int) : List (Int × Int) → Int
 | [] => 0
 | p :: L => (if p.1 = n then p.2 else 0) + tot n L
theorem zOI (n : Int) (L M : List (Int × Int)) : tot n (L ++ M) = tot n L + tot n M := by
 induction L with
 | nil => simp [tot]
 | cons p L ih => simp only [List.cons_append, tot, ih]; omega
theorem tot_flat (n : Int) {α : Type} (g : α → List (Int × Int)) (C : Int) (ys : List α) (h : ∀ y ∈ ys, 0 ≤ tot n (g y) ∧ tot n (g y) ≤ C) : 0 ≤ tot n (ys.flatMap g) ∧ tot n (ys.flatMap g) ≤ (ys.length : Int) * C := by
 induction ys with
 | nil => simp [tot]
 | cons y ys ih =>
   have h1 := ih (fun z hz => h z (List.mem_cons_of_mem _ hz))
   have h2 := h y (List.mem_cons_self ..)
   rw [List.flatMap_cons, zOI, List.length_cons]
   have : ((ys.length + 1 : Nat) : Int) * C = (ys.length : Int) * C + C := by rw [Int.natCast_add, Int.add_mul]; simp
   omega
theorem zGN {R : List Issue} {d l : Int} {x : Issue} (h : zDB R d l = some x) : x ∈ R ∧ x.d = d ∧ x.l = l := by
 unfold zDB at h
 refine ⟨List.mem_of_find?_eq_some h, ?_⟩
 have := List.find?_some h
 simpa [zEZ] using this
theorem zPV {R : List Issue} {lt : Int → Int} (hR : ∀ x ∈ R, zHI x) (n : Int) : ∀ (f : Nat) (e : Nat) (d m : Int), 1 ≤ m → dep R f d < f → dep R f d ≤ e → 0 ≤ tot n (zCS R lt f d m) ∧ tot n (zCS R lt f d m) ≤ m * 160 ^ e
 | 0, _, d, _, _, h, _ => by simp [dep] at h
 | f + 1, e, d, m, hm, h, he => by
   have hpow : ∀ k : Nat, (1 : Int) ≤ 160 ^ k := fun k => by
    induction k with
    | zero => simp
    | succ k ih => rw [Int.pow_succ]; omega
   have hmul : ∀ k : Nat, m ≤ m * 160 ^ k := fun k => by
    have := Int.mul_le_mul_of_nonneg_left (hpow k) (show (0 : Int) ≤ m by omega)
    omega
   simp only [zCS]
   split
   ·have := hmul e
    simp [tot]
    omega
   ·rename_i x hx
    obtain ⟨hxR, hxd, _⟩ := zGN hx
    obtain ⟨hH, hItems, _⟩ := hR x hxR
    have hp := dep_pos hxR f
    rw [hxd] at hp
    obtain ⟨e', rfl⟩ : ∃ e', e = e' + 1 := ⟨e - 1, by omega⟩
    rw [zOI]
    by_cases hk : x.k = 1
    ·rw [if_pos hk]
     have hl : (x.items.length : Int) ≤ 8 := (hH.2.2.2.1 hk).1.2
     have h2 := tot_flat n (fun y : Item => zCS R lt f y.d (m * y.c)) (m * 20 * 160 ^ e') x.items (fun y hy => by
      obtain ⟨j, hj, hyj⟩ := List.getElem_of_mem hy
      have hI := (hItems j hj hj).2.1
      rw [hyj] at hI
      have hc := zJJ hxR hy f
      rw [hxd] at hc
      have h20 : m * y.c ≤ m * 20 := Int.mul_le_mul_of_nonneg_left hI.2 (by omega)
      have h1 : 1 ≤ m * y.c := by
       have := Int.mul_le_mul_of_nonneg_left hI.1 (show (0 : Int) ≤ m by omega)
       omega
      have := zPV (lt := lt) hR n f e' y.d (m * y.c) h1 (by omega) (by omega)
      refine ⟨this.1, Int.le_trans this.2 (Int.mul_le_mul_of_nonneg_right h20 (by have := hpow e'; omega))⟩)
     have hC : 0 ≤ m * 20 * 160 ^ e' := Int.mul_nonneg (by omega) (by have := hpow e'; omega)
     have h3 := Int.mul_le_mul_of_nonneg_right hl hC
     have h4 : 8 * (m * 20 * 160 ^ e') = m * 160 ^ (e' + 1) := by rw [Int.pow_succ]; generalize (160 : Int) ^ e' = q; rw [Int.mul_assoc m, Int.mul_left_comm 8 m, show (8 : Int) * (20 * q) = q * 160 by omega]
     simp only [tot]
     omega
    ·rw [if_neg hk]
     have hk3 : 1 < x.k := by have := hH.2.2.1.1; omega
     have hl0 : x.items = [] := List.eq_nil_of_length_eq_zero (hH.2.2.2.2 hk3).2
     rw [hl0]
     have := hmul (e' + 1)
     simp only [List.flatMap_nil, tot]
     split <;> omega
def zEJ (R : List Issue) (lt : Int → Int) (d n : Int) : Int := tot n (zCS R lt ((nums R).length + 1) d 1)
theorem cnt_bd {R : List Issue} (h : zAC R = 0) (lt : Int → Int) {d : Int} (hd : d ∈ nums R) (n : Int) : 0 ≤ zEJ R lt d n ∧ zEJ R lt d n ≤ 16777216000000 := by
 unfold zAC at h
 split at h
 ·rename_i hL
  split at h
  ·cases h
  ·rename_i h1
   split at h
   ·cases h
   ·rename_i h2
    have hd1 : dep R ((nums R).length + 1) d ≤ (nums R).length := Int.not_lt.1 fun hh => h1 ⟨d, hd, hh⟩
    have hd2 : dep R ((nums R).length + 1) d ≤ 6 := Int.not_lt.1 fun hh => h2 ⟨d, hd, hh⟩
    have := zPV (lt := lt) (fun x hx => by
     obtain ⟨k, hk, rfl⟩ := List.getElem_of_mem hx
     exact (hL.2.1 k hk).1 hk) n ((nums R).length + 1) 6 d 1 (by omega) (by omega) (by omega)
    unfold zEJ
    have h6 : (1 : Int) * 160 ^ 6 = 16777216000000 := by decide
    omega
 ·cases h
end Go.Proofs.YtpolpdegpbahiaaGreatDoor
namespace Go.Proofs.YtpolpdegpbahiaaGreatDoor
open Tryz
section
open Go.RowKit
def insS (rs : List Report) (r : Report) : List Report := rs.takeWhile (fun x => decide (x.num ≤ r.num)) ++ r :: rs.dropWhile (fun x => decide (x.num ≤ r.num))
def Rise (rs : List Report) : Prop := ∀ i, (h : i + 1 < rs.length) → rs[i].num < rs[i + 1].num
theorem zHR {w0 w : World} {g a : Nat} {u : Value} (h : w0.grownBy w (some g)) : w0.grownBy (w.setCell ⟨g, a, none⟩ u) (some g) :=
 ⟨Eq.trans rfl h.os, Eq.trans rfl h.tape, Eq.trans rfl h.output, by simpa using h.size, fun k hk hne => by
  have hg : k ≠ g := fun e => hne (by rw [e])
  rw [Below.heap_setCell _ ⟨g, a, none⟩ u k hg]
  exact h.block k hk hne⟩
end
section
open Go.RowKit
theorem contr_part {R : List Issue} {lt : Int → Int} {f : Nat} {d m : Int} {x : Issue} (hx : zDB R d (lt d) = some x) (hk : x.k ≠ 1) (hi : x.items = []) : zCS R lt (f + 1) d m = [(d, m)] := by
 simp only [zCS, hx, if_neg hk, hi, List.flatMap_nil, List.append_nil]
theorem contr_asm {R : List Issue} {lt : Int → Int} {f : Nat} {d m : Int} {x : Issue} (hx : zDB R d (lt d) = some x) (hk : x.k = 1) : zCS R lt (f + 1) d m = x.items.flatMap (fun y => zCS R lt f y.d (m * y.c)) := by
 simp only [zCS, hx, if_pos hk, List.nil_append]
def zCH (R : List Issue) (lt : Int → Int) (f : Nat) (m : Int) (x : Issue) (j : Nat) (n : Int) : Int := tot n ((x.items.take j).flatMap (fun y => zCS R lt f y.d (m * y.c)))
theorem zHE (R : List Issue) (lt : Int → Int) (f : Nat) (m : Int) (x : Issue) (n : Int) : zCH R lt f m x 0 n = 0 := by simp [zCH, tot]
theorem zJV (R : List Issue) (lt : Int → Int) (f : Nat) (m : Int) (x : Issue) (j : Nat) (hj : j < x.items.length) (n : Int) : zCH R lt f m x (j + 1) n = zCH R lt f m x j n + tot n (zCS R lt f x.items[j].d (m * x.items[j].c)) := by
 unfold zCH
 rw [List.take_succ_eq_append_getElem hj, List.flatMap_append, zOI]
 simp
theorem zIO (R : List Issue) (lt : Int → Int) (f : Nat) (m : Int) (x : Issue) (n : Int) : zCH R lt f m x x.items.length n = tot n (x.items.flatMap (fun y => zCS R lt f y.d (m * y.c))) := by
 unfold zCH
 rw [List.take_length]
theorem zHB {R : List Issue} {lt : Int → Int} {f : Nat} {m : Int} {x : Issue} (h : ∀ y ∈ x.items, ∀ n, 0 ≤ tot n (zCS R lt f y.d (m * y.c))) (n : Int) (i j : Nat) (hij : i ≤ j) (hj : j ≤ x.items.length) : zCH R lt f m x i n ≤ zCH R lt f m x j n := by
 induction j with
 | zero =>
   obtain rfl : i = 0 := by omega
   exact Int.le_refl _
 | succ j ih =>
   by_cases e : i = j + 1
   ·subst e; exact Int.le_refl _
   ·have h1 := ih (by omega) (by omega)
    rw [zJV R lt f m x j (by omega)]
    have := h _ (List.getElem_mem (show j < x.items.length by omega)) n
    omega
theorem parts02 (R : List Issue) (lt : Int → Int) (hL : zEM R) (hall : ∀ d ∈ nums R, ∃ x, zDB R d (lt d) = some x) (w0 : World) (vr vl : Value) (hr : Sl zAU 5 w0 vr R) (hl : Sl zAJ 1 w0 vl ((nums R).map lt)) (gc cap N : Nat) (hN : (nums R).length = N) :
  ∀ (f e : Nat) (w : World) (d m : Int) (g : Int → Int), Below w0.heap.size w0 w → d ∈ nums R → dep R f d < f → dep R f d ≤ e → 1 ≤ m → m * 160 ^ e ≤ 16777216000000 →
   (∀ n, 0 ≤ g n ∧ g n + tot n (zCS R lt f d m) ≤ 4611686018427387904) → w.ownsRow w0.heap.size 3 1 (.slice (some ⟨gc, 0, none⟩) N cap) N (row R g) →
   Calls prog 165 #[.agg #[vr], vl, .int .i64 d, .int .i64 m, .slice (some ⟨gc, 0, none⟩) N cap] w fun e' w' =>
    e' = .returned (.tuple #[]) ∧ w'.ownsRow w0.heap.size 3 1 (.slice (some ⟨gc, 0, none⟩) N cap) N (row R (fun n => g n + tot n (zCS R lt f d m))) ∧ Below w0.heap.size w0 w' ∧ w.grownBy w' (some gc) := by
 obtain ⟨ar, capr, rfl, hmr⟩ := zD hr
 obtain ⟨al, capl, rfl, hml⟩ := zD hl
 simp only [List.length_map] at hl hml ⊢
 intro f
 induction f with
 | zero =>
   intro e w d m g _ _ h
   simp [dep] at h
 | succ f ih =>
   intro e w d m g hb0 hd hdep hde hm hme hg hown
   obtain ⟨x, hx⟩ := hall d hd
   obtain ⟨hxR, hxd, hxl⟩ := zGN hx
   have hR60 : R.length ≤ 60 := by have := hL.1.2; omega
   have hok : zHI x := by
    obtain ⟨k, hk, rfl⟩ := List.getElem_of_mem hxR
    exact (hL.2.1 k hk).1 hk
   obtain ⟨hb1, B1⟩ := zAZ w #[.slice ar R.length capr] 24
   have c0 := B1 0 (.slice ar R.length capr) rfl
   clear B1
   have HN := zF hN
   have HXD := zF (And.intro hxd hxl)
   clear hN hxd hxl
   have hbw1 := zA hb0 hb1
   have HOWN := zF (zAA hb1 hown)
   have C0 := zF c0
   have HX := zF hx
   have HB0 := zF hb0
   have HG := zF hg
   have HDEP := zF (And.intro hdep (And.intro hde hme))
   have HR := zF (And.intro hr hl)
   have HD := zF hd
   have HOK := zF hok
   have hwc : w.heap.size < (w.alloc (.cells #[.slice ar R.length capr] 24)).heap.size := by simp
   have hgcw : w0.heap.size ≤ gc ∧ gc < w.heap.size := hown.lt gc rfl
   have HGC := zF hgcw
   clear hx hb0 hg hdep hde hme hr hl hok hown hd
   unfold zJ at c0
   go_enter func165, ntmps165
   go_wp2_with fail
   clear c0
   generalize w.alloc _ = w1 at *
   refine (taken02 w0 _ _ _ R lt d x HR.out.1 hbw1 (zI zN hbw1 HR.out.2) (by omega) HD.out HX.out).mono ?_
   rintro ee w2 ⟨vi, vd, rfl, hI, hb2⟩
   obtain ⟨ai, capi, rfl, _⟩ := zD hI.items
   obtain ⟨ad, capd, rfl, _⟩ := zD hI.dims
   have hbw2 := zA hbw1 hb2
   have HOWN := zF (zAA hb2 HOWN.out)
   have C0 := zF (zC hb2 C0.out)
   have HI := zF hI
   clear hI
   have hcl := zAF C0.out
   have hb12 := zF (zA hb1 hb2)
   clear hb1 hb2 hbw1 hwc
   by_cases hk : 1 < x.k
   ·have hi0 : Hid (x.items = []) := List.eq_nil_of_length_eq_zero (HOK.out.1.2.2.2.2 hk).2
    have hcon : Hid (zCS R lt (f + 1) d m = [(d, m)]) := contr_part HX.out (by omega) hi0.out
    have c0 := C0.out
    unfold zJ at c0
    go_wp2_with fail
    clear c0
    have hb3 := zB w2 (.cells #[.int .i64 x.d, .int .i64 x.l, .int .u8 x.k, .slice ai x.items.length capi, .slice ad x.dims.length capd] 107)
    generalize w2.alloc _ = w3 at *
    refine (zFK _ _ R (zI zP (zA hbw2 hb3) HR.out.1) (by omega)).mono ?_
    rintro ee w4 ⟨vn, rfl, hvn, hb4⟩
    have hb24 := zA hb3 hb4
    clear hb3 hb4
    go_wp2_with fail
    refine (index02_at _ _ (nums R) d hvn HD.out).mono ?_
    rintro ee w5 ⟨rfl, hb5⟩
    have hb25 := zA hb24 hb5
    clear hb24 hb5 hvn
    have hown := zAA hb25 HOWN.out
    have hix : (nums R).idxOf d < N := by rw [← HN.out]; exact List.idxOf_lt_length_of_mem HD.out
    have q0 := hown.cells (g := gc) rfl ((nums R).idxOf d) _ (row_at R g d HD.out)
    rw [zBP] at q0
    have f0 := zFE hown ((nums R).idxOf d)
    have hsum : IntKind.i64.wrap (g d + m) = g d + m := IntWalk.i64_in _ (by
     have h1 := HG.out d
     rw [hcon.out] at h1
     simp [tot] at h1
     omega)
    have hset : Hid ((row R g).set ((nums R).idxOf d) (.int .i64 (g d + m)) = row R (fun n => g n + tot n (zCS R lt (f + 1) d m))) := row_set R g _ d HD.out (zNN R (fun j hj => (hL.2.1 j hj).2)) _ (fun n => by
     rw [hcon.out]
     by_cases e : n = d
     ·subst e; simp [tot]
     ·simp [tot, e, Ne.symm e])
    have hst := (hown.stored ((nums R).idxOf d) (.int .i64 (g d + m))).1
    rw [hset.out] at hst
    have HST := zF hst
    have hgl : gc < w5.heap.size := (hown.lt gc rfl).2
    clear hst hown
    generalize (nums R).idxOf d = ix at *
    have hixi : (ix : Int) < N := by omega
    have hbw5 := zA hbw2 hb25
    have hgr : Hid (w.grownBy w5 (some gc)) := ⟨(zA hb12.out hb25).os, (zA hb12.out hb25).tape, (zA hb12.out hb25).output, (zA hb12.out hb25).size, fun k hk _ => (zA hb12.out hb25).block k hk⟩
    go_wp2
    refine bodyPost_ret (v := .tuple #[]) (by simp [results, results165, go_sem]) rfl ?_
    exact ⟨rfl, HST.out, zH HGC.out.1 hbw5, zHR hgr.out⟩
   ·have hk1 : x.k = 1 := by have := HOK.out.1.2.2.1.1; omega
    have hcon : Hid (zCS R lt (f + 1) d m = x.items.flatMap (fun y => zCS R lt f y.d (m * y.c))) := contr_asm HX.out hk1
    have hItems := zF HOK.out.2.1
    have c0 := C0.out
    unfold zJ at c0
    clear hk1
    go_wp2
    obtain ⟨hb3, B3⟩ := zAZ w2 #[.int .i64 x.d, .int .i64 x.l, .int .u8 x.k, .slice ai x.items.length capi, .slice ad x.dims.length capd] 107
    have D3 := zF (B3 3 (.slice ai x.items.length capi) rfl)
    have HOWN := zF (zAA hb3 HOWN.out)
    have C3 := zF (zC hb3 C0.out)
    have hb13 := zF (zA hb12.out hb3)
    have hbw3 := zF (zA hbw2 hb3)
    have hg2 : gc < w2.heap.size := by have := HGC.out.2; have := hb12.out.size; omega
    clear B3 hb3 c0
    generalize w2.alloc _ = w3 at *
    go_loopw [11] (fun i wz => ∃ j : Nat, i = .int .i64 j ∧ j ≤ x.items.length ∧ wz.ownsRow w0.heap.size 3 1 (.slice (some ⟨gc, 0, none⟩) N cap) N (row R (fun n => g n + zCH R lt f m x j n)) ∧ Below w0.heap.size w0 wz ∧ w3.grownBy wz (some gc)) (fun i _ => x.items.length - (intOf i).toNat)
    case atStart => exact ⟨0, rfl, by omega, by simp only [zHE, Int.add_zero]; exact HOWN.out, hbw3.out, zAX _ _ _ rfl rfl rfl rfl⟩
    case round =>
     obtain ⟨j, rfl, hj, hown, hbz, hgz⟩ := hrel
     have HOWN := zF hown
     have HGZ := zF hgz
     have HBZ := zF hbz
     clear hown hgz hbz
     have c0 := zMN HGZ.out (show w.heap.size ≠ gc by have := HGC.out.2; omega) C3.out
     have d3 := zMN HGZ.out (show w2.heap.size ≠ gc by omega) D3.out
     unfold zJ at c0 d3
     by_cases hlt : j < x.items.length
     case pos =>
      obtain ⟨bi, oi, rfl, ⟨p0, p1⟩, hn0, hn1⟩ := (zZ HI.out.items).2 j hlt
      have p0 := zC HBZ.out p0
      have p1 := zC HBZ.out p1
      have hyx : x.items[j] ∈ x.items := List.getElem_mem hlt
      have hIt := hItems.out j hlt hlt
      have hdc := zJJ hxR hyx f
      rw [HXD.out.1] at hdc
      have hdy : x.items[j].d ∈ nums R := by
       obtain ⟨k, hk2, hkx⟩ := List.getElem_of_mem hxR
       have := hL.2.2.1 k hk2 hk2 j (by rw [hkx]; exact hlt)
       simp only [hkx] at this
       exact this
      have hstep := zF (fun n => zJV R lt f m x j hlt n)
      have hnn : ∀ y ∈ x.items, ∀ n, 0 ≤ tot n (zCS R lt f y.d (m * y.c)) := fun y hy n => by
       obtain ⟨i, hi, rfl⟩ := List.getElem_of_mem hy
       have h1 := (hItems.out i hi hi).2.1.1
       have h2 := zJJ hxR hy f
       rw [HXD.out.1] at h2
       have h3 := Int.mul_le_mul_of_nonneg_left h1 (show (0 : Int) ≤ m by omega)
       exact (zPV (lt := lt) (fun z hz => by
        obtain ⟨k, hk9, rfl⟩ := List.getElem_of_mem hz
        exact (hL.2.1 k hk9).1 hk9) n f f _ _ (by omega) (by have := HDEP.out.1; omega) (zJP R f _).2).1
      have hbnd : Hid (∀ n, 0 ≤ g n + zCH R lt f m x j n ∧ (g n + zCH R lt f m x j n) + tot n (zCS R lt f x.items[j].d (m * x.items[j].c)) ≤ 4611686018427387904) := fun n => by
       have h1 := HG.out n
       rw [hcon.out, ← zIO] at h1
       have h2 := zHB hnn n 0 j (by omega) (by omega)
       have h3 := zHB hnn n (j + 1) x.items.length (by omega) (Nat.le_refl _)
       rw [zHE] at h2
       rw [hstep.out n] at h3
       omega
      clear hnn
      generalize x.items[j] = y at *
      unfold zJ at p0 p1
      obtain ⟨hdep, hde, hme⟩ := HDEP.out
      obtain ⟨e', rfl⟩ : ∃ e', e = e' + 1 := ⟨e - 1, by have := (zJP R f y.d).1; omega⟩
      have hpow : (1 : Int) ≤ 160 ^ e' := by
       have : (0 : Int) < 160 ^ e' := Int.pow_pos (by decide)
       omega
      have hm1 : m * 160 ^ (e' + 1) = m * 160 ^ e' * 160 := by rw [Int.pow_succ, Int.mul_assoc]
      have hm2 : m ≤ m * 160 ^ e' := by
       have := Int.mul_le_mul_of_nonneg_left hpow (show (0 : Int) ≤ m by omega)
       omega
      have hc1 : m * y.c ≤ m * 20 := Int.mul_le_mul_of_nonneg_left hIt.2.1.2 (by omega)
      have hc0 : 1 ≤ m * y.c := by
       have := Int.mul_le_mul_of_nonneg_left hIt.2.1.1 (show (0 : Int) ≤ m by omega)
       omega
      have hc2 : m * y.c * 160 ^ e' ≤ 16777216000000 := by
       have h1 := Int.mul_le_mul_of_nonneg_right hc1 (show (0 : Int) ≤ 160 ^ e' by omega)
       have h2 : m * 20 * 160 ^ e' = m * 160 ^ e' * 20 := by rw [Int.mul_assoc, Int.mul_comm 20, ← Int.mul_assoc]
       omega
      have hwm : IntKind.i64.wrap (m * y.c) = m * y.c := IntWalk.i64_in _ (by omega)
      have HC := zF (And.intro hc0 (And.intro hc2 (And.intro hdc hdy)))
      clear hm1 hm2 hc0 hc1 hc2 hpow hdep hde hme hIt hdc hdy
      go_wp2
      go_still_tail 17, (by kernel_rfl)
      go_wp2_with fail
      refine (ih e' wr.drew y.d (m * y.c) (fun n => g n + zCH R lt f m x j n) (zA HBZ.out (zR wr)) HC.out.2.2.2 (by have := HC.out.2.2.1; have := HDEP.out.1; omega) (by have := HC.out.2.2.1; have := HDEP.out.2.1; omega) HC.out.1 HC.out.2.1 hbnd.out (zAA (zR wr) HOWN.out)).mono ?_
      rintro e9 w9 ⟨rfl, hown9, hb9, hg9⟩
      have HO9 := zF hown9
      have HG9 := zF (zAH HGZ.out (zAH (zAX wr wr.drew (some gc) rfl rfl rfl rfl) hg9))
      have HB9 := zF hb9
      clear hown9 hg9 hb9
      go_wp2
      go_roundw
      case rel =>
       refine ⟨j + 1, by go_num, by omega, ?_, HB9.out, HG9.out⟩
       have e1 : (fun n => g n + zCH R lt f m x (j + 1) n) = fun n => g n + zCH R lt f m x j n + tot n (zCS R lt f y.d (m * y.c)) := funext fun n => by rw [hstep.out n]; omega
       rw [e1]
       exact HO9.out
      case measure => simp [intOf]; omega
     case neg =>
      obtain rfl : j = x.items.length := by omega
      have e1 : (fun n => g n + zCH R lt f m x x.items.length n) = fun n => g n + tot n (zCS R lt (f + 1) d m) := funext fun n => by rw [zIO, hcon.out]
      have h1 := HOWN.out
      rw [e1] at h1
      have H1 := zF h1
      have HGW : Hid (w.grownBy wr (some gc)) := zAH ⟨hb13.out.os, hb13.out.tape, hb13.out.output, hb13.out.size, fun k hk _ => hb13.out.block k hk⟩ HGZ.out
      clear h1 e1
      go_wp2
      refine bodyPost_end (v := .tuple #[]) (by simp [results, results165, go_sem]) rfl ?_
      exact ⟨rfl, H1.out, HBZ.out, HGW.out⟩
end
end Go.Proofs.YtpolpdegpbahiaaGreatDoor
namespace Go.Proofs.YtpolpdegpbahiaaGreatDoor
open Go.RowKit
theorem wf_i64 {x : Int} (h : I64 x) : (Lit.int .i64 x).wf = true := by
 obtain ⟨h1, h2⟩ := h
 show (decide (_ ≤ x) && decide (x ≤ _)) = true
 rw [Bool.and_eq_true, decide_eq_true_iff, decide_eq_true_iff]
 exact ⟨h1, h2⟩
theorem zJN {x : Int} (h : I64 x) : keyOf Tryz.prog 3 (.int .i64 x) = some (.int .i64 x) := Maps.keyOf_int_mk Tryz.underlying3 (wf_i64 h)
theorem zDG : Maps.Keyed Tryz.prog 3 := Maps.int_keyed Tryz.underlying3
def MapB (w : World) (b n : Nat) (L : List Int) : Prop :=
 ∃ D : DataW Unit, w.ownsMap Tryz.prog 3 (plainElem Tryz.prog 4) b n D ∧ L.Nodup ∧ Maps.size D = L.length ∧
  ∀ x, I64 x → Maps.has D (.int .i64 x) = decide (x ∈ L) ∧ D.atKey (.int .i64 x) (.lit (.bool false)) = .lit (.bool (decide (x ∈ L)))
def MapI (w : World) (b n : Nat) (f : Int → Option Int) : Prop :=
 ∃ D : DataW Unit, w.ownsMap Tryz.prog 3 (plainElem Tryz.prog 3) b n D ∧
  ∀ x, I64 x → Maps.has D (.int .i64 x) = (f x).isSome ∧ ∀ z, D.atKey (.int .i64 x) z = match f x with | some c => .lit (.int .i64 c) | none => z
theorem zPM {H : Type} {P : Program} {k : TypeId} {R : Value → Option (DataW H × List MemPlace)} {w w' : World} {b n : Nat} {D : DataW H} (h : w.ownsMap P k R b n D) (e : w'.heap[b]? = w.heap[b]?) : w'.ownsMap P k R b n D := by
 obtain ⟨es, clock, hb, F, hs, hD⟩ := h
 exact ⟨es, clock, e.trans hb, F, hs, hD⟩
theorem MapB.same {w w' : World} {b n : Nat} {L : List Int} (h : MapB w b n L) (e : w'.heap[b]? = w.heap[b]?) : MapB w' b n L := by
 obtain ⟨D, h1, h2⟩ := h
 exact ⟨D, zPM h1 e, h2⟩
theorem MapI.same {w w' : World} {b n : Nat} {f : Int → Option Int} (h : MapI w b n f) (e : w'.heap[b]? = w.heap[b]?) : MapI w' b n f := by
 obtain ⟨D, h1, h2⟩ := h
 exact ⟨D, zPM h1 e, h2⟩
theorem MapB.lt {w : World} {b n : Nat} {L : List Int} (h : MapB w b n L) : b < w.heap.size := by obtain ⟨D, h1, h2⟩ := h; exact h1.lt
theorem MapI.lt {w : World} {b n : Nat} {f : Int → Option Int} (h : MapI w b n f) : b < w.heap.size := by obtain ⟨D, h1, h2⟩ := h; exact h1.lt
theorem mapB_made (w : World) : MapB (w.alloc (.map #[] 0)) w.heap.size 0 [] :=
 ⟨.map [], World.ownsMap_made w _ _ _, List.nodup_nil, rfl, fun x _ => ⟨by simp [Maps.has], by simp [DataW.atKey]⟩⟩
theorem mapI_made (w : World) : MapI (w.alloc (.map #[] 0)) w.heap.size 0 (fun _ => none) :=
 ⟨.map [], World.ownsMap_made w _ _ _, fun x _ => ⟨by simp [Maps.has], fun z => by simp [DataW.atKey]⟩⟩
theorem zMD {v : Value} {z : DataW Unit × List MemPlace} (h : plainElem Tryz.prog 4 v = some z) : ∃ x, v = .bool x ∧ z = (.lit (.bool x), []) := by
 unfold plainElem at h
 have hu := Tryz.underlying4
 generalize Tryz.prog.underlying 4 = u at hu h
 subst hu
 cases v <;> simp at h
 subst h
 exact ⟨_, rfl, rfl⟩
theorem mapB_look {w : World} {b n : Nat} {L : List Int} (h : MapB w b n L) {x : Int} (hx : I64 x) : (Instr.lookup 275 (.map (some b)) (.int .i64 x) false).run Tryz.prog w = .ok (.bool (decide (x ∈ L))) w := by
 obtain ⟨D, ho, -, -, hD⟩ := h
 obtain ⟨v, ps, hr, hv⟩ := ho.lookup zDG Tryz.underlying275 (Tryz.zeroValue4 w) (plainElem_bool Tryz.underlying4 false) (zJN hx)
 obtain ⟨y, rfl, e⟩ := zMD hv
 rw [(hD x hx).2] at e
 simp at e
 rw [hr, ← e.1]
theorem mapI_look {w : World} {b n : Nat} {f : Int → Option Int} (h : MapI w b n f) {x : Int} (hx : I64 x) : (Instr.lookup 246 (.map (some b)) (.int .i64 x) false).run Tryz.prog w = .ok (.int .i64 ((f x).getD 0)) w := by
 obtain ⟨D, ho, hD⟩ := h
 obtain ⟨c, hr, hc, -⟩ := ho.lookup_int zDG Tryz.underlying246 Tryz.underlying3 (Tryz.zeroValue3 w) (zJN hx)
 rw [(hD x hx).2] at hc
 rw [hr]
 cases hf : f x with
 | none => rw [hf] at hc; simp at hc; simp [hc]
 | some y => rw [hf] at hc; simp at hc; simp [hc]
theorem mapB_len {w : World} {b n : Nat} {L : List Int} (h : MapB w b n L) : ∀ ty, (Builtin.len_ #[275] ty #[.map (some b)]).run Tryz.prog w = .ok (.int .i64 L.length) w := by
 obtain ⟨D, ho, -, hs, hD⟩ := h
 intro ty
 rw [ho.len Tryz.underlying275, hs]
theorem zFY (x : Int) : WideAt.IsKeyLit (.int .i64 x) := by simp [WideAt.IsKeyLit]
theorem zMP {x y : Int} (h : x ≠ y) : (Lit.int .i64 x) ≠ .int .i64 y := by intro e; cases e; exact h rfl
theorem mapB_put {w : World} {b n : Nat} {L : List Int} (h : MapB w b n L) {x : Int} (hx : I64 x) (hL : x ∉ L) (hn : n < maxLen) :
  ∃ w', (Instr.mapUpdate 275 (.map (some b)) (.int .i64 x) (.bool true)).run Tryz.prog w = .ok () w' ∧ MapB w' b (n + 1) (L ++ [x]) ∧ w.grownBy w' (some b) := by
 obtain ⟨D, ho, hd, hs, hD⟩ := h
 obtain ⟨w', hr, ho', hg⟩ := ho.update zDG Tryz.underlying275 hn (zJN hx) (plainElem_bool Tryz.underlying4 true)
 refine ⟨w', hr, ⟨_, ho', ?_, ?_, fun y hy => ?_⟩, hg⟩
 ·rw [List.nodup_append]
  exact ⟨hd, by simp, fun a ha b hb => by simp at hb; subst hb; intro e; subst e; exact hL ha⟩
 ·rw [Maps.size_put (ho.tidy zDG), (hD x hx).1, hs]
  simp [hL]
 ·by_cases e : y = x
  ·subst e
   exact ⟨by rw [Maps.has_put_same ho.isMap (zFY _)]; simp, by rw [Maps.atKey_put_same ho.isMap (zFY _)]; simp⟩
  ·exact ⟨by rw [Maps.has_put_other (zMP e), (hD y hy).1]; simp [e], by rw [Maps.atKey_put_other (zMP e), (hD y hy).2]; simp [e]⟩
theorem mapI_put {w : World} {b n : Nat} {f : Int → Option Int} (h : MapI w b n f) {x c : Int} (hx : I64 x) (hc : I64 c) (hn : n < maxLen) :
  ∃ w', (Instr.mapUpdate 246 (.map (some b)) (.int .i64 x) (.int .i64 c)).run Tryz.prog w = .ok () w' ∧ MapI w' b (n + 1) (fun y => if y = x then some c else f y) ∧ w.grownBy w' (some b) := by
 obtain ⟨D, ho, hD⟩ := h
 obtain ⟨w', hr, ho', hg⟩ := ho.update zDG Tryz.underlying246 hn (zJN hx) (plainElem_int Tryz.underlying3 (wf_i64 hc))
 refine ⟨w', hr, ⟨_, ho', fun y hy => ?_⟩, hg⟩
 by_cases e : y = x
 ·subst e
  exact ⟨by rw [Maps.has_put_same ho.isMap (zFY _)]; simp, fun z => by rw [Maps.atKey_put_same ho.isMap (zFY _)]; simp⟩
 ·exact ⟨by rw [Maps.has_put_other (zMP e), (hD y hy).1]; simp [e], fun z => by rw [Maps.atKey_put_other (zMP e), (hD y hy).2]; simp [e]⟩
theorem mapB_del {w : World} {b n : Nat} {L : List Int} (h : MapB w b n L) {x : Int} (hx : I64 x) (hL : x ∈ L) (ty : TypeId) :
  ∃ w', (Builtin.delete_ #[275, 3] ty #[.map (some b), .int .i64 x]).run Tryz.prog w = .ok (.tuple #[]) w' ∧ MapB w' b n (L.erase x) ∧ w.grownBy w' (some b) := by
 obtain ⟨D, ho, hd, hs, hD⟩ := h
 obtain ⟨w', hr, ho', hg⟩ := ho.drop zDG Tryz.underlying275 (zJN hx) ty
 refine ⟨w', hr, ⟨_, ho', hd.erase _, ?_, fun y hy => ?_⟩, hg.grown⟩
 ·have := Maps.size_del (ho.tidy zDG) (k := .int .i64 x)
  rw [(hD x hx).1, hs] at this
  simp [hL] at this
  rw [List.length_erase_of_mem hL]
  omega
 ·by_cases e : y = x
  ·subst e
   have hn : ¬ y ∈ L.erase y := fun h => (hd.mem_erase_iff.1 h).1 rfl
   exact ⟨by rw [Maps.has_del_same]; simp [hn], by rw [Maps.atKey_del_same]; simp [hn]⟩
  ·have hm : y ∈ L.erase x ↔ y ∈ L := by rw [hd.mem_erase_iff]; simp [e]
   exact ⟨by rw [Maps.has_del_other (zMP e), (hD y hy).1]; simp [hm], by rw [Maps.atKey_del_other (zMP e), (hD y hy).2]; simp [hm]⟩
end Go.Proofs.YtpolpdegpbahiaaGreatDoor
