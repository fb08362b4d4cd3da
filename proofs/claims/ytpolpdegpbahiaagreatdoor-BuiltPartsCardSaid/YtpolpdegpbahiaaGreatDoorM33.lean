/- How many pieces a machine has, truth by truth: plain. -/
import Derived.Test.YtpolpdegpbahiaaGreatDoorM22
import Derived.Test.YtpolpdegpbahiaaGreatDoorM23
set_option linter.all false
set_option maxRecDepth 100000
set_option maxHeartbeats 12800000

namespace Go.Proofs.YtpolpdegpbahiaaGreatDoor
open Tryz
section
open Go.RowKit Go.Shelf
attribute [local go_sem] zAN Oper.grows Oper.growUpon Oper.wild Oper.wildUpon
theorem infoView : (prog.info? 130).map (fun i => (i.zero, i.size, i.bytes)) = some (some (.agg #[.slice none 0 0, .slice none 0 0]), 2, 48) := by kernel_rfl
def IsView (b : Built) (w : World) (vs : List Value) (S : List Int) : Prop := ∃ vp vt, vs = [vp, vt] ∧ ViewAt w vp vt (zBS b S) (zBO b S)
def AtView (b : Built) (w : World) (g o : Nat) (S : List Int) : Prop := ∃ vp vt, zJ w g o vp ∧ zJ w g (o + 1) vt ∧ ViewAt w vp vt (zBS b S) (zBO b S)
theorem zKH (b : Built) : zHU (AtView b) := fun _ _ _ _ _ hb ⟨vp, vt, h1, h2, h3⟩ => ⟨vp, vt, zC hb h1, zC hb h2, h3.ext hb⟩
theorem isView_at (b : Built) (w : World) (g o : Nat) (vs : List Value) (x : List Int) (_ : vs.length = 2) (hc : ∀ j u, vs[j]? = some u → zJ w g (o + j) u) (h : IsView b w vs x) : AtView b w g o x := by
 obtain ⟨vp, vt, rfl, hV⟩ := h
 exact ⟨vp, vt, hc 0 _ rfl, hc 1 _ rfl, hV⟩
theorem views08 (w : World) (vr vn vm vh vz vl : Value) (b : Built) (A : List (List Int)) (hB : BuiltAt w vr vn vm vh vz b) (hv : zM b = 0) (hA : Sl zKW 1 w vl A) (hT : ∀ S ∈ A, IsT (zCA b.ns.notes) S) (hA32 : A.length ≤ 32) :
  Calls prog 47 #[.agg #[vr, vn, .int .i64 b.of, vm, vh, vz], vl] w fun e w' => ∃ u, e = .returned u ∧ Sl (AtView b) 2 w' u A ∧ Below w.heap.size w w' := by
 obtain ⟨l0, hlf, lz0, lz1, lz2⟩ := info_parts infoView
 have hb1 := zB w (.cells #[vr, vn, .int .i64 b.of, vm, vh, vz] 32)
 have HBOX := zF (zHC w vr vn vm vh vz b.of 32)
 have HB := zF (hB.ext hb1)
 have HV := zF hv
 have HT := zF hT
 obtain ⟨al, cal, rfl, _⟩ := zD hA
 have HA := zF (zI zCC hb1 hA)
 clear hB hv hT hA
 go_enter func47, ntmps47
 go_wp2
 generalize w.alloc _ = wa at *
 go_loopw [5, 6] (fun o i wr => ∃ k : Nat, i = .int .i64 k ∧ k ≤ A.length ∧ Hid (∃ cs, wr.ownsRow wa.heap.size 130 2 o k cs ∧ zDW [168, 28, 3] (IsView b) 2 wr cs (A.take k)) ∧ Hid (Below wa.heap.size wa wr)) (fun _ i _ => A.length - (intOf i).toNat)
 case atStart => exact ⟨0, rfl, by omega, zF ⟨[], World.ownsRow_nil _ _ _ _, zJK _ _ _ _⟩, zF (br_)⟩
 case round =>
  obtain ⟨k, rfl, hk, HO, HBA⟩ := hrel
  by_cases hlt : k < A.length
  case neg =>
   obtain rfl : k = A.length := by omega
   go_wp2
   go_ret
   obtain ⟨cs, ho, hr⟩ := HO.out
   rw [List.take_length] at hr
   exact ⟨_, rfl, (hr.sl ho (isView_at b)).now, zA hb1 HBA.out⟩
  case pos =>
   have hkl : (k : Int) < A.length := by omega
   obtain ⟨gl, ol, rfl, vx, hcx, hx⟩ := (zZ HA.out).2 k hlt
   have htk : Hid (A.take (k + 1) = A.take k ++ [A[k]]) := List.take_succ_eq_append_getElem hlt
   have hTx := zF (HT.out _ (List.getElem_mem hlt))
   obtain ⟨ax, cx, rfl, _⟩ := zD hx
   have HX := zF hx
   have HCX := zF hcx
   obtain ⟨cs, hoc, hri⟩ := HO.out
   have hB := zF (HB.out.ext HBA.out)
   have hbx := zF (HBOX.out.ext HBA.out)
   clear hcx hx HO
   generalize A[k] = x at *
   generalize A.take k = AK at *
   have HOC := zF (And.intro hoc hri)
   clear hoc hri
   go_wp2
   refine zBI 9 8 [7] (fun a c => zEK [168, 28, 3] a c) (fun c => wr.grownBy c u5.ownBlock) (fun _ _ hb h => zCJ hb h) (zAX _ _ _ rfl rfl rfl rfl)
    (fun c => Hid (c.ownsRow wa.heap.size 130 2 u5 k cs ∧ zDW [168, 28, 3] (IsView b) 2 c cs AK ∧ wa.heap.size ≤ c.heap.size)) (fun _ _ hb h => zF ⟨zAA hb h.out.1, h.out.2.1.keep (zAQ hb), Nat.le_trans h.out.2.2 hb.size⟩) (zF ⟨zAA ⟨rfl, rfl, rfl, Nat.le_refl _, fun _ _ => rfl⟩ HOC.out.1, HOC.out.2.keep (zAQ ⟨rfl, rfl, rfl, Nat.le_refl _, fun _ _ => rfl⟩), HBA.out.size⟩) (by kernel_rfl) (by kernel_rfl) ?_
   simp only [tk_]
   apply gw_ (by rfl)
   ·intro vs w2 hw hd
    (try simp [hq_] at hd)
    simp only [pf_]
    go_simp
    exact ⟨br_, rfl⟩
   apply gw_ (by rfl)
   ·intro vs w2 hw hd
    (try simp [hq_] at hd)
    have hB2 := zAI HOC.out.1 hw HBA.out (Nat.le_refl _); have k0 := zC hB2 HBOX.out.c0; have k1 := zC hB2 HBOX.out.c1; have k2 := zC hB2 HBOX.out.c2; have k3 := zC hB2 HBOX.out.c3; have k4 := zC hB2 HBOX.out.c4; have k5 := zC hB2 HBOX.out.c5; unfold zJ at k0 k1 k2 k3 k4 k5
    simp only [pf_]
    go_simp
    exact ⟨br_, rfl⟩
   apply gw_ (by rfl)
   ·intro vs w2 hw hd
    (try simp [hq_] at hd)
    simp only [pf_]
    go_simp
    exact ⟨br_, rfl⟩
   apply gw_ (by rfl)
   ·intro vs w2 hw hd
    (try simp [hq_] at hd)
    simp only [pf_]
    go_simp
    exact ⟨br_, rfl⟩
   apply gw_ (by rfl)
   ·intro vs w2 hw hd
    (try simp [hq_] at hd)
    simp only [pf_]
    go_simp
    exact ⟨br_, rfl⟩
   apply gw_ (by rfl)
   ·intro vs w2 hw hd
    (try simp [hq_] at hd)
    have hB2 := zAI HOC.out.1 hw HBA.out (Nat.le_refl _); have kq := zC hB2 HCX.out; unfold zJ at kq; rw [Nat.mul_one] at kq
    simp only [pf_]
    go_simp
    exact ⟨br_, rfl⟩
   refine zCW (fun v w' => ∃ vp vt, v = .agg #[vp, vt] ∧ OnT [168, 28, 3] (fun w' => ViewAt w' vp vt (zBS b x) (zBO b x)) w') (fun v w w' hb h => by obtain ⟨vp, vt, e, h⟩ := h; exact ⟨vp, vt, e, h.ext hb⟩) (by rfl) (.inr (.inr fun v w w' hk h => by obtain ⟨vp, vt, e, h⟩ := h; exact ⟨vp, vt, e, h.keep hk⟩)) ?_ ?_
   ·intro vs w2 hw hd
    (try simp [hq_] at hd)
    have hB2 := zAI HOC.out.1 hw HBA.out (Nat.le_refl _)
    simp only [pf_]
    go_simp
    refine (viewOf08 w2 vr vn vm vh vz (.slice ax x.length cx) b x (HB.out.ext hB2) (zI zN hB2 HX.out) HV.out hTx.out).mono ?_
    rintro e w9 ⟨vp, vt, rfl, hV, hb9⟩
    exact ⟨_, rfl, hb9, vp, vt, rfl, hV⟩
   refine zCW (fun v w' => ∃ vp vt, OneV [vp, vt] v w' ∧ (Value.oneCell' vp ∧ Value.oneCell' vt) ∧ OnT [168, 28, 3] (fun w' => ViewAt w' vp vt (zBS b x) (zBO b x)) w') (fun v w w' hb h => by obtain ⟨vp, vt, e, h1, h⟩ := h; exact ⟨vp, vt, zNT _ _ _ _ hb e, h1, h.ext hb⟩) (by rfl) (.inl (by rfl)) ?_ ?_
   ·intro vs w2 hw hd
    (try simp [hq_] at hd)
    obtain ⟨vp, vt, e6, hV⟩ := hd
    obtain ⟨ap, cp, rfl, _⟩ := zD hV.now.reports
    obtain ⟨at', ct, rfl, _⟩ := zD hV.now.takes
    simp only [pf_]
    go_simp
    exact ⟨zB _ _, _, _, oneV_new [_, _] _ _, ⟨by rfl, by rfl⟩, hV.ext (zB _ _)⟩
   refine zDJ (fun v w' => Hid (∃ cs', w'.ownsRow wa.heap.size 130 2 v (k + 1) cs' ∧ zDW [168, 28, 3] (IsView b) 2 w' cs' (AK ++ [x]))) (fun _ _ _ hb h => by obtain ⟨cs', h1, h2⟩ := h.out; exact zF ⟨cs', zAA hb h1, h2.keep (zAQ hb)⟩) (by rfl) ?_ ?_
   ·intro vs w2 hw hi hd
    (try simp [hq_] at hd)
    simp only [pf_]
    obtain ⟨e3, ⟨vp, vt, ⟨bb, e5, hbb⟩, ⟨o1, o2⟩, hV⟩, _⟩ := hd
    refine zBQ (.tmp 13) (.tmp 20) 101 (by rfl) wa.heap.size 130 l0 _ 2 48 underlying101 hlf lz0 lz1 lz2 rfl (by decide) u5 _ _ (by exact e3) hi.out.1 (vs 7) ⟨bb, 0, none⟩ 1 1 e5 [vp, vt] (by rfl) rfl (fun j u hj => by
     rw [zBP]; exact hbb j u hj) (fun u hu => by simp at hu; rcases hu with rfl | rfl <;> first | exact o1 | exact o2) (by unfold maxLen; omega) (by omega) hi.out.2.2 (fun v' w' h1 h2 => by
     have hk := zCE (es := [168, 28, 3]) h2 hi.out.1 (by decide)
     exact ⟨zAH hw h2, hk, zF ⟨_, h1, (hi.out.2.1.keep hk).snoc rfl ((hV.keep hk).mono (fun w h => ⟨_, _, rfl, h⟩))⟩⟩)
   refine zDI rfl (fun vs w7 hw hd => ?_)
   simp [zV, zAD, List.range, List.range.loop, List.filter_cons, List.filter_nil] at hd
   simp only [pf_]
   obtain ⟨e0, e1, e2, e3, e4, e5, h6, h8⟩ := hd
   have hb7 := zF (zAI HOC.out.1 hw HBA.out (Nat.le_refl _))
   simp only [Nat.zero_add, Nat.reduceAdd] at e0 e1 e2 e3 e4 e5 ⊢
   simp only [e0, e1, e2, e3, e4, e5]
   clear hw h6 e0 e1 e2 e3 e4 e5
   generalize vs 8 = u9 at *
   generalize vs 7 = u77 at *
   generalize vs 6 = u66 at *
   go_wp2
   go_roundw
   ·exact ⟨k + 1, by go_num, by omega, by rw [htk.out]; exact h8, hb7⟩
   ·simp [intOf]; omega
end
section
noncomputable def zHJ (b : Built) (S : List Int) (m d : Int) : Span := if (zAB b S m d).h < 0 then ⟨0, 0⟩ else (zGB b S (zAB b S m d).h.toNat).getD ⟨0, 0⟩
def heldN (b : Built) (S : List Int) (m d l n : Int) : Int := zDL (zAB b S m d) l (oldV (zBO b S) (zAB b S m d).h (b.ms.idxOf m) n)
theorem ends_is {b : Built} {S : List Int} {m : Int} (hm : m ∈ b.ms) (d l : Int) : zPA b S m d l = [heldN b S m d l (zHJ b S m d).lo, heldN b S m d l (zHJ b S m d).hi] := by
 unfold heldN
 rw [zMK hm, zMK hm]
 unfold zPA zHJ
 rfl
theorem spanS_bd {b : Built} (h : zM b = 0) {S : List Int} (hL : zII b S) (m d : Int) : (0 ≤ (zHJ b S m d).lo ∧ (zHJ b S m d).lo ≤ 200) ∧ 0 ≤ (zHJ b S m d).hi ∧ (zHJ b S m d).hi ≤ 200 := by
 have hh := zFP b S m d
 unfold zHJ
 by_cases h0 : (zAB b S m d).h < 0
 ·rw [if_pos h0]; exact ⟨⟨by decide, by decide⟩, by decide, by decide⟩
 ·rw [if_neg h0]
  cases hs : siteL b S with
  | none => exact absurd hL (left_none h hs)
  | some L =>
    obtain ⟨_, hl, hk⟩ := left_some h hs
    have hkl : (zAB b S m d).h.toNat < L.length := by omega
    obtain ⟨h1, h2, h3⟩ := hk _ hkl
    have h4 := h3 (by omega)
    have h5 := zDP h (show (zAB b S m d).h.toNat < b.hs.length by omega)
    rw [h1]
    simp only [Option.getD_some]
    omega
theorem oldS_bd {b : Built} (h : zM b = 0) {S : List Int} {m : Int} (hm : m ∈ b.ms) (d n : Int) : 0 ≤ oldV (zBO b S) (zAB b S m d).h (b.ms.idxOf m) n ∧ oldV (zBO b S) (zAB b S m d).h (b.ms.idxOf m) n ≤ 16777216000000 := by
 have hc := zGZ h S m d
 rw [zMK hm]
 split
 ·omega
 ·unfold zPD
  omega
theorem heldN_bd {b : Built} (h : zM b = 0) {S : List Int} {m : Int} (hm : m ∈ b.ms) (d l n : Int) : -16777216000000 ≤ heldN b S m d l n ∧ heldN b S m d l n ≤ 16777216000000 := by
 have hc := zGZ h S m d
 have ho := oldS_bd h (S := S) hm d n
 unfold heldN zDL
 split
 ·omega
 ·split <;> omega
noncomputable def pTo (b : Built) (A : List (List Int)) (m d l : Int) (k : Nat) : Span := zCG ((A.take k).flatMap fun S => zPA b S m d l)
theorem pTo_all (b : Built) (A : List (List Int)) (m d l : Int) : pTo b A m d l A.length = zAT b A m d l := by unfold pTo zAT; rw [List.take_length]
theorem pTo_succ {b : Built} {A : List (List Int)} {m : Int} (hm : m ∈ b.ms) (d l : Int) {k : Nat} (hk : k < A.length) :
  pTo b A m d l (k + 1) = zFR (zFR (pTo b A m d l k) (decide (k > 0)) (heldN b A[k] m d l (zHJ b A[k] m d).lo)) true (heldN b A[k] m d l (zHJ b A[k] m d).hi) := by
 unfold pTo
 rw [List.take_succ_eq_append_getElem hk, List.flatMap_append, List.flatMap_singleton, ends_is hm]
 have e : ∀ (xs : List Int) (a c : Int), xs ++ [a, c] = (xs ++ [a]) ++ [c] := fun xs a c => by simp
 rw [e, zLT (by simp)]
 by_cases h0 : k = 0
 ·subst h0
  simp [zFR, show ∀ x : Int, zCG [x] = ⟨x, x⟩ from fun _ => rfl]
 ·have hne : (A.take k).flatMap (fun S => zPA b S m d l) ≠ [] := by
   intro he
   have hl := congrArg List.length he
   obtain ⟨j, rfl⟩ : ∃ j, k = j + 1 := ⟨k - 1, by omega⟩
   rw [List.take_succ_eq_append_getElem (by omega), List.flatMap_append, List.flatMap_singleton, ends_is hm] at hl
   simp at hl
  rw [zLT hne]
  simp [zFR, h0, Nat.pos_of_ne_zero h0]
end
end Go.Proofs.YtpolpdegpbahiaaGreatDoor
