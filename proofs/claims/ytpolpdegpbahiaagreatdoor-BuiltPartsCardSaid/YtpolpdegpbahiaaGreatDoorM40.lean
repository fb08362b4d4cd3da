/- All pieces that a machine has, in a table by issues: plain. -/
import Derived.Test.YtpolpdegpbahiaaGreatDoorM38
import Derived.Test.YtpolpdegpbahiaaGreatDoorM39
set_option linter.all false
set_option maxRecDepth 100000
set_option maxHeartbeats 12800000

namespace Go.Proofs.YtpolpdegpbahiaaGreatDoor
open Tryz
section
open Go.RowKit Go.Shelf
attribute [local go_sem] zAN Oper.grows Oper.growUpon
theorem enter_pieces2 : Enters prog 42 := enters_of func42 (by kernel_rfl) rfl
theorem enter_parts2 : Enters prog 49 := enters_of func49 (by kernel_rfl) rfl
theorem tell_pieces (w : World) (x : Fnd) (ga gr : Nat) (vr vn vm vh vs vz : Value) (b : Built) (S : List Int) (L : List Span) (i : Nat) (m d l : Int) (hF : FoundAt w x.p vr vn vm vh vs vz (.slice x.a x.n x.c) b S L) (hv : zM b = 0) (hL : siteL b S = some L) (hm : b.ms[i]? = some m) (hix : b.ms.idxOf m = i) (hd : d ∈ nums b.ns.reg) (hd64 : I64 d)
  (hga : zJ w ga 0 (.int .i64 i)) (hgr : zJ w gr 0 (.int .i64 d) ∧ zJ w gr 1 (.int .i64 l)) :
  Calls prog 42 (#[.agg #[.pointer (some ⟨x.p, 0, none⟩), .slice x.a x.n x.c]] ++ #[.pointer (some ⟨ga, 0, none⟩), .pointer (some ⟨gr, 0, none⟩)]) w fun e w' => ∃ u xs, e = .returned u ∧ Sl zAJ 1 w' u xs ∧ (∀ y, y ∈ xs ↔ y ∈ zPA b S m d l) ∧ 0 < xs.length ∧ xs.length ≤ 2 ∧ Below w.heap.size w w' := by
 have hb1 := zB w (.cells #[.pointer (some ⟨x.p, 0, none⟩), .slice x.a x.n x.c] 95)
 have hcall := foundPieces (w.alloc (.cells #[.pointer (some ⟨x.p, 0, none⟩), .slice x.a x.n x.c] 95)) x.p vr vn vm vh vs vz _ b S L i m d l (hF.ext hb1) hv hL hm hix hd hd64
 have ca := zC hb1 hga
 have cb := zC hb1 hgr.1
 have cc := zC hb1 hgr.2
 unfold zJ at ca cb cc
 have HB1 := zF hb1
 clear hF hv hL hm hix hd hga hgr hb1
 go_enter func42, ntmps42
 go_wp2_with (go_at_call 43; refine hcall.mono ?_; rintro e w2 ⟨u, xs, rfl, h1, h2, ⟨h3, h4⟩, hb2⟩; have H := zF (And.intro h1 (And.intro h2 (And.intro h3 (And.intro h4 (zA HB1.out hb2))))); clear h1 h2 h3 h4)
 go_ret
 exact ⟨u, xs, rfl, H.out.1, H.out.2.1, H.out.2.2.1, H.out.2.2.2.1, H.out.2.2.2.2⟩
theorem tell_parts (w : World) (x : Fnd) (ga gr : Nat) (vr vn vm vh vs vz : Value) (b : Built) (S : List Int) (L : List Span) (i : Nat) (m d l : Int) (hF : FoundAt w x.p vr vn vm vh vs vz (.slice x.a x.n x.c) b S L) (hv : zM b = 0) (hL : siteL b S = some L) (hm : b.ms[i]? = some m) (hix : b.ms.idxOf m = i) (hd : d ∈ nums b.ns.reg) (hd64 : I64 d)
  (hga : zJ w ga 0 (.int .i64 i)) (hgr : zJ w gr 0 (.int .i64 d) ∧ zJ w gr 1 (.int .i64 l)) :
  Calls prog 49 (#[.agg #[.pointer (some ⟨x.p, 0, none⟩), .slice x.a x.n x.c]] ++ #[.pointer (some ⟨ga, 0, none⟩), .pointer (some ⟨gr, 0, none⟩)]) w fun e w' => ∃ u xs, e = .returned u ∧ Sl zAJ 1 w' u xs ∧ (∀ y, y ∈ xs ↔ y ∈ zPA b S m d l) ∧ 0 < xs.length ∧ xs.length ≤ 2 ∧ Below w.heap.size w w' := by
 have hb1 := zB w (.cells #[.pointer (some ⟨x.p, 0, none⟩), .slice x.a x.n x.c] 95)
 have hcall := foundPieces (w.alloc (.cells #[.pointer (some ⟨x.p, 0, none⟩), .slice x.a x.n x.c] 95)) x.p vr vn vm vh vs vz _ b S L i m d l (hF.ext hb1) hv hL hm hix hd hd64
 have ca := zC hb1 hga
 have cb := zC hb1 hgr.1
 have cc := zC hb1 hgr.2
 unfold zJ at ca cb cc
 have HB1 := zF hb1
 clear hF hv hL hm hix hd hga hgr hb1
 go_enter func49, ntmps49
 go_wp2_with (go_at_call 43; refine hcall.mono ?_; rintro e w2 ⟨u, xs, rfl, h1, h2, ⟨h3, h4⟩, hb2⟩; have H := zF (And.intro h1 (And.intro h2 (And.intro h3 (And.intro h4 (zA HB1.out hb2))))); clear h1 h2 h3 h4)
 go_ret
 exact ⟨u, xs, rfl, H.out.1, H.out.2.1, H.out.2.2.1, H.out.2.2.2.1, H.out.2.2.2.2⟩
theorem flat_range {A : List (List Int)} (f : List Int → List Int) : (List.range A.length).flatMap (fun k => f (A.getD k [])) = A.flatMap f := by
 have key : ∀ k, k ≤ A.length → (List.range k).flatMap (fun k => f (A.getD k [])) = (A.take k).flatMap f := by
  intro k
  induction k with
  | zero => intro _; simp
  | succ k ih =>
    intro hk
    have hlt : k < A.length := by omega
    rw [List.range_succ, List.flatMap_append, List.flatMap_singleton, ih (by omega), List.take_succ_eq_append_getElem hlt, List.flatMap_append, List.flatMap_singleton, List.getD_eq_getElem?_getD, List.getElem?_eq_getElem hlt]
    rfl
 have := key A.length (Nat.le_refl _)
 rwa [List.take_length] at this
theorem over_pieces (w : World) (g ga gr : Nat) (v vr vn vm vh vs : Value) (n1 : Nat) (fs : List Fnd) (b : Built) (i : Nat) (m d l : Int) (eg : ∀ args w, (callFunc g args).run prog w = .ok (.enter g args) w)
  (htell : ∀ (w : World) (x : Fnd) (vz : Value) (S : List Int) (L : List Span), FoundAt w x.p vr vn vm vh vs vz (.slice x.a x.n x.c) b S L → siteL b S = some L → zJ w ga 0 (.int .i64 i) → (zJ w gr 0 (.int .i64 d) ∧ zJ w gr 1 (.int .i64 l)) →
   Calls prog g (#[.agg #[.pointer (some ⟨x.p, 0, none⟩), .slice x.a x.n x.c]] ++ #[.pointer (some ⟨ga, 0, none⟩), .pointer (some ⟨gr, 0, none⟩)]) w fun e w' => ∃ u xs, e = .returned u ∧ Sl zAJ 1 w' u xs ∧ (∀ y, y ∈ xs ↔ y ∈ zPA b S m d l) ∧ 0 < xs.length ∧ xs.length ≤ 2 ∧ Below w.heap.size w w')
  (hF : Finds w n1 v fs vr vn vm vh vs b (zBH b)) (hB : BuiltAt w vr vn vm vh vs b) (h0 : 0 < fs.length) (h32 : fs.length ≤ 32) (hga : zJ w ga 0 (.int .i64 i)) (hgr : zJ w gr 0 (.int .i64 d) ∧ zJ w gr 1 (.int .i64 l)) :
  Calls prog 41 #[v, .func (.func g) #[] #[.pointer (some ⟨ga, 0, none⟩), .pointer (some ⟨gr, 0, none⟩)]] w fun e w' => e = .returned (.agg #[.int .i64 (zAT b (zBH b) m d l).lo, .int .i64 (zAT b (zBH b) m d l).hi]) ∧ Below w.heap.size w w' := by
 have h := over_built w v g #[.pointer (some ⟨ga, 0, none⟩), .pointer (some ⟨gr, 0, none⟩)] fs (fun k => zPA b ((zBH b).getD k []) m d l) (finds_sl hF.row) eg h0 h32 (fun k hk w' hb => by
  have hk' : k < (zBH b).length := by rw [← hF.len]; exact hk
  obtain ⟨vz, L, hFo, hL⟩ := (hF.at_ k hk hk').found hB
  have e : (zBH b).getD k [] = (zBH b)[k] := by rw [List.getD_eq_getElem?_getD, List.getElem?_eq_getElem hk']; rfl
  rw [e]
  exact htell w' fs[k] vz _ L (hFo.ext hb) hL (zC hb hga) ⟨zC hb hgr.1, zC hb hgr.2⟩)
 rw [hF.len, flat_range (fun S => zPA b S m d l)] at h
 exact h
theorem someC_right (b : Built) (m d l : Int) : zMF b (rightC b.ns.reg (zJA b.ms m) d l) = zAL b m d l := by
 have h8 := builtCode_8 b
 unfold zMF zAL zBA rightC orI zJA
 by_cases hv : zM b = 0
 ·by_cases hm : m ∈ b.ms
  ·by_cases hp : zHO b.ns.reg d l
   ·have hp' := (zGG _ _ _).2 hp
    by_cases hl : zBH b = [] <;> simp [hv, hm, hp, hp', hl]
   ·have hp' : partB b.ns.reg d l = false := by simpa using fun h => hp ((zGG _ _ _).1 h)
    by_cases hl : zBH b = [] <;> simp [hv, hm, hp, hp', hl]
  ·simp [hv, hm]
 ·simp [hv, h8.1, h8.2]
end
section
open Go.RowKit Go.Shelf
attribute [local go_sem] zAN Oper.grows Oper.growUpon
theorem zJU {b : Built} (hv : zM b = 0) : zAC b.ns.reg = 0 ∧ ∀ x ∈ b.ns.reg, In x.k 1 3 := by
 have hz := (zAS (zW hv).1).1
 refine ⟨hz, fun x hx => ?_⟩
 obtain ⟨k, hk, rfl⟩ := List.getElem_of_mem hx
 exact (((zAR hz).2.1 k hk).1 hk).1.2.2.1
theorem pieces_ok {b : Built} {m d l : Int} (h : zAL b m d l = 0) : zM b = 0 ∧ m ∈ b.ms ∧ zHO b.ns.reg d l := by
 by_cases ha : zBA b m = 0 ∨ zBA b m = 8
 ·obtain ⟨h1, h2⟩ := ask_ok ha
  refine ⟨h1, h2, Classical.byContradiction fun hp => ?_⟩
  unfold zAL at h
  rw [if_pos ⟨ha, hp⟩] at h
  cases h
 ·unfold zAL at h
  rw [if_neg (fun hh => ha hh.1)] at h
  exact absurd (.inl h) ha
theorem zOS (w : World) (vr vn vm vh vs : Value) (b : Built) (m d l : Int) (hA : BuiltArg w vr vn vm vh vs b) (hK : KindsAt w) (hd64 : I64 d) :
  Calls prog 8 #[.agg #[vr, vn, .int .i64 b.of, vm, vh, vs], .int .i64 m, .agg #[.int .i64 d, .int .i64 l]] w fun e w' => e = .returned (.tuple #[.agg #[.int .i64 (zAY b m d l).lo, .int .i64 (zAY b m d l).hi], .int .i64 (zAL b m d l)]) ∧ Below w.heap.size w w' := by
 obtain ⟨ar, cr, rfl, _⟩ := zD hA.at_.reg
 obtain ⟨an, cn, rfl, _⟩ := zD hA.at_.notes
 obtain ⟨am, cm, rfl, _⟩ := zD hA.at_.ms
 obtain ⟨ah, ch, rfl, _⟩ := zD hA.at_.hs
 obtain ⟨as', cs', rfl, _⟩ := zD hA.at_.rs
 have hb1 := zB w (.cells #[.slice ar b.ns.reg.length cr, .slice an b.ns.notes.length cn, .int .i64 b.of, .slice am b.ms.length cm, .slice ah b.hs.length ch, .slice as' b.rs.length cs'] 32)
 have hbox := Lay.new w 32 #[.slice ar b.ns.reg.length cr, .slice an b.ns.notes.length cn, .int .i64 b.of, .slice am b.ms.length cm, .slice ah b.hs.length ch, .slice as' b.rs.length cs']
 have hl1 : (w.alloc (.cells #[.slice ar b.ns.reg.length cr, .slice an b.ns.notes.length cn, .int .i64 b.of, .slice am b.ms.length cm, .slice ah b.hs.length ch, .slice as' b.rs.length cs'] 32)).heap.size = w.heap.size + 1 := World.size_alloc _ _
 generalize hw0 : w.alloc (.cells #[.slice ar b.ns.reg.length cr, .slice an b.ns.notes.length cn, .int .i64 b.of, .slice am b.ms.length cm, .slice ah b.hs.length ch, .slice as' b.rs.length cs'] 32) = w0 at hb1 hbox hl1
 have hb2 := zB w0 (.cells #[.int .i64 d, .int .i64 l] 34)
 have href := Lay.new w0 34 #[.int .i64 d, .int .i64 l]
 have hl2 := World.size_alloc w0 (.cells #[.int .i64 d, .int .i64 l] 34)
 rw [hl1] at href hl2
 have hb3 := zB (w0.alloc (.cells #[.int .i64 d, .int .i64 l] 34)) (.cells #[.int .i64 0, .int .i64 0] 38)
 have hres := Lay.new (w0.alloc (.cells #[.int .i64 d, .int .i64 l] 34)) 38 #[.int .i64 0, .int .i64 0]
 have hl3 := World.size_alloc (w0.alloc (.cells #[.int .i64 d, .int .i64 l] 34)) (.cells #[.int .i64 0, .int .i64 0] 38)
 rw [hl2] at hres hl3
 have HBW := zF (zA hb1 (zA hb2 hb3))
 have HBOX := zF ((hbox.ext hb2).ext hb3)
 have HREF := zF (href.ext hb3)
 have HRES := zF hres
 have HA := zF (hA.ext HBW.out)
 have HK := zF (hK.ext HBW.out)
 clear hb1 hb2 hb3 hbox href hres hl2 hA hK
 subst hw0
 have c3 := HBOX.out.cell 3 _ rfl
 go_enter func8, ntmps8
 go_wp2_with fail
 generalize ((w.alloc _).alloc _).alloc _ = w1 at *
 refine (zJM w1 _ b.ms m HA.out.at_.ms).mono ?_
 rintro e w' ⟨rfl, rfl⟩
 have hb4 := zB w1 (.cells #[.int .i64 (zJA b.ms m)] 3)
 have hat := Lay.new w1 3 #[.int .i64 (zJA b.ms m)]
 rw [hl3] at hat
 have HAT := zF hat
 have HBOX := zF (HBOX.out.ext hb4)
 have HREF := zF (HREF.out.ext hb4)
 have HRES := zF (HRES.out.ext hb4)
 have HA := zF (HA.out.ext hb4)
 have HK := zF (HK.out.ext hb4)
 have HBW := zF (zA HBW.out hb4)
 have k0 := HBOX.out.cell 0 _ rfl
 have k1 := HBOX.out.cell 1 _ rfl
 have k2 := HBOX.out.cell 2 _ rfl
 have k3 := HBOX.out.cell 3 _ rfl
 have k4 := HBOX.out.cell 4 _ rfl
 have k5 := HBOX.out.cell 5 _ rfl
 clear hb4 hat c3
 go_wp2_with fail
 clear k0 k1 k2 k3 k4 k5 hl1 hl3
 generalize w1.alloc _ = w5 at *
 have hright : zM b = 0 → ∀ w', Below w5.heap.size w5 w' → Calls prog 37 #[.pointer (some ⟨w.heap.size + 1 + 1 + 1, 0, none⟩), .pointer (some ⟨w.heap.size, 0, none⟩), .pointer (some ⟨w.heap.size + 1, 0, none⟩)] w' fun e w'' => e = .returned (.int .i64 (rightC b.ns.reg (zJA b.ms m) d l)) ∧ Below w'.heap.size w' w'' :=
  fun hv w' hb => right1_built w' _ _ _ _ b.ns.reg (zJA b.ms m) d l (zC hb (HAT.out.cell 0 _ rfl)) (zC hb (HBOX.out.cell 0 _ rfl)) ⟨zC hb (HREF.out.cell 0 _ rfl), zC hb (HREF.out.cell 1 _ rfl)⟩ (HA.out.notes.reg.ext hb) (zJU hv).1 (zJU hv).2
 refine (some_built w5 _ _ _ _ _ b 37 _ (rightC b.ns.reg (zJA b.ms m) d l) HA.out HK.out enter_right hright).mono ?_
 clear hright
 rintro e w2 ⟨hb2, v, rfl, ⟨a, n, q, rfl⟩, hf⟩
 rw [someC_right] at hf ⊢
 have HF := zF hf
 have HAT := zF (HAT.out.ext hb2)
 have HREF := zF (HREF.out.ext hb2)
 have HRES := zF (HRES.out.ext hb2)
 have HA := zF (HA.out.ext hb2)
 have HBW := zF (zA HBW.out hb2)
 clear hf hb2
 by_cases hc : zAL b m d l = 0
 case neg =>
  have hc' : (zAL b m d l != 0) = true := by simpa using hc
  have hS : Hid (zAY b m d l = ⟨0, 0⟩) := by unfold Hid zAY; rw [if_neg hc]
  have z0 := HRES.out.cell 0 _ rfl
  have z1 := HRES.out.cell 1 _ rfl
  have zf0 := HRES.out.frozen 0
  have zf1 := HRES.out.frozen 1
  have zl := HRES.out.lt
  clear hc
  go_wp2
  refine bodyPost_ret (v := .tuple #[.agg #[.int .i64 0, .int .i64 0], .int .i64 (zAL b m d l)]) (by simp [results, results8, go_sem, z0, z1, zl]) rfl ?_
  exact ⟨by rw [hS.out], zH (by omega) (zH (by omega) HBW.out)⟩
 case pos =>
  have hS : Hid (zAY b m d l = zAT b (zBH b) m d l) := by unfold Hid zAY; rw [if_pos hc]
  have HC := zF hc
  obtain ⟨hv, hm, hp⟩ := pieces_ok hc
  have hdn := zEP (zAR (zJU hv).1) hp
  have hi : b.ms.idxOf m < b.ms.length := List.idxOf_lt_length_of_mem hm
  have hmi : b.ms[b.ms.idxOf m]? = some m := by rw [List.getElem?_eq_getElem hi, List.getElem_idxOf]
  obtain ⟨n1, fs, hFi, h32, hpos⟩ := HF.out hc
  have hcall := over_pieces w2 42 (w.heap.size + 1 + 1 + 1) (w.heap.size + 1) _ _ _ _ _ _ n1 fs b (b.ms.idxOf m) m d l enter_pieces2
   (fun w' x vz S L h1 h2 h3 h4 => tell_pieces w' x _ _ _ _ _ _ _ vz b S L _ m d l h1 hv h2 hmi rfl hdn hd64 h3 h4) hFi HA.out.at_ hpos h32 (by rw [← idxI_is hm]; exact HAT.out.cell 0 _ rfl) ⟨HREF.out.cell 0 _ rfl, HREF.out.cell 1 _ rfl⟩
  rw [hc]
  clear hc hv hm hp hdn hi hmi hFi h32 hpos HF
  go_wp2_with (go_at_call 41; refine hcall.mono ?_; rintro e w3 ⟨rfl, hb3⟩; have HRES := zF (HRES.out.ext hb3); have HBW := zF (zA HBW.out hb3); have z0 := HRES.out.cell 0 _ rfl; have z1 := HRES.out.cell 1 _ rfl; have zf0 := HRES.out.frozen 0; have zf1 := HRES.out.frozen 1; have zl := HRES.out.lt; clear hcall hb3)
  refine bodyPost_ret (v := .tuple #[.agg #[.int .i64 (zAT b (zBH b) m d l).lo, .int .i64 (zAT b (zBH b) m d l).hi], .int .i64 0]) (by simp [results, results8, go_sem, z0, z1, zl]) rfl ?_
  exact ⟨by rw [hS.out, HC.out], zH (by omega) (zH (by omega) HBW.out)⟩
end
section
open Go.RowKit
theorem refs_rise {R : List Issue} (h : ∀ k, k < R.length → zIC R k) : ∀ i j, (hij : i < j) → (hj : j < R.length) → have hi : i < R.length := Nat.lt_trans hij hj; R[i].d < R[j].d ∨ (R[i].d = R[j].d ∧ R[i].l < R[j].l) := by
 intro i j hij
 induction j with
 | zero => omega
 | succ j ih =>
   intro hj
   have h1 := (h (j + 1) hj hj).2 (by omega)
   simp only [Nat.add_sub_cancel] at h1
   by_cases e : i = j
   ·subst e
    rcases h1 with h1 | h1
    ·exact .inl h1.1
    ·exact .inr ⟨h1.1, by omega⟩
   ·have h2 := ih (by omega) (by omega)
    rcases h1 with h1 | h1 <;> rcases h2 with h2 | h2 <;> omega
theorem zNQ {R : List Issue} (h : ∀ k, k < R.length → zIC R k) {i j : Nat} (hi : i < R.length) (hj : j < R.length) (hd : R[i].d = R[j].d) (hl : R[i].l = R[j].l) : i = j := by
 rcases Nat.lt_trichotomy i j with e | e | e
 ·have := refs_rise h i j e hj; omega
 ·exact e
 ·have := refs_rise h j i e hi; omega
theorem find_self {R : List Issue} (h : ∀ k, k < R.length → zIC R k) {k : Nat} (hk : k < R.length) : zDB R R[k].d R[k].l = some R[k] :=
 findR_at R _ _ k hk (by simp [zEZ]) (fun j hj hjl => by
  by_cases e : zEZ R[k].d R[k].l R[j] = true
  ·unfold zEZ at e
   simp at e
   have := zNQ h hjl hk e.1 e.2
   omega
  ·simpa using e)
theorem part_at {R : List Issue} (h : ∀ k, k < R.length → zIC R k) {k : Nat} (hk : k < R.length) : zHO R R[k].d R[k].l ↔ 1 < R[k].k := by
 unfold zHO
 rw [find_self h hk]
 constructor
 ·rintro ⟨x, hx, h1⟩; cases hx; exact h1
 ·intro h1; exact ⟨_, rfl, h1⟩
theorem ends_nn {b : Built} (h : zM b = 0) (S : List Int) (m d l : Int) : ∀ y ∈ zPA b S m d l, 0 ≤ y := by
 have hc := zGZ h S m d
 have ho : ∀ bef n : Int, 0 ≤ zPD bef (zAB b S m d).c n ∧ zPD bef (zAB b S m d).c n ≤ (zAB b S m d).c := fun bef n => by unfold zPD; omega
 have hh : ∀ o : Int, 0 ≤ o → o ≤ (zAB b S m d).c → 0 ≤ zDL (zAB b S m d) l o := fun o h0 h1 => by
  unfold zDL
  split
  ·omega
  ·split <;> omega
 intro y hy
 unfold zPA at hy
 simp only [List.mem_cons, List.not_mem_nil, or_false] at hy
 rcases hy with rfl | rfl
 ·split
  ·exact hh _ (by omega) (by omega)
  ·exact hh _ (ho _ _).1 (ho _ _).2
 ·split
  ·exact hh _ (by omega) (by omega)
  ·exact hh _ (ho _ _).1 (ho _ _).2
theorem piecesR_nn {b : Built} (h : zM b = 0) (A : List (List Int)) (m d l : Int) : 0 ≤ (zAT b A m d l).hi := by
 unfold zAT
 have key : ∀ y ∈ A.flatMap (fun S => zPA b S m d l), 0 ≤ y := fun y hy => by
  obtain ⟨S, _, hy⟩ := List.mem_flatMap.1 hy
  exact ends_nn h S m d l y hy
 generalize A.flatMap (fun S => zPA b S m d l) = xs at *
 by_cases he : xs = []
 ·subst he; exact Int.le_refl _
 ·exact key _ (zJS he).2.1
noncomputable def spV (b : Built) (m d l : Int) : Value := .agg #[.int .i64 (zAT b (zBH b) m d l).lo, .int .i64 (zAT b (zBH b) m d l).hi]
open Classical in
noncomputable def zIZ (b : Built) (m : Int) (k : Nat) (d l : Int) : Option Value :=
 if ∃ j, j < k ∧ ∃ hj : j < b.ns.reg.length, b.ns.reg[j].d = d ∧ b.ns.reg[j].l = l ∧ zBX b m b.ns.reg[j] ≠ [] then some (spV b m d l) else none
theorem partF_zero (b : Built) (m d l : Int) : zIZ b m 0 d l = none := by unfold zIZ; rw [if_neg]; rintro ⟨j, hj, _⟩; omega
theorem partF_yes {b : Built} {m : Int} {k : Nat} (hk : k < b.ns.reg.length) (hy : zBX b m b.ns.reg[k] ≠ []) (y z : Int) : (if y = b.ns.reg[k].d ∧ z = b.ns.reg[k].l then some (spV b m b.ns.reg[k].d b.ns.reg[k].l) else zIZ b m k y z) = zIZ b m (k + 1) y z := by
 by_cases e : y = b.ns.reg[k].d ∧ z = b.ns.reg[k].l
 ·obtain ⟨rfl, rfl⟩ := e
  rw [if_pos ⟨rfl, rfl⟩]
  unfold zIZ
  rw [if_pos ⟨k, by omega, hk, rfl, rfl, hy⟩]
 ·rw [if_neg e]
  unfold zIZ
  have hiff : (∃ j, j < k ∧ ∃ hj : j < b.ns.reg.length, b.ns.reg[j].d = y ∧ b.ns.reg[j].l = z ∧ zBX b m b.ns.reg[j] ≠ []) ↔ (∃ j, j < k + 1 ∧ ∃ hj : j < b.ns.reg.length, b.ns.reg[j].d = y ∧ b.ns.reg[j].l = z ∧ zBX b m b.ns.reg[j] ≠ []) := by
   constructor
   ·rintro ⟨j, h1, h2⟩; exact ⟨j, by omega, h2⟩
   ·rintro ⟨j, h1, h2, h3, h4, h5⟩
    by_cases ej : j = k
    ·subst ej; exact absurd ⟨h3.symm, h4.symm⟩ e
    ·exact ⟨j, by omega, h2, h3, h4, h5⟩
  by_cases hc : ∃ j, j < k ∧ ∃ hj : j < b.ns.reg.length, b.ns.reg[j].d = y ∧ b.ns.reg[j].l = z ∧ zBX b m b.ns.reg[j] ≠ []
  ·rw [if_pos hc, if_pos (hiff.1 hc)]
  ·rw [if_neg hc, if_neg (fun h => hc (hiff.2 h))]
theorem partF_no {b : Built} (ho : ∀ k, k < b.ns.reg.length → zIC b.ns.reg k) {m : Int} {k : Nat} (hk : k < b.ns.reg.length) (hy : zBX b m b.ns.reg[k] = []) (v : Value) (y z : Int) :
  (if y = b.ns.reg[k].d ∧ z = b.ns.reg[k].l then none else (if y = b.ns.reg[k].d ∧ z = b.ns.reg[k].l then some v else zIZ b m k y z)) = zIZ b m (k + 1) y z := by
 by_cases e : y = b.ns.reg[k].d ∧ z = b.ns.reg[k].l
 ·rw [if_pos e]
  obtain ⟨rfl, rfl⟩ := e
  unfold zIZ
  rw [if_neg]
  rintro ⟨j, h1, h2, h3, h4, h5⟩
  have := zNQ ho h2 hk h3 h4
  subst this
  exact h5 hy
 ·rw [if_neg e, if_neg e]
  unfold zIZ
  have hiff : (∃ j, j < k ∧ ∃ hj : j < b.ns.reg.length, b.ns.reg[j].d = y ∧ b.ns.reg[j].l = z ∧ zBX b m b.ns.reg[j] ≠ []) ↔ (∃ j, j < k + 1 ∧ ∃ hj : j < b.ns.reg.length, b.ns.reg[j].d = y ∧ b.ns.reg[j].l = z ∧ zBX b m b.ns.reg[j] ≠ []) := by
   constructor
   ·rintro ⟨j, h1, h2⟩; exact ⟨j, by omega, h2⟩
   ·rintro ⟨j, h1, h2, h3, h4, h5⟩
    by_cases ej : j = k
    ·subst ej; exact absurd ⟨h3.symm, h4.symm⟩ e
    ·exact ⟨j, by omega, h2, h3, h4, h5⟩
  by_cases hc : ∃ j, j < k ∧ ∃ hj : j < b.ns.reg.length, b.ns.reg[j].d = y ∧ b.ns.reg[j].l = z ∧ zBX b m b.ns.reg[j] ≠ []
  ·rw [if_pos hc, if_pos (hiff.1 hc)]
  ·rw [if_neg hc, if_neg (fun h => hc (hiff.2 h))]
theorem partF_all {b : Built} (ho : ∀ k, k < b.ns.reg.length → zIC b.ns.reg k) {m : Int} {k : Nat} (hk : k < b.ns.reg.length) :
  (zBX b m b.ns.reg[k] ≠ [] → zIZ b m b.ns.reg.length b.ns.reg[k].d b.ns.reg[k].l = some (spV b m b.ns.reg[k].d b.ns.reg[k].l)) ∧ (zBX b m b.ns.reg[k] = [] → zIZ b m b.ns.reg.length b.ns.reg[k].d b.ns.reg[k].l = none) := by
 constructor
 ·intro h
  unfold zIZ
  rw [if_pos ⟨k, hk, hk, rfl, rfl, h⟩]
 ·intro h
  unfold zIZ
  rw [if_neg]
  rintro ⟨j, h1, h2, h3, h4, h5⟩
  have := zNQ ho h2 hk h3 h4
  subst this
  exact h5 h
theorem someC_ask (b : Built) (m : Int) : zMF b (if 0 ≤ zJA b.ms m then 0 else 2) = zBA b m := by
 unfold zMF zBA zJA
 by_cases hv : zM b = 0
 ·by_cases hm : m ∈ b.ms
  ·by_cases hl : zBH b = [] <;> simp [hv, hm, hl]
  ·simp [hv, hm]
 ·simp [hv]
end
end Go.Proofs.YtpolpdegpbahiaaGreatDoor
