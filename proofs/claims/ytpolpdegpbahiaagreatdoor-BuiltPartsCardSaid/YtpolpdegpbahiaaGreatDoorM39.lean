/- Maps whose keys are issues' names: structs of two ints. -/
import Derived.DeepKeys4
import Derived.Test.YtpolpdegpbahiaaGreatDoorM23
import Derived.Test.YtpolpdegpbahiaaGreatDoorM27
import Derived.Test.YtpolpdegpbahiaaGreatDoorM33
import Derived.Test.YtpolpdegpbahiaaGreatDoorM34
import Derived.Test.YtpolpdegpbahiaaGreatDoorM35
set_option linter.all false
set_option maxRecDepth 100000
set_option maxHeartbeats 12800000

namespace Go.Proofs.YtpolpdegpbahiaaGreatDoor
open Tryz
section
open Go.RowKit Go.Shelf
attribute [local go_sem] zAN Oper.grows Oper.growUpon
theorem builtCode_8 (b : Built) : zM b ≠ 8 ∧ zM b ≠ 2 := by
 have h1 : zAC b.ns.reg = 20 ∨ zAC b.ns.reg = 21 ∨ zAC b.ns.reg = 0 := by
  unfold zAC
  split
  ·split
   ·exact .inr (.inl rfl)
   ·split
    ·exact .inl rfl
    ·exact .inr (.inr rfl)
  ·exact .inl rfl
 have h2 : zX b.ns.reg b.ns.notes = 20 ∨ zX b.ns.reg b.ns.notes = 21 ∨ zX b.ns.reg b.ns.notes = 0 ∨ zX b.ns.reg b.ns.notes = 30 := by
  unfold zX
  split
  ·rcases h1 with h | h | h
   ·exact .inl h
   ·exact .inr (.inl h)
   ·exact absurd h (by assumption)
  ·split
   ·exact .inr (.inr (.inl rfl))
   ·exact .inr (.inr (.inr rfl))
 unfold zM
 split
 ·rcases h2 with h | h | h | h <;> rw [h] <;> constructor <;> decide
 ·split <;> constructor <;> decide
theorem ask_ok {b : Built} {m : Int} (h : zBA b m = 0 ∨ zBA b m = 8) : zM b = 0 ∧ m ∈ b.ms := by
 have h8 := builtCode_8 b
 unfold zBA at h
 by_cases hv : zM b = 0
 ·refine ⟨hv, ?_⟩
  rw [if_neg (by simp [hv])] at h
  by_cases hm : m ∈ b.ms
  ·exact hm
  ·rw [if_pos hm] at h
   rcases h with h | h <;> cases h
 ·rw [if_pos hv] at h
  rcases h with h | h
  ·exact absurd h hv
  ·exact absurd h h8.1
open Classical in
noncomputable def zAL (b : Built) (m d l : Int) : Int := if (zBA b m = 0 ∨ zBA b m = 8) ∧ ¬ zHO b.ns.reg d l then 6 else zBA b m
noncomputable def zAY (b : Built) (m d l : Int) : Span := if zAL b m d l = 0 then zAT b (zBH b) m d l else ⟨0, 0⟩
theorem zOW (w : World) (vr vn vm vh vz : Value) (b : Built) (m d l : Int) (hB : BuiltAt w vr vn vm vh vz b) :
  Calls prog 9 #[.agg #[vr, vn, .int .i64 b.of, vm, vh, vz], .int .i64 m, .agg #[.int .i64 d, .int .i64 l]] w fun e w' => e = .returned (.tuple #[.agg #[.int .i64 (zAY b m d l).lo, .int .i64 (zAY b m d l).hi], .int .i64 (zAL b m d l)]) ∧ Below w.heap.size w w' := by
 have hb1 := zB w (.cells #[vr, vn, .int .i64 b.of, vm, vh, vz] 32)
 have hbox1 := zHC w vr vn vm vh vz b.of 32
 have hl1 : (w.alloc (.cells #[vr, vn, .int .i64 b.of, vm, vh, vz] 32)).heap.size = w.heap.size + 1 := World.size_alloc _ _
 have HB := zF (hB.ext hb1)
 clear hB
 go_enter func9, ntmps9
 have hb2 := zB (w.alloc (.cells #[vr, vn, .int .i64 b.of, vm, vh, vz] 32)) (.cells #[.int .i64 d, .int .i64 l] 34)
 have href := Lay.new (w.alloc (.cells #[vr, vn, .int .i64 b.of, vm, vh, vz] 32)) 34 #[.int .i64 d, .int .i64 l]
 have hl2 := World.size_alloc (w.alloc (.cells #[vr, vn, .int .i64 b.of, vm, vh, vz] 32)) (.cells #[.int .i64 d, .int .i64 l] 34)
 generalize hw0 : w.alloc (.cells #[vr, vn, .int .i64 b.of, vm, vh, vz] 32) = w0 at hb1 hbox1 hl1 HB hb2 href hl2
 have HBOX := zF (hbox1.ext hb2)
 have HB := zF (HB.out.ext hb2)
 have HWA := zF (zA hb1 hb2)
 rw [hl1] at href hl2
 have hb3 := zB (w0.alloc (.cells #[.int .i64 d, .int .i64 l] 34)) (.cells #[.int .i64 0, .int .i64 0] 38)
 have hres := Lay.new (w0.alloc (.cells #[.int .i64 d, .int .i64 l] 34)) 38 #[.int .i64 0, .int .i64 0]
 rw [hl2] at hres
 have HREF := zF (href.ext hb3)
 have HBOX := zF (HBOX.out.ext hb3)
 have HB := zF (HB.out.ext hb3)
 have HWA := zF (zA HWA.out hb3)
 have HRES := zF hres
 clear hb1 hbox1 hb2 href hb3 hres hl2
 have k0 := HBOX.out.c0
 have k1 := HBOX.out.c1
 have k2 := HBOX.out.c2
 have k3 := HBOX.out.c3
 have k4 := HBOX.out.c4
 have k5 := HBOX.out.c5
 unfold zJ at k0 k1 k2 k3 k4 k5
 subst hw0
 go_wp2_with fail
 clear k0 k1 k2 k3 k4 k5
 generalize ((w.alloc _).alloc _).alloc _ = w1 at *
 refine (asked08 _ vr vn vm vh vz b m HB.out).mono ?_
 rintro e w3 ⟨u, rfl, hu, hb3⟩
 have HU := zF hu
 have HB := zF (HB.out.ext hb3)
 have HBOX := zF (HBOX.out.ext hb3)
 have HREF := zF (HREF.out.ext hb3)
 have HRES := zF (HRES.out.ext hb3)
 have HWA := zF (zA HWA.out hb3)
 clear hb3 hu
 clear hl1
 by_cases h08 : zBA b m = 0 ∨ zBA b m = 8
 case neg =>
  have hC : Hid (zAL b m d l = zBA b m) := by unfold Hid zAL; rw [if_neg (fun h => h08 h.1)]
  have h0 : ¬ zBA b m = 0 := fun h => h08 (.inl h)
  have h8 : ¬ zBA b m = 8 := fun h => h08 (.inr h)
  have hS : Hid (zAY b m d l = ⟨0, 0⟩) := by unfold Hid zAY; rw [if_neg (by rw [hC.out]; exact h0)]
  clear h08
  have z0 := HRES.out.cell 0 _ rfl
  have z1 := HRES.out.cell 1 _ rfl
  have zf0 := HRES.out.frozen 0
  have zf1 := HRES.out.frozen 1
  have zl := HRES.out.lt
  go_wp2
  refine bodyPost_ret (v := .tuple #[.agg #[.int .i64 (zAY b m d l).lo, .int .i64 (zAY b m d l).hi], .int .i64 (zAL b m d l)]) (by simp [results, results9, go_sem, z0, z1, zl, hS.out, hC.out]) rfl ?_
  exact ⟨rfl, zH (by omega) (zH (by omega) HWA.out)⟩
 case pos =>
  obtain ⟨hv, hm⟩ := ask_ok h08
  have HV := zF hv
  have HM := zF hm
  have H08 := zF h08
  have HUU := zF (HU.out hv hm)
  have k0 := HBOX.out.c0
  have r0 := HREF.out.cell 0 _ rfl
  have r1 := HREF.out.cell 1 _ rfl
  clear hv hm HU h08
  unfold zJ at k0
  by_cases hp : zHO b.ns.reg d l
  case neg =>
   have hC : Hid (zAL b m d l = 6) := by unfold Hid zAL; rw [if_pos ⟨H08.out, hp⟩]
   have hS : Hid (zAY b m d l = ⟨0, 0⟩) := by unfold Hid zAY; rw [if_neg (by rw [hC.out]; decide)]
   rcases H08.out with h0 | h8
   all_goals
    first | rw [h0] | rw [h8]
    go_wp2_with fail
    clear k0 r0 r1
    refine (zAK.no hp (zJW _ _ _ d l HB.out.reg)).mono ?_
    rintro e w4 ⟨rfl, hb4⟩
    have HRES := zF (HRES.out.ext hb4)
    have HWA := zF (zA HWA.out hb4)
    clear hb4
    have z0 := HRES.out.cell 0 _ rfl
    have z1 := HRES.out.cell 1 _ rfl
    have zf0 := HRES.out.frozen 0
    have zf1 := HRES.out.frozen 1
    have zl := HRES.out.lt
    go_wp2
    refine bodyPost_ret (v := .tuple #[.agg #[.int .i64 (zAY b m d l).lo, .int .i64 (zAY b m d l).hi], .int .i64 (zAL b m d l)]) (by simp [results, results9, go_sem, z0, z1, zl, hS.out, hC.out]) rfl ?_
    exact ⟨rfl, zH (by omega) (zH (by omega) HWA.out)⟩
  case pos =>
   by_cases h0 : zBA b m = 0
   case neg =>
    have h8 : zBA b m = 8 := H08.out.resolve_left h0
    have hC : Hid (zAL b m d l = 8) := by unfold Hid zAL; rw [if_neg (fun h => h.2 hp)]; exact h8
    have hS : Hid (zAY b m d l = ⟨0, 0⟩) := by unfold Hid zAY; rw [if_neg (by rw [hC.out]; decide)]
    rw [h8]
    clear h0 h8
    go_wp2_with fail
    clear k0 r0 r1
    refine (zAK.yes hp (zJW _ _ _ d l HB.out.reg)).mono ?_
    rintro e w4 ⟨rfl, hb4⟩
    have HRES := zF (HRES.out.ext hb4)
    have HWA := zF (zA HWA.out hb4)
    clear hb4
    have z0 := HRES.out.cell 0 _ rfl
    have z1 := HRES.out.cell 1 _ rfl
    have zf0 := HRES.out.frozen 0
    have zf1 := HRES.out.frozen 1
    have zl := HRES.out.lt
    go_wp2
    refine bodyPost_ret (v := .tuple #[.agg #[.int .i64 (zAY b m d l).lo, .int .i64 (zAY b m d l).hi], .int .i64 (zAL b m d l)]) (by simp [results, results9, go_sem, z0, z1, zl, hS.out, hC.out]) rfl ?_
    exact ⟨rfl, zH (by omega) (zH (by omega) HWA.out)⟩
   case pos =>
    have hC : Hid (zAL b m d l = 0) := by unfold Hid zAL; rw [if_neg (fun h => h.2 hp)]; exact h0
    have hS : Hid (zAY b m d l = zAT b (zBH b) m d l) := by unfold Hid zAY; rw [if_pos hC.out]
    have hsl := HUU.out.2.2 h0
    rw [h0]
    have hA32 := HUU.out.2.1
    have hTT : Hid (∀ S ∈ zBH b, IsT (zCA b.ns.notes) S ∧ zII b S) := fun S hS => (HUU.out.1.2 S).1 hS
    have hdn := zF (zEP (zAR (zAS (zW HV.out).1).1) hp)
    clear h0
    go_wp2_with fail
    clear k0 r0 r1
    refine (zAK.yes hp (zJW _ _ _ d l HB.out.reg)).mono ?_
    rintro e w4 ⟨rfl, hb4⟩
    have HSL := zF (zI zCC hb4 hsl)
    have HB := zF (HB.out.ext hb4)
    have HBOX := zF (HBOX.out.ext hb4)
    have HREF := zF (HREF.out.ext hb4)
    have HRES := zF (HRES.out.ext hb4)
    have HWA := zF (zA HWA.out hb4)
    clear hb4 hsl
    go_wp2
    have k0 := zG HBOX.out.c0
    have k1 := zG HBOX.out.c1
    have k2 := zG HBOX.out.c2
    have k3 := zG HBOX.out.c3
    have k4 := zG HBOX.out.c4
    have k5 := zG HBOX.out.c5
    have r0 := zG (show zJ w4 (w.heap.size + 1) 0 _ from HREF.out.cell 0 _ rfl)
    have r1 := zG (show zJ w4 (w.heap.size + 1) 1 _ from HREF.out.cell 1 _ rfl)
    refine zK 8 (by kernel_rfl) (by kernel_rfl) ?_
    simp only [tk_]
    iterate 4 (apply gx_; focus (intro vs xq hd; (try simp [hq_] at hd); simp only [pf_]; go_simp; exact ⟨br_, rfl⟩))
    refine zL (fun v w' => Hid (Sl (AtView b) 2 w' v (zBH b))) (fun v w w' hb h => zF (zI (zKH b) hb h.out)) ?_ ?_
    ·intro vs xq hd
     (try simp [hq_] at hd)
     simp only [pf_]
     go_simp
     refine (views08 (w4.later xq) vr vn vm vh vz u b (zBH b) (HB.out.ext (zE w4 xq)) HV.out (zI zCC (zE w4 xq) HSL.out) (fun S h => (hTT.out S h).1) hA32).mono ?_
     rintro e w9 ⟨v, rfl, hV, hb⟩
     exact ⟨v, rfl, hb, zF hV⟩
    iterate 2 (apply gx_; focus (intro vs xq hd; (try simp [hq_] at hd); simp only [pf_]; go_simp; exact ⟨br_, rfl⟩))
    refine zAE ?_
    apply Exists.intro
    refine ⟨fun vs xq hd => ?_, ?_⟩
    ·(try simp [hq_] at hd)
     have g4 := hd.2.2.1
     simp only [pf_]
     go_simp
     refine (pieces08 (w4.later xq) vr vn vm vh vz u _ b (zBH b) m d l (HB.out.ext (zE w4 xq)) HV.out (zI zCC (zE w4 xq) HSL.out) g4.out hTT.out hA32 HM.out hdn.out).mono ?_
     rintro e w9 ⟨rfl, hb9⟩
     exact ⟨rfl, hb9⟩
    refine zT rfl (fun vs xq hd => ?_)
    simp [zV, zAD, List.range, List.range.loop] at hd
    simp only [pf_]
    obtain ⟨e0, e1, e2, e3, h4, e5, e6, e7⟩ := hd
    simp only [Nat.zero_add, Nat.reduceAdd] at e0 e1 e2 e3 e5 e6 e7 ⊢
    simp only [e0, e1, e2, e3, e5, e6, e7]
    have HRES := zF (HRES.out.ext (zE w4 xq))
    have HWA := zF (zA HWA.out (zE w4 xq))
    clear e0 e1 e2 e3 h4 e5 e6 e7 k0 k1 k2 k3 k4 k5 r0 r1
    generalize w4.later xq = w5 at *
    have z0 := HRES.out.cell 0 _ rfl
    have z1 := HRES.out.cell 1 _ rfl
    have zf0 := HRES.out.frozen 0
    have zf1 := HRES.out.frozen 1
    have zl := HRES.out.lt
    go_wp2
    refine bodyPost_ret (v := .tuple #[.agg #[.int .i64 (zAY b m d l).lo, .int .i64 (zAY b m d l).hi], .int .i64 (zAL b m d l)]) (by simp [results, results9, go_sem, z0, z1, zl, hS.out, hC.out]) rfl ?_
    exact ⟨rfl, zH (by omega) (zH (by omega) HWA.out)⟩
end
section
open Go.RowKit Go.Shelf
def zFJ (s : Span) (e : Int) : Int := if e ≠ 0 then 0 else if 0 < s.lo then 2 else if s.hi = 0 then 0 else 1
theorem known08 (w : World) (vr vn vm vh vz : Value) (b : Built) (m d l : Int) (hB : BuiltAt w vr vn vm vh vz b) :
  Calls prog 11 #[.agg #[vr, vn, .int .i64 b.of, vm, vh, vz], .int .i64 m, .agg #[.int .i64 d, .int .i64 l]] w fun e w' => e = .returned (.tuple #[.int .u8 (zFJ (zAY b m d l) (zAL b m d l)), .int .i64 (zAL b m d l)]) ∧ Below w.heap.size w w' := by
 have hb1 := zB w (.cells #[vr, vn, .int .i64 b.of, vm, vh, vz] 32)
 have hbox1 := zHC w vr vn vm vh vz b.of 32
 have hl1 : (w.alloc (.cells #[vr, vn, .int .i64 b.of, vm, vh, vz] 32)).heap.size = w.heap.size + 1 := World.size_alloc _ _
 have HB := zF (hB.ext hb1)
 clear hB
 go_enter func11, ntmps11
 have hb2 := zB (w.alloc (.cells #[vr, vn, .int .i64 b.of, vm, vh, vz] 32)) (.cells #[.int .i64 d, .int .i64 l] 34)
 have href := Lay.new (w.alloc (.cells #[vr, vn, .int .i64 b.of, vm, vh, vz] 32)) 34 #[.int .i64 d, .int .i64 l]
 generalize hw0 : w.alloc (.cells #[vr, vn, .int .i64 b.of, vm, vh, vz] 32) = w0 at hb1 hbox1 hl1 HB hb2 href
 have HBOX := zF (hbox1.ext hb2)
 have HB := zF (HB.out.ext hb2)
 have HWA := zF (zA hb1 hb2)
 rw [hl1] at href
 clear hb1 hbox1 hb2 hl1
 have k0 := HBOX.out.c0
 have k1 := HBOX.out.c1
 have k2 := HBOX.out.c2
 have k3 := HBOX.out.c3
 have k4 := HBOX.out.c4
 have k5 := HBOX.out.c5
 have r0 := href.cell 0 _ rfl
 have r1 := href.cell 1 _ rfl
 clear href
 unfold zJ at k0 k1 k2 k3 k4 k5
 subst hw0
 go_wp2_with fail
 clear k0 k1 k2 k3 k4 k5 r0 r1
 generalize (w.alloc _).alloc _ = w1 at *
 refine (zOW _ vr vn vm vh vz b m d l HB.out).mono ?_
 rintro e w3 ⟨rfl, hb3⟩
 have HWA := zF (zA HWA.out hb3)
 clear hb3 HB HBOX
 have hK : Hid (zFJ (zAY b m d l) (zAL b m d l) = if zAL b m d l ≠ 0 then 0 else if 0 < (zAY b m d l).lo then 2 else if (zAY b m d l).hi = 0 then 0 else 1) := rfl
 obtain ⟨s, hs⟩ : ∃ s, s = zAY b m d l := ⟨_, rfl⟩
 obtain ⟨c, hc⟩ : ∃ c, c = zAL b m d l := ⟨_, rfl⟩
 rw [← hs, ← hc] at hK ⊢
 have HS := zF hs
 have HC := zF hc
 clear hs hc
 have hsz := HWA.out.size
 by_cases h0 : c = 0
 case neg =>
  have hk := zF (hK.out.trans (if_pos h0))
  go_wp2
  go_ret2
  exact ⟨by rw [← HS.out, ← HC.out, hk.out]; rfl, (zA HWA.out (zB _ _))⟩
 case pos =>
  subst h0
  by_cases h1 : 0 < s.lo
  case pos =>
   have hk : Hid (zFJ s 0 = 2) := by unfold Hid zFJ; rw [if_neg (by decide), if_pos h1]
   go_wp2
   go_ret2
   exact ⟨by rw [← HS.out, ← HC.out, hk.out]; rfl, (zA HWA.out (zB _ _))⟩
  case neg =>
   by_cases h2 : s.hi = 0
   case pos =>
    have hk : Hid (zFJ s 0 = 0) := by unfold Hid zFJ; rw [if_neg (by decide), if_neg h1, if_pos h2]
    go_wp2
    go_ret2
    exact ⟨by rw [← HS.out, ← HC.out, hk.out]; rfl, (zA HWA.out (zB _ _))⟩
   case neg =>
    have hk : Hid (zFJ s 0 = 1) := by unfold Hid zFJ; rw [if_neg (by decide), if_neg h1, if_neg h2]
    go_wp2
    go_ret2
    exact ⟨by rw [← HS.out, ← HC.out, hk.out]; rfl, (zA HWA.out (zB _ _))⟩
end
section
open Go.RowKit Go.Shelf
theorem infoHold : (prog.info? 110).map (fun i => (i.zero, i.size, i.bytes)) = some (some (.agg #[.int .i64 0, .int .i64 0, .int .i64 0, .int .i64 0]), 4, 32) := by kernel_rfl
def encHold (x : Hold) : List Value := [.int .i64 x.d, .int .i64 x.l, .int .i64 x.lo, .int .i64 x.hi]
theorem cellsN_new (w : World) (vs : List Value) (t : TypeId) (cs : Array Value) (h : cs = vs.toArray) : ∀ j u, vs[j]? = some u → (w.alloc (.cells cs t)).cell? ((⟨w.heap.size, 0, none⟩ : Addr).add j) = some u := by
 subst h
 intro j u hj
 rw [zBP]
 exact zU w vs.toArray t j u (by simpa using hj)
theorem sl_none {α : Type} (E : World → Nat → Nat → α → Prop) (sz : Nat) (w : World) : Sl E sz w (.slice none 0 0) [] := ⟨none, 0, rfl, by simp, fun k hk => by simp at hk⟩
open Classical in
noncomputable def zBX (b : Built) (m : Int) (x : Issue) : List Hold :=
 if zHO b.ns.reg x.d x.l ∧ 0 < (zAT b (zBH b) m x.d x.l).hi then [⟨x.d, x.l, (zAT b (zBH b) m x.d x.l).lo, (zAT b (zBH b) m x.d x.l).hi⟩] else []
noncomputable def zEG (b : Built) (m : Int) (k : Nat) : List Hold := (b.ns.reg.take k).flatMap (zBX b m)
noncomputable def zKV (b : Built) (m : Int) : List Hold := if zBA b m = 0 then b.ns.reg.flatMap (zBX b m) else []
theorem zJD (b : Built) (m : Int) {k : Nat} (hk : k < b.ns.reg.length) : zEG b m (k + 1) = zEG b m k ++ zBX b m b.ns.reg[k] := by
 unfold zEG
 rw [List.take_succ_eq_append_getElem hk, List.flatMap_append, List.flatMap_singleton]
theorem holdOf_le (b : Built) (m : Int) (x : Issue) : (zBX b m x).length ≤ 1 := by unfold zBX; split <;> simp
theorem zNF (b : Built) (m : Int) : ∀ k, k ≤ b.ns.reg.length → (zEG b m k).length ≤ k
 | 0, _ => by simp [zEG]
 | k + 1, h => by
   have h1 := zNF b m k (by omega)
   have h2 := holdOf_le b m (b.ns.reg[k]'(by omega))
   rw [zJD b m (show k < b.ns.reg.length by omega), List.length_append]
   omega
theorem refOf02 (w : World) (d l : Int) (k vi vd : Value) :
  Calls prog 50 #[.agg #[.int .i64 d, .int .i64 l, k, vi, vd]] w fun e w' => e = .returned (.agg #[.int .i64 d, .int .i64 l]) ∧ Below w.heap.size w w' := by
 obtain ⟨hb1, B1⟩ := zAZ w #[.int .i64 d, .int .i64 l, k, vi, vd] 107
 have c0 := B1 0 _ rfl
 have c1 := B1 1 _ rfl
 clear B1
 unfold zJ at c0 c1
 go_enter func50, ntmps50
 go_wp2
 clear c0 c1
 have hsz : (w.alloc (.cells #[.int .i64 d, .int .i64 l, k, vi, vd] 107)).heap.size = w.heap.size + 1 := World.size_alloc _ _
 generalize w.alloc _ = w1 at *
 have hL := Lay.new w1 34 #[.int .i64 d, .int .i64 l]
 rw [hsz] at hL
 have z0 := hL.cell 0 _ rfl
 have z1 := hL.cell 1 _ rfl
 have zl := hL.lt
 refine bodyPost_ret (v := .agg #[.int .i64 d, .int .i64 l]) (by simp [results, results50, go_sem, z0, z1, zl]) rfl ?_
 exact ⟨rfl, zA hb1 (zB _ _)⟩
theorem zNZ {b : Built} (h : zM b = 0) {m : Int} (hm : m ∈ b.ms) (A : List (List Int)) (d l : Int) : I64 (zAT b A m d l).lo ∧ I64 (zAT b A m d l).hi := by
 unfold zAT
 have key : ∀ y ∈ A.flatMap (fun S => zPA b S m d l), I64 y := by
  intro y hy
  obtain ⟨S, _, hy⟩ := List.mem_flatMap.1 hy
  rw [ends_is hm] at hy
  have h1 := heldN_bd h (S := S) hm d l (zHJ b S m d).lo
  have h2 := heldN_bd h (S := S) hm d l (zHJ b S m d).hi
  simp only [List.mem_cons, List.not_mem_nil, or_false] at hy
  unfold I64
  rcases hy with rfl | rfl <;> omega
 generalize A.flatMap (fun S => zPA b S m d l) = xs at *
 by_cases he : xs = []
 ·subst he
  exact ⟨by unfold I64; decide, by unfold I64; decide⟩
 ·obtain ⟨h1, h2, _⟩ := zJS he
  exact ⟨key _ h1, key _ h2⟩
theorem zLV (b : Built) (m : Int) : zEG b m b.ns.reg.length = b.ns.reg.flatMap (zBX b m) := by unfold zEG; rw [List.take_length]
theorem holds_bd {b : Built} (h : zM b = 0) {m : Int} (hm : m ∈ b.ms) (hR : ∀ x ∈ b.ns.reg, I64 x.d ∧ I64 x.l) : ∀ y ∈ b.ns.reg.flatMap (zBX b m), I64 y.d ∧ I64 y.l ∧ I64 y.lo ∧ I64 y.hi := by
 intro y hy
 obtain ⟨x, hx, hy⟩ := List.mem_flatMap.1 hy
 unfold zBX at hy
 split at hy
 ·simp only [List.mem_cons, List.not_mem_nil, or_false] at hy
  subst hy
  exact ⟨(hR x hx).1, (hR x hx).2, zNZ h hm _ _ _⟩
 ·simp at hy
theorem parts08 (w : World) (vr vn vm vh vz : Value) (b : Built) (m : Int) (hB : BuiltAt w vr vn vm vh vz b) :
  Calls prog 13 #[.agg #[vr, vn, .int .i64 b.of, vm, vh, vz], .int .i64 m] w fun e w' => ∃ u, e = .returned (.tuple #[u, .int .i64 (zBA b m)]) ∧ Sl zOP 4 w' u (zKV b m) ∧ Below w.heap.size w w' := by
 obtain ⟨l0, hlf, lz0, lz1, lz2⟩ := info_parts infoHold
 obtain ⟨ar, capr, rfl, _⟩ := zD hB.reg
 have hb1 := zB w (.cells #[.slice ar b.ns.reg.length capr, vn, .int .i64 b.of, vm, vh, vz] 32)
 have HBOX := zF (zHC w (.slice ar b.ns.reg.length capr) vn vm vh vz b.of 32)
 have HB := zF (hB.ext hb1)
 have HWA := zF hb1
 clear hB hb1
 have k0 := HBOX.out.c0
 have k1 := HBOX.out.c1
 have k2 := HBOX.out.c2
 have k3 := HBOX.out.c3
 have k4 := HBOX.out.c4
 have k5 := HBOX.out.c5
 unfold zJ at k0 k1 k2 k3 k4 k5
 go_enter func13, ntmps13
 go_wp2_with fail
 clear k0 k1 k2 k3 k4 k5
 generalize w.alloc _ = wa at *
 refine (asked08 _ _ vn vm vh vz b m HB.out).mono ?_
 rintro e w3 ⟨u, rfl, hu, hb3⟩
 have HU := zF hu
 have HB := zF (HB.out.ext hb3)
 have HBOX := zF (HBOX.out.ext hb3)
 have HWA := zF (zA HWA.out hb3)
 clear hb3 hu
 by_cases h0 : zBA b m = 0
 case neg =>
  have hP : Hid (zKV b m = []) := by unfold Hid zKV; rw [if_neg h0]
  go_wp2
  go_ret2
  exact ⟨_, rfl, by rw [hP.out]; exact sl_none _ _ _, HWA.out⟩
 case pos =>
  obtain ⟨hv, hm⟩ := ask_ok (.inl h0)
  obtain ⟨hIL, hA32, hsl⟩ := HU.out hv hm
  have hsl := hsl h0
  have HP : Hid (zKV b m = b.ns.reg.flatMap (zBX b m)) := by unfold Hid zKV; rw [if_pos h0]
  have HA0 := zF h0
  rw [h0]
  have HV := zF hv
  have HM := zF hm
  have hTT : Hid (∀ S ∈ zBH b, IsT (zCA b.ns.notes) S ∧ zII b S) := fun S hS => (hIL.2 S).1 hS
  have hR60 : b.ns.reg.length ≤ 60 := by have := (zAR (zAS (zW hv).1).1).1.2; omega
  clear hv hm h0 hIL HU
  have HSL := zF hsl
  clear hsl
  have k0 := HBOX.out.c0
  have k1 := HBOX.out.c1
  have k2 := HBOX.out.c2
  have k3 := HBOX.out.c3
  have k4 := HBOX.out.c4
  have k5 := HBOX.out.c5
  unfold zJ at k0 k1 k2 k3 k4 k5
  go_wp2_with fail
  clear k0 k1 k2 k3 k4 k5
  refine (views08 _ _ vn vm vh vz u b (zBH b) HB.out HV.out HSL.out (fun S h => (hTT.out S h).1) hA32).mono ?_
  rintro e w4 ⟨vv, rfl, hV, hb4⟩
  have HVV := zF hV
  have HSL := zF (zI zCC hb4 HSL.out)
  have HB := zF (HB.out.ext hb4)
  have HBOX := zF (HBOX.out.ext hb4)
  have HWA := zF (zA HWA.out hb4)
  clear hb4 hV
  go_wp2
  go_loopw [8, 10] (fun o i wr => ∃ k : Nat, i = .int .i64 k ∧ k ≤ b.ns.reg.length ∧ Hid (wr.ownsRow w4.heap.size 110 4 o (zEG b m k).length ((zEG b m k).flatMap encHold)) ∧ Hid (Below w4.heap.size w4 wr)) (fun _ i _ => b.ns.reg.length - (intOf i).toNat)
  case atStart => exact ⟨0, rfl, by omega, zF (World.ownsRow_nil _ _ _ _), zF (br_)⟩
  case round =>
   obtain ⟨k, rfl, hk, HO, HBL⟩ := hrel
   have HBX := zF (HBOX.out.ext HBL.out)
   have HBB := zF (HB.out.ext HBL.out)
   have c0 := HBX.out.c0
   unfold zJ at c0
   by_cases hlt : k < b.ns.reg.length
   case neg =>
    obtain rfl : k = b.ns.reg.length := by omega
    have ho := HO.out
    rw [zLV] at ho
    have hR : ∀ x ∈ b.ns.reg, I64 x.d ∧ I64 x.l := fun x hx => by
     obtain ⟨j, hj, rfl⟩ := List.getElem_of_mem hx
     obtain ⟨_, _, _, _, ⟨h1, h2, _⟩, _⟩ := (zZ HBB.out.reg).2 j hj
     exact ⟨h1, h2⟩
    have hon : OnT [110] (fun w => Sl zOP 4 w u8 (b.ns.reg.flatMap (zBX b m))) wr := (zGO (F := IsHold) (enc := encHold) (sz := 4) (w := wr) _ (fun x hx => ⟨rfl, fun _ => ⟨rfl, holds_bd HV.out HM.out hR x hx⟩⟩)).sl ho isHold_at
    have HON := zF hon.now
    clear ho hR hon
    go_wp2
    go_ret2
    exact ⟨_, by rw [HA0.out]; rfl, by rw [HP.out]; exact HON.out, zA HWA.out HBL.out⟩
   case pos =>
    have hkl : (k : Int) < b.ns.reg.length := by omega
    obtain ⟨br, orr, rfl, ⟨i0, i1, i2⟩, ⟨y0, y1, _⟩, vi, vd, i3, i4, _⟩ := (zZ HBB.out.reg).2 k hlt
    have hsucc := zF (zJD b m hlt)
    have hle := zNF b m k hk
    generalize b.ns.reg[k] = x at *
    unfold zJ at i0 i1 i2 i3 i4
    go_wp2_with fail
    clear i0 i1 i2 i3 i4 c0
    refine (refOf02 wr x.d x.l _ vi vd).mono ?_
    rintro e w5 ⟨rfl, hb5⟩
    have hba := zB w5 (.cells #[.int .i64 x.d, .int .i64 x.l] 34)
    have HL := zF (Lay.new w5 34 #[.int .i64 x.d, .int .i64 x.l])
    have HB5 := zF (zA HBL.out (zA hb5 hba))
    have c0 := zC HB5.out HBOX.out.c0
    unfold zJ at c0
    have HBR := zF (zA hb5 hba)
    clear hba hb5
    have r0 := HL.out.cell 0 _ rfl
    have r1 := HL.out.cell 1 _ rfl
    go_wp2_with fail
    clear c0 r0 r1
    generalize w5.heap.size = gr at *
    generalize w5.alloc _ = w6 at *
    by_cases hp : zHO b.ns.reg x.d x.l
    case neg =>
     have hno : Hid (zBX b m x = []) := by unfold Hid zBX; rw [if_neg (fun h => hp h.1)]
     refine (zAK.no hp (zJW w6 _ _ x.d x.l (HB.out.ext HB5.out).reg)).mono ?_
     rintro e w7 ⟨rfl, hb7⟩
     have HB7 := zF (zA HB5.out hb7)
     have HO7 := zF (zAA (zA HBR.out hb7) HO.out)
     clear hb7
     go_wp2
     go_roundw
     case rel =>
      refine ⟨k + 1, by go_num, by omega, zF ?_, HB7⟩
      rw [hsucc.out, hno.out, List.append_nil]
      exact HO7.out
     case measure => simp [intOf]; omega
    case pos =>
     refine (zAK.yes hp (zJW w6 _ _ x.d x.l (HB.out.ext HB5.out).reg)).mono ?_
     rintro e w7 ⟨rfl, hb7⟩
     have HB7 := zF (zA HB5.out hb7)
     have HL7 := zF (HL.out.ext hb7)
     have HBR7 := zF (zA HBR.out hb7)
     clear hb7
     have k0 := zC HB7.out HBOX.out.c0
     have k1 := zC HB7.out HBOX.out.c1
     have k2 := zC HB7.out HBOX.out.c2
     have k3 := zC HB7.out HBOX.out.c3
     have k4 := zC HB7.out HBOX.out.c4
     have k5 := zC HB7.out HBOX.out.c5
     unfold zJ at k0 k1 k2 k3 k4 k5
     have r0 := HL7.out.cell 0 _ rfl
     have r1 := HL7.out.cell 1 _ rfl
     go_wp2_with fail
     clear k0 k1 k2 k3 k4 k5
     refine (pieces08 w7 _ vn vm vh vz u vv b (zBH b) m x.d x.l (HB.out.ext HB7.out) HV.out (zI zCC HB7.out HSL.out) (zI (zKH b) HB7.out HVV.out) hTT.out hA32 HM.out (zEP (zAR (zAS (zW HV.out).1).1) hp)).mono ?_
     rintro e w8 ⟨rfl, hb8⟩
     have hyes : Hid (0 < (zAT b (zBH b) m x.d x.l).hi → zBX b m x = [⟨x.d, x.l, (zAT b (zBH b) m x.d x.l).lo, (zAT b (zBH b) m x.d x.l).hi⟩]) := fun h => by unfold zBX; rw [if_pos ⟨hp, h⟩]
     have hno : Hid (¬ 0 < (zAT b (zBH b) m x.d x.l).hi → zBX b m x = []) := fun h => by unfold zBX; rw [if_neg (fun hh => h hh.2)]
     generalize zAT b (zBH b) m x.d x.l = s at *
     have hba := zB w8 (.cells #[.int .i64 s.lo, .int .i64 s.hi] 38)
     have hLs := Lay.new w8 38 #[.int .i64 s.lo, .int .i64 s.hi]
     have HL9 := zF ((HL7.out.ext hb8).ext hba)
     have HB9 := zF (zA HB7.out (zA hb8 hba))
     have HO9 := zF (zAA (zA HBR7.out (zA hb8 hba)) HO.out)
     have hg9 : Hid ((w8.alloc (.cells #[.int .i64 s.lo, .int .i64 s.hi] 38)).heap.size = w8.heap.size + 1) := World.size_alloc _ _
     clear r0 r1 hb8 hba
     have r0 := HL9.out.cell 0 _ rfl
     have r1 := HL9.out.cell 1 _ rfl
     have s0 := hLs.cell 0 _ rfl
     have s1 := hLs.cell 1 _ rfl
     clear hLs
     have hsz := HB9.out.size
     by_cases hh : 0 < s.hi
     case neg =>
      have hn := zF (hno.out hh)
      clear hyes hno
      go_wp2
      go_roundw
      case rel =>
       refine ⟨k + 1, by go_num, by omega, zF ?_, HB9⟩
       rw [hsucc.out, hn.out, List.append_nil]
       exact HO9.out
      case measure => simp [intOf]; omega
     case pos =>
      have hy := zF (hyes.out hh)
      clear hyes hno
      go_wp2_with (at_builtin; generalize w8.heap.size = gs at *; generalize w8.alloc _ = w9 at *; refine wpList_append_own _ rfl _ _ 48 rfl w4.heap.size 110 l0 _ 4 32 underlying48 hlf lz0 lz1 lz2 rfl (by decide) _ _ _ rfl (HO9.out.alloc _) ⟨gs + 1, 0, none⟩ 1 1 [.int .i64 x.d, .int .i64 x.l, .int .i64 s.lo, .int .i64 s.hi] rfl rfl (by rw [← hg9.out]; exact cellsN_new _ _ _ _ rfl) (by simp [Value.oneCell']) (by unfold maxLen; omega) (by omega) (by simp; omega) ?_; intro v' wA hown' hgrow _)
      have hbA := (zA HB9.out (zB w9 (.cells #[.int .i64 x.d, .int .i64 x.l, .int .i64 s.lo, .int .i64 s.hi] 110))).grown hgrow (by simp; omega) (fun r e => (HO9.out.lt r e).1)
      have HOA := zF hown'
      have HBA := zF hbA
      clear hown' hgrow hbA
      go_roundw
      case rel =>
       refine ⟨k + 1, by go_num, by omega, zF ?_, HBA⟩
       rw [hsucc.out, hy.out, List.length_append, List.flatMap_append, List.flatMap_singleton]
       exact HOA.out
      case measure => simp [intOf]; omega
end
section
open Go.RowKit
theorem or_errno (w : World) (x y : Int) (b : Nat) (h : zJ w b 0 (.int .i64 x) ∧ zJ w b 1 (.int .i64 y)) :
  Calls prog 38 #[.slice (some ⟨b, 0, none⟩) 2 2] w fun e w' => e = .returned (.int .i64 (orI x y)) ∧ w = w' := by
 obtain ⟨c0, c1⟩ := h
 unfold zJ at c0 c1
 go_enter func38, ntmps38
 go_wp2
 go_loop [8] (fun i => ∃ k : Nat, i = .int .i64 k ∧ k ≤ 2 ∧ (0 < k → x = 0) ∧ (1 < k → y = 0)) (fun i => 2 - (intOf i).toNat)
 case atStart => exact ⟨0, rfl, by omega, fun h => absurd h (by omega), fun h => absurd h (by omega)⟩
 case round =>
  obtain ⟨k, rfl, hk, hx, hy⟩ := hrel
  have hkc : k = 0 ∨ k = 1 ∨ k = 2 := by omega
  rcases hkc with rfl | rfl | rfl
  ·by_cases g : x = 0
   ·have g' : (x != 0) = false := by simp [g]
    have G := zF g
    clear g hx hy
    go_wp2
    go_round
    ·exact ⟨1, by go_num, by omega, fun _ => G.out, fun h => absurd h (by omega)⟩
    ·simp [intOf]
   ·have g' : (x != 0) = true := by simp [g]
    have G := zF g
    clear g hx hy
    go_wp2
    go_ret
    exact ⟨by unfold orI; rw [if_neg G.out]; rfl, rfl⟩
  ·have HX := zF (hx (by omega))
   clear hx hy
   by_cases g : y = 0
   ·have g' : (y != 0) = false := by simp [g]
    have G := zF g
    clear g
    go_wp2
    go_round
    ·exact ⟨2, by go_num, by omega, fun _ => HX.out, fun _ => G.out⟩
    ·simp [intOf]
   ·have g' : (y != 0) = true := by simp [g]
    have G := zF g
    clear g
    go_wp2
    go_ret
    exact ⟨by unfold orI; rw [if_pos HX.out]; rfl, rfl⟩
  ·have HX := zF (hx (by omega))
   have HY := zF (hy (by omega))
   clear hx hy
   go_wp2
   go_ret
   exact ⟨by unfold orI; rw [if_pos HX.out, HY.out]; rfl, rfl⟩
attribute [local go_sem] zAN Oper.grows Oper.growUpon
theorem enter_right : Enters prog 37 := enters_of func37 (by kernel_rfl) rfl
noncomputable def rightC (R : List Issue) (i d l : Int) : Int := orI (if 0 ≤ i then 0 else 2) (if partB R d l then 0 else 6)
theorem right1_built (w : World) (ga gb gr : Nat) (vr : Value) (R : List Issue) (i d l : Int) (ha : zJ w ga 0 (.int .i64 i)) (hb : zJ w gb 0 vr) (hr : zJ w gr 0 (.int .i64 d) ∧ zJ w gr 1 (.int .i64 l)) (h : RegArg w vr R) (hz : zAC R = 0) (hk : ∀ x ∈ R, In x.k 1 3) :
  Calls prog 37 #[.pointer (some ⟨ga, 0, none⟩), .pointer (some ⟨gb, 0, none⟩), .pointer (some ⟨gr, 0, none⟩)] w fun e w' => e = .returned (.int .i64 (rightC R i d l)) ∧ Below w.heap.size w w' := by
 have c0 := zG ha
 have c1 := zG hb
 have c2 := zG hr.1
 have c3 := zG hr.2
 have HRR := zF (And.intro h (And.intro hz hk))
 clear ha hb hr h hz hk
 go_enter func37, ntmps37
 go_wp2
 refine zK 11 (by kernel_rfl) (by kernel_rfl) ?_
 simp only [tk_]
 iterate 2 (apply gx_; focus (intro vs xq hd; (try simp [hq_] at hd); simp only [pf_]; go_simp; exact ⟨br_, rfl⟩))
 refine zAE ?_
 apply Exists.intro
 refine ⟨fun vs xq hd => ?_, ?_⟩
 ·(try simp [hq_] at hd)
  simp only [pf_]
  go_simp
  refine (zPX _ _ _).mono ?_
  rintro e w9 ⟨rfl, rfl⟩
  exact ⟨rfl, br_⟩
 iterate 4 (apply gx_; focus (intro vs xq hd; (try simp [hq_] at hd); simp only [pf_]; go_simp; exact ⟨br_, rfl⟩))
 refine zAE ?_
 apply Exists.intro
 refine ⟨fun vs xq hd => ?_, ?_⟩
 ·(try simp [hq_] at hd)
  simp only [pf_]
  go_simp
  refine (zEW (w.later xq) vr R d l (HRR.out.1.ext (zE w xq)) HRR.out.2.1 HRR.out.2.2).mono ?_
  rintro e w9 ⟨rfl, hb9⟩
  exact ⟨rfl, hb9⟩
 refine zAE ?_
 apply Exists.intro
 refine ⟨fun vs xq hd => ?_, ?_⟩
 ·(try simp [hq_] at hd)
  simp only [pf_]
  go_simp
  refine (zPX _ _ _).mono ?_
  rintro e w9 ⟨rfl, rfl⟩
  exact ⟨rfl, br_⟩
 refine zL (RowTwo (if 0 ≤ i then 0 else 2) (if partB R d l then 0 else 6)) (zHG _ _) ?_ ?_
 ·intro vs xq hd
  (try simp [hq_] at hd)
  simp only [pf_]
  go_simp
  exact ⟨zB _ _, _, rfl, zU _ _ _ 0 _ rfl, zU _ _ _ 1 _ rfl⟩
 refine zL (fun v _ => v = .int .i64 (rightC R i d l)) (fun _ _ _ _ h => h) ?_ ?_
 ·intro vs xq hd
  (try simp [hq_] at hd)
  simp only [pf_]
  obtain ⟨⟨bb, e, hc⟩, eg⟩ := hd
  simp only [e, eg]
  go_simp
  refine (or_errno _ _ _ bb hc).mono ?_
  rintro e w' ⟨rfl, rfl⟩
  exact ⟨rfl, br_⟩
 refine zT rfl (fun vs xq hd => ?_)
 simp [zV, zAD, List.range, List.range.loop] at hd
 simp only [pf_]
 obtain ⟨_, _, _, _, _, _, _, _, _, _, e10⟩ := hd
 simp only [Nat.zero_add, Nat.reduceAdd] at e10 ⊢
 simp only [e10]
 clear c0 c1 c2 c3
 go_wp2
 go_ret
 exact ⟨rfl, zE w xq⟩
theorem enter_rightP : Enters prog 48 := enters_of func48 (by kernel_rfl) rfl
theorem rightP_built (w : World) (ga : Nat) (i : Int) (ha : zJ w ga 0 (.int .i64 i)) :
  Calls prog 48 #[.pointer (some ⟨ga, 0, none⟩)] w fun e w' => e = .returned (.int .i64 (if 0 ≤ i then 0 else 2)) ∧ w = w' := by
 unfold zJ at ha
 go_enter func48, ntmps48
 by_cases hi : 0 ≤ i
 ·rw [if_pos hi]
  go_wp2_with fail
  refine (zPX _ true _).mono ?_
  rintro e w2 ⟨rfl, rfl⟩
  go_wp2
  go_ret
  exact ⟨rfl, rfl⟩
 ·rw [if_neg hi]
  go_wp2_with fail
  refine (zPX _ false _).mono ?_
  rintro e w2 ⟨rfl, rfl⟩
  go_wp2
  go_ret
  exact ⟨rfl, rfl⟩
end
section
open Go.RowKit Go.Shelf
attribute [local go_sem] zAN Oper.grows Oper.growUpon
theorem ints_one (w : World) (x : Int) (h : I64 x) : Sl zAJ 1 (w.alloc (.cells #[.int .i64 x] 3)) (.slice (some ⟨w.heap.size, 0, none⟩) 1 1) [x] :=
 zBG (xs := [x]) (base := w.heap.size) (World.ownsRow_lit w #[.int .i64 x] 1 (Nat.le_refl _) (by decide) rfl) (fun y hy => by simp at hy; subst hy; exact h)
theorem zPQ (w : World) (x y : Int) (h : I64 x) (h2 : I64 y) : Sl zAJ 1 (w.alloc (.cells #[.int .i64 x, .int .i64 y] 3)) (.slice (some ⟨w.heap.size, 0, none⟩) 2 2) [x, y] :=
 zBG (xs := [x, y]) (base := w.heap.size) (World.ownsRow_lit w #[.int .i64 x, .int .i64 y] 2 (Nat.le_refl _) (by decide) rfl) (fun z hz => by simp at hz; rcases hz with rfl | rfl <;> first | exact h | exact h2)
theorem foundPieces (w : World) (p : Nat) (vr vn vm vh vs vz vc : Value) (b : Built) (S : List Int) (L : List Span) (i : Nat) (m d l : Int) (hF : FoundAt w p vr vn vm vh vs vz vc b S L) (hv : zM b = 0) (hL : siteL b S = some L) (hm : b.ms[i]? = some m) (hix : b.ms.idxOf m = i) (hd : d ∈ nums b.ns.reg) (hd64 : I64 d) :
  Calls prog 43 #[.agg #[.pointer (some ⟨p, 0, none⟩), vc], .int .i64 i, .agg #[.int .i64 d, .int .i64 l]] w fun e w' => ∃ u xs, e = .returned u ∧ Sl zAJ 1 w' u xs ∧ (∀ y, y ∈ xs ↔ y ∈ zPA b S m d l) ∧ (0 < xs.length ∧ xs.length ≤ 2) ∧ Below w.heap.size w w' := by
 obtain ⟨ac, cc, rfl, _⟩ := zD hF.cnt
 have hb1 := zB w (.cells #[.pointer (some ⟨p, 0, none⟩), .slice ac L.length cc] 95)
 have hb2 := zB (w.alloc (.cells #[.pointer (some ⟨p, 0, none⟩), .slice ac L.length cc] 95)) (.cells #[.int .i64 d, .int .i64 l] 34)
 have hl1 : (w.alloc (.cells #[.pointer (some ⟨p, 0, none⟩), .slice ac L.length cc] 95)).heap.size = w.heap.size + 1 := World.size_alloc _ _
 have hfb := (Lay.new w 95 #[.pointer (some ⟨p, 0, none⟩), .slice ac L.length cc]).alloc (.cells #[.int .i64 d, .int .i64 l] 34)
 have hrb := Lay.new (w.alloc (.cells #[.pointer (some ⟨p, 0, none⟩), .slice ac L.length cc] 95)) 34 #[.int .i64 d, .int .i64 l]
 rw [hl1] at hrb
 have HWA := zF (zA hb1 hb2)
 have HF := zF (hF.ext HWA.out)
 have HFB := zF hfb
 have HRB := zF hrb
 have hi : i < b.ms.length := (List.getElem?_eq_some_iff.1 hm).1
 clear hF hb1 hb2 hl1 hfb hrb
 go_enter func43, ntmps43
 go_wp2
 generalize (w.alloc _).alloc _ = w1 at *
 obtain ⟨vhas, hLs, a, cap, rfl, hrow⟩ := HF.out.site.box
 obtain ⟨g, off, mb, n0, rfl, hcm, hM⟩ := hrow i hi
 have hvis : visF b S i d = some (hasC (zAB b S m d).c (zAB b S m d).l (zAB b S m d).h (bfAt b S i (zAB b S m d).h)) := by unfold visF; rw [if_pos hd, hm]; rfl
 have hlook : ∀ xq, (Instr.lookup 164 (.map (some mb)) (.int .i64 d) false).run prog (w1.later xq) = .ok (hasC (zAB b S m d).c (zAB b S m d).l (zAB b S m d).h (bfAt b S i (zAB b S m d).h)) (w1.later xq) := fun xq => by
  have h := zGE underlying164 (Tryz.zeroValue163 (w1.later xq)) (hM.ext (zE w1 xq)) hd64
  rw [hvis] at h
  exact h
 have f0 := zG (show zJ w1 w.heap.size 0 _ from HFB.out.cell 0 _ rfl)
 have s7 := zG (show zJ w1 p 7 _ from hLs.cell 7 _ rfl)
 have r0 := zG (show zJ w1 (w.heap.size + 1) 0 _ from HRB.out.cell 0 _ rfl)
 have cm := zG hcm
 have hil : (i : Int) < b.ms.length := by omega
 unfold hasC at hlook
 refine zK 12 (by kernel_rfl) (by kernel_rfl) ?_
 simp only [tk_]
 iterate 11 (apply gx_; focus (intro vs xq hd; (try simp [hq_] at hd); simp only [pf_]; go_simp; exact ⟨br_, rfl⟩))
 refine zL (NewBx w1.heap.size #[.int .i64 0, .int .i64 0, .int .i64 0, .int .i64 0] 163) (zDC _ _ _) ?_ ?_
 ·intro vs xq hd
  (try simp [hq_] at hd)
  simp only [pf_]
  go_simp
  exact ⟨zB _ _, _, rfl, (zE w1 xq).size, Lay.new _ _ _⟩
 refine zT (by simp only [List.length_append, List.length_cons, List.length_nil]) (fun vs xq hd => ?_)
 simp [zV, zAD, List.range, List.range.loop] at hd
 simp only [pf_]
 obtain ⟨e0, e1, e2, e3, e4, e5, e6, e7, e8, e9, e10, gb, e11, hgb, hLb⟩ := hd
 simp only [Nat.zero_add, Nat.reduceAdd] at e0 e1 e2 e3 e4 e5 e6 e7 e8 e9 e10 e11 ⊢
 simp only [e0, e1, e2, e3, e4, e5, e6, e7, e8, e9, e10, e11]
 have hb8 := zE w1 xq
 clear e0 e1 e2 e3 e4 e5 e6 e7 e8 e9 e10 e11 f0 s7 r0 cm hlook
 generalize w1.later xq = w8 at *
 have q0 := hLb.cell 0 _ rfl
 have q1 := hLb.cell 1 _ rfl
 have q2 := hLb.cell 2 _ rfl
 have q3 := hLb.cell 3 _ rfl
 have f0 := hLb.frozen 0
 have f1 := hLb.frozen 1
 have f2 := hLb.frozen 2
 have f3 := hLb.frozen 3
 have hl := hLb.lt
 have HB9 := zF (zH (j := 3) (u := .int .i64 (bfAt b S i (zAB b S m d).h)) hgb (zH (j := 2) (u := .int .i64 (zAB b S m d).h) hgb (zH (j := 1) (u := .int .i64 (zAB b S m d).l) hgb (zH (j := 0) (u := .int .i64 (zAB b S m d).c) hgb hb8))))
 have HL9 := zF (zBC (zBC (zBC (zBC hLb 0 (.int .i64 (zAB b S m d).c)) 1 (.int .i64 (zAB b S m d).l)) 2 (.int .i64 (zAB b S m d).h)) 3 (.int .i64 (bfAt b S i (zAB b S m d).h)))
 clear hLb hb8
 go_step
 go_simp
 generalize (((w8.setCell _ _).setCell _ _).setCell _ _).setCell _ _ = w9 at *
 clear q0 q1 q2 q3 f0 f1 f2 f3 hl
 have HRB9 := zF (HRB.out.ext HB9.out)
 have HF9 := zF (HF.out.ext HB9.out)
 have HFB9 := zF (HFB.out.ext HB9.out)
 have hc := zGZ hv S m d
 have hlt := zFG (zW hv).1 S m hd
 have hle : (zAB b S m d).l = zQ S m b.ns.notes d := rfl
 rw [← hle] at hlt
 have hhb := zFP b S m d
 have HE : Hid (zPA b S m d l = [zDL (zAB b S m d) l (if (zAB b S m d).h < 0 then 0 else zPD (zES b S (zAB b S m d).h.toNat i) (zAB b S m d).c (zHJ b S m d).lo), zDL (zAB b S m d) l (if (zAB b S m d).h < 0 then 0 else zPD (zES b S (zAB b S m d).h.toNat i) (zAB b S m d).c (zHJ b S m d).hi)]) := by
  unfold Hid
  rw [← hix]
  rfl
 have HSP : Hid (zHJ b S m d = if (zAB b S m d).h < 0 then ⟨0, 0⟩ else (zGB b S (zAB b S m d).h.toNat).getD ⟨0, 0⟩) := rfl
 have HBF : Hid (bfAt b S i (zAB b S m d).h = if 0 ≤ (zAB b S m d).h then zES b S (zAB b S m d).h.toNat i else 0) := rfl
 have hlf := left_some hv hL
 have HLF := zF hlf
 clear hle hlf
 generalize zAB b S m d = h at *
 generalize bfAt b S i h.h = bf at *
 have q0 := HL9.out.cell 0 _ rfl
 have q1 := HL9.out.cell 1 _ rfl
 have q2 := HL9.out.cell 2 _ rfl
 have q3 := HL9.out.cell 3 _ rfl
 have r1 := HRB9.out.cell 1 _ rfl
 have hgl := HL9.out.lt
 have hrl := HRB9.out.lt
 have hwl : IntKind.i64.wrap (h.l - 1) = h.l - 1 := IntWalk.i64_in _ (by omega)
 have hwl2 : wrap64 (h.l - 1) = h.l - 1 := IntWalk.wrap64_in _ (by omega)
 by_cases h0 : h.h < 0
 ·have h0' : ¬ (0 ≤ h.h) := by omega
  by_cases hA : l = h.l
  ·have hends : Hid (zPA b S m d l = [h.c, h.c]) := by
    unfold Hid
    rw [HE.out]
    unfold zDL
    rw [if_pos hA, if_pos hA, if_pos h0, if_pos h0, Int.sub_zero]
   have hwc : wrap64 h.c = h.c := IntWalk.wrap64_in _ (by omega)
   have hwc2 : IntKind.i64.wrap h.c = h.c := IntWalk.i64_in _ (by omega)
   go_wp2
   have hb10 := zB w9 (.cells #[.int .i64 0, .int .i64 0] 3)
   have h20 := Lay.new w9 3 #[.int .i64 0, .int .i64 0]
   have hL10 := HL9.out.ext hb10
   have HB10 := zF (zA HWA.out (zA HB9.out hb10))
   clear hb10
   generalize w9.heap.size = g8 at *
   generalize hw10 : w9.alloc _ = w10 at *
   have p0 := zG (show zJ w10 gb 0 _ from hL10.cell 0 _ rfl)
   have t0 := zG (show zJ w10 g8 0 _ from h20.cell 0 _ rfl)
   have t1 := zG (show zJ w10 g8 1 _ from h20.cell 1 _ rfl)
   refine zK 13 (by kernel_rfl) (by kernel_rfl) ?_
   simp only [tk_]
   iterate 12 (apply gx_; focus (intro vs xq hd; (try simp [hq_] at hd); simp only [pf_]; go_simp; exact ⟨br_, rfl⟩))
   refine zL (fun v w' => Sl zAJ 1 w' v [h.c, h.c]) (fun v w w' hb h => zI zN hb h) ?_ ?_
   ·intro vs xq hd
    (try simp [hq_] at hd)
    simp only [pf_]
    go_simp
    exact ⟨zB _ _, zPQ _ h.c h.c (by unfold I64; omega) (by unfold I64; omega)⟩
   refine zT (by simp only [List.length_append, List.length_cons, List.length_nil]) (fun vs xq hd => ?_)
   simp [zV, zAD, List.range, List.range.loop] at hd
   simp only [pf_]
   obtain ⟨_, _, _, _, _, _, _, _, _, _, _, _, e12⟩ := hd
   simp only [Nat.zero_add, Nat.reduceAdd] at e12 ⊢
   have HBZ := zF (zA HB10.out (zE w10 xq))
   have HE12 := zF e12
   clear e12 p0 t0 t1
   generalize vs 12 = v12 at *
   go_wp2
   go_ret
   exact ⟨_, [h.c, h.c], rfl, HE12.out, fun y => by rw [hends.out], by simp, HBZ.out⟩
  ·by_cases hB : l = h.l - 1
   ·have hends : Hid (zPA b S m d l = [0, 0]) := by
     unfold Hid
     rw [HE.out]
     unfold zDL
     rw [if_neg hA, if_neg hA, if_pos hB, if_pos hB, if_pos h0, if_pos h0]
    go_wp2
    go_ret
    have hI := zPQ w9 0 0 (by unfold I64; decide) (by unfold I64; decide)
    exact ⟨_, rfl, [0, 0], hI, fun y => by rw [← hB, hends.out], by simp, zA HWA.out (zA HB9.out (zB _ _))⟩
   ·have hends : Hid (zPA b S m d l = [0, 0]) := by
     unfold Hid
     rw [HE.out]
     unfold zDL
     rw [if_neg hA, if_neg hA, if_neg hB, if_neg hB]
    have hsz : Hid ((w9.alloc (.cells #[.int .i64 0, .int .i64 0] 3)).heap.size = w9.heap.size + 1) := World.size_alloc _ _
    go_wp2
    go_ret
    have hI := ints_one (w9.alloc (.cells #[.int .i64 0, .int .i64 0] 3)) 0 (by unfold I64; decide)
    rw [hsz.out] at hI
    exact ⟨_, rfl, [0], hI, fun y => by rw [hends.out]; simp, by simp, zA HWA.out (zA HB9.out (zA (zB _ _) (zB _ _)))⟩
 ·have h0' : 0 ≤ h.h := by omega
  obtain ⟨kk, hkk⟩ : ∃ kk : Nat, h.h = kk := ⟨h.h.toNat, by omega⟩
  obtain ⟨_, hll, hlk⟩ := HLF.out
  have hkL : kk < L.length := by omega
  obtain ⟨gc, oc, rfl, ⟨n0, n1⟩, _⟩ := (zZ HF9.out.cnt).2 kk hkL
  have hspan := hlk kk hkL
  have hvh := zDP hv (show kk < b.hs.length by omega)
  have hsp : Hid (zHJ b S m d = L[kk]) := by
   unfold Hid
   rw [HSP.out, if_neg h0, show h.h.toNat = kk by omega, hspan.1]
   rfl
  have hlb := hspan.2.2 (by omega)
  generalize L[kk] = c at *
  have hkl : (kk : Int) < L.length := by omega
  have hbfe : Hid (bf = zES b S kk i) := by
   unfold Hid
   rw [HBF.out, if_pos h0', show h.h.toNat = kk by omega]
  rw [hkk] at q2
  have HN := zF (And.intro n0 n1)
  have hfb := HFB9.out.cell 1 _ rfl
  unfold zJ at n0 n1
  have hkc : (kk : Int) < L.length := by omega
  have hfl := HFB9.out.lt
  have hcl := zAF (show zJ w9 gc _ _ from n0)
  have hcb : 0 ≤ c.lo ∧ c.lo ≤ 200 ∧ 0 ≤ c.hi ∧ c.hi ≤ 200 := by have := hspan.2.1; omega
  clear hll hlk hspan hkl
  have q1 : ∀ A B C : Obj, (((w9.alloc A).alloc B).alloc C).cell? ⟨gb, 1, none⟩ = some (.int .i64 h.l) := fun A B C => zC (zA (zA (zB w9 A) (zB _ B)) (zB _ C)) (show zJ w9 gb 1 (.int .i64 h.l) from HL9.out.cell 1 _ rfl)
  have hbfn : 0 ≤ bf ∧ bf ≤ 12 * 16777216000000 := by
   rw [hbfe.out]
   have h1 := bef_bd hv S kk i
   have h3 := (zW hv).2.2.1
   omega
  have hww : ∀ n : Int, 0 ≤ n → n ≤ 200 → wrap64 (n - bf) = n - bf := fun n h0 h1 => IntWalk.wrap64_in _ (by omega)
  have HO : ∀ n : Int, 0 ≤ n → n ≤ 200 → (if (if 0 < wrap64 (n - bf) then wrap64 (n - bf) else 0) < h.c then (if 0 < wrap64 (n - bf) then wrap64 (n - bf) else 0) else h.c) = zPD bf h.c n := fun n h0 h1 => by
   rw [hww n h0 h1]
   unfold zPD
   split <;> split <;> omega
  have HO1 := zF (HO c.lo (by omega) (by omega))
  have HO2 := zF (HO c.hi (by omega) (by omega))
  have hOb : ∀ n : Int, 0 ≤ zPD bf h.c n ∧ zPD bf h.c n ≤ h.c := fun n => by unfold zPD; omega
  have hOb1 := hOb c.lo
  have hOb2 := hOb c.hi
  clear HO hww hOb
  have HE2 : Hid (zPA b S m d l = [zDL h l (zPD bf h.c c.lo), zDL h l (zPD bf h.c c.hi)]) := by
   unfold Hid
   rw [HE.out, if_neg h0, if_neg h0, hsp.out, show h.h.toNat = kk by omega, hbfe.out]
  generalize zPD bf h.c c.lo = O1 at *
  generalize zPD bf h.c c.hi = O2 at *
  obtain ⟨T1, hT1⟩ : ∃ T, wrap64 (c.lo - bf) = T := ⟨_, rfl⟩
  obtain ⟨T2, hT2⟩ : ∃ T, wrap64 (c.hi - bf) = T := ⟨_, rfl⟩
  rw [hT1] at HO1
  rw [hT2] at HO2
  obtain ⟨M1, hM1⟩ : ∃ M, (if 0 < T1 then T1 else 0) = M := ⟨_, rfl⟩
  obtain ⟨M2, hM2⟩ : ∃ M, (if 0 < T2 then T2 else 0) = M := ⟨_, rfl⟩
  rw [hM1] at HO1
  rw [hM2] at HO2
  have hO1 := HO1.out
  have hO2 := HO2.out
  clear hcb hbfn hlb hvh
  have HBA := zF (zA (zA (zB w9 (.cells #[.int .i64 0, .int .i64 0] 3)) (zB _ (.cells #[.int .i64 c.lo, .int .i64 c.hi] 38))) (zB _ (.cells #[.int .i64 O1, .int .i64 O2] 3)))
  have HBB := zF (zA HWA.out (zA HB9.out HBA.out))
  have hO1I : I64 O1 := by unfold I64; omega
  have hO2I : I64 O2 := by unfold I64; omega
  have hrow2 := zPQ ((w9.alloc (.cells #[.int .i64 0, .int .i64 0] 3)).alloc (.cells #[.int .i64 c.lo, .int .i64 c.hi] 38)) O1 O2 hO1I hO2I
  have hsz2 : ((w9.alloc (.cells #[.int .i64 0, .int .i64 0] 3)).alloc (.cells #[.int .i64 c.lo, .int .i64 c.hi] 38)).heap.size = w9.heap.size + 1 + 1 := by rw [World.size_alloc, World.size_alloc]
  rw [hsz2] at hrow2
  have HROW := zF hrow2
  clear hrow2 hsz2
  by_cases hA : l = h.l
  ·have hends : Hid (zPA b S m d l = [h.c - O1, h.c - O2]) := by
    unfold Hid
    rw [HE2.out]
    unfold zDL
    rw [if_pos hA, if_pos hA]
   have hgb0 := zC HBA.out (show zJ w9 gb 0 (.int .i64 h.c) from HL9.out.cell 0 _ rfl)
   have h20 := Lay.new ((w9.alloc (.cells #[.int .i64 0, .int .i64 0] 3)).alloc (.cells #[.int .i64 c.lo, .int .i64 c.hi] 38)) 3 #[.int .i64 O1, .int .i64 O2]
   have hsz2 : ((w9.alloc (.cells #[.int .i64 0, .int .i64 0] 3)).alloc (.cells #[.int .i64 c.lo, .int .i64 c.hi] 38)).heap.size = w9.heap.size + 1 + 1 := by rw [World.size_alloc, World.size_alloc]
   rw [hsz2] at h20
   have H20 := zF h20
   have HG0 := zF hgb0
   clear h20 hgb0 hsz2
   have hw1 : wrap64 (h.c - O1) = h.c - O1 := IntWalk.wrap64_in _ (by omega)
   have hw2 : wrap64 (h.c - O2) = h.c - O2 := IntWalk.wrap64_in _ (by omega)
   have hw3 : IntKind.i64.wrap (h.c - O1) = h.c - O1 := IntWalk.i64_in _ (by omega)
   have hw4 : IntKind.i64.wrap (h.c - O2) = h.c - O2 := IntWalk.i64_in _ (by omega)
   go_wp2
   generalize hg8 : w9.heap.size + 1 + 1 = g8 at *
   generalize ((w9.alloc _).alloc _).alloc _ = w12 at *
   have p0 := zG HG0.out
   have t0 := zG (show zJ w12 g8 0 _ from H20.out.cell 0 _ rfl)
   have t1 := zG (show zJ w12 g8 1 _ from H20.out.cell 1 _ rfl)
   refine zK 13 (by kernel_rfl) (by kernel_rfl) ?_
   simp only [tk_]
   iterate 12 (apply gx_; focus (intro vs xq hd; (try simp [hq_] at hd); simp only [pf_]; go_simp; exact ⟨br_, rfl⟩))
   refine zL (fun v w' => Sl zAJ 1 w' v [h.c - O1, h.c - O2]) (fun v w w' hb h => zI zN hb h) ?_ ?_
   ·intro vs xq hd
    (try simp [hq_] at hd)
    simp only [pf_]
    go_simp
    exact ⟨zB _ _, zPQ _ (h.c - O1) (h.c - O2) (by unfold I64; omega) (by unfold I64; omega)⟩
   refine zT (by simp only [List.length_append, List.length_cons, List.length_nil]) (fun vs xq hd => ?_)
   simp [zV, zAD, List.range, List.range.loop] at hd
   simp only [pf_]
   obtain ⟨_, _, _, _, _, _, _, _, _, _, _, _, e12⟩ := hd
   simp only [Nat.zero_add, Nat.reduceAdd] at e12 ⊢
   have HBZ := zF (zA HBB.out (zE w12 xq))
   have HE12 := zF e12
   clear e12 p0 t0 t1
   generalize vs 12 = v12 at *
   go_wp2
   go_ret
   exact ⟨_, [h.c - O1, h.c - O2], rfl, HE12.out, fun y => by rw [hends.out], by simp, HBZ.out⟩
  ·by_cases hB : l = h.l - 1
   ·have hends : Hid (zPA b S m d l = [O1, O2]) := by
     unfold Hid
     rw [HE2.out]
     unfold zDL
     rw [if_neg hA, if_neg hA, if_pos hB, if_pos hB]
    go_wp2
    go_ret
    exact ⟨_, rfl, [O1, O2], HROW.out, fun y => by rw [← hB, hends.out], by simp, HBB.out⟩
   ·have hends : Hid (zPA b S m d l = [0, 0]) := by
     unfold Hid
     rw [HE2.out]
     unfold zDL
     rw [if_neg hA, if_neg hA, if_neg hB, if_neg hB]
    have hI := ints_one (((w9.alloc (.cells #[.int .i64 0, .int .i64 0] 3)).alloc (.cells #[.int .i64 c.lo, .int .i64 c.hi] 38)).alloc (.cells #[.int .i64 O1, .int .i64 O2] 3)) 0 (by unfold I64; decide)
    have hsz3 : (((w9.alloc (.cells #[.int .i64 0, .int .i64 0] 3)).alloc (.cells #[.int .i64 c.lo, .int .i64 c.hi] 38)).alloc (.cells #[.int .i64 O1, .int .i64 O2] 3)).heap.size = w9.heap.size + 1 + 1 + 1 := by rw [World.size_alloc, World.size_alloc, World.size_alloc]
    rw [hsz3] at hI
    have HI := zF hI
    clear hI hsz3
    go_wp2
    go_ret
    exact ⟨_, rfl, [0], HI.out, fun y => by rw [hends.out]; simp, by simp, zA HBB.out (zB _ _)⟩
end
end Go.Proofs.YtpolpdegpbahiaaGreatDoor
namespace Go.Proofs.YtpolpdegpbahiaaGreatDoor
open Go.RowKit
theorem laidOut_prog : laidOutB Tryz.prog = true := by kernel_rfl
theorem zJL : Maps.Keyed Tryz.prog 34 :=
 Maps.Keyed.of_law (deep_law_laid laidOut_prog (m := 9) (by decide) (of_decide_eq_true (by kernel_rfl)) (by kernel_rfl) (by kernel_rfl))
def kRef (d l : Int) : Value := .agg #[.int .i64 d, .int .i64 l]
def kLit (d l : Int) : Lit := .string (keyBytes [.int .i64 d, .int .i64 l])
theorem zNJ {d l : Int} (hd : I64 d) (hl : I64 l) : keyOf Tryz.prog 34 (kRef d l) = some (kLit d l) := by
 have h1 : Tryz.prog.keyType 34 = true := by kernel_rfl
 have h2 : (kRef d l).formed Tryz.prog 34 = true := by kernel_rfl
 obtain ⟨N, hN⟩ : ∃ N, Tryz.prog.types.size + 1 = N + 2 := ⟨Tryz.prog.types.size - 1, by have : Tryz.prog.types.size ≠ 0 := of_decide_eq_true (by kernel_rfl); omega⟩
 have hc : Tryz.prog.cellsOf 34 = 2 := by kernel_rfl
 have hi : Tryz.prog.cellsOf 3 = 1 := by kernel_rfl
 have hwd := wf_i64 hd
 have hwl := wf_i64 hl
 have h3 : Tryz.prog.keyLits (Tryz.prog.types.size + 1) 34 (kRef d l).cells.toList = some [.int .i64 d, .int .i64 l] := by
  rw [hN]
  simp [Program.keyLits, Tryz.underlying34, Tryz.underlying3, hc, hi, kRef, Value.cells, hwd, hwl]
 unfold keyOf
 rw [Tryz.underlying34]
 simp only
 rw [h1, h2, h3]
 rfl
theorem kLit_key (d l : Int) : WideAt.IsKeyLit (kLit d l) := by simp [WideAt.IsKeyLit, kLit]
theorem kLit_ne {d l d' l' : Int} (hd : I64 d) (hl : I64 l) (hd' : I64 d') (hl' : I64 l') (h : ¬ (d = d' ∧ l = l')) : kLit d l ≠ kLit d' l' := fun e => h (by
 have h1 := zNJ hd hl
 rw [e] at h1
 have := zJL.inj h1 (zNJ hd' hl')
 unfold kRef at this
 simp at this
 exact this)
def MapS (w : World) (b n : Nat) (f : Int → Int → Option Value) : Prop :=
 ∃ D : DataW Value, w.ownsMap Tryz.prog 34 Rv b n D ∧
  ∀ d l, I64 d → I64 l → Maps.has D (kLit d l) = (f d l).isSome ∧ ∀ z, D.atKey (kLit d l) (.held z) = .held ((f d l).getD z)
theorem MapS.same {w w' : World} {b n : Nat} {f : Int → Int → Option Value} (h : MapS w b n f) (e : w'.heap[b]? = w.heap[b]?) : MapS w' b n f := by
 obtain ⟨D, h1, h2⟩ := h
 exact ⟨D, zPM h1 e, h2⟩
theorem MapS.lt {w : World} {b n : Nat} {f : Int → Int → Option Value} (h : MapS w b n f) : b < w.heap.size := by obtain ⟨D, h1, h2⟩ := h; exact h1.lt
theorem MapS.ext {w w' : World} {b n : Nat} {f : Int → Int → Option Value} (hb : Below w.heap.size w w') (h : MapS w b n f) : MapS w' b n f := h.same (hb.block b h.lt)
theorem MapS.eqv {w : World} {b n : Nat} {f g : Int → Int → Option Value} (h : MapS w b n f) (e : ∀ d l, I64 d → I64 l → f d l = g d l) : MapS w b n g := by
 obtain ⟨D, h1, h2⟩ := h
 exact ⟨D, h1, fun d l hd hl => by rw [← e d l hd hl]; exact h2 d l hd hl⟩
theorem mapS_made (w : World) : MapS (w.alloc (.map #[] 0)) w.heap.size 0 (fun _ _ => none) :=
 ⟨.map [], World.ownsMap_made w _ _ _, fun d l _ _ => ⟨by simp [Maps.has], fun z => by simp [DataW.atKey]⟩⟩
theorem mapS_look {t e : TypeId} (ht : Tryz.prog.underlying t = some (.map 34 e)) {w : World} {z : Value} (hz : (zeroValue e).run Tryz.prog w = .ok z w) {b n : Nat} {f : Int → Int → Option Value} (h : MapS w b n f) {d l : Int} (hd : I64 d) (hl : I64 l) :
  (Instr.lookup t (.map (some b)) (kRef d l) false).run Tryz.prog w = .ok ((f d l).getD z) w := by
 obtain ⟨D, ho, hD⟩ := h
 obtain ⟨v, ps, hr, hv⟩ := ho.lookup zJL ht hz (zd := .held z) (zp := []) rfl (zNJ hd hl)
 rw [(hD d l hd hl).2] at hv
 rw [hr, rv_inv hv]
theorem mapS_look_ok {t e : TypeId} (ht : Tryz.prog.underlying t = some (.map 34 e)) {w : World} {z : Value} (hz : (zeroValue e).run Tryz.prog w = .ok z w) {b n : Nat} {f : Int → Int → Option Value} (h : MapS w b n f) {d l : Int} (hd : I64 d) (hl : I64 l) :
  (Instr.lookup t (.map (some b)) (kRef d l) true).run Tryz.prog w = .ok (.tuple #[(f d l).getD z, .bool (f d l).isSome]) w := by
 obtain ⟨D, ho, hD⟩ := h
 obtain ⟨v, ps, hr, hv⟩ := ho.look_ok zJL ht hz (zd := .held z) (zp := []) rfl (zNJ hd hl)
 rw [(hD d l hd hl).2] at hv
 rw [hr, rv_inv hv, (hD d l hd hl).1]
theorem mapS_put {t e : TypeId} (ht : Tryz.prog.underlying t = some (.map 34 e)) {w : World} {b n : Nat} {f : Int → Int → Option Value} (h : MapS w b n f) {d l : Int} (hd : I64 d) (hl : I64 l) (v : Value) (hn : n < maxLen) :
  ∃ w', (Instr.mapUpdate t (.map (some b)) (kRef d l) v).run Tryz.prog w = .ok () w' ∧ MapS w' b (n + 1) (fun y z => if y = d ∧ z = l then some v else f y z) ∧ w.grownBy w' (some b) := by
 obtain ⟨D, ho, hD⟩ := h
 obtain ⟨w', hr, ho', hg⟩ := ho.update zJL ht hn (zNJ hd hl) (show Rv v = some (.held v, []) from rfl)
 refine ⟨w', hr, ⟨_, ho', fun y z hy hz => ?_⟩, hg⟩
 by_cases e : y = d ∧ z = l
 ·obtain ⟨rfl, rfl⟩ := e
  exact ⟨by rw [Maps.has_put_same ho.isMap (kLit_key _ _)]; simp, fun z => by rw [Maps.atKey_put_same ho.isMap (kLit_key _ _)]; simp⟩
 ·have hne := kLit_ne hy hz hd hl e
  exact ⟨by rw [Maps.has_put_other hne, (hD y z hy hz).1]; simp only [if_neg e], fun u => by rw [Maps.atKey_put_other hne, (hD y z hy hz).2]; simp only [if_neg e]⟩
theorem mapS_del {t e : TypeId} (ht : Tryz.prog.underlying t = some (.map 34 e)) {w : World} {b n : Nat} {f : Int → Int → Option Value} (h : MapS w b n f) {d l : Int} (hd : I64 d) (hl : I64 l) (ty : TypeId) :
  ∃ w', (Builtin.delete_ #[t, 34] ty #[.map (some b), kRef d l]).run Tryz.prog w = .ok (.tuple #[]) w' ∧ MapS w' b n (fun y z => if y = d ∧ z = l then none else f y z) ∧ w.grownBy w' (some b) := by
 obtain ⟨D, ho, hD⟩ := h
 obtain ⟨w', hr, ho', hg⟩ := ho.drop zJL ht (zNJ hd hl) ty
 refine ⟨w', hr, ⟨_, ho', fun y z hy hz => ?_⟩, hg.grown⟩
 by_cases e : y = d ∧ z = l
 ·obtain ⟨rfl, rfl⟩ := e
  exact ⟨by rw [Maps.has_del_same]; simp, fun z => by rw [Maps.atKey_del_same]; simp⟩
 ·have hne := kLit_ne hy hz hd hl e
  exact ⟨by rw [Maps.has_del_other hne, (hD y z hy hz).1]; simp only [if_neg e], fun u => by rw [Maps.atKey_del_other hne, (hD y z hy hz).2]; simp only [if_neg e]⟩
end Go.Proofs.YtpolpdegpbahiaaGreatDoor
