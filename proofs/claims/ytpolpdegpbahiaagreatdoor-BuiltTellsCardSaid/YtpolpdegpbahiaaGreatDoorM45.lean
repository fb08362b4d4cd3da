/- The reference: which numbers of a heap a truth leaves, or the error. -/
import Derived.Test.YtpolpdegpbahiaaGreatDoorM22
import Derived.Test.YtpolpdegpbahiaaGreatDoorM44
set_option linter.all false
set_option maxRecDepth 100000
set_option maxHeartbeats 12800000

namespace Go.Proofs.YtpolpdegpbahiaaGreatDoor
open Tryz
open Go.RowKit
attribute [local go_sem] zAN Oper.grows Oper.growUpon
theorem counts08_all (w : World) (vr vn vm vh vs vz : Value) (b : Built) (S : List Int) (h : Int) (hB : BuiltAt w vr vn vm vh vs b) (hS : Sl zAJ 1 w vz S) :
  Calls prog 19 #[.agg #[vr, vn, .int .i64 b.of, vm, vh, vs], vz, .int .i64 h] w fun e w' => e = .returned (.tuple #[.agg #[.int .i64 (tellS b S h).lo, .int .i64 (tellS b S h).hi], .int .i64 (tellC b S h)]) ∧ Below w.heap.size w w' := by
 obtain ⟨ah, ch, rfl, hhm⟩ := zD hB.hs
 obtain ⟨an, cn, rfl, hnm⟩ := zD hB.notes
 have hb1 := zB w (.cells #[vr, .slice an b.ns.notes.length cn, .int .i64 b.of, vm, .slice ah b.hs.length ch, vs] 32)
 have hbox := Lay.new w 32 #[vr, .slice an b.ns.notes.length cn, .int .i64 b.of, vm, .slice ah b.hs.length ch, vs]
 have hl1 : (w.alloc (.cells #[vr, .slice an b.ns.notes.length cn, .int .i64 b.of, vm, .slice ah b.hs.length ch, vs] 32)).heap.size = w.heap.size + 1 := World.size_alloc _ _
 generalize hw0 : w.alloc (.cells #[vr, .slice an b.ns.notes.length cn, .int .i64 b.of, vm, .slice ah b.hs.length ch, vs] 32) = w0 at hb1 hbox hl1
 have hb2 := zB w0 (.cells #[.int .i64 0, .int .i64 0] 38)
 have hres := Lay.new w0 38 #[.int .i64 0, .int .i64 0]
 rw [hl1] at hres
 have HBW := zF (zA hb1 hb2)
 have HBOX := zF (hbox.ext hb2)
 have HRES := zF hres
 have HB := zF (hB.ext HBW.out)
 have HS := zF (zI zN HBW.out hS)
 clear hb1 hb2 hbox hres hB hS
 subst hw0
 have k0 := HBOX.out.cell 0 _ rfl
 have k1 := HBOX.out.cell 1 _ rfl
 have k2 := HBOX.out.cell 2 _ rfl
 have k3 := HBOX.out.cell 3 _ rfl
 have k4 := HBOX.out.cell 4 _ rfl
 have k5 := HBOX.out.cell 5 _ rfl
 go_enter func19, ntmps19
 go_wp2_with fail
 clear k0 k1 k2 k3 k4 k5 hl1
 generalize (w.alloc _).alloc _ = w1 at *
 refine (check08 _ _ _ _ _ _ b HB.out).mono ?_
 rintro e w2 ⟨rfl, hb2⟩
 have HBW := zF (zA HBW.out hb2)
 have HBOX := zF (HBOX.out.ext hb2)
 have HRES := zF (HRES.out.ext hb2)
 have HB := zF (HB.out.ext hb2)
 have HS := zF (zI zN hb2 HS.out)
 clear hb2
 by_cases hv : zM b = 0
 case neg =>
  have hv' : (zM b != 0) = true := by simpa using hv
  have HT := zF (tell_bad (S := S) (h := h) hv)
  have z0 := HRES.out.cell 0 _ rfl
  have z1 := HRES.out.cell 1 _ rfl
  have zf0 := HRES.out.frozen 0
  have zf1 := HRES.out.frozen 1
  have zl := HRES.out.lt
  clear hv
  go_wp2
  refine bodyPost_ret (v := .tuple #[.agg #[.int .i64 0, .int .i64 0], .int .i64 (zM b)]) (by simp [results, results19, go_sem, z0, z1, zl]) rfl ?_
  exact ⟨by rw [HT.out.1, HT.out.2], zH (by omega) (zH (by omega) HBW.out)⟩
 case pos =>
  have HV := zF hv
  have hok := (zAS (zW hv).1).2
  have hN12 := hok.1
  have HND := zF (zKU hok)
  have hr10 : b.rs.length ≤ 10 := (zW hv).2.2.2.2.1
  rw [hv]
  clear hv hok
  have k0 := HBOX.out.cell 0 _ rfl
  have k1 := HBOX.out.cell 1 _ rfl
  go_wp2_with fail
  clear k0 k1
  refine (truth03 _ _ _ _ b.ns.notes S HB.out.notes HS.out (by omega) HND.out).mono ?_
  intro e w3 hr
  rcases hr.both with ⟨hT, rfl, hb2⟩ | ⟨hT, rfl, hb2⟩
  rotate_left
  ·have HT := zF (tell_no (h := h) HV.out hT)
   have HBW := zF (zA HBW.out hb2)
   have HBOX := zF (HBOX.out.ext hb2)
   have HRES := zF (HRES.out.ext hb2)
   have HB := zF (HB.out.ext hb2)
   have HS := zF (zI zN hb2 HS.out)
   have z0 := HRES.out.cell 0 _ rfl
   have z1 := HRES.out.cell 1 _ rfl
   have zf0 := HRES.out.frozen 0
   have zf1 := HRES.out.frozen 1
   have zl := HRES.out.lt
   clear hT hb2 hr
   go_wp2
   refine bodyPost_ret (v := .tuple #[.agg #[.int .i64 0, .int .i64 0], .int .i64 31]) (by simp [results, results19, go_sem, z0, z1, zl]) rfl ?_
   exact ⟨by rw [HT.out.1, HT.out.2], zH (by omega) (zH (by omega) HBW.out)⟩
  have HT := zF hT
  have HBW := zF (zA HBW.out hb2)
  have HBOX := zF (HBOX.out.ext hb2)
  have HRES := zF (HRES.out.ext hb2)
  have HB := zF (HB.out.ext hb2)
  have HS := zF (zI zN hb2 HS.out)
  clear hT hb2 hr
  have k4 := HBOX.out.cell 4 _ rfl
  have hw1 : IntKind.i64.wrap ((b.hs.length : Int) - 1) = (b.hs.length : Int) - 1 := IntWalk.i64_in _ (by omega)
  have hw2 : wrap64 ((b.hs.length : Int) - 1) = (b.hs.length : Int) - 1 := IntWalk.wrap64_in _ (by omega)
  go_wp2_with fail
  clear k4 hw1 hw2
  refine (zHN h 0 ((b.hs.length : Int) - 1) _).mono ?_
  rintro e w4 ⟨rfl, rfl⟩
  by_cases hi : In h 0 ((b.hs.length : Int) - 1)
  case neg =>
   have ht : inB h 0 ((b.hs.length : Int) - 1) = false := zIH hi
   have HTT := zF (tell_arg HV.out HT.out hi)
   rw [ht]
   have z0 := HRES.out.cell 0 _ rfl
   have z1 := HRES.out.cell 1 _ rfl
   have zf0 := HRES.out.frozen 0
   have zf1 := HRES.out.frozen 1
   have zl := HRES.out.lt
   clear hi ht
   go_wp2
   refine bodyPost_ret (v := .tuple #[.agg #[.int .i64 0, .int .i64 0], .int .i64 2]) (by simp [results, results19, go_sem, z0, z1, zl]) rfl ?_
   exact ⟨by rw [HTT.out.1, HTT.out.2], zH (by omega) (zH (by omega) HBW.out)⟩
  case pos =>
   have ht : inB h 0 ((b.hs.length : Int) - 1) = true := zHP hi
   obtain ⟨kk, rfl⟩ : ∃ kk : Nat, h = kk := ⟨h.toNat, by unfold In at hi; omega⟩
   have hkk : kk < b.hs.length := by unfold In at hi; omega
   have HI := zF hi
   rw [ht]
   clear hi ht
   have k0 := HBOX.out.cell 0 _ rfl
   have k1 := HBOX.out.cell 1 _ rfl
   have k2 := HBOX.out.cell 2 _ rfl
   have k3 := HBOX.out.cell 3 _ rfl
   have k4 := HBOX.out.cell 4 _ rfl
   have k5 := HBOX.out.cell 5 _ rfl
   go_wp2_with fail
   clear k0 k1 k2 k3 k4 k5
   refine (viewOf08 _ _ _ _ _ _ _ b S HB.out HS.out HV.out HT.out).mono ?_
   rintro e w5 ⟨vp, vt, rfl, hVA, hb2⟩
   have hva := hVA.now
   obtain ⟨ap, cp, rfl, _⟩ := zD hva.1
   obtain ⟨at', ct, rfl, _⟩ := zD hva.2
   have HBW := zF (zA HBW.out hb2)
   have HBOX := zF (HBOX.out.ext hb2)
   have HRES := zF (HRES.out.ext hb2)
   have HB := zF (HB.out.ext hb2)
   have HS := zF (zI zN hb2 HS.out)
   have HVA := zF hva
   clear hb2 hVA hva
   have hb2 := zB w5 (.cells #[.slice ap (zBS b S).length cp, .slice at' (zBO b S).length ct] 130)
   have hlv := Lay.new w5 130 #[.slice ap (zBS b S).length cp, .slice at' (zBO b S).length ct]
   have HBW := zF (zA HBW.out hb2)
   have HBOX := zF (HBOX.out.ext hb2)
   have HRES := zF (HRES.out.ext hb2)
   have HB := zF (HB.out.ext hb2)
   have HS := zF (zI zN hb2 HS.out)
   have HVA := zF (HVA.out.ext hb2)
   have HLV := zF hlv
   clear hb2 hlv
   go_wp2
   generalize hgv : w5.heap.size = gv at *
   generalize w5.alloc _ = w6 at *
   clear hgv
   have hleft : ∀ W, Below w6.heap.size w6 W → Calls prog 61 #[.agg #[vr, .slice an b.ns.notes.length cn, .int .i64 b.of, vm, .slice ah b.hs.length ch, vs], .agg #[.slice ap (zBS b S).length cp, .slice at' (zBO b S).length ct], .int .i64 (2 ^ b.rs.length - 1)] W (zAK (zII b S) W) := fun W hb =>
    (left08 W vr _ vm _ vs _ _ b.of b.ms b.hs b.rs (zBS b S) (zBO b S) (HB.out.ext hb).ms (HB.out.ext hb).hs (HB.out.ext hb).rs (HVA.out.ext hb) (view_ok HV.out S) hr10 (fun k hk => zDP HV.out hk)).mono fun e w' hr => by
     rcases hr.both with ⟨h1, rfl, h2⟩ | ⟨h1, rfl, h2⟩
     ·exact zAK.t ((leftV_view HV.out S).1 h1) h2
     ·exact zAK.f (fun h => h1 ((leftV_view HV.out S).2 h)) h2
   have HLEFT := zF hleft
   clear hleft
   by_cases hl : zII b S
   case neg =>
    have HTT := zF (tell_out HV.out HT.out HI.out hl)
    have k0 := zG (HBOX.out.cell 0 _ rfl)
    have k1 := zG (HBOX.out.cell 1 _ rfl)
    have k2 := zG (HBOX.out.cell 2 _ rfl)
    have k3 := zG (HBOX.out.cell 3 _ rfl)
    have k4 := zG (HBOX.out.cell 4 _ rfl)
    have k5 := zG (HBOX.out.cell 5 _ rfl)
    have v0 := zG (HLV.out.cell 0 _ rfl)
    have v1 := zG (HLV.out.cell 1 _ rfl)
    refine zK 5 (by kernel_rfl) (by kernel_rfl) ?_
    simp only [tk_]
    iterate 3 (apply gx_; focus (intro vs xq hd; (try simp [hq_] at hd); simp only [pf_]; go_simp; exact ⟨br_, rfl⟩))
    refine zAE ?_
    apply Exists.intro
    refine ⟨fun vs' xq hd => ?_, ?_⟩
    ·(try simp [hq_] at hd)
     simp only [pf_]
     go_simp
     refine (every08 (w6.later xq) vr _ vm _ vs b.of b.rs (HB.out.ext (zE w6 xq)).rs (by omega)).mono ?_
     rintro e w9 ⟨rfl, hb9⟩
     exact ⟨rfl, hb9⟩
    refine zAE ⟨.bool false, fun vs' xq hd => ?_, ?_⟩
    ·(try simp [hq_] at hd)
     simp only [pf_]
     go_simp
     refine (HLEFT.out (w6.later xq) (zE w6 xq)).mono ?_
     intro e w9 hr
     rcases hr.both with ⟨h1, rfl, h2⟩ | ⟨h1, rfl, h2⟩
     ·first | exact ⟨rfl, h2⟩ | exact absurd h1 hl
     ·first | exact ⟨rfl, h2⟩ | exact absurd hl h1
    refine zT rfl (fun vs' xq hd => ?_)
    simp [zV, zAD, List.range, List.range.loop] at hd
    simp only [pf_]
    obtain ⟨e0, e1, e2, e3, e4⟩ := hd
    simp only [Nat.zero_add, Nat.reduceAdd] at e0 e1 e2 e3 e4 ⊢
    simp only [e0, e1, e2, e3, e4]
    have hb2 := zE w6 xq
    have HBW := zF (zA HBW.out hb2)
    have HBOX := zF (HBOX.out.ext hb2)
    have HRES := zF (HRES.out.ext hb2)
    have HB := zF (HB.out.ext hb2)
    have HS := zF (zI zN hb2 HS.out)
    have HVA := zF (HVA.out.ext hb2)
    have HLV := zF (HLV.out.ext hb2)
    clear e0 e1 e2 e3 e4 k0 k1 k2 k3 k4 k5 v0 v1 hb2 HLEFT
    generalize w6.later xq = w8 at *
    have z0 := HRES.out.cell 0 _ rfl
    have z1 := HRES.out.cell 1 _ rfl
    have zf0 := HRES.out.frozen 0
    have zf1 := HRES.out.frozen 1
    have zl := HRES.out.lt
    clear hl
    go_wp2
    refine bodyPost_ret (v := .tuple #[.agg #[.int .i64 0, .int .i64 0], .int .i64 8]) (by simp [results, results19, go_sem, z0, z1, zl]) rfl ?_
    exact ⟨by rw [HTT.out.1, HTT.out.2], zH (by omega) (zH (by omega) HBW.out)⟩
   case pos =>
    have HTT := zF (tell_ok HV.out HT.out HI.out hl)
    obtain ⟨sp, hsp⟩ : ∃ sp, zGB b S kk = some sp := Option.ne_none_iff_exists'.1 (hl.1 kk hkk)
    have hcnt : zBL b.ms b.rs (zBS b S) (zBO b S) kk b.hs[kk].lo (b.hs[kk].hi - b.hs[kk].lo + 1).toNat = some sp := by rw [← countsV_at hkk, zOO HV.out, hsp]
    have HSP : Hid (tellS b S kk = sp) := by unfold Hid; rw [HTT.out.2, hsp]; rfl
    have HCNT := zF hcnt
    clear hsp hcnt
    have k0 := zG (HBOX.out.cell 0 _ rfl)
    have k1 := zG (HBOX.out.cell 1 _ rfl)
    have k2 := zG (HBOX.out.cell 2 _ rfl)
    have k3 := zG (HBOX.out.cell 3 _ rfl)
    have k4 := zG (HBOX.out.cell 4 _ rfl)
    have k5 := zG (HBOX.out.cell 5 _ rfl)
    have v0 := zG (HLV.out.cell 0 _ rfl)
    have v1 := zG (HLV.out.cell 1 _ rfl)
    refine zK 5 (by kernel_rfl) (by kernel_rfl) ?_
    simp only [tk_]
    iterate 3 (apply gx_; focus (intro vs xq hd; (try simp [hq_] at hd); simp only [pf_]; go_simp; exact ⟨br_, rfl⟩))
    refine zAE ?_
    apply Exists.intro
    refine ⟨fun vs' xq hd => ?_, ?_⟩
    ·(try simp [hq_] at hd)
     simp only [pf_]
     go_simp
     refine (every08 (w6.later xq) vr _ vm _ vs b.of b.rs (HB.out.ext (zE w6 xq)).rs (by omega)).mono ?_
     rintro e w9 ⟨rfl, hb9⟩
     exact ⟨rfl, hb9⟩
    refine zAE ⟨.bool true, fun vs' xq hd => ?_, ?_⟩
    ·(try simp [hq_] at hd)
     simp only [pf_]
     go_simp
     refine (HLEFT.out (w6.later xq) (zE w6 xq)).mono ?_
     intro e w9 hr
     rcases hr.both with ⟨h1, rfl, h2⟩ | ⟨h1, rfl, h2⟩
     ·first | exact ⟨rfl, h2⟩ | exact absurd h1 hl
     ·first | exact ⟨rfl, h2⟩ | exact absurd hl h1
    refine zT rfl (fun vs' xq hd => ?_)
    simp [zV, zAD, List.range, List.range.loop] at hd
    simp only [pf_]
    obtain ⟨e0, e1, e2, e3, e4⟩ := hd
    simp only [Nat.zero_add, Nat.reduceAdd] at e0 e1 e2 e3 e4 ⊢
    simp only [e0, e1, e2, e3, e4]
    have hb2 := zE w6 xq
    have HBW := zF (zA HBW.out hb2)
    have HBOX := zF (HBOX.out.ext hb2)
    have HRES := zF (HRES.out.ext hb2)
    have HB := zF (HB.out.ext hb2)
    have HS := zF (zI zN hb2 HS.out)
    have HVA := zF (HVA.out.ext hb2)
    have HLV := zF (HLV.out.ext hb2)
    clear e0 e1 e2 e3 e4 k0 k1 k2 k3 k4 k5 v0 v1 hb2 HLEFT
    generalize w6.later xq = w8 at *
    go_wp2
    have HC : Hid (∀ W, Below w8.heap.size w8 W → Calls prog 62 #[.agg #[vr, .slice an b.ns.notes.length cn, .int .i64 b.of, vm, .slice ah b.hs.length ch, vs], .agg #[.slice ap (zBS b S).length cp, .slice at' (zBO b S).length ct], .int .i64 (2 ^ b.rs.length - 1), .int .i64 kk] W fun e w' => e = .returned (.tuple #[.agg #[.int .i64 sp.lo, .int .i64 sp.hi], .bool true]) ∧ Below W.heap.size W w') := fun W hb => by
     have := counts08 W vr (.slice an b.ns.notes.length cn) vm (.slice ah b.hs.length ch) vs _ _ b.of b.ms b.hs b.rs (zBS b S) (zBO b S) (HB.out.ext hb).ms (HB.out.ext hb).hs (HB.out.ext hb).rs (HVA.out.ext hb) (view_ok HV.out S) hr10 kk hkk (zDP HV.out hkk)
     rw [HCNT.out] at this
     exact this
    clear hl HCNT
    generalize w8 = w6 at *
    have hz6 := HRES.out.lt
    have k0 := zG (HBOX.out.cell 0 _ rfl)
    have k1 := zG (HBOX.out.cell 1 _ rfl)
    have k2 := zG (HBOX.out.cell 2 _ rfl)
    have k3 := zG (HBOX.out.cell 3 _ rfl)
    have k4 := zG (HBOX.out.cell 4 _ rfl)
    have k5 := zG (HBOX.out.cell 5 _ rfl)
    have v0 := zG (HLV.out.cell 0 _ rfl)
    have v1 := zG (HLV.out.cell 1 _ rfl)
    refine zGC 10 8 (by kernel_rfl) (by kernel_rfl) rfl rfl (fun v => v = .bool true) ?_
    simp only [tk_]
    iterate 3 (apply gx_; focus (intro vs xq hd; (try simp [hq_] at hd); simp only [pf_]; go_simp; exact ⟨br_, rfl⟩))
    refine zAE ?_
    apply Exists.intro
    refine ⟨fun vs' xq hd => ?_, ?_⟩
    ·(try simp [hq_] at hd)
     simp only [pf_]
     go_simp
     refine (every08 (w6.later xq) vr _ vm _ vs b.of b.rs (HB.out.ext (zE w6 xq)).rs (by omega)).mono ?_
     rintro e w9 ⟨rfl, hb9⟩
     exact ⟨rfl, hb9⟩
    apply gx_; focus (intro vs xq hd; (try simp [hq_] at hd); simp only [pf_]; go_simp; exact ⟨br_, rfl⟩)
    refine zAE ?_
    apply Exists.intro
    refine ⟨fun vs' xq hd => ?_, ?_⟩
    ·(try simp [hq_] at hd)
     simp only [pf_]
     go_simp
     refine (HC.out (w6.later xq) (zE w6 xq)).mono ?_
     rintro e w9 ⟨rfl, hb9⟩
     exact ⟨rfl, hb9⟩
    iterate 3 (apply gx_; focus (intro vs xq hd; (try simp [hq_] at hd); simp only [pf_]; go_simp; exact ⟨br_, rfl⟩))
    refine zL (NewBx w6.heap.size #[.int .i64 0, .int .i64 0] 38) (zDC _ _ _) ?_ ?_
    ·intro vs xq hd
     (try simp [hq_] at hd)
     simp only [pf_]
     go_simp
     exact ⟨zB _ _, _, rfl, (zE w6 xq).size, Lay.new _ _ _⟩
    refine ⟨fun v w h => h, fun vs' w8 w9 hd => ?_, fun vs' w8 hb2 hf => ?_⟩
    ·simp [Oper.waitsOn, Region.binds, List.filter_cons, List.filter_nil, zAD] at hd
     refine ⟨.bool true, ?_, rfl⟩
     simp only [pf_]
     rw [hd]
     go_simp
    have h7 := hf 7 (by decide) (by decide)
    have h9 := hf 9 (by decide) (by decide)
    simp [zAD] at h7 h9
    obtain ⟨gs, e9, hgs, hls⟩ := h9
    clear hf k0 k1 k2 k3 k4 k5 v0 v1
    have HBW := zF (zA HBW.out hb2)
    have HBOX := zF (HBOX.out.ext hb2)
    have HRES := zF (HRES.out.ext hb2)
    have HB := zF (HB.out.ext hb2)
    have HS := zF (zI zN hb2 HS.out)
    clear hb2
    have q0 := hls.cell 0 _ rfl
    have q1 := hls.cell 1 _ rfl
    have f0 := hls.frozen 0
    have f1 := hls.frozen 1
    have ql := hls.lt
    have HLS := zF hls
    simp only [pf_]
    rw [h7, e9]
    go_simp
    (try simp only [List.drop_succ_cons, List.drop_zero])
    have HLS2 := zF (zBC (zBC hls 0 (.int .i64 sp.lo)) 1 (.int .i64 sp.hi))
    have hgw : w6.heap.size ≤ gs := hgs
    have HRES := zF (zBD (zBD HRES.out (show w.heap.size + 1 ≠ gs by omega) 0 (.int .i64 sp.lo)) (show w.heap.size + 1 ≠ gs by omega) 1 (.int .i64 sp.hi))
    have HBW := zF (zH (u := .int .i64 sp.hi) (j := 1) (show w.heap.size ≤ gs by omega) (zH (u := .int .i64 sp.lo) (j := 0) (show w.heap.size ≤ gs by omega) HBW.out))
    clear q0 q1 f0 f1 ql h7 e9 hls HLS HBOX HB HS hgs
    generalize (w8.setCell _ _).setCell _ _ = w88 at *
    generalize vs' 0 = y0 at *
    generalize vs' 1 = y1 at *
    generalize vs' 2 = y2 at *
    generalize vs' 3 = y3 at *
    generalize vs' 4 = y4 at *
    generalize vs' 5 = y5 at *
    generalize vs' 6 = y6 at *
    generalize vs' 7 = y7 at *
    have s0 := HLS2.out.cell 0 _ rfl
    have s1 := HLS2.out.cell 1 _ rfl
    have z0 := HRES.out.cell 0 _ rfl
    have z1 := HRES.out.cell 1 _ rfl
    have zf0 := HRES.out.frozen 0
    have zf1 := HRES.out.frozen 1
    have zl := HRES.out.lt
    go_wp2
    refine bodyPost_ret (v := .tuple #[.agg #[.int .i64 sp.lo, .int .i64 sp.hi], .int .i64 0]) (by simp [results, results19, go_sem, z0, z1, zl]) rfl ?_
    exact ⟨by rw [HSP.out, HTT.out.1], zH (by omega) (zH (by omega) HBW.out)⟩
end Go.Proofs.YtpolpdegpbahiaaGreatDoor
