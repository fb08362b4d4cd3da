/- The reference: how many pieces a machine has in some truths. -/
import Derived.Test.YtpolpdegpbahiaaGreatDoorM33
set_option linter.all false
set_option maxRecDepth 100000
set_option maxHeartbeats 12800000

namespace Go.Proofs.YtpolpdegpbahiaaGreatDoor
open Tryz
open Go.RowKit Go.Shelf
attribute [local go_sem] zAN Oper.grows Oper.growUpon
structure PLoop (wa wr : World) (z : Nat) (s : Span) : Prop where
 below : Below wa.heap.size wa wr
 lo : wa.heap.size ≤ z
 res : Lay wr z #[.int .i64 0, .int .i64 0] 38
 out : Lay wr (z + 1) #[.int .i64 s.lo, .int .i64 s.hi] 38
theorem PLoop.ext {wa w w' : World} {z : Nat} {s : Span} (hb : Below w.heap.size w w') (h : PLoop wa w z s) : PLoop wa w' z s := ⟨zA h.below hb, h.lo, h.res.ext hb, h.out.ext hb⟩
theorem PLoop.other {wa w : World} {z : Nat} {s : Span} (h : PLoop wa w z s) {g j : Nat} {u : Value} (hg : z + 1 < g) : PLoop wa (w.setCell ⟨g, j, none⟩ u) z s := ⟨zH (by have := h.lo; omega) h.below, h.lo, zBD h.res (by omega) _ _, zBD h.out (by omega) _ _⟩
theorem PLoop.put {wa w : World} {z : Nat} {s : Span} (h : PLoop wa w z s) (t : Span) : PLoop wa ((w.setCell ⟨z + 1, 0, none⟩ (.int .i64 t.lo)).setCell ⟨z + 1, 1, none⟩ (.int .i64 t.hi)) z t :=
 ⟨zH (by have := h.lo; omega) (zH (by have := h.lo; omega) h.below), h.lo, zBD (zBD h.res (by omega) _ _) (by omega) _ _, zBC (zBC h.out 0 _) 1 _⟩
structure PRound (wa w : World) (z gb gw gs : Nat) (s sp : Span) (h : Has) (vp vt : Value) : Prop where
 loop : PLoop wa w z s
 has : Lay w gb #[.int .i64 h.c, .int .i64 h.l, .int .i64 h.h] 168
 view : Lay w gw #[vp, vt] 130
 span : Lay w gs #[.int .i64 sp.lo, .int .i64 sp.hi] 38
 ne : z + 1 < gb ∧ z + 1 < gw ∧ z + 1 < gs ∧ gb ≠ gs ∧ gw ≠ gs
theorem PRound.ext {wa w w' : World} {z gb gw gs : Nat} {s sp : Span} {h : Has} {vp vt : Value} (hb : Below w.heap.size w w') (p : PRound wa w z gb gw gs s sp h vp vt) : PRound wa w' z gb gw gs s sp h vp vt :=
 ⟨p.loop.ext hb, p.has.ext hb, p.view.ext hb, p.span.ext hb, p.ne⟩
theorem PRound.put {wa w : World} {z gb gw gs : Nat} {s sp : Span} {h : Has} {vp vt : Value} (p : PRound wa w z gb gw gs s sp h vp vt) (t : Span) : PRound wa ((w.setCell ⟨z + 1, 0, none⟩ (.int .i64 t.lo)).setCell ⟨z + 1, 1, none⟩ (.int .i64 t.hi)) z gb gw gs t sp h vp vt :=
 ⟨p.loop.put t, zBD (zBD p.has (by have := p.ne; omega) _ _) (by have := p.ne; omega) _ _, zBD (zBD p.view (by have := p.ne; omega) _ _) (by have := p.ne; omega) _ _, zBD (zBD p.span (by have := p.ne; omega) _ _) (by have := p.ne; omega) _ _, p.ne⟩
theorem PRound.putS {wa w : World} {z gb gw gs : Nat} {s sp : Span} {h : Has} {vp vt : Value} (p : PRound wa w z gb gw gs s sp h vp vt) (t : Span) : PRound wa ((w.setCell ⟨gs, 0, none⟩ (.int .i64 t.lo)).setCell ⟨gs, 1, none⟩ (.int .i64 t.hi)) z gb gw gs s t h vp vt :=
 have hn := p.ne
 ⟨(p.loop.other (by omega)).other (by omega), zBD (zBD p.has (by omega) _ _) (by omega) _ _, zBD (zBD p.view (by omega) _ _) (by omega) _ _, zBC (zBC p.span 0 _) 1 _, p.ne⟩
theorem pieces08 (w : World) (vr vn vm vh vz vl vv : Value) (b : Built) (A : List (List Int)) (m d l : Int) (hB : BuiltAt w vr vn vm vh vz b) (hv : zM b = 0) (hA : Sl zKW 1 w vl A) (hV : Sl (AtView b) 2 w vv A) (hT : ∀ S ∈ A, IsT (zCA b.ns.notes) S ∧ zII b S) (hA32 : A.length ≤ 32)
  (hm : m ∈ b.ms) (hd : d ∈ nums b.ns.reg) :
  Calls prog 46 #[.agg #[vr, vn, .int .i64 b.of, vm, vh, vz], vl, vv, .int .i64 m, .agg #[.int .i64 d, .int .i64 l]] w fun e w' => e = .returned (.agg #[.int .i64 (zAT b A m d l).lo, .int .i64 (zAT b A m d l).hi]) ∧ Below w.heap.size w w' := by
 have hb1 := zB w (.cells #[vr, vn, .int .i64 b.of, vm, vh, vz] 32)
 have hbox1 := zHC w vr vn vm vh vz b.of 32
 have hl1 : (w.alloc (.cells #[vr, vn, .int .i64 b.of, vm, vh, vz] 32)).heap.size = w.heap.size + 1 := World.size_alloc _ _
 have hm999 : In m 1 999 := by
  obtain ⟨k, hk, rfl⟩ := List.getElem_of_mem hm
  exact ((zW hv).2.2.2.2.2.1 k hk hk).1
 have hr10 : b.rs.length ≤ 10 := (zW hv).2.2.2.2.1
 have hm12 : b.ms.length ≤ 12 := (zW hv).2.2.1
 have HV := zF hv
 have HT := zF hT
 have HM := zF hm
 have HM9 := zF hm999
 have HD := zF hd
 obtain ⟨al, cal, rfl, _⟩ := zD hA
 obtain ⟨av, cav, rfl, _⟩ := zD hV
 have HA := zF (zI zCC hb1 hA)
 have HVW := zF (zI (zKH b) hb1 hV)
 have HB := zF (hB.ext hb1)
 clear hB hv hA hV hT hm hd hm999
 go_enter func46, ntmps46
 go_wp2
 generalize w.alloc _ = w0 at *
 have hb2 := zB w0 (.cells #[.int .i64 d, .int .i64 l] 34)
 have hl2 : (w0.alloc (.cells #[.int .i64 d, .int .i64 l] 34)).heap.size = w0.heap.size + 1 := World.size_alloc _ _
 have href := Lay.new w0 34 #[.int .i64 d, .int .i64 l]
 have hwal : (w0.alloc (.cells #[.int .i64 d, .int .i64 l] 34)).heap.size = w.heap.size + 1 + 1 := by rw [hl2, hl1]
 rw [hl1] at href
 generalize w0.alloc _ = wa at *
 have HREF := zF href
 have hp0 : PLoop wa ((wa.alloc (.cells #[.int .i64 0, .int .i64 0] 38)).alloc (.cells #[.int .i64 0, .int .i64 0] 38)) (w.heap.size + 1 + 1) (pTo b A m d l 0) := by
  have e1 := Lay.new wa 38 #[.int .i64 0, .int .i64 0]
  have e2 := Lay.new (wa.alloc (.cells #[.int .i64 0, .int .i64 0] 38)) 38 #[.int .i64 0, .int .i64 0]
  rw [World.size_alloc] at e2
  rw [hwal] at e1 e2
  exact ⟨zA (zB _ _) (zB _ _), by omega, e1.alloc _, e2⟩
 generalize (wa.alloc _).alloc _ = w1 at *
 have HBOX := zF (hbox1.ext hb2)
 have HB := zF (HB.out.ext hb2)
 have HA2 := zF (zI zCC hb2 HA.out)
 have HV2 := zF (zI (zKH b) hb2 HVW.out)
 have HWA := zF (zA hb1 hb2)
 have HAL := zF hwal
 clear HA HVW hbox1 hl1 hl2 href hb1 hb2 hwal
 go_loopw [12] (fun i wr => ∃ k : Nat, i = .int .i64 k ∧ k ≤ A.length ∧ Hid (PLoop wa wr (w.heap.size + 1 + 1) (pTo b A m d l k))) (fun i _ => A.length - (intOf i).toNat)
 case atStart => exact ⟨0, rfl, by omega, zF hp0⟩
 case round =>
  clear hp0
  obtain ⟨k, rfl, hk, HP⟩ := hrel
  by_cases hlt : k < A.length
  case neg =>
   obtain rfl : k = A.length := by omega
   rw [pTo_all] at HP
   obtain ⟨s, hs⟩ : ∃ s, s = zAT b A m d l := ⟨_, rfl⟩
   rw [← hs] at HP
   have HS := zF hs
   clear hs
   have q0 := HP.out.out.cell 0 _ rfl
   have q1 := HP.out.out.cell 1 _ rfl
   have z0 := HP.out.res.cell 0 _ rfl
   have z1 := HP.out.res.cell 1 _ rfl
   have zf0 := HP.out.res.frozen 0
   have zf1 := HP.out.res.frozen 1
   have zl := HP.out.res.lt
   go_wp2
   refine bodyPost_ret (v := .agg #[.int .i64 s.lo, .int .i64 s.hi]) (by simp [results, results46, go_sem, z0, z1, zl]) rfl ?_
   exact ⟨by rw [HS.out], zH (by omega) (zH (by omega) (zA HWA.out HP.out.below))⟩
  case pos =>
   have hkl : (k : Int) < A.length := by omega
   obtain ⟨gl, ol, rfl, vx, hcx, hx⟩ := (zZ HA2.out).2 k hlt
   obtain ⟨gv, ov, rfl, vp, vt, hcp, hct, hVA⟩ := (zZ HV2.out).2 k hlt
   obtain ⟨ax, cx, rfl, _⟩ := zD hx
   obtain ⟨ap, cp, rfl, _⟩ := zD hVA.reports
   obtain ⟨at', ct, rfl, _⟩ := zD hVA.takes
   have hTx := HT.out _ (List.getElem_mem hlt)
   have hsucc := zF (pTo_succ HM.out d l hlt)
   have hsb := spanS_bd HV.out hTx.2 m d
   have HSB := zF hsb
   have HTX := zF hTx
   have HX := zF hx
   have HC := zF (And.intro hcx (And.intro hcp hct))
   have HVA := zF hVA
   clear hcx hcp hct hVA hx hTx hsb
   generalize A[k] = x at *
   have hcallH := zF (fun W (hb : Below wa.heap.size wa W) => hasOf08 W vr vn vm vh vz (.slice ax x.length cx) b x m d (HB.out.ext hb) (zI zN hb HX.out) HV.out HTX.out.1 HM9.out HD.out)
   have hpl := zF (And.intro HP.out.below HP.out.lo)
   have k0 : ∀ xq, (wr.later xq).cell? ⟨w.heap.size, 0, none⟩ = some vr := fun xq => zC (zA hpl.out.1 (zE wr xq)) HBOX.out.c0
   have k1 : ∀ xq, (wr.later xq).cell? ⟨w.heap.size, 1, none⟩ = some vn := fun xq => zC (zA hpl.out.1 (zE wr xq)) HBOX.out.c1
   have k2 : ∀ xq, (wr.later xq).cell? ⟨w.heap.size, 2, none⟩ = some (.int .i64 b.of) := fun xq => zC (zA hpl.out.1 (zE wr xq)) HBOX.out.c2
   have k3 : ∀ xq, (wr.later xq).cell? ⟨w.heap.size, 3, none⟩ = some vm := fun xq => zC (zA hpl.out.1 (zE wr xq)) HBOX.out.c3
   have k4 : ∀ xq, (wr.later xq).cell? ⟨w.heap.size, 4, none⟩ = some vh := fun xq => zC (zA hpl.out.1 (zE wr xq)) HBOX.out.c4
   have k5 : ∀ xq, (wr.later xq).cell? ⟨w.heap.size, 5, none⟩ = some vz := fun xq => zC (zA hpl.out.1 (zE wr xq)) HBOX.out.c5
   have kx : ∀ xq, (wr.later xq).cell? ⟨gl, ol + k, none⟩ = some (.slice ax x.length cx) := fun xq => by
    have := zC (zA hpl.out.1 (zE wr xq)) HC.out.1
    rw [Nat.mul_one] at this
    exact this
   have kd : ∀ xq, (wr.later xq).cell? ⟨w.heap.size + 1, 0, none⟩ = some (.int .i64 d) := fun xq => zC (zA hpl.out.1 (zE wr xq)) (HREF.out.cell 0 _ rfl)
   go_wp2
   refine zK 10 (by kernel_rfl) (by kernel_rfl) ?_
   simp only [tk_]
   iterate 8 (apply gx_; focus (intro vs xq hd; (try simp [hq_] at hd); simp only [pf_]; go_simp; exact ⟨br_, rfl⟩))
   refine zAE ?_
   apply Exists.intro
   refine ⟨fun vs xq hd => ?_, ?_⟩
   ·(try simp [hq_] at hd)
    simp only [pf_]
    go_simp
    refine (hcallH.out _ (zA hpl.out.1 (zE wr xq))).mono ?_
    rintro e w9 ⟨rfl, hb9⟩
    exact ⟨rfl, hb9⟩
   refine zL (NewBx wr.heap.size #[.int .i64 0, .int .i64 0, .int .i64 0] 168) (zDC _ _ _) ?_ ?_
   ·intro vs xq hd
    (try simp [hq_] at hd)
    simp only [pf_]
    go_simp
    exact ⟨zB _ _, _, rfl, (zE wr xq).size, Lay.new _ _ _⟩
   refine zT rfl (fun vs xq hd => ?_)
   simp [zV, zAD, List.range, List.range.loop] at hd
   simp only [pf_]
   obtain ⟨e0, e1, e2, e3, e4, e5, e6, e7, e8, gb, e9, hgb, hLb⟩ := hd
   simp only [Nat.zero_add, Nat.reduceAdd] at e0 e1 e2 e3 e4 e5 e6 e7 e8 e9 ⊢
   simp only [e0, e1, e2, e3, e4, e5, e6, e7, e8, e9]
   have hb8 := zE wr xq
   clear e0 e1 e2 e3 e4 e5 e6 e7 e8 e9 k0 k1 k2 k3 k4 k5 kx kd hcallH
   generalize wr.later xq = w8 at *
   have q0 := hLb.cell 0 _ rfl
   have q1 := hLb.cell 1 _ rfl
   have q2 := hLb.cell 2 _ rfl
   have f0 := hLb.frozen 0
   have f1 := hLb.frozen 1
   have f2 := hLb.frozen 2
   have hl := hLb.lt
   have hh4 := zF (zFP b x m d)
   have hhe := zF (Eq.refl (zAB b x m d))
   generalize hH : zAB b x m d = h at hh4 hhe q0 q1 q2 f0 f1 f2 hl hLb ⊢
   have HH := zF hH
   clear hH hhe
   have hz1 : w.heap.size + 1 + 1 + 1 < gb := by have := HP.out.out.lt; omega
   have HP9 := zF (((((HP.out.ext hb8).other (g := gb) (j := 0) (u := .int .i64 h.c) hz1).other (g := gb) (j := 1) (u := .int .i64 h.l) hz1).other (g := gb) (j := 2) (u := .int .i64 h.h) hz1))
   have HL9 := zF (zBC (zBC (zBC hLb 0 (.int .i64 h.c)) 1 (.int .i64 h.l)) 2 (.int .i64 h.h))
   clear hLb hb8
   go_step
   go_simp
   generalize ((w8.setCell _ _).setCell _ _).setCell _ _ = w9 at *
   clear q0 q1 q2 f0 f1 f2 hl
   have q2 := HL9.out.cell 2 _ rfl
   have v0 := zC HP9.out.below HC.out.2.1
   have v1 := zC HP9.out.below HC.out.2.2
   have hgl := HL9.out.lt
   unfold zJ at v0 v1
   by_cases hh0 : h.h < 0
   case' pos =>
    have hh0' : ¬ (0 ≤ h.h) := by omega
    have hsp : zHJ b x m d = ⟨0, 0⟩ := by unfold zHJ; rw [HH.out, if_pos hh0]
    have hb10 : Below w9.heap.size w9 ((w9.alloc (.cells #[.slice ap (zBS b x).length cp, .slice at' (zBO b x).length ct] 130)).alloc (.cells #[.int .i64 0, .int .i64 0] 38)) := zA (zB _ _) (zB _ _)
    have k3 := zC (zA HP9.out.below hb10) HBOX.out.c3
    have hPR : PRound wa ((w9.alloc (.cells #[.slice ap (zBS b x).length cp, .slice at' (zBO b x).length ct] 130)).alloc (.cells #[.int .i64 0, .int .i64 0] 38)) (w.heap.size + 1 + 1) gb w9.heap.size (w9.heap.size + 1) (pTo b A m d l k) ⟨0, 0⟩ h (.slice ap (zBS b x).length cp) (.slice at' (zBO b x).length ct) := by
     have e2 := Lay.new (w9.alloc (.cells #[.slice ap (zBS b x).length cp, .slice at' (zBO b x).length ct] 130)) 38 #[.int .i64 0, .int .i64 0]
     rw [World.size_alloc] at e2
     exact ⟨HP9.out.ext hb10, HL9.out.ext hb10, (Lay.new _ _ _).alloc _, e2, by omega⟩
    have HPR := zF hPR
    have hsz9 : (w9.alloc (.cells #[.slice ap (zBS b x).length cp, .slice at' (zBO b x).length ct] 130)).heap.size = w9.heap.size + 1 := World.size_alloc _ _
    have HSP := zF hsp
    clear hsp hb10 hPR
    unfold zJ at k3
    go_wp2_with fail
    clear k3 v0 v1 q2
    generalize hgv : w9.heap.size = gw at HPR ⊢
    generalize hgs : gw + 1 = gs at HPR ⊢
    generalize (w9.alloc _).alloc _ = w10 at *
    obtain ⟨sp, hsp0, hsp⟩ : ∃ sp : Span, (⟨0, 0⟩ : Span) = sp ∧ sp = zHJ b x m d := ⟨_, rfl, HSP.out.symm⟩
    rw [hsp0] at HPR
    have HSP := zF hsp
    clear hsp hsp0 hgv hgs hsz9
   case' neg =>
    have hh0' : 0 ≤ h.h := by omega
    obtain ⟨kk, hkk⟩ : ∃ kk : Nat, h.h = kk := ⟨h.h.toNat, by omega⟩
    have hkb : kk < b.hs.length := by have := hh4.out.2; omega
    obtain ⟨sp, hsp⟩ : ∃ sp, zGB b x kk = some sp := Option.ne_none_iff_exists'.1 (HTX.out.2.1 kk hkb)
    have HSP : Hid (sp = zHJ b x m d) := by
     unfold Hid zHJ
     rw [HH.out, if_neg hh0, show h.h.toNat = kk by omega, hsp]
     rfl
    have hcnt : zBL b.ms b.rs (zBS b x) (zBO b x) kk b.hs[kk].lo (b.hs[kk].hi - b.hs[kk].lo + 1).toNat = some sp := by rw [← countsV_at hkb, zOO HV.out, hsp]
    have hcallC : Hid (∀ W, Below wa.heap.size wa W → Calls prog 62 #[.agg #[vr, vn, .int .i64 b.of, vm, vh, vz], .agg #[.slice ap (zBS b x).length cp, .slice at' (zBO b x).length ct], .int .i64 (2 ^ b.rs.length - 1), .int .i64 h.h] W fun e w' => e = .returned (.tuple #[.agg #[.int .i64 sp.lo, .int .i64 sp.hi], .bool true]) ∧ Below W.heap.size W w') := fun W hb => by
     have := counts08 W vr vn vm vh vz (.slice ap (zBS b x).length cp) (.slice at' (zBO b x).length ct) b.of b.ms b.hs b.rs (zBS b x) (zBO b x) (HB.out.ext hb).ms (HB.out.ext hb).hs (HB.out.ext hb).rs (HVA.out.ext hb) (view_ok HV.out x) hr10 kk hkb (zDP HV.out hkb)
     rw [hcnt, ← hkk] at this
     exact this
    have hb10 : Below w9.heap.size w9 ((w9.alloc (.cells #[.slice ap (zBS b x).length cp, .slice at' (zBO b x).length ct] 130)).alloc (.cells #[.int .i64 0, .int .i64 0] 38)) := zA (zB _ _) (zB _ _)
    have k3 := zC (zA HP9.out.below hb10) HBOX.out.c3
    have hPR : PRound wa ((w9.alloc (.cells #[.slice ap (zBS b x).length cp, .slice at' (zBO b x).length ct] 130)).alloc (.cells #[.int .i64 0, .int .i64 0] 38)) (w.heap.size + 1 + 1) gb w9.heap.size (w9.heap.size + 1) (pTo b A m d l k) ⟨0, 0⟩ h (.slice ap (zBS b x).length cp) (.slice at' (zBO b x).length ct) := by
     have e2 := Lay.new (w9.alloc (.cells #[.slice ap (zBS b x).length cp, .slice at' (zBO b x).length ct] 130)) 38 #[.int .i64 0, .int .i64 0]
     rw [World.size_alloc] at e2
     exact ⟨HP9.out.ext hb10, HL9.out.ext hb10, (Lay.new _ _ _).alloc _, e2, by omega⟩
    have HPR := zF hPR
    have hsz9 : (w9.alloc (.cells #[.slice ap (zBS b x).length cp, .slice at' (zBO b x).length ct] 130)).heap.size = w9.heap.size + 1 := World.size_alloc _ _
    clear hsp hb10 hPR hcnt hkk hkb
    go_wp2
    clear k3 v0 v1 q2
    generalize hgv : w9.heap.size = gw at HPR ⊢
    generalize hgs : gw + 1 = gs at HPR ⊢
    generalize (w9.alloc _).alloc _ = w10 at *
    clear hgv hgs hsz9
    have k0 := zG (zC HPR.out.loop.below HBOX.out.c0)
    have k1 := zG (zC HPR.out.loop.below HBOX.out.c1)
    have k2 := zG (zC HPR.out.loop.below HBOX.out.c2)
    have k3 := zG (zC HPR.out.loop.below HBOX.out.c3)
    have k4 := zG (zC HPR.out.loop.below HBOX.out.c4)
    have k5 := zG (zC HPR.out.loop.below HBOX.out.c5)
    have h2 := zG (show zJ w10 gb 2 _ from HPR.out.has.cell 2 _ rfl)
    have v0 := zG (show zJ w10 gw 0 _ from HPR.out.view.cell 0 _ rfl)
    have v1 := zG (show zJ w10 gw 1 _ from HPR.out.view.cell 1 _ rfl)
    refine zGC 10 9 (by kernel_rfl) (by kernel_rfl) rfl rfl (fun v => v = .bool true) ?_
    simp only [tk_]
    iterate 3 (apply gx_; focus (intro vs xq hd; (try simp [hq_] at hd); simp only [pf_]; go_simp; exact ⟨br_, rfl⟩))
    refine zAE ?_
    apply Exists.intro
    refine ⟨fun vs xq hd => ?_, ?_⟩
    ·(try simp [hq_] at hd)
     simp only [pf_]
     go_simp
     refine (every08 (w10.later xq) vr vn vm vh vz b.of b.rs (HB.out.ext (zA HPR.out.loop.below (zE w10 xq))).rs (by omega)).mono ?_
     rintro e w9 ⟨rfl, hb9⟩
     exact ⟨rfl, hb9⟩
    iterate 2 (apply gx_; focus (intro vs xq hd; (try simp [hq_] at hd); simp only [pf_]; go_simp; exact ⟨br_, rfl⟩))
    refine zAE ?_
    apply Exists.intro
    refine ⟨fun vs xq hd => ?_, ?_⟩
    ·(try simp [hq_] at hd)
     simp only [pf_]
     go_simp
     refine (hcallC.out (w10.later xq) (zA HPR.out.loop.below (zE w10 xq))).mono ?_
     rintro e w9 ⟨rfl, hb9⟩
     exact ⟨rfl, hb9⟩
    iterate 3 (apply gx_; focus (intro vs xq hd; (try simp [hq_] at hd); simp only [pf_]; go_simp; exact ⟨br_, rfl⟩))
    refine ⟨fun v w h => h, fun vs w8 w9 hd => ?_, fun vs w8 hb8 hf => ?_⟩
    ·simp [Oper.waitsOn, Region.binds, List.filter_cons, List.filter_nil, zAD] at hd
     refine ⟨.bool true, ?_, rfl⟩
     simp only [pf_]
     rw [hd]
     go_simp
    have h8 := hf 8 (by decide) (by decide)
    simp [zAD] at h8
    clear hf k0 k1 k2 k3 k4 k5 h2 v0 v1 hcallC
    have HPR := zF (HPR.out.ext hb8)
    have q0 := HPR.out.span.cell 0 _ rfl
    have q1 := HPR.out.span.cell 1 _ rfl
    have f0 := HPR.out.span.frozen 0
    have f1 := HPR.out.span.frozen 1
    have ql := HPR.out.span.lt
    simp only [pf_]
    rw [h8]
    go_simp
    (try simp only [List.drop_succ_cons, List.drop_zero])
    have HPR := zF (HPR.out.putS sp)
    clear q0 q1 f0 f1 ql h8 hb8
    generalize (w8.setCell _ _).setCell _ _ = w88 at *
    generalize vs 0 = y0 at *
    generalize vs 1 = y1 at *
    generalize vs 2 = y2 at *
    generalize vs 3 = y3 at *
    generalize vs 4 = y4 at *
    generalize vs 5 = y5 at *
    generalize vs 6 = y6 at *
    generalize vs 7 = y7 at *
    have k3 := zC HPR.out.loop.below HBOX.out.c3
    unfold zJ at k3
    go_wp2_with fail
    clear k3
   all_goals
    have hn : Hid (∀ n, heldN b x m d l n = zDL h l (oldV (zBO b x) h.h (b.ms.idxOf m) n)) := fun n => by unfold heldN; rw [HH.out]
    have hbd : Hid ((∀ n, I64 (h.c - oldV (zBO b x) h.h (b.ms.idxOf m) n)) ∧ I64 (h.l - 1)) := by
     have h1 := fun n => oldS_bd HV.out (S := x) HM.out d n
     have h2 := zGZ HV.out x m d
     have h3 := zFG (zW HV.out).1 x m HD.out
     have h4 : (zAB b x m d).l = zQ x m b.ns.notes d := rfl
     rw [HH.out] at h2 h4
     rw [← h4] at h3
     refine ⟨fun n => ?_, by unfold I64; omega⟩
     have := h1 n
     rw [HH.out] at this
     unfold I64
     omega
    have hidx : b.ms.idxOf m < b.ms.length := List.idxOf_lt_length_of_mem HM.out
    have hhl : h.h < (zBO b x).length := by
     have := hh4.out.2
     unfold zBO
     rw [List.length_map, List.length_range]
     exact this
    have HN := zF (And.intro hidx hhl)
    have hsb : Hid ((0 ≤ sp.lo ∧ sp.lo ≤ 200) ∧ (0 ≤ sp.hi ∧ sp.hi ≤ 200)) := by
     have h1 := HSB.out
     rw [← HSP.out] at h1
     exact h1
    have hrow := zF (view_ok HV.out x).row
    have hcallO := zF (fun W (hb : Below wa.heap.size wa W) n hn => old08_v W (.slice ap (zBS b x).length cp) (.slice at' (zBO b x).length ct) (zBO b x) b.ms.length h.h (b.ms.idxOf m) n (HVA.out.ext hb).takes hrow.out hhl hidx hn)
    have hcallE := zF (fun W n => held08 W h l (oldV (zBO b x) h.h (b.ms.idxOf m) n) (hbd.out.1 n) hbd.out.2)
    clear hidx hhl hrow
    refine (zOG _ _ b.ms m (HB.out.ext HPR.out.loop.below).ms HM.out).mono ?_
    rintro e w11 ⟨rfl, hb11⟩
    have HPR := zF (HPR.out.ext hb11)
    clear hb11 HP9 HL9 hgl hh4
    generalize b.ms.idxOf m = ix at *
    go_wp2
    have o0 := zG (show zJ w11 (w.heap.size + 1 + 1 + 1) 0 _ from HPR.out.loop.out.cell 0 _ rfl)
    have o1 := zG (show zJ w11 (w.heap.size + 1 + 1 + 1) 1 _ from HPR.out.loop.out.cell 1 _ rfl)
    have h0 := zG (show zJ w11 gb 0 _ from HPR.out.has.cell 0 _ rfl)
    have h1 := zG (show zJ w11 gb 1 _ from HPR.out.has.cell 1 _ rfl)
    have h2 := zG (show zJ w11 gb 2 _ from HPR.out.has.cell 2 _ rfl)
    have v0 := zG (show zJ w11 gw 0 _ from HPR.out.view.cell 0 _ rfl)
    have v1 := zG (show zJ w11 gw 1 _ from HPR.out.view.cell 1 _ rfl)
    have s0 := zG (show zJ w11 gs 0 _ from HPR.out.span.cell 0 _ rfl)
    have s1 := zG (show zJ w11 gs 1 _ from HPR.out.span.cell 1 _ rfl)
    have r1 := zG (zC HPR.out.loop.below (show zJ wa (w.heap.size + 1) 1 _ from HREF.out.cell 1 _ rfl))
    refine zK 15 (by kernel_rfl) (by kernel_rfl) ?_
    simp only [tk_]
    iterate 12 (apply gx_; focus (intro vs xq hd; (try simp [hq_] at hd); simp only [pf_]; go_simp; exact ⟨br_, rfl⟩))
    refine zAE ?_
    apply Exists.intro
    refine ⟨fun vs xq hd => ?_, ?_⟩
    ·(try simp [hq_] at hd)
     simp only [pf_]
     go_simp
     refine (hcallO.out (w11.later xq) (zA HPR.out.loop.below (zE w11 xq)) sp.lo hsb.out.1).mono ?_
     rintro e w9 ⟨rfl, hb9⟩
     exact ⟨rfl, hb9⟩
    refine zAE ?_
    apply Exists.intro
    refine ⟨fun vs xq hd => ?_, ?_⟩
    ·(try simp [hq_] at hd)
     simp only [pf_]
     go_simp
     refine (hcallE.out (w11.later xq) sp.lo).mono ?_
     rintro e w9 ⟨rfl, hb9⟩
     exact ⟨rfl, hb9⟩
    refine zAE ?_
    apply Exists.intro
    refine ⟨fun vs xq hd => ?_, ?_⟩
    ·(try simp [hq_] at hd)
     simp only [pf_]
     go_simp
     refine (wider08 (w11.later xq) (pTo b A m d l k) _ _).mono ?_
     rintro e w9 ⟨rfl, hb9⟩
     exact ⟨rfl, hb9⟩
    refine zT rfl (fun vs xq hd => ?_)
    simp [zV, zAD, List.range, List.range.loop] at hd
    simp only [pf_]
    obtain ⟨e0, e1, e2, e3, e4, e5, e6, e7, e8, e9, e10, e11, e12, e13, e14⟩ := hd
    simp only [Nat.zero_add, Nat.reduceAdd] at e0 e1 e2 e3 e4 e5 e6 e7 e8 e9 e10 e11 e12 e13 e14 ⊢
    simp only [e0, e1, e2, e3, e4, e5, e6, e7, e8, e9, e10, e11, e12, e13, e14]
    have HPR := zF (HPR.out.ext (zE w11 xq))
    clear e0 e1 e2 e3 e4 e5 e6 e7 e8 e9 e10 e11 e12 e13 e14 o0 o1 h0 h1 h2 v0 v1 s0 s1 r1
    generalize w11.later xq = w12 at *
    obtain ⟨c, hc⟩ : ∃ q9 : Span, q9 = zFR (pTo b A m d l k) (decide (0 < k)) (zDL h l (oldV (zBO b x) h.h ix sp.lo)) := ⟨_, rfl⟩
    rw [← hc]
    have Hc := zF hc
    have q0 := HPR.out.loop.out.cell 0 _ rfl
    have q1 := HPR.out.loop.out.cell 1 _ rfl
    have f0 := HPR.out.loop.out.frozen 0
    have f1 := HPR.out.loop.out.frozen 1
    have ql := HPR.out.loop.out.lt
    have HPR := zF (HPR.out.put c)
    clear hc
    go_step
    go_simp
    generalize (w12.setCell _ _).setCell _ _ = w13 at *
    clear q0 q1 f0 f1 ql
    generalize hw13 : w13 = w11 at *
    clear hw13
    go_wp2
    have o0 := zG (show zJ w11 (w.heap.size + 1 + 1 + 1) 0 _ from HPR.out.loop.out.cell 0 _ rfl)
    have o1 := zG (show zJ w11 (w.heap.size + 1 + 1 + 1) 1 _ from HPR.out.loop.out.cell 1 _ rfl)
    have h0 := zG (show zJ w11 gb 0 _ from HPR.out.has.cell 0 _ rfl)
    have h1 := zG (show zJ w11 gb 1 _ from HPR.out.has.cell 1 _ rfl)
    have h2 := zG (show zJ w11 gb 2 _ from HPR.out.has.cell 2 _ rfl)
    have v0 := zG (show zJ w11 gw 0 _ from HPR.out.view.cell 0 _ rfl)
    have v1 := zG (show zJ w11 gw 1 _ from HPR.out.view.cell 1 _ rfl)
    have s0 := zG (show zJ w11 gs 0 _ from HPR.out.span.cell 0 _ rfl)
    have s1 := zG (show zJ w11 gs 1 _ from HPR.out.span.cell 1 _ rfl)
    have r1 := zG (zC HPR.out.loop.below (show zJ wa (w.heap.size + 1) 1 _ from HREF.out.cell 1 _ rfl))
    refine zK 13 (by kernel_rfl) (by kernel_rfl) ?_
    simp only [tk_]
    iterate 10 (apply gx_; focus (intro vs xq hd; (try simp [hq_] at hd); simp only [pf_]; go_simp; exact ⟨br_, rfl⟩))
    refine zAE ?_
    apply Exists.intro
    refine ⟨fun vs xq hd => ?_, ?_⟩
    ·(try simp [hq_] at hd)
     simp only [pf_]
     go_simp
     refine (hcallO.out (w11.later xq) (zA HPR.out.loop.below (zE w11 xq)) sp.hi hsb.out.2).mono ?_
     rintro e w9 ⟨rfl, hb9⟩
     exact ⟨rfl, hb9⟩
    refine zAE ?_
    apply Exists.intro
    refine ⟨fun vs xq hd => ?_, ?_⟩
    ·(try simp [hq_] at hd)
     simp only [pf_]
     go_simp
     refine (hcallE.out (w11.later xq) sp.hi).mono ?_
     rintro e w9 ⟨rfl, hb9⟩
     exact ⟨rfl, hb9⟩
    refine zAE ?_
    apply Exists.intro
    refine ⟨fun vs xq hd => ?_, ?_⟩
    ·(try simp [hq_] at hd)
     simp only [pf_]
     go_simp
     refine (wider08 (w11.later xq) c _ _).mono ?_
     rintro e w9 ⟨rfl, hb9⟩
     exact ⟨rfl, hb9⟩
    refine zT rfl (fun vs xq hd => ?_)
    simp [zV, zAD, List.range, List.range.loop] at hd
    simp only [pf_]
    obtain ⟨e0, e1, e2, e3, e4, e5, e6, e7, e8, e9, e10, e11, e12⟩ := hd
    simp only [Nat.zero_add, Nat.reduceAdd] at e0 e1 e2 e3 e4 e5 e6 e7 e8 e9 e10 e11 e12 ⊢
    simp only [e0, e1, e2, e3, e4, e5, e6, e7, e8, e9, e10, e11, e12]
    have HPR := zF (HPR.out.ext (zE w11 xq))
    clear e0 e1 e2 e3 e4 e5 e6 e7 e8 e9 e10 e11 e12 o0 o1 h0 h1 h2 v0 v1 s0 s1 r1
    generalize w11.later xq = w12 at *
    obtain ⟨c2, hc2⟩ : ∃ q9 : Span, q9 = zFR c true (zDL h l (oldV (zBO b x) h.h ix sp.hi)) := ⟨_, rfl⟩
    rw [← hc2]
    have Hc2 := zF hc2
    have q0 := HPR.out.loop.out.cell 0 _ rfl
    have q1 := HPR.out.loop.out.cell 1 _ rfl
    have f0 := HPR.out.loop.out.frozen 0
    have f1 := HPR.out.loop.out.frozen 1
    have ql := HPR.out.loop.out.lt
    have HPR := zF (HPR.out.put c2)
    clear hc2
    go_step
    go_simp
    generalize (w12.setCell _ _).setCell _ _ = w13 at *
    clear q0 q1 f0 f1 ql
    go_wp2
    go_roundw
    case rel =>
     refine ⟨k + 1, by go_num, by omega, zF ?_⟩
     have h9 := HPR.out.loop
     rw [Hc2.out, Hc.out, ← hn.out, ← hn.out, HSP.out] at h9
     rw [hsucc.out]
     exact h9
    case measure => simp [intOf]; omega
end Go.Proofs.YtpolpdegpbahiaaGreatDoor
