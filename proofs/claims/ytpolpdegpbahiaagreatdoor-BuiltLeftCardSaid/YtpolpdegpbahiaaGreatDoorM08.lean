/- As Grow, where one operation among them writes into memory that is there: it keeps the facts that are asked of it. -/
import Derived.Test.YtpolpdegpbahiaaGreatDoorM02
import Derived.Test.YtpolpdegpbahiaaGreatDoorM03
import Derived.Test.YtpolpdegpbahiaaGreatDoorM06
import Derived.Test.YtpolpdegpbahiaaGreatDoorM07
set_option linter.all false
set_option maxRecDepth 100000
set_option maxHeartbeats 12800000

namespace Go.Proofs.YtpolpdegpbahiaaGreatDoor
open Tryz
section
open Go.RowKit
def Tiny (b : Built) : Prop := (Small b.ns.reg ∧ b.ns.notes.length ≤ 16) ∧ b.ms.length ≤ 20 ∧ b.hs.length ≤ 8 ∧ b.rs.length ≤ 16
theorem great02 (w : World) (v : Value) (R : List Issue) (h : Sl zAU 5 w v R) :
  Calls prog 88 #[.agg #[v]] w (zAK (¬ Small R) w) := by
 obtain ⟨hb1, B1⟩ := zAZ w #[v] 24
 have c0 := B1 0 v rfl
 clear B1
 obtain ⟨a, cap, rfl, hm⟩ := zD h
 have h1 := zI zP hb1 h
 have C0 := zF c0
 unfold zJ at c0
 clear h
 by_cases hlen : 80 < R.length
 ·go_enter func88, ntmps88
  go_wp2
  go_ret
  exact zAK.t (fun h => by have := h.1; omega) hb1
 go_enter func88, ntmps88
 go_wp2
 generalize w.alloc _ = w1 at *
 go_loop [3] (fun i => ∃ k : Nat, i = .int .i64 k ∧ k ≤ R.length ∧ ∀ j, j < k → (hj : j < R.length) → R[j].items.length ≤ 16 ∧ R[j].dims.length ≤ 8) (fun i => R.length - (intOf i).toNat)
 case atStart => exact ⟨0, rfl, by omega, fun j hj => absurd hj (by omega)⟩
 case round =>
  obtain ⟨k, rfl, hk, hall⟩ := hrel
  have HALL := zF hall
  clear hall
  by_cases hlt : k < R.length
  ·obtain ⟨b, off, rfl, ⟨q0, q1, q2⟩, hnum, vi, vd, q3, q4, si, sd⟩ := (zZ h1).2 k hlt
   have HY : Hid (R[k] = R[k]) := rfl
   generalize hy : R[k] = x at *
   have HX := zF hy
   clear hy HY h1 q0 q1 q2
   unfold zJ at q3 q4
   obtain ⟨ai, capi, rfl, _⟩ := zD si
   obtain ⟨ad, capd, rfl, _⟩ := zD sd
   clear si sd
   by_cases g1 : 16 < x.items.length
   ·go_wp2
    go_ret
    exact zAK.t (fun h => by have := (h.2 k hlt).1; rw [HX.out] at this; omega) hb1
   ·by_cases g2 : 8 < x.dims.length
    ·go_wp2
     go_ret
     exact zAK.t (fun h => by have := (h.2 k hlt).2; rw [HX.out] at this; omega) hb1
    ·go_wp2
     go_round
     ·exact ⟨k + 1, by go_num, by omega, zAO _ k HALL.out (fun _ => by rw [HX.out]; omega)⟩
     ·simp [intOf]; omega
  ·go_wp2
   go_ret
   exact zAK.f (fun h => h ⟨by omega, fun k hk => HALL.out k (by omega) hk⟩) hb1
theorem great03 (w : World) (vr vn : Value) (R : List Issue) (N : List Note) (hr : Sl zAU 5 w vr R) (hn : Sl zBM 10 w vn N) :
  Calls prog 33 #[.agg #[vr, vn]] w (zAK (¬ (Small R ∧ N.length ≤ 16)) w) := by
 obtain ⟨hb1, B1⟩ := zAZ w #[vr, vn] 27
 have c0 := B1 0 vr rfl
 have c1 := B1 1 vn rfl
 clear B1
 obtain ⟨a, cap, rfl, _⟩ := zD hr
 obtain ⟨an, capn, rfl, _⟩ := zD hn
 have h1 := zI zP hb1 hr
 have C1 := zF c1
 unfold zJ at c0 c1
 clear hr
 go_enter func33, ntmps33
 go_wp2_with fail
 generalize w.alloc _ = w1 at *
 refine (great02 _ _ R h1).mono ?_
 intro e w2 h
 rcases h.both with ⟨g1, rfl, hb2⟩ | ⟨g1, rfl, hb2⟩
 ·clear h
  go_wp2
  go_ret
  exact zAK.t (fun h => g1 h.1) (zA hb1 hb2)
 ·clear h c0 c1
  have c1 := zC hb2 C1.out
  unfold zJ at c1
  have hS : Small R := Classical.byContradiction g1
  clear g1
  have HS := zF hS
  clear hS
  go_wp2
  go_ret
  refine ⟨_, rfl, ?_, zA hb1 hb2⟩
  have hS := HS.out
  rw [decide_eq_true_eq]
  constructor
  ·intro h1 h2; omega
  ·intro h1
   by_cases g2 : 16 < N.length
   ·omega
   ·exact (h1 ⟨hS, by omega⟩).elim
theorem great08 (w : World) (vr vn vm vh vs : Value) (b : Built) (h : BuiltAt w vr vn vm vh vs b) :
  Calls prog 6 #[.agg #[vr, vn, .int .i64 b.of, vm, vh, vs]] w (zAK (¬ Tiny b) w) := by
 obtain ⟨ar, capr, rfl, _⟩ := zD h.reg
 obtain ⟨an, capn, rfl, _⟩ := zD h.notes
 obtain ⟨am, capm, rfl, hmm⟩ := zD h.ms
 obtain ⟨ah, caph, rfl, hmh⟩ := zD h.hs
 obtain ⟨az, capz, rfl, hmz⟩ := zD h.rs
 obtain ⟨hb1, B1⟩ := zAZ w #[.slice ar b.ns.reg.length capr, .slice an b.ns.notes.length capn, .int .i64 b.of, .slice am b.ms.length capm, .slice ah b.hs.length caph, .slice az b.rs.length capz] 32
 have c0 := B1 0 _ rfl
 have c1 := B1 1 _ rfl
 have c3 := B1 3 (.slice am b.ms.length capm) rfl
 have c4 := B1 4 (.slice ah b.hs.length caph) rfl
 have c5 := B1 5 (.slice az b.rs.length capz) rfl
 clear B1
 have h1 := h.ext hb1
 clear h
 have C3 := zF c3
 have C4 := zF c4
 have C5 := zF c5
 unfold zJ at c0 c1 c3 c4 c5
 go_enter func6, ntmps6
 go_wp2_with fail
 generalize w.alloc _ = w1 at *
 refine (great03 _ _ _ b.ns.reg b.ns.notes h1.reg h1.notes).mono ?_
 intro e w2 h
 clear c0 c1 c3 c4 c5
 rcases h.both with ⟨g1, rfl, hb2⟩ | ⟨g1, rfl, hb2⟩
 ·clear h
  go_wp2
  go_ret
  exact zAK.t (fun h => g1 h.1) (zA hb1 hb2)
 clear h
 have hS := zF (Classical.byContradiction g1)
 have c3 := zC hb2 C3.out
 have c4 := zC hb2 C4.out
 have c5 := zC hb2 C5.out
 clear g1 h1
 unfold zJ at c3 c4 c5
 by_cases g2 : 20 < b.ms.length
 ·go_wp2
  go_ret
  exact ⟨_, rfl, ⟨fun _ h => by have := h.2.1; omega, fun _ => by simp; try omega⟩, zA hb1 hb2⟩
 by_cases g3 : 8 < b.hs.length
 ·go_wp2
  go_ret
  exact ⟨_, rfl, ⟨fun _ h => by have := h.2.2.1; omega, fun _ => by simp; try omega⟩, zA hb1 hb2⟩
 by_cases g4 : 16 < b.rs.length
 ·go_wp2
  go_ret
  exact ⟨_, rfl, ⟨fun _ h => by have := h.2.2.2; omega, fun _ => by simp; try omega⟩, zA hb1 hb2⟩
 go_wp2
 go_ret
 exact ⟨_, rfl, ⟨fun h => by simp at h; try omega, fun h => (h ⟨hS.out, by omega, by omega, by omega⟩).elim⟩, zA hb1 hb2⟩
open Classical in
noncomputable def zM (b : Built) : Int := if zX b.ns.reg b.ns.notes ≠ 0 then zX b.ns.reg b.ns.notes else if zIL b then 0 else 80
theorem check08 (w : World) (vr vn vm vh vs : Value) (b : Built) (h : BuiltAt w vr vn vm vh vs b) :
  Calls prog 21 #[.agg #[vr, vn, .int .i64 b.of, vm, vh, vs]] w fun e w' => e = .returned (.int .i64 (zM b)) ∧ Below w.heap.size w w' := by
 obtain ⟨ar, capr, rfl, _⟩ := zD h.reg
 obtain ⟨an, capn, rfl, _⟩ := zD h.notes
 obtain ⟨am, capm, rfl, hmm⟩ := zD h.ms
 obtain ⟨ah, caph, rfl, hmh⟩ := zD h.hs
 obtain ⟨az, capz, rfl, hmz⟩ := zD h.rs
 obtain ⟨hb1, B1⟩ := zAZ w #[.slice ar b.ns.reg.length capr, .slice an b.ns.notes.length capn, .int .i64 b.of, .slice am b.ms.length capm, .slice ah b.hs.length caph, .slice az b.rs.length capz] 32
 have c0 := B1 0 (.slice ar b.ns.reg.length capr) rfl
 have c1 := B1 1 (.slice an b.ns.notes.length capn) rfl
 have c2 := B1 2 (.int .i64 b.of) rfl
 have c3 := B1 3 (.slice am b.ms.length capm) rfl
 have c4 := B1 4 (.slice ah b.hs.length caph) rfl
 have c5 := B1 5 (.slice az b.rs.length capz) rfl
 clear B1
 have h1 := h.ext hb1
 clear h
 have C := zF (And.intro c0 (And.intro c1 (And.intro c2 (And.intro c3 (And.intro c4 c5)))))
 unfold zJ at c0 c1 c2 c3 c4 c5
 go_enter func21, ntmps21
 go_wp2_with fail
 generalize w.alloc _ = w1 at *
 refine (check03 _ _ _ b.ns.reg b.ns.notes h1.reg h1.notes).mono ?_
 rintro e w2 ⟨rfl, hb2⟩
 clear c0 c1 c2 c3 c4 c5
 obtain ⟨c0, c1, c2, c3, c4, c5⟩ := C.out
 replace c0 := zC hb2 c0
 replace c1 := zC hb2 c1
 replace c2 := zC hb2 c2
 replace c3 := zC hb2 c3
 replace c4 := zC hb2 c4
 replace c5 := zC hb2 c5
 clear C
 have h2 := h1.ext hb2
 clear h1
 unfold zJ at c0 c1 c2 c3 c4 c5
 have HC : Hid (zM b = _) := (rfl : zM b = zM b)
 generalize hc : zX b.ns.reg b.ns.notes = c at *
 have HN := zF hc
 clear hc
 by_cases g1 : (c != 0) = true
 ·go_wp2
  go_ret
  refine ⟨zBT ?_, zA hb1 hb2⟩
  unfold zM
  rw [HN.out, if_pos (by simpa using g1)]
 ·have g1' : (c != 0) = false := by simpa using g1
  clear g1
  go_wp2_with fail
  refine (built08 _ _ _ _ _ _ b h2).mono ?_
  intro e w3 h
  clear c0 c1 c2 c3 c4 c5
  rcases h.both with ⟨k1, rfl, hb3⟩ | ⟨k1, rfl, hb3⟩
  ·clear h
   go_wp2
   go_ret
   refine ⟨zBT ?_, zA hb1 (zA hb2 hb3)⟩
   unfold zM
   rw [HN.out, if_neg (by simpa using g1'), if_pos k1]
  ·clear h
   go_wp2
   go_ret
   refine ⟨zBT ?_, zA hb1 (zA hb2 hb3)⟩
   unfold zM
   rw [HN.out, if_neg (by simpa using g1'), if_neg k1]
end
section
open Go.RowKit
attribute [local go_sem] zAN Oper.grows Oper.growUpon
structure BuiltN (base : Nat) (w : World) (vr vn vm vh vs : Value) (b : Built) : Prop where
 reg : Sl (Fr base 107 (zED base)) 5 w vr b.ns.reg
 notes : Sl (Fr base 147 zBM) 10 w vn b.ns.notes
 ms : Sl (Fr base 3 zAJ) 1 w vm b.ms
 hs : Sl (Fr base 114 zHA) 4 w vh b.hs
 rs : Sl (Fr base 116 zDD) 5 w vs b.rs
 of : I64 b.of
theorem BuiltN.ext {base : Nat} {w w' : World} {vr vn vm vh vs : Value} {b : Built} (hb : Below w.heap.size w w') (h : BuiltN base w vr vn vm vh vs b) : BuiltN base w' vr vn vm vh vs b :=
 ⟨zI (zBU zGY) hb h.reg, zI (zBU zS) hb h.notes, zI (zBU zN) hb h.ms, zI (zBU zCL) hb h.hs, zI (zBU zAV) hb h.rs, h.of⟩
theorem BuiltN.at {base : Nat} {w : World} {vr vn vm vh vs : Value} {b : Built} (h : BuiltN base w vr vn vm vh vs b) : BuiltAt w vr vn vm vh vs b :=
 ⟨sl_map (fun _ _ _ h => issueN_issue h.1) h.reg, zOJ h.notes, zOJ h.ms, zOJ h.hs, zOJ h.rs, h.of⟩
theorem BuiltN.set {base g j : Nat} {u : Value} {w : World} {vr vn vm vh vs : Value} {b : Built} (hg : g < base) (h : BuiltN base w vr vn vm vh vs b) : BuiltN base (w.setCell ⟨g, j, none⟩ u) vr vn vm vh vs b :=
 ⟨zFW (zCM hg) (zCM hg) (zCM hg) h.reg, zKZ zHQ hg h.notes, zKZ local_int hg h.ms, zKZ local_heap hg h.hs, zKZ local_report hg h.rs, h.of⟩
theorem BuiltN.weak {base base' : Nat} {w : World} {vr vn vm vh vs : Value} {b : Built} (hw : base' ≤ base) (h : BuiltN base w vr vn vm vh vs b) : BuiltN base' w vr vn vm vh vs b :=
 ⟨zLM hw h.reg, zEF hw h.notes, zEF hw h.ms, zEF hw h.hs, zEF hw h.rs, h.of⟩
def NilRow (e : TypeId) (sz base : Nat) (v : Value) (w : World) : Prop := NilSl v ∧ w.ownsRow base e sz v 0 []
theorem nilRow_stays (e : TypeId) (sz base : Nat) : zCX (NilRow e sz base) := fun _ _ _ hb h => ⟨h.1, zAA hb h.2⟩
theorem nilRow_new (e : TypeId) (sz base : Nat) (w : World) (h : base ≤ w.heap.size) : NilRow e sz base (.slice (some ⟨w.heap.size, 0, none⟩) 0 0) (w.alloc (.cells #[] e)) :=
 ⟨⟨_, rfl⟩, World.ownsRow_made w #[] 0 h (Nat.zero_le _) (by simp)⟩
theorem twin08 (w : World) (vr vn vm vh vs : Value) (b : Built) (h : BuiltAt w vr vn vm vh vs b) (hT : Tiny b) :
  Calls prog 7 #[.agg #[vr, vn, .int .i64 b.of, vm, vh, vs]] w fun e w' => ∃ ur un um uh us, e = .returned (.agg #[ur, un, .int .i64 b.of, um, uh, us]) ∧
   BuiltN w.heap.size w' ur un um uh us b ∧ ((∃ cs, w'.ownsRow w.heap.size 116 5 us b.rs.length cs) ∧ ∃ g cap, us = .slice (some ⟨g, 0, none⟩) b.rs.length cap) ∧ Below w.heap.size w w' ∧ Capd ur b.ns.reg.length ∧ Capd un b.ns.notes.length ∧ Capd uh b.hs.length := by
 obtain ⟨i0, hi0, hx0, hx1, hx2⟩ := info_parts zDM
 obtain ⟨i1, hi1, hy0, hy1, hy2⟩ := info_parts infoHeap
 obtain ⟨i2, hi2, hz0, hz1, hz2⟩ := info_parts infoReport
 obtain ⟨⟨hS, hN⟩, hM, hH, hR⟩ := hT
 have HS := zF hS
 clear hS
 obtain ⟨ar, capr, rfl, _⟩ := zD h.reg
 obtain ⟨an, capn, rfl, _⟩ := zD h.notes
 obtain ⟨am, capm, rfl, hmm⟩ := zD h.ms
 obtain ⟨ah, caph, rfl, hmh⟩ := zD h.hs
 obtain ⟨az, capz, rfl, hmz⟩ := zD h.rs
 obtain ⟨hb1, B1, B2⟩ := zDY w #[.slice ar b.ns.reg.length capr, .slice an b.ns.notes.length capn, .int .i64 b.of, .slice am b.ms.length capm, .slice ah b.hs.length caph, .slice az b.rs.length capz] #[.slice none 0 0, .slice none 0 0, .int .i64 0, .slice none 0 0, .slice none 0 0, .slice none 0 0] 32 32
 have c0 := B1 0 (.slice ar b.ns.reg.length capr) rfl
 have c1 := B1 1 (.slice an b.ns.notes.length capn) rfl
 have c2 := B1 2 (.int .i64 b.of) rfl
 have c3 := B1 3 (.slice am b.ms.length capm) rfl
 have c4 := B1 4 (.slice ah b.hs.length caph) rfl
 have c5 := B1 5 (.slice az b.rs.length capz) rfl
 have r0 := B2 0 (.slice none 0 0) rfl
 have r1 := B2 1 (.slice none 0 0) rfl
 have r2 := B2 2 (.int .i64 0) rfl
 have r3 := B2 3 (.slice none 0 0) rfl
 have r4 := B2 4 (.slice none 0 0) rfl
 have r5 := B2 5 (.slice none 0 0) rfl
 have f1 := zDK (zB _ (.cells #[.slice none 0 0, .slice none 0 0, .int .i64 0, .slice none 0 0, .slice none 0 0, .slice none 0 0] 32)) (zIK w #[.slice ar b.ns.reg.length capr, .slice an b.ns.notes.length capn, .int .i64 b.of, .slice am b.ms.length capm, .slice ah b.hs.length caph, .slice az b.rs.length capz] 32)
 have f2 := zIK (w.alloc (.cells #[.slice ar b.ns.reg.length capr, .slice an b.ns.notes.length capn, .int .i64 b.of, .slice am b.ms.length capm, .slice ah b.hs.length caph, .slice az b.rs.length capz] 32)) #[.slice none 0 0, .slice none 0 0, .int .i64 0, .slice none 0 0, .slice none 0 0, .slice none 0 0] 32
 rw [World.size_alloc] at f2
 have F1 := zF f1
 have F2 := zF f2
 have C2 := zF c2
 have C3 := zF c3
 have C4 := zF c4
 have C5 := zF c5
 clear B1 B2 f1 f2 c2 c3 c4 c5
 have h1 := h.ext hb1
 unfold zJ at c0 c1
 go_enter func7, ntmps7
 go_wp2_with fail
 generalize (w.alloc _).alloc _ = w1 at *
 refine (twin03 _ _ _ b.ns.reg b.ns.notes h1.reg h1.notes HS.out hN).mono ?_
 rintro e w2 ⟨ur, un, rfl, s0, s1, hb2, hcd0, hcd1⟩
 have HCD := zF (And.intro hcd0 hcd1)
 clear hcd0 hcd1
 obtain ⟨a0, cap0, rfl, _⟩ := zD s0
 obtain ⟨a1, cap1, rfl, _⟩ := zD s1
 replace h1 := h1.ext hb2
 have hz9 : w.heap.size + 1 < w1.heap.size := F2.out.1
 replace F1 := zF (zDK hb2 F1.out)
 replace F2 := zF (zDK hb2 F2.out)
 replace C2 := zF (zC hb2 C2.out)
 replace C3 := zF (zC hb2 C3.out)
 replace C4 := zF (zC hb2 C4.out)
 replace C5 := zF (zC hb2 C5.out)
 replace c0 := zC hb2 c0
 replace c1 := zC hb2 c1
 replace r0 := zC hb2 r0
 replace r1 := zC hb2 r1
 replace r2 := zC hb2 r2
 replace r3 := zC hb2 r3
 replace r4 := zC hb2 r4
 replace r5 := zC hb2 r5
 have S0 := zF s0
 have S1 := zF s1
 have R0 := zF (And.intro r0 (And.intro r1 (And.intro r2 (And.intro r3 (And.intro r4 r5)))))
 have hbb := zA hb1 hb2
 have hzz := hb2.size
 clear s0 s1 hb2 hb1 r0 r1 r2 r3 r4 r5
 generalize w1.heap.size = z1 at *
 have p0 := F1.out.2 0
 have p1 := F1.out.2 1
 have c0x := c0
 unfold zJ at c0 c1
 go_wp2
 have hg0 : w.heap.size < z1 := by omega
 have hb4 : Below w.heap.size w ((w2.setCell ⟨w.heap.size, 0, none⟩ (.slice a0 b.ns.reg.length cap0)).setCell ⟨w.heap.size, 1, none⟩ (.slice a1 b.ns.notes.length cap1)) := zH (Nat.le_refl _) (zH (Nat.le_refl _) hbb)
 have S0 := zF (zFW ((zCM hg0).trans (zCM (w := w2.setCell ⟨w.heap.size, 0, none⟩ (.slice a0 b.ns.reg.length cap0)) (j := 1) (u := .slice a1 b.ns.notes.length cap1) hg0)) ((zCM hg0).trans (zCM hg0)) ((zCM hg0).trans (zCM hg0)) S0.out)
 have S1 := zF (zKZ (j := 1) (u := .slice a1 b.ns.notes.length cap1) zHQ hg0 (zKZ (j := 0) (u := .slice a0 b.ns.reg.length cap0) zHQ hg0 S1.out))
 have F1 := zF (zKC (g := w.heap.size) (j := 1) (u := .slice a1 b.ns.notes.length cap1) (zKC (g := w.heap.size) (j := 0) (u := .slice a0 b.ns.reg.length cap0) F1.out))
 have F2 := zF (zKC (g := w.heap.size) (j := 1) (u := .slice a1 b.ns.notes.length cap1) (zKC (g := w.heap.size) (j := 0) (u := .slice a0 b.ns.reg.length cap0) F2.out))
 have c2 := zBZ (j := 1) (u := .slice a1 b.ns.notes.length cap1) (by decide) (zBZ (j := 0) (u := .slice a0 b.ns.reg.length cap0) (by decide) C2.out)
 have c3 := zBZ (j := 1) (u := .slice a1 b.ns.notes.length cap1) (by decide) (zBZ (j := 0) (u := .slice a0 b.ns.reg.length cap0) (by decide) C3.out)
 have c4 := zBZ (j := 1) (u := .slice a1 b.ns.notes.length cap1) (by decide) (zBZ (j := 0) (u := .slice a0 b.ns.reg.length cap0) (by decide) C4.out)
 have c5 := zBZ (j := 1) (u := .slice a1 b.ns.notes.length cap1) (by decide) (zBZ (j := 0) (u := .slice a0 b.ns.reg.length cap0) (by decide) C5.out)
 have c0' := zBZ (j := 1) (u := .slice a1 b.ns.notes.length cap1) (by decide) (zIM (u := .slice a0 b.ns.reg.length cap0) c0)
 have c1' := zIM (u := .slice a1 b.ns.notes.length cap1) (zBZ (j := 0) (u := .slice a0 b.ns.reg.length cap0) (by decide : 1 ≠ 0) c1)
 have rr : ∀ (j : Nat) (v : Value), zJ w2 (w.heap.size + 1) j v → zJ ((w2.setCell ⟨w.heap.size, 0, none⟩ (.slice a0 b.ns.reg.length cap0)).setCell ⟨w.heap.size, 1, none⟩ (.slice a1 b.ns.notes.length cap1)) (w.heap.size + 1) j v := fun j v hj => zBE (zBE hj (by omega)) (by omega)
 obtain ⟨r0, r1, r2, r3, r4, r5⟩ := R0.out
 have R0 := zF (And.intro (rr _ _ r0) (And.intro (rr _ _ r1) (And.intro (rr _ _ r2) (And.intro (rr _ _ r3) (And.intro (rr _ _ r4) (rr _ _ r5))))))
 have hzz : z1 ≤ ((w2.setCell ⟨w.heap.size, 0, none⟩ (.slice a0 b.ns.reg.length cap0)).setCell ⟨w.heap.size, 1, none⟩ (.slice a1 b.ns.notes.length cap1)).heap.size := by simpa using hzz
 clear rr r0 r1 r2 r3 r4 r5 c0 c1 c0x p0 p1 C2 C3 C4 C5 hbb h1
 generalize (w2.setCell _ _).setCell _ _ = w4 at *
 have C0 := zF (And.intro c0' c1')
 have K2 := zG c3
 have K3 := zG c4
 have K4 := zG c5
 have C2 := zF c2
 clear c0' c1' c2
 refine zK 13 (by kernel_rfl) (by kernel_rfl) ?_
 simp only [tk_]
 refine zL (fun v _ => NilSl v) zLF ?_ ?_
 ·intro vs xq hd
  (try simp [hq_] at hd)
  simp only [pf_]
  go_simp
  exact ⟨zB _ _, _, rfl⟩
 iterate 2 (apply gx_; focus (intro vs xq hd; (try simp [hq_] at hd); simp only [pf_]; go_simp; exact ⟨br_, rfl⟩))
 refine zL (fun v w' => Sl (Fr z1 3 zAJ) 1 w' v b.ms) (fun v w w' hb h => zI (zBU zN) hb h) ?_ ?_
 ·intro vs xq hd
  (try simp [hq_] at hd)
  simp only [pf_]
  exact zFF (by rfl) (zEO (.tmp 7) (.tmp 9) 28 (by rfl) 3 i0 _ 1 8 underlying28 hi0 hx0 hx1 hx2 rfl (by decide) (by decide) copies_int cells_int (vs 0) (.slice am b.ms.length capm) b.ms (by rfl) hd.1 (by exact hd.2) (h.ext (zA hb4 (zE _ _))).ms (Nat.le_trans hM (by decide)) z1 (Nat.le_trans hzz (zE w4 xq).size)) (fun v w' h => h.1)
 refine zL (fun v _ => NilSl v) zLF ?_ ?_
 ·intro vs xq hd
  (try simp [hq_] at hd)
  simp only [pf_]
  go_simp
  exact ⟨zB _ _, _, rfl⟩
 iterate 2 (apply gx_; focus (intro vs xq hd; (try simp [hq_] at hd); simp only [pf_]; go_simp; exact ⟨br_, rfl⟩))
 refine zL (fun v w' => Sl (Fr z1 114 zHA) 4 w' v b.hs ∧ Capd v b.hs.length) (fun v w w' hb h => ⟨zI (zBU zCL) hb h.1, h.2⟩) ?_ ?_
 ·intro vs xq hd
  (try simp [hq_] at hd)
  simp only [pf_]
  exact zFF (by rfl) (zEO (.tmp 11) (.tmp 13) 29 (by rfl) 114 i1 _ 4 32 underlying29 hi1 hy0 hy1 hy2 rfl (by decide) (by decide) copies_heap cells_heap (vs 4) (.slice ah b.hs.length caph) b.hs (by rfl) hd.1 (by exact hd.2.1) (h.ext (zA hb4 (zE _ _))).hs (Nat.le_trans hH (by decide)) z1 (Nat.le_trans hzz (zE w4 xq).size)) (fun v w' h => h)
 refine zL (fun v w' => NilRow 116 5 z1 v w') (nilRow_stays _ _ _) ?_ ?_
 ·intro vs xq hd
  (try simp [hq_] at hd)
  simp only [pf_]
  go_simp
  exact ⟨zB _ _, nilRow_new _ _ _ _ (Nat.le_trans hzz (zE w4 xq).size)⟩
 iterate 2 (apply gx_; focus (intro vs xq hd; (try simp [hq_] at hd); simp only [pf_]; go_simp; exact ⟨br_, rfl⟩))
 refine zL (fun v w' => New zDD 5 116 z1 w' v b.rs ∧ ∃ g cap, v = .slice (some ⟨g, 0, none⟩) b.rs.length cap) (fun v w w' hb h => ⟨h.1.ext zAV hb, h.2⟩) ?_ ?_
 ·intro vs xq hd
  (try simp [hq_] at hd)
  simp only [pf_]
  exact zFF (by rfl) (zPF (.tmp 15) (.tmp 17) 30 (by rfl) 116 i2 _ 5 40 underlying30 hi2 hz0 hz1 hz2 rfl (by decide) (by decide) copies_report cells_report (vs 8) (.slice az b.rs.length capz) b.rs (by rfl) hd.1.1 (by exact hd.2.1) (h.ext (zA hb4 (zE _ _))).rs (Nat.le_trans hR (by decide)) z1 (Nat.le_trans hzz (zE w4 xq).size) hd.1.2) (fun v w' h => h)
 apply gx_; focus (intro vs xq hd; (try simp [hq_] at hd); simp only [pf_]; go_simp; exact ⟨br_, rfl⟩)
 refine zT rfl (fun vs xq hd => ?_)
 simp [zV, zAD, List.range, List.range.loop] at hd
 simp only [pf_]
 obtain ⟨_, _, _, s3, _, _, _, ⟨s7, hcd7⟩, _, _, _, ⟨s11, g11, cap11, e11⟩, e12⟩ := hd
 generalize vs 0 = u0 at *
 generalize vs 1 = u1 at *
 generalize vs 2 = u2 at *
 generalize vs 3 = u3 at *
 generalize vs 4 = u4 at *
 generalize vs 5 = u5 at *
 generalize vs 6 = u6 at *
 generalize vs 7 = u7 at *
 generalize vs 8 = u8 at *
 generalize vs 9 = u9 at *
 generalize vs 10 = u10 at *
 generalize vs 11 = u11 at *
 generalize vs 12 = u12 at *
 subst e12 e11
 obtain ⟨a3, cap3, rfl, _⟩ := zD s3
 obtain ⟨a7, cap7, rfl, _⟩ := zD s7
 have HCD7 := zF hcd7
 clear hcd7
 have hbl := zE w4 xq
 have S : Hid (BuiltN z1 (w4.later xq) (.slice a0 b.ns.reg.length cap0) (.slice a1 b.ns.notes.length cap1) (.slice a3 b.ms.length cap3) (.slice a7 b.hs.length cap7) (.slice (some ⟨g11, 0, none⟩) b.rs.length cap11) b) :=
  ⟨zI (zBU zGY) hbl S0.out, zI (zBU zS) hbl S1.out, s3, s7, s11.fr, h.of⟩
 have SP := zF s11.2
 have c0 := zC hbl C0.out.1
 have c1 := zC hbl C0.out.2
 have c2 := zC hbl C2.out
 replace c3 := zC hbl c3
 replace c4 := zC hbl c4
 replace c5 := zC hbl c5
 have r0 := zC hbl R0.out.1
 have r1 := zC hbl R0.out.2.1
 have r2 := zC hbl R0.out.2.2.1
 have r3 := zC hbl R0.out.2.2.2.1
 have r4 := zC hbl R0.out.2.2.2.2.1
 have r5 := zC hbl R0.out.2.2.2.2.2
 have f1 := zDK hbl F1.out
 have f2 := zDK hbl F2.out
 have hbb := zA hb4 hbl
 clear S0 S1 s3 s7 s11 C0 C2 K2 K3 K4 R0 F1 F2 hb4 hbl h HS
 generalize w4.later xq = w5 at *
 have p2 := f1.2 2
 have p3 := f1.2 3
 have p4 := f1.2 4
 have p5 := f1.2 5
 have q0 := f2.2 0
 have q1 := f2.2 1
 have q2 := f2.2 2
 have q3 := f2.2 3
 have q4 := f2.2 4
 have q5 := f2.2 5
 have hl1 := f1.1
 have hl2 := f2.1
 clear f1 f2
 unfold zJ at c0 c1 c2 c3 c4 c5 r0 r1 r2 r3 r4 r5
 go_wp2
 refine bodyPost_ret (v := .agg #[.slice a0 b.ns.reg.length cap0, .slice a1 b.ns.notes.length cap1, .int .i64 b.of, .slice a3 b.ms.length cap3, .slice a7 b.hs.length cap7, .slice (some ⟨g11, 0, none⟩) b.rs.length cap11]) ?_ rfl ⟨_, _, _, _, _, rfl, ?_, ?_, ?_, HCD.out.1, HCD.out.2, HCD7.out⟩
 ·simp [results, results7, go_sem, r0, r1, r2, r3, r4, r5, hl2]
 ·refine BuiltN.weak (base := z1) (by omega) ?_
  repeat (refine BuiltN.set (by omega) ?_)
  exact S.out
 ·obtain ⟨cs, hl, hcs⟩ := SP.out
  refine ⟨⟨cs, ?_⟩, g11, cap11, rfl⟩
  have hcs2 : w5.ownsRow w.heap.size 116 5 (.slice (some ⟨g11, 0, none⟩) b.rs.length cap11) b.rs.length cs ∧ w5.ownsRow z1 116 5 (.slice (some ⟨g11, 0, none⟩) b.rs.length cap11) b.rs.length cs := by
   refine ⟨⟨hl, ?_⟩, hl, hcs⟩
   rcases hcs with h | ⟨g', cap', cur, h1, h2, h3⟩
   ·exact .inl h
   ·exact .inr ⟨g', cap', cur, h1, by omega, h3⟩
  have hcs3 := hcs2.2
  have key : ∀ w' : World, w'.ownsRow z1 116 5 (.slice (some ⟨g11, 0, none⟩) b.rs.length cap11) b.rs.length cs → w'.ownsRow w.heap.size 116 5 (.slice (some ⟨g11, 0, none⟩) b.rs.length cap11) b.rs.length cs := fun w' ⟨hl, h⟩ => by
   refine ⟨hl, ?_⟩
   rcases h with h | ⟨g', cap', cur, h1, h2, h3⟩
   ·exact .inl h
   ·exact .inr ⟨g', cap', cur, h1, by omega, h3⟩
  refine key _ ?_
  repeat (refine zJG ?_ (by omega))
  exact hcs3
 ·repeat (refine zH (by omega) ?_)
  exact hbb
end
section
open Go.RowKit
def encR (x : Report) : List Value := [.int .i64 x.num, .int .i64 x.m, .int .i64 x.d, .int .i64 x.l, .int .u8 x.k]
def flatR (xs : List Report) : List Value := xs.flatMap encR
def RNum (x : Report) : Prop := I64 x.num ∧ I64 x.m ∧ I64 x.d ∧ I64 x.l ∧ U8 x.k
def insR (rs : List Report) (r : Report) : List Report := rs.takeWhile (fun x => decide (x.num < r.num)) ++ r :: rs.dropWhile (fun x => decide (x.num < r.num))
def addB (b : Built) (r : Report) : Built := { b with rs := insR b.rs r }
end
end Go.Proofs.YtpolpdegpbahiaaGreatDoor
namespace Go
open Go.RowKit
section
variable {P : Program} {Q : Exit → Act → World → Prop} {ops : List Oper} {m : Nat}
def Oper.wildUpon (Cw : World → Prop) (w : World) (T : World → World → Prop) (R : Value → World → Prop) : Result Next → Prop
 | .ok (.value v) w' => Cw w' ∧ T w w' ∧ R v w'
 | .ok .skip w' => Cw w' ∧ T w w' ∧ R undef w'
 | _ => False
def Oper.wild (P : Program) (o : Oper) (a : Act) (Cw : World → Prop) (w : World) (T : World → World → Prop) (R : Value → World → Prop) : Prop := Oper.wildUpon Cw w T R ((execOp a.eval o).run P w)
theorem Oper.wp_of_wild {o : Oper} {a : Act} {Cw : World → Prop} {w : World} {T : World → World → Prop} {R : Value → World → Prop} {K : Act → World → Prop} {Q' : Exit → Act → World → Prop} (hh : o.wild P a Cw w T R)
  (h : ∀ v w', Cw w' → T w w' → R v w' → K (a.put o.dst v) w') : o.wp P a w K Q' := by
 unfold Oper.wild at hh
 unfold Oper.wp
 generalize (execOp a.eval o).run P w = r at *
 cases r with
 | ok n w' =>
   cases n <;> simp only [Oper.wildUpon] at hh <;> simp only [Oper.upon]
   case value u => exact h _ _ hh.1 hh.2.1 hh.2.2
   case skip => exact h _ _ hh.1 hh.2.1 hh.2.2
 | halt x w' => simp only [Oper.wildUpon] at hh
def StaysT (T : World → World → Prop) (R : Value → World → Prop) : Prop := ∀ v w w', T w w' → R v w → R v w'
def zGH (ops : List Oper) (p i : Nat) : Bool := (zIS ops 12 ((ops[i]?).elim [] Oper.waitsOn)).contains p
def wildB (ops : List Oper) (m p : Nat) (C : List Nat) : Bool :=
 zHZ ops m && decide (p < m) && ((ops[p]?).elim false fun o => o.guard.isNone) && !C.contains p &&
 (List.range m).all (fun k => k == p || ((ops[k]?).elim [] Oper.waitsOn).all (fun j => !C.contains j))
theorem growW_any (p : Nat) (C : List Nat) (T : World → World → Prop) (hW : wildB ops m p C = true) {a0 : Act} {Cw : World → Prop} (hCw : ∀ w w', Below w.heap.size w w' → Cw w → Cw w') (H : Nat → Value → World → Prop) (hs : ∀ i, zCX (H i))
  (hT : ∀ i, i < m → i ≠ p → C.contains i = true ∨ zGH ops p i = true ∨ StaysT T (H i))
  {I0 : World → Prop} (step : ∀ i o, i < m → i ≠ p → ops[i]? = some o → ∀ vs w, Cw w → (zGH ops i p = true → I0 w) → (∀ j ∈ o.waitsOn, H j (vs j) w) → zAN P ops.toArray o (zY vs (ops.take m) 0 a0) w (H i))
   (hI : ∀ w w', Below w.heap.size w w' → I0 w → I0 w')
  (wild : ∀ o, ops[p]? = some o → ∀ vs w, Cw w → I0 w → (∀ j ∈ o.waitsOn, H j (vs j) w) → o.wild P (zY vs (ops.take m) 0 a0) Cw w T (H p))
  (done : ∀ vs w, Cw w → (∀ i, i < m → C.contains i = false → H i (vs i) w) → wpList P ops.toArray Q (ops.drop m) (zY vs (ops.take m) 0 a0) w) :
  ∀ (fuel : Nat) (L : Array Bool) (a : Act) (w : World), L.size = ops.length → zDQ ops L → (∀ j, m ≤ j → L.getD j false = false) → unTo L ops.length ≤ fuel →
   (∃ vs, a = zY vs (ops.take m) 0 a0 ∧ Cw w ∧ (L.getD p false = false → I0 w) ∧ ∀ i, i < m → L.getD i false = true → (C.contains i = true → L.getD p false = false) → H i (vs i) w) → wpAny P .any ops.toArray Q fuel L a w := by
 simp only [wildB, Bool.and_eq_true, decide_eq_true_eq] at hW
 obtain ⟨⟨⟨⟨hB, hp⟩, hpg⟩, hpC⟩, hC⟩ := hW
 have hml := zPU hB
 have hCC : ∀ k o, k < m → k ≠ p → ops[k]? = some o → ∀ j ∈ o.waitsOn, C.contains j = false := fun k o hk hkp ho j hj => by
  have := List.all_eq_true.1 hC k (List.mem_range.2 hk)
  simp only [ho, Option.elim, Bool.or_eq_true, beq_iff_eq, hkp, false_or] at this
  simpa using List.all_eq_true.1 this j hj
 have hpl : p < ops.length := by omega
 intro fuel
 induction fuel with
 | zero =>
   intro L a w hL hd ht hu ⟨vs, ha, hb, hi0, hf⟩
   have hall := zGP L ops.length (by omega)
   refine zGW hB 0 L m a w hL (Nat.le_refl _) (fun i hi => ?_) hu ?_
   ·rw [hall i hi]
    by_cases e : i < m
    ·simp [e]
    ·have h1 := zCI (by omega) (hall i hi)
     rw [ht i (by omega)] at h1
     cases h1
   ·rw [ha]
    exact done vs w hb fun i hi hc => hf i hi (zCI (by omega) (hall i (by omega))) (fun h => by rw [hc] at h; cases h)
 | succ fuel ih =>
   intro L a w hL hd ht hu ⟨vs, ha, hb, hi0, hf⟩
   by_cases hall : ∀ i, i < m → L.getD i true = true
   ·refine zGW hB (fuel + 1) L m a w hL (Nat.le_refl _) (fun i hi => ?_) hu ?_
    ·by_cases e : i < m
     ·rw [hall i e]; simp [e]
     ·have h1 := ht i (by omega)
      have h2 : L.getD i true = false := by
       by_cases h3 : L.getD i true = true
       ·rw [zCI (by omega) h3] at h1; cases h1
       ·simpa using h3
      rw [h2]
      simp
      omega
    ·rw [ha]
     exact done vs w hb fun i hi hc => hf i hi (zCI (by omega) (hall i hi)) (fun h => by rw [hc] at h; cases h)
   ·refine ⟨fun h0 => (hall fun i hi => zEU hB hL h0 i (by omega)).elim, fun k hk => ?_⟩
    obtain ⟨h0, o, hok, hw⟩ := zCO.1 hk
    have hkl := (List.getElem?_eq_some_iff.1 hok).1
    have hkm : k < m := by
     by_cases e : k < m
     ·exact e
     ·exfalso
      refine hall fun i hi => zEL ?_
      exact zBV hd 12 _ (by rw [hok]; exact hw) i (zEX hB hkl (by omega) i (by omega))
    have hkf : L.getD k false = false := by
     by_cases e : L.getD k false = true
     ·rw [zEL e] at h0; cases h0
     ·simpa using e
    have hput : ∀ v, a.put o.dst v = zY (fun j => if j = k then v else vs j) (ops.take m) 0 a0 := fun v => by
     rw [ha]
     have := zJY vs v (ops.take m) 0 k a0 o (zGJ hB) (by rw [List.getElem?_take_of_lt hkm]; exact hok)
     rw [this]
     exact zDO _ _ _ _ _ fun j _ => by rw [Nat.zero_add]
    have hcnt : unTo (L.setIfInBounds k true) ops.length ≤ fuel := by
     have := zIR L k h0 ops.length hkl
     omega
    have htl : ∀ j, m ≤ j → (L.setIfInBounds k true).getD j false = false := fun j hj => by
     rw [getD_set_ne false (by omega)]; exact ht j hj
    by_cases hkp : k = p
    ·subst hkp
     have hdeps : ∀ j ∈ o.waitsOn, H j (vs j) w := fun j hj => hf j (by have := zDZ hB hok j hj; omega) (hw j hj) (fun _ => hkf)
     have hwd := wild o hok vs w hb (hi0 hkf) hdeps
     unfold wpOp
     simp only [List.getElem?_toArray, hok]
     simp only [hok, Option.elim] at hpg
     have hg : o.guard = none := by simpa using hpg
     rw [if_pos (by unfold Region.wanted; rw [hg])]
     refine .inl ?_
     rw [← ha] at hwd
     refine Oper.wp_of_wild hwd fun v w' hb' hTw hv => ?_
     have hset : (L.setIfInBounds k true).getD k false = true := by simp [hL, hpl]
     refine ih _ _ w' (by simpa using hL) (zCB hd hok hw) htl hcnt ⟨_, hput v, hb', fun h => (by rw [hset] at h; cases h), fun i hi hli hci => ?_⟩
     by_cases e : i = k
     ·subst e; simp only [if_pos]; exact hv
     ·simp only [if_neg e]
      rw [getD_set_ne false (Ne.symm e)] at hli
      rcases hT i hi e with h1 | h1 | h1
      ·rw [hci h1] at hset; cases hset
      ·exfalso
       have ho' : ops[i]? = some ops[i] := List.getElem?_eq_getElem (by omega)
       have : L.getD k false = true := by
        refine zBV hd 12 _ (fun j hj => ?_) k (by simpa [zGH] using h1)
        rw [ho'] at hj
        exact hd i _ hli ho' j hj
       rw [hkf] at this
       cases this
      ·exact h1 _ _ _ hTw (hf i hi hli (fun _ => hkf))
    ·have hdeps : ∀ j ∈ o.waitsOn, H j (vs j) w := fun j hj => hf j (by have := zDZ hB hok j hj; omega) (hw j hj) (fun h => by rw [hCC k o hkm hkp hok j hj] at h; cases h)
     have hbe : zGH ops k p = true → I0 w := fun h1 => hi0 (by
      by_cases e : L.getD p false = true
      ·exfalso
       have ho' : ops[p]? = some ops[p] := List.getElem?_eq_getElem (by omega)
       have : L.getD k false = true := by
        refine zBV hd 12 _ (fun j hj => ?_) k (by simpa [zGH] using h1)
        rw [ho'] at hj
        exact hd p _ e ho' j hj
       rw [hkf] at this
       cases this
      ·simpa using e)
     have hst := step k o hkm hkp hok vs w hb hbe hdeps
     have hnext : ∀ v w', Below w.heap.size w w' → H k v w' → wpAny P .any ops.toArray Q fuel (L.setIfInBounds k true) (a.put o.dst v) w' := fun v w' hbw hv => by
      refine ih _ _ w' (by simpa using hL) (zCB hd hok hw) htl hcnt ⟨_, hput v, hCw _ _ hbw hb, fun h => hI _ _ hbw (hi0 (by rwa [getD_set_ne false hkp] at h)), fun i hi hli hci => ?_⟩
      by_cases e : i = k
      ·subst e; simp only [if_pos]; exact hv
      ·simp only [if_neg e]
       rw [getD_set_ne false (Ne.symm e)] at hli
       refine hs i _ _ _ hbw (hf i hi hli (fun h => ?_))
       have := hci h
       rwa [getD_set_ne false hkp] at this
     unfold wpOp
     simp only [List.getElem?_toArray, hok]
     unfold zAN at hst
     rw [← ha] at hst
     split
     ·rename_i hwn
      rw [if_pos hwn] at hst
      exact .inl (Oper.wp_of_grows hst hnext)
     ·rename_i hwn
      rw [if_neg hwn] at hst
      exact hnext _ _ (Below.refl _ _) hst
def zDA (P : Program) (ops : List Oper) (pre : List Oper) (a0 : Act) (Cw : World → Prop) (I0 : World → Prop) (p : Nat) (C : List Nat) (T : World → World → Prop) (Q : List (Value → World → Prop) → Prop) : List Oper → List (Value → World → Prop) → Prop
 | [], Hs => Q Hs
 | o :: l, Hs => ∃ R : Value → World → Prop, zCX R ∧
   (if Hs.length = p then ∀ vs w, Cw w → I0 w → zV Hs vs w o.waitsOn → o.wild P (zY vs pre 0 a0) Cw w T R
    else (C.contains Hs.length = true ∨ zGH ops p Hs.length = true ∨ StaysT T R) ∧ ∀ vs w, Cw w → (zGH ops Hs.length p = true → I0 w) → zV Hs vs w o.waitsOn → zAN P ops.toArray o (zY vs pre 0 a0) w R) ∧
   zDA P ops pre a0 Cw I0 p C T Q l (Hs ++ [R])
theorem growAllW_out {a0 : Act} {Cw I0 : World → Prop} {p : Nat} {C : List Nat} {T : World → World → Prop} {Q' : List (Value → World → Prop) → Prop} (hlt : ∀ (i : Nat) (o : Oper), ops[i]? = some o → ∀ j ∈ o.waitsOn, j < i) : ∀ (l : List Oper) (Hs : List (Value → World → Prop)), (∀ R ∈ Hs, zCX R) → (∀ i, l[i]? = (ops.take m)[Hs.length + i]?) → Hs.length + l.length = m →
  zDA P ops (ops.take m) a0 Cw I0 p C T Q' l Hs → ∃ Hs', Q' (Hs ++ Hs') ∧ (∀ R ∈ Hs ++ Hs', zCX R) ∧ Hs'.length = l.length ∧
   ∀ (i : Nat) (o : Oper), Hs.length ≤ i → i < m → ops[i]? = some o →
    (i = p → ∀ (vs : Nat → Value) (w : World), Cw w → I0 w → (∀ j ∈ o.waitsOn, zAD (Hs ++ Hs') j (vs j) w) → o.wild P (zY vs (ops.take m) 0 a0) Cw w T (zAD (Hs ++ Hs') i)) ∧
    (i ≠ p → (C.contains i = true ∨ zGH ops p i = true ∨ StaysT T (zAD (Hs ++ Hs') i)) ∧
     ∀ (vs : Nat → Value) (w : World), Cw w → (zGH ops i p = true → I0 w) → (∀ j ∈ o.waitsOn, zAD (Hs ++ Hs') j (vs j) w) → zAN P ops.toArray o (zY vs (ops.take m) 0 a0) w (zAD (Hs ++ Hs') i)) := by
 intro l
 induction l with
 | nil =>
   intro Hs hst _ hlen h
   exact ⟨[], by simpa [zDA] using h, by simpa using hst, rfl, fun i o h1 h2 => by simp at hlen; omega⟩
 | cons o l ih =>
   intro Hs hst hl hlen h
   obtain ⟨R, hR, hstep, h⟩ := h
   obtain ⟨Hs', hQ, hst', hlen', hstep'⟩ := ih (Hs ++ [R]) (fun R' hR' => by
    rcases List.mem_append.1 hR' with h1 | h1
    ·exact hst _ h1
    ·simp at h1; subst h1; exact hR) (fun i => by
    have := hl (i + 1)
    simp only [List.getElem?_cons_succ] at this
    rw [this, List.length_append]
    congr 1
    simp; omega) (by simp at hlen ⊢; omega) h
   have e : Hs ++ R :: Hs' = Hs ++ [R] ++ Hs' := by simp
   refine ⟨R :: Hs', by simpa using hQ, by simpa using hst', by simp [hlen'], fun i o' h1 h2 ho' => ?_⟩
   by_cases hi : i = Hs.length
   ·subst hi
    have h0 := hl 0
    simp only [List.getElem?_cons_zero, Nat.add_zero] at h0
    rw [List.getElem?_take_of_lt h2, ho'] at h0
    cases h0
    have hf : zAD (Hs ++ R :: Hs') Hs.length = R := by
     unfold zAD
     simp
    rw [hf]
    have hdep : ∀ (vs : Nat → Value) (w : World), (∀ j ∈ o.waitsOn, zAD (Hs ++ R :: Hs') j (vs j) w) → zV Hs vs w o.waitsOn := fun vs w hd => zGD fun j hj => by
     have hjl := hlt _ _ ho' j hj
     have := hd j hj
     unfold zAD at this ⊢
     rwa [List.getElem?_append_left hjl] at this
    constructor
    ·intro hp vs w hb hi hd
     rw [if_pos hp] at hstep
     exact hstep vs w hb hi (hdep vs _ hd)
    ·intro hp
     rw [if_neg hp] at hstep
     refine ⟨hstep.1, fun vs w hb hbe hd => ?_⟩
     exact hstep.2 vs w hb hbe (hdep vs _ hd)
   ·rw [e]
    exact hstep' i o' (by simp; omega) h2 ho'
theorem zBI {id : Nat} {a0 : Act} {w0 : World} (m p : Nat) (C : List Nat) (T : World → World → Prop) (Cw : World → Prop) (hCw : ∀ w w', Below w.heap.size w w' → Cw w → Cw w') (h0 : Cw { w0 with drawn := w0.drawn + 1 }) (I0 : World → Prop) (hI : ∀ w w', Below w.heap.size w w' → I0 w → I0 w') (hI0 : I0 { w0 with drawn := w0.drawn + 1 }) (hm : P.follows .mixedOrders = true) (hW : wildB ops m p C = true)
  (h : zDA P ops (ops.take m) a0 Cw I0 p C T (fun Hs => ∀ vs w, Cw w → (∀ i, i < m → C.contains i = false → zAD Hs i (vs i) w) → wpList P ops.toArray Q (ops.drop m) (zY vs (ops.take m) 0 a0) w) (ops.take m) []) :
  (Code.region id ops.toArray true).wp P Q a0 w0 := by
 have hB : zHZ ops m = true := by
  simp only [wildB, Bool.and_eq_true] at hW
  exact hW.1.1.1.1
 have hml := zPU hB
 obtain ⟨Hs, hQ, hst, _, hstep⟩ := growAllW_out (fun i o ho => zDZ hB ho) (ops.take m) [] (fun R hR => by simp at hR) (fun i => by simp) (by simp; omega) h
 simp only [List.nil_append] at hQ hst hstep
 refine wp_region_any hm ?_
 obtain ⟨vs, hvs⟩ := zMA (ops.take m) 0 a0
 refine growW_any p C T hW hCw (zAD Hs) (fun i => ?_) (fun i hi hip => ?_) (fun i o hi hip ho => ((hstep i o (Nat.zero_le _) hi ho).2 hip).2) hI (fun o ho => ?_) hQ _ _ _ _ (by simp) ?_ (fun j _ => zEA _ _) ?_ ⟨vs, hvs.symm, h0, fun _ => hI0, fun i hi hli => ?_⟩
 ·unfold zAD
  cases hh : Hs[i]? with
  | none => exact fun _ _ _ _ h => h
  | some R => exact hst R (List.mem_of_getElem? hh)
 ·exact ((hstep i ops[i] (Nat.zero_le _) hi (List.getElem?_eq_getElem (by omega))).2 hip).1
 ·have hp : p < m := by
   simp only [wildB, Bool.and_eq_true, decide_eq_true_eq] at hW
   exact hW.1.1.1.2
  exact (hstep p o (Nat.zero_le _) hp ho).1 rfl
 ·intro i o hi
  rw [zEA] at hi
  cases hi
 ·simpa using zKE ops.length ops.length
 ·rw [zEA] at hli
  cases hli
theorem zCW {pre : List Oper} {a0 : Act} {Cw I0 : World → Prop} {p : Nat} {C : List Nat} {T : World → World → Prop} {Q' : List (Value → World → Prop) → Prop} {o : Oper} {l : List Oper} {Hs : List (Value → World → Prop)} (R : Value → World → Prop) (hR : zCX R)
  (hp : (Hs.length == p) = false) (hT : C.contains Hs.length = true ∨ zGH ops p Hs.length = true ∨ StaysT T R)
  (h : ∀ vs w, Cw w → zV Hs vs w o.waitsOn → zAN P ops.toArray o (zY vs pre 0 a0) w R) (k : zDA P ops pre a0 Cw I0 p C T Q' l (Hs ++ [R])) : zDA P ops pre a0 Cw I0 p C T Q' (o :: l) Hs :=
 ⟨R, hR, by rw [if_neg (by simpa using hp)]; exact ⟨hT, fun vs w hc _ hd => h vs w hc hd⟩, k⟩
theorem growW_exact {pre : List Oper} {a0 : Act} {Cw I0 : World → Prop} {p : Nat} {C : List Nat} {T : World → World → Prop} {Q' : List (Value → World → Prop) → Prop} {o : Oper} {l : List Oper} {Hs : List (Value → World → Prop)} (hp : (Hs.length == p) = false)
  (h : ∃ u, (∀ vs w, Cw w → zV Hs vs w o.waitsOn → zAN P ops.toArray o (zY vs pre 0 a0) w (fun v _ => v = u)) ∧ zDA P ops pre a0 Cw I0 p C T Q' l (Hs ++ [fun v _ => v = u])) : zDA P ops pre a0 Cw I0 p C T Q' (o :: l) Hs := by
 obtain ⟨u, h, k⟩ := h
 exact zCW _ (fun _ _ _ _ h => h) hp (.inr (.inr fun _ _ _ _ h => h)) h k
theorem gw_ {pre : List Oper} {a0 : Act} {Cw I0 : World → Prop} {p : Nat} {C : List Nat} {T : World → World → Prop} {Q' : List (Value → World → Prop) → Prop} {o : Oper} {l : List Oper} {Hs : List (Value → World → Prop)} {u : Value} (hp : (Hs.length == p) = false)
  (h : ∀ vs w, Cw w → zV Hs vs w o.waitsOn → zAN P ops.toArray o (zY vs pre 0 a0) w (fun v _ => v = u)) (k : zDA P ops pre a0 Cw I0 p C T Q' l (Hs ++ [fun v _ => v = u])) : zDA P ops pre a0 Cw I0 p C T Q' (o :: l) Hs :=
 growW_exact hp ⟨u, h, k⟩
theorem zOY {pre : List Oper} {a0 : Act} {Cw I0 : World → Prop} {p : Nat} {C : List Nat} {T : World → World → Prop} {Q' : List (Value → World → Prop) → Prop} {o : Oper} {l : List Oper} {Hs : List (Value → World → Prop)} (hp : (Hs.length == p) = false) (hbe : zGH ops Hs.length p = true)
  (h : ∃ u, (∀ vs w, Cw w → I0 w → zV Hs vs w o.waitsOn → zAN P ops.toArray o (zY vs pre 0 a0) w (fun v _ => v = u)) ∧ zDA P ops pre a0 Cw I0 p C T Q' l (Hs ++ [fun v _ => v = u])) : zDA P ops pre a0 Cw I0 p C T Q' (o :: l) Hs := by
 obtain ⟨u, h, k⟩ := h
 exact ⟨_, fun _ _ _ _ h => h, by rw [if_neg (by simpa using hp)]; exact ⟨.inr (.inr fun _ _ _ _ h => h), fun vs w hc hi hd => h vs w hc (hi hbe) hd⟩, k⟩
theorem zDJ {pre : List Oper} {a0 : Act} {Cw I0 : World → Prop} {p : Nat} {C : List Nat} {T : World → World → Prop} {Q' : List (Value → World → Prop) → Prop} {o : Oper} {l : List Oper} {Hs : List (Value → World → Prop)} (R : Value → World → Prop) (hR : zCX R)
  (hp : (Hs.length == p) = true) (h : ∀ vs w, Cw w → I0 w → zV Hs vs w o.waitsOn → o.wild P (zY vs pre 0 a0) Cw w T R) (k : zDA P ops pre a0 Cw I0 p C T Q' l (Hs ++ [R])) : zDA P ops pre a0 Cw I0 p C T Q' (o :: l) Hs :=
 ⟨R, hR, by rw [if_pos (by simpa using hp)]; exact h, k⟩
theorem zDI {pre : List Oper} {a0 : Act} {Cw I0 : World → Prop} {p : Nat} {C : List Nat} {T : World → World → Prop} {m' : Nat} {K : (Nat → Value) → World → Prop} {Hs : List (Value → World → Prop)} (hm : m' = Hs.length) (h : ∀ vs w, Cw w → zV Hs vs w ((List.range m').filter fun i => !C.contains i) → K vs w) :
  zDA P ops pre a0 Cw I0 p C T (fun Hs => ∀ vs w, Cw w → (∀ i, i < m' → C.contains i = false → zAD Hs i (vs i) w) → K vs w) [] Hs := by
 intro vs w hb hd
 refine h vs w hb (zGD fun j hj => ?_)
 rw [List.mem_filter, List.mem_range] at hj
 exact hd j hj.1 (by simpa using hj.2)
end
end Go
