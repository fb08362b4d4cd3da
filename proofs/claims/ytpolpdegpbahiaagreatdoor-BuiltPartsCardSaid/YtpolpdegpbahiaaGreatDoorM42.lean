/- The law's walk: what was handed in stays, and true is answered. -/
import Derived.Test.YtpolpdegpbahiaaGreatDoorM08
import Derived.Test.YtpolpdegpbahiaaGreatDoorM12
import Derived.Test.YtpolpdegpbahiaaGreatDoorM41
set_option linter.all false
set_option maxRecDepth 100000
set_option maxHeartbeats 12800000

namespace Go.Proofs.YtpolpdegpbahiaaGreatDoor
open Tryz
open Go.RowKit
attribute [local go_sem] zAN
def RetT (w : World) (e : Ending) (w' : World) : Prop := e = .returned (.bool true) ∧ Below w.heap.size w w'
theorem law_walk (w : World) (vr vn vm vh vs : Value) (b : Built) (m d l : Int) (h : BuiltAt w vr vn vm vh vs b) (hlook : Looks w) (hlookn : zIW w) (hkind : KindsAt w) (hd64 : I64 d) :
  Calls prog 3 #[.agg #[vr, vn, .int .i64 b.of, vm, vh, vs], .int .i64 m, .agg #[.int .i64 d, .int .i64 l]] w (RetT w) := by
 obtain ⟨ar, cr, rfl, _⟩ := zD h.reg
 obtain ⟨an, cn, rfl, _⟩ := zD h.notes
 obtain ⟨am, cm, rfl, _⟩ := zD h.ms
 obtain ⟨ah, ch, rfl, _⟩ := zD h.hs
 obtain ⟨az, cz, rfl, _⟩ := zD h.rs
 have hb1 := zB w (.cells #[.slice ar b.ns.reg.length cr, .slice an b.ns.notes.length cn, .int .i64 b.of, .slice am b.ms.length cm, .slice ah b.hs.length ch, .slice az b.rs.length cz] 32)
 have L0 := Lay.new w 32 #[.slice ar b.ns.reg.length cr, .slice an b.ns.notes.length cn, .int .i64 b.of, .slice am b.ms.length cm, .slice ah b.hs.length ch, .slice az b.rs.length cz]
 have L1 := Lay.new (w.alloc (.cells #[.slice ar b.ns.reg.length cr, .slice an b.ns.notes.length cn, .int .i64 b.of, .slice am b.ms.length cm, .slice ah b.hs.length ch, .slice az b.rs.length cz] 32)) 34 #[.int .i64 d, .int .i64 l]
 have hb2 := zB (w.alloc (.cells #[.slice ar b.ns.reg.length cr, .slice an b.ns.notes.length cn, .int .i64 b.of, .slice am b.ms.length cm, .slice ah b.hs.length ch, .slice az b.rs.length cz] 32)) (.cells #[.int .i64 d, .int .i64 l] 34)
 replace L0 := L0.ext hb2
 rw [World.size_alloc] at L1
 have hbe := zA hb1 hb2
 have c0 := L0.cell 0 _ rfl
 have c1 := L0.cell 1 _ rfl
 have c2 := L0.cell 2 _ rfl
 have c3 := L0.cell 3 _ rfl
 have c4 := L0.cell 4 _ rfl
 have c5 := L0.cell 5 _ rfl
 have LK := zF (And.intro hlook (And.intro hlookn hkind))
 have H0 := zF h
 clear h hb1 hb2 hlook hlookn hkind
 go_enter func3, ntmps3
 go_wp2_with fail
 clear c0 c1 c2 c3 c4 c5
 have hsz : w.heap.size + 1 < ((w.alloc (.cells #[.slice ar b.ns.reg.length cr, .slice an b.ns.notes.length cn, .int .i64 b.of, .slice am b.ms.length cm, .slice ah b.hs.length ch, .slice az b.rs.length cz] 32)).alloc (.cells #[.int .i64 d, .int .i64 l] 34)).heap.size := L1.lt
 generalize (w.alloc _).alloc _ = w1 at *
 generalize hg3 : w.heap.size + 1 = g3 at *
 have hgw : w.heap.size < g3 := by omega
 clear hg3
 refine (great08 _ _ _ _ _ _ b (H0.out.ext hbe)).mono ?_
 intro e w2 hgreat
 rcases hgreat.both with ⟨g1, rfl, hb2⟩ | ⟨g1, rfl, hb2⟩
 ·clear hgreat
  go_wp2
  go_ret
  exact ⟨rfl, zA hbe hb2⟩
 clear hgreat
 have HT := zF (Classical.byContradiction g1)
 clear g1
 replace hbe := zA hbe hb2
 replace L0 := L0.ext hb2
 replace L1 := L1.ext hb2
 clear hb2 hsz
 generalize w1.heap.size = z1 at *
 have c0 := L0.cell 0 _ rfl
 have c1 := L0.cell 1 _ rfl
 have c2 := L0.cell 2 _ rfl
 have c3 := L0.cell 3 _ rfl
 have c4 := L0.cell 4 _ rfl
 have c5 := L0.cell 5 _ rfl
 go_wp2_with fail
 clear c0 c1 c2 c3 c4 c5
 refine (twin08 _ _ _ _ _ _ b (H0.out.ext hbe) HT.out).mono ?_
 rintro e w3 ⟨ur, un, um, uh, us, rfl, hN, -, hb3, hcr, hcn, hch⟩
 have HO := zF hN
 obtain ⟨ar1, cr1, rfl, _⟩ := zD hN.reg
 obtain ⟨an1, cn1, rfl, _⟩ := zD hN.notes
 obtain ⟨am1, cm1, rfl, _⟩ := zD hN.ms
 obtain ⟨ah1, ch1, rfl, _⟩ := zD hN.hs
 obtain ⟨az1, cz1, rfl, _⟩ := zD hN.rs
 have HC := zF (And.intro hcr (And.intro hcn hch))
 clear hN hcr hcn hch
 replace hbe := zA hbe hb3
 replace L0 := L0.ext hb3
 replace L1 := L1.ext hb3
 clear hb3
 have hz0 := L0.lt
 have hz1 := L1.lt
 have r0 := L1.cell 0 _ rfl
 have r1 := L1.cell 1 _ rfl
 go_wp2_with fail
 clear r0 r1 hz0 hz1
 have L5 := Lay.new w3 32 #[.slice ar1 b.ns.reg.length cr1, .slice an1 b.ns.notes.length cn1, .int .i64 b.of, .slice am1 b.ms.length cm1, .slice ah1 b.hs.length ch1, .slice az1 b.rs.length cz1]
 have hb4 := zB w3 (.cells #[.slice ar1 b.ns.reg.length cr1, .slice an1 b.ns.notes.length cn1, .int .i64 b.of, .slice am1 b.ms.length cm1, .slice ah1 b.hs.length ch1, .slice az1 b.rs.length cz1] 32)
 have hz3 : w3.heap.size < (w3.alloc (.cells #[.slice ar1 b.ns.reg.length cr1, .slice an1 b.ns.notes.length cn1, .int .i64 b.of, .slice am1 b.ms.length cm1, .slice ah1 b.hs.length ch1, .slice az1 b.rs.length cz1] 32)).heap.size := L5.lt
 have HO := zF (HO.out.ext hb4)
 replace hbe := zA hbe hb4
 replace L0 := L0.ext hb4
 replace L1 := L1.ext hb4
 clear hb4
 generalize w3.alloc _ = w4 at *
 generalize w3.heap.size = g5 at *
 have HA := zF (show BuiltArg w4 _ _ _ _ _ b from ⟨⟨⟨HO.out.at.reg, HC.out.1, LK.out.1.ext hbe⟩, HO.out.at.notes, HC.out.2.1⟩, HO.out.at, HC.out.2.2, LK.out.2.1.ext hbe⟩)
 have HK := zF (LK.out.2.2.ext hbe)
 have HB := zF (H0.out.ext hbe)
 have HI := zF HO.out.at
 clear HO HC LK H0
 have L0 := zF L0
 have L1 := zF L1
 have L5 := zF L5
 have HBE := zF hbe
 clear hbe hz3
 refine (zOS _ _ _ _ _ _ b m d l HA.out HK.out hd64).mono ?_
 rintro e w5 ⟨rfl, hbc⟩
 have z0 := (L0.out.ext hbc).lt
 have z1 := (L1.out.ext hbc).lt
 have z2 := (L5.out.ext hbc).lt
 have c0 := (L0.out.ext hbc).cell 0 _ rfl
 have c1 := (L0.out.ext hbc).cell 1 _ rfl
 have c2 := (L0.out.ext hbc).cell 2 _ rfl
 have c3 := (L0.out.ext hbc).cell 3 _ rfl
 have c4 := (L0.out.ext hbc).cell 4 _ rfl
 have c5 := (L0.out.ext hbc).cell 5 _ rfl
 have r0 := (L1.out.ext hbc).cell 0 _ rfl
 have r1 := (L1.out.ext hbc).cell 1 _ rfl
 go_wp2_with fail
 clear c0 c1 c2 c3 c4 c5 r0 r1
 clear z0 z1 z2
 have S8' := Lay.new w5 38 #[.int .i64 (zAY b m d l).lo, .int .i64 (zAY b m d l).hi]
 have hb9 := zB w5 (.cells #[.int .i64 (zAY b m d l).lo, .int .i64 (zAY b m d l).hi] 38)
 generalize w5.alloc _ = w6 at *
 replace hbc := zA hbc hb9
 clear hb9
 generalize hgS8 : w5.heap.size = gS8 at *
 clear hgS8
 refine (zOW _ _ _ _ _ _ b m d l (HB.out.ext hbc)).mono ?_
 rintro e w7 ⟨rfl, hb7⟩
 replace hbc := zA hbc hb7
 have S8 := zF (S8'.ext hb7)
 clear hb7 S8'
 have z0 := (L0.out.ext hbc).lt
 have z1 := (L1.out.ext hbc).lt
 have z2 := (L5.out.ext hbc).lt
 have z3 := S8.out.lt
 have c0 := (L5.out.ext hbc).cell 0 _ rfl
 have c1 := (L5.out.ext hbc).cell 1 _ rfl
 have c2 := (L5.out.ext hbc).cell 2 _ rfl
 have c3 := (L5.out.ext hbc).cell 3 _ rfl
 have c4 := (L5.out.ext hbc).cell 4 _ rfl
 have c5 := (L5.out.ext hbc).cell 5 _ rfl
 have r0 := (L1.out.ext hbc).cell 0 _ rfl
 have r1 := (L1.out.ext hbc).cell 1 _ rfl
 go_wp2_with fail
 clear c0 c1 c2 c3 c4 c5 r0 r1
 clear z0 z1 z2 z3
 have S10' := Lay.new w7 38 #[.int .i64 (zAY b m d l).lo, .int .i64 (zAY b m d l).hi]
 have hb9 := zB w7 (.cells #[.int .i64 (zAY b m d l).lo, .int .i64 (zAY b m d l).hi] 38)
 generalize w7.alloc _ = w8 at *
 replace hbc := zA hbc hb9
 have S8 := zF (S8.out.ext hb9)
 clear hb9
 generalize hgS10 : w7.heap.size = gS10 at *
 clear hgS10
 have S10 := zF S10'
 clear S10'
 refine (known_built _ _ _ _ _ _ b m d l (HA.out.ext hbc) (HK.out.ext hbc) hd64).mono ?_
 rintro e w9 ⟨rfl, hb7⟩
 replace hbc := zA hbc hb7
 have S8 := zF (S8.out.ext hb7)
 have S10 := zF (S10.out.ext hb7)
 clear hb7
 have c0 := (L0.out.ext hbc).cell 0 _ rfl
 have c1 := (L0.out.ext hbc).cell 1 _ rfl
 have c2 := (L0.out.ext hbc).cell 2 _ rfl
 have c3 := (L0.out.ext hbc).cell 3 _ rfl
 have c4 := (L0.out.ext hbc).cell 4 _ rfl
 have c5 := (L0.out.ext hbc).cell 5 _ rfl
 have r0 := (L1.out.ext hbc).cell 0 _ rfl
 have r1 := (L1.out.ext hbc).cell 1 _ rfl
 go_wp2_with fail
 clear c0 c1 c2 c3 c4 c5 r0 r1
 refine (known08 _ _ _ _ _ _ b m d l (HB.out.ext hbc)).mono ?_
 rintro e w10 ⟨rfl, hb7⟩
 replace hbc := zA hbc hb7
 have S8 := zF (S8.out.ext hb7)
 have S10 := zF (S10.out.ext hb7)
 clear hb7
 have c0 := (L5.out.ext hbc).cell 0 _ rfl
 have c1 := (L5.out.ext hbc).cell 1 _ rfl
 have c2 := (L5.out.ext hbc).cell 2 _ rfl
 have c3 := (L5.out.ext hbc).cell 3 _ rfl
 have c4 := (L5.out.ext hbc).cell 4 _ rfl
 have c5 := (L5.out.ext hbc).cell 5 _ rfl
 go_wp2_with fail
 clear c0 c1 c2 c3 c4 c5
 refine (parts_built _ _ _ _ _ _ b m (HA.out.ext hbc) (HK.out.ext hbc)).mono ?_
 rintro e w11 ⟨u, rfl, hp, hb7⟩
 replace hbc := zA hbc hb7
 have S8 := zF (S8.out.ext hb7)
 have S10 := zF (S10.out.ext hb7)
 clear hb7
 have c0 := (L0.out.ext hbc).cell 0 _ rfl
 have c1 := (L0.out.ext hbc).cell 1 _ rfl
 have c2 := (L0.out.ext hbc).cell 2 _ rfl
 have c3 := (L0.out.ext hbc).cell 3 _ rfl
 have c4 := (L0.out.ext hbc).cell 4 _ rfl
 have c5 := (L0.out.ext hbc).cell 5 _ rfl
 have hp := zF hp
 go_wp2_with fail
 clear c0 c1 c2 c3 c4 c5
 refine (parts08 _ _ _ _ _ _ b m (HB.out.ext hbc)).mono ?_
 rintro e w12 ⟨v, rfl, hq, hb7⟩
 replace hbc := zA hbc hb7
 have S8 := zF (S8.out.ext hb7)
 have S10 := zF (S10.out.ext hb7)
 have hp := zF (zI zOA hb7 hp.out)
 have hq := zF hq
 clear hb7
 have s0 := S8.out.cell 0 _ rfl
 have s1 := S8.out.cell 1 _ rfl
 have t0 := S10.out.cell 0 _ rfl
 have t1 := S10.out.cell 1 _ rfl
 go_wp2_with fail
 clear s0 s1 t0 t1
 refine (sameParts08 _ _ _ _ hp.out hq.out).mono ?_
 rintro e w13 ⟨rfl, hb7⟩
 replace hbc := zA hbc hb7
 clear hb7 hp hq S8 S10
 have c0 := (L5.out.ext hbc).cell 0 _ rfl
 have c1 := (L5.out.ext hbc).cell 1 _ rfl
 have c2 := (L5.out.ext hbc).cell 2 _ rfl
 have c3 := (L5.out.ext hbc).cell 3 _ rfl
 have c4 := (L5.out.ext hbc).cell 4 _ rfl
 have c5 := (L5.out.ext hbc).cell 5 _ rfl
 have e0 := (L0.out.ext hbc).cell 0 _ rfl
 have e1 := (L0.out.ext hbc).cell 1 _ rfl
 have e2 := (L0.out.ext hbc).cell 2 _ rfl
 have e3 := (L0.out.ext hbc).cell 3 _ rfl
 have e4 := (L0.out.ext hbc).cell 4 _ rfl
 have e5 := (L0.out.ext hbc).cell 5 _ rfl
 go_wp2_with fail
 clear c0 c1 c2 c3 c4 c5 e0 e1 e2 e3 e4 e5
 refine (sameBuilt08 _ _ _ _ _ _ _ _ _ _ _ b (HI.out.ext hbc) (HB.out.ext hbc)).mono ?_
 rintro e w14 ⟨rfl, hb7⟩
 go_wp2
 go_ret
 exact ⟨rfl, zA HBE.out (zA hbc hb7)⟩
end Go.Proofs.YtpolpdegpbahiaaGreatDoor
