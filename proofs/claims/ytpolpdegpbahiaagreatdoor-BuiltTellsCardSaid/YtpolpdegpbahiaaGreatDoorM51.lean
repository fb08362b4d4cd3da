/- The law's walk: what was handed in stays, and true is answered. -/
import Derived.Lib.AppendZeros
import Derived.Test.YtpolpdegpbahiaaGreatDoorM08
import Derived.Test.YtpolpdegpbahiaaGreatDoorM45
import Derived.Test.YtpolpdegpbahiaaGreatDoorM50
set_option linter.all false
set_option maxRecDepth 100000
set_option maxHeartbeats 12800000

namespace Go.Proofs.YtpolpdegpbahiaaGreatDoor
open Tryz
open Go.RowKit
attribute [local go_sem] zAN
def RetT (w : World) (e : Ending) (w' : World) : Prop := e = .returned (.bool true) ∧ Below w.heap.size w w'
theorem law_walk (w : World) (vr vn vm vh vs vz : Value) (b : Built) (S : List Int) (x : Int) (h : BuiltAt w vr vn vm vh vs b) (hS : Sl zAJ 1 w vz S) (hlook : Looks w) (hlookn : zIW w) (hkind : KindsAt w) (hx : I64 x) :
  Calls prog 4 #[.agg #[vr, vn, .int .i64 b.of, vm, vh, vs], vz, .int .i64 x] w (RetT w) := by
 obtain ⟨i0, hif, iz0, iz1, iz2⟩ := info_parts zDM
 obtain ⟨ar, cr, rfl, _⟩ := zD h.reg
 obtain ⟨an, cn, rfl, _⟩ := zD h.notes
 obtain ⟨am, cm, rfl, _⟩ := zD h.ms
 obtain ⟨ah, ch, rfl, _⟩ := zD h.hs
 obtain ⟨as', cs', rfl, _⟩ := zD h.rs
 obtain ⟨az, cz, rfl, hzm⟩ := zD hS
 have hb1 := zB w (.cells #[.slice ar b.ns.reg.length cr, .slice an b.ns.notes.length cn, .int .i64 b.of, .slice am b.ms.length cm, .slice ah b.hs.length ch, .slice as' b.rs.length cs'] 32)
 have L0 := Lay.new w 32 #[.slice ar b.ns.reg.length cr, .slice an b.ns.notes.length cn, .int .i64 b.of, .slice am b.ms.length cm, .slice ah b.hs.length ch, .slice as' b.rs.length cs']
 have HL := zF L0
 have LK := zF (And.intro hlook (And.intro hlookn hkind))
 have HB := zF (h.ext hb1)
 have HS := zF (zI zN hb1 hS)
 have HW := zF hb1
 clear h hS hb1 L0 hlook hlookn hkind
 have k0 := HL.out.cell 0 _ rfl
 have k1 := HL.out.cell 1 _ rfl
 have k2 := HL.out.cell 2 _ rfl
 have k3 := HL.out.cell 3 _ rfl
 have k4 := HL.out.cell 4 _ rfl
 have k5 := HL.out.cell 5 _ rfl
 go_enter func4, ntmps4
 go_wp2_with fail
 clear k0 k1 k2 k3 k4 k5
 generalize w.alloc _ = w1 at *
 refine (great08 _ _ _ _ _ _ b HB.out).mono ?_
 intro e w2 hgreat
 rcases hgreat.both with ⟨g1, rfl, hb2⟩ | ⟨g1, rfl, hb2⟩
 ·clear hgreat
  go_wp2
  go_ret
  exact ⟨rfl, zA HW.out hb2⟩
 clear hgreat
 have HT := zF (Classical.byContradiction g1)
 clear g1
 have HW := zF (zA HW.out hb2)
 have HL := zF (HL.out.ext hb2)
 have HB := zF (HB.out.ext hb2)
 have HS := zF (zI zN hb2 HS.out)
 clear hb2
 by_cases h40 : 40 < S.length
 ·go_wp2
  go_ret
  exact ⟨rfl, HW.out⟩
 have k0 := HL.out.cell 0 _ rfl
 have k1 := HL.out.cell 1 _ rfl
 have k2 := HL.out.cell 2 _ rfl
 have k3 := HL.out.cell 3 _ rfl
 have k4 := HL.out.cell 4 _ rfl
 have k5 := HL.out.cell 5 _ rfl
 go_wp2_with fail
 clear k0 k1 k2 k3 k4 k5
 refine (twin08 _ _ _ _ _ _ b HB.out HT.out).mono ?_
 rintro e w3 ⟨ur, un, um, uh, us, rfl, hN, -, hb2, hcr, hcn, hch⟩
 have HO := zF hN
 obtain ⟨ar1, cr1, rfl, _⟩ := zD hN.reg
 obtain ⟨an1, cn1, rfl, _⟩ := zD hN.notes
 obtain ⟨am1, cm1, rfl, _⟩ := zD hN.ms
 obtain ⟨ah1, ch1, rfl, _⟩ := zD hN.hs
 obtain ⟨az1, cz1, rfl, _⟩ := zD hN.rs
 have HC := zF (And.intro hcr (And.intro hcn hch))
 have HW := zF (zA HW.out hb2)
 have HL := zF (HL.out.ext hb2)
 have HB := zF (HB.out.ext hb2)
 have HS := zF (zI zN hb2 HS.out)
 have hba := zB w3 (.cells #[] 3)
 have hown : (w3.alloc (.cells #[] 3)).ownsRow w3.heap.size 3 1 (.slice (some ⟨w3.heap.size, 0, none⟩) 0 0) 0 [] := World.ownsRow_lit w3 #[] 0 (Nat.le_refl _) (by decide) rfl
 have HSA := zF (zI zN hba HS.out)
 have HBA := zF hba
 have HOWN := zF hown
 clear hN hcr hcn hch hb2 hba hown
 have hmine : ∃ u w4, (Builtin.append_ #[28, 28] 28 #[.slice (some ⟨w3.heap.size, 0, none⟩) 0 0, .slice az S.length cz]).run prog (w3.alloc (.cells #[] 3)) = .ok u w4 ∧ Hid (Sl zAJ 1 w4 u S ∧ Below w3.heap.size w3 w4) := by
  by_cases hz : S = []
  ·subst hz
   exact ⟨_, _, zFN _ 28 28 3 i0 underlying28 hif _ _ _, zF ⟨zGS _ _ _ _ _, HBA.out⟩⟩
  ·have hp : 0 < S.length := List.length_pos_iff.2 hz
   obtain ⟨b', o', rfl, _⟩ := (zZ HSA.out).2 0 hp
   obtain ⟨u, w4, hr, hown, hg, _⟩ := run_append_own _ _ 28 28 3 i0 (.int .i64 0) 1 8 underlying28 hif iz0 iz1 iz2 rfl (by decide) _ _ _ HOWN.out ⟨b', o', none⟩ S.length cz (S.map (Value.int .i64)) (by simp) (int_cells HSA.out) (by intro u hu; obtain ⟨y, _, rfl⟩ := List.mem_map.1 hu; rfl) (by unfold maxLen; omega) (by omega) (by simp)
   have hI : ∀ y ∈ S, I64 y := fun y hy => by
    obtain ⟨j, hj, rfl⟩ := List.getElem_of_mem hy
    obtain ⟨_, _, _, _, hI⟩ := (zZ HSA.out).2 j hj
    exact hI
   rw [List.nil_append, Nat.zero_add] at hown
   exact ⟨u, w4, hr, zF ⟨zBG hown hI, HBA.out.grown hg HBA.out.size (fun r e => (HOWN.out.lt r e).1)⟩⟩
 obtain ⟨u, w4, hap, HM⟩ := hmine
 obtain ⟨au, cu, rfl, _⟩ := zD HM.out.1
 have hb2 := HM.out.2
 have HW := zF (zA HW.out hb2)
 have HL := zF (HL.out.ext hb2)
 have HB := zF (HB.out.ext hb2)
 have HS := zF (zI zN hb2 HS.out)
 have HO := zF (HO.out.ext hb2)
 have LK := zF (And.intro (LK.out.1.ext HW.out) (And.intro (LK.out.2.1.ext HW.out) (LK.out.2.2.ext HW.out)))
 clear hb2 HSA HBA HOWN
 have HAP := zF hap
 clear hap
 go_wp2_with (at_builtin; refine Lib.wpList_append_run _ rfl _ _ _ _ rfl _ _ rfl rfl _ _ HAP.out ?_)
 clear HAP
 have hb2 := zB w4 (.cells #[.slice ar1 b.ns.reg.length cr1, .slice an1 b.ns.notes.length cn1, .int .i64 b.of, .slice am1 b.ms.length cm1, .slice ah1 b.hs.length ch1, .slice az1 b.rs.length cz1] 32)
 have l5 := Lay.new w4 32 #[.slice ar1 b.ns.reg.length cr1, .slice an1 b.ns.notes.length cn1, .int .i64 b.of, .slice am1 b.ms.length cm1, .slice ah1 b.hs.length ch1, .slice az1 b.rs.length cz1]
 have HW := zF (zA HW.out hb2)
 have HL := zF (HL.out.ext hb2)
 have HB := zF (HB.out.ext hb2)
 have HS := zF (zI zN hb2 HS.out)
 have HO := HO.out.ext hb2
 have HM := zF (zI zN hb2 HM.out.1)
 have HK := zF (LK.out.2.2.ext hb2)
 have HA := zF (show BuiltArg (w4.alloc (.cells #[.slice ar1 b.ns.reg.length cr1, .slice an1 b.ns.notes.length cn1, .int .i64 b.of, .slice am1 b.ms.length cm1, .slice ah1 b.hs.length ch1, .slice az1 b.rs.length cz1] 32)) _ _ _ _ _ b from ⟨⟨⟨HO.at.reg, HC.out.1, LK.out.1.ext hb2⟩, HO.at.notes, HC.out.2.1⟩, HO.at, HC.out.2.2, LK.out.2.1.ext hb2⟩)
 have HL5 := zF l5
 clear hb2 HO HC LK l5
 generalize hg5 : w4.heap.size = g5 at *
 generalize w4.alloc _ = w5 at *
 clear hg5
 refine (signed_built _ _ _ _ _ _ b HA.out HK.out).mono ?_
 rintro e w6 ⟨l, rfl, hl, hb2⟩
 obtain ⟨al, cl, rfl, _⟩ := zD hl
 have HW := zF (zA HW.out hb2)
 have HL := zF (HL.out.ext hb2)
 have HB := zF (HB.out.ext hb2)
 have HS := zF (zI zN hb2 HS.out)
 have HM := zF (zI zN hb2 HM.out)
 have HK := zF (HK.out.ext hb2)
 have HA := zF (HA.out.ext hb2)
 have HL5 := zF (HL5.out.ext hb2)
 have H1 := zF hl
 clear hb2 hl
 have k0 := HL.out.cell 0 _ rfl
 have k1 := HL.out.cell 1 _ rfl
 have k2 := HL.out.cell 2 _ rfl
 have k3 := HL.out.cell 3 _ rfl
 have k4 := HL.out.cell 4 _ rfl
 have k5 := HL.out.cell 5 _ rfl
 go_wp2_with fail
 clear k0 k1 k2 k3 k4 k5
 refine (signed08 _ _ _ _ _ _ b HB.out).mono ?_
 rintro e w7 ⟨m, rfl, hm, hb2⟩
 obtain ⟨am', cm', rfl, _⟩ := zD hm
 have HW := zF (zA HW.out hb2)
 have HL := zF (HL.out.ext hb2)
 have HB := zF (HB.out.ext hb2)
 have HS := zF (zI zN hb2 HS.out)
 have HM := zF (zI zN hb2 HM.out)
 have HK := zF (HK.out.ext hb2)
 have HA := zF (HA.out.ext hb2)
 have HL5 := zF (HL5.out.ext hb2)
 have H1 := zF (zI zCC hb2 H1.out)
 have H2 := zF hm
 clear hb2 hm
 have k0 := HL5.out.cell 0 _ rfl
 have k1 := HL5.out.cell 1 _ rfl
 have k2 := HL5.out.cell 2 _ rfl
 have k3 := HL5.out.cell 3 _ rfl
 have k4 := HL5.out.cell 4 _ rfl
 have k5 := HL5.out.cell 5 _ rfl
 go_wp2_with fail
 clear k0 k1 k2 k3 k4 k5
 refine (counts_built _ _ _ _ _ _ _ b S x HA.out HK.out HM.out hx).mono ?_
 rintro e w8 ⟨rfl, hb2⟩
 have HW := zF (zA HW.out hb2)
 have HL := zF (HL.out.ext hb2)
 have HB := zF (HB.out.ext hb2)
 have HS := zF (zI zN hb2 HS.out)
 have HM := zF (zI zN hb2 HM.out)
 have HK := zF (HK.out.ext hb2)
 have HA := zF (HA.out.ext hb2)
 have HL5 := zF (HL5.out.ext hb2)
 have H1 := zF (zI zCC hb2 H1.out)
 have H2 := zF (zI zCC hb2 H2.out)
 clear hb2
 have hb2 := zB w8 (.cells #[.int .i64 (tellS b S x).lo, .int .i64 (tellS b S x).hi] 38)
 have l1 := Lay.new w8 38 #[.int .i64 (tellS b S x).lo, .int .i64 (tellS b S x).hi]
 have HW := zF (zA HW.out hb2)
 have HL := zF (HL.out.ext hb2)
 have HB := zF (HB.out.ext hb2)
 have HS := zF (zI zN hb2 HS.out)
 have HM := zF (zI zN hb2 HM.out)
 have HK := zF (HK.out.ext hb2)
 have HA := zF (HA.out.ext hb2)
 have HL5 := zF (HL5.out.ext hb2)
 have H1 := zF (zI zCC hb2 H1.out)
 have H2 := zF (zI zCC hb2 H2.out)
 have HS1 := zF l1
 clear hb2 l1
 have k0 := HL.out.cell 0 _ rfl
 have k1 := HL.out.cell 1 _ rfl
 have k2 := HL.out.cell 2 _ rfl
 have k3 := HL.out.cell 3 _ rfl
 have k4 := HL.out.cell 4 _ rfl
 have k5 := HL.out.cell 5 _ rfl
 go_wp2_with fail
 clear k0 k1 k2 k3 k4 k5
 generalize hg1 : w8.heap.size = g1 at *
 generalize w8.alloc _ = w9 at *
 clear hg1
 refine (counts08_all _ _ _ _ _ _ _ b S x HB.out HS.out).mono ?_
 rintro e w10 ⟨rfl, hb2⟩
 have HW := zF (zA HW.out hb2)
 have HL := zF (HL.out.ext hb2)
 have HB := zF (HB.out.ext hb2)
 have HS := zF (zI zN hb2 HS.out)
 have HM := zF (zI zN hb2 HM.out)
 have HK := zF (HK.out.ext hb2)
 have HA := zF (HA.out.ext hb2)
 have HL5 := zF (HL5.out.ext hb2)
 have H1 := zF (zI zCC hb2 H1.out)
 have H2 := zF (zI zCC hb2 H2.out)
 have HS1 := zF (HS1.out.ext hb2)
 clear hb2
 have hb2 := zB w10 (.cells #[.int .i64 (tellS b S x).lo, .int .i64 (tellS b S x).hi] 38)
 have l1 := Lay.new w10 38 #[.int .i64 (tellS b S x).lo, .int .i64 (tellS b S x).hi]
 have HW := zF (zA HW.out hb2)
 have HL := zF (HL.out.ext hb2)
 have HB := zF (HB.out.ext hb2)
 have HS := zF (zI zN hb2 HS.out)
 have HM := zF (zI zN hb2 HM.out)
 have HK := zF (HK.out.ext hb2)
 have HA := zF (HA.out.ext hb2)
 have HL5 := zF (HL5.out.ext hb2)
 have H1 := zF (zI zCC hb2 H1.out)
 have H2 := zF (zI zCC hb2 H2.out)
 have HS1 := zF (HS1.out.ext hb2)
 have HS2 := zF l1
 clear hb2 l1
 go_wp2
 generalize hg2 : w10.heap.size = g2 at *
 generalize w10.alloc _ = w11 at *
 clear hg2
 have k0 := zG (HL5.out.cell 0 _ rfl)
 have k1 := zG (HL5.out.cell 1 _ rfl)
 have k2 := zG (HL5.out.cell 2 _ rfl)
 have k3 := zG (HL5.out.cell 3 _ rfl)
 have k4 := zG (HL5.out.cell 4 _ rfl)
 have k5 := zG (HL5.out.cell 5 _ rfl)
 have j0 := zG (HL.out.cell 0 _ rfl)
 have j1 := zG (HL.out.cell 1 _ rfl)
 have j2 := zG (HL.out.cell 2 _ rfl)
 have j3 := zG (HL.out.cell 3 _ rfl)
 have j4 := zG (HL.out.cell 4 _ rfl)
 have j5 := zG (HL.out.cell 5 _ rfl)
 have s0 := zG (HS1.out.cell 0 _ rfl)
 have s1 := zG (HS1.out.cell 1 _ rfl)
 have t0 := zG (HS2.out.cell 0 _ rfl)
 have t1 := zG (HS2.out.cell 1 _ rfl)
 refine zAW (by kernel_rfl) (by kernel_rfl) (no_implicit_lambda% ?_)
 repeat ((with_reducible refine wpQuiet_step (fun K hK => ?_)); go_simp; first | ((with_reducible refine hK _ ?_); clear hK K) | (refine hK _ (no_implicit_lambda% ?_); clear hK K) | (apply Exists.intro; (with_reducible refine ⟨fun _ => ?_, hK _ ?_⟩); (first | (go_at_call 20; exact Calls.quiet_later (check_built _ _ _ _ _ _ b (HA.out.ext (zE _ _)))) | (go_at_call 21; exact Calls.quiet_later (check08 _ _ _ _ _ _ b (HB.out.ext (zE _ _)))) | (go_at_call 22; exact Calls.quiet_later (sameLists08 _ _ _ (signedL b) (zI zCC (zE _ _) H1.out) (zI zCC (zE _ _) H2.out))) | (go_at_call 15; exact Calls.quiet_later (sameBuilt08 _ _ _ _ _ _ _ _ _ _ _ b (HA.out.at_.ext (zE _ _)) (HB.out.ext (zE _ _)))) | (go_at_call 23; exact Calls.quiet_later (sameInts02 _ _ _ S (zI zN (zE _ _) HM.out) (zI zN (zE _ _) HS.out)))); clear hK K))
 with_reducible refine wpQuiet_nil ?_
 intro _ hw9
 obtain ⟨xq, hw8⟩ := hw9
 subst hw8
 clear k0 k1 k2 k3 k4 k5 j0 j1 j2 j3 j4 j5 s0 s1 t0 t1
 go_wp2
 go_ret
 exact ⟨rfl, zA HW.out (zE _ _)⟩
end Go.Proofs.YtpolpdegpbahiaaGreatDoor
