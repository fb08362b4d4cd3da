/- The program: whether a machine has a piece of an issue. -/
import Derived.Test.YtpolpdegpbahiaaGreatDoorM39
import Derived.Test.YtpolpdegpbahiaaGreatDoorM40
set_option linter.all false
set_option maxRecDepth 100000
set_option maxHeartbeats 12800000

namespace Go.Proofs.YtpolpdegpbahiaaGreatDoor
open Tryz
section
open Go.RowKit Go.Shelf
attribute [local go_sem] zAN Oper.grows Oper.growUpon
theorem parts_built (w : World) (vr vn vm vh vs : Value) (b : Built) (m : Int) (hA : BuiltArg w vr vn vm vh vs b) (hK : KindsAt w) :
  Calls prog 12 #[.agg #[vr, vn, .int .i64 b.of, vm, vh, vs], .int .i64 m] w fun e w' => ∃ u, e = .returned (.tuple #[u, .int .i64 (zBA b m)]) ∧ Sl zOP 4 w' u (zKV b m) ∧ Below w.heap.size w w' := by
 obtain ⟨l0, hlf, lz0, lz1, lz2⟩ := info_parts infoHold
 obtain ⟨ar, cr, rfl, _⟩ := zD hA.at_.reg
 obtain ⟨an, cn, rfl, _⟩ := zD hA.at_.notes
 obtain ⟨am, cm, rfl, _⟩ := zD hA.at_.ms
 obtain ⟨ah, ch, rfl, _⟩ := zD hA.at_.hs
 obtain ⟨as', cs', rfl, _⟩ := zD hA.at_.rs
 have hmm := @run_makeMap prog
 have hb1 := zB w (.cells #[.slice ar b.ns.reg.length cr, .slice an b.ns.notes.length cn, .int .i64 b.of, .slice am b.ms.length cm, .slice ah b.hs.length ch, .slice as' b.rs.length cs'] 32)
 have hbox := Lay.new w 32 #[.slice ar b.ns.reg.length cr, .slice an b.ns.notes.length cn, .int .i64 b.of, .slice am b.ms.length cm, .slice ah b.hs.length ch, .slice as' b.rs.length cs']
 have hl1 : (w.alloc (.cells #[.slice ar b.ns.reg.length cr, .slice an b.ns.notes.length cn, .int .i64 b.of, .slice am b.ms.length cm, .slice ah b.hs.length ch, .slice as' b.rs.length cs'] 32)).heap.size = w.heap.size + 1 := World.size_alloc _ _
 have HBW := zF hb1
 have HBOX := zF hbox
 have HA := zF (hA.ext hb1)
 have HK := zF (hK.ext hb1)
 clear hb1 hbox hA hK
 have c3 := HBOX.out.cell 3 _ rfl
 go_enter func12, ntmps12
 go_wp2_with fail
 generalize w.alloc _ = w1 at *
 refine (zJM w1 _ b.ms m HA.out.at_.ms).mono ?_
 rintro e w' ⟨rfl, rfl⟩
 have hb4 := zB w1 (.cells #[.int .i64 (zJA b.ms m)] 3)
 have hat := Lay.new w1 3 #[.int .i64 (zJA b.ms m)]
 rw [hl1] at hat
 have HAT := zF hat
 have HBOX := zF (HBOX.out.ext hb4)
 have HA := zF (HA.out.ext hb4)
 have HK := zF (HK.out.ext hb4)
 have HBW := zF (zA HBW.out hb4)
 have k0 := HBOX.out.cell 0 _ rfl
 have k1 := HBOX.out.cell 1 _ rfl
 have k2 := HBOX.out.cell 2 _ rfl
 have k3 := HBOX.out.cell 3 _ rfl
 have k4 := HBOX.out.cell 4 _ rfl
 have k5 := HBOX.out.cell 5 _ rfl
 clear hb4 hat c3
 go_wp2_with fail
 clear k0 k1 k2 k3 k4 k5 hl1
 generalize w1.alloc _ = w5 at *
 have hright : zM b = 0 → ∀ w', Below w5.heap.size w5 w' → Calls prog 48 #[.pointer (some ⟨w.heap.size + 1, 0, none⟩)] w' fun e w'' => e = .returned (.int .i64 (if 0 ≤ zJA b.ms m then 0 else 2)) ∧ Below w'.heap.size w' w'' :=
  fun hv w' hb => (rightP_built w' _ (zJA b.ms m) (zC hb (HAT.out.cell 0 _ rfl))).mono (fun e w'' ⟨h1, h2⟩ => ⟨h1, h2 ▸ br_⟩)
 refine (some_built w5 _ _ _ _ _ b 48 _ (if 0 ≤ zJA b.ms m then 0 else 2) HA.out HK.out enter_rightP hright).mono ?_
 clear hright
 rintro e w2 ⟨hb2, v, rfl, ⟨a, n, q, rfl⟩, hf⟩
 rw [someC_ask] at hf ⊢
 have HF := zF hf
 have HAT := zF (HAT.out.ext hb2)
 have HBOX := zF (HBOX.out.ext hb2)
 have HA := zF (HA.out.ext hb2)
 have HBW := zF (zA HBW.out hb2)
 clear hf hb2
 by_cases hc : zBA b m = 0
 case neg =>
  have hc' : (zBA b m != 0) = true := by simpa using hc
  have hS : Hid (zKV b m = []) := by unfold Hid zKV; rw [if_neg hc]
  clear hc
  go_wp2
  go_ret2
  exact ⟨_, rfl, by rw [hS.out]; exact sl_none _ _ _, HBW.out⟩
 case pos =>
  have HC := zF hc
  obtain ⟨hv, hm⟩ := ask_ok (.inl hc)
  have HV := zF hv
  have hi : b.ms.idxOf m < b.ms.length := List.idxOf_lt_length_of_mem hm
  have hmi : Hid (b.ms[b.ms.idxOf m]? = some m) := by unfold Hid; rw [List.getElem?_eq_getElem hi, List.getElem_idxOf]
  have hls := zAR (zJU hv).1
  have HLS := zF hls
  have hord : Hid (∀ k, k < b.ns.reg.length → zIC b.ns.reg k) := fun k hk => (hls.2.1 k hk).2
  have hR60 : b.ns.reg.length ≤ 60 := by have := hls.1.2; omega
  have hS : Hid (zKV b m = zEG b m b.ns.reg.length) := by unfold Hid zKV; rw [if_pos hc, zLV]
  obtain ⟨n1, fs, hFi, h32, hpos⟩ := HF.out hc
  have HFI := zF hFi
  have hidx := zF (idxI_is hm)
  have HM := zF hm
  have k0 := HBOX.out.alloc (.map #[] 0) |>.cell 0 _ rfl
  rw [hc]
  have hbm := zB w2 (.map #[] 0)
  have hM0 := mapS_made w2
  clear hc hv hm hi hls hFi HF
  go_wp2
  clear k0 hmm
  go_loopw [38] (fun i wr => ∃ k : Nat, i = .int .i64 k ∧ k ≤ b.ns.reg.length ∧ Hid (MapS wr w2.heap.size k (zIZ b m k)) ∧ Hid (Below w2.heap.size w2 wr)) (fun i _ => b.ns.reg.length - (intOf i).toNat)
  case atStart => exact ⟨0, rfl, by omega, zF (hM0.eqv (fun d l _ _ => by rw [partF_zero])), zF hbm⟩
  case round =>
   clear hM0 hbm
   obtain ⟨k, rfl, hk, HMP, HB⟩ := hrel
   by_cases hlt : k < b.ns.reg.length
   case pos =>
    obtain ⟨bi, oi, rfl, ⟨q0, q1, q2⟩, hnum, vi, vd, q3, q4, si, sd⟩ := (zZ (zI zP HB.out HA.out.at_.reg)).2 k hlt
    have hdn : b.ns.reg[k].d ∈ nums b.ns.reg := zMM _ (fun j hj => (HLS.out.2.1 j hj).2) k hlt
    have hpt := part_at hord.out hlt
    have hk3 := (zJU HV.out).2 _ (List.getElem_mem hlt)
    have hyes := zF (partF_yes (b := b) (m := m) hlt)
    have hno := zF (partF_no (b := b) hord.out (m := m) hlt)
    have hnn := piecesR_nn HV.out (zBH b) m b.ns.reg[k].d b.ns.reg[k].l
    have hpb := zNZ HV.out HM.out (zBH b) b.ns.reg[k].d b.ns.reg[k].l
    have hho : zBX b m b.ns.reg[k] = if 1 < b.ns.reg[k].k ∧ 0 < (zAT b (zBH b) m b.ns.reg[k].d b.ns.reg[k].l).hi then [⟨b.ns.reg[k].d, b.ns.reg[k].l, (zAT b (zBH b) m b.ns.reg[k].d b.ns.reg[k].l).lo, (zAT b (zBH b) m b.ns.reg[k].d b.ns.reg[k].l).hi⟩] else [] := by
     unfold zBX
     by_cases h : zHO b.ns.reg b.ns.reg[k].d b.ns.reg[k].l ∧ 0 < (zAT b (zBH b) m b.ns.reg[k].d b.ns.reg[k].l).hi
     ·rw [if_pos h, if_pos ⟨hpt.1 h.1, h.2⟩]
     ·rw [if_neg h, if_neg (fun h2 => h ⟨hpt.2 h2.1, h2.2⟩)]
    have HHO := zF hho
    clear hho hpt
    generalize b.ns.reg[k] = x at *
    obtain ⟨ai, ci, rfl, _⟩ := zD si
    obtain ⟨ad, cd, rfl, _⟩ := zD sd
    have hkl : (k : Int) < b.ns.reg.length := by omega
    have hbA := zB wr (.cells #[.int .i64 x.d, .int .i64 x.l, .int .u8 x.k, .slice ai x.items.length ci, .slice ad x.dims.length cd] 107)
    have hX := (Lay.new wr 107 #[.int .i64 x.d, .int .i64 x.l, .int .u8 x.k, .slice ai x.items.length ci, .slice ad x.dims.length cd]).alloc (.cells #[.int .i64 x.d, .int .i64 x.l] 34)
    have hsA : (wr.alloc (.cells #[.int .i64 x.d, .int .i64 x.l, .int .u8 x.k, .slice ai x.items.length ci, .slice ad x.dims.length cd] 107)).heap.size = wr.heap.size + 1 := World.size_alloc _ _
    have hRf := Lay.new (wr.alloc (.cells #[.int .i64 x.d, .int .i64 x.l, .int .u8 x.k, .slice ai x.items.length ci, .slice ad x.dims.length cd] 107)) 34 #[.int .i64 x.d, .int .i64 x.l]
    rw [hsA] at hRf
    have hbB := zA hbA (zB (wr.alloc (.cells #[.int .i64 x.d, .int .i64 x.l, .int .u8 x.k, .slice ai x.items.length ci, .slice ad x.dims.length cd] 107)) (.cells #[.int .i64 x.d, .int .i64 x.l] 34))
    have HX := zF hX
    have HRF := zF hRf
    have HBA := zF (zA HB.out hbB)
    have HMA := zF (HMP.out.ext hbB)
    have hwr := HB.out.size
    have hw2r := HMP.out.lt
    unfold zJ at q0 q1 q2 q3 q4
    clear hbA hX hsA hRf hbB si sd HMP
    go_wp2
    clear q0 q1 q2 q3 q4
    generalize (wr.alloc _).alloc _ = wA at *
    have r0 := zG (show zJ wA (wr.heap.size + 1) 0 _ from HRF.out.cell 0 _ rfl)
    have r1 := zG (show zJ wA (wr.heap.size + 1) 1 _ from HRF.out.cell 1 _ rfl)
    have hcall := zF (fun xq => over_pieces (wA.later xq) 49 (w.heap.size + 1) (wr.heap.size + 1) _ _ _ _ _ _ n1 fs b (b.ms.idxOf m) m x.d x.l enter_parts2
     (fun w' y vz S L h1 h2 h3 h4 => tell_parts w' y _ _ _ _ _ _ _ vz b S L _ m x.d x.l h1 HV.out h2 hmi.out rfl hdn hnum.1 h3 h4) (HFI.out.keepM (zFA (zA HBA.out (zE wA xq)))) (HA.out.ext (zA HBA.out (zE wA xq))).at_ hpos h32
     (by rw [← hidx.out]; exact zC (zA HBA.out (zE wA xq)) (HAT.out.cell 0 _ rfl)) ⟨r0 xq, r1 xq⟩)
    refine zK 5 (by kernel_rfl) (by kernel_rfl) ?_
    simp only [tk_]
    iterate 4 (apply gx_; focus (intro vs xq hd; (try simp [hq_] at hd); simp only [pf_]; go_simp; exact ⟨br_, rfl⟩))
    refine zAE ?_
    apply Exists.intro
    refine ⟨fun vs xq hd => ?_, ?_⟩
    ·(try simp [hq_] at hd)
     simp only [pf_]
     go_simp
     refine (hcall.out xq).mono ?_
     rintro e w9 ⟨rfl, hb9⟩
     exact ⟨rfl, hb9⟩
    refine zT (by simp only [List.length_append, List.length_cons, List.length_nil]) (fun vs xq hd => ?_)
    simp [zV, zAD, List.range, List.range.loop] at hd
    simp only [pf_]
    obtain ⟨e0, e1, e2, e3, e4⟩ := hd
    simp only [Nat.zero_add, Nat.reduceAdd] at e0 e1 e2 e3 e4 ⊢
    simp only [e0, e1, e2, e3, e4]
    have hb8 := zE wA xq
    obtain ⟨w9, hr, hM9, hg9⟩ := mapS_put underlying103 (HMA.out.ext hb8) hnum.1 hnum.2.1 (spV b m x.d x.l) (show k < maxLen by unfold maxLen; omega)
    have hRf9 := (HRF.out.ext hb8).kept hg9 (fun e => by have := Option.some.inj e; omega)
    have hX9 := (HX.out.ext hb8).kept hg9 (fun e => by have := Option.some.inj e; omega)
    have HB9 := zF ((zA HBA.out hb8).grown hg9 (zA HBA.out hb8).size (fun r e => by cases e; exact Nat.le_refl _))
    have hlook := mapS_look underlying103 (Tryz.zeroValue38 w9) hM9 hnum.1 hnum.2.1
    rw [if_pos ⟨rfl, rfl⟩] at hlook
    simp only [Option.getD_some] at hlook
    have hdel := mapS_del underlying103 hM9 hnum.1 hnum.2.1
    have HM9 := zF hM9
    have HDEL := zF hdel
    unfold kRef spV at hr hlook
    have p0 := hRf9.cell 0 _ rfl
    have p1 := hRf9.cell 1 _ rfl
    have y2 := hX9.cell 2 _ rfl
    clear e0 e1 e2 e3 e4 r0 r1 hcall hRf9 hX9 hg9 hM9 hdel hb8
    obtain ⟨plo, hplo⟩ : ∃ z, (zAT b (zBH b) m x.d x.l).lo = z := ⟨_, rfl⟩
    obtain ⟨phi, hphi⟩ : ∃ z, (zAT b (zBH b) m x.d x.l).hi = z := ⟨_, rfl⟩
    rw [hplo, hphi] at hr hlook ⊢
    rw [hphi] at hnn
    have HPH := zF hphi
    clear hplo hphi hpb
    have hfd : ∀ W, (Instr.field 38 (.agg #[.int .i64 plo, .int .i64 phi]) 1).run prog W = .ok (.int .i64 phi) W := fun _ => by kernel_rfl
    have hdrop : Hid ((¬ 1 < x.k ∨ phi = 0) → zBX b m x = []) := fun h => by
     rw [HHO.out, HPH.out, if_neg]
     rintro ⟨h1, h2⟩
     rcases h with h | h <;> omega
    have hkeep : Hid (1 < x.k → phi ≠ 0 → zBX b m x ≠ []) := fun h1 h2 => by
     rw [HHO.out, HPH.out, if_pos ⟨h1, by omega⟩]
     simp
    by_cases hp0 : phi = 0
    ·have hd0 := zF (hdrop.out (.inr hp0))
     have hp0' : (phi == 0) = true := by simpa using hp0
     clear hdrop hkeep hyes hp0
     obtain ⟨w10, hrd, hM10, hg10⟩ := HDEL.out 0
     have HM10 : Hid (MapS w10 w2.heap.size (k + 1) (zIZ b m (k + 1))) := hM10.eqv (fun y z _ _ => hno.out hd0.out (spV b m x.d x.l) y z)
     have HB10 := zF (HB9.out.grown hg10 HB9.out.size (fun r e => by cases e; exact Nat.le_refl _))
     unfold kRef at hrd
     clear hM10 hg10 HDEL HM9
     go_wp2
     go_roundw
     ·exact ⟨k + 1, by go_num, by omega, HM10, HB10⟩
     ·simp [intOf]; omega
    ·have hp0' : (phi == 0) = false := by simpa using hp0
     by_cases hk1 : x.k = 1
     ·have hd0 := zF (hdrop.out (.inl (by omega)))
      have hk1' : (x.k == 1) = true := by simpa using hk1
      clear hdrop hkeep hyes hp0 hk1
      obtain ⟨w10, hrd, hM10, hg10⟩ := HDEL.out 0
      have HM10 : Hid (MapS w10 w2.heap.size (k + 1) (zIZ b m (k + 1))) := hM10.eqv (fun y z _ _ => hno.out hd0.out (spV b m x.d x.l) y z)
      have HB10 := zF (HB9.out.grown hg10 HB9.out.size (fun r e => by cases e; exact Nat.le_refl _))
      unfold kRef at hrd
      clear hM10 hg10 HDEL HM9
      go_wp2
      go_roundw
      ·exact ⟨k + 1, by go_num, by omega, HM10, HB10⟩
      ·simp [intOf]; omega
     ·have hd0 := zF (hkeep.out (by unfold In at hk3; omega) hp0)
      have hk1' : (x.k == 1) = false := by simpa using hk1
      have HM10 : Hid (MapS w9 w2.heap.size (k + 1) (zIZ b m (k + 1))) := HM9.out.eqv (fun y z _ _ => hyes.out hd0.out y z)
      clear hdrop hkeep hno hp0 hk1 HM9 HDEL
      go_wp2
      go_roundw
      ·exact ⟨k + 1, by go_num, by omega, HM10, HB9⟩
      ·simp [intOf]; omega
   case neg =>
    obtain rfl : k = b.ns.reg.length := by omega
    generalize wr = w4 at *
    have k0 := HBOX.out.ext HB.out |>.cell 0 _ rfl
    have HM4 := HMP
    have hw4 := HB.out.size
    go_wp2
    clear k0
    go_loopw [13, 70] (fun q i wr => ∃ k : Nat, i = .int .i64 k ∧ k ≤ b.ns.reg.length ∧ Hid (wr.ownsRow w4.heap.size 110 4 q (zEG b m k).length ((zEG b m k).flatMap encHold)) ∧ Hid (Below w4.heap.size w4 wr)) (fun _ i _ => b.ns.reg.length - (intOf i).toNat)
    case atStart => exact ⟨0, rfl, by omega, zF (World.ownsRow_nil _ _ _ _), zF (br_)⟩
    case round =>
     obtain ⟨k, rfl, hk, HO, HB2⟩ := hrel
     have hle := zNF b m k hk
     by_cases hlt : k < b.ns.reg.length
     case neg =>
      obtain rfl : k = b.ns.reg.length := by omega
      have ho := HO.out
      have hR : ∀ x ∈ b.ns.reg, I64 x.d ∧ I64 x.l := fun x hx => by
       obtain ⟨j, hj, rfl⟩ := List.getElem_of_mem hx
       obtain ⟨_, _, _, _, hn, _⟩ := (zZ HA.out.at_.reg).2 j hj
       exact ⟨hn.1, hn.2.1⟩
      have hbd := holds_bd HV.out HM.out hR
      rw [← zLV] at hbd
      have hsl : Sl zOP 4 wr u13 (zEG b m b.ns.reg.length) := ((zGO (F := IsHold) (enc := encHold) (sz := 4) (w := wr) _ (fun x hx => ⟨rfl, fun _ => ⟨rfl, hbd x hx⟩⟩)).sl ho isHold_at).now
      obtain ⟨aq, cq, rfl, _⟩ := zD hsl
      have HSL := zF hsl
      clear hsl ho hR hbd HO
      go_wp2
      go_ret2
      exact ⟨_, by rw [HC.out]; rfl, by rw [hS.out]; exact HSL.out, zA HBW.out (zA HB.out HB2.out)⟩
     case pos =>
      obtain ⟨bi, oi, rfl, ⟨q0, q1, q2⟩, hnum, vi, vd, q3, q4, si, sd⟩ := (zZ (zI zP (zA HB.out HB2.out) HA.out.at_.reg)).2 k hlt
      have hall := zF (partF_all (b := b) hord.out (m := m) hlt)
      have hsucc := zF (zJD b m hlt)
      have hpb := zNZ HV.out HM.out (zBH b) b.ns.reg[k].d b.ns.reg[k].l
      have hho : Hid (zBX b m b.ns.reg[k] ≠ [] → zBX b m b.ns.reg[k] = [⟨b.ns.reg[k].d, b.ns.reg[k].l, (zAT b (zBH b) m b.ns.reg[k].d b.ns.reg[k].l).lo, (zAT b (zBH b) m b.ns.reg[k].d b.ns.reg[k].l).hi⟩]) := fun h => by
       unfold zBX at h ⊢
       split
       ·rfl
       ·rename_i hn
        rw [if_neg hn] at h
        exact absurd rfl h
      generalize b.ns.reg[k] = x at *
      obtain ⟨ai, ci, rfl, _⟩ := zD si
      obtain ⟨ad, cd, rfl, _⟩ := zD sd
      have hkl : (k : Int) < b.ns.reg.length := by omega
      have hbA := zB wr (.cells #[.int .i64 x.d, .int .i64 x.l, .int .u8 x.k, .slice ai x.items.length ci, .slice ad x.dims.length cd] 107)
      have hbB := zA hbA (zB (wr.alloc (.cells #[.int .i64 x.d, .int .i64 x.l, .int .u8 x.k, .slice ai x.items.length ci, .slice ad x.dims.length cd] 107)) (.cells #[.int .i64 x.d, .int .i64 x.l] 34))
      have hsA : (wr.alloc (.cells #[.int .i64 x.d, .int .i64 x.l, .int .u8 x.k, .slice ai x.items.length ci, .slice ad x.dims.length cd] 107)).heap.size = wr.heap.size + 1 := World.size_alloc _ _
      have hRf := Lay.new (wr.alloc (.cells #[.int .i64 x.d, .int .i64 x.l, .int .u8 x.k, .slice ai x.items.length ci, .slice ad x.dims.length cd] 107)) 34 #[.int .i64 x.d, .int .i64 x.l]
      rw [hsA] at hRf
      have hMA := HM4.out.ext (zA HB2.out hbB)
      have hlook := mapS_look_ok underlying103 (Tryz.zeroValue38 ((wr.alloc (.cells #[.int .i64 x.d, .int .i64 x.l, .int .u8 x.k, .slice ai x.items.length ci, .slice ad x.dims.length cd] 107)).alloc (.cells #[.int .i64 x.d, .int .i64 x.l] 34))) hMA hnum.1 hnum.2.1
      unfold kRef at hlook
      have HRF := zF hRf
      have HBA := zF (zA HB2.out hbB)
      have HOA := zF (zAA hbB HO.out)
      unfold zJ at q0 q1 q2 q3 q4
      clear hbA hbB hsA hRf hMA si sd
      by_cases hh : zBX b m x = []
      ·have hlk := hall.out.2 hh
       rw [hlk] at hlook
       simp only [Option.getD_none, Option.isSome_none] at hlook
       have HH := zF hh
       clear hh hlk hall
       go_wp2
       go_roundw
       ·exact ⟨k + 1, by go_num, by omega, zF (by rw [hsucc.out, HH.out, List.append_nil]; exact zAA (zB _ _) HOA.out), zF (zA HBA.out (zB _ _))⟩
       ·simp [intOf]; omega
      ·have hlk := hall.out.1 hh
       rw [hlk] at hlook
       simp only [Option.getD_some, Option.isSome_some] at hlook
       unfold spV at hlook
       have HH := zF (hho.out hh)
       obtain ⟨plo, hplo⟩ : ∃ z, (zAT b (zBH b) m x.d x.l).lo = z := ⟨_, rfl⟩
       obtain ⟨phi, hphi⟩ : ∃ z, (zAT b (zBH b) m x.d x.l).hi = z := ⟨_, rfl⟩
       rw [hplo, hphi] at hlook HH
       have hs3 : Hid ((((wr.alloc (.cells #[.int .i64 x.d, .int .i64 x.l, .int .u8 x.k, .slice ai x.items.length ci, .slice ad x.dims.length cd] 107)).alloc (.cells #[.int .i64 x.d, .int .i64 x.l] 34)).alloc (.cells #[.int .i64 plo, .int .i64 phi] 38)).heap.size = wr.heap.size + 1 + 1 + 1) := by unfold Hid; rw [World.size_alloc, World.size_alloc, World.size_alloc]
       have hc4 : ∀ j u, [Value.int .i64 x.d, .int .i64 x.l, .int .i64 plo, .int .i64 phi][j]? = some u → ((((wr.alloc (.cells #[.int .i64 x.d, .int .i64 x.l, .int .u8 x.k, .slice ai x.items.length ci, .slice ad x.dims.length cd] 107)).alloc (.cells #[.int .i64 x.d, .int .i64 x.l] 34)).alloc (.cells #[.int .i64 plo, .int .i64 phi] 38)).alloc (.cells #[.int .i64 x.d, .int .i64 x.l, .int .i64 plo, .int .i64 phi] 110)).cell? ((⟨wr.heap.size + 1 + 1 + 1, 0, none⟩ : Addr).add j) = some u := fun j u hj => by
        rw [zBP, ← hs3.out]
        exact zU _ #[.int .i64 x.d, .int .i64 x.l, .int .i64 plo, .int .i64 phi] _ j u (by simpa using hj)
       have hszr := HB2.out.size
       clear hh hlk hall hplo hphi hpb
       go_wp2_with (at_builtin; refine wpList_append_own _ rfl _ _ 48 rfl w4.heap.size 110 l0 (.agg #[.int .i64 0, .int .i64 0, .int .i64 0, .int .i64 0]) 4 32 underlying48 hlf lz0 lz1 lz2 rfl (by decide) _ _ _ rfl ((HOA.out.alloc _).alloc _) ⟨wr.heap.size + 1 + 1 + 1, 0, none⟩ 1 1 [.int .i64 x.d, .int .i64 x.l, .int .i64 plo, .int .i64 phi] rfl rfl hc4 (by intro u hu; simp at hu; rcases hu with rfl | rfl | rfl | rfl <;> rfl) (by unfold maxLen; omega) (by omega) (by simp; omega) ?_; intro v' w7 hown' hgrow _)
       have hbz := zA (zA HBA.out (zB _ (.cells #[.int .i64 plo, .int .i64 phi] 38))) (zB _ (.cells #[.int .i64 x.d, .int .i64 x.l, .int .i64 plo, .int .i64 phi] 110))
       have HB7 := zF (hbz.grown hgrow hbz.size (fun r e => (HOA.out.lt r e).1))
       have HO7 : Hid (w7.ownsRow w4.heap.size 110 4 v' (zEG b m (k + 1)).length ((zEG b m (k + 1)).flatMap encHold)) := by
        unfold Hid
        rw [hsucc.out, HH.out, List.length_append, List.flatMap_append, List.flatMap_singleton]
        exact hown'
       clear hown' hgrow hbz
       go_wp2
       go_roundw
       ·exact ⟨k + 1, by go_num, by omega, HO7, HB7⟩
       ·simp [intOf]; omega
end
section
open Go.RowKit Go.Shelf
attribute [local go_sem] zAN Oper.grows Oper.growUpon
theorem left_some_ne {b : Built} {m d l : Int} (h : zAL b m d l = 0) : zBH b ≠ [] := by
 intro e
 obtain ⟨hv, hm, _⟩ := pieces_ok h
 unfold zAL at h
 have ha : zBA b m = 8 := by unfold zBA; rw [if_neg (by simp [hv]), if_neg (by simp [hm]), if_pos e]
 rw [ha] at h
 split at h <;> cases h
theorem piecesR_le {b : Built} {A : List (List Int)} (h : A ≠ []) (m d l : Int) : (zAT b A m d l).lo ≤ (zAT b A m d l).hi := by
 unfold zAT
 refine spanOf_le fun e => ?_
 cases A with
 | nil => exact h rfl
 | cons S A => rw [List.flatMap_cons] at e; have := congrArg List.length e; simp [zPA] at this
theorem pieceS_le {b : Built} {m d l : Int} (h : zAL b m d l = 0) : (zAY b m d l).lo ≤ (zAY b m d l).hi := by
 unfold zAY
 rw [if_pos h]
 exact piecesR_le (left_some_ne h) m d l
theorem known_built (w : World) (vr vn vm vh vs : Value) (b : Built) (m d l : Int) (hA : BuiltArg w vr vn vm vh vs b) (hK : KindsAt w) (hd64 : I64 d) :
  Calls prog 10 #[.agg #[vr, vn, .int .i64 b.of, vm, vh, vs], .int .i64 m, .agg #[.int .i64 d, .int .i64 l]] w fun e w' => e = .returned (.tuple #[.int .u8 (zFJ (zAY b m d l) (zAL b m d l)), .int .i64 (zAL b m d l)]) ∧ Below w.heap.size w w' := by
 obtain ⟨ar, cr, rfl, _⟩ := zD hA.at_.reg
 obtain ⟨an, cn, rfl, _⟩ := zD hA.at_.notes
 obtain ⟨am, cm, rfl, _⟩ := zD hA.at_.ms
 obtain ⟨ah, ch, rfl, _⟩ := zD hA.at_.hs
 obtain ⟨as', cs', rfl, _⟩ := zD hA.at_.rs
 have hb1 := zB w (.cells #[.slice ar b.ns.reg.length cr, .slice an b.ns.notes.length cn, .int .i64 b.of, .slice am b.ms.length cm, .slice ah b.hs.length ch, .slice as' b.rs.length cs'] 32)
 have hbox := Lay.new w 32 #[.slice ar b.ns.reg.length cr, .slice an b.ns.notes.length cn, .int .i64 b.of, .slice am b.ms.length cm, .slice ah b.hs.length ch, .slice as' b.rs.length cs']
 have hl1 : (w.alloc (.cells #[.slice ar b.ns.reg.length cr, .slice an b.ns.notes.length cn, .int .i64 b.of, .slice am b.ms.length cm, .slice ah b.hs.length ch, .slice as' b.rs.length cs'] 32)).heap.size = w.heap.size + 1 := World.size_alloc _ _
 generalize hw0 : w.alloc (.cells #[.slice ar b.ns.reg.length cr, .slice an b.ns.notes.length cn, .int .i64 b.of, .slice am b.ms.length cm, .slice ah b.hs.length ch, .slice as' b.rs.length cs'] 32) = w0 at hb1 hbox hl1
 have hb2 := zB w0 (.cells #[.int .i64 d, .int .i64 l] 34)
 have href := Lay.new w0 34 #[.int .i64 d, .int .i64 l]
 rw [hl1] at href
 have HBW := zF (zA hb1 hb2)
 have hbx := hbox.ext hb2
 have HA := zF (hA.ext HBW.out)
 have HK := zF (hK.ext HBW.out)
 have k0 := hbx.cell 0 _ rfl
 have k1 := hbx.cell 1 _ rfl
 have k2 := hbx.cell 2 _ rfl
 have k3 := hbx.cell 3 _ rfl
 have k4 := hbx.cell 4 _ rfl
 have k5 := hbx.cell 5 _ rfl
 have r0 := href.cell 0 _ rfl
 have r1 := href.cell 1 _ rfl
 clear hb1 hb2 hbox href hA hK hbx hl1
 subst hw0
 go_enter func10, ntmps10
 go_wp2_with fail
 clear k0 k1 k2 k3 k4 k5 r0 r1
 generalize (w.alloc _).alloc _ = w1 at *
 refine (zOS w1 _ _ _ _ _ b m d l HA.out HK.out hd64).mono ?_
 rintro e w2 ⟨rfl, hb2⟩
 have HBW := zF (zA (zA HBW.out hb2) (zB w2 (.cells #[.int .i64 (zAY b m d l).lo, .int .i64 (zAY b m d l).hi] 38)))
 clear hb2 HA HK
 have hle := fun h => pieceS_le (b := b) (m := m) (d := d) (l := l) h
 obtain ⟨slo, h1⟩ : ∃ z, (zAY b m d l).lo = z := ⟨_, rfl⟩
 obtain ⟨shi, h2⟩ : ∃ z, (zAY b m d l).hi = z := ⟨_, rfl⟩
 obtain ⟨c, h3⟩ : ∃ z, zAL b m d l = z := ⟨_, rfl⟩
 rw [h1, h2] at HBW; rw [h1, h2, h3] at hle; rw [h1, h2, h3]
 have HE := zF (And.intro h1 (And.intro h2 h3))
 clear h1 h2 h3
 by_cases hc : c = 0
 case neg =>
  have hc' : (c != 0) = true := by simpa using hc
  have hk : Hid (zFJ (zAY b m d l) (zAL b m d l) = 0) := by unfold Hid zFJ; rw [HE.out.2.2, if_pos hc]
  clear hc hle
  go_wp2
  go_ret2
  exact ⟨by rw [hk.out, HE.out.2.2]; rfl, HBW.out⟩
 case pos =>
  have hl := hle hc
  subst hc
  clear hle
  by_cases h0 : shi = 0
  ·subst h0
   have hk : Hid (zFJ (zAY b m d l) (zAL b m d l) = 0) := by unfold Hid zFJ; rw [HE.out.1, HE.out.2.1, HE.out.2.2, if_neg (by simp), if_neg (by omega), if_pos rfl]
   go_wp2
   go_ret2
   exact ⟨by rw [hk.out, HE.out.2.2]; rfl, HBW.out⟩
  ·have h0' : (shi == 0) = false := by simpa using h0
   by_cases h1 : 0 < slo
   ·have hk : Hid (zFJ (zAY b m d l) (zAL b m d l) = 2) := by unfold Hid zFJ; rw [HE.out.1, HE.out.2.2, if_neg (by simp), if_pos h1]
    clear h0
    go_wp2
    go_ret2
    exact ⟨by rw [hk.out, HE.out.2.2]; rfl, HBW.out⟩
   ·have hk : Hid (zFJ (zAY b m d l) (zAL b m d l) = 1) := by unfold Hid zFJ; rw [HE.out.1, HE.out.2.1, HE.out.2.2, if_neg (by simp), if_neg h1, if_neg h0]
    clear h0
    go_wp2
    go_ret2
    exact ⟨by rw [hk.out, HE.out.2.2]; rfl, HBW.out⟩
end
end Go.Proofs.YtpolpdegpbahiaaGreatDoor
