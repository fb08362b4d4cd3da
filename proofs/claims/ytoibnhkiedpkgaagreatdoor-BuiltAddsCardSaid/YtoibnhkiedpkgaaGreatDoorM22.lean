/- The law's walk: what was handed in stays, and true is answered. -/
import Derived.Test.YtoibnhkiedpkgaaGreatDoorM19
import Derived.Test.YtoibnhkiedpkgaaGreatDoorM21
set_option linter.unusedVariables false
set_option linter.unusedSimpArgs false
set_option linter.all false

namespace Go.Proofs.YtoibnhkiedpkgaaGreatDoor
open Go.RowKit

/-- True is answered, and what lay there stays. -/
def RetT (w : World) (e : Ending) (w' : World) : Prop := e = .returned (.bool true) ∧ Below w.heap.size w w'

set_option maxRecDepth 100000 in
set_option maxHeartbeats 6400000 in
theorem law_walk (w : World) (vr vn vm vh vs : Value) (b : Built) (r : Report) (h : BuiltAt w vr vn vm vh vs b) (hlook : Looks w) (hlookn : LooksN w) (hr : RNum r) :
    Calls Tryz.prog 3 #[.agg #[vr, vn, .int .i64 b.of, vm, vh, vs], .agg #[.int .i64 r.num, .int .i64 r.m, .int .i64 r.d, .int .i64 r.l, .int .u8 r.k]] w (RetT w) := by
  obtain ⟨ar, cr, rfl, _⟩ := sl_shape h.reg
  obtain ⟨an, cn, rfl, _⟩ := sl_shape h.notes
  obtain ⟨am, cm, rfl, _⟩ := sl_shape h.ms
  obtain ⟨ah, ch, rfl, _⟩ := sl_shape h.hs
  obtain ⟨az, cz, rfl, _⟩ := sl_shape h.rs
  have hb1 := below_alloc w (.cells #[.slice ar b.ns.reg.length cr, .slice an b.ns.notes.length cn, .int .i64 b.of, .slice am b.ms.length cm, .slice ah b.hs.length ch, .slice az b.rs.length cz] 32)
  have L0 := Lay.new w 32 #[.slice ar b.ns.reg.length cr, .slice an b.ns.notes.length cn, .int .i64 b.of, .slice am b.ms.length cm, .slice ah b.hs.length ch, .slice az b.rs.length cz]
  have L1 := Lay.new (w.alloc (.cells #[.slice ar b.ns.reg.length cr, .slice an b.ns.notes.length cn, .int .i64 b.of, .slice am b.ms.length cm, .slice ah b.hs.length ch, .slice az b.rs.length cz] 32)) 34 #[.int .i64 r.num, .int .i64 r.m, .int .i64 r.d, .int .i64 r.l, .int .u8 r.k]
  have hb2 := below_alloc (w.alloc (.cells #[.slice ar b.ns.reg.length cr, .slice an b.ns.notes.length cn, .int .i64 b.of, .slice am b.ms.length cm, .slice ah b.hs.length ch, .slice az b.rs.length cz] 32)) (.cells #[.int .i64 r.num, .int .i64 r.m, .int .i64 r.d, .int .i64 r.l, .int .u8 r.k] 34)
  replace L0 := L0.ext hb2
  rw [World.size_alloc] at L1
  have hbe := below_trans hb1 hb2
  have c0 := L0.cell 0 _ rfl
  have c1 := L0.cell 1 _ rfl
  have c2 := L0.cell 2 _ rfl
  have c3 := L0.cell 3 _ rfl
  have c4 := L0.cell 4 _ rfl
  have c5 := L0.cell 5 _ rfl
  have LK := Lib.hid (And.intro hlook hlookn)
  have H0 := Lib.hid h
  clear h hb1 hb2 hlook hlookn
  go_enter Tryz.func3, Tryz.ntmps3
  go_wp2_with fail
  clear c0 c1 c2 c3 c4 c5
  have hsz : w.heap.size + 1 < ((w.alloc (.cells #[.slice ar b.ns.reg.length cr, .slice an b.ns.notes.length cn, .int .i64 b.of, .slice am b.ms.length cm, .slice ah b.hs.length ch, .slice az b.rs.length cz] 32)).alloc (.cells #[.int .i64 r.num, .int .i64 r.m, .int .i64 r.d, .int .i64 r.l, .int .u8 r.k] 34)).heap.size := L1.lt
  generalize (w.alloc _).alloc _ = w1 at *
  generalize hg3 : w.heap.size + 1 = g3 at *
  have hgw : w.heap.size < g3 := by omega
  clear hg3
  refine (great08 _ _ _ _ _ _ b (H0.out.ext hbe)).mono ?_
  intro e w2 hgreat
  rcases hgreat.both with ⟨g1, rfl, hb2⟩ | ⟨g1, rfl, hb2⟩
  · clear hgreat
    go_wp2
    go_ret
    exact ⟨rfl, below_trans hbe hb2⟩
  clear hgreat
  have HT := Lib.hid (Classical.byContradiction g1)
  clear g1
  replace hbe := below_trans hbe hb2
  replace L0 := L0.ext hb2
  replace L1 := L1.ext hb2
  clear hb2 hsz
  generalize w1.heap.size = z1 at *
  have c0 := L0.cell 0 _ rfl
  have c1 := L0.cell 1 _ rfl
  have c2 := L0.cell 2 _ rfl
  have c3 := L0.cell 3 _ rfl
  have c4 := L0.cell 4 _ rfl
  have c5 := L0.cell 5 _ rfl
  go_wp2_with fail
  clear c0 c1 c2 c3 c4 c5
  refine (twin08 _ _ _ _ _ _ b (H0.out.ext hbe) HT.out).mono ?_
  rintro e w3 ⟨ur, un, um, uh, us, rfl, hN, -, hb3, hcr, hcn, hch⟩
  have HO := Lib.hid hN
  obtain ⟨ar1, cr1, rfl, _⟩ := sl_shape hN.reg
  obtain ⟨an1, cn1, rfl, _⟩ := sl_shape hN.notes
  obtain ⟨am1, cm1, rfl, _⟩ := sl_shape hN.ms
  obtain ⟨ah1, ch1, rfl, _⟩ := sl_shape hN.hs
  obtain ⟨az1, cz1, rfl, _⟩ := sl_shape hN.rs
  have HC := Lib.hid (And.intro hcr (And.intro hcn hch))
  clear hN hcr hcn hch
  replace hbe := below_trans hbe hb3
  replace L0 := L0.ext hb3
  replace L1 := L1.ext hb3
  clear hb3
  have hsz3 := L1.lt
  have d0 := L1.cell 0 _ rfl
  have d1 := L1.cell 1 _ rfl
  have d2 := L1.cell 2 _ rfl
  have d3 := L1.cell 3 _ rfl
  have d4 := L1.cell 4 _ rfl
  go_wp2_with fail
  clear d0 d1 d2 d3 d4
  have L5 := Lay.new w3 32 #[.slice ar1 b.ns.reg.length cr1, .slice an1 b.ns.notes.length cn1, .int .i64 b.of, .slice am1 b.ms.length cm1, .slice ah1 b.hs.length ch1, .slice az1 b.rs.length cz1]
  have hb4 := below_alloc w3 (.cells #[.slice ar1 b.ns.reg.length cr1, .slice an1 b.ns.notes.length cn1, .int .i64 b.of, .slice am1 b.ms.length cm1, .slice ah1 b.hs.length ch1, .slice az1 b.rs.length cz1] 32)
  generalize w3.alloc _ = w4 at *
  have HO := Lib.hid (HO.out.ext hb4)
  replace hbe := below_trans hbe hb4
  replace L0 := L0.ext hb4
  replace L1 := L1.ext hb4
  clear hb4
  generalize w3.heap.size = g5 at *
  refine (add_built _ _ _ _ _ _ b r ⟨⟨⟨HO.out.at.reg, HC.out.1, LK.out.1.ext hbe⟩, HO.out.at.notes, HC.out.2.1⟩, HO.out.at, HC.out.2.2, LK.out.2.ext hbe⟩ HT.out hr).mono ?_
  intro e w5 hadd
  obtain ⟨hb5, xr, xn, xm, xh, xs, rfl, hX⟩ := hadd.out
  clear hadd
  generalize hX0 : addX b r = X at *
  have HX0 := Lib.hid hX0
  clear hX0
  generalize hcode0 : addCode b r = code at *
  have HCODE := Lib.hid hcode0
  clear hcode0
  have HX := Lib.hid hX
  obtain ⟨ar2, cr2, rfl, _⟩ := sl_shape hX.reg
  obtain ⟨an2, cn2, rfl, _⟩ := sl_shape hX.notes
  obtain ⟨am2, cm2, rfl, _⟩ := sl_shape hX.ms
  obtain ⟨ah2, ch2, rfl, _⟩ := sl_shape hX.hs
  obtain ⟨az2, cz2, rfl, _⟩ := sl_shape hX.rs
  clear hX
  have hz0 := (L0.ext hb5).lt
  have hz1 := (L1.ext hb5).lt
  have hz4 : w4.heap.size ≤ w5.heap.size := hb5.size
  have c0 := (L0.ext hb5).cell 0 _ rfl
  have c1 := (L0.ext hb5).cell 1 _ rfl
  have c2 := (L0.ext hb5).cell 2 _ rfl
  have c3 := (L0.ext hb5).cell 3 _ rfl
  have c4 := (L0.ext hb5).cell 4 _ rfl
  have c5 := (L0.ext hb5).cell 5 _ rfl
  have d0 := (L1.ext hb5).cell 0 _ rfl
  have d1 := (L1.ext hb5).cell 1 _ rfl
  have d2 := (L1.ext hb5).cell 2 _ rfl
  have d3 := (L1.ext hb5).cell 3 _ rfl
  have d4 := (L1.ext hb5).cell 4 _ rfl
  have L5 := Lib.hid L5
  have L0 := Lib.hid L0
  clear L1
  go_wp2_with fail
  clear c0 c1 c2 c3 c4 c5
  clear d0 d1 d2 d3 d4
  have L6 := Lay.new w5 32 #[.slice ar2 X.ns.reg.length cr2, .slice an2 X.ns.notes.length cn2, .int .i64 X.of, .slice am2 X.ms.length cm2, .slice ah2 X.hs.length ch2, .slice az2 X.rs.length cz2]
  have hb6 := below_alloc w5 (.cells #[.slice ar2 X.ns.reg.length cr2, .slice an2 X.ns.notes.length cn2, .int .i64 X.of, .slice am2 X.ms.length cm2, .slice ah2 X.hs.length ch2, .slice az2 X.rs.length cz2] 32)
  generalize w5.alloc _ = w6 at *
  have HX := Lib.hid (HX.out.ext hb6)
  replace hb5 := below_trans hb5 hb6
  clear hb6
  generalize w5.heap.size = g6 at *
  refine (add08 _ _ _ _ _ _ b r (H0.out.ext (below_trans hbe hb5)) HT.out hr).mono ?_
  intro e w7 hadd
  obtain ⟨hb7, yr, yn, ym, yh, ys, rfl, hY⟩ := hadd.out
  clear hadd
  rw [HX0.out] at hY ⊢
  rw [HCODE.out]
  have HY := Lib.hid hY
  obtain ⟨ar3, cr3, rfl, _⟩ := sl_shape hY.reg
  obtain ⟨an3, cn3, rfl, _⟩ := sl_shape hY.notes
  obtain ⟨am3, cm3, rfl, _⟩ := sl_shape hY.ms
  obtain ⟨ah3, ch3, rfl, _⟩ := sl_shape hY.hs
  obtain ⟨az3, cz3, rfl, _⟩ := sl_shape hY.rs
  clear hY
  have HX := Lib.hid (HX.out.ext hb7)
  replace hb5 := below_trans hb5 hb7
  replace L6 := L6.ext hb7
  clear hb7
  have hz6 := L6.lt
  have c0 := L6.cell 0 _ rfl
  have c1 := L6.cell 1 _ rfl
  have c2 := L6.cell 2 _ rfl
  have c3 := L6.cell 3 _ rfl
  have c4 := L6.cell 4 _ rfl
  have c5 := L6.cell 5 _ rfl
  go_wp2_with fail
  clear c0 c1 c2 c3 c4 c5
  have hb8 := below_alloc w7 (.cells #[.slice ar3 X.ns.reg.length cr3, .slice an3 X.ns.notes.length cn3, .int .i64 X.of, .slice am3 X.ms.length cm3, .slice ah3 X.hs.length ch3, .slice az3 X.rs.length cz3] 32)
  generalize w7.alloc _ = w8 at *
  have HX := Lib.hid (HX.out.ext hb8)
  have HY := Lib.hid (HY.out.ext hb8)
  replace hb5 := below_trans hb5 hb8
  replace L6 := L6.ext hb8
  clear hb8
  refine (sameBuilt08 _ _ _ _ _ _ _ _ _ _ _ X HX.out.at HY.out.at).mono ?_
  rintro e w9 ⟨rfl, hb9⟩
  replace hb5 := below_trans hb5 hb9
  replace L6 := L6.ext hb9
  have FX := Lib.hid (ForX.of (HX.out.ext hb9) L6)
  clear hb9 HX HY
  have c0 := L6.cell 0 _ rfl
  have hlr : X.ns.reg.length ≤ 9223372036854775807 := (sl_shape FX.out.reg).choose_spec.choose_spec.2
  have hln : X.ns.notes.length ≤ 9223372036854775807 := (sl_shape FX.out.notes).choose_spec.choose_spec.2
  have hlm : X.ms.length ≤ 9223372036854775807 := (sl_shape FX.out.ms).choose_spec.choose_spec.2
  have hlh : X.hs.length ≤ 9223372036854775807 := (sl_shape FX.out.hs).choose_spec.choose_spec.2
  have hls : X.rs.length ≤ 9223372036854775807 := (sl_shape FX.out.rs).choose_spec.choose_spec.2
  clear L6
  go_wp2
  clear c0
  go_loopw [47] (fun i wr => ∃ k : Nat, i = .int .i64 k ∧ k ≤ X.ns.reg.length ∧ Below w4.heap.size w4 wr ∧ ForX w4.heap.size g6 wr (.slice ar2 X.ns.reg.length cr2) (.slice an2 X.ns.notes.length cn2) (.slice am2 X.ms.length cm2) (.slice ah2 X.hs.length ch2) (.slice az2 X.rs.length cz2) X) (fun i _ => X.ns.reg.length - (intOf i).toNat)
  case atStart => exact ⟨0, rfl, by omega, hb5, FX.out⟩
  case round =>
    obtain ⟨k, rfl, hk, hb, hF⟩ := hrel
    clear FX hb5
    by_cases hlt : k < X.ns.reg.length
    case pos =>
      obtain ⟨x, hx⟩ : ∃ x, X.ns.reg[k]? = some x := ⟨_, List.getElem?_eq_getElem hlt⟩
      have HK := Lib.hid hx
      obtain ⟨bb, off, ai, ci, ad, cd, rfl, q3, -, -, -, hli, hld⟩ := hF.iss hx
      have c0 := hF.box.cell 0 _ rfl
      have HF := Lib.hid hF
      clear hx hF
      go_wp2
      clear c0 q3
      go_loopw [59] (fun i wr2 => ∃ j : Nat, i = .int .i64 j ∧ j ≤ x.items.length ∧ Below w4.heap.size w4 wr2 ∧ ForX w4.heap.size g6 wr2 (.slice (some ⟨bb, off, none⟩) X.ns.reg.length cr2) (.slice an2 X.ns.notes.length cn2) (.slice am2 X.ms.length cm2) (.slice ah2 X.hs.length ch2) (.slice az2 X.rs.length cz2) X) (fun i _ => x.items.length - (intOf i).toNat)
      case atStart => exact ⟨0, rfl, by omega, hb, HF.out⟩
      case round =>
        obtain ⟨j, rfl, hj, hb2, hF2⟩ := hrel
        clear HF hb
        obtain ⟨bb2, off2, ai2, ci2, ad2, cd2, hbb2, q3, q4, si, -⟩ := hF2.iss HK.out
        cases hbb2
        have c0 := hF2.box.cell 0 _ rfl
        have HF := Lib.hid hF2
        clear hF2
        by_cases hlt2 : j < x.items.length
        case pos =>
          obtain ⟨b5, o5, v5, rfl, k5, f5, hg5, hl5, ht5⟩ := wr_at si j 1 hlt2 (by decide)
          have HT5 := Lib.hid ht5
          clear si ht5 q4
          go_wp2
          go_roundw
          case rel => exact ⟨j + 1, by go_num, by omega, below_set hg5 hb2, HF.out.set HT5.out (by decide) (by decide)⟩
          case measure => simp [intOf]; omega
        case neg =>
          clear si q3
          go_wp2
          clear c0 q4
          go_loopw [83] (fun i wr2 => ∃ j : Nat, i = .int .i64 j ∧ j ≤ x.dims.length ∧ Below w4.heap.size w4 wr2 ∧ ForX w4.heap.size g6 wr2 (.slice (some ⟨bb, off, none⟩) X.ns.reg.length cr2) (.slice an2 X.ns.notes.length cn2) (.slice am2 X.ms.length cm2) (.slice ah2 X.hs.length ch2) (.slice az2 X.rs.length cz2) X) (fun i _ => x.dims.length - (intOf i).toNat)
          case atStart => exact ⟨0, rfl, by omega, hb2, HF.out⟩
          case round =>
            obtain ⟨l, rfl, hl, hb3, hF3⟩ := hrel
            clear HF hb2
            obtain ⟨bb3, off3, ai3, ci3, ad3, cd3, hbb3, -, q4, -, sd, -⟩ := hF3.iss HK.out
            cases hbb3
            have c0 := hF3.box.cell 0 _ rfl
            have HF := Lib.hid hF3
            clear hF3
            by_cases hlt3 : l < x.dims.length
            case pos =>
              obtain ⟨b5, o5, v5, rfl, k5, f5, hg5, hl5, ht5⟩ := wr_at sd l 1 hlt3 (by decide)
              have HT5 := Lib.hid ht5
              clear sd ht5
              go_wp2
              go_roundw
              case rel => exact ⟨l + 1, by go_num, by omega, below_set hg5 hb3, HF.out.set HT5.out (by decide) (by decide)⟩
              case measure => simp [intOf]; omega
            case neg =>
              clear sd
              go_wp2
              go_roundw
              case rel => exact ⟨k + 1, by go_num, by omega, hb3, HF.out⟩
              case measure => simp [intOf]; omega
    case neg =>
      have c1 := hF.box.cell 1 _ rfl
      have HF := Lib.hid hF
      clear hF
      go_wp2
      clear c1
      go_loopw [103] (fun i wr => ∃ j : Nat, i = .int .i64 j ∧ j ≤ X.ns.notes.length ∧ Below w4.heap.size w4 wr ∧ ForX w4.heap.size g6 wr (.slice ar2 X.ns.reg.length cr2) (.slice an2 X.ns.notes.length cn2) (.slice am2 X.ms.length cm2) (.slice ah2 X.hs.length ch2) (.slice az2 X.rs.length cz2) X) (fun i _ => X.ns.notes.length - (intOf i).toNat)
      case atStart => exact ⟨0, rfl, by omega, hb, HF.out⟩
      case round =>
        obtain ⟨j0, rfl, hj0, hb0_, hF⟩ := hrel
        clear HF hb
        have c1 := hF.box.cell 1 _ rfl
        by_cases hlt : j0 < X.ns.notes.length
        case pos =>
          obtain ⟨b5, o5, v5, rfl, k5, f5, hg5, hl5, ht5⟩ := wr_at hF.notes j0 1 hlt (by decide)
          have HT5 := Lib.hid ht5
          have HF := Lib.hid hF
          clear ht5 hF
          skip
          go_wp2
          go_roundw
          case rel => exact ⟨j0 + 1, by go_num, by omega, below_set hg5 hb0_, HF.out.set HT5.out (by decide) (by decide)⟩
          case measure => simp [intOf]; omega
        case neg =>
          have HF := Lib.hid hF
          have c3 := hF.box.cell 3 _ rfl
          clear hF
          go_wp2
          clear c3
          go_loopw [116] (fun i wr => ∃ j : Nat, i = .int .i64 j ∧ j ≤ X.ms.length ∧ Below w4.heap.size w4 wr ∧ ForX w4.heap.size g6 wr (.slice ar2 X.ns.reg.length cr2) (.slice an2 X.ns.notes.length cn2) (.slice am2 X.ms.length cm2) (.slice ah2 X.hs.length ch2) (.slice az2 X.rs.length cz2) X) (fun i _ => X.ms.length - (intOf i).toNat)
          case atStart => exact ⟨0, rfl, by omega, hb0_, HF.out⟩
          case round =>
            obtain ⟨j1, rfl, hj1, hb1_, hF⟩ := hrel
            clear HF hb0_
            have c3 := hF.box.cell 3 _ rfl
            by_cases hlt : j1 < X.ms.length
            case pos =>
              obtain ⟨b5, o5, v5, rfl, k5, f5, hg5, hl5, ht5⟩ := wr_at hF.ms j1 0 hlt (by decide)
              have HT5 := Lib.hid ht5
              have HF := Lib.hid hF
              clear ht5 hF
              simp only [Nat.mul_one, Nat.add_zero] at k5 f5
              go_wp2
              go_roundw
              case rel => exact ⟨j1 + 1, by go_num, by omega, below_set hg5 hb1_, HF.out.set HT5.out (by decide) (by decide)⟩
              case measure => simp [intOf]; omega
            case neg =>
              have HF := Lib.hid hF
              have c4 := hF.box.cell 4 _ rfl
              clear hF
              go_wp2
              clear c4
              go_loopw [127] (fun i wr => ∃ j : Nat, i = .int .i64 j ∧ j ≤ X.hs.length ∧ Below w4.heap.size w4 wr ∧ ForX w4.heap.size g6 wr (.slice ar2 X.ns.reg.length cr2) (.slice an2 X.ns.notes.length cn2) (.slice am2 X.ms.length cm2) (.slice ah2 X.hs.length ch2) (.slice az2 X.rs.length cz2) X) (fun i _ => X.hs.length - (intOf i).toNat)
              case atStart => exact ⟨0, rfl, by omega, hb1_, HF.out⟩
              case round =>
                obtain ⟨j2, rfl, hj2, hb2_, hF⟩ := hrel
                clear HF hb1_
                have c4 := hF.box.cell 4 _ rfl
                by_cases hlt : j2 < X.hs.length
                case pos =>
                  obtain ⟨b5, o5, v5, rfl, k5, f5, hg5, hl5, ht5⟩ := wr_at hF.hs j2 1 hlt (by decide)
                  have HT5 := Lib.hid ht5
                  have HF := Lib.hid hF
                  clear ht5 hF
                  skip
                  go_wp2
                  go_roundw
                  case rel => exact ⟨j2 + 1, by go_num, by omega, below_set hg5 hb2_, HF.out.set HT5.out (by decide) (by decide)⟩
                  case measure => simp [intOf]; omega
                case neg =>
                  have HF := Lib.hid hF
                  have c5 := hF.box.cell 5 _ rfl
                  clear hF
                  go_wp2
                  clear c5
                  go_loopw [139] (fun i wr => ∃ j : Nat, i = .int .i64 j ∧ j ≤ X.rs.length ∧ Below w4.heap.size w4 wr ∧ ForX w4.heap.size g6 wr (.slice ar2 X.ns.reg.length cr2) (.slice an2 X.ns.notes.length cn2) (.slice am2 X.ms.length cm2) (.slice ah2 X.hs.length ch2) (.slice az2 X.rs.length cz2) X) (fun i _ => X.rs.length - (intOf i).toNat)
                  case atStart => exact ⟨0, rfl, by omega, hb2_, HF.out⟩
                  case round =>
                    obtain ⟨j3, rfl, hj3, hb3_, hF⟩ := hrel
                    clear HF hb2_
                    have c5 := hF.box.cell 5 _ rfl
                    by_cases hlt : j3 < X.rs.length
                    case pos =>
                      obtain ⟨b5, o5, v5, rfl, k5, f5, hg5, hl5, ht5⟩ := wr_at hF.rs j3 4 hlt (by decide)
                      have HT5 := Lib.hid ht5
                      have HF := Lib.hid hF
                      clear ht5 hF
                      skip
                      go_wp2
                      go_roundw
                      case rel => exact ⟨j3 + 1, by go_num, by omega, below_set hg5 hb3_, HF.out.set HT5.out (by decide) (by decide)⟩
                      case measure => simp [intOf]; omega
                    case neg =>
                      have HF := Lib.hid hF
                      clear hF
                      have l5 := L5.out.ext hb3_
                      have l0 := L0.out.ext hb3_
                      have d0 := l5.cell 0 _ rfl
                      have d1 := l5.cell 1 _ rfl
                      have d2 := l5.cell 2 _ rfl
                      have d3 := l5.cell 3 _ rfl
                      have d4 := l5.cell 4 _ rfl
                      have d5 := l5.cell 5 _ rfl
                      have e0 := l0.cell 0 _ rfl
                      have e1 := l0.cell 1 _ rfl
                      have e2 := l0.cell 2 _ rfl
                      have e3 := l0.cell 3 _ rfl
                      have e4 := l0.cell 4 _ rfl
                      have e5 := l0.cell 5 _ rfl
                      clear l5 l0
                      go_wp2_with fail
                      refine (sameBuilt08 _ _ _ _ _ _ _ _ _ _ _ b (HO.out.at.ext hb3_) (H0.out.ext (below_trans hbe hb3_))).mono ?_
                      rintro e wz ⟨rfl, hbz⟩
                      go_wp2
                      go_ret
                      exact ⟨rfl, below_trans (below_trans hbe hb3_) hbz⟩

end Go.Proofs.YtoibnhkiedpkgaaGreatDoor
