/- Notes are opened, or the error. -/
import Derived.WalkMore
import Derived.Laws.EntriesVeiled
import Derived.Test.YtoibnhkiedpkgaaGreatDoorM17
set_option linter.unusedVariables false
set_option linter.unusedSimpArgs false
set_option linter.all false

namespace Go.Proofs.YtoibnhkiedpkgaaGreatDoor
open Go.RowKit Go.Shelf
attribute [local go_sem] stepOk Oper.grows Oper.growUpon Oper.wild Oper.wildUpon

/-- The eight looks that a note gets, as the program keeps them. -/
def LooksN (w : World) : Prop := Cell w 0 0 (.func (.func 131) #[] #[]) ∧ Cell w 0 1 (.func (.func 133) #[] #[]) ∧ Cell w 0 2 (.func (.func 134) #[] #[]) ∧ Cell w 0 3 (.func (.func 135) #[] #[]) ∧ Cell w 0 4 (.func (.func 136) #[] #[]) ∧ Cell w 0 5 (.func (.func 137) #[] #[]) ∧ Cell w 0 6 (.func (.func 140) #[] #[]) ∧ Cell w 0 7 (.func (.func 142) #[] #[])
theorem LooksN.ext {w w' : World} (hb : Below w.heap.size w w') (h : LooksN w) : LooksN w' := by
  obtain ⟨h1, h2, h3, h4, h5, h6, h7, h8⟩ := h
  exact ⟨cell_ext hb h1, cell_ext hb h2, cell_ext hb h3, cell_ext hb h4, cell_ext hb h5, cell_ext hb h6, cell_ext hb h7, cell_ext hb h8⟩
theorem enter_nc1 : Enters Tryz.prog 131 := enters_of Tryz.func131 (by kernel_rfl) rfl
theorem enter_nc2 : Enters Tryz.prog 133 := enters_of Tryz.func133 (by kernel_rfl) rfl
theorem enter_nc3 : Enters Tryz.prog 134 := enters_of Tryz.func134 (by kernel_rfl) rfl
theorem enter_nc4 : Enters Tryz.prog 135 := enters_of Tryz.func135 (by kernel_rfl) rfl
theorem enter_nc5 : Enters Tryz.prog 136 := enters_of Tryz.func136 (by kernel_rfl) rfl
theorem enter_nc6 : Enters Tryz.prog 137 := enters_of Tryz.func137 (by kernel_rfl) rfl
theorem enter_nc7 : Enters Tryz.prog 140 := enters_of Tryz.func140 (by kernel_rfl) rfl
theorem enter_nc8 : Enters Tryz.prog 142 := enters_of Tryz.func142 (by kernel_rfl) rfl

/-- The walk amid the notes. -/
structure MidN (w wr : World) (pf : Nat) (vr vn u vd : Value) (L : List Int) : Prop where
  below : Below w.heap.size w wr
  lo : w.heap.size < pf
  box : Lay wr w.heap.size #[vr, vn] 27
  file : Lay wr pf #[vr, vn, u, vd] 117
  own : wr.ownsRow (pf + 1) 3 1 vd L.length (L.map (Value.int .i64))
theorem MidN.ext {w wr wr' : World} {pf : Nat} {vr vn u vd : Value} {L : List Int} (h : MidN w wr pf vr vn u vd L) (hb : Below wr.heap.size wr wr') : MidN w wr' pf vr vn u vd L :=
  ⟨below_trans h.below hb, h.lo, h.box.ext hb, h.file.ext hb, own_ext hb h.own⟩
theorem Lay.set3 {W : World} {B : Nat} {a b c v : Value} {t : TypeId} (h : Lay W B #[a, b, c, v] t) (v' : Value) : Lay (W.setCell ⟨B, 3, none⟩ v') B #[a, b, c, v'] t := by
  obtain ⟨hlt, hk⟩ := Array.getElem?_eq_some_iff.1 (show W.heap[B]? = _ from h)
  show (W.heap.modify B _)[B]? = _
  rw [Array.getElem?_eq_getElem (by rw [Array.size_modify]; exact hlt), Array.getElem_modify_self, hk]
  rfl
theorem Lay.other {W : World} {B g j : Nat} {cs : Array Value} {t : TypeId} (h : Lay W B cs t) (hne : B ≠ g) (v : Value) : Lay (W.setCell ⟨g, j, none⟩ v) B cs t := (Below.heap_setCell W ⟨g, j, none⟩ v B hne).trans h
theorem MidN.app {w wq w7 : World} {pf : Nat} {vr vn u vd v' : Value} {L : List Int} {x : Int} (h : MidN w wq pf vr vn u vd L) (hown : w7.ownsRow (pf + 1) 3 1 v' (L.length + 1) (L.map (Value.int .i64) ++ [.int .i64 x])) (hg : wq.grownBy w7 vd.ownBlock) :
    Lay w7 pf #[vr, vn, u, vd] 117 ∧ MidN w (w7.setCell ⟨pf, 3, none⟩ v') pf vr vn u v' (L ++ [x]) := by
  have hlo := h.lo
  have hl : Lay w7 pf #[vr, vn, u, vd] 117 := h.file.kept hg (fun e => by have := (h.own.lt _ e.symm).1; omega)
  have hb : Lay w7 w.heap.size #[vr, vn] 27 := h.box.kept hg (fun e => by have := (h.own.lt _ e.symm).1; omega)
  refine ⟨hl, below_set (by omega) (grown_below h.own hg h.below (by omega)), hlo, hb.other (by omega) v', hl.set3 v', ?_⟩
  have := own_set (g := pf) (j := 3) (u := v') hown (by omega)
  rw [List.length_append, List.map_append]
  exact this

set_option maxRecDepth 100000 in
set_option maxHeartbeats 12800000 in
theorem opened_note (w : World) (vr vn : Value) (R : List Issue) (N : List Note) (h : NoteArg w vr vn R N) (hk : LooksN w) :
    Calls Tryz.prog 46 #[.agg #[vr, vn]] w fun e w' => (∃ p, e = .returned (.tuple #[.pointer p, .int .i64 (notesCode R N)])) ∧ Below w.heap.size w w' := by
  obtain ⟨i0, hif, iz0, iz1, iz2⟩ := info_parts infoInt
  obtain ⟨ar, cr, rfl, _⟩ := sl_shape h.reg.sl
  obtain ⟨an, cn, rfl, hcn⟩ := h.cap
  have hb1 := below_alloc w (.cells #[.slice ar R.length cr, .slice an N.length cn] 27)
  have LB := Lay.new w 27 #[.slice ar R.length cr, .slice an N.length cn]
  have c0 := LB.cell 0 _ rfl
  have HA := Lib.hid (h.ext hb1)
  have HLN := Lib.hid (hk.ext hb1)
  have HL := Lib.hid LB
  have H0 := Lib.hid h
  have HK0 := Lib.hid hk
  clear h hk LB
  go_enter Tryz.func46, Tryz.ntmps46
  go_wp2
  go_step3
  go_wp2_with fail
  clear c0
  generalize w.alloc _ = w1 at *
  refine (drawings_sheet _ _ R HA.out.reg).mono ?_
  rintro e w2 ⟨⟨u, rfl, ⟨a3, n3, c3, rfl⟩⟩, hb2⟩
  have hb := below_trans hb1 hb2
  have k1 : regCode R ≠ 0 → notesCode R N = regCode R := fun h => by unfold notesCode; rw [if_pos h]
  have k2 : regCode R = 0 → NotesOk R N → notesCode R N = 0 := fun h h' => by unfold notesCode; rw [if_neg (by simp [h]), if_pos h']
  have k3 : regCode R = 0 → ¬ NotesOk R N → notesCode R N = 30 := fun h h' => by unfold notesCode; rw [if_neg (by simp [h]), if_neg h']
  by_cases hz : regCode R = 0
  case neg =>
    have e1 := k1 hz
    clear k1 k2 k3 hb1 hb2
    generalize hcc : regCode R = c at *
    go_wp2
    try rw [Exit.noGoto_ret]
    go_ret2
    exact ⟨⟨none, by rw [e1]; rfl⟩, hb⟩
  have k2 := k2 hz
  have k3 := k3 hz
  have HL2 := Lib.hid (HL.out.ext hb2)
  have HA2 := Lib.hid (HA.out.ext hb2)
  have HLN2 := Lib.hid (HLN.out.ext hb2)
  have c1 := HL2.out.cell 1 _ rfl
  rw [hz]
  clear k1
  by_cases h12 : 12 < N.length
  · have e1 := k3 (fun h => by have := h.1; omega)
    generalize hNN : N.length = NL at c1 h12
    go_wp2
    try rw [Exit.noGoto_ret]
    go_ret2
    exact ⟨⟨none, by rw [e1]; rfl⟩, hb⟩
  have h12' : N.length ≤ 12 := by omega
  have c0 := HL2.out.cell 0 _ rfl
  have l0 := HL2.out.lt
  clear h12
  go_wp2
  go_step3
  go_wp2
  have hbf := below_trans hb (below_alloc w2 (.cells #[.slice ar R.length cr, .slice an N.length cn, .slice a3 n3 c3, .slice none 0 0] 117))
  have hmid : MidN w (w2.alloc (.cells #[.slice ar R.length cr, .slice an N.length cn, .slice a3 n3 c3, .slice none 0 0] 117)) w2.heap.size (.slice ar R.length cr) (.slice an N.length cn) (.slice a3 n3 c3) (.slice none 0 0) [] :=
    ⟨hbf, l0, HL2.out.alloc _, Lay.new w2 _ _, World.ownsRow_nil _ _ _ _⟩
  clear c0 c1 hbf hb hb1 hb2
  generalize hpf : w2.heap.size = pf at *
  generalize w2.alloc _ = w3 at *
  go_loopw [7, 32] (fun bd i wr => ∃ (k : Nat) (vd : Value), bd = .bool false ∧ i = .int .i64 k ∧ k ≤ N.length ∧ Hid (MidN w wr pf (.slice ar R.length cr) (.slice an N.length cn) (.slice a3 n3 c3) vd (opensTo N k)) ∧ Hid (∀ j, j < k → (h : j < N.length) → NoteOk R N j N[j])) (fun _ i _ => N.length - (intOf i).toNat)
  case atStart => exact ⟨0, _, rfl, rfl, Nat.zero_le _, Lib.hid hmid, Lib.hid fun j hj => absurd hj (Nat.not_lt_zero _)⟩
  case round =>
    obtain ⟨k, vd, rfl, rfl, hk, hmd, hall⟩ := hrel
    clear hmid
    have hbw := hmd.out.below
    by_cases hlt : k < N.length
    · obtain ⟨b, off, rfl, hx⟩ := (sl_at H0.out.sl).2 k hlt
      obtain ⟨⟨q0, q1, q2, q3, q4, q5, q6, q7, q8, q9⟩, hnum⟩ := stays_note _ _ _ _ _ hbw hx
      obtain ⟨n0, n1, n2, n3', n4, n5, n6, n7⟩ := HK0.out.ext hbw
      have lb := cell_lt q0
      have ln := cell_lt n0
      have hna := H0.out.ext hbw
      have hbad0 : ¬ NoteOk R N k N[k] → notesCode R N = 30 := fun h => k3 (fun hn => h (hn.2.1 k hlt))
      have hok0 := note_all R N k N[k] hz hnum.2.2.2.2.2.2.2.2.1
      have hop := opensTo_succ N k hlt
      clear hx
      generalize hxx : N[k] = x at *
      have HX := Lib.hid hxx
      have HOP := Lib.hid hop
      have HKN := Lib.hid hlt
      have hbad : ¬ (NChk1 x ∧ NChk2 x ∧ NChk3 x ∧ NChk4 R x ∧ NChk5 x ∧ NChk6 N k x ∧ NChk7 N k x ∧ NChk8 N k x) → notesCode R N = 30 := fun h => hbad0 (fun h2 => h (hok0.1 h2))
      have HOK := Lib.hid hok0
      clear hxx hbad0 hok0 hop
      unfold Cell at q0 q1 q2 q3 q4 q5 q6 q7 q8 q9 n0 n1 n2 n3' n4 n5 n6 n7
      go_wp2
      have hmdA := Lib.hid (hmd.out.ext (below_alloc wr (.cells #[.int .i64 x.num, .int .i64 x.day, .int .u8 x.sg, .int .i64 x.d, .int .i64 x.l, .int .i64 x.fr, .int .i64 x.to, .int .i64 x.ca, .bool x.use, .int .u8 x.ways] 52)))
      have LX := Lib.hid (Lay.new wr 52 #[.int .i64 x.num, .int .i64 x.day, .int .u8 x.sg, .int .i64 x.d, .int .i64 x.l, .int .i64 x.fr, .int .i64 x.to, .int .i64 x.ca, .bool x.use, .int .u8 x.ways])
      have HNA := Lib.hid (hna.ext (below_alloc wr (.cells #[.int .i64 x.num, .int .i64 x.day, .int .u8 x.sg, .int .i64 x.d, .int .i64 x.l, .int .i64 x.fr, .int .i64 x.to, .int .i64 x.ca, .bool x.use, .int .u8 x.ways] 52)))
      clear q0 q1 q2 q3 q4 q5 q6 q7 q8 q9 n0 n1 n2 n3' n4 n5 n6 n7 hna hbw lb ln
      generalize hgg : wr.heap.size = gx at *
      generalize wr.alloc _ = wA at *
      go_loopw [7, 38] (fun bd j wm => ∃ m : Nat, bd = .bool false ∧ j = .int .i64 m ∧ m ≤ 8 ∧ Hid (Below wA.heap.size wA wm) ∧ Hid ((0 < m → NChk1 x) ∧ (1 < m → NChk2 x) ∧ (2 < m → NChk3 x) ∧ (3 < m → NChk4 R x) ∧ (4 < m → NChk5 x) ∧ (5 < m → NChk6 N k x) ∧ (6 < m → NChk7 N k x) ∧ (7 < m → NChk8 N k x))) (fun _ j _ => 8 - (intOf j).toNat)
      case atStart => exact ⟨0, rfl, rfl, by omega, Lib.hid (Below.refl _ _), Lib.hid ⟨fun h => absurd h (by omega), fun h => absurd h (by omega), fun h => absurd h (by omega), fun h => absurd h (by omega), fun h => absurd h (by omega), fun h => absurd h (by omega), fun h => absurd h (by omega), fun h => absurd h (by omega)⟩⟩
      case round =>
        obtain ⟨m, rfl, rfl, hm8, hbm, HCH⟩ := hrel
        have hna := Lib.hid (HNA.out.ext hbm.out)
        have c0 := (hmdA.out.ext hbm.out).box.cell 0 _ rfl
        have c1 := (hmdA.out.ext hbm.out).box.cell 1 _ rfl
        have lbx := (hmdA.out.ext hbm.out).box.lt
        have hmc : m = 0 ∨ m = 1 ∨ m = 2 ∨ m = 3 ∨ m = 4 ∨ m = 5 ∨ m = 6 ∨ m = 7 ∨ m = 8 := by omega
        rcases hmc with rfl | rfl | rfl | rfl | rfl | rfl | rfl | rfl | rfl
        · have eg := enter_nc1
          unfold Enters at eg
          have ix : ∀ w : World, (Instr.index 121 (.agg #[.func (.func 131) #[] #[], .func (.func 133) #[] #[], .func (.func 134) #[] #[], .func (.func 135) #[] #[], .func (.func 136) #[] #[], .func (.func 137) #[] #[], .func (.func 140) #[] #[], .func (.func 142) #[] #[]]) (.int .i64 0)).run Tryz.prog w = .ok (.agg #[.func (.func 131) #[] #[]]) w := fun _ => by kernel_rfl
          have HC := Lib.hid (fun W (hb : Below wr.heap.size wr W) => by have := ncheck1 W (.slice ar R.length cr) (.slice (some ⟨b, off, none⟩) N.length cn) R N k (hna.out.ext hb) HKN.out; rw [HX.out] at this; exact this)
          go_wp2_with (go_at_fn 131; refine (HC.out _ (below_alloc _ _)).mono ?_; intro e w' hr; rcases hr.both with ⟨h1, rfl, hb'⟩ | ⟨h1, rfl, hb'⟩ <;> clear hr)
          · have hbm2 := below_trans hbm.out (below_trans (below_alloc _ _) hb')
            have HCH2 := Lib.hid (show (0 < 1 → NChk1 x) ∧ (1 < 1 → NChk2 x) ∧ (2 < 1 → NChk3 x) ∧ (3 < 1 → NChk4 R x) ∧ (4 < 1 → NChk5 x) ∧ (5 < 1 → NChk6 N k x) ∧ (6 < 1 → NChk7 N k x) ∧ (7 < 1 → NChk8 N k x) from ⟨fun _ => h1, fun h => absurd h (by omega), fun h => absurd h (by omega), fun h => absurd h (by omega), fun h => absurd h (by omega), fun h => absurd h (by omega), fun h => absurd h (by omega), fun h => absurd h (by omega)⟩)
            clear h1 hbm HCH hna HC c0 c1
            go_wp2
            go_roundw
            case rel => exact ⟨1, rfl, by go_num, by omega, Lib.hid hbm2, HCH2⟩
            case measure => simp [intOf]
          · have e1 := hbad (fun h => h1 h.1)
            have hm9 := Lib.hid (hmdA.out.ext (below_trans hbm.out (below_trans (below_alloc _ _) hb')))
            clear h1 hbm HCH hbad hna HC c0 c1
            go_wp2
            try rw [Exit.noGoto_ret]
            go_ret2
            exact ⟨⟨none, by rw [e1]; rfl⟩, hm9.out.below⟩
        · have eg := enter_nc2
          unfold Enters at eg
          have ix : ∀ w : World, (Instr.index 121 (.agg #[.func (.func 131) #[] #[], .func (.func 133) #[] #[], .func (.func 134) #[] #[], .func (.func 135) #[] #[], .func (.func 136) #[] #[], .func (.func 137) #[] #[], .func (.func 140) #[] #[], .func (.func 142) #[] #[]]) (.int .i64 1)).run Tryz.prog w = .ok (.agg #[.func (.func 133) #[] #[]]) w := fun _ => by kernel_rfl
          have HC := Lib.hid (fun W (hb : Below wr.heap.size wr W) => by have := ncheck2 W (.slice ar R.length cr) (.slice (some ⟨b, off, none⟩) N.length cn) R N k (hna.out.ext hb) HKN.out; rw [HX.out] at this; exact this)
          go_wp2_with (go_at_fn 133; refine (HC.out _ (below_alloc _ _)).mono ?_; intro e w' hr; rcases hr.both with ⟨h1, rfl, hb'⟩ | ⟨h1, rfl, hb'⟩ <;> clear hr)
          · have hbm2 := below_trans hbm.out (below_trans (below_alloc _ _) hb')
            have HCH2 := Lib.hid (show (0 < 2 → NChk1 x) ∧ (1 < 2 → NChk2 x) ∧ (2 < 2 → NChk3 x) ∧ (3 < 2 → NChk4 R x) ∧ (4 < 2 → NChk5 x) ∧ (5 < 2 → NChk6 N k x) ∧ (6 < 2 → NChk7 N k x) ∧ (7 < 2 → NChk8 N k x) from ⟨fun _ => HCH.out.1 (by omega), fun _ => h1, fun h => absurd h (by omega), fun h => absurd h (by omega), fun h => absurd h (by omega), fun h => absurd h (by omega), fun h => absurd h (by omega), fun h => absurd h (by omega)⟩)
            clear h1 hbm HCH hna HC c0 c1
            go_wp2
            go_roundw
            case rel => exact ⟨2, rfl, by go_num, by omega, Lib.hid hbm2, HCH2⟩
            case measure => simp [intOf]
          · have e1 := hbad (fun h => h1 h.2.1)
            have hm9 := Lib.hid (hmdA.out.ext (below_trans hbm.out (below_trans (below_alloc _ _) hb')))
            clear h1 hbm HCH hbad hna HC c0 c1
            go_wp2
            try rw [Exit.noGoto_ret]
            go_ret2
            exact ⟨⟨none, by rw [e1]; rfl⟩, hm9.out.below⟩
        · have eg := enter_nc3
          unfold Enters at eg
          have ix : ∀ w : World, (Instr.index 121 (.agg #[.func (.func 131) #[] #[], .func (.func 133) #[] #[], .func (.func 134) #[] #[], .func (.func 135) #[] #[], .func (.func 136) #[] #[], .func (.func 137) #[] #[], .func (.func 140) #[] #[], .func (.func 142) #[] #[]]) (.int .i64 2)).run Tryz.prog w = .ok (.agg #[.func (.func 134) #[] #[]]) w := fun _ => by kernel_rfl
          have HC := Lib.hid (fun W (hb : Below wr.heap.size wr W) => by have := ncheck3 W (.slice ar R.length cr) (.slice (some ⟨b, off, none⟩) N.length cn) R N k (hna.out.ext hb) HKN.out; rw [HX.out] at this; exact this)
          go_wp2_with (go_at_fn 134; refine (HC.out _ (below_alloc _ _)).mono ?_; intro e w' hr; rcases hr.both with ⟨h1, rfl, hb'⟩ | ⟨h1, rfl, hb'⟩ <;> clear hr)
          · have hbm2 := below_trans hbm.out (below_trans (below_alloc _ _) hb')
            have HCH2 := Lib.hid (show (0 < 3 → NChk1 x) ∧ (1 < 3 → NChk2 x) ∧ (2 < 3 → NChk3 x) ∧ (3 < 3 → NChk4 R x) ∧ (4 < 3 → NChk5 x) ∧ (5 < 3 → NChk6 N k x) ∧ (6 < 3 → NChk7 N k x) ∧ (7 < 3 → NChk8 N k x) from ⟨fun _ => HCH.out.1 (by omega), fun _ => HCH.out.2.1 (by omega), fun _ => h1, fun h => absurd h (by omega), fun h => absurd h (by omega), fun h => absurd h (by omega), fun h => absurd h (by omega), fun h => absurd h (by omega)⟩)
            clear h1 hbm HCH hna HC c0 c1
            go_wp2
            go_roundw
            case rel => exact ⟨3, rfl, by go_num, by omega, Lib.hid hbm2, HCH2⟩
            case measure => simp [intOf]
          · have e1 := hbad (fun h => h1 h.2.2.1)
            have hm9 := Lib.hid (hmdA.out.ext (below_trans hbm.out (below_trans (below_alloc _ _) hb')))
            clear h1 hbm HCH hbad hna HC c0 c1
            go_wp2
            try rw [Exit.noGoto_ret]
            go_ret2
            exact ⟨⟨none, by rw [e1]; rfl⟩, hm9.out.below⟩
        · have eg := enter_nc4
          unfold Enters at eg
          have ix : ∀ w : World, (Instr.index 121 (.agg #[.func (.func 131) #[] #[], .func (.func 133) #[] #[], .func (.func 134) #[] #[], .func (.func 135) #[] #[], .func (.func 136) #[] #[], .func (.func 137) #[] #[], .func (.func 140) #[] #[], .func (.func 142) #[] #[]]) (.int .i64 3)).run Tryz.prog w = .ok (.agg #[.func (.func 135) #[] #[]]) w := fun _ => by kernel_rfl
          have HC := Lib.hid (fun W (hb : Below wr.heap.size wr W) => by have := ncheck4 W (.slice ar R.length cr) (.slice (some ⟨b, off, none⟩) N.length cn) R N k (hna.out.ext hb) HKN.out; rw [HX.out] at this; exact this)
          go_wp2_with (go_at_fn 135; refine (HC.out _ (below_alloc _ _)).mono ?_; intro e w' hr; rcases hr.both with ⟨h1, rfl, hb'⟩ | ⟨h1, rfl, hb'⟩ <;> clear hr)
          · have hbm2 := below_trans hbm.out (below_trans (below_alloc _ _) hb')
            have HCH2 := Lib.hid (show (0 < 4 → NChk1 x) ∧ (1 < 4 → NChk2 x) ∧ (2 < 4 → NChk3 x) ∧ (3 < 4 → NChk4 R x) ∧ (4 < 4 → NChk5 x) ∧ (5 < 4 → NChk6 N k x) ∧ (6 < 4 → NChk7 N k x) ∧ (7 < 4 → NChk8 N k x) from ⟨fun _ => HCH.out.1 (by omega), fun _ => HCH.out.2.1 (by omega), fun _ => HCH.out.2.2.1 (by omega), fun _ => h1, fun h => absurd h (by omega), fun h => absurd h (by omega), fun h => absurd h (by omega), fun h => absurd h (by omega)⟩)
            clear h1 hbm HCH hna HC c0 c1
            go_wp2
            go_roundw
            case rel => exact ⟨4, rfl, by go_num, by omega, Lib.hid hbm2, HCH2⟩
            case measure => simp [intOf]
          · have e1 := hbad (fun h => h1 h.2.2.2.1)
            have hm9 := Lib.hid (hmdA.out.ext (below_trans hbm.out (below_trans (below_alloc _ _) hb')))
            clear h1 hbm HCH hbad hna HC c0 c1
            go_wp2
            try rw [Exit.noGoto_ret]
            go_ret2
            exact ⟨⟨none, by rw [e1]; rfl⟩, hm9.out.below⟩
        · have eg := enter_nc5
          unfold Enters at eg
          have ix : ∀ w : World, (Instr.index 121 (.agg #[.func (.func 131) #[] #[], .func (.func 133) #[] #[], .func (.func 134) #[] #[], .func (.func 135) #[] #[], .func (.func 136) #[] #[], .func (.func 137) #[] #[], .func (.func 140) #[] #[], .func (.func 142) #[] #[]]) (.int .i64 4)).run Tryz.prog w = .ok (.agg #[.func (.func 136) #[] #[]]) w := fun _ => by kernel_rfl
          have HC := Lib.hid (fun W (hb : Below wr.heap.size wr W) => by have := ncheck5 W (.slice ar R.length cr) (.slice (some ⟨b, off, none⟩) N.length cn) R N k (hna.out.ext hb) HKN.out; rw [HX.out] at this; exact this)
          go_wp2_with (go_at_fn 136; refine (HC.out _ (below_alloc _ _)).mono ?_; intro e w' hr; rcases hr.both with ⟨h1, rfl, hb'⟩ | ⟨h1, rfl, hb'⟩ <;> clear hr)
          · have hbm2 := below_trans hbm.out (below_trans (below_alloc _ _) hb')
            have HCH2 := Lib.hid (show (0 < 5 → NChk1 x) ∧ (1 < 5 → NChk2 x) ∧ (2 < 5 → NChk3 x) ∧ (3 < 5 → NChk4 R x) ∧ (4 < 5 → NChk5 x) ∧ (5 < 5 → NChk6 N k x) ∧ (6 < 5 → NChk7 N k x) ∧ (7 < 5 → NChk8 N k x) from ⟨fun _ => HCH.out.1 (by omega), fun _ => HCH.out.2.1 (by omega), fun _ => HCH.out.2.2.1 (by omega), fun _ => HCH.out.2.2.2.1 (by omega), fun _ => h1, fun h => absurd h (by omega), fun h => absurd h (by omega), fun h => absurd h (by omega)⟩)
            clear h1 hbm HCH hna HC c0 c1
            go_wp2
            go_roundw
            case rel => exact ⟨5, rfl, by go_num, by omega, Lib.hid hbm2, HCH2⟩
            case measure => simp [intOf]
          · have e1 := hbad (fun h => h1 h.2.2.2.2.1)
            have hm9 := Lib.hid (hmdA.out.ext (below_trans hbm.out (below_trans (below_alloc _ _) hb')))
            clear h1 hbm HCH hbad hna HC c0 c1
            go_wp2
            try rw [Exit.noGoto_ret]
            go_ret2
            exact ⟨⟨none, by rw [e1]; rfl⟩, hm9.out.below⟩
        · have eg := enter_nc6
          unfold Enters at eg
          have ix : ∀ w : World, (Instr.index 121 (.agg #[.func (.func 131) #[] #[], .func (.func 133) #[] #[], .func (.func 134) #[] #[], .func (.func 135) #[] #[], .func (.func 136) #[] #[], .func (.func 137) #[] #[], .func (.func 140) #[] #[], .func (.func 142) #[] #[]]) (.int .i64 5)).run Tryz.prog w = .ok (.agg #[.func (.func 137) #[] #[]]) w := fun _ => by kernel_rfl
          have HC := Lib.hid (fun W (hb : Below wr.heap.size wr W) => by have := ncheck6 W (.slice ar R.length cr) (.slice (some ⟨b, off, none⟩) N.length cn) R N k (hna.out.ext hb) HKN.out; rw [HX.out] at this; exact this)
          go_wp2_with (go_at_fn 137; refine (HC.out _ (below_alloc _ _)).mono ?_; intro e w' hr; rcases hr.both with ⟨h1, rfl, hb'⟩ | ⟨h1, rfl, hb'⟩ <;> clear hr)
          · have hbm2 := below_trans hbm.out (below_trans (below_alloc _ _) hb')
            have HCH2 := Lib.hid (show (0 < 6 → NChk1 x) ∧ (1 < 6 → NChk2 x) ∧ (2 < 6 → NChk3 x) ∧ (3 < 6 → NChk4 R x) ∧ (4 < 6 → NChk5 x) ∧ (5 < 6 → NChk6 N k x) ∧ (6 < 6 → NChk7 N k x) ∧ (7 < 6 → NChk8 N k x) from ⟨fun _ => HCH.out.1 (by omega), fun _ => HCH.out.2.1 (by omega), fun _ => HCH.out.2.2.1 (by omega), fun _ => HCH.out.2.2.2.1 (by omega), fun _ => HCH.out.2.2.2.2.1 (by omega), fun _ => h1, fun h => absurd h (by omega), fun h => absurd h (by omega)⟩)
            clear h1 hbm HCH hna HC c0 c1
            go_wp2
            go_roundw
            case rel => exact ⟨6, rfl, by go_num, by omega, Lib.hid hbm2, HCH2⟩
            case measure => simp [intOf]
          · have e1 := hbad (fun h => h1 h.2.2.2.2.2.1)
            have hm9 := Lib.hid (hmdA.out.ext (below_trans hbm.out (below_trans (below_alloc _ _) hb')))
            clear h1 hbm HCH hbad hna HC c0 c1
            go_wp2
            try rw [Exit.noGoto_ret]
            go_ret2
            exact ⟨⟨none, by rw [e1]; rfl⟩, hm9.out.below⟩
        · have eg := enter_nc7
          unfold Enters at eg
          have ix : ∀ w : World, (Instr.index 121 (.agg #[.func (.func 131) #[] #[], .func (.func 133) #[] #[], .func (.func 134) #[] #[], .func (.func 135) #[] #[], .func (.func 136) #[] #[], .func (.func 137) #[] #[], .func (.func 140) #[] #[], .func (.func 142) #[] #[]]) (.int .i64 6)).run Tryz.prog w = .ok (.agg #[.func (.func 140) #[] #[]]) w := fun _ => by kernel_rfl
          have HC := Lib.hid (fun W (hb : Below wr.heap.size wr W) => by have := ncheck7 W (.slice ar R.length cr) (.slice (some ⟨b, off, none⟩) N.length cn) R N k (hna.out.ext hb) HKN.out; rw [HX.out] at this; exact this)
          go_wp2_with (go_at_fn 140; refine (HC.out _ (below_alloc _ _)).mono ?_; intro e w' hr; rcases hr.both with ⟨h1, rfl, hb'⟩ | ⟨h1, rfl, hb'⟩ <;> clear hr)
          · have hbm2 := below_trans hbm.out (below_trans (below_alloc _ _) hb')
            have HCH2 := Lib.hid (show (0 < 7 → NChk1 x) ∧ (1 < 7 → NChk2 x) ∧ (2 < 7 → NChk3 x) ∧ (3 < 7 → NChk4 R x) ∧ (4 < 7 → NChk5 x) ∧ (5 < 7 → NChk6 N k x) ∧ (6 < 7 → NChk7 N k x) ∧ (7 < 7 → NChk8 N k x) from ⟨fun _ => HCH.out.1 (by omega), fun _ => HCH.out.2.1 (by omega), fun _ => HCH.out.2.2.1 (by omega), fun _ => HCH.out.2.2.2.1 (by omega), fun _ => HCH.out.2.2.2.2.1 (by omega), fun _ => HCH.out.2.2.2.2.2.1 (by omega), fun _ => h1, fun h => absurd h (by omega)⟩)
            clear h1 hbm HCH hna HC c0 c1
            go_wp2
            go_roundw
            case rel => exact ⟨7, rfl, by go_num, by omega, Lib.hid hbm2, HCH2⟩
            case measure => simp [intOf]
          · have e1 := hbad (fun h => h1 h.2.2.2.2.2.2.1)
            have hm9 := Lib.hid (hmdA.out.ext (below_trans hbm.out (below_trans (below_alloc _ _) hb')))
            clear h1 hbm HCH hbad hna HC c0 c1
            go_wp2
            try rw [Exit.noGoto_ret]
            go_ret2
            exact ⟨⟨none, by rw [e1]; rfl⟩, hm9.out.below⟩
        · have eg := enter_nc8
          unfold Enters at eg
          have ix : ∀ w : World, (Instr.index 121 (.agg #[.func (.func 131) #[] #[], .func (.func 133) #[] #[], .func (.func 134) #[] #[], .func (.func 135) #[] #[], .func (.func 136) #[] #[], .func (.func 137) #[] #[], .func (.func 140) #[] #[], .func (.func 142) #[] #[]]) (.int .i64 7)).run Tryz.prog w = .ok (.agg #[.func (.func 142) #[] #[]]) w := fun _ => by kernel_rfl
          have HC := Lib.hid (fun W (hb : Below wr.heap.size wr W) => by have := ncheck8 W (.slice ar R.length cr) (.slice (some ⟨b, off, none⟩) N.length cn) R N k (hna.out.ext hb) HKN.out; rw [HX.out] at this; exact this)
          go_wp2_with (go_at_fn 142; refine (HC.out _ (below_alloc _ _)).mono ?_; intro e w' hr; rcases hr.both with ⟨h1, rfl, hb'⟩ | ⟨h1, rfl, hb'⟩ <;> clear hr)
          · have hbm2 := below_trans hbm.out (below_trans (below_alloc _ _) hb')
            have HCH2 := Lib.hid (show (0 < 8 → NChk1 x) ∧ (1 < 8 → NChk2 x) ∧ (2 < 8 → NChk3 x) ∧ (3 < 8 → NChk4 R x) ∧ (4 < 8 → NChk5 x) ∧ (5 < 8 → NChk6 N k x) ∧ (6 < 8 → NChk7 N k x) ∧ (7 < 8 → NChk8 N k x) from ⟨fun _ => HCH.out.1 (by omega), fun _ => HCH.out.2.1 (by omega), fun _ => HCH.out.2.2.1 (by omega), fun _ => HCH.out.2.2.2.1 (by omega), fun _ => HCH.out.2.2.2.2.1 (by omega), fun _ => HCH.out.2.2.2.2.2.1 (by omega), fun _ => HCH.out.2.2.2.2.2.2.1 (by omega), fun _ => h1⟩)
            clear h1 hbm HCH hna HC c0 c1
            go_wp2
            go_roundw
            case rel => exact ⟨8, rfl, by go_num, by omega, Lib.hid hbm2, HCH2⟩
            case measure => simp [intOf]
          · have e1 := hbad (fun h => h1 h.2.2.2.2.2.2.2)
            have hm9 := Lib.hid (hmdA.out.ext (below_trans hbm.out (below_trans (below_alloc _ _) hb')))
            clear h1 hbm HCH hbad hna HC c0 c1
            go_wp2
            try rw [Exit.noGoto_ret]
            go_ret2
            exact ⟨⟨none, by rw [e1]; rfl⟩, hm9.out.below⟩
        · have hnok := HOK.out.2 ⟨HCH.out.1 (by omega), HCH.out.2.1 (by omega), HCH.out.2.2.1 (by omega), HCH.out.2.2.2.1 (by omega), HCH.out.2.2.2.2.1 (by omega), HCH.out.2.2.2.2.2.1 (by omega), HCH.out.2.2.2.2.2.2.1 (by omega), HCH.out.2.2.2.2.2.2.2 (by omega)⟩
          have hmq := Lib.hid (hmdA.out.ext hbm.out)
          have LXr := Lib.hid (LX.out.ext hbm.out)
          have x2 := LXr.out.cell 2 _ rfl
          clear HCH hbad hna HNA hmdA LX hbm
          by_cases hsg : x.sg = 1
          · have hnk : opensTo N (k + 1) = opensTo N k ++ [x.num] := by rw [HOP.out, if_pos hsg]
            have hsg' : (x.sg == 1) = true := by simp [hsg]
            clear hsg
            go_wp2
            have BXT : Hid (BoxT wr gx 52) := ⟨_, LXr.out⟩
            have bxq := (show Cell wr gx 0 (.int .i64 x.num) from LXr.out.cell 0 _ rfl)
            have hbx := BXT.out
            have hnl : (opensTo N k).length ≤ 12 := by rw [opensTo_len N k (by omega)]; have := openTo_le N k; omega
            have hszq : pf + 1 ≤ wr.heap.size := hmq.out.file.lt
            refine wp_region_growW 9 8 [7] (fun a c => a.grownBy c vd.ownBlock) (fun c => wr.grownBy c vd.ownBlock) (fun _ _ hb h => grown_then hb h) (grown_self _ _ _ rfl rfl rfl rfl)
              (fun c => c.ownsRow (pf + 1) 3 1 vd (opensTo N k).length ((opensTo N k).map (Value.int .i64)) ∧ pf + 1 ≤ c.heap.size) (fun _ _ hb h => ⟨own_ext hb h.1, Nat.le_trans h.2 hb.size⟩) ⟨own_ext ⟨rfl, rfl, rfl, Nat.le_refl _, fun _ _ => rfl⟩ hmq.out.own, hszq⟩ (by kernel_rfl) (by kernel_rfl) ?_
            simp only [List.take_succ_cons, List.take_zero]
            refine growW_exact (by rfl) ?_
            apply Exists.intro
            refine ⟨fun vs w2 hw hd => ?_, ?_⟩
            · (try simp [Oper.waitsOn, Region.binds, List.filter_cons, List.filter_nil, factAt, depsHold] at hd)
              simp only [putsFrom, Act.put, List.setIfInBounds_toArray, List.set_cons_succ, List.set_cons_zero]
              go_simp
              exact ⟨Below.refl _ _, rfl⟩
            refine growW_exact (by rfl) ?_
            apply Exists.intro
            refine ⟨fun vs w2 hw hd => ?_, ?_⟩
            · (try simp [Oper.waitsOn, Region.binds, List.filter_cons, List.filter_nil, factAt, depsHold] at hd)
              simp only [putsFrom, Act.put, List.setIfInBounds_toArray, List.set_cons_succ, List.set_cons_zero]
              go_simp
              exact ⟨Below.refl _ _, rfl⟩
            refine growW_exact (by rfl) ?_
            apply Exists.intro
            refine ⟨fun vs w2 hw hd => ?_, ?_⟩
            · (try simp [Oper.waitsOn, Region.binds, List.filter_cons, List.filter_nil, factAt, depsHold] at hd)
              simp only [putsFrom, Act.put, List.setIfInBounds_toArray, List.set_cons_succ, List.set_cons_zero]
              go_simp
              exact ⟨Below.refl _ _, rfl⟩
            refine growW_exact (by rfl) ?_
            apply Exists.intro
            refine ⟨fun vs w2 hw hd => ?_, ?_⟩
            · (try simp [Oper.waitsOn, Region.binds, List.filter_cons, List.filter_nil, factAt, depsHold] at hd)
              simp only [putsFrom, Act.put, List.setIfInBounds_toArray, List.set_cons_succ, List.set_cons_zero]
              go_simp
              exact ⟨Below.refl _ _, rfl⟩
            refine growW_exact (by rfl) ?_
            apply Exists.intro
            refine ⟨fun vs w2 hw hd => ?_, ?_⟩
            · (try simp [Oper.waitsOn, Region.binds, List.filter_cons, List.filter_nil, factAt, depsHold] at hd)
              have k0 := grown_cell hmq.out.own hw (by omega) (show Cell wr pf 3 vd from hmq.out.file.cell 3 _ rfl); unfold Cell at k0
              simp only [putsFrom, Act.put, List.setIfInBounds_toArray, List.set_cons_succ, List.set_cons_zero]
              go_simp
              exact ⟨Below.refl _ _, rfl⟩
            refine growW_exact (by rfl) ?_
            apply Exists.intro
            refine ⟨fun vs w2 hw hd => ?_, ?_⟩
            · (try simp [Oper.waitsOn, Region.binds, List.filter_cons, List.filter_nil, factAt, depsHold] at hd)
              simp only [putsFrom, Act.put, List.setIfInBounds_toArray, List.set_cons_succ, List.set_cons_zero]
              go_simp
              exact ⟨Below.refl _ _, rfl⟩
            refine growW_exact (by rfl) ?_
            apply Exists.intro
            refine ⟨fun vs w2 hw hd => ?_, ?_⟩
            · (try simp [Oper.waitsOn, Region.binds, List.filter_cons, List.filter_nil, factAt, depsHold] at hd)
              have k0 := cell_local (type_block hmq.out.own hw hbx (by decide)) bxq; unfold Cell at k0
              simp only [putsFrom, Act.put, List.setIfInBounds_toArray, List.set_cons_succ, List.set_cons_zero]
              go_simp
              exact ⟨Below.refl _ _, rfl⟩
            refine growW_step (RowOne x.num) (rowOne_stays x.num) (by rfl) (.inl (by rfl)) ?_ ?_
            · intro vs w2 hw hd
              (try simp [Oper.waitsOn, Region.binds, List.filter_cons, List.filter_nil, factAt, depsHold] at hd)
              simp only [putsFrom, Act.put, List.setIfInBounds_toArray, List.set_cons_succ, List.set_cons_zero]
              go_simp
              exact ⟨below_alloc _ _, _, rfl, new_cell _ _ _ 0 _ rfl⟩
            refine growW_wild (fun v w' => w'.ownsRow (pf + 1) 3 1 v ((opensTo N k).length + 1) ((opensTo N k).map (Value.int .i64) ++ [.int .i64 x.num])) (fun _ _ _ hb h => own_ext hb h) (by rfl) ?_ ?_
            · intro vs w2 hw hi hd
              (try simp [Oper.waitsOn, Region.binds, List.filter_cons, List.filter_nil, factAt, depsHold] at hd)
              simp only [putsFrom, Act.put, List.setIfInBounds_toArray, List.set_cons_succ, List.set_cons_zero]
              obtain ⟨e3, bb, e5, hbb⟩ := hd
              refine wild_append_own (.tmp 55) (.tmp 58) 28 (by rfl) (pf + 1) 3 i0 _ 1 8 Tryz.underlying28 hif iz0 iz1 iz2 rfl (by decide) vd _ _ (by exact e3) hi.1 (vs 7) ⟨bb, 0, none⟩ 1 1 e5 [.int .i64 x.num] (by rfl) rfl (fun j u hj => by
                cases j with
                | zero => simp at hj; subst hj; exact hbb
                | succ j => simp at hj) (fun u hu => by simp at hu; subst hu; rfl) (by unfold maxLen; omega) (by omega) hi.2 (fun v' w' h1 h2 => ⟨grown_join hw h2, h2, h1⟩)
            refine growW_done rfl (fun vs w7 hw hd => ?_)
            simp [depsHold, factAt, List.range, List.range.loop, List.filter_cons, List.filter_nil] at hd
            simp only [putsFrom, Act.put, List.setIfInBounds_toArray, List.set_cons_succ, List.set_cons_zero, List.drop_succ_cons, List.drop_zero]
            obtain ⟨e0, e1, e2, e3, e4, e5, e6, h8⟩ := hd
            obtain ⟨hl7, hm7⟩ := hmq.out.app h8 hw
            obtain ⟨g7, cap7, e8⟩ := own_shape h8
            rw [e8] at hm7
            simp only [Nat.zero_add, Nat.reduceAdd] at e0 e1 e2 e3 e4 e5 e6 e8 ⊢
            simp only [e0, e1, e2, e3, e4, e5, e6, e8]
            have hm7 := Lib.hid hm7
            have c7 := hl7.cell 3 _ rfl
            have f7 := hl7.frozen 3
            clear h8 hw hl7 hbx hszq hmq bxq BXT e0 e1 e2 e3 e4 e5 e6 e8 c0 c1 x2 lbx
            generalize vs 7 = u7 at *
            go_wp2
            go_roundw
            case rel => exact ⟨k + 1, _, rfl, by go_num, by omega, Lib.hid (by rw [hnk]; exact hm7.out), Lib.hid (fun j hj hjl => by
              by_cases e : j = k
              · subst e; rw [HX.out]; exact hnok
              · exact hall.out j (by omega) hjl)⟩
            case measure => simp [intOf]; omega
          · have hnk : opensTo N (k + 1) = opensTo N k := by rw [HOP.out, if_neg hsg, List.append_nil]
            have hsg' : (x.sg == 1) = false := by simp [hsg]
            clear hsg
            go_wp2
            go_roundw
            case rel => exact ⟨k + 1, vd, rfl, by go_num, by omega, Lib.hid (by rw [hnk]; exact hmq.out), Lib.hid (fun j hj hjl => by
              by_cases e : j = k
              · subst e; rw [HX.out]; exact hnok
              · exact hall.out j (by omega) hjl)⟩
            case measure => simp [intOf]; omega
    · have hke : k = N.length := by omega
      subst hke
      have hsl : ∃ a c, vd = .slice a (opensTo N N.length).length c := by
        rcases hmd.out.own.2 with ⟨rfl, h0⟩ | ⟨g, cap, cur, rfl, _⟩
        · exact ⟨none, 0, by rw [h0]⟩
        · exact ⟨_, _, rfl⟩
      obtain ⟨a8, c8, rfl⟩ := hsl
      have hol := opensTo_len N N.length (Nat.le_refl _)
      have c3 := hmd.out.file.cell 3 _ rfl
      have hm9 := hmd
      by_cases h5 : 5 < (opensTo N N.length).length
      · have e1 := k3 (fun h => by have := h.2.2; omega)
        clear hol hmd hall
        generalize (opensTo N N.length).length = NL at *
        go_wp2
        try rw [Exit.noGoto_ret]
        go_ret2
        exact ⟨⟨none, by rw [e1]; rfl⟩, hm9.out.below⟩
      · have e1 := k2 ⟨h12', fun j hj => hall.out j hj hj, by omega⟩
        have HS := Lib.hid (sort_ints wr (pf + 1) _ (opensTo N N.length) (by omega) hmd.out.own)
        have HO := Lib.hid hmd.out.own
        have hlo := hmd.out.lo
        clear hol hall
        generalize hNL : (opensTo N N.length).length = NL at c3 h5 HS HO
        clear hmd
        go_wp2_with fail
        refine HS.out.mono ?_
        rintro e w4 ⟨⟨u9, rfl⟩, hg⟩
        have hbe := grown_below HO.out hg hm9.out.below (by omega)
        clear c3 HS
        go_wp2
        try rw [Exit.noGoto_ret]
        go_ret2
        exact ⟨⟨_, by rw [e1]; rfl⟩, hbe⟩

end Go.Proofs.YtoibnhkiedpkgaaGreatDoor
