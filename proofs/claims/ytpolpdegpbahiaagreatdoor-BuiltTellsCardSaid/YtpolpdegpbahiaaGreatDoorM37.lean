/- Arguments opened: an int, and the name of an issue. -/
import Derived.Deep.Slices
import Derived.Test.YtpolpdegpbahiaaGreatDoorM03
set_option linter.all false
set_option maxRecDepth 100000
set_option maxHeartbeats 12800000

namespace Go.Proofs.YtpolpdegpbahiaaGreatDoor
open Tryz
section
open Go.RowKit Go.ChangeShapes Go.WideShapes
section
variable {H : Type} {enc : TypeId × Value → H} {w : World} {sp : Nat → Bool} {hd : Bool}
theorem zOD {cs : List Value} {o k j : Nat} {v : Value} (h : ((cs.drop o).take k)[j]? = some v) : cs[o + j]? = some v := by
 rw [List.getElem?_take] at h
 split at h
 ·rw [List.getElem?_drop] at h; exact h
 ·cases h
theorem zIU {cs : List Value} {o : Nat} {v : Value} (h : (cs.drop o).take 1 = [v]) : cs[o]? = some v := by
 have : ((cs.drop o).take 1)[0]? = some v := by rw [h]; rfl
 exact zOD this
theorem cells_i : prog.cellsOf 3 = 1 := by kernel_rfl
theorem cells_u : prog.cellsOf 5 = 1 := by kernel_rfl
theorem cells_b : prog.cellsOf 4 = 1 := by kernel_rfl
theorem zDH {n o : Nat} {cs : List Value} {y : DataW H × List MemPlace} (h : DataW.trod enc prog w 0 sp hd n 3 ((cs.drop o).take (prog.cellsOf 3)) = some y) : ∃ x, cs[o]? = some (.int .i64 x) ∧ I64 x := by
 rw [cells_i] at h
 obtain ⟨x, e, _, hw⟩ := DataW.trod_int underlying3 h
 refine ⟨x, zIU e, ?_⟩
 simp [Lit.wf, IntKind.has, IntKind.min, IntKind.max, IntKind.signed, IntKind.bits] at hw
 unfold I64
 omega
theorem leaf_u {n o : Nat} {cs : List Value} {y : DataW H × List MemPlace} (h : DataW.trod enc prog w 0 sp hd n 5 ((cs.drop o).take (prog.cellsOf 5)) = some y) : ∃ x, cs[o]? = some (.int .u8 x) ∧ U8 x := by
 rw [cells_u] at h
 obtain ⟨x, e, _, hw⟩ := DataW.trod_int underlying5 h
 refine ⟨x, zIU e, ?_⟩
 simp [Lit.wf, IntKind.has, IntKind.min, IntKind.max, IntKind.signed, IntKind.bits] at hw
 unfold U8
 omega
theorem leaf_b {n o : Nat} {cs : List Value} {y : DataW H × List MemPlace} (h : DataW.trod enc prog w 0 sp hd n 4 ((cs.drop o).take (prog.cellsOf 4)) = some y) : ∃ x, cs[o]? = some (.bool x) := by
 rw [cells_b] at h
 obtain ⟨x, e, _⟩ := DataW.trod_bool underlying4 h
 exact ⟨x, zIU e⟩
theorem zDN {n : Nat} {t : TypeId} {fs : Array Field} {cs : List Value} {y : DataW H × List MemPlace} (ht : prog.underlying t = some (.struct fs)) (h : DataW.trod enc prog w 0 sp hd n t cs = some y) :
  cs.length = prog.cellsOf t ∧ ∃ m, ∀ (i : Nat) (f : Field), fs[i]? = some f → ∃ z, DataW.trod enc prog w 0 sp hd m f.type ((cs.drop f.offset).take (prog.cellsOf f.type)) = some z := by
 obtain ⟨xs, m, _, _, hl, hx, hf⟩ := DataW.trod_struct ht h
 refine ⟨hl, m, fun i f hi => ?_⟩
 have hlt : i < xs.length := by rw [hx]; exact (Array.getElem?_eq_some_iff.1 hi).1
 exact ⟨xs[i], by rw [hf i f hi, List.getElem?_eq_getElem hlt]⟩
theorem list_of {α : Type} : ∀ (n : Nat) (p : Nat → α → Prop), (∀ i, i < n → ∃ x, p i x) → ∃ xs : List α, xs.length = n ∧ ∀ i (h : i < xs.length), p i xs[i]
 | 0, _, _ => ⟨[], rfl, fun i h => by simp at h⟩
 | n + 1, p, h => by
   obtain ⟨xs, hl, hx⟩ := list_of n p (fun i hi => h i (by omega))
   obtain ⟨x, hp⟩ := h n (by omega)
   refine ⟨xs ++ [x], by simp [hl], fun i hi => ?_⟩
   by_cases e : i < xs.length
   ·rw [List.getElem_append_left e]; exact hx i e
   ·have e2 : i = n := by simp at hi; omega
    subst e2
    have : (xs ++ [x])[i] = x := by simp [← hl]
    rw [this]; exact hp
theorem zLX {n o sz : Nat} {t e : TypeId} {cs : List Value} {y : DataW H × List MemPlace} {α : Type} {E : World → Nat → Nat → α → Prop} (ht : prog.underlying t = some (.slice e)) (hc : prog.cellsOf t = 1) (hz : prog.cellsOf e = sz) (hpos : 0 < sz)
  (hE : ∀ (m : Nat) (cs' : List Value) (z : DataW H × List MemPlace) (b o' : Nat), DataW.trod enc prog w 0 sp hd m e cs' = some z → (∀ j v, cs'[j]? = some v → zJ w b (o' + j) v) → ∃ x, E w b o' x)
  (h : DataW.trod enc prog w 0 sp hd n t ((cs.drop o).take (prog.cellsOf t)) = some y) : ∃ v xs, cs[o]? = some v ∧ Sl E sz w v xs ∧ Capd v xs.length := by
 rw [hc] at h
 rcases Deep.open_slice ht h with ⟨e0, _⟩ | ⟨a, len, cap, m, k, D, Pl, e0, _, hl, hm, hmm, _, hx⟩
 ·exact ⟨_, [], zIU e0, zGS _ _ _ _ _, _, _, rfl, Nat.zero_le _⟩
 ·rw [hz] at hx
  have hlm : len ≤ m := by rw [hmm]; split <;> omega
  have key : ∀ i, i < len → ∃ x, ∃ b off, a = ⟨b, off, none⟩ ∧ E w b (off + i * sz) x := fun i hi => by
   obtain ⟨cs', h1, h2⟩ := hx i (by omega)
   obtain ⟨_, hlen, hcell⟩ := World.cells?_some h1
   obtain ⟨cs0, h10, _⟩ := hx 0 (by omega)
   obtain ⟨_, hlen0, hcell0⟩ := World.cells?_some h10
   obtain ⟨b, off, spot⟩ := a
   have h0 := hcell0 0 hpos
   rw [List.getElem?_eq_getElem (by omega)] at h0
   have hspot : spot = none := by simpa [Addr.add] using World.cell?_spot h0
   subst hspot
   obtain ⟨x, hX⟩ := hE _ cs' _ b (off + i * sz) h2 (fun j v hj => by
    have hj2 : j < sz := by rw [← hlen]; exact (List.getElem?_eq_some_iff.1 hj).1
    have := hcell j hj2
    rw [hj] at this
    simp only [Addr.add_lit] at this
    exact this)
   exact ⟨x, b, off, rfl, hX⟩
  obtain ⟨xs, hxl, hxs⟩ := list_of len _ key
  subst hxl
  refine ⟨_, xs, zIU e0, ⟨some a, cap, rfl, by unfold maxLen at hm; omega, fun i hi => ?_⟩, _, _, rfl, hl⟩
  obtain ⟨b, off, rfl, hX⟩ := hxs i hi
  exact ⟨b, off, rfl, hX⟩
theorem el_item (m : Nat) (cs : List Value) (z : DataW H × List MemPlace) (b o : Nat) (h : DataW.trod enc prog w 0 sp hd m 205 cs = some z) (hc : ∀ j v, cs[j]? = some v → zJ w b (o + j) v) : ∃ x, zCP w b o x := by
 obtain ⟨_, k, hf⟩ := zDN underlying205 h
 obtain ⟨_, h0⟩ := hf 0 _ rfl
 obtain ⟨x0, c0, r0⟩ := zDH h0
 obtain ⟨_, h1⟩ := hf 1 _ rfl
 obtain ⟨x1, c1, r1⟩ := zDH h1
 exact ⟨⟨x0, x1⟩, ⟨hc 0 _ c0, hc 1 _ c1⟩, r0, r1⟩
theorem el_dim (m : Nat) (cs : List Value) (z : DataW H × List MemPlace) (b o : Nat) (h : DataW.trod enc prog w 0 sp hd m 252 cs = some z) (hc : ∀ j v, cs[j]? = some v → zJ w b (o + j) v) : ∃ x, zGQ w b o x := by
 obtain ⟨_, k, hf⟩ := zDN underlying252 h
 obtain ⟨_, h0⟩ := hf 0 _ rfl
 obtain ⟨x0, c0, r0⟩ := zDH h0
 obtain ⟨_, h1⟩ := hf 1 _ rfl
 obtain ⟨x1, c1, r1⟩ := zDH h1
 obtain ⟨_, h2⟩ := hf 2 _ rfl
 obtain ⟨x2, c2, r2⟩ := zDH h2
 exact ⟨⟨x0, x1, x2⟩, ⟨hc 0 _ c0, hc 1 _ c1, hc 2 _ c2⟩, r0, r1, r2⟩
theorem el_note (m : Nat) (cs : List Value) (z : DataW H × List MemPlace) (b o : Nat) (h : DataW.trod enc prog w 0 sp hd m 147 cs = some z) (hc : ∀ j v, cs[j]? = some v → zJ w b (o + j) v) : ∃ x, zBM w b o x := by
 obtain ⟨_, k, hf⟩ := zDN underlying147 h
 obtain ⟨_, h0⟩ := hf 0 _ rfl
 obtain ⟨x0, c0, r0⟩ := zDH h0
 obtain ⟨_, h1⟩ := hf 1 _ rfl
 obtain ⟨x1, c1, r1⟩ := zDH h1
 obtain ⟨_, h2⟩ := hf 2 _ rfl
 obtain ⟨x2, c2, r2⟩ := leaf_u h2
 obtain ⟨_, h3⟩ := hf 3 _ rfl
 obtain ⟨x3, c3, r3⟩ := zDH h3
 obtain ⟨_, h4⟩ := hf 4 _ rfl
 obtain ⟨x4, c4, r4⟩ := zDH h4
 obtain ⟨_, h5⟩ := hf 5 _ rfl
 obtain ⟨x5, c5, r5⟩ := zDH h5
 obtain ⟨_, h6⟩ := hf 6 _ rfl
 obtain ⟨x6, c6, r6⟩ := zDH h6
 obtain ⟨_, h7⟩ := hf 7 _ rfl
 obtain ⟨x7, c7, r7⟩ := zDH h7
 obtain ⟨_, h8⟩ := hf 8 _ rfl
 obtain ⟨x8, c8⟩ := leaf_b h8
 obtain ⟨_, h9⟩ := hf 9 _ rfl
 obtain ⟨x9, c9, r9⟩ := leaf_u h9
 exact ⟨⟨x0, x1, x2, x3, x4, x5, x6, x7, x8, x9⟩, ⟨hc 0 _ c0, hc 1 _ c1, hc 2 _ c2, hc 3 _ c3, hc 4 _ c4, hc 5 _ c5, hc 6 _ c6, hc 7 _ c7, hc 8 _ c8, hc 9 _ c9⟩, r0, r1, r2, r3, r4, r5, r6, r7, r9⟩
theorem el_report (m : Nat) (cs : List Value) (z : DataW H × List MemPlace) (b o : Nat) (h : DataW.trod enc prog w 0 sp hd m 116 cs = some z) (hc : ∀ j v, cs[j]? = some v → zJ w b (o + j) v) : ∃ x, zDD w b o x := by
 obtain ⟨_, k, hf⟩ := zDN underlying116 h
 obtain ⟨_, h0⟩ := hf 0 _ rfl
 obtain ⟨x0, c0, r0⟩ := zDH h0
 obtain ⟨_, h1⟩ := hf 1 _ rfl
 obtain ⟨x1, c1, r1⟩ := zDH h1
 obtain ⟨_, h2⟩ := hf 2 _ rfl
 obtain ⟨x2, c2, r2⟩ := zDH h2
 obtain ⟨_, h3⟩ := hf 3 _ rfl
 obtain ⟨x3, c3, r3⟩ := zDH h3
 obtain ⟨_, h4⟩ := hf 4 _ rfl
 obtain ⟨x4, c4, r4⟩ := leaf_u h4
 exact ⟨⟨x0, x1, x2, x3, x4⟩, ⟨hc 0 _ c0, hc 1 _ c1, hc 2 _ c2, hc 3 _ c3, hc 4 _ c4⟩, r0, r1, r2, r3, r4⟩
theorem el_int (m : Nat) (cs : List Value) (z : DataW H × List MemPlace) (b o : Nat) (h : DataW.trod enc prog w 0 sp hd m 3 cs = some z) (hc : ∀ j v, cs[j]? = some v → zJ w b (o + j) v) : ∃ x, zAJ w b o x := by
 obtain ⟨x, e, _, hw⟩ := DataW.trod_int underlying3 h
 subst e
 refine ⟨x, hc 0 _ rfl, ?_⟩
 simp [Lit.wf, IntKind.has, IntKind.min, IntKind.max, IntKind.signed, IntKind.bits] at hw
 unfold I64
 omega
theorem el_heap (m : Nat) (cs : List Value) (z : DataW H × List MemPlace) (b o : Nat) (h : DataW.trod enc prog w 0 sp hd m 114 cs = some z) (hc : ∀ j v, cs[j]? = some v → zJ w b (o + j) v) : ∃ x, zHA w b o x := by
 obtain ⟨_, k, hf⟩ := zDN underlying114 h
 obtain ⟨_, h0⟩ := hf 0 _ rfl
 obtain ⟨x0, c0, r0⟩ := zDH h0
 obtain ⟨_, h1⟩ := hf 1 _ rfl
 obtain ⟨x1, c1, r1⟩ := zDH h1
 obtain ⟨_, h2⟩ := hf 2 _ rfl
 obtain ⟨_, k2, hg⟩ := zDN underlying38 h2
 obtain ⟨_, g0⟩ := hg 0 _ rfl
 obtain ⟨x2, c2, r2⟩ := zDH g0
 obtain ⟨_, g1⟩ := hg 1 _ rfl
 obtain ⟨x3, c3, r3⟩ := zDH g1
 exact ⟨⟨x0, x1, x2, x3⟩, ⟨hc 0 _ c0, hc 1 _ c1, hc 2 _ (zOD c2), hc 3 _ (zOD c3)⟩, r0, r1, r2, r3⟩
theorem el_issue (m : Nat) (cs : List Value) (z : DataW H × List MemPlace) (b o : Nat) (h : DataW.trod enc prog w 0 sp hd m 107 cs = some z) (hc : ∀ j v, cs[j]? = some v → zJ w b (o + j) v) : ∃ x, zAU w b o x := by
 obtain ⟨_, k, hf⟩ := zDN underlying107 h
 obtain ⟨_, h0⟩ := hf 0 _ rfl
 obtain ⟨x0, c0, r0⟩ := zDH h0
 obtain ⟨_, h1⟩ := hf 1 _ rfl
 obtain ⟨x1, c1, r1⟩ := zDH h1
 obtain ⟨_, h2⟩ := hf 2 _ rfl
 obtain ⟨x2, c2, r2⟩ := leaf_u h2
 obtain ⟨_, h3⟩ := hf 3 _ rfl
 obtain ⟨v3, x3, c3, s3, _⟩ := zLX (E := zCP) (sz := 2) underlying104 (by kernel_rfl) (by kernel_rfl) (by decide) el_item h3
 obtain ⟨_, h4⟩ := hf 4 _ rfl
 obtain ⟨v4, x4, c4, s4, _⟩ := zLX (E := zGQ) (sz := 3) underlying105 (by kernel_rfl) (by kernel_rfl) (by decide) el_dim h4
 exact ⟨⟨x0, x1, x2, x3, x4⟩, ⟨hc 0 _ c0, hc 1 _ c1, hc 2 _ c2⟩, ⟨r0, r1, r2⟩, v3, v4, hc 3 _ c3, hc 4 _ c4, s3, s4⟩
theorem arg_built {r : Reach} {b0 : Nat} {v : Value} {d : DataW H} {p : List MemPlace} (hv : Value.okWide prog w r b0 32 v) (h : DataW.Trod enc prog w 0 sp hd 32 v d p) :
  ∃ vr vn vm vh vs b, v = .agg #[vr, vn, .int .i64 (Built.of b), vm, vh, vs] ∧ BuiltAt w vr vn vm vh vs b := by
 obtain ⟨cs, rfl, hsz⟩ := okWide_struct underlying32 hv
 rw [show prog.cellsOf 32 = 6 by kernel_rfl] at hsz
 obtain ⟨fuel, h⟩ := h
 obtain ⟨_, k, hf⟩ := zDN underlying32 h
 obtain ⟨_, h0⟩ := hf 0 _ rfl
 obtain ⟨_, k0, hg⟩ := zDN underlying27 h0
 obtain ⟨_, g0⟩ := hg 0 _ rfl
 obtain ⟨_, k1, hr⟩ := zDN underlying24 g0
 obtain ⟨_, r0⟩ := hr 0 _ rfl
 obtain ⟨vr, R, cr, sr, _⟩ := zLX (E := zAU) (sz := 5) underlying22 (by kernel_rfl) (by kernel_rfl) (by decide) el_issue r0
 obtain ⟨_, g1⟩ := hg 1 _ rfl
 obtain ⟨vn, N, cn, sn, _⟩ := zLX (E := zBM) (sz := 10) underlying25 (by kernel_rfl) (by kernel_rfl) (by decide) el_note g1
 obtain ⟨_, h1⟩ := hf 1 _ rfl
 obtain ⟨of, cof, rof⟩ := zDH h1
 obtain ⟨_, h2⟩ := hf 2 _ rfl
 obtain ⟨vm, ms, cm, sm, _⟩ := zLX (E := zAJ) (sz := 1) underlying28 (by kernel_rfl) (by kernel_rfl) (by decide) el_int h2
 obtain ⟨_, h3⟩ := hf 3 _ rfl
 obtain ⟨vh, hs, ch, sh, _⟩ := zLX (E := zHA) (sz := 4) underlying29 (by kernel_rfl) (by kernel_rfl) (by decide) el_heap h3
 obtain ⟨_, h4⟩ := hf 4 _ rfl
 obtain ⟨vs, rs, cs', ss, _⟩ := zLX (E := zDD) (sz := 5) underlying30 (by kernel_rfl) (by kernel_rfl) (by decide) el_report h4
 refine ⟨vr, vn, vm, vh, vs, ⟨⟨R, N⟩, of, ms, hs, rs⟩, ?_, sr, sn, sm, sh, ss, rof⟩
 have q0 := zOD (zOD cr)
 have q1 := zOD cn
 obtain ⟨l⟩ := cs
 match l, hsz with
 | [c0, c1, c2, c3, c4, c5], _ =>
   simp [Value.cells] at q0 q1 cof cm ch cs'
   subst q0 q1 cof cm ch cs'
   rfl
end
end
section
open Go.RowKit Go.ChangeShapes Go.WideShapes
section
variable {H : Type} {enc : TypeId × Value → H} {w : World} {sp : Nat → Bool} {hd : Bool}
theorem arg_int {r : Reach} {b0 : Nat} {v : Value} {d : DataW H} {p : List MemPlace} (hv : Value.okWide prog w r b0 3 v) (h : DataW.Trod enc prog w 0 sp hd 3 v d p) :
  ∃ x : Int, v = .int .i64 x ∧ I64 x := by
 obtain ⟨x, rfl⟩ := okWide_int underlying3 hv
 obtain ⟨fuel, h⟩ := h
 obtain ⟨y, e, _, hw⟩ := DataW.trod_int underlying3 h
 have e2 : x = y := by simpa [Value.cells] using e
 subst e2
 refine ⟨x, rfl, ?_⟩
 simp [Lit.wf, IntKind.has, IntKind.min, IntKind.max, IntKind.signed, IntKind.bits] at hw
 unfold I64
 omega
theorem arg_ref {r : Reach} {b0 : Nat} {v : Value} {d : DataW H} {p : List MemPlace} (hv : Value.okWide prog w r b0 34 v) (h : DataW.Trod enc prog w 0 sp hd 34 v d p) :
  ∃ x y : Int, v = .agg #[.int .i64 x, .int .i64 y] ∧ I64 x ∧ I64 y := by
 obtain ⟨cs, rfl, hsz⟩ := okWide_struct underlying34 hv
 rw [show prog.cellsOf 34 = 2 by kernel_rfl] at hsz
 obtain ⟨fuel, h⟩ := h
 obtain ⟨_, k, hf⟩ := zDN underlying34 h
 obtain ⟨_, h0⟩ := hf 0 _ rfl
 obtain ⟨x0, c0, r0⟩ := zDH h0
 obtain ⟨_, h1⟩ := hf 1 _ rfl
 obtain ⟨x1, c1, r1⟩ := zDH h1
 refine ⟨x0, x1, ?_, r0, r1⟩
 obtain ⟨l⟩ := cs
 match l, hsz with
 | [d0, d1], _ =>
   simp [Value.cells] at c0 c1
   subst c0 c1
   rfl
end
end
end Go.Proofs.YtpolpdegpbahiaaGreatDoor
