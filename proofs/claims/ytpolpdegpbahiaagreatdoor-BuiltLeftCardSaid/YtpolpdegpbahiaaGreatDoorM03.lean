/- The reference's notes and machines in new memory. -/
import Derived.Test.YtpolpdegpbahiaaGreatDoorProg
import Derived.Deep.QuietTactic
import Derived.BigQuiet
import Derived.StillTailTactics
import Derived.Test.YtpolpdegpbahiaaGreatDoorM01
import Derived.Test.YtpolpdegpbahiaaGreatDoorM02
set_option linter.all false
set_option maxRecDepth 100000
set_option maxHeartbeats 12800000

namespace Go.Proofs.YtpolpdegpbahiaaGreatDoor
open Tryz
section
open Go.RowKit
attribute [local go_sem] zAN Oper.grows Oper.growUpon
theorem twinIssue02 (w : World) (vi vd : Value) (x : Issue) (h : IssueAt w vi vd x) (hn : x.items.length ≤ 100) (hn2 : x.dims.length ≤ 100) :
  Calls prog 122 #[.agg #[.int .i64 x.d, .int .i64 x.l, .int .u8 x.k, vi, vd]] w fun e w' => ∃ ui ud, e = .returned (.agg #[.int .i64 x.d, .int .i64 x.l, .int .u8 x.k, ui, ud]) ∧
   Sl (Fr w.heap.size 205 zCP) 2 w' ui x.items ∧ Sl (Fr w.heap.size 252 zGQ) 3 w' ud x.dims ∧ Below w.heap.size w w' := by
 obtain ⟨i0, hi0, hz0, hz1, hz2⟩ := info_parts zPR
 obtain ⟨i1, hi1, hy0, hy1, hy2⟩ := info_parts infoDim
 obtain ⟨ai, capi, rfl, _⟩ := zD h.items
 obtain ⟨ad, capd, rfl, _⟩ := zD h.dims
 obtain ⟨hb1, B1, B2⟩ := zDY w #[.int .i64 x.d, .int .i64 x.l, .int .u8 x.k, .slice ai x.items.length capi, .slice ad x.dims.length capd] #[.int .i64 0, .int .i64 0, .int .u8 0, .slice none 0 0, .slice none 0 0] 107 107
 have c0 := B1 0 (.int .i64 x.d) rfl
 have c1 := B1 1 (.int .i64 x.l) rfl
 have c2 := B1 2 (.int .u8 x.k) rfl
 have c3 := B1 3 (.slice ai x.items.length capi) rfl
 have c4 := B1 4 (.slice ad x.dims.length capd) rfl
 have r0 := B2 0 (.int .i64 0) rfl
 have r1 := B2 1 (.int .i64 0) rfl
 have r2 := B2 2 (.int .u8 0) rfl
 have r3 := B2 3 (.slice none 0 0) rfl
 have r4 := B2 4 (.slice none 0 0) rfl
 have f1 := zDK (zB _ (.cells #[.int .i64 0, .int .i64 0, .int .u8 0, .slice none 0 0, .slice none 0 0] 107)) (zIK w #[.int .i64 x.d, .int .i64 x.l, .int .u8 x.k, .slice ai x.items.length capi, .slice ad x.dims.length capd] 107)
 have f2 := zIK (w.alloc (.cells #[.int .i64 x.d, .int .i64 x.l, .int .u8 x.k, .slice ai x.items.length capi, .slice ad x.dims.length capd] 107)) #[.int .i64 0, .int .i64 0, .int .u8 0, .slice none 0 0, .slice none 0 0] 107
 rw [World.size_alloc] at f2
 have F : Hid (Free ((w.alloc (.cells #[.int .i64 x.d, .int .i64 x.l, .int .u8 x.k, .slice ai x.items.length capi, .slice ad x.dims.length capd] 107)).alloc (.cells #[.int .i64 0, .int .i64 0, .int .u8 0, .slice none 0 0, .slice none 0 0] 107)) w.heap.size ∧
  Free ((w.alloc (.cells #[.int .i64 x.d, .int .i64 x.l, .int .u8 x.k, .slice ai x.items.length capi, .slice ad x.dims.length capd] 107)).alloc (.cells #[.int .i64 0, .int .i64 0, .int .u8 0, .slice none 0 0, .slice none 0 0] 107)) (w.heap.size + 1)) := ⟨f1, f2⟩
 have C : Hid (∀ w1, zJ w1 w.heap.size 0 (.int .i64 x.d) → True) := fun _ _ => trivial
 clear B1 B2 f1 f2 C
 have hx := h.ext hb1
 go_enter func122, ntmps122
 go_wp2_with fail
 generalize (w.alloc _).alloc _ = w1 at *
 refine zK 9 (by kernel_rfl) (by kernel_rfl) ?_
 simp only [tk_]
 have K3 := zG c3
 have K4 := zG c4
 refine zL (fun v _ => ∃ g, v = .slice (some ⟨g, 0, none⟩) 0 0) (fun _ _ _ _ h => h) ?_ ?_
 ·intro vs xq hd
  (try simp [hq_] at hd)
  simp only [pf_]
  go_simp
  exact zB _ _
 iterate 2 (apply gx_; focus (intro vs xq hd; (try simp [hq_] at hd); simp only [pf_]; go_simp; exact ⟨br_, rfl⟩))
 refine zL (fun v w' => Sl (Fr w1.heap.size 205 zCP) 2 w' v x.items) (fun v w w' hb h => zI (zBU zBB) hb h) ?_ ?_
 ·intro vs xq hd
  (try simp [hq_] at hd)
  simp only [pf_]
  exact zFF (by rfl) (zIE (.tmp 3) (.tmp 5) 104 (by rfl) 205 i0 _ 2 16 underlying104 hi0 hz0 hz1 hz2 rfl (by decide) (by decide) copies_item cells_item (vs 0) (.slice ai x.items.length capi) x.items (by rfl) hd.1 (by exact hd.2) (hx.ext (zE _ _)).items (Nat.le_trans hn (by decide)) w1.heap.size (zE w1 xq).size) (fun v w' h => h)
 refine zL (fun v _ => ∃ g, v = .slice (some ⟨g, 0, none⟩) 0 0) (fun _ _ _ _ h => h) ?_ ?_
 ·intro vs xq hd
  (try simp [hq_] at hd)
  simp only [pf_]
  go_simp
  exact zB _ _
 iterate 2 (apply gx_; focus (intro vs xq hd; (try simp [hq_] at hd); simp only [pf_]; go_simp; exact ⟨br_, rfl⟩))
 refine zL (fun v w' => Sl (Fr w1.heap.size 252 zGQ) 3 w' v x.dims) (fun v w w' hb h => zI (zBU zBY) hb h) ?_ ?_
 ·intro vs xq hd
  (try simp [hq_] at hd)
  simp only [pf_]
  exact zFF (by rfl) (zIE (.tmp 7) (.tmp 9) 105 (by rfl) 252 i1 _ 3 24 underlying105 hi1 hy0 hy1 hy2 rfl (by decide) (by decide) copies_dim cells_dim (vs 4) (.slice ad x.dims.length capd) x.dims (by rfl) hd.1 (by exact hd.2.1) (hx.ext (zE _ _)).dims (Nat.le_trans hn2 (by decide)) w1.heap.size (zE w1 xq).size) (fun v w' h => h)
 apply gx_; focus (intro vs xq hd; (try simp [hq_] at hd); simp only [pf_]; go_simp; exact ⟨br_, rfl⟩)
 refine zT rfl (fun vs xq hd => ?_)
 simp [zV, zAD, List.range, List.range.loop] at hd
 simp only [pf_]
 obtain ⟨_, _, _, s3, _, _, _, s7, e8⟩ := hd
 generalize vs 0 = u0 at *
 generalize vs 1 = u1 at *
 generalize vs 2 = u2 at *
 generalize vs 3 = u3 at *
 generalize vs 4 = u4 at *
 generalize vs 5 = u5 at *
 generalize vs 6 = u6 at *
 generalize vs 7 = u7 at *
 generalize vs 8 = u8 at *
 subst e8
 have hbl := zE w1 xq
 have c0 := zC hbl c0
 have c1 := zC hbl c1
 have c2 := zC hbl c2
 have c3 := zC hbl c3
 have c4 := zC hbl c4
 have r0 := zC hbl r0
 have r1 := zC hbl r1
 have r2 := zC hbl r2
 have r3 := zC hbl r3
 have r4 := zC hbl r4
 have f1 := zDK hbl F.out.1
 have f2 := zDK hbl F.out.2
 have hbb := zA hb1 hbl
 have hlt := (F.out.2).1
 have S3 := zF s3
 have S7 := zF s7
 obtain ⟨a3, cap3, rfl, _⟩ := zD s3
 obtain ⟨a7, cap7, rfl, _⟩ := zD s7
 clear s3 s7 K3 K4 hx F h hbl
 generalize w1.heap.size = z1 at *
 generalize w1.later xq = w2 at *
 generalize hg0 : w.heap.size = g0 at *
 have HG := zF hg0
 clear hg0
 have p0 := f1.2 3
 have p1 := f1.2 4
 have q0 := f2.2 0
 have q1 := f2.2 1
 have q2 := f2.2 2
 have q3 := f2.2 3
 have q4 := f2.2 4
 have h1 := f1.1
 have h2 := f2.1
 unfold zJ at c0 c1 c2 c3 c4 r0 r1 r2 r3 r4
 clear f1 f2
 go_wp2
 refine bodyPost_ret (v := .agg #[.int .i64 x.d, .int .i64 x.l, .int .u8 x.k, .slice a3 x.items.length cap3, .slice a7 x.dims.length cap7]) ?_ rfl ⟨_, _, rfl, ?_, ?_, ?_⟩
 ·simp [results, results122, go_sem, r0, r1, r2, r3, r4, h2]
 ·rw [HG.out]
  refine zEF (base := z1) (by omega) ?_
  repeat (refine zKZ zKG (by omega) ?_)
  exact S3.out
 ·rw [HG.out]
  refine zEF (base := z1) (by omega) ?_
  repeat (refine zKZ zMX (by omega) ?_)
  exact S7.out
 ·rw [HG.out]
  repeat (refine zH (by omega) ?_)
  exact hbb
end
section
open Go.RowKit
def Capd (v : Value) (n : Nat) : Prop := ∃ a c, v = .slice a n c ∧ n ≤ c
theorem capd_own {w : World} {base n : Nat} {e : TypeId} {sz : Nat} {v : Value} {cs : List Value} (h : w.ownsRow base e sz v n cs) : Capd v n := by
 obtain ⟨_, h⟩ := h
 rcases h with ⟨rfl, h0⟩ | ⟨g, cap, cur, rfl, _, _, hn, _⟩
 ·exact ⟨none, 0, by rw [h0], by omega⟩
 ·exact ⟨_, _, rfl, hn⟩
section
variable {P : Program}
theorem zEO {o : Oper} {a : Act} {w : World} (s x : Operand) (t : TypeId) (ho : o.op = .call { callee := .builtin .append, args := #[s, x], argTypes := #[t, t] })
  (e : TypeId) (i : TypeInfo) (z : Value) (sz bytes : Nat) (ht : P.underlying t = some (.slice e)) (hi : P.info? e = some i) (hz : i.zero = some z) (hsize : i.size = sz) (hby : i.bytes = bytes) (hzs : z.cells.size = sz) (hsz : 0 < sz) (hby2 : bytes ≤ 1000)
  {α : Type} {E : World → Nat → Nat → α → Prop} (hC : zKY E sz) (hE : zFD E sz) (v0 v : Value) (xs : List α) (hs : a.eval s = v0) (hv0 : ∃ g, v0 = .slice (some ⟨g, 0, none⟩) 0 0) (hx : a.eval x = v) (hsl : Sl E sz w v xs) (hn : xs.length ≤ 100000) (base : Nat) (hbase : base ≤ w.heap.size) :
  o.grows P a w (fun u w' => Sl (Fr base e E) sz w' u xs ∧ Capd u xs.length) := by
 obtain ⟨g, rfl⟩ := hv0
 by_cases hx0 : xs = []
 ·subst hx0
  obtain ⟨a', cap, rfl, _⟩ := zD hsl
  have hrun := zFN (P := P) w t o.type e i ht hi g a' cap
  unfold Oper.grows
  simp only [List.length_nil] at hx
  simp [execOp, ho, resolve, invoke, builtin, hs, hx, hrun, Result.andThen]
  exact ⟨br_, zGS _ _ _ _ _, _, _, rfl, Nat.zero_le _⟩
 ·obtain ⟨a', cap, rfl, _⟩ := zD hsl
  obtain ⟨_, hX⟩ := zZ hsl
  obtain ⟨b, off, hh, _⟩ := hX 0 (List.length_pos_iff.2 hx0)
  cases hh
  have hEE : ∀ k (hk : k < xs.length), E w b (off + k * sz) xs[k] := fun k hk => by
   obtain ⟨b', off', hh, he⟩ := hX k hk
   cases hh
   exact he
  obtain ⟨news, hl, hc, h1⟩ := zNE hE xs hEE
  have hpos := List.length_pos_iff.2 hx0
  obtain ⟨v', w', hrun, r1, r2⟩ := run_append_arg_grows (P := P) w t o.type e i z sz bytes ht hi hz hsize hby hzs hsz ⟨g, 0, none⟩ 0 0 [] (by simp) (fun j u hj => by simp at hj) ⟨b, off, none⟩ xs.length cap news hl (fun j u hj => by rw [Addr.add_lit]; exact hc j u hj)
   (by omega) (by unfold maxLen; omega) (by
    have : (0 + xs.length) * bytes ≤ 100000 * 1000 := Nat.mul_le_mul (by omega) hby2
    omega)
  have hb : Below w.heap.size w w' := (Below.refl _ w).grown r2 (Nat.le_refl _) (fun k e => by cases e)
  rw [Nat.zero_add, List.nil_append] at r1
  unfold Oper.grows
  simp [execOp, ho, resolve, invoke, builtin, hs, hx, hrun, Result.andThen]
  have hs' := zIF hC hb hEE hl hc r1
  exact ⟨hb, zEF hbase (zMS hs' r1), capd_own r1⟩
end
end
section
open Go.RowKit
attribute [local go_sem] zAN Oper.grows Oper.growUpon
def Small (R : List Issue) : Prop := R.length ≤ 80 ∧ ∀ k (h : k < R.length), R[k].items.length ≤ 16 ∧ R[k].dims.length ≤ 8
def RetIss (base : Nat) (x : Issue) (v : Value) (w' : World) : Prop :=
 ∃ ui ud, v = .agg #[.int .i64 x.d, .int .i64 x.l, .int .u8 x.k, ui, ud] ∧ Sl (Fr base 205 zCP) 2 w' ui x.items ∧ Sl (Fr base 252 zGQ) 3 w' ud x.dims
theorem retIss_stays (base : Nat) (x : Issue) : zCX (RetIss base x) := fun _ _ _ hb ⟨ui, ud, h1, h2, h3⟩ => ⟨ui, ud, h1, zI (zBU zBB) hb h2, zI (zBU zBY) hb h3⟩
def BoxIss (base : Nat) (x : Issue) (v : Value) (w' : World) : Prop :=
 ∃ bb ui ud, v = .slice (some ⟨bb, 0, none⟩) 1 1 ∧ (zJ w' bb 0 (.int .i64 x.d) ∧ zJ w' bb 1 (.int .i64 x.l) ∧ zJ w' bb 2 (.int .u8 x.k) ∧ zJ w' bb 3 ui ∧ zJ w' bb 4 ud) ∧ ui.oneCell' = true ∧ ud.oneCell' = true ∧ Sl (Fr base 205 zCP) 2 w' ui x.items ∧ Sl (Fr base 252 zGQ) 3 w' ud x.dims
theorem boxIss_stays (base : Nat) (x : Issue) : zCX (BoxIss base x) := fun _ _ _ hb ⟨bb, ui, ud, h1, ⟨g0, g1, g2, g3, g4⟩, o1, o2, h2, h3⟩ => ⟨bb, ui, ud, h1, ⟨zC hb g0, zC hb g1, zC hb g2, zC hb g3, zC hb g4⟩, o1, o2, zI (zBU zBB) hb h2, zI (zBU zBY) hb h3⟩
theorem twin02 (w : World) (v : Value) (R : List Issue) (h : Sl zAU 5 w v R) (hS : Small R) :
  Calls prog 89 #[.agg #[v]] w fun e w' => ∃ u, e = .returned (.agg #[u]) ∧ Sl (Fr w.heap.size 107 (zED w.heap.size)) 5 w' u R ∧ Below w.heap.size w w' ∧ Capd u R.length := by
 obtain ⟨i0, hi0, hz0, hz1, hz2⟩ := info_parts infoIssue
 obtain ⟨hR80, hRS⟩ := hS
 have HRS := zF hRS
 clear hRS
 obtain ⟨a, cap, rfl, hm⟩ := zD h
 obtain ⟨hb1, B1, B2, B3, hfr⟩ := boxed3 w #[.slice a R.length cap] #[.slice none 0 0] #[.slice none 0 0] 24 24 24
 have c0 := B1 0 (.slice a R.length cap) rfl
 have d0 := B2 0 (.slice none 0 0) rfl
 have r0 := B3 0 (.slice none 0 0) rfl
 have f2 := zIK (w.alloc (.cells #[.slice a R.length cap] 24)) #[.slice none 0 0] 24
 rw [World.size_alloc] at f2
 replace f2 := zDK (zB _ (.cells #[.slice none 0 0] 24)) f2
 have hsz : (((w.alloc (.cells #[.slice a R.length cap] 24)).alloc (.cells #[.slice none 0 0] 24)).alloc (.cells #[.slice none 0 0] 24)).heap.size = w.heap.size + 3 := by simp
 clear B1 B2 B3
 go_enter func89, ntmps89
 go_wp2
 generalize ((w.alloc _).alloc _).alloc _ = w1 at *
 generalize hg3 : w.heap.size + 1 + 1 = g3 at *
 generalize hg2 : w.heap.size + 1 = g2 at *
 generalize hz : w1.heap.size = z1 at *
 have HG : Hid (g2 = w.heap.size + 1 ∧ g3 = w.heap.size + 2 ∧ z1 = w.heap.size + 3 ∧ w1.heap.size = z1) := ⟨hg2.symm, by omega, by omega, hz⟩
 have hlt1 : w.heap.size < g2 := by omega
 have hlt2 : w.heap.size < g3 := by omega
 have hlt3 : g2 < g3 := by omega
 have hlt4 : g3 < z1 := by omega
 clear hg2 hg3 hz hsz
 go_loopw [4] (fun i wr => ∃ (k : Nat) (u : Value) (cs : List Value), i = .int .i64 k ∧ k ≤ R.length ∧ Below w.heap.size w wr ∧ zJ wr w.heap.size 0 (.slice a R.length cap) ∧ zJ wr g3 0 u ∧ Free wr g3 ∧ zJ wr g2 0 (.slice none 0 0) ∧ Free wr g2 ∧
  wr.ownsRow z1 107 5 u k cs ∧ IssRow z1 wr cs (R.take k) ∧ z1 ≤ wr.heap.size) (fun i _ => R.length - (intOf i).toNat)
 case atStart => exact ⟨0, _, [], rfl, by omega, hb1, c0, r0, hfr, d0, f2, World.ownsRow_nil _ _ _ _, issRow_nil _ _, by rw [HG.out.2.2.2]; omega⟩
 case round =>
  clear c0 d0 r0 f2 hfr
  obtain ⟨k, u, cs, rfl, hk, hb, c0, r0, hfr, d0, f2, hown, hrow, hzs⟩ := hrel
  by_cases hlt : k < R.length
  ·have e0 := c0
   unfold zJ at e0
   go_wp2
   clear e0
   have hle := HRS.out k hlt
   obtain ⟨b, off, rfl, ⟨q0, q1, q2⟩, hnum, vi, vd, q3, q4, si, sd⟩ := (zZ (zI zP hb h)).2 k hlt
   have htk : R.take (k + 1) = R.take k ++ [R[k]] := List.take_succ_eq_append_getElem hlt
   have HTK := zF htk
   clear htk
   generalize R[k] = x at *
   obtain ⟨ai, capi, rfl, _⟩ := zD si
   obtain ⟨ad, capd, rfl, _⟩ := zD sd
   have K0 := zG c0
   have K1 := zG r0
   have K2 := zG q0
   have K3 := zG q1
   have K4 := zG q2
   have K5 := zG q3
   have K6 := zG q4
   refine zK 9 (by kernel_rfl) (by kernel_rfl) ?_
   simp only [tk_]
   iterate 7 (apply gx_; focus (intro vs xq hd; (try simp [hq_] at hd); simp only [pf_]; go_simp; exact ⟨br_, rfl⟩))
   refine zL (RetIss z1 x) (retIss_stays z1 x) ?_ ?_
   ·intro vs xq hd
    (try simp [hq_] at hd)
    simp only [pf_]
    go_simp
    have hbx := zE wr xq
    refine (twinIssue02 _ _ _ x ⟨zI zBB hbx si, zI zBY hbx sd, hnum⟩ (by omega) (by omega)).mono ?_
    rintro e w2 ⟨ui, ud, rfl, h1, h2, h3⟩
    have hz2 : z1 ≤ (wr.later xq).heap.size := Nat.le_trans hzs hbx.size
    exact ⟨_, rfl, h3, ui, ud, rfl, zEF hz2 h1, zEF hz2 h2⟩
   refine zL (BoxIss z1 x) (boxIss_stays z1 x) ?_ ?_
   ·intro vs xq hd
    (try simp [hq_] at hd)
    simp only [pf_]
    obtain ⟨ui, ud, e7, s1, s2⟩ := hd
    obtain ⟨a3, cap3, rfl, _⟩ := zD s1
    obtain ⟨a7, cap7, rfl, _⟩ := zD s2
    have S1 := zF s1
    have S2 := zF s2
    clear s1 s2
    go_simp
    have hba := zB (wr.later xq) (.cells #[.int .i64 x.d, .int .i64 x.l, .int .u8 x.k, .slice a3 x.items.length cap3, .slice a7 x.dims.length cap7] 107)
    have B := zU (wr.later xq) #[.int .i64 x.d, .int .i64 x.l, .int .u8 x.k, .slice a3 x.items.length cap3, .slice a7 x.dims.length cap7] 107
    exact ⟨hba, _, _, _, rfl, ⟨B 0 _ rfl, B 1 _ rfl, B 2 _ rfl, B 3 _ rfl, B 4 _ rfl⟩, rfl, rfl, zI (zBU zBB) hba S1.out, zI (zBU zBY) hba S2.out⟩
   refine zT rfl (fun vs xq hd => ?_)
   simp [zV, zAD, List.range, List.range.loop] at hd
   simp only [pf_]
   obtain ⟨e0, e1, e2, e3, e4, e5, e6, _, bb, ui, ud, e8, ⟨c80, c81, c82, c83, c84⟩, o1, o2, s1, s2⟩ := hd
   generalize vs 0 = u0 at *
   generalize vs 1 = u1 at *
   generalize vs 2 = u2 at *
   generalize vs 3 = u3 at *
   generalize vs 4 = u4 at *
   generalize vs 5 = u5 at *
   generalize vs 6 = u6 at *
   generalize vs 7 = u7 at *
   generalize vs 8 = u8 at *
   subst e0 e1 e2 e3 e4 e5 e6 e8
   have hbl := zE wr xq
   replace c0 := zC hbl c0
   replace r0 := zC hbl r0
   replace hfr := zDK hbl hfr
   replace d0 := zC hbl d0
   replace f2 := zDK hbl f2
   replace hown := zAA hbl hown
   replace hrow := zLA (zNI hbl) (zNI hbl) hrow
   have hbb := zA hb hbl
   have hzs2 := Nat.le_trans hzs hbl.size
   clear K0 K1 K2 K3 K4 K5 K6 q0 q1 q2 q3 q4 si sd hbl hb h hb1
   generalize wr.later xq = w2 at *
   obtain ⟨hlt5, hff⟩ := id hfr
   have hf0 := hff 0
   clear hff
   have hk80 : k < 80 := by omega
   have HOWN := zF hown
   go_wp2_with (at_builtin; refine wpList_append_own _ rfl (.tmp 13) (.tmp 20) 22 rfl z1 107 i0 _ 5 72 underlying22 hi0 hz0 hz1 hz2 rfl (by decide) u1 k cs rfl HOWN.out ⟨bb, 0, none⟩ 1 1 [.int .i64 x.d, .int .i64 x.l, .int .u8 x.k, ui, ud] rfl rfl ?c1 ?c2 ?c3 ?c4 hzs2 ?_)
   case c1 =>
    intro j u hj
    rw [zBP]
    match j, hj with
    | 0, hj => cases hj; exact c80
    | 1, hj => cases hj; exact c81
    | 2, hj => cases hj; exact c82
    | 3, hj => cases hj; exact c83
    | 4, hj => cases hj; exact c84
    | j + 5, hj => simp at hj
   case c2 => intro u hu; simp only [List.mem_cons, List.not_mem_nil, or_false] at hu; rcases hu with rfl | rfl | rfl | rfl | rfl <;> first | rfl | assumption
   case c3 => unfold maxLen; omega
   case c4 => omega
   intro v' w3 hown' hgrow _
   obtain ⟨g', cap', rfl⟩ := zCT hown'
   have c0' := zCD HOWN.out hgrow (by omega) c0
   have r0' := zCD HOWN.out hgrow (by omega) r0
   have d0' := zCD HOWN.out hgrow (by omega) d0
   have fr' := grown_free HOWN.out hgrow (by omega) hfr
   have f2' := grown_free HOWN.out hgrow (by omega) f2
   have hb' := zAI HOWN.out hgrow hbb (by omega)
   have hrow' := zLA (zJX hgrow HOWN.out (by decide)) (zJX hgrow HOWN.out (by decide)) hrow
   have s1' := zLN zKG (zJX hgrow HOWN.out (by decide)) s1
   have s2' := zLN zMX (zJX hgrow HOWN.out (by decide)) s2
   have hrow2 := zF (zLA (zCM (j := 0) (u := .slice (some ⟨g', 0, none⟩) (k + 1) cap') hlt4) (zCM hlt4) (issRow_snoc hrow' x ui ud hnum s1' s2'))
   have hown2 := zF (zJG (j := 0) (u := .slice (some ⟨g', 0, none⟩) (k + 1) cap') hown' hlt4)
   have hzs3 := Nat.le_trans hzs2 hgrow.size
   have C0 := zF (zBE (j := 0) (u := .slice (some ⟨g', 0, none⟩) (k + 1) cap') c0' (by omega : w.heap.size ≠ g3))
   have R0 := zF (zIM (u := .slice (some ⟨g', 0, none⟩) (k + 1) cap') r0')
   have D0 := zF (zBE (j := 0) (u := .slice (some ⟨g', 0, none⟩) (k + 1) cap') d0' (by omega : g2 ≠ g3))
   have hf0' := fr'.2 0
   clear hgrow hown' hrow hrow' s1 s2 s1' s2' hown c0 c0' d0 d0' r0 hf0
   unfold zJ at r0'
   go_wp2
   go_roundw
   ·exact ⟨k + 1, _, _, by go_num, by omega, zH (by omega) hb', C0.out, R0.out, zKC fr', D0.out, zKC f2', hown2.out, by rw [HTK.out]; exact hrow2.out, by simpa using hzs3⟩
   ·simp [intOf]; omega
  ·obtain rfl : k = R.length := by omega
   rw [List.take_of_length_le (Nat.le_refl _)] at hrow
   have hs := zF (issRow_sl hrow hown)
   have hcd := zF (capd_own hown)
   have hw : Hid (z1 ≥ w.heap.size) := by have := HG.out.2.2.1; show w.heap.size ≤ z1; omega
   obtain ⟨au, cu, rfl, _⟩ := zD hs.out
   have hl3 := hfr.1
   have hl2 := f2.1
   have hf2 := f2.2 0
   clear hrow hown hfr f2
   unfold zJ at c0 r0 d0
   go_wp2
   refine bodyPost_ret (v := .agg #[.slice au R.length cu]) ?_ rfl ⟨_, rfl, ?_, ?_, hcd.out⟩
   ·simp [results, results89, go_sem, d0, hl2]
   ·have h1 := zFW (zCM (g := g2) (j := 0) (u := .slice au R.length cu) (by omega)) (zCM (by omega)) (zCM (by omega)) hs.out
    refine sl_to (fun b o x hx => ?_) h1
    obtain ⟨⟨h1, h2, vi, vd, h3, h4, h5, h6⟩, h7, h8⟩ := hx
    exact ⟨⟨h1, h2, vi, vd, h3, h4, zEF hw.out h5, zEF hw.out h6⟩, Nat.le_trans hw.out h7, h8⟩
   ·exact zH (by omega) hb
end
end Go.Proofs.YtpolpdegpbahiaaGreatDoor
namespace Go.Proofs.YtpolpdegpbahiaaGreatDoor
section
open Go.RowKit
theorem sameInts02 (w : World) (v v' : Value) (xs : List Int) (hx : Sl zAJ 1 w v xs) (hy : Sl zAJ 1 w v' xs) :
  Calls Tryz.prog 23 #[v, v'] w fun e w' => e = .returned (.bool true) ∧ Below w.heap.size w w' := by
 obtain ⟨a, cap, rfl, hm⟩ := zD hx
 obtain ⟨a', cap', rfl, _⟩ := zD hy
 go_enter Tryz.func23, Tryz.ntmps23
 go_wp2
 go_loopw [5] (fun i wr => ∃ k : Nat, i = .int .i64 k ∧ k ≤ xs.length ∧ Below w.heap.size w wr) (fun i _ => xs.length - (intOf i).toNat)
 case atStart => exact ⟨0, rfl, by omega, Below.refl _ _⟩
 case round =>
  obtain ⟨k, rfl, hk, hb⟩ := hrel
  by_cases hlt : k < xs.length
  ·have X := (zZ (zI zN hb hx)).2 k hlt
   have Y := (zZ (zI zN hb hy)).2 k hlt
   obtain ⟨b, off, rfl, hc, _⟩ := X
   obtain ⟨b', off', rfl, hc', _⟩ := Y
   unfold zJ at hc hc'
   rw [Nat.mul_one] at hc hc'
   generalize xs[k] = x at *
   clear hx hy
   go_wp2
   go_quiet (fail)
   go_wp2
   go_roundw
   case rel => exact ⟨k + 1, by go_num, by omega, zA hb (zO _ _)⟩
   case measure => simp [intOf]; omega
  ·go_wp2
   go_ret
   exact ⟨rfl, hb⟩
theorem sameItems02 (w : World) (v v' : Value) (xs : List Item) (hx : Sl zCP 2 w v xs) (hy : Sl zCP 2 w v' xs) :
  Calls Tryz.prog 169 #[v, v'] w fun e w' => e = .returned (.bool true) ∧ Below w.heap.size w w' := by
 obtain ⟨a, cap, rfl, hm⟩ := zD hx
 obtain ⟨a', cap', rfl, _⟩ := zD hy
 go_enter Tryz.func169, Tryz.ntmps169
 go_wp2
 go_loopw [5] (fun i wr => ∃ k : Nat, i = .int .i64 k ∧ k ≤ xs.length ∧ Below w.heap.size w wr) (fun i _ => xs.length - (intOf i).toNat)
 case atStart => exact ⟨0, rfl, by omega, Below.refl _ _⟩
 case round =>
  obtain ⟨k, rfl, hk, hb⟩ := hrel
  by_cases hlt : k < xs.length
  ·have X := (zZ (zI zBB hb hx)).2 k hlt
   have Y := (zZ (zI zBB hb hy)).2 k hlt
   obtain ⟨b, off, rfl, ⟨hc0, hc1⟩, _⟩ := X
   obtain ⟨b', off', rfl, ⟨hc0', hc1'⟩, _⟩ := Y
   unfold zJ at hc0 hc1 hc0' hc1'
   generalize xs[k] = x at *
   clear hx hy
   go_wp2
   go_quiet (fail)
   go_wp2
   go_roundw
   case rel => exact ⟨k + 1, by go_num, by omega, zA hb (zO _ _)⟩
   case measure => simp [intOf]; omega
  ·go_wp2
   go_ret
   exact ⟨rfl, hb⟩
end
section
open Go.RowKit
theorem sameIssue02 (w : World) (x : Issue) (vi vi' vd vd' : Value) (hi : Sl zCP 2 w vi x.items) (hi' : Sl zCP 2 w vi' x.items) (hd : Sl zGQ 3 w vd x.dims) (hd' : Sl zGQ 3 w vd' x.dims) :
  Calls Tryz.prog 130 #[.agg #[.int .i64 x.d, .int .i64 x.l, .int .u8 x.k, vi, vd], .agg #[.int .i64 x.d, .int .i64 x.l, .int .u8 x.k, vi', vd']] w fun e w' => e = .returned (.bool true) ∧ Below w.heap.size w w' := by
 have hb1 := zA (zB w (.cells #[.int .i64 x.d, .int .i64 x.l, .int .u8 x.k, vi, vd] 107)) (zB _ (.cells #[.int .i64 x.d, .int .i64 x.l, .int .u8 x.k, vi', vd'] 107))
 have c3 := new_cell2 w (.cells #[.int .i64 x.d, .int .i64 x.l, .int .u8 x.k, vi, vd] 107) (.cells #[.int .i64 x.d, .int .i64 x.l, .int .u8 x.k, vi', vd'] 107) _ 3 vi (zU w _ _ 3 vi rfl)
 have c4 := new_cell2 w (.cells #[.int .i64 x.d, .int .i64 x.l, .int .u8 x.k, vi, vd] 107) (.cells #[.int .i64 x.d, .int .i64 x.l, .int .u8 x.k, vi', vd'] 107) _ 4 vd (zU w _ _ 4 vd rfl)
 have c3' := zU (w.alloc (.cells #[.int .i64 x.d, .int .i64 x.l, .int .u8 x.k, vi, vd] 107)) #[.int .i64 x.d, .int .i64 x.l, .int .u8 x.k, vi', vd'] 107 3 vi' rfl
 have c4' := zU (w.alloc (.cells #[.int .i64 x.d, .int .i64 x.l, .int .u8 x.k, vi, vd] 107)) #[.int .i64 x.d, .int .i64 x.l, .int .u8 x.k, vi', vd'] 107 4 vd' rfl
 rw [World.size_alloc] at c3' c4'
 obtain ⟨ad, capd, rfl, hmd⟩ := zD hd
 obtain ⟨ad', capd', rfl, _⟩ := zD hd'
 go_enter Tryz.func130, Tryz.ntmps130
 go_wp2_with fail
 generalize (w.alloc _).alloc _ = w1 at *
 refine (sameItems02 _ _ _ x.items (zI zBB hb1 hi) (zI zBB hb1 hi')).mono ?_
 rintro e w2 ⟨rfl, hb2⟩
 have d4 := zC hb2 c4
 have d4' := zC hb2 c4'
 have hb3 := hb1.trans (hb2.mono hb1.size)
 have hd3 := zI zBY hb3 hd
 have hd3' := zI zBY hb3 hd'
 clear c3 c4 c3' c4' hb1 hb2 hd hd' hi hi'
 have D4 := Lib.hid d4
 have D4' := Lib.hid d4'
 unfold zJ at d4 d4'
 go_wp2
 clear d4 d4'
 go_loopw [5] (fun i wr => ∃ k : Nat, i = .int .i64 k ∧ k ≤ x.dims.length ∧ Below w2.heap.size w2 wr) (fun i _ => x.dims.length - (intOf i).toNat)
 case atStart => exact ⟨0, rfl, by omega, Below.refl _ _⟩
 case round =>
  obtain ⟨k, rfl, hk, hb⟩ := hrel
  have e4 := zC hb D4.out
  have e4' := zC hb D4'.out
  unfold zJ at e4 e4'
  by_cases hlt : k < x.dims.length
  ·have X := (zZ (zI zBY hb hd3)).2 k hlt
   have Y := (zZ (zI zBY hb hd3')).2 k hlt
   obtain ⟨b, off, rfl, ⟨hc0, hc1, hc2⟩, _⟩ := X
   obtain ⟨b', off', rfl, ⟨hc0', hc1', hc2'⟩, _⟩ := Y
   unfold zJ at hc0 hc1 hc2 hc0' hc1' hc2'
   generalize x.dims[k] = y at *
   clear hd3 hd3' D4 D4'
   go_wp2
   go_quiet (fail)
   go_wp2
   go_roundw
   case rel => exact ⟨k + 1, by go_num, by omega, zA hb (zO _ _)⟩
   case measure => simp [intOf]; omega
  ·go_wp2
   go_ret
   exact ⟨rfl, hb3.trans (hb.mono hb3.size)⟩
end
section
open Go.RowKit
theorem sameReg02 (w : World) (v v' : Value) (R : List Issue) (h : Sl zAU 5 w v R) (h' : Sl zAU 5 w v' R) :
  Calls Tryz.prog 97 #[.agg #[v], .agg #[v']] w fun e w' => e = .returned (.bool true) ∧ Below w.heap.size w w' := by
 obtain ⟨hb1, B1, B2⟩ := zDY w #[v] #[v'] 24 24
 have c := B1 0 v rfl
 have c' := B2 0 v' rfl
 clear B1 B2
 obtain ⟨a, cap, rfl, hm⟩ := zD h
 obtain ⟨a', cap', rfl, _⟩ := zD h'
 have h1 := zI zP hb1 h
 have h1' := zI zP hb1 h'
 clear h h'
 go_enter Tryz.func97, Tryz.ntmps97
 go_wp2
 generalize (w.alloc _).alloc _ = w1 at *
 go_loopw [5] (fun i wr => ∃ k : Nat, i = .int .i64 k ∧ k ≤ R.length ∧ Below w1.heap.size w1 wr) (fun i _ => R.length - (intOf i).toNat)
 case atStart => exact ⟨0, rfl, by omega, Below.refl _ _⟩
 case round =>
  obtain ⟨k, rfl, hk, hb⟩ := hrel
  have e := zC hb c
  have e' := zC hb c'
  clear c c'
  unfold zJ at e e'
  by_cases hlt : k < R.length
  ·have X := (zZ (zI zP hb h1)).2 k hlt
   have Y := (zZ (zI zP hb h1')).2 k hlt
   clear h1 h1'
   obtain ⟨b, off, rfl, ⟨hc0, hc1, hc2⟩, _, vi, vd, hc3, hc4, si, sd⟩ := X
   obtain ⟨b', off', rfl, ⟨hc0', hc1', hc2'⟩, _, vi', vd', hc3', hc4', si', sd'⟩ := Y
   unfold zJ at hc0 hc1 hc2 hc3 hc4 hc0' hc1' hc2' hc3' hc4'
   generalize R[k] = x at *
   go_wp2
   go_still_tail 10, (by kernel_rfl)
   go_wp2_with fail
   refine (sameIssue02 _ x vi vi' vd vd' (zI zBB (zR wr) si) (zI zBB (zR wr) si') (zI zBY (zR wr) sd) (zI zBY (zR wr) sd')).mono ?_
   rintro ee w2 ⟨rfl, hb2⟩
   go_wp2
   go_roundw
   case rel => exact ⟨k + 1, by go_num, by omega, zA hb (zA (zR wr) hb2)⟩
   case measure => simp [intOf]; omega
  ·go_wp2
   go_ret
   exact ⟨rfl, zA hb1 hb⟩
end
section
open Go.RowKit
theorem sameNotes03 (w : World) (vr vn vr' vn' : Value) (R : List Issue) (N : List Note) (hr : Sl zAU 5 w vr R) (hr' : Sl zAU 5 w vr' R) (hn : Sl zBM 10 w vn N) (hn' : Sl zBM 10 w vn' N) :
  Calls Tryz.prog 51 #[.agg #[vr, vn], .agg #[vr', vn']] w fun e w' => e = .returned (.bool true) ∧ Below w.heap.size w w' := by
 obtain ⟨hb1, B1, B2⟩ := zDY w #[vr, vn] #[vr', vn'] 27 27
 have c := B1 1 vn rfl
 have c' := B2 1 vn' rfl
 clear B1 B2
 obtain ⟨a, cap, rfl, hm⟩ := zD hn
 obtain ⟨a', cap', rfl, _⟩ := zD hn'
 go_enter Tryz.func51, Tryz.ntmps51
 go_wp2_with fail
 generalize (w.alloc _).alloc _ = w1 at *
 refine (sameReg02 _ vr vr' R (zI zP hb1 hr) (zI zP hb1 hr')).mono ?_
 rintro e w2 ⟨rfl, hb2⟩
 have d := zC hb2 c
 have d' := zC hb2 c'
 have hb3 := zA hb1 hb2
 have h3 := zI zS hb3 hn
 have h3' := zI zS hb3 hn'
 clear hn hn' hr hr' c c' hb1 hb2
 have D := Lib.hid d
 have D' := Lib.hid d'
 unfold zJ at d d'
 go_wp2
 clear d d'
 go_loopw [5] (fun i wr => ∃ k : Nat, i = .int .i64 k ∧ k ≤ N.length ∧ Below w2.heap.size w2 wr) (fun i _ => N.length - (intOf i).toNat)
 case atStart => exact ⟨0, rfl, by omega, Below.refl _ _⟩
 case round =>
  obtain ⟨k, rfl, hk, hb⟩ := hrel
  have e4 := zC hb D.out
  have e4' := zC hb D'.out
  clear D D'
  unfold zJ at e4 e4'
  by_cases hlt : k < N.length
  ·have X := (zZ (zI zS hb h3)).2 k hlt
   have Y := (zZ (zI zS hb h3')).2 k hlt
   clear h3 h3'
   obtain ⟨b, off, rfl, ⟨p0, p1, p2, p3, p4, p5, p6, p7, p8, p9⟩, _⟩ := X
   obtain ⟨b', off', rfl, ⟨q0, q1, q2, q3, q4, q5, q6, q7, q8, q9⟩, _⟩ := Y
   unfold zJ at p0 p1 p2 p3 p4 p5 p6 p7 p8 p9 q0 q1 q2 q3 q4 q5 q6 q7 q8 q9
   generalize N[k] = y at *
   go_wp2
   go_quiet (fail)
   go_wp2
   go_roundw
   case rel => exact ⟨k + 1, by go_num, by omega, zA hb (zO _ _)⟩
   case measure => simp [intOf]; omega
  ·go_wp2
   go_ret
   exact ⟨rfl, zA hb3 hb⟩
end
section
open Go.RowKit
structure BuiltAt (w : World) (vr vn vm vh vs : Value) (b : Built) : Prop where
 reg : Sl zAU 5 w vr b.ns.reg
 notes : Sl zBM 10 w vn b.ns.notes
 ms : Sl zAJ 1 w vm b.ms
 hs : Sl zHA 4 w vh b.hs
 rs : Sl zDD 5 w vs b.rs
 of : I64 b.of
theorem BuiltAt.ext {w w' : World} {vr vn vm vh vs : Value} {b : Built} (hb : Below w.heap.size w w') (h : BuiltAt w vr vn vm vh vs b) : BuiltAt w' vr vn vm vh vs b :=
 ⟨zI zP hb h.reg, zI zS hb h.notes, zI zN hb h.ms, zI zCL hb h.hs, zI zAV hb h.rs, h.of⟩
theorem sameBuilt08 (w : World) (vr vn vm vh vs vr' vn' vm' vh' vs' : Value) (b : Built) (h : BuiltAt w vr vn vm vh vs b) (h' : BuiltAt w vr' vn' vm' vh' vs' b) :
  Calls Tryz.prog 15 #[.agg #[vr, vn, .int .i64 b.of, vm, vh, vs], .agg #[vr', vn', .int .i64 b.of, vm', vh', vs']] w fun e w' => e = .returned (.bool true) ∧ Below w.heap.size w w' := by
 obtain ⟨hb1, B1, B2⟩ := zDY w #[vr, vn, .int .i64 b.of, vm, vh, vs] #[vr', vn', .int .i64 b.of, vm', vh', vs'] 32 32
 have c2 := B1 2 _ rfl
 have c2' := B2 2 _ rfl
 have c3 := B1 3 vm rfl
 have c3' := B2 3 vm' rfl
 have c4 := B1 4 vh rfl
 have c4' := B2 4 vh' rfl
 have c5 := B1 5 vs rfl
 have c5' := B2 5 vs' rfl
 clear B1 B2
 obtain ⟨ah, caph, rfl, hmh⟩ := zD h.hs
 obtain ⟨ah', caph', rfl, _⟩ := zD h'.hs
 obtain ⟨az, capz, rfl, hms⟩ := zD h.rs
 obtain ⟨az', capz', rfl, _⟩ := zD h'.rs
 go_enter Tryz.func15, Tryz.ntmps15
 go_wp2_with fail
 generalize (w.alloc _).alloc _ = w1 at *
 refine (sameNotes03 _ vr vn vr' vn' b.ns.reg b.ns.notes (h.ext hb1).reg (h'.ext hb1).reg (h.ext hb1).notes (h'.ext hb1).notes).mono ?_
 rintro e w2 ⟨rfl, hb2⟩
 have hb3 := zA hb1 hb2
 have d2 := zC hb2 c2
 have d2' := zC hb2 c2'
 have d3 := zC hb2 c3
 have d3' := zC hb2 c3'
 have d4 := zC hb2 c4
 have d4' := zC hb2 c4'
 have d5 := zC hb2 c5
 have d5' := zC hb2 c5'
 clear c2 c2' c3 c3' c4 c4' c5 c5' hb1 hb2
 have D4 := Lib.hid d4
 have D4' := Lib.hid d4'
 have D5 := Lib.hid d5
 have D5' := Lib.hid d5'
 clear d4 d4' d5 d5'
 unfold zJ at d2 d2' d3 d3'
 go_wp2_with fail
 clear d2 d2' d3 d3'
 refine (sameInts02 _ vm vm' b.ms (h.ext hb3).ms (h'.ext hb3).ms).mono ?_
 rintro e w3 ⟨rfl, hb4⟩
 have hb5 := zA hb3 hb4
 have d4 := zC hb4 D4.out
 have d4' := zC hb4 D4'.out
 have d5 := zC hb4 D5.out
 have d5' := zC hb4 D5'.out
 clear D4 D4' D5 D5' hb3 hb4
 have D4 := Lib.hid d4
 have D4' := Lib.hid d4'
 have D5 := Lib.hid d5
 have D5' := Lib.hid d5'
 unfold zJ at d4 d4' d5 d5'
 have k1 := (h.ext hb5).hs
 have k1' := (h'.ext hb5).hs
 have k2 := (h.ext hb5).rs
 have k2' := (h'.ext hb5).rs
 clear h h'
 go_wp2
 clear d4 d4' d5 d5'
 go_loopw [5] (fun i wr => ∃ k : Nat, i = .int .i64 k ∧ k ≤ b.hs.length ∧ Below w3.heap.size w3 wr) (fun i _ => b.hs.length - (intOf i).toNat)
 case atStart => exact ⟨0, rfl, by omega, Below.refl _ _⟩
 case round =>
  obtain ⟨k, rfl, hk, hb⟩ := hrel
  have e4 := zC hb D4.out
  have e4' := zC hb D4'.out
  unfold zJ at e4 e4'
  by_cases hlt : k < b.hs.length
  ·have X := (zZ (zI zCL hb k1)).2 k hlt
   have Y := (zZ (zI zCL hb k1')).2 k hlt
   clear k1 k1' k2 k2'
   obtain ⟨g, off, rfl, ⟨p0, p1, p2, p3⟩, _⟩ := X
   obtain ⟨g', off', rfl, ⟨q0, q1, q2, q3⟩, _⟩ := Y
   unfold zJ at p0 p1 p2 p3 q0 q1 q2 q3
   generalize b.hs[k] = y at *
   go_wp2
   go_quiet (fail)
   go_wp2
   go_roundw
   case rel => exact ⟨k + 1, by go_num, by omega, zA hb (zO _ _)⟩
   case measure => simp [intOf]; omega
  ·have hb6 := zA hb5 hb
   have e5 := zC hb D5.out
   have e5' := zC hb D5'.out
   have m2 := zI zAV hb k2
   have m2' := zI zAV hb k2'
   clear k1 k1' k2 k2' D4 D4' D5 D5' hb5 hb
   have E5 := Lib.hid e5
   have E5' := Lib.hid e5'
   clear e5 e5'
   obtain ⟨wo, rfl⟩ : ∃ wo : World, wo = wr := ⟨_, rfl⟩
   go_wp2
   clear e4 e4' hk hlt
   go_loopw [6] (fun i wr => ∃ k : Nat, i = .int .i64 k ∧ k ≤ b.rs.length ∧ Below wo.heap.size wo wr) (fun i _ => b.rs.length - (intOf i).toNat)
   case atStart => exact ⟨0, rfl, by omega, Below.refl _ _⟩
   case round =>
    obtain ⟨k, rfl, hk, hb⟩ := hrel
    have e5 := zC hb E5.out
    have e5' := zC hb E5'.out
    unfold zJ at e5 e5'
    by_cases hlt : k < b.rs.length
    ·have X := (zZ (zI zAV hb m2)).2 k hlt
     have Y := (zZ (zI zAV hb m2')).2 k hlt
     clear m2 m2'
     obtain ⟨g, off, rfl, ⟨p0, p1, p2, p3, p4⟩, _⟩ := X
     obtain ⟨g', off', rfl, ⟨q0, q1, q2, q3, q4⟩, _⟩ := Y
     unfold zJ at p0 p1 p2 p3 p4 q0 q1 q2 q3 q4
     generalize b.rs[k] = y at *
     go_wp2
     go_quiet (fail)
     go_wp2
     go_roundw
     case rel => exact ⟨k + 1, by go_num, by omega, zA hb (zO _ _)⟩
     case measure => simp [intOf]; omega
    ·go_wp2
     go_ret
     exact ⟨rfl, zA hb6 hb⟩
end
end Go.Proofs.YtpolpdegpbahiaaGreatDoor
namespace Go.Proofs.YtpolpdegpbahiaaGreatDoor
open Tryz
open Go.RowKit
attribute [local go_sem] zAN Oper.grows Oper.growUpon
def NilSl (v : Value) : Prop := ∃ g, v = .slice (some ⟨g, 0, none⟩) 0 0
theorem zLF : zCX fun v _ => NilSl v := fun _ _ _ _ h => h
def RetReg (base : Nat) (R : List Issue) (v : Value) (w' : World) : Prop :=
 ∃ a n cap, v = .agg #[.slice a n cap] ∧ Sl (Fr base 107 (zED base)) 5 w' (.slice a n cap) R ∧ Capd (.slice a n cap) R.length
theorem retReg_stays (base : Nat) (R : List Issue) : zCX (RetReg base R) := fun _ _ _ hb ⟨a, n, cap, h1, h2, h3⟩ => ⟨a, n, cap, h1, zI (zBU zGY) hb h2, h3⟩
theorem zLM {base base' : Nat} (hw : base' ≤ base) {w : World} {v : Value} {R : List Issue} (h : Sl (Fr base 107 (zED base)) 5 w v R) : Sl (Fr base' 107 (zED base')) 5 w v R := by
 refine sl_to (fun b o x hx => ?_) h
 obtain ⟨⟨h1, h2, vi, vd, h3, h4, h5, h6⟩, h7, h8⟩ := hx
 exact ⟨⟨h1, h2, vi, vd, h3, h4, zEF hw h5, zEF hw h6⟩, Nat.le_trans hw h7, h8⟩
theorem twin03 (w : World) (vr vn : Value) (R : List Issue) (N : List Note) (hr : Sl zAU 5 w vr R) (hn : Sl zBM 10 w vn N) (hS : Small R) (hN : N.length ≤ 16) :
  Calls prog 34 #[.agg #[vr, vn]] w fun e w' => ∃ ur un, e = .returned (.agg #[ur, un]) ∧
   Sl (Fr w.heap.size 107 (zED w.heap.size)) 5 w' ur R ∧ Sl (Fr w.heap.size 147 zBM) 10 w' un N ∧ Below w.heap.size w w' ∧ Capd ur R.length ∧ Capd un N.length := by
 obtain ⟨i0, hi0, hz0, hz1, hz2⟩ := info_parts infoNote
 have HS := zF hS
 clear hS
 obtain ⟨ar, capr, rfl, _⟩ := zD hr
 obtain ⟨an, capn, rfl, _⟩ := zD hn
 obtain ⟨hb1, B1, B2⟩ := zDY w #[.slice ar R.length capr, .slice an N.length capn] #[.slice none 0 0, .slice none 0 0] 27 27
 have c0 := B1 0 (.slice ar R.length capr) rfl
 have c1 := B1 1 (.slice an N.length capn) rfl
 have r0 := B2 0 (.slice none 0 0) rfl
 have r1 := B2 1 (.slice none 0 0) rfl
 have f2 := zIK (w.alloc (.cells #[.slice ar R.length capr, .slice an N.length capn] 27)) #[.slice none 0 0, .slice none 0 0] 27
 rw [World.size_alloc] at f2
 clear B1 B2
 have F2 := zF f2
 clear f2
 go_enter func34, ntmps34
 go_wp2_with fail
 generalize (w.alloc _).alloc _ = w1 at *
 have hr1 := zI zP hb1 hr
 have hn1 := zI zS hb1 hn
 have K0 := zG c0
 have K1 := zG c1
 refine zK 6 (by kernel_rfl) (by kernel_rfl) ?_
 simp only [tk_]
 iterate 2 (apply gx_; focus (intro vs xq hd; (try simp [hq_] at hd); simp only [pf_]; go_simp; exact ⟨br_, rfl⟩))
 refine zL (RetReg w1.heap.size R) (retReg_stays _ R) ?_ ?_
 ·intro vs xq hd
  (try simp [hq_] at hd)
  simp only [pf_]
  go_simp
  have hbx := zE w1 xq
  refine (twin02 _ _ R (zI zP hbx hr1) HS.out).mono ?_
  rintro e w2 ⟨u, rfl, h1, h2, h3⟩
  obtain ⟨a', cap', rfl, _⟩ := zD h1
  exact ⟨_, rfl, h2, a', _, cap', rfl, zLM hbx.size h1, h3⟩
 refine zL (fun v _ => NilSl v) zLF ?_ ?_
 ·intro vs xq hd
  (try simp [hq_] at hd)
  simp only [pf_]
  go_simp
  exact ⟨zB _ _, _, rfl⟩
 iterate 2 (apply gx_; focus (intro vs xq hd; (try simp [hq_] at hd); simp only [pf_]; go_simp; exact ⟨br_, rfl⟩))
 refine zT rfl (fun vs xq hd => ?_)
 simp [zV, zAD, List.range, List.range.loop] at hd
 simp only [pf_]
 obtain ⟨_, _, ⟨a2, n2, cap2, e2, s2, hcd⟩, s3, _, e5⟩ := hd
 generalize vs 0 = u0 at *
 generalize vs 1 = u1 at *
 generalize vs 2 = u2 at *
 generalize vs 3 = u3 at *
 generalize vs 4 = u4 at *
 generalize vs 5 = u5 at *
 subst e2 e5
 have hbl := zE w1 xq
 replace r0 := zC hbl r0
 replace r1 := zC hbl r1
 have f2 := zDK hbl F2.out
 replace hn1 := zI zS hbl hn1
 have hbb := zA hb1 hbl
 have hzz := hbl.size
 have hz9 : w.heap.size + 1 < w1.heap.size := F2.out.1
 clear K0 K1 c0 c1 hr1 hr hn F2 hb1 hbl
 generalize w1.heap.size = z1 at *
 generalize w1.later xq = w2 at *
 refine wpList_grows rfl (zEO (.tmp 6) (.tmp 8) 25 rfl 147 i0 _ 10 72 underlying25 hi0 hz0 hz1 hz2 rfl (by decide) (by decide) copies_note cells_note u3 (.slice an N.length capn) N rfl s3 rfl hn1 (by omega) z1 hzz) ?_
 rintro v3 w3 hb3 ⟨s4, hcd4⟩
 obtain ⟨a4, cap4, rfl, _⟩ := zD s4
 replace r0 := zC hb3 r0
 replace r1 := zC hb3 r1
 replace f2 := zDK hb3 f2
 replace s2 := zI (zBU zGY) hb3 s2
 replace hbb := zA hbb hb3
 have hl2 := f2.1
 have q0 := f2.2 0
 have q1 := f2.2 1
 have S2 := zF s2
 have S4 := zF s4
 have HCD := zF (And.intro hcd hcd4)
 clear f2 s2 s4 hn1 s3 hb3 hcd hcd4
 unfold zJ at r0 r1
 simp only [Act.put, List.setIfInBounds_toArray, List.set_cons_succ, List.set_cons_zero]
 go_wp2
 refine bodyPost_ret (v := .agg #[.slice a2 n2 cap2, .slice a4 N.length cap4]) ?_ rfl ⟨_, _, rfl, ?_, ?_, ?_, HCD.out⟩
 ·simp [results, results34, go_sem, r0, r1, hl2]
 ·refine zLM (base := z1) (by omega) ?_
  refine zFW ?_ ?_ ?_ S2.out
  all_goals exact (zCM (by omega)).trans (zCM (by omega))
 ·refine zEF (base := z1) (by omega) ?_
  refine zKZ zHQ (by omega) (zKZ zHQ (by omega) S4.out)
 ·exact zH (by omega) (zH (by omega) hbb)
end Go.Proofs.YtpolpdegpbahiaaGreatDoor
