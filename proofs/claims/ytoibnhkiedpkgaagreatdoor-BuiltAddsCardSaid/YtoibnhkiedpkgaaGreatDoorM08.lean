/- The reference's machines with a report more. -/
import Derived.Test.YtoibnhkiedpkgaaGreatDoorM07
set_option linter.unusedVariables false
set_option linter.unusedSimpArgs false
set_option linter.all false

namespace Go.Proofs.YtoibnhkiedpkgaaGreatDoor
open Go.RowKit
attribute [local go_sem] stepOk Oper.grows Oper.growUpon

def ZB : Value := .agg #[.slice none 0 0, .slice none 0 0, .int .i64 0, .slice none 0 0, .slice none 0 0, .slice none 0 0]
open Classical in
noncomputable def addCode (b : Built) (r : Report) : Int := if builtCode b ≠ 0 then builtCode b else if b.rs.length = 10 then 9 else if BuiltOk (addB b r) then 0 else 81
/-- What Add returns: machines in new memory, or nothing and an error. -/
def RetAdd (b : Built) (r : Report) (w : World) (e : Ending) (w' : World) : Prop :=
  Below w.heap.size w w' ∧ ((addCode b r ≠ 0 ∧ e = .returned (.tuple #[.agg #[.slice none 0 0, .slice none 0 0, .int .i64 0, .slice none 0 0, .slice none 0 0, .slice none 0 0], .int .i64 (addCode b r)])) ∨
   (addCode b r = 0 ∧ ∃ vr vn vm vh vs, e = .returned (.tuple #[.agg #[vr, vn, .int .i64 b.of, vm, vh, vs], .int .i64 0]) ∧ BuiltN w.heap.size w' vr vn vm vh vs (addB b r)))

theorem addCode_bad {b : Built} {r : Report} (h : builtCode b ≠ 0) : addCode b r = builtCode b := by unfold addCode; rw [if_pos h]
theorem addCode_full {b : Built} {r : Report} (h : builtCode b = 0) (h1 : b.rs.length = 10) : addCode b r = 9 := by unfold addCode; rw [if_neg (by simpa using h), if_pos h1]
theorem addCode_ok {b : Built} {r : Report} (h : builtCode b = 0) (h1 : b.rs.length ≠ 10) (h2 : BuiltOk (addB b r)) : addCode b r = 0 := by unfold addCode; rw [if_neg (by simpa using h), if_neg h1, if_pos h2]
theorem addCode_no {b : Built} {r : Report} (h : builtCode b = 0) (h1 : b.rs.length ≠ 10) (h2 : ¬ BuiltOk (addB b r)) : addCode b r = 81 := by unfold addCode; rw [if_neg (by simpa using h), if_neg h1, if_neg h2]

theorem BuiltN.same {base : Nat} {w w' : World} {vr vn vm vh vs : Value} {b : Built} (h : ∀ e, e ≠ 32 → SameAt base e w w') (hh : BuiltN base w vr vn vm vh vs b) : BuiltN base w' vr vn vm vh vs b :=
  ⟨sl_same_issue (h _ (by decide)) (h _ (by decide)) (h _ (by decide)) hh.reg, sl_same local_note (h _ (by decide)) hh.notes, sl_same local_int (h _ (by decide)) hh.ms, sl_same local_heap (h _ (by decide)) hh.hs, sl_same local_report (h _ (by decide)) hh.rs, hh.of⟩
/-- A block of elements of type t. -/
def BoxT (w : World) (g : Nat) (t : TypeId) : Prop := ∃ cur, w.heap[g]? = some (.cells cur t (0, 0))
theorem boxT_new (w : World) (cs : Array Value) (t : TypeId) : BoxT (w.alloc (.cells cs t)) w.heap.size t := ⟨cs, heap_alloc_new w _⟩
theorem boxT_ext {w w' : World} {g : Nat} {t : TypeId} (hb : Below w.heap.size w w') (h : BoxT w g t) : BoxT w' g t := by
  obtain ⟨cur, hc⟩ := h
  exact ⟨cur, (hb.block g (Array.getElem?_eq_some_iff.1 hc).1).trans hc⟩
theorem boxT_same {w w' : World} {g : Nat} {t : TypeId} (hs : w'.heap[g]? = w.heap[g]?) (h : BoxT w g t) : BoxT w' g t := by
  obtain ⟨cur, hc⟩ := h
  exact ⟨cur, hs.trans hc⟩
theorem same_boxT {base g j : Nat} {e t : TypeId} {w : World} {u : Value} (hg : BoxT w g t) (hne : e ≠ t) : SameAt base e w (w.setCell ⟨g, j, none⟩ u) := by
  obtain ⟨cur, hc⟩ := hg
  exact same_set_type hc hne
/-- The head of a row that the call owns. -/
theorem own_cut {w : World} {base : Nat} {e : TypeId} {sz : Nat} {g n cap k : Nat} {cs : List Value} (h : w.ownsRow base e sz (.slice (some ⟨g, 0, none⟩) n cap) n cs) (hk : k ≤ n) : w.ownsRow base e sz (.slice (some ⟨g, 0, none⟩) k cap) k (cs.take (k * sz)) := by
  obtain ⟨hl, h⟩ := h
  have hks : k * sz ≤ n * sz := Nat.mul_le_mul_right _ hk
  refine ⟨by rw [List.length_take, hl, Nat.min_eq_left hks], ?_⟩
  rcases h with ⟨h, _⟩ | ⟨g', cap', cur, hv, hg, hc, hn, hm, hs, ht⟩
  · cases h
  · cases hv
    refine .inr ⟨g, cap, cur, rfl, hg, hc, by omega, hm, hs, ?_⟩
    rw [← ht, List.take_take, Nat.min_eq_left hks]

theorem sl_drop {α : Type} {E : World → Nat → Nat → α → Prop} {sz : Nat} {w : World} {g o cap : Nat} {xs : List α} (h : Sl E sz w (.slice (some ⟨g, o, none⟩) xs.length cap) xs) (k : Nat) (hk : k ≤ xs.length) (cap' : Nat) :
    Sl E sz w (.slice (some ⟨g, o + k * sz, none⟩) (xs.length - k) cap') (xs.drop k) := by
  obtain ⟨_, hX⟩ := sl_at h
  obtain ⟨_, _, _, hm⟩ := sl_shape h
  refine ⟨some ⟨g, o + k * sz, none⟩, cap', by rw [List.length_drop], by rw [List.length_drop]; omega, fun j hj => ⟨g, o + k * sz, rfl, ?_⟩⟩
  rw [List.length_drop] at hj
  obtain ⟨b, off, hh, he⟩ := hX (k + j) (by omega)
  cases hh
  rw [List.getElem_drop, Nat.add_assoc, ← Nat.add_mul]
  exact he

def BoxRep (r : Report) (v : Value) (w : World) : Prop :=
  ∃ bb, v = .slice (some ⟨bb, 0, none⟩) 1 1 ∧ Cell w bb 0 (.int .i64 r.num) ∧ Cell w bb 1 (.int .i64 r.m) ∧ Cell w bb 2 (.int .i64 r.d) ∧ Cell w bb 3 (.int .i64 r.l) ∧ Cell w bb 4 (.int .u8 r.k)
theorem boxRep_stays (r : Report) : StaysV (BoxRep r) := fun _ _ _ hb ⟨bb, h, h0, h1, h2, h3, h4⟩ => ⟨bb, h, cell_ext hb h0, cell_ext hb h1, cell_ext hb h2, cell_ext hb h3, cell_ext hb h4⟩
theorem boxRep_cells {r : Report} {w : World} {bb : Nat} (h : Cell w bb 0 (.int .i64 r.num) ∧ Cell w bb 1 (.int .i64 r.m) ∧ Cell w bb 2 (.int .i64 r.d) ∧ Cell w bb 3 (.int .i64 r.l) ∧ Cell w bb 4 (.int .u8 r.k)) :
    ∀ j u, (encR r)[j]? = some u → w.cell? ((⟨bb, 0, none⟩ : Addr).add j) = some u := by
  obtain ⟨h0, h1, h2, h3, h4⟩ := h
  intro j u hj
  rw [add_at]
  match j, hj with
  | 0, hj => cases hj; exact h0
  | 1, hj => cases hj; exact h1
  | 2, hj => cases hj; exact h2
  | 3, hj => cases hj; exact h3
  | 4, hj => cases hj; exact h4
  | j + 5, hj => simp [encR] at hj
theorem encR_one (r : Report) : ∀ u ∈ encR r, u.oneCell' = true := by
  intro u hu
  simp only [encR, List.mem_cons, List.not_mem_nil, or_false] at hu
  rcases hu with rfl | rfl | rfl | rfl | rfl <;> rfl

theorem grown_then {w0 w w' : World} {g : Option Nat} (hb : Below w.heap.size w w') (h : w0.grownBy w g) : w0.grownBy w' g :=
  ⟨hb.os.trans h.os, hb.tape.trans h.tape, hb.output.trans h.output, Nat.le_trans h.size hb.size, fun k hk hne => (hb.block k (Nat.lt_of_lt_of_le hk h.size)).trans (h.block k hk hne)⟩
theorem grown_join {w0 w w' : World} {g : Option Nat} (h : w0.grownBy w g) (h' : w.grownBy w' g) : w0.grownBy w' g :=
  ⟨h'.os.trans h.os, h'.tape.trans h.tape, h'.output.trans h.output, Nat.le_trans h.size h'.size, fun k hk hne => (h'.block k (Nat.lt_of_lt_of_le hk h.size) hne).trans (h.block k hk hne)⟩
theorem grown_self (w w' : World) (g : Option Nat) (h1 : w'.os = w.os) (h2 : w'.tape = w.tape) (h3 : w'.output = w.output) (h4 : w'.heap = w.heap) : w.grownBy w' g := ⟨h1, h2, h3, by rw [h4]; exact Nat.le_refl _, fun k _ _ => by rw [h4]⟩
theorem gcell {w0 w : World} {g b o : Nat} {v : Value} (h : w0.grownBy w (some g)) (hne : b ≠ g) (hc : Cell w0 b o v) : Cell w b o v := cell_local (h.block b (cell_lt hc) (fun e => hne (by cases e; rfl))) hc
theorem type_block {w w' : World} {base g t e : Nat} {sz n : Nat} {v : Value} {cs : List Value} (hown : w.ownsRow base e sz v n cs) (hgr : w.grownBy w' v.ownBlock) (hb : BoxT w g t) (hne : t ≠ e) : w'.heap[g]? = w.heap[g]? := by
  obtain ⟨cur, hc⟩ := hb
  refine hgr.block g (Array.getElem?_eq_some_iff.1 hc).1 (fun h => ?_)
  rcases hown.2 with ⟨rfl, _⟩ | ⟨g', cap, cur', rfl, _, hcur, _⟩
  · simp [Value.ownBlock] at h
  · simp [Value.ownBlock] at h
    subst h
    rw [hcur] at hc
    cases hc
    exact hne rfl
theorem own_boxT_ne {w : World} {base g t e : Nat} {sz n : Nat} {v : Value} {cs : List Value} (hown : w.ownsRow base e sz v n cs) (hb : BoxT w g t) (hne : t ≠ e) : v.ownBlock ≠ some g := by
  obtain ⟨cur, hc⟩ := hb
  intro h
  rcases hown.2 with ⟨rfl, _⟩ | ⟨g', cap, cur', rfl, _, hcur, _⟩
  · simp [Value.ownBlock] at h
  · simp [Value.ownBlock] at h
    subst h
    rw [hcur] at hc
    cases hc
    exact hne rfl
section
variable {P : Program}
theorem wild_append_own {o : Oper} {a : Act} {w : World} (s x : Operand) (t : TypeId) (ho : o.op = .call { callee := .builtin .append, args := #[s, x], argTypes := #[t, t] })
    (base : Nat) (e : TypeId) (i : TypeInfo) (z : Value) (size bytes : Nat) (ht : P.underlying t = some (.slice e)) (hi : P.info? e = some i) (hz : i.zero = some z) (hsize : i.size = size) (hby : i.bytes = bytes) (hzs : z.cells.size = size) (hsz : 0 < size)
    (v : Value) (n : Nat) (xs : List Value) (hs : a.eval s = v) (hown : w.ownsRow base e size v n xs) (x' : Value) (ad : Addr) (m c : Nat) (hx' : x' = .slice (some ad) m c) (news : List Value) (hx : a.eval x = x') (hl : news.length = m * size) (hnews : ∀ j u, news[j]? = some u → w.cell? (ad.add j) = some u) (h1 : ∀ u ∈ news, u.oneCell' = true)
    (h63 : n + m ≤ maxLen) (hbytes : (n + m) * bytes ≤ 140737488355328) (hbase : base ≤ w.heap.size) {Cw : World → Prop} {T : World → World → Prop} {R : Value → World → Prop}
    (h : ∀ v' w', w'.ownsRow base e size v' (n + m) (xs ++ news) → w.grownBy w' v.ownBlock → Cw w' ∧ T w w' ∧ R v' w') : o.wild P a Cw w T R := by
  subst hx'
  obtain ⟨v', w', hrun, r1, r2, _⟩ := run_append_own (P := P) w base t o.type e i z size bytes ht hi hz hsize hby hzs hsz v n xs hown ad m c news hl hnews h1 h63 hbytes hbase
  unfold Oper.wild
  simp [execOp, ho, resolve, invoke, builtin, hs, hx, hrun, Result.andThen]
  exact h v' w' r1 r2
end
/-- The machines' parts but for the reports. -/
structure PartN (base : Nat) (w : World) (vr vn vm vh : Value) (b : Built) : Prop where
  reg : Sl (Fr base 46 (AtIssueN base)) 5 w vr b.ns.reg
  notes : Sl (Fr base 52 AtNote) 10 w vn b.ns.notes
  ms : Sl (Fr base 3 AtInt) 1 w vm b.ms
  hs : Sl (Fr base 56 AtHeap) 4 w vh b.hs
  of : I64 b.of
theorem PartN.same {base : Nat} {w w' : World} {vr vn vm vh : Value} {b : Built} (h : ∀ e, e ≠ 32 → e ≠ 34 → SameAt base e w w') (hh : PartN base w vr vn vm vh b) : PartN base w' vr vn vm vh b :=
  ⟨sl_same_issue (h _ (by decide) (by decide)) (h _ (by decide) (by decide)) (h _ (by decide) (by decide)) hh.reg, sl_same local_note (h _ (by decide) (by decide)) hh.notes, sl_same local_int (h _ (by decide) (by decide)) hh.ms, sl_same local_heap (h _ (by decide) (by decide)) hh.hs, hh.of⟩
theorem BuiltN.part {base : Nat} {w : World} {vr vn vm vh vs : Value} {b : Built} (h : BuiltN base w vr vn vm vh vs b) : PartN base w vr vn vm vh b := ⟨h.reg, h.notes, h.ms, h.hs, h.of⟩
theorem PartN.add {base : Nat} {w : World} {vr vn vm vh vs : Value} {b : Built} {r : Report} (h : PartN base w vr vn vm vh b) (hr : Sl (Fr base 34 AtReport) 5 w vs (insR b.rs r)) : BuiltN base w vr vn vm vh vs (addB b r) := ⟨h.reg, h.notes, h.ms, h.hs, hr, h.of⟩

set_option maxRecDepth 100000 in
set_option maxHeartbeats 3200000 in
theorem add08 (w : World) (vr vn vm vh vs : Value) (b : Built) (r : Report) (h : BuiltAt w vr vn vm vh vs b) (hT : Tiny b) (hr : RNum r) :
    Calls Tryz.prog 7 #[.agg #[vr, vn, .int .i64 b.of, vm, vh, vs], .agg #[.int .i64 r.num, .int .i64 r.m, .int .i64 r.d, .int .i64 r.l, .int .u8 r.k]] w (RetAdd b r w) := by
  obtain ⟨i0, hi0, hz0, hz1, hz2⟩ := info_parts infoReport
  obtain ⟨ar, capr, rfl, _⟩ := sl_shape h.reg
  obtain ⟨an, capn, rfl, _⟩ := sl_shape h.notes
  obtain ⟨am, capm, rfl, hmm⟩ := sl_shape h.ms
  obtain ⟨ah, caph, rfl, hmh⟩ := sl_shape h.hs
  obtain ⟨az, capz, rfl, hmz⟩ := sl_shape h.rs
  obtain ⟨hb1, B1, B2, B3, f3⟩ := boxed3 w #[.slice ar b.ns.reg.length capr, .slice an b.ns.notes.length capn, .int .i64 b.of, .slice am b.ms.length capm, .slice ah b.hs.length caph, .slice az b.rs.length capz]
    #[.int .i64 r.num, .int .i64 r.m, .int .i64 r.d, .int .i64 r.l, .int .u8 r.k] #[.slice none 0 0, .slice none 0 0, .int .i64 0, .slice none 0 0, .slice none 0 0, .slice none 0 0] 32 34 32
  have c0 := B1 0 (.slice ar b.ns.reg.length capr) rfl
  have c1 := B1 1 (.slice an b.ns.notes.length capn) rfl
  have c2 := B1 2 (.int .i64 b.of) rfl
  have c3 := B1 3 (.slice am b.ms.length capm) rfl
  have c4 := B1 4 (.slice ah b.hs.length caph) rfl
  have c5 := B1 5 (.slice az b.rs.length capz) rfl
  have C := Lib.hid (And.intro c0 (And.intro c1 (And.intro c2 (And.intro c3 (And.intro c4 c5)))))
  have D := Lib.hid (And.intro (B2 0 (.int .i64 r.num) rfl) (And.intro (B2 1 (.int .i64 r.m) rfl) (And.intro (B2 2 (.int .i64 r.d) rfl) (And.intro (B2 3 (.int .i64 r.l) rfl) (B2 4 (.int .u8 r.k) rfl)))))
  have R := Lib.hid (And.intro (B3 0 (.slice none 0 0) rfl) (And.intro (B3 1 (.slice none 0 0) rfl) (And.intro (B3 2 (.int .i64 0) rfl) (And.intro (B3 3 (.slice none 0 0) rfl) (And.intro (B3 4 (.slice none 0 0) rfl) (B3 5 (.slice none 0 0) rfl))))))
  have F3 := Lib.hid f3
  clear c0 c1 c2 c3 c4 c5 B1 B2 B3 f3
  have h1 := h.ext hb1
  have hTT := Lib.hid hT
  clear h hT
  obtain ⟨c0, c1, c2, c3, c4, c5⟩ := C.out
  unfold Cell at c0 c1 c2 c3 c4 c5
  go_enter Tryz.func7, Tryz.ntmps7
  go_wp2_with fail
  clear c0 c1 c2 c3 c4 c5
  generalize ((w.alloc _).alloc _).alloc _ = w1 at *
  generalize hg4 : w.heap.size + 1 + 1 = g4 at *
  generalize hg3 : w.heap.size + 1 = g3 at *
  have HG : Hid (g3 = w.heap.size + 1 ∧ g4 = w.heap.size + 2) := ⟨hg3.symm, by omega⟩
  clear hg4 hg3
  refine (check08 _ _ _ _ _ _ b h1).mono ?_
  rintro e w2 ⟨rfl, hb2⟩
  have hzz : g4 < w1.heap.size := F3.out.1
  have hbw := below_trans hb1 hb2
  replace h1 := h1.ext hb2
  obtain ⟨c0, c1, c2, c3, c4, c5⟩ := C.out
  have C := Lib.hid (And.intro (cell_ext hb2 c0) (And.intro (cell_ext hb2 c1) (And.intro (cell_ext hb2 c2) (And.intro (cell_ext hb2 c3) (And.intro (cell_ext hb2 c4) (cell_ext hb2 c5))))))
  clear c0 c1 c2 c3 c4 c5
  obtain ⟨d0, d1, d2, d3, d4⟩ := D.out
  have D := Lib.hid (And.intro (cell_ext hb2 d0) (And.intro (cell_ext hb2 d1) (And.intro (cell_ext hb2 d2) (And.intro (cell_ext hb2 d3) (cell_ext hb2 d4)))))
  clear d0 d1 d2 d3 d4
  obtain ⟨r0, r1, r2, r3, r4, r5⟩ := R.out
  have R := Lib.hid (And.intro (cell_ext hb2 r0) (And.intro (cell_ext hb2 r1) (And.intro (cell_ext hb2 r2) (And.intro (cell_ext hb2 r3) (And.intro (cell_ext hb2 r4) (cell_ext hb2 r5))))))
  clear r0 r1 r2 r3 r4 r5
  have F3 := Lib.hid (free_ext hb2 F3.out)
  have hzq : w1.heap.size ≤ w2.heap.size := hb2.size
  clear hb1 hb2
  generalize w1.heap.size = z1 at *
  have hgw : w.heap.size < g3 ∧ g3 < g4 := by have := HG.out; omega
  -- what is returned of an error
  have hbad : ∀ (W : World), Below w.heap.size w W → (Cell W g4 0 (.slice none 0 0) ∧ Cell W g4 1 (.slice none 0 0) ∧ Cell W g4 2 (.int .i64 0) ∧ Cell W g4 3 (.slice none 0 0) ∧ Cell W g4 4 (.slice none 0 0) ∧ Cell W g4 5 (.slice none 0 0)) → True := fun _ _ _ => trivial
  clear hbad
  by_cases k0 : builtCode b = 0
  case neg =>
    have HA := Lib.hid (addCode_bad (r := r) k0)
    have k0' : (builtCode b != 0) = true := by simpa using k0
    have K0 := Lib.hid k0
    clear k0
    obtain ⟨r0, r1, r2, r3, r4, r5⟩ := R.out
    have q0 := F3.out.2 0
    have q1 := F3.out.2 1
    have q2 := F3.out.2 2
    have q3 := F3.out.2 3
    have q4 := F3.out.2 4
    have q5 := F3.out.2 5
    have hl := F3.out.1
    unfold Cell at r0 r1 r2 r3 r4 r5
    go_wp2
    refine bodyPost_ret (v := .tuple #[.agg #[.slice none 0 0, .slice none 0 0, .int .i64 0, .slice none 0 0, .slice none 0 0, .slice none 0 0], .int .i64 (builtCode b)]) ?_ rfl ⟨?_, .inl ⟨by rw [HA.out]; exact K0.out, by rw [HA.out]⟩⟩
    · simp [results, Tryz.results7, go_sem, r0, r1, r2, r3, r4, r5, hl]
    · repeat (refine below_set (by omega) ?_)
      exact hbw
  have k0' : (builtCode b != 0) = false := by simpa using k0
  have K0 := Lib.hid k0
  clear k0
  by_cases k1 : b.rs.length = 10
  case pos =>
    have HA := Lib.hid (addCode_full (r := r) K0.out k1)
    have k1' : ((b.rs.length : Int) == 10) = true := by simp [k1]
    clear k1
    obtain ⟨r0, r1, r2, r3, r4, r5⟩ := R.out
    obtain ⟨c0, c1, c2, c3, c4, c5⟩ := C.out
    have q0 := F3.out.2 0
    have q1 := F3.out.2 1
    have q2 := F3.out.2 2
    have q3 := F3.out.2 3
    have q4 := F3.out.2 4
    have q5 := F3.out.2 5
    have hl := F3.out.1
    unfold Cell at r0 r1 r2 r3 r4 r5 c5
    go_wp2
    refine bodyPost_ret (v := .tuple #[.agg #[.slice none 0 0, .slice none 0 0, .int .i64 0, .slice none 0 0, .slice none 0 0, .slice none 0 0], .int .i64 9]) ?_ rfl ⟨?_, .inl ⟨by rw [HA.out]; decide, by rw [HA.out]⟩⟩
    · simp [results, Tryz.results7, go_sem, r0, r1, r2, r3, r4, r5, hl]
    · repeat (refine below_set (by omega) ?_)
      exact hbw
  have k1' : ((b.rs.length : Int) == 10) = false := by simp; omega
  have K1 := Lib.hid k1
  clear k1
  obtain ⟨c0, c1, c2, c3, c4, c5⟩ := C.out
  unfold Cell at c0 c1 c2 c3 c4 c5
  go_wp2_with fail
  clear c0 c1 c2 c3 c4 c5 C
  refine (twin08 _ _ _ _ _ _ b h1 hTT.out).mono ?_
  rintro e w3 ⟨ur, un, um, uh, us, rfl, hN, ⟨⟨cs, hown⟩, gz, capu, rfl⟩, hb3, -⟩
  have hcs : cs = flatR b.rs := own_flat (sl_unfr hN.rs) hown
  subst hcs
  have HOWN := Lib.hid hown
  have hncap : b.rs.length ≤ capu := by
    rcases hown.2 with ⟨h, _⟩ | ⟨_, _, _, hv, _, _, hn, _⟩
    · cases h
    · cases hv; exact hn
  have hcapm : capu ≤ maxLen := by
    rcases hown.2 with ⟨h, _⟩ | ⟨_, _, _, hv, _, _, _, hm, _⟩
    · cases h
    · cases hv; exact hm
  unfold maxLen at hcapm
  have hgz : z1 ≤ gz ∧ gz < w3.heap.size := by have := hown.lt gz rfl; omega
  have HN := Lib.hid (hN.weak hzq)
  obtain ⟨a0, cap0, rfl, _⟩ := sl_shape hN.reg
  obtain ⟨a1, cap1, rfl, _⟩ := sl_shape hN.notes
  obtain ⟨a3, cap3, rfl, _⟩ := sl_shape hN.ms
  obtain ⟨a4, cap4, rfl, _⟩ := sl_shape hN.hs
  clear hN hown
  have hr10 : b.rs.length ≤ 16 := hTT.out.2.2.2
  replace hbw := below_trans hbw hb3
  have D := Lib.hid (And.intro (cell_ext hb3 D.out.1) (And.intro (cell_ext hb3 D.out.2.1) (And.intro (cell_ext hb3 D.out.2.2.1) (And.intro (cell_ext hb3 D.out.2.2.2.1) (cell_ext hb3 D.out.2.2.2.2)))))
  have R := Lib.hid (And.intro (cell_ext hb3 R.out.1) (And.intro (cell_ext hb3 R.out.2.1) (And.intro (cell_ext hb3 R.out.2.2.1) (And.intro (cell_ext hb3 R.out.2.2.2.1) (And.intro (cell_ext hb3 R.out.2.2.2.2.1) (cell_ext hb3 R.out.2.2.2.2.2))))))
  have F3 := Lib.hid (free_ext hb3 F3.out)
  have hzz3 : z1 ≤ w3.heap.size := Nat.le_trans hzq hb3.size
  clear hb3
  go_wp2
  obtain ⟨hb4, B4⟩ := boxed1 w3 #[.slice a0 b.ns.reg.length cap0, .slice a1 b.ns.notes.length cap1, .int .i64 b.of, .slice a3 b.ms.length cap3, .slice a4 b.hs.length cap4, .slice (some ⟨gz, 0, none⟩) b.rs.length capu] 32
  have G := Lib.hid (And.intro (B4 0 (.slice a0 b.ns.reg.length cap0) rfl) (And.intro (B4 1 (.slice a1 b.ns.notes.length cap1) rfl) (And.intro (B4 2 (.int .i64 b.of) rfl) (And.intro (B4 3 (.slice a3 b.ms.length cap3) rfl) (And.intro (B4 4 (.slice a4 b.hs.length cap4) rfl) (B4 5 (.slice (some ⟨gz, 0, none⟩) b.rs.length capu) rfl))))))
  have F7 := Lib.hid (And.intro (free_new w3 #[.slice a0 b.ns.reg.length cap0, .slice a1 b.ns.notes.length cap1, .int .i64 b.of, .slice a3 b.ms.length cap3, .slice a4 b.hs.length cap4, .slice (some ⟨gz, 0, none⟩) b.rs.length capu] 32) (boxT_new w3 #[.slice a0 b.ns.reg.length cap0, .slice a1 b.ns.notes.length cap1, .int .i64 b.of, .slice a3 b.ms.length cap3, .slice a4 b.hs.length cap4, .slice (some ⟨gz, 0, none⟩) b.rs.length capu] 32))
  have HN := Lib.hid (HN.out.ext hb4)
  have HOWN := Lib.hid (own_ext hb4 HOWN.out)
  have D := Lib.hid (And.intro (cell_ext hb4 D.out.1) (And.intro (cell_ext hb4 D.out.2.1) (And.intro (cell_ext hb4 D.out.2.2.1) (And.intro (cell_ext hb4 D.out.2.2.2.1) (cell_ext hb4 D.out.2.2.2.2)))))
  have R := Lib.hid (And.intro (cell_ext hb4 R.out.1) (And.intro (cell_ext hb4 R.out.2.1) (And.intro (cell_ext hb4 R.out.2.2.1) (And.intro (cell_ext hb4 R.out.2.2.2.1) (And.intro (cell_ext hb4 R.out.2.2.2.2.1) (cell_ext hb4 R.out.2.2.2.2.2))))))
  have F3 := Lib.hid (free_ext hb4 F3.out)
  replace hbw := below_trans hbw hb4
  clear B4 hb4
  generalize w3.alloc _ = w4 at *
  generalize w3.heap.size = g7 at *
  go_loopw [8] (fun i wr => ∃ k : Nat, i = .int .i64 k ∧ k ≤ b.rs.length ∧ Below w4.heap.size w4 wr ∧ ∀ j, j < k → (hj : j < b.rs.length) → b.rs[j].num < r.num) (fun i _ => b.rs.length - (intOf i).toNat)
  case atStart => exact ⟨0, rfl, by omega, Below.refl _ _, fun j hj => absurd hj (by omega)⟩
  case round =>
    obtain ⟨k, rfl, hk, hb, hall⟩ := hrel
    have HALL := Lib.hid hall
    clear hall
    have g5 := cell_ext hb G.out.2.2.2.2.2
    have d0 := cell_ext hb D.out.1
    have hl7 := (free_ext hb F7.out.1).1
    have hki : (k : Int) ≤ b.rs.length := by omega
    have hki2 : (b.rs.length : Int) ≤ capu := by omega
    by_cases hlt : k < b.rs.length
    case' pos =>
      obtain ⟨b', off, hh, ⟨⟨q0, _⟩, _⟩, _⟩ := (sl_at (HN.out.ext hb).rs).2 k hlt
      cases hh
      rw [Nat.zero_add] at q0
      have HX : Hid (b.rs[k] = b.rs[k]) := rfl
      generalize hx : b.rs[k] = x at *
      replace HX := Lib.hid hx
      clear hx
      unfold Cell at q0 g5 d0
      by_cases hc : x.num < r.num
      case pos =>
        go_wp2
        refine wp_region_quiet_lit (by kernel_rfl) (by kernel_rfl) (no_implicit_lambda% ?_)
        repeat (with_reducible refine wpQuiet_step (fun K hK => ?_); go_simp; first | (with_reducible refine hK _ ?_; clear hK K) | (refine hK _ (no_implicit_lambda% ?_); clear hK K) | (apply Exists.intro; with_reducible refine ⟨fun _ => ?_, hK _ ?_⟩; (fail); clear hK K))
        with_reducible refine wpQuiet_nil ?_
        intro _ hw9
        obtain ⟨nq, hw8⟩ := hw9
        subst hw8
        go_wp2
        go_roundw
        case rel => exact ⟨k + 1, by go_num, by omega, below_trans hb (below_drew_n _ _), all_step _ k HALL.out (fun _ => by rw [HX.out]; exact hc)⟩
        case measure => simp [intOf]; omega
      have hcd : decide (x.num < r.num) = false := by simpa using hc
      go_wp2
      refine wp_region_quiet_lit (by kernel_rfl) (by kernel_rfl) (no_implicit_lambda% ?_)
      repeat (with_reducible refine wpQuiet_step (fun K hK => ?_); go_simp; first | (with_reducible refine hK _ ?_; clear hK K) | (refine hK _ (no_implicit_lambda% ?_); clear hK K) | (apply Exists.intro; with_reducible refine ⟨fun _ => ?_, hK _ ?_⟩; (fail); clear hK K))
      with_reducible refine wpQuiet_nil ?_
      intro _ hw9
      obtain ⟨nq, hw8⟩ := hw9
      subst hw8
      have hstop : Hid ((h : k < b.rs.length) → ¬ b.rs[k].num < r.num) := fun _ => by rw [HX.out]; omega
      have hcap : k < capu := by omega
      have hcap2 : (k : Int) < capu := by omega
      have hl9 : g7 < (wr.drewN nq).heap.size := hl7
      have hb9 := below_trans hb (below_drew_n wr nq)
      have g9 : (wr.drewN nq).cell? ⟨g7, 5, none⟩ = some (.slice (some ⟨gz, 0, none⟩) b.rs.length capu) := cell_ext (below_drew_n wr nq) g5
      clear g5 d0 hl7 hb
      generalize wr.drewN nq = w5 at *
      have HSL : Hid (Sl AtReport 5 (w5.alloc (.cells #[] 34)) (.slice (some ⟨gz, k * 5, none⟩) (b.rs.length - k) (capu - k)) (b.rs.drop k)) := by
        have := sl_drop (HN.out.ext (below_trans hb9 (below_alloc w5 (.cells #[] 34)))).at.rs k hk (capu - k)
        rw [Nat.zero_add] at this
        exact this
      go_wp2_with (at_builtin; refine wpList_grows rfl (grows_append_new (.tmp 41) (.tmp 45) 30 (by rfl) 34 i0 _ 5 40 Tryz.underlying30 hi0 hz0 hz1 hz2 rfl (by decide) (by decide) copies_report cells_report (.slice (some ⟨w5.heap.size, 0, none⟩) 0 0) (.slice (some ⟨gz, k * 5, none⟩) (b.rs.length - k) (capu - k)) (b.rs.drop k) (by rfl) ⟨_, rfl⟩ (by rfl) HSL.out (by simp; omega) w5.heap.size (by simp) (nilRow_new _ _ _ _ (Nat.le_refl _)).2) ?_; rintro v9 w6 hb6 ⟨hnew, gr, capr', rfl⟩)
      clear HSL
      clear HX hc hcd q0 g9
    case' neg =>
      unfold Cell at g5 d0
      go_wp2
      refine wp_region_quiet_lit (by kernel_rfl) (by kernel_rfl) (no_implicit_lambda% ?_)
      repeat (with_reducible refine wpQuiet_step (fun K hK => ?_); go_simp; first | (with_reducible refine hK _ ?_; clear hK K) | (refine hK _ (no_implicit_lambda% ?_); clear hK K) | (apply Exists.intro; with_reducible refine ⟨fun _ => ?_, hK _ ?_⟩; (fail); clear hK K))
      with_reducible refine wpQuiet_nil ?_
      intro _ hw9
      obtain ⟨nq, hw8⟩ := hw9
      subst hw8
      have hstop : Hid ((h : k < b.rs.length) → ¬ b.rs[k].num < r.num) := fun h => absurd h hlt
      have hl9 : g7 < (wr.drewN nq).heap.size := hl7
      have hb9 := below_trans hb (below_drew_n wr nq)
      have g9 : (wr.drewN nq).cell? ⟨g7, 5, none⟩ = some (.slice (some ⟨gz, 0, none⟩) b.rs.length capu) := cell_ext (below_drew_n wr nq) g5
      clear g5 d0 hl7 hb
      generalize wr.drewN nq = w5 at *
      by_cases hcap : k < capu
      case' pos =>
        have hcap2 : (k : Int) < capu := by omega
        have HSL : Hid (Sl AtReport 5 (w5.alloc (.cells #[] 34)) (.slice (some ⟨gz, k * 5, none⟩) (b.rs.length - k) (capu - k)) (b.rs.drop k)) := by
          have := sl_drop (HN.out.ext (below_trans hb9 (below_alloc w5 (.cells #[] 34)))).at.rs k hk (capu - k)
          rw [Nat.zero_add] at this
          exact this
        go_wp2_with (at_builtin; refine wpList_grows rfl (grows_append_new (.tmp 41) (.tmp 45) 30 (by rfl) 34 i0 _ 5 40 Tryz.underlying30 hi0 hz0 hz1 hz2 rfl (by decide) (by decide) copies_report cells_report (.slice (some ⟨w5.heap.size, 0, none⟩) 0 0) (.slice (some ⟨gz, k * 5, none⟩) (b.rs.length - k) (capu - k)) (b.rs.drop k) (by rfl) ⟨_, rfl⟩ (by rfl) HSL.out (by simp; omega) w5.heap.size (by simp) (nilRow_new _ _ _ _ (Nat.le_refl _)).2) ?_; rintro v9 w6 hb6 ⟨hnew, gr, capr', rfl⟩)
        clear HSL
      case' neg =>
        obtain rfl : k = capu := by omega
        have HSL : Hid (Sl AtReport 5 (w5.alloc (.cells #[] 34)) (.slice (some ⟨gz, 0, none⟩) 0 0) (b.rs.drop k)) := by
          rw [List.drop_eq_nil_of_le (by omega)]
          exact sl_empty _ _ _ _ _
        go_wp2_with (at_builtin; refine wpList_grows rfl (grows_append_new (.tmp 41) (.tmp 45) 30 (by rfl) 34 i0 _ 5 40 Tryz.underlying30 hi0 hz0 hz1 hz2 rfl (by decide) (by decide) copies_report cells_report (.slice (some ⟨w5.heap.size, 0, none⟩) 0 0) (.slice (some ⟨gz, 0, none⟩) 0 0) (b.rs.drop k) (by rfl) ⟨_, rfl⟩ (by rfl) HSL.out (by simp; omega) w5.heap.size (by simp) (nilRow_new _ _ _ _ (Nat.le_refl _)).2) ?_; rintro v9 w6 hb6 ⟨hnew, gr, capr', rfl⟩)
        clear HSL
      clear g9
    all_goals
      have hins : Hid (insR b.rs r = b.rs.take k ++ r :: b.rs.drop k) := insR_at b.rs r k hk HALL.out (fun h => by have := hstop.out h; omega)
      have hbl := below_trans hb9 (below_trans (below_alloc w5 (.cells #[] 34)) hb6)
      have HN := Lib.hid (HN.out.ext hbl)
      have HOWN := Lib.hid (own_ext hbl HOWN.out)
      have D := Lib.hid (And.intro (cell_ext hbl D.out.1) (And.intro (cell_ext hbl D.out.2.1) (And.intro (cell_ext hbl D.out.2.2.1) (And.intro (cell_ext hbl D.out.2.2.2.1) (cell_ext hbl D.out.2.2.2.2)))))
      have R := Lib.hid (And.intro (cell_ext hbl R.out.1) (And.intro (cell_ext hbl R.out.2.1) (And.intro (cell_ext hbl R.out.2.2.1) (And.intro (cell_ext hbl R.out.2.2.2.1) (And.intro (cell_ext hbl R.out.2.2.2.2.1) (cell_ext hbl R.out.2.2.2.2.2))))))
      have F3 := Lib.hid (free_ext hbl F3.out)
      have F7 := Lib.hid (And.intro (free_ext hbl F7.out.1) (boxT_ext hbl F7.out.2))
      have G := Lib.hid (And.intro (cell_ext hbl G.out.1) (And.intro (cell_ext hbl G.out.2.1) (And.intro (cell_ext hbl G.out.2.2.1) (And.intro (cell_ext hbl G.out.2.2.2.1) (And.intro (cell_ext hbl G.out.2.2.2.2.1) (cell_ext hbl G.out.2.2.2.2.2))))))
      have hbw := below_trans hbw hbl
      clear hbl hb9 hb6 HALL hstop
      obtain ⟨cx, HO, hnc, hcm, g5⟩ : ∃ cx, Hid (w6.ownsRow w2.heap.size 34 5 (.slice (some ⟨gz, 0, none⟩) b.rs.length cx) b.rs.length (flatR b.rs)) ∧ b.rs.length ≤ cx ∧ cx ≤ 2 ^ 63 - 1 ∧ Cell w6 g7 5 (.slice (some ⟨gz, 0, none⟩) b.rs.length cx) :=
        ⟨_, HOWN, hncap, hcapm, G.out.2.2.2.2.2⟩
      have hP := Lib.hid HN.out.part
      have hRN := Lib.hid (rep_num (sl_unfr HN.out.rs))
      obtain ⟨hsl9, csr, hor⟩ := hnew
      obtain rfl := own_flat hsl9 hor
      have hnewo := Lib.hid hor
      obtain ⟨g0, g1, g2, g3', g4', _⟩ := G.out
      have GG := Lib.hid (And.intro g0 (And.intro g1 (And.intro g2 (And.intro g3' g4'))))
      have hkc : (k : Int) ≤ cx := by omega
      have hgg : gz ≠ g7 ∧ g3 ≠ gz ∧ g4 ≠ gz := by omega
      have hgr : gr ≠ gz := by have := hnewo.out.lt gr rfl; omega
      have hzb : w2.heap.size ≤ w6.heap.size := by have := HO.out.lt gz rfl; omega
      have hlen : (b.rs.drop k).length = b.rs.length - k := List.length_drop
      have hlt0 : (b.rs.take k).length = k := by rw [List.length_take]; omega
      have HLEN := Lib.hid (And.intro hlen hlt0)
      clear hlen hlt0 hsl9 hor HOWN HN G g0 g1 g2 g3' g4' hncap
      generalize w2.heap.size = zb at *
      refine wp_region_growW 8 6 [5] (fun a c => a.grownBy c (some gz)) (fun c => w6.grownBy c (some gz)) (fun _ _ hb h => grown_then hb h) (grown_self _ _ _ rfl rfl rfl rfl)
        (fun c => c.ownsRow zb 34 5 (.slice (some ⟨gz, 0, none⟩) b.rs.length cx) b.rs.length (flatR b.rs)) (fun _ _ hb h => own_ext hb h) (own_ext ⟨rfl, rfl, rfl, Nat.le_refl _, fun _ _ => rfl⟩ HO.out) (by kernel_rfl) (by kernel_rfl) ?_
      simp only [List.take_succ_cons, List.take_zero]
      refine growW_exact (by rfl) ?_
      apply Exists.intro
      refine ⟨fun vs w2 hw hd => ?_, ?_⟩
      · (try simp [Oper.waitsOn, Region.binds, List.filter_cons, List.filter_nil, factAt, depsHold] at hd)
        simp only [putsFrom, Act.put, List.setIfInBounds_toArray, List.set_cons_succ, List.set_cons_zero]
        go_simp
        exact ⟨Below.refl _ _, rfl⟩
      refine growW_exact (by rfl) ?_
      apply Exists.intro
      refine ⟨fun vs w2 hw hd => ?_, ?_⟩
      · (try simp [Oper.waitsOn, Region.binds, List.filter_cons, List.filter_nil, factAt, depsHold] at hd)
        have k5 := gcell hw hgg.1.symm g5; unfold Cell at k5
        simp only [putsFrom, Act.put, List.setIfInBounds_toArray, List.set_cons_succ, List.set_cons_zero]
        go_simp
        exact ⟨Below.refl _ _, rfl⟩
      refine growW_exact (by rfl) ?_
      apply Exists.intro
      refine ⟨fun vs w2 hw hd => ?_, ?_⟩
      · (try simp [Oper.waitsOn, Region.binds, List.filter_cons, List.filter_nil, factAt, depsHold] at hd)
        simp only [putsFrom, Act.put, List.setIfInBounds_toArray, List.set_cons_succ, List.set_cons_zero]
        go_simp
        exact ⟨Below.refl _ _, rfl⟩
      refine growW_exact (by rfl) ?_
      apply Exists.intro
      refine ⟨fun vs w2 hw hd => ?_, ?_⟩
      · (try simp [Oper.waitsOn, Region.binds, List.filter_cons, List.filter_nil, factAt, depsHold] at hd)
        simp only [putsFrom, Act.put, List.setIfInBounds_toArray, List.set_cons_succ, List.set_cons_zero]
        go_simp
        exact ⟨Below.refl _ _, rfl⟩
      refine growW_exact (by rfl) ?_
      apply Exists.intro
      refine ⟨fun vs w2 hw hd => ?_, ?_⟩
      · (try simp [Oper.waitsOn, Region.binds, List.filter_cons, List.filter_nil, factAt, depsHold] at hd)
        have k0 := gcell hw hgg.2.1 D.out.1; have k1 := gcell hw hgg.2.1 D.out.2.1; have k2 := gcell hw hgg.2.1 D.out.2.2.1; have k3 := gcell hw hgg.2.1 D.out.2.2.2.1; have k4 := gcell hw hgg.2.1 D.out.2.2.2.2; unfold Cell at k0 k1 k2 k3 k4
        simp only [putsFrom, Act.put, List.setIfInBounds_toArray, List.set_cons_succ, List.set_cons_zero]
        go_simp
        exact ⟨Below.refl _ _, rfl⟩
      refine growW_step (fun v w' => BoxRep r v w') (boxRep_stays r) (by rfl) (.inl (by rfl)) ?_ ?_
      · intro vs w2 hw hd
        (try simp [Oper.waitsOn, Region.binds, List.filter_cons, List.filter_nil, factAt, depsHold] at hd)
        simp only [putsFrom, Act.put, List.setIfInBounds_toArray, List.set_cons_succ, List.set_cons_zero]
        go_simp
        have B := new_cell w2 #[.int .i64 r.num, .int .i64 r.m, .int .i64 r.d, .int .i64 r.l, .int .u8 r.k] 34
        exact ⟨below_alloc _ _, _, rfl, B 0 _ rfl, B 1 _ rfl, B 2 _ rfl, B 3 _ rfl, B 4 _ rfl⟩
      refine growW_wild (fun v w' => w'.ownsRow zb 34 5 v (k + 1) (flatR (b.rs.take k ++ [r]))) (fun _ _ _ hb h => own_ext hb h) (by rfl) ?_ ?_
      · intro vs w2 hw hi hd
        (try simp [Oper.waitsOn, Region.binds, List.filter_cons, List.filter_nil, factAt, depsHold] at hd)
        simp only [putsFrom, Act.put, List.setIfInBounds_toArray, List.set_cons_succ, List.set_cons_zero]
        obtain ⟨e3, bb, e5, hbb⟩ := hd
        refine wild_append_own (.tmp 50) (.tmp 52) 30 (by rfl) zb 34 i0 _ 5 40 Tryz.underlying30 hi0 hz0 hz1 hz2 rfl (by decide) (.slice (some ⟨gz, 0, none⟩) k cx) k _ (by exact e3) (own_cut hi hk) (vs 5) ⟨bb, 0, none⟩ 1 1 e5 (encR r) (by rfl) rfl (boxRep_cells hbb) (encR_one r) (by unfold maxLen; omega) (by omega) (Nat.le_trans hzb hw.size) (fun v' w' h1 h2 => ⟨grown_join hw h2, h2, ?_⟩)
        rw [flatR_take _ _ hk] at h1
        rw [flatR_append]
        exact h1
      refine growW_exact (by rfl) ?_
      apply Exists.intro
      refine ⟨fun vs w2 hw hd => ?_, ?_⟩
      · (try simp [Oper.waitsOn, Region.binds, List.filter_cons, List.filter_nil, factAt, depsHold] at hd)
        simp only [putsFrom, Act.put, List.setIfInBounds_toArray, List.set_cons_succ, List.set_cons_zero]
        go_simp
        exact ⟨Below.refl _ _, rfl⟩
      refine growW_done rfl (fun vs w7 hw hd => ?_)
      simp [depsHold, factAt, List.range, List.range.loop, List.filter_cons, List.filter_nil] at hd
      simp only [putsFrom, Act.put, List.setIfInBounds_toArray, List.set_cons_succ, List.set_cons_zero, List.drop_succ_cons, List.drop_zero]
      obtain ⟨_, _, _, _, _, h53, e7⟩ := hd
      have e7' : vs 7 = .slice (some ⟨gr, 0, none⟩) (b.rs.drop k).length capr' := by
        have h9 := HLEN.out.1
        first
          | (rw [e7, h9]; done)
          | (rw [e7, h9, show b.rs.length - k = 0 by omega])
      clear e7
      generalize vs 0 = u0 at *
      generalize vs 1 = u1 at *
      generalize vs 2 = u2 at *
      generalize vs 3 = u3 at *
      generalize vs 4 = u4 at *
      generalize vs 5 = u5 at *
      generalize vs 6 = u6 at *
      generalize vs 7 = u7 at *
      subst e7'
      have hro : w7.ownsRow w5.heap.size 34 5 (.slice (some ⟨gr, 0, none⟩) (b.rs.drop k).length capr') (b.rs.drop k).length (flatR (b.rs.drop k)) :=
        hnewo.out.kept hw (.inr (by simp [Value.ownBlock]; exact hgr))
      have hrc := hro.cells (g := gr) rfl
      have hr1 : ∀ u ∈ flatR (b.rs.drop k), u.oneCell' = true := by
        intro u hu
        unfold flatR at hu
        obtain ⟨x, _, hx⟩ := List.mem_flatMap.1 hu
        exact encR_one x u hx
      have HRC := Lib.hid hrc
      have HR1 := Lib.hid hr1
      have H53 := Lib.hid h53
      have hfl := flatR_len (b.rs.drop k)
      have HFL := Lib.hid hfl
      have hl9 : (b.rs.drop k).length ≤ 16 := by have := HLEN.out.1; omega
      have hzb7 : zb ≤ w7.heap.size := Nat.le_trans hzb hw.size
      -- all of before, in w7
      have hP7 := Lib.hid (hP.out.same (fun e h1 h2 => same_grown (base := z1) (v := .slice (some ⟨gz, 0, none⟩) b.rs.length cx) hw HO.out h2))
      have D7 := Lib.hid (And.intro (gcell hw hgg.2.2 R.out.1) (And.intro (gcell hw hgg.2.2 R.out.2.1) (And.intro (gcell hw hgg.2.2 R.out.2.2.1) (And.intro (gcell hw hgg.2.2 R.out.2.2.2.1) (And.intro (gcell hw hgg.2.2 R.out.2.2.2.2.1) (gcell hw hgg.2.2 R.out.2.2.2.2.2))))))
      have G7 := Lib.hid (And.intro (gcell hw hgg.1.symm GG.out.1) (And.intro (gcell hw hgg.1.symm GG.out.2.1) (And.intro (gcell hw hgg.1.symm GG.out.2.2.1) (And.intro (gcell hw hgg.1.symm GG.out.2.2.2.1) (And.intro (gcell hw hgg.1.symm GG.out.2.2.2.2) (gcell hw hgg.1.symm g5))))))
      have hs4 := hw.block g4 F3.out.1 (fun e => hgg.2.2 (by cases e; rfl))
      have hs7 := hw.block g7 F7.out.1.1 (fun e => hgg.1 (by cases e; rfl))
      have F37 := Lib.hid (free_local hw.size hs4 F3.out)
      have F77 := Lib.hid (And.intro (free_local hw.size hs7 F7.out.1) (boxT_same hs7 F7.out.2))
      have hbw7 : Below w.heap.size w w7 := hbw.grown hw hbw.size (fun k e => by cases e; omega)
      clear hs4 hs7 hro hrc hr1 hfl h53 hP D R GG hw F3 F7 g5 HO hnewo hbw
      go_wp2_with (at_builtin; refine wpList_append_own _ rfl (.tmp 53) (.tmp 54) 30 rfl zb 34 i0 _ 5 40 Tryz.underlying30 hi0 hz0 hz1 hz2 rfl (by decide) u6 (k + 1) _ rfl H53.out ⟨gr, 0, none⟩ (b.rs.drop k).length capr' (flatR (b.rs.drop k)) rfl HFL.out HRC.out HR1.out (by unfold maxLen; omega) (by omega) hzb7 ?_)
      intro v8 w8 hown8 hgrow8 _
      have elen : k + 1 + (b.rs.length - k) = (insR b.rs r).length := by
        rw [hins.out, List.length_append, List.length_cons, HLEN.out.2, HLEN.out.1]
        omega
      have eflat : flatR (b.rs.take k ++ [r]) ++ flatR (b.rs.drop k) = flatR (insR b.rs r) := by
        rw [hins.out, ← flatR_append, List.append_assoc]
        rfl
      rw [elen, eflat] at hown8
      obtain ⟨g8, cap8, rfl⟩ : ∃ g cap, v8 = .slice (some ⟨g, 0, none⟩) (insR b.rs r).length cap := by
        rcases hown8.2 with ⟨_, h0⟩ | ⟨g, cap, _, h1, _⟩
        · omega
        · exact ⟨g, cap, h1⟩
      have hs7 := type_block H53.out hgrow8 F77.out.2 (by decide)
      have hP8 := Lib.hid (hP7.out.same (fun e h1 h2 => same_grown (base := z1) hgrow8 H53.out h2))
      have hbx8 := boxT_same hs7 F77.out.2
      have f78 := free_local hgrow8.size hs7 F77.out.1
      have f38 := grown_free H53.out hgrow8 (by omega) F37.out
      have c0 := cell_local hs7 G7.out.1
      have c1 := cell_local hs7 G7.out.2.1
      have c2 := cell_local hs7 G7.out.2.2.1
      have c3 := cell_local hs7 G7.out.2.2.2.1
      have c4 := cell_local hs7 G7.out.2.2.2.2.1
      have c5 := cell_local hs7 G7.out.2.2.2.2.2
      have d0 := grown_cell H53.out hgrow8 (by omega) D7.out.1
      have d1 := grown_cell H53.out hgrow8 (by omega) D7.out.2.1
      have d2 := grown_cell H53.out hgrow8 (by omega) D7.out.2.2.1
      have d3 := grown_cell H53.out hgrow8 (by omega) D7.out.2.2.2.1
      have d4 := grown_cell H53.out hgrow8 (by omega) D7.out.2.2.2.2.1
      have d5 := grown_cell H53.out hgrow8 (by omega) D7.out.2.2.2.2.2
      have hbw8 := grown_below H53.out hgrow8 hbw7 (by omega)
      have hne48 : g4 ≠ g7 := by omega
      have D9 := Lib.hid (And.intro (cell_set_other (j := 5) (u := .slice (some ⟨g8, 0, none⟩) (insR b.rs r).length cap8) d0 hne48) (And.intro (cell_set_other (j := 5) (u := .slice (some ⟨g8, 0, none⟩) (insR b.rs r).length cap8) d1 hne48) (And.intro (cell_set_other (j := 5) (u := .slice (some ⟨g8, 0, none⟩) (insR b.rs r).length cap8) d2 hne48) (And.intro (cell_set_other (j := 5) (u := .slice (some ⟨g8, 0, none⟩) (insR b.rs r).length cap8) d3 hne48) (And.intro (cell_set_other (j := 5) (u := .slice (some ⟨g8, 0, none⟩) (insR b.rs r).length cap8) d4 hne48) (cell_set_other (j := 5) (u := .slice (some ⟨g8, 0, none⟩) (insR b.rs r).length cap8) d5 hne48))))))
      have G9 := Lib.hid (And.intro (cell_set_off (j := 5) (u := .slice (some ⟨g8, 0, none⟩) (insR b.rs r).length cap8) (by decide) c0) (And.intro (cell_set_off (j := 5) (u := .slice (some ⟨g8, 0, none⟩) (insR b.rs r).length cap8) (by decide) c1) (And.intro (cell_set_off (j := 5) (u := .slice (some ⟨g8, 0, none⟩) (insR b.rs r).length cap8) (by decide) c2) (And.intro (cell_set_off (j := 5) (u := .slice (some ⟨g8, 0, none⟩) (insR b.rs r).length cap8) (by decide) c3) (And.intro (cell_set_off (j := 5) (u := .slice (some ⟨g8, 0, none⟩) (insR b.rs r).length cap8) (by decide) c4) (cell_set_same (u := .slice (some ⟨g8, 0, none⟩) (insR b.rs r).length cap8) c5))))))
      have F39 := Lib.hid (free_set (g := g7) (j := 5) (u := .slice (some ⟨g8, 0, none⟩) (insR b.rs r).length cap8) f38)
      have hb9 := below_set (g := g7) (j := 5) (u := .slice (some ⟨g8, 0, none⟩) (insR b.rs r).length cap8) (by omega) hbw8
      have hP9 := hP8.out.same (fun e h1 h2 => same_boxT (base := z1) (j := 5) (u := .slice (some ⟨g8, 0, none⟩) (insR b.rs r).length cap8) hbx8 h1)
      have hown9 := hown8.kept (grown_set w8 g7 5 (.slice (some ⟨g8, 0, none⟩) (insR b.rs r).length cap8)) (.inr (own_boxT_ne hown8 hbx8 (by decide)))
      have hnum9 : ∀ x ∈ insR b.rs r, RNum x := by
        intro x hx
        rw [hins.out] at hx
        rcases List.mem_append.1 hx with h | h
        · exact hRN.out x (List.mem_of_mem_take h)
        · rcases List.mem_cons.1 h with h | h
          · rw [h]; exact hr
          · exact hRN.out x (List.mem_of_mem_drop h)
      have hB9 := Lib.hid (hP9.add (r := r) (sl_weak hzq (flat_sl hown9 hnum9).fr))
      have hf5 := f78.2 5
      have hl7 := f78.1
      clear hs7 hP8 hbx8 f78 f38 d0 d1 d2 d3 d4 d5 hbw8 hP9 hown9 hnum9 hown8 hgrow8 elen eflat
      unfold Cell at c0 c1 c2 c3 c4 c5
      go_wp2_with fail
      clear c0 c1 c2 c3 c4 c5 hf5 hl7
      generalize w8.setCell _ _ = w9 at *
      refine (built08 _ _ _ _ _ _ (addB b r) hB9.out.at).mono ?_
      intro e w10 h
      have fin : ∀ w10, Below w9.heap.size w9 w10 → Hid ((Cell w10 g4 0 (.slice none 0 0) ∧ Cell w10 g4 1 (.slice none 0 0) ∧ Cell w10 g4 2 (.int .i64 0) ∧ Cell w10 g4 3 (.slice none 0 0) ∧ Cell w10 g4 4 (.slice none 0 0) ∧ Cell w10 g4 5 (.slice none 0 0)) ∧
          (Cell w10 g7 0 (.slice a0 b.ns.reg.length cap0) ∧ Cell w10 g7 1 (.slice a1 b.ns.notes.length cap1) ∧ Cell w10 g7 2 (.int .i64 b.of) ∧ Cell w10 g7 3 (.slice a3 b.ms.length cap3) ∧ Cell w10 g7 4 (.slice a4 b.hs.length cap4) ∧ Cell w10 g7 5 (.slice (some ⟨g8, 0, none⟩) (insR b.rs r).length cap8)) ∧ Free w10 g4 ∧ Below w.heap.size w w10) := fun w10 hb =>
        ⟨⟨cell_ext hb D9.out.1, cell_ext hb D9.out.2.1, cell_ext hb D9.out.2.2.1, cell_ext hb D9.out.2.2.2.1, cell_ext hb D9.out.2.2.2.2.1, cell_ext hb D9.out.2.2.2.2.2⟩,
         ⟨cell_ext hb G9.out.1, cell_ext hb G9.out.2.1, cell_ext hb G9.out.2.2.1, cell_ext hb G9.out.2.2.2.1, cell_ext hb G9.out.2.2.2.2.1, cell_ext hb G9.out.2.2.2.2.2⟩, free_ext hb F39.out, below_trans hb9 hb⟩
      rcases h.both with ⟨y1, rfl, hb10⟩ | ⟨y1, rfl, hb10⟩
      · have HA := Lib.hid (addCode_ok K0.out K1.out y1)
        have HF := fin _ hb10
        have hB10 := Lib.hid (hB9.out.ext hb10)
        clear h fin y1 hb10 D9 G9 F39 hb9 hB9
        obtain ⟨⟨d0, d1, d2, d3, d4, d5⟩, ⟨c0, c1, c2, c3, c4, c5⟩, f4, hb11⟩ := HF.out
        have q0 := f4.2 0
        have q1 := f4.2 1
        have q2 := f4.2 2
        have q3 := f4.2 3
        have q4 := f4.2 4
        have q5 := f4.2 5
        have hl4 := f4.1
        clear f4 HF
        unfold Cell at d0 d1 d2 d3 d4 d5 c0 c1 c2 c3 c4 c5
        go_wp2
        refine bodyPost_ret (v := .tuple #[.agg #[.slice a0 b.ns.reg.length cap0, .slice a1 b.ns.notes.length cap1, .int .i64 b.of, .slice a3 b.ms.length cap3, .slice a4 b.hs.length cap4, .slice (some ⟨g8, 0, none⟩) (insR b.rs r).length cap8], .int .i64 0]) ?_ rfl ⟨?_, .inr ⟨HA.out, _, _, _, _, _, rfl, ?_⟩⟩
        · simp [results, Tryz.results7, go_sem, d0, d1, d2, d3, d4, d5, hl4]
        · repeat (refine below_set (by omega) ?_)
          exact hb11
        · refine BuiltN.weak (base := z1) (by omega) ?_
          repeat (refine BuiltN.set (by omega) ?_)
          exact hB10.out
      · have HA := Lib.hid (addCode_no K0.out K1.out y1)
        have HF := fin _ hb10
        clear h fin y1 hb10 D9 G9 F39 hb9 hB9
        obtain ⟨⟨d0, d1, d2, d3, d4, d5⟩, _, f4, hb11⟩ := HF.out
        have q0 := f4.2 0
        have q1 := f4.2 1
        have q2 := f4.2 2
        have q3 := f4.2 3
        have q4 := f4.2 4
        have q5 := f4.2 5
        have hl4 := f4.1
        clear f4 HF
        unfold Cell at d0 d1 d2 d3 d4 d5
        go_wp2
        refine bodyPost_ret (v := .tuple #[.agg #[.slice none 0 0, .slice none 0 0, .int .i64 0, .slice none 0 0, .slice none 0 0, .slice none 0 0], .int .i64 81]) ?_ rfl ⟨?_, .inl ⟨by rw [HA.out]; decide, by rw [HA.out]⟩⟩
        · simp [results, Tryz.results7, go_sem, d0, d1, d2, d3, d4, d5, hl4]
        · repeat (refine below_set (by omega) ?_)
          exact hb11

end Go.Proofs.YtoibnhkiedpkgaaGreatDoor
