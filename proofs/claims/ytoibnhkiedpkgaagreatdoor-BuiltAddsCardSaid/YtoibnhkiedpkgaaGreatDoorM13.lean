/- slices.BinarySearchFunc at a register. The issues of a drawing, one behind the other. The iterator over a drawing's issues. The last letter of a drawing, and whether there is a drawing. An issue of a book, looked for. Maps from ints to ints and to Bools, in plain terms. The program's way to the longest chains, in plain Lean. The longest chains of a book's drawings. The program's way to the longest chains finds what the reference's rounds find. -/
import Derived.RangeFuncNested
import Derived.RangeFuncBound
import Derived.RangeFuncCalls
import Derived.RangeFuncLeaves
import Derived.OwnWalkIn
import Derived.TacticsInMore
import Derived.LoopNIn
import Derived.LoopIn
import Derived.Shelf.RegionOpen
import Derived.Maps.OwnIn
import Derived.Maps.RangeWalk
import Derived.Test.YtoibnhkiedpkgaaGreatDoorProg
import Derived.Test.YtoibnhkiedpkgaaGreatDoorM01
import Derived.Test.YtoibnhkiedpkgaaGreatDoorM02
import Derived.Test.YtoibnhkiedpkgaaGreatDoorM09
import Derived.Test.YtoibnhkiedpkgaaGreatDoorM11
import Derived.Test.YtoibnhkiedpkgaaGreatDoorM12
set_option linter.unusedVariables false
set_option linter.unusedSimpArgs false
set_option linter.all false

namespace Go.Proofs.YtoibnhkiedpkgaaGreatDoor
open Go.RowKit Go.Shelf

theorem enter_iss : Enters Tryz.prog 84 := enters_of Tryz.func84 (by kernel_rfl) rfl
theorem cmp_iss (w : World) (x : Issue) (vi vd : Value) (n : Int) (hvi : ∃ a c l, vi = .slice a l c) (hvd : ∃ a c l, vd = .slice a l c) :
    Calls Tryz.prog 84 #[.agg #[.int .i64 x.d, .int .i64 x.l, .int .u8 x.k, vi, vd], .int .i64 n] w
      fun e w' => e = .returned (.int .i64 (cmpI x.d n)) ∧ Below w.heap.size w w' := by
  obtain ⟨ai, ci, li, rfl⟩ := hvi
  obtain ⟨ad, cd, ld, rfl⟩ := hvd
  have hb := below_alloc w (.cells #[.int .i64 x.d, .int .i64 x.l, .int .u8 x.k, .slice ai li ci, .slice ad ld cd] 46)
  go_enter Tryz.func84, Tryz.ntmps84
  go_wp2_with (go_at_call 21; refine (compare_int _ _ _).mono ?_; rintro e w' ⟨rfl, rfl⟩)
  go_ret
  exact ⟨rfl, hb⟩

/-- What is returned of a search in a register: the first place whose number is not below n. -/
def RetAt (R : List Issue) (n : Int) (w : World) (e : Ending) (w' : World) : Prop :=
  ∃ (i : Nat) (f : Bool), e = .returned (.tuple #[.int .i64 i, .bool f]) ∧ i ≤ R.length ∧ (∀ t, t < i → (ht : t < R.length) → R[t].d < n) ∧ (∀ t, i ≤ t → (ht : t < R.length) → n ≤ R[t].d) ∧ Below w.heap.size w w'
/-- Drawings that do not fall. -/
def MountR (R : List Issue) : Prop := ∀ i j, (hij : i ≤ j) → (h : j < R.length) → (R[i]'(by omega)).d ≤ R[j].d

set_option maxRecDepth 100000 in
set_option maxHeartbeats 3200000 in
theorem search_iss (w : World) (v : Value) (R : List Issue) (n : Int) (h : Sl AtIssue 5 w v R) (hs : MountR R) (hlen : R.length ≤ 1000) :
    Calls Tryz.prog 83 #[v, .int .i64 n, .func (.func 84) #[] #[]] w (RetAt R n w) := by
  obtain ⟨a, cap, rfl, _⟩ := sl_shape h
  have S := Lib.hid hs
  have eg := enter_iss
  unfold Enters at eg
  clear hs
  go_enter Tryz.func83, Tryz.ntmps83
  go_wp2
  go_loopw [9, 10] (fun s7 s8 wr => ∃ lo hi : Nat, s7 = .int .i64 lo ∧ s8 = .int .i64 hi ∧ lo ≤ hi ∧ hi ≤ R.length ∧ Below w.heap.size w wr ∧ Hid ((∀ t, t < lo → (ht : t < R.length) → R[t].d < n) ∧ (∀ t, hi ≤ t → (ht : t < R.length) → n ≤ R[t].d))) (fun s7 s8 _ => (intOf s8 - intOf s7).toNat)
  case atStart => exact ⟨0, R.length, rfl, rfl, Nat.zero_le _, Nat.le_refl _, Below.refl _ _, Lib.hid ⟨fun t ht => absurd ht (Nat.not_lt_zero _), fun t h1 h2 => absurd h2 (by omega)⟩⟩
  case round =>
    obtain ⟨lo, hi, rfl, rfl, hlh, hin, hb, I⟩ := hrel
    have HX := Lib.hid (sl_at (sl_ext stays_issue hb h)).2
    by_cases hlt : lo < hi
    · have hm : (lo + hi) / 2 < R.length := by omega
      obtain ⟨b, off, rfl, ⟨q0, q1, q2⟩, hnum, vi, vd, q3, q4, si, sd⟩ := HX.out ((lo + hi) / 2) hm
      have YL := Lib.hid (fun (hy : R[(lo + hi) / 2].d < n) t (ht : t < (lo + hi) / 2 + 1) (htl : t < R.length) => show R[t].d < n from by have := S.out t ((lo + hi) / 2) (by omega) hm; omega)
      have YR := Lib.hid (fun (hy : ¬ R[(lo + hi) / 2].d < n) t (ht : (lo + hi) / 2 ≤ t) (htl : t < R.length) => show n ≤ R[t].d from by have := S.out ((lo + hi) / 2) t ht htl; omega)
      generalize R[(lo + hi) / 2] = y at *
      obtain ⟨ai, ci, rfl, _⟩ := sl_shape si
      obtain ⟨ad, cd, rfl, _⟩ := sl_shape sd
      have HC := Lib.hid (cmp_iss wr y (.slice ai y.items.length ci) (.slice ad y.dims.length cd) n ⟨_, _, _, rfl⟩ ⟨_, _, _, rfl⟩)
      clear si sd h
      unfold Cell at q0 q1 q2 q3 q4
      by_cases hyx : y.d < n
      · have HC := Lib.hid HC.out
        rw [cmpI_neg hyx] at HC
        go_wp2_with (go_at_fn 84; refine HC.out.mono ?_; rintro e w' ⟨rfl, hb2⟩)
        go_roundw
        case rel => exact ⟨(lo + hi) / 2 + 1, hi, by rw [show ((lo : Int) + (hi : Int)) / 2 + 1 = (((lo + hi) / 2 + 1 : Nat) : Int) by omega], rfl, by omega, hin, below_trans hb hb2, Lib.hid ⟨YL.out hyx, I.out.2⟩⟩
        case measure => simp [intOf]; omega
      · have hc0 : ¬ cmpI y.d n < 0 := by have := cmpI_not hyx; omega
        generalize cmpI y.d n = cc at *
        go_wp2_with (go_at_fn 84; refine HC.out.mono ?_; rintro e w' ⟨rfl, hb2⟩)
        go_roundw
        case rel => exact ⟨lo, (lo + hi) / 2, rfl, by rw [show ((lo : Int) + (hi : Int)) / 2 = (((lo + hi) / 2 : Nat) : Int) by omega], by omega, by omega, below_trans hb hb2, Lib.hid ⟨I.out.1, YR.out hyx⟩⟩
        case measure => simp [intOf]; omega
    · obtain rfl : hi = lo := by omega
      clear h
      by_cases hn : hi < R.length
      · obtain ⟨b, off, rfl, ⟨q0, q1, q2⟩, hnum, vi, vd, q3, q4, si, sd⟩ := HX.out hi hn
        generalize R[hi] = y at *
        obtain ⟨ai, ci, rfl, _⟩ := sl_shape si
        obtain ⟨ad, cd, rfl, _⟩ := sl_shape sd
        have HC := Lib.hid (cmp_iss wr y (.slice ai y.items.length ci) (.slice ad y.dims.length cd) n ⟨_, _, _, rfl⟩ ⟨_, _, _, rfl⟩)
        clear si sd
        unfold Cell at q0 q1 q2 q3 q4
        go_wp2_with (go_at_fn 84; refine HC.out.mono ?_; rintro e w' ⟨rfl, hb2⟩)
        go_ret2
        exact ⟨hi, _, rfl, hin, I.out.1, I.out.2, below_trans hb hb2⟩
      · go_wp2
        go_ret2
        exact ⟨hi, _, rfl, hin, I.out.1, I.out.2, hb⟩

end Go.Proofs.YtoibnhkiedpkgaaGreatDoor

namespace Go.Proofs.YtoibnhkiedpkgaaGreatDoor
open Go.RowKit Go.Shelf
attribute [local go_sem] stepOk Oper.grows Oper.growUpon Oper.semAt_some

/-- A book of sheets: its register and its drawings. -/
structure BookAt (w : World) (pb : Nat) (vr vd : Value) (R : List Issue) (D : List Int) : Prop where
  c0 : Cell w pb 0 vr
  c1 : Cell w pb 1 vd
  reg : Sl AtIssue 5 w vr R
  dr : Sl AtInt 1 w vd D
  cap : ∃ a c, vr = .slice a R.length c ∧ R.length ≤ c
theorem BookAt.ext {w w' : World} {pb : Nat} {vr vd : Value} {R : List Issue} {D : List Int} (h : BookAt w pb vr vd R D) (hb : Below w.heap.size w w') : BookAt w' pb vr vd R D :=
  ⟨cell_ext hb h.c0, cell_ext hb h.c1, sl_ext stays_issue hb h.reg, sl_ext stays_int hb h.dr, h.cap⟩

/-- An issue that lies in w. -/
structure Iss (w : World) where
  x : Issue
  ai : Option Addr
  ci : Nat
  ad : Option Addr
  cd : Nat
  lies : IssueAt w (.slice ai x.items.length ci) (.slice ad x.dims.length cd) x
def Iss.enc {w : World} (t : Iss w) : Value := .agg #[.int .i64 t.x.d, .int .i64 t.x.l, .int .u8 t.x.k, .slice t.ai t.x.items.length t.ci, .slice t.ad t.x.dims.length t.cd]

/-- The first place whose number is not below d. -/
def place (R : List Issue) (d : Int) : Nat := (R.takeWhile (fun x => decide (x.d < d))).length
theorem place_is (R : List Issue) (d : Int) (i : Nat) (hi : i ≤ R.length) (h1 : ∀ t, t < i → (ht : t < R.length) → R[t].d < d) (h2 : ∀ t, i ≤ t → (ht : t < R.length) → d ≤ R[t].d) : i = place R d := by
  induction R generalizing i with
  | nil => simp at hi; simp [place, hi]
  | cons x R ih =>
    cases i with
    | zero =>
      have := h2 0 (Nat.le_refl _) (by simp)
      simp at this
      simp [place, List.takeWhile_cons, show ¬ x.d < d by omega]
    | succ i =>
      have hx := h1 0 (by omega) (by simp)
      simp at hx
      have e := ih i (by simpa using hi) (fun t ht hl => by have := h1 (t + 1) (by omega) (by simp; omega); rwa [List.getElem_cons_succ] at this) (fun t ht hl => by have := h2 (t + 1) (by omega) (by simp; omega); rwa [List.getElem_cons_succ] at this)
      unfold place at e ⊢
      rw [List.takeWhile_cons, if_pos (by simpa using hx), List.length_cons, ← e]
/-- The issues of a drawing. -/
def issuesOf (R : List Issue) (d : Int) : List Issue := R.filter (fun x => x.d == d)
theorem issuesOf_cut (R : List Issue) (d : Int) (i k : Nat) (hik : i + k ≤ R.length) (h1 : ∀ t, t < i → (ht : t < R.length) → R[t].d < d) (hk : ∀ t, i ≤ t → t < i + k → (ht : t < R.length) → R[t].d = d) (h2 : ∀ t, i + k ≤ t → (ht : t < R.length) → d < R[t].d) : issuesOf R d = (R.drop i).take k := by
  unfold issuesOf
  have e : R = R.take i ++ ((R.drop i).take k ++ (R.drop i).drop k) := by rw [List.take_append_drop, List.take_append_drop]
  conv => lhs; rw [e]
  rw [List.filter_append, List.filter_append]
  have e1 : (R.take i).filter (fun x => x.d == d) = [] := by
    rw [List.filter_eq_nil_iff]
    intro x hx
    obtain ⟨t, ht, rfl⟩ := List.getElem_of_mem hx
    rw [List.length_take] at ht
    have := h1 t (by omega) (by omega)
    rw [List.getElem_take]
    simp; omega
  have e2 : ((R.drop i).take k).filter (fun x => x.d == d) = (R.drop i).take k := by
    rw [List.filter_eq_self]
    intro x hx
    obtain ⟨t, ht, rfl⟩ := List.getElem_of_mem hx
    rw [List.length_take, List.length_drop] at ht
    have := hk (i + t) (by omega) (by omega) (by omega)
    rw [List.getElem_take, List.getElem_drop]
    simpa using this
  have e3 : ((R.drop i).drop k).filter (fun x => x.d == d) = [] := by
    rw [List.filter_eq_nil_iff]
    intro x hx
    obtain ⟨t, ht, rfl⟩ := List.getElem_of_mem hx
    rw [List.length_drop, List.length_drop] at ht
    have := h2 (i + (k + t)) (by omega) (by omega)
    rw [List.getElem_drop, List.getElem_drop]
    simp; omega
  rw [e1, e2, e3]
  simp

/-- What issues returns. -/
theorem issues_val (w : World) (pb : Nat) (d : Int) :
    Calls Tryz.prog 65 #[.pointer (some ⟨pb, 0, none⟩), .int .i64 d] w fun e w' =>
      e = .returned (.func (.func 82) #[] #[.pointer (some ⟨w.heap.size, 0, none⟩), .pointer (some ⟨w.heap.size + 1, 0, none⟩)]) ∧
      w' = (w.alloc (.cells #[.pointer (some ⟨pb, 0, none⟩)] 98)).alloc (.cells #[.int .i64 d] 3) := by
  go_enter Tryz.func65, Tryz.ntmps65
  go_wp2
  go_ret
  exact ⟨by simp, rfl⟩

end Go.Proofs.YtoibnhkiedpkgaaGreatDoor

namespace Go.Proofs.YtoibnhkiedpkgaaGreatDoor
open Go.RowKit Go.Shelf
attribute [local go_sem] stepOk Oper.grows Oper.growUpon Oper.semAt_some

/-- What the search hands back. -/
def Placed (i : Nat) (v : Value) (_ : World) : Prop := ∃ f : Bool, v = .tuple #[.int .i64 i, .bool f]
theorem placed_stays (i : Nat) : StaysV (Placed i) := fun _ _ _ _ h => h
def IsB (v : Value) (_ : World) : Prop := ∃ f : Bool, v = .bool f
theorem isB_stays : StaysV IsB := fun _ _ _ _ h => h
theorem search_place (w : World) (v : Value) (R : List Issue) (n : Int) (h : Sl AtIssue 5 w v R) (hs : MountR R) (hlen : R.length ≤ 1000) :
    Calls Tryz.prog 83 #[v, .int .i64 n, .func (.func 84) #[] #[]] w
      fun e w' => (∃ v', e = .returned v' ∧ Placed (place R n) v' w') ∧ Below w.heap.size w w' := by
  refine (search_iss w v R n h hs hlen).mono ?_
  rintro e w' ⟨i, f, rfl, hi, h1, h2, hb⟩
  exact ⟨⟨_, rfl, f, by rw [place_is R n i hi h1 h2]⟩, hb⟩

theorem issuesOf_pre (R : List Issue) (d : Int) (i k : Nat) (hik : i + k ≤ R.length) (h1 : ∀ t, t < i → (ht : t < R.length) → R[t].d < d) (hk : ∀ t, i ≤ t → t < i + k → (ht : t < R.length) → R[t].d = d) : (R.drop i).take k <+: issuesOf R d := by
  unfold issuesOf
  have e : R = R.take i ++ ((R.drop i).take k ++ (R.drop i).drop k) := by rw [List.take_append_drop, List.take_append_drop]
  conv => rhs; rw [e]
  rw [List.filter_append, List.filter_append]
  have e1 : (R.take i).filter (fun x => x.d == d) = [] := by
    rw [List.filter_eq_nil_iff]
    intro x hx
    obtain ⟨t, ht, rfl⟩ := List.getElem_of_mem hx
    rw [List.length_take] at ht
    have := h1 t (by omega) (by omega)
    rw [List.getElem_take]
    simp; omega
  have e2 : ((R.drop i).take k).filter (fun x => x.d == d) = (R.drop i).take k := by
    rw [List.filter_eq_self]
    intro x hx
    obtain ⟨t, ht, rfl⟩ := List.getElem_of_mem hx
    rw [List.length_take, List.length_drop] at ht
    have := hk (i + t) (by omega) (by omega) (by omega)
    rw [List.getElem_take, List.getElem_drop]
    simpa using this
  rw [e1, e2, List.nil_append]
  exact List.prefix_append _ _
theorem place_below (R : List Issue) (d : Int) : ∀ t, t < place R d → (ht : t < R.length) → R[t].d < d := by
  induction R with
  | nil => intro t _ ht; simp at ht
  | cons x R ih =>
    intro t h ht
    unfold place at h
    rw [List.takeWhile_cons] at h
    split at h
    · rename_i hx
      cases t with
      | zero => simpa using hx
      | succ t => rw [List.getElem_cons_succ]; exact ih t (by unfold place; simpa using h) (by simpa using ht)
    · simp at h
theorem place_not (R : List Issue) (d : Int) (h : place R d < R.length) : d ≤ R[place R d].d := by
  induction R with
  | nil => simp at h
  | cons x R ih =>
    by_cases hx : x.d < d
    · have e : place (x :: R) d = place R d + 1 := by unfold place; rw [List.takeWhile_cons, if_pos (by simpa using hx), List.length_cons]
      simp only [e, List.getElem_cons_succ]
      exact ih (by rw [e] at h; simpa using h)
    · have e : place (x :: R) d = 0 := by unfold place; rw [List.takeWhile_cons, if_neg (by simpa using hx)]; rfl
      simp only [e, List.getElem_cons_zero]
      omega
theorem place_above (R : List Issue) (d : Int) (hs : MountR R) : ∀ t, place R d ≤ t → (ht : t < R.length) → d ≤ R[t].d := by
  intro t h ht
  have h1 := place_not R d (by omega)
  have h2 := hs (place R d) t h ht
  omega

/-- What a round that goes on keeps: what lay below n₀, and the cell of the drawing. -/
def KpB (n₀ b : Nat) (A B : World) : Prop := Below n₀ A B ∧ ∀ v, Cell A b 0 v → Cell B b 0 v
theorem kpB_t {n₀ b : Nat} {A B C : World} (h : KpB n₀ b A B) (k : KpB n₀ b B C) : KpB n₀ b A C := ⟨h.1.trans k.1, fun v hv => k.2 v (h.2 v hv)⟩
theorem kpB_b {n₀ b : Nat} {w : World} (hn : n₀ ≤ w.heap.size) (W : World) (l : Nat) (o o' : Obj) (hl : w.heap.size ≤ l) (h : W.heap[l]? = some o) (hc : o.isCells = false) (hw : o.isWalk = false) : KpB n₀ b W (W.putObj l o') :=
  ⟨belowK_b hn W l o o' hl h hc hw, fun _ hv => cell_kept hv (grownBy_putObj' W l o') (fun r e => by cases e; exact ⟨o, h, hc⟩)⟩
theorem kpB_refl (n₀ b : Nat) (A : World) : KpB n₀ b A A := ⟨Below.refl _ _, fun _ h => h⟩
theorem kpB_alloc {n₀ b : Nat} {A : World} (h : n₀ ≤ A.heap.size) (o : Obj) : KpB n₀ b A (A.alloc o) := ⟨(Below.refl _ _).alloc h _, fun _ hv => cell_ext (below_alloc _ _) hv⟩
theorem kpB_set {n₀ b g j : Nat} {A : World} (h : n₀ ≤ g) (hne : b ≠ g) (u : Value) : KpB n₀ b A (A.setCell ⟨g, j, none⟩ u) := ⟨(Below.refl _ _).setCell (p := ⟨g, j, none⟩) h _, fun _ hv => cell_set_other hv hne⟩

set_option maxRecDepth 100000 in
set_option maxHeartbeats 3200000 in
theorem issues_stops (n : Nat) (hn : 1 ≤ n) (w0 w : World) (hw : Below w0.heap.size w0 w) (pb b2 b3 : Nat) (vr vd : Value) (R : List Issue) (D : List Int) (d : Int) (hB : BookAt w0 pb vr vd R D) (h2 : Cell w b2 0 (.pointer (some ⟨pb, 0, none⟩))) (h3 : Cell w b3 0 (.int .i64 d)) (hs : MountR R) (hlen : R.length ≤ 100) (hne : R ≠ []) :
    SeqStopsK Fence.wide n Tryz.prog 82 #[.pointer (some ⟨b2, 0, none⟩), .pointer (some ⟨b3, 0, none⟩)] (fun t : Iss w0 => #[t.enc]) (KpB w0.heap.size b3)
      (fun xs => xs.map (·.x) = issuesOf R d) (fun pre => pre.map (·.x) <+: issuesOf R d) (R.length + 1) w := by
  intro l J Jx W hW hJ hJx hY h0
  have hw0 := below_trans hw hW
  have hB1 := hB.ext hw0
  have c2 := cell_ext hW h2
  have c3 := cell_ext hW h3
  obtain ⟨ar, capr, rfl, hmr⟩ := sl_shape hB.reg
  obtain ⟨b, off, rfl, -⟩ := (sl_at hB.reg).2 0 (by cases R with | nil => exact absurd rfl hne | cons => simp)
  have hcap : R.length ≤ capr := by obtain ⟨a, c, e, h⟩ := hB.cap; cases e; exact h
  have k0 := cell_later hB1.c0
  have K2 := cell_later c2
  have K3 := cell_later c3
  have hreg := hB1.reg
  refine callsIn_of_wp Tryz.func82 rfl trivial ?_ rfl
  simp only [Tryz.ntmps82, List.size_toArray, List.length_cons, List.length_nil, Nat.reduceAdd, Nat.reduceSub, Array.replicate_succ, Array.replicate_zero, List.push_toArray, List.append_toArray, List.nil_append, List.cons_append]
  gi_wp2_with fail
  refine wpIn_wide.2 ?_
  refine wp_region_grow_all 12 (by kernel_rfl) (by kernel_rfl) ?_
  simp only [List.take_succ_cons, List.take_zero]
  refine growAll_exact ?_; apply Exists.intro; refine ⟨fun vs xq hd => ?_, ?_⟩; focus ((try simp [Oper.waitsOn, Region.binds, List.filter_cons, List.filter_nil, factAt, depsHold] at hd); simp only [putsFrom, Act.put, List.setIfInBounds_toArray, List.set_cons_succ, List.set_cons_zero]; go_simp; first | exact ⟨Below.refl _ _, rfl⟩ | exact rfl)
  refine growAll_exact ?_; apply Exists.intro; refine ⟨fun vs xq hd => ?_, ?_⟩; focus ((try simp [Oper.waitsOn, Region.binds, List.filter_cons, List.filter_nil, factAt, depsHold] at hd); simp only [putsFrom, Act.put, List.setIfInBounds_toArray, List.set_cons_succ, List.set_cons_zero]; go_simp; first | exact ⟨Below.refl _ _, rfl⟩ | exact rfl)
  refine growAll_exact ?_; apply Exists.intro; refine ⟨fun vs xq hd => ?_, ?_⟩; focus ((try simp [Oper.waitsOn, Region.binds, List.filter_cons, List.filter_nil, factAt, depsHold] at hd); simp only [putsFrom, Act.put, List.setIfInBounds_toArray, List.set_cons_succ, List.set_cons_zero]; go_simp; first | exact ⟨Below.refl _ _, rfl⟩ | exact rfl)
  refine growAll_exact ?_; apply Exists.intro; refine ⟨fun vs xq hd => ?_, ?_⟩; focus ((try simp [Oper.waitsOn, Region.binds, List.filter_cons, List.filter_nil, factAt, depsHold] at hd); simp only [putsFrom, Act.put, List.setIfInBounds_toArray, List.set_cons_succ, List.set_cons_zero]; go_simp; first | exact ⟨Below.refl _ _, rfl⟩ | exact rfl)
  refine growAll_exact ?_; apply Exists.intro; refine ⟨fun vs xq hd => ?_, ?_⟩; focus ((try simp [Oper.waitsOn, Region.binds, List.filter_cons, List.filter_nil, factAt, depsHold] at hd); simp only [putsFrom, Act.put, List.setIfInBounds_toArray, List.set_cons_succ, List.set_cons_zero]; go_simp; first | exact ⟨Below.refl _ _, rfl⟩ | exact rfl)
  refine growAll_exact ?_; apply Exists.intro; refine ⟨fun vs xq hd => ?_, ?_⟩; focus ((try simp [Oper.waitsOn, Region.binds, List.filter_cons, List.filter_nil, factAt, depsHold] at hd); simp only [putsFrom, Act.put, List.setIfInBounds_toArray, List.set_cons_succ, List.set_cons_zero]; go_simp; first | exact ⟨Below.refl _ _, rfl⟩ | exact rfl)
  refine growAll_step (Placed (place R d)) (placed_stays _) ?_ ?_
  · intro vs xq hd
    (try simp [Oper.waitsOn, Region.binds, List.filter_cons, List.filter_nil, factAt, depsHold] at hd)
    simp only [putsFrom, Act.put, List.setIfInBounds_toArray, List.set_cons_succ, List.set_cons_zero]
    go_simp
    refine (search_place _ _ R d (sl_ext stays_issue (below_later W xq) hreg) hs (by omega)).mono ?_
    rintro e w' ⟨⟨v, rfl, hv⟩, hb⟩
    exact ⟨v, rfl, hb, hv⟩
  refine growAll_step (Placed (place R d)) (placed_stays _) ?_ ?_
  · intro vs xq hd
    (try simp [Oper.waitsOn, Region.binds, List.filter_cons, List.filter_nil, factAt, depsHold] at hd)
    simp only [putsFrom, Act.put, List.setIfInBounds_toArray, List.set_cons_succ, List.set_cons_zero]
    go_simp
    exact Below.refl _ _
  refine growAll_step (fun v _ => v = .int .i64 (place R d)) (fun _ _ _ _ h => h) ?_ ?_
  · intro vs xq hd
    (try simp [Oper.waitsOn, Region.binds, List.filter_cons, List.filter_nil, factAt, depsHold] at hd)
    simp only [putsFrom, Act.put, List.setIfInBounds_toArray, List.set_cons_succ, List.set_cons_zero]
    obtain ⟨f, e⟩ := hd
    simp only [e]
    go_simp
    exact Below.refl _ _
  refine growAll_step IsB isB_stays ?_ ?_
  · intro vs xq hd
    (try simp [Oper.waitsOn, Region.binds, List.filter_cons, List.filter_nil, factAt, depsHold] at hd)
    simp only [putsFrom, Act.put, List.setIfInBounds_toArray, List.set_cons_succ, List.set_cons_zero]
    obtain ⟨f, e⟩ := hd
    simp only [e]
    go_simp
    first | exact ⟨Below.refl _ _, f, rfl⟩ | exact Below.refl _ _ | simp [IsB, Below.refl]
  refine growAll_exact ?_; apply Exists.intro; refine ⟨fun vs xq hd => ?_, ?_⟩; focus ((try simp [Oper.waitsOn, Region.binds, List.filter_cons, List.filter_nil, factAt, depsHold] at hd); simp only [putsFrom, Act.put, List.setIfInBounds_toArray, List.set_cons_succ, List.set_cons_zero]; go_simp; first | exact ⟨Below.refl _ _, rfl⟩ | exact rfl)
  refine growAll_step IsB isB_stays ?_ ?_
  · intro vs xq hd
    (try simp [Oper.waitsOn, Region.binds, List.filter_cons, List.filter_nil, factAt, depsHold] at hd)
    simp only [putsFrom, Act.put, List.setIfInBounds_toArray, List.set_cons_succ, List.set_cons_zero]
    go_simp
    exact Below.refl _ _
  refine growAll_done rfl (fun vs xq hd => ?_)
  simp [depsHold, factAt, List.range, List.range.loop] at hd
  simp only [putsFrom, Act.put, List.setIfInBounds_toArray, List.set_cons_succ, List.set_cons_zero, List.drop_succ_cons, List.drop_zero]
  obtain ⟨e0, e1, e2, e3, e4, e5, -, -, e8, -, e10, -⟩ := hd
  generalize vs 0 = u0 at *
  generalize vs 1 = u1 at *
  generalize vs 2 = u2 at *
  generalize vs 3 = u3 at *
  generalize vs 4 = u4 at *
  generalize vs 5 = u5 at *
  generalize vs 6 = u6 at *
  generalize vs 7 = u7 at *
  generalize vs 8 = u8 at *
  generalize vs 9 = u9 at *
  generalize vs 10 = u10 at *
  generalize vs 11 = u11 at *
  subst e10
  have hW1 := below_later W xq
  have hJ1 : J [] (W.later xq) := hJ _ _ _ none h0 ⟨rfl, rfl, rfl, hW1.size, fun k hk _ => hW1.block k hk⟩ (fun r e => by cases e)
  have hB2 := hB1.ext hW1
  have c2 := cell_ext hW1 c2
  have c3 := cell_ext hW1 c3
  have hWW := below_trans hw0 hW1
  clear k0 K2 K3 h0 hB1 hreg e0 e1 e2 e3 e4 e5 e8
  have hpl : place R d ≤ R.length := by unfold place; exact (List.takeWhile_sublist _).length_le
  have HP1 := Lib.hid (place_below R d)
  have HP2 := Lib.hid (place_above R d hs)
  generalize place R d = i0 at *
  generalize W.later xq = W1 at *
  have hb0 := hB2.c0
  have C3 : Cell W1 b3 0 (.int .i64 d) := c3
  unfold Cell at hb0 c2 c3
  change Exit.then _ _ _ _ _
  have hcut := fun k => issuesOf_cut R d i0 k
  have HCUT := Lib.hid hcut
  clear hcut
  by_cases hcz : capr = i0
  · gi_wp2
    gi_loopw [26] (fun i wr => i = .int .i64 0 ∧ J [] wr) (fun _ _ => 0)
    case atStart => exact ⟨rfl, hJ1⟩
    case round =>
      obtain ⟨rfl, hJs⟩ := hrel
      have hz : R.length - i0 = 0 := by omega
      gi_wp2
      go_end0
      refine ⟨⟨_, rfl⟩, .inl ⟨[], ?_, hJs⟩⟩
      rw [HCUT.out 0 (by omega) HP1.out (fun t h1 h2 => absurd h2 (by omega)) (fun t h1 h2 => absurd h2 (by omega))]
      rfl
  · gi_wp2
    gi_loopw [26] (fun i wr => ∃ (k : Nat) (pre : List (Iss w0)), i = .int .i64 k ∧ k ≤ R.length - i0 ∧ (Below w0.heap.size w0 wr ∧ Cell wr b3 0 (.int .i64 d)) ∧ J pre wr ∧ Hid (pre.map (·.x) = (R.drop i0).take k ∧ ∀ t, i0 ≤ t → t < i0 + k → (ht : t < R.length) → R[t].d = d)) (fun i _ => R.length - (intOf i).toNat)
    case atStart => exact ⟨0, [], rfl, by omega, ⟨hWW, C3⟩, hJ1, Lib.hid ⟨rfl, fun t h1 h2 => absurd h2 (by omega)⟩⟩
    case round =>
      obtain ⟨k, pre, rfl, hk, ⟨hb, c3'⟩, hJs, HK⟩ := hrel
      clear hb0 c2 c3 C3 hJ1
      by_cases hlt : k < R.length - i0
      · have hlt2 : i0 + k < R.length := by omega
        obtain ⟨b', off', hh, ⟨q0, q1, q2⟩, hnum, vi, vd', q3, q4, si, sd⟩ := (sl_at hB.reg).2 (i0 + k) hlt2
        cases hh
        have q0 := cell_ext hb q0
        have q1 := cell_ext hb q1
        have q2 := cell_ext hb q2
        have q3 := cell_ext hb q3
        have q4 := cell_ext hb q4
        have c3 := c3'
        have C3 := Lib.hid c3'
        clear c3'
        have l3 := cell_lt c3
        have HX := Lib.hid (HP2.out (i0 + k) (by omega) hlt2)
        have HE : Hid (R[i0 + k] = R[i0 + k]) := rfl
        generalize hx : R[i0 + k] = x at *
        have HXX := Lib.hid hx
        clear hx HE
        obtain ⟨ai, ci, rfl, _⟩ := sl_shape si
        obtain ⟨ad, cd, rfl, _⟩ := sl_shape sd
        unfold Cell at q0 q1 q2 q3 q4 c3
        simp only [Nat.add_mul, ← Nat.add_assoc] at q0 q1 q2 q3 q4
        by_cases hxd : x.d = d
        · have hJ3 : J pre (wr.alloc (.cells #[.int .i64 d, .int .i64 x.l, .int .u8 x.k, .slice ai x.items.length ci, .slice ad x.dims.length cd] 46)) := hJ _ _ _ none hJs (World.grownBy_alloc _ _ none) (fun r e => by cases e)
          have hpl2 : pre.length < R.length + 1 := by
            have := congrArg List.length HK.out.1
            rw [List.length_map, List.length_take, List.length_drop] at this
            omega
          have HK2 : Hid ((pre ++ [(⟨x, ai, ci, ad, cd, ⟨si, sd, hnum⟩⟩ : Iss w0)]).map (·.x) = (R.drop i0).take (k + 1) ∧ ∀ t, i0 ≤ t → t < i0 + (k + 1) → (ht : t < R.length) → R[t].d = d) := by
            constructor
            · have hkd : k < (R.drop i0).length := by rw [List.length_drop]; exact hlt
              rw [List.map_append, HK.out.1, List.take_succ_eq_append_getElem hkd, List.getElem_drop]
              simp only [HXX.out]
              rfl
            · intro t h1 h2 ht
              by_cases e : t = i0 + k
              · subst e; rw [HXX.out]; exact hxd
              · exact HK.out.2 t h1 (by omega) ht
          obtain ⟨fn, tmps, assign, body, hy, hR⟩ := hY pre ⟨x, ai, ci, ad, cd, ⟨si, sd, hnum⟩⟩ _ hJ3 hpl2
          simp only [Iss.enc, hxd] at hy
          gi_wp2
          refine hR.mono ?_
          rintro e W3 (⟨rfl, hJ4, hk4⟩ | ⟨rfl, hJx4⟩)
          · gi_wp2
            go_roundw
            case rel =>
              exact ⟨k + 1, _, by go_num, by omega, ⟨(hb.alloc hb.size _).trans hk4.1, hk4.2 _ (cell_ext (below_alloc _ _) C3.out)⟩, hJ4, HK2⟩
            case measure => simp [intOf]; omega
          · gi_wp2
            refine bodyPost_ret (results_none rfl _ _ _) rfl ?_
            refine ⟨⟨_, rfl⟩, .inr ⟨_, ?_, hJx4⟩⟩
            rw [HK2.out.1]
            exact issuesOf_pre R d i0 (k + 1) (by omega) HP1.out HK2.out.2
        · gi_wp2
          refine ⟨fun _ h => (by cases h), ?_⟩
          have hJ3 : J pre (wr.alloc (.cells #[.int .i64 x.d, .int .i64 x.l, .int .u8 x.k, .slice ai x.items.length ci, .slice ad x.dims.length cd] 46)) := hJ _ _ _ none hJs (World.grownBy_alloc _ _ none) (fun r e => by cases e)
          gi_wp2
          refine bodyPost_ret (results_none rfl _ _ _) rfl ?_
          refine ⟨⟨_, rfl⟩, .inl ⟨pre, ?_, hJ3⟩⟩
          rw [HCUT.out k (by omega) HP1.out HK.out.2 (fun t h1 h2 => by
            have := hs (i0 + k) t h1 h2
            rw [HXX.out] at this
            have := HX.out
            omega)]
          exact HK.out.1
      · gi_wp2
        go_end0
        refine ⟨⟨_, rfl⟩, .inl ⟨pre, ?_, hJs⟩⟩
        have e : i0 + k = R.length := by omega
        rw [HCUT.out k (by omega) HP1.out HK.out.2 (fun t h1 h2 => absurd h2 (by omega))]
        exact HK.out.1

end Go.Proofs.YtoibnhkiedpkgaaGreatDoor

namespace Go.Proofs.YtoibnhkiedpkgaaGreatDoor
open Go.RowKit Go.Shelf
attribute [local go_sem] stepOk Oper.grows Oper.growUpon Oper.semAt_some

theorem has_int (w : World) (pb : Nat) (vr vd : Value) (R : List Issue) (D : List Int) (d : Int) (hc : Cell w pb 1 vd) (hd : Sl AtInt 1 w vd D) (hs : Mount D) (hlen : D.length ≤ 1000) :
    Calls Tryz.prog 64 #[.pointer (some ⟨pb, 0, none⟩), .int .i64 d] w fun e w' => e = .returned (.bool (decide (d ∈ D))) ∧ w = w' := by
  obtain ⟨a, cap, rfl, _⟩ := sl_shape hd
  have HD := Lib.hid hd
  clear hd
  unfold Cell at hc
  go_enter Tryz.func64, Tryz.ntmps64
  go_wp2_with fail
  refine (search_int _ _ D d HD.out hs hlen).mono ?_
  rintro e w' ⟨⟨i, rfl⟩, rfl⟩
  go_wp2
  go_ret
  simp

theorem fresh_cell (W : World) (v : Value) (t : TypeId) : (W.alloc (.cells #[v] t)).cell? ⟨W.heap.size, 0, none⟩ = some v ∧ (W.alloc (.cells #[v] t)).frozen? ⟨W.heap.size, 0, none⟩ = false := by
  constructor <;> simp
theorem two_a (w : World) (u v : Value) (s t : TypeId) (g : Nat) (h : w.heap.size = g) : Cell ((w.alloc (.cells #[u] s)).alloc (.cells #[v] t)) g 0 u := by
  subst h
  exact (boxed2 w #[u] #[v] s t).2.1 0 _ rfl
theorem two_b (w : World) (u v : Value) (s t : TypeId) (g : Nat) (h : w.heap.size + 1 = g) : Cell ((w.alloc (.cells #[u] s)).alloc (.cells #[v] t)) g 0 v := by
  subst h
  exact (boxed2 w #[u] #[v] s t).2.2 0 _ rfl
theorem fresh_alloc {W : World} {a : Addr} {v : Value} (o : Obj) (h : W.cell? a = some v ∧ W.frozen? a = false) : (W.alloc o).cell? a = some v ∧ (W.alloc o).frozen? a = false :=
  ⟨cell_kept h.1 (World.grownBy_alloc W o none) (fun r e => by cases e), (frozen_kept h.1 (World.grownBy_alloc W o none) (fun r e => by cases e)).trans h.2⟩

set_option maxRecDepth 100000 in
set_option maxHeartbeats 3200000 in
theorem last_num (w : World) (pb : Nat) (vr vd : Value) (R : List Issue) (D : List Int) (d : Int) (hB : BookAt w pb vr vd R D) (hs : MountR R) (hlen : R.length ≤ 100) (hne : R ≠ []) :
    Calls Tryz.prog 48 #[.pointer (some ⟨pb, 0, none⟩), .int .i64 d] w fun e w' => e = .returned (.int .i64 (issuesOf R d).length) ∧ Below w.heap.size w w' := by
  refine (callsIn_wide (n := 3)).1 ?_
  refine callsIn_of_wp_marks Tryz.func48 rfl trivial ?_ rfl
  simp only [Tryz.ntmps48, List.size_toArray, List.length_cons, List.length_nil, Nat.reduceAdd, Nat.reduceSub, Array.replicate_succ, Array.replicate_zero, List.push_toArray, List.append_toArray, List.nil_append, List.cons_append]
  gi_wp2_with (refine ⟨trivial, ?_⟩; gi_at_call 65; refine (callsIn_wide.2 (issues_val _ _ _)).mono ?_; rintro e w' ⟨rfl, rfl⟩)

  have hB0 : Below w.heap.size w (((w.alloc (.cells #[.int .i64 0] 3)).alloc (.cells #[.pointer (some ⟨pb, 0, none⟩)] 98)).alloc (.cells #[.int .i64 d] 3)) :=
    (((Below.refl _ w).alloc (Nat.le_refl _) _).alloc (by simp) _).alloc (by simp; omega) _
  have hc := fresh_alloc (.cells #[.int .i64 d] 3) (fresh_alloc (.cells #[.pointer (some ⟨pb, 0, none⟩)] 98) (fresh_cell w (.int .i64 0) 3))
  have h2 : Cell (((w.alloc (.cells #[.int .i64 0] 3)).alloc (.cells #[.pointer (some ⟨pb, 0, none⟩)] 98)).alloc (.cells #[.int .i64 d] 3)) (w.heap.size + 1) 0 (.pointer (some ⟨pb, 0, none⟩)) :=
    two_a _ _ _ _ _ _ (by simp)
  have h3 : Cell (((w.alloc (.cells #[.int .i64 0] 3)).alloc (.cells #[.pointer (some ⟨pb, 0, none⟩)] 98)).alloc (.cells #[.int .i64 d] 3)) (w.heap.size + 2) 0 (.int .i64 d) :=
    two_b _ _ _ _ _ _ (by simp)
  refine wpIn_rangeFunc_ownF (n := 3) rfl (by decide) (gf := 82) (lb := #[.pointer (some ⟨w.heap.size + 1, 0, none⟩), .pointer (some ⟨w.heap.size + 2, 0, none⟩)]) rfl trivial (enters_of Tryz.func82 (by kernel_rfl) rfl)
    (issues_stops 2 (by decide) w _ hB0 pb (w.heap.size + 1) (w.heap.size + 2) vr vd R D d hB h2 h3 hs hlen hne) kpB_t (kpB_b (by simp; omega)) (Below.refl _ _) (fun _ => rfl)
    (fun pre W => (W.cell? ⟨w.heap.size, 0, none⟩ = some (.int .i64 pre.length) ∧ W.frozen? ⟨w.heap.size, 0, none⟩ = false) ∧ Below w.heap.size w W)
    (fun _ _ _ => False)
    (OwnFrom.and (Own.from (fun s A B row hs hg hr => ⟨cell_kept hs.1 hg hr, (frozen_kept hs.1 hg hr).trans hs.2⟩) _) (ownFrom_below (Nat.le_refl _) (by simp; omega)))
    (fun _ _ _ _ _ hs _ _ => hs)
    ⟨hc, hB0⟩
    (fun x => { tmps := #[.pointer (some ⟨pb, 0, none⟩), .int .i64 d, undef, undef, .int .i64 0, .pointer (some ⟨w.heap.size, 0, none⟩), .pointer (some ⟨pb, 0, none⟩), .int .i64 d, .func (.func 82) #[] #[.pointer (some ⟨w.heap.size + 1, 0, none⟩), .pointer (some ⟨w.heap.size + 2, 0, none⟩)], x.enc, undef, undef, undef], defers := [] }) ?assign ?body ?done ?stop
  case assign =>
    intro l x W K hK
    gi_wp2
    simp [List.zip_toArray]
    exact hK
  case body =>
    rintro l pre x W ⟨⟨hc, hf⟩, hB⟩ hlt
    have hw : IntKind.i64.wrap ((pre.length : Int) + 1) = (pre.length : Int) + 1 := IntWalk.i64_in _ (by omega)
    gi_wp2
    exact ⟨KeepsOthers.setCell _ _ _, kpB_set (Nat.le_refl _) (by omega) _, ⟨by rw [List.length_append, List.length_singleton]; push_cast; exact World.cell?_setCell_same' _ _ _ (by rw [hc]; rfl), by rw [World.frozen?_setCell]; exact hf⟩, hB.setCell (p := ⟨w.heap.size, 0, none⟩) (Nat.le_refl _) _⟩
  case done =>
    rintro D ys W hD hS ⟨⟨hc, _⟩, hB⟩ hK
    gi_wp2
    refine ⟨by simp, .inl ⟨_, _, rfl, run_takeDeferred hK, ?_⟩⟩
    refine ⟨_, results_tmp rfl _ _ _, ?_, hB.trans (belowK_b (w := w) (Nat.le_refl _) W D _ _ (by simp at hD; omega) hK rfl rfl)⟩
    rw [← hS, List.length_map]
    simp
  case stop =>
    rintro D c pre W _ _ h _
    exact h.elim

end Go.Proofs.YtoibnhkiedpkgaaGreatDoor

namespace Go.Proofs.YtoibnhkiedpkgaaGreatDoor
open Go.RowKit Go.Shelf
attribute [local go_sem] stepOk Oper.grows Oper.growUpon Oper.semAt_some

/-- A block holds just these cells. -/
def Lay (W : World) (B : Nat) (cs : Array Value) (t : TypeId) : Prop := W.heap[B]? = some (.cells cs t (0, 0))
theorem Lay.lt {W : World} {B : Nat} {cs : Array Value} {t : TypeId} (h : Lay W B cs t) : B < W.heap.size := (Array.getElem?_eq_some_iff.1 h).1
theorem Lay.cell {W : World} {B : Nat} {cs : Array Value} {t : TypeId} (h : Lay W B cs t) (j : Nat) (v : Value) (hv : cs[j]? = some v) : W.cell? ⟨B, j, none⟩ = some v := by
  simp [World.cell?, show W.heap[B]? = _ from h, hv]
theorem Lay.frozen {W : World} {B : Nat} {cs : Array Value} {t : TypeId} (h : Lay W B cs t) (j : Nat) : W.frozen? ⟨B, j, none⟩ = false := by simp [World.frozen?, show W.heap[B]? = _ from h]
theorem Lay.new (W : World) (t : TypeId) (cs : Array Value) : Lay (W.alloc (.cells cs t)) W.heap.size cs t := World.alloc_heap_new W _
theorem Lay.kept {W W' : World} {row : Option Nat} {B : Nat} {cs : Array Value} {t : TypeId} (h : Lay W B cs t) (hg : W.grownBy W' row) (hne : some B ≠ row) : Lay W' B cs t := (hg.block B h.lt hne).trans h
theorem Lay.alloc {W : World} {B : Nat} {cs : Array Value} {t : TypeId} (h : Lay W B cs t) (o : Obj) : Lay (W.alloc o) B cs t := h.kept (World.grownBy_alloc W o none) (by simp)
theorem Lay.keptN {W W' : World} {row : Option Nat} {B : Nat} {cs : Array Value} {t : TypeId} (h : Lay W B cs t) (hg : W.grownBy W' row) (hr : ∀ r, row = some r → ∃ o : Obj, W.heap[r]? = some o ∧ o.isCells = false) : Lay W' B cs t :=
  h.kept hg (fun e => by
    obtain ⟨o, ho, hc⟩ := hr B e.symm
    rw [show W.heap[B]? = _ from h] at ho
    cases ho
    cases hc)
theorem Lay.ext {W W' : World} {B : Nat} {cs : Array Value} {t : TypeId} (h : Lay W B cs t) (hb : Below W.heap.size W W') : Lay W' B cs t := (hb.block B h.lt).trans h

theorem Lay.ext2 {W W' : World} {B : Nat} {cs : Array Value} {t : TypeId} (hb : Below W.heap.size W W') (h : Lay W B cs t) : Lay W' B cs t := h.ext hb
theorem keeps_below {W W' : World} (h : Below W.heap.size W W') : KeepsOthers W W' := ⟨h.size, fun k o hk _ => (h.block k (Array.getElem?_eq_some_iff.1 hk).1).trans hk⟩
theorem kpB_below {n₀ b : Nat} {W W' : World} (hn : n₀ ≤ W.heap.size) (h : Below W.heap.size W W') : KpB n₀ b W W' := ⟨h.mono hn, fun _ hv => cell_ext h hv⟩
theorem six_cells (W : World) (g h : Nat) (hne : g ≠ h) (v0 v1 v2 v3 v4 v5 u0 u1 u2 u3 u4 u5 : Value) (k0 : W.cell? ⟨g, 0, none⟩ = some u0) (k1 : W.cell? ⟨g, 1, none⟩ = some u1) (k2 : W.cell? ⟨g, 2, none⟩ = some u2) (k3 : W.cell? ⟨g, 3, none⟩ = some u3) (k4 : W.cell? ⟨g, 4, none⟩ = some u4) (k5 : W.cell? ⟨h, 0, none⟩ = some u5) (W' : World)
    (e : W' = (((((W.setCell ⟨g, 0, none⟩ v0).setCell ⟨g, 1, none⟩ v1).setCell ⟨g, 2, none⟩ v2).setCell ⟨g, 3, none⟩ v3).setCell ⟨g, 4, none⟩ v4).setCell ⟨h, 0, none⟩ v5) :
    W'.cell? ⟨g, 0, none⟩ = some v0 ∧ W'.cell? ⟨g, 1, none⟩ = some v1 ∧ W'.cell? ⟨g, 2, none⟩ = some v2 ∧ W'.cell? ⟨g, 3, none⟩ = some v3 ∧ W'.cell? ⟨g, 4, none⟩ = some v4 ∧ W'.cell? ⟨h, 0, none⟩ = some v5 := by
  subst e
  have hn : h ≠ g := fun e => hne e.symm
  refine ⟨?_, ?_, ?_, ?_, ?_, ?_⟩
  · simp [World.cell?_setCell_other, hn, World.cell?_setCell_same', k0]
  · simp [World.cell?_setCell_other, hn, World.cell?_setCell_same', k1]
  · simp [World.cell?_setCell_other, hn, World.cell?_setCell_same', k2]
  · simp [World.cell?_setCell_other, hn, World.cell?_setCell_same', k3]
  · simp [World.cell?_setCell_other, hn, World.cell?_setCell_same', k4]
  · refine World.cell?_setCell_same' _ _ _ ?_
    simp [World.cell?_setCell_other, hne, k5]
theorem six_keep (W : World) (g h : Nat) (v0 v1 v2 v3 v4 v5 : Value) (W' : World)
    (e : W' = (((((W.setCell ⟨g, 0, none⟩ v0).setCell ⟨g, 1, none⟩ v1).setCell ⟨g, 2, none⟩ v2).setCell ⟨g, 3, none⟩ v3).setCell ⟨g, 4, none⟩ v4).setCell ⟨h, 0, none⟩ v5) : KeepsOthers W W' := by
  subst e
  exact ((((((KeepsOthers.setCell _ _ _).trans (KeepsOthers.setCell _ _ _)).trans (KeepsOthers.setCell _ _ _)).trans (KeepsOthers.setCell _ _ _)).trans (KeepsOthers.setCell _ _ _)).trans (KeepsOthers.setCell _ _ _))
theorem six_below (n₀ : Nat) (w W : World) (hb : Below n₀ w W) (g h : Nat) (hg : n₀ ≤ g) (hh : n₀ ≤ h) (v0 v1 v2 v3 v4 v5 : Value) (W' : World)
    (e : W' = (((((W.setCell ⟨g, 0, none⟩ v0).setCell ⟨g, 1, none⟩ v1).setCell ⟨g, 2, none⟩ v2).setCell ⟨g, 3, none⟩ v3).setCell ⟨g, 4, none⟩ v4).setCell ⟨h, 0, none⟩ v5) : Below n₀ w W' := by
  subst e
  exact ((((((hb.setCell (p := ⟨g, 0, none⟩) hg _).setCell (p := ⟨g, 1, none⟩) hg _).setCell (p := ⟨g, 2, none⟩) hg _).setCell (p := ⟨g, 3, none⟩) hg _).setCell (p := ⟨g, 4, none⟩) hg _).setCell (p := ⟨h, 0, none⟩) hh _)
theorem find_prefix (R : List Issue) (d l : Int) (pre : List Issue) (x : Issue) (hp : pre ++ [x] <+: issuesOf R d) (hn : ∀ y ∈ pre, isRef d l y = false) (hx : isRef d l x = true) : findR R d l = some x := by
  have e : findR R d l = (issuesOf R d).find? (isRef d l) := by
    unfold findR issuesOf
    rw [List.find?_filter]
    congr 1
    funext y
    unfold isRef
    by_cases h : y.d = d
    · by_cases h2 : y.l = l <;> simp [h, h2]
    · simp [h]
  obtain ⟨r, hr⟩ := hp
  rw [e, ← hr, List.append_assoc, List.find?_append, List.find?_eq_none.2 (fun y hy => by simp [hn y hy])]
  simp [hx]
theorem find_all (R : List Issue) (d l : Int) (hn : ∀ y ∈ issuesOf R d, isRef d l y = false) : findR R d l = none := by
  refine findR_none R d l fun j hj => ?_
  by_cases h : R[j].d = d
  · exact hn _ (by unfold issuesOf; rw [List.mem_filter]; exact ⟨List.getElem_mem hj, by simp [h]⟩)
  · unfold isRef; simp [h]

set_option maxRecDepth 100000 in
set_option maxHeartbeats 3200000 in
theorem find_iss (w : World) (pb : Nat) (vr vd : Value) (R : List Issue) (D : List Int) (d l : Int) (hB : BookAt w pb vr vd R D) (hs : MountR R) (hlen : R.length ≤ 100) (hne : R ≠ []) :
    Calls Tryz.prog 67 #[.pointer (some ⟨pb, 0, none⟩), .agg #[.int .i64 d, .int .i64 l]] w (RetFind R d l w) := by
  refine (callsIn_wide (n := 3)).1 ?_
  refine callsIn_of_wp_marks Tryz.func67 rfl trivial ?_ rfl
  simp only [Tryz.ntmps67, List.size_toArray, List.length_cons, List.length_nil, Nat.reduceAdd, Nat.reduceSub, Array.replicate_succ, Array.replicate_zero, List.push_toArray, List.append_toArray, List.nil_append, List.cons_append]
  gi_wp2_with (refine ⟨trivial, ?_⟩; gi_at_call 65; refine (callsIn_wide.2 (issues_val _ _ _)).mono ?_; rintro e w' ⟨rfl, rfl⟩)
  have a1 := ((Lay.new w 84 #[.int .i64 d, .int .i64 l]).alloc (.cells zeroIssue 46)).alloc (.cells #[.bool false] 4)
  have a2 := (Lay.new (w.alloc (.cells #[.int .i64 d, .int .i64 l] 84)) 46 zeroIssue).alloc (.cells #[.bool false] 4)
  have a3 := Lay.new ((w.alloc (.cells #[.int .i64 d, .int .i64 l] 84)).alloc (.cells zeroIssue 46)) 4 #[.bool false]
  have hB0 : Below w.heap.size w (((w.alloc (.cells #[.int .i64 d, .int .i64 l] 84)).alloc (.cells zeroIssue 46)).alloc (.cells #[.bool false] 4)) :=
    (((Below.refl _ w).alloc (Nat.le_refl _) _).alloc (by simp) _).alloc (by simp; omega) _
  have hsz : (((w.alloc (.cells #[.int .i64 d, .int .i64 l] 84)).alloc (.cells zeroIssue 46)).alloc (.cells #[.bool false] 4)).heap.size = w.heap.size + 3 := by simp
  simp only [World.size_alloc] at a2 a3
  unfold zeroIssue at a1 a2 a3 hB0 hsz
  obtain ⟨W1, hW1⟩ : ∃ W1, ((w.alloc (.cells #[.int .i64 d, .int .i64 l] 84)).alloc (.cells #[.int .i64 0, .int .i64 0, .int .u8 0, .slice none 0 0, .slice none 0 0] 46)).alloc (.cells #[.bool false] 4) = W1 := ⟨_, rfl⟩
  rw [hW1] at a1 a2 a3 hB0 hsz ⊢
  clear hW1
  have h2 := two_a W1 (.pointer (some ⟨pb, 0, none⟩)) (.int .i64 d) 98 3 (w.heap.size + 1 + 1 + 1) (by omega)
  have h3 := two_b W1 (.pointer (some ⟨pb, 0, none⟩)) (.int .i64 d) 98 3 (w.heap.size + 1 + 1 + 1 + 1) (by omega)
  have a1 := (a1.alloc (.cells #[.pointer (some ⟨pb, 0, none⟩)] 98)).alloc (.cells #[.int .i64 d] 3)
  have a2 := (a2.alloc (.cells #[.pointer (some ⟨pb, 0, none⟩)] 98)).alloc (.cells #[.int .i64 d] 3)
  have a3 := (a3.alloc (.cells #[.pointer (some ⟨pb, 0, none⟩)] 98)).alloc (.cells #[.int .i64 d] 3)
  have hB0 := (hB0.alloc hB0.size (.cells #[.pointer (some ⟨pb, 0, none⟩)] 98)).alloc (by simp; omega) (.cells #[.int .i64 d] 3)
  have hsz : ((W1.alloc (.cells #[.pointer (some ⟨pb, 0, none⟩)] 98)).alloc (.cells #[.int .i64 d] 3)).heap.size = w.heap.size + 5 := by simp [hsz]
  generalize (W1.alloc _).alloc _ = W0 at *
  refine wpIn_rangeFunc_ownH (n := 3) rfl (by decide) (gf := 82) (lb := #[.pointer (some ⟨w.heap.size + 1 + 1 + 1, 0, none⟩), .pointer (some ⟨w.heap.size + 1 + 1 + 1 + 1, 0, none⟩)]) rfl trivial (enters_of Tryz.func82 (by kernel_rfl) rfl)
    (issues_stops 2 (by decide) w _ hB0 pb (w.heap.size + 1 + 1 + 1) (w.heap.size + 1 + 1 + 1 + 1) vr vd R D d hB h2 h3 hs hlen hne) kpB_t (kpB_b (by omega)) (Below.refl _ _) (fun _ => rfl)
    (fun pre W => ((Lay W w.heap.size #[.int .i64 d, .int .i64 l] 84 ∧ Lay W (w.heap.size + 1) #[.int .i64 0, .int .i64 0, .int .u8 0, .slice none 0 0, .slice none 0 0] 46 ∧ Lay W (w.heap.size + 1 + 1) #[.bool false] 4) ∧ (∀ t ∈ pre, isRef d l t.x = false)) ∧ Below w.heap.size w W)
    (fun c pre W => (c = .ret ∧ ∃ p0 t, pre = p0 ++ [t] ∧ (∀ t ∈ p0, isRef d l t.x = false) ∧ isRef d l t.x = true ∧
      (W.cell? ⟨w.heap.size + 1, 0, none⟩ = some (.int .i64 t.x.d) ∧ W.cell? ⟨w.heap.size + 1, 1, none⟩ = some (.int .i64 t.x.l) ∧ W.cell? ⟨w.heap.size + 1, 2, none⟩ = some (.int .u8 t.x.k) ∧ W.cell? ⟨w.heap.size + 1, 3, none⟩ = some (.slice t.ai t.x.items.length t.ci) ∧ W.cell? ⟨w.heap.size + 1, 4, none⟩ = some (.slice t.ad t.x.dims.length t.cd) ∧ W.cell? ⟨w.heap.size + 1 + 1, 0, none⟩ = some (.bool true))) ∧ Below w.heap.size w W)
    (OwnFrom.and (fun s A B row hs hg hr => ⟨⟨hs.1.1.keptN hg (fun r e => (hr r e).2), hs.1.2.1.keptN hg (fun r e => (hr r e).2), hs.1.2.2.keptN hg (fun r e => (hr r e).2)⟩, hs.2⟩) (ownFrom_below (Nat.le_refl _) (by omega)))
    (fun c => OwnFrom.and (fun s A B row hs hg hr => by
      obtain ⟨hc, p0, t, h1, h2, h3, k0, k1, k2, k3, k4, k5⟩ := hs
      exact ⟨hc, p0, t, h1, h2, h3, cell_kept k0 hg (fun r e => (hr r e).2), cell_kept k1 hg (fun r e => (hr r e).2), cell_kept k2 hg (fun r e => (hr r e).2), cell_kept k3 hg (fun r e => (hr r e).2), cell_kept k4 hg (fun r e => (hr r e).2), cell_kept k5 hg (fun r e => (hr r e).2)⟩) (ownFrom_below (Nat.le_refl _) (by omega)))
    ⟨⟨⟨a1, a2, a3⟩, fun _ h => by cases h⟩, hB0⟩
    (fun x a' W => ∃ Bx, w.heap.size + 1 + 1 < Bx ∧ Lay W Bx #[.int .i64 x.x.d, .int .i64 x.x.l, .int .u8 x.x.k, .slice x.ai x.x.items.length x.ci, .slice x.ad x.x.dims.length x.cd] 46 ∧ a' = { tmps := #[.pointer (some ⟨pb, 0, none⟩), .agg #[.int .i64 d, .int .i64 l], undef, .pointer (some ⟨w.heap.size, 0, none⟩), .pointer (some ⟨w.heap.size + 1, 0, none⟩), .pointer (some ⟨w.heap.size + 1 + 1, 0, none⟩), .pointer (some ⟨Bx, 0, none⟩), .pointer (some ⟨pb, 0, none⟩), .pointer (some ⟨w.heap.size, 0, none⟩), .int .i64 d, .func (.func 82) #[] #[.pointer (some ⟨w.heap.size + 1 + 1 + 1, 0, none⟩), .pointer (some ⟨w.heap.size + 1 + 1 + 1 + 1, 0, none⟩)], x.enc, undef, undef, undef, undef, undef, undef], defers := [] })
    (fun x a' _ X Y row hs hg hr => by obtain ⟨Bx, h1, h2, h3⟩ := hs; exact ⟨Bx, h1, h2.keptN hg (fun r e => (hr r e).2), h3⟩)
    ?assign ?body ?done ?stop
  case assign =>
    rintro l0 pre x W K ⟨⟨⟨b1, b2, b3⟩, hn⟩, hB1⟩ hK
    simp [List.zip_toArray]
    have hK' := hK _ (W.alloc (.cells #[.int .i64 x.x.d, .int .i64 x.x.l, .int .u8 x.x.k, .slice x.ai x.x.items.length x.ci, .slice x.ad x.x.dims.length x.cd] 46)) ((KeepsOthers.alloc _ _).from _) (kpB_alloc hB1.size _) ⟨⟨⟨b1.alloc _, b2.alloc _, b3.alloc _⟩, hn⟩, hB1.alloc hB1.size _⟩ ⟨W.heap.size, b3.lt, Lay.new W _ _, rfl⟩
    clear hK
    unfold Iss.enc at hK' ⊢
    gi_wp2
    exact hK'
  case body =>
    rintro l0 pre x a' W hl ⟨r, hr⟩ ⟨⟨⟨b1, b2, b3⟩, hn⟩, hB1⟩ ⟨Bx, hBx, bX, rfl⟩ hlt
    have lX := bX.lt
    have l1 := b1.lt
    have l2 := b2.lt
    have l3 := b3.lt
    have hsW := hB1.size
    have hn1 : w.heap.size ≤ W.heap.size := hB1.size
    have BX := Lib.hid bX
    have B1 := Lib.hid b1
    have B2 := Lib.hid b2
    have B3 := Lib.hid b3
    have c0 := bX.cell 0 _ rfl
    have c1 := bX.cell 1 _ rfl
    have c2 := bX.cell 2 _ rfl
    have c3 := bX.cell 3 _ rfl
    have c4 := bX.cell 4 _ rfl
    have d0 := b1.cell 0 _ rfl
    have d1 := b1.cell 1 _ rfl
    have HN := Lib.hid hn
    have HBW := Lib.hid hB1
    have HIR : isRef d l x.x = (x.x.d == d && x.x.l == l) := rfl
    have HREF := Lib.hid HIR
    clear bX b1 b2 b3 hn hB1 hr hB hs hlen h2 h3 a1 a2 a3 hB0 HIR
    have hnm : ∀ W1, CallsIn (Fence.wide.inRound l0) 0 Tryz.prog 85 #[.agg #[.int .i64 x.x.d, .int .i64 x.x.l, .int .u8 x.x.k, .slice x.ai x.x.items.length x.ci, .slice x.ad x.x.dims.length x.cd]] W1 (fun e w' => e = .returned (.agg #[.int .i64 x.x.d, .int .i64 x.x.l]) ∧ Below W1.heap.size W1 w') := fun W1 => CallsIn.inRound l0 (callsIn_wide.2 (name_sheet W1 x.x _ _ _ _ _ _ _ _ rfl rfl))
    have hmx : Tryz.prog.follows .mixedOrders = true := by kernel_rfl
    by_cases g1 : (x.x.d == d) = true
    · by_cases g2 : (x.x.l == l) = true
      · gi_wp2
        gi_region_with_o (refine ⟨trivial, ?_⟩; refine (hnm _).mono ?_; rintro e w' ⟨rfl, hb⟩; have EX := Lay.ext2 hb BX.out; have E1 := Lay.ext2 hb B1.out; have E2 := Lay.ext2 hb B2.out; have E3 := Lay.ext2 hb B3.out; have hbw := below_trans ((Below.refl _ W).drew) hb; have d0' := E1.cell 0 _ rfl; have d1' := E1.cell 1 _ rfl)
        all_goals have c0' := EX.cell 0 _ rfl
        all_goals have c1' := EX.cell 1 _ rfl
        all_goals have c2' := EX.cell 2 _ rfl
        all_goals have c3' := EX.cell 3 _ rfl
        all_goals have c4' := EX.cell 4 _ rfl
        all_goals have k0' := E2.cell 0 _ rfl
        all_goals have k1' := E2.cell 1 _ rfl
        all_goals have k2' := E2.cell 2 _ rfl
        all_goals have k3' := E2.cell 3 _ rfl
        all_goals have k4' := E2.cell 4 _ rfl
        all_goals have k5' := E3.cell 0 _ rfl
        all_goals have f0' := E2.frozen 0
        all_goals have f1' := E2.frozen 1
        all_goals have f2' := E2.frozen 2
        all_goals have f3' := E2.frozen 3
        all_goals have f4' := E2.frozen 4
        all_goals have f5' := E3.frozen 0
        all_goals gi_wp2
        all_goals exact ⟨((keeps_below hbw).trans (six_keep w' (w.heap.size + 1) (w.heap.size + 1 + 1) _ _ _ _ _ _ _ rfl)).from _, ⟨rfl, pre, x, rfl, HN.out, by simp [isRef, g1, g2], six_cells w' _ _ (by omega) _ _ _ _ _ _ _ _ _ _ _ _ k0' k1' k2' k3' k4' k5' _ rfl⟩, six_below _ w w' (below_trans HBW.out hbw) _ _ (by omega) (by omega) _ _ _ _ _ _ _ rfl⟩
      · have g2' : (x.x.l == l) = false := by simpa using g2
        gi_wp2
        gi_region_with_o (refine ⟨trivial, ?_⟩; refine (hnm _).mono ?_; rintro e w' ⟨rfl, hb⟩; have EX := Lay.ext2 hb BX.out; have E1 := Lay.ext2 hb B1.out; have E2 := Lay.ext2 hb B2.out; have E3 := Lay.ext2 hb B3.out; have hbw := below_trans ((Below.refl _ W).drew) hb; have d0' := E1.cell 0 _ rfl; have d1' := E1.cell 1 _ rfl)
        all_goals gi_wp2
        all_goals exact ⟨(keeps_below hbw).from _, kpB_below hn1 hbw, ⟨⟨⟨E1, E2, E3⟩, fun t ht => by
          rcases List.mem_append.1 ht with h | h
          · exact HN.out t h
          · rw [List.mem_singleton] at h; subst h; unfold isRef; simp [g2']⟩, below_trans HBW.out hbw⟩⟩
    · have g1' : (x.x.d == d) = false := by simpa using g1
      gi_wp2
      gi_region_with_o (refine ⟨trivial, ?_⟩; refine (hnm _).mono ?_; rintro e w' ⟨rfl, hb⟩; have EX := Lay.ext2 hb BX.out; have E1 := Lay.ext2 hb B1.out; have E2 := Lay.ext2 hb B2.out; have E3 := Lay.ext2 hb B3.out; have hbw := below_trans ((Below.refl _ W).drew) hb; have d0' := E1.cell 0 _ rfl; have d1' := E1.cell 1 _ rfl)
      all_goals gi_wp2
      all_goals exact ⟨(keeps_below hbw).from _, kpB_below hn1 hbw, ⟨⟨⟨E1, E2, E3⟩, fun t ht => by
        rcases List.mem_append.1 ht with h | h
        · exact HN.out t h
        · rw [List.mem_singleton] at h; subst h; unfold isRef; simp [g1']⟩, below_trans HBW.out hbw⟩⟩
  case done =>
    rintro D ys W hD hS ⟨⟨⟨b1, b2, b3⟩, hn⟩, hB1⟩ hK
    have k0 := b2.cell 0 _ rfl
    have k1 := b2.cell 1 _ rfl
    have k2 := b2.cell 2 _ rfl
    have k3 := b2.cell 3 _ rfl
    have k4 := b2.cell 4 _ rfl
    have k5 := b3.cell 0 _ rfl
    have f0 := b2.frozen 0
    have f1 := b2.frozen 1
    have f2 := b2.frozen 2
    have f3 := b2.frozen 3
    have f4 := b2.frozen 4
    have f5 := b3.frozen 0
    gi_wp2
    obtain ⟨Wd, hWd⟩ : ∃ Wd, (((((W.setCell ⟨w.heap.size + 1, 0, none⟩ (.int .i64 0)).setCell ⟨w.heap.size + 1, 1, none⟩ (.int .i64 0)).setCell ⟨w.heap.size + 1, 2, none⟩ (.int .u8 0)).setCell ⟨w.heap.size + 1, 3, none⟩ (.slice none 0 0)).setCell ⟨w.heap.size + 1, 4, none⟩ (.slice none 0 0)).setCell ⟨w.heap.size + 1 + 1, 0, none⟩ (.bool false) = Wd := ⟨_, rfl⟩
    rw [hWd]
    have hK' := (six_keep W _ _ _ _ _ _ _ _ Wd hWd.symm).same D _ hK rfl
    obtain ⟨y0, y1, y2, y3, y4, y5⟩ := six_cells W _ _ (by omega) _ _ _ _ _ _ _ _ _ _ _ _ k0 k1 k2 k3 k4 k5 Wd hWd.symm
    have hbd := six_below _ w W hB1 (w.heap.size + 1) (w.heap.size + 1 + 1) (by omega) (by omega) _ _ _ _ _ _ Wd hWd.symm
    have kp : ∀ (j b : Nat) (v : Value), Wd.cell? ⟨b, j, none⟩ = some v → (Wd.putObj D (.deferred none)).cell? ⟨b, j, none⟩ = some v := fun j b v h => cell_kept h (grownBy_putObj' Wd D (.deferred none)) (fun r e => by cases e; exact ⟨_, hK', rfl⟩)
    refine ⟨by simp, .inl ⟨_, _, rfl, run_takeDeferred hK', ?_⟩⟩
    refine ⟨.tuple #[.agg #[.int .i64 0, .int .i64 0, .int .u8 0, .slice none 0 0, .slice none 0 0], .bool false], by simp [results, Tryz.results67, go_sem, kp _ _ _ y0, kp _ _ _ y1, kp _ _ _ y2, kp _ _ _ y3, kp _ _ _ y4, kp _ _ _ y5], hbd.trans (belowK_b (w := w) (Nat.le_refl _) Wd D _ _ (by omega) hK' rfl rfl), .inr ⟨find_all R d l (fun y hy => ?_), rfl⟩⟩
    rw [← hS] at hy
    obtain ⟨t, ht, rfl⟩ := List.mem_map.1 hy
    exact hn t ht
  case stop =>
    rintro D c pre W hD hS ⟨⟨rfl, p0, t, rfl, h1, h2, k0, k1, k2, k3, k4, k5⟩, hB1⟩ hK
    gi_wp2
    have kp : ∀ (j b : Nat) (v : Value), W.cell? ⟨b, j, none⟩ = some v → (W.putObj D (.deferred none)).cell? ⟨b, j, none⟩ = some v := fun j b v h => cell_kept h (grownBy_putObj' W D (.deferred none)) (fun r e => by cases e; exact ⟨_, hK, rfl⟩)
    refine ⟨by simp, .inl ⟨_, _, rfl, run_takeDeferred hK, ?_⟩⟩
    have hW := hB1.trans (belowK_b (w := w) (Nat.le_refl _) W D _ (.deferred none) (by omega) hK rfl rfl)
    refine ⟨.tuple #[.agg #[.int .i64 t.x.d, .int .i64 t.x.l, .int .u8 t.x.k, .slice t.ai t.x.items.length t.ci, .slice t.ad t.x.dims.length t.cd], .bool true], by simp [results, Tryz.results67, go_sem, kp _ _ _ k0, kp _ _ _ k1, kp _ _ _ k2, kp _ _ _ k3, kp _ _ _ k4, kp _ _ _ k5], hW, .inl ⟨t.x, _, _, ?_, rfl, sl_ext stays_item hW t.lies.items, sl_ext stays_dim hW t.lies.dims, t.lies.num⟩⟩
    refine find_prefix R d l (p0.map (·.x)) t.x (by simpa using hS) (fun y hy => ?_) h2
    obtain ⟨u, hu, rfl⟩ := List.mem_map.1 hy
    exact h1 u hu

end Go.Proofs.YtoibnhkiedpkgaaGreatDoor

namespace Go.Proofs.YtoibnhkiedpkgaaGreatDoor
open Go.RowKit

theorem wf_i64 {x : Int} (h : I64 x) : (Lit.int .i64 x).wf = true := by
  obtain ⟨h1, h2⟩ := h
  show (decide (_ ≤ x) && decide (x ≤ _)) = true
  rw [Bool.and_eq_true, decide_eq_true_iff, decide_eq_true_iff]
  exact ⟨h1, h2⟩
theorem key_i64 {x : Int} (h : I64 x) : keyOf Tryz.prog 3 (.int .i64 x) = some (.int .i64 x) := Maps.keyOf_int_mk Tryz.underlying3 (wf_i64 h)
theorem keyed_int : Maps.Keyed Tryz.prog 3 := Maps.int_keyed Tryz.underlying3

/-- A map of ints to Bools: true just at the list's members; no other member. -/
def MapB (w : World) (b n : Nat) (L : List Int) : Prop :=
  ∃ D : DataW Unit, w.ownsMap Tryz.prog 3 (plainElem Tryz.prog 4) b n D ∧ L.Nodup ∧ Maps.size D = L.length ∧
    ∀ x, I64 x → Maps.has D (.int .i64 x) = decide (x ∈ L) ∧ D.atKey (.int .i64 x) (.lit (.bool false)) = .lit (.bool (decide (x ∈ L)))
/-- A map of ints to ints. -/
def MapI (w : World) (b n : Nat) (f : Int → Option Int) : Prop :=
  ∃ D : DataW Unit, w.ownsMap Tryz.prog 3 (plainElem Tryz.prog 3) b n D ∧
    ∀ x, I64 x → Maps.has D (.int .i64 x) = (f x).isSome ∧ ∀ z, D.atKey (.int .i64 x) z = match f x with | some c => .lit (.int .i64 c) | none => z

theorem own_same {H : Type} {P : Program} {k : TypeId} {R : Value → Option (DataW H × List MemPlace)} {w w' : World} {b n : Nat} {D : DataW H} (h : w.ownsMap P k R b n D) (e : w'.heap[b]? = w.heap[b]?) : w'.ownsMap P k R b n D := by
  obtain ⟨es, clock, hb, F, hs, hD⟩ := h
  exact ⟨es, clock, e.trans hb, F, hs, hD⟩
theorem MapB.same {w w' : World} {b n : Nat} {L : List Int} (h : MapB w b n L) (e : w'.heap[b]? = w.heap[b]?) : MapB w' b n L := by
  obtain ⟨D, h1, h2⟩ := h
  exact ⟨D, own_same h1 e, h2⟩
theorem MapI.same {w w' : World} {b n : Nat} {f : Int → Option Int} (h : MapI w b n f) (e : w'.heap[b]? = w.heap[b]?) : MapI w' b n f := by
  obtain ⟨D, h1, h2⟩ := h
  exact ⟨D, own_same h1 e, h2⟩
theorem MapB.lt {w : World} {b n : Nat} {L : List Int} (h : MapB w b n L) : b < w.heap.size := by obtain ⟨D, h1, h2⟩ := h; exact h1.lt
theorem MapI.lt {w : World} {b n : Nat} {f : Int → Option Int} (h : MapI w b n f) : b < w.heap.size := by obtain ⟨D, h1, h2⟩ := h; exact h1.lt
theorem MapB.is {w : World} {b n : Nat} {L : List Int} (h : MapB w b n L) : ∃ es ck, w.heap[b]? = some (.map es ck) := by obtain ⟨D, ⟨es, ck, hb, _⟩, _⟩ := h; exact ⟨es, ck, hb⟩
theorem MapI.is {w : World} {b n : Nat} {f : Int → Option Int} (h : MapI w b n f) : ∃ es ck, w.heap[b]? = some (.map es ck) := by obtain ⟨D, ⟨es, ck, hb, _⟩, _⟩ := h; exact ⟨es, ck, hb⟩

theorem mapB_made (w : World) : MapB (w.alloc (.map #[] 0)) w.heap.size 0 [] :=
  ⟨.map [], World.ownsMap_made w _ _ _, List.nodup_nil, rfl, fun x _ => ⟨by simp [Maps.has], by simp [DataW.atKey]⟩⟩
theorem mapI_made (w : World) : MapI (w.alloc (.map #[] 0)) w.heap.size 0 (fun _ => none) :=
  ⟨.map [], World.ownsMap_made w _ _ _, fun x _ => ⟨by simp [Maps.has], fun z => by simp [DataW.atKey]⟩⟩

theorem plainElem_bool_inv {v : Value} {z : DataW Unit × List MemPlace} (h : plainElem Tryz.prog 4 v = some z) : ∃ x, v = .bool x ∧ z = (.lit (.bool x), []) := by
  unfold plainElem at h
  have hu := Tryz.underlying4
  generalize Tryz.prog.underlying 4 = u at hu h
  subst hu
  cases v <;> simp at h
  subst h
  exact ⟨_, rfl, rfl⟩

theorem mapB_look {w : World} {b n : Nat} {L : List Int} (h : MapB w b n L) {x : Int} (hx : I64 x) : (Instr.lookup 162 (.map (some b)) (.int .i64 x) false).run Tryz.prog w = .ok (.bool (decide (x ∈ L))) w := by
  obtain ⟨D, ho, -, -, hD⟩ := h
  obtain ⟨v, ps, hr, hv⟩ := ho.lookup keyed_int Tryz.underlying162 (Tryz.zeroValue4 w) (plainElem_bool Tryz.underlying4 false) (key_i64 hx)
  obtain ⟨y, rfl, e⟩ := plainElem_bool_inv hv
  rw [(hD x hx).2] at e
  simp at e
  rw [hr, ← e.1]
theorem mapI_look {w : World} {b n : Nat} {f : Int → Option Int} (h : MapI w b n f) {x : Int} (hx : I64 x) : (Instr.lookup 141 (.map (some b)) (.int .i64 x) false).run Tryz.prog w = .ok (.int .i64 ((f x).getD 0)) w := by
  obtain ⟨D, ho, hD⟩ := h
  obtain ⟨c, hr, hc, -⟩ := ho.lookup_int keyed_int Tryz.underlying141 Tryz.underlying3 (Tryz.zeroValue3 w) (key_i64 hx)
  rw [(hD x hx).2] at hc
  rw [hr]
  cases hf : f x with
  | none => rw [hf] at hc; simp at hc; simp [hc]
  | some y => rw [hf] at hc; simp at hc; simp [hc]
theorem mapB_len {w : World} {b n : Nat} {L : List Int} (h : MapB w b n L) : ∀ ty, (Builtin.len_ #[162] ty #[.map (some b)]).run Tryz.prog w = .ok (.int .i64 L.length) w := by
  obtain ⟨D, ho, -, hs, hD⟩ := h
  intro ty
  rw [ho.len Tryz.underlying162, hs]

theorem keyLit_int (x : Int) : WideAt.IsKeyLit (.int .i64 x) := by simp [WideAt.IsKeyLit]
theorem lit_ne {x y : Int} (h : x ≠ y) : (Lit.int .i64 x) ≠ .int .i64 y := by intro e; cases e; exact h rfl

theorem mapB_put {w : World} {b n : Nat} {L : List Int} (h : MapB w b n L) {x : Int} (hx : I64 x) (hL : x ∉ L) (hn : n < maxLen) :
    ∃ w', (Instr.mapUpdate 162 (.map (some b)) (.int .i64 x) (.bool true)).run Tryz.prog w = .ok () w' ∧ MapB w' b (n + 1) (L ++ [x]) ∧ w.grownBy w' (some b) := by
  obtain ⟨D, ho, hd, hs, hD⟩ := h
  obtain ⟨w', hr, ho', hg⟩ := ho.update keyed_int Tryz.underlying162 hn (key_i64 hx) (plainElem_bool Tryz.underlying4 true)
  refine ⟨w', hr, ⟨_, ho', ?_, ?_, fun y hy => ?_⟩, hg⟩
  · rw [List.nodup_append]
    exact ⟨hd, by simp, fun a ha b hb => by simp at hb; subst hb; intro e; subst e; exact hL ha⟩
  · rw [Maps.size_put (ho.tidy keyed_int), (hD x hx).1, hs]
    simp [hL]
  · by_cases e : y = x
    · subst e
      exact ⟨by rw [Maps.has_put_same ho.isMap (keyLit_int _)]; simp, by rw [Maps.atKey_put_same ho.isMap (keyLit_int _)]; simp⟩
    · exact ⟨by rw [Maps.has_put_other (lit_ne e), (hD y hy).1]; simp [e], by rw [Maps.atKey_put_other (lit_ne e), (hD y hy).2]; simp [e]⟩
theorem mapI_put {w : World} {b n : Nat} {f : Int → Option Int} (h : MapI w b n f) {x c : Int} (hx : I64 x) (hc : I64 c) (hn : n < maxLen) :
    ∃ w', (Instr.mapUpdate 141 (.map (some b)) (.int .i64 x) (.int .i64 c)).run Tryz.prog w = .ok () w' ∧ MapI w' b (n + 1) (fun y => if y = x then some c else f y) ∧ w.grownBy w' (some b) := by
  obtain ⟨D, ho, hD⟩ := h
  obtain ⟨w', hr, ho', hg⟩ := ho.update keyed_int Tryz.underlying141 hn (key_i64 hx) (plainElem_int Tryz.underlying3 (wf_i64 hc))
  refine ⟨w', hr, ⟨_, ho', fun y hy => ?_⟩, hg⟩
  by_cases e : y = x
  · subst e
    exact ⟨by rw [Maps.has_put_same ho.isMap (keyLit_int _)]; simp, fun z => by rw [Maps.atKey_put_same ho.isMap (keyLit_int _)]; simp⟩
  · exact ⟨by rw [Maps.has_put_other (lit_ne e), (hD y hy).1]; simp [e], fun z => by rw [Maps.atKey_put_other (lit_ne e), (hD y hy).2]; simp [e]⟩
theorem mapB_del {w : World} {b n : Nat} {L : List Int} (h : MapB w b n L) {x : Int} (hx : I64 x) (hL : x ∈ L) (ty : TypeId) :
    ∃ w', (Builtin.delete_ #[162, 3] ty #[.map (some b), .int .i64 x]).run Tryz.prog w = .ok (.tuple #[]) w' ∧ MapB w' b n (L.erase x) ∧ w.grownBy w' (some b) := by
  obtain ⟨D, ho, hd, hs, hD⟩ := h
  obtain ⟨w', hr, ho', hg⟩ := ho.drop keyed_int Tryz.underlying162 (key_i64 hx) ty
  refine ⟨w', hr, ⟨_, ho', hd.erase _, ?_, fun y hy => ?_⟩, hg.grown⟩
  · have := Maps.size_del (ho.tidy keyed_int) (k := .int .i64 x)
    rw [(hD x hx).1, hs] at this
    simp [hL] at this
    rw [List.length_erase_of_mem hL]
    omega
  · by_cases e : y = x
    · subst e
      have hn : ¬ y ∈ L.erase y := fun h => (hd.mem_erase_iff.1 h).1 rfl
      exact ⟨by rw [Maps.has_del_same]; simp [hn], by rw [Maps.atKey_del_same]; simp [hn]⟩
    · have hm : y ∈ L.erase x ↔ y ∈ L := by rw [hd.mem_erase_iff]; simp [e]
      exact ⟨by rw [Maps.has_del_other (lit_ne e), (hD y hy).1]; simp [hm], by rw [Maps.atKey_del_other (lit_ne e), (hD y hy).2]; simp [hm]⟩

end Go.Proofs.YtoibnhkiedpkgaaGreatDoor

namespace Go.Proofs.YtoibnhkiedpkgaaGreatDoor

def sonsOf (xs : List Issue) : List Int := xs.flatMap (fun x => x.items.map (·.d))
def mostOf (f : Int → Option Int) (l : List Int) : Int := l.foldl (fun m y => max m ((f y).getD 0)) 0
def readyOf (L : List Int) (n : Int) (l : List Int) : Bool := decide (n ∈ L) && l.all (fun y => !decide (y ∈ L))
def stepD (R : List Issue) (s : List Int × (Int → Option Int)) (n : Int) : List Int × (Int → Option Int) :=
  if readyOf s.1 n (sonsOf (issuesOf R n)) = true then (s.1.erase n, fun y => if y = n then some (mostOf s.2 (sonsOf (issuesOf R n)) + 1) else s.2 y) else s
/-- The state behind r rounds. -/
def stD (R : List Issue) (D : List Int) : Nat → List Int × (Int → Option Int)
  | 0 => (D, fun _ => none)
  | r + 1 => D.foldl (stepD R) (stD R D r)

theorem mostOf_snoc (f : Int → Option Int) (l : List Int) (y : Int) : mostOf f (l ++ [y]) = max (mostOf f l) ((f y).getD 0) := by simp [mostOf, List.foldl_append]
theorem readyOf_snoc (L : List Int) (n : Int) (l : List Int) (y : Int) : readyOf L n (l ++ [y]) = (readyOf L n l && !decide (y ∈ L)) := by
  unfold readyOf
  rw [List.all_append]
  simp [Bool.and_assoc]
theorem mostOf_bd (f : Int → Option Int) (B : Int) (hB : 0 ≤ B) (hf : ∀ y c, f y = some c → 0 ≤ c ∧ c ≤ B) (l : List Int) : 0 ≤ mostOf f l ∧ mostOf f l ≤ B := by
  unfold mostOf
  have key : ∀ (l : List Int) (a : Int), 0 ≤ a → a ≤ B → 0 ≤ l.foldl (fun m y => max m ((f y).getD 0)) a ∧ l.foldl (fun m y => max m ((f y).getD 0)) a ≤ B := by
    intro l
    induction l with
    | nil => intro a h0 h1; exact ⟨h0, h1⟩
    | cons y l ih =>
      intro a h0 h1
      rw [List.foldl_cons]
      have : 0 ≤ (f y).getD 0 ∧ (f y).getD 0 ≤ B := by
        cases h : f y with
        | none => simp; omega
        | some c => simpa using hf y c h
      exact ih _ (by omega) (by omega)
  exact key l 0 (Int.le_refl _) hB

/-- What a state is good for: no more than as many rounds deep as drawings are done. -/
structure Sane (D : List Int) (s : List Int × (Int → Option Int)) : Prop where
  nodup : s.1.Nodup
  sub : ∀ y ∈ s.1, y ∈ D
  len : s.1.length ≤ D.length
  bd : ∀ y c, s.2 y = some c → 1 ≤ c ∧ c ≤ (D.length : Int) - s.1.length
theorem sane_start (D : List Int) (hD : D.Nodup) : Sane D (D, fun _ => none) := ⟨hD, fun _ h => h, Nat.le_refl _, fun _ _ h => by cases h⟩
theorem sane_step (R : List Issue) (D : List Int) (s : List Int × (Int → Option Int)) (n : Int) (h : Sane D s) : Sane D (stepD R s n) := by
  unfold stepD
  split
  case isFalse => exact h
  case isTrue hr =>
    have hn : n ∈ s.1 := by unfold readyOf at hr; rw [Bool.and_eq_true] at hr; exact of_decide_eq_true hr.1
    have hl := List.length_erase_of_mem hn
    have hpos : 0 < s.1.length := List.length_pos_of_mem hn
    have := h.len
    refine ⟨h.nodup.erase _, fun y hy => h.sub y (List.mem_of_mem_erase hy), (show (s.1.erase n).length ≤ D.length by omega), fun y c hy => ?_⟩
    simp only at hy ⊢
    split at hy
    · cases hy
      have := mostOf_bd s.2 ((D.length : Int) - s.1.length) (by omega) (fun y c hc => by have := h.bd y c hc; omega) (sonsOf (issuesOf R n))
      omega
    · have := h.bd y c hy
      omega
theorem sane_fold (R : List Issue) (D l : List Int) (s : List Int × (Int → Option Int)) (h : Sane D s) : Sane D (l.foldl (stepD R) s) := by
  induction l generalizing s with
  | nil => exact h
  | cons n l ih => exact ih _ (sane_step R D s n h)
theorem sane_st (R : List Issue) (D : List Int) (hD : D.Nodup) (r : Nat) : Sane D (stD R D r) := by
  induction r with
  | zero => exact sane_start D hD
  | succ r ih => exact sane_fold R D D _ ih
/-- The state behind r rounds and i drawings more. -/
def stI (R : List Issue) (D : List Int) (r i : Nat) : List Int × (Int → Option Int) := (D.take i).foldl (stepD R) (stD R D r)
theorem stI_zero (R : List Issue) (D : List Int) (r : Nat) : stI R D r 0 = stD R D r := rfl
theorem stI_all (R : List Issue) (D : List Int) (r i : Nat) (h : D.length ≤ i) : stI R D r i = stD R D (r + 1) := by unfold stI; rw [List.take_of_length_le h]; rfl
theorem stI_succ (R : List Issue) (D : List Int) (r i : Nat) (h : i < D.length) : stI R D r (i + 1) = stepD R (stI R D r i) D[i] := by
  unfold stI
  rw [List.take_succ_eq_append_getElem h, List.foldl_append]
  rfl
theorem sane_stI (R : List Issue) (D : List Int) (hD : D.Nodup) (r i : Nat) : Sane D (stI R D r i) := sane_fold R D _ _ (sane_st R D hD r)

end Go.Proofs.YtoibnhkiedpkgaaGreatDoor

namespace Go.Proofs.YtoibnhkiedpkgaaGreatDoor
open Go.RowKit Go.Shelf
attribute [local go_sem] stepOk Oper.grows Oper.growUpon Oper.semAt_some

/-- How the walk stands: its two maps, in their boxes. -/
structure St (w0 wr : World) (k : Nat) (s : List Int × (Int → Option Int)) : Prop where
  below : Below w0.heap.size w0 wr
  dbox : Boxed wr (w0.heap.size + 1) 141 (.map (some w0.heap.size))
  lbox : Boxed wr (w0.heap.size + 1 + 1 + 1) 162 (.map (some (w0.heap.size + 1 + 1)))
  dm : ∃ m, m ≤ k ∧ MapI wr w0.heap.size m s.2
  lm : ∃ m, m ≤ k ∧ MapB wr (w0.heap.size + 1 + 1) m s.1
theorem Boxed.same2 {W W' : World} {B : Nat} {t : TypeId} {v : Value} (h : Boxed W B t v) (e : W'.heap[B]? = W.heap[B]?) : Boxed W' B t v := e.trans h
theorem St.same {w0 wr wr' : World} {k : Nat} {s : List Int × (Int → Option Int)} (h : St w0 wr k s) (hb : Below w0.heap.size w0 wr') (e : ∀ b, b < w0.heap.size + 4 → wr'.heap[b]? = wr.heap[b]?) : St w0 wr' k s := by
  obtain ⟨h1, h2, h3, ⟨m, hm, h4⟩, ⟨m', hm', h5⟩⟩ := h
  exact ⟨hb, Boxed.same2 h2 (e _ (by omega)), Boxed.same2 h3 (e _ (by omega)), ⟨m, hm, h4.same (e _ (by omega))⟩, ⟨m', hm', h5.same (e _ (by omega))⟩⟩
theorem MapI.alloc {w : World} {b n : Nat} {f : Int → Option Int} (h : MapI w b n f) (o : Obj) : MapI (w.alloc o) b n f := h.same (Below.block (below_alloc w o) b h.lt)
theorem MapB.alloc {w : World} {b n : Nat} {f : List Int} (h : MapB w b n f) (o : Obj) : MapB (w.alloc o) b n f := h.same (Below.block (below_alloc w o) b h.lt)
theorem St.lt {w0 wr : World} {k : Nat} {s : List Int × (Int → Option Int)} (h : St w0 wr k s) : w0.heap.size + 4 ≤ wr.heap.size := by have := h.lbox.lt; omega
theorem St.ext {w0 wr wr' : World} {k : Nat} {s : List Int × (Int → Option Int)} (h : St w0 wr k s) (hb : Below wr.heap.size wr wr') : St w0 wr' k s :=
  h.same (below_trans h.below hb) (fun b hlt => hb.block b (by have := h.lt; omega))
theorem St.kept {w0 wr wr' : World} {k : Nat} {s : List Int × (Int → Option Int)} {row : Option Nat} (h : St w0 wr k s) (hg : wr.grownBy wr' row) (hr : ∀ r, row = some r → w0.heap.size + 4 ≤ r) : St w0 wr' k s :=
  h.same (h.below.grown hg h.below.size (fun r e => by have := hr r e; omega)) (fun b hlt => hg.block b (by have := h.lt; omega) (fun e => by have := hr b e.symm; omega))
theorem St.set {w0 wr : World} {k : Nat} {s : List Int × (Int → Option Int)} (h : St w0 wr k s) {g j : Nat} (hg : w0.heap.size + 4 ≤ g) (v : Value) : St w0 (wr.setCell ⟨g, j, none⟩ v) k s :=
  h.same (h.below.setCell (p := ⟨g, j, none⟩) (by show w0.heap.size ≤ g; omega) v) (fun b hlt => Below.heap_setCell wr ⟨g, j, none⟩ v b (by show b ≠ g; omega))

/-- Marks of loops that are over. -/
def marks (ds : List Nat) : List Deferred := ds.map (fun d => { target := .collected d, args := #[] })
def MarksAt (n : Nat) (w : World) (ds : List Nat) : Prop := ds.Nodup ∧ ∀ d ∈ ds, n ≤ d ∧ w.heap[d]? = some (.deferred (some []))
theorem MarksAt.ext {n : Nat} {w w' : World} {ds : List Nat} (h : MarksAt n w ds) (hb : Below w.heap.size w w') : MarksAt n w' ds :=
  ⟨h.1, fun d hd => ⟨(h.2 d hd).1, (hb.block d (Array.getElem?_eq_some_iff.1 (h.2 d hd).2).1).trans (h.2 d hd).2⟩⟩
theorem MarksAt.keeps {n : Nat} {w w' : World} {ds : List Nat} (h : MarksAt n w ds) (hk : KeepsFrom n w w') : MarksAt n w' ds :=
  ⟨h.1, fun d hd => ⟨(h.2 d hd).1, hk.same d _ (h.2 d hd).1 (h.2 d hd).2 rfl⟩⟩
theorem MarksAt.cons {n : Nat} {w : World} {ds : List Nat} {d : Nat} (h : MarksAt n w ds) (hn : n ≤ d) (hd : w.heap[d]? = some (.deferred (some []))) (hf : d ∉ ds) : MarksAt n w (d :: ds) :=
  ⟨List.nodup_cons.2 ⟨hf, h.1⟩, fun e he => by
    rcases List.mem_cons.1 he with rfl | h'
    · exact ⟨hn, hd⟩
    · exact h.2 e h'⟩
theorem MarksAt.kept {n : Nat} {w w' : World} {ds : List Nat} {row : Option Nat} (h : MarksAt n w ds) (hg : w.grownBy w' row) (hr : ∀ d ∈ ds, some d ≠ row) : MarksAt n w' ds :=
  ⟨h.1, fun d hd => ⟨(h.2 d hd).1, (hg.block d (Array.getElem?_eq_some_iff.1 (h.2 d hd).2).1 (hr d hd)).trans (h.2 d hd).2⟩⟩
theorem Boxed.keptN {W W' : World} {row : Option Nat} {B : Nat} {v : Value} {t : TypeId} (h : Boxed W B t v) (hg : W.grownBy W' row) (hr : ∀ r, row = some r → ∃ o : Obj, W.heap[r]? = some o ∧ o.isCells = false) : Boxed W' B t v :=
  Lay.keptN h hg hr
theorem MarksAt.lt {n : Nat} {w : World} {ds : List Nat} (h : MarksAt n w ds) {d : Nat} (hd : d ∈ ds) : d < w.heap.size := (Array.getElem?_eq_some_iff.1 (h.2 d hd).2).1
/-- A function leaves with such marks alone. -/
theorem leaves_marks {F : Fence} {n : Nat} {P : Program} {fn : Func} {tmps : Array Value} {R : Ending → World → Prop} {v : Value} (b : Nat) (Z : World → Prop) (hZ : ∀ (W : World) (d : Nat), b ≤ d → W.heap[d]? = some (.deferred (some [])) → Z W → Z (W.putObj d (.deferred none)))
    (hR : ∀ W, Z W → (results fn tmps).run P W = .ok v W ∧ R (.returned v) W) (ds : List Nat) (w : World) (hm : MarksAt b w ds) (hz : Z w) : LeavesInM F n P fn tmps R (marks ds) .returning w := by
  induction ds generalizing w with
  | nil =>
    obtain ⟨h1, h2⟩ := hR w hz
    exact ⟨_, h1, h2⟩
  | cons d ds ih =>
    obtain ⟨hd, hk⟩ := hm.2 d (by simp)
    have hn := (List.nodup_cons.1 hm.1)
    refine ⟨by simp, .inl ⟨d, _, rfl, run_takeDeferred hk, ih _ ⟨hn.2, fun e he => ?_⟩ (hZ w d hd hk hz)⟩⟩
    have := hm.2 e (by simp [he])
    exact ⟨this.1, (World.putObj_heap_other (fun h => hn.1 (by first | (rw [h]; exact he) | (rw [← h]; exact he)))).trans this.2⟩
def nth : List Value → Nat → Value
  | [], _ => undef
  | x :: _, 0 => x
  | _ :: l, k + 1 => nth l k
/-- Amid the rounds. -/
def Out (w0 : World) (pb : Nat) (R : List Issue) (D : List Int) (a : Act) (wr : World) : Prop :=
  ∃ (u : Nat → Value) (ds : List Nat) (r : Nat), a = { tmps := #[.pointer (some ⟨pb, 0, none⟩), (u 1), (u 2), (u 3), .pointer (some ⟨w0.heap.size + 1, 0, none⟩), .pointer (some ⟨w0.heap.size + 1 + 1 + 1, 0, none⟩), (u 6), (u 7), (u 8), (u 9), (u 10), (u 11), (u 12), (u 13), (u 14), (u 15), (u 16), (u 17), (u 18), (u 19), (u 20), (u 21), (u 22), (u 23), (u 24), (u 25), (u 26), (u 27), (u 28), (u 29), (u 30), (u 31), (u 32), .int .i64 D.length, .int .i64 r, (u 35), (u 36), (u 37), (u 38), (u 39), (u 40), (u 41), (u 42), (u 43), (u 44), (u 45), (u 46), (u 47), (u 48), (u 49), (u 50), (u 51), (u 52), (u 53), (u 54), (u 55), (u 56), (u 57), (u 58), (u 59), (u 60), (u 61), (u 62), (u 63), (u 64), (u 65), (u 66), (u 67), (u 68), (u 69), (u 70), (u 71), (u 72), (u 73), (u 74), (u 75), (u 76), (u 77), (u 78), (u 79), (u 80), (u 81), (u 82), (u 83), (u 84), (u 85), (u 86)], defers := marks ds } ∧
    r ≤ D.length ∧ St w0 wr (D.length + r * D.length) (stD R D r) ∧ MarksAt (w0.heap.size + 4) wr ds
theorem Out.of {w0 : World} {pb : Nat} {R : List Issue} {D : List Int} {wr : World} (l : List Value) (ds : List Nat) (r : Nat) (hl : l.toArray = #[.pointer (some ⟨pb, 0, none⟩), ((nth l) 1), ((nth l) 2), ((nth l) 3), .pointer (some ⟨w0.heap.size + 1, 0, none⟩), .pointer (some ⟨w0.heap.size + 1 + 1 + 1, 0, none⟩), ((nth l) 6), ((nth l) 7), ((nth l) 8), ((nth l) 9), ((nth l) 10), ((nth l) 11), ((nth l) 12), ((nth l) 13), ((nth l) 14), ((nth l) 15), ((nth l) 16), ((nth l) 17), ((nth l) 18), ((nth l) 19), ((nth l) 20), ((nth l) 21), ((nth l) 22), ((nth l) 23), ((nth l) 24), ((nth l) 25), ((nth l) 26), ((nth l) 27), ((nth l) 28), ((nth l) 29), ((nth l) 30), ((nth l) 31), ((nth l) 32), .int .i64 D.length, .int .i64 r, ((nth l) 35), ((nth l) 36), ((nth l) 37), ((nth l) 38), ((nth l) 39), ((nth l) 40), ((nth l) 41), ((nth l) 42), ((nth l) 43), ((nth l) 44), ((nth l) 45), ((nth l) 46), ((nth l) 47), ((nth l) 48), ((nth l) 49), ((nth l) 50), ((nth l) 51), ((nth l) 52), ((nth l) 53), ((nth l) 54), ((nth l) 55), ((nth l) 56), ((nth l) 57), ((nth l) 58), ((nth l) 59), ((nth l) 60), ((nth l) 61), ((nth l) 62), ((nth l) 63), ((nth l) 64), ((nth l) 65), ((nth l) 66), ((nth l) 67), ((nth l) 68), ((nth l) 69), ((nth l) 70), ((nth l) 71), ((nth l) 72), ((nth l) 73), ((nth l) 74), ((nth l) 75), ((nth l) 76), ((nth l) 77), ((nth l) 78), ((nth l) 79), ((nth l) 80), ((nth l) 81), ((nth l) 82), ((nth l) 83), ((nth l) 84), ((nth l) 85), ((nth l) 86)])
    (h1 : r ≤ D.length) (h2 : St w0 wr (D.length + r * D.length) (stD R D r)) (h3 : MarksAt (w0.heap.size + 4) wr ds) : Out w0 pb R D { tmps := l.toArray, defers := marks ds } wr :=
  ⟨nth l, ds, r, by rw [← hl], h1, h2, h3⟩
/-- Amid a round's drawings. -/
def Inn (w0 : World) (pb : Nat) (R : List Issue) (D : List Int) (ad : Option Addr) (cd r : Nat) (a : Act) (wr : World) : Prop :=
  ∃ (u : Nat → Value) (ds : List Nat) (i : Nat), a = { tmps := #[.pointer (some ⟨pb, 0, none⟩), (u 1), (u 2), (u 3), .pointer (some ⟨w0.heap.size + 1, 0, none⟩), .pointer (some ⟨w0.heap.size + 1 + 1 + 1, 0, none⟩), (u 6), (u 7), (u 8), (u 9), (u 10), (u 11), (u 12), (u 13), (u 14), (u 15), (u 16), (u 17), (u 18), (u 19), (u 20), (u 21), (u 22), (u 23), (u 24), (u 25), (u 26), (u 27), (u 28), (u 29), (u 30), (u 31), (u 32), .int .i64 D.length, .int .i64 r, (u 35), (u 36), (u 37), (u 38), .slice ad D.length cd, .int .i64 D.length, .int .i64 i, (u 42), (u 43), (u 44), (u 45), (u 46), (u 47), (u 48), (u 49), (u 50), (u 51), (u 52), (u 53), (u 54), (u 55), (u 56), (u 57), (u 58), (u 59), (u 60), (u 61), (u 62), (u 63), (u 64), (u 65), (u 66), (u 67), (u 68), (u 69), (u 70), (u 71), (u 72), (u 73), (u 74), (u 75), (u 76), (u 77), (u 78), (u 79), (u 80), (u 81), (u 82), (u 83), (u 84), (u 85), (u 86)], defers := marks ds } ∧
    i ≤ D.length ∧ St w0 wr (D.length + r * D.length + i) (stI R D r i) ∧ MarksAt (w0.heap.size + 4) wr ds
theorem Inn.of {w0 : World} {pb : Nat} {R : List Issue} {D : List Int} {ad : Option Addr} {cd r : Nat} {wr : World} (l : List Value) (ds : List Nat) (i : Nat) (hl : l.toArray = #[.pointer (some ⟨pb, 0, none⟩), ((nth l) 1), ((nth l) 2), ((nth l) 3), .pointer (some ⟨w0.heap.size + 1, 0, none⟩), .pointer (some ⟨w0.heap.size + 1 + 1 + 1, 0, none⟩), ((nth l) 6), ((nth l) 7), ((nth l) 8), ((nth l) 9), ((nth l) 10), ((nth l) 11), ((nth l) 12), ((nth l) 13), ((nth l) 14), ((nth l) 15), ((nth l) 16), ((nth l) 17), ((nth l) 18), ((nth l) 19), ((nth l) 20), ((nth l) 21), ((nth l) 22), ((nth l) 23), ((nth l) 24), ((nth l) 25), ((nth l) 26), ((nth l) 27), ((nth l) 28), ((nth l) 29), ((nth l) 30), ((nth l) 31), ((nth l) 32), .int .i64 D.length, .int .i64 r, ((nth l) 35), ((nth l) 36), ((nth l) 37), ((nth l) 38), .slice ad D.length cd, .int .i64 D.length, .int .i64 i, ((nth l) 42), ((nth l) 43), ((nth l) 44), ((nth l) 45), ((nth l) 46), ((nth l) 47), ((nth l) 48), ((nth l) 49), ((nth l) 50), ((nth l) 51), ((nth l) 52), ((nth l) 53), ((nth l) 54), ((nth l) 55), ((nth l) 56), ((nth l) 57), ((nth l) 58), ((nth l) 59), ((nth l) 60), ((nth l) 61), ((nth l) 62), ((nth l) 63), ((nth l) 64), ((nth l) 65), ((nth l) 66), ((nth l) 67), ((nth l) 68), ((nth l) 69), ((nth l) 70), ((nth l) 71), ((nth l) 72), ((nth l) 73), ((nth l) 74), ((nth l) 75), ((nth l) 76), ((nth l) 77), ((nth l) 78), ((nth l) 79), ((nth l) 80), ((nth l) 81), ((nth l) 82), ((nth l) 83), ((nth l) 84), ((nth l) 85), ((nth l) 86)])
    (h1 : i ≤ D.length) (h2 : St w0 wr (D.length + r * D.length + i) (stI R D r i)) (h3 : MarksAt (w0.heap.size + 4) wr ds) : Inn w0 pb R D ad cd r { tmps := l.toArray, defers := marks ds } wr :=
  ⟨nth l, ds, i, by rw [← hl], h1, h2, h3⟩

/-- A new box. -/
def NewBox (base : Nat) (t : TypeId) (v0 : Value) (v : Value) (w : World) : Prop := ∃ b, v = .pointer (some ⟨b, 0, none⟩) ∧ base ≤ b ∧ Boxed w b t v0
theorem newBox_stays (base : Nat) (t : TypeId) (v0 : Value) : StaysV (NewBox base t v0) := fun _ _ _ hb ⟨b, h1, h2, h3⟩ => ⟨b, h1, h2, Boxed.same2 h3 (hb.block b h3.lt)⟩
theorem set_self {w : World} {b : Nat} {t : TypeId} {v : Value} (h : Boxed w b t v) : w.setCell ⟨b, 0, none⟩ v = w := by
  obtain ⟨hlt, hk⟩ := Array.getElem?_eq_some_iff.1 (show w.heap[b]? = _ from h)
  have e : (w.setCell ⟨b, 0, none⟩ v).heap = w.heap := by
    apply Array.ext_getElem?
    intro j
    by_cases hj : j = b
    · subst hj
      exact (h.set v).trans (show w.heap[j]? = _ from h).symm
    · exact Below.heap_setCell w ⟨b, 0, none⟩ v j hj
  have e2 : w.setCell ⟨b, 0, none⟩ v = { w with heap := (w.setCell ⟨b, 0, none⟩ v).heap } := rfl
  rw [e2, e]

theorem max_if (a b : Int) : max a b = if a < b then b else a := by split <;> omega
theorem round_two {w W wr : World} {K B10 B11 b3 b6 : Nat} {s : List Int × (Int → Option Int)} {t t' : TypeId} {u u' v m : Value} {ds : List Nat} {o : Obj} (h : St w wr K s ∧ MarksAt (w.heap.size + 4) wr ds ∧ KeepsFrom b6 W wr ∧ KpB w.heap.size b3 W wr) (h10 : Boxed wr B10 t u) (h11 : Boxed wr B11 t' u')
    (hl10 : w.heap.size + 4 ≤ B10) (hl11 : w.heap.size + 4 ≤ B11) (hne : B10 ≠ B11) (h30 : b3 ≠ B10) (h31 : b3 ≠ B11) (W' : World) (e : W' = ((wr.setCell ⟨B11, 0, none⟩ v).setCell ⟨B10, 0, none⟩ m).alloc o) :
    Boxed W' B10 t m ∧ Boxed W' B11 t' v ∧ St w W' K s ∧ MarksAt (w.heap.size + 4) W' ds ∧ KeepsFrom b6 W W' ∧ KpB w.heap.size b3 W W' := by
  subst e
  obtain ⟨h1, h2, h3, h4⟩ := h
  have ks : KeepsOthers wr (((wr.setCell ⟨B11, 0, none⟩ v).setCell ⟨B10, 0, none⟩ m).alloc o) := ((KeepsOthers.setCell _ _ _).trans (KeepsOthers.setCell _ _ _)).trans (KeepsOthers.alloc _ _)
  have hs2 := (h1.set (j := 0) hl11 v).set (j := 0) hl10 m
  refine ⟨((h10.other hne v).set m).alloc o, ((h11.set v).other hne.symm m).alloc o, hs2.ext (below_alloc _ _), h2.keeps (ks.from _), h3.trans (ks.from _), kpB_t (kpB_t (kpB_t h4 (kpB_set (by omega) h31 v)) (kpB_set (by omega) h30 m)) (kpB_alloc hs2.below.size o)⟩

set_option maxRecDepth 100000 in
set_option maxHeartbeats 6400000 in
theorem depths_iss (w : World) (pb : Nat) (vr vd : Value) (R : List Issue) (D : List Int) (hB : BookAt w pb vr vd R D) (hs : MountR R) (hlen : R.length ≤ 100) (hne : R ≠ []) (hD : D.Nodup) (hDl : D.length ≤ 20) :
    Calls Tryz.prog 80 #[.pointer (some ⟨pb, 0, none⟩)] w fun e w' =>
      (∃ b m, e = .returned (.tuple #[.map (some b), .bool (decide (0 < (stD R D D.length).1.length))]) ∧ m ≤ 1000 ∧ MapI w' b m (stD R D D.length).2) ∧ Below w.heap.size w w' := by
  have hmm := @run_makeMap Tryz.prog
  have hc1 := hB.c1
  have hdr := hB.dr
  obtain ⟨ad, cd, rfl, _⟩ := sl_shape hdr
  unfold Cell at hc1
  refine (callsIn_wide (n := 3)).1 ?_
  refine callsIn_of_wp_marks Tryz.func80 rfl trivial ?_ rfl
  simp only [Tryz.ntmps80, List.size_toArray, List.length_cons, List.length_nil, Nat.reduceAdd, Nat.reduceSub, Array.replicate_succ, Array.replicate_zero, List.push_toArray, List.append_toArray, List.nil_append, List.cons_append]
  have hpl := cell_lt hB.c1
  have HB := Lib.hid hB
  have HDR := Lib.hid (sl_at hdr).2
  have HND := Lib.hid hD
  have hsub := hdr
  clear hdr hB hD
  have m1 := mapI_made w
  have m2 := mapB_made ((w.alloc (.map #[] 0)).alloc (.cells #[.map (some w.heap.size)] 141))
  have b1 := ((Boxed.new (w.alloc (.map #[] 0)) 141 (.map (some w.heap.size))).alloc (.map #[] 0)).alloc (.cells #[.map (some (w.heap.size + 1 + 1))] 162)
  have b2 := Boxed.new (((w.alloc (.map #[] 0)).alloc (.cells #[.map (some w.heap.size)] 141)).alloc (.map #[] 0)) 162 (.map (some (w.heap.size + 1 + 1)))
  have hb := (((Below.refl w.heap.size w).alloc (Nat.le_refl _) (.map #[] 0)).alloc (by simp) (.cells #[.map (some w.heap.size)] 141)).alloc (by simp; omega) (.map #[] 0) |>.alloc (by simp; omega) (.cells #[.map (some (w.heap.size + 1 + 1))] 162)
  simp only [World.size_alloc] at m2 b1 b2
  have m1 := ((MapI.alloc m1 (.cells #[.map (some w.heap.size)] 141)).alloc (.map #[] 0)).alloc (.cells #[.map (some (w.heap.size + 1 + 1))] 162)
  have m2 := MapB.alloc m2 (.cells #[.map (some (w.heap.size + 1 + 1))] 162)
  have hc4 := cell_ext hb HB.out.c1
  unfold Cell at hc4
  gi_wp2
  clear hc4
  gi_loopw [22] (fun i wr => ∃ k : Nat, i = .int .i64 k ∧ k ≤ D.length ∧ St w wr k (D.take k, fun _ => none)) (fun i _ => D.length - (intOf i).toNat)
  case atStart => exact ⟨0, rfl, Nat.zero_le _, hb, b1, b2, ⟨0, Nat.le_refl _, m1⟩, ⟨0, Nat.le_refl _, m2⟩⟩
  case round =>
    obtain ⟨k, rfl, hk, hst⟩ := hrel
    clear m1 m2 b1 b2 hb hc1
    have hpc := cell_ext hst.below HB.out.c1
    have cl := hst.lbox.cell
    by_cases hlt : k < D.length
    · obtain ⟨b, off, rfl, hc, hx⟩ := HDR.out k hlt
      have hc := cell_ext hst.below hc
      have hnot : D[k] ∉ D.take k := by
        intro h
        obtain ⟨j, hj, e⟩ := List.getElem_of_mem h
        rw [List.length_take] at hj
        rw [List.getElem_take] at e
        have := (List.getElem_inj HND.out).1 e
        omega
      have htk : D.take (k + 1) = D.take k ++ [D[k]] := List.take_succ_eq_append_getElem hlt
      obtain ⟨m, hm, hM⟩ := hst.lm
      obtain ⟨w', hr, hM', hg⟩ := mapB_put hM hx hnot (by have : (20 : Nat) < maxLen := by decide
                                                          omega)
      rw [← htk] at hM'
      have hst' : St w w' (k + 1) (D.take (k + 1), fun _ => none) := by
        obtain ⟨h1, h2, h3, ⟨q, hq, h4⟩, -⟩ := hst
        refine ⟨h1.grown hg h1.size (fun r e => by cases e; omega), Boxed.same2 h2 (hg.block _ h2.lt (by simp)), Boxed.same2 h3 (hg.block _ h3.lt (by simp)), ⟨q, by omega, h4.same (hg.block _ h4.lt (by simp; omega))⟩, ⟨m + 1, by omega, hM'⟩⟩
      have HST := Lib.hid hst'
      clear hst' hM' hM hg htk hnot
      unfold Cell at hc hpc
      rw [Nat.mul_one] at hc
      generalize D[k] = x at *
      gi_wp2
      go_roundw
      case rel => exact ⟨k + 1, by go_num, by omega, HST.out⟩
      case measure => simp [intOf]; omega
    · have hk' : k = D.length := by omega
      subst hk'
      rw [List.take_length] at hst
      have HST : Hid (St w wr D.length (stD R D 0)) := hst
      unfold Cell at hpc
      gi_wp2
      clear hpc cl hst
      refine wpIn_loop (Out w pb R D) (fun a _ => D.length - (intOf (a.tmps.getD 34 undef)).toNat) (Out.of _ [] 0 rfl (Nat.zero_le _) (by simpa using HST.out) ⟨List.nodup_nil, fun _ h => by cases h⟩) ?_
      rintro a wr2 ⟨u, ds, r, rfl, hr, hst, hmk⟩
      have hpc := cell_ext hst.below HB.out.c1
      unfold Cell at hpc
      by_cases hlt2 : r < D.length
      · gi_wp2
        clear hpc
        refine wpIn_loop (Inn w pb R D ad cd r) (fun a _ => D.length - (intOf (a.tmps.getD 41 undef)).toNat) (Inn.of _ ds 0 rfl (Nat.zero_le _) hst hmk) ?_
        clear hst hmk HST
        rintro a wr3 ⟨u, ds, i, rfl, hi, hst, hmk⟩
        have hpc := cell_ext hst.below HB.out.c1
        have cl := hst.lbox.cell
        unfold Cell at hpc
        by_cases hlt3 : i < D.length
        · obtain ⟨b, off, rfl, hc, hx⟩ := HDR.out i hlt3
          have hc := cell_ext hst.below hc
          obtain ⟨hsi⟩ : Nonempty (stI R D r (i + 1) = stepD R (stI R D r i) D[i]) := ⟨stI_succ R D r i hlt3⟩
          have hsane := sane_stI R D HND.out r i
          unfold Cell at hc
          rw [Nat.mul_one] at hc
          generalize hn : D[i] = n at *
          generalize hsn : stI R D r i = s at *
          have LL : ∀ xq, (Instr.lookup 162 (.map (some (w.heap.size + 1 + 1))) (.int .i64 n) false).run Tryz.prog (wr3.later xq) = .ok (.bool (decide (n ∈ s.1))) (wr3.later xq) := fun xq => by
            obtain ⟨m, _, hM⟩ := hst.lm
            exact mapB_look (hM.same ((below_later wr3 xq).block _ hM.lt)) hx
          have k0 := fun xq => (hst.ext (below_later wr3 xq)).lbox.cell
          gi_wp2
          refine wpIn_wide.2 ?_
          refine wp_region_grow_all 6 (by kernel_rfl) (by kernel_rfl) ?_
          simp only [List.take_succ_cons, List.take_zero]
          refine growAll_exact ?_; apply Exists.intro; refine ⟨fun vs xq hd => ?_, ?_⟩; focus ((try simp [Oper.waitsOn, Region.binds, List.filter_cons, List.filter_nil, factAt, depsHold] at hd); simp only [putsFrom, Act.put, List.setIfInBounds_toArray, List.set_cons_succ, List.set_cons_zero]; go_simp; first | exact ⟨Below.refl _ _, rfl⟩ | exact rfl)
          refine growAll_exact ?_; apply Exists.intro; refine ⟨fun vs xq hd => ?_, ?_⟩; focus ((try simp [Oper.waitsOn, Region.binds, List.filter_cons, List.filter_nil, factAt, depsHold] at hd); simp only [putsFrom, Act.put, List.setIfInBounds_toArray, List.set_cons_succ, List.set_cons_zero]; go_simp; first | exact ⟨Below.refl _ _, rfl⟩ | exact rfl)
          refine growAll_exact ?_; apply Exists.intro; refine ⟨fun vs xq hd => ?_, ?_⟩; focus ((try simp [Oper.waitsOn, Region.binds, List.filter_cons, List.filter_nil, factAt, depsHold] at hd); simp only [putsFrom, Act.put, List.setIfInBounds_toArray, List.set_cons_succ, List.set_cons_zero]; go_simp; first | exact ⟨Below.refl _ _, rfl⟩ | exact rfl)
          refine growAll_step (NewBox wr3.heap.size 3 (.int .i64 0)) (newBox_stays _ _ _) ?_ ?_
          · intro vs xq hd
            (try simp [Oper.waitsOn, Region.binds, List.filter_cons, List.filter_nil, factAt, depsHold] at hd)
            simp only [putsFrom, Act.put, List.setIfInBounds_toArray, List.set_cons_succ, List.set_cons_zero]
            go_simp
            exact ⟨below_alloc _ _, _, rfl, (below_later wr3 xq).size, Boxed.new _ _ _⟩
          refine growAll_step (NewBox wr3.heap.size 4 (.bool false)) (newBox_stays _ _ _) ?_ ?_
          · intro vs xq hd
            (try simp [Oper.waitsOn, Region.binds, List.filter_cons, List.filter_nil, factAt, depsHold] at hd)
            simp only [putsFrom, Act.put, List.setIfInBounds_toArray, List.set_cons_succ, List.set_cons_zero]
            go_simp
            exact ⟨below_alloc _ _, _, rfl, (below_later wr3 xq).size, Boxed.new _ _ _⟩
          refine growAll_step (fun _ _ => True) (fun _ _ _ _ h => h) ?_ ?_
          · intro vs xq hd
            (try simp [Oper.waitsOn, Region.binds, List.filter_cons, List.filter_nil, factAt, depsHold] at hd)
            simp only [putsFrom, Act.put, List.setIfInBounds_toArray, List.set_cons_succ, List.set_cons_zero]
            obtain ⟨⟨b3, e, hb3, hx3⟩, -⟩ := hd
            have c3 := hx3.cell
            have f3 := hx3.frozen
            have e3 := set_self hx3
            simp only [e]
            go_simp
            exact Below.refl _ _
          refine growAll_done rfl (fun vs xq hd => ?_)
          simp [depsHold, factAt, List.range, List.range.loop] at hd
          simp only [putsFrom, Act.put, List.setIfInBounds_toArray, List.set_cons_succ, List.set_cons_zero, List.drop_succ_cons, List.drop_zero]
          obtain ⟨e0, e1, e2, ⟨B10, e3, hb10, x10⟩, ⟨B11, e4, hb11, x11⟩⟩ := hd
          simp only [Nat.zero_add, Nat.reduceAdd] at e3 e4 ⊢
          simp only [e0, e1, e2, e3, e4]
          have c11 := x11.cell
          have f11 := x11.frozen
          have hne : B10 ≠ B11 := by
            intro e
            subst e
            have h1 : (wr3.later xq).heap[B10]? = _ := x10
            rw [show (wr3.later xq).heap[B10]? = _ from x11] at h1
            cases h1
          have hst5 := (hst.ext (below_later wr3 xq)).set (g := B11) (j := 0) (by have := hst.lt; omega) (.bool (decide (n ∈ s.1)))
          have hmk5 := (hmk.ext (below_later wr3 xq)).keeps ((KeepsOthers.setCell (wr3.later xq) ⟨B11, 0, none⟩ (.bool (decide (n ∈ s.1)))).from _)
          have x10 := x10.other (by first | exact hne | exact hne.symm) (.bool (decide (n ∈ s.1)))
          have x11 := x11.set (.bool (decide (n ∈ s.1)))
          go_wp2
          clear c11 f11 cl k0 LL hpc hc
          have hB5 : B10 < ((wr3.later xq).setCell ⟨B11, 0, none⟩ (.bool (decide (n ∈ s.1)))).heap.size ∧ B11 < ((wr3.later xq).setCell ⟨B11, 0, none⟩ (.bool (decide (n ∈ s.1)))).heap.size := ⟨x10.lt, x11.lt⟩
          have hlo : w.heap.size + 4 ≤ B10 ∧ w.heap.size + 4 ≤ B11 := by have := hst.lt; omega
          generalize (wr3.later xq).setCell ⟨B11, 0, none⟩ (.bool (decide (n ∈ s.1))) = W5 at *
          clear hst hmk hb10 hb11 e0 e1 e2 e3 e4
          gi_wp2_with (refine ⟨trivial, ?_⟩; gi_at_call 65; refine (callsIn_wide.2 (issues_val _ _ _)).mono ?_; rintro e w' ⟨rfl, rfl⟩)
          have h2 := two_a W5 (.pointer (some ⟨pb, 0, none⟩)) (.int .i64 n) 98 3 W5.heap.size rfl
          have h3 := two_b W5 (.pointer (some ⟨pb, 0, none⟩)) (.int .i64 n) 98 3 (W5.heap.size + 1) rfl
          have hb6 : Below W5.heap.size W5 ((W5.alloc (.cells #[.pointer (some ⟨pb, 0, none⟩)] 98)).alloc (.cells #[.int .i64 n] 3)) := below_trans (below_alloc _ _) (below_alloc _ _)
          have hsz6 : ((W5.alloc (.cells #[.pointer (some ⟨pb, 0, none⟩)] 98)).alloc (.cells #[.int .i64 n] 3)).heap.size = W5.heap.size + 2 := by simp
          have hst6 := hst5.ext hb6
          have hmk6 := hmk5.ext hb6
          have hml : ∀ d ∈ ds, d < W5.heap.size := fun d hd => hmk5.lt hd
          have x10 := Boxed.same2 x10 (hb6.block _ x10.lt)
          have x11 := Boxed.same2 x11 (hb6.block _ x11.lt)
          generalize (W5.alloc _).alloc _ = W6 at *
          have hl5 := hst5.lt
          clear hst5 hmk5 hb6
          refine wpIn_rangeFunc_ownH (n := 3) rfl (by decide) (gf := 82) (lb := #[.pointer (some ⟨W5.heap.size, 0, none⟩), .pointer (some ⟨W5.heap.size + 1, 0, none⟩)]) rfl trivial (enters_of Tryz.func82 (by kernel_rfl) rfl)
            (issues_stops 2 (by decide) w W6 hst6.below pb W5.heap.size (W5.heap.size + 1) _ _ R D n HB.out h2 h3 hs hlen (by assumption)) kpB_t (kpB_b (by omega)) (Below.refl _ _) (fun _ => rfl)
            (fun pre W => (St w W (D.length + r * D.length + i) s ∧ Boxed W B10 3 (.int .i64 (mostOf s.2 (sonsOf (pre.map (·.x))))) ∧ Boxed W B11 4 (.bool (readyOf s.1 n (sonsOf (pre.map (·.x)))))) ∧ MarksAt (w.heap.size + 4) W ds)
            (fun _ _ _ => False)
            (fun _ A B row hs hg hr => ⟨⟨hs.1.1.kept hg (fun q e => by have := (hr q e).1; omega), Boxed.keptN hs.1.2.1 hg (fun r e => (hr r e).2), Boxed.keptN hs.1.2.2 hg (fun r e => (hr r e).2)⟩, MarksAt.kept hs.2 hg (fun d hd e => by have h1 := (hr d e.symm).1; have h2 := hml d hd; omega)⟩)
            (fun _ _ _ _ _ hs _ _ => hs)
            ⟨⟨hst6, x10, by simpa [sonsOf, readyOf] using x11⟩, hmk6⟩
            (fun x a' W => ∃ Bx, B10 < Bx ∧ Lay W Bx #[.int .i64 x.x.d, .int .i64 x.x.l, .int .u8 x.x.k, .slice x.ai x.x.items.length x.ci, .slice x.ad x.x.dims.length x.cd] 46 ∧ a' = { tmps := #[.pointer (some ⟨pb, 0, none⟩), (u 1), (u 2), (u 3), .pointer (some ⟨w.heap.size + 1, 0, none⟩), .pointer (some ⟨w.heap.size + 1 + 1 + 1, 0, none⟩), (u 6), (u 7), (u 8), .int .i64 n, .pointer (some ⟨B10, 0, none⟩), .pointer (some ⟨B11, 0, none⟩), .pointer (some ⟨Bx, 0, none⟩), (u 13), (u 14), (u 15), (u 16), (u 17), (u 18), (u 19), (u 20), (u 21), (u 22), (u 23), (u 24), (u 25), (u 26), (u 27), (u 28), (u 29), (u 30), (u 31), (u 32), .int .i64 D.length, .int .i64 r, (u 35), (u 36), (u 37), (u 38), .slice (some ⟨b, off, none⟩) D.length cd, .int .i64 D.length, .int .i64 i, .bool true, .pointer (some ⟨b, off + i, none⟩), .int .i64 n, .map (some (w.heap.size + 1 + 1)), .int .i64 n, .bool (decide (n ∈ s.1)), .pointer (some ⟨pb, 0, none⟩), .int .i64 n, .func (.func 82) #[] #[.pointer (some ⟨W5.heap.size, 0, none⟩), .pointer (some ⟨W5.heap.size + 1, 0, none⟩)], x.enc, (u 52), (u 53), (u 54), (u 55), (u 56), (u 57), (u 58), (u 59), (u 60), (u 61), (u 62), (u 63), (u 64), (u 65), (u 66), (u 67), (u 68), (u 69), (u 70), (u 71), (u 72), (u 73), (u 74), (u 75), (u 76), (u 77), (u 78), (u 79), (u 80), (u 81), (u 82), (u 83), (u 84), (u 85), (u 86)], defers := [] })
            (fun x a' _ X Y row hs hg hr => by obtain ⟨Bx, h1, h2, h3⟩ := hs; exact ⟨Bx, h1, h2.keptN hg (fun r e => (hr r e).2), h3⟩)
            ?assign ?body ?done ?stop
          case assign =>
            rintro l0 pre x W K ⟨⟨hstW, y10, y11⟩, hmkW⟩ hK
            have hbn := below_alloc W (.cells #[.int .i64 x.x.d, .int .i64 x.x.l, .int .u8 x.x.k, .slice x.ai x.x.items.length x.ci, .slice x.ad x.x.dims.length x.cd] 46)
            simp [List.zip_toArray]
            have hK' := hK _ _ (keeps_below hbn |>.from _) (kpB_alloc hstW.below.size _) ⟨⟨hstW.ext hbn, Boxed.same2 y10 (hbn.block _ y10.lt), Boxed.same2 y11 (hbn.block _ y11.lt)⟩, hmkW.ext hbn⟩ ⟨W.heap.size, y10.lt, Lay.new W _ _, rfl⟩
            clear hK
            unfold Iss.enc at hK' ⊢
            gi_wp2
            exact hK'
          case body =>
            rintro l0 pre ⟨x, ai, ci, aj, cj, hlies⟩ a' W hl ⟨rr, hrr⟩ ⟨⟨hstW, y10, y11⟩, hmkW⟩ ⟨Bx, hBx, bX, rfl⟩ hlt
            have cX3 := bX.cell 3 _ rfl
            have HST := Lib.hid hstW
            have HMK := Lib.hid hmkW
            have hl4 := hstW.lt
            have hHI := Lib.hid (sl_at hlies.items).2
            have hil : x.items.length ≤ 9223372036854775807 := by obtain ⟨_, _, _, h, _⟩ := hlies.items; exact h
            clear hrr hmkW hmk6 hst6 x10 x11 h2 h3 hs hlen hsub
            gi_wp2
            clear cX3 bX hstW
            gi_loopw [55] (fun v4 wr4 => ∃ j : Nat, v4 = .int .i64 j ∧ j ≤ x.items.length ∧ Boxed wr4 B10 3 (.int .i64 (mostOf s.2 (sonsOf (pre.map (·.x)) ++ (x.items.take j).map (·.d)))) ∧ Boxed wr4 B11 4 (.bool (readyOf s.1 n (sonsOf (pre.map (·.x)) ++ (x.items.take j).map (·.d)))) ∧ Hid (St w wr4 (D.length + r * D.length + i) s ∧ MarksAt (w.heap.size + 4) wr4 ds ∧ KeepsFrom W6.heap.size W wr4 ∧ KpB w.heap.size (W5.heap.size + 1) W wr4)) (fun v4 _ => x.items.length - (intOf v4).toNat)
            case atStart => exact ⟨0, rfl, Nat.zero_le _, by simpa using y10, by simpa using y11, Lib.hid ⟨HST.out, HMK.out, KeepsFrom.refl _ _, kpB_refl _ _ _⟩⟩
            case round =>
              obtain ⟨j, rfl, hj, z10, z11, HH⟩ := hrel
              clear y10 y11
              by_cases hlt5 : j < x.items.length
              · obtain ⟨b5, off5, rfl, ⟨q0, q1⟩, hnum⟩ := hHI.out j hlt5
                have hst4 := HH.out.1
                have q0 := cell_ext hst4.below q0
                have q1 := cell_ext hst4.below q1
                have l5 := cell_lt q0
                have cl := hst4.lbox.cell
                have dl := hst4.dbox.cell
                have l10 := z10.lt
                have l11 := z11.lt
                have ll1 := hst4.lbox.lt
                have ll2 := hst4.dbox.lt
                have f10 := z10.frozen
                have f11 := z11.frozen
                have htk : (x.items.take (j + 1)).map (·.d) = (x.items.take j).map (·.d) ++ [x.items[j].d] := by rw [List.take_succ_eq_append_getElem hlt5, List.map_append]; rfl
                have hmo := Lib.hid (show mostOf s.2 (sonsOf (pre.map (·.x)) ++ (x.items.take (j + 1)).map (·.d)) = max (mostOf s.2 (sonsOf (pre.map (·.x)) ++ (x.items.take j).map (·.d))) ((s.2 x.items[j].d).getD 0) by rw [htk, ← List.append_assoc, mostOf_snoc])
                have hre := Lib.hid (show readyOf s.1 n (sonsOf (pre.map (·.x)) ++ (x.items.take (j + 1)).map (·.d)) = (readyOf s.1 n (sonsOf (pre.map (·.x)) ++ (x.items.take j).map (·.d)) && !decide (x.items[j].d ∈ s.1)) by rw [htk, ← List.append_assoc, readyOf_snoc])
                clear htk
                generalize x.items[j] = y at *
                generalize hlr : readyOf s.1 n (sonsOf (pre.map (·.x)) ++ (x.items.take j).map (·.d)) = rb at *
                generalize hlm : mostOf s.2 (sonsOf (pre.map (·.x)) ++ (x.items.take j).map (·.d)) = mm at *
                clear hlr hlm
                have LA : (Instr.lookup 162 (.map (some (w.heap.size + 1 + 1))) (.int .i64 y.d) false).run Tryz.prog (wr.alloc (.cells #[.int .i64 y.d, .int .i64 y.c] 48)) = .ok (.bool (decide (y.d ∈ s.1))) (wr.alloc (.cells #[.int .i64 y.d, .int .i64 y.c] 48)) := by
                  obtain ⟨m, _, hM⟩ := hst4.lm
                  exact mapB_look (hM.alloc _) hnum.1
                have LB : ∀ v, (Instr.lookup 141 (.map (some w.heap.size)) (.int .i64 y.d) false).run Tryz.prog ((wr.setCell ⟨B11, 0, none⟩ v).alloc (.cells #[.int .i64 y.d, .int .i64 y.c] 48)) = .ok (.int .i64 ((s.2 y.d).getD 0)) ((wr.setCell ⟨B11, 0, none⟩ v).alloc (.cells #[.int .i64 y.d, .int .i64 y.c] 48)) := fun v => by
                  obtain ⟨m, _, hM⟩ := hst4.dm
                  exact mapI_look (MapI.alloc (hM.same (Below.heap_setCell wr ⟨B11, 0, none⟩ v _ (by show w.heap.size ≠ B11; omega))) _) hnum.1
                have c10 := z10.cell
                have c11 := z11.cell
                unfold Cell at q0 q1
                have ZZ := Lib.hid (And.intro z10 z11)
                clear z10 z11 hst4
                cases rb with
                | true =>
                  gi_wp2
                  have HR := round_two (v := .bool (!decide (y.d ∈ s.1))) (m := .int .i64 (if mm < (s.2 y.d).getD 0 then (s.2 y.d).getD 0 else mm)) (o := .cells #[.int .i64 y.d, .int .i64 y.c] 48) HH.out ZZ.out.1 ZZ.out.2 hlo.1 hlo.2 (by assumption) (by omega) (by omega) _ rfl
                  go_roundw
                  case rel => exact ⟨j + 1, by go_num, by omega, by rw [hmo.out, max_if]; exact HR.1, by rw [hre.out]; exact HR.2.1, Lib.hid HR.2.2⟩
                  case measure => simp [intOf]; omega
                | false =>
                  gi_wp2
                  have HR := round_two (v := .bool (false)) (m := .int .i64 (if mm < (s.2 y.d).getD 0 then (s.2 y.d).getD 0 else mm)) (o := .cells #[.int .i64 y.d, .int .i64 y.c] 48) HH.out ZZ.out.1 ZZ.out.2 hlo.1 hlo.2 (by assumption) (by omega) (by omega) _ rfl
                  go_roundw
                  case rel => exact ⟨j + 1, by go_num, by omega, by rw [hmo.out, max_if]; exact HR.1, by rw [hre.out]; exact HR.2.1, Lib.hid HR.2.2⟩
                  case measure => simp [intOf]; omega
              · have hje : j = x.items.length := by omega
                subst hje
                rw [List.take_length] at z10 z11
                gi_wp2
                have hsn : sonsOf ((pre ++ [(⟨x, ai, ci, aj, cj, hlies⟩ : Iss w)]).map (·.x)) = sonsOf (pre.map (·.x)) ++ x.items.map (·.d) := by simp [sonsOf]
                exact ⟨HH.out.2.2.1, HH.out.2.2.2, ⟨⟨HH.out.1, by rw [hsn]; exact z10, by rw [hsn]; exact z11⟩, HH.out.2.1⟩⟩
          case done =>
            rintro Dm ys W hDm hS ⟨⟨hstW, y10, y11⟩, hmkW⟩ hK
            rw [hS] at y10 y11
            have hbd := mostOf_bd s.2 ((D.length : Int) - s.1.length) (by have := hsane.len; omega) (fun y c hc => by have := hsane.bd y c hc; omega) (sonsOf (issuesOf R n))
            have hml64 : (1000 : Nat) < maxLen := by decide
            have hKb : D.length + r * D.length + i < 1000 := by
              have : r * D.length ≤ 20 * 20 := Nat.mul_le_mul (by omega) hDl
              omega
            have hstep : stepD R s n = if readyOf s.1 n (sonsOf (issuesOf R n)) = true then (s.1.erase n, fun y => if y = n then some (mostOf s.2 (sonsOf (issuesOf R n)) + 1) else s.2 y) else s := rfl
            have hnd : Dm ∉ ds := fun h => by have := hml _ h; omega
            clear x10 x11 hst6 hmk6 h2 h3 hs hlen hsub
            generalize mostOf s.2 (sonsOf (issuesOf R n)) = mm at *
            have hready : readyOf s.1 n (sonsOf (issuesOf R n)) = true → n ∈ s.1 := fun h => by
              unfold readyOf at h
              rw [Bool.and_eq_true] at h
              exact of_decide_eq_true h.1
            generalize readyOf s.1 n (sonsOf (issuesOf R n)) = rb at *
            have c10 := y10.cell
            have c11 := y11.cell
            have dl := hstW.dbox.cell
            cases rb with
            | true =>
              have hin := hready rfl
              rw [if_pos rfl] at hstep
              have hw1 : IntKind.i64.wrap (mm + 1) = mm + 1 := IntWalk.i64_in _ (by omega)
              obtain ⟨m, hm, hMI⟩ := hstW.dm
              obtain ⟨w7, hr7, hM7, hg7⟩ := mapI_put hMI hx (c := mm + 1) ⟨by omega, by omega⟩ (by omega)
              obtain ⟨m2, hm2, hMB⟩ := hstW.lm
              have hMB7 := hMB.same (hg7.block _ hMB.lt (by simp; omega))
              obtain ⟨w8, hr8, hM8, hg8⟩ := mapB_del hMB7 hx hin 0
              have bl7 := Boxed.same2 hstW.lbox (hg7.block _ hstW.lbox.lt (by simp; omega))
              have bd7 := Boxed.same2 hstW.dbox (hg7.block _ hstW.dbox.lt (by simp))
              have cl7 := bl7.cell
              have hst8 : St w w8 (D.length + r * D.length + (i + 1)) (stepD R s n) := by
                rw [hstep]
                exact ⟨(hstW.below.grown hg7 hstW.below.size (fun q e => by cases e; omega)).grown hg8 (by have := hstW.below.size; have := hg7.size; omega) (fun q e => by cases e; omega), Boxed.same2 bd7 (hg8.block _ bd7.lt (by simp)), Boxed.same2 bl7 (hg8.block _ bl7.lt (by simp)),
                  ⟨m + 1, by omega, hM7.same (hg8.block _ hM7.lt (by simp; omega))⟩, ⟨m2, by omega, hM8⟩⟩
              have hmk8 : MarksAt (w.heap.size + 4) w8 (Dm :: ds) := by
                refine MarksAt.cons ((hmkW.kept hg7 (fun d hd e => by cases e; have := (hmkW.2 _ hd).1; omega)).kept hg8 (fun d hd e => by cases e; have := (hmkW.2 _ hd).1; omega)) (by omega) ?_ hnd
                have hlt := (Array.getElem?_eq_some_iff.1 hK).1
                rw [hg8.block Dm (by have := hg7.size; omega) (by simp; omega), hg7.block Dm hlt (by simp; omega)]
                exact hK
              rw [← hsi] at hst8
              clear hM7 hM8 hMB7 hMI hMB hg7 hg8 bl7 bd7 y10 y11 hstW hmkW hK hstep
              gi_wp2
              refine ⟨Inn.of _ (Dm :: ds) (i + 1) rfl (by omega) hst8 hmk8, ?_⟩
              show D.length - (intOf (.int .i64 ((i : Int) + 1))).toNat < D.length - (intOf (.int .i64 (i : Int))).toNat
              simp [intOf]
              omega
            | false =>
              rw [if_neg (by simp)] at hstep
              have hst8 : St w W (D.length + r * D.length + (i + 1)) (stepD R s n) := by
                rw [hstep]
                obtain ⟨h1, h2, h3, ⟨m, hm, h4⟩, ⟨m', hm', h5⟩⟩ := hstW
                exact ⟨h1, h2, h3, ⟨m, by omega, h4⟩, ⟨m', by omega, h5⟩⟩
              have hmk8 := hmkW.cons (by omega) hK hnd
              rw [← hsi] at hst8
              clear y10 y11 hstW hmkW hK hstep
              gi_wp2
              refine ⟨Inn.of _ (Dm :: ds) (i + 1) rfl (by omega) hst8 hmk8, ?_⟩
              show D.length - (intOf (.int .i64 ((i : Int) + 1))).toNat < D.length - (intOf (.int .i64 (i : Int))).toNat
              simp [intOf]
              omega
          case stop =>
            rintro Dm c pre W _ _ h _
            exact h.elim
        · have hie : i = D.length := by omega
          subst hie
          rw [stI_all R D r _ (Nat.le_refl _)] at hst
          clear hpc cl
          gi_wp2
          refine ⟨Out.of _ ds (r + 1) rfl (by omega) (by rw [Nat.succ_mul, ← Nat.add_assoc]; exact hst) hmk, ?_⟩
          show D.length - (intOf (.int .i64 ((r : Int) + 1))).toNat < D.length - (intOf (.int .i64 (r : Int))).toNat
          simp [intOf]
          omega
      · have hre : r = D.length := by omega
        subst hre
        have cl := hst.lbox.cell
        have dl := hst.dbox.cell
        obtain ⟨m', _, hMB⟩ := hst.lm
        have hln := mapB_len hMB
        gi_wp2
        have hKb : D.length + D.length * D.length ≤ 1000 := by
          have : D.length * D.length ≤ 20 * 20 := Nat.mul_le_mul hDl hDl
          omega
        obtain ⟨hbl, h2, h3, ⟨m, hm, h4⟩, -⟩ := hst
        refine leaves_marks (w.heap.size + 4) (fun W => Below w.heap.size w W ∧ MapI W w.heap.size m (stD R D D.length).2) (fun W d hd hk hz => ⟨hz.1.trans (belowK_b (w := w) (Nat.le_refl _) W d _ _ (by omega) hk rfl rfl), hz.2.same (World.putObj_heap_other (by omega))⟩) (fun W hz => ⟨?_, ⟨⟨_, m, rfl, by omega, hz.2⟩, hz.1⟩⟩) ds wr2 hmk ⟨hbl, h4⟩
        simp [results, Tryz.results80, go_sem]

end Go.Proofs.YtoibnhkiedpkgaaGreatDoor

namespace Go.Proofs.YtoibnhkiedpkgaaGreatDoor

def mostI (f : Int → Int) (a : Int) (l : List Int) : Int := l.foldl (fun m y => max m (f y)) a
theorem mostI_ge (f : Int → Int) (l : List Int) (a : Int) : a ≤ mostI f a l := by
  unfold mostI
  induction l generalizing a with
  | nil => exact Int.le_refl _
  | cons y l ih => rw [List.foldl_cons]; have := ih (max a (f y)); omega
theorem mostI_mem (f : Int → Int) (l : List Int) (a : Int) (y : Int) (h : y ∈ l) : f y ≤ mostI f a l := by
  unfold mostI
  induction l generalizing a with
  | nil => simp at h
  | cons z l ih =>
    rw [List.foldl_cons]
    rcases List.mem_cons.1 h with rfl | h
    · have := mostI_ge f l (max a (f y)); unfold mostI at this; omega
    · exact ih _ h
theorem mostI_app (f : Int → Int) (l l' : List Int) (a : Int) : mostI f a (l ++ l') = mostI f (mostI f a l) l' := by unfold mostI; rw [List.foldl_append]
theorem issFold_most (f : Int → Int) (x : Issue) (m : Nat) (a : Int) (hm : m ≤ x.items.length) : issFold f x m (1 + a) = 1 + mostI f a ((x.items.take m).map (·.d)) := by
  induction m with
  | zero => simp [issFold, mostI]
  | succ m ih =>
    simp only [issFold, List.getElem?_eq_getElem (show m < x.items.length by omega)]
    rw [ih (by omega), List.take_succ_eq_append_getElem (by omega), List.map_append, mostI_app]
    simp only [List.map_cons, List.map_nil]
    unfold mostI
    simp only [List.foldl_cons, List.foldl_nil]
    omega
theorem sonsOf_app (xs ys : List Issue) : sonsOf (xs ++ ys) = sonsOf xs ++ sonsOf ys := by simp [sonsOf]
theorem acc_most (R : List Issue) (f : Int → Int) (n : Int) (k : Nat) (hk : k ≤ R.length) :
    accTo R f k n = if (R.take k).filter (fun x => x.d == n) = [] then 0 else 1 + mostI f 0 (sonsOf ((R.take k).filter (fun x => x.d == n))) := by
  induction k with
  | zero => simp [accTo]
  | succ k ih =>
    have ih := ih (by omega)
    have hlt : k < R.length := by omega
    rw [List.take_succ_eq_append_getElem hlt, List.filter_append]
    simp only [accTo, List.getElem?_eq_getElem hlt]
    by_cases e : n = R[k].d
    · rw [if_pos e]
      have ef : [R[k]].filter (fun x => x.d == n) = [R[k]] := by simp [e]
      rw [ef, if_neg (by simp), sonsOf_app, mostI_app, ← e, ih]
      have es : sonsOf [R[k]] = (R[k].items.take R[k].items.length).map (·.d) := by simp [sonsOf]
      rw [es, ← issFold_most f R[k] _ _ (Nat.le_refl _)]
      congr 1
      split
      · rename_i h0
        rw [h0]
        simp [sonsOf, mostI]
        omega
      · have := mostI_ge f (sonsOf ((R.take k).filter (fun x => x.d == n))) 0
        omega
    · rw [if_neg e, ih]
      have ef : [R[k]].filter (fun x => x.d == n) = [] := by simp; omega
      rw [ef, List.append_nil]
theorem nums_issue (R : List Issue) (n : Int) (h : n ∈ nums R) : issuesOf R n ≠ [] := by
  have key : ∀ k, k ≤ R.length → n ∈ numsTo R k → ∃ x ∈ R, x.d = n := by
    intro k hk hn
    induction k with
    | zero => simp [numsTo] at hn
    | succ k ih =>
      simp only [numsTo] at hn
      rcases List.mem_append.1 hn with h | h
      · exact ih (by omega) h
      · rw [List.getElem?_eq_getElem (by omega)] at h
        simp only at h
        split at h
        · simp at h
        · rw [List.mem_singleton] at h
          exact ⟨R[k], List.getElem_mem _, h.symm⟩
  obtain ⟨x, hx, e⟩ := key _ (Nat.le_refl _) h
  intro h0
  have : x ∈ issuesOf R n := by unfold issuesOf; rw [List.mem_filter]; exact ⟨hx, by simp [e]⟩
  rw [h0] at this
  simp at this
theorem dep_most (R : List Issue) (r : Nat) (n : Int) (h : n ∈ nums R) : dep R (r + 1) n = 1 + mostI (dep R r) 0 (sonsOf (issuesOf R n)) := by
  have := acc_most R (dep R r) n R.length (Nat.le_refl _)
  rw [List.take_length] at this
  show accTo R (dep R r) R.length n = _
  rw [this]
  exact if_neg (nums_issue R n h)

theorem readyOf_iff (L : List Int) (n : Int) (l : List Int) : readyOf L n l = true ↔ n ∈ L ∧ ∀ y ∈ l, y ∉ L := by
  unfold readyOf
  rw [Bool.and_eq_true, decide_eq_true_iff, List.all_eq_true]
  constructor
  · rintro ⟨h1, h2⟩; exact ⟨h1, fun y hy => by simpa using h2 y hy⟩
  · rintro ⟨h1, h2⟩; exact ⟨h1, fun y hy => by simpa using h2 y hy⟩
/-- A state tells the depths of all drawings that are done. -/
structure Tells (R : List Issue) (s : List Int × (Int → Option Int)) : Prop where
  sane : Sane (nums R) s
  dom : ∀ y ∈ nums R, y ∉ s.1 → ∃ c, s.2 y = some c
  of : ∀ y c, s.2 y = some c → y ∈ nums R ∧ ∀ r : Nat, (nums R).length - s.1.length ≤ r → dep R r y = c
theorem tells_start (R : List Issue) (hD : (nums R).Nodup) : Tells R (nums R, fun _ => none) := ⟨sane_start _ hD, fun y h h' => absurd h h', fun _ _ h => by cases h⟩
theorem most_same (f : Int → Option Int) (g : Int → Int) (l : List Int) (h : ∀ y ∈ l, (f y).getD 0 = g y) : mostOf f l = mostI g 0 l := by
  have key : ∀ (l : List Int) (a : Int), (∀ y ∈ l, (f y).getD 0 = g y) → l.foldl (fun m y => max m ((f y).getD 0)) a = l.foldl (fun m y => max m (g y)) a := by
    intro l
    induction l with
    | nil => intro a _; rfl
    | cons y l ih => intro a h; rw [List.foldl_cons, List.foldl_cons, h y (by simp), ih _ (fun z hz => h z (by simp [hz]))]
  exact key l 0 h
theorem tells_step (R : List Issue) (hs : ∀ n, ∀ y ∈ sonsOf (issuesOf R n), y ∈ nums R) (s : List Int × (Int → Option Int)) (n : Int) (h : Tells R s) : Tells R (stepD R s n) := by
  have hsane := sane_step R _ s n h.sane
  by_cases hr : readyOf s.1 n (sonsOf (issuesOf R n)) = true
  · have e : stepD R s n = (s.1.erase n, fun y => if y = n then some (mostOf s.2 (sonsOf (issuesOf R n)) + 1) else s.2 y) := by unfold stepD; rw [if_pos hr]
    rw [e] at hsane ⊢
    obtain ⟨hn, hy⟩ := (readyOf_iff _ _ _).1 hr
    have hl := List.length_erase_of_mem hn
    have hpos : 0 < s.1.length := List.length_pos_of_mem hn
    have hle := h.sane.len
    refine ⟨hsane, fun y hy1 hy2 => ?_, fun y c hc => ?_⟩
    · by_cases ey : y = n
      · exact ⟨_, by simp [ey]; rfl⟩
      · have : y ∉ s.1 := fun h' => hy2 ((h.sane.nodup.mem_erase_iff).2 ⟨ey, h'⟩)
        obtain ⟨c, hc⟩ := h.dom y hy1 this
        exact ⟨c, by simpa [ey] using hc⟩
    · simp only at hc ⊢
      split at hc
      · rename_i ey
        cases hc
        subst ey
        refine ⟨h.sane.sub y hn, fun r hrr => ?_⟩
        obtain ⟨r, rfl⟩ : ∃ q, r = q + 1 := ⟨r - 1, by omega⟩
        rw [dep_most R r y (h.sane.sub y hn), most_same s.2 (dep R r) _ (fun z hz => ?_)]
        · omega
        · obtain ⟨c, hc⟩ := h.dom z (hs y z hz) (hy z hz)
          rw [hc, (h.of z c hc).2 r (by omega)]
          rfl
      · have := h.of y c hc
        exact ⟨this.1, fun r hrr => this.2 r (by omega)⟩
  · have e : stepD R s n = s := by unfold stepD; rw [if_neg hr]
    rw [e]
    exact h
theorem tells_fold (R : List Issue) (hs : ∀ n, ∀ y ∈ sonsOf (issuesOf R n), y ∈ nums R) (l : List Int) (s : List Int × (Int → Option Int)) (h : Tells R s) : Tells R (l.foldl (stepD R) s) := by
  induction l generalizing s with
  | nil => exact h
  | cons n l ih => exact ih _ (tells_step R hs s n h)
theorem tells_st (R : List Issue) (hD : (nums R).Nodup) (hs : ∀ n, ∀ y ∈ sonsOf (issuesOf R n), y ∈ nums R) (r : Nat) : Tells R (stD R (nums R) r) := by
  induction r with
  | zero => exact tells_start R hD
  | succ r ih => exact tells_fold R hs _ _ ih

/-! Rounds that change nothing. -/
theorem step_len (R : List Issue) (s : List Int × (Int → Option Int)) (n : Int) : (stepD R s n).1.length < s.1.length ∨ stepD R s n = s := by
  unfold stepD
  split
  · rename_i hr
    left
    have hn := ((readyOf_iff _ _ _).1 hr).1
    have := List.length_erase_of_mem hn
    have := List.length_pos_of_mem hn
    show (s.1.erase n).length < _
    omega
  · exact .inr rfl
theorem fold_len (R : List Issue) (l : List Int) (s : List Int × (Int → Option Int)) : (l.foldl (stepD R) s).1.length < s.1.length ∨ ((∀ n ∈ l, stepD R s n = s) ∧ l.foldl (stepD R) s = s) := by
  induction l generalizing s with
  | nil => exact .inr ⟨fun _ h => (by cases h), rfl⟩
  | cons n l ih =>
    rw [List.foldl_cons]
    rcases step_len R s n with h | h
    · left
      rcases ih (stepD R s n) with h2 | ⟨_, h2⟩
      · omega
      · rw [h2]; exact h
    · rw [h]
      rcases ih s with h2 | ⟨h2, h3⟩
      · exact .inl h2
      · exact .inr ⟨fun m hm => by
          rcases List.mem_cons.1 hm with rfl | hm
          · exact h
          · exact h2 m hm, h3⟩
theorem st_still (R : List Issue) (D : List Int) (r : Nat) (hr : r ≤ D.length) : (stD R D r).1.length + r ≤ D.length ∨ ∀ n ∈ D, stepD R (stD R D r) n = stD R D r := by
  induction r with
  | zero => exact .inl (Nat.le_refl _)
  | succ r ih =>
    have e : stD R D (r + 1) = D.foldl (stepD R) (stD R D r) := rfl
    rcases fold_len R D (stD R D r) with h | ⟨h1, h2⟩
    · rcases ih (by omega) with h3 | h3
      · left; rw [e]; omega
      · exfalso
        have key : ∀ l : List Int, (∀ n ∈ l, stepD R (stD R D r) n = stD R D r) → l.foldl (stepD R) (stD R D r) = stD R D r := by
          intro l hl
          induction l with
          | nil => rfl
          | cons n l ih2 => rw [List.foldl_cons, hl n (by simp)]; exact ih2 (fun m hm => hl m (by simp [hm]))
        rw [key D h3] at h
        omega
    · right
      rw [e, h2]
      exact h1
theorem still_deep (R : List Issue) (s : List Int × (Int → Option Int)) (hsub : ∀ y ∈ s.1, y ∈ nums R) (hst : ∀ n ∈ nums R, stepD R s n = s) (r : Nat) : ∀ n ∈ s.1, (r : Int) ≤ dep R r n := by
  induction r with
  | zero => intro n _; exact (dep_bd R 0 n).1
  | succ r ih =>
    intro n hn
    have hns : ∃ y ∈ sonsOf (issuesOf R n), y ∈ s.1 := by
      by_cases h : readyOf s.1 n (sonsOf (issuesOf R n)) = true
      · exfalso
        have h2 := hst n (hsub n hn)
        unfold stepD at h2
        rw [if_pos h] at h2
        have h3 := congrArg (fun t => t.1.length) h2
        have h4 := List.length_erase_of_mem hn
        have h5 := List.length_pos_of_mem hn
        simp only at h3
        omega
      · refine Classical.byContradiction fun hc => h ((readyOf_iff _ _ _).2 ⟨hn, fun y hy hys => hc ⟨y, hy, hys⟩⟩)
    obtain ⟨y, hy, hys⟩ := hns
    rw [dep_most R r n (hsub n hn)]
    have h1 := mostI_mem (dep R r) _ 0 y hy
    have h2 := ih y hys
    omega

/-- What is left behind all rounds tells of a circle; what is found tells of depths. -/
theorem depths_tell (R : List Issue) (hD : (nums R).Nodup) (hs : ∀ n, ∀ y ∈ sonsOf (issuesOf R n), y ∈ nums R) :
    (0 < (stD R (nums R) (nums R).length).1.length → Deeper R (nums R).length) ∧
    (¬ 0 < (stD R (nums R) (nums R).length).1.length → ¬ Deeper R (nums R).length ∧ (Deeper R 6 → ∃ n c, n ∈ nums R ∧ (stD R (nums R) (nums R).length).2 n = some c ∧ 6 < c) ∧ (∀ n c, (stD R (nums R) (nums R).length).2 n = some c → 6 < c → Deeper R 6)) := by
  have ht := tells_st R hD hs (nums R).length
  constructor
  · intro h
    rcases st_still R (nums R) (nums R).length (Nat.le_refl _) with h1 | h1
    · omega
    · obtain ⟨n, hn⟩ := List.exists_mem_of_length_pos h
      have := still_deep R _ ht.sane.sub h1 ((nums R).length + 1) n hn
      exact ⟨n, ht.sane.sub n hn, by push_cast at this; omega⟩
  · intro h
    have h0 : (stD R (nums R) (nums R).length).1.length = 0 := by omega
    have hnil := List.eq_nil_of_length_eq_zero h0
    have hall : ∀ n ∈ nums R, ∃ c, (stD R (nums R) (nums R).length).2 n = some c ∧ dep R ((nums R).length + 1) n = c := fun n hn => by
      obtain ⟨c, hc⟩ := ht.dom n hn (by rw [hnil]; simp)
      exact ⟨c, hc, (ht.of n c hc).2 _ (by omega)⟩
    refine ⟨fun ⟨n, hn, hd⟩ => ?_, fun ⟨n, hn, hd⟩ => ?_, fun n c hc h6 => ?_⟩
    · obtain ⟨c, hc, he⟩ := hall n hn
      have := ht.sane.bd n c hc
      omega
    · obtain ⟨c, hc, he⟩ := hall n hn
      exact ⟨n, c, hn, hc, by omega⟩
    · have h1 := ht.of n c hc
      exact ⟨n, h1.1, by rw [h1.2 _ (by omega)]; exact h6⟩

end Go.Proofs.YtoibnhkiedpkgaaGreatDoor
