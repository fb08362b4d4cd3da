/- Which numbers of a heap a truth leaves, in plain Lean. -/
import Derived.DeepKeys4
import Derived.Test.YtpolpdegpbahiaaGreatDoorM03
import Derived.Test.YtpolpdegpbahiaaGreatDoorM23
import Derived.Test.YtpolpdegpbahiaaGreatDoorM27
set_option linter.all false
set_option maxRecDepth 100000
set_option maxHeartbeats 12800000

namespace Go.Proofs.YtpolpdegpbahiaaGreatDoor
open Tryz
open Go.RowKit
attribute [local go_sem] zAN Oper.grows Oper.growUpon
noncomputable def signedL (b : Built) : List (List Int) := if zM b = 0 then zBH b else []
theorem sameLists08 (w : World) (v v' : Value) (A : List (List Int)) (hx : Sl zKW 1 w v A) (hy : Sl zKW 1 w v' A) :
  Calls prog 22 #[v, v'] w fun e w' => e = .returned (.bool true) ∧ Below w.heap.size w w' := by
 obtain ⟨a, cap, rfl, hm⟩ := zD hx
 obtain ⟨a', cap', rfl, _⟩ := zD hy
 go_enter func22, ntmps22
 go_wp2
 go_loopw [5] (fun i wr => ∃ k : Nat, i = .int .i64 k ∧ k ≤ A.length ∧ Below w.heap.size w wr) (fun i _ => A.length - (intOf i).toNat)
 case atStart => exact ⟨0, rfl, by omega, br_⟩
 case round =>
  obtain ⟨k, rfl, hk, hb⟩ := hrel
  by_cases hlt : k < A.length
  ·have X := (zZ (zI zCC hb hx)).2 k hlt
   have Y := (zZ (zI zCC hb hy)).2 k hlt
   obtain ⟨b, off, rfl, u, hu, su⟩ := X
   obtain ⟨b', off', rfl, u', hu', su'⟩ := Y
   generalize A[k] = S at *
   clear hx hy
   obtain ⟨ab, cb, rfl, _⟩ := zD su
   obtain ⟨ab', cb', rfl, _⟩ := zD su'
   rw [Nat.mul_one] at hu hu'
   have u0 := zG hu
   have u1 := zG hu'
   clear hu hu'
   go_wp2
   refine zAW (by kernel_rfl) (by kernel_rfl) (no_implicit_lambda% ?_)
   repeat ((with_reducible refine wpQuiet_step (fun K hK => ?_)); go_simp; first | ((with_reducible refine hK _ ?_); clear hK K) | (refine hK _ (no_implicit_lambda% ?_); clear hK K) | (apply Exists.intro; (with_reducible refine ⟨fun _ => ?_, hK _ ?_⟩); ((go_at_call 23; exact Calls.quiet_later (sameInts02 _ _ _ S (zI zN (zE _ _) su) (zI zN (zE _ _) su')))); clear hK K))
   with_reducible refine wpQuiet_nil ?_
   intro _ hw9
   obtain ⟨xq, hw8⟩ := hw9
   subst hw8
   go_wp2
   go_roundw
   ·exact ⟨k + 1, by go_num, by omega, zA hb (zE _ _)⟩
   ·simp [intOf]; omega
  ·go_wp2
   go_ret
   exact ⟨rfl, hb⟩
theorem signed08 (w : World) (vr vn vm vh vz : Value) (b : Built) (hB : BuiltAt w vr vn vm vh vz b) :
  Calls prog 17 #[.agg #[vr, vn, .int .i64 b.of, vm, vh, vz]] w fun e w' => ∃ u, e = .returned (.tuple #[u, .int .i64 (zM b)]) ∧ Sl zKW 1 w' u (signedL b) ∧ Below w.heap.size w w' := by
 have hb1 := zB w (.cells #[vr, vn, .int .i64 b.of, vm, vh, vz] 32)
 have HBOX := zF (zHC w vr vn vm vh vz b.of 32)
 have HB := zF (hB.ext hb1)
 clear hB
 have c0 := HBOX.out.c0
 have c1 := HBOX.out.c1
 have c2 := HBOX.out.c2
 have c3 := HBOX.out.c3
 have c4 := HBOX.out.c4
 have c5 := HBOX.out.c5
 unfold zJ at c0 c1 c2 c3 c4 c5
 go_enter func17, ntmps17
 go_wp2_with fail
 clear c0 c1 c2 c3 c4 c5
 generalize w.alloc _ = wa at *
 refine (check08 _ _ _ _ _ _ b HB.out).mono ?_
 rintro e w2 ⟨rfl, hb2⟩
 have HB2 := zF (HB.out.ext hb2)
 have HX2 := zF (HBOX.out.ext hb2)
 have HW2 := zF (zA hb1 hb2)
 clear HB HBOX hb1 hb2
 by_cases hv : zM b = 0
 case neg =>
  have hne : (zM b != 0) = true := by simpa using hv
  have hs : Hid (signedL b = []) := by unfold Hid signedL; rw [if_neg hv]
  clear hv
  go_wp2
  go_ret2
  exact ⟨_, rfl, by rw [hs.out]; exact zGS _ _ _ _ _, HW2.out⟩
 case pos =>
  have hs : Hid (signedL b = zBH b) := by unfold Hid signedL; rw [if_pos hv]
  rw [hv]
  have HV := zF hv
  clear hv
  have hr10 : b.rs.length ≤ 10 := (zW HV.out).2.2.2.2.1
  go_wp2
  have k0 := zG HX2.out.c0
  have k1 := zG HX2.out.c1
  have k2 := zG HX2.out.c2
  have k3 := zG HX2.out.c3
  have k4 := zG HX2.out.c4
  have k5 := zG HX2.out.c5
  refine zK 4 (by kernel_rfl) (by kernel_rfl) ?_
  simp only [tk_]
  iterate 2 (apply gx_; focus (intro vs xq hd; (try simp [hq_] at hd); simp only [pf_]; go_simp; exact ⟨br_, rfl⟩))
  refine zAE ?_
  apply Exists.intro
  refine ⟨fun vs xq hd => ?_, ?_⟩
  ·(try simp [hq_] at hd)
   simp only [pf_]
   go_simp
   refine (every08 (w2.later xq) vr vn vm vh vz b.of b.rs (HB2.out.ext (zE w2 xq)).rs (by omega)).mono ?_
   rintro e w9 ⟨rfl, hb9⟩
   exact ⟨rfl, hb9⟩
  refine zL (fun v w' => Hid (zJB b (zBH b) ∧ (zBH b).length ≤ 32 ∧ Sl zKW 1 w' v (zBH b))) (fun v w w' hb h => zF ⟨h.out.1, h.out.2.1, zI zCC hb h.out.2.2⟩) ?_ ?_
  ·intro vs xq hd
   (try simp [hq_] at hd)
   simp only [pf_]
   go_simp
   refine (truths08 (w2.later xq) vr vn vm vh vz b (HB2.out.ext (zE w2 xq)) HV.out).mono ?_
   rintro e w9 ⟨u, A, rfl, hA, hl, hs, hb⟩
   have e := leftL_is hA
   exact ⟨u, rfl, hb, zF (by rw [e]; exact ⟨hA, hl, hs⟩)⟩
  refine zT rfl (fun vs xq hd => ?_)
  simp [zV, zAD, List.range, List.range.loop] at hd
  simp only [pf_]
  obtain ⟨e0, e1, e2, h3⟩ := hd
  simp only [Nat.zero_add, Nat.reduceAdd] at e0 e1 e2 ⊢
  simp only [e0, e1, e2]
  have hb8 := zF (zA HW2.out (zE w2 xq))
  clear e0 e1 e2 k0 k1 k2 k3 k4 k5
  generalize vs 3 = v3 at *
  generalize w2.later xq = w8 at *
  obtain ⟨a3, c3, rfl, _⟩ := zD h3.out.2.2
  go_wp2
  go_ret2
  exact ⟨_, by rw [HV.out]; rfl, by rw [hs.out]; exact h3.out.2.2, hb8.out⟩
end Go.Proofs.YtpolpdegpbahiaaGreatDoor
namespace Go.Proofs.YtpolpdegpbahiaaGreatDoor
open Go.RowKit
theorem laid_pair : laidOutB Tryz.prog = true := by kernel_rfl
theorem keyed_pair : Maps.Keyed Tryz.prog 227 :=
 Maps.Keyed.of_law (deep_law_laid laid_pair (m := 9) (by decide) (of_decide_eq_true (by kernel_rfl)) (by kernel_rfl) (by kernel_rfl))
def kPr (d l : Int) : Value := .agg #[.int .i64 d, .int .i64 l]
def lPr (d l : Int) : Lit := .string (keyBytes [.int .i64 d, .int .i64 l])
theorem key_pair {d l : Int} (hd : I64 d) (hl : I64 l) : keyOf Tryz.prog 227 (kPr d l) = some (lPr d l) := by
 have h1 : Tryz.prog.keyType 227 = true := by kernel_rfl
 have h2 : (kPr d l).formed Tryz.prog 227 = true := by kernel_rfl
 obtain ⟨N, hN⟩ : ∃ N, Tryz.prog.types.size + 1 = N + 2 := ⟨Tryz.prog.types.size - 1, by have : Tryz.prog.types.size ≠ 0 := of_decide_eq_true (by kernel_rfl); omega⟩
 have hc : Tryz.prog.cellsOf 227 = 2 := by kernel_rfl
 have hi : Tryz.prog.cellsOf 3 = 1 := by kernel_rfl
 have hwd := wf_i64 hd
 have hwl := wf_i64 hl
 have h3 : Tryz.prog.keyLits (Tryz.prog.types.size + 1) 227 (kPr d l).cells.toList = some [.int .i64 d, .int .i64 l] := by
  rw [hN]
  simp [Program.keyLits, Tryz.underlying227, Tryz.underlying3, hc, hi, kPr, Value.cells, hwd, hwl, List.range, List.range.loop]
 unfold keyOf
 rw [Tryz.underlying227]
 simp only
 rw [h1, h2, h3]
 rfl
theorem lPr_key (d l : Int) : WideAt.IsKeyLit (lPr d l) := by simp [WideAt.IsKeyLit, lPr]
def MapP (w : World) (b n : Nat) : Prop :=
 ∃ D : DataW Value, w.ownsMap Tryz.prog 227 Rv b n D ∧ ∀ d l, ∃ o : Option Bool, ∀ z, D.atKey (lPr d l) (.held z) = .held ((o.map Value.bool).getD z)
theorem MapP.same {w w' : World} {b n : Nat} (h : MapP w b n) (e : w'.heap[b]? = w.heap[b]?) : MapP w' b n := by
 obtain ⟨D, h1, h2⟩ := h
 exact ⟨D, zPM h1 e, h2⟩
theorem MapP.lt {w : World} {b n : Nat} (h : MapP w b n) : b < w.heap.size := by obtain ⟨D, h1, h2⟩ := h; exact h1.lt
theorem MapP.ext {w w' : World} {b n : Nat} (hb : Below w.heap.size w w') (h : MapP w b n) : MapP w' b n := h.same (hb.block b h.lt)
theorem mapP_made (w : World) : MapP (w.alloc (.map #[] 0)) w.heap.size 0 :=
 ⟨.map [], World.ownsMap_made w _ _ _, fun d l => ⟨none, fun z => by simp [DataW.atKey]⟩⟩
theorem mapP_look {w : World} {b n : Nat} (h : MapP w b n) {d l : Int} (hd : I64 d) (hl : I64 l) :
  ∃ c : Bool, (Instr.lookup 222 (.map (some b)) (.agg #[.int .i64 d, .int .i64 l]) false).run Tryz.prog w = .ok (.bool c) w := by
 obtain ⟨D, ho, hD⟩ := h
 obtain ⟨v, ps, hr, hv⟩ := ho.lookup keyed_pair Tryz.underlying222 (Tryz.zeroValue4 w) (zd := .held (.bool false)) (zp := []) rfl (key_pair hd hl)
 obtain ⟨o, hO⟩ := hD d l
 rw [hO] at hv
 exact ⟨o.getD false, by rw [show (Value.agg #[.int .i64 d, .int .i64 l]) = kPr d l from rfl, hr, rv_inv hv]; cases o <;> rfl⟩
theorem mapP_put {w : World} {b n : Nat} (h : MapP w b n) {d l : Int} (hd : I64 d) (hl : I64 l) (c : Bool) (hn : n < maxLen) :
  ∃ w', (Instr.mapUpdate 222 (.map (some b)) (.agg #[.int .i64 d, .int .i64 l]) (.bool c)).run Tryz.prog w = .ok () w' ∧ MapP w' b (n + 1) ∧ w.grownBy w' (some b) := by
 obtain ⟨D, ho, hD⟩ := h
 obtain ⟨w', hr, ho', hg⟩ := ho.update keyed_pair Tryz.underlying222 hn (key_pair hd hl) (show Rv (.bool c) = some (.held (.bool c), []) from rfl)
 refine ⟨w', hr, ⟨_, ho', fun y z => ?_⟩, hg⟩
 by_cases e : lPr y z = lPr d l
 ·exact ⟨some c, fun u => by rw [e, Maps.atKey_put_same ho.isMap (lPr_key _ _)]; rfl⟩
 ·obtain ⟨o, hO⟩ := hD y z
  exact ⟨o, fun u => by rw [Maps.atKey_put_other e]; exact hO u⟩
end Go.Proofs.YtpolpdegpbahiaaGreatDoor
namespace Go.Proofs.YtpolpdegpbahiaaGreatDoor
open Tryz
open Classical in
noncomputable def tellC (b : Built) (S : List Int) (h : Int) : Int :=
 if zM b = 0 then (if IsT (zCA b.ns.notes) S then (if In h 0 ((b.hs.length : Int) - 1) then (if zII b S then 0 else 8) else 2) else 31) else zM b
noncomputable def tellS (b : Built) (S : List Int) (h : Int) : Span := if tellC b S h = 0 then (zGB b S h.toNat).getD ⟨0, 0⟩ else ⟨0, 0⟩
theorem tell_of {b : Built} {S : List Int} {h c : Int} (e : tellC b S h = c) (hc : c ≠ 0) : tellC b S h = c ∧ tellS b S h = ⟨0, 0⟩ := ⟨e, by unfold tellS; rw [if_neg (by omega)]⟩
theorem tell_bad {b : Built} {S : List Int} {h : Int} (hv : zM b ≠ 0) : tellC b S h = zM b ∧ tellS b S h = ⟨0, 0⟩ := tell_of (by unfold tellC; rw [if_neg hv]) hv
theorem tell_no {b : Built} {S : List Int} {h : Int} (hv : zM b = 0) (hT : ¬ IsT (zCA b.ns.notes) S) : tellC b S h = 31 ∧ tellS b S h = ⟨0, 0⟩ := tell_of (by unfold tellC; rw [if_pos hv, if_neg hT]) (by decide)
theorem tell_arg {b : Built} {S : List Int} {h : Int} (hv : zM b = 0) (hT : IsT (zCA b.ns.notes) S) (hh : ¬ In h 0 ((b.hs.length : Int) - 1)) : tellC b S h = 2 ∧ tellS b S h = ⟨0, 0⟩ := tell_of (by unfold tellC; rw [if_pos hv, if_pos hT, if_neg hh]) (by decide)
theorem tell_out {b : Built} {S : List Int} {h : Int} (hv : zM b = 0) (hT : IsT (zCA b.ns.notes) S) (hh : In h 0 ((b.hs.length : Int) - 1)) (hl : ¬ zII b S) : tellC b S h = 8 ∧ tellS b S h = ⟨0, 0⟩ :=
 tell_of (by unfold tellC; rw [if_pos hv, if_pos hT, if_pos hh, if_neg hl]) (by decide)
theorem tell_ok {b : Built} {S : List Int} {k : Nat} (hv : zM b = 0) (hT : IsT (zCA b.ns.notes) S) (hh : In (k : Int) 0 ((b.hs.length : Int) - 1)) (hl : zII b S) : tellC b S k = 0 ∧ tellS b S k = (zGB b S k).getD ⟨0, 0⟩ := by
 have e : tellC b S k = 0 := by unfold tellC; rw [if_pos hv, if_pos hT, if_pos hh, if_pos hl]
 exact ⟨e, by unfold tellS; rw [if_pos e]; rfl⟩
theorem ord_exists : ∀ A : List (List Int), A.Nodup → ∃ B, Ord B ∧ ∀ l, l ∈ B ↔ l ∈ A
 | [], _ => ⟨[], List.Pairwise.nil, fun _ => Iff.rfl⟩
 | x :: A, h => by
   obtain ⟨hx, hA⟩ := List.nodup_cons.1 h
   obtain ⟨B, h1, h2⟩ := ord_exists A hA
   refine ⟨B.filter (fun y => zIP y x) ++ x :: B.filter (fun y => !zIP y x), ?_, fun l => ?_⟩
   ·unfold Ord at h1 ⊢
    rw [List.pairwise_append, List.pairwise_cons]
    have hz : ∀ z ∈ B.filter (fun y => !zIP y x), zIP x z = true := fun z hz => by
     obtain ⟨h3, h4⟩ := List.mem_filter.1 hz
     have h4 : zIP z x = false := by simpa using h4
     cases h5 : zIP x z with
     | true => rfl
     | false => exact absurd ((h2 z).1 h3) (by rw [befL_tot z x h4 h5]; exact hx)
    refine ⟨h1.filter _, ⟨hz, h1.filter _⟩, fun y hy z hz' => ?_⟩
    have h3 : zIP y x = true := by simpa using (List.mem_filter.1 hy).2
    rcases List.mem_cons.1 hz' with rfl | h4
    ·exact h3
    ·exact befL_tr y x z h3 (hz z h4)
   ·rw [List.mem_append, List.mem_cons, List.mem_filter, List.mem_filter, List.mem_cons, h2]
    cases h3 : zIP l x <;> simp [h3] <;> constructor <;> rintro (h | h) <;> simp [h]
theorem isLeft_leftL {b : Built} (hv : zM b = 0) : zJB b (zBH b) := by
 classical
 have hnd := zIJ (zAS (zW hv).1).2
 obtain ⟨B, h1, h2⟩ := ord_exists (zPC (zCA b.ns.notes)) (allP_nodup hnd)
 have hB : zJB b (B.filter (fun S => decide (zII b S))) := ⟨h1.filter _, fun l => by rw [List.mem_filter, h2, allP_mem hnd]; simp⟩
 rw [leftL_is hB]
 exact hB
end Go.Proofs.YtpolpdegpbahiaaGreatDoor
