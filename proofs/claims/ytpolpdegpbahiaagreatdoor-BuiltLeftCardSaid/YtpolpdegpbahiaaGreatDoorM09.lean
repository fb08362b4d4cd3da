/- What Add returns; blocks of a type; a region that appends in place. -/
import Derived.Test.YtpolpdegpbahiaaGreatDoorM08
set_option linter.all false
set_option maxRecDepth 100000
set_option maxHeartbeats 12800000

namespace Go.Proofs.YtpolpdegpbahiaaGreatDoor
open Tryz
open Go.RowKit
attribute [local go_sem] zAN Oper.grows Oper.growUpon
def ZB : Value := .agg #[.slice none 0 0, .slice none 0 0, .int .i64 0, .slice none 0 0, .slice none 0 0, .slice none 0 0]
open Classical in
noncomputable def addCode (b : Built) (r : Report) : Int := if zM b ≠ 0 then zM b else if b.rs.length = 10 then 9 else if zIL (addB b r) then 0 else 81
def RetAdd (b : Built) (r : Report) (w : World) (e : Ending) (w' : World) : Prop :=
 Below w.heap.size w w' ∧ ((addCode b r ≠ 0 ∧ e = .returned (.tuple #[.agg #[.slice none 0 0, .slice none 0 0, .int .i64 0, .slice none 0 0, .slice none 0 0, .slice none 0 0], .int .i64 (addCode b r)])) ∨
  (addCode b r = 0 ∧ ∃ vr vn vm vh vs, e = .returned (.tuple #[.agg #[vr, vn, .int .i64 b.of, vm, vh, vs], .int .i64 0]) ∧ BuiltN w.heap.size w' vr vn vm vh vs (addB b r)))
def BoxT (w : World) (g : Nat) (t : TypeId) : Prop := ∃ cur, w.heap[g]? = some (.cells cur t (0, 0))
def BoxRep (r : Report) (v : Value) (w : World) : Prop :=
 ∃ bb, v = .slice (some ⟨bb, 0, none⟩) 1 1 ∧ zJ w bb 0 (.int .i64 r.num) ∧ zJ w bb 1 (.int .i64 r.m) ∧ zJ w bb 2 (.int .i64 r.d) ∧ zJ w bb 3 (.int .i64 r.l) ∧ zJ w bb 4 (.int .u8 r.k)
theorem zCJ {w0 w w' : World} {g : Option Nat} (hb : Below w.heap.size w w') (h : w0.grownBy w g) : w0.grownBy w' g :=
 ⟨hb.os.trans h.os, hb.tape.trans h.tape, hb.output.trans h.output, Nat.le_trans h.size hb.size, fun k hk hne => (hb.block k (Nat.lt_of_lt_of_le hk h.size)).trans (h.block k hk hne)⟩
theorem zAH {w0 w w' : World} {g : Option Nat} (h : w0.grownBy w g) (h' : w.grownBy w' g) : w0.grownBy w' g :=
 ⟨h'.os.trans h.os, h'.tape.trans h.tape, h'.output.trans h.output, Nat.le_trans h.size h'.size, fun k hk hne => (h'.block k (Nat.lt_of_lt_of_le hk h.size) hne).trans (h.block k hk hne)⟩
theorem zAX (w w' : World) (g : Option Nat) (h1 : w'.os = w.os) (h2 : w'.tape = w.tape) (h3 : w'.output = w.output) (h4 : w'.heap = w.heap) : w.grownBy w' g := ⟨h1, h2, h3, by rw [h4]; exact Nat.le_refl _, fun k _ _ => by rw [h4]⟩
theorem zMN {w0 w : World} {g b o : Nat} {v : Value} (h : w0.grownBy w (some g)) (hne : b ≠ g) (hc : zJ w0 b o v) : zJ w b o v := zAG (h.block b (zAF hc) (fun e => hne (by cases e; rfl))) hc
theorem zOE {w w' : World} {base g t e : Nat} {sz n : Nat} {v : Value} {cs : List Value} (hown : w.ownsRow base e sz v n cs) (hgr : w.grownBy w' v.ownBlock) (hb : BoxT w g t) (hne : t ≠ e) : w'.heap[g]? = w.heap[g]? := by
 obtain ⟨cur, hc⟩ := hb
 refine hgr.block g (Array.getElem?_eq_some_iff.1 hc).1 (fun h => ?_)
 rcases hown.2 with ⟨rfl, _⟩ | ⟨g', cap, cur', rfl, _, hcur, _⟩
 ·simp [Value.ownBlock] at h
 ·simp [Value.ownBlock] at h
  subst h
  rw [hcur] at hc
  cases hc
  exact hne rfl
theorem own_boxT_ne {w : World} {base g t e : Nat} {sz n : Nat} {v : Value} {cs : List Value} (hown : w.ownsRow base e sz v n cs) (hb : BoxT w g t) (hne : t ≠ e) : v.ownBlock ≠ some g := by
 obtain ⟨cur, hc⟩ := hb
 intro h
 rcases hown.2 with ⟨rfl, _⟩ | ⟨g', cap, cur', rfl, _, hcur, _⟩
 ·simp [Value.ownBlock] at h
 ·simp [Value.ownBlock] at h
  subst h
  rw [hcur] at hc
  cases hc
  exact hne rfl
section
variable {P : Program}
theorem zBQ {o : Oper} {a : Act} {w : World} (s x : Operand) (t : TypeId) (ho : o.op = .call { callee := .builtin .append, args := #[s, x], argTypes := #[t, t] })
  (base : Nat) (e : TypeId) (i : TypeInfo) (z : Value) (size bytes : Nat) (ht : P.underlying t = some (.slice e)) (hi : P.info? e = some i) (hz : i.zero = some z) (hsize : i.size = size) (hby : i.bytes = bytes) (hzs : z.cells.size = size) (hsz : 0 < size)
  (v : Value) (n : Nat) (xs : List Value) (hs : a.eval s = v) (hown : w.ownsRow base e size v n xs) (x' : Value) (ad : Addr) (m c : Nat) (hx' : x' = .slice (some ad) m c) (news : List Value) (hx : a.eval x = x') (hl : news.length = m * size) (hnews : ∀ j u, news[j]? = some u → w.cell? (ad.add j) = some u) (h1 : ∀ u ∈ news, u.oneCell' = true)
  (h63 : n + m ≤ maxLen) (hbytes : (n + m) * bytes ≤ 140737488355328) (hbase : base ≤ w.heap.size) {Cw : World → Prop} {T : World → World → Prop} {R : Value → World → Prop}
  (h : ∀ v' w', w'.ownsRow base e size v' (n + m) (xs ++ news) → w.grownBy w' v.ownBlock → Cw w' ∧ T w w' ∧ R v' w') : o.wild P a Cw w T R := by
 subst hx'
 obtain ⟨v', w', hrun, r1, r2, _⟩ := run_append_own (P := P) w base t o.type e i z size bytes ht hi hz hsize hby hzs hsz v n xs hown ad m c news hl hnews h1 h63 hbytes hbase
 unfold Oper.wild
 simp [execOp, ho, resolve, invoke, builtin, hs, hx, hrun, Result.andThen]
 exact h v' w' r1 r2
end
structure PartN (base : Nat) (w : World) (vr vn vm vh : Value) (b : Built) : Prop where
 reg : Sl (Fr base 107 (zED base)) 5 w vr b.ns.reg
 notes : Sl (Fr base 147 zBM) 10 w vn b.ns.notes
 ms : Sl (Fr base 3 zAJ) 1 w vm b.ms
 hs : Sl (Fr base 114 zHA) 4 w vh b.hs
 of : I64 b.of
end Go.Proofs.YtpolpdegpbahiaaGreatDoor
