/- THE STATEMENT: machines with a report more are as the document says: for every input the law answers true, and its arguments read as before. -/
import Derived.Test.YtoibnhkiedpkgaaGreatDoorCards
import Derived.Test.YtoibnhkiedpkgaaGreatDoorTie
import Derived.WalkKit
import Derived.ProofKit
import Derived.OpenShut
import Derived.Deep.DeepHandedRow
import Derived.LaidMore
import Derived.LaidHandle
import Derived.Carry
import Derived.Test.YtoibnhkiedpkgaaGreatDoorM02
import Derived.Test.YtoibnhkiedpkgaaGreatDoorM22
set_option linter.unusedVariables false
set_option linter.unusedSimpArgs false
set_option linter.all false

namespace Go.Proofs.YtoibnhkiedpkgaaGreatDoor.builtAdds
open Go.ChangeShapes Go.WideShapes Go.ChangeAt Go.RowKit

theorem own : ownKnob Tryz.prog.godebug = none := by kernel_rfl
theorem laidOut : laidOutB Tryz.prog = true := by kernel_rfl

/-- A cell of a table of functions holds the function of that name. -/
theorem table_cell {W : World} {t e : TypeId} {f1 : Field} {n fuel i : Nat} {sp : Nat → Bool} {cs : List Value} {ds : List (DataW (List UInt8))} {p : List MemPlace} {ps rs : Array TypeId} {va : Bool} {b : UInt8} {r : List UInt8} (f0 : FuncId)
    (ha : Tryz.prog.underlying t = some (.array n e)) (he : Tryz.prog.underlying e = some (.struct #[f1])) (hoff : f1.offset = 0) (hct : Tryz.prog.cellsOf t = n) (hce : Tryz.prog.cellsOf e = 1) (hcf : Tryz.prog.cellsOf f1.type = 1) (hfn : Tryz.prog.underlying f1.type = some (.func ps rs va))
    (h : DataW.trod (funcToken Tryz.prog) Tryz.prog W 0 sp true fuel t cs = some (.agg ds, p)) (hi : i < n) (hd : ds[i]? = some (.agg [.held (b :: r)]))
    (hone : ((List.range Tryz.prog.funcs.size).filter fun f => (Tryz.prog.funcs[f]?).any (·.name.toUTF8.data.toList == b :: r)) = [f0]) : cs[i]? = some (.func (.func f0) #[] #[]) := by
  obtain ⟨xs, m, _, hx, hl, hxl, hf⟩ := DataW.trod_array ha h
  have e1 : ds = xs.map (·.1) := by
    have := congrArg Prod.fst hx
    simpa using this
  have g := hf i hi
  have hix : i < xs.length := by omega
  rw [List.getElem?_eq_getElem hix] at g
  have e2 : xs[i].1 = .agg [.held (b :: r)] := by
    rw [e1, List.getElem?_map, List.getElem?_eq_getElem hix] at hd
    simpa using hd
  obtain ⟨y0, m2, hy, _, g2⟩ := trod_struct1 he g
  rw [hy] at e2
  have e3 : y0.1 = .held (b :: r) := by simpa using e2
  have hic : i < cs.length := by omega
  rw [hoff, hce, hcf, Nat.mul_one] at g2
  have e5 : (cs.drop i).take 1 = [cs[i]] := by rw [List.drop_eq_getElem_cons hic]; rfl
  have e4 : (((cs.drop i).take 1).drop 0).take 1 = [cs[i]] := by rw [e5]; rfl
  rw [e4] at g2
  have g3 : DataW.trod (funcToken Tryz.prog) Tryz.prog W 0 sp true m2 f1.type [cs[i]] = some (.held (b :: r), y0.2) := by rw [g2, ← e3]
  rw [List.getElem?_eq_getElem hic, func_of_trod hfn hone g3]

set_option maxRecDepth 100000 in
/-- What the row's list gives: the looks that an issue gets. -/
theorem looks_of {W : World} (h : laidMetH Tryz.prog Rows.builtAddsRow.laid W) : Looks W := by
  obtain ⟨g, t, cs, fuel, p, hg, ht, hv, hd⟩ := h.funcs (n := "blueline/sheet.checks") (List.mem_cons_self ..)
  obtain rfl := Option.some.inj ((show Tryz.prog.globalNamed "blueline/sheet.checks" = some 1 by kernel_rfl).symm.trans hg)
  obtain rfl := Option.some.inj ((show (Tryz.prog.globals[1]?).map (·.type) = some 138 by kernel_rfl).symm.trans ht)
  have q0 : cs.toList[0]? = some (.func (.func 146) #[] #[]) := table_cell (i := 0) (b := 98) (r := [108, 117, 101, 108, 105, 110, 101, 47, 115, 104, 101, 101, 116, 46, 99, 104, 101, 99, 107, 115, 36, 49]) 146 Tryz.underlying138 Tryz.underlying137 rfl (by kernel_rfl) (by kernel_rfl) (by kernel_rfl) Tryz.underlying136 hd (by decide) (by kernel_rfl) (by kernel_rfl)
  have q1 : cs.toList[1]? = some (.func (.func 147) #[] #[]) := table_cell (i := 1) (b := 98) (r := [108, 117, 101, 108, 105, 110, 101, 47, 115, 104, 101, 101, 116, 46, 99, 104, 101, 99, 107, 115, 36, 50]) 147 Tryz.underlying138 Tryz.underlying137 rfl (by kernel_rfl) (by kernel_rfl) (by kernel_rfl) Tryz.underlying136 hd (by decide) (by kernel_rfl) (by kernel_rfl)
  have q2 : cs.toList[2]? = some (.func (.func 148) #[] #[]) := table_cell (i := 2) (b := 98) (r := [108, 117, 101, 108, 105, 110, 101, 47, 115, 104, 101, 101, 116, 46, 99, 104, 101, 99, 107, 115, 36, 51]) 148 Tryz.underlying138 Tryz.underlying137 rfl (by kernel_rfl) (by kernel_rfl) (by kernel_rfl) Tryz.underlying136 hd (by decide) (by kernel_rfl) (by kernel_rfl)
  have q3 : cs.toList[3]? = some (.func (.func 149) #[] #[]) := table_cell (i := 3) (b := 98) (r := [108, 117, 101, 108, 105, 110, 101, 47, 115, 104, 101, 101, 116, 46, 99, 104, 101, 99, 107, 115, 36, 52]) 149 Tryz.underlying138 Tryz.underlying137 rfl (by kernel_rfl) (by kernel_rfl) (by kernel_rfl) Tryz.underlying136 hd (by decide) (by kernel_rfl) (by kernel_rfl)
  refine ⟨?_, ?_, ?_, ?_⟩
  · unfold Cell
    rw [World.var?_cell hg hv 0]
    simpa using q0
  · unfold Cell
    rw [World.var?_cell hg hv 1]
    simpa using q1
  · unfold Cell
    rw [World.var?_cell hg hv 2]
    simpa using q2
  · unfold Cell
    rw [World.var?_cell hg hv 3]
    simpa using q3

set_option maxRecDepth 100000 in
/-- .. and a note. -/
theorem looksN_of {W : World} (h : laidMetH Tryz.prog Rows.builtAddsRow.laid W) : LooksN W := by
  obtain ⟨g, t, cs, fuel, p, hg, ht, hv, hd⟩ := h.funcs (n := "blueline/note.checks") (List.mem_cons_of_mem _ (List.mem_cons_self ..))
  obtain rfl := Option.some.inj ((show Tryz.prog.globalNamed "blueline/note.checks" = some 0 by kernel_rfl).symm.trans hg)
  obtain rfl := Option.some.inj ((show (Tryz.prog.globals[0]?).map (·.type) = some 121 by kernel_rfl).symm.trans ht)
  have q0 : cs.toList[0]? = some (.func (.func 131) #[] #[]) := table_cell (i := 0) (b := 98) (r := [108, 117, 101, 108, 105, 110, 101, 47, 110, 111, 116, 101, 46, 99, 104, 101, 99, 107, 115, 36, 49]) 131 Tryz.underlying121 Tryz.underlying120 rfl (by kernel_rfl) (by kernel_rfl) (by kernel_rfl) Tryz.underlying118 hd (by decide) (by kernel_rfl) (by kernel_rfl)
  have q1 : cs.toList[1]? = some (.func (.func 133) #[] #[]) := table_cell (i := 1) (b := 98) (r := [108, 117, 101, 108, 105, 110, 101, 47, 110, 111, 116, 101, 46, 99, 104, 101, 99, 107, 115, 36, 50]) 133 Tryz.underlying121 Tryz.underlying120 rfl (by kernel_rfl) (by kernel_rfl) (by kernel_rfl) Tryz.underlying118 hd (by decide) (by kernel_rfl) (by kernel_rfl)
  have q2 : cs.toList[2]? = some (.func (.func 134) #[] #[]) := table_cell (i := 2) (b := 98) (r := [108, 117, 101, 108, 105, 110, 101, 47, 110, 111, 116, 101, 46, 99, 104, 101, 99, 107, 115, 36, 51]) 134 Tryz.underlying121 Tryz.underlying120 rfl (by kernel_rfl) (by kernel_rfl) (by kernel_rfl) Tryz.underlying118 hd (by decide) (by kernel_rfl) (by kernel_rfl)
  have q3 : cs.toList[3]? = some (.func (.func 135) #[] #[]) := table_cell (i := 3) (b := 98) (r := [108, 117, 101, 108, 105, 110, 101, 47, 110, 111, 116, 101, 46, 99, 104, 101, 99, 107, 115, 36, 52]) 135 Tryz.underlying121 Tryz.underlying120 rfl (by kernel_rfl) (by kernel_rfl) (by kernel_rfl) Tryz.underlying118 hd (by decide) (by kernel_rfl) (by kernel_rfl)
  have q4 : cs.toList[4]? = some (.func (.func 136) #[] #[]) := table_cell (i := 4) (b := 98) (r := [108, 117, 101, 108, 105, 110, 101, 47, 110, 111, 116, 101, 46, 99, 104, 101, 99, 107, 115, 36, 53]) 136 Tryz.underlying121 Tryz.underlying120 rfl (by kernel_rfl) (by kernel_rfl) (by kernel_rfl) Tryz.underlying118 hd (by decide) (by kernel_rfl) (by kernel_rfl)
  have q5 : cs.toList[5]? = some (.func (.func 137) #[] #[]) := table_cell (i := 5) (b := 98) (r := [108, 117, 101, 108, 105, 110, 101, 47, 110, 111, 116, 101, 46, 99, 104, 101, 99, 107, 115, 36, 54]) 137 Tryz.underlying121 Tryz.underlying120 rfl (by kernel_rfl) (by kernel_rfl) (by kernel_rfl) Tryz.underlying118 hd (by decide) (by kernel_rfl) (by kernel_rfl)
  have q6 : cs.toList[6]? = some (.func (.func 140) #[] #[]) := table_cell (i := 6) (b := 98) (r := [108, 117, 101, 108, 105, 110, 101, 47, 110, 111, 116, 101, 46, 99, 104, 101, 99, 107, 115, 36, 55]) 140 Tryz.underlying121 Tryz.underlying120 rfl (by kernel_rfl) (by kernel_rfl) (by kernel_rfl) Tryz.underlying118 hd (by decide) (by kernel_rfl) (by kernel_rfl)
  have q7 : cs.toList[7]? = some (.func (.func 142) #[] #[]) := table_cell (i := 7) (b := 98) (r := [108, 117, 101, 108, 105, 110, 101, 47, 110, 111, 116, 101, 46, 99, 104, 101, 99, 107, 115, 36, 56]) 142 Tryz.underlying121 Tryz.underlying120 rfl (by kernel_rfl) (by kernel_rfl) (by kernel_rfl) Tryz.underlying118 hd (by decide) (by kernel_rfl) (by kernel_rfl)
  refine ⟨?_, ?_, ?_, ?_, ?_, ?_, ?_, ?_⟩
  · unfold Cell
    rw [World.var?_cell hg hv 0]
    simpa using q0
  · unfold Cell
    rw [World.var?_cell hg hv 1]
    simpa using q1
  · unfold Cell
    rw [World.var?_cell hg hv 2]
    simpa using q2
  · unfold Cell
    rw [World.var?_cell hg hv 3]
    simpa using q3
  · unfold Cell
    rw [World.var?_cell hg hv 4]
    simpa using q4
  · unfold Cell
    rw [World.var?_cell hg hv 5]
    simpa using q5
  · unfold Cell
    rw [World.var?_cell hg hv 6]
    simpa using q6
  · unfold Cell
    rw [World.var?_cell hg hv 7]
    simpa using q7

set_option maxRecDepth 100000 in
/-- For every argument and every world that holds the tables. -/
theorem contract (H : Type) (enc : TypeId × Value → H) (W : World) (base : Nat) (args : Array Value) (ds gs : List (DataW H)) (before : List MemPlace)
    (hval : ∀ (j : Nat) t v, Tryz.f3.params[j]? = some t → args[j]? = some v → Value.okWide Tryz.prog W .any base t v)
    (hW : DataW.Whole enc Tryz.prog Tryz.f3.params.toList Rows.builtAddsSpec.vars false W args.toList ds gs before) (hL : laidMetH Tryz.prog Rows.builtAddsRow.laid W) :
    Calls Tryz.prog 3 args W fun e W' => ∃ v, e = .returned v ∧ Rows.builtAddsSpec.post enc Tryz.prog Tryz.f3 false true false false W args v W' := by
  have hW' := hW
  obtain ⟨p, q, hA0, hV, rfl, hfz, hnd⟩ := hW
  have hA : DataW.TrodAll enc Tryz.prog W 0 (fun _ => true) true Tryz.f3.params.toList args.toList ds p := hA0
  rw [Tryz.params3] at hA hval
  obtain ⟨v0, vs0, d0, ds0, p0, q0, hargs, rfl, rfl, h0, r0⟩ := trodAll_cons hA
  obtain ⟨v1, vs1, d1, ds1, p1, q1, rfl, rfl, rfl, h1, r1⟩ := trodAll_cons r0
  obtain ⟨rfl, rfl, rfl⟩ := trodAll_nil r1
  obtain rfl : args = #[v0, v1] := by cases args; simp_all
  obtain ⟨rfl, rfl⟩ := trodVars_none hV
  have hlt : ∀ x ∈ (p0 ++ (p1 ++ [])) ++ [], x.block < W.heap.size := fun x hx => by simpa using hW'.lt x hx
  obtain ⟨vr, vn, vm, vh, vs, b, rfl, hB⟩ := open_built (hval 0 32 v0 rfl rfl) h0
  obtain ⟨r, rfl, hr⟩ := open_report (hval 1 34 v1 rfl rfl) h1
  refine (law_walk W vr vn vm vh vs b r hB (looks_of hL) (looksN_of hL) hr).mono fun e W' ⟨he, hb⟩ => ?_
  subst he
  refine ⟨_, rfl, ⟨_, _, _, [], p0 ++ (p1 ++ []), [], hW', trodAll_cons_mk (shut_bool Tryz.underlying4 _) trodAll_mk0,
    trodAll_cons_mk (Below.trod laidOut (by kernel_rfl) (of_decide_eq_true (by kernel_rfl)) h0 hb (fun x hx => hlt x (by simp [hx]))) (trodAll_cons_mk (Below.trod laidOut (by kernel_rfl) (of_decide_eq_true (by kernel_rfl)) h1 hb (fun x hx => hlt x (by simp [hx]))) trodAll_mk0),
    rfl, hb.frame _, fun h => by cases h⟩⟩

theorem reads (os : Os) {H : Type} (enc : TypeId × Value → H) : ∃ places, DataW.whole enc Tryz.prog (((World.doorLaid Tryz.prog 400 os)).forCall (fun _ _ => 0) ⟨#[], #[.agg #[.slice none 0 0, .slice none 0 0, .int .i64 0, .slice none 0 0, .slice none 0 0, .slice none 0 0], .agg #[.int .i64 0, .int .i64 0, .int .i64 0, .int .i64 0, .int .u8 0]], []⟩).memory Tryz.f3.params.toList Rows.builtAddsSpec.vars false #[.agg #[.slice none 0 0, .slice none 0 0, .int .i64 0, .slice none 0 0, .slice none 0 0, .slice none 0 0], .agg #[.int .i64 0, .int .i64 0, .int .i64 0, .int .i64 0, .int .u8 0]].toList 8 =
    some ([.agg [.agg [.agg [.nil], .nil], .lit (.int .i64 0), .nil, .nil, .nil], .agg [.lit (.int .i64 0), .lit (.int .i64 0), .lit (.int .i64 0), .lit (.int .i64 0), .lit (.int .u8 0)]], [], places) :=
  ⟨[], by kernel_rfl⟩
theorem door_met (os : Os) (args : Array Value) : laidMetH Tryz.prog Rows.builtAddsRow.laid ((World.doorLaid Tryz.prog 400 os).forCall (fun _ _ => 0) ⟨#[], args, []⟩).memory :=
  laidMetH_of_parts3 (fuel := 8) (laidMet_of_run' 8 (by kernel_rfl) (by kernel_rfl)) (by kernel_rfl) (by kernel_rfl)

set_option maxRecDepth 100000 in
/-- The row's step. -/
theorem lifted (os : Os) (started : os.Started) (H : Type) (enc : TypeId × Value → H) (F : Stop.Interp) :
    ReturnsInHanded {} Tryz.checked os 3 .any ((OpenSpec.ofChange Rows.builtAddsSpec).preRow enc Tryz.prog Tryz.f3 Rows.builtAddsRow.domain false Rows.builtAddsRow.laid) (((OpenSpec.ofChange Rows.builtAddsSpec).at F).post enc Tryz.prog Tryz.f3 false true false false) := by
  obtain ⟨places, hx⟩ := reads os enc
  refine returnsInHanded_of_row (C := Tryz.checked) (s := OpenSpec.ofChange Rows.builtAddsSpec) own started (by kernel_rfl) Tryz.func3
    (witness_row_at (enc := enc) (C := Tryz.checked) false (World.doorLaid Tryz.prog 400 os) #[.agg #[.slice none 0 0, .slice none 0 0, .int .i64 0, .slice none 0 0, .slice none 0 0, .slice none 0 0], .agg #[.int .i64 0, .int .i64 0, .int .i64 0, .int .i64 0, .int .u8 0]] rfl (by kernel_rfl) (by kernel_rfl) (by kernel_rfl)
      (OpenSpec.preRow_of_cond 8 hx (by kernel_rfl) (fun k hk => by cases hk) (by kernel_rfl) (door_met os _))) ?_
  intro W base args ds gs before hval hW _ _ _ hL _ _
  exact contract H enc W base args ds gs before hval hW hL

theorem said : Rows.BuiltAddsSaid :=
  OpenClaim.holds_of_cond 3 Tryz.f3 rfl rfl rfl rfl rfl rfl rfl ⟨rfl, rfl, rfl, rfl, rfl⟩ rfl rfl rfl rfl rfl (by kernel_rfl) Tryz.func3 (by kernel_rfl)
    (of_decide_eq_true (by kernel_rfl)) (by unfold Func.isWrapper; first | (rw [if_pos (by decide +kernel)]; kernel_rfl) | (rw [if_neg (by decide +kernel)]; exact ⟨rfl, rfl⟩))
    (fun os started H enc _ F => by rw [OpenClaim.pre_eq_preRow]; exact lifted os started H enc F)

/-- No parameter wants a stand-in; the program's own looks are off: what the card asks. -/
theorem plain (f : FuncId) (fn : Func) (hf : Tryz.pinned.checked.prog.funcNamed "blueline/bluelinelaw08.BuiltAdds" = some f) (hfn : Tryz.pinned.checked.prog.funcs[f]? = some fn) :
    false = Tryz.pinned.checked.prog.looks [] ∧ ∀ (j : Nat) t, fn.params[j]? = some t → Tryz.pinned.checked.prog.wantsStandIn t = false := by
  obtain rfl : f = 3 := Option.some.inj ((show Tryz.prog.funcNamed "blueline/bluelinelaw08.BuiltAdds" = some 3 by kernel_rfl).symm.trans hf) |>.symm
  obtain rfl : fn = Tryz.f3 := (Option.some.inj (Tryz.func3.symm.trans hfn)).symm
  refine ⟨by kernel_rfl, fun j t ht => ?_⟩
  rw [Tryz.params3] at ht
  have hm : t ∈ [32, 34] := by simpa using Array.mem_of_getElem? ht
  have hall : ([32, 34].all fun u => !Tryz.prog.wantsStandIn u) = true := by kernel_rfl
  exact (show Tryz.prog.wantsStandIn t = false by simpa using List.all_eq_true.1 hall t hm)

/-- The card: machines with a report more, or the error, are as the document says, for every input; all stays. -/
theorem card : Rows.BuiltAddsCardSaid :=
  Claim7.holds_tied_plain_at .later [] _ _ _ _ said (fun _ h => by cases h) (by kernel_rfl) (fun _ h => by cases h) builtAdds_row_tie rfl ⟨rfl, rfl⟩ (by kernel_rfl) rfl plain (by kernel_rfl)

end Go.Proofs.YtoibnhkiedpkgaaGreatDoor.builtAdds
