/- Lemmas. -/
import Derived.Test.YtipaopbmklbmnaaGreatDoorT27
set_option linter.all false
set_option maxRecDepth 100000
set_option maxHeartbeats 0
namespace Go.Proofs.YtipaopbmklbmnaaGreatDoor
section
open Tryz
open Go.RowKit Go.Shelf
attribute [local go_sem] zAE Oper.grows Oper.growUpon Oper.wild Oper.wildUpon
theorem infoInts:(prog.info? 28).map (fun i=>(i.zero,i.size,i.bytes))=some (some (.slice none 0 0),1,24):=by kernel_rfl
structure BoxB (w:World) (B:Nat) (vr vn vm vh vs:Value) (o:Int) : Prop where
 c0:zK w B 0 vr
 c1:zK w B 1 vn
 c2:zK w B 2 (.int .i64 o)
 c3:zK w B 3 vm
 c4:zK w B 4 vh
 c5:zK w B 5 vs
theorem BoxB.ext {w w':World} {B:Nat} {vr vn vm vh vs:Value} {o:Int} (hb:Below w.heap.size w w') (h:BoxB w B vr vn vm vh vs o) : BoxB w' B vr vn vm vh vs o :=
 ⟨zC hb h.c0,zC hb h.c1,zC hb h.c2,zC hb h.c3,zC hb h.c4,zC hb h.c5⟩
theorem keepT_grown1 {es:List TypeId} {w w':World} {v:Nat} {cs:Array Value} {t:TypeId} (h:w.grownBy w' (some v)) (hl:Lay w v cs t) (hne:t ∉ es) : zFL es w w':=fun k cur e q he hc=>by
 refine (h.block k (Array.getElem?_eq_some_iff.1 hc).1 (fun hk=>?_)).trans hc;cases hk;rw [show w.heap[v]? = _ from hl] at hc;cases hc;exact hne he
theorem ints_flat (L:List Int) : L.flatMap (fun x=>[Value.int .i64 x])=L.map (Value.int .i64):=by
 induction L with
 | nil=>rfl
 | cons x L ih=>simp [List.flatMap_cons,ih]
end
end Go.Proofs.YtipaopbmklbmnaaGreatDoor
