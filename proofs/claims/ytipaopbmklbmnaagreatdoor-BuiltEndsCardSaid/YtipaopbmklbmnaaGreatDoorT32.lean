/- Lemmas. -/
import Derived.Test.YtipaopbmklbmnaaGreatDoorT31
set_option linter.all false
set_option maxRecDepth 100000
set_option maxHeartbeats 0
namespace Go.Proofs.YtipaopbmklbmnaaGreatDoor
section
open Tryz
open Go.RowKit Go.Shelf
attribute [local go_sem] zAE Oper.grows Oper.growUpon
structure PLoop (wa wr:World) (z:Nat) (s:Span) : Prop where
 below:Below wa.heap.size wa wr
 lo:wa.heap.size<=z
 res:Lay wr z #[.int .i64 0,.int .i64 0] 40
 out:Lay wr (z+1) #[.int .i64 s.lo,.int .i64 s.hi] 40
theorem PLoop.ext {wa w w':World} {z:Nat} {s:Span} (hb:Below w.heap.size w w') (h:PLoop wa w z s) : PLoop wa w' z s:=⟨zA h.below hb,h.lo,h.res.ext hb,h.out.ext hb⟩
theorem PLoop.put {wa w:World} {z:Nat} {s:Span} (h:PLoop wa w z s) (t:Span) : PLoop wa ((w.setCell ⟨z+1,0,none⟩ (.int .i64 t.lo)).setCell ⟨z+1,1,none⟩ (.int .i64 t.hi)) z t :=
 ⟨zI (by have:=h.lo;omega) (zI (by have:=h.lo;omega) h.below),h.lo,zFX (zFX h.res (by omega) _ _) (by omega) _ _,zCF (zCF h.out 0 _) 1 _⟩
end
end Go.Proofs.YtipaopbmklbmnaaGreatDoor
