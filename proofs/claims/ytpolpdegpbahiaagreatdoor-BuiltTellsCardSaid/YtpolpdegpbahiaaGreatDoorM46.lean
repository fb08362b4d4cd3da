/- Arguments opened: a list of ints. -/
import Derived.Test.YtpolpdegpbahiaaGreatDoorM37
set_option linter.all false
set_option maxRecDepth 100000
set_option maxHeartbeats 12800000

namespace Go.Proofs.YtpolpdegpbahiaaGreatDoor
open Tryz
open Go.RowKit Go.ChangeShapes Go.WideShapes
section
variable {H : Type} {enc : TypeId × Value → H} {w : World} {sp : Nat → Bool} {hd : Bool}
theorem arg_ints {r : Reach} {b0 : Nat} {v : Value} {d : DataW H} {p : List MemPlace} (hv : Value.okWide prog w r b0 28 v) (h : DataW.Trod enc prog w 0 sp hd 28 v d p) :
  ∃ xs : List Int, Sl zAJ 1 w v xs := by
 obtain ⟨a, n, c, rfl⟩ := okWide_slice underlying28 hv
 obtain ⟨fuel, h⟩ := h
 have hc : prog.cellsOf 28 = 1 := by kernel_rfl
 have h' : DataW.trod enc prog w 0 sp hd fuel 28 (([Value.slice a n c].drop 0).take (prog.cellsOf 28)) = some (d, p) := by
  rw [hc]
  exact h
 obtain ⟨v', xs, e, hs, _⟩ := zLX (o := 0) (E := zAJ) (sz := 1) underlying28 hc (by kernel_rfl) (by decide) el_int h'
 have e2 : Value.slice a n c = v' := by simpa using e
 subst e2
 exact ⟨xs, hs⟩
end
end Go.Proofs.YtpolpdegpbahiaaGreatDoor
