/- Lemmas. -/
import Derived.Test.YtipaopbmklbmnaaGreatDoorT06
set_option linter.all false
set_option maxRecDepth 100000
set_option maxHeartbeats 0
namespace Go.Proofs.YtipaopbmklbmnaaGreatDoor
section
open Tryz
open Go.RowKit
theorem zNI {w:World} {base g n cap:Nat} {e:TypeId} {sz:Nat} {cs:List Value} (h:w.ownsRow base e sz (.slice (some ⟨g,0,none⟩) n cap) n cs) (j:Nat) : w.frozen? ⟨g,j,none⟩=false:=by
 rcases h.2 with ⟨h,_⟩ | ⟨g',cap',cur,hv,_,hc,_⟩
 ·cases h
 ·cases hv;unfold World.frozen?;rw [hc];simp
end
end Go.Proofs.YtipaopbmklbmnaaGreatDoor
