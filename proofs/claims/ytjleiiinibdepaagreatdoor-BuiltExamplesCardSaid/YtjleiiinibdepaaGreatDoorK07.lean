/- The reference: which notes are in force for a machine; the letters of all drawings. -/
import Derived.Test.YtjleiiinibdepaaGreatDoorK01
import Derived.Test.YtjleiiinibdepaaGreatDoorK02
import Derived.Test.YtjleiiinibdepaaGreatDoorK05
import Derived.Test.YtjleiiinibdepaaGreatDoorK06
set_option linter.all false
set_option maxRecDepth 100000
set_option maxHeartbeats 12800000

namespace Go.Proofs.YtjleiiinibdepaaGreatDoor
open Tryz
open Go.RowKit
theorem zNI {w:World} {base g n cap:Nat} {e:TypeId} {sz:Nat} {cs:List Value} (h:w.ownsRow base e sz (.slice (some ⟨g,0,none⟩) n cap) n cs) (j:Nat) : w.frozen? ⟨g,j,none⟩=false:=by
 rcases h.2 with ⟨h,_⟩ | ⟨g',cap',cur,hv,_,hc,_⟩
 ·cases h
 ·cases hv
  unfold World.frozen?
  rw [hc]
  simp
end Go.Proofs.YtjleiiinibdepaaGreatDoor
