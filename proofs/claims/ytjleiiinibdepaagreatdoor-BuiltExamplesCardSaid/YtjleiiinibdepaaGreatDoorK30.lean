/- The reference: the truths that are left, shorter ones first. -/
import Derived.Test.YtjleiiinibdepaaGreatDoorK29
set_option linter.all false
set_option maxRecDepth 100000
set_option maxHeartbeats 12800000

namespace Go.Proofs.YtjleiiinibdepaaGreatDoor
open Tryz
open Go.RowKit Go.Shelf
attribute [local go_sem] zAE Oper.grows Oper.growUpon Oper.wild Oper.wildUpon
end Go.Proofs.YtjleiiinibdepaaGreatDoor
