/- The reference: the number of the note by which a drawing has its letter. -/
import Derived.Test.YtjleiiinibdepaaGreatDoorK16
set_option linter.all false
set_option maxRecDepth 100000
set_option maxHeartbeats 12800000

namespace Go.Proofs.YtjleiiinibdepaaGreatDoor
open Tryz
open Go.RowKit
attribute [local go_sem] zAE Oper.grows Oper.growUpon
end Go.Proofs.YtjleiiinibdepaaGreatDoor
