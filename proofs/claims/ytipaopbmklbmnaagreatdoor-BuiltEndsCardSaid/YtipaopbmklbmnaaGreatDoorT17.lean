/- Lemmas. -/
import Derived.Test.YtipaopbmklbmnaaGreatDoorT16
set_option linter.all false
set_option maxRecDepth 100000
set_option maxHeartbeats 0
namespace Go.Proofs.YtipaopbmklbmnaaGreatDoor

end Go.Proofs.YtipaopbmklbmnaaGreatDoor
