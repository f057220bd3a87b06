/-
  The anchor of StateAdds is true. Conditions: none.
-/
import Derived.Test.YtggkhhogpallbaaGreatDoorAdW
import Derived.Test.YtggkhhogpallbaaGreatDoorLedL
namespace Go.Proofs.YtggkhhogpallbaaGreatDoor
open Go.RowKit Go.Sx
set_option linter.unusedVariables false
set_option linter.unusedSimpArgs false
set_option linter.unnecessarySimpa false
set_option maxRecDepth 100000
theorem staWorks_spec {w0 w : World} {L : List Asn} (hL : ∀ w, St w0 L w → Laid w) (hs : St w0 L w) : Calls Tryz.prog 5 #[] w (Ret fun rv w' => rv = .bool true ∧ St w0 L w') :=
  adworks_spec (gok_all _ _) hs
end Go.Proofs.YtggkhhogpallbaaGreatDoor
