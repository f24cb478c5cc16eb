/-
 The program's own main, as the cards of layer 9 have it.
-/
import Derived.Test.YtnmpcdnbklmhkaaGreatDoorCards
import Derived.Test.YtnmpcdnbklmhkaaGreatDoorTie
import Derived.ProofKit
namespace Go.Proofs.YtnmpcdnbklmhkaaGreatDoor
set_option maxRecDepth 100000
theorem main_is:Tryz.pinned.checked.prog.mainIs=some (Rows.topTextCard.stood.harness.1,Rows.topTextCard.stood.harness.2.toList):=by kernel_rfl
end Go.Proofs.YtnmpcdnbklmhkaaGreatDoor
