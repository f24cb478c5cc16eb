/-
  The program's own main, as the cards of layer 9 have it.
-/
import Derived.Test.YtafgincpoahefaaGreatDoorCards
import Derived.Test.YtafgincpoahefaaGreatDoorTie
import Derived.ProofKit
namespace Go.Proofs.YtafgincpoahefaaGreatDoor
set_option maxRecDepth 100000 in
theorem main_is : Tryz.pinned.checked.prog.mainIs = some (Rows.parseTellsCard.stood.harness.1, Rows.parseTellsCard.stood.harness.2.toList) := by kernel_rfl
end Go.Proofs.YtafgincpoahefaaGreatDoor
