/-
  The program's own main, as the cards of layer 9 have it.
-/
import Derived.Test.YtafgincpoahefaaDoorCards
import Derived.Test.YtafgincpoahefaaDoorTie
import Derived.ProofKit
namespace Go.Proofs.YtafgincpoahefaaDoor
set_option maxRecDepth 100000 in
theorem main_is : Tryd.pinned.checked.prog.mainIs = some (Rows.parseMayCard.stood.harness.1, Rows.parseMayCard.stood.harness.2.toList) := by kernel_rfl
end Go.Proofs.YtafgincpoahefaaDoor
