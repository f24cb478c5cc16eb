/-
  The closed facts of the row of stragglelaw09.ParseTells.
-/
import Derived.Test.YtafgincpoahefaaGreatDoorCards
import Derived.Test.YtafgincpoahefaaGreatDoorTie
import Derived.ProofKit
import Derived.Deep.DeepHandedRow
namespace Go.Proofs.YtafgincpoahefaaGreatDoor
set_option maxRecDepth 100000 in
set_option maxHeartbeats 4000000 in
theorem parseTells_closed : joinedFacts Tryz.prog 3 Tryz.f3 (OpenSpec.ofChange Rows.parseTellsSpec).bare Rows.parseTellsRow = true := by
  simp only [joinedFacts, Bool.and_eq_true]
  repeat' apply And.intro
  all_goals as_aux_lemma => kernel_rfl

end Go.Proofs.YtafgincpoahefaaGreatDoor
