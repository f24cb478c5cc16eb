/-
  The closed facts of the row of stragglelaw10.PrintTells.
-/
import Derived.Test.YtafgincpoahefaaDoorCards
import Derived.Test.YtafgincpoahefaaDoorTie
import Derived.ProofKit
import Derived.Deep.DeepHandedRow
namespace Go.Proofs.YtafgincpoahefaaDoor
set_option maxRecDepth 100000 in
set_option maxHeartbeats 4000000 in
theorem printTells_closed : joinedFacts Tryd.prog 3 Tryd.f3 (OpenSpec.ofChange Rows.printTellsSpec).bare Rows.printTellsRow = true := by
  simp only [joinedFacts, Bool.and_eq_true]
  repeat' apply And.intro
  all_goals as_aux_lemma => kernel_rfl

end Go.Proofs.YtafgincpoahefaaDoor
