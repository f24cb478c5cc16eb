/-
  The closed facts of the row of stragglelaw10.PrintApart.
-/
import Derived.Test.YtafgincpoahefaaDoorCards
import Derived.Test.YtafgincpoahefaaDoorTie
import Derived.ProofKit
import Derived.Deep.DeepHandedRow
namespace Go.Proofs.YtafgincpoahefaaDoor
set_option maxRecDepth 100000 in
set_option maxHeartbeats 4000000 in
theorem printApart_closed : joinedFacts Tryd.prog 7 Tryd.f7 (OpenSpec.ofChange Rows.printApartSpec).bare Rows.printApartRow = true := by
  simp only [joinedFacts, Bool.and_eq_true]
  repeat' apply And.intro
  all_goals as_aux_lemma => kernel_rfl

end Go.Proofs.YtafgincpoahefaaDoor
