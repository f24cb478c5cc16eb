/-
  The closed facts of the row of stragglelaw09.ParseMay.
-/
import Derived.Test.YtafgincpoahefaaDoorCards
import Derived.Test.YtafgincpoahefaaDoorTie
import Derived.ProofKit
import Derived.Deep.DeepHandedRow
namespace Go.Proofs.YtafgincpoahefaaDoor
set_option maxRecDepth 100000 in
set_option maxHeartbeats 4000000 in
theorem parseMay_closed : joinedFacts Tryd.prog 17 Tryd.f17 (OpenSpec.ofChange Rows.parseMaySpec).bare Rows.parseMayRow = true := by
  simp only [joinedFacts, Bool.and_eq_true]
  repeat' apply And.intro
  all_goals as_aux_lemma => kernel_rfl

end Go.Proofs.YtafgincpoahefaaDoor
