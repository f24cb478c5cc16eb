/-
  The closed facts of the row of stragglelaw07.LexTells.
-/
import Derived.Test.YtafgincpoahefaaDoorLaidN
namespace Go.Proofs.YtafgincpoahefaaDoor
set_option maxRecDepth 100000 in
set_option maxHeartbeats 4000000 in
theorem lexTells_closed : joinedFacts Tryd.prog 12 Tryd.f12 (OpenSpec.ofChange Rows.lexTellsSpec).bare Rows.lexTellsRow = true := by
  simp only [joinedFacts, Bool.and_eq_true]
  repeat' apply And.intro
  all_goals as_aux_lemma => kernel_rfl

end Go.Proofs.YtafgincpoahefaaDoor
