/-
  The closed facts of the row of stragglelaw07.LexBack.
-/
import Derived.Test.YtafgincpoahefaaDoorLaidN
namespace Go.Proofs.YtafgincpoahefaaDoor
set_option maxRecDepth 100000 in
set_option maxHeartbeats 4000000 in
theorem lexBack_closed : joinedFacts Tryd.prog 13 Tryd.f13 (OpenSpec.ofChange Rows.lexBackSpec).bare Rows.lexBackRow = true := by
  simp only [joinedFacts, Bool.and_eq_true]
  repeat' apply And.intro
  all_goals as_aux_lemma => kernel_rfl

end Go.Proofs.YtafgincpoahefaaDoor
