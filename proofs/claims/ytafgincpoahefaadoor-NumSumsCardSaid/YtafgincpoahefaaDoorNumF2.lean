/-
  The closed facts of the row of stragglelaw01.NumSums.
-/
import Derived.Test.YtafgincpoahefaaDoorLaidN
namespace Go.Proofs.YtafgincpoahefaaDoor
set_option maxRecDepth 100000 in
set_option maxHeartbeats 4000000 in
theorem numSums_closed : joinedFacts Tryd.prog 10 Tryd.f10 (OpenSpec.ofChange Rows.numSumsSpec).bare Rows.numSumsRow = true := by
  simp only [joinedFacts, Bool.and_eq_true]
  repeat' apply And.intro
  all_goals as_aux_lemma => kernel_rfl

end Go.Proofs.YtafgincpoahefaaDoor
