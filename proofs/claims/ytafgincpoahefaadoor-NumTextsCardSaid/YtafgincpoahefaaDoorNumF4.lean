/-
  The closed facts of the row of stragglelaw01.NumTexts.
-/
import Derived.Test.YtafgincpoahefaaDoorLaidN
namespace Go.Proofs.YtafgincpoahefaaDoor
set_option maxRecDepth 100000 in
set_option maxHeartbeats 4000000 in
theorem numTexts_closed : joinedFacts Tryd.prog 11 Tryd.f11 (OpenSpec.ofChange Rows.numTextsSpec).bare Rows.numTextsRow = true := by
  simp only [joinedFacts, Bool.and_eq_true]
  repeat' apply And.intro
  all_goals as_aux_lemma => kernel_rfl

end Go.Proofs.YtafgincpoahefaaDoor
