/-
 The kp facts of the row of straggletop.TopText.
-/
import Derived.Test.YtnmpcdnbklmhkaaGreatDoorCards
import Derived.Test.YtnmpcdnbklmhkaaGreatDoorTie
import Derived.ProofKit
import Derived.Deep.DeepHandedRow
namespace Go.Proofs.YtnmpcdnbklmhkaaGreatDoor
set_option maxRecDepth 100000
set_option maxHeartbeats 4000000 in
theorem GS:joinedFacts Tryz.prog 3 Tryz.f3 (OpenSpec.ofChange Rows.topTextSpec).bare Rows.topTextRow=true:=by
 simp only[joinedFacts,Bool.and_eq_true]
 repeat' apply And.intro
 all_goals as_aux_lemma=>kernel_rfl
end Go.Proofs.YtnmpcdnbklmhkaaGreatDoor
