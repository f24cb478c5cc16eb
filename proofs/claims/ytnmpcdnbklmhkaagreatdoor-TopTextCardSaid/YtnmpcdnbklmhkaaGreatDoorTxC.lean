/-
 straggletop.TopText: the statement.
-/
import Derived.Test.YtnmpcdnbklmhkaaGreatDoorTxS
import Derived.Test.YtnmpcdnbklmhkaaGreatDoorParM
import Derived.Test.YtnmpcdnbklmhkaaGreatDoorTxG
namespace Go.Proofs.YtnmpcdnbklmhkaaGreatDoor
set_option maxRecDepth 100000
open Go.ChangeShapes Go.WideShapes Go.ChangeAt Go.RowKit
set_option linter.unusedVariables false
theorem topText_card:Rows.TopTextCardSaid:=
 Claim7.holds_tied_plain_at .later [] _ _ _ _ KL (fun _ h=>by cases h) (by kernel_rfl) (fun _ h=>by cases h) topText_row_tie rfl ⟨rfl,rfl⟩ main_is rfl IW KO
end Go.Proofs.YtnmpcdnbklmhkaaGreatDoor
