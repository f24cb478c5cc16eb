/-
  stragglelaw09.ParseTells: the statement.
-/
import Derived.Test.YtafgincpoahefaaGreatDoorParCTs
import Derived.Test.YtafgincpoahefaaGreatDoorParM
import Derived.Test.YtafgincpoahefaaGreatDoorParGT
namespace Go.Proofs.YtafgincpoahefaaGreatDoor
open Go.ChangeShapes Go.WideShapes Go.ChangeAt Go.RowKit
set_option linter.unusedVariables false

/-- The statement. -/
theorem parseTells_card : Rows.ParseTellsCardSaid :=
  Claim7.holds_tied_plain_at .later [] _ _ _ _ parseTells_said (fun _ h => by cases h) (by kernel_rfl) (fun _ h => by cases h) parseTells_row_tie rfl ⟨rfl, rfl⟩ main_is rfl parseTells_plain parseTells_goes
end Go.Proofs.YtafgincpoahefaaGreatDoor
