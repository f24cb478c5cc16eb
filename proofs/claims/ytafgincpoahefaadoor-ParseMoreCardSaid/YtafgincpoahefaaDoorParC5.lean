/-
  stragglelaw09.ParseMore: the statement.
-/
import Derived.Test.YtafgincpoahefaaDoorParC5s
import Derived.Test.YtafgincpoahefaaDoorParM
import Derived.Test.YtafgincpoahefaaDoorParG5
namespace Go.Proofs.YtafgincpoahefaaDoor
open Go.ChangeShapes Go.WideShapes Go.ChangeAt Go.RowKit
set_option linter.unusedVariables false

/-- The statement. -/
theorem parseMore_card : Rows.ParseMoreCardSaid :=
  Claim7.holds_tied_plain_at .later [] _ _ _ _ parseMore_said (fun _ h => by cases h) (by kernel_rfl) (fun _ h => by cases h) parseMore_row_tie rfl ⟨rfl, rfl⟩ main_is rfl parseMore_plain parseMore_goes
end Go.Proofs.YtafgincpoahefaaDoor
