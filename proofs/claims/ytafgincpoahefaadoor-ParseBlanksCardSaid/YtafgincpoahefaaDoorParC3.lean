/-
  stragglelaw09.ParseBlanks: the statement.
-/
import Derived.Test.YtafgincpoahefaaDoorParC3s
import Derived.Test.YtafgincpoahefaaDoorParM
import Derived.Test.YtafgincpoahefaaDoorParG3
namespace Go.Proofs.YtafgincpoahefaaDoor
open Go.ChangeShapes Go.WideShapes Go.ChangeAt Go.RowKit
set_option linter.unusedVariables false

/-- The statement. -/
theorem parseBlanks_card : Rows.ParseBlanksCardSaid :=
  Claim7.holds_tied_plain_at .later [] _ _ _ _ parseBlanks_said (fun _ h => by cases h) (by kernel_rfl) (fun _ h => by cases h) parseBlanks_row_tie rfl ⟨rfl, rfl⟩ main_is rfl parseBlanks_plain parseBlanks_goes
end Go.Proofs.YtafgincpoahefaaDoor
