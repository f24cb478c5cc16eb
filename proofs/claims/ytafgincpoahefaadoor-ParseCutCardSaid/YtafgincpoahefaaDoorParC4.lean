/-
  stragglelaw09.ParseCut: the statement.
-/
import Derived.Test.YtafgincpoahefaaDoorParC4s
import Derived.Test.YtafgincpoahefaaDoorParM
import Derived.Test.YtafgincpoahefaaDoorParG4
namespace Go.Proofs.YtafgincpoahefaaDoor
open Go.ChangeShapes Go.WideShapes Go.ChangeAt Go.RowKit
set_option linter.unusedVariables false

/-- The statement. -/
theorem parseCut_card : Rows.ParseCutCardSaid :=
  Claim7.holds_tied_plain_at .later [] _ _ _ _ parseCut_said (fun _ h => by cases h) (by kernel_rfl) (fun _ h => by cases h) parseCut_row_tie rfl ⟨rfl, rfl⟩ main_is rfl parseCut_plain parseCut_goes
end Go.Proofs.YtafgincpoahefaaDoor
