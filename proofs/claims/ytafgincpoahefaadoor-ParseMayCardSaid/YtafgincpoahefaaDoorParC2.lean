/-
  stragglelaw09.ParseMay: the statement.
-/
import Derived.Test.YtafgincpoahefaaDoorParC2s
import Derived.Test.YtafgincpoahefaaDoorParM
import Derived.Test.YtafgincpoahefaaDoorParG2
namespace Go.Proofs.YtafgincpoahefaaDoor
open Go.ChangeShapes Go.WideShapes Go.ChangeAt Go.RowKit
set_option linter.unusedVariables false

/-- The statement. -/
theorem parseMay_card : Rows.ParseMayCardSaid :=
  Claim7.holds_tied_plain_at .later [] _ _ _ _ parseMay_said (fun _ h => by cases h) (by kernel_rfl) (fun _ h => by cases h) parseMay_row_tie rfl ⟨rfl, rfl⟩ main_is rfl parseMay_plain parseMay_goes
end Go.Proofs.YtafgincpoahefaaDoor
