/-
  stragglelaw10.PrintBack: the statement.
-/
import Derived.Test.YtafgincpoahefaaDoorPrC2s
namespace Go.Proofs.YtafgincpoahefaaDoor
open Go.ChangeShapes Go.WideShapes Go.ChangeAt Go.RowKit
set_option linter.unusedVariables false

/-- The statement. -/
theorem printBack_card : Rows.PrintBackCardSaid :=
  Claim7.holds_tied_plain_at .later [] _ _ _ _ printBack_said (fun _ h => by cases h) (by kernel_rfl) (fun _ h => by cases h) printBack_row_tie rfl ⟨rfl, rfl⟩ (by kernel_rfl) rfl printBack_plain (by kernel_rfl)

end Go.Proofs.YtafgincpoahefaaDoor
