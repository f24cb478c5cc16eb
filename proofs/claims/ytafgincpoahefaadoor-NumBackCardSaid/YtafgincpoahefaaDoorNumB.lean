/-
  stragglelaw01.NumBack: true of any two numbers, any text of at most 100 bytes, any number of bytes. Conditions: none (the row lists the library's tables and errors that its road reads, as the program's text lays them).
-/
import Derived.Test.YtafgincpoahefaaDoorNumL1
import Derived.Test.YtafgincpoahefaaDoorNumP
import Derived.Lib.ItoaLen
namespace Go.Proofs.YtafgincpoahefaaDoor
open Go.ChangeShapes Go.WideShapes Go.ChangeAt Go.RowKit
set_option linter.unusedVariables false

theorem wrap_pow (b : Int) (h0 : 0 ≤ b) (h7 : b ≤ 7) : wrap64 (2 ^ (8 * b).toNat) = 2 ^ (8 * b).toNat := by
  have hb : b = 0 ∨ b = 1 ∨ b = 2 ∨ b = 3 ∨ b = 4 ∨ b = 5 ∨ b = 6 ∨ b = 7 := by omega
  rcases hb with rfl | rfl | rfl | rfl | rfl | rfl | rfl | rfl <;> decide +kernel
theorem take_back (a b : Int) (h0 : 0 ≤ b) (h7 : b ≤ 7) (ha : 0 ≤ a) (hlt : a < wrap64 (2 ^ (8 * b).toNat)) : bytesNum 0 ((putOf a b).drop (putN b - 7)) = a := by
  rw [wrap_pow b h0 h7] at hlt
  rw [show putN b - 7 = 0 from by unfold putN; omega, List.drop_zero]
  exact put_back a b h0 h7 ha hlt

end Go.Proofs.YtafgincpoahefaaDoor
