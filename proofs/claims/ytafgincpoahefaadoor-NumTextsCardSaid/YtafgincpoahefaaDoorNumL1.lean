/-
  stragglelaw01.NumOver: true of any two numbers. Conditions: none (the row lists the library's tables and errors that its road reads, as the program's text lays them).
-/
import Derived.Test.YtafgincpoahefaaDoorNumW
import Derived.Test.YtafgincpoahefaaDoorLaidN
namespace Go.Proofs.YtafgincpoahefaaDoor
open Go.ChangeShapes Go.WideShapes Go.ChangeAt Go.RowKit
set_option linter.unusedVariables false

theorem ret_bool {b : Bool} (h : b = true) : Ending.returned (.bool b) = .returned (.bool true) := by rw [h]
theorem add_in (a b : Int) (ha : -9223372036854775808 ≤ a ∧ a ≤ 9223372036854775807) (hb : -9223372036854775808 ≤ b ∧ b ≤ 9223372036854775807)
    (h : -9223372036854775808 ≤ a + b ∧ a + b ≤ 9223372036854775807) : addOf a b = (a + b, 0) := by
  unfold addOf
  rw [IntWalk.wrap64_in _ h]
  by_cases h0 : b < 0
  · rw [if_neg (by simp [h0]; omega)]
  · rw [if_neg (by simp [h0]; omega)]
theorem add_out (a b : Int) (ha : -9223372036854775808 ≤ a ∧ a ≤ 9223372036854775807) (hb : -9223372036854775808 ≤ b ∧ b ≤ 9223372036854775807)
    (h : ¬ (-9223372036854775808 ≤ a + b ∧ a + b ≤ 9223372036854775807)) : addOf a b = (0, 12) := by
  unfold addOf
  have hw : wrap64 (a + b) = a + b + 18446744073709551616 ∧ b < 0 ∨ wrap64 (a + b) = a + b - 18446744073709551616 ∧ 0 ≤ b := by unfold wrap64; omega
  rcases hw with ⟨hw, h0⟩ | ⟨hw, h0⟩
  · rw [hw, if_pos (by simp [h0]; omega)]
  · rw [hw, if_pos (by simp [show ¬ b < 0 from by omega]; omega)]
theorem sub_in (a b : Int) (ha : -9223372036854775808 ≤ a ∧ a ≤ 9223372036854775807) (hb : -9223372036854775808 ≤ b ∧ b ≤ 9223372036854775807)
    (h : -9223372036854775808 ≤ a - b ∧ a - b ≤ 9223372036854775807) : subOf a b = (a - b, 0) := by
  unfold subOf
  rw [IntWalk.wrap64_in _ h]
  by_cases h0 : b < 0
  · rw [if_neg (by simp [h0]; omega)]
  · rw [if_neg (by simp [h0]; omega)]
theorem sub_out (a b : Int) (ha : -9223372036854775808 ≤ a ∧ a ≤ 9223372036854775807) (hb : -9223372036854775808 ≤ b ∧ b ≤ 9223372036854775807)
    (h : ¬ (-9223372036854775808 ≤ a - b ∧ a - b ≤ 9223372036854775807)) : subOf a b = (0, 12) := by
  unfold subOf
  have hw : wrap64 (a - b) = a - b - 18446744073709551616 ∧ b < 0 ∨ wrap64 (a - b) = a - b + 18446744073709551616 ∧ 0 ≤ b := by unfold wrap64; omega
  rcases hw with ⟨hw, h0⟩ | ⟨hw, h0⟩
  · rw [hw, if_pos (by simp [h0]; omega)]
  · rw [hw, if_pos (by simp [show ¬ b < 0 from by omega]; omega)]

set_option maxRecDepth 100000 in
set_option maxHeartbeats 1000000 in
theorem numOver_walk (a b : Int) (w : World) (ha : -9223372036854775808 ≤ a ∧ a ≤ 9223372036854775807) (hb : -9223372036854775808 ≤ b ∧ b ≤ 9223372036854775807) (hG : G w) :
    Calls Tryd.prog 9 #[.int .i64 a, .int .i64 b] w fun e w' => e = .returned (.bool true) ∧ Below w.heap.size w w' := by
  obtain ⟨x, y, hA, hA'⟩ : ∃ x y, addOf a b = (x, y) ∧ (y = 0 ∧ (-9223372036854775808 ≤ a + b ∧ a + b ≤ 9223372036854775807) ∨ y = 12 ∧ ¬ (-9223372036854775808 ≤ a + b ∧ a + b ≤ 9223372036854775807)) := by
    by_cases h : -9223372036854775808 ≤ a + b ∧ a + b ≤ 9223372036854775807
    · exact ⟨_, _, add_in a b ha hb h, .inl ⟨rfl, h⟩⟩
    · exact ⟨_, _, add_out a b ha hb h, .inr ⟨rfl, h⟩⟩
  obtain ⟨u, v, hS, hS'⟩ : ∃ x y, subOf a b = (x, y) ∧ (y = 0 ∧ (-9223372036854775808 ≤ a - b ∧ a - b ≤ 9223372036854775807) ∨ y = 12 ∧ ¬ (-9223372036854775808 ≤ a - b ∧ a - b ≤ 9223372036854775807)) := by
    by_cases h : -9223372036854775808 ≤ a - b ∧ a - b ≤ 9223372036854775807
    · exact ⟨_, _, sub_in a b ha hb h, .inl ⟨rfl, h⟩⟩
    · exact ⟨_, _, sub_out a b ha hb h, .inr ⟨rfl, h⟩⟩
  have HA := Lib.hid hA; clear hA
  have HS := Lib.hid hS; clear hS
  have c1 := num_Add_at a b x y HA.out w
  have c2 := num_Sub_at a b u v HS.out w
  have c3 := wakes01 w hG
  have C1 := Lib.hid c1; clear c1
  have C2 := Lib.hid c2; clear c2
  have C3 := Lib.hid c3; clear c3
  by_cases h0 : 0 ≤ b
  all_goals
    rcases hA' with ⟨rfl, h1⟩ | ⟨rfl, h1⟩ <;> rcases hS' with ⟨rfl, h2⟩ | ⟨rfl, h2⟩
    all_goals
      have d1 : decide (0 ≤ b) = decide (0 ≤ b) := rfl
      go_enter Tryd.func9, Tryd.ntmps9
      go_wp2_with fail
      refine C1.out.mono ?_
      rintro e w1 ⟨rfl, rfl⟩
      go_wp2_with fail
      refine C2.out.mono ?_
      rintro e w1 ⟨rfl, rfl⟩
      go_wp2_with fail
      all_goals
        refine C3.out.mono ?_
        rintro e w1 ⟨rfl, hb1⟩
        go_wp2_with fail
        go_ret
        exact ⟨ret_bool (by first | rfl | (simp; omega)), hb1⟩

end Go.Proofs.YtafgincpoahefaaDoor
