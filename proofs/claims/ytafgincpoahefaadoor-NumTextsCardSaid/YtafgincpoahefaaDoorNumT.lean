/-
  stragglelaw01.NumTexts: true of any text of at most 100 bytes and any digit. Conditions: none (the row lists the library's tables and errors that its road reads, as the program's text lays them).
-/
import Derived.Test.YtafgincpoahefaaDoorNumL1
import Derived.Test.YtafgincpoahefaaDoorNumP
import Derived.Lib.ItoaLen
namespace Go.Proofs.YtafgincpoahefaaDoor
open Go.ChangeShapes Go.WideShapes Go.ChangeAt Go.RowKit
set_option linter.unusedVariables false

theorem dig_more (D : ByteArray) (b0 b b' : Bool) (k : Nat) (hlt : k < D.size) (hb : b = true ↔ b0 = true ∧ ∀ j (_ : j < k) (h' : j < D.size), 48 ≤ ((D[j]'h').toNat : Int) ∧ ((D[j]'h').toNat : Int) ≤ 57)
    (hb' : b' = true ↔ b = true ∧ 48 ≤ ((D[k]'hlt).toNat : Int) ∧ ((D[k]'hlt).toNat : Int) ≤ 57) :
    b' = true ↔ b0 = true ∧ ∀ j (_ : j < k + 1) (h' : j < D.size), 48 ≤ ((D[j]'h').toNat : Int) ∧ ((D[j]'h').toNat : Int) ≤ 57 := by
  rw [hb', hb]
  constructor
  · rintro ⟨⟨h1, h2⟩, h3⟩
    refine ⟨h1, fun j h h' => ?_⟩
    by_cases e : j < k
    · exact h2 j e h'
    · obtain rfl : j = k := by omega
      exact h3
  · rintro ⟨h1, h2⟩
    exact ⟨⟨h1, fun j h h' => h2 j (by omega) h'⟩, h2 k (by omega) hlt⟩
theorem dig_end (D : ByteArray) (b0 b : Bool) (k : Nat) (hk : D.size ≤ k) (hb : b = true ↔ b0 = true ∧ ∀ j (_ : j < k) (h' : j < D.size), 48 ≤ ((D[j]'h').toNat : Int) ∧ ((D[j]'h').toNat : Int) ≤ 57) :
    b = true ↔ b0 = true ∧ ∀ j (h' : j < D.size), 48 ≤ ((D[j]'h').toNat : Int) ∧ ((D[j]'h').toNat : Int) ≤ 57 := by
  rw [hb]
  exact ⟨fun h => ⟨h.1, fun j h' => h.2 j (by omega) h'⟩, fun h => ⟨h.1, fun j _ h' => h.2 j h'⟩⟩

set_option maxRecDepth 100000 in
set_option maxHeartbeats 400000 in
theorem numTexts_far (s : ByteArray) (d : Int) (w : World) (hs : s.size ≤ 140737488351232) (hd : -9223372036854775808 ≤ d ∧ d ≤ 9223372036854775807) (hG : G w) (h : 100 < s.size ∨ ¬ (0 ≤ d ∧ d ≤ 9)) :
    Calls Tryd.prog 11 #[.string s, .int .i64 d] w fun e w' => e = .returned (.bool true) ∧ Below w.heap.size w w' := by
  have c3 := fun W => wakes01 W
  have C3 := Lib.hid c3; clear c3
  go_enter Tryd.func11, Tryd.ntmps11
  by_cases h1 : 100 < s.size
  · go_wp2_with fail
    refine (C3.out _ hG).mono ?_
    rintro e w1 ⟨rfl, hb1⟩
    go_wp2_with fail
    go_ret
    exact ⟨rfl, hb1⟩
  · by_cases h2 : d < 0
    · go_wp2_with fail
      refine (C3.out _ hG).mono ?_
      rintro e w1 ⟨rfl, hb1⟩
      go_wp2_with fail
      go_ret
      exact ⟨rfl, hb1⟩
    · go_wp2_with fail
      refine (C3.out _ hG).mono ?_
      rintro e w1 ⟨rfl, hb1⟩
      go_wp2_with fail
      go_ret
      exact ⟨rfl, hb1⟩

end Go.Proofs.YtafgincpoahefaaDoor
