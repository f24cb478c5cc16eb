/-
  stragglelaw01.NumBack: true of any two numbers, any text of at most 100 bytes, any number of bytes. Conditions: none (the row lists the library's tables and errors that its road reads, as the program's text lays them).
-/
import Derived.Test.YtafgincpoahefaaDoorNumL3a
import Derived.Test.YtafgincpoahefaaDoorNumL3b
import Derived.Test.YtafgincpoahefaaDoorNumL3c
import Derived.Test.YtafgincpoahefaaDoorNumL3d
import Derived.Test.YtafgincpoahefaaDoorNumL1
import Derived.Test.YtafgincpoahefaaDoorNumP
import Derived.Lib.ItoaLen
namespace Go.Proofs.YtafgincpoahefaaDoor
open Go.ChangeShapes Go.WideShapes Go.ChangeAt Go.RowKit
set_option linter.unusedVariables false

set_option maxRecDepth 100000 in
set_option maxHeartbeats 4000000 in
theorem numBack_far (a b : Int) (s : ByteArray) (bytes : Int) (w : World) (ha : -9223372036854775808 ≤ a ∧ a ≤ 9223372036854775807) (hb : -9223372036854775808 ≤ b ∧ b ≤ 9223372036854775807)
    (hs : s.size ≤ 140737488351232) (hby : -9223372036854775808 ≤ bytes ∧ bytes ≤ 9223372036854775807) (hG : G w) (h100 : 100 < s.size) :
    Calls Tryd.prog 8 #[.int .i64 a, .int .i64 b, .string s, .int .i64 bytes] w fun e w' => e = .returned (.bool true) ∧ Below w.heap.size w w' := by
  have c3 := fun W => wakes01 W
  have C3 := Lib.hid c3; clear c3
  go_enter Tryd.func8, Tryd.ntmps8
  go_wp2_with fail
  refine (C3.out _ hG).mono ?_
  rintro e w1 ⟨rfl, hb1⟩
  go_wp2_with fail
  go_ret
  exact ⟨rfl, hb1⟩
theorem numBack_walk (a b : Int) (s : ByteArray) (bytes : Int) (w : World) (ha : -9223372036854775808 ≤ a ∧ a ≤ 9223372036854775807) (hb : -9223372036854775808 ≤ b ∧ b ≤ 9223372036854775807)
    (hs : s.size ≤ 140737488351232) (hby : -9223372036854775808 ≤ bytes ∧ bytes ≤ 9223372036854775807) (hG : G w) :
    Calls Tryd.prog 8 #[.int .i64 a, .int .i64 b, .string s, .int .i64 bytes] w fun e w' => e = .returned (.bool true) ∧ Below w.heap.size w w' := by
  by_cases h100 : 100 < s.size
  · exact numBack_far a b s bytes w ha hb hs hby hG h100
  have hia := readOf_itoa a ha
  have hil := Lib.itoa_length_le a ha.1 ha.2
  have hR0 := readOf_code s.data.toList
  obtain ⟨m, h, hR⟩ : ∃ m h, readOf s.data.toList = (m, h) := ⟨_, _, rfl⟩
  have hcode : (h = 0 ∧ Lib.itoa m = s.data.toList ∧ -9223372036854775808 ≤ m ∧ m ≤ 9223372036854775807) ∨ (¬ h = 0 ∧ m = 0) := by
    rcases hR0 with h0 | h0 | h0
    · rw [hR] at h0
      simp only at h0
      subst h0
      have hr := readOf_range s.data.toList
      rw [hR] at hr
      exact .inl ⟨rfl, readOf_back _ _ hR, hr⟩
    · rw [hR] at h0; cases h0; exact .inr ⟨by decide, rfl⟩
    · rw [hR] at h0; cases h0; exact .inr ⟨by decide, rfl⟩
  by_cases h1 : -9223372036854775808 ≤ a + b ∧ a + b ≤ 9223372036854775807 <;> by_cases h2 : -9223372036854775808 ≤ a - b ∧ a - b ≤ 9223372036854775807 <;> rcases hcode with ⟨rfl, hm, hmr⟩ | ⟨hh, rfl⟩
  · exact numBack_000 a b s bytes w ha hb hs hby hG h100 _ rfl hia hil (add_in a b ha hb h1) (sub_in a b ha hb h2) h1 h2 m hR hm hmr
  · exact numBack_001 a b s bytes w ha hb hs hby hG h100 _ rfl hia hil (add_in a b ha hb h1) (sub_in a b ha hb h2) h1 h2 h hR hh
  · exact numBack_010 a b s bytes w ha hb hs hby hG h100 _ rfl hia hil (add_in a b ha hb h1) (sub_out a b ha hb h2) h1 m hR hm hmr
  · exact numBack_011 a b s bytes w ha hb hs hby hG h100 _ rfl hia hil (add_in a b ha hb h1) (sub_out a b ha hb h2) h1 h hR hh
  · exact numBack_100 a b s bytes w ha hb hs hby hG h100 _ rfl hia hil (add_out a b ha hb h1) (sub_in a b ha hb h2) h2 m hR hm hmr
  · exact numBack_101 a b s bytes w ha hb hs hby hG h100 _ rfl hia hil (add_out a b ha hb h1) (sub_in a b ha hb h2) h2 h hR hh
  · exact numBack_110 a b s bytes w ha hb hs hby hG h100 _ rfl hia hil (add_out a b ha hb h1) (sub_out a b ha hb h2) m hR hm hmr
  · exact numBack_111 a b s bytes w ha hb hs hby hG h100 _ rfl hia hil (add_out a b ha hb h1) (sub_out a b ha hb h2) h hR hh
end Go.Proofs.YtafgincpoahefaaDoor
