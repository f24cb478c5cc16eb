/-
  stragglelaw07.LexBack: the walks of texts that are too long, or none.
-/
import Derived.Test.YtafgincpoahefaaDoorLexL4
namespace Go.Proofs.YtafgincpoahefaaDoor
open Go.RowKit

set_option maxRecDepth 100000 in
theorem lexBack_long (s : ByteArray) (hs : 3000 < s.size) (w : World) (hG : GL w) : Calls Tryd.prog 13 #[.string s] w fun e w' => e = .returned (.bool true) ∧ Below w.heap.size w w' := by
  go_enter Tryd.func13, Tryd.ntmps13
  go_wp2_with fail
  refine (wakes07 _ hG).mono ?_
  rintro e w9 ⟨rfl, hb9⟩
  go_wp2_with fail
  go_ret
  exact ⟨rfl, hb9⟩
set_option maxRecDepth 100000 in
theorem lexBack_over (s : ByteArray) (hs : 2000 < s.size) (hs2 : s.size ≤ 3000) (w : World) (hG : GL w) : Calls Tryd.prog 13 #[.string s] w fun e w' => e = .returned (.bool true) ∧ Below w.heap.size w w' := by
  have cA := fun w hG => lex_All_at s (by omega) [] 2000 91 0 rfl (by unfold allOf; rw [if_pos (by simpa using hs)]) w hG
  have CA := Lib.hid cA; clear cA
  go_enter Tryd.func13, Tryd.ntmps13
  go_wp2_with fail
  refine (CA.out _ hG).mono ?_
  rintro e w1 ⟨a, cap, rfl, _, _, hb⟩
  go_wp2_with fail
  refine (wakes07 _ (hG.mono' hb (Nat.le_refl _))).mono ?_
  rintro e w9 ⟨rfl, hb9⟩
  go_wp2_with fail
  go_ret
  exact ⟨rfl, hb.trans (hb9.mono hb.size)⟩
set_option maxRecDepth 100000 in
theorem lexBack_err (s : ByteArray) (hs2 : s.size ≤ 2000) (p : Nat) (hp : p < s.size) (hc : s[p].toNat ≠ 32) (ha : allOf s.data.toList = ([], (p : Int), 70)) (w : World) (hG : GL w) : Calls Tryd.prog 13 #[.string s] w fun e w' => e = .returned (.bool true) ∧ Below w.heap.size w w' := by
  have cA := fun w hG => lex_All_at s (by omega) [] p 70 0 rfl ha w hG
  have CA := Lib.hid cA; clear cA ha
  have h0 : ((s[p].toNat : Int) == 32) = false := by simp only [beq_eq_false_iff_ne]; omega
  have h1 : ((s[p].toNat : Int) != 32) = true := by simp only [bne, h0]; rfl
  clear hc
  go_enter Tryd.func13, Tryd.ntmps13
  go_wp2_with fail
  refine (CA.out _ hG).mono ?_
  rintro e w1 ⟨a, cap, rfl, _, _, hb⟩
  go_wp2_with fail
  refine (wakes07 _ (hG.mono' hb (Nat.le_refl _))).mono ?_
  rintro e w9 ⟨rfl, hb9⟩
  go_wp2_with fail
  go_ret
  exact ⟨rfl, hb.trans (hb9.mono hb.size)⟩
end Go.Proofs.YtafgincpoahefaaDoor
