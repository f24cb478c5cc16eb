/-
  stragglelaw07.LexBad: walks of some of its cases.
-/
import Derived.Test.YtafgincpoahefaaDoorLexL2
namespace Go.Proofs.YtafgincpoahefaaDoor
open Go.RowKit
set_option maxRecDepth 100000 in
set_option maxHeartbeats 4000000 in
theorem lexBad_long (s : ByteArray) (c : Int) (hc : 0 ≤ c ∧ c ≤ 255) (hs : 300 < s.size) (w : World) (hG : GL w) : Calls Tryd.prog 16 #[.string s, .int .u8 c] w fun e w' => e = .returned (.bool true) ∧ Below w.heap.size w w' := by
  obtain ⟨hc0, hc1⟩ := hc
  go_enter Tryd.func16, Tryd.ntmps16
  go_wp2_with fail
  refine (wakes07 _ hG).mono ?_
  rintro e w9 ⟨rfl, hb9⟩
  go_wp2_with fail
  go_ret
  exact ⟨rfl, hb9⟩
set_option maxRecDepth 100000 in
set_option maxHeartbeats 4000000 in
theorem lexBad_k1 (s : ByteArray) (c : Int) (hc : 0 ≤ c ∧ c ≤ 255) (hs : s.size ≤ 300) (h1 : c = 32) (w : World) (hG : GL w) : Calls Tryd.prog 16 #[.string s, .int .u8 c] w fun e w' => e = .returned (.bool true) ∧ Below w.heap.size w w' := by
  obtain ⟨hc0, hc1⟩ := hc
  have cA := fun w hG => all_any s hs w hG
  have CA := Lib.hid cA; clear cA
  subst h1
  go_enter Tryd.func16, Tryd.ntmps16
  go_wp2_with fail
  go_loop [5, 6] (fun b i => ∃ (k : Nat) (b' : Bool), k ≤ 15 ∧ i = .int .i64 k ∧ b = .bool b' ∧ Hid (b' = true)) (fun _ i => 16 - (intOf i).toNat)
  case atStart => exact ⟨0, _, by omega, rfl, rfl, Lib.hid (by rfl)⟩
  case round =>
    obtain ⟨k, b', hk, rfl, rfl, HB⟩ := hrel
    by_cases hlt : k < 15
    · have HG0 := Lib.hid (kn_get k hlt)
      have hg1 := kn_lt k hlt
      cases b'
      · exact absurd HB.out (by decide)
      · go_wp2_with fail
        go_round
        case rel => exact ⟨k + 1, true, by omega, by go_num, rfl, Lib.hid (by rfl)⟩
        case measure => simp [intOf]; omega
    · obtain rfl : k = 15 := by omega
      have hbv : b' = true := HB.out
      subst hbv
      clear HB
      go_wp2_with fail
      refine (CA.out _ hG).mono ?_
      rintro e w1 ⟨v, p, cd, rfl, hb⟩
      go_wp2_with fail
      refine (wakes07 _ (hG.mono' hb (Nat.le_refl _))).mono ?_
      rintro e w9 ⟨rfl, hb9⟩
      go_wp2_with fail
      go_ret
      exact ⟨rfl, hb.trans (hb9.mono hb.size)⟩
set_option maxRecDepth 100000 in
set_option maxHeartbeats 4000000 in
theorem lexBad_k2 (s : ByteArray) (c : Int) (hc : 0 ≤ c ∧ c ≤ 255) (hs : s.size ≤ 300) (h1 : 48 ≤ c) (h2 : c ≤ 57) (w : World) (hG : GL w) : Calls Tryd.prog 16 #[.string s, .int .u8 c] w fun e w' => e = .returned (.bool true) ∧ Below w.heap.size w w' := by
  obtain ⟨hc0, hc1⟩ := hc
  have cA := fun w hG => all_any s hs w hG
  have CA := Lib.hid cA; clear cA
  have he : (c == 32) = false := by simp only [beq_eq_false_iff_ne]; omega
  go_enter Tryd.func16, Tryd.ntmps16
  go_wp2_with fail
  go_loop [5, 6] (fun b i => ∃ (k : Nat) (b' : Bool), k ≤ 15 ∧ i = .int .i64 k ∧ b = .bool b' ∧ Hid (b' = true)) (fun _ i => 16 - (intOf i).toNat)
  case atStart => exact ⟨0, _, by omega, rfl, rfl, Lib.hid (by rfl)⟩
  case round =>
    obtain ⟨k, b', hk, rfl, rfl, HB⟩ := hrel
    by_cases hlt : k < 15
    · have HG0 := Lib.hid (kn_get k hlt)
      have hg1 := kn_lt k hlt
      cases b'
      · exact absurd HB.out (by decide)
      · go_wp2_with fail
        go_round
        case rel => exact ⟨k + 1, true, by omega, by go_num, rfl, Lib.hid (by rfl)⟩
        case measure => simp [intOf]; omega
    · obtain rfl : k = 15 := by omega
      have hbv : b' = true := HB.out
      subst hbv
      clear HB
      go_wp2_with fail
      refine (CA.out _ hG).mono ?_
      rintro e w1 ⟨v, p, cd, rfl, hb⟩
      go_wp2_with fail
      refine (wakes07 _ (hG.mono' hb (Nat.le_refl _))).mono ?_
      rintro e w9 ⟨rfl, hb9⟩
      go_wp2_with fail
      go_ret
      exact ⟨rfl, hb.trans (hb9.mono hb.size)⟩
set_option maxRecDepth 100000 in
set_option maxHeartbeats 4000000 in
theorem lexBad_k3 (s : ByteArray) (c : Int) (hc : 0 ≤ c ∧ c ≤ 255) (hs : s.size ≤ 300) (h1 : 97 ≤ c) (h2 : c ≤ 122) (w : World) (hG : GL w) : Calls Tryd.prog 16 #[.string s, .int .u8 c] w fun e w' => e = .returned (.bool true) ∧ Below w.heap.size w w' := by
  obtain ⟨hc0, hc1⟩ := hc
  have cA := fun w hG => all_any s hs w hG
  have CA := Lib.hid cA; clear cA
  have he : (c == 32) = false := by simp only [beq_eq_false_iff_ne]; omega
  have he2 : decide (c ≤ 57) = false := by simp; omega
  go_enter Tryd.func16, Tryd.ntmps16
  go_wp2_with fail
  go_loop [5, 6] (fun b i => ∃ (k : Nat) (b' : Bool), k ≤ 15 ∧ i = .int .i64 k ∧ b = .bool b' ∧ Hid (b' = true)) (fun _ i => 16 - (intOf i).toNat)
  case atStart => exact ⟨0, _, by omega, rfl, rfl, Lib.hid (by rfl)⟩
  case round =>
    obtain ⟨k, b', hk, rfl, rfl, HB⟩ := hrel
    by_cases hlt : k < 15
    · have HG0 := Lib.hid (kn_get k hlt)
      have hg1 := kn_lt k hlt
      cases b'
      · exact absurd HB.out (by decide)
      · go_wp2_with fail
        go_round
        case rel => exact ⟨k + 1, true, by omega, by go_num, rfl, Lib.hid (by rfl)⟩
        case measure => simp [intOf]; omega
    · obtain rfl : k = 15 := by omega
      have hbv : b' = true := HB.out
      subst hbv
      clear HB
      go_wp2_with fail
      refine (CA.out _ hG).mono ?_
      rintro e w1 ⟨v, p, cd, rfl, hb⟩
      go_wp2_with fail
      refine (wakes07 _ (hG.mono' hb (Nat.le_refl _))).mono ?_
      rintro e w9 ⟨rfl, hb9⟩
      go_wp2_with fail
      go_ret
      exact ⟨rfl, hb.trans (hb9.mono hb.size)⟩
end Go.Proofs.YtafgincpoahefaaDoor
