/-
  stragglelaw07.LexBad: walks of some of its cases.
-/
import Derived.Test.YtafgincpoahefaaDoorLexL2
namespace Go.Proofs.YtafgincpoahefaaDoor
open Go.RowKit
set_option maxRecDepth 100000 in
set_option maxHeartbeats 4000000 in
theorem lexBad_sx (s : ByteArray) (c : Int) (hc : 0 ≤ c ∧ c ≤ 255) (hs : s.size ≤ 300) (h1 : c < 48) (h2 : c ≠ 32) (hk : knB c 15 = true) (w : World) (hG : GL w) : Calls Tryd.prog 16 #[.string s, .int .u8 c] w fun e w' => e = .returned (.bool true) ∧ Below w.heap.size w w' := by
  obtain ⟨hc0, hc1⟩ := hc
  have cA := fun w hG => all_any s hs w hG
  have CA := Lib.hid cA; clear cA
  have HK := Lib.hid hk; clear hk
  have he : (c == 32) = false := by simpa using h2
  clear h2
  go_enter Tryd.func16, Tryd.ntmps16
  go_wp2_with fail
  go_loop [5, 6] (fun b i => ∃ (k : Nat) (b' : Bool), k ≤ 15 ∧ i = .int .i64 k ∧ b = .bool b' ∧ Hid (b' = knB c k)) (fun _ i => 16 - (intOf i).toNat)
  case atStart => exact ⟨0, _, by omega, rfl, rfl, Lib.hid (by rfl)⟩
  case round =>
    obtain ⟨k, b', hk, rfl, rfl, HB⟩ := hrel
    by_cases hlt : k < 15
    · have HG0 := Lib.hid (kn_get k hlt)
      have hg1 := kn_lt k hlt
      cases b'
      · go_wp2_with fail
        go_round
        case rel => exact ⟨k + 1, _, by omega, by go_num, rfl, Lib.hid (by rw [knB, ← HB.out, Bool.false_or, ← HG0.out])⟩
        case measure => simp [intOf]; omega
      · go_wp2_with fail
        go_round
        case rel => exact ⟨k + 1, true, by omega, by go_num, rfl, Lib.hid (by rw [knB, ← HB.out, Bool.true_or])⟩
        case measure => simp [intOf]; omega
    · obtain rfl : k = 15 := by omega
      have hbv : b' = true := by rw [HB.out]; exact HK.out
      subst hbv
      clear HB
      go_wp2_with fail
      refine (CA.out _ hG).mono ?_
      rintro e w1 ⟨v, p, cd, rfl, hb⟩
      go_wp2_with fail
      refine (wakes07 _ (hG.mono' hb (Nat.le_refl _))).mono ?_
      rintro e w9 ⟨rfl, hb9⟩
      go_wp2_with fail
      go_ret
      exact ⟨rfl, hb.trans (hb9.mono hb.size)⟩
set_option maxRecDepth 100000 in
set_option maxHeartbeats 4000000 in
theorem lexBad_ex (s : ByteArray) (c : Int) (hc : 0 ≤ c ∧ c ≤ 255) (hs : s.size ≤ 300) (h1 : c < 48) (h2 : c ≠ 32) (hk : knB c 15 = false) (p : Int) (ha : allOf s.data.toList = ([], p, 70)) (w : World) (hG : GL w) : Calls Tryd.prog 16 #[.string s, .int .u8 c] w fun e w' => e = .returned (.bool true) ∧ Below w.heap.size w w' := by
  obtain ⟨hc0, hc1⟩ := hc
  have cA := fun w hG => all_err s hs p ha w hG
  have CA := Lib.hid cA; clear cA ha
  have HK := Lib.hid hk; clear hk
  have he : (c == 32) = false := by simpa using h2
  clear h2
  go_enter Tryd.func16, Tryd.ntmps16
  go_wp2_with fail
  go_loop [5, 6] (fun b i => ∃ (k : Nat) (b' : Bool), k ≤ 15 ∧ i = .int .i64 k ∧ b = .bool b' ∧ Hid (b' = knB c k)) (fun _ i => 16 - (intOf i).toNat)
  case atStart => exact ⟨0, _, by omega, rfl, rfl, Lib.hid (by rfl)⟩
  case round =>
    obtain ⟨k, b', hk, rfl, rfl, HB⟩ := hrel
    by_cases hlt : k < 15
    · have HG0 := Lib.hid (kn_get k hlt)
      have hg1 := kn_lt k hlt
      cases b'
      · go_wp2_with fail
        go_round
        case rel => exact ⟨k + 1, _, by omega, by go_num, rfl, Lib.hid (by rw [knB, ← HB.out, Bool.false_or, ← HG0.out])⟩
        case measure => simp [intOf]; omega
      · go_wp2_with fail
        go_round
        case rel => exact ⟨k + 1, true, by omega, by go_num, rfl, Lib.hid (by rw [knB, ← HB.out, Bool.true_or])⟩
        case measure => simp [intOf]; omega
    · obtain rfl : k = 15 := by omega
      have hbv : b' = false := by rw [HB.out]; exact HK.out
      subst hbv
      clear HB
      go_wp2_with fail
      refine (CA.out _ hG).mono ?_
      rintro e w1 ⟨a, cap, rfl, hb⟩
      go_wp2_with fail
      refine (wakes07 _ (hG.mono' hb (Nat.le_refl _))).mono ?_
      rintro e w9 ⟨rfl, hb9⟩
      go_wp2_with fail
      go_ret
      exact ⟨rfl, hb.trans (hb9.mono hb.size)⟩
set_option maxRecDepth 100000 in
set_option maxHeartbeats 4000000 in
theorem lexBad_gx (s : ByteArray) (c : Int) (hc : 0 ≤ c ∧ c ≤ 255) (hs : s.size ≤ 300) (h1 : c < 48) (h2 : c ≠ 32) (hk : knB c 15 = false) (hg : good (yields 0 s.data.toList)) (w : World) (hG : GL w) : Calls Tryd.prog 16 #[.string s, .int .u8 c] w fun e w' => e = .returned (.bool true) ∧ Below w.heap.size w w' := by
  obtain ⟨hc0, hc1⟩ := hc
  have hkn := kn_none c ⟨hc0, hc1⟩ hk (by omega) (by omega) (by omega)
  have hlen : s.data.toList.length = s.size := by simp
  have hall := all_bad s.data.toList _ (by omega) hkn.1 hkn.2.1 hkn.2.2.1 hkn.2.2.2.1 hkn.2.2.2.2 hg
  rw [hlen] at hall
  have cA := fun w hG => all_code s hs hg w hG
  have cB := fun w hG => all_err' (s ++ ⟨#[UInt8.ofNat c.toNat]⟩) (by rw [ByteArray.size_append]; show s.size + 1 ≤ _; omega) s.size (by simpa using hall) w hG
  have CA := Lib.hid cA; clear cA hg hlen hall hkn
  have CB := Lib.hid cB; clear cB
  have HK := Lib.hid hk; clear hk
  have he : (c == 32) = false := by simpa using h2
  clear h2
  go_enter Tryd.func16, Tryd.ntmps16
  go_wp2_with fail
  go_loop [5, 6] (fun b i => ∃ (k : Nat) (b' : Bool), k ≤ 15 ∧ i = .int .i64 k ∧ b = .bool b' ∧ Hid (b' = knB c k)) (fun _ i => 16 - (intOf i).toNat)
  case atStart => exact ⟨0, _, by omega, rfl, rfl, Lib.hid (by rfl)⟩
  case round =>
    obtain ⟨k, b', hk, rfl, rfl, HB⟩ := hrel
    by_cases hlt : k < 15
    · have HG0 := Lib.hid (kn_get k hlt)
      have hg1 := kn_lt k hlt
      cases b'
      · go_wp2_with fail
        go_round
        case rel => exact ⟨k + 1, _, by omega, by go_num, rfl, Lib.hid (by rw [knB, ← HB.out, Bool.false_or, ← HG0.out])⟩
        case measure => simp [intOf]; omega
      · go_wp2_with fail
        go_round
        case rel => exact ⟨k + 1, true, by omega, by go_num, rfl, Lib.hid (by rw [knB, ← HB.out, Bool.true_or])⟩
        case measure => simp [intOf]; omega
    · obtain rfl : k = 15 := by omega
      have hbv : b' = false := by rw [HB.out]; exact HK.out
      subst hbv
      clear HB
      go_wp2_with fail
      refine (CA.out _ hG).mono ?_
      rintro e w1 ⟨v, p, rfl, hb⟩
      have hcv := one_byte w1 c
      go_wp2_with fail
      have hG2 := (hG.mono' hb (Nat.le_refl _)).alloc (.cells #[.int .u8 c] 5)
      refine (CB.out _ hG2).mono ?_
      rintro e w2 ⟨a, cap, rfl, hb2⟩
      have hb3 := (hb.alloc hb.size (.cells #[.int .u8 c] 5)).trans (hb2.mono (by have := hb.size; simp; omega))
      go_wp2_with fail
      refine (wakes07 _ (hG.mono' hb3 (Nat.le_refl _))).mono ?_
      rintro e w9 ⟨rfl, hb9⟩
      go_wp2_with fail
      go_ret
      exact ⟨rfl, hb3.trans (hb9.mono hb3.size)⟩
end Go.Proofs.YtafgincpoahefaaDoor
