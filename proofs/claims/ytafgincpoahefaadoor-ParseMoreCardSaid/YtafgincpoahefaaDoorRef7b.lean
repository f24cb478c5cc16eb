/-
  straggleref07: run.
-/
import Derived.Test.YtafgincpoahefaaDoorRef7a
namespace Go.Proofs.YtafgincpoahefaaDoor
open Go.RowKit

set_option maxHeartbeats 1000000 in
theorem ref_run_digits (s : ByteArray) (hs : s.size ≤ 140737488351232) (a : Nat) (ha : a ≤ s.size) (w : World) : Calls Tryd.prog 107 #[.string s, .int .i64 a, .bool true] w fun e w' => e = .returned (.int .i64 (lead digB (s.data.toList.drop a))) ∧ w = w' := by
  go_enter Tryd.func107, Tryd.ntmps107
  go_wp2_with fail
  go_loop [7] (fun i => ∃ k : Nat, a + k ≤ s.size ∧ i = .int .i64 k ∧ Hid (lead digB (s.data.toList.drop a) = k + lead digB (s.data.toList.drop (a + k)))) (fun i => s.size + 1 - (a + (intOf i).toNat))
  case atStart => exact ⟨0, by omega, rfl, Lib.hid (by simp)⟩
  case round =>
    obtain ⟨k, hk, rfl, HL⟩ := hrel
    by_cases hlt : a + k < s.size
    · have hst := lead_cons digB s[a + k] (s.data.toList.drop (a + k + 1))
      rw [← bytes_at s (a + k) hlt, ← List.drop_eq_getElem_cons (by simpa using hlt), bytes_at s (a + k) hlt] at hst
      have cF := fun w => ref_digit s[a + k] w
      cases hb : digB s[a + k]
      · rw [hb] at cF hst
        have HS := Lib.hid hst; clear hst
        have CF := Lib.hid cF; clear cF hb
        go_wp2_with fail
        refine (CF.out _).mono ?_
        rintro e w' ⟨rfl, rfl⟩
        go_wp2_with fail
        go_ret
        exact ⟨by rw [HL.out, HS.out]; simp, rfl⟩
      · rw [hb] at cF hst
        have HS := Lib.hid hst; clear hst
        have CF := Lib.hid cF; clear cF hb
        go_wp2_with fail
        refine (CF.out _).mono ?_
        rintro e w' ⟨rfl, rfl⟩
        go_wp2_with fail
        go_round
        case rel => exact ⟨k + 1, by omega, by go_num, Lib.hid (by rw [HL.out, HS.out]; simp only [if_true]; rw [show a + (k + 1) = a + k + 1 from by omega]; omega)⟩
        case measure => simp [intOf]; omega
    · have he : s.data.toList.drop (a + k) = [] := List.drop_of_length_le (by simp; omega)
      have HE := Lib.hid he; clear he
      go_wp2_with fail
      go_ret
      exact ⟨by rw [HL.out, HE.out]; simp [lead_nil], rfl⟩
set_option maxHeartbeats 1000000 in
theorem ref_run_letters (s : ByteArray) (hs : s.size ≤ 140737488351232) (a : Nat) (ha : a ≤ s.size) (w : World) : Calls Tryd.prog 107 #[.string s, .int .i64 a, .bool false] w fun e w' => e = .returned (.int .i64 (lead letB (s.data.toList.drop a))) ∧ w = w' := by
  go_enter Tryd.func107, Tryd.ntmps107
  go_wp2_with fail
  go_loop [7] (fun i => ∃ k : Nat, a + k ≤ s.size ∧ i = .int .i64 k ∧ Hid (lead letB (s.data.toList.drop a) = k + lead letB (s.data.toList.drop (a + k)))) (fun i => s.size + 1 - (a + (intOf i).toNat))
  case atStart => exact ⟨0, by omega, rfl, Lib.hid (by simp)⟩
  case round =>
    obtain ⟨k, hk, rfl, HL⟩ := hrel
    by_cases hlt : a + k < s.size
    · have hst := lead_cons letB s[a + k] (s.data.toList.drop (a + k + 1))
      rw [← bytes_at s (a + k) hlt, ← List.drop_eq_getElem_cons (by simpa using hlt), bytes_at s (a + k) hlt] at hst
      have cF := fun w => ref_letter s[a + k] w
      cases hb : letB s[a + k]
      · rw [hb] at cF hst
        have HS := Lib.hid hst; clear hst
        have CF := Lib.hid cF; clear cF hb
        go_wp2_with fail
        refine (CF.out _).mono ?_
        rintro e w' ⟨rfl, rfl⟩
        go_wp2_with fail
        go_ret
        exact ⟨by rw [HL.out, HS.out]; simp, rfl⟩
      · rw [hb] at cF hst
        have HS := Lib.hid hst; clear hst
        have CF := Lib.hid cF; clear cF hb
        go_wp2_with fail
        refine (CF.out _).mono ?_
        rintro e w' ⟨rfl, rfl⟩
        go_wp2_with fail
        go_round
        case rel => exact ⟨k + 1, by omega, by go_num, Lib.hid (by rw [HL.out, HS.out]; simp only [if_true]; rw [show a + (k + 1) = a + k + 1 from by omega]; omega)⟩
        case measure => simp [intOf]; omega
    · have he : s.data.toList.drop (a + k) = [] := List.drop_of_length_le (by simp; omega)
      have HE := Lib.hid he; clear he
      go_wp2_with fail
      go_ret
      exact ⟨by rw [HL.out, HE.out]; simp [lead_nil], rfl⟩
end Go.Proofs.YtafgincpoahefaaDoor
