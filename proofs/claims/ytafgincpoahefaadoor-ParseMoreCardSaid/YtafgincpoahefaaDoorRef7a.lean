/-
  straggleref07: digit, letter, sign, run.
-/
import Derived.Test.YtafgincpoahefaaDoorLex6
namespace Go.Proofs.YtafgincpoahefaaDoor
open Go.RowKit

set_option maxHeartbeats 400000 in
theorem ref_digit (c : UInt8) (w : World) : Calls Tryd.prog 132 #[.int .u8 (c.toNat : Int)] w fun e w' => e = .returned (.bool (digB c)) ∧ w = w' := by
  have hd : digB c = decide (48 ≤ (c.toNat : Int) ∧ (c.toNat : Int) ≤ 57) := by unfold digB; congr 1; simp only [eq_iff_iff]; omega
  rw [hd]
  clear hd
  generalize (c.toNat : Int) = x
  go_enter Tryd.func132, Tryd.ntmps132
  go_wp2_with fail
  all_goals
    go_ret
    refine ⟨?_, rfl⟩
    congr 2
    simp
    try omega
set_option maxHeartbeats 400000 in
theorem ref_letter (c : UInt8) (w : World) : Calls Tryd.prog 133 #[.int .u8 (c.toNat : Int)] w fun e w' => e = .returned (.bool (letB c)) ∧ w = w' := by
  have hd : letB c = decide (97 ≤ (c.toNat : Int) ∧ (c.toNat : Int) ≤ 122) := by unfold letB; congr 1; simp only [eq_iff_iff]; omega
  rw [hd]
  clear hd
  generalize (c.toNat : Int) = x
  go_enter Tryd.func133, Tryd.ntmps133
  go_wp2_with fail
  all_goals
    go_ret
    refine ⟨?_, rfl⟩
    congr 2
    simp
    try omega

/-- is it among the first so many signs -/
def sgB (c : UInt8) : Nat → Bool
  | 0 => false
  | k + 1 => sgB c k || (((signL.getD k 0).toNat : Int) == (c.toNat : Int))
theorem sgB_all (c : UInt8) : sgB c 12 = signB c := by
  have e : ∀ d : UInt8, (((d.toNat : Int)) == (c.toNat : Int)) = (c == d) := by
    intro d
    by_cases h : c = d
    · subst h; rw [beq_self_eq_true, beq_self_eq_true]
    · have : ¬ (d.toNat : Int) = (c.toNat : Int) := fun g => h (UInt8.toNat_inj.1 (by omega)).symm
      rw [beq_eq_false_iff_ne.2 h, beq_eq_false_iff_ne.2 this]
  have e' : ∀ k, (((signL.getD k 0).toNat : Int) == (c.toNat : Int)) = (c == signL.getD k 0) := fun k => e _
  simp only [sgB, e']
  simp [signL, signB, Bool.or_assoc]
  rfl
theorem sgl_get (k : Nat) (hk : k < 12) : (((⟨#[33, 123, 125, 91, 93, 40, 41, 44, 59, 38, 43, 45]⟩ : ByteArray)[k]'hk).toNat : Int) = ((signL.getD k 0).toNat : Int) := by
  rw [← bytes_at ⟨#[33, 123, 125, 91, 93, 40, 41, 44, 59, 38, 43, 45]⟩ k hk, List.getD_eq_getElem?_getD, List.getElem?_eq_getElem (show k < signL.length from hk)]
  rfl
theorem sgl_lt (k : Nat) (hk : k < 12) : (((⟨#[33, 123, 125, 91, 93, 40, 41, 44, 59, 38, 43, 45]⟩ : ByteArray)[k]'hk).toNat : Int) < 256 := by
  have := ((⟨#[33, 123, 125, 91, 93, 40, 41, 44, 59, 38, 43, 45]⟩ : ByteArray)[k]'hk).toNat_lt
  omega
theorem sgB_mono (c : UInt8) : ∀ (d k : Nat), sgB c k = true → sgB c (k + d) = true
  | 0, k, h => h
  | d + 1, k, h => by rw [← Nat.add_assoc, sgB, sgB_mono c d k h]; rfl

set_option maxHeartbeats 1000000 in
theorem ref_sign (c : UInt8) (w : World) : Calls Tryd.prog 81 #[.int .u8 (c.toNat : Int)] w fun e w' => e = .returned (.bool (signB c)) ∧ w = w' := by
  have hall := sgB_all c
  have HA := Lib.hid hall; clear hall
  go_enter Tryd.func81, Tryd.ntmps81
  go_wp2_with fail
  go_loop [3] (fun i => ∃ k : Nat, k ≤ 12 ∧ i = .int .i64 k ∧ Hid (sgB c k = false)) (fun i => 13 - (intOf i).toNat)
  case atStart => exact ⟨0, by omega, rfl, Lib.hid rfl⟩
  case round =>
    obtain ⟨k, hk, rfl, HB⟩ := hrel
    by_cases hlt : k < 12
    · have hg := sgl_get k hlt
      have hl := sgl_lt k hlt
      have hstep : sgB c (k + 1) = (sgB c k || (((signL.getD k 0).toNat : Int) == (c.toNat : Int))) := rfl
      rw [HB.out, Bool.false_or, ← hg] at hstep
      clear hg
      obtain ⟨x, hx⟩ : ∃ x : Int, (((⟨#[33, 123, 125, 91, 93, 40, 41, 44, 59, 38, 43, 45]⟩ : ByteArray)[k]'hlt).toNat : Int) = x := ⟨_, rfl⟩
      rw [hx] at hl hstep
      cases hb : (x == (c.toNat : Int))
      · rw [hb] at hstep
        have HS := Lib.hid hstep; clear hstep
        go_wp2_with fail
        go_round
        case rel => exact ⟨k + 1, by omega, by go_num, Lib.hid HS.out⟩
        case measure => simp [intOf]; omega
      · rw [hb] at hstep
        have hm := sgB_mono c (11 - k) (k + 1) hstep
        rw [show k + 1 + (11 - k) = 12 from by omega] at hm
        have HM := Lib.hid hm; clear hm hstep
        go_wp2_with fail
        go_ret
        exact ⟨by rw [← HA.out, HM.out]; rfl, rfl⟩
    · obtain rfl : k = 12 := by omega
      go_wp2_with fail
      go_ret
      exact ⟨by rw [← HA.out, HB.out]; rfl, rfl⟩
end Go.Proofs.YtafgincpoahefaaDoor
