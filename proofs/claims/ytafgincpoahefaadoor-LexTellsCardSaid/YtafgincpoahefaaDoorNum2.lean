/-
  num: Take.
-/
import Derived.Test.YtafgincpoahefaaDoorNum1
namespace Go.Proofs.YtafgincpoahefaaDoor
open Go.RowKit

theorem or_byte (m x : Int) (h0 : 0 ≤ m) (h1 : m < 281474976710656) (hx0 : 0 ≤ x) (hx1 : x < 256) : bits .or .i64 (m * 256) (wrap64 x) = m * 256 + x := by
  rw [IntWalk.wrap64_in x (by omega)]
  obtain ⟨a, rfl⟩ := Int.eq_ofNat_of_zero_le h0
  obtain ⟨b, rfl⟩ := Int.eq_ofNat_of_zero_le hx0
  have e : (a * 256 ||| b) = a * 256 + b := by
    have := Nat.two_pow_add_eq_or_of_lt (i := 8) (b := b) (by omega) a
    rw [Nat.mul_comm a 256]
    exact this.symm
  show IntKind.i64.wrap ((BitVec.ofInt 64 (((a * 256 : Nat) : Int)) ||| BitVec.ofInt 64 (b : Int)).toNat : Int) = _
  rw [BitVec.toNat_or, ofInt_u64 _ (by omega), ofInt_u64 b (by omega), e, IntKind.wrap_i64]
  omega

theorem bytes_step (m x : Int) (k : Nat) (hm0 : 0 ≤ m) (hm1 : m < 256 ^ k) (hx : 0 ≤ x ∧ x < 256) : 0 ≤ m * 256 + x ∧ m * 256 + x < 256 ^ (k + 1) := by
  rw [Int.pow_succ]; omega
theorem bytes_small (m : Int) (k : Nat) (hm1 : m < 256 ^ k) (hk : k < 7) : m < 281474976710656 := by
  have hk' : k = 0 ∨ k = 1 ∨ k = 2 ∨ k = 3 ∨ k = 4 ∨ k = 5 ∨ k = 6 := by omega
  rcases hk' with rfl | rfl | rfl | rfl | rfl | rfl | rfl <;> simp only [Int.reducePow] at hm1 <;> omega

set_option maxHeartbeats 400000 in
theorem num_Take (l : List Int) (a : Option Addr) (c : Nat) (hcap : l.length ≤ c) (w : World) (hl : IntsAt w .u8 a l) (hb : ∀ x ∈ l, 0 ≤ x ∧ x < 256) :
    Calls Tryd.prog 47 #[.slice a l.length c] w fun e w' =>
    e = .returned (.int .i64 (bytesNum 0 (l.drop (l.length - 7)))) ∧ w = w' := by
  obtain ⟨hm, h2⟩ := hl
  by_cases h7 : 7 < l.length
  · obtain ⟨b, off, rfl, hc⟩ : ∃ b off, a = some ⟨b, off, none⟩ ∧ ∀ i, i < l.length → w.cell? ⟨b, off + i, none⟩ = some (.int .u8 (l.getD i 0)) := by
      rcases h2 with rfl | h2
      · simp at h7
      · exact h2
    have hmx : max (0 : Int) ((l.length : Int) - 7) = ((l.length - 7 : Nat) : Int) := by omega
    have hne : ¬ c = l.length - 7 := by omega
    clear h2
    go_enter Tryd.func47, Tryd.ntmps47
    go_wp2_with fail
    clear hmx hne
    go_loop [2, 4, 12] (fun n x i => ∃ (k : Nat) (m : Int), k ≤ 7 ∧ i = .int .i64 k ∧ n = .int .i64 m ∧ 0 ≤ m ∧ m < 256 ^ k ∧ bytesNum 0 (l.drop (l.length - 7)) = bytesNum m (l.drop (l.length - 7 + k))) (fun _ _ i => 8 - (intOf i).toNat)
    case atStart => exact ⟨0, 0, by omega, rfl, rfl, by omega, by decide, rfl⟩
    case round =>
      obtain ⟨k, m, hk, rfl, rfl, hm0, hm1, hs⟩ := hrel
      by_cases hlt : k < 7
      · have hcell := hc (l.length - 7 + k) (by omega)
        rw [← Nat.add_assoc] at hcell
        rw [List.drop_eq_getElem_cons (show l.length - 7 + k < l.length by omega), bytesNum] at hs
        have HS := Lib.hid hs; clear hs hc
        have hx := hb (l[l.length - 7 + k]'(by omega)) (List.getElem_mem _)
        have HX := Lib.hid hx; clear hx
        have hp := bytes_small m k hm1 hlt
        have HM := Lib.hid hm1; clear hm1
        go_wp2_with fail
        have e : l[l.length - 7 + k]?.getD 0 = l[l.length - 7 + k]'(by omega) := by rw [List.getElem?_eq_getElem (by omega)]; rfl
        have e' := bytes_step m _ k hm0 HM.out HX.out
        go_round
        case rel => exact ⟨k + 1, _, by omega, by go_num, by rw [e, or_byte _ _ hm0 hp HX.out.1 HX.out.2], e'.1, e'.2, by rw [HS.out]; rfl⟩
        case measure => simp [intOf]; omega
      · have HS := Lib.hid hs; clear hs hc
        have HM := Lib.hid hm1; clear hm1
        go_wp2_with fail
        go_ret
        rw [HS.out, List.drop_of_length_le (by omega)]
        exact ⟨rfl, rfl⟩
  · have hmx : max (0 : Int) ((l.length : Int) - 7) = 0 := by omega
    rw [show l.length - 7 = 0 from by omega, List.drop_zero]
    go_enter Tryd.func47, Tryd.ntmps47
    go_wp2_with fail
    clear hmx
    go_loop [2, 4, 12] (fun n x i => ∃ (k : Nat) (m : Int), k ≤ l.length ∧ i = .int .i64 k ∧ n = .int .i64 m ∧ 0 ≤ m ∧ m < 256 ^ k ∧ bytesNum 0 l = bytesNum m (l.drop k)) (fun _ _ i => 8 - (intOf i).toNat)
    case atStart => exact ⟨0, 0, by omega, rfl, rfl, by omega, by decide, rfl⟩
    case round =>
      obtain ⟨k, m, hk, rfl, rfl, hm0, hm1, hs⟩ := hrel
      by_cases hlt : k < l.length
      · obtain ⟨b, off, rfl, hc⟩ : ∃ b off, a = some ⟨b, off, none⟩ ∧ ∀ i, i < l.length → w.cell? ⟨b, off + i, none⟩ = some (.int .u8 (l.getD i 0)) := by
          rcases h2 with rfl | h2
          · simp at hlt
          · exact h2
        have hcell := hc k hlt
        rw [List.drop_eq_getElem_cons hlt, bytesNum] at hs
        have HS := Lib.hid hs; clear hs hc h2
        have hx := hb l[k] (List.getElem_mem _)
        have HX := Lib.hid hx; clear hx
        have hp := bytes_small m k hm1 (by omega)
        have HM := Lib.hid hm1; clear hm1
        go_wp2_with fail
        have e : l[k]?.getD 0 = l[k] := by rw [List.getElem?_eq_getElem (by omega)]; rfl
        have e' := bytes_step m _ k hm0 HM.out HX.out
        go_round
        case rel => exact ⟨k + 1, _, by omega, by go_num, by rw [or_byte _ _ hm0 hp HX.out.1 HX.out.2], e'.1, e'.2, by rw [HS.out]⟩
        case measure => simp [intOf]; omega
      · have HS := Lib.hid hs; clear hs h2
        have HM := Lib.hid hm1; clear hm1
        go_wp2_with fail
        go_ret
        rw [HS.out, List.drop_of_length_le (by omega)]
        exact ⟨rfl, rfl⟩
end Go.Proofs.YtafgincpoahefaaDoor
