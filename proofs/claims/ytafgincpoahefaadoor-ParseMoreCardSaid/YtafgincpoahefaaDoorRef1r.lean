/-
  straggleref01: Read, of digits alone.
-/
import Derived.Test.YtafgincpoahefaaDoorRef1
namespace Go.Proofs.YtafgincpoahefaaDoor
open Go.RowKit

theorem ref_most (w : World) : Calls Tryd.prog 134 #[] w fun e w' => e = .returned (.int .i64 9223372036854775807) ∧ w = w' := by
  go_enter Tryd.func134, Tryd.ntmps134
  go_wp2_with fail
  go_ret
  exact ⟨rfl, rfl⟩

/-- a byte of digits -/
theorem digit_at (s : ByteArray) (h : s.data.toList.all digB = true) (i : Nat) (hi : i < s.size) : 48 ≤ (s[i].toNat : Int) ∧ (s[i].toNat : Int) ≤ 57 := by
  have := List.all_eq_true.1 h (s.data.toList[i]'(by simpa using hi)) (List.getElem_mem _)
  rw [bytes_at s i hi, digB_iff] at this
  omega
/-- what is read of digits -/
theorem readOf_digits (l : List UInt8) (h : l.all digB = true) (hne : l ≠ []) : readOf l = if l.headD 0 = 48 ∧ 1 < l.length then (0, 11) else if decVal 0 l < 9223372036854775808 then ((decVal 0 l : Int), 0) else (0, 12) := by
  cases l with
  | nil => exact absurd rfl hne
  | cons c r =>
    rw [readOf_plain c r h]
    by_cases hz : c = 48 ∧ 1 < r.length + 1
    · rw [if_pos (show (c :: r).headD 0 = 48 ∧ 1 < (c :: r).length from hz), if_neg]
      obtain ⟨rfl, hr⟩ := hz
      intro hn
      cases r with
      | nil => simp at hr
      | cons d r => simp [numeral] at hn
    · rw [if_neg (show ¬ ((c :: r).headD 0 = 48 ∧ 1 < (c :: r).length) from hz), if_pos]
      simp only [List.all_cons, Bool.and_eq_true] at h
      simp only [numeral, h.1, h.2, Bool.true_and, Bool.or_eq_true, decide_eq_true_eq, List.isEmpty_iff]
      cases r with
      | nil => exact .inr rfl
      | cons d r =>
        left
        intro h48
        refine hz ⟨UInt8.toNat_inj.1 h48, ?_⟩
        simp

theorem tdiv_rule (d : Int) (h0 : 0 ≤ d) (h1 : d ≤ 9) (v : Nat) : (-9223372036854775808 + d).tdiv 10 ≤ -(v : Int) ↔ (v : Int) * 10 + d ≤ 9223372036854775808 := by
  have e : (-9223372036854775808 + d).tdiv 10 = -((9223372036854775808 - d) / 10) := by
    rw [show (-9223372036854775808 + d) = -(9223372036854775808 - d) from by omega, Int.neg_tdiv, Int.tdiv_eq_ediv_of_nonneg (by omega)]
  rw [e]
  omega
theorem dec_take (l : List UInt8) (k : Nat) (h : k < l.length) : decVal 0 (l.take (k + 1)) = decVal 0 (l.take k) * 10 + (l[k].toNat - 48) := by
  rw [List.take_succ_eq_append_getElem h, decVal_append]
  rfl
theorem dec_over (l : List UInt8) (k : Nat) : decVal 0 (l.take k) ≤ decVal 0 l := by
  conv => rhs; rw [← List.take_append_drop k l, decVal_append]
  exact decVal_ge _ _

set_option maxRecDepth 100000 in
set_option maxHeartbeats 2000000 in
theorem ref_Read_digits (s : ByteArray) (hs : s.size ≤ 140737488351232) (h : s.data.toList.all digB = true) (hpos : 0 < s.size) (w : World) : Calls Tryd.prog 108 #[.string s] w fun e w' =>
    e = .returned (.tuple #[.int .i64 (readOf s.data.toList).1, .int .i64 (readOf s.data.toList).2]) ∧ w = w' := by
  have hne : s.data.toList ≠ [] := by
    intro e
    have hl : s.data.toList.length = s.size := by simp
    rw [e] at hl
    simp only [List.length_nil] at hl
    omega
  have hrd := readOf_digits _ h hne
  rw [head_get s hpos, show s.data.toList.length = s.size from by simp] at hrd
  have hd0 := digit_at s h 0 hpos
  have hda := digit_at s h
  obtain ⟨x, hx⟩ : ∃ x : Int, (s[0].toNat : Int) = x := ⟨_, rfl⟩
  rw [hx] at hd0
  have hs0 : ((s.size : Int) == 0) = false := by simp only [beq_eq_false_iff_ne]; omega
  have hx45 : (x == 45) = false := by simp only [beq_eq_false_iff_ne]; omega
  by_cases hz : x = 48 ∧ 1 < s.size
  · obtain ⟨rfl, hz2⟩ := hz
    have h48 : s[0] = 48 := UInt8.toNat_inj.1 (by have : (48 : UInt8).toNat = 48 := rfl; omega)
    rw [if_pos ⟨h48, hz2⟩] at hrd
    have HR := Lib.hid hrd; clear hrd h48 hd0 hda h hne
    go_enter Tryd.func108, Tryd.ntmps108
    go_wp2_with fail
    go_ret2
    rw [HR.out]
    exact ⟨rfl, rfl⟩
  · have HZ := Lib.hid hz
    have hrd' : readOf s.data.toList = if decVal 0 s.data.toList < 9223372036854775808 then ((decVal 0 s.data.toList : Int), 0) else (0, 12) := by
      rw [hrd, if_neg]
      rintro ⟨h48, hz2⟩
      refine hz ⟨?_, hz2⟩
      rw [← hx, h48]; rfl
    have HR := Lib.hid hrd'; clear hrd hrd'
    have HDA := Lib.hid hda; clear hda
    have hz48 : ((x == 48) && decide ((1 : Int) < (s.size : Int))) = false := by
      by_cases e : x = 48
      · have : ¬ 1 < s.size := fun g => hz ⟨e, g⟩
        simp [e]; omega
      · simp [e]
    clear hz h hne
    have hgo : (x == 48) = false ∨ ((x == 48) = true ∧ s.size = 1) := by
      by_cases e : x = 48
      · right
        refine ⟨by simpa using e, ?_⟩
        have : ¬ 1 < s.size := fun g => HZ.out ⟨e, g⟩
        omega
      · left; simpa using e
    have hz48c : ((x == 48) && decide ((1 : Int) < (s.size : Int))) = false := hz48
    clear hz48
    rcases hgo with h48' | ⟨h48', hs1⟩
    case' inr => have hs1d : decide ((1 : Int) < (s.size : Int)) = false := by simp; omega
    all_goals
      clear hz48c
      go_enter Tryd.func108, Tryd.ntmps108
      go_wp2_with fail
      go_loop [6] (fun i => ∃ k : Nat, k ≤ s.size ∧ i = .int .i64 k) (fun i => s.size + 1 - (intOf i).toNat)
      case atStart => exact ⟨0, by omega, rfl⟩
      case round =>
        obtain ⟨k, hk, rfl⟩ := hrel
        by_cases hlt : k < s.size
        · obtain ⟨g0, g1⟩ := HDA.out k hlt
          obtain ⟨y, hy⟩ : ∃ y : Int, (s[k].toNat : Int) = y := ⟨_, rfl⟩
          rw [hy] at g0 g1
          go_wp2_with fail
          go_round
          case rel => exact ⟨k + 1, by omega, by go_num⟩
          case measure => simp [intOf]; omega
        · obtain rfl : k = s.size := by omega
          go_wp2_with fail
          go_loop [7, 8, 9] (fun n i _ => ∃ (k v : Nat), k ≤ s.size ∧ i = .int .i64 k ∧ n = .int .i64 (-(v : Int)) ∧ v ≤ 9223372036854775808 ∧ Hid (decVal 0 (s.data.toList.take k) = v)) (fun _ i _ => s.size + 1 - (intOf i).toNat)
          case atStart => exact ⟨0, 0, by omega, rfl, rfl, by omega, Lib.hid (by simp [decVal])⟩
          case round =>
            obtain ⟨k, v, hk, rfl, rfl, hv, HV⟩ := hrel
            by_cases hlt : k < s.size
            · obtain ⟨g0, g1⟩ := HDA.out k hlt
              obtain ⟨y, hy⟩ : ∃ y : Int, (s[k].toNat : Int) = y := ⟨_, rfl⟩
              rw [hy] at g0 g1
              have hst := dec_take s.data.toList k (by simpa using hlt)
              rw [bytes_at s k hlt, HV.out] at hst
              have hrule := tdiv_rule (y - 48) (by omega) (by omega) v
              have hov := dec_over s.data.toList (k + 1)
              have hyn : ((s[k].toNat - 48 : Nat) : Int) = y - 48 := by omega
              have HST := Lib.hid hst; clear hst
              have HOV := Lib.hid hov; clear hov
              have HYN := Lib.hid hyn; clear hyn
              by_cases hb : (v : Int) * 10 + (y - 48) ≤ 9223372036854775808
              · have g1 := hrule.2 hb
                have g2 : -9223372036854775808 + (y - 48) ≤ -(v : Int) * 10 := by omega
                have g3 : -9223372036854775808 ≤ -(v : Int) * 10 - (y - 48) := by omega
                have g4 : -(v : Int) * 10 ≤ 0 := by omega
                have g5 : -9223372036854775808 ≤ -(v : Int) * 10 := by omega
                have hnum : -(v : Int) * 10 - (y - 48) = -((v * 10 + (s[k].toNat - 48) : Nat) : Int) := by have := HYN.out; omega
                have HNUM := Lib.hid hnum; clear hnum hrule hb
                go_wp2_with (go_at_call 134; refine (ref_most _).mono ?_; rintro e w' ⟨rfl, rfl⟩)
                go_round
                case rel => exact ⟨k + 1, v * 10 + (s[k].toNat - 48), by omega, by go_num, by rw [← HNUM.out], by have := HNUM.out; omega, Lib.hid HST.out⟩
                case measure => simp [intOf]; omega
              · have g1 : -(v : Int) < (-9223372036854775808 + (y - 48)).tdiv 10 := by
                  rcases Int.lt_or_le (-(v : Int)) ((-9223372036854775808 + (y - 48)).tdiv 10) with h | h
                  · exact h
                  · exact absurd (hrule.1 h) hb
                have hover : ¬ decVal 0 s.data.toList < 9223372036854775808 := by
                  have h1 := HOV.out
                  rw [HST.out] at h1
                  have h2 := HYN.out
                  omega
                have HV2 := Lib.hid hover; clear hover hrule hb
                go_wp2_with (go_at_call 134; refine (ref_most _).mono ?_; rintro e w' ⟨rfl, rfl⟩)
                go_ret2
                rw [HR.out, if_neg HV2.out]
                exact ⟨rfl, rfl⟩
            · obtain rfl : k = s.size := by omega
              have hV := HV.out
              rw [List.take_of_length_le (by simp)] at hV
              have HV2 := Lib.hid hV; clear hV HV
              by_cases hvm : v = 9223372036854775808
              · subst hvm
                go_wp2_with (go_at_call 134; refine (ref_most _).mono ?_; rintro e w' ⟨rfl, rfl⟩)
                go_ret2
                rw [HR.out, HV2.out, if_neg (by omega)]
                exact ⟨rfl, rfl⟩
              · have hne : ((-(v : Int)) == -9223372036854775808) = false := by simp only [beq_eq_false_iff_ne]; omega
                go_wp2_with (go_at_call 134; refine (ref_most _).mono ?_; rintro e w' ⟨rfl, rfl⟩)
                go_ret2
                rw [HR.out, HV2.out, if_pos (by omega)]
                exact ⟨by simp, rfl⟩
end Go.Proofs.YtafgincpoahefaaDoor
