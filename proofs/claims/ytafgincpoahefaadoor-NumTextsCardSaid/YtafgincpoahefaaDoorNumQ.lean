/-
  The plain law of the form of a number's text.
-/
import Derived.Test.YtafgincpoahefaaDoorNumP
import Derived.Laws.Strings
namespace Go.Proofs.YtafgincpoahefaaDoor
open Go.RowKit
set_option linter.unusedVariables false

theorem numeral_iff (l : List UInt8) : numeral l = true ↔ 0 < l.length ∧ (∀ j (h : j < l.length), 48 ≤ (l[j].toNat : Int) ∧ (l[j].toNat : Int) ≤ 57) ∧ ∀ h : 0 < l.length, (¬ (l[0].toNat : Int) = 48 ∨ l = [48]) := by
  cases l with
  | nil => simp [numeral]
  | cons c r =>
    have hall : (digB c && r.all digB) = true ↔ ∀ j (h : j < (c :: r).length), 48 ≤ ((c :: r)[j].toNat : Int) ∧ ((c :: r)[j].toNat : Int) ≤ 57 := by
      rw [show (digB c && r.all digB) = (c :: r).all digB from rfl, List.all_eq_true]
      constructor
      · intro h j hj
        have := (digB_iff _).1 (h _ (List.getElem_mem hj))
        omega
      · intro h x hx
        obtain ⟨j, hj, rfl⟩ := List.getElem_of_mem hx
        have := h j hj
        exact (digB_iff _).2 (by omega)
    have h48 : (decide (c.toNat ≠ 48) || r.isEmpty) = true ↔ (¬ (c.toNat : Int) = 48 ∨ c :: r = [48]) := by
      simp only [Bool.or_eq_true, decide_eq_true_eq, List.isEmpty_iff]
      by_cases hc : c.toNat = 48
      · obtain rfl : c = 48 := by rw [← UInt8.toNat_inj]; exact hc
        simp
      · simp [hc]; omega
    rw [show numeral (c :: r) = (digB c && r.all digB && (decide (c.toNat ≠ 48) || r.isEmpty)) from rfl, Bool.and_eq_true, hall, h48]
    exact ⟨fun h => ⟨by simp, h.1, fun _ => h.2⟩, fun h => ⟨h.2.1, h.2.2 (by simp)⟩⟩

theorem form_plain (s : ByteArray) (h1 : 0 < s.size) (hm : ¬ ((s[0]'h1).toNat : Int) = 45) (b0 b : Bool) (hb0 : b0 = true ↔ (0 < s.size ∧ ∀ h : 0 < s.size, (¬ ((s[0]'h).toNat : Int) = 48 ∨ (s.toList == [48]) = true)))
    (hb : b = true ↔ b0 = true ∧ ∀ j (h : j < s.size), 48 ≤ ((s[j]'h).toNat : Int) ∧ ((s[j]'h).toNat : Int) ≤ 57) : b = formOf s.data.toList := by
  have hlen : s.data.toList.length = s.size := by simp
  have hf : formOf s.data.toList = numeral s.data.toList := by
    have h0 : s.data.toList[0]'(by omega) = s[0] := bytes_at s 0 h1
    rcases hl : s.data.toList with _ | ⟨c, r⟩
    · rw [hl] at hlen; simp at hlen; omega
    · simp only [hl, List.getElem_cons_zero] at h0
      unfold formOf
      simp only
      rw [if_neg]
      intro hc
      rw [← h0, hc] at hm
      exact hm rfl
  rw [hf, Bool.eq_iff_iff, hb, hb0, numeral_iff]
  constructor
  · rintro ⟨⟨_, h2⟩, h3⟩
    refine ⟨by omega, fun j h => ?_, fun h => ?_⟩
    · have := h3 j (by omega)
      rw [bytes_at s j (by omega)]; exact this
    · rw [bytes_at s 0 h1]
      rcases h2 h1 with h4 | h4
      · exact .inl h4
      · right; rw [← ByteArray.toList_eq]; simpa using h4
  · rintro ⟨_, h2, h3⟩
    refine ⟨⟨h1, fun h => ?_⟩, fun j h => ?_⟩
    · rcases h3 (by omega) with h4 | h4
      · left; rw [bytes_at s 0 h1] at h4; exact h4
      · right; rw [ByteArray.toList_eq, h4]; rfl
    · have := h2 j (by omega)
      rw [bytes_at s j h] at this; exact this

theorem form_minus (s : ByteArray) (h1 : 0 < s.size) (hm : ((s[0]'h1).toNat : Int) = 45) (D : ByteArray) (hD : s.data.toList = 45 :: D.data.toList) (b0 b : Bool) (hb0 : b0 = true ↔ (0 < D.size ∧ ∀ h : 0 < D.size, (¬ ((D[0]'h).toNat : Int) = 48 ∨ (s.toList == [48]) = true)))
    (hb : b = true ↔ b0 = true ∧ ∀ j (h : j < D.size), 48 ≤ ((D[j]'h).toNat : Int) ∧ ((D[j]'h).toNat : Int) ≤ 57) : b = formOf s.data.toList := by
  have hlen : D.data.toList.length = D.size := by simp
  have hs : ¬ (s.toList == [48]) = true := by
    rw [ByteArray.toList_eq, hD]
    simp
  have hf : formOf s.data.toList = (numeral D.data.toList && decide (D.data.toList ≠ [48])) := by
    rw [hD]; rfl
  rw [hf, Bool.eq_iff_iff, hb, hb0, Bool.and_eq_true, numeral_iff, decide_eq_true_eq]
  constructor
  · rintro ⟨⟨h0, h2⟩, h3⟩
    have h4 := (h2 h0).resolve_right hs
    refine ⟨⟨by omega, fun j h => ?_, fun h => ?_⟩, fun h => ?_⟩
    · have := h3 j (by omega)
      rw [bytes_at D j (by omega)]; exact this
    · left; rw [bytes_at D 0 h0]; exact h4
    · have := bytes_at D 0 h0
      simp only [h, List.getElem_cons_zero] at this
      rw [← this] at h4
      exact h4 rfl
  · rintro ⟨⟨h0, h2, h3⟩, h5⟩
    refine ⟨⟨by omega, fun h => ?_⟩, fun j h => ?_⟩
    · have h4 := (h3 h0).resolve_right h5
      left; rw [bytes_at D 0 h] at h4; exact h4
    · have := h2 j (by omega)
      rw [bytes_at D j h] at this; exact this

theorem extract_one (s : ByteArray) (h1 : 0 < s.size) (hm : ((s[0]'h1).toNat : Int) = 45) : s.data.toList = 45 :: (s.extract 1 s.size).data.toList := by
  have h0 : s.data.toList[0]'(by simpa using h1) = s[0] := bytes_at s 0 h1
  rw [← ByteArray.toList_eq (s.extract 1 s.size), Lib.extract_toList]
  rcases hl : s.data.toList with _ | ⟨c, r⟩
  · have : s.data.toList.length = s.size := by simp
    rw [hl] at this; simp at this; omega
  · simp only [hl, List.getElem_cons_zero] at h0
    have hlen : s.data.toList.length = s.size := by simp
    rw [hl, List.length_cons] at hlen
    have hc : c = 45 := by rw [← UInt8.toNat_inj, h0]; show s[0].toNat = 45; omega
    subst hc
    simp only [List.drop_succ_cons, List.drop_zero]
    rw [List.take_of_length_le (by omega)]
end Go.Proofs.YtafgincpoahefaaDoor
