/-
  The plain laws of numbers' texts and bytes.
-/
import Derived.Test.YtafgincpoahefaaDoorRead
import Derived.Lib.ParseIntBTie
namespace Go.Proofs.YtafgincpoahefaaDoor
open Go.RowKit
set_option linter.unusedVariables false

def decVal (acc : Nat) (l : List UInt8) : Nat := l.foldl (fun a c => a * 10 + (c.toNat - 48)) acc
theorem decVal_cons (acc : Nat) (c : UInt8) (l : List UInt8) : decVal acc (c :: l) = decVal (acc * 10 + (c.toNat - 48)) l := by unfold decVal; rw [List.foldl_cons]
theorem decVal_append (acc : Nat) (l r : List UInt8) : decVal acc (l ++ r) = decVal (decVal acc l) r := List.foldl_append
theorem decVal_ge : ∀ (l : List UInt8) (acc : Nat), acc ≤ decVal acc l
  | [], acc => Nat.le_refl _
  | c :: l, acc => by rw [decVal_cons]; have := decVal_ge l (acc * 10 + (c.toNat - 48)); omega
theorem digB_iff (c : UInt8) : digB c = true ↔ 48 ≤ c.toNat ∧ c.toNat ≤ 57 := by simp [digB]

theorem parse_digits (l : List UInt8) : ∀ acc : Nat, acc < 18446744073709551616 → l.all digB = true → Lib.parseUint10 acc l = if decVal acc l < 18446744073709551616 then .ok (decVal acc l) else .range := by
  induction l with
  | nil => intro acc h _; rw [if_pos (show decVal acc [] < _ from h)]; rfl
  | cons c l ih =>
    intro acc ha h
    simp only [List.all_cons, Bool.and_eq_true, digB_iff] at h
    have hd := decVal_ge l (acc * 10 + (c.toNat - 48))
    rw [Lib.parseUint10, if_pos h.1, decVal_cons]
    by_cases h1 : 1844674407370955162 ≤ acc
    · rw [if_pos h1, if_neg (by omega)]
    · rw [if_neg h1]
      by_cases h2 : 18446744073709551616 ≤ acc * 10 + (c.toNat - 48)
      · rw [if_pos h2, if_neg (by omega)]
      · rw [if_neg h2, ih _ (by omega) h.2]

theorem mag_digits (c : UInt8) (l : List UInt8) (h : (c :: l).all digB = true) : Lib.parseUintB 64 (c :: l) = if decVal 0 (c :: l) < 18446744073709551616 then .ok (decVal 0 (c :: l)) else .range := by
  rw [Lib.parseUintB_64]
  unfold Lib.parseMag
  rw [if_neg (by simp), parse_digits _ _ (by decide) h]

/-- a row of digits without a 0 ahead -/
def numeral (l : List UInt8) : Bool := match l with
  | [] => false
  | c :: r => digB c && r.all digB && (decide (c.toNat ≠ 48) || r.isEmpty)

theorem byte_digit (c : UInt8) (h : 48 ≤ c.toNat ∧ c.toNat ≤ 57) : UInt8.ofNat (48 + (c.toNat - 48)) = c := by
  rw [show 48 + (c.toNat - 48) = c.toNat from by omega]; exact UInt8.ofNat_toNat

theorem decDigits_val (u : Nat) : decVal 0 (Lib.decDigits u) = u := by
  induction u using Nat.strongRecOn with
  | _ u ih =>
    rw [Lib.decDigits]
    split
    · rename_i h
      simp only [decVal, List.foldl_cons, List.foldl_nil]
      rw [UInt8.toNat_ofNat_of_lt' (by show 48 + u < 256; omega)]; omega
    · rename_i h
      rw [decVal_append, ih _ (by omega)]
      simp only [decVal, List.foldl_cons, List.foldl_nil]
      rw [UInt8.toNat_ofNat_of_lt' (by show 48 + u % 10 < 256; omega)]; omega
theorem decDigits_snoc (u d : Nat) (hu : u ≠ 0) (hd : d < 10) : Lib.decDigits (u * 10 + d) = Lib.decDigits u ++ [UInt8.ofNat (48 + d)] := by
  rw [Lib.decDigits, dif_neg (by omega), show (u * 10 + d) / 10 = u from by omega, show (u * 10 + d) % 10 = d from by omega]
theorem numeral_snoc (l : List UInt8) (c : UInt8) (h : numeral l = true) (h0 : l ≠ [48]) (hc : digB c = true) : numeral (l ++ [c]) = true := by
  cases l with
  | nil => simp [numeral] at h
  | cons x r =>
    simp only [numeral, Bool.and_eq_true, Bool.or_eq_true, decide_eq_true_eq, List.cons_append, List.all_append, List.all_cons, List.all_nil] at h ⊢
    refine ⟨⟨h.1.1, h.1.2, hc, trivial⟩, .inl ?_⟩
    rcases h.2 with h2 | h2
    · exact h2
    · intro h3
      apply h0
      obtain rfl : r = [] := by simpa using h2
      obtain rfl : x = 48 := by rw [← UInt8.toNat_inj]; exact h3
      rfl
theorem numeral_decDigits (u : Nat) : numeral (Lib.decDigits u) = true ∧ (u ≠ 0 → Lib.decDigits u ≠ [48]) := by
  induction u using Nat.strongRecOn with
  | _ u ih =>
    have hne : u ≠ 0 → Lib.decDigits u ≠ [48] := by
      intro h h'
      have := decDigits_val u
      rw [h'] at this
      simp [decVal] at this
      omega
    refine ⟨?_, hne⟩
    rw [Lib.decDigits]
    split
    · rename_i h
      have h1 : (UInt8.ofNat (48 + u)).toNat = 48 + u := UInt8.toNat_ofNat_of_lt' (by show 48 + u < 256; omega)
      simp only [numeral, digB, h1]
      simp; omega
    · rename_i h
      have hh := ih (u / 10) (by omega)
      refine numeral_snoc _ _ hh.1 (hh.2 (by omega)) ?_
      have h1 : (UInt8.ofNat (48 + u % 10)).toNat = 48 + u % 10 := UInt8.toNat_ofNat_of_lt' (by show 48 + u % 10 < 256; omega)
      simp only [digB, h1]
      simp; omega
theorem numeral_append_left (l : List UInt8) (c : UInt8) (hl : l ≠ []) (h : numeral (l ++ [c]) = true) : numeral l = true ∧ l ≠ [48] ∧ digB c = true := by
  cases l with
  | nil => exact absurd rfl hl
  | cons x r =>
    simp only [numeral, Bool.and_eq_true, Bool.or_eq_true, decide_eq_true_eq, List.cons_append, List.all_append, List.all_cons, List.all_nil] at h ⊢
    have hx : x.toNat ≠ 48 := by
      rcases h.2 with h2 | h2
      · exact h2
      · simp at h2
    refine ⟨⟨⟨h.1.1, h.1.2.1⟩, .inl hx⟩, ?_, h.1.2.2.1⟩
    intro h3
    injection h3 with h3 h4
    subst h3
    exact hx rfl
theorem numeral_pos (l : List UInt8) (h : numeral l = true) (h0 : l ≠ [48]) : decVal 0 l ≠ 0 := by
  cases l with
  | nil => simp [numeral] at h
  | cons x r =>
    simp only [numeral, Bool.and_eq_true, Bool.or_eq_true, decide_eq_true_eq, digB_iff] at h
    rw [decVal_cons]
    have := decVal_ge r (0 * 10 + (x.toNat - 48))
    rcases h.2 with h2 | h2
    · omega
    · obtain rfl : r = [] := by simpa using h2
      have : x.toNat ≠ 48 := by
        intro h3
        apply h0
        obtain rfl : x = 48 := by rw [← UInt8.toNat_inj]; exact h3
        rfl
      omega
theorem numeral_digits : ∀ (n : Nat) (l : List UInt8), l.length = n → numeral l = true → Lib.decDigits (decVal 0 l) = l := by
  intro n
  induction n with
  | zero => intro l hl h; obtain rfl := List.eq_nil_of_length_eq_zero hl; simp [numeral] at h
  | succ n ih =>
    intro l hl h
    rcases List.eq_nil_or_concat l with rfl | ⟨r, c, rfl⟩
    · simp at hl
    · rw [List.concat_eq_append] at h hl ⊢
      by_cases hr : r = []
      · subst hr
        simp only [List.nil_append, numeral, Bool.and_eq_true, digB_iff] at h ⊢
        simp only [decVal, List.foldl_cons, List.foldl_nil]
        rw [Lib.decDigits_one (by omega)]
        have := byte_digit c h.1.1
        rw [show 48 + (0 * 10 + (c.toNat - 48)) = 48 + (c.toNat - 48) from by omega, this]
      · obtain ⟨h1, h2, h3⟩ := numeral_append_left r c hr h
        have hv := ih r (by simpa using hl) h1
        rw [decVal_append]
        rw [digB_iff] at h3
        have hp := numeral_pos r h1 h2
        rw [show decVal (decVal 0 r) [c] = decVal 0 r * 10 + (c.toNat - 48) from rfl, decDigits_snoc _ _ hp (by omega), hv, byte_digit c h3]

theorem numeral_all (l : List UInt8) (h : numeral l = true) : l.all digB = true := by
  cases l with
  | nil => rfl
  | cons c r => simp only [numeral, Bool.and_eq_true, List.all_cons] at h ⊢; exact h.1

/-- a text without a sign, of digits -/
theorem readOf_plain (c : UInt8) (r : List UInt8) (h : (c :: r).all digB = true) :
    readOf (c :: r) = if numeral (c :: r) = true then (if decVal 0 (c :: r) < 9223372036854775808 then ((decVal 0 (c :: r) : Int), 0) else (0, 12)) else (0, 11) := by
  have hc : 48 ≤ c.toNat ∧ c.toNat ≤ 57 := by
    simp only [List.all_cons, Bool.and_eq_true, digB_iff] at h; exact h.1
  have hr : r.all digB = true := by simp only [List.all_cons, Bool.and_eq_true] at h; exact h.2
  have hf : formB (c :: r) = true := by
    simp only [formB, okB, Bool.and_eq_true, Bool.or_eq_true, digB_iff]; exact ⟨.inl hc, hr⟩
  have hnum : numeral (c :: r) = true ↔ (c.toNat ≠ 48 ∨ r = []) := by
    simp only [numeral, Bool.and_eq_true, Bool.or_eq_true, decide_eq_true_eq, digB_iff, List.isEmpty_iff]
    constructor
    · exact fun h => h.2
    · exact fun h => ⟨⟨hc, hr⟩, h⟩
  have htrim : Lib.trimPrefix (c :: r) [45] = c :: r := by
    unfold Lib.trimPrefix Lib.hasPrefix
    rw [if_neg]
    simp only [List.isPrefixOf, Bool.and_true, beq_iff_eq]
    intro h'
    rw [← h'] at hc
    exact absurd hc (by decide)
  have hpre : Lib.hasPrefix (c :: r) [48] = true ↔ c.toNat = 48 := by
    unfold Lib.hasPrefix
    simp only [List.isPrefixOf, Bool.and_true, beq_iff_eq]
    constructor
    · rintro rfl; rfl
    · intro h'; rw [← UInt8.toNat_inj]; exact h'.symm
  unfold readOf
  rw [if_pos hf]
  have hat : Lib.parseIntB 64 (c :: r) = if decVal 0 (c :: r) < 9223372036854775808 then .ok (decVal 0 (c :: r) : Int) else .range := by
    rw [Lib.parseIntB_plain 64 c r (by omega) (by omega), mag_digits c r h, show (2 : Nat) ^ (64 - 1) = 9223372036854775808 from by decide]
    by_cases h1 : decVal 0 (c :: r) < 18446744073709551616
    · rw [if_pos h1]
      simp only [Lib.signlessC]
      by_cases h2 : decVal 0 (c :: r) < 9223372036854775808
      · rw [if_neg (by omega), if_pos h2]
      · rw [if_pos (by omega), if_neg h2]
    · rw [if_neg h1, if_neg (by omega)]; rfl
  rw [hat]
  by_cases h2 : decVal 0 (c :: r) < 9223372036854775808
  · rw [if_pos h2]
    simp only
    rw [Lib.itoa_nonneg]
    by_cases hn : numeral (c :: r) = true
    · rw [if_pos (numeral_digits _ _ rfl hn), if_pos hn, if_pos h2]
    · rw [if_neg hn, if_neg]
      intro h3
      apply hn
      rw [← h3]
      exact (numeral_decDigits _).1
  · rw [if_neg h2]
    simp only
    rw [htrim]
    by_cases hn : numeral (c :: r) = true
    · rw [if_pos hn, if_neg h2, if_neg]
      rw [hpre]
      intro h3
      rcases hnum.1 hn with h4 | h4
      · exact h4 h3
      · subst h4
        simp only [decVal, List.foldl_cons, List.foldl_nil] at h2
        omega
    · rw [if_neg hn, if_pos]
      rw [hpre]
      rw [hnum] at hn
      exact Decidable.byContradiction fun h => hn (.inl h)

/-- a text behind - -/
theorem readOf_minus (r : List UInt8) (h : r.all digB = true) :
    readOf (45 :: r) = if numeral r = true ∧ r ≠ [48] then (if decVal 0 r ≤ 9223372036854775808 then (-(decVal 0 r : Int), 0) else (0, 12)) else (0, 11) := by
  have hf : formB (45 :: r) = true := by
    simp only [formB, Bool.and_eq_true]; exact ⟨by decide, h⟩
  unfold readOf
  rw [if_pos hf]
  cases r with
  | nil => rw [if_neg (show ¬ (numeral [] = true ∧ ([] : List UInt8) ≠ [48]) by decide)]; rfl
  | cons c r =>
    have hc : 48 ≤ c.toNat ∧ c.toNat ≤ 57 := by
      simp only [List.all_cons, Bool.and_eq_true, digB_iff] at h; exact h.1
    have hr : r.all digB = true := by simp only [List.all_cons, Bool.and_eq_true] at h; exact h.2
    have hnum : (numeral (c :: r) = true ∧ c :: r ≠ [48]) ↔ c.toNat ≠ 48 := by
      simp only [numeral, Bool.and_eq_true, Bool.or_eq_true, decide_eq_true_eq, digB_iff, List.isEmpty_iff]
      constructor
      · rintro ⟨⟨_, h1 | h1⟩, h2⟩
        · exact h1
        · subst h1
          intro h3
          apply h2
          obtain rfl : c = 48 := by rw [← UInt8.toNat_inj]; exact h3
          rfl
      · intro h1
        refine ⟨⟨⟨hc, hr⟩, .inl h1⟩, fun h2 => ?_⟩
        injection h2 with h2 h3
        subst h2
        exact h1 rfl
    have htrim : Lib.trimPrefix (45 :: c :: r) [45] = c :: r := by
      unfold Lib.trimPrefix Lib.hasPrefix
      rw [if_pos (by simp [List.isPrefixOf])]
      rfl
    have hpre : Lib.hasPrefix (c :: r) [48] = true ↔ c.toNat = 48 := by
      unfold Lib.hasPrefix
      simp only [List.isPrefixOf, Bool.and_true, beq_iff_eq]
      constructor
      · rintro rfl; rfl
      · intro h'; rw [← UInt8.toNat_inj]; exact h'.symm
    have hat : Lib.parseIntB 64 (45 :: c :: r) = if decVal 0 (c :: r) ≤ 9223372036854775808 then .ok (-(decVal 0 (c :: r) : Int)) else .range := by
      rw [Lib.parseIntB_minus, mag_digits c r h, show (2 : Nat) ^ (64 - 1) = 9223372036854775808 from by decide]
      by_cases h1 : decVal 0 (c :: r) < 18446744073709551616
      · rw [if_pos h1]
        simp only [Lib.signedC]
        by_cases h2 : decVal 0 (c :: r) ≤ 9223372036854775808
        · rw [if_neg (by omega), if_pos h2]
        · rw [if_pos (by omega), if_neg h2]
      · rw [if_neg h1, if_neg (by omega)]; rfl
    rw [hat]
    by_cases h2 : decVal 0 (c :: r) ≤ 9223372036854775808
    · rw [if_pos h2]
      simp only
      by_cases hn : c.toNat ≠ 48
      · have hn' := hnum.2 hn
        have hp := numeral_pos _ hn'.1 hn'.2
        rw [Lib.itoa_neg _ (by omega), numeral_digits _ _ rfl hn'.1, if_pos rfl, if_pos hn', if_pos h2]
      · rw [if_neg (fun h' => hn (hnum.1 h')), if_neg]
        intro h3
        by_cases h4 : decVal 0 (c :: r) = 0
        · rw [h4] at h3
          revert h3
          rw [show Lib.itoa (-((0 : Nat) : Int)) = [48] from by rw [show (-((0:Nat):Int)) = ((0:Nat):Int) from by omega, Lib.itoa_nonneg, Lib.decDigits_one (by omega)]; rfl]
          intro h3
          injection h3 with h3 h5
          exact absurd h3 (by decide)
        · rw [Lib.itoa_neg _ (by omega)] at h3
          injection h3 with _ h3
          have hx := numeral_decDigits (decVal 0 (c :: r))
          rw [h3] at hx
          exact hn (hnum.1 ⟨hx.1, hx.2 h4⟩)
    · rw [if_neg h2]
      simp only
      rw [htrim]
      by_cases hn : c.toNat ≠ 48
      · rw [if_neg (by rw [hpre]; exact hn), if_pos (hnum.2 hn), if_neg h2]
      · rw [if_pos (by rw [hpre]; omega), if_neg (fun h' => hn (hnum.1 h'))]

theorem readOf_nil : readOf [] = (0, 11) := rfl
/-- a text that is neither -/
theorem readOf_else (c : UInt8) (r : List UInt8) (h : ¬ ((c :: r).all digB = true)) (h' : ¬ (c = 45 ∧ r.all digB = true)) : readOf (c :: r) = (0, 11) := by
  unfold readOf
  rw [if_neg]
  simp only [formB, okB, Bool.and_eq_true, Bool.or_eq_true, decide_eq_true_eq]
  rintro ⟨h1 | h1, h2⟩
  · exact h (by simp [h1, h2])
  · exact h' ⟨by rw [← UInt8.toNat_inj]; exact h1.1, h2⟩

/-- what is read is the text of what was read -/
theorem readOf_back (l : List UInt8) (m : Int) (h : readOf l = (m, 0)) : Lib.itoa m = l := by
  unfold readOf at h
  split at h
  · split at h
    · split at h
      · rename_i h2; injection h with h3 h4; subst h3; exact h2
      · cases h
    · split at h <;> cases h
    · cases h
  · cases h
theorem readOf_code (l : List UInt8) : (readOf l).2 = 0 ∨ readOf l = (0, 11) ∨ readOf l = (0, 12) := by
  unfold readOf
  split
  · split
    · split <;> simp
    · split <;> simp
    · simp
  · simp
theorem readOf_range (l : List UInt8) : -9223372036854775808 ≤ (readOf l).1 ∧ (readOf l).1 ≤ 9223372036854775807 := by
  unfold readOf
  split
  · split
    · rename_i v hv
      have := Lib.parseIntB_bounds hv
      split <;> simp <;> omega
    · split <;> simp
    · simp
  · simp
/-- a number's text is read as it -/
theorem readOf_itoa (a : Int) (h : -9223372036854775808 ≤ a ∧ a ≤ 9223372036854775807) : readOf (Lib.itoa a) = (a, 0) := by
  by_cases h0 : a < 0
  · obtain ⟨u, rfl⟩ : ∃ u : Nat, a = -(u : Int) := ⟨a.natAbs, by omega⟩
    rw [Lib.itoa_neg u (by omega)]
    have hn := numeral_decDigits u
    rw [readOf_minus _ (numeral_all _ hn.1), decDigits_val, if_pos ⟨hn.1, hn.2 (by omega)⟩, if_pos (by omega)]
  · obtain ⟨u, rfl⟩ : ∃ u : Nat, a = (u : Int) := ⟨a.toNat, by omega⟩
    rw [Lib.itoa_nonneg u]
    have hn := (numeral_decDigits u).1
    have hv := decDigits_val u
    rcases hd : Lib.decDigits u with _ | ⟨c, r⟩
    · rw [hd] at hn; simp [numeral] at hn
    · rw [hd] at hn hv
      rw [readOf_plain _ _ (numeral_all _ hn), if_pos hn, hv, if_pos (by omega)]

/-- digits, with or without - ahead, without a 0 ahead of others -/
def formOf (l : List UInt8) : Bool := match l with
  | [] => false
  | c :: r => if c = 45 then numeral r && decide (r ≠ [48]) else numeral (c :: r)

theorem formOf_read (l : List UInt8) : formOf l = decide ((readOf l).2 ≠ 11) := by
  cases l with
  | nil => rfl
  | cons c r =>
    unfold formOf
    simp only
    by_cases hc : c = 45
    · subst hc
      rw [if_pos rfl]
      by_cases hr : r.all digB = true
      · rw [readOf_minus r hr]
        by_cases hn : numeral r = true ∧ r ≠ [48]
        · rw [if_pos hn, hn.1]; simp only [Bool.true_and]; rw [decide_eq_true hn.2]; split <;> simp
        · rw [if_neg hn]; simp; intro h; exact Decidable.byContradiction fun h' => hn ⟨h, h'⟩
      · have h1 : numeral r = false := by
          rw [← Bool.not_eq_true]; exact fun h => hr (numeral_all _ h)
        rw [readOf_else _ _ (by simp [digB]) (fun h => hr h.2), h1]; rfl
    · rw [if_neg hc]
      by_cases hr : (c :: r).all digB = true
      · rw [readOf_plain c r hr]
        by_cases hn : numeral (c :: r) = true
        · rw [if_pos hn, hn]; split <;> simp
        · rw [if_neg hn]; simpa using hn
      · have h1 : numeral (c :: r) = false := by
          rw [← Bool.not_eq_true]; exact fun h => hr (numeral_all _ h)
        rw [readOf_else _ _ hr (fun h => hc h.1), h1]; rfl

/-- one digit more -/
theorem readOf_more (l : List UInt8) (d : Nat) (hd : d < 10) :
    ((readOf l).2 = 12 → readOf (l ++ [UInt8.ofNat (48 + d)]) = (0, 12)) ∧
    ((readOf l).2 = 0 → (readOf l).1 ≠ 0 → -576460752303423488 ≤ (readOf l).1 → (readOf l).1 ≤ 576460752303423488 →
      readOf (l ++ [UInt8.ofNat (48 + d)]) = (if (readOf l).1 < 0 then 10 * (readOf l).1 - d else 10 * (readOf l).1 + d, 0)) := by
  have hdt : (UInt8.ofNat (48 + d)).toNat = 48 + d := UInt8.toNat_ofNat_of_lt' (by show 48 + d < 256; omega)
  have hdB : digB (UInt8.ofNat (48 + d)) = true := by rw [digB_iff, hdt]; omega
  have key : ∀ l, decVal 0 (l ++ [UInt8.ofNat (48 + d)]) = decVal 0 l * 10 + d := fun l => by
    rw [decVal_append]; simp only [decVal, List.foldl_cons, List.foldl_nil, hdt]; omega
  cases l with
  | nil => rw [readOf_nil]; simp
  | cons c r =>
    by_cases hc : c = 45
    · subst hc
      by_cases hr : r.all digB = true
      · have hr' : (r ++ [UInt8.ofNat (48 + d)]).all digB = true := by simp only [List.all_append, hr, List.all_cons, hdB]; rfl
        rw [List.cons_append, readOf_minus r hr, readOf_minus _ hr', key]
        by_cases hn : numeral r = true ∧ r ≠ [48]
        · have hp := numeral_pos _ hn.1 hn.2
          have hn' : numeral (r ++ [UInt8.ofNat (48 + d)]) = true ∧ r ++ [UInt8.ofNat (48 + d)] ≠ [48] := by
            refine ⟨numeral_snoc _ _ hn.1 hn.2 hdB, fun h => ?_⟩
            have := congrArg List.length h
            rcases r with _ | ⟨_, _⟩
            · simp [numeral] at hn
            · simp at this
          rw [if_pos hn, if_pos hn']
          split
          · rename_i h1
            refine ⟨fun h => absurd (show (0 : Int) = 12 from h) (by decide), fun _ h2 h3 h4 => ?_⟩
            simp only at h2 h3 h4 ⊢
            rw [if_pos (by omega), if_pos (by omega)]
            congr 1; omega
          · rename_i h1
            exact ⟨fun _ => by rw [if_neg (by omega)], fun h => absurd h (by decide)⟩
        · rw [if_neg hn]; simp
      · rw [readOf_else _ _ (by simp [digB]) (fun h => hr h.2)]; simp
    · by_cases hr : (c :: r).all digB = true
      · have hr' : (c :: (r ++ [UInt8.ofNat (48 + d)])).all digB = true := by
          rw [← List.cons_append, List.all_append, hr, List.all_cons, hdB]; rfl
        rw [List.cons_append, readOf_plain c r hr, readOf_plain _ _ hr', ← List.cons_append, key]
        by_cases hn : numeral (c :: r) = true
        · by_cases h48 : c :: r = [48]
          · rw [h48]; simp [decVal, numeral, digB]
          · have hp := numeral_pos _ hn h48
            have hn' := numeral_snoc _ _ hn h48 hdB
            rw [if_pos hn, if_pos hn']
            split
            · rename_i h1
              refine ⟨fun h => absurd (show (0 : Int) = 12 from h) (by decide), fun _ h2 h3 h4 => ?_⟩
              simp only at h2 h3 h4 ⊢
              rw [if_pos (by omega), if_neg (by omega)]
              congr 1; omega
            · rename_i h1
              exact ⟨fun _ => by rw [if_neg (by omega)], fun h => absurd h (by decide)⟩
        · rw [if_neg hn]; simp
      · rw [readOf_else _ _ hr (fun h => hc h.1)]; simp

theorem putOf_length (n b : Int) : (putOf n b).length = putN b := by simp [putOf]
theorem putN_eq (b : Int) : (putN b : Int) = min (max b 0) 8 := by unfold putN; omega
theorem putOf_bytes (n b : Int) : ∀ x ∈ putOf n b, 0 ≤ x ∧ x < 256 := by
  intro x hx
  simp only [putOf, List.mem_map] at hx
  obtain ⟨i, _, rfl⟩ := hx
  have : IntKind.u8.wrap = fun n : Int => n % 256 := by funext n; rfl
  unfold putAt
  rw [this]
  simp only
  omega
theorem wrap_u8 (n : Int) : IntKind.u8.wrap n = n % 256 := rfl
theorem wrap_u64 (n : Int) : IntKind.u64.wrap n = n % 18446744073709551616 := rfl
/-- bytes that have room for a number tell it -/
theorem put_back (a b : Int) (h0 : 0 ≤ b) (h7 : b ≤ 7) (ha : 0 ≤ a) (hlt : a < 2 ^ (8 * b).toNat) : bytesNum 0 (putOf a b) = a := by
  have hb : b = 0 ∨ b = 1 ∨ b = 2 ∨ b = 3 ∨ b = 4 ∨ b = 5 ∨ b = 6 ∨ b = 7 := by omega
  have hw : IntKind.u64.wrap a = a := by
    have : (2 : Int) ^ (8 * b).toNat ≤ 72057594037927936 := by rcases hb with rfl | rfl | rfl | rfl | rfl | rfl | rfl | rfl <;> decide
    rw [wrap_u64]; omega
  rcases hb with rfl | rfl | rfl | rfl | rfl | rfl | rfl | rfl
  · have : (2 : Int) ^ (8 * 0 : Int).toNat = 1 := by decide
    rw [show putOf a 0 = [] from rfl]
    show (0 : Int) = a
    omega
  · have e : (2 : Int) ^ (8 * 1 : Int).toNat = 256 := by decide
    have : putOf a 1 = [a / 1 % 256] := by show [putAt a 1 0] = _; simp only [putAt, hw, wrap_u8]; rfl
    rw [this]; simp only [bytesNum]; omega
  · have e : (2 : Int) ^ (8 * 2 : Int).toNat = 65536 := by decide
    have : putOf a 2 = [a / 256 % 256, a / 1 % 256] := by show [putAt a 2 0, putAt a 2 1] = _; simp only [putAt, hw, wrap_u8]; rfl
    rw [this]; simp only [bytesNum]; omega
  · have e : (2 : Int) ^ (8 * 3 : Int).toNat = 16777216 := by decide
    have : putOf a 3 = [a / 65536 % 256, a / 256 % 256, a / 1 % 256] := by show [putAt a 3 0, putAt a 3 1, putAt a 3 2] = _; simp only [putAt, hw, wrap_u8]; rfl
    rw [this]; simp only [bytesNum]; omega
  · have e : (2 : Int) ^ (8 * 4 : Int).toNat = 4294967296 := by decide
    have : putOf a 4 = [a / 16777216 % 256, a / 65536 % 256, a / 256 % 256, a / 1 % 256] := by show [putAt a 4 0, putAt a 4 1, putAt a 4 2, putAt a 4 3] = _; simp only [putAt, hw, wrap_u8]; rfl
    rw [this]; simp only [bytesNum]; omega
  · have e : (2 : Int) ^ (8 * 5 : Int).toNat = 1099511627776 := by decide
    have : putOf a 5 = [a / 4294967296 % 256, a / 16777216 % 256, a / 65536 % 256, a / 256 % 256, a / 1 % 256] := by show [putAt a 5 0, putAt a 5 1, putAt a 5 2, putAt a 5 3, putAt a 5 4] = _; simp only [putAt, hw, wrap_u8]; rfl
    rw [this]; simp only [bytesNum]; omega
  · have e : (2 : Int) ^ (8 * 6 : Int).toNat = 281474976710656 := by decide
    have : putOf a 6 = [a / 1099511627776 % 256, a / 4294967296 % 256, a / 16777216 % 256, a / 65536 % 256, a / 256 % 256, a / 1 % 256] := by show [putAt a 6 0, putAt a 6 1, putAt a 6 2, putAt a 6 3, putAt a 6 4, putAt a 6 5] = _; simp only [putAt, hw, wrap_u8]; rfl
    rw [this]; simp only [bytesNum]; omega
  · have e : (2 : Int) ^ (8 * 7 : Int).toNat = 72057594037927936 := by decide
    have : putOf a 7 = [a / 281474976710656 % 256, a / 1099511627776 % 256, a / 4294967296 % 256, a / 16777216 % 256, a / 65536 % 256, a / 256 % 256, a / 1 % 256] := by show [putAt a 7 0, putAt a 7 1, putAt a 7 2, putAt a 7 3, putAt a 7 4, putAt a 7 5, putAt a 7 6] = _; simp only [putAt, hw, wrap_u8]; rfl
    rw [this]; simp only [bytesNum]; omega
end Go.Proofs.YtafgincpoahefaaDoor
