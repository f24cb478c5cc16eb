/-
  stragglelaw07.LexBad: what its walks lean on.
  straggleref01: Text.
-/
import Derived.Test.YtafgincpoahefaaGreatDoorLex6
namespace Go.Proofs.YtafgincpoahefaaGreatDoor
open Go.RowKit

theorem all_cases (l : List UInt8) (h : l.length ≤ 2000) : (good (yields 0 l) ∧ allOf l = ((yields 0 l).map (·.t) ++ [⟨0, 0, l.length⟩], 0, 0)) ∨ (¬ good (yields 0 l) ∧ ∃ p, allOf l = ([], p, 70)) := by
  unfold allOf
  rw [if_neg (by omega)]
  cases hf : (yields 0 l).find? (fun y => y.m == 0) with
  | none =>
    refine .inl ⟨fun y hy => ?_, rfl⟩
    have := List.find?_eq_none.1 hf y hy
    simpa using this
  | some y =>
    refine .inr ⟨fun hg => ?_, _, rfl⟩
    have h1 := List.find?_some hf
    have h2 := List.mem_of_find?_eq_some hf
    exact hg y h2 (by simpa using h1)
theorem all_bad (l : List UInt8) (c : UInt8) (h : l.length ≤ 300) (hd : digB c = false) (hl : letB c = false) (ho : c ≠ 60 ∧ c ≠ 61 ∧ c ≠ 33 ∧ c ≠ 62) (hs : signB c = false) (hb : blB c = false) (hg : good (yields 0 l)) :
    allOf (l ++ [c]) = ([], (l.length : Int), 70) := by
  unfold allOf
  rw [if_neg (by simp; omega), yields_bad c hd hl ho hs hb _ 0 l (Nat.le_refl _) hg]
  have : (yields 0 l ++ [(⟨⟨0, 0, ((0 : Nat) : Int) + l.length⟩, 0⟩ : Y)]).find? (fun y => y.m == 0) = some ⟨⟨0, 0, ((0 : Nat) : Int) + l.length⟩, 0⟩ := by
    rw [List.find?_append, List.find?_eq_none.2 (fun y hy => by have := hg y hy; simpa using this)]
    rfl
  rw [this]
  simp

def badL : List UInt8 := [33, 123, 125, 91, 93, 40, 41, 44, 59, 38, 43, 45, 60, 62, 61]
/-- is it among the first so many -/
def knB (n : Int) : Nat → Bool
  | 0 => false
  | k + 1 => knB n k || (n == ((badL.getD k 0).toNat : Int))
theorem kn_get (k : Nat) (hk : k < 15) : (((⟨#[33, 123, 125, 91, 93, 40, 41, 44, 59, 38, 43, 45, 60, 62, 61]⟩ : ByteArray)[k]'hk).toNat : Int) = ((badL.getD k 0).toNat : Int) := by
  rw [← bytes_at ⟨#[33, 123, 125, 91, 93, 40, 41, 44, 59, 38, 43, 45, 60, 62, 61]⟩ k hk, List.getD_eq_getElem?_getD, List.getElem?_eq_getElem (show k < badL.length from hk)]
  rfl
theorem kn_lt (k : Nat) (hk : k < 15) : (((⟨#[33, 123, 125, 91, 93, 40, 41, 44, 59, 38, 43, 45, 60, 62, 61]⟩ : ByteArray)[k]'hk).toNat : Int) < 256 := by
  have := ((⟨#[33, 123, 125, 91, 93, 40, 41, 44, 59, 38, 43, 45, 60, 62, 61]⟩ : ByteArray)[k]'hk).toNat_lt
  omega
/-- a byte that is in no token, and no blank -/
theorem kn_none (n : Int) (h0 : 0 ≤ n ∧ n ≤ 255) (hk : knB n 15 = false) (h1 : n ≠ 32) (h2 : ¬ (48 ≤ n ∧ n ≤ 57)) (h3 : ¬ (97 ≤ n ∧ n ≤ 122)) :
    digB (UInt8.ofNat n.toNat) = false ∧ letB (UInt8.ofNat n.toNat) = false ∧ (UInt8.ofNat n.toNat ≠ 60 ∧ UInt8.ofNat n.toNat ≠ 61 ∧ UInt8.ofNat n.toNat ≠ 33 ∧ UInt8.ofNat n.toNat ≠ 62) ∧ signB (UInt8.ofNat n.toNat) = false ∧ blB (UInt8.ofNat n.toNat) = false := by
  have hn : (UInt8.ofNat n.toNat).toNat = n.toNat := by rw [UInt8.toNat_ofNat']; omega
  generalize UInt8.ofNat n.toNat = c at *
  have e : ¬ (n = 33 ∨ n = 123 ∨ n = 125 ∨ n = 91 ∨ n = 93 ∨ n = 40 ∨ n = 41 ∨ n = 44 ∨ n = 59 ∨ n = 38 ∨ n = 43 ∨ n = 45 ∨ n = 60 ∨ n = 62 ∨ n = 61) := by
    intro h
    have : knB n 15 = true := by simp [knB, badL, or_assoc]; simpa [or_assoc] using h
    rw [this] at hk; cases hk
  refine ⟨by simp [digB]; omega, by simp [letB]; omega, ⟨?_, ?_, ?_, ?_⟩, ?_, by simp [blB]; omega⟩
  · rintro rfl; simp at hn; omega
  · rintro rfl; simp at hn; omega
  · rintro rfl; simp at hn; omega
  · rintro rfl; simp at hn; omega
  · rw [Bool.eq_false_iff]
    intro hs
    simp only [signB, signL, List.contains_iff_mem, List.mem_cons, List.not_mem_nil, or_false] at hs
    rcases hs with rfl | rfl | rfl | rfl | rfl | rfl | rfl | rfl | rfl | rfl | rfl | rfl <;> (simp at hn; omega)
theorem all_err (s : ByteArray) (h : s.size ≤ 300) (p : Int) (ha : allOf s.data.toList = ([], p, 70)) (w : World) (hG : GL w) :
    Calls Tryz.prog 10 #[.string s] w fun e w' => ∃ a cap, e = .returned (.tuple #[.slice a 0 cap, .int .i64 p, .int .i64 70]) ∧ Below w.heap.size w w' :=
  (lex_All_at s (by omega) [] p 70 0 rfl ha w hG).mono fun _ _ ⟨a, cap, h1, _, _, h2⟩ => ⟨a, cap, h1, h2⟩
theorem all_err' (s : ByteArray) (h : s.size ≤ 140737488351232) (n : Nat) (ha : allOf s.data.toList = ([], (n : Int), 70)) (w : World) (hG : GL w) :
    Calls Tryz.prog 10 #[.string s] w fun e w' => ∃ a cap, e = .returned (.tuple #[.slice a 0 cap, .int .i64 n, .int .i64 70]) ∧ Below w.heap.size w w' :=
  (lex_All_at s h [] n 70 0 rfl ha w hG).mono fun _ _ ⟨a, cap, h1, _, _, h2⟩ => ⟨a, cap, h1, h2⟩
theorem all_code (s : ByteArray) (h : s.size ≤ 300) (hg : good (yields 0 s.data.toList)) (w : World) (hG : GL w) :
    Calls Tryz.prog 10 #[.string s] w fun e w' => ∃ v p, e = .returned (.tuple #[v, .int .i64 p, .int .i64 0]) ∧ Below w.heap.size w w' := by
  have hl : s.data.toList.length = s.size := by simp
  rcases all_cases s.data.toList (by omega) with ⟨_, ha⟩ | ⟨hn, _⟩
  · exact (lex_All_at s (by omega) _ 0 0 _ rfl ha w hG).mono fun _ _ ⟨a, cap, h1, _, _, h2⟩ => ⟨_, _, h1, h2⟩
  · exact absurd hg hn
theorem one_byte (W : World) (c : Int) : (convert 131 9 (.slice (some ⟨W.heap.size, 0, none⟩) 1 1)).run Tryz.prog (W.alloc (.cells #[.int .u8 c] 5)) = .ok (.string ⟨#[UInt8.ofNat c.toNat]⟩) (W.alloc (.cells #[.int .u8 c] 5)) := by
  have := run_convert_bytes_arg (P := Tryz.prog) (w := W.alloc (.cells #[.int .u8 c] 5)) 131 5 Tryz.underlying131 Tryz.underlying5 W.heap.size 0 1 1 [c] rfl (fun i hi => by
    obtain rfl : i = 0 := by omega
    exact (Holds.fresh W 5 #[.int .u8 c]).cell 0) 9 Tryz.underlying9
  rw [this]
  rfl
theorem all_any (s : ByteArray) (h : s.size ≤ 300) (w : World) (hG : GL w) :
    Calls Tryz.prog 10 #[.string s] w fun e w' => ∃ v p c, e = .returned (.tuple #[v, .int .i64 p, .int .i64 c]) ∧ Below w.heap.size w w' :=
  (lex_All s (by omega) w hG).mono fun _ _ ⟨v, h1, _, h2⟩ => ⟨v, _, _, h1, h2⟩
end Go.Proofs.YtafgincpoahefaaGreatDoor

namespace Go.Proofs.YtafgincpoahefaaGreatDoor
open Go.RowKit

theorem dec_one (n : Nat) (h : n < 10) : Lib.decDigits n = [UInt8.ofNat (48 + n)] := by
  rw [Lib.decDigits, dif_pos h]
theorem dec_more (n : Nat) (h : 10 ≤ n) : Lib.decDigits n = Lib.decDigits (n / 10) ++ Lib.decDigits (n % 10) := by
  rw [dec_one (n % 10) (by omega)]
  conv => lhs; rw [Lib.decDigits]
  rw [dif_neg (by omega)]
theorem ba_app (l r : List UInt8) : (⟨l.toArray⟩ : ByteArray) ++ ⟨r.toArray⟩ = ⟨(l ++ r).toArray⟩ := by
  apply ByteArray.ext
  simp [ByteArray.data_append]

theorem dec_size (n : Nat) (h : n ≤ 9223372036854775808) : (⟨(Lib.decDigits n).toArray⟩ : ByteArray).size ≤ 20 := by
  have hl : ∀ (k u : Nat), u < 10 ^ (k + 1) → (Lib.decDigits u).length ≤ k + 1 := by
    intro k
    induction k with
    | zero => intro u h; rw [Lib.decDigits, dif_pos (by omega)]; simp
    | succ k ih =>
      intro u h
      rw [Lib.decDigits]
      split
      · simp
      · have := ih (u / 10) (by rw [Nat.pow_succ] at h; omega)
        simp only [List.length_append, List.length_cons, List.length_nil]
        omega
  have := hl 19 n (by omega)
  simpa [ByteArray.size] using this
theorem itoa_neg (m : Nat) (h : 0 < m) : Lib.itoa (-(m : Int)) = 45 :: Lib.decDigits m := by
  unfold Lib.itoa
  rw [if_pos (by omega)]
  congr 2
  omega
end Go.Proofs.YtafgincpoahefaaGreatDoor
