/-
  stragglelaw07.LexBad: what its walks lean on.
  straggleref01: Text.
-/
import Derived.Test.YtafgincpoahefaaDoorLex6
namespace Go.Proofs.YtafgincpoahefaaDoor
open Go.RowKit

theorem all_cases (l : List UInt8) (h : l.length ≤ 2000) : (good (yields 0 l) ∧ allOf l = ((yields 0 l).map (·.t) ++ [⟨0, 0, l.length⟩], 0, 0)) ∨ (¬ good (yields 0 l) ∧ ∃ p, allOf l = ([], p, 70)) := by
  unfold allOf
  rw [if_neg (by omega)]
  cases hf : (yields 0 l).find? (fun y => y.m == 0) with
  | none =>
    refine .inl ⟨fun y hy => ?_, rfl⟩
    have := List.find?_eq_none.1 hf y hy
    simpa using this
  | some y =>
    refine .inr ⟨fun hg => ?_, _, rfl⟩
    have h1 := List.find?_some hf
    have h2 := List.mem_of_find?_eq_some hf
    exact hg y h2 (by simpa using h1)
theorem all_bad (l : List UInt8) (c : UInt8) (h : l.length ≤ 300) (hd : digB c = false) (hl : letB c = false) (ho : c ≠ 60 ∧ c ≠ 61 ∧ c ≠ 33 ∧ c ≠ 62) (hs : signB c = false) (hb : blB c = false) (hg : good (yields 0 l)) :
    allOf (l ++ [c]) = ([], (l.length : Int), 70) := by
  unfold allOf
  rw [if_neg (by simp; omega), yields_bad c hd hl ho hs hb _ 0 l (Nat.le_refl _) hg]
  have : (yields 0 l ++ [(⟨⟨0, 0, ((0 : Nat) : Int) + l.length⟩, 0⟩ : Y)]).find? (fun y => y.m == 0) = some ⟨⟨0, 0, ((0 : Nat) : Int) + l.length⟩, 0⟩ := by
    rw [List.find?_append, List.find?_eq_none.2 (fun y hy => by have := hg y hy; simpa using this)]
    rfl
  rw [this]
  simp

def badL : List UInt8 := [33, 123, 125, 91, 93, 40, 41, 44, 59, 38, 43, 45, 60, 62, 61]
/-- is it among the first so many -/
def knB (n : Int) : Nat → Bool
  | 0 => false
  | k + 1 => knB n k || (n == ((badL.getD k 0).toNat : Int))
theorem kn_get (k : Nat) (hk : k < 15) : (((⟨#[33, 123, 125, 91, 93, 40, 41, 44, 59, 38, 43, 45, 60, 62, 61]⟩ : ByteArray)[k]'hk).toNat : Int) = ((badL.getD k 0).toNat : Int) := by
  rw [← bytes_at ⟨#[33, 123, 125, 91, 93, 40, 41, 44, 59, 38, 43, 45, 60, 62, 61]⟩ k hk, List.getD_eq_getElem?_getD, List.getElem?_eq_getElem (show k < badL.length from hk)]
  rfl
theorem kn_lt (k : Nat) (hk : k < 15) : (((⟨#[33, 123, 125, 91, 93, 40, 41, 44, 59, 38, 43, 45, 60, 62, 61]⟩ : ByteArray)[k]'hk).toNat : Int) < 256 := by
  have := ((⟨#[33, 123, 125, 91, 93, 40, 41, 44, 59, 38, 43, 45, 60, 62, 61]⟩ : ByteArray)[k]'hk).toNat_lt
  omega
/-- a byte that is in no token, and no blank -/
theorem kn_none (n : Int) (h0 : 0 ≤ n ∧ n ≤ 255) (hk : knB n 15 = false) (h1 : n ≠ 32) (h2 : ¬ (48 ≤ n ∧ n ≤ 57)) (h3 : ¬ (97 ≤ n ∧ n ≤ 122)) :
    digB (UInt8.ofNat n.toNat) = false ∧ letB (UInt8.ofNat n.toNat) = false ∧ (UInt8.ofNat n.toNat ≠ 60 ∧ UInt8.ofNat n.toNat ≠ 61 ∧ UInt8.ofNat n.toNat ≠ 33 ∧ UInt8.ofNat n.toNat ≠ 62) ∧ signB (UInt8.ofNat n.toNat) = false ∧ blB (UInt8.ofNat n.toNat) = false := by
  have hn : (UInt8.ofNat n.toNat).toNat = n.toNat := by rw [UInt8.toNat_ofNat']; omega
  generalize UInt8.ofNat n.toNat = c at *
  have e : ¬ (n = 33 ∨ n = 123 ∨ n = 125 ∨ n = 91 ∨ n = 93 ∨ n = 40 ∨ n = 41 ∨ n = 44 ∨ n = 59 ∨ n = 38 ∨ n = 43 ∨ n = 45 ∨ n = 60 ∨ n = 62 ∨ n = 61) := by
    intro h
    have : knB n 15 = true := by simp [knB, badL, or_assoc]; simpa [or_assoc] using h
    rw [this] at hk; cases hk
  refine ⟨by simp [digB]; omega, by simp [letB]; omega, ⟨?_, ?_, ?_, ?_⟩, ?_, by simp [blB]; omega⟩
  · rintro rfl; simp at hn; omega
  · rintro rfl; simp at hn; omega
  · rintro rfl; simp at hn; omega
  · rintro rfl; simp at hn; omega
  · rw [Bool.eq_false_iff]
    intro hs
    simp only [signB, signL, List.contains_iff_mem, List.mem_cons, List.not_mem_nil, or_false] at hs
    rcases hs with rfl | rfl | rfl | rfl | rfl | rfl | rfl | rfl | rfl | rfl | rfl | rfl <;> (simp at hn; omega)
theorem all_err (s : ByteArray) (h : s.size ≤ 300) (p : Int) (ha : allOf s.data.toList = ([], p, 70)) (w : World) (hG : GL w) :
    Calls Tryd.prog 50 #[.string s] w fun e w' => ∃ a cap, e = .returned (.tuple #[.slice a 0 cap, .int .i64 p, .int .i64 70]) ∧ Below w.heap.size w w' :=
  (lex_All_at s (by omega) [] p 70 0 rfl ha w hG).mono fun _ _ ⟨a, cap, h1, _, _, h2⟩ => ⟨a, cap, h1, h2⟩
theorem all_err' (s : ByteArray) (h : s.size ≤ 140737488351232) (n : Nat) (ha : allOf s.data.toList = ([], (n : Int), 70)) (w : World) (hG : GL w) :
    Calls Tryd.prog 50 #[.string s] w fun e w' => ∃ a cap, e = .returned (.tuple #[.slice a 0 cap, .int .i64 n, .int .i64 70]) ∧ Below w.heap.size w w' :=
  (lex_All_at s h [] n 70 0 rfl ha w hG).mono fun _ _ ⟨a, cap, h1, _, _, h2⟩ => ⟨a, cap, h1, h2⟩
theorem all_code (s : ByteArray) (h : s.size ≤ 300) (hg : good (yields 0 s.data.toList)) (w : World) (hG : GL w) :
    Calls Tryd.prog 50 #[.string s] w fun e w' => ∃ v p, e = .returned (.tuple #[v, .int .i64 p, .int .i64 0]) ∧ Below w.heap.size w w' := by
  have hl : s.data.toList.length = s.size := by simp
  rcases all_cases s.data.toList (by omega) with ⟨_, ha⟩ | ⟨hn, _⟩
  · exact (lex_All_at s (by omega) _ 0 0 _ rfl ha w hG).mono fun _ _ ⟨a, cap, h1, _, _, h2⟩ => ⟨_, _, h1, h2⟩
  · exact absurd hg hn
theorem one_byte (W : World) (c : Int) : (convert 57 9 (.slice (some ⟨W.heap.size, 0, none⟩) 1 1)).run Tryd.prog (W.alloc (.cells #[.int .u8 c] 5)) = .ok (.string ⟨#[UInt8.ofNat c.toNat]⟩) (W.alloc (.cells #[.int .u8 c] 5)) := by
  have := run_convert_bytes_arg (P := Tryd.prog) (w := W.alloc (.cells #[.int .u8 c] 5)) 57 5 Tryd.underlying57 Tryd.underlying5 W.heap.size 0 1 1 [c] rfl (fun i hi => by
    obtain rfl : i = 0 := by omega
    exact (Holds.fresh W 5 #[.int .u8 c]).cell 0) 9 Tryd.underlying9
  rw [this]
  rfl
theorem all_any (s : ByteArray) (h : s.size ≤ 300) (w : World) (hG : GL w) :
    Calls Tryd.prog 50 #[.string s] w fun e w' => ∃ v p c, e = .returned (.tuple #[v, .int .i64 p, .int .i64 c]) ∧ Below w.heap.size w w' :=
  (lex_All s (by omega) w hG).mono fun _ _ ⟨v, h1, _, h2⟩ => ⟨v, _, _, h1, h2⟩
end Go.Proofs.YtafgincpoahefaaDoor

namespace Go.Proofs.YtafgincpoahefaaDoor
open Go.RowKit

theorem dec_one (n : Nat) (h : n < 10) : Lib.decDigits n = [UInt8.ofNat (48 + n)] := by
  rw [Lib.decDigits, dif_pos h]
theorem dec_more (n : Nat) (h : 10 ≤ n) : Lib.decDigits n = Lib.decDigits (n / 10) ++ Lib.decDigits (n % 10) := by
  rw [dec_one (n % 10) (by omega)]
  conv => lhs; rw [Lib.decDigits]
  rw [dif_neg (by omega)]
theorem ba_app (l r : List UInt8) : (⟨l.toArray⟩ : ByteArray) ++ ⟨r.toArray⟩ = ⟨(l ++ r).toArray⟩ := by
  apply ByteArray.ext
  simp [ByteArray.data_append]

set_option maxHeartbeats 1000000 in
set_option maxRecDepth 100000 in
theorem ref_Text_one (n : Nat) (h : n < 10) (w : World) : Calls Tryd.prog 40 #[.int .i64 n] w fun e w' => e = .returned (.string ⟨(Lib.decDigits n).toArray⟩) ∧ Below w.heap.size w w' := by
  have hd := dec_one n h
  have HD := Lib.hid hd; clear hd
  have hcv := one_byte w (48 + (n : Int))
  go_enter Tryd.func40, Tryd.ntmps40
  go_wp2_with fail
  go_ret
  refine ⟨?_, (Below.refl _ _).alloc (Nat.le_refl _) _⟩
  rw [HD.out]
  rfl

theorem dec_size (n : Nat) (h : n ≤ 9223372036854775808) : (⟨(Lib.decDigits n).toArray⟩ : ByteArray).size ≤ 20 := by
  have hl : ∀ (k u : Nat), u < 10 ^ (k + 1) → (Lib.decDigits u).length ≤ k + 1 := by
    intro k
    induction k with
    | zero => intro u h; rw [Lib.decDigits, dif_pos (by omega)]; simp
    | succ k ih =>
      intro u h
      rw [Lib.decDigits]
      split
      · simp
      · have := ih (u / 10) (by rw [Nat.pow_succ] at h; omega)
        simp only [List.length_append, List.length_cons, List.length_nil]
        omega
  have := hl 19 n (by omega)
  simpa [ByteArray.size] using this
set_option maxRecDepth 100000 in
set_option maxHeartbeats 1000000 in
theorem ref_Text_nat (k : Nat) : ∀ (n : Nat) (w : World), n < 10 ^ (k + 1) → n ≤ 9223372036854775807 → Calls Tryd.prog 40 #[.int .i64 n] w fun e w' => e = .returned (.string ⟨(Lib.decDigits n).toArray⟩) ∧ Below w.heap.size w w' := by
  induction k with
  | zero => intro n w h _; exact ref_Text_one n (by omega) w
  | succ k ih =>
    intro n w h h2
    by_cases h10 : n < 10
    · exact ref_Text_one n h10 w
    · have c1 := fun w => ih (n / 10) w (by rw [Nat.pow_succ] at h; omega) (by omega)
      have c2 := fun w => ref_Text_one (n % 10) (by omega) w
      have hd := dec_more n (by omega)
      have hsz := dec_size (n / 10) (by omega)
      have hsz2 := dec_size (n % 10) (by omega)
      have hap := ba_app (Lib.decDigits (n / 10)) (Lib.decDigits (n % 10))
      rw [← hd] at hap
      generalize (⟨(Lib.decDigits (n / 10)).toArray⟩ : ByteArray) = A at *
      generalize (⟨(Lib.decDigits (n % 10)).toArray⟩ : ByteArray) = B at *
      have HP := Lib.hid hap; clear hap hd
      have C1 := Lib.hid c1; clear c1
      have C2 := Lib.hid c2; clear c2 h ih
      have e1 : ((n / 10 : Nat) : Int) = (n : Int) / 10 := by omega
      have e2 : ((n % 10 : Nat) : Int) = (n : Int) % 10 := by omega
      rw [e1] at C1
      rw [e2] at C2
      clear e1 e2
      go_enter Tryd.func40, Tryd.ntmps40
      go_wp2_with fail
      refine (C1.out _).mono ?_
      rintro e w1 ⟨rfl, hb1⟩
      go_wp2_with fail
      refine (C2.out _).mono ?_
      rintro e w2 ⟨rfl, hb2⟩
      go_wp2_with fail
      go_ret
      exact ⟨by rw [← HP.out]; rfl, hb1.trans (hb2.mono hb1.size)⟩

theorem itoa_neg (m : Nat) (h : 0 < m) : Lib.itoa (-(m : Int)) = 45 :: Lib.decDigits m := by
  unfold Lib.itoa
  rw [if_pos (by omega)]
  congr 2
  omega
set_option maxRecDepth 100000 in
set_option maxHeartbeats 1000000 in
theorem ref_Text_neg (n : Int) (m : Nat) (hn : n = -(m : Int)) (h0 : 0 < m) (h1 : m ≤ 9223372036854775808) (w : World) : Calls Tryd.prog 40 #[.int .i64 n] w fun e w' => e = .returned (.string ⟨(Lib.itoa n).toArray⟩) ∧ Below w.heap.size w w' := by
  have hi := itoa_neg m h0
  rw [← hn] at hi
  have hr : n.tmod 10 = -((m % 10 : Nat) : Int) := by rw [hn, Int.neg_tmod]; rfl
  have hq : n.tdiv 10 = -((m / 10 : Nat) : Int) := by rw [hn, Int.neg_tdiv]; rfl
  have hb0 : n < 0 := by omega
  have hb1 : -9223372036854775808 ≤ n := by omega
  have c2 := fun w => ref_Text_one (m % 10) (by omega) w
  have hsz2 := dec_size (m % 10) (by omega)
  have hm := dec_more m
  have hone := dec_one m
  obtain ⟨r, hre⟩ : ∃ r, m % 10 = r := ⟨_, rfl⟩
  obtain ⟨q, hqe⟩ : ∃ q, m / 10 = q := ⟨_, rfl⟩
  have hr9 : r ≤ 9 := by omega
  have hq9 : q ≤ 922337203685477580 := by omega
  have c1 := fun w => ref_Text_nat 18 q w (by omega) (by omega)
  have hsz := dec_size q (by omega)
  rw [hre] at hr c2 hsz2
  rw [hqe] at hq
  by_cases hz : q = 0
  · subst hz
    have hmr : m = r := by omega
    subst hmr
    have hap : (⟨#[45]⟩ : ByteArray) ++ ⟨(Lib.decDigits m).toArray⟩ = ⟨(Lib.itoa n).toArray⟩ := by rw [hi]; exact ba_app [45] _
    generalize (⟨(Lib.decDigits m).toArray⟩ : ByteArray) = B at *
    have HP := Lib.hid hap; clear hap hi
    have C2 := Lib.hid c2; clear c2 c1 hsz hm hone hre hqe hn
    go_enter Tryd.func40, Tryd.ntmps40
    go_wp2_with fail
    refine (C2.out _).mono ?_
    rintro e w2 ⟨rfl, hb2⟩
    go_wp2_with fail
    go_ret
    exact ⟨by rw [← HP.out]; rfl, hb2⟩
  · have hap : (⟨#[45]⟩ : ByteArray) ++ ⟨(Lib.decDigits q).toArray⟩ ++ ⟨(Lib.decDigits r).toArray⟩ = ⟨(Lib.itoa n).toArray⟩ := by
      rw [hi, hm (by omega), hre, hqe]
      have := ba_app [45] (Lib.decDigits q)
      rw [show (⟨#[45]⟩ : ByteArray) = ⟨[45].toArray⟩ from rfl, this, ba_app]; rfl
    generalize (⟨(Lib.decDigits q).toArray⟩ : ByteArray) = A at *
    generalize (⟨(Lib.decDigits r).toArray⟩ : ByteArray) = B at *
    have hqz : ((q : Int) == 0) = false := by simp only [beq_eq_false_iff_ne]; omega
    have HP := Lib.hid hap; clear hap hi
    have C2 := Lib.hid c2; clear c2
    have C1 := Lib.hid c1; clear c1 hm hone hre hqe hn hz
    go_enter Tryd.func40, Tryd.ntmps40
    go_wp2_with fail
    refine (C1.out _).mono ?_
    rintro e w1 ⟨rfl, hb1'⟩
    go_wp2_with fail
    refine (C2.out _).mono ?_
    rintro e w2 ⟨rfl, hb2⟩
    go_wp2_with fail
    go_ret
    exact ⟨by rw [← HP.out]; rfl, hb1'.trans (hb2.mono hb1'.size)⟩

theorem ref_Text (n : Int) (h0 : -9223372036854775808 ≤ n) (h1 : n ≤ 9223372036854775807) (w : World) : Calls Tryd.prog 40 #[.int .i64 n] w fun e w' => e = .returned (.string ⟨(Lib.itoa n).toArray⟩) ∧ Below w.heap.size w w' := by
  by_cases h : n < 0
  · exact ref_Text_neg n n.natAbs (by omega) (by omega) (by omega) w
  · rw [itoa_nat n (by omega)]
    have := ref_Text_nat 18 n.toNat w (by omega) (by omega)
    rwa [show ((n.toNat : Nat) : Int) = n from by omega] at this
end Go.Proofs.YtafgincpoahefaaDoor
