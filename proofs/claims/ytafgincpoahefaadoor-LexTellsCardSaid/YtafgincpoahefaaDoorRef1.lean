/-
  straggleref01: Text.
-/
import Derived.Test.YtafgincpoahefaaDoorLexL2
namespace Go.Proofs.YtafgincpoahefaaDoor
open Go.RowKit

theorem dec_one (n : Nat) (h : n < 10) : Lib.decDigits n = [UInt8.ofNat (48 + n)] := by
  rw [Lib.decDigits, dif_pos h]
theorem dec_more (n : Nat) (h : 10 ≤ n) : Lib.decDigits n = Lib.decDigits (n / 10) ++ Lib.decDigits (n % 10) := by
  rw [dec_one (n % 10) (by omega)]
  conv => lhs; rw [Lib.decDigits]
  rw [dif_neg (by omega)]
theorem ba_app (l r : List UInt8) : (⟨l.toArray⟩ : ByteArray) ++ ⟨r.toArray⟩ = ⟨(l ++ r).toArray⟩ := by
  apply ByteArray.ext
  simp [ByteArray.data_append]

set_option maxHeartbeats 1000000 in
set_option maxRecDepth 100000 in
theorem ref_Text_one (n : Nat) (h : n < 10) (w : World) : Calls Tryd.prog 40 #[.int .i64 n] w fun e w' => e = .returned (.string ⟨(Lib.decDigits n).toArray⟩) ∧ Below w.heap.size w w' := by
  have hd := dec_one n h
  have HD := Lib.hid hd; clear hd
  have hcv := one_byte w (48 + (n : Int))
  go_enter Tryd.func40, Tryd.ntmps40
  go_wp2_with fail
  go_ret
  refine ⟨?_, (Below.refl _ _).alloc (Nat.le_refl _) _⟩
  rw [HD.out]
  rfl

theorem dec_size (n : Nat) (h : n ≤ 9223372036854775808) : (⟨(Lib.decDigits n).toArray⟩ : ByteArray).size ≤ 20 := by
  have hl : ∀ (k u : Nat), u < 10 ^ (k + 1) → (Lib.decDigits u).length ≤ k + 1 := by
    intro k
    induction k with
    | zero => intro u h; rw [Lib.decDigits, dif_pos (by omega)]; simp
    | succ k ih =>
      intro u h
      rw [Lib.decDigits]
      split
      · simp
      · have := ih (u / 10) (by rw [Nat.pow_succ] at h; omega)
        simp only [List.length_append, List.length_cons, List.length_nil]
        omega
  have := hl 19 n (by omega)
  simpa [ByteArray.size] using this
set_option maxRecDepth 100000 in
set_option maxHeartbeats 1000000 in
theorem ref_Text_nat (k : Nat) : ∀ (n : Nat) (w : World), n < 10 ^ (k + 1) → n ≤ 9223372036854775807 → Calls Tryd.prog 40 #[.int .i64 n] w fun e w' => e = .returned (.string ⟨(Lib.decDigits n).toArray⟩) ∧ Below w.heap.size w w' := by
  induction k with
  | zero => intro n w h _; exact ref_Text_one n (by omega) w
  | succ k ih =>
    intro n w h h2
    by_cases h10 : n < 10
    · exact ref_Text_one n h10 w
    · have c1 := fun w => ih (n / 10) w (by rw [Nat.pow_succ] at h; omega) (by omega)
      have c2 := fun w => ref_Text_one (n % 10) (by omega) w
      have hd := dec_more n (by omega)
      have hsz := dec_size (n / 10) (by omega)
      have hsz2 := dec_size (n % 10) (by omega)
      have hap := ba_app (Lib.decDigits (n / 10)) (Lib.decDigits (n % 10))
      rw [← hd] at hap
      generalize (⟨(Lib.decDigits (n / 10)).toArray⟩ : ByteArray) = A at *
      generalize (⟨(Lib.decDigits (n % 10)).toArray⟩ : ByteArray) = B at *
      have HP := Lib.hid hap; clear hap hd
      have C1 := Lib.hid c1; clear c1
      have C2 := Lib.hid c2; clear c2 h ih
      have e1 : ((n / 10 : Nat) : Int) = (n : Int) / 10 := by omega
      have e2 : ((n % 10 : Nat) : Int) = (n : Int) % 10 := by omega
      rw [e1] at C1
      rw [e2] at C2
      clear e1 e2
      go_enter Tryd.func40, Tryd.ntmps40
      go_wp2_with fail
      refine (C1.out _).mono ?_
      rintro e w1 ⟨rfl, hb1⟩
      go_wp2_with fail
      refine (C2.out _).mono ?_
      rintro e w2 ⟨rfl, hb2⟩
      go_wp2_with fail
      go_ret
      exact ⟨by rw [← HP.out]; rfl, hb1.trans (hb2.mono hb1.size)⟩

theorem itoa_neg (m : Nat) (h : 0 < m) : Lib.itoa (-(m : Int)) = 45 :: Lib.decDigits m := by
  unfold Lib.itoa
  rw [if_pos (by omega)]
  congr 2
  omega
set_option maxRecDepth 100000 in
set_option maxHeartbeats 1000000 in
theorem ref_Text_neg (n : Int) (m : Nat) (hn : n = -(m : Int)) (h0 : 0 < m) (h1 : m ≤ 9223372036854775808) (w : World) : Calls Tryd.prog 40 #[.int .i64 n] w fun e w' => e = .returned (.string ⟨(Lib.itoa n).toArray⟩) ∧ Below w.heap.size w w' := by
  have hi := itoa_neg m h0
  rw [← hn] at hi
  have hr : n.tmod 10 = -((m % 10 : Nat) : Int) := by rw [hn, Int.neg_tmod]; rfl
  have hq : n.tdiv 10 = -((m / 10 : Nat) : Int) := by rw [hn, Int.neg_tdiv]; rfl
  have hb0 : n < 0 := by omega
  have hb1 : -9223372036854775808 ≤ n := by omega
  have c2 := fun w => ref_Text_one (m % 10) (by omega) w
  have hsz2 := dec_size (m % 10) (by omega)
  have hm := dec_more m
  have hone := dec_one m
  obtain ⟨r, hre⟩ : ∃ r, m % 10 = r := ⟨_, rfl⟩
  obtain ⟨q, hqe⟩ : ∃ q, m / 10 = q := ⟨_, rfl⟩
  have hr9 : r ≤ 9 := by omega
  have hq9 : q ≤ 922337203685477580 := by omega
  have c1 := fun w => ref_Text_nat 18 q w (by omega) (by omega)
  have hsz := dec_size q (by omega)
  rw [hre] at hr c2 hsz2
  rw [hqe] at hq
  by_cases hz : q = 0
  · subst hz
    have hmr : m = r := by omega
    subst hmr
    have hap : (⟨#[45]⟩ : ByteArray) ++ ⟨(Lib.decDigits m).toArray⟩ = ⟨(Lib.itoa n).toArray⟩ := by rw [hi]; exact ba_app [45] _
    generalize (⟨(Lib.decDigits m).toArray⟩ : ByteArray) = B at *
    have HP := Lib.hid hap; clear hap hi
    have C2 := Lib.hid c2; clear c2 c1 hsz hm hone hre hqe hn
    go_enter Tryd.func40, Tryd.ntmps40
    go_wp2_with fail
    refine (C2.out _).mono ?_
    rintro e w2 ⟨rfl, hb2⟩
    go_wp2_with fail
    go_ret
    exact ⟨by rw [← HP.out]; rfl, hb2⟩
  · have hap : (⟨#[45]⟩ : ByteArray) ++ ⟨(Lib.decDigits q).toArray⟩ ++ ⟨(Lib.decDigits r).toArray⟩ = ⟨(Lib.itoa n).toArray⟩ := by
      rw [hi, hm (by omega), hre, hqe]
      have := ba_app [45] (Lib.decDigits q)
      rw [show (⟨#[45]⟩ : ByteArray) = ⟨[45].toArray⟩ from rfl, this, ba_app]; rfl
    generalize (⟨(Lib.decDigits q).toArray⟩ : ByteArray) = A at *
    generalize (⟨(Lib.decDigits r).toArray⟩ : ByteArray) = B at *
    have hqz : ((q : Int) == 0) = false := by simp only [beq_eq_false_iff_ne]; omega
    have HP := Lib.hid hap; clear hap hi
    have C2 := Lib.hid c2; clear c2
    have C1 := Lib.hid c1; clear c1 hm hone hre hqe hn hz
    go_enter Tryd.func40, Tryd.ntmps40
    go_wp2_with fail
    refine (C1.out _).mono ?_
    rintro e w1 ⟨rfl, hb1'⟩
    go_wp2_with fail
    refine (C2.out _).mono ?_
    rintro e w2 ⟨rfl, hb2⟩
    go_wp2_with fail
    go_ret
    exact ⟨by rw [← HP.out]; rfl, hb1'.trans (hb2.mono hb1'.size)⟩

theorem ref_Text (n : Int) (h0 : -9223372036854775808 ≤ n) (h1 : n ≤ 9223372036854775807) (w : World) : Calls Tryd.prog 40 #[.int .i64 n] w fun e w' => e = .returned (.string ⟨(Lib.itoa n).toArray⟩) ∧ Below w.heap.size w w' := by
  by_cases h : n < 0
  · exact ref_Text_neg n n.natAbs (by omega) (by omega) (by omega) w
  · rw [itoa_nat n (by omega)]
    have := ref_Text_nat 18 n.toNat w (by omega) (by omega)
    rwa [show ((n.toNat : Nat) : Int) = n from by omega] at this
end Go.Proofs.YtafgincpoahefaaDoor
