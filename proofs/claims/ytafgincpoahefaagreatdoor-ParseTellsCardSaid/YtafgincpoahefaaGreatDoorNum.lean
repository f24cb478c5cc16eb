/-
  num: Add, Sub, Sum, Take, Text.
  num: Take.
  num: Put.
-/
import Derived.Test.YtafgincpoahefaaGreatDoorGround
import Derived.Test.YtafgincpoahefaaGreatDoorHeld
namespace Go.Proofs.YtafgincpoahefaaGreatDoor
open Go.RowKit

def addOf (a b : Int) : Int × Int := if (decide (wrap64 (a+b) < a)) != (decide (b < 0)) then (0, 12) else (wrap64 (a+b), 0)
def subOf (a b : Int) : Int × Int := if (decide (a < wrap64 (a-b))) != (decide (b < 0)) then (0, 12) else (wrap64 (a-b), 0)

/-- the sum of many, from an accumulator on -/
def sumFrom (n : Int) : List Int → Int × Int
  | [] => (n, 0)
  | x :: l => if (addOf n x).2 = 0 then sumFrom (addOf n x).1 l else (0, (addOf n x).2)

/-- bytes as a number, 7 of them at the most -/
def bytesNum (n : Int) : List Int → Int
  | [] => n
  | x :: l => bytesNum (n * 256 + x) l

end Go.Proofs.YtafgincpoahefaaGreatDoor

namespace Go.Proofs.YtafgincpoahefaaGreatDoor
open Go.RowKit

theorem or_byte (m x : Int) (h0 : 0 ≤ m) (h1 : m < 281474976710656) (hx0 : 0 ≤ x) (hx1 : x < 256) : bits .or .i64 (m * 256) (wrap64 x) = m * 256 + x := by
  rw [IntWalk.wrap64_in x (by omega)]
  obtain ⟨a, rfl⟩ := Int.eq_ofNat_of_zero_le h0
  obtain ⟨b, rfl⟩ := Int.eq_ofNat_of_zero_le hx0
  have e : (a * 256 ||| b) = a * 256 + b := by
    have := Nat.two_pow_add_eq_or_of_lt (i := 8) (b := b) (by omega) a
    rw [Nat.mul_comm a 256]
    exact this.symm
  show IntKind.i64.wrap ((BitVec.ofInt 64 (((a * 256 : Nat) : Int)) ||| BitVec.ofInt 64 (b : Int)).toNat : Int) = _
  rw [BitVec.toNat_or, ofInt_u64 _ (by omega), ofInt_u64 b (by omega), e, IntKind.wrap_i64]
  omega

theorem bytes_step (m x : Int) (k : Nat) (hm0 : 0 ≤ m) (hm1 : m < 256 ^ k) (hx : 0 ≤ x ∧ x < 256) : 0 ≤ m * 256 + x ∧ m * 256 + x < 256 ^ (k + 1) := by
  rw [Int.pow_succ]; omega
theorem bytes_small (m : Int) (k : Nat) (hm1 : m < 256 ^ k) (hk : k < 7) : m < 281474976710656 := by
  have hk' : k = 0 ∨ k = 1 ∨ k = 2 ∨ k = 3 ∨ k = 4 ∨ k = 5 ∨ k = 6 := by omega
  rcases hk' with rfl | rfl | rfl | rfl | rfl | rfl | rfl <;> simp only [Int.reducePow] at hm1 <;> omega

end Go.Proofs.YtafgincpoahefaaGreatDoor

namespace Go.Proofs.YtafgincpoahefaaGreatDoor
open Go.RowKit
attribute [local go_sem] Oper.semAt_some

/-- how many bytes are told -/
def putN (b : Int) : Nat := (max 0 (min b 8)).toNat

/-- the lowest so many bytes, the highest first -/
def putAt (n b : Int) (i : Nat) : Int := IntKind.u8.wrap (IntKind.u64.wrap n / 2 ^ (8 * ((putN b : Int) - 1) - 8 * i).toNat)
def putOf (n b : Int) : List Int := (List.range (putN b)).map (putAt n b)
theorem putOf_take (n b : Int) (i : Nat) (h : i < putN b) : (putOf n b).take (i + 1) = (putOf n b).take i ++ [putAt n b i] := by
  rw [List.take_succ_eq_append_getElem (by simpa [putOf] using h)]
  simp [putOf]

end Go.Proofs.YtafgincpoahefaaGreatDoor
