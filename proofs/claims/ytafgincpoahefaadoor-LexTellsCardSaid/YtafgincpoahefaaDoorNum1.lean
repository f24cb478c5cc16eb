/-
  num: Add, Sub, Sum, Take, Text.
-/
import Derived.Test.YtafgincpoahefaaDoorBase
namespace Go.Proofs.YtafgincpoahefaaDoor
open Go.RowKit

def addOf (a b : Int) : Int × Int := if (decide (wrap64 (a+b) < a)) != (decide (b < 0)) then (0, 12) else (wrap64 (a+b), 0)
def subOf (a b : Int) : Int × Int := if (decide (a < wrap64 (a-b))) != (decide (b < 0)) then (0, 12) else (wrap64 (a-b), 0)

set_option maxHeartbeats 400000 in
theorem num_Add (a b : Int) (w : World) : Calls Tryd.prog 42 #[.int .i64 a, .int .i64 b] w fun e w' =>
    e = .returned (.tuple #[.int .i64 (addOf a b).1, .int .i64 (addOf a b).2]) ∧ w = w' := by
  go_enter Tryd.func42, Tryd.ntmps42
  go_wp2
  refine wp_fwd 0 rfl ?_
  go_wp2
  · have h : (!decide (wrap64 (a + b) < a) == decide (b < 0)) = true := by assumption
    apply wp_goto
    refine fwd_goto ?_
    go_wp2
    rw [Exit.noGoto_ret]
    go_ret2
    rw [addOf, if_pos (by rw [← h]; rfl)]
    exact ⟨rfl, rfl⟩
  · have h : (!decide (wrap64 (a + b) < a) == decide (b < 0)) = false := by assumption
    rw [fwd_ret]
    go_ret2
    rw [addOf, if_neg (by intro g; have : (!decide (wrap64 (a + b) < a) == decide (b < 0)) = true := g; rw [h] at this; cases this)]
    exact ⟨rfl, rfl⟩

set_option maxHeartbeats 400000 in
theorem num_Sub (a b : Int) (w : World) : Calls Tryd.prog 43 #[.int .i64 a, .int .i64 b] w fun e w' =>
    e = .returned (.tuple #[.int .i64 (subOf a b).1, .int .i64 (subOf a b).2]) ∧ w = w' := by
  go_enter Tryd.func43, Tryd.ntmps43
  go_wp2
  refine wp_fwd 0 rfl ?_
  go_wp2
  · have h : (!decide (a < wrap64 (a - b)) == decide (b < 0)) = true := by assumption
    apply wp_goto
    refine fwd_goto ?_
    go_wp2
    rw [Exit.noGoto_ret]
    go_ret2
    rw [subOf, if_pos (by rw [← h]; rfl)]
    exact ⟨rfl, rfl⟩
  · have h : (!decide (a < wrap64 (a - b)) == decide (b < 0)) = false := by assumption
    rw [fwd_ret]
    go_ret2
    rw [subOf, if_neg (by intro g; have : (!decide (a < wrap64 (a - b)) == decide (b < 0)) = true := g; rw [h] at this; cases this)]
    exact ⟨rfl, rfl⟩

/-- the sum of many, from an accumulator on -/
def sumFrom (n : Int) : List Int → Int × Int
  | [] => (n, 0)
  | x :: l => if (addOf n x).2 = 0 then sumFrom (addOf n x).1 l else (0, (addOf n x).2)

set_option maxHeartbeats 400000 in
theorem num_Sum (l : List Int) (a : Option Addr) (c : Nat) (w : World) (hl : IntsAt w .i64 a l) :
    Calls Tryd.prog 48 #[.slice a l.length c] w fun e w' =>
    e = .returned (.tuple #[.int .i64 (sumFrom 0 l).1, .int .i64 (sumFrom 0 l).2]) ∧ w = w' := by
  obtain ⟨hm, h2⟩ := hl
  go_enter Tryd.func48, Tryd.ntmps48
  go_wp2_with fail
  go_loop [2, 3, 5, 8] (fun n e x i => ∃ (k : Nat) (m : Int), k ≤ l.length ∧ i = .int .i64 k ∧ n = .int .i64 m ∧ e = .int .i64 0 ∧ sumFrom 0 l = sumFrom m (l.drop k)) (fun _ _ _ i => l.length - (intOf i).toNat)
  case atStart => exact ⟨0, 0, Nat.zero_le _, rfl, rfl, rfl, rfl⟩
  case round =>
    obtain ⟨k, m, hk, rfl, rfl, rfl, hs⟩ := hrel
    by_cases hlt : k < l.length
    · obtain ⟨b, off, rfl, hc⟩ : ∃ b off, a = some ⟨b, off, none⟩ ∧ ∀ i, i < l.length → w.cell? ⟨b, off + i, none⟩ = some (.int .i64 (l.getD i 0)) := by
        rcases h2 with rfl | h2
        · simp at hlt
        · exact h2
      have hcell := hc k hlt
      rw [List.drop_eq_getElem_cons hlt, sumFrom] at hs
      have HS := Lib.hid hs; clear hs hc h2
      go_wp2_with fail
      refine (num_Add _ _ _).mono ?_
      rintro e w' ⟨rfl, rfl⟩
      go_wp2_with fail
      · have h : ((addOf m l[k]).snd != 0) = true := by assumption
        have h' : ¬ (addOf m l[k]).snd = 0 := by simpa using h
        go_ret2
        rw [HS.out, if_neg h']
        exact ⟨rfl, rfl⟩
      · have h : ((addOf m l[k]).snd != 0) = false := by assumption
        have h' : (addOf m l[k]).snd = 0 := by simpa using h
        go_round
        case rel => exact ⟨k + 1, _, by omega, by go_num, rfl, by rw [h'], by rw [HS.out, if_pos h']⟩
        case measure => simp [intOf]; omega
    · have HS := Lib.hid hs; clear hs h2
      go_wp2_with fail
      go_ret2
      rw [HS.out, List.drop_of_length_le (by omega)]
      exact ⟨rfl, rfl⟩

theorem num_Text (n : Int) (h0 : -9223372036854775808 ≤ n) (h1 : n ≤ 9223372036854775807) (w : World) (hG : G w) :
    Calls Tryd.prog 45 #[.int .i64 n] w fun e w' => e = .returned (.string ⟨(Lib.itoa n).toArray⟩) ∧ Below w.heap.size w w' := by
  go_enter Tryd.func45, Tryd.ntmps45
  go_wp2_with fail
  refine (Tryd.strconv_Itoa n h0 h1 _ hG.pow).mono ?_
  rintro e w' ⟨rfl, k, os, rfl⟩
  go_wp2_with fail
  go_ret
  exact ⟨rfl, below_grow _ _ _⟩

/-- bytes as a number, 7 of them at the most -/
def bytesNum (n : Int) : List Int → Int
  | [] => n
  | x :: l => bytesNum (n * 256 + x) l

end Go.Proofs.YtafgincpoahefaaDoor
