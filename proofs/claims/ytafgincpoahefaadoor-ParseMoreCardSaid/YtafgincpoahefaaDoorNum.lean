/-
  num: Add, Sub, Sum, Take, Text.
  num: Take.
  num: Put.
-/
import Derived.Test.YtafgincpoahefaaDoorGround
import Derived.Test.YtafgincpoahefaaDoorHeld
namespace Go.Proofs.YtafgincpoahefaaDoor
open Go.RowKit

def addOf (a b : Int) : Int × Int := if (decide (wrap64 (a+b) < a)) != (decide (b < 0)) then (0, 12) else (wrap64 (a+b), 0)
def subOf (a b : Int) : Int × Int := if (decide (a < wrap64 (a-b))) != (decide (b < 0)) then (0, 12) else (wrap64 (a-b), 0)

set_option maxHeartbeats 400000 in
theorem num_Add (a b : Int) (w : World) : Calls Tryd.prog 42 #[.int .i64 a, .int .i64 b] w fun e w' =>
    e = .returned (.tuple #[.int .i64 (addOf a b).1, .int .i64 (addOf a b).2]) ∧ w = w' := by
  go_enter Tryd.func42, Tryd.ntmps42
  go_wp2
  refine wp_fwd 0 rfl ?_
  go_wp2
  · have h : (!decide (wrap64 (a + b) < a) == decide (b < 0)) = true := by assumption
    apply wp_goto
    refine fwd_goto ?_
    go_wp2
    rw [Exit.noGoto_ret]
    go_ret2
    rw [addOf, if_pos (by rw [← h]; rfl)]
    exact ⟨rfl, rfl⟩
  · have h : (!decide (wrap64 (a + b) < a) == decide (b < 0)) = false := by assumption
    rw [fwd_ret]
    go_ret2
    rw [addOf, if_neg (by intro g; have : (!decide (wrap64 (a + b) < a) == decide (b < 0)) = true := g; rw [h] at this; cases this)]
    exact ⟨rfl, rfl⟩

set_option maxHeartbeats 400000 in
theorem num_Sub (a b : Int) (w : World) : Calls Tryd.prog 43 #[.int .i64 a, .int .i64 b] w fun e w' =>
    e = .returned (.tuple #[.int .i64 (subOf a b).1, .int .i64 (subOf a b).2]) ∧ w = w' := by
  go_enter Tryd.func43, Tryd.ntmps43
  go_wp2
  refine wp_fwd 0 rfl ?_
  go_wp2
  · have h : (!decide (a < wrap64 (a - b)) == decide (b < 0)) = true := by assumption
    apply wp_goto
    refine fwd_goto ?_
    go_wp2
    rw [Exit.noGoto_ret]
    go_ret2
    rw [subOf, if_pos (by rw [← h]; rfl)]
    exact ⟨rfl, rfl⟩
  · have h : (!decide (a < wrap64 (a - b)) == decide (b < 0)) = false := by assumption
    rw [fwd_ret]
    go_ret2
    rw [subOf, if_neg (by intro g; have : (!decide (a < wrap64 (a - b)) == decide (b < 0)) = true := g; rw [h] at this; cases this)]
    exact ⟨rfl, rfl⟩

/-- the sum of many, from an accumulator on -/
def sumFrom (n : Int) : List Int → Int × Int
  | [] => (n, 0)
  | x :: l => if (addOf n x).2 = 0 then sumFrom (addOf n x).1 l else (0, (addOf n x).2)

set_option maxHeartbeats 400000 in
theorem num_Sum (l : List Int) (a : Option Addr) (c : Nat) (w : World) (hl : IntsAt w .i64 a l) :
    Calls Tryd.prog 48 #[.slice a l.length c] w fun e w' =>
    e = .returned (.tuple #[.int .i64 (sumFrom 0 l).1, .int .i64 (sumFrom 0 l).2]) ∧ w = w' := by
  obtain ⟨hm, h2⟩ := hl
  go_enter Tryd.func48, Tryd.ntmps48
  go_wp2_with fail
  go_loop [2, 3, 5, 8] (fun n e x i => ∃ (k : Nat) (m : Int), k ≤ l.length ∧ i = .int .i64 k ∧ n = .int .i64 m ∧ e = .int .i64 0 ∧ sumFrom 0 l = sumFrom m (l.drop k)) (fun _ _ _ i => l.length - (intOf i).toNat)
  case atStart => exact ⟨0, 0, Nat.zero_le _, rfl, rfl, rfl, rfl⟩
  case round =>
    obtain ⟨k, m, hk, rfl, rfl, rfl, hs⟩ := hrel
    by_cases hlt : k < l.length
    · obtain ⟨b, off, rfl, hc⟩ : ∃ b off, a = some ⟨b, off, none⟩ ∧ ∀ i, i < l.length → w.cell? ⟨b, off + i, none⟩ = some (.int .i64 (l.getD i 0)) := by
        rcases h2 with rfl | h2
        · simp at hlt
        · exact h2
      have hcell := hc k hlt
      rw [List.drop_eq_getElem_cons hlt, sumFrom] at hs
      have HS := Lib.hid hs; clear hs hc h2
      go_wp2_with fail
      refine (num_Add _ _ _).mono ?_
      rintro e w' ⟨rfl, rfl⟩
      go_wp2_with fail
      · have h : ((addOf m l[k]).snd != 0) = true := by assumption
        have h' : ¬ (addOf m l[k]).snd = 0 := by simpa using h
        go_ret2
        rw [HS.out, if_neg h']
        exact ⟨rfl, rfl⟩
      · have h : ((addOf m l[k]).snd != 0) = false := by assumption
        have h' : (addOf m l[k]).snd = 0 := by simpa using h
        go_round
        case rel => exact ⟨k + 1, _, by omega, by go_num, rfl, by rw [h'], by rw [HS.out, if_pos h']⟩
        case measure => simp [intOf]; omega
    · have HS := Lib.hid hs; clear hs h2
      go_wp2_with fail
      go_ret2
      rw [HS.out, List.drop_of_length_le (by omega)]
      exact ⟨rfl, rfl⟩

theorem num_Text (n : Int) (h0 : -9223372036854775808 ≤ n) (h1 : n ≤ 9223372036854775807) (w : World) (hG : G w) :
    Calls Tryd.prog 45 #[.int .i64 n] w fun e w' => e = .returned (.string ⟨(Lib.itoa n).toArray⟩) ∧ Below w.heap.size w w' := by
  go_enter Tryd.func45, Tryd.ntmps45
  go_wp2_with fail
  refine (Tryd.strconv_Itoa n h0 h1 _ hG.pow).mono ?_
  rintro e w' ⟨rfl, k, os, rfl⟩
  go_wp2_with fail
  go_ret
  exact ⟨rfl, below_grow _ _ _⟩

/-- bytes as a number, 7 of them at the most -/
def bytesNum (n : Int) : List Int → Int
  | [] => n
  | x :: l => bytesNum (n * 256 + x) l

end Go.Proofs.YtafgincpoahefaaDoor

namespace Go.Proofs.YtafgincpoahefaaDoor
open Go.RowKit

theorem or_byte (m x : Int) (h0 : 0 ≤ m) (h1 : m < 281474976710656) (hx0 : 0 ≤ x) (hx1 : x < 256) : bits .or .i64 (m * 256) (wrap64 x) = m * 256 + x := by
  rw [IntWalk.wrap64_in x (by omega)]
  obtain ⟨a, rfl⟩ := Int.eq_ofNat_of_zero_le h0
  obtain ⟨b, rfl⟩ := Int.eq_ofNat_of_zero_le hx0
  have e : (a * 256 ||| b) = a * 256 + b := by
    have := Nat.two_pow_add_eq_or_of_lt (i := 8) (b := b) (by omega) a
    rw [Nat.mul_comm a 256]
    exact this.symm
  show IntKind.i64.wrap ((BitVec.ofInt 64 (((a * 256 : Nat) : Int)) ||| BitVec.ofInt 64 (b : Int)).toNat : Int) = _
  rw [BitVec.toNat_or, ofInt_u64 _ (by omega), ofInt_u64 b (by omega), e, IntKind.wrap_i64]
  omega

theorem bytes_step (m x : Int) (k : Nat) (hm0 : 0 ≤ m) (hm1 : m < 256 ^ k) (hx : 0 ≤ x ∧ x < 256) : 0 ≤ m * 256 + x ∧ m * 256 + x < 256 ^ (k + 1) := by
  rw [Int.pow_succ]; omega
theorem bytes_small (m : Int) (k : Nat) (hm1 : m < 256 ^ k) (hk : k < 7) : m < 281474976710656 := by
  have hk' : k = 0 ∨ k = 1 ∨ k = 2 ∨ k = 3 ∨ k = 4 ∨ k = 5 ∨ k = 6 := by omega
  rcases hk' with rfl | rfl | rfl | rfl | rfl | rfl | rfl <;> simp only [Int.reducePow] at hm1 <;> omega

set_option maxHeartbeats 400000 in
theorem num_Take (l : List Int) (a : Option Addr) (c : Nat) (hcap : l.length ≤ c) (w : World) (hl : IntsAt w .u8 a l) (hb : ∀ x ∈ l, 0 ≤ x ∧ x < 256) :
    Calls Tryd.prog 47 #[.slice a l.length c] w fun e w' =>
    e = .returned (.int .i64 (bytesNum 0 (l.drop (l.length - 7)))) ∧ w = w' := by
  obtain ⟨hm, h2⟩ := hl
  by_cases h7 : 7 < l.length
  · obtain ⟨b, off, rfl, hc⟩ : ∃ b off, a = some ⟨b, off, none⟩ ∧ ∀ i, i < l.length → w.cell? ⟨b, off + i, none⟩ = some (.int .u8 (l.getD i 0)) := by
      rcases h2 with rfl | h2
      · simp at h7
      · exact h2
    have hmx : max (0 : Int) ((l.length : Int) - 7) = ((l.length - 7 : Nat) : Int) := by omega
    have hne : ¬ c = l.length - 7 := by omega
    clear h2
    go_enter Tryd.func47, Tryd.ntmps47
    go_wp2_with fail
    clear hmx hne
    go_loop [2, 4, 12] (fun n x i => ∃ (k : Nat) (m : Int), k ≤ 7 ∧ i = .int .i64 k ∧ n = .int .i64 m ∧ 0 ≤ m ∧ m < 256 ^ k ∧ bytesNum 0 (l.drop (l.length - 7)) = bytesNum m (l.drop (l.length - 7 + k))) (fun _ _ i => 8 - (intOf i).toNat)
    case atStart => exact ⟨0, 0, by omega, rfl, rfl, by omega, by decide, rfl⟩
    case round =>
      obtain ⟨k, m, hk, rfl, rfl, hm0, hm1, hs⟩ := hrel
      by_cases hlt : k < 7
      · have hcell := hc (l.length - 7 + k) (by omega)
        rw [← Nat.add_assoc] at hcell
        rw [List.drop_eq_getElem_cons (show l.length - 7 + k < l.length by omega), bytesNum] at hs
        have HS := Lib.hid hs; clear hs hc
        have hx := hb (l[l.length - 7 + k]'(by omega)) (List.getElem_mem _)
        have HX := Lib.hid hx; clear hx
        have hp := bytes_small m k hm1 hlt
        have HM := Lib.hid hm1; clear hm1
        go_wp2_with fail
        have e : l[l.length - 7 + k]?.getD 0 = l[l.length - 7 + k]'(by omega) := by rw [List.getElem?_eq_getElem (by omega)]; rfl
        have e' := bytes_step m _ k hm0 HM.out HX.out
        go_round
        case rel => exact ⟨k + 1, _, by omega, by go_num, by rw [e, or_byte _ _ hm0 hp HX.out.1 HX.out.2], e'.1, e'.2, by rw [HS.out]; rfl⟩
        case measure => simp [intOf]; omega
      · have HS := Lib.hid hs; clear hs hc
        have HM := Lib.hid hm1; clear hm1
        go_wp2_with fail
        go_ret
        rw [HS.out, List.drop_of_length_le (by omega)]
        exact ⟨rfl, rfl⟩
  · have hmx : max (0 : Int) ((l.length : Int) - 7) = 0 := by omega
    rw [show l.length - 7 = 0 from by omega, List.drop_zero]
    go_enter Tryd.func47, Tryd.ntmps47
    go_wp2_with fail
    clear hmx
    go_loop [2, 4, 12] (fun n x i => ∃ (k : Nat) (m : Int), k ≤ l.length ∧ i = .int .i64 k ∧ n = .int .i64 m ∧ 0 ≤ m ∧ m < 256 ^ k ∧ bytesNum 0 l = bytesNum m (l.drop k)) (fun _ _ i => 8 - (intOf i).toNat)
    case atStart => exact ⟨0, 0, by omega, rfl, rfl, by omega, by decide, rfl⟩
    case round =>
      obtain ⟨k, m, hk, rfl, rfl, hm0, hm1, hs⟩ := hrel
      by_cases hlt : k < l.length
      · obtain ⟨b, off, rfl, hc⟩ : ∃ b off, a = some ⟨b, off, none⟩ ∧ ∀ i, i < l.length → w.cell? ⟨b, off + i, none⟩ = some (.int .u8 (l.getD i 0)) := by
          rcases h2 with rfl | h2
          · simp at hlt
          · exact h2
        have hcell := hc k hlt
        rw [List.drop_eq_getElem_cons hlt, bytesNum] at hs
        have HS := Lib.hid hs; clear hs hc h2
        have hx := hb l[k] (List.getElem_mem _)
        have HX := Lib.hid hx; clear hx
        have hp := bytes_small m k hm1 (by omega)
        have HM := Lib.hid hm1; clear hm1
        go_wp2_with fail
        have e : l[k]?.getD 0 = l[k] := by rw [List.getElem?_eq_getElem (by omega)]; rfl
        have e' := bytes_step m _ k hm0 HM.out HX.out
        go_round
        case rel => exact ⟨k + 1, _, by omega, by go_num, by rw [or_byte _ _ hm0 hp HX.out.1 HX.out.2], e'.1, e'.2, by rw [HS.out]⟩
        case measure => simp [intOf]; omega
      · have HS := Lib.hid hs; clear hs h2
        have HM := Lib.hid hm1; clear hm1
        go_wp2_with fail
        go_ret
        rw [HS.out, List.drop_of_length_le (by omega)]
        exact ⟨rfl, rfl⟩
end Go.Proofs.YtafgincpoahefaaDoor

namespace Go.Proofs.YtafgincpoahefaaDoor
open Go.RowKit
attribute [local go_sem] Oper.semAt_some

/-- how many bytes are told -/
def putN (b : Int) : Nat := (max 0 (min b 8)).toNat

theorem enters_shifts : ∀ args w, (callFunc 117 args).run Tryd.prog w = .ok (.enter 117 args) w := enters_of Tryd.func117 (by kernel_rfl) rfl

theorem shifts_iter (bytes : Int) (B : Nat) (h0 : -9223372036854775808 ≤ bytes) (h1 : bytes ≤ 9223372036854775807) : Iter Tryd.prog 117 #[.pointer (some ⟨B, 0, none⟩)] (fun i => #[.int .i64 (8 * ((putN bytes : Int) - 1) - 8 * i)]) (putN bytes)
    (fun W => W.cell? ⟨B, 0, none⟩ = some (.int .i64 bytes)) := by
  intro l J Jx W hJ hJx hF hY h0
  have hc := hF 0 W h0
  have hn : (putN bytes : Int) = max 0 (min bytes 8) := by unfold putN; omega
  generalize putN bytes = n at *
  have hn' : max 0 (min bytes 8) = (n : Int) := hn.symm
  have hn8 : n ≤ 8 := by omega
  clear hn
  refine callsIn_of_wp Tryd.func117 rfl trivial ?_ rfl
  simp only [Tryd.ntmps117, List.size_toArray, List.length_cons, List.length_nil, Nat.reduceAdd, Nat.reduceSub, Array.replicate_succ, Array.replicate_zero, List.push_toArray, List.append_toArray, List.nil_append, List.cons_append]
  gi_wp2
  clear hn' hc
  gi_loopw [3] (fun p wr => ∃ i : Nat, i ≤ n ∧ p = .int .i64 (8 * ((n : Int) - 1) - 8 * i) ∧ J i wr) (fun p wr => (intOf p + 9).toNat)
  case atStart => exact ⟨0, by omega, by simp, h0⟩
  case round =>
    obtain ⟨i, hi, rfl, hj⟩ := hrel
    by_cases hlt : i < n
    · obtain ⟨fn, tmps, assign, body, hy, hR⟩ := hY i wr hlt hj
      gi_wp2
      refine ⟨rfl, hR.mono ?_⟩
      rintro e W' (⟨rfl, hj'⟩ | ⟨rfl, hjx⟩)
      · gi_wp2
        go_roundw
        case rel => exact ⟨i + 1, by omega, by go_num, hj'⟩
        case measure => simp [intOf]; omega
      · gi_wp2
        refine bodyPost_ret (results_none rfl _ _ _) rfl ?_
        exact ⟨⟨_, rfl⟩, .inr ⟨i, hlt, hjx⟩⟩
    · gi_wp2
      go_end0
      have e : i = n := by omega
      subst e
      exact ⟨⟨_, rfl⟩, .inl hj⟩

theorem num_shifts (bytes : Int) (w : World) : Calls Tryd.prog 88 #[.int .i64 bytes] w fun e w' =>
    e = .returned (.func (.func 117) #[] #[.pointer (some ⟨w.heap.size, 0, none⟩)]) ∧ w.alloc (.cells #[.int .i64 bytes] 3) = w' := by
  go_enter Tryd.func88, Tryd.ntmps88
  go_wp2_with fail
  go_ret
  exact ⟨rfl, rfl⟩

/-- the lowest so many bytes, the highest first -/
def putAt (n b : Int) (i : Nat) : Int := IntKind.u8.wrap (IntKind.u64.wrap n / 2 ^ (8 * ((putN b : Int) - 1) - 8 * i).toNat)
def putOf (n b : Int) : List Int := (List.range (putN b)).map (putAt n b)
theorem putOf_take (n b : Int) (i : Nat) (h : i < putN b) : (putOf n b).take (i + 1) = (putOf n b).take i ++ [putAt n b i] := by
  rw [List.take_succ_eq_append_getElem (by simpa [putOf] using h)]
  simp [putOf]

set_option maxRecDepth 100000 in
set_option maxHeartbeats 400000 in
theorem num_Put (n bytes : Int) (h0 : -9223372036854775808 ≤ bytes) (h1 : bytes ≤ 9223372036854775807) (w : World) : Calls Tryd.prog 46 #[.int .i64 n, .int .i64 bytes] w fun e w' =>
    ∃ v, e = .returned v ∧ w'.ownsRow w.heap.size 5 1 v (putN bytes) ((putOf n bytes).map (Value.int .u8)) ∧ Below w.heap.size w w' := by
  refine calls_marks Tryd.func46 rfl ?_
  simp only [Tryd.ntmps46, List.size_toArray, List.length_cons, List.length_nil, Nat.reduceAdd, Nat.reduceSub, Array.replicate_succ, Array.replicate_zero, List.push_toArray, List.append_toArray, List.nil_append, List.cons_append]
  go_wp2_with fail
  refine (num_shifts _ _).mono ?_
  rintro e w1 ⟨rfl, rfl⟩
  go_wp2_with fail
  have hn8 : putN bytes ≤ 8 := by unfold putN; omega
  obtain ⟨i0, hi, hz0, hz1, hz2⟩ := info_parts (by kernel_rfl : (Tryd.prog.info? 5).map (fun i => (i.zero, i.size, i.bytes)) = some (some (.int .u8 0), 1, 1))
  refine wp_range rfl enters_shifts (shifts_iter bytes (w.heap.size + 1 + 1) h0 h1) (fun _ => rfl)
    (fun i W => (∃ v, Boxed W (w.heap.size + 1) 57 v ∧ W.ownsRow w.heap.size 5 1 v i (((putOf n bytes).take i).map (Value.int .u8))) ∧
      Boxed W w.heap.size 3 (.int .i64 n) ∧ Boxed W (w.heap.size + 1 + 1) 3 (.int .i64 bytes) ∧ Below w.heap.size w W)
    (fun _ _ _ => False) (fun i => (Stable.row _ _ _ _ _ _ _).and ((Stable.boxed _ _ _).and ((Stable.boxed _ _ _).and (Stable.below (by simp; omega) (Nat.le_refl _))))) (fun _ _ => Stable.pure _) (fun i W h => h.2.2.1.cell) ?_
    (fun i => { tmps := #[.int .i64 n, .int .i64 bytes, .pointer (some ⟨w.heap.size, 0, none⟩), undef, .pointer (some ⟨w.heap.size + 1, 0, none⟩), .int .i64 (8 * ((putN bytes : Int) - 1) - 8 * i), .int .i64 bytes,
      .func (.func 117) #[] #[.pointer (some ⟨w.heap.size + 1 + 1, 0, none⟩)], .int .i64 (8 * ((putN bytes : Int) - 1) - 8 * i), undef, undef, undef, undef, undef, undef, undef, undef, undef], defers := [] }) ?_ ?_ ?_ (fun _ _ _ _ _ _ h _ => h.elim)
  · refine ⟨⟨_, (boxed_new (by simp) _ _).alloc _, World.ownsRow_nil _ _ _ _⟩, ((Boxed.new w _ _).alloc _).alloc _, boxed_new (by simp) _ _, ?_⟩
    exact (((Below.refl _ _).alloc (Nat.le_refl _) _).alloc (by simp) _).alloc (by simp; omega) _
  · intro l i W K hi hK
    gi_wp2
    exact hK
  · rintro l i W hl hiN ⟨⟨v, hv, hr⟩, hc1, hc2, hB⟩
    have hx := putOf_take n bytes i hiN
    have HX := Lib.hid hx; clear hx
    gi_wp2
    refine wpIn_round_held l 6 (by kernel_rfl) (by kernel_rfl) (fun ⟨_, _, h⟩ => h) (by kernel_rfl) (fun W' => W'.cell? ⟨w.heap.size, 0, none⟩ = some (.int .i64 n) ∧ W'.cell? ⟨w.heap.size + 1, 0, none⟩ = some v) ⟨hc1.cell, hv.cell⟩ (fun _ _ _ _ _ h => h) ?_
    simp only [List.take_succ_cons, List.take_zero, List.drop_succ_cons, List.drop_zero]
    repeat (refine heads_cons (by rfl) (fun w' hS => by obtain ⟨s1, s2⟩ := hS; (go_simp <;> rfl)) ?_)
    simp only [Act.put, List.setIfInBounds_toArray, List.set_cons_succ, List.set_cons_zero]
    refine heads_nil ?_
    refine tails_append (B := w.heap.size + 1) (n₀ := w.heap.size) (k := i) (T := 57) (E := 5) (size := 1) (bytes := 1) (d1 := 15) (d2 := 16) (x := .int .u8 (IntKind.u8.wrap (IntKind.u64.wrap n / 2 ^ (8 * ((putN bytes : Int) - 1) - 8 * i).toNat))) (v := v)
      rfl rfl rfl rfl rfl rfl rfl rfl rfl (fun w => by kernel_rfl) (fun w => by kernel_rfl) Tryd.underlying57 hi hz0 hz1 hz2 rfl (by decide) (by decide) rfl rfl (by simp [Value.cells, Value.oneCell']) (by simp) (by simp) rfl (fun _ => rfl)
      hv hr hB.size (by omega) (by unfold maxLen; omega) (by omega) ?_ ?_
    · intro w' hb hk hf
      exact ⟨(boxed_far hc1 (by omega) (by decide) hr hf).cell, hb.cell⟩
    · intro v' w' hb hr' hk hbel hf
      refine ⟨(keeps_drew hk).from _, ⟨v', hb, ?_⟩, boxed_far hc1 (by omega) (by decide) hr hf, boxed_far hc2 (by omega) (by decide) hr hf, below_drew hB hbel⟩
      rw [HX.out, List.map_append]
      exact hr'
  · rintro D W hD ⟨⟨v, hv, hr⟩, hc1, hc2, hB⟩ hK
    obtain ⟨av, cap, rfl⟩ := ownsRow_form hr
    have hc := hv.cell
    have hf := hv.frozen
    go_wp2_with fail
    have hv2 := hv.set (.slice av (putN bytes) cap)
    have hK2 := (KeepsOthers.setCell W ⟨w.heap.size + 1, 0, none⟩ (.slice av (putN bytes) cap)).same D _ hK rfl
    have hr2 := hr.kept (grownBy_setCell' W (w.heap.size + 1) (.slice av (putN bytes) cap)) (.inr (hv.not_row (by decide) hr).symm)
    have hB2 := hB.setCell (p := ⟨w.heap.size + 1, 0, none⟩) (by simp) (.slice av (putN bytes) cap)
    have hc3 := putObj_cell (o' := .deferred none) hK2 rfl hv2.cell
    refine ret_mark (v := .slice av (putN bytes) cap) hK2 (by simp [results, Tryd.results46, go_sem, hc3]) ⟨_, rfl, ?_, putObj_below hB2 hK2 (by simp at hD; omega)⟩
    rw [List.take_of_length_le (by simp [putOf])] at hr2
    exact ownsRow_putObj hr2 _ hK2 rfl
end Go.Proofs.YtafgincpoahefaaDoor
