/-
  stragglelaw07.LexOne: walks of some of its cases.
-/
import Derived.Test.YtafgincpoahefaaDoorLexL1
namespace Go.Proofs.YtafgincpoahefaaDoor
open Go.RowKit
set_option maxRecDepth 100000 in
set_option maxHeartbeats 4000000 in
theorem lexOne_n1a (n : Int) (h0 : n < 0) (x : Int) (w : World) (hG : GL w) : Calls Tryd.prog 15 #[.agg #[.int .u8 1, .int .i64 n, .int .i64 x]] w fun e w' => e = .returned (.bool true) ∧ Below w.heap.size w w' := by
  have c1 := fun w => text_call 1 n [] (text_none (by omega) (by omega) (by omega) (by omega) (by omega)) (.int .i64 x) w
  have hG1 := hG.alloc (.cells #[.int .u8 1, .int .i64 n, .int .i64 x] 51)
  have C1 := Lib.hid c1; clear c1
  have hLe : (⟨#[]⟩ : ByteArray).toList = [] := by kernel_rfl
  go_enter Tryd.func15, Tryd.ntmps15
  go_wp2_with fail
  refine (C1.out _ hG1).mono ?_
  rintro e w1 ⟨rfl, hb1⟩
  have hz1 := (Holds.fresh w 51 #[.int .u8 1, .int .i64 n, .int .i64 x]).later hb1
  obtain ⟨z0, z1, z2⟩ := tok_cells hz1
  have hb := (((Below.refl w.heap.size w).alloc (Nat.le_refl _) (.cells #[.int .u8 1, .int .i64 n, .int .i64 x] 51)).trans (hb1.mono (by simp)))
  go_wp2_with fail
  refine (wakes07 _ (hG1.mono hb1)).mono ?_
  rintro e w3 ⟨rfl, hb3⟩
  go_wp2_with fail
  go_ret
  exact ⟨rfl, hb.trans (hb3.mono hb.size)⟩
set_option maxRecDepth 100000 in
set_option maxHeartbeats 4000000 in
theorem lexOne_n1b (n : Int) (h0 : 0 ≤ n) (h1 : 1099511627776 < n) (x : Int) (w : World) (hG : GL w) : Calls Tryd.prog 15 #[.agg #[.int .u8 1, .int .i64 n, .int .i64 x]] w fun e w' => e = .returned (.bool true) ∧ Below w.heap.size w w' := by
  have c1 := fun w => text_call 1 n [] (text_none (by omega) (by omega) (by omega) (by omega) (by omega)) (.int .i64 x) w
  have hG1 := hG.alloc (.cells #[.int .u8 1, .int .i64 n, .int .i64 x] 51)
  have hd : decide (n ≤ 1099511627776) = false := by simpa using h1
  have C1 := Lib.hid c1; clear c1
  have hLe : (⟨#[]⟩ : ByteArray).toList = [] := by kernel_rfl
  go_enter Tryd.func15, Tryd.ntmps15
  go_wp2_with fail
  refine (C1.out _ hG1).mono ?_
  rintro e w1 ⟨rfl, hb1⟩
  have hz1 := (Holds.fresh w 51 #[.int .u8 1, .int .i64 n, .int .i64 x]).later hb1
  obtain ⟨z0, z1, z2⟩ := tok_cells hz1
  have hb := (((Below.refl w.heap.size w).alloc (Nat.le_refl _) (.cells #[.int .u8 1, .int .i64 n, .int .i64 x] 51)).trans (hb1.mono (by simp)))
  go_wp2_with fail
  refine (wakes07 _ (hG1.mono hb1)).mono ?_
  rintro e w3 ⟨rfl, hb3⟩
  go_wp2_with fail
  go_ret
  exact ⟨rfl, hb.trans (hb3.mono hb.size)⟩
set_option maxRecDepth 100000 in
set_option maxHeartbeats 4000000 in
theorem lexOne_n2a (n : Int) (h0 : n < 0) (x : Int) (w : World) (hG : GL w) : Calls Tryd.prog 15 #[.agg #[.int .u8 2, .int .i64 n, .int .i64 x]] w fun e w' => e = .returned (.bool true) ∧ Below w.heap.size w w' := by
  have c1 := fun w => text_call 2 n [] (text_none (by omega) (by omega) (by omega) (by omega) (by omega)) (.int .i64 x) w
  have hG1 := hG.alloc (.cells #[.int .u8 2, .int .i64 n, .int .i64 x] 51)
  have C1 := Lib.hid c1; clear c1
  have hLe : (⟨#[]⟩ : ByteArray).toList = [] := by kernel_rfl
  go_enter Tryd.func15, Tryd.ntmps15
  go_wp2_with fail
  refine (C1.out _ hG1).mono ?_
  rintro e w1 ⟨rfl, hb1⟩
  have hz1 := (Holds.fresh w 51 #[.int .u8 2, .int .i64 n, .int .i64 x]).later hb1
  obtain ⟨z0, z1, z2⟩ := tok_cells hz1
  have hb := (((Below.refl w.heap.size w).alloc (Nat.le_refl _) (.cells #[.int .u8 2, .int .i64 n, .int .i64 x] 51)).trans (hb1.mono (by simp)))
  go_wp2_with fail
  refine (wakes07 _ (hG1.mono hb1)).mono ?_
  rintro e w3 ⟨rfl, hb3⟩
  go_wp2_with fail
  go_ret
  exact ⟨rfl, hb.trans (hb3.mono hb.size)⟩
set_option maxRecDepth 100000 in
set_option maxHeartbeats 4000000 in
theorem lexOne_n2b (n : Int) (h0 : 0 ≤ n) (h1 : 26 ≤ n) (x : Int) (w : World) (hG : GL w) : Calls Tryd.prog 15 #[.agg #[.int .u8 2, .int .i64 n, .int .i64 x]] w fun e w' => e = .returned (.bool true) ∧ Below w.heap.size w w' := by
  have c1 := fun w => text_call 2 n [] (text_none (by omega) (by omega) (by omega) (by omega) (by omega)) (.int .i64 x) w
  have hG1 := hG.alloc (.cells #[.int .u8 2, .int .i64 n, .int .i64 x] 51)
  have hd : decide (n < 26) = false := by simpa using h1
  have C1 := Lib.hid c1; clear c1
  have hLe : (⟨#[]⟩ : ByteArray).toList = [] := by kernel_rfl
  go_enter Tryd.func15, Tryd.ntmps15
  go_wp2_with fail
  refine (C1.out _ hG1).mono ?_
  rintro e w1 ⟨rfl, hb1⟩
  have hz1 := (Holds.fresh w 51 #[.int .u8 2, .int .i64 n, .int .i64 x]).later hb1
  obtain ⟨z0, z1, z2⟩ := tok_cells hz1
  have hb := (((Below.refl w.heap.size w).alloc (Nat.le_refl _) (.cells #[.int .u8 2, .int .i64 n, .int .i64 x] 51)).trans (hb1.mono (by simp)))
  go_wp2_with fail
  refine (wakes07 _ (hG1.mono hb1)).mono ?_
  rintro e w3 ⟨rfl, hb3⟩
  go_wp2_with fail
  go_ret
  exact ⟨rfl, hb.trans (hb3.mono hb.size)⟩
set_option maxRecDepth 100000 in
set_option maxHeartbeats 4000000 in
theorem lexOne_n3 (n : Int) (h0 : n ≠ 0) (x : Int) (w : World) (hG : GL w) : Calls Tryd.prog 15 #[.agg #[.int .u8 3, .int .i64 n, .int .i64 x]] w fun e w' => e = .returned (.bool true) ∧ Below w.heap.size w w' := by
  have c1 := fun w => text_call 3 n [] (text_none (by omega) (by omega) (by omega) (by omega) (by omega)) (.int .i64 x) w
  have hG1 := hG.alloc (.cells #[.int .u8 3, .int .i64 n, .int .i64 x] 51)
  have hn : (n == 0) = false := by simpa using h0
  clear h0
  have C1 := Lib.hid c1; clear c1
  have hLe : (⟨#[]⟩ : ByteArray).toList = [] := by kernel_rfl
  go_enter Tryd.func15, Tryd.ntmps15
  go_wp2_with fail
  refine (C1.out _ hG1).mono ?_
  rintro e w1 ⟨rfl, hb1⟩
  have hz1 := (Holds.fresh w 51 #[.int .u8 3, .int .i64 n, .int .i64 x]).later hb1
  obtain ⟨z0, z1, z2⟩ := tok_cells hz1
  have hb := (((Below.refl w.heap.size w).alloc (Nat.le_refl _) (.cells #[.int .u8 3, .int .i64 n, .int .i64 x] 51)).trans (hb1.mono (by simp)))
  go_wp2_with fail
  refine (wakes07 _ (hG1.mono hb1)).mono ?_
  rintro e w3 ⟨rfl, hb3⟩
  go_wp2_with fail
  go_ret
  exact ⟨rfl, hb.trans (hb3.mono hb.size)⟩
set_option maxRecDepth 100000 in
set_option maxHeartbeats 4000000 in
theorem lexOne_n4a (n : Int) (h0 : n < 1) (x : Int) (w : World) (hG : GL w) : Calls Tryd.prog 15 #[.agg #[.int .u8 4, .int .i64 n, .int .i64 x]] w fun e w' => e = .returned (.bool true) ∧ Below w.heap.size w w' := by
  have c1 := fun w => text_call 4 n [] (text_none (by omega) (by omega) (by omega) (by omega) (by omega)) (.int .i64 x) w
  have hG1 := hG.alloc (.cells #[.int .u8 4, .int .i64 n, .int .i64 x] 51)
  have C1 := Lib.hid c1; clear c1
  have hLe : (⟨#[]⟩ : ByteArray).toList = [] := by kernel_rfl
  go_enter Tryd.func15, Tryd.ntmps15
  go_wp2_with fail
  refine (C1.out _ hG1).mono ?_
  rintro e w1 ⟨rfl, hb1⟩
  have hz1 := (Holds.fresh w 51 #[.int .u8 4, .int .i64 n, .int .i64 x]).later hb1
  obtain ⟨z0, z1, z2⟩ := tok_cells hz1
  have hb := (((Below.refl w.heap.size w).alloc (Nat.le_refl _) (.cells #[.int .u8 4, .int .i64 n, .int .i64 x] 51)).trans (hb1.mono (by simp)))
  go_wp2_with fail
  refine (wakes07 _ (hG1.mono hb1)).mono ?_
  rintro e w3 ⟨rfl, hb3⟩
  go_wp2_with fail
  go_ret
  exact ⟨rfl, hb.trans (hb3.mono hb.size)⟩
set_option maxRecDepth 100000 in
set_option maxHeartbeats 4000000 in
theorem lexOne_n4b (n : Int) (h0 : 1 ≤ n) (h1 : 7 ≤ n) (x : Int) (w : World) (hG : GL w) : Calls Tryd.prog 15 #[.agg #[.int .u8 4, .int .i64 n, .int .i64 x]] w fun e w' => e = .returned (.bool true) ∧ Below w.heap.size w w' := by
  have c1 := fun w => text_call 4 n [] (text_none (by omega) (by omega) (by omega) (by omega) (by omega)) (.int .i64 x) w
  have hG1 := hG.alloc (.cells #[.int .u8 4, .int .i64 n, .int .i64 x] 51)
  have hd : decide (n < 7) = false := by simpa using h1
  have C1 := Lib.hid c1; clear c1
  have hLe : (⟨#[]⟩ : ByteArray).toList = [] := by kernel_rfl
  go_enter Tryd.func15, Tryd.ntmps15
  go_wp2_with fail
  refine (C1.out _ hG1).mono ?_
  rintro e w1 ⟨rfl, hb1⟩
  have hz1 := (Holds.fresh w 51 #[.int .u8 4, .int .i64 n, .int .i64 x]).later hb1
  obtain ⟨z0, z1, z2⟩ := tok_cells hz1
  have hb := (((Below.refl w.heap.size w).alloc (Nat.le_refl _) (.cells #[.int .u8 4, .int .i64 n, .int .i64 x] 51)).trans (hb1.mono (by simp)))
  go_wp2_with fail
  refine (wakes07 _ (hG1.mono hb1)).mono ?_
  rintro e w3 ⟨rfl, hb3⟩
  go_wp2_with fail
  go_ret
  exact ⟨rfl, hb.trans (hb3.mono hb.size)⟩
set_option maxRecDepth 100000 in
set_option maxHeartbeats 4000000 in
theorem lexOne_n0 (k n : Int) (h1 : k ≠ 1) (h2 : k ≠ 2) (h3 : k ≠ 3) (h4 : k ≠ 4) (h5 : k ≠ 5) (x : Int) (w : World) (hG : GL w) : Calls Tryd.prog 15 #[.agg #[.int .u8 k, .int .i64 n, .int .i64 x]] w fun e w' => e = .returned (.bool true) ∧ Below w.heap.size w w' := by
  have c1 := fun w => text_call k n [] (text_none (by omega) (by omega) (by omega) (by omega) (by omega)) (.int .i64 x) w
  have hG1 := hG.alloc (.cells #[.int .u8 k, .int .i64 n, .int .i64 x] 51)
  have g1 : (k == 1) = false := by simpa using h1
  have g2 : (k == 2) = false := by simpa using h2
  have g3 : (k == 3) = false := by simpa using h3
  have g4 : (k == 4) = false := by simpa using h4
  have g5 : (k == 5) = false := by simpa using h5
  clear h1 h2 h3 h4 h5
  have C1 := Lib.hid c1; clear c1
  have hLe : (⟨#[]⟩ : ByteArray).toList = [] := by kernel_rfl
  go_enter Tryd.func15, Tryd.ntmps15
  go_wp2_with fail
  refine (C1.out _ hG1).mono ?_
  rintro e w1 ⟨rfl, hb1⟩
  have hz1 := (Holds.fresh w 51 #[.int .u8 k, .int .i64 n, .int .i64 x]).later hb1
  obtain ⟨z0, z1, z2⟩ := tok_cells hz1
  have hb := (((Below.refl w.heap.size w).alloc (Nat.le_refl _) (.cells #[.int .u8 k, .int .i64 n, .int .i64 x] 51)).trans (hb1.mono (by simp)))
  go_wp2_with fail
  refine (wakes07 _ (hG1.mono hb1)).mono ?_
  rintro e w3 ⟨rfl, hb3⟩
  go_wp2_with fail
  go_ret
  exact ⟨rfl, hb.trans (hb3.mono hb.size)⟩
set_option maxRecDepth 100000 in
set_option maxHeartbeats 4000000 in
theorem lexOne_n5 (n : Int) (hsm : smB n 12 = false) (x : Int) (w : World) (hG : GL w) : Calls Tryd.prog 15 #[.agg #[.int .u8 5, .int .i64 n, .int .i64 x]] w fun e w' => e = .returned (.bool true) ∧ Below w.heap.size w w' := by
  have c1 := fun w => text_call 5 n [] (sm_none n hsm) (.int .i64 x) w
  have hG1 := hG.alloc (.cells #[.int .u8 5, .int .i64 n, .int .i64 x] 51)
  have HSM := Lib.hid hsm; clear hsm
  have C1 := Lib.hid c1; clear c1
  have hLe : (⟨#[]⟩ : ByteArray).toList = [] := by kernel_rfl
  go_enter Tryd.func15, Tryd.ntmps15
  go_wp2_with fail
  refine (C1.out _ hG1).mono ?_
  rintro e w1 ⟨rfl, hb1⟩
  have hz1 := (Holds.fresh w 51 #[.int .u8 5, .int .i64 n, .int .i64 x]).later hb1
  obtain ⟨z0, z1, z2⟩ := tok_cells hz1
  have hb := (((Below.refl w.heap.size w).alloc (Nat.le_refl _) (.cells #[.int .u8 5, .int .i64 n, .int .i64 x] 51)).trans (hb1.mono (by simp)))
  go_wp2_with fail
  go_loopw [4, 5] (fun sm i wr => ∃ (k q : Nat) (b : Bool), k ≤ 12 ∧ i = .int .i64 k ∧ sm = .bool b ∧ wr = w1.drewN q ∧ Hid (b = smB n k)) (fun _ i _ => 13 - (intOf i).toNat)
  case atStart => exact ⟨0, 0, false, by omega, rfl, rfl, rfl, Lib.hid rfl⟩
  case round =>
    obtain ⟨k, q, b, hk, rfl, rfl, rfl, HB⟩ := hrel
    by_cases hlt : k < 12
    · have HG0 := Lib.hid (sg_get k hlt)
      have hg1 := sg_lt k hlt
      cases b
      · go_wp2_with fail
        go_quiet (fail)
        go_wp2_with fail
        go_roundw
        case rel => exact ⟨k + 1, _, _, by omega, by go_num, rfl, rfl, Lib.hid (by rw [smB, ← HB.out, Bool.false_or, ← HG0.out])⟩
        case measure => simp [intOf]; omega
      · go_wp2_with fail
        go_quiet (fail)
        go_wp2_with fail
        go_roundw
        case rel => exact ⟨k + 1, _, true, by omega, by go_num, rfl, rfl, Lib.hid (by rw [smB, ← HB.out, Bool.true_or])⟩
        case measure => simp [intOf]; omega
    · obtain rfl : k = 12 := by omega
      have hbv : b = false := by rw [HB.out]; exact HSM.out
      subst hbv
      clear HB
      go_wp2_with fail
      replace hb := hb.trans (below_drewN _ w1 q)
      refine (wakes07 _ ((hG1.mono hb1).mono' (below_drewN w1.heap.size w1 q) (Nat.le_refl _))).mono ?_
      rintro e w3 ⟨rfl, hb3⟩
      go_wp2_with fail
      go_ret
      exact ⟨rfl, hb.trans (hb3.mono hb.size)⟩
end Go.Proofs.YtafgincpoahefaaDoor
