/-
  stragglelaw07.LexOne: walks of some of its cases.
-/
import Derived.Test.YtafgincpoahefaaDoorLexL1
namespace Go.Proofs.YtafgincpoahefaaDoor
open Go.RowKit
set_option maxRecDepth 100000 in
set_option maxHeartbeats 4000000 in
theorem lexOne_some3 (x : Int) (w : World) (hG : GL w) : Calls Tryd.prog 15 #[.agg #[.int .u8 3, .int .i64 0, .int .i64 x]] w fun e w' => e = .returned (.bool true) ∧ Below w.heap.size w w' := by
  have hne : textOf 3 0 ≠ [] := by decide
  have hal := all_own 3 0 hne (text_len 3 0)
  have hn := text_len 3 0
  have c1 := fun w => text_call 3 0 _ rfl (.int .i64 x) w
  generalize textOf 3 0 = l at *
  have hL : (⟨l.toArray⟩ : ByteArray).size = l.length := by simp [ByteArray.size]
  have hLe : (⟨l.toArray⟩ : ByteArray).toList.isEmpty = false := by rw [ByteArray.toList_eq]; simpa using hne
  rw [← hL] at hal
  have c2 := fun w hG => lex_All_at ⟨l.toArray⟩ (by omega) _ 0 0 2 rfl (by simpa using hal) w hG
  generalize (⟨l.toArray⟩ : ByteArray) = L at *
  have hG1 := hG.alloc (.cells #[.int .u8 3, .int .i64 0, .int .i64 x] 51)
  have C1 := Lib.hid c1; clear c1
  have C2 := Lib.hid c2; clear c2
  have HN := Lib.hid hn; clear hn
  have HL := Lib.hid hL; clear hL hne hal
  have hLe2 : ¬ L.toList = [] := by simpa using hLe
  go_enter Tryd.func15, Tryd.ntmps15
  go_wp2_with fail
  refine (C1.out _ hG1).mono ?_
  rintro e w1 ⟨rfl, hb1⟩
  have hz1 := (Holds.fresh w 51 #[.int .u8 3, .int .i64 0, .int .i64 x]).later hb1
  obtain ⟨z0, z1, z2⟩ := tok_cells hz1
  go_wp2_with fail
  refine (C2.out _ (hG1.mono hb1)).mono ?_
  rintro e w2 ⟨a, cap, rfl, hcap, ht, hb2⟩
  have hb := (((Below.refl w.heap.size w).alloc (Nat.le_refl _) (.cells #[.int .u8 3, .int .i64 0, .int .i64 x] 51)).trans (hb1.mono (by simp)))
  replace hb := hb.trans (hb2.mono hb.size)
  replace hz1 := (show Holds w1 w.heap.size 51 #[.int .u8 3, .int .i64 0, .int .i64 x] from hz1).later hb2
  clear z0 z1 z2
  obtain ⟨z0, z1, z2⟩ := tok_cells hz1
  obtain ⟨b, off, rfl, x0, x1, x2, y0, y1, y2⟩ := toks_two ht
  go_wp2_with fail
  go_still_tail 42, (by kernel_rfl)
  go_wp2_with fail
  refine (wakes07 _ ?_).mono ?_
  · exact (hG.mono' hb (Nat.le_refl _)).mono ((Below.refl _ _).drew)
  rintro e w3 ⟨rfl, hb3⟩
  go_wp2_with fail
  go_ret
  exact ⟨rfl, (hb.drew).trans (hb3.mono hb.size)⟩
set_option maxRecDepth 100000 in
set_option maxHeartbeats 4000000 in
theorem lexOne_some4 (n : Int) (h0 : 1 ≤ n) (h1 : n < 7) (x : Int) (w : World) (hG : GL w) : Calls Tryd.prog 15 #[.agg #[.int .u8 4, .int .i64 n, .int .i64 x]] w fun e w' => e = .returned (.bool true) ∧ Below w.heap.size w w' := by
  have hne : textOf 4 n ≠ [] := op_ne n h0 h1
  have hal := all_own 4 n hne (text_len 4 n)
  have hn := text_len 4 n
  have c1 := fun w => text_call 4 n _ rfl (.int .i64 x) w
  generalize textOf 4 n = l at *
  have hL : (⟨l.toArray⟩ : ByteArray).size = l.length := by simp [ByteArray.size]
  have hLe : (⟨l.toArray⟩ : ByteArray).toList.isEmpty = false := by rw [ByteArray.toList_eq]; simpa using hne
  rw [← hL] at hal
  have c2 := fun w hG => lex_All_at ⟨l.toArray⟩ (by omega) _ 0 0 2 rfl (by simpa using hal) w hG
  generalize (⟨l.toArray⟩ : ByteArray) = L at *
  have hG1 := hG.alloc (.cells #[.int .u8 4, .int .i64 n, .int .i64 x] 51)
  have C1 := Lib.hid c1; clear c1
  have C2 := Lib.hid c2; clear c2
  have HN := Lib.hid hn; clear hn
  have HL := Lib.hid hL; clear hL hne hal
  have hLe2 : ¬ L.toList = [] := by simpa using hLe
  go_enter Tryd.func15, Tryd.ntmps15
  go_wp2_with fail
  refine (C1.out _ hG1).mono ?_
  rintro e w1 ⟨rfl, hb1⟩
  have hz1 := (Holds.fresh w 51 #[.int .u8 4, .int .i64 n, .int .i64 x]).later hb1
  obtain ⟨z0, z1, z2⟩ := tok_cells hz1
  go_wp2_with fail
  refine (C2.out _ (hG1.mono hb1)).mono ?_
  rintro e w2 ⟨a, cap, rfl, hcap, ht, hb2⟩
  have hb := (((Below.refl w.heap.size w).alloc (Nat.le_refl _) (.cells #[.int .u8 4, .int .i64 n, .int .i64 x] 51)).trans (hb1.mono (by simp)))
  replace hb := hb.trans (hb2.mono hb.size)
  replace hz1 := (show Holds w1 w.heap.size 51 #[.int .u8 4, .int .i64 n, .int .i64 x] from hz1).later hb2
  clear z0 z1 z2
  obtain ⟨z0, z1, z2⟩ := tok_cells hz1
  obtain ⟨b, off, rfl, x0, x1, x2, y0, y1, y2⟩ := toks_two ht
  go_wp2_with fail
  go_still_tail 42, (by kernel_rfl)
  go_wp2_with fail
  refine (wakes07 _ ?_).mono ?_
  · exact (hG.mono' hb (Nat.le_refl _)).mono ((Below.refl _ _).drew)
  rintro e w3 ⟨rfl, hb3⟩
  go_wp2_with fail
  go_ret
  exact ⟨rfl, (hb.drew).trans (hb3.mono hb.size)⟩
end Go.Proofs.YtafgincpoahefaaDoor
