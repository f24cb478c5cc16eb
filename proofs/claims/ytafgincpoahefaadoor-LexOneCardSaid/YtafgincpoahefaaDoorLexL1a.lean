/-
  stragglelaw07.LexOne: walks of some of its cases.
-/
import Derived.Test.YtafgincpoahefaaDoorLexL1
namespace Go.Proofs.YtafgincpoahefaaDoor
open Go.RowKit
set_option maxRecDepth 100000 in
set_option maxHeartbeats 4000000 in
theorem lexOne_some1 (n : Int) (h0 : 0 ≤ n) (h1 : n ≤ 1099511627776) (x : Int) (w : World) (hG : GL w) : Calls Tryd.prog 15 #[.agg #[.int .u8 1, .int .i64 n, .int .i64 x]] w fun e w' => e = .returned (.bool true) ∧ Below w.heap.size w w' := by
  have hne : textOf 1 n ≠ [] := by unfold textOf; rw [if_pos ⟨rfl, h0, h1⟩]; exact itoa_ne n h0
  have hal := all_own 1 n hne (text_len 1 n)
  have hn := text_len 1 n
  have c1 := fun w => text_call 1 n _ rfl (.int .i64 x) w
  generalize textOf 1 n = l at *
  have hL : (⟨l.toArray⟩ : ByteArray).size = l.length := by simp [ByteArray.size]
  have hLe : (⟨l.toArray⟩ : ByteArray).toList.isEmpty = false := by rw [ByteArray.toList_eq]; simpa using hne
  rw [← hL] at hal
  have c2 := fun w hG => lex_All_at ⟨l.toArray⟩ (by omega) _ 0 0 2 rfl (by simpa using hal) w hG
  generalize (⟨l.toArray⟩ : ByteArray) = L at *
  have hG1 := hG.alloc (.cells #[.int .u8 1, .int .i64 n, .int .i64 x] 51)
  have C1 := Lib.hid c1; clear c1
  have C2 := Lib.hid c2; clear c2
  have HN := Lib.hid hn; clear hn
  have HL := Lib.hid hL; clear hL hne hal
  have hLe2 : ¬ L.toList = [] := by simpa using hLe
  go_enter Tryd.func15, Tryd.ntmps15
  go_wp2_with fail
  refine (C1.out _ hG1).mono ?_
  rintro e w1 ⟨rfl, hb1⟩
  have hz1 := (Holds.fresh w 51 #[.int .u8 1, .int .i64 n, .int .i64 x]).later hb1
  obtain ⟨z0, z1, z2⟩ := tok_cells hz1
  go_wp2_with fail
  refine (C2.out _ (hG1.mono hb1)).mono ?_
  rintro e w2 ⟨a, cap, rfl, hcap, ht, hb2⟩
  have hb := (((Below.refl w.heap.size w).alloc (Nat.le_refl _) (.cells #[.int .u8 1, .int .i64 n, .int .i64 x] 51)).trans (hb1.mono (by simp)))
  replace hb := hb.trans (hb2.mono hb.size)
  replace hz1 := (show Holds w1 w.heap.size 51 #[.int .u8 1, .int .i64 n, .int .i64 x] from hz1).later hb2
  clear z0 z1 z2
  obtain ⟨z0, z1, z2⟩ := tok_cells hz1
  obtain ⟨b, off, rfl, x0, x1, x2, y0, y1, y2⟩ := toks_two ht
  go_wp2_with fail
  go_still_tail 42, (by kernel_rfl)
  go_wp2_with fail
  refine (wakes07 _ ?_).mono ?_
  · exact (hG.mono' hb (Nat.le_refl _)).mono ((Below.refl _ _).drew)
  rintro e w3 ⟨rfl, hb3⟩
  go_wp2_with fail
  go_ret
  exact ⟨rfl, (hb.drew).trans (hb3.mono hb.size)⟩
set_option maxRecDepth 100000 in
set_option maxHeartbeats 4000000 in
theorem lexOne_some2 (n : Int) (h0 : 0 ≤ n) (h1 : n < 26) (x : Int) (w : World) (hG : GL w) : Calls Tryd.prog 15 #[.agg #[.int .u8 2, .int .i64 n, .int .i64 x]] w fun e w' => e = .returned (.bool true) ∧ Below w.heap.size w w' := by
  have hne : textOf 2 n ≠ [] := by unfold textOf; rw [if_neg (by omega), if_pos ⟨rfl, h0, h1⟩]; simp
  have hal := all_own 2 n hne (text_len 2 n)
  have hn := text_len 2 n
  have c1 := fun w => text_call 2 n _ rfl (.int .i64 x) w
  generalize textOf 2 n = l at *
  have hL : (⟨l.toArray⟩ : ByteArray).size = l.length := by simp [ByteArray.size]
  have hLe : (⟨l.toArray⟩ : ByteArray).toList.isEmpty = false := by rw [ByteArray.toList_eq]; simpa using hne
  rw [← hL] at hal
  have c2 := fun w hG => lex_All_at ⟨l.toArray⟩ (by omega) _ 0 0 2 rfl (by simpa using hal) w hG
  generalize (⟨l.toArray⟩ : ByteArray) = L at *
  have hG1 := hG.alloc (.cells #[.int .u8 2, .int .i64 n, .int .i64 x] 51)
  have C1 := Lib.hid c1; clear c1
  have C2 := Lib.hid c2; clear c2
  have HN := Lib.hid hn; clear hn
  have HL := Lib.hid hL; clear hL hne hal
  have hLe2 : ¬ L.toList = [] := by simpa using hLe
  go_enter Tryd.func15, Tryd.ntmps15
  go_wp2_with fail
  refine (C1.out _ hG1).mono ?_
  rintro e w1 ⟨rfl, hb1⟩
  have hz1 := (Holds.fresh w 51 #[.int .u8 2, .int .i64 n, .int .i64 x]).later hb1
  obtain ⟨z0, z1, z2⟩ := tok_cells hz1
  go_wp2_with fail
  refine (C2.out _ (hG1.mono hb1)).mono ?_
  rintro e w2 ⟨a, cap, rfl, hcap, ht, hb2⟩
  have hb := (((Below.refl w.heap.size w).alloc (Nat.le_refl _) (.cells #[.int .u8 2, .int .i64 n, .int .i64 x] 51)).trans (hb1.mono (by simp)))
  replace hb := hb.trans (hb2.mono hb.size)
  replace hz1 := (show Holds w1 w.heap.size 51 #[.int .u8 2, .int .i64 n, .int .i64 x] from hz1).later hb2
  clear z0 z1 z2
  obtain ⟨z0, z1, z2⟩ := tok_cells hz1
  obtain ⟨b, off, rfl, x0, x1, x2, y0, y1, y2⟩ := toks_two ht
  go_wp2_with fail
  go_still_tail 42, (by kernel_rfl)
  go_wp2_with fail
  refine (wakes07 _ ?_).mono ?_
  · exact (hG.mono' hb (Nat.le_refl _)).mono ((Below.refl _ _).drew)
  rintro e w3 ⟨rfl, hb3⟩
  go_wp2_with fail
  go_ret
  exact ⟨rfl, (hb.drew).trans (hb3.mono hb.size)⟩
end Go.Proofs.YtafgincpoahefaaDoor
