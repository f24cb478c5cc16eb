/-
  stragglelaw01.NumBack: true of any two numbers, any text of at most 100 bytes, any number of bytes. Conditions: none (the row lists the library's tables and errors that its road reads, as the program's text lays them).
-/
import Derived.Test.YtafgincpoahefaaDoorNumL1
import Derived.Test.YtafgincpoahefaaDoorNumP
import Derived.Test.YtafgincpoahefaaDoorNumB
import Derived.Lib.ItoaLen
namespace Go.Proofs.YtafgincpoahefaaDoor
open Go.ChangeShapes Go.WideShapes Go.ChangeAt Go.RowKit
set_option linter.unusedVariables false

set_option maxRecDepth 100000 in
set_option maxHeartbeats 4000000 in
theorem numBack_010 (a b : Int) (s : ByteArray) (bytes : Int) (w : World) (ha : -9223372036854775808 ≤ a ∧ a ≤ 9223372036854775807) (hb : -9223372036854775808 ≤ b ∧ b ≤ 9223372036854775807)
    (hs : s.size ≤ 140737488351232) (hby : -9223372036854775808 ≤ bytes ∧ bytes ≤ 9223372036854775807) (hG : G w)
     (h100 : ¬ 100 < s.size) (la : List UInt8) (hla : Lib.itoa a = la) (hia : readOf la = (a, 0)) (hil : la.length ≤ 21) (hA : addOf a b = ((a + b), 0)) (hS : subOf a b = (0, 12)) (h1 : -9223372036854775808 ≤ a + b ∧ a + b ≤ 9223372036854775807) (m : Int) (hR : readOf s.data.toList = (m, 0)) (hm : Lib.itoa m = s.data.toList) (hmr : -9223372036854775808 ≤ m ∧ m ≤ 9223372036854775807) :
    Calls Tryd.prog 8 #[.int .i64 a, .int .i64 b, .string s, .int .i64 bytes] w fun e w' => e = .returned (.bool true) ∧ Below w.heap.size w w' := by
  have c3 := fun W => wakes01 W
  have C3 := Lib.hid c3; clear c3
  have HSZ := Lib.hid (show (⟨la.toArray⟩ : ByteArray).size = la.length from List.size_toArray)
  have HLA := Lib.hid hla; clear hla
  have HIA := Lib.hid hia; clear hia
  have HA := Lib.hid hA; clear hA
  have HS := Lib.hid hS; clear hS
  have HR := Lib.hid hR; clear hR
  have c1 := num_Add_at a b (a + b) 0 HA.out w
  have c2 := num_Sub_at a b 0 12 HS.out
  have C1 := Lib.hid c1; clear c1
  have C2 := Lib.hid c2; clear c2
  have HM := Lib.hid hm; clear hm
  have c4 := num_Sub_at (a + b) b a 0 (by have := sub_in (a + b) b h1 hb (by omega); rw [this]; congr 1; omega)
  have C4 := Lib.hid c4; clear c4
  go_enter Tryd.func8, Tryd.ntmps8
  go_wp2_with fail
  refine C1.out.mono ?_
  rintro e w1 ⟨rfl, rfl⟩
  go_wp2_with fail
  refine (C4.out _).mono ?_
  rintro e w1 ⟨rfl, rfl⟩
  go_wp2_with fail
  refine (C2.out _).mono ?_
  rintro e w1 ⟨rfl, rfl⟩
  go_wp2_with fail
  refine (num_Text_at a ha.1 ha.2 la.toArray (by simpa using HLA.out) _ hG).mono ?_
  rintro e W1 ⟨rfl, hb1⟩
  go_wp2_with fail
  refine (num_Read_at _ (by have e := HSZ.out; rw [e]; omega) a 0 (by simpa using HIA.out) _ (hG.mono hb1)).mono ?_
  rintro e W2 ⟨rfl, hx⟩
  have hb2 := hb1.trans (hx.mono hb1.size); clear hx hb1
  go_wp2_with fail
  refine (num_Read_at _ hs m 0 HR.out _ (hG.mono hb2)).mono ?_
  rintro e W3 ⟨rfl, hx⟩
  have hb3 := hb2.trans (hx.mono hb2.size); clear hx hb2
  go_wp2_with fail
  refine (num_Text_at m hmr.1 hmr.2 s.data (by simpa using HM.out) _ (hG.mono hb3)).mono ?_
  rintro e W4 ⟨rfl, hx⟩
  have hb4 := hb3.trans (hx.mono hb3.size); clear hx hb3
  go_wp2_with fail
  refine (num_Put a bytes hby.1 hby.2 _).mono ?_
  rintro e W5 ⟨v, rfl, hrow, hx⟩
  have hb5 := hb4.trans (hx.mono hb4.size); clear hx hb4
  obtain ⟨ad, cap, rfl, hcap, hints⟩ := ints_of_row hrow (by unfold putN; omega)
  clear hrow
  by_cases hq0 : 0 ≤ bytes
  · by_cases hq7 : bytes ≤ 7
    · have hq : bytes = 0 ∨ bytes = 1 ∨ bytes = 2 ∨ bytes = 3 ∨ bytes = 4 ∨ bytes = 5 ∨ bytes = 6 ∨ bytes = 7 := by omega
      clear hq0 hq7
      rcases hq with rfl | rfl | rfl | rfl | rfl | rfl | rfl | rfl
      · have hL := putOf_length a 0
        have hLn := putN_eq 0
        rw [hL] at hcap ⊢
        have HL := Lib.hid hL; clear hL
        go_wp2_with fail
        rotate_left 1
        all_goals try
          refine (C3.out _ (hG.mono hb5)).mono ?_
          rintro e w6 ⟨rfl, hx⟩
          go_wp2_with fail
          go_ret
          exact ⟨rfl, hb5.trans (hx.mono hb5.size)⟩
        refine (num_Take_at (putOf a 0) (putN 0) HL.out a (take_back a 0 (by decide) (by decide) (by omega) (by rw [wrap_pow _ (by decide) (by decide)]; simp; omega)) ad cap hcap W5 hints (putOf_bytes a 0)).mono ?_
        rintro e w6 ⟨rfl, rfl⟩
        go_wp2_with fail
        refine (C3.out _ (hG.mono hb5)).mono ?_
        rintro e w6 ⟨rfl, hx⟩
        go_wp2_with fail
        go_ret
        exact ⟨rfl, hb5.trans (hx.mono hb5.size)⟩
      · have hL := putOf_length a 1
        have hLn := putN_eq 1
        rw [hL] at hcap ⊢
        have HL := Lib.hid hL; clear hL
        go_wp2_with fail
        rotate_left 1
        all_goals try
          refine (C3.out _ (hG.mono hb5)).mono ?_
          rintro e w6 ⟨rfl, hx⟩
          go_wp2_with fail
          go_ret
          exact ⟨rfl, hb5.trans (hx.mono hb5.size)⟩
        refine (num_Take_at (putOf a 1) (putN 1) HL.out a (take_back a 1 (by decide) (by decide) (by omega) (by rw [wrap_pow _ (by decide) (by decide)]; simp; omega)) ad cap hcap W5 hints (putOf_bytes a 1)).mono ?_
        rintro e w6 ⟨rfl, rfl⟩
        go_wp2_with fail
        refine (C3.out _ (hG.mono hb5)).mono ?_
        rintro e w6 ⟨rfl, hx⟩
        go_wp2_with fail
        go_ret
        exact ⟨rfl, hb5.trans (hx.mono hb5.size)⟩
      · have hL := putOf_length a 2
        have hLn := putN_eq 2
        rw [hL] at hcap ⊢
        have HL := Lib.hid hL; clear hL
        go_wp2_with fail
        rotate_left 1
        all_goals try
          refine (C3.out _ (hG.mono hb5)).mono ?_
          rintro e w6 ⟨rfl, hx⟩
          go_wp2_with fail
          go_ret
          exact ⟨rfl, hb5.trans (hx.mono hb5.size)⟩
        refine (num_Take_at (putOf a 2) (putN 2) HL.out a (take_back a 2 (by decide) (by decide) (by omega) (by rw [wrap_pow _ (by decide) (by decide)]; simp; omega)) ad cap hcap W5 hints (putOf_bytes a 2)).mono ?_
        rintro e w6 ⟨rfl, rfl⟩
        go_wp2_with fail
        refine (C3.out _ (hG.mono hb5)).mono ?_
        rintro e w6 ⟨rfl, hx⟩
        go_wp2_with fail
        go_ret
        exact ⟨rfl, hb5.trans (hx.mono hb5.size)⟩
      · have hL := putOf_length a 3
        have hLn := putN_eq 3
        rw [hL] at hcap ⊢
        have HL := Lib.hid hL; clear hL
        go_wp2_with fail
        rotate_left 1
        all_goals try
          refine (C3.out _ (hG.mono hb5)).mono ?_
          rintro e w6 ⟨rfl, hx⟩
          go_wp2_with fail
          go_ret
          exact ⟨rfl, hb5.trans (hx.mono hb5.size)⟩
        refine (num_Take_at (putOf a 3) (putN 3) HL.out a (take_back a 3 (by decide) (by decide) (by omega) (by rw [wrap_pow _ (by decide) (by decide)]; simp; omega)) ad cap hcap W5 hints (putOf_bytes a 3)).mono ?_
        rintro e w6 ⟨rfl, rfl⟩
        go_wp2_with fail
        refine (C3.out _ (hG.mono hb5)).mono ?_
        rintro e w6 ⟨rfl, hx⟩
        go_wp2_with fail
        go_ret
        exact ⟨rfl, hb5.trans (hx.mono hb5.size)⟩
      · have hL := putOf_length a 4
        have hLn := putN_eq 4
        rw [hL] at hcap ⊢
        have HL := Lib.hid hL; clear hL
        go_wp2_with fail
        rotate_left 1
        all_goals try
          refine (C3.out _ (hG.mono hb5)).mono ?_
          rintro e w6 ⟨rfl, hx⟩
          go_wp2_with fail
          go_ret
          exact ⟨rfl, hb5.trans (hx.mono hb5.size)⟩
        refine (num_Take_at (putOf a 4) (putN 4) HL.out a (take_back a 4 (by decide) (by decide) (by omega) (by rw [wrap_pow _ (by decide) (by decide)]; simp; omega)) ad cap hcap W5 hints (putOf_bytes a 4)).mono ?_
        rintro e w6 ⟨rfl, rfl⟩
        go_wp2_with fail
        refine (C3.out _ (hG.mono hb5)).mono ?_
        rintro e w6 ⟨rfl, hx⟩
        go_wp2_with fail
        go_ret
        exact ⟨rfl, hb5.trans (hx.mono hb5.size)⟩
      · have hL := putOf_length a 5
        have hLn := putN_eq 5
        rw [hL] at hcap ⊢
        have HL := Lib.hid hL; clear hL
        go_wp2_with fail
        rotate_left 1
        all_goals try
          refine (C3.out _ (hG.mono hb5)).mono ?_
          rintro e w6 ⟨rfl, hx⟩
          go_wp2_with fail
          go_ret
          exact ⟨rfl, hb5.trans (hx.mono hb5.size)⟩
        refine (num_Take_at (putOf a 5) (putN 5) HL.out a (take_back a 5 (by decide) (by decide) (by omega) (by rw [wrap_pow _ (by decide) (by decide)]; simp; omega)) ad cap hcap W5 hints (putOf_bytes a 5)).mono ?_
        rintro e w6 ⟨rfl, rfl⟩
        go_wp2_with fail
        refine (C3.out _ (hG.mono hb5)).mono ?_
        rintro e w6 ⟨rfl, hx⟩
        go_wp2_with fail
        go_ret
        exact ⟨rfl, hb5.trans (hx.mono hb5.size)⟩
      · have hL := putOf_length a 6
        have hLn := putN_eq 6
        rw [hL] at hcap ⊢
        have HL := Lib.hid hL; clear hL
        go_wp2_with fail
        rotate_left 1
        all_goals try
          refine (C3.out _ (hG.mono hb5)).mono ?_
          rintro e w6 ⟨rfl, hx⟩
          go_wp2_with fail
          go_ret
          exact ⟨rfl, hb5.trans (hx.mono hb5.size)⟩
        refine (num_Take_at (putOf a 6) (putN 6) HL.out a (take_back a 6 (by decide) (by decide) (by omega) (by rw [wrap_pow _ (by decide) (by decide)]; simp; omega)) ad cap hcap W5 hints (putOf_bytes a 6)).mono ?_
        rintro e w6 ⟨rfl, rfl⟩
        go_wp2_with fail
        refine (C3.out _ (hG.mono hb5)).mono ?_
        rintro e w6 ⟨rfl, hx⟩
        go_wp2_with fail
        go_ret
        exact ⟨rfl, hb5.trans (hx.mono hb5.size)⟩
      · have hL := putOf_length a 7
        have hLn := putN_eq 7
        rw [hL] at hcap ⊢
        have HL := Lib.hid hL; clear hL
        go_wp2_with fail
        rotate_left 1
        all_goals try
          refine (C3.out _ (hG.mono hb5)).mono ?_
          rintro e w6 ⟨rfl, hx⟩
          go_wp2_with fail
          go_ret
          exact ⟨rfl, hb5.trans (hx.mono hb5.size)⟩
        refine (num_Take_at (putOf a 7) (putN 7) HL.out a (take_back a 7 (by decide) (by decide) (by omega) (by rw [wrap_pow _ (by decide) (by decide)]; simp; omega)) ad cap hcap W5 hints (putOf_bytes a 7)).mono ?_
        rintro e w6 ⟨rfl, rfl⟩
        go_wp2_with fail
        refine (C3.out _ (hG.mono hb5)).mono ?_
        rintro e w6 ⟨rfl, hx⟩
        go_wp2_with fail
        go_ret
        exact ⟨rfl, hb5.trans (hx.mono hb5.size)⟩
    · have hq8 : 7 < bytes := by omega
      have hL := putOf_length a bytes
      have hLn := putN_eq bytes
      rw [hL] at hcap ⊢
      have HL := Lib.hid hL; clear hL
      go_wp2_with fail
      refine (C3.out _ (hG.mono hb5)).mono ?_
      rintro e w6 ⟨rfl, hx⟩
      go_wp2_with fail
      go_ret
      exact ⟨rfl, hb5.trans (hx.mono hb5.size)⟩
  · have hL := putOf_length a bytes
    have hLn := putN_eq bytes
    rw [hL] at hcap ⊢
    have HL := Lib.hid hL; clear hL
    go_wp2_with fail
    refine (C3.out _ (hG.mono hb5)).mono ?_
    rintro e w6 ⟨rfl, hx⟩
    go_wp2_with fail
    go_ret
    exact ⟨rfl, hb5.trans (hx.mono hb5.size)⟩

set_option maxRecDepth 100000 in
set_option maxHeartbeats 4000000 in
theorem numBack_011 (a b : Int) (s : ByteArray) (bytes : Int) (w : World) (ha : -9223372036854775808 ≤ a ∧ a ≤ 9223372036854775807) (hb : -9223372036854775808 ≤ b ∧ b ≤ 9223372036854775807)
    (hs : s.size ≤ 140737488351232) (hby : -9223372036854775808 ≤ bytes ∧ bytes ≤ 9223372036854775807) (hG : G w)
     (h100 : ¬ 100 < s.size) (la : List UInt8) (hla : Lib.itoa a = la) (hia : readOf la = (a, 0)) (hil : la.length ≤ 21) (hA : addOf a b = ((a + b), 0)) (hS : subOf a b = (0, 12)) (h1 : -9223372036854775808 ≤ a + b ∧ a + b ≤ 9223372036854775807) (h : Int) (hR : readOf s.data.toList = (0, h)) (hh : ¬ h = 0) :
    Calls Tryd.prog 8 #[.int .i64 a, .int .i64 b, .string s, .int .i64 bytes] w fun e w' => e = .returned (.bool true) ∧ Below w.heap.size w w' := by
  have c3 := fun W => wakes01 W
  have C3 := Lib.hid c3; clear c3
  have HSZ := Lib.hid (show (⟨la.toArray⟩ : ByteArray).size = la.length from List.size_toArray)
  have HLA := Lib.hid hla; clear hla
  have HIA := Lib.hid hia; clear hia
  have HA := Lib.hid hA; clear hA
  have HS := Lib.hid hS; clear hS
  have HR := Lib.hid hR; clear hR
  have c1 := num_Add_at a b (a + b) 0 HA.out w
  have c2 := num_Sub_at a b 0 12 HS.out
  have C1 := Lib.hid c1; clear c1
  have C2 := Lib.hid c2; clear c2
  have c4 := num_Sub_at (a + b) b a 0 (by have := sub_in (a + b) b h1 hb (by omega); rw [this]; congr 1; omega)
  have C4 := Lib.hid c4; clear c4
  go_enter Tryd.func8, Tryd.ntmps8
  go_wp2_with fail
  refine C1.out.mono ?_
  rintro e w1 ⟨rfl, rfl⟩
  go_wp2_with fail
  refine (C4.out _).mono ?_
  rintro e w1 ⟨rfl, rfl⟩
  go_wp2_with fail
  refine (C2.out _).mono ?_
  rintro e w1 ⟨rfl, rfl⟩
  go_wp2_with fail
  refine (num_Text_at a ha.1 ha.2 la.toArray (by simpa using HLA.out) _ hG).mono ?_
  rintro e W1 ⟨rfl, hb1⟩
  go_wp2_with fail
  refine (num_Read_at _ (by have e := HSZ.out; rw [e]; omega) a 0 (by simpa using HIA.out) _ (hG.mono hb1)).mono ?_
  rintro e W2 ⟨rfl, hx⟩
  have hb2 := hb1.trans (hx.mono hb1.size); clear hx hb1
  go_wp2_with fail
  refine (num_Read_at _ hs 0 h HR.out _ (hG.mono hb2)).mono ?_
  rintro e W3 ⟨rfl, hx⟩
  have hb3 := hb2.trans (hx.mono hb2.size); clear hx hb2
  go_wp2_with fail
  have hb4 := hb3
  refine (num_Put a bytes hby.1 hby.2 _).mono ?_
  rintro e W5 ⟨v, rfl, hrow, hx⟩
  have hb5 := hb4.trans (hx.mono hb4.size); clear hx hb4
  obtain ⟨ad, cap, rfl, hcap, hints⟩ := ints_of_row hrow (by unfold putN; omega)
  clear hrow
  by_cases hq0 : 0 ≤ bytes
  · by_cases hq7 : bytes ≤ 7
    · have hq : bytes = 0 ∨ bytes = 1 ∨ bytes = 2 ∨ bytes = 3 ∨ bytes = 4 ∨ bytes = 5 ∨ bytes = 6 ∨ bytes = 7 := by omega
      clear hq0 hq7
      rcases hq with rfl | rfl | rfl | rfl | rfl | rfl | rfl | rfl
      · have hL := putOf_length a 0
        have hLn := putN_eq 0
        rw [hL] at hcap ⊢
        have HL := Lib.hid hL; clear hL
        go_wp2_with fail
        rotate_left 1
        all_goals try
          refine (C3.out _ (hG.mono hb5)).mono ?_
          rintro e w6 ⟨rfl, hx⟩
          go_wp2_with fail
          go_ret
          exact ⟨rfl, hb5.trans (hx.mono hb5.size)⟩
        refine (num_Take_at (putOf a 0) (putN 0) HL.out a (take_back a 0 (by decide) (by decide) (by omega) (by rw [wrap_pow _ (by decide) (by decide)]; simp; omega)) ad cap hcap W5 hints (putOf_bytes a 0)).mono ?_
        rintro e w6 ⟨rfl, rfl⟩
        go_wp2_with fail
        refine (C3.out _ (hG.mono hb5)).mono ?_
        rintro e w6 ⟨rfl, hx⟩
        go_wp2_with fail
        go_ret
        exact ⟨rfl, hb5.trans (hx.mono hb5.size)⟩
      · have hL := putOf_length a 1
        have hLn := putN_eq 1
        rw [hL] at hcap ⊢
        have HL := Lib.hid hL; clear hL
        go_wp2_with fail
        rotate_left 1
        all_goals try
          refine (C3.out _ (hG.mono hb5)).mono ?_
          rintro e w6 ⟨rfl, hx⟩
          go_wp2_with fail
          go_ret
          exact ⟨rfl, hb5.trans (hx.mono hb5.size)⟩
        refine (num_Take_at (putOf a 1) (putN 1) HL.out a (take_back a 1 (by decide) (by decide) (by omega) (by rw [wrap_pow _ (by decide) (by decide)]; simp; omega)) ad cap hcap W5 hints (putOf_bytes a 1)).mono ?_
        rintro e w6 ⟨rfl, rfl⟩
        go_wp2_with fail
        refine (C3.out _ (hG.mono hb5)).mono ?_
        rintro e w6 ⟨rfl, hx⟩
        go_wp2_with fail
        go_ret
        exact ⟨rfl, hb5.trans (hx.mono hb5.size)⟩
      · have hL := putOf_length a 2
        have hLn := putN_eq 2
        rw [hL] at hcap ⊢
        have HL := Lib.hid hL; clear hL
        go_wp2_with fail
        rotate_left 1
        all_goals try
          refine (C3.out _ (hG.mono hb5)).mono ?_
          rintro e w6 ⟨rfl, hx⟩
          go_wp2_with fail
          go_ret
          exact ⟨rfl, hb5.trans (hx.mono hb5.size)⟩
        refine (num_Take_at (putOf a 2) (putN 2) HL.out a (take_back a 2 (by decide) (by decide) (by omega) (by rw [wrap_pow _ (by decide) (by decide)]; simp; omega)) ad cap hcap W5 hints (putOf_bytes a 2)).mono ?_
        rintro e w6 ⟨rfl, rfl⟩
        go_wp2_with fail
        refine (C3.out _ (hG.mono hb5)).mono ?_
        rintro e w6 ⟨rfl, hx⟩
        go_wp2_with fail
        go_ret
        exact ⟨rfl, hb5.trans (hx.mono hb5.size)⟩
      · have hL := putOf_length a 3
        have hLn := putN_eq 3
        rw [hL] at hcap ⊢
        have HL := Lib.hid hL; clear hL
        go_wp2_with fail
        rotate_left 1
        all_goals try
          refine (C3.out _ (hG.mono hb5)).mono ?_
          rintro e w6 ⟨rfl, hx⟩
          go_wp2_with fail
          go_ret
          exact ⟨rfl, hb5.trans (hx.mono hb5.size)⟩
        refine (num_Take_at (putOf a 3) (putN 3) HL.out a (take_back a 3 (by decide) (by decide) (by omega) (by rw [wrap_pow _ (by decide) (by decide)]; simp; omega)) ad cap hcap W5 hints (putOf_bytes a 3)).mono ?_
        rintro e w6 ⟨rfl, rfl⟩
        go_wp2_with fail
        refine (C3.out _ (hG.mono hb5)).mono ?_
        rintro e w6 ⟨rfl, hx⟩
        go_wp2_with fail
        go_ret
        exact ⟨rfl, hb5.trans (hx.mono hb5.size)⟩
      · have hL := putOf_length a 4
        have hLn := putN_eq 4
        rw [hL] at hcap ⊢
        have HL := Lib.hid hL; clear hL
        go_wp2_with fail
        rotate_left 1
        all_goals try
          refine (C3.out _ (hG.mono hb5)).mono ?_
          rintro e w6 ⟨rfl, hx⟩
          go_wp2_with fail
          go_ret
          exact ⟨rfl, hb5.trans (hx.mono hb5.size)⟩
        refine (num_Take_at (putOf a 4) (putN 4) HL.out a (take_back a 4 (by decide) (by decide) (by omega) (by rw [wrap_pow _ (by decide) (by decide)]; simp; omega)) ad cap hcap W5 hints (putOf_bytes a 4)).mono ?_
        rintro e w6 ⟨rfl, rfl⟩
        go_wp2_with fail
        refine (C3.out _ (hG.mono hb5)).mono ?_
        rintro e w6 ⟨rfl, hx⟩
        go_wp2_with fail
        go_ret
        exact ⟨rfl, hb5.trans (hx.mono hb5.size)⟩
      · have hL := putOf_length a 5
        have hLn := putN_eq 5
        rw [hL] at hcap ⊢
        have HL := Lib.hid hL; clear hL
        go_wp2_with fail
        rotate_left 1
        all_goals try
          refine (C3.out _ (hG.mono hb5)).mono ?_
          rintro e w6 ⟨rfl, hx⟩
          go_wp2_with fail
          go_ret
          exact ⟨rfl, hb5.trans (hx.mono hb5.size)⟩
        refine (num_Take_at (putOf a 5) (putN 5) HL.out a (take_back a 5 (by decide) (by decide) (by omega) (by rw [wrap_pow _ (by decide) (by decide)]; simp; omega)) ad cap hcap W5 hints (putOf_bytes a 5)).mono ?_
        rintro e w6 ⟨rfl, rfl⟩
        go_wp2_with fail
        refine (C3.out _ (hG.mono hb5)).mono ?_
        rintro e w6 ⟨rfl, hx⟩
        go_wp2_with fail
        go_ret
        exact ⟨rfl, hb5.trans (hx.mono hb5.size)⟩
      · have hL := putOf_length a 6
        have hLn := putN_eq 6
        rw [hL] at hcap ⊢
        have HL := Lib.hid hL; clear hL
        go_wp2_with fail
        rotate_left 1
        all_goals try
          refine (C3.out _ (hG.mono hb5)).mono ?_
          rintro e w6 ⟨rfl, hx⟩
          go_wp2_with fail
          go_ret
          exact ⟨rfl, hb5.trans (hx.mono hb5.size)⟩
        refine (num_Take_at (putOf a 6) (putN 6) HL.out a (take_back a 6 (by decide) (by decide) (by omega) (by rw [wrap_pow _ (by decide) (by decide)]; simp; omega)) ad cap hcap W5 hints (putOf_bytes a 6)).mono ?_
        rintro e w6 ⟨rfl, rfl⟩
        go_wp2_with fail
        refine (C3.out _ (hG.mono hb5)).mono ?_
        rintro e w6 ⟨rfl, hx⟩
        go_wp2_with fail
        go_ret
        exact ⟨rfl, hb5.trans (hx.mono hb5.size)⟩
      · have hL := putOf_length a 7
        have hLn := putN_eq 7
        rw [hL] at hcap ⊢
        have HL := Lib.hid hL; clear hL
        go_wp2_with fail
        rotate_left 1
        all_goals try
          refine (C3.out _ (hG.mono hb5)).mono ?_
          rintro e w6 ⟨rfl, hx⟩
          go_wp2_with fail
          go_ret
          exact ⟨rfl, hb5.trans (hx.mono hb5.size)⟩
        refine (num_Take_at (putOf a 7) (putN 7) HL.out a (take_back a 7 (by decide) (by decide) (by omega) (by rw [wrap_pow _ (by decide) (by decide)]; simp; omega)) ad cap hcap W5 hints (putOf_bytes a 7)).mono ?_
        rintro e w6 ⟨rfl, rfl⟩
        go_wp2_with fail
        refine (C3.out _ (hG.mono hb5)).mono ?_
        rintro e w6 ⟨rfl, hx⟩
        go_wp2_with fail
        go_ret
        exact ⟨rfl, hb5.trans (hx.mono hb5.size)⟩
    · have hq8 : 7 < bytes := by omega
      have hL := putOf_length a bytes
      have hLn := putN_eq bytes
      rw [hL] at hcap ⊢
      have HL := Lib.hid hL; clear hL
      go_wp2_with fail
      refine (C3.out _ (hG.mono hb5)).mono ?_
      rintro e w6 ⟨rfl, hx⟩
      go_wp2_with fail
      go_ret
      exact ⟨rfl, hb5.trans (hx.mono hb5.size)⟩
  · have hL := putOf_length a bytes
    have hLn := putN_eq bytes
    rw [hL] at hcap ⊢
    have HL := Lib.hid hL; clear hL
    go_wp2_with fail
    refine (C3.out _ (hG.mono hb5)).mono ?_
    rintro e w6 ⟨rfl, hx⟩
    go_wp2_with fail
    go_ret
    exact ⟨rfl, hb5.trans (hx.mono hb5.size)⟩

end Go.Proofs.YtafgincpoahefaaDoor
