/-
  lex: Text.
-/
import Derived.Test.YtafgincpoahefaaDoorLex3
import Derived.Test.YtafgincpoahefaaDoorLexR
namespace Go.Proofs.YtafgincpoahefaaDoor
open Go.RowKit

def TextPost (k n : Int) (w : World) (e : Ending) (w' : World) : Prop := e = .returned (.string ⟨(textOf k n).toArray⟩) ∧ Below w.heap.size w w'
theorem textPost_of {k n : Int} {w w' : World} {l : List UInt8} {b : ByteArray} (h : textOf k n = l) (hb : b = ⟨l.toArray⟩) (hB : Below w.heap.size w w') : TextPost k n w (.returned (.string b)) w' := by
  unfold TextPost; rw [h, hb]; exact ⟨rfl, hB⟩
theorem text_none {k n : Int} (h1 : ¬ (k = 1 ∧ 0 ≤ n ∧ n ≤ 1099511627776)) (h2 : ¬ (k = 2 ∧ 0 ≤ n ∧ n < 26)) (h3 : ¬ (k = 3 ∧ n = 0)) (h4 : ¬ (k = 4 ∧ 0 < n ∧ n < 7)) (h5 : ¬ (k = 5 ∧ 0 < n ∧ n < 128 ∧ signB (UInt8.ofNat n.toNat) = true)) : textOf k n = [] := by
  unfold textOf; rw [if_neg h1, if_neg h2, if_neg h3, if_neg h4, if_neg h5]

theorem encode_ascii (n : Int) (h0 : 0 ≤ n) (h1 : n < 128) : Utf8.encode n = ⟨#[UInt8.ofNat n.toNat]⟩ := by
  obtain ⟨k, rfl⟩ := Int.eq_ofNat_of_zero_le h0
  have hv : Utf8.valid (k : Int) = true := by simp [Utf8.valid]; omega
  have hk : k < 0x80 := by omega
  unfold Utf8.encode
  simp only [hv, if_true, Int.toNat_natCast, hk]
set_option maxHeartbeats 1000000 in
theorem lex_Text_number (n : Int) (x : Value) (w : World) (hG : G w) (h0 : 0 ≤ n) (h1 : n ≤ 1099511627776) : Calls Tryd.prog 52 #[.agg #[.int .u8 1, .int .i64 n, x]] w (TextPost 1 n w) := by
  have c1 := fun w => num_Text n (by omega) (by omega) w
  have C1 := Lib.hid c1; clear c1
  have ht : textOf 1 n = Lib.itoa n := by unfold textOf; rw [if_pos ⟨rfl, h0, h1⟩]
  have HT := Lib.hid ht; clear ht
  go_enter Tryd.func52, Tryd.ntmps52
  go_wp2_with fail
  refine (C1.out _ (hG.alloc _)).mono ?_
  rintro e w1 ⟨rfl, hb⟩
  go_wp2_with fail
  go_ret
  exact textPost_of HT.out rfl (((Below.refl _ _).alloc (Nat.le_refl _) _).trans (hb.mono (by simp)))
set_option maxRecDepth 100000 in
set_option maxHeartbeats 1000000 in
theorem lex_Text_letter (n : Int) (h0 : 0 ≤ n) (h1 : n < 26) (x : Value) (w : World) : Calls Tryd.prog 52 #[.agg #[.int .u8 2, .int .i64 n, x]] w (TextPost 2 n w) := by
  have ht : textOf 2 n = [UInt8.ofNat (97 + n).toNat] := by unfold textOf; rw [if_neg (by omega), if_pos ⟨rfl, h0, h1⟩, show 97 + n.toNat = (97 + n).toNat from by omega]
  have HT := Lib.hid ht; clear ht
  go_enter Tryd.func52, Tryd.ntmps52
  go_wp2_with fail
  go_ret
  exact textPost_of HT.out (encode_ascii _ (by omega) (by omega)) ((Below.refl _ _).alloc (Nat.le_refl _) _)
set_option maxRecDepth 100000 in
set_option maxHeartbeats 1000000 in
theorem lex_Text_within (n : Int) (h0 : n = 0) (x : Value) (w : World) : Calls Tryd.prog 52 #[.agg #[.int .u8 3, .int .i64 n, x]] w (TextPost 3 n w) := by
  have ht : textOf 3 n = within := by subst h0; rfl
  have HT := Lib.hid ht; clear ht
  subst h0
  go_enter Tryd.func52, Tryd.ntmps52
  go_wp2_with fail
  go_ret
  exact textPost_of HT.out rfl ((Below.refl _ _).alloc (Nat.le_refl _) _)
set_option maxRecDepth 100000 in
set_option maxHeartbeats 1000000 in
theorem lex_Text_op (n : Nat) (h0 : 0 < n) (h1 : n < 7) (x : Value) (w : World) (hG : GL w) : Calls Tryd.prog 52 #[.agg #[.int .u8 4, .int .i64 n, x]] w (TextPost 4 n w) := by
  have ht : textOf 4 n = opText n := by unfold textOf; rw [if_neg (by omega), if_neg (by omega), if_neg (by omega), if_pos ⟨rfl, by omega, by omega⟩]; rfl
  have HT := Lib.hid ht; clear ht
  have hcell := (hG.alloc (.cells #[.int .u8 4, .int .i64 n, x] 51)).cell n h1
  go_enter Tryd.func52, Tryd.ntmps52
  go_wp2_with fail
  go_ret
  exact textPost_of HT.out rfl ((Below.refl _ _).alloc (Nat.le_refl _) _)
theorem sign_index (n : Int) (w : World) : Calls Tryd.prog 90 #[.string ⟨#[33, 123, 125, 91, 93, 40, 41, 44, 59, 38, 43, 45]⟩, .int .u8 n] w fun e w' => e = .returned (.int .i64 (Lib.indexByte [33, 123, 125, 91, 93, 40, 41, 44, 59, 38, 43, 45] (UInt8.ofNat n.toNat))) ∧ w = w' := by
  have := Tryd.strings_IndexByte ⟨#[33, 123, 125, 91, 93, 40, 41, 44, 59, 38, 43, 45]⟩ n w
  exact this.mono fun _ _ h => ⟨h.1, h.2.symm⟩
set_option maxRecDepth 100000 in
set_option maxHeartbeats 1000000 in
theorem lex_Text_sign (n : Int) (h0 : 0 < n) (h1 : n < 128) (h2 : signB (UInt8.ofNat n.toNat) = true) (x : Value) (w : World) : Calls Tryd.prog 52 #[.agg #[.int .u8 5, .int .i64 n, x]] w (TextPost 5 n w) := by
  have ht : textOf 5 n = [UInt8.ofNat n.toNat] := by unfold textOf; rw [if_neg (by omega), if_neg (by omega), if_neg (by omega), if_neg (by omega), if_pos ⟨rfl, h0, h1, h2⟩]
  have HT := Lib.hid ht; clear ht
  have c1 := fun w => sign_index n w
  have hx := (indexByte_signs (UInt8.ofNat n.toNat)).2 h2
  generalize Lib.indexByte [33, 123, 125, 91, 93, 40, 41, 44, 59, 38, 43, 45] (UInt8.ofNat n.toNat) = y at *
  have C1 := Lib.hid c1; clear c1 h2
  go_enter Tryd.func52, Tryd.ntmps52
  go_wp2_with fail
  refine (C1.out _).mono ?_
  rintro e w1 ⟨rfl, rfl⟩
  go_wp2_with fail
  go_ret
  exact textPost_of HT.out (encode_ascii _ (by omega) (by omega)) ((Below.refl _ _).alloc (Nat.le_refl _) _)
set_option maxRecDepth 100000 in
set_option maxHeartbeats 1000000 in
theorem lex_Text_nosign (n : Int) (h0 : 0 < n) (h1 : n < 128) (h2 : ¬ signB (UInt8.ofNat n.toNat) = true) (x : Value) (w : World) : Calls Tryd.prog 52 #[.agg #[.int .u8 5, .int .i64 n, x]] w (TextPost 5 n w) := by
  have ht : textOf 5 n = [] := text_none (by omega) (by omega) (by omega) (by omega) (fun h => h2 h.2.2.2)
  have HT := Lib.hid ht; clear ht
  have c1 := fun w => sign_index n w
  have hx : ¬ 0 ≤ Lib.indexByte [33, 123, 125, 91, 93, 40, 41, 44, 59, 38, 43, 45] (UInt8.ofNat n.toNat) := fun h => h2 ((indexByte_signs (UInt8.ofNat n.toNat)).1 h)
  generalize Lib.indexByte [33, 123, 125, 91, 93, 40, 41, 44, 59, 38, 43, 45] (UInt8.ofNat n.toNat) = y at *
  have C1 := Lib.hid c1; clear c1 h2
  go_enter Tryd.func52, Tryd.ntmps52
  go_wp2_with fail
  refine (C1.out _).mono ?_
  rintro e w1 ⟨rfl, rfl⟩
  go_wp2_with fail
  go_ret
  exact textPost_of HT.out rfl ((Below.refl _ _).alloc (Nat.le_refl _) _)
set_option maxRecDepth 100000 in
set_option maxHeartbeats 1000000 in
theorem lex_Text_n1a (n : Int) (h0 : n < 0) (x : Value) (w : World) : Calls Tryd.prog 52 #[.agg #[.int .u8 1, .int .i64 n, x]] w (TextPost 1 n w) := by
  have ht : textOf 1 n = [] := text_none (by omega) (by omega) (by omega) (by omega) (by omega)
  have HT := Lib.hid ht; clear ht
  go_enter Tryd.func52, Tryd.ntmps52
  go_wp2_with fail
  go_ret
  exact textPost_of HT.out rfl ((Below.refl _ _).alloc (Nat.le_refl _) _)
set_option maxRecDepth 100000 in
set_option maxHeartbeats 1000000 in
theorem lex_Text_n1b (n : Int) (h0 : 1099511627776 < n) (x : Value) (w : World) : Calls Tryd.prog 52 #[.agg #[.int .u8 1, .int .i64 n, x]] w (TextPost 1 n w) := by
  have ht : textOf 1 n = [] := text_none (by omega) (by omega) (by omega) (by omega) (by omega)
  have HT := Lib.hid ht; clear ht
  go_enter Tryd.func52, Tryd.ntmps52
  go_wp2_with fail
  go_ret
  exact textPost_of HT.out rfl ((Below.refl _ _).alloc (Nat.le_refl _) _)
set_option maxRecDepth 100000 in
set_option maxHeartbeats 1000000 in
theorem lex_Text_n2a (n : Int) (h0 : n < 0) (x : Value) (w : World) : Calls Tryd.prog 52 #[.agg #[.int .u8 2, .int .i64 n, x]] w (TextPost 2 n w) := by
  have ht : textOf 2 n = [] := text_none (by omega) (by omega) (by omega) (by omega) (by omega)
  have HT := Lib.hid ht; clear ht
  go_enter Tryd.func52, Tryd.ntmps52
  go_wp2_with fail
  go_ret
  exact textPost_of HT.out rfl ((Below.refl _ _).alloc (Nat.le_refl _) _)
set_option maxRecDepth 100000 in
set_option maxHeartbeats 1000000 in
theorem lex_Text_n2b (n : Int) (h0 : 26 ≤ n) (x : Value) (w : World) : Calls Tryd.prog 52 #[.agg #[.int .u8 2, .int .i64 n, x]] w (TextPost 2 n w) := by
  have ht : textOf 2 n = [] := text_none (by omega) (by omega) (by omega) (by omega) (by omega)
  have HT := Lib.hid ht; clear ht
  go_enter Tryd.func52, Tryd.ntmps52
  go_wp2_with fail
  go_ret
  exact textPost_of HT.out rfl ((Below.refl _ _).alloc (Nat.le_refl _) _)
set_option maxRecDepth 100000 in
set_option maxHeartbeats 1000000 in
theorem lex_Text_n4a (n : Int) (h0 : n ≤ 0) (x : Value) (w : World) : Calls Tryd.prog 52 #[.agg #[.int .u8 4, .int .i64 n, x]] w (TextPost 4 n w) := by
  have ht : textOf 4 n = [] := text_none (by omega) (by omega) (by omega) (by omega) (by omega)
  have HT := Lib.hid ht; clear ht
  go_enter Tryd.func52, Tryd.ntmps52
  go_wp2_with fail
  go_ret
  exact textPost_of HT.out rfl ((Below.refl _ _).alloc (Nat.le_refl _) _)
set_option maxRecDepth 100000 in
set_option maxHeartbeats 1000000 in
theorem lex_Text_n4b (n : Int) (h0 : 7 ≤ n) (x : Value) (w : World) : Calls Tryd.prog 52 #[.agg #[.int .u8 4, .int .i64 n, x]] w (TextPost 4 n w) := by
  have ht : textOf 4 n = [] := text_none (by omega) (by omega) (by omega) (by omega) (by omega)
  have HT := Lib.hid ht; clear ht
  go_enter Tryd.func52, Tryd.ntmps52
  go_wp2_with fail
  go_ret
  exact textPost_of HT.out rfl ((Below.refl _ _).alloc (Nat.le_refl _) _)
set_option maxRecDepth 100000 in
set_option maxHeartbeats 1000000 in
theorem lex_Text_n5a (n : Int) (h0 : n ≤ 0) (x : Value) (w : World) : Calls Tryd.prog 52 #[.agg #[.int .u8 5, .int .i64 n, x]] w (TextPost 5 n w) := by
  have ht : textOf 5 n = [] := text_none (by omega) (by omega) (by omega) (by omega) (by omega)
  have HT := Lib.hid ht; clear ht
  go_enter Tryd.func52, Tryd.ntmps52
  go_wp2_with fail
  go_ret
  exact textPost_of HT.out rfl ((Below.refl _ _).alloc (Nat.le_refl _) _)
set_option maxRecDepth 100000 in
set_option maxHeartbeats 1000000 in
theorem lex_Text_n5b (n : Int) (h0 : 128 ≤ n) (x : Value) (w : World) : Calls Tryd.prog 52 #[.agg #[.int .u8 5, .int .i64 n, x]] w (TextPost 5 n w) := by
  have ht : textOf 5 n = [] := text_none (by omega) (by omega) (by omega) (by omega) (by omega)
  have HT := Lib.hid ht; clear ht
  go_enter Tryd.func52, Tryd.ntmps52
  go_wp2_with fail
  go_ret
  exact textPost_of HT.out rfl ((Below.refl _ _).alloc (Nat.le_refl _) _)
set_option maxRecDepth 100000 in
set_option maxHeartbeats 1000000 in
theorem lex_Text_n3 (n : Int) (h0 : n ≠ 0) (x : Value) (w : World) : Calls Tryd.prog 52 #[.agg #[.int .u8 3, .int .i64 n, x]] w (TextPost 3 n w) := by
  have ht : textOf 3 n = [] := text_none (by omega) (by omega) (by omega) (by omega) (by omega)
  have HT := Lib.hid ht; clear ht
  have hn : (n == 0) = false := by simpa using h0
  clear h0
  go_enter Tryd.func52, Tryd.ntmps52
  go_wp2_with fail
  go_ret
  exact textPost_of HT.out rfl ((Below.refl _ _).alloc (Nat.le_refl _) _)
set_option maxRecDepth 100000 in
set_option maxHeartbeats 1000000 in
theorem lex_Text_n0 (k n : Int) (h1 : k ≠ 1) (h2 : k ≠ 2) (h3 : k ≠ 3) (h4 : k ≠ 4) (h5 : k ≠ 5) (x : Value) (w : World) : Calls Tryd.prog 52 #[.agg #[.int .u8 k, .int .i64 n, x]] w (TextPost k n w) := by
  have ht : textOf k n = [] := text_none (by omega) (by omega) (by omega) (by omega) (by omega)
  have HT := Lib.hid ht; clear ht
  have g1 : (k == 1) = false := by simpa using h1
  have g2 : (k == 2) = false := by simpa using h2
  have g3 : (k == 3) = false := by simpa using h3
  have g4 : (k == 4) = false := by simpa using h4
  have g5 : (k == 5) = false := by simpa using h5
  clear h1 h2 h3 h4 h5
  go_enter Tryd.func52, Tryd.ntmps52
  go_wp2_with fail
  go_ret
  exact textPost_of HT.out rfl ((Below.refl _ _).alloc (Nat.le_refl _) _)

theorem lex_Text (k n : Int) (x : Value) (w : World) (hG : GL w) : Calls Tryd.prog 52 #[.agg #[.int .u8 k, .int .i64 n, x]] w (TextPost k n w) := by
  by_cases k1 : k = 1
  · subst k1
    by_cases a : n < 0
    · exact lex_Text_n1a n a x w
    by_cases b : 1099511627776 < n
    · exact lex_Text_n1b n b x w
    exact lex_Text_number n x w hG.g (by omega) (by omega)
  by_cases k2 : k = 2
  · subst k2
    by_cases a : n < 0
    · exact lex_Text_n2a n a x w
    by_cases b : 26 ≤ n
    · exact lex_Text_n2b n b x w
    exact lex_Text_letter n (by omega) (by omega) x w
  by_cases k3 : k = 3
  · subst k3
    by_cases a : n = 0
    · exact lex_Text_within n a x w
    exact lex_Text_n3 n a x w
  by_cases k4 : k = 4
  · subst k4
    by_cases a : n ≤ 0
    · exact lex_Text_n4a n a x w
    by_cases b : 7 ≤ n
    · exact lex_Text_n4b n b x w
    obtain ⟨m, rfl⟩ := Int.eq_ofNat_of_zero_le (show 0 ≤ n by omega)
    exact lex_Text_op m (by omega) (by omega) x w hG
  by_cases k5 : k = 5
  · subst k5
    by_cases a : n ≤ 0
    · exact lex_Text_n5a n a x w
    by_cases b : 128 ≤ n
    · exact lex_Text_n5b n b x w
    by_cases c : signB (UInt8.ofNat n.toNat) = true
    · exact lex_Text_sign n (by omega) (by omega) c x w
    · exact lex_Text_nosign n (by omega) (by omega) c x w
  exact lex_Text_n0 k n k1 k2 k3 k4 k5 x w
end Go.Proofs.YtafgincpoahefaaDoor
