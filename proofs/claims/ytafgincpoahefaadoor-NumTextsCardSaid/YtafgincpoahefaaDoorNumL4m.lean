/-
  stragglelaw01.NumTexts: true of any text of at most 100 bytes and any digit. Conditions: none (the row lists the library's tables and errors that its road reads, as the program's text lays them).
-/
import Derived.Test.YtafgincpoahefaaDoorNumL1
import Derived.Test.YtafgincpoahefaaDoorNumP
import Derived.Lib.ItoaLen
import Derived.Test.YtafgincpoahefaaDoorNumT
namespace Go.Proofs.YtafgincpoahefaaDoor
open Go.ChangeShapes Go.WideShapes Go.ChangeAt Go.RowKit
set_option linter.unusedVariables false

set_option maxRecDepth 100000 in
set_option maxHeartbeats 1000000 in
theorem numTexts_minus_a (s : ByteArray) (d : Int) (w : World) (h1 : 0 < s.size) (hs : s.size ≤ 100) (h0 : 0 ≤ d) (h9 : d ≤ 9) (hm : ((s[0]'h1).toNat : Int) = 45) (hG : G w) (m f : Int)
    (hR : readOf s.data.toList = (0, 11)) (db : ByteArray) (hdb : db.size ≤ 1) (hD : Lib.itoa d = db.data.toList) (hZ : (s ++ db).size ≤ 140737488351232) (hM : readOf (s ++ db).data.toList = (m, f)) 
    (hF : ∀ b0 b : Bool, (b0 = true ↔ (0 < (s.extract 1 s.size).size ∧ ∀ h : 0 < (s.extract 1 s.size).size, (¬ (((s.extract 1 s.size)[0]'h).toNat : Int) = 48 ∨ (s.toList == [48]) = true))) → (b = true ↔ b0 = true ∧ ∀ j (h : j < (s.extract 1 s.size).size), 48 ≤ (((s.extract 1 s.size)[j]'h).toNat : Int) ∧ (((s.extract 1 s.size)[j]'h).toNat : Int) ≤ 57) → b = false) :
    Calls Tryd.prog 11 #[.string s, .int .i64 d] w fun e w' => e = .returned (.bool true) ∧ Below w.heap.size w w' := by
  have c3 := fun W => wakes01 W
  have C3 := Lib.hid c3; clear c3
  have HR := Lib.hid hR; clear hR
  have HD := Lib.hid hD; clear hD
  have HZ := Lib.hid hZ; clear hZ
  have HM := Lib.hid hM; clear hM
  have HF := Lib.hid hF; clear hF
  have hsz : (s.extract 1 s.size).size = s.size - 1 := by simp [ByteArray.size_extract]
  have HSZ := Lib.hid hsz; clear hsz
  have hD100 : (s.extract 1 s.size).size ≤ 100 := by rw [HSZ.out]; omega
  go_enter Tryd.func11, Tryd.ntmps11
  go_wp2_with fail
  · obtain ⟨b0, hb0⟩ : ∃ b0 : Bool, (s.toList == [48]) = b0 := ⟨_, rfl⟩
    have HB0 := Lib.hid hb0; clear hb0
    have HB := Lib.hid (show b0 = true ↔ (0 < (s.extract 1 s.size).size ∧ ∀ h : 0 < (s.extract 1 s.size).size, (¬ (((s.extract 1 s.size)[0]'h).toNat : Int) = 48 ∨ (s.toList == [48]) = true)) from HB0.out ▸ (⟨fun h => ⟨by rw [HSZ.out]; assumption, fun _ => .inr h⟩, fun h => (h.2 (by rw [HSZ.out]; assumption)).resolve_left (fun h' => h' (by assumption))⟩))
    generalize (s.extract 1 s.size)[0]'(by rw [HSZ.out]; omega) = c0 at *
    generalize s.extract 1 s.size = D at *
    go_loop [6, 7] (fun form i => ∃ (k : Nat) (b : Bool), k ≤ D.size ∧ i = .int .i64 k ∧ form = .bool b ∧ (b = true ↔ b0 = true ∧ ∀ j (_ : j < k) (h' : j < D.size), 48 ≤ ((D[j]'h').toNat : Int) ∧ ((D[j]'h').toNat : Int) ≤ 57)) (fun _ i => D.size - (intOf i).toNat)
    case atStart => exact ⟨0, _, Nat.zero_le _, rfl, rfl, HB0.out ▸ ⟨fun h => ⟨h, fun j h => absurd h (Nat.not_lt_zero _)⟩, fun h => h.1⟩⟩
    case round =>
      obtain ⟨k, b, hk, rfl, rfl, hb⟩ := hrel
      have HBB := Lib.hid hb; clear hb
      by_cases hlt : k < D.size
      · have hlt' : k < D.size := (by omega)
        have hmore := fun b' => dig_more D _ b b' k hlt' HBB.out
        have HMO := Lib.hid hmore; clear hmore
        cases b
        · go_wp2_with fail
          go_round
          case rel => refine ⟨k + 1, _, by omega, by go_num, rfl, ?_⟩; exact HMO.out _ (by simp)
          case measure => simp [intOf]; omega
        · go_wp2_with fail
          all_goals
            go_round
            case rel => refine ⟨k + 1, _, by omega, by go_num, rfl, ?_⟩; exact HMO.out _ (by simp; try omega)
            case measure => simp [intOf]; omega
      · obtain rfl : b = false := HF.out _ _ HB.out (dig_end D _ b k (by omega) HBB.out)
        clear HBB HB
        go_wp2_with fail
        refine (num_Read_at s (by omega) (0) (11) HR.out _ hG).mono ?_
        rintro e W1 ⟨rfl, hb1⟩
        go_wp2_with fail
        refine (num_Text_at d (by omega) (by omega) db.data HD.out _ (hG.mono hb1)).mono ?_
        rintro e W2 ⟨rfl, hx⟩
        have hb2 := hb1.trans (hx.mono hb1.size); clear hx hb1
        go_wp2_with fail
        refine (num_Read_at _ HZ.out (m) (f) HM.out _ (hG.mono hb2)).mono ?_
        rintro e W3 ⟨rfl, hx⟩
        have hb3 := hb2.trans (hx.mono hb2.size); clear hx hb2
        go_wp2_with fail
        all_goals
          refine (C3.out _ (hG.mono hb3)).mono ?_
          rintro e w6 ⟨rfl, hx⟩
          go_wp2_with fail
          go_ret
          exact ⟨ret_bool (by first | rfl | (simp; omega)), hb3.trans (hx.mono hb3.size)⟩
  · obtain ⟨b0, hb0⟩ : ∃ b0 : Bool, true = b0 := ⟨_, rfl⟩
    have HB0 := Lib.hid hb0; clear hb0
    have HB := Lib.hid (show b0 = true ↔ (0 < (s.extract 1 s.size).size ∧ ∀ h : 0 < (s.extract 1 s.size).size, (¬ (((s.extract 1 s.size)[0]'h).toNat : Int) = 48 ∨ (s.toList == [48]) = true)) from HB0.out ▸ (⟨fun _ => ⟨by rw [HSZ.out]; assumption, fun _ => .inl (by assumption)⟩, fun _ => rfl⟩))
    generalize (s.extract 1 s.size)[0]'(by rw [HSZ.out]; omega) = c0 at *
    generalize s.extract 1 s.size = D at *
    go_loop [6, 7] (fun form i => ∃ (k : Nat) (b : Bool), k ≤ D.size ∧ i = .int .i64 k ∧ form = .bool b ∧ (b = true ↔ b0 = true ∧ ∀ j (_ : j < k) (h' : j < D.size), 48 ≤ ((D[j]'h').toNat : Int) ∧ ((D[j]'h').toNat : Int) ≤ 57)) (fun _ i => D.size - (intOf i).toNat)
    case atStart => exact ⟨0, _, Nat.zero_le _, rfl, rfl, HB0.out ▸ ⟨fun h => ⟨h, fun j h => absurd h (Nat.not_lt_zero _)⟩, fun h => h.1⟩⟩
    case round =>
      obtain ⟨k, b, hk, rfl, rfl, hb⟩ := hrel
      have HBB := Lib.hid hb; clear hb
      by_cases hlt : k < D.size
      · have hlt' : k < D.size := (by omega)
        have hmore := fun b' => dig_more D _ b b' k hlt' HBB.out
        have HMO := Lib.hid hmore; clear hmore
        cases b
        · go_wp2_with fail
          go_round
          case rel => refine ⟨k + 1, _, by omega, by go_num, rfl, ?_⟩; exact HMO.out _ (by simp)
          case measure => simp [intOf]; omega
        · go_wp2_with fail
          all_goals
            go_round
            case rel => refine ⟨k + 1, _, by omega, by go_num, rfl, ?_⟩; exact HMO.out _ (by simp; try omega)
            case measure => simp [intOf]; omega
      · obtain rfl : b = false := HF.out _ _ HB.out (dig_end D _ b k (by omega) HBB.out)
        clear HBB HB
        go_wp2_with fail
        refine (num_Read_at s (by omega) (0) (11) HR.out _ hG).mono ?_
        rintro e W1 ⟨rfl, hb1⟩
        go_wp2_with fail
        refine (num_Text_at d (by omega) (by omega) db.data HD.out _ (hG.mono hb1)).mono ?_
        rintro e W2 ⟨rfl, hx⟩
        have hb2 := hb1.trans (hx.mono hb1.size); clear hx hb1
        go_wp2_with fail
        refine (num_Read_at _ HZ.out (m) (f) HM.out _ (hG.mono hb2)).mono ?_
        rintro e W3 ⟨rfl, hx⟩
        have hb3 := hb2.trans (hx.mono hb2.size); clear hx hb2
        go_wp2_with fail
        all_goals
          refine (C3.out _ (hG.mono hb3)).mono ?_
          rintro e w6 ⟨rfl, hx⟩
          go_wp2_with fail
          go_ret
          exact ⟨ret_bool (by first | rfl | (simp; omega)), hb3.trans (hx.mono hb3.size)⟩
  · obtain ⟨b0, hb0⟩ : ∃ b0 : Bool, false = b0 := ⟨_, rfl⟩
    have HB0 := Lib.hid hb0; clear hb0
    have HB := Lib.hid (show b0 = true ↔ (0 < (s.extract 1 s.size).size ∧ ∀ h : 0 < (s.extract 1 s.size).size, (¬ (((s.extract 1 s.size)[0]'h).toNat : Int) = 48 ∨ (s.toList == [48]) = true)) from HB0.out ▸ (⟨fun h => (by cases h), fun h => absurd h.1 (by rw [HSZ.out]; assumption)⟩))
    generalize s.extract 1 s.size = D at *
    go_loop [6, 7] (fun form i => ∃ (k : Nat) (b : Bool), k ≤ D.size ∧ i = .int .i64 k ∧ form = .bool b ∧ (b = true ↔ b0 = true ∧ ∀ j (_ : j < k) (h' : j < D.size), 48 ≤ ((D[j]'h').toNat : Int) ∧ ((D[j]'h').toNat : Int) ≤ 57)) (fun _ i => D.size - (intOf i).toNat)
    case atStart => exact ⟨0, _, Nat.zero_le _, rfl, rfl, HB0.out ▸ ⟨fun h => ⟨h, fun j h => absurd h (Nat.not_lt_zero _)⟩, fun h => h.1⟩⟩
    case round =>
      obtain ⟨k, b, hk, rfl, rfl, hb⟩ := hrel
      have HBB := Lib.hid hb; clear hb
      by_cases hlt : k < D.size
      · have hlt' : k < D.size := (by omega)
        have hmore := fun b' => dig_more D _ b b' k hlt' HBB.out
        have HMO := Lib.hid hmore; clear hmore
        cases b
        · go_wp2_with fail
          go_round
          case rel => refine ⟨k + 1, _, by omega, by go_num, rfl, ?_⟩; exact HMO.out _ (by simp)
          case measure => simp [intOf]; omega
        · go_wp2_with fail
          all_goals
            go_round
            case rel => refine ⟨k + 1, _, by omega, by go_num, rfl, ?_⟩; exact HMO.out _ (by simp; try omega)
            case measure => simp [intOf]; omega
      · obtain rfl : b = false := HF.out _ _ HB.out (dig_end D _ b k (by omega) HBB.out)
        clear HBB HB
        go_wp2_with fail
        refine (num_Read_at s (by omega) (0) (11) HR.out _ hG).mono ?_
        rintro e W1 ⟨rfl, hb1⟩
        go_wp2_with fail
        refine (num_Text_at d (by omega) (by omega) db.data HD.out _ (hG.mono hb1)).mono ?_
        rintro e W2 ⟨rfl, hx⟩
        have hb2 := hb1.trans (hx.mono hb1.size); clear hx hb1
        go_wp2_with fail
        refine (num_Read_at _ HZ.out (m) (f) HM.out _ (hG.mono hb2)).mono ?_
        rintro e W3 ⟨rfl, hx⟩
        have hb3 := hb2.trans (hx.mono hb2.size); clear hx hb2
        go_wp2_with fail
        all_goals
          refine (C3.out _ (hG.mono hb3)).mono ?_
          rintro e w6 ⟨rfl, hx⟩
          go_wp2_with fail
          go_ret
          exact ⟨ret_bool (by first | rfl | (simp; omega)), hb3.trans (hx.mono hb3.size)⟩

set_option maxRecDepth 100000 in
set_option maxHeartbeats 1000000 in
theorem numTexts_minus_b (s : ByteArray) (d : Int) (w : World) (h1 : 0 < s.size) (hs : s.size ≤ 100) (h0 : 0 ≤ d) (h9 : d ≤ 9) (hm : ((s[0]'h1).toNat : Int) = 45) (hG : G w) 
    (hR : readOf s.data.toList = (0, 12)) (db : ByteArray) (hdb : db.size ≤ 1) (hD : Lib.itoa d = db.data.toList) (hZ : (s ++ db).size ≤ 140737488351232) (hM : readOf (s ++ db).data.toList = (0, 12)) 
    (hF : ∀ b0 b : Bool, (b0 = true ↔ (0 < (s.extract 1 s.size).size ∧ ∀ h : 0 < (s.extract 1 s.size).size, (¬ (((s.extract 1 s.size)[0]'h).toNat : Int) = 48 ∨ (s.toList == [48]) = true))) → (b = true ↔ b0 = true ∧ ∀ j (h : j < (s.extract 1 s.size).size), 48 ≤ (((s.extract 1 s.size)[j]'h).toNat : Int) ∧ (((s.extract 1 s.size)[j]'h).toNat : Int) ≤ 57) → b = true) :
    Calls Tryd.prog 11 #[.string s, .int .i64 d] w fun e w' => e = .returned (.bool true) ∧ Below w.heap.size w w' := by
  have c3 := fun W => wakes01 W
  have C3 := Lib.hid c3; clear c3
  have HR := Lib.hid hR; clear hR
  have HD := Lib.hid hD; clear hD
  have HZ := Lib.hid hZ; clear hZ
  have HM := Lib.hid hM; clear hM
  have HF := Lib.hid hF; clear hF
  have hsz : (s.extract 1 s.size).size = s.size - 1 := by simp [ByteArray.size_extract]
  have HSZ := Lib.hid hsz; clear hsz
  have hD100 : (s.extract 1 s.size).size ≤ 100 := by rw [HSZ.out]; omega
  go_enter Tryd.func11, Tryd.ntmps11
  go_wp2_with fail
  · obtain ⟨b0, hb0⟩ : ∃ b0 : Bool, (s.toList == [48]) = b0 := ⟨_, rfl⟩
    have HB0 := Lib.hid hb0; clear hb0
    have HB := Lib.hid (show b0 = true ↔ (0 < (s.extract 1 s.size).size ∧ ∀ h : 0 < (s.extract 1 s.size).size, (¬ (((s.extract 1 s.size)[0]'h).toNat : Int) = 48 ∨ (s.toList == [48]) = true)) from HB0.out ▸ (⟨fun h => ⟨by rw [HSZ.out]; assumption, fun _ => .inr h⟩, fun h => (h.2 (by rw [HSZ.out]; assumption)).resolve_left (fun h' => h' (by assumption))⟩))
    generalize (s.extract 1 s.size)[0]'(by rw [HSZ.out]; omega) = c0 at *
    generalize s.extract 1 s.size = D at *
    go_loop [6, 7] (fun form i => ∃ (k : Nat) (b : Bool), k ≤ D.size ∧ i = .int .i64 k ∧ form = .bool b ∧ (b = true ↔ b0 = true ∧ ∀ j (_ : j < k) (h' : j < D.size), 48 ≤ ((D[j]'h').toNat : Int) ∧ ((D[j]'h').toNat : Int) ≤ 57)) (fun _ i => D.size - (intOf i).toNat)
    case atStart => exact ⟨0, _, Nat.zero_le _, rfl, rfl, HB0.out ▸ ⟨fun h => ⟨h, fun j h => absurd h (Nat.not_lt_zero _)⟩, fun h => h.1⟩⟩
    case round =>
      obtain ⟨k, b, hk, rfl, rfl, hb⟩ := hrel
      have HBB := Lib.hid hb; clear hb
      by_cases hlt : k < D.size
      · have hlt' : k < D.size := (by omega)
        have hmore := fun b' => dig_more D _ b b' k hlt' HBB.out
        have HMO := Lib.hid hmore; clear hmore
        cases b
        · go_wp2_with fail
          go_round
          case rel => refine ⟨k + 1, _, by omega, by go_num, rfl, ?_⟩; exact HMO.out _ (by simp)
          case measure => simp [intOf]; omega
        · go_wp2_with fail
          all_goals
            go_round
            case rel => refine ⟨k + 1, _, by omega, by go_num, rfl, ?_⟩; exact HMO.out _ (by simp; try omega)
            case measure => simp [intOf]; omega
      · obtain rfl : b = true := HF.out _ _ HB.out (dig_end D _ b k (by omega) HBB.out)
        clear HBB HB
        go_wp2_with fail
        refine (num_Read_at s (by omega) (0) (12) HR.out _ hG).mono ?_
        rintro e W1 ⟨rfl, hb1⟩
        go_wp2_with fail
        refine (num_Text_at d (by omega) (by omega) db.data HD.out _ (hG.mono hb1)).mono ?_
        rintro e W2 ⟨rfl, hx⟩
        have hb2 := hb1.trans (hx.mono hb1.size); clear hx hb1
        go_wp2_with fail
        refine (num_Read_at _ HZ.out (0) (12) HM.out _ (hG.mono hb2)).mono ?_
        rintro e W3 ⟨rfl, hx⟩
        have hb3 := hb2.trans (hx.mono hb2.size); clear hx hb2
        go_wp2_with fail
        all_goals
          refine (C3.out _ (hG.mono hb3)).mono ?_
          rintro e w6 ⟨rfl, hx⟩
          go_wp2_with fail
          go_ret
          exact ⟨ret_bool (by first | rfl | (simp; omega)), hb3.trans (hx.mono hb3.size)⟩
  · obtain ⟨b0, hb0⟩ : ∃ b0 : Bool, true = b0 := ⟨_, rfl⟩
    have HB0 := Lib.hid hb0; clear hb0
    have HB := Lib.hid (show b0 = true ↔ (0 < (s.extract 1 s.size).size ∧ ∀ h : 0 < (s.extract 1 s.size).size, (¬ (((s.extract 1 s.size)[0]'h).toNat : Int) = 48 ∨ (s.toList == [48]) = true)) from HB0.out ▸ (⟨fun _ => ⟨by rw [HSZ.out]; assumption, fun _ => .inl (by assumption)⟩, fun _ => rfl⟩))
    generalize (s.extract 1 s.size)[0]'(by rw [HSZ.out]; omega) = c0 at *
    generalize s.extract 1 s.size = D at *
    go_loop [6, 7] (fun form i => ∃ (k : Nat) (b : Bool), k ≤ D.size ∧ i = .int .i64 k ∧ form = .bool b ∧ (b = true ↔ b0 = true ∧ ∀ j (_ : j < k) (h' : j < D.size), 48 ≤ ((D[j]'h').toNat : Int) ∧ ((D[j]'h').toNat : Int) ≤ 57)) (fun _ i => D.size - (intOf i).toNat)
    case atStart => exact ⟨0, _, Nat.zero_le _, rfl, rfl, HB0.out ▸ ⟨fun h => ⟨h, fun j h => absurd h (Nat.not_lt_zero _)⟩, fun h => h.1⟩⟩
    case round =>
      obtain ⟨k, b, hk, rfl, rfl, hb⟩ := hrel
      have HBB := Lib.hid hb; clear hb
      by_cases hlt : k < D.size
      · have hlt' : k < D.size := (by omega)
        have hmore := fun b' => dig_more D _ b b' k hlt' HBB.out
        have HMO := Lib.hid hmore; clear hmore
        cases b
        · go_wp2_with fail
          go_round
          case rel => refine ⟨k + 1, _, by omega, by go_num, rfl, ?_⟩; exact HMO.out _ (by simp)
          case measure => simp [intOf]; omega
        · go_wp2_with fail
          all_goals
            go_round
            case rel => refine ⟨k + 1, _, by omega, by go_num, rfl, ?_⟩; exact HMO.out _ (by simp; try omega)
            case measure => simp [intOf]; omega
      · obtain rfl : b = true := HF.out _ _ HB.out (dig_end D _ b k (by omega) HBB.out)
        clear HBB HB
        go_wp2_with fail
        refine (num_Read_at s (by omega) (0) (12) HR.out _ hG).mono ?_
        rintro e W1 ⟨rfl, hb1⟩
        go_wp2_with fail
        refine (num_Text_at d (by omega) (by omega) db.data HD.out _ (hG.mono hb1)).mono ?_
        rintro e W2 ⟨rfl, hx⟩
        have hb2 := hb1.trans (hx.mono hb1.size); clear hx hb1
        go_wp2_with fail
        refine (num_Read_at _ HZ.out (0) (12) HM.out _ (hG.mono hb2)).mono ?_
        rintro e W3 ⟨rfl, hx⟩
        have hb3 := hb2.trans (hx.mono hb2.size); clear hx hb2
        go_wp2_with fail
        all_goals
          refine (C3.out _ (hG.mono hb3)).mono ?_
          rintro e w6 ⟨rfl, hx⟩
          go_wp2_with fail
          go_ret
          exact ⟨ret_bool (by first | rfl | (simp; omega)), hb3.trans (hx.mono hb3.size)⟩
  · obtain ⟨b0, hb0⟩ : ∃ b0 : Bool, false = b0 := ⟨_, rfl⟩
    have HB0 := Lib.hid hb0; clear hb0
    have HB := Lib.hid (show b0 = true ↔ (0 < (s.extract 1 s.size).size ∧ ∀ h : 0 < (s.extract 1 s.size).size, (¬ (((s.extract 1 s.size)[0]'h).toNat : Int) = 48 ∨ (s.toList == [48]) = true)) from HB0.out ▸ (⟨fun h => (by cases h), fun h => absurd h.1 (by rw [HSZ.out]; assumption)⟩))
    generalize s.extract 1 s.size = D at *
    go_loop [6, 7] (fun form i => ∃ (k : Nat) (b : Bool), k ≤ D.size ∧ i = .int .i64 k ∧ form = .bool b ∧ (b = true ↔ b0 = true ∧ ∀ j (_ : j < k) (h' : j < D.size), 48 ≤ ((D[j]'h').toNat : Int) ∧ ((D[j]'h').toNat : Int) ≤ 57)) (fun _ i => D.size - (intOf i).toNat)
    case atStart => exact ⟨0, _, Nat.zero_le _, rfl, rfl, HB0.out ▸ ⟨fun h => ⟨h, fun j h => absurd h (Nat.not_lt_zero _)⟩, fun h => h.1⟩⟩
    case round =>
      obtain ⟨k, b, hk, rfl, rfl, hb⟩ := hrel
      have HBB := Lib.hid hb; clear hb
      by_cases hlt : k < D.size
      · have hlt' : k < D.size := (by omega)
        have hmore := fun b' => dig_more D _ b b' k hlt' HBB.out
        have HMO := Lib.hid hmore; clear hmore
        cases b
        · go_wp2_with fail
          go_round
          case rel => refine ⟨k + 1, _, by omega, by go_num, rfl, ?_⟩; exact HMO.out _ (by simp)
          case measure => simp [intOf]; omega
        · go_wp2_with fail
          all_goals
            go_round
            case rel => refine ⟨k + 1, _, by omega, by go_num, rfl, ?_⟩; exact HMO.out _ (by simp; try omega)
            case measure => simp [intOf]; omega
      · obtain rfl : b = true := HF.out _ _ HB.out (dig_end D _ b k (by omega) HBB.out)
        clear HBB HB
        go_wp2_with fail
        refine (num_Read_at s (by omega) (0) (12) HR.out _ hG).mono ?_
        rintro e W1 ⟨rfl, hb1⟩
        go_wp2_with fail
        refine (num_Text_at d (by omega) (by omega) db.data HD.out _ (hG.mono hb1)).mono ?_
        rintro e W2 ⟨rfl, hx⟩
        have hb2 := hb1.trans (hx.mono hb1.size); clear hx hb1
        go_wp2_with fail
        refine (num_Read_at _ HZ.out (0) (12) HM.out _ (hG.mono hb2)).mono ?_
        rintro e W3 ⟨rfl, hx⟩
        have hb3 := hb2.trans (hx.mono hb2.size); clear hx hb2
        go_wp2_with fail
        all_goals
          refine (C3.out _ (hG.mono hb3)).mono ?_
          rintro e w6 ⟨rfl, hx⟩
          go_wp2_with fail
          go_ret
          exact ⟨ret_bool (by first | rfl | (simp; omega)), hb3.trans (hx.mono hb3.size)⟩

end Go.Proofs.YtafgincpoahefaaDoor
