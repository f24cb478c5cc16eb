/-
  stragglelaw01.NumTexts: true of any text of at most 100 bytes and any digit. Conditions: none (the row lists the library's tables and errors that its road reads, as the program's text lays them).
-/
import Derived.Test.YtafgincpoahefaaDoorNumL4p
import Derived.Test.YtafgincpoahefaaDoorNumL4m
import Derived.Test.YtafgincpoahefaaDoorNumL4n
import Derived.Test.YtafgincpoahefaaDoorNumQ
namespace Go.Proofs.YtafgincpoahefaaDoor
open Go.ChangeShapes Go.WideShapes Go.ChangeAt Go.RowKit
set_option linter.unusedVariables false

set_option maxRecDepth 100000 in
set_option maxHeartbeats 400000 in
theorem numTexts_nil (s : ByteArray) (hs : s.size ≤ 0) (d : Int) (w : World) (h0 : 0 ≤ d) (h9 : d ≤ 9) (db : ByteArray) (hdb : db.size ≤ 1) (hR : readOf s.data.toList = (0, 11)) (hD : Lib.itoa d = db.data.toList) (hZ : (s ++ db).size ≤ 140737488351232) (hM : readOf (s ++ db).data.toList = (d, 0)) (hG : G w) :
    Calls Tryd.prog 11 #[.string s, .int .i64 d] w fun e w' => e = .returned (.bool true) ∧ Below w.heap.size w w' := by
  have c3 := fun W => wakes01 W
  have C3 := Lib.hid c3; clear c3
  have HD := Lib.hid hD; clear hD
  have HM := Lib.hid hM; clear hM
  have HR := Lib.hid hR; clear hR
  have HZ := Lib.hid hZ; clear hZ
  go_enter Tryd.func11, Tryd.ntmps11
  go_wp2_with fail
  go_loop [6, 7] (fun form i => form = .bool false ∧ i = .int .i64 0) (fun _ i => 0)
  case atStart => exact ⟨rfl, rfl⟩
  case round =>
    obtain ⟨rfl, rfl⟩ := hrel
    go_wp2_with fail
    refine (num_Read_at s (by omega) 0 11 HR.out _ hG).mono ?_
    rintro e W1 ⟨rfl, hb1⟩
    go_wp2_with fail
    refine (num_Text_at d (by omega) (by omega) db.data HD.out _ (hG.mono hb1)).mono ?_
    rintro e W2 ⟨rfl, hx⟩
    have hb2 := hb1.trans (hx.mono hb1.size); clear hx hb1
    go_wp2_with fail
    refine (num_Read_at _ HZ.out d 0 HM.out _ (hG.mono hb2)).mono ?_
    rintro e W3 ⟨rfl, hx⟩
    have hb3 := hb2.trans (hx.mono hb2.size); clear hx hb2
    go_wp2_with fail
    refine (C3.out _ (hG.mono hb3)).mono ?_
    rintro e w6 ⟨rfl, hx⟩
    go_wp2_with fail
    go_ret
    exact ⟨rfl, hb3.trans (hx.mono hb3.size)⟩

theorem numTexts_walk (s : ByteArray) (d : Int) (w : World) (hs : s.size ≤ 140737488351232) (hd : -9223372036854775808 ≤ d ∧ d ≤ 9223372036854775807) (hG : G w) :
    Calls Tryd.prog 11 #[.string s, .int .i64 d] w fun e w' => e = .returned (.bool true) ∧ Below w.heap.size w w' := by
  by_cases hfar : 100 < s.size ∨ ¬ (0 ≤ d ∧ d ≤ 9)
  · exact numTexts_far s d w hs hd hG hfar
  have h100 : s.size ≤ 100 := by omega
  have h0 : 0 ≤ d := by omega
  have h9 : d ≤ 9 := by omega
  obtain ⟨db, hdb, hD, hd'⟩ : ∃ db : ByteArray, db.size ≤ 1 ∧ Lib.itoa d = db.data.toList ∧ db.data.toList = [UInt8.ofNat (48 + d.toNat)] := by
    have e : Lib.itoa d = [UInt8.ofNat (48 + d.toNat)] := by
      have e1 := Lib.itoa_nonneg d.toNat
      rw [show ((d.toNat : Nat) : Int) = d from by omega] at e1
      rw [e1, Lib.decDigits_one (by omega)]
    exact ⟨⟨#[UInt8.ofNat (48 + d.toNat)]⟩, Nat.le_refl _, e, rfl⟩
  have hMd : readOf db.data.toList = (d, 0) := by rw [← hD]; exact readOf_itoa d hd
  by_cases h1 : 0 < s.size
  · have hmore := readOf_more s.data.toList d.toNat (by omega)
    have hcode := readOf_code s.data.toList
    have hform := formOf_read s.data.toList
    obtain ⟨n, e, hR⟩ : ∃ n e, readOf s.data.toList = (n, e) := ⟨_, _, rfl⟩
    obtain ⟨m, f, hM⟩ : ∃ m f, readOf (s.data.toList ++ [UInt8.ofNat (48 + d.toNat)]) = (m, f) := ⟨_, _, rfl⟩
    have happ : (s ++ db).data.toList = s.data.toList ++ [UInt8.ofNat (48 + d.toNat)] := by rw [← hd']; simp
    have hZ : (s ++ db).size ≤ 140737488351232 := by simp; omega
    rw [hM, hR] at hmore
    rw [hR] at hcode hform
    simp only at hmore
    have hM' : readOf (s ++ db).data.toList = (m, f) := by rw [happ]; exact hM
    by_cases hm : ((s[0]'h1).toNat : Int) = 45
    · have hx := extract_one s h1 hm
      have hneg : e = 0 → n < 0 := by
        intro he
        subst he
        by_cases hr : (s.extract 1 s.size).data.toList.all digB = true
        · have hrm := readOf_minus _ hr
          rw [← hx, hR] at hrm
          split at hrm
          · rename_i hnum
            have := numeral_pos _ hnum.1 hnum.2
            split at hrm
            · injection hrm with hrm; omega
            · cases hrm
          · cases hrm
        · have := readOf_else 45 _ (by simp [digB]) (fun h => hr h.2)
          rw [← hx, hR] at this
          cases this
      have hFm := form_minus s h1 hm _ hx
      rcases hcode with rfl | hc | hc
      · have hn := hneg rfl
        simp at hform
        by_cases hb : n < -576460752303423488
        · exact numTexts_minus_e s d w h1 h100 h0 h9 hm hG n m f hR db hdb hD hZ hM' hb (fun b0 b p q => (hFm b0 b p q).trans hform)
        · have := hmore.2 rfl (by omega) (by omega) (by omega)
          rw [if_pos hn] at this
          injection this with e1 e2
          subst e2
          have e1' : m = 10 * n - d := by omega
          subst e1'
          exact numTexts_minus_f s d w h1 h100 h0 h9 hm hG n hR db hdb hD hZ hM' hn (by omega) (fun b0 b p q => (hFm b0 b p q).trans hform)
      · injection hc with e1 e2
        subst e1 e2
        exact numTexts_minus_a s d w h1 h100 h0 h9 hm hG m f hR db hdb hD hZ hM' (fun b0 b p q => (hFm b0 b p q).trans hform)
      · injection hc with e1 e2
        subst e1 e2
        have := hmore.1 rfl
        injection this with e1 e2
        subst e1 e2
        exact numTexts_minus_b s d w h1 h100 h0 h9 hm hG hR db hdb hD hZ hM' (fun b0 b p q => (hFm b0 b p q).trans hform)
    · have hpos : e = 0 → 0 ≤ n := by
        intro he
        subst he
        have h00 := bytes_at s 0 h1
        rcases hl : s.data.toList with _ | ⟨c, r⟩
        · rw [hl] at hR; cases hR
        · simp only [hl, List.getElem_cons_zero] at h00
          rw [hl] at hR
          by_cases hr : (c :: r).all digB = true
          · have hrm := readOf_plain c r hr
            rw [hR] at hrm
            split at hrm
            · split at hrm
              · injection hrm with hrm; omega
              · cases hrm
            · cases hrm
          · have := readOf_else c r hr (fun h => by rw [← h00, h.1] at hm; exact hm rfl)
            rw [hR] at this
            cases this
      have hFm := form_plain s h1 hm
      rcases hcode with rfl | hc | hc
      · have hn := hpos rfl
        simp at hform
        by_cases hz : n = 0
        · subst hz
          exact numTexts_plain_c s d w h1 h100 h0 h9 hm hG m f hR db hdb hD hZ hM' (fun b0 b p q => (hFm b0 b p q).trans hform)
        · by_cases hb : 576460752303423488 < n
          · exact numTexts_plain_d s d w h1 h100 h0 h9 hm hG n m f hR db hdb hD hZ hM' hb (fun b0 b p q => (hFm b0 b p q).trans hform)
          · have := hmore.2 rfl hz (by omega) (by omega)
            rw [if_neg (by omega)] at this
            injection this with e1 e2
            subst e2
            have e1' : m = 10 * n + d := by omega
            subst e1'
            exact numTexts_plain_g s d w h1 h100 h0 h9 hm hG n hR db hdb hD hZ hM' (by omega) (by omega) (fun b0 b p q => (hFm b0 b p q).trans hform)
      · injection hc with e1 e2
        subst e1 e2
        exact numTexts_plain_a s d w h1 h100 h0 h9 hm hG m f hR db hdb hD hZ hM' (fun b0 b p q => (hFm b0 b p q).trans hform)
      · injection hc with e1 e2
        subst e1 e2
        have := hmore.1 rfl
        injection this with e1 e2
        subst e1 e2
        exact numTexts_plain_b s d w h1 h100 h0 h9 hm hG hR db hdb hD hZ hM' (fun b0 b p q => (hFm b0 b p q).trans hform)
  · have hl : s.data.toList = [] := by
      apply List.eq_nil_of_length_eq_zero
      have : s.data.toList.length = s.size := by simp
      omega
    have happ : (s ++ db).data.toList = db.data.toList := by
      have : (s ++ db).data.toList = s.data.toList ++ db.data.toList := by simp
      rw [this, hl]; rfl
    exact numTexts_nil s (by omega) d w h0 h9 db hdb (by rw [hl]; exact readOf_nil) hD (by rw [ByteArray.size_append]; omega) (by rw [happ]; exact hMd) hG
end Go.Proofs.YtafgincpoahefaaDoor
