/-
  straggleref07: Text.
-/
import Derived.Test.YtafgincpoahefaaDoorRef7c
import Derived.Deep.RegionHeld3
namespace Go.Proofs.YtafgincpoahefaaDoor
open Go.RowKit

set_option maxHeartbeats 1000000 in
theorem r7_Text_number (n : Int) (x : Value) (w : World) (h0 : 0 ≤ n) (h1 : n ≤ 1099511627776) : Calls Tryd.prog 39 #[.agg #[.int .u8 1, .int .i64 n, x]] w (TextPost 1 n w) := by
  have c1 := fun w => ref_Text n (by omega) (by omega) w
  have C1 := Lib.hid c1; clear c1
  have ht : textOf 1 n = Lib.itoa n := by unfold textOf; rw [if_pos ⟨rfl, h0, h1⟩]
  have HT := Lib.hid ht; clear ht
  go_enter Tryd.func39, Tryd.ntmps39
  go_wp2_with fail
  refine (C1.out _).mono ?_
  rintro e w1 ⟨rfl, hb⟩
  go_wp2_with fail
  go_ret
  exact textPost_of HT.out rfl (((Below.refl _ _).alloc (Nat.le_refl _) _).trans (hb.mono (by simp)))
set_option maxRecDepth 100000 in
set_option maxHeartbeats 1000000 in
theorem r7_Text_letter (n : Int) (h0 : 0 ≤ n) (h1 : n < 26) (x : Value) (w : World) : Calls Tryd.prog 39 #[.agg #[.int .u8 2, .int .i64 n, x]] w (TextPost 2 n w) := by
  have ht : textOf 2 n = [UInt8.ofNat (97 + n).toNat] := by unfold textOf; rw [if_neg (by omega), if_pos ⟨rfl, h0, h1⟩, show 97 + n.toNat = (97 + n).toNat from by omega]
  have HT := Lib.hid ht; clear ht
  have hcv := one_byte (w.alloc (.cells #[.int .u8 2, .int .i64 n, x] 51)) (97 + n)
  rw [World.size_alloc] at hcv
  go_enter Tryd.func39, Tryd.ntmps39
  go_wp2_with fail
  go_ret
  exact textPost_of HT.out rfl (((Below.refl _ _).alloc (Nat.le_refl _) _).alloc (by simp) _)
set_option maxRecDepth 100000 in
set_option maxHeartbeats 1000000 in
theorem r7_Text_within (n : Int) (h0 : n = 0) (x : Value) (w : World) : Calls Tryd.prog 39 #[.agg #[.int .u8 3, .int .i64 n, x]] w (TextPost 3 n w) := by
  have ht : textOf 3 n = within := by subst h0; rfl
  have HT := Lib.hid ht; clear ht
  subst h0
  go_enter Tryd.func39, Tryd.ntmps39
  go_wp2_with fail
  go_ret
  exact textPost_of HT.out rfl ((Below.refl _ _).alloc (Nat.le_refl _) _)
set_option maxRecDepth 100000 in
set_option maxHeartbeats 1000000 in
theorem r7_Text_sign (n : Int) (h0 : 0 < n) (h1 : n < 128) (h2 : signB (UInt8.ofNat n.toNat) = true) (x : Value) (w : World) : Calls Tryd.prog 39 #[.agg #[.int .u8 5, .int .i64 n, x]] w (TextPost 5 n w) := by
  have ht : textOf 5 n = [UInt8.ofNat n.toNat] := by unfold textOf; rw [if_neg (by omega), if_neg (by omega), if_neg (by omega), if_neg (by omega), if_pos ⟨rfl, h0, h1, h2⟩]
  have HT := Lib.hid ht; clear ht
  have hn : (((UInt8.ofNat n.toNat).toNat : Nat) : Int) = n := by rw [UInt8.toNat_ofNat']; omega
  have c1 := fun w => ref_sign (UInt8.ofNat n.toNat) w
  rw [h2, hn] at c1
  have C1 := Lib.hid c1; clear c1 h2 hn
  have hcv := one_byte (w.alloc (.cells #[.int .u8 5, .int .i64 n, x] 51)) n
  rw [World.size_alloc] at hcv
  have hcn := Lib.hid hcv; clear hcv
  go_enter Tryd.func39, Tryd.ntmps39
  go_wp2_with fail
  refine (C1.out _).mono ?_
  rintro e w1 ⟨rfl, rfl⟩
  have hcv := hcn.out
  go_wp2_with fail
  go_ret
  exact textPost_of HT.out rfl (((Below.refl _ _).alloc (Nat.le_refl _) _).alloc (by simp) _)
set_option maxRecDepth 100000 in
set_option maxHeartbeats 1000000 in
theorem r7_Text_nosign (n : Int) (h0 : 0 ≤ n) (h1 : n < 256) (h2 : signB (UInt8.ofNat n.toNat) = false) (x : Value) (w : World) : Calls Tryd.prog 39 #[.agg #[.int .u8 5, .int .i64 n, x]] w (TextPost 5 n w) := by
  have ht : textOf 5 n = [] := text_none (by omega) (by omega) (by omega) (by omega) (fun h => by rw [h2] at h; cases h.2.2.2)
  have HT := Lib.hid ht; clear ht
  have hn : (((UInt8.ofNat n.toNat).toNat : Nat) : Int) = n := by rw [UInt8.toNat_ofNat']; omega
  have c1 := fun w => ref_sign (UInt8.ofNat n.toNat) w
  rw [h2, hn] at c1
  have C1 := Lib.hid c1; clear c1 h2 hn
  go_enter Tryd.func39, Tryd.ntmps39
  go_wp2_with fail
  refine (C1.out _).mono ?_
  rintro e w1 ⟨rfl, rfl⟩
  go_wp2_with fail
  go_ret
  exact textPost_of HT.out rfl ((Below.refl _ _).alloc (Nat.le_refl _) _)
set_option maxRecDepth 100000 in
set_option maxHeartbeats 1000000 in
theorem r7_Text_n1a (n : Int) (h0 : n < 0) (x : Value) (w : World) : Calls Tryd.prog 39 #[.agg #[.int .u8 1, .int .i64 n, x]] w (TextPost 1 n w) := by
  have ht : textOf 1 n = [] := text_none (by omega) (by omega) (by omega) (by omega) (by omega)
  have HT := Lib.hid ht; clear ht
  go_enter Tryd.func39, Tryd.ntmps39
  go_wp2_with fail
  go_ret
  exact textPost_of HT.out rfl ((Below.refl _ _).alloc (Nat.le_refl _) _)
set_option maxRecDepth 100000 in
set_option maxHeartbeats 1000000 in
theorem r7_Text_n1b (n : Int) (h0 : 1099511627776 < n) (x : Value) (w : World) : Calls Tryd.prog 39 #[.agg #[.int .u8 1, .int .i64 n, x]] w (TextPost 1 n w) := by
  have ht : textOf 1 n = [] := text_none (by omega) (by omega) (by omega) (by omega) (by omega)
  have HT := Lib.hid ht; clear ht
  go_enter Tryd.func39, Tryd.ntmps39
  go_wp2_with fail
  go_ret
  exact textPost_of HT.out rfl ((Below.refl _ _).alloc (Nat.le_refl _) _)
set_option maxRecDepth 100000 in
set_option maxHeartbeats 1000000 in
theorem r7_Text_n2a (n : Int) (h0 : n < 0) (x : Value) (w : World) : Calls Tryd.prog 39 #[.agg #[.int .u8 2, .int .i64 n, x]] w (TextPost 2 n w) := by
  have ht : textOf 2 n = [] := text_none (by omega) (by omega) (by omega) (by omega) (by omega)
  have HT := Lib.hid ht; clear ht
  go_enter Tryd.func39, Tryd.ntmps39
  go_wp2_with fail
  go_ret
  exact textPost_of HT.out rfl ((Below.refl _ _).alloc (Nat.le_refl _) _)
set_option maxRecDepth 100000 in
set_option maxHeartbeats 1000000 in
theorem r7_Text_n2b (n : Int) (h0 : 26 ≤ n) (x : Value) (w : World) : Calls Tryd.prog 39 #[.agg #[.int .u8 2, .int .i64 n, x]] w (TextPost 2 n w) := by
  have ht : textOf 2 n = [] := text_none (by omega) (by omega) (by omega) (by omega) (by omega)
  have HT := Lib.hid ht; clear ht
  go_enter Tryd.func39, Tryd.ntmps39
  go_wp2_with fail
  go_ret
  exact textPost_of HT.out rfl ((Below.refl _ _).alloc (Nat.le_refl _) _)
set_option maxRecDepth 100000 in
set_option maxHeartbeats 1000000 in
theorem r7_Text_n5a (n : Int) (h0 : n < 0) (x : Value) (w : World) : Calls Tryd.prog 39 #[.agg #[.int .u8 5, .int .i64 n, x]] w (TextPost 5 n w) := by
  have ht : textOf 5 n = [] := text_none (by omega) (by omega) (by omega) (by omega) (by omega)
  have HT := Lib.hid ht; clear ht
  go_enter Tryd.func39, Tryd.ntmps39
  go_wp2_with fail
  go_ret
  exact textPost_of HT.out rfl ((Below.refl _ _).alloc (Nat.le_refl _) _)
set_option maxRecDepth 100000 in
set_option maxHeartbeats 1000000 in
theorem r7_Text_n5b (n : Int) (h0 : 256 ≤ n) (x : Value) (w : World) : Calls Tryd.prog 39 #[.agg #[.int .u8 5, .int .i64 n, x]] w (TextPost 5 n w) := by
  have ht : textOf 5 n = [] := text_none (by omega) (by omega) (by omega) (by omega) (by omega)
  have HT := Lib.hid ht; clear ht
  go_enter Tryd.func39, Tryd.ntmps39
  go_wp2_with fail
  go_ret
  exact textPost_of HT.out rfl ((Below.refl _ _).alloc (Nat.le_refl _) _)
set_option maxRecDepth 100000 in
set_option maxHeartbeats 1000000 in
theorem r7_Text_n3 (n : Int) (h0 : ¬ n = 0) (x : Value) (w : World) : Calls Tryd.prog 39 #[.agg #[.int .u8 3, .int .i64 n, x]] w (TextPost 3 n w) := by
  have ht : textOf 3 n = [] := text_none (by omega) (by omega) (by omega) (by omega) (by omega)
  have HT := Lib.hid ht; clear ht
  have g : (n == 0) = false := by simpa using h0
  clear h0
  go_enter Tryd.func39, Tryd.ntmps39
  go_wp2_with fail
  go_ret
  exact textPost_of HT.out rfl ((Below.refl _ _).alloc (Nat.le_refl _) _)
set_option maxRecDepth 100000 in
set_option maxHeartbeats 1000000 in
theorem r7_Text_n0 (k n : Int) (h1 : ¬ k = 1) (h2 : ¬ k = 2) (h3 : ¬ k = 3) (h4 : ¬ k = 4) (h5 : ¬ k = 5) (x : Value) (w : World) : Calls Tryd.prog 39 #[.agg #[.int .u8 k, .int .i64 n, x]] w (TextPost k n w) := by
  have ht : textOf k n = [] := text_none (by omega) (by omega) (by omega) (by omega) (by omega)
  have HT := Lib.hid ht; clear ht
  have g1 : (k == 1) = false := by simpa using h1
  have g2 : (k == 2) = false := by simpa using h2
  have g3 : (k == 3) = false := by simpa using h3
  have g4 : (k == 4) = false := by simpa using h4
  have g5 : (k == 5) = false := by simpa using h5
  clear h1 h2 h3 h4 h5
  go_enter Tryd.func39, Tryd.ntmps39
  go_wp2_with fail
  go_ret
  exact textPost_of HT.out rfl ((Below.refl _ _).alloc (Nat.le_refl _) _)

theorem opC_find (n : Nat) (h0 : 0 < n) (h1 : n < 7) : ∃ K, K < 6 ∧ opC K = n ∧ opR K = opText n ∧ ∀ j, j < K → opC j ≠ n := by
  have : n = 1 ∨ n = 2 ∨ n = 3 ∨ n = 4 ∨ n = 5 ∨ n = 6 := by omega
  rcases this with rfl | rfl | rfl | rfl | rfl | rfl
  · exact ⟨3, by decide⟩
  · exact ⟨0, by decide⟩
  · exact ⟨4, by decide⟩
  · exact ⟨1, by decide⟩
  · exact ⟨5, by decide⟩
  · exact ⟨2, by decide⟩
theorem opC_none (n : Int) (h : ¬ (0 < n ∧ n < 7)) (j : Nat) (hj : j < 6) : ((n == (opC j : Int)) = false) := by
  have := (opText_C j hj).2
  simp only [beq_eq_false_iff_ne]
  omega
set_option maxRecDepth 100000 in
set_option maxHeartbeats 2000000 in
theorem r7_Text_ops (n : Int) (x : Value) (w : World) : Calls Tryd.prog 39 #[.agg #[.int .u8 4, .int .i64 n, x]] w (TextPost 4 n w) := by
  obtain ⟨K, hK, hno, hyes, hend⟩ : ∃ K, K ≤ 6 ∧ (∀ j, j < K → (n == (opC j : Int)) = false) ∧ (K < 6 → (n == (opC K : Int)) = true ∧ textOf 4 n = opR K) ∧ (K = 6 → textOf 4 n = []) := by
    by_cases h : 0 < n ∧ n < 7
    · obtain ⟨m, rfl⟩ := Int.eq_ofNat_of_zero_le (show 0 ≤ n by omega)
      obtain ⟨K, h1, h2, h3, h4⟩ := opC_find m (by omega) (by omega)
      refine ⟨K, by omega, fun j hj => ?_, fun _ => ⟨?_, ?_⟩, by omega⟩
      · have := h4 j hj
        simp only [beq_eq_false_iff_ne]; omega
      · rw [h2]; simp
      · rw [h3]; unfold textOf; rw [if_neg (by omega), if_neg (by omega), if_neg (by omega), if_pos ⟨rfl, h⟩]; rfl
    · exact ⟨6, by omega, fun j hj => opC_none n h j hj, by omega, fun _ => text_none (by omega) (by omega) (by omega) (fun g => h g.2) (by omega)⟩
  have HNO := Lib.hid hno; clear hno
  have HYES := Lib.hid hyes; clear hyes
  have HEND := Lib.hid hend; clear hend
  have Z0 := Lib.hid (Holds.fresh w 51 #[.int .u8 4, .int .i64 n, x])
  have HX := Lib.hid ((Below.refl w.heap.size w).alloc (Nat.le_refl _) (.cells #[.int .u8 4, .int .i64 n, x] 51))
  go_enter Tryd.func39, Tryd.ntmps39
  go_wp2_with fail
  generalize w.alloc (.cells #[.int .u8 4, .int .i64 n, x] 51) = W0 at *
  go_loopw [3] (fun i wr => ∃ k : Nat, k ≤ K ∧ i = .int .i64 k ∧ Below W0.heap.size W0 wr) (fun i _ => 7 - (intOf i).toNat)
  case atStart => exact ⟨0, Nat.zero_le _, rfl, Below.refl _ _⟩
  case round =>
    obtain ⟨k, hk, rfl, hb⟩ := hrel
    have hbw := HX.out.trans (hb.mono HX.out.size)
    have hz := Z0.out.later hb
    have hlt8 := hz.size
    have z1 : wr.cell? ⟨w.heap.size, 1, none⟩ = some (.int .i64 n) := hz.cell 1
    by_cases hlt : k < 6
    · have HCO := Lib.hid (index_cs k hlt)
      have HI := Lib.hid (index_rs k hlt)
      have hoc : (opC k : Int) < 7 := by have := (opText_C k hlt).2.2.1; omega
      by_cases hkK : k < K
      · have hne := HNO.out k hkK
        generalize opC k = oc at *
        have hwr : IntKind.i64.wrap (oc : Int) = oc := IntWalk.i64_in _ (by omega)
        go_wp2_with fail
        go_region_held3 (fun w' => w'.cell? ⟨w.heap.size, 1, none⟩ = some (.int .i64 n) ∧ Below wr.heap.size wr w') (first | exact ⟨z1, (Below.refl _ _).drew⟩ | exact ⟨((bcell hb1).1 _ _ hlt8).trans z1, ((Below.refl _ _).drew).trans hb1⟩)
          (first | (go_at_call 79; refine (ref_codes _).mono ?_; rintro e w1 ⟨rfl, hb1⟩; have hc := HCO.out w1))
        have hb1' : Below wr.heap.size wr w1 := ((Below.refl _ _).drew).trans hb1
        go_wp2_with fail
        go_roundw
        case rel => exact ⟨k + 1, by omega, by go_num, hb.trans (hb1'.mono hb.size)⟩
        case measure => simp [intOf]; omega
      · obtain rfl : k = K := by omega
        obtain ⟨hne, htx⟩ := HYES.out hlt
        have HTX := Lib.hid htx; clear htx
        generalize opC k = oc at *
        have hwr : IntKind.i64.wrap (oc : Int) = oc := IntWalk.i64_in _ (by omega)
        go_wp2_with fail
        go_region_held3 (fun w' => w'.cell? ⟨w.heap.size, 1, none⟩ = some (.int .i64 n) ∧ Below wr.heap.size wr w') (first | exact ⟨z1, (Below.refl _ _).drew⟩ | exact ⟨((bcell hb1).1 _ _ hlt8).trans z1, ((Below.refl _ _).drew).trans hb1⟩)
          (first | (go_at_call 79; refine (ref_codes _).mono ?_; rintro e w1 ⟨rfl, hb1⟩; have hc := HCO.out w1))
        have hb1' : Below wr.heap.size wr w1 := ((Below.refl _ _).drew).trans hb1
        have hB1 := hbw.trans (hb1'.mono hbw.size)
        go_wp2_with fail
        refine (ref_ops _).mono ?_
        rintro e w2 ⟨rfl, hb2⟩
        have hi := HI.out w2
        go_wp2_with fail
        go_ret
        exact textPost_of HTX.out rfl (hB1.trans (hb2.mono hB1.size))
    · obtain rfl : k = 6 := by omega
      obtain rfl : K = 6 := by omega
      have htx := HEND.out rfl
      have HTX := Lib.hid htx; clear htx
      go_wp2_with fail
      go_ret
      exact textPost_of HTX.out rfl hbw

theorem ref7_Text (k n : Int) (x : Value) (w : World) : Calls Tryd.prog 39 #[.agg #[.int .u8 k, .int .i64 n, x]] w (TextPost k n w) := by
  by_cases k1 : k = 1
  · subst k1
    by_cases a : n < 0
    · exact r7_Text_n1a n a x w
    by_cases b : 1099511627776 < n
    · exact r7_Text_n1b n b x w
    exact r7_Text_number n x w (by omega) (by omega)
  by_cases k2 : k = 2
  · subst k2
    by_cases a : n < 0
    · exact r7_Text_n2a n a x w
    by_cases b : 26 ≤ n
    · exact r7_Text_n2b n b x w
    exact r7_Text_letter n (by omega) (by omega) x w
  by_cases k3 : k = 3
  · subst k3
    by_cases a : n = 0
    · exact r7_Text_within n a x w
    exact r7_Text_n3 n a x w
  by_cases k4 : k = 4
  · subst k4
    exact r7_Text_ops n x w
  by_cases k5 : k = 5
  · subst k5
    by_cases a : n < 0
    · exact r7_Text_n5a n a x w
    by_cases b : 256 ≤ n
    · exact r7_Text_n5b n b x w
    by_cases c : signB (UInt8.ofNat n.toNat) = true
    · have h12 : 0 < n ∧ n < 128 := by
        have hn : (UInt8.ofNat n.toNat).toNat = n.toNat := by rw [UInt8.toNat_ofNat']; omega
        generalize UInt8.ofNat n.toNat = d at *
        simp only [signB, signL, List.contains_iff_mem, List.mem_cons, List.not_mem_nil, or_false] at c
        have : d.toNat < 128 ∧ 0 < d.toNat := by rcases c with rfl | rfl | rfl | rfl | rfl | rfl | rfl | rfl | rfl | rfl | rfl | rfl <;> decide
        omega
      exact r7_Text_sign n h12.1 h12.2 c x w
    · exact r7_Text_nosign n (by omega) (by omega) (by simpa using c) x w
  exact r7_Text_n0 k n k1 k2 k3 k4 k5 x w
end Go.Proofs.YtafgincpoahefaaDoor
