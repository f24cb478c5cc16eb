/-
  stragglelaw01.NumSums: true of any numbers and any place. Conditions: none (the row lists the library's tables and errors that its road reads, as the program's text lays them).
-/
import Derived.Test.YtafgincpoahefaaDoorNumL1
import Derived.Test.YtafgincpoahefaaDoorApp
namespace Go.Proofs.YtafgincpoahefaaDoor
open Go.ChangeShapes Go.WideShapes Go.ChangeAt Go.RowKit
set_option linter.unusedVariables false

theorem addOf_code (a b : Int) : (addOf a b).2 = 0 ∨ addOf a b = (0, 12) := by
  unfold addOf; split <;> simp
theorem wrap64_range (n : Int) : -9223372036854775808 ≤ wrap64 n ∧ wrap64 n ≤ 9223372036854775807 := by unfold wrap64; omega
theorem addOf_range (a b : Int) : -9223372036854775808 ≤ (addOf a b).1 ∧ (addOf a b).1 ≤ 9223372036854775807 := by
  unfold addOf; split
  · simp
  · exact wrap64_range _
theorem sumFrom_code (l : List Int) : ∀ n, (sumFrom n l).2 = 0 ∨ sumFrom n l = (0, 12) := by
  induction l with
  | nil => intro n; exact .inl rfl
  | cons x l ih =>
    intro n
    unfold sumFrom
    split
    · exact ih _
    · rcases addOf_code n x with h | h
      · contradiction
      · right; rw [h]
theorem sumFrom_range (l : List Int) : ∀ n, (-9223372036854775808 ≤ n ∧ n ≤ 9223372036854775807) → -9223372036854775808 ≤ (sumFrom n l).1 ∧ (sumFrom n l).1 ≤ 9223372036854775807 := by
  induction l with
  | nil => intro n h; exact h
  | cons x l ih =>
    intro n h
    unfold sumFrom
    split
    · exact ih _ (addOf_range _ _)
    · simp
theorem sumFrom_append (l r : List Int) : ∀ n, sumFrom n (l ++ r) = if (sumFrom n l).2 = 0 then sumFrom (sumFrom n l).1 r else (0, 12) := by
  induction l with
  | nil => intro n; simp [sumFrom]
  | cons x l ih =>
    intro n
    simp only [List.cons_append, sumFrom]
    split
    · exact ih _
    · rename_i h
      rcases addOf_code n x with h' | h'
      · contradiction
      · rw [h']
/-- the head's sum ahead of the rest -/
theorem sumFrom_parts (l : List Int) (k : Nat) (h : (sumFrom 0 (l.take k)).2 = 0) : sumFrom 0 ((sumFrom 0 (l.take k)).1 :: l.drop k) = sumFrom 0 l := by
  have hr := sumFrom_range (l.take k) 0 (by omega)
  have h0 : addOf 0 (sumFrom 0 (l.take k)).1 = ((sumFrom 0 (l.take k)).1, 0) := by
    have := add_in 0 _ (by omega) hr (by omega)
    rw [this, Int.zero_add]
  rw [sumFrom, h0]
  simp only [if_true]
  have := sumFrom_append (l.take k) (l.drop k) 0
  rw [List.take_append_drop, if_pos h] at this
  exact this.symm
theorem sumFrom_over (l : List Int) (k : Nat) (h : ¬ (sumFrom 0 (l.take k)).2 = 0) : sumFrom 0 l = (0, 12) := by
  have := sumFrom_append (l.take k) (l.drop k) 0
  rw [List.take_append_drop, if_neg h] at this
  exact this
theorem sumFrom_one (x : Int) (h : -9223372036854775808 ≤ x ∧ x ≤ 9223372036854775807) : sumFrom 0 [x] = (x, 0) := by
  have := add_in 0 x (by omega) h (by omega)
  rw [sumFrom, this, Int.zero_add]; rfl

theorem IntsAt.take {w : World} {kd : IntKind} {a : Option Addr} {l : List Int} (h : IntsAt w kd a l) (k : Nat) : IntsAt w kd a (l.take k) := by
  obtain ⟨h1, h2⟩ := h
  refine ⟨by simp; omega, ?_⟩
  rcases h2 with rfl | ⟨b, off, rfl, hc⟩
  · exact .inl (by simp)
  · refine .inr ⟨b, off, rfl, fun i hi => ?_⟩
    simp only [List.length_take] at hi
    rw [hc i (by omega)]
    simp [List.getD_eq_getElem?_getD, show i < k from by omega]

set_option maxRecDepth 100000 in
set_option maxHeartbeats 2000000 in
theorem numSums_in_many (b off : Nat) (c : Nat) (l : List Int) (at_ : Int) (w : World) (hc : l.length ≤ c) (hm : l.length ≤ 60) (hi : IntsAt w .i64 (some ⟨b, off, none⟩) l)
    (hat : -9223372036854775808 ≤ at_ ∧ at_ ≤ 9223372036854775807) (k : Nat) (hk : min (max at_ 0) (l.length : Int) = k) (hkl : k ≤ l.length) (hov : (sumFrom 0 (l.take k)).2 = 0) (hG : G w) (hne : ¬ c = k)
    (h1 : (l.length : Int) ≠ 1) :
    Calls Tryd.prog 10 #[.slice (some ⟨b, off, none⟩) l.length c, .int .i64 at_] w fun e w' => e = .returned (.bool true) ∧ Below w.heap.size w w' := by
  have c3 := fun W => wakes01 W
  have C3 := Lib.hid c3; clear c3
  have htl : (l.take k).length = k := by simp; omega
  obtain ⟨u, hH⟩ : ∃ x, sumFrom 0 (l.take k) = (x, 0) := ⟨(sumFrom 0 (l.take k)).1, Prod.ext rfl hov⟩
  obtain ⟨x, y, hA⟩ : ∃ x y, sumFrom 0 l = (x, y) := ⟨_, _, rfl⟩
  have hp := sumFrom_parts l k hov
  rw [hH, hA] at hp
  have c1 := num_Sum_at l l.length rfl x _ hA (some ⟨b, off, none⟩) c w hi
  have c2 := num_Sum_at (l.take k) k htl u 0 hH (some ⟨b, off, none⟩) c w (hi.take k)
  have C1 := Lib.hid c1; clear c1
  have C2 := Lib.hid c2; clear c2
  have HA := Lib.hid hA; clear hA hov
  have HH := Lib.hid hH; clear hH
  have HTL := Lib.hid htl; clear htl
  have HP := Lib.hid hp; clear hp
  have hsrc' : IntsAt w .i64 (some ⟨b, off + k, none⟩) (l.drop k) := hi.drop k
  obtain ⟨i0, hi0, hz0, hz1, hz2⟩ := info_parts (by kernel_rfl : (Tryd.prog.info? 3).map (fun i => (i.zero, i.size, i.bytes)) = some (some (.int .i64 0), 1, 8))
  go_enter Tryd.func10, Tryd.ntmps10
  go_wp2_with fail
  clear hk
  refine C1.out.mono ?_
  rintro e w1 ⟨rfl, rfl⟩
  go_wp2_with fail
  refine C2.out.mono ?_
  rintro e w1 ⟨rfl, rfl⟩
  go_wp2_with (at_builtin; refine wpList_append_ints rfl _ _ 63 rfl w.heap.size 3 i0 (.int .i64 0) 8 Tryd.underlying63 hi0 hz0 hz1 hz2 rfl .i64 _ 1 [.int .i64 u] rfl (World.ownsRow_lit w #[.int .i64 u] 1 (Nat.le_refl _) (by decide) rfl) (some ⟨b, off + k, none⟩) (l.length - k) (c - k) (l.drop k) rfl (by simp) (hsrc'.mono ((Below.refl _ _).alloc (Nat.le_refl _) _)) (fun h => by cases h) (by unfold maxLen; omega) (by omega) (by simp) ?_; intro v' w2 hown hgrow; refine Hid.out ?_)
  refine Lib.hid ?_
  have hb2 : Below w.heap.size w w2 := ((Below.refl w.heap.size w).alloc (Nat.le_refl _) _).grown hgrow (by simp) (fun q hq => by cases hq; exact Nat.le_refl _)
  obtain ⟨a', cap', rfl, hcap', hints⟩ := ints_of_row (l := u :: l.drop k) hown (by omega)
  have HOW := Lib.hid hown; clear hown hgrow
  have hG2 := hG.mono hb2
  have hlen : (u :: l.drop k).length = 1 + (l.length - k) := by simp; omega
  have c4 := num_Sum_at (u :: l.drop k) (1 + (l.length - k)) hlen x _ HP.out a' cap' w2 hints
  rw [hlen]
  have C4 := Lib.hid c4; clear c4 hlen
  have HI := Lib.hid hints; clear hints
  go_wp2_with fail
  refine C4.out.mono ?_
  rintro e w3 ⟨rfl, rfl⟩
  go_wp2_with fail
  refine (num_Sum_at [] 0 rfl 0 0 rfl _ _ _ (IntsAt.none _ _ _)).mono ?_
  rintro e w3 ⟨rfl, rfl⟩
  go_wp2_with fail
  refine (C3.out _ hG2).mono ?_
  rintro e w4 ⟨rfl, hb4⟩
  go_wp2_with fail
  go_ret
  exact ⟨rfl, hb2.trans (hb4.mono hb2.size)⟩
set_option maxRecDepth 100000 in
set_option maxHeartbeats 400000 in
theorem numSums_end_many (b off : Nat) (k : Nat) (l : List Int) (at_ : Int) (w : World) (hl : l.length = k) (hm : k ≤ 60) (hi : IntsAt w .i64 (some ⟨b, off, none⟩) l) (hat : -9223372036854775808 ≤ at_ ∧ at_ ≤ 9223372036854775807) (hk : min (max at_ 0) (k : Int) = k) (hov : (sumFrom 0 (l.take k)).2 = 0) (hG : G w)
    (h1 : (k : Int) ≠ 1) :
    Calls Tryd.prog 10 #[.slice (some ⟨b, off, none⟩) k k, .int .i64 at_] w fun e w' => e = .returned (.bool true) ∧ Below w.heap.size w w' := by
  have c3 := fun W => wakes01 W
  have C3 := Lib.hid c3; clear c3
  obtain ⟨u, hH⟩ : ∃ x, sumFrom 0 (l.take k) = (x, 0) := ⟨(sumFrom 0 (l.take k)).1, Prod.ext rfl hov⟩
  obtain ⟨x, y, hA⟩ : ∃ x y, sumFrom 0 l = (x, y) := ⟨_, _, rfl⟩
  have hp := sumFrom_parts l k hov
  have hd : l.drop k = [] := List.drop_of_length_le (by omega)
  rw [hH, hA, hd] at hp
  have c1 := num_Sum_at l k hl x _ hA (some ⟨b, off, none⟩) k w hi
  have c2 := num_Sum_at (l.take k) k (by rw [List.length_take]; omega) u 0 hH (some ⟨b, off, none⟩) k w (hi.take k)
  have C1 := Lib.hid c1; clear c1
  have C2 := Lib.hid c2; clear c2
  have HA := Lib.hid hA; clear hA hov
  have HH := Lib.hid hH; clear hH
  have HP := Lib.hid hp; clear hp hd
  have HL := Lib.hid hl; clear hl
  obtain ⟨i0, hi0, hz0, hz1, hz2⟩ := info_parts (by kernel_rfl : (Tryd.prog.info? 3).map (fun i => (i.zero, i.size, i.bytes)) = some (some (.int .i64 0), 1, 8))
  go_enter Tryd.func10, Tryd.ntmps10
  go_wp2_with fail
  clear hk
  refine C1.out.mono ?_
  rintro e w1 ⟨rfl, rfl⟩
  go_wp2_with fail
  refine C2.out.mono ?_
  rintro e w1 ⟨rfl, rfl⟩
  go_wp2_with (at_builtin; refine wpList_append_ints rfl _ _ 63 rfl w.heap.size 3 i0 (.int .i64 0) 8 Tryd.underlying63 hi0 hz0 hz1 hz2 rfl .i64 _ 1 [.int .i64 u] rfl (World.ownsRow_lit w #[.int .i64 u] 1 (Nat.le_refl _) (by decide) rfl) (some ⟨b, off, none⟩) 0 (0) [] rfl rfl (IntsAt.none _ _ _) (fun h => by cases h) (by decide) (by decide) (by simp) ?_; intro v' w2 hown hgrow; refine Hid.out ?_)
  refine Lib.hid ?_
  have hb2 : Below w.heap.size w w2 := ((Below.refl w.heap.size w).alloc (Nat.le_refl _) _).grown hgrow (by simp) (fun q hq => by cases hq; exact Nat.le_refl _)
  obtain ⟨a', cap', rfl, hcap', hints⟩ := ints_of_row (l := [u]) hown (by omega)
  have HOW := Lib.hid hown; clear hown hgrow
  have hG2 := hG.mono hb2
  have c4 := num_Sum_at [u] 1 rfl x _ HP.out a' cap' w2 hints
  have C4 := Lib.hid c4; clear c4
  have HI := Lib.hid hints; clear hints
  go_wp2_with fail
  refine C4.out.mono ?_
  rintro e w3 ⟨rfl, rfl⟩
  go_wp2_with fail
  refine (num_Sum_at [] 0 rfl 0 0 rfl _ _ _ (IntsAt.none _ _ _)).mono ?_
  rintro e w3 ⟨rfl, rfl⟩
  go_wp2_with fail
  refine (C3.out _ hG2).mono ?_
  rintro e w4 ⟨rfl, hb4⟩
  go_wp2_with fail
  go_ret
  exact ⟨rfl, hb2.trans (hb4.mono hb2.size)⟩
set_option maxRecDepth 100000 in
set_option maxHeartbeats 2000000 in
theorem numSums_in_one (b off : Nat) (c : Nat) (l : List Int) (at_ : Int) (w : World) (hc : l.length ≤ c) (hm : l.length ≤ 60) (hi : IntsAt w .i64 (some ⟨b, off, none⟩) l)
    (hat : -9223372036854775808 ≤ at_ ∧ at_ ≤ 9223372036854775807) (k : Nat) (hk : min (max at_ 0) (l.length : Int) = k) (hkl : k ≤ l.length) (hov : (sumFrom 0 (l.take k)).2 = 0) (hG : G w) (hne : ¬ c = k)
    (h1 : (l.length : Int) = 1) (hone : sumFrom 0 l = (l.getD 0 0, 0)) :
    Calls Tryd.prog 10 #[.slice (some ⟨b, off, none⟩) l.length c, .int .i64 at_] w fun e w' => e = .returned (.bool true) ∧ Below w.heap.size w w' := by
  have c3 := fun W => wakes01 W
  have C3 := Lib.hid c3; clear c3
  have htl : (l.take k).length = k := by simp; omega
  obtain ⟨u, hH⟩ : ∃ x, sumFrom 0 (l.take k) = (x, 0) := ⟨(sumFrom 0 (l.take k)).1, Prod.ext rfl hov⟩
  obtain ⟨x, hx⟩ : ∃ x, l.getD 0 0 = x := ⟨_, rfl⟩
  have hA : sumFrom 0 l = (x, 0) := by rw [← hx]; exact hone
  clear hone
  have HX := Lib.hid hx; clear hx
  have H1 := Lib.hid h1; clear h1
  have hp := sumFrom_parts l k hov
  rw [hH, hA] at hp
  have c1 := num_Sum_at l l.length rfl x _ hA (some ⟨b, off, none⟩) c w hi
  have c2 := num_Sum_at (l.take k) k htl u 0 hH (some ⟨b, off, none⟩) c w (hi.take k)
  have C1 := Lib.hid c1; clear c1
  have C2 := Lib.hid c2; clear c2
  have HA := Lib.hid hA; clear hA hov
  have HH := Lib.hid hH; clear hH
  have HTL := Lib.hid htl; clear htl
  have HP := Lib.hid hp; clear hp
  have hsrc' : IntsAt w .i64 (some ⟨b, off + k, none⟩) (l.drop k) := hi.drop k
  obtain ⟨i0, hi0, hz0, hz1, hz2⟩ := info_parts (by kernel_rfl : (Tryd.prog.info? 3).map (fun i => (i.zero, i.size, i.bytes)) = some (some (.int .i64 0), 1, 8))
  go_enter Tryd.func10, Tryd.ntmps10
  go_wp2_with fail
  clear hk
  refine C1.out.mono ?_
  rintro e w1 ⟨rfl, rfl⟩
  go_wp2_with fail
  refine C2.out.mono ?_
  rintro e w1 ⟨rfl, rfl⟩
  go_wp2_with (at_builtin; refine wpList_append_ints rfl _ _ 63 rfl w.heap.size 3 i0 (.int .i64 0) 8 Tryd.underlying63 hi0 hz0 hz1 hz2 rfl .i64 _ 1 [.int .i64 u] rfl (World.ownsRow_lit w #[.int .i64 u] 1 (Nat.le_refl _) (by decide) rfl) (some ⟨b, off + k, none⟩) (l.length - k) (c - k) (l.drop k) rfl (by simp) (hsrc'.mono ((Below.refl _ _).alloc (Nat.le_refl _) _)) (fun h => by cases h) (by unfold maxLen; omega) (by omega) (by simp) ?_; intro v' w2 hown hgrow; refine Hid.out ?_)
  refine Lib.hid ?_
  have hb2 : Below w.heap.size w w2 := ((Below.refl w.heap.size w).alloc (Nat.le_refl _) _).grown hgrow (by simp) (fun q hq => by cases hq; exact Nat.le_refl _)
  obtain ⟨a', cap', rfl, hcap', hints⟩ := ints_of_row (l := u :: l.drop k) hown (by omega)
  have HOW := Lib.hid hown; clear hown hgrow
  have hG2 := hG.mono hb2
  have hlen : (u :: l.drop k).length = 1 + (l.length - k) := by simp; omega
  have c4 := num_Sum_at (u :: l.drop k) (1 + (l.length - k)) hlen x _ HP.out a' cap' w2 hints
  rw [hlen]
  have C4 := Lib.hid c4; clear c4 hlen
  have HI := Lib.hid hints; clear hints
  go_wp2_with fail
  refine C4.out.mono ?_
  rintro e w3 ⟨rfl, rfl⟩
  go_wp2_with fail
  refine (num_Sum_at [] 0 rfl 0 0 rfl _ _ _ (IntsAt.none _ _ _)).mono ?_
  rintro e w3 ⟨rfl, rfl⟩
  have h1 := H1.out
  have hc0 : w2.cell? ⟨b, off, none⟩ = some (.int .i64 x) := by
    rcases (hi.mono hb2).2 with h | ⟨b', off', ha, hcc⟩
    · subst h; simp at h1
    · cases ha; rw [← HX.out]; exact hcc 0 (by omega)
  clear HX H1
  go_wp2_with fail
  refine (C3.out _ hG2).mono ?_
  rintro e w4 ⟨rfl, hb4⟩
  go_wp2_with fail
  go_ret
  exact ⟨rfl, hb2.trans (hb4.mono hb2.size)⟩
set_option maxRecDepth 100000 in
set_option maxHeartbeats 400000 in
theorem numSums_end_one (b off : Nat) (k : Nat) (l : List Int) (at_ : Int) (w : World) (hl : l.length = k) (hm : k ≤ 60) (hi : IntsAt w .i64 (some ⟨b, off, none⟩) l) (hat : -9223372036854775808 ≤ at_ ∧ at_ ≤ 9223372036854775807) (hk : min (max at_ 0) (k : Int) = k) (hov : (sumFrom 0 (l.take k)).2 = 0) (hG : G w)
    (h1 : (k : Int) = 1) (hone : sumFrom 0 l = (l.getD 0 0, 0)) :
    Calls Tryd.prog 10 #[.slice (some ⟨b, off, none⟩) k k, .int .i64 at_] w fun e w' => e = .returned (.bool true) ∧ Below w.heap.size w w' := by
  have c3 := fun W => wakes01 W
  have C3 := Lib.hid c3; clear c3
  obtain ⟨u, hH⟩ : ∃ x, sumFrom 0 (l.take k) = (x, 0) := ⟨(sumFrom 0 (l.take k)).1, Prod.ext rfl hov⟩
  obtain ⟨x, hx⟩ : ∃ x, l.getD 0 0 = x := ⟨_, rfl⟩
  have hA : sumFrom 0 l = (x, 0) := by rw [← hx]; exact hone
  clear hone
  have HX := Lib.hid hx; clear hx
  have H1 := Lib.hid h1; clear h1
  have hp := sumFrom_parts l k hov
  have hd : l.drop k = [] := List.drop_of_length_le (by omega)
  rw [hH, hA, hd] at hp
  have c1 := num_Sum_at l k hl x _ hA (some ⟨b, off, none⟩) k w hi
  have c2 := num_Sum_at (l.take k) k (by rw [List.length_take]; omega) u 0 hH (some ⟨b, off, none⟩) k w (hi.take k)
  have C1 := Lib.hid c1; clear c1
  have C2 := Lib.hid c2; clear c2
  have HA := Lib.hid hA; clear hA hov
  have HH := Lib.hid hH; clear hH
  have HP := Lib.hid hp; clear hp hd
  have HL := Lib.hid hl; clear hl
  obtain ⟨i0, hi0, hz0, hz1, hz2⟩ := info_parts (by kernel_rfl : (Tryd.prog.info? 3).map (fun i => (i.zero, i.size, i.bytes)) = some (some (.int .i64 0), 1, 8))
  go_enter Tryd.func10, Tryd.ntmps10
  go_wp2_with fail
  clear hk
  refine C1.out.mono ?_
  rintro e w1 ⟨rfl, rfl⟩
  go_wp2_with fail
  refine C2.out.mono ?_
  rintro e w1 ⟨rfl, rfl⟩
  go_wp2_with (at_builtin; refine wpList_append_ints rfl _ _ 63 rfl w.heap.size 3 i0 (.int .i64 0) 8 Tryd.underlying63 hi0 hz0 hz1 hz2 rfl .i64 _ 1 [.int .i64 u] rfl (World.ownsRow_lit w #[.int .i64 u] 1 (Nat.le_refl _) (by decide) rfl) (some ⟨b, off, none⟩) 0 (0) [] rfl rfl (IntsAt.none _ _ _) (fun h => by cases h) (by decide) (by decide) (by simp) ?_; intro v' w2 hown hgrow; refine Hid.out ?_)
  refine Lib.hid ?_
  have hb2 : Below w.heap.size w w2 := ((Below.refl w.heap.size w).alloc (Nat.le_refl _) _).grown hgrow (by simp) (fun q hq => by cases hq; exact Nat.le_refl _)
  obtain ⟨a', cap', rfl, hcap', hints⟩ := ints_of_row (l := [u]) hown (by omega)
  have HOW := Lib.hid hown; clear hown hgrow
  have hG2 := hG.mono hb2
  have c4 := num_Sum_at [u] 1 rfl x _ HP.out a' cap' w2 hints
  have C4 := Lib.hid c4; clear c4
  have HI := Lib.hid hints; clear hints
  go_wp2_with fail
  refine C4.out.mono ?_
  rintro e w3 ⟨rfl, rfl⟩
  go_wp2_with fail
  refine (num_Sum_at [] 0 rfl 0 0 rfl _ _ _ (IntsAt.none _ _ _)).mono ?_
  rintro e w3 ⟨rfl, rfl⟩
  have h1 := H1.out
  have hc0 : w2.cell? ⟨b, off, none⟩ = some (.int .i64 x) := by
    rcases (hi.mono hb2).2 with h | ⟨b', off', ha, hcc⟩
    · subst h; have := HL.out; simp at this; omega
    · cases ha; rw [← HX.out]; exact hcc 0 (by have := HL.out; omega)
  clear HX H1
  go_wp2_with fail
  refine (C3.out _ hG2).mono ?_
  rintro e w4 ⟨rfl, hb4⟩
  go_wp2_with fail
  go_ret
  exact ⟨rfl, hb2.trans (hb4.mono hb2.size)⟩
set_option maxRecDepth 100000 in
set_option maxHeartbeats 400000 in
theorem numSums_none0 (ad : Addr) (l : List Int) (at_ : Int) (w : World) (hl : l.length = 0) (hi : IntsAt w .i64 (some ad) l) (hat : -9223372036854775808 ≤ at_ ∧ at_ ≤ 9223372036854775807) (hk : min (max at_ 0) (0 : Int) = 0) (hov : (sumFrom 0 (l.take 0)).2 = 0) (hG : G w) :
    Calls Tryd.prog 10 #[.slice (some ad) 0 0, .int .i64 at_] w fun e w' => e = .returned (.bool true) ∧ Below w.heap.size w w' := by
  have c3 := fun W => wakes01 W
  have C3 := Lib.hid c3; clear c3
  obtain ⟨u, hH⟩ : ∃ x, sumFrom 0 (l.take 0) = (x, 0) := ⟨(sumFrom 0 (l.take 0)).1, Prod.ext rfl hov⟩
  obtain ⟨x, y, hA⟩ : ∃ x y, sumFrom 0 l = (x, y) := ⟨_, _, rfl⟩
  have hp := sumFrom_parts l 0 hov
  have hd : l.drop 0 = [] := List.drop_of_length_le (by omega)
  rw [hH, hA, hd] at hp
  have c1 := num_Sum_at l 0 hl x _ hA (some ad) 0 w hi
  have c2 := num_Sum_at (l.take 0) 0 (by rw [List.length_take]; omega) u 0 hH (some ad) 0 w (hi.take 0)
  have C1 := Lib.hid c1; clear c1
  have C2 := Lib.hid c2; clear c2
  have HA := Lib.hid hA; clear hA hov
  have HH := Lib.hid hH; clear hH
  have HP := Lib.hid hp; clear hp hd
  have HL := Lib.hid hl; clear hl
  obtain ⟨i0, hi0, hz0, hz1, hz2⟩ := info_parts (by kernel_rfl : (Tryd.prog.info? 3).map (fun i => (i.zero, i.size, i.bytes)) = some (some (.int .i64 0), 1, 8))
  go_enter Tryd.func10, Tryd.ntmps10
  go_wp2_with fail
  try rw [hk]
  clear hk
  refine C1.out.mono ?_
  rintro e w1 ⟨rfl, rfl⟩
  go_wp2_with fail
  refine C2.out.mono ?_
  rintro e w1 ⟨rfl, rfl⟩
  go_wp2_with (at_builtin; refine wpList_append_ints rfl _ _ 63 rfl w.heap.size 3 i0 (.int .i64 0) 8 Tryd.underlying63 hi0 hz0 hz1 hz2 rfl .i64 _ 1 [.int .i64 u] rfl (World.ownsRow_lit w #[.int .i64 u] 1 (Nat.le_refl _) (by decide) rfl) (some ad) 0 (0) [] rfl rfl (IntsAt.none _ _ _) (fun h => by cases h) (by decide) (by decide) (by simp) ?_; intro v' w2 hown hgrow; refine Hid.out ?_)
  refine Lib.hid ?_
  have hb2 : Below w.heap.size w w2 := ((Below.refl w.heap.size w).alloc (Nat.le_refl _) _).grown hgrow (by simp) (fun q hq => by cases hq; exact Nat.le_refl _)
  obtain ⟨a', cap', rfl, hcap', hints⟩ := ints_of_row (l := [u]) hown (by omega)
  have HOW := Lib.hid hown; clear hown hgrow
  have hG2 := hG.mono hb2
  have c4 := num_Sum_at [u] 1 rfl x _ HP.out a' cap' w2 hints
  have C4 := Lib.hid c4; clear c4
  have HI := Lib.hid hints; clear hints
  go_wp2_with fail
  refine C4.out.mono ?_
  rintro e w3 ⟨rfl, rfl⟩
  go_wp2_with fail
  refine (num_Sum_at [] 0 rfl 0 0 rfl _ _ _ (IntsAt.none _ _ _)).mono ?_
  rintro e w3 ⟨rfl, rfl⟩
  go_wp2_with fail
  refine (C3.out _ hG2).mono ?_
  rintro e w4 ⟨rfl, hb4⟩
  go_wp2_with fail
  go_ret
  exact ⟨rfl, hb2.trans (hb4.mono hb2.size)⟩
set_option maxRecDepth 100000 in
set_option maxHeartbeats 400000 in
theorem numSums_nil (l : List Int) (at_ : Int) (w : World) (hl : l.length = 0) (hi : IntsAt w .i64 none l) (hat : -9223372036854775808 ≤ at_ ∧ at_ ≤ 9223372036854775807) (hk : min (max at_ 0) (0 : Int) = 0) (hov : (sumFrom 0 (l.take 0)).2 = 0) (hG : G w) :
    Calls Tryd.prog 10 #[.slice none 0 0, .int .i64 at_] w fun e w' => e = .returned (.bool true) ∧ Below w.heap.size w w' := by
  have c3 := fun W => wakes01 W
  have C3 := Lib.hid c3; clear c3
  obtain ⟨u, hH⟩ : ∃ x, sumFrom 0 (l.take 0) = (x, 0) := ⟨(sumFrom 0 (l.take 0)).1, Prod.ext rfl hov⟩
  obtain ⟨x, y, hA⟩ : ∃ x y, sumFrom 0 l = (x, y) := ⟨_, _, rfl⟩
  have hp := sumFrom_parts l 0 hov
  have hd : l.drop 0 = [] := List.drop_of_length_le (by omega)
  rw [hH, hA, hd] at hp
  have c1 := num_Sum_at l 0 hl x _ hA none 0 w hi
  have c2 := num_Sum_at (l.take 0) 0 (by rw [List.length_take]; omega) u 0 hH none 0 w (hi.take 0)
  have C1 := Lib.hid c1; clear c1
  have C2 := Lib.hid c2; clear c2
  have HA := Lib.hid hA; clear hA hov
  have HH := Lib.hid hH; clear hH
  have HP := Lib.hid hp; clear hp hd
  have HL := Lib.hid hl; clear hl
  obtain ⟨i0, hi0, hz0, hz1, hz2⟩ := info_parts (by kernel_rfl : (Tryd.prog.info? 3).map (fun i => (i.zero, i.size, i.bytes)) = some (some (.int .i64 0), 1, 8))
  go_enter Tryd.func10, Tryd.ntmps10
  go_wp2_with fail
  try rw [hk]
  clear hk
  refine C1.out.mono ?_
  rintro e w1 ⟨rfl, rfl⟩
  go_wp2_with fail
  refine C2.out.mono ?_
  rintro e w1 ⟨rfl, rfl⟩
  go_wp2_with (at_builtin; refine wpList_append_ints rfl _ _ 63 rfl w.heap.size 3 i0 (.int .i64 0) 8 Tryd.underlying63 hi0 hz0 hz1 hz2 rfl .i64 _ 1 [.int .i64 u] rfl (World.ownsRow_lit w #[.int .i64 u] 1 (Nat.le_refl _) (by decide) rfl) (none) 0 (0) [] rfl rfl (IntsAt.none _ _ _) (fun _ => rfl) (by decide) (by decide) (by simp) ?_; intro v' w2 hown hgrow; refine Hid.out ?_)
  refine Lib.hid ?_
  have hb2 : Below w.heap.size w w2 := ((Below.refl w.heap.size w).alloc (Nat.le_refl _) _).grown hgrow (by simp) (fun q hq => by cases hq; exact Nat.le_refl _)
  obtain ⟨a', cap', rfl, hcap', hints⟩ := ints_of_row (l := [u]) hown (by omega)
  have HOW := Lib.hid hown; clear hown hgrow
  have hG2 := hG.mono hb2
  have c4 := num_Sum_at [u] 1 rfl x _ HP.out a' cap' w2 hints
  have C4 := Lib.hid c4; clear c4
  have HI := Lib.hid hints; clear hints
  go_wp2_with fail
  refine C4.out.mono ?_
  rintro e w3 ⟨rfl, rfl⟩
  go_wp2_with fail
  refine (num_Sum_at [] 0 rfl 0 0 rfl _ _ _ (IntsAt.none _ _ _)).mono ?_
  rintro e w3 ⟨rfl, rfl⟩
  go_wp2_with fail
  refine (C3.out _ hG2).mono ?_
  rintro e w4 ⟨rfl, hb4⟩
  go_wp2_with fail
  go_ret
  exact ⟨rfl, hb2.trans (hb4.mono hb2.size)⟩
set_option maxRecDepth 100000 in
set_option maxHeartbeats 400000 in
theorem numSums_none (ad : Addr) (c : Nat) (hne : ¬ c = 0) (l : List Int) (at_ : Int) (w : World) (hl : l.length = 0) (hi : IntsAt w .i64 (some ad) l) (hat : -9223372036854775808 ≤ at_ ∧ at_ ≤ 9223372036854775807) (hk : min (max at_ 0) (0 : Int) = 0) (hov : (sumFrom 0 (l.take 0)).2 = 0) (hG : G w) :
    Calls Tryd.prog 10 #[.slice (some ad) 0 c, .int .i64 at_] w fun e w' => e = .returned (.bool true) ∧ Below w.heap.size w w' := by
  have c3 := fun W => wakes01 W
  have C3 := Lib.hid c3; clear c3
  obtain ⟨u, hH⟩ : ∃ x, sumFrom 0 (l.take 0) = (x, 0) := ⟨(sumFrom 0 (l.take 0)).1, Prod.ext rfl hov⟩
  obtain ⟨x, y, hA⟩ : ∃ x y, sumFrom 0 l = (x, y) := ⟨_, _, rfl⟩
  have hp := sumFrom_parts l 0 hov
  have hd : l.drop 0 = [] := List.drop_of_length_le (by omega)
  rw [hH, hA, hd] at hp
  have c1 := num_Sum_at l 0 hl x _ hA (some ad) c w hi
  have c2 := num_Sum_at (l.take 0) 0 (by rw [List.length_take]; omega) u 0 hH (some ad) c w (hi.take 0)
  have C1 := Lib.hid c1; clear c1
  have C2 := Lib.hid c2; clear c2
  have HA := Lib.hid hA; clear hA hov
  have HH := Lib.hid hH; clear hH
  have HP := Lib.hid hp; clear hp hd
  have HL := Lib.hid hl; clear hl
  obtain ⟨i0, hi0, hz0, hz1, hz2⟩ := info_parts (by kernel_rfl : (Tryd.prog.info? 3).map (fun i => (i.zero, i.size, i.bytes)) = some (some (.int .i64 0), 1, 8))
  go_enter Tryd.func10, Tryd.ntmps10
  go_wp2_with fail
  try rw [hk]
  clear hk
  refine C1.out.mono ?_
  rintro e w1 ⟨rfl, rfl⟩
  go_wp2_with fail
  refine C2.out.mono ?_
  rintro e w1 ⟨rfl, rfl⟩
  go_wp2_with (at_builtin; refine wpList_append_ints rfl _ _ 63 rfl w.heap.size 3 i0 (.int .i64 0) 8 Tryd.underlying63 hi0 hz0 hz1 hz2 rfl .i64 _ 1 [.int .i64 u] rfl (World.ownsRow_lit w #[.int .i64 u] 1 (Nat.le_refl _) (by decide) rfl) (some (ad.add 0)) 0 (c - 0) [] rfl rfl (IntsAt.none _ _ _) (fun h => by cases h) (by decide) (by decide) (by simp) ?_; intro v' w2 hown hgrow; refine Hid.out ?_)
  refine Lib.hid ?_
  have hb2 : Below w.heap.size w w2 := ((Below.refl w.heap.size w).alloc (Nat.le_refl _) _).grown hgrow (by simp) (fun q hq => by cases hq; exact Nat.le_refl _)
  obtain ⟨a', cap', rfl, hcap', hints⟩ := ints_of_row (l := [u]) hown (by omega)
  have HOW := Lib.hid hown; clear hown hgrow
  have hG2 := hG.mono hb2
  have c4 := num_Sum_at [u] 1 rfl x _ HP.out a' cap' w2 hints
  have C4 := Lib.hid c4; clear c4
  have HI := Lib.hid hints; clear hints
  go_wp2_with fail
  refine C4.out.mono ?_
  rintro e w3 ⟨rfl, rfl⟩
  go_wp2_with fail
  refine (num_Sum_at [] 0 rfl 0 0 rfl _ _ _ (IntsAt.none _ _ _)).mono ?_
  rintro e w3 ⟨rfl, rfl⟩
  go_wp2_with fail
  refine (C3.out _ hG2).mono ?_
  rintro e w4 ⟨rfl, hb4⟩
  go_wp2_with fail
  go_ret
  exact ⟨rfl, hb2.trans (hb4.mono hb2.size)⟩
set_option maxRecDepth 100000 in
set_option maxHeartbeats 400000 in
theorem numSums_far (a : Option Addr) (c : Nat) (l : List Int) (at_ : Int) (w : World) (hc : l.length ≤ c) (hm : l.length ≤ 140737488351232) (h60 : 60 < l.length) (hG : G w) :
    Calls Tryd.prog 10 #[.slice a l.length c, .int .i64 at_] w fun e w' => e = .returned (.bool true) ∧ Below w.heap.size w w' := by
  have c3 := fun W => wakes01 W
  have C3 := Lib.hid c3; clear c3
  go_enter Tryd.func10, Tryd.ntmps10
  go_wp2_with fail
  refine (C3.out _ hG).mono ?_
  rintro e w1 ⟨rfl, hb1⟩
  go_wp2_with fail
  go_ret
  exact ⟨rfl, hb1⟩
set_option maxRecDepth 100000 in
set_option maxHeartbeats 400000 in
theorem numSums_over (a : Option Addr) (c : Nat) (l : List Int) (at_ : Int) (w : World) (hc : l.length ≤ c) (hm : l.length ≤ 60) (hi : IntsAt w .i64 a l)
    (hat : -9223372036854775808 ≤ at_ ∧ at_ ≤ 9223372036854775807) (k : Nat) (hk : min (max at_ 0) (l.length : Int) = k) (hkl : k ≤ l.length) (hov : ¬ (sumFrom 0 (l.take k)).2 = 0) (hG : G w) :
    Calls Tryd.prog 10 #[.slice a l.length c, .int .i64 at_] w fun e w' => e = .returned (.bool true) ∧ Below w.heap.size w w' := by
  have c3 := fun W => wakes01 W
  have C3 := Lib.hid c3; clear c3
  have htl : (l.take k).length = k := by simp; omega
  have hA := sumFrom_over l k hov
  have hH : sumFrom 0 (l.take k) = (0, 12) := (sumFrom_code _ _).resolve_left hov
  have c1 := num_Sum_at l l.length rfl 0 12 hA a c w hi
  have c2 := num_Sum_at (l.take k) k htl 0 12 hH a c w (hi.take k)
  have C1 := Lib.hid c1; clear c1
  have C2 := Lib.hid c2; clear c2
  clear hA hH hov htl
  go_enter Tryd.func10, Tryd.ntmps10
  go_wp2_with fail
  clear hk
  refine C1.out.mono ?_
  rintro e w1 ⟨rfl, rfl⟩
  go_wp2_with fail
  refine C2.out.mono ?_
  rintro e w1 ⟨rfl, rfl⟩
  go_wp2_with fail
  refine (C3.out _ hG).mono ?_
  rintro e w1 ⟨rfl, hb1⟩
  go_wp2_with fail
  go_ret
  exact ⟨rfl, hb1⟩

theorem numSums_walk (a : Option Addr) (c : Nat) (l : List Int) (at_ : Int) (w : World) (hc : l.length ≤ c) (hnil : a = none → c = 0) (hi : IntsAt w .i64 a l) (hb : ∀ x ∈ l, -9223372036854775808 ≤ x ∧ x ≤ 9223372036854775807)
    (hat : -9223372036854775808 ≤ at_ ∧ at_ ≤ 9223372036854775807) (hG : G w) :
    Calls Tryd.prog 10 #[.slice a l.length c, .int .i64 at_] w fun e w' => e = .returned (.bool true) ∧ Below w.heap.size w w' := by
  by_cases h60 : 60 < l.length
  · exact numSums_far a c l at_ w hc hi.1 h60 hG
  have hm : l.length ≤ 60 := by omega
  obtain ⟨k, hk, hkl⟩ : ∃ k : Nat, min (max at_ 0) (l.length : Int) = k ∧ k ≤ l.length := ⟨(min (max at_ 0) (l.length : Int)).toNat, by omega, by omega⟩
  by_cases hov : (sumFrom 0 (l.take k)).2 = 0
  · by_cases h0 : l.length = 0
    · obtain rfl : l = [] := List.eq_nil_of_length_eq_zero h0
      obtain rfl : k = 0 := by simpa using hkl
      rcases a with _ | ad
      · obtain rfl := hnil rfl
        exact numSums_nil [] at_ w rfl hi hat hk hov hG
      · by_cases hne : c = 0
        · subst hne; exact numSums_none0 ad [] at_ w rfl hi hat hk hov hG
        · exact numSums_none ad c hne [] at_ w rfl hi hat hk hov hG
    · obtain ⟨b, off, rfl⟩ : ∃ b off, a = some ⟨b, off, none⟩ := by
        rcases hi.2 with rfl | ⟨b, off, h, _⟩
        · simp at h0
        · exact ⟨b, off, h⟩
      by_cases hne : c = k
      · obtain rfl : l.length = k := by omega
        subst hne
        by_cases h1 : (l.length : Int) = 1
        · have hone : sumFrom 0 l = (l.getD 0 0, 0) := by
            obtain ⟨z, rfl⟩ : ∃ z, l = [z] := List.length_eq_one_iff.1 (by omega)
            exact sumFrom_one z (hb z (by simp))
          exact numSums_end_one b off _ l at_ w rfl hm hi hat hk hov hG h1 hone
        · exact numSums_end_many b off _ l at_ w rfl hm hi hat hk hov hG h1
      · by_cases h1 : (l.length : Int) = 1
        · have hone : sumFrom 0 l = (l.getD 0 0, 0) := by
            obtain ⟨z, rfl⟩ : ∃ z, l = [z] := List.length_eq_one_iff.1 (by omega)
            exact sumFrom_one z (hb z (by simp))
          exact numSums_in_one b off c l at_ w hc hm hi hat k hk hkl hov hG hne h1 hone
        · exact numSums_in_many b off c l at_ w hc hm hi hat k hk hkl hov hG hne h1
  · exact numSums_over a c l at_ w hc hm hi hat k hk hkl hov hG
end Go.Proofs.YtafgincpoahefaaDoor
