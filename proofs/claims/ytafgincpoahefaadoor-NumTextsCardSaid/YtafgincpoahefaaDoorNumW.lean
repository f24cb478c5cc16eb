/-
  stragglelaw01.wakes: what the document says of some numbers, texts, bytes: true.
-/
import Derived.Test.YtafgincpoahefaaDoorRead
namespace Go.Proofs.YtafgincpoahefaaDoor
open Go.RowKit

theorem num_Add_at (a b x y : Int) (h : addOf a b = (x, y)) (w : World) : Calls Tryd.prog 42 #[.int .i64 a, .int .i64 b] w fun e w' => e = .returned (.tuple #[.int .i64 x, .int .i64 y]) ∧ w = w' := by
  have := num_Add a b w; rw [h] at this; exact this
theorem num_Sub_at (a b x y : Int) (h : subOf a b = (x, y)) (w : World) : Calls Tryd.prog 43 #[.int .i64 a, .int .i64 b] w fun e w' => e = .returned (.tuple #[.int .i64 x, .int .i64 y]) ∧ w = w' := by
  have := num_Sub a b w; rw [h] at this; exact this
theorem num_Sum_at (l : List Int) (n : Nat) (hn : l.length = n) (x y : Int) (h : sumFrom 0 l = (x, y)) (a : Option Addr) (c : Nat) (w : World) (hl : IntsAt w .i64 a l) :
    Calls Tryd.prog 48 #[.slice a n c] w fun e w' => e = .returned (.tuple #[.int .i64 x, .int .i64 y]) ∧ w = w' := by
  subst hn; have := num_Sum l a c w hl; rw [h] at this; exact this
theorem num_Read_at (s : ByteArray) (hs : s.size ≤ 140737488351232) (x y : Int) (h : readOf s.data.toList = (x, y)) (w : World) (hG : G w) :
    Calls Tryd.prog 44 #[.string s] w fun e w' => e = .returned (.tuple #[.int .i64 x, .int .i64 y]) ∧ Below w.heap.size w w' := by
  have := num_Read s hs w hG; rw [h] at this; exact this
theorem num_Text_at (n : Int) (h0 : -9223372036854775808 ≤ n) (h1 : n ≤ 9223372036854775807) (l : Array UInt8) (h : Lib.itoa n = l.toList) (w : World) (hG : G w) :
    Calls Tryd.prog 45 #[.int .i64 n] w fun e w' => e = .returned (.string ⟨l⟩) ∧ Below w.heap.size w w' := by
  have := num_Text n h0 h1 w hG; rw [h] at this; exact this

theorem num_Take_at (l : List Int) (n : Nat) (hn : l.length = n) (x : Int) (h : bytesNum 0 (l.drop (n - 7)) = x) (a : Option Addr) (c : Nat) (hcap : n ≤ c) (w : World) (hl : IntsAt w .u8 a l) (hb : ∀ x ∈ l, 0 ≤ x ∧ x < 256) :
    Calls Tryd.prog 47 #[.slice a n c] w fun e w' => e = .returned (.int .i64 x) ∧ w = w' := by
  subst hn; have := num_Take l a c hcap w hl hb; rw [h] at this; exact this

/-- a new slice of three written numbers -/
theorem ints3 (w : World) (x y z : Int) (t : TypeId) : IntsAt (w.alloc (.cells #[.int .i64 x, .int .i64 y, .int .i64 z] t)) .i64 (some ⟨w.heap.size, 0, none⟩) [x, y, z] := by
  refine ⟨by simp, .inr ⟨_, _, rfl, fun i hi => ?_⟩⟩
  have hb := World.alloc_heap_new w (.cells #[.int .i64 x, .int .i64 y, .int .i64 z] t)
  simp only [List.length_cons, List.length_nil] at hi
  have : i = 0 ∨ i = 1 ∨ i = 2 := by omega
  rcases this with rfl | rfl | rfl <;> (rw [Joins.cell_of_block hb]; rfl)

/-- what a slice of the call's own holds, as a slice that reads so -/
theorem ints_of_row {w : World} {n₀ k : Nat} {E : TypeId} {v : Value} {kd : IntKind} {l : List Int} (h : w.ownsRow n₀ E 1 v k (l.map (Value.int kd))) (hk : k ≤ 140737488351232) :
    ∃ a cap, v = .slice a l.length cap ∧ l.length ≤ cap ∧ IntsAt w kd a l := by
  have hl : l.length = k := by have := h.1; simpa using this
  rcases h.2 with ⟨rfl, rfl⟩ | ⟨g, cap, cur, rfl, _, hg, hc, _⟩
  · obtain rfl : l = [] := by simpa using hl
    exact ⟨none, 0, rfl, Nat.le_refl _, by simp, .inl rfl⟩
  · refine ⟨some ⟨g, 0, none⟩, cap, by rw [hl], by omega, by omega, ?_⟩
    rcases Nat.eq_zero_or_pos l.length with h0 | h0
    · exact .inl (List.eq_nil_of_length_eq_zero h0)
    · refine .inr ⟨g, 0, rfl, fun i hi => ?_⟩
      rw [Nat.zero_add, h.cellAt i (by omega)]
      simp [hi]

set_option maxRecDepth 100000 in
set_option maxHeartbeats 1000000 in
theorem wakes01 (w : World) (hG : G w) : Calls Tryd.prog 41 #[] w fun e w' => e = .returned (.bool true) ∧ Below w.heap.size w w' := by
  go_enter Tryd.func41, Tryd.ntmps41
  go_wp2_with fail
  refine (num_Add_at _ _ 0 12 (by kernel_rfl) _).mono ?_
  rintro e w1 ⟨rfl, rfl⟩
  go_wp2_with fail
  refine (num_Add_at _ _ 9223372036854775806 0 (by kernel_rfl) _).mono ?_
  rintro e w1 ⟨rfl, rfl⟩
  go_wp2_with fail
  refine (num_Sub_at _ _ (-8) 0 (by kernel_rfl) _).mono ?_
  rintro e w1 ⟨rfl, rfl⟩
  go_wp2_with fail
  refine (num_Sub_at _ _ 0 12 (by kernel_rfl) _).mono ?_
  rintro e w1 ⟨rfl, rfl⟩
  go_wp2_with fail
  refine (num_Sum_at [4611686018427387904, 4611686018427387903, -7] 3 rfl 9223372036854775800 0 (by kernel_rfl) _ _ _ (ints3 _ _ _ _ _)).mono ?_
  rintro e w1 ⟨rfl, rfl⟩
  go_wp2_with fail
  refine (num_Sum_at [4611686018427387904, 4611686018427387904, -7] 3 rfl 0 12 (by kernel_rfl) _ _ _ (by simpa using ints3 (w.alloc _) _ _ _ _)).mono ?_
  rintro e w1 ⟨rfl, rfl⟩
  have hb0 : Below w.heap.size w ((w.alloc (.cells #[.int .i64 4611686018427387904, .int .i64 4611686018427387903, .int .i64 (-7)] 3)).alloc (.cells #[.int .i64 4611686018427387904, .int .i64 4611686018427387904, .int .i64 (-7)] 3)) :=
    ((Below.refl _ _).alloc (Nat.le_refl _) _).alloc (by simp) _
  generalize ((w.alloc (.cells #[.int .i64 4611686018427387904, .int .i64 4611686018427387903, .int .i64 (-7)] 3)).alloc (.cells #[.int .i64 4611686018427387904, .int .i64 4611686018427387904, .int .i64 (-7)] 3)) = W0 at hb0 ⊢
  go_wp2_with fail
  refine (num_Read_at _ (by decide) (-40) 0 (by kernel_rfl) _ (hG.mono hb0)).mono ?_
  rintro e W1 ⟨rfl, hx⟩
  have hb1 := hb0.trans (hx.mono hb0.size); clear hx hb0
  go_wp2_with fail
  refine (num_Read_at _ (by decide) (0) 11 (by kernel_rfl) _ (hG.mono hb1)).mono ?_
  rintro e W2 ⟨rfl, hx⟩
  have hb2 := hb1.trans (hx.mono hb1.size); clear hx hb1
  go_wp2_with fail
  refine (num_Read_at _ (by decide) (0) 11 (by kernel_rfl) _ (hG.mono hb2)).mono ?_
  rintro e W3 ⟨rfl, hx⟩
  have hb3 := hb2.trans (hx.mono hb2.size); clear hx hb2
  go_wp2_with fail
  refine (num_Read_at _ (by decide) (0) 11 (by kernel_rfl) _ (hG.mono hb3)).mono ?_
  rintro e W4 ⟨rfl, hx⟩
  have hb4 := hb3.trans (hx.mono hb3.size); clear hx hb3
  go_wp2_with fail
  refine (num_Read_at _ (by decide) (0) 12 (by kernel_rfl) _ (hG.mono hb4)).mono ?_
  rintro e W5 ⟨rfl, hx⟩
  have hb5 := hb4.trans (hx.mono hb4.size); clear hx hb4
  go_wp2_with fail
  refine (num_Read_at _ (by decide) (-9223372036854775808) 0 (by kernel_rfl) _ (hG.mono hb5)).mono ?_
  rintro e W6 ⟨rfl, hx⟩
  have hb6 := hb5.trans (hx.mono hb5.size); clear hx hb5
  go_wp2_with fail
  refine (num_Put 258 3 (by decide) (by decide) _).mono ?_
  rintro e W7 ⟨v, rfl, hrow, hx⟩
  have hb7 := hb6.trans (hx.mono hb6.size); clear hx hb6
  rw [show putOf 258 3 = [0, 1, 2] from by kernel_rfl, show putN 3 = 3 from by kernel_rfl] at hrow
  obtain ⟨a, cap, rfl, hcap, hints⟩ := ints_of_row hrow (by decide)
  clear hrow
  go_wp2_with fail
  refine (num_Text_at (-40) (by decide) (by decide) #[45, 52, 48] (by kernel_rfl) _ (hG.mono hb7)).mono ?_
  rintro e W8 ⟨rfl, hx⟩
  have hb8 := hb7.trans (hx.mono hb7.size)
  have hints8 := hints.mono hx; clear hx hb7 hints
  go_wp2_with fail
  refine (num_Text_at (-9223372036854775808) (by decide) (by decide) #[45, 57, 50, 50, 51, 51, 55, 50, 48, 51, 54, 56, 53, 52, 55, 55, 53, 56, 48, 56] (by kernel_rfl) _ (hG.mono hb8)).mono ?_
  rintro e W9 ⟨rfl, hx⟩
  have hb9 := hb8.trans (hx.mono hb8.size)
  have hints9 := hints8.mono hx; clear hx hb8 hints8
  obtain ⟨b, off, rfl, hc⟩ : ∃ b off, a = some ⟨b, off, none⟩ ∧ ∀ i, i < 3 → W9.cell? ⟨b, off + i, none⟩ = some (.int .u8 ([0, 1, 2].getD i 0)) := by
    rcases hints9.2 with h | h
    · cases h
    · exact h
  have hconv := run_convert_bytes_arg (P := Tryd.prog) (w := W9) 57 5 Tryd.underlying57 Tryd.underlying5 b off 3 cap [0, 1, 2] rfl hc 9 Tryd.underlying9
  rw [show strOfNums [0, 1, 2] = ⟨#[0, 1, 2]⟩ from by kernel_rfl] at hconv
  clear hc
  have HI := Lib.hid hints9; clear hints9
  go_wp2_with fail
  refine (num_Take_at [0, 1, 2] 3 rfl 258 (by kernel_rfl) _ cap hcap _ HI.out (by decide)).mono ?_
  rintro e w1 ⟨rfl, rfl⟩
  go_wp2_with fail
  go_ret
  exact ⟨rfl, hb9⟩
end Go.Proofs.YtafgincpoahefaaDoor
