/-
  stragglelaw07.wakes: true.
-/
import Derived.Test.YtafgincpoahefaaDoorTok
import Derived.Test.YtafgincpoahefaaDoorLex6
namespace Go.Proofs.YtafgincpoahefaaDoor
open Go.RowKit

theorem lex_All_at (s : ByteArray) (hs : s.size ≤ 140737488351232) (ts : List Tok) (p c : Int) (n : Nat) (hn : ts.length = n) (h : allOf s.data.toList = (ts, p, c)) (w : World) (hG : GL w) :
    Calls Tryd.prog 50 #[.string s] w fun e w' => ∃ a cap, e = .returned (.tuple #[.slice a n cap, .int .i64 p, .int .i64 c]) ∧ n ≤ cap ∧ ToksAt w' a ts ∧ Below w.heap.size w w' := by
  refine (lex_All s hs w hG).mono ?_
  rintro e w' hp
  unfold AllPost at hp
  rw [h] at hp
  obtain ⟨v, rfl, hr, hb⟩ := hp
  obtain ⟨a, cap, rfl, hc, ht⟩ := toks_of_row hr rfl
  subst hn
  exact ⟨a, cap, rfl, hc, ht, hb⟩
theorem ref_Tokens_at (a b : Option Addr) (c d n : Nat) (s t : List Tok) (hs1 : s.length = n) (ht1 : t.length = n) (r : Bool) (hr : decide (s = t) = r) (hn : n ≤ 140737488351232) (w : World) (hs : ToksAt w a s) (ht : ToksAt w b t) :
    Calls Tryd.prog 51 #[.slice a n c, .slice b n d] w fun e w' => e = .returned (.bool r) ∧ Below w.heap.size w w' := by
  subst hr
  have := ref_Tokens a b c d s t w hs ht (by omega) (by omega)
  rw [hs1, ht1] at this
  exact this.mono fun _ _ ⟨h1, k, h2⟩ => ⟨h1, h2 ▸ below_drewN _ _ _⟩
theorem lex_Text_at (k n : Int) (l : Array UInt8) (h : textOf k n = l.toList) (x : Value) (w : World) (hG : GL w) : Calls Tryd.prog 52 #[.agg #[.int .u8 k, .int .i64 n, x]] w fun e w' => e = .returned (.string ⟨l⟩) ∧ Below w.heap.size w w' := by
  have := lex_Text k n x w hG
  unfold TextPost at this
  rw [h] at this
  exact this

/-- a new slice of written tokens -/
theorem toks_new (w : World) (ts : List Tok) (t : TypeId) (cs : Array Value) (hcs : cs = (tokCells ts).toArray) : ToksAt (w.alloc (.cells cs t)) (some ⟨w.heap.size, 0, none⟩) ts := by
  subst hcs
  have hb := World.alloc_heap_new w (.cells (tokCells ts).toArray t)
  refine .inr ⟨w.heap.size, 0, rfl, fun i hi => ?_⟩
  obtain ⟨e1, e2, e3⟩ := tokCells_get ts i hi
  refine ⟨?_, ?_, ?_⟩ <;> rw [Nat.zero_add, Joins.cell_of_block hb] <;> simpa

theorem made_zero (n i : Nat) (h : i < n) : (madeCells #[Value.int .u8 0] (n * 1)).toList[i]? = some (.int .u8 0) := by
  rw [Nat.mul_one, toList_madeCells_one]
  simp [h]
/-- a new slice of so many bytes, all 0 -/
theorem make_bytes (W : World) (n : Nat) (h : n ≤ 100000) : ∃ W', (Instr.makeSlice 57 (.int .i64 n) (.int .i64 n)).run Tryd.prog W = .ok (.slice (some ⟨W.heap.size, 0, none⟩) n n) W' ∧
    (∀ i, i < n → W'.cell? ⟨W.heap.size, 0 + i, none⟩ = some (.int .u8 ((List.replicate n 0).getD i 0))) ∧ Below W.heap.size W W' := by
  obtain ⟨i0, hi, hz0, hz1, hz2⟩ := info_parts (by kernel_rfl : (Tryd.prog.info? 5).map (fun i => (i.zero, i.size, i.bytes)) = some (some (.int .u8 0), 1, 1))
  obtain ⟨W', h1, h2, h3⟩ := run_makeSlice_full (P := Tryd.prog) (w := W) W.heap.size 57 5 i0 (.int .u8 0) 1 Tryd.underlying57 hi hz0 hz1 .i64 .i64 n (by omega) (by rw [hz2]; omega) (by unfold maxLen; omega) (Nat.le_refl _)
  refine ⟨W', h1, fun i hin => ?_, (Below.refl _ _).grown h3 (Nat.le_refl _) (fun k e => by cases e)⟩
  rw [Nat.zero_add, h2.cellAt i (by omega), show (Value.int .u8 0).cells = #[Value.int .u8 0] from rfl, made_zero n i hin]
  simp [hin]
theorem strOfNums_size (l : List Int) : (strOfNums l).size = l.length := by
  simp [strOfNums, ByteArray.size]

set_option maxRecDepth 100000 in
set_option maxHeartbeats 1000000 in
theorem wakes07 (w : World) (hG : GL w) : Calls Tryd.prog 49 #[] w fun e w' => e = .returned (.bool true) ∧ Below w.heap.size w w' := by
  go_enter Tryd.func49, Tryd.ntmps49
  go_wp2_with fail
  refine (lex_All_at _ (by decide) [⟨1, 0, 0⟩, ⟨2, 0, 1⟩, ⟨3, 0, 3⟩, ⟨1, 50, 10⟩, ⟨0, 0, 12⟩] 0 0 5 rfl (by kernel_rfl) _ hG).mono ?_
  rintro e w1 ⟨a1, c1, rfl, hc1, ht1, hx⟩
  have hb1 := hx; clear hx
  go_wp2_with fail
  refine (lex_All_at _ (by decide) [] 3 70 0 rfl (by kernel_rfl) _ (hG.mono hb1)).mono ?_
  rintro e w2 ⟨a2, c2, rfl, hc2, ht2, hx⟩
  have hb2 := hb1.trans (hx.mono hb1.size)
  replace ht1 := ht1.mono hx (Nat.le_refl _); clear hx hb1
  go_wp2_with fail
  refine (lex_All_at _ (by decide) [⟨5, 33, 0⟩, ⟨4, 4, 1⟩, ⟨4, 2, 3⟩, ⟨0, 0, 5⟩] 0 0 4 rfl (by kernel_rfl) _ (hG.mono hb2)).mono ?_
  rintro e w3 ⟨a3, c3, rfl, hc3, ht3, hx⟩
  have hb3 := hb2.trans (hx.mono hb2.size)
  replace ht1 := ht1.mono hx (Nat.le_refl _); clear hx hb2
  obtain ⟨w4, hmk0, hz, hx⟩ := make_bytes w3 2001 (by omega)
  have hmk : (Instr.makeSlice 57 (.int .i64 2001) (.int .i64 2001)).run Tryd.prog w3 = .ok (.slice (some ⟨w3.heap.size, 0, none⟩) 2001 2001) w4 := hmk0
  clear hmk0
  have hb4 := hb3.trans (hx.mono hb3.size)
  replace ht1 := ht1.mono hx (Nat.le_refl _)
  replace ht3 := ht3.mono hx (Nat.le_refl _)
  have hconv := run_convert_bytes_arg (P := Tryd.prog) (w := w4) 57 5 Tryd.underlying57 Tryd.underlying5 w3.heap.size 0 2001 2001 (List.replicate 2001 0) (by simp) hz 9 Tryd.underlying9
  have hsz : (strOfNums (List.replicate 2001 0)).size = 2001 := by rw [strOfNums_size]; simp
  generalize strOfNums (List.replicate 2001 0) = L at *
  have hL := lex_All_at L (by omega) [] 2000 91 0 rfl (by unfold allOf; rw [if_pos (by simp; omega)]) w4 (hG.mono hb4)
  have HL := Lib.hid hL; clear hL hsz hz hx hb3
  go_wp2_with fail
  refine HL.out.mono ?_
  rintro e w5 ⟨a5, c5, rfl, hc5, ht5, hx⟩
  have hb5 := hb4.trans (hx.mono hb4.size)
  replace ht1 := ht1.mono hx (Nat.le_refl _)
  replace ht3 := ht3.mono hx (Nat.le_refl _)
  clear hx HL hconv hmk ht2 ht5
  have g1 : ToksAt (w5.alloc (.cells #[.int .u8 1, .int .i64 0, .int .i64 0, .int .u8 2, .int .i64 0, .int .i64 1, .int .u8 3, .int .i64 0, .int .i64 3, .int .u8 1, .int .i64 50, .int .i64 10, .int .u8 0, .int .i64 0, .int .i64 12] 51)) (some ⟨w5.heap.size, 0, none⟩) [⟨1, 0, 0⟩, ⟨2, 0, 1⟩, ⟨3, 0, 3⟩, ⟨1, 50, 10⟩, ⟨0, 0, 12⟩] := toks_new w5 [⟨1, 0, 0⟩, ⟨2, 0, 1⟩, ⟨3, 0, 3⟩, ⟨1, 50, 10⟩, ⟨0, 0, 12⟩] 51 _ rfl
  have k1 : Holds (w5.alloc (.cells #[.int .u8 1, .int .i64 0, .int .i64 0, .int .u8 2, .int .i64 0, .int .i64 1, .int .u8 3, .int .i64 0, .int .i64 3, .int .u8 1, .int .i64 50, .int .i64 10, .int .u8 0, .int .i64 0, .int .i64 12] 51)) w5.heap.size 51 (tokCells [⟨1, 0, 0⟩, ⟨2, 0, 1⟩, ⟨3, 0, 3⟩, ⟨1, 50, 10⟩, ⟨0, 0, 12⟩]).toArray := Holds.fresh w5 51 (tokCells [⟨1, 0, 0⟩, ⟨2, 0, 1⟩, ⟨3, 0, 3⟩, ⟨1, 50, 10⟩, ⟨0, 0, 12⟩]).toArray
  have hX : Below w5.heap.size w5 (w5.alloc (.cells #[.int .u8 1, .int .i64 0, .int .i64 0, .int .u8 2, .int .i64 0, .int .i64 1, .int .u8 3, .int .i64 0, .int .i64 3, .int .u8 1, .int .i64 50, .int .i64 10, .int .u8 0, .int .i64 0, .int .i64 12] 51)) := (Below.refl _ _).alloc (Nat.le_refl _) _
  have hY : Below (w5.alloc (.cells #[.int .u8 1, .int .i64 0, .int .i64 0, .int .u8 2, .int .i64 0, .int .i64 1, .int .u8 3, .int .i64 0, .int .i64 3, .int .u8 1, .int .i64 50, .int .i64 10, .int .u8 0, .int .i64 0, .int .i64 12] 51)).heap.size (w5.alloc (.cells #[.int .u8 1, .int .i64 0, .int .i64 0, .int .u8 2, .int .i64 0, .int .i64 1, .int .u8 3, .int .i64 0, .int .i64 3, .int .u8 1, .int .i64 50, .int .i64 10, .int .u8 0, .int .i64 0, .int .i64 12] 51)) ((w5.alloc (.cells #[.int .u8 1, .int .i64 0, .int .i64 0, .int .u8 2, .int .i64 0, .int .i64 1, .int .u8 3, .int .i64 0, .int .i64 3, .int .u8 1, .int .i64 50, .int .i64 10, .int .u8 0, .int .i64 0, .int .i64 12] 51)).alloc (.cells #[.int .u8 5, .int .i64 33, .int .i64 0, .int .u8 4, .int .i64 4, .int .i64 1, .int .u8 4, .int .i64 2, .int .i64 3, .int .u8 0, .int .i64 0, .int .i64 5] 51)) := (Below.refl _ _).alloc (Nat.le_refl _) _
  have g2 : ToksAt ((w5.alloc (.cells #[.int .u8 1, .int .i64 0, .int .i64 0, .int .u8 2, .int .i64 0, .int .i64 1, .int .u8 3, .int .i64 0, .int .i64 3, .int .u8 1, .int .i64 50, .int .i64 10, .int .u8 0, .int .i64 0, .int .i64 12] 51)).alloc (.cells #[.int .u8 5, .int .i64 33, .int .i64 0, .int .u8 4, .int .i64 4, .int .i64 1, .int .u8 4, .int .i64 2, .int .i64 3, .int .u8 0, .int .i64 0, .int .i64 5] 51)) (some ⟨(w5.alloc (.cells #[.int .u8 1, .int .i64 0, .int .i64 0, .int .u8 2, .int .i64 0, .int .i64 1, .int .u8 3, .int .i64 0, .int .i64 3, .int .u8 1, .int .i64 50, .int .i64 10, .int .u8 0, .int .i64 0, .int .i64 12] 51)).heap.size, 0, none⟩) [⟨5, 33, 0⟩, ⟨4, 4, 1⟩, ⟨4, 2, 3⟩, ⟨0, 0, 5⟩] := toks_new (w5.alloc (.cells #[.int .u8 1, .int .i64 0, .int .i64 0, .int .u8 2, .int .i64 0, .int .i64 1, .int .u8 3, .int .i64 0, .int .i64 3, .int .u8 1, .int .i64 50, .int .i64 10, .int .u8 0, .int .i64 0, .int .i64 12] 51)) [⟨5, 33, 0⟩, ⟨4, 4, 1⟩, ⟨4, 2, 3⟩, ⟨0, 0, 5⟩] 51 _ rfl
  have k2 : Holds ((w5.alloc (.cells #[.int .u8 1, .int .i64 0, .int .i64 0, .int .u8 2, .int .i64 0, .int .i64 1, .int .u8 3, .int .i64 0, .int .i64 3, .int .u8 1, .int .i64 50, .int .i64 10, .int .u8 0, .int .i64 0, .int .i64 12] 51)).alloc (.cells #[.int .u8 5, .int .i64 33, .int .i64 0, .int .u8 4, .int .i64 4, .int .i64 1, .int .u8 4, .int .i64 2, .int .i64 3, .int .u8 0, .int .i64 0, .int .i64 5] 51)) (w5.alloc (.cells #[.int .u8 1, .int .i64 0, .int .i64 0, .int .u8 2, .int .i64 0, .int .i64 1, .int .u8 3, .int .i64 0, .int .i64 3, .int .u8 1, .int .i64 50, .int .i64 10, .int .u8 0, .int .i64 0, .int .i64 12] 51)).heap.size 51 (tokCells [⟨5, 33, 0⟩, ⟨4, 4, 1⟩, ⟨4, 2, 3⟩, ⟨0, 0, 5⟩]).toArray := Holds.fresh (w5.alloc (.cells #[.int .u8 1, .int .i64 0, .int .i64 0, .int .u8 2, .int .i64 0, .int .i64 1, .int .u8 3, .int .i64 0, .int .i64 3, .int .u8 1, .int .i64 50, .int .i64 10, .int .u8 0, .int .i64 0, .int .i64 12] 51)) 51 (tokCells [⟨5, 33, 0⟩, ⟨4, 4, 1⟩, ⟨4, 2, 3⟩, ⟨0, 0, 5⟩]).toArray
  replace g1 := g1.mono hY (Nat.le_refl _)
  replace k1 := k1.later hY
  replace ht1 := (ht1.mono hX (Nat.le_refl _)).mono hY (Nat.le_refl _)
  replace ht3 := (ht3.mono hX (Nat.le_refl _)).mono hY (Nat.le_refl _)
  have hb6 := (hb5.trans (hX.mono hb5.size)).trans (hY.mono (hb5.trans (hX.mono hb5.size)).size)
  have hs : (w5.alloc (.cells #[.int .u8 1, .int .i64 0, .int .i64 0, .int .u8 2, .int .i64 0, .int .i64 1, .int .u8 3, .int .i64 0, .int .i64 3, .int .u8 1, .int .i64 50, .int .i64 10, .int .u8 0, .int .i64 0, .int .i64 12] 51)).heap.size = w5.heap.size + 1 := by simp
  rw [hs] at g2 k2
  clear hX hY hb4 hb5 hs
  have G1 := Lib.hid g1; clear g1
  have G2 := Lib.hid g2; clear g2
  have K1 := Lib.hid k1; clear k1
  have K2 := Lib.hid k2; clear k2
  have H1 := Lib.hid ht1; clear ht1
  have H3 := Lib.hid ht3; clear ht3
  have H6 := Lib.hid hb6; clear hb6
  go_wp2_with fail
  generalize (w5.alloc (.cells #[.int .u8 1, .int .i64 0, .int .i64 0, .int .u8 2, .int .i64 0, .int .i64 1, .int .u8 3, .int .i64 0, .int .i64 3, .int .u8 1, .int .i64 50, .int .i64 10, .int .u8 0, .int .i64 0, .int .i64 12] 51)).alloc (.cells #[.int .u8 5, .int .i64 33, .int .i64 0, .int .u8 4, .int .i64 4, .int .i64 1, .int .u8 4, .int .i64 2, .int .i64 3, .int .u8 0, .int .i64 0, .int .i64 5] 51) = W6 at H1 H3 G1 G2 K1 K2 H6 ⊢
  refine (ref_Tokens_at a1 _ c1 _ 5 _ _ rfl rfl true (by decide) (by omega) _ H1.out G1.out).mono ?_
  rintro e w7 ⟨rfl, hx⟩
  have hb7 := H6.out.trans (hx.mono H6.out.size)
  have k1 := K1.out.later hx
  have k2 := K2.out.later hx
  have h3 := H3.out.mono hx (Nat.le_refl _)
  have g2 := G2.out.mono hx (Nat.le_refl _)
  clear hx H1 H3 G1 G2 K1 K2 H6
  go_wp2_with fail
  refine (ref_Tokens_at a3 _ c3 _ 4 _ _ rfl rfl true (by decide) (by omega) _ h3 g2).mono ?_
  rintro e w8 ⟨rfl, hx⟩
  have hb8 := hb7.trans (hx.mono hb7.size)
  replace k1 := k1.later hx
  replace k2 := k2.later hx
  clear hx h3 g2 hb7
  have c0 : w8.cell? ⟨w5.heap.size + 1, 3, none⟩ = some (.int .u8 4) := k2.cell 3
  have c1 : w8.cell? ⟨w5.heap.size + 1, 4, none⟩ = some (.int .i64 4) := k2.cell 4
  have c2 : w8.cell? ⟨w5.heap.size + 1, 5, none⟩ = some (.int .i64 1) := k2.cell 5
  go_wp2_with fail
  refine (lex_Text_at 4 4 #[33, 61] (by kernel_rfl) _ _ (hG.mono hb8)).mono ?_
  rintro e w9 ⟨rfl, hx⟩
  have hb9 := hb8.trans (hx.mono hb8.size)
  replace k1 := k1.later hx
  clear hx hb8 c0 c1 c2 k2
  have c0 : w9.cell? ⟨w5.heap.size, 6, none⟩ = some (.int .u8 3) := k1.cell 6
  have c1 : w9.cell? ⟨w5.heap.size, 7, none⟩ = some (.int .i64 0) := k1.cell 7
  have c2 : w9.cell? ⟨w5.heap.size, 8, none⟩ = some (.int .i64 3) := k1.cell 8
  go_wp2_with fail
  refine (lex_Text_at 3 0 #[119, 105, 116, 104, 105, 110] (by kernel_rfl) _ _ (hG.mono hb9)).mono ?_
  rintro e w10 ⟨rfl, hx⟩
  have hb10 := hb9.trans (hx.mono hb9.size)
  clear hx hb9 c0 c1 c2 k1
  go_wp2_with fail
  refine (lex_Text_at 9 0 #[] (by kernel_rfl) _ _ (hG.mono hb10)).mono ?_
  rintro e w11 ⟨rfl, hx⟩
  have hb11 := hb10.trans (hx.mono hb10.size)
  clear hx hb10
  go_wp2_with fail
  go_ret
  exact ⟨rfl, hb11⟩
end Go.Proofs.YtafgincpoahefaaDoor
