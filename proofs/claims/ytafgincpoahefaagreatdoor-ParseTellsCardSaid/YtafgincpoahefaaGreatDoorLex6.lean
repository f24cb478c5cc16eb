/-
  lex: Text.
  stragglelaw07.wakes: true.
-/
import Derived.Test.YtafgincpoahefaaGreatDoorLex3
import Derived.Test.YtafgincpoahefaaGreatDoorLexP
import Derived.Test.YtafgincpoahefaaGreatDoorLex5
namespace Go.Proofs.YtafgincpoahefaaGreatDoor
open Go.RowKit

def TextPost (k n : Int) (w : World) (e : Ending) (w' : World) : Prop := e = .returned (.string ⟨(textOf k n).toArray⟩) ∧ Below w.heap.size w w'
theorem textPost_of {k n : Int} {w w' : World} {l : List UInt8} {b : ByteArray} (h : textOf k n = l) (hb : b = ⟨l.toArray⟩) (hB : Below w.heap.size w w') : TextPost k n w (.returned (.string b)) w' := by
  unfold TextPost; rw [h, hb]; exact ⟨rfl, hB⟩
theorem text_none {k n : Int} (h1 : ¬ (k = 1 ∧ 0 ≤ n ∧ n ≤ 1099511627776)) (h2 : ¬ (k = 2 ∧ 0 ≤ n ∧ n < 26)) (h3 : ¬ (k = 3 ∧ n = 0)) (h4 : ¬ (k = 4 ∧ 0 < n ∧ n < 7)) (h5 : ¬ (k = 5 ∧ 0 < n ∧ n < 128 ∧ signB (UInt8.ofNat n.toNat) = true)) : textOf k n = [] := by
  unfold textOf; rw [if_neg h1, if_neg h2, if_neg h3, if_neg h4, if_neg h5]

theorem encode_ascii (n : Int) (h0 : 0 ≤ n) (h1 : n < 128) : Utf8.encode n = ⟨#[UInt8.ofNat n.toNat]⟩ := by
  obtain ⟨k, rfl⟩ := Int.eq_ofNat_of_zero_le h0
  have hv : Utf8.valid (k : Int) = true := by simp [Utf8.valid]; omega
  have hk : k < 0x80 := by omega
  unfold Utf8.encode
  simp only [hv, if_true, Int.toNat_natCast, hk]
theorem sign_index (n : Int) (w : World) : Calls Tryz.prog 47 #[.string ⟨#[33, 123, 125, 91, 93, 40, 41, 44, 59, 38, 43, 45]⟩, .int .u8 n] w fun e w' => e = .returned (.int .i64 (Lib.indexByte [33, 123, 125, 91, 93, 40, 41, 44, 59, 38, 43, 45] (UInt8.ofNat n.toNat))) ∧ w = w' := by
  have := Tryz.strings_IndexByte ⟨#[33, 123, 125, 91, 93, 40, 41, 44, 59, 38, 43, 45]⟩ n w
  exact this.mono fun _ _ h => ⟨h.1, h.2.symm⟩
end Go.Proofs.YtafgincpoahefaaGreatDoor

namespace Go.Proofs.YtafgincpoahefaaGreatDoor
open Go.RowKit

theorem lex_All_at (s : ByteArray) (hs : s.size ≤ 140737488351232) (ts : List Tok) (p c : Int) (n : Nat) (hn : ts.length = n) (h : allOf s.data.toList = (ts, p, c)) (w : World) (hG : GL w) :
    Calls Tryz.prog 10 #[.string s] w fun e w' => ∃ a cap, e = .returned (.tuple #[.slice a n cap, .int .i64 p, .int .i64 c]) ∧ n ≤ cap ∧ ToksAt w' a ts ∧ Below w.heap.size w w' := by
  refine (lex_All s hs w hG).mono ?_
  rintro e w' hp
  unfold AllPost at hp
  rw [h] at hp
  obtain ⟨v, rfl, hr, hb⟩ := hp
  obtain ⟨a, cap, rfl, hc, ht⟩ := toks_of_row hr rfl
  subst hn
  exact ⟨a, cap, rfl, hc, ht, hb⟩
/-- a new slice of written tokens -/
theorem toks_new (w : World) (ts : List Tok) (t : TypeId) (cs : Array Value) (hcs : cs = (tokCells ts).toArray) : ToksAt (w.alloc (.cells cs t)) (some ⟨w.heap.size, 0, none⟩) ts := by
  subst hcs
  have hb := World.alloc_heap_new w (.cells (tokCells ts).toArray t)
  refine .inr ⟨w.heap.size, 0, rfl, fun i hi => ?_⟩
  obtain ⟨e1, e2, e3⟩ := tokCells_get ts i hi
  refine ⟨?_, ?_, ?_⟩ <;> rw [Nat.zero_add, Joins.cell_of_block hb] <;> simpa

theorem made_zero (n i : Nat) (h : i < n) : (madeCells #[Value.int .u8 0] (n * 1)).toList[i]? = some (.int .u8 0) := by
  rw [Nat.mul_one, toList_madeCells_one]
  simp [h]
/-- a new slice of so many bytes, all 0 -/
theorem make_bytes (W : World) (n : Nat) (h : n ≤ 100000) : ∃ W', (Instr.makeSlice 131 (.int .i64 n) (.int .i64 n)).run Tryz.prog W = .ok (.slice (some ⟨W.heap.size, 0, none⟩) n n) W' ∧
    (∀ i, i < n → W'.cell? ⟨W.heap.size, 0 + i, none⟩ = some (.int .u8 ((List.replicate n 0).getD i 0))) ∧ Below W.heap.size W W' := by
  obtain ⟨i0, hi, hz0, hz1, hz2⟩ := info_parts (by kernel_rfl : (Tryz.prog.info? 5).map (fun i => (i.zero, i.size, i.bytes)) = some (some (.int .u8 0), 1, 1))
  obtain ⟨W', h1, h2, h3⟩ := run_makeSlice_full (P := Tryz.prog) (w := W) W.heap.size 131 5 i0 (.int .u8 0) 1 Tryz.underlying131 hi hz0 hz1 .i64 .i64 n (by omega) (by rw [hz2]; omega) (by unfold maxLen; omega) (Nat.le_refl _)
  refine ⟨W', h1, fun i hin => ?_, (Below.refl _ _).grown h3 (Nat.le_refl _) (fun k e => by cases e)⟩
  rw [Nat.zero_add, h2.cellAt i (by omega), show (Value.int .u8 0).cells = #[Value.int .u8 0] from rfl, made_zero n i hin]
  simp [hin]
theorem strOfNums_size (l : List Int) : (strOfNums l).size = l.length := by
  simp [strOfNums, ByteArray.size]

end Go.Proofs.YtafgincpoahefaaGreatDoor
