/-
  lex: Text.
  stragglelaw07.wakes: true.
-/
import Derived.Test.YtafgincpoahefaaDoorLex3
import Derived.Test.YtafgincpoahefaaDoorLexP
import Derived.Test.YtafgincpoahefaaDoorLex5
namespace Go.Proofs.YtafgincpoahefaaDoor
open Go.RowKit

def TextPost (k n : Int) (w : World) (e : Ending) (w' : World) : Prop := e = .returned (.string ⟨(textOf k n).toArray⟩) ∧ Below w.heap.size w w'
theorem textPost_of {k n : Int} {w w' : World} {l : List UInt8} {b : ByteArray} (h : textOf k n = l) (hb : b = ⟨l.toArray⟩) (hB : Below w.heap.size w w') : TextPost k n w (.returned (.string b)) w' := by
  unfold TextPost; rw [h, hb]; exact ⟨rfl, hB⟩
theorem text_none {k n : Int} (h1 : ¬ (k = 1 ∧ 0 ≤ n ∧ n ≤ 1099511627776)) (h2 : ¬ (k = 2 ∧ 0 ≤ n ∧ n < 26)) (h3 : ¬ (k = 3 ∧ n = 0)) (h4 : ¬ (k = 4 ∧ 0 < n ∧ n < 7)) (h5 : ¬ (k = 5 ∧ 0 < n ∧ n < 128 ∧ signB (UInt8.ofNat n.toNat) = true)) : textOf k n = [] := by
  unfold textOf; rw [if_neg h1, if_neg h2, if_neg h3, if_neg h4, if_neg h5]

theorem encode_ascii (n : Int) (h0 : 0 ≤ n) (h1 : n < 128) : Utf8.encode n = ⟨#[UInt8.ofNat n.toNat]⟩ := by
  obtain ⟨k, rfl⟩ := Int.eq_ofNat_of_zero_le h0
  have hv : Utf8.valid (k : Int) = true := by simp [Utf8.valid]; omega
  have hk : k < 0x80 := by omega
  unfold Utf8.encode
  simp only [hv, if_true, Int.toNat_natCast, hk]
set_option maxHeartbeats 1000000 in
theorem lex_Text_number (n : Int) (x : Value) (w : World) (hG : G w) (h0 : 0 ≤ n) (h1 : n ≤ 1099511627776) : Calls Tryd.prog 52 #[.agg #[.int .u8 1, .int .i64 n, x]] w (TextPost 1 n w) := by
  have c1 := fun w => num_Text n (by omega) (by omega) w
  have C1 := Lib.hid c1; clear c1
  have ht : textOf 1 n = Lib.itoa n := by unfold textOf; rw [if_pos ⟨rfl, h0, h1⟩]
  have HT := Lib.hid ht; clear ht
  go_enter Tryd.func52, Tryd.ntmps52
  go_wp2_with fail
  refine (C1.out _ (hG.alloc _)).mono ?_
  rintro e w1 ⟨rfl, hb⟩
  go_wp2_with fail
  go_ret
  exact textPost_of HT.out rfl (((Below.refl _ _).alloc (Nat.le_refl _) _).trans (hb.mono (by simp)))
set_option maxRecDepth 100000 in
set_option maxHeartbeats 1000000 in
theorem lex_Text_letter (n : Int) (h0 : 0 ≤ n) (h1 : n < 26) (x : Value) (w : World) : Calls Tryd.prog 52 #[.agg #[.int .u8 2, .int .i64 n, x]] w (TextPost 2 n w) := by
  have ht : textOf 2 n = [UInt8.ofNat (97 + n).toNat] := by unfold textOf; rw [if_neg (by omega), if_pos ⟨rfl, h0, h1⟩, show 97 + n.toNat = (97 + n).toNat from by omega]
  have HT := Lib.hid ht; clear ht
  go_enter Tryd.func52, Tryd.ntmps52
  go_wp2_with fail
  go_ret
  exact textPost_of HT.out (encode_ascii _ (by omega) (by omega)) ((Below.refl _ _).alloc (Nat.le_refl _) _)
set_option maxRecDepth 100000 in
set_option maxHeartbeats 1000000 in
theorem lex_Text_within (n : Int) (h0 : n = 0) (x : Value) (w : World) : Calls Tryd.prog 52 #[.agg #[.int .u8 3, .int .i64 n, x]] w (TextPost 3 n w) := by
  have ht : textOf 3 n = within := by subst h0; rfl
  have HT := Lib.hid ht; clear ht
  subst h0
  go_enter Tryd.func52, Tryd.ntmps52
  go_wp2_with fail
  go_ret
  exact textPost_of HT.out rfl ((Below.refl _ _).alloc (Nat.le_refl _) _)
set_option maxRecDepth 100000 in
set_option maxHeartbeats 1000000 in
theorem lex_Text_op (n : Nat) (h0 : 0 < n) (h1 : n < 7) (x : Value) (w : World) (hG : GL w) : Calls Tryd.prog 52 #[.agg #[.int .u8 4, .int .i64 n, x]] w (TextPost 4 n w) := by
  have ht : textOf 4 n = opText n := by unfold textOf; rw [if_neg (by omega), if_neg (by omega), if_neg (by omega), if_pos ⟨rfl, by omega, by omega⟩]; rfl
  have HT := Lib.hid ht; clear ht
  have hcell := (hG.alloc (.cells #[.int .u8 4, .int .i64 n, x] 51)).cell n h1
  go_enter Tryd.func52, Tryd.ntmps52
  go_wp2_with fail
  go_ret
  exact textPost_of HT.out rfl ((Below.refl _ _).alloc (Nat.le_refl _) _)
theorem sign_index (n : Int) (w : World) : Calls Tryd.prog 90 #[.string ⟨#[33, 123, 125, 91, 93, 40, 41, 44, 59, 38, 43, 45]⟩, .int .u8 n] w fun e w' => e = .returned (.int .i64 (Lib.indexByte [33, 123, 125, 91, 93, 40, 41, 44, 59, 38, 43, 45] (UInt8.ofNat n.toNat))) ∧ w = w' := by
  have := Tryd.strings_IndexByte ⟨#[33, 123, 125, 91, 93, 40, 41, 44, 59, 38, 43, 45]⟩ n w
  exact this.mono fun _ _ h => ⟨h.1, h.2.symm⟩
set_option maxRecDepth 100000 in
set_option maxHeartbeats 1000000 in
theorem lex_Text_sign (n : Int) (h0 : 0 < n) (h1 : n < 128) (h2 : signB (UInt8.ofNat n.toNat) = true) (x : Value) (w : World) : Calls Tryd.prog 52 #[.agg #[.int .u8 5, .int .i64 n, x]] w (TextPost 5 n w) := by
  have ht : textOf 5 n = [UInt8.ofNat n.toNat] := by unfold textOf; rw [if_neg (by omega), if_neg (by omega), if_neg (by omega), if_neg (by omega), if_pos ⟨rfl, h0, h1, h2⟩]
  have HT := Lib.hid ht; clear ht
  have c1 := fun w => sign_index n w
  have hx := (indexByte_signs (UInt8.ofNat n.toNat)).2 h2
  generalize Lib.indexByte [33, 123, 125, 91, 93, 40, 41, 44, 59, 38, 43, 45] (UInt8.ofNat n.toNat) = y at *
  have C1 := Lib.hid c1; clear c1 h2
  go_enter Tryd.func52, Tryd.ntmps52
  go_wp2_with fail
  refine (C1.out _).mono ?_
  rintro e w1 ⟨rfl, rfl⟩
  go_wp2_with fail
  go_ret
  exact textPost_of HT.out (encode_ascii _ (by omega) (by omega)) ((Below.refl _ _).alloc (Nat.le_refl _) _)
set_option maxRecDepth 100000 in
set_option maxHeartbeats 1000000 in
theorem lex_Text_nosign (n : Int) (h0 : 0 < n) (h1 : n < 128) (h2 : ¬ signB (UInt8.ofNat n.toNat) = true) (x : Value) (w : World) : Calls Tryd.prog 52 #[.agg #[.int .u8 5, .int .i64 n, x]] w (TextPost 5 n w) := by
  have ht : textOf 5 n = [] := text_none (by omega) (by omega) (by omega) (by omega) (fun h => h2 h.2.2.2)
  have HT := Lib.hid ht; clear ht
  have c1 := fun w => sign_index n w
  have hx : ¬ 0 ≤ Lib.indexByte [33, 123, 125, 91, 93, 40, 41, 44, 59, 38, 43, 45] (UInt8.ofNat n.toNat) := fun h => h2 ((indexByte_signs (UInt8.ofNat n.toNat)).1 h)
  generalize Lib.indexByte [33, 123, 125, 91, 93, 40, 41, 44, 59, 38, 43, 45] (UInt8.ofNat n.toNat) = y at *
  have C1 := Lib.hid c1; clear c1 h2
  go_enter Tryd.func52, Tryd.ntmps52
  go_wp2_with fail
  refine (C1.out _).mono ?_
  rintro e w1 ⟨rfl, rfl⟩
  go_wp2_with fail
  go_ret
  exact textPost_of HT.out rfl ((Below.refl _ _).alloc (Nat.le_refl _) _)
set_option maxRecDepth 100000 in
set_option maxHeartbeats 1000000 in
theorem lex_Text_n1a (n : Int) (h0 : n < 0) (x : Value) (w : World) : Calls Tryd.prog 52 #[.agg #[.int .u8 1, .int .i64 n, x]] w (TextPost 1 n w) := by
  have ht : textOf 1 n = [] := text_none (by omega) (by omega) (by omega) (by omega) (by omega)
  have HT := Lib.hid ht; clear ht
  go_enter Tryd.func52, Tryd.ntmps52
  go_wp2_with fail
  go_ret
  exact textPost_of HT.out rfl ((Below.refl _ _).alloc (Nat.le_refl _) _)
set_option maxRecDepth 100000 in
set_option maxHeartbeats 1000000 in
theorem lex_Text_n1b (n : Int) (h0 : 1099511627776 < n) (x : Value) (w : World) : Calls Tryd.prog 52 #[.agg #[.int .u8 1, .int .i64 n, x]] w (TextPost 1 n w) := by
  have ht : textOf 1 n = [] := text_none (by omega) (by omega) (by omega) (by omega) (by omega)
  have HT := Lib.hid ht; clear ht
  go_enter Tryd.func52, Tryd.ntmps52
  go_wp2_with fail
  go_ret
  exact textPost_of HT.out rfl ((Below.refl _ _).alloc (Nat.le_refl _) _)
set_option maxRecDepth 100000 in
set_option maxHeartbeats 1000000 in
theorem lex_Text_n2a (n : Int) (h0 : n < 0) (x : Value) (w : World) : Calls Tryd.prog 52 #[.agg #[.int .u8 2, .int .i64 n, x]] w (TextPost 2 n w) := by
  have ht : textOf 2 n = [] := text_none (by omega) (by omega) (by omega) (by omega) (by omega)
  have HT := Lib.hid ht; clear ht
  go_enter Tryd.func52, Tryd.ntmps52
  go_wp2_with fail
  go_ret
  exact textPost_of HT.out rfl ((Below.refl _ _).alloc (Nat.le_refl _) _)
set_option maxRecDepth 100000 in
set_option maxHeartbeats 1000000 in
theorem lex_Text_n2b (n : Int) (h0 : 26 ≤ n) (x : Value) (w : World) : Calls Tryd.prog 52 #[.agg #[.int .u8 2, .int .i64 n, x]] w (TextPost 2 n w) := by
  have ht : textOf 2 n = [] := text_none (by omega) (by omega) (by omega) (by omega) (by omega)
  have HT := Lib.hid ht; clear ht
  go_enter Tryd.func52, Tryd.ntmps52
  go_wp2_with fail
  go_ret
  exact textPost_of HT.out rfl ((Below.refl _ _).alloc (Nat.le_refl _) _)
set_option maxRecDepth 100000 in
set_option maxHeartbeats 1000000 in
theorem lex_Text_n4a (n : Int) (h0 : n ≤ 0) (x : Value) (w : World) : Calls Tryd.prog 52 #[.agg #[.int .u8 4, .int .i64 n, x]] w (TextPost 4 n w) := by
  have ht : textOf 4 n = [] := text_none (by omega) (by omega) (by omega) (by omega) (by omega)
  have HT := Lib.hid ht; clear ht
  go_enter Tryd.func52, Tryd.ntmps52
  go_wp2_with fail
  go_ret
  exact textPost_of HT.out rfl ((Below.refl _ _).alloc (Nat.le_refl _) _)
set_option maxRecDepth 100000 in
set_option maxHeartbeats 1000000 in
theorem lex_Text_n4b (n : Int) (h0 : 7 ≤ n) (x : Value) (w : World) : Calls Tryd.prog 52 #[.agg #[.int .u8 4, .int .i64 n, x]] w (TextPost 4 n w) := by
  have ht : textOf 4 n = [] := text_none (by omega) (by omega) (by omega) (by omega) (by omega)
  have HT := Lib.hid ht; clear ht
  go_enter Tryd.func52, Tryd.ntmps52
  go_wp2_with fail
  go_ret
  exact textPost_of HT.out rfl ((Below.refl _ _).alloc (Nat.le_refl _) _)
set_option maxRecDepth 100000 in
set_option maxHeartbeats 1000000 in
theorem lex_Text_n5a (n : Int) (h0 : n ≤ 0) (x : Value) (w : World) : Calls Tryd.prog 52 #[.agg #[.int .u8 5, .int .i64 n, x]] w (TextPost 5 n w) := by
  have ht : textOf 5 n = [] := text_none (by omega) (by omega) (by omega) (by omega) (by omega)
  have HT := Lib.hid ht; clear ht
  go_enter Tryd.func52, Tryd.ntmps52
  go_wp2_with fail
  go_ret
  exact textPost_of HT.out rfl ((Below.refl _ _).alloc (Nat.le_refl _) _)
set_option maxRecDepth 100000 in
set_option maxHeartbeats 1000000 in
theorem lex_Text_n5b (n : Int) (h0 : 128 ≤ n) (x : Value) (w : World) : Calls Tryd.prog 52 #[.agg #[.int .u8 5, .int .i64 n, x]] w (TextPost 5 n w) := by
  have ht : textOf 5 n = [] := text_none (by omega) (by omega) (by omega) (by omega) (by omega)
  have HT := Lib.hid ht; clear ht
  go_enter Tryd.func52, Tryd.ntmps52
  go_wp2_with fail
  go_ret
  exact textPost_of HT.out rfl ((Below.refl _ _).alloc (Nat.le_refl _) _)
set_option maxRecDepth 100000 in
set_option maxHeartbeats 1000000 in
theorem lex_Text_n3 (n : Int) (h0 : n ≠ 0) (x : Value) (w : World) : Calls Tryd.prog 52 #[.agg #[.int .u8 3, .int .i64 n, x]] w (TextPost 3 n w) := by
  have ht : textOf 3 n = [] := text_none (by omega) (by omega) (by omega) (by omega) (by omega)
  have HT := Lib.hid ht; clear ht
  have hn : (n == 0) = false := by simpa using h0
  clear h0
  go_enter Tryd.func52, Tryd.ntmps52
  go_wp2_with fail
  go_ret
  exact textPost_of HT.out rfl ((Below.refl _ _).alloc (Nat.le_refl _) _)
set_option maxRecDepth 100000 in
set_option maxHeartbeats 1000000 in
theorem lex_Text_n0 (k n : Int) (h1 : k ≠ 1) (h2 : k ≠ 2) (h3 : k ≠ 3) (h4 : k ≠ 4) (h5 : k ≠ 5) (x : Value) (w : World) : Calls Tryd.prog 52 #[.agg #[.int .u8 k, .int .i64 n, x]] w (TextPost k n w) := by
  have ht : textOf k n = [] := text_none (by omega) (by omega) (by omega) (by omega) (by omega)
  have HT := Lib.hid ht; clear ht
  have g1 : (k == 1) = false := by simpa using h1
  have g2 : (k == 2) = false := by simpa using h2
  have g3 : (k == 3) = false := by simpa using h3
  have g4 : (k == 4) = false := by simpa using h4
  have g5 : (k == 5) = false := by simpa using h5
  clear h1 h2 h3 h4 h5
  go_enter Tryd.func52, Tryd.ntmps52
  go_wp2_with fail
  go_ret
  exact textPost_of HT.out rfl ((Below.refl _ _).alloc (Nat.le_refl _) _)

theorem lex_Text (k n : Int) (x : Value) (w : World) (hG : GL w) : Calls Tryd.prog 52 #[.agg #[.int .u8 k, .int .i64 n, x]] w (TextPost k n w) := by
  by_cases k1 : k = 1
  · subst k1
    by_cases a : n < 0
    · exact lex_Text_n1a n a x w
    by_cases b : 1099511627776 < n
    · exact lex_Text_n1b n b x w
    exact lex_Text_number n x w hG.g (by omega) (by omega)
  by_cases k2 : k = 2
  · subst k2
    by_cases a : n < 0
    · exact lex_Text_n2a n a x w
    by_cases b : 26 ≤ n
    · exact lex_Text_n2b n b x w
    exact lex_Text_letter n (by omega) (by omega) x w
  by_cases k3 : k = 3
  · subst k3
    by_cases a : n = 0
    · exact lex_Text_within n a x w
    exact lex_Text_n3 n a x w
  by_cases k4 : k = 4
  · subst k4
    by_cases a : n ≤ 0
    · exact lex_Text_n4a n a x w
    by_cases b : 7 ≤ n
    · exact lex_Text_n4b n b x w
    obtain ⟨m, rfl⟩ := Int.eq_ofNat_of_zero_le (show 0 ≤ n by omega)
    exact lex_Text_op m (by omega) (by omega) x w hG
  by_cases k5 : k = 5
  · subst k5
    by_cases a : n ≤ 0
    · exact lex_Text_n5a n a x w
    by_cases b : 128 ≤ n
    · exact lex_Text_n5b n b x w
    by_cases c : signB (UInt8.ofNat n.toNat) = true
    · exact lex_Text_sign n (by omega) (by omega) c x w
    · exact lex_Text_nosign n (by omega) (by omega) c x w
  exact lex_Text_n0 k n k1 k2 k3 k4 k5 x w
end Go.Proofs.YtafgincpoahefaaDoor

namespace Go.Proofs.YtafgincpoahefaaDoor
open Go.RowKit

theorem lex_All_at (s : ByteArray) (hs : s.size ≤ 140737488351232) (ts : List Tok) (p c : Int) (n : Nat) (hn : ts.length = n) (h : allOf s.data.toList = (ts, p, c)) (w : World) (hG : GL w) :
    Calls Tryd.prog 50 #[.string s] w fun e w' => ∃ a cap, e = .returned (.tuple #[.slice a n cap, .int .i64 p, .int .i64 c]) ∧ n ≤ cap ∧ ToksAt w' a ts ∧ Below w.heap.size w w' := by
  refine (lex_All s hs w hG).mono ?_
  rintro e w' hp
  unfold AllPost at hp
  rw [h] at hp
  obtain ⟨v, rfl, hr, hb⟩ := hp
  obtain ⟨a, cap, rfl, hc, ht⟩ := toks_of_row hr rfl
  subst hn
  exact ⟨a, cap, rfl, hc, ht, hb⟩
theorem ref_Tokens_at (a b : Option Addr) (c d n : Nat) (s t : List Tok) (hs1 : s.length = n) (ht1 : t.length = n) (r : Bool) (hr : decide (s = t) = r) (hn : n ≤ 140737488351232) (w : World) (hs : ToksAt w a s) (ht : ToksAt w b t) :
    Calls Tryd.prog 51 #[.slice a n c, .slice b n d] w fun e w' => e = .returned (.bool r) ∧ Below w.heap.size w w' := by
  subst hr
  have := ref_Tokens a b c d s t w hs ht (by omega) (by omega)
  rw [hs1, ht1] at this
  exact this.mono fun _ _ ⟨h1, k, h2⟩ => ⟨h1, h2 ▸ below_drewN _ _ _⟩
theorem lex_Text_at (k n : Int) (l : Array UInt8) (h : textOf k n = l.toList) (x : Value) (w : World) (hG : GL w) : Calls Tryd.prog 52 #[.agg #[.int .u8 k, .int .i64 n, x]] w fun e w' => e = .returned (.string ⟨l⟩) ∧ Below w.heap.size w w' := by
  have := lex_Text k n x w hG
  unfold TextPost at this
  rw [h] at this
  exact this

/-- a new slice of written tokens -/
theorem toks_new (w : World) (ts : List Tok) (t : TypeId) (cs : Array Value) (hcs : cs = (tokCells ts).toArray) : ToksAt (w.alloc (.cells cs t)) (some ⟨w.heap.size, 0, none⟩) ts := by
  subst hcs
  have hb := World.alloc_heap_new w (.cells (tokCells ts).toArray t)
  refine .inr ⟨w.heap.size, 0, rfl, fun i hi => ?_⟩
  obtain ⟨e1, e2, e3⟩ := tokCells_get ts i hi
  refine ⟨?_, ?_, ?_⟩ <;> rw [Nat.zero_add, Joins.cell_of_block hb] <;> simpa

theorem made_zero (n i : Nat) (h : i < n) : (madeCells #[Value.int .u8 0] (n * 1)).toList[i]? = some (.int .u8 0) := by
  rw [Nat.mul_one, toList_madeCells_one]
  simp [h]
/-- a new slice of so many bytes, all 0 -/
theorem make_bytes (W : World) (n : Nat) (h : n ≤ 100000) : ∃ W', (Instr.makeSlice 57 (.int .i64 n) (.int .i64 n)).run Tryd.prog W = .ok (.slice (some ⟨W.heap.size, 0, none⟩) n n) W' ∧
    (∀ i, i < n → W'.cell? ⟨W.heap.size, 0 + i, none⟩ = some (.int .u8 ((List.replicate n 0).getD i 0))) ∧ Below W.heap.size W W' := by
  obtain ⟨i0, hi, hz0, hz1, hz2⟩ := info_parts (by kernel_rfl : (Tryd.prog.info? 5).map (fun i => (i.zero, i.size, i.bytes)) = some (some (.int .u8 0), 1, 1))
  obtain ⟨W', h1, h2, h3⟩ := run_makeSlice_full (P := Tryd.prog) (w := W) W.heap.size 57 5 i0 (.int .u8 0) 1 Tryd.underlying57 hi hz0 hz1 .i64 .i64 n (by omega) (by rw [hz2]; omega) (by unfold maxLen; omega) (Nat.le_refl _)
  refine ⟨W', h1, fun i hin => ?_, (Below.refl _ _).grown h3 (Nat.le_refl _) (fun k e => by cases e)⟩
  rw [Nat.zero_add, h2.cellAt i (by omega), show (Value.int .u8 0).cells = #[Value.int .u8 0] from rfl, made_zero n i hin]
  simp [hin]
theorem strOfNums_size (l : List Int) : (strOfNums l).size = l.length := by
  simp [strOfNums, ByteArray.size]

set_option maxRecDepth 100000 in
set_option maxHeartbeats 1000000 in
theorem wakes07 (w : World) (hG : GL w) : Calls Tryd.prog 49 #[] w fun e w' => e = .returned (.bool true) ∧ Below w.heap.size w w' := by
  go_enter Tryd.func49, Tryd.ntmps49
  go_wp2_with fail
  refine (lex_All_at _ (by decide) [⟨1, 0, 0⟩, ⟨2, 0, 1⟩, ⟨3, 0, 3⟩, ⟨1, 50, 10⟩, ⟨0, 0, 12⟩] 0 0 5 rfl (by kernel_rfl) _ hG).mono ?_
  rintro e w1 ⟨a1, c1, rfl, hc1, ht1, hx⟩
  have hb1 := hx; clear hx
  go_wp2_with fail
  refine (lex_All_at _ (by decide) [] 3 70 0 rfl (by kernel_rfl) _ (hG.mono hb1)).mono ?_
  rintro e w2 ⟨a2, c2, rfl, hc2, ht2, hx⟩
  have hb2 := hb1.trans (hx.mono hb1.size)
  replace ht1 := ht1.mono hx (Nat.le_refl _); clear hx hb1
  go_wp2_with fail
  refine (lex_All_at _ (by decide) [⟨5, 33, 0⟩, ⟨4, 4, 1⟩, ⟨4, 2, 3⟩, ⟨0, 0, 5⟩] 0 0 4 rfl (by kernel_rfl) _ (hG.mono hb2)).mono ?_
  rintro e w3 ⟨a3, c3, rfl, hc3, ht3, hx⟩
  have hb3 := hb2.trans (hx.mono hb2.size)
  replace ht1 := ht1.mono hx (Nat.le_refl _); clear hx hb2
  obtain ⟨w4, hmk0, hz, hx⟩ := make_bytes w3 2001 (by omega)
  have hmk : (Instr.makeSlice 57 (.int .i64 2001) (.int .i64 2001)).run Tryd.prog w3 = .ok (.slice (some ⟨w3.heap.size, 0, none⟩) 2001 2001) w4 := hmk0
  clear hmk0
  have hb4 := hb3.trans (hx.mono hb3.size)
  replace ht1 := ht1.mono hx (Nat.le_refl _)
  replace ht3 := ht3.mono hx (Nat.le_refl _)
  have hconv := run_convert_bytes_arg (P := Tryd.prog) (w := w4) 57 5 Tryd.underlying57 Tryd.underlying5 w3.heap.size 0 2001 2001 (List.replicate 2001 0) (by simp) hz 9 Tryd.underlying9
  have hsz : (strOfNums (List.replicate 2001 0)).size = 2001 := by rw [strOfNums_size]; simp
  generalize strOfNums (List.replicate 2001 0) = L at *
  have hL := lex_All_at L (by omega) [] 2000 91 0 rfl (by unfold allOf; rw [if_pos (by simp; omega)]) w4 (hG.mono hb4)
  have HL := Lib.hid hL; clear hL hsz hz hx hb3
  go_wp2_with fail
  refine HL.out.mono ?_
  rintro e w5 ⟨a5, c5, rfl, hc5, ht5, hx⟩
  have hb5 := hb4.trans (hx.mono hb4.size)
  replace ht1 := ht1.mono hx (Nat.le_refl _)
  replace ht3 := ht3.mono hx (Nat.le_refl _)
  clear hx HL hconv hmk ht2 ht5
  have g1 : ToksAt (w5.alloc (.cells #[.int .u8 1, .int .i64 0, .int .i64 0, .int .u8 2, .int .i64 0, .int .i64 1, .int .u8 3, .int .i64 0, .int .i64 3, .int .u8 1, .int .i64 50, .int .i64 10, .int .u8 0, .int .i64 0, .int .i64 12] 51)) (some ⟨w5.heap.size, 0, none⟩) [⟨1, 0, 0⟩, ⟨2, 0, 1⟩, ⟨3, 0, 3⟩, ⟨1, 50, 10⟩, ⟨0, 0, 12⟩] := toks_new w5 [⟨1, 0, 0⟩, ⟨2, 0, 1⟩, ⟨3, 0, 3⟩, ⟨1, 50, 10⟩, ⟨0, 0, 12⟩] 51 _ rfl
  have k1 : Holds (w5.alloc (.cells #[.int .u8 1, .int .i64 0, .int .i64 0, .int .u8 2, .int .i64 0, .int .i64 1, .int .u8 3, .int .i64 0, .int .i64 3, .int .u8 1, .int .i64 50, .int .i64 10, .int .u8 0, .int .i64 0, .int .i64 12] 51)) w5.heap.size 51 (tokCells [⟨1, 0, 0⟩, ⟨2, 0, 1⟩, ⟨3, 0, 3⟩, ⟨1, 50, 10⟩, ⟨0, 0, 12⟩]).toArray := Holds.fresh w5 51 (tokCells [⟨1, 0, 0⟩, ⟨2, 0, 1⟩, ⟨3, 0, 3⟩, ⟨1, 50, 10⟩, ⟨0, 0, 12⟩]).toArray
  have hX : Below w5.heap.size w5 (w5.alloc (.cells #[.int .u8 1, .int .i64 0, .int .i64 0, .int .u8 2, .int .i64 0, .int .i64 1, .int .u8 3, .int .i64 0, .int .i64 3, .int .u8 1, .int .i64 50, .int .i64 10, .int .u8 0, .int .i64 0, .int .i64 12] 51)) := (Below.refl _ _).alloc (Nat.le_refl _) _
  have hY : Below (w5.alloc (.cells #[.int .u8 1, .int .i64 0, .int .i64 0, .int .u8 2, .int .i64 0, .int .i64 1, .int .u8 3, .int .i64 0, .int .i64 3, .int .u8 1, .int .i64 50, .int .i64 10, .int .u8 0, .int .i64 0, .int .i64 12] 51)).heap.size (w5.alloc (.cells #[.int .u8 1, .int .i64 0, .int .i64 0, .int .u8 2, .int .i64 0, .int .i64 1, .int .u8 3, .int .i64 0, .int .i64 3, .int .u8 1, .int .i64 50, .int .i64 10, .int .u8 0, .int .i64 0, .int .i64 12] 51)) ((w5.alloc (.cells #[.int .u8 1, .int .i64 0, .int .i64 0, .int .u8 2, .int .i64 0, .int .i64 1, .int .u8 3, .int .i64 0, .int .i64 3, .int .u8 1, .int .i64 50, .int .i64 10, .int .u8 0, .int .i64 0, .int .i64 12] 51)).alloc (.cells #[.int .u8 5, .int .i64 33, .int .i64 0, .int .u8 4, .int .i64 4, .int .i64 1, .int .u8 4, .int .i64 2, .int .i64 3, .int .u8 0, .int .i64 0, .int .i64 5] 51)) := (Below.refl _ _).alloc (Nat.le_refl _) _
  have g2 : ToksAt ((w5.alloc (.cells #[.int .u8 1, .int .i64 0, .int .i64 0, .int .u8 2, .int .i64 0, .int .i64 1, .int .u8 3, .int .i64 0, .int .i64 3, .int .u8 1, .int .i64 50, .int .i64 10, .int .u8 0, .int .i64 0, .int .i64 12] 51)).alloc (.cells #[.int .u8 5, .int .i64 33, .int .i64 0, .int .u8 4, .int .i64 4, .int .i64 1, .int .u8 4, .int .i64 2, .int .i64 3, .int .u8 0, .int .i64 0, .int .i64 5] 51)) (some ⟨(w5.alloc (.cells #[.int .u8 1, .int .i64 0, .int .i64 0, .int .u8 2, .int .i64 0, .int .i64 1, .int .u8 3, .int .i64 0, .int .i64 3, .int .u8 1, .int .i64 50, .int .i64 10, .int .u8 0, .int .i64 0, .int .i64 12] 51)).heap.size, 0, none⟩) [⟨5, 33, 0⟩, ⟨4, 4, 1⟩, ⟨4, 2, 3⟩, ⟨0, 0, 5⟩] := toks_new (w5.alloc (.cells #[.int .u8 1, .int .i64 0, .int .i64 0, .int .u8 2, .int .i64 0, .int .i64 1, .int .u8 3, .int .i64 0, .int .i64 3, .int .u8 1, .int .i64 50, .int .i64 10, .int .u8 0, .int .i64 0, .int .i64 12] 51)) [⟨5, 33, 0⟩, ⟨4, 4, 1⟩, ⟨4, 2, 3⟩, ⟨0, 0, 5⟩] 51 _ rfl
  have k2 : Holds ((w5.alloc (.cells #[.int .u8 1, .int .i64 0, .int .i64 0, .int .u8 2, .int .i64 0, .int .i64 1, .int .u8 3, .int .i64 0, .int .i64 3, .int .u8 1, .int .i64 50, .int .i64 10, .int .u8 0, .int .i64 0, .int .i64 12] 51)).alloc (.cells #[.int .u8 5, .int .i64 33, .int .i64 0, .int .u8 4, .int .i64 4, .int .i64 1, .int .u8 4, .int .i64 2, .int .i64 3, .int .u8 0, .int .i64 0, .int .i64 5] 51)) (w5.alloc (.cells #[.int .u8 1, .int .i64 0, .int .i64 0, .int .u8 2, .int .i64 0, .int .i64 1, .int .u8 3, .int .i64 0, .int .i64 3, .int .u8 1, .int .i64 50, .int .i64 10, .int .u8 0, .int .i64 0, .int .i64 12] 51)).heap.size 51 (tokCells [⟨5, 33, 0⟩, ⟨4, 4, 1⟩, ⟨4, 2, 3⟩, ⟨0, 0, 5⟩]).toArray := Holds.fresh (w5.alloc (.cells #[.int .u8 1, .int .i64 0, .int .i64 0, .int .u8 2, .int .i64 0, .int .i64 1, .int .u8 3, .int .i64 0, .int .i64 3, .int .u8 1, .int .i64 50, .int .i64 10, .int .u8 0, .int .i64 0, .int .i64 12] 51)) 51 (tokCells [⟨5, 33, 0⟩, ⟨4, 4, 1⟩, ⟨4, 2, 3⟩, ⟨0, 0, 5⟩]).toArray
  replace g1 := g1.mono hY (Nat.le_refl _)
  replace k1 := k1.later hY
  replace ht1 := (ht1.mono hX (Nat.le_refl _)).mono hY (Nat.le_refl _)
  replace ht3 := (ht3.mono hX (Nat.le_refl _)).mono hY (Nat.le_refl _)
  have hb6 := (hb5.trans (hX.mono hb5.size)).trans (hY.mono (hb5.trans (hX.mono hb5.size)).size)
  have hs : (w5.alloc (.cells #[.int .u8 1, .int .i64 0, .int .i64 0, .int .u8 2, .int .i64 0, .int .i64 1, .int .u8 3, .int .i64 0, .int .i64 3, .int .u8 1, .int .i64 50, .int .i64 10, .int .u8 0, .int .i64 0, .int .i64 12] 51)).heap.size = w5.heap.size + 1 := by simp
  rw [hs] at g2 k2
  clear hX hY hb4 hb5 hs
  have G1 := Lib.hid g1; clear g1
  have G2 := Lib.hid g2; clear g2
  have K1 := Lib.hid k1; clear k1
  have K2 := Lib.hid k2; clear k2
  have H1 := Lib.hid ht1; clear ht1
  have H3 := Lib.hid ht3; clear ht3
  have H6 := Lib.hid hb6; clear hb6
  go_wp2_with fail
  generalize (w5.alloc (.cells #[.int .u8 1, .int .i64 0, .int .i64 0, .int .u8 2, .int .i64 0, .int .i64 1, .int .u8 3, .int .i64 0, .int .i64 3, .int .u8 1, .int .i64 50, .int .i64 10, .int .u8 0, .int .i64 0, .int .i64 12] 51)).alloc (.cells #[.int .u8 5, .int .i64 33, .int .i64 0, .int .u8 4, .int .i64 4, .int .i64 1, .int .u8 4, .int .i64 2, .int .i64 3, .int .u8 0, .int .i64 0, .int .i64 5] 51) = W6 at H1 H3 G1 G2 K1 K2 H6 ⊢
  refine (ref_Tokens_at a1 _ c1 _ 5 _ _ rfl rfl true (by decide) (by omega) _ H1.out G1.out).mono ?_
  rintro e w7 ⟨rfl, hx⟩
  have hb7 := H6.out.trans (hx.mono H6.out.size)
  have k1 := K1.out.later hx
  have k2 := K2.out.later hx
  have h3 := H3.out.mono hx (Nat.le_refl _)
  have g2 := G2.out.mono hx (Nat.le_refl _)
  clear hx H1 H3 G1 G2 K1 K2 H6
  go_wp2_with fail
  refine (ref_Tokens_at a3 _ c3 _ 4 _ _ rfl rfl true (by decide) (by omega) _ h3 g2).mono ?_
  rintro e w8 ⟨rfl, hx⟩
  have hb8 := hb7.trans (hx.mono hb7.size)
  replace k1 := k1.later hx
  replace k2 := k2.later hx
  clear hx h3 g2 hb7
  have c0 : w8.cell? ⟨w5.heap.size + 1, 3, none⟩ = some (.int .u8 4) := k2.cell 3
  have c1 : w8.cell? ⟨w5.heap.size + 1, 4, none⟩ = some (.int .i64 4) := k2.cell 4
  have c2 : w8.cell? ⟨w5.heap.size + 1, 5, none⟩ = some (.int .i64 1) := k2.cell 5
  go_wp2_with fail
  refine (lex_Text_at 4 4 #[33, 61] (by kernel_rfl) _ _ (hG.mono hb8)).mono ?_
  rintro e w9 ⟨rfl, hx⟩
  have hb9 := hb8.trans (hx.mono hb8.size)
  replace k1 := k1.later hx
  clear hx hb8 c0 c1 c2 k2
  have c0 : w9.cell? ⟨w5.heap.size, 6, none⟩ = some (.int .u8 3) := k1.cell 6
  have c1 : w9.cell? ⟨w5.heap.size, 7, none⟩ = some (.int .i64 0) := k1.cell 7
  have c2 : w9.cell? ⟨w5.heap.size, 8, none⟩ = some (.int .i64 3) := k1.cell 8
  go_wp2_with fail
  refine (lex_Text_at 3 0 #[119, 105, 116, 104, 105, 110] (by kernel_rfl) _ _ (hG.mono hb9)).mono ?_
  rintro e w10 ⟨rfl, hx⟩
  have hb10 := hb9.trans (hx.mono hb9.size)
  clear hx hb9 c0 c1 c2 k1
  go_wp2_with fail
  refine (lex_Text_at 9 0 #[] (by kernel_rfl) _ _ (hG.mono hb10)).mono ?_
  rintro e w11 ⟨rfl, hx⟩
  have hb11 := hb10.trans (hx.mono hb10.size)
  clear hx hb10
  go_wp2_with fail
  go_ret
  exact ⟨rfl, hb11⟩
end Go.Proofs.YtafgincpoahefaaDoor
