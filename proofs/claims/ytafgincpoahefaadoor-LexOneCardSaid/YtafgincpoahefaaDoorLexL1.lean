/-
  stragglelaw07.LexOne: true of any token. Conditions: none (the row lists the library's tables and errors and lex's ways of comparing that its road reads, as the program's text lays them).
-/
import Derived.Test.YtafgincpoahefaaDoorLexW
import Derived.Deep.QuietTactic
import Derived.BigQuiet
import Derived.StillTailTactics
namespace Go.Proofs.YtafgincpoahefaaDoor
open Go.RowKit

/-- a token's own text -/
theorem all_own (k n : Int) (h : textOf k n ≠ []) (hl : (textOf k n).length ≤ 2000) : allOf (textOf k n) = ([⟨k, n, 0⟩, ⟨0, 0, (textOf k n).length⟩], 0, 0) := by
  have ht := tok_own k n h
  have hb : lead blB (textOf k n) = 0 := by
    cases e : textOf k n with
    | nil => exact absurd e h
    | cons c r =>
      rw [e] at ht
      exact lead_zero _ _ _ (tokOf_head c r (by rw [ht]; simp))
  have hpos : 0 < (textOf k n).length := by
    cases e : textOf k n with
    | nil => exact absurd e h
    | cons c r => simp
  generalize textOf k n = l at *
  have hy : yields 0 l = [⟨⟨k, n, 0⟩, l.length⟩] := by
    rw [yields_more 0 l (by rw [hb]; simpa using h) (by rw [hb, List.drop_zero, ht]; simp only []; omega), hb, List.drop_zero, ht, yields_end _ _ (by simp)]
    rfl
  unfold allOf
  rw [if_neg (by omega), hy]
  have : (l.length == 0) = false := by simp only [beq_eq_false_iff_ne]; omega
  simp [List.find?, this]
theorem decDigits_len : ∀ (k u : Nat), u < 10 ^ (k + 1) → (Lib.decDigits u).length ≤ k + 1
  | 0, u, h => by
    rw [Lib.decDigits, dif_pos (by omega)]
    simp
  | k + 1, u, h => by
    rw [Lib.decDigits]
    split
    · simp
    · have := decDigits_len k (u / 10) (by rw [Nat.pow_succ] at h; omega)
      simp only [List.length_append, List.length_cons, List.length_nil]
      omega
theorem text_len (k n : Int) : (textOf k n).length ≤ 2000 := by
  unfold textOf
  split
  · rename_i h
    rw [itoa_nat n h.2.1]
    have := decDigits_len 12 n.toNat (by omega)
    omega
  · split
    · simp
    · split
      · simp [within]
      · split
        · have := opText_len n.toNat; omega
        · split <;> simp
theorem op_ne (n : Int) (h0 : 1 ≤ n) (h1 : n < 7) : textOf 4 n ≠ [] := by
  have h : n = 1 ∨ n = 2 ∨ n = 3 ∨ n = 4 ∨ n = 5 ∨ n = 6 := by omega
  rcases h with rfl | rfl | rfl | rfl | rfl | rfl <;> decide
theorem itoa_ne (n : Int) (h : 0 ≤ n) : Lib.itoa n ≠ [] := by
  rw [itoa_nat n h]
  have := (numeral_decDigits n.toNat).1
  intro e
  rw [e] at this
  simp [numeral] at this

/-- is it among the first so many signs -/
def smB (n : Int) : Nat → Bool
  | 0 => false
  | k + 1 => smB n k || (n == ((signL.getD k 0).toNat : Int))
theorem sg_get (k : Nat) (hk : k < 12) : (((⟨#[33, 123, 125, 91, 93, 40, 41, 44, 59, 38, 43, 45]⟩ : ByteArray)[k]'hk).toNat : Int) = ((signL.getD k 0).toNat : Int) := by
  rw [← bytes_at ⟨#[33, 123, 125, 91, 93, 40, 41, 44, 59, 38, 43, 45]⟩ k hk, List.getD_eq_getElem?_getD, List.getElem?_eq_getElem (show k < signL.length from hk)]
  rfl
theorem sg_lt (k : Nat) (hk : k < 12) : (((⟨#[33, 123, 125, 91, 93, 40, 41, 44, 59, 38, 43, 45]⟩ : ByteArray)[k]'hk).toNat : Int) < 256 := by
  have := ((⟨#[33, 123, 125, 91, 93, 40, 41, 44, 59, 38, 43, 45]⟩ : ByteArray)[k]'hk).toNat_lt
  omega
theorem smB_iff (n : Int) : smB n 12 = true ↔ 0 < n ∧ n < 128 ∧ signB (UInt8.ofNat n.toNat) = true := by
  have e : smB n 12 = true ↔ n = 33 ∨ n = 123 ∨ n = 125 ∨ n = 91 ∨ n = 93 ∨ n = 40 ∨ n = 41 ∨ n = 44 ∨ n = 59 ∨ n = 38 ∨ n = 43 ∨ n = 45 := by
    simp [smB, signL, or_assoc]
  rw [e]
  constructor
  · rintro (rfl | rfl | rfl | rfl | rfl | rfl | rfl | rfl | rfl | rfl | rfl | rfl) <;> decide
  · rintro ⟨h0, h1, h2⟩
    have hn : (UInt8.ofNat n.toNat).toNat = n.toNat := by rw [UInt8.toNat_ofNat']; omega
    simp only [signB, signL, List.contains_iff_mem, List.mem_cons, List.not_mem_nil, or_false] at h2
    rcases h2 with h2 | h2 | h2 | h2 | h2 | h2 | h2 | h2 | h2 | h2 | h2 | h2 <;> (rw [h2] at hn; simp at hn; omega)
theorem sm_text (n : Int) (h : smB n 12 = true) : textOf 5 n ≠ [] := by
  have := (smB_iff n).1 h
  unfold textOf
  rw [if_neg (by omega), if_neg (by omega), if_neg (by omega), if_neg (by omega), if_pos ⟨rfl, this⟩]
  simp
theorem sm_none (n : Int) (h : smB n 12 = false) : textOf 5 n = [] :=
  text_none (by omega) (by omega) (by omega) (by omega) (fun ⟨_, g⟩ => by rw [(smB_iff n).2 g] at h; cases h)
theorem toks_two {w : World} {a : Option Addr} {s t : Tok} (h : ToksAt w a [s, t]) : ∃ b off, a = some ⟨b, off, none⟩ ∧ w.cell? ⟨b, off, none⟩ = some (.int .u8 s.kind) ∧ w.cell? ⟨b, off + 1, none⟩ = some (.int .i64 s.n) ∧ w.cell? ⟨b, off + 2, none⟩ = some (.int .i64 s.at') ∧
    w.cell? ⟨b, off + 3, none⟩ = some (.int .u8 t.kind) ∧ w.cell? ⟨b, off + 3 + 1, none⟩ = some (.int .i64 t.n) ∧ w.cell? ⟨b, off + 3 + 2, none⟩ = some (.int .i64 t.at') := by
  rcases h with h | ⟨b, off, rfl, hc⟩
  · cases h
  · have h0 := hc 0 (by simp)
    have h1 := hc 1 (by simp)
    simp only [Nat.zero_mul, Nat.add_zero, Nat.one_mul] at h0 h1
    exact ⟨b, off, rfl, h0.1, h0.2.1, h0.2.2, h1.1, h1.2.1, h1.2.2⟩
theorem text_call (k n : Int) (l : List UInt8) (h : textOf k n = l) (x : Value) (w : World) (hG : GL w) : Calls Tryd.prog 52 #[.agg #[.int .u8 k, .int .i64 n, x]] w fun e w' => e = .returned (.string ⟨l.toArray⟩) ∧ Below w.heap.size w w' :=
  lex_Text_at k n l.toArray (by rw [h]) x w hG

-- CASES
end Go.Proofs.YtafgincpoahefaaDoor
