/-
  lex in plain Lean: leads, ways of comparing, tokens of a text.
-/
import Derived.Test.YtafgincpoahefaaDoorNumP
import Derived.Laws.RangeString
import Derived.Laws.RangeAny
namespace Go.Proofs.YtafgincpoahefaaDoor
open Go.RowKit

def letB (c : UInt8) : Bool := decide (97 ≤ c.toNat ∧ c.toNat ≤ 122)
def blB (c : UInt8) : Bool := decide (c.toNat = 32)
def signL : List UInt8 := [33, 123, 125, 91, 93, 40, 41, 44, 59, 38, 43, 45]
def signB (c : UInt8) : Bool := signL.contains c
/-- how many bytes it begins with that are so -/
def lead (p : UInt8 → Bool) (l : List UInt8) : Nat := (l.takeWhile p).length
theorem lead_nil (p : UInt8 → Bool) : lead p [] = 0 := rfl
theorem lead_cons (p : UInt8 → Bool) (c : UInt8) (l : List UInt8) : lead p (c :: l) = if p c = true then lead p l + 1 else 0 := by
  unfold lead
  rw [List.takeWhile_cons]
  split <;> rfl
theorem lead_le (p : UInt8 → Bool) (l : List UInt8) : lead p l ≤ l.length := (List.takeWhile_prefix p).length_le

/-- the ways of comparing -/
def opText : Nat → List UInt8
  | 1 => [60] | 2 => [60, 61] | 3 => [61] | 4 => [33, 61] | 5 => [62] | 6 => [62, 61] | _ => []
def opOf : List UInt8 → Nat
  | [] => 0
  | c :: r => if c = 60 then (if r.head? = some 61 then 2 else 1) else if c = 61 then 3 else if c = 33 then (if r.head? = some 61 then 4 else 0) else if c = 62 then (if r.head? = some 61 then 6 else 5) else 0

structure Tok where
  kind : Int
  n : Int
  at' : Int
deriving DecidableEq
/-- a token, and how many bytes it has; 0: none -/
structure Y where
  t : Tok
  m : Nat
deriving DecidableEq

def within : List UInt8 := [119, 105, 116, 104, 105, 110]
def tokOf (l : List UInt8) : Int × Int × Nat :=
  if 0 < lead digB l then
    (if (readOf (l.take (lead digB l))).2 = 0 ∧ (readOf (l.take (lead digB l))).1 ≤ 1099511627776 then (1, (readOf (l.take (lead digB l))).1, lead digB l) else (0, 0, 0))
  else if 0 < lead letB l then
    (if lead letB l = 1 then (2, ((l.headD 0).toNat : Int) - 97, 1) else if l.take (lead letB l) = within then (3, 0, lead letB l) else (0, 0, 0))
  else if 0 < opOf l then (4, opOf l, (opText (opOf l)).length)
  else if signB (l.headD 0) = true then (5, (l.headD 0).toNat, 1)
  else (0, 0, 0)

def yieldsF : Nat → Nat → List UInt8 → List Y
  | 0, _, _ => []
  | f + 1, a, l =>
    if l.drop (lead blB l) = [] then []
    else ⟨⟨(tokOf (l.drop (lead blB l))).1, (tokOf (l.drop (lead blB l))).2.1, a + lead blB l⟩, (tokOf (l.drop (lead blB l))).2.2⟩ ::
      if (tokOf (l.drop (lead blB l))).2.2 = 0 then [] else yieldsF f (a + lead blB l + (tokOf (l.drop (lead blB l))).2.2) ((l.drop (lead blB l)).drop (tokOf (l.drop (lead blB l))).2.2)
def yields (a : Nat) (l : List UInt8) : List Y := yieldsF (l.length + 1) a l

theorem yieldsF_more : ∀ (f g a : Nat) (l : List UInt8), l.length < f → l.length < g → yieldsF f a l = yieldsF g a l := by
  intro f
  induction f with
  | zero => intro g a l h; omega
  | succ f ih =>
    intro g a l hf hg
    obtain ⟨g, rfl⟩ : ∃ k, g = k + 1 := ⟨g - 1, by omega⟩
    unfold yieldsF
    split
    · rfl
    · rename_i hne
      congr 1
      split
      · rfl
      · rename_i h0
        have h1 : 0 < (l.drop (lead blB l)).length := by
          rcases h : l.drop (lead blB l) with _ | ⟨c, r⟩
          · exact absurd h hne
          · simp
        refine ih g _ _ ?_ ?_ <;> (simp only [List.length_drop] at h1 ⊢; omega)

theorem yields_end (a : Nat) (l : List UInt8) (h : l.drop (lead blB l) = []) : yields a l = [] := by
  unfold yields yieldsF
  rw [if_pos h]
theorem yields_none (a : Nat) (l : List UInt8) (h : l.drop (lead blB l) ≠ []) (h0 : (tokOf (l.drop (lead blB l))).2.2 = 0) :
    yields a l = [⟨⟨(tokOf (l.drop (lead blB l))).1, (tokOf (l.drop (lead blB l))).2.1, a + lead blB l⟩, 0⟩] := by
  unfold yields yieldsF
  rw [if_neg h, if_pos h0, h0]
theorem yields_more (a : Nat) (l : List UInt8) (h : l.drop (lead blB l) ≠ []) (h0 : (tokOf (l.drop (lead blB l))).2.2 ≠ 0) :
    yields a l = ⟨⟨(tokOf (l.drop (lead blB l))).1, (tokOf (l.drop (lead blB l))).2.1, a + lead blB l⟩, (tokOf (l.drop (lead blB l))).2.2⟩ ::
      yields (a + lead blB l + (tokOf (l.drop (lead blB l))).2.2) ((l.drop (lead blB l)).drop (tokOf (l.drop (lead blB l))).2.2) := by
  have h1 : 0 < (l.drop (lead blB l)).length := by
    rcases hh : l.drop (lead blB l) with _ | ⟨c, r⟩
    · exact absurd hh h
    · simp
  unfold yields
  conv => lhs; unfold yieldsF
  rw [if_neg h, if_neg h0]
  congr 1
  refine yieldsF_more _ _ _ _ ?_ ?_ <;> (simp only [List.length_drop] at h1 ⊢; omega)

/-- what All tells: tokens, a place, a code -/
def allOf (l : List UInt8) : List Tok × Int × Int :=
  if 2000 < l.length then ([], 2000, 91)
  else match (yields 0 l).find? (fun y => y.m == 0) with
    | some y => ([], y.t.at', 70)
    | none => ((yields 0 l).map (·.t) ++ [⟨0, 0, l.length⟩], 0, 0)

theorem lead_drop (p : UInt8 → Bool) : ∀ (l : List UInt8) (k : Nat), (∀ j (h : j < l.length), j < k → p l[j] = true) → k ≤ l.length → lead p l = k + lead p (l.drop k)
  | l, 0, _, _ => by simp
  | [], k + 1, _, h => by simp at h
  | c :: l, k + 1, h, hk => by
    have hc := h 0 (by simp) (by omega)
    rw [List.getElem_cons_zero] at hc
    rw [lead_cons, if_pos hc, List.drop_succ_cons, lead_drop p l k (fun j hj hjk => by have := h (j + 1) (by simp; omega) (by omega); simpa using this) (by simpa using hk)]
    omega

theorem lead_idx (p : UInt8 → Bool) (q : Nat → Bool) (hq : ∀ c : UInt8, c.toNat < 128 → q c.toNat = !p c) (hq' : ∀ n, 128 ≤ n → q n = true) (hp : ∀ c : UInt8, 128 ≤ c.toNat → p c = false) (s : ByteArray) :
    ∀ (f pos : Nat), pos ≤ s.size → s.size ≤ pos + f →
      Lib.idxFuncFrom q true s f pos = if pos + lead p (s.data.toList.drop pos) = s.size then -1 else ((pos + lead p (s.data.toList.drop pos) : Nat) : Int)
  | 0, pos, h1, h2 => by
    have : (s.data.toList.drop pos) = [] := List.drop_of_length_le (by have : s.data.toList.length = s.size := by simp
                                                                       omega)
    rw [this, lead_nil, if_pos (by omega)]; rfl
  | f + 1, pos, h1, h2 => by
    have hl : s.data.toList.length = s.size := by simp
    unfold Lib.idxFuncFrom
    by_cases hps : pos < s.size
    · rw [if_pos hps]
      have hd : s.data.toList.drop pos = s[pos] :: s.data.toList.drop (pos + 1) := by
        rw [List.drop_eq_getElem_cons (by omega), bytes_at s pos hps]
      rw [hd, lead_cons]
      by_cases hlo : s[pos].toNat < 128
      · rw [decode_ascii s pos hps hlo]
        simp only []
        rw [hq _ hlo]
        by_cases hpc : p s[pos] = true
        · rw [hpc, if_neg (by decide), if_pos rfl, lead_idx p q hq hq' hp s f (pos + 1) (by omega) (by omega)]
          rw [show pos + (lead p (s.data.toList.drop (pos + 1)) + 1) = pos + 1 + lead p (s.data.toList.drop (pos + 1)) from by omega]
        · have hpf : p s[pos] = false := by simpa using hpc
          rw [hpf, if_pos (by decide), if_neg Bool.false_ne_true, if_neg (by omega)]; rfl
      · have hh := decode_high s pos hps (by omega)
        rw [hq' _ hh.1, if_pos rfl, hp _ (by omega), if_neg Bool.false_ne_true, if_neg (by omega)]; rfl
    · rw [if_neg hps]
      have : (s.data.toList.drop pos) = [] := List.drop_of_length_le (by omega)
      rw [this, lead_nil, if_pos (by omega)]
end Go.Proofs.YtafgincpoahefaaDoor
