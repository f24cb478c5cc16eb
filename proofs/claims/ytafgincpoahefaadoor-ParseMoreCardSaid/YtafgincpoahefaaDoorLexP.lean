/-
  lex in plain Lean: leads, ways of comparing, tokens of a text.
  lex, plain laws: what a token's bytes hang on; a byte behind a text; a blank put into a text; a token's own text.
  lex, plain laws: a token's own bytes; tokens told again of their bytes.
-/
import Derived.Test.YtafgincpoahefaaDoorNumP
import Derived.Laws.RangeString
import Derived.Laws.RangeAny
namespace Go.Proofs.YtafgincpoahefaaDoor
open Go.RowKit

def letB (c : UInt8) : Bool := decide (97 ≤ c.toNat ∧ c.toNat ≤ 122)
def blB (c : UInt8) : Bool := decide (c.toNat = 32)
def signL : List UInt8 := [33, 123, 125, 91, 93, 40, 41, 44, 59, 38, 43, 45]
def signB (c : UInt8) : Bool := signL.contains c
/-- how many bytes it begins with that are so -/
def lead (p : UInt8 → Bool) (l : List UInt8) : Nat := (l.takeWhile p).length
theorem lead_nil (p : UInt8 → Bool) : lead p [] = 0 := rfl
theorem lead_cons (p : UInt8 → Bool) (c : UInt8) (l : List UInt8) : lead p (c :: l) = if p c = true then lead p l + 1 else 0 := by
  unfold lead
  rw [List.takeWhile_cons]
  split <;> rfl
theorem lead_le (p : UInt8 → Bool) (l : List UInt8) : lead p l ≤ l.length := (List.takeWhile_prefix p).length_le

/-- the ways of comparing -/
def opText : Nat → List UInt8
  | 1 => [60] | 2 => [60, 61] | 3 => [61] | 4 => [33, 61] | 5 => [62] | 6 => [62, 61] | _ => []
def opOf : List UInt8 → Nat
  | [] => 0
  | c :: r => if c = 60 then (if r.head? = some 61 then 2 else 1) else if c = 61 then 3 else if c = 33 then (if r.head? = some 61 then 4 else 0) else if c = 62 then (if r.head? = some 61 then 6 else 5) else 0

structure Tok where
  kind : Int
  n : Int
  at' : Int
deriving DecidableEq
/-- a token, and how many bytes it has; 0: none -/
structure Y where
  t : Tok
  m : Nat
deriving DecidableEq

def within : List UInt8 := [119, 105, 116, 104, 105, 110]
def tokOf (l : List UInt8) : Int × Int × Nat :=
  if 0 < lead digB l then
    (if (readOf (l.take (lead digB l))).2 = 0 ∧ (readOf (l.take (lead digB l))).1 ≤ 1099511627776 then (1, (readOf (l.take (lead digB l))).1, lead digB l) else (0, 0, 0))
  else if 0 < lead letB l then
    (if lead letB l = 1 then (2, ((l.headD 0).toNat : Int) - 97, 1) else if l.take (lead letB l) = within then (3, 0, lead letB l) else (0, 0, 0))
  else if 0 < opOf l then (4, opOf l, (opText (opOf l)).length)
  else if signB (l.headD 0) = true then (5, (l.headD 0).toNat, 1)
  else (0, 0, 0)

def yieldsF : Nat → Nat → List UInt8 → List Y
  | 0, _, _ => []
  | f + 1, a, l =>
    if l.drop (lead blB l) = [] then []
    else ⟨⟨(tokOf (l.drop (lead blB l))).1, (tokOf (l.drop (lead blB l))).2.1, a + lead blB l⟩, (tokOf (l.drop (lead blB l))).2.2⟩ ::
      if (tokOf (l.drop (lead blB l))).2.2 = 0 then [] else yieldsF f (a + lead blB l + (tokOf (l.drop (lead blB l))).2.2) ((l.drop (lead blB l)).drop (tokOf (l.drop (lead blB l))).2.2)
def yields (a : Nat) (l : List UInt8) : List Y := yieldsF (l.length + 1) a l

theorem yieldsF_more : ∀ (f g a : Nat) (l : List UInt8), l.length < f → l.length < g → yieldsF f a l = yieldsF g a l := by
  intro f
  induction f with
  | zero => intro g a l h; omega
  | succ f ih =>
    intro g a l hf hg
    obtain ⟨g, rfl⟩ : ∃ k, g = k + 1 := ⟨g - 1, by omega⟩
    unfold yieldsF
    split
    · rfl
    · rename_i hne
      congr 1
      split
      · rfl
      · rename_i h0
        have h1 : 0 < (l.drop (lead blB l)).length := by
          rcases h : l.drop (lead blB l) with _ | ⟨c, r⟩
          · exact absurd h hne
          · simp
        refine ih g _ _ ?_ ?_ <;> (simp only [List.length_drop] at h1 ⊢; omega)

theorem yields_end (a : Nat) (l : List UInt8) (h : l.drop (lead blB l) = []) : yields a l = [] := by
  unfold yields yieldsF
  rw [if_pos h]
theorem yields_none (a : Nat) (l : List UInt8) (h : l.drop (lead blB l) ≠ []) (h0 : (tokOf (l.drop (lead blB l))).2.2 = 0) :
    yields a l = [⟨⟨(tokOf (l.drop (lead blB l))).1, (tokOf (l.drop (lead blB l))).2.1, a + lead blB l⟩, 0⟩] := by
  unfold yields yieldsF
  rw [if_neg h, if_pos h0, h0]
theorem yields_more (a : Nat) (l : List UInt8) (h : l.drop (lead blB l) ≠ []) (h0 : (tokOf (l.drop (lead blB l))).2.2 ≠ 0) :
    yields a l = ⟨⟨(tokOf (l.drop (lead blB l))).1, (tokOf (l.drop (lead blB l))).2.1, a + lead blB l⟩, (tokOf (l.drop (lead blB l))).2.2⟩ ::
      yields (a + lead blB l + (tokOf (l.drop (lead blB l))).2.2) ((l.drop (lead blB l)).drop (tokOf (l.drop (lead blB l))).2.2) := by
  have h1 : 0 < (l.drop (lead blB l)).length := by
    rcases hh : l.drop (lead blB l) with _ | ⟨c, r⟩
    · exact absurd hh h
    · simp
  unfold yields
  conv => lhs; unfold yieldsF
  rw [if_neg h, if_neg h0]
  congr 1
  refine yieldsF_more _ _ _ _ ?_ ?_ <;> (simp only [List.length_drop] at h1 ⊢; omega)

/-- what All tells: tokens, a place, a code -/
def allOf (l : List UInt8) : List Tok × Int × Int :=
  if 2000 < l.length then ([], 2000, 91)
  else match (yields 0 l).find? (fun y => y.m == 0) with
    | some y => ([], y.t.at', 70)
    | none => ((yields 0 l).map (·.t) ++ [⟨0, 0, l.length⟩], 0, 0)

theorem lead_drop (p : UInt8 → Bool) : ∀ (l : List UInt8) (k : Nat), (∀ j (h : j < l.length), j < k → p l[j] = true) → k ≤ l.length → lead p l = k + lead p (l.drop k)
  | l, 0, _, _ => by simp
  | [], k + 1, _, h => by simp at h
  | c :: l, k + 1, h, hk => by
    have hc := h 0 (by simp) (by omega)
    rw [List.getElem_cons_zero] at hc
    rw [lead_cons, if_pos hc, List.drop_succ_cons, lead_drop p l k (fun j hj hjk => by have := h (j + 1) (by simp; omega) (by omega); simpa using this) (by simpa using hk)]
    omega

theorem lead_idx (p : UInt8 → Bool) (q : Nat → Bool) (hq : ∀ c : UInt8, c.toNat < 128 → q c.toNat = !p c) (hq' : ∀ n, 128 ≤ n → q n = true) (hp : ∀ c : UInt8, 128 ≤ c.toNat → p c = false) (s : ByteArray) :
    ∀ (f pos : Nat), pos ≤ s.size → s.size ≤ pos + f →
      Lib.idxFuncFrom q true s f pos = if pos + lead p (s.data.toList.drop pos) = s.size then -1 else ((pos + lead p (s.data.toList.drop pos) : Nat) : Int)
  | 0, pos, h1, h2 => by
    have : (s.data.toList.drop pos) = [] := List.drop_of_length_le (by have : s.data.toList.length = s.size := by simp
                                                                       omega)
    rw [this, lead_nil, if_pos (by omega)]; rfl
  | f + 1, pos, h1, h2 => by
    have hl : s.data.toList.length = s.size := by simp
    unfold Lib.idxFuncFrom
    by_cases hps : pos < s.size
    · rw [if_pos hps]
      have hd : s.data.toList.drop pos = s[pos] :: s.data.toList.drop (pos + 1) := by
        rw [List.drop_eq_getElem_cons (by omega), bytes_at s pos hps]
      rw [hd, lead_cons]
      by_cases hlo : s[pos].toNat < 128
      · rw [decode_ascii s pos hps hlo]
        simp only []
        rw [hq _ hlo]
        by_cases hpc : p s[pos] = true
        · rw [hpc, if_neg (by decide), if_pos rfl, lead_idx p q hq hq' hp s f (pos + 1) (by omega) (by omega)]
          rw [show pos + (lead p (s.data.toList.drop (pos + 1)) + 1) = pos + 1 + lead p (s.data.toList.drop (pos + 1)) from by omega]
        · have hpf : p s[pos] = false := by simpa using hpc
          rw [hpf, if_pos (by decide), if_neg Bool.false_ne_true, if_neg (by omega)]; rfl
      · have hh := decode_high s pos hps (by omega)
        rw [hq' _ hh.1, if_pos rfl, hp _ (by omega), if_neg Bool.false_ne_true, if_neg (by omega)]; rfl
    · rw [if_neg hps]
      have : (s.data.toList.drop pos) = [] := List.drop_of_length_le (by omega)
      rw [this, lead_nil, if_pos (by omega)]
end Go.Proofs.YtafgincpoahefaaDoor

namespace Go.Proofs.YtafgincpoahefaaDoor
open Go.RowKit

theorem dig_else (c : UInt8) (h : digB c = true) : letB c = false ∧ blB c = false ∧ signB c = false ∧ c ≠ 60 ∧ c ≠ 61 ∧ c ≠ 33 ∧ c ≠ 62 := by
  have h1 : 48 ≤ c.toNat ∧ c.toNat ≤ 57 := by simpa [digB] using h
  have hs : signB c = false := by
    rw [Bool.eq_false_iff]; intro hs
    simp only [signB, signL, List.contains_iff_mem, List.mem_cons, List.not_mem_nil, or_false] at hs
    rcases hs with rfl | rfl | rfl | rfl | rfl | rfl | rfl | rfl | rfl | rfl | rfl | rfl <;> (revert h; decide)
  refine ⟨by simp [letB]; omega, by simp [blB]; omega, hs, ?_, ?_, ?_, ?_⟩ <;> (rintro rfl; revert h; decide)
theorem let_else (c : UInt8) (h : letB c = true) : digB c = false ∧ blB c = false ∧ signB c = false ∧ c ≠ 60 ∧ c ≠ 61 ∧ c ≠ 33 ∧ c ≠ 62 := by
  have h1 : 97 ≤ c.toNat ∧ c.toNat ≤ 122 := by simpa [letB] using h
  have hs : signB c = false := by
    rw [Bool.eq_false_iff]; intro hs
    simp only [signB, signL, List.contains_iff_mem, List.mem_cons, List.not_mem_nil, or_false] at hs
    rcases hs with rfl | rfl | rfl | rfl | rfl | rfl | rfl | rfl | rfl | rfl | rfl | rfl <;> (revert h; decide)
  refine ⟨by simp [digB]; omega, by simp [blB]; omega, hs, ?_, ?_, ?_, ?_⟩ <;> (rintro rfl; revert h; decide)
theorem bl_is (c : UInt8) (h : blB c = true) : c = 32 := by
  have : c.toNat = 32 := by simpa [blB] using h
  exact UInt8.toNat_inj.1 this

theorem lead_pos (p : UInt8 → Bool) (l : List UInt8) : 0 < lead p l ↔ ∃ c r, l = c :: r ∧ p c = true := by
  cases l with
  | nil => simp [lead_nil]
  | cons c r =>
    rw [lead_cons]
    by_cases h : p c = true <;> simp [h]
theorem lead_zero (p : UInt8 → Bool) (c : UInt8) (r : List UInt8) (h : p c = false) : lead p (c :: r) = 0 := by rw [lead_cons, h]; rfl

/-- a lead of a text in two parts -/
theorem lead_append (p : UInt8 → Bool) (u r : List UInt8) : lead p (u ++ r) = if lead p u = u.length then u.length + lead p r else lead p u := by
  induction u with
  | nil => simp [lead_nil]
  | cons c u ih =>
    rw [List.cons_append, lead_cons, lead_cons, ih]
    by_cases h : p c = true
    · simp only [h, if_true, List.length_cons]
      by_cases h2 : lead p u = u.length
      · rw [if_pos h2, if_pos (by omega)]; omega
      · rw [if_neg h2, if_neg (by omega)]
    · simp only [h, List.length_cons]
      simp
theorem lead_head (p : UInt8 → Bool) (r r' : List UInt8) (h : r.head? = r'.head?) : lead p r = 0 ↔ lead p r' = 0 := by
  cases r <;> cases r' <;> simp at h
  · rfl
  · subst h
    rw [lead_cons, lead_cons]
    split <;> simp
/-- a lead that ends where the first part does -/
theorem lead_full (p : UInt8 → Bool) (u r : List UInt8) (h : lead p (u ++ r) = u.length) : lead p u = u.length ∧ lead p r = 0 := by
  rw [lead_append] at h
  have := lead_le p u
  split at h
  · exact ⟨by assumption, by omega⟩
  · rename_i h2; exact absurd h h2
theorem lead_full_mk (p : UInt8 → Bool) (u r : List UInt8) (h : lead p u = u.length) (h' : lead p r = 0) : lead p (u ++ r) = u.length := by
  rw [lead_append, if_pos h, h']; rfl

theorem opText_len (k : Nat) : (opText k).length ≤ 2 := by
  unfold opText
  split <;> simp
theorem opOf_le (l : List UInt8) : (opText (opOf l)).length ≤ l.length := by
  cases l with
  | nil => simp [opOf, opText]
  | cons c r =>
    cases r with
    | nil => simp only [opOf, List.head?_nil]; (repeat' split) <;> simp_all [opText]
    | cons x r => have := opText_len (opOf (c :: x :: r)); simp only [List.length_cons]; omega
theorem tokOf_le (l : List UInt8) : (tokOf l).2.2 ≤ l.length := by
  unfold tokOf
  have h1 := lead_le digB l
  have h2 := lead_le letB l
  have h3 := opOf_le l
  repeat' split
  all_goals first | exact Nat.zero_le _ | assumption | skip
  · have := lead_le letB l; simp only []; omega
  · cases l with
    | nil => rename_i h; simp [signB, signL] at h
    | cons c r => simp

/-- A byte that goes on with no token: no digit, letter, nor =. -/
def stops (r : List UInt8) : Prop := ∀ c, r.head? = some c → digB c = false ∧ letB c = false ∧ c ≠ 61
theorem stops_lead {r : List UInt8} (h : stops r) : lead digB r = 0 ∧ lead letB r = 0 ∧ r.head? ≠ some 61 := by
  cases r with
  | nil => simp [lead_nil]
  | cons c r =>
    obtain ⟨h1, h2, h3⟩ := h c rfl
    exact ⟨lead_zero _ _ _ h1, lead_zero _ _ _ h2, by simpa using h3⟩

theorem tok_stable (u r r' : List UInt8) (hu : u ≠ []) (hm : (tokOf (u ++ r)).2.2 = u.length) (h : r'.head? = r.head? ∨ stops r') : tokOf (u ++ r') = tokOf (u ++ r) := by
  obtain ⟨c, v, rfl⟩ : ∃ c v, u = c :: v := by cases u <;> simp_all
  have hlead : ∀ p, (p = digB ∨ p = letB) → lead p (c :: v ++ r) = (c :: v).length → lead p (c :: v ++ r') = (c :: v).length := by
    intro p hp hl
    obtain ⟨h1, h2⟩ := lead_full p _ _ hl
    refine lead_full_mk p _ _ h1 ?_
    rcases h with h | h
    · exact (lead_head p _ _ h).2 h2
    · rcases hp with rfl | rfl
      · exact (stops_lead h).1
      · exact (stops_lead h).2.1
  have hd : (c :: v ++ r).headD 0 = c := rfl
  have hd' : (c :: v ++ r').headD 0 = c := rfl
  have ht : (c :: v ++ r).take (c :: v).length = c :: v := by simp
  have ht' : (c :: v ++ r').take (c :: v).length = c :: v := by simp
  have hz : ∀ p : UInt8 → Bool, p c = false → ∀ s, lead p (c :: v ++ s) = 0 := fun p hp s => lead_zero p c _ hp
  have hp : ∀ p : UInt8 → Bool, p c = true → ∀ s, 0 < lead p (c :: v ++ s) := fun p hp s => by rw [List.cons_append, lead_cons, if_pos hp]; omega
  by_cases h1 : digB c = true
  · unfold tokOf at hm ⊢
    rw [if_pos (hp _ h1 r)] at hm ⊢
    rw [if_pos (hp _ h1 r')]
    split at hm
    · simp only [] at hm
      rw [hlead digB (.inl rfl) hm, hm, ht, ht']
    · simp at hm
  · have h1' : digB c = false := by simpa using h1
    by_cases h2 : letB c = true
    · unfold tokOf at hm ⊢
      rw [hz _ h1' r, if_neg (Nat.lt_irrefl 0), if_pos (hp _ h2 r)] at hm ⊢
      rw [hz _ h1' r', if_neg (Nat.lt_irrefl 0), if_pos (hp _ h2 r')]
      split at hm
      · rename_i hl
        have hl' : lead letB (c :: v ++ r) = (c :: v).length := by rw [hl]; exact hm
        rw [hlead letB (.inr rfl) hl', ← hm, if_pos rfl, hl, if_pos rfl]; rfl
      · split at hm
        · simp only [] at hm
          rename_i hl hw
          rw [hlead letB (.inr rfl) hm, hm, ht, ht']
          rfl
        · simp at hm
    · have h2' : letB c = false := by simpa using h2
      unfold tokOf at hm ⊢
      rw [hz _ h1' r, if_neg (Nat.lt_irrefl 0), hz _ h2' r, if_neg (Nat.lt_irrefl 0)] at hm ⊢
      rw [hz _ h1' r', if_neg (Nat.lt_irrefl 0), hz _ h2' r', if_neg (Nat.lt_irrefl 0)]
      have key : opOf (c :: v ++ r') = opOf (c :: v ++ r) := by
        by_cases hr : (v ++ r).head? = some 61
        · by_cases hr' : (v ++ r').head? = some 61
          · simp [opOf, hr, hr']
          · have hv : v = [] := by
              cases v with
              | nil => rfl
              | cons x v => simp at hr hr'; exact absurd hr hr'
            subst hv
            simp only [List.nil_append] at hr hr'
            simp only [List.cons_append, List.nil_append, opOf, hr, hr', if_true, if_false] at hm ⊢
            by_cases e1 : c = 60
            · subst e1; simp [opText] at hm
            by_cases e2 : c = 33
            · subst e2; simp [opText] at hm
            by_cases e3 : c = 62
            · subst e3; simp [opText] at hm
            simp [e1, e2, e3]
        · by_cases hr' : (v ++ r').head? = some 61
          · exfalso
            have hv : v = [] := by
              cases v with
              | nil => rfl
              | cons x v => simp at hr hr'; exact absurd hr' hr
            subst hv
            simp only [List.nil_append] at hr hr'
            rcases h with h | h
            · rw [h] at hr'; exact hr hr'
            · exact (stops_lead h).2.2 hr'
          · simp only [opOf, List.cons_append, if_neg hr, if_neg hr']
      rw [key, hd, hd']

theorem tokOf_nil : tokOf [] = (0, 0, 0) := by
  unfold tokOf
  rw [lead_nil, lead_nil, if_neg (Nat.lt_irrefl 0), if_neg (Nat.lt_irrefl 0)]
  rfl
theorem tokOf_unknown (c : UInt8) (r : List UInt8) (hd : digB c = false) (hl : letB c = false) (ho : c ≠ 60 ∧ c ≠ 61 ∧ c ≠ 33 ∧ c ≠ 62) (hs : signB c = false) : tokOf (c :: r) = (0, 0, 0) := by
  unfold tokOf
  rw [lead_zero _ _ _ hd, lead_zero _ _ _ hl, if_neg (Nat.lt_irrefl 0), if_neg (Nat.lt_irrefl 0)]
  simp [opOf, ho.1, ho.2.1, ho.2.2.1, ho.2.2.2, hs]
theorem tokOf_head (c : UInt8) (r : List UInt8) (h : (tokOf (c :: r)).2.2 ≠ 0) : blB c = false := by
  rw [Bool.eq_false_iff]
  intro hb
  obtain rfl := bl_is c hb
  rw [tokOf_unknown 32 r (by decide) (by decide) (by decide) (by decide)] at h
  exact h rfl
theorem drop_lead (p : UInt8 → Bool) (c : UInt8) : ∀ (l r : List UInt8), l.drop (lead p l) = c :: r → p c = false
  | [], _, h => by simp at h
  | x :: l, r, h => by
    rw [lead_cons] at h
    by_cases hx : p x = true
    · rw [if_pos hx, List.drop_succ_cons] at h
      exact drop_lead p c l r h
    · rw [if_neg hx, List.drop_zero] at h
      obtain ⟨rfl, _⟩ := List.cons.inj h
      simpa using hx
theorem drop_lead_nil (p : UInt8 → Bool) (l : List UInt8) : l.drop (lead p l) = [] ↔ lead p l = l.length := by
  rw [List.drop_eq_nil_iff]
  have := lead_le p l
  omega

/-- all tokens -/
def good (ys : List Y) : Prop := ∀ y ∈ ys, y.m ≠ 0
theorem good_first {a : Nat} {l : List UInt8} (hg : good (yields a l)) (h : l.drop (lead blB l) ≠ []) : (tokOf (l.drop (lead blB l))).2.2 ≠ 0 := by
  intro h0
  rw [yields_none a l h h0] at hg
  exact hg _ (List.mem_singleton.2 rfl) rfl
theorem good_rest {a : Nat} {l : List UInt8} (hg : good (yields a l)) (h : l.drop (lead blB l) ≠ []) :
    good (yields (a + lead blB l + (tokOf (l.drop (lead blB l))).2.2) ((l.drop (lead blB l)).drop (tokOf (l.drop (lead blB l))).2.2)) := by
  have h0 := good_first hg h
  rw [yields_more a l h h0] at hg
  exact fun y hy => hg y (List.mem_cons_of_mem _ hy)

theorem yields_bad (c : UInt8) (hd : digB c = false) (hl : letB c = false) (ho : c ≠ 60 ∧ c ≠ 61 ∧ c ≠ 33 ∧ c ≠ 62) (hs : signB c = false) (hb : blB c = false) :
    ∀ (n a : Nat) (l : List UInt8), l.length ≤ n → good (yields a l) → yields a (l ++ [c]) = yields a l ++ [⟨⟨0, 0, a + l.length⟩, 0⟩] := by
  intro n
  induction n with
  | zero =>
    intro a l hn _
    obtain rfl : l = [] := List.eq_nil_of_length_eq_zero (by omega)
    rw [yields_end a [] (by simp), List.nil_append, yields_none a [c] (by rw [lead_zero _ _ _ hb]; simp) (by rw [lead_zero _ _ _ hb, List.drop_zero, tokOf_unknown c [] hd hl ho hs]), lead_zero _ _ _ hb, List.drop_zero, tokOf_unknown c [] hd hl ho hs]
    simp
  | succ n ih =>
    intro a l hn hg
    by_cases h : l.drop (lead blB l) = []
    · have hk := (drop_lead_nil blB l).1 h
      have hk' : lead blB (l ++ [c]) = l.length := by rw [lead_append, if_pos hk, lead_zero _ _ _ hb]; rfl
      have hdr : (l ++ [c]).drop l.length = [c] := by simp
      rw [yields_end a l h, yields_none a (l ++ [c]) (by rw [hk', hdr]; simp) (by rw [hk', hdr, tokOf_unknown c [] hd hl ho hs]), hk', hdr, tokOf_unknown c [] hd hl ho hs]
      simp
    · have h0 := good_first hg h
      have hgr := good_rest hg h
      have hk : lead blB l ≠ l.length := fun e => h ((drop_lead_nil blB l).2 e)
      have hle := lead_le blB l
      have hk' : lead blB (l ++ [c]) = lead blB l := by rw [lead_append, if_neg hk]
      have hdr : (l ++ [c]).drop (lead blB l) = l.drop (lead blB l) ++ [c] := by rw [List.drop_append_of_le_length hle]
      have hm := tokOf_le (l.drop (lead blB l))
      have hst : tokOf (l.drop (lead blB l) ++ [c]) = tokOf (l.drop (lead blB l)) := by
        have e := List.take_append_drop (tokOf (l.drop (lead blB l))).2.2 (l.drop (lead blB l))
        have hlen : ((l.drop (lead blB l)).take (tokOf (l.drop (lead blB l))).2.2).length = (tokOf (l.drop (lead blB l))).2.2 := by rw [List.length_take]; omega
        have := tok_stable ((l.drop (lead blB l)).take (tokOf (l.drop (lead blB l))).2.2) ((l.drop (lead blB l)).drop (tokOf (l.drop (lead blB l))).2.2) ((l.drop (lead blB l)).drop (tokOf (l.drop (lead blB l))).2.2 ++ [c])
          (fun e0 => by rw [e0] at hlen; exact h0 hlen.symm) (by rw [e]; exact hlen.symm) (by
            cases hr : (l.drop (lead blB l)).drop (tokOf (l.drop (lead blB l))).2.2 with
            | nil => exact .inr (fun x hx => by simp at hx; subst hx; exact ⟨hd, hl, ho.2.1⟩)
            | cons x r => exact .inl (by simp))
        rw [← List.append_assoc, e] at this
        exact this
      rw [yields_more a l h h0, yields_more a (l ++ [c]) (by rw [hk', hdr]; simp) (by rw [hk', hdr, hst]; exact h0), hk', hdr, hst, List.drop_append_of_le_length hm,
        ih _ _ (by simp only [List.length_drop] at hm ⊢; omega) hgr, List.cons_append]
      congr 3
      simp only [List.length_drop] at hm ⊢
      simp only [Y.mk.injEq, Tok.mk.injEq, true_and, and_true]
      omega

theorem yields_range : ∀ (n a : Nat) (l : List UInt8), l.length ≤ n → ∀ y ∈ yields a l, (a : Int) ≤ y.t.at' ∧ y.t.at' + y.m ≤ a + l.length := by
  intro n
  induction n with
  | zero =>
    intro a l hn y hy
    obtain rfl : l = [] := List.eq_nil_of_length_eq_zero (by omega)
    rw [yields_end a [] (by simp)] at hy
    cases hy
  | succ n ih =>
    intro a l hn y hy
    have hle := lead_le blB l
    by_cases h : l.drop (lead blB l) = []
    · rw [yields_end a l h] at hy; cases hy
    · by_cases h0 : (tokOf (l.drop (lead blB l))).2.2 = 0
      · rw [yields_none a l h h0] at hy
        obtain rfl := List.mem_singleton.1 hy
        simp only []
        omega
      · have hm := tokOf_le (l.drop (lead blB l))
        rw [yields_more a l h h0] at hy
        rcases List.mem_cons.1 hy with rfl | hy
        · simp only [List.length_drop] at hm ⊢
          omega
        · have := ih _ _ (by simp only [List.length_drop] at hm ⊢; omega) y hy
          simp only [List.length_drop] at hm this
          omega
def Y.shift (y : Y) (j : Nat) : Y := ⟨⟨y.t.kind, y.t.n, y.t.at' + j⟩, y.m⟩
theorem yieldsF_shift (j : Nat) : ∀ (f a : Nat) (l : List UInt8), yieldsF f (a + j) l = (yieldsF f a l).map (·.shift j)
  | 0, _, _ => rfl
  | f + 1, a, l => by
    unfold yieldsF
    split
    · rfl
    · rw [List.map_cons]
      congr 1
      · simp only [Y.shift, Y.mk.injEq, Tok.mk.injEq, true_and, and_true]; omega
      · split
        · rfl
        · rw [← yieldsF_shift j f, show a + j + lead blB l + (tokOf (l.drop (lead blB l))).2.2 = a + lead blB l + (tokOf (l.drop (lead blB l))).2.2 + j from by omega]
theorem yields_shift (j a : Nat) (l : List UInt8) : yields (a + j) l = (yields a l).map (·.shift j) := yieldsF_shift j _ a l
theorem yields_blank (a : Nat) (l : List UInt8) : yields a (32 :: l) = yields (a + 1) l := by
  have hl : lead blB (32 :: l) = lead blB l + 1 := by rw [lead_cons, if_pos (by decide)]
  have hd : (32 :: l).drop (lead blB (32 :: l)) = l.drop (lead blB l) := by rw [hl, List.drop_succ_cons]
  by_cases h : l.drop (lead blB l) = []
  · rw [yields_end a _ (by rw [hd]; exact h), yields_end _ _ h]
  · by_cases h0 : (tokOf (l.drop (lead blB l))).2.2 = 0
    · rw [yields_none a _ (by rw [hd]; exact h) (by rw [hd]; exact h0), yields_none _ _ h h0, hd, hl]
      simp only [List.cons.injEq, Y.mk.injEq, Tok.mk.injEq, true_and, and_true]; omega
    · rw [yields_more a _ (by rw [hd]; exact h) (by rw [hd]; exact h0), yields_more _ _ h h0, hd, hl]
      rw [show a + (lead blB l + 1) = a + 1 + lead blB l from by omega]
      congr 1
      simp only [Y.mk.injEq, Tok.mk.injEq, true_and, and_true]; omega

theorem shift_zero (ys : List Y) : ys.map (·.shift 0) = ys := by
  conv => rhs; rw [← List.map_id ys]
  refine List.map_congr_left fun y _ => ?_
  simp [Y.shift]

/-- a blank where token k begins, or the text ends -/
theorem yields_cut : ∀ (n a : Nat) (l : List UInt8), l.length ≤ n → good (yields a l) → ∀ (k c : Nat), (a + c : Int) = ((yields a l)[k]?.map (·.t.at')).getD (a + l.length) → k ≤ (yields a l).length →
    yields a (l.take c ++ 32 :: l.drop c) = (yields a l).take k ++ ((yields a l).drop k).map (·.shift 1) := by
  intro n
  induction n with
  | zero =>
    intro a l hn _ k c hc hk
    obtain rfl : l = [] := List.eq_nil_of_length_eq_zero (by omega)
    rw [yields_end a [] (by simp)] at hc hk ⊢
    simp at hc hk
    subst hk
    simp only [List.take_nil, List.drop_nil, List.nil_append, yields_blank, yields_end _ [] (by simp : [].drop (lead blB []) = [])]
    rfl
  | succ n ih =>
    intro a l hn hg k c hc hk
    by_cases h : l.drop (lead blB l) = []
    · have hk1 := (drop_lead_nil blB l).1 h
      rw [yields_end a l h] at hc hk ⊢
      simp at hc hk
      subst hk
      obtain rfl : c = l.length := by omega
      simp only [List.take_length, List.drop_length, List.take_nil, List.drop_nil, List.map_nil, List.append_nil]
      refine yields_end _ _ ?_
      rw [drop_lead_nil, lead_append, if_pos hk1, lead_cons, if_pos (by decide), lead_nil]
      simp
    · have h0 := good_first hg h
      have hgr := good_rest hg h
      have hk1 : lead blB l ≠ l.length := fun e => h ((drop_lead_nil blB l).2 e)
      have hle := lead_le blB l
      have hm := tokOf_le (l.drop (lead blB l))
      have hsub := yields_more a l h h0
      cases k with
      | zero =>
        rw [hsub] at hc
        simp at hc
        obtain rfl : c = lead blB l := by omega
        simp only [List.take_zero, List.nil_append, List.drop_zero]
        have hl1 : lead blB (l.take (lead blB l)) = (l.take (lead blB l)).length := by
          have := lead_append blB (l.take (lead blB l)) (l.drop (lead blB l))
          rw [List.take_append_drop] at this
          have hlt : (l.take (lead blB l)).length = lead blB l := by rw [List.length_take]; omega
          split at this
          · assumption
          · rw [← this, hlt]
        have hlt : (l.take (lead blB l)).length = lead blB l := by rw [List.length_take]; omega
        obtain ⟨x, r, hx⟩ : ∃ x r, l.drop (lead blB l) = x :: r := by
          rcases e : l.drop (lead blB l) with _ | ⟨x, r⟩
          · exact absurd e h
          · exact ⟨x, r, rfl⟩
        have hxb := drop_lead blB x l r hx
        have hl2 : lead blB (l.take (lead blB l) ++ 32 :: l.drop (lead blB l)) = lead blB l + 1 := by
          rw [lead_append, if_pos hl1, hlt, lead_cons, if_pos (by decide), hx, lead_zero _ _ _ hxb]
        have hd2 : (l.take (lead blB l) ++ 32 :: l.drop (lead blB l)).drop (lead blB l + 1) = l.drop (lead blB l) := by
          rw [List.drop_append, List.drop_of_length_le (by omega), hlt, List.nil_append, show lead blB l + 1 - lead blB l = 1 from by omega]; rfl
        rw [yields_more a _ (by rw [hl2, hd2]; exact h) (by rw [hl2, hd2]; exact h0), hl2, hd2, ← yields_shift, yields_more (a + 1) l h h0]
        rw [show a + (lead blB l + 1) = a + 1 + lead blB l from by omega]
        congr 1
        simp only [Y.mk.injEq, Tok.mk.injEq, true_and, and_true]; omega
      | succ k =>
        rw [hsub] at hc hk
        simp only [List.getElem?_cons_succ, List.length_cons] at hc hk
        -- the cut lies behind the first token
        generalize hM : (tokOf (l.drop (lead blB l))).2.2 = M at *
        have hge : lead blB l + M ≤ c ∧ c ≤ l.length := by
          have hr := yields_range l.length (a + lead blB l + M) ((l.drop (lead blB l)).drop M) (by simp)
          simp only [List.length_drop] at hm
          cases hy : (yields (a + lead blB l + M) ((l.drop (lead blB l)).drop M))[k]? with
          | none => rw [hy] at hc; simp at hc; omega
          | some y =>
            rw [hy] at hc
            have := hr y (List.mem_of_getElem? hy)
            simp only [List.length_drop, Option.map_some, Option.getD_some] at this hc
            omega
        obtain ⟨c', rfl⟩ : ∃ c', c = lead blB l + M + c' := ⟨c - (lead blB l + M), by omega⟩
        have e1 : l.take (lead blB l + M + c') = l.take (lead blB l) ++ ((l.drop (lead blB l)).take M ++ ((l.drop (lead blB l)).drop M).take c') := by
          rw [Nat.add_assoc, List.take_add, List.take_add]
        have e2 : l.drop (lead blB l + M + c') = ((l.drop (lead blB l)).drop M).drop c' := by
          rw [List.drop_drop, List.drop_drop, Nat.add_assoc]
        have hlt : (l.take (lead blB l)).length = lead blB l := by rw [List.length_take]; omega
        have hl1 : lead blB (l.take (lead blB l)) = (l.take (lead blB l)).length := by
          have := lead_append blB (l.take (lead blB l)) (l.drop (lead blB l))
          rw [List.take_append_drop] at this
          split at this
          · assumption
          · rw [← this, hlt]
        obtain ⟨x, r, hx⟩ : ∃ x r, l.drop (lead blB l) = x :: r := by
          rcases e : l.drop (lead blB l) with _ | ⟨x, r⟩
          · exact absurd e h
          · exact ⟨x, r, rfl⟩
        have hxb := drop_lead blB x l r hx
        have hlen : ((l.drop (lead blB l)).take M).length = M := by rw [List.length_take]; omega
        have hst : tokOf ((l.drop (lead blB l)).take M ++ (((l.drop (lead blB l)).drop M).take c' ++ 32 :: ((l.drop (lead blB l)).drop M).drop c')) = tokOf (l.drop (lead blB l)) := by
          have e := List.take_append_drop M (l.drop (lead blB l))
          have := tok_stable ((l.drop (lead blB l)).take M) ((l.drop (lead blB l)).drop M) (((l.drop (lead blB l)).drop M).take c' ++ 32 :: ((l.drop (lead blB l)).drop M).drop c')
            (fun e0 => by rw [e0] at hlen; exact h0 hlen.symm) (by rw [e, hM]; exact hlen.symm) (by
              cases c' with
              | zero => exact .inr (fun x hx => by simp at hx; subst hx; decide)
              | succ c' =>
                cases hr : (l.drop (lead blB l)).drop M with
                | nil => exact .inr (fun x hx => by simp at hx; subst hx; decide)
                | cons x r => exact .inl (by simp))
          rw [e] at this
          exact this
        have hL : l.take (lead blB l + M + c') ++ 32 :: l.drop (lead blB l + M + c') = l.take (lead blB l) ++ ((l.drop (lead blB l)).take M ++ (((l.drop (lead blB l)).drop M).take c' ++ 32 :: ((l.drop (lead blB l)).drop M).drop c')) := by
          rw [e1, e2, List.append_assoc, List.append_assoc]
        rw [hL]
        have hne : (l.drop (lead blB l)).take M ≠ [] := fun e0 => by rw [e0] at hlen; exact h0 hlen.symm
        have hl2 : lead blB (l.take (lead blB l) ++ ((l.drop (lead blB l)).take M ++ (((l.drop (lead blB l)).drop M).take c' ++ 32 :: ((l.drop (lead blB l)).drop M).drop c'))) = lead blB l := by
          rw [lead_append, if_pos hl1, hlt, hx]
          obtain ⟨M', rfl⟩ : ∃ M', M = M' + 1 := ⟨M - 1, by omega⟩
          rw [List.take_succ_cons, List.cons_append, lead_zero _ _ _ hxb]; rfl
        have hd2 : (l.take (lead blB l) ++ ((l.drop (lead blB l)).take M ++ (((l.drop (lead blB l)).drop M).take c' ++ 32 :: ((l.drop (lead blB l)).drop M).drop c'))).drop (lead blB l) = (l.drop (lead blB l)).take M ++ (((l.drop (lead blB l)).drop M).take c' ++ 32 :: ((l.drop (lead blB l)).drop M).drop c') := by
          rw [List.drop_append, List.drop_of_length_le (by omega), hlt, Nat.sub_self]; rfl
        have hd3 : ((l.drop (lead blB l)).take M ++ (((l.drop (lead blB l)).drop M).take c' ++ 32 :: ((l.drop (lead blB l)).drop M).drop c')).drop M = ((l.drop (lead blB l)).drop M).take c' ++ 32 :: ((l.drop (lead blB l)).drop M).drop c' := by
          rw [List.drop_append, List.drop_of_length_le (by omega), hlen, Nat.sub_self]; rfl
        rw [yields_more a _ (by rw [hl2, hd2]; simp [hne]) (by rw [hl2, hd2, hst, hM]; exact h0), hl2, hd2, hst, hM, hd3,
          ih (a + lead blB l + M) ((l.drop (lead blB l)).drop M) (by simp only [List.length_drop] at hm ⊢; omega) hgr k c' (by simp only [List.length_drop] at hc hm ⊢; simp only [Int.natCast_add] at hc ⊢; rw [← Int.add_assoc, ← Int.add_assoc] at hc; rw [hc]; congr 1; omega) (by omega), hsub]
        rfl
end Go.Proofs.YtafgincpoahefaaDoor

namespace Go.Proofs.YtafgincpoahefaaDoor
open Go.RowKit

/-- a token's bytes -/
def textOf (kind n : Int) : List UInt8 :=
  if kind = 1 ∧ 0 ≤ n ∧ n ≤ 1099511627776 then Lib.itoa n
  else if kind = 2 ∧ 0 ≤ n ∧ n < 26 then [UInt8.ofNat (97 + n.toNat)]
  else if kind = 3 ∧ n = 0 then within
  else if kind = 4 ∧ 0 < n ∧ n < 7 then opText n.toNat
  else if kind = 5 ∧ 0 < n ∧ n < 128 ∧ signB (UInt8.ofNat n.toNat) = true then [UInt8.ofNat n.toNat]
  else []

theorem opText_app (c : UInt8) (r : List UInt8) (h : 0 < opOf (c :: r)) : (c :: r).take (opText (opOf (c :: r))).length = opText (opOf (c :: r)) ∧ opOf (c :: r) < 7 := by
  cases r with
  | nil =>
    simp only [opOf, List.head?_nil] at h ⊢
    (repeat' split at h) <;> simp_all [opText]
  | cons x r =>
    simp only [opOf, List.head?_cons] at h ⊢
    by_cases hx : x = 61
    · subst hx
      (repeat' split at h) <;> simp_all [opText]
    · have hx' : ¬ some x = some (61 : UInt8) := fun e => hx (Option.some.inj e)
      simp only [hx', if_false] at h ⊢
      (repeat' split at h) <;> simp_all [opText]

theorem readOf_nonneg (l : List UInt8) (h : lead digB l = l.length) (h0 : (readOf l).2 = 0) : 0 ≤ (readOf l).1 := by
  cases l with
  | nil => rw [readOf_nil] at h0; cases h0
  | cons c r =>
    have hall : (c :: r).all digB = true := by
      have : ∀ (l : List UInt8), lead digB l = l.length → l.all digB = true := by
        intro l
        induction l with
        | nil => intro _; rfl
        | cons c l ih =>
          intro h
          rw [lead_cons] at h
          by_cases hc : digB c = true
          · rw [if_pos hc] at h
            simp only [List.all_cons, hc, Bool.true_and]
            exact ih (by simpa using h)
          · rw [if_neg hc] at h; simp at h
      exact this _ h
    rw [readOf_plain c r hall] at h0 ⊢
    by_cases h1 : numeral (c :: r) = true
    · rw [if_pos h1] at h0 ⊢
      by_cases h2 : decVal 0 (c :: r) < 9223372036854775808
      · rw [if_pos h2]; simp
      · rw [if_neg h2]; simp
    · rw [if_neg h1]; simp

theorem lead_take (p : UInt8 → Bool) (l : List UInt8) : lead p (l.take (lead p l)) = lead p l ∧ (l.take (lead p l)).length = lead p l := by
  have hle := lead_le p l
  have hlt : (l.take (lead p l)).length = lead p l := by rw [List.length_take]; omega
  refine ⟨?_, hlt⟩
  have := lead_append p (l.take (lead p l)) (l.drop (lead p l))
  rw [List.take_append_drop] at this
  split at this
  · rename_i h; rw [h, hlt]
  · exact this.symm

/-- a token's bytes are those where it stands -/
theorem tok_text (l : List UInt8) (h : (tokOf l).2.2 ≠ 0) : textOf (tokOf l).1 (tokOf l).2.1 = l.take (tokOf l).2.2 := by
  unfold tokOf at h ⊢
  by_cases h1 : 0 < lead digB l
  · rw [if_pos h1] at h ⊢
    split at h
    · rename_i h2
      rw [if_pos h2]
      simp only []
      have hnn := readOf_nonneg (l.take (lead digB l)) (by rw [(lead_take digB l).1, (lead_take digB l).2]) h2.1
      unfold textOf
      rw [if_pos ⟨rfl, hnn, h2.2⟩]
      exact readOf_back _ _ (by rw [← h2.1])
    · exact absurd rfl h
  · rw [if_neg h1] at h ⊢
    by_cases h2 : 0 < lead letB l
    · rw [if_pos h2] at h ⊢
      obtain ⟨c, r, rfl, hc⟩ := (lead_pos letB l).1 h2
      have hcr : 97 ≤ c.toNat ∧ c.toNat ≤ 122 := by simpa [letB] using hc
      split at h
      · rename_i h3
        rw [if_pos h3]
        simp only [List.headD_cons]
        unfold textOf
        rw [if_neg (by omega), if_pos ⟨rfl, by omega, by omega⟩]
        rw [show 97 + ((c.toNat : Int) - 97).toNat = c.toNat from by omega, UInt8.ofNat_toNat]
        rfl
      · rename_i h3
        rw [if_neg h3]
        split at h
        · rename_i h4
          rw [if_pos h4]
          simp only []
          rw [h4]
          rfl
        · exact absurd rfl h
    · rw [if_neg h2] at h ⊢
      cases l with
      | nil => simp [opOf, signB, signL] at h
      | cons c r =>
        by_cases h3 : 0 < opOf (c :: r)
        · rw [if_pos h3]
          simp only []
          obtain ⟨e, h7⟩ := opText_app c r h3
          rw [e]
          unfold textOf
          rw [if_neg (by omega), if_neg (by omega), if_neg (by omega), if_pos ⟨rfl, by omega, by omega⟩]
          rfl
        · rw [if_neg h3] at h ⊢
          split at h
          · rename_i h4
            rw [if_pos h4]
            simp only [List.headD_cons] at h4 ⊢
            have hb : 0 < c.toNat ∧ c.toNat < 128 := by
              simp only [signB, signL, List.contains_iff_mem, List.mem_cons, List.not_mem_nil, or_false] at h4
              rcases h4 with rfl | rfl | rfl | rfl | rfl | rfl | rfl | rfl | rfl | rfl | rfl | rfl <;> decide
            unfold textOf
            rw [if_neg (by omega), if_neg (by omega), if_neg (by omega), if_neg (by omega), if_pos ⟨rfl, by omega, by omega, by rw [Int.toNat_natCast, UInt8.ofNat_toNat]; exact h4⟩]
            rw [Int.toNat_natCast, UInt8.ofNat_toNat]; rfl
          · exact absurd rfl h

/-- texts, one behind the other with a blank between each two -/
def joinT : List (List UInt8) → List UInt8
  | [] => []
  | [w] => w
  | w :: v :: ws => w ++ 32 :: joinT (v :: ws)

inductive Alike {α : Type} (R : α → α → Prop) : List α → List α → Prop
  | nil : Alike R [] []
  | cons {x y : α} {l r : List α} (h : R x y) (t : Alike R l r) : Alike R (x :: l) (y :: r)
def sameTok (y z : Y) : Prop := y.t.kind = z.t.kind ∧ y.t.n = z.t.n ∧ z.m ≠ 0

theorem yields_again : ∀ (n a : Nat) (l : List UInt8), l.length ≤ n → good (yields a l) → ∀ b : Nat,
    Alike sameTok (yields a l) (yields b (joinT ((yields a l).map fun y => textOf y.t.kind y.t.n))) := by
  intro n
  induction n with
  | zero =>
    intro a l hn _ b
    obtain rfl : l = [] := List.eq_nil_of_length_eq_zero (by omega)
    rw [yields_end a [] (by simp)]
    simp only [List.map_nil, joinT]
    rw [yields_end b [] (by simp)]
    exact .nil
  | succ n ih =>
    intro a l hn hg b
    by_cases h : l.drop (lead blB l) = []
    · rw [yields_end a l h]
      simp only [List.map_nil, joinT]
      rw [yields_end b [] (by simp)]
      exact .nil
    · have h0 := good_first hg h
      have hgr := good_rest hg h
      have hm := tokOf_le (l.drop (lead blB l))
      have ht := tok_text _ h0
      have hI := fun b => ih (a + lead blB l + (tokOf (l.drop (lead blB l))).2.2) ((l.drop (lead blB l)).drop (tokOf (l.drop (lead blB l))).2.2) (by simp only [List.length_drop] at hm ⊢; omega) hgr b
      rw [yields_more a l h h0]
      generalize hT : tokOf (l.drop (lead blB l)) = T at *
      generalize hys : yields (a + lead blB l + T.2.2) ((l.drop (lead blB l)).drop T.2.2) = ys at *
      have hlen : ((l.drop (lead blB l)).take T.2.2).length = T.2.2 := by rw [List.length_take]; omega
      have hne : (l.drop (lead blB l)).take T.2.2 ≠ [] := fun e0 => by rw [e0] at hlen; exact h0 hlen.symm
      obtain ⟨x, r, hx⟩ : ∃ x r, l.drop (lead blB l) = x :: r := by
        rcases e : l.drop (lead blB l) with _ | ⟨x, r⟩
        · exact absurd e h
        · exact ⟨x, r, rfl⟩
      have hxb : blB x = false := tokOf_head x r (by rw [← hx, hT]; exact h0)
      have key : ∀ s, (s = [] ∨ ∃ s', s = 32 :: s') → Alike sameTok ys (yields (b + T.2.2) s) →
          Alike sameTok (⟨⟨T.1, T.2.1, a + lead blB l⟩, T.2.2⟩ :: ys) (yields b ((l.drop (lead blB l)).take T.2.2 ++ s)) := by
        intro s hs hF
        have hst : tokOf ((l.drop (lead blB l)).take T.2.2 ++ s) = T := by
          have e := List.take_append_drop T.2.2 (l.drop (lead blB l))
          have := tok_stable ((l.drop (lead blB l)).take T.2.2) ((l.drop (lead blB l)).drop T.2.2) s hne (by rw [e, hT]; exact hlen.symm) (by
              rcases hs with rfl | ⟨s', rfl⟩
              · exact .inr (fun x hx => by simp at hx)
              · exact .inr (fun x hx => by simp at hx; subst hx; decide))
          rw [e, hT] at this
          exact this
        have hl0 : lead blB ((l.drop (lead blB l)).take T.2.2 ++ s) = 0 := by
          rw [hx]
          obtain ⟨M', hM'⟩ : ∃ M', T.2.2 = M' + 1 := ⟨T.2.2 - 1, by omega⟩
          rw [hM', List.take_succ_cons, List.cons_append, lead_zero _ _ _ hxb]
        have hd0 : ((l.drop (lead blB l)).take T.2.2 ++ s).drop 0 = (l.drop (lead blB l)).take T.2.2 ++ s := rfl
        have hd1 : ((l.drop (lead blB l)).take T.2.2 ++ s).drop T.2.2 = s := by
          rw [List.drop_append, List.drop_of_length_le (by omega), hlen, Nat.sub_self]; rfl
        rw [yields_more b _ (by rw [hl0, hd0]; simp [hne]) (by rw [hl0, hd0, hst]; exact h0), hl0, hd0, hst, hd1]
        exact .cons ⟨rfl, rfl, h0⟩ hF
      cases ys with
      | nil =>
        simp only [List.map_cons, List.map_nil, joinT, ht]
        have := key [] (.inl rfl) (by rw [yields_end _ [] (by simp)]; exact .nil)
        rwa [List.append_nil] at this
      | cons y ys =>
        simp only [List.map_cons, joinT, ht]
        refine key _ (.inr ⟨_, rfl⟩) ?_
        rw [yields_blank]
        simpa using hI (b + T.2.2 + 1)

theorem all_lead (p : UInt8 → Bool) : ∀ (l : List UInt8), l.all p = true → lead p l = l.length
  | [], _ => rfl
  | c :: l, h => by
    simp only [List.all_cons, Bool.and_eq_true] at h
    rw [lead_cons, if_pos h.1, all_lead p l h.2]; rfl

theorem itoa_nat (n : Int) (h : 0 ≤ n) : Lib.itoa n = Lib.decDigits n.toNat := by
  unfold Lib.itoa
  rw [if_neg (by omega)]

/-- a token's own bytes tell it, and nothing else -/
theorem tok_own (kind n : Int) (h : textOf kind n ≠ []) : tokOf (textOf kind n) = (kind, n, (textOf kind n).length) := by
  unfold textOf at h ⊢
  by_cases h1 : kind = 1 ∧ 0 ≤ n ∧ n ≤ 1099511627776
  · rw [if_pos h1]
    obtain ⟨rfl, h2, h3⟩ := h1
    have hnum := numeral_decDigits n.toNat
    have hall := numeral_all _ hnum.1
    have hl := all_lead digB _ hall
    rw [← itoa_nat n h2] at hl
    have hpos : 0 < (Lib.itoa n).length := by
      rw [itoa_nat n h2]
      cases e : Lib.decDigits n.toNat with
      | nil => rw [e] at hnum; simp [numeral] at hnum
      | cons c r => simp
    have hrd := readOf_itoa n (by omega)
    unfold tokOf
    rw [if_pos (by omega), hl, List.take_length, hrd, if_pos ⟨rfl, h3⟩]
  · rw [if_neg h1] at h ⊢
    by_cases h2 : kind = 2 ∧ 0 ≤ n ∧ n < 26
    · rw [if_pos h2]
      obtain ⟨rfl, h3, h4⟩ := h2
      have hn : (UInt8.ofNat (97 + n.toNat)).toNat = 97 + n.toNat := by rw [UInt8.toNat_ofNat']; omega
      have hd : digB (UInt8.ofNat (97 + n.toNat)) = false := by simp [digB]; omega
      have hl : letB (UInt8.ofNat (97 + n.toNat)) = true := by simp [letB]; omega
      unfold tokOf
      rw [lead_zero _ _ _ hd, if_neg (Nat.lt_irrefl 0), lead_cons, if_pos hl, lead_nil, if_pos (by decide), if_pos rfl]
      simp only [List.headD_cons, hn, List.length_cons, List.length_nil, Prod.mk.injEq, true_and, and_true]
      omega
    · rw [if_neg h2] at h ⊢
      by_cases h3 : kind = 3 ∧ n = 0
      · rw [if_pos h3]
        obtain ⟨rfl, rfl⟩ := h3
        decide
      · rw [if_neg h3] at h ⊢
        by_cases h4 : kind = 4 ∧ 0 < n ∧ n < 7
        · rw [if_pos h4]
          obtain ⟨rfl, h5, h6⟩ := h4
          have : n = 1 ∨ n = 2 ∨ n = 3 ∨ n = 4 ∨ n = 5 ∨ n = 6 := by omega
          rcases this with rfl | rfl | rfl | rfl | rfl | rfl <;> decide
        · rw [if_neg h4] at h ⊢
          by_cases h5 : kind = 5 ∧ 0 < n ∧ n < 128 ∧ signB (UInt8.ofNat n.toNat) = true
          · rw [if_pos h5]
            obtain ⟨rfl, h6, h7, h8⟩ := h5
            have hn : (UInt8.ofNat n.toNat).toNat = n.toNat := by rw [UInt8.toNat_ofNat']; omega
            generalize UInt8.ofNat n.toNat = c at *
            have hnc : n = c.toNat := by omega
            subst hnc
            clear h h1 h2 h3 h4 h6 h7 hn
            simp only [signB, signL, List.contains_iff_mem, List.mem_cons, List.not_mem_nil, or_false] at h8
            rcases h8 with rfl | rfl | rfl | rfl | rfl | rfl | rfl | rfl | rfl | rfl | rfl | rfl <;> decide
          · rw [if_neg h5] at h
            exact absurd rfl h
end Go.Proofs.YtafgincpoahefaaDoor
