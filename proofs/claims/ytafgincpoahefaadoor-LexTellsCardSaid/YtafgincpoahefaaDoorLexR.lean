/-
  lex, plain laws: a token's own bytes; tokens told again of their bytes.
-/
import Derived.Test.YtafgincpoahefaaDoorLexQ
namespace Go.Proofs.YtafgincpoahefaaDoor
open Go.RowKit

/-- a token's bytes -/
def textOf (kind n : Int) : List UInt8 :=
  if kind = 1 ∧ 0 ≤ n ∧ n ≤ 1099511627776 then Lib.itoa n
  else if kind = 2 ∧ 0 ≤ n ∧ n < 26 then [UInt8.ofNat (97 + n.toNat)]
  else if kind = 3 ∧ n = 0 then within
  else if kind = 4 ∧ 0 < n ∧ n < 7 then opText n.toNat
  else if kind = 5 ∧ 0 < n ∧ n < 128 ∧ signB (UInt8.ofNat n.toNat) = true then [UInt8.ofNat n.toNat]
  else []

theorem opText_app (c : UInt8) (r : List UInt8) (h : 0 < opOf (c :: r)) : (c :: r).take (opText (opOf (c :: r))).length = opText (opOf (c :: r)) ∧ opOf (c :: r) < 7 := by
  cases r with
  | nil =>
    simp only [opOf, List.head?_nil] at h ⊢
    (repeat' split at h) <;> simp_all [opText]
  | cons x r =>
    simp only [opOf, List.head?_cons] at h ⊢
    by_cases hx : x = 61
    · subst hx
      (repeat' split at h) <;> simp_all [opText]
    · have hx' : ¬ some x = some (61 : UInt8) := fun e => hx (Option.some.inj e)
      simp only [hx', if_false] at h ⊢
      (repeat' split at h) <;> simp_all [opText]

theorem readOf_nonneg (l : List UInt8) (h : lead digB l = l.length) (h0 : (readOf l).2 = 0) : 0 ≤ (readOf l).1 := by
  cases l with
  | nil => rw [readOf_nil] at h0; cases h0
  | cons c r =>
    have hall : (c :: r).all digB = true := by
      have : ∀ (l : List UInt8), lead digB l = l.length → l.all digB = true := by
        intro l
        induction l with
        | nil => intro _; rfl
        | cons c l ih =>
          intro h
          rw [lead_cons] at h
          by_cases hc : digB c = true
          · rw [if_pos hc] at h
            simp only [List.all_cons, hc, Bool.true_and]
            exact ih (by simpa using h)
          · rw [if_neg hc] at h; simp at h
      exact this _ h
    rw [readOf_plain c r hall] at h0 ⊢
    by_cases h1 : numeral (c :: r) = true
    · rw [if_pos h1] at h0 ⊢
      by_cases h2 : decVal 0 (c :: r) < 9223372036854775808
      · rw [if_pos h2]; simp
      · rw [if_neg h2]; simp
    · rw [if_neg h1]; simp

theorem lead_take (p : UInt8 → Bool) (l : List UInt8) : lead p (l.take (lead p l)) = lead p l ∧ (l.take (lead p l)).length = lead p l := by
  have hle := lead_le p l
  have hlt : (l.take (lead p l)).length = lead p l := by rw [List.length_take]; omega
  refine ⟨?_, hlt⟩
  have := lead_append p (l.take (lead p l)) (l.drop (lead p l))
  rw [List.take_append_drop] at this
  split at this
  · rename_i h; rw [h, hlt]
  · exact this.symm

/-- a token's bytes are those where it stands -/
theorem tok_text (l : List UInt8) (h : (tokOf l).2.2 ≠ 0) : textOf (tokOf l).1 (tokOf l).2.1 = l.take (tokOf l).2.2 := by
  unfold tokOf at h ⊢
  by_cases h1 : 0 < lead digB l
  · rw [if_pos h1] at h ⊢
    split at h
    · rename_i h2
      rw [if_pos h2]
      simp only []
      have hnn := readOf_nonneg (l.take (lead digB l)) (by rw [(lead_take digB l).1, (lead_take digB l).2]) h2.1
      unfold textOf
      rw [if_pos ⟨rfl, hnn, h2.2⟩]
      exact readOf_back _ _ (by rw [← h2.1])
    · exact absurd rfl h
  · rw [if_neg h1] at h ⊢
    by_cases h2 : 0 < lead letB l
    · rw [if_pos h2] at h ⊢
      obtain ⟨c, r, rfl, hc⟩ := (lead_pos letB l).1 h2
      have hcr : 97 ≤ c.toNat ∧ c.toNat ≤ 122 := by simpa [letB] using hc
      split at h
      · rename_i h3
        rw [if_pos h3]
        simp only [List.headD_cons]
        unfold textOf
        rw [if_neg (by omega), if_pos ⟨rfl, by omega, by omega⟩]
        rw [show 97 + ((c.toNat : Int) - 97).toNat = c.toNat from by omega, UInt8.ofNat_toNat]
        rfl
      · rename_i h3
        rw [if_neg h3]
        split at h
        · rename_i h4
          rw [if_pos h4]
          simp only []
          rw [h4]
          rfl
        · exact absurd rfl h
    · rw [if_neg h2] at h ⊢
      cases l with
      | nil => simp [opOf, signB, signL] at h
      | cons c r =>
        by_cases h3 : 0 < opOf (c :: r)
        · rw [if_pos h3]
          simp only []
          obtain ⟨e, h7⟩ := opText_app c r h3
          rw [e]
          unfold textOf
          rw [if_neg (by omega), if_neg (by omega), if_neg (by omega), if_pos ⟨rfl, by omega, by omega⟩]
          rfl
        · rw [if_neg h3] at h ⊢
          split at h
          · rename_i h4
            rw [if_pos h4]
            simp only [List.headD_cons] at h4 ⊢
            have hb : 0 < c.toNat ∧ c.toNat < 128 := by
              simp only [signB, signL, List.contains_iff_mem, List.mem_cons, List.not_mem_nil, or_false] at h4
              rcases h4 with rfl | rfl | rfl | rfl | rfl | rfl | rfl | rfl | rfl | rfl | rfl | rfl <;> decide
            unfold textOf
            rw [if_neg (by omega), if_neg (by omega), if_neg (by omega), if_neg (by omega), if_pos ⟨rfl, by omega, by omega, by rw [Int.toNat_natCast, UInt8.ofNat_toNat]; exact h4⟩]
            rw [Int.toNat_natCast, UInt8.ofNat_toNat]; rfl
          · exact absurd rfl h

/-- texts, one behind the other with a blank between each two -/
def joinT : List (List UInt8) → List UInt8
  | [] => []
  | [w] => w
  | w :: v :: ws => w ++ 32 :: joinT (v :: ws)

inductive Alike {α : Type} (R : α → α → Prop) : List α → List α → Prop
  | nil : Alike R [] []
  | cons {x y : α} {l r : List α} (h : R x y) (t : Alike R l r) : Alike R (x :: l) (y :: r)
def sameTok (y z : Y) : Prop := y.t.kind = z.t.kind ∧ y.t.n = z.t.n ∧ z.m ≠ 0

theorem yields_again : ∀ (n a : Nat) (l : List UInt8), l.length ≤ n → good (yields a l) → ∀ b : Nat,
    Alike sameTok (yields a l) (yields b (joinT ((yields a l).map fun y => textOf y.t.kind y.t.n))) := by
  intro n
  induction n with
  | zero =>
    intro a l hn _ b
    obtain rfl : l = [] := List.eq_nil_of_length_eq_zero (by omega)
    rw [yields_end a [] (by simp)]
    simp only [List.map_nil, joinT]
    rw [yields_end b [] (by simp)]
    exact .nil
  | succ n ih =>
    intro a l hn hg b
    by_cases h : l.drop (lead blB l) = []
    · rw [yields_end a l h]
      simp only [List.map_nil, joinT]
      rw [yields_end b [] (by simp)]
      exact .nil
    · have h0 := good_first hg h
      have hgr := good_rest hg h
      have hm := tokOf_le (l.drop (lead blB l))
      have ht := tok_text _ h0
      have hI := fun b => ih (a + lead blB l + (tokOf (l.drop (lead blB l))).2.2) ((l.drop (lead blB l)).drop (tokOf (l.drop (lead blB l))).2.2) (by simp only [List.length_drop] at hm ⊢; omega) hgr b
      rw [yields_more a l h h0]
      generalize hT : tokOf (l.drop (lead blB l)) = T at *
      generalize hys : yields (a + lead blB l + T.2.2) ((l.drop (lead blB l)).drop T.2.2) = ys at *
      have hlen : ((l.drop (lead blB l)).take T.2.2).length = T.2.2 := by rw [List.length_take]; omega
      have hne : (l.drop (lead blB l)).take T.2.2 ≠ [] := fun e0 => by rw [e0] at hlen; exact h0 hlen.symm
      obtain ⟨x, r, hx⟩ : ∃ x r, l.drop (lead blB l) = x :: r := by
        rcases e : l.drop (lead blB l) with _ | ⟨x, r⟩
        · exact absurd e h
        · exact ⟨x, r, rfl⟩
      have hxb : blB x = false := tokOf_head x r (by rw [← hx, hT]; exact h0)
      have key : ∀ s, (s = [] ∨ ∃ s', s = 32 :: s') → Alike sameTok ys (yields (b + T.2.2) s) →
          Alike sameTok (⟨⟨T.1, T.2.1, a + lead blB l⟩, T.2.2⟩ :: ys) (yields b ((l.drop (lead blB l)).take T.2.2 ++ s)) := by
        intro s hs hF
        have hst : tokOf ((l.drop (lead blB l)).take T.2.2 ++ s) = T := by
          have e := List.take_append_drop T.2.2 (l.drop (lead blB l))
          have := tok_stable ((l.drop (lead blB l)).take T.2.2) ((l.drop (lead blB l)).drop T.2.2) s hne (by rw [e, hT]; exact hlen.symm) (by
              rcases hs with rfl | ⟨s', rfl⟩
              · exact .inr (fun x hx => by simp at hx)
              · exact .inr (fun x hx => by simp at hx; subst hx; decide))
          rw [e, hT] at this
          exact this
        have hl0 : lead blB ((l.drop (lead blB l)).take T.2.2 ++ s) = 0 := by
          rw [hx]
          obtain ⟨M', hM'⟩ : ∃ M', T.2.2 = M' + 1 := ⟨T.2.2 - 1, by omega⟩
          rw [hM', List.take_succ_cons, List.cons_append, lead_zero _ _ _ hxb]
        have hd0 : ((l.drop (lead blB l)).take T.2.2 ++ s).drop 0 = (l.drop (lead blB l)).take T.2.2 ++ s := rfl
        have hd1 : ((l.drop (lead blB l)).take T.2.2 ++ s).drop T.2.2 = s := by
          rw [List.drop_append, List.drop_of_length_le (by omega), hlen, Nat.sub_self]; rfl
        rw [yields_more b _ (by rw [hl0, hd0]; simp [hne]) (by rw [hl0, hd0, hst]; exact h0), hl0, hd0, hst, hd1]
        exact .cons ⟨rfl, rfl, h0⟩ hF
      cases ys with
      | nil =>
        simp only [List.map_cons, List.map_nil, joinT, ht]
        have := key [] (.inl rfl) (by rw [yields_end _ [] (by simp)]; exact .nil)
        rwa [List.append_nil] at this
      | cons y ys =>
        simp only [List.map_cons, joinT, ht]
        refine key _ (.inr ⟨_, rfl⟩) ?_
        rw [yields_blank]
        simpa using hI (b + T.2.2 + 1)

theorem all_lead (p : UInt8 → Bool) : ∀ (l : List UInt8), l.all p = true → lead p l = l.length
  | [], _ => rfl
  | c :: l, h => by
    simp only [List.all_cons, Bool.and_eq_true] at h
    rw [lead_cons, if_pos h.1, all_lead p l h.2]; rfl

theorem itoa_nat (n : Int) (h : 0 ≤ n) : Lib.itoa n = Lib.decDigits n.toNat := by
  unfold Lib.itoa
  rw [if_neg (by omega)]

/-- a token's own bytes tell it, and nothing else -/
theorem tok_own (kind n : Int) (h : textOf kind n ≠ []) : tokOf (textOf kind n) = (kind, n, (textOf kind n).length) := by
  unfold textOf at h ⊢
  by_cases h1 : kind = 1 ∧ 0 ≤ n ∧ n ≤ 1099511627776
  · rw [if_pos h1]
    obtain ⟨rfl, h2, h3⟩ := h1
    have hnum := numeral_decDigits n.toNat
    have hall := numeral_all _ hnum.1
    have hl := all_lead digB _ hall
    rw [← itoa_nat n h2] at hl
    have hpos : 0 < (Lib.itoa n).length := by
      rw [itoa_nat n h2]
      cases e : Lib.decDigits n.toNat with
      | nil => rw [e] at hnum; simp [numeral] at hnum
      | cons c r => simp
    have hrd := readOf_itoa n (by omega)
    unfold tokOf
    rw [if_pos (by omega), hl, List.take_length, hrd, if_pos ⟨rfl, h3⟩]
  · rw [if_neg h1] at h ⊢
    by_cases h2 : kind = 2 ∧ 0 ≤ n ∧ n < 26
    · rw [if_pos h2]
      obtain ⟨rfl, h3, h4⟩ := h2
      have hn : (UInt8.ofNat (97 + n.toNat)).toNat = 97 + n.toNat := by rw [UInt8.toNat_ofNat']; omega
      have hd : digB (UInt8.ofNat (97 + n.toNat)) = false := by simp [digB]; omega
      have hl : letB (UInt8.ofNat (97 + n.toNat)) = true := by simp [letB]; omega
      unfold tokOf
      rw [lead_zero _ _ _ hd, if_neg (Nat.lt_irrefl 0), lead_cons, if_pos hl, lead_nil, if_pos (by decide), if_pos rfl]
      simp only [List.headD_cons, hn, List.length_cons, List.length_nil, Prod.mk.injEq, true_and, and_true]
      omega
    · rw [if_neg h2] at h ⊢
      by_cases h3 : kind = 3 ∧ n = 0
      · rw [if_pos h3]
        obtain ⟨rfl, rfl⟩ := h3
        decide
      · rw [if_neg h3] at h ⊢
        by_cases h4 : kind = 4 ∧ 0 < n ∧ n < 7
        · rw [if_pos h4]
          obtain ⟨rfl, h5, h6⟩ := h4
          have : n = 1 ∨ n = 2 ∨ n = 3 ∨ n = 4 ∨ n = 5 ∨ n = 6 := by omega
          rcases this with rfl | rfl | rfl | rfl | rfl | rfl <;> decide
        · rw [if_neg h4] at h ⊢
          by_cases h5 : kind = 5 ∧ 0 < n ∧ n < 128 ∧ signB (UInt8.ofNat n.toNat) = true
          · rw [if_pos h5]
            obtain ⟨rfl, h6, h7, h8⟩ := h5
            have hn : (UInt8.ofNat n.toNat).toNat = n.toNat := by rw [UInt8.toNat_ofNat']; omega
            generalize UInt8.ofNat n.toNat = c at *
            have hnc : n = c.toNat := by omega
            subst hnc
            clear h h1 h2 h3 h4 h6 h7 hn
            simp only [signB, signL, List.contains_iff_mem, List.mem_cons, List.not_mem_nil, or_false] at h8
            rcases h8 with rfl | rfl | rfl | rfl | rfl | rfl | rfl | rfl | rfl | rfl | rfl | rfl <;> decide
          · rw [if_neg h5] at h
            exact absurd rfl h
end Go.Proofs.YtafgincpoahefaaDoor
