/-
  ParseMore, plain: a text with one step more ahead of the word within.
-/
import Derived.Test.YtafgincpoahefaaDoorPlD
namespace Go.Proofs.YtafgincpoahefaaDoor
open Go.RowKit

/-- a token's bytes ahead of others that may stand there -/
theorem yields_item (a : Nat) (k n : Int) (r : List UInt8) (h1 : textOf k n ≠ []) (h2 : ∀ c, r.head? = some c → apartB (textOf k n) c = true) :
    yields a (textOf k n ++ r) = ⟨⟨k, n, a⟩, (textOf k n).length⟩ :: yields (a + (textOf k n).length) r := by
  have ho := tok_own k n h1
  have hap := tok_apart (textOf k n) r h1 (by rw [ho]) h2
  rw [ho] at hap
  obtain ⟨c, v, hc⟩ : ∃ c v, textOf k n = c :: v := by
    cases e : textOf k n with
    | nil => exact absurd e h1
    | cons c v => exact ⟨c, v, rfl⟩
  have hb := text_head_nb k n c v hc
  have hz : lead blB (textOf k n ++ r) = 0 := by rw [hc]; exact lead_zero _ _ _ hb
  have hy := yields_more a (textOf k n ++ r) (by rw [hz, hc]; simp) (by rw [hz, List.drop_zero, hap]; simp [hc])
  rw [hz, List.drop_zero, hap] at hy
  simp only [List.drop_left] at hy
  rw [hy, Nat.add_zero, Int.natCast_zero, Int.add_zero]
/-- the bytes of one step more, and of what tokens they are -/
def sepC (strict : Bool) : Int := if strict = true then 44 else 59
def moreB (strict neg : Bool) (kind n : Nat) : List UInt8 := (if strict = true then [44] else [59]) ++ ((if neg = true then [33] else []) ++ [UInt8.ofNat (48 + kind), UInt8.ofNat (97 + n), 32])
def moreT (strict neg : Bool) (kind n c : Nat) : List Tok := ⟨5, sepC strict, c⟩ :: ((if neg = true then [⟨5, 33, (c + 1 : Nat)⟩] else []) ++ [⟨1, kind, (c + (if neg = true then 2 else 1) : Nat)⟩, ⟨2, n, (c + (if neg = true then 3 else 2) : Nat)⟩])
def moreN (neg : Bool) : Nat := if neg = true then 5 else 4
theorem digit_text {k : Nat} (h : k < 10) : textOf 1 k = [UInt8.ofNat (48 + k)] := by
  rw [textOf_num (by omega) (by omega), itoa_nat _ (by omega), Int.toNat_natCast, Lib.decDigits_one h]
theorem letter_text {n : Nat} (h : n < 26) : textOf 2 n = [UInt8.ofNat (97 + n)] := textOf_let (by omega) (by omega)
theorem digit_apart {k n : Nat} (h : k < 10) (h' : n < 26) : apartB [UInt8.ofNat (48 + k)] (UInt8.ofNat (97 + n)) = true := by
  have h1 : k = 0 ∨ k = 1 ∨ k = 2 ∨ k = 3 ∨ k = 4 ∨ k = 5 ∨ k = 6 ∨ k = 7 ∨ k = 8 ∨ k = 9 := by omega
  have h2 : digB (UInt8.ofNat (97 + n)) = false := by
    have : ∀ m : Fin 26, digB (UInt8.ofNat (97 + m.val)) = false := by decide
    exact this ⟨n, h'⟩
  unfold apartB
  rw [h2]
  rcases h1 with rfl | rfl | rfl | rfl | rfl | rfl | rfl | rfl | rfl | rfl <;> rfl
theorem letter_apart {n : Nat} (h : n < 26) : apartB [UInt8.ofNat (97 + n)] 32 = true := by
  have : ∀ m : Fin 26, apartB [UInt8.ofNat (97 + m.val)] 32 = true := by decide
  exact this ⟨n, h⟩
theorem sign_apart {k : Nat} (h : k < 10) (c : Nat) (hc : c = 44 ∨ c = 59 ∨ c = 33) : apartB [UInt8.ofNat c] (UInt8.ofNat (48 + k)) = true := by
  have h1 : k = 0 ∨ k = 1 ∨ k = 2 ∨ k = 3 ∨ k = 4 ∨ k = 5 ∨ k = 6 ∨ k = 7 ∨ k = 8 ∨ k = 9 := by omega
  rcases hc with rfl | rfl | rfl <;> rcases h1 with rfl | rfl | rfl | rfl | rfl | rfl | rfl | rfl | rfl | rfl <;> decide
theorem yields_tail (kind n c : Nat) (hk : kind < 10) (hn : n < 26) (r : List UInt8) :
    yields c (UInt8.ofNat (48 + kind) :: UInt8.ofNat (97 + n) :: 32 :: r) = ⟨⟨1, kind, c⟩, 1⟩ :: ⟨⟨2, n, (c + 1 : Nat)⟩, 1⟩ :: yields (c + 3) r := by
  have e1 := yields_item c 1 kind (UInt8.ofNat (97 + n) :: 32 :: r) (by rw [digit_text hk]; simp) (by rw [digit_text hk]; intro x hx; cases hx; exact digit_apart hk hn)
  have e2 := yields_item (c + 1) 2 n (32 :: r) (by rw [letter_text hn]; simp) (by rw [letter_text hn]; intro x hx; cases hx; exact letter_apart hn)
  rw [digit_text hk] at e1
  rw [letter_text hn] at e2
  simp only [List.cons_append, List.nil_append, List.length_cons, List.length_nil, Nat.zero_add] at e1 e2
  rw [e1, e2, yields_blank]
theorem yields_moreB (strict neg : Bool) (kind n c : Nat) (hk : kind < 10) (hn : n < 26) (r : List UInt8) :
    ∃ ys : List Y, ys.map (·.t) = moreT strict neg kind n c ∧ good ys ∧ yields c (moreB strict neg kind n ++ r) = ys ++ yields (c + moreN neg) r := by
  have sg : ∀ (a : Nat) (b : Nat) (x : UInt8) (r : List UInt8), textOf 5 b = [UInt8.ofNat b] → apartB [UInt8.ofNat b] x = true → yields a (UInt8.ofNat b :: x :: r) = ⟨⟨5, b, a⟩, 1⟩ :: yields (a + 1) (x :: r) := fun a b x r h h' => by
    have e := yields_item a 5 b (x :: r) (by rw [h]; simp) (by rw [h]; intro y hy; cases hy; exact h')
    rw [h] at e
    simpa only [List.cons_append, List.nil_append, List.length_cons, List.length_nil, Nat.zero_add] using e
  have t44 : textOf 5 (44 : Nat) = [UInt8.ofNat 44] := by decide
  have t59 : textOf 5 (59 : Nat) = [UInt8.ofNat 59] := by decide
  have t33 : textOf 5 (33 : Nat) = [UInt8.ofNat 33] := by decide
  cases strict <;> cases neg
  · refine ⟨[⟨⟨5, 59, c⟩, 1⟩, ⟨⟨1, kind, (c + 1 : Nat)⟩, 1⟩, ⟨⟨2, n, (c + 2 : Nat)⟩, 1⟩], rfl, by intro y hy; simp at hy; rcases hy with rfl | rfl | rfl <;> simp, ?_⟩
    have e := sg c 59 (UInt8.ofNat (48 + kind)) (UInt8.ofNat (97 + n) :: 32 :: r) t59 (sign_apart hk 59 (by simp))
    rw [yields_tail kind n (c + 1) hk hn] at e
    exact e
  · refine ⟨[⟨⟨5, 59, c⟩, 1⟩, ⟨⟨5, 33, (c + 1 : Nat)⟩, 1⟩, ⟨⟨1, kind, (c + 2 : Nat)⟩, 1⟩, ⟨⟨2, n, (c + 3 : Nat)⟩, 1⟩], rfl, by intro y hy; simp at hy; rcases hy with rfl | rfl | rfl | rfl <;> simp, ?_⟩
    have e := sg c 59 33 (UInt8.ofNat (48 + kind) :: UInt8.ofNat (97 + n) :: 32 :: r) t59 (by decide)
    have e' := sg (c + 1) 33 (UInt8.ofNat (48 + kind)) (UInt8.ofNat (97 + n) :: 32 :: r) t33 (sign_apart hk 33 (by simp))
    rw [yields_tail kind n (c + 1 + 1) hk hn] at e'
    exact e.trans (congrArg _ e')
  · refine ⟨[⟨⟨5, 44, c⟩, 1⟩, ⟨⟨1, kind, (c + 1 : Nat)⟩, 1⟩, ⟨⟨2, n, (c + 2 : Nat)⟩, 1⟩], rfl, by intro y hy; simp at hy; rcases hy with rfl | rfl | rfl <;> simp, ?_⟩
    have e := sg c 44 (UInt8.ofNat (48 + kind)) (UInt8.ofNat (97 + n) :: 32 :: r) t44 (sign_apart hk 44 (by simp))
    rw [yields_tail kind n (c + 1) hk hn] at e
    exact e
  · refine ⟨[⟨⟨5, 44, c⟩, 1⟩, ⟨⟨5, 33, (c + 1 : Nat)⟩, 1⟩, ⟨⟨1, kind, (c + 2 : Nat)⟩, 1⟩, ⟨⟨2, n, (c + 3 : Nat)⟩, 1⟩], rfl, by intro y hy; simp at hy; rcases hy with rfl | rfl | rfl | rfl <;> simp, ?_⟩
    have e := sg c 44 33 (UInt8.ofNat (48 + kind) :: UInt8.ofNat (97 + n) :: 32 :: r) t44 (by decide)
    have e' := sg (c + 1) 33 (UInt8.ofNat (48 + kind)) (UInt8.ofNat (97 + n) :: 32 :: r) t33 (sign_apart hk 33 (by simp))
    rw [yields_tail kind n (c + 1 + 1) hk hn] at e'
    exact e.trans (congrArg _ e')
theorem moreB_stops (strict neg : Bool) (kind n : Nat) (r : List UInt8) : stops (moreB strict neg kind n ++ r) := by
  intro x hx
  cases strict <;> simp [moreB] at hx <;> subst hx <;> decide
theorem moreB_len (strict neg : Bool) (kind n : Nat) : (moreB strict neg kind n).length = moreN neg := by cases strict <;> cases neg <;> rfl
theorem all_more {l : List UInt8} (hl : l.length ≤ 1000) (hg : good (yields 0 l)) {k c : Nat} {t : Tok} (ht : (toksL l)[k]? = some t) (hc : t.at' = c) (strict neg : Bool) {kind n : Nat} (hk : kind < 10) (hn : n < 26) :
    allOf (l.take c ++ (moreB strict neg kind n ++ l.drop c)) = ((toksL l).take k ++ (moreT strict neg kind n c ++ ((toksL l).drop k).map (shiftT (moreN neg))), 0, 0) ∧ c ≤ l.length := by
  obtain ⟨hcl, h1, h2⟩ := yields_at hg ht hc (moreB strict neg kind n ++ l.drop c) (.inr (moreB_stops _ _ _ _ _))
  obtain ⟨ys, hys, hgy, hy⟩ := yields_moreB strict neg kind n c hk hn (l.drop c)
  have hlen : (l.take c ++ (moreB strict neg kind n ++ l.drop c)).length = l.length + moreN neg := by
    rw [List.length_append, List.length_append, moreB_len, List.length_take, List.length_drop]; omega
  have hm : moreN neg ≤ 5 := by unfold moreN; split <;> omega
  have hkl : k ≤ (yields 0 l).length := by
    have := (List.getElem?_eq_some_iff.1 ht).1
    rw [toksL_len] at this
    omega
  have hyy : yields 0 (l.take c ++ (moreB strict neg kind n ++ l.drop c)) = (yields 0 l).take k ++ (ys ++ ((yields 0 l).drop k).map (·.shift (moreN neg))) := by
    rw [h1, hy, yields_shift, h2]
  have hgood : good (yields 0 (l.take c ++ (moreB strict neg kind n ++ l.drop c))) := by
    rw [hyy]
    intro y hy'
    rcases List.mem_append.1 hy' with h | h
    · exact hg y (List.mem_of_mem_take h)
    · rcases List.mem_append.1 h with h | h
      · exact hgy y h
      · obtain ⟨z, hz, rfl⟩ := List.mem_map.1 h
        exact hg z (List.mem_of_mem_drop hz)
  refine ⟨?_, hcl⟩
  rw [all_mk (by omega) hgood]
  unfold toksL
  rw [hyy, hlen, List.take_append_of_le_length (by simpa using hkl), List.drop_append_of_le_length (by simpa using hkl), ← hys]
  simp only [List.map_append, List.map_take, List.map_drop, List.map_map, List.append_assoc]
  rfl
theorem simL_refl (l : List Tok) : simL l l := rfl
theorem simH_same (t : Tok) (r s : List Tok) : simH (t :: r) (t :: s) := ⟨t, r, t, s, rfl, rfl, simT.rfl' t⟩
theorem isS_head (c : Int) (t : Tok) (r s : List Tok) : isS c (t :: r) = isS c (t :: s) := rfl
/-- one step more behind steps -/
theorem ss_more : ∀ (n : Nat) (l : List Tok), l.length ≤ n → ∀ (i : Nat) (strict : Bool) v l', pSs i strict l = .ok (v, l') → ∃ pre, l = pre ++ l' ∧
    ∀ (sep : Tok) (st : Bool) (s : St) (x m : List Tok), sep.kind = 5 → sep.n = sepC st → pStep ((i + v.length : Nat) : Int) st x = .ok (s, m) → quiet [59, 44] m → pSs i strict (pre ++ sep :: x) = .ok (v ++ [s], m) := by
  intro n
  induction n with
  | zero =>
    intro l hl i strict v l' h
    obtain rfl := List.eq_nil_of_length_eq_zero (Nat.le_zero.1 hl)
    cases h
  | succ n ih =>
    intro l hl i strict v l' h
    rw [pSs_eq] at h
    obtain ⟨s1, l1, h1, h2⟩ := then_inv h
    have hlt := eats_step _ _ _ _ _ h1
    obtain ⟨pre1, hpre, _, hloc⟩ := (loc_step _ _ _).ok h1
    have goOn : ∀ (b : Int) (st1 : Bool), (b = 59 ∧ st1 = false ∨ (b = 44 ∧ st1 = true ∧ isS 59 l1 = false)) → isS b l1 = true → (thenR (pSs (i + 1) st1 l1.tail) fun ss l => .ok (s1 :: ss, l)) = .ok (v, l') → ∃ pre, l = pre ++ l' ∧
        ∀ (sep : Tok) (st : Bool) (s : St) (x m : List Tok), sep.kind = 5 → sep.n = sepC st → pStep ((i + v.length : Nat) : Int) st x = .ok (s, m) → quiet [59, 44] m → pSs i strict (pre ++ sep :: x) = .ok (v ++ [s], m) := by
      intro b st1 hb hs h2
      obtain ⟨ss, l2, h3, h4⟩ := then_inv h2
      cases h4
      have htl := tail_lt hs
      obtain ⟨t, r, rfl, _, _⟩ := isS_true hs
      obtain ⟨pre2, h5, h6⟩ := ih r (by simp at htl hlt; omega) (i + 1) st1 ss l' h3
      refine ⟨pre1 ++ t :: pre2, by rw [hpre, h5]; simp, fun sep st s x m k1 k2 k3 k4 => ?_⟩
      have e1 := hloc pre1 (t :: (pre2 ++ sep :: x)) (simL_refl _) (.inl (simH_same _ _ _))
      have e2 := h6 sep st s x m k1 k2 (by rw [show i + 1 + ss.length = i + (ss.length + 1) by omega]; exact k3) k4
      rw [pSs_eq, List.append_assoc, List.cons_append, e1]
      simp only [thenR]
      rw [isS_head 59 t _ r, isS_head 44 t _ r, List.tail_cons]
      rcases hb with ⟨rfl, rfl⟩ | ⟨rfl, rfl, h59⟩
      · rw [if_pos hs, e2]; rfl
      · rw [h59, if_neg (by simp), if_pos hs, e2]; rfl
    split at h2
    · rename_i hx; exact goOn 59 false (.inl ⟨rfl, rfl⟩) hx h2
    · rename_i h59
      split at h2
      · rename_i hx; exact goOn 44 true (.inr ⟨rfl, rfl, by simpa using h59⟩) hx h2
      · cases h2
        refine ⟨pre1, hpre, fun sep st s x m k1 k2 k3 k4 => ?_⟩
        have hq : quiet [123, 91] (sep :: x) := by
          intro c hc
          unfold isS
          simp only
          rw [k2]
          simp only [List.mem_cons, List.not_mem_nil, or_false] at hc
          rcases hc with rfl | rfl <;> cases st <;> simp [sepC]
        have e1 := hloc pre1 (sep :: x) (simL_refl _) (.inr hq)
        have e2 : pSs (i + 1) st x = .ok ([s], m) := by
          rw [pSs_eq]
          rw [show ((i + 1 : Nat) : Int) = ((i + [s1].length : Nat) : Int) from rfl, k3]
          simp only [thenR]
          rw [k4 59 (by simp), k4 44 (by simp)]
          rfl
        rw [pSs_eq, e1]
        simp only [thenR, List.tail_cons]
        cases st
        · rw [if_pos (isS_mk (c := 59) k1 k2 x), e2]; rfl
        · rw [if_neg (by unfold isS; simp [k2, sepC]), if_pos (isS_mk (c := 44) k1 k2 x), e2]; rfl
theorem step_more (i kind : Int) (st neg : Bool) (a b d : Int) (m : List Tok) (hq : quiet [123, 91] m) :
    pStep i st ((if neg = true then [⟨5, 33, a⟩] else []) ++ (⟨1, kind, b⟩ :: ⟨2, i, d⟩ :: m)) = .ok (⟨neg, kind, 1, 1, st, []⟩, m) := by
  have h1 : pTimes m = .ok ((1, 1), m) := by unfold pTimes; rw [hq 123 (by simp)]; rfl
  have h2 : pAsks m = .ok ([], m) := by unfold pAsks; rw [hq 91 (by simp)]; rfl
  have key : ∀ neg' : Bool, pStepN i st neg' (⟨1, kind, b⟩ :: ⟨2, i, d⟩ :: m) = .ok (⟨neg', kind, 1, 1, st, []⟩, m) := fun neg' => by
    unfold pStepN
    rw [take_yes (k := 1) (by decide) (t := ⟨1, kind, b⟩) rfl]
    simp only [thenR, pLetter, and_self, if_true]
    rw [h1]
    simp only [h2]
  cases neg
  · rw [pStep_if]
    simp only [Bool.false_eq_true, if_false, List.nil_append]
    rw [if_neg (by unfold isS; simp)]
    exact key false
  · rw [pStep_if]
    simp only [if_true, List.cons_append, List.nil_append]
    rw [if_pos (by unfold isS; simp)]
    exact key true
/-- a pattern's text with one step more ahead of the word within -/
theorem par_more {l : List UInt8} (hl : l.length ≤ 1000) {p : Pt} {a : Int} (hp : parseOf l = (p, a, 0)) (hn : p.steps.length < 26) {kind : Nat} (hk : kind < 10) (strict neg : Bool) :
    ∃ (k c : Nat) (t : Tok), allOf l = (toksL l, 0, 0) ∧ (toksL l).length = k + 3 ∧ (toksL l)[k]? = some t ∧ t.at' = c ∧ c ≤ l.length ∧
      parseOf (l.take c ++ (moreB strict neg kind p.steps.length ++ l.drop c)) = (⟨p.steps ++ [⟨neg, kind, 1, 1, strict, []⟩], p.window⟩, 0, 0) := by
  by_cases h0 : (allOf l).2.2 = 0
  · rcases ha : allOf l with ⟨ts, q, e⟩
    rw [ha] at h0
    simp only at h0
    subst h0
    obtain ⟨rfl, h1, h2, rfl⟩ := all_ok ha
    rcases r : pPat (toksL l) with b | ⟨p', r'⟩
    · rw [(parseOf_ts ha).1 _ r] at hp
      simp at hp
    · rw [(parseOf_ts ha).2 _ _ r] at hp
      simp only [Prod.mk.injEq, and_true] at hp
      obtain ⟨rfl, _⟩ := hp
      rw [pPat_eq] at r
      obtain ⟨ss, l1, r1, r⟩ := then_inv r
      obtain ⟨v2, l2, r2, r⟩ := then_inv r
      obtain ⟨w, l3, r3, r⟩ := then_inv r
      obtain ⟨v4, l4, r4, r⟩ := then_inv r
      cases r
      simp only at hn ⊢
      obtain ⟨pre, hpre, hmore⟩ := ss_more _ _ (Nat.le_refl _) 0 false _ _ r1
      obtain ⟨W, rfl, hW, _⟩ := take_inv (by decide) r2
      obtain ⟨N, rfl, hN, hNn⟩ := take_inv (by decide) r3
      have hend := toksL_end h2
      have hE : ∃ E : Tok, l3 = [E] ∧ E.kind = 0 := by
        cases l3 with
        | nil => cases r4
        | cons E z =>
          have hE0 : E.kind = 0 := by
            unfold pTake at r4
            simp only at r4
            split at r4
            · assumption
            · cases r4
          refine ⟨E, ?_, hE0⟩
          have := (loc_ss _ _ (Nat.le_refl _) 0 false).ok r1
          obtain ⟨pre', hp', he, _⟩ := this
          have h3 := he hend
          unfold endQ at h3
          rcases h3 with ⟨h, _⟩ | ⟨_, h3⟩
          · omega
          unfold endQ at h3
          rcases h3 with ⟨h, _⟩ | ⟨_, h3⟩
          · omega
          unfold endQ at h3
          rcases h3 with ⟨_, rfl⟩ | ⟨h, _⟩
          · rfl
          · exact absurd hE0 h
      obtain ⟨E, rfl, hE0⟩ := hE
      have hlen : (toksL l).length = pre.length + 3 := by rw [hpre]; simp
      have hget : (toksL l)[pre.length]? = some W := by rw [hpre]; simp
      obtain ⟨c, hc, hcl⟩ := toksL_place hget
      obtain ⟨hall, _⟩ := all_more hl h2 hget hc strict neg hk hn
      refine ⟨pre.length, c, W, trivial, hlen, hget, hc, hcl, ?_⟩
      have e1 : (toksL l).take pre.length = pre := by rw [hpre, List.take_left]
      have e2 : (toksL l).drop pre.length = [W, N, E] := by rw [hpre, List.drop_left]
      rw [e1, e2] at hall
      have hqW : ∀ (S : List Int), quiet S (shiftT (moreN neg) W :: shiftT (moreN neg) N :: [shiftT (moreN neg) E]) := fun S c _ => by
        unfold isS shiftT
        simp [hW]
      have hstep := step_more ((0 + ss.length : Nat) : Int) kind strict neg ((c + 1 : Nat) : Int) ((c + (if neg = true then 2 else 1) : Nat) : Int) ((c + (if neg = true then 3 else 2) : Nat) : Int)
        (shiftT (moreN neg) W :: shiftT (moreN neg) N :: [shiftT (moreN neg) E]) (hqW _)
      have hss := hmore ⟨5, sepC strict, c⟩ strict _ _ _ rfl rfl hstep (hqW _)
      refine (parseOf_ts hall).2 _ [shiftT (moreN neg) E] ?_
      have hts : pre ++ (moreT strict neg kind ss.length c ++ List.map (shiftT (moreN neg)) [W, N, E]) = pre ++ ⟨5, sepC strict, c⟩ :: ((if neg = true then [(⟨5, 33, ((c + 1 : Nat) : Int)⟩ : Tok)] else []) ++
          (⟨1, kind, ((c + (if neg = true then 2 else 1) : Nat) : Int)⟩ :: ⟨2, ((0 + ss.length : Nat) : Int), ((c + (if neg = true then 3 else 2) : Nat) : Int)⟩ :: (shiftT (moreN neg) W :: shiftT (moreN neg) N :: [shiftT (moreN neg) E]))) := by
        unfold moreT
        simp
      rw [hts, pPat_eq, hss]
      simp only [thenR]
      rw [take_yes (by decide) (show (shiftT (moreN neg) W).kind = 3 from hW)]
      simp only
      rw [take_yes (by decide) (show (shiftT (moreN neg) N).kind = 1 from hN)]
      simp only
      rw [end_yes (show (shiftT (moreN neg) E).kind = 0 from hE0)]
      simp only
      rw [show (shiftT (moreN neg) N).n = w from hNn]
  · rw [parse_none h0] at hp
    simp only [Prod.mk.injEq] at hp
    exact absurd hp.2.2 h0
end Go.Proofs.YtafgincpoahefaaDoor
