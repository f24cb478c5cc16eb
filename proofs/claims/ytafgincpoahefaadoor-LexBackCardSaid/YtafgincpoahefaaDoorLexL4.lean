/-
  stragglelaw07.LexBack: what its walk leans on.
-/
import Derived.Test.YtafgincpoahefaaDoorLexL3
namespace Go.Proofs.YtafgincpoahefaaDoor
open Go.RowKit

/-- where a text is none -/
theorem bad_place : ∀ (n a : Nat) (l : List UInt8), l.length ≤ n → ∀ y, (yields a l).find? (fun y => y.m == 0) = some y → ∃ p : Nat, y.t.at' = a + p ∧ p < l.length ∧ ∃ c, l[p]? = some c ∧ blB c = false := by
  intro n
  induction n with
  | zero =>
    intro a l hn y hy
    obtain rfl : l = [] := List.eq_nil_of_length_eq_zero (by omega)
    rw [yields_end a [] (by simp)] at hy
    cases hy
  | succ n ih =>
    intro a l hn y hy
    by_cases h : l.drop (lead blB l) = []
    · rw [yields_end a l h] at hy; cases hy
    · obtain ⟨x, r, hx⟩ : ∃ x r, l.drop (lead blB l) = x :: r := by
        rcases e : l.drop (lead blB l) with _ | ⟨x, r⟩
        · exact absurd e h
        · exact ⟨x, r, rfl⟩
      have hpos : lead blB l < l.length := by
        have := congrArg List.length hx
        simp only [List.length_drop, List.length_cons] at this
        omega
      by_cases h0 : (tokOf (l.drop (lead blB l))).2.2 = 0
      · rw [yields_none a l h h0] at hy
        simp only [List.find?_cons, beq_self_eq_true, Option.some.injEq] at hy
        subst hy
        refine ⟨lead blB l, rfl, hpos, x, ?_, drop_lead blB x l r hx⟩
        have : (l.drop (lead blB l))[0]? = some x := by rw [hx]; rfl
        simpa using this
      · have hm := tokOf_le (l.drop (lead blB l))
        rw [yields_more a l h h0, List.find?_cons] at hy
        have hf : ((tokOf (l.drop (lead blB l))).2.2 == 0) = false := by simpa using h0
        simp only [hf] at hy
        obtain ⟨p, h1, h2, c, h3, h4⟩ := ih _ _ (by simp only [List.length_drop] at hm ⊢; omega) y hy
        simp only [List.length_drop] at h2 hm
        refine ⟨lead blB l + (tokOf (l.drop (lead blB l))).2.2 + p, by rw [h1]; omega, by omega, c, ?_, h4⟩
        rw [← h3, List.getElem?_drop, List.getElem?_drop]
        congr 1; omega

theorem lead_all (p : UInt8 → Bool) : ∀ (l : List UInt8) (i : Nat), i < lead p l → (l[i]?).all p = true
  | [], i, h => by simp [lead_nil] at h
  | c :: l, i, h => by
    rw [lead_cons] at h
    by_cases hc : p c = true
    · rw [if_pos hc] at h
      cases i with
      | zero => simpa using hc
      | succ i => simpa using lead_all p l i (by omega)
    · rw [if_neg hc] at h; omega
/-- where token i may begin -/
def fr : Nat → List Y → Nat → Nat
  | a, _, 0 => a
  | a, [], _ + 1 => a
  | _, y :: ys, i + 1 => fr (y.t.at'.toNat + y.m) ys i
theorem tok_kind (l : List UInt8) (h : (tokOf l).2.2 ≠ 0) : 1 ≤ (tokOf l).1 ∧ (tokOf l).1 ≤ 5 := by
  unfold tokOf at h ⊢
  (repeat' split) <;> first | (constructor <;> decide) | (simp_all)
theorem spans : ∀ (n a : Nat) (L : List UInt8), (L.drop a).length ≤ n → a ≤ L.length → good (yields a (L.drop a)) →
    (∀ (i : Nat) (y : Y), (yields a (L.drop a))[i]? = some y → ∃ p : Nat, y.t.at' = p ∧ fr a (yields a (L.drop a)) i ≤ p ∧ p + y.m ≤ L.length ∧ textOf y.t.kind y.t.n = (L.drop p).take y.m ∧
      (∀ j, fr a (yields a (L.drop a)) i ≤ j → j < p → L[j]? = some 32) ∧ y.t.kind ≠ 0 ∧ y.m ≠ 0 ∧ fr a (yields a (L.drop a)) (i + 1) = p + y.m) ∧
    (fr a (yields a (L.drop a)) (yields a (L.drop a)).length ≤ L.length ∧ ∀ j, fr a (yields a (L.drop a)) (yields a (L.drop a)).length ≤ j → j < L.length → L[j]? = some 32) := by
  intro n
  induction n with
  | zero =>
    intro a L hn ha _
    have h0 : L.drop a = [] := List.eq_nil_of_length_eq_zero (by omega)
    rw [h0, yields_end a [] (by simp)]
    refine ⟨fun i y h => by simp at h, ?_, fun j h1 h2 => ?_⟩
    · exact ha
    · simp only [fr, List.length_nil] at h1
      simp only [List.length_drop] at hn
      omega
  | succ n ih =>
    intro a L hn ha hg
    have hbl : ∀ j, a ≤ j → j < a + lead blB (L.drop a) → L[j]? = some 32 := by
      intro j h1 h2
      have hle := lead_le blB (L.drop a)
      have hj : j - a < lead blB (L.drop a) := by omega
      have e : (L.drop a)[j - a]? = L[j]? := by rw [List.getElem?_drop]; congr 1; omega
      have hlt : j - a < (L.drop a).length := by omega
      have hb := lead_all blB (L.drop a) (j - a) hj
      rw [← e]
      rw [List.getElem?_eq_getElem hlt] at hb ⊢
      simp only [Option.all_some] at hb
      rw [bl_is _ hb]
    by_cases h : (L.drop a).drop (lead blB (L.drop a)) = []
    · have hk := (drop_lead_nil blB _).1 h
      rw [yields_end a _ h]
      refine ⟨fun i y h => by simp at h, ha, fun j h1 h2 => hbl j h1 ?_⟩
      rw [hk, List.length_drop]; omega
    · have h0 := good_first hg h
      have hgr := good_rest hg h
      have hle := lead_le blB (L.drop a)
      have hm := tokOf_le ((L.drop a).drop (lead blB (L.drop a)))
      have ht := tok_text _ h0
      have hkd := tok_kind _ h0
      rw [yields_more a _ h h0]
      rw [List.drop_drop, List.drop_drop] at hgr ⊢
      rw [List.drop_drop] at hm ht hkd h0
      simp only [List.length_drop] at hm hle hn
      generalize hT : tokOf (L.drop (a + lead blB (L.drop a))) = T at *
      obtain ⟨kd, m, M⟩ := T
      simp only at *
      generalize lead blB (L.drop a) = q at *
      obtain ⟨i1, i2, i3⟩ := ih (a + q + M) L (by simp only [List.length_drop]; omega) (by omega) hgr
      have hat : (((a : Int) + (q : Int)).toNat + M) = a + q + M := by omega
      refine ⟨?_, ?_, ?_⟩
      · intro i y hy
        cases i with
        | zero =>
          simp only [List.getElem?_cons_zero, Option.some.injEq] at hy
          subst hy
          refine ⟨a + q, by simp only; omega, by simp only [fr]; omega, by simp only; omega, ht, hbl, by simp only; omega, by simp only; omega, ?_⟩
          simp only [fr, hat]
        | succ i =>
          simp only [List.getElem?_cons_succ] at hy
          simp only [fr, hat]
          exact i1 i y hy
      · simp only [fr, List.length_cons, hat]; exact i2
      · simp only [fr, List.length_cons, hat]; exact i3

/-- texts put together, so many of them -/
def agA : List (List UInt8) → Nat → List UInt8
  | _, 0 => []
  | [], _ + 1 => []
  | [w], _ + 1 => w
  | w :: v :: ws, i + 1 => w ++ 32 :: agA (v :: ws) i
theorem agA_step : ∀ (ws : List (List UInt8)) (i : Nat) (w : List UInt8), ws[i]? = some w → agA ws (i + 1) = agA ws i ++ w ++ (if i + 1 < ws.length then [32] else [])
  | [], i, w, h => by simp at h
  | [v], 0, w, h => by simp at h; subst h; simp [agA]
  | [v], i + 1, w, h => by simp at h
  | v :: u :: ws, 0, w, h => by simp at h; subst h; simp [agA]
  | v :: u :: ws, i + 1, w, h => by
    have := agA_step (u :: ws) i w (by simpa using h)
    simp only [agA] at this ⊢
    rw [this]
    simp
theorem agA_all : ∀ (ws : List (List UInt8)), agA ws ws.length = joinT ws
  | [] => rfl
  | [w] => rfl
  | w :: v :: ws => by
    have := agA_all (v :: ws)
    simp only [List.length_cons] at this
    simp only [List.length_cons, agA, joinT, this]
end Go.Proofs.YtafgincpoahefaaDoor
