/-
  parse, plain: a part of the parser sees the tokens that it takes, and the next one: tokens that differ in their places alone are parsed alike.
  parse, plain: what is parsed may be written; depth, separators and comparisons, counted.
-/
import Derived.Test.YtafgincpoahefaaDoorParR
namespace Go.Proofs.YtafgincpoahefaaDoor
open Go.RowKit

/-- tokens that differ in their places alone; tokens that a parser can't tell apart before it takes them -/
def simL (l m : List Tok) : Prop := l.map (fun t => (t.kind, t.n)) = m.map (fun t => (t.kind, t.n))
def simT (t u : Tok) : Prop := t.kind = u.kind ∧ (t.kind ≠ 1 → t.n = u.n)
def simH (l m : List Tok) : Prop := ∃ x r y s, l = x :: r ∧ m = y :: s ∧ simT x y
/-- the end token stands last, and nowhere else -/
def endQ : List Tok → Prop
  | [] => False
  | t :: r => (t.kind = 0 ∧ r = []) ∨ (t.kind ≠ 0 ∧ endQ r)
def LocAt {α : Type} (Q : List Tok → Prop) (p : List Tok → Res α) (l : List Tok) : Prop := match p l with
  | .ok (v, l') => ∃ pre, l = pre ++ l' ∧ (endQ l → endQ l') ∧ ∀ pre' l'', simL pre pre' → (simH l' l'' ∨ Q l'') → p (pre' ++ l'') = .ok (v, l'')
  | .error a => endQ l → ∃ pre x r, l = pre ++ x :: r ∧ a = x.at' ∧ ∀ pre' x' r', simL pre pre' → simT x x' → p (pre' ++ x' :: r') = .error x'.at'
theorem LocAt.mkOk {α : Type} {Q : List Tok → Prop} {p : List Tok → Res α} {l : List Tok} {v : α} {l' : List Tok} (e : p l = .ok (v, l'))
    (h : ∃ pre, l = pre ++ l' ∧ (endQ l → endQ l') ∧ ∀ pre' l'', simL pre pre' → (simH l' l'' ∨ Q l'') → p (pre' ++ l'') = .ok (v, l'')) : LocAt Q p l := by
  unfold LocAt; rw [e]; exact h
theorem LocAt.mkErr {α : Type} {Q : List Tok → Prop} {p : List Tok → Res α} {l : List Tok} {a : Int} (e : p l = .error a)
    (h : endQ l → ∃ pre x r, l = pre ++ x :: r ∧ a = x.at' ∧ ∀ pre' x' r', simL pre pre' → simT x x' → p (pre' ++ x' :: r') = .error x'.at') : LocAt Q p l := by
  unfold LocAt; rw [e]; exact h
theorem LocAt.ok {α : Type} {Q : List Tok → Prop} {p : List Tok → Res α} {l : List Tok} {v : α} {l' : List Tok} (h : LocAt Q p l) (e : p l = .ok (v, l')) :
    ∃ pre, l = pre ++ l' ∧ (endQ l → endQ l') ∧ ∀ pre' l'', simL pre pre' → (simH l' l'' ∨ Q l'') → p (pre' ++ l'') = .ok (v, l'') := by
  unfold LocAt at h; rw [e] at h; exact h
theorem LocAt.err {α : Type} {Q : List Tok → Prop} {p : List Tok → Res α} {l : List Tok} {a : Int} (h : LocAt Q p l) (e : p l = .error a) :
    endQ l → ∃ pre x r, l = pre ++ x :: r ∧ a = x.at' ∧ ∀ pre' x' r', simL pre pre' → simT x x' → p (pre' ++ x' :: r') = .error x'.at' := by
  unfold LocAt at h; rw [e] at h; exact h
/-- it takes a token at least -/
def Eats {α : Type} (p : List Tok → Res α) (l : List Tok) : Prop := ∀ v l', p l = .ok (v, l') → l'.length < l.length

theorem simL_nil {m : List Tok} (h : simL [] m) : m = [] := by unfold simL at h; simpa using h.symm
theorem simL_cons {t : Tok} {l m : List Tok} (h : simL (t :: l) m) : ∃ u r, m = u :: r ∧ t.kind = u.kind ∧ t.n = u.n ∧ simL l r := by
  unfold simL at *
  cases m with
  | nil => simp at h
  | cons u r => simp at h; exact ⟨u, r, rfl, h.1.1, h.1.2, h.2⟩
theorem simL_append {a b m : List Tok} (h : simL (a ++ b) m) : ∃ a' b', m = a' ++ b' ∧ simL a a' ∧ simL b b' := by
  induction a generalizing m with
  | nil => exact ⟨[], m, rfl, rfl, h⟩
  | cons t a ih =>
    obtain ⟨u, r, rfl, h1, h2, h3⟩ := simL_cons h
    obtain ⟨a', b', rfl, h4, h5⟩ := ih h3
    refine ⟨u :: a', b', rfl, ?_, h5⟩
    unfold simL at *
    simp [h1, h2, h4]
theorem simT_of {t u : Tok} (h1 : t.kind = u.kind) (h2 : t.n = u.n) : simT t u := ⟨h1, fun _ => h2⟩
theorem simT.rfl' (t : Tok) : simT t t := ⟨rfl, fun _ => rfl⟩
theorem isS_sim {l m : List Tok} (h : simH l m) (c : Int) : isS c l = isS c m := by
  obtain ⟨x, r, y, s, rfl, rfl, h1, h2⟩ := h
  unfold isS
  by_cases e : x.kind = 5
  · simp only [h2 (by omega), h1]
  · have e' : ¬ y.kind = 5 := by omega
    have : (x.kind == 5) = false := by simpa using e
    have : (y.kind == 5) = false := by simpa using e'
    simp [*]
theorem simH_app {b b' l r l' r' : List Tok} {x x' : Tok} (hb : simL b b') (hx : simT x x') (h : l = b ++ x :: r) (h' : l' = b' ++ x' :: r') : simH l l' := by
  cases b with
  | nil => obtain rfl := simL_nil hb; exact ⟨x, r, x', r', h, h', hx⟩
  | cons t b =>
    obtain ⟨u, s, rfl, h1, h2, _⟩ := simL_cons hb
    exact ⟨t, b ++ x :: r, u, s ++ x' :: r', h, h', simT_of h1 h2⟩
theorem loc_then {α β : Type} {Q1 Q2 Q : List Tok → Prop} {p : List Tok → Res α} {q : α → List Tok → Res β} {l : List Tok} (hp : LocAt Q1 p l) (hq : ∀ v l', p l = .ok (v, l') → LocAt Q2 (q v) l')
    (hQ : ∀ m, Q m → Q2 m) (h1 : (∀ v l', p l = .ok (v, l') → Eats (q v) l') ∨ (∀ m, Q m → Q1 m)) : LocAt Q (fun l => thenR (p l) q) l := by
  rcases e : p l with a | ⟨v, l'⟩
  · refine LocAt.mkErr (a := a) (by simp only [e, thenR]) fun hl => ?_
    obtain ⟨pre, x, r, h2, h3, h4⟩ := hp.err e hl
    exact ⟨pre, x, r, h2, h3, fun pre' x' r' s1 s2 => by simp only [h4 pre' x' r' s1 s2, thenR]⟩
  · obtain ⟨pre, rfl, he, hx⟩ := hp.ok e
    have hq1 := hq v l' e
    rcases e2 : q v l' with a | ⟨v2, l2⟩
    · refine LocAt.mkErr (a := a) (by simp only [e, thenR, e2]) fun hl => ?_
      obtain ⟨pre2, x, r, rfl, h3, h4⟩ := hq1.err e2 (he hl)
      refine ⟨pre ++ pre2, x, r, by simp, h3, fun pre' x' r' s1 s2 => ?_⟩
      obtain ⟨a', b', rfl, s3, s4⟩ := simL_append s1
      simp only [List.append_assoc, hx a' (b' ++ x' :: r') s3 (.inl (simH_app s4 s2 rfl rfl)), thenR]
      exact h4 b' x' r' s4 s2
    · obtain ⟨pre2, rfl, he2, hx2⟩ := hq1.ok e2
      refine LocAt.mkOk (v := v2) (l' := l2) (by simp only [e, thenR, e2]) ⟨pre ++ pre2, by simp, fun hl => he2 (he hl), fun pre' l'' s1 s2 => ?_⟩
      obtain ⟨a', b', rfl, s3, s4⟩ := simL_append s1
      have hh : simH (pre2 ++ l2) (b' ++ l'') ∨ Q1 (b' ++ l'') := by
        cases pre2 with
        | nil =>
          obtain rfl := simL_nil s4
          rcases s2 with s2 | s2
          · exact .inl s2
          · rcases h1 with h1 | h1
            · have := h1 v _ e v2 l2 e2; simp at this
            · exact .inr (h1 _ s2)
        | cons t b =>
          obtain ⟨u, s, rfl, h1, h2, _⟩ := simL_cons s4
          exact .inl ⟨t, _, u, _, rfl, rfl, simT_of h1 h2⟩
      simp only [List.append_assoc, hx a' (b' ++ l'') s3 hh, thenR]
      refine hx2 b' l'' s4 ?_
      rcases s2 with s2 | s2
      · exact .inl s2
      · exact .inr (hQ _ s2)
theorem loc_ok {α : Type} (v : α) (l : List Tok) : LocAt (fun _ => True) (fun l => (.ok (v, l) : Res α)) l := by
  unfold LocAt
  refine ⟨[], rfl, id, fun pre' l'' s _ => ?_⟩
  obtain rfl := simL_nil s
  rfl
theorem LocAt.weak {α : Type} {Q Q' : List Tok → Prop} {p : List Tok → Res α} {l : List Tok} (h : LocAt Q p l) (hQ : ∀ m, Q' m → Q m) : LocAt Q' p l := by
  unfold LocAt at *
  split at h
  · rename_i v l' e
    obtain ⟨pre, h1, h2, h3⟩ := h
    exact ⟨pre, h1, h2, fun pre' l'' s1 s2 => h3 pre' l'' s1 (s2.imp id (hQ _))⟩
  · exact h
/-- what is told of a value that is told behind -/
theorem loc_map {α β : Type} {Q : List Tok → Prop} {p : List Tok → Res α} {l : List Tok} (hp : LocAt Q p l) (f : α → β) : LocAt Q (fun l => thenR (p l) fun v l => .ok (f v, l)) l :=
  loc_then hp (fun v l' _ => (loc_ok (f v) l').weak (fun _ _ => trivial)) (fun _ h => h) (.inr fun _ h => h)
theorem eats_then {α β : Type} {p : List Tok → Res α} {q : α → List Tok → Res β} {l : List Tok} (hp : Eats p l) (hq : ∀ v l' v2 l2, p l = .ok (v, l') → q v l' = .ok (v2, l2) → l2.length ≤ l'.length) : Eats (fun l => thenR (p l) q) l := by
  intro v2 l2 h
  rcases e : p l with a | ⟨v, l'⟩
  · simp only [e, thenR] at h; cases h
  · simp only [e, thenR] at h
    have := hp v l' e
    have := hq v l' v2 l2 e h
    omega
theorem LocAt.le {α : Type} {Q : List Tok → Prop} {p : List Tok → Res α} {l : List Tok} (h : LocAt Q p l) {v : α} {l' : List Tok} (e : p l = .ok (v, l')) : l'.length ≤ l.length := by
  unfold LocAt at h
  rw [e] at h
  obtain ⟨pre, rfl, _⟩ := h
  simp
theorem take_yes {k : Int} (hk : k ≠ 0) {t : Tok} (e : t.kind = k) (r : List Tok) : pTake k (t :: r) = .ok (t.n, r) := by unfold pTake; simp only [if_pos e, if_neg hk]
theorem take_no {k : Int} {t : Tok} (e : ¬ t.kind = k) (r : List Tok) : pTake k (t :: r) = .error t.at' := by unfold pTake; simp only [if_neg e]
theorem loc_take {k : Int} (hk : k ≠ 0) (l : List Tok) : LocAt (fun _ => True) (pTake k) l := by
  cases l with
  | nil => exact LocAt.mkErr (a := 0) rfl (fun h => h.elim)
  | cons t r =>
    by_cases e : t.kind = k
    · refine LocAt.mkOk (take_yes hk e r) ⟨[t], rfl, fun h => h.elim (fun h => absurd (e ▸ h.1) hk) (fun h => h.2), fun pre' l'' s _ => ?_⟩
      obtain ⟨u, s', rfl, h1, h2, h3⟩ := simL_cons s
      obtain rfl := simL_nil h3
      show pTake k (u :: l'') = _
      rw [take_yes hk (h1 ▸ e), h2]
    · refine LocAt.mkErr (take_no e r) fun _ => ⟨[], t, r, rfl, rfl, fun pre' x' r' s1 s2 => ?_⟩
      obtain rfl := simL_nil s1
      exact take_no (s2.1 ▸ e) _
theorem eats_take {k : Int} (hk : k ≠ 0) (l : List Tok) : Eats (pTake k) l := by
  intro v l' h
  cases l with
  | nil => cases h
  | cons t r =>
    by_cases e : t.kind = k
    · rw [take_yes hk e] at h; cases h; simp
    · rw [take_no e] at h; cases h
theorem end_yes {t : Tok} (e : t.kind = 0) (r : List Tok) : pTake 0 (t :: r) = .ok (t.n, t :: r) := by unfold pTake; simp only [if_pos e, if_true]
theorem loc_end (l : List Tok) : LocAt (fun _ => False) (pTake 0) l := by
  cases l with
  | nil => exact LocAt.mkErr (a := 0) rfl (fun h => h.elim)
  | cons t r =>
    by_cases e : t.kind = 0
    · refine LocAt.mkOk (end_yes e r) ⟨[], rfl, id, fun pre' l'' s h => ?_⟩
      obtain rfl := simL_nil s
      rcases h with ⟨x, r, y, s', h1, rfl, h2⟩ | h
      · cases h1
        show pTake 0 (y :: s') = _
        rw [end_yes (h2.1 ▸ e), h2.2 (by omega)]
      · exact h.elim
    · refine LocAt.mkErr (take_no e r) fun _ => ⟨[], t, r, rfl, rfl, fun pre' x' r' s1 s2 => ?_⟩
      obtain rfl := simL_nil s1
      exact take_no (s2.1 ▸ e) _
theorem isS_true {c : Int} {l : List Tok} (h : isS c l = true) : ∃ t r, l = t :: r ∧ t.kind = 5 ∧ t.n = c := by
  cases l with
  | nil => cases h
  | cons t r => unfold isS at h; simp at h; exact ⟨t, r, rfl, h⟩
theorem isS_mk {c : Int} {u : Tok} (h1 : u.kind = 5) (h2 : u.n = c) (r : List Tok) : isS c (u :: r) = true := by unfold isS; simp [h1, h2]
/-- a sign that may stand there -/
theorem loc_if {α : Type} {Q1 Q2 Q : List Tok → Prop} {c : Int} {q r : List Tok → Res α} {l : List Tok} (hq : isS c l = true → LocAt Q1 q l.tail) (hr : isS c l = false → LocAt Q2 r l) (h1 : ∀ m, Q m → Q1 m) (h2 : ∀ m, Q m → Q2 m)
    (h3 : (isS c l = false → Eats r l) ∨ ∀ m, Q m → isS c m = false) : LocAt Q (fun l => if isS c l = true then q l.tail else r l) l := by
  cases e : isS c l
  · have hr1 := hr e
    rcases e2 : r l with a | ⟨v, l'⟩
    · refine LocAt.mkErr (a := a) (by simp only [e, Bool.false_eq_true, if_false, e2]) fun hl => ?_
      obtain ⟨pre, x, s, rfl, h5, h6⟩ := hr1.err e2 hl
      refine ⟨pre, x, s, rfl, h5, fun pre' x' r' s1 s2 => ?_⟩
      show (if isS c (pre' ++ x' :: r') = true then _ else _) = _
      rw [if_neg (by rw [← isS_sim (simH_app s1 s2 rfl rfl), e]; simp)]
      exact h6 pre' x' r' s1 s2
    · obtain ⟨pre, rfl, h5, h6⟩ := hr1.ok e2
      refine LocAt.mkOk (v := v) (l' := l') (by simp only [e, Bool.false_eq_true, if_false, e2]) ⟨pre, rfl, h5, fun pre' l'' s1 s2 => ?_⟩
      have hf : isS c (pre' ++ l'') = false := by
        cases pre with
        | nil =>
          obtain rfl := simL_nil s1
          rcases s2 with s2 | s2
          · rw [← e]; exact (isS_sim s2 c).symm
          · rcases h3 with h3 | h3
            · have := h3 e v l' e2; simp at this
            · exact h3 _ s2
        | cons t b =>
          obtain ⟨u, s, rfl, h7, h8, _⟩ := simL_cons s1
          rw [← e]
          exact (isS_sim ⟨t, _, u, _, rfl, rfl, simT_of h7 h8⟩ c).symm
      show (if isS c (pre' ++ l'') = true then _ else _) = _
      rw [if_neg (by rw [hf]; simp)]
      exact h6 pre' l'' s1 (s2.imp id (h2 _))
  · have hq1 := hq e
    obtain ⟨t, s, rfl, hk, hn⟩ := isS_true e
    simp only [List.tail_cons] at hq1
    rcases e2 : q s with a | ⟨v, l'⟩
    · refine LocAt.mkErr (a := a) (by simp only [e, if_true, List.tail_cons, e2]) fun hl => ?_
      obtain ⟨pre, x, s', rfl, h5, h6⟩ := hq1.err e2 (hl.elim (fun h => by have := h.1; omega) (fun h => h.2))
      refine ⟨t :: pre, x, s', rfl, h5, fun pre' x' r' s1 s2 => ?_⟩
      obtain ⟨u, s3, rfl, h7, h8, h9⟩ := simL_cons s1
      show (if isS c (u :: (s3 ++ x' :: r')) = true then _ else _) = _
      rw [if_pos (isS_mk (h7 ▸ hk) (h8 ▸ hn) _)]
      exact h6 s3 x' r' h9 s2
    · obtain ⟨pre, rfl, h5, h6⟩ := hq1.ok e2
      refine LocAt.mkOk (v := v) (l' := l') (by simp only [e, if_true, List.tail_cons, e2]) ⟨t :: pre, rfl, fun hl => h5 (hl.elim (fun h => by have := h.1; omega) (fun h => h.2)), fun pre' l'' s1 s2 => ?_⟩
      obtain ⟨u, s3, rfl, h7, h8, h9⟩ := simL_cons s1
      show (if isS c (u :: (s3 ++ l'')) = true then _ else _) = _
      rw [if_pos (isS_mk (h7 ▸ hk) (h8 ▸ hn) _)]
      exact h6 s3 l'' h9 (s2.imp id (h1 _))
theorem eats_if {α : Type} {c : Int} {q r : List Tok → Res α} {l : List Tok} (hq : ∀ v l', isS c l = true → q l.tail = .ok (v, l') → l'.length ≤ l.tail.length) (hr : isS c l = false → Eats r l) : Eats (fun l => if isS c l = true then q l.tail else r l) l := by
  intro v l' h
  cases e : isS c l
  · simp only [e, Bool.false_eq_true, if_false] at h
    exact hr e v l' h
  · simp only [e, if_true] at h
    have := hq v l' e h
    obtain ⟨t, s, rfl, _⟩ := isS_true e
    simp at this ⊢
    omega

abbrev qt : List Tok → Prop := fun _ => True
def quiet (S : List Int) (l : List Tok) : Prop := ∀ c ∈ S, isS c l = false
theorem sign_yes {c : Int} {t : Tok} (h1 : t.kind = 5) (h2 : t.n = c) (r : List Tok) : pSign c (t :: r) = .ok ((), r) := by unfold pSign; rw [if_pos (isS_mk h1 h2 r)]; rfl
theorem sign_no {c : Int} {t : Tok} {r : List Tok} (h : isS c (t :: r) = false) : pSign c (t :: r) = .error t.at' := by unfold pSign; rw [if_neg (by rw [h]; simp)]; rfl
theorem loc_sign (c : Int) (l : List Tok) : LocAt qt (pSign c) l := by
  cases l with
  | nil => exact LocAt.mkErr (a := 0) rfl (fun h => h.elim)
  | cons t r =>
    cases e : isS c (t :: r)
    · refine LocAt.mkErr (sign_no e) fun _ => ⟨[], t, r, rfl, rfl, fun pre' x' r' s1 s2 => ?_⟩
      obtain rfl := simL_nil s1
      exact sign_no (by rw [← e]; exact (isS_sim ⟨t, r, x', r', rfl, rfl, s2⟩ c).symm)
    · obtain ⟨t', r', h, hk, hn⟩ := isS_true e
      cases h
      refine LocAt.mkOk (sign_yes hk hn r) ⟨[t], rfl, fun h => h.elim (fun h => by have := h.1; omega) (fun h => h.2), fun pre' l'' s _ => ?_⟩
      obtain ⟨u, s', rfl, h1, h2, h3⟩ := simL_cons s
      obtain rfl := simL_nil h3
      exact sign_yes (h1 ▸ hk) (h2 ▸ hn) _
theorem eats_sign (c : Int) (l : List Tok) : Eats (pSign c) l := by
  intro v l' h
  cases l with
  | nil => cases h
  | cons t r =>
    cases e : isS c (t :: r)
    · rw [sign_no e] at h; cases h
    · obtain ⟨t', r', h', hk, hn⟩ := isS_true e
      cases h'
      rw [sign_yes hk hn] at h; cases h; simp
theorem le_ok {α : Type} {v v2 : α} {l l2 : List Tok} (h : (.ok (v, l) : Res α) = .ok (v2, l2)) : l2.length ≤ l.length := by cases h; exact Nat.le_refl _
theorem eats_ok {α β : Type} {p : List Tok → Res α} {l : List Tok} (hp : Eats p l) (f : α → β) : Eats (fun l => thenR (p l) fun v l => .ok (f v, l)) l :=
  eats_then hp fun _ _ _ _ _ h => le_ok h
theorem loc_num (neg : Bool) (l : List Tok) : LocAt qt (pNum neg) l := loc_map (loc_take (by decide) l) _
theorem eats_num (neg : Bool) (l : List Tok) : Eats (pNum neg) l := eats_ok (eats_take (by decide) l) _
theorem loc_more (l : List Tok) : LocAt (quiet [43, 45]) pMore l := by
  unfold pMore
  exact loc_if (Q1 := qt) (fun _ => loc_num false _) (fun _ => loc_if (Q1 := qt) (Q2 := qt) (Q := quiet [45]) (fun _ => loc_num true _) (fun _ => loc_ok 0 l) (fun _ _ => trivial) (fun _ _ => trivial) (.inr fun m h => h _ (by simp)))
    (fun _ _ => trivial) (fun m h => fun c hc => h c (by simp at hc; simp [hc])) (.inr fun m h => h _ (by simp))
theorem loc_names (two : Bool) (l : List Tok) : LocAt qt (pNames two) l := by
  unfold pNames
  cases two
  · exact loc_map (loc_take (by decide) l) fun a => (a, 0)
  · refine loc_then (Q2 := qt) (loc_take (by decide) l) (fun a l' _ => ?_) (fun _ h => h) (.inr fun _ h => h)
    exact loc_then (Q2 := qt) (loc_sign 44 l') (fun _ l'' _ => loc_map (loc_take (by decide) l'') fun b => (a, b)) (fun _ h => h) (.inr fun _ h => h)
theorem eats_names (two : Bool) (l : List Tok) : Eats (pNames two) l := by
  unfold pNames
  cases two
  · exact eats_ok (eats_take (by decide) l) fun a => (a, 0)
  · refine eats_then (eats_take (by decide) l) fun a l' v2 l2 _ h => Nat.le_of_lt ?_
    exact eats_then (eats_sign 44 l') (fun _ l'' v3 l3 _ h => Nat.le_of_lt (eats_ok (eats_take (by decide) l'') (fun b => (a, b)) _ _ h)) _ _ h
theorem loc_named (k : Int) (l : List Tok) : LocAt (quiet [43, 45]) (pNamed k) l := by
  unfold pNamed
  refine loc_then (Q2 := quiet [43, 45]) (loc_sign 40 l) (fun _ l1 _ => ?_) (fun _ h => h) (.inr fun _ _ => trivial)
  refine loc_then (Q2 := quiet [43, 45]) (loc_names _ l1) (fun ab l2 _ => ?_) (fun _ h => h) (.inr fun _ _ => trivial)
  refine loc_then (Q2 := quiet [43, 45]) (loc_sign 41 l2) (fun _ l3 _ => ?_) (fun _ h => h) (.inr fun _ _ => trivial)
  exact loc_map (loc_more l3) fun n => (⟨k, n, ab.1, ab.2⟩ : Tm)
theorem eats_of_le {α β : Type} {p : List Tok → Res α} {q : α → List Tok → Res β} {l : List Tok} (hp : Eats p l) {Q : List Tok → Prop} (hq : ∀ v l', LocAt Q (q v) l') : Eats (fun l => thenR (p l) q) l :=
  eats_then hp fun v l' _ _ _ h => (hq v l').le h
theorem eats_named (k : Int) (l : List Tok) : Eats (pNamed k) l := by
  unfold pNamed
  refine eats_of_le (Q := quiet [43, 45]) (eats_sign 40 l) (fun _ l1 => ?_)
  refine loc_then (Q2 := quiet [43, 45]) (loc_names _ l1) (fun ab l2 _ => ?_) (fun _ h => h) (.inr fun _ _ => trivial)
  refine loc_then (Q2 := quiet [43, 45]) (loc_sign 41 l2) (fun _ l3 _ => ?_) (fun _ h => h) (.inr fun _ _ => trivial)
  exact loc_map (loc_more l3) fun n => (⟨k, n, ab.1, ab.2⟩ : Tm)
/-- a term of a number -/
def pPlain (l : List Tok) : Res Tm := thenR (if isS 45 l = true then pNum true l.tail else pNum false l) fun n l => .ok (⟨0, n, 0, 0⟩, l)
theorem loc_plain (l : List Tok) : LocAt qt pPlain l :=
  loc_map (loc_if (Q1 := qt) (Q2 := qt) (fun _ => loc_num true _) (fun _ => loc_num false l) (fun _ h => h) (fun _ h => h) (.inl fun _ => eats_num false l)) fun n => (⟨0, n, 0, 0⟩ : Tm)
theorem eats_plain (l : List Tok) : Eats pPlain l :=
  eats_ok (eats_if (q := pNum true) (r := pNum false) (fun _ _ _ h => Nat.le_of_lt (eats_num true _ _ _ h)) (fun _ => eats_num false l)) fun n => (⟨0, n, 0, 0⟩ : Tm)
theorem term_name {t : Tok} (hk : t.kind = 2) (r : List Tok) : pTerm (t :: r) = if kindOf t.n = 0 then .error t.at' else pNamed (kindOf t.n) r := by unfold pTerm; simp only [if_pos hk]
theorem term_num {t : Tok} (hk : ¬ t.kind = 2) (r : List Tok) : pTerm (t :: r) = pPlain (t :: r) := by
  unfold pTerm pPlain; simp only [if_neg hk]
  cases isS 45 (t :: r) <;> rfl
theorem loc_term (l : List Tok) : LocAt (quiet [43, 45]) pTerm l := by
  cases l with
  | nil => exact LocAt.mkErr (a := 0) rfl (fun h => h.elim)
  | cons t r =>
    by_cases hk : t.kind = 2
    · by_cases h0 : kindOf t.n = 0
      · refine LocAt.mkErr (a := t.at') (by rw [term_name hk, if_pos h0]) fun _ => ⟨[], t, r, rfl, rfl, fun pre' x' r' s1 s2 => ?_⟩
        obtain rfl := simL_nil s1
        show pTerm (x' :: r') = _
        rw [term_name (s2.1 ▸ hk), if_pos (s2.2 (by omega) ▸ h0)]
      · have e : pTerm (t :: r) = pNamed (kindOf t.n) r := by rw [term_name hk, if_neg h0]
        have hl := loc_named (kindOf t.n) r
        have heq : ∀ (u : Tok) (m : List Tok), t.kind = u.kind → t.n = u.n → pTerm (u :: m) = pNamed (kindOf t.n) m := fun u m h1 h2 => by rw [term_name (h1 ▸ hk), if_neg (h2 ▸ h0), h2]
        rcases e2 : pNamed (kindOf t.n) r with a | ⟨v, l'⟩
        · refine LocAt.mkErr (e.trans e2) fun hq => ?_
          obtain ⟨pre, x, s, rfl, h3, h4⟩ := hl.err e2 (hq.elim (fun h => by have := h.1; omega) (fun h => h.2))
          refine ⟨t :: pre, x, s, rfl, h3, fun pre' x' r' s1 s2 => ?_⟩
          obtain ⟨u, s3, rfl, h7, h8, h9⟩ := simL_cons s1
          exact (heq u _ h7 h8).trans (h4 s3 x' r' h9 s2)
        · obtain ⟨pre, rfl, h3, h4⟩ := hl.ok e2
          refine LocAt.mkOk (e.trans e2) ⟨t :: pre, rfl, fun hq => h3 (hq.elim (fun h => by have := h.1; omega) (fun h => h.2)), fun pre' l'' s1 s2 => ?_⟩
          obtain ⟨u, s3, rfl, h7, h8, h9⟩ := simL_cons s1
          exact (heq u _ h7 h8).trans (h4 s3 l'' h9 s2)
    · have e := term_num hk r
      have hl := loc_plain (t :: r)
      rcases e2 : pPlain (t :: r) with a | ⟨v, l'⟩
      · refine LocAt.mkErr (e.trans e2) fun hq => ?_
        obtain ⟨pre, x, s, h2, h3, h4⟩ := hl.err e2 hq
        refine ⟨pre, x, s, h2, h3, fun pre' x' r' s1 s2 => ?_⟩
        have h5 := h4 pre' x' r' s1 s2
        obtain ⟨u, m, h6, h7⟩ : ∃ u m, pre' ++ x' :: r' = u :: m ∧ ¬ u.kind = 2 := by
          obtain ⟨x1, r1, y1, s1', g1, g2, g3⟩ := simH_app (l := t :: r) (l' := pre' ++ x' :: r') s1 s2 h2 rfl
          cases g1
          exact ⟨y1, s1', g2, g3.1 ▸ hk⟩
        rw [h6] at h5 ⊢
        rw [term_num h7, h5]
      · have hlt := eats_plain (t :: r) v l' e2
        obtain ⟨pre, h2, h3, h4⟩ := hl.ok e2
        refine LocAt.mkOk (e.trans e2) ⟨pre, h2, h3, fun pre' l'' s1 _ => ?_⟩
        have h5 := h4 pre' l'' s1 (.inr trivial)
        cases pre with
        | nil => simp at h2; subst h2; simp at hlt
        | cons t1 b =>
          obtain ⟨u, s, rfl, h7, h8, _⟩ := simL_cons s1
          cases h2
          show pTerm (u :: (s ++ l'')) = _
          rw [term_num (h7 ▸ hk)]
          exact h5
theorem eats_term (l : List Tok) : Eats pTerm l := by
  intro v l' h
  cases l with
  | nil => cases h
  | cons t r =>
    by_cases hk : t.kind = 2
    · rw [term_name hk] at h
      split at h
      · cases h
      · have := eats_named _ _ _ _ h
        simp; omega
    · rw [term_num hk] at h
      exact eats_plain _ _ _ h
theorem loc_cmp (l : List Tok) : LocAt (quiet [43, 45]) pCmp l := by
  unfold pCmp
  refine loc_then (Q2 := quiet [43, 45]) (loc_term l) (fun a l1 _ => ?_) (fun _ h => h) (.inr fun _ h => h)
  refine loc_then (Q2 := quiet [43, 45]) (loc_take (by decide) l1) (fun op l2 _ => ?_) (fun _ h => h) (.inr fun _ _ => trivial)
  exact loc_map (loc_term l2) fun b => (⟨op, a, b⟩ : Cm)
theorem eats_cmp (l : List Tok) : Eats pCmp l := by
  unfold pCmp
  refine eats_of_le (Q := quiet [43, 45]) (eats_term l) (fun a l1 => ?_)
  refine loc_then (Q2 := quiet [43, 45]) (loc_take (by decide) l1) (fun op l2 _ => ?_) (fun _ h => h) (.inr fun _ _ => trivial)
  exact loc_map (loc_term l2) fun b => (⟨op, a, b⟩ : Cm)
/-- comparisons, whatever the fuel -/
def pCs (l : List Tok) : Res (List Cm) := pCmps l.length l
theorem tail_lt {c : Int} {l : List Tok} (h : isS c l = true) : l.tail.length < l.length := by
  obtain ⟨t, r, rfl, _⟩ := isS_true h
  simp
theorem cmps_fuel : ∀ (n : Nat) (l : List Tok), l.length ≤ n → ∀ f g, l.length ≤ f → l.length ≤ g → pCmps f l = pCmps g l := by
  intro n
  induction n with
  | zero =>
    intro l hl f g _ _
    obtain rfl := List.eq_nil_of_length_eq_zero (Nat.le_zero.1 hl)
    have : ∀ f, pCmps f [] = .error 0 := fun f => by cases f <;> rfl
    rw [this, this]
  | succ n ih =>
    intro l hl f g hf hg
    cases l with
    | nil =>
      have : ∀ f, pCmps f [] = .error 0 := fun f => by cases f <;> rfl
      rw [this, this]
    | cons t r =>
      obtain ⟨f, rfl⟩ : ∃ k, f = k + 1 := ⟨f - 1, by simp at hf; omega⟩
      obtain ⟨g, rfl⟩ : ∃ k, g = k + 1 := ⟨g - 1, by simp at hg; omega⟩
      unfold pCmps
      rcases e : pCmp (t :: r) with a | ⟨v, l'⟩
      · rfl
      · have hlt := eats_cmp _ _ _ e
        simp only [thenR]
        split
        · rename_i h
          have := tail_lt h
          rw [ih l'.tail (by omega) f g (by omega) (by omega)]
        · rfl
theorem cmps_succ (f : Nat) (l : List Tok) : pCmps (f + 1) l = thenR (pCmp l) fun c l => if isS 38 l = true then thenR (pCmps f l.tail) fun cs l => .ok (c :: cs, l) else thenR (pSign 93 l) fun _ l => .ok ([c], l) := rfl
theorem steps_succ (f i : Nat) (strict : Bool) (l : List Tok) : pSteps (f + 1) i strict l = thenR (pStep i strict l) fun s l =>
      if isS 59 l = true then thenR (pSteps f (i + 1) false l.tail) fun ss l => .ok (s :: ss, l)
      else if isS 44 l = true then thenR (pSteps f (i + 1) true l.tail) fun ss l => .ok (s :: ss, l)
      else .ok ([s], l) := rfl
theorem pCs_eq (l : List Tok) : pCs l = thenR (pCmp l) fun c l => if isS 38 l = true then thenR (pCs l.tail) fun cs l => .ok (c :: cs, l) else thenR (pSign 93 l) fun _ l => .ok ([c], l) := by
  unfold pCs
  rw [cmps_fuel l.length l (Nat.le_refl _) l.length (l.length + 1) (Nat.le_refl _) (by omega), cmps_succ]
  rcases e : pCmp l with a | ⟨v, l'⟩
  · rfl
  · have hlt := eats_cmp _ _ _ e
    simp only [thenR]
    split
    · rename_i h
      have := tail_lt h
      rw [cmps_fuel l'.tail.length l'.tail (Nat.le_refl _) l.length l'.tail.length (by omega) (Nat.le_refl _)]
    · rfl
theorem loc_cs : ∀ (n : Nat) (l : List Tok), l.length ≤ n → LocAt qt pCs l ∧ Eats pCs l := by
  intro n
  induction n with
  | zero =>
    intro l hl
    obtain rfl := List.eq_nil_of_length_eq_zero (Nat.le_zero.1 hl)
    exact ⟨LocAt.mkErr (a := 0) rfl (fun h => h.elim), fun v l' h => by cases h⟩
  | succ n ih =>
    intro l hl
    rw [show pCs = fun l => thenR (pCmp l) fun c l => if isS 38 l = true then thenR (pCs l.tail) fun cs l => .ok (c :: cs, l) else thenR (pSign 93 l) fun _ l => .ok ([c], l) from funext pCs_eq]
    have h1 : ∀ (v : Cm) (l' : List Tok), pCmp l = .ok (v, l') → isS 38 l' = true → LocAt qt (fun l => thenR (pCs l) fun cs l => .ok (v :: cs, l)) l'.tail ∧ Eats (fun l => thenR (pCs l) fun cs l => .ok (v :: cs, l)) l'.tail := fun v l' e h => by
      have := eats_cmp l v l' e
      have := tail_lt h
      have := ih l'.tail (by omega)
      exact ⟨loc_map this.1 fun cs => v :: cs, eats_ok this.2 fun cs => v :: cs⟩
    have he : ∀ (v : Cm) (l' : List Tok), pCmp l = .ok (v, l') → Eats (fun l => if isS 38 l = true then thenR (pCs l.tail) fun cs l => .ok (v :: cs, l) else thenR (pSign 93 l) fun _ l => .ok ([v], l)) l' := fun v l' e =>
      eats_if (q := fun l => thenR (pCs l) fun cs l => .ok (v :: cs, l)) (r := fun l => thenR (pSign 93 l) fun _ l => .ok ([v], l)) (fun v2 l2 h g => Nat.le_of_lt ((h1 v l' e h).2 _ _ g)) (fun _ => eats_ok (eats_sign 93 l') fun _ => [v])
    constructor
    · refine loc_then (Q2 := qt) (loc_cmp l) (fun v l' e => ?_) (fun _ h => h) (.inl he)
      exact loc_if (q := fun l => thenR (pCs l) fun cs l => .ok (v :: cs, l)) (r := fun l => thenR (pSign 93 l) fun _ l => .ok ([v], l)) (Q1 := qt) (Q2 := qt) (fun h => (h1 v l' e h).1) (fun _ => loc_map (loc_sign 93 l') fun _ => [v]) (fun _ h => h) (fun _ h => h) (.inl fun _ => eats_ok (eats_sign 93 l') fun _ => [v])
    · exact eats_then (eats_cmp l) fun v l' v2 l2 e h => Nat.le_of_lt (he v l' e v2 l2 h)
theorem loc_times (l : List Tok) : LocAt (quiet [123]) pTimes l := by
  unfold pTimes
  refine loc_if (q := fun l => thenR (pTake 1 l) fun a l => thenR (pSign 44 l) fun _ l => thenR (pTake 1 l) fun b l => thenR (pSign 125 l) fun _ l => .ok ((a, b), l)) (r := fun l => .ok ((1, 1), l)) (Q1 := qt) (Q2 := qt) (fun _ => ?_) (fun _ => loc_ok _ l) (fun _ _ => trivial) (fun _ _ => trivial) (.inr fun m h => h _ (by simp))
  refine loc_then (Q2 := qt) (loc_take (by decide) _) (fun a l1 _ => ?_) (fun _ h => h) (.inr fun _ _ => trivial)
  refine loc_then (Q2 := qt) (loc_sign 44 l1) (fun _ l2 _ => ?_) (fun _ h => h) (.inr fun _ _ => trivial)
  refine loc_then (Q2 := qt) (loc_take (by decide) l2) (fun b l3 _ => ?_) (fun _ h => h) (.inr fun _ _ => trivial)
  exact loc_map (loc_sign 125 l3) fun _ => (a, b)
theorem pAsks_cs (l : List Tok) : pAsks l = if isS 91 l = true then pCs l.tail else .ok ([], l) := by
  unfold pAsks
  split
  · rename_i h
    have := tail_lt h
    exact cmps_fuel _ _ (Nat.le_refl _) _ _ (by omega) (Nat.le_refl _)
  · rfl
theorem loc_asks (l : List Tok) : LocAt (quiet [91]) pAsks l := by
  rw [show pAsks = fun l => if isS 91 l = true then pCs l.tail else .ok ([], l) from funext pAsks_cs]
  exact loc_if (q := pCs) (r := fun l => .ok ([], l)) (Q1 := qt) (Q2 := qt) (fun _ => (loc_cs _ _ (Nat.le_refl _)).1) (fun _ => loc_ok _ l) (fun _ _ => trivial) (fun _ _ => trivial) (.inr fun m h => h _ (by simp))
theorem loc_letter (i : Int) (l : List Tok) : LocAt qt (pLetter i) l := by
  cases l with
  | nil => exact LocAt.mkErr (a := 0) rfl (fun h => h.elim)
  | cons t r =>
    by_cases e : t.kind = 2 ∧ t.n = i
    · have hy : ∀ (u : Tok) (m : List Tok), t.kind = u.kind → t.n = u.n → pLetter i (u :: m) = .ok ((), m) := fun u m h1 h2 => by unfold pLetter; simp only [← h1, ← h2, if_pos e]
      refine LocAt.mkOk (hy t r rfl rfl) ⟨[t], rfl, fun h => h.elim (fun h => by have := h.1; omega) (fun h => h.2), fun pre' l'' s _ => ?_⟩
      obtain ⟨u, s', rfl, h1, h2, h3⟩ := simL_cons s
      obtain rfl := simL_nil h3
      exact hy u _ h1 h2
    · have hy : ∀ (u : Tok) (m : List Tok), simT t u → pLetter i (u :: m) = .error u.at' := fun u m h => by
        unfold pLetter
        simp only
        rw [if_neg]
        intro g
        exact e ⟨h.1.trans g.1, (h.2 (by have := h.1; omega)).trans g.2⟩
      refine LocAt.mkErr (hy t r (simT.rfl' t)) fun _ => ⟨[], t, r, rfl, rfl, fun pre' x' r' s1 s2 => ?_⟩
      obtain rfl := simL_nil s1
      exact hy x' r' s2
theorem eats_letter (i : Int) (l : List Tok) : Eats (pLetter i) l := by
  intro v l' h
  cases l with
  | nil => cases h
  | cons t r =>
    unfold pLetter at h
    simp only at h
    by_cases e : t.kind = 2 ∧ t.n = i
    · rw [if_pos e] at h; cases h; simp
    · rw [if_neg e] at h; cases h
/-- a step, its sign of negation taken -/
def pStepN (i : Int) (strict neg : Bool) (l : List Tok) : Res St :=
  thenR (pTake 1 l) fun k l1 => thenR (pLetter i l1) fun _ l2 => thenR (pTimes l2) fun ab l3 => thenR (pAsks l3) fun cs l4 => .ok (⟨neg, k, ab.1, ab.2, strict, cs⟩, l4)
theorem pStep_if (i : Int) (strict : Bool) (l : List Tok) : pStep i strict l = if isS 33 l = true then pStepN i strict true l.tail else pStepN i strict false l := by
  unfold pStep
  cases isS 33 l <;> rfl
theorem loc_stepN (i : Int) (strict neg : Bool) (l : List Tok) : LocAt (quiet [123, 91]) (pStepN i strict neg) l := by
  unfold pStepN
  refine loc_then (Q2 := quiet [123, 91]) (loc_take (by decide) l) (fun k l1 _ => ?_) (fun _ h => h) (.inr fun _ _ => trivial)
  refine loc_then (Q2 := quiet [123, 91]) (loc_letter i l1) (fun _ l2 _ => ?_) (fun _ h => h) (.inr fun _ _ => trivial)
  refine loc_then (Q2 := quiet [91]) (loc_times l2) (fun ab l3 _ => ?_) (fun m h c hc => h c (by simp at hc; simp [hc])) (.inr fun m h c hc => h c (by simp at hc; simp [hc]))
  exact loc_map (loc_asks l3) fun cs => (⟨neg, k, ab.1, ab.2, strict, cs⟩ : St)
theorem eats_stepN (i : Int) (strict neg : Bool) (l : List Tok) : Eats (pStepN i strict neg) l := by
  unfold pStepN
  refine eats_of_le (Q := quiet [123, 91]) (eats_take (by decide) l) (fun k l1 => ?_)
  refine loc_then (Q2 := quiet [123, 91]) (loc_letter i l1) (fun _ l2 _ => ?_) (fun _ h => h) (.inr fun _ _ => trivial)
  refine loc_then (Q2 := quiet [91]) (loc_times l2) (fun ab l3 _ => ?_) (fun m h c hc => h c (by simp at hc; simp [hc])) (.inr fun m h c hc => h c (by simp at hc; simp [hc]))
  exact loc_map (loc_asks l3) fun cs => (⟨neg, k, ab.1, ab.2, strict, cs⟩ : St)
theorem loc_step (i : Int) (strict : Bool) (l : List Tok) : LocAt (quiet [123, 91]) (pStep i strict) l := by
  rw [show pStep i strict = fun l => if isS 33 l = true then pStepN i strict true l.tail else pStepN i strict false l from funext (pStep_if i strict)]
  exact loc_if (Q1 := quiet [123, 91]) (Q2 := quiet [123, 91]) (fun _ => loc_stepN i strict true _) (fun _ => loc_stepN i strict false l) (fun _ h => h) (fun _ h => h) (.inl fun _ => eats_stepN i strict false l)
theorem eats_step (i : Int) (strict : Bool) (l : List Tok) : Eats (pStep i strict) l := by
  rw [show pStep i strict = fun l => if isS 33 l = true then pStepN i strict true l.tail else pStepN i strict false l from funext (pStep_if i strict)]
  exact eats_if (q := pStepN i strict true) (r := pStepN i strict false) (fun v l' _ h => Nat.le_of_lt (eats_stepN i strict true _ _ _ h)) (fun _ => eats_stepN i strict false l)
/-- steps, whatever the fuel -/
def pSs (i : Nat) (strict : Bool) (l : List Tok) : Res (List St) := pSteps (l.length + 1) i strict l
theorem steps_fuel : ∀ (n : Nat) (l : List Tok), l.length ≤ n → ∀ (i : Nat) (strict : Bool) (f g : Nat), l.length < f → l.length < g → pSteps f i strict l = pSteps g i strict l := by
  intro n
  induction n with
  | zero =>
    intro l hl i strict f g hf hg
    obtain rfl := List.eq_nil_of_length_eq_zero (Nat.le_zero.1 hl)
    have : ∀ f, 0 < f → pSteps f i strict [] = .error 0 := fun f h => by cases f with
      | zero => omega
      | succ f => unfold pSteps; rfl
    rw [this f hf, this g hg]
  | succ n ih =>
    intro l hl i strict f g hf hg
    obtain ⟨f, rfl⟩ : ∃ k, f = k + 1 := ⟨f - 1, by omega⟩
    obtain ⟨g, rfl⟩ : ∃ k, g = k + 1 := ⟨g - 1, by omega⟩
    unfold pSteps
    rcases e : pStep i strict l with a | ⟨v, l'⟩
    · rfl
    · have hlt := eats_step _ _ _ _ _ e
      simp only [thenR]
      split
      · rename_i h
        have := tail_lt h
        rw [ih l'.tail (by omega) (i + 1) false f g (by omega) (by omega)]
      · split
        · rename_i h
          have := tail_lt h
          rw [ih l'.tail (by omega) (i + 1) true f g (by omega) (by omega)]
        · rfl
theorem pSs_eq (i : Nat) (strict : Bool) (l : List Tok) : pSs i strict l = thenR (pStep i strict l) fun s l =>
      if isS 59 l = true then thenR (pSs (i + 1) false l.tail) fun ss l => .ok (s :: ss, l)
      else if isS 44 l = true then thenR (pSs (i + 1) true l.tail) fun ss l => .ok (s :: ss, l)
      else .ok ([s], l) := by
  unfold pSs
  rw [steps_succ]
  rcases e : pStep i strict l with a | ⟨v, l'⟩
  · rfl
  · have hlt := eats_step _ _ _ _ _ e
    simp only [thenR]
    split
    · rename_i h
      have := tail_lt h
      rw [steps_fuel l'.tail.length l'.tail (Nat.le_refl _) (i + 1) false l.length (l'.tail.length + 1) (by omega) (by omega)]
    · split
      · rename_i h
        have := tail_lt h
        rw [steps_fuel l'.tail.length l'.tail (Nat.le_refl _) (i + 1) true l.length (l'.tail.length + 1) (by omega) (by omega)]
      · rfl
theorem loc_ss : ∀ (n : Nat) (l : List Tok), l.length ≤ n → ∀ (i : Nat) (strict : Bool), LocAt (quiet [123, 91, 59, 44]) (pSs i strict) l := by
  intro n
  induction n with
  | zero =>
    intro l hl i strict
    obtain rfl := List.eq_nil_of_length_eq_zero (Nat.le_zero.1 hl)
    exact LocAt.mkErr (a := 0) rfl (fun h => h.elim)
  | succ n ih =>
    intro l hl i strict
    rw [show pSs i strict = _ from funext (pSs_eq i strict)]
    have h2 : ∀ m, quiet [123, 91, 59, 44] m → quiet [123, 91] m := fun m h c hc => h c (by simp at hc; rcases hc with hc | hc <;> simp [hc])
    refine loc_then (Q2 := quiet [123, 91, 59, 44]) (loc_step i strict l) (fun s l' e => ?_) (fun _ h => h) (.inr h2)
    have hlt := eats_step _ _ _ _ _ e
    refine loc_if (q := fun l => thenR (pSs (i + 1) false l) fun ss l => .ok (s :: ss, l)) (r := fun l => if isS 44 l = true then thenR (pSs (i + 1) true l.tail) fun ss l => .ok (s :: ss, l) else .ok ([s], l)) (Q1 := quiet [123, 91, 59, 44]) (Q2 := quiet [123, 91, 59, 44])
      (fun h => loc_map (ih l'.tail (by have := tail_lt h; omega) _ _) fun ss => s :: ss) (fun _ => ?_) (fun _ h => h) (fun _ h => h) (.inr fun m h => h _ (by simp))
    exact loc_if (q := fun l => thenR (pSs (i + 1) true l) fun ss l => .ok (s :: ss, l)) (r := fun l => .ok ([s], l)) (Q1 := quiet [123, 91, 59, 44]) (Q2 := qt)
      (fun h => loc_map (ih l'.tail (by have := tail_lt h; omega) _ _) fun ss => s :: ss) (fun _ => loc_ok _ l') (fun _ h => h) (fun _ _ => trivial) (.inr fun m h => h _ (by simp))
theorem pPat_eq (l : List Tok) : pPat l = thenR (pSs 0 false l) fun ss l => thenR (pTake 3 l) fun _ l => thenR (pTake 1 l) fun w l => thenR (pTake 0 l) fun _ l => .ok (⟨ss, w⟩, l) := rfl
theorem loc_pat (l : List Tok) : LocAt (fun _ => False) pPat l := by
  rw [show pPat = _ from funext pPat_eq]
  refine loc_then (Q2 := fun _ => False) (loc_ss _ l (Nat.le_refl _) 0 false) (fun ss l1 _ => ?_) (fun _ h => h) (.inr fun _ h => h.elim)
  refine loc_then (Q2 := fun _ => False) (loc_take (by decide) l1) (fun _ l2 _ => ?_) (fun _ h => h) (.inr fun _ h => h.elim)
  refine loc_then (Q2 := fun _ => False) (loc_take (by decide) l2) (fun w l3 _ => ?_) (fun _ h => h) (.inr fun _ h => h.elim)
  exact loc_map (loc_end l3) fun _ => (⟨ss, w⟩ : Pt)
end Go.Proofs.YtafgincpoahefaaDoor

namespace Go.Proofs.YtafgincpoahefaaDoor
open Go.RowKit

/-- what a token may be -/
def tokB (t : Tok) : Prop := (0 ≤ t.n ∧ t.n ≤ 1099511627776) ∧ (t.kind = 4 → 1 ≤ t.n ∧ t.n < 7) ∧ (t.kind = 2 → t.n < 26)
def openB (t : Tok) : Bool := t.kind == 5 && (t.n == 40 || t.n == 91 || t.n == 123)
def shutB (t : Tok) : Bool := t.kind == 5 && (t.n == 41 || t.n == 93 || t.n == 125)
def deepOf (d : Int) (t : Tok) : Int := (if openB t = true then d + 1 else d) - (if shutB t = true then 1 else 0)
def sepB (d : Int) (t : Tok) : Bool := decide (d = 0) && (t.kind == 5 && (t.n == 59 || t.n == 44))
/-- depth, separators, comparisons, counted -/
def scan1 (s : Int × Int × Int) (t : Tok) : Int × Int × Int :=
  (deepOf s.1 t, s.2.1 + (if sepB (deepOf s.1 t) t = true then 1 else 0), s.2.2 + (if t.kind = 4 then 1 else 0))
def scan (s : Int × Int × Int) (l : List Tok) : Int × Int × Int := l.foldl scan1 s
/-- no depth and no separator is left, whatever depth it begins at -/
def Bal (b : Int) (l : List Tok) (c : Int) : Prop := ∀ d s o : Int, b ≤ d → scan (d, s, o) l = (d, s, o + c)
theorem scan_app (s : Int × Int × Int) (a b : List Tok) : scan s (a ++ b) = scan (scan s a) b := by unfold scan; exact List.foldl_append
theorem bal_nil (b : Int) : Bal b [] 0 := fun d s o _ => by simp [scan]
theorem bal_app {b : Int} {l m : List Tok} {c e : Int} (h : Bal b l c) (g : Bal b m e) : Bal b (l ++ m) (c + e) := fun d s o hd => by
  rw [scan_app, h d s o hd, g d s _ hd, Int.add_assoc]
theorem bal_le {b b' : Int} {l : List Tok} {c : Int} (h : Bal b l c) (hb : b ≤ b') : Bal b' l c := fun d s o hd => h d s o (by omega)
theorem bal_tok (b : Int) {t : Tok} (h4 : t.kind ≠ 4) (h5 : t.kind ≠ 5) : Bal b [t] 0 := fun d s o _ => by
  have h5' : (t.kind == 5) = false := by simpa using h5
  simp [scan, scan1, deepOf, openB, shutB, sepB, h5', h4]
theorem bal_op (b : Int) {t : Tok} (h4 : t.kind = 4) : Bal b [t] 1 := fun d s o _ => by
  simp [scan, scan1, deepOf, openB, shutB, sepB, h4]
theorem bal_sign (b : Int) {t : Tok} (h5 : t.kind = 5) {c : Int} (hn : t.n = c) (hc : c ≠ 40 ∧ c ≠ 91 ∧ c ≠ 123 ∧ c ≠ 41 ∧ c ≠ 93 ∧ c ≠ 125) (hs : (c ≠ 59 ∧ c ≠ 44) ∨ 1 ≤ b) : Bal b [t] 0 := fun d s o hd => by
  subst hn
  obtain ⟨h1, h2, h3, h4, h6, h7⟩ := hc
  have ho : openB t = false := by simp [openB, h1, h2, h3]
  have hh : shutB t = false := by simp [shutB, h4, h6, h7]
  have e : deepOf d t = d := by simp [deepOf, ho, hh]
  have hp : sepB d t = false := by
    rcases hs with hs | hs
    · simp [sepB, hs.1, hs.2]
    · have : ¬ d = 0 := by omega
      simp [sepB, this]
  have h44 : ¬ t.kind = 4 := by omega
  simp [scan, scan1, e, hp, h44]
/-- in brackets -/
theorem bal_in {x y : Tok} {l : List Tok} {c m n : Int} (hx : x.kind = 5) (hxn : x.n = m) (hm : m = 40 ∨ m = 91 ∨ m = 123) (hy : y.kind = 5) (hyn : y.n = n) (hn : n = 41 ∨ n = 93 ∨ n = 125) (h : Bal 1 l c) : Bal 0 (x :: (l ++ [y])) c := fun d s o hd => by
  subst hxn hyn
  have e1 : scan1 (d, s, o) x = (d + 1, s, o) := by
    have ho : openB x = true := by rcases hm with h | h | h <;> simp [openB, hx, h]
    have hh : shutB x = false := by rcases hm with h | h | h <;> simp [shutB, h]
    have hs : ∀ d, sepB d x = false := fun d => by rcases hm with h | h | h <;> simp [sepB, h]
    have : ¬ x.kind = 4 := by omega
    simp [scan1, deepOf, ho, hh, hs, this]
  have e2 : ∀ o', scan1 (d + 1, s, o') y = (d, s, o') := fun o' => by
    have ho : shutB y = true := by rcases hn with h | h | h <;> simp [shutB, hy, h]
    have hh : openB y = false := by rcases hn with h | h | h <;> simp [openB, h]
    have hs : ∀ d, sepB d y = false := fun d => by rcases hn with h | h | h <;> simp [sepB, h]
    have : ¬ y.kind = 4 := by omega
    simp [scan1, deepOf, ho, hh, hs, this]
  show scan (scan1 (d, s, o) x) (l ++ [y]) = _
  rw [e1, scan_app, h (d + 1) s o (by omega)]
  exact e2 _
theorem then_inv {α β : Type} {x : Res α} {q : α → List Tok → Res β} {v : β} {l : List Tok} (h : thenR x q = .ok (v, l)) : ∃ v1 l1, x = .ok (v1, l1) ∧ q v1 l1 = .ok (v, l) := by
  rcases x with a | ⟨v1, l1⟩
  · cases h
  · exact ⟨v1, l1, rfl, h⟩
theorem take_inv {k : Int} (hk : k ≠ 0) {l l' : List Tok} {v : Int} (h : pTake k l = .ok (v, l')) : ∃ t, l = t :: l' ∧ t.kind = k ∧ t.n = v := by
  cases l with
  | nil => cases h
  | cons t r =>
    by_cases e : t.kind = k
    · rw [take_yes hk e] at h; cases h; exact ⟨t, rfl, e, rfl⟩
    · rw [take_no e] at h; cases h
theorem sign_inv {c : Int} {l l' : List Tok} {v : Unit} (h : pSign c l = .ok (v, l')) : ∃ t, l = t :: l' ∧ t.kind = 5 ∧ t.n = c := by
  cases l with
  | nil => cases h
  | cons t r =>
    cases e : isS c (t :: r)
    · rw [sign_no e] at h; cases h
    · obtain ⟨t', r', h', hk, hn⟩ := isS_true e
      cases h'
      rw [sign_yes hk hn] at h; cases h; exact ⟨t, rfl, hk, hn⟩
theorem letter_inv {i : Int} {l l' : List Tok} {v : Unit} (h : pLetter i l = .ok (v, l')) : ∃ t, l = t :: l' ∧ t.kind = 2 ∧ t.n = i := by
  cases l with
  | nil => cases h
  | cons t r =>
    unfold pLetter at h
    simp only at h
    by_cases e : t.kind = 2 ∧ t.n = i
    · rw [if_pos e] at h; cases h; exact ⟨t, rfl, e⟩
    · rw [if_neg e] at h; cases h
/-- what is told of a part: its tokens are balanced, and what it tells is right -/
def Told {α : Type} (b : Int) (cnt : α → Int) (R : α → Prop) (p : List Tok → Res α) : Prop := ∀ l v l', p l = .ok (v, l') → ∃ pre, l = pre ++ l' ∧ Bal b pre (cnt v) ∧ ((∀ t ∈ l, tokB t) → R v)
theorem told_num (neg : Bool) : Told 0 (fun _ => 0) (fun n => -1099511627776 ≤ n ∧ n ≤ 1099511627776) (pNum neg) := by
  intro l v l' h
  obtain ⟨n, l1, h1, h2⟩ := then_inv h
  obtain ⟨t, rfl, hk, rfl⟩ := take_inv (by decide) h1
  cases h2
  refine ⟨[t], rfl, bal_tok 0 (by omega) (by omega), fun hB => ?_⟩
  have := (hB t (by simp)).1
  cases neg <;> simp <;> omega
theorem told_sgn {neg : Bool} {c : Int} (hc : c = 43 ∨ c = 45) {l : List Tok} (hs : isS c l = true) {v : Int} {l' : List Tok} (h : pNum neg l.tail = .ok (v, l')) : ∃ pre, l = pre ++ l' ∧ Bal 0 pre 0 ∧ ((∀ t ∈ l, tokB t) → -1099511627776 ≤ v ∧ v ≤ 1099511627776) := by
  obtain ⟨t, r, rfl, hk, hn⟩ := isS_true hs
  obtain ⟨pre, h1, h2, h3⟩ := told_num neg _ _ _ h
  simp only [List.tail_cons] at h1
  subst h1
  refine ⟨t :: pre, rfl, ?_, fun hB => h3 fun t ht => hB t (List.mem_cons_of_mem _ ht)⟩
  have := bal_app (bal_sign 0 hk hn (by omega) (.inl (by omega))) h2
  simpa using this
theorem told_more : Told 0 (fun _ => 0) (fun n => -1099511627776 ≤ n ∧ n ≤ 1099511627776) pMore := by
  intro l v l' h
  unfold pMore at h
  split at h
  · rename_i hs; exact told_sgn (.inl rfl) hs h
  · split at h
    · rename_i hs; exact told_sgn (.inr rfl) hs h
    · cases h
      exact ⟨[], rfl, bal_nil 0, fun _ => by omega⟩
theorem told_names (two : Bool) : Told 1 (fun _ => 0) (fun ab => (0 ≤ ab.1 ∧ ab.1 < 26) ∧ (0 ≤ ab.2 ∧ ab.2 < 26) ∧ (two = false → ab.2 = 0)) (pNames two) := by
  intro l v l' h
  obtain ⟨a, l1, h1, h2⟩ := then_inv h
  obtain ⟨t, rfl, hk, rfl⟩ := take_inv (by decide) h1
  have b1 := bal_tok 1 (t := t) (by omega) (by omega)
  cases two
  · cases h2
    exact ⟨[t], rfl, b1, fun hB => by have := hB t (by simp); have h3 := this.2.2 hk; have := this.1.1; simp; omega⟩
  · simp only [if_true] at h2
    obtain ⟨_, l2, h3, h4⟩ := then_inv h2
    obtain ⟨t2, rfl, hk2, hn2⟩ := sign_inv h3
    obtain ⟨b, l3, h5, h6⟩ := then_inv h4
    obtain ⟨t3, rfl, hk3, rfl⟩ := take_inv (by decide) h5
    cases h6
    refine ⟨[t, t2, t3], rfl, ?_, fun hB => ?_⟩
    · have := bal_app (bal_app b1 (bal_sign 1 hk2 hn2 (by omega) (.inr (by omega)))) (bal_tok 1 (t := t3) (by omega) (by omega))
      simpa using this
    · have g1 := hB t (by simp)
      have g2 := hB t3 (by simp)
      have := g1.2.2 hk
      have := g2.2.2 hk3
      have := g1.1.1
      have := g2.1.1
      simp; omega
theorem told_named {k : Int} (hk : 0 < k) (hk7 : k < 7) : Told 0 (fun _ => 0) (fun t => tmB t = true) (pNamed k) := by
  intro l v l' h
  obtain ⟨_, l1, h1, h2⟩ := then_inv h
  obtain ⟨t1, rfl, hk1, hn1⟩ := sign_inv h1
  obtain ⟨ab, l2, h3, h4⟩ := then_inv h2
  obtain ⟨pre, rfl, b1, r1⟩ := told_names _ _ _ _ h3
  obtain ⟨_, l3, h5, h6⟩ := then_inv h4
  obtain ⟨t2, rfl, hk2, hn2⟩ := sign_inv h5
  obtain ⟨n, l4, h7, h8⟩ := then_inv h6
  obtain ⟨pre2, rfl, b2, r2⟩ := told_more _ _ _ h7
  cases h8
  refine ⟨(t1 :: (pre ++ [t2])) ++ pre2, by simp, ?_, fun hB => ?_⟩
  · have := bal_app (bal_in hk1 hn1 (.inl rfl) hk2 hn2 (.inl rfl) b1) b2
    simpa using this
  · have g1 := r1 fun t ht => hB t (by simp at ht ⊢; rcases ht with ht | ht | ht <;> simp [ht])
    have g2 := r2 fun t ht => hB t (by simp at ht ⊢; rcases ht with ht | ht <;> simp [ht])
    have g3 : (k != 0) = true := by simp; omega
    have g4 : (twoB ⟨k, n, ab.1, ab.2⟩ || ab.2 == 0) = true := by
      cases e : (k == 5 || k == 6)
      · rw [g1.2.2 e]; simp
      · unfold twoB; rw [e]; rfl
    unfold tmB
    simp only [g3, g4, Bool.true_or, Bool.and_true, Bool.and_eq_true, decide_eq_true_eq]
    omega
theorem kindOf_lt (n : Int) : kindOf n < 7 ∧ 0 ≤ kindOf n := by
  unfold kindOf
  repeat' split
  all_goals omega
theorem told_plain : Told 0 (fun _ => 0) (fun t => tmB t = true) pPlain := by
  intro l v l' h
  unfold pPlain at h
  obtain ⟨n, l1, h1, h2⟩ := then_inv h
  cases h2
  have hr : ∀ n : Int, (-1099511627776 ≤ n ∧ n ≤ 1099511627776) → tmB ⟨0, n, 0, 0⟩ = true := fun n h => by simp [tmB, h.1, h.2]
  split at h1
  · rename_i hs
    obtain ⟨pre, e, b, r⟩ := told_sgn (.inr rfl) hs h1
    exact ⟨pre, e, b, fun hB => hr _ (r hB)⟩
  · obtain ⟨pre, e, b, r⟩ := told_num _ _ _ _ h1
    exact ⟨pre, e, b, fun hB => hr _ (r hB)⟩
theorem told_term : Told 0 (fun _ => 0) (fun t => tmB t = true) pTerm := by
  intro l v l' h
  cases l with
  | nil => cases h
  | cons t r =>
    by_cases hk : t.kind = 2
    · rw [term_name hk] at h
      split at h
      · cases h
      · rename_i h0
        have := kindOf_lt t.n
        obtain ⟨pre, rfl, b, g⟩ := told_named (by omega) (by omega) _ _ _ h
        refine ⟨t :: pre, rfl, ?_, fun hB => g fun t ht => hB t (List.mem_cons_of_mem _ ht)⟩
        have := bal_app (bal_tok 0 (t := t) (by omega) (by omega)) b
        simpa using this
    · rw [term_num hk] at h
      exact told_plain _ _ _ h
theorem told_cmp : Told 0 (fun _ => 1) (fun c => cmB c = true) pCmp := by
  intro l v l' h
  obtain ⟨a, l1, h1, h2⟩ := then_inv h
  obtain ⟨p1, rfl, b1, r1⟩ := told_term _ _ _ h1
  obtain ⟨op, l2, h3, h4⟩ := then_inv h2
  obtain ⟨t, rfl, hk, rfl⟩ := take_inv (by decide) h3
  obtain ⟨b, l3, h5, h6⟩ := then_inv h4
  obtain ⟨p2, rfl, b2, r2⟩ := told_term _ _ _ h5
  cases h6
  refine ⟨p1 ++ [t] ++ p2, by simp, ?_, fun hB => ?_⟩
  · have := bal_app (bal_app b1 (bal_op 0 hk)) b2
    simpa using this
  · have g1 := r1 hB
    have g2 := r2 fun t ht => hB t (by simp at ht ⊢; rcases ht with ht | ht <;> simp [ht])
    have g3 := (hB t (by simp)).2.1 hk
    unfold cmB
    simp [g1, g2, g3]
theorem told_cs : ∀ (n : Nat) (l : List Tok), l.length ≤ n → ∀ v l', pCs l = .ok (v, l') → ∃ pre y, l = pre ++ y :: l' ∧ y.kind = 5 ∧ y.n = 93 ∧ Bal 0 pre v.length ∧ ((∀ t ∈ l, tokB t) → v.all cmB = true) := by
  intro n
  induction n with
  | zero =>
    intro l hl v l' h
    obtain rfl := List.eq_nil_of_length_eq_zero (Nat.le_zero.1 hl)
    cases h
  | succ n ih =>
    intro l hl v l' h
    rw [pCs_eq] at h
    obtain ⟨c, l1, h1, h2⟩ := then_inv h
    have hlt := eats_cmp _ _ _ h1
    obtain ⟨p1, rfl, b1, r1⟩ := told_cmp _ _ _ h1
    split at h2
    · rename_i hs
      obtain ⟨t, r, rfl, hk, hn⟩ := isS_true hs
      obtain ⟨cs, l2, h3, h4⟩ := then_inv h2
      cases h4
      simp only [List.tail_cons] at h3
      obtain ⟨p2, y, rfl, hy1, hy2, b2, r2⟩ := ih r (by simp at hlt hl; omega) _ _ h3
      refine ⟨p1 ++ [t] ++ p2, y, by simp, hy1, hy2, ?_, fun hB => ?_⟩
      · have := bal_app (bal_app b1 (bal_sign 0 hk hn (by omega) (.inl (by omega)))) b2
        rw [show (((c :: cs).length : Nat) : Int) = 1 + 0 + (cs.length : Int) by simp; omega]
        exact this
      · have g1 := r1 hB
        have g2 := r2 fun t ht => hB t (by simp at ht ⊢; rcases ht with ht | ht | ht <;> simp [ht])
        simp only [List.all_cons, g1, g2, Bool.and_self]
    · obtain ⟨_, l2, h3, h4⟩ := then_inv h2
      cases h4
      obtain ⟨y, rfl, hy1, hy2⟩ := sign_inv h3
      exact ⟨p1, y, rfl, hy1, hy2, b1, fun hB => by simp [r1 hB]⟩
theorem told_times : Told 0 (fun _ => 0) (fun ab => numB ab.1 = true ∧ numB ab.2 = true) pTimes := by
  intro l v l' h
  unfold pTimes at h
  split at h
  · rename_i hs
    obtain ⟨t0, r, rfl, hk0, hn0⟩ := isS_true hs
    obtain ⟨a, l1, h1, h2⟩ := then_inv h
    obtain ⟨t1, h1', hk1, rfl⟩ := take_inv (by decide) h1
    simp only [List.tail_cons] at h1'
    subst h1'
    obtain ⟨_, l2, h3, h4⟩ := then_inv h2
    obtain ⟨t2, rfl, hk2, hn2⟩ := sign_inv h3
    obtain ⟨b, l3, h5, h6⟩ := then_inv h4
    obtain ⟨t3, rfl, hk3, rfl⟩ := take_inv (by decide) h5
    obtain ⟨_, l4, h7, h8⟩ := then_inv h6
    obtain ⟨t4, rfl, hk4, hn4⟩ := sign_inv h7
    cases h8
    refine ⟨t0 :: ([t1, t2, t3] ++ [t4]), rfl, ?_, fun hB => ?_⟩
    · refine bal_in hk0 hn0 (.inr (.inr rfl)) hk4 hn4 (.inr (.inr rfl)) ?_
      have := bal_app (bal_app (bal_tok 1 (t := t1) (by omega) (by omega)) (bal_sign 1 hk2 hn2 (by omega) (.inr (by omega)))) (bal_tok 1 (t := t3) (by omega) (by omega))
      simpa using this
    · have g1 := (hB t1 (by simp)).1
      have g2 := (hB t3 (by simp)).1
      simp [numB, g1, g2]
  · cases h
    exact ⟨[], rfl, bal_nil 0, fun _ => by decide⟩
theorem told_asks : Told 0 (fun cs : List Cm => (cs.length : Int)) (fun cs => cs.all cmB = true) pAsks := by
  intro l v l' h
  rw [pAsks_cs] at h
  split at h
  · rename_i hs
    obtain ⟨t0, r, rfl, hk0, hn0⟩ := isS_true hs
    obtain ⟨pre, y, h1, hy1, hy2, b, g⟩ := told_cs _ _ (Nat.le_refl _) _ _ h
    simp only [List.tail_cons] at h1 g
    subst h1
    exact ⟨t0 :: (pre ++ [y]), by simp, bal_in hk0 hn0 (.inr (.inl rfl)) hy1 hy2 (.inr (.inl rfl)) (bal_le b (by omega)), fun hB => g fun t ht => hB t (List.mem_cons_of_mem _ ht)⟩
  · cases h
    exact ⟨[], rfl, bal_nil 0, fun _ => rfl⟩
theorem told_step (i : Int) (strict : Bool) : Told 0 (fun s : St => (s.cmps.length : Int)) (fun s => stB s = true ∧ s.strict = strict ∧ i < 26) (pStep i strict) := by
  have hN : ∀ neg, Told 0 (fun s : St => (s.cmps.length : Int)) (fun s => stB s = true ∧ s.strict = strict ∧ i < 26) (pStepN i strict neg) := by
    intro neg l v l' h
    obtain ⟨k, l1, h1, h2⟩ := then_inv h
    obtain ⟨t1, rfl, hk1, rfl⟩ := take_inv (by decide) h1
    obtain ⟨_, l2, h3, h4⟩ := then_inv h2
    obtain ⟨t2, rfl, hk2, rfl⟩ := letter_inv h3
    obtain ⟨ab, l3, h5, h6⟩ := then_inv h4
    obtain ⟨p1, rfl, b1, r1⟩ := told_times _ _ _ h5
    obtain ⟨cs, l4, h7, h8⟩ := then_inv h6
    obtain ⟨p2, rfl, b2, r2⟩ := told_asks _ _ _ h7
    cases h8
    refine ⟨[t1] ++ [t2] ++ p1 ++ p2, by simp, ?_, fun hB => ?_⟩
    · have := bal_app (bal_app (bal_app (bal_tok 0 (t := t1) (by omega) (by omega)) (bal_tok 0 (t := t2) (by omega) (by omega))) b1) b2
      simpa using this
    · have g1 := r1 fun t ht => hB t (by simp at ht ⊢; rcases ht with ht | ht | ht <;> simp [ht])
      have g2 := r2 fun t ht => hB t (by simp at ht ⊢; rcases ht with ht | ht <;> simp [ht])
      have g3 := (hB t1 (by simp)).1
      refine ⟨?_, rfl, (hB t2 (by simp)).2.2 hk2⟩
      have gk : numB t1.n = true := by simp [numB, g3]
      unfold stB
      simp only [gk, g1.1, g1.2, g2, Bool.and_self]
  intro l v l' h
  rw [pStep_if] at h
  split at h
  · rename_i hs
    obtain ⟨t0, r, rfl, hk0, hn0⟩ := isS_true hs
    obtain ⟨pre, h1, b, g⟩ := hN true _ _ _ h
    simp only [List.tail_cons] at h1 g
    subst h1
    refine ⟨t0 :: pre, rfl, ?_, fun hB => g fun t ht => hB t (List.mem_cons_of_mem _ ht)⟩
    have := bal_app (bal_sign 0 hk0 hn0 (by omega) (.inl (by omega))) b
    simpa using this
  · exact hN false _ _ _ h
def asks (ss : List St) : Int := (ss.map fun s => (s.cmps.length : Int)).sum
theorem scan_sep {t : Tok} {c : Int} (hk : t.kind = 5) (hn : t.n = c) (hc : c = 59 ∨ c = 44) (s o : Int) : scan (0, s, o) [t] = (0, s + 1, o) := by
  subst hn
  have h44 : ¬ t.kind = 4 := by omega
  rcases hc with h | h <;> simp [scan, scan1, deepOf, openB, shutB, sepB, hk, h]
theorem told_ss : ∀ (n : Nat) (l : List Tok), l.length ≤ n → ∀ (i : Nat) (strict : Bool) v l', pSs i strict l = .ok (v, l') → ∃ pre, l = pre ++ l' ∧ (∀ s o, scan (0, s, o) pre = (0, s + (v.length - 1), o + asks v)) ∧ 0 < v.length ∧
    ((∀ t ∈ l, tokB t) → v.all stB = true ∧ i + v.length ≤ 26 ∧ (v.head?.map (·.strict)) = some strict) := by
  intro n
  induction n with
  | zero =>
    intro l hl i strict v l' h
    obtain rfl := List.eq_nil_of_length_eq_zero (Nat.le_zero.1 hl)
    cases h
  | succ n ih =>
    intro l hl i strict v l' h
    rw [pSs_eq] at h
    obtain ⟨c, l1, h1, h2⟩ := then_inv h
    have hlt := eats_step _ _ _ _ _ h1
    obtain ⟨p1, rfl, b1, r1⟩ := told_step _ _ _ _ _ h1
    have goOn : ∀ (x : Int) (st : Bool), x = 59 ∨ x = 44 → isS x l1 = true → (thenR (pSs (i + 1) st l1.tail) fun ss l => .ok (c :: ss, l)) = .ok (v, l') → ∃ pre, p1 ++ l1 = pre ++ l' ∧ (∀ s o, scan (0, s, o) pre = (0, s + (v.length - 1), o + asks v)) ∧ 0 < v.length ∧
        ((∀ t ∈ p1 ++ l1, tokB t) → v.all stB = true ∧ i + v.length ≤ 26 ∧ (v.head?.map (·.strict)) = some strict) := by
      intro x st hx hs h2
      obtain ⟨t, r, rfl, hk, hn⟩ := isS_true hs
      obtain ⟨cs, l2, h3, h4⟩ := then_inv h2
      cases h4
      simp only [List.tail_cons] at h3
      obtain ⟨p2, rfl, b2, hlen, r2⟩ := ih r (by simp at hlt hl; omega) _ _ _ _ h3
      refine ⟨p1 ++ [t] ++ p2, by simp, fun s o => ?_, by simp, fun hB => ?_⟩
      · rw [scan_app, scan_app, b1 0 s o (by omega), scan_sep hk hn hx, b2]
        simp only [asks, List.map_cons, List.sum_cons, List.length_cons]
        congr 1
        congr 1
        · omega
        · omega
      · have g1 := r1 hB
        have g2 := r2 fun t ht => hB t (by simp at ht ⊢; rcases ht with ht | ht <;> simp [ht])
        refine ⟨by simp only [List.all_cons, g1.1, g2.1, Bool.and_self], by have := g2.2.1; simp; omega, by simp [g1.2.1]⟩
    split at h2
    · rename_i hs
      exact goOn 59 false (.inl rfl) hs h2
    · split at h2
      · rename_i hs
        exact goOn 44 true (.inr rfl) hs h2
      · cases h2
        refine ⟨p1, rfl, fun s o => ?_, by simp, fun hB => ?_⟩
        · rw [b1 0 s o (by omega)]
          simp [asks]
        · have g1 := r1 hB
          exact ⟨by simp [g1.1], by have := g1.2.2; simp; omega, by simp [g1.2.1]⟩
/-- what is told of a pattern that is parsed -/
theorem told_pat {l l' : List Tok} {p : Pt} (h : pPat l = .ok (p, l')) (hq : endQ l) (hB : ∀ t ∈ l, tokB t) :
    ptB p = true ∧ (p.steps.head?.map (·.strict)) = some false ∧ scan (0, 0, 0) l = (0, (p.steps.length : Int) - 1, asks p.steps) := by
  have hloc := (loc_pat l).ok h
  rw [pPat_eq] at h
  obtain ⟨ss, l1, h1, h2⟩ := then_inv h
  obtain ⟨p1, rfl, b1, hlen, r1⟩ := told_ss _ _ (Nat.le_refl _) _ _ _ _ h1
  obtain ⟨_, l2, h3, h4⟩ := then_inv h2
  obtain ⟨t1, rfl, hk1, _⟩ := take_inv (by decide) h3
  obtain ⟨w, l3, h5, h6⟩ := then_inv h4
  obtain ⟨t2, rfl, hk2, rfl⟩ := take_inv (by decide) h5
  obtain ⟨_, l4, h7, h8⟩ := then_inv h6
  cases h8
  have g1 := r1 hB
  obtain ⟨t3, hk3, rfl⟩ : ∃ t3 : Tok, t3.kind = 0 ∧ l3 = [t3] := by
    have e3 : ∃ t r, l3 = t :: r ∧ t.kind = 0 := by
      cases l3 with
      | nil => cases h7
      | cons t r =>
        by_cases e : t.kind = 0
        · exact ⟨t, r, rfl, e⟩
        · rw [take_no e] at h7; cases h7
    obtain ⟨t, r, rfl, hk⟩ := e3
    have he : endQ (t :: r) := by
      have : ∀ (a b : List Tok), endQ (a ++ b) → b ≠ [] → endQ b := by
        intro a
        induction a with
        | nil => intro b h _; exact h
        | cons x a ih =>
          intro b h hb
          rcases h with h | h
          · simp at h; exact absurd h.2.2 hb
          · exact ih b h.2 hb
      have := this (p1 ++ [t1, t2]) (t :: r) (by simpa using hq) (by simp)
      exact this
    rcases he with he | he
    · exact ⟨t, hk, by rw [he.2]⟩
    · exact absurd hk he.1
  refine ⟨?_, g1.2.2, ?_⟩
  · have g3 := (hB t2 (by simp)).1
    have g4 := g1.2.1
    unfold ptB
    simp only [Bool.and_eq_true, decide_eq_true_eq]
    exact ⟨⟨⟨hlen, by omega⟩, by simp [numB, g3]⟩, g1.1⟩
  · have hb := bal_app (bal_app (bal_tok 0 (t := t1) (by omega) (by omega)) (bal_tok 0 (t := t2) (by omega) (by omega))) (bal_tok 0 (t := t3) (by omega) (by omega))
    rw [show p1 ++ t1 :: t2 :: [t3] = p1 ++ ([t1] ++ [t2] ++ [t3]) by simp, scan_app, b1, hb 0 _ _ (by omega)]
    simp
end Go.Proofs.YtafgincpoahefaaDoor
