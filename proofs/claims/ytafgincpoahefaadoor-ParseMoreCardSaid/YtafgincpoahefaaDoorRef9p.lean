/-
  A parser that goes on over tokens, at a place, good or bad: what it comes to, plain.
-/
import Derived.Test.YtafgincpoahefaaDoorParR
namespace Go.Proofs.YtafgincpoahefaaDoor
open Go.RowKit

/-- from a place, good or bad, with what r tells of what is left: what is told, and the place, good or bad, behind -/
def Out9 {α : Type} (ts : List Tok) (at0 : Nat) (bad : Bool) (r : Res α) (x : α) (at1 : Nat) (bad1 : Bool) : Prop :=
  (at1 < ts.length ∧ at0 ≤ at1) ∧ (bad = true → at1 = at0 ∧ bad1 = true) ∧ (bad = false → match r with
    | .ok (v, l) => x = v ∧ bad1 = false ∧ ts.drop at1 = l
    | .error p => bad1 = true ∧ headAt (ts.drop at1) = p)
section
variable {α β : Type} {ts : List Tok} {at0 at1 at2 : Nat} {bad bad1 bad2 : Bool}
theorem Out9.lt {r : Res α} {x : α} (h : Out9 ts at0 bad r x at1 bad1) : at1 < ts.length := h.1.1
theorem Out9.le {r : Res α} {x : α} (h : Out9 ts at0 bad r x at1 bad1) : at0 ≤ at1 := h.1.2
theorem Out9.seq {r : Res α} {f : α → List Tok → Res β} {x : α} {y : β} (h : Out9 ts at0 bad r x at1 bad1) (k : Out9 ts at1 bad1 (f x (ts.drop at1)) y at2 bad2) : Out9 ts at0 bad (thenR r f) y at2 bad2 := by
  obtain ⟨h0, h1, h2⟩ := h
  obtain ⟨k0, k1, k2⟩ := k
  refine ⟨⟨k0.1, Nat.le_trans h0.2 k0.2⟩, fun hb => ?_, fun hb => ?_⟩
  · obtain ⟨rfl, rfl⟩ := h1 hb
    exact k1 rfl
  · have := h2 hb
    match r, this with
    | .ok (v, l), this =>
      obtain ⟨rfl, rfl, rfl⟩ := this
      exact k2 rfl
    | .error p, this =>
      obtain ⟨rfl, hp⟩ := this
      obtain ⟨rfl, rfl⟩ := k1 rfl
      exact ⟨rfl, hp⟩
/-- nothing is taken -/
theorem Out9.stay (h : at0 < ts.length) (x : α) : Out9 ts at0 bad (.ok (x, ts.drop at0)) x at0 bad := ⟨⟨h, Nat.le_refl _⟩, fun hb => ⟨rfl, hb⟩, fun hb => ⟨rfl, hb, rfl⟩⟩
theorem Out9.never (h : at0 < ts.length) (r : Res α) (x : α) : Out9 ts at0 true r x at0 true := ⟨⟨h, Nat.le_refl _⟩, fun _ => ⟨rfl, rfl⟩, (fun hb => nomatch hb)⟩
/-- the token may not stand -/
theorem Out9.stop (h : at0 < ts.length) (x : α) : Out9 ts at0 bad (.error (headAt (ts.drop at0))) x at0 true := ⟨⟨h, Nat.le_refl _⟩, fun _ => ⟨rfl, rfl⟩, fun _ => ⟨rfl, rfl⟩⟩
theorem Out9.goes (h : at0 + 1 < ts.length) (x : α) : Out9 ts at0 false (.ok (x, (ts.drop at0).tail)) x (at0 + 1) false := ⟨⟨h, Nat.le_succ _⟩, (fun hb => nomatch hb), fun _ => ⟨rfl, rfl, by simp⟩⟩
theorem Out9.to {r r' : Res α} {x : α} (h : Out9 ts at0 bad r x at1 bad1) (e : bad = false → r = r') : Out9 ts at0 bad r' x at1 bad1 :=
  ⟨h.1, h.2.1, fun hb => by have := h.2.2 hb; rw [e hb] at this; exact this⟩
theorem Out9.val {r : Res α} {x y : α} (h : Out9 ts at0 bad r x at1 bad1) (e : bad1 = false → y = x) : Out9 ts at0 bad r y at1 bad1 :=
  ⟨h.1, h.2.1, fun hb => by
    have := h.2.2 hb
    match r, this with
    | .ok (v, l), this => obtain ⟨rfl, rfl, rfl⟩ := this; exact ⟨e rfl, rfl, rfl⟩
    | .error p, this => exact this⟩
end

/-- the tokens of a text: no end but the last -/
def endsT (ts : List Tok) : Prop := ∀ (i : Nat) (t : Tok), ts[i]? = some t → (t.kind = 0 ↔ i + 1 = ts.length)
/-- a sign that may stand -/
def pMay (c : Int) (l : List Tok) : Res Bool := .ok (isS c l, if isS c l = true then l.tail else l)
theorem drop_at {ts : List Tok} {i : Nat} {t : Tok} (h : ts[i]? = some t) : ts.drop i = t :: ts.drop (i + 1) := by
  obtain ⟨hi, rfl⟩ := List.getElem?_eq_some_iff.1 h
  exact List.drop_eq_getElem_cons hi
theorem endsT.next {ts : List Tok} (h : endsT ts) {i : Nat} {t : Tok} (ht : ts[i]? = some t) (hk : t.kind ≠ 0) : i + 1 < ts.length := by
  have hi := (List.getElem?_eq_some_iff.1 ht).1
  have := h i t ht
  omega
theorem may_out {ts : List Tok} {at0 : Nat} (bad : Bool) (c : Int) {t : Tok} (he : endsT ts) (ht : ts[at0]? = some t) :
    Out9 ts at0 bad (pMay c (ts.drop at0)) (!bad && ((t.kind == 5) && (t.n == c))) (if (!bad && ((t.kind == 5) && (t.n == c))) = true then at0 + 1 else at0) bad := by
  have hi := (List.getElem?_eq_some_iff.1 ht).1
  have hs : isS c (ts.drop at0) = ((t.kind == 5) && (t.n == c)) := by rw [drop_at ht]; rfl
  unfold pMay
  rw [hs]
  cases bad
  · simp only [Bool.not_false, Bool.true_and]
    split
    · rename_i h
      rw [h]
      have hk : t.kind = 5 := by simp only [Bool.and_eq_true, beq_iff_eq] at h; exact h.1
      exact Out9.goes (he.next ht (by omega)) true
    · rename_i h
      simp only [Bool.not_eq_true] at h
      rw [h]
      exact Out9.stay hi false
  · exact Out9.never hi _ _
theorem must_out {ts : List Tok} {at0 : Nat} (bad : Bool) (k : Int) {t : Tok} (he : endsT ts) (ht : ts[at0]? = some t) :
    Out9 ts at0 bad (pTake k (ts.drop at0)) (if (!bad && (t.kind == k)) = true then t.n else 0) (if (!bad && (t.kind == k) && (k != 0)) = true then at0 + 1 else at0) (bad || (t.kind != k)) := by
  have hi := (List.getElem?_eq_some_iff.1 ht).1
  cases bad
  · have hd := drop_at ht
    have hp : pTake k (ts.drop at0) = if t.kind = k then .ok (t.n, if k = 0 then ts.drop at0 else (ts.drop at0).tail) else .error (headAt (ts.drop at0)) := by
      rw [hd]; rfl
    rw [hp]
    by_cases h : t.kind = k
    · subst h
      by_cases hz : t.kind = 0
      · simp only [hz, if_true]
        have := Out9.stay (bad := false) hi t.n
        simpa using this
      · have h1 : (t.kind != 0) = true := by simpa using hz
        simp only [if_true, if_neg hz, h1, Bool.not_false, beq_self_eq_true, Bool.and_self, bne_self_eq_false, Bool.or_self]
        exact Out9.goes (he.next ht hz) t.n
    · have h1 : (t.kind == k) = false := by simpa using h
      have h2 : (t.kind != k) = true := by simpa using h
      simp only [if_neg h, h1, h2, Bool.not_false, Bool.and_false, Bool.false_and, Bool.or_true]
      exact Out9.stop hi 0
  · simp only [Bool.not_true, Bool.false_and, Bool.true_or]
    exact Out9.never hi _ _
end Go.Proofs.YtafgincpoahefaaDoor
