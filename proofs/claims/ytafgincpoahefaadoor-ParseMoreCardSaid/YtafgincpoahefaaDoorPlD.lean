/-
  parse, plain: the tokens of a text that is cut between two tokens, and goes on otherwise.
  parse, plain: what Parse tells of a text with blanks, of a text that is cut.
-/
import Derived.Test.YtafgincpoahefaaDoorPlB
import Derived.Test.YtafgincpoahefaaDoorRef9g
namespace Go.Proofs.YtafgincpoahefaaDoor
open Go.RowKit

theorem blank_take : ∀ (l : List UInt8) (c : Nat), c ≤ lead blB l → l.take c = List.replicate c 32
  | _, 0, _ => by simp
  | [], c + 1, h => by simp [lead] at h
  | x :: l, c + 1, h => by
    rw [lead_cons] at h
    by_cases hx : blB x = true
    · rw [if_pos hx] at h
      obtain rfl : x = 32 := by
        have : x.toNat = 32 := by simpa [blB] using hx
        exact UInt8.toNat_inj.1 this
      rw [List.take_succ_cons, blank_take l c (by omega), List.replicate_succ]
    · rw [if_neg hx] at h; omega
/-- a text that is cut between two tokens, and goes on otherwise -/
theorem yields_pre : ∀ (k a : Nat) (l : List UInt8), good (yields a l) → ∀ c, c ≤ l.length → k ≤ (yields a l).length → (∀ y, (yields a l)[k]? = some y → (a + c : Int) ≤ y.t.at') →
    (∀ j y, j + 1 = k → (yields a l)[j]? = some y → y.t.at' + y.m ≤ (a + c : Int)) → ∀ e : List UInt8, (e.head? = (l.drop c).head? ∨ stops e) → yields a (l.take c ++ e) = (yields a l).take k ++ yields (a + c) e := by
  intro k
  induction k with
  | zero =>
    intro a l hg c hc hk h1 h2 e he
    have hle : c ≤ lead blB l := by
      by_cases h : l.drop (lead blB l) = []
      · rw [(drop_lead_nil blB l).1 h]; exact hc
      · have h0 := good_first hg h
        have := h1 _ (by rw [yields_more a l h h0]; rfl)
        simp only at this
        omega
    rw [blank_take l c hle, yields_blanks]
    rfl
  | succ k ih =>
    intro a l hg c hc hk h1 h2 e he
    have h : l.drop (lead blB l) ≠ [] := fun h => by rw [yields_end a l h] at hk; simp at hk
    have h0 := good_first hg h
    have hgr := good_rest hg h
    have hsub := yields_more a l h h0
    have hb1 : lead blB l ≠ l.length := fun e => h ((drop_lead_nil blB l).2 e)
    have hble := lead_le blB l
    have hm := tokOf_le (l.drop (lead blB l))
    generalize hb : lead blB l = b at *
    generalize hM : (tokOf (l.drop b)).2.2 = M at *
    rw [List.length_drop] at hm
    rw [hsub] at h1 h2 hk
    simp only [List.length_cons] at hk
    have hcM : b + M ≤ c := by
      cases k with
      | zero =>
        have := h2 0 _ rfl rfl
        simp only at this
        omega
      | succ k =>
        obtain ⟨y, hy⟩ : ∃ y, (yields (a + b + M) ((l.drop b).drop M))[k]? = some y := ⟨_, List.getElem?_eq_getElem (by omega)⟩
        have := h2 (k + 1) y rfl (by simpa using hy)
        have := (yields_range _ _ _ (Nat.le_refl _) y (List.mem_of_getElem? hy)).1
        omega
    obtain ⟨c1, rfl⟩ : ∃ c1, c = b + M + c1 := ⟨c - (b + M), by omega⟩
    have hd : ((l.drop b).drop M).drop c1 = l.drop (b + M + c1) := by rw [List.drop_drop, List.drop_drop, Nat.add_assoc]
    have hIH := ih (a + b + M) ((l.drop b).drop M) hgr c1 (by simp only [List.length_drop]; omega) (by omega) (fun y hy => by have := h1 y (by simpa using hy); omega) (fun j y hj hy => by have := h2 (j + 1) y (by omega) (by simpa using hy); omega) e (by rw [hd]; exact he)
    have ht : l.take (b + M + c1) ++ e = l.take b ++ ((l.drop b).take M ++ (((l.drop b).drop M).take c1 ++ e)) := by
      rw [List.take_add, List.take_add, List.drop_drop]; simp [List.append_assoc]
    have hlb : (l.take b).length = b := by rw [List.length_take]; omega
    have hlM : ((l.drop b).take M).length = M := by rw [List.length_take, List.length_drop]; omega
    have hne : (l.drop b).take M ≠ [] := fun e => by rw [e] at hlM; exact h0 hlM.symm
    obtain ⟨x, r, hx⟩ : ∃ x r, l.drop b = x :: r := by
      rcases e : l.drop b with _ | ⟨x, r⟩
      · exact absurd e h
      · exact ⟨x, r, rfl⟩
    have hxb : blB x = false := drop_lead blB x l r (by rw [hb]; exact hx)
    have hxt : ∃ r', (l.drop b).take M ++ (((l.drop b).drop M).take c1 ++ e) = x :: r' := by
      obtain ⟨M', rfl⟩ : ∃ M', M = M' + 1 := ⟨M - 1, by omega⟩
      rw [hx]; exact ⟨_, rfl⟩
    have hlead : lead blB (l.take (b + M + c1) ++ e) = b := by
      obtain ⟨r', hr'⟩ := hxt
      rw [ht, hr', blank_take l b (by omega), lead_append, lead_zero _ _ _ hxb]
      have : lead blB (List.replicate b 32) = (List.replicate b (32 : UInt8)).length := by
        have e2 := blank_take l b (by omega)
        rw [← e2]
        have := lead_append blB (l.take b) (l.drop b)
        rw [List.take_append_drop, hb] at this
        split at this
        · assumption
        · rw [← this, hlb]
      rw [if_pos this]
      simp
    have hdrop : (l.take (b + M + c1) ++ e).drop b = (l.drop b).take M ++ (((l.drop b).drop M).take c1 ++ e) := by
      rw [ht, List.drop_append_of_le_length (by omega), List.drop_of_length_le (by omega), List.nil_append]
    have htok : tokOf ((l.drop b).take M ++ (((l.drop b).drop M).take c1 ++ e)) = tokOf (l.drop b) := by
      have := tok_stable ((l.drop b).take M) ((l.drop b).drop M) (((l.drop b).drop M).take c1 ++ e) hne (by rw [List.take_append_drop, hlM]; exact hM) (by
        cases c1 with
        | zero =>
          rw [List.take_zero, List.nil_append, ← List.drop_zero (l := (l.drop b).drop M), hd]
          exact he
        | succ c1 =>
          left
          cases h : (l.drop b).drop M with
          | nil => have := congrArg List.length h; simp only [List.length_drop, List.length_nil] at this; omega
          | cons z s => rfl)
      rw [List.take_append_drop] at this
      exact this
    have hdM : ((l.drop b).take M ++ (((l.drop b).drop M).take c1 ++ e)).drop M = ((l.drop b).drop M).take c1 ++ e := by
      rw [List.drop_append_of_le_length (by omega), List.drop_of_length_le (by omega), List.nil_append]
    rw [hsub, yields_more a (l.take (b + M + c1) ++ e) (by rw [hlead, hdrop]; obtain ⟨r', hr'⟩ := hxt; rw [hr']; simp) (by rw [hlead, hdrop, htok, hM]; exact h0), hlead, hdrop, htok, hM, hdM, hIH]
    rw [List.take_succ_cons, List.cons_append, show a + b + M + c1 = a + (b + M + c1) by omega]
/-- what begins at a token's place -/
theorem yields_suf {k a : Nat} {l : List UInt8} (hg : good (yields a l)) {c : Nat} (hc : c ≤ l.length) (hk : k ≤ (yields a l).length) (h1 : ∀ y, (yields a l)[k]? = some y → (a + c : Int) ≤ y.t.at')
    (h2 : ∀ j y, j + 1 = k → (yields a l)[j]? = some y → y.t.at' + y.m ≤ (a + c : Int)) : yields (a + c) (l.drop c) = (yields a l).drop k := by
  have h := yields_pre k a l hg c hc hk h1 h2 (l.drop c) (.inl rfl)
  rw [List.take_append_drop] at h
  have h3 : (yields a l).take k ++ (yields a l).drop k = (yields a l).take k ++ yields (a + c) (l.drop c) := by rw [List.take_append_drop]; exact h
  exact (List.append_cancel_left h3).symm
/-- tokens stand one behind another -/
theorem yields_order : ∀ (i a : Nat) (l : List UInt8), good (yields a l) → ∀ (j : Nat) (y z : Y), i < j → (yields a l)[i]? = some y → (yields a l)[j]? = some z → y.t.at' + y.m ≤ z.t.at' := by
  intro i
  induction i with
  | zero =>
    intro a l hg j y z hij hy hz
    have h : l.drop (lead blB l) ≠ [] := fun h => by rw [yields_end a l h] at hy; simp at hy
    have h0 := good_first hg h
    rw [yields_more a l h h0] at hy hz
    obtain ⟨j, rfl⟩ : ∃ j', j = j' + 1 := ⟨j - 1, by omega⟩
    simp only [List.getElem?_cons_zero, Option.some.injEq, List.getElem?_cons_succ] at hy hz
    have := (yields_range _ _ _ (Nat.le_refl _) z (List.mem_of_getElem? hz)).1
    subst hy
    simp only
    omega
  | succ i ih =>
    intro a l hg j y z hij hy hz
    have h : l.drop (lead blB l) ≠ [] := fun h => by rw [yields_end a l h] at hy; simp at hy
    have h0 := good_first hg h
    have hgr := good_rest hg h
    rw [yields_more a l h h0] at hy hz
    obtain ⟨j, rfl⟩ : ∃ j', j = j' + 1 := ⟨j - 1, by omega⟩
    simp only [List.getElem?_cons_succ] at hy hz
    exact ih _ _ hgr j y z (by omega) hy hz
/-- the tokens of a text of tokens alone -/
def toksL (l : List UInt8) : List Tok := (yields 0 l).map (·.t) ++ [⟨0, 0, l.length⟩]
theorem toksL_len (l : List UInt8) : (toksL l).length = (yields 0 l).length + 1 := by simp [toksL]
theorem all_ok {l : List UInt8} {ts : List Tok} {p : Int} (h : allOf l = (ts, p, 0)) : p = 0 ∧ l.length ≤ 2000 ∧ good (yields 0 l) ∧ ts = toksL l := by
  unfold allOf at h
  split at h
  · simp at h
  · split at h
    · simp at h
    · rename_i hl _ hn
      simp only [Prod.mk.injEq] at h
      obtain ⟨h1, h2, _⟩ := h
      refine ⟨h2.symm, by omega, fun y hy e => ?_, h1.symm⟩
      have := List.find?_eq_none.1 hn y hy
      simp [e] at this
theorem all_mk {l : List UInt8} (h : l.length ≤ 2000) (hg : good (yields 0 l)) : allOf l = (toksL l, 0, 0) := by
  unfold allOf toksL
  rw [if_neg (by omega), List.find?_eq_none.2 (fun y hy' => by have := hg y hy'; simpa using this)]
theorem opOf_ok (l : List UInt8) : (tokOf l).1 = 4 → 1 ≤ (tokOf l).2.1 := by
  unfold tokOf
  split
  · split <;> simp
  · split
    · split
      · simp
      · split <;> simp
    · split
      · intro _; simp only; omega
      · split <;> simp
theorem yieldsF_op : ∀ (f a : Nat) (l : List UInt8), ∀ y ∈ yieldsF f a l, y.t.kind = 4 → 1 ≤ y.t.n
  | 0, _, _ => fun y h => by simp [yieldsF] at h
  | f + 1, a, l => fun y h => by
    unfold yieldsF at h
    split at h
    · simp at h
    · rcases List.mem_cons.1 h with rfl | h
      · exact opOf_ok _
      · split at h
        · simp at h
        · exact yieldsF_op f _ _ y h
theorem endQ_app : ∀ (a : List Tok) (e : Tok), (∀ t ∈ a, t.kind ≠ 0) → e.kind = 0 → endQ (a ++ [e])
  | [], _, _, he => .inl ⟨he, rfl⟩
  | t :: a, e, h, he => .inr ⟨h t (by simp), endQ_app a e (fun t ht => h t (List.mem_cons_of_mem _ ht)) he⟩
theorem toksL_end {l : List UInt8} (hg : good (yields 0 l)) : endQ (toksL l) := by
  refine endQ_app _ _ (fun t ht => ?_) rfl
  obtain ⟨y, hy, rfl⟩ := List.mem_map.1 ht
  have := (yieldsF_ok _ _ _ y hy (hg y hy)).1
  omega
theorem toksL_ok {l : List UInt8} (hg : good (yields 0 l)) : ∀ t ∈ toksL l, tokB t := by
  intro t ht
  rcases List.mem_append.1 ht with ht | ht
  · obtain ⟨y, hy, rfl⟩ := List.mem_map.1 ht
    obtain ⟨h1, h2, h3, h4⟩ := yieldsF_ok _ _ _ y hy (hg y hy)
    exact ⟨h2, fun h => ⟨yieldsF_op _ _ _ y hy h, h3 h⟩, h4⟩
  · obtain rfl := List.mem_singleton.1 ht
    exact ⟨⟨Int.le_refl _, (by decide : (0 : Int) ≤ 1099511627776)⟩, fun h => absurd (show (0 : Int) = 4 from h) (by decide), fun h => absurd (show (0 : Int) = 2 from h) (by decide)⟩
/-- what stands at a place of the tokens -/
theorem toksL_get {l : List UInt8} {k : Nat} {t : Tok} (h : (toksL l)[k]? = some t) : (∃ y, (yields 0 l)[k]? = some y ∧ y.t = t) ∨ (k = (yields 0 l).length ∧ t = ⟨0, 0, l.length⟩) := by
  unfold toksL at h
  by_cases hk : k < (yields 0 l).length
  · rw [List.getElem?_append_left (by simpa using hk), List.getElem?_map] at h
    obtain ⟨y, hy, rfl⟩ := Option.map_eq_some_iff.1 h
    exact .inl ⟨y, hy, rfl⟩
  · rw [List.getElem?_append_right (by simp; omega)] at h
    rw [List.length_map] at h
    have h1 := (List.getElem?_eq_some_iff.1 h).1
    simp only [List.length_singleton] at h1
    have h2 : k - (yields 0 l).length = 0 := by omega
    rw [h2] at h
    simp only [List.getElem?_cons_zero, Option.some.injEq] at h
    exact .inr ⟨by omega, h.symm⟩
/-- the places of tokens -/
theorem toksL_place {l : List UInt8} {k : Nat} {t : Tok} (h : (toksL l)[k]? = some t) : ∃ c : Nat, t.at' = c ∧ c ≤ l.length := by
  rcases toksL_get h with ⟨y, hy, rfl⟩ | ⟨_, rfl⟩
  · have := yields_range _ _ _ (Nat.le_refl _) y (List.mem_of_getElem? hy)
    exact ⟨y.t.at'.toNat, by omega, by omega⟩
  · exact ⟨l.length, rfl, Nat.le_refl _⟩
theorem toksL_order {l : List UInt8} (hg : good (yields 0 l)) {i j : Nat} {t u : Tok} (hij : i < j) (ht : (toksL l)[i]? = some t) (hu : (toksL l)[j]? = some u) : t.at' < u.at' := by
  rcases toksL_get ht with ⟨y, hy, rfl⟩ | ⟨h1, _⟩
  · have h0 := hg y (List.mem_of_getElem? hy)
    rcases toksL_get hu with ⟨z, hz, rfl⟩ | ⟨_, rfl⟩
    · have := yields_order i 0 l hg j y z hij hy hz
      omega
    · have := yields_range _ _ _ (Nat.le_refl _) y (List.mem_of_getElem? hy)
      simp only
      omega
  · have h2 := (List.getElem?_eq_some_iff.1 hu).1
    rw [toksL_len] at h2
    omega
/-- the text goes on otherwise where a token begins -/
theorem yields_at {l : List UInt8} (hg : good (yields 0 l)) {k c : Nat} {t : Tok} (ht : (toksL l)[k]? = some t) (hc : t.at' = c) (e : List UInt8) (he : e.head? = (l.drop c).head? ∨ stops e) :
    c ≤ l.length ∧ yields 0 (l.take c ++ e) = (yields 0 l).take k ++ yields c e ∧ yields c (l.drop c) = (yields 0 l).drop k := by
  obtain ⟨c', hc', hcl⟩ := toksL_place ht
  obtain rfl : c = c' := by omega
  have hk : k ≤ (yields 0 l).length := by
    have := (List.getElem?_eq_some_iff.1 ht).1
    rw [toksL_len] at this
    omega
  have h1 : ∀ y, (yields 0 l)[k]? = some y → ((0 : Nat) + c : Int) ≤ y.t.at' := fun y hy => by
    rcases toksL_get ht with ⟨z, hz, rfl⟩ | ⟨h, _⟩
    · rw [hz] at hy; cases hy; omega
    · rw [h, List.getElem?_eq_none (Nat.le_refl _)] at hy; cases hy
  have h2 : ∀ j y, j + 1 = k → (yields 0 l)[j]? = some y → y.t.at' + y.m ≤ ((0 : Nat) + c : Int) := fun j y hj hy => by
    rcases toksL_get ht with ⟨z, hz, rfl⟩ | ⟨_, rfl⟩
    · have := yields_order j 0 l hg k y z (by omega) hy hz
      omega
    · have := yields_range _ _ _ (Nat.le_refl _) y (List.mem_of_getElem? hy)
      simp only at hc
      omega
  have a1 := yields_pre k 0 l hg c hcl hk h1 h2 e he
  have a2 := yields_suf (a := 0) hg hcl hk h1 h2
  rw [Nat.zero_add] at a1 a2
  exact ⟨hcl, a1, a2⟩
end Go.Proofs.YtafgincpoahefaaDoor

namespace Go.Proofs.YtafgincpoahefaaDoor
open Go.RowKit

theorem simL_split {a b m : List Tok} {x : Tok} (h : simL (a ++ x :: b) m) : ∃ a' x' b', m = a' ++ x' :: b' ∧ simL a a' ∧ simT x x' ∧ a'.length = a.length := by
  obtain ⟨a', m', rfl, h1, h2⟩ := simL_append h
  obtain ⟨x', b', rfl, h3, h4, _⟩ := simL_cons h2
  refine ⟨a', x', b', rfl, h1, simT_of h3 h4, ?_⟩
  have := congrArg List.length h1
  simpa using this.symm
theorem endQ_cons {l : List Tok} (h : endQ l) : ∃ t r, l = t :: r := by
  cases l with
  | nil => cases h
  | cons t r => exact ⟨t, r, rfl⟩
/-- tokens that differ in their places alone are parsed alike -/
theorem pat_sim {ts us : List Tok} (hq : endQ ts) (hs : simL ts us) :
    (∀ p l, pPat ts = .ok (p, l) → ∃ l', pPat us = .ok (p, l')) ∧ (∀ a, pPat ts = .error a → ∃ (i : Nat) (x x' : Tok), ts[i]? = some x ∧ us[i]? = some x' ∧ x.at' = a ∧ pPat us = .error x'.at') := by
  constructor
  · intro p l h
    obtain ⟨pre, rfl, he, hx⟩ := (loc_pat ts).ok h
    obtain ⟨pre', l', rfl, h1, h2⟩ := simL_append hs
    obtain ⟨t, r, rfl⟩ := endQ_cons (he hq)
    obtain ⟨u, r', rfl, h3, h4, _⟩ := simL_cons h2
    exact ⟨_, hx pre' (u :: r') h1 (.inl ⟨t, r, u, r', rfl, rfl, simT_of h3 h4⟩)⟩
  · intro a h
    obtain ⟨pre, x, r, rfl, rfl, hx⟩ := (loc_pat ts).err h hq
    obtain ⟨pre', x', r', rfl, h1, h2, hl⟩ := simL_split hs
    refine ⟨pre.length, x, x', by simp, ?_, rfl, hx pre' x' r' h1 h2⟩
    rw [← hl, List.getElem?_append_right (Nat.le_refl _), Nat.sub_self]; rfl
def shiftT (n : Nat) (t : Tok) : Tok := ⟨t.kind, t.n, t.at' + n⟩
/-- two blanks where token k begins, or the text ends -/
theorem all_blanks {l : List UInt8} (hl : l.length ≤ 1998) (hg : good (yields 0 l)) {k c : Nat} {t : Tok} (ht : (toksL l)[k]? = some t) (hc : t.at' = c) :
    allOf (l.take c ++ 32 :: 32 :: l.drop c) = ((toksL l).take k ++ ((toksL l).drop k).map (shiftT 2), 0, 0) ∧ c ≤ l.length := by
  obtain ⟨hcl, h1, h2⟩ := yields_at hg ht hc (32 :: 32 :: l.drop c) (.inr (fun x hx => by simp at hx; subst hx; decide))
  have h3 : yields c (32 :: 32 :: l.drop c) = ((yields 0 l).drop k).map (·.shift 2) := by
    rw [yields_blank, yields_blank, show c + 1 + 1 = c + 2 by omega, yields_shift, h2]
  have hlen : (l.take c ++ 32 :: 32 :: l.drop c).length = l.length + 2 := by
    rw [List.length_append, List.length_cons, List.length_cons, List.length_take, List.length_drop]; omega
  have hk : k ≤ (yields 0 l).length := by
    have := (List.getElem?_eq_some_iff.1 ht).1
    rw [toksL_len] at this
    omega
  have hy : yields 0 (l.take c ++ 32 :: 32 :: l.drop c) = (yields 0 l).take k ++ ((yields 0 l).drop k).map (·.shift 2) := by rw [h1, h3]
  have hgood : good (yields 0 (l.take c ++ 32 :: 32 :: l.drop c)) := by
    rw [hy]
    intro y hy'
    rcases List.mem_append.1 hy' with h | h
    · exact hg y (List.mem_of_mem_take h)
    · obtain ⟨z, hz, rfl⟩ := List.mem_map.1 h
      exact hg z (List.mem_of_mem_drop hz)
  refine ⟨?_, hcl⟩
  rw [all_mk (by omega) hgood]
  unfold toksL
  rw [hy, hlen, List.take_append_of_le_length (by simpa using hk), List.drop_append_of_le_length (by simpa using hk)]
  simp only [List.map_append, List.map_take, List.map_drop, List.map_map, List.append_assoc]
  rfl
theorem simL_map {ts : List Tok} (k : Nat) (f : Tok → Tok) (hf : ∀ t, (f t).kind = t.kind ∧ (f t).n = t.n) : simL ts (ts.take k ++ (ts.drop k).map f) := by
  unfold simL
  rw [List.map_append, List.map_map]
  have : (ts.drop k).map ((fun t : Tok => (t.kind, t.n)) ∘ f) = (ts.drop k).map (fun t => (t.kind, t.n)) := List.map_congr_left fun t _ => by simp [(hf t).1, (hf t).2]
  rw [this, ← List.map_append, List.take_append_drop]
theorem shifted_get {ts : List Tok} {k : Nat} {f : Tok → Tok} {i : Nat} {x x' : Tok} (hx : ts[i]? = some x) (hx' : (ts.take k ++ (ts.drop k).map f)[i]? = some x') : x' = if i < k then x else f x := by
  have hi := (List.getElem?_eq_some_iff.1 hx).1
  by_cases h : i < k
  · rw [if_pos h]
    rw [List.getElem?_append_left (by simp; omega), List.getElem?_take, if_pos h, hx] at hx'
    exact (Option.some.inj hx').symm
  · rw [if_neg h]
    rw [List.getElem?_append_right (by simp; omega), List.getElem?_map, List.getElem?_drop, List.length_take, Nat.min_def] at hx'
    have e : k + (i - if k ≤ ts.length then k else ts.length) = i := by split <;> omega
    rw [e, hx] at hx'
    exact (Option.some.inj hx').symm
theorem parseOf_ts {l : List UInt8} {ts : List Tok} (ha : allOf l = (ts, 0, 0)) : (∀ a, pPat ts = .error a → parseOf l = (⟨[], 0⟩, a, 90)) ∧ (∀ p r, pPat ts = .ok (p, r) → parseOf l = (p, 0, 0)) := by
  unfold parseOf
  rw [ha]
  exact ⟨fun a h => by simp [h], fun p r h => by simp [h]⟩
/-- what is told of a text with two blanks more -/
theorem par_blanks {l : List UInt8} (hl : l.length ≤ 1998) (hg : good (yields 0 l)) {k c : Nat} {t : Tok} (ht : (toksL l)[k]? = some t) (hc : t.at' = c) :
    parseOf (l.take c ++ 32 :: 32 :: l.drop c) = ((parseOf l).1, if (parseOf l).2.2 ≠ 0 ∧ (c : Int) ≤ (parseOf l).2.1 then (parseOf l).2.1 + 2 else (parseOf l).2.1, (parseOf l).2.2) := by
  obtain ⟨ha, _⟩ := all_blanks hl hg ht hc
  have hb := all_mk (by omega) hg
  obtain ⟨s1, s2⟩ := pat_sim (toksL_end hg) (simL_map (ts := toksL l) k (shiftT 2) (fun t => ⟨rfl, rfl⟩))
  rcases r : pPat (toksL l) with a | ⟨p, r'⟩
  · obtain ⟨i, x, x', h1, h2, rfl, h4⟩ := s2 a r
    rw [(parseOf_ts hb).1 _ r, (parseOf_ts ha).1 _ h4]
    have hx := shifted_get h1 h2
    by_cases hi : i < k
    · rw [if_pos hi] at hx
      have := toksL_order hg hi h1 ht
      rw [if_neg (by simp only; omega), hx]
    · rw [if_neg hi] at hx
      have hle : t.at' ≤ x.at' := by
        by_cases e : i = k
        · subst e
          rw [ht] at h1
          cases h1
          exact Int.le_refl _
        · exact Int.le_of_lt (toksL_order hg (by omega) ht h1)
      rw [if_pos ⟨show (90 : Int) ≠ 0 by decide, show (c : Int) ≤ x.at' by omega⟩, hx]
      rfl
  · obtain ⟨l', h⟩ := s1 p r' r
    rw [(parseOf_ts hb).2 _ _ r, (parseOf_ts ha).2 _ _ h]
    rw [if_neg (by simp)]
/-- a text that is no pattern's: the token that may not stand there -/
theorem par_bad {l : List UInt8} {a : Int} (h : (parseOf l).2 = (a, 90)) : l.length ≤ 2000 ∧ good (yields 0 l) ∧ allOf l = (toksL l, 0, 0) ∧ (parseOf l).1 = ⟨[], 0⟩ ∧
    ∃ pre x r, toksL l = pre ++ x :: r ∧ a = x.at' ∧ ∀ pre' x' r', simL pre pre' → simT x x' → pPat (pre' ++ x' :: r') = .error x'.at' := by
  by_cases h0 : (allOf l).2.2 = 0
  · rcases ha : allOf l with ⟨ts, p, c⟩
    rw [ha] at h0
    simp only at h0
    subst h0
    obtain ⟨rfl, h1, h2, rfl⟩ := all_ok ha
    refine ⟨h1, h2, rfl, ?_⟩
    rcases r : pPat (toksL l) with b | ⟨p, r'⟩
    · rw [(parseOf_ts ha).1 _ r] at h ⊢
      simp only [Prod.mk.injEq, and_true] at h
      subst h
      exact ⟨rfl, (loc_pat _).err r (toksL_end h2)⟩
    · rw [(parseOf_ts ha).2 _ _ r] at h
      simp at h
  · rw [parse_none h0] at h
    exfalso
    simp only [Prod.mk.injEq] at h
    have h90 := h.2
    unfold allOf at h90
    split at h90
    · simp at h90
    · split at h90 <;> simp at h90
end Go.Proofs.YtafgincpoahefaaDoor
