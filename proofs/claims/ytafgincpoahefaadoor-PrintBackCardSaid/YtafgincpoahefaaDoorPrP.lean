/-
  Print, plain: texts tell what they are of; a text's tokens, one behind the other.
-/
import Derived.Test.YtafgincpoahefaaDoorParR
import Derived.Lib.ItoaLen
namespace Go.Proofs.YtafgincpoahefaaDoor
open Go.RowKit

theorem pat_apart {p q : Pt} (hp : ptB p = true) (kp : okP p) (p0 : strict0 p = false) (lp : (patT p).length ≤ 2000) (hq : ptB q = true) (kq : okP q) (q0 : strict0 q = false) (lq : (patT q).length ≤ 2000) (h : patT p = patT q) : p = q := by
  have h1 := parse_print hp kp p0 lp
  have h2 := parse_print hq kq q0 lq
  rw [h, h2] at h1
  exact (Prod.mk.inj h1).1.symm
theorem itoa_ne' (n : Int) : Lib.itoa n ≠ [] := by
  obtain ⟨c, r, h, _⟩ := itoa_head n
  rw [h]; simp
theorem termT0_ne {t : Tm} (h : tmB t = true) (hk : 0 ≤ t.kind) : termT0 t ≠ [] := by
  obtain ⟨c, r, h, _⟩ := termT0_head h hk
  rw [h]; simp
theorem term_apart {t u : Tm} (ht : tmB t = true) (kt : 0 ≤ t.kind) (hu : tmB u = true) (ku : 0 ≤ u.kind) (lt : (termT0 t).length ≤ 2000) (h : termT0 t = termT0 u) : t = u := by
  have lu : (termT0 u).length ≤ 2000 := by rw [← h]; exact lt
  rw [← termI_text ht kt] at lt
  rw [← termI_text hu ku] at lu
  rw [← termI_text ht kt, ← termI_text hu ku] at h
  obtain ⟨ts, h1, h2⟩ := all_items (termI t) (termI_ok ht kt (fun c hc => by simp at hc)) lt
  obtain ⟨us, g1, g2⟩ := all_items (termI u) (termI_ok hu ku (fun c hc => by simp at hc)) lu
  rw [h, g1] at h1
  have e : us = ts := (List.append_inj' (Prod.mk.inj h1).1 rfl).1
  subst e
  have p1 := pTerm_back ht kt h2 [⟨0, 0, 0⟩] (by simp [isS_cons]) (by simp [isS_cons])
  have p2 := pTerm_back hu ku g2 [⟨0, 0, 0⟩] (by simp [isS_cons]) (by simp [isS_cons])
  rw [p1] at p2
  exact (Prod.mk.inj (Except.ok.inj p2)).1

/-- how many blanks -/
def blanksN (l : List UInt8) : Nat := (l.filter (· == 32)).length
theorem blanksN_app (l r : List UInt8) : blanksN (l ++ r) = blanksN l + blanksN r := by simp [blanksN]
theorem blanks_itoa {n : Int} : blanksN (Lib.itoa n) = 0 := by
  have h : ∀ m : Int, 0 ≤ m → blanksN (Lib.itoa m) = 0 := fun m hm => by
    rw [itoa_nat m hm]
    have hnum := numeral_decDigits m.toNat
    have hall := numeral_all _ hnum.1
    unfold blanksN
    rw [List.length_eq_zero_iff, List.filter_eq_nil_iff]
    intro c hc
    have := List.all_eq_true.1 hall c hc
    intro e
    rw [beq_iff_eq] at e
    subst e
    simp [digB] at this
  by_cases hn : n < 0
  · rw [itoa_minus hn, show (45 :: Lib.itoa (-n)) = [45] ++ Lib.itoa (-n) from rfl, blanksN_app, h _ (by omega)]
    rfl
  · exact h n (by omega)
theorem blanks_text (k n : Int) : blanksN (textOf k n) = 0 := by
  unfold textOf
  split
  · exact blanks_itoa
  · split
    · rename_i h
      have hn : (UInt8.ofNat (97 + n.toNat)).toNat = 97 + n.toNat := by rw [UInt8.toNat_ofNat']; omega
      have : UInt8.ofNat (97 + n.toNat) ≠ 32 := by intro e; rw [e] at hn; simp at hn; omega
      generalize UInt8.ofNat (97 + n.toNat) = x at *
      simp [blanksN, this]
    · split
      · decide
      · split
        · rename_i h
          have : n.toNat = 1 ∨ n.toNat = 2 ∨ n.toNat = 3 ∨ n.toNat = 4 ∨ n.toNat = 5 ∨ n.toNat = 6 := by omega
          rcases this with h | h | h | h | h | h <;> rw [h] <;> decide
        · split
          · rename_i h
            have : UInt8.ofNat n.toNat ≠ 32 := by
              intro e
              have := h.2.2.2
              rw [e] at this
              revert this; decide
            simp [blanksN, this]
          · rfl
/-- a word as it stands in a pattern's text -/
def wordT (k n : Int) : List UInt8 := if textOf k n = within then 32 :: (within ++ [32]) else textOf k n
theorem word_else {k n : Int} (h : k ≠ 3) : wordT k n = textOf k n := by
  unfold wordT
  rw [if_neg]
  intro e
  have h0 := tok_own k n (by rw [e]; decide)
  rw [e] at h0
  have h1 : tokOf within = (3, 0, 6) := by decide
  rw [h1] at h0
  exact h (Prod.mk.inj h0).1.symm
theorem word_within (n : Int) : wordT 3 n = if textOf 3 n = within then 32 :: (within ++ [32]) else textOf 3 n := rfl
/-- items of which none has a blank ahead, none is the word within -/
def bareI (is : List Item) : Prop := ∀ i ∈ is, i.1 = 0 ∧ i.2.1 ≠ 3
theorem bareI_app {xs ys : List Item} (h : bareI xs) (k : bareI ys) : bareI (xs ++ ys) := fun i hi => (List.mem_append.1 hi).elim (h i) (k i)
theorem words_bare : ∀ (is : List Item), bareI is → (is.map fun i => wordT i.2.1 i.2.2).flatten = itemsT is ∧ blanksN (itemsT is) = 0
  | [], _ => ⟨rfl, rfl⟩
  | (g, k, n) :: is, h => by
    obtain ⟨h1, h2⟩ := h (g, k, n) (by simp)
    simp only at h1 h2
    subst h1
    obtain ⟨i1, i2⟩ := words_bare is (fun i hi => h i (by simp [hi]))
    refine ⟨?_, ?_⟩
    · rw [List.map_cons, List.flatten_cons, i1, itemsT]
      simp only [List.replicate_zero, List.nil_append]
      rw [word_else h2]
    · rw [itemsT]
      simp only [List.replicate_zero, List.nil_append]
      rw [blanksN_app, blanks_text, i2]
theorem bare_term (t : Tm) : bareI (termI t) := by
  have hnum : ∀ n, bareI (numI n) := fun n => by unfold numI bareI; split <;> simp
  unfold termI
  split
  · exact hnum _
  · refine bareI_app (by simp [bareI]) (bareI_app ?_ (bareI_app (by simp [bareI]) ?_))
    · unfold namesI; split <;> simp [bareI]
    · unfold tailI; split
      · simp [bareI]
      · split <;> simp [bareI]
theorem bare_cmp (c : Cm) : bareI (cmpI c) := bareI_app (bare_term _) (bareI_app (by simp [bareI]) (bare_term _))
theorem bare_join : ∀ (cs : List Cm), bareI (joinI 38 (cs.map cmpI))
  | [] => by simp [bareI, joinI]
  | [c] => bare_cmp c
  | c :: d :: cs => by
    have := bare_join (d :: cs)
    simp only [List.map_cons, joinI] at this ⊢
    exact bareI_app (bare_cmp c) (bareI_app (by simp [bareI]) this)
theorem bare_step (s : St) (i : Int) : bareI (stepI s i) := by
  unfold stepI
  refine bareI_app ?_ (bareI_app (by simp [bareI]) (bareI_app ?_ ?_))
  · split <;> simp [bareI]
  · unfold timesI; split <;> simp [bareI]
  · unfold cmpsI
    split
    · simp [bareI]
    · exact bareI_app (by simp [bareI]) (bareI_app (bare_join _) (by simp [bareI]))
theorem bare_steps : ∀ (ss : List St) (i : Nat), bareI (stepsI i ss)
  | [], _ => by simp [bareI, stepsI]
  | s :: ss, i => by
    simp only [stepsI]
    refine bareI_app ?_ (bareI_app (bare_step _ _) (bare_steps ss (i + 1)))
    unfold sepI
    split
    · simp [bareI]
    · split <;> simp [bareI]
theorem stepsI_len2 : ∀ (ss : List St) (i : Nat), 2 * ss.length ≤ (stepsI i ss).length
  | [], _ => by simp
  | s :: ss, i => by
    have := stepsI_len2 ss (i + 1)
    simp only [stepsI, stepI, List.length_append, List.length_cons, List.length_nil]
    omega
theorem end_text (n : Int) : textOf 0 n = [] := by
  unfold textOf
  rw [if_neg (by omega), if_neg (by omega), if_neg (by omega), if_neg (by omega), if_neg (by omega)]
/-- the tokens of a pattern's text, one behind the other, are the text -/
theorem pat_words {p : Pt} (h : ptB p = true) (hk : okP p) (hl : (patT p).length ≤ 2000) : ∃ ts : List Tok, allOf (patT p) = (ts, 0, 0) ∧ (ts.map fun t => wordT t.kind t.n).flatten = patT p ∧ blanksN (patT p) = 2 ∧ 5 ≤ ts.length := by
  obtain ⟨a, b, c, d⟩ := pt_facts h
  have ht := patI_text h hk
  rw [← ht] at hl
  obtain ⟨ts, h1, h2⟩ := all_items (patI p) (patI_ok h hk) hl
  have hm : (ts.map fun t => wordT t.kind t.n) = (patI p).map fun i => wordT i.2.1 i.2.2 := by
    have := congrArg (List.map fun x : Int × Int => wordT x.1 x.2) h2
    rw [List.map_map, List.map_map] at this
    exact this
  obtain ⟨w1, w2⟩ := words_bare (stepsI 0 p.steps) (bare_steps _ _)
  have htail : itemsT [(1, 3, 0), (1, 1, p.window)] = 32 :: (within ++ 32 :: textOf 1 p.window) := by
    simp only [itemsT, List.append_nil]
    rw [show textOf 3 0 = within from by decide]
    rfl
  have hw3 : wordT 3 0 = 32 :: (within ++ [32]) := by
    unfold wordT
    rw [if_pos (by decide)]
  have hlen := congrArg List.length h2
  simp only [List.length_map] at hlen
  have hl5 := stepsI_len2 p.steps 0
  refine ⟨ts ++ [⟨0, 0, (itemsT (patI p)).length⟩], ?_, ?_, ?_, ?_⟩
  · rw [← ht]; exact h1
  · rw [List.map_append, List.flatten_append, hm, ← ht]
    unfold patI
    rw [List.map_append, List.flatten_append, w1, itemsT_append, htail]
    simp only [List.map_cons, List.map_nil, List.flatten_cons, List.flatten_nil, List.append_nil]
    rw [hw3, word_else (by decide), word_else (by decide), end_text]
    simp
  · rw [← ht]
    unfold patI
    rw [itemsT_append, blanksN_app, w2, htail, show (32 :: (within ++ 32 :: textOf 1 p.window)) = (32 :: (within ++ [32])) ++ textOf 1 p.window from by simp, blanksN_app, blanks_text]
    decide
  · rw [List.length_append, hlen]
    unfold patI
    simp only [List.length_append, List.length_cons, List.length_nil]
    omega
end Go.Proofs.YtafgincpoahefaaDoor
