/-
  stragglelaw09.ParseMay: true of any text.
-/
import Derived.Test.YtafgincpoahefaaDoorParL3
namespace Go.Proofs.YtafgincpoahefaaDoor
open Go.RowKit
attribute [local go_sem] Oper.semAt_some

/-- the kinds of terms that are parsed are none below 0 -/
theorem kind_term {l l' : List Tok} {t : Tm} (h : pTerm l = .ok (t, l')) : 0 ≤ t.kind := by
  cases l with
  | nil => cases h
  | cons u r =>
    by_cases hk : u.kind = 2
    · rw [term_name hk] at h
      split at h
      · cases h
      · obtain ⟨_, _, _, h⟩ := then_inv h
        obtain ⟨_, _, _, h⟩ := then_inv h
        obtain ⟨_, _, _, h⟩ := then_inv h
        obtain ⟨_, _, _, h⟩ := then_inv h
        cases h
        exact (kindOf_lt _).2
    · rw [term_num hk] at h
      obtain ⟨_, _, _, h⟩ := then_inv h
      cases h
      exact Int.le_refl _
theorem kind_cmp {l l' : List Tok} {c : Cm} (h : pCmp l = .ok (c, l')) : 0 ≤ c.l.kind ∧ 0 ≤ c.r.kind := by
  obtain ⟨_, _, h1, h⟩ := then_inv h
  obtain ⟨_, _, _, h⟩ := then_inv h
  obtain ⟨_, _, h2, h⟩ := then_inv h
  cases h
  exact ⟨kind_term h1, kind_term h2⟩
theorem kind_cs : ∀ (n : Nat) (l : List Tok), l.length ≤ n → ∀ v l', pCs l = .ok (v, l') → ∀ c ∈ v, 0 ≤ c.l.kind ∧ 0 ≤ c.r.kind := by
  intro n
  induction n with
  | zero =>
    intro l hl v l' h
    obtain rfl := List.eq_nil_of_length_eq_zero (Nat.le_zero.1 hl)
    cases h
  | succ n ih =>
    intro l hl v l' h
    rw [pCs_eq] at h
    obtain ⟨c, l1, h1, h2⟩ := then_inv h
    have hlt := eats_cmp _ _ _ h1
    have hc := kind_cmp h1
    split at h2
    · rename_i hs
      have := tail_lt hs
      obtain ⟨cs, l2, h3, h4⟩ := then_inv h2
      cases h4
      intro x hx
      rcases List.mem_cons.1 hx with rfl | hx
      · exact hc
      · exact ih l1.tail (by omega) _ _ h3 x hx
    · obtain ⟨_, l2, h3, h4⟩ := then_inv h2
      cases h4
      intro x hx
      obtain rfl := List.mem_singleton.1 hx
      exact hc
theorem kind_step {i : Int} {strict : Bool} {l l' : List Tok} {s : St} (h : pStep i strict l = .ok (s, l')) : ∀ c ∈ s.cmps, 0 ≤ c.l.kind ∧ 0 ≤ c.r.kind := by
  obtain ⟨_, _, _, h⟩ := then_inv h
  obtain ⟨_, _, _, h⟩ := then_inv h
  obtain ⟨_, _, _, h⟩ := then_inv h
  obtain ⟨cs, _, h4, h⟩ := then_inv h
  cases h
  rw [pAsks_cs] at h4
  split at h4
  · exact kind_cs _ _ (Nat.le_refl _) _ _ h4
  · cases h4
    intro c hc
    cases hc
theorem kind_ss : ∀ (n : Nat) (l : List Tok), l.length ≤ n → ∀ (i : Nat) (strict : Bool) v l', pSs i strict l = .ok (v, l') → ∀ s ∈ v, ∀ c ∈ s.cmps, 0 ≤ c.l.kind ∧ 0 ≤ c.r.kind := by
  intro n
  induction n with
  | zero =>
    intro l hl i strict v l' h
    obtain rfl := List.eq_nil_of_length_eq_zero (Nat.le_zero.1 hl)
    cases h
  | succ n ih =>
    intro l hl i strict v l' h
    rw [pSs_eq] at h
    obtain ⟨s, l1, h1, h2⟩ := then_inv h
    have hlt := eats_step _ _ _ _ _ h1
    have hs := kind_step h1
    have goOn : ∀ (x : Int) (st : Bool), isS x l1 = true → (thenR (pSs (i + 1) st l1.tail) fun ss l => .ok (s :: ss, l)) = .ok (v, l') → ∀ s ∈ v, ∀ c ∈ s.cmps, 0 ≤ c.l.kind ∧ 0 ≤ c.r.kind := by
      intro x st hx h2
      have := tail_lt hx
      obtain ⟨cs, l2, h3, h4⟩ := then_inv h2
      cases h4
      intro y hy
      rcases List.mem_cons.1 hy with rfl | hy
      · exact hs
      · exact ih l1.tail (by omega) _ _ _ _ h3 y hy
    split at h2
    · rename_i hx; exact goOn 59 false hx h2
    · split at h2
      · rename_i hx; exact goOn 44 true hx h2
      · cases h2
        intro y hy
        obtain rfl := List.mem_singleton.1 hy
        exact hs
/-- what is parsed is well formed -/
theorem told_wf {p : Pt} (h : ptB p = true) (hk : ∀ s ∈ p.steps, ∀ c ∈ s.cmps, 0 ≤ c.l.kind ∧ 0 ≤ c.r.kind) : ∀ s ∈ p.steps, stWf s := by
  intro s hs
  have h1 := (pt_facts h).2.2.2 s hs
  have h2 := st_facts h1
  have ht : ∀ t : Tm, tmB t = true → 0 ≤ t.kind → tmWf t := fun t h h0 => by
    have := tm_facts h
    unfold tmWf bnd8 bnd
    omega
  refine ⟨by unfold bnd; omega, by unfold bnd; omega, by unfold bnd; omega, fun c hc => ?_⟩
  have hcb : cmB c = true := by
    unfold stB at h1
    simp only [Bool.and_eq_true] at h1
    exact List.all_eq_true.1 h1.2 c hc
  have h3 := cm_facts hcb
  have h4 := hk s hs c hc
  exact ⟨by unfold bnd8; omega, ht _ h3.2.2.1 h4.1, ht _ h3.2.2.2 h4.2⟩
/-- what is told of a text that is parsed -/
theorem par_told {l : List UInt8} {ts : List Tok} {p : Pt} {a : Int} (ha : allOf l = (ts, 0, 0)) (hp : parseOf l = (p, a, 0)) : a = 0 ∧ ptB p = true ∧ (p.steps.head?.map (·.strict)) = some false ∧ scan (0, 0, 0) ts = (0, (p.steps.length : Int) - 1, asks p.steps) ∧ ∀ s ∈ p.steps, stWf s := by
  obtain ⟨_, _, hg, rfl⟩ := all_ok ha
  rcases r : pPat (toksL l) with b | ⟨q, r'⟩
  · rw [(parseOf_ts ha).1 _ r] at hp
    simp at hp
  · rw [(parseOf_ts ha).2 _ _ r] at hp
    simp only [Prod.mk.injEq, and_true] at hp
    obtain ⟨rfl, rfl⟩ := hp
    obtain ⟨h1, h2, h3⟩ := told_pat r (toksL_end hg) (toksL_ok hg)
    refine ⟨rfl, h1, h2, h3, told_wf h1 ?_⟩
    rw [pPat_eq] at r
    obtain ⟨ss, _, h4, r⟩ := then_inv r
    obtain ⟨_, _, _, r⟩ := then_inv r
    obtain ⟨_, _, _, r⟩ := then_inv r
    obtain ⟨_, _, _, r⟩ := then_inv r
    cases r
    exact kind_ss _ _ (Nat.le_refl _) _ _ _ _ h4
theorem scan_succ {ts : List Tok} {j : Nat} {t : Tok} (ht : ts[j]? = some t) : scan (0, 0, 0) (ts.take (j + 1)) = scan1 (scan (0, 0, 0) (ts.take j)) t := by
  obtain ⟨hj, rfl⟩ := List.getElem?_eq_some_iff.1 ht
  rw [List.take_succ_eq_append_getElem hj, scan_app]
  rfl
theorem scan_range (ts : List Tok) : ∀ j : Nat, (-(j : Int) ≤ (scan (0, 0, 0) (ts.take j)).1 ∧ (scan (0, 0, 0) (ts.take j)).1 ≤ j) ∧ (0 ≤ (scan (0, 0, 0) (ts.take j)).2.1 ∧ (scan (0, 0, 0) (ts.take j)).2.1 ≤ j) ∧ (0 ≤ (scan (0, 0, 0) (ts.take j)).2.2 ∧ (scan (0, 0, 0) (ts.take j)).2.2 ≤ j) := by
  intro j
  induction j with
  | zero => simp [scan]
  | succ j ih =>
    by_cases hj : j < ts.length
    · rw [scan_succ (List.getElem?_eq_getElem hj)]
      unfold scan1 deepOf
      simp only
      obtain ⟨h1, h2, h3⟩ := ih
      refine ⟨?_, ?_, ?_⟩
      · split <;> split <;> omega
      · split <;> omega
      · split <;> omega
    · rw [List.take_of_length_le (by omega)]
      rw [List.take_of_length_le (by omega)] at ih
      omega
set_option maxRecDepth 100000 in
set_option maxHeartbeats 4000000 in
/-- a text that can't be taken apart -/
theorem parMay_lex (s : ByteArray) (hs : s.size ≤ 3000) (ts : List Tok) (p c : Int) (ha : allOf s.data.toList = (ts, p, c)) (hc : c ≠ 0) (w : World) (hG : GL w) :
    Calls Tryd.prog 17 #[.string s] w fun e w' => e = .returned (.bool true) ∧ Below w.heap.size w w' := by
  have hp : parseOf s.data.toList = (⟨[], 0⟩, p, c) := by rw [parse_none (by rw [ha]; exact hc), ha]
  have cP := parse_open s (by omega) _ _ _ hp w hG
  have cA := fun w => ref9_All s (by omega) ts p c ts.length rfl ha w
  have e1 : (c != 0) = true := by simpa using hc
  have cW := fun W (hb : Below w.heap.size w W) => wakes09 W (hG.mono hb)
  simp only [List.length_nil] at cP
  have CP := Lib.hid cP
  have CA := Lib.hid cA
  have CW := Lib.hid cW
  clear cP cA cW hG hp ha hc
  go_enter Tryd.func17, Tryd.ntmps17
  go_wp2_with fail
  refine CP.out.mono ?_
  rintro e w1 ⟨a1, c1, rfl, -, hb1⟩
  have z1 := Holds.fresh w1 24 #[.slice a1 0 c1, .int .i64 0]
  have hB1 := hb1.alloc hb1.size (.cells #[.slice a1 0 c1, .int .i64 0] 24)
  have Z1 := Lib.hid z1
  have HB1 := Lib.hid hB1
  clear z1 hb1 hB1 CP
  go_wp2_with fail
  generalize w1.alloc (.cells #[.slice a1 0 c1, .int .i64 0] 24) = W1 at *
  generalize w1.heap.size = z at *
  refine (CA.out _).mono ?_
  rintro e w2 ⟨a, cap, rfl, hcap, ht, hb2⟩
  have y0 : w2.cell? ⟨z, 0, none⟩ = some (.slice a1 0 c1) := (Z1.out.later hb2).cell 0
  have HB2 := Lib.hid (HB1.out.trans (hb2.mono HB1.out.size))
  clear ht hb2 HB1 Z1 CA
  go_wp2_with fail
  refine (CW.out _ HB2.out).mono ?_
  rintro e w3 ⟨rfl, hb3⟩
  go_wp2_with fail
  go_ret
  exact ⟨rfl, HB2.out.trans (hb3.mono HB2.out.size)⟩
set_option maxRecDepth 100000 in
set_option maxHeartbeats 4000000 in
/-- a text that is no pattern's -/
theorem parMay_bad (s : ByteArray) (hs : s.size ≤ 3000) (n k : Nat) (kd m a : Int) (hall : allOf s.data.toList = (toksL s.data.toList, 0, 0)) (hn : (toksL s.data.toList).length = n) (hn2 : n ≤ 2001) (hk : (toksL s.data.toList)[k]? = some ⟨kd, m, a⟩)
    (hp : parseOf s.data.toList = (⟨[], 0⟩, a, 90)) (w : World) (hG : GL w) :
    Calls Tryd.prog 17 #[.string s] w fun e w' => e = .returned (.bool true) ∧ Below w.heap.size w w' := by
  have cP := parse_open s (by omega) _ _ _ hp w hG
  have cA := fun w => ref9_All s (by omega) (toksL s.data.toList) 0 0 n hn hall w
  have cW := fun W (hb : Below w.heap.size w W) => wakes09 W (hG.mono hb)
  simp only [List.length_nil] at cP
  have hkn : k < n := by have := (List.getElem?_eq_some_iff.1 hk).1; omega
  have hget : ∀ i, i < n → ∃ kd m a : Int, (toksL s.data.toList)[i]? = some ⟨kd, m, a⟩ := fun i hi => by
    have hl : i < (toksL s.data.toList).length := by omega
    exact ⟨_, _, _, List.getElem?_eq_getElem hl⟩
  have CP := Lib.hid cP
  have CA := Lib.hid cA
  have CW := Lib.hid cW
  have HGET := Lib.hid hget
  have HK := Lib.hid hk
  have HN := Lib.hid hn
  clear cP cA cW hG hp hall hk hget hn
  go_enter Tryd.func17, Tryd.ntmps17
  go_wp2_with fail
  refine CP.out.mono ?_
  rintro e w1 ⟨a1, c1, rfl, -, hb1⟩
  have z1 := Holds.fresh w1 24 #[.slice a1 0 c1, .int .i64 0]
  have hB1 := hb1.alloc hb1.size (.cells #[.slice a1 0 c1, .int .i64 0] 24)
  have Z1 := Lib.hid z1
  have HB1 := Lib.hid hB1
  clear z1 hb1 hB1 CP
  go_wp2_with fail
  generalize w1.alloc (.cells #[.slice a1 0 c1, .int .i64 0] 24) = W1 at *
  generalize w1.heap.size = z at *
  refine (CA.out _).mono ?_
  rintro e w2 ⟨ad, cap, rfl, hcap, ht, hb2⟩
  obtain ⟨b, off, rfl, -⟩ := ht.place k _ HK.out
  have Z2 := Lib.hid (Z1.out.later hb2)
  have HB2 := Lib.hid (HB1.out.trans (hb2.mono HB1.out.size))
  have HT := Lib.hid ht
  clear ht hb2 HB1 Z1 CA
  go_wp2_with fail
  go_loopw [9, 10] (fun bv i wr => ∃ (j : Nat) (f : Bool), j ≤ n ∧ i = .int .i64 j ∧ bv = .bool f ∧ Hid (k < j → f = true) ∧ wr = w2) (fun _ i _ => n - (intOf i).toNat)
  case atStart => exact ⟨0, false, Nat.zero_le _, rfl, rfl, Lib.hid (fun h => by omega), rfl⟩
  case round =>
    obtain ⟨j, f, hj, rfl, rfl, HF, rfl⟩ := hrel
    by_cases hlt : j < n
    · obtain ⟨kd', m', a', ht'⟩ := HGET.out j hlt
      obtain ⟨b1, o1, e1, x0, x1, x2⟩ := HT.out.place j _ ht'
      obtain ⟨rfl, rfl⟩ : b1 = b ∧ o1 = off := by simpa using e1.symm
      have hjk : j = k → a' = a := fun h => by
        subst h
        rw [HK.out] at ht'
        cases ht'
        rfl
      have HJK := Lib.hid hjk
      clear e1 ht' hjk
      cases f
      · by_cases e2 : a' = a
        · subst e2
          go_wp2_with fail
          go_roundw
          case rel => exact ⟨j + 1, true, by omega, by go_num, by simp, Lib.hid (fun _ => rfl), trivial⟩
          case measure => simp [intOf]; omega
        · have e3 : (a' == a) = false := by simpa using e2
          have HE2 := Lib.hid e2
          clear e2
          go_wp2_with fail
          go_roundw
          case rel => exact ⟨j + 1, false, by omega, by go_num, by simp, Lib.hid (fun h => by
            by_cases hh : k < j
            · exact HF.out hh
            · exact absurd (HJK.out (by omega)) HE2.out), trivial⟩
          case measure => simp [intOf]; omega
      · go_wp2_with fail
        go_roundw
        case rel => exact ⟨j + 1, true, by omega, by go_num, by simp, Lib.hid (fun _ => rfl), trivial⟩
        case measure => simp [intOf]; omega
    · obtain rfl : j = n := by omega
      obtain rfl : f = true := HF.out hkn
      have y0 : wr.cell? ⟨z, 0, none⟩ = some (.slice a1 0 c1) := Z2.out.cell 0
      have y1 : wr.cell? ⟨z, 1, none⟩ = some (.int .i64 0) := Z2.out.cell 1
      clear HT HGET HK HF hlt
      go_wp2_with fail
      refine (CW.out _ HB2.out).mono ?_
      rintro e w3 ⟨rfl, hb3⟩
      go_wp2_with fail
      go_ret
      exact ⟨rfl, HB2.out.trans (hb3.mono HB2.out.size)⟩
end Go.Proofs.YtafgincpoahefaaDoor
