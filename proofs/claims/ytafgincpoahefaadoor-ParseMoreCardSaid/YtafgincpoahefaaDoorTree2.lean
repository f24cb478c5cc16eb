/-
  tree: number, two, term, cmp.
  tree: cmp, Right; slices.ContainsFunc, IndexFunc over comparisons, steps.
-/
import Derived.Test.YtafgincpoahefaaDoorOpenP
import Derived.Outline
namespace Go.Proofs.YtafgincpoahefaaDoor
open Go.RowKit

/-- values of terms, comparisons, steps -/
def tmA (t : Tm) : Value := .agg #[.int .u8 t.kind, .int .i64 t.n, .int .i64 t.s, .int .i64 t.r]
def cmA (c : Cm) : Value := .agg #[.int .u8 c.op, .int .u8 c.l.kind, .int .i64 c.l.n, .int .i64 c.l.s, .int .i64 c.l.r, .int .u8 c.r.kind, .int .i64 c.r.n, .int .i64 c.r.s, .int .i64 c.r.r]
def stA (s : St) (v : Value) : Value := .agg #[.bool s.neg, .int .i64 s.kind, .int .i64 s.min, .int .i64 s.max, .bool s.strict, v]
theorem ret_bool {a b : Bool} (h : a = b) : Ending.returned (.bool a) = .returned (.bool b) := by rw [h]

set_option maxHeartbeats 400000 in
theorem tree_number (n : Int) (w : World) : Calls Tryd.prog 96 #[.int .i64 n] w fun e w' => e = .returned (.bool (numB n)) ∧ w = w' := by
  obtain ⟨r, hr⟩ : ∃ r, numB n = r := ⟨_, rfl⟩
  have HR := Lib.hid hr
  clear hr
  go_enter Tryd.func96, Tryd.ntmps96
  go_wp2_with fail
  all_goals
    go_ret
    refine ⟨?_, rfl⟩
    refine ret_bool ?_
    simp_all [numB]
    try omega
set_option maxHeartbeats 400000 in
theorem tree_two (t : Tm) (w : World) : Calls Tryd.prog 153 #[tmA t] w fun e w' => e = .returned (.bool (twoB t)) ∧ Below w.heap.size w w' := by
  have hb : ∀ b, (t.kind == 5) = b → (b || t.kind == 6) = twoB t := by rintro b rfl; rfl
  obtain ⟨k, n, s, r⟩ := t
  simp only [tmA] at *
  by_cases h5 : k = 5
  · subst h5
    have HB := Lib.hid hb; clear hb
    go_enter Tryd.func153, Tryd.ntmps153
    go_wp2_with fail
    go_ret
    exact ⟨rfl, (Below.refl _ _).alloc (Nat.le_refl _) _⟩
  · have h5' : (k == 5) = false := by simpa using h5
    have hr := hb _ h5'
    clear h5 hb
    rw [Bool.false_or] at hr
    have HR := Lib.hid hr; clear hr
    go_enter Tryd.func153, Tryd.ntmps153
    go_wp2_with fail
    go_ret
    exact ⟨ret_bool HR.out, (Below.refl _ _).alloc (Nat.le_refl _) _⟩

theorem tmB_iff (t : Tm) : tmB t = true ↔ (-1099511627776 ≤ t.n ∧ t.n ≤ 1099511627776 ∧ t.kind < 7 ∧ 0 ≤ t.s ∧ t.s < 26 ∧ 0 ≤ t.r ∧ t.r < 26 ∧ (t.kind ≠ 0 ∨ t.s = 0) ∧ (t.kind = 5 ∨ t.kind = 6 ∨ t.r = 0)) := by
  simp only [tmB, twoB, Bool.and_eq_true, decide_eq_true_eq, Bool.or_eq_true, bne_iff_ne, ne_eq, beq_iff_eq]
  constructor
  · rintro ⟨⟨⟨⟨⟨⟨⟨⟨h1, h2⟩, h3⟩, h4⟩, h5⟩, h6⟩, h7⟩, h8⟩, h9⟩
    exact ⟨h1, h2, h3, h4, h5, h6, h7, h8, by omega⟩
  · rintro ⟨h1, h2, h3, h4, h5, h6, h7, h8, h9⟩
    exact ⟨⟨⟨⟨⟨⟨⟨⟨h1, h2⟩, h3⟩, h4⟩, h5⟩, h6⟩, h7⟩, h8⟩, by omega⟩
theorem tmB_no (t : Tm) (h : ¬ (-1099511627776 ≤ t.n ∧ t.n ≤ 1099511627776 ∧ t.kind < 7 ∧ 0 ≤ t.s ∧ t.s < 26 ∧ 0 ≤ t.r ∧ t.r < 26 ∧ (t.kind ≠ 0 ∨ t.s = 0) ∧ (t.kind = 5 ∨ t.kind = 6 ∨ t.r = 0))) : tmB t = false :=
  Bool.eq_false_iff.2 fun g => h ((tmB_iff t).1 g)

set_option maxRecDepth 100000 in
set_option maxHeartbeats 1000000 in
theorem tree_term (t : Tm) (w : World) : Calls Tryd.prog 127 #[tmA t] w fun e w' => e = .returned (.bool (tmB t)) ∧ Below w.heap.size w w' := by
  have hyes := fun h => (tmB_iff t).2 h
  have hno := tmB_no t
  obtain ⟨k, n, s, r⟩ := t
  simp only [tmA] at *
  by_cases hg : -1099511627776 ≤ n ∧ n ≤ 1099511627776 ∧ k < 7 ∧ 0 ≤ s ∧ s < 26 ∧ 0 ≤ r ∧ r < 26
  · obtain ⟨h1, h2, h3, h4, h5, h6, h7⟩ := hg
    by_cases hk0 : k = 0
    · subst hk0
      have c2 := fun w => tree_two ⟨0, n, 0, r⟩ w
      rw [show twoB ⟨0, n, 0, r⟩ = false from rfl] at c2
      simp only [tmA] at c2
      have C2 := Lib.hid c2; clear c2
      have HY := Lib.hid hyes; clear hyes
      have HN := Lib.hid hno; clear hno
      go_enter Tryd.func127, Tryd.ntmps127
      go_wp2_with fail
      refine wp_fwd 0 rfl ?_
      go_wp2_with fail
      refine (C2.out _).mono ?_
      rintro e w1 ⟨rfl, hb1⟩
      obtain ⟨hc, hf⟩ := bcell hb1
      go_wp2_with fail
      all_goals
        rw [fwd_ret]
        go_ret
        refine ⟨?_, ((((Below.refl _ _).alloc (Nat.le_refl _) _).alloc (by simp) _).trans (hb1.mono (by simp; omega))).setCell (by simp) _⟩
        first
          | exact ret_bool (HY.out (by omega)).symm
          | exact ret_bool (HN.out (by omega)).symm
    · have hkz : (k == 0) = false := by simpa using hk0
      by_cases hk5 : k = 5 ∨ k = 6
      · have c2 := fun w => tree_two ⟨k, n, s, r⟩ w
        rw [show twoB ⟨k, n, s, r⟩ = true from by simpa [twoB] using hk5] at c2
        simp only [tmA] at c2
        have C2 := Lib.hid c2; clear c2
        have ht := hyes ⟨h1, h2, h3, h4, h5, h6, h7, .inl hk0, by omega⟩
        have HT := Lib.hid ht; clear ht hyes hno hk0 hk5
        go_enter Tryd.func127, Tryd.ntmps127
        go_wp2_with fail
        refine wp_fwd 0 rfl ?_
        go_wp2_with fail
        refine (C2.out _).mono ?_
        rintro e w1 ⟨rfl, hb1⟩
        obtain ⟨hc, hf⟩ := bcell hb1
        go_wp2_with fail
        rw [fwd_ret]
        go_ret
        exact ⟨ret_bool HT.out.symm, (((Below.refl _ _).alloc (Nat.le_refl _) _).alloc (by simp) _).trans (hb1.mono (by simp; omega))⟩
      · have c2 := fun w => tree_two ⟨k, n, s, r⟩ w
        rw [show twoB ⟨k, n, s, r⟩ = false from by simpa [twoB] using hk5] at c2
        simp only [tmA] at c2
        have C2 := Lib.hid c2; clear c2
        have ht : tmB ⟨k, n, s, r⟩ = (r == 0) := by
          by_cases hr : r = 0
          · rw [hyes ⟨h1, h2, h3, h4, h5, h6, h7, .inl hk0, .inr (.inr hr)⟩, hr]; rfl
          · rw [hno (by omega)]; simpa using hr
        have HT := Lib.hid ht; clear ht hyes hno hk0 hk5
        go_enter Tryd.func127, Tryd.ntmps127
        go_wp2_with fail
        refine wp_fwd 0 rfl ?_
        go_wp2_with fail
        refine (C2.out _).mono ?_
        rintro e w1 ⟨rfl, hb1⟩
        obtain ⟨hc, hf⟩ := bcell hb1
        go_wp2_with fail
        all_goals
          rw [fwd_ret]
          go_ret
          refine ⟨?_, ((((Below.refl _ _).alloc (Nat.le_refl _) _).alloc (by simp) _).trans (hb1.mono (by simp; omega))).setCell (by simp) _⟩
          rw [HT.out]
          first
            | exact ret_bool rfl
            | (refine ret_bool ?_; simp_all)
  · have HN := Lib.hid hno; clear hno hyes
    go_enter Tryd.func127, Tryd.ntmps127
    go_wp2_with fail
    refine wp_fwd 0 rfl ?_
    go_wp2_with fail
    all_goals first
      | (exfalso; omega)
      | (apply wp_goto; refine fwd_goto ?_; go_wp2_with fail; rw [Exit.noGoto_ret]; go_ret; exact ⟨ret_bool (HN.out (by omega)).symm, ((Below.refl _ _).alloc (Nat.le_refl _) _).alloc (by simp) _⟩)
end Go.Proofs.YtafgincpoahefaaDoor

namespace Go.Proofs.YtafgincpoahefaaDoor
open Go.RowKit

set_option maxRecDepth 100000 in
set_option maxHeartbeats 1000000 in
theorem tree_cmp (c : Cm) (h0 : 0 ≤ c.op) (w : World) : Calls Tryd.prog 98 #[cmA c] w fun e w' => e = .returned (.bool (!cmB c)) ∧ Below w.heap.size w w' := by
  have c1 := fun w => tree_term c.l w
  have c2 := fun w => tree_term c.r w
  have hr : cmB c = (decide (1 ≤ c.op) && decide (c.op < 7) && tmB c.l && tmB c.r) := rfl
  obtain ⟨op, l, r⟩ := c
  simp only at hr c1 c2 h0
  generalize tmB l = b1 at *
  generalize tmB r = b2 at *
  obtain ⟨k, n, s, q⟩ := l
  obtain ⟨k', n', s', q'⟩ := r
  simp only [cmA, tmA] at *
  have C1 := Lib.hid c1; clear c1
  have C2 := Lib.hid c2; clear c2
  by_cases ho : 1 ≤ op ∧ op < 7
  · obtain ⟨ho1, ho2⟩ := ho
    have hz : (op == 0) = false := by simp only [beq_eq_false_iff_ne]; omega
    have h7 : decide (7 ≤ op) = false := by simp only [decide_eq_false_iff_not]; omega
    rw [decide_eq_true ho1, decide_eq_true ho2] at hr
    cases b1
    · rw [hr]
      clear hr
      go_enter Tryd.func98, Tryd.ntmps98
      go_wp2_with fail
      refine (C1.out _).mono ?_
      rintro e w1 ⟨rfl, hb1⟩
      go_wp2_with fail
      go_ret
      exact ⟨rfl, ((Below.refl _ _).alloc (Nat.le_refl _) _).trans (hb1.mono (by simp))⟩
    · cases b2
      all_goals
        rw [hr]
        clear hr
        go_enter Tryd.func98, Tryd.ntmps98
        go_wp2_with fail
        refine (C1.out _).mono ?_
        rintro e w1 ⟨rfl, hb1⟩
        have hB1 := ((Below.refl w.heap.size w).alloc (Nat.le_refl _) _).trans (hb1.mono (by simp))
        obtain ⟨hc, hf⟩ := bcell hb1
        go_wp2_with fail
        refine (C2.out _).mono ?_
        rintro e w2 ⟨rfl, hb2⟩
        go_wp2_with fail
        go_ret
        exact ⟨rfl, hB1.trans (hb2.mono hB1.size)⟩
  · have hrf : cmB ⟨op, ⟨k, n, s, q⟩, ⟨k', n', s', q'⟩⟩ = false := by
      rw [hr]
      by_cases h1 : 1 ≤ op
      · rw [decide_eq_false (show ¬ op < 7 by omega)]; simp
      · rw [decide_eq_false h1]; simp
    rw [hrf]
    clear hr hrf
    go_enter Tryd.func98, Tryd.ntmps98
    go_wp2_with fail
    all_goals first
      | (exfalso; omega)
      | (go_ret; exact ⟨rfl, (Below.refl _ _).alloc (Nat.le_refl _) _⟩)

/-- the place of the first that is so; -1: none is -/
def firstI {α : Type} (p : α → Bool) (l : List α) : Int := if l.any p = true then (l.findIdx p : Int) else -1
theorem firstI_at {α : Type} (p : α → Bool) (l : List α) (k : Nat) (x : α) (hx : l[k]? = some x) (hp : p x = true) (hno : ∀ (j : Nat) (y : α), j < k → l[j]? = some y → p y = false) : firstI p l = k := by
  obtain ⟨hk, rfl⟩ := List.getElem?_eq_some_iff.1 hx
  unfold firstI
  rw [if_pos (List.any_eq_true.2 ⟨_, List.getElem_mem hk, hp⟩)]
  congr 1
  rw [List.findIdx_eq hk]
  exact ⟨hp, fun j hj => hno j _ hj (List.getElem?_eq_getElem (by omega))⟩
theorem firstI_none {α : Type} (p : α → Bool) (l : List α) (hno : ∀ (j : Nat) (y : α), j < l.length → l[j]? = some y → p y = false) : firstI p l = -1 := by
  unfold firstI
  rw [if_neg]
  intro h
  obtain ⟨y, hy, hp⟩ := List.any_eq_true.1 h
  obtain ⟨j, hj, rfl⟩ := List.getElem_of_mem hy
  rw [hno j _ hj (List.getElem?_eq_getElem hj)] at hp
  cases hp
theorem firstI_pos {α : Type} (p : α → Bool) (l : List α) : decide (0 ≤ firstI p l) = l.any p := by
  unfold firstI
  split
  · rename_i h; rw [h]; simp
  · rename_i h; simp only [Bool.not_eq_true] at h; rw [h]; rfl

set_option maxRecDepth 100000 in
set_option maxHeartbeats 1000000 in
theorem idx_cmps (g : Nat) (eg : ∀ args w, (callFunc g args).run Tryd.prog w = .ok (.enter g args) w) (p : Cm → Bool) (cs : List Cm) (hp : ∀ (i : Nat) (c : Cm), cs[i]? = some c → ∀ W, Calls Tryd.prog g #[cmA c] W fun e w' => e = .returned (.bool (p c)) ∧ Below W.heap.size W w')
    (a : Option Addr) (cap : Nat) (w : World) (ha : CmpsAt w a cs) (hl : cs.length ≤ 9223372036854775807) :
    Calls Tryd.prog 126 #[.slice a cs.length cap, .func (.func g) #[] #[]] w fun e w' => e = .returned (.int .i64 (firstI p cs)) ∧ Below w.heap.size w w' := by
  have key : ∀ (wr : World) (k : Nat), Below w.heap.size w wr → k < cs.length → ∃ b off c, a = some ⟨b, off, none⟩ ∧ cs[k]? = some c ∧ (∀ W, Calls Tryd.prog g #[cmA c] W fun e w' => e = .returned (.bool (p c)) ∧ Below W.heap.size W w') ∧
      wr.cell? ⟨b, off + k * 9, none⟩ = some (.int .u8 c.op) ∧ wr.cell? ⟨b, off + k * 9 + 1, none⟩ = some (.int .u8 c.l.kind) ∧ wr.cell? ⟨b, off + k * 9 + 2, none⟩ = some (.int .i64 c.l.n) ∧
      wr.cell? ⟨b, off + k * 9 + 3, none⟩ = some (.int .i64 c.l.s) ∧ wr.cell? ⟨b, off + k * 9 + 4, none⟩ = some (.int .i64 c.l.r) ∧ wr.cell? ⟨b, off + k * 9 + 5, none⟩ = some (.int .u8 c.r.kind) ∧
      wr.cell? ⟨b, off + k * 9 + 6, none⟩ = some (.int .i64 c.r.n) ∧ wr.cell? ⟨b, off + k * 9 + 7, none⟩ = some (.int .i64 c.r.s) ∧ wr.cell? ⟨b, off + k * 9 + 8, none⟩ = some (.int .i64 c.r.r) := by
    intro wr k hb hk
    obtain ⟨b, off, e, hcells⟩ := (ha.mono hb (Nat.le_refl _)).get k hk
    exact ⟨b, off, cs[k], e, List.getElem?_eq_getElem hk, hp k _ (List.getElem?_eq_getElem hk), hcells⟩
  have hat := fun k x h1 h2 h3 => firstI_at p cs k x h1 h2 h3
  have hnone := firstI_none p cs
  obtain ⟨m, hm⟩ : ∃ m, cs.length = m := ⟨_, rfl⟩
  rw [hm] at hl key hnone ⊢
  have HK := Lib.hid key; clear key
  have HA := Lib.hid hat; clear hat
  have HN := Lib.hid hnone; clear hnone hm ha hp
  go_enter Tryd.func126, Tryd.ntmps126
  go_wp2_with fail
  go_loopw [5, 8] (fun _ i wr => ∃ k : Nat, k ≤ m ∧ i = .int .i64 k ∧ Hid (∀ (j : Nat) (y : Cm), j < k → cs[j]? = some y → p y = false) ∧ Below w.heap.size w wr) (fun _ i _ => m - (intOf i).toNat)
  case atStart => exact ⟨0, Nat.zero_le _, rfl, Lib.hid (fun j y h => by omega), Below.refl _ _⟩
  case round =>
    obtain ⟨k, hk, rfl, HP, hb⟩ := hrel
    by_cases hlt : k < m
    · obtain ⟨b, off, c, rfl, hck, hcall, p0, p1, p2, p3, p4, p5, p6, p7, p8⟩ := HK.out _ k hb hlt
      have HCK := Lib.hid hck; clear hck
      obtain ⟨op, ⟨k1, n1, s1, q1⟩, ⟨k2, n2, s2, q2⟩⟩ := c
      simp only [cmA] at hcall p0 p1 p2 p3 p4 p5 p6 p7 p8
      have hnext : p ⟨op, ⟨k1, n1, s1, q1⟩, ⟨k2, n2, s2, q2⟩⟩ = false → ∀ (j : Nat) (y : Cm), j < k + 1 → cs[j]? = some y → p y = false := fun h j y hj hy => by
        rcases Nat.lt_or_ge j k with hjk | hjk
        · exact HP.out j y hjk hy
        · obtain rfl : j = k := by omega
          rw [HCK.out] at hy
          obtain rfl := Option.some.inj hy
          exact h
      have HX := Lib.hid hnext; clear hnext
      have HYES : Hid (p ⟨op, ⟨k1, n1, s1, q1⟩, ⟨k2, n2, s2, q2⟩⟩ = true → firstI p cs = k) := Lib.hid fun h => HA.out k _ HCK.out h HP.out
      generalize p ⟨op, ⟨k1, n1, s1, q1⟩, ⟨k2, n2, s2, q2⟩⟩ = px at *
      have HC := Lib.hid hcall; clear hcall
      cases px
      · go_wp2_with (go_at_fn g; refine (HC.out _).mono ?_; rintro e w1 ⟨rfl, hb1⟩)
        go_roundw
        case rel => exact ⟨k + 1, by omega, by go_num, Lib.hid (HX.out trivial), hb.trans (hb1.mono hb.size)⟩
        case measure => simp [intOf]; omega
      · go_wp2_with (go_at_fn g; refine (HC.out _).mono ?_; rintro e w1 ⟨rfl, hb1⟩)
        go_ret
        exact ⟨by rw [HYES.out trivial]; rfl, hb.trans (hb1.mono hb.size)⟩
    · obtain rfl : k = m := by omega
      go_wp2_with fail
      go_ret
      exact ⟨by rw [HN.out HP.out]; rfl, hb⟩

set_option maxHeartbeats 1000000 in
theorem has_cmps (g : Nat) (eg : ∀ args w, (callFunc g args).run Tryd.prog w = .ok (.enter g args) w) (p : Cm → Bool) (cs : List Cm) (hp : ∀ (i : Nat) (c : Cm), cs[i]? = some c → ∀ W, Calls Tryd.prog g #[cmA c] W fun e w' => e = .returned (.bool (p c)) ∧ Below W.heap.size W w')
    (a : Option Addr) (cap : Nat) (w : World) (ha : CmpsAt w a cs) (hl : cs.length ≤ 9223372036854775807) :
    Calls Tryd.prog 97 #[.slice a cs.length cap, .func (.func g) #[] #[]] w fun e w' => e = .returned (.bool (cs.any p)) ∧ Below w.heap.size w w' := by
  have c1 := idx_cmps g eg p cs hp a cap w ha hl
  have hf := firstI_pos p cs
  generalize firstI p cs = x at *
  obtain ⟨m, hm⟩ : ∃ m, cs.length = m := ⟨_, rfl⟩
  rw [hm] at c1 ⊢
  have C1 := Lib.hid c1; clear c1
  have HF := Lib.hid hf; clear hf hm
  go_enter Tryd.func97, Tryd.ntmps97
  go_wp2_with fail
  refine C1.out.mono ?_
  rintro e w1 ⟨rfl, hb1⟩
  go_wp2_with fail
  go_ret
  exact ⟨ret_bool HF.out, hb1⟩

theorem enters_cmp : ∀ args w, (callFunc 98 args).run Tryd.prog w = .ok (.enter 98 args) w := enters_of Tryd.func98 (by kernel_rfl) rfl
theorem enters_wrong : ∀ args w, (callFunc 95 args).run Tryd.prog w = .ok (.enter 95 args) w := enters_of Tryd.func95 (by kernel_rfl) rfl

set_option maxRecDepth 100000 in
set_option maxHeartbeats 1000000 in
theorem tree_wrong (s : St) (hw : stWf s) (v : Value) (w : World) (hv : CmpsV w v s.cmps) : Calls Tryd.prog 95 #[stA s v] w fun e w' => e = .returned (.bool (!stB s)) ∧ Below w.heap.size w w' := by
  obtain ⟨a, cap, rfl, hlc, hlen, hnil, ha⟩ := hv
  have c1 := fun w => tree_number s.kind w
  have c2 := fun w => tree_number s.min w
  have c3 := fun w => tree_number s.max w
  have c4 := fun W hb => has_cmps 98 enters_cmp (fun c => !cmB c) s.cmps (fun i c hc W => tree_cmp c (hw.2.2.2 c (List.mem_of_getElem? hc)).1.1 W) a cap W (ha.mono hb (Nat.le_refl _)) hlen
  have hr : stB s = (numB s.kind && numB s.min && numB s.max && !(s.cmps.any fun c => !cmB c)) := by
    unfold stB
    congr 1
    rw [List.not_any_eq_all_not]
    simp
  obtain ⟨neg, kd, mn, mx, st, cs⟩ := s
  simp only [stA] at *
  obtain ⟨m, hm⟩ : ∃ m, cs.length = m := ⟨_, rfl⟩
  rw [hm] at hlc hlen c4 ⊢
  generalize numB kd = b1 at *
  generalize numB mn = b2 at *
  generalize numB mx = b3 at *
  generalize (cs.any fun c => !cmB c) = b4 at *
  have C1 := Lib.hid c1; clear c1
  have C2 := Lib.hid c2; clear c2
  have C3 := Lib.hid c3; clear c3
  have C4 := Lib.hid c4; clear c4 hm ha hw hnil
  cases b1
  · rw [hr]
    clear hr
    go_enter Tryd.func95, Tryd.ntmps95
    go_wp2_with fail
    refine (C1.out _).mono ?_
    rintro e w1 ⟨rfl, rfl⟩
    go_wp2_with fail
    go_ret
    exact ⟨rfl, (Below.refl _ _).alloc (Nat.le_refl _) _⟩
  cases b2
  · rw [hr]
    clear hr
    go_enter Tryd.func95, Tryd.ntmps95
    go_wp2_with fail
    refine (C1.out _).mono ?_
    rintro e w1 ⟨rfl, rfl⟩
    go_wp2_with fail
    refine (C2.out _).mono ?_
    rintro e w1 ⟨rfl, rfl⟩
    go_wp2_with fail
    go_ret
    exact ⟨rfl, (Below.refl _ _).alloc (Nat.le_refl _) _⟩
  cases b3
  · rw [hr]
    clear hr
    go_enter Tryd.func95, Tryd.ntmps95
    go_wp2_with fail
    refine (C1.out _).mono ?_
    rintro e w1 ⟨rfl, rfl⟩
    go_wp2_with fail
    refine (C2.out _).mono ?_
    rintro e w1 ⟨rfl, rfl⟩
    go_wp2_with fail
    refine (C3.out _).mono ?_
    rintro e w1 ⟨rfl, rfl⟩
    go_wp2_with fail
    go_ret
    exact ⟨rfl, (Below.refl _ _).alloc (Nat.le_refl _) _⟩
  rw [hr]
  clear hr
  go_enter Tryd.func95, Tryd.ntmps95
  go_wp2_with fail
  refine (C1.out _).mono ?_
  rintro e w1 ⟨rfl, rfl⟩
  go_wp2_with fail
  refine (C2.out _).mono ?_
  rintro e w1 ⟨rfl, rfl⟩
  go_wp2_with fail
  refine (C3.out _).mono ?_
  rintro e w1 ⟨rfl, rfl⟩
  go_wp2_with fail
  refine (C4.out _ ((Below.refl _ _).alloc (Nat.le_refl _) _)).mono ?_
  rintro e w1 ⟨rfl, hb1⟩
  go_wp2_with fail
  go_ret
  exact ⟨by simp, ((Below.refl _ _).alloc (Nat.le_refl _) _).trans (hb1.mono (by simp))⟩

set_option maxRecDepth 100000 in
set_option maxHeartbeats 1000000 in
theorem idx_steps (g : Nat) (eg : ∀ args w, (callFunc g args).run Tryd.prog w = .ok (.enter g args) w) (p : St → Bool) (ss : List St) (hp : ∀ (i : Nat) (s : St), ss[i]? = some s → ∀ W v, CmpsV W v s.cmps → Calls Tryd.prog g #[stA s v] W fun e w' => e = .returned (.bool (p s)) ∧ Below W.heap.size W w')
    (a : Option Addr) (cap : Nat) (w : World) (ha : StepsAt w a ss) (hl : ss.length ≤ 9223372036854775807) :
    Calls Tryd.prog 58 #[.slice a ss.length cap, .func (.func g) #[] #[]] w fun e w' => e = .returned (.int .i64 (firstI p ss)) ∧ Below w.heap.size w w' := by
  have key : ∀ (wr : World) (k : Nat), Below w.heap.size w wr → k < ss.length → ∃ b off s ca cc, a = some ⟨b, off, none⟩ ∧ ss[k]? = some s ∧ (Calls Tryd.prog g #[stA s (.slice ca s.cmps.length cc)] wr fun e w' => e = .returned (.bool (p s)) ∧ Below wr.heap.size wr w') ∧
      wr.cell? ⟨b, off + k * 6, none⟩ = some (.bool s.neg) ∧ wr.cell? ⟨b, off + k * 6 + 1, none⟩ = some (.int .i64 s.kind) ∧ wr.cell? ⟨b, off + k * 6 + 2, none⟩ = some (.int .i64 s.min) ∧
      wr.cell? ⟨b, off + k * 6 + 3, none⟩ = some (.int .i64 s.max) ∧ wr.cell? ⟨b, off + k * 6 + 4, none⟩ = some (.bool s.strict) ∧ wr.cell? ⟨b, off + k * 6 + 5, none⟩ = some (.slice ca s.cmps.length cc) := by
    intro wr k hb hk
    obtain ⟨b, off, ca, cc, e, hcells, h1, h2, h3, h4⟩ := (ha.mono hb (Nat.le_refl _)).get k hk
    exact ⟨b, off, ss[k], ca, cc, e, List.getElem?_eq_getElem hk, hp k _ (List.getElem?_eq_getElem hk) wr _ ⟨ca, cc, rfl, h1, h2, h3, h4⟩, hcells⟩
  have hat := fun k x h1 h2 h3 => firstI_at p ss k x h1 h2 h3
  have hnone := firstI_none p ss
  obtain ⟨m, hm⟩ : ∃ m, ss.length = m := ⟨_, rfl⟩
  rw [hm] at hl key hnone ⊢
  have HK := Lib.hid key; clear key
  have HA := Lib.hid hat; clear hat
  have HN := Lib.hid hnone; clear hnone hm ha hp
  go_enter Tryd.func58, Tryd.ntmps58
  go_wp2_with fail
  go_loopw [5, 8] (fun _ i wr => ∃ k : Nat, k ≤ m ∧ i = .int .i64 k ∧ Hid (∀ (j : Nat) (y : St), j < k → ss[j]? = some y → p y = false) ∧ Below w.heap.size w wr) (fun _ i _ => m - (intOf i).toNat)
  case atStart => exact ⟨0, Nat.zero_le _, rfl, Lib.hid (fun j y h => by omega), Below.refl _ _⟩
  case round =>
    obtain ⟨k, hk, rfl, HP, hb⟩ := hrel
    by_cases hlt : k < m
    · obtain ⟨b, off, s, ca, cc, rfl, hck, hcall, p0, p1, p2, p3, p4, p5⟩ := HK.out _ k hb hlt
      have HCK := Lib.hid hck; clear hck
      have hnext : p s = false → ∀ (j : Nat) (y : St), j < k + 1 → ss[j]? = some y → p y = false := fun h j y hj hy => by
        rcases Nat.lt_or_ge j k with hjk | hjk
        · exact HP.out j y hjk hy
        · obtain rfl : j = k := by omega
          rw [HCK.out] at hy
          obtain rfl := Option.some.inj hy
          exact h
      have HX := Lib.hid hnext; clear hnext
      have HYES : Hid (p s = true → firstI p ss = k) := Lib.hid fun h => HA.out k _ HCK.out h HP.out
      generalize p s = px at *
      obtain ⟨neg, kd, mn, mx, st, cs⟩ := s
      simp only [stA] at hcall p0 p1 p2 p3 p4 p5
      clear HCK
      generalize cs.length = cm at *
      have HC := Lib.hid hcall; clear hcall
      cases px
      · go_wp2_with (go_at_fn g; refine HC.out.mono ?_; rintro e w1 ⟨rfl, hb1⟩)
        go_roundw
        case rel => exact ⟨k + 1, by omega, by go_num, Lib.hid (HX.out trivial), hb.trans (hb1.mono hb.size)⟩
        case measure => simp [intOf]; omega
      · go_wp2_with (go_at_fn g; refine HC.out.mono ?_; rintro e w1 ⟨rfl, hb1⟩)
        go_ret
        exact ⟨by rw [HYES.out trivial]; rfl, hb.trans (hb1.mono hb.size)⟩
    · obtain rfl : k = m := by omega
      go_wp2_with fail
      go_ret
      exact ⟨by rw [HN.out HP.out]; rfl, hb⟩
set_option maxHeartbeats 1000000 in
theorem has_steps (g : Nat) (eg : ∀ args w, (callFunc g args).run Tryd.prog w = .ok (.enter g args) w) (p : St → Bool) (ss : List St) (hp : ∀ (i : Nat) (s : St), ss[i]? = some s → ∀ W v, CmpsV W v s.cmps → Calls Tryd.prog g #[stA s v] W fun e w' => e = .returned (.bool (p s)) ∧ Below W.heap.size W w')
    (a : Option Addr) (cap : Nat) (w : World) (ha : StepsAt w a ss) (hl : ss.length ≤ 9223372036854775807) :
    Calls Tryd.prog 99 #[.slice a ss.length cap, .func (.func g) #[] #[]] w fun e w' => e = .returned (.bool (ss.any p)) ∧ Below w.heap.size w w' := by
  have c1 := idx_steps g eg p ss hp a cap w ha hl
  have hf := firstI_pos p ss
  generalize firstI p ss = x at *
  obtain ⟨m, hm⟩ : ∃ m, ss.length = m := ⟨_, rfl⟩
  rw [hm] at c1 ⊢
  have C1 := Lib.hid c1; clear c1
  have HF := Lib.hid hf; clear hf hm
  go_enter Tryd.func99, Tryd.ntmps99
  go_wp2_with fail
  refine C1.out.mono ?_
  rintro e w1 ⟨rfl, hb1⟩
  go_wp2_with fail
  go_ret
  exact ⟨ret_bool HF.out, hb1⟩

/-- what a pattern reads as -/
def PatV (w : World) (v : Value) (p : Pt) : Prop := ∃ u, v = .agg #[u, .int .i64 p.window] ∧ StepsV w u p.steps
set_option maxRecDepth 100000 in
set_option maxHeartbeats 1000000 in
theorem tree_Right (p : Pt) (v : Value) (w : World) (hv : PatV w v p) (hw : ∀ s ∈ p.steps, stWf s) : Calls Tryd.prog 57 #[v] w fun e w' => e = .returned (.bool (ptB p)) ∧ Below w.heap.size w w' := by
  obtain ⟨u, rfl, a, cap, rfl, hlc, hlen, hnil, ha⟩ := hv
  have c1 := fun w => tree_number p.window w
  have c4 := fun W hb => has_steps 95 enters_wrong (fun s => !stB s) p.steps (fun i s hs W v hv => tree_wrong s (hw s (List.mem_of_getElem? hs)) v W hv) a cap W (ha.mono hb (Nat.le_refl _)) hlen
  have hr : ptB p = (decide (0 < p.steps.length) && decide (p.steps.length ≤ 26) && numB p.window && !(p.steps.any fun c => !stB c)) := by
    unfold ptB
    congr 1
    rw [List.not_any_eq_all_not]
    simp
  obtain ⟨ss, wd⟩ := p
  simp only at *
  obtain ⟨m, hm⟩ : ∃ m, ss.length = m := ⟨_, rfl⟩
  rw [hm] at hlc hlen c4 hr ⊢
  generalize numB wd = b1 at *
  generalize (ss.any fun c => !stB c) = b4 at *
  have C1 := Lib.hid c1; clear c1
  have C4 := Lib.hid c4; clear c4 hm ha hw hnil
  by_cases h0 : 0 < m
  · by_cases h26 : m ≤ 26
    · rw [decide_eq_true h0, decide_eq_true h26] at hr
      cases b1
      · rw [hr]
        clear hr
        go_enter Tryd.func57, Tryd.ntmps57
        go_wp2_with fail
        refine (C1.out _).mono ?_
        rintro e w1 ⟨rfl, rfl⟩
        go_wp2_with fail
        go_ret
        exact ⟨rfl, (Below.refl _ _).alloc (Nat.le_refl _) _⟩
      · rw [hr]
        clear hr
        go_enter Tryd.func57, Tryd.ntmps57
        go_wp2_with fail
        refine (C1.out _).mono ?_
        rintro e w1 ⟨rfl, rfl⟩
        go_wp2_with fail
        refine (C4.out _ ((Below.refl _ _).alloc (Nat.le_refl _) _)).mono ?_
        rintro e w1 ⟨rfl, hb1⟩
        go_wp2_with fail
        go_ret
        exact ⟨by simp, ((Below.refl _ _).alloc (Nat.le_refl _) _).trans (hb1.mono (by simp))⟩
    · rw [decide_eq_false h26] at hr
      simp only [Bool.and_false, Bool.false_and] at hr
      rw [hr]
      clear hr
      go_enter Tryd.func57, Tryd.ntmps57
      go_wp2_with fail
      go_ret
      exact ⟨rfl, (Below.refl _ _).alloc (Nat.le_refl _) _⟩
  · rw [decide_eq_false h0] at hr
    simp only [Bool.false_and] at hr
    obtain rfl : m = 0 := by omega
    rw [hr]
    clear hr
    go_enter Tryd.func57, Tryd.ntmps57
    go_wp2_with fail
    go_ret
    exact ⟨rfl, (Below.refl _ _).alloc (Nat.le_refl _) _⟩
end Go.Proofs.YtafgincpoahefaaDoor
