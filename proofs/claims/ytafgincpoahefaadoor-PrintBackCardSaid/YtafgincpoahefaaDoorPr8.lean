/-
  print: a term's text, joined; may, Term, Cmp.
  print: Cmp.
-/
import Derived.Test.YtafgincpoahefaaDoorPr6
import Derived.Test.YtafgincpoahefaaDoorParR
import Derived.Lib.ItoaLen
import Derived.Deep.RegionHeld3
namespace Go.Proofs.YtafgincpoahefaaDoor
open Go.RowKit
attribute [local go_sem] Oper.semAt_some

theorem itoa_len (n : Int) (h : bnd n) : (Lib.itoa n).length ≤ 21 := Lib.itoa_length_le n h.1 h.2
theorem letterT_len (i : Int) : (letterT i).length ≤ 1 := by unfold letterT; split <;> simp
theorem headC_len (k : Nat) : (headC k).length ≤ 1 := by unfold headC; split <;> simp
theorem opT_len (i : Int) : (opT i).length ≤ 2 := by
  unfold opT
  split
  · exact opText_len _
  · simp
theorem tailT_len (n : Int) (h : bnd n) : (tailT n).length ≤ 22 := by
  have := itoa_len n h
  unfold tailT
  split
  · simp; omega
  · split
    · omega
    · simp
theorem termT0_len (t : Tm) (h : bnd t.n) : (termT0 t).length ≤ 30 := by
  have h1 := itoa_len t.n h
  have h2 := tailT_len t.n h
  have h3 := letterT_len t.s
  have h4 := letterT_len t.r
  have h5 := headC_len t.kind.toNat
  unfold termT0
  split
  · omega
  · split <;> simp only [List.length_append, List.length_cons, List.length_nil] <;> omega
theorem termT_len (t : Tm) (h : bnd t.n) : (termT t).length ≤ 30 := by
  unfold termT
  split
  · exact termT0_len t h
  · simp

theorem term_iter (t : Tm) (hk : 0 ≤ t.kind) (hk7 : t.kind < 7) (hn : bnd t.n) (B : Nat) : IterT Tryd.prog 102 #[.pointer (some ⟨B, 0, none⟩)] (fun i => #[sV (atL (partsOf t) i)]) (partsOf t).length
    (fun W => Holds W B 29 (tmV t).toArray ∧ GP W) 3 := by
  obtain ⟨k, n, s, r⟩ := t
  simp only at hk hk7 hn
  by_cases h0 : k = 0
  · subst h0
    have : partsOf ⟨0, n, s, r⟩ = [Lib.itoa n] := by unfold partsOf; rw [if_pos rfl]
    rw [this]
    exact term_iter_num n s r B hn
  · cases htw : twoB ⟨k, n, s, r⟩
    · have : partsOf ⟨k, n, s, r⟩ = [headC k.toNat, [40], letterT s, [41]] ++ tailL n := by
        unfold partsOf; rw [if_neg h0, htw]; rfl
      rw [this, List.length_append]
      exact term_iter_one k n s r (by omega) hk7 htw B hn _ rfl
    · have : partsOf ⟨k, n, s, r⟩ = [headC k.toNat, [40], letterT s, [44], letterT r, [41]] ++ tailL n := by
        unfold partsOf; rw [if_neg h0, htw]; rfl
      rw [this, List.length_append]
      exact term_iter_two k n s r (by omega) hk7 htw B hn _ rfl
/-- joined, of a term's parts that lie in block b -/
theorem joined_term (t : Tm) (hk : 0 ≤ t.kind) (hk7 : t.kind < 7) (hn : bnd t.n) (b : Nat) (w : World) (hh : Holds w b 29 (tmV t).toArray) (hG : GP w) :
    Calls Tryd.prog 66 #[.func (.func 102) #[] #[.pointer (some ⟨b, 0, none⟩)]] w fun e w' => e = .returned (sV (termT0 t)) ∧ Below w.heap.size w w' := by
  have := print_joined 102 #[.pointer (some ⟨b, 0, none⟩)] enters_term (partsOf t) _ (term_iter t hk hk7 hn b) (by rw [parts_flat]; have := termT0_len t hn; omega) w (fun W hb => ⟨hh.later hb, hG.mono hb⟩)
  rw [parts_flat] at this
  exact this

theorem cmps_new (w : World) (b : Nat) (hb : w.heap.size = b) (t : TypeId) (c : Cm) : CmpsV (w.alloc (.cells (cmV c).toArray t)) (.slice (some ⟨b, 0, none⟩) 1 1) [c] := by
  subst hb
  refine ⟨some ⟨w.heap.size, 0, none⟩, 1, rfl, Nat.le_refl _, by simp, (fun h => nomatch h), .inr ⟨w.heap.size, 0, rfl, fun i c' hi j v hj => ?_⟩⟩
  have : i = 0 := by have := (List.getElem?_eq_some_iff.1 hi).1; simp at this; omega
  subst this
  simp only [List.getElem?_cons_zero, Option.some.injEq] at hi
  subst hi
  have hh := Holds.fresh w t (cmV c).toArray
  rw [show 0 + 0 * 9 + j = j from by omega, hh.cell j]
  simpa using hj
theorem steps_new (w : World) (b : Nat) (hb : w.heap.size = b) (t : TypeId) (s : St) (v : Value) (hv : CmpsV w v s.cmps) : StepsV (w.alloc (.cells (stV s v).toArray t)) (.slice (some ⟨b, 0, none⟩) 1 1) [s] := by
  subst hb
  refine ⟨some ⟨w.heap.size, 0, none⟩, 1, rfl, Nat.le_refl _, by simp, (fun h => nomatch h), .inr ⟨w.heap.size, 0, rfl, fun i c' hi => ?_⟩⟩
  have : i = 0 := by have := (List.getElem?_eq_some_iff.1 hi).1; simp at this; omega
  subst this
  simp only [List.getElem?_cons_zero, Option.some.injEq] at hi
  subst hi
  refine ⟨v, hv.mono ((Below.refl _ _).alloc (Nat.le_refl _) _) (Nat.le_refl _), fun j u hj => ?_⟩
  have hh := Holds.fresh w t (stV s v).toArray
  rw [show 0 + 0 * 6 + j = j from by omega, hh.cell j]
  simpa using hj
theorem pt_one (s : St) : ptB ⟨[s], 0⟩ = stB s := by simp [ptB, numB]
theorem st_zero (c : Cm) : stB ⟨false, 0, 0, 0, false, [c]⟩ = cmB c := by simp [stB, numB]
theorem stWf_zero {c : Cm} (h : cmWf c) : stWf ⟨false, 0, 0, 0, false, [c]⟩ := ⟨by simp [bnd], by simp [bnd], by simp [bnd], by simpa using h⟩
/-- a new step of a slice of steps is asked -/
theorem right_new (s : St) (hw : stWf s) (v : Value) (w : World) (hv : CmpsV w v s.cmps) (b : Nat) (hb : w.heap.size = b) : Calls Tryd.prog 57 #[.agg #[.slice (some ⟨b, 0, none⟩) 1 1, .int .i64 0]] (w.alloc (.cells (stV s v).toArray 27)) fun e w' => e = .returned (.bool (stB s)) ∧ Below (w.heap.size + 1) (w.alloc (.cells (stV s v).toArray 27)) w' := by
  have := tree_Right ⟨[s], 0⟩ _ _ ⟨_, rfl, steps_new w b hb 27 s v hv⟩ (by simpa using hw)
  rw [pt_one] at this
  exact this.mono fun _ _ h => ⟨h.1, by simpa using h.2⟩

set_option maxRecDepth 100000 in
set_option maxHeartbeats 1000000 in
theorem print_may (s : St) (hw : stWf s) (v : Value) (w : World) (hv : CmpsV w v s.cmps) : Calls Tryd.prog 64 #[stA s v] w fun e w' => e = .returned (.bool (stB s)) ∧ Below w.heap.size w w' := by
  have cr := right_new s hw v (w.alloc (.cells (stV s v).toArray 27)) (hv.mono ((Below.refl _ _).alloc (Nat.le_refl _) _) (Nat.le_refl _)) (w.heap.size + 1) (by simp)
  generalize stB s = r at *
  obtain ⟨neg, kd, mn, mx, st, cs⟩ := s
  simp only [stA, stV] at *
  have CR := Lib.hid cr; clear cr hv hw
  go_enter Tryd.func64, Tryd.ntmps64
  go_wp2_with fail
  refine CR.out.mono ?_
  rintro e w1 ⟨rfl, hb1⟩
  go_wp2_with fail
  go_ret
  exact ⟨rfl, (((Below.refl _ _).alloc (Nat.le_refl _) _).alloc (by simp) _).trans (hb1.mono (by simp; omega))⟩

theorem cm_right (t : Tm) : cmB ⟨3, ⟨0, 0, 0, 0⟩, t⟩ = tmB t := by
  have : tmB ⟨0, 0, 0, 0⟩ = true := by decide
  simp [cmB, this]
theorem cm_left (t : Tm) : cmB ⟨3, t, ⟨0, 0, 0, 0⟩⟩ = tmB t := by
  have : tmB ⟨0, 0, 0, 0⟩ = true := by decide
  simp [cmB, this]
theorem cmWf_right {t : Tm} (h : tmWf t) : cmWf ⟨3, ⟨0, 0, 0, 0⟩, t⟩ := ⟨by simp [bnd8], by simp [tmWf, bnd8, bnd], h⟩
theorem cmWf_left {t : Tm} (h : tmWf t) : cmWf ⟨3, t, ⟨0, 0, 0, 0⟩⟩ := ⟨by simp [bnd8], h, by simp [tmWf, bnd8, bnd]⟩
theorem termT_yes {t : Tm} (h : tmB t = true) : termT t = termT0 t := by unfold termT; rw [if_pos h]
theorem termT_no {t : Tm} (h : tmB t = false) : termT t = [] := by unfold termT; rw [h]; rfl
theorem tm_kind {t : Tm} (h : tmB t = true) : t.kind < 7 := ((tmB_iff t).1 h).2.2.1

set_option maxRecDepth 100000 in
set_option maxHeartbeats 1000000 in
theorem print_Term (t : Tm) (hw : tmWf t) (w : World) (hG : GP w) : Calls Tryd.prog 29 #[tmA t] w fun e w' => e = .returned (sV (termT t)) ∧ Below w.heap.size w w' := by
  have cm := print_may ⟨false, 0, 0, 0, false, [⟨3, ⟨0, 0, 0, 0⟩, t⟩]⟩ (stWf_zero (cmWf_right hw)) _ ((w.alloc (.cells (tmV t).toArray 29)).alloc (.cells (cmV ⟨3, ⟨0, 0, 0, 0⟩, t⟩).toArray 31)) (cmps_new _ (w.heap.size + 1) (by simp) _ _)
  rw [st_zero, cm_right] at cm
  have z0 := ((Holds.fresh w 29 (tmV t).toArray).alloc (.cells (cmV ⟨3, ⟨0, 0, 0, 0⟩, t⟩).toArray 31))
  have ct := fun W => print_term t W
  have cj := fun (h : tmB t = true) b W hh hG => joined_term t hw.1.1 (tm_kind h) hw.2.1 b W hh hG
  have hyes := fun h => termT_yes (t := t) h
  have hno := fun h => termT_no (t := t) h
  obtain ⟨k, n, s, r⟩ := t
  simp only [tmA, stA, cmV, tmV] at *
  generalize tmB ⟨k, n, s, r⟩ = b at *
  have CM := Lib.hid cm; clear cm
  have CT := Lib.hid ct; clear ct
  have Z0 := Lib.hid z0; clear z0
  cases b
  · have hn := hno rfl
    rw [hn]
    clear hn hyes hno cj
    go_enter Tryd.func29, Tryd.ntmps29
    go_wp2_with fail
    refine CM.out.mono ?_
    rintro e w1 ⟨rfl, hb1⟩
    go_wp2_with fail
    go_ret
    exact ⟨rfl, (((Below.refl _ _).alloc (Nat.le_refl _) _).alloc (by simp) _).trans (hb1.mono (by simp; omega))⟩
  · have hn := hyes rfl
    rw [hn]
    have cj' := cj rfl
    have CJ := Lib.hid cj'
    clear hn hyes hno cj cj'
    go_enter Tryd.func29, Tryd.ntmps29
    go_wp2_with fail
    refine CM.out.mono ?_
    rintro e w1 ⟨rfl, hb1⟩
    have hh := Z0.out.later hb1
    have hl := hh.size
    have hB := (((Below.refl w.heap.size w).alloc (Nat.le_refl _) (.cells #[.int .u8 k, .int .i64 n, .int .i64 s, .int .i64 r] 29)).alloc (by simp) (.cells #[.int .u8 3, .int .u8 0, .int .i64 0, .int .i64 0, .int .i64 0, .int .u8 k, .int .i64 n, .int .i64 s, .int .i64 r] 31)).trans (hb1.mono (by simp; omega))
    obtain ⟨c0, c1, c2, c3⟩ : w1.cell? ⟨w.heap.size, 0, none⟩ = some (.int .u8 k) ∧ w1.cell? ⟨w.heap.size, 1, none⟩ = some (.int .i64 n) ∧ w1.cell? ⟨w.heap.size, 2, none⟩ = some (.int .i64 s) ∧ w1.cell? ⟨w.heap.size, 3, none⟩ = some (.int .i64 r) := ⟨hh.cell 0, hh.cell 1, hh.cell 2, hh.cell 3⟩
    have HB := Lib.hid hB; clear hB hb1 hh Z0 CM
    go_wp2_with fail
    refine (CT.out _).mono ?_
    rintro e w2 ⟨rfl, rfl⟩
    go_wp2_with fail
    refine (CJ.out _ _ (Holds.fresh _ _ _) ((hG.mono HB.out).alloc _)).mono ?_
    rintro e w3 ⟨rfl, hb3⟩
    go_wp2_with fail
    go_ret
    exact ⟨rfl, (HB.out.alloc HB.out.size _).trans (hb3.mono (by have := HB.out.size; simp; omega))⟩
end Go.Proofs.YtafgincpoahefaaDoor

namespace Go.Proofs.YtafgincpoahefaaDoor
open Go.RowKit
attribute [local go_sem] Oper.semAt_some

theorem sV_gen (l : List UInt8) (n : Nat) (h : l.length ≤ n) : ∃ A : ByteArray, sV l = .string A ∧ A.size ≤ n ∧ A = ⟨l.toArray⟩ :=
  ⟨⟨l.toArray⟩, rfl, by simpa [ByteArray.size] using h, rfl⟩
theorem cmpT_yes {c : Cm} (h : cmB c = true) : cmpT c = termT0 c.l ++ opT c.op ++ termT0 c.r := by unfold cmpT cmpT0; rw [if_pos h]
theorem cmpT_no {c : Cm} (h : cmB c = false) : cmpT c = [] := by unfold cmpT; rw [h]; rfl
theorem cmpT_len (c : Cm) (h : cmWf c) : (cmpT c).length ≤ 62 := by
  have h1 := termT0_len c.l h.2.1.2.1
  have h2 := termT0_len c.r h.2.2.2.1
  have h3 := opT_len c.op
  unfold cmpT
  split
  · unfold cmpT0; simp only [List.length_append]; omega
  · simp
theorem cm_kinds {c : Cm} (h : cmB c = true) : tmB c.l = true ∧ tmB c.r = true := by
  simp only [cmB, Bool.and_eq_true] at h
  exact ⟨h.1.2, h.2⟩
theorem keep9 {w W w' : World} {b : Nat} {v0 v1 v2 v3 v4 v5 v6 v7 v8 : Value} (h : W.cell? ⟨b, 0, none⟩ = some v0 ∧ W.cell? ⟨b, 1, none⟩ = some v1 ∧ W.cell? ⟨b, 2, none⟩ = some v2 ∧ W.cell? ⟨b, 3, none⟩ = some v3 ∧ W.cell? ⟨b, 4, none⟩ = some v4 ∧ W.cell? ⟨b, 5, none⟩ = some v5 ∧ W.cell? ⟨b, 6, none⟩ = some v6 ∧ W.cell? ⟨b, 7, none⟩ = some v7 ∧ W.cell? ⟨b, 8, none⟩ = some v8 ∧ Below w.heap.size w W) (hb : Below W.heap.size W w') :
    w'.cell? ⟨b, 0, none⟩ = some v0 ∧ w'.cell? ⟨b, 1, none⟩ = some v1 ∧ w'.cell? ⟨b, 2, none⟩ = some v2 ∧ w'.cell? ⟨b, 3, none⟩ = some v3 ∧ w'.cell? ⟨b, 4, none⟩ = some v4 ∧ w'.cell? ⟨b, 5, none⟩ = some v5 ∧ w'.cell? ⟨b, 6, none⟩ = some v6 ∧ w'.cell? ⟨b, 7, none⟩ = some v7 ∧ w'.cell? ⟨b, 8, none⟩ = some v8 ∧ Below w.heap.size w w' := by
  obtain ⟨h0, h1, h2, h3, h4, h5, h6, h7, h8, h9⟩ := h
  have c := fun {i : Nat} {v : Value} (h : W.cell? ⟨b, i, none⟩ = some v) => cell_mono hb (Nat.le_refl _) h
  exact ⟨c h0, c h1, c h2, c h3, c h4, c h5, c h6, c h7, c h8, h9.trans (hb.mono h9.size)⟩
theorem last9 {p0 p1 p2 p3 p4 p5 p6 p7 p8 q : Prop} (h : p0 ∧ p1 ∧ p2 ∧ p3 ∧ p4 ∧ p5 ∧ p6 ∧ p7 ∧ p8 ∧ q) : q := h.2.2.2.2.2.2.2.2.2

set_option maxRecDepth 100000 in
set_option maxHeartbeats 2000000 in
theorem print_Cmp (c : Cm) (hw : cmWf c) (w : World) (hG : GP w) : Calls Tryd.prog 27 #[cmA c] w fun e w' => e = .returned (sV (cmpT c)) ∧ Below w.heap.size w w' := by
  have cm := print_may ⟨false, 0, 0, 0, false, [c]⟩ (stWf_zero hw) _ ((w.alloc (.cells (cmV c).toArray 31)).alloc (.cells (cmV c).toArray 31)) (cmps_new _ (w.heap.size + 1) (by simp) _ _)
  rw [st_zero] at cm
  have z0 := ((Holds.fresh w 31 (cmV c).toArray).alloc (.cells (cmV c).toArray 31))
  have hB0 := ((Below.refl w.heap.size w).alloc (Nat.le_refl _) (.cells (cmV c).toArray 31)).alloc (by simp) (.cells (cmV c).toArray 31)
  have HB0 := Lib.hid hB0; clear hB0
  have Z0 := Lib.hid z0; clear z0
  cases hb : cmB c
  · rw [cmpT_no hb]
    rw [hb] at cm
    clear hb hw
    obtain ⟨op, ⟨k, n, s, r⟩, ⟨k', n', s', r'⟩⟩ := c
    simp only [cmA, stA, cmV] at *
    have CM := Lib.hid cm; clear cm
    go_enter Tryd.func27, Tryd.ntmps27
    go_wp2_with fail
    refine wp_fwd 0 rfl ?_
    go_wp2_with fail
    refine CM.out.mono ?_
    rintro e w1 ⟨rfl, hb1⟩
    go_wp2_with fail
    apply wp_goto
    refine fwd_goto ?_
    go_wp2_with fail
    rw [Exit.noGoto_ret]
    go_ret
    exact ⟨rfl, HB0.out.trans (hb1.mono (by simp; omega))⟩
  · rw [hb] at cm
    obtain ⟨hl, hr⟩ := cm_kinds hb
    obtain ⟨A, eA, sA, rA⟩ := sV_gen (termT0 c.l) 30 (termT0_len _ hw.2.1.2.1)
    obtain ⟨O, eO, sO, rO⟩ := sV_gen (opT c.op) 2 (opT_len _)
    obtain ⟨B, eB, sB, rB⟩ := sV_gen (termT0 c.r) 30 (termT0_len _ hw.2.2.2.1)
    have hres : sV (cmpT c) = .string (A ++ O ++ B) := by
      rw [cmpT_yes hb, rA, rO, rB, ba_app, ba_app]; rfl
    have ct1 := fun W => print_term c.l W
    have ct2 := fun W => print_term c.r W
    have cj1 := fun b W hh hG => joined_term c.l hw.2.1.1.1 (tm_kind hl) hw.2.1.2.1 b W hh hG
    have cj2 := fun b W hh hG => joined_term c.r hw.2.2.1.1 (tm_kind hr) hw.2.2.2.1 b W hh hG
    have co := fun W hG => print_Op c.op hw.1 W hG
    rw [eA] at cj1
    rw [eB] at cj2
    rw [eO] at co
    clear hb hw hl hr eA eO eB rA rO rB
    obtain ⟨op, ⟨k, n, s, r⟩, ⟨k', n', s', r'⟩⟩ := c
    simp only [cmA, stA, cmV, tmA, tmV] at *
    rw [hres]
    have CM := Lib.hid cm; clear cm hres
    have CT1 := Lib.hid ct1; clear ct1
    have CT2 := Lib.hid ct2; clear ct2
    have CJ1 := Lib.hid cj1; clear cj1
    have CJ2 := Lib.hid cj2; clear cj2
    have CO := Lib.hid co; clear co
    have g1 : ¬ 9223372036854775807 < A.size + O.size := by omega
    have g2 : ¬ 9223372036854775807 < A.size + O.size + B.size := by omega
    go_enter Tryd.func27, Tryd.ntmps27
    go_wp2_with fail
    refine wp_fwd 0 rfl ?_
    go_wp2_with fail
    refine CM.out.mono ?_
    rintro e w1 ⟨rfl, hb1⟩
    have hh := Z0.out.later hb1
    have hl := hh.size
    have HB := Lib.hid (HB0.out.trans (hb1.mono (by simp; omega)))
    obtain ⟨c0, c1, c2, c3, c4⟩ : w1.cell? ⟨w.heap.size, 0, none⟩ = some (.int .u8 op) ∧ w1.cell? ⟨w.heap.size, 1, none⟩ = some (.int .u8 k) ∧ w1.cell? ⟨w.heap.size, 2, none⟩ = some (.int .i64 n) ∧ w1.cell? ⟨w.heap.size, 3, none⟩ = some (.int .i64 s) ∧ w1.cell? ⟨w.heap.size, 4, none⟩ = some (.int .i64 r) := ⟨hh.cell 0, hh.cell 1, hh.cell 2, hh.cell 3, hh.cell 4⟩
    obtain ⟨c5, c6, c7, c8⟩ : w1.cell? ⟨w.heap.size, 5, none⟩ = some (.int .u8 k') ∧ w1.cell? ⟨w.heap.size, 6, none⟩ = some (.int .i64 n') ∧ w1.cell? ⟨w.heap.size, 7, none⟩ = some (.int .i64 s') ∧ w1.cell? ⟨w.heap.size, 8, none⟩ = some (.int .i64 r') := ⟨hh.cell 5, hh.cell 6, hh.cell 7, hh.cell 8⟩
    clear hb1 hh Z0 CM HB0
    go_wp2_with fail
    go_region_held3 (fun w' => w'.cell? ⟨w.heap.size, 0, none⟩ = some (.int .u8 op) ∧ w'.cell? ⟨w.heap.size, 1, none⟩ = some (.int .u8 k) ∧ w'.cell? ⟨w.heap.size, 2, none⟩ = some (.int .i64 n) ∧ w'.cell? ⟨w.heap.size, 3, none⟩ = some (.int .i64 s) ∧ w'.cell? ⟨w.heap.size, 4, none⟩ = some (.int .i64 r) ∧ w'.cell? ⟨w.heap.size, 5, none⟩ = some (.int .u8 k') ∧ w'.cell? ⟨w.heap.size, 6, none⟩ = some (.int .i64 n') ∧ w'.cell? ⟨w.heap.size, 7, none⟩ = some (.int .i64 s') ∧ w'.cell? ⟨w.heap.size, 8, none⟩ = some (.int .i64 r') ∧ Below w.heap.size w w')
      (first | exact ⟨c0, c1, c2, c3, c4, c5, c6, c7, c8, HB.out.drew⟩ | exact keep9 (by assumption) hb1 | exact keep9 (by assumption) ((Below.refl _ _).alloc (Nat.le_refl _) _) | assumption)
      (first
        | (go_at_call 67; refine (CT1.out _).mono ?_; rintro e w1 ⟨rfl, rfl⟩)
        | (go_at_call 67; refine (CT2.out _).mono ?_; rintro e w1 ⟨rfl, rfl⟩)
        | (go_at_call 66; refine (CJ1.out _ _ (Holds.fresh _ _ _).drew (hG.mono (last9 (by assumption)))).mono ?_; rintro e w1 ⟨rfl, hb1⟩)
        | (go_at_call 66; refine (CJ2.out _ _ (Holds.fresh _ _ _) (hG.mono (last9 (by assumption)))).mono ?_; rintro e w1 ⟨rfl, hb1⟩)
        | (go_at_call 31; refine (CO.out _ (hG.mono (last9 (by assumption)))).mono ?_; rintro e w1 ⟨rfl, rfl⟩))
    go_wp2_with fail
    rw [fwd_ret]
    go_ret
    exact ⟨rfl, last9 (by assumption)⟩
end Go.Proofs.YtafgincpoahefaaDoor
