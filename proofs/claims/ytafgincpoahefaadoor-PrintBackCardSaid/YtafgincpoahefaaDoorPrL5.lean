/-
  stragglelaw10.PrintApart: true of any two patterns, any two terms.
-/
import Derived.Test.YtafgincpoahefaaDoorPrW
import Derived.Test.YtafgincpoahefaaDoorPrP
import Derived.Test.YtafgincpoahefaaDoorRef8t
import Derived.Deep.RegionHeld3
import Derived.Deep.DeepCutAuto
namespace Go.Proofs.YtafgincpoahefaaDoor
open Go.RowKit

/-- the arguments in their boxes -/
structure BA (w : World) (vp vq vt vu : Array Value) (W : World) : Prop where
  p : Holds W w.heap.size 24 vp
  q : Holds W (w.heap.size + 1) 24 vq
  t : Holds W (w.heap.size + 1 + 1) 29 vt
  u : Holds W (w.heap.size + 1 + 1 + 1) 29 vu
  below : Below w.heap.size w W
theorem BA.later {w W W' : World} {vp vs vc vt : Array Value} (h : BA w vp vs vc vt W) (hb : Below W.heap.size W W') : BA w vp vs vc vt W' :=
  ⟨h.p.later hb, h.q.later hb, h.t.later hb, h.u.later hb, h.below.trans (hb.mono h.below.size)⟩
theorem BA.fresh (w : World) (vp vs vc vt : Array Value) : BA w vp vs vc vt ((((w.alloc (.cells vp 24)).alloc (.cells vs 24)).alloc (.cells vc 29)).alloc (.cells vt 29)) :=
  ⟨(((Holds.fresh w _ _).alloc _).alloc _).alloc _, ((Holds.fresh' (by simp) _ _).alloc _).alloc _, (Holds.fresh' (by simp) _ _).alloc _, Holds.fresh' (by simp) _ _,
    ((((Below.refl _ _).alloc (Nat.le_refl _) _).alloc (by simp) _).alloc (by simp; omega) _).alloc (by simp; omega) _⟩
theorem BA.ret {w : World} {vp vs vc vt : Array Value} {f : FuncId} {args : Array Value} {x : Value} {W : World} (hb : BA w vp vs vc vt W) (h : Calls Tryd.prog f args W fun e w' => e = .returned x ∧ Below W.heap.size W w') :
    Calls Tryd.prog f args W fun e w' => e = .returned x ∧ BA w vp vs vc vt w' := h.mono fun _ _ g => ⟨g.1, hb.later g.2⟩
theorem okP_of {p : Pt} (h : ∀ s ∈ p.steps, stWf s) : okP p := fun s hs c hc => ⟨((h s hs).2.2.2 c hc).2.1.1.1, ((h s hs).2.2.2 c hc).2.2.1.1⟩
theorem printT_ok {p : Pt} (h : (printT p).2 = 0) : ptB p = true ∧ strict0 p = false ∧ (patT p).length ≤ 2000 ∧ (printT p).1 = patT p := by
  unfold printT at h ⊢
  split at h
  · rename_i hc
    rw [if_pos hc]
    split at h
    · rename_i hl
      rw [if_pos hl]
      exact ⟨hc.1, hc.2, hl, rfl⟩
    · simp at h
  · simp at h
theorem print_apart {p q : Pt} (hp : ∀ s ∈ p.steps, stWf s) (hq : ∀ s ∈ q.steps, stWf s) (h1 : (printT p).2 = 0) (h2 : (printT q).2 = 0) (h : (printT p).1 = (printT q).1) : p = q := by
  obtain ⟨a1, a2, a3, a4⟩ := printT_ok h1
  obtain ⟨b1, b2, b3, b4⟩ := printT_ok h2
  rw [a4, b4] at h
  exact pat_apart a1 (okP_of hp) a2 a3 b1 (okP_of hq) b2 b3 h
theorem termT_apart {t u : Tm} (ht : tmWf t) (hu : tmWf u) (h1 : termT t ≠ []) (h2 : termT u ≠ []) (h : termT t = termT u) : t = u := by
  have y1 : tmB t = true := by
    cases hb : tmB t with
    | true => rfl
    | false => exact absurd (termT_no hb) h1
  have y2 : tmB u = true := by
    cases hb : tmB u with
    | true => rfl
    | false => exact absurd (termT_no hb) h2
  rw [termT_yes y1, termT_yes y2] at h
  exact term_apart y1 ht.1.1 y2 hu.1.1 (by have := termT0_len t ht.2.1; omega) h
theorem sV_inj {l r : List UInt8} {A B : ByteArray} (h1 : sV l = .string A) (h2 : sV r = .string B) (h : A = B) : l = r := by
  unfold sV at h1 h2
  rw [Value.string.injEq] at h1 h2
  subst h
  rw [← h2] at h1
  have := congrArg (fun x : ByteArray => x.data.toList) h1
  simpa using this

theorem str_apart {A B : ByteArray} (h : A ≠ B) : (A.toList == B.toList) = false := by
  rw [beq_eq_false_iff_ne]
  intro e
  rw [ByteArray.toList_eq, ByteArray.toList_eq] at e
  exact h (by cases A; cases B; simp only [ByteArray.mk.injEq]; exact Array.toList_inj.1 e)

set_option maxRecDepth 100000 in
set_option maxHeartbeats 8000000 in
theorem printApart_else (p q : Pt) (u1 u2 : Value) (t u : Tm) (w : World) (hp : StepsV w u1 p.steps) (hpb : bnd p.window) (hpw : ∀ s ∈ p.steps, stWf s) (hq : StepsV w u2 q.steps) (hqb : bnd q.window) (hqw : ∀ s ∈ q.steps, stWf s) (htw : tmWf t) (huw : tmWf u) (hG : GP w) (hgp : greatB p = false) (hgq : greatB q = false) :
    Calls Tryd.prog 7 #[.agg #[u1, .int .i64 p.window], .agg #[u2, .int .i64 q.window], .agg (tmV t).toArray, .agg (tmV u).toArray] w fun e w' => e = .returned (.bool true) ∧ Below w.heap.size w w' := by
  have bx := BA.fresh w #[u1, .int .i64 p.window] #[u2, .int .i64 q.window] (tmV t).toArray (tmV u).toArray
  obtain ⟨A, eA⟩ : ∃ A : ByteArray, sV (printT p).1 = .string A := ⟨_, rfl⟩
  obtain ⟨B, eB⟩ : ∃ A : ByteArray, sV (printT q).1 = .string A := ⟨_, rfl⟩
  obtain ⟨X, eX⟩ : ∃ A : ByteArray, sV (termT t) = .string A := ⟨_, rfl⟩
  obtain ⟨Y, eY⟩ : ∃ A : ByteArray, sV (termT u) = .string A := ⟨_, rfl⟩
  have cg1 := fun W (hb : BA w #[u1, .int .i64 p.window] #[u2, .int .i64 q.window] (tmV t).toArray (tmV u).toArray W) => hb.ret (ref8_Great p (.agg #[u1, .int .i64 p.window]) W ⟨u1, rfl, hp.mono hb.below (Nat.le_refl _)⟩)
  have cg2 := fun W (hb : BA w #[u1, .int .i64 p.window] #[u2, .int .i64 q.window] (tmV t).toArray (tmV u).toArray W) => hb.ret (ref8_Great q (.agg #[u2, .int .i64 q.window]) W ⟨u2, rfl, hq.mono hb.below (Nat.le_refl _)⟩)
  have c1 := fun W (hb : BA w #[u1, .int .i64 p.window] #[u2, .int .i64 q.window] (tmV t).toArray (tmV u).toArray W) => hb.ret (print_Print p hpw hpb hgp (.agg #[u1, .int .i64 p.window]) W ⟨u1, rfl, hp.mono hb.below (Nat.le_refl _)⟩ (hG.mono hb.below))
  have c2 := fun W (hb : BA w #[u1, .int .i64 p.window] #[u2, .int .i64 q.window] (tmV t).toArray (tmV u).toArray W) => hb.ret (print_Print q hqw hqb hgq (.agg #[u2, .int .i64 q.window]) W ⟨u2, rfl, hq.mono hb.below (Nat.le_refl _)⟩ (hG.mono hb.below))
  have c3 := fun W (hb : BA w #[u1, .int .i64 p.window] #[u2, .int .i64 q.window] (tmV t).toArray (tmV u).toArray W) => hb.ret (ref8_Same p q (.agg #[u1, .int .i64 p.window]) (.agg #[u2, .int .i64 q.window]) W ⟨u1, rfl, hp.mono hb.below (Nat.le_refl _)⟩ ⟨u2, rfl, hq.mono hb.below (Nat.le_refl _)⟩)
  have c4 := fun W (hb : BA w #[u1, .int .i64 p.window] #[u2, .int .i64 q.window] (tmV t).toArray (tmV u).toArray W) => hb.ret (print_Term t htw W (hG.mono hb.below))
  have c5 := fun W (hb : BA w #[u1, .int .i64 p.window] #[u2, .int .i64 q.window] (tmV t).toArray (tmV u).toArray W) => hb.ret (print_Term u huw W (hG.mono hb.below))
  have c6 := fun W (hb : BA w #[u1, .int .i64 p.window] #[u2, .int .i64 q.window] (tmV t).toArray (tmV u).toArray W) => hb.ret (wakes10 W (hG.mono hb.below))
  have hsame : p = q → A = B := fun e => by subst e; rw [eA] at eB; exact Value.string.inj eB
  have happ : (printT p).2 = 0 → (printT q).2 = 0 → A = B → p = q := fun h1 h2 e => print_apart hpw hqw h1 h2 (sV_inj eA eB e)
  rw [hgp] at cg1
  rw [hgq] at cg2
  rw [eA] at c1
  rw [eB] at c2
  rw [eX] at c4
  rw [eY] at c5
  generalize (printT p).2 = pe at *
  generalize (printT q).2 = qe at *
  have htt : t = u → X = Y := fun e => by subst e; rw [eX] at eY; exact Value.string.inj eY
  have hta : X.toList ≠ [] → Y.toList ≠ [] → X = Y → t = u := fun h1 h2 e => by
    have ne : ∀ (l : List UInt8) (Z : ByteArray), sV l = .string Z → Z.toList ≠ [] → l ≠ [] := fun l Z e h hl => by
      unfold sV at e
      rw [Value.string.injEq] at e
      rw [← e, hl] at h
      exact h (by rw [ByteArray.toList_eq])
    exact termT_apart htw huw (ne _ _ eX h1) (ne _ _ eY h2) (sV_inj eX eY e)
  have hteq : (t = u) ↔ (t.kind = u.kind ∧ t.n = u.n ∧ t.s = u.s ∧ t.r = u.r) := by cases t; cases u; simp
  generalize hD : decide (p = q) = D at *
  have hDt : D = true → A = B := fun e => hsame (by rw [e] at hD; simpa using hD)
  have hDf : D = false → pe = 0 → qe = 0 → A ≠ B := fun e h1 h2 h => by
    rw [e] at hD
    have := happ h1 h2 h
    simp [this] at hD
  clear hsame happ eA eB eX eY hp hpb hpw hq hqb hqw htw huw hG hgp hgq hD
  obtain ⟨ss, pw⟩ := p
  obtain ⟨ss', qw⟩ := q
  obtain ⟨k, n, a, r⟩ := t
  obtain ⟨k', n', a', r'⟩ := u
  simp only [tmV, tmA] at *
  rw [hteq] at htt hta
  have BX0 := Lib.hid bx; clear bx
  have CG1 := Lib.hid cg1; clear cg1
  have CG2 := Lib.hid cg2; clear cg2
  have C1 := Lib.hid c1; clear c1
  have C2 := Lib.hid c2; clear c2
  have C3 := Lib.hid c3; clear c3
  have C4 := Lib.hid c4; clear c4
  have C5 := Lib.hid c5; clear c5
  have C6 := Lib.hid c6; clear c6
  have HTT := Lib.hid htt; clear htt
  have HTA := Lib.hid hta; clear hta hteq
  have HDT := Lib.hid hDt; clear hDt
  have HDF := Lib.hid hDf; clear hDf
  go_enter Tryd.func7, Tryd.ntmps7
  go_wp2_with fail
  refine (CG1.out _ BX0.out).mono ?_
  rintro e w1 ⟨rfl, bx1⟩
  have d0 : w1.cell? ⟨w.heap.size + 1, 0, none⟩ = some u2 := bx1.q.cell 0
  have d1 : w1.cell? ⟨w.heap.size + 1, 1, none⟩ = some (.int .i64 qw) := bx1.q.cell 1
  have BX1 := Lib.hid bx1; clear bx1 BX0
  go_wp2_with fail
  refine (CG2.out _ BX1.out).mono ?_
  rintro e w2 ⟨rfl, bx2⟩
  have f0 : w2.cell? ⟨w.heap.size, 0, none⟩ = some u1 := bx2.p.cell 0
  have f1 : w2.cell? ⟨w.heap.size, 1, none⟩ = some (.int .i64 pw) := bx2.p.cell 1
  have BX2 := Lib.hid bx2; clear bx2 BX1 d0 d1
  go_wp2_with fail
  refine (C1.out _ BX2.out).mono ?_
  rintro e w3 ⟨rfl, bx3⟩
  have d0 : w3.cell? ⟨w.heap.size + 1, 0, none⟩ = some u2 := bx3.q.cell 0
  have d1 : w3.cell? ⟨w.heap.size + 1, 1, none⟩ = some (.int .i64 qw) := bx3.q.cell 1
  have BX3 := Lib.hid bx3; clear bx3 BX2 f0 f1
  go_wp2_with fail
  refine (C2.out _ BX3.out).mono ?_
  rintro e w4 ⟨rfl, bx4⟩
  have f0 : w4.cell? ⟨w.heap.size, 0, none⟩ = some u1 := bx4.p.cell 0
  have f1 : w4.cell? ⟨w.heap.size, 1, none⟩ = some (.int .i64 pw) := bx4.p.cell 1
  have d0 : w4.cell? ⟨w.heap.size + 1, 0, none⟩ = some u2 := bx4.q.cell 0
  have d1 : w4.cell? ⟨w.heap.size + 1, 1, none⟩ = some (.int .i64 qw) := bx4.q.cell 1
  have BX4 := Lib.hid bx4; clear bx4 BX3 CG1 CG2 C1 C2
  go_upto_region 5 with (fail)
  go_cut [46] (fun s46 wc => s46 = .bool false ∧ BA w #[u1, .int .i64 pw] #[u2, .int .i64 qw] #[.int .u8 k, .int .i64 n, .int .i64 a, .int .i64 r] #[.int .u8 k', .int .i64 n', .int .i64 a', .int .i64 r'] wc)
  case first =>
    clear HTT HTA C4 C5 C6
    by_cases hpe : pe = 0
    · by_cases hqe : qe = 0
      · cases D
        · have hne := HDF.out rfl hpe hqe
          subst hpe
          subst hqe
          go_wp2_with fail
          refine (C3.out _ BX4.out).mono ?_
          rintro e w5 ⟨rfl, bx5⟩
          go_wp2_with fail
          go_meet
          exact ⟨by rw [str_apart hne], bx5⟩
        · have hab := HDT.out rfl
          subst hab
          subst hpe
          subst hqe
          go_wp2_with fail
          refine (C3.out _ BX4.out).mono ?_
          rintro e w5 ⟨rfl, bx5⟩
          go_wp2_with fail
          go_meet
          exact ⟨by simp, bx5⟩
      · have hq0 : (qe == 0) = false := by simpa using hqe
        subst hpe
        go_wp2_with fail
        go_meet
        exact ⟨rfl, BX4.out⟩
    · have hp0 : (pe == 0) = false := by simpa using hpe
      go_wp2_with fail
      go_meet
      exact ⟨rfl, BX4.out⟩
  case rest =>
    obtain ⟨rfl, bx5⟩ := hcut
    clear f0 f1 d0 d1 BX4
    have hbx : BA w #[u1, .int .i64 pw] #[u2, .int .i64 qw] #[.int .u8 k, .int .i64 n, .int .i64 a, .int .i64 r] #[.int .u8 k', .int .i64 n', .int .i64 a', .int .i64 r'] wc.drew := bx5.later (below_drewN wc.heap.size wc 1)
    clear bx5
    go_wp2_with fail
    go_region_held3 (fun w' => w'.cell? ⟨w.heap.size + 1 + 1, 0, none⟩ = some (.int .u8 k) ∧ w'.cell? ⟨w.heap.size + 1 + 1, 1, none⟩ = some (.int .i64 n) ∧ w'.cell? ⟨w.heap.size + 1 + 1, 2, none⟩ = some (.int .i64 a) ∧ w'.cell? ⟨w.heap.size + 1 + 1, 3, none⟩ = some (.int .i64 r) ∧ w'.cell? ⟨w.heap.size + 1 + 1 + 1, 0, none⟩ = some (.int .u8 k') ∧ w'.cell? ⟨w.heap.size + 1 + 1 + 1, 1, none⟩ = some (.int .i64 n') ∧ w'.cell? ⟨w.heap.size + 1 + 1 + 1, 2, none⟩ = some (.int .i64 a') ∧ w'.cell? ⟨w.heap.size + 1 + 1 + 1, 3, none⟩ = some (.int .i64 r'))
      (exact ⟨hbx.t.cell 0, hbx.t.cell 1, hbx.t.cell 2, hbx.t.cell 3, hbx.u.cell 0, hbx.u.cell 1, hbx.u.cell 2, hbx.u.cell 3⟩)
      (first
      | (go_at_call 29; (with_reducible refine (C4.out _ (by assumption)).mono ?_); rintro e w1 ⟨rfl, hbx⟩)
      | (go_at_call 29; (with_reducible refine (C5.out _ (by assumption)).mono ?_); rintro e w1 ⟨rfl, hbx⟩))
    clear C3 C4 C5 HDT HDF
    by_cases hX : X.toList = []
    · have hXe : X.toList.isEmpty = true := by rw [hX]; rfl
      clear HTT HTA
      go_wp2_with fail
      refine (C6.out _ hbx).mono ?_
      rintro e w9 ⟨rfl, bx9⟩
      go_wp2_with fail
      go_ret
      exact ⟨rfl, bx9.below⟩
    · have hXe : X.toList.isEmpty = false := by simpa using hX
      by_cases hY : Y.toList = []
      · have hYe : Y.toList.isEmpty = true := by rw [hY]; rfl
        clear HTT HTA
        go_wp2_with fail
        refine (C6.out _ hbx).mono ?_
        rintro e w9 ⟨rfl, bx9⟩
        go_wp2_with fail
        go_ret
        exact ⟨rfl, bx9.below⟩
      · have hYe : Y.toList.isEmpty = false := by simpa using hY
        by_cases hXY : X = Y
        · obtain ⟨rfl, rfl, rfl, rfl⟩ := HTA.out hX hY hXY
          subst hXY
          clear HTT HTA
          go_wp2_with fail
          refine (C6.out _ hbx).mono ?_
          rintro e w9 ⟨rfl, bx9⟩
          go_wp2_with fail
          go_ret
          exact ⟨rfl, bx9.below⟩
        · have hxy := str_apart hXY
          have hnt := fun h => hXY (HTT.out h)
          clear HTT HTA
          by_cases e1 : k = k'
          · subst e1
            by_cases e2 : n = n'
            · subst e2
              by_cases e3 : a = a'
              · subst e3
                by_cases e4 : r = r'
                · subst e4
                  exact absurd ⟨rfl, rfl, rfl, rfl⟩ hnt
                · clear hnt
                  go_wp2_with fail
                  refine (C6.out _ hbx).mono ?_
                  rintro e w9 ⟨rfl, bx9⟩
                  go_wp2_with fail
                  go_ret
                  exact ⟨rfl, bx9.below⟩
              · clear hnt
                go_wp2_with fail
                refine (C6.out _ hbx).mono ?_
                rintro e w9 ⟨rfl, bx9⟩
                go_wp2_with fail
                go_ret
                exact ⟨rfl, bx9.below⟩
            · clear hnt
              go_wp2_with fail
              refine (C6.out _ hbx).mono ?_
              rintro e w9 ⟨rfl, bx9⟩
              go_wp2_with fail
              go_ret
              exact ⟨rfl, bx9.below⟩
          · clear hnt
            go_wp2_with fail
            refine (C6.out _ hbx).mono ?_
            rintro e w9 ⟨rfl, bx9⟩
            go_wp2_with fail
            go_ret
            exact ⟨rfl, bx9.below⟩

set_option maxRecDepth 100000 in
set_option maxHeartbeats 4000000 in
theorem printApart_great (p q : Pt) (u1 u2 : Value) (t u : Tm) (w : World) (hp : StepsV w u1 p.steps) (hq : StepsV w u2 q.steps) (hG : GP w) (hg : greatB p = true ∨ greatB q = true) :
    Calls Tryd.prog 7 #[.agg #[u1, .int .i64 p.window], .agg #[u2, .int .i64 q.window], .agg (tmV t).toArray, .agg (tmV u).toArray] w fun e w' => e = .returned (.bool true) ∧ Below w.heap.size w w' := by
  have bx := BA.fresh w #[u1, .int .i64 p.window] #[u2, .int .i64 q.window] (tmV t).toArray (tmV u).toArray
  have cg1 := fun W (hb : BA w #[u1, .int .i64 p.window] #[u2, .int .i64 q.window] (tmV t).toArray (tmV u).toArray W) => hb.ret (ref8_Great p (.agg #[u1, .int .i64 p.window]) W ⟨u1, rfl, hp.mono hb.below (Nat.le_refl _)⟩)
  have cg2 := fun W (hb : BA w #[u1, .int .i64 p.window] #[u2, .int .i64 q.window] (tmV t).toArray (tmV u).toArray W) => hb.ret (ref8_Great q (.agg #[u2, .int .i64 q.window]) W ⟨u2, rfl, hq.mono hb.below (Nat.le_refl _)⟩)
  have c6 := fun W (hb : BA w #[u1, .int .i64 p.window] #[u2, .int .i64 q.window] (tmV t).toArray (tmV u).toArray W) => hb.ret (wakes10 W (hG.mono hb.below))
  generalize greatB p = g1 at *
  generalize greatB q = g2 at *
  clear hp hq hG
  obtain ⟨ss, pw⟩ := p
  obtain ⟨ss', qw⟩ := q
  obtain ⟨k, n, a, r⟩ := t
  obtain ⟨k', n', a', r'⟩ := u
  simp only [tmV] at *
  have BX0 := Lib.hid bx; clear bx
  have CG1 := Lib.hid cg1; clear cg1
  have CG2 := Lib.hid cg2; clear cg2
  have C6 := Lib.hid c6; clear c6
  cases g1
  · obtain rfl : g2 = true := hg.resolve_left (fun h => nomatch h)
    clear hg
    go_enter Tryd.func7, Tryd.ntmps7
    go_wp2_with fail
    refine (CG1.out _ BX0.out).mono ?_
    rintro e w1 ⟨rfl, bx1⟩
    have d0 : w1.cell? ⟨w.heap.size + 1, 0, none⟩ = some u2 := bx1.q.cell 0
    have d1 : w1.cell? ⟨w.heap.size + 1, 1, none⟩ = some (.int .i64 qw) := bx1.q.cell 1
    have BX1 := Lib.hid bx1; clear bx1 BX0
    go_wp2_with fail
    refine (CG2.out _ BX1.out).mono ?_
    rintro e w2 ⟨rfl, bx2⟩
    have BX2 := Lib.hid bx2; clear bx2 BX1
    go_wp2_with fail
    refine (C6.out _ BX2.out).mono ?_
    rintro e w3 ⟨rfl, bx3⟩
    go_wp2_with fail
    go_ret
    exact ⟨rfl, bx3.below⟩
  · clear hg
    go_enter Tryd.func7, Tryd.ntmps7
    go_wp2_with fail
    refine (CG1.out _ BX0.out).mono ?_
    rintro e w1 ⟨rfl, bx1⟩
    have BX1 := Lib.hid bx1; clear bx1 BX0
    go_wp2_with fail
    refine (C6.out _ BX1.out).mono ?_
    rintro e w3 ⟨rfl, bx3⟩
    go_wp2_with fail
    go_ret
    exact ⟨rfl, bx3.below⟩
theorem printApart_walk (p : Pt) (u1 : Value) (q : Pt) (u2 : Value) (t u : Tm) (w : World) (hp : StepsV w u1 p.steps) (hpb : bnd p.window) (hpw : ∀ s ∈ p.steps, stWf s) (hq : StepsV w u2 q.steps) (hqb : bnd q.window) (hqw : ∀ s ∈ q.steps, stWf s) (htw : tmWf t) (huw : tmWf u) (hG : GP w) :
    Calls Tryd.prog 7 #[.agg #[u1, .int .i64 p.window], .agg #[u2, .int .i64 q.window], .agg (tmV t).toArray, .agg (tmV u).toArray] w fun e w' => e = .returned (.bool true) ∧ Below w.heap.size w w' := by
  by_cases hg : greatB p = true ∨ greatB q = true
  · exact printApart_great p q u1 u2 t u w hp hq hG hg
  · have h1 : greatB p = false := by
      cases h : greatB p with
      | false => rfl
      | true => exact absurd (.inl h) hg
    have h2 : greatB q = false := by
      cases h : greatB q with
      | false => rfl
      | true => exact absurd (.inr h) hg
    exact printApart_else p q u1 u2 t u w hp hpb hpw hq hqb hqw htw huw hG h1 h2
end Go.Proofs.YtafgincpoahefaaDoor
