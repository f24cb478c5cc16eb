/-
  straggleref08: step, Same.
-/
import Derived.Test.YtafgincpoahefaaDoorRef8s
import Derived.Deep.RegionHeld3
import Derived.Deep.DrawnRows
namespace Go.Proofs.YtafgincpoahefaaDoor
open Go.RowKit
attribute [local go_sem ↓] Go.wp_at_zero Go.wp_at_succ

theorem st_eq {a b : St} : a = b ↔ a.neg = b.neg ∧ a.kind = b.kind ∧ a.min = b.min ∧ a.max = b.max ∧ a.strict = b.strict ∧ a.cmps = b.cmps := by
  cases a; cases b; simp
set_option maxRecDepth 100000 in
set_option maxHeartbeats 4000000 in
theorem ref8_step (a b : St) (va vb : Value) (w : World) (ha : CmpsV w va a.cmps) (hb : CmpsV w vb b.cmps) :
    Calls Tryd.prog 77 #[stA a va, stA b vb] w fun e w' => e = .returned (.bool (decide (a = b))) ∧ Below w.heap.size w w' := by
  obtain ⟨ca, cc, rfl, h1, h2, _, h3⟩ := ha
  obtain ⟨da, dc, rfl, g1, g2, _, g3⟩ := hb
  have hno : ¬ (a.neg = b.neg ∧ a.kind = b.kind ∧ a.min = b.min ∧ a.max = b.max ∧ a.strict = b.strict ∧ a.cmps.length = b.cmps.length) → decide (a = b) = false := fun h => by
    rw [decide_eq_false_iff_not]
    rintro rfl
    exact h ⟨rfl, rfl, rfl, rfl, rfl, rfl⟩
  have hyes : a.neg = b.neg → a.kind = b.kind → a.min = b.min → a.max = b.max → a.strict = b.strict → decide (a = b) = decide (a.cmps = b.cmps) := fun e1 e2 e3 e4 e5 => by
    refine decide_eq_decide.2 ?_
    rw [st_eq]
    simp [e1, e2, e3, e4, e5]
  obtain ⟨n1, k1, i1, x1, s1, cs⟩ := a
  obtain ⟨n2, k2, i2, x2, s2, ds⟩ := b
  simp only [stA] at *
  generalize decide ((⟨n1, k1, i1, x1, s1, cs⟩ : St) = ⟨n2, k2, i2, x2, s2, ds⟩) = R at *
  obtain ⟨m, hm⟩ : ∃ m, cs.length = m := ⟨_, rfl⟩
  obtain ⟨m', hm'⟩ : ∃ m', ds.length = m' := ⟨_, rfl⟩
  rw [hm, hm'] at hno
  rw [hm] at h1 h2 ⊢
  rw [hm'] at g1 g2 ⊢
  have hbl := ((Below.refl w.heap.size w).alloc (Nat.le_refl _) (.cells #[.bool n1, .int .i64 k1, .int .i64 i1, .int .i64 x1, .bool s1, .slice ca m cc] 27)).alloc (by simp) (.cells #[.bool n2, .int .i64 k2, .int .i64 i2, .int .i64 x2, .bool s2, .slice da m' dc] 27)
  have HBL := Lib.hid hbl; clear hbl
  by_cases e1 : n1 = n2
  rotate_left
  · have hr := hno (fun h => e1 h.1)
    rw [hr]
    clear hno hyes h3 g3 hm hm' hr
    have t1 : (n1 == n2) = false := by simpa using e1
    cases n1 <;> cases n2 <;> first | exact absurd rfl e1 | skip
    all_goals
      go_enter Tryd.func77, Tryd.ntmps77
      go_wp2_with fail
      go_ret
      exact ⟨rfl, HBL.out⟩
  subst e1
  by_cases e2 : k1 = k2
  rotate_left
  · have hr := hno (fun h => e2 h.2.1)
    rw [hr]
    clear hno hyes h3 g3 hm hm' hr
    have t2 : (k1 != k2) = true := by simpa using e2
    cases n1
    all_goals
      go_enter Tryd.func77, Tryd.ntmps77
      go_wp2_with fail
      go_ret
      exact ⟨rfl, HBL.out⟩
  subst e2
  by_cases e3 : i1 = i2
  rotate_left
  · have hr := hno (fun h => e3 h.2.2.1)
    rw [hr]
    clear hno hyes h3 g3 hm hm' hr
    have t2 : (i1 != i2) = true := by simpa using e3
    cases n1
    all_goals
      go_enter Tryd.func77, Tryd.ntmps77
      go_wp2_with fail
      go_ret
      exact ⟨rfl, HBL.out⟩
  subst e3
  by_cases e4 : x1 = x2
  rotate_left
  · have hr := hno (fun h => e4 h.2.2.2.1)
    rw [hr]
    clear hno hyes h3 g3 hm hm' hr
    have t2 : (x1 != x2) = true := by simpa using e4
    cases n1
    all_goals
      go_enter Tryd.func77, Tryd.ntmps77
      go_wp2_with fail
      go_ret
      exact ⟨rfl, HBL.out⟩
  subst e4
  by_cases e5 : s1 = s2
  rotate_left
  · have hr := hno (fun h => e5 h.2.2.2.2.1)
    rw [hr]
    clear hno hyes h3 g3 hm hm' hr
    cases n1 <;> cases s1 <;> cases s2 <;> first | exact absurd rfl e5 | skip
    all_goals
      go_enter Tryd.func77, Tryd.ntmps77
      go_wp2_with fail
      go_ret
      exact ⟨rfl, HBL.out⟩
  subst e5
  by_cases e6 : m = m'
  rotate_left
  · have hr := hno (fun h => e6 h.2.2.2.2.2)
    rw [hr]
    clear hno hyes h3 g3 hm hm' hr
    have t2 : ((m : Int) == (m' : Int)) = false := by simp only [beq_eq_false_iff_ne]; omega
    have t3 : ((m : Int) != (m' : Int)) = true := by simp only [bne, t2]; rfl
    cases n1 <;> cases s1
    all_goals
      go_enter Tryd.func77, Tryd.ntmps77
      go_wp2_with fail
      go_ret
      exact ⟨rfl, HBL.out⟩
  subst e6
  rw [hyes rfl rfl rfl rfl rfl]
  exact ref8_cmps_loop n1 k1 i1 x1 s1 cs ds ca da cc dc m hm hm' h2 w h3 g3 h1 g1

theorem pt_eq {a b : Pt} : a = b ↔ a.steps = b.steps ∧ a.window = b.window := by
  cases a; cases b; simp
set_option maxRecDepth 100000 in
set_option maxHeartbeats 4000000 in
theorem ref8_Same (p q : Pt) (vp vq : Value) (w : World) (hp : PatV w vp p) (hq : PatV w vq q) :
    Calls Tryd.prog 37 #[vp, vq] w fun e w' => e = .returned (.bool (decide (p = q))) ∧ Below w.heap.size w w' := by
  obtain ⟨_, rfl, ca, cc, rfl, h1, h2, _, h3⟩ := hp
  obtain ⟨_, rfl, da, dc, rfl, g1, g2, _, g3⟩ := hq
  have hno1 : p.steps.length ≠ q.steps.length → decide (p = q) = false := fun h => by
    rw [decide_eq_false_iff_not]; rintro rfl; exact h rfl
  have hno2 : p.window ≠ q.window → decide (p = q) = false := fun h => by
    rw [decide_eq_false_iff_not]; rintro rfl; exact h rfl
  have hyes : p.window = q.window → p.steps.take p.steps.length = q.steps.take p.steps.length → p.steps.length = q.steps.length → decide (p = q) = true := fun e h hl => by
    rw [List.take_of_length_le (Nat.le_refl _), List.take_of_length_le (by omega)] at h
    rw [decide_eq_true_iff, pt_eq]; exact ⟨h, e⟩
  have hno : ∀ (k : Nat) (x y : St), p.steps[k]? = some x → q.steps[k]? = some y → decide (x = y) = false → decide (p = q) = false := fun k x y h1 h2 h3 => by
    rw [decide_eq_false_iff_not] at h3 ⊢
    rintro rfl
    rw [h1] at h2
    exact h3 (Option.some.inj h2)
  have key : ∀ (wr : World) (k : Nat), Below w.heap.size w wr → k < p.steps.length → k < q.steps.length → ∃ b off b2 off2 s t xa xc ya yc, ca = some ⟨b, off, none⟩ ∧ da = some ⟨b2, off2, none⟩ ∧ p.steps[k]? = some s ∧ q.steps[k]? = some t ∧
      (∀ W, Below w.heap.size w W → Calls Tryd.prog 77 #[stA s (.slice xa s.cmps.length xc), stA t (.slice ya t.cmps.length yc)] W fun e w' => e = .returned (.bool (decide (s = t))) ∧ Below W.heap.size W w') ∧
      (wr.cell? ⟨b, off + k * 6, none⟩ = some (.bool s.neg) ∧ wr.cell? ⟨b, off + k * 6 + 1, none⟩ = some (.int .i64 s.kind) ∧ wr.cell? ⟨b, off + k * 6 + 2, none⟩ = some (.int .i64 s.min) ∧
      wr.cell? ⟨b, off + k * 6 + 3, none⟩ = some (.int .i64 s.max) ∧ wr.cell? ⟨b, off + k * 6 + 4, none⟩ = some (.bool s.strict) ∧ wr.cell? ⟨b, off + k * 6 + 5, none⟩ = some (.slice xa s.cmps.length xc)) ∧
      (wr.cell? ⟨b2, off2 + k * 6, none⟩ = some (.bool t.neg) ∧ wr.cell? ⟨b2, off2 + k * 6 + 1, none⟩ = some (.int .i64 t.kind) ∧ wr.cell? ⟨b2, off2 + k * 6 + 2, none⟩ = some (.int .i64 t.min) ∧
      wr.cell? ⟨b2, off2 + k * 6 + 3, none⟩ = some (.int .i64 t.max) ∧ wr.cell? ⟨b2, off2 + k * 6 + 4, none⟩ = some (.bool t.strict) ∧ wr.cell? ⟨b2, off2 + k * 6 + 5, none⟩ = some (.slice ya t.cmps.length yc)) := by
    intro wr k hb hk hk'
    obtain ⟨b, off, xa, xc, e, ⟨k0, k1, k2, k3, k4, k5⟩, x1, x2, x3, x4⟩ := h3.get k hk
    obtain ⟨b2, off2, ya, yc, e2, ⟨j0, j1, j2, j3, j4, j5⟩, y1, y2, y3, y4⟩ := g3.get k hk'
    have c := fun {a : Addr} {v : Value} (h : w.cell? a = some v) => cell_mono hb (Nat.le_refl _) h
    refine ⟨b, off, b2, off2, _, _, xa, xc, ya, yc, e, e2, List.getElem?_eq_getElem hk, List.getElem?_eq_getElem hk', fun W hW => ?_, ⟨c k0, c k1, c k2, c k3, c k4, c k5⟩, c j0, c j1, c j2, c j3, c j4, c j5⟩
    exact ref8_step _ _ _ _ W (CmpsV.mono hW (Nat.le_refl _) ⟨xa, xc, rfl, x1, x2, x3, x4⟩) (CmpsV.mono hW (Nat.le_refl _) ⟨ya, yc, rfl, y1, y2, y3, y4⟩)
  have z0 := (Holds.fresh w 24 #[.slice ca p.steps.length cc, .int .i64 p.window]).alloc (.cells #[.slice da q.steps.length dc, .int .i64 q.window] 24)
  have z1 := Holds.fresh' (w := w.alloc (.cells #[.slice ca p.steps.length cc, .int .i64 p.window] 24)) (b := w.heap.size + 1) (by simp) 24 #[.slice da q.steps.length dc, .int .i64 q.window]
  have hb0 := ((Below.refl w.heap.size w).alloc (Nat.le_refl _) (.cells #[.slice ca p.steps.length cc, .int .i64 p.window] 24)).alloc (by simp) (.cells #[.slice da q.steps.length dc, .int .i64 q.window] 24)
  generalize decide (p = q) = R at *
  obtain ⟨ss, pw⟩ := p
  obtain ⟨ts, qw⟩ := q
  simp only at *
  obtain ⟨m, hm⟩ : ∃ m, ss.length = m := ⟨_, rfl⟩
  obtain ⟨m', hm'⟩ : ∃ m', ts.length = m' := ⟨_, rfl⟩
  rw [hm, hm'] at hno1 hyes key z0 z1 hb0
  rw [hm] at h1 h2 ⊢
  rw [hm'] at g1 g2 ⊢
  clear hm hm' h3 g3
  have HB0 := Lib.hid hb0; clear hb0
  have Z0 := Lib.hid z0; clear z0
  have Z1 := Lib.hid z1; clear z1
  have HK := Lib.hid key; clear key
  have HN := Lib.hid hno; clear hno
  have HY := Lib.hid hyes; clear hyes
  by_cases e1 : m = m'
  rotate_left
  · have hr := hno1 e1
    rw [hr]
    clear hno1 hno2 hr HN HY HK
    have t2 : ((m : Int) == (m' : Int)) = false := by simp only [beq_eq_false_iff_ne]; omega
    have t3 : ((m : Int) != (m' : Int)) = true := by simp only [bne, t2]; rfl
    go_enter Tryd.func37, Tryd.ntmps37
    go_wp2_with fail
    go_ret
    exact ⟨rfl, HB0.out⟩
  subst e1
  by_cases e2 : pw = qw
  rotate_left
  · have hr := hno2 e2
    rw [hr]
    clear hno1 hno2 hr HN HY HK
    have t2 : (pw != qw) = true := by simpa using e2
    go_enter Tryd.func37, Tryd.ntmps37
    go_wp2_with fail
    go_ret
    exact ⟨rfl, HB0.out⟩
  subst e2
  clear hno1 hno2
  go_enter Tryd.func37, Tryd.ntmps37
  go_wp2_with fail
  generalize (w.alloc (.cells #[.slice ca m cc, .int .i64 pw] 24)).alloc (.cells #[.slice da m dc, .int .i64 pw] 24) = W at *
  go_loopw [5] (fun i wr => ∃ (k : Nat), k ≤ m ∧ i = .int .i64 k ∧ Hid (ss.take k = ts.take k) ∧ Below W.heap.size W wr) (fun i _ => m - (intOf i).toNat)
  case atStart => exact ⟨0, Nat.zero_le _, rfl, Lib.hid (by simp), Below.refl _ _⟩
  case round =>
    obtain ⟨k, hk, rfl, HT, hb⟩ := hrel
    have y0 : wr.cell? ⟨w.heap.size, 0, none⟩ = some (.slice ca m cc) := (Z0.out.later hb).cell 0
    have y1 : wr.cell? ⟨w.heap.size + 1, 0, none⟩ = some (.slice da m dc) := (Z1.out.later hb).cell 0
    have HBR := Lib.hid (HB0.out.trans (hb.mono HB0.out.size))
    by_cases hlt : k < m
    · obtain ⟨b, off, b2, off2, s, t, xa, xc, ya, yc, rfl, rfl, hs, ht, hcall, ⟨p0, p1, p2, p3, p4, p5⟩, ⟨q0, q1, q2, q3, q4, q5⟩⟩ := HK.out wr k HBR.out hlt hlt
      have hnk := HN.out k s t hs ht
      have hyk : decide (s = t) = true → ss.take (k + 1) = ts.take (k + 1) := fun e => by
        have e' : s = t := by simpa using e
        subst e'
        exact ref8_take HT.out hs ht
      obtain ⟨n1, k1, i1, x1, s1, cs⟩ := s
      obtain ⟨n2, k2, i2, x2, s2, ds⟩ := t
      simp only [stA] at *
      have hcd := hcall wr.drew (HBR.out.trans (below_drewN _ wr 1))
      clear hs ht hcall
      generalize decide ((⟨n1, k1, i1, x1, s1, cs⟩ : St) = ⟨n2, k2, i2, x2, s2, ds⟩) = r at *
      generalize cs.length = u1 at *
      generalize ds.length = u2 at *
      have HC := Lib.hid hcd; clear hcd
      have HNK := Lib.hid hnk; clear hnk
      have HYK := Lib.hid hyk; clear hyk
      cases r
      · have HF := Lib.hid (HNK.out rfl)
        clear HNK HYK
        have hi1 : (0 : Int) ≤ (k : Int) := by omega
        have hi2 : (k : Int) < (m : Int) := by omega
        clear HN HY HT Z0 Z1
        go_wp2_with fail
        go_region_held3 (fun w' => w'.cell? ⟨w.heap.size, 0, none⟩ = some (.slice (some ⟨b, off, none⟩) m cc) ∧ w'.cell? ⟨w.heap.size + 1, 0, none⟩ = some (.slice (some ⟨b2, off2, none⟩) m dc) ∧ w'.cell? ⟨b, off + k * 6, none⟩ = some (.bool n1) ∧ w'.cell? ⟨b, off + k * 6 + 1, none⟩ = some (.int .i64 k1) ∧ w'.cell? ⟨b, off + k * 6 + 2, none⟩ = some (.int .i64 i1) ∧ w'.cell? ⟨b, off + k * 6 + 3, none⟩ = some (.int .i64 x1) ∧ w'.cell? ⟨b, off + k * 6 + 4, none⟩ = some (.bool s1) ∧ w'.cell? ⟨b, off + k * 6 + 5, none⟩ = some (.slice xa u1 xc) ∧ w'.cell? ⟨b2, off2 + k * 6, none⟩ = some (.bool n2) ∧ w'.cell? ⟨b2, off2 + k * 6 + 1, none⟩ = some (.int .i64 k2) ∧ w'.cell? ⟨b2, off2 + k * 6 + 2, none⟩ = some (.int .i64 i2) ∧ w'.cell? ⟨b2, off2 + k * 6 + 3, none⟩ = some (.int .i64 x2) ∧ w'.cell? ⟨b2, off2 + k * 6 + 4, none⟩ = some (.bool s2) ∧ w'.cell? ⟨b2, off2 + k * 6 + 5, none⟩ = some (.slice ya u2 yc))
          (first | exact ⟨y0, y1, p0, p1, p2, p3, p4, p5, q0, q1, q2, q3, q4, q5⟩ | exact ⟨cell_mono hb1 (Nat.le_refl _) y0, cell_mono hb1 (Nat.le_refl _) y1, cell_mono hb1 (Nat.le_refl _) p0, cell_mono hb1 (Nat.le_refl _) p1, cell_mono hb1 (Nat.le_refl _) p2, cell_mono hb1 (Nat.le_refl _) p3, cell_mono hb1 (Nat.le_refl _) p4, cell_mono hb1 (Nat.le_refl _) p5, cell_mono hb1 (Nat.le_refl _) q0, cell_mono hb1 (Nat.le_refl _) q1, cell_mono hb1 (Nat.le_refl _) q2, cell_mono hb1 (Nat.le_refl _) q3, cell_mono hb1 (Nat.le_refl _) q4, cell_mono hb1 (Nat.le_refl _) q5⟩ | assumption)
          ((go_at_call 77; refine HC.out.mono ?_; rintro e w1 ⟨rfl, hb1⟩))
        go_wp2_with fail
        go_ret
        exact ⟨by rw [HF.out]; rfl, HBR.out.trans (((below_drewN _ wr 1).trans (hb1.mono (Nat.le_refl _))).mono HBR.out.size)⟩
      · have HF := Lib.hid (HYK.out rfl)
        clear HNK HYK
        have hi1 : (0 : Int) ≤ (k : Int) := by omega
        have hi2 : (k : Int) < (m : Int) := by omega
        clear HN HY HT
        go_wp2_with fail
        go_region_held3 (fun w' => w'.cell? ⟨w.heap.size, 0, none⟩ = some (.slice (some ⟨b, off, none⟩) m cc) ∧ w'.cell? ⟨w.heap.size + 1, 0, none⟩ = some (.slice (some ⟨b2, off2, none⟩) m dc) ∧ w'.cell? ⟨b, off + k * 6, none⟩ = some (.bool n1) ∧ w'.cell? ⟨b, off + k * 6 + 1, none⟩ = some (.int .i64 k1) ∧ w'.cell? ⟨b, off + k * 6 + 2, none⟩ = some (.int .i64 i1) ∧ w'.cell? ⟨b, off + k * 6 + 3, none⟩ = some (.int .i64 x1) ∧ w'.cell? ⟨b, off + k * 6 + 4, none⟩ = some (.bool s1) ∧ w'.cell? ⟨b, off + k * 6 + 5, none⟩ = some (.slice xa u1 xc) ∧ w'.cell? ⟨b2, off2 + k * 6, none⟩ = some (.bool n2) ∧ w'.cell? ⟨b2, off2 + k * 6 + 1, none⟩ = some (.int .i64 k2) ∧ w'.cell? ⟨b2, off2 + k * 6 + 2, none⟩ = some (.int .i64 i2) ∧ w'.cell? ⟨b2, off2 + k * 6 + 3, none⟩ = some (.int .i64 x2) ∧ w'.cell? ⟨b2, off2 + k * 6 + 4, none⟩ = some (.bool s2) ∧ w'.cell? ⟨b2, off2 + k * 6 + 5, none⟩ = some (.slice ya u2 yc))
          (first | exact ⟨y0, y1, p0, p1, p2, p3, p4, p5, q0, q1, q2, q3, q4, q5⟩ | exact ⟨cell_mono hb1 (Nat.le_refl _) y0, cell_mono hb1 (Nat.le_refl _) y1, cell_mono hb1 (Nat.le_refl _) p0, cell_mono hb1 (Nat.le_refl _) p1, cell_mono hb1 (Nat.le_refl _) p2, cell_mono hb1 (Nat.le_refl _) p3, cell_mono hb1 (Nat.le_refl _) p4, cell_mono hb1 (Nat.le_refl _) p5, cell_mono hb1 (Nat.le_refl _) q0, cell_mono hb1 (Nat.le_refl _) q1, cell_mono hb1 (Nat.le_refl _) q2, cell_mono hb1 (Nat.le_refl _) q3, cell_mono hb1 (Nat.le_refl _) q4, cell_mono hb1 (Nat.le_refl _) q5⟩ | assumption)
          ((go_at_call 77; refine HC.out.mono ?_; rintro e w1 ⟨rfl, hb1⟩))
        go_wp2_with fail
        go_roundw
        case rel => exact ⟨k + 1, by omega, by go_num, Lib.hid HF.out, hb.trans (((below_drewN _ wr 1).trans (hb1.mono (Nat.le_refl _))).mono hb.size)⟩
        case measure => simp [intOf]; omega
    · obtain rfl : k = m := by omega
      have HF := Lib.hid (HY.out trivial HT.out trivial)
      go_wp2_with fail
      go_ret
      exact ⟨by rw [HF.out]; rfl, HBR.out⟩
end Go.Proofs.YtafgincpoahefaaDoor
