/-
  parse: a term of names (kinds$1$1).
  parse: the terms of letters: a map of closures in memory (plain).
  parse: kinds.
  parse: term.
-/
import Derived.Test.YtafgincpoahefaaDoorPas4
import Derived.Deep.DeepCutAuto
import Derived.Maps.Ext
import Derived.Maps.RangeWalk
import Derived.Maps.OwnOps
import Derived.WideKeyEntry
namespace Go.Proofs.YtafgincpoahefaaDoor
open Go.RowKit
attribute [local go_sem] Oper.semAt_some

theorem RQ.bad {α : Type} {ts : List Tok} {pb blk off cap at0 : Nat} {r : Res α} {w w' : World} {enc : α → Value} {p : Int} (hg : w.grownBy w' (some pb)) (hr : r = .error p) : RQ ts pb blk off cap at0 r w enc (wrongAt p) w' :=
  ⟨hg, by subst hr; rfl⟩
theorem RQ.good {α : Type} {ts : List Tok} {pb blk off cap at0 at1 : Nat} {r : Res α} {w w' : World} {enc : α → Value} {v : α} (hg : w.grownBy w' (some pb)) (hr : r = .ok (v, ts.drop at1)) (hle : at0 ≤ at1) (hq : Q9 ts pb blk off cap at1 w') : RQ ts pb blk off cap at0 r w enc (.returned (enc v)) w' :=
  ⟨hg, by subst hr; exact ⟨rfl, at1, hle, rfl, hq⟩⟩
theorem Q9.far {ts : List Tok} {pb blk off cap at0 : Nat} {w : World} (h : Q9 ts pb blk off cap at0 w) {b i : Nat} (h1 : pb ≠ b) (h2 : blk ≠ b) (v : Value) : Q9 ts pb blk off cap at0 (w.setCell ⟨b, i, none⟩ v) :=
  h.grown (Lib.grownBy_setCell w b i v) (fun e => h1 (Option.some.inj e)) (fun e => h2 (Option.some.inj e))
/-- a parser, and a block of the call's own: what is told -/
structure K9 (w : World) (ts : List Tok) (pb blk off cap : Nat) (rt : TypeId) (rb : Nat) (rc : Array Value) (at0 : Nat) (W : World) : Prop where
  q : Q9 ts pb blk off cap at0 W
  r : Holds W rb rt rc
  g : w.grownBy W (some pb)
  n1 : pb < w.heap.size ∧ blk < w.heap.size
  n2 : w.heap.size ≤ rb
section
variable {w W W' : World} {ts : List Tok} {pb blk off cap rb at0 at1 : Nat} {rt : TypeId} {rc : Array Value}
theorem K9.move (h : K9 w ts pb blk off cap rt rb rc at0 W) (hq : Q9 ts pb blk off cap at1 W') (hg : W.grownBy W' (some pb)) : K9 w ts pb blk off cap rt rb rc at1 W' :=
  ⟨hq, h.r.grown hg (fun e => by have := Option.some.inj e; have := h.n1; have := h.n2; omega), h.g.trans hg, h.n1, h.n2⟩
theorem K9.setR (h : K9 w ts pb blk off cap rt rb rc at0 W) (i : Nat) (v : Value) : K9 w ts pb blk off cap rt rb (rc.setIfInBounds i v) at0 (W.setCell ⟨rb, i, none⟩ v) :=
  ⟨h.q.far (by have := h.n1; have := h.n2; omega) (by have := h.n1; have := h.n2; omega) v, h.r.set i v, grown_set_new h.g h.n2 v, h.n1, h.n2⟩
theorem K9.alloc (h : K9 w ts pb blk off cap rt rb rc at0 W) (o : Obj) : K9 w ts pb blk off cap rt rb rc at0 (W.alloc o) := h.move (h.q.alloc o) (World.grownBy_alloc _ _ _)
end
theorem Q9.pb_lt {ts : List Tok} {pb blk off cap at0 : Nat} {w : World} (h : Q9 ts pb blk off cap at0 w) : pb < w.heap.size ∧ blk < w.heap.size := by
  refine ⟨h.hold.size, ?_⟩
  obtain ⟨t0, _, _⟩ := h.tok (List.getElem?_eq_getElem h.lt)
  exact cell_lt t0
theorem K9.start {ts : List Tok} {pb blk off cap at0 : Nat} {w : World} (h : Q9 ts pb blk off cap at0 w) (rt : TypeId) (rc : Array Value) : K9 w ts pb blk off cap rt w.heap.size rc at0 (w.alloc (.cells rc rt)) :=
  ⟨h.alloc _, Holds.fresh _ _ _, World.grownBy_alloc _ _ _, h.pb_lt, Nat.le_refl _⟩

theorem pNamed_one {k : Int} (hk : (k == 5 || k == 6) = false) (l : List Tok) : pNamed k l = thenR (pSign 40 l) fun _ l => thenR (pTake 2 l) fun a l => thenR (pSign 41 l) fun _ l => thenR (pMore l) fun n l => .ok (⟨k, n, a, 0⟩, l) := by
  rw [pNamed_eq, hk]
  congr 1; funext _ l
  unfold pNames
  cases pTake 2 l with
  | error p => rfl
  | ok a => rfl
theorem pNamed_two {k : Int} (hk : (k == 5 || k == 6) = true) (l : List Tok) : pNamed k l = thenR (pSign 40 l) fun _ l => thenR (pTake 2 l) fun a l => thenR (pSign 44 l) fun _ l => thenR (pTake 2 l) fun b l => thenR (pSign 41 l) fun _ l => thenR (pMore l) fun n l => .ok (⟨k, n, a, b⟩, l) := by
  rw [pNamed_eq, hk]
  congr 1; funext _ l
  unfold pNames
  cases pTake 2 l with
  | error p => rfl
  | ok a =>
    obtain ⟨a, l⟩ := a
    simp only [thenR_ok, if_true]
    cases pSign 44 l with
    | error p => rfl
    | ok b =>
      obtain ⟨_, l⟩ := b
      simp only [thenR_ok]
      cases pTake 2 l with
      | error p => rfl
      | ok b => rfl
set_option maxRecDepth 100000 in
set_option maxHeartbeats 8000000 in
theorem parse_named (ts : List Tok) (pb blk off cap at0 : Nat) (w : World) (h : Q9 ts pb blk off cap at0 w) (k : Int) (two : Bool) (htwo : (k == 5 || k == 6) = two) (nm : Int) (hnm : nm = if two = true then 2 else 1) (kb nb : Nat) (tk tn : TypeId)
    (hk : Holds w kb tk #[.int .u8 k]) (hn : Holds w nb tn #[.int .i64 nm]) (hnb : nb ≠ pb) :
    Calls Tryd.prog 173 #[.pointer (some ⟨pb, 0, none⟩), .pointer (some ⟨kb, 0, none⟩), .pointer (some ⟨nb, 0, none⟩)] w (RQ ts pb blk off cap at0 (pNamed k (ts.drop at0)) w fun t => .agg #[.int .u8 t.kind, .int .i64 t.n, .int .i64 t.s, .int .i64 t.r]) := by
  have k0 := K9.start h 29 #[.int .u8 0, .int .i64 0, .int .i64 0, .int .i64 0]
  have kc : (w.alloc (.cells #[.int .u8 0, .int .i64 0, .int .i64 0, .int .i64 0] 29)).cell? ⟨kb, 0, none⟩ = some (.int .u8 k) := (hk.grown (World.grownBy_alloc _ _ none) (by simp)).cell 0
  have zf := k0.r.free
  have zl := k0.r.size
  have z0 : (w.alloc (.cells #[.int .u8 0, .int .i64 0, .int .i64 0, .int .i64 0] 29)).cell? ⟨w.heap.size, 0, none⟩ = some (.int .u8 0) := k0.r.cell 0
  have k1 := K9.start h 29 #[.int .u8 k, .int .i64 0, .int .i64 0, .int .i64 0]
  have c1 := parse_sign ts pb blk off cap at0 40 (by decide) { data := #[40] } rfl _ k1.q
  have hN : ∀ W : World, w.grownBy W (some pb) → W.cell? ⟨nb, 0, none⟩ = some (.int .i64 nm) := fun W g => (hn.grown g (fun e => hnb (Option.some.inj e))).cell 0
  have HN := Lib.hid hN
  have K1 := Lib.hid k1
  have C1 := Lib.hid c1
  have hpn : Hid (pNamed k (ts.drop at0) = thenR (pSign 40 (ts.drop at0)) fun _ l => thenR (pTake 2 l) fun a l => if two = true then thenR (pSign 44 l) fun _ l => thenR (pTake 2 l) fun b l => thenR (pSign 41 l) fun _ l => thenR (pMore l) fun n l => .ok (⟨k, n, a, b⟩, l) else thenR (pSign 41 l) fun _ l => thenR (pMore l) fun n l => .ok (⟨k, n, a, 0⟩, l)) := by
    cases two
    · exact Lib.hid (pNamed_one htwo _)
    · exact Lib.hid (pNamed_two htwo _)
  clear k0 k1 c1 h hk hn htwo hN
  go_enter Tryd.func173, Tryd.ntmps173
  go_wp2_with fail
  generalize w.alloc (.cells #[.int .u8 k, .int .i64 0, .int .i64 0, .int .i64 0] 29) = W1 at *
  generalize w.heap.size = rb at *
  rcases r1 : pSign 40 (ts.drop at0) with p | ⟨v1, l1⟩
  · refine C1.out.mono ?_
    rintro e w1 h1
    obtain ⟨rfl, g⟩ := h1.err r1
    have hr := RQ.bad (ts := ts) (blk := blk) (off := off) (cap := cap) (at0 := at0) (enc := fun t : Tm => .agg #[.int .u8 t.kind, .int .i64 t.n, .int .i64 t.s, .int .i64 t.r]) (K1.out.g.trans g) (hpn.out.trans (by rw [r1]; rfl))
    unfold wrongAt at hr ⊢
    exact ⟨rfl, hr⟩
  have hp1 := hpn.out
  simp only [r1, thenR_ok] at hp1
  refine C1.out.mono ?_
  rintro e w1 h1
  obtain ⟨rfl, g1, at1, le1, rfl, q1⟩ := h1.ok r1
  have K2 := Lib.hid (K1.out.move q1 g1)
  have c2 := parse_take ts pb blk off cap at1 2 (by omega) (by omega) _ q1
  have C2 := Lib.hid c2
  have HP1 := Lib.hid hp1
  have LE1 := Lib.hid le1
  clear c2 g1 q1 h1 r1 hpn C1 hp1 le1 K1
  go_wp2_with fail
  rcases r2 : pTake 2 (ts.drop at1) with p | ⟨s, l2⟩
  · refine C2.out.mono ?_
    rintro e w2 h2
    obtain ⟨rfl, g⟩ := h2.err r2
    have hr := RQ.bad (ts := ts) (blk := blk) (off := off) (cap := cap) (at0 := at0) (enc := fun t : Tm => .agg #[.int .u8 t.kind, .int .i64 t.n, .int .i64 t.s, .int .i64 t.r]) (K2.out.g.trans g) (HP1.out.trans (by rw [r2]; rfl))
    unfold wrongAt at hr ⊢
    exact ⟨rfl, hr⟩
  have hp2 := HP1.out
  simp only [r2, thenR_ok] at hp2
  refine C2.out.mono ?_
  rintro e w2 h2
  obtain ⟨rfl, g2, at2, le2, rfl, q2⟩ := h2.ok r2
  have k3 := K2.out.move q2 g2
  have y2 : w2.cell? ⟨rb, 2, none⟩ = some (.int .i64 0) := k3.r.cell 2
  have yf := k3.r.free
  have yl := k3.r.size
  have K3 := Lib.hid (k3.setR 2 (.int .i64 s))
  have hnc := HN.out _ K3.out.g
  have HP2 := Lib.hid hp2
  have LE2 := Lib.hid (Nat.le_trans LE1.out le2)
  clear k3 g2 q2 h2 r2 HP1 C2 hp2 le2 K2 LE1
  go_upto_if 14 with (fail)
  generalize w2.setCell ⟨rb, 2, none⟩ (.int .i64 s) = W2 at *
  go_cut [] (fun wc => ∃ (b : Int) (at7 : Nat), K9 w ts pb blk off cap 29 rb #[.int .u8 k, .int .i64 0, .int .i64 s, .int .i64 b] at7 wc ∧ at0 ≤ at7 ∧ Hid (pNamed k (ts.drop at0) = thenR (pSign 41 (ts.drop at7)) fun _ l => thenR (pMore l) fun n l => .ok (⟨k, n, s, b⟩, l)))
  case first =>
    cases two
    · subst hnm
      go_wp2_with fail
      go_meet
      exact ⟨0, at2, K3.out, LE2.out, HP2⟩
    · subst hnm
      have hp := HP2.out
      simp only [if_true] at hp
      have HP := Lib.hid hp
      clear hp HP2
      have c3 := parse_sign ts pb blk off cap at2 44 (by decide) { data := #[44] } rfl _ K3.out.q
      have C3 := Lib.hid c3
      clear c3
      go_wp2_with fail
      rcases r3 : pSign 44 (ts.drop at2) with p | ⟨v3, l3⟩
      · refine C3.out.mono ?_
        rintro e w3 h3
        obtain ⟨rfl, g⟩ := h3.err r3
        have hr := RQ.bad (ts := ts) (blk := blk) (off := off) (cap := cap) (at0 := at0) (enc := fun t : Tm => .agg #[.int .u8 t.kind, .int .i64 t.n, .int .i64 t.s, .int .i64 t.r]) (K3.out.g.trans g) (HP.out.trans (by rw [r3]; rfl))
        unfold wrongAt at hr ⊢
        exact ⟨rfl, hr⟩
      have hp3 := HP.out
      simp only [r3, thenR_ok] at hp3
      refine C3.out.mono ?_
      rintro e w3 h3
      obtain ⟨rfl, g3, at3, le3, rfl, q3⟩ := h3.ok r3
      have K4 := Lib.hid (K3.out.move q3 g3)
      have c4 := parse_take ts pb blk off cap at3 2 (by omega) (by omega) _ q3
      have C4 := Lib.hid c4
      have HP3 := Lib.hid hp3
      have LE3 := Lib.hid (Nat.le_trans LE2.out le3)
      clear c4 g3 q3 h3 r3 C3 hp3 le3
      go_wp2_with fail
      rcases r4 : pTake 2 (ts.drop at3) with p | ⟨b, l4⟩
      · refine C4.out.mono ?_
        rintro e w4 h4
        obtain ⟨rfl, g⟩ := h4.err r4
        have hr := RQ.bad (ts := ts) (blk := blk) (off := off) (cap := cap) (at0 := at0) (enc := fun t : Tm => .agg #[.int .u8 t.kind, .int .i64 t.n, .int .i64 t.s, .int .i64 t.r]) (K4.out.g.trans g) (HP3.out.trans (by rw [r4]; rfl))
        unfold wrongAt at hr ⊢
        exact ⟨rfl, hr⟩
      have hp4 := HP3.out
      simp only [r4, thenR_ok] at hp4
      refine C4.out.mono ?_
      rintro e w4 h4
      obtain ⟨rfl, g4, at4, le4, rfl, q4⟩ := h4.ok r4
      have k5 := K4.out.move q4 g4
      have x3 : w4.cell? ⟨rb, 3, none⟩ = some (.int .i64 0) := k5.r.cell 3
      have xf := k5.r.free
      have xl := k5.r.size
      have K5 := Lib.hid (k5.setR 3 (.int .i64 b))
      have HP4 := Lib.hid hp4
      have LE4 := Lib.hid (Nat.le_trans LE3.out le4)
      clear k5 g4 q4 h4 r4 C4 hp4 le4
      go_wp2_with fail
      go_meet
      exact ⟨b, at4, K5.out, LE4.out, HP4⟩
  case rest =>
    obtain ⟨b, at7, k7, le7, HP7⟩ := hcut
    have c7 := parse_sign ts pb blk off cap at7 41 (by decide) { data := #[41] } rfl _ k7.q
    have C7 := Lib.hid c7
    have K7 := Lib.hid k7
    have LE7 := Lib.hid le7
    clear c7 k7 le7 HP2 K3 LE2 hnc
    go_wp2_with fail
    rcases r7 : pSign 41 (ts.drop at7) with p | ⟨v7, l7⟩
    · refine C7.out.mono ?_
      rintro e w8 h8
      obtain ⟨rfl, g⟩ := h8.err r7
      have hr := RQ.bad (ts := ts) (blk := blk) (off := off) (cap := cap) (at0 := at0) (enc := fun t : Tm => .agg #[.int .u8 t.kind, .int .i64 t.n, .int .i64 t.s, .int .i64 t.r]) (K7.out.g.trans g) (HP7.out.trans (by rw [r7]; rfl))
      unfold wrongAt at hr ⊢
      exact ⟨rfl, hr⟩
    have hp8 := HP7.out
    simp only [r7, thenR_ok] at hp8
    refine C7.out.mono ?_
    rintro e w8 h8
    obtain ⟨rfl, g8, at8, le8, rfl, q8⟩ := h8.ok r7
    have K8 := Lib.hid (K7.out.move q8 g8)
    obtain ⟨t, ht⟩ : ∃ t, ts[at8]? = some t := ⟨_, List.getElem?_eq_getElem q8.lt⟩
    have c9 := parse_any ts pb blk off cap at8 { data := #[43, 45] } (by decide) (by decide) t ht _ q8
    have hm := pMore_any ht
    rw [hm] at hp8
    replace c9 : Calls Tryd.prog 124 #[.pointer (some ⟨pb, 0, none⟩), .string { data := #[43, 45] }] w8 fun e w' => e = .returned (.int .u8 (anyOf [43, 45] t)) ∧ w8.grownBy w' (some pb) ∧ Q9 ts pb blk off cap (if anyOf [43, 45] t = 0 then at8 else at8 + 1) w' := c9
    have C9 := Lib.hid c9
    have HP8 := Lib.hid hp8
    have LE8 := Lib.hid (Nat.le_trans LE7.out le8)
    clear c9 g8 q8 h8 r7 C7 hp8 le8 HP7 LE7 ht hm K7
    generalize anyOf [43, 45] t = c at *
    go_wp2_with fail
    refine C9.out.mono ?_
    rintro e w9 ⟨rfl, g9, q9⟩
    have k9 := K8.out.move q9 g9
    clear g9 q9 C9
    by_cases e0 : c = 0
    · subst e0
      have z0 : w9.cell? ⟨rb, 0, none⟩ = some (.int .u8 k) := k9.r.cell 0
      have z1 : w9.cell? ⟨rb, 1, none⟩ = some (.int .i64 0) := k9.r.cell 1
      have z2 : w9.cell? ⟨rb, 2, none⟩ = some (.int .i64 s) := k9.r.cell 2
      have z3 : w9.cell? ⟨rb, 3, none⟩ = some (.int .i64 b) := k9.r.cell 3
      have zf := k9.r.free
      have zl := k9.r.size
      have hp9 := HP8.out
      simp only [if_true, thenR_ok] at hp9
      have HP9 := Lib.hid hp9
      have KF := Lib.hid ((((k9.setR 0 (.int .u8 k)).setR 1 (.int .i64 0)).setR 2 (.int .i64 s)).setR 3 (.int .i64 b))
      clear k9 hp9
      go_wp2_with fail
      refine bodyPost_ret (results_one9 rfl _ _ rb 29 #[.int .u8 k, .int .i64 0, .int .i64 s, .int .i64 b] _ rfl KF.out.r Tryd.underlying29 rfl (by kernel_rfl)) rfl ?_
      exact RQ.good (enc := fun t : Tm => .agg #[.int .u8 t.kind, .int .i64 t.n, .int .i64 t.s, .int .i64 t.r]) (v := ⟨k, 0, s, b⟩) KF.out.g HP9.out LE8.out KF.out.q
    · have e1 : (c != 0) = true := by simpa using e0
      have hp9 := HP8.out
      simp only [if_neg e0] at hp9 k9
      have c10 := parse_signed ts pb blk off cap (at8 + 1) c _ k9.q
      have C10 := Lib.hid c10
      have HP9 := Lib.hid hp9
      have K9' := Lib.hid k9
      have E0 := Lib.hid e0
      clear c10 hp9 k9 e0 HP8
      go_wp2_with fail
      rcases r10 : pNum (c == 45) (ts.drop (at8 + 1)) with p | ⟨x, l10⟩
      · refine C10.out.mono ?_
        rintro e w10 h10
        obtain ⟨rfl, g⟩ := h10.err r10
        have hr := RQ.bad (ts := ts) (blk := blk) (off := off) (cap := cap) (at0 := at0) (enc := fun t : Tm => .agg #[.int .u8 t.kind, .int .i64 t.n, .int .i64 t.s, .int .i64 t.r]) (K9'.out.g.trans g) (HP9.out.trans (by rw [r10]; rfl))
        unfold wrongAt at hr ⊢
        exact ⟨rfl, hr⟩
      have hp10 := HP9.out
      simp only [r10, thenR_ok] at hp10
      refine C10.out.mono ?_
      rintro e w10 h10
      obtain ⟨rfl, g10, at10, le10, rfl, q10⟩ := h10.ok r10
      have k10 := K9'.out.move q10 g10
      have z0 : w10.cell? ⟨rb, 0, none⟩ = some (.int .u8 k) := k10.r.cell 0
      have z1 : w10.cell? ⟨rb, 1, none⟩ = some (.int .i64 0) := k10.r.cell 1
      have z2 : w10.cell? ⟨rb, 2, none⟩ = some (.int .i64 s) := k10.r.cell 2
      have z3 : w10.cell? ⟨rb, 3, none⟩ = some (.int .i64 b) := k10.r.cell 3
      have zf := k10.r.free
      have zl := k10.r.size
      have HP10 := Lib.hid hp10
      have LE10 := Lib.hid (show at0 ≤ at10 by have := LE8.out; omega)
      have KF := Lib.hid (((((k10.setR 1 (.int .i64 x)).setR 0 (.int .u8 k)).setR 1 (.int .i64 x)).setR 2 (.int .i64 s)).setR 3 (.int .i64 b))
      clear k10 hp10 g10 q10 h10 r10 C10 le10
      go_wp2_with fail
      refine bodyPost_ret (results_one9 rfl _ _ rb 29 #[.int .u8 k, .int .i64 x, .int .i64 s, .int .i64 b] _ rfl KF.out.r Tryd.underlying29 rfl (by kernel_rfl)) rfl ?_
      exact RQ.good (enc := fun t : Tm => .agg #[.int .u8 t.kind, .int .i64 t.n, .int .i64 t.s, .int .i64 t.r]) (v := ⟨k, x, s, b⟩) KF.out.g HP10.out LE10.out KF.out.q
end Go.Proofs.YtafgincpoahefaaDoor

namespace Go.Proofs.YtafgincpoahefaaDoor
open Go.RowKit Go.Maps Go.ChangeMaps
open Go.WideElems (Fit findIdx_born findIdx_arr modify_last set_self)

/-- a term's closure, by the blocks of its kind and of its names' number -/
abbrev clos (kb nb : Nat) : Value := .func (.func 173) #[] #[.pointer (some ⟨kb, 0, none⟩), .pointer (some ⟨nb, 0, none⟩)]
def pairD (kb nb : Nat) : DataW Unit := .slice [.lit (.int .i64 kb), .lit (.int .i64 nb)] []
theorem pairD_inj {a b c d : Nat} (h : pairD a b = pairD c d) : a = c ∧ b = d := by
  unfold pairD at h
  simp at h
  omega
open Classical in
noncomputable def closR (v : Value) : Option (DataW Unit × List MemPlace) :=
  if v = .nilFunc then some (.nil, []) else if h : ∃ p : Nat × Nat, v = clos p.1 p.2 then some (pairD h.choose.1 h.choose.2, []) else none
theorem closR_nil : closR .nilFunc = some (.nil, []) := by unfold closR; rw [if_pos rfl]
theorem closR_clos (kb nb : Nat) : closR (clos kb nb) = some (pairD kb nb, []) := by
  have hx : ∃ p : Nat × Nat, clos kb nb = clos p.1 p.2 := ⟨(kb, nb), rfl⟩
  unfold closR
  rw [if_neg (by simp), dif_pos hx]
  have h := hx.choose_spec
  generalize hx.choose = q at h
  simp at h
  rw [← h.1, ← h.2]
theorem closR_inv {v : Value} {d : DataW Unit} {ps : List MemPlace} (h : closR v = some (d, ps)) : (v = .nilFunc ∧ d = .nil) ∨ ∃ kb nb, v = clos kb nb ∧ d = pairD kb nb := by
  unfold closR at h
  split at h
  · rename_i e
    simp at h
    exact .inl ⟨e, h.1.symm⟩
  · split at h
    · rename_i e
      simp at h
      exact .inr ⟨_, _, e.choose_spec, h.1.symm⟩
    · cases h

/-- what the map bears at a letter -/
def KAt (W : World) (B : Nat) (D : DataW Unit) (n k : Int) (two : Bool) : Prop :=
  if k = 0 then D.atKey (.int .i64 n) .nil = .nil else
    ∃ kb nb : Nat, B ≤ kb ∧ B ≤ nb ∧ D.atKey (.int .i64 n) .nil = pairD kb nb ∧ Holds W kb 5 #[.int .u8 k] ∧ Holds W nb 3 #[.int .i64 (if two = true then 2 else 1)]
theorem KAt.kept {W W' : World} {B : Nat} {D : DataW Unit} {n k : Int} {two : Bool} {row : Option Nat} (h : KAt W B D n k two) (hg : W.grownBy W' row) (hrow : ∀ j, row = some j → j < B) : KAt W' B D n k two := by
  unfold KAt at *
  split
  · rename_i e; rw [if_pos e] at h; exact h
  · rename_i e
    rw [if_neg e] at h
    obtain ⟨kb, nb, h1, h2, h3, h4, h5⟩ := h
    exact ⟨kb, nb, h1, h2, h3, h4.grown hg (fun e => by have := hrow kb e.symm; omega), h5.grown hg (fun e => by have := hrow nb e.symm; omega)⟩
theorem KAt.other {W : World} {B : Nat} {D : DataW Unit} {n m k : Int} {two : Bool} (h : KAt W B D n k two) (hne : n ≠ m) (d : DataW Unit) : KAt W B (D.put (.int .i64 m) d) n k two := by
  unfold KAt at *
  have e : (D.put (.int .i64 m) d).atKey (.int .i64 n) .nil = D.atKey (.int .i64 n) .nil := atKey_put_other (fun e => hne (by simpa using e)) d .nil
  rw [e]
  exact h
theorem KAt.same {W : World} {B : Nat} {D : DataW Unit} (hD : IsMap D) {n k : Int} (hk : WideAt.IsKeyLit (.int .i64 n)) (hk0 : k ≠ 0) {two : Bool} {kb nb : Nat} (h1 : B ≤ kb) (h2 : B ≤ nb) (h4 : Holds W kb 5 #[.int .u8 k]) (h5 : Holds W nb 3 #[.int .i64 (if two = true then 2 else 1)]) :
    KAt W B (D.put (.int .i64 n) (pairD kb nb)) n k two := by
  unfold KAt
  rw [if_neg hk0]
  exact ⟨kb, nb, h1, h2, atKey_put_same hD hk _ _, h4, h5⟩
def kind4 (n : Int) : Int := if n = 19 then 1 else if n = 23 then 2 else if n = 24 then 3 else if n = 13 then 4 else 0
def leftK (left : Lit → Bool) (n : Int) : Int := if left (.int .u8 (n + 97)) = true then 0 else kind4 n
def D4 : DataW Unit := ((((DataW.map []).put (.int .u8 116) (.lit (.int .u8 1))).put (.int .u8 120) (.lit (.int .u8 2))).put (.int .u8 121) (.lit (.int .u8 3))).put (.int .u8 110) (.lit (.int .u8 4))
theorem D4_has : has D4 (.int .u8 116) = true ∧ has D4 (.int .u8 120) = true ∧ has D4 (.int .u8 121) = true ∧ has D4 (.int .u8 110) = true := by decide
theorem leftK_start (n : Int) : leftK (has D4) n = 0 := by
  obtain ⟨h1, h2, h3, h4⟩ := D4_has
  unfold leftK kind4
  by_cases e1 : n = 19
  · subst e1; exact if_pos h1
  by_cases e2 : n = 23
  · subst e2; exact if_pos h2
  by_cases e3 : n = 24
  · subst e3; exact if_pos h3
  by_cases e4 : n = 13
  · subst e4; exact if_pos h4
  rw [if_neg e1, if_neg e2, if_neg e3, if_neg e4]
  split <;> rfl
theorem leftK_end {left : Lit → Bool} (h : ∀ kl, left kl = false) (n : Int) : leftK left n = kind4 n := by
  unfold leftK; rw [h]; rfl
theorem D4_hat {x c : Int} (hat : ∀ zd, D4.atKey (.int .u8 x) zd = .lit (.int .u8 c)) : kind4 (x - 97) = c ∧ c ≠ 0 ∧ 97 ≤ x ∧ x ≤ 122 := by
  by_cases e1 : x = 110
  · subst e1
    have := hat .nil
    simp [D4, DataW.atKey, DataW.put, DataW.insert, Lit.sameKey, Lit.before] at this
    subst this
    decide
  by_cases e2 : x = 121
  · subst e2
    have := hat .nil
    simp [D4, DataW.atKey, DataW.put, DataW.insert, Lit.sameKey, Lit.before] at this
    subst this
    decide
  by_cases e3 : x = 120
  · subst e3
    have := hat .nil
    simp [D4, DataW.atKey, DataW.put, DataW.insert, Lit.sameKey, Lit.before] at this
    subst this
    decide
  by_cases e4 : x = 116
  · subst e4
    have := hat .nil
    simp [D4, DataW.atKey, DataW.put, DataW.insert, Lit.sameKey, Lit.before] at this
    subst this
    decide
  have := hat .nil
  rw [D4, atKey_put_other (by simpa using e1), atKey_put_other (by simpa using e2), atKey_put_other (by simpa using e3), atKey_put_other (by simpa using e4)] at this
  cases this
theorem leftK_same {left : Lit → Bool} (x : Int) : leftK (fun z => left z && !z.sameKey (.int .u8 x)) (x - 97) = kind4 (x - 97) := by
  unfold leftK
  rw [show x - 97 + 97 = x by omega]
  simp [Lit.sameKey]
theorem leftK_other {left : Lit → Bool} {x n : Int} (h : n ≠ x - 97) : leftK (fun z => left z && !z.sameKey (.int .u8 x)) n = leftK left n := by
  unfold leftK
  have : (Lit.int .u8 (n + 97)).sameKey (.int .u8 x) = false := sameKey_ne (fun e => h (by simp at e; omega))
  simp only [this, Bool.not_false, Bool.and_true]
theorem kindOf_4 (n : Int) : kindOf n = if n = 3 then 5 else if n = 2 then 6 else kind4 n := by
  unfold kindOf kind4
  by_cases e1 : n = 3
  · subst e1; rfl
  by_cases e2 : n = 2
  · subst e2; rfl
  simp only [if_neg e1, if_neg e2]
theorem kind4_lt (n : Int) : (kind4 n == 5 || kind4 n == 6) = false := by
  unfold kind4
  repeat' split
  all_goals rfl
/-- the map of closures in memory, all from block B on -/
def Kinds (W : World) (B b : Nat) : Prop := B ≤ b ∧ ∃ n D, W.ownsMap Tryd.prog 3 closR b n D ∧ ∀ i, KAt W B D i (kindOf i) (kindOf i == 5 || kindOf i == 6)
theorem Kinds.kept {W W' : World} {B b : Nat} {row : Option Nat} (h : Kinds W B b) (hg : W.grownBy W' row) (hrow : ∀ j, row = some j → j < B) : Kinds W' B b := by
  obtain ⟨h0, n, D, h1, h2⟩ := h
  exact ⟨h0, n, D, h1.kept hg (fun e => by have := hrow b e.symm; omega), fun i => (h2 i).kept hg hrow⟩

section
variable {H : Type} {P : Program} {w : World} {t k e : TypeId} {R : Value → Option (DataW H × List MemPlace)} {b n : Nat} {D : DataW H}
theorem setBlock_twice (w : World) (b : Nat) (o o' : Obj) : setBlock (setBlock w b o) b o' = setBlock w b o' := by
  simp [setBlock]
/-- an entry's place is made, then filled: as if it were stored at once -/
theorem entry_store (K : Keyed P k) (ht : P.underlying t = some (.map k e)) {z : Value} (hz : ∀ u : World, (zeroValue e).run P u = .ok z u) {es : Array MapEntry} {clock : Nat} (hb : w.heap[b]? = some (.map es clock)) (F : Fit P k R es clock)
    {key : Value} {kl : Lit} (hkey : keyOf P k key = some kl) (val : Value) :
    ∃ (v0 : Value) (st : Nat) (w1 w2 : World), (Instr.mapEntry t (.map (some b)) key).run P w = .ok (.tuple #[v0, .int .i64 st]) w1 ∧ (Instr.entryStore t (.map (some b)) (.int .i64 st) val).run P w1 = .ok () w2 ∧
      (Instr.mapUpdate t (.map (some b)) key val).run P w = .ok () w2 := by
  obtain ⟨s1, s2, _⟩ := F.stamped
  rcases K.find w hkey es.toList F.keys with ⟨h1, h2⟩ | ⟨j, e0, h1, h2, h3⟩
  · have hb1 : (setBlock w b (.map (es.push ⟨key, z, clock⟩) (clock + 1))).heap[b]? = some (.map (es.push ⟨key, z, clock⟩) (clock + 1)) := heap_setBlock_same hb _
    have hidx : (es.push ⟨key, z, clock⟩).findIdx? (fun e => ((e.born : Nat) : Int) == ((clock : Nat) : Int)) = some es.size := by
      rw [findIdx_arr]
      refine findIdx_born (l := (es.push ⟨key, z, clock⟩).toList) (j := es.size) (e0 := ⟨key, z, clock⟩) ?_ (by simp)
      simp only [Array.toList_push, List.map_append, List.map_cons, List.map_nil]
      refine List.nodup_append.2 ⟨s2, by simp, fun a ha c hc e1 => ?_⟩
      simp only [List.mem_singleton] at hc
      obtain ⟨x, hx, rfl⟩ := List.mem_map.1 ha
      have := s1 x hx
      omega
    have hmod : (es.push ⟨key, z, clock⟩).modify es.size (fun e => { e with val := val }) = es.push ⟨key, val, clock⟩ := by
      apply Array.ext'
      rw [Array.toList_modify, Array.toList_push, Array.toList_push, ← Array.length_toList, modify_last]
    refine ⟨z, clock, setBlock w b (.map (es.push ⟨key, z, clock⟩) (clock + 1)), setBlock w b (.map (es.push ⟨key, val, clock⟩) (clock + 1)), ?_, ?_, ?_⟩
    · simp [Instr.mapEntry, run_underlying ht, MapKept.run_getObj_map hb, K.check w false hkey, h1, hz, MapKept.run_setObj_map _ hb, Result.andThen, setBlock, goInt]
    · rw [← setBlock_twice w b (.map (es.push ⟨key, z, clock⟩) (clock + 1)) (.map (es.push ⟨key, val, clock⟩) (clock + 1))]
      generalize setBlock w b (.map (es.push ⟨key, z, clock⟩) (clock + 1)) = W at *
      simp [Instr.entryStore, MapKept.run_getObj_map hb1, asInt, asIntOf, hidx, hmod, MapKept.run_setObj_map _ hb1, Result.andThen, setBlock]
    · simp [Instr.mapUpdate, run_underlying ht, MapKept.run_getObj_map hb, K.check w false hkey, h1, MapKept.run_setObj_map _ hb, Result.andThen, setBlock]
  · have hj : es[j]? = some e0 := by simpa using h2
    have hsame : es.modify j (fun e => { e with key := key }) = es := by
      apply Array.ext'
      rw [Array.toList_modify, modify_eq_set _ _ _ _ h2, show ({ e0 with key := key } : MapEntry) = e0 by rw [← h3]]
      exact set_self _ _ _ h2
    have hidx : es.findIdx? (fun e => ((e.born : Nat) : Int) == ((e0.born : Nat) : Int)) = some j := by
      rw [findIdx_arr]
      exact findIdx_born s2 h2
    have hmod : es.modify j (fun e => { e with val := val }) = es.modify j (fun e' => { e' with key := key, val := val }) := by
      apply Array.ext'
      rw [Array.toList_modify, Array.toList_modify, modify_eq_set _ _ _ _ h2, modify_eq_set _ _ _ _ h2, ← h3]
    have hs0 : setBlock w b (.map es clock) = w := by
      have hlt := (Array.getElem?_eq_some_iff.1 hb).1
      have he := (Array.getElem?_eq_some_iff.1 hb).2
      have : w.heap.setIfInBounds b (.map es clock) = w.heap := by
        apply Array.ext'
        rw [Array.toList_setIfInBounds]
        exact set_self _ _ _ (by simpa using hb)
      unfold setBlock
      rw [this]
    refine ⟨e0.val, e0.born, w, setBlock w b (.map (es.modify j (fun e' => { e' with key := key, val := val })) clock), ?_, ?_, ?_⟩
    · rw [← hs0]
      simp [Instr.mapEntry, run_underlying ht, hs0, MapKept.run_getObj_map hb, K.check w false hkey, h1, hj, h3, K.stays w hkey, hsame, MapKept.run_setObj_map _ hb, Result.andThen, goInt]
      exact hs0
    · simp [Instr.entryStore, MapKept.run_getObj_map hb, asInt, asIntOf, hidx, hmod, MapKept.run_setObj_map _ hb, Result.andThen, setBlock]
    · simp [Instr.mapUpdate, run_underlying ht, MapKept.run_getObj_map hb, K.check w false hkey, h1, hj, h3, K.stays w hkey, MapKept.run_setObj_map _ hb, Result.andThen, setBlock]
theorem ownsMap_entryStore (h : w.ownsMap P k R b n D) (K : Keyed P k) (ht : P.underlying t = some (.map k e)) {z : Value} (hz : ∀ u : World, (zeroValue e).run P u = .ok z u) (hn : n < maxLen) {key val : Value} {kl : Lit} {d : DataW H} {ps : List MemPlace}
    (hkey : keyOf P k key = some kl) (hv : R val = some (d, ps)) :
    ∃ (v0 : Value) (st : Nat) (w1 w2 : World), (Instr.mapEntry t (.map (some b)) key).run P w = .ok (.tuple #[v0, .int .i64 st]) w1 ∧ (Instr.entryStore t (.map (some b)) (.int .i64 st) val).run P w1 = .ok () w2 ∧
      w2.ownsMap P k R b (n + 1) (D.put kl d) ∧ w.grownBy w2 (some b) := by
  obtain ⟨w', hrun, ho, hg⟩ := h.update K ht hn hkey hv
  obtain ⟨es, clock, hb, F, _, _⟩ := h
  obtain ⟨v0, st, w1, w2, h1, h2, h3⟩ := entry_store K ht hz hb F hkey val
  rw [hrun] at h3
  cases h3
  exact ⟨v0, st, w1, w', h1, h2, ho, hg⟩
end
end Go.Proofs.YtafgincpoahefaaDoor

namespace Go.Proofs.YtafgincpoahefaaDoor
open Go.RowKit Go.Maps
attribute [local go_sem] Oper.semAt_some

theorem wf8 {n : Int} (h0 : 0 ≤ n) (h1 : n ≤ 255) : (Lit.int .u8 n).wf = true := by
  have h3 : IntKind.u8.min = 0 := by decide
  have h4 : IntKind.u8.max = 255 := by decide
  simp only [Lit.wf, h3, h4, Bool.and_eq_true, decide_eq_true_eq]
  omega
theorem wf64 {n : Int} (h0 : -9223372036854775808 ≤ n) (h1 : n ≤ 9223372036854775807) : (Lit.int .i64 n).wf = true := by
  have h3 : IntKind.i64.min = -9223372036854775808 := by decide
  have h4 : IntKind.i64.max = 9223372036854775807 := by decide
  simp only [Lit.wf, h3, h4, Bool.and_eq_true, decide_eq_true_eq]
  omega
theorem lawI : Keyed Tryd.prog 3 := int_keyed Tryd.underlying3
theorem lawB : Keyed Tryd.prog 5 := int_keyed Tryd.underlying5
theorem zeroF (w : World) : (zeroValue 203).run Tryd.prog w = .ok .nilFunc w := by kernel_rfl
theorem KAt.le {W : World} {B B' : Nat} {D : DataW Unit} {n k : Int} {two : Bool} (h : KAt W B D n k two) (hB : B' ≤ B) : KAt W B' D n k two := by
  unfold KAt at *
  split
  · rename_i e; rw [if_pos e] at h; exact h
  · rename_i e
    rw [if_neg e] at h
    obtain ⟨kb, nb, h1, h2, h3⟩ := h
    exact ⟨kb, nb, by omega, by omega, h3⟩
set_option maxRecDepth 100000 in
theorem parse_kinds1 (k nm : Int) (w : World) : Calls Tryd.prog 172 #[.int .u8 k, .int .i64 nm] w fun e w' =>
    ∃ kb nb, w.heap.size ≤ kb ∧ w.heap.size ≤ nb ∧ e = .returned (clos kb nb) ∧ Holds w' kb 5 #[.int .u8 k] ∧ Holds w' nb 3 #[.int .i64 nm] ∧ w.grownBy w' none := by
  have hmf : ∀ (fn : Fn) (first cap : Array Value) (w : World), (Instr.makeFunc fn first cap).run Tryd.prog w = .ok (.func fn first cap) w := fun _ _ _ _ => rfl
  go_enter Tryd.func172, Tryd.ntmps172
  go_wp2_with fail
  go_ret
  refine ⟨w.heap.size, w.heap.size + 1, Nat.le_refl _, Nat.le_succ _, rfl, (Holds.fresh _ _ _).alloc _, ?_, (World.grownBy_alloc _ _ _).trans (World.grownBy_alloc _ _ _)⟩
  have := Holds.fresh (w.alloc (.cells #[.int .u8 k] 5)) 3 #[.int .i64 nm]
  simpa using this
set_option maxRecDepth 100000 in
set_option maxHeartbeats 4000000 in
theorem parse_kinds (w : World) : Calls Tryd.prog 168 #[] w fun e w' => ∃ b, e = .returned (.map (some b)) ∧ w.grownBy w' none ∧ Kinds w' w.heap.size b := by
  have hmm := @run_makeMap Tryd.prog
  have e1 : (w.alloc (.map #[] 0)).heap.size = w.heap.size + 1 := by simp
  have hi := World.ownsMap_made (H := Unit) (w.alloc (.map #[] 0)) Tryd.prog 5 (plainElem Tryd.prog 5)
  rw [e1] at hi
  have hkk := (World.ownsMap_made w Tryd.prog 3 closR).alloc (.map #[] 0)
  have hgw : w.grownBy ((w.alloc (.map #[] 0)).alloc (.map #[] 0)) none := (World.grownBy_alloc _ _ _).trans (World.grownBy_alloc _ _ _)
  have C1 := Lib.hid parse_kinds1
  have hw8 : ∀ n : Int, 0 ≤ n → n ≤ 255 → (Lit.int .u8 n).wf = true := fun n h0 h1 => wf8 h0 h1
  obtain ⟨w1, r1, o1, g1⟩ := hi.update (t := 205) (key := .int .u8 116) (val := .int .u8 1) lawB Tryd.underlying205 (by unfold maxLen; omega) (keyOf_int_mk Tryd.underlying5 (hw8 _ (by decide) (by decide))) (plainElem_int Tryd.underlying5 (hw8 _ (by decide) (by decide)))
  obtain ⟨w2, r2, o2, g2⟩ := o1.update (t := 205) (key := .int .u8 120) (val := .int .u8 2) lawB Tryd.underlying205 (by unfold maxLen; omega) (keyOf_int_mk Tryd.underlying5 (hw8 _ (by decide) (by decide))) (plainElem_int Tryd.underlying5 (hw8 _ (by decide) (by decide)))
  obtain ⟨w3, r3, o3, g3⟩ := o2.update (t := 205) (key := .int .u8 121) (val := .int .u8 3) lawB Tryd.underlying205 (by unfold maxLen; omega) (keyOf_int_mk Tryd.underlying5 (hw8 _ (by decide) (by decide))) (plainElem_int Tryd.underlying5 (hw8 _ (by decide) (by decide)))
  obtain ⟨wi, r4, hi', g4⟩ := o3.update (t := 205) (key := .int .u8 110) (val := .int .u8 4) lawB Tryd.underlying205 (by unfold maxLen; omega) (keyOf_int_mk Tryd.underlying5 (hw8 _ (by decide) (by decide))) (plainElem_int Tryd.underlying5 (hw8 _ (by decide) (by decide)))
  have hg4 := ((g1.andThen (row := some (w.heap.size + 1)) g2 (fun j hj => .inr hj)).andThen (row := some (w.heap.size + 1)) g3 (fun j hj => .inr hj)).andThen (row := some (w.heap.size + 1)) g4 (fun j hj => .inr hj)
  have hgw' : w.grownBy wi none := hgw.andThen hg4 (fun j hj => .inl (by cases hj; omega))
  have hkk' := hkk.kept hg4 (by simp)
  clear hgw hkk g1 g2 g3 g4 o1 o2 o3 hi
  have hgw := hgw'
  have hkk := hkk'
  have hi : wi.ownsMap Tryd.prog 5 (plainElem Tryd.prog 5) (w.heap.size + 1) 4 D4 := hi'
  clear hgw' hkk' hi'
  go_enter Tryd.func168, Tryd.ntmps168
  go_wp2_with (first
    | (at_range; refine wpList_range_own _ rfl _ 205 rfl 5 5 lawB Tryd.underlying205 _ (w.heap.size + 1) _ _ rfl hi ?_; intro w0 hrg0 hg0 hs0)
    | go_in)
  go_frame
  have hr0 := hi.lt
  obtain ⟨r, hr⟩ : ∃ r, wi.heap.size = r := ⟨_, rfl⟩
  rw [hr] at hrg0 hs0 hr0 ⊢
  go_loopw [3] (fun _ wr => ∃ (left : Lit → Bool) (cnt n' : Nat) (Dm : DataW Unit), wr.ranges Tryd.prog 5 (plainElem Tryd.prog 5) (w.heap.size + 1) r 4 D4 left cnt ∧ n' + cnt ≤ 4 ∧
      wr.ownsMap Tryd.prog 3 closR w.heap.size n' Dm ∧ (∀ i, KAt wr (r + 1) Dm i (leftK left i) false) ∧ w.grownBy wr none)
    (fun _ wr => wr.rangeLeft (w.heap.size + 1) r)
  case atStart =>
    refine ⟨_, _, 0, .map [], hrg0, by decide, hkk.kept hg0 (by simp), fun i => ?_, hgw.trans hg0⟩
    unfold KAt
    rw [if_pos (show leftK (has D4) i = 0 from leftK_start i)]
    rfl
  case round =>
    obtain ⟨left, cnt, n', Dm, hrg, hcs, hout, hA, hgr⟩ := hrel
    have hsz := hrg.lt
    go_wp2_with (first
      | (at_next; refine wpList_next_ranges_ii _ rfl _ rfl 5 5 .u8 .u8 lawB Tryd.underlying5 Tryd.underlying5 (w.heap.size + 1) r 4 D4 _ _ rfl hrg ?_ ?_)
      | go_in)
    · intro hc0 hl0
      have hA' : ∀ i, KAt wr (r + 1) Dm i (kind4 i) false := fun i => by have := hA i; rwa [leftK_end hl0] at this
      have HA := Lib.hid hA'
      clear hA hA' hg0 hgw hrg0
      go_wp2_with fail
      refine (C1.out 5 2 _).mono ?_
      rintro e wa ⟨ka, na, l1, l2, rfl, h1, h2, ga⟩
      have HA1 := Lib.hid (fun i => (HA.out i).kept ga (fun j hj => by cases hj))
      go_wp2_with fail
      refine (C1.out 6 2 _).mono ?_
      rintro e wb ⟨kb, nb, l3, l4, rfl, h3, h4, gb⟩
      have hob := (hout.kept ga (by simp)).kept gb (by simp)
      have hr2 := hrg.lt
      have hsa := ga.size
      have hsb := gb.size
      obtain ⟨v0, st, w1, w2, r1, r2, ho2, g2⟩ := ownsMap_entryStore (t := 196) (key := .int .i64 3) (kl := .int .i64 3) hob lawI Tryd.underlying196 zeroF (by unfold maxLen; omega) (keyOf_int_mk Tryd.underlying3 (by decide)) (closR_clos ka na)
      go_wp2_with (first
        | (at_mapUpdate; refine wpList_mapUpdate_own _ rfl _ _ _ 196 rfl 3 203 lawI Tryd.underlying196 closR w.heap.size _ _ rfl ho2 (by unfold maxLen; omega) _ _ _ rfl rfl (keyOf_int_mk Tryd.underlying3 (by decide)) _ [] (closR_clos kb nb) ?_; intro w3 ho3 g3)
        | go_in)
      go_ret
      have gg := (g2.andThen (row := some w.heap.size) g3 (fun j hj => .inr hj))
      have hrow : ∀ j, some w.heap.size = some j → j < r + 1 := fun j hj => by cases hj; omega
      refine ⟨w.heap.size, rfl, ((hgr.trans ga).trans gb).andThen gg (fun j hj => .inl (by cases hj; exact Nat.le_refl _)), Nat.le_refl _, _, _, ho3, fun i => ?_⟩
      have hk1 := h1.grown (gb.but (some w.heap.size)) (fun e => by have := Option.some.inj e; omega)
      have hn1 := h2.grown (gb.but (some w.heap.size)) (fun e => by have := Option.some.inj e; omega)
      have f1 : KAt w3 w.heap.size ((Dm.put (.int .i64 3) (pairD ka na)).put (.int .i64 2) (pairD kb nb)) 3 5 true :=
        (KAt.same (B := w.heap.size) (two := true) hob.isMap trivial (by decide) (by omega) (by omega) (hk1.grown gg (fun e => by have := Option.some.inj e; omega)) (hn1.grown gg (fun e => by have := Option.some.inj e; omega))).other (by decide) _
      have f2 : KAt w3 w.heap.size ((Dm.put (.int .i64 3) (pairD ka na)).put (.int .i64 2) (pairD kb nb)) 2 6 true :=
        KAt.same (B := w.heap.size) (two := true) ho2.isMap trivial (by decide) (by omega) (by omega) (h3.grown gg (fun e => by have := Option.some.inj e; omega)) (h4.grown gg (fun e => by have := Option.some.inj e; omega))
      by_cases e3 : i = 3
      · subst e3; exact f1
      by_cases e2 : i = 2
      · subst e2; exact f2
      have e4 : kindOf i = kind4 i := by rw [kindOf_4, if_neg e3, if_neg e2]
      rw [e4, kind4_lt]
      exact (((((HA1.out i).kept gb (fun j hj => by cases hj)).kept gg hrow).le (by omega)).other e3 _).other e2 _
    · intro x c w1 cnt1 hwx hwc hlx hat hrg1 hlt hg1 hs1 hen
      obtain ⟨hk4, hc0, hx0, hx1⟩ := D4_hat hat
      have hw8 : IntKind.u8.wrap (x - 97) = x - 97 := IntWalk.u8_in _ (by omega)
      have hw64 : IntKind.i64.wrap (x - 97) = x - 97 := IntWalk.i64_in _ (by omega)
      have hout1 := hout.kept hg1 (fun e => by have := Option.some.inj e; omega)
      have hA1 := Lib.hid (fun i => (hA i).kept hg1 (fun j hj => by cases hj; omega))
      have HAT := Lib.hid hat
      have HK4 := Lib.hid hk4
      clear hat hA hk4 hlx hg0 hgw hrg0
      go_wp2_with fail
      refine (C1.out c 1 _).mono ?_
      rintro e w2 ⟨ka, na, l1, l2, rfl, h1, h2, ga⟩
      have hout2 := hout1.kept ga (by simp)
      go_wp2_with (first
        | (at_mapUpdate; refine wpList_mapUpdate_own _ rfl _ _ _ 196 rfl 3 203 lawI Tryd.underlying196 closR w.heap.size _ _ rfl hout2 (by unfold maxLen; omega) _ _ _ rfl rfl (keyOf_int_mk (a := x - 97) Tryd.underlying3 (wf64 (by omega) (by omega))) _ [] (closR_clos ka na) ?_; intro w3 hout3 g3)
        | go_in)
      have hsa := ga.size
      have hr1 := hrg1.lt
      have hne : r ≠ w.heap.size + 1 := hrg1.ne
      have hrow : ∀ j, some w.heap.size = some j → j < r + 1 := fun j hj => by cases hj; omega
      have hrg2 := (hrg1.kept ga (by simp) (by simp)).kept g3 (fun e => by have := Option.some.inj e; omega) (fun e => by have := Option.some.inj e; omega)
      go_roundw
      case rel =>
        refine ⟨_, _, _, _, _, _, _, _, _, _, _, _, _, _, ⟨_, cnt1, n' + 1, _, hrg2, by omega, hout3, fun i => ?_, ((hgr.andThen hg1 (fun j hj => .inl (by cases hj; omega))).trans ga).andThen g3 (fun j hj => .inl (by cases hj; exact Nat.le_refl _))⟩, rfl⟩
        by_cases e : i = x - 97
        · subst e
          rw [leftK_same, HK4.out]
          exact KAt.same (two := false) hout2.isMap trivial hc0 (by omega) (by omega) (h1.grown g3 (fun e => by have := Option.some.inj e; omega)) (h2.grown g3 (fun e => by have := Option.some.inj e; omega))
        · rw [leftK_other e]
          exact (((hA1.out i).kept ga (fun j hj => by cases hj)).kept g3 hrow).other e _
      case measure => rw [hrg2.left_eq, hrg.left_eq]; exact hlt
end Go.Proofs.YtafgincpoahefaaDoor

namespace Go.Proofs.YtafgincpoahefaaDoor
open Go.RowKit Go.Maps
attribute [local go_sem] Oper.semAt_some

theorem neqF0 (w : World) : (binOp .neq 203 .nilFunc .nilFunc).run Tryd.prog w = .ok (.bool false) w := by kernel_rfl
theorem neqF1 (kb nb : Nat) (w : World) : (binOp .neq 203 (clos kb nb) .nilFunc).run Tryd.prog w = .ok (.bool true) w := by kernel_rfl
theorem pTerm_any {ts : List Tok} {at0 : Nat} {t : Tok} (ht : ts[at0]? = some t) (hk : t.kind ≠ 2) :
    pTerm (ts.drop at0) = thenR (pNum (anyOf [45] t == 45) (ts.drop (if anyOf [45] t = 0 then at0 else at0 + 1))) fun n l => .ok (⟨0, n, 0, 0⟩, l) := by
  have hd := drop_at ht
  rw [anyOf_one, show ((UInt8.toNat 45 : Nat) : Int) = 45 from rfl]
  have h1 : pTerm (ts.drop at0) = thenR (if isS 45 (ts.drop at0) = true then pNum true (ts.drop (at0 + 1)) else pNum false (ts.drop at0)) fun n l => .ok (⟨0, n, 0, 0⟩, l) := by
    rw [hd]
    unfold pTerm
    simp only [if_neg hk]
  rw [h1, isS_at ht]
  cases ((t.kind == 5) && (t.n == 45)) <;> rfl
set_option maxRecDepth 100000 in
set_option maxHeartbeats 4000000 in
theorem parse_term_num (ts : List Tok) (pb blk off cap at0 : Nat) (t : Tok) (ht : ts[at0]? = some t) (hk : t.kind ≠ 2) (w : World) (h : Q9 ts pb blk off cap at0 w) (mb : Nat) :
    Calls Tryd.prog 169 #[.pointer (some ⟨pb, 0, none⟩), .map (some mb)] w (RQ ts pb blk off cap at0 (pTerm (ts.drop at0)) w fun t => .agg #[.int .u8 t.kind, .int .i64 t.n, .int .i64 t.s, .int .i64 t.r]) := by
  have k0 := K9.start h 29 #[.int .u8 0, .int .i64 0, .int .i64 0, .int .i64 0]
  have c0 : (w.alloc (.cells #[.int .u8 0, .int .i64 0, .int .i64 0, .int .i64 0] 29)).cell? ⟨pb, 0, none⟩ = some (.slice (some ⟨blk, off + at0 * 3, none⟩) (ts.length - at0) (cap - at0)) := k0.q.hold.cell 0
  obtain ⟨t0, t1, t2⟩ := k0.q.tok ht
  have hlt := h.lt
  have hn1 : 0 < ts.length - at0 := by omega
  have k1 := k0.alloc (.cells #[.int .u8 t.kind, .int .i64 t.n, .int .i64 t.at'] 51)
  have d0 := (Holds.fresh (w.alloc (.cells #[.int .u8 0, .int .i64 0, .int .i64 0, .int .i64 0] 29)) 51 #[.int .u8 t.kind, .int .i64 t.n, .int .i64 t.at']).cell 0
  rw [World.size_alloc] at d0
  have e1 : (t.kind == 2) = false := by simpa using hk
  have hpt := pTerm_any ht hk
  have ca := parse_any ts pb blk off cap at0 { data := #[45] } (by decide) (by decide) t ht _ k1.q
  replace ca : Calls Tryd.prog 124 #[.pointer (some ⟨pb, 0, none⟩), .string { data := #[45] }] ((w.alloc (.cells #[.int .u8 0, .int .i64 0, .int .i64 0, .int .i64 0] 29)).alloc (.cells #[.int .u8 t.kind, .int .i64 t.n, .int .i64 t.at'] 51)) fun e w' => e = .returned (.int .u8 (anyOf [45] t)) ∧ _ ∧ Q9 ts pb blk off cap (if anyOf [45] t = 0 then at0 else at0 + 1) w' := ca
  have hle : at0 ≤ (if anyOf [45] t = 0 then at0 else at0 + 1) := by split <;> omega
  generalize (if anyOf [45] t = 0 then at0 else at0 + 1) = a1 at *
  generalize anyOf [45] t = c at *
  obtain ⟨n, hn⟩ : ∃ n, ts.length - at0 = n := ⟨_, rfl⟩
  obtain ⟨o, ho⟩ : ∃ o, off + at0 * 3 = o := ⟨_, rfl⟩
  rw [hn, ho] at c0
  rw [ho] at t0 t1 t2
  rw [hn] at hn1
  have K1 := Lib.hid k1
  have CA := Lib.hid ca
  have HPT := Lib.hid hpt
  obtain ⟨kk, kn, kx⟩ := t
  simp only at *
  clear k0 k1 ca hpt h ht hk hn ho
  go_enter Tryd.func169, Tryd.ntmps169
  go_wp2_with fail
  refine CA.out.mono ?_
  rintro e w1 ⟨rfl, g1, q1⟩
  have K2 := Lib.hid (K1.out.move q1 g1)
  have c2 := parse_signed ts pb blk off cap a1 c _ q1
  have C2 := Lib.hid c2
  clear c2 q1 g1 CA K1 d0
  generalize w.heap.size = rb at *
  go_wp2_with fail
  rcases r2 : pNum (c == 45) (ts.drop a1) with p | ⟨x, l2⟩
  · refine C2.out.mono ?_
    rintro e w2 h2
    obtain ⟨rfl, g⟩ := h2.err r2
    have hr := RQ.bad (ts := ts) (blk := blk) (off := off) (cap := cap) (at0 := at0) (enc := fun t : Tm => .agg #[.int .u8 t.kind, .int .i64 t.n, .int .i64 t.s, .int .i64 t.r]) (K2.out.g.trans g) (HPT.out.trans (by rw [r2]; rfl))
    unfold wrongAt at hr ⊢
    exact ⟨rfl, hr⟩
  have hp := HPT.out
  simp only [r2, thenR_ok] at hp
  refine C2.out.mono ?_
  rintro e w2 h2
  obtain ⟨rfl, g2, at2, le2, rfl, q2⟩ := h2.ok r2
  have k2 := K2.out.move q2 g2
  have zf := k2.r.free
  have zl := k2.r.size
  have z0 : w2.cell? ⟨rb, 0, none⟩ = some (.int .u8 0) := k2.r.cell 0
  have z1 : w2.cell? ⟨rb, 1, none⟩ = some (.int .i64 0) := k2.r.cell 1
  have z2 : w2.cell? ⟨rb, 2, none⟩ = some (.int .i64 0) := k2.r.cell 2
  have z3 : w2.cell? ⟨rb, 3, none⟩ = some (.int .i64 0) := k2.r.cell 3
  have KF := Lib.hid ((((k2.setR 0 (.int .u8 0)).setR 1 (.int .i64 x)).setR 2 (.int .i64 0)).setR 3 (.int .i64 0))
  have HP := Lib.hid hp
  clear k2 hp g2 q2 h2 r2 C2
  go_wp2_with fail
  refine bodyPost_ret (results_one9 rfl _ _ rb 29 #[.int .u8 0, .int .i64 x, .int .i64 0, .int .i64 0] _ rfl KF.out.r Tryd.underlying29 rfl (by kernel_rfl)) rfl ?_
  exact RQ.good (enc := fun t : Tm => .agg #[.int .u8 t.kind, .int .i64 t.n, .int .i64 t.s, .int .i64 t.r]) (v := ⟨0, x, 0, 0⟩) KF.out.g HP.out (by omega) KF.out.q
set_option maxRecDepth 100000 in
set_option maxHeartbeats 4000000 in
theorem parse_term_none (ts : List Tok) (pb blk off cap at0 : Nat) (t : Tok) (ht : ts[at0]? = some t) (hk : t.kind = 2) (h0 : kindOf t.n = 0) (w : World) (h : Q9 ts pb blk off cap at0 w) (B mb : Nat) (hkm : Kinds w B mb) :
    Calls Tryd.prog 169 #[.pointer (some ⟨pb, 0, none⟩), .map (some mb)] w (RQ ts pb blk off cap at0 (pTerm (ts.drop at0)) w fun t => .agg #[.int .u8 t.kind, .int .i64 t.n, .int .i64 t.s, .int .i64 t.r]) := by
  have hok := h.ok _ (List.mem_of_getElem? ht)
  have k0 := K9.start h 29 #[.int .u8 0, .int .i64 0, .int .i64 0, .int .i64 0]
  have c0 : (w.alloc (.cells #[.int .u8 0, .int .i64 0, .int .i64 0, .int .i64 0] 29)).cell? ⟨pb, 0, none⟩ = some (.slice (some ⟨blk, off + at0 * 3, none⟩) (ts.length - at0) (cap - at0)) := k0.q.hold.cell 0
  obtain ⟨t0, t1, t2⟩ := k0.q.tok ht
  have hlt := h.lt
  have hn1 : 0 < ts.length - at0 := by omega
  have k1 := k0.alloc (.cells #[.int .u8 t.kind, .int .i64 t.n, .int .i64 t.at'] 51)
  have dd := Holds.fresh (w.alloc (.cells #[.int .u8 0, .int .i64 0, .int .i64 0, .int .i64 0] 29)) 51 #[.int .u8 t.kind, .int .i64 t.n, .int .i64 t.at']
  have d0 := dd.cell 0
  have d1 := dd.cell 1
  rw [World.size_alloc] at d0 d1
  obtain ⟨_, n0, D, hown, hat⟩ := hkm
  obtain ⟨v, ps, hrun, hv⟩ := ((hown.alloc (.cells #[.int .u8 0, .int .i64 0, .int .i64 0, .int .i64 0] 29)).alloc (.cells #[.int .u8 t.kind, .int .i64 t.n, .int .i64 t.at'] 51)).lookup (t := 196) (key := .int .i64 t.n) (kl := .int .i64 t.n) lawI Tryd.underlying196 (zeroF _) closR_nil (keyOf_int_mk Tryd.underlying3 (by have := hok.2.1; exact wf64 (by omega) (by omega)))
  have hka := hat t.n
  unfold KAt at hka
  rw [if_pos h0] at hka
  rw [hka] at hv
  obtain rfl : v = .nilFunc := by
    rcases closR_inv hv with ⟨rfl, _⟩ | ⟨a, b, _, he⟩
    · rfl
    · cases he
  have hpt : pTerm (ts.drop at0) = .error t.at' := by rw [pTerm_name (drop_at ht) hk, if_pos h0]
  have cm := parse_must ts pb blk off cap at0 false t ht _ k1.q
  obtain ⟨n, hn⟩ : ∃ n, ts.length - at0 = n := ⟨_, rfl⟩
  obtain ⟨o, ho⟩ : ∃ o, off + at0 * 3 = o := ⟨_, rfl⟩
  rw [hn, ho] at c0
  rw [ho] at t0 t1 t2
  rw [hn] at hn1
  have K1 := Lib.hid k1
  have CM := Lib.hid cm
  have HPT := Lib.hid hpt
  obtain ⟨kk, kn, kx⟩ := t
  simp only at *
  subst hk
  clear k0 k1 cm hpt h ht hn ho hat hka hv h0 hok dd
  have hq0 := neqF0
  go_enter Tryd.func169, Tryd.ntmps169
  go_wp2_with fail
  refine CM.out.mono ?_
  rintro e w1 ⟨hw, he⟩
  subst hw
  obtain rfl : e = wrongAt kx := by simpa using he
  have hr := RQ.bad (ts := ts) (blk := blk) (off := off) (cap := cap) (at0 := at0) (enc := fun t : Tm => .agg #[.int .u8 t.kind, .int .i64 t.n, .int .i64 t.s, .int .i64 t.r]) K1.out.g HPT.out
  unfold wrongAt at hr ⊢
  exact ⟨rfl, hr⟩
set_option maxRecDepth 100000 in
set_option maxHeartbeats 4000000 in
theorem parse_term_name (ts : List Tok) (pb blk off cap at0 : Nat) (t : Tok) (ht : ts[at0]? = some t) (hk : t.kind = 2) (h0 : kindOf t.n ≠ 0) (w : World) (h : Q9 ts pb blk off cap at0 w) (B mb : Nat) (hkm : Kinds w B mb) (hpb : pb < B) :
    Calls Tryd.prog 169 #[.pointer (some ⟨pb, 0, none⟩), .map (some mb)] w (RQ ts pb blk off cap at0 (pTerm (ts.drop at0)) w fun t => .agg #[.int .u8 t.kind, .int .i64 t.n, .int .i64 t.s, .int .i64 t.r]) := by
  have hok := h.ok _ (List.mem_of_getElem? ht)
  have k0 := K9.start h 29 #[.int .u8 0, .int .i64 0, .int .i64 0, .int .i64 0]
  have c0 : (w.alloc (.cells #[.int .u8 0, .int .i64 0, .int .i64 0, .int .i64 0] 29)).cell? ⟨pb, 0, none⟩ = some (.slice (some ⟨blk, off + at0 * 3, none⟩) (ts.length - at0) (cap - at0)) := k0.q.hold.cell 0
  obtain ⟨t0, t1, t2⟩ := k0.q.tok ht
  have hlt := h.lt
  have hn1 : 0 < ts.length - at0 := by omega
  have k1 := k0.alloc (.cells #[.int .u8 t.kind, .int .i64 t.n, .int .i64 t.at'] 51)
  have dd := Holds.fresh (w.alloc (.cells #[.int .u8 0, .int .i64 0, .int .i64 0, .int .i64 0] 29)) 51 #[.int .u8 t.kind, .int .i64 t.n, .int .i64 t.at']
  have d0 := dd.cell 0
  have d1 := dd.cell 1
  rw [World.size_alloc] at d0 d1
  obtain ⟨_, n0, D, hown, hat⟩ := hkm
  obtain ⟨v, ps, hrun, hv⟩ := ((hown.alloc (.cells #[.int .u8 0, .int .i64 0, .int .i64 0, .int .i64 0] 29)).alloc (.cells #[.int .u8 t.kind, .int .i64 t.n, .int .i64 t.at'] 51)).lookup (t := 196) (key := .int .i64 t.n) (kl := .int .i64 t.n) lawI Tryd.underlying196 (zeroF _) closR_nil (keyOf_int_mk Tryd.underlying3 (by have := hok.2.1; exact wf64 (by omega) (by omega)))
  have hka := hat t.n
  unfold KAt at hka
  rw [if_neg h0] at hka
  obtain ⟨kb, nb, hb1, hb2, hkd, hhk, hhn⟩ := hka
  rw [hkd] at hv
  obtain rfl : v = clos kb nb := by
    rcases closR_inv hv with ⟨_, he⟩ | ⟨a, b, rfl, he⟩
    · cases he
    · obtain ⟨rfl, rfl⟩ := pairD_inj he
      rfl
  have hpt : pTerm (ts.drop at0) = pNamed (kindOf t.n) (ts.drop (at0 + 1)) := by rw [pTerm_name (drop_at ht) hk, if_neg h0]
  have cm := parse_must ts pb blk off cap at0 true t ht _ k1.q
  have ct := parse_take ts pb blk off cap at0 2 (by omega) (by omega) _ k1.q
  have hta : pTake 2 (ts.drop at0) = .ok (t.n, ts.drop (at0 + 1)) := by rw [pTake_at ht, if_pos hk, if_neg (by decide)]
  obtain ⟨n, hn⟩ : ∃ n, ts.length - at0 = n := ⟨_, rfl⟩
  obtain ⟨o, ho⟩ : ∃ o, off + at0 * 3 = o := ⟨_, rfl⟩
  rw [hn, ho] at c0
  rw [ho] at t0 t1 t2
  rw [hn] at hn1
  have K1 := Lib.hid k1
  have CM := Lib.hid cm
  have CT := Lib.hid ct
  have HPT := Lib.hid hpt
  have HTA := Lib.hid hta
  have HH := Lib.hid (And.intro hhk hhn)
  generalize hKK : kindOf t.n = K at *
  obtain ⟨kk, kn, kx⟩ := t
  simp only at *
  subst hk
  clear k0 k1 cm ct hpt hta h ht hn ho hat hkd hv h0 hok dd hhk hhn hKK
  have hq1 := neqF1 kb nb
  go_enter Tryd.func169, Tryd.ntmps169
  go_wp2_with fail
  refine CM.out.mono ?_
  rintro e w1 ⟨hw, he⟩
  subst hw
  obtain rfl : e = .returned (.tuple #[]) := by simpa using he
  generalize (w.alloc (.cells #[.int .u8 0, .int .i64 0, .int .i64 0, .int .i64 0] 29)).alloc (.cells #[.int .u8 2, .int .i64 kn, .int .i64 kx] 51) = W1 at *
  clear CM
  go_wp2_with fail
  refine CT.out.mono ?_
  rintro e w2 h2
  obtain ⟨rfl, g2, at1, le1, hd1, q2⟩ := h2.ok HTA.out
  have k2 := K1.out.move q2 g2
  have cn := parse_named ts pb blk off cap at1 w2 q2 K (K == 5 || K == 6) rfl _ rfl kb nb 5 3 (HH.out.1.grown k2.g (fun e => by have := Option.some.inj e; omega)) (HH.out.2.grown k2.g (fun e => by have := Option.some.inj e; omega)) (by omega)
  rw [hd1] at cn
  have CN := Lib.hid cn
  have K2 := Lib.hid k2
  clear k2 cn g2 q2 h2 CT c0 t0 t1 t2 d0 d1 hrun hown
  generalize w.heap.size = rb at *
  go_wp2_with fail
  rcases r3 : pNamed K (ts.drop (at0 + 1)) with p | ⟨x, l3⟩
  · rw [r3] at CN
    refine CN.out.mono ?_
    rintro e w3 h3
    obtain ⟨rfl, g⟩ := h3.err rfl
    have hr := RQ.bad (ts := ts) (blk := blk) (off := off) (cap := cap) (at0 := at0) (enc := fun t : Tm => .agg #[.int .u8 t.kind, .int .i64 t.n, .int .i64 t.s, .int .i64 t.r]) (K2.out.g.trans g) (HPT.out.trans r3)
    unfold wrongAt at hr ⊢
    exact ⟨rfl, hr⟩
  rw [r3] at CN
  refine CN.out.mono ?_
  rintro e w3 h3
  obtain ⟨rfl, g3, at3, le3, rfl, q3⟩ := h3.ok rfl
  have k3 := K2.out.move q3 g3
  have zf := k3.r.free
  have zl := k3.r.size
  have z0 : w3.cell? ⟨rb, 0, none⟩ = some (.int .u8 0) := k3.r.cell 0
  have z1 : w3.cell? ⟨rb, 1, none⟩ = some (.int .i64 0) := k3.r.cell 1
  have z2 : w3.cell? ⟨rb, 2, none⟩ = some (.int .i64 0) := k3.r.cell 2
  have z3 : w3.cell? ⟨rb, 3, none⟩ = some (.int .i64 0) := k3.r.cell 3
  obtain ⟨xk, xn, xs, xr⟩ := x
  have KF := Lib.hid ((((k3.setR 0 (.int .u8 xk)).setR 1 (.int .i64 xn)).setR 2 (.int .i64 xs)).setR 3 (.int .i64 xr))
  have HP := Lib.hid (HPT.out.trans r3)
  clear k3 g3 q3 h3 r3 CN
  go_wp2_with fail
  refine bodyPost_ret (results_one9 rfl _ _ rb 29 #[.int .u8 xk, .int .i64 xn, .int .i64 xs, .int .i64 xr] _ rfl KF.out.r Tryd.underlying29 rfl (by kernel_rfl)) rfl ?_
  exact RQ.good (enc := fun t : Tm => .agg #[.int .u8 t.kind, .int .i64 t.n, .int .i64 t.s, .int .i64 t.r]) (v := ⟨xk, xn, xs, xr⟩) KF.out.g HP.out (by omega) KF.out.q
theorem parse_term (ts : List Tok) (pb blk off cap at0 : Nat) (w : World) (h : Q9 ts pb blk off cap at0 w) (B mb : Nat) (hkm : Kinds w B mb) (hpb : pb < B) :
    Calls Tryd.prog 169 #[.pointer (some ⟨pb, 0, none⟩), .map (some mb)] w (RQ ts pb blk off cap at0 (pTerm (ts.drop at0)) w fun t => .agg #[.int .u8 t.kind, .int .i64 t.n, .int .i64 t.s, .int .i64 t.r]) := by
  have ht : ts[at0]? = some (ts[at0]'h.lt) := List.getElem?_eq_getElem h.lt
  by_cases hk : (ts[at0]'h.lt).kind = 2
  · by_cases h0 : kindOf (ts[at0]'h.lt).n = 0
    · exact parse_term_none ts pb blk off cap at0 _ ht hk h0 w h B mb hkm
    · exact parse_term_name ts pb blk off cap at0 _ ht hk h0 w h B mb hkm hpb
  · exact parse_term_num ts pb blk off cap at0 _ ht hk w h mb
end Go.Proofs.YtafgincpoahefaaDoor
