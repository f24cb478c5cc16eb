/-
  parse: cmps.
  parse: step.
  parse: pattern.
-/
import Derived.Test.YtafgincpoahefaaDoorPas8
import Derived.Test.YtafgincpoahefaaDoorPlB
import Derived.Test.YtafgincpoahefaaDoorRef9h
import Derived.ScopeJumps
namespace Go.Proofs.YtafgincpoahefaaDoor
open Go.RowKit
attribute [local go_sem] Oper.semAt_some

theorem wp_scope_back {P : Program} {Q : Exit → Act → World → Prop} {a : Act} {w : World} {c rest : Code} (l : Nat) (J : Act → World → Prop) (μ : Act → World → Nat) (hf : findLabel c l = some (Code.skip.seq rest))
    (pass : ∀ a w, J a w → rest.wp P (Exit.jump l (fun a' w' => J a' w' ∧ μ a' w' < μ a w) Q) a w)
    (first : (∀ a w, J a w → rest.wp P (Exit.jump l J Q) a w) → c.wp P (Exit.jump l J Q) a w) : (Code.scope c).wp P Q a w := by
  refine wp_scope_jumps l J μ hf (first fun a w h => Code.wp_mono (fun e a' w' he => ?_) (pass a w h)) fun a w h => wp_seq (wp_skip (pass a w h))
  cases e <;> first | exact he | exact ⟨he.1, he.2.1⟩
theorem jumpU_ret {l : Nat} {J : Act → World → Prop} {Q : Exit → Act → World → Prop} {a : Act} {w : World} (h : Q .ret a w) : Exit.jump l J Q .ret a w := h

/-- comparisons that are being taken: the one in block cb, those before in a row of the call's own -/
structure C9 (w : World) (ts : List Tok) (pb blk off cap cb : Nat) (v : Value) (cs : List Cm) (c : List Value) (at0 : Nat) (W : World) : Prop where
  k : K9 w ts pb blk off cap 31 cb c.toArray at0 W
  row : W.ownsRow (cb + 1) 31 9 v cs.length (cs.flatMap cmV)
section
variable {w W W' : World} {ts : List Tok} {pb blk off cap cb at0 at1 : Nat} {v v' : Value} {cs : List Cm} {c : List Value}
theorem C9.move (h : C9 w ts pb blk off cap cb v cs c at0 W) (hq : Q9 ts pb blk off cap at1 W') (hg : W.grownBy W' (some pb)) : C9 w ts pb blk off cap cb v cs c at1 W' :=
  ⟨h.k.move hq hg, h.row.kept hg (.inr (row_far h.row (by have := h.k.n1; have := h.k.n2; omega)).symm)⟩
theorem C9.set (h : C9 w ts pb blk off cap cb v cs c at0 W) (i : Nat) (x : Value) : C9 w ts pb blk off cap cb v cs (c.set i x) at0 (W.setCell ⟨cb, i, none⟩ x) := by
  have := h.k.setR i x
  rw [show c.toArray.setIfInBounds i x = (c.set i x).toArray by simp] at this
  exact ⟨this, h.row.kept (Lib.grownBy_setCell W cb i x) (.inr (row_far h.row (Nat.lt_succ_self _)).symm)⟩
theorem C9.alloc (h : C9 w ts pb blk off cap cb v cs c at0 W) (o : Obj) : C9 w ts pb blk off cap cb v cs c at0 (W.alloc o) := h.move (h.k.q.alloc o) (World.grownBy_alloc _ _ _)
theorem C9.app {x : Cm} (h : C9 w ts pb blk off cap cb v cs (cmV x) at0 W) (hg : W.grownBy W' v.ownBlock) (hr : W'.ownsRow (cb + 1) 31 9 v' (cs.length + 1) (cs.flatMap cmV ++ cmV x)) : C9 w ts pb blk off cap cb v' (cs ++ [x]) (cmV x) at0 W' := by
  have n1 := h.k.n1
  have n2 := h.k.n2
  refine ⟨⟨h.k.q.grown hg (row_far h.row (by omega)) (row_far h.row (by omega)), h.k.r.grown hg (row_far h.row (by omega)), h.k.g.andThen hg (fun j e => .inl (Nat.le_trans (by omega) (h.row.lt j e).1)), n1, n2⟩, ?_⟩
  rw [List.length_append, List.flatMap_append, List.flatMap_singleton]
  exact hr
end
/-- what comparisons come to: they lie in a row of the call's own -/
def RC (ts : List Tok) (pb blk off cap at0 : Nat) (r : Res (List Cm)) (w : World) (e : Ending) (w' : World) : Prop :=
  w.grownBy w' (some pb) ∧ match r with
    | .ok (cs, l) => ∃ v at1, e = .returned v ∧ at0 ≤ at1 ∧ ts.drop at1 = l ∧ Q9 ts pb blk off cap at1 w' ∧ w'.ownsRow w.heap.size 31 9 v cs.length (cs.flatMap cmV)
    | .error p => e = wrongAt p
theorem RC.bad {ts : List Tok} {pb blk off cap at0 : Nat} {r : Res (List Cm)} {w w' : World} {p : Int} (hg : w.grownBy w' (some pb)) (hr : r = .error p) : RC ts pb blk off cap at0 r w (wrongAt p) w' := ⟨hg, by subst hr; rfl⟩
theorem RC.good {ts : List Tok} {pb blk off cap at0 at1 : Nat} {r : Res (List Cm)} {w w' : World} {cs : List Cm} {v : Value} (hg : w.grownBy w' (some pb)) (hr : r = .ok (cs, ts.drop at1)) (hle : at0 ≤ at1) (hq : Q9 ts pb blk off cap at1 w')
    (ho : w'.ownsRow w.heap.size 31 9 v cs.length (cs.flatMap cmV)) : RC ts pb blk off cap at0 r w (.returned v) w' := ⟨hg, by subst hr; exact ⟨v, at1, rfl, hle, rfl, hq, ho⟩⟩
/-- where a round begins -/
def CL (w : World) (ts : List Tok) (pb blk off cap at0 : Nat) (a : Act) (wr : World) : Prop := ∃ (W1 : World) (mb cb : Nat) (v : Value) (cs : List Cm) (c : Cm) (at1 : Nat),
  w.grownBy W1 (some pb) ∧ Kinds W1 w.heap.size mb ∧ pb < w.heap.size ∧ C9 W1 ts pb blk off cap cb v cs (cmV c) at1 wr ∧ at0 ≤ at1 ∧ cs.length ≤ at1 ∧ Hid (pCs (ts.drop at0) = thenR (pCs (ts.drop at1)) fun cs' l => .ok (cs ++ cs', l)) ∧
  ∃ u1 u5 u6 u7 u8 u9 u10 u11 u12 u13 u14 u15 u16 u17 u18 u19 u20 u21 u22 u23 u24 u25 u26 u27 : Value,
    a = { tmps := #[.pointer (some ⟨pb, 0, none⟩), u1, v, .map (some mb), .pointer (some ⟨cb, 0, none⟩), u5, u6, u7, u8, u9, u10, u11, u12, u13, u14, u15, u16, u17, u18, u19, u20, u21, u22, u23, u24, u25, u26, u27], defers := [] }
def leftP (pb : Nat) (wr : World) : Nat := match wr.cell? ⟨pb, 0, none⟩ with
  | some (.slice _ n _) => n
  | _ => 0
theorem Q9.left {ts : List Tok} {pb blk off cap at0 : Nat} {w : World} (h : Q9 ts pb blk off cap at0 w) : leftP pb w = ts.length - at0 := by
  have c0 : w.cell? ⟨pb, 0, none⟩ = some (.slice (some ⟨blk, off + at0 * 3, none⟩) (ts.length - at0) (cap - at0)) := h.hold.cell 0
  unfold leftP
  rw [c0]
theorem op_small {ts : List Tok} {pb blk off cap at0 : Nat} {w : World} (h : Q9 ts pb blk off cap at0 w) {op : Int} {l : List Tok} (e : pTake 4 (ts.drop at0) = .ok (op, l)) : 0 ≤ op ∧ op < 7 := by
  obtain ⟨t, h1, h2, h3⟩ := take_inv (by decide) e
  have := h.ok t (List.mem_of_mem_drop (by rw [h1]; exact List.mem_cons_self))
  subst h3
  have h4 := this.2.2.2.1 h2
  have := this.2.1
  omega
theorem and_at {ts : List Tok} {at0 : Nat} {t : Tok} (ht : ts[at0]? = some t) : isS 38 (ts.drop at0) = decide (anyOf [38] t ≠ 0) := by
  rw [anyOf_one, isS_at ht]
  cases h : ((t.kind == 5) && (t.n == 38))
  · have : ((t.kind == 5) && (t.n == ((38 : UInt8).toNat : Int))) = false := h
    rw [this]; rfl
  · have : ((t.kind == 5) && (t.n == ((38 : UInt8).toNat : Int))) = true := h
    rw [this]; rfl
set_option maxRecDepth 100000 in
set_option maxHeartbeats 8000000 in
theorem parse_cmps (ts : List Tok) (pb blk off cap at0 : Nat) (w : World) (h : Q9 ts pb blk off cap at0 w) :
    Calls Tryd.prog 152 #[.pointer (some ⟨pb, 0, none⟩)] w (RC ts pb blk off cap at0 (pCs (ts.drop at0)) w) := by
  obtain ⟨i0, hi, hz0, hz1, hz2⟩ := info_parts cmp_info
  have H := Lib.hid h
  have HK := Lib.hid (parse_kinds w)
  clear h
  go_enter Tryd.func152, Tryd.ntmps152
  go_wp2_with fail
  refine wp_scope_back 0 (CL w ts pb blk off cap at0) (fun _ wr => leftP pb wr) rfl ?_ ?_
  · rintro a wr ⟨W1, mb, cb, v, cs, c, at1, hg1, hkm, hpb, hc, hle, hcs, HP, u1, u5, u6, u7, u8, u9, u10, u11, u12, u13, u14, u15, u16, u17, u18, u19, u20, u21, u22, u23, u24, u25, u26, u27, rfl⟩
    have hlen := hc.k.q.len
    have hlt := hc.k.q.lt
    have HM := Lib.hid hc.k.q.left
    have HKM := Lib.hid hkm
    have hrow : ∀ j, some pb = some j → j < w.heap.size := fun j e => by cases e; exact hpb
    have c1 := parse_term ts pb blk off cap at1 wr hc.k.q w.heap.size mb (hkm.kept hc.k.g hrow) hpb
    have C1 := Lib.hid c1
    have HC := Lib.hid hc
    have hp0 := HP.out
    rw [pCs_eq (ts.drop at1)] at hp0
    unfold pCmp at hp0
    have HP0 := Lib.hid hp0
    have HG1 := Lib.hid hg1
    have HROW := Lib.hid hrow
    clear c1 hc hkm hg1 H HK hp0 HP hrow
    obtain ⟨co, ⟨lk, ln, ls, lr⟩, ⟨rk, rn, rs, rr⟩⟩ := c
    go_wp2_with fail
    rcases r1 : pTerm (ts.drop at1) with p | ⟨⟨xk, xn, xs, xr⟩, l1⟩
    · refine C1.out.mono ?_
      rintro e w1 h1
      obtain ⟨rfl, g⟩ := h1.err r1
      have hr := RC.bad (ts := ts) (blk := blk) (off := off) (cap := cap) (at0 := at0) ((HG1.out.trans HC.out.k.g).trans g) (HP0.out.trans (by rw [r1]; rfl))
      unfold wrongAt at hr ⊢
      exact ⟨rfl, hr⟩
    have hp1 := HP0.out
    simp only [r1, thenR_ok] at hp1
    refine C1.out.mono ?_
    rintro e w1 h1
    obtain ⟨rfl, g1, at2, le2, rfl, q1⟩ := h1.ok r1
    have k1 := HC.out.move q1 g1
    have z1 : w1.cell? ⟨cb, 1, none⟩ = some (.int .u8 lk) := k1.k.r.cell 1
    have z2 : w1.cell? ⟨cb, 2, none⟩ = some (.int .i64 ln) := k1.k.r.cell 2
    have z3 : w1.cell? ⟨cb, 3, none⟩ = some (.int .i64 ls) := k1.k.r.cell 3
    have z4 : w1.cell? ⟨cb, 4, none⟩ = some (.int .i64 lr) := k1.k.r.cell 4
    have zf := k1.k.r.free
    have zl := k1.k.r.size
    have k2 : C9 W1 ts pb blk off cap cb v cs [.int .u8 co, .int .u8 xk, .int .i64 xn, .int .i64 xs, .int .i64 xr, .int .u8 rk, .int .i64 rn, .int .i64 rs, .int .i64 rr] at2
        ((((w1.setCell ⟨cb, 1, none⟩ (.int .u8 xk)).setCell ⟨cb, 2, none⟩ (.int .i64 xn)).setCell ⟨cb, 3, none⟩ (.int .i64 xs)).setCell ⟨cb, 4, none⟩ (.int .i64 xr)) := (((k1.set 1 _).set 2 _).set 3 _).set 4 _
    have K2 := Lib.hid k2
    have HP1 := Lib.hid hp1
    have LE2 := Lib.hid (Nat.le_trans hle le2)
    have LC2 := Lib.hid (Nat.le_trans hcs le2)
    have E1 := Lib.hid (eats_term _ _ _ r1)
    clear k1 k2 hp1 g1 q1 h1 r1 C1 HP0 le2
    go_upto_region 4 with (fail)
    generalize (((w1.setCell ⟨cb, 1, none⟩ (.int .u8 xk)).setCell ⟨cb, 2, none⟩ (.int .i64 xn)).setCell ⟨cb, 3, none⟩ (.int .i64 xs)).setCell ⟨cb, 4, none⟩ (.int .i64 xr) = w2 at *
    clear z1 z2 z3 z4 zf zl
    have c2 := parse_take ts pb blk off cap at2 4 (by omega) (by omega) _ K2.out.k.q
    have C2 := Lib.hid c2
    clear c2
    go_wp2_with fail
    rcases r2 : pTake 4 (ts.drop at2) with p | ⟨op, l2⟩
    · refine C2.out.mono ?_
      rintro e w3 h3
      obtain ⟨rfl, g⟩ := h3.err r2
      have hr := RC.bad (ts := ts) (blk := blk) (off := off) (cap := cap) (at0 := at0) ((HG1.out.trans K2.out.k.g).trans g) (HP1.out.trans (by rw [r2]; rfl))
      unfold wrongAt at hr ⊢
      exact ⟨rfl, hr⟩
    have hop := op_small K2.out.k.q r2
    have hw : IntKind.u8.wrap op = op := IntWalk.u8_in _ (by omega)
    have hp2 := HP1.out
    simp only [r2, thenR_ok] at hp2
    refine C2.out.mono ?_
    rintro e w3 h3
    obtain ⟨rfl, g3, at3, le3, rfl, q3⟩ := h3.ok r2
    have k3 := K2.out.move q3 g3
    have z0 : w3.cell? ⟨cb, 0, none⟩ = some (.int .u8 co) := k3.k.r.cell 0
    have zf := k3.k.r.free
    have zl := k3.k.r.size
    have k4 : C9 W1 ts pb blk off cap cb v cs [.int .u8 op, .int .u8 xk, .int .i64 xn, .int .i64 xs, .int .i64 xr, .int .u8 rk, .int .i64 rn, .int .i64 rs, .int .i64 rr] at3
        (w3.setCell ⟨cb, 0, none⟩ (.int .u8 op)) := k3.set 0 _
    have K4 := Lib.hid k4
    have HP2 := Lib.hid hp2
    have LE3 := Lib.hid (Nat.le_trans LE2.out le3)
    have LC3 := Lib.hid (Nat.le_trans LC2.out le3)
    have A3 := Lib.hid le3
    clear k3 k4 hp2 g3 q3 h3 r2 C2 HP1 le3 LE2 LC2 K2
    go_upto_region 5 with (fail)
    generalize w3.setCell ⟨cb, 0, none⟩ (.int .u8 op) = w4 at *
    clear z0 zf zl hw
    have c3 := parse_term ts pb blk off cap at3 w4 K4.out.k.q w.heap.size mb (HKM.out.kept K4.out.k.g HROW.out) hpb
    have C3 := Lib.hid c3
    clear c3
    go_wp2_with fail
    rcases r3 : pTerm (ts.drop at3) with p | ⟨⟨yk, yn, ys, yr⟩, l3⟩
    · refine C3.out.mono ?_
      rintro e w5 h5
      obtain ⟨rfl, g⟩ := h5.err r3
      have hr := RC.bad (ts := ts) (blk := blk) (off := off) (cap := cap) (at0 := at0) ((HG1.out.trans K4.out.k.g).trans g) (HP2.out.trans (by rw [r3]; rfl))
      unfold wrongAt at hr ⊢
      exact ⟨rfl, hr⟩
    have hp3 := HP2.out
    simp only [r3, thenR_ok] at hp3
    refine C3.out.mono ?_
    rintro e w5 h5
    obtain ⟨rfl, g5, at4, le4, rfl, q5⟩ := h5.ok r3
    have k5 := K4.out.move q5 g5
    have z5 : w5.cell? ⟨cb, 5, none⟩ = some (.int .u8 rk) := k5.k.r.cell 5
    have z6 : w5.cell? ⟨cb, 6, none⟩ = some (.int .i64 rn) := k5.k.r.cell 6
    have z7 : w5.cell? ⟨cb, 7, none⟩ = some (.int .i64 rs) := k5.k.r.cell 7
    have z8 : w5.cell? ⟨cb, 8, none⟩ = some (.int .i64 rr) := k5.k.r.cell 8
    have zf := k5.k.r.free
    have zl := k5.k.r.size
    have k6 : C9 W1 ts pb blk off cap cb v cs (cmV ⟨op, ⟨xk, xn, xs, xr⟩, ⟨yk, yn, ys, yr⟩⟩) at4
        ((((w5.setCell ⟨cb, 5, none⟩ (.int .u8 yk)).setCell ⟨cb, 6, none⟩ (.int .i64 yn)).setCell ⟨cb, 7, none⟩ (.int .i64 ys)).setCell ⟨cb, 8, none⟩ (.int .i64 yr)) := (((k5.set 5 _).set 6 _).set 7 _).set 8 _
    have K6 := Lib.hid k6
    have HP3 := Lib.hid hp3
    have E3 := Lib.hid (eats_term _ _ _ r3)
    have LE4 := Lib.hid (Nat.le_trans LE3.out le4)
    have LC4 := Lib.hid (Nat.le_trans LC3.out le4)
    clear k5 k6 hp3 g5 q5 h5 r3 C3 HP2 LE3 LC3 K4
    go_upto_region 6 with (fail)
    generalize (((w5.setCell ⟨cb, 5, none⟩ (.int .u8 yk)).setCell ⟨cb, 6, none⟩ (.int .i64 yn)).setCell ⟨cb, 7, none⟩ (.int .i64 ys)).setCell ⟨cb, 8, none⟩ (.int .i64 yr) = w6 at *
    clear z5 z6 z7 z8 zf zl
    have y0 : w6.cell? ⟨cb, 0, none⟩ = some (.int .u8 op) := K6.out.k.r.cell 0
    have y1 : w6.cell? ⟨cb, 1, none⟩ = some (.int .u8 xk) := K6.out.k.r.cell 1
    have y2 : w6.cell? ⟨cb, 2, none⟩ = some (.int .i64 xn) := K6.out.k.r.cell 2
    have y3 : w6.cell? ⟨cb, 3, none⟩ = some (.int .i64 xs) := K6.out.k.r.cell 3
    have y4 : w6.cell? ⟨cb, 4, none⟩ = some (.int .i64 xr) := K6.out.k.r.cell 4
    have y5 : w6.cell? ⟨cb, 5, none⟩ = some (.int .u8 yk) := K6.out.k.r.cell 5
    have y6 : w6.cell? ⟨cb, 6, none⟩ = some (.int .i64 yn) := K6.out.k.r.cell 6
    have y7 : w6.cell? ⟨cb, 7, none⟩ = some (.int .i64 ys) := K6.out.k.r.cell 7
    have y8 : w6.cell? ⟨cb, 8, none⟩ = some (.int .i64 yr) := K6.out.k.r.cell 8
    have hl4 := K6.out.k.q.lt
    have hlc := LC4.out
    have hn0 : cb + 1 ≤ (w6.alloc (.cells #[.int .u8 op, .int .u8 xk, .int .i64 xn, .int .i64 xs, .int .i64 xr, .int .u8 yk, .int .i64 yn, .int .i64 ys, .int .i64 yr] 31)).heap.size := by have := K6.out.k.r.size; simp; omega
    go_wp2_with (at_builtin; refine wpList_append_own _ rfl (.tmp 18) (.tmp 20) 25 rfl (cb + 1) 31 i0 (.agg #[.int .u8 0, .int .u8 0, .int .i64 0, .int .i64 0, .int .i64 0, .int .u8 0, .int .i64 0, .int .i64 0, .int .i64 0]) 9 72 Tryd.underlying25 hi hz0 hz1 hz2 rfl (by decide) v cs.length (cs.flatMap cmV) rfl (K6.out.alloc _).row ⟨w6.heap.size, 0, none⟩ 1 1 (cmV ⟨op, ⟨xk, xn, xs, xr⟩, ⟨yk, yn, ys, yr⟩⟩) rfl rfl ?c1 ?c2 ?c3 ?c4 hn0 ?_)
    case c1 => exact new_cells w6 (cmV ⟨op, ⟨xk, xn, xs, xr⟩, ⟨yk, yn, ys, yr⟩⟩) 31
    case c2 =>
      intro u hu
      simp only [cmV, List.mem_cons, List.not_mem_nil, or_false] at hu
      rcases hu with rfl | rfl | rfl | rfl | rfl | rfl | rfl | rfl | rfl <;> rfl
    case c3 => unfold maxLen; omega
    case c4 => omega
    intro v' w7 hown' hgrow _
    have k7 := (K6.out.alloc (.cells #[.int .u8 op, .int .u8 xk, .int .i64 xn, .int .i64 xs, .int .i64 xr, .int .u8 yk, .int .i64 yn, .int .i64 ys, .int .i64 yr] 31)).app hgrow hown'
    obtain ⟨t, ht⟩ : ∃ t, ts[at4]? = some t := ⟨_, List.getElem?_eq_getElem hl4⟩
    have c7 := parse_any ts pb blk off cap at4 { data := #[38] } (by decide) (by decide) t ht _ k7.k.q
    replace c7 : Calls Tryd.prog 124 #[.pointer (some ⟨pb, 0, none⟩), .string { data := #[38] }] w7 fun e w' => e = .returned (.int .u8 (anyOf [38] t)) ∧ w7.grownBy w' (some pb) ∧ Q9 ts pb blk off cap (if anyOf [38] t = 0 then at4 else at4 + 1) w' := c7
    have hp7 := HP3.out
    rw [and_at ht] at hp7
    have C7 := Lib.hid c7
    have K7 := Lib.hid k7
    have HP7 := Lib.hid hp7
    clear c7 k7 hp7 hown' hgrow ht y0 y1 y2 y3 y4 y5 y6 y7 y8 HP3 K6
    generalize anyOf [38] t = c at *
    go_wp2_with fail
    refine C7.out.mono ?_
    rintro e w8 ⟨rfl, g8, q8⟩
    have k8 := K7.out.move q8 g8
    have hp8 := HP7.out
    have LE8 := LE4.out
    clear g8 q8 C7 HP7 K7
    by_cases e0 : c = 0
    · subst e0
      simp only [if_true, ne_eq, not_true_eq_false, decide_false, Bool.false_eq_true, if_false] at k8 hp8
      have c9 := parse_sign ts pb blk off cap at4 93 (by decide) { data := #[93] } rfl _ k8.k.q
      have C9' := Lib.hid c9
      have K8 := Lib.hid k8
      have HP8 := Lib.hid hp8
      clear c9 k8 hp8
      go_wp2_with fail
      rcases r9 : pSign 93 (ts.drop at4) with p | ⟨v9, l9⟩
      · refine C9'.out.mono ?_
        rintro e w9 h9
        obtain ⟨rfl, g⟩ := h9.err r9
        have hr := RC.bad (ts := ts) (blk := blk) (off := off) (cap := cap) (at0 := at0) ((HG1.out.trans K8.out.k.g).trans g) (HP8.out.trans (by rw [r9]; rfl))
        unfold wrongAt at hr ⊢
        exact ⟨rfl, hr⟩
      have hp9 := HP8.out
      simp only [r9, thenR_ok] at hp9
      refine C9'.out.mono ?_
      rintro e w9 h9
      obtain ⟨rfl, g9, at9, le9, rfl, q9⟩ := h9.ok r9
      have k9 := K8.out.move q9 g9
      have K9' := Lib.hid k9
      have HP9 := Lib.hid hp9
      clear k9 hp9 g9 q9 h9 r9 C9' HP8 K8
      go_wp2_with fail
      refine jumpU_ret ?_
      go_ret
      have := HG1.out.size
      have := K9'.out.k.n2
      exact RC.good (HG1.out.trans K9'.out.k.g) HP9.out (by omega) K9'.out.k.q (K9'.out.row.mono (by omega))
    · have e1 : (c != 0) = true := by simpa using e0
      rw [if_neg e0] at k8
      rw [show decide (c ≠ 0) = true by simpa using e0, if_pos rfl, List.tail_drop] at hp8
      have hp9 : pCs (ts.drop at0) = thenR (pCs (ts.drop (at4 + 1))) fun cs' l => .ok ((cs ++ [⟨op, ⟨xk, xn, xs, xr⟩, ⟨yk, yn, ys, yr⟩⟩]) ++ cs', l) := by
        rw [hp8]
        cases pCs (ts.drop (at4 + 1)) with
        | error p => rfl
        | ok a => obtain ⟨a, l⟩ := a; simp [thenR]
      have K8 := Lib.hid k8
      have HP9 := Lib.hid hp9
      have hm := k8.k.q.left
      have hm8 := k8.k.q.lt
      have hmle : at1 ≤ at4 := by
        have h1 := E1.out
        have h3 := E3.out
        have h5 := A3.out
        simp only [List.length_drop] at h1 h3
        omega
      clear k8 hp8 hp9 e0
      go_wp2_with fail
      apply wp_goto
      refine ⟨rfl, ⟨W1, mb, cb, v', _, _, _, HG1.out, HKM.out, hpb, K8.out, by omega, by simp; omega, HP9, _, _, _, _, _, _, _, _, _, _, _, _, _, _, _, _, _, _, _, _, _, _, _, _, rfl⟩, ?_⟩
      rw [hm, HM.out]
      omega
  · intro hpass
    have HPASS := Lib.hid hpass
    clear hpass
    go_wp2_with fail
    refine HK.out.mono ?_
    rintro e W1 ⟨mb, rfl, g1, hkm⟩
    have hpl := H.out.pb_lt
    have q1 := H.out.grown g1 (by simp) (by simp)
    have k0 : C9 W1 ts pb blk off cap W1.heap.size (.slice none 0 0) [] (cmV ⟨0, ⟨0, 0, 0, 0⟩, ⟨0, 0, 0, 0⟩⟩) at0 (W1.alloc (.cells #[.int .u8 0, .int .u8 0, .int .i64 0, .int .i64 0, .int .i64 0, .int .u8 0, .int .i64 0, .int .i64 0, .int .i64 0] 31)) :=
      ⟨K9.start q1 31 _, World.ownsRow_nil _ _ _ _⟩
    have K0 := Lib.hid k0
    have hp0 : pCs (ts.drop at0) = thenR (pCs (ts.drop at0)) fun cs' l => .ok ([] ++ cs', l) := by
      cases pCs (ts.drop at0) with
      | error p => rfl
      | ok a => rfl
    have HP := Lib.hid hp0
    have HG := Lib.hid (g1.but (some pb))
    have HKM := Lib.hid hkm
    clear k0 q1 hp0 g1 hkm HK H
    go_wp2_with fail
    refine wp_label ?_
    rename_i hK
    refine hK _ _ (HPASS.out _ _ ⟨W1, mb, W1.heap.size, _, [], _, at0, HG.out, HKM.out, hpl.1, K0.out, Nat.le_refl _, Nat.zero_le _, HP, _, _, _, _, _, _, _, _, _, _, _, _, _, _, _, _, _, _, _, _, _, _, _, _, rfl⟩)
end Go.Proofs.YtafgincpoahefaaDoor

namespace Go.Proofs.YtafgincpoahefaaDoor
open Go.RowKit
attribute [local go_sem] Oper.semAt_some

/-- what a step comes to: its comparisons lie in a row of the call's own -/
def RS (ts : List Tok) (pb blk off cap at0 : Nat) (r : Res St) (w : World) (e : Ending) (w' : World) : Prop :=
  w.grownBy w' (some pb) ∧ match r with
    | .ok (s, l) => ∃ v at1, e = .returned (.agg (stV s v).toArray) ∧ at0 ≤ at1 ∧ ts.drop at1 = l ∧ Q9 ts pb blk off cap at1 w' ∧ w'.ownsRow w.heap.size 31 9 v s.cmps.length (s.cmps.flatMap cmV)
    | .error p => e = wrongAt p
theorem RS.bad {ts : List Tok} {pb blk off cap at0 : Nat} {r : Res St} {w w' : World} {p : Int} (hg : w.grownBy w' (some pb)) (hr : r = .error p) : RS ts pb blk off cap at0 r w (wrongAt p) w' := ⟨hg, by subst hr; rfl⟩
theorem RS.good {ts : List Tok} {pb blk off cap at0 at1 : Nat} {r : Res St} {w w' : World} {s : St} {v : Value} (hg : w.grownBy w' (some pb)) (hr : r = .ok (s, ts.drop at1)) (hle : at0 ≤ at1) (hq : Q9 ts pb blk off cap at1 w')
    (ho : w'.ownsRow w.heap.size 31 9 v s.cmps.length (s.cmps.flatMap cmV)) : RS ts pb blk off cap at0 r w (.returned (.agg (stV s v).toArray)) w' := ⟨hg, by subst hr; exact ⟨v, at1, rfl, hle, rfl, hq, ho⟩⟩
theorem RC.ok {ts : List Tok} {pb blk off cap at0 : Nat} {r : Res (List Cm)} {w w' : World} {e : Ending} {cs : List Cm} {l : List Tok} (h : RC ts pb blk off cap at0 r w e w') (hr : r = .ok (cs, l)) :
    ∃ v at1, e = .returned v ∧ w.grownBy w' (some pb) ∧ at0 ≤ at1 ∧ ts.drop at1 = l ∧ Q9 ts pb blk off cap at1 w' ∧ w'.ownsRow w.heap.size 31 9 v cs.length (cs.flatMap cmV) := by
  subst hr
  obtain ⟨g, v, at1, h1, h2, h3, h4, h5⟩ := h
  exact ⟨v, at1, h1, g, h2, h3, h4, h5⟩
theorem RC.err {ts : List Tok} {pb blk off cap at0 : Nat} {r : Res (List Cm)} {w w' : World} {e : Ending} {p : Int} (h : RC ts pb blk off cap at0 r w e w') (hr : r = .error p) : e = wrongAt p ∧ w.grownBy w' (some pb) := by
  subst hr
  exact ⟨h.2, h.1⟩
theorem isS_any {ts : List Tok} {at0 : Nat} {t : Tok} (ht : ts[at0]? = some t) (c : UInt8) (hc : c.toNat ≠ 0) : isS c.toNat (ts.drop at0) = (anyOf [c] t != 0) := by
  rw [anyOf_one, isS_at ht]
  cases h : ((t.kind == 5) && (t.n == (c.toNat : Int)))
  · rfl
  · have : ((c.toNat : Int) != 0) = true := by simpa using hc
    rw [if_pos rfl, this]
theorem letter_at {ts : List Tok} {at0 : Nat} {t : Tok} (ht : ts[at0]? = some t) (i : Int) : pLetter i (ts.drop at0) = if t.kind = 2 ∧ t.n = i then .ok ((), ts.drop (at0 + 1)) else .error t.at' := by
  rw [drop_at ht]; rfl
theorem pStep_any {ts : List Tok} {at0 : Nat} {t : Tok} (ht : ts[at0]? = some t) (i : Int) : pStep i false (ts.drop at0) = pStepN i false (anyOf [33] t != 0) (ts.drop (if anyOf [33] t = 0 then at0 else at0 + 1)) := by
  have h := isS_any ht 33 (by decide)
  rw [pStep_if, show (33 : Int) = ((33 : UInt8).toNat : Int) from rfl, h]
  by_cases e : anyOf [33] t = 0
  · rw [e]; rfl
  · have e1 : (anyOf [33] t != 0) = true := by simpa using e
    rw [e1, if_pos rfl, if_neg e, List.tail_drop]
theorem pTimes_any {ts : List Tok} {at0 : Nat} {t : Tok} (ht : ts[at0]? = some t) : pTimes (ts.drop at0) = if (anyOf [123] t != 0) = true then thenR (pTake 1 (ts.drop (at0 + 1))) fun a l => thenR (pSign 44 l) fun _ l => thenR (pTake 1 l) fun b l => thenR (pSign 125 l) fun _ l => .ok ((a, b), l) else .ok ((1, 1), ts.drop at0) := by
  have h := isS_any ht 123 (by decide)
  unfold pTimes
  rw [show (123 : Int) = ((123 : UInt8).toNat : Int) from rfl, h, List.tail_drop]
theorem pAsks_any {ts : List Tok} {at0 : Nat} {t : Tok} (ht : ts[at0]? = some t) : pAsks (ts.drop at0) = if (anyOf [91] t != 0) = true then pCs (ts.drop (at0 + 1)) else .ok ([], ts.drop at0) := by
  have h := isS_any ht 91 (by decide)
  rw [pAsks_cs, show (91 : Int) = ((91 : UInt8).toNat : Int) from rfl, h, List.tail_drop]
set_option maxRecDepth 100000 in
set_option maxHeartbeats 8000000 in
theorem parse_step (ts : List Tok) (pb blk off cap at0 : Nat) (i : Int) (w : World) (h : Q9 ts pb blk off cap at0 w) :
    Calls Tryd.prog 123 #[.pointer (some ⟨pb, 0, none⟩), .int .i64 i] w (RS ts pb blk off cap at0 (pStep i false (ts.drop at0)) w) := by
  have k0 := K9.start h 27 #[.bool false, .int .i64 0, .int .i64 0, .int .i64 0, .bool false, .slice none 0 0]
  obtain ⟨t, ht⟩ : ∃ t, ts[at0]? = some t := ⟨_, List.getElem?_eq_getElem h.lt⟩
  have c1 := parse_any ts pb blk off cap at0 { data := #[33] } (by decide) (by decide) t ht _ k0.q
  replace c1 : Calls Tryd.prog 124 #[.pointer (some ⟨pb, 0, none⟩), .string { data := #[33] }] (w.alloc (.cells #[.bool false, .int .i64 0, .int .i64 0, .int .i64 0, .bool false, .slice none 0 0] 27)) fun e w' => e = .returned (.int .u8 (anyOf [33] t)) ∧ _ ∧ Q9 ts pb blk off cap (if anyOf [33] t = 0 then at0 else at0 + 1) w' := c1
  have hp0 := pStep_any ht i
  have hle : at0 ≤ (if anyOf [33] t = 0 then at0 else at0 + 1) := by split <;> omega
  generalize (if anyOf [33] t = 0 then at0 else at0 + 1) = at1 at *
  generalize anyOf [33] t = c at *
  obtain ⟨nt, hnt⟩ : ∃ nt, (c != 0) = nt := ⟨_, rfl⟩
  rw [hnt] at hp0
  unfold pStepN at hp0
  have C1 := Lib.hid c1
  have K0 := Lib.hid k0
  have HP0 := Lib.hid hp0
  clear c1 k0 hp0 h ht
  go_enter Tryd.func123, Tryd.ntmps123
  go_wp2_with fail
  refine C1.out.mono ?_
  rintro e w1 ⟨rfl, g1, q1⟩
  have k1 := K0.out.move q1 g1
  have z0 : w1.cell? ⟨w.heap.size, 0, none⟩ = some (.bool false) := k1.r.cell 0
  have zf := k1.r.free
  have zl := k1.r.size
  have K1 := Lib.hid (k1.setR 0 (.bool nt))
  clear k1 g1 q1 C1 K0
  go_upto_region 2 with (fail)
  generalize w1.setCell ⟨w.heap.size, 0, none⟩ (.bool nt) = w2 at *
  generalize w.heap.size = rb at *
  clear z0 zf zl hnt
  have c2 := parse_take ts pb blk off cap at1 1 (by omega) (by omega) _ K1.out.q
  have C2 := Lib.hid c2
  clear c2
  go_wp2_with fail
  rcases r2 : pTake 1 (ts.drop at1) with p | ⟨k, l2⟩
  · refine C2.out.mono ?_
    rintro e w3 h3
    obtain ⟨rfl, g⟩ := h3.err r2
    have hr := RS.bad (ts := ts) (blk := blk) (off := off) (cap := cap) (at0 := at0) (K1.out.g.trans g) (HP0.out.trans (by rw [r2]; rfl))
    unfold wrongAt at hr ⊢
    exact ⟨rfl, hr⟩
  have hp2 := HP0.out
  simp only [r2, thenR_ok] at hp2
  refine C2.out.mono ?_
  rintro e w3 h3
  obtain ⟨rfl, g3, at2, le2, rfl, q3⟩ := h3.ok r2
  have k3 := K1.out.move q3 g3
  have z1 : w3.cell? ⟨rb, 1, none⟩ = some (.int .i64 0) := k3.r.cell 1
  have zf := k3.r.free
  have zl := k3.r.size
  have K3 := Lib.hid (k3.setR 1 (.int .i64 k))
  have LE2 := Lib.hid (Nat.le_trans hle le2)
  have HP2 := Lib.hid hp2
  clear k3 hp2 g3 q3 h3 r2 C2 HP0 le2 hle K1
  go_upto_region 3 with (fail)
  generalize w3.setCell ⟨rb, 1, none⟩ (.int .i64 k) = w4 at *
  clear z1 zf zl
  obtain ⟨t, ht⟩ : ∃ t, ts[at2]? = some t := ⟨_, List.getElem?_eq_getElem K3.out.q.lt⟩
  have c4 : w4.cell? ⟨pb, 0, none⟩ = some (.slice (some ⟨blk, off + at2 * 3, none⟩) (ts.length - at2) (cap - at2)) := K3.out.q.hold.cell 0
  obtain ⟨t0, t1, t2⟩ := K3.out.q.tok ht
  have hn1 : 0 < ts.length - at2 := by have := K3.out.q.lt; omega
  have cm := fun is => parse_must ts pb blk off cap at2 is t ht w4 K3.out.q
  have ct := parse_take ts pb blk off cap at2 2 (by omega) (by omega) _ K3.out.q
  have hpl := letter_at ht i
  have hpt := pTake_at ht 2
  have CM := Lib.hid cm
  have CT := Lib.hid ct
  have HPL := Lib.hid hpl
  have HPT := Lib.hid hpt
  obtain ⟨kk, kn, kx⟩ := t
  simp only at t0 t1 t2 HPL HPT CM
  obtain ⟨n, hn⟩ : ∃ n, ts.length - at2 = n := ⟨_, rfl⟩
  obtain ⟨o, ho⟩ : ∃ o, off + at2 * 3 = o := ⟨_, rfl⟩
  rw [hn, ho] at c4
  rw [ho] at t0 t1 t2
  rw [hn] at hn1
  clear cm ct hpl hpt ht hn ho
  have bad : ¬ (kk = 2 ∧ kn = i) → RS ts pb blk off cap at0 (pStep i false (ts.drop at0)) w (wrongAt kx) w4 := fun hne => by
    have := HPL.out
    rw [if_neg hne] at this
    exact RS.bad K3.out.g (HP2.out.trans (by rw [this]; rfl))
  have BAD := Lib.hid bad
  clear bad
  by_cases hk : kk = 2
  case neg =>
    have e1 : (kk == 2) = false := by simpa using hk
    have hr := BAD.out (fun h => hk h.1)
    go_wp2_with fail
    refine (CM.out false).mono ?_
    rintro e w5 ⟨rfl, he⟩
    obtain rfl : e = wrongAt kx := by simpa using he
    unfold wrongAt at hr ⊢
    exact ⟨rfl, hr⟩
  subst hk
  by_cases hi : kn = i
  case neg =>
    have e1 : (kn == i) = false := by simpa using hi
    have hr := BAD.out (fun h => hi h.2)
    clear hi
    go_wp2_with fail
    refine (CM.out false).mono ?_
    rintro e w5 ⟨rfl, he⟩
    obtain rfl : e = wrongAt kx := by simpa using he
    unfold wrongAt at hr ⊢
    exact ⟨rfl, hr⟩
  subst hi
  have hpl := HPL.out
  rw [if_pos ⟨rfl, rfl⟩] at hpl
  have hpt := HPT.out
  rw [if_pos rfl, if_neg (by decide)] at hpt
  have hp4 := HP2.out
  simp only [hpl, thenR_ok] at hp4
  have HP4 := Lib.hid hp4
  have HPT' := Lib.hid hpt
  clear hpl hpt hp4 HP2 HPL HPT BAD
  go_wp2_with fail
  refine (CM.out true).mono ?_
  rintro e w5 ⟨rfl, he⟩
  obtain rfl : e = .returned (.tuple #[]) := by simpa using he
  clear CM
  go_wp2_with fail
  refine CT.out.mono ?_
  rintro e w6 h6
  obtain ⟨rfl, g6, at6, le6, hd6, q6⟩ := h6.ok HPT'.out
  have k6 := K3.out.move q6 g6
  have hp6 := HP4.out
  rw [← hd6] at hp6
  obtain ⟨t, ht⟩ : ∃ t, ts[at6]? = some t := ⟨_, List.getElem?_eq_getElem q6.lt⟩
  rw [pTimes_any ht] at hp6
  have z2 : w6.cell? ⟨rb, 2, none⟩ = some (.int .i64 0) := k6.r.cell 2
  have z3 : w6.cell? ⟨rb, 3, none⟩ = some (.int .i64 0) := k6.r.cell 3
  have zf := k6.r.free
  have zl := k6.r.size
  have K6 := Lib.hid ((k6.setR 2 (.int .i64 1)).setR 3 (.int .i64 1))
  have HP6 := Lib.hid hp6
  have LE6 := Lib.hid (Nat.le_trans LE2.out le6)
  clear k6 hp6 g6 q6 h6 hd6 HP4 HPT' CT K3 c4 t0 t1 t2 le6 LE2
  go_upto_region 6 with (fail)
  generalize (w6.setCell ⟨rb, 2, none⟩ (.int .i64 1)).setCell ⟨rb, 3, none⟩ (.int .i64 1) = w7 at *
  clear z2 z3 zf zl
  have c7 := parse_any ts pb blk off cap at6 { data := #[123] } (by decide) (by decide) t ht _ K6.out.q
  replace c7 : Calls Tryd.prog 124 #[.pointer (some ⟨pb, 0, none⟩), .string { data := #[123] }] w7 fun e w' => e = .returned (.int .u8 (anyOf [123] t)) ∧ w7.grownBy w' (some pb) ∧ Q9 ts pb blk off cap (if anyOf [123] t = 0 then at6 else at6 + 1) w' := c7
  have C7 := Lib.hid c7
  clear c7 ht
  generalize anyOf [123] t = c2 at *
  go_upto_if 39 with (fail)
  refine C7.out.mono ?_
  rintro e w8 ⟨rfl, g8, q8⟩
  have K8 := Lib.hid (K6.out.move q8 g8)
  clear g8 q8 C7 K6
  go_upto_if 39 with (fail)
  go_cut [] (fun wc => ∃ (mn mx : Int) (at7 : Nat), K9 w ts pb blk off cap 27 rb #[.bool nt, .int .i64 k, .int .i64 mn, .int .i64 mx, .bool false, .slice none 0 0] at7 wc ∧ at0 ≤ at7 ∧ Hid (pStep kn false (ts.drop at0) = thenR (pAsks (ts.drop at7)) fun cs l4 => .ok (⟨nt, k, mn, mx, false, cs⟩, l4)))
  case first =>
    have hp8 := HP6.out
    have k8 := K8.out
    by_cases e0 : c2 = 0
    · subst e0
      simp only [if_true] at k8
      have HP8 := Lib.hid (show pStep kn false (ts.drop at0) = thenR (pAsks (ts.drop at6)) fun cs l4 => .ok (⟨nt, k, 1, 1, false, cs⟩, l4) from hp8)
      have K8' := Lib.hid k8
      clear hp8 k8 K8 HP6
      go_wp2_with fail
      go_meet
      exact ⟨1, 1, at6, K8'.out, LE6.out, HP8⟩
    · have e1 : (c2 != 0) = true := by simpa using e0
      rw [if_neg e0] at k8
      rw [if_pos e1] at hp8
      have K8' := Lib.hid k8
      have HP8 := Lib.hid hp8
      have c9 := parse_take ts pb blk off cap (at6 + 1) 1 (by omega) (by omega) _ k8.q
      have C9' := Lib.hid c9
      clear c9 k8 hp8 K8 HP6 e0
      go_wp2_with fail
      rcases r9 : pTake 1 (ts.drop (at6 + 1)) with p | ⟨mn, l9⟩
      · refine C9'.out.mono ?_
        rintro e w9 h9
        obtain ⟨rfl, g⟩ := h9.err r9
        have hr := RS.bad (ts := ts) (blk := blk) (off := off) (cap := cap) (at0 := at0) (K8'.out.g.trans g) (HP8.out.trans (by rw [r9]; rfl))
        unfold wrongAt at hr ⊢
        exact ⟨rfl, hr⟩
      have hp9 := HP8.out
      simp only [r9, thenR_ok] at hp9
      refine C9'.out.mono ?_
      rintro e w9 h9
      obtain ⟨rfl, g9, at9, le9, rfl, q9⟩ := h9.ok r9
      have k9 := K8'.out.move q9 g9
      have z2 : w9.cell? ⟨rb, 2, none⟩ = some (.int .i64 1) := k9.r.cell 2
      have zf := k9.r.free
      have zl := k9.r.size
      have K9' := Lib.hid (k9.setR 2 (.int .i64 mn))
      have LE9 := Lib.hid (show at0 ≤ at9 by have := LE6.out; omega)
      have HP9 := Lib.hid hp9
      clear k9 hp9 g9 q9 h9 r9 C9' HP8 K8' le9
      go_upto_region 8 with (fail)
      generalize w9.setCell ⟨rb, 2, none⟩ (.int .i64 mn) = w10 at *
      clear z2 zf zl
      have c10 := parse_sign ts pb blk off cap at9 44 (by decide) { data := #[44] } rfl _ K9'.out.q
      have C10 := Lib.hid c10
      clear c10
      go_wp2_with fail
      rcases r10 : pSign 44 (ts.drop at9) with p | ⟨v10, l10⟩
      · refine C10.out.mono ?_
        rintro e w11 h11
        obtain ⟨rfl, g⟩ := h11.err r10
        have hr := RS.bad (ts := ts) (blk := blk) (off := off) (cap := cap) (at0 := at0) (K9'.out.g.trans g) (HP9.out.trans (by rw [r10]; rfl))
        unfold wrongAt at hr ⊢
        exact ⟨rfl, hr⟩
      have hp10 := HP9.out
      simp only [r10, thenR_ok] at hp10
      refine C10.out.mono ?_
      rintro e w11 h11
      obtain ⟨rfl, g11, at11, le11, rfl, q11⟩ := h11.ok r10
      have K11 := Lib.hid (K9'.out.move q11 g11)
      have c11 := parse_take ts pb blk off cap at11 1 (by omega) (by omega) _ q11
      have C11 := Lib.hid c11
      have LE11 := Lib.hid (Nat.le_trans LE9.out le11)
      have HP10 := Lib.hid hp10
      clear c11 hp10 g11 q11 h11 r10 C10 HP9 K9' le11
      go_wp2_with fail
      rcases r12 : pTake 1 (ts.drop at11) with p | ⟨mx, l12⟩
      · refine C11.out.mono ?_
        rintro e w12 h12
        obtain ⟨rfl, g⟩ := h12.err r12
        have hr := RS.bad (ts := ts) (blk := blk) (off := off) (cap := cap) (at0 := at0) (K11.out.g.trans g) (HP10.out.trans (by rw [r12]; rfl))
        unfold wrongAt at hr ⊢
        exact ⟨rfl, hr⟩
      have hp12 := HP10.out
      simp only [r12, thenR_ok] at hp12
      refine C11.out.mono ?_
      rintro e w12 h12
      obtain ⟨rfl, g12, at12, le12, rfl, q12⟩ := h12.ok r12
      have k12 := K11.out.move q12 g12
      have z3 : w12.cell? ⟨rb, 3, none⟩ = some (.int .i64 1) := k12.r.cell 3
      have zf := k12.r.free
      have zl := k12.r.size
      have K12 := Lib.hid (k12.setR 3 (.int .i64 mx))
      have LE12 := Lib.hid (Nat.le_trans LE11.out le12)
      have HP12 := Lib.hid hp12
      clear k12 hp12 g12 q12 h12 r12 C11 HP10 K11 le12
      go_upto_region 10 with (fail)
      generalize w12.setCell ⟨rb, 3, none⟩ (.int .i64 mx) = w13 at *
      clear z3 zf zl
      have c13 := parse_sign ts pb blk off cap at12 125 (by decide) { data := #[125] } rfl _ K12.out.q
      have C13 := Lib.hid c13
      clear c13
      go_wp2_with fail
      rcases r13 : pSign 125 (ts.drop at12) with p | ⟨v13, l13⟩
      · refine C13.out.mono ?_
        rintro e w14 h14
        obtain ⟨rfl, g⟩ := h14.err r13
        have hr := RS.bad (ts := ts) (blk := blk) (off := off) (cap := cap) (at0 := at0) (K12.out.g.trans g) (HP12.out.trans (by rw [r13]; rfl))
        unfold wrongAt at hr ⊢
        exact ⟨rfl, hr⟩
      have hp13 := HP12.out
      simp only [r13, thenR_ok] at hp13
      refine C13.out.mono ?_
      rintro e w14 h14
      obtain ⟨rfl, g14, at14, le14, rfl, q14⟩ := h14.ok r13
      have K14 := Lib.hid (K12.out.move q14 g14)
      have HP14 := Lib.hid hp13
      have LE14 := Lib.hid (Nat.le_trans LE12.out le14)
      clear g14 q14 h14 r13 C13 hp13 HP12 K12 le14
      go_wp2_with fail
      go_meet
      exact ⟨mn, mx, at14, K14.out, LE14.out, HP14⟩
  case rest =>
    obtain ⟨mn, mx, at7, k7, le7, HP7⟩ := hcut
    obtain ⟨t, ht⟩ : ∃ t, ts[at7]? = some t := ⟨_, List.getElem?_eq_getElem k7.q.lt⟩
    have hp7 := HP7.out
    rw [pAsks_any ht] at hp7
    have c9 := parse_any ts pb blk off cap at7 { data := #[91] } (by decide) (by decide) t ht _ k7.q
    replace c9 : Calls Tryd.prog 124 #[.pointer (some ⟨pb, 0, none⟩), .string { data := #[91] }] wc fun e w' => e = .returned (.int .u8 (anyOf [91] t)) ∧ wc.grownBy w' (some pb) ∧ Q9 ts pb blk off cap (if anyOf [91] t = 0 then at7 else at7 + 1) w' := c9
    have C9' := Lib.hid c9
    have K7 := Lib.hid k7
    have LE7 := Lib.hid le7
    have HP9 := Lib.hid hp7
    clear c9 k7 le7 hp7 ht HP7 HP6 K8 LE6
    generalize anyOf [91] t = c3 at *
    go_wp2_with fail
    refine C9'.out.mono ?_
    rintro e w9 ⟨rfl, g9, q9⟩
    have k9 := K7.out.move q9 g9
    have hp9 := HP9.out
    clear g9 q9 C9' HP9
    by_cases e0 : c3 = 0
    · subst e0
      simp only [if_true] at k9
      have hp10 : pStep kn false (ts.drop at0) = .ok (⟨nt, k, mn, mx, false, []⟩, ts.drop at7) := hp9
      have z0 : w9.cell? ⟨rb, 0, none⟩ = some (.bool nt) := k9.r.cell 0
      have z1 : w9.cell? ⟨rb, 1, none⟩ = some (.int .i64 k) := k9.r.cell 1
      have z2 : w9.cell? ⟨rb, 2, none⟩ = some (.int .i64 mn) := k9.r.cell 2
      have z3 : w9.cell? ⟨rb, 3, none⟩ = some (.int .i64 mx) := k9.r.cell 3
      have z4 : w9.cell? ⟨rb, 4, none⟩ = some (.bool false) := k9.r.cell 4
      have z5 : w9.cell? ⟨rb, 5, none⟩ = some (.slice none 0 0) := k9.r.cell 5
      have zf := k9.r.free
      have zl := k9.r.size
      have HP10 := Lib.hid hp10
      have KF := Lib.hid ((((((k9.setR 0 (.bool nt)).setR 1 (.int .i64 k)).setR 2 (.int .i64 mn)).setR 3 (.int .i64 mx)).setR 4 (.bool false)).setR 5 (.slice none 0 0))
      clear k9 hp9 hp10
      go_wp2_with fail
      refine bodyPost_ret (results_one9 rfl _ _ rb 27 #[.bool nt, .int .i64 k, .int .i64 mn, .int .i64 mx, .bool false, .slice none 0 0] _ rfl KF.out.r Tryd.underlying27 rfl (by kernel_rfl)) rfl ?_
      exact RS.good (s := ⟨nt, k, mn, mx, false, []⟩) (v := .slice none 0 0) KF.out.g HP10.out LE7.out KF.out.q (World.ownsRow_nil _ _ _ _)
    · have e1 : (c3 != 0) = true := by simpa using e0
      rw [if_neg e0] at k9
      rw [if_pos e1] at hp9
      have c10 := parse_cmps ts pb blk off cap (at7 + 1) _ k9.q
      have C10 := Lib.hid c10
      have K9' := Lib.hid k9
      have HP10 := Lib.hid hp9
      clear c10 k9 hp9 e0
      go_wp2_with fail
      rcases r10 : pCs (ts.drop (at7 + 1)) with p | ⟨cs, l10⟩
      · refine C10.out.mono ?_
        rintro e w10 h10
        obtain ⟨rfl, g⟩ := h10.err r10
        have hr := RS.bad (ts := ts) (blk := blk) (off := off) (cap := cap) (at0 := at0) (K9'.out.g.trans g) (HP10.out.trans (by rw [r10]; rfl))
        unfold wrongAt at hr ⊢
        exact ⟨rfl, hr⟩
      have hp11 := HP10.out
      simp only [r10, thenR_ok] at hp11
      refine C10.out.mono ?_
      rintro e w10 h10
      obtain ⟨v, at10, rfl, g10, le10, rfl, q10, o10⟩ := h10.ok r10
      have k10 := K9'.out.move q10 g10
      have hsz := K9'.out.g.size
      have hrb : rb < w9.heap.size := K9'.out.r.size
      have z0 : w10.cell? ⟨rb, 0, none⟩ = some (.bool nt) := k10.r.cell 0
      have z1 : w10.cell? ⟨rb, 1, none⟩ = some (.int .i64 k) := k10.r.cell 1
      have z2 : w10.cell? ⟨rb, 2, none⟩ = some (.int .i64 mn) := k10.r.cell 2
      have z3 : w10.cell? ⟨rb, 3, none⟩ = some (.int .i64 mx) := k10.r.cell 3
      have z4 : w10.cell? ⟨rb, 4, none⟩ = some (.bool false) := k10.r.cell 4
      have z5 : w10.cell? ⟨rb, 5, none⟩ = some (.slice none 0 0) := k10.r.cell 5
      have zf := k10.r.free
      have zl := k10.r.size
      have HP11 := Lib.hid hp11
      have O10 := Lib.hid o10
      have LE10 := Lib.hid (show at0 ≤ at10 by have := LE7.out; omega)
      have KF := Lib.hid (((((((k10.setR 5 v).setR 0 (.bool nt)).setR 1 (.int .i64 k)).setR 2 (.int .i64 mn)).setR 3 (.int .i64 mx)).setR 4 (.bool false)).setR 5 v)
      obtain ⟨a, vc, rfl, -, -, -, -⟩ := cmps_of_row o10
      clear k10 hp11 g10 q10 h10 r10 C10 le10 o10
      go_wp2_with fail
      refine bodyPost_ret (results_one9 rfl _ _ rb 27 #[.bool nt, .int .i64 k, .int .i64 mn, .int .i64 mx, .bool false, .slice a cs.length vc] _ rfl KF.out.r Tryd.underlying27 rfl (by kernel_rfl)) rfl ?_
      refine RS.good (s := ⟨nt, k, mn, mx, false, cs⟩) (v := .slice a cs.length vc) KF.out.g HP11.out LE10.out KF.out.q ?_
      have hs : ∀ (W : World) (i : Nat) (x : Value), W.ownsRow w9.heap.size 31 9 (.slice a cs.length vc) cs.length (cs.flatMap cmV) → (W.setCell ⟨rb, i, none⟩ x).ownsRow w9.heap.size 31 9 (.slice a cs.length vc) cs.length (cs.flatMap cmV) := fun W i x h =>
        h.kept (Lib.grownBy_setCell W rb i x) (.inr (row_far h hrb).symm)
      exact (hs _ _ _ (hs _ _ _ (hs _ _ _ (hs _ _ _ (hs _ _ _ (hs _ _ _ (hs _ _ _ O10.out))))))).mono hsz
end Go.Proofs.YtafgincpoahefaaDoor

namespace Go.Proofs.YtafgincpoahefaaDoor
open Go.RowKit
attribute [local go_sem] Oper.semAt_some

theorem step_info' : (Tryd.prog.info? 27).map (fun i => (i.zero, i.size, i.bytes)) = some (some (.agg #[.bool false, .int .i64 0, .int .i64 0, .int .i64 0, .bool false, .slice none 0 0]), 6, 64) := by kernel_rfl
/-- a pattern that is being made, in block ob -/
structure V9 (w : World) (ts : List Tok) (pb blk off cap ob : Nat) (L : List (St × Value)) (v : Value) (win : Int) (at0 : Nat) (W : World) : Prop where
  k : K9 w ts pb blk off cap 24 ob #[v, .int .i64 win] at0 W
  row : W.ownsRow (ob + 1) 27 6 v L.length (stCells L)
  cm : ∀ p ∈ L, W.ownsRow (ob + 1) 31 9 p.2 p.1.cmps.length (p.1.cmps.flatMap cmV)
section
variable {w W W' : World} {ts : List Tok} {pb blk off cap ob at0 at1 : Nat} {L : List (St × Value)} {v v' : Value} {win : Int}
theorem V9.move (h : V9 w ts pb blk off cap ob L v win at0 W) (hq : Q9 ts pb blk off cap at1 W') (hg : W.grownBy W' (some pb)) : V9 w ts pb blk off cap ob L v win at1 W' :=
  ⟨h.k.move hq hg, h.row.kept hg (.inr (row_far h.row (by have := h.k.n1; have := h.k.n2; omega)).symm), fun p hp => (h.cm p hp).kept hg (.inr (row_far (h.cm p hp) (by have := h.k.n1; have := h.k.n2; omega)).symm)⟩
theorem V9.alloc (h : V9 w ts pb blk off cap ob L v win at0 W) (o : Obj) : V9 w ts pb blk off cap ob L v win at0 (W.alloc o) := h.move (h.k.q.alloc o) (World.grownBy_alloc _ _ _)
theorem V9.setW (h : V9 w ts pb blk off cap ob L v win at0 W) (x : Int) : V9 w ts pb blk off cap ob L v x at0 (W.setCell ⟨ob, 1, none⟩ (.int .i64 x)) :=
  ⟨h.k.setR 1 _, h.row.kept (Lib.grownBy_setCell W ob 1 _) (.inr (row_far h.row (Nat.lt_succ_self _)).symm), fun p hp => (h.cm p hp).kept (Lib.grownBy_setCell W ob 1 _) (.inr (row_far (h.cm p hp) (Nat.lt_succ_self _)).symm)⟩
/-- a cell of a block of another type, or far ahead -/
theorem V9.far (h : V9 w ts pb blk off cap ob L v win at0 W) {b : Nat} {t : TypeId} {cs : Array Value} (hb : Holds W b t cs) (h1 : t ≠ 27) (h2 : t ≠ 31) (h3 : b ≠ pb) (h4 : b ≠ blk) (h5 : b ≠ ob) (h6 : w.heap.size ≤ b) (i : Nat) (x : Value) :
    V9 w ts pb blk off cap ob L v win at0 (W.setCell ⟨b, i, none⟩ x) := by
  have hg := Lib.grownBy_setCell W b i x
  exact ⟨⟨h.k.q.far (Ne.symm h3) (Ne.symm h4) x, h.k.r.grown hg (fun e => h5 (Option.some.inj e).symm), h.k.g.andThen hg (fun j e => .inl (by cases e; exact h6)), h.k.n1, h.k.n2⟩,
    h.row.kept hg (.inr (holds_not_row hb h1 h.row).symm), fun p hp => (h.cm p hp).kept hg (.inr (holds_not_row hb h2 (h.cm p hp)).symm)⟩
theorem V9.app (h : V9 w ts pb blk off cap ob L v win at0 W) {s : St} {u : Value} (hc : W.ownsRow (ob + 1) 31 9 u s.cmps.length (s.cmps.flatMap cmV)) (hg : W.grownBy W' v.ownBlock)
    (hr : W'.ownsRow (ob + 1) 27 6 v' (L.length + 1) (stCells L ++ stV s u)) : V9 w ts pb blk off cap ob (L ++ [(s, u)]) v' win at0 (W'.setCell ⟨ob, 0, none⟩ v') := by
  have n1 := h.k.n1
  have n2 := h.k.n2
  have hcm : ∀ p ∈ L ++ [(s, u)], W.ownsRow (ob + 1) 31 9 p.2 p.1.cmps.length (p.1.cmps.flatMap cmV) := fun p hp => by
    rcases List.mem_append.1 hp with hp | hp
    · exact h.cm p hp
    · obtain rfl := List.mem_singleton.1 hp; exact hc
  have hcm' : ∀ p ∈ L ++ [(s, u)], W'.ownsRow (ob + 1) 31 9 p.2 p.1.cmps.length (p.1.cmps.flatMap cmV) := fun p hp => (hcm p hp).kept hg (rows_apart (hcm p hp) h.row (by decide))
  have hs := Lib.grownBy_setCell W' ob 0 v'
  have hk : K9 w ts pb blk off cap 24 ob #[v, .int .i64 win] at0 W' :=
    ⟨h.k.q.grown hg (row_far h.row (by omega)) (row_far h.row (by omega)), h.k.r.grown hg (row_far h.row (by omega)), h.k.g.andThen hg (fun j e => .inl (Nat.le_trans (by omega) (h.row.lt j e).1)), n1, n2⟩
  refine ⟨hk.setR 0 v', ?_, fun p hp => (hcm' p hp).kept hs (.inr (row_far (hcm' p hp) (Nat.lt_succ_self _)).symm)⟩
  have e : stCells (L ++ [(s, u)]) = stCells L ++ stV s u := by simp [stCells]
  rw [e, List.length_append]
  exact hr.kept hs (.inr (row_far hr (Nat.lt_succ_self _)).symm)
end
/-- what a pattern comes to: its steps and their comparisons lie in rows of the call's own -/
def RP (pb : Nat) (r : Res Pt) (w : World) (e : Ending) (w' : World) : Prop :=
  w.grownBy w' (some pb) ∧ match r with
    | .ok (p, _) => ∃ v L, e = .returned (.agg #[v, .int .i64 p.window]) ∧ L.map Prod.fst = p.steps ∧ w'.ownsRow w.heap.size 27 6 v L.length (stCells L) ∧ ∀ q ∈ L, w'.ownsRow w.heap.size 31 9 q.2 q.1.cmps.length (q.1.cmps.flatMap cmV)
    | .error p => e = wrongAt p
theorem RP.bad {pb : Nat} {r : Res Pt} {w w' : World} {p : Int} (hg : w.grownBy w' (some pb)) (hr : r = .error p) : RP pb r w (wrongAt p) w' := ⟨hg, by subst hr; rfl⟩
theorem RS.ok {ts : List Tok} {pb blk off cap at0 : Nat} {r : Res St} {w w' : World} {e : Ending} {s : St} {l : List Tok} (h : RS ts pb blk off cap at0 r w e w') (hr : r = .ok (s, l)) :
    ∃ v at1, e = .returned (.agg #[.bool s.neg, .int .i64 s.kind, .int .i64 s.min, .int .i64 s.max, .bool s.strict, v]) ∧ w.grownBy w' (some pb) ∧ at0 ≤ at1 ∧ ts.drop at1 = l ∧ Q9 ts pb blk off cap at1 w' ∧ w'.ownsRow w.heap.size 31 9 v s.cmps.length (s.cmps.flatMap cmV) := by
  subst hr
  obtain ⟨g, v, at1, h1, h2, h3, h4, h5⟩ := h
  exact ⟨v, at1, h1, g, h2, h3, h4, h5⟩
theorem RS.err {ts : List Tok} {pb blk off cap at0 : Nat} {r : Res St} {w w' : World} {e : Ending} {p : Int} (h : RS ts pb blk off cap at0 r w e w') (hr : r = .error p) : e = wrongAt p ∧ w.grownBy w' (some pb) := by
  subst hr
  exact ⟨h.2, h.1⟩
theorem pStep_strict (i : Int) (strict : Bool) (l : List Tok) : pStep i strict l = thenR (pStep i false l) fun s l => .ok (⟨s.neg, s.kind, s.min, s.max, strict, s.cmps⟩, l) := by
  unfold pStep
  cases pTake 1 (if isS 33 l = true then l.tail else l) with
  | error p => rfl
  | ok a =>
    obtain ⟨k, l1⟩ := a
    simp only [thenR_ok]
    cases pLetter i l1 with
    | error p => rfl
    | ok a =>
      obtain ⟨_, l2⟩ := a
      simp only [thenR_ok]
      cases pTimes l2 with
      | error p => rfl
      | ok a =>
        obtain ⟨ab, l3⟩ := a
        simp only [thenR_ok]
        cases pAsks l3 with
        | error p => rfl
        | ok a => rfl
theorem step_strict {i : Int} {l l' : List Tok} {s : St} (h : pStep i false l = .ok (s, l')) : s.strict = false := by
  unfold pStep at h
  obtain ⟨_, _, _, h⟩ := then_inv h
  obtain ⟨_, _, _, h⟩ := then_inv h
  obtain ⟨_, _, _, h⟩ := then_inv h
  obtain ⟨_, _, _, h⟩ := then_inv h
  cases h
  rfl
theorem seps_at {ts : List Tok} {at0 : Nat} {t : Tok} (ht : ts[at0]? = some t) {β : Type} (f g : List Tok → Res β) (h : Res β) :
    (if isS 59 (ts.drop at0) = true then f (ts.drop at0).tail else if isS 44 (ts.drop at0) = true then g (ts.drop at0).tail else h) =
      if anyOf [59, 44] t = 0 then h else if (anyOf [59, 44] t == 44) = true then g (ts.drop (at0 + 1)) else f (ts.drop (at0 + 1)) := by
  rw [isS_at ht, isS_at ht, List.tail_drop]
  unfold anyOf
  by_cases e5 : t.kind = 5
  · by_cases e1 : t.n = 59
    · rw [if_pos (by simp [e5, e1]), if_pos (c := _ ∧ _) ⟨e5, 59, by simp, by rw [e1]; rfl⟩, e1, if_neg (by decide), if_neg (by decide)]
    · by_cases e2 : t.n = 44
      · rw [if_neg (by simp [e1]), if_pos (by simp [e5, e2]), if_pos (c := _ ∧ _) ⟨e5, 44, by simp, by rw [e2]; rfl⟩, e2, if_neg (by decide), if_pos (by decide)]
      · have hn : ¬ (t.kind = 5 ∧ ∃ c ∈ ([59, 44] : List UInt8), t.n = c.toNat) := by
          rintro ⟨_, c, hc, hcn⟩
          simp only [List.mem_cons, List.not_mem_nil, or_false] at hc
          rcases hc with rfl | rfl
          · exact e1 hcn
          · exact e2 hcn
        rw [if_neg (by simp [e1]), if_neg (by simp [e2]), if_neg hn, if_pos rfl]
  · rw [if_neg (by simp [e5]), if_neg (by simp [e5]), if_neg (c := _ ∧ _) (fun h => e5 h.1), if_pos rfl]
/-- where a round begins -/
def PL (w : World) (ts : List Tok) (pb blk off cap at0 ob : Nat) (a : Act) (wr : World) : Prop := ∃ (L : List (St × Value)) (v : Value) (c : Int) (strict : Bool) (at1 : Nat),
  V9 w ts pb blk off cap ob L v 0 at1 wr ∧ at0 ≤ at1 ∧ L.length ≤ at1 ∧ (c == 44) = strict ∧ Hid (pSs 0 false (ts.drop at0) = thenR (pSs L.length strict (ts.drop at1)) fun ss l => .ok (L.map Prod.fst ++ ss, l)) ∧
  ∃ u1 u4 u5 u6 u7 u8 u9 u10 u11 u12 u13 u14 u15 u16 u17 u18 u19 u20 u21 u22 u23 u24 u25 u26 u27 u28 u29 u30 : Value, a = { tmps := #[.pointer (some ⟨pb, 0, none⟩), u1, .pointer (some ⟨ob, 0, none⟩), .int .u8 c, u4, u5, u6, u7, u8, u9, u10, u11, u12, u13, u14, u15, u16, u17, u18, u19, u20, u21, u22, u23, u24, u25, u26, u27, u28, u29, u30], defers := [] }
set_option maxRecDepth 100000 in
set_option maxHeartbeats 8000000 in
theorem parse_pattern (ts : List Tok) (pb blk off cap at0 : Nat) (w : World) (h : Q9 ts pb blk off cap at0 w) :
    Calls Tryd.prog 94 #[.pointer (some ⟨pb, 0, none⟩)] w (RP pb (pPat (ts.drop at0)) w) := by
  obtain ⟨i0, hi, hz0, hz1, hz2⟩ := info_parts step_info'
  have H := Lib.hid h
  have HPP := Lib.hid (pPat_eq (ts.drop at0))
  clear h
  go_enter Tryd.func94, Tryd.ntmps94
  go_wp2_with fail
  refine wp_scope_back 0 (PL w ts pb blk off cap at0 w.heap.size) (fun _ wr => leftP pb wr) rfl ?_ ?_
  · rintro a wr ⟨L, v, c, strict, at1, hv, hle, hcs, hst, HP, u1, u4, u5, u6, u7, u8, u9, u10, u11, u12, u13, u14, u15, u16, u17, u18, u19, u20, u21, u22, u23, u24, u25, u26, u27, u28, u29, u30, rfl⟩
    have hlen := hv.k.q.len
    have hlt := hv.k.q.lt
    have HM := Lib.hid hv.k.q.left
    have z0 : wr.cell? ⟨w.heap.size, 0, none⟩ = some v := hv.k.r.cell 0
    have c1 := parse_step ts pb blk off cap at1 (L.length : Int) wr hv.k.q
    have C1 := Lib.hid c1
    have hp0 := HP.out
    rw [pSs_eq L.length strict (ts.drop at1), pStep_strict] at hp0
    have HP0 := Lib.hid hp0
    have HV := Lib.hid hv
    obtain ⟨g, vcap, rfl⟩ := ownsRow_form hv.row
    clear c1 hv hp0 HP H
    obtain ⟨ob, hob⟩ : ∃ ob, w.heap.size = ob := ⟨_, rfl⟩
    rw [hob] at z0 HV ⊢
    have HOB := Lib.hid hob
    clear hob
    go_wp2_with fail
    rcases r1 : pStep (L.length : Int) false (ts.drop at1) with p | ⟨⟨nt, k, mn, mx, st0, cs⟩, l1⟩
    · refine C1.out.mono ?_
      rintro e w1 h1
      obtain ⟨rfl, g⟩ := h1.err r1
      have hr := RP.bad (HV.out.k.g.trans g) (HPP.out.trans (by rw [HP0.out, r1]; rfl))
      unfold wrongAt at hr ⊢
      exact ⟨rfl, hr⟩
    have hs0 : st0 = false := step_strict r1
    subst hs0
    have hp1 := HP0.out
    simp only [r1, thenR_ok] at hp1
    refine C1.out.mono ?_
    rintro e w1 h1
    obtain ⟨u, at2, rfl, g1, le2, rfl, q1, o1⟩ := h1.ok r1
    obtain ⟨ua, uc, rfl, -, -, -, -⟩ := cmps_of_row o1
    simp only at o1
    have v1 := HV.out.move q1 g1
    have V1 := Lib.hid v1
    have O1 := Lib.hid (o1.mono (show ob + 1 ≤ wr.heap.size from HV.out.k.r.size))
    have HP1 := Lib.hid hp1
    have LE2 := Lib.hid (Nat.le_trans hle le2)
    have E1 := Lib.hid (eats_step _ _ _ _ _ r1)
    clear v1 hp1 g1 q1 h1 r1 C1 HP0 le2 o1 z0 HV
    go_upto_region 4 with (fail)
    have zz := Holds.fresh w1 27 #[.bool nt, .int .i64 k, .int .i64 mn, .int .i64 mx, .bool strict, .slice ua cs.length uc]
    have v2 := V1.out.alloc (.cells #[.bool nt, .int .i64 k, .int .i64 mn, .int .i64 mx, .bool strict, .slice ua cs.length uc] 27)
    have o2 := O1.out.alloc (.cells #[.bool nt, .int .i64 k, .int .i64 mn, .int .i64 mx, .bool strict, .slice ua cs.length uc] 27)
    generalize w1.alloc (.cells #[.bool nt, .int .i64 k, .int .i64 mn, .int .i64 mx, .bool strict, .slice ua cs.length uc] 27) = w2 at *
    obtain ⟨sb, hsb⟩ : ∃ sb, w1.heap.size = sb := ⟨_, rfl⟩
    rw [hsb] at zz ⊢
    have x0 : w2.cell? ⟨sb, 0, none⟩ = some (.bool nt) := zz.cell 0
    have x1 : w2.cell? ⟨sb, 1, none⟩ = some (.int .i64 k) := zz.cell 1
    have x2 : w2.cell? ⟨sb, 2, none⟩ = some (.int .i64 mn) := zz.cell 2
    have x3 : w2.cell? ⟨sb, 3, none⟩ = some (.int .i64 mx) := zz.cell 3
    have x4 : w2.cell? ⟨sb, 4, none⟩ = some (.bool strict) := zz.cell 4
    have x5 : w2.cell? ⟨sb, 5, none⟩ = some (.slice ua cs.length uc) := zz.cell 5
    have y0 : w2.cell? ⟨ob, 0, none⟩ = some (.slice g L.length vcap) := v2.k.r.cell 0
    have hl2 := v2.k.q.lt
    have hLn : L.length ≤ at2 := by have := E1.out; simp only [List.length_drop] at this; omega
    have V2 := Lib.hid v2
    have O2 := Lib.hid o2
    have hn0 : ob + 1 ≤ (w2.alloc (.cells #[.bool nt, .int .i64 k, .int .i64 mn, .int .i64 mx, .bool strict, .slice ua cs.length uc] 27)).heap.size := by have := V2.out.k.r.size; simp; omega
    clear zz v2 o2 hsb V1 O1
    go_wp2_with (at_builtin; refine wpList_append_own _ rfl (.tmp 14) (.tmp 16) 22 rfl (ob + 1) 27 i0 (.agg #[.bool false, .int .i64 0, .int .i64 0, .int .i64 0, .bool false, .slice none 0 0]) 6 64 Tryd.underlying22 hi hz0 hz1 hz2 rfl (by decide) (.slice g L.length vcap) L.length (stCells L) rfl (V2.out.alloc _).row ⟨w2.heap.size, 0, none⟩ 1 1 (stV ⟨nt, k, mn, mx, strict, cs⟩ (.slice ua cs.length uc)) rfl rfl ?c1 ?c2 ?c3 ?c4 hn0 ?_)
    case c1 => exact new_cells w2 (stV ⟨nt, k, mn, mx, strict, cs⟩ (.slice ua cs.length uc)) 27
    case c2 =>
      intro u hu
      simp only [stV, List.mem_cons, List.not_mem_nil, or_false] at hu
      rcases hu with rfl | rfl | rfl | rfl | rfl | rfl <;> rfl
    case c3 => unfold maxLen; omega
    case c4 => omega
    intro v' w3 hown' hgrow _
    obtain ⟨g', vcap', rfl⟩ := ownsRow_form hown'
    have v2 := V2.out.alloc (.cells #[.bool nt, .int .i64 k, .int .i64 mn, .int .i64 mx, .bool strict, .slice ua cs.length uc] 27)
    have r3 := v2.k.r.grown hgrow (row_far v2.row (Nat.lt_succ_self _))
    have y0' : w3.cell? ⟨ob, 0, none⟩ = some (.slice g L.length vcap) := r3.cell 0
    have yf := r3.free
    have yl := r3.size
    have v3 := v2.app (s := ⟨nt, k, mn, mx, strict, cs⟩) (u := .slice ua cs.length uc) (O2.out.alloc _) hgrow hown'
    have V3 := Lib.hid v3
    clear v2 v3 r3 hown' hgrow x0 x1 x2 x3 x4 x5 y0 V2 O2 hn0
    go_upto_region 5 with (fail)
    generalize w3.setCell ⟨ob, 0, none⟩ (.slice g' (L.length + 1) vcap') = w4 at *
    clear y0' yf yl
    obtain ⟨t, ht⟩ : ∃ t, ts[at2]? = some t := ⟨_, List.getElem?_eq_getElem hl2⟩
    have c4 := parse_any ts pb blk off cap at2 { data := #[59, 44] } (by decide) (by decide) t ht _ V3.out.k.q
    replace c4 : Calls Tryd.prog 124 #[.pointer (some ⟨pb, 0, none⟩), .string { data := #[59, 44] }] w4 fun e w' => e = .returned (.int .u8 (anyOf [59, 44] t)) ∧ w4.grownBy w' (some pb) ∧ Q9 ts pb blk off cap (if anyOf [59, 44] t = 0 then at2 else at2 + 1) w' := c4
    have hp4 := HP1.out
    rw [seps_at ht (fun l => thenR (pSs (L.length + 1) false l) fun ss l => .ok ((⟨nt, k, mn, mx, strict, cs⟩ : St) :: ss, l)) (fun l => thenR (pSs (L.length + 1) true l) fun ss l => .ok ((⟨nt, k, mn, mx, strict, cs⟩ : St) :: ss, l))] at hp4
    have C4 := Lib.hid c4
    have HP4 := Lib.hid hp4
    clear c4 hp4 ht HP1
    generalize anyOf [59, 44] t = d at *
    go_wp2_with fail
    refine C4.out.mono ?_
    rintro e w5 ⟨rfl, g5, q5⟩
    have v5 := V3.out.move q5 g5
    have hp5 := HP4.out
    clear g5 q5 C4 HP4 V3
    by_cases e0 : d = 0
    · subst e0
      simp only [if_true] at v5 hp5
      have hp6 := HPP.out
      rw [hp5] at hp6
      simp only [thenR_ok] at hp6
      have c5 := parse_take ts pb blk off cap at2 3 (by omega) (by omega) _ v5.k.q
      have C5 := Lib.hid c5
      have V5 := Lib.hid v5
      have HP6 := Lib.hid hp6
      clear c5 v5 hp5 hp6 HPP
      go_wp2_with fail
      rcases r5 : pTake 3 (ts.drop at2) with p | ⟨x5, l5⟩
      · refine C5.out.mono ?_
        rintro e w6 h6
        obtain ⟨rfl, g⟩ := h6.err r5
        have hr := RP.bad (V5.out.k.g.trans g) (HP6.out.trans (by rw [r5]; rfl))
        unfold wrongAt at hr ⊢
        exact ⟨rfl, hr⟩
      have hp7 := HP6.out
      simp only [r5, thenR_ok] at hp7
      refine C5.out.mono ?_
      rintro e w6 h6
      obtain ⟨rfl, g6, at6, le6, rfl, q6⟩ := h6.ok r5
      have V6 := Lib.hid (V5.out.move q6 g6)
      have c6 := parse_take ts pb blk off cap at6 1 (by omega) (by omega) _ q6
      have C6 := Lib.hid c6
      have HP7 := Lib.hid hp7
      clear c6 hp7 g6 q6 h6 r5 C5 HP6 V5 le6
      go_wp2_with fail
      rcases r7 : pTake 1 (ts.drop at6) with p | ⟨win, l7⟩
      · refine C6.out.mono ?_
        rintro e w7 h7
        obtain ⟨rfl, g⟩ := h7.err r7
        have hr := RP.bad (V6.out.k.g.trans g) (HP7.out.trans (by rw [r7]; rfl))
        unfold wrongAt at hr ⊢
        exact ⟨rfl, hr⟩
      have hp8 := HP7.out
      simp only [r7, thenR_ok] at hp8
      refine C6.out.mono ?_
      rintro e w7 h7
      obtain ⟨rfl, g7, at7, le7, rfl, q7⟩ := h7.ok r7
      have v7 := V6.out.move q7 g7
      have z1 : w7.cell? ⟨ob, 1, none⟩ = some (.int .i64 0) := v7.k.r.cell 1
      have zf := v7.k.r.free
      have zl := v7.k.r.size
      have V7 := Lib.hid (v7.setW win)
      have HP8 := Lib.hid hp8
      clear v7 hp8 g7 q7 h7 r7 C6 HP7 V6 le7
      go_upto_region 9 with (fail)
      generalize w7.setCell ⟨ob, 1, none⟩ (.int .i64 win) = w8 at *
      clear z1 zf zl
      have c8 := parse_take ts pb blk off cap at7 0 (by omega) (by omega) _ V7.out.k.q
      have C8 := Lib.hid c8
      clear c8
      go_wp2_with fail
      rcases r9 : pTake 0 (ts.drop at7) with p | ⟨x9, l9⟩
      · refine C8.out.mono ?_
        rintro e w9 h9
        obtain ⟨rfl, g⟩ := h9.err r9
        have hr := RP.bad (V7.out.k.g.trans g) (HP8.out.trans (by rw [r9]; rfl))
        unfold wrongAt at hr ⊢
        exact ⟨rfl, hr⟩
      have hp10 := HP8.out
      simp only [r9, thenR_ok] at hp10
      refine C8.out.mono ?_
      rintro e w9 h9
      obtain ⟨rfl, g9, at9, le9, rfl, q9⟩ := h9.ok r9
      have v9 := V7.out.move q9 g9
      have z0 : w9.cell? ⟨ob, 0, none⟩ = some (.slice g' (L.length + 1) vcap') := v9.k.r.cell 0
      have z1 : w9.cell? ⟨ob, 1, none⟩ = some (.int .i64 win) := v9.k.r.cell 1
      have zf := v9.k.r.free
      have zl := v9.k.r.size
      have hg2 : w9.grownBy ((w9.setCell ⟨ob, 0, none⟩ (.slice g' (L.length + 1) vcap')).setCell ⟨ob, 1, none⟩ (.int .i64 win)) (some ob) := (Lib.grownBy_setCell _ _ _ _).trans (Lib.grownBy_setCell _ _ _ _)
      have rF := (v9.row.kept hg2 (.inr (row_far v9.row (Nat.lt_succ_self _)).symm)).mono (show w.heap.size ≤ ob + 1 by have := HOB.out; omega)
      have cF : ∀ q ∈ L ++ [((⟨nt, k, mn, mx, strict, cs⟩ : St), Value.slice ua cs.length uc)], _ := fun q hq => ((v9.cm q hq).kept hg2 (.inr (row_far (v9.cm q hq) (Nat.lt_succ_self _)).symm)).mono (show w.heap.size ≤ ob + 1 by have := HOB.out; omega)
      have KF := Lib.hid ((v9.k.setR 0 (.slice g' (L.length + 1) vcap')).setR 1 (.int .i64 win))
      have RF := Lib.hid rF
      have CF := Lib.hid cF
      have HP10 := Lib.hid hp10
      clear v9 hp10 g9 q9 h9 r9 C8 HP8 V7 le9 hg2 rF cF
      go_wp2_with fail
      refine jumpU_ret ?_
      refine bodyPost_ret (results_one9 rfl _ _ ob 24 #[.slice g' (L.length + 1) vcap', .int .i64 win] _ rfl KF.out.r Tryd.underlying24 rfl (by kernel_rfl)) rfl ?_
      refine ⟨KF.out.g, ?_⟩
      rw [HP10.out]
      exact ⟨_, _, rfl, by simp, RF.out, CF.out⟩
    · have e1 : (d != 0) = true := by simpa using e0
      rw [if_neg e0] at v5 hp5
      have hp6 : pSs 0 false (ts.drop at0) = thenR (pSs (L ++ [((⟨nt, k, mn, mx, strict, cs⟩ : St), Value.slice ua cs.length uc)]).length (d == 44) (ts.drop (at2 + 1))) fun ss l => .ok ((L ++ [((⟨nt, k, mn, mx, strict, cs⟩ : St), Value.slice ua cs.length uc)]).map Prod.fst ++ ss, l) := by
        rw [hp5, List.length_append, List.length_singleton, List.map_append]
        cases (d == 44)
        · simp only [Bool.false_eq_true, if_false]
          cases pSs (L.length + 1) false (ts.drop (at2 + 1)) with
          | error p => rfl
          | ok a => obtain ⟨a, l⟩ := a; simp [thenR]
        · simp only [if_true]
          cases pSs (L.length + 1) true (ts.drop (at2 + 1)) with
          | error p => rfl
          | ok a => obtain ⟨a, l⟩ := a; simp [thenR]
      have V5 := Lib.hid v5
      have HP6 := Lib.hid hp6
      have hm := v5.k.q.left
      have hm5 := v5.k.q.lt
      have hle2 := LE2.out
      clear v5 hp5 hp6 e0 HPP
      go_wp2_with fail
      apply wp_goto
      refine ⟨rfl, ⟨_, _, d, _, at2 + 1, V5.out, by omega, by simp; omega, rfl, HP6, _, _, _, _, _, _, _, _, _, _, _, _, _, _, _, _, _, _, _, _, _, _, _, _, _, _, _, _, rfl⟩, ?_⟩
      rw [hm, HM.out]
      have := E1.out
      simp only [List.length_drop] at this
      omega
  · intro hpass
    have HPASS := Lib.hid hpass
    have v0 : V9 w ts pb blk off cap w.heap.size [] (.slice none 0 0) 0 at0 (w.alloc (.cells #[.slice none 0 0, .int .i64 0] 24)) := ⟨K9.start H.out 24 _, World.ownsRow_nil _ _ _ _, fun p hp => by cases hp⟩
    have V0 := Lib.hid v0
    have hp0 : pSs 0 false (ts.drop at0) = thenR (pSs 0 false (ts.drop at0)) fun ss l => .ok (([] : List (St × Value)).map Prod.fst ++ ss, l) := by
      cases pSs 0 false (ts.drop at0) with
      | error p => rfl
      | ok a => rfl
    have HP := Lib.hid hp0
    clear hpass v0 hp0 H HPP
    go_wp2_with fail
    refine wp_label ?_
    rename_i hK
    refine hK _ _ (HPASS.out _ _ ⟨[], _, 0, false, at0, V0.out, Nat.le_refl _, Nat.zero_le _, rfl, HP, _, _, _, _, _, _, _, _, _, _, _, _, _, _, _, _, _, _, _, _, _, _, _, _, _, _, _, _, rfl⟩)
end Go.Proofs.YtafgincpoahefaaDoor
