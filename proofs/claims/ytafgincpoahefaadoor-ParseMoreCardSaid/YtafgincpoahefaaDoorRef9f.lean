/-
  straggleref09: step.
-/
import Derived.Test.YtafgincpoahefaaDoorRef9q
import Derived.Deep.RegionLaw
import Derived.Deep.DrawnRows
import Derived.Deep.DeepCutAuto
import Derived.Deep.Onto
namespace Go.Proofs.YtafgincpoahefaaDoor
open Go.RowKit
attribute [local go_sem] Oper.semAt_some
attribute [local go_sem ↓] Go.wp_at_zero Go.wp_at_succ

theorem cmp_info : (Tryd.prog.info? 31).map (fun i => (i.zero, i.size, i.bytes)) = some (some (.agg #[.int .u8 0, .int .u8 0, .int .i64 0, .int .i64 0, .int .i64 0, .int .u8 0, .int .i64 0, .int .i64 0, .int .i64 0]), 9, 72) := by kernel_rfl
section
variable {w W : World} {ts : List Tok} {b blk off cap sb at0 : Nat} {nt : Bool} {k mn mx : Int} {strict : Bool} {v : Value} {cs : List Cm} {bad : Bool} {rc tc : Array Value}
theorem T9.cmp (hlt : at0 < ts.length) (h : T9 w ts b blk off cap sb nt k mn mx strict v cs at0 bad W) :
    Calls Tryd.prog 106 #[.pointer (some ⟨b, 0, none⟩)] W fun e w' => ∃ (c : Cm) (a9 : Nat) (d9 : Bool), e = .returned (.agg #[.int .u8 c.op, .int .u8 c.l.kind, .int .i64 c.l.n, .int .i64 c.l.s, .int .i64 c.l.r, .int .u8 c.r.kind, .int .i64 c.r.n, .int .i64 c.r.s, .int .i64 c.r.r]) ∧ Out9 ts at0 bad (pCmp (ts.drop at0)) c a9 d9 ∧ T9 w ts b blk off cap sb nt k mn mx strict v cs a9 d9 w' := by
  refine (ref9_cmp ts b blk off cap at0 bad hlt W h.s.p).mono ?_
  rintro e w' ⟨c, a9, d9, rfl, o, p, g⟩
  exact ⟨c, a9, d9, rfl, o, h.move p g⟩
/-- what is told is filled -/
def TR (w : World) (ts : List Tok) (b blk off cap sb : Nat) (rc tc : Array Value) (v : Value) (cs : List Cm) (at0 : Nat) (bad : Bool) (W : World) : Prop :=
  S9 w ts b blk off cap 27 27 w.heap.size sb rc tc at0 bad W ∧ W.ownsRow (sb + 1) 31 9 v cs.length (cs.flatMap cmV)
theorem TR.putR (h : TR w ts b blk off cap sb rc tc v cs at0 bad W) (i : Nat) (u : Value) : TR w ts b blk off cap sb (rc.setIfInBounds i u) tc v cs at0 bad (W.setCell ⟨w.heap.size, i, none⟩ u) :=
  ⟨h.1.setR i u, h.2.kept (Lib.grownBy_setCell W w.heap.size i u) (.inr (row_off h.2 (by have := h.1.n2; omega)).symm)⟩
theorem T9.putR (h : T9 w ts b blk off cap sb nt k mn mx strict v cs at0 bad W) (i : Nat) (u : Value) : TR w ts b blk off cap sb (#[.bool false, .int .i64 0, .int .i64 0, .int .i64 0, .bool false, .slice none 0 0].setIfInBounds i u) #[.bool nt, .int .i64 k, .int .i64 mn, .int .i64 mx, .bool strict, v] v cs at0 bad (W.setCell ⟨w.heap.size, i, none⟩ u) :=
  TR.putR ⟨h.s, h.row⟩ i u
theorem T9.may (hlt : at0 < ts.length) (c : Int) (hc0 : 0 ≤ c) (hc1 : c ≤ 255) (h : T9 w ts b blk off cap sb nt k mn mx strict v cs at0 bad W) :
    Calls Tryd.prog 104 #[.pointer (some ⟨b, 0, none⟩), .int .u8 c] W fun e w' => ∃ (y : Bool) (a9 : Nat), e = .returned (.bool y) ∧ Out9 ts at0 bad (pMay c (ts.drop at0)) y a9 bad ∧ (y = true → a9 = at0 + 1) ∧ T9 w ts b blk off cap sb nt k mn mx strict v cs a9 bad w' := by
  have ht : ts[at0]? = some ts[at0] := List.getElem?_eq_getElem hlt
  refine (ref9_may' ts b blk off cap at0 bad _ ht c hc0 hc1 W h.s.p).mono ?_
  rintro e w' ⟨rfl, p, g⟩
  exact ⟨_, _, rfl, may_out bad c h.s.p.ends ht, fun e => by rw [if_pos e], h.move p g⟩
end
/-- between two comparisons -/
def LR (w : World) (ts : List Tok) (b blk off cap sb : Nat) (nt : Bool) (k mn mx : Int) (strict : Bool) (a7 : Nat) (d7 : Bool) (W : World) : Prop :=
  ∃ (v : Value) (cs : List Cm) (f at9 : Nat) (bad9 : Bool), at9 < ts.length ∧ T9 w ts b blk off cap sb nt k mn mx strict v cs at9 bad9 W ∧ Cont9 ts a7 d7 f at9 bad9 cs ∧ ts.length ≤ at9 + f ∧ 1 ≤ cs.length ∧ cs.length ≤ at9
/-- what a step comes to -/
def R9s (ts : List Tok) (b blk off cap at0 : Nat) (bad : Bool) (i : Int) (strict : Bool) (w : World) (e : Ending) (w' : World) : Prop :=
  ∃ (nt : Bool) (k mn mx : Int) (v : Value) (cs : List Cm) (at1 : Nat) (bad1 : Bool), e = .returned (.agg #[.bool nt, .int .i64 k, .int .i64 mn, .int .i64 mx, .bool strict, v]) ∧
    Out9 ts at0 bad (pStep i strict (ts.drop at0)) ⟨nt, k, mn, mx, strict, cs⟩ at1 bad1 ∧ P9 ts b blk off cap at1 bad1 w' ∧ w.grownBy w' (some b) ∧ w'.ownsRow w.heap.size 31 9 v cs.length (cs.flatMap cmV)
set_option maxRecDepth 100000 in
set_option maxHeartbeats 8000000 in
theorem ref9_step (ts : List Tok) (hts : ts.length ≤ 4000) (b blk off cap at0 : Nat) (bad : Bool) (hlt : at0 < ts.length) (i : Int) (strict : Bool) (w : World) (h : P9 ts b blk off cap at0 bad w) :
    Calls Tryd.prog 72 #[.pointer (some ⟨b, 0, none⟩), .int .i64 i, .bool strict] w (R9s ts b blk off cap at0 bad i strict w) := by
  have hb0 := (Below.refl w.heap.size w).alloc (Nat.le_refl _) (.cells #[.bool false, .int .i64 0, .int .i64 0, .int .i64 0, .bool false, .slice none 0 0] 27)
  have hP0 := h.later hb0
  have z0 := Holds.fresh w 27 #[.bool false, .int .i64 0, .int .i64 0, .int .i64 0, .bool false, .slice none 0 0]
  have hbl := h.hold.size
  have hkl := h.blk_lt hlt
  have hends := h.ends
  have c1 := ref9_may ts b blk off cap at0 bad hlt 33 (by omega) (by omega) _ hP0
  have C1 := Lib.hid c1; clear c1
  have H0 := Lib.hid hP0; clear hP0
  have Z0 := Lib.hid z0; clear z0
  have HB0 := Lib.hid hb0; clear hb0
  have HE := Lib.hid hends; clear hends
  clear h
  go_enter Tryd.func72, Tryd.ntmps72
  go_wp2_with fail
  refine C1.out.mono ?_
  rintro e w1 ⟨nt, a1, d1, rfl, o1, p1, g1⟩
  have zz : Holds w1 w.heap.size 27 #[.bool false, .int .i64 0, .int .i64 0, .int .i64 0, .bool false, .slice none 0 0] := Z0.out.grown g1 (fun e => by have := Option.some.inj e; omega)
  have hg := (grown_of_below' HB0.out (some b)).trans g1
  have t1 : T9 w ts b blk off cap w1.heap.size nt 0 1 1 strict (.slice none 0 0) [] a1 d1 (w1.alloc (.cells #[.bool nt, .int .i64 0, .int .i64 1, .int .i64 1, .bool strict, .slice none 0 0] 27)) :=
    ⟨⟨p1.alloc _, zz.alloc _, Holds.fresh _ _ _, hg.trans (World.grownBy_alloc _ _ _), ⟨hbl, hkl⟩, Nat.le_refl _, hg.size, by have := zz.size; omega⟩, World.ownsRow_nil _ _ _ _⟩
  have T1 := Lib.hid t1
  have O1 := Lib.hid o1
  have l1 := o1.lt
  clear t1 o1 p1 g1 zz hg
  have c2 := ref9_mustn ts b blk off cap a1 d1 l1 1 (by omega) (by omega) _ T1.out.s.p
  have C2 := Lib.hid c2; clear c2
  go_wp2_with fail
  generalize w1.heap.size = sb at *
  refine C2.out.mono ?_
  rintro e w2 ⟨x2, a2, d2, rfl, ⟨hx0, hx1, _⟩, o2, p2, g2⟩
  have t2 := T1.out.move p2 g2
  have sf := t2.s.t.free
  have sl := t2.s.t.size
  have s1 : w2.cell? ⟨sb, 1, none⟩ = some (.int .i64 0) := t2.s.t.cell 1
  have T2 := Lib.hid (t2.setK x2)
  have O2 := Lib.hid o2
  have l2 := o2.lt
  clear t2 o2 p2 g2 C1 C2 T1
  have ht : ts[a2]? = some ts[a2] := List.getElem?_eq_getElem l2
  have o3 := letter_out (bad := d2) i HE.out ht
  generalize ts[a2] = t at *
  have F0 := tok_field0 t.kind t.n t.at'
  have F1 := tok_field1 t.kind t.n t.at'
  have cn := fun W hP => ref9_now ts b blk off cap a2 d2 t ht W hP
  obtain ⟨kk, kn, kx⟩ := t
  simp only at *
  have O3 := Lib.hid o3
  have CN := Lib.hid cn
  clear o3 ht cn
  go_upto_region 3 with (fail)
  generalize w2.setCell ⟨sb, 1, none⟩ (.int .i64 x2) = W2 at *
  obtain ⟨⟨_, _, y2⟩, yf, yl⟩ := T2.out.s.p.cells
  go_cut [32] (fun s32 wc => s32 = .bool (!d2 && !((kk == 2) && (kn == i))) ∧ T9 w ts b blk off cap sb nt x2 1 1 strict (.slice none 0 0) [] a2 d2 wc)
  case first =>
    cases d2
    · by_cases e1 : kk = 2
      · subst e1
        by_cases e2 : kn = i
        · subst e2
          go_wp2_with fail
          refine (CN.out _ T2.out.s.p).mono ?_
          rintro e w3 ⟨rfl, hb3⟩
          have t3 := Lib.hid (T2.out.move (T2.out.s.p.later hb3) (grown_of_below' hb3 _))
          clear hb3
          go_wp2_with fail
          refine (CN.out _ t3.out.s.p).mono ?_
          rintro e w4 ⟨rfl, hb4⟩
          have t4 := Lib.hid (t3.out.move (t3.out.s.p.later hb4) (grown_of_below' hb4 _))
          clear hb4
          go_wp2_with fail
          go_meet
          exact ⟨by simp, t4.out⟩
        · have e3 : (kn != i) = true := by simpa using e2
          have e4 : (kn == i) = false := by simpa using e2
          go_wp2_with fail
          refine (CN.out _ T2.out.s.p).mono ?_
          rintro e w3 ⟨rfl, hb3⟩
          have t3 := Lib.hid (T2.out.move (T2.out.s.p.later hb3) (grown_of_below' hb3 _))
          clear hb3
          go_wp2_with fail
          refine (CN.out _ t3.out.s.p).mono ?_
          rintro e w4 ⟨rfl, hb4⟩
          have t4 := Lib.hid (t3.out.move (t3.out.s.p.later hb4) (grown_of_below' hb4 _))
          clear hb4
          go_wp2_with fail
          go_meet
          exact ⟨by simp [e4], t4.out⟩
      · have e3 : (kk != 2) = true := by simpa using e1
        have e4 : (kk == 2) = false := by simpa using e1
        go_wp2_with fail
        refine (CN.out _ T2.out.s.p).mono ?_
        rintro e w3 ⟨rfl, hb3⟩
        have t3 := Lib.hid (T2.out.move (T2.out.s.p.later hb3) (grown_of_below' hb3 _))
        clear hb3
        go_wp2_with fail
        go_meet
        exact ⟨by simp [e4], t3.out⟩
    · go_wp2_with fail
      go_meet
      exact ⟨by simp, T2.out⟩
  case rest =>
    obtain ⟨rfl, t3⟩ := hcut
    have T3 := Lib.hid t3
    obtain ⟨_, yf, yl⟩ := T3.out.s.p.cells
    clear t3 T2 CN F0 F1
    go_upto_if 32 with (fail)
    go_cut [] (fun wc => T9 w ts b blk off cap sb nt x2 1 1 strict (.slice none 0 0) [] a2 (d2 || !((kk == 2) && (kn == i))) wc)
    case first =>
      generalize ((kk == 2) && (kn == i)) = q at *
      cases d2
      · cases q
        · go_wp2_with fail
          go_meet
          exact T3.out.move (T3.out.s.p.setBad true) (Lib.grownBy_setCell _ b 2 _)
        · go_wp2_with fail
          go_meet
          exact T3.out
      · cases q
        · go_wp2_with fail
          go_meet
          exact T3.out
        · go_wp2_with fail
          go_meet
          exact T3.out
    case rest =>
      have T4 := Lib.hid hcut
      generalize (d2 || !((kk == 2) && (kn == i))) = d3 at *
      clear hcut T3 yf yl
      rename_i W4
      have cg := ref9_go1 ts b blk off cap a2 d3 l2 _ T4.out.s.p
      have CG := Lib.hid cg; clear cg
      have l3 := O3.out.lt
      generalize nextAt ts a2 d3 = a3 at *
      go_wp2_with fail
      refine CG.out.mono ?_
      rintro e w5 ⟨rfl, p5, g5⟩
      have T5 := Lib.hid (T4.out.move p5 g5)
      have cm := ref9_may ts b blk off cap a3 d3 l3 123 (by omega) (by omega) _ p5
      have CM := Lib.hid cm; clear cm p5 g5 CG T4
      go_wp2_with fail
      refine CM.out.mono ?_
      rintro e w6 ⟨y6, a6, d6, rfl, o6, p6, g6⟩
      have T6 := Lib.hid (T5.out.move p6 g6)
      have O6 := Lib.hid o6
      clear o6 p6 g6 CM T5
      go_upto_if 39 with (fail)
      go_cut [] (fun wc => ∃ mn mx a7 d7, Out9 ts a3 d3 (pTimes (ts.drop a3)) (mn, mx) a7 d7 ∧ T9 w ts b blk off cap sb nt x2 mn mx strict (.slice none 0 0) [] a7 d7 wc)
      case first =>
        cases y6
        · go_wp2_with fail
          go_meet
          exact ⟨1, 1, a6, d6, times_none O6.out, T6.out⟩
        · have c7 := ref9_mustn ts b blk off cap a6 d6 O6.out.lt 1 (by omega) (by omega) _ T6.out.s.p
          have C7 := Lib.hid c7; clear c7
          go_wp2_with fail
          refine C7.out.mono ?_
          rintro e w7 ⟨x7, a7, d7, rfl, ⟨_, _, _⟩, o7, p7, g7⟩
          have t7 := T6.out.move p7 g7
          have sf := t7.s.t.free
          have sl := t7.s.t.size
          have s1 : w7.cell? ⟨sb, 2, none⟩ = some (.int .i64 1) := t7.s.t.cell 2
          have T7 := Lib.hid (t7.setN x7)
          have O7 := Lib.hid o7
          have c8 := ref9_sign ts b blk off cap a7 d7 o7.lt 44 (by omega) (by omega) _ T7.out.s.p
          have C8 := Lib.hid c8
          clear t7 o7 p7 g7 c8 C7 T6
          go_wp2_with fail
          refine C8.out.mono ?_
          rintro e w8 ⟨a8, d8, rfl, o8, p8, g8⟩
          have T8 := Lib.hid (T7.out.move p8 g8)
          have O8 := Lib.hid o8
          have c9 := ref9_mustn ts b blk off cap a8 d8 o8.lt 1 (by omega) (by omega) _ p8
          have C9 := Lib.hid c9
          clear o8 p8 g8 c9 T7 sf sl s1 C8
          go_wp2_with fail
          refine C9.out.mono ?_
          rintro e w9 ⟨x9, a9, d9, rfl, ⟨_, _, _⟩, o9, p9, g9⟩
          have t9 := T8.out.move p9 g9
          have sf := t9.s.t.free
          have sl := t9.s.t.size
          have s1 : w9.cell? ⟨sb, 3, none⟩ = some (.int .i64 1) := t9.s.t.cell 3
          have T9' := Lib.hid (t9.setX x9)
          have O9 := Lib.hid o9
          have c8 := ref9_sign ts b blk off cap a9 d9 o9.lt 125 (by omega) (by omega) _ T9'.out.s.p
          have C8 := Lib.hid c8
          clear t9 o9 p9 g9 c8 C9 T8
          go_wp2_with fail
          refine C8.out.mono ?_
          rintro e w10 ⟨a10, d10, rfl, o10, p10, g10⟩
          have T10 := Lib.hid (T9'.out.move p10 g10)
          go_wp2_with fail
          go_meet
          exact ⟨x7, x9, a10, d10, times_some O6.out O7.out O8.out O9.out o10, T10.out⟩
      case rest =>
        obtain ⟨mn, mx, a7, d7, o7, t7⟩ := hcut
        have T7 := Lib.hid t7
        have O7 := Lib.hid o7
        have cm := T9.may o7.lt 91 (by omega) (by omega) t7
        have CM := Lib.hid cm
        clear cm t7 o7 T6 O6
        go_wp2_with fail
        refine CM.out.mono ?_
        rintro e w8 ⟨y8, a8, rfl, o8, hy8, t8⟩
        have T8 := Lib.hid t8
        have O8 := Lib.hid o8
        clear o8 t8 CM T7
        go_upto_if 51 with (fail)
        go_cut [] (fun wc => ∃ v cs a9 d9, Out9 ts a7 d7 (pAsks (ts.drop a7)) cs a9 d9 ∧ T9 w ts b blk off cap sb nt x2 mn mx strict v cs a9 d9 wc)
        case first =>
          cases y8
          · go_wp2_with fail
            go_meet
            exact ⟨_, [], a8, d7, asks_none O8.out, T8.out⟩
          · have cc := fun W h => T9.cmp (w := w) (W := W) (ts := ts) (b := b) (blk := blk) (off := off) (cap := cap) (sb := sb) (nt := nt) (k := x2) (mn := mn) (mx := mx) (strict := strict) (v := .slice none 0 0) (cs := []) (at0 := a8) (bad := d7) O8.out.lt h
            have CC := Lib.hid cc
            have t8d := T8.out.drewN 1
            replace t8d : T9 w ts b blk off cap sb nt x2 mn mx strict (.slice none 0 0) [] a8 d7 w8.drew := t8d
            have k5 : w8.cell? ⟨sb, 5, none⟩ = some (.slice none 0 0) := T8.out.s.t.cell 5
            obtain ⟨i0, hi0, hz0, hz1, hz2⟩ := info_parts cmp_info
            clear cc
            go_upto_region 12 with (fail)
            go_cut [] (fun wc => ∃ (c : Cm) (v : Value) (a9 : Nat) (d9 : Bool), Out9 ts a8 d7 (pCmp (ts.drop a8)) c a9 d9 ∧ T9 w ts b blk off cap sb nt x2 mn mx strict v [c] a9 d9 wc)
            case first =>
              go_wp2_with fail
              go_region_law (first
                | (refine step_append_lies _ (by rfl) _ _ _ (by rfl) (sb + 1) 31 i0 _ 9 72 Tryd.underlying25 hi0 hz0 hz1 hz2 rfl (by omega) (.slice none 0 0) 0 [] (by rfl) (by first | exact ht9.row.alloc _ | exact (ht9.row.alloc _).drew)
                    ⟨w9.heap.size, 0, none⟩ 1 1 (cmV c) (by rfl) (by rfl) (World.news_of_block (cs := (cmV c).toArray) (t := 31) (fr := (0, 0)) (heap_alloc_new w9 _)) (by simp [cmV, Value.oneCell'])
                    (by omega) (by unfold maxLen; omega) (by omega) (by have := ht9.s.t.size; simp; omega) _ rfl ?_; intro gg gcap w10 hown1 hgrow hat hglt; have qh := (ht9.alloc _).s.t.grown hgrow (row_off ht9.row (Nat.lt_succ_self sb)); have qf := qh.free; have ql := qh.size; have q5 := qh.cell 5)
                | (go_simp; go_at_call 106; (with_reducible refine (CC.out _ (by first | exact T8.out | exact t8d)).mono ?_); rintro e w9 ⟨c, a9, d9, rfl, o9, ht9⟩; have z5 := ht9.s.t.cell 5; have z6 := (ht9.alloc (.cells (cmV c).toArray 31)).s.t.cell 5; simp only [cmV] at z6))
              all_goals
                go_wp2_with fail
                go_meet
                exact ⟨c, _, a9, d9, o9, (ht9.alloc _).app (c := c) hgrow hown1⟩
            case rest =>
              obtain ⟨c, v, a9, d9, o9, t9⟩ := hcut
              have hle : a8 ≤ a9 := o9.le
              have h81 : a8 = a7 + 1 := hy8 rfl
              have hl7 := O7.out.lt
              have hf : (ts.drop a7).length = (ts.length - a7 - 1) + 1 := by rw [List.length_drop]; omega
              have r0 : LR w ts b blk off cap sb nt x2 mn mx strict a7 d7 wc := ⟨v, [c], _, a9, d9, o9.lt, t9, asks_one O8.out hf o9, by omega, Nat.le_refl _, by simp; omega⟩
              have R0 := Lib.hid r0
              clear r0 t9 o9 T8 t8d CC k5 O8
              go_wp2_with fail
              go_loopw [] (fun wr => LR w ts b blk off cap sb nt x2 mn mx strict a7 d7 wr) (fun wr => ts.length - (intOf ((wr.cell? ⟨b, 1, none⟩).getD undef)).toNat)
              case atStart => exact R0.out
              case round =>
                obtain ⟨v, cs, f, at9, bad9, hl9, t9, hc9, hf9, hn1, hn2⟩ := hrel
                have hm0 : wr.cell? ⟨b, 1, none⟩ = some (.int .i64 at9) := t9.s.p.cells.1.2.1
                have cm := T9.may hl9 38 (by omega) (by omega) t9
                have CM := Lib.hid cm
                have HC9 := Lib.hid hc9
                have HM0 := Lib.hid hm0
                clear cm t9 hc9 hm0 R0
                go_wp2_with fail
                refine CM.out.mono ?_
                rintro e w10 ⟨y, a10, rfl, o10, hy, t10⟩
                clear CM
                cases y
                · have cs9 := ref9_sign ts b blk off cap a10 bad9 o10.lt 93 (by omega) (by omega) _ t10.s.p
                  have CS := Lib.hid cs9
                  have T10 := Lib.hid t10
                  have O10 := Lib.hid o10
                  clear cs9 t10 o10
                  go_wp2_with fail
                  refine CS.out.mono ?_
                  rintro e w11 ⟨a11, d11, rfl, o11, p11, g11⟩
                  go_wp2_with fail
                  go_meet
                  exact ⟨v, cs, a11, d11, cont_end HC9.out O10.out o11, T10.out.move p11 g11⟩
                · have h10 : a10 = at9 + 1 := hy rfl
                  obtain ⟨g, vcap, rfl, hgb, hgl⟩ := t10.row.form (by omega)
                  have hcc := fun W h => T9.cmp (w := w) (W := W) (ts := ts) (b := b) (blk := blk) (off := off) (cap := cap) (sb := sb) (nt := nt) (k := x2) (mn := mn) (mx := mx) (strict := strict) (v := .slice (some ⟨g, 0, none⟩) cs.length vcap) (cs := cs) (at0 := a10) (bad := bad9) o10.lt h
                  have CC := Lib.hid hcc
                  have t10d := t10.drewN 1
                  replace t10d : T9 w ts b blk off cap sb nt x2 mn mx strict (.slice (some ⟨g, 0, none⟩) cs.length vcap) cs a10 bad9 w10.drew := t10d
                  have k5 : w10.cell? ⟨sb, 5, none⟩ = some (.slice (some ⟨g, 0, none⟩) cs.length vcap) := t10.s.t.cell 5
                  have T10 := Lib.hid t10
                  have O10 := Lib.hid o10
                  have l10 := o10.lt
                  clear hcc t10 o10
                  go_wp2_with fail
                  go_region_law (first
                    | (refine step_append_lies _ (by rfl) _ _ _ (by rfl) (sb + 1) 31 i0 _ 9 72 Tryd.underlying25 hi0 hz0 hz1 hz2 rfl (by omega) (.slice (some ⟨g, 0, none⟩) cs.length vcap) cs.length (cs.flatMap cmV) (by rfl) (by first | exact ht9.row.alloc _ | exact (ht9.row.alloc _).drew)
                        ⟨w9.heap.size, 0, none⟩ 1 1 (cmV c) (by rfl) (by rfl) (World.news_of_block (cs := (cmV c).toArray) (t := 31) (fr := (0, 0)) (heap_alloc_new w9 _)) (by simp [cmV, Value.oneCell'])
                        (by omega) (by unfold maxLen; omega) (by omega) (by have := ht9.s.t.size; simp; omega) _ rfl ?_; intro gg gcap w10 hown1 hgrow hat hglt; have qh := (ht9.alloc _).s.t.grown hgrow (row_off ht9.row (Nat.lt_succ_self sb)); have qf := qh.free; have ql := qh.size; have q5 := qh.cell 5)
                    | (go_simp; go_at_call 106; (with_reducible refine (CC.out _ (by first | exact T10.out | exact t10d)).mono ?_); rintro e w9 ⟨c, a9, d9, rfl, o9, ht9⟩; have z5 := ht9.s.t.cell 5; have z6 := (ht9.alloc (.cells (cmV c).toArray 31)).s.t.cell 5; simp only [cmV] at z6))
                  all_goals
                    have t11 := (ht9.alloc (.cells (cmV c).toArray 31)).app (c := c) hgrow hown1
                    have hle : a10 ≤ a9 := o9.le
                    obtain ⟨f', rfl⟩ : ∃ f', f = f' + 1 := ⟨f - 1, by omega⟩
                    have r1 : LR w ts b blk off cap sb nt x2 mn mx strict a7 d7 _ := ⟨_, cs ++ [c], f', a9, d9, o9.lt, t11, cont_one HC9.out O10.out o9, by omega, by simp, by simp; omega⟩
                    have hm1 := t11.s.p.cells.1.2.1
                    have hl11 := o9.lt
                    have R1 := Lib.hid r1
                    have HM1 := Lib.hid hm1
                    clear r1 hm1 t11 o9 ht9 hown1 hgrow hat qh qf ql q5 T10 t10d CC k5 HC9 O10 z5 z6
                    go_wp2_with fail
                    go_roundw
                    case rel => exact R1.out
                    case measure => rw [HM0.out, HM1.out]; simp [intOf]; omega
        case rest =>
          obtain ⟨v, cs, a9, d9, o9, t9⟩ := hcut
          obtain ⟨va, vc, rfl, -, -, -, -⟩ := cmps_of_row t9.row
          have v0 : wc.cell? ⟨w.heap.size, 0, none⟩ = some (.bool false) := t9.s.r.cell 0
          have v1 : wc.cell? ⟨w.heap.size, 1, none⟩ = some (.int .i64 0) := t9.s.r.cell 1
          have v2 : wc.cell? ⟨w.heap.size, 2, none⟩ = some (.int .i64 0) := t9.s.r.cell 2
          have v3 : wc.cell? ⟨w.heap.size, 3, none⟩ = some (.int .i64 0) := t9.s.r.cell 3
          have v4 : wc.cell? ⟨w.heap.size, 4, none⟩ = some (.bool false) := t9.s.r.cell 4
          have v5 : wc.cell? ⟨w.heap.size, 5, none⟩ = some (.slice none 0 0) := t9.s.r.cell 5
          have vf := t9.s.r.free
          have vl := t9.s.r.size
          have u0 : wc.cell? ⟨sb, 0, none⟩ = some (.bool nt) := t9.s.t.cell 0
          have u1 : wc.cell? ⟨sb, 1, none⟩ = some (.int .i64 x2) := t9.s.t.cell 1
          have u2 : wc.cell? ⟨sb, 2, none⟩ = some (.int .i64 mn) := t9.s.t.cell 2
          have u3 : wc.cell? ⟨sb, 3, none⟩ = some (.int .i64 mx) := t9.s.t.cell 3
          have u4 : wc.cell? ⟨sb, 4, none⟩ = some (.bool strict) := t9.s.t.cell 4
          have u5 : wc.cell? ⟨sb, 5, none⟩ = some (.slice va cs.length vc) := t9.s.t.cell 5
          have T9' := Lib.hid t9
          clear t9 T8 O8
          go_wp2_with fail
          have tf := ((((((T9'.out.putR 0 (.bool nt)).putR 1 (.int .i64 x2)).putR 2 (.int .i64 mn)).putR 3 (.int .i64 mx)).putR 4 (.bool strict)).putR 5 (.slice va cs.length vc))
          refine bodyPost_ret (results_one9 rfl _ _ w.heap.size 27 #[.bool nt, .int .i64 x2, .int .i64 mn, .int .i64 mx, .bool strict, .slice va cs.length vc] _ rfl tf.1.r Tryd.underlying27 rfl (by kernel_rfl)) rfl ?_
          exact ⟨nt, x2, mn, mx, .slice va cs.length vc, cs, a9, d9, rfl, step_out O1.out O2.out O3.out O7.out o9, tf.1.p, tf.1.g, tf.2.mono (by have := tf.1.n2; omega)⟩
end Go.Proofs.YtafgincpoahefaaDoor
