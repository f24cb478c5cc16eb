/-
  straggleref09: Parse, walked.
-/
import Derived.Test.YtafgincpoahefaaDoorRef9h
namespace Go.Proofs.YtafgincpoahefaaDoor
open Go.RowKit
attribute [local go_sem] Oper.semAt_some
attribute [local go_sem ↓] Go.wp_at_zero Go.wp_at_succ

theorem step_info : (Tryd.prog.info? 27).map (fun i => (i.zero, i.size, i.bytes)) = some (some (.agg #[.bool false, .int .i64 0, .int .i64 0, .int .i64 0, .bool false, .slice none 0 0]), 6, 64) := by kernel_rfl
theorem pat_ne_step : (24 : TypeId) ≠ 27 := by decide
/-- what Parse tells -/
def R9P (l : List UInt8) (w : World) (e : Ending) (w' : World) : Prop :=
  ∃ v, e = .returned (.tuple #[v, .int .i64 (parseOf l).2.1, .int .i64 (parseOf l).2.2]) ∧ PatV w' v (parseOf l).1 ∧ Below w.heap.size w w'
theorem patV_nil (w : World) : PatV w (.agg #[.slice none 0 0, .int .i64 0]) ⟨[], 0⟩ := ⟨_, rfl, none, 0, rfl, Nat.le_refl _, by simp, fun _ => rfl, .inl rfl⟩
set_option maxRecDepth 100000 in
set_option maxHeartbeats 4000000 in
theorem ref9_Parse_none (s : ByteArray) (hs : s.size ≤ 3000) (w : World) (ts : List Tok) (p c : Int) (ha : allOf s.data.toList = (ts, p, c)) (hc : c ≠ 0) :
    Calls Tryd.prog 36 #[.string s] w (R9P s.data.toList w) := by
  have hp : parseOf s.data.toList = (⟨[], 0⟩, p, c) := by rw [parse_none (by rw [ha]; exact hc), ha]
  have hb0 := (Below.refl w.heap.size w).alloc (Nat.le_refl _) (.cells #[.slice none 0 0, .int .i64 0] 24)
  have z0 := Holds.fresh w 24 #[.slice none 0 0, .int .i64 0]
  obtain ⟨n, hn⟩ : ∃ n, ts.length = n := ⟨_, rfl⟩
  have ca := fun W => ref9_All s (by omega) ts p c n hn ha W
  have CA := Lib.hid ca
  have HP := Lib.hid hp
  have Z0 := Lib.hid z0
  have HB0 := Lib.hid hb0
  have hc1 : (c != 0) = true := by simpa using hc
  clear ca hp z0 hb0 hn ha
  go_enter Tryd.func36, Tryd.ntmps36
  go_wp2_with fail
  refine (CA.out _).mono ?_
  rintro e w1 ⟨a, cap, rfl, _, _, hb1⟩
  have z1 := Z0.out.later hb1
  have v0 : w1.cell? ⟨w.heap.size, 0, none⟩ = some (.slice none 0 0) := z1.cell 0
  have v1 : w1.cell? ⟨w.heap.size, 1, none⟩ = some (.int .i64 0) := z1.cell 1
  have vf := z1.free
  have vl := z1.size
  have Z1 := Lib.hid z1
  have HB1 := Lib.hid (HB0.out.trans (hb1.mono (by simp)))
  clear z1 hb1
  go_wp2_with fail
  have tf := (Z1.out.set 0 (.slice none 0 0)).set 1 (.int .i64 0)
  refine bodyPost_ret (results_first3 rfl _ _ w.heap.size 24 #[.slice none 0 0, .int .i64 0] _ rfl tf Tryd.underlying24 rfl (by kernel_rfl)) rfl ?_
  refine ⟨.agg #[.slice none 0 0, .int .i64 0], ?_, ?_, ?_⟩
  · rw [HP.out]; rfl
  · rw [HP.out]; exact patV_nil _
  · exact (HB1.out.setCell (p := ⟨w.heap.size, 0, none⟩) (Nat.le_refl _) _).setCell (p := ⟨w.heap.size, 1, none⟩) (Nat.le_refl _) _
/-- between two steps -/
def LU (w : World) (ts : List Tok) (b blk off cap rb ob : Nat) (W : World) : Prop :=
  ∃ (L : List (St × Value)) (v : Value) (f at9 : Nat) (bad9 : Bool), at9 < ts.length ∧ U9 w ts b blk off cap rb ob L v 0 at9 bad9 W ∧ ContS ts f L.length at9 bad9 (L.map Prod.fst) ∧ ts.length ≤ at9 + f ∧ 1 ≤ L.length ∧ L.length ≤ at9 + 1
set_option maxRecDepth 100000 in
set_option maxHeartbeats 16000000 in
theorem ref9_Parse_some (s : ByteArray) (hs : s.size ≤ 3000) (w : World) (ts : List Tok) (hts : ts.length ≤ 4000) (ha : allOf s.data.toList = (ts, 0, 0)) :
    Calls Tryd.prog 36 #[.string s] w (R9P s.data.toList w) := by
  have hb0 := (Below.refl w.heap.size w).alloc (Nat.le_refl _) (.cells #[.slice none 0 0, .int .i64 0] 24)
  have z0 := Holds.fresh w 24 #[.slice none 0 0, .int .i64 0]
  obtain ⟨_, htk, hends, hpos⟩ := allOf_toks ha
  obtain ⟨n, hn⟩ : ∃ n, ts.length = n := ⟨_, rfl⟩
  have ca := fun W => ref9_All s (by omega) ts 0 0 n hn ha W
  have CA := Lib.hid ca
  have HA := Lib.hid ha
  have HTK := Lib.hid htk
  have HE := Lib.hid hends
  have HN := Lib.hid hn
  have Z0 := Lib.hid z0
  have HB0 := Lib.hid hb0
  clear ca z0 hb0 hn ha htk hends
  go_enter Tryd.func36, Tryd.ntmps36
  go_wp2_with fail
  refine (CA.out _).mono ?_
  rintro e w1 ⟨a, cap, rfl, hcap, htoks, hb1⟩
  obtain ⟨blk, off, rfl⟩ : ∃ blk off, a = some ⟨blk, off, none⟩ := by
    obtain ⟨b', o', e, _⟩ := htoks.get 0 hpos
    exact ⟨b', o', e⟩
  have hblk : blk < w1.heap.size := by
    obtain ⟨b', o', e, hc⟩ := htoks.get 0 hpos
    obtain ⟨rfl, rfl⟩ : blk = b' ∧ off = o' := by simpa using e
    exact cell_lt hc.1
  have z1 := (Z0.out.later hb1).alloc (.cells #[.slice (some ⟨blk, off, none⟩) n cap, .int .i64 0, .bool false] 99)
  have hB := HB0.out.trans (hb1.mono (by simp))
  have hrb : w.heap.size < w1.heap.size := (Z0.out.later hb1).size
  have p1 : P9 ts w1.heap.size blk off cap 0 false (w1.alloc (.cells #[.slice (some ⟨blk, off, none⟩) n cap, .int .i64 0, .bool false] 99)) :=
    ⟨by rw [HN.out]; exact Holds.fresh _ _ _, by omega, htoks.mono ((Below.refl _ _).alloc (Nat.le_refl _) _) (Nat.le_refl _), by rw [HN.out]; exact hcap, by omega, HTK.out, HE.out⟩
  have cs := ref9_step ts hts w1.heap.size blk off cap 0 false hpos 0 false _ p1
  have CS := Lib.hid cs
  have Z1 := Lib.hid z1
  have HB1 := Lib.hid (hB.alloc hB.size (.cells #[.slice (some ⟨blk, off, none⟩) n cap, .int .i64 0, .bool false] 99))
  clear cs p1 z1 hB htoks hb1
  go_wp2_with fail
  have hsz : (w1.alloc (.cells #[.slice (some ⟨blk, off, none⟩) n cap, .int .i64 0, .bool false] 99)).heap.size = w1.heap.size + 1 := by simp
  generalize w1.heap.size = b at *
  refine CS.out.mono ?_
  rintro e w2 ⟨nt, k, mn, mx, u, cs, a1, d1, rfl, o1, p2, g2, hr2⟩
  obtain ⟨ua, uc, rfl, -, -, -, -⟩ := cmps_of_row hr2
  have hb2 := p2.hold.size
  have hA : (w2.alloc (.cells #[.bool nt, .int .i64 k, .int .i64 mn, .int .i64 mx, .bool false, .slice ua cs.length uc] 27)).heap.size = w2.heap.size + 1 := by simp
  have u0 : U9 w ts b blk off cap w.heap.size (w2.heap.size + 1) [((⟨nt, k, mn, mx, false, cs⟩ : St), .slice ua cs.length uc)] (.slice (some ⟨w2.heap.size, 0, none⟩) 1 1) 0 a1 d1
      ((w2.alloc (.cells #[.bool nt, .int .i64 k, .int .i64 mn, .int .i64 mx, .bool false, .slice ua cs.length uc] 27)).alloc (.cells #[.slice (some ⟨w2.heap.size, 0, none⟩) 1 1, .int .i64 0] 24)) := by
    have hrow := (World.ownsRow_lit (base := b + 1) (e := 27) (size := 6) w2 #[.bool nt, .int .i64 k, .int .i64 mn, .int .i64 mx, .bool false, .slice ua cs.length uc] 1 (by omega) (by unfold maxLen; omega) rfl)
    refine ⟨(p2.alloc _).alloc _, ((Z1.out.grown g2 (fun e => by have := Option.some.inj e; omega)).alloc _).alloc _, Holds.fresh' hA _ _, hrow.alloc _, fun p hp => ?_, ?_, ⟨Nat.le_refl _, hrb, hblk, by omega⟩⟩
    · obtain rfl := List.mem_singleton.1 hp
      exact ((hr2.mono (by omega)).alloc _).alloc _
    · have h1 := HB1.out.grown g2 (by omega) (fun k e => by have := Option.some.inj e; omega)
      exact (h1.alloc (by omega) _).alloc (by simp; omega) _
  have c0 : ContS ts ts.length 1 a1 d1 [(⟨nt, k, mn, mx, false, cs⟩ : St)] := steps_one o1
  have r0 : LU w ts b blk off cap w.heap.size (w2.heap.size + 1) _ := ⟨_, _, _, a1, d1, o1.lt, u0, c0, by omega, Nat.le_refl _, by simp⟩
  have R0 := Lib.hid r0
  clear u0 c0 r0 o1 p2 g2 hr2 CS CA Z0 Z1 HB0 HB1 hA hsz
  go_wp2_with fail
  generalize (w2.alloc (.cells #[.bool nt, .int .i64 k, .int .i64 mn, .int .i64 mx, .bool false, .slice ua cs.length uc] 27)).alloc (.cells #[.slice (some ⟨w2.heap.size, 0, none⟩) 1 1, .int .i64 0] 24) = W2 at *
  obtain ⟨ob, hob⟩ : ∃ ob, w2.heap.size + 1 = ob := ⟨_, rfl⟩
  rw [hob] at R0 ⊢
  clear hob hb2
  obtain ⟨i0, hi0, hz0, hz1, hz2⟩ := info_parts step_info
  go_loopw [] (fun wr => LU w ts b blk off cap w.heap.size ob wr) (fun wr => ts.length - (intOf ((wr.cell? ⟨b, 1, none⟩).getD undef)).toNat)
  case atStart => exact R0.out
  case round =>
    obtain ⟨L, v, f, at9, bad9, hl9, u9, hc9, hf9, hn1, hn2⟩ := hrel
    have hm0 : wr.cell? ⟨b, 1, none⟩ = some (.int .i64 at9) := u9.p.cells.1.2.1
    have ht : ts[at9]? = some ts[at9] := List.getElem?_eq_getElem hl9
    generalize ts[at9] = t at *
    have c59 := u9.is ht 59 (by omega) (by omega)
    have c44 := fun W (h : U9 w ts b blk off cap w.heap.size ob L v 0 at9 bad9 W) => h.is ht 44 (by omega) (by omega)
    obtain ⟨y1, hy1⟩ : ∃ y, (!bad9 && ((t.kind == 5) && (t.n == 59))) = y := ⟨_, rfl⟩
    obtain ⟨y2, hy2⟩ : ∃ y, (!bad9 && ((t.kind == 5) && (t.n == 44))) = y := ⟨_, rfl⟩
    rw [hy1] at c59
    rw [hy2] at c44
    have C59 := Lib.hid c59
    have C44 := Lib.hid c44
    have HY1 := Lib.hid hy1
    have HY2 := Lib.hid hy2
    have HT := Lib.hid ht
    have HC9 := Lib.hid hc9
    have HM0 := Lib.hid hm0
    clear c59 c44 hy1 hy2 ht hc9 hm0 u9 R0
    go_wp2_with fail
    refine C59.out.mono ?_
    rintro e w3 ⟨rfl, u3⟩
    clear C59
    cases y1
    · cases y2
      · go_wp2_with fail
        refine (C44.out _ u3).mono ?_
        rintro e w4 ⟨rfl, u4⟩
        have o4 := steps_end HC9.out HT.out HY1.out HY2.out
        have c5 := ref9_mustn ts b blk off cap at9 bad9 hl9 3 (by omega) (by omega) _ u4.p
        have C5 := Lib.hid c5
        have O4 := Lib.hid o4
        have U4 := Lib.hid u4
        clear c5 o4 u4 u3 C44 HC9 HM0
        go_wp2_with fail
        refine C5.out.mono ?_
        rintro e w5 ⟨x5, a5, d5, rfl, _, o5, p5, g5⟩
        have u5 := U4.out.move p5 g5
        have c6 := ref9_mustn ts b blk off cap a5 d5 o5.lt 1 (by omega) (by omega) _ u5.p
        have C6 := Lib.hid c6
        have O5 := Lib.hid o5
        have U5 := Lib.hid u5
        clear c6 o5 u5 p5 g5 U4 C5
        go_wp2_with fail
        refine C6.out.mono ?_
        rintro e w6 ⟨x6, a6, d6, rfl, _, o6, p6, g6⟩
        have u6 := U5.out.move p6 g6
        have z1 : w6.cell? ⟨ob, 1, none⟩ = some (.int .i64 0) := u6.o.cell 1
        have zf := u6.o.free
        have zl := u6.o.size
        have u7 := u6.setW x6
        have c7 := ref9_mustn ts b blk off cap a6 d6 o6.lt 0 (by omega) (by omega) _ u7.p
        have C7 := Lib.hid c7
        have O6 := Lib.hid o6
        have U7 := Lib.hid u7
        clear c7 o6 u6 u7 p6 g6 U5 C6
        go_wp2_with fail
        refine C7.out.mono ?_
        rintro e w8 ⟨x8, a8, d8, rfl, _, o8, p8, g8⟩
        have u8 := U7.out.move p8 g8
        have op := pat_out O4.out O5.out O6.out o8
        have l8 := o8.lt
        have ht8 : ts[a8]? = some ts[a8] := List.getElem?_eq_getElem l8
        generalize ts[a8] = t8 at *
        have cn := ref9_now ts b blk off cap a8 d8 t8 ht8 _ u8.p
        have F2 := tok_field2 t8.kind t8.n t8.at'
        obtain ⟨⟨_, _, y2⟩, yf, yl⟩ := u8.p.cells
        obtain ⟨g, vcap, rfl, _, _⟩ := u8.row.form (by omega)
        have OP := Lib.hid op
        have HT8 := Lib.hid ht8
        clear op ht8 o8 p8 g8 C7 U7 O4 O5 O6 zf zl z1
        cases d8
        · have hpo := parse_good HA.out OP.out
          have v0 : w8.cell? ⟨w.heap.size, 0, none⟩ = some (.slice none 0 0) := u8.r.cell 0
          have v1 : w8.cell? ⟨w.heap.size, 1, none⟩ = some (.int .i64 0) := u8.r.cell 1
          have vf := u8.r.free
          have vl := u8.r.size
          have q0 : w8.cell? ⟨ob, 0, none⟩ = some (.slice (some ⟨g, 0, none⟩) L.length vcap) := u8.o.cell 0
          have q1 : w8.cell? ⟨ob, 1, none⟩ = some (.int .i64 x6) := u8.o.cell 1
          have U8 := Lib.hid u8
          have HPO := Lib.hid hpo
          clear u8 hpo cn F2
          go_wp2_with fail
          obtain ⟨tf, tb, tp⟩ := U8.out.fin (.slice (some ⟨g, 0, none⟩) L.length vcap) (.int .i64 x6)
          refine bodyPost_ret (results_first3 rfl _ _ w.heap.size 24 #[.slice (some ⟨g, 0, none⟩) L.length vcap, .int .i64 x6] _ rfl tf Tryd.underlying24 rfl (by kernel_rfl)) rfl ?_
          refine ⟨.agg #[.slice (some ⟨g, 0, none⟩) L.length vcap, .int .i64 x6], ?_, ?_, tb⟩
          · rw [HPO.out]; rfl
          · rw [HPO.out]; exact tp
        · have hpo := parse_bad HA.out OP.out HT8.out
          obtain ⟨k8, n8, x8'⟩ := t8
          simp only at *
          have CN := Lib.hid cn
          have U8 := Lib.hid u8
          have HPO := Lib.hid hpo
          clear u8 hpo cn HT8
          go_wp2_with fail
          refine CN.out.mono ?_
          rintro e w9 ⟨rfl, hb9⟩
          have u9 := U8.out.later hb9
          have v0 : w9.cell? ⟨w.heap.size, 0, none⟩ = some (.slice none 0 0) := u9.r.cell 0
          have v1 : w9.cell? ⟨w.heap.size, 1, none⟩ = some (.int .i64 0) := u9.r.cell 1
          have vf := u9.r.free
          have vl := u9.r.size
          have U9' := Lib.hid u9
          clear u9 hb9 U8
          go_wp2_with fail
          obtain ⟨tf, tb, -⟩ := U9'.out.fin (.slice none 0 0) (.int .i64 0)
          refine bodyPost_ret (results_first3 rfl _ _ w.heap.size 24 #[.slice none 0 0, .int .i64 0] _ rfl tf Tryd.underlying24 rfl (by kernel_rfl)) rfl ?_
          refine ⟨.agg #[.slice none 0 0, .int .i64 0], ?_, ?_, tb⟩
          · rw [HPO.out]; rfl
          · rw [HPO.out]; exact patV_nil _
      · have hbad : bad9 = false := by
          have := HY2.out
          cases bad9
          · rfl
          · simp at this
        have hst : true = ((t.kind == 5) && (t.n == 44)) := by have := HY2.out; rw [hbad] at this; simpa using this.symm
        have hcd : (((t.kind == 5) && (t.n == 59)) || ((t.kind == 5) && (t.n == 44))) = true := by rw [← hst]; simp
        have HCD := Lib.hid hcd
        have HST := Lib.hid hst
        clear hcd hst
        go_wp2_with fail
        refine (C44.out _ u3).mono ?_
        rintro e w3' ⟨rfl, u3'⟩
        go_wp2_with fail
        refine (C44.out _ u3').mono ?_
        rintro e w4 ⟨rfl, u4⟩
        clear u3'
        subst hbad
        have hk0 : t.kind ≠ 0 := by
          have := HCD.out
          simp only [Bool.or_eq_true, Bool.and_eq_true, beq_iff_eq] at this
          omega
        have hnx := HE.out.next HT.out hk0
        have cg := ref9_go1 ts b blk off cap at9 false hl9 _ u4.p
        rw [show nextAt ts at9 false = at9 + 1 from if_pos ⟨rfl, hnx⟩] at cg
        have CG := Lib.hid cg
        have U4 := Lib.hid u4
        clear cg u4 hk0 C44
        go_wp2_with fail
        refine CG.out.mono ?_
        rintro e w5 ⟨rfl, p5, g5⟩
        have u5 := U4.out.move p5 g5
        obtain ⟨g, vcap, rfl, hgb, hgl⟩ := u5.row.form (by omega)
        have hcc := fun W (h : U9 w ts b blk off cap w.heap.size ob L (.slice (some ⟨g, 0, none⟩) L.length vcap) 0 (at9 + 1) false W) => h.step hts hnx (L.length : Int) true
        have CC := Lib.hid hcc
        have u5d : U9 w ts b blk off cap w.heap.size ob L (.slice (some ⟨g, 0, none⟩) L.length vcap) 0 (at9 + 1) false w5.drew := u5.drewN 1
        have k5 : w5.cell? ⟨ob, 0, none⟩ = some (.slice (some ⟨g, 0, none⟩) L.length vcap) := u5.o.cell 0
        have U5 := Lib.hid u5
        have U5D := Lib.hid u5d
        clear hcc CG U4 p5 g5 u5 u5d u3
        go_wp2_with fail
        go_region_law (first
          | (refine step_append_lies _ (by rfl) _ _ _ (by rfl) (b + 1) 27 i0 _ 6 64 Tryd.underlying22 hi0 hz0 hz1 hz2 rfl (by omega) (.slice (some ⟨g, 0, none⟩) L.length vcap) L.length (stCells L) (by rfl) (by first | exact hu9.row.alloc _ | exact (hu9.row.alloc _).drew)
              ⟨w9.heap.size, 0, none⟩ 1 1 (stV s9 (.slice ua9 s9.cmps.length uc9)) (by rfl) (by rfl) (World.news_of_block (cs := (stV s9 (.slice ua9 s9.cmps.length uc9)).toArray) (t := 27) (fr := (0, 0)) (heap_alloc_new w9 _)) (by simp [stV, Value.oneCell'])
              (by omega) (by unfold maxLen; omega) (by omega) (by have := hu9.p.hold.size; simp; omega) _ rfl ?_; intro gg gcap w10 hown1 hgrow hat hglt; have qh := (hu9.alloc _).o.grown hgrow (holds_not_row hu9.o pat_ne_step hu9.row); have qf := qh.free; have ql := qh.size; have q5 := qh.cell 0)
          | (go_simp; go_at_call 72; (with_reducible refine (CC.out _ (by first | exact U5.out | exact U5D.out)).mono ?_); rintro e w9 ⟨s9, ua9, uc9, a9, d9, rfl, o9, hu9, hr9⟩; have z5 := hu9.o.cell 0; have z6 := (hu9.alloc (.cells (stV s9 (.slice ua9 s9.cmps.length uc9)).toArray 27)).o.cell 0; simp only [stV] at z6))
        all_goals
          have u11 := (hu9.alloc (.cells (stV s9 (.slice ua9 s9.cmps.length uc9)).toArray 27)).app (s := s9) (u := .slice ua9 s9.cmps.length uc9) (hr9.alloc _) hgrow hown1
          have hle : at9 + 1 ≤ a9 := o9.le
          obtain ⟨f', rfl⟩ : ∃ f', f = f' + 1 := ⟨f - 1, by omega⟩
          have r1 : LU w ts b blk off cap w.heap.size ob _ := ⟨L ++ [(s9, .slice ua9 s9.cmps.length uc9)], _, f', a9, d9, o9.lt, u11, by rw [List.length_append, List.map_append]; exact cont_step HC9.out HT.out HCD.out HST.out o9, by omega, by simp, by simp; omega⟩
          have hm1 := u11.p.cells.1.2.1
          have hl11 := o9.lt
          have R1 := Lib.hid r1
          have HM1 := Lib.hid hm1
          clear r1 hm1 u11 o9 hu9 hr9 hown1 hgrow hat qh qf ql q5 U5 U5D CC k5 HC9 z5 z6
          go_wp2_with fail
          go_roundw
          case rel => exact R1.out
          case measure => rw [HM0.out, HM1.out]; simp [intOf]; omega
    · have hbad : bad9 = false := by
        have := HY1.out
        cases bad9
        · rfl
        · simp at this
      have hst : y2 = ((t.kind == 5) && (t.n == 44)) := by have := HY2.out; rw [hbad] at this; simpa using this.symm
      have hcd : (((t.kind == 5) && (t.n == 59)) || ((t.kind == 5) && (t.n == 44))) = true := by
        have := HY1.out
        rw [hbad] at this
        rw [show ((t.kind == 5) && (t.n == 59)) = true by simpa using this]
        rfl
      have HCD := Lib.hid hcd
      have HST := Lib.hid hst
      clear hcd hst
      go_wp2_with fail
      refine (C44.out _ u3).mono ?_
      rintro e w4 ⟨rfl, u4⟩
      subst hbad
      have hk0 : t.kind ≠ 0 := by
        have := HCD.out
        simp only [Bool.or_eq_true, Bool.and_eq_true, beq_iff_eq] at this
        omega
      have hnx := HE.out.next HT.out hk0
      have cg := ref9_go1 ts b blk off cap at9 false hl9 _ u4.p
      rw [show nextAt ts at9 false = at9 + 1 from if_pos ⟨rfl, hnx⟩] at cg
      have CG := Lib.hid cg
      have U4 := Lib.hid u4
      clear cg u4 hk0 C44
      go_wp2_with fail
      refine CG.out.mono ?_
      rintro e w5 ⟨rfl, p5, g5⟩
      have u5 := U4.out.move p5 g5
      obtain ⟨g, vcap, rfl, hgb, hgl⟩ := u5.row.form (by omega)
      have hcc := fun W (h : U9 w ts b blk off cap w.heap.size ob L (.slice (some ⟨g, 0, none⟩) L.length vcap) 0 (at9 + 1) false W) => h.step hts hnx (L.length : Int) y2
      have CC := Lib.hid hcc
      have u5d : U9 w ts b blk off cap w.heap.size ob L (.slice (some ⟨g, 0, none⟩) L.length vcap) 0 (at9 + 1) false w5.drew := u5.drewN 1
      have k5 : w5.cell? ⟨ob, 0, none⟩ = some (.slice (some ⟨g, 0, none⟩) L.length vcap) := u5.o.cell 0
      have U5 := Lib.hid u5
      have U5D := Lib.hid u5d
      clear hcc CG U4 p5 g5 u5 u5d u3
      go_wp2_with fail
      go_region_law (first
        | (refine step_append_lies _ (by rfl) _ _ _ (by rfl) (b + 1) 27 i0 _ 6 64 Tryd.underlying22 hi0 hz0 hz1 hz2 rfl (by omega) (.slice (some ⟨g, 0, none⟩) L.length vcap) L.length (stCells L) (by rfl) (by first | exact hu9.row.alloc _ | exact (hu9.row.alloc _).drew)
            ⟨w9.heap.size, 0, none⟩ 1 1 (stV s9 (.slice ua9 s9.cmps.length uc9)) (by rfl) (by rfl) (World.news_of_block (cs := (stV s9 (.slice ua9 s9.cmps.length uc9)).toArray) (t := 27) (fr := (0, 0)) (heap_alloc_new w9 _)) (by simp [stV, Value.oneCell'])
            (by omega) (by unfold maxLen; omega) (by omega) (by have := hu9.p.hold.size; simp; omega) _ rfl ?_; intro gg gcap w10 hown1 hgrow hat hglt; have qh := (hu9.alloc _).o.grown hgrow (holds_not_row hu9.o pat_ne_step hu9.row); have qf := qh.free; have ql := qh.size; have q5 := qh.cell 0)
        | (go_simp; go_at_call 72; (with_reducible refine (CC.out _ (by first | exact U5.out | exact U5D.out)).mono ?_); rintro e w9 ⟨s9, ua9, uc9, a9, d9, rfl, o9, hu9, hr9⟩; have z5 := hu9.o.cell 0; have z6 := (hu9.alloc (.cells (stV s9 (.slice ua9 s9.cmps.length uc9)).toArray 27)).o.cell 0; simp only [stV] at z6))
      all_goals
        have u11 := (hu9.alloc (.cells (stV s9 (.slice ua9 s9.cmps.length uc9)).toArray 27)).app (s := s9) (u := .slice ua9 s9.cmps.length uc9) (hr9.alloc _) hgrow hown1
        have hle : at9 + 1 ≤ a9 := o9.le
        obtain ⟨f', rfl⟩ : ∃ f', f = f' + 1 := ⟨f - 1, by omega⟩
        have r1 : LU w ts b blk off cap w.heap.size ob _ := ⟨L ++ [(s9, .slice ua9 s9.cmps.length uc9)], _, f', a9, d9, o9.lt, u11, by rw [List.length_append, List.map_append]; exact cont_step HC9.out HT.out HCD.out HST.out o9, by omega, by simp, by simp; omega⟩
        have hm1 := u11.p.cells.1.2.1
        have hl11 := o9.lt
        have R1 := Lib.hid r1
        have HM1 := Lib.hid hm1
        clear r1 hm1 u11 o9 hu9 hr9 hown1 hgrow hat qh qf ql q5 U5 U5D CC k5 HC9 z5 z6
        go_wp2_with fail
        go_roundw
        case rel => exact R1.out
        case measure => rw [HM0.out, HM1.out]; simp [intOf]; omega
end Go.Proofs.YtafgincpoahefaaDoor
