/-
  stragglelaw09.ParseMay: true of any text that is a pattern's.
-/
import Derived.Test.YtafgincpoahefaaDoorParL2
namespace Go.Proofs.YtafgincpoahefaaDoor
open Go.RowKit
attribute [local go_sem] Oper.semAt_some

theorem steps_cells {W : World} {a1 : Option Addr} {c1 N : Nat} {ss : List St} (h : StepsV W (.slice a1 N c1) ss) (h0 : 0 < ss.length) : ∃ b off, a1 = some ⟨b, off, none⟩ ∧ ∀ (i : Nat) (s : St), ss[i]? = some s → ∃ ca cc, W.cell? ⟨b, off + i * 6 + 5, none⟩ = some (.slice ca s.cmps.length cc) ∧ W.cell? ⟨b, off + i * 6 + 4, none⟩ = some (.bool s.strict) := by
  obtain ⟨a, c, e, _, _, _, h⟩ := h
  cases e
  rcases h with rfl | ⟨b, off, rfl, h⟩
  · cases h0
  · refine ⟨b, off, rfl, fun i s hi => ?_⟩
    obtain ⟨v, ⟨ca, cc, rfl, _⟩, hc⟩ := h i s hi
    exact ⟨ca, cc, hc 5 _ rfl, hc 4 _ rfl⟩
theorem asks_pos : ∀ ss : List St, 0 ≤ asks ss
  | [] => Int.le_refl _
  | s :: ss => by
    have := asks_pos ss
    simp only [asks, List.map_cons, List.sum_cons] at this ⊢
    omega
theorem asks_drop {ss : List St} {j : Nat} {s : St} (h : ss[j]? = some s) : asks (ss.drop j) = s.cmps.length + asks (ss.drop (j + 1)) := by
  obtain ⟨hj, rfl⟩ := List.getElem?_eq_some_iff.1 h
  rw [List.drop_eq_getElem_cons hj]
  simp only [asks, List.map_cons, List.sum_cons]
set_option maxRecDepth 100000 in
set_option maxHeartbeats 8000000 in
/-- a text that is a pattern's -/
theorem parMay_ok (s : ByteArray) (hs : s.size ≤ 3000) (n : Nat) (ts : List Tok) (ss : List St) (win : Int) (hall : allOf s.data.toList = (ts, 0, 0)) (hn : ts.length = n) (hn2 : n ≤ 2001)
    (hp : parseOf s.data.toList = (⟨ss, win⟩, 0, 0)) (w : World) (hG : GL w) :
    Calls Tryd.prog 17 #[.string s] w fun e w' => e = .returned (.bool true) ∧ Below w.heap.size w w' := by
  obtain ⟨_, hpt, hst, hsc, hwf⟩ := par_told hall hp
  have cP := parse_open s (by omega) _ _ _ hp w hG
  have cA := fun w => ref9_All s (by omega) ts 0 0 n hn hall w
  have cW := fun W (hb : Below w.heap.size w W) => wakes09 W (hG.mono hb)
  have hget : ∀ i, i < n → ∃ kd m a : Int, ts[i]? = some ⟨kd, m, a⟩ := fun i hi => by
    have hl : i < ts.length := by omega
    exact ⟨_, _, _, List.getElem?_eq_getElem hl⟩
  have hss := (pt_facts hpt).1
  have hss2 := (pt_facts hpt).2.1
  simp only at hss hss2 hst hsc
  have cR := fun W a1 c1 (hv : StepsV W (.slice a1 ss.length c1) ss) => ref8_Right ⟨ss, win⟩ (.agg #[.slice a1 ss.length c1, .int .i64 win]) W ⟨_, rfl, hv⟩ hwf
  rw [hpt] at cR
  obtain ⟨s0, hs0⟩ : ∃ s0, ss[0]? = some s0 := ⟨_, List.getElem?_eq_getElem hss⟩
  have hst0 : s0.strict = false := by
    cases ss with
    | nil => cases hss
    | cons x r =>
      simp only [List.getElem?_cons_zero, Option.some.injEq] at hs0
      subst hs0
      simpa using hst
  obtain ⟨N, hN⟩ : ∃ N, ss.length = N := ⟨_, rfl⟩
  have hscan : scan (0, 0, 0) (ts.take n) = (0, (N : Int) - 1, asks ss) := by rw [List.take_of_length_le (by omega), hsc, hN]
  have hask : asks ss ≤ n := by
    have := (scan_range ts n).2.2.2
    rw [hscan] at this
    exact this
  rw [hN] at cR
  simp only [hN] at cP
  have CP := Lib.hid cP
  have CA := Lib.hid cA
  have CW := Lib.hid cW
  have CR := Lib.hid cR
  have HGET := Lib.hid hget
  have HN := Lib.hid hN
  have HS0 := Lib.hid (And.intro hs0 hst0)
  have HSCAN := Lib.hid hscan
  have HASK := Lib.hid hask
  have HSS := Lib.hid hss
  have hN1 : 1 ≤ N := by omega
  have hN2 : N ≤ 26 := by omega
  have eN : ((N : Int) == 0) = false := by simp only [beq_eq_false_iff_ne]; omega
  clear cP cA cW cR hG hp hall hget hn hpt hst hsc hwf hss hss2 hs0 hst0 hN hscan hask
  go_enter Tryd.func17, Tryd.ntmps17
  go_wp2_with fail
  refine CP.out.mono ?_
  rintro e w1 ⟨a1, c1, rfl, hv, hb1⟩
  have z1 := Holds.fresh w1 24 #[.slice a1 N c1, .int .i64 win]
  have hB1 := hb1.alloc hb1.size (.cells #[.slice a1 N c1, .int .i64 win] 24)
  have hv1 := hv _ none (World.grownBy_alloc w1 (.cells #[.slice a1 N c1, .int .i64 win] 24) none) (fun j e => nomatch e)
  have Z1 := Lib.hid z1
  have HV1 := Lib.hid hv1
  have HB1 := Lib.hid hB1
  clear z1 hb1 hB1 CP hv hv1
  go_wp2_with fail
  generalize w1.alloc (.cells #[.slice a1 N c1, .int .i64 win] 24) = W1 at *
  generalize w1.heap.size = z at *
  refine (CA.out _).mono ?_
  rintro e w2 ⟨ad, cap, rfl, hcap, ht, hb2⟩
  have z2 := Z1.out.later hb2
  have hv2 := HV1.out.mono hb2 (Nat.le_refl _)
  obtain ⟨b, off, rfl, hcells⟩ := steps_cells hv2 HSS.out
  obtain ⟨_, _, _, hc4⟩ := hcells 0 s0 HS0.out.1
  rw [HS0.out.2, Nat.zero_mul, Nat.add_zero] at hc4
  have y0 : w2.cell? ⟨z, 0, none⟩ = some (.slice (some ⟨b, off, none⟩) N c1) := z2.cell 0
  have y1 : w2.cell? ⟨z, 1, none⟩ = some (.int .i64 win) := z2.cell 1
  have cr := CR.out w2 _ _ hv2
  have HB2 := Lib.hid (HB1.out.trans (hb2.mono HB1.out.size))
  have HT := Lib.hid ht
  have Z2 := Lib.hid z2
  have HV2 := Lib.hid hv2
  have CR2 := Lib.hid cr
  clear ht hb2 HB1 Z1 CA hcells z2 hv2 cr CR HV1
  go_wp2_with fail
  refine CR2.out.mono ?_
  rintro e w3 ⟨rfl, hb3⟩
  have hc4' := cell_mono hb3 (Nat.le_refl _) hc4
  have y0' := cell_mono hb3 (Nat.le_refl _) y0
  have HT3 := Lib.hid (HT.out.mono hb3 (Nat.le_refl _))
  have HV3 := Lib.hid (HV2.out.mono hb3 (Nat.le_refl _))
  have HB3 := Lib.hid (HB2.out.trans (hb3.mono HB2.out.size))
  clear y0 y1 hc4 hb3 HT HV2 HB2 Z2 CR2
  go_wp2_with fail
  go_loopw [11, 12, 13, 14] (fun sp cm dp i wr => ∃ (j : Nat) (d q o : Int), j ≤ n ∧ i = .int .i64 j ∧ sp = .int .i64 q ∧ cm = .int .i64 o ∧ dp = .int .i64 d ∧ Hid (scan (0, 0, 0) (ts.take j) = (d, q, o)) ∧ (-(j : Int) ≤ d ∧ d ≤ j) ∧ (0 ≤ q ∧ q ≤ j) ∧ (0 ≤ o ∧ o ≤ j) ∧ wr = w3) (fun _ _ _ i _ => n - (intOf i).toNat)
  case atStart => exact ⟨0, 0, 0, 0, Nat.zero_le _, rfl, rfl, rfl, rfl, Lib.hid rfl, by omega, by omega, by omega, rfl⟩
  case round =>
    obtain ⟨j, d, q, o, hj, rfl, rfl, rfl, rfl, HS, ⟨hd0, hd1⟩, ⟨hq0, hq1⟩, ⟨ho0, ho1⟩, rfl⟩ := hrel
    by_cases hlt : j < n
    · obtain ⟨kd, m, a', ht'⟩ := HGET.out j hlt
      obtain ⟨b1, o1, e1, x0, x1, x2⟩ := HT3.out.place j _ ht'
      cases e1
      simp only at x0 x1 x2
      have HTJ := Lib.hid ht'
      clear ht'
      go_upto_region 21 with (fail)
      go_cut [15] (fun s15 wc => s15 = .bool (openB ⟨kd, m, a'⟩) ∧ wc = wr)
      case first => as_aux_lemma =>
        by_cases k5 : kd = 5
        · subst k5
          by_cases m40 : m = 40
          · subst m40
            go_wp2_with fail
            go_meet
            exact ⟨rfl, rfl⟩
          have b40 : (m == 40) = false := by simpa using m40
          have B40 := Lib.hid m40
          clear m40
          by_cases m91 : m = 91
          · subst m91
            go_wp2_with fail
            go_meet
            exact ⟨rfl, rfl⟩
          have b91 : (m == 91) = false := by simpa using m91
          have B91 := Lib.hid m91
          clear m91
          by_cases m123 : m = 123
          · subst m123
            go_wp2_with fail
            go_meet
            exact ⟨rfl, rfl⟩
          have b123 : (m == 123) = false := by simpa using m123
          have B123 := Lib.hid m123
          clear m123
          have eo : openB ⟨5, m, a'⟩ = false := by simp [openB, B40.out, B91.out, B123.out]
          have EO := Lib.hid eo
          clear eo
          go_wp2_with fail
          go_meet
          exact ⟨by rw [EO.out], rfl⟩
        have b5 : (kd == 5) = false := by simpa using k5
        have eo : openB ⟨kd, m, a'⟩ = false := by simp [openB, k5]
        have EO := Lib.hid eo
        clear eo k5
        go_wp2_with fail
        go_meet
        exact ⟨by rw [EO.out], rfl⟩
      case rest =>
      obtain ⟨rfl, rfl⟩ := hcut
      go_upto_region 22 with (fail)
      go_cut [16] (fun s16 wd => s16 = .bool (shutB ⟨kd, m, a'⟩) ∧ wd = wc)
      case first => as_aux_lemma =>
        by_cases k5 : kd = 5
        · subst k5
          by_cases m41 : m = 41
          · subst m41
            go_wp2_with fail
            go_meet
            exact ⟨rfl, rfl⟩
          have b41 : (m == 41) = false := by simpa using m41
          have B41 := Lib.hid m41
          clear m41
          by_cases m93 : m = 93
          · subst m93
            go_wp2_with fail
            go_meet
            exact ⟨rfl, rfl⟩
          have b93 : (m == 93) = false := by simpa using m93
          have B93 := Lib.hid m93
          clear m93
          by_cases m125 : m = 125
          · subst m125
            go_wp2_with fail
            go_meet
            exact ⟨rfl, rfl⟩
          have b125 : (m == 125) = false := by simpa using m125
          have B125 := Lib.hid m125
          clear m125
          have eo : shutB ⟨5, m, a'⟩ = false := by simp [shutB, B41.out, B93.out, B125.out]
          have EO := Lib.hid eo
          clear eo
          go_wp2_with fail
          go_meet
          exact ⟨by rw [EO.out], rfl⟩
        have b5 : (kd == 5) = false := by simpa using k5
        have eo : shutB ⟨kd, m, a'⟩ = false := by simp [shutB, k5]
        have EO := Lib.hid eo
        clear eo k5
        go_wp2_with fail
        go_meet
        exact ⟨by rw [EO.out], rfl⟩
      case rest =>
      obtain ⟨rfl, rfl⟩ := hcut
      obtain ⟨bo, hbo⟩ : ∃ bo, openB ⟨kd, m, a'⟩ = bo := ⟨_, rfl⟩
      obtain ⟨bs, hbs⟩ : ∃ bs, shutB ⟨kd, m, a'⟩ = bs := ⟨_, rfl⟩
      rw [hbo, hbs]
      obtain ⟨D, hD⟩ : ∃ D, deepOf d ⟨kd, m, a'⟩ = D := ⟨_, rfl⟩
      have hDr : -((j : Int) + 1) ≤ D ∧ D ≤ (j : Int) + 1 := by
        rw [← hD]
        unfold deepOf
        split <;> split <;> omega
      obtain ⟨hD0, hD1⟩ := hDr
      have hDb : D = (if bo = true then d + 1 else d) - (if bs = true then 1 else 0) := by rw [← hD, ← hbo, ← hbs]; rfl
      have HDD := Lib.hid hD
      have HDB := Lib.hid hDb
      clear hbo hbs hD hDb
      go_upto_if 180 with (fail)
      go_cut [13] (fun s13 we => ∃ d1 : Int, s13 = .int .i64 d1 ∧ Hid (d1 = if bo = true then d + 1 else d) ∧ we = wc)
      case first => as_aux_lemma =>
        cases bo
        · go_wp2_with fail
          go_meet
          exact ⟨_, rfl, Lib.hid rfl, rfl⟩
        · go_wp2_with fail
          go_meet
          exact ⟨_, rfl, Lib.hid rfl, rfl⟩
      case rest =>
      obtain ⟨d1, rfl, Hd1, rfl⟩ := hcut
      have hd1r : -((j : Int) + 1) ≤ d1 ∧ d1 ≤ (j : Int) + 1 := by rw [Hd1.out]; split <;> omega
      obtain ⟨hd10, hd11⟩ := hd1r
      go_upto_if 183 with (fail)
      go_cut [13] (fun s13 wf => s13 = .int .i64 D ∧ wf = wc)
      case first => as_aux_lemma =>
        have h := HDB.out
        rw [← Hd1.out] at h
        cases bs
        · have h' : D = d1 := by simpa using h
          have HD' := Lib.hid h'
          clear h h'
          go_wp2_with fail
          go_meet
          exact ⟨by rw [HD'.out], rfl⟩
        · have h' : D = d1 - 1 := by simpa using h
          have HD' := Lib.hid h'
          clear h h'
          go_wp2_with fail
          go_meet
          exact ⟨by rw [HD'.out], rfl⟩
      case rest =>
      obtain ⟨rfl, rfl⟩ := hcut
      clear hd10 hd11 Hd1 HDB
      go_upto_region 27 with (fail)
      go_cut [211] (fun s211 wg => s211 = .bool (sepB D ⟨kd, m, a'⟩) ∧ wg = wc)
      case first => as_aux_lemma =>
        by_cases hz : D = 0
        · subst hz
          by_cases k5 : kd = 5
          · subst k5
            by_cases m59 : m = 59
            · subst m59
              go_wp2_with fail
              go_meet
              exact ⟨rfl, rfl⟩
            have b59 : (m == 59) = false := by simpa using m59
            have B59 := Lib.hid m59
            clear m59
            by_cases m44 : m = 44
            · subst m44
              go_wp2_with fail
              go_meet
              exact ⟨rfl, rfl⟩
            have b44 : (m == 44) = false := by simpa using m44
            have eo : sepB 0 ⟨5, m, a'⟩ = false := by simp [sepB, B59.out, m44]
            have EO := Lib.hid eo
            clear eo m44
            go_wp2_with fail
            go_meet
            exact ⟨by rw [EO.out], rfl⟩
          · have b5 : (kd == 5) = false := by simpa using k5
            have eo : sepB 0 ⟨kd, m, a'⟩ = false := by simp [sepB, k5]
            have EO := Lib.hid eo
            clear eo k5
            go_wp2_with fail
            go_meet
            exact ⟨by rw [EO.out], rfl⟩
        · have bz : (D == 0) = false := by simpa using hz
          have eo : sepB D ⟨kd, m, a'⟩ = false := by simp [sepB, hz]
          have EO := Lib.hid eo
          clear eo hz
          go_wp2_with fail
          go_meet
          exact ⟨by rw [EO.out], rfl⟩
      case rest =>
      obtain ⟨rfl, rfl⟩ := hcut
      obtain ⟨bp, hbp⟩ : ∃ bp, sepB D ⟨kd, m, a'⟩ = bp := ⟨_, rfl⟩
      rw [hbp]
      have hscn : scan (0, 0, 0) (ts.take (j + 1)) = (D, q + (if bp = true then 1 else 0), o + (if kd = 4 then 1 else 0)) := by
        rw [scan_succ HTJ.out, HS.out, ← hbp]
        unfold scan1
        simp only [HDD.out]
      have HSC := Lib.hid hscn
      clear hscn hbp HTJ HS HDD
      cases bp
      · by_cases k4 : kd = 4
        · subst k4
          as_aux_lemma =>
          go_wp2_with fail
          go_roundw
          case rel => exact ⟨j + 1, _, _, _, by omega, by go_num, rfl, rfl, rfl, Lib.hid (by rw [HSC.out]; simp), by omega, by omega, by omega, trivial⟩
          case measure => simp [intOf]; omega
        · have b4 : (kd == 4) = false := by simpa using k4
          have K4 := Lib.hid k4
          clear k4
          as_aux_lemma =>
          go_wp2_with fail
          go_roundw
          case rel => exact ⟨j + 1, _, _, _, by omega, by go_num, rfl, rfl, rfl, Lib.hid (by rw [HSC.out]; simp [K4.out]), by omega, by omega, by omega, trivial⟩
          case measure => simp [intOf]; omega
      · by_cases k4 : kd = 4
        · subst k4
          as_aux_lemma =>
          go_wp2_with fail
          go_roundw
          case rel => exact ⟨j + 1, _, _, _, by omega, by go_num, rfl, rfl, rfl, Lib.hid (by rw [HSC.out]; simp), by omega, by omega, by omega, trivial⟩
          case measure => simp [intOf]; omega
        · have b4 : (kd == 4) = false := by simpa using k4
          have K4 := Lib.hid k4
          clear k4
          as_aux_lemma =>
          go_wp2_with fail
          go_roundw
          case rel => exact ⟨j + 1, _, _, _, by omega, by go_num, rfl, rfl, rfl, Lib.hid (by rw [HSC.out]; simp [K4.out]), by omega, by omega, by omega, trivial⟩
          case measure => simp [intOf]; omega
    · obtain rfl : j = n := by omega
      have he := HS.out
      rw [HSCAN.out] at he
      simp only [Prod.mk.injEq] at he
      obtain ⟨rfl, hq, ho⟩ := he
      have eq1 : ((N : Int) == q + 1) = true := by simp only [beq_iff_eq]; omega
      have hask := HASK.out
      have hasp := asks_pos ss
      have ho' : o = asks (ss.drop 0) := by rw [List.drop_zero]; exact ho.symm
      have HO := Lib.hid ho'
      have ho0 : 0 ≤ o := by omega
      have ho1 : o ≤ 2001 := by omega
      have hq0 : 0 ≤ q := by omega
      have hq1 : q ≤ 2001 := by omega
      clear hq ho ho' hask hasp HS HT3 HGET HSCAN HASK hlt
      go_wp2_with fail
      go_loopw [12, 17] (fun cm i wx => ∃ (i0 : Nat) (o : Int), i0 ≤ N ∧ i = .int .i64 i0 ∧ cm = .int .i64 o ∧ Hid (o = asks (ss.drop i0)) ∧ 0 ≤ o ∧ o ≤ 2001 ∧ wx = wr) (fun _ i _ => N - (intOf i).toNat)
      case atStart => exact ⟨0, o, Nat.zero_le _, rfl, rfl, HO, ho0, ho1, rfl⟩
      case round =>
        clear ho0 ho1 HO
        obtain ⟨i0, o, hi0, rfl, rfl, HO, ho0, ho1, rfl⟩ := hrel
        by_cases hlt2 : i0 < N
        · obtain ⟨st, hst⟩ : ∃ st, ss[i0]? = some st := ⟨_, List.getElem?_eq_getElem (by have := HN.out; omega)⟩
          obtain ⟨b9, off9, e9, hc9⟩ := steps_cells HV3.out HSS.out
          cases e9
          obtain ⟨ca, cc, h5, -⟩ := hc9 i0 st hst
          have hdr := asks_drop hst
          have hpo := asks_pos (ss.drop (i0 + 1))
          have hl : (st.cmps.length : Int) ≤ o := by rw [HO.out]; omega
          have hnew : o - st.cmps.length = asks (ss.drop (i0 + 1)) := by rw [HO.out]; omega
          have HNEW := Lib.hid hnew
          generalize st.cmps.length = ln at *
          clear hc9 hdr hpo hnew hst
          go_wp2_with fail
          go_roundw
          case rel => exact ⟨i0 + 1, _, by omega, by go_num, rfl, HNEW, by omega, by omega, trivial⟩
          case measure => simp [intOf]; omega
        · obtain rfl : i0 = N := by omega
          obtain rfl : o = 0 := by rw [HO.out, List.drop_of_length_le (by have := HN.out; omega)]; rfl
          clear hlt2 HO
          go_wp2_with fail
          refine (CW.out _ HB3.out).mono ?_
          rintro e w5 ⟨rfl, hb5⟩
          go_wp2_with fail
          go_ret
          exact ⟨rfl, HB3.out.trans (hb5.mono HB3.out.size)⟩
set_option maxRecDepth 100000 in
theorem parMay_long (s : ByteArray) (hs : 3000 < s.size) (w : World) (hG : GL w) :
    Calls Tryd.prog 17 #[.string s] w fun e w' => e = .returned (.bool true) ∧ Below w.heap.size w w' := by
  go_enter Tryd.func17, Tryd.ntmps17
  go_wp2_with fail
  refine (wakes09 _ hG).mono ?_
  rintro e w9 ⟨rfl, hb9⟩
  go_wp2_with fail
  go_ret
  exact ⟨rfl, hb9⟩
theorem parseMay_walk (s : ByteArray) (w : World) (_hs0 : s.size ≤ 140737488351232) (hG : GL w) :
    Calls Tryd.prog 17 #[.string s] w fun e w' => e = .returned (.bool true) ∧ Below w.heap.size w w' := by
  by_cases hs : 3000 < s.size
  · exact parMay_long s hs w hG
  have hs : s.size ≤ 3000 := by omega
  rcases ha : allOf s.data.toList with ⟨ts, p, c⟩
  by_cases hc : c = 0
  · subst hc
    obtain ⟨rfl, hl, hg, rfl⟩ := all_ok ha
    have hlen := toksL_len s.data.toList
    have hyl := yields_len _ 0 s.data.toList (Nat.le_refl _)
    rcases r : pPat (toksL s.data.toList) with a | ⟨⟨ss, win⟩, l⟩
    · have hp := (parseOf_ts ha).1 _ r
      obtain ⟨pre, x, r', h5, rfl, _⟩ := (loc_pat _).err r (toksL_end hg)
      obtain ⟨kd, m, at_⟩ := x
      exact parMay_bad s hs _ pre.length kd m at_ ha rfl (by omega) (by rw [h5]; simp) hp w hG
    · exact parMay_ok s hs _ _ ss win ha rfl (by omega) ((parseOf_ts ha).2 _ _ r) w hG
  · exact parMay_lex s hs ts p c ha hc w hG
end Go.Proofs.YtafgincpoahefaaDoor
