/-
  straggleref10: Step.
-/
import Derived.Test.YtafgincpoahefaaDoorPr10
namespace Go.Proofs.YtafgincpoahefaaDoor
open Go.RowKit

/-- a new step of a slice of steps is asked -/
theorem right10_new (s : St) (hw : stWf s) (v : Value) (w : World) (hv : CmpsV w v s.cmps) (b : Nat) (hb : w.heap.size = b) : Calls Tryd.prog 35 #[.agg #[.slice (some ⟨b, 0, none⟩) 1 1, .int .i64 0]] (w.alloc (.cells (stV s v).toArray 27)) fun e w' => e = .returned (.bool (stB s)) ∧ Below (w.heap.size + 1) (w.alloc (.cells (stV s v).toArray 27)) w' := by
  have := ref8_Right ⟨[s], 0⟩ _ _ ⟨_, rfl, steps_new w b hb 27 s v hv⟩ (by simpa using hw)
  rw [pt_one] at this
  exact this.mono fun _ _ h => ⟨h.1, by simpa using h.2⟩

set_option maxRecDepth 100000 in
set_option maxHeartbeats 2000000 in
theorem ref10_Step_no (s : St) (i : Int) (hw : stWf s) (h : ¬ (stB s = true ∧ 0 ≤ i ∧ i < 26)) (v : Value) (w : World) (hv : CmpsV w v s.cmps) :
    Calls Tryd.prog 26 #[stA s v, .int .i64 i] w fun e w' => e = .returned (sV []) ∧ Below w.heap.size w w' := by
  have cm := right10_new s hw v (w.alloc (.cells (stV s v).toArray 27)) (hv.mono ((Below.refl _ _).alloc (Nat.le_refl _) _) (Nat.le_refl _)) (w.heap.size + 1) (by simp)
  have cl := fun W => ref10_Letter i W
  have hl : stB s = true → letterT i = [] := fun e => letterT_no (fun g => h ⟨e, g⟩)
  generalize stB s = r at *
  obtain ⟨neg, kd, mn, mx, st, cs⟩ := s
  simp only [stA, stV] at *
  clear hv hw h
  have CM := Lib.hid cm; clear cm
  cases r
  · clear cl hl
    go_enter Tryd.func26, Tryd.ntmps26
    go_wp2_with fail
    refine CM.out.mono ?_
    rintro e w1 ⟨rfl, hb1⟩
    go_wp2_with fail
    go_ret
    exact ⟨rfl, (((Below.refl _ _).alloc (Nat.le_refl _) _).alloc (by simp) _).trans (hb1.mono (by simp; omega))⟩
  · rw [hl rfl] at cl
    replace cl : ∀ W, Calls Tryd.prog 34 #[.int .i64 i] W fun e w' => e = .returned (.string ⟨#[]⟩) ∧ Below W.heap.size W w' := cl
    have CL := Lib.hid cl; clear cl hl
    go_enter Tryd.func26, Tryd.ntmps26
    go_wp2_with fail
    refine CM.out.mono ?_
    rintro e w1 ⟨rfl, hb1⟩
    have HB := Lib.hid ((((Below.refl w.heap.size w).alloc (Nat.le_refl _) (.cells #[.bool neg, .int .i64 kd, .int .i64 mn, .int .i64 mx, .bool st, v] 27)).alloc (by simp) (.cells #[.bool neg, .int .i64 kd, .int .i64 mn, .int .i64 mx, .bool st, v] 27)).trans (hb1.mono (by simp; omega)))
    go_wp2_with fail
    refine (CL.out _).mono ?_
    rintro e w2 ⟨rfl, hb2⟩
    go_wp2_with fail
    go_ret
    exact ⟨rfl, HB.out.trans (hb2.mono HB.out.size)⟩

/-- where a step's text is being put together, in a string -/
structure SR (w : World) (b : Nat) (cs : Array Value) (wc : World) : Prop where
  step : Holds wc b 27 cs
  below : Below w.heap.size w wc
theorem SR.later {w : World} {b : Nat} {cs : Array Value} {wc w' : World} (h : SR w b cs wc) (hb : Below wc.heap.size wc w') : SR w b cs w' :=
  ⟨h.step.later hb, h.below.trans (hb.mono h.below.size)⟩
theorem SR.num {w : World} {b : Nat} {cs : Array Value} (n : Int) (hn : bnd n) (A : ByteArray) (hA : sV (Lib.itoa n) = .string A) (W : World) (h : SR w b cs W) :
    Calls Tryd.prog 40 #[.int .i64 n] W fun e w' => e = .returned (.string A) ∧ SR w b cs w' := by
  refine (ref_TextP n hn W).mono ?_
  rintro e w' ⟨rfl, hb⟩
  exact ⟨by rw [hA], h.later hb⟩
theorem cmpsPre_len (cs : List Cm) (h : ∀ c ∈ cs, cmWf c) (hn : cs.length ≤ 20) : (cmpsPre cs).length ≤ 1261 := by
  have := join_cmps cs h hn
  unfold cmpsPre
  split
  · simp
  · simp only [List.length_cons]; omega
theorem ba_len {A : ByteArray} {l : List UInt8} (h : A = ⟨l.toArray⟩) : A.size = l.length := by rw [h, ba_size]

set_option maxRecDepth 100000 in
set_option maxHeartbeats 4000000 in
theorem ref10_Step_yes (s : St) (i : Int) (hw : stWf s) (hb : stB s = true) (h0 : 0 ≤ i) (h1 : i < 26) (hn : s.cmps.length ≤ 20) (v : Value) (w : World) (hv : CmpsV w v s.cmps) :
    Calls Tryd.prog 26 #[stA s v, .int .i64 i] w fun e w' => e = .returned (sV (stepT0 s i)) ∧ Below w.heap.size w w' := by
  have cm := right10_new s hw v (w.alloc (.cells (stV s v).toArray 27)) (hv.mono ((Below.refl _ _).alloc (Nat.le_refl _) _) (Nat.le_refl _)) (w.heap.size + 1) (by simp)
  rw [hb] at cm
  obtain ⟨Lt, eL, sL, rL⟩ := sV_gen (letterT i) 1 (letterT_len i)
  have cl := fun W => ref10_Letter i W
  rw [eL] at cl
  obtain ⟨hL1, hL2⟩ := str_ne (letterT_ne h0 h1)
  rw [← rL] at hL1 hL2
  have htx := step3_text s i
  obtain ⟨ln1, ln2, ln3⟩ := step3_len s.neg s.kind s.min s.max i hw.1 hw.2.1 hw.2.2.1
  obtain ⟨K, eK, sK, rK⟩ := sV_gen (Lib.itoa s.kind) 21 (itoa_len _ hw.1)
  obtain ⟨ca, cc, rfl, hlc, hlen, hnil, hca⟩ := hv
  have hcw := hw.2.2.2
  have z0 := (Holds.fresh w 27 (stV s (.slice ca s.cmps.length cc)).toArray).alloc (.cells (stV s (.slice ca s.cmps.length cc)).toArray 27)
  obtain ⟨neg, kd, mn, mx, st, cs⟩ := s
  simp only [stA, stV] at *
  generalize stepT0 ⟨neg, kd, mn, mx, st, cs⟩ i = TX at *
  obtain ⟨m, hm⟩ : ∃ m, cs.length = m := ⟨_, rfl⟩
  rw [hm] at cm hn hlc hlen z0 ⊢
  have CM := Lib.hid cm; clear cm
  have CL := Lib.hid cl; clear cl
  have Z0 := Lib.hid z0; clear z0
  have HTX := Lib.hid htx; clear htx
  have RL := Lib.hid rL; clear rL
  have RK := Lib.hid rK; clear rK
  have EK := Lib.hid eK; clear eK
  have HM := Lib.hid hm; clear hm
  have HCA := Lib.hid hca; clear hca
  have HCW := Lib.hid hcw; clear hcw
  have HW := Lib.hid hw; clear hw
  clear eL hb
  go_enter Tryd.func26, Tryd.ntmps26
  go_wp2_with fail
  refine CM.out.mono ?_
  rintro e w1 ⟨rfl, hb1⟩
  have sr1 : SR w w.heap.size #[.bool neg, .int .i64 kd, .int .i64 mn, .int .i64 mx, .bool st, .slice ca m cc] w1 :=
    ⟨Z0.out.below hb1 (by simp; omega), (((Below.refl w.heap.size w).alloc (Nat.le_refl _) (.cells #[.bool neg, .int .i64 kd, .int .i64 mn, .int .i64 mx, .bool st, .slice ca m cc] 27)).alloc (by simp) (.cells #[.bool neg, .int .i64 kd, .int .i64 mn, .int .i64 mx, .bool st, .slice ca m cc] 27)).trans (hb1.mono (by simp; omega))⟩
  have SR1 := Lib.hid sr1; clear sr1
  clear hb1
  go_wp2_with fail
  refine (CL.out _).mono ?_
  rintro e w2 ⟨rfl, hb2⟩
  have sr2 := SR1.out.later hb2
  have c0 : w2.cell? ⟨w.heap.size, 0, none⟩ = some (.bool neg) := sr2.step.cell 0
  have c1 : w2.cell? ⟨w.heap.size, 1, none⟩ = some (.int .i64 kd) := sr2.step.cell 1
  have SR2 := Lib.hid sr2; clear sr2 SR1 hb2
  go_upto_if 18 with (fail)
  go_cut [5] (fun s5 wc => (∃ X, s5 = .string X ∧ X.size ≤ 1 ∧ Hid (X = ⟨(step1 neg).toArray⟩)) ∧ w2 = wc)
  case first =>
    cases neg
    · go_wp2_with fail
      go_meet
      exact ⟨⟨_, rfl, by decide, Lib.hid rfl⟩, rfl⟩
    · go_wp2_with fail
      go_meet
      exact ⟨⟨_, rfl, by decide, Lib.hid rfl⟩, rfl⟩
  case rest =>
    obtain ⟨⟨X, rfl, hX, RX⟩, rfl⟩ := hcut
    have ck := SR.num kd HW.out.1 K EK.out w2 SR2.out
    have CK := Lib.hid ck; clear ck
    go_wp2_with fail
    refine CK.out.mono ?_
    rintro e w3 ⟨rfl, sr3⟩
    have SR3 := Lib.hid sr3; clear sr3
    go_wp2_with fail
    refine (CL.out _).mono ?_
    rintro e w4 ⟨rfl, hb4⟩
    have sr4 := SR3.out.later hb4
    have c2 : w4.cell? ⟨w.heap.size, 2, none⟩ = some (.int .i64 mn) := sr4.step.cell 2
    have c3 : w4.cell? ⟨w.heap.size, 3, none⟩ = some (.int .i64 mx) := sr4.step.cell 3
    have SR4 := Lib.hid sr4; clear sr4 SR3 hb4 SR2 c0 c1
    have e2 : X ++ K ++ Lt = ⟨(step2 neg kd i).toArray⟩ := by rw [RX.out, RK.out, RL.out, ba_app, ba_app]; unfold step2; simp
    have s2 : (X ++ K ++ Lt).size ≤ 30 := by rw [ba_len e2]; exact ln2
    have E2 := Lib.hid e2; clear e2
    go_upto_region 7 with (fail)
    go_cut [5, 34] (fun s5 s34 wc => s34 = .bool (timesB mn mx) ∧ (∃ X, s5 = .string X ∧ X.size ≤ 30 ∧ Hid (X = ⟨(step2 neg kd i).toArray⟩)) ∧ w4 = wc)
    case first =>
      clear CM CL CK HTX HCA HCW
      by_cases e1 : mn = 1
      · subst e1
        by_cases e2 : mx = 1
        · subst e2
          go_wp2_with fail
          go_meet
          exact ⟨rfl, ⟨_, rfl, s2, E2⟩, rfl⟩
        · have t2 : (mx != 1) = true := by simpa using e2
          go_wp2_with fail
          go_meet
          exact ⟨by unfold timesB; rw [t2]; rfl, ⟨_, rfl, s2, E2⟩, rfl⟩
      · have t1 : (mn != 1) = true := by simpa using e1
        go_wp2_with fail
        go_meet
        exact ⟨by unfold timesB; rw [t1]; rfl, ⟨_, rfl, s2, E2⟩, rfl⟩
    case rest =>
      obtain ⟨rfl, ⟨Y, rfl, hY, RY⟩, rfl⟩ := hcut
      clear s2 E2
      go_upto_if 34 with (fail)
      go_cut [5] (fun s5 wc => (∃ X, s5 = .string X ∧ X.size ≤ 100 ∧ Hid (X = ⟨(step3 neg kd mn mx i).toArray⟩)) ∧ SR w w.heap.size #[.bool neg, .int .i64 kd, .int .i64 mn, .int .i64 mx, .bool st, .slice ca m cc] wc)
      case first =>
        cases ht : timesB mn mx
        · have e3 : step3 neg kd mn mx i = step2 neg kd i := by unfold step3; rw [timesT_no ht]; simp
          have E3 := Lib.hid e3
          clear e3 ht
          go_wp2_with fail
          go_meet
          exact ⟨⟨_, rfl, by omega, by rw [E3.out]; exact RY⟩, SR4.out⟩
        · have e3 : step3 neg kd mn mx i = step2 neg kd i ++ ([123] ++ Lib.itoa mn ++ [44] ++ Lib.itoa mx ++ [125]) := by unfold step3; rw [timesT_yes ht]
          obtain ⟨M, eM, sM, rM⟩ := sV_gen (Lib.itoa mn) 21 (itoa_len _ HW.out.2.1)
          obtain ⟨X2, eX, sX, rX⟩ := sV_gen (Lib.itoa mx) 21 (itoa_len _ HW.out.2.2.1)
          have cn := fun W h => SR.num (w := w) (b := w.heap.size) (cs := #[.bool neg, .int .i64 kd, .int .i64 mn, .int .i64 mx, .bool st, .slice ca m cc]) mn HW.out.2.1 M eM W h
          have cx := fun W h => SR.num (w := w) (b := w.heap.size) (cs := #[.bool neg, .int .i64 kd, .int .i64 mn, .int .i64 mx, .bool st, .slice ca m cc]) mx HW.out.2.2.1 X2 eX W h
          have efin : Y ++ ⟨#[123]⟩ ++ M ++ ⟨#[44]⟩ ++ X2 ++ ⟨#[125]⟩ = ⟨(step3 neg kd mn mx i).toArray⟩ := by
            rw [e3, RY.out, rM, rX, show (⟨#[123]⟩ : ByteArray) = ⟨([123] : List UInt8).toArray⟩ from rfl, show (⟨#[44]⟩ : ByteArray) = ⟨([44] : List UInt8).toArray⟩ from rfl, show (⟨#[125]⟩ : ByteArray) = ⟨([125] : List UInt8).toArray⟩ from rfl, ba_app, ba_app, ba_app, ba_app, ba_app]
            simp
          have sfin := ba_len efin
          have EF := Lib.hid efin; clear efin
          have SF := Lib.hid (show (Y ++ ⟨#[123]⟩ ++ M ++ ⟨#[44]⟩ ++ X2 ++ ⟨#[125]⟩).size ≤ 100 by rw [sfin]; exact ln3); clear sfin
          have sid : SR w w.heap.size #[.bool neg, .int .i64 kd, .int .i64 mn, .int .i64 mx, .bool st, .slice ca m cc] w4.drew := SR4.out.later (below_drewN w4.heap.size w4 1)
          have g0 : ¬ 9223372036854775807 < Y.size + 1 := by omega
          have g1 : ¬ 9223372036854775807 < Y.size + 1 + M.size := by omega
          have g2 : ¬ 9223372036854775807 < Y.size + 1 + M.size + 1 := by omega
          have g3 : ¬ 9223372036854775807 < Y.size + 1 + M.size + 1 + X2.size := by omega
          have g4 : ¬ 9223372036854775807 < Y.size + 1 + M.size + 1 + X2.size + 1 := by omega
          have CN := Lib.hid cn; clear cn
          have CX := Lib.hid cx; clear cx
          clear e3 eM eX rM rX SR4 ht CM CL CK HTX HCA HCW
          go_wp2_with fail
          go_region_held3 (fun w' => w'.cell? ⟨w.heap.size, 2, none⟩ = some (.int .i64 mn) ∧ w'.cell? ⟨w.heap.size, 3, none⟩ = some (.int .i64 mx))
            (first | exact ⟨c2, c3⟩ | exact ⟨hsi.step.cell 2, hsi.step.cell 3⟩ | assumption)
            (first
              | (go_at_call 40; (with_reducible refine (CN.out _ (by assumption)).mono ?_); rintro e w1 ⟨rfl, hsi⟩)
              | (go_at_call 40; (with_reducible refine (CX.out _ (by assumption)).mono ?_); rintro e w1 ⟨rfl, hsi⟩))
          all_goals
            go_wp2_with fail
            go_meet
            exact ⟨⟨_, rfl, SF.out, EF⟩, hsi⟩
      case rest =>
        obtain ⟨⟨Z, rfl, hZ, RZ⟩, hsr⟩ := hcut
        have hc5 : wc.cell? ⟨w.heap.size, 5, none⟩ = some (.slice ca m cc) := hsr.step.cell 5
        have SR5 := Lib.hid hsr
        clear hsr SR4 c2 c3
        have hnew : ∀ (wr : World) (q : Nat), Below w.heap.size w wr → q < m → ∃ b off c, ca = some ⟨b, off, none⟩ ∧ cs[q]? = some c ∧ cmWf c ∧
            (wr.cell? ⟨b, off + q * 9, none⟩ = some (.int .u8 c.op) ∧ wr.cell? ⟨b, off + q * 9 + 1, none⟩ = some (.int .u8 c.l.kind) ∧ wr.cell? ⟨b, off + q * 9 + 2, none⟩ = some (.int .i64 c.l.n) ∧
            wr.cell? ⟨b, off + q * 9 + 3, none⟩ = some (.int .i64 c.l.s) ∧ wr.cell? ⟨b, off + q * 9 + 4, none⟩ = some (.int .i64 c.l.r) ∧ wr.cell? ⟨b, off + q * 9 + 5, none⟩ = some (.int .u8 c.r.kind) ∧
            wr.cell? ⟨b, off + q * 9 + 6, none⟩ = some (.int .i64 c.r.n) ∧ wr.cell? ⟨b, off + q * 9 + 7, none⟩ = some (.int .i64 c.r.s) ∧ wr.cell? ⟨b, off + q * 9 + 8, none⟩ = some (.int .i64 c.r.r)) := fun wr q hb hq => by
          have hq' : q < cs.length := by rw [HM.out]; exact hq
          obtain ⟨b, off, e, hc⟩ := (HCA.out.mono hb (Nat.le_refl _)).get q hq'
          exact ⟨b, off, cs[q], e, List.getElem?_eq_getElem hq', HCW.out _ (List.getElem_mem hq'), hc⟩
        have hpl : ∀ q, (step3 neg kd mn mx i ++ cmpsPre (cs.take q)).length ≤ 2000 := fun q => by
          have := cmpsPre_len (cs.take q) (fun c hc => HCW.out c (List.mem_of_mem_take hc)) (by rw [List.length_take, HM.out]; omega)
          rw [List.length_append]; omega
        have HNEW := Lib.hid hnew; clear hnew
        have HPL := Lib.hid hpl; clear hpl
        clear CM CL CK hc5
        go_wp2_with fail
        go_loopw [5, 6] (fun o ix wr => ∃ (q : Nat) (X : ByteArray), q ≤ m ∧ ix = .int .i64 q ∧ o = .string X ∧ X.size ≤ 2000 ∧ Hid (X = ⟨(step3 neg kd mn mx i ++ cmpsPre (cs.take q)).toArray⟩) ∧ SR w w.heap.size #[.bool neg, .int .i64 kd, .int .i64 mn, .int .i64 mx, .bool st, .slice ca m cc] wr) (fun _ ix _ => m - (intOf ix).toNat)
        case atStart => exact ⟨0, Z, Nat.zero_le _, rfl, rfl, by omega, Lib.hid (by rw [RZ.out]; simp [cmpsPre]), SR5.out⟩
        case round =>
          obtain ⟨q, X, hq, rfl, rfl, hX, HX, hsr⟩ := hrel
          have hc5 : wr.cell? ⟨w.heap.size, 5, none⟩ = some (.slice ca m cc) := hsr.step.cell 5
          by_cases hlt2 : q < m
          · obtain ⟨b2, off2, c, rfl, hcq, hcwf, r0, r1, r2, r3, r4, r5, r6, r7, r8⟩ := HNEW.out wr q hsr.below hlt2
            have cc' := fun W => ref10_Cmp c hcwf W
            obtain ⟨CS, eS, sS, rS⟩ := sV_gen (cmpT c) 62 (cmpT_len c hcwf)
            rw [eS] at cc'
            have hpt := cmpsPre_take hcq
            have HE : Hid ((q = 0 → X ++ ⟨#[91]⟩ ++ CS = ⟨(step3 neg kd mn mx i ++ cmpsPre (cs.take (q + 1))).toArray⟩) ∧ (¬ q = 0 → X ++ ⟨#[38]⟩ ++ CS = ⟨(step3 neg kd mn mx i ++ cmpsPre (cs.take (q + 1))).toArray⟩)) := Lib.hid ⟨fun h => by
                rw [hpt, if_pos h, HX.out, rS, show (⟨#[91]⟩ : ByteArray) = ⟨([91] : List UInt8).toArray⟩ from rfl, ba_app, ba_app]; simp, fun h => by
                rw [hpt, if_neg h, HX.out, rS, show (⟨#[38]⟩ : ByteArray) = ⟨([38] : List UInt8).toArray⟩ from rfl, ba_app, ba_app]; simp⟩
            obtain ⟨op, ⟨k1, n1, s1, p1⟩, ⟨k2, n2, s2, p2⟩⟩ := c
            simp only [cmA] at *
            have CC := Lib.hid cc'; clear cc'
            have HSR := Lib.hid hsr; clear hsr hcq hcwf hpt eS rS
            by_cases hq0 : q = 0
            · subst hq0
              have e1 := HE.out.1 rfl
              have s1' : (X ++ ⟨#[91]⟩ ++ CS).size ≤ 2000 := by rw [ba_len e1]; exact HPL.out _
              have E1 := Lib.hid e1; clear e1
              have S1 := Lib.hid s1'; clear s1' HE
              simp only [Nat.zero_mul, Nat.add_zero] at r0 r1 r2 r3 r4 r5 r6 r7 r8
              go_wp2_with fail
              refine (CC.out _).mono ?_
              rintro e w6 ⟨rfl, hb6⟩
              go_wp2_with fail
              go_roundw
              case rel => exact ⟨1, _, by omega, by go_num, rfl, S1.out, E1, HSR.out.later hb6⟩
              case measure => simp [intOf]; omega
            · have e1 := HE.out.2 hq0
              have s1' : (X ++ ⟨#[38]⟩ ++ CS).size ≤ 2000 := by rw [ba_len e1]; exact HPL.out _
              have E1 := Lib.hid e1; clear e1
              have S1 := Lib.hid s1'; clear s1' HE
              have hqz : ((q : Int) == 0) = false := by simp only [beq_eq_false_iff_ne]; omega
              go_wp2_with fail
              refine (CC.out _).mono ?_
              rintro e w6 ⟨rfl, hb6⟩
              go_wp2_with fail
              go_roundw
              case rel => exact ⟨q + 1, _, by omega, by go_num, rfl, S1.out, E1, HSR.out.later hb6⟩
              case measure => simp [intOf]; omega
          · obtain rfl : q = m := by omega
            have htk : cs.take q = cs := List.take_of_length_le (by rw [HM.out]; omega)
            have htx := HTX.out
            rw [cmpsT_pre] at htx
            have HSR := Lib.hid hsr; clear hsr
            by_cases hq0 : q = 0
            · subst hq0
              have hcs : cs = [] := List.eq_nil_of_length_eq_zero HM.out
              have HF : Hid (X = ⟨TX.toArray⟩) := Lib.hid (by rw [HX.out, htk, ← htx, if_pos hcs]; simp)
              clear htx htk hcs
              go_wp2_with fail
              go_ret
              exact ⟨ret_str HF.out, HSR.out.below⟩
            · have hcs : cs ≠ [] := fun e => by have := HM.out; rw [e] at this; simp at this; omega
              have HF : Hid (X ++ ⟨#[93]⟩ = ⟨TX.toArray⟩) := Lib.hid (by rw [HX.out, htk, ← htx, if_neg hcs, show (⟨#[93]⟩ : ByteArray) = ⟨([93] : List UInt8).toArray⟩ from rfl, ba_app]; simp)
              have hq1 : 0 < q := by omega
              clear htx htk hcs
              go_wp2_with fail
              go_ret
              exact ⟨ret_str HF.out, HSR.out.below⟩
end Go.Proofs.YtafgincpoahefaaDoor
