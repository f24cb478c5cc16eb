/-
  stragglelaw10.PrintParts: true of any pattern, any number.
-/
import Derived.Test.YtafgincpoahefaaDoorPrL3
namespace Go.Proofs.YtafgincpoahefaaDoor
open Go.RowKit

set_option maxRecDepth 100000 in
set_option maxHeartbeats 8000000 in
theorem printParts_wakes (p : Pt) (u : Value) (i : Int) (w : World) (hp : StepsV w u p.steps) (hpb : bnd p.window) (hpw : ∀ s ∈ p.steps, stWf s) (hG : GP w) (h : greatB p = true ∨ (printT p).2 ≠ 0) :
    Calls Tryd.prog 6 #[.agg #[u, .int .i64 p.window], .int .i64 i] w fun e w' => e = .returned (.bool true) ∧ Below w.heap.size w w' := by
  have bx := BP.fresh w #[u, .int .i64 p.window]
  have cg := fun W (hb : BP w #[u, .int .i64 p.window] W) => hb.ret (ref8_Great p (.agg #[u, .int .i64 p.window]) W ⟨u, rfl, hp.mono hb.below (Nat.le_refl _)⟩)
  have c1 := fun (hg : greatB p = false) W (hb : BP w #[u, .int .i64 p.window] W) => hb.ret (print_Print p hpw hpb hg (.agg #[u, .int .i64 p.window]) W ⟨u, rfl, hp.mono hb.below (Nat.le_refl _)⟩ (hG.mono hb.below))
  have c6 := fun W (hb : BP w #[u, .int .i64 p.window] W) => hb.ret (wakes10 W (hG.mono hb.below))
  generalize greatB p = g at *
  generalize (printT p).2 = pe at *
  generalize sV (printT p).1 = pv at *
  obtain ⟨ss, pw⟩ := p
  simp only at *
  have BX0 := Lib.hid bx; clear bx
  have CG := Lib.hid cg; clear cg
  have C6 := Lib.hid c6; clear c6
  clear hp hpb hpw hG
  cases g
  · have hne := h.resolve_left (fun h => nomatch h)
    have hp0 : (pe == 0) = false := by simpa using hne
    have hp1 : (pe != 0) = true := by simpa using hne
    have C1 := Lib.hid (c1 rfl)
    clear c1 h hne
    go_enter Tryd.func6, Tryd.ntmps6
    go_wp2_with fail
    refine (CG.out _ BX0.out).mono ?_
    rintro e w1 ⟨rfl, bx1⟩
    have d0 : w1.cell? ⟨w.heap.size, 0, none⟩ = some u := bx1.p.cell 0
    have d1 : w1.cell? ⟨w.heap.size, 1, none⟩ = some (.int .i64 pw) := bx1.p.cell 1
    have BX1 := Lib.hid bx1; clear bx1 BX0
    go_wp2_with fail
    refine (C1.out _ BX1.out).mono ?_
    rintro e w2 ⟨rfl, bx2⟩
    have BX2 := Lib.hid bx2; clear bx2 BX1 d0 d1
    go_wp2_with fail
    refine (C6.out _ BX2.out).mono ?_
    rintro e w3 ⟨rfl, bx3⟩
    go_wp2_with fail
    go_ret
    exact ⟨rfl, bx3.below⟩
  · clear c1 h
    go_enter Tryd.func6, Tryd.ntmps6
    go_wp2_with fail
    refine (CG.out _ BX0.out).mono ?_
    rintro e w1 ⟨rfl, bx1⟩
    have BX1 := Lib.hid bx1; clear bx1 BX0
    go_wp2_with fail
    refine (C6.out _ BX1.out).mono ?_
    rintro e w3 ⟨rfl, bx3⟩
    go_wp2_with fail
    go_ret
    exact ⟨rfl, bx3.below⟩

/-- the pattern, one of its steps, and that step without its comparisons, in their boxes -/
structure KS (w : World) (vp : Array Value) (sb : Nat) (sc bc : Array Value) (W : World) : Prop where
  p : BP w vp W
  s : Holds W sb 27 sc
  b : Holds W (sb + 1) 27 bc
theorem KS.later {w W W' : World} {vp sc bc : Array Value} {sb : Nat} (h : KS w vp sb sc bc W) (hb : Below W.heap.size W W') : KS w vp sb sc bc W' := ⟨h.p.later hb, h.s.later hb, h.b.later hb⟩
theorem KS.ret {w : World} {vp sc bc : Array Value} {sb : Nat} {f : FuncId} {args : Array Value} {x : Value} {W : World} (hb : KS w vp sb sc bc W) (h : Calls Tryd.prog f args W fun e w' => e = .returned x ∧ Below W.heap.size W w') :
    Calls Tryd.prog f args W fun e w' => e = .returned x ∧ KS w vp sb sc bc w' := h.mono fun _ _ g => ⟨g.1, hb.later g.2⟩
theorem joinB_take_len (cs : List Cm) (h : ∀ c ∈ cs, cmWf c) (hn : cs.length ≤ 20) (q : Nat) : (joinB 38 ((cs.take q).map cmpT)).length ≤ 1260 :=
  join_cmps (cs.take q) (fun c hc => h c (List.mem_of_mem_take hc)) (by rw [List.length_take]; omega)
def bareS (s : St) : St := { s with cmps := [] }
theorem bare_right {s : St} (h : stB s = true) : stB (bareS s) = true := by
  simp only [stB, bareS, Bool.and_eq_true, List.all_nil] at h ⊢
  exact ⟨h.1, trivial⟩
theorem step_parts {s : St} {i : Int} (h : stB s = true) (h0 : 0 ≤ i) (h1 : i < 26) : stepT s i = stepT (bareS s) i ++ cmpsT s.cmps := by
  rw [stepT_yes h h0 h1, stepT_yes (bare_right h) h0 h1, ← step3_text, ← step3_text]
  simp [bareS, cmpsT]

set_option maxRecDepth 100000 in
set_option maxHeartbeats 16000000 in
theorem printParts_text (p : Pt) (u : Value) (at_ : Int) (w : World) (hp : StepsV w u p.steps) (hpb : bnd p.window) (hpw : ∀ s ∈ p.steps, stWf s) (hG : GP w) (hg : greatB p = false) (h0 : (printT p).2 = 0) (ha : -9223372036854775808 ≤ at_ ∧ at_ ≤ 9223372036854775807)
    (k : Nat) (hk : k < p.steps.length) (hke : at_.tmod p.steps.length % p.steps.length = k) :
    Calls Tryd.prog 6 #[.agg #[u, .int .i64 p.window], .int .i64 at_] w fun e w' => e = .returned (.bool true) ∧ Below w.heap.size w w' := by
  obtain ⟨a1, a2, a3, a4⟩ := printT_ok h0
  obtain ⟨hg1, hg2⟩ := great_steps hg
  obtain ⟨f1, f2, f3, f4⟩ := pt_facts a1
  have bx := BP.fresh w #[u, .int .i64 p.window]
  have cg := fun W (hb : BP w #[u, .int .i64 p.window] W) => hb.ret (ref8_Great p (.agg #[u, .int .i64 p.window]) W ⟨u, rfl, hp.mono hb.below (Nat.le_refl _)⟩)
  have c1 := fun W (hb : BP w #[u, .int .i64 p.window] W) => hb.ret (print_Print p hpw hpb hg (.agg #[u, .int .i64 p.window]) W ⟨u, rfl, hp.mono hb.below (Nat.le_refl _)⟩ (hG.mono hb.below))
  have c6 := fun W (hb : Below w.heap.size w W) => wakes10 W (hG.mono hb)
  rw [h0, a4] at c1
  rw [hg] at cg
  obtain ⟨TX, eT, sT, rT⟩ := sV_gen (patT p) 2000 a3
  rw [eT] at c1
  obtain ⟨a, cap, rfl, hlc, hlen, hnil, hsa⟩ := hp
  have key : ∀ (wr : World) (k : Nat), Below w.heap.size w wr → k < p.steps.length → ∃ b off s ca cc, a = some ⟨b, off, none⟩ ∧ p.steps[k]? = some s ∧ stWf s ∧ stB s = true ∧ s.cmps.length ≤ 20 ∧ CmpsV w (.slice ca s.cmps.length cc) s.cmps ∧
      (wr.cell? ⟨b, off + k * 6, none⟩ = some (.bool s.neg) ∧ wr.cell? ⟨b, off + k * 6 + 1, none⟩ = some (.int .i64 s.kind) ∧ wr.cell? ⟨b, off + k * 6 + 2, none⟩ = some (.int .i64 s.min) ∧
      wr.cell? ⟨b, off + k * 6 + 3, none⟩ = some (.int .i64 s.max) ∧ wr.cell? ⟨b, off + k * 6 + 4, none⟩ = some (.bool s.strict) ∧ wr.cell? ⟨b, off + k * 6 + 5, none⟩ = some (.slice ca s.cmps.length cc)) := by
    intro wr k hb hk
    obtain ⟨b, off, ca, cc, e, ⟨k0, k1, k2, k3, k4, k5⟩, h1, h2, h3, h4⟩ := hsa.get k hk
    exact ⟨b, off, p.steps[k], ca, cc, e, List.getElem?_eq_getElem hk, hpw _ (List.getElem_mem hk), f4 _ (List.getElem_mem hk), hg2 _ (List.getElem_mem hk), ⟨ca, cc, rfl, h1, h2, h3, h4⟩,
      cell_mono hb (Nat.le_refl _) k0, cell_mono hb (Nat.le_refl _) k1, cell_mono hb (Nat.le_refl _) k2, cell_mono hb (Nat.le_refl _) k3, cell_mono hb (Nat.le_refl _) k4, cell_mono hb (Nat.le_refl _) k5⟩
  have hpl := fun q => pat_text_len a1 hpw hg2 q
  have hpt : patT p = stepsT 0 p.steps ++ (within' ++ Lib.itoa p.window) := rfl
  have hstk := fun k s hs => stepsT_take (ss := p.steps) (k := k) (s := s) hs
  have hful : p.steps.take p.steps.length = p.steps := List.take_length
  generalize patT p = PX at *
  obtain ⟨ss, wd⟩ := p
  simp only at *
  obtain ⟨m, hm⟩ : ∃ m, ss.length = m := ⟨_, rfl⟩
  rw [hm] at bx cg c1 hlc hlen hg1 hful key hk hke f1 f2 ⊢
  have hm0 : -(m : Int) < at_.tmod m := by have := Int.lt_tmod_of_pos at_ (show (0 : Int) < m by omega); omega
  have hm1 : at_.tmod m < m := Int.tmod_lt_of_pos at_ (by omega)
  have hnz : ((m : Int) == 0) = false := by simp only [beq_eq_false_iff_ne]; omega
  obtain ⟨ha0, ha1⟩ := ha
  have BX0 := Lib.hid bx; clear bx
  have CG := Lib.hid cg; clear cg
  have C1 := Lib.hid c1; clear c1
  have C6 := Lib.hid c6; clear c6
  have KEY := Lib.hid key; clear key
  have HPL := Lib.hid hpl; clear hpl
  have HPT := Lib.hid hpt; clear hpt
  have HST := Lib.hid hstk; clear hstk
  have HFU := Lib.hid hful; clear hful
  have RT := Lib.hid rT; clear rT
  have HKE := Lib.hid hke; clear hke
  have HPB := Lib.hid hpb; clear hpb
  clear hpw hg h0 a1 a2 a4 eT f3 f4 hg2 hsa hnil hm
  go_enter Tryd.func6, Tryd.ntmps6
  go_wp2_with fail
  refine (CG.out _ BX0.out).mono ?_
  rintro e w1 ⟨rfl, bx1⟩
  have d0 : w1.cell? ⟨w.heap.size, 0, none⟩ = some (.slice a m cap) := bx1.p.cell 0
  have d1 : w1.cell? ⟨w.heap.size, 1, none⟩ = some (.int .i64 wd) := bx1.p.cell 1
  have BX1 := Lib.hid bx1; clear bx1 BX0
  go_wp2_with fail
  refine (C1.out _ BX1.out).mono ?_
  rintro e w2 ⟨rfl, bx2⟩
  have d0 : w2.cell? ⟨w.heap.size, 0, none⟩ = some (.slice a m cap) := bx2.p.cell 0
  have BX2 := Lib.hid bx2; clear bx2 BX1 d1 CG C1
  go_wp2_with fail
  go_loopw [7, 8] (fun o ix wr => ∃ (q : Nat) (X : ByteArray), q ≤ m ∧ ix = .int .i64 q ∧ o = .string X ∧ X.size ≤ 37000 ∧ Hid (X = ⟨(stepsT 0 (ss.take q)).toArray⟩) ∧ BP w #[.slice a m cap, .int .i64 wd] wr) (fun _ ix _ => m - (intOf ix).toNat)
  case atStart => exact ⟨0, _, Nat.zero_le _, rfl, rfl, by decide, Lib.hid rfl, BX2.out⟩
  case round =>
    obtain ⟨q, X, hq, rfl, rfl, hX, HX, hsq⟩ := hrel
    have hc0 : wr.cell? ⟨w.heap.size, 0, none⟩ = some (.slice a m cap) := hsq.p.cell 0
    clear d0
    by_cases hlt : q < m
    · obtain ⟨b, off, t, ca, cc, rfl, htk, hwf, _, hn20, hcv, r0, r1, r2, r3, r4, r5⟩ := KEY.out wr q hsq.below hlt
      have hst := HST.out q t htk
      have hpl := HPL.out (q + 1)
      obtain ⟨SX, eS, sS, rS⟩ := sV_gen (stepT t q) 1400 (stepT_len t q hwf hn20)
      have cs := fun W (hb : Below w.heap.size w W) => print_Step t q hwf hn20 _ W (hcv.mono hb (Nat.le_refl _)) (hG.mono hb)
      rw [eS] at cs
      have HE : Hid ((q = 0 → X ++ SX = ⟨(stepsT 0 (ss.take (q + 1))).toArray⟩) ∧ (¬ q = 0 → t.strict = true → X ++ ⟨#[44]⟩ ++ SX = ⟨(stepsT 0 (ss.take (q + 1))).toArray⟩) ∧ (¬ q = 0 → t.strict = false → X ++ ⟨#[59]⟩ ++ SX = ⟨(stepsT 0 (ss.take (q + 1))).toArray⟩)) := Lib.hid ⟨fun h => by
          rw [hst, sep_none t q h, HX.out, rS, ba_app]; simp, fun h h' => by
          rw [hst, sep_strict t q h h', HX.out, rS, show (⟨#[44]⟩ : ByteArray) = ⟨([44] : List UInt8).toArray⟩ from rfl, ba_app, ba_app]; simp, fun h h' => by
          rw [hst, sep_else t q h h', HX.out, rS, show (⟨#[59]⟩ : ByteArray) = ⟨([59] : List UInt8).toArray⟩ from rfl, ba_app, ba_app]; simp⟩
      obtain ⟨neg, kd, mn, mx, st, cm⟩ := t
      simp only [stA] at *
      have CS := Lib.hid cs; clear cs
      have HSQ := Lib.hid hsq; clear hsq
      clear hst hcv htk hwf eS rS
      have HPL1 := Lib.hid hpl; clear hpl
      by_cases hq0 : q = 0
      · have e1 := HE.out.1 hq0
        subst hq0
        have s1 : (X ++ SX).size ≤ 37000 := by rw [ba_len e1]; exact HPL1.out
        have E1 := Lib.hid e1
        have S1 := Lib.hid s1
        clear e1 s1 HE
        simp only [Nat.zero_mul, Nat.add_zero] at r0 r1 r2 r3 r4 r5
        go_wp2_with fail
        refine (CS.out _ HSQ.out.below).mono ?_
        rintro e w4 ⟨rfl, hb4⟩
        have sq4 := HSQ.out.later hb4
        have SQ4 := Lib.hid sq4; clear sq4 hb4
        go_wp2_with fail
        go_roundw
        case rel => exact ⟨1, _, by omega, by go_num, rfl, S1.out, E1, SQ4.out⟩
        case measure => simp [intOf]; omega
      · have hq1 : 0 < q := by omega
        cases st
        · have e1 := HE.out.2.2 hq0 rfl
          have s1 : (X ++ ⟨#[59]⟩ ++ SX).size ≤ 37000 := by rw [ba_len e1]; exact HPL1.out
          have E1 := Lib.hid e1
          have S1 := Lib.hid s1
          clear e1 s1 HE
          go_wp2_with fail
          refine (CS.out _ HSQ.out.below).mono ?_
          rintro e w4 ⟨rfl, hb4⟩
          have sq4 := HSQ.out.later hb4
          have SQ4 := Lib.hid sq4; clear sq4 hb4
          go_wp2_with fail
          go_roundw
          case rel => exact ⟨q + 1, _, by omega, by go_num, rfl, S1.out, E1, SQ4.out⟩
          case measure => simp [intOf]; omega
        · have e1 := HE.out.2.1 hq0 rfl
          have s1 : (X ++ ⟨#[44]⟩ ++ SX).size ≤ 37000 := by rw [ba_len e1]; exact HPL1.out
          have E1 := Lib.hid e1
          have S1 := Lib.hid s1
          clear e1 s1 HE
          go_wp2_with fail
          refine (CS.out _ HSQ.out.below).mono ?_
          rintro e w4 ⟨rfl, hb4⟩
          have sq4 := HSQ.out.later hb4
          have SQ4 := Lib.hid sq4; clear sq4 hb4
          go_wp2_with fail
          go_roundw
          case rel => exact ⟨q + 1, _, by omega, by go_num, rfl, S1.out, E1, SQ4.out⟩
          case measure => simp [intOf]; omega
    · obtain rfl : q = m := by omega
      have hc1 : wr.cell? ⟨w.heap.size, 1, none⟩ = some (.int .i64 wd) := hsq.p.cell 1
      have hpt := HPT.out
      obtain ⟨D, eD, sD, rD⟩ := sV_gen (Lib.itoa wd) 21 (itoa_len _ HPB.out)
      have cn := fun W => ref_TextP wd HPB.out W
      rw [eD] at cn
      have e1 : X ++ ⟨#[32, 119, 105, 116, 104, 105, 110, 32]⟩ ++ D = TX := by
        rw [HX.out, HFU.out, rD, RT.out, show (⟨#[32, 119, 105, 116, 104, 105, 110, 32]⟩ : ByteArray) = ⟨within'.toArray⟩ from rfl, ba_app, ba_app, hpt]; simp
      have hte : (TX.toList == (X ++ ⟨#[32, 119, 105, 116, 104, 105, 110, 32]⟩ ++ D).toList) = true := by rw [e1]; simp
      have E1 := Lib.hid e1; clear e1
      have CN := Lib.hid cn; clear cn
      have HSQ := Lib.hid hsq; clear hsq hpt eD rD
      go_wp2_with fail
      refine (CN.out _).mono ?_
      rintro e w4 ⟨rfl, hb4⟩
      have sq4 := HSQ.out.later hb4
      obtain ⟨b, off, t, ca, cc, rfl, htk, hwf, hright, hn20, hcv, r0, r1, r2, r3, r4, r5⟩ := KEY.out w4 k sq4.below hk
      have hc0 : w4.cell? ⟨w.heap.size, 0, none⟩ = some (.slice (some ⟨b, off, none⟩) q cap) := sq4.p.cell 0
      have SQ4 := Lib.hid sq4; clear sq4 hb4
      go_wp2_with fail
      have hsum : IntKind.i64.wrap (at_.tmod (q : Int) + (q : Int)) = at_.tmod (q : Int) + (q : Int) := IntWalk.i64_in _ (by omega)
      have hrem : (at_.tmod (q : Int) + (q : Int)).tmod (q : Int) = (k : Int) := by
        rw [Int.tmod_eq_emod_of_nonneg (by omega), Int.add_emod_right]; exact HKE.out
      have hk0 : (0 : Int) ≤ (k : Int) := by omega
      have hk1 : (k : Int) < (q : Int) := by omega
      go_quiet (fail)
      clear hsum hrem hte
      have sq5 : BP w #[.slice (some ⟨b, off, none⟩) q cap, .int .i64 wd] (w4.drewN nq) := SQ4.out.later (below_drewN _ _ _)
      have hbz : b < w4.heap.size := by have := cell_lt r0; exact this
      replace r0 : (w4.drewN nq).cell? ⟨b, off + k * 6, none⟩ = some (.bool t.neg) := r0
      replace r1 : (w4.drewN nq).cell? ⟨b, off + k * 6 + 1, none⟩ = some (.int .i64 t.kind) := r1
      replace r2 : (w4.drewN nq).cell? ⟨b, off + k * 6 + 2, none⟩ = some (.int .i64 t.min) := r2
      replace r3 : (w4.drewN nq).cell? ⟨b, off + k * 6 + 3, none⟩ = some (.int .i64 t.max) := r3
      replace r4 : (w4.drewN nq).cell? ⟨b, off + k * 6 + 4, none⟩ = some (.bool t.strict) := r4
      replace r5 : (w4.drewN nq).cell? ⟨b, off + k * 6 + 5, none⟩ = some (.slice ca t.cmps.length cc) := r5
      have hd0 : (w4.drewN nq).cell? ⟨w.heap.size, 0, none⟩ = some (.slice (some ⟨b, off, none⟩) q cap) := sq5.p.cell 0
      have SQ5 := Lib.hid sq5; clear sq5 hc0 SQ4
      generalize w4.drewN nq = W5 at *
      have HTK := Lib.hid htk; clear htk
      have HWF := Lib.hid hwf; clear hwf
      have HRI := Lib.hid hright; clear hright
      have HCV := Lib.hid hcv; clear hcv
      obtain ⟨neg, kd, mn, mx, st, cs⟩ := t
      simp only at r0 r1 r2 r3 r4 r5 hn20
      obtain ⟨mc, hmc⟩ : ∃ mc, cs.length = mc := ⟨_, rfl⟩
      rw [hmc] at r5 hn20
      have HMC := Lib.hid hmc; clear hmc
      obtain ⟨sb, hsb⟩ : ∃ sb, W5.heap.size = sb := ⟨_, rfl⟩
      have ks6 : KS w #[.slice (some ⟨b, off, none⟩) q cap, .int .i64 wd] sb #[.bool neg, .int .i64 kd, .int .i64 mn, .int .i64 mx, .bool st, .slice ca mc cc] #[.bool neg, .int .i64 kd, .int .i64 mn, .int .i64 mx, .bool st, .slice none 0 0] ((W5.alloc (.cells #[.bool neg, .int .i64 kd, .int .i64 mn, .int .i64 mx, .bool st, .slice ca mc cc] 27)).alloc (.cells #[.bool neg, .int .i64 kd, .int .i64 mn, .int .i64 mx, .bool st, .slice none 0 0] 27)) :=
        ⟨⟨(SQ5.out.p.alloc _).alloc _, (SQ5.out.below.alloc SQ5.out.below.size _).alloc (by have := SQ5.out.below.size; simp; omega) _⟩, (Holds.fresh' hsb 27 #[.bool neg, .int .i64 kd, .int .i64 mn, .int .i64 mx, .bool st, .slice ca mc cc]).alloc _, Holds.fresh' (by simp [hsb]) 27 #[.bool neg, .int .i64 kd, .int .i64 mn, .int .i64 mx, .bool st, .slice none 0 0]⟩
      have KS6 := Lib.hid ks6; clear ks6
      have hnew : ∀ (wr : World) (q : Nat), Below w.heap.size w wr → q < mc → ∃ b off c, ca = some ⟨b, off, none⟩ ∧ cs[q]? = some c ∧ cmWf c ∧ cmB c = true ∧
          (wr.cell? ⟨b, off + q * 9, none⟩ = some (.int .u8 c.op) ∧ wr.cell? ⟨b, off + q * 9 + 1, none⟩ = some (.int .u8 c.l.kind) ∧ wr.cell? ⟨b, off + q * 9 + 2, none⟩ = some (.int .i64 c.l.n) ∧
          wr.cell? ⟨b, off + q * 9 + 3, none⟩ = some (.int .i64 c.l.s) ∧ wr.cell? ⟨b, off + q * 9 + 4, none⟩ = some (.int .i64 c.l.r) ∧ wr.cell? ⟨b, off + q * 9 + 5, none⟩ = some (.int .u8 c.r.kind) ∧
          wr.cell? ⟨b, off + q * 9 + 6, none⟩ = some (.int .i64 c.r.n) ∧ wr.cell? ⟨b, off + q * 9 + 7, none⟩ = some (.int .i64 c.r.s) ∧ wr.cell? ⟨b, off + q * 9 + 8, none⟩ = some (.int .i64 c.r.r)) := fun wr q hb hq => by
        have hq' : q < cs.length := by rw [HMC.out]; exact hq
        obtain ⟨ca', cc', e0, _, _, _, hca⟩ := HCV.out
        obtain ⟨rfl, -, -⟩ : ca = ca' ∧ cs.length = cs.length ∧ cc = cc' := by simpa using e0
        obtain ⟨b, off, e, hc⟩ := (hca.mono hb (Nat.le_refl _)).get q hq'
        have hri := HRI.out
        simp only [stB, Bool.and_eq_true, List.all_eq_true] at hri
        exact ⟨b, off, cs[q], e, List.getElem?_eq_getElem hq', HWF.out.2.2.2 _ (List.getElem_mem hq'), hri.2 _ (List.getElem_mem hq'), hc⟩
      have hjl : ∀ q, (joinB 38 ((cs.take q).map cmpT)).length ≤ 1260 := fun q => joinB_take_len cs HWF.out.2.2.2 (by rw [HMC.out]; exact hn20) q
      have HNEW := Lib.hid hnew; clear hnew
      have HJL := Lib.hid hjl; clear hjl
      go_wp2_with fail
      clear r0 r1 r2 r3 r4 r5 hd0 hbz
      generalize (W5.alloc (.cells #[.bool neg, .int .i64 kd, .int .i64 mn, .int .i64 mx, .bool st, .slice ca mc cc] 27)).alloc (.cells #[.bool neg, .int .i64 kd, .int .i64 mn, .int .i64 mx, .bool st, .slice none 0 0] 27) = W6 at *
      have HSB := Lib.hid hsb; clear hsb
      clear HX hX
      go_loopw [11, 12] (fun o ix wr => ∃ (j : Nat) (X : ByteArray), j ≤ mc ∧ ix = .int .i64 j ∧ o = .string X ∧ X.size ≤ 1260 ∧ Hid (X = ⟨(joinB 38 ((cs.take j).map cmpT)).toArray⟩) ∧ KS w #[.slice (some ⟨b, off, none⟩) q cap, .int .i64 wd] sb #[.bool neg, .int .i64 kd, .int .i64 mn, .int .i64 mx, .bool st, .slice ca mc cc] #[.bool neg, .int .i64 kd, .int .i64 mn, .int .i64 mx, .bool st, .slice none 0 0] wr) (fun _ ix _ => mc - (intOf ix).toNat)
      case atStart => exact ⟨0, _, Nat.zero_le _, rfl, rfl, by decide, Lib.hid (by simp [joinB]), KS6.out⟩
      case round =>
        obtain ⟨j, X, hj, rfl, rfl, hX, HX, hks⟩ := hrel
        have hcell5 : wr.cell? ⟨sb, 5, none⟩ = some (.slice ca mc cc) := hks.s.cell 5
        by_cases hlt2 : j < mc
        · obtain ⟨b2, off2, c, rfl, hcq, hcwf, hcr, r0, r1, r2, r3, r4, r5, r6, r7, r8⟩ := HNEW.out wr j hks.p.below hlt2
          have hjt := joinB_take 38 cmpT hcq
          have hjl := HJL.out (j + 1)
          obtain ⟨Lt, eL, sL, rL⟩ := sV_gen (termT c.l) 30 (termT_len _ hcwf.2.1.2.1)
          obtain ⟨Ot, eO, sO, rO⟩ := sV_gen (opT c.op) 2 (opT_len _)
          obtain ⟨Rt, eR, sR, rR⟩ := sV_gen (termT c.r) 30 (termT_len _ hcwf.2.2.2.1)
          have hct : cmpT c = termT c.l ++ opT c.op ++ termT c.r := by
            obtain ⟨y1, y2⟩ := cm_kinds hcr
            rw [cmpT_yes hcr, termT_yes y1, termT_yes y2]
          have eC : sV (cmpT c) = .string (Lt ++ Ot ++ Rt) := by rw [hct, rL, rO, rR, ba_app, ba_app]; rfl
          have rC : Lt ++ Ot ++ Rt = ⟨(cmpT c).toArray⟩ := by rw [hct, rL, rO, rR, ba_app, ba_app]
          have ks7 := hks.later ((Below.refl wr.heap.size wr).alloc (Nat.le_refl _) (.cells (cmV c).toArray 31))
          have z7 := Holds.fresh wr 31 (cmV c).toArray
          have hg7 := hG.mono ks7.p.below
          have cc' := fun W (hb : Below (wr.alloc (.cells (cmV c).toArray 31)).heap.size (wr.alloc (.cells (cmV c).toArray 31)) W) => print_Cmp c hcwf W (hg7.mono hb)
          have ct1 := fun W (hb : Below (wr.alloc (.cells (cmV c).toArray 31)).heap.size (wr.alloc (.cells (cmV c).toArray 31)) W) => print_Term c.l hcwf.2.1 W (hg7.mono hb)
          have ct2 := fun W (hb : Below (wr.alloc (.cells (cmV c).toArray 31)).heap.size (wr.alloc (.cells (cmV c).toArray 31)) W) => print_Term c.r hcwf.2.2 W (hg7.mono hb)
          have co := fun W (hb : Below (wr.alloc (.cells (cmV c).toArray 31)).heap.size (wr.alloc (.cells (cmV c).toArray 31)) W) => (print_Op c.op hcwf.1 W (hg7.mono hb)).mono (R' := fun e w' => e = .returned (sV (opT c.op)) ∧ Below W.heap.size W w') (fun _ _ h => ⟨h.1, h.2 ▸ Below.refl _ _⟩)
          rw [eC] at cc'
          rw [eL] at ct1
          rw [eR] at ct2
          rw [eO] at co
          have HE : Hid ((j = 0 → X ++ (Lt ++ Ot ++ Rt) = ⟨(joinB 38 ((cs.take (j + 1)).map cmpT)).toArray⟩) ∧ (¬ j = 0 → X ++ ⟨#[38]⟩ ++ (Lt ++ Ot ++ Rt) = ⟨(joinB 38 ((cs.take (j + 1)).map cmpT)).toArray⟩)) := Lib.hid ⟨fun h => by
              rw [hjt, if_pos h, HX.out, rC, ba_app]; simp, fun h => by
              rw [hjt, if_neg h, HX.out, rC, show (⟨#[38]⟩ : ByteArray) = ⟨([38] : List UInt8).toArray⟩ from rfl, ba_app, ba_app]; simp⟩
          have g1 : ¬ 9223372036854775807 < Lt.size + Ot.size := by omega
          have g2 : ¬ 9223372036854775807 < Lt.size + Ot.size + Rt.size := by omega
          obtain ⟨op, ⟨k1, n1, s1, p1⟩, ⟨k2, n2, s2, p2⟩⟩ := c
          simp only [cmA, tmA, cmV] at *
          have KS7 := Lib.hid ks7; clear ks7
          have HJ1 := Lib.hid hjl; clear hjl
          have CC := Lib.hid cc'; clear cc'
          have CT1 := Lib.hid ct1; clear ct1
          have CT2 := Lib.hid ct2; clear ct2
          have CO := Lib.hid co; clear co
          have Z7 := Lib.hid z7; clear z7
          clear hcq hcwf hcr hjt eL eO eR rL rO rR hct eC rC hg7 hks
          obtain ⟨W7, hW7⟩ : ∃ W7, wr.alloc (.cells #[.int .u8 op, .int .u8 k1, .int .i64 n1, .int .i64 s1, .int .i64 p1, .int .u8 k2, .int .i64 n2, .int .i64 s2, .int .i64 p2] 31) = W7 := ⟨_, rfl⟩
          have HW7 := Lib.hid hW7
          rw [hW7] at KS7 CC CT1 CT2 CO Z7
          clear hW7
          have c0 : W7.cell? ⟨wr.heap.size, 0, none⟩ = some (.int .u8 op) := Z7.out.cell 0
          have c1 : W7.cell? ⟨wr.heap.size, 1, none⟩ = some (.int .u8 k1) := Z7.out.cell 1
          have c2 : W7.cell? ⟨wr.heap.size, 2, none⟩ = some (.int .i64 n1) := Z7.out.cell 2
          have c3 : W7.cell? ⟨wr.heap.size, 3, none⟩ = some (.int .i64 s1) := Z7.out.cell 3
          have c4 : W7.cell? ⟨wr.heap.size, 4, none⟩ = some (.int .i64 p1) := Z7.out.cell 4
          have c5 : W7.cell? ⟨wr.heap.size, 5, none⟩ = some (.int .u8 k2) := Z7.out.cell 5
          have c6 : W7.cell? ⟨wr.heap.size, 6, none⟩ = some (.int .i64 n2) := Z7.out.cell 6
          have c7 : W7.cell? ⟨wr.heap.size, 7, none⟩ = some (.int .i64 s2) := Z7.out.cell 7
          have c8 : W7.cell? ⟨wr.heap.size, 8, none⟩ = some (.int .i64 p2) := Z7.out.cell 8
          by_cases hj0 : j = 0
          · have e1 := HE.out.1 hj0
            subst hj0
            have s1' : (X ++ (Lt ++ Ot ++ Rt)).size ≤ 1260 := by rw [ba_len e1]; exact HJ1.out
            have E1 := Lib.hid e1
            have S1 := Lib.hid s1'
            clear e1 s1' HE
            simp only [Nat.zero_mul, Nat.add_zero] at r0 r1 r2 r3 r4 r5 r6 r7 r8
            go_wp2_with fail
            rw [HW7.out]
            go_region_held3 (fun w' => w'.cell? ⟨wr.heap.size, 0, none⟩ = some (.int .u8 op) ∧ w'.cell? ⟨wr.heap.size, 1, none⟩ = some (.int .u8 k1) ∧ w'.cell? ⟨wr.heap.size, 2, none⟩ = some (.int .i64 n1) ∧ w'.cell? ⟨wr.heap.size, 3, none⟩ = some (.int .i64 s1) ∧ w'.cell? ⟨wr.heap.size, 4, none⟩ = some (.int .i64 p1) ∧ w'.cell? ⟨wr.heap.size, 5, none⟩ = some (.int .u8 k2) ∧ w'.cell? ⟨wr.heap.size, 6, none⟩ = some (.int .i64 n2) ∧ w'.cell? ⟨wr.heap.size, 7, none⟩ = some (.int .i64 s2) ∧ w'.cell? ⟨wr.heap.size, 8, none⟩ = some (.int .i64 p2) ∧ Below W7.heap.size W7 w')
              (first | exact ⟨c0, c1, c2, c3, c4, c5, c6, c7, c8, (Below.refl _ _).drew⟩ | exact keep9 (by assumption) hb1 | assumption)
              (first
                | (go_at_call 27; (with_reducible refine (CC.out _ (last9 (by assumption))).mono ?_); rintro e w1 ⟨rfl, hb1⟩)
                | (go_at_call 29; (with_reducible refine (CT1.out _ (last9 (by assumption))).mono ?_); rintro e w1 ⟨rfl, hb1⟩)
                | (go_at_call 29; (with_reducible refine (CT2.out _ (last9 (by assumption))).mono ?_); rintro e w1 ⟨rfl, hb1⟩)
                | (go_at_call 31; (with_reducible refine (CO.out _ (last9 (by assumption))).mono ?_); rintro e w1 ⟨rfl, hb1⟩))
            have hlast : w1.cell? ⟨wr.heap.size, 0, none⟩ = some (.int .u8 op) ∧ w1.cell? ⟨wr.heap.size, 1, none⟩ = some (.int .u8 k1) ∧ w1.cell? ⟨wr.heap.size, 2, none⟩ = some (.int .i64 n1) ∧ w1.cell? ⟨wr.heap.size, 3, none⟩ = some (.int .i64 s1) ∧ w1.cell? ⟨wr.heap.size, 4, none⟩ = some (.int .i64 p1) ∧ w1.cell? ⟨wr.heap.size, 5, none⟩ = some (.int .u8 k2) ∧ w1.cell? ⟨wr.heap.size, 6, none⟩ = some (.int .i64 n2) ∧ w1.cell? ⟨wr.heap.size, 7, none⟩ = some (.int .i64 s2) ∧ w1.cell? ⟨wr.heap.size, 8, none⟩ = some (.int .i64 p2) ∧ Below W7.heap.size W7 w1 := by assumption
            have hbl := last9 hlast
            obtain ⟨y0, y1, y2, y3, y4, y5, y6, y7, y8, _⟩ := hlast
            clear c0 c1 c2 c3 c4 c5 c6 c7 c8
            go_wp2_with fail
            refine (CC.out _ hbl).mono ?_
            rintro e w8 ⟨rfl, hb8⟩
            have ks8 := KS7.out.later (hbl.trans (hb8.mono hbl.size))
            have KS8 := Lib.hid ks8; clear ks8 hb8 hbl y0 y1 y2 y3 y4 y5 y6 y7 y8
            go_wp2_with fail
            go_roundw
            case rel => exact ⟨1, _, by omega, by go_num, rfl, S1.out, E1, KS8.out⟩
            case measure => simp [intOf]; omega
          · have e1 := HE.out.2 hj0
            have s1' : (X ++ ⟨#[38]⟩ ++ (Lt ++ Ot ++ Rt)).size ≤ 1260 := by rw [ba_len e1]; exact HJ1.out
            have E1 := Lib.hid e1
            have S1 := Lib.hid s1'
            clear e1 s1' HE
            have hj1 : 0 < j := by omega
            go_wp2_with fail
            rw [HW7.out]
            go_region_held3 (fun w' => w'.cell? ⟨wr.heap.size, 0, none⟩ = some (.int .u8 op) ∧ w'.cell? ⟨wr.heap.size, 1, none⟩ = some (.int .u8 k1) ∧ w'.cell? ⟨wr.heap.size, 2, none⟩ = some (.int .i64 n1) ∧ w'.cell? ⟨wr.heap.size, 3, none⟩ = some (.int .i64 s1) ∧ w'.cell? ⟨wr.heap.size, 4, none⟩ = some (.int .i64 p1) ∧ w'.cell? ⟨wr.heap.size, 5, none⟩ = some (.int .u8 k2) ∧ w'.cell? ⟨wr.heap.size, 6, none⟩ = some (.int .i64 n2) ∧ w'.cell? ⟨wr.heap.size, 7, none⟩ = some (.int .i64 s2) ∧ w'.cell? ⟨wr.heap.size, 8, none⟩ = some (.int .i64 p2) ∧ Below W7.heap.size W7 w')
              (first | exact ⟨c0, c1, c2, c3, c4, c5, c6, c7, c8, (Below.refl _ _).drew⟩ | exact keep9 (by assumption) hb1 | assumption)
              (first
                | (go_at_call 27; (with_reducible refine (CC.out _ (last9 (by assumption))).mono ?_); rintro e w1 ⟨rfl, hb1⟩)
                | (go_at_call 29; (with_reducible refine (CT1.out _ (last9 (by assumption))).mono ?_); rintro e w1 ⟨rfl, hb1⟩)
                | (go_at_call 29; (with_reducible refine (CT2.out _ (last9 (by assumption))).mono ?_); rintro e w1 ⟨rfl, hb1⟩)
                | (go_at_call 31; (with_reducible refine (CO.out _ (last9 (by assumption))).mono ?_); rintro e w1 ⟨rfl, hb1⟩))
            have hlast : w1.cell? ⟨wr.heap.size, 0, none⟩ = some (.int .u8 op) ∧ w1.cell? ⟨wr.heap.size, 1, none⟩ = some (.int .u8 k1) ∧ w1.cell? ⟨wr.heap.size, 2, none⟩ = some (.int .i64 n1) ∧ w1.cell? ⟨wr.heap.size, 3, none⟩ = some (.int .i64 s1) ∧ w1.cell? ⟨wr.heap.size, 4, none⟩ = some (.int .i64 p1) ∧ w1.cell? ⟨wr.heap.size, 5, none⟩ = some (.int .u8 k2) ∧ w1.cell? ⟨wr.heap.size, 6, none⟩ = some (.int .i64 n2) ∧ w1.cell? ⟨wr.heap.size, 7, none⟩ = some (.int .i64 s2) ∧ w1.cell? ⟨wr.heap.size, 8, none⟩ = some (.int .i64 p2) ∧ Below W7.heap.size W7 w1 := by assumption
            have hbl := last9 hlast
            obtain ⟨y0, y1, y2, y3, y4, y5, y6, y7, y8, _⟩ := hlast
            clear c0 c1 c2 c3 c4 c5 c6 c7 c8
            go_wp2_with fail
            refine (CC.out _ hbl).mono ?_
            rintro e w8 ⟨rfl, hb8⟩
            have ks8 := KS7.out.later (hbl.trans (hb8.mono hbl.size))
            have KS8 := Lib.hid ks8; clear ks8 hb8 hbl y0 y1 y2 y3 y4 y5 y6 y7 y8
            go_wp2_with fail
            go_roundw
            case rel => exact ⟨j + 1, _, by omega, by go_num, rfl, S1.out, E1, KS8.out⟩
            case measure => simp [intOf]; omega
        · obtain rfl : j = mc := by omega
          have HKS := Lib.hid hks; clear hks
          have hwf := HWF.out
          have hright := HRI.out
          have hmc := HMC.out
          have hcv := HCV.out
          have hn20' : cs.length ≤ 20 := by rw [hmc]; exact hn20
          have hwfb : stWf ⟨neg, kd, mn, mx, st, []⟩ := ⟨hwf.1, hwf.2.1, hwf.2.2.1, fun c hc => by simp at hc⟩
          have htk : cs.take j = cs := List.take_of_length_le (by omega)
          have hcl0 := join_cmps cs hwf.2.2.2 hn20'
          clear hcell5
          by_cases hj0 : j = 0
          · subst hj0
            have hcs : cs = [] := List.eq_nil_of_length_eq_zero (by omega)
            have HMT : X = ⟨(cmpsT cs).toArray⟩ := by rw [HX.out, htk, hcs]; rfl
            have hcl : (cmpsT cs).length ≤ 2000 := by rw [hcs]; decide
            have cs1 := fun W (hb : KS w #[.slice (some ⟨b, off, none⟩) q cap, .int .i64 wd] sb #[.bool neg, .int .i64 kd, .int .i64 mn, .int .i64 mx, .bool st, .slice ca 0 cc] #[.bool neg, .int .i64 kd, .int .i64 mn, .int .i64 mx, .bool st, .slice none 0 0] W) => hb.ret (print_Step ⟨neg, kd, mn, mx, st, cs⟩ k hwf hn20' (.slice ca cs.length cc) W (hcv.mono hb.p.below (Nat.le_refl _)) (hG.mono hb.p.below))
            have cs2 := fun W (hb : KS w #[.slice (some ⟨b, off, none⟩) q cap, .int .i64 wd] sb #[.bool neg, .int .i64 kd, .int .i64 mn, .int .i64 mx, .bool st, .slice ca 0 cc] #[.bool neg, .int .i64 kd, .int .i64 mn, .int .i64 mx, .bool st, .slice none 0 0] W) => hb.ret (print_Step ⟨neg, kd, mn, mx, st, []⟩ k hwfb (by simp) (.slice none 0 0) W (cmpsV_nil W) (hG.mono hb.p.below))
            have cw := fun W (hb : KS w #[.slice (some ⟨b, off, none⟩) q cap, .int .i64 wd] sb #[.bool neg, .int .i64 kd, .int .i64 mn, .int .i64 mx, .bool st, .slice ca 0 cc] #[.bool neg, .int .i64 kd, .int .i64 mn, .int .i64 mx, .bool st, .slice none 0 0] W) => hb.ret (C6.out W hb.p.below)
            obtain ⟨Bt, eB, sB, rB⟩ := sV_gen (stepT ⟨neg, kd, mn, mx, st, []⟩ k) 1400 (stepT_len _ _ hwfb (by simp))
            have eA : sV (stepT ⟨neg, kd, mn, mx, st, cs⟩ k) = .string (Bt ++ X) := by
              have := step_parts (s := ⟨neg, kd, mn, mx, st, cs⟩) (i := k) hright (by omega) (by omega)
              rw [this, show stepT (bareS ⟨neg, kd, mn, mx, st, cs⟩) k = stepT ⟨neg, kd, mn, mx, st, []⟩ k from rfl, HMT, rB, ba_app]; rfl
            have sM : (X).size ≤ 2000 := by rw [ba_len HMT]; exact hcl
            rw [eA] at cs1
            rw [eB] at cs2
            simp only [stA] at cs1 cs2
            rw [hmc] at cs1
            have g1 : ¬ 9223372036854775807 < Bt.size + (X).size := by omega
            have C1s := Lib.hid cs1; clear cs1
            have C2s := Lib.hid cs2; clear cs2
            have C3s := Lib.hid cw; clear cw
            have SM := Lib.hid sM
            have hks : KS w #[.slice (some ⟨b, off, none⟩) q cap, .int .i64 wd] sb #[.bool neg, .int .i64 kd, .int .i64 mn, .int .i64 mx, .bool st, .slice ca 0 cc] #[.bool neg, .int .i64 kd, .int .i64 mn, .int .i64 mx, .bool st, .slice none 0 0] wr.drew := HKS.out.later (below_drewN wr.heap.size wr 1)
            have hcell5 : wr.cell? ⟨sb, 5, none⟩ = some (.slice ca 0 cc) := HKS.out.s.cell 5
            clear eA eB rB HMT hcl hmc hwf hn20' hcv hwfb hright
            go_wp2_with fail
            go_region_held3 (fun w' => w'.cell? ⟨sb, 0, none⟩ = some (.bool neg) ∧ w'.cell? ⟨sb, 1, none⟩ = some (.int .i64 kd) ∧ w'.cell? ⟨sb, 2, none⟩ = some (.int .i64 mn) ∧ w'.cell? ⟨sb, 3, none⟩ = some (.int .i64 mx) ∧ w'.cell? ⟨sb, 4, none⟩ = some (.bool st) ∧ w'.cell? ⟨sb, 5, none⟩ = some (.slice ca 0 cc) ∧ w'.cell? ⟨sb + 1, 0, none⟩ = some (.bool neg) ∧ w'.cell? ⟨sb + 1, 1, none⟩ = some (.int .i64 kd) ∧ w'.cell? ⟨sb + 1, 2, none⟩ = some (.int .i64 mn) ∧ w'.cell? ⟨sb + 1, 3, none⟩ = some (.int .i64 mx) ∧ w'.cell? ⟨sb + 1, 4, none⟩ = some (.bool st) ∧ w'.cell? ⟨sb + 1, 5, none⟩ = some (.slice none 0 0))
              (exact ⟨hks.s.cell 0, hks.s.cell 1, hks.s.cell 2, hks.s.cell 3, hks.s.cell 4, hks.s.cell 5, hks.b.cell 0, hks.b.cell 1, hks.b.cell 2, hks.b.cell 3, hks.b.cell 4, hks.b.cell 5⟩)
              (first
                | (go_at_call 25; (with_reducible refine (C1s.out _ (by assumption)).mono ?_); rintro e w1 ⟨rfl, hks⟩)
                | (go_at_call 25; (with_reducible refine (C2s.out _ (by assumption)).mono ?_); rintro e w1 ⟨rfl, hks⟩)
                | (go_at_call 22; (with_reducible refine (C3s.out _ (by assumption)).mono ?_); rintro e w1 ⟨rfl, hks⟩))
            go_wp2_with fail
            go_ret
            exact ⟨rfl, hks.p.below⟩
          · have hcs : cs ≠ [] := fun e => hj0 (by rw [e] at hmc; exact hmc.symm)
            have hj1 : 0 < j := by omega
            have HMT : ⟨#[91]⟩ ++ X ++ ⟨#[93]⟩ = ⟨(cmpsT cs).toArray⟩ := by
              rw [HX.out, htk, show (⟨#[91]⟩ : ByteArray) = ⟨([91] : List UInt8).toArray⟩ from rfl, show (⟨#[93]⟩ : ByteArray) = ⟨([93] : List UInt8).toArray⟩ from rfl, ba_app, ba_app]
              unfold cmpsT; rw [if_neg hcs]; simp
            have hcl : (cmpsT cs).length ≤ 2000 := by unfold cmpsT; rw [if_neg hcs]; simp only [List.length_cons, List.length_append, List.length_nil]; omega
            have cs1 := fun W (hb : KS w #[.slice (some ⟨b, off, none⟩) q cap, .int .i64 wd] sb #[.bool neg, .int .i64 kd, .int .i64 mn, .int .i64 mx, .bool st, .slice ca j cc] #[.bool neg, .int .i64 kd, .int .i64 mn, .int .i64 mx, .bool st, .slice none 0 0] W) => hb.ret (print_Step ⟨neg, kd, mn, mx, st, cs⟩ k hwf hn20' (.slice ca cs.length cc) W (hcv.mono hb.p.below (Nat.le_refl _)) (hG.mono hb.p.below))
            have cs2 := fun W (hb : KS w #[.slice (some ⟨b, off, none⟩) q cap, .int .i64 wd] sb #[.bool neg, .int .i64 kd, .int .i64 mn, .int .i64 mx, .bool st, .slice ca j cc] #[.bool neg, .int .i64 kd, .int .i64 mn, .int .i64 mx, .bool st, .slice none 0 0] W) => hb.ret (print_Step ⟨neg, kd, mn, mx, st, []⟩ k hwfb (by simp) (.slice none 0 0) W (cmpsV_nil W) (hG.mono hb.p.below))
            have cw := fun W (hb : KS w #[.slice (some ⟨b, off, none⟩) q cap, .int .i64 wd] sb #[.bool neg, .int .i64 kd, .int .i64 mn, .int .i64 mx, .bool st, .slice ca j cc] #[.bool neg, .int .i64 kd, .int .i64 mn, .int .i64 mx, .bool st, .slice none 0 0] W) => hb.ret (C6.out W hb.p.below)
            obtain ⟨Bt, eB, sB, rB⟩ := sV_gen (stepT ⟨neg, kd, mn, mx, st, []⟩ k) 1400 (stepT_len _ _ hwfb (by simp))
            have eA : sV (stepT ⟨neg, kd, mn, mx, st, cs⟩ k) = .string (Bt ++ (⟨#[91]⟩ ++ X ++ ⟨#[93]⟩)) := by
              have := step_parts (s := ⟨neg, kd, mn, mx, st, cs⟩) (i := k) hright (by omega) (by omega)
              rw [this, show stepT (bareS ⟨neg, kd, mn, mx, st, cs⟩) k = stepT ⟨neg, kd, mn, mx, st, []⟩ k from rfl, HMT, rB, ba_app]; rfl
            have sM : ((⟨#[91]⟩ ++ X ++ ⟨#[93]⟩)).size ≤ 2000 := by rw [ba_len HMT]; exact hcl
            rw [eA] at cs1
            rw [eB] at cs2
            simp only [stA] at cs1 cs2
            rw [hmc] at cs1
            have g1 : ¬ 9223372036854775807 < Bt.size + ((⟨#[91]⟩ ++ X ++ ⟨#[93]⟩)).size := by omega
            have g3 : ¬ 9223372036854775807 < Bt.size + (1 + X.size + 1) := by omega
            have C1s := Lib.hid cs1; clear cs1
            have C2s := Lib.hid cs2; clear cs2
            have C3s := Lib.hid cw; clear cw
            have SM := Lib.hid sM
            have hks : KS w #[.slice (some ⟨b, off, none⟩) q cap, .int .i64 wd] sb #[.bool neg, .int .i64 kd, .int .i64 mn, .int .i64 mx, .bool st, .slice ca j cc] #[.bool neg, .int .i64 kd, .int .i64 mn, .int .i64 mx, .bool st, .slice none 0 0] wr.drew := HKS.out.later (below_drewN wr.heap.size wr 1)
            have hcell5 : wr.cell? ⟨sb, 5, none⟩ = some (.slice ca j cc) := HKS.out.s.cell 5
            clear eA eB rB HMT hcl hmc hwf hn20' hcv hwfb hright
            go_wp2_with fail
            go_region_held3 (fun w' => w'.cell? ⟨sb, 0, none⟩ = some (.bool neg) ∧ w'.cell? ⟨sb, 1, none⟩ = some (.int .i64 kd) ∧ w'.cell? ⟨sb, 2, none⟩ = some (.int .i64 mn) ∧ w'.cell? ⟨sb, 3, none⟩ = some (.int .i64 mx) ∧ w'.cell? ⟨sb, 4, none⟩ = some (.bool st) ∧ w'.cell? ⟨sb, 5, none⟩ = some (.slice ca j cc) ∧ w'.cell? ⟨sb + 1, 0, none⟩ = some (.bool neg) ∧ w'.cell? ⟨sb + 1, 1, none⟩ = some (.int .i64 kd) ∧ w'.cell? ⟨sb + 1, 2, none⟩ = some (.int .i64 mn) ∧ w'.cell? ⟨sb + 1, 3, none⟩ = some (.int .i64 mx) ∧ w'.cell? ⟨sb + 1, 4, none⟩ = some (.bool st) ∧ w'.cell? ⟨sb + 1, 5, none⟩ = some (.slice none 0 0))
              (exact ⟨hks.s.cell 0, hks.s.cell 1, hks.s.cell 2, hks.s.cell 3, hks.s.cell 4, hks.s.cell 5, hks.b.cell 0, hks.b.cell 1, hks.b.cell 2, hks.b.cell 3, hks.b.cell 4, hks.b.cell 5⟩)
              (first
                | (go_at_call 25; (with_reducible refine (C1s.out _ (by assumption)).mono ?_); rintro e w1 ⟨rfl, hks⟩)
                | (go_at_call 25; (with_reducible refine (C2s.out _ (by assumption)).mono ?_); rintro e w1 ⟨rfl, hks⟩)
                | (go_at_call 22; (with_reducible refine (C3s.out _ (by assumption)).mono ?_); rintro e w1 ⟨rfl, hks⟩))
            go_wp2_with fail
            go_ret
            exact ⟨rfl, hks.p.below⟩

theorem printParts_walk (p : Pt) (u : Value) (i : Int) (w : World) (hp : StepsV w u p.steps) (hpb : bnd p.window) (hpw : ∀ s ∈ p.steps, stWf s) (hi : -9223372036854775808 ≤ i ∧ i ≤ 9223372036854775807) (hG : GP w) :
    Calls Tryd.prog 6 #[.agg #[u, .int .i64 p.window], .int .i64 i] w fun e w' => e = .returned (.bool true) ∧ Below w.heap.size w w' := by
  by_cases h : greatB p = true ∨ (printT p).2 ≠ 0
  · exact printParts_wakes p u i w hp hpb hpw hG h
  · have h1 : greatB p = false := by
      cases hg : greatB p with
      | false => rfl
      | true => exact absurd (.inl hg) h
    have h2 : (printT p).2 = 0 := Decidable.byContradiction fun e => h (.inr e)
    have hpos := (pt_facts (printT_ok h2).1).1
    have e0 : 0 ≤ i.tmod p.steps.length % p.steps.length := Int.emod_nonneg _ (by omega)
    have e1 : i.tmod p.steps.length % p.steps.length < p.steps.length := Int.emod_lt_of_pos _ (by omega)
    obtain ⟨k, hk⟩ := Int.eq_ofNat_of_zero_le e0
    exact printParts_text p u i w hp hpb hpw hG h1 h2 hi k (by omega) hk
end Go.Proofs.YtafgincpoahefaaDoor
