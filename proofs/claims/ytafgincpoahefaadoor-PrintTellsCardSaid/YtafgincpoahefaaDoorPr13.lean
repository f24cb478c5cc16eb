/-
  straggleref10: Print.
-/
import Derived.Test.YtafgincpoahefaaDoorPr12
namespace Go.Proofs.YtafgincpoahefaaDoor
open Go.RowKit

/-- where a pattern's text is being put together, in a string -/
structure SQ (w : World) (b : Nat) (cs : Array Value) (wc : World) : Prop where
  pat : Holds wc b 24 cs
  below : Below w.heap.size w wc
theorem SQ.later {w wc w' : World} {b : Nat} {cs : Array Value} (h : SQ w b cs wc) (hb : Below wc.heap.size wc w') : SQ w b cs w' :=
  ⟨h.pat.later hb, h.below.trans (hb.mono h.below.size)⟩
theorem strict0_head {ss : List St} {wd : Int} {s : St} (h : ss[0]? = some s) : strict0 ⟨ss, wd⟩ = s.strict := by
  cases ss with
  | nil => simp at h
  | cons t l => simp at h; subst h; rfl

set_option maxRecDepth 100000 in
set_option maxHeartbeats 4000000 in
theorem ref10_Print (p : Pt) (hw : ∀ s ∈ p.steps, stWf s) (hwd : bnd p.window) (hg : greatB p = false) (v : Value) (w : World) (hv : PatV w v p) :
    Calls Tryd.prog 24 #[v] w fun e w' => e = .returned (.tuple #[sV (printT p).1, .int .i64 (printT p).2]) ∧ Below w.heap.size w w' := by
  obtain ⟨u, rfl, a, cap, rfl, hlc, hlen, hnil, ha⟩ := hv
  have hb0 : Below w.heap.size w (w.alloc (.cells #[.slice a p.steps.length cap, .int .i64 p.window] 24)) := (Below.refl _ _).alloc (Nat.le_refl _) _
  have cr := ref8_Right p _ (w.alloc (.cells #[.slice a p.steps.length cap, .int .i64 p.window] 24)) ⟨_, rfl, a, cap, rfl, hlc, hlen, hnil, ha.mono hb0 (Nat.le_refl _)⟩ hw
  obtain ⟨hg1, hg2⟩ := great_steps hg
  have hpl := fun h k => pat_text_len h hw hg2 k
  have key : ∀ (wr : World) (k : Nat), Below w.heap.size w wr → k < p.steps.length → ∃ b off s ca cc, a = some ⟨b, off, none⟩ ∧ p.steps[k]? = some s ∧ stWf s ∧ s.cmps.length ≤ 20 ∧ CmpsV w (.slice ca s.cmps.length cc) s.cmps ∧
      (wr.cell? ⟨b, off + k * 6, none⟩ = some (.bool s.neg) ∧ wr.cell? ⟨b, off + k * 6 + 1, none⟩ = some (.int .i64 s.kind) ∧ wr.cell? ⟨b, off + k * 6 + 2, none⟩ = some (.int .i64 s.min) ∧
      wr.cell? ⟨b, off + k * 6 + 3, none⟩ = some (.int .i64 s.max) ∧ wr.cell? ⟨b, off + k * 6 + 4, none⟩ = some (.bool s.strict) ∧ wr.cell? ⟨b, off + k * 6 + 5, none⟩ = some (.slice ca s.cmps.length cc)) := by
    intro wr k hb hk
    obtain ⟨b, off, ca, cc, e, ⟨k0, k1, k2, k3, k4, k5⟩, h1, h2, h3, h4⟩ := ha.get k hk
    exact ⟨b, off, p.steps[k], ca, cc, e, List.getElem?_eq_getElem hk, hw _ (List.getElem_mem hk), hg2 _ (List.getElem_mem hk), ⟨ca, cc, rfl, h1, h2, h3, h4⟩,
      cell_mono hb (Nat.le_refl _) k0, cell_mono hb (Nat.le_refl _) k1, cell_mono hb (Nat.le_refl _) k2, cell_mono hb (Nat.le_refl _) k3, cell_mono hb (Nat.le_refl _) k4, cell_mono hb (Nat.le_refl _) k5⟩
  have z0 := Holds.fresh w 24 #[.slice a p.steps.length cap, .int .i64 p.window]
  have hnot := fun h => printT_no (p := p) h
  have hy := fun h h0 hl => printT_yes (p := p) h h0 hl
  have hn := fun h h0 hl => printT_long (p := p) h h0 hl
  have hpt : patT p = stepsT 0 p.steps ++ (within' ++ Lib.itoa p.window) := rfl
  have hstk := fun k s hs => stepsT_take (ss := p.steps) (k := k) (s := s) hs
  have hful : p.steps.take p.steps.length = p.steps := List.take_length
  have h0s := fun s hs => strict0_head (ss := p.steps) (wd := p.window) (s := s) hs
  have hpos := fun h => (pt_facts (p := p) h).1
  generalize hP : printT p = PT at *
  generalize patT p = PX at *
  obtain ⟨ss, wd⟩ := p
  simp only at *
  generalize strict0 ⟨ss, wd⟩ = st0 at *
  generalize ptB ⟨ss, wd⟩ = pb at *
  obtain ⟨m, hm⟩ : ∃ m, ss.length = m := ⟨_, rfl⟩
  rw [hm] at cr hb0 z0 hlc hlen hg1 hful key hpos ⊢
  have CR := Lib.hid cr; clear cr
  have HB0 := Lib.hid hb0; clear hb0
  have Z0 := Lib.hid z0; clear z0
  have HPL := Lib.hid hpl; clear hpl
  have KEY := Lib.hid key; clear key
  have HY := Lib.hid hy; clear hy
  have HN := Lib.hid hn; clear hn
  have HNO := Lib.hid hnot; clear hnot
  have HPT := Lib.hid hpt; clear hpt
  have HST := Lib.hid hstk; clear hstk
  have HFU := Lib.hid hful; clear hful
  have HG2 := Lib.hid hg2; clear hg2
  have H0S := Lib.hid h0s; clear h0s
  clear hm hnil ha hw hP hg
  cases pb
  · have hno := HNO.out (fun h => nomatch h.1)
    have HF := Lib.hid hno
    clear hno hpos
    go_enter Tryd.func24, Tryd.ntmps24
    go_wp2_with fail
    refine CR.out.mono ?_
    rintro e w1 ⟨rfl, hb1⟩
    go_wp2_with fail
    go_ret2
    exact ⟨by rw [HF.out]; rfl, HB0.out.trans (hb1.mono (by simp))⟩
  · have hm0 := hpos rfl
    clear hpos
    cases st0
    · go_enter Tryd.func24, Tryd.ntmps24
      go_wp2_with fail
      refine CR.out.mono ?_
      rintro e w1 ⟨rfl, hb1⟩
      have sq1 : SQ w w.heap.size #[.slice a m cap, .int .i64 wd] w1 := ⟨Z0.out.later hb1, HB0.out.trans (hb1.mono (by simp))⟩
      have c0 : w1.cell? ⟨w.heap.size, 0, none⟩ = some (.slice a m cap) := sq1.pat.cell 0
      obtain ⟨b, off, s, ca, cc, rfl, hsk, _, _, _, r0, r1, r2, r3, r4, r5⟩ := KEY.out w1 0 sq1.below hm0
      have hs0 := H0S.out s hsk
      rw [← hs0] at r4
      simp only [Nat.zero_mul, Nat.add_zero] at r0 r1 r2 r3 r4 r5
      have SQ1 := Lib.hid sq1; clear sq1 hb1 hs0 hsk
      go_wp2_with fail
      clear r0 r1 r2 r3 r4 r5
      go_loopw [4, 5] (fun o ix wr => ∃ (q : Nat) (X : ByteArray), q ≤ m ∧ ix = .int .i64 q ∧ o = .string X ∧ X.size ≤ 37000 ∧ Hid (X = ⟨(stepsT 0 (ss.take q)).toArray⟩) ∧ SQ w w.heap.size #[.slice (some ⟨b, off, none⟩) m cap, .int .i64 wd] wr) (fun _ ix _ => m - (intOf ix).toNat)
      case atStart => exact ⟨0, _, Nat.zero_le _, rfl, rfl, by decide, Lib.hid rfl, SQ1.out⟩
      case round =>
        obtain ⟨q, X, hq, rfl, rfl, hX, HX, hsq⟩ := hrel
        have hc0 : wr.cell? ⟨w.heap.size, 0, none⟩ = some (.slice (some ⟨b, off, none⟩) m cap) := hsq.pat.cell 0
        by_cases hlt : q < m
        · obtain ⟨b', off', t, ca', cc', e, htk, hwf, hn20, hcv, r0, r1, r2, r3, r4, r5⟩ := KEY.out wr q hsq.below hlt
          obtain ⟨rfl, rfl⟩ : b = b' ∧ off = off' := by simpa using e
          have hst := HST.out q t htk
          have hpl := HPL.out trivial (q + 1)
          obtain ⟨SX, eS, sS, rS⟩ := sV_gen (stepT t q) 1400 (stepT_len t q hwf hn20)
          have cs := fun W (hb : Below w.heap.size w W) => ref10_Step t q hwf hn20 _ W (hcv.mono hb (Nat.le_refl _))
          rw [eS] at cs
          have HE : Hid ((q = 0 → X ++ SX = ⟨(stepsT 0 (ss.take (q + 1))).toArray⟩) ∧ (¬ q = 0 → t.strict = true → X ++ ⟨#[44]⟩ ++ SX = ⟨(stepsT 0 (ss.take (q + 1))).toArray⟩) ∧ (¬ q = 0 → t.strict = false → X ++ ⟨#[59]⟩ ++ SX = ⟨(stepsT 0 (ss.take (q + 1))).toArray⟩)) := Lib.hid ⟨fun h => by
              rw [hst, sep_none t q h, HX.out, rS, ba_app]; simp, fun h h' => by
              rw [hst, sep_strict t q h h', HX.out, rS, show (⟨#[44]⟩ : ByteArray) = ⟨([44] : List UInt8).toArray⟩ from rfl, ba_app, ba_app]; simp, fun h h' => by
              rw [hst, sep_else t q h h', HX.out, rS, show (⟨#[59]⟩ : ByteArray) = ⟨([59] : List UInt8).toArray⟩ from rfl, ba_app, ba_app]; simp⟩
          obtain ⟨neg, kd, mn, mx, st, cm⟩ := t
          simp only [stA] at *
          have CS := Lib.hid cs; clear cs
          have HSQ := Lib.hid hsq; clear hsq
          clear hst hcv htk hwf eS rS e
          have HPL1 := Lib.hid hpl; clear hpl
          by_cases hq0 : q = 0
          · have e1 := HE.out.1 hq0
            subst hq0
            have s1 : (X ++ SX).size ≤ 37000 := by rw [ba_len e1]; exact HPL1.out
            have E1 := Lib.hid e1
            have S1 := Lib.hid s1
            clear e1 s1 HE
            simp only [Nat.zero_mul, Nat.add_zero] at r0 r1 r2 r3 r4 r5
            go_wp2_with fail
            refine (CS.out _ HSQ.out.below).mono ?_
            rintro e w4 ⟨rfl, hb4⟩
            have sq4 := HSQ.out.later hb4
            have SQ4 := Lib.hid sq4; clear sq4 hb4
            go_wp2_with fail
            go_roundw
            case rel => exact ⟨1, _, by omega, by go_num, rfl, S1.out, E1, SQ4.out⟩
            case measure => simp [intOf]; omega
          · have hq1 : 0 < q := by omega
            cases st
            · have e1 := HE.out.2.2 hq0 rfl
              have s1 : (X ++ ⟨#[59]⟩ ++ SX).size ≤ 37000 := by rw [ba_len e1]; exact HPL1.out
              have E1 := Lib.hid e1
              have S1 := Lib.hid s1
              clear e1 s1 HE
              go_wp2_with fail
              refine (CS.out _ HSQ.out.below).mono ?_
              rintro e w4 ⟨rfl, hb4⟩
              have sq4 := HSQ.out.later hb4
              have SQ4 := Lib.hid sq4; clear sq4 hb4
              go_wp2_with fail
              go_roundw
              case rel => exact ⟨q + 1, _, by omega, by go_num, rfl, S1.out, E1, SQ4.out⟩
              case measure => simp [intOf]; omega
            · have e1 := HE.out.2.1 hq0 rfl
              have s1 : (X ++ ⟨#[44]⟩ ++ SX).size ≤ 37000 := by rw [ba_len e1]; exact HPL1.out
              have E1 := Lib.hid e1
              have S1 := Lib.hid s1
              clear e1 s1 HE
              go_wp2_with fail
              refine (CS.out _ HSQ.out.below).mono ?_
              rintro e w4 ⟨rfl, hb4⟩
              have sq4 := HSQ.out.later hb4
              have SQ4 := Lib.hid sq4; clear sq4 hb4
              go_wp2_with fail
              go_roundw
              case rel => exact ⟨q + 1, _, by omega, by go_num, rfl, S1.out, E1, SQ4.out⟩
              case measure => simp [intOf]; omega
        · obtain rfl : q = m := by omega
          have hc1 : wr.cell? ⟨w.heap.size, 1, none⟩ = some (.int .i64 wd) := hsq.pat.cell 1
          have hpt := HPT.out
          obtain ⟨D, eD, sD, rD⟩ := sV_gen (Lib.itoa wd) 21 (itoa_len _ hwd)
          have cn := fun W => ref_TextP wd hwd W
          rw [eD] at cn
          have e1 : X ++ ⟨#[32, 119, 105, 116, 104, 105, 110, 32]⟩ ++ D = ⟨PX.toArray⟩ := by
            rw [HX.out, HFU.out, rD, show (⟨#[32, 119, 105, 116, 104, 105, 110, 32]⟩ : ByteArray) = ⟨within'.toArray⟩ from rfl, ba_app, ba_app, hpt]; simp
          have s1 := ba_len e1
          have hxs : (X ++ ⟨#[32, 119, 105, 116, 104, 105, 110, 32]⟩ ++ D).size = X.size + 8 + D.size := by simp [ByteArray.size_append]; rfl
          have E1 := Lib.hid e1; clear e1
          have S1 := Lib.hid s1; clear s1
          have HXS := Lib.hid hxs; clear hxs
          have CN := Lib.hid cn; clear cn
          have HSQ := Lib.hid hsq; clear hsq hpt eD rD
          by_cases hn2 : PX.length ≤ 2000
          · have hy := HY.out trivial trivial hn2
            have hle : X.size + 8 + D.size ≤ 2000 := by rw [← HXS.out, S1.out]; exact hn2
            have HYF := Lib.hid hy; clear hy
            clear hn2
            go_wp2_with fail
            refine (CN.out _).mono ?_
            rintro e w4 ⟨rfl, hb4⟩
            have sq4 := HSQ.out.later hb4
            go_wp2_with fail
            go_ret2
            exact ⟨by rw [HYF.out]; exact congrArg (fun x => Ending.returned (.tuple #[.string x, .int .i64 0])) E1.out, sq4.below⟩
          · have hy := HN.out trivial trivial hn2
            have hle : 2000 < X.size + 8 + D.size := by rw [← HXS.out, S1.out]; omega
            have HYF := Lib.hid hy; clear hy
            clear hn2
            go_wp2_with fail
            refine (CN.out _).mono ?_
            rintro e w4 ⟨rfl, hb4⟩
            have sq4 := HSQ.out.later hb4
            go_wp2_with fail
            go_ret2
            exact ⟨by rw [HYF.out]; rfl, sq4.below⟩
    · have hno := HNO.out (fun h => nomatch h.2)
      have HF := Lib.hid hno
      clear hno
      go_enter Tryd.func24, Tryd.ntmps24
      go_wp2_with fail
      refine CR.out.mono ?_
      rintro e w1 ⟨rfl, hb1⟩
      have sq1 : SQ w w.heap.size #[.slice a m cap, .int .i64 wd] w1 := ⟨Z0.out.later hb1, HB0.out.trans (hb1.mono (by simp))⟩
      have c0 : w1.cell? ⟨w.heap.size, 0, none⟩ = some (.slice a m cap) := sq1.pat.cell 0
      obtain ⟨b, off, s, ca, cc, rfl, hsk, _, _, _, r0, r1, r2, r3, r4, r5⟩ := KEY.out w1 0 sq1.below hm0
      have hs0 := H0S.out s hsk
      rw [← hs0] at r4
      simp only [Nat.zero_mul, Nat.add_zero] at r0 r1 r2 r3 r4 r5
      have SQ1 := Lib.hid sq1; clear sq1 hb1 hs0 hsk
      go_wp2_with fail
      go_ret2
      exact ⟨by rw [HF.out]; rfl, SQ1.out.below⟩
end Go.Proofs.YtafgincpoahefaaDoor
