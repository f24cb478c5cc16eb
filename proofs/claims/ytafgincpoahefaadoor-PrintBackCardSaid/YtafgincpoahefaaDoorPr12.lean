/-
  print: Print.
-/
import Derived.Test.YtafgincpoahefaaDoorPr11
import Derived.Test.YtafgincpoahefaaDoorParR
namespace Go.Proofs.YtafgincpoahefaaDoor
open Go.RowKit

theorem great_steps {p : Pt} (h : greatB p = false) : p.steps.length ≤ 40 ∧ ∀ s ∈ p.steps, s.cmps.length ≤ 20 := by
  simp only [greatB, Bool.or_eq_false_iff, decide_eq_false_iff_not, Nat.not_lt] at h
  refine ⟨h.2, fun s hs => ?_⟩
  have h1 := List.any_eq_false.1 h.1 s (by rw [List.take_of_length_le (by omega)]; exact hs)
  simpa using h1
theorem print_Step (s : St) (i : Int) (hw : stWf s) (hn : s.cmps.length ≤ 20) (v : Value) (w : World) (hv : CmpsV w v s.cmps) (hG : GP w) :
    Calls Tryd.prog 25 #[stA s v, .int .i64 i] w fun e w' => e = .returned (sV (stepT s i)) ∧ Below w.heap.size w w' := by
  by_cases h : stB s = true ∧ 0 ≤ i ∧ i < 26
  · rw [stepT_yes h.1 h.2.1 h.2.2]; exact print_Step_yes s i hw h.1 h.2.1 h.2.2 hn v w hv hG
  · rw [stepT_no h]; exact print_Step_no s i hw h v w hv
theorem ref10_Step (s : St) (i : Int) (hw : stWf s) (hn : s.cmps.length ≤ 20) (v : Value) (w : World) (hv : CmpsV w v s.cmps) :
    Calls Tryd.prog 26 #[stA s v, .int .i64 i] w fun e w' => e = .returned (sV (stepT s i)) ∧ Below w.heap.size w w' := by
  by_cases h : stB s = true ∧ 0 ≤ i ∧ i < 26
  · rw [stepT_yes h.1 h.2.1 h.2.2]; exact ref10_Step_yes s i hw h.1 h.2.1 h.2.2 hn v w hv
  · rw [stepT_no h]; exact ref10_Step_no s i hw h v w hv
theorem stepT_len (s : St) (i : Int) (hw : stWf s) (hn : s.cmps.length ≤ 20) : (stepT s i).length ≤ 1400 := by
  unfold stepT
  split
  · have h3 := (step3_len s.neg s.kind s.min s.max i hw.1 hw.2.1 hw.2.2.1).2.2
    have hc := cmpsPre_len s.cmps hw.2.2.2 hn
    rw [← step3_text, cmpsT_pre]
    simp only [List.length_append]
    split <;> simp <;> omega
  · simp
theorem sepT_len (s : St) (i : Nat) : (sepT s i).length ≤ 1 := by unfold sepT; split; simp; split <;> simp
theorem stepsT_len : ∀ (ss : List St) (i : Nat), (∀ s ∈ ss, stWf s) → (∀ s ∈ ss, s.cmps.length ≤ 20) → (stepsT i ss).length ≤ ss.length * 1401
  | [], _, _, _ => by simp [stepsT]
  | s :: ss, i, hw, hn => by
    have h1 := stepT_len s i (hw s (by simp)) (hn s (by simp))
    have h2 := sepT_len s i
    have h3 := stepsT_len ss (i + 1) (fun s h => hw s (by simp [h])) (fun s h => hn s (by simp [h]))
    simp only [stepsT, List.length_append, List.length_cons]
    omega
theorem enters_strict : ∀ args w, (callFunc 59 args).run Tryd.prog w = .ok (.enter 59 args) w := enters_of Tryd.func59 (by kernel_rfl) rfl
theorem print_strict (s : St) (v : Value) (w : World) : Calls Tryd.prog 59 #[stA s v] w fun e w' => e = .returned (.bool s.strict) ∧ Below w.heap.size w w' := by
  obtain ⟨neg, kd, mn, mx, st, cs⟩ := s
  simp only [stA]
  go_enter Tryd.func59, Tryd.ntmps59
  go_wp2_with fail
  go_ret
  exact ⟨rfl, (Below.refl _ _).alloc (Nat.le_refl _) _⟩
theorem firstI_strict {p : Pt} (h : ptB p = true) : (firstI (fun s : St => s.strict) p.steps == 0) = strict0 p := by
  obtain ⟨ss, wd⟩ := p
  have h0 := (pt_facts h).1
  match ss, h0 with
  | s :: ss, _ =>
    simp only [strict0]
    cases hs : s.strict
    · rw [beq_eq_false_iff_ne]
      unfold firstI
      split
      · simp [List.findIdx_cons, hs]; omega
      · decide
    · unfold firstI
      rw [if_pos (by simp [hs])]
      simp [List.findIdx_cons, hs]

/-- where a pattern's text is being put together -/
structure SP (w : World) (b B : Nat) (cs : Array Value) (l : List UInt8) (wc : World) : Prop where
  bld : Bld B B l wc
  pat : Holds wc b 24 cs
  below : Below w.heap.size w wc
section
variable {w wc w' : World} {b B : Nat} {cs : Array Value} {l l' : List UInt8}
theorem SP.write (h : SP w b B cs l wc) (hb : b < B) (hB : w.heap.size ≤ B) (h1 : Bld B B l' w') (h2 : Below B wc w') : SP w b B cs l' w' :=
  ⟨h1, h.pat.below h2 hb, h.below.trans (h2.mono hB)⟩
theorem SP.later (h : SP w b B cs l wc) (hb : Below wc.heap.size wc w') : SP w b B cs l w' :=
  ⟨h.bld.later hb, h.pat.later hb, h.below.trans (hb.mono h.below.size)⟩
theorem SP.size (h : SP w b B cs l wc) : B < wc.heap.size := by
  rcases h.bld with ⟨_, v, h2, _⟩ | ⟨_, v, h2, _⟩ <;> exact (Array.getElem?_eq_some_iff.1 h2).1
theorem SP.put (r : List UInt8) (A : ByteArray) (hA : A = ⟨r.toArray⟩) (hb : b < B) (hB : w.heap.size ≤ B) (hl : l.length + r.length ≤ 100000) (h : SP w b B cs l wc) :
    Calls Tryd.prog 61 #[.pointer (some ⟨B, 0, none⟩), .string A] wc fun e w' => e = .returned (.tuple #[.int .i64 r.length, .nilIface]) ∧ SP w b B cs (l ++ r) w' := by
  refine (b_WriteStr B B l r A hA wc h.bld hl (Nat.le_of_lt h.size)).mono ?_
  rintro e w' ⟨rfl, h1, h2, _⟩
  exact ⟨rfl, h.write hb hB h1 h2⟩
theorem SP.byte (c : UInt8) (hb : b < B) (hB : w.heap.size ≤ B) (hl : l.length + 1 ≤ 100000) (h : SP w b B cs l wc) :
    Calls Tryd.prog 60 #[.pointer (some ⟨B, 0, none⟩), .int .u8 (c.toNat : Int)] wc fun e w' => e = .returned .nilIface ∧ SP w b B cs (l ++ [c]) w' ∧ Mem 27 wc w' := by
  refine (b_WriteByte B B l c wc h.bld hl (Nat.le_of_lt h.size)).mono ?_
  rintro e w' ⟨rfl, h1, h2, h3⟩
  exact ⟨rfl, h.write hb hB h1 h2, mem_of_kept (B := B) h.bld h3 (by decide) (by decide)⟩
theorem SP.len (h : SP w b B cs l wc) : Calls Tryd.prog 62 #[.pointer (some ⟨B, 0, none⟩)] wc fun e w' => e = .returned (.int .i64 l.length) ∧ wc = w' := by
  refine (Tryd.Builder_Len_f B B (Lib.byteCells l) wc h.bld).mono ?_
  rintro e w' ⟨rfl, rfl⟩
  exact ⟨by rw [byteCells_len], rfl⟩
theorem SP.str (hB : w.heap.size ≤ B) (h : SP w b B cs l wc) : Calls Tryd.prog 63 #[.pointer (some ⟨B, 0, none⟩)] wc fun e w' => e = .returned (sV l) ∧ Below w.heap.size w w' := by
  refine (b_String B B l wc h.bld (Nat.le_of_lt h.size)).mono ?_
  rintro e w' ⟨rfl, _, h2, _⟩
  exact ⟨rfl, h.below.trans (h2.mono hB)⟩
end
theorem printT_no {p : Pt} (h : ¬ (ptB p = true ∧ strict0 p = false)) : printT p = ([], 2) := by unfold printT; rw [if_neg h]
theorem printT_yes {p : Pt} (h : ptB p = true) (h0 : strict0 p = false) (hl : (patT p).length ≤ 2000) : printT p = (patT p, 0) := by unfold printT; rw [if_pos ⟨h, h0⟩, if_pos hl]
theorem printT_long {p : Pt} (h : ptB p = true) (h0 : strict0 p = false) (hl : ¬ (patT p).length ≤ 2000) : printT p = ([], 91) := by unfold printT; rw [if_pos ⟨h, h0⟩, if_neg hl]

set_option maxRecDepth 100000 in
set_option maxHeartbeats 2000000 in
theorem print_Print_no (p : Pt) (hw : ∀ s ∈ p.steps, stWf s) (h : ¬ (ptB p = true ∧ strict0 p = false)) (v : Value) (w : World) (hv : PatV w v p) :
    Calls Tryd.prog 23 #[v] w fun e w' => e = .returned (.tuple #[sV [], .int .i64 2]) ∧ Below w.heap.size w w' := by
  obtain ⟨u, rfl, a, cap, rfl, hlc, hlen, hnil, ha⟩ := hv
  have hb0 : Below w.heap.size w ((w.alloc (.cells #[.slice a p.steps.length cap, .int .i64 p.window] 24)).alloc (.cells #[.pointer none, .slice none 0 0] 77)) := ((Below.refl _ _).alloc (Nat.le_refl _) _).alloc (by simp) _
  have cr := tree_Right p _ ((w.alloc (.cells #[.slice a p.steps.length cap, .int .i64 p.window] 24)).alloc (.cells #[.pointer none, .slice none 0 0] 77)) ⟨_, rfl, a, cap, rfl, hlc, hlen, hnil, ha.mono hb0 (Nat.le_refl _)⟩ hw
  have ci := fun W hb => idx_steps 59 enters_strict (fun s : St => s.strict) p.steps (fun i s _ W v _ => print_strict s v W) a cap W (ha.mono hb (Nat.le_refl _)) hlen
  have hf := firstI_strict (p := p)
  have hst : ptB p = true → strict0 p = true := fun e => by
    cases hs : strict0 p with
    | true => rfl
    | false => exact absurd ⟨e, hs⟩ h
  have z0 := ((Holds.fresh w 24 #[.slice a p.steps.length cap, .int .i64 p.window]).alloc (.cells #[.pointer none, .slice none 0 0] 77))
  generalize firstI (fun s : St => s.strict) p.steps = fi at *
  generalize ptB p = r at *
  generalize strict0 p = st0 at *
  obtain ⟨ss, wd⟩ := p
  simp only at *
  obtain ⟨m, hm⟩ : ∃ m, ss.length = m := ⟨_, rfl⟩
  rw [hm] at cr ci hb0 z0 ⊢
  have CR := Lib.hid cr; clear cr
  have CI := Lib.hid ci; clear ci
  have HB0 := Lib.hid hb0; clear hb0
  have Z0 := Lib.hid z0; clear z0
  clear hm hlc hlen hnil ha hw h
  cases r
  · clear hf hst
    go_enter Tryd.func23, Tryd.ntmps23
    go_wp2_with fail
    refine wp_fwd 0 rfl ?_
    go_wp2_with fail
    refine CR.out.mono ?_
    rintro e w1 ⟨rfl, hb1⟩
    go_wp2_with fail
    apply wp_goto
    refine fwd_goto ?_
    go_wp2_with fail
    rw [Exit.noGoto_ret]
    go_ret2
    exact ⟨rfl, HB0.out.trans (hb1.mono (by simp; omega))⟩
  · have hfi : (fi == 0) = true := by rw [hf rfl, hst rfl]
    clear hf hst
    go_enter Tryd.func23, Tryd.ntmps23
    go_wp2_with fail
    refine wp_fwd 0 rfl ?_
    go_wp2_with fail
    refine CR.out.mono ?_
    rintro e w1 ⟨rfl, hb1⟩
    have hh := Z0.out.later hb1
    have hl := hh.size
    have c0 : w1.cell? ⟨w.heap.size, 0, none⟩ = some (.slice a m cap) := hh.cell 0
    have HB1 := Lib.hid (HB0.out.trans (hb1.mono (by simp; omega)))
    clear hh hb1
    go_wp2_with fail
    refine (CI.out _ HB1.out).mono ?_
    rintro e w2 ⟨rfl, hb2⟩
    go_wp2_with fail
    apply wp_goto
    refine fwd_goto ?_
    go_wp2_with fail
    rw [Exit.noGoto_ret]
    go_ret2
    exact ⟨rfl, HB1.out.trans (hb2.mono HB1.out.size)⟩

theorem pat_text_len {p : Pt} (h : ptB p = true) (hw : ∀ s ∈ p.steps, stWf s) (hn : ∀ s ∈ p.steps, s.cmps.length ≤ 20) (k : Nat) : (stepsT 0 (p.steps.take k)).length ≤ 37000 := by
  have h1 := stepsT_len (p.steps.take k) 0 (fun s hs => hw s (List.mem_of_mem_take hs)) (fun s hs => hn s (List.mem_of_mem_take hs))
  have h2 := (pt_facts h).2.1
  have h3 : (p.steps.take k).length ≤ 26 := by rw [List.length_take]; omega
  omega
theorem sep_none (s : St) (k : Nat) (h : k = 0) : sepT s k = [] := by unfold sepT; rw [if_pos h]
theorem sep_strict (s : St) (k : Nat) (h : ¬ k = 0) (hs : s.strict = true) : sepT s k = [44] := by unfold sepT; rw [if_neg h, if_pos hs]
theorem sep_else (s : St) (k : Nat) (h : ¬ k = 0) (hs : s.strict = false) : sepT s k = [59] := by unfold sepT; rw [if_neg h, hs]; rfl

set_option maxRecDepth 100000 in
set_option maxHeartbeats 4000000 in
theorem print_Print_yes (p : Pt) (hw : ∀ s ∈ p.steps, stWf s) (hwd : bnd p.window) (hg : greatB p = false) (h : ptB p = true) (h0 : strict0 p = false) (v : Value) (w : World) (hv : PatV w v p) (hG : GP w) :
    Calls Tryd.prog 23 #[v] w fun e w' => e = .returned (.tuple #[sV (printT p).1, .int .i64 (printT p).2]) ∧ Below w.heap.size w w' := by
  obtain ⟨u, rfl, a, cap, rfl, hlc, hlen, hnil, ha⟩ := hv
  have hb0 : Below w.heap.size w ((w.alloc (.cells #[.slice a p.steps.length cap, .int .i64 p.window] 24)).alloc (.cells #[.pointer none, .slice none 0 0] 77)) := ((Below.refl _ _).alloc (Nat.le_refl _) _).alloc (by simp) _
  have cr := tree_Right p _ ((w.alloc (.cells #[.slice a p.steps.length cap, .int .i64 p.window] 24)).alloc (.cells #[.pointer none, .slice none 0 0] 77)) ⟨_, rfl, a, cap, rfl, hlc, hlen, hnil, ha.mono hb0 (Nat.le_refl _)⟩ hw
  have ci := fun W hb => idx_steps 59 enters_strict (fun s : St => s.strict) p.steps (fun i s _ W v _ => print_strict s v W) a cap W (ha.mono hb (Nat.le_refl _)) hlen
  have hf := firstI_strict h
  obtain ⟨hg1, hg2⟩ := great_steps hg
  have hpl := fun k => pat_text_len h hw hg2 k
  have key : ∀ (wr : World) (k : Nat), Below w.heap.size w wr → k < p.steps.length → ∃ b off s ca cc, a = some ⟨b, off, none⟩ ∧ p.steps[k]? = some s ∧ stWf s ∧ s.cmps.length ≤ 20 ∧ CmpsV w (.slice ca s.cmps.length cc) s.cmps ∧
      (wr.cell? ⟨b, off + k * 6, none⟩ = some (.bool s.neg) ∧ wr.cell? ⟨b, off + k * 6 + 1, none⟩ = some (.int .i64 s.kind) ∧ wr.cell? ⟨b, off + k * 6 + 2, none⟩ = some (.int .i64 s.min) ∧
      wr.cell? ⟨b, off + k * 6 + 3, none⟩ = some (.int .i64 s.max) ∧ wr.cell? ⟨b, off + k * 6 + 4, none⟩ = some (.bool s.strict) ∧ wr.cell? ⟨b, off + k * 6 + 5, none⟩ = some (.slice ca s.cmps.length cc)) := by
    intro wr k hb hk
    obtain ⟨b, off, ca, cc, e, ⟨k0, k1, k2, k3, k4, k5⟩, h1, h2, h3, h4⟩ := ha.get k hk
    exact ⟨b, off, p.steps[k], ca, cc, e, List.getElem?_eq_getElem hk, hw _ (List.getElem_mem hk), hg2 _ (List.getElem_mem hk), ⟨ca, cc, rfl, h1, h2, h3, h4⟩,
      cell_mono hb (Nat.le_refl _) k0, cell_mono hb (Nat.le_refl _) k1, cell_mono hb (Nat.le_refl _) k2, cell_mono hb (Nat.le_refl _) k3, cell_mono hb (Nat.le_refl _) k4, cell_mono hb (Nat.le_refl _) k5⟩
  have z0 := ((Holds.fresh w 24 #[.slice a p.steps.length cap, .int .i64 p.window]).alloc (.cells #[.pointer none, .slice none 0 0] 77))
  have hbf := (Bld.fresh (w := w.alloc (.cells #[.slice a p.steps.length cap, .int .i64 p.window] 24)) (Nat.le_refl _))
  rw [World.size_alloc] at hbf
  have hy := fun hl => printT_yes h h0 hl
  have hn := fun hl => printT_long h h0 hl
  have hpt : patT p = stepsT 0 p.steps ++ (within' ++ Lib.itoa p.window) := rfl
  have hstk := fun k s hs => stepsT_take (ss := p.steps) (k := k) (s := s) hs
  have hful : p.steps.take p.steps.length = p.steps := List.take_length
  rw [h0] at hf
  rw [h] at cr
  generalize firstI (fun s : St => s.strict) p.steps = fi at *
  generalize hP : printT p = PT at *
  generalize patT p = PX at *
  obtain ⟨ss, wd⟩ := p
  simp only at *
  obtain ⟨m, hm⟩ : ∃ m, ss.length = m := ⟨_, rfl⟩
  rw [hm] at cr ci hb0 z0 hlc hlen hg1 hbf hful key ⊢
  have CR := Lib.hid cr; clear cr
  have CI := Lib.hid ci; clear ci
  have HB0 := Lib.hid hb0; clear hb0
  have Z0 := Lib.hid z0; clear z0
  have HBF := Lib.hid hbf; clear hbf
  have HPL := Lib.hid hpl; clear hpl
  have KEY := Lib.hid key; clear key
  have HY := Lib.hid hy; clear hy
  have HN := Lib.hid hn; clear hn
  have HPT := Lib.hid hpt; clear hpt
  have HST := Lib.hid hstk; clear hstk
  have HFU := Lib.hid hful; clear hful
  have HG2 := Lib.hid hg2; clear hg2
  clear hm hnil ha hw h h0 hP hg
  have hfi : (fi == 0) = false := hf
  clear hf
  go_enter Tryd.func23, Tryd.ntmps23
  go_wp2_with fail
  refine wp_fwd 0 rfl ?_
  go_wp2_with fail
  refine CR.out.mono ?_
  rintro e w1 ⟨rfl, hb1⟩
  have hh := Z0.out.later hb1
  have hl := hh.size
  have c0 : w1.cell? ⟨w.heap.size, 0, none⟩ = some (.slice a m cap) := hh.cell 0
  have HB1 := Lib.hid (HB0.out.trans (hb1.mono (by simp; omega)))
  have sp1 : SP w w.heap.size (w.heap.size + 1) #[.slice a m cap, .int .i64 wd] [] w1 := ⟨HBF.out.later hb1, hh, HB1.out⟩
  have SP1 := Lib.hid sp1; clear sp1
  clear hh hb1
  go_wp2_with fail
  refine (CI.out _ HB1.out).mono ?_
  rintro e w2 ⟨rfl, hb2⟩
  have sp2 := SP1.out.later hb2
  have d0 : w2.cell? ⟨w.heap.size, 0, none⟩ = some (.slice a m cap) := sp2.pat.cell 0
  have SP2 := Lib.hid sp2; clear sp2 SP1 HB1 hb2 c0
  go_wp2_with fail
  go_loopw [19] (fun ix wr => ∃ q : Nat, q ≤ m ∧ ix = .int .i64 q ∧ SP w w.heap.size (w.heap.size + 1) #[.slice a m cap, .int .i64 wd] (stepsT 0 (ss.take q)) wr) (fun ix _ => m - (intOf ix).toNat)
  case atStart => exact ⟨0, Nat.zero_le _, rfl, SP2.out⟩
  case round =>
    obtain ⟨q, hq, rfl, hsp⟩ := hrel
    by_cases hlt : q < m
    · obtain ⟨b, off, s, ca, cc, rfl, hsk, hwf, hn20, hcv, r0, r1, r2, r3, r4, r5⟩ := KEY.out wr q hsp.below hlt
      have hst := HST.out q s hsk
      have hsl := stepT_len s q hwf hn20
      have hpl := HPL.out q
      obtain ⟨SX, eS, sS, rS⟩ := sV_gen (stepT s q) 1400 hsl
      have cs := fun W (hb : Below w.heap.size w W) => print_Step s q hwf hn20 _ W (hcv.mono hb (Nat.le_refl _)) (hG.mono hb)
      rw [eS] at cs
      have sp3 := hsp.later ((Below.refl wr.heap.size wr).alloc (Nat.le_refl _) (.cells (stV s (.slice ca s.cmps.length cc)).toArray 27))
      have z3 := Holds.fresh wr 27 (stV s (.slice ca s.cmps.length cc)).toArray
      have hs0 := sep_none s q
      have hs1 := sep_strict s q
      have hs2 := sep_else s q
      generalize sepT s q = sp at *
      generalize hSt : stepT s q = stx at *
      have hfin : ∀ W, SP w w.heap.size (w.heap.size + 1) #[.slice (some ⟨b, off, none⟩) m cap, .int .i64 wd] (stepsT 0 (ss.take q) ++ sp) W → sp.length ≤ 1 → Calls Tryd.prog 61 #[.pointer (some ⟨w.heap.size + 1, 0, none⟩), .string SX] W fun e w' => e = .returned (.tuple #[.int .i64 stx.length, .nilIface]) ∧ SP w w.heap.size (w.heap.size + 1) #[.slice (some ⟨b, off, none⟩) m cap, .int .i64 wd] (stepsT 0 (ss.take (q + 1))) w' := fun W hW hsp1 => by
        have := hW.put stx SX rS (by omega) (by omega) (by rw [List.length_append]; omega)
        rw [List.append_assoc, ← hst] at this
        exact this
      obtain ⟨neg, kd, mn, mx, st, cm⟩ := s
      simp only [stA, stV] at *
      have hlt3 := z3.size
      have HFIN := Lib.hid hfin; clear hfin
      have CS := Lib.hid cs; clear cs
      have SP3 := Lib.hid sp3; clear sp3
      have Z3 := Lib.hid z3; clear z3
      clear hst hsl hcv hsk hwf eS rS hSt
      have hszr := hsp.size
      have HSP := Lib.hid hsp; clear hsp SP2 d0
      by_cases hq0 : q = 0
      · have e0 := hs0 hq0
        subst hq0
        have SP4 := Lib.hid SP3.out
        clear SP3 hs0 hs1 hs2
        simp only [Nat.zero_mul, Nat.add_zero] at r0 r1 r2 r3 r4 r5
        have HF := Lib.hid (HFIN.out); clear HFIN
        go_wp2_with fail
        refine (CS.out _ SP4.out.below).mono ?_
        rintro e w4 ⟨rfl, hb4⟩
        have sp5 := SP4.out.later hb4
        have cw := HF.out _ (by rw [e0]; simpa using sp5) (by rw [e0]; simp)
        have CW := Lib.hid cw; clear cw
        go_wp2_with fail
        refine CW.out.mono ?_
        rintro e w5 ⟨rfl, sp6⟩
        have SP6 := Lib.hid sp6; clear sp6 sp5 hb4
        go_wp2_with fail
        go_roundw
        case rel => exact ⟨1, by omega, by go_num, SP6.out⟩
        case measure => simp [intOf]; omega
      · have hqz : ((q : Int) == 0) = false := by simp only [beq_eq_false_iff_ne]; omega
        clear hs0
        cases st
        · have e0 := hs2 hq0 rfl
          clear hs1 hs2
          have cb := SP3.out.byte 59 (by omega) (by omega) (by omega)
          have CB := Lib.hid cb; clear cb
          go_wp2_with fail
          refine CB.out.mono ?_
          rintro e w4 ⟨rfl, sp4, hm4⟩
          have z4 := hm4 _ _ Z3.out
          have hlt4 := z4.size
          obtain ⟨x0, x1, x2, x3, x4, x5⟩ : w4.cell? ⟨wr.heap.size, 0, none⟩ = some (.bool neg) ∧ w4.cell? ⟨wr.heap.size, 1, none⟩ = some (.int .i64 kd) ∧ w4.cell? ⟨wr.heap.size, 2, none⟩ = some (.int .i64 mn) ∧ w4.cell? ⟨wr.heap.size, 3, none⟩ = some (.int .i64 mx) ∧ w4.cell? ⟨wr.heap.size, 4, none⟩ = some (.bool false) ∧ w4.cell? ⟨wr.heap.size, 5, none⟩ = some (.slice ca cm.length cc) := ⟨z4.cell 0, z4.cell 1, z4.cell 2, z4.cell 3, z4.cell 4, z4.cell 5⟩
          have SP4 := Lib.hid sp4; clear sp4 hm4 z4
          go_wp2_with fail
          refine (CS.out _ SP4.out.below).mono ?_
          rintro e w5 ⟨rfl, hb5⟩
          have sp5 := SP4.out.later hb5
          have cw := HFIN.out _ (by rw [e0]; exact sp5) (by rw [e0]; simp)
          have CW := Lib.hid cw; clear cw
          go_wp2_with fail
          refine CW.out.mono ?_
          rintro e w6 ⟨rfl, sp6⟩
          have SP6 := Lib.hid sp6; clear sp6 sp5 hb5
          go_wp2_with fail
          go_roundw
          case rel => exact ⟨q + 1, by omega, by go_num, SP6.out⟩
          case measure => simp [intOf]; omega
        · have e0 := hs1 hq0 rfl
          clear hs1 hs2
          have cb := SP3.out.byte 44 (by omega) (by omega) (by omega)
          have CB := Lib.hid cb; clear cb
          go_wp2_with fail
          refine CB.out.mono ?_
          rintro e w4 ⟨rfl, sp4, hm4⟩
          have z4 := hm4 _ _ Z3.out
          have hlt4 := z4.size
          obtain ⟨x0, x1, x2, x3, x4, x5⟩ : w4.cell? ⟨wr.heap.size, 0, none⟩ = some (.bool neg) ∧ w4.cell? ⟨wr.heap.size, 1, none⟩ = some (.int .i64 kd) ∧ w4.cell? ⟨wr.heap.size, 2, none⟩ = some (.int .i64 mn) ∧ w4.cell? ⟨wr.heap.size, 3, none⟩ = some (.int .i64 mx) ∧ w4.cell? ⟨wr.heap.size, 4, none⟩ = some (.bool true) ∧ w4.cell? ⟨wr.heap.size, 5, none⟩ = some (.slice ca cm.length cc) := ⟨z4.cell 0, z4.cell 1, z4.cell 2, z4.cell 3, z4.cell 4, z4.cell 5⟩
          have SP4 := Lib.hid sp4; clear sp4 hm4 z4
          go_wp2_with fail
          refine (CS.out _ SP4.out.below).mono ?_
          rintro e w5 ⟨rfl, hb5⟩
          have sp5 := SP4.out.later hb5
          have cw := HFIN.out _ (by rw [e0]; exact sp5) (by rw [e0]; simp)
          have CW := Lib.hid cw; clear cw
          go_wp2_with fail
          refine CW.out.mono ?_
          rintro e w6 ⟨rfl, sp6⟩
          have SP6 := Lib.hid sp6; clear sp6 sp5 hb5
          go_wp2_with fail
          go_roundw
          case rel => exact ⟨q + 1, by omega, by go_num, SP6.out⟩
          case measure => simp [intOf]; omega
    · obtain rfl : q = m := by omega
      rw [HFU.out] at hsp
      have hd1 : wr.cell? ⟨w.heap.size, 1, none⟩ = some (.int .i64 wd) := hsp.pat.cell 1
      have hpl := HPL.out q
      rw [HFU.out] at hpl
      have hpt := HPT.out
      obtain ⟨D, eD, sD, rD⟩ := sV_gen (Lib.itoa wd) 21 (itoa_len _ hwd)
      have cn := num_TextP wd hwd wr (hG.mono hsp.below)
      rw [eD] at cn
      have cp : ∀ W, SP w w.heap.size (w.heap.size + 1) #[.slice a q cap, .int .i64 wd] (stepsT 0 ss) W → Calls Tryd.prog 61 #[.pointer (some ⟨w.heap.size + 1, 0, none⟩), .string (⟨#[32, 119, 105, 116, 104, 105, 110, 32]⟩ ++ D)] W fun e w' => e = .returned (.tuple #[.int .i64 (within' ++ Lib.itoa wd).length, .nilIface]) ∧ SP w w.heap.size (w.heap.size + 1) #[.slice a q cap, .int .i64 wd] PX w' := fun W hW => by
        have := hW.put (within' ++ Lib.itoa wd) (⟨#[32, 119, 105, 116, 104, 105, 110, 32]⟩ ++ D) (by rw [rD, show (⟨#[32, 119, 105, 116, 104, 105, 110, 32]⟩ : ByteArray) = ⟨within'.toArray⟩ from rfl, ba_app]) (by omega) (by omega) (by have := itoa_len wd hwd; simp only [List.length_append, within', List.length_cons, List.length_nil]; omega)
        rw [← hpt] at this
        exact this
      have CN := Lib.hid cn; clear cn
      have CP := Lib.hid cp; clear cp
      have HSP := Lib.hid hsp; clear hsp hpt eD rD hpl SP2 d0
      go_wp2_with fail
      refine CN.out.mono ?_
      rintro e w4 ⟨rfl, hb4⟩
      have sp4 := HSP.out.later hb4
      go_wp2_with fail
      refine (CP.out _ sp4).mono ?_
      rintro e w5 ⟨rfl, sp5⟩
      have cl := sp5.len
      have cst := sp5.str (by omega)
      obtain ⟨n, hn⟩ : ∃ n, PX.length = n := ⟨_, rfl⟩
      rw [hn] at cl
      have CL := Lib.hid cl; clear cl
      have CST := Lib.hid cst; clear cst
      have hbl := sp5.below
      have HBL := Lib.hid hbl; clear hbl sp5 sp4 hb4
      by_cases hn2 : n ≤ 2000
      · have hy := HY.out (by rw [hn]; exact hn2)
        have HYF := Lib.hid hy
        clear hy hn
        go_wp2_with fail
        refine CL.out.mono ?_
        rintro e w6 ⟨rfl, rfl⟩
        go_wp2_with fail
        refine CST.out.mono ?_
        rintro e w7 ⟨rfl, hb7⟩
        go_wp2_with fail
        rw [fwd_ret]
        go_ret2
        exact ⟨by rw [HYF.out]; rfl, hb7⟩
      · have hy := HN.out (by rw [hn]; exact hn2)
        have HYF := Lib.hid hy
        clear hy hn
        go_wp2_with fail
        refine CL.out.mono ?_
        rintro e w6 ⟨rfl, rfl⟩
        go_wp2_with fail
        apply wp_label
        go_wp2_with fail
        rw [fwd_ret]
        go_ret2
        exact ⟨by rw [HYF.out]; rfl, HBL.out⟩
theorem print_Print (p : Pt) (hw : ∀ s ∈ p.steps, stWf s) (hwd : bnd p.window) (hg : greatB p = false) (v : Value) (w : World) (hv : PatV w v p) (hG : GP w) :
    Calls Tryd.prog 23 #[v] w fun e w' => e = .returned (.tuple #[sV (printT p).1, .int .i64 (printT p).2]) ∧ Below w.heap.size w w' := by
  by_cases h : ptB p = true ∧ strict0 p = false
  · exact print_Print_yes p hw hwd hg h.1 h.2 v w hv hG
  · rw [printT_no h]; exact print_Print_no p hw h v w hv
end Go.Proofs.YtafgincpoahefaaDoor
