/-
  straggleref08: number, term, Right, Great.
  straggleref08: Right, Great.
-/
import Derived.Test.YtafgincpoahefaaDoorTree2
import Derived.Test.YtafgincpoahefaaDoorGround
namespace Go.Proofs.YtafgincpoahefaaDoor
open Go.RowKit

set_option maxHeartbeats 400000 in
theorem ref8_number (n : Int) (w : World) : Calls Tryd.prog 70 #[.int .i64 n] w fun e w' => e = .returned (.bool (numB n)) ∧ w = w' := by
  obtain ⟨r, hr⟩ : ∃ r, numB n = r := ⟨_, rfl⟩
  have HR := Lib.hid hr
  clear hr
  go_enter Tryd.func70, Tryd.ntmps70
  go_wp2_with fail
  all_goals
    go_ret
    refine ⟨?_, rfl⟩
    refine ret_bool ?_
    simp_all [numB]
    try omega

set_option maxRecDepth 100000 in
set_option maxHeartbeats 1000000 in
theorem ref8_term (t : Tm) (w : World) : Calls Tryd.prog 71 #[tmA t] w fun e w' => e = .returned (.bool (tmB t)) ∧ Below w.heap.size w w' := by
  have hyes := fun h => (tmB_iff t).2 h
  have hno := tmB_no t
  obtain ⟨k, n, s, r⟩ := t
  simp only [tmA] at *
  by_cases hg : -1099511627776 ≤ n ∧ n ≤ 1099511627776 ∧ k < 7 ∧ 0 ≤ s ∧ s < 26 ∧ 0 ≤ r ∧ r < 26
  · obtain ⟨h1, h2, h3, h4, h5, h6, h7⟩ := hg
    have hs0 : ¬ (s = 0) → (s == 0) = false := fun h => by simpa using h
    have hr0 : ¬ (r = 0) → (r == 0) = false := fun h => by simpa using h
    by_cases hk0 : k = 0
    · subst hk0
      by_cases hs : s = 0
      · subst hs
        by_cases hr : r = 0
        · subst hr
          have ht := hyes ⟨h1, h2, h3, h4, h5, h6, h7, by omega, by omega⟩
          have HT := Lib.hid ht; clear ht hyes hno hs0 hr0
          go_enter Tryd.func71, Tryd.ntmps71
          go_wp2_with fail
          go_ret
          exact ⟨ret_bool HT.out.symm, (Below.refl _ _).alloc (Nat.le_refl _) _⟩
        · have ht := hno (by omega)
          have hr' := hr0 hr
          have HT := Lib.hid ht; clear ht hyes hno hs0 hr0 hr
          go_enter Tryd.func71, Tryd.ntmps71
          go_wp2_with fail
          go_ret
          exact ⟨ret_bool HT.out.symm, (Below.refl _ _).alloc (Nat.le_refl _) _⟩
      · have ht := hno (by omega)
        have hs' := hs0 hs
        have HT := Lib.hid ht; clear ht hyes hno hs0 hr0 hs
        go_enter Tryd.func71, Tryd.ntmps71
        go_wp2_with fail
        go_ret
        exact ⟨ret_bool HT.out.symm, (Below.refl _ _).alloc (Nat.le_refl _) _⟩
    · have hkz : (k == 0) = false := by simpa using hk0
      have hkz' : (k != 0) = true := by simpa using hk0
      by_cases hk5 : k = 5
      · subst hk5
        have ht := hyes ⟨h1, h2, h3, h4, h5, h6, h7, by omega, by omega⟩
        have HT := Lib.hid ht; clear ht hyes hno hs0 hr0 hkz hkz' hk0
        go_enter Tryd.func71, Tryd.ntmps71
        go_wp2_with fail
        go_ret
        exact ⟨ret_bool HT.out.symm, (Below.refl _ _).alloc (Nat.le_refl _) _⟩
      by_cases hk6 : k = 6
      · subst hk6
        have ht := hyes ⟨h1, h2, h3, h4, h5, h6, h7, by omega, by omega⟩
        have HT := Lib.hid ht; clear ht hyes hno hs0 hr0 hkz hkz' hk0 hk5
        go_enter Tryd.func71, Tryd.ntmps71
        go_wp2_with fail
        go_ret
        exact ⟨ret_bool HT.out.symm, (Below.refl _ _).alloc (Nat.le_refl _) _⟩
      have hk5' : (k == 5) = false := by simpa using hk5
      have hk6' : (k == 6) = false := by simpa using hk6
      by_cases hr : r = 0
      · subst hr
        have ht := hyes ⟨h1, h2, h3, h4, h5, h6, h7, by omega, by omega⟩
        have HT := Lib.hid ht; clear ht hyes hno hs0 hr0 hk0 hk5 hk6
        go_enter Tryd.func71, Tryd.ntmps71
        go_wp2_with fail
        go_ret
        exact ⟨ret_bool HT.out.symm, (Below.refl _ _).alloc (Nat.le_refl _) _⟩
      · have ht := hno (by omega)
        have hr' := hr0 hr
        have HT := Lib.hid ht; clear ht hyes hno hs0 hr0 hr hk0 hk5 hk6
        go_enter Tryd.func71, Tryd.ntmps71
        go_wp2_with fail
        go_ret
        exact ⟨ret_bool HT.out.symm, (Below.refl _ _).alloc (Nat.le_refl _) _⟩
  · have HN := Lib.hid hno; clear hno hyes
    go_enter Tryd.func71, Tryd.ntmps71
    go_wp2_with fail
    all_goals first
      | (exfalso; omega)
      | (go_ret; exact ⟨ret_bool (HN.out (by omega)).symm, (Below.refl _ _).alloc (Nat.le_refl _) _⟩)
end Go.Proofs.YtafgincpoahefaaDoor

namespace Go.Proofs.YtafgincpoahefaaDoor
open Go.RowKit

theorem stB_no {s : St} {j : Nat} {c : Cm} (hj : s.cmps[j]? = some c) (hc : cmB c = false) : stB s = false := by
  cases h : stB s with
  | false => rfl
  | true =>
    simp only [stB, Bool.and_eq_true, List.all_eq_true] at h
    rw [h.2 c (List.mem_of_getElem? hj)] at hc
    cases hc
theorem stB_yes {s : St} (h1 : numB s.kind = true) (h2 : numB s.min = true) (h3 : numB s.max = true) (h : ∀ (j : Nat) (c : Cm), j < s.cmps.length → s.cmps[j]? = some c → cmB c = true) : stB s = true := by
  simp only [stB, Bool.and_eq_true, List.all_eq_true]
  refine ⟨⟨⟨h1, h2⟩, h3⟩, fun c hc => ?_⟩
  obtain ⟨j, hj, rfl⟩ := List.getElem_of_mem hc
  exact h j _ hj (List.getElem?_eq_getElem hj)
theorem ptB_no {p : Pt} {j : Nat} {s : St} (hj : p.steps[j]? = some s) (hs : stB s = false) : ptB p = false := by
  cases h : ptB p with
  | false => rfl
  | true =>
    simp only [ptB, Bool.and_eq_true, List.all_eq_true] at h
    rw [h.2 s (List.mem_of_getElem? hj)] at hs
    cases hs
theorem ptB_yes {p : Pt} (h1 : 0 < p.steps.length) (h2 : p.steps.length ≤ 26) (h3 : numB p.window = true) (h : ∀ (j : Nat) (s : St), j < p.steps.length → p.steps[j]? = some s → stB s = true) : ptB p = true := by
  simp only [ptB, Bool.and_eq_true, List.all_eq_true, decide_eq_true_eq]
  refine ⟨⟨⟨h1, h2⟩, h3⟩, fun c hc => ?_⟩
  obtain ⟨j, hj, rfl⟩ := List.getElem_of_mem hc
  exact h j _ hj (List.getElem?_eq_getElem hj)
theorem upto_next {α : Type} {l : List α} {p : α → Bool} {k : Nat} {x : α} (h : ∀ (j : Nat) (y : α), j < k → l[j]? = some y → p y = true) (hx : l[k]? = some x) (hp : p x = true) : ∀ (j : Nat) (y : α), j < k + 1 → l[j]? = some y → p y = true := fun j y hj hy => by
  rcases Nat.lt_or_ge j k with hjk | hjk
  · exact h j y hjk hy
  · obtain rfl : j = k := by omega
    rw [hx] at hy
    obtain rfl := Option.some.inj hy
    exact hp

set_option maxRecDepth 100000 in
set_option maxHeartbeats 4000000 in
theorem ref8_Right (p : Pt) (v : Value) (w : World) (hv : PatV w v p) (hw : ∀ s ∈ p.steps, stWf s) : Calls Tryd.prog 35 #[v] w fun e w' => e = .returned (.bool (ptB p)) ∧ Below w.heap.size w w' := by
  obtain ⟨u, rfl, a, cap, rfl, hlc, hlen, hnil, ha⟩ := hv
  have c1 := fun w => ref8_number p.window w
  have hyes := ptB_yes (p := p)
  have hno := fun j s hj hs => ptB_no (p := p) (j := j) (s := s) hj hs
  have hr0 : ¬ (0 < p.steps.length ∧ p.steps.length ≤ 26 ∧ numB p.window = true) → ptB p = false := fun h => by
    cases hp : ptB p with
    | false => rfl
    | true =>
      simp only [ptB, Bool.and_eq_true, decide_eq_true_eq] at hp
      exact absurd ⟨hp.1.1.1, hp.1.1.2, hp.1.2⟩ h
  have key : ∀ (wr : World) (k : Nat), Below w.heap.size w wr → k < p.steps.length → ∃ b off s ca cc, a = some ⟨b, off, none⟩ ∧ p.steps[k]? = some s ∧
      (wr.cell? ⟨b, off + k * 6, none⟩ = some (.bool s.neg) ∧ wr.cell? ⟨b, off + k * 6 + 1, none⟩ = some (.int .i64 s.kind) ∧ wr.cell? ⟨b, off + k * 6 + 2, none⟩ = some (.int .i64 s.min) ∧
      wr.cell? ⟨b, off + k * 6 + 3, none⟩ = some (.int .i64 s.max) ∧ wr.cell? ⟨b, off + k * 6 + 4, none⟩ = some (.bool s.strict) ∧ wr.cell? ⟨b, off + k * 6 + 5, none⟩ = some (.slice ca s.cmps.length cc)) ∧
      s.cmps.length ≤ cc ∧ s.cmps.length ≤ 9223372036854775807 ∧ CmpsAt wr ca s.cmps := by
    intro wr k hb hk
    obtain ⟨b, off, ca, cc, e, hcells, h1, h2, h3, h4⟩ := (ha.mono hb (Nat.le_refl _)).get k hk
    exact ⟨b, off, p.steps[k], ca, cc, e, List.getElem?_eq_getElem hk, hcells, h1, h2, h4⟩
  obtain ⟨ss, wd⟩ := p
  simp only at *
  obtain ⟨m, hm⟩ : ∃ m, ss.length = m := ⟨_, rfl⟩
  rw [hm] at hlc hlen hyes hr0 key ⊢
  generalize ptB ⟨ss, wd⟩ = res at *
  have C1 := Lib.hid c1; clear c1
  by_cases h0 : 0 < m
  · by_cases h26 : m ≤ 26
    · cases hnw : numB wd
      · have hres := hr0 (fun h => by rw [hnw] at h; cases h.2.2)
        rw [hres]
        rw [hnw] at C1
        clear hr0 hyes hno key hm hnw hw ha hnil
        go_enter Tryd.func35, Tryd.ntmps35
        go_wp2_with fail
        refine (C1.out _).mono ?_
        rintro e w1 ⟨rfl, rfl⟩
        go_wp2_with fail
        go_ret
        exact ⟨rfl, (Below.refl _ _).alloc (Nat.le_refl _) _⟩
      · rw [hnw] at C1
        have HY := Lib.hid (hyes h0 h26 hnw); clear hyes hr0
        have HN := Lib.hid hno; clear hno
        have HK := Lib.hid key; clear key hnw hm hw ha hnil
        have z0 := Holds.fresh w 24 #[.slice a m cap, .int .i64 wd]
        have hX := (Below.refl w.heap.size w).alloc (Nat.le_refl _) (.cells #[.slice a m cap, .int .i64 wd] 24)
        have Z0 := Lib.hid z0; clear z0
        have HX := Lib.hid hX; clear hX
        go_enter Tryd.func35, Tryd.ntmps35
        go_wp2_with fail
        refine (C1.out _).mono ?_
        rintro e w1 ⟨rfl, rfl⟩
        go_wp2_with fail
        generalize w.alloc (.cells #[.slice a m cap, .int .i64 wd] 24) = W0 at *
        go_loopw [3] (fun i wr => ∃ k : Nat, k ≤ m ∧ i = .int .i64 k ∧ Hid (∀ (j : Nat) (s : St), j < k → ss[j]? = some s → stB s = true) ∧ Below W0.heap.size W0 wr) (fun i _ => m - (intOf i).toNat)
        case atStart => exact ⟨0, Nat.zero_le _, rfl, Lib.hid (fun j y h => by omega), Below.refl _ _⟩
        case round =>
          obtain ⟨k, hk, rfl, HP, hb⟩ := hrel
          have hbw := HX.out.trans (hb.mono HX.out.size)
          obtain ⟨q0, q1⟩ : wr.cell? ⟨w.heap.size, 0, none⟩ = some (.slice a m cap) ∧ wr.cell? ⟨w.heap.size, 1, none⟩ = some (.int .i64 wd) := ⟨(Z0.out.later hb).cell 0, (Z0.out.later hb).cell 1⟩
          by_cases hlt : k < m
          · obtain ⟨b, off, s, ca, cc, rfl, hsk, ⟨p0, p1, p2, p3, p4, p5⟩, hcc, hcl, hca⟩ := HK.out wr k hbw hlt
            have hfail := HN.out k s hsk
            have hnext := fun h => upto_next HP.out hsk h
            have hsy := stB_yes (s := s)
            have hsn := fun j c h1 h2 => stB_no (s := s) (j := j) (c := c) h1 h2
            have hs0 : ¬ (numB s.kind = true ∧ numB s.min = true ∧ numB s.max = true) → stB s = false := fun h => by
              cases hp : stB s with
              | false => rfl
              | true =>
                simp only [stB, Bool.and_eq_true] at hp
                exact absurd ⟨hp.1.1.1, hp.1.1.2, hp.1.2⟩ h
            have d1 := fun w => ref8_number s.kind w
            have d2 := fun w => ref8_number s.min w
            have d3 := fun w => ref8_number s.max w
            obtain ⟨neg, kd, mn, mx, st, cs⟩ := s
            simp only at *
            have HX2 : Hid (Below wr.heap.size wr (wr.alloc (.cells #[.bool neg, .int .i64 kd, .int .i64 mn, .int .i64 mx, .bool st, .slice ca cs.length cc] 27))) := Lib.hid ((Below.refl _ _).alloc (Nat.le_refl _) _)
            have Z2 := Lib.hid (Holds.fresh wr 27 #[.bool neg, .int .i64 kd, .int .i64 mn, .int .i64 mx, .bool st, .slice ca cs.length cc])
            obtain ⟨mc, hmc⟩ : ∃ mc, cs.length = mc := ⟨_, rfl⟩
            rw [hmc] at p5 hcc hcl hsy Z2 HX2
            generalize stB ⟨neg, kd, mn, mx, st, cs⟩ = sb at *
            have HF := Lib.hid hfail; clear hfail
            have HNX := Lib.hid hnext; clear hnext
            have HSN := Lib.hid hsn; clear hsn hsk
            cases e1 : numB kd
            · have hsf := HF.out (hs0 (fun h => by rw [e1] at h; cases h.1))
              rw [e1] at d1
              have HR := Lib.hid hsf
              have D1 := Lib.hid d1; clear d1 d2 d3 hs0 hsy hsf e1
              go_wp2_with fail
              refine (D1.out _).mono ?_
              rintro e w1 ⟨rfl, rfl⟩
              go_wp2_with fail
              go_ret
              exact ⟨ret_bool HR.out.symm, hbw.trans (HX2.out.mono hbw.size)⟩
            cases e2 : numB mn
            · have hsf := HF.out (hs0 (fun h => by rw [e2] at h; cases h.2.1))
              rw [e1] at d1
              rw [e2] at d2
              have HR := Lib.hid hsf
              have D1 := Lib.hid d1; clear d1
              have D2 := Lib.hid d2; clear d2 d3 hs0 hsy hsf e1 e2
              go_wp2_with fail
              refine (D1.out _).mono ?_
              rintro e w1 ⟨rfl, rfl⟩
              go_wp2_with fail
              refine (D2.out _).mono ?_
              rintro e w1 ⟨rfl, rfl⟩
              go_wp2_with fail
              go_ret
              exact ⟨ret_bool HR.out.symm, hbw.trans (HX2.out.mono hbw.size)⟩
            rw [e1] at d1
            rw [e2] at d2
            cases e3 : numB mx
            · have hsf := HF.out (hs0 (fun h => by rw [e3] at h; cases h.2.2))
              rw [e3] at d3
              have HR := Lib.hid hsf
              have D1 := Lib.hid d1; clear d1
              have D2 := Lib.hid d2; clear d2
              have D3 := Lib.hid d3; clear d3 hs0 hsy hsf e1 e2 e3
              go_wp2_with fail
              refine (D1.out _).mono ?_
              rintro e w1 ⟨rfl, rfl⟩
              go_wp2_with fail
              refine (D2.out _).mono ?_
              rintro e w1 ⟨rfl, rfl⟩
              go_wp2_with fail
              refine (D3.out _).mono ?_
              rintro e w1 ⟨rfl, rfl⟩
              go_wp2_with fail
              go_ret
              exact ⟨ret_bool HR.out.symm, hbw.trans (HX2.out.mono hbw.size)⟩
            rw [e3] at d3
            have HSY := Lib.hid (hsy e1 e2 e3); clear hsy hs0
            have D1 := Lib.hid d1; clear d1
            have D2 := Lib.hid d2; clear d2
            have D3 := Lib.hid d3; clear d3 e1 e2 e3
            have HMC := Lib.hid hmc; clear hmc
            have HCA := Lib.hid (hca.mono HX2.out (Nat.le_refl _)); clear hca
            have HB2 := Lib.hid (hbw.trans (HX2.out.mono hbw.size))
            have QZ := Lib.hid (((Z0.out.later hb).later HX2.out))
            have HB3 := Lib.hid (hb.trans (HX2.out.mono hb.size))
            go_wp2_with fail
            refine (D1.out _).mono ?_
            rintro e w1 ⟨rfl, rfl⟩
            go_wp2_with fail
            refine (D2.out _).mono ?_
            rintro e w1 ⟨rfl, rfl⟩
            go_wp2_with fail
            refine (D3.out _).mono ?_
            rintro e w1 ⟨rfl, rfl⟩
            go_wp2_with fail
            obtain ⟨Bs, hBs⟩ : ∃ Bs, wr.heap.size = Bs := ⟨_, rfl⟩
            rw [hBs] at Z2 ⊢
            generalize wr.alloc (.cells #[.bool neg, .int .i64 kd, .int .i64 mn, .int .i64 mx, .bool st, .slice ca mc cc] 27) = W2 at *
            clear p0 p1 p2 p3 p4 p5 q0 q1 HX2 hb hbw HK HP hBs D1 D2 D3
            go_loopw [5] (fun i wi => ∃ q : Nat, q ≤ mc ∧ i = .int .i64 q ∧ Hid (∀ (j : Nat) (c : Cm), j < q → cs[j]? = some c → cmB c = true) ∧ Below W2.heap.size W2 wi) (fun i _ => mc - (intOf i).toNat)
            case atStart => exact ⟨0, Nat.zero_le _, rfl, Lib.hid (fun j y h => by omega), Below.refl _ _⟩
            case round =>
              obtain ⟨q, hq, rfl, HQ, hbi⟩ := hrel
              have g5 : wr.cell? ⟨Bs, 5, none⟩ = some (.slice ca mc cc) := (Z2.out.later hbi).cell 5
              have hBw := HB2.out.trans (hbi.mono HB2.out.size)
              by_cases hqlt : q < mc
              · obtain ⟨b2, off2, rfl, r0, r1, r2, r3, r4, r5, r6, r7, r8⟩ := (HCA.out.mono hbi (Nat.le_refl _)).get q (by rw [HMC.out]; exact hqlt)
                have hcq : cs[q]? = some (cs[q]'(by rw [HMC.out]; exact hqlt)) := List.getElem?_eq_getElem _
                generalize (cs[q]'(by rw [HMC.out]; exact hqlt)) = c at *
                have hcn := fun h => upto_next HQ.out hcq h
                have hcf := fun h => HF.out (HSN.out q c hcq h)
                have f1 := fun w => ref8_term c.l w
                have f2 := fun w => ref8_term c.r w
                have hcr : cmB c = (decide (1 ≤ c.op) && decide (c.op < 7) && tmB c.l && tmB c.r) := rfl
                obtain ⟨op, ⟨k1, n1, s1, q1⟩, ⟨k2, n2, s2, q2⟩⟩ := c
                simp only [tmA] at *
                generalize cmB ⟨op, ⟨k1, n1, s1, q1⟩, ⟨k2, n2, s2, q2⟩⟩ = cb at *
                generalize tmB ⟨k1, n1, s1, q1⟩ = t1 at *
                generalize tmB ⟨k2, n2, s2, q2⟩ = t2 at *
                have HCN := Lib.hid hcn; clear hcn hcq
                have HCF := Lib.hid hcf; clear hcf
                have F1 := Lib.hid f1; clear f1
                have F2 := Lib.hid f2; clear f2
                have hB4 := hBw.trans (((Below.refl wr.heap.size wr).alloc (Nat.le_refl _) (.cells #[.int .u8 op, .int .u8 k1, .int .i64 n1, .int .i64 s1, .int .i64 q1, .int .u8 k2, .int .i64 n2, .int .i64 s2, .int .i64 q2] 31)).mono hBw.size)
                have HB4 := Lib.hid hB4; clear hB4
                have hB5 := hbi.trans (((Below.refl wr.heap.size wr).alloc (Nat.le_refl _) (.cells #[.int .u8 op, .int .u8 k1, .int .i64 n1, .int .i64 s1, .int .i64 q1, .int .u8 k2, .int .i64 n2, .int .i64 s2, .int .i64 q2] 31)).mono hbi.size)
                have HB5 := Lib.hid hB5; clear hB5
                clear hbi hBw
                by_cases ho : 1 ≤ op ∧ op < 7
                · obtain ⟨ho1, ho2⟩ := ho
                  have h7 : decide (7 ≤ op) = false := by simp only [decide_eq_false_iff_not]; omega
                  have h1 : decide (op < 1) = false := by simp only [decide_eq_false_iff_not]; omega
                  rw [decide_eq_true ho1, decide_eq_true ho2] at hcr
                  cases t1
                  · have HR := Lib.hid (HCF.out hcr); clear hcr
                    go_wp2_with fail
                    refine (F1.out _).mono ?_
                    rintro e w1 ⟨rfl, hb1⟩
                    go_wp2_with fail
                    go_ret
                    exact ⟨ret_bool HR.out.symm, HB4.out.trans (hb1.mono HB4.out.size)⟩
                  · cases t2
                    · have HR := Lib.hid (HCF.out hcr); clear hcr
                      go_wp2_with fail
                      refine (F1.out _).mono ?_
                      rintro e w1 ⟨rfl, hb1⟩
                      obtain ⟨hc, hf⟩ := bcell hb1
                      go_wp2_with fail
                      refine (F2.out _).mono ?_
                      rintro e w2 ⟨rfl, hb2⟩
                      go_wp2_with fail
                      go_ret
                      exact ⟨ret_bool HR.out.symm, HB4.out.trans ((hb1.trans (hb2.mono hb1.size)).mono HB4.out.size)⟩
                    · have HR := Lib.hid hcr; clear hcr
                      go_wp2_with fail
                      refine (F1.out _).mono ?_
                      rintro e w1 ⟨rfl, hb1⟩
                      obtain ⟨hc, hf⟩ := bcell hb1
                      go_wp2_with fail
                      refine (F2.out _).mono ?_
                      rintro e w2 ⟨rfl, hb2⟩
                      go_wp2_with fail
                      go_roundw
                      case rel => exact ⟨q + 1, by omega, by go_num, Lib.hid (HCN.out HR.out), HB5.out.trans ((hb1.trans (hb2.mono hb1.size)).mono HB5.out.size)⟩
                      case measure => simp [intOf]; omega
                · have hcf : cb = false := by
                    rw [hcr]
                    by_cases h1 : 1 ≤ op
                    · rw [decide_eq_false (show ¬ op < 7 by omega)]; simp
                    · rw [decide_eq_false h1]; simp
                  have HR := Lib.hid (HCF.out hcf); clear hcr hcf
                  go_wp2_with fail
                  all_goals first
                    | (exfalso; omega)
                    | (go_ret; exact ⟨ret_bool HR.out.symm, HB4.out⟩)
              · obtain rfl : q = mc := by omega
                have hst := HNX.out (HSY.out HQ.out)
                have HST := Lib.hid hst; clear hst
                go_wp2_with fail
                go_roundw
                case rel => exact ⟨k + 1, by omega, by go_num, Lib.hid HST.out, HB3.out.trans (hbi.mono HB3.out.size)⟩
                case measure => simp [intOf]; omega
          · obtain rfl : k = m := by omega
            go_wp2_with fail
            go_ret
            exact ⟨ret_bool (HY.out HP.out).symm, hbw⟩
    · have hres := hr0 (fun h => h26 h.2.1)
      rw [hres]
      clear hr0 hyes hno key hm hw ha hnil
      go_enter Tryd.func35, Tryd.ntmps35
      go_wp2_with fail
      go_ret
      exact ⟨rfl, (Below.refl _ _).alloc (Nat.le_refl _) _⟩
  · have hres := hr0 (fun h => h0 h.1)
    obtain rfl : m = 0 := by omega
    rw [hres]
    clear hr0 hyes hno key hm hw ha hnil
    go_enter Tryd.func35, Tryd.ntmps35
    go_wp2_with fail
    go_ret
    exact ⟨rfl, (Below.refl _ _).alloc (Nat.le_refl _) _⟩

theorem great_yes {p : Pt} {j : Nat} {s : St} (hj : p.steps[j]? = some s) (hj40 : j ≤ 40) (h : 20 < s.cmps.length) : greatB p = true := by
  unfold greatB
  rw [Bool.or_eq_true]
  left
  rw [List.any_eq_true]
  refine ⟨s, ?_, by simpa using h⟩
  have : (p.steps.take 41)[j]? = some s := by rw [List.getElem?_take, if_pos (by omega)]; exact hj
  exact List.mem_of_getElem? this
theorem great_no {p : Pt} (k : Nat) (hk : k = p.steps.length ∨ k = 41) (h : ∀ (j : Nat) (s : St), j < k → p.steps[j]? = some s → decide (s.cmps.length ≤ 20) = true) : greatB p = decide (40 < p.steps.length) := by
  unfold greatB
  have : (p.steps.take 41).any (fun s => decide (20 < s.cmps.length)) = false := by
    rw [List.any_eq_false]
    intro s hs
    obtain ⟨j, hj, rfl⟩ := List.getElem_of_mem hs
    rw [List.length_take] at hj
    have := h j _ (by omega) (List.getElem?_eq_getElem (by omega))
    rw [List.getElem_take]
    simp only [decide_eq_true_eq] at this ⊢
    omega
  rw [this, Bool.false_or]

set_option maxRecDepth 100000 in
set_option maxHeartbeats 1000000 in
theorem ref8_Great (p : Pt) (v : Value) (w : World) (hv : PatV w v p) : Calls Tryd.prog 21 #[v] w fun e w' => e = .returned (.bool (greatB p)) ∧ Below w.heap.size w w' := by
  obtain ⟨u, rfl, a, cap, rfl, hlc, hlen, hnil, ha⟩ := hv
  have hyes := fun j s h1 h2 h3 => great_yes (p := p) (j := j) (s := s) h1 h2 h3
  have hno := great_no (p := p)
  have key : ∀ (k : Nat), k < p.steps.length → ∃ b off s ca cc, a = some ⟨b, off, none⟩ ∧ p.steps[k]? = some s ∧ s.cmps.length ≤ 9223372036854775807 ∧ b < w.heap.size ∧ w.cell? ⟨b, off + k * 6 + 5, none⟩ = some (.slice ca s.cmps.length cc) := by
    intro k hk
    obtain ⟨b, off, ca, cc, e, hcells, h1, h2, h3, h4⟩ := ha.get k hk
    exact ⟨b, off, p.steps[k], ca, cc, e, List.getElem?_eq_getElem hk, h2, cell_lt hcells.1, hcells.2.2.2.2.2⟩
  obtain ⟨ss, wd⟩ := p
  simp only at *
  obtain ⟨m, hm⟩ : ∃ m, ss.length = m := ⟨_, rfl⟩
  rw [hm] at hlc hlen hno key ⊢
  generalize greatB ⟨ss, wd⟩ = res at *
  have HY := Lib.hid hyes; clear hyes
  have HN := Lib.hid hno; clear hno
  have HK := Lib.hid key; clear key hm ha hnil
  go_enter Tryd.func21, Tryd.ntmps21
  go_wp2_with fail
  go_loop [3] (fun i => ∃ k : Nat, k ≤ m ∧ k ≤ 41 ∧ i = .int .i64 k ∧ Hid (∀ (j : Nat) (s : St), j < k → ss[j]? = some s → decide (s.cmps.length ≤ 20) = true)) (fun i => 42 - (intOf i).toNat)
  case atStart => exact ⟨0, Nat.zero_le _, by omega, rfl, Lib.hid (fun j y h => by omega)⟩
  case round =>
    obtain ⟨k, hk, hk41, rfl, HP⟩ := hrel
    by_cases hlt : k < m
    · by_cases h40 : k ≤ 40
      · obtain ⟨b, off, s, ca, cc, rfl, hsk, hcl, hbl, hcell⟩ := HK.out k hlt
        have hnx := fun h => upto_next (p := fun s : St => decide (s.cmps.length ≤ 20)) HP.out hsk h
        have hyy := HY.out k s hsk h40
        generalize s.cmps.length = x at *
        have HX := Lib.hid hnx; clear hnx hsk
        have HYY := Lib.hid hyy; clear hyy
        by_cases hx : x ≤ 20
        · have h20 := HX.out (by simpa using hx)
          have H20 := Lib.hid h20; clear h20
          go_wp2_with fail
          go_round
          case rel => exact ⟨k + 1, by omega, by omega, by go_num, Lib.hid H20.out⟩
          case measure => simp [intOf]; omega
        · go_wp2_with fail
          go_ret
          exact ⟨ret_bool (HYY.out (by omega)).symm, (Below.refl _ _).alloc (Nat.le_refl _) _⟩
      · obtain rfl : k = 41 := by omega
        go_wp2_with fail
        go_ret
        refine ⟨?_, (Below.refl _ _).alloc (Nat.le_refl _) _⟩
        rw [HN.out 41 (.inr rfl) HP.out]
        refine ret_bool ?_
        simp; omega
    · obtain rfl : k = m := by omega
      go_wp2_with fail
      go_ret
      refine ⟨?_, (Below.refl _ _).alloc (Nat.le_refl _) _⟩
      rw [HN.out k (.inl rfl) HP.out]
      refine ret_bool ?_
      first | rfl | (simp; done) | (simp; omega)
end Go.Proofs.YtafgincpoahefaaDoor
