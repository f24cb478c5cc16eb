/-
  print: Step.
-/
import Derived.Test.YtafgincpoahefaaDoorPr9b
import Derived.Deep.RegionHeld3
import Derived.Deep.DeepCutAuto
namespace Go.Proofs.YtafgincpoahefaaDoor
open Go.RowKit

theorem Bld.grown_row {B b : Nat} {l : List UInt8} {w w' : World} {n₀ : Nat} {E : TypeId} {size n : Nat} {v : Value} {xs : List Value} (h : Bld B b l w) (hr : w.ownsRow n₀ E size v n xs) (h1 : E ≠ 5) (h2 : E ≠ 77) (hg : w.grownBy w' v.ownBlock) : Bld B b l w' := by
  have hrow : ∀ r, v.ownBlock = some r → ∃ cur, w.heap[r]? = some (.cells cur E (0, 0)) := fun r e => by
    rcases hr.2 with ⟨rfl, _⟩ | ⟨g, cap, cur, rfl, _, hgb, _⟩
    · simp [Value.ownBlock] at e
    · obtain rfl : g = r := by simpa [Value.ownBlock] using e
      exact ⟨_, hgb⟩
  have key : ∀ p, Lib.BuilderAtF 77 5 B b p (Lib.byteCells l) w → Lib.BuilderAtF 77 5 B b p (Lib.byteCells l) w' := by
    rintro p ⟨k1, u, k2, k3, k4⟩
    refine ⟨k1, u, ?_, ?_, k4⟩
    · refine (hg.block b (Array.getElem?_eq_some_iff.1 k2).1 fun e => ?_).trans k2
      obtain ⟨cur, ho⟩ := hrow b e.symm
      rw [k2] at ho; cases ho; exact h2 rfl
    · refine k3.kept hg ?_
      cases hv : u.ownBlock with
      | none => exact .inl rfl
      | some g =>
        refine .inr fun e => ?_
        obtain ⟨cur, ho⟩ := hrow g e.symm
        rcases k3.2 with ⟨rfl, _⟩ | ⟨g', cap, cur', fz, rfl, _, hgb, _⟩
        · simp [Value.ownBlock] at hv
        · obtain rfl : g' = g := by simpa [Value.ownBlock] using hv
          rw [hgb] at ho; cases ho; exact h1 rfl
  exact h.elim (fun x => .inl (key _ x)) (fun x => .inr (key _ x))

theorem row_later {w w' : World} {base : Nat} {e : TypeId} {size : Nat} {v : Value} {n : Nat} {xs : List Value} (h : w.ownsRow base e size v n xs) (hb : Below w.heap.size w w') : w'.ownsRow base e size v n xs :=
  h.kept (grown_of_below hb) (by cases v.ownBlock <;> simp)
/-- where a step's text is being put together -/
structure SI (w : World) (b B : Nat) (cs : Array Value) (l : List UInt8) (wc : World) : Prop where
  bld : Bld B B l wc
  step : Holds wc b 27 cs
  below : Below w.heap.size w wc
theorem SI.write {w : World} {b B : Nat} {cs : Array Value} {l l' : List UInt8} {wc w' : World} (h : SI w b B cs l wc) (hb : b < B) (hB : w.heap.size ≤ B) (h1 : Bld B B l' w') (h2 : Below B wc w') : SI w b B cs l' w' :=
  ⟨h1, h.step.below h2 hb, h.below.trans (h2.mono hB)⟩
theorem SI.later {w : World} {b B : Nat} {cs : Array Value} {l : List UInt8} {wc w' : World} (h : SI w b B cs l wc) (hb : Below wc.heap.size wc w') : SI w b B cs l w' :=
  ⟨h.bld.later hb, h.step.later hb, h.below.trans (hb.mono h.below.size)⟩
theorem SI.size {w : World} {b B : Nat} {cs : Array Value} {l : List UInt8} {wc : World} (h : SI w b B cs l wc) : B < wc.heap.size := by
  rcases h.bld with ⟨_, v, h2, _⟩ | ⟨_, v, h2, _⟩ <;> exact (Array.getElem?_eq_some_iff.1 h2).1
theorem SI.row {w : World} {b B : Nat} {cs : Array Value} {l : List UInt8} {W W' : World} {n : Nat} {v : Value} {xs : List Value} (h : SI w b B cs l W) (hb : b < B) (hB : w.heap.size ≤ B) (hr : W.ownsRow (B + 1) 9 1 v n xs) (hg : W.grownBy W' v.ownBlock) : SI w b B cs l W' := by
  have hlt : ∀ r, v.ownBlock = some r → B + 1 ≤ r := fun r e => (hr.lt r e).1
  refine ⟨h.bld.grown_row hr (by decide) (by decide) hg, h.step.grown hg (fun e => ?_), h.below.grown hg h.below.size (fun r e => by have := hlt r e; omega)⟩
  have := hlt b e.symm
  omega
theorem b_WriteStr (B b : Nat) (l r : List UInt8) (A : ByteArray) (hA : A = ⟨r.toArray⟩) (w : World) (h : Bld B b l w) (hl : l.length + r.length ≤ 100000) (hB : B ≤ w.heap.size) :
    Calls Tryd.prog 61 #[.pointer (some ⟨b, 0, none⟩), .string A] w fun e w' => e = .returned (.tuple #[.int .i64 r.length, .nilIface]) ∧ Bld B b (l ++ r) w' ∧ Below B w w' ∧ Lib.OthersKept 5 (some b) w w' := by
  subst hA; exact b_WriteString B b l r w h hl hB
theorem SI.put {w : World} {b B : Nat} {cs : Array Value} {l : List UInt8} (r : List UInt8) (A : ByteArray) (hA : A = ⟨r.toArray⟩) (hb : b < B) (hB : w.heap.size ≤ B) (hl : l.length + r.length ≤ 100000) (W : World) (h : SI w b B cs l W) :
    Calls Tryd.prog 61 #[.pointer (some ⟨B, 0, none⟩), .string A] W fun e w' => e = .returned (.tuple #[.int .i64 r.length, .nilIface]) ∧ SI w b B cs (l ++ r) w' := by
  refine (b_WriteStr B B l r A hA W h.bld hl (Nat.le_of_lt h.size)).mono ?_
  rintro e w' ⟨rfl, h1, h2, _⟩
  exact ⟨rfl, h.write hb hB h1 h2⟩
theorem SI.num {w : World} {b B : Nat} {cs : Array Value} {l : List UInt8} (n : Int) (hn : bnd n) (A : ByteArray) (hA : sV (Lib.itoa n) = .string A) (hG : GP w) (W : World) (h : SI w b B cs l W) :
    Calls Tryd.prog 45 #[.int .i64 n] W fun e w' => e = .returned (.string A) ∧ SI w b B cs l w' := by
  refine (num_TextP n hn W (hG.mono h.below)).mono ?_
  rintro e w' ⟨rfl, hb⟩
  exact ⟨by rw [hA], h.later hb⟩
def timesB (mn mx : Int) : Bool := (mn != 1) || (mx != 1)
theorem timesT_no {mn mx : Int} (h : timesB mn mx = false) : timesT mn mx = [] := by
  simp only [timesB, Bool.or_eq_false_iff, bne_eq_false_iff_eq] at h
  unfold timesT; rw [if_pos h]
theorem timesT_yes {mn mx : Int} (h : timesB mn mx = true) : timesT mn mx = [123] ++ Lib.itoa mn ++ [44] ++ Lib.itoa mx ++ [125] := by
  simp only [timesB, Bool.or_eq_true, bne_iff_ne, ne_eq] at h
  unfold timesT; rw [if_neg (by omega)]; simp
theorem joinB_len (b : UInt8) (n : Nat) : ∀ (l : List (List UInt8)), (∀ w ∈ l, w.length ≤ n) → (joinB b l).length ≤ l.length * (n + 1)
  | [], _ => by simp [joinB]
  | [w], h => by have := h w (by simp); simp [joinB]; omega
  | w :: v :: ws, h => by
    have h1 := h w (by simp)
    have h2 := joinB_len b n (v :: ws) (fun x hx => h x (by simp [hx]))
    simp only [joinB, List.length_append, List.length_cons] at h2 ⊢
    rw [Nat.add_mul, Nat.one_mul]
    omega
theorem join_cmps (cs : List Cm) (h : ∀ c ∈ cs, cmWf c) (hn : cs.length ≤ 20) : (joinB 38 (cs.map cmpT)).length ≤ 1260 := by
  have := joinB_len 38 62 (cs.map cmpT) (fun w hw => by
    obtain ⟨c, hc, rfl⟩ := List.mem_map.1 hw
    exact cmpT_len c (h c hc))
  rw [List.length_map] at this
  omega
theorem cmps_join (cs : List Cm) (hcs : ∀ c ∈ cs, cmWf c) (hn : cs.length ≤ 20) (B m : Nat) (hm : cs.length = m) (hm0 : 0 < m) (v : Value) (w : World) (h : w.ownsRow B 9 1 v m (cs.map fun c => sV (cmpT c))) :
    Calls Tryd.prog 65 #[v, .string ⟨#[38]⟩] w fun e w' => e = .returned (sV (joinB 38 (cs.map cmpT))) ∧ Below w.heap.size w w' := by
  rcases h.2 with ⟨_, h1⟩ | ⟨g, cap, cur, rfl, h1, h2, h3, h4, h5, h6⟩
  · omega
  · have key := Tryd.strings_Join g 0 cap (cs.map fun c => (⟨(cmpT c).toArray⟩ : ByteArray)) ⟨#[38]⟩ w (fun j x hx => by
      rw [List.getElem?_map] at hx
      obtain ⟨c, hc, rfl⟩ := Option.map_eq_some_iff.1 hx
      have hj := (List.getElem?_eq_some_iff.1 hc).1
      rw [Nat.zero_add, h.cellAt j (by omega), List.getElem?_map, hc]; rfl) (Array.getElem?_eq_some_iff.1 h2).1 (by simp; omega) (by simp; omega) (by
        have := join_cmps cs hcs hn
        rw [joinB_lib] at this
        simp only [List.map_map] at *
        exact Nat.le_trans this (by omega))
    rw [List.length_map, hm] at key
    refine key.mono ?_
    rintro e w' ⟨rfl, hb⟩
    refine ⟨?_, hb⟩
    rw [joinB_lib]
    simp only [List.map_map]
    rfl
theorem stepT_no {s : St} {i : Int} (h : ¬ (stB s = true ∧ 0 ≤ i ∧ i < 26)) : stepT s i = [] := by unfold stepT; rw [if_neg h]
theorem stepT_yes {s : St} {i : Int} (h : stB s = true) (h0 : 0 ≤ i) (h1 : i < 26) : stepT s i = stepT0 s i := by unfold stepT; rw [if_pos ⟨h, h0, h1⟩]
theorem letterT_ne {i : Int} (h0 : 0 ≤ i) (h1 : i < 26) : letterT i ≠ [] := by unfold letterT; rw [if_pos ⟨h0, h1⟩]; simp
theorem letterT_no {i : Int} (h : ¬ (0 ≤ i ∧ i < 26)) : letterT i = [] := by unfold letterT; rw [if_neg h]

set_option maxRecDepth 100000 in
set_option maxHeartbeats 2000000 in
theorem print_Step_no (s : St) (i : Int) (hw : stWf s) (h : ¬ (stB s = true ∧ 0 ≤ i ∧ i < 26)) (v : Value) (w : World) (hv : CmpsV w v s.cmps) :
    Calls Tryd.prog 25 #[stA s v, .int .i64 i] w fun e w' => e = .returned (sV []) ∧ Below w.heap.size w w' := by
  have cm := print_may s hw v (w.alloc (.cells (stV s v).toArray 27)) (hv.mono ((Below.refl _ _).alloc (Nat.le_refl _) _) (Nat.le_refl _))
  have cl := fun W => print_Letter i W
  have hl : stB s = true → letterT i = [] := fun e => letterT_no (fun g => h ⟨e, g⟩)
  generalize stB s = r at *
  obtain ⟨neg, kd, mn, mx, st, cs⟩ := s
  simp only [stA, stV] at *
  clear hv hw h
  have CM := Lib.hid cm; clear cm
  cases r
  · clear cl hl
    go_enter Tryd.func25, Tryd.ntmps25
    go_wp2_with fail
    refine CM.out.mono ?_
    rintro e w1 ⟨rfl, hb1⟩
    go_wp2_with fail
    go_ret
    exact ⟨rfl, ((Below.refl _ _).alloc (Nat.le_refl _) _).trans (hb1.mono (by simp))⟩
  · rw [hl rfl] at cl
    replace cl : ∀ W, Calls Tryd.prog 33 #[.int .i64 i] W fun e w' => e = .returned (.string ⟨#[]⟩) ∧ W = w' := cl
    have CL := Lib.hid cl; clear cl hl
    go_enter Tryd.func25, Tryd.ntmps25
    go_wp2_with fail
    refine CM.out.mono ?_
    rintro e w1 ⟨rfl, hb1⟩
    go_wp2_with fail
    refine (CL.out _).mono ?_
    rintro e w2 ⟨rfl, rfl⟩
    go_wp2_with fail
    go_ret
    exact ⟨rfl, ((Below.refl _ _).alloc (Nat.le_refl _) _).trans (hb1.mono (by simp))⟩

/-- with the sign ahead; with the kind and the letter; with how often -/
def step1 (neg : Bool) : List UInt8 := if neg = true then [33] else []
def step2 (neg : Bool) (kd i : Int) : List UInt8 := step1 neg ++ (Lib.itoa kd ++ letterT i)
def step3 (neg : Bool) (kd mn mx i : Int) : List UInt8 := step2 neg kd i ++ timesT mn mx
theorem step3_text (s : St) (i : Int) : step3 s.neg s.kind s.min s.max i ++ cmpsT s.cmps = stepT0 s i := by
  unfold step3 step2 step1 stepT0; simp
theorem step3_len (neg : Bool) (kd mn mx i : Int) (h1 : bnd kd) (h2 : bnd mn) (h3 : bnd mx) : (step1 neg).length ≤ 1 ∧ (step2 neg kd i).length ≤ 30 ∧ (step3 neg kd mn mx i).length ≤ 100 := by
  have a1 := itoa_len kd h1
  have a2 := itoa_len mn h2
  have a3 := itoa_len mx h3
  have a4 := letterT_len i
  have a0 : (step1 neg).length ≤ 1 := by unfold step1; split <;> simp
  have a5 : (timesT mn mx).length ≤ 50 := by
    unfold timesT; split
    · simp
    · simp only [List.length_append, List.length_cons, List.length_nil]; omega
  refine ⟨a0, ?_, ?_⟩
  · unfold step2; simp only [List.length_append]; omega
  · unfold step3 step2; simp only [List.length_append]; omega

set_option maxRecDepth 100000 in
set_option maxHeartbeats 4000000 in
theorem print_Step_yes (s : St) (i : Int) (hw : stWf s) (hb : stB s = true) (h0 : 0 ≤ i) (h1 : i < 26) (hn : s.cmps.length ≤ 20) (v : Value) (w : World) (hv : CmpsV w v s.cmps) (hG : GP w) :
    Calls Tryd.prog 25 #[stA s v, .int .i64 i] w fun e w' => e = .returned (sV (stepT0 s i)) ∧ Below w.heap.size w w' := by
  have cm := print_may s hw v (w.alloc (.cells (stV s v).toArray 27)) (hv.mono ((Below.refl _ _).alloc (Nat.le_refl _) _) (Nat.le_refl _))
  rw [hb] at cm
  obtain ⟨Lt, eL, sL, rL⟩ := sV_gen (letterT i) 1 (letterT_len i)
  have cl := fun W => print_Letter i W
  rw [eL] at cl
  obtain ⟨hL1, hL2⟩ := str_ne (letterT_ne h0 h1)
  rw [← rL] at hL1 hL2
  have htx := step3_text s i
  obtain ⟨ln1, ln2, ln3⟩ := step3_len s.neg s.kind s.min s.max i hw.1 hw.2.1 hw.2.2.1
  have ck := fun W hG => num_TextP s.kind hw.1 W hG
  obtain ⟨K, eK, sK, rK⟩ := sV_gen (Lib.itoa s.kind) 21 (itoa_len _ hw.1)
  rw [eK] at ck
  obtain ⟨ca, cc, rfl, hlc, hlen, hnil, hca⟩ := hv
  have hcw := hw.2.2.2
  have z0 := Holds.fresh w 27 (stV s (.slice ca s.cmps.length cc)).toArray
  obtain ⟨neg, kd, mn, mx, st, cs⟩ := s
  simp only [stA, stV] at *
  generalize stepT0 ⟨neg, kd, mn, mx, st, cs⟩ i = TX at *
  obtain ⟨m, hm⟩ : ∃ m, cs.length = m := ⟨_, rfl⟩
  rw [hm] at cm hn hlc hlen z0 ⊢
  have CM := Lib.hid cm; clear cm
  have CL := Lib.hid cl; clear cl
  have CK := Lib.hid ck; clear ck
  have Z0 := Lib.hid z0; clear z0
  have HTX := Lib.hid htx; clear htx
  have RL := Lib.hid rL; clear rL
  have RK := Lib.hid rK; clear rK
  have HM := Lib.hid hm; clear hm
  have HCA := Lib.hid hca; clear hca
  have HCW := Lib.hid hcw; clear hcw
  have HW := Lib.hid hw; clear hw
  clear eL eK hb
  go_enter Tryd.func25, Tryd.ntmps25
  go_wp2_with fail
  refine CM.out.mono ?_
  rintro e w1 ⟨rfl, hb1⟩
  have hh := Z0.out.later hb1
  have hlt := hh.size
  have HB := Lib.hid (((Below.refl w.heap.size w).alloc (Nat.le_refl _) (.cells #[.bool neg, .int .i64 kd, .int .i64 mn, .int .i64 mx, .bool st, .slice ca m cc] 27)).trans (hb1.mono (by simp)))
  clear hb1
  go_wp2_with fail
  refine (CL.out _).mono ?_
  rintro e w2 ⟨rfl, rfl⟩
  have HH := Lib.hid hh
  have hBs := HB.out.size
  have si0 : SI w w.heap.size w1.heap.size #[.bool neg, .int .i64 kd, .int .i64 mn, .int .i64 mx, .bool st, .slice ca m cc] [] (w1.alloc (.cells #[.pointer none, .slice none 0 0] 77)) :=
    ⟨Bld.fresh (Nat.le_refl _), HH.out.alloc _, HB.out.alloc hBs _⟩
  have SI0 := Lib.hid si0; clear si0
  obtain ⟨B, hB⟩ : ∃ B, w1.heap.size = B := ⟨_, rfl⟩
  rw [hB] at SI0 hlt hBs
  have c0 : w1.cell? ⟨w.heap.size, 0, none⟩ = some (.bool neg) := HH.out.cell 0
  clear hh
  go_upto_if 18 with (fail)
  go_cut [] (fun wc => SI w w.heap.size B #[.bool neg, .int .i64 kd, .int .i64 mn, .int .i64 mx, .bool st, .slice ca m cc] (step1 neg) wc)
  case first =>
    cases neg
    · go_wp2_with fail
      go_meet
      exact SI0.out
    · have cw := b_WriteByte B B [] 33 _ SI0.out.bld (by simp) (Nat.le_of_lt SI0.out.size)
      have CW := Lib.hid cw; clear cw
      go_wp2_with fail
      refine CW.out.mono ?_
      rintro e w3 ⟨rfl, q1, q2, q3⟩
      go_wp2_with fail
      go_meet
      exact SI0.out.write hlt hBs q1 q2
  case rest =>
    clear c0 SI0
    have hc1 : wc.cell? ⟨w.heap.size, 1, none⟩ = some (.int .i64 kd) := hcut.step.cell 1
    have ck := CK.out wc (hG.mono hcut.below)
    have CKW := Lib.hid ck; clear ck
    have SI1 := Lib.hid hcut; clear hcut
    go_wp2_with fail
    refine CKW.out.mono ?_
    rintro e w3 ⟨rfl, hb3⟩
    have si2 := SI1.out.later hb3
    have cw := si2.put (Lib.itoa kd ++ letterT i) (K ++ Lt) (by rw [RK.out, RL.out, ba_app]) hlt hBs (by simp only [List.length_append]; have := letterT_len i; have := itoa_len kd HW.out.1; omega)
    have CW := Lib.hid cw; clear cw si2
    go_wp2_with fail
    refine (CL.out _).mono ?_
    rintro e w4 ⟨rfl, rfl⟩
    go_wp2_with fail
    refine CW.out.mono ?_
    rintro e w4 ⟨rfl, si3⟩
    have c2 : w4.cell? ⟨w.heap.size, 2, none⟩ = some (.int .i64 mn) := si3.step.cell 2
    have c3 : w4.cell? ⟨w.heap.size, 3, none⟩ = some (.int .i64 mx) := si3.step.cell 3
    have SI3 : Hid (SI w w.heap.size B #[.bool neg, .int .i64 kd, .int .i64 mn, .int .i64 mx, .bool st, .slice ca m cc] (step2 neg kd i) w4) := Lib.hid si3
    clear si3 hb3 SI1 CKW
    go_upto_region 7 with (fail)
    go_cut [34] (fun s34 wc => s34 = .bool (timesB mn mx) ∧ w4 = wc)
    case first =>
      clear CM CL CK HTX HCA HCW
      by_cases e1 : mn = 1
      · subst e1
        by_cases e2 : mx = 1
        · subst e2
          go_wp2_with fail
          go_meet
          exact ⟨rfl, rfl⟩
        · have t2 : (mx != 1) = true := by simpa using e2
          go_wp2_with fail
          go_meet
          exact ⟨by unfold timesB; rw [t2]; rfl, rfl⟩
      · have t1 : (mn != 1) = true := by simpa using e1
        go_wp2_with fail
        go_meet
        exact ⟨by unfold timesB; rw [t1]; rfl, rfl⟩
    case rest =>
      obtain ⟨hs34, rfl⟩ := hcut
      subst hs34
      go_upto_if 34 with (fail)
      go_cut [] (fun wc => SI w w.heap.size B #[.bool neg, .int .i64 kd, .int .i64 mn, .int .i64 mx, .bool st, .slice ca m cc] (step3 neg kd mn mx i) wc)
      case first =>
        cases ht : timesB mn mx
        · have e3 : step3 neg kd mn mx i = step2 neg kd i := by unfold step3; rw [timesT_no ht]; simp
          have E3 := Lib.hid e3
          clear e3 ht
          go_wp2_with fail
          go_meet
          rw [E3.out]
          exact SI3.out
        · have e3 : step3 neg kd mn mx i = step2 neg kd i ++ ([123] ++ Lib.itoa mn ++ [44] ++ Lib.itoa mx ++ [125]) := by unfold step3; rw [timesT_yes ht]
          have E3 := Lib.hid e3
          obtain ⟨M, eM, sM, rM⟩ := sV_gen (Lib.itoa mn) 21 (itoa_len _ HW.out.2.1)
          obtain ⟨X, eX, sX, rX⟩ := sV_gen (Lib.itoa mx) 21 (itoa_len _ HW.out.2.2.1)
          have cn := fun W h => SI.num (w := w) (b := w.heap.size) (B := B) (cs := #[.bool neg, .int .i64 kd, .int .i64 mn, .int .i64 mx, .bool st, .slice ca m cc]) (l := step2 neg kd i) mn HW.out.2.1 M eM hG W h
          have cx := fun W h => SI.num (w := w) (b := w.heap.size) (B := B) (cs := #[.bool neg, .int .i64 kd, .int .i64 mn, .int .i64 mx, .bool st, .slice ca m cc]) (l := step2 neg kd i) mx HW.out.2.2.1 X eX hG W h
          have cp := fun W h => SI.put (w := w) (b := w.heap.size) (B := B) (cs := #[.bool neg, .int .i64 kd, .int .i64 mn, .int .i64 mx, .bool st, .slice ca m cc]) (l := step2 neg kd i) ([123] ++ Lib.itoa mn ++ [44] ++ Lib.itoa mx ++ [125]) (⟨#[123]⟩ ++ M ++ ⟨#[44]⟩ ++ X ++ ⟨#[125]⟩)
            (by rw [rM, rX, show (⟨#[123]⟩ : ByteArray) = ⟨([123] : List UInt8).toArray⟩ from rfl, show (⟨#[44]⟩ : ByteArray) = ⟨([44] : List UInt8).toArray⟩ from rfl, show (⟨#[125]⟩ : ByteArray) = ⟨([125] : List UInt8).toArray⟩ from rfl, ba_app, ba_app, ba_app, ba_app]) hlt hBs
            (by have := itoa_len mn HW.out.2.1; have := itoa_len mx HW.out.2.2.1; simp only [List.length_append, List.length_cons, List.length_nil]; omega) W h
          have sid := SI3.out.later (below_drewN w4.heap.size w4 1)
          replace sid : SI w w.heap.size B #[.bool neg, .int .i64 kd, .int .i64 mn, .int .i64 mx, .bool st, .slice ca m cc] (step2 neg kd i) w4.drew := sid
          have g1 : ¬ 9223372036854775807 < 1 + M.size := by omega
          have g2 : ¬ 9223372036854775807 < 1 + M.size + 1 := by omega
          have g3 : ¬ 9223372036854775807 < 1 + M.size + 1 + X.size := by omega
          have g4 : ¬ 9223372036854775807 < 1 + M.size + 1 + X.size + 1 := by omega
          have CN := Lib.hid cn; clear cn
          have CX := Lib.hid cx; clear cx
          have CP := Lib.hid cp; clear cp
          clear e3 eM eX rM rX SI3 ht CM CL CK HTX HCA HCW HB HH
          go_wp2_with fail
          go_region_held3 (fun w' => w'.cell? ⟨w.heap.size, 2, none⟩ = some (.int .i64 mn) ∧ w'.cell? ⟨w.heap.size, 3, none⟩ = some (.int .i64 mx))
            (first | exact ⟨c2, c3⟩ | exact ⟨hsi.step.cell 2, hsi.step.cell 3⟩ | assumption)
            (first
              | (go_at_call 45; (with_reducible refine (CN.out _ (by assumption)).mono ?_); rintro e w1 ⟨rfl, hsi⟩)
              | (go_at_call 45; (with_reducible refine (CX.out _ (by assumption)).mono ?_); rintro e w1 ⟨rfl, hsi⟩)
              | (go_at_call 61; (with_reducible refine (CP.out _ (by assumption)).mono ?_); rintro e w1 ⟨rfl, hsi⟩))
          all_goals
            go_wp2_with fail
            go_meet
            rw [E3.out]
            exact hsi
      case rest =>
        have hc5 : wc.cell? ⟨w.heap.size, 5, none⟩ = some (.slice ca m cc) := hcut.step.cell 5
        have SI4 := Lib.hid hcut
        clear hcut SI3 c2 c3
        obtain ⟨i0, hi, hz0, hz1, hz2⟩ := info_parts (by kernel_rfl : (Tryd.prog.info? 9).map (fun i => (i.zero, i.size, i.bytes)) = some (some (.string ⟨#[]⟩), 1, 16))
        by_cases hm0 : m = 0
        · subst hm0
          have hcs : cs = [] := List.eq_nil_of_length_eq_zero HM.out
          have hfin : step3 neg kd mn mx i = TX := by rw [← HTX.out]; unfold cmpsT; rw [if_pos hcs]; simp
          have HF := Lib.hid hfin
          have cs' := b_String B B _ _ SI4.out.bld (Nat.le_of_lt SI4.out.size)
          have CS := Lib.hid cs'; clear cs' hfin hcs
          go_wp2_with fail
          refine CS.out.mono ?_
          rintro e w5 ⟨rfl, q1, q2, q3⟩
          go_wp2_with fail
          go_ret
          exact ⟨by rw [HF.out]; rfl, SI4.out.below.trans (q2.mono hBs)⟩
        · have hnew : ∀ (wr : World) (q : Nat), Below w.heap.size w wr → q < m → ∃ b off c, ca = some ⟨b, off, none⟩ ∧ cs[q]? = some c ∧ cmWf c ∧
              (wr.cell? ⟨b, off + q * 9, none⟩ = some (.int .u8 c.op) ∧ wr.cell? ⟨b, off + q * 9 + 1, none⟩ = some (.int .u8 c.l.kind) ∧ wr.cell? ⟨b, off + q * 9 + 2, none⟩ = some (.int .i64 c.l.n) ∧
              wr.cell? ⟨b, off + q * 9 + 3, none⟩ = some (.int .i64 c.l.s) ∧ wr.cell? ⟨b, off + q * 9 + 4, none⟩ = some (.int .i64 c.l.r) ∧ wr.cell? ⟨b, off + q * 9 + 5, none⟩ = some (.int .u8 c.r.kind) ∧
              wr.cell? ⟨b, off + q * 9 + 6, none⟩ = some (.int .i64 c.r.n) ∧ wr.cell? ⟨b, off + q * 9 + 7, none⟩ = some (.int .i64 c.r.s) ∧ wr.cell? ⟨b, off + q * 9 + 8, none⟩ = some (.int .i64 c.r.r)) := fun wr q hb hq => by
            have hq' : q < cs.length := by rw [HM.out]; exact hq
            obtain ⟨b, off, e, hc⟩ := (HCA.out.mono hb (Nat.le_refl _)).get q hq'
            exact ⟨b, off, cs[q], e, List.getElem?_eq_getElem hq', HCW.out _ (List.getElem_mem hq'), hc⟩
          have HNEW := Lib.hid hnew; clear hnew
          obtain ⟨L, hLd⟩ : ∃ L, cs.map (fun c => sV (cmpT c)) = L := ⟨_, rfl⟩
          have HLD := Lib.hid hLd
          have hLq : ∀ q c, cs[q]? = some c → L[q]? = some (sV (cmpT c)) := fun q c h => by rw [← hLd, List.getElem?_map, h]; rfl
          have HLQ := Lib.hid hLq; clear hLq hLd
          have hm1 : 0 < m := by omega
          clear CM CL CK
          go_wp2_with fail
          go_loopw [6, 53] (fun v ix wr => ∃ q : Nat, q ≤ m ∧ ix = .int .i64 q ∧ wr.ownsRow (B + 1) 9 1 v q (L.take q) ∧ SI w w.heap.size B #[.bool neg, .int .i64 kd, .int .i64 mn, .int .i64 mx, .bool st, .slice ca m cc] (step3 neg kd mn mx i) wr) (fun _ i _ => m - (intOf i).toNat)
          case atStart => exact ⟨0, Nat.zero_le _, rfl, World.ownsRow_nil _ _ _ _, SI4.out⟩
          case round =>
            obtain ⟨q, hq, rfl, hr, hsi⟩ := hrel
            by_cases hlt2 : q < m
            · obtain ⟨b2, off2, c, rfl, hcq, hcwf, r0, r1, r2, r3, r4, r5, r6, r7, r8⟩ := HNEW.out wr q hsi.below hlt2
              have htk : L.take (q + 1) = L.take q ++ [sV (cmpT c)] := take_snoc_at (HLQ.out q c hcq)
              have si5 := hsi.later ((Below.refl wr.heap.size wr).alloc (Nat.le_refl _) (.cells (cmV c).toArray 31))
              have cc' := print_Cmp c hcwf (wr.alloc (.cells (cmV c).toArray 31)) (hG.mono si5.below)
              have hr5 := hr.alloc (.cells (cmV c).toArray 31)
              obtain ⟨CS, eS, sS, rS⟩ := sV_gen (cmpT c) 62 (cmpT_len c hcwf)
              rw [eS] at htk cc'
              clear eS rS
              obtain ⟨op, ⟨k1, n1, s1, p1⟩, ⟨k2, n2, s2, p2⟩⟩ := c
              simp only [cmA, cmV] at *
              have HTK := Lib.hid htk; clear htk hcq hcwf
              have CC := Lib.hid cc'; clear cc'
              have SI5 := Lib.hid si5; clear si5
              have HR5 := Lib.hid hr5; clear hr5
              have HSI := Lib.hid hsi; clear hsi hr
              go_wp2_with fail
              refine CC.out.mono ?_
              rintro e w6 ⟨rfl, hb6⟩
              have si6 := SI5.out.later hb6
              have hr6 := row_later HR5.out hb6
              have hn6 : B + 1 ≤ (w6.alloc (.cells #[.string CS] 9)).heap.size := by have := si6.size; simp; omega
              go_wp2_with (at_builtin; refine wpList_append_own _ rfl (.tmp 57) (.tmp 60) 87 rfl (B + 1) 9 i0 (.string ⟨#[]⟩) 1 16 Tryd.underlying87 hi hz0 hz1 hz2 rfl (by decide) _ q (L.take q) rfl (hr6.alloc _) ⟨w6.heap.size, 0, none⟩ 1 1 [.string CS] rfl rfl ?c1 ?c2 ?c3 ?c4 hn6 ?_)
              case c1 => exact new_cells w6 [.string CS] 9
              case c2 =>
                intro u hu
                obtain rfl := List.mem_singleton.1 hu
                rfl
              case c3 => unfold maxLen; omega
              case c4 => omega
              intro v' w7 hown' hgrow _
              have si7 := (si6.later ((Below.refl w6.heap.size w6).alloc (Nat.le_refl _) (.cells #[.string CS] 9))).row hlt hBs (hr6.alloc _) hgrow
              rw [← HTK.out] at hown'
              have HO := Lib.hid hown'; clear hown' hgrow si6 hr6 hb6
              have SI7 := Lib.hid si7; clear si7
              go_wp2_with fail
              go_roundw
              case rel => exact ⟨q + 1, by omega, by go_num, HO.out, SI7.out⟩
              case measure => simp [intOf]; omega
            · obtain rfl : q = m := by omega
              have hlen' : L.length = q := by rw [← HLD.out, List.length_map, HM.out]
              rw [List.take_of_length_le (by omega), ← HLD.out] at hr
              have cj := cmps_join cs HCW.out (by rw [HM.out]; exact hn) (B + 1) q HM.out hm1 _ wr hr
              obtain ⟨J, eJ, sJ, rJ⟩ := sV_gen (joinB 38 (cs.map cmpT)) 1260 (join_cmps cs HCW.out (by rw [HM.out]; exact hn))
              rw [eJ] at cj
              have hcs0 : cs ≠ [] := fun e => by have := HM.out; rw [e] at this; simp at this; omega
              have hfin : step3 neg kd mn mx i ++ (91 :: (joinB 38 (cs.map cmpT) ++ [93])) = TX := by rw [← HTX.out]; unfold cmpsT; rw [if_neg hcs0]
              have cp := fun W h => SI.put (w := w) (b := w.heap.size) (B := B) (cs := #[.bool neg, .int .i64 kd, .int .i64 mn, .int .i64 mx, .bool st, .slice ca q cc]) (l := step3 neg kd mn mx i) (91 :: (joinB 38 (cs.map cmpT) ++ [93])) (⟨#[91]⟩ ++ J ++ ⟨#[93]⟩)
                (by rw [rJ, show (⟨#[91]⟩ : ByteArray) = ⟨([91] : List UInt8).toArray⟩ from rfl, show (⟨#[93]⟩ : ByteArray) = ⟨([93] : List UInt8).toArray⟩ from rfl, ba_app, ba_app]; simp) hlt hBs
                (by have := join_cmps cs HCW.out (by rw [HM.out]; exact hn); simp only [List.length_append, List.length_cons, List.length_nil]; omega) W h
              rw [hfin] at cp
              have CJ := Lib.hid cj; clear cj
              have CP := Lib.hid cp; clear cp
              have HSI := Lib.hid hsi; clear hsi hr eJ rJ hfin hcs0 hlen'
              go_wp2_with fail
              refine CJ.out.mono ?_
              rintro e w6 ⟨rfl, hb6⟩
              have si6 := HSI.out.later hb6
              go_wp2_with fail
              refine (CP.out _ si6).mono ?_
              rintro e w7 ⟨rfl, si7⟩
              have cs' := b_String B B _ _ si7.bld (Nat.le_of_lt si7.size)
              have CSt := Lib.hid cs'; clear cs'
              have SI7 := Lib.hid si7; clear si7 si6 hb6
              go_wp2_with fail
              refine CSt.out.mono ?_
              rintro e w8 ⟨rfl, q1, q2, q3⟩
              go_wp2_with fail
              go_ret
              exact ⟨rfl, SI7.out.below.trans (q2.mono hBs)⟩
end Go.Proofs.YtafgincpoahefaaDoor
