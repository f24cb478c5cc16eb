/-
  stragglelaw09.ParseMore where the text is a pattern's of less than 26 steps.
-/
import Derived.Test.YtafgincpoahefaaDoorParL5
import Derived.Laws.Concat
namespace Go.Proofs.YtafgincpoahefaaDoor
open Go.RowKit
attribute [local go_sem] Oper.semAt_some
attribute [local go_sem ↓] Go.wp_at_zero Go.wp_at_succ

theorem more_text2 (s : ByteArray) (c kind N : Nat) (strict neg : Bool) (sp mk tb : ByteArray) (h1 : sp.data.toList = if strict = true then [44] else [59]) (h2 : mk.data.toList = if neg = true then [33] else []) (h3 : tb.data.toList = [UInt8.ofNat (48 + kind), UInt8.ofNat (97 + N)]) :
    (s.extract 0 c ++ sp ++ mk ++ tb ++ ⟨#[32]⟩ ++ s.extract c s.size).data.toList = s.data.toList.take c ++ (moreB strict neg kind N ++ s.data.toList.drop c) := by
  unfold moreB
  rw [← h1, ← h2, show [UInt8.ofNat (48 + kind), UInt8.ofNat (97 + N), 32] = tb.data.toList ++ [32] by rw [h3]; rfl]
  simp [ByteArray.data_append]
  exact List.take_of_length_le (by simp)
set_option maxRecDepth 100000 in
set_option maxHeartbeats 20000000 in
theorem parMore_ok (s : ByteArray) (kind : Nat) (hk : kind ≤ 9) (strict neg : Bool) (hs : s.size ≤ 1000) (ss : List St) (win : Int) (N : Nat) (hN : ss.length = N) (hN26 : N < 26) (hcl : ∀ x ∈ ss, x.cmps.length ≤ 4000) (A : Int) (h1 : parseOf s.data.toList = (⟨ss, win⟩, A, 0))
    (n k c : Nat) (hall : allOf s.data.toList = (toksL s.data.toList, 0, 0)) (hn : (toksL s.data.toList).length = n) (hnk : (n : Int) - 3 = k) (_hn3 : 3 ≤ n) (hn2 : n ≤ 1001) (kd m : Int) (hct : (toksL s.data.toList)[k]? = some ⟨kd, m, c⟩) (hcs : c ≤ s.size)
    (h2 : parseOf (s.data.toList.take c ++ (moreB strict neg kind N ++ s.data.toList.drop c)) = (⟨ss ++ [⟨neg, kind, 1, 1, strict, []⟩], win⟩, 0, 0)) (w : World) (hG : GL w) :
    Calls Tryd.prog 20 #[.string s, .int .i64 kind, .bool strict, .bool neg] w fun e w' => e = .returned (.bool true) ∧ Below w.heap.size w w' := by
  obtain ⟨i1, hj', hy0, hy1', hy2'⟩ := info_parts step_info'
  have cP := parse_open s (by omega) _ _ _ h1 w hG
  have cA := fun w => ref9_All s (by omega) _ 0 0 n hn hall w
  have cW := fun W (hb : Below w.heap.size w W) => wakes09 W (hG.mono hb)
  simp only [hN] at cP
  have CP := Lib.hid cP
  have CA := Lib.hid cA
  have CW := Lib.hid cW
  have HCT := Lib.hid hct
  have H2 := Lib.hid h2
  have HN := Lib.hid hN
  have HCL := Lib.hid hcl
  clear cP cA cW h1 hall hn hct h2 hN hcl
  have e3 : decide ((n : Int) < 3) = false := by simp only [decide_eq_false_iff_not]; omega
  go_enter Tryd.func20, Tryd.ntmps20
  go_wp2_with fail
  refine CP.out.mono ?_
  rintro e w1 ⟨a1, c1, rfl, hv, hb1⟩
  have z1 := Holds.fresh w1 24 #[.slice a1 N c1, .int .i64 win]
  have hB1 := hb1.alloc hb1.size (.cells #[.slice a1 N c1, .int .i64 win] 24)
  have hv1 := hv _ none (World.grownBy_alloc w1 (.cells #[.slice a1 N c1, .int .i64 win] 24) none) (fun j e => nomatch e)
  have Z1 := Lib.hid z1
  have HV1 := Lib.hid hv1
  have HB1 := Lib.hid hB1
  clear z1 hb1 hB1 CP hv hv1
  go_wp2_with fail
  generalize w1.alloc (.cells #[.slice a1 N c1, .int .i64 win] 24) = W1 at *
  generalize w1.heap.size = z at *
  refine (CA.out _).mono ?_
  rintro e w2 ⟨ad, cap, rfl, hcap, ht, hb2⟩
  obtain ⟨b, off, rfl, x0, x1, x2⟩ := ht.place k _ HCT.out
  have z2 := Z1.out.later hb2
  have y0 : w2.cell? ⟨z, 0, none⟩ = some (.slice a1 N c1) := z2.cell 0
  have y1 : w2.cell? ⟨z, 1, none⟩ = some (.int .i64 win) := z2.cell 1
  have HB2 := Lib.hid (HB1.out.trans (hb2.mono HB1.out.size))
  have HV2 := Lib.hid (HV1.out.mono hb2 (Nat.le_refl _))
  have Z2 := Lib.hid z2
  clear ht hb2 HB1 Z1 CA HV1 HCT x0 x1 z2
  go_upto_if 68 with (fail)
  go_cut [16] (fun q wc => ∃ sp : ByteArray, q = .string sp ∧ sp.size ≤ 10 ∧ Hid (sp.data.toList = if strict = true then [44] else [59]) ∧ w2 = wc)
  case first =>
    cases strict
    · go_wp2_with fail
      go_meet
      exact ⟨_, rfl, Nat.le_of_ble_eq_true rfl, Lib.hid rfl, rfl⟩
    · go_wp2_with fail
      go_meet
      exact ⟨_, rfl, Nat.le_of_ble_eq_true rfl, Lib.hid rfl, rfl⟩
  case rest =>
  obtain ⟨sp, rfl, hsp10, HSP, rfl⟩ := hcut
  go_upto_if 69 with (fail)
  go_cut [17] (fun q wc => ∃ mk : ByteArray, q = .string mk ∧ mk.size ≤ 10 ∧ Hid (mk.data.toList = if neg = true then [33] else []) ∧ w2 = wc)
  case first =>
    cases neg
    · go_wp2_with fail
      go_meet
      exact ⟨_, rfl, Nat.le_of_ble_eq_true rfl, Lib.hid rfl, rfl⟩
    · go_wp2_with fail
      go_meet
      exact ⟨_, rfl, Nat.le_of_ble_eq_true rfl, Lib.hid rfl, rfl⟩
  case rest =>
  obtain ⟨mk, rfl, hmk10, HMK, rfl⟩ := hcut
  have k1 : IntKind.i64.wrap (48 + (kind : Int)) = 48 + kind := IntWalk.i64_in _ (by omega)
  have k2 : IntKind.i64.wrap (97 + (N : Int)) = 97 + N := IntWalk.i64_in _ (by omega)
  have k3 : IntKind.u8.wrap (48 + (kind : Int)) = 48 + kind := by rw [wrap_u8]; omega
  have k4 : IntKind.u8.wrap (97 + (N : Int)) = 97 + N := by rw [wrap_u8]; omega
  go_wp2_with fail
  have e1 := run_two ((w2.alloc (.cells #[.int .u8 (48 + (kind : Int)), .int .u8 (97 + (N : Int))] 5)).drew) w2.heap.size _ _ ((Holds.fresh w2 5 #[.int .u8 (48 + (kind : Int)), .int .u8 (97 + (N : Int))]).cell 0) ((Holds.fresh w2 5 #[.int .u8 (48 + (kind : Int)), .int .u8 (97 + (N : Int))]).cell 1)
  have e2 := run_two (((w2.alloc (.cells #[.int .u8 (48 + (kind : Int)), .int .u8 (97 + (N : Int))] 5)).alloc (.cells #[.slice none 0 0, .int .i64 0] 24)).drew) w2.heap.size _ _ (((Holds.fresh w2 5 #[.int .u8 (48 + (kind : Int)), .int .u8 (97 + (N : Int))]).alloc _).cell 0) (((Holds.fresh w2 5 #[.int .u8 (48 + (kind : Int)), .int .u8 (97 + (N : Int))]).alloc _).cell 1)
  have e3' := run_two (((w2.alloc (.cells #[.slice none 0 0, .int .i64 0] 24)).alloc (.cells #[.int .u8 (48 + (kind : Int)), .int .u8 (97 + (N : Int))] 5)).drew) (w2.heap.size + 1) _ _ ((Holds.fresh' (by simp) 5 #[.int .u8 (48 + (kind : Int)), .int .u8 (97 + (N : Int))]).cell 0) ((Holds.fresh' (by simp) 5 #[.int .u8 (48 + (kind : Int)), .int .u8 (97 + (N : Int))]).cell 1)
  obtain ⟨tb, htb⟩ : ∃ tb : ByteArray, (⟨#[UInt8.ofNat (48 + (kind : Int)).toNat, UInt8.ofNat (97 + (N : Int)).toNat]⟩ : ByteArray) = tb := ⟨_, rfl⟩
  rw [htb] at e1 e2 e3'
  have htl : tb.data.toList = [UInt8.ofNat (48 + kind), UInt8.ofNat (97 + N)] := by
    rw [← htb, show (48 + (kind : Int)).toNat = 48 + kind by omega, show (97 + (N : Int)).toNat = 97 + N by omega]
  have htz : tb.size = 2 := by rw [← htb]; rfl
  clear htb
  have hx1 : (s.extract 0 c).size ≤ 1000 := by rw [ByteArray.size_extract]; omega
  have hx2 : (s.extract c s.size).size ≤ 1000 := by rw [ByteArray.size_extract]; omega
  have hA1 : ∀ w, (Op.stringOp .add (s.extract 0 c) sp).run Tryd.prog w = .ok (.string (s.extract 0 c ++ sp)) w := fun w => run_string_add_sum w _ _ (by omega)
  have hA2 : ∀ w, (Op.stringOp .add (s.extract 0 c ++ sp) mk).run Tryd.prog w = .ok (.string (s.extract 0 c ++ sp ++ mk)) w := fun w => run_string_add_sum w _ _ (by simp only [ByteArray.size_append]; omega)
  have hA3 : ∀ w, (Op.stringOp .add (s.extract 0 c ++ sp ++ mk) tb).run Tryd.prog w = .ok (.string (s.extract 0 c ++ sp ++ mk ++ tb)) w := fun w => run_string_add_sum w _ _ (by simp only [ByteArray.size_append]; omega)
  have hA4 : ∀ w, (Op.stringOp .add (s.extract 0 c ++ sp ++ mk ++ tb) ⟨#[32]⟩).run Tryd.prog w = .ok (.string (s.extract 0 c ++ sp ++ mk ++ tb ++ ⟨#[32]⟩)) w := fun w => run_string_add_sum w _ _ (by have : (⟨#[32]⟩ : ByteArray).size = 1 := rfl; simp only [ByteArray.size_append]; omega)
  have hA5 : ∀ w, (Op.stringOp .add (s.extract 0 c ++ sp ++ mk ++ tb ++ ⟨#[32]⟩) (s.extract c s.size)).run Tryd.prog w = .ok (.string (s.extract 0 c ++ sp ++ mk ++ tb ++ ⟨#[32]⟩ ++ s.extract c s.size)) w := fun w => run_string_add_sum w _ _ (by have : (⟨#[32]⟩ : ByteArray).size = 1 := rfl; simp only [ByteArray.size_append]; omega)
  have hcq : ∀ (T : ByteArray) (_ : T.size ≤ 140737488351232) (_ : T.data.toList = s.data.toList.take c ++ (moreB strict neg kind N ++ s.data.toList.drop c)) (W : World) (_ : Below w2.heap.size w2 W), Calls Tryd.prog 54 #[.string T] W fun e w' => ∃ a0 c0, e = .returned (.tuple #[.agg #[.slice a0 (N + 1) c0, .int .i64 win], .int .i64 0, .int .i64 0]) ∧
      (∀ W'' row, w'.grownBy W'' row → (∀ j, row = some j → j < W.heap.size) → StepsV W'' (.slice a0 (N + 1) c0) (ss ++ [⟨neg, kind, 1, 1, strict, []⟩])) ∧ Below W.heap.size W w' := fun T hT hl W hb => by
    have h := parse_open T hT _ _ _ ((congrArg parseOf hl).trans H2.out) W (hG.mono (HB2.out.trans (hb.mono HB2.out.size)))
    simp only [List.length_append, List.length_cons, List.length_nil, HN.out, Nat.zero_add] at h
    exact h
  have hsz := more_size s c hs sp mk tb ⟨#[32]⟩ hsp10 hmk10 (by omega) (Nat.le_of_ble_eq_true rfl)
  have htx := more_text2 s c kind N strict neg sp mk tb HSP.out HMK.out htl
  have q1' := hcq _ hsz htx (w2.alloc (.cells #[.int .u8 (48 + (kind : Int)), .int .u8 (97 + (N : Int))] 5)).drew (((Below.refl _ _).alloc (Nat.le_refl _) _).drew)
  have q2' := hcq _ hsz htx ((w2.alloc (.cells #[.slice none 0 0, .int .i64 0] 24)).alloc (.cells #[.int .u8 (48 + (kind : Int)), .int .u8 (97 + (N : Int))] 5)).drew ((((Below.refl _ _).alloc (Nat.le_refl _) _).alloc (by simp) _).drew)
  have q3' := hcq _ hsz htx ((w2.alloc (.cells #[.int .u8 (48 + (kind : Int)), .int .u8 (97 + (N : Int))] 5)).alloc (.cells #[.slice none 0 0, .int .i64 0] 24)).drew ((((Below.refl _ _).alloc (Nat.le_refl _) _).alloc (by simp) _).drew)
  have Q1 := Lib.hid q1'
  have Q2 := Lib.hid q2'
  have Q3 := Lib.hid q3'
  clear hcq q1' q2' q3' hsz htx htl
  clear x2 y0 y1 hcap hnk _hn3 hn2 e3
  go_cut [19, 20, 21] (fun q t g wc => ∃ (zq : Nat) (a2 : Option Addr) (c2 : Nat), q = .pointer (some ⟨zq, 0, none⟩) ∧ t = .int .i64 0 ∧ g = .int .i64 0 ∧ Holds wc zq 24 #[.slice a2 (N + 1) c2, .int .i64 win] ∧ StepsV wc (.slice a2 (N + 1) c2) (ss ++ [⟨neg, kind, 1, 1, strict, []⟩]) ∧ Below w2.heap.size w2 wc)
  case first =>
    go_wp2_with fail
    go_region_with (first
      | (go_at_call 54; (with_reducible refine Q1.out.mono ?_); rintro e w3 ⟨a2, c2, rfl, hv3, hb5⟩
         have hbw := (((Below.refl w2.heap.size w2).alloc (Nat.le_refl _) (.cells #[.int .u8 (48 + (kind : Int)), .int .u8 (97 + (N : Int))] 5)).drew).trans (hb5.mono (by simp)))
      | (go_at_call 54; (with_reducible refine Q2.out.mono ?_); rintro e w3 ⟨a2, c2, rfl, hv3, hb5⟩
         have hh := (((Holds.fresh w2 24 #[.slice none 0 0, .int .i64 0]).alloc (.cells #[.int .u8 (48 + (kind : Int)), .int .u8 (97 + (N : Int))] 5)).later (below_drewN _ _ 1)).later hb5
         have q0 : w3.cell? ⟨w2.heap.size, 0, none⟩ = some (.slice none 0 0) := hh.cell 0
         have q1 : w3.cell? ⟨w2.heap.size, 1, none⟩ = some (.int .i64 0) := hh.cell 1
         have qf := hh.free
         have ql := hh.size
         have hbw := ((((Below.refl w2.heap.size w2).alloc (Nat.le_refl _) (.cells #[.slice none 0 0, .int .i64 0] 24)).alloc (by simp) (.cells #[.int .u8 (48 + (kind : Int)), .int .u8 (97 + (N : Int))] 5)).drew).trans (hb5.mono (by simp; omega)))
      | (go_at_call 54; (with_reducible refine Q3.out.mono ?_); rintro e w3 ⟨a2, c2, rfl, hv3, hb5⟩
         have hh := ((Holds.fresh' (w := w2.alloc (.cells #[.int .u8 (48 + (kind : Int)), .int .u8 (97 + (N : Int))] 5)) (b := w2.heap.size + 1) (by simp) 24 #[.slice none 0 0, .int .i64 0]).later (below_drewN _ _ 1)).later hb5
         have q0 : w3.cell? ⟨w2.heap.size + 1, 0, none⟩ = some (.slice none 0 0) := hh.cell 0
         have q1 : w3.cell? ⟨w2.heap.size + 1, 1, none⟩ = some (.int .i64 0) := hh.cell 1
         have qf := hh.free
         have ql := hh.size
         have hbw := ((((Below.refl w2.heap.size w2).alloc (Nat.le_refl _) (.cells #[.int .u8 (48 + (kind : Int)), .int .u8 (97 + (N : Int))] 5)).alloc (by simp) (.cells #[.slice none 0 0, .int .i64 0] 24)).drew).trans (hb5.mono (by simp; omega))))
    all_goals go_wp2_with fail
    all_goals go_meet
    all_goals refine ⟨_, a2, c2, rfl, rfl, rfl, ?_⟩
    all_goals first
      | exact ⟨Holds.fresh w3 _ _, hv3 _ none (World.grownBy_alloc _ _ none) (fun j e => nomatch e), hbw.alloc hbw.size _⟩
      | exact ⟨(hh.set 0 _).set 1 _, hv3 _ _ ((Lib.grownBy_setCell _ _ _ _).trans (Lib.grownBy_setCell _ _ _ _)) (fun j e => by cases e; (simp <;> omega)), (hbw.setCell (p := ⟨_, 0, none⟩) (by simp) _).setCell (p := ⟨_, 1, none⟩) (by simp) _⟩
  case rest =>
    obtain ⟨zq, a2, c2, rfl, rfl, rfl, hq, hv3, hb3⟩ := hcut
    clear Q1 Q2 Q3 e1 e2 e3' k1 k2 k3 k4
    have z3 := Z2.out.later hb3
    have x0 : wc.cell? ⟨z, 0, none⟩ = some (.slice a1 N c1) := z3.cell 0
    have x1 : wc.cell? ⟨z, 1, none⟩ = some (.int .i64 win) := z3.cell 1
    have cO := fun W (hb : Below wc.heap.size wc W) => ref8_Own ss win (by have := HN.out; omega) HCL.out N HN.out a1 c1 W ((HV2.out.mono hb3 (Nat.le_refl _)).mono hb (Nat.le_refl _))
    have BC := Lib.hid (HB2.out.trans (hb3.mono HB2.out.size))
    have HQ := Lib.hid hq
    have HV3 := Lib.hid hv3
    have CO := Lib.hid cO
    clear hb3 hq hv3 cO z3 HB2 HV2 Z2 H2 HCL
    go_wp2_with fail
    refine (CO.out _ (Below.refl _ _)).mono ?_
    rintro e w3 ⟨u, uc, L, rfl, hL, hown, hcm, hb4⟩
    have zw := Holds.fresh w3 24 #[.slice u N uc, .int .i64 win]
    have hown4 := hown.alloc (.cells #[.slice u N uc, .int .i64 win] 24)
    clear CO x0 x1
    go_upto_region 18 with (fail)
    have wf := zw.free
    have wl := zw.size
    have w0 : (w3.alloc (.cells #[.slice u N uc, .int .i64 win] 24)).cell? ⟨w3.heap.size, 0, none⟩ = some (.slice u N uc) := zw.cell 0
    have hg3 := World.grownBy_alloc w3 (.cells #[.slice u N uc, .int .i64 win] 24) none
    have hcm4 := fun q hq => (hcm q hq).alloc (.cells #[.slice u N uc, .int .i64 win] 24)
    have hb5 := hb4.alloc hb4.size (.cells #[.slice u N uc, .int .i64 win] 24)
    have hs4 := hb4.size
    generalize w3.alloc (.cells #[.slice u N uc, .int .i64 win] 24) = W4 at *
    generalize hzw : w3.heap.size = zb at *
    have HCM4 := Lib.hid hcm4
    have HB4 := Lib.hid hb5
    have HL := Lib.hid hL
    have HZB := Lib.hid hs4
    have HOWN4 := Lib.hid hown4
    have HGS := Lib.hid hg3.size
    have ZW := Lib.hid zw
    have hn4 : wc.heap.size ≤ (W4.alloc (.cells #[.bool neg, .int .i64 kind, .int .i64 1, .int .i64 1, .bool strict, .slice none 0 0] 27)).heap.size := by simp; have := hg3.size; omega
    have own5 := hown4.alloc (.cells #[.bool neg, .int .i64 kind, .int .i64 1, .int .i64 1, .bool strict, .slice none 0 0] 27)
    have hlen : L.length = N := by rw [← HN.out, ← hL, List.length_map]
    clear hcm hcm4 hb5 hb4 hL hs4 hown hown4 hg3 zw hzw
    go_wp2_with (at_builtin; refine wpList_append_own _ rfl (.tmp 110) (.tmp 115) 22 rfl wc.heap.size 27 i1 (.agg #[.bool false, .int .i64 0, .int .i64 0, .int .i64 0, .bool false, .slice none 0 0]) 6 64 Tryd.underlying22 hj' hy0 hy1' hy2' rfl (by decide) (.slice u N uc) N (stCells L) rfl own5 ⟨W4.heap.size, 0, none⟩ 1 1 (stV ⟨neg, kind, 1, 1, strict, []⟩ (.slice none 0 0)) rfl rfl ?c1 ?c2 ?c3 ?c4 hn4 ?_)
    case c1 => exact new_cells W4 (stV ⟨neg, kind, 1, 1, strict, []⟩ (.slice none 0 0)) 27
    case c2 =>
      intro u hu
      simp only [stV, List.mem_cons, List.not_mem_nil, or_false] at hu
      rcases hu with rfl | rfl | rfl | rfl | rfl | rfl <;> rfl
    case c3 => unfold maxLen; omega
    case c4 => omega
    intro v' W6 hown' hgrow _
    obtain ⟨vg, vc, rfl⟩ := ownsRow_form hown'
    have hgT := (World.grownBy_alloc W4 (.cells #[.bool neg, .int .i64 kind, .int .i64 1, .int .i64 1, .bool strict, .slice none 0 0] 27) (Value.slice u N uc).ownBlock).trans hgrow
    have zw6 := ZW.out.grown hgT (holds_not_row ZW.out (by decide) HOWN4.out)
    have hset := Lib.grownBy_setCell W6 zb 0 (.slice vg (N + 1) vc)
    have hrow7 := hown'.kept hset (.inr (holds_not_row zw6 (by decide) hown').symm)
    have hcm7 : ∀ q ∈ L, CmpsV (W6.setCell ⟨zb, 0, none⟩ (.slice vg (N + 1) vc)) q.2 q.1.cmps := fun q hq =>
      have h6 := (HCM4.out q hq).kept hgT (rows_apart (HCM4.out q hq) HOWN4.out (by decide))
      cmps_of_row (h6.kept hset (.inr (holds_not_row zw6 (by decide) h6).symm))
    have hst := steps_of_row (L := L ++ [((⟨neg, kind, 1, 1, strict, []⟩ : St), Value.slice none 0 0)]) (by
        have e : stCells (L ++ [((⟨neg, kind, 1, 1, strict, []⟩ : St), Value.slice none 0 0)]) = stCells L ++ stV ⟨neg, kind, 1, 1, strict, []⟩ (.slice none 0 0) := by simp [stCells]
        rw [e, List.length_append, hlen]; exact hrow7) (fun q hq => by
        rcases List.mem_append.1 hq with hq | hq
        · exact hcm7 q hq
        · obtain rfl := List.mem_singleton.1 hq
          exact ⟨none, 0, rfl, Nat.le_refl _, Nat.zero_le _, fun _ => rfl, .inl rfl⟩)
    rw [List.map_append, HL.out] at hst
    have hb7 := ((HB4.out.grown hgT HB4.out.size (fun j e => (HOWN4.out.lt j e).1)).setCell (p := ⟨zb, 0, none⟩) HZB.out (.slice vg (N + 1) vc))
    have zw7 := zw6.set 0 (.slice vg (N + 1) vc)
    have q7 := HQ.out.later hb7
    have v7 := HV3.out.mono hb7 (Nat.le_refl _)
    have HB7 := Lib.hid hb7
    have cS := fun W (hb : Below (W6.setCell ⟨zb, 0, none⟩ (.slice vg (N + 1) vc)).heap.size (W6.setCell ⟨zb, 0, none⟩ (.slice vg (N + 1) vc)) W) => ref8_Same ⟨ss ++ [⟨neg, kind, 1, 1, strict, []⟩], win⟩ ⟨ss ++ [⟨neg, kind, 1, 1, strict, []⟩], win⟩ (.agg #[.slice a2 (N + 1) c2, .int .i64 win]) (.agg #[.slice vg (N + 1) vc, .int .i64 win]) W ⟨_, rfl, v7.mono hb (Nat.le_refl _)⟩ ⟨_, rfl, hst.mono hb (Nat.le_refl _)⟩
    have y6 : W6.cell? ⟨zb, 0, none⟩ = some (.slice u N uc) := zw6.cell 0
    have pf := zw6.free
    have pl := zw6.size
    have q70 : (W6.setCell ⟨zb, 0, none⟩ (.slice vg (N + 1) vc)).cell? ⟨zq, 0, none⟩ = some (.slice a2 (N + 1) c2) := q7.cell 0
    have q71 : (W6.setCell ⟨zb, 0, none⟩ (.slice vg (N + 1) vc)).cell? ⟨zq, 1, none⟩ = some (.int .i64 win) := q7.cell 1
    have w70 : (W6.setCell ⟨zb, 0, none⟩ (.slice vg (N + 1) vc)).cell? ⟨zb, 0, none⟩ = some (.slice vg (N + 1) vc) := zw7.cell 0
    have w71 : (W6.setCell ⟨zb, 0, none⟩ (.slice vg (N + 1) vc)).cell? ⟨zb, 1, none⟩ = some (.int .i64 win) := zw7.cell 1
    have CS := Lib.hid (cS _ (Below.refl _ _))
    have B7 := Lib.hid (BC.out.trans (hb7.mono BC.out.size))
    clear cS hst hcm7 hrow7 hset hgT hown' hgrow zw6 zw7 q7 v7 hb7 own5 wf wl w0 hn4 HL HB4 HB7 HCM4 HOWN4 ZW HQ HV3 HZB HGS BC
    simp only [decide_true] at CS
    go_wp2_with fail
    refine CS.out.mono ?_
    rintro e w8 ⟨rfl, hb8⟩
    have B8 := Lib.hid (B7.out.trans (hb8.mono B7.out.size))
    go_wp2_with fail
    refine (CW.out _ B8.out).mono ?_
    rintro e w9 ⟨rfl, hb9⟩
    go_wp2_with fail
    go_ret
    exact ⟨rfl, B8.out.trans (hb9.mono B8.out.size)⟩
end Go.Proofs.YtafgincpoahefaaDoor
