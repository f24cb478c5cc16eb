/-
  stragglelaw09.ParseTells: true of any text.
-/
import Derived.Test.YtafgincpoahefaaGreatDoorPas13
namespace Go.Proofs.YtafgincpoahefaaGreatDoor
open Go.RowKit
attribute [local go_sem] Oper.semAt_some

theorem ref9_Parse (s : ByteArray) (hs : s.size ≤ 3000) (w : World) : Calls Tryz.prog 6 #[.string s] w (R9P s.data.toList w) := by
  rcases ha : allOf s.data.toList with ⟨ts, p, c⟩
  by_cases hc : c = 0
  · subst hc
    obtain ⟨rfl, _⟩ := allOf_toks ha
    refine ref9_Parse_some s hs w ts ?_ ha
    have hl : s.data.toList.length ≤ 2000 := Nat.le_of_not_lt fun h => by
      unfold allOf at ha
      rw [if_pos h] at ha
      simp at ha
    unfold allOf at ha
    rw [if_neg (by omega)] at ha
    split at ha
    · simp at ha
    · simp only [Prod.mk.injEq] at ha
      have := yields_len _ 0 s.data.toList (Nat.le_refl _)
      rw [← ha.1]
      simp only [List.length_append, List.length_map, List.length_singleton]
      omega
  · exact ref9_Parse_none s hs w ts p c ha hc
theorem both_open {f : FuncId} {s : ByteArray} {p : Pt} {a c : Int} (h : parseOf s.data.toList = (p, a, c)) {W : World} (hc : Calls Tryz.prog f #[.string s] W (R9P s.data.toList W)) :
    Calls Tryz.prog f #[.string s] W fun e w' => ∃ a0 c0, e = .returned (.tuple #[.agg #[.slice a0 p.steps.length c0, .int .i64 p.window], .int .i64 a, .int .i64 c]) ∧ StepsV w' (.slice a0 p.steps.length c0) p.steps ∧ Below W.heap.size W w' := by
  refine hc.mono ?_
  rintro e w' ⟨v, rfl, ⟨u, rfl, hv⟩, hb'⟩
  rw [h] at hv ⊢
  obtain ⟨a0, c0, rfl, h1, h2, h3, h4⟩ := hv
  exact ⟨a0, c0, rfl, ⟨a0, c0, rfl, h1, h2, h3, h4⟩, hb'⟩
theorem parTells_long (s : ByteArray) (hs : 3000 < s.size) (w : World) (hG : GL w) :
    Calls Tryz.prog 3 #[.string s] w fun e w' => e = .returned (.bool true) ∧ Below w.heap.size w w' := by
  go_enter Tryz.func3, Tryz.ntmps3
  go_wp2_with fail
  refine (wakes09 _ hG).mono ?_
  rintro e w9 ⟨rfl, hb9⟩
  go_wp2_with fail
  go_ret
  exact ⟨rfl, hb9⟩
set_option maxRecDepth 100000 in
set_option maxHeartbeats 4000000 in
theorem parseTells_walk (s : ByteArray) (w : World) (_hs0 : s.size ≤ 140737488351232) (hG : GL w) :
    Calls Tryz.prog 3 #[.string s] w fun e w' => e = .returned (.bool true) ∧ Below w.heap.size w w' := by
  by_cases hs : 3000 < s.size
  · exact parTells_long s hs w hG
  have hs : s.size ≤ 3000 := by omega
  rcases hp : parseOf s.data.toList with ⟨P, A, E⟩
  have cP := both_open hp (parse_Parse s (by omega) w hG)
  have cQ := fun W => both_open hp (ref9_Parse s hs W)
  have cR := fun W hb => parse_Right s (by omega) W (hG.mono hb)
  rw [hp] at cR
  simp only at cR
  have cW := fun W (hb : Below w.heap.size w W) => wakes09 W (hG.mono hb)
  have CP := Lib.hid cP
  have CQ := Lib.hid cQ
  have CR := Lib.hid cR
  have CW := Lib.hid cW
  clear cP cQ cR cW hG hp
  go_enter Tryz.func3, Tryz.ntmps3
  go_wp2_with fail
  refine CP.out.mono ?_
  rintro e w1 ⟨a1, c1, rfl, hv1, hb1⟩
  have z1 := Holds.fresh w1 25 #[.slice a1 P.steps.length c1, .int .i64 P.window]
  have hv1' := hv1.mono ((Below.refl w1.heap.size w1).alloc (Nat.le_refl _) (.cells #[.slice a1 P.steps.length c1, .int .i64 P.window] 25)) (Nat.le_refl _)
  have hB1 := hb1.alloc hb1.size (.cells #[.slice a1 P.steps.length c1, .int .i64 P.window] 25)
  have Z1 := Lib.hid z1
  have HV1 := Lib.hid hv1'
  have HB1 := Lib.hid hB1
  clear z1 hv1 hv1' hb1 hB1 CP
  go_wp2_with fail
  generalize w1.alloc (.cells #[.slice a1 P.steps.length c1, .int .i64 P.window] 25) = W1 at *
  generalize w1.heap.size = z at *
  refine (CQ.out _).mono ?_
  rintro e w2 ⟨a2, c2, rfl, hv2, hb2⟩
  have hb2' := hb2.alloc hb2.size (.cells #[.slice a2 P.steps.length c2, .int .i64 P.window] 25)
  have z2 := Holds.fresh w2 25 #[.slice a2 P.steps.length c2, .int .i64 P.window]
  have hv2' := hv2.mono ((Below.refl w2.heap.size w2).alloc (Nat.le_refl _) (.cells #[.slice a2 P.steps.length c2, .int .i64 P.window] 25)) (Nat.le_refl _)
  have hv1' := HV1.out.mono hb2' (Nat.le_refl _)
  have z1' := Z1.out.later hb2'
  have hB2 := HB1.out.trans (hb2'.mono HB1.out.size)
  clear hv2 hb2 hb2' Z1 HV1 HB1 CQ
  go_upto_region 5 with (fail)
  generalize w2.alloc (.cells #[.slice a2 P.steps.length c2, .int .i64 P.window] 25) = W2 at *
  generalize w2.heap.size = z2' at *
  have y0 : W2.cell? ⟨z, 0, none⟩ = some (.slice a1 P.steps.length c1) := z1'.cell 0
  have y1 : W2.cell? ⟨z, 1, none⟩ = some (.int .i64 P.window) := z1'.cell 1
  have y2 : W2.cell? ⟨z2', 0, none⟩ = some (.slice a2 P.steps.length c2) := z2.cell 0
  have y3 : W2.cell? ⟨z2', 1, none⟩ = some (.int .i64 P.window) := z2.cell 1
  have cs := ref8_Same P P (.agg #[.slice a1 P.steps.length c1, .int .i64 P.window]) (.agg #[.slice a2 P.steps.length c2, .int .i64 P.window]) W2 ⟨_, rfl, hv1'⟩ ⟨_, rfl, hv2'⟩
  rw [decide_eq_true rfl] at cs
  have CS := Lib.hid cs
  have HB2 := Lib.hid hB2
  clear cs hB2 z2 hv2' hv1' z1'
  go_wp2_with fail
  refine CS.out.mono ?_
  rintro e w3 ⟨rfl, hb3⟩
  have hB3 := HB2.out.trans (hb3.mono HB2.out.size)
  have HB3 := Lib.hid hB3
  clear hB3 hb3 HB2 CS y0 y1 y2 y3
  go_wp2_with fail
  refine (CR.out _ HB3.out).mono ?_
  rintro e w4 ⟨rfl, hb4⟩
  have hB4 := HB3.out.trans (hb4.mono HB3.out.size)
  have HB4 := Lib.hid hB4
  clear hB4 hb4 HB3 CR
  go_wp2_with fail
  refine (CW.out _ HB4.out).mono ?_
  rintro e w5 ⟨rfl, hb5⟩
  go_wp2_with fail
  go_ret
  exact ⟨rfl, HB4.out.trans (hb5.mono HB4.out.size)⟩
end Go.Proofs.YtafgincpoahefaaGreatDoor
