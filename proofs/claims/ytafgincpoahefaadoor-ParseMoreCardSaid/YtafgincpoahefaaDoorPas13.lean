/-
  stragglelaw09.three, wakes.
-/
import Derived.Test.YtafgincpoahefaaDoorPas12
import Derived.Test.YtafgincpoahefaaDoorRef8t
import Derived.Deep.RegionHeld3
namespace Go.Proofs.YtafgincpoahefaaDoor
open Go.RowKit
attribute [local go_sem] Oper.semAt_some

def thC : Cm := ⟨5, ⟨2, 0, 1, 0⟩, ⟨2, 3, 0, 0⟩⟩
def thP : Pt := ⟨[⟨false, 0, 1, 1, false, []⟩, ⟨false, 1, 1, 2, false, [thC]⟩, ⟨false, 2, 1, 1, true, []⟩], 50⟩
def dnC1 : Cm := ⟨2, ⟨5, -4, 0, 2⟩, ⟨0, -7, 0, 0⟩⟩
def dnC2 : Cm := ⟨4, ⟨1, 0, 0, 0⟩, ⟨0, 9, 0, 0⟩⟩
def dnP : Pt := ⟨[⟨true, 5, 1, 1, false, [dnC1, dnC2]⟩], 0⟩
theorem th_text : parseOf [48, 97, 59, 49, 98, 123, 49, 44, 50, 125, 91, 120, 40, 98, 41, 62, 120, 40, 97, 41, 43, 51, 93, 44, 50, 99, 32, 119, 105, 116, 104, 105, 110, 32, 53, 48] = (thP, 0, 0) := by decide +kernel
theorem bd_text : parseOf [48, 97, 59, 49, 97, 32, 119, 105, 116, 104, 105, 110, 32, 53] = (⟨[], 0⟩, 4, 90) := by decide +kernel
theorem dn_text : parseOf [33, 53, 97, 91, 100, 40, 97, 44, 99, 41, 45, 52, 60, 61, 45, 55, 38, 116, 40, 97, 41, 33, 61, 57, 93, 119, 105, 116, 104, 105, 110, 32, 48] = (dnP, 0, 0) := by decide +kernel
theorem en_text : parseOf [48, 97] = (⟨[], 0⟩, 2, 90) := by decide +kernel
theorem ok_text : (parseOf [48, 97, 32, 119, 105, 116, 104, 105, 110, 32, 49]).2.2 = 0 := by decide +kernel
theorem no_text : (parseOf []).2.2 = 90 := by decide +kernel
theorem stepsV_holds {W : World} {g n : Nat} {L : List (St × Value)} (h : Holds W g 27 (stCells L).toArray) (hc : ∀ p ∈ L, CmpsV W p.2 p.1.cmps) (hn : L.length = n) (hb : n ≤ 1000) : StepsV W (.slice (some ⟨g, 0, none⟩) n n) (L.map Prod.fst) := by
  subst hn
  refine ⟨some ⟨g, 0, none⟩, L.length, by rw [List.length_map], by rw [List.length_map]; exact Nat.le_refl _, by rw [List.length_map]; omega, (fun e => nomatch e), .inr ⟨g, 0, rfl, fun i s hi => ?_⟩⟩
  rw [List.getElem?_map] at hi
  obtain ⟨q, hq, rfl⟩ := Option.map_eq_some_iff.1 hi
  refine ⟨q.2, hc q (List.mem_of_getElem? hq), fun j u hj => ?_⟩
  rw [Nat.zero_add, h.cell (i * 6 + j)]
  simpa using st_cells_get L i q hq j u hj
theorem cmpsV_holds {W : World} {g n : Nat} {cs : List Cm} (h : Holds W g 31 (cs.flatMap cmV).toArray) (hn : cs.length = n) (hb : n ≤ 1000) : CmpsV W (.slice (some ⟨g, 0, none⟩) n n) cs := by
  subst hn
  refine ⟨some ⟨g, 0, none⟩, cs.length, rfl, Nat.le_refl _, by omega, (fun e => nomatch e), .inr ⟨g, 0, rfl, fun i c hi j u hj => ?_⟩⟩
  rw [Nat.zero_add, h.cell (i * 9 + j)]
  simpa using flat_cm_get cs i c hi j u hj
theorem cmpsV_none (W : World) : CmpsV W (.slice none 0 0) [] := ⟨none, 0, rfl, Nat.le_refl _, by simp, fun _ => rfl, .inl rfl⟩
set_option maxRecDepth 100000 in
set_option maxHeartbeats 1000000 in
theorem three9 (w : World) : Calls Tryd.prog 91 #[] w fun e w' => ∃ v, e = .returned v ∧ PatV w' v thP ∧ Below w.heap.size w w' := by
  go_enter Tryd.func91, Tryd.ntmps91
  go_wp2_with fail
  refine bodyPost_ret (results_one9 rfl _ _ w.heap.size 24 #[.slice (some ⟨w.heap.size + 1 + 1, 0, none⟩) 3 3, .int .i64 50] _ rfl (((Holds.fresh w _ _).alloc _).alloc _) Tryd.underlying24 rfl (by kernel_rfl)) rfl ?_
  refine ⟨_, rfl, ⟨_, rfl, stepsV_holds (L := [(⟨false, 0, 1, 1, false, []⟩, .slice none 0 0), (⟨false, 1, 1, 2, false, [thC]⟩, .slice (some ⟨w.heap.size + 1, 0, none⟩) 1 1), (⟨false, 2, 1, 1, true, []⟩, .slice none 0 0)]) (Holds.fresh' (by simp) _ _) (fun p hp => ?_) rfl (by decide)⟩, ((((Below.refl _ _).alloc (Nat.le_refl _) _).alloc (by simp) _).alloc (by simp; omega) _)⟩
  simp only [List.mem_cons, List.not_mem_nil, or_false] at hp
  rcases hp with rfl | rfl | rfl
  · exact cmpsV_none _
  · exact cmpsV_holds (cs := [thC]) ((Holds.fresh' (by simp) _ _).alloc _) rfl (by decide)
  · exact cmpsV_none _
theorem parse_lit (s : ByteArray) (l : List UInt8) (hl : s.data.toList = l) (hs : s.size ≤ 140737488351232) (p : Pt) (a c : Int) (h : parseOf l = (p, a, c)) (w W : World) (hG : GL w) (hb : Below w.heap.size w W) :
    Calls Tryd.prog 54 #[.string s] W fun e w' => ∃ a0 c0, e = .returned (.tuple #[.agg #[.slice a0 p.steps.length c0, .int .i64 p.window], .int .i64 a, .int .i64 c]) ∧ StepsV w' (.slice a0 p.steps.length c0) p.steps ∧ Below w.heap.size w w' ∧ Below W.heap.size W w' := by
  refine (parse_Parse s hs W (hG.mono hb)).mono ?_
  rintro e w' ⟨v, rfl, ⟨u, rfl, hv⟩, hb'⟩
  rw [hl, h] at hv ⊢
  obtain ⟨a0, c0, rfl, h1, h2, h3, h4⟩ := hv
  exact ⟨a0, c0, rfl, ⟨a0, c0, rfl, h1, h2, h3, h4⟩, hb.trans (hb'.mono hb.size), hb'⟩
theorem right_lit (s : ByteArray) (l : List UInt8) (hl : s.data.toList = l) (hs : s.size ≤ 140737488351232) (r : Bool) (h : ((parseOf l).2.2 == 0) = r) (w w0 W : World) (hG : GL w) (hb0 : Below w.heap.size w w0) (hb : Below w0.heap.size w0 W) :
    Calls Tryd.prog 92 #[.string s] W fun e w' => e = .returned (.bool r) ∧ Below w0.heap.size w0 w' := by
  refine (parse_Right s hs W (hG.mono (hb0.trans (hb.mono hb0.size)))).mono ?_
  rintro e w' ⟨rfl, hb'⟩
  rw [hl, h]
  exact ⟨rfl, hb.trans (hb'.mono hb.size)⟩
theorem Holds.cellB {w W : World} {b : Nat} {t : TypeId} {cs : Array Value} (h : Holds w b t cs) (hb : Below w.heap.size w W) (i : Nat) : W.cell? ⟨b, i, none⟩ = cs[i]? := (h.later hb).cell i
set_option maxRecDepth 100000 in
set_option maxHeartbeats 8000000 in
theorem wakes09 (w : World) (hG : GL w) : Calls Tryd.prog 53 #[] w fun e w' => e = .returned (.bool true) ∧ Below w.heap.size w w' := by
  have q1 := parse_lit ⟨#[48, 97, 59, 49, 98, 123, 49, 44, 50, 125, 91, 120, 40, 98, 41, 62, 120, 40, 97, 41, 43, 51, 93, 44, 50, 99, 32, 119, 105, 116, 104, 105, 110, 32, 53, 48]⟩ [48, 97, 59, 49, 98, 123, 49, 44, 50, 125, 91, 120, 40, 98, 41, 62, 120, 40, 97, 41, 43, 51, 93, 44, 50, 99, 32, 119, 105, 116, 104, 105, 110, 32, 53, 48] rfl (by decide) _ _ _ th_text w w hG (Below.refl _ _)
  have q2 := fun W hb => parse_lit ⟨#[48, 97, 59, 49, 97, 32, 119, 105, 116, 104, 105, 110, 32, 53]⟩ [48, 97, 59, 49, 97, 32, 119, 105, 116, 104, 105, 110, 32, 53] rfl (by decide) _ _ _ bd_text w W hG hb
  have q3 := fun W hb => parse_lit ⟨#[33, 53, 97, 91, 100, 40, 97, 44, 99, 41, 45, 52, 60, 61, 45, 55, 38, 116, 40, 97, 41, 33, 61, 57, 93, 119, 105, 116, 104, 105, 110, 32, 48]⟩ [33, 53, 97, 91, 100, 40, 97, 44, 99, 41, 45, 52, 60, 61, 45, 55, 38, 116, 40, 97, 41, 33, 61, 57, 93, 119, 105, 116, 104, 105, 110, 32, 48] rfl (by decide) _ _ _ dn_text w W hG hb
  have q4 := fun W hb => parse_lit ⟨#[48, 97]⟩ [48, 97] rfl (by decide) _ _ _ en_text w W hG hb
  have r1 := fun w0 W hb0 hb => right_lit ⟨#[48, 97, 32, 119, 105, 116, 104, 105, 110, 32, 49]⟩ [48, 97, 32, 119, 105, 116, 104, 105, 110, 32, 49] rfl (by decide) true (by rw [ok_text]; rfl) w w0 W hG hb0 hb
  have r2 := fun w0 W hb0 hb => right_lit ⟨#[]⟩ [] rfl (by decide) false (by rw [no_text]; rfl) w w0 W hG hb0 hb
  simp only [thP, dnP, List.length_cons, List.length_nil, Nat.reduceAdd] at q1 q2 q3 q4
  have Q1 := Lib.hid q1
  have Q2 := Lib.hid q2
  have Q3 := Lib.hid q3
  have Q4 := Lib.hid q4
  have R1 := Lib.hid r1
  have R2 := Lib.hid r2
  clear q1 q2 q3 q4 r1 r2 hG
  go_enter Tryd.func53, Tryd.ntmps53
  go_wp2_with fail
  refine Q1.out.mono ?_
  rintro e w1 ⟨a1, c1, rfl, s1, hb1, -⟩
  have hB1 := hb1.alloc hb1.size (.cells #[.slice a1 3 c1, .int .i64 50] 24)
  have z1 := Holds.fresh w1 24 #[.slice a1 3 c1, .int .i64 50]
  have s1' := s1.mono ((Below.refl w1.heap.size w1).alloc (Nat.le_refl _) (.cells #[.slice a1 3 c1, .int .i64 50] 24)) (Nat.le_refl _)
  have HB1 := Lib.hid hB1
  have Z1 := Lib.hid z1
  have S1 := Lib.hid s1'
  clear hB1 z1 s1' s1 hb1 Q1
  go_wp2_with fail
  generalize w1.alloc (.cells #[.slice a1 3 c1, .int .i64 50] 24) = w1' at *
  generalize w1.heap.size = z1 at *
  refine (Q2.out _ HB1.out).mono ?_
  rintro e w2 ⟨a2, c2, rfl, -, hb2, hc2⟩
  have hd2 := hc2.trans ((Below.refl w2.heap.size w2).alloc (Nat.le_refl _) (.cells #[.slice a2 0 c2, .int .i64 0] 24) |>.mono hc2.size)
  have hB2 := hb2.alloc hb2.size (.cells #[.slice a2 0 c2, .int .i64 0] 24)
  have z2 := Holds.fresh w2 24 #[.slice a2 0 c2, .int .i64 0]
  have HB2 := Lib.hid hB2
  have Z12 := Lib.hid (Z1.out.later hd2)
  have S12 := Lib.hid (S1.out.mono hd2 (Nat.le_refl _))
  have Z2 := Lib.hid z2
  clear hd2 hB2 z2 hb2 hc2 Q2 Z1 S1 HB1
  go_wp2_with fail
  generalize w2.alloc (.cells #[.slice a2 0 c2, .int .i64 0] 24) = w2' at *
  generalize w2.heap.size = z2 at *
  refine (Q3.out _ HB2.out).mono ?_
  rintro e w3 ⟨a3, c3, rfl, s3, hb3, hc3⟩
  have hd3 := hc3.trans ((Below.refl w3.heap.size w3).alloc (Nat.le_refl _) (.cells #[.slice a3 1 c3, .int .i64 0] 24) |>.mono hc3.size)
  have hB3 := hb3.alloc hb3.size (.cells #[.slice a3 1 c3, .int .i64 0] 24)
  have z3 := Holds.fresh w3 24 #[.slice a3 1 c3, .int .i64 0]
  have s3' := s3.mono ((Below.refl w3.heap.size w3).alloc (Nat.le_refl _) (.cells #[.slice a3 1 c3, .int .i64 0] 24)) (Nat.le_refl _)
  have HB3 := Lib.hid hB3
  have Z13 := Lib.hid (Z12.out.later hd3)
  have S13 := Lib.hid (S12.out.mono hd3 (Nat.le_refl _))
  have Z23 := Lib.hid (Z2.out.later hd3)
  have Z3 := Lib.hid z3
  have S3 := Lib.hid s3'
  clear hd3 hB3 z3 s3 s3' hb3 hc3 Q3 Z12 S12 Z2 HB2
  go_wp2_with fail
  generalize w3.alloc (.cells #[.slice a3 1 c3, .int .i64 0] 24) = w3' at *
  generalize w3.heap.size = z3 at *
  refine (Q4.out _ HB3.out).mono ?_
  rintro e w4 ⟨a4, c4, rfl, -, hb4, hc4⟩
  have hd4 := hc4.trans ((Below.refl w4.heap.size w4).alloc (Nat.le_refl _) (.cells #[.slice a4 0 c4, .int .i64 0] 24) |>.mono hc4.size)
  have hB4 := hb4.alloc hb4.size (.cells #[.slice a4 0 c4, .int .i64 0] 24)
  have y1 := Z13.out.later hd4
  have y2 := Z23.out.later hd4
  have y3 := Z3.out.later hd4
  have t1 := S13.out.mono hd4 (Nat.le_refl _)
  have t3 := S3.out.mono hd4 (Nat.le_refl _)
  clear Z13 Z23 Z3 S13 S3 HB3 hd4 hb4 hc4 Q4
  go_upto_region 5 with (fail)
  generalize w4.alloc (.cells #[.slice a4 0 c4, .int .i64 0] 24) = W0 at *
  generalize w4.heap.size = z4 at *
  obtain ⟨_, _, e3, _, _, _, t3⟩ := t3
  obtain ⟨rfl, rfl⟩ : a3 = _ ∧ c3 = _ := by simpa using e3
  rcases t3 with h | ⟨b3, o3, rfl, t3⟩
  · cases h
  obtain ⟨v3, cv3, d3⟩ := t3 0 _ rfl
  simp only [Nat.zero_mul, Nat.add_zero] at d3
  obtain ⟨a5, c5, rfl, _, _, _, cv3⟩ := cv3
  rcases cv3 with h | ⟨b4, o4, rfl, cv3⟩
  · cases h
  have m1 := cv3 0 _ rfl
  have m2 := cv3 1 _ rfl
  simp only [Nat.zero_mul, Nat.add_zero, Nat.one_mul] at m1 m2
  have g0 : W0.cell? ⟨b3, o3, none⟩ = some (.bool true) := d3 0 _ rfl
  have g1 : W0.cell? ⟨b3, o3 + 1, none⟩ = some (.int .i64 5) := d3 1 _ rfl
  have g5 : W0.cell? ⟨b3, o3 + 5, none⟩ = some (.slice (some ⟨b4, o4, none⟩) 2 c5) := d3 5 _ rfl
  have x3 : W0.cell? ⟨z3, 0, none⟩ = some (.slice (some ⟨b3, o3, none⟩) 1 c3) := y3.cell 0
  have n0 : W0.cell? ⟨b4, o4, none⟩ = some (.int .u8 2) := m1 0 _ rfl
  have n1 : W0.cell? ⟨b4, o4 + 1, none⟩ = some (.int .u8 5) := m1 1 _ rfl
  have n2 : W0.cell? ⟨b4, o4 + 2, none⟩ = some (.int .i64 (-4)) := m1 2 _ rfl
  have n3 : W0.cell? ⟨b4, o4 + 3, none⟩ = some (.int .i64 0) := m1 3 _ rfl
  have n4 : W0.cell? ⟨b4, o4 + 4, none⟩ = some (.int .i64 2) := m1 4 _ rfl
  have n5 : W0.cell? ⟨b4, o4 + 5, none⟩ = some (.int .u8 0) := m1 5 _ rfl
  have n6 : W0.cell? ⟨b4, o4 + 6, none⟩ = some (.int .i64 (-7)) := m1 6 _ rfl
  have n7 : W0.cell? ⟨b4, o4 + 7, none⟩ = some (.int .i64 0) := m1 7 _ rfl
  have n8 : W0.cell? ⟨b4, o4 + 8, none⟩ = some (.int .i64 0) := m1 8 _ rfl
  have l0 : W0.cell? ⟨b4, o4 + 9, none⟩ = some (.int .u8 4) := m2 0 _ rfl
  have l1 : W0.cell? ⟨b4, o4 + 9 + 1, none⟩ = some (.int .u8 1) := m2 1 _ rfl
  have l2 : W0.cell? ⟨b4, o4 + 9 + 2, none⟩ = some (.int .i64 0) := m2 2 _ rfl
  have l3 : W0.cell? ⟨b4, o4 + 9 + 3, none⟩ = some (.int .i64 0) := m2 3 _ rfl
  have l4 : W0.cell? ⟨b4, o4 + 9 + 4, none⟩ = some (.int .i64 0) := m2 4 _ rfl
  have l5 : W0.cell? ⟨b4, o4 + 9 + 5, none⟩ = some (.int .u8 0) := m2 5 _ rfl
  have l6 : W0.cell? ⟨b4, o4 + 9 + 6, none⟩ = some (.int .i64 9) := m2 6 _ rfl
  have l7 : W0.cell? ⟨b4, o4 + 9 + 7, none⟩ = some (.int .i64 0) := m2 7 _ rfl
  have l8 : W0.cell? ⟨b4, o4 + 9 + 8, none⟩ = some (.int .i64 0) := m2 8 _ rfl
  have hks : ∀ w', Below W0.heap.size W0 w' → w'.cell? ⟨z1, 0, none⟩ = some (.slice a1 3 c1) ∧ w'.cell? ⟨z1, 1, none⟩ = some (.int .i64 50) ∧ w'.cell? ⟨z2, 0, none⟩ = some (.slice a2 0 c2) ∧ w'.cell? ⟨z3, 0, none⟩ = some (.slice (some ⟨b3, o3, none⟩) 1 c3) ∧ w'.cell? ⟨b3, o3, none⟩ = some (.bool true) ∧ w'.cell? ⟨b3, o3 + 1, none⟩ = some (.int .i64 5) ∧ w'.cell? ⟨b4, o4, none⟩ = some (.int .u8 2) ∧ w'.cell? ⟨b4, o4 + 1, none⟩ = some (.int .u8 5) ∧ w'.cell? ⟨b4, o4 + 2, none⟩ = some (.int .i64 (-4)) ∧ w'.cell? ⟨b4, o4 + 3, none⟩ = some (.int .i64 0) ∧ w'.cell? ⟨b4, o4 + 4, none⟩ = some (.int .i64 2) ∧ w'.cell? ⟨b4, o4 + 5, none⟩ = some (.int .u8 0) ∧ w'.cell? ⟨b4, o4 + 6, none⟩ = some (.int .i64 (-7)) ∧ w'.cell? ⟨b4, o4 + 7, none⟩ = some (.int .i64 0) ∧ w'.cell? ⟨b4, o4 + 8, none⟩ = some (.int .i64 0) ∧ w'.cell? ⟨b4, o4 + 9, none⟩ = some (.int .u8 4) ∧ w'.cell? ⟨b4, o4 + 9 + 1, none⟩ = some (.int .u8 1) ∧ w'.cell? ⟨b4, o4 + 9 + 2, none⟩ = some (.int .i64 0) ∧ w'.cell? ⟨b4, o4 + 9 + 3, none⟩ = some (.int .i64 0) ∧ w'.cell? ⟨b4, o4 + 9 + 4, none⟩ = some (.int .i64 0) ∧ w'.cell? ⟨b4, o4 + 9 + 5, none⟩ = some (.int .u8 0) ∧ w'.cell? ⟨b4, o4 + 9 + 6, none⟩ = some (.int .i64 9) ∧ w'.cell? ⟨b4, o4 + 9 + 7, none⟩ = some (.int .i64 0) ∧ w'.cell? ⟨b4, o4 + 9 + 8, none⟩ = some (.int .i64 0) ∧ Below W0.heap.size W0 w' := fun W hb => ⟨cell_mono hb (Nat.le_refl _) (y1.cell 0), cell_mono hb (Nat.le_refl _) (y1.cell 1), cell_mono hb (Nat.le_refl _) (y2.cell 0), cell_mono hb (Nat.le_refl _) (x3), cell_mono hb (Nat.le_refl _) (g0), cell_mono hb (Nat.le_refl _) (g1), cell_mono hb (Nat.le_refl _) (n0), cell_mono hb (Nat.le_refl _) (n1), cell_mono hb (Nat.le_refl _) (n2), cell_mono hb (Nat.le_refl _) (n3), cell_mono hb (Nat.le_refl _) (n4), cell_mono hb (Nat.le_refl _) (n5), cell_mono hb (Nat.le_refl _) (n6), cell_mono hb (Nat.le_refl _) (n7), cell_mono hb (Nat.le_refl _) (n8), cell_mono hb (Nat.le_refl _) (l0), cell_mono hb (Nat.le_refl _) (l1), cell_mono hb (Nat.le_refl _) (l2), cell_mono hb (Nat.le_refl _) (l3), cell_mono hb (Nat.le_refl _) (l4), cell_mono hb (Nat.le_refl _) (l5), cell_mono hb (Nat.le_refl _) (l6), cell_mono hb (Nat.le_refl _) (l7), cell_mono hb (Nat.le_refl _) (l8), hb⟩
  have hsl : ∀ w', (w'.cell? ⟨z1, 0, none⟩ = some (.slice a1 3 c1) ∧ w'.cell? ⟨z1, 1, none⟩ = some (.int .i64 50) ∧ w'.cell? ⟨z2, 0, none⟩ = some (.slice a2 0 c2) ∧ w'.cell? ⟨z3, 0, none⟩ = some (.slice (some ⟨b3, o3, none⟩) 1 c3) ∧ w'.cell? ⟨b3, o3, none⟩ = some (.bool true) ∧ w'.cell? ⟨b3, o3 + 1, none⟩ = some (.int .i64 5) ∧ w'.cell? ⟨b4, o4, none⟩ = some (.int .u8 2) ∧ w'.cell? ⟨b4, o4 + 1, none⟩ = some (.int .u8 5) ∧ w'.cell? ⟨b4, o4 + 2, none⟩ = some (.int .i64 (-4)) ∧ w'.cell? ⟨b4, o4 + 3, none⟩ = some (.int .i64 0) ∧ w'.cell? ⟨b4, o4 + 4, none⟩ = some (.int .i64 2) ∧ w'.cell? ⟨b4, o4 + 5, none⟩ = some (.int .u8 0) ∧ w'.cell? ⟨b4, o4 + 6, none⟩ = some (.int .i64 (-7)) ∧ w'.cell? ⟨b4, o4 + 7, none⟩ = some (.int .i64 0) ∧ w'.cell? ⟨b4, o4 + 8, none⟩ = some (.int .i64 0) ∧ w'.cell? ⟨b4, o4 + 9, none⟩ = some (.int .u8 4) ∧ w'.cell? ⟨b4, o4 + 9 + 1, none⟩ = some (.int .u8 1) ∧ w'.cell? ⟨b4, o4 + 9 + 2, none⟩ = some (.int .i64 0) ∧ w'.cell? ⟨b4, o4 + 9 + 3, none⟩ = some (.int .i64 0) ∧ w'.cell? ⟨b4, o4 + 9 + 4, none⟩ = some (.int .i64 0) ∧ w'.cell? ⟨b4, o4 + 9 + 5, none⟩ = some (.int .u8 0) ∧ w'.cell? ⟨b4, o4 + 9 + 6, none⟩ = some (.int .i64 9) ∧ w'.cell? ⟨b4, o4 + 9 + 7, none⟩ = some (.int .i64 0) ∧ w'.cell? ⟨b4, o4 + 9 + 8, none⟩ = some (.int .i64 0) ∧ Below W0.heap.size W0 w') → Below W0.heap.size W0 w' := fun W h => h.2.2.2.2.2.2.2.2.2.2.2.2.2.2.2.2.2.2.2.2.2.2.2.2
  have ct : ∀ W, Below W0.heap.size W0 W → Calls Tryd.prog 91 #[] W fun e w' => ∃ v, e = .returned v ∧ PatV w' v thP ∧ Below W0.heap.size W0 w' := fun W hb => (three9 W).mono fun e w' h => by
    obtain ⟨v, h1, h2, h3⟩ := h
    exact ⟨v, h1, h2, hb.trans (h3.mono hb.size)⟩
  have cs : ∀ W v, Below W0.heap.size W0 W → PatV W v thP → Calls Tryd.prog 37 #[.agg #[.slice a1 3 c1, .int .i64 50], v] W fun e w' => e = .returned (.bool true) ∧ Below W0.heap.size W0 w' := fun W v hb hv =>
    (ref8_Same thP thP _ v W ⟨_, rfl, t1.mono hb (Nat.le_refl _)⟩ hv).mono fun e w' h => by
      obtain ⟨h1, h2⟩ := h
      exact ⟨by rw [h1, decide_eq_true rfl], hb.trans (h2.mono hb.size)⟩
  have cr1 := fun W (hb : Below W0.heap.size W0 W) => R1.out W0 W hB4 hb
  have cr2 := fun W (hb : Below W0.heap.size W0 W) => R2.out W0 W hB4 hb
  have HB4 := Lib.hid hB4
  have HKS := Lib.hid hks
  have HSL := Lib.hid hsl
  have CT := Lib.hid ct
  have CS := Lib.hid cs
  have CR1 := Lib.hid cr1
  have CR2 := Lib.hid cr2
  clear hB4 hks hsl ct cs cr1 cr2 t1 m1 m2 d3 cv3 y1 y2 y3 R1 R2
  go_wp2_with fail
  go_region_held3 (fun w' => w'.cell? ⟨z1, 0, none⟩ = some (.slice a1 3 c1) ∧ w'.cell? ⟨z1, 1, none⟩ = some (.int .i64 50) ∧ w'.cell? ⟨z2, 0, none⟩ = some (.slice a2 0 c2) ∧ w'.cell? ⟨z3, 0, none⟩ = some (.slice (some ⟨b3, o3, none⟩) 1 c3) ∧ w'.cell? ⟨b3, o3, none⟩ = some (.bool true) ∧ w'.cell? ⟨b3, o3 + 1, none⟩ = some (.int .i64 5) ∧ w'.cell? ⟨b4, o4, none⟩ = some (.int .u8 2) ∧ w'.cell? ⟨b4, o4 + 1, none⟩ = some (.int .u8 5) ∧ w'.cell? ⟨b4, o4 + 2, none⟩ = some (.int .i64 (-4)) ∧ w'.cell? ⟨b4, o4 + 3, none⟩ = some (.int .i64 0) ∧ w'.cell? ⟨b4, o4 + 4, none⟩ = some (.int .i64 2) ∧ w'.cell? ⟨b4, o4 + 5, none⟩ = some (.int .u8 0) ∧ w'.cell? ⟨b4, o4 + 6, none⟩ = some (.int .i64 (-7)) ∧ w'.cell? ⟨b4, o4 + 7, none⟩ = some (.int .i64 0) ∧ w'.cell? ⟨b4, o4 + 8, none⟩ = some (.int .i64 0) ∧ w'.cell? ⟨b4, o4 + 9, none⟩ = some (.int .u8 4) ∧ w'.cell? ⟨b4, o4 + 9 + 1, none⟩ = some (.int .u8 1) ∧ w'.cell? ⟨b4, o4 + 9 + 2, none⟩ = some (.int .i64 0) ∧ w'.cell? ⟨b4, o4 + 9 + 3, none⟩ = some (.int .i64 0) ∧ w'.cell? ⟨b4, o4 + 9 + 4, none⟩ = some (.int .i64 0) ∧ w'.cell? ⟨b4, o4 + 9 + 5, none⟩ = some (.int .u8 0) ∧ w'.cell? ⟨b4, o4 + 9 + 6, none⟩ = some (.int .i64 9) ∧ w'.cell? ⟨b4, o4 + 9 + 7, none⟩ = some (.int .i64 0) ∧ w'.cell? ⟨b4, o4 + 9 + 8, none⟩ = some (.int .i64 0) ∧ Below W0.heap.size W0 w')
    (first | exact HKS.out _ ((Below.refl _ _).drew) | exact HKS.out _ (by assumption))
    (first
      | (go_at_call 91; refine (CT.out _ (HSL.out _ (by assumption))).mono ?_; rintro e w5 ⟨tv, rfl, htv, hb5⟩)
      | (go_at_call 37; refine (CS.out _ _ (HSL.out _ (by assumption)) (by assumption)).mono ?_; rintro e w6 ⟨rfl, hb6⟩)
      | (go_at_call 92; (with_reducible refine (CR1.out _ (HSL.out _ (by assumption))).mono ?_); rintro e w7 ⟨rfl, hb7⟩)
      | (go_at_call 92; (with_reducible refine (CR2.out _ (HSL.out _ (by assumption))).mono ?_); rintro e w8 ⟨rfl, hb8⟩))
  go_wp2_with fail
  go_ret
  exact ⟨rfl, HB4.out.trans (hb8.mono HB4.out.size)⟩
end Go.Proofs.YtafgincpoahefaaDoor
