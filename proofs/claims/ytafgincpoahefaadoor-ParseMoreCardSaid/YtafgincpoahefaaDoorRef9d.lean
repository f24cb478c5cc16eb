/-
  straggleref09: term, of names; whole.
-/
import Derived.Test.YtafgincpoahefaaDoorRef9c
namespace Go.Proofs.YtafgincpoahefaaDoor
open Go.RowKit
attribute [local go_sem] Oper.semAt_some

theorem grown_set_new {w W : World} {row : Option Nat} (h : w.grownBy W row) {p : Addr} (hp : w.heap.size ≤ p.block) (v : Value) : w.grownBy (W.setCell p v) row :=
  ⟨h.os, h.tape, h.output, by simpa [World.setCell] using h.size, fun i hi hne => (Below.heap_setCell W p v i (by omega)).trans (h.block i hi hne)⟩
/-- a parser, and two blocks of the call's own: what is told, what is being made -/
structure S9 (w : World) (ts : List Tok) (b blk off cap : Nat) (rt tt : TypeId) (rb tb : Nat) (rc tc : Array Value) (at0 : Nat) (bad : Bool) (W : World) : Prop where
  p : P9 ts b blk off cap at0 bad W
  r : Holds W rb rt rc
  t : Holds W tb tt tc
  g : w.grownBy W (some b)
  n1 : b < w.heap.size ∧ blk < w.heap.size
  n2 : w.heap.size ≤ rb ∧ w.heap.size ≤ tb ∧ rb ≠ tb
section
variable {w W W' : World} {ts : List Tok} {b blk off cap rb tb at0 at1 : Nat} {rt tt : TypeId} {rc tc : Array Value} {bad bad1 : Bool}
theorem S9.move (h : S9 w ts b blk off cap rt tt rb tb rc tc at0 bad W) (hp : P9 ts b blk off cap at1 bad1 W') (hg : W.grownBy W' (some b)) : S9 w ts b blk off cap rt tt rb tb rc tc at1 bad1 W' :=
  ⟨hp, h.r.grown hg (fun e => by have := Option.some.inj e; have := h.n1; have := h.n2; omega), h.t.grown hg (fun e => by have := Option.some.inj e; have := h.n1; have := h.n2; omega), h.g.trans hg, h.n1, h.n2⟩
theorem S9.setT (h : S9 w ts b blk off cap rt tt rb tb rc tc at0 bad W) (i : Nat) (v : Value) : S9 w ts b blk off cap rt tt rb tb rc (tc.setIfInBounds i v) at0 bad (W.setCell ⟨tb, i, none⟩ v) :=
  ⟨h.p.far (p := ⟨tb, i, none⟩) (by have := h.n1; have := h.n2; show b ≠ tb; omega) (by have := h.n1; have := h.n2; show blk ≠ tb; omega) v, h.r.far (p := ⟨tb, i, none⟩) h.n2.2.2 v, h.t.set i v, grown_set_new h.g h.n2.2.1 v, h.n1, h.n2⟩
theorem S9.setR (h : S9 w ts b blk off cap rt tt rb tb rc tc at0 bad W) (i : Nat) (v : Value) : S9 w ts b blk off cap rt tt rb tb (rc.setIfInBounds i v) tc at0 bad (W.setCell ⟨rb, i, none⟩ v) :=
  ⟨h.p.far (p := ⟨rb, i, none⟩) (by have := h.n1; have := h.n2; show b ≠ rb; omega) (by have := h.n1; have := h.n2; show blk ≠ rb; omega) v, h.r.set i v, h.t.far (p := ⟨rb, i, none⟩) h.n2.2.2.symm v, grown_set_new h.g h.n2.1 v, h.n1, h.n2⟩
end

set_option maxRecDepth 100000 in
set_option maxHeartbeats 4000000 in
theorem ref9_term_none (ts : List Tok) (b blk off cap at0 : Nat) (t : Tok) (ht : ts[at0]? = some t) (w : World) (h : P9 ts b blk off cap at0 false w) (hk : t.kind = 2) (h0 : kindOf t.n = 0) :
    Calls Tryd.prog 131 #[.pointer (some ⟨b, 0, none⟩)] w (R9 ts b blk off cap at0 false (pTerm (ts.drop at0)) w fun t => .agg (tmV t).toArray) := by
  have hlt := (List.getElem?_eq_some_iff.1 ht).1
  have hb0 := (Below.refl w.heap.size w).alloc (Nat.le_refl _) (.cells #[.int .u8 0, .int .i64 0, .int .i64 0, .int .i64 0] 29)
  have hP0 := h.later hb0
  have z0 := Holds.fresh w 29 #[.int .u8 0, .int .i64 0, .int .i64 0, .int .i64 0]
  have hbl := h.hold.size
  have hkl := h.blk_lt hlt
  have cn := fun W hP => ref9_now ts b blk off cap at0 false t ht W hP
  have hpt : pTerm (ts.drop at0) = .error (headAt (ts.drop at0)) := by rw [pTerm_name (drop_at ht) hk, if_pos h0, drop_at ht]; rfl
  obtain ⟨⟨c0, c1, c2⟩, hf, _⟩ := hP0.cells
  have F0 := tok_field0 t.kind t.n t.at'
  have F1 := tok_field1 t.kind t.n t.at'
  have ck := fun W => ref9_kind t.n W
  rw [h0] at ck
  obtain ⟨k, n, x⟩ := t
  simp only at *
  subst hk
  have CN := Lib.hid cn; clear cn
  have CK := Lib.hid ck; clear ck
  have H0 := Lib.hid hP0; clear hP0
  have Z0 := Lib.hid z0; clear z0
  have HB0 := Lib.hid hb0; clear hb0
  have HPT := Lib.hid hpt; clear hpt
  clear c0 c1 hf h ht h0
  go_enter Tryd.func131, Tryd.ntmps131
  go_wp2_with fail
  refine (CN.out _ H0.out).mono ?_
  rintro e w1 ⟨rfl, hb1⟩
  have HP1 := Lib.hid (H0.out.later hb1)
  have HB1 := Lib.hid hb1
  clear hb1
  go_wp2_with fail
  refine (CN.out _ HP1.out).mono ?_
  rintro e w2 ⟨rfl, hb2⟩
  have hp2 := HP1.out.later hb2
  obtain ⟨⟨x0, x1, x2⟩, xf, xl⟩ := hp2.cells
  have hB := HB0.out.trans ((HB1.out.trans (hb2.mono HB1.out.size)).mono (by simp))
  have zz := (Z0.out.later HB1.out).later hb2
  have y0 : w2.cell? ⟨w.heap.size, 0, none⟩ = some (.int .u8 0) := zz.cell 0
  have y1 : w2.cell? ⟨w.heap.size, 1, none⟩ = some (.int .i64 0) := zz.cell 1
  have y2 : w2.cell? ⟨w.heap.size, 2, none⟩ = some (.int .i64 0) := zz.cell 2
  have y3 : w2.cell? ⟨w.heap.size, 3, none⟩ = some (.int .i64 0) := zz.cell 3
  have yf := zz.free
  have yl := zz.size
  have HP2 := Lib.hid hp2; clear hp2
  have HB2 := Lib.hid hB; clear hB hb2
  have ZZ := Lib.hid zz; clear zz
  go_wp2_with fail
  refine (CK.out _).mono ?_
  rintro e w3 ⟨rfl, rfl⟩
  go_wp2_with fail
  have ne1 : b ≠ w.heap.size := by omega
  have ne2 : blk ≠ w.heap.size := by omega
  have hr := (((((ZZ.out.far (p := ⟨b, 2, none⟩) ne1.symm (.bool true)).set 0 (.int .u8 0)).set 1 (.int .i64 0)).set 2 (.int .i64 0)).set 3 (.int .i64 0)).alloc (.cells #[.int .u8 0, .int .i64 0, .int .i64 0, .int .i64 0] 29)
  refine bodyPost_ret (results_one9 rfl _ _ w.heap.size 29 #[.int .u8 0, .int .i64 0, .int .i64 0, .int .i64 0] _ rfl hr Tryd.underlying29 rfl (by kernel_rfl)) rfl ?_
  refine ⟨⟨0, 0, 0, 0⟩, at0, true, rfl, by rw [HPT.out]; exact Out9.stop hlt _, (((((HP2.out.setBad true).far (p := ⟨w.heap.size, 0, none⟩) ne1 ne2 _).far (p := ⟨w.heap.size, 1, none⟩) ne1 ne2 _).far (p := ⟨w.heap.size, 2, none⟩) ne1 ne2 _).far (p := ⟨w.heap.size, 3, none⟩) ne1 ne2 _).alloc _, ?_⟩
  have g0 : w.grownBy (w2.setCell ⟨b, 2, none⟩ (.bool true)) (some b) := (grown_of_below' HB2.out _).trans (Lib.grownBy_setCell _ _ _ _)
  exact (grown_set_new (grown_set_new (grown_set_new (grown_set_new g0 (p := ⟨w.heap.size, 0, none⟩) (Nat.le_refl _) _) (p := ⟨w.heap.size, 1, none⟩) (Nat.le_refl _) _) (p := ⟨w.heap.size, 2, none⟩) (Nat.le_refl _) _) (p := ⟨w.heap.size, 3, none⟩) (Nat.le_refl _) _).trans (World.grownBy_alloc _ _ _)

theorem two_of_kind (n : Int) (h : kindOf n ≠ 0) : (kindOf n == 5 || kindOf n == 6) = decide (5 ≤ kindOf n) := by
  have := kindOf_bd n
  have h2 : kindOf n = 1 ∨ kindOf n = 2 ∨ kindOf n = 3 ∨ kindOf n = 4 ∨ kindOf n = 5 ∨ kindOf n = 6 := by omega
  rcases h2 with h | h | h | h | h | h <;> rw [h] <;> rfl
theorem nextAt_go {ts : List Tok} {at0 : Nat} (h : at0 + 1 < ts.length) : nextAt ts at0 false = at0 + 1 := by unfold nextAt; rw [if_pos ⟨rfl, h⟩]
set_option maxRecDepth 100000 in
set_option maxHeartbeats 8000000 in
theorem ref9_term_name (ts : List Tok) (b blk off cap at0 : Nat) (t : Tok) (ht : ts[at0]? = some t) (w : World) (h : P9 ts b blk off cap at0 false w) (hk : t.kind = 2) (h0 : kindOf t.n ≠ 0) :
    Calls Tryd.prog 131 #[.pointer (some ⟨b, 0, none⟩)] w (R9 ts b blk off cap at0 false (pTerm (ts.drop at0)) w fun t => .agg (tmV t).toArray) := by
  have hlt := (List.getElem?_eq_some_iff.1 ht).1
  have hlt1 := h.ends.next ht (by omega)
  have hb0 := (Below.refl w.heap.size w).alloc (Nat.le_refl _) (.cells #[.int .u8 0, .int .i64 0, .int .i64 0, .int .i64 0] 29)
  have hP0 := h.later hb0
  have z0 := Holds.fresh w 29 #[.int .u8 0, .int .i64 0, .int .i64 0, .int .i64 0]
  have hbl := h.hold.size
  have hkl := h.blk_lt hlt
  have cn := fun W hP => ref9_now ts b blk off cap at0 false t ht W hP
  have cgo := fun W hP => ref9_go1 ts b blk off cap at0 false hlt W hP
  rw [nextAt_go hlt1] at cgo
  have hpt : pTerm (ts.drop at0) = pNamed (kindOf t.n) (ts.drop (at0 + 1)) := by rw [pTerm_name (drop_at ht) hk, if_neg h0]
  have hogo : Out9 ts at0 false (.ok ((), (ts.drop at0).tail)) () (at0 + 1) false := Out9.goes hlt1 ()
  have htl : (ts.drop at0).tail = ts.drop (at0 + 1) := by simp
  rw [htl] at hogo
  obtain ⟨⟨c0, c1, c2⟩, hf, _⟩ := hP0.cells
  have F0 := tok_field0 t.kind t.n t.at'
  have F1 := tok_field1 t.kind t.n t.at'
  have ck := fun W => ref9_kind t.n W
  have htwo := two_of_kind t.n h0
  obtain ⟨kb1, kb2⟩ := kindOf_bd t.n
  generalize kindOf t.n = K at *
  obtain ⟨k, n, x⟩ := t
  simp only at *
  subst hk
  have hK0 : (K == 0) = false := by simpa using h0
  have CN := Lib.hid cn; clear cn
  have CK := Lib.hid ck; clear ck
  have CGO := Lib.hid cgo; clear cgo
  have H0 := Lib.hid hP0; clear hP0
  have Z0 := Lib.hid z0; clear z0
  have HB0 := Lib.hid hb0; clear hb0
  have HPT := Lib.hid hpt; clear hpt
  have HOGO := Lib.hid hogo; clear hogo
  have HTWO := Lib.hid htwo; clear htwo
  clear c0 c1 hf h ht h0 htl
  go_enter Tryd.func131, Tryd.ntmps131
  go_wp2_with fail
  refine (CN.out _ H0.out).mono ?_
  rintro e w1 ⟨rfl, hb1⟩
  have HP1 := Lib.hid (H0.out.later hb1)
  have HB1 := Lib.hid hb1
  clear hb1
  go_wp2_with fail
  refine (CN.out _ HP1.out).mono ?_
  rintro e w2 ⟨rfl, hb2⟩
  have hp2 := HP1.out.later hb2
  have hB := HB0.out.trans ((HB1.out.trans (hb2.mono HB1.out.size)).mono (by simp))
  have zz := (Z0.out.later HB1.out).later hb2
  have s2 : S9 w ts b blk off cap 29 29 w.heap.size w2.heap.size #[.int .u8 0, .int .i64 0, .int .i64 0, .int .i64 0] #[.int .u8 K, .int .i64 0, .int .i64 0, .int .i64 0] at0 false (w2.alloc (.cells #[.int .u8 K, .int .i64 0, .int .i64 0, .int .i64 0] 29)) :=
    ⟨hp2.alloc _, zz.alloc _, Holds.fresh _ _ _, (grown_of_below' hB _).trans (World.grownBy_alloc _ _ _), ⟨hbl, hkl⟩, Nat.le_refl _, hB.size, by have := zz.size; omega⟩
  have S2 := Lib.hid s2; clear s2 hp2 hB hb2 zz
  go_wp2_with fail
  refine (CK.out _).mono ?_
  rintro e w3 ⟨rfl, rfl⟩
  go_wp2_with fail
  refine (CGO.out _ S2.out.p).mono ?_
  rintro e w4 ⟨rfl, p4, g4⟩
  have s4 := S2.out.move p4 g4
  generalize w2.heap.size = tb at *
  have S4 := Lib.hid s4; clear s4 p4 g4
  have c5 := ref9_sign ts b blk off cap (at0 + 1) false hlt1 40 (by omega) (by omega) w4 S4.out.p
  have C5 := Lib.hid c5; clear c5
  go_wp2_with fail
  refine C5.out.mono ?_
  rintro e w5 ⟨a5, d5, rfl, o5, p5, g5⟩
  have S5 := Lib.hid (S4.out.move p5 g5)
  have O5 := Lib.hid o5
  have l5 := o5.lt
  clear o5 p5 g5
  have c6 := ref9_mustn ts b blk off cap a5 d5 l5 2 (by omega) (by omega) w5 S5.out.p
  have C6 := Lib.hid c6; clear c6
  go_wp2_with fail
  refine C6.out.mono ?_
  rintro e w6 ⟨x6, a6, d6, rfl, _, o6, p6, g6⟩
  have s6 := S5.out.move p6 g6
  have y2 : w6.cell? ⟨tb, 2, none⟩ = some (.int .i64 0) := s6.t.cell 2
  have y0 : w6.cell? ⟨tb, 0, none⟩ = some (.int .u8 K) := s6.t.cell 0
  have yf := s6.t.free
  have yl := s6.t.size
  have S6 := Lib.hid (s6.setT 2 (.int .i64 x6))
  have O6 := Lib.hid o6
  have l6 := o6.lt
  clear o6 p6 g6 s6
  by_cases h5 : 5 ≤ K
  · have HTW : (K == 5 || K == 6) = true := by rw [HTWO.out]; simpa using h5
    have hd5 : decide (5 ≤ K) = true := by simpa using h5
    have HTW := Lib.hid HTW
    have c7 := ref9_sign ts b blk off cap a6 d6 l6 44 (by omega) (by omega) _ S6.out.p
    have C7 := Lib.hid c7; clear c7
    go_wp2_with fail
    refine C7.out.mono ?_
    rintro e w7 ⟨a7, d7, rfl, o7, p7, g7⟩
    have S7 := Lib.hid (S6.out.move p7 g7)
    have O7 := Lib.hid o7
    have l7 := o7.lt
    clear o7 p7 g7 y0 y2 yf yl
    have c8 := ref9_mustn ts b blk off cap a7 d7 l7 2 (by omega) (by omega) w7 S7.out.p
    have C8 := Lib.hid c8; clear c8
    go_wp2_with fail
    refine C8.out.mono ?_
    rintro e w8 ⟨x8, a8, d8, rfl, _, o8, p8, g8⟩
    have s8 := S7.out.move p8 g8
    have y3 : w8.cell? ⟨tb, 3, none⟩ = some (.int .i64 0) := s8.t.cell 3
    have yf := s8.t.free
    have yl := s8.t.size
    have S8 := Lib.hid (s8.setT 3 (.int .i64 x8))
    have O8 := Lib.hid o8
    have l8 := o8.lt
    clear o8 p8 g8 s8
    have c9 := ref9_sign ts b blk off cap a8 d8 l8 41 (by omega) (by omega) _ S8.out.p
    have C9 := Lib.hid c9; clear c9
    go_wp2_with fail
    refine C9.out.mono ?_
    rintro e w9 ⟨a9, d9, rfl, o9, p9, g9⟩
    have S9' := Lib.hid (S8.out.move p9 g9)
    have O9 := Lib.hid o9
    have l9 := o9.lt
    clear o9 p9 g9
    have c10 := ref9_more ts b blk off cap a9 d9 l9 w9 S9'.out.p
    have C10 := Lib.hid c10; clear c10
    go_wp2_with fail
    refine C10.out.mono ?_
    rintro e w10 ⟨x10, a10, d10, rfl, o10, p10, g10⟩
    have s10 := S9'.out.move p10 g10
    have z0 : w10.cell? ⟨tb, 0, none⟩ = some (.int .u8 K) := s10.t.cell 0
    have z1 : w10.cell? ⟨tb, 1, none⟩ = some (.int .i64 0) := s10.t.cell 1
    have z2 : w10.cell? ⟨tb, 2, none⟩ = some (.int .i64 x6) := s10.t.cell 2
    have z3 : w10.cell? ⟨tb, 3, none⟩ = some (.int .i64 x8) := s10.t.cell 3
    have zf := s10.t.free
    have zl := s10.t.size
    have v0 : w10.cell? ⟨w.heap.size, 0, none⟩ = some (.int .u8 0) := s10.r.cell 0
    have v1 : w10.cell? ⟨w.heap.size, 1, none⟩ = some (.int .i64 0) := s10.r.cell 1
    have v2 : w10.cell? ⟨w.heap.size, 2, none⟩ = some (.int .i64 0) := s10.r.cell 2
    have v3 : w10.cell? ⟨w.heap.size, 3, none⟩ = some (.int .i64 0) := s10.r.cell 3
    have vf := s10.r.free
    have vl := s10.r.size
    have hne := s10.n2.2.2
    have SF := Lib.hid (((((s10.setT 1 (.int .i64 x10)).setR 0 (.int .u8 K)).setR 1 (.int .i64 x10)).setR 2 (.int .i64 x6)).setR 3 (.int .i64 x8))
    have O10 := Lib.hid o10
    clear o10 p10 g10 s10
    go_wp2_with fail
    refine bodyPost_ret (results_one9 rfl _ _ w.heap.size 29 #[.int .u8 K, .int .i64 x10, .int .i64 x6, .int .i64 x8] _ rfl SF.out.r Tryd.underlying29 rfl (by kernel_rfl)) rfl ?_
    refine ⟨⟨K, x10, x6, x8⟩, a10, d10, rfl, ?_, SF.out.p, SF.out.g⟩
    rw [HPT.out]
    have hN : Out9 ts a5 d5 (pNames (K == 5 || K == 6) (ts.drop a5)) (x6, x8) a8 d8 := by
      rw [HTW.out]
      exact O6.out.seq (f := fun a l => thenR (pSign 44 l) fun _ l => thenR (pTake 2 l) fun b l => .ok ((a, b), l)) (O7.out.seq (f := fun _ l => thenR (pTake 2 l) fun b l => .ok ((x6, b), l)) (O8.out.step (fun b => (x6, b))))
    exact HOGO.out.seq (f := fun _ l => pNamed K l) (O5.out.seq (f := fun _ l => thenR (pNames (K == 5 || K == 6) l) fun ab l => thenR (pSign 41 l) fun _ l => thenR (pMore l) fun n l => .ok ((⟨K, n, ab.1, ab.2⟩ : Tm), l))
      (hN.seq (f := fun ab l => thenR (pSign 41 l) fun _ l => thenR (pMore l) fun n l => .ok ((⟨K, n, ab.1, ab.2⟩ : Tm), l)) (O9.out.seq (f := fun _ l => thenR (pMore l) fun n l => .ok ((⟨K, n, x6, x8⟩ : Tm), l)) (O10.out.step (fun n => (⟨K, n, x6, x8⟩ : Tm))))))
  · have HTW : (K == 5 || K == 6) = false := by rw [HTWO.out]; simpa using h5
    have hd5 : decide (5 ≤ K) = false := by simpa using h5
    have HTW := Lib.hid HTW
    have c9 := ref9_sign ts b blk off cap a6 d6 l6 41 (by omega) (by omega) _ S6.out.p
    have C9 := Lib.hid c9; clear c9
    go_wp2_with fail
    refine C9.out.mono ?_
    rintro e w9 ⟨a9, d9, rfl, o9, p9, g9⟩
    have S9' := Lib.hid (S6.out.move p9 g9)
    have O9 := Lib.hid o9
    have l9 := o9.lt
    clear o9 p9 g9
    have c10 := ref9_more ts b blk off cap a9 d9 l9 w9 S9'.out.p
    have C10 := Lib.hid c10; clear c10
    go_wp2_with fail
    refine C10.out.mono ?_
    rintro e w10 ⟨x10, a10, d10, rfl, o10, p10, g10⟩
    have s10 := S9'.out.move p10 g10
    have z0 : w10.cell? ⟨tb, 0, none⟩ = some (.int .u8 K) := s10.t.cell 0
    have z1 : w10.cell? ⟨tb, 1, none⟩ = some (.int .i64 0) := s10.t.cell 1
    have z2 : w10.cell? ⟨tb, 2, none⟩ = some (.int .i64 x6) := s10.t.cell 2
    have z3 : w10.cell? ⟨tb, 3, none⟩ = some (.int .i64 0) := s10.t.cell 3
    have zf := s10.t.free
    have zl := s10.t.size
    have v0 : w10.cell? ⟨w.heap.size, 0, none⟩ = some (.int .u8 0) := s10.r.cell 0
    have v1 : w10.cell? ⟨w.heap.size, 1, none⟩ = some (.int .i64 0) := s10.r.cell 1
    have v2 : w10.cell? ⟨w.heap.size, 2, none⟩ = some (.int .i64 0) := s10.r.cell 2
    have v3 : w10.cell? ⟨w.heap.size, 3, none⟩ = some (.int .i64 0) := s10.r.cell 3
    have vf := s10.r.free
    have vl := s10.r.size
    have hne := s10.n2.2.2
    have SF := Lib.hid (((((s10.setT 1 (.int .i64 x10)).setR 0 (.int .u8 K)).setR 1 (.int .i64 x10)).setR 2 (.int .i64 x6)).setR 3 (.int .i64 0))
    have O10 := Lib.hid o10
    clear o10 p10 g10 s10
    go_wp2_with fail
    refine bodyPost_ret (results_one9 rfl _ _ w.heap.size 29 #[.int .u8 K, .int .i64 x10, .int .i64 x6, .int .i64 0] _ rfl SF.out.r Tryd.underlying29 rfl (by kernel_rfl)) rfl ?_
    refine ⟨⟨K, x10, x6, 0⟩, a10, d10, rfl, ?_, SF.out.p, SF.out.g⟩
    rw [HPT.out]
    have hN : Out9 ts a5 d5 (pNames (K == 5 || K == 6) (ts.drop a5)) (x6, 0) a6 d6 := by
      rw [HTW.out]
      exact O6.out.step (fun a => (a, (0 : Int)))
    exact HOGO.out.seq (f := fun _ l => pNamed K l) (O5.out.seq (f := fun _ l => thenR (pNames (K == 5 || K == 6) l) fun ab l => thenR (pSign 41 l) fun _ l => thenR (pMore l) fun n l => .ok ((⟨K, n, ab.1, ab.2⟩ : Tm), l))
      (hN.seq (f := fun ab l => thenR (pSign 41 l) fun _ l => thenR (pMore l) fun n l => .ok ((⟨K, n, ab.1, ab.2⟩ : Tm), l)) (O9.out.seq (f := fun _ l => thenR (pMore l) fun n l => .ok ((⟨K, n, x6, 0⟩ : Tm), l)) (O10.out.step (fun n => (⟨K, n, x6, 0⟩ : Tm))))))
theorem ref9_term (ts : List Tok) (b blk off cap at0 : Nat) (bad : Bool) (hlt : at0 < ts.length) (w : World) (h : P9 ts b blk off cap at0 bad w) :
    Calls Tryd.prog 131 #[.pointer (some ⟨b, 0, none⟩)] w (R9 ts b blk off cap at0 bad (pTerm (ts.drop at0)) w fun t => .agg (tmV t).toArray) := by
  have ht : ts[at0]? = some ts[at0] := List.getElem?_eq_getElem hlt
  by_cases hk : bad = true ∨ ts[at0].kind ≠ 2
  · exact ref9_term_num ts b blk off cap at0 bad _ ht w h hk
  · obtain rfl : bad = false := by
      cases bad with
      | false => rfl
      | true => exact absurd (.inl rfl) hk
    have hk2 : ts[at0].kind = 2 := by
      rcases Decidable.em (ts[at0].kind = 2) with e | e
      · exact e
      · exact absurd (.inr e) hk
    by_cases h0 : kindOf ts[at0].n = 0
    · exact ref9_term_none ts b blk off cap at0 _ ht w h hk2 h0
    · exact ref9_term_name ts b blk off cap at0 _ ht w h hk2 h0
end Go.Proofs.YtafgincpoahefaaDoor
