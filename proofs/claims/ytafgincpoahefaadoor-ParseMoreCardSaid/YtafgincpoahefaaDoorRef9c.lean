/-
  straggleref09: term, cmp.
-/
import Derived.Test.YtafgincpoahefaaDoorRef9b
namespace Go.Proofs.YtafgincpoahefaaDoor
open Go.RowKit
attribute [local go_sem] Oper.semAt_some

theorem pTerm_num {l : List Tok} {t : Tok} {r : List Tok} (h : l = t :: r) (hk : t.kind ≠ 2) : pTerm l = thenR (pMay 45 l) fun x l1 => thenR (pTake 1 l1) fun n l2 => .ok (⟨0, if x = true then -n else n, 0, 0⟩, l2) := by
  subst h
  unfold pTerm pMay
  simp only [if_neg hk]
  cases hs : isS 45 (t :: r)
  · simp only [Bool.false_eq_true, if_false, thenR, pNum]
    cases pTake 1 (t :: r) with
    | error a => rfl
    | ok x => simp
  · simp only [if_true, thenR, pNum, List.tail_cons]
    cases pTake 1 r with
    | error a => rfl
    | ok x => simp
theorem pTerm_name {l : List Tok} {t : Tok} {r : List Tok} (h : l = t :: r) (hk : t.kind = 2) : pTerm l = if kindOf t.n = 0 then .error t.at' else pNamed (kindOf t.n) r := by
  subst h
  unfold pTerm
  simp only [if_pos hk]
theorem set_free {w : World} {b i : Nat} {v : Value} {a : Addr} (h : w.frozen? a = false) : (w.setCell ⟨b, i, none⟩ v).frozen? a = false := (World.frozen?_setCell _ _ _ _).trans h
theorem P9.far {ts : List Tok} {b blk off cap at0 : Nat} {bad : Bool} {w : World} (h : P9 ts b blk off cap at0 bad w) {p : Addr} (h1 : b ≠ p.block) (h2 : blk ≠ p.block) (v : Value) : P9 ts b blk off cap at0 bad (w.setCell p v) :=
  { h with
    hold := h.hold.far h1 v
    toks := h.toks.grown (row := some p.block) ⟨rfl, rfl, rfl, by simp [World.setCell], fun i _ hne => Below.heap_setCell w p v i (fun e => hne (by rw [e]))⟩ (fun e => h2 (Option.some.inj e)) }
theorem P9.alloc {ts : List Tok} {b blk off cap at0 : Nat} {bad : Bool} {w : World} (h : P9 ts b blk off cap at0 bad w) (o : Obj) : P9 ts b blk off cap at0 bad (w.alloc o) := h.later ((Below.refl _ _).alloc (Nat.le_refl _) o)
theorem P9.blk_lt {ts : List Tok} {b blk off cap at0 : Nat} {bad : Bool} {w : World} (h : P9 ts b blk off cap at0 bad w) (hlt : at0 < ts.length) : blk < w.heap.size := by
  have := (h.tok (List.getElem?_eq_getElem hlt)).1
  exact cell_lt this
set_option maxRecDepth 100000 in
set_option maxHeartbeats 4000000 in
theorem ref9_term_num (ts : List Tok) (b blk off cap at0 : Nat) (bad : Bool) (t : Tok) (ht : ts[at0]? = some t) (w : World) (h : P9 ts b blk off cap at0 bad w) (hk : bad = true ∨ t.kind ≠ 2) :
    Calls Tryd.prog 131 #[.pointer (some ⟨b, 0, none⟩)] w (R9 ts b blk off cap at0 bad (pTerm (ts.drop at0)) w fun t => .agg (tmV t).toArray) := by
  have hlt := (List.getElem?_eq_some_iff.1 ht).1
  have hb0 := (Below.refl w.heap.size w).alloc (Nat.le_refl _) (.cells #[.int .u8 0, .int .i64 0, .int .i64 0, .int .i64 0] 29)
  have h0 := h.later hb0
  have z0 := Holds.fresh w 29 #[.int .u8 0, .int .i64 0, .int .i64 0, .int .i64 0]
  have hbl := h.hold.size
  have hkl := h.blk_lt hlt
  have cn := ref9_now ts b blk off cap at0 bad t ht _ h0
  have cm := fun W (hP : P9 ts b blk off cap at0 bad W) => ref9_may ts b blk off cap at0 bad hlt 45 (by omega) (by omega) W hP
  have hpt : t.kind ≠ 2 → pTerm (ts.drop at0) = thenR (pMay 45 (ts.drop at0)) fun x l1 => thenR (pTake 1 l1) fun n l2 => .ok (⟨0, if x = true then -n else n, 0, 0⟩, l2) := fun e => pTerm_num (drop_at ht) e
  obtain ⟨⟨c0, c1, c2⟩, hf, _⟩ := h0.cells
  have F0 := tok_field0 t.kind t.n t.at'
  obtain ⟨k, n, x⟩ := t
  simp only at *
  have CN := Lib.hid cn; clear cn
  have CM := Lib.hid cm; clear cm
  have H0 := Lib.hid h0; clear h0
  have Z0 := Lib.hid z0; clear z0
  have HB0 := Lib.hid hb0; clear hb0
  clear c0 c1 hf h ht
  -- what is done from the first call on
  have hfin : ∀ (x : Bool) (z : Int) (at1 at2 : Nat) (bad1 bad2 : Bool), Out9 ts at0 bad (pMay 45 (ts.drop at0)) x at1 bad1 → Out9 ts at1 bad1 (pTake 1 (ts.drop at1)) z at2 bad2 →
      Out9 ts at0 bad (pTerm (ts.drop at0)) ⟨0, if x = true then -z else z, 0, 0⟩ at2 bad2 := fun x z at1 at2 bad1 bad2 o1 o2 => by
    have := o1.seq (f := fun x l1 => thenR (pTake 1 l1) fun n l2 => .ok ((⟨0, if x = true then -n else n, 0, 0⟩ : Tm), l2)) (o2.step (fun n => (⟨0, if x = true then -n else n, 0, 0⟩ : Tm)))
    refine this.to fun e => ?_
    rcases hk with hk | hk
    · rw [hk] at e; cases e
    · exact (hpt hk).symm
  have HFIN := Lib.hid hfin; clear hfin hpt
  have hend : ∀ (W w' : World) (x : Bool) (z : Int) (at1 at2 : Nat) (bad1 bad2 : Bool), Out9 ts at0 bad (pMay 45 (ts.drop at0)) x at1 bad1 → Out9 ts at1 bad1 (pTake 1 (ts.drop at1)) z at2 bad2 → P9 ts b blk off cap at2 bad2 W →
      (w.alloc (.cells #[.int .u8 0, .int .i64 0, .int .i64 0, .int .i64 0] 29)).grownBy W (some b) → w' = (((W.setCell ⟨w.heap.size, 0, none⟩ (.int .u8 0)).setCell ⟨w.heap.size, 1, none⟩ (.int .i64 (if x = true then -z else z))).setCell ⟨w.heap.size, 2, none⟩ (.int .i64 0)).setCell ⟨w.heap.size, 3, none⟩ (.int .i64 0) →
      Holds w' w.heap.size 29 #[.int .u8 0, .int .i64 (if x = true then -z else z), .int .i64 0, .int .i64 0] ∧
      R9 ts b blk off cap at0 bad (pTerm (ts.drop at0)) w (fun t => .agg (tmV t).toArray) (.returned (.agg #[.int .u8 0, .int .i64 (if x = true then -z else z), .int .i64 0, .int .i64 0])) w' := fun W w' x z at1 at2 bad1 bad2 o1 o2 hP hg hw' => by
    subst hw'
    have zW : Holds W w.heap.size 29 #[.int .u8 0, .int .i64 0, .int .i64 0, .int .i64 0] := Z0.out.grown hg (fun e => by have := Option.some.inj e; omega)
    have ne1 : b ≠ w.heap.size := by omega
    have ne2 : blk ≠ w.heap.size := by omega
    refine ⟨(((zW.set 0 _).set 1 _).set 2 _).set 3 _, _, at2, bad2, rfl, HFIN.out x z at1 at2 bad1 bad2 o1 o2, (((hP.far (p := ⟨w.heap.size, 0, none⟩) ne1 ne2 _).far (p := ⟨w.heap.size, 1, none⟩) ne1 ne2 _).far (p := ⟨w.heap.size, 2, none⟩) ne1 ne2 _).far (p := ⟨w.heap.size, 3, none⟩) ne1 ne2 _, ?_⟩
    have hg2 : w.grownBy W (some b) := (grown_of_below' HB0.out _).trans hg
    refine ⟨hg2.os, hg2.tape, hg2.output, by simpa [World.setCell] using hg2.size, fun i hi hne => ?_⟩
    rw [Below.heap_setCell _ ⟨w.heap.size, 3, none⟩ _ i (by show i ≠ w.heap.size; omega), Below.heap_setCell _ ⟨w.heap.size, 2, none⟩ _ i (by show i ≠ w.heap.size; omega), Below.heap_setCell _ ⟨w.heap.size, 1, none⟩ _ i (by show i ≠ w.heap.size; omega), Below.heap_setCell _ ⟨w.heap.size, 0, none⟩ _ i (by show i ≠ w.heap.size; omega)]
    exact hg2.block i hi hne
  have HEND := Lib.hid hend; clear hend
  cases bad
  · have hk2 : k ≠ 2 := hk.resolve_left (fun e => nomatch e)
    have hk' : (k == 2) = false := by simpa using hk2
    have hk'' : (k != 2) = true := by simpa using hk2
    clear hk hk2
    go_enter Tryd.func131, Tryd.ntmps131
    go_wp2_with fail
    refine CN.out.mono ?_
    rintro e w1 ⟨rfl, hb1⟩
    have HP1 := Lib.hid (H0.out.later hb1)
    have HG1 := Lib.hid (grown_of_below' hb1 (some b))
    clear hb1
    go_wp2_with fail
    refine (CM.out _ HP1.out).mono ?_
    rintro e w2 ⟨x, at1, bad1, rfl, o1, p1, g1⟩
    have O1 := Lib.hid o1
    have P1 := Lib.hid p1
    have G1 := Lib.hid (HG1.out.trans g1)
    have l1 := o1.lt
    clear o1 p1 g1
    have cm3 := ref9_mustn ts b blk off cap at1 bad1 l1 1 (by omega) (by omega) w2 P1.out
    have CM3 := Lib.hid cm3; clear cm3
    cases x
    all_goals
      go_wp2_with fail
      refine CM3.out.mono ?_
      rintro e w3 ⟨z, at2, bad2, rfl, ⟨hz0, hz1, _⟩, o2, p2, g2⟩
      have O2 := Lib.hid o2
      have P2 := Lib.hid p2
      have G2 := Lib.hid (G1.out.trans g2)
      have zW : Holds w3 w.heap.size 29 #[.int .u8 0, .int .i64 0, .int .i64 0, .int .i64 0] := Z0.out.grown G2.out (fun e => by have := Option.some.inj e; omega)
      have y0 : w3.cell? ⟨w.heap.size, 0, none⟩ = some (.int .u8 0) := zW.cell 0
      have y1 : w3.cell? ⟨w.heap.size, 1, none⟩ = some (.int .i64 0) := zW.cell 1
      have y2 : w3.cell? ⟨w.heap.size, 2, none⟩ = some (.int .i64 0) := zW.cell 2
      have y3 : w3.cell? ⟨w.heap.size, 3, none⟩ = some (.int .i64 0) := zW.cell 3
      have yf := zW.free
      clear o2 p2 g2 zW
      go_wp2_with fail
      obtain ⟨hh, hr⟩ := HEND.out w3 _ _ z at1 at2 bad1 bad2 O1.out O2.out P2.out G2.out rfl
      exact bodyPost_ret (results_one9 rfl _ _ w.heap.size 29 _ _ rfl hh Tryd.underlying29 rfl (by kernel_rfl)) rfl hr
  · clear hk
    go_enter Tryd.func131, Tryd.ntmps131
    go_wp2_with fail
    refine (CM.out _ H0.out).mono ?_
    rintro e w2 ⟨x, at1, bad1, rfl, o1, p1, g1⟩
    have O1 := Lib.hid o1
    have P1 := Lib.hid p1
    have G1 := Lib.hid ((World.grownBy.refl _ _).trans g1)
    have l1 := o1.lt
    clear o1 p1 g1
    have cm3 := ref9_mustn ts b blk off cap at1 bad1 l1 1 (by omega) (by omega) w2 P1.out
    have CM3 := Lib.hid cm3; clear cm3
    cases x
    all_goals
      go_wp2_with fail
      refine CM3.out.mono ?_
      rintro e w3 ⟨z, at2, bad2, rfl, ⟨hz0, hz1, _⟩, o2, p2, g2⟩
      have O2 := Lib.hid o2
      have P2 := Lib.hid p2
      have G2 := Lib.hid (G1.out.trans g2)
      have zW : Holds w3 w.heap.size 29 #[.int .u8 0, .int .i64 0, .int .i64 0, .int .i64 0] := Z0.out.grown G2.out (fun e => by have := Option.some.inj e; omega)
      have y0 : w3.cell? ⟨w.heap.size, 0, none⟩ = some (.int .u8 0) := zW.cell 0
      have y1 : w3.cell? ⟨w.heap.size, 1, none⟩ = some (.int .i64 0) := zW.cell 1
      have y2 : w3.cell? ⟨w.heap.size, 2, none⟩ = some (.int .i64 0) := zW.cell 2
      have y3 : w3.cell? ⟨w.heap.size, 3, none⟩ = some (.int .i64 0) := zW.cell 3
      have yf := zW.free
      clear o2 p2 g2 zW
      go_wp2_with fail
      obtain ⟨hh, hr⟩ := HEND.out w3 _ _ z at1 at2 bad1 bad2 O1.out O2.out P2.out G2.out rfl
      exact bodyPost_ret (results_one9 rfl _ _ w.heap.size 29 _ _ rfl hh Tryd.underlying29 rfl (by kernel_rfl)) rfl hr
end Go.Proofs.YtafgincpoahefaaDoor
