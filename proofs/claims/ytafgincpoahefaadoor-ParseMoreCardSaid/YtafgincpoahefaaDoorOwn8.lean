/-
  straggleref08.Own: a pattern's own copy.
-/
import Derived.Test.YtafgincpoahefaaDoorParL3
import Derived.Laws.AppendOwnNone
namespace Go.Proofs.YtafgincpoahefaaDoor
open Go.RowKit
attribute [local go_sem] Oper.semAt_some

/-- comparisons that lie in memory are appended to a row of the call's own -/
theorem wpList_append_cmps {P : Program} {w : World} {ops : Array Oper} {rest : List Oper} {o : Oper} {a : Act} {Q : Exit → Act → World → Prop} (hgd : o.guard = none) (s x : Operand) (t : TypeId) (ho : o.op = .call { callee := .builtin .append, args := #[s, x], argTypes := #[t, t] })
    (base : Nat) (e : TypeId) (i : TypeInfo) (z : Value) (ht : P.underlying t = some (.slice e)) (hi : P.info? e = some i) (hz : i.zero = some z) (hsize : i.size = 9) (hby : i.bytes = 72) (hzs : z.cells.size = 9)
    (v : Value) (hs : a.eval s = v) (hown : w.ownsRow base e 9 v 0 []) (y : Value) (hx : a.eval x = y) (cs : List Cm) (hy : CmpsV w y cs) (hl : cs.length ≤ 4000) (hbase : base ≤ w.heap.size)
    (h : ∀ v' w', w'.ownsRow base e 9 v' cs.length (cs.flatMap cmV) → w.grownBy w' v.ownBlock → wpList P ops Q rest (a.put o.dst v') w') : wpList P ops Q (o :: rest) a w := by
  obtain ⟨src, c, rfl, hc, _, hnil, hat⟩ := hy
  cases src with
  | none =>
    have hc0 : cs = [] := by
      rcases hat with h | ⟨b, off, ha, _⟩
      · exact h
      · cases ha
    subst hc0
    obtain rfl := hnil rfl
    refine wpList_append_own_none hgd s x t ho base e i 9 ht hi v 0 [] hs hown hx (h v w ?_ ⟨rfl, rfl, rfl, Nat.le_refl _, fun _ _ _ => rfl⟩)
    simpa using hown
  | some ad =>
    refine wpList_append_own _ hgd s x t ho base e i z 9 72 ht hi hz hsize hby hzs (by decide) v 0 [] hs hown ad cs.length c (cs.flatMap cmV) hx (flat_cm_len cs) (fun j u hj => ?_) (fun u hu => ?_) (by unfold maxLen; omega) (by omega) hbase (fun v' w' h1 h2 _ => h v' w' (by simpa using h1) h2)
    · rcases hat with rfl | ⟨b, off, e, hat⟩
      · simp at hj
      · cases e
        have hjl := (List.getElem?_eq_some_iff.1 hj).1
        rw [flat_cm_len] at hjl
        have hq : j / 9 < cs.length := by omega
        have h1 := hat (j / 9) cs[j / 9] (List.getElem?_eq_getElem hq) (j % 9)
        have hlen9 : (cmV cs[j / 9]).length = 9 := rfl
        have h2 := flat_cm_get cs (j / 9) cs[j / 9] (List.getElem?_eq_getElem hq) (j % 9) ((cmV cs[j / 9])[j % 9]'(by omega)) (List.getElem?_eq_getElem (by omega))
        rw [show j / 9 * 9 + j % 9 = j by omega, hj] at h2
        have h3 := h1 _ (List.getElem?_eq_getElem (by omega))
        rw [show off + j / 9 * 9 + j % 9 = off + j by omega] at h3
        rw [show (⟨b, off, none⟩ : Addr).add j = ⟨b, off + j, none⟩ by unfold Addr.add; split <;> simp_all, h3]
        exact h2.symm
    · obtain ⟨c', _, hc'⟩ := List.mem_flatMap.1 hu
      simp only [cmV, List.mem_cons, List.not_mem_nil, or_false] at hc'
      rcases hc' with rfl | rfl | rfl | rfl | rfl | rfl | rfl | rfl | rfl <;> rfl
/-- a copy that is being made: its block is pb -/
structure O8 (w : World) (pb : Nat) (L : List (St × Value)) (v : Value) (win : Int) (W : World) : Prop where
  o : Holds W pb 24 #[v, .int .i64 win]
  row : W.ownsRow w.heap.size 27 6 v L.length (stCells L)
  cm : ∀ p ∈ L, W.ownsRow w.heap.size 31 9 p.2 p.1.cmps.length (p.1.cmps.flatMap cmV)
  g : Below w.heap.size w W
  n : w.heap.size ≤ pb
section
variable {w W W' : World} {pb : Nat} {L : List (St × Value)} {v v' : Value} {win : Int}
theorem O8.newer (h : O8 w pb L v win W) (hg : W.grownBy W' none) : O8 w pb L v win W' :=
  ⟨h.o.grown hg (by simp), h.row.kept hg (by cases v.ownBlock with
      | none => exact .inl rfl
      | some b => exact .inr (by simp)), fun p hp => (h.cm p hp).kept hg (by cases p.2.ownBlock with
      | none => exact .inl rfl
      | some b => exact .inr (by simp)), h.g.grown hg h.g.size (fun k e => nomatch e), h.n⟩
theorem O8.app (h : O8 w pb L v win W) {s : St} {u : Value} (hc : W.ownsRow w.heap.size 31 9 u s.cmps.length (s.cmps.flatMap cmV)) (hg : W.grownBy W' v.ownBlock)
    (hr : W'.ownsRow w.heap.size 27 6 v' (L.length + 1) (stCells L ++ stV s u)) : O8 w pb (L ++ [(s, u)]) v' win (W'.setCell ⟨pb, 0, none⟩ v') := by
  have ho : Holds W' pb 24 #[v, .int .i64 win] := h.o.grown hg (holds_not_row h.o (by decide) h.row)
  have hcm : ∀ p ∈ L ++ [(s, u)], W.ownsRow w.heap.size 31 9 p.2 p.1.cmps.length (p.1.cmps.flatMap cmV) := fun p hp => by
    rcases List.mem_append.1 hp with hp | hp
    · exact h.cm p hp
    · obtain rfl := List.mem_singleton.1 hp; exact hc
  have hcm' : ∀ p ∈ L ++ [(s, u)], W'.ownsRow w.heap.size 31 9 p.2 p.1.cmps.length (p.1.cmps.flatMap cmV) := fun p hp => (hcm p hp).kept hg (rows_apart (hcm p hp) h.row (by decide))
  have hs := Lib.grownBy_setCell W' pb 0 v'
  refine ⟨ho.set 0 v', ?_, fun p hp => (hcm' p hp).kept hs (.inr (holds_not_row ho (by decide) (hcm' p hp)).symm), (h.g.grown hg h.g.size (fun k e => (h.row.lt k e).1)).setCell (p := ⟨pb, 0, none⟩) h.n v', h.n⟩
  have e : stCells (L ++ [(s, u)]) = stCells L ++ stV s u := by simp [stCells]
  rw [e, List.length_append]
  exact hr.kept hs (.inr (holds_not_row ho (by decide) hr).symm)
end
set_option maxRecDepth 100000 in
set_option maxHeartbeats 8000000 in
theorem ref8_Own (ss : List St) (win : Int) (hss : ss.length ≤ 4000) (hcl : ∀ s ∈ ss, s.cmps.length ≤ 4000) (N : Nat) (hN : ss.length = N) (a0 : Option Addr) (c0 : Nat) (w : World) (hv : StepsV w (.slice a0 N c0) ss) :
    Calls Tryd.prog 55 #[.agg #[.slice a0 N c0, .int .i64 win]] w fun e w' => ∃ (u : Option Addr) (uc : Nat) (L : List (St × Value)), e = .returned (.agg #[.slice u N uc, .int .i64 win]) ∧ L.map Prod.fst = ss ∧ w'.ownsRow w.heap.size 27 6 (.slice u N uc) N (stCells L) ∧
      (∀ q ∈ L, w'.ownsRow w.heap.size 31 9 q.2 q.1.cmps.length (q.1.cmps.flatMap cmV)) ∧ Below w.heap.size w w' := by
  obtain ⟨i1, hj', hy0, hy1', hy2'⟩ := info_parts step_info'
  obtain ⟨i0, hi, hz0, hz1, hz2⟩ := info_parts cmp_info
  have HV := Lib.hid hv
  have HN := Lib.hid hN
  have HCL := Lib.hid hcl
  clear hv hcl
  go_enter Tryd.func55, Tryd.ntmps55
  go_wp2_with fail
  have o0 : O8 w w.heap.size [] (.slice none 0 0) win ((w.alloc (.cells #[.slice none 0 0, .int .i64 win] 24)).alloc (.cells #[.slice none 0 0, .int .i64 0] 24)) :=
    ⟨(Holds.fresh w _ _).alloc _, World.ownsRow_nil _ _ _ _, (fun p hp => nomatch hp), ((Below.refl _ _).alloc (Nat.le_refl _) _).alloc (by simp) _, Nat.le_refl _⟩
  have r0 := Holds.fresh (w.alloc (.cells #[.slice none 0 0, .int .i64 win] 24)) 24 #[.slice none 0 0, .int .i64 0]
  rw [World.size_alloc] at r0
  go_loopw [4] (fun i wr => ∃ (j : Nat) (v : Value) (L : List (St × Value)), j ≤ N ∧ i = .int .i64 j ∧ Hid (L.map Prod.fst = ss.take j) ∧ L.length = j ∧ Hid (O8 w w.heap.size L v win wr) ∧ Hid (Holds wr (w.heap.size + 1) 24 #[.slice none 0 0, .int .i64 0])) (fun i _ => N - (intOf i).toNat)
  case atStart => exact ⟨0, _, [], Nat.zero_le _, rfl, Lib.hid rfl, rfl, Lib.hid o0, Lib.hid r0⟩
  case round =>
    clear o0 r0
    obtain ⟨j, v, L, hj, rfl, HL, hlen, HO, HR⟩ := hrel
    by_cases hlt : j < N
    · obtain ⟨s, hs⟩ : ∃ s, ss[j]? = some s := ⟨_, List.getElem?_eq_getElem (by have := HN.out; omega)⟩
      have hvw := HV.out.mono HO.out.g (Nat.le_refl _)
      have hcl := HCL.out s (List.mem_of_getElem? hs)
      obtain ⟨a9, c9, e9, _, _, _, hat⟩ := hvw
      rcases hat with h | ⟨b, off, rfl, hat⟩
      · subst h; simp at hs
      obtain ⟨y, hy, hcell⟩ := hat j s hs
      cases e9
      have hy' := hy
      obtain ⟨ca, cc, rfl, _⟩ := hy'
      have x0 : wr.cell? ⟨b, off + j * 6, none⟩ = some (.bool s.neg) := hcell 0 _ rfl
      have x1 : wr.cell? ⟨b, off + j * 6 + 1, none⟩ = some (.int .i64 s.kind) := hcell 1 _ rfl
      have x2 : wr.cell? ⟨b, off + j * 6 + 2, none⟩ = some (.int .i64 s.min) := hcell 2 _ rfl
      have x3 : wr.cell? ⟨b, off + j * 6 + 3, none⟩ = some (.int .i64 s.max) := hcell 3 _ rfl
      have x4 : wr.cell? ⟨b, off + j * 6 + 4, none⟩ = some (.bool s.strict) := hcell 4 _ rfl
      have x5 : wr.cell? ⟨b, off + j * 6 + 5, none⟩ = some (.slice ca s.cmps.length cc) := hcell 5 _ rfl
      obtain ⟨vg, vcap, rfl⟩ := ownsRow_form HO.out.row
      have hl2 : (ss.take (j + 1)) = ss.take j ++ [s] := by
        obtain ⟨hjl, rfl⟩ := List.getElem?_eq_some_iff.1 hs
        exact List.take_succ_eq_append_getElem hjl
      have HL2 := Lib.hid hl2
      have HY := Lib.hid hy
      obtain ⟨nt, k, mn, mx, st, cs⟩ := s
      simp only at *
      clear hs hat hcell hl2 hy
      subst hlen
      have y0 : wr.cell? ⟨w.heap.size, 0, none⟩ = some (.slice vg L.length vcap) := HO.out.o.cell 0
      have hwr := HO.out.g.size
      go_upto_region 7 with (fail)
      have zz := Holds.fresh wr 27 #[.bool nt, .int .i64 k, .int .i64 mn, .int .i64 mx, .bool st, .slice ca cs.length cc]
      have hg1 := World.grownBy_alloc wr (.cells #[.bool nt, .int .i64 k, .int .i64 mn, .int .i64 mx, .bool st, .slice ca cs.length cc] 27) none
      have hy1 := HY.out.mono ((Below.refl wr.heap.size wr).alloc (Nat.le_refl _) (.cells #[.bool nt, .int .i64 k, .int .i64 mn, .int .i64 mx, .bool st, .slice ca cs.length cc] 27)) (Nat.le_refl _)
      generalize wr.alloc (.cells #[.bool nt, .int .i64 k, .int .i64 mn, .int .i64 mx, .bool st, .slice ca cs.length cc] 27) = W1 at *
      obtain ⟨sb, hsb⟩ : ∃ sb, wr.heap.size = sb := ⟨_, rfl⟩
      rw [hsb] at zz hwr ⊢
      have u5 : W1.cell? ⟨sb, 5, none⟩ = some (.slice ca cs.length cc) := zz.cell 5
      have u6 : (W1.alloc (.cells #[] 31)).cell? ⟨sb, 5, none⟩ = some (.slice ca cs.length cc) := (zz.alloc _).cell 5
      have hs1 := hg1.size
      have hy2 := hy1.mono ((Below.refl W1.heap.size W1).alloc (Nat.le_refl _) (.cells #[] 31)) (Nat.le_refl _)
      have ZZ := Lib.hid zz
      have HG1 := Lib.hid hg1
      have HSB := Lib.hid hsb
      have hn1 : w.heap.size ≤ W1.heap.size := by omega
      have hn2 : w.heap.size ≤ (W1.alloc (.cells #[] 31)).heap.size := by simp; omega
      clear zz hg1 hsb hy1 x0 x1 x2 x3 x4 x5 y0 HY
      go_wp2_with (at_builtin; refine wpList_append_cmps rfl (.tmp 19) (.tmp 21) 25 rfl w.heap.size 31 i0 (.agg #[.int .u8 0, .int .u8 0, .int .i64 0, .int .i64 0, .int .i64 0, .int .u8 0, .int .i64 0, .int .i64 0, .int .i64 0]) Tryd.underlying25 hi hz0 hz1 hz2 rfl (.slice (some ⟨W1.heap.size, 0, none⟩) 0 0) rfl (World.ownsRow_lit W1 #[] 0 hn1 (by decide) rfl) (.slice ca cs.length cc) rfl cs hy2 hcl hn2 ?_)
      intro v5 W3 hown5 hg5
      have hgr3 : W1.grownBy W3 none := (World.grownBy_alloc W1 (.cells #[] 31) none).andThen hg5 (fun q e => .inl (by simp [Value.ownBlock] at e; omega))
      obtain ⟨g5, c5, rfl⟩ := ownsRow_form hown5
      have zz3 := ZZ.out.grown hgr3 (by simp)
      have hs3 := hgr3.size
      have z5 : W3.cell? ⟨sb, 5, none⟩ = some (.slice ca cs.length cc) := zz3.cell 5
      have zf := zz3.free
      have zl := zz3.size
      have hset := Lib.grownBy_setCell W3 sb 5 (.slice g5 cs.length c5)
      have hg4 : wr.grownBy (W3.setCell ⟨sb, 5, none⟩ (.slice g5 cs.length c5)) none := (HG1.out.trans hgr3).andThen hset (fun q e => .inl (by cases e; have := HSB.out; omega))
      have o4 := HO.out.newer hg4
      have r4 := HR.out.grown hg4 (by simp)
      have hown4 := hown5.kept hset (.inr (holds_not_row zz3 (by decide) hown5).symm)
      have O4 := Lib.hid o4
      have R4 := Lib.hid r4
      have ZZ4 := Lib.hid (zz3.set 5 (.slice g5 cs.length c5))
      have OWN4 := Lib.hid hown4
      clear hown5 hg5 hgr3 zz3 hset hg4 o4 r4 hown4 u5 u6 hy2 HO HR ZZ HG1
      go_upto_region 8 with (fail)
      generalize W3.setCell ⟨sb, 5, none⟩ (.slice g5 cs.length c5) = W4 at *
      clear z5 zf zl hs3 hs1 hn1 hn2 hwr HSB
      have u0 : W4.cell? ⟨sb, 0, none⟩ = some (.bool nt) := ZZ4.out.cell 0
      have u1 : W4.cell? ⟨sb, 1, none⟩ = some (.int .i64 k) := ZZ4.out.cell 1
      have u2 : W4.cell? ⟨sb, 2, none⟩ = some (.int .i64 mn) := ZZ4.out.cell 2
      have u3 : W4.cell? ⟨sb, 3, none⟩ = some (.int .i64 mx) := ZZ4.out.cell 3
      have u4 : W4.cell? ⟨sb, 4, none⟩ = some (.bool st) := ZZ4.out.cell 4
      have u5 : W4.cell? ⟨sb, 5, none⟩ = some (.slice g5 cs.length c5) := ZZ4.out.cell 5
      have y0 : W4.cell? ⟨w.heap.size, 0, none⟩ = some (.slice vg L.length vcap) := O4.out.o.cell 0
      have ha5 := World.grownBy_alloc W4 (.cells #[.bool nt, .int .i64 k, .int .i64 mn, .int .i64 mx, .bool st, .slice g5 cs.length c5] 27) none
      have o5 := O4.out.newer ha5
      have r5 := R4.out.grown ha5 (by simp)
      have hn0 := o5.g.size
      have own5 := OWN4.out.alloc (.cells #[.bool nt, .int .i64 k, .int .i64 mn, .int .i64 mx, .bool st, .slice g5 cs.length c5] 27)
      have O5 := Lib.hid o5
      have R5 := Lib.hid r5
      have OWN5 := Lib.hid own5
      clear ha5 o5 r5 own5 O4 R4 OWN4 ZZ4
      go_wp2_with (at_builtin; refine wpList_append_own _ rfl (.tmp 25) (.tmp 27) 22 rfl w.heap.size 27 i1 (.agg #[.bool false, .int .i64 0, .int .i64 0, .int .i64 0, .bool false, .slice none 0 0]) 6 64 Tryd.underlying22 hj' hy0 hy1' hy2' rfl (by decide) (.slice vg L.length vcap) L.length (stCells L) rfl O5.out.row ⟨W4.heap.size, 0, none⟩ 1 1 (stV ⟨nt, k, mn, mx, st, cs⟩ (.slice g5 cs.length c5)) rfl rfl ?c1 ?c2 ?c3 ?c4 hn0 ?_)
      case c1 => exact new_cells W4 (stV ⟨nt, k, mn, mx, st, cs⟩ (.slice g5 cs.length c5)) 27
      case c2 =>
        intro u hu
        simp only [stV, List.mem_cons, List.not_mem_nil, or_false] at hu
        rcases hu with rfl | rfl | rfl | rfl | rfl | rfl <;> rfl
      case c3 => unfold maxLen; omega
      case c4 => omega
      intro v' W6 hown' hgrow _
      obtain ⟨g', vcap', rfl⟩ := ownsRow_form hown'
      have p6 := O5.out.o.grown hgrow (holds_not_row O5.out.o (by decide) O5.out.row)
      have r6 := (R5.out.grown hgrow (holds_not_row R5.out (by decide) O5.out.row)).off (k := w.heap.size) (by omega) 0 (.slice g' (L.length + 1) vcap')
      have o6 := O5.out.app (s := ⟨nt, k, mn, mx, st, cs⟩) (u := .slice g5 cs.length c5) OWN5.out hgrow hown'
      have y6 : W6.cell? ⟨w.heap.size, 0, none⟩ = some (.slice vg L.length vcap) := p6.cell 0
      have pf := p6.free
      have pl := p6.size
      have O6 := Lib.hid o6
      have R6 := Lib.hid r6
      clear p6 r6 o6 hown' hgrow O5 R5 OWN5 u0 u1 u2 u3 u4 u5 y0 hn0
      go_wp2_with fail
      go_roundw
      case rel => exact ⟨L.length + 1, _, L ++ [((⟨nt, k, mn, mx, st, cs⟩ : St), Value.slice g5 cs.length c5)], by omega, by go_num, Lib.hid (by rw [List.map_append, HL.out, HL2.out]; rfl), by simp, O6, R6⟩
      case measure => simp [intOf]; omega
    · obtain rfl : j = N := by omega
      subst hlen
      obtain ⟨vg, vcap, rfl⟩ := ownsRow_form HO.out.row
      have y0 : wr.cell? ⟨w.heap.size, 0, none⟩ = some (.slice vg L.length vcap) := HO.out.o.cell 0
      have y1 : wr.cell? ⟨w.heap.size, 1, none⟩ = some (.int .i64 win) := HO.out.o.cell 1
      have z0 : wr.cell? ⟨w.heap.size + 1, 0, none⟩ = some (.slice none 0 0) := HR.out.cell 0
      have z1 : wr.cell? ⟨w.heap.size + 1, 1, none⟩ = some (.int .i64 0) := HR.out.cell 1
      have zf := HR.out.free
      have zl := HR.out.size
      have hg : wr.grownBy ((wr.setCell ⟨w.heap.size + 1, 0, none⟩ (.slice vg L.length vcap)).setCell ⟨w.heap.size + 1, 1, none⟩ (.int .i64 win)) (some (w.heap.size + 1)) := (Lib.grownBy_setCell _ _ _ _).trans (Lib.grownBy_setCell _ _ _ _)
      have RF := Lib.hid ((HR.out.set 0 (.slice vg L.length vcap)).set 1 (.int .i64 win))
      have ROW := Lib.hid (HO.out.row.kept hg (.inr (holds_not_row HR.out (by decide) HO.out.row).symm))
      have CM := Lib.hid (fun q hq => (HO.out.cm q hq).kept hg (.inr (holds_not_row HR.out (by decide) (HO.out.cm q hq)).symm))
      have BF := Lib.hid ((HO.out.g.setCell (p := ⟨w.heap.size + 1, 0, none⟩) (Nat.le_succ _) (.slice vg L.length vcap)).setCell (p := ⟨w.heap.size + 1, 1, none⟩) (Nat.le_succ _) (.int .i64 win))
      have hL := HL.out
      rw [List.take_of_length_le (by have := HN.out; omega)] at hL
      have HL' := Lib.hid hL
      clear hg hL HO HR HL hlt
      go_wp2_with fail
      refine bodyPost_ret (results_one9 rfl _ _ (w.heap.size + 1) 24 #[.slice vg L.length vcap, .int .i64 win] _ rfl RF.out Tryd.underlying24 rfl (by kernel_rfl)) rfl ?_
      exact ⟨vg, vcap, L, rfl, HL'.out, ROW.out, CM.out, BF.out⟩
end Go.Proofs.YtafgincpoahefaaDoor
