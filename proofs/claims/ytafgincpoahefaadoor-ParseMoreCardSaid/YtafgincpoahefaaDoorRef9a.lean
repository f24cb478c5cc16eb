/-
  straggleref09: now, go1, is, may, must, sign, more: a parser in memory.
-/
import Derived.Test.YtafgincpoahefaaDoorRef9p
import Derived.Test.YtafgincpoahefaaDoorLex5
import Derived.Test.YtafgincpoahefaaDoorGround
import Derived.StillTailTactics
import Derived.BigQuiet
import Derived.Deep.QuietTactic
namespace Go.Proofs.YtafgincpoahefaaDoor
open Go.RowKit
attribute [local go_sem] Oper.semAt_some

/-- tokens as lex tells them -/
def tokOk (t : Tok) : Prop := (0 ≤ t.kind ∧ t.kind ≤ 5) ∧ (0 ≤ t.n ∧ t.n ≤ 1099511627776) ∧ (0 ≤ t.at' ∧ t.at' ≤ 140737488351232) ∧ (t.kind = 4 → t.n < 7) ∧ (t.kind = 2 → t.n < 26)
/-- the tokens ts lie in block blk; the parser in block b stands at one of them -/
structure P9 (ts : List Tok) (b blk off cap : Nat) (at0 : Nat) (bad : Bool) (w : World) : Prop where
  hold : Holds w b 99 #[.slice (some ⟨blk, off, none⟩) ts.length cap, .int .i64 at0, .bool bad]
  ne : blk ≠ b
  toks : ToksAt w (some ⟨blk, off, none⟩) ts
  cap : ts.length ≤ cap
  len : ts.length ≤ 140737488351232
  ok : ∀ t ∈ ts, tokOk t
  ends : endsT ts
theorem ToksAt.grown {w w' : World} {blk off : Nat} {ts : List Tok} {row : Option Nat} (h : ToksAt w (some ⟨blk, off, none⟩) ts) (hg : w.grownBy w' row) (hne : some blk ≠ row) : ToksAt w' (some ⟨blk, off, none⟩) ts := by
  rcases h with rfl | ⟨b, o, e, hc⟩
  · exact .inl rfl
  · obtain ⟨rfl, rfl⟩ : blk = b ∧ off = o := by simpa using e
    exact .inr ⟨blk, off, rfl, fun i hi => ⟨hg.cell (hc i hi).1 hne, hg.cell (hc i hi).2.1 hne, hg.cell (hc i hi).2.2 hne⟩⟩
theorem grown_of_below' {w w' : World} (hb : Below w.heap.size w w') (row : Option Nat) : w.grownBy w' row := ⟨hb.os, hb.tape, hb.output, hb.size, fun i hi _ => hb.block i hi⟩
theorem grown_drewN (w : World) (k : Nat) (row : Option Nat) : w.grownBy (w.drewN k) row := grown_of_below' (below_drewN _ _ _) row
section
variable {ts : List Tok} {b blk off cap at0 : Nat} {bad : Bool} {w w' : World}
theorem P9.later (h : P9 ts b blk off cap at0 bad w) (hb : Below w.heap.size w w') : P9 ts b blk off cap at0 bad w' :=
  { h with hold := h.hold.later hb, toks := h.toks.mono hb (Nat.le_refl _) }
theorem P9.drewN (h : P9 ts b blk off cap at0 bad w) (n : Nat) : P9 ts b blk off cap at0 bad (w.drewN n) := h.later (below_drewN _ _ _)
theorem P9.setAt (h : P9 ts b blk off cap at0 bad w) (at1 : Nat) : P9 ts b blk off cap at1 bad (w.setCell ⟨b, 1, none⟩ (.int .i64 at1)) :=
  { h with hold := h.hold.set 1 _, toks := h.toks.grown (Lib.grownBy_setCell w b 1 _) (fun e => h.ne (Option.some.inj e)) }
theorem P9.setBad (h : P9 ts b blk off cap at0 bad w) (bad1 : Bool) : P9 ts b blk off cap at0 bad1 (w.setCell ⟨b, 2, none⟩ (.bool bad1)) :=
  { h with hold := h.hold.set 2 _, toks := h.toks.grown (Lib.grownBy_setCell w b 2 _) (fun e => h.ne (Option.some.inj e)) }
theorem P9.cells (h : P9 ts b blk off cap at0 bad w) : (w.cell? ⟨b, 0, none⟩ = some (.slice (some ⟨blk, off, none⟩) ts.length cap) ∧ w.cell? ⟨b, 1, none⟩ = some (.int .i64 at0) ∧ w.cell? ⟨b, 2, none⟩ = some (.bool bad)) ∧ (∀ i, w.frozen? ⟨b, i, none⟩ = false) ∧ b < w.heap.size :=
  ⟨⟨h.hold.cell 0, h.hold.cell 1, h.hold.cell 2⟩, h.hold.free, h.hold.size⟩
theorem P9.tok (h : P9 ts b blk off cap at0 bad w) {i : Nat} {t : Tok} (ht : ts[i]? = some t) : w.cell? ⟨blk, off + i * 3, none⟩ = some (.int .u8 t.kind) ∧ w.cell? ⟨blk, off + i * 3 + 1, none⟩ = some (.int .i64 t.n) ∧ w.cell? ⟨blk, off + i * 3 + 2, none⟩ = some (.int .i64 t.at') := by
  obtain ⟨hi, rfl⟩ := List.getElem?_eq_some_iff.1 ht
  obtain ⟨b', off', e, hc⟩ := h.toks.get i hi
  obtain ⟨rfl, rfl⟩ : blk = b' ∧ off = off' := by simpa using e
  exact hc
end

theorem results_one9 {P : Program} {fn : Func} {p : Tmp} {ty : TypeId} (h : fn.results = #[.cell p ty]) (tmps : Array Value) (w : World) (b : Nat) (t : TypeId) (cs : Array Value) (d : TypeDesc)
    (hp : tmps.getD p undef = .pointer (some ⟨b, 0, none⟩)) (hb : Holds w b t cs) (hu : P.underlying ty = some d) (hd : (match d with | .struct _ | .array _ _ => true | _ => false) = true) (hi : (P.info? ty).map (·.size) = some cs.size) :
    (results fn tmps).run P w = .ok (.agg cs) w := by
  have hp' : tmps[p]?.getD undef = .pointer (some ⟨b, 0, none⟩) := by simpa using hp
  simp [results, h, hp', asAddr, run_loadVar_row w b t ty cs (0, 0) d hb hu hd hi]

set_option maxRecDepth 100000 in
set_option maxHeartbeats 1000000 in
theorem ref9_now (ts : List Tok) (b blk off cap at0 : Nat) (bad : Bool) (t : Tok) (ht : ts[at0]? = some t) (w : World) (h : P9 ts b blk off cap at0 bad w) :
    Calls Tryd.prog 76 #[.pointer (some ⟨b, 0, none⟩)] w fun e w' => e = .returned (.agg #[.int .u8 t.kind, .int .i64 t.n, .int .i64 t.at']) ∧ Below w.heap.size w w' := by
  obtain ⟨⟨c0, c1, c2⟩, hf, hlt⟩ := h.cells
  obtain ⟨t0, t1, t2⟩ := h.tok ht
  have hal := (List.getElem?_eq_some_iff.1 ht).1
  have hlen := h.len
  have hcap := h.cap
  obtain ⟨n, hn⟩ : ∃ n, ts.length = n := ⟨_, rfl⟩
  rw [hn] at c0 hal hlen hcap
  obtain ⟨k, m, x⟩ := t
  simp only at *
  clear hf hn ht h
  have hb0 := (Below.refl w.heap.size w).alloc (Nat.le_refl _) (.cells #[.int .u8 0, .int .i64 0, .int .i64 0] 51)
  have hz := Holds.fresh w 51 #[.int .u8 0, .int .i64 0, .int .i64 0]
  have e0 := (bcell hb0).1
  replace c0 := (e0 b 0 hlt).trans c0
  replace c1 := (e0 b 1 hlt).trans c1
  have hblk := cell_lt t0
  simp only at hblk
  replace t0 := (e0 blk _ hblk).trans t0
  replace t1 := (e0 blk _ hblk).trans t1
  replace t2 := (e0 blk _ hblk).trans t2
  clear e0 c2 hblk hlt
  go_enter Tryd.func76, Tryd.ntmps76
  go_wp2_with fail
  generalize w.alloc (.cells #[.int .u8 0, .int .i64 0, .int .i64 0] 51) = W at *
  obtain ⟨B, hB⟩ : ∃ B, w.heap.size = B := ⟨_, rfl⟩
  have HB := Lib.hid hB
  rw [hB] at hb0 hz ⊢
  clear hB
  have zf := hz.free
  have z0 : W.cell? ⟨B, 0, none⟩ = some (.int .u8 0) := hz.cell 0
  have z1 : W.cell? ⟨B, 1, none⟩ = some (.int .i64 0) := hz.cell 1
  have z2 : W.cell? ⟨B, 2, none⟩ = some (.int .i64 0) := hz.cell 2
  go_still_tail 10, (by kernel_rfl)
  change wpList _ _ _ _ _ W.drew
  go_wp2_with fail
  have hz2 := (((hz.set 0 (.int .u8 k)).set 1 (.int .i64 m)).set 2 (.int .i64 x)).drew
  have hb2 := (((hb0.setCell (p := ⟨B, 0, none⟩) (Nat.le_refl _) (.int .u8 k)).setCell (p := ⟨B, 1, none⟩) (Nat.le_refl _) (.int .i64 m)).setCell (p := ⟨B, 2, none⟩) (Nat.le_refl _) (.int .i64 x)).drew
  exact bodyPost_ret (results_one9 rfl _ _ B 51 #[.int .u8 k, .int .i64 m, .int .i64 x] _ rfl hz2 Tryd.underlying51 rfl (by kernel_rfl)) rfl ⟨rfl, by rw [HB.out]; exact hb2⟩

/-- one on, but not behind the end, nor from a token that may not stand -/
def nextAt (ts : List Tok) (at0 : Nat) (bad : Bool) : Nat := if bad = false ∧ at0 + 1 < ts.length then at0 + 1 else at0
set_option maxRecDepth 100000 in
set_option maxHeartbeats 1000000 in
theorem ref9_go1 (ts : List Tok) (b blk off cap at0 : Nat) (bad : Bool) (hlt0 : at0 < ts.length) (w : World) (h : P9 ts b blk off cap at0 bad w) :
    Calls Tryd.prog 74 #[.pointer (some ⟨b, 0, none⟩)] w fun e w' => e = .returned (.tuple #[]) ∧ P9 ts b blk off cap (nextAt ts at0 bad) bad w' ∧ w.grownBy w' (some b) := by
  obtain ⟨⟨c0, c1, c2⟩, hf, hlt⟩ := h.cells
  have hlen := h.len
  have H := Lib.hid h; clear h
  have hn1 : bad = false → at0 + 1 < ts.length → nextAt ts at0 bad = at0 + 1 := fun e1 e2 => by unfold nextAt; rw [if_pos ⟨e1, e2⟩]
  have hn2 : ¬ (bad = false ∧ at0 + 1 < ts.length) → nextAt ts at0 bad = at0 := fun e1 => by unfold nextAt; rw [if_neg e1]
  obtain ⟨n, hn⟩ : ∃ n, ts.length = n := ⟨_, rfl⟩
  rw [hn] at c0 hlen hn1 hn2 hlt0
  clear hn
  generalize nextAt ts at0 bad = nx at *
  cases bad
  · by_cases hx : at0 + 1 < n
    · rw [hn1 rfl hx]
      clear hn1 hn2
      have hd : decide ((at0 : Int) < (n : Int) - 1) = true := by simp only [decide_eq_true_eq]; omega
      have hw : IntKind.i64.wrap ((n : Int) - 1) = (n : Int) - 1 := IntWalk.i64_in _ (by omega)
      go_enter Tryd.func74, Tryd.ntmps74
      go_wp2_with fail
      go_quiet (fail)
      go_wp2_with fail
      go_end0
      exact ⟨rfl, (H.out.setAt (at0 + 1)).drewN _, (Lib.grownBy_setCell w b 1 _).trans (grown_drewN _ _ _)⟩
    · rw [hn2 (fun g => hx g.2)]
      clear hn1 hn2
      have hd : decide ((at0 : Int) < (n : Int) - 1) = false := by simp only [decide_eq_false_iff_not]; omega
      have hw : IntKind.i64.wrap ((n : Int) - 1) = (n : Int) - 1 := IntWalk.i64_in _ (by omega)
      go_enter Tryd.func74, Tryd.ntmps74
      go_wp2_with fail
      go_quiet (fail)
      go_wp2_with fail
      go_end0
      exact ⟨rfl, H.out.drewN _, grown_drewN _ _ _⟩
  · rw [hn2 (fun g => nomatch g.1)]
    clear hn1 hn2
    go_enter Tryd.func74, Tryd.ntmps74
    go_wp2_with fail
    go_quiet (fail)
    go_wp2_with fail
    go_end0
    exact ⟨rfl, H.out.drewN _, grown_drewN _ _ _⟩

theorem tok_field0 (k n x : Int) (w : World) : (Instr.field 51 (.agg #[.int .u8 k, .int .i64 n, .int .i64 x]) 0).run Tryd.prog w = .ok (.int .u8 k) w := by kernel_rfl
theorem tok_field1 (k n x : Int) (w : World) : (Instr.field 51 (.agg #[.int .u8 k, .int .i64 n, .int .i64 x]) 1).run Tryd.prog w = .ok (.int .i64 n) w := by kernel_rfl
theorem tok_field2 (k n x : Int) (w : World) : (Instr.field 51 (.agg #[.int .u8 k, .int .i64 n, .int .i64 x]) 2).run Tryd.prog w = .ok (.int .i64 x) w := by kernel_rfl
set_option maxRecDepth 100000 in
set_option maxHeartbeats 1000000 in
theorem ref9_is (ts : List Tok) (b blk off cap at0 : Nat) (bad : Bool) (t : Tok) (ht : ts[at0]? = some t) (c : Int) (hc0 : 0 ≤ c) (hc1 : c ≤ 255) (w : World) (h : P9 ts b blk off cap at0 bad w) :
    Calls Tryd.prog 73 #[.pointer (some ⟨b, 0, none⟩), .int .u8 c] w fun e w' => e = .returned (.bool (!bad && ((t.kind == 5) && (t.n == c)))) ∧ Below w.heap.size w w' := by
  obtain ⟨⟨c0, c1, c2⟩, hf, hlt⟩ := h.cells
  have cn := fun W (hb : Below w.heap.size w W) => ref9_now ts b blk off cap at0 bad t ht W (h.later hb)
  obtain ⟨k, n, x⟩ := t
  simp only at *
  have CN := Lib.hid cn; clear cn
  have F0 := tok_field0 k n x
  have F1 := tok_field1 k n x
  clear c0 c1 hf h ht
  cases bad
  · cases h5 : (k == 5)
    · go_enter Tryd.func73, Tryd.ntmps73
      go_wp2_with fail
      refine (CN.out _ (Below.refl _ _)).mono ?_
      rintro e w1 ⟨rfl, hb1⟩
      go_wp2_with fail
      go_ret
      exact ⟨rfl, hb1⟩
    · cases hc : (n == c)
      all_goals
        go_enter Tryd.func73, Tryd.ntmps73
        go_wp2_with fail
        refine (CN.out _ (Below.refl _ _)).mono ?_
        rintro e w1 ⟨rfl, hb1⟩
        go_wp2_with fail
        refine (CN.out _ hb1).mono ?_
        rintro e w2 ⟨rfl, hb2⟩
        go_wp2_with fail
        go_ret
        exact ⟨rfl, hb1.trans (hb2.mono hb1.size)⟩
  · go_enter Tryd.func73, Tryd.ntmps73
    go_wp2_with fail
    go_ret
    exact ⟨rfl, Below.refl _ _⟩
/-- what one of the parser's functions leaves: what is told of r, in the memory of old -/
def R9 {α : Type} (ts : List Tok) (b blk off cap at0 : Nat) (bad : Bool) (r : Res α) (w : World) (enc : α → Value) (e : Ending) (w' : World) : Prop :=
  ∃ (x : α) (at1 : Nat) (bad1 : Bool), e = .returned (enc x) ∧ Out9 ts at0 bad r x at1 bad1 ∧ P9 ts b blk off cap at1 bad1 w' ∧ w.grownBy w' (some b)
set_option maxRecDepth 100000 in
set_option maxHeartbeats 1000000 in
theorem ref9_may' (ts : List Tok) (b blk off cap at0 : Nat) (bad : Bool) (t : Tok) (ht : ts[at0]? = some t) (c : Int) (hc0 : 0 ≤ c) (hc1 : c ≤ 255) (w : World) (h : P9 ts b blk off cap at0 bad w) :
    Calls Tryd.prog 104 #[.pointer (some ⟨b, 0, none⟩), .int .u8 c] w fun e w' => e = .returned (.bool (!bad && ((t.kind == 5) && (t.n == c)))) ∧
      P9 ts b blk off cap (if (!bad && ((t.kind == 5) && (t.n == c))) = true then at0 + 1 else at0) bad w' ∧ w.grownBy w' (some b) := by
  have ci := ref9_is ts b blk off cap at0 bad t ht c hc0 hc1 w h
  have hlt := (List.getElem?_eq_some_iff.1 ht).1
  have cg := fun W (hb : Below w.heap.size w W) => ref9_go1 ts b blk off cap at0 bad hlt W (h.later hb)
  have hnx : (!bad && ((t.kind == 5) && (t.n == c))) = true → nextAt ts at0 bad = at0 + 1 := fun e => by
    simp only [Bool.and_eq_true, Bool.not_eq_true', beq_iff_eq] at e
    unfold nextAt
    rw [if_pos ⟨e.1, h.ends.next ht (by omega)⟩]
  have H := Lib.hid h; clear h ht
  generalize (!bad && ((t.kind == 5) && (t.n == c))) = r at *
  have CI := Lib.hid ci; clear ci
  have CG := Lib.hid cg; clear cg
  have hnx' : r = true → nextAt ts at0 bad = at0 + 1 := hnx
  clear hnx
  cases r
  · clear hnx'
    go_enter Tryd.func104, Tryd.ntmps104
    go_wp2_with fail
    refine CI.out.mono ?_
    rintro e w1 ⟨rfl, hb1⟩
    go_wp2_with fail
    go_ret
    exact ⟨rfl, H.out.later hb1, grown_of_below' hb1 _⟩
  · have HN := Lib.hid (hnx' rfl); clear hnx'
    go_enter Tryd.func104, Tryd.ntmps104
    go_wp2_with fail
    refine CI.out.mono ?_
    rintro e w1 ⟨rfl, hb1⟩
    go_wp2_with fail
    refine (CG.out _ hb1).mono ?_
    rintro e w2 ⟨rfl, hp2, hg2⟩
    rw [HN.out] at hp2
    have HP := Lib.hid hp2; clear hp2
    go_wp2_with fail
    go_ret
    exact ⟨rfl, HP.out, (grown_of_below' hb1 _).trans hg2⟩
theorem ref9_may (ts : List Tok) (b blk off cap at0 : Nat) (bad : Bool) (hlt : at0 < ts.length) (c : Int) (hc0 : 0 ≤ c) (hc1 : c ≤ 255) (w : World) (h : P9 ts b blk off cap at0 bad w) :
    Calls Tryd.prog 104 #[.pointer (some ⟨b, 0, none⟩), .int .u8 c] w (R9 ts b blk off cap at0 bad (pMay c (ts.drop at0)) w Value.bool) := by
  have ht : ts[at0]? = some ts[at0] := List.getElem?_eq_getElem hlt
  refine (ref9_may' ts b blk off cap at0 bad _ ht c hc0 hc1 w h).mono ?_
  rintro e w' ⟨rfl, hp, hg⟩
  exact ⟨_, _, bad, rfl, may_out bad c h.ends ht, hp, hg⟩
set_option maxRecDepth 100000 in
set_option maxHeartbeats 1000000 in
theorem ref9_must' (ts : List Tok) (b blk off cap at0 : Nat) (bad : Bool) (t : Tok) (ht : ts[at0]? = some t) (c : Int) (hc0 : 0 ≤ c) (hc1 : c ≤ 255) (w : World) (h : P9 ts b blk off cap at0 bad w) :
    Calls Tryd.prog 75 #[.pointer (some ⟨b, 0, none⟩), .int .u8 c] w fun e w' => e = .returned (.int .i64 (if (!bad && (t.kind == c)) = true then t.n else 0)) ∧
      P9 ts b blk off cap (if (!bad && (t.kind == c) && (c != 0)) = true then at0 + 1 else at0) (bad || (t.kind != c)) w' ∧ w.grownBy w' (some b) := by
  have cn := fun W (hb : Below w.heap.size w W) => ref9_now ts b blk off cap at0 bad t ht W (h.later hb)
  have hlt := (List.getElem?_eq_some_iff.1 ht).1
  have cg := fun W (hb : Below w.heap.size w W) => ref9_go1 ts b blk off cap at0 bad hlt W (h.later hb)
  obtain ⟨⟨c0, c1, c2⟩, hf, hbl⟩ := h.cells
  have hnx : bad = false → (t.kind == c) = true → nextAt ts at0 bad = (if (!bad && (t.kind == c) && (c != 0)) = true then at0 + 1 else at0) := fun e1 e2 => by
    rw [e1, e2]
    simp only [Bool.not_false, Bool.true_and]
    rw [beq_iff_eq] at e2
    have := h.ends at0 t ht
    unfold nextAt
    by_cases hc : c = 0
    · rw [if_neg, if_neg (by simpa using hc)]
      rintro ⟨_, g⟩; omega
    · rw [if_pos, if_pos (by simpa using hc)]
      exact ⟨rfl, by omega⟩
  have hfn : (bad = true ∨ (t.kind == c) = false) → (if (!bad && (t.kind == c) && (c != 0)) = true then at0 + 1 else at0) = at0 := fun e => by
    rcases e with e | e <;> simp [e]
  have hne : ∀ W, Below w.heap.size w W → W.cell? ⟨b, 2, none⟩ = some (.bool bad) ∧ (∀ i, W.frozen? ⟨b, i, none⟩ = false) ∧ b < W.heap.size := fun W hb => ⟨(h.later hb).hold.cell 2, (h.later hb).hold.free, (h.later hb).hold.size⟩
  have H := Lib.hid h; clear h ht
  obtain ⟨k, n, x⟩ := t
  simp only at *
  generalize (if (!bad && (k == c) && (c != 0)) = true then at0 + 1 else at0) = fin at *
  have CN := Lib.hid cn; clear cn
  have F0 := tok_field0 k n x
  have F1 := tok_field1 k n x
  have CG := Lib.hid cg; clear cg
  have HN := Lib.hid hnx; clear hnx
  have HFN := Lib.hid hfn; clear hfn
  have HE := Lib.hid hne; clear hne
  have hmix : (k != c) = !(k == c) := rfl
  cases bad
  · cases hk : (k == c)
    · rw [hk] at hmix
      have hk' : (k != c) = true := hmix
      rw [hk', HFN.out (.inr hk)]
      clear hmix
      go_enter Tryd.func75, Tryd.ntmps75
      go_wp2_with fail
      refine (CN.out _ (Below.refl _ _)).mono ?_
      rintro e w1 ⟨rfl, hb1⟩
      obtain ⟨hc2, hf1, hb2⟩ := HE.out w1 hb1
      go_wp2_with fail
      go_ret
      exact ⟨rfl, (H.out.later hb1).setBad true, (grown_of_below' hb1 _).trans (Lib.grownBy_setCell _ _ _ _)⟩
    · rw [hk] at hmix
      have hk' : (k != c) = false := hmix
      rw [hk']
      clear hmix
      have hn1 := HN.out rfl hk
      generalize nextAt ts at0 false = nx at *
      have HN1 := Lib.hid hn1; clear hn1
      go_enter Tryd.func75, Tryd.ntmps75
      go_wp2_with fail
      refine (CN.out _ (Below.refl _ _)).mono ?_
      rintro e w1 ⟨rfl, hb1⟩
      go_wp2_with fail
      refine (CN.out _ hb1).mono ?_
      rintro e w2 ⟨rfl, hb2⟩
      have hb12 := hb1.trans (hb2.mono hb1.size)
      have HB := Lib.hid hb12; clear hb12
      go_wp2_with fail
      refine (CG.out _ HB.out).mono ?_
      rintro e w3 ⟨rfl, hp3, hg3⟩
      rw [HN1.out] at hp3
      have HP := Lib.hid hp3; clear hp3
      go_wp2_with fail
      go_ret
      exact ⟨rfl, HP.out, (grown_of_below' HB.out _).trans hg3⟩
  · rw [HFN.out (.inl rfl)]
    go_enter Tryd.func75, Tryd.ntmps75
    go_wp2_with fail
    go_ret
    exact ⟨rfl, H.out.setBad true, Lib.grownBy_setCell _ _ _ _⟩
theorem ref9_must (ts : List Tok) (b blk off cap at0 : Nat) (bad : Bool) (hlt : at0 < ts.length) (c : Int) (hc0 : 0 ≤ c) (hc1 : c ≤ 255) (w : World) (h : P9 ts b blk off cap at0 bad w) :
    Calls Tryd.prog 75 #[.pointer (some ⟨b, 0, none⟩), .int .u8 c] w (R9 ts b blk off cap at0 bad (pTake c (ts.drop at0)) w (Value.int .i64)) := by
  have ht : ts[at0]? = some ts[at0] := List.getElem?_eq_getElem hlt
  refine (ref9_must' ts b blk off cap at0 bad _ ht c hc0 hc1 w h).mono ?_
  rintro e w' ⟨rfl, hp, hg⟩
  exact ⟨_, _, _, rfl, must_out bad c h.ends ht, hp, hg⟩
end Go.Proofs.YtafgincpoahefaaDoor
