/-
  stragglelaw10.PrintBlanks: true of any pattern.
-/
import Derived.Test.YtafgincpoahefaaDoorPrL5
import Derived.Test.YtafgincpoahefaaDoorRef7t
import Derived.Test.YtafgincpoahefaaDoorRef7c
namespace Go.Proofs.YtafgincpoahefaaDoor
open Go.RowKit

theorem ref7_All_toks (s : ByteArray) (hs : s.size ≤ 140737488351232) (ts : List Tok) (p c : Int) (n : Nat) (hn : ts.length = n) (h : allOf s.data.toList = (ts, p, c)) (w : World) :
    Calls Tryd.prog 38 #[.string s] w fun e w' => ∃ a cap, e = .returned (.tuple #[.slice a n cap, .int .i64 p, .int .i64 c]) ∧ n ≤ cap ∧ ToksAt w' a ts ∧ Below w.heap.size w w' := by
  refine (ref7_All s hs w).mono ?_
  rintro e w' hp
  unfold AllPost at hp
  rw [h] at hp
  obtain ⟨v, rfl, hr, hb⟩ := hp
  obtain ⟨a, cap, rfl, hc, ht⟩ := toks_of_row hr rfl
  subst hn
  exact ⟨a, cap, rfl, hc, ht, hb⟩
theorem allOf_most (l : List UInt8) (h : l.length ≤ 3000) : (allOf l).1.length ≤ 3001 := by
  have := yields_len _ 0 l (Nat.le_refl _)
  unfold allOf
  split
  · simp
  · split
    · simp
    · simp; omega
theorem snoc_byte (s : ByteArray) (k : Nat) (h : k < s.size) : s.data.toList.take (k + 1) = s.data.toList.take k ++ [s[k]] := by
  rw [List.take_succ_eq_append_getElem (by simpa using h)]; rfl
theorem blanks_next (s : ByteArray) (k : Nat) (h : k < s.size) : blanksN (s.data.toList.take (k + 1)) = blanksN (s.data.toList.take k) + (if (s[k].toNat : Int) = 32 then 1 else 0) := by
  rw [snoc_byte s k h, blanksN_app]
  congr 1
  by_cases e : (s[k].toNat : Int) = 32
  · rw [if_pos e]
    have : s[k] = 32 := by apply UInt8.toNat_inj.1; simpa using (by omega : s[k].toNat = 32)
    rw [this]; rfl
  · rw [if_neg e]
    have : s[k] ≠ 32 := fun h => e (by rw [h]; rfl)
    simp [blanksN, this]
theorem blanks_le (l : List UInt8) : blanksN l ≤ l.length := List.length_filter_le _ _
/-- the boxed pattern -/
structure BP (w : World) (vp : Array Value) (W : World) : Prop where
  p : Holds W w.heap.size 24 vp
  below : Below w.heap.size w W
theorem BP.later {w W W' : World} {vp : Array Value} (h : BP w vp W) (hb : Below W.heap.size W W') : BP w vp W' := ⟨h.p.later hb, h.below.trans (hb.mono h.below.size)⟩
theorem BP.fresh (w : World) (vp : Array Value) : BP w vp (w.alloc (.cells vp 24)) := ⟨Holds.fresh w _ _, (Below.refl _ _).alloc (Nat.le_refl _) _⟩
theorem BP.ret {w : World} {vp : Array Value} {f : FuncId} {args : Array Value} {x : Value} {W : World} (hb : BP w vp W) (h : Calls Tryd.prog f args W fun e w' => e = .returned x ∧ Below W.heap.size W w') :
    Calls Tryd.prog f args W fun e w' => e = .returned x ∧ BP w vp w' := h.mono fun _ _ g => ⟨g.1, hb.later g.2⟩

set_option maxRecDepth 100000 in
set_option maxHeartbeats 8000000 in
theorem printBlanks_wakes (p : Pt) (u : Value) (w : World) (hp : StepsV w u p.steps) (hpb : bnd p.window) (hpw : ∀ s ∈ p.steps, stWf s) (hG : GP w) (h : greatB p = true ∨ (printT p).2 ≠ 0) :
    Calls Tryd.prog 5 #[.agg #[u, .int .i64 p.window]] w fun e w' => e = .returned (.bool true) ∧ Below w.heap.size w w' := by
  have bx := BP.fresh w #[u, .int .i64 p.window]
  have cg := fun W (hb : BP w #[u, .int .i64 p.window] W) => hb.ret (ref8_Great p (.agg #[u, .int .i64 p.window]) W ⟨u, rfl, hp.mono hb.below (Nat.le_refl _)⟩)
  have c1 := fun (hg : greatB p = false) W (hb : BP w #[u, .int .i64 p.window] W) => hb.ret (print_Print p hpw hpb hg (.agg #[u, .int .i64 p.window]) W ⟨u, rfl, hp.mono hb.below (Nat.le_refl _)⟩ (hG.mono hb.below))
  have c6 := fun W (hb : BP w #[u, .int .i64 p.window] W) => hb.ret (wakes10 W (hG.mono hb.below))
  generalize greatB p = g at *
  generalize (printT p).2 = pe at *
  generalize sV (printT p).1 = pv at *
  obtain ⟨ss, pw⟩ := p
  simp only at *
  have BX0 := Lib.hid bx; clear bx
  have CG := Lib.hid cg; clear cg
  have C6 := Lib.hid c6; clear c6
  clear hp hpb hpw hG
  cases g
  · have hne := h.resolve_left (fun h => nomatch h)
    have hp0 : (pe == 0) = false := by simpa using hne
    have hp1 : (pe != 0) = true := by simpa using hne
    have C1 := Lib.hid (c1 rfl)
    clear c1 h hne
    go_enter Tryd.func5, Tryd.ntmps5
    go_wp2_with fail
    refine (CG.out _ BX0.out).mono ?_
    rintro e w1 ⟨rfl, bx1⟩
    have d0 : w1.cell? ⟨w.heap.size, 0, none⟩ = some u := bx1.p.cell 0
    have d1 : w1.cell? ⟨w.heap.size, 1, none⟩ = some (.int .i64 pw) := bx1.p.cell 1
    have BX1 := Lib.hid bx1; clear bx1 BX0
    go_wp2_with fail
    refine (C1.out _ BX1.out).mono ?_
    rintro e w2 ⟨rfl, bx2⟩
    have BX2 := Lib.hid bx2; clear bx2 BX1 d0 d1
    go_wp2_with fail
    refine (C6.out _ BX2.out).mono ?_
    rintro e w3 ⟨rfl, bx3⟩
    go_wp2_with fail
    go_ret
    exact ⟨rfl, bx3.below⟩
  · clear c1 h
    go_enter Tryd.func5, Tryd.ntmps5
    go_wp2_with fail
    refine (CG.out _ BX0.out).mono ?_
    rintro e w1 ⟨rfl, bx1⟩
    have BX1 := Lib.hid bx1; clear bx1 BX0
    go_wp2_with fail
    refine (C6.out _ BX1.out).mono ?_
    rintro e w3 ⟨rfl, bx3⟩
    go_wp2_with fail
    go_ret
    exact ⟨rfl, bx3.below⟩

set_option maxRecDepth 100000 in
set_option maxHeartbeats 8000000 in
theorem printBlanks_text (p : Pt) (u : Value) (w : World) (hp : StepsV w u p.steps) (hpb : bnd p.window) (hpw : ∀ s ∈ p.steps, stWf s) (hG : GP w) (hg : greatB p = false) (h0 : (printT p).2 = 0) :
    Calls Tryd.prog 5 #[.agg #[u, .int .i64 p.window]] w fun e w' => e = .returned (.bool true) ∧ Below w.heap.size w w' := by
  obtain ⟨a1, a2, a3, a4⟩ := printT_ok h0
  obtain ⟨ts, t1, t2, t3, t4⟩ := pat_words a1 (okP_of hpw) a3
  have bx := BP.fresh w #[u, .int .i64 p.window]
  have cg := fun W (hb : BP w #[u, .int .i64 p.window] W) => hb.ret (ref8_Great p (.agg #[u, .int .i64 p.window]) W ⟨u, rfl, hp.mono hb.below (Nat.le_refl _)⟩)
  have c1 := fun W (hb : BP w #[u, .int .i64 p.window] W) => hb.ret (print_Print p hpw hpb hg (.agg #[u, .int .i64 p.window]) W ⟨u, rfl, hp.mono hb.below (Nat.le_refl _)⟩ (hG.mono hb.below))
  have c6 := fun W (hb : BP w #[u, .int .i64 p.window] W) => hb.ret (wakes10 W (hG.mono hb.below))
  rw [h0, a4] at c1
  rw [hg] at cg
  obtain ⟨TX, eT, sT, rT⟩ := sV_gen (patT p) 2000 a3
  rw [eT] at c1
  have hTl : TX.data.toList = patT p := by rw [rT]
  rw [← hTl] at t1 t2 t3
  obtain ⟨m, hm⟩ : ∃ m, ts.length = m := ⟨_, rfl⟩
  have hm3 : m ≤ 3001 := by
    have := allOf_most TX.data.toList (by rw [show TX.data.toList.length = TX.size from rfl]; omega)
    rw [t1] at this
    simp only at this
    omega
  have c2 := fun W => ref7_All_toks TX (by omega) ts 0 0 m hm t1 W
  obtain ⟨L, hL⟩ : ∃ L, (ts.map fun t : Tok => wordT t.kind t.n) = L := ⟨_, rfl⟩
  have hLl : L.length = m := by rw [← hL, List.length_map, hm]
  rw [hL] at t2
  have hLq : ∀ (q : Nat) (t : Tok), ts[q]? = some t → L[q]? = some (wordT t.kind t.n) := fun q t h => by rw [← hL, List.getElem?_map, h]; rfl
  have hLs : ∀ q, (L.take q).flatten.length ≤ TX.size := fun q => by
    have := flat_len L q
    rw [t2] at this
    rw [show TX.data.toList.length = TX.size from rfl] at this
    exact this
  have hbn := fun q h => blanks_next TX q h
  have hbe : blanksN (TX.data.toList.take TX.size) = 2 := by rw [List.take_of_length_le (show TX.data.toList.length ≤ TX.size from Nat.le_refl _)]; exact t3
  have hbl := fun q => Nat.le_trans (blanks_le (TX.data.toList.take q)) (by rw [List.length_take]; exact Nat.min_le_left q _)
  rw [hm] at t4
  have hfin : (L.take m).flatten = TX.data.toList := by rw [List.take_of_length_le (by omega)]; exact t2
  obtain ⟨ss, pw⟩ := p
  simp only at *
  obtain ⟨z, hz⟩ : ∃ z, TX.size = z := ⟨_, rfl⟩
  rw [hz] at hLs sT
  have BX0 := Lib.hid bx; clear bx
  have CG := Lib.hid cg; clear cg
  have C1 := Lib.hid c1; clear c1
  have C2 := Lib.hid c2; clear c2
  have C6 := Lib.hid c6; clear c6
  have HLQ := Lib.hid hLq; clear hLq
  have HLS := Lib.hid hLs; clear hLs
  have HBN := Lib.hid hbn; clear hbn
  have HBE := Lib.hid hbe; clear hbe
  have HBL := Lib.hid hbl; clear hbl
  have HFIN := Lib.hid hfin; clear hfin
  have HTS := Lib.hid hm; clear hm
  have HZ := Lib.hid hz
  have hzle : TX.size ≤ 2000 := by omega
  clear hp hpb hpw hG hg h0 a1 a2 a3 a4 t1 t2 t3 eT rT hTl hL hLl hz
  go_enter Tryd.func5, Tryd.ntmps5
  go_wp2_with fail
  refine (CG.out _ BX0.out).mono ?_
  rintro e w1 ⟨rfl, bx1⟩
  have d0 : w1.cell? ⟨w.heap.size, 0, none⟩ = some u := bx1.p.cell 0
  have d1 : w1.cell? ⟨w.heap.size, 1, none⟩ = some (.int .i64 pw) := bx1.p.cell 1
  have BX1 := Lib.hid bx1; clear bx1 BX0
  go_wp2_with fail
  refine (C1.out _ BX1.out).mono ?_
  rintro e w2 ⟨rfl, bx2⟩
  have BX2 := Lib.hid bx2; clear bx2 BX1 d0 d1 CG C1
  go_wp2_with fail
  go_loop [5, 6] (fun bl ix => ∃ q : Nat, q ≤ TX.size ∧ ix = .int .i64 q ∧ bl = .int .i64 (blanksN (TX.data.toList.take q) : Nat)) (fun _ ix => TX.size - (intOf ix).toNat)
  case atStart => exact ⟨0, Nat.zero_le _, rfl, rfl⟩
  case round =>
    obtain ⟨q, hq, rfl, rfl⟩ := hrel
    have hble := HBL.out q
    by_cases hlt : q < TX.size
    · have hn := HBN.out q hlt
      have HN := Lib.hid hn; clear hn
      by_cases h32 : (TX[q].toNat : Int) = 32
      · have e32 : ((TX[q].toNat : Int) == 32) = true := by simpa using h32
        have hn2 := HN.out
        rw [if_pos h32] at hn2
        have HN2 := Lib.hid hn2
        clear h32 hn2
        go_wp2_with fail
        go_round
        case rel => exact ⟨q + 1, by omega, by go_num, by rw [HN2.out]; go_num⟩
        case measure => simp [intOf]; omega
      · have e32 : ((TX[q].toNat : Int) == 32) = false := by simpa using h32
        have hn2 := HN.out
        rw [if_neg h32] at hn2
        have HN2 := Lib.hid hn2
        clear h32 hn2
        go_wp2_with fail
        go_round
        case rel => exact ⟨q + 1, by omega, by go_num, by rw [HN2.out]; rfl⟩
        case measure => simp [intOf]; omega
    · obtain rfl : q = TX.size := by omega
      rw [HBE.out]
      clear hble hlt hq
      go_wp2_with fail
      refine (C2.out _).mono ?_
      rintro e w3 ⟨a, cap, rfl, hac, hta, hb3⟩
      have HT := Lib.hid hta; clear hta
      have bx3 := BX2.out.later hb3
      have BX3 := Lib.hid bx3; clear bx3 hb3 C2
      go_wp2_with fail
      go_loopw [10, 11] (fun o ix wr => ∃ (q : Nat) (X : ByteArray), q ≤ m ∧ ix = .int .i64 q ∧ o = .string X ∧ X.size ≤ z ∧ Hid (X = ⟨((L.take q).flatten).toArray⟩) ∧ Below w3.heap.size w3 wr) (fun _ ix _ => m - (intOf ix).toNat)
      case atStart => exact ⟨0, _, Nat.zero_le _, rfl, rfl, Nat.zero_le _, Lib.hid (by simp), Below.refl _ _⟩
      case round =>
        obtain ⟨q, X, hq, rfl, rfl, hX, HX, hb⟩ := hrel
        by_cases hlt : q < m
        · have hq' : q < ts.length := by rw [HTS.out]; exact hlt
          obtain ⟨b, off, rfl, r0, r1, r2⟩ := (HT.out.mono hb (Nat.le_refl _)).get q hq'
          have hLq := HLQ.out q _ (List.getElem?_eq_getElem hq')
          have hft := flat_take L q (by have := (List.getElem?_eq_some_iff.1 hLq).1; exact this)
          have hat : atL L q = wordT ts[q].kind ts[q].n := by unfold atL; rw [List.getD_eq_getElem?_getD, hLq]; rfl
          rw [hat] at hft
          have hls := HLS.out (q + 1)
          rw [hft, List.length_append] at hls
          have hxl : X.size = (L.take q).flatten.length := by rw [HX.out, ba_size]
          generalize ts[q] = t at *
          obtain ⟨k, n, x⟩ := t
          simp only at *
          have ct := fun W => ref7_Text k n (.int .i64 x) W
          have hwd : wordT k n = if textOf k n = within then 32 :: (within ++ [32]) else textOf k n := rfl
          have E : Hid (∀ Z : ByteArray, Z = ⟨(wordT k n).toArray⟩ → X ++ Z = ⟨((L.take (q + 1)).flatten).toArray⟩) := Lib.hid fun Z hZ => by rw [hft, HX.out, hZ, ba_app]
          have hsz2 : (wordT k n).length ≤ z := by omega
          have hsz3 : ∀ Z : ByteArray, Z = ⟨(wordT k n).toArray⟩ → (X ++ Z).size ≤ z := fun Z hZ => by
            rw [E.out Z hZ, ba_size, hft, List.length_append]; omega
          have HSZ := Lib.hid hsz3; clear hsz3 hLq hft hat hls hxl
          by_cases hwi : textOf k n = within
          · rw [hwi, if_pos rfl] at hwd
            have ct' : ∀ W, Calls Tryd.prog 39 #[.agg #[.int .u8 k, .int .i64 n, .int .i64 x]] W fun e w' => e = .returned (.string ⟨#[119, 105, 116, 104, 105, 110]⟩) ∧ Below W.heap.size W w' := fun W => by
              have := ct W
              unfold TextPost at this
              rw [hwi] at this
              exact this
            have hZ : (⟨#[32, 119, 105, 116, 104, 105, 110, 32]⟩ : ByteArray) = ⟨(wordT k n).toArray⟩ := by rw [hwd]; rfl
            have S1 := Lib.hid (HSZ.out _ hZ)
            have E1 := Lib.hid (E.out _ hZ)
            have CT := Lib.hid ct'
            clear hZ ct ct' hwd hwi hsz2 HSZ E
            go_wp2_with fail
            refine (CT.out _).mono ?_
            rintro e w4 ⟨rfl, hb4⟩
            go_wp2_with fail
            go_roundw
            case rel => exact ⟨q + 1, _, by omega, by go_num, rfl, S1.out, E1, hb.trans (hb4.mono hb.size)⟩
            case measure => simp [intOf]; omega
          · rw [if_neg hwi] at hwd
            obtain ⟨Z, eZ, sZ, rZ⟩ := sV_gen (textOf k n) z (by rw [← hwd]; exact hsz2)
            have ct' : ∀ W, Calls Tryd.prog 39 #[.agg #[.int .u8 k, .int .i64 n, .int .i64 x]] W fun e w' => e = .returned (.string Z) ∧ Below W.heap.size W w' := fun W => by
              have := ct W
              unfold TextPost at this
              rw [← rZ] at this
              exact this
            have hZw : (Z.toList == [119, 105, 116, 104, 105, 110]) = false := by
              rw [beq_eq_false_iff_ne, rZ, ByteArray.toList_eq]
              exact hwi
            have hZn : ¬ Z.toList = [119, 105, 116, 104, 105, 110] := by simpa using hZw
            have hZ : Z = ⟨(wordT k n).toArray⟩ := by rw [hwd]; exact rZ
            have S1 := Lib.hid (HSZ.out _ hZ)
            have E1 := Lib.hid (E.out _ hZ)
            have CT := Lib.hid ct'
            clear hZ ct ct' hwd hwi hsz2 HSZ E eZ rZ
            go_wp2_with fail
            refine (CT.out _).mono ?_
            rintro e w4 ⟨rfl, hb4⟩
            go_wp2_with fail
            go_roundw
            case rel => exact ⟨q + 1, _, by omega, by go_num, rfl, S1.out, E1, hb.trans (hb4.mono hb.size)⟩
            case measure => simp [intOf]; omega
        · obtain rfl : q = m := by omega
          have hXT : X = TX := by rw [HX.out, HFIN.out]
          have bx4 := BX3.out.later hb
          have c6 := C6.out _ bx4
          have C6' := Lib.hid c6
          subst hXT
          clear c6 bx4 C6
          go_wp2_with fail
          refine C6'.out.mono ?_
          rintro e w4 ⟨rfl, bx5⟩
          go_wp2_with fail
          go_ret
          exact ⟨rfl, bx5.below⟩
theorem printBlanks_walk (p : Pt) (u : Value) (w : World) (hp : StepsV w u p.steps) (hpb : bnd p.window) (hpw : ∀ s ∈ p.steps, stWf s) (hG : GP w) :
    Calls Tryd.prog 5 #[.agg #[u, .int .i64 p.window]] w fun e w' => e = .returned (.bool true) ∧ Below w.heap.size w w' := by
  by_cases h : greatB p = true ∨ (printT p).2 ≠ 0
  · exact printBlanks_wakes p u w hp hpb hpw hG h
  · have h1 : greatB p = false := by
      cases hg : greatB p with
      | false => rfl
      | true => exact absurd (.inl hg) h
    have h2 : (printT p).2 = 0 := Decidable.byContradiction fun e => h (.inr e)
    exact printBlanks_text p u w hp hpb hpw hG h1 h2
end Go.Proofs.YtafgincpoahefaaDoor
