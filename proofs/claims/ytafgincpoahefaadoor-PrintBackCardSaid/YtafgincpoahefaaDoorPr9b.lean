/-
  straggleref10: right, Term, Cmp.
  straggleref10: Term, Cmp.
-/
import Derived.Test.YtafgincpoahefaaDoorPr8
import Derived.Test.YtafgincpoahefaaDoorParR
namespace Go.Proofs.YtafgincpoahefaaDoor
open Go.RowKit

set_option maxRecDepth 100000 in
set_option maxHeartbeats 1000000 in
theorem ref10_right (t : Tm) (hw : tmWf t) (w : World) : Calls Tryd.prog 68 #[tmA t] w fun e w' => e = .returned (.bool (tmB t)) ∧ Below w.heap.size w w' := by
  have c1 := cmps_new (w.alloc (.cells (tmV t).toArray 29)) (w.heap.size + 1) (by simp) 31 ⟨3, t, ⟨0, 0, 0, 0⟩⟩
  have c2 := steps_new ((w.alloc (.cells (tmV t).toArray 29)).alloc (.cells (cmV ⟨3, t, ⟨0, 0, 0, 0⟩⟩).toArray 31)) (w.heap.size + 1 + 1) (by simp) 27 ⟨false, 0, 0, 0, false, [⟨3, t, ⟨0, 0, 0, 0⟩⟩]⟩ _ c1
  have cr := ref8_Right ⟨[⟨false, 0, 0, 0, false, [⟨3, t, ⟨0, 0, 0, 0⟩⟩]⟩], 0⟩ _ _ ⟨_, rfl, c2⟩ (by simpa using stWf_zero (cmWf_left hw))
  rw [pt_one, st_zero, cm_left] at cr
  clear c1 c2
  obtain ⟨k, n, s, r⟩ := t
  simp only [tmA, tmV, cmV, stV] at *
  generalize tmB ⟨k, n, s, r⟩ = res at *
  have CR := Lib.hid cr; clear cr
  go_enter Tryd.func68, Tryd.ntmps68
  go_wp2_with fail
  refine CR.out.mono ?_
  rintro e w1 ⟨rfl, hb1⟩
  go_wp2_with fail
  go_ret
  exact ⟨rfl, ((((Below.refl _ _).alloc (Nat.le_refl _) _).alloc (by simp) _).alloc (by simp; omega) _).trans (hb1.mono (by simp; omega))⟩

theorem heads10 (m : Nat) (h : m < 7) (h0 : 0 < m) : (⟨#[63, 116, 120, 121, 110, 100, 99]⟩ : ByteArray).extract m (m + 1) = ⟨(headC m).toArray⟩ := by
  have : m = 1 ∨ m = 2 ∨ m = 3 ∨ m = 4 ∨ m = 5 ∨ m = 6 := by omega
  rcases this with rfl | rfl | rfl | rfl | rfl | rfl <;> decide +kernel
/-- the text up to its names -/
def namesPre (m : Nat) (L : List Int) (k : Nat) : List UInt8 := headC m ++ [40] ++ joinB 44 ((L.take k).map letterT)
theorem namesPre_next (m : Nat) {L : List Int} {k : Nat} {x : Int} (h : L[k]? = some x) : namesPre m L (k + 1) = namesPre m L k ++ ((if k = 0 then [] else [44]) ++ letterT x) := by
  unfold namesPre
  rw [joinB_take 44 letterT h]
  simp
theorem names_text {t : Tm} (hk : t.kind ≠ 0) : namesPre t.kind.toNat (namesOf t) (namesOf t).length ++ [41] ++ tailT t.n = termT0 t := by
  unfold namesPre termT0
  rw [if_neg hk, List.take_length]
  cases htw : twoB t
  · rw [names_one hk htw]; simp [joinB]
  · rw [names_two hk htw]; simp [joinB]
theorem ba_size (l : List UInt8) : (⟨l.toArray⟩ : ByteArray).size = l.length := by simp [ByteArray.size]
theorem namesPre_len (m : Nat) (L : List Int) (k : Nat) (h : L.length ≤ 2) : (namesPre m L k).length ≤ 5 := by
  have h1 := headC_len m
  have : (joinB 44 ((L.take k).map letterT)).length ≤ 3 := by
    have hl : (L.take k).length ≤ 2 := by rw [List.length_take]; omega
    generalize L.take k = M at hl
    match M, hl with
    | [], _ => simp [joinB]
    | [a], _ => have := letterT_len a; simp [joinB]; omega
    | [a, b], _ => have h1 := letterT_len a; have h2 := letterT_len b; simp [joinB]; omega
  unfold namesPre
  simp only [List.length_append, List.length_cons, List.length_nil]
  omega
theorem namesOf_len (t : Tm) : (namesOf t).length ≤ 2 := by
  unfold namesOf; split
  · simp
  · split <;> simp
theorem intsAt_cell {w : World} {k : IntKind} {a : Option Addr} {l : List Int} (h : IntsAt w k a l) {i : Nat} {x : Int} (hx : l[i]? = some x) : ∃ b off, a = some ⟨b, off, none⟩ ∧ w.cell? ⟨b, off + i, none⟩ = some (.int k x) := by
  have hi := (List.getElem?_eq_some_iff.1 hx).1
  rcases h.2 with rfl | ⟨b, off, rfl, hc⟩
  · simp at hi
  · exact ⟨b, off, rfl, by rw [hc i hi, List.getD_eq_getElem?_getD, hx]; rfl⟩

set_option maxRecDepth 100000 in
set_option maxHeartbeats 2000000 in
theorem ref10_Term_no (t : Tm) (hw : tmWf t) (hb : tmB t = false) (w : World) : Calls Tryd.prog 30 #[tmA t] w fun e w' => e = .returned (sV []) ∧ Below w.heap.size w w' := by
  have cr := fun W => ref10_right t hw W
  rw [hb] at cr
  obtain ⟨k, n, s, r⟩ := t
  simp only [tmA] at *
  have CR := Lib.hid cr; clear cr hb hw
  go_enter Tryd.func30, Tryd.ntmps30
  go_wp2_with fail
  refine (CR.out _).mono ?_
  rintro e w1 ⟨rfl, hb1⟩
  go_wp2_with fail
  go_ret
  exact ⟨rfl, ((Below.refl _ _).alloc (Nat.le_refl _) _).trans (hb1.mono (by simp))⟩
set_option maxRecDepth 100000 in
set_option maxHeartbeats 2000000 in
theorem ref10_Term_num (n s r : Int) (hw : tmWf ⟨0, n, s, r⟩) (hb : tmB ⟨0, n, s, r⟩ = true) (w : World) : Calls Tryd.prog 30 #[tmA ⟨0, n, s, r⟩] w fun e w' => e = .returned (sV (Lib.itoa n)) ∧ Below w.heap.size w w' := by
  have cr := fun W => ref10_right ⟨0, n, s, r⟩ hw W
  have ct := fun W => ref_TextP n hw.2.1 W
  rw [hb] at cr
  have z0 := Holds.fresh w 29 (tmV ⟨0, n, s, r⟩).toArray
  simp only [tmA, tmV] at *
  have CR := Lib.hid cr; clear cr hb hw
  have CT := Lib.hid ct; clear ct
  have Z0 := Lib.hid z0; clear z0
  go_enter Tryd.func30, Tryd.ntmps30
  go_wp2_with fail
  refine (CR.out _).mono ?_
  rintro e w1 ⟨rfl, hb1⟩
  have hh := Z0.out.later hb1
  obtain ⟨c0, c1⟩ : w1.cell? ⟨w.heap.size, 0, none⟩ = some (.int .u8 0) ∧ w1.cell? ⟨w.heap.size, 1, none⟩ = some (.int .i64 n) := ⟨hh.cell 0, hh.cell 1⟩
  have HB := Lib.hid (((Below.refl w.heap.size w).alloc (Nat.le_refl _) (.cells #[.int .u8 0, .int .i64 n, .int .i64 s, .int .i64 r] 29)).trans (hb1.mono (by simp)))
  clear hh hb1
  go_wp2_with fail
  refine (CT.out _).mono ?_
  rintro e w2 ⟨rfl, hb2⟩
  go_wp2_with fail
  go_ret
  exact ⟨rfl, HB.out.trans (hb2.mono HB.out.size)⟩
set_option maxRecDepth 100000 in
set_option maxHeartbeats 4000000 in
theorem ref10_Term_names (m : Nat) (n s r : Int) (hm0 : 0 < m) (hm7 : m < 7) (hw : tmWf ⟨m, n, s, r⟩) (hb : tmB ⟨m, n, s, r⟩ = true) (w : World) : Calls Tryd.prog 30 #[tmA ⟨m, n, s, r⟩] w fun e w' => e = .returned (sV (termT0 ⟨m, n, s, r⟩)) ∧ Below w.heap.size w w' := by
  have cr := fun W => ref10_right ⟨m, n, s, r⟩ hw W
  have cn := fun W => ref8_Names ⟨m, n, s, r⟩ W
  have ct := fun W => ref_TextP n hw.2.1 W
  have cl := fun x W => ref10_Letter x W
  rw [hb] at cr
  have z0 := Holds.fresh w 29 (tmV ⟨m, n, s, r⟩).toArray
  have hres := names_text (t := ⟨m, n, s, r⟩) (by simp only; omega)
  have hlen := namesOf_len ⟨m, n, s, r⟩
  have hnl := itoa_len n hw.2.1
  simp only [tmA, tmV, Int.toNat_natCast] at *
  generalize namesOf ⟨m, n, s, r⟩ = L at *
  generalize termT0 ⟨m, n, s, r⟩ = TX at *
  have hnx := fun k x h => namesPre_next m (L := L) (k := k) (x := x) h
  have hsz := fun k => namesPre_len m L k hlen
  have hhd := heads10 m hm7 hm0
  obtain ⟨l, hl⟩ : ∃ l, L.length = l := ⟨_, rfl⟩
  rw [hl] at hlen hres
  have hcell : ∀ (W : World) (a : Option Addr) (q : Nat), IntsAt W .i64 a L → q < l → ∃ b off x, a = some ⟨b, off, none⟩ ∧ L[q]? = some x ∧ W.cell? ⟨b, off + q, none⟩ = some (.int .i64 x) := fun W a q h hq => by
    have hx : L[q]? = some (L[q]'(by omega)) := List.getElem?_eq_getElem _
    obtain ⟨b, off, e, hc⟩ := intsAt_cell h hx
    exact ⟨b, off, _, e, hx, hc⟩
  have h00 : namesPre m L 0 = headC m ++ [40] := by simp [namesPre, joinB]
  have cn' : ∀ W, Calls Tryd.prog 69 #[.agg #[.int .u8 m, .int .i64 n, .int .i64 s, .int .i64 r]] W fun e w' => ∃ a c, e = .returned (.slice a l c) ∧ l ≤ c ∧ IntsAt w' .i64 a L ∧ Below W.heap.size W w' := fun W => by
    refine (cn W).mono ?_
    rintro e w' ⟨v, rfl, ⟨a, c, rfl, h1, h2⟩, hb⟩
    rw [hl] at h1 ⊢
    exact ⟨a, c, rfl, h1, h2, hb⟩
  obtain ⟨A, eA, sA, rA⟩ := sV_gen (headC m) 1 (headC_len m)
  rw [← rA] at hhd
  have RA := Lib.hid rA; clear rA eA
  have HCELL := Lib.hid hcell; clear hcell
  have CR := Lib.hid cr; clear cr hb hw
  have CN := Lib.hid cn'; clear cn cn'
  have CT := Lib.hid ct; clear ct
  have CL := Lib.hid cl; clear cl
  have Z0 := Lib.hid z0; clear z0
  have HN := Lib.hid hnx; clear hnx
  have HS := Lib.hid hsz; clear hsz
  have H00 := Lib.hid h00; clear h00
  have HR := Lib.hid hres; clear hres
  have HL := Lib.hid hl; clear hl
  have hmz : ((m : Int) == 0) = false := by simp only [beq_eq_false_iff_ne]; omega
  go_enter Tryd.func30, Tryd.ntmps30
  go_wp2_with fail
  refine (CR.out _).mono ?_
  rintro e w1 ⟨rfl, hb1⟩
  have hh := Z0.out.later hb1
  have hlt := hh.size
  obtain ⟨c0, c1, c2, c3⟩ : w1.cell? ⟨w.heap.size, 0, none⟩ = some (.int .u8 m) ∧ w1.cell? ⟨w.heap.size, 1, none⟩ = some (.int .i64 n) ∧ w1.cell? ⟨w.heap.size, 2, none⟩ = some (.int .i64 s) ∧ w1.cell? ⟨w.heap.size, 3, none⟩ = some (.int .i64 r) := ⟨hh.cell 0, hh.cell 1, hh.cell 2, hh.cell 3⟩
  have HB := Lib.hid (((Below.refl w.heap.size w).alloc (Nat.le_refl _) (.cells #[.int .u8 m, .int .i64 n, .int .i64 s, .int .i64 r] 29)).trans (hb1.mono (by simp)))
  have HH := Lib.hid hh
  clear hh hb1
  go_wp2_with fail
  refine (CN.out _).mono ?_
  rintro e w2 ⟨a, c, rfl, hac, hia, hb2⟩
  have hh2 := HH.out.later hb2
  have hlt2 := hh2.size
  have HB2 := Lib.hid (HB.out.trans (hb2.mono HB.out.size))
  have HH2 := Lib.hid hh2
  have HIA := Lib.hid hia
  clear hb2 hh2 hia HB HH c0 c1 c2 c3 hlt
  go_wp2_with fail
  go_loopw [3, 5] (fun o i wr => ∃ (q : Nat) (X : ByteArray), q ≤ l ∧ i = .int .i64 q ∧ o = .string X ∧ X.size ≤ 5 ∧ Hid (X = ⟨(namesPre m L q).toArray⟩) ∧ Below w2.heap.size w2 wr) (fun _ i _ => l - (intOf i).toNat)
  case atStart =>
    have e0 : A ++ ⟨#[40]⟩ = ⟨(namesPre m L 0).toArray⟩ := by rw [H00.out, RA.out]; exact ba_app _ _
    exact ⟨0, _, Nat.zero_le _, rfl, rfl, by rw [e0, ba_size]; exact HS.out 0, Lib.hid e0, Below.refl _ _⟩
  case round =>
    obtain ⟨q, X, hq, rfl, rfl, hX, HX, hb⟩ := hrel
    by_cases hql : q < l
    · obtain ⟨bb, off, x, rfl, hx, hc⟩ := HCELL.out wr a q (HIA.out.mono hb) hql
      have hnx := HN.out q x hx
      obtain ⟨Y, eY, sY, rY⟩ := sV_gen (letterT x) 1 (letterT_len x)
      have cl := fun W => CL.out x W
      rw [eY] at cl
      have CLX := Lib.hid cl; clear cl hx eY
      have HR2 : Hid ((q = 0 → X ++ Y = ⟨(namesPre m L (q + 1)).toArray⟩) ∧ (¬ q = 0 → X ++ ⟨#[44]⟩ ++ Y = ⟨(namesPre m L (q + 1)).toArray⟩)) := Lib.hid ⟨fun h => by
          rw [if_pos h] at hnx; rw [hnx, HX.out, rY, ba_app]; rfl, fun h => by
          rw [if_neg h] at hnx
          rw [hnx, HX.out, rY, show (⟨#[44]⟩ : ByteArray) = ⟨([44] : List UInt8).toArray⟩ from rfl, ba_app, ba_app, List.append_assoc]⟩
      clear hnx rY
      by_cases hq0 : q = 0
      · subst hq0
        rw [Nat.add_zero] at hc
        have e1 := HR2.out.1 rfl
        have s1 : (X ++ Y).size ≤ 5 := by rw [e1, ba_size]; exact HS.out _
        have E1 := Lib.hid e1; clear e1
        have S1 := Lib.hid s1; clear s1
        go_wp2_with fail
        refine (CLX.out _).mono ?_
        rintro e w3 ⟨rfl, hb3⟩
        go_wp2_with fail
        go_roundw
        case rel => exact ⟨1, _, by omega, by go_num, rfl, S1.out, E1, hb.trans (hb3.mono hb.size)⟩
        case measure => simp [intOf]; omega
      · have e1 := HR2.out.2 hq0
        have s1 : (X ++ ⟨#[44]⟩ ++ Y).size ≤ 5 := by rw [e1, ba_size]; exact HS.out _
        have E1 := Lib.hid e1; clear e1
        have S1 := Lib.hid s1; clear s1
        go_wp2_with fail
        refine (CLX.out _).mono ?_
        rintro e w3 ⟨rfl, hb3⟩
        go_wp2_with fail
        go_roundw
        case rel => exact ⟨q + 1, _, by omega, by go_num, rfl, S1.out, E1, hb.trans (hb3.mono hb.size)⟩
        case measure => simp [intOf]; omega
    · obtain rfl : q = l := by omega
      have hh3 := HH2.out.later hb
      have c1 : wr.cell? ⟨w.heap.size, 1, none⟩ = some (.int .i64 n) := hh3.cell 1
      have HB3 := Lib.hid (HB2.out.trans (hb.mono HB2.out.size))
      have hres := HR.out
      obtain ⟨Y, eY, sY, rY⟩ := sV_gen (Lib.itoa n) 21 hnl
      have ct := fun W => CT.out W
      rw [eY] at ct
      have CTX := Lib.hid ct; clear ct eY
      clear hh3 hb
      by_cases hp : 0 < n
      · have ht : tailT n = 43 :: Lib.itoa n := by unfold tailT; rw [if_pos hp]
        have HF : Hid (Ending.returned (.string (X ++ ⟨#[41]⟩ ++ ⟨#[43]⟩ ++ Y)) = .returned (sV TX)) := Lib.hid (ret_str (by
          rw [← hres, ht, HX.out, rY, show (⟨#[41]⟩ : ByteArray) = ⟨([41] : List UInt8).toArray⟩ from rfl, show (⟨#[43]⟩ : ByteArray) = ⟨([43] : List UInt8).toArray⟩ from rfl, ba_app, ba_app, ba_app]; simp))
        clear hres ht rY
        go_wp2_with fail
        refine (CTX.out _).mono ?_
        rintro e w3 ⟨rfl, hb3⟩
        go_wp2_with fail
        go_ret
        exact ⟨HF.out, HB3.out.trans (hb3.mono HB3.out.size)⟩
      · by_cases hn : n < 0
        · have ht : tailT n = Lib.itoa n := by unfold tailT; rw [if_neg hp, if_pos hn]
          have HF : Hid (Ending.returned (.string (X ++ ⟨#[41]⟩ ++ Y)) = .returned (sV TX)) := Lib.hid (ret_str (by
            rw [← hres, ht, HX.out, rY, show (⟨#[41]⟩ : ByteArray) = ⟨([41] : List UInt8).toArray⟩ from rfl, ba_app, ba_app]))
          clear hres ht rY
          go_wp2_with fail
          refine (CTX.out _).mono ?_
          rintro e w3 ⟨rfl, hb3⟩
          go_wp2_with fail
          go_ret
          exact ⟨HF.out, HB3.out.trans (hb3.mono HB3.out.size)⟩
        · have ht : tailT n = [] := by unfold tailT; rw [if_neg hp, if_neg hn]
          have HF : Hid (Ending.returned (.string (X ++ ⟨#[41]⟩)) = .returned (sV TX)) := Lib.hid (ret_str (by
            rw [← hres, ht, HX.out, show (⟨#[41]⟩ : ByteArray) = ⟨([41] : List UInt8).toArray⟩ from rfl, ba_app]; simp))
          clear hres ht rY
          go_wp2_with fail
          go_ret
          exact ⟨HF.out, HB3.out⟩
end Go.Proofs.YtafgincpoahefaaDoor

namespace Go.Proofs.YtafgincpoahefaaDoor
open Go.RowKit

theorem ref10_Term (t : Tm) (hw : tmWf t) (w : World) : Calls Tryd.prog 30 #[tmA t] w fun e w' => e = .returned (sV (termT t)) ∧ Below w.heap.size w w' := by
  cases hb : tmB t
  · rw [termT_no hb]; exact ref10_Term_no t hw hb w
  · rw [termT_yes hb]
    have h7 := tm_kind hb
    have h0 := hw.1.1
    obtain ⟨k, n, s, r⟩ := t
    simp only at h7 h0
    by_cases hk : k = 0
    · subst hk
      have : termT0 ⟨0, n, s, r⟩ = Lib.itoa n := by unfold termT0; rw [if_pos rfl]
      rw [this]; exact ref10_Term_num n s r hw hb w
    · obtain ⟨m, rfl⟩ := Int.eq_ofNat_of_zero_le h0
      exact ref10_Term_names m n s r (by omega) (by omega) hw hb w

theorem opT_ne {op : Int} (h : 1 ≤ op) (h' : op < 7) : opT op ≠ [] := by
  have : op = 1 ∨ op = 2 ∨ op = 3 ∨ op = 4 ∨ op = 5 ∨ op = 6 := by omega
  rcases this with rfl | rfl | rfl | rfl | rfl | rfl <;> decide
theorem opT_none {op : Int} (h : ¬ (1 ≤ op ∧ op < 7)) : opT op = [] := by
  unfold opT
  split
  · rw [show op = 0 from by omega]; rfl
  · rfl
theorem cmB_op {c : Cm} (h : cmB c = true) : 1 ≤ c.op ∧ c.op < 7 := by
  simp only [cmB, Bool.and_eq_true, decide_eq_true_eq] at h; exact h.1.1
theorem str_ne {l : List UInt8} (h : l ≠ []) : (⟨l.toArray⟩ : ByteArray).toList.isEmpty = false ∧ ¬ (⟨l.toArray⟩ : ByteArray).toList = [] := by
  rw [ByteArray.toList_eq]
  exact ⟨by simpa using h, by simpa using h⟩

set_option maxRecDepth 100000 in
set_option maxHeartbeats 4000000 in
theorem ref10_Cmp (c : Cm) (hw : cmWf c) (w : World) : Calls Tryd.prog 28 #[cmA c] w fun e w' => e = .returned (sV (cmpT c)) ∧ Below w.heap.size w w' := by
  have co := fun W => ref10_Op c.op W
  have cl := fun W => ref10_right c.l hw.2.1 W
  have cr := fun W => ref10_right c.r hw.2.2 W
  have ctl := fun W => ref10_Term c.l hw.2.1 W
  have ctr := fun W => ref10_Term c.r hw.2.2 W
  have z0 := Holds.fresh w 31 (cmV c).toArray
  by_cases ho : 1 ≤ c.op ∧ c.op < 7
  · have hne := opT_ne ho.1 ho.2
    obtain ⟨O, eO, sO, rO⟩ := sV_gen (opT c.op) 2 (opT_len _)
    have hO := str_ne hne
    rw [← rO] at hO
    obtain ⟨hO1, hO2⟩ := hO
    rw [eO] at co
    have hcm : cmB c = (tmB c.l && tmB c.r) := by
      simp only [cmB, decide_eq_true ho.1, decide_eq_true ho.2, Bool.true_and]
    cases hl : tmB c.l
    · rw [hl] at hcm cl
      rw [cmpT_no hcm]
      obtain ⟨op, ⟨k, n, s, r⟩, ⟨k', n', s', r'⟩⟩ := c
      simp only [cmA, tmA, cmV] at *
      have CO := Lib.hid co; clear co
      have CL := Lib.hid cl; clear cl
      have Z0 := Lib.hid z0; clear z0
      clear cr ctl ctr hw ho eO rO hcm hl hne
      go_enter Tryd.func28, Tryd.ntmps28
      go_wp2_with fail
      refine (CO.out _).mono ?_
      rintro e w1 ⟨rfl, rfl⟩
      go_wp2_with fail
      refine (CL.out _).mono ?_
      rintro e w1 ⟨rfl, hb1⟩
      go_wp2_with fail
      go_ret
      exact ⟨rfl, ((Below.refl _ _).alloc (Nat.le_refl _) _).trans (hb1.mono (by simp))⟩
    · cases hr : tmB c.r
      · rw [hl, hr] at hcm
        rw [hl] at cl
        rw [hr] at cr
        rw [cmpT_no hcm]
        obtain ⟨op, ⟨k, n, s, r⟩, ⟨k', n', s', r'⟩⟩ := c
        simp only [cmA, tmA, cmV] at *
        have CO := Lib.hid co; clear co
        have CL := Lib.hid cl; clear cl
        have CR := Lib.hid cr; clear cr
        have Z0 := Lib.hid z0; clear z0
        clear ctl ctr hw ho eO rO hcm hl hr hne
        go_enter Tryd.func28, Tryd.ntmps28
        go_wp2_with fail
        refine (CO.out _).mono ?_
        rintro e w1 ⟨rfl, rfl⟩
        go_wp2_with fail
        refine (CL.out _).mono ?_
        rintro e w1 ⟨rfl, hb1⟩
        have hh := Z0.out.later hb1
        obtain ⟨c5, c6, c7, c8⟩ : w1.cell? ⟨w.heap.size, 5, none⟩ = some (.int .u8 k') ∧ w1.cell? ⟨w.heap.size, 6, none⟩ = some (.int .i64 n') ∧ w1.cell? ⟨w.heap.size, 7, none⟩ = some (.int .i64 s') ∧ w1.cell? ⟨w.heap.size, 8, none⟩ = some (.int .i64 r') := ⟨hh.cell 5, hh.cell 6, hh.cell 7, hh.cell 8⟩
        have HB := Lib.hid (((Below.refl w.heap.size w).alloc (Nat.le_refl _) (.cells #[.int .u8 op, .int .u8 k, .int .i64 n, .int .i64 s, .int .i64 r, .int .u8 k', .int .i64 n', .int .i64 s', .int .i64 r'] 31)).trans (hb1.mono (by simp)))
        clear hh hb1
        go_wp2_with fail
        refine (CR.out _).mono ?_
        rintro e w2 ⟨rfl, hb2⟩
        go_wp2_with fail
        go_ret
        exact ⟨rfl, HB.out.trans (hb2.mono HB.out.size)⟩
      · rw [hl, hr] at hcm
        rw [hl] at cl
        rw [hr] at cr
        obtain ⟨A, eA, sA, rA⟩ := sV_gen (termT c.l) 30 (termT_len _ hw.2.1.2.1)
        obtain ⟨B, eB, sB, rB⟩ := sV_gen (termT c.r) 30 (termT_len _ hw.2.2.2.1)
        have hres : sV (cmpT c) = .string (A ++ O ++ B) := by
          rw [cmpT_yes hcm, rA, rO, rB, termT_yes hl, termT_yes hr, ba_app, ba_app]; rfl
        rw [eA] at ctl
        rw [eB] at ctr
        rw [hres]
        obtain ⟨op, ⟨k, n, s, r⟩, ⟨k', n', s', r'⟩⟩ := c
        simp only [cmA, tmA, cmV] at *
        have CO := Lib.hid co; clear co
        have CL := Lib.hid cl; clear cl
        have CR := Lib.hid cr; clear cr
        have CTL := Lib.hid ctl; clear ctl
        have CTR := Lib.hid ctr; clear ctr
        have Z0 := Lib.hid z0; clear z0
        have g1 : ¬ 9223372036854775807 < A.size + O.size := by omega
        have g2 : ¬ 9223372036854775807 < A.size + O.size + B.size := by omega
        clear hw ho eO rO hcm hl hr hne eA eB rA rB hres
        go_enter Tryd.func28, Tryd.ntmps28
        go_wp2_with fail
        refine (CO.out _).mono ?_
        rintro e w1 ⟨rfl, rfl⟩
        go_wp2_with fail
        refine (CL.out _).mono ?_
        rintro e w1 ⟨rfl, hb1⟩
        have hh := Z0.out.later hb1
        obtain ⟨c5, c6, c7, c8⟩ : w1.cell? ⟨w.heap.size, 5, none⟩ = some (.int .u8 k') ∧ w1.cell? ⟨w.heap.size, 6, none⟩ = some (.int .i64 n') ∧ w1.cell? ⟨w.heap.size, 7, none⟩ = some (.int .i64 s') ∧ w1.cell? ⟨w.heap.size, 8, none⟩ = some (.int .i64 r') := ⟨hh.cell 5, hh.cell 6, hh.cell 7, hh.cell 8⟩
        have HB := Lib.hid (((Below.refl w.heap.size w).alloc (Nat.le_refl _) (.cells #[.int .u8 op, .int .u8 k, .int .i64 n, .int .i64 s, .int .i64 r, .int .u8 k', .int .i64 n', .int .i64 s', .int .i64 r'] 31)).trans (hb1.mono (by simp)))
        have HH := Lib.hid hh
        clear hh hb1
        go_wp2_with fail
        refine (CR.out _).mono ?_
        rintro e w2 ⟨rfl, hb2⟩
        have hh := HH.out.later hb2
        have HB2 := Lib.hid (HB.out.trans (hb2.mono HB.out.size))
        obtain ⟨c0, c1, c2, c3, c4⟩ : w2.cell? ⟨w.heap.size, 0, none⟩ = some (.int .u8 op) ∧ w2.cell? ⟨w.heap.size, 1, none⟩ = some (.int .u8 k) ∧ w2.cell? ⟨w.heap.size, 2, none⟩ = some (.int .i64 n) ∧ w2.cell? ⟨w.heap.size, 3, none⟩ = some (.int .i64 s) ∧ w2.cell? ⟨w.heap.size, 4, none⟩ = some (.int .i64 r) := ⟨hh.cell 0, hh.cell 1, hh.cell 2, hh.cell 3, hh.cell 4⟩
        obtain ⟨d5, d6, d7, d8⟩ : w2.cell? ⟨w.heap.size, 5, none⟩ = some (.int .u8 k') ∧ w2.cell? ⟨w.heap.size, 6, none⟩ = some (.int .i64 n') ∧ w2.cell? ⟨w.heap.size, 7, none⟩ = some (.int .i64 s') ∧ w2.cell? ⟨w.heap.size, 8, none⟩ = some (.int .i64 r') := ⟨hh.cell 5, hh.cell 6, hh.cell 7, hh.cell 8⟩
        clear hh hb2 c5 c6 c7 c8 HB HH
        go_wp2_with fail
        go_region_held3 (fun w' => w'.cell? ⟨w.heap.size, 0, none⟩ = some (.int .u8 op) ∧ w'.cell? ⟨w.heap.size, 1, none⟩ = some (.int .u8 k) ∧ w'.cell? ⟨w.heap.size, 2, none⟩ = some (.int .i64 n) ∧ w'.cell? ⟨w.heap.size, 3, none⟩ = some (.int .i64 s) ∧ w'.cell? ⟨w.heap.size, 4, none⟩ = some (.int .i64 r) ∧ w'.cell? ⟨w.heap.size, 5, none⟩ = some (.int .u8 k') ∧ w'.cell? ⟨w.heap.size, 6, none⟩ = some (.int .i64 n') ∧ w'.cell? ⟨w.heap.size, 7, none⟩ = some (.int .i64 s') ∧ w'.cell? ⟨w.heap.size, 8, none⟩ = some (.int .i64 r') ∧ Below w.heap.size w w')
          (first | exact ⟨c0, c1, c2, c3, c4, d5, d6, d7, d8, HB2.out.drew⟩ | exact keep9 (by assumption) hb1 | assumption)
          (first
            | (go_at_call 30; (with_reducible refine (CTL.out _).mono ?_); rintro e w1 ⟨rfl, hb1⟩)
            | (go_at_call 30; (with_reducible refine (CTR.out _).mono ?_); rintro e w1 ⟨rfl, hb1⟩)
            | (go_at_call 32; refine (CO.out _).mono ?_; rintro e w1 ⟨rfl, rfl⟩))
        go_wp2_with fail
        go_ret
        exact ⟨rfl, last9 (by assumption)⟩
  · rw [opT_none ho] at co
    replace co : ∀ W, Calls Tryd.prog 32 #[.int .u8 c.op] W fun e w' => e = .returned (.string ⟨#[]⟩) ∧ W = w' := co
    have hcm : cmB c = false := by
      cases h : cmB c with
      | false => rfl
      | true => exact absurd (cmB_op h) ho
    rw [cmpT_no hcm]
    obtain ⟨op, ⟨k, n, s, r⟩, ⟨k', n', s', r'⟩⟩ := c
    simp only [cmA] at *
    have CO := Lib.hid co; clear co
    clear cl cr ctl ctr hw ho hcm z0
    go_enter Tryd.func28, Tryd.ntmps28
    go_wp2_with fail
    refine (CO.out _).mono ?_
    rintro e w1 ⟨rfl, rfl⟩
    go_wp2_with fail
    go_ret
    exact ⟨rfl, (Below.refl _ _).alloc (Nat.le_refl _) _⟩
end Go.Proofs.YtafgincpoahefaaDoor
