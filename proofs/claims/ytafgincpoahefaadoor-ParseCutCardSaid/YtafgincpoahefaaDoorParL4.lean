/-
  stragglelaw09.ParseCut: true of any text.
-/
import Derived.Test.YtafgincpoahefaaDoorParL3
import Derived.Test.YtafgincpoahefaaDoorRef7t
import Derived.BigQuiet
import Derived.Deep.QuietTactic
namespace Go.Proofs.YtafgincpoahefaaDoor
open Go.RowKit
attribute [local go_sem] Oper.semAt_some

theorem text_len : ∀ (k a : Nat) (l : List UInt8), good (yields a l) → ∀ y, (yields a l)[k]? = some y → (textOf y.t.kind y.t.n).length = y.m := by
  intro k
  induction k with
  | zero =>
    intro a l hg y hy
    have h : l.drop (lead blB l) ≠ [] := fun h => by rw [yields_end a l h] at hy; simp at hy
    have h0 := good_first hg h
    rw [yields_more a l h h0] at hy
    simp only [List.getElem?_cons_zero, Option.some.injEq] at hy
    subst hy
    simp only
    rw [tok_text _ h0, List.length_take, Nat.min_eq_left (tokOf_le _)]
  | succ k ih =>
    intro a l hg y hy
    have h : l.drop (lead blB l) ≠ [] := fun h => by rw [yields_end a l h] at hy; simp at hy
    have h0 := good_first hg h
    have hgr := good_rest hg h
    rw [yields_more a l h h0] at hy
    simp only [List.getElem?_cons_succ] at hy
    exact ih _ _ hgr y hy
theorem split_end {pre pre2 r2 : List Tok} {e y : Tok} (h : pre ++ [e] = pre2 ++ y :: r2) : (y = e) ∨ ∃ r3, pre = pre2 ++ y :: r3 := by
  rcases List.eq_nil_or_concat r2 with rfl | ⟨r3, z, rfl⟩
  · have := List.append_inj_right' h rfl
    simp at this
    exact .inl this.symm
  · rw [List.concat_eq_append] at h
    rw [← List.cons_append, ← List.append_assoc] at h
    exact .inr ⟨r3, (List.append_inj' h rfl).1⟩
/-- a text is cut: its tokens up to there -/
theorem toks_take {l : List UInt8} (hg : good (yields 0 l)) (hl : l.length ≤ 2000) {k c : Nat} (hc : c ≤ l.length) (hk : k ≤ (yields 0 l).length) (h1 : ∀ y, (yields 0 l)[k]? = some y → (c : Int) ≤ y.t.at') (h2 : ∀ j y, j + 1 = k → (yields 0 l)[j]? = some y → y.t.at' + y.m ≤ (c : Int)) :
    allOf (l.take c) = ((toksL l).take k ++ [⟨0, 0, c⟩], 0, 0) := by
  have h := yields_pre k 0 l hg c hc hk (fun y hy => by have := h1 y hy; omega) (fun j y hj hy => by have := h2 j y hj hy; omega) [] (.inr (fun x hx => by simp at hx))
  rw [List.append_nil, Nat.zero_add, yields_end c [] (by simp), List.append_nil] at h
  have hlen : (l.take c).length = c := by rw [List.length_take]; omega
  have hgood : good (yields 0 (l.take c)) := by
    rw [h]
    exact fun y hy => hg y (List.mem_of_mem_take hy)
  rw [all_mk (by omega) hgood]
  unfold toksL
  rw [h, hlen, List.take_append_of_le_length (by simpa using hk)]
  simp only [List.map_take]
/-- what is told of a text that is no pattern's, cut behind the token that may not stand there, and ahead of it -/
theorem par_cut {l : List UInt8} {a : Int} (h : (parseOf l).2 = (a, 90)) : allOf l = (toksL l, 0, 0) ∧ l.length ≤ 2000 ∧ ∃ (k : Nat) (x : Tok), (toksL l)[k]? = some x ∧ x.at' = a ∧ (∀ (j : Nat) (t : Tok), (toksL l)[j]? = some t → t.at' = a → j = k) ∧
    ∃ c : Nat, a = c ∧ c + (textOf x.kind x.n).length ≤ l.length ∧ (parseOf (l.take (c + (textOf x.kind x.n).length))).2 = (a, 90) ∧ ((parseOf (l.take c)).2.2 = 0 ∨ (parseOf (l.take c)).2 = (a, 90)) := by
  obtain ⟨h1, hg, h3, _, pre, x, r, h5, rfl, hx⟩ := par_bad h
  have hk : (toksL l)[pre.length]? = some x := by rw [h5]; simp
  obtain ⟨c, hc, hcl⟩ := toksL_place hk
  have huniq : ∀ (j : Nat) (t : Tok), (toksL l)[j]? = some t → t.at' = x.at' → j = pre.length := fun j t hj ht => by
    rcases Nat.lt_trichotomy j pre.length with h | h | h
    · have := toksL_order hg h hj hk; omega
    · exact h
    · have := toksL_order hg h hk hj; omega
  have hkl : pre.length ≤ (yields 0 l).length := by
    have := (List.getElem?_eq_some_iff.1 hk).1
    rw [toksL_len] at this
    omega
  have htk : (toksL l).take pre.length = pre := by rw [h5]; simp
  have htk1 : (toksL l).take (pre.length + 1) = pre ++ [x] := by
    rw [h5, show pre ++ x :: r = (pre ++ [x]) ++ r by simp]
    exact List.take_left' (by simp)
  have a1 : ∀ y, (yields 0 l)[pre.length]? = some y → (c : Int) ≤ y.t.at' := fun y hy => by
    rcases toksL_get hk with ⟨z, hz, rfl⟩ | ⟨h, _⟩
    · rw [hz] at hy; cases hy; omega
    · rw [h, List.getElem?_eq_none (Nat.le_refl _)] at hy; cases hy
  have a2 : ∀ j y, j + 1 = pre.length → (yields 0 l)[j]? = some y → y.t.at' + y.m ≤ (c : Int) := fun j y hj hy => by
    rcases toksL_get hk with ⟨z, hz, rfl⟩ | ⟨_, rfl⟩
    · have := yields_order j 0 l hg pre.length y z (by omega) hy hz
      omega
    · have := yields_range _ _ _ (Nat.le_refl _) y (List.mem_of_getElem? hy)
      simp only at hc
      omega
  have hcut := toks_take hg h1 hcl hkl a1 a2
  rw [htk] at hcut
  have hxx := hx pre x r rfl (simT.rfl' x)
  refine ⟨h3, h1, pre.length, x, hk, rfl, huniq, c, hc, ?_⟩
  have hcut2 : (parseOf (l.take c)).2.2 = 0 ∨ (parseOf (l.take c)).2 = (x.at', 90) := by
    rcases r2 : pPat (pre ++ [⟨0, 0, c⟩]) with b | ⟨p, l'⟩
    · rw [(parseOf_ts hcut).1 _ r2]
      right
      have hq : endQ (pre ++ [⟨0, 0, c⟩]) := by
        refine endQ_app _ _ (fun t ht => ?_) rfl
        have hqs := toksL_end hg
        rw [h5] at hqs
        clear hx hxx hcut h5 hk huniq hkl htk htk1 a1 a2 r2 h
        induction pre with
        | nil => cases ht
        | cons z pre ih =>
          rcases hqs with hqs | hqs
          · simp at hqs
          · rcases List.mem_cons.1 ht with rfl | ht
            · exact hqs.1
            · exact ih ht hqs.2
      obtain ⟨pre2, y, r3, h6, rfl, h7⟩ := (loc_pat _).err r2 hq
      rcases split_end h6 with rfl | ⟨r4, rfl⟩
      · simp only [Prod.mk.injEq, and_true]; exact hc.symm
      · have h8 := h7 pre2 y (r4 ++ x :: r) rfl (simT.rfl' y)
        rw [show pre2 ++ y :: (r4 ++ x :: r) = (pre2 ++ y :: r4) ++ x :: r by simp, hxx] at h8
        injection h8 with h8
        rw [← h8]
    · rw [(parseOf_ts hcut).2 _ _ r2]
      exact .inl rfl
  rcases toksL_get hk with ⟨y, hy, rfl⟩ | ⟨he, rfl⟩
  · have hlen := text_len _ 0 l hg y hy
    have hr := yields_range _ _ _ (Nat.le_refl _) y (List.mem_of_getElem? hy)
    have hkl' := (List.getElem?_eq_some_iff.1 hy).1
    rw [hlen]
    refine ⟨by omega, ?_, hcut2⟩
    have hcut3 := toks_take hg h1 (k := pre.length + 1) (c := c + y.m) (by omega) (by omega) (fun z hz => by have := yields_order pre.length 0 l hg _ y z (Nat.lt_succ_self _) hy hz; omega) (fun j z hj hz => by
      obtain rfl : j = pre.length := by omega
      rw [hy] at hz
      cases hz
      omega)
    rw [htk1, List.append_assoc] at hcut3
    rw [(parseOf_ts hcut3).1 _ (hx pre y.t _ rfl (simT.rfl' _))]
  · rw [show textOf 0 0 = [] by decide]
    refine ⟨hcl, ?_, hcut2⟩
    simp only [List.length_nil, Nat.add_zero]
    simp only at hc
    obtain rfl : l.length = c := by omega
    rw [List.take_length]
    exact h
theorem take_text (s : ByteArray) (c : Nat) : (s.extract 0 c).data.toList = s.data.toList.take c := by simp
theorem take_size (s : ByteArray) (c : Nat) (hs : s.size ≤ 1000) : (s.extract 0 c).size ≤ 140737488351232 := by
  rw [ByteArray.size_extract]; omega
set_option maxRecDepth 100000 in
set_option maxHeartbeats 4000000 in
theorem parCut_bad (s : ByteArray) (hs : s.size ≤ 1000) (n k c q : Nat) (kd m : Int) (P P1 P2 : Pt) (A2 E2 : Int) (T : ByteArray) (hT : T = ⟨(textOf kd m).toArray⟩) (hq : T.size = q) (hn : (toksL s.data.toList).length = n) (hall : allOf s.data.toList = (toksL s.data.toList, 0, 0))
    (hk : (toksL s.data.toList)[k]? = some ⟨kd, m, c⟩) (hu : ∀ (j : Nat) (t : Tok), (toksL s.data.toList)[j]? = some t → t.at' = c → j = k) (hcq : c + q ≤ s.size) (h1 : parseOf s.data.toList = (P, (c : Int), 90)) (h2 : parseOf (s.data.toList.take (c + q)) = (P1, (c : Int), 90))
    (h3 : parseOf (s.data.toList.take c) = (P2, A2, E2)) (hE : E2 = 0 ∨ A2 = c ∧ E2 = 90) (hn2 : n ≤ 1001) (w : World) (hG : GL w) :
    Calls Tryd.prog 19 #[.string s] w fun e w' => e = .returned (.bool true) ∧ Below w.heap.size w w' := by
  have cP := fun w hG => parse_open s (by omega) P c 90 h1 w hG
  have cA := fun w => ref9_All s (by omega) (toksL s.data.toList) 0 0 n hn hall w
  have cT := fun w => ref7_Text kd m (.int .i64 c) w
  unfold TextPost at cT
  rw [← hT] at cT
  have cQ := fun w hG => parse_open _ (take_size s (c + q) hs) P1 c 90 ((congrArg parseOf (take_text s (c + q))).trans h2) w hG
  have cR := fun w hG => parse_open _ (take_size s c hs) P2 A2 E2 ((congrArg parseOf (take_text s c)).trans h3) w hG
  have hkn : k < n := by have := (List.getElem?_eq_some_iff.1 hk).1; omega
  have hget : ∀ i, i < n → ∃ kd m a : Int, (toksL s.data.toList)[i]? = some ⟨kd, m, a⟩ ∧ (i ≠ k → (a == (c : Int)) = false) := fun i hi => by
    have hl : i < (toksL s.data.toList).length := by omega
    refine ⟨_, _, _, List.getElem?_eq_getElem hl, fun hne => ?_⟩
    simp only [beq_eq_false_iff_ne]
    exact fun e => hne (hu i _ (List.getElem?_eq_getElem hl) e)
  have hw0 := fun W (hb : Below w.heap.size w W) => wakes09 W (hG.mono hb)
  have CP := Lib.hid cP
  have CA := Lib.hid cA
  have CT := Lib.hid cT
  have CQ := Lib.hid cQ
  have CR := Lib.hid cR
  have CW := Lib.hid hw0
  have HGET := Lib.hid hget
  have HK := Lib.hid hk
  have HE := Lib.hid hE
  have HN := Lib.hid hn
  clear cP cA cT cQ cR hw0 hget hk hu h1 h2 h3 hall hT hE hn
  go_enter Tryd.func19, Tryd.ntmps19
  go_wp2_with fail
  refine (CP.out _ hG).mono ?_
  rintro e w1 ⟨a1, c1, rfl, -, hb1⟩
  go_wp2_with fail
  have hB1 := hb1.alloc hb1.size (.cells #[.slice a1 P.steps.length c1, .int .i64 P.window] 24)
  generalize w1.alloc (.cells #[.slice a1 P.steps.length c1, .int .i64 P.window] 24) = W1 at *
  refine (CA.out _).mono ?_
  rintro e w2 ⟨a, cap, rfl, hcap, ht, hb2⟩
  obtain ⟨b, off, rfl, x0, x1, x2⟩ := ht.place k _ HK.out
  have hB2 := hB1.trans (hb2.mono hB1.size)
  have HT := Lib.hid ht
  have HB2 := Lib.hid hB2
  clear x0 x1 x2 hb1 hB1 hb2 hB2 CP CA ht
  go_wp2_with fail
  go_loopw [9, 10] (fun wv i wr => ∃ (j : Nat) (Z : ByteArray), j ≤ n ∧ i = .int .i64 j ∧ wv = .string Z ∧ Z.size ≤ 1000 ∧ Hid (Z = if k < j then T else ⟨#[]⟩) ∧ Below w2.heap.size w2 wr) (fun _ i _ => n - (intOf i).toNat)
  case atStart => exact ⟨0, ⟨#[]⟩, Nat.zero_le _, rfl, rfl, by decide, Lib.hid (by rw [if_neg (by omega)]), Below.refl _ _⟩
  case round =>
    obtain ⟨j, Z, hj, rfl, rfl, hZ, HZ, hbr⟩ := hrel
    by_cases hlt : j < n
    · obtain ⟨kd', m', a', ht', hne⟩ := HGET.out j hlt
      obtain ⟨b1, o1, e1, x0, x1, x2⟩ := (HT.out.mono hbr (Nat.le_refl _)).place j _ ht'
      obtain ⟨rfl, rfl⟩ : b1 = b ∧ o1 = off := by simpa using e1.symm
      by_cases hjk : j = k
      · subst hjk
        rw [HK.out] at ht'
        cases ht'
        have ct := CT.out wr
        have CT' := Lib.hid ct
        clear hne e1 ct
        go_wp2_with fail
        refine CT'.out.mono ?_
        rintro e w3 ⟨rfl, hb3⟩
        go_wp2_with fail
        go_roundw
        case rel => exact ⟨j + 1, T, by omega, by go_num, rfl, by omega, Lib.hid (by rw [if_pos (by omega)]), hbr.trans (hb3.mono hbr.size)⟩
        case measure => simp [intOf]; omega
      · have e2 := hne hjk
        have hz' : Z = if k < j + 1 then T else ⟨#[]⟩ := by
          rw [HZ.out]
          by_cases h : k < j
          · rw [if_pos h, if_pos (by omega)]
          · rw [if_neg h, if_neg (by omega)]
        have HZ' := Lib.hid hz'
        clear hne ht' e1 hjk hz'
        go_wp2_with fail
        go_roundw
        case rel => exact ⟨j + 1, Z, by omega, by go_num, rfl, hZ, HZ', hbr⟩
        case measure => simp [intOf]; omega
    · obtain rfl : j = n := by omega
      obtain rfl : Z = T := by have := HZ.out; rwa [if_pos hkn] at this
      have hB3 := HB2.out.trans (hbr.mono HB2.out.size)
      have cq := CQ.out wr (hG.mono hB3)
      have CQ' := Lib.hid cq
      have HB3 := Lib.hid hB3
      clear cq hB3 CQ hlt HT HGET HK HZ
      go_wp2_with fail
      refine CQ'.out.mono ?_
      rintro e w4 ⟨a3, c3, rfl, -, hb4⟩
      have hb4' := hb4.alloc hb4.size (.cells #[.slice a3 P1.steps.length c3, .int .i64 P1.window] 24)
      have hB4 := HB3.out.trans (hb4'.mono HB3.out.size)
      have cr := CR.out _ (hG.mono hB4)
      have CR' := Lib.hid cr
      have HB4 := Lib.hid hB4
      clear cr hb4 hb4' hB4 HB3 CR CQ'
      go_wp2_with fail
      refine CR'.out.mono ?_
      rintro e w5 ⟨a4, c4, rfl, -, hb5⟩
      have hb5' := hb5.alloc hb5.size (.cells #[.slice a4 P2.steps.length c4, .int .i64 P2.window] 24)
      have hB6 := HB4.out.trans (hb5'.mono HB4.out.size)
      have HB6 := Lib.hid hB6
      clear hb5 hb5' hB6 HB4 CR'
      rcases HE.out with h | ⟨h, h'⟩
      · subst h
        go_wp2_with fail
        refine (CW.out _ HB6.out).mono ?_
        rintro e w7 ⟨rfl, hb7⟩
        go_wp2_with fail
        go_ret
        exact ⟨rfl, HB6.out.trans (hb7.mono HB6.out.size)⟩
      · subst h h'
        go_wp2_with fail
        refine (CW.out _ HB6.out).mono ?_
        rintro e w7 ⟨rfl, hb7⟩
        go_wp2_with fail
        go_ret
        exact ⟨rfl, HB6.out.trans (hb7.mono HB6.out.size)⟩
set_option maxRecDepth 100000 in
theorem parCut_long (s : ByteArray) (hs : 1000 < s.size) (w : World) (hG : GL w) :
    Calls Tryd.prog 19 #[.string s] w fun e w' => e = .returned (.bool true) ∧ Below w.heap.size w w' := by
  go_enter Tryd.func19, Tryd.ntmps19
  go_wp2_with fail
  refine (wakes09 _ hG).mono ?_
  rintro e w9 ⟨rfl, hb9⟩
  go_wp2_with fail
  go_ret
  exact ⟨rfl, hb9⟩
set_option maxRecDepth 100000 in
theorem parCut_other (s : ByteArray) (hs : s.size ≤ 1000) (P : Pt) (A E : Int) (hp : parseOf s.data.toList = (P, A, E)) (hE : E ≠ 90) (w : World) (hG : GL w) :
    Calls Tryd.prog 19 #[.string s] w fun e w' => e = .returned (.bool true) ∧ Below w.heap.size w w' := by
  have cP := parse_open s (by omega) P A E hp w hG
  rcases ha : allOf s.data.toList with ⟨ts, p, c⟩
  have cA := fun w => ref9_All s (by omega) ts p c ts.length rfl ha w
  have cW := fun W (hb : Below w.heap.size w W) => wakes09 W (hG.mono hb)
  have e1 : (E != 90) = true := by simpa using hE
  have CP := Lib.hid cP
  have CA := Lib.hid cA
  have CW := Lib.hid cW
  clear cP cA cW hG hp ha hE
  go_enter Tryd.func19, Tryd.ntmps19
  go_wp2_with fail
  refine CP.out.mono ?_
  rintro e w1 ⟨a1, c1, rfl, -, hb1⟩
  have HB1 := Lib.hid (hb1.alloc hb1.size (.cells #[.slice a1 P.steps.length c1, .int .i64 P.window] 24))
  clear hb1 CP
  go_wp2_with fail
  refine (CA.out _).mono ?_
  rintro e w2 ⟨a, cap, rfl, hcap, -, hb2⟩
  have HB2 := Lib.hid (HB1.out.trans (hb2.mono HB1.out.size))
  clear hb2 HB1 CA
  go_wp2_with fail
  refine (CW.out _ HB2.out).mono ?_
  rintro e w9 ⟨rfl, hb9⟩
  go_wp2_with fail
  go_ret
  exact ⟨rfl, HB2.out.trans (hb9.mono HB2.out.size)⟩
theorem parseCut_walk (s : ByteArray) (w : World) (_hs0 : s.size ≤ 140737488351232) (hG : GL w) :
    Calls Tryd.prog 19 #[.string s] w fun e w' => e = .returned (.bool true) ∧ Below w.heap.size w w' := by
  by_cases hs : 1000 < s.size
  · exact parCut_long s hs w hG
  have hs : s.size ≤ 1000 := by omega
  rcases hp : parseOf s.data.toList with ⟨P, A, E⟩
  by_cases hE : E = 90
  · subst hE
    have hp2 : (parseOf s.data.toList).2 = (A, 90) := by rw [hp]
    obtain ⟨hall, _, k, ⟨kd, m, at_⟩, hk, rfl, hu, c, hc, hcq, h2, h3⟩ := par_cut hp2
    simp only at hc hu hcq h2 h3 hp
    subst hc
    have hl : s.data.toList.length = s.size := by simp
    have hlen := toksL_len s.data.toList
    have hyl := yields_len _ 0 s.data.toList (Nat.le_refl _)
    rcases hp1 : parseOf (s.data.toList.take (c + (textOf kd m).length)) with ⟨P1, A1, E1⟩
    rw [hp1] at h2
    simp only [Prod.mk.injEq] at h2
    obtain ⟨rfl, rfl⟩ := h2
    rcases hp3 : parseOf (s.data.toList.take c) with ⟨P2, A2, E2⟩
    rw [hp3] at h3
    refine parCut_bad s hs _ k c (textOf kd m).length kd m P P1 P2 A2 E2 ⟨(textOf kd m).toArray⟩ rfl (by simp [ByteArray.size]) rfl hall hk hu (by omega) hp hp1 hp3 ?_ (by omega) w hG
    rcases h3 with h | h
    · exact .inl h
    · simp only [Prod.mk.injEq] at h
      exact .inr h
  · exact parCut_other s hs P A E hp hE w hG
end Go.Proofs.YtafgincpoahefaaDoor
