/-
  parse: a parser in memory; must.
  parse: any.
  parse: sign, signed.
  parse: a term of names (kinds$1$1).
-/
import Derived.Test.YtafgincpoahefaaDoorRef9g
import Derived.WalkLawsBesides
import Derived.BigQuiet
import Derived.Deep.QuietTactic
import Derived.Test.YtafgincpoahefaaDoorRef9d
namespace Go.Proofs.YtafgincpoahefaaDoor
open Go.RowKit
attribute [local go_sem] Oper.semAt_some

/-- the tokens ts lie in block blk; the parser in block pb has those from a place on -/
structure Q9 (ts : List Tok) (pb blk off cap at0 : Nat) (w : World) : Prop where
  hold : Holds w pb 130 #[.slice (some ⟨blk, off + at0 * 3, none⟩) (ts.length - at0) (cap - at0)]
  ne : blk ≠ pb
  toks : ToksAt w (some ⟨blk, off, none⟩) ts
  lt : at0 < ts.length
  cap : ts.length ≤ cap
  len : ts.length ≤ 4000
  ok : ∀ t ∈ ts, tokOk t
  ends : endsT ts
section
variable {ts : List Tok} {pb blk off cap at0 : Nat} {w w' : World}
theorem Q9.later (h : Q9 ts pb blk off cap at0 w) (hb : Below w.heap.size w w') : Q9 ts pb blk off cap at0 w' :=
  { h with hold := h.hold.later hb, toks := h.toks.mono hb (Nat.le_refl _) }
theorem Q9.grown {row : Option Nat} (h : Q9 ts pb blk off cap at0 w) (hg : w.grownBy w' row) (h1 : some pb ≠ row) (h2 : some blk ≠ row) : Q9 ts pb blk off cap at0 w' :=
  { h with hold := h.hold.grown hg h1, toks := h.toks.grown hg h2 }
theorem Q9.alloc (h : Q9 ts pb blk off cap at0 w) (o : Obj) : Q9 ts pb blk off cap at0 (w.alloc o) := h.later ((Below.refl _ _).alloc (Nat.le_refl _) o)
theorem Q9.tok (h : Q9 ts pb blk off cap at0 w) {t : Tok} (ht : ts[at0]? = some t) : w.cell? ⟨blk, off + at0 * 3, none⟩ = some (.int .u8 t.kind) ∧ w.cell? ⟨blk, off + at0 * 3 + 1, none⟩ = some (.int .i64 t.n) ∧ w.cell? ⟨blk, off + at0 * 3 + 2, none⟩ = some (.int .i64 t.at') := by
  obtain ⟨hi, rfl⟩ := List.getElem?_eq_some_iff.1 ht
  obtain ⟨b', off', e, hc⟩ := h.toks.get at0 hi
  obtain ⟨rfl, rfl⟩ : blk = b' ∧ off = off' := by simpa using e
  exact hc
theorem Q9.next (h : Q9 ts pb blk off cap at0 w) (hn : at0 + 1 < ts.length) : Q9 ts pb blk off cap (at0 + 1) (w.setCell ⟨pb, 0, none⟩ (.slice (some ⟨blk, off + at0 * 3 + 3, none⟩) (ts.length - at0 - 1) (cap - at0 - 1))) :=
  { h with
    hold := by
      have := h.hold.set 0 (.slice (some ⟨blk, off + at0 * 3 + 3, none⟩) (ts.length - at0 - 1) (cap - at0 - 1))
      rw [show off + (at0 + 1) * 3 = off + at0 * 3 + 3 by omega, show ts.length - (at0 + 1) = ts.length - at0 - 1 by omega, show cap - (at0 + 1) = cap - at0 - 1 by omega]
      exact this
    toks := h.toks.grown (Lib.grownBy_setCell w pb 0 _) (fun e => h.ne (Option.some.inj e))
    lt := hn }
end
/-- what a panic bears -/
def wrongAt (p : Int) : Ending := .panicked [{ v := .iface 127 (.int .i64 p), recovered := false }]
/-- what a part of the parser comes to -/
def RQ {α : Type} (ts : List Tok) (pb blk off cap at0 : Nat) (r : Res α) (w : World) (enc : α → Value) (e : Ending) (w' : World) : Prop :=
  w.grownBy w' (some pb) ∧ match r with
    | .ok (v, l) => e = .returned (enc v) ∧ ∃ at1, at0 ≤ at1 ∧ ts.drop at1 = l ∧ Q9 ts pb blk off cap at1 w'
    | .error p => e = wrongAt p
set_option maxRecDepth 100000 in
set_option maxHeartbeats 1000000 in
theorem parse_must (ts : List Tok) (pb blk off cap at0 : Nat) (is : Bool) (t : Tok) (ht : ts[at0]? = some t) (w : World) (h : Q9 ts pb blk off cap at0 w) :
    Calls Tryd.prog 150 #[.pointer (some ⟨pb, 0, none⟩), .bool is] w fun e w' => w' = w ∧ if is = true then e = .returned (.tuple #[]) else e = wrongAt t.at' := by
  have c0 : w.cell? ⟨pb, 0, none⟩ = some (.slice (some ⟨blk, off + at0 * 3, none⟩) (ts.length - at0) (cap - at0)) := h.hold.cell 0
  obtain ⟨t0, t1, t2⟩ := h.tok ht
  have hlt := h.lt
  have hcap := h.cap
  have hlen := h.len
  obtain ⟨n, hn⟩ : ∃ n, ts.length - at0 = n := ⟨_, rfl⟩
  obtain ⟨o, ho⟩ : ∃ o, off + at0 * 3 = o := ⟨_, rfl⟩
  have hn0 : 0 < n := by omega
  rw [hn, ho] at c0
  rw [ho] at t0 t1 t2
  clear h ht hn ho
  cases is
  · go_enter Tryd.func150, Tryd.ntmps150
    go_wp2_with fail
    exact ⟨rfl, rfl, rfl⟩
  · go_enter Tryd.func150, Tryd.ntmps150
    go_wp2_with fail
    go_end0
    exact ⟨rfl, rfl⟩
theorem pTake_at {ts : List Tok} {at0 : Nat} {t : Tok} (ht : ts[at0]? = some t) (k : Int) : pTake k (ts.drop at0) = if t.kind = k then .ok (t.n, if k = 0 then ts.drop at0 else ts.drop (at0 + 1)) else .error t.at' := by
  rw [drop_at ht]; rfl
set_option maxRecDepth 100000 in
set_option maxHeartbeats 2000000 in
theorem parse_take (ts : List Tok) (pb blk off cap at0 : Nat) (k : Int) (hk0 : 0 ≤ k) (hk1 : k ≤ 5) (w : World) (h : Q9 ts pb blk off cap at0 w) :
    Calls Tryd.prog 125 #[.pointer (some ⟨pb, 0, none⟩), .int .u8 k] w (RQ ts pb blk off cap at0 (pTake k (ts.drop at0)) w (Value.int .i64)) := by
  have hlt := h.lt
  have hcap := h.cap
  have hlen := h.len
  have hends := h.ends
  have hpb := h.hold.size
  have ht : ts[at0]? = some ts[at0] := List.getElem?_eq_getElem hlt
  generalize ts[at0] = t at *
  have hT := pTake_at ht k
  obtain ⟨t0, t1, t2⟩ := h.tok ht
  have hblk := cell_lt t0
  simp only at hblk
  have c0 : w.cell? ⟨pb, 0, none⟩ = some (.slice (some ⟨blk, off + at0 * 3, none⟩) (ts.length - at0) (cap - at0)) := h.hold.cell 0
  have hb0 := (Below.refl w.heap.size w).alloc (Nat.le_refl _) (.cells #[.int .u8 t.kind, .int .i64 t.n, .int .i64 t.at'] 51)
  have h0 := h.later hb0
  have z0 := Holds.fresh w 51 #[.int .u8 t.kind, .int .i64 t.n, .int .i64 t.at']
  have cm := fun is W hW => parse_must ts pb blk off cap at0 is t ht W hW
  have hq := fun hn => h0.next hn
  have hnx := fun hk => hends.next ht hk
  have c1 : (w.alloc (.cells #[.int .u8 t.kind, .int .i64 t.n, .int .i64 t.at'] 51)).cell? ⟨pb, 0, none⟩ = some (.slice (some ⟨blk, off + at0 * 3, none⟩) (ts.length - at0) (cap - at0)) := h0.hold.cell 0
  have hf := h0.hold.free
  have hs1 := h0.hold.size
  have d0 : (w.alloc (.cells #[.int .u8 t.kind, .int .i64 t.n, .int .i64 t.at'] 51)).cell? ⟨w.heap.size, 0, none⟩ = some (.int .u8 t.kind) := z0.cell 0
  have d1 : (w.alloc (.cells #[.int .u8 t.kind, .int .i64 t.n, .int .i64 t.at'] 51)).cell? ⟨w.heap.size, 1, none⟩ = some (.int .i64 t.n) := z0.cell 1
  have d2 : (w.alloc (.cells #[.int .u8 t.kind, .int .i64 t.n, .int .i64 t.at'] 51)).cell? ⟨w.heap.size, 2, none⟩ = some (.int .i64 t.at') := z0.cell 2
  have hg := grown_of_below' hb0 (some pb)
  have HQ := Lib.hid hq
  have H0 := Lib.hid h0
  have CM := Lib.hid cm
  have HNX := Lib.hid hnx
  have HT := Lib.hid hT
  have HG := Lib.hid hg
  obtain ⟨k', m', x'⟩ := t
  simp only at *
  clear hq h0 cm hnx hT hg h ht hends z0 hb0
  by_cases e : k' = k
  · subst e
    have hT := HT.out
    rw [if_pos rfl] at hT
    have HT' := Lib.hid hT
    clear hT
    by_cases e0 : k' = 0
    · subst e0
      go_enter Tryd.func125, Tryd.ntmps125
      go_wp2_with fail
      refine (CM.out true _ H0.out).mono ?_
      rintro e w1 ⟨rfl, he⟩
      obtain rfl : e = .returned (.tuple #[]) := by simpa using he
      go_wp2_with fail
      go_ret
      exact ⟨HG.out, by rw [HT'.out]; exact ⟨rfl, at0, Nat.le_refl _, by simp, H0.out⟩⟩
    · have e1 : (k' != 0) = true := by simpa using e0
      have hn := HNX.out e0
      have hn1 : 1 ≤ ts.length - at0 := by omega
      have hn2 : ts.length - at0 ≤ cap - at0 := by omega
      have E0 := Lib.hid e0
      clear e0
      go_enter Tryd.func125, Tryd.ntmps125
      go_wp2_with fail
      refine (CM.out true _ H0.out).mono ?_
      rintro e w1 ⟨rfl, he⟩
      obtain rfl : e = .returned (.tuple #[]) := by simpa using he
      generalize w.alloc (.cells #[.int .u8 k', .int .i64 m', .int .i64 x'] 51) = W1 at *
      go_wp2_with fail
      go_ret
      exact ⟨HG.out.trans (Lib.grownBy_setCell _ pb 0 _), by rw [HT'.out]; exact ⟨rfl, at0 + 1, Nat.le_succ _, by simp [E0.out], HQ.out hn⟩⟩
  · have e1 : (k' == k) = false := by simpa using e
    have HE := Lib.hid e
    clear e
    go_enter Tryd.func125, Tryd.ntmps125
    go_wp2_with fail
    refine (CM.out false _ H0.out).mono ?_
    rintro e w1 ⟨rfl, he⟩
    obtain rfl : e = wrongAt x' := by simpa using he
    have hr : RQ ts pb blk off cap at0 (pTake k (ts.drop at0)) w (Value.int .i64) (wrongAt x') (w.alloc (.cells #[.int .u8 k', .int .i64 m', .int .i64 x'] 51)) := ⟨HG.out, by rw [HT.out, if_neg HE.out]⟩
    unfold wrongAt
    exact ⟨rfl, hr⟩
end Go.Proofs.YtafgincpoahefaaDoor

namespace Go.Proofs.YtafgincpoahefaaDoor
open Go.RowKit
attribute [local go_sem] Oper.semAt_some

/-- the first of some signs that stands there; 0: none does -/
def anyOf (sg : List UInt8) (t : Tok) : Int := if t.kind = 5 ∧ (∃ c ∈ sg, t.n = c.toNat) then t.n else 0
open Classical in
/-- what a token does not begin with, of some signs -/
def noneOf (sg : List UInt8) (t : Tok) : Prop := ∀ c ∈ sg, ¬ (t.kind = 5 ∧ t.n = c.toNat)
set_option maxRecDepth 100000 in
set_option maxHeartbeats 2000000 in
theorem parse_any (ts : List Tok) (pb blk off cap at0 : Nat) (s : ByteArray) (hs : s.size ≤ 2) (hs0 : ∀ c ∈ s.data.toList, c.toNat ≠ 0) (t : Tok) (ht : ts[at0]? = some t) (w : World) (h : Q9 ts pb blk off cap at0 w) :
    Calls Tryd.prog 124 #[.pointer (some ⟨pb, 0, none⟩), .string s] w fun e w' => e = .returned (.int .u8 (anyOf s.data.toList t)) ∧ w.grownBy w' (some pb) ∧
      Q9 ts pb blk off cap (if anyOf s.data.toList t = 0 then at0 else at0 + 1) w' := by
  have c0 : w.cell? ⟨pb, 0, none⟩ = some (.slice (some ⟨blk, off + at0 * 3, none⟩) (ts.length - at0) (cap - at0)) := h.hold.cell 0
  obtain ⟨t0, t1, t2⟩ := h.tok ht
  have hlt := h.lt
  have hn1 : 0 < ts.length - at0 := by omega
  have ct := fun W hW => parse_take ts pb blk off cap at0 5 (by omega) (by omega) W hW
  have hk5 : t.kind = 5 → ∀ c ∈ s.data.toList, t.n = c.toNat → anyOf s.data.toList t = t.n := fun h c hc e => if_pos ⟨h, c, hc, e⟩
  have hno5 : noneOf s.data.toList t → anyOf s.data.toList t = 0 := fun h => if_neg (fun g => by obtain ⟨g1, c, g2, g3⟩ := g; exact h c g2 ⟨g1, g3⟩)
  have hst : ∀ k (hk : k < s.size), noneOf (s.data.toList.take k) t → ¬ (t.kind = 5 ∧ t.n = (s[k]).toNat) → noneOf (s.data.toList.take (k + 1)) t := fun k hk h1 h2 c hc => by
    rw [List.take_succ_eq_append_getElem (by simpa using hk)] at hc
    rcases List.mem_append.1 hc with hc | hc
    · exact h1 c hc
    · obtain rfl := List.mem_singleton.1 hc
      exact h2
  have hmem : ∀ k (hk : k < s.size), s[k] ∈ s.data.toList := fun k hk => by
    show s.data[k] ∈ s.data.toList
    simp
  have hall : s.data.toList.take s.size = s.data.toList := List.take_of_length_le (show s.data.toList.length ≤ s.size from Nat.le_refl _)
  have hpt := pTake_at ht 5
  obtain ⟨r, hr⟩ : ∃ r, anyOf s.data.toList t = r := ⟨_, rfl⟩
  obtain ⟨a1, ha1⟩ : ∃ a1, (if r = 0 then at0 else at0 + 1) = a1 := ⟨_, rfl⟩
  simp only [hr] at hk5 hno5
  simp only [hr, ha1]
  obtain ⟨n1, hn1'⟩ : ∃ n1, ts.length - at0 = n1 := ⟨_, rfl⟩
  obtain ⟨o1, ho1⟩ : ∃ o1, off + at0 * 3 = o1 := ⟨_, rfl⟩
  rw [hn1', ho1] at c0
  rw [hn1'] at hn1
  rw [ho1] at t0 t1 t2
  clear hn1' ho1
  have H := Lib.hid h
  have CT := Lib.hid ct
  have HT := Lib.hid ht
  have HK5 := Lib.hid hk5
  have HNO := Lib.hid hno5
  have HST := Lib.hid hst
  have HMEM := Lib.hid hmem
  have HALL := Lib.hid hall
  have HPT := Lib.hid hpt
  have HA1 := Lib.hid ha1
  have HS0 := Lib.hid hs0
  have HE := Lib.hid h.ends
  clear hs0 h ct ht hk5 hno5 hst hmem hall hpt hr ha1
  obtain ⟨kk, m, x⟩ := t
  simp only at *
  go_enter Tryd.func124, Tryd.ntmps124
  go_wp2_with fail
  go_loopw [8] (fun i wr => ∃ (k n : Nat), k ≤ s.size ∧ i = .int .i64 k ∧ Hid (noneOf (s.data.toList.take k) ⟨kk, m, x⟩) ∧ wr = w.drewN n) (fun i _ => s.size - (intOf i).toNat)
  case atStart => exact ⟨0, 0, Nat.zero_le _, rfl, Lib.hid (fun c hc => by simp at hc), rfl⟩
  case round =>
    obtain ⟨k, n, hk, rfl, HN, rfl⟩ := hrel
    by_cases hlt2 : k < s.size
    · have hby := (s[k]).toNat_lt
      have hw : IntKind.i64.wrap ((s[k].toNat : Nat) : Int) = s[k].toNat := IntWalk.i64_in _ (by omega)
      by_cases e0 : kk = 5
      · subst e0
        by_cases e1 : m = (s[k].toNat : Int)
        · subst e1
          have hr5 : ((s[k].toNat : Nat) : Int) = r := (HK5.out rfl _ (HMEM.out k hlt2) rfl).symm
          have HR5 := Lib.hid hr5
          clear hr5
          go_wp2_with fail
          go_quiet (fail)
          go_wp2_with fail
          have h0 : r ≠ 0 := by rw [← HR5.out]; have := HS0.out _ (HMEM.out k hlt2); omega
          have hw8 : IntKind.u8.wrap ((s[k].toNat : Nat) : Int) = s[k].toNat := IntWalk.u8_in _ (by omega)
          have H0 := Lib.hid h0
          clear h0
          refine (CT.out _ (H.out.later (below_drewN _ _ _))).mono ?_
          rintro e w1 ⟨hg, hm⟩
          rw [HPT.out] at hm
          simp only [if_true, (by decide : ¬ ((5 : Int) = 0)), if_false] at hm
          obtain ⟨rfl, at1, h1, h2, h3⟩ := hm
          have h4 := congrArg List.length h2
          rw [List.length_drop, List.length_drop] at h4
          have h5 := h3.lt
          obtain rfl : at1 = at0 + 1 := by omega
          have hg' := (grown_drewN w (n + nq) (some pb)).trans hg
          have H3 := Lib.hid h3
          have HG := Lib.hid hg'
          clear h1 h2 h3 h4 h5 hg hg'
          go_wp2_with fail
          go_ret
          exact ⟨by rw [← HR5.out]; rfl, HG.out, by rw [← HA1.out, if_neg H0.out]; exact H3.out⟩
        · go_wp2_with fail
          go_quiet (fail)
          go_wp2_with fail
          go_roundw
          case rel => exact ⟨k + 1, _, by omega, by go_num, Lib.hid (HST.out k hlt2 HN.out (fun g => e1 g.2)), rfl⟩
          case measure => simp [intOf]; omega
      · go_wp2_with fail
        go_quiet (fail)
        go_wp2_with fail
        go_roundw
        case rel => exact ⟨k + 1, _, by omega, by go_num, Lib.hid (HST.out k hlt2 HN.out (fun g => e0 g.1)), rfl⟩
        case measure => simp [intOf]; omega
    · obtain rfl : k = s.size := by omega
      have hr0 : r = 0 := HNO.out (by have := HN.out; rwa [HALL.out] at this)
      have ha : a1 = at0 := by rw [← HA1.out, if_pos hr0]
      subst hr0 ha
      go_wp2_with fail
      go_ret
      exact ⟨rfl, grown_drewN _ _ _, H.out.later (below_drewN _ _ _)⟩
end Go.Proofs.YtafgincpoahefaaDoor

namespace Go.Proofs.YtafgincpoahefaaDoor
open Go.RowKit

theorem anyOf_one (c : UInt8) (t : Tok) : anyOf [c] t = if ((t.kind == 5) && (t.n == (c.toNat : Int))) = true then (c.toNat : Int) else 0 := by
  unfold anyOf
  by_cases h : t.kind = 5 ∧ t.n = c.toNat
  · rw [if_pos ⟨h.1, c, by simp, h.2⟩, if_pos (by simp [h.1, h.2]), h.2]
  · rw [if_neg (fun g => h ⟨g.1, by obtain ⟨_, c', h1, h2⟩ := g; simp at h1; rw [h2, h1]⟩), if_neg (by simpa using h)]
set_option maxRecDepth 100000 in
set_option maxHeartbeats 2000000 in
theorem parse_sign (ts : List Tok) (pb blk off cap at0 : Nat) (c : UInt8) (hc : c.toNat ≠ 0) (s : ByteArray) (hs : s.data.toList = [c]) (w : World) (h : Q9 ts pb blk off cap at0 w) :
    Calls Tryd.prog 151 #[.pointer (some ⟨pb, 0, none⟩), .string s] w (RQ ts pb blk off cap at0 (pSign c.toNat (ts.drop at0)) w fun _ => .tuple #[]) := by
  have hlt := h.lt
  have ht : ts[at0]? = some ts[at0] := List.getElem?_eq_getElem hlt
  generalize ts[at0] = t at *
  have hsz : s.size = 1 := by show s.data.size = 1; rw [← Array.length_toList, hs]; rfl
  have ca := parse_any ts pb blk off cap at0 s (by omega) (by rw [hs]; intro d hd; obtain rfl := List.mem_singleton.1 hd; exact hc) t ht w h
  rw [hs, anyOf_one] at ca
  have hp : pSign c.toNat (ts.drop at0) = if ((t.kind == 5) && (t.n == (c.toNat : Int))) = true then .ok ((), ts.drop (at0 + 1)) else .error t.at' := by
    unfold pSign; rw [isS_at ht, List.tail_drop, drop_at ht]; rfl
  cases hy : ((t.kind == 5) && (t.n == (c.toNat : Int)))
  · rw [hy] at ca hp
    simp only [Bool.false_eq_true, if_false, if_true] at ca hp
    have cm := fun W hW => parse_must ts pb blk off cap at0 false t ht W hW
    have CA := Lib.hid ca
    have CM := Lib.hid cm
    have HP := Lib.hid hp
    clear ca cm hp hy ht h hs hc
    go_enter Tryd.func151, Tryd.ntmps151
    go_wp2_with fail
    refine CA.out.mono ?_
    rintro e w1 ⟨rfl, hg, q1⟩
    have HG := Lib.hid hg
    have Q1 := Lib.hid q1
    clear hg q1
    go_wp2_with fail
    refine (CM.out _ Q1.out).mono ?_
    rintro e w2 ⟨hw2, he⟩
    subst hw2
    obtain rfl : e = wrongAt t.at' := by simpa using he
    have hr : RQ ts pb blk off cap at0 (pSign c.toNat (ts.drop at0)) w (fun _ => .tuple #[]) (wrongAt t.at') w2 := ⟨HG.out, by rw [HP.out]⟩
    unfold wrongAt
    exact ⟨rfl, hr⟩
  · rw [hy] at ca hp
    have hc0 : ¬ ((c.toNat : Int) = 0) := by omega
    have hc1 : ((c.toNat : Int) != 0) = true := by simpa using hc0
    simp only [if_true, if_neg hc0] at ca hp
    have CA := Lib.hid ca
    have HP := Lib.hid hp
    clear ca hp hy ht h hs hc hc0
    go_enter Tryd.func151, Tryd.ntmps151
    go_wp2_with fail
    refine CA.out.mono ?_
    rintro e w1 ⟨rfl, hg, q1⟩
    have hl1 := q1.lt
    have ht1 : ts[at0 + 1]? = some ts[at0 + 1] := List.getElem?_eq_getElem hl1
    have cm := parse_must ts pb blk off cap (at0 + 1) true _ ht1 w1 q1
    have CM := Lib.hid cm
    have HG := Lib.hid hg
    have Q1 := Lib.hid q1
    clear hg q1 cm ht1
    go_wp2_with fail
    refine CM.out.mono ?_
    rintro e w2 ⟨rfl, he⟩
    obtain rfl : e = .returned (.tuple #[]) := by simpa using he
    go_wp2_with fail
    go_end0
    exact ⟨HG.out, by rw [HP.out]; exact ⟨rfl, at0 + 1, Nat.le_succ _, rfl, Q1.out⟩⟩
set_option maxRecDepth 100000 in
set_option maxHeartbeats 2000000 in
theorem parse_signed (ts : List Tok) (pb blk off cap at0 : Nat) (c : Int) (w : World) (h : Q9 ts pb blk off cap at0 w) :
    Calls Tryd.prog 174 #[.pointer (some ⟨pb, 0, none⟩), .int .u8 c] w (RQ ts pb blk off cap at0 (pNum (c == 45) (ts.drop at0)) w (Value.int .i64)) := by
  have hlt := h.lt
  have ht : ts[at0]? = some ts[at0] := List.getElem?_eq_getElem hlt
  have hok := h.ok _ (List.getElem_mem hlt)
  generalize ts[at0] = t at *
  have ct := parse_take ts pb blk off cap at0 1 (by omega) (by omega) w h
  have hb := hok.2.1
  have hp : pNum (c == 45) (ts.drop at0) = if t.kind = 1 then .ok (if (c == 45) = true then -t.n else t.n, ts.drop (at0 + 1)) else .error t.at' := by
    unfold pNum
    rw [pTake_at ht]
    by_cases e : t.kind = 1
    · rw [if_pos e, if_pos e]; rfl
    · rw [if_neg e, if_neg e]; rfl
  rw [pTake_at ht] at ct
  have HP := Lib.hid hp
  have CT := Lib.hid ct
  clear hp ct ht h hok
  obtain ⟨kk, m, x⟩ := t
  simp only at *
  have hw : IntKind.i64.wrap (-m) = -m := IntWalk.i64_in _ (by omega)
  by_cases e : kk = 1
  · have E := Lib.hid e
    clear e
    cases hc : (c == 45)
    · have hp2 := HP.out
      rw [if_pos E.out, hc] at hp2
      have HP2 := Lib.hid hp2
      clear hp2
      go_enter Tryd.func174, Tryd.ntmps174
      go_wp2_with fail
      refine CT.out.mono ?_
      rintro e w1 ⟨hg, hm⟩
      rw [if_pos E.out, if_neg (by decide)] at hm
      obtain ⟨rfl, at1, h1, h2, h3⟩ := hm
      have HG := Lib.hid hg
      have H1 := Lib.hid h1
      have H2 := Lib.hid h2
      have H3 := Lib.hid h3
      clear hg h1 h2 h3
      go_wp2_with fail
      go_ret
      exact ⟨HG.out, by rw [HP2.out]; exact ⟨rfl, at1, H1.out, H2.out, H3.out⟩⟩
    · have hp2 := HP.out
      rw [if_pos E.out, hc] at hp2
      have HP2 := Lib.hid hp2
      clear hp2
      go_enter Tryd.func174, Tryd.ntmps174
      go_wp2_with fail
      refine CT.out.mono ?_
      rintro e w1 ⟨hg, hm⟩
      rw [if_pos E.out, if_neg (by decide)] at hm
      obtain ⟨rfl, at1, h1, h2, h3⟩ := hm
      have HG := Lib.hid hg
      have H1 := Lib.hid h1
      have H2 := Lib.hid h2
      have H3 := Lib.hid h3
      clear hg h1 h2 h3
      go_wp2_with fail
      go_ret
      exact ⟨HG.out, by rw [HP2.out]; exact ⟨rfl, at1, H1.out, H2.out, H3.out⟩⟩
  · have E := Lib.hid e
    clear e
    go_enter Tryd.func174, Tryd.ntmps174
    go_wp2_with fail
    refine CT.out.mono ?_
    rintro e w1 ⟨hg, hm⟩
    rw [if_neg E.out] at hm
    obtain rfl : e = wrongAt x := hm
    have hr : RQ ts pb blk off cap at0 (pNum (c == 45) (ts.drop at0)) w (Value.int .i64) (wrongAt x) w1 := ⟨hg, by rw [HP.out, if_neg E.out]⟩
    unfold wrongAt
    exact ⟨rfl, hr⟩
end Go.Proofs.YtafgincpoahefaaDoor

namespace Go.Proofs.YtafgincpoahefaaDoor
open Go.RowKit

/-- what a part comes to, with a fact that it keeps -/
def RK {α : Type} (ts : List Tok) (pb blk off cap at0 : Nat) (K : World → Prop) (r : Res α) (w : World) (enc : α → Value) (e : Ending) (w' : World) : Prop :=
  w.grownBy w' (some pb) ∧ match r with
    | .ok (v, l) => e = .returned (enc v) ∧ K w' ∧ ∃ at1, at0 ≤ at1 ∧ ts.drop at1 = l ∧ Q9 ts pb blk off cap at1 w'
    | .error p => e = wrongAt p
theorem RQ.ok {α : Type} {ts : List Tok} {pb blk off cap at0 : Nat} {r : Res α} {w w' : World} {enc : α → Value} {e : Ending} (h : RQ ts pb blk off cap at0 r w enc e w') {v : α} {l : List Tok} (hr : r = .ok (v, l)) :
    e = .returned (enc v) ∧ w.grownBy w' (some pb) ∧ ∃ at1, at0 ≤ at1 ∧ ts.drop at1 = l ∧ Q9 ts pb blk off cap at1 w' := by
  subst hr
  exact ⟨h.2.1, h.1, h.2.2⟩
theorem RQ.err {α : Type} {ts : List Tok} {pb blk off cap at0 : Nat} {r : Res α} {w w' : World} {enc : α → Value} {e : Ending} (h : RQ ts pb blk off cap at0 r w enc e w') {p : Int} (hr : r = .error p) : e = wrongAt p ∧ w.grownBy w' (some pb) := by
  subst hr
  exact ⟨h.2, h.1⟩
theorem anyOf_two (c d : UInt8) (t : Tok) : anyOf [c, d] t = if ((t.kind == 5) && (t.n == (c.toNat : Int))) = true then (c.toNat : Int) else if ((t.kind == 5) && (t.n == (d.toNat : Int))) = true then (d.toNat : Int) else 0 := by
  unfold anyOf
  by_cases h : t.kind = 5 ∧ t.n = c.toNat
  · rw [if_pos ⟨h.1, c, by simp, h.2⟩, if_pos (by simp [h.1, h.2]), h.2]
  · by_cases h' : t.kind = 5 ∧ t.n = d.toNat
    · rw [if_pos ⟨h'.1, d, by simp, h'.2⟩, if_neg (by simpa using h), if_pos (by simp [h'.1, h'.2]), h'.2]
    · rw [if_neg (fun g => by
        obtain ⟨g1, c', h1, h2⟩ := g
        simp at h1
        rcases h1 with rfl | rfl
        · exact h ⟨g1, h2⟩
        · exact h' ⟨g1, h2⟩), if_neg (by simpa using h), if_neg (by simpa using h')]
theorem pNamed_eq (k : Int) (l : List Tok) : pNamed k l = thenR (pSign 40 l) fun _ l => thenR (pNames (k == 5 || k == 6) l) fun ab l => thenR (pSign 41 l) fun _ l => thenR (pMore l) fun n l => .ok (⟨k, n, ab.1, ab.2⟩, l) := rfl
/-- the rest of a term behind its letter: what may stand behind it -/
theorem pMore_any {ts : List Tok} {at0 : Nat} {t : Tok} (ht : ts[at0]? = some t) : pMore (ts.drop at0) = if anyOf [43, 45] t = 0 then .ok (0, ts.drop at0) else pNum (anyOf [43, 45] t == 45) (ts.drop (at0 + 1)) := by
  unfold pMore
  rw [isS_at ht, isS_at ht, anyOf_two, List.tail_drop, show ((UInt8.toNat 43 : Nat) : Int) = 43 from rfl, show ((UInt8.toNat 45 : Nat) : Int) = 45 from rfl]
  cases h1 : ((t.kind == 5) && (t.n == 43))
  · cases h2 : ((t.kind == 5) && (t.n == 45))
    · rfl
    · rfl
  · rfl
end Go.Proofs.YtafgincpoahefaaDoor
