/-
  Patterns, plain: their texts.
  Tokens of a text made of tokens' bytes, with blanks ahead of some.
  A pattern out of its tokens, plain; a pattern's text is parsed as it.
  A pattern's text is made of tokens, that may stand so; these are parsed as it.
  The tokens of a pattern's text are parsed as it.
  Print, plain: texts put together one by one.
-/
import Derived.Test.YtafgincpoahefaaDoorLexP
import Derived.Test.YtafgincpoahefaaDoorOpenP
import Derived.Lib.Join
namespace Go.Proofs.YtafgincpoahefaaDoor
open Go.RowKit

/-- texts -/
def letterT (i : Int) : List UInt8 := if 0 ≤ i ∧ i < 26 then [UInt8.ofNat (97 + i.toNat)] else []
def opT (op : Int) : List UInt8 := if 0 ≤ op ∧ op < 7 then opText op.toNat else []
def headC : Nat → List UInt8
  | 1 => [116] | 2 => [120] | 3 => [121] | 4 => [110] | 5 => [100] | 6 => [99] | _ => []
def tailT (n : Int) : List UInt8 := if 0 < n then 43 :: Lib.itoa n else if n < 0 then Lib.itoa n else []
def namesOf (t : Tm) : List Int := if t.kind = 0 then [] else if twoB t = true then [t.s, t.r] else [t.s]
def termT0 (t : Tm) : List UInt8 :=
  if t.kind = 0 then Lib.itoa t.n else headC t.kind.toNat ++ [40] ++ (if twoB t = true then letterT t.s ++ [44] ++ letterT t.r else letterT t.s) ++ [41] ++ tailT t.n
def termT (t : Tm) : List UInt8 := if tmB t = true then termT0 t else []
def cmpT0 (c : Cm) : List UInt8 := termT0 c.l ++ opT c.op ++ termT0 c.r
def cmpT (c : Cm) : List UInt8 := if cmB c = true then cmpT0 c else []
/-- with a byte between each two -/
def joinB (b : UInt8) : List (List UInt8) → List UInt8
  | [] => []
  | [w] => w
  | w :: v :: ws => w ++ b :: joinB b (v :: ws)
def timesT (a b : Int) : List UInt8 := if a = 1 ∧ b = 1 then [] else 123 :: (Lib.itoa a ++ 44 :: (Lib.itoa b ++ [125]))
def cmpsT (cs : List Cm) : List UInt8 := if cs = [] then [] else 91 :: (joinB 38 (cs.map cmpT) ++ [93])
def stepT0 (s : St) (i : Int) : List UInt8 := (if s.neg = true then [33] else []) ++ (Lib.itoa s.kind ++ letterT i) ++ timesT s.min s.max ++ cmpsT s.cmps
def stepT (s : St) (i : Int) : List UInt8 := if stB s = true ∧ 0 ≤ i ∧ i < 26 then stepT0 s i else []
def sepT (s : St) (i : Nat) : List UInt8 := if i = 0 then [] else if s.strict = true then [44] else [59]
def stepsT : Nat → List St → List UInt8
  | _, [] => []
  | i, s :: ss => sepT s i ++ stepT s i ++ stepsT (i + 1) ss
def within' : List UInt8 := [32, 119, 105, 116, 104, 105, 110, 32]
def patT (p : Pt) : List UInt8 := stepsT 0 p.steps ++ (within' ++ Lib.itoa p.window)
def strict0 (p : Pt) : Bool := match p.steps with
  | [] => false
  | s :: _ => s.strict
/-- what Print tells -/
def printT (p : Pt) : List UInt8 × Int :=
  if ptB p = true ∧ strict0 p = false then (if (patT p).length ≤ 2000 then (patT p, 0) else ([], 91)) else ([], 2)
end Go.Proofs.YtafgincpoahefaaDoor

namespace Go.Proofs.YtafgincpoahefaaDoor
open Go.RowKit

/-- may c stand behind the token's bytes u? -/
def apartB (u : List UInt8) (c : UInt8) : Bool :=
  if digB (u.headD 0) then !digB c
  else if letB (u.headD 0) then !letB c
  else (c != 61) || (signB (u.headD 0) && u.headD 0 != 33)

theorem lead_zero_of {p : UInt8 → Bool} {r : List UInt8} (h : ∀ c, r.head? = some c → p c = false) : lead p r = 0 := by
  cases r with
  | nil => rfl
  | cons c r => exact lead_zero _ _ _ (h c rfl)
theorem tok_apart (u r : List UInt8) (hu : u ≠ []) (hm : (tokOf u).2.2 = u.length) (h : ∀ c, r.head? = some c → apartB u c = true) : tokOf (u ++ r) = tokOf u := by
  obtain ⟨c, v, rfl⟩ : ∃ c v, u = c :: v := by cases u <;> simp_all
  have hpos : 0 < (c :: v).length := by simp
  by_cases h1 : digB c = true
  · have hr : lead digB r = 0 := lead_zero_of fun x hx => by have := h x hx; simpa [apartB, h1] using this
    have hp : 0 < lead digB (c :: v) := by rw [lead_cons, if_pos h1]; omega
    have hl : lead digB (c :: v) = (c :: v).length := by
      unfold tokOf at hm
      rw [if_pos hp] at hm
      split at hm
      · exact hm
      · simp at hm
    have hl2 := lead_full_mk digB (c :: v) r hl hr
    unfold tokOf
    rw [hl2, hl, if_pos hpos, if_pos hpos, List.take_left, List.take_length]
  · have h1' : digB c = false := by simpa using h1
    have z1 : ∀ s, lead digB (c :: v ++ s) = 0 := fun s => lead_zero _ _ _ h1'
    have z1' : lead digB (c :: v) = 0 := lead_zero _ _ _ h1'
    by_cases h2 : letB c = true
    · have hr : lead letB r = 0 := lead_zero_of fun x hx => by have := h x hx; simpa [apartB, h1', h2] using this
      have hp : 0 < lead letB (c :: v) := by rw [lead_cons, if_pos h2]; omega
      have hl : lead letB (c :: v) = (c :: v).length := by
        unfold tokOf at hm
        rw [z1', if_neg (Nat.lt_irrefl 0), if_pos hp] at hm
        split at hm
        · rename_i e; rw [e]; exact hm
        · split at hm
          · exact hm
          · simp at hm
      have hl2 := lead_full_mk letB (c :: v) r hl hr
      unfold tokOf
      rw [z1, z1', if_neg (Nat.lt_irrefl 0), if_neg (Nat.lt_irrefl 0), hl2, hl, if_pos hpos, if_pos hpos, List.take_left, List.take_length]
      rfl
    · have h2' : letB c = false := by simpa using h2
      have z2 : ∀ s, lead letB (c :: v ++ s) = 0 := fun s => lead_zero _ _ _ h2'
      have z2' : lead letB (c :: v) = 0 := lead_zero _ _ _ h2'
      have key : opOf (c :: v ++ r) = opOf (c :: v) := by
        cases v with
        | cons x v => simp [opOf]
        | nil =>
          by_cases hr : r.head? = some 61
          · have := h 61 hr
            simp only [apartB, List.headD_cons, h1', h2', Bool.false_eq_true, if_false, bne_self_eq_false, Bool.false_or, Bool.and_eq_true, bne_iff_ne, ne_eq] at this
            obtain ⟨hs, h33⟩ := this
            have e1 : c ≠ 60 := by rintro rfl; simp [signB, signL] at hs
            have e2 : c ≠ 61 := by rintro rfl; simp [signB, signL] at hs
            have e3 : c ≠ 62 := by rintro rfl; simp [signB, signL] at hs
            simp [opOf, e1, e2, e3, h33]
          · simp only [List.cons_append, List.nil_append, opOf, List.head?_nil, if_neg hr]
            simp
      unfold tokOf
      rw [z1, z1', if_neg (Nat.lt_irrefl 0), if_neg (Nat.lt_irrefl 0), z2, z2', if_neg (Nat.lt_irrefl 0), if_neg (Nat.lt_irrefl 0), key]
      rfl

/-- blanks ahead, a token's kind, its number -/
abbrev Item := Nat × Int × Int
def itemsT : List Item → List UInt8
  | [] => []
  | (g, k, n) :: is => List.replicate g 32 ++ (textOf k n ++ itemsT is)
theorem itemsT_append : ∀ (xs ys : List Item), itemsT (xs ++ ys) = itemsT xs ++ itemsT ys
  | [], ys => rfl
  | (g, k, n) :: xs, ys => by simp [itemsT, itemsT_append xs ys]
/-- each has bytes, and may stand ahead of what comes; e: what stands behind all -/
def okI (e : List UInt8) : List Item → Prop
  | [] => True
  | (_, k, n) :: is => textOf k n ≠ [] ∧ (∀ c, (itemsT is ++ e).head? = some c → apartB (textOf k n) c = true) ∧ okI e is
theorem okI_append {e : List UInt8} : ∀ {xs ys : List Item}, okI (itemsT ys ++ e) xs → okI e ys → okI e (xs ++ ys)
  | [], _, _, h => h
  | (g, k, n) :: xs, ys, h1, h => by
    obtain ⟨a, b, c⟩ := h1
    refine ⟨a, ?_, okI_append c h⟩
    show ∀ c, (itemsT (xs ++ ys) ++ e).head? = some c → apartB (textOf k n) c = true
    rw [itemsT_append, List.append_assoc]
    exact b

theorem yields_blanks : ∀ (g a : Nat) (l : List UInt8), yields a (List.replicate g 32 ++ l) = yields (a + g) l
  | 0, a, l => by simp
  | g + 1, a, l => by
    rw [List.replicate_succ, List.cons_append, yields_blank, yields_blanks g (a + 1) l]
    congr 1; omega

theorem text_head_nb (k n : Int) (c : UInt8) (r : List UInt8) (h : textOf k n = c :: r) : blB c = false := by
  have ho := tok_own k n (by rw [h]; simp)
  rw [h] at ho
  exact tokOf_head c r (by rw [ho]; simp)

theorem yields_items : ∀ (is : List Item), okI [] is → ∀ a : Nat, (yields a (itemsT is)).map (fun y => (y.t.kind, y.t.n)) = is.map (·.2) ∧ good (yields a (itemsT is))
  | [], _, a => by
    have : yields a (itemsT []) = [] := yields_end _ _ (by simp [itemsT])
    rw [this]
    exact ⟨rfl, fun y hy => by simp at hy⟩
  | (g, k, n) :: is, h, a => by
    obtain ⟨h1, h2, h3⟩ := h
    rw [List.append_nil] at h2
    have ho := tok_own k n h1
    have hap := tok_apart (textOf k n) (itemsT is) h1 (by rw [ho]) h2
    rw [ho] at hap
    rw [itemsT, yields_blanks]
    obtain ⟨c, r, hc⟩ : ∃ c r, textOf k n = c :: r := by
      cases e : textOf k n with
      | nil => exact absurd e h1
      | cons c r => exact ⟨c, r, rfl⟩
    have hb := text_head_nb k n c r hc
    have hz : lead blB (textOf k n ++ itemsT is) = 0 := by rw [hc]; exact lead_zero _ _ _ hb
    have hy := yields_more (a + g) (textOf k n ++ itemsT is) (by rw [hz, hc]; simp) (by rw [hz, List.drop_zero, hap]; simp [hc])
    rw [hz, List.drop_zero, hap] at hy
    simp only [List.drop_left] at hy
    obtain ⟨q1, q2⟩ := yields_items is h3 (a + g + 0 + (textOf k n).length)
    rw [hy]
    refine ⟨?_, ?_⟩
    · rw [List.map_cons, q1]; rfl
    · intro y hy
      rcases List.mem_cons.1 hy with rfl | hy
      · simp [hc]
      · exact q2 y hy

/-- what All tells of such a text -/
theorem all_items (is : List Item) (h : okI [] is) (hs : (itemsT is).length ≤ 2000) : ∃ ts : List Tok, allOf (itemsT is) = (ts ++ [⟨0, 0, (itemsT is).length⟩], 0, 0) ∧ ts.map (fun t => (t.kind, t.n)) = is.map (·.2) := by
  obtain ⟨h1, h2⟩ := yields_items is h 0
  refine ⟨(yields 0 (itemsT is)).map (·.t), ?_, by rw [← h1, List.map_map]; rfl⟩
  unfold allOf
  rw [if_neg (by omega), List.find?_eq_none.2 fun y hy => by simpa using h2 y hy]
end Go.Proofs.YtafgincpoahefaaDoor

namespace Go.Proofs.YtafgincpoahefaaDoor
open Go.RowKit

/-- what is told, and the tokens that are left; or the place of the token that may not stand -/
abbrev Res (α : Type) := Except Int (α × List Tok)
def headAt (l : List Tok) : Int := match l with
  | [] => 0
  | t :: _ => t.at'
def thenR {α β : Type} (x : Res α) (f : α → List Tok → Res β) : Res β := match x with
  | .error a => .error a
  | .ok (a, l) => f a l
def pTake (k : Int) (l : List Tok) : Res Int := match l with
  | [] => .error 0
  | t :: r => if t.kind = k then .ok (t.n, if k = 0 then t :: r else r) else .error t.at'
def isS (c : Int) (l : List Tok) : Bool := match l with
  | [] => false
  | t :: _ => (t.kind == 5) && (t.n == c)
def pSign (c : Int) (l : List Tok) : Res Unit := if isS c l = true then .ok ((), l.tail) else .error (headAt l)
def pNum (neg : Bool) (l : List Tok) : Res Int := thenR (pTake 1 l) fun n l => .ok (if neg = true then -n else n, l)
def pMore (l : List Tok) : Res Int := if isS 43 l = true then pNum false l.tail else if isS 45 l = true then pNum true l.tail else .ok (0, l)
def kindOf (n : Int) : Int := if n = 19 then 1 else if n = 23 then 2 else if n = 24 then 3 else if n = 13 then 4 else if n = 3 then 5 else if n = 2 then 6 else 0
def pNames (two : Bool) (l : List Tok) : Res (Int × Int) :=
  thenR (pTake 2 l) fun a l => if two = true then thenR (pSign 44 l) fun _ l => thenR (pTake 2 l) fun b l => .ok ((a, b), l) else .ok ((a, 0), l)
def pNamed (k : Int) (l : List Tok) : Res Tm :=
  thenR (pSign 40 l) fun _ l => thenR (pNames (k == 5 || k == 6) l) fun ab l => thenR (pSign 41 l) fun _ l => thenR (pMore l) fun n l => .ok (⟨k, n, ab.1, ab.2⟩, l)
def pTerm (l : List Tok) : Res Tm := match l with
  | [] => .error 0
  | t :: r => if t.kind = 2 then (if kindOf t.n = 0 then .error t.at' else pNamed (kindOf t.n) r)
    else thenR (if isS 45 (t :: r) = true then pNum true r else pNum false (t :: r)) fun n l => .ok (⟨0, n, 0, 0⟩, l)
def pCmp (l : List Tok) : Res Cm := thenR (pTerm l) fun a l => thenR (pTake 4 l) fun op l => thenR (pTerm l) fun b l => .ok (⟨op, a, b⟩, l)
def pCmps : Nat → List Tok → Res (List Cm)
  | 0, _ => .error 0
  | f + 1, l => thenR (pCmp l) fun c l => if isS 38 l = true then thenR (pCmps f l.tail) fun cs l => .ok (c :: cs, l) else thenR (pSign 93 l) fun _ l => .ok ([c], l)
def pTimes (l : List Tok) : Res (Int × Int) :=
  if isS 123 l = true then thenR (pTake 1 l.tail) fun a l => thenR (pSign 44 l) fun _ l => thenR (pTake 1 l) fun b l => thenR (pSign 125 l) fun _ l => .ok ((a, b), l) else .ok ((1, 1), l)
def pAsks (l : List Tok) : Res (List Cm) := if isS 91 l = true then pCmps l.length l.tail else .ok ([], l)
def pLetter (i : Int) (l : List Tok) : Res Unit := match l with
  | [] => .error 0
  | t :: r => if t.kind = 2 ∧ t.n = i then .ok ((), r) else .error t.at'
def pStep (i : Int) (strict : Bool) (l : List Tok) : Res St :=
  thenR (pTake 1 (if isS 33 l = true then l.tail else l)) fun k l1 => thenR (pLetter i l1) fun _ l2 => thenR (pTimes l2) fun ab l3 => thenR (pAsks l3) fun cs l4 => .ok (⟨isS 33 l, k, ab.1, ab.2, strict, cs⟩, l4)
def pSteps : Nat → Nat → Bool → List Tok → Res (List St)
  | 0, _, _, _ => .error 0
  | f + 1, i, strict, l => thenR (pStep i strict l) fun s l =>
      if isS 59 l = true then thenR (pSteps f (i + 1) false l.tail) fun ss l => .ok (s :: ss, l)
      else if isS 44 l = true then thenR (pSteps f (i + 1) true l.tail) fun ss l => .ok (s :: ss, l)
      else .ok ([s], l)
def pPat (l : List Tok) : Res Pt :=
  thenR (pSteps (l.length + 1) 0 false l) fun ss l => thenR (pTake 3 l) fun _ l => thenR (pTake 1 l) fun w l => thenR (pTake 0 l) fun _ l => .ok (⟨ss, w⟩, l)
/-- what Parse tells -/
def parseOf (text : List UInt8) : Pt × Int × Int :=
  if (allOf text).2.2 = 0 then
    (match pPat (allOf text).1 with
    | .error a => (⟨[], 0⟩, a, 90)
    | .ok (p, _) => (p, 0, 0))
  else (⟨[], 0⟩, (allOf text).2.1, (allOf text).2.2)

/-- of what tokens texts are -/
def numI (n : Int) : List Item := if n < 0 then [(0, 5, 45), (0, 1, -n)] else [(0, 1, n)]
def tailI (n : Int) : List Item := if 0 < n then [(0, 5, 43), (0, 1, n)] else if n < 0 then [(0, 5, 45), (0, 1, -n)] else []
def kindL : Nat → Int
  | 1 => 19 | 2 => 23 | 3 => 24 | 4 => 13 | 5 => 3 | 6 => 2 | _ => 0
def namesI (t : Tm) : List Item := if twoB t = true then [(0, 2, t.s), (0, 5, 44), (0, 2, t.r)] else [(0, 2, t.s)]
def termI (t : Tm) : List Item := if t.kind = 0 then numI t.n else [(0, 2, kindL t.kind.toNat), (0, 5, 40)] ++ (namesI t ++ ([(0, 5, 41)] ++ tailI t.n))
def cmpI (c : Cm) : List Item := termI c.l ++ ([(0, 4, c.op)] ++ termI c.r)
def joinI (b : Int) : List (List Item) → List Item
  | [] => []
  | [w] => w
  | w :: v :: ws => w ++ ([(0, 5, b)] ++ joinI b (v :: ws))
def timesI (a b : Int) : List Item := if a = 1 ∧ b = 1 then [] else [(0, 5, 123), (0, 1, a), (0, 5, 44), (0, 1, b), (0, 5, 125)]
def cmpsI (cs : List Cm) : List Item := if cs = [] then [] else [(0, 5, 91)] ++ (joinI 38 (cs.map cmpI) ++ [(0, 5, 93)])
def stepI (s : St) (i : Int) : List Item := (if s.neg = true then [(0, 5, 33)] else []) ++ ([(0, 1, s.kind), (0, 2, i)] ++ (timesI s.min s.max ++ cmpsI s.cmps))
def sepI (s : St) (i : Nat) : List Item := if i = 0 then [] else if s.strict = true then [(0, 5, 44)] else [(0, 5, 59)]
def stepsI : Nat → List St → List Item
  | _, [] => []
  | i, s :: ss => sepI s i ++ (stepI s i ++ stepsI (i + 1) ss)
def patI (p : Pt) : List Item := stepsI 0 p.steps ++ [(1, 3, 0), (1, 1, p.window)]

theorem textOf_num {n : Int} (h : 0 ≤ n) (h' : n ≤ 1099511627776) : textOf 1 n = Lib.itoa n := by unfold textOf; rw [if_pos ⟨rfl, h, h'⟩]
theorem textOf_let {n : Int} (h : 0 ≤ n) (h' : n < 26) : textOf 2 n = [UInt8.ofNat (97 + n.toNat)] := by unfold textOf; rw [if_neg (by omega), if_pos ⟨rfl, h, h'⟩]
theorem textOf_op {n : Int} (h : 0 < n) (h' : n < 7) : textOf 4 n = opText n.toNat := by unfold textOf; rw [if_neg (by omega), if_neg (by omega), if_neg (by omega), if_pos ⟨rfl, h, h'⟩]
theorem textOf_sign (n : Nat) (h : 0 < n) (h' : n < 128) (hs : signB (UInt8.ofNat n) = true) : textOf 5 n = [UInt8.ofNat n] := by
  unfold textOf; rw [if_neg (by omega), if_neg (by omega), if_neg (by omega), if_neg (by omega), if_pos ⟨rfl, by omega, by omega, hs⟩]; rfl
theorem itoa_minus {n : Int} (h : n < 0) : Lib.itoa n = 45 :: Lib.itoa (-n) := by
  rw [show n = -((-n).toNat : Int) from by omega]
  unfold Lib.itoa
  rw [if_pos (by omega), if_neg (by omega)]
  congr 2
  omega

theorem nonempty_itoa (n : Int) (h : 0 ≤ n) : ∃ c r, Lib.itoa n = c :: r ∧ digB c = true := by
  rw [itoa_nat n h]
  have hnum := numeral_decDigits n.toNat
  have hall := numeral_all _ hnum.1
  cases e : Lib.decDigits n.toNat with
  | nil => rw [e] at hnum; simp [numeral] at hnum
  | cons c r => rw [e] at hall; simp only [List.all_cons, Bool.and_eq_true] at hall; exact ⟨c, r, rfl, hall.1⟩
theorem opT_text {n : Int} (h : 1 ≤ n) (h' : n < 7) : textOf 4 n = opT n := by
  rw [textOf_op (by omega) h']; unfold opT; rw [if_pos ⟨by omega, h'⟩]
theorem letterT_text {n : Int} (h : 0 ≤ n) (h' : n < 26) : textOf 2 n = letterT n := by
  rw [textOf_let h h']; unfold letterT; rw [if_pos ⟨h, h'⟩]

/-- texts of tokens are texts -/
theorem numI_text {n : Int} (h : -1099511627776 ≤ n) (h' : n ≤ 1099511627776) : itemsT (numI n) = Lib.itoa n := by
  unfold numI
  by_cases hn : n < 0
  · rw [if_pos hn, itoa_minus hn]
    simp only [itemsT, List.replicate_zero, List.nil_append, List.append_nil]
    rw [textOf_num (by omega) (by omega)]; rfl
  · rw [if_neg hn]
    simp only [itemsT, List.replicate_zero, List.nil_append, List.append_nil]
    exact textOf_num (by omega) h'
theorem tailI_text {n : Int} (h : -1099511627776 ≤ n) (h' : n ≤ 1099511627776) : itemsT (tailI n) = tailT n := by
  unfold tailI tailT
  by_cases hp : 0 < n
  · rw [if_pos hp, if_pos hp]
    simp only [itemsT, List.replicate_zero, List.nil_append, List.append_nil]
    rw [textOf_num (by omega) (by omega)]; rfl
  · rw [if_neg hp, if_neg hp]
    by_cases hn : n < 0
    · rw [if_pos hn, if_pos hn, itoa_minus hn]
      simp only [itemsT, List.replicate_zero, List.nil_append, List.append_nil]
      rw [textOf_num (by omega) (by omega)]; rfl
    · rw [if_neg hn, if_neg hn]; rfl
theorem tm_facts {t : Tm} (h : tmB t = true) : -1099511627776 ≤ t.n ∧ t.n ≤ 1099511627776 ∧ t.kind < 7 ∧ 0 ≤ t.s ∧ t.s < 26 ∧ 0 ≤ t.r ∧ t.r < 26 ∧ (t.kind = 0 → t.s = 0) ∧ (twoB t = false → t.r = 0) := by
  simp only [tmB, Bool.and_eq_true, decide_eq_true_eq, Bool.or_eq_true, bne_iff_ne, ne_eq, beq_iff_eq] at h
  obtain ⟨⟨⟨⟨⟨⟨⟨⟨h1, h2⟩, h3⟩, h4⟩, h5⟩, h6⟩, h7⟩, h8⟩, h9⟩ := h
  refine ⟨h1, h2, h3, h4, h5, h6, h7, fun hk => h8.resolve_left (fun g => g hk), fun ht => h9.resolve_left (fun g => by rw [ht] at g; cases g)⟩
theorem namesI_text {t : Tm} (h : tmB t = true) : itemsT (namesI t) = if twoB t = true then letterT t.s ++ [44] ++ letterT t.r else letterT t.s := by
  obtain ⟨_, _, _, h4, h5, h6, h7, _, _⟩ := tm_facts h
  unfold namesI
  split
  · simp only [itemsT, List.replicate_zero, List.nil_append, List.append_nil]
    rw [letterT_text h4 h5, letterT_text h6 h7]
    simp [textOf]; rfl
  · simp only [itemsT, List.replicate_zero, List.nil_append, List.append_nil]
    exact letterT_text h4 h5
theorem headC_text {k : Int} (h0 : 0 ≤ k) (h : k ≠ 0) (h7 : k < 7) : textOf 2 (kindL k.toNat) = headC k.toNat := by
  obtain ⟨m, rfl⟩ := Int.eq_ofNat_of_zero_le h0
  have : m = 1 ∨ m = 2 ∨ m = 3 ∨ m = 4 ∨ m = 5 ∨ m = 6 := by omega
  rcases this with rfl | rfl | rfl | rfl | rfl | rfl <;> decide
theorem termI_text {t : Tm} (h : tmB t = true) (hk : 0 ≤ t.kind) : itemsT (termI t) = termT0 t := by
  obtain ⟨h1, h2, h3, h4, h5, h6, h7, _, _⟩ := tm_facts h
  unfold termI termT0
  by_cases h0 : t.kind = 0
  · rw [if_pos h0, if_pos h0]; exact numI_text h1 h2
  · rw [if_neg h0, if_neg h0, itemsT_append, itemsT_append, itemsT_append, namesI_text h, tailI_text h1 h2]
    simp only [itemsT, List.replicate_zero, List.nil_append, List.append_nil]
    rw [headC_text hk h0 h3]
    simp [textOf]; rfl
end Go.Proofs.YtafgincpoahefaaDoor

namespace Go.Proofs.YtafgincpoahefaaDoor
open Go.RowKit

theorem cm_facts {c : Cm} (h : cmB c = true) : 1 ≤ c.op ∧ c.op < 7 ∧ tmB c.l = true ∧ tmB c.r = true := by
  simp only [cmB, Bool.and_eq_true, decide_eq_true_eq] at h
  exact ⟨h.1.1.1, h.1.1.2, h.1.2, h.2⟩
/-- kinds of terms are numbers from 0 on -/
def okK (c : Cm) : Prop := 0 ≤ c.l.kind ∧ 0 ≤ c.r.kind
theorem cmpI_text {c : Cm} (h : cmB c = true) (hk : okK c) : itemsT (cmpI c) = cmpT c := by
  obtain ⟨h1, h2, h3, h4⟩ := cm_facts h
  unfold cmpI cmpT cmpT0
  rw [if_pos h, itemsT_append, itemsT_append, termI_text h3 hk.1, termI_text h4 hk.2]
  simp only [itemsT, List.replicate_zero, List.nil_append, List.append_nil]
  rw [opT_text h1 h2, List.append_assoc]
theorem joinI_text : ∀ (cs : List Cm), (∀ c ∈ cs, cmB c = true ∧ okK c) → itemsT (joinI 38 (cs.map cmpI)) = joinB 38 (cs.map cmpT)
  | [], _ => rfl
  | [c], h => by
    obtain ⟨a, b⟩ := h c (by simp)
    exact cmpI_text a b
  | c :: d :: cs, h => by
    obtain ⟨a, b⟩ := h c (by simp)
    have ih := joinI_text (d :: cs) (fun x hx => h x (by simp [hx]))
    simp only [List.map_cons, joinI, joinB] at ih ⊢
    rw [itemsT_append, itemsT_append, ih, cmpI_text a b]
    simp only [itemsT, List.replicate_zero, List.nil_append, List.append_nil]
    simp [textOf]; rfl
theorem st_facts {s : St} (h : stB s = true) : (0 ≤ s.kind ∧ s.kind ≤ 1099511627776) ∧ (0 ≤ s.min ∧ s.min ≤ 1099511627776) ∧ (0 ≤ s.max ∧ s.max ≤ 1099511627776) ∧ ∀ c ∈ s.cmps, cmB c = true := by
  simp only [stB, numB, Bool.and_eq_true, decide_eq_true_eq, List.all_eq_true] at h
  exact ⟨h.1.1.1, h.1.1.2, h.1.2, h.2⟩
theorem timesI_text {a b : Int} (h : 0 ≤ a ∧ a ≤ 1099511627776) (h' : 0 ≤ b ∧ b ≤ 1099511627776) : itemsT (timesI a b) = timesT a b := by
  unfold timesI timesT
  split
  · rfl
  · simp only [itemsT, List.replicate_zero, List.nil_append, List.append_nil]
    rw [textOf_num h.1 h.2, textOf_num h'.1 h'.2]
    simp [textOf]; rfl
theorem cmpsI_text {cs : List Cm} (h : ∀ c ∈ cs, cmB c = true ∧ okK c) : itemsT (cmpsI cs) = cmpsT cs := by
  unfold cmpsI cmpsT
  split
  · rfl
  · rw [itemsT_append, itemsT_append, joinI_text cs h]
    simp only [itemsT, List.replicate_zero, List.nil_append, List.append_nil]
    simp [textOf]; rfl
def okS (s : St) : Prop := ∀ c ∈ s.cmps, okK c
theorem stepI_text {s : St} (h : stB s = true) (hk : okS s) {i : Int} (h0 : 0 ≤ i) (h1 : i < 26) : itemsT (stepI s i) = stepT s i := by
  obtain ⟨a, b, c, d⟩ := st_facts h
  unfold stepI stepT stepT0
  rw [if_pos (show stB s = true ∧ 0 ≤ i ∧ i < 26 from ⟨h, h0, h1⟩), itemsT_append, itemsT_append, itemsT_append, timesI_text b c, cmpsI_text fun x hx => ⟨d x hx, hk x hx⟩]
  simp only [itemsT, List.replicate_zero, List.nil_append, List.append_nil]
  rw [textOf_num a.1 a.2, letterT_text h0 h1]
  have h33 : textOf 5 33 = [33] := by decide
  cases hn : s.neg <;> simp [itemsT, h33]
theorem stepsI_text : ∀ (ss : List St) (i : Nat), (∀ s ∈ ss, stB s = true ∧ okS s) → i + ss.length ≤ 26 → itemsT (stepsI i ss) = stepsT i ss
  | [], _, _, _ => rfl
  | s :: ss, i, h, hi => by
    obtain ⟨a, b⟩ := h s (by simp)
    simp only [List.length_cons] at hi
    have ih := stepsI_text ss (i + 1) (fun x hx => h x (by simp [hx])) (by omega)
    simp only [stepsI, stepsT]
    rw [itemsT_append, itemsT_append, ih, stepI_text a b (by omega) (by omega), List.append_assoc]
    congr 1
    unfold sepI sepT
    (repeat' split) <;> simp [itemsT, textOf] <;> rfl
theorem pt_facts {p : Pt} (h : ptB p = true) : 0 < p.steps.length ∧ p.steps.length ≤ 26 ∧ (0 ≤ p.window ∧ p.window ≤ 1099511627776) ∧ ∀ s ∈ p.steps, stB s = true := by
  simp only [ptB, numB, Bool.and_eq_true, decide_eq_true_eq, List.all_eq_true] at h
  exact ⟨h.1.1.1, h.1.1.2, h.1.2, h.2⟩
def okP (p : Pt) : Prop := ∀ s ∈ p.steps, okS s
theorem patI_text {p : Pt} (h : ptB p = true) (hk : okP p) : itemsT (patI p) = patT p := by
  obtain ⟨a, b, c, d⟩ := pt_facts h
  unfold patI patT
  rw [itemsT_append, stepsI_text p.steps 0 (fun s hs => ⟨d s hs, hk s hs⟩) (by omega)]
  simp only [itemsT, List.append_nil]
  rw [textOf_num c.1 c.2]
  congr 1

/-- what may stand behind -/
def nodig (e : List UInt8) : Prop := ∀ c, e.head? = some c → digB c = false
def nolet (e : List UInt8) : Prop := ∀ c, e.head? = some c → letB c = false
def noeq (e : List UInt8) : Prop := ∀ c, e.head? = some c → c ≠ 61
theorem apart_num {n : Int} (h : 0 ≤ n) (h' : n ≤ 1099511627776) (c : UInt8) : apartB (textOf 1 n) c = !digB c := by
  rw [textOf_num h h']
  obtain ⟨d, r, e, hd⟩ := nonempty_itoa n h
  rw [e]
  simp [apartB, hd]
theorem apart_let {n : Int} (h : 0 ≤ n) (h' : n < 26) (c : UInt8) : apartB (textOf 2 n) c = !letB c := by
  rw [textOf_let h h']
  have hn : (UInt8.ofNat (97 + n.toNat)).toNat = 97 + n.toNat := by rw [UInt8.toNat_ofNat']; omega
  have hd : digB (UInt8.ofNat (97 + n.toNat)) = false := by simp [digB]; omega
  have hl : letB (UInt8.ofNat (97 + n.toNat)) = true := by simp [letB]; omega
  generalize UInt8.ofNat (97 + n.toNat) = x at *
  simp [apartB, hd, hl]
theorem okI_num {n : Int} (h : 0 ≤ n) (h' : n ≤ 1099511627776) {e : List UInt8} (he : nodig e) (g : Nat) : okI e [(g, 1, n)] := by
  refine ⟨?_, fun c hc => ?_, trivial⟩
  · obtain ⟨d, r, hd, _⟩ := nonempty_itoa n h
    rw [textOf_num h h', hd]; simp
  · rw [apart_num h h', he c hc]; rfl
theorem okI_let {n : Int} (h : 0 ≤ n) (h' : n < 26) {e : List UInt8} (he : nolet e) (g : Nat) : okI e [(g, 2, n)] := by
  refine ⟨?_, fun c hc => ?_, trivial⟩
  · rw [textOf_let h h']; simp
  · rw [apart_let h h', he c hc]; rfl
theorem okI_op {n : Int} (h : 1 ≤ n) (h' : n < 7) {e : List UInt8} (he : noeq e) (g : Nat) : okI e [(g, 4, n)] := by
  have hn : n = 1 ∨ n = 2 ∨ n = 3 ∨ n = 4 ∨ n = 5 ∨ n = 6 := by omega
  refine ⟨?_, fun c hc => ?_, trivial⟩
  · rcases hn with rfl | rfl | rfl | rfl | rfl | rfl <;> decide
  · have h61 := he c hc
    rcases hn with rfl | rfl | rfl | rfl | rfl | rfl <;> simp [textOf, opText, apartB, digB, letB, h61]
theorem okI_sign (n : Nat) (h : 0 < n) (h' : n < 128) (hs : signB (UInt8.ofNat n) = true) (h33 : n ≠ 33) (e : List UInt8) (g : Nat) : okI e [(g, 5, n)] := by
  have ht := textOf_sign n h h' hs
  refine ⟨by rw [ht]; simp, fun c _ => ?_, trivial⟩
  rw [ht]
  have hn : (UInt8.ofNat n).toNat = n := by rw [UInt8.toNat_ofNat']; omega
  have hne : UInt8.ofNat n ≠ 33 := by
    intro e; apply h33; rw [← hn, e]; rfl
  have hd : digB (UInt8.ofNat n) = false := by
    cases hb : digB (UInt8.ofNat n) with
    | false => rfl
    | true => have := (dig_else _ hb).2.2.1; rw [hs] at this; cases this
  have hl : letB (UInt8.ofNat n) = false := by
    cases hb : letB (UInt8.ofNat n) with
    | false => rfl
    | true => have := (let_else _ hb).2.2.1; rw [hs] at this; cases this
  simp [apartB, hd, hl, hs, hne]
theorem okI_bang {e : List UInt8} (he : noeq e) (g : Nat) : okI e [(g, 5, 33)] := by
  refine ⟨by decide, fun c hc => ?_, trivial⟩
  have := he c hc
  simp [textOf, signB, signL, apartB, digB, letB, this]
theorem okI_nil (e : List UInt8) : okI e [] := trivial

theorem head_app {l r : List UInt8} {x : UInt8} (h : l.head? = some x) : (l ++ r).head? = some x := by
  cases l with
  | nil => simp at h
  | cons c l => simpa using h
/-- heads of texts -/
theorem itoa_head (n : Int) : ∃ c r, Lib.itoa n = c :: r ∧ (digB c = true ∨ c = 45) := by
  by_cases h : n < 0
  · exact ⟨45, _, itoa_minus h, .inr rfl⟩
  · obtain ⟨c, r, e, hd⟩ := nonempty_itoa n (by omega)
    exact ⟨c, r, e, .inl hd⟩
theorem headC_head {k : Int} (h0 : 0 ≤ k) (h : k ≠ 0) (h7 : k < 7) : ∃ c, headC k.toNat = [c] ∧ letB c = true := by
  obtain ⟨m, rfl⟩ := Int.eq_ofNat_of_zero_le h0
  have : m = 1 ∨ m = 2 ∨ m = 3 ∨ m = 4 ∨ m = 5 ∨ m = 6 := by omega
  rcases this with rfl | rfl | rfl | rfl | rfl | rfl <;> exact ⟨_, rfl, by decide⟩
theorem termT0_head {t : Tm} (h : tmB t = true) (hk : 0 ≤ t.kind) : ∃ c r, termT0 t = c :: r ∧ (digB c = true ∨ letB c = true ∨ c = 45) := by
  obtain ⟨_, _, h3, _⟩ := tm_facts h
  unfold termT0
  by_cases h0 : t.kind = 0
  · rw [if_pos h0]
    obtain ⟨c, r, e, hc⟩ := itoa_head t.n
    exact ⟨c, r, e, by rcases hc with hc | hc <;> simp [hc]⟩
  · rw [if_neg h0]
    obtain ⟨c, e, hc⟩ := headC_head hk h0 h3
    rw [e]
    exact ⟨c, _, rfl, .inr (.inl hc)⟩
theorem noeq_term {t : Tm} (h : tmB t = true) (hk : 0 ≤ t.kind) (e : List UInt8) : noeq (termT0 t ++ e) := by
  obtain ⟨c, r, he, hc⟩ := termT0_head h hk
  intro x hx
  rw [he] at hx
  simp only [List.cons_append, List.head?_cons, Option.some.injEq] at hx
  subst hx
  rcases hc with hc | hc | hc
  · rintro rfl; simp [digB] at hc
  · rintro rfl; simp [letB] at hc
  · rw [hc]; decide

theorem numI_ok {n : Int} (h : -1099511627776 ≤ n) (h' : n ≤ 1099511627776) {e : List UInt8} (he : nodig e) : okI e (numI n) := by
  unfold numI
  split
  · exact okI_append (xs := [(0, 5, 45)]) (okI_sign 45 (by omega) (by omega) (by decide) (by omega) _ 0) (okI_num (by omega) (by omega) he 0)
  · exact okI_num (by omega) h' he 0
theorem tailI_ok {n : Int} (h : -1099511627776 ≤ n) (h' : n ≤ 1099511627776) {e : List UInt8} (he : nodig e) : okI e (tailI n) := by
  unfold tailI
  split
  · exact okI_append (xs := [(0, 5, 43)]) (okI_sign 43 (by omega) (by omega) (by decide) (by omega) _ 0) (okI_num (by omega) (by omega) he 0)
  · split
    · exact okI_append (xs := [(0, 5, 45)]) (okI_sign 45 (by omega) (by omega) (by decide) (by omega) _ 0) (okI_num (by omega) (by omega) he 0)
    · trivial
theorem nolet_cons {c : UInt8} (h : letB c = false) (r : List UInt8) : nolet (c :: r) := by intro x hx; simp at hx; subst hx; exact h
theorem nodig_cons {c : UInt8} (h : digB c = false) (r : List UInt8) : nodig (c :: r) := by intro x hx; simp at hx; subst hx; exact h
theorem noeq_cons {c : UInt8} (h : c ≠ 61) (r : List UInt8) : noeq (c :: r) := by intro x hx; simp at hx; subst hx; exact h
theorem sign_text (m : Int) (n : Nat) (hm : m = n) (h : 0 < n) (h' : n < 128) (hs : signB (UInt8.ofNat n) = true) (xs : List Item) (e : List UInt8) : itemsT ((0, 5, m) :: xs) ++ e = UInt8.ofNat n :: (itemsT xs ++ e) := by
  subst hm
  simp only [itemsT, List.replicate_zero, List.nil_append]
  rw [textOf_sign n h h' hs]; rfl
theorem kindL_facts {k : Int} (h0 : 0 ≤ k) (h : k ≠ 0) (h7 : k < 7) : 0 ≤ kindL k.toNat ∧ kindL k.toNat < 26 ∧ kindOf (kindL k.toNat) = k := by
  obtain ⟨m, rfl⟩ := Int.eq_ofNat_of_zero_le h0
  have : m = 1 ∨ m = 2 ∨ m = 3 ∨ m = 4 ∨ m = 5 ∨ m = 6 := by omega
  rcases this with rfl | rfl | rfl | rfl | rfl | rfl <;> decide
theorem termI_ok {t : Tm} (h : tmB t = true) (hk : 0 ≤ t.kind) {e : List UInt8} (he : nodig e) : okI e (termI t) := by
  obtain ⟨h1, h2, h3, h4, h5, h6, h7, _, _⟩ := tm_facts h
  unfold termI
  by_cases h0 : t.kind = 0
  · rw [if_pos h0]; exact numI_ok h1 h2 he
  · rw [if_neg h0]
    obtain ⟨k1, k2, _⟩ := kindL_facts hk h0 h3
    refine okI_append (okI_append (xs := [(0, 2, kindL t.kind.toNat)]) (ys := [(0, 5, 40)]) (okI_let k1 k2 ?_ 0) (okI_sign 40 (by omega) (by omega) (by decide) (by omega) _ 0)) (okI_append ?_ (okI_append (okI_sign 41 (by omega) (by omega) (by decide) (by omega) _ 0) (tailI_ok h1 h2 he)))
    · rw [sign_text 40 40 rfl (by omega) (by omega) (by decide)]
      exact nolet_cons (by decide) _
    · have h41 : ∀ xs, nolet (itemsT ([(0, 5, 41)] ++ xs) ++ e) := fun xs => by
        rw [List.singleton_append, sign_text 41 41 rfl (by omega) (by omega) (by decide)]
        exact nolet_cons (by decide) _
      unfold namesI
      split
      · refine okI_append (xs := [(0, 2, t.s)]) (ys := [(0, 5, 44), (0, 2, t.r)]) (okI_let h4 h5 ?_ 0) (okI_append (xs := [(0, 5, 44)]) (ys := [(0, 2, t.r)]) (okI_sign 44 (by omega) (by omega) (by decide) (by omega) _ 0) (okI_let h6 h7 (h41 _) 0))
        rw [sign_text 44 44 rfl (by omega) (by omega) (by decide)]
        exact nolet_cons (by decide) _
      · exact okI_let h4 h5 (h41 _) 0

theorem op_head {n : Int} (h : 1 ≤ n) (h' : n < 7) : ∃ c r, textOf 4 n = c :: r ∧ digB c = false ∧ letB c = false := by
  have hn : n = 1 ∨ n = 2 ∨ n = 3 ∨ n = 4 ∨ n = 5 ∨ n = 6 := by omega
  rcases hn with rfl | rfl | rfl | rfl | rfl | rfl <;> exact ⟨_, _, rfl, by decide, by decide⟩
theorem nodig_op {n : Int} (h : 1 ≤ n) (h' : n < 7) (xs : List Item) (e : List UInt8) : nodig (itemsT ((0, 4, n) :: xs) ++ e) := by
  obtain ⟨c, r, hc, hd, _⟩ := op_head h h'
  simp only [itemsT, List.replicate_zero, List.nil_append]
  rw [hc]
  exact nodig_cons hd _
theorem cmpI_ok {c : Cm} (h : cmB c = true) (hk : okK c) {e : List UInt8} (he : nodig e) : okI e (cmpI c) := by
  obtain ⟨h1, h2, h3, h4⟩ := cm_facts h
  unfold cmpI
  refine okI_append (termI_ok h3 hk.1 ?_) (okI_append (okI_op h1 h2 ?_ 0) (termI_ok h4 hk.2 he))
  · exact nodig_op h1 h2 _ _
  · rw [termI_text h4 hk.2]; exact noeq_term h4 hk.2 _
theorem joinI_ok : ∀ (cs : List Cm), (∀ c ∈ cs, cmB c = true ∧ okK c) → ∀ {e : List UInt8}, nodig e → okI e (joinI 38 (cs.map cmpI))
  | [], _, _, _ => trivial
  | [c], h, _, he => by
    obtain ⟨a, b⟩ := h c (by simp)
    exact cmpI_ok a b he
  | c :: d :: cs, h, e, he => by
    obtain ⟨a, b⟩ := h c (by simp)
    have ih := joinI_ok (d :: cs) (fun x hx => h x (by simp [hx])) he
    simp only [List.map_cons, joinI] at ih ⊢
    refine okI_append (cmpI_ok a b ?_) (okI_append (okI_sign 38 (by omega) (by omega) (by decide) (by omega) _ 0) ih)
    rw [List.singleton_append, sign_text 38 38 rfl (by omega) (by omega) (by decide)]
    exact nodig_cons (by decide) _
theorem cmpsI_ok {cs : List Cm} (h : ∀ c ∈ cs, cmB c = true ∧ okK c) (e : List UInt8) : okI e (cmpsI cs) := by
  unfold cmpsI
  split
  · trivial
  · refine okI_append (okI_sign 91 (by omega) (by omega) (by decide) (by omega) _ 0) (okI_append (joinI_ok cs h ?_) (okI_sign 93 (by omega) (by omega) (by decide) (by omega) _ 0))
    rw [sign_text 93 93 rfl (by omega) (by omega) (by decide)]
    exact nodig_cons (by decide) _
theorem timesI_ok {a b : Int} (h : 0 ≤ a ∧ a ≤ 1099511627776) (h' : 0 ≤ b ∧ b ≤ 1099511627776) (e : List UInt8) : okI e (timesI a b) := by
  unfold timesI
  split
  · trivial
  · refine okI_append (xs := [(0, 5, 123)]) (okI_sign 123 (by omega) (by omega) (by decide) (by omega) _ 0) (okI_append (xs := [(0, 1, a)]) (okI_num h.1 h.2 ?_ 0) (okI_append (xs := [(0, 5, 44)]) (okI_sign 44 (by omega) (by omega) (by decide) (by omega) _ 0) (okI_append (xs := [(0, 1, b)]) (okI_num h'.1 h'.2 ?_ 0) (okI_sign 125 (by omega) (by omega) (by decide) (by omega) _ 0))))
    · rw [sign_text 44 44 rfl (by omega) (by omega) (by decide)]
      exact nodig_cons (by decide) _
    · rw [sign_text 125 125 rfl (by omega) (by omega) (by decide)]
      exact nodig_cons (by decide) _
/-- behind a step: a sign, or a blank -/
def sepE (e : List UInt8) : Prop := ∀ c, e.head? = some c → digB c = false ∧ letB c = false
theorem times_asks_nolet {s : St} {e : List UInt8} (he : sepE e) : nolet (itemsT (timesI s.min s.max ++ cmpsI s.cmps) ++ e) := by
  rw [itemsT_append]
  unfold timesI
  split
  · unfold cmpsI
    split
    · intro c hc; exact (he c (by simpa [itemsT] using hc)).2
    · intro c hc
      rw [List.singleton_append] at hc
      simp only [itemsT, List.nil_append] at hc
      rw [show List.replicate 0 (32 : UInt8) = [] from rfl, List.nil_append, show textOf 5 91 = [91] from by decide] at hc
      simp at hc; subst hc; decide
  · intro c hc
    simp only [itemsT, List.replicate_zero, List.nil_append] at hc
    rw [show textOf 5 123 = [123] from by decide] at hc
    simp at hc; subst hc; decide
theorem stepI_ok {s : St} (h : stB s = true) (hk : okS s) {i : Int} (h0 : 0 ≤ i) (h1 : i < 26) {e : List UInt8} (he : sepE e) : okI e (stepI s i) := by
  obtain ⟨a, b, c, d⟩ := st_facts h
  have hrest : okI e ([(0, 1, s.kind), (0, 2, i)] ++ (timesI s.min s.max ++ cmpsI s.cmps)) := by
    refine okI_append (okI_append (xs := [(0, 1, s.kind)]) (ys := [(0, 2, i)]) (okI_num a.1 a.2 ?_ 0) (okI_let h0 h1 (times_asks_nolet he) 0)) (okI_append (timesI_ok b c _) (cmpsI_ok (fun x hx => ⟨d x hx, hk x hx⟩) e))
    · have hn : (UInt8.ofNat (97 + i.toNat)).toNat = 97 + i.toNat := by rw [UInt8.toNat_ofNat']; omega
      simp only [itemsT, List.replicate_zero, List.nil_append, List.append_nil]
      rw [textOf_let h0 h1]
      exact nodig_cons (by simp [digB]; omega) _
  unfold stepI
  split
  · refine okI_append (okI_bang ?_ 0) hrest
    obtain ⟨x, r, hx, hd⟩ := nonempty_itoa s.kind a.1
    simp only [List.cons_append, List.nil_append, itemsT, List.replicate_zero, textOf_num a.1 a.2, hx]
    exact noeq_cons (by rintro rfl; simp [digB] at hd) _
  · exact hrest
theorem sepE_cons {c : UInt8} (h : digB c = false ∧ letB c = false) (r : List UInt8) : sepE (c :: r) := by intro x hx; simp at hx; subst hx; exact h
theorem stepsI_ok : ∀ (ss : List St) (i : Nat), (∀ s ∈ ss, stB s = true ∧ okS s) → i + ss.length ≤ 26 → ∀ {e : List UInt8}, sepE e → okI e (stepsI i ss) ∧ (0 < i → sepE (itemsT (stepsI i ss) ++ e))
  | [], _, _, _, _, he => ⟨trivial, fun _ => by simpa [stepsI, itemsT] using he⟩
  | s :: ss, i, h, hi, e, he => by
    obtain ⟨a, b⟩ := h s (by simp)
    simp only [List.length_cons] at hi
    obtain ⟨q1, q2⟩ := stepsI_ok ss (i + 1) (fun x hx => h x (by simp [hx])) (by omega) he
    have hst := okI_append (stepI_ok a b (i := (i : Int)) (by omega) (by omega) (q2 (by omega))) q1
    simp only [stepsI]
    unfold sepI
    split
    · rename_i h0
      exact ⟨hst, fun h => by omega⟩
    · split
      · refine ⟨okI_append (okI_sign 44 (by omega) (by omega) (by decide) (by omega) _ 0) hst, fun _ => ?_⟩
        rw [List.singleton_append, sign_text 44 44 rfl (by omega) (by omega) (by decide)]
        exact sepE_cons (by decide) _
      · refine ⟨okI_append (okI_sign 59 (by omega) (by omega) (by decide) (by omega) _ 0) hst, fun _ => ?_⟩
        rw [List.singleton_append, sign_text 59 59 rfl (by omega) (by omega) (by decide)]
        exact sepE_cons (by decide) _
theorem patI_ok {p : Pt} (h : ptB p = true) (hk : okP p) : okI [] (patI p) := by
  obtain ⟨a, b, c, d⟩ := pt_facts h
  unfold patI
  refine okI_append (stepsI_ok p.steps 0 (fun s hs => ⟨d s hs, hk s hs⟩) (by omega) ?_).1 ?_
  · exact sepE_cons (by decide) _
  · refine ⟨by decide, fun x hx => ?_, ?_, fun x hx => by simp [itemsT] at hx, trivial⟩
    · simp [itemsT] at hx; subst hx; decide
    · obtain ⟨x, r, hx, _⟩ := nonempty_itoa p.window c.1
      rw [textOf_num c.1 c.2, hx]; simp
end Go.Proofs.YtafgincpoahefaaDoor

namespace Go.Proofs.YtafgincpoahefaaDoor
open Go.RowKit

/-- tokens of these kinds and numbers -/
def KN (ts : List Tok) (is : List Item) : Prop := ts.map (fun t => (t.kind, t.n)) = is.map (·.2)
theorem KN.app {ts : List Tok} {xs ys : List Item} (h : KN ts (xs ++ ys)) : ∃ t1 t2, ts = t1 ++ t2 ∧ KN t1 xs ∧ KN t2 ys := by
  unfold KN at h
  rw [List.map_append] at h
  obtain ⟨t1, t2, h0, h1, h2⟩ := List.map_eq_append_iff.1 h
  exact ⟨t1, t2, h0, h1, h2⟩
theorem KN.cons {ts : List Tok} {g : Nat} {k n : Int} {xs : List Item} (h : KN ts ((g, k, n) :: xs)) : ∃ a r, ts = ⟨k, n, a⟩ :: r ∧ KN r xs := by
  unfold KN at h
  rw [List.map_cons] at h
  obtain ⟨t, r, h0, h1, h2⟩ := List.map_eq_cons_iff.1 h
  obtain ⟨k', n', a⟩ := t
  simp only [Prod.mk.injEq] at h1
  obtain ⟨rfl, rfl⟩ := h1
  exact ⟨a, r, h0, h2⟩
theorem KN.nil {ts : List Tok} (h : KN ts []) : ts = [] := by
  unfold KN at h
  simpa using h
theorem KN.len {ts : List Tok} {is : List Item} (h : KN ts is) : ts.length = is.length := by
  have := congrArg List.length h
  simpa using this
theorem isS_cons (c k n a : Int) (r : List Tok) : isS c (⟨k, n, a⟩ :: r) = ((k == 5) && (n == c)) := rfl
theorem pTake_cons (k n a : Int) (r : List Tok) (hk : k ≠ 0) : pTake k (⟨k, n, a⟩ :: r) = .ok (n, r) := by
  simp [pTake, hk]
theorem pSign_cons (c a : Int) (r : List Tok) : pSign c (⟨5, c, a⟩ :: r) = .ok ((), r) := by
  simp [pSign, isS]
@[simp] theorem thenR_ok {α β : Type} (a : α) (l : List Tok) (f : α → List Tok → Res β) : thenR (.ok (a, l)) f = f a l := rfl
@[simp] theorem thenR_err {α β : Type} (a : Int) (f : α → List Tok → Res β) : thenR (.error a) f = .error a := rfl

theorem pNum_back {ts : List Tok} {n : Int} (h : KN ts (numI n)) (r : List Tok) : (if isS 45 (ts ++ r) = true then pNum true (ts ++ r).tail else pNum false (ts ++ r)) = .ok (n, r) := by
  unfold numI at h
  by_cases hn : n < 0
  · rw [if_pos hn] at h
    have q_ := h.cons; clear h; obtain ⟨a, r1, rfl, h⟩ := q_
    have q_ := h.cons; clear h; obtain ⟨b, r2, rfl, h⟩ := q_
    obtain rfl := h.nil
    simp [isS_cons, pNum, pTake_cons]
  · rw [if_neg hn] at h
    have q_ := h.cons; clear h; obtain ⟨a, r1, rfl, h⟩ := q_
    obtain rfl := h.nil
    simp [isS_cons, pNum, pTake_cons]
theorem pMore_back {ts : List Tok} {n : Int} (h : KN ts (tailI n)) (r : List Tok) (h1 : isS 43 r = false) (h2 : isS 45 r = false) : pMore (ts ++ r) = .ok (n, r) := by
  unfold tailI at h
  by_cases hp : 0 < n
  · rw [if_pos hp] at h
    have q_ := h.cons; clear h; obtain ⟨a, r1, rfl, h⟩ := q_
    have q_ := h.cons; clear h; obtain ⟨b, r2, rfl, h⟩ := q_
    obtain rfl := h.nil
    simp [isS_cons, pMore, pNum, pTake_cons]
  · rw [if_neg hp] at h
    by_cases hn : n < 0
    · rw [if_pos hn] at h
      have q_ := h.cons; clear h; obtain ⟨a, r1, rfl, h⟩ := q_
      have q_ := h.cons; clear h; obtain ⟨b, r2, rfl, h⟩ := q_
      obtain rfl := h.nil
      simp [isS_cons, pMore, pNum, pTake_cons]
    · rw [if_neg hn] at h
      obtain rfl := h.nil
      rw [List.nil_append]
      unfold pMore
      rw [h1, h2, show n = 0 from by omega]; rfl
theorem pTerm_back {ts : List Tok} {t : Tm} (ht : tmB t = true) (hk : 0 ≤ t.kind) (h : KN ts (termI t)) (r : List Tok) (h1 : isS 43 r = false) (h2 : isS 45 r = false) : pTerm (ts ++ r) = .ok (t, r) := by
  obtain ⟨_, _, h3, h4, h5, h6, h7, h8, h9⟩ := tm_facts ht
  unfold termI at h
  by_cases h0 : t.kind = 0
  · rw [if_pos h0] at h
    have hb := pNum_back h r
    have hr : t.r = 0 := h9 (by simp [twoB, h0])
    have ht' : t = ⟨0, t.n, 0, 0⟩ := by
      cases t
      simp only at h0 h8 hr ⊢
      rw [h0, h8 h0, hr]
    obtain ⟨x, xs, hx, hkx⟩ : ∃ x xs, ts = x :: xs ∧ x.kind ≠ 2 := by
      unfold numI at h
      split at h
      · obtain ⟨a, r1, e, _⟩ := h.cons; exact ⟨_, _, e, by simp⟩
      · obtain ⟨a, r1, e, _⟩ := h.cons; exact ⟨_, _, e, by simp⟩
    subst hx
    simp only [List.cons_append] at hb ⊢
    unfold pTerm
    simp only [List.tail_cons] at hb
    simp only [if_neg hkx]
    rw [hb, thenR_ok, ← ht']
  · rw [if_neg h0] at h
    obtain ⟨k1, k2, k3⟩ := kindL_facts hk h0 h3
    have q_ := h.app; clear h; obtain ⟨t1, t2, rfl, ha, h⟩ := q_
    have q_ := ha.cons; clear ha; obtain ⟨a, r1, rfl, ha⟩ := q_
    have q_ := ha.cons; clear ha; obtain ⟨b, r2, rfl, ha⟩ := q_
    obtain rfl := ha.nil
    have q_ := h.app; clear h; obtain ⟨t3, t4, rfl, hn, h⟩ := q_
    have q_ := h.app; clear h; obtain ⟨t5, t6, rfl, hs, h⟩ := q_
    have q_ := hs.cons; clear hs; obtain ⟨c, r3, rfl, hs⟩ := q_
    obtain rfl := hs.nil
    have hm := pMore_back h r h1 h2
    have hnm : ∀ r', pNames (t.kind == 5 || t.kind == 6) (t3 ++ r') = .ok ((t.s, t.r), r') := by
      intro r'
      unfold namesI at hn
      by_cases h2b : twoB t = true
      · rw [if_pos h2b] at hn
        have q_ := hn.cons; clear hn; obtain ⟨d, r4, rfl, hn⟩ := q_
        have q_ := hn.cons; clear hn; obtain ⟨d', r5, rfl, hn⟩ := q_
        have q_ := hn.cons; clear hn; obtain ⟨d'', r6, rfl, hn⟩ := q_
        obtain rfl := hn.nil
        rw [show (t.kind == 5 || t.kind == 6) = true from h2b]
        simp [pNames, pTake_cons, pSign_cons]
      · rw [if_neg h2b] at hn
        have h2f : twoB t = false := by simpa using h2b
        have q_ := hn.cons; clear hn; obtain ⟨d, r4, rfl, hn⟩ := q_
        obtain rfl := hn.nil
        rw [show (t.kind == 5 || t.kind == 6) = false from h2f]
        simp [pNames, pTake_cons, h9 h2f]
    simp only [List.cons_append, List.nil_append, List.append_assoc]
    unfold pTerm
    simp only [if_true, k3, h0, if_false]
    unfold pNamed
    rw [pSign_cons, thenR_ok, hnm, thenR_ok, pSign_cons, thenR_ok, hm, thenR_ok]
theorem pCmp_back {ts : List Tok} {c : Cm} (hc : cmB c = true) (hk : okK c) (h : KN ts (cmpI c)) (r : List Tok) (h1 : isS 43 r = false) (h2 : isS 45 r = false) : pCmp (ts ++ r) = .ok (c, r) := by
  obtain ⟨_, _, h3, h4⟩ := cm_facts hc
  unfold cmpI at h
  have q_ := h.app; clear h; obtain ⟨t1, t2, rfl, ha, h⟩ := q_
  have q_ := h.app; clear h; obtain ⟨t3, t4, rfl, hb, h⟩ := q_
  have q_ := hb.cons; clear hb; obtain ⟨a, r1, rfl, hb⟩ := q_
  obtain rfl := hb.nil
  have e1 := pTerm_back h3 hk.1 ha (⟨4, c.op, a⟩ :: (t4 ++ r)) (by simp [isS_cons]) (by simp [isS_cons])
  have e2 := pTerm_back h4 hk.2 h r h1 h2
  simp only [List.append_assoc, List.cons_append, List.nil_append]
  unfold pCmp
  rw [e1, thenR_ok, pTake_cons _ _ _ _ (by decide), thenR_ok, e2, thenR_ok]
theorem pCmps_back : ∀ (cs : List Cm) (f : Nat) (ts r : List Tok), cs ≠ [] → (∀ c ∈ cs, cmB c = true ∧ okK c) → KN ts (joinI 38 (cs.map cmpI)) → cs.length ≤ f → ∀ a : Int,
    pCmps f (ts ++ ⟨5, 93, a⟩ :: r) = .ok (cs, r)
  | [], _, _, _, h, _, _, _, _ => absurd rfl h
  | [c], 0, _, _, _, _, _, h, _ => by simp at h
  | _ :: _ :: _, 0, _, _, _, _, _, h, _ => by simp at h
  | [c], f + 1, ts, r, _, hc, h, _, a => by
    obtain ⟨c1, c2⟩ := hc c (by simp)
    have e := pCmp_back c1 c2 h (⟨5, 93, a⟩ :: r) (by simp [isS_cons]) (by simp [isS_cons])
    unfold pCmps
    rw [e, thenR_ok, if_neg (by simp [isS_cons]), pSign_cons, thenR_ok]
  | c :: d :: cs, f + 1, ts, r, _, hc, h, hf, a => by
    obtain ⟨c1, c2⟩ := hc c (by simp)
    simp only [List.map_cons, joinI] at h
    have q_ := h.app; clear h; obtain ⟨t1, t2, rfl, ha, h⟩ := q_
    have q_ := h.app; clear h; obtain ⟨t3, t4, rfl, hb, h⟩ := q_
    have q_ := hb.cons; clear hb; obtain ⟨b, r1, rfl, hb⟩ := q_
    obtain rfl := hb.nil
    have ih := pCmps_back (d :: cs) f t4 r (by simp) (fun x hx => hc x (by simp [hx])) h (by simpa using hf) a
    have e := pCmp_back c1 c2 ha (⟨5, 38, b⟩ :: (t4 ++ ⟨5, 93, a⟩ :: r)) (by simp [isS_cons]) (by simp [isS_cons])
    simp only [List.append_assoc, List.cons_append, List.nil_append]
    unfold pCmps
    rw [e, thenR_ok, if_pos (by simp [isS_cons]), List.tail_cons, ih, thenR_ok]
theorem joinI_len : ∀ (cs : List Cm), cs.length ≤ (joinI 38 (cs.map cmpI)).length
  | [] => by simp
  | [c] => by simp [joinI, cmpI]; omega
  | c :: d :: cs => by
    have := joinI_len (d :: cs)
    simp only [List.map_cons, joinI, List.length_append, List.length_cons, List.length_nil] at this ⊢
    omega
theorem pAsks_back {ts : List Tok} {cs : List Cm} (hc : ∀ c ∈ cs, cmB c = true ∧ okK c) (h : KN ts (cmpsI cs)) (r : List Tok) (h91 : isS 91 r = false) : pAsks (ts ++ r) = .ok (cs, r) := by
  unfold cmpsI at h
  by_cases h0 : cs = []
  · rw [if_pos h0] at h
    obtain rfl := h.nil
    rw [List.nil_append]
    unfold pAsks
    rw [h91, h0]; rfl
  · rw [if_neg h0] at h
    have q_ := h.app; clear h; obtain ⟨t1, t2, rfl, ha, h⟩ := q_
    have q_ := ha.cons; clear ha; obtain ⟨a, r1, rfl, ha⟩ := q_
    obtain rfl := ha.nil
    have q_ := h.app; clear h; obtain ⟨t3, t4, rfl, hj, h⟩ := q_
    have q_ := h.cons; clear h; obtain ⟨b, r2, rfl, h⟩ := q_
    obtain rfl := h.nil
    have hl := joinI_len cs
    rw [← hj.len] at hl
    have e := pCmps_back cs (⟨5, 91, a⟩ :: (t3 ++ ⟨5, 93, b⟩ :: r) : List Tok).length t3 r h0 hc hj (by simp; omega) b
    simp only [List.append_assoc, List.cons_append, List.nil_append]
    unfold pAsks
    rw [if_pos (by simp [isS_cons]), List.tail_cons, e]
theorem pTimes_back {ts : List Tok} {x y : Int} (h : KN ts (timesI x y)) (r : List Tok) (h123 : isS 123 r = false) : pTimes (ts ++ r) = .ok ((x, y), r) := by
  unfold timesI at h
  by_cases h0 : x = 1 ∧ y = 1
  · rw [if_pos h0] at h
    obtain rfl := h.nil
    rw [List.nil_append]
    unfold pTimes
    rw [h123, h0.1, h0.2]; rfl
  · rw [if_neg h0] at h
    have q_ := h.cons; clear h; obtain ⟨a1, r1, rfl, h⟩ := q_
    have q_ := h.cons; clear h; obtain ⟨a2, r2, rfl, h⟩ := q_
    have q_ := h.cons; clear h; obtain ⟨a3, r3, rfl, h⟩ := q_
    have q_ := h.cons; clear h; obtain ⟨a4, r4, rfl, h⟩ := q_
    have q_ := h.cons; clear h; obtain ⟨a5, r5, rfl, h⟩ := q_
    obtain rfl := h.nil
    simp only [List.cons_append, List.nil_append]
    unfold pTimes
    rw [if_pos (by simp [isS_cons]), List.tail_cons, pTake_cons _ _ _ _ (by decide), thenR_ok, pSign_cons, thenR_ok, pTake_cons _ _ _ _ (by decide), thenR_ok, pSign_cons, thenR_ok]
theorem isS_app_ne {c : Int} {ts : List Tok} {is : List Item} (h : KN ts is) (hne : ∀ g k n xs, is = (g, k, n) :: xs → ¬ (k = 5 ∧ n = c)) (r : List Tok) (hr : isS c r = false) : isS c (ts ++ r) = false := by
  cases is with
  | nil => obtain rfl := h.nil; exact hr
  | cons i is =>
    obtain ⟨g, k, n⟩ := i
    have q_ := h.cons; clear h; obtain ⟨a, r1, rfl, _⟩ := q_
    rw [List.cons_append, isS_cons]
    have := hne g k n is rfl
    simp only [Bool.and_eq_false_iff, beq_eq_false_iff_ne]
    by_cases hk : k = 5
    · right; intro hn; exact this ⟨hk, hn⟩
    · left; exact hk
theorem pStep_back {ts : List Tok} {s : St} (hs : stB s = true) (hk : okS s) (i : Int) (strict : Bool) (h : KN ts (stepI s i)) (r : List Tok) (h91 : isS 91 r = false) (h123 : isS 123 r = false) : pStep i strict (ts ++ r) = .ok ({ s with strict := strict }, r) := by
  obtain ⟨_, _, _, d⟩ := st_facts hs
  unfold stepI at h
  have q_ := h.app; clear h; obtain ⟨t1, t2, rfl, ha, h⟩ := q_
  have q_ := h.app; clear h; obtain ⟨t3, t4, rfl, hb, h⟩ := q_
  have q_ := hb.cons; clear hb; obtain ⟨a, r1, rfl, hb⟩ := q_
  have q_ := hb.cons; clear hb; obtain ⟨b, r2, rfl, hb⟩ := q_
  obtain rfl := hb.nil
  have q_ := h.app; clear h; obtain ⟨t5, t6, rfl, htm, h⟩ := q_
  have e1 := pTimes_back htm (t6 ++ r) (isS_app_ne h (by
    intro g k n xs hx
    unfold cmpsI at hx
    split at hx
    · cases hx
    · simp only [List.singleton_append, List.cons.injEq, Prod.mk.injEq] at hx
      obtain ⟨⟨_, rfl, rfl⟩, _⟩ := hx
      simp) r h123)
  have e2 := pAsks_back (fun x hx => ⟨d x hx, hk x hx⟩) h r h91
  simp only [List.append_assoc, List.cons_append, List.nil_append]
  unfold pStep
  split at ha
  · rename_i hneg
    have q_ := ha.cons; clear ha; obtain ⟨c, r3, rfl, ha⟩ := q_
    obtain rfl := ha.nil
    simp only [List.cons_append, List.nil_append, isS_cons, beq_self_eq_true, Bool.and_self, if_true, List.tail_cons]
    rw [pTake_cons _ _ _ _ (by decide), thenR_ok]
    simp only [pLetter, if_true, and_self, thenR_ok]
    rw [e1, thenR_ok, e2, thenR_ok, hneg]
  · rename_i hneg
    have hneg' : s.neg = false := by simpa using hneg
    obtain rfl := ha.nil
    simp only [List.nil_append]
    rw [show isS 33 (⟨1, s.kind, a⟩ :: ⟨2, i, b⟩ :: (t5 ++ (t6 ++ r))) = false from by simp [isS_cons]]
    simp only [Bool.false_eq_true, if_false]
    rw [pTake_cons _ _ _ _ (by decide), thenR_ok]
    simp only [pLetter, if_true, and_self, thenR_ok]
    rw [e1, thenR_ok, e2, thenR_ok, hneg']
theorem stepsI_head {ss : List St} {i : Nat} (hi : 0 < i) {g : Nat} {k n : Int} {xs : List Item} (h : stepsI i ss = (g, k, n) :: xs) : k = 5 ∧ (n = 44 ∨ n = 59) := by
  cases ss with
  | nil => simp [stepsI] at h
  | cons s ss =>
    simp only [stepsI] at h
    unfold sepI at h
    rw [if_neg (by omega)] at h
    split at h <;> simp at h <;> omega
theorem pSteps_back : ∀ (ss : List St) (f i : Nat) (strict : Bool) (ts r : List Tok), (∀ s ∈ ss, stB s = true ∧ okS s) → ∀ s : St, stB s = true → okS s →
    KN ts (stepI s i ++ stepsI (i + 1) ss) → ss.length < f → s.strict = strict → (∀ c, isS c r = false) → pSteps f i strict (ts ++ r) = .ok (s :: ss, r)
  | _, 0, _, _, _, _, _, _, _, _, _, h, _, _ => by simp at h
  | [], f + 1, i, strict, ts, r, hss, s, hs, hk, h, hf, hst, hr => by
    simp only [stepsI, List.append_nil] at h
    have e := pStep_back hs hk i strict h r (hr _) (hr _)
    unfold pSteps
    rw [e, thenR_ok, hr, hr, ← hst]
    simp
  | u :: ss, f + 1, i, strict, ts, r, hss, s, hs, hk, h, hf, hst, hr => by
    obtain ⟨u1, u2⟩ := hss u (by simp)
    simp only [stepsI] at h
    have q_ := h.app; clear h; obtain ⟨t1, t2, rfl, ha, h⟩ := q_
    have q_ := h.app; clear h; obtain ⟨t3, t4, rfl, hb, h⟩ := q_
    unfold sepI at hb
    rw [if_neg (by omega)] at hb
    simp only [List.append_assoc]
    by_cases hus : u.strict = true
    · rw [if_pos hus] at hb
      have q_ := hb.cons; clear hb; obtain ⟨b, r1, rfl, hb⟩ := q_
      obtain rfl := hb.nil
      have e := pStep_back hs hk i strict ha (⟨5, 44, b⟩ :: (t4 ++ r)) (by simp [isS_cons]) (by simp [isS_cons])
      have ih := pSteps_back ss f (i + 1) true t4 r (fun x hx => hss x (by simp [hx])) u u1 u2 h (by simpa using hf) hus hr
      unfold pSteps
      simp only [List.cons_append, List.nil_append]
      rw [e, thenR_ok, if_neg (by simp [isS_cons]), if_pos (by simp [isS_cons]), List.tail_cons, ih, thenR_ok, ← hst]
    · have husf : u.strict = false := by simpa using hus
      rw [if_neg hus] at hb
      have q_ := hb.cons; clear hb; obtain ⟨b, r1, rfl, hb⟩ := q_
      obtain rfl := hb.nil
      have e := pStep_back hs hk i strict ha (⟨5, 59, b⟩ :: (t4 ++ r)) (by simp [isS_cons]) (by simp [isS_cons])
      have ih := pSteps_back ss f (i + 1) false t4 r (fun x hx => hss x (by simp [hx])) u u1 u2 h (by simpa using hf) husf hr
      unfold pSteps
      simp only [List.cons_append, List.nil_append]
      rw [e, thenR_ok, if_pos (by simp [isS_cons]), List.tail_cons, ih, thenR_ok, ← hst]
theorem stepsI_len : ∀ (ss : List St) (i : Nat), ss.length ≤ (stepsI i ss).length
  | [], _ => by simp
  | s :: ss, i => by
    have := stepsI_len ss (i + 1)
    simp only [stepsI, stepI, List.length_append, List.length_cons, List.length_nil]
    omega
/-- the tokens of a pattern's text, with the end behind them, are parsed as it -/
theorem pPat_back {p : Pt} (h : ptB p = true) (hk : okP p) (h0 : strict0 p = false) {ts : List Tok} (hts : KN ts (patI p)) (e n : Int) : ∃ r, pPat (ts ++ [⟨0, n, e⟩]) = .ok (p, r) := by
  obtain ⟨a, b, c, d⟩ := pt_facts h
  obtain ⟨steps, window⟩ := p
  cases steps with
  | nil => simp at a
  | cons s ss =>
    unfold patI at hts
    have q_ := hts.app; clear hts; obtain ⟨t1, t2, rfl, ha, hts⟩ := q_
    have q_ := hts.cons; clear hts; obtain ⟨x, r1, rfl, hts⟩ := q_
    have q_ := hts.cons; clear hts; obtain ⟨y, r2, rfl, hts⟩ := q_
    obtain rfl := hts.nil
    simp only [stepsI] at ha
    rw [show sepI s 0 = [] from rfl, List.nil_append] at ha
    have hl := ha.len
    have hl2 := stepsI_len ss 1
    have es := pSteps_back ss ((t1 ++ [⟨3, 0, x⟩, ⟨1, window, y⟩] ++ [⟨0, n, e⟩] : List Tok).length + 1) 0 false t1 [⟨3, 0, x⟩, ⟨1, window, y⟩, ⟨0, n, e⟩] (fun z hz => ⟨d z (by simp [hz]), hk z (by simp [hz])⟩) s (d s (by simp)) (hk s (by simp)) ha
      (by simp [List.length_append] at hl ⊢; omega) (by simpa [strict0] using h0) (fun c => by simp [isS_cons])
    refine ⟨[⟨0, n, e⟩], ?_⟩
    unfold pPat
    rw [List.append_assoc]
    simp only [List.cons_append, List.nil_append] at es ⊢
    rw [List.append_assoc] at es
    simp only [List.cons_append, List.nil_append] at es
    rw [es, thenR_ok, pTake_cons _ _ _ _ (by decide), thenR_ok, pTake_cons _ _ _ _ (by decide), thenR_ok]
    simp [pTake]
/-- a text that is told is parsed as the pattern that it was told of -/
theorem parse_print {p : Pt} (h : ptB p = true) (hk : okP p) (h0 : strict0 p = false) (hl : (patT p).length ≤ 2000) : parseOf (patT p) = (p, 0, 0) := by
  rw [← patI_text h hk] at hl ⊢
  obtain ⟨ts, h1, h2⟩ := all_items (patI p) (patI_ok h hk) hl
  obtain ⟨r, hr⟩ := pPat_back h hk h0 h2 (itemsT (patI p)).length 0
  unfold parseOf
  rw [h1]
  simp only [if_true]
  rw [hr]
end Go.Proofs.YtafgincpoahefaaDoor

namespace Go.Proofs.YtafgincpoahefaaDoor
open Go.RowKit

theorem joinB_snoc (b : UInt8) (x : List UInt8) : ∀ (l : List (List UInt8)), l ≠ [] → joinB b (l ++ [x]) = joinB b l ++ b :: x
  | [], h => absurd rfl h
  | [w], _ => by simp [joinB]
  | w :: v :: ws, _ => by
    have := joinB_snoc b x (v :: ws) (by simp)
    simp only [List.cons_append, joinB] at this ⊢
    rw [this]
    simp
theorem joinB_lib (b : UInt8) : ∀ (l : List (List UInt8)), joinB b l = Lib.join l [b]
  | [] => by simp [joinB, Lib.join, List.intercalate]
  | [w] => by simp [joinB, Lib.join, List.intercalate]
  | w :: v :: ws => by
    have := joinB_lib b (v :: ws)
    unfold Lib.join List.intercalate at this ⊢
    simp only [joinB, this]
    simp [List.intersperse]
/-- what has been told of the first comparisons, with the sign ahead of each -/
def cmpsPre (cs : List Cm) : List UInt8 := if cs = [] then [] else 91 :: joinB 38 (cs.map cmpT)
theorem cmpsPre_snoc (cs : List Cm) (c : Cm) : cmpsPre (cs ++ [c]) = cmpsPre cs ++ ((if cs = [] then [91] else [38]) ++ cmpT c) := by
  unfold cmpsPre
  rw [if_neg (by simp)]
  by_cases h : cs = []
  · subst h; simp [joinB]
  · rw [if_neg h, if_neg h, List.map_append, List.map_cons, List.map_nil, joinB_snoc _ _ _ (by simpa using h)]
    simp
theorem cmpsT_pre (cs : List Cm) : cmpsT cs = cmpsPre cs ++ (if cs = [] then [] else [93]) := by
  unfold cmpsT cmpsPre
  by_cases h : cs = []
  · simp [h]
  · simp [h]
theorem stepsT_snoc (s : St) : ∀ (ss : List St) (i : Nat), stepsT i (ss ++ [s]) = stepsT i ss ++ (sepT s (i + ss.length) ++ stepT s ((i + ss.length : Nat) : Int))
  | [], i => by simp [stepsT]
  | t :: ss, i => by
    have := stepsT_snoc s ss (i + 1)
    simp only [List.cons_append, stepsT, this, List.length_cons]
    rw [show i + 1 + ss.length = i + (ss.length + 1) from by omega]
    simp [List.append_assoc]
theorem take_snoc_at {α : Type} {l : List α} {k : Nat} {x : α} (h : l[k]? = some x) : l.take (k + 1) = l.take k ++ [x] := by
  obtain ⟨hk, rfl⟩ := List.getElem?_eq_some_iff.1 h
  exact List.take_succ_eq_append_getElem hk
theorem stepsT_take {ss : List St} {k : Nat} {s : St} (h : ss[k]? = some s) : stepsT 0 (ss.take (k + 1)) = stepsT 0 (ss.take k) ++ (sepT s k ++ stepT s (k : Int)) := by
  rw [take_snoc_at h, stepsT_snoc]
  have hk := (List.getElem?_eq_some_iff.1 h).1
  rw [List.length_take, Nat.min_eq_left (by omega), Nat.zero_add]
theorem cmpsPre_take {cs : List Cm} {k : Nat} {c : Cm} (h : cs[k]? = some c) : cmpsPre (cs.take (k + 1)) = cmpsPre (cs.take k) ++ ((if k = 0 then [91] else [38]) ++ cmpT c) := by
  rw [take_snoc_at h, cmpsPre_snoc]
  have hk := (List.getElem?_eq_some_iff.1 h).1
  congr 2
  by_cases h0 : k = 0
  · simp [h0]
  · rw [if_neg h0, if_neg]
    intro e
    have := congrArg List.length e
    rw [List.length_take, Nat.min_eq_left (by omega)] at this
    simp at this; omega
theorem joinB_take {α : Type} (b : UInt8) (f : α → List UInt8) {cs : List α} {k : Nat} {c : α} (h : cs[k]? = some c) : joinB b ((cs.take (k + 1)).map f) = joinB b ((cs.take k).map f) ++ ((if k = 0 then [] else [b]) ++ f c) := by
  have hk := (List.getElem?_eq_some_iff.1 h).1
  rw [take_snoc_at h, List.map_append]
  by_cases h0 : k = 0
  · subst h0; simp [joinB]
  · rw [if_neg h0, List.map_cons, List.map_nil, joinB_snoc]
    · simp
    · intro e
      have := congrArg List.length e
      rw [List.length_map, List.length_take, Nat.min_eq_left (by omega)] at this
      simp at this; omega
end Go.Proofs.YtafgincpoahefaaDoor
