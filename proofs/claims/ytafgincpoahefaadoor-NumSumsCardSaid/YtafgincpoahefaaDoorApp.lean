/-
  Appending a slice of integers that reads in memory, a nil one too, to a slice of the call's own.
-/
import Derived.Test.YtafgincpoahefaaDoorBase
import Derived.Laws.AppendOwnNone
import Derived.Laws.OwnMore
namespace Go.Proofs.YtafgincpoahefaaDoor
open Go.RowKit

theorem IntsAt.news {w : World} {kd : IntKind} {ad : Addr} {l : List Int} (h : IntsAt w kd (some ad) l) : ∀ j u, (l.map (Value.int kd))[j]? = some u → w.cell? (ad.add j) = some u := by
  intro j u hu
  obtain ⟨_, rfl | ⟨b, off, ha, hc⟩⟩ := h
  · simp at hu
  · obtain rfl := Option.some.inj ha
    have hj : j < l.length := by
      have := (List.getElem?_eq_some_iff.1 hu).1
      simpa using this
    rw [Go.WideShapes.add_plain, hc j hj]
    simp [hj] at hu ⊢
    exact hu

theorem wpList_append_ints {P : Program} {w : World} {ops : Array Oper} {rest : List Oper} {o : Oper} {a : Act} {Q : Exit → Act → World → Prop} (hgd : o.guard = none) (s x : Operand) (t : TypeId)
    (ho : o.op = .call { callee := .builtin .append, args := #[s, x], argTypes := #[t, t] })
    (base : Nat) (e : TypeId) (i : TypeInfo) (z : Value) (bytes : Nat) (ht : P.underlying t = some (.slice e)) (hi : P.info? e = some i) (hz : i.zero = some z)
    (hsize : i.size = 1) (hby : i.bytes = bytes) (hzs : z.cells.size = 1) (kd : IntKind)
    (v : Value) (n : Nat) (xs : List Value) (hs : a.eval s = v) (hown : w.ownsRow base e 1 v n xs)
    (src : Option Addr) (m c : Nat) (l : List Int) (hx : a.eval x = .slice src m c) (hm : l.length = m) (hsrc : IntsAt w kd src l) (hnil : src = none → c = 0)
    (h63 : n + m ≤ maxLen) (hbytes : (n + m) * bytes ≤ 140737488355328) (hbase : base ≤ w.heap.size)
    (h : ∀ v' w', w'.ownsRow base e 1 v' (n + m) (xs ++ l.map (Value.int kd)) → w.grownBy w' v.ownBlock → wpList P ops Q rest (a.put o.dst v') w') : wpList P ops Q (o :: rest) a w := by
  cases src with
  | none =>
    have hl : l = [] := by
      rcases hsrc.2 with h | ⟨b, off, ha, _⟩
      · exact h
      · cases ha
    subst hl
    obtain rfl : m = 0 := by simpa using hm.symm
    obtain rfl := hnil rfl
    refine wpList_append_own_none hgd s x t ho base e i 1 ht hi v n xs hs hown hx (h v w ?_ ⟨rfl, rfl, rfl, Nat.le_refl _, fun _ _ _ => rfl⟩)
    simpa using hown
  | some ad =>
    exact wpList_append_own _ hgd s x t ho base e i z 1 bytes ht hi hz hsize hby hzs (by decide) v n xs hs hown ad m c (l.map (Value.int kd)) hx (by simp [hm]) hsrc.news (by simp [Value.oneCell']) h63 hbytes hbase
      (fun v' w' h1 h2 _ => h v' w' h1 h2)

theorem IntsAt.drop {w : World} {kd : IntKind} {b off : Nat} {l : List Int} (h : IntsAt w kd (some ⟨b, off, none⟩) l) (k : Nat) : IntsAt w kd (some ⟨b, off + k, none⟩) (l.drop k) := by
  obtain ⟨h1, h2⟩ := h
  refine ⟨by simp; omega, ?_⟩
  rcases h2 with rfl | ⟨b', off', ha, hc⟩
  · exact .inl (by simp)
  · obtain ⟨rfl, rfl⟩ : b = b' ∧ off = off' := by simpa using ha
    refine .inr ⟨b, off + k, rfl, fun i hi => ?_⟩
    simp only [List.length_drop] at hi
    rw [show off + k + i = off + (k + i) from by omega, hc (k + i) (by omega)]
    simp [List.getD_eq_getElem?_getD]
theorem IntsAt.none (w : World) (kd : IntKind) (a : Option Addr) : IntsAt w kd a [] := ⟨by simp, .inl rfl⟩
end Go.Proofs.YtafgincpoahefaaDoor
