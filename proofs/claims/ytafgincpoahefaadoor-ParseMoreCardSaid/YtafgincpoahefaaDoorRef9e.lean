/-
  straggleref09: cmp.
-/
import Derived.Test.YtafgincpoahefaaDoorRef9d
namespace Go.Proofs.YtafgincpoahefaaDoor
open Go.RowKit
attribute [local go_sem] Oper.semAt_some

theorem pCmp_eq (l : List Tok) : pCmp l = thenR (pTerm l) fun a l => thenR (pTake 4 l) fun op l => thenR (pTerm l) fun b l => .ok (⟨op, a, b⟩, l) := rfl
theorem S9.alloc {w W : World} {ts : List Tok} {b blk off cap rb tb at0 : Nat} {rt tt : TypeId} {rc tc : Array Value} {bad : Bool} (h : S9 w ts b blk off cap rt tt rb tb rc tc at0 bad W) (o : Obj) : S9 w ts b blk off cap rt tt rb tb rc tc at0 bad (W.alloc o) :=
  ⟨h.p.alloc o, h.r.alloc o, h.t.alloc o, h.g.trans (World.grownBy_alloc _ _ _), h.n1, h.n2⟩
set_option maxRecDepth 100000 in
set_option maxHeartbeats 8000000 in
theorem ref9_cmp (ts : List Tok) (b blk off cap at0 : Nat) (bad : Bool) (hlt : at0 < ts.length) (w : World) (h : P9 ts b blk off cap at0 bad w) :
    Calls Tryd.prog 106 #[.pointer (some ⟨b, 0, none⟩)] w (R9 ts b blk off cap at0 bad (pCmp (ts.drop at0)) w fun c => .agg (cmV c).toArray) := by
  have hb0 := (Below.refl w.heap.size w).alloc (Nat.le_refl _) (.cells #[.int .u8 0, .int .u8 0, .int .i64 0, .int .i64 0, .int .i64 0, .int .u8 0, .int .i64 0, .int .i64 0, .int .i64 0] 31)
  have hP0 := h.later hb0
  have z0 := Holds.fresh w 31 #[.int .u8 0, .int .u8 0, .int .i64 0, .int .i64 0, .int .i64 0, .int .u8 0, .int .i64 0, .int .i64 0, .int .i64 0]
  have hbl := h.hold.size
  have hkl := h.blk_lt hlt
  have c1 := ref9_term ts b blk off cap at0 bad hlt _ hP0
  have C1 := Lib.hid c1; clear c1
  have H0 := Lib.hid hP0; clear hP0
  have Z0 := Lib.hid z0; clear z0
  have HB0 := Lib.hid hb0; clear hb0
  clear h
  go_enter Tryd.func106, Tryd.ntmps106
  go_wp2_with fail
  refine C1.out.mono ?_
  rintro e w1 ⟨⟨k1, n1, s1, r1⟩, a1, d1, rfl, o1, p1, g1⟩
  simp only [tmV]
  have zz : Holds w1 w.heap.size 31 #[.int .u8 0, .int .u8 0, .int .i64 0, .int .i64 0, .int .i64 0, .int .u8 0, .int .i64 0, .int .i64 0, .int .i64 0] := Z0.out.grown g1 (fun e => by have := Option.some.inj e; omega)
  have hg := (grown_of_below' HB0.out (some b)).trans g1
  have s1' : S9 w ts b blk off cap 31 29 w.heap.size w1.heap.size #[.int .u8 0, .int .u8 0, .int .i64 0, .int .i64 0, .int .i64 0, .int .u8 0, .int .i64 0, .int .i64 0, .int .i64 0] #[.int .u8 k1, .int .i64 n1, .int .i64 s1, .int .i64 r1] a1 d1 (w1.alloc (.cells #[.int .u8 k1, .int .i64 n1, .int .i64 s1, .int .i64 r1] 29)) :=
    ⟨p1.alloc _, zz.alloc _, Holds.fresh _ _ _, hg.trans (World.grownBy_alloc _ _ _), ⟨hbl, hkl⟩, Nat.le_refl _, hg.size, by have := zz.size; omega⟩
  have S1 := Lib.hid s1'
  have O1 := Lib.hid o1
  have l1 := o1.lt
  clear s1' o1 p1 g1 zz hg
  have c2 := ref9_mustn ts b blk off cap a1 d1 l1 4 (by omega) (by omega) _ S1.out.p
  have C2 := Lib.hid c2; clear c2
  go_wp2_with fail
  refine C2.out.mono ?_
  rintro e w2 ⟨x2, a2, d2, rfl, ⟨hx0, hx1, hx4⟩, o2, p2, g2⟩
  have hx7 := hx4 rfl
  have S2 := Lib.hid (S1.out.move p2 g2)
  have O2 := Lib.hid o2
  have l2 := o2.lt
  clear o2 p2 g2 hx4
  have c3 := ref9_term ts b blk off cap a2 d2 l2 _ S2.out.p
  have C3 := Lib.hid c3; clear c3
  go_wp2_with fail
  refine C3.out.mono ?_
  rintro e w3 ⟨⟨k3, n3, s3, r3⟩, a3, d3, rfl, o3, p3, g3⟩
  simp only [tmV]
  have s3' := S2.out.move p3 g3
  generalize w1.heap.size = tb at *
  have z0 : w3.cell? ⟨tb, 0, none⟩ = some (.int .u8 k1) := s3'.t.cell 0
  have z1 : w3.cell? ⟨tb, 1, none⟩ = some (.int .i64 n1) := s3'.t.cell 1
  have z2 : w3.cell? ⟨tb, 2, none⟩ = some (.int .i64 s1) := s3'.t.cell 2
  have z3 : w3.cell? ⟨tb, 3, none⟩ = some (.int .i64 r1) := s3'.t.cell 3
  have zl := s3'.t.size
  have v0 : w3.cell? ⟨w.heap.size, 0, none⟩ = some (.int .u8 0) := s3'.r.cell 0
  have v1 : w3.cell? ⟨w.heap.size, 1, none⟩ = some (.int .u8 0) := s3'.r.cell 1
  have v2 : w3.cell? ⟨w.heap.size, 2, none⟩ = some (.int .i64 0) := s3'.r.cell 2
  have v3 : w3.cell? ⟨w.heap.size, 3, none⟩ = some (.int .i64 0) := s3'.r.cell 3
  have v4 : w3.cell? ⟨w.heap.size, 4, none⟩ = some (.int .i64 0) := s3'.r.cell 4
  have v5 : w3.cell? ⟨w.heap.size, 5, none⟩ = some (.int .u8 0) := s3'.r.cell 5
  have v6 : w3.cell? ⟨w.heap.size, 6, none⟩ = some (.int .i64 0) := s3'.r.cell 6
  have v7 : w3.cell? ⟨w.heap.size, 7, none⟩ = some (.int .i64 0) := s3'.r.cell 7
  have v8 : w3.cell? ⟨w.heap.size, 8, none⟩ = some (.int .i64 0) := s3'.r.cell 8
  have vf := s3'.r.free
  have vl := s3'.r.size
  have S3 := Lib.hid s3'
  have O3 := Lib.hid o3
  clear s3' o3 p3 g3 C1 C2 C3 H0 Z0 HB0 S1 S2
  go_wp2_with fail
  have sf := (((((((((S3.out.setR 0 (.int .u8 x2)).setR 1 (.int .u8 k1)).setR 2 (.int .i64 n1)).setR 3 (.int .i64 s1)).setR 4 (.int .i64 r1)).setR 5 (.int .u8 k3)).setR 6 (.int .i64 n3)).setR 7 (.int .i64 s3)).setR 8 (.int .i64 r3)).alloc (.cells #[.int .u8 k3, .int .i64 n3, .int .i64 s3, .int .i64 r3] 29)
  refine bodyPost_ret (results_one9 rfl _ _ w.heap.size 31 #[.int .u8 x2, .int .u8 k1, .int .i64 n1, .int .i64 s1, .int .i64 r1, .int .u8 k3, .int .i64 n3, .int .i64 s3, .int .i64 r3] _ rfl sf.r Tryd.underlying31 rfl (by kernel_rfl)) rfl ?_
  refine ⟨⟨x2, ⟨k1, n1, s1, r1⟩, ⟨k3, n3, s3, r3⟩⟩, a3, d3, rfl, ?_, sf.p, sf.g⟩
  rw [pCmp_eq]
  exact O1.out.seq (f := fun a l => thenR (pTake 4 l) fun op l => thenR (pTerm l) fun b l => .ok ((⟨op, a, b⟩ : Cm), l)) (O2.out.seq (f := fun op l => thenR (pTerm l) fun b l => .ok ((⟨op, ⟨k1, n1, s1, r1⟩, b⟩ : Cm), l)) (O3.out.step (fun b => (⟨x2, ⟨k1, n1, s1, r1⟩, b⟩ : Cm))))
end Go.Proofs.YtafgincpoahefaaDoor
