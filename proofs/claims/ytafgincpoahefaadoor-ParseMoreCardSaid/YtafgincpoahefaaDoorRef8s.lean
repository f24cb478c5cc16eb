/-
  straggleref08: step, Same. (Printed in part by ref8s_gen.py.)
-/
import Derived.Test.YtafgincpoahefaaDoorRef8b
import Derived.Test.YtafgincpoahefaaDoorLex5
namespace Go.Proofs.YtafgincpoahefaaDoor
open Go.RowKit

theorem ref8_take {α : Type} [DecidableEq α] {s t : List α} {k : Nat} {x : α} (h : s.take k = t.take k) (hs : s[k]? = some x) (ht : t[k]? = some x) : s.take (k + 1) = t.take (k + 1) := by
  rw [List.take_add_one, List.take_add_one, hs, ht, h]

set_option maxRecDepth 100000 in
set_option maxHeartbeats 4000000 in
theorem ref8_cmps_loop (neg : Bool) (kd mn mx : Int) (st : Bool) (cs ds : List Cm) (ca da : Option Addr) (cc dc : Nat) (m : Nat) (hcl : cs.length = m) (hdl : ds.length = m) (hm : m ≤ 9223372036854775807) (w : World) (hc : CmpsAt w ca cs) (hd : CmpsAt w da ds) (hcc : m ≤ cc) (hdc : m ≤ dc) :
    Calls Tryd.prog 77 #[.agg #[.bool neg, .int .i64 kd, .int .i64 mn, .int .i64 mx, .bool st, .slice ca m cc], .agg #[.bool neg, .int .i64 kd, .int .i64 mn, .int .i64 mx, .bool st, .slice da m dc]] w fun e w' => e = .returned (.bool (decide (cs = ds))) ∧ Below w.heap.size w w' := by
  have key : ∀ (wr : World) (k : Nat), Below w.heap.size w wr → k < m → ∃ b off b2 off2 c d, ca = some ⟨b, off, none⟩ ∧ da = some ⟨b2, off2, none⟩ ∧ cs[k]? = some c ∧ ds[k]? = some d ∧
      (wr.cell? ⟨b, off + k * 9, none⟩ = some (.int .u8 c.op) ∧ wr.cell? ⟨b, off + k * 9 + 1, none⟩ = some (.int .u8 c.l.kind) ∧ wr.cell? ⟨b, off + k * 9 + 2, none⟩ = some (.int .i64 c.l.n) ∧
      wr.cell? ⟨b, off + k * 9 + 3, none⟩ = some (.int .i64 c.l.s) ∧ wr.cell? ⟨b, off + k * 9 + 4, none⟩ = some (.int .i64 c.l.r) ∧ wr.cell? ⟨b, off + k * 9 + 5, none⟩ = some (.int .u8 c.r.kind) ∧
      wr.cell? ⟨b, off + k * 9 + 6, none⟩ = some (.int .i64 c.r.n) ∧ wr.cell? ⟨b, off + k * 9 + 7, none⟩ = some (.int .i64 c.r.s) ∧ wr.cell? ⟨b, off + k * 9 + 8, none⟩ = some (.int .i64 c.r.r)) ∧
      (wr.cell? ⟨b2, off2 + k * 9, none⟩ = some (.int .u8 d.op) ∧ wr.cell? ⟨b2, off2 + k * 9 + 1, none⟩ = some (.int .u8 d.l.kind) ∧ wr.cell? ⟨b2, off2 + k * 9 + 2, none⟩ = some (.int .i64 d.l.n) ∧
      wr.cell? ⟨b2, off2 + k * 9 + 3, none⟩ = some (.int .i64 d.l.s) ∧ wr.cell? ⟨b2, off2 + k * 9 + 4, none⟩ = some (.int .i64 d.l.r) ∧ wr.cell? ⟨b2, off2 + k * 9 + 5, none⟩ = some (.int .u8 d.r.kind) ∧
      wr.cell? ⟨b2, off2 + k * 9 + 6, none⟩ = some (.int .i64 d.r.n) ∧ wr.cell? ⟨b2, off2 + k * 9 + 7, none⟩ = some (.int .i64 d.r.s) ∧ wr.cell? ⟨b2, off2 + k * 9 + 8, none⟩ = some (.int .i64 d.r.r)) := by
    intro wr k hb hk
    obtain ⟨b, off, e, h1⟩ := (hc.mono hb (Nat.le_refl _)).get k (by omega)
    obtain ⟨b2, off2, e2, h2⟩ := (hd.mono hb (Nat.le_refl _)).get k (by omega)
    exact ⟨b, off, b2, off2, _, _, e, e2, List.getElem?_eq_getElem (by omega), List.getElem?_eq_getElem (by omega), h1, h2⟩
  have hyes : cs.take m = ds.take m → decide (cs = ds) = true := fun h => by
    rw [List.take_of_length_le (by omega), List.take_of_length_le (by omega)] at h
    simpa using h
  have hno : ∀ (k : Nat) (x y : Cm), cs[k]? = some x → ds[k]? = some y → x ≠ y → decide (cs = ds) = false := fun k x y h1 h2 h3 => by
    rw [decide_eq_false_iff_not]
    rintro rfl
    rw [h1] at h2
    exact h3 (Option.some.inj h2)
  have z0 := (Holds.fresh w 27 #[.bool neg, .int .i64 kd, .int .i64 mn, .int .i64 mx, .bool st, .slice ca m cc]).alloc (.cells #[.bool neg, .int .i64 kd, .int .i64 mn, .int .i64 mx, .bool st, .slice da m dc] 27)
  have z1 := Holds.fresh' (w := w.alloc (.cells #[.bool neg, .int .i64 kd, .int .i64 mn, .int .i64 mx, .bool st, .slice ca m cc] 27)) (b := w.heap.size + 1) (by simp) 27 #[.bool neg, .int .i64 kd, .int .i64 mn, .int .i64 mx, .bool st, .slice da m dc]
  have hb0 := ((Below.refl w.heap.size w).alloc (Nat.le_refl _) (.cells #[.bool neg, .int .i64 kd, .int .i64 mn, .int .i64 mx, .bool st, .slice ca m cc] 27)).alloc (by simp) (.cells #[.bool neg, .int .i64 kd, .int .i64 mn, .int .i64 mx, .bool st, .slice da m dc] 27)
  have HK := Lib.hid key; clear key
  have HY := Lib.hid hyes; clear hyes
  have HN := Lib.hid hno; clear hno
  have Z0 := Lib.hid z0; clear z0
  have Z1 := Lib.hid z1; clear z1
  have HB0 := Lib.hid hb0; clear hb0
  clear hcl hdl hc hd
  go_enter Tryd.func77, Tryd.ntmps77
  go_wp2_with fail
  generalize (w.alloc (.cells #[.bool neg, .int .i64 kd, .int .i64 mn, .int .i64 mx, .bool st, .slice ca m cc] 27)).alloc (.cells #[.bool neg, .int .i64 kd, .int .i64 mn, .int .i64 mx, .bool st, .slice da m dc] 27) = W at *
  go_loopw [5] (fun i wr => ∃ (k n : Nat), k ≤ m ∧ i = .int .i64 k ∧ Hid (cs.take k = ds.take k) ∧ wr = W.drewN n) (fun i _ => m - (intOf i).toNat)
  case atStart => exact ⟨0, 0, Nat.zero_le _, rfl, Lib.hid (by simp), rfl⟩
  case round =>
    obtain ⟨k, n, hk, rfl, HT, rfl⟩ := hrel
    have y0 : W.cell? ⟨w.heap.size, 5, none⟩ = some (.slice ca m cc) := Z0.out.cell 5
    have y1 : W.cell? ⟨w.heap.size + 1, 5, none⟩ = some (.slice da m dc) := Z1.out.cell 5
    by_cases hlt : k < m
    · obtain ⟨b, off, b2, off2, c, d, rfl, rfl, hs, ht, ⟨p0, p1, p2, p3, p4, p5, p6, p7, p8⟩, ⟨q0, q1, q2, q3, q4, q5, q6, q7, q8⟩⟩ := HK.out W k HB0.out hlt
      have HS := Lib.hid hs; clear hs
      have HU := Lib.hid ht; clear ht
      obtain ⟨o1, ⟨k1, n1, s1, r1⟩, ⟨u1, v1, x1, z1⟩⟩ := c
      obtain ⟨o2, ⟨k2, n2, s2, r2⟩, ⟨u2, v2, x2, z2⟩⟩ := d
      simp only at p0 p1 p2 p3 p4 p5 p6 p7 p8 q0 q1 q2 q3 q4 q5 q6 q7 q8
      by_cases e0 : o1 = o2
      rotate_left
      · have HF := Lib.hid (HN.out k _ _ HS.out HU.out (fun h => e0 (Cm.mk.inj h).1))
        clear HN HY HT HS HU HK
        go_wp2_with fail
        go_quiet (fail)
        go_wp2_with fail
        go_ret
        exact ⟨by rw [HF.out]; rfl, HB0.out.trans (below_drewN _ _ _ |>.trans (below_drewN _ _ _))⟩
      subst e0
      by_cases e1 : k1 = k2
      rotate_left
      · have HF := Lib.hid (HN.out k _ _ HS.out HU.out (fun h => e1 (Tm.mk.inj (Cm.mk.inj h).2.1).1))
        clear HN HY HT HS HU HK
        go_wp2_with fail
        go_quiet (fail)
        go_wp2_with fail
        go_ret
        exact ⟨by rw [HF.out]; rfl, HB0.out.trans (below_drewN _ _ _ |>.trans (below_drewN _ _ _))⟩
      subst e1
      by_cases e2 : n1 = n2
      rotate_left
      · have HF := Lib.hid (HN.out k _ _ HS.out HU.out (fun h => e2 (Tm.mk.inj (Cm.mk.inj h).2.1).2.1))
        clear HN HY HT HS HU HK
        go_wp2_with fail
        go_quiet (fail)
        go_wp2_with fail
        go_ret
        exact ⟨by rw [HF.out]; rfl, HB0.out.trans (below_drewN _ _ _ |>.trans (below_drewN _ _ _))⟩
      subst e2
      by_cases e3 : s1 = s2
      rotate_left
      · have HF := Lib.hid (HN.out k _ _ HS.out HU.out (fun h => e3 (Tm.mk.inj (Cm.mk.inj h).2.1).2.2.1))
        clear HN HY HT HS HU HK
        go_wp2_with fail
        go_quiet (fail)
        go_wp2_with fail
        go_ret
        exact ⟨by rw [HF.out]; rfl, HB0.out.trans (below_drewN _ _ _ |>.trans (below_drewN _ _ _))⟩
      subst e3
      by_cases e4 : r1 = r2
      rotate_left
      · have HF := Lib.hid (HN.out k _ _ HS.out HU.out (fun h => e4 (Tm.mk.inj (Cm.mk.inj h).2.1).2.2.2))
        clear HN HY HT HS HU HK
        go_wp2_with fail
        go_quiet (fail)
        go_wp2_with fail
        go_ret
        exact ⟨by rw [HF.out]; rfl, HB0.out.trans (below_drewN _ _ _ |>.trans (below_drewN _ _ _))⟩
      subst e4
      by_cases e5 : u1 = u2
      rotate_left
      · have HF := Lib.hid (HN.out k _ _ HS.out HU.out (fun h => e5 (Tm.mk.inj (Cm.mk.inj h).2.2).1))
        clear HN HY HT HS HU HK
        go_wp2_with fail
        go_quiet (fail)
        go_wp2_with fail
        go_ret
        exact ⟨by rw [HF.out]; rfl, HB0.out.trans (below_drewN _ _ _ |>.trans (below_drewN _ _ _))⟩
      subst e5
      by_cases e6 : v1 = v2
      rotate_left
      · have HF := Lib.hid (HN.out k _ _ HS.out HU.out (fun h => e6 (Tm.mk.inj (Cm.mk.inj h).2.2).2.1))
        clear HN HY HT HS HU HK
        go_wp2_with fail
        go_quiet (fail)
        go_wp2_with fail
        go_ret
        exact ⟨by rw [HF.out]; rfl, HB0.out.trans (below_drewN _ _ _ |>.trans (below_drewN _ _ _))⟩
      subst e6
      by_cases e7 : x1 = x2
      rotate_left
      · have HF := Lib.hid (HN.out k _ _ HS.out HU.out (fun h => e7 (Tm.mk.inj (Cm.mk.inj h).2.2).2.2.1))
        clear HN HY HT HS HU HK
        go_wp2_with fail
        go_quiet (fail)
        go_wp2_with fail
        go_ret
        exact ⟨by rw [HF.out]; rfl, HB0.out.trans (below_drewN _ _ _ |>.trans (below_drewN _ _ _))⟩
      subst e7
      by_cases e8 : z1 = z2
      rotate_left
      · have HF := Lib.hid (HN.out k _ _ HS.out HU.out (fun h => e8 (Tm.mk.inj (Cm.mk.inj h).2.2).2.2.2))
        clear HN HY HT HS HU HK
        go_wp2_with fail
        go_quiet (fail)
        go_wp2_with fail
        go_ret
        exact ⟨by rw [HF.out]; rfl, HB0.out.trans (below_drewN _ _ _ |>.trans (below_drewN _ _ _))⟩
      subst e8
      go_wp2_with fail
      go_quiet (fail)
      go_wp2_with fail
      go_roundw
      case rel => exact ⟨k + 1, _, by omega, by go_num, Lib.hid (ref8_take HT.out HS.out HU.out), rfl⟩
      case measure => simp [intOf]; omega
    · obtain rfl : k = m := by omega
      have HF := Lib.hid (HY.out HT.out)
      go_wp2_with fail
      go_ret
      exact ⟨by rw [HF.out]; rfl, HB0.out.trans (below_drewN _ _ _)⟩
end Go.Proofs.YtafgincpoahefaaDoor
