/- Lemmas. -/
import Derived.Test.YtajlahjghapbkaaGreatRows
import Derived.Test.YtajlahjghapbkaaGreatPIntegralsM20
import Derived.Test.YtajlahjghapbkaaGreatPIntegralsM22
namespace Go.Proofs.YtajlahjghapbkaaGreat
section
open Go.RowKit

theorem blk_put6 {w : World} {g : Nat} {T : TypeId} {cs : Array Value} (hB : Blk w g T cs) (i : Nat) (u0 u1 u2 u3 u4 u5 : Value) (h : i + 5 < cs.size) :
    ∃ cs', Blk ((((((w.setCell ⟨g, i, none⟩ u0).setCell ⟨g, i + 1, none⟩ u1).setCell ⟨g, i + 2, none⟩ u2).setCell ⟨g, i + 3, none⟩ u3).setCell ⟨g, i + 4, none⟩ u4).setCell ⟨g, i + 5, none⟩ u5) g T cs' ∧ cs'[i]? = some u0 ∧ cs'[i + 1]? = some u1 ∧ cs'[i + 2]? = some u2 ∧ cs'[i + 3]? = some u3 ∧ cs'[i + 4]? = some u4 ∧ cs'[i + 5]? = some u5 ∧ (∀ q, q < i ∨ i + 5 < q → cs'[q]? = cs[q]?) := by
  refine ⟨_, (((((hB.set_ i u0).set_ (i + 1) u1).set_ (i + 2) u2).set_ (i + 3) u3).set_ (i + 4) u4).set_ (i + 5) u5, ?_⟩
  obtain ⟨a0, a1, a2, a3, a4, a5⟩ := set6_at (cs := cs) (i := i) (x0 := u0) (x1 := u1) (x2 := u2) (x3 := u3) (x4 := u4) (x5 := u5) h _ rfl
  exact ⟨a0, a1, a2, a3, a4, a5, fun q hq => set6_far hq⟩

set_option maxRecDepth 100000 in
set_option maxHeartbeats 4000000 in
theorem Clone3_any (w : World) {g c0 : Nat} {news : List Value} (hl : news.length = 3 * 6) (h1 : ∀ u ∈ news, u.oneCell' = true) (hg : g < w.heap.size) (hn : ∀ j u, news[j]? = some u → w.cell? ((⟨g, 0, none⟩ : Addr).add j) = some u) :
    Calls Tryz.prog 148 #[.slice (some ⟨g, 0, none⟩) 3 c0] w fun e w' => ∃ h c1 cs, e = .returned (.slice (some ⟨h, 0, none⟩) 3 c1) ∧ 3 ≤ c1 ∧ w.heap.size ≤ h ∧ Blk w' h 31 cs ∧ 18 ≤ cs.size ∧ (∀ i, i < 18 → cs[i]? = news[i]?) ∧ Bl w w' := by
  obtain ⟨i0, hi0, hz0, hz1, hz2⟩ := info_parts info_pt
  have hnb : ∀ W : World, Sem.run Tryz.prog (binOp BinOp.eql 23 (.slice (some ⟨g, 0, none⟩) 3 c0) (.slice none 0 0)) W = .ok (.bool false) W := fun _ => by kernel_rfl
  have hn2 : ∀ j u, news[j]? = some u → (w.alloc (.cells #[] 31)).cell? ((⟨g, 0, none⟩ : Addr).add j) = some u := fun j u hj => by
    rw [← hn j u hj]
    exact Bl.cellOf (w := w) ((Bl.refl w).alloc _) (by unfold Addr.add; split <;> exact hg)
  go_enter Tryz.func148, Tryz.ntmps148
  go_wp2_with ((refine wpList_append_own_at _ rfl (.tmp 5) (.tmp 6) 23 rfl w.heap.size 31 i0 _ 6 112 Tryz.underlying23 hi0 hz0 hz1 hz2 (by rfl) (by omega) (.slice (some ⟨w.heap.size, 0, none⟩) 0 0) 0 [] (by rfl) (World.ownsRow_made w #[] 0 (Nat.le_refl _) (Nat.zero_le _) (by simp)) ⟨g, 0, none⟩ 3 c0 news (by rfl) hl hn2 h1 (by unfold maxLen; omega) (by omega) (by simp) ?_); intro v' w1 g1 g2 g3 g4)
  have hw : Bl w w1 := ((Bl.refl w).alloc (.cells #[] 31)).grown g2 (fun k e => by injection e with e; simp only at e; omega)
  rcases g1.2 with ⟨_, h0⟩ | ⟨h, cap, cur, rfl, hg1, hh, hnc, hcap, hcs, ht⟩
  · exact absurd h0 (by omega)
  · go_wp2_with fail
    go_ret
    refine ⟨h, cap, cur, rfl, by omega, hg1, hh, by omega, fun i hi => ?_, hw⟩
    have e1 : (cur.toList.take ((0 + 3) * 6))[i]? = news[i]? := by rw [ht]; rfl
    rw [← e1]
    simp [hi]

set_option maxRecDepth 100000 in
set_option maxHeartbeats 16000000 in
theorem replaced0_any (w : World) {g c0 : Nat} {p0 p1 p2 : PtD} (h : RdPS w (some ⟨g, 0, none⟩) 3 c0 [p0, p1, p2]) {s3 : Bool} {A3 : Option Addr} {n3 c3 : Nat} {B3 : Option Addr} {m3 d3 : Nat} {t3 : Bool} {C3 : Option Addr} {i3 e3 : Nat} {D3 : Option Addr} {j3 f3 : Nat} {q : PtD} (hx : RdR w s3 A3 n3 c3 B3 m3 d3 q.x) (hy : RdR w t3 C3 i3 e3 D3 j3 f3 q.y) :
    Calls Tryz.prog 74 #[.slice (some ⟨g, 0, none⟩) 3 c0, .int .i64 0, .agg #[.bool s3, .slice A3 n3 c3, .slice B3 m3 d3, .bool t3, .slice C3 i3 e3, .slice D3 j3 f3]] w fun en w' => ∃ h c1, en = .returned (.slice (some ⟨h, 0, none⟩) 3 c1) ∧ RdPS w' (some ⟨h, 0, none⟩) 3 c1 [q, p1, p2] ∧ w.heap.size ≤ h ∧ Bl w w' := by
  obtain ⟨_, e0, hg, hc0⟩ := h.cells 0 (by omega)
  cases e0
  rw [Addr.add_lit] at hc0
  obtain ⟨s, A, n, c, B, m, d, t, C, i, e, D, j, f, ⟨x0, x1, x2, x3, x4, x5⟩, hX0, hY0⟩ := (show PtAt w ⟨g, 0, none⟩ p0 from hc0)
  have x0 : w.cell? ⟨g, 0, none⟩ = some (.bool s) := x0
  have x1 : w.cell? ⟨g, 1, none⟩ = some (.slice A n c) := x1
  have x2 : w.cell? ⟨g, 2, none⟩ = some (.slice B m d) := x2
  have x3 : w.cell? ⟨g, 3, none⟩ = some (.bool t) := x3
  have x4 : w.cell? ⟨g, 4, none⟩ = some (.slice C i e) := x4
  have x5 : w.cell? ⟨g, 5, none⟩ = some (.slice D j f) := x5
  obtain ⟨_, e0, hg, hc1⟩ := h.cells 1 (by omega)
  cases e0
  rw [Addr.add_lit] at hc1
  obtain ⟨s', A', n', c', B', m', d', t', C', i', e', D', j', f', ⟨y0, y1, y2, y3, y4, y5⟩, hX1, hY1⟩ := (show PtAt w ⟨g, 6, none⟩ p1 from hc1)
  have y0 : w.cell? ⟨g, 6, none⟩ = some (.bool s') := y0
  have y1 : w.cell? ⟨g, 7, none⟩ = some (.slice A' n' c') := y1
  have y2 : w.cell? ⟨g, 8, none⟩ = some (.slice B' m' d') := y2
  have y3 : w.cell? ⟨g, 9, none⟩ = some (.bool t') := y3
  have y4 : w.cell? ⟨g, 10, none⟩ = some (.slice C' i' e') := y4
  have y5 : w.cell? ⟨g, 11, none⟩ = some (.slice D' j' f') := y5
  obtain ⟨_, e0, hg, hc2⟩ := h.cells 2 (by omega)
  cases e0
  rw [Addr.add_lit] at hc2
  obtain ⟨s2, A2, n2, c2, B2, m2, d2, t2, C2, i2, e2, D2, j2, f2, ⟨z0, z1, z2, z3, z4, z5⟩, hX2, hY2⟩ := (show PtAt w ⟨g, 12, none⟩ p2 from hc2)
  have z0 : w.cell? ⟨g, 12, none⟩ = some (.bool s2) := z0
  have z1 : w.cell? ⟨g, 13, none⟩ = some (.slice A2 n2 c2) := z1
  have z2 : w.cell? ⟨g, 14, none⟩ = some (.slice B2 m2 d2) := z2
  have z3 : w.cell? ⟨g, 15, none⟩ = some (.bool t2) := z3
  have z4 : w.cell? ⟨g, 16, none⟩ = some (.slice C2 i2 e2) := z4
  have z5 : w.cell? ⟨g, 17, none⟩ = some (.slice D2 j2 f2) := z5
  clear hc0 hc1 hc2
  go_enter Tryz.func74, Tryz.ntmps74
  go_wp2_with fail
  have hal : Bl w (w.alloc (.cells #[.bool s3, .slice A3 n3 c3, .slice B3 m3 d3, .bool t3, .slice C3 i3 e3, .slice D3 j3 f3] 31)) := (Bl.refl w).alloc _
  have hB0 : Blk (w.alloc (.cells #[.bool s3, .slice A3 n3 c3, .slice B3 m3 d3, .bool t3, .slice C3 i3 e3, .slice D3 j3 f3] 31)) w.heap.size 31 #[.bool s3, .slice A3 n3 c3, .slice B3 m3 d3, .bool t3, .slice C3 i3 e3, .slice D3 j3 f3] := Blk.new _ _ _
  refine (Clone3_any (news := [.bool s, .slice A n c, .slice B m d, .bool t, .slice C i e, .slice D j f, .bool s', .slice A' n' c', .slice B' m' d', .bool t', .slice C' i' e', .slice D' j' f', .bool s2, .slice A2 n2 c2, .slice B2 m2 d2, .bool t2, .slice C2 i2 e2, .slice D2 j2 f2]) _ rfl (by simp [Value.oneCell']) (Nat.lt_of_lt_of_le hg hal.size) (fun j u hj => ?_)).mono ?_
  · match j, hj with
    | 0, hj => exact (Bl.cellOf (w := w) (p := ⟨g, 0, none⟩) hal hg).trans (((show w.cell? ⟨g, 0, none⟩ = _ from x0).trans hj))
    | 1, hj => exact (Bl.cellOf (w := w) (p := ⟨g, 1, none⟩) hal hg).trans (((show w.cell? ⟨g, 1, none⟩ = _ from x1).trans hj))
    | 2, hj => exact (Bl.cellOf (w := w) (p := ⟨g, 2, none⟩) hal hg).trans (((show w.cell? ⟨g, 2, none⟩ = _ from x2).trans hj))
    | 3, hj => exact (Bl.cellOf (w := w) (p := ⟨g, 3, none⟩) hal hg).trans (((show w.cell? ⟨g, 3, none⟩ = _ from x3).trans hj))
    | 4, hj => exact (Bl.cellOf (w := w) (p := ⟨g, 4, none⟩) hal hg).trans (((show w.cell? ⟨g, 4, none⟩ = _ from x4).trans hj))
    | 5, hj => exact (Bl.cellOf (w := w) (p := ⟨g, 5, none⟩) hal hg).trans (((show w.cell? ⟨g, 5, none⟩ = _ from x5).trans hj))
    | 6, hj => exact (Bl.cellOf (w := w) (p := ⟨g, 6, none⟩) hal hg).trans (((show w.cell? ⟨g, 6, none⟩ = _ from y0).trans hj))
    | 7, hj => exact (Bl.cellOf (w := w) (p := ⟨g, 7, none⟩) hal hg).trans (((show w.cell? ⟨g, 7, none⟩ = _ from y1).trans hj))
    | 8, hj => exact (Bl.cellOf (w := w) (p := ⟨g, 8, none⟩) hal hg).trans (((show w.cell? ⟨g, 8, none⟩ = _ from y2).trans hj))
    | 9, hj => exact (Bl.cellOf (w := w) (p := ⟨g, 9, none⟩) hal hg).trans (((show w.cell? ⟨g, 9, none⟩ = _ from y3).trans hj))
    | 10, hj => exact (Bl.cellOf (w := w) (p := ⟨g, 10, none⟩) hal hg).trans (((show w.cell? ⟨g, 10, none⟩ = _ from y4).trans hj))
    | 11, hj => exact (Bl.cellOf (w := w) (p := ⟨g, 11, none⟩) hal hg).trans (((show w.cell? ⟨g, 11, none⟩ = _ from y5).trans hj))
    | 12, hj => exact (Bl.cellOf (w := w) (p := ⟨g, 12, none⟩) hal hg).trans (((show w.cell? ⟨g, 12, none⟩ = _ from z0).trans hj))
    | 13, hj => exact (Bl.cellOf (w := w) (p := ⟨g, 13, none⟩) hal hg).trans (((show w.cell? ⟨g, 13, none⟩ = _ from z1).trans hj))
    | 14, hj => exact (Bl.cellOf (w := w) (p := ⟨g, 14, none⟩) hal hg).trans (((show w.cell? ⟨g, 14, none⟩ = _ from z2).trans hj))
    | 15, hj => exact (Bl.cellOf (w := w) (p := ⟨g, 15, none⟩) hal hg).trans (((show w.cell? ⟨g, 15, none⟩ = _ from z3).trans hj))
    | 16, hj => exact (Bl.cellOf (w := w) (p := ⟨g, 16, none⟩) hal hg).trans (((show w.cell? ⟨g, 16, none⟩ = _ from z4).trans hj))
    | 17, hj => exact (Bl.cellOf (w := w) (p := ⟨g, 17, none⟩) hal hg).trans (((show w.cell? ⟨g, 17, none⟩ = _ from z5).trans hj))
    | n + 18, hj => simp at hj
  rintro e w1 ⟨h, c1, cs, rfl, hc1, hh, hB, hcs, hv, hb1⟩
  have hb2 := hal.next hb1
  have hz1 := hb2.size
  have hlt := hB.lt
  have hwh : w.heap.size ≤ h := Nat.le_trans hal.size hh
  have hB0 := hB0.bl hb1
  obtain ⟨r0, r1, r2, r3, r4, r5⟩ := bx6 hB0
  have fz0 := hB.frozen 0
  have fz1 := hB.frozen 1
  have fz2 := hB.frozen 2
  have fz3 := hB.frozen 3
  have fz4 := hB.frozen 4
  have fz5 := hB.frozen 5
  obtain ⟨u0, k0⟩ : ∃ u, w1.cell? ⟨h, 0, none⟩ = some u := ⟨_, (hB.cell 0).trans (hv 0 (by omega))⟩
  obtain ⟨u1, k1⟩ : ∃ u, w1.cell? ⟨h, 1, none⟩ = some u := ⟨_, (hB.cell 1).trans (hv 1 (by omega))⟩
  obtain ⟨u2, k2⟩ : ∃ u, w1.cell? ⟨h, 2, none⟩ = some u := ⟨_, (hB.cell 2).trans (hv 2 (by omega))⟩
  obtain ⟨u3, k3⟩ : ∃ u, w1.cell? ⟨h, 3, none⟩ = some u := ⟨_, (hB.cell 3).trans (hv 3 (by omega))⟩
  obtain ⟨u4, k4⟩ : ∃ u, w1.cell? ⟨h, 4, none⟩ = some u := ⟨_, (hB.cell 4).trans (hv 4 (by omega))⟩
  obtain ⟨u5, k5⟩ : ∃ u, w1.cell? ⟨h, 5, none⟩ = some u := ⟨_, (hB.cell 5).trans (hv 5 (by omega))⟩
  clear hal
  have hv := Lib.hid hv; rename_i h_; clear h_
  clear x0 x1 x2 x3 x4 x5 y0 y1 y2 y3 y4 y5 z0 z1 z2 z3 z4 z5
  go_wp2_with fail
  go_ret
  obtain ⟨cs', hS, a0, a1, a2, a3, a4, a5, hfar⟩ := blk_put6 hB 0 (.bool s3) (.slice A3 n3 c3) (.slice B3 m3 d3) (.bool t3) (.slice C3 i3 e3) (.slice D3 j3 f3) (by omega)
  have hbW := Bl.set (Bl.set (Bl.set (Bl.set (Bl.set (Bl.set (hb2) (p := ⟨h, 0, none⟩) hwh (.bool s3)) (p := ⟨h, 1, none⟩) hwh (.slice A3 n3 c3)) (p := ⟨h, 2, none⟩) hwh (.slice B3 m3 d3)) (p := ⟨h, 3, none⟩) hwh (.bool t3)) (p := ⟨h, 4, none⟩) hwh (.slice C3 i3 e3)) (p := ⟨h, 5, none⟩) hwh (.slice D3 j3 f3)
  refine ⟨h, c1, rfl, ⟨rfl, hc1, by omega, fun m hm => ?_⟩, hwh, hbW⟩
  rcases (show m = 0 ∨ m = 1 ∨ m = 2 by omega) with rfl | rfl | rfl
  · exact ⟨_, rfl, hS.lt, _, _, _, _, _, _, _, _, _, _, _, _, _, _, ⟨(hS.cell 0).trans a0, (hS.cell 1).trans a1, (hS.cell 2).trans a2, (hS.cell 3).trans a3, (hS.cell 4).trans a4, (hS.cell 5).trans a5⟩, hx.bl hbW, hy.bl hbW⟩
  · exact ⟨_, rfl, hS.lt, _, _, _, _, _, _, _, _, _, _, _, _, _, _, ⟨(hS.cell 6).trans ((hfar 6 (by omega)).trans (hv.out 6 (by omega))), (hS.cell 7).trans ((hfar 7 (by omega)).trans (hv.out 7 (by omega))), (hS.cell 8).trans ((hfar 8 (by omega)).trans (hv.out 8 (by omega))), (hS.cell 9).trans ((hfar 9 (by omega)).trans (hv.out 9 (by omega))), (hS.cell 10).trans ((hfar 10 (by omega)).trans (hv.out 10 (by omega))), (hS.cell 11).trans ((hfar 11 (by omega)).trans (hv.out 11 (by omega)))⟩, hX1.bl hbW, hY1.bl hbW⟩
  · exact ⟨_, rfl, hS.lt, _, _, _, _, _, _, _, _, _, _, _, _, _, _, ⟨(hS.cell 12).trans ((hfar 12 (by omega)).trans (hv.out 12 (by omega))), (hS.cell 13).trans ((hfar 13 (by omega)).trans (hv.out 13 (by omega))), (hS.cell 14).trans ((hfar 14 (by omega)).trans (hv.out 14 (by omega))), (hS.cell 15).trans ((hfar 15 (by omega)).trans (hv.out 15 (by omega))), (hS.cell 16).trans ((hfar 16 (by omega)).trans (hv.out 16 (by omega))), (hS.cell 17).trans ((hfar 17 (by omega)).trans (hv.out 17 (by omega)))⟩, hX2.bl hbW, hY2.bl hbW⟩

set_option maxRecDepth 100000 in
set_option maxHeartbeats 16000000 in
theorem replaced1_any (w : World) {g c0 : Nat} {p0 p1 p2 : PtD} (h : RdPS w (some ⟨g, 0, none⟩) 3 c0 [p0, p1, p2]) {s3 : Bool} {A3 : Option Addr} {n3 c3 : Nat} {B3 : Option Addr} {m3 d3 : Nat} {t3 : Bool} {C3 : Option Addr} {i3 e3 : Nat} {D3 : Option Addr} {j3 f3 : Nat} {q : PtD} (hx : RdR w s3 A3 n3 c3 B3 m3 d3 q.x) (hy : RdR w t3 C3 i3 e3 D3 j3 f3 q.y) :
    Calls Tryz.prog 74 #[.slice (some ⟨g, 0, none⟩) 3 c0, .int .i64 1, .agg #[.bool s3, .slice A3 n3 c3, .slice B3 m3 d3, .bool t3, .slice C3 i3 e3, .slice D3 j3 f3]] w fun en w' => ∃ h c1, en = .returned (.slice (some ⟨h, 0, none⟩) 3 c1) ∧ RdPS w' (some ⟨h, 0, none⟩) 3 c1 [p0, q, p2] ∧ w.heap.size ≤ h ∧ Bl w w' := by
  obtain ⟨_, e0, hg, hc0⟩ := h.cells 0 (by omega)
  cases e0
  rw [Addr.add_lit] at hc0
  obtain ⟨s, A, n, c, B, m, d, t, C, i, e, D, j, f, ⟨x0, x1, x2, x3, x4, x5⟩, hX0, hY0⟩ := (show PtAt w ⟨g, 0, none⟩ p0 from hc0)
  have x0 : w.cell? ⟨g, 0, none⟩ = some (.bool s) := x0
  have x1 : w.cell? ⟨g, 1, none⟩ = some (.slice A n c) := x1
  have x2 : w.cell? ⟨g, 2, none⟩ = some (.slice B m d) := x2
  have x3 : w.cell? ⟨g, 3, none⟩ = some (.bool t) := x3
  have x4 : w.cell? ⟨g, 4, none⟩ = some (.slice C i e) := x4
  have x5 : w.cell? ⟨g, 5, none⟩ = some (.slice D j f) := x5
  obtain ⟨_, e0, hg, hc1⟩ := h.cells 1 (by omega)
  cases e0
  rw [Addr.add_lit] at hc1
  obtain ⟨s', A', n', c', B', m', d', t', C', i', e', D', j', f', ⟨y0, y1, y2, y3, y4, y5⟩, hX1, hY1⟩ := (show PtAt w ⟨g, 6, none⟩ p1 from hc1)
  have y0 : w.cell? ⟨g, 6, none⟩ = some (.bool s') := y0
  have y1 : w.cell? ⟨g, 7, none⟩ = some (.slice A' n' c') := y1
  have y2 : w.cell? ⟨g, 8, none⟩ = some (.slice B' m' d') := y2
  have y3 : w.cell? ⟨g, 9, none⟩ = some (.bool t') := y3
  have y4 : w.cell? ⟨g, 10, none⟩ = some (.slice C' i' e') := y4
  have y5 : w.cell? ⟨g, 11, none⟩ = some (.slice D' j' f') := y5
  obtain ⟨_, e0, hg, hc2⟩ := h.cells 2 (by omega)
  cases e0
  rw [Addr.add_lit] at hc2
  obtain ⟨s2, A2, n2, c2, B2, m2, d2, t2, C2, i2, e2, D2, j2, f2, ⟨z0, z1, z2, z3, z4, z5⟩, hX2, hY2⟩ := (show PtAt w ⟨g, 12, none⟩ p2 from hc2)
  have z0 : w.cell? ⟨g, 12, none⟩ = some (.bool s2) := z0
  have z1 : w.cell? ⟨g, 13, none⟩ = some (.slice A2 n2 c2) := z1
  have z2 : w.cell? ⟨g, 14, none⟩ = some (.slice B2 m2 d2) := z2
  have z3 : w.cell? ⟨g, 15, none⟩ = some (.bool t2) := z3
  have z4 : w.cell? ⟨g, 16, none⟩ = some (.slice C2 i2 e2) := z4
  have z5 : w.cell? ⟨g, 17, none⟩ = some (.slice D2 j2 f2) := z5
  clear hc0 hc1 hc2
  go_enter Tryz.func74, Tryz.ntmps74
  go_wp2_with fail
  have hal : Bl w (w.alloc (.cells #[.bool s3, .slice A3 n3 c3, .slice B3 m3 d3, .bool t3, .slice C3 i3 e3, .slice D3 j3 f3] 31)) := (Bl.refl w).alloc _
  have hB0 : Blk (w.alloc (.cells #[.bool s3, .slice A3 n3 c3, .slice B3 m3 d3, .bool t3, .slice C3 i3 e3, .slice D3 j3 f3] 31)) w.heap.size 31 #[.bool s3, .slice A3 n3 c3, .slice B3 m3 d3, .bool t3, .slice C3 i3 e3, .slice D3 j3 f3] := Blk.new _ _ _
  refine (Clone3_any (news := [.bool s, .slice A n c, .slice B m d, .bool t, .slice C i e, .slice D j f, .bool s', .slice A' n' c', .slice B' m' d', .bool t', .slice C' i' e', .slice D' j' f', .bool s2, .slice A2 n2 c2, .slice B2 m2 d2, .bool t2, .slice C2 i2 e2, .slice D2 j2 f2]) _ rfl (by simp [Value.oneCell']) (Nat.lt_of_lt_of_le hg hal.size) (fun j u hj => ?_)).mono ?_
  · match j, hj with
    | 0, hj => exact (Bl.cellOf (w := w) (p := ⟨g, 0, none⟩) hal hg).trans (((show w.cell? ⟨g, 0, none⟩ = _ from x0).trans hj))
    | 1, hj => exact (Bl.cellOf (w := w) (p := ⟨g, 1, none⟩) hal hg).trans (((show w.cell? ⟨g, 1, none⟩ = _ from x1).trans hj))
    | 2, hj => exact (Bl.cellOf (w := w) (p := ⟨g, 2, none⟩) hal hg).trans (((show w.cell? ⟨g, 2, none⟩ = _ from x2).trans hj))
    | 3, hj => exact (Bl.cellOf (w := w) (p := ⟨g, 3, none⟩) hal hg).trans (((show w.cell? ⟨g, 3, none⟩ = _ from x3).trans hj))
    | 4, hj => exact (Bl.cellOf (w := w) (p := ⟨g, 4, none⟩) hal hg).trans (((show w.cell? ⟨g, 4, none⟩ = _ from x4).trans hj))
    | 5, hj => exact (Bl.cellOf (w := w) (p := ⟨g, 5, none⟩) hal hg).trans (((show w.cell? ⟨g, 5, none⟩ = _ from x5).trans hj))
    | 6, hj => exact (Bl.cellOf (w := w) (p := ⟨g, 6, none⟩) hal hg).trans (((show w.cell? ⟨g, 6, none⟩ = _ from y0).trans hj))
    | 7, hj => exact (Bl.cellOf (w := w) (p := ⟨g, 7, none⟩) hal hg).trans (((show w.cell? ⟨g, 7, none⟩ = _ from y1).trans hj))
    | 8, hj => exact (Bl.cellOf (w := w) (p := ⟨g, 8, none⟩) hal hg).trans (((show w.cell? ⟨g, 8, none⟩ = _ from y2).trans hj))
    | 9, hj => exact (Bl.cellOf (w := w) (p := ⟨g, 9, none⟩) hal hg).trans (((show w.cell? ⟨g, 9, none⟩ = _ from y3).trans hj))
    | 10, hj => exact (Bl.cellOf (w := w) (p := ⟨g, 10, none⟩) hal hg).trans (((show w.cell? ⟨g, 10, none⟩ = _ from y4).trans hj))
    | 11, hj => exact (Bl.cellOf (w := w) (p := ⟨g, 11, none⟩) hal hg).trans (((show w.cell? ⟨g, 11, none⟩ = _ from y5).trans hj))
    | 12, hj => exact (Bl.cellOf (w := w) (p := ⟨g, 12, none⟩) hal hg).trans (((show w.cell? ⟨g, 12, none⟩ = _ from z0).trans hj))
    | 13, hj => exact (Bl.cellOf (w := w) (p := ⟨g, 13, none⟩) hal hg).trans (((show w.cell? ⟨g, 13, none⟩ = _ from z1).trans hj))
    | 14, hj => exact (Bl.cellOf (w := w) (p := ⟨g, 14, none⟩) hal hg).trans (((show w.cell? ⟨g, 14, none⟩ = _ from z2).trans hj))
    | 15, hj => exact (Bl.cellOf (w := w) (p := ⟨g, 15, none⟩) hal hg).trans (((show w.cell? ⟨g, 15, none⟩ = _ from z3).trans hj))
    | 16, hj => exact (Bl.cellOf (w := w) (p := ⟨g, 16, none⟩) hal hg).trans (((show w.cell? ⟨g, 16, none⟩ = _ from z4).trans hj))
    | 17, hj => exact (Bl.cellOf (w := w) (p := ⟨g, 17, none⟩) hal hg).trans (((show w.cell? ⟨g, 17, none⟩ = _ from z5).trans hj))
    | n + 18, hj => simp at hj
  rintro e w1 ⟨h, c1, cs, rfl, hc1, hh, hB, hcs, hv, hb1⟩
  have hb2 := hal.next hb1
  have hz1 := hb2.size
  have hlt := hB.lt
  have hwh : w.heap.size ≤ h := Nat.le_trans hal.size hh
  have hB0 := hB0.bl hb1
  obtain ⟨r0, r1, r2, r3, r4, r5⟩ := bx6 hB0
  have fz0 := hB.frozen 6
  have fz1 := hB.frozen 7
  have fz2 := hB.frozen 8
  have fz3 := hB.frozen 9
  have fz4 := hB.frozen 10
  have fz5 := hB.frozen 11
  obtain ⟨u0, k0⟩ : ∃ u, w1.cell? ⟨h, 6, none⟩ = some u := ⟨_, (hB.cell 6).trans (hv 6 (by omega))⟩
  obtain ⟨u1, k1⟩ : ∃ u, w1.cell? ⟨h, 7, none⟩ = some u := ⟨_, (hB.cell 7).trans (hv 7 (by omega))⟩
  obtain ⟨u2, k2⟩ : ∃ u, w1.cell? ⟨h, 8, none⟩ = some u := ⟨_, (hB.cell 8).trans (hv 8 (by omega))⟩
  obtain ⟨u3, k3⟩ : ∃ u, w1.cell? ⟨h, 9, none⟩ = some u := ⟨_, (hB.cell 9).trans (hv 9 (by omega))⟩
  obtain ⟨u4, k4⟩ : ∃ u, w1.cell? ⟨h, 10, none⟩ = some u := ⟨_, (hB.cell 10).trans (hv 10 (by omega))⟩
  obtain ⟨u5, k5⟩ : ∃ u, w1.cell? ⟨h, 11, none⟩ = some u := ⟨_, (hB.cell 11).trans (hv 11 (by omega))⟩
  clear hal
  have hv := Lib.hid hv; rename_i h_; clear h_
  clear x0 x1 x2 x3 x4 x5 y0 y1 y2 y3 y4 y5 z0 z1 z2 z3 z4 z5
  go_wp2_with fail
  go_ret
  obtain ⟨cs', hS, a0, a1, a2, a3, a4, a5, hfar⟩ := blk_put6 hB 6 (.bool s3) (.slice A3 n3 c3) (.slice B3 m3 d3) (.bool t3) (.slice C3 i3 e3) (.slice D3 j3 f3) (by omega)
  have hbW := Bl.set (Bl.set (Bl.set (Bl.set (Bl.set (Bl.set (hb2) (p := ⟨h, 6, none⟩) hwh (.bool s3)) (p := ⟨h, 7, none⟩) hwh (.slice A3 n3 c3)) (p := ⟨h, 8, none⟩) hwh (.slice B3 m3 d3)) (p := ⟨h, 9, none⟩) hwh (.bool t3)) (p := ⟨h, 10, none⟩) hwh (.slice C3 i3 e3)) (p := ⟨h, 11, none⟩) hwh (.slice D3 j3 f3)
  refine ⟨h, c1, rfl, ⟨rfl, hc1, by omega, fun m hm => ?_⟩, hwh, hbW⟩
  rcases (show m = 0 ∨ m = 1 ∨ m = 2 by omega) with rfl | rfl | rfl
  · exact ⟨_, rfl, hS.lt, _, _, _, _, _, _, _, _, _, _, _, _, _, _, ⟨(hS.cell 0).trans ((hfar 0 (by omega)).trans (hv.out 0 (by omega))), (hS.cell 1).trans ((hfar 1 (by omega)).trans (hv.out 1 (by omega))), (hS.cell 2).trans ((hfar 2 (by omega)).trans (hv.out 2 (by omega))), (hS.cell 3).trans ((hfar 3 (by omega)).trans (hv.out 3 (by omega))), (hS.cell 4).trans ((hfar 4 (by omega)).trans (hv.out 4 (by omega))), (hS.cell 5).trans ((hfar 5 (by omega)).trans (hv.out 5 (by omega)))⟩, hX0.bl hbW, hY0.bl hbW⟩
  · exact ⟨_, rfl, hS.lt, _, _, _, _, _, _, _, _, _, _, _, _, _, _, ⟨(hS.cell 6).trans a0, (hS.cell 7).trans a1, (hS.cell 8).trans a2, (hS.cell 9).trans a3, (hS.cell 10).trans a4, (hS.cell 11).trans a5⟩, hx.bl hbW, hy.bl hbW⟩
  · exact ⟨_, rfl, hS.lt, _, _, _, _, _, _, _, _, _, _, _, _, _, _, ⟨(hS.cell 12).trans ((hfar 12 (by omega)).trans (hv.out 12 (by omega))), (hS.cell 13).trans ((hfar 13 (by omega)).trans (hv.out 13 (by omega))), (hS.cell 14).trans ((hfar 14 (by omega)).trans (hv.out 14 (by omega))), (hS.cell 15).trans ((hfar 15 (by omega)).trans (hv.out 15 (by omega))), (hS.cell 16).trans ((hfar 16 (by omega)).trans (hv.out 16 (by omega))), (hS.cell 17).trans ((hfar 17 (by omega)).trans (hv.out 17 (by omega)))⟩, hX2.bl hbW, hY2.bl hbW⟩

set_option maxRecDepth 100000 in
set_option maxHeartbeats 16000000 in
theorem replaced2_any (w : World) {g c0 : Nat} {p0 p1 p2 : PtD} (h : RdPS w (some ⟨g, 0, none⟩) 3 c0 [p0, p1, p2]) {s3 : Bool} {A3 : Option Addr} {n3 c3 : Nat} {B3 : Option Addr} {m3 d3 : Nat} {t3 : Bool} {C3 : Option Addr} {i3 e3 : Nat} {D3 : Option Addr} {j3 f3 : Nat} {q : PtD} (hx : RdR w s3 A3 n3 c3 B3 m3 d3 q.x) (hy : RdR w t3 C3 i3 e3 D3 j3 f3 q.y) :
    Calls Tryz.prog 74 #[.slice (some ⟨g, 0, none⟩) 3 c0, .int .i64 2, .agg #[.bool s3, .slice A3 n3 c3, .slice B3 m3 d3, .bool t3, .slice C3 i3 e3, .slice D3 j3 f3]] w fun en w' => ∃ h c1, en = .returned (.slice (some ⟨h, 0, none⟩) 3 c1) ∧ RdPS w' (some ⟨h, 0, none⟩) 3 c1 [p0, p1, q] ∧ w.heap.size ≤ h ∧ Bl w w' := by
  obtain ⟨_, e0, hg, hc0⟩ := h.cells 0 (by omega)
  cases e0
  rw [Addr.add_lit] at hc0
  obtain ⟨s, A, n, c, B, m, d, t, C, i, e, D, j, f, ⟨x0, x1, x2, x3, x4, x5⟩, hX0, hY0⟩ := (show PtAt w ⟨g, 0, none⟩ p0 from hc0)
  have x0 : w.cell? ⟨g, 0, none⟩ = some (.bool s) := x0
  have x1 : w.cell? ⟨g, 1, none⟩ = some (.slice A n c) := x1
  have x2 : w.cell? ⟨g, 2, none⟩ = some (.slice B m d) := x2
  have x3 : w.cell? ⟨g, 3, none⟩ = some (.bool t) := x3
  have x4 : w.cell? ⟨g, 4, none⟩ = some (.slice C i e) := x4
  have x5 : w.cell? ⟨g, 5, none⟩ = some (.slice D j f) := x5
  obtain ⟨_, e0, hg, hc1⟩ := h.cells 1 (by omega)
  cases e0
  rw [Addr.add_lit] at hc1
  obtain ⟨s', A', n', c', B', m', d', t', C', i', e', D', j', f', ⟨y0, y1, y2, y3, y4, y5⟩, hX1, hY1⟩ := (show PtAt w ⟨g, 6, none⟩ p1 from hc1)
  have y0 : w.cell? ⟨g, 6, none⟩ = some (.bool s') := y0
  have y1 : w.cell? ⟨g, 7, none⟩ = some (.slice A' n' c') := y1
  have y2 : w.cell? ⟨g, 8, none⟩ = some (.slice B' m' d') := y2
  have y3 : w.cell? ⟨g, 9, none⟩ = some (.bool t') := y3
  have y4 : w.cell? ⟨g, 10, none⟩ = some (.slice C' i' e') := y4
  have y5 : w.cell? ⟨g, 11, none⟩ = some (.slice D' j' f') := y5
  obtain ⟨_, e0, hg, hc2⟩ := h.cells 2 (by omega)
  cases e0
  rw [Addr.add_lit] at hc2
  obtain ⟨s2, A2, n2, c2, B2, m2, d2, t2, C2, i2, e2, D2, j2, f2, ⟨z0, z1, z2, z3, z4, z5⟩, hX2, hY2⟩ := (show PtAt w ⟨g, 12, none⟩ p2 from hc2)
  have z0 : w.cell? ⟨g, 12, none⟩ = some (.bool s2) := z0
  have z1 : w.cell? ⟨g, 13, none⟩ = some (.slice A2 n2 c2) := z1
  have z2 : w.cell? ⟨g, 14, none⟩ = some (.slice B2 m2 d2) := z2
  have z3 : w.cell? ⟨g, 15, none⟩ = some (.bool t2) := z3
  have z4 : w.cell? ⟨g, 16, none⟩ = some (.slice C2 i2 e2) := z4
  have z5 : w.cell? ⟨g, 17, none⟩ = some (.slice D2 j2 f2) := z5
  clear hc0 hc1 hc2
  go_enter Tryz.func74, Tryz.ntmps74
  go_wp2_with fail
  have hal : Bl w (w.alloc (.cells #[.bool s3, .slice A3 n3 c3, .slice B3 m3 d3, .bool t3, .slice C3 i3 e3, .slice D3 j3 f3] 31)) := (Bl.refl w).alloc _
  have hB0 : Blk (w.alloc (.cells #[.bool s3, .slice A3 n3 c3, .slice B3 m3 d3, .bool t3, .slice C3 i3 e3, .slice D3 j3 f3] 31)) w.heap.size 31 #[.bool s3, .slice A3 n3 c3, .slice B3 m3 d3, .bool t3, .slice C3 i3 e3, .slice D3 j3 f3] := Blk.new _ _ _
  refine (Clone3_any (news := [.bool s, .slice A n c, .slice B m d, .bool t, .slice C i e, .slice D j f, .bool s', .slice A' n' c', .slice B' m' d', .bool t', .slice C' i' e', .slice D' j' f', .bool s2, .slice A2 n2 c2, .slice B2 m2 d2, .bool t2, .slice C2 i2 e2, .slice D2 j2 f2]) _ rfl (by simp [Value.oneCell']) (Nat.lt_of_lt_of_le hg hal.size) (fun j u hj => ?_)).mono ?_
  · match j, hj with
    | 0, hj => exact (Bl.cellOf (w := w) (p := ⟨g, 0, none⟩) hal hg).trans (((show w.cell? ⟨g, 0, none⟩ = _ from x0).trans hj))
    | 1, hj => exact (Bl.cellOf (w := w) (p := ⟨g, 1, none⟩) hal hg).trans (((show w.cell? ⟨g, 1, none⟩ = _ from x1).trans hj))
    | 2, hj => exact (Bl.cellOf (w := w) (p := ⟨g, 2, none⟩) hal hg).trans (((show w.cell? ⟨g, 2, none⟩ = _ from x2).trans hj))
    | 3, hj => exact (Bl.cellOf (w := w) (p := ⟨g, 3, none⟩) hal hg).trans (((show w.cell? ⟨g, 3, none⟩ = _ from x3).trans hj))
    | 4, hj => exact (Bl.cellOf (w := w) (p := ⟨g, 4, none⟩) hal hg).trans (((show w.cell? ⟨g, 4, none⟩ = _ from x4).trans hj))
    | 5, hj => exact (Bl.cellOf (w := w) (p := ⟨g, 5, none⟩) hal hg).trans (((show w.cell? ⟨g, 5, none⟩ = _ from x5).trans hj))
    | 6, hj => exact (Bl.cellOf (w := w) (p := ⟨g, 6, none⟩) hal hg).trans (((show w.cell? ⟨g, 6, none⟩ = _ from y0).trans hj))
    | 7, hj => exact (Bl.cellOf (w := w) (p := ⟨g, 7, none⟩) hal hg).trans (((show w.cell? ⟨g, 7, none⟩ = _ from y1).trans hj))
    | 8, hj => exact (Bl.cellOf (w := w) (p := ⟨g, 8, none⟩) hal hg).trans (((show w.cell? ⟨g, 8, none⟩ = _ from y2).trans hj))
    | 9, hj => exact (Bl.cellOf (w := w) (p := ⟨g, 9, none⟩) hal hg).trans (((show w.cell? ⟨g, 9, none⟩ = _ from y3).trans hj))
    | 10, hj => exact (Bl.cellOf (w := w) (p := ⟨g, 10, none⟩) hal hg).trans (((show w.cell? ⟨g, 10, none⟩ = _ from y4).trans hj))
    | 11, hj => exact (Bl.cellOf (w := w) (p := ⟨g, 11, none⟩) hal hg).trans (((show w.cell? ⟨g, 11, none⟩ = _ from y5).trans hj))
    | 12, hj => exact (Bl.cellOf (w := w) (p := ⟨g, 12, none⟩) hal hg).trans (((show w.cell? ⟨g, 12, none⟩ = _ from z0).trans hj))
    | 13, hj => exact (Bl.cellOf (w := w) (p := ⟨g, 13, none⟩) hal hg).trans (((show w.cell? ⟨g, 13, none⟩ = _ from z1).trans hj))
    | 14, hj => exact (Bl.cellOf (w := w) (p := ⟨g, 14, none⟩) hal hg).trans (((show w.cell? ⟨g, 14, none⟩ = _ from z2).trans hj))
    | 15, hj => exact (Bl.cellOf (w := w) (p := ⟨g, 15, none⟩) hal hg).trans (((show w.cell? ⟨g, 15, none⟩ = _ from z3).trans hj))
    | 16, hj => exact (Bl.cellOf (w := w) (p := ⟨g, 16, none⟩) hal hg).trans (((show w.cell? ⟨g, 16, none⟩ = _ from z4).trans hj))
    | 17, hj => exact (Bl.cellOf (w := w) (p := ⟨g, 17, none⟩) hal hg).trans (((show w.cell? ⟨g, 17, none⟩ = _ from z5).trans hj))
    | n + 18, hj => simp at hj
  rintro e w1 ⟨h, c1, cs, rfl, hc1, hh, hB, hcs, hv, hb1⟩
  have hb2 := hal.next hb1
  have hz1 := hb2.size
  have hlt := hB.lt
  have hwh : w.heap.size ≤ h := Nat.le_trans hal.size hh
  have hB0 := hB0.bl hb1
  obtain ⟨r0, r1, r2, r3, r4, r5⟩ := bx6 hB0
  have fz0 := hB.frozen 12
  have fz1 := hB.frozen 13
  have fz2 := hB.frozen 14
  have fz3 := hB.frozen 15
  have fz4 := hB.frozen 16
  have fz5 := hB.frozen 17
  obtain ⟨u0, k0⟩ : ∃ u, w1.cell? ⟨h, 12, none⟩ = some u := ⟨_, (hB.cell 12).trans (hv 12 (by omega))⟩
  obtain ⟨u1, k1⟩ : ∃ u, w1.cell? ⟨h, 13, none⟩ = some u := ⟨_, (hB.cell 13).trans (hv 13 (by omega))⟩
  obtain ⟨u2, k2⟩ : ∃ u, w1.cell? ⟨h, 14, none⟩ = some u := ⟨_, (hB.cell 14).trans (hv 14 (by omega))⟩
  obtain ⟨u3, k3⟩ : ∃ u, w1.cell? ⟨h, 15, none⟩ = some u := ⟨_, (hB.cell 15).trans (hv 15 (by omega))⟩
  obtain ⟨u4, k4⟩ : ∃ u, w1.cell? ⟨h, 16, none⟩ = some u := ⟨_, (hB.cell 16).trans (hv 16 (by omega))⟩
  obtain ⟨u5, k5⟩ : ∃ u, w1.cell? ⟨h, 17, none⟩ = some u := ⟨_, (hB.cell 17).trans (hv 17 (by omega))⟩
  clear hal
  have hv := Lib.hid hv; rename_i h_; clear h_
  clear x0 x1 x2 x3 x4 x5 y0 y1 y2 y3 y4 y5 z0 z1 z2 z3 z4 z5
  go_wp2_with fail
  go_ret
  obtain ⟨cs', hS, a0, a1, a2, a3, a4, a5, hfar⟩ := blk_put6 hB 12 (.bool s3) (.slice A3 n3 c3) (.slice B3 m3 d3) (.bool t3) (.slice C3 i3 e3) (.slice D3 j3 f3) (by omega)
  have hbW := Bl.set (Bl.set (Bl.set (Bl.set (Bl.set (Bl.set (hb2) (p := ⟨h, 12, none⟩) hwh (.bool s3)) (p := ⟨h, 13, none⟩) hwh (.slice A3 n3 c3)) (p := ⟨h, 14, none⟩) hwh (.slice B3 m3 d3)) (p := ⟨h, 15, none⟩) hwh (.bool t3)) (p := ⟨h, 16, none⟩) hwh (.slice C3 i3 e3)) (p := ⟨h, 17, none⟩) hwh (.slice D3 j3 f3)
  refine ⟨h, c1, rfl, ⟨rfl, hc1, by omega, fun m hm => ?_⟩, hwh, hbW⟩
  rcases (show m = 0 ∨ m = 1 ∨ m = 2 by omega) with rfl | rfl | rfl
  · exact ⟨_, rfl, hS.lt, _, _, _, _, _, _, _, _, _, _, _, _, _, _, ⟨(hS.cell 0).trans ((hfar 0 (by omega)).trans (hv.out 0 (by omega))), (hS.cell 1).trans ((hfar 1 (by omega)).trans (hv.out 1 (by omega))), (hS.cell 2).trans ((hfar 2 (by omega)).trans (hv.out 2 (by omega))), (hS.cell 3).trans ((hfar 3 (by omega)).trans (hv.out 3 (by omega))), (hS.cell 4).trans ((hfar 4 (by omega)).trans (hv.out 4 (by omega))), (hS.cell 5).trans ((hfar 5 (by omega)).trans (hv.out 5 (by omega)))⟩, hX0.bl hbW, hY0.bl hbW⟩
  · exact ⟨_, rfl, hS.lt, _, _, _, _, _, _, _, _, _, _, _, _, _, _, ⟨(hS.cell 6).trans ((hfar 6 (by omega)).trans (hv.out 6 (by omega))), (hS.cell 7).trans ((hfar 7 (by omega)).trans (hv.out 7 (by omega))), (hS.cell 8).trans ((hfar 8 (by omega)).trans (hv.out 8 (by omega))), (hS.cell 9).trans ((hfar 9 (by omega)).trans (hv.out 9 (by omega))), (hS.cell 10).trans ((hfar 10 (by omega)).trans (hv.out 10 (by omega))), (hS.cell 11).trans ((hfar 11 (by omega)).trans (hv.out 11 (by omega)))⟩, hX1.bl hbW, hY1.bl hbW⟩
  · exact ⟨_, rfl, hS.lt, _, _, _, _, _, _, _, _, _, _, _, _, _, _, ⟨(hS.cell 12).trans a0, (hS.cell 13).trans a1, (hS.cell 14).trans a2, (hS.cell 15).trans a3, (hS.cell 16).trans a4, (hS.cell 17).trans a5⟩, hx.bl hbW, hy.bl hbW⟩
end

end Go.Proofs.YtajlahjghapbkaaGreat
