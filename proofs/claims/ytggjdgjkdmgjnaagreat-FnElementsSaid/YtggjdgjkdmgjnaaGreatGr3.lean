-- merged: Gr2 Gr3
import Derived.Test.YtggjdgjkdmgjnaaGreatRows
import Derived.Test.YtggjdgjkdmgjnaaGreatGr1
namespace Go.Proofs.YtggjdgjkdmgjnaaGreat
open Go.RowKit
section


set_option maxRecDepth 100000 in
set_option maxHeartbeats 8000000 in
theorem sGradients_three (w : World) {g c0 : Nat} {p0 p1 p2 : PtD} (h : RdPS w (some ⟨g, 0, none⟩) 3 c0 [p0, p1, p2]) (hp : Hid (propB [p0, p1, p2] = true)) :
    Calls Tryz.prog 12 #[.slice (some ⟨g, 0, none⟩) 3 c0] w fun e w' => ∃ A1 n1 c1, e = .returned (.slice A1 n1 c1) ∧ OwPZ 3 45 w.heap.size w'.heap.size w' A1 n1 c1 (gradP p0 p1 p2) ∧ (n1 = 0 → A1 = none ∧ c1 = 0) ∧ Bl w w' := by
  obtain ⟨_, e0, hg, hc0⟩ := h.cells 0 (by omega)
  cases e0
  rw [Addr.add_lit] at hc0
  obtain ⟨s, A, n, c, B, m, d, t, C, i, e, D, j, f, ⟨x0, x1, x2, x3, x4, x5⟩, hX0, hY0⟩ := (show PtAt w ⟨g, 0, none⟩ p0 from hc0)
  have x0 : w.cell? ⟨g, 0, none⟩ = some (.bool s) := x0
  have x1 : w.cell? ⟨g, 1, none⟩ = some (.slice A n c) := x1
  have x2 : w.cell? ⟨g, 2, none⟩ = some (.slice B m d) := x2
  have x3 : w.cell? ⟨g, 3, none⟩ = some (.bool t) := x3
  have x4 : w.cell? ⟨g, 4, none⟩ = some (.slice C i e) := x4
  have x5 : w.cell? ⟨g, 5, none⟩ = some (.slice D j f) := x5
  obtain ⟨_, e0, hg, hc1⟩ := h.cells 1 (by omega)
  cases e0
  rw [Addr.add_lit] at hc1
  obtain ⟨s', A', n', c', B', m', d', t', C', i', e', D', j', f', ⟨y0, y1, y2, y3, y4, y5⟩, hX1, hY1⟩ := (show PtAt w ⟨g, 6, none⟩ p1 from hc1)
  have y0 : w.cell? ⟨g, 6, none⟩ = some (.bool s') := y0
  have y1 : w.cell? ⟨g, 7, none⟩ = some (.slice A' n' c') := y1
  have y2 : w.cell? ⟨g, 8, none⟩ = some (.slice B' m' d') := y2
  have y3 : w.cell? ⟨g, 9, none⟩ = some (.bool t') := y3
  have y4 : w.cell? ⟨g, 10, none⟩ = some (.slice C' i' e') := y4
  have y5 : w.cell? ⟨g, 11, none⟩ = some (.slice D' j' f') := y5
  obtain ⟨_, e0, hg, hc2⟩ := h.cells 2 (by omega)
  cases e0
  rw [Addr.add_lit] at hc2
  obtain ⟨s2, A2, n2, c2, B2, m2, d2, t2, C2, i2, e2, D2, j2, f2, ⟨z0, z1, z2, z3, z4, z5⟩, hX2, hY2⟩ := (show PtAt w ⟨g, 12, none⟩ p2 from hc2)
  have z0 : w.cell? ⟨g, 12, none⟩ = some (.bool s2) := z0
  have z1 : w.cell? ⟨g, 13, none⟩ = some (.slice A2 n2 c2) := z1
  have z2 : w.cell? ⟨g, 14, none⟩ = some (.slice B2 m2 d2) := z2
  have z3 : w.cell? ⟨g, 15, none⟩ = some (.bool t2) := z3
  have z4 : w.cell? ⟨g, 16, none⟩ = some (.slice C2 i2 e2) := z4
  have z5 : w.cell? ⟨g, 17, none⟩ = some (.slice D2 j2 f2) := z5
  clear hc0 hc1 hc2
  go_enter Tryz.func12, Tryz.ntmps12
  go_wp2_with fail
  refine (sIsProper_any _ h).mono ?_
  rw [hp.out]
  rintro e w1 ⟨rfl, hb1⟩
  have hz1 := Bl.size hb1
  go_wp2_with fail
  go_cut [3] (fun s3 wx => ∃ (g3 : Nat) (sw : Bool) (Aw : Option Addr) (nw cw : Nat) (Bw : Option Addr) (mw dw : Nat), s3 = .pointer (some ⟨g3, 0, none⟩) ∧ Blk wx g3 34 #[.bool sw, .slice Aw nw cw, .slice Bw mw dw] ∧ RdR wx sw Aw nw cw Bw mw dw (dblA p0 p1 p2) ∧ Bl w wx)
  case first =>
    go_region_held3 (fun w' => (w'.cell? ⟨g, 0, none⟩ = some (.bool s) ∧ w'.cell? ⟨g, 1, none⟩ = some (.slice A n c) ∧ w'.cell? ⟨g, 2, none⟩ = some (.slice B m d) ∧ w'.cell? ⟨g, 3, none⟩ = some (.bool t) ∧ w'.cell? ⟨g, 4, none⟩ = some (.slice C i e) ∧ w'.cell? ⟨g, 5, none⟩ = some (.slice D j f)) ∧ (w'.cell? ⟨g, 6, none⟩ = some (.bool s') ∧ w'.cell? ⟨g, 7, none⟩ = some (.slice A' n' c') ∧ w'.cell? ⟨g, 8, none⟩ = some (.slice B' m' d') ∧ w'.cell? ⟨g, 9, none⟩ = some (.bool t') ∧ w'.cell? ⟨g, 10, none⟩ = some (.slice C' i' e') ∧ w'.cell? ⟨g, 11, none⟩ = some (.slice D' j' f')) ∧ (w'.cell? ⟨g, 12, none⟩ = some (.bool s2) ∧ w'.cell? ⟨g, 13, none⟩ = some (.slice A2 n2 c2) ∧ w'.cell? ⟨g, 14, none⟩ = some (.slice B2 m2 d2) ∧ w'.cell? ⟨g, 15, none⟩ = some (.bool t2) ∧ w'.cell? ⟨g, 16, none⟩ = some (.slice C2 i2 e2) ∧ w'.cell? ⟨g, 17, none⟩ = some (.slice D2 j2 f2))) (first | exact ⟨⟨(Bl.cellOf (w := w) (p := ⟨g, 0, none⟩) slc hg).trans x0, (Bl.cellOf (w := w) (p := ⟨g, 1, none⟩) slc hg).trans x1, (Bl.cellOf (w := w) (p := ⟨g, 2, none⟩) slc hg).trans x2, (Bl.cellOf (w := w) (p := ⟨g, 3, none⟩) slc hg).trans x3, (Bl.cellOf (w := w) (p := ⟨g, 4, none⟩) slc hg).trans x4, (Bl.cellOf (w := w) (p := ⟨g, 5, none⟩) slc hg).trans x5⟩, ⟨(Bl.cellOf (w := w) (p := ⟨g, 6, none⟩) slc hg).trans y0, (Bl.cellOf (w := w) (p := ⟨g, 7, none⟩) slc hg).trans y1, (Bl.cellOf (w := w) (p := ⟨g, 8, none⟩) slc hg).trans y2, (Bl.cellOf (w := w) (p := ⟨g, 9, none⟩) slc hg).trans y3, (Bl.cellOf (w := w) (p := ⟨g, 10, none⟩) slc hg).trans y4, (Bl.cellOf (w := w) (p := ⟨g, 11, none⟩) slc hg).trans y5⟩, ⟨(Bl.cellOf (w := w) (p := ⟨g, 12, none⟩) slc hg).trans z0, (Bl.cellOf (w := w) (p := ⟨g, 13, none⟩) slc hg).trans z1, (Bl.cellOf (w := w) (p := ⟨g, 14, none⟩) slc hg).trans z2, (Bl.cellOf (w := w) (p := ⟨g, 15, none⟩) slc hg).trans z3, (Bl.cellOf (w := w) (p := ⟨g, 16, none⟩) slc hg).trans z4, (Bl.cellOf (w := w) (p := ⟨g, 17, none⟩) slc hg).trans z5⟩⟩) (first | (go_at_call 57; refine (sDoubleArea_any _ (hX0.bl slc) (hY0.bl slc) (hX1.bl slc) (hY1.bl slc) (hX2.bl slc) (hY2.bl slc)).mono ?_; rintro en w3 ⟨s3, A3, n3, c3, B3, m3, d3, rfl, hR3, hb3⟩; (first | have hq : Wk 3 34 _ _ := wk_newd hb3 | have hq : Wk 3 34 _ _ := wk_new hb3 | skip); (try obtain ⟨⟨q0, q1, q2⟩, fz0, fz1, fz2⟩ := hq.out3)))
    · go_wp2_with fail
      go_meet
      exact ⟨w3.heap.size, _, _, _, _, _, _, _, rfl, Blk.new _ _ _, hR3.rd.bl slc, slc⟩
    · go_wp2_with fail
      go_meet
      exact ⟨w1.heap.size, _, _, _, _, _, _, _, rfl, Wk.put3 hq _ _ _, (((hR3.far (by simp) _).far (by simp) _).far (by simp) _).rd, slc⟩
  case rest =>
    obtain ⟨g3, sw, Aw, nw, cw, Bw, mw, dw, rfl, hBw, hRw, hbc⟩ := hcut
    go_wp2_with fail
    obtain ⟨W0, rfl⟩ : ∃ W0 : World, W0 = wc := ⟨_, rfl⟩
    go_loopw [4, 25] (fun v i wr => ∃ (k hi : Nat), k ≤ 3 ∧ i = .int .i64 (k : Int) ∧ RowP List.Nodup W0.heap.size hi wr v (gradTo p0 p1 p2 k) ∧ GradOk p0 p1 p2 k ∧ Bl W0 wr ∧ W0.heap.size ≤ hi) (fun _ i _ => 3 - (intOf i).toNat)
    case atStart => exact ⟨0, _, by omega, rfl, RowG.empty appN_nodup W0 (Nat.le_refl _), fun j hj => by omega, (Bl.refl _).alloc _, by omega⟩
    case round =>
      obtain ⟨k, hi, hk, rfl, hrow, hok, hbw, hlh⟩ := hrel
      rcases (show k = 0 ∨ k = 1 ∨ k = 2 ∨ k = 3 by omega) with rfl | rfl | rfl | rfl
      · skip
        have e0 : ((0 : Nat) : Int) = 0 := rfl
        rw [e0]
        clear e0 hk
        have hhi0 := RowG.hiLe hrow
        have hzc := Bl.size hbc
        have hzo := Bl.size hbw
        have hw : IntKind.i64.wrap 1 = 1 := by rfl
        have hw2 : IntKind.i64.wrap 2 = 2 := by rfl
        obtain ⟨wo, rfl⟩ : ∃ wo : World, wo = wr := ⟨_, rfl⟩
        have hbwo := hbc.next hbw
        have hgo : g < wo.heap.size := Nat.lt_of_lt_of_le hg (Bl.size hbwo)
        have y0 : wo.cell? ⟨g, 6, none⟩ = some (.bool s') := (Bl.cellOf (w := w) (p := ⟨g, 6, none⟩) hbwo hg).trans y0
        have y1 : wo.cell? ⟨g, 7, none⟩ = some (.slice A' n' c') := (Bl.cellOf (w := w) (p := ⟨g, 7, none⟩) hbwo hg).trans y1
        have y2 : wo.cell? ⟨g, 8, none⟩ = some (.slice B' m' d') := (Bl.cellOf (w := w) (p := ⟨g, 8, none⟩) hbwo hg).trans y2
        have y3 : wo.cell? ⟨g, 9, none⟩ = some (.bool t') := (Bl.cellOf (w := w) (p := ⟨g, 9, none⟩) hbwo hg).trans y3
        have y4 : wo.cell? ⟨g, 10, none⟩ = some (.slice C' i' e') := (Bl.cellOf (w := w) (p := ⟨g, 10, none⟩) hbwo hg).trans y4
        have y5 : wo.cell? ⟨g, 11, none⟩ = some (.slice D' j' f') := (Bl.cellOf (w := w) (p := ⟨g, 11, none⟩) hbwo hg).trans y5
        have z0 : wo.cell? ⟨g, 12, none⟩ = some (.bool s2) := (Bl.cellOf (w := w) (p := ⟨g, 12, none⟩) hbwo hg).trans z0
        have z1 : wo.cell? ⟨g, 13, none⟩ = some (.slice A2 n2 c2) := (Bl.cellOf (w := w) (p := ⟨g, 13, none⟩) hbwo hg).trans z1
        have z2 : wo.cell? ⟨g, 14, none⟩ = some (.slice B2 m2 d2) := (Bl.cellOf (w := w) (p := ⟨g, 14, none⟩) hbwo hg).trans z2
        have z3 : wo.cell? ⟨g, 15, none⟩ = some (.bool t2) := (Bl.cellOf (w := w) (p := ⟨g, 15, none⟩) hbwo hg).trans z3
        have z4 : wo.cell? ⟨g, 16, none⟩ = some (.slice C2 i2 e2) := (Bl.cellOf (w := w) (p := ⟨g, 16, none⟩) hbwo hg).trans z4
        have z5 : wo.cell? ⟨g, 17, none⟩ = some (.slice D2 j2 f2) := (Bl.cellOf (w := w) (p := ⟨g, 17, none⟩) hbwo hg).trans z5
        go_upto_region 10 with (fail)
        · refine wp_gen (fun W => Blk W wo.heap.size 45 #[.bool s', .slice A' n' c', .slice B' m' d', .bool t', .slice C' i' e', .slice D' j' f'] ∧ Blk W (wo.heap.size + 1) 45 #[.bool s2, .slice A2 n2 c2, .slice B2 m2 d2, .bool t2, .slice C2 i2 e2, .slice D2 j2 f2] ∧ Bl wo W) ⟨by exact bts, by exact bts, slc⟩ ?_
          rintro wp ⟨qa, qb, hb8⟩
          have hYj := hY1.bl (hbc.next (hbw.next hb8))
          have hXj := hX1.bl (hbc.next (hbw.next hb8))
          have hYk := hY2.bl (hbc.next (hbw.next hb8))
          have hXk := hX2.bl (hbc.next (hbw.next hb8))
          have hRp := hRw.bl (hbw.next hb8)
          have qw := hBw.bl (hbw.next hb8)
          have hrow := RowG.bl (ptIn_keep 3) hrow hb8
          go_cut [8] (fun s8 wx => ∃ (g8 : Nat) (s1 : Bool) (A1 : Option Addr) (n1 c1 : Nat) (B1 : Option Addr) (m1 d1 : Nat) (t1 : Bool) (C1 : Option Addr) (i1 e1 : Nat) (D1 : Option Addr) (j1 f1 : Nat), s8 = .pointer (some ⟨g8, 0, none⟩) ∧ Blk wx g8 45 #[.bool s1, .slice A1 n1 c1, .slice B1 m1 d1, .bool t1, .slice C1 i1 e1, .slice D1 j1 f1] ∧ OwP 3 wp.heap.size wx s1 A1 n1 c1 B1 m1 d1 t1 C1 i1 e1 D1 j1 f1 (gradR (dblA p0 p1 p2) p1 p2) ∧ Bl wp wx)
          case first =>
            clear hrow hRw hBw hbw hb8 hbc hok
            go_region_held3 (fun w' => (w'.cell? ⟨wo.heap.size, 0, none⟩ = some (.bool s') ∧ w'.cell? ⟨wo.heap.size, 1, none⟩ = some (.slice A' n' c') ∧ w'.cell? ⟨wo.heap.size, 2, none⟩ = some (.slice B' m' d') ∧ w'.cell? ⟨wo.heap.size, 3, none⟩ = some (.bool t') ∧ w'.cell? ⟨wo.heap.size, 4, none⟩ = some (.slice C' i' e') ∧ w'.cell? ⟨wo.heap.size, 5, none⟩ = some (.slice D' j' f')) ∧ (w'.cell? ⟨wo.heap.size + 1, 0, none⟩ = some (.bool s2) ∧ w'.cell? ⟨wo.heap.size + 1, 1, none⟩ = some (.slice A2 n2 c2) ∧ w'.cell? ⟨wo.heap.size + 1, 2, none⟩ = some (.slice B2 m2 d2) ∧ w'.cell? ⟨wo.heap.size + 1, 3, none⟩ = some (.bool t2) ∧ w'.cell? ⟨wo.heap.size + 1, 4, none⟩ = some (.slice C2 i2 e2) ∧ w'.cell? ⟨wo.heap.size + 1, 5, none⟩ = some (.slice D2 j2 f2)) ∧ (w'.cell? ⟨g3, 0, none⟩ = some (.bool sw) ∧ w'.cell? ⟨g3, 1, none⟩ = some (.slice Aw nw cw) ∧ w'.cell? ⟨g3, 2, none⟩ = some (.slice Bw mw dw))) (first | exact ⟨bx6 (T := 45) (qa.bl slc), bx6 (T := 45) (qb.bl slc), bx3 (T := 34) (qw.bl slc)⟩) (first | (go_at_call 59; (with_reducible refine (sRatSub_any _ (hYj.bl slc) (hYk.bl slc)).mono ?_); rintro e w2 ⟨s2_, A2_, n2_, c2_, B2_, m2_, d2_, rfl, hR2, hb2⟩; (have hz2 : wp.heap.size ≤ w2.heap.size := Bl.size (by exact slc)); (first | have hq : Wk 6 45 _ _ := wk_newd hb2 | have hq : Wk 6 45 _ _ := wk_new hb2 | have hq : Wk 6 45 _ _ := Wk.bl hq hb2 | skip)) | (go_at_call 58; (with_reducible refine (sRatDiv_any _ (hR2.rd.bl slc) (hRp.bl slc)).mono ?_); rintro e w3 ⟨s3_, A3_, n3_, c3_, B3_, m3_, d3_, rfl, hR3, hb3⟩; (have hz3 : wp.heap.size ≤ w3.heap.size := Bl.size (by exact slc)); (first | have hq : Wk 6 45 _ _ := wk_newd hb3 | have hq : Wk 6 45 _ _ := wk_new hb3 | have hq : Wk 6 45 _ _ := Wk.bl hq hb3 | skip)) | (go_at_call 59; (with_reducible refine (sRatSub_any _ (hXk.bl slc) (hXj.bl slc)).mono ?_); rintro e w4 ⟨s4_, A4_, n4_, c4_, B4_, m4_, d4_, rfl, hR4, hb4⟩; (have hz4 : wp.heap.size ≤ w4.heap.size := Bl.size (by exact slc)); (first | have hq : Wk 6 45 _ _ := wk_newd hb4 | have hq : Wk 6 45 _ _ := wk_new hb4 | have hq : Wk 6 45 _ _ := Wk.bl hq hb4 | skip)) | (go_at_call 58; (with_reducible refine (sRatDiv_any _ (hR4.rd.bl slc) (hRp.bl slc)).mono ?_); rintro e w5 ⟨s5_, A5_, n5_, c5_, B5_, m5_, d5_, rfl, hR5, hb5⟩; (have hz5 : wp.heap.size ≤ w5.heap.size := Bl.size (by exact slc)); (first | have hq : Wk 6 45 _ _ := wk_newd hb5 | have hq : Wk 6 45 _ _ := wk_new hb5 | have hq : Wk 6 45 _ _ := Wk.bl hq hb5 | skip); (try obtain ⟨⟨q0, q1, q2, q3, q4, q5⟩, fz0, fz1, fz2, fz3, fz4, fz5⟩ := hq.out6); (have hO5 : OwP 3 wp.heap.size w5 s3_ A3_ n3_ c3_ B3_ m3_ d3_ s5_ A5_ n5_ c5_ B5_ m5_ d5_ (gradR (dblA p0 p1 p2) p1 p2) := OwP.two (hR3.mono (Bl.size (by exact slc))) (hR5.mono (Bl.size (by exact slc))) (by exact slc) (Bl.size (by exact slc)))))
            · go_wp2_with fail
              go_meet
              exact ⟨w5.heap.size, _, _, _, _, _, _, _, _, _, _, _, _, _, _, rfl, Blk.new _ _ _, hO5.bl slc, slc⟩
            · go_wp2_with fail
              go_meet
              exact ⟨w4.heap.size, _, _, _, _, _, _, _, _, _, _, _, _, _, _, rfl, Wk.put6 hq _ _ _ _ _ _, hO5.put6 hq ne_ip _ _ _ _ _ _, slc⟩
            · go_wp2_with fail
              go_meet
              exact ⟨w3.heap.size, _, _, _, _, _, _, _, _, _, _, _, _, _, _, rfl, Wk.put6 hq _ _ _ _ _ _, hO5.put6 hq ne_ip _ _ _ _ _ _, slc⟩
            · go_wp2_with fail
              go_meet
              exact ⟨w2.heap.size, _, _, _, _, _, _, _, _, _, _, _, _, _, _, rfl, Wk.put6 hq _ _ _ _ _ _, hO5.put6 hq ne_ip _ _ _ _ _ _, slc⟩
            · go_wp2_with fail
              go_meet
              exact ⟨wp.heap.size, _, _, _, _, _, _, _, _, _, _, _, _, _, _, rfl, Wk.put6 hq _ _ _ _ _ _, hO5.put6 hq ne_ip _ _ _ _ _ _, slc⟩
          case rest =>
            obtain ⟨g8, s1, A1, n1, c1, B1, m1, d1, t1, C1, i1, e1, D1, j1, f1, rfl, q8, hP8, hb9⟩ := hcut
            obtain ⟨wq, rfl⟩ : ∃ wq : World, wq = wc := ⟨_, rfl⟩
            have hrow := RowG.bl (ptIn_keep 3) hrow hb9
            have hbq : Bl W0 wq := (hbw.next hb8).next hb9
            clear qa qb qw hRp hXj hYj hXk hYk
            obtain ⟨i0, i1, i2, i3, i4, i5⟩ := bx6 q8
            have hgr : grad3 p0 p1 p2 0 = (gradR (dblA p0 p1 p2) p1 p2) := rfl
            by_cases ho : OkP (grad3 p0 p1 p2 0)
            · skip
              have hok' : GradOk p0 p1 p2 1 := hok.step ho
              have hv := hgr.symm
              rw [hv] at hP8
              clear hv hgr
              skip
              have ho := Lib.hid ho; rename_i h_; clear h_
              have hok' := Lib.hid hok'; rename_i h_; clear h_
              clear hok
              go_wp2_with fail
              refine (sIsValidPoint_yes _ hP8.rx hP8.ry ho.out).mono ?_
              rintro e w7 ⟨rfl, hb7⟩
              have hrow := RowG.bl (ptIn_keep 3) hrow hb7
              have hP8 := OwPN.of (hP8.bl hb7)
              have q8 := q8.bl hb7
              have hbq := hbq.next hb7
              have hhi : hi ≤ wp.heap.size := Nat.le_trans hhi0 (Bl.size hb8)
              obtain ⟨i0, i1, i2, i3, i4, i5⟩ := bx6 q8
              go_wp2_with ((refine wpList_append_pt appN_nodup rfl (.tmp 58) (.tmp 60) rfl _ (by rfl) hrow hP8 hhi hlh 1 (by rfl) (by rw [gradTo_len]; omega) W0 hbq (Nat.le_refl _) ?_; intro v' w8 hrow' hb8'; clear hrow hP8))
              have hz8 := hb8'.size
              rw [← gradTo_succ] at hrow'
              go_roundw
              case rel => exact ⟨1, _, by omega, rfl, hrow', hok'.out, hb8', hz8⟩
              case measure => simp [intOf]
            · skip
              have hv := hgr.symm
              rw [hv] at hP8
              clear hv hgr
              skip
              have hv := Lib.hid (gradP_no (k := 0) (by omega) ho)
              have ho := Lib.hid ho; rename_i h_; clear h_
              clear hok
              go_wp2_with fail
              refine (sIsValidPoint_no _ hP8.rx hP8.ry ho.out).mono ?_
              rintro e w7 ⟨rfl, hb7⟩
              go_wp2_with fail
              go_ret
              refine ⟨_, _, _, rfl, ?_, fun _ => ⟨rfl, rfl⟩, (hbc.next hbq).next hb7⟩
              rw [hv.out]
              exact ⟨rfl, Nat.le_refl _, Nat.zero_le _, .inl rfl⟩
      · skip
        have e0 : ((1 : Nat) : Int) = 1 := rfl
        rw [e0]
        clear e0 hk
        have hhi0 := RowG.hiLe hrow
        have hzc := Bl.size hbc
        have hzo := Bl.size hbw
        have hw : IntKind.i64.wrap 2 = 2 := by rfl
        have hw2 : IntKind.i64.wrap 3 = 3 := by rfl
        obtain ⟨wo, rfl⟩ : ∃ wo : World, wo = wr := ⟨_, rfl⟩
        have hbwo := hbc.next hbw
        have hgo : g < wo.heap.size := Nat.lt_of_lt_of_le hg (Bl.size hbwo)
        have z0 : wo.cell? ⟨g, 12, none⟩ = some (.bool s2) := (Bl.cellOf (w := w) (p := ⟨g, 12, none⟩) hbwo hg).trans z0
        have z1 : wo.cell? ⟨g, 13, none⟩ = some (.slice A2 n2 c2) := (Bl.cellOf (w := w) (p := ⟨g, 13, none⟩) hbwo hg).trans z1
        have z2 : wo.cell? ⟨g, 14, none⟩ = some (.slice B2 m2 d2) := (Bl.cellOf (w := w) (p := ⟨g, 14, none⟩) hbwo hg).trans z2
        have z3 : wo.cell? ⟨g, 15, none⟩ = some (.bool t2) := (Bl.cellOf (w := w) (p := ⟨g, 15, none⟩) hbwo hg).trans z3
        have z4 : wo.cell? ⟨g, 16, none⟩ = some (.slice C2 i2 e2) := (Bl.cellOf (w := w) (p := ⟨g, 16, none⟩) hbwo hg).trans z4
        have z5 : wo.cell? ⟨g, 17, none⟩ = some (.slice D2 j2 f2) := (Bl.cellOf (w := w) (p := ⟨g, 17, none⟩) hbwo hg).trans z5
        have x0 : wo.cell? ⟨g, 0, none⟩ = some (.bool s) := (Bl.cellOf (w := w) (p := ⟨g, 0, none⟩) hbwo hg).trans x0
        have x1 : wo.cell? ⟨g, 1, none⟩ = some (.slice A n c) := (Bl.cellOf (w := w) (p := ⟨g, 1, none⟩) hbwo hg).trans x1
        have x2 : wo.cell? ⟨g, 2, none⟩ = some (.slice B m d) := (Bl.cellOf (w := w) (p := ⟨g, 2, none⟩) hbwo hg).trans x2
        have x3 : wo.cell? ⟨g, 3, none⟩ = some (.bool t) := (Bl.cellOf (w := w) (p := ⟨g, 3, none⟩) hbwo hg).trans x3
        have x4 : wo.cell? ⟨g, 4, none⟩ = some (.slice C i e) := (Bl.cellOf (w := w) (p := ⟨g, 4, none⟩) hbwo hg).trans x4
        have x5 : wo.cell? ⟨g, 5, none⟩ = some (.slice D j f) := (Bl.cellOf (w := w) (p := ⟨g, 5, none⟩) hbwo hg).trans x5
        go_upto_region 10 with (fail)
        · refine wp_gen (fun W => Blk W wo.heap.size 45 #[.bool s2, .slice A2 n2 c2, .slice B2 m2 d2, .bool t2, .slice C2 i2 e2, .slice D2 j2 f2] ∧ Blk W (wo.heap.size + 1) 45 #[.bool s, .slice A n c, .slice B m d, .bool t, .slice C i e, .slice D j f] ∧ Bl wo W) ⟨by exact bts, by exact bts, slc⟩ ?_
          rintro wp ⟨qa, qb, hb8⟩
          have hYj := hY2.bl (hbc.next (hbw.next hb8))
          have hXj := hX2.bl (hbc.next (hbw.next hb8))
          have hYk := hY0.bl (hbc.next (hbw.next hb8))
          have hXk := hX0.bl (hbc.next (hbw.next hb8))
          have hRp := hRw.bl (hbw.next hb8)
          have qw := hBw.bl (hbw.next hb8)
          have hrow := RowG.bl (ptIn_keep 3) hrow hb8
          go_cut [8] (fun s8 wx => ∃ (g8 : Nat) (s1 : Bool) (A1 : Option Addr) (n1 c1 : Nat) (B1 : Option Addr) (m1 d1 : Nat) (t1 : Bool) (C1 : Option Addr) (i1 e1 : Nat) (D1 : Option Addr) (j1 f1 : Nat), s8 = .pointer (some ⟨g8, 0, none⟩) ∧ Blk wx g8 45 #[.bool s1, .slice A1 n1 c1, .slice B1 m1 d1, .bool t1, .slice C1 i1 e1, .slice D1 j1 f1] ∧ OwP 3 wp.heap.size wx s1 A1 n1 c1 B1 m1 d1 t1 C1 i1 e1 D1 j1 f1 (gradR (dblA p0 p1 p2) p2 p0) ∧ Bl wp wx)
          case first =>
            clear hrow hRw hBw hbw hb8 hbc hok
            go_region_held3 (fun w' => (w'.cell? ⟨wo.heap.size, 0, none⟩ = some (.bool s2) ∧ w'.cell? ⟨wo.heap.size, 1, none⟩ = some (.slice A2 n2 c2) ∧ w'.cell? ⟨wo.heap.size, 2, none⟩ = some (.slice B2 m2 d2) ∧ w'.cell? ⟨wo.heap.size, 3, none⟩ = some (.bool t2) ∧ w'.cell? ⟨wo.heap.size, 4, none⟩ = some (.slice C2 i2 e2) ∧ w'.cell? ⟨wo.heap.size, 5, none⟩ = some (.slice D2 j2 f2)) ∧ (w'.cell? ⟨wo.heap.size + 1, 0, none⟩ = some (.bool s) ∧ w'.cell? ⟨wo.heap.size + 1, 1, none⟩ = some (.slice A n c) ∧ w'.cell? ⟨wo.heap.size + 1, 2, none⟩ = some (.slice B m d) ∧ w'.cell? ⟨wo.heap.size + 1, 3, none⟩ = some (.bool t) ∧ w'.cell? ⟨wo.heap.size + 1, 4, none⟩ = some (.slice C i e) ∧ w'.cell? ⟨wo.heap.size + 1, 5, none⟩ = some (.slice D j f)) ∧ (w'.cell? ⟨g3, 0, none⟩ = some (.bool sw) ∧ w'.cell? ⟨g3, 1, none⟩ = some (.slice Aw nw cw) ∧ w'.cell? ⟨g3, 2, none⟩ = some (.slice Bw mw dw))) (first | exact ⟨bx6 (T := 45) (qa.bl slc), bx6 (T := 45) (qb.bl slc), bx3 (T := 34) (qw.bl slc)⟩) (first | (go_at_call 59; (with_reducible refine (sRatSub_any _ (hYj.bl slc) (hYk.bl slc)).mono ?_); rintro e w2 ⟨s2_, A2_, n2_, c2_, B2_, m2_, d2_, rfl, hR2, hb2⟩; (have hz2 : wp.heap.size ≤ w2.heap.size := Bl.size (by exact slc)); (first | have hq : Wk 6 45 _ _ := wk_newd hb2 | have hq : Wk 6 45 _ _ := wk_new hb2 | have hq : Wk 6 45 _ _ := Wk.bl hq hb2 | skip)) | (go_at_call 58; (with_reducible refine (sRatDiv_any _ (hR2.rd.bl slc) (hRp.bl slc)).mono ?_); rintro e w3 ⟨s3_, A3_, n3_, c3_, B3_, m3_, d3_, rfl, hR3, hb3⟩; (have hz3 : wp.heap.size ≤ w3.heap.size := Bl.size (by exact slc)); (first | have hq : Wk 6 45 _ _ := wk_newd hb3 | have hq : Wk 6 45 _ _ := wk_new hb3 | have hq : Wk 6 45 _ _ := Wk.bl hq hb3 | skip)) | (go_at_call 59; (with_reducible refine (sRatSub_any _ (hXk.bl slc) (hXj.bl slc)).mono ?_); rintro e w4 ⟨s4_, A4_, n4_, c4_, B4_, m4_, d4_, rfl, hR4, hb4⟩; (have hz4 : wp.heap.size ≤ w4.heap.size := Bl.size (by exact slc)); (first | have hq : Wk 6 45 _ _ := wk_newd hb4 | have hq : Wk 6 45 _ _ := wk_new hb4 | have hq : Wk 6 45 _ _ := Wk.bl hq hb4 | skip)) | (go_at_call 58; (with_reducible refine (sRatDiv_any _ (hR4.rd.bl slc) (hRp.bl slc)).mono ?_); rintro e w5 ⟨s5_, A5_, n5_, c5_, B5_, m5_, d5_, rfl, hR5, hb5⟩; (have hz5 : wp.heap.size ≤ w5.heap.size := Bl.size (by exact slc)); (first | have hq : Wk 6 45 _ _ := wk_newd hb5 | have hq : Wk 6 45 _ _ := wk_new hb5 | have hq : Wk 6 45 _ _ := Wk.bl hq hb5 | skip); (try obtain ⟨⟨q0, q1, q2, q3, q4, q5⟩, fz0, fz1, fz2, fz3, fz4, fz5⟩ := hq.out6); (have hO5 : OwP 3 wp.heap.size w5 s3_ A3_ n3_ c3_ B3_ m3_ d3_ s5_ A5_ n5_ c5_ B5_ m5_ d5_ (gradR (dblA p0 p1 p2) p2 p0) := OwP.two (hR3.mono (Bl.size (by exact slc))) (hR5.mono (Bl.size (by exact slc))) (by exact slc) (Bl.size (by exact slc)))))
            · go_wp2_with fail
              go_meet
              exact ⟨w5.heap.size, _, _, _, _, _, _, _, _, _, _, _, _, _, _, rfl, Blk.new _ _ _, hO5.bl slc, slc⟩
            · go_wp2_with fail
              go_meet
              exact ⟨w4.heap.size, _, _, _, _, _, _, _, _, _, _, _, _, _, _, rfl, Wk.put6 hq _ _ _ _ _ _, hO5.put6 hq ne_ip _ _ _ _ _ _, slc⟩
            · go_wp2_with fail
              go_meet
              exact ⟨w3.heap.size, _, _, _, _, _, _, _, _, _, _, _, _, _, _, rfl, Wk.put6 hq _ _ _ _ _ _, hO5.put6 hq ne_ip _ _ _ _ _ _, slc⟩
            · go_wp2_with fail
              go_meet
              exact ⟨w2.heap.size, _, _, _, _, _, _, _, _, _, _, _, _, _, _, rfl, Wk.put6 hq _ _ _ _ _ _, hO5.put6 hq ne_ip _ _ _ _ _ _, slc⟩
            · go_wp2_with fail
              go_meet
              exact ⟨wp.heap.size, _, _, _, _, _, _, _, _, _, _, _, _, _, _, rfl, Wk.put6 hq _ _ _ _ _ _, hO5.put6 hq ne_ip _ _ _ _ _ _, slc⟩
          case rest =>
            obtain ⟨g8, s1, A1, n1, c1, B1, m1, d1, t1, C1, i1, e1, D1, j1, f1, rfl, q8, hP8, hb9⟩ := hcut
            obtain ⟨wq, rfl⟩ : ∃ wq : World, wq = wc := ⟨_, rfl⟩
            have hrow := RowG.bl (ptIn_keep 3) hrow hb9
            have hbq : Bl W0 wq := (hbw.next hb8).next hb9
            clear qa qb qw hRp hXj hYj hXk hYk
            obtain ⟨i0, i1, i2, i3, i4, i5⟩ := bx6 q8
            have hgr : grad3 p0 p1 p2 1 = (gradR (dblA p0 p1 p2) p2 p0) := rfl
            by_cases ho : OkP (grad3 p0 p1 p2 1)
            · skip
              have hok' : GradOk p0 p1 p2 2 := hok.step ho
              have hv := hgr.symm
              rw [hv] at hP8
              clear hv hgr
              skip
              have ho := Lib.hid ho; rename_i h_; clear h_
              have hok' := Lib.hid hok'; rename_i h_; clear h_
              clear hok
              go_wp2_with fail
              refine (sIsValidPoint_yes _ hP8.rx hP8.ry ho.out).mono ?_
              rintro e w7 ⟨rfl, hb7⟩
              have hrow := RowG.bl (ptIn_keep 3) hrow hb7
              have hP8 := OwPN.of (hP8.bl hb7)
              have q8 := q8.bl hb7
              have hbq := hbq.next hb7
              have hhi : hi ≤ wp.heap.size := Nat.le_trans hhi0 (Bl.size hb8)
              obtain ⟨i0, i1, i2, i3, i4, i5⟩ := bx6 q8
              go_wp2_with ((refine wpList_append_pt appN_nodup rfl (.tmp 58) (.tmp 60) rfl _ (by rfl) hrow hP8 hhi hlh 1 (by rfl) (by rw [gradTo_len]; omega) W0 hbq (Nat.le_refl _) ?_; intro v' w8 hrow' hb8'; clear hrow hP8))
              have hz8 := hb8'.size
              rw [← gradTo_succ] at hrow'
              go_roundw
              case rel => exact ⟨2, _, by omega, rfl, hrow', hok'.out, hb8', hz8⟩
              case measure => simp [intOf]
            · skip
              have hv := hgr.symm
              rw [hv] at hP8
              clear hv hgr
              skip
              have hv := Lib.hid (gradP_no (k := 1) (by omega) ho)
              have ho := Lib.hid ho; rename_i h_; clear h_
              clear hok
              go_wp2_with fail
              refine (sIsValidPoint_no _ hP8.rx hP8.ry ho.out).mono ?_
              rintro e w7 ⟨rfl, hb7⟩
              go_wp2_with fail
              go_ret
              refine ⟨_, _, _, rfl, ?_, fun _ => ⟨rfl, rfl⟩, (hbc.next hbq).next hb7⟩
              rw [hv.out]
              exact ⟨rfl, Nat.le_refl _, Nat.zero_le _, .inl rfl⟩
      · skip
        have e0 : ((2 : Nat) : Int) = 2 := rfl
        rw [e0]
        clear e0 hk
        have hhi0 := RowG.hiLe hrow
        have hzc := Bl.size hbc
        have hzo := Bl.size hbw
        have hw : IntKind.i64.wrap 3 = 3 := by rfl
        have hw2 : IntKind.i64.wrap 4 = 4 := by rfl
        obtain ⟨wo, rfl⟩ : ∃ wo : World, wo = wr := ⟨_, rfl⟩
        have hbwo := hbc.next hbw
        have hgo : g < wo.heap.size := Nat.lt_of_lt_of_le hg (Bl.size hbwo)
        have x0 : wo.cell? ⟨g, 0, none⟩ = some (.bool s) := (Bl.cellOf (w := w) (p := ⟨g, 0, none⟩) hbwo hg).trans x0
        have x1 : wo.cell? ⟨g, 1, none⟩ = some (.slice A n c) := (Bl.cellOf (w := w) (p := ⟨g, 1, none⟩) hbwo hg).trans x1
        have x2 : wo.cell? ⟨g, 2, none⟩ = some (.slice B m d) := (Bl.cellOf (w := w) (p := ⟨g, 2, none⟩) hbwo hg).trans x2
        have x3 : wo.cell? ⟨g, 3, none⟩ = some (.bool t) := (Bl.cellOf (w := w) (p := ⟨g, 3, none⟩) hbwo hg).trans x3
        have x4 : wo.cell? ⟨g, 4, none⟩ = some (.slice C i e) := (Bl.cellOf (w := w) (p := ⟨g, 4, none⟩) hbwo hg).trans x4
        have x5 : wo.cell? ⟨g, 5, none⟩ = some (.slice D j f) := (Bl.cellOf (w := w) (p := ⟨g, 5, none⟩) hbwo hg).trans x5
        have y0 : wo.cell? ⟨g, 6, none⟩ = some (.bool s') := (Bl.cellOf (w := w) (p := ⟨g, 6, none⟩) hbwo hg).trans y0
        have y1 : wo.cell? ⟨g, 7, none⟩ = some (.slice A' n' c') := (Bl.cellOf (w := w) (p := ⟨g, 7, none⟩) hbwo hg).trans y1
        have y2 : wo.cell? ⟨g, 8, none⟩ = some (.slice B' m' d') := (Bl.cellOf (w := w) (p := ⟨g, 8, none⟩) hbwo hg).trans y2
        have y3 : wo.cell? ⟨g, 9, none⟩ = some (.bool t') := (Bl.cellOf (w := w) (p := ⟨g, 9, none⟩) hbwo hg).trans y3
        have y4 : wo.cell? ⟨g, 10, none⟩ = some (.slice C' i' e') := (Bl.cellOf (w := w) (p := ⟨g, 10, none⟩) hbwo hg).trans y4
        have y5 : wo.cell? ⟨g, 11, none⟩ = some (.slice D' j' f') := (Bl.cellOf (w := w) (p := ⟨g, 11, none⟩) hbwo hg).trans y5
        go_upto_region 10 with (fail)
        · refine wp_gen (fun W => Blk W wo.heap.size 45 #[.bool s, .slice A n c, .slice B m d, .bool t, .slice C i e, .slice D j f] ∧ Blk W (wo.heap.size + 1) 45 #[.bool s', .slice A' n' c', .slice B' m' d', .bool t', .slice C' i' e', .slice D' j' f'] ∧ Bl wo W) ⟨by exact bts, by exact bts, slc⟩ ?_
          rintro wp ⟨qa, qb, hb8⟩
          have hYj := hY0.bl (hbc.next (hbw.next hb8))
          have hXj := hX0.bl (hbc.next (hbw.next hb8))
          have hYk := hY1.bl (hbc.next (hbw.next hb8))
          have hXk := hX1.bl (hbc.next (hbw.next hb8))
          have hRp := hRw.bl (hbw.next hb8)
          have qw := hBw.bl (hbw.next hb8)
          have hrow := RowG.bl (ptIn_keep 3) hrow hb8
          go_cut [8] (fun s8 wx => ∃ (g8 : Nat) (s1 : Bool) (A1 : Option Addr) (n1 c1 : Nat) (B1 : Option Addr) (m1 d1 : Nat) (t1 : Bool) (C1 : Option Addr) (i1 e1 : Nat) (D1 : Option Addr) (j1 f1 : Nat), s8 = .pointer (some ⟨g8, 0, none⟩) ∧ Blk wx g8 45 #[.bool s1, .slice A1 n1 c1, .slice B1 m1 d1, .bool t1, .slice C1 i1 e1, .slice D1 j1 f1] ∧ OwP 3 wp.heap.size wx s1 A1 n1 c1 B1 m1 d1 t1 C1 i1 e1 D1 j1 f1 (gradR (dblA p0 p1 p2) p0 p1) ∧ Bl wp wx)
          case first =>
            clear hrow hRw hBw hbw hb8 hbc hok
            go_region_held3 (fun w' => (w'.cell? ⟨wo.heap.size, 0, none⟩ = some (.bool s) ∧ w'.cell? ⟨wo.heap.size, 1, none⟩ = some (.slice A n c) ∧ w'.cell? ⟨wo.heap.size, 2, none⟩ = some (.slice B m d) ∧ w'.cell? ⟨wo.heap.size, 3, none⟩ = some (.bool t) ∧ w'.cell? ⟨wo.heap.size, 4, none⟩ = some (.slice C i e) ∧ w'.cell? ⟨wo.heap.size, 5, none⟩ = some (.slice D j f)) ∧ (w'.cell? ⟨wo.heap.size + 1, 0, none⟩ = some (.bool s') ∧ w'.cell? ⟨wo.heap.size + 1, 1, none⟩ = some (.slice A' n' c') ∧ w'.cell? ⟨wo.heap.size + 1, 2, none⟩ = some (.slice B' m' d') ∧ w'.cell? ⟨wo.heap.size + 1, 3, none⟩ = some (.bool t') ∧ w'.cell? ⟨wo.heap.size + 1, 4, none⟩ = some (.slice C' i' e') ∧ w'.cell? ⟨wo.heap.size + 1, 5, none⟩ = some (.slice D' j' f')) ∧ (w'.cell? ⟨g3, 0, none⟩ = some (.bool sw) ∧ w'.cell? ⟨g3, 1, none⟩ = some (.slice Aw nw cw) ∧ w'.cell? ⟨g3, 2, none⟩ = some (.slice Bw mw dw))) (first | exact ⟨bx6 (T := 45) (qa.bl slc), bx6 (T := 45) (qb.bl slc), bx3 (T := 34) (qw.bl slc)⟩) (first | (go_at_call 59; (with_reducible refine (sRatSub_any _ (hYj.bl slc) (hYk.bl slc)).mono ?_); rintro e w2 ⟨s2_, A2_, n2_, c2_, B2_, m2_, d2_, rfl, hR2, hb2⟩; (have hz2 : wp.heap.size ≤ w2.heap.size := Bl.size (by exact slc)); (first | have hq : Wk 6 45 _ _ := wk_newd hb2 | have hq : Wk 6 45 _ _ := wk_new hb2 | have hq : Wk 6 45 _ _ := Wk.bl hq hb2 | skip)) | (go_at_call 58; (with_reducible refine (sRatDiv_any _ (hR2.rd.bl slc) (hRp.bl slc)).mono ?_); rintro e w3 ⟨s3_, A3_, n3_, c3_, B3_, m3_, d3_, rfl, hR3, hb3⟩; (have hz3 : wp.heap.size ≤ w3.heap.size := Bl.size (by exact slc)); (first | have hq : Wk 6 45 _ _ := wk_newd hb3 | have hq : Wk 6 45 _ _ := wk_new hb3 | have hq : Wk 6 45 _ _ := Wk.bl hq hb3 | skip)) | (go_at_call 59; (with_reducible refine (sRatSub_any _ (hXk.bl slc) (hXj.bl slc)).mono ?_); rintro e w4 ⟨s4_, A4_, n4_, c4_, B4_, m4_, d4_, rfl, hR4, hb4⟩; (have hz4 : wp.heap.size ≤ w4.heap.size := Bl.size (by exact slc)); (first | have hq : Wk 6 45 _ _ := wk_newd hb4 | have hq : Wk 6 45 _ _ := wk_new hb4 | have hq : Wk 6 45 _ _ := Wk.bl hq hb4 | skip)) | (go_at_call 58; (with_reducible refine (sRatDiv_any _ (hR4.rd.bl slc) (hRp.bl slc)).mono ?_); rintro e w5 ⟨s5_, A5_, n5_, c5_, B5_, m5_, d5_, rfl, hR5, hb5⟩; (have hz5 : wp.heap.size ≤ w5.heap.size := Bl.size (by exact slc)); (first | have hq : Wk 6 45 _ _ := wk_newd hb5 | have hq : Wk 6 45 _ _ := wk_new hb5 | have hq : Wk 6 45 _ _ := Wk.bl hq hb5 | skip); (try obtain ⟨⟨q0, q1, q2, q3, q4, q5⟩, fz0, fz1, fz2, fz3, fz4, fz5⟩ := hq.out6); (have hO5 : OwP 3 wp.heap.size w5 s3_ A3_ n3_ c3_ B3_ m3_ d3_ s5_ A5_ n5_ c5_ B5_ m5_ d5_ (gradR (dblA p0 p1 p2) p0 p1) := OwP.two (hR3.mono (Bl.size (by exact slc))) (hR5.mono (Bl.size (by exact slc))) (by exact slc) (Bl.size (by exact slc)))))
            · go_wp2_with fail
              go_meet
              exact ⟨w5.heap.size, _, _, _, _, _, _, _, _, _, _, _, _, _, _, rfl, Blk.new _ _ _, hO5.bl slc, slc⟩
            · go_wp2_with fail
              go_meet
              exact ⟨w4.heap.size, _, _, _, _, _, _, _, _, _, _, _, _, _, _, rfl, Wk.put6 hq _ _ _ _ _ _, hO5.put6 hq ne_ip _ _ _ _ _ _, slc⟩
            · go_wp2_with fail
              go_meet
              exact ⟨w3.heap.size, _, _, _, _, _, _, _, _, _, _, _, _, _, _, rfl, Wk.put6 hq _ _ _ _ _ _, hO5.put6 hq ne_ip _ _ _ _ _ _, slc⟩
            · go_wp2_with fail
              go_meet
              exact ⟨w2.heap.size, _, _, _, _, _, _, _, _, _, _, _, _, _, _, rfl, Wk.put6 hq _ _ _ _ _ _, hO5.put6 hq ne_ip _ _ _ _ _ _, slc⟩
            · go_wp2_with fail
              go_meet
              exact ⟨wp.heap.size, _, _, _, _, _, _, _, _, _, _, _, _, _, _, rfl, Wk.put6 hq _ _ _ _ _ _, hO5.put6 hq ne_ip _ _ _ _ _ _, slc⟩
          case rest =>
            obtain ⟨g8, s1, A1, n1, c1, B1, m1, d1, t1, C1, i1, e1, D1, j1, f1, rfl, q8, hP8, hb9⟩ := hcut
            obtain ⟨wq, rfl⟩ : ∃ wq : World, wq = wc := ⟨_, rfl⟩
            have hrow := RowG.bl (ptIn_keep 3) hrow hb9
            have hbq : Bl W0 wq := (hbw.next hb8).next hb9
            clear qa qb qw hRp hXj hYj hXk hYk
            obtain ⟨i0, i1, i2, i3, i4, i5⟩ := bx6 q8
            have hgr : grad3 p0 p1 p2 2 = (gradR (dblA p0 p1 p2) p0 p1) := rfl
            by_cases ho : OkP (grad3 p0 p1 p2 2)
            · skip
              have hok' : GradOk p0 p1 p2 3 := hok.step ho
              have hv := hgr.symm
              rw [hv] at hP8
              clear hv hgr
              skip
              have ho := Lib.hid ho; rename_i h_; clear h_
              have hok' := Lib.hid hok'; rename_i h_; clear h_
              clear hok
              go_wp2_with fail
              refine (sIsValidPoint_yes _ hP8.rx hP8.ry ho.out).mono ?_
              rintro e w7 ⟨rfl, hb7⟩
              have hrow := RowG.bl (ptIn_keep 3) hrow hb7
              have hP8 := OwPN.of (hP8.bl hb7)
              have q8 := q8.bl hb7
              have hbq := hbq.next hb7
              have hhi : hi ≤ wp.heap.size := Nat.le_trans hhi0 (Bl.size hb8)
              obtain ⟨i0, i1, i2, i3, i4, i5⟩ := bx6 q8
              go_wp2_with ((refine wpList_append_pt appN_nodup rfl (.tmp 58) (.tmp 60) rfl _ (by rfl) hrow hP8 hhi hlh 1 (by rfl) (by rw [gradTo_len]; omega) W0 hbq (Nat.le_refl _) ?_; intro v' w8 hrow' hb8'; clear hrow hP8))
              have hz8 := hb8'.size
              rw [← gradTo_succ] at hrow'
              go_roundw
              case rel => exact ⟨3, _, by omega, rfl, hrow', hok'.out, hb8', hz8⟩
              case measure => simp [intOf]
            · skip
              have hv := hgr.symm
              rw [hv] at hP8
              clear hv hgr
              skip
              have hv := Lib.hid (gradP_no (k := 2) (by omega) ho)
              have ho := Lib.hid ho; rename_i h_; clear h_
              clear hok
              go_wp2_with fail
              refine (sIsValidPoint_no _ hP8.rx hP8.ry ho.out).mono ?_
              rintro e w7 ⟨rfl, hb7⟩
              go_wp2_with fail
              go_ret
              refine ⟨_, _, _, rfl, ?_, fun _ => ⟨rfl, rfl⟩, (hbc.next hbq).next hb7⟩
              rw [hv.out]
              exact ⟨rfl, Nat.le_refl _, Nat.zero_le _, .inl rfl⟩
      · skip
        have e0 : ((3 : Nat) : Int) = 3 := rfl
        rw [e0]
        clear e0 hk
        have hv := Lib.hid (gradP_yes hok)
        have hok := Lib.hid hok; rename_i h_; clear h_
        obtain ⟨A1, c1, rfl, hZ⟩ := RowP.own hrow (by rw [gradTo_len]; omega)
        rw [gradTo_len] at hZ ⊢
        go_wp2_with fail
        go_ret
        refine ⟨_, _, _, rfl, ?_, fun h => by omega, hbc.next hbw⟩
        rw [hv.out]
        exact hZ.low (Bl.size hbc) (RowG.hiLe hrow)


end

section


set_option maxRecDepth 100000 in
set_option maxHeartbeats 1000000 in
theorem Gradients_any (w : World) {g n c0 : Nat} {l : List PtD} (h : RdPS w (some ⟨g, 0, none⟩) n c0 l) :
    Calls Tryz.prog 14 #[.slice (some ⟨g, 0, none⟩) n c0] w fun e w' => ∃ A1 n1 c1, e = .returned (.slice A1 n1 c1) ∧ OwPZ 3 45 w.heap.size w'.heap.size w' A1 n1 c1 (gradL l) ∧ (n1 = 0 → A1 = none ∧ c1 = 0) ∧ Bl w w' := by
  by_cases hp : propB l = true
  · obtain ⟨_, p0, p1, p2, e, _⟩ := propB_out hp
    subst e
    obtain rfl : 3 = n := h.len
    have hv : gradL [p0, p1, p2] = gradP p0 p1 p2 := by unfold gradL; rw [if_pos hp]; rfl
    rw [hv]
    exact Gradients_three _ h (Lib.hid hp)
  · have hval := Lib.hid (show gradL l = [] by unfold gradL; rw [if_neg hp])
    have hp := Lib.hid (Bool.eq_false_iff.2 hp); rename_i h_; clear h_
    go_enter Tryz.func14, Tryz.ntmps14
    go_wp2_with fail
    refine (IsProper_any _ h).mono ?_
    rw [hp.out]
    rintro e w1 ⟨rfl, hb1⟩
    go_wp2_with fail
    go_ret
    refine ⟨_, _, _, rfl, ?_, fun _ => ⟨rfl, rfl⟩, hb1⟩
    rw [hval.out]
    exact ⟨rfl, Nat.le_refl _, Nat.zero_le _, .inl rfl⟩
theorem Gradients_z (w : World) {g n c0 : Nat} {l : List PtD} (h : RdPS w (some ⟨g, 0, none⟩) n c0 l) :
    Calls Tryz.prog 14 #[.slice (some ⟨g, 0, none⟩) n c0] w fun e w' => ∃ A1 n1 c1, e = .returned (.slice A1 n1 c1) ∧ OwPZ 3 45 w.heap.size w'.heap.size w' A1 n1 c1 (gradL l) ∧ Bl w w' := by
  refine (Gradients_any w h).mono ?_
  rintro e w' ⟨A1, n1, c1, h1, h2, _, h3⟩
  exact ⟨A1, n1, c1, h1, h2, h3⟩

set_option maxRecDepth 100000 in
set_option maxHeartbeats 1000000 in
theorem sGradients_any (w : World) {g n c0 : Nat} {l : List PtD} (h : RdPS w (some ⟨g, 0, none⟩) n c0 l) :
    Calls Tryz.prog 12 #[.slice (some ⟨g, 0, none⟩) n c0] w fun e w' => ∃ A1 n1 c1, e = .returned (.slice A1 n1 c1) ∧ OwPZ 3 45 w.heap.size w'.heap.size w' A1 n1 c1 (gradL l) ∧ (n1 = 0 → A1 = none ∧ c1 = 0) ∧ Bl w w' := by
  by_cases hp : propB l = true
  · obtain ⟨_, p0, p1, p2, e, _⟩ := propB_out hp
    subst e
    obtain rfl : 3 = n := h.len
    have hv : gradL [p0, p1, p2] = gradP p0 p1 p2 := by unfold gradL; rw [if_pos hp]; rfl
    rw [hv]
    exact sGradients_three _ h (Lib.hid hp)
  · have hval := Lib.hid (show gradL l = [] by unfold gradL; rw [if_neg hp])
    have hp := Lib.hid (Bool.eq_false_iff.2 hp); rename_i h_; clear h_
    go_enter Tryz.func12, Tryz.ntmps12
    go_wp2_with fail
    refine (sIsProper_any _ h).mono ?_
    rw [hp.out]
    rintro e w1 ⟨rfl, hb1⟩
    go_wp2_with fail
    go_ret
    refine ⟨_, _, _, rfl, ?_, fun _ => ⟨rfl, rfl⟩, hb1⟩
    rw [hval.out]
    exact ⟨rfl, Nat.le_refl _, Nat.zero_le _, .inl rfl⟩
theorem sGradients_z (w : World) {g n c0 : Nat} {l : List PtD} (h : RdPS w (some ⟨g, 0, none⟩) n c0 l) :
    Calls Tryz.prog 12 #[.slice (some ⟨g, 0, none⟩) n c0] w fun e w' => ∃ A1 n1 c1, e = .returned (.slice A1 n1 c1) ∧ RdPS w' A1 n1 c1 (gradL l) ∧ Bl w w' := by
  refine (sGradients_any w h).mono ?_
  rintro e w' ⟨A1, n1, c1, h1, h2, _, h3⟩
  exact ⟨A1, n1, c1, h1, h2.rd, h3⟩

theorem len24_divR' (r s : RatD) : (divR r s).mag.length ≤ 24 ∧ (divR r s).den.length ≤ 24 := by
  unfold divR
  split
  · exact len24_ofFrac _ _
  · exact len24_zR

theorem gradR_sz (D : RatD) (j k : PtD) : szP (gradR D j k) ≤ 96 := by
  have h1 := len24_divR' (subR j.y k.y) D
  have h2 := len24_divR' (subR k.x j.x) D
  show szR (divR _ _) + szR (divR _ _) ≤ 96
  simp only [szR]
  omega
theorem gradL_sz (l : List PtD) : szL szP (gradL l) ≤ 1048576 := by
  unfold gradL gradP
  split
  · split
    · have e0 : pix (gradTo (pix l 0) (pix l 1) (pix l 2) 3) 0 = gradR (dblA (pix l 0) (pix l 1) (pix l 2)) (pix l 1) (pix l 2) := rfl
      have e1 : pix (gradTo (pix l 0) (pix l 1) (pix l 2) 3) 1 = gradR (dblA (pix l 0) (pix l 1) (pix l 2)) (pix l 2) (pix l 0) := rfl
      have e2 : pix (gradTo (pix l 0) (pix l 1) (pix l 2) 3) 2 = gradR (dblA (pix l 0) (pix l 1) (pix l 2)) (pix l 0) (pix l 1) := rfl
      have h0 := gradR_sz (dblA (pix l 0) (pix l 1) (pix l 2)) (pix l 1) (pix l 2)
      have h1 := gradR_sz (dblA (pix l 0) (pix l 1) (pix l 2)) (pix l 2) (pix l 0)
      have h2 := gradR_sz (dblA (pix l 0) (pix l 1) (pix l 2)) (pix l 0) (pix l 1)
      have hl := gradTo_len (pix l 0) (pix l 1) (pix l 2) 3
      unfold szL
      rw [hl]
      simp only [sumTo, e0, e1, e2]
      omega
    · simp [szL, sumTo]
  · simp [szL, sumTo]


end

end Go.Proofs.YtggjdgjkdmgjnaaGreat
