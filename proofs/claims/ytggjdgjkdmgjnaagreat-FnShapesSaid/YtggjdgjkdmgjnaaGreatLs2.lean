-- merged: Gr2 Gr3 Lm0 Lm1 Ls1 Ls2
import Derived.Test.YtggjdgjkdmgjnaaGreatRows
import Derived.Test.YtggjdgjkdmgjnaaGreatGr1
import Derived.Test.YtggjdgjkdmgjnaaGreatRw3
import Derived.Test.YtggjdgjkdmgjnaaGreatAr
import Derived.Test.YtggjdgjkdmgjnaaGreatDv1
namespace Go.Proofs.YtggjdgjkdmgjnaaGreat
open Go.RowKit
section


set_option maxRecDepth 100000 in
set_option maxHeartbeats 8000000 in
theorem sGradients_three (w : World) {g c0 : Nat} {p0 p1 p2 : PtD} (h : RdPS w (some ⟨g, 0, none⟩) 3 c0 [p0, p1, p2]) (hp : Hid (propB [p0, p1, p2] = true)) :
    Calls Tryz.prog 12 #[.slice (some ⟨g, 0, none⟩) 3 c0] w fun e w' => ∃ A1 n1 c1, e = .returned (.slice A1 n1 c1) ∧ OwPZ 3 45 w.heap.size w'.heap.size w' A1 n1 c1 (gradP p0 p1 p2) ∧ (n1 = 0 → A1 = none ∧ c1 = 0) ∧ Bl w w' := by
  obtain ⟨_, e0, hg, hc0⟩ := h.cells 0 (by omega)
  cases e0
  rw [Addr.add_lit] at hc0
  obtain ⟨s, A, n, c, B, m, d, t, C, i, e, D, j, f, ⟨x0, x1, x2, x3, x4, x5⟩, hX0, hY0⟩ := (show PtAt w ⟨g, 0, none⟩ p0 from hc0)
  have x0 : w.cell? ⟨g, 0, none⟩ = some (.bool s) := x0
  have x1 : w.cell? ⟨g, 1, none⟩ = some (.slice A n c) := x1
  have x2 : w.cell? ⟨g, 2, none⟩ = some (.slice B m d) := x2
  have x3 : w.cell? ⟨g, 3, none⟩ = some (.bool t) := x3
  have x4 : w.cell? ⟨g, 4, none⟩ = some (.slice C i e) := x4
  have x5 : w.cell? ⟨g, 5, none⟩ = some (.slice D j f) := x5
  obtain ⟨_, e0, hg, hc1⟩ := h.cells 1 (by omega)
  cases e0
  rw [Addr.add_lit] at hc1
  obtain ⟨s', A', n', c', B', m', d', t', C', i', e', D', j', f', ⟨y0, y1, y2, y3, y4, y5⟩, hX1, hY1⟩ := (show PtAt w ⟨g, 6, none⟩ p1 from hc1)
  have y0 : w.cell? ⟨g, 6, none⟩ = some (.bool s') := y0
  have y1 : w.cell? ⟨g, 7, none⟩ = some (.slice A' n' c') := y1
  have y2 : w.cell? ⟨g, 8, none⟩ = some (.slice B' m' d') := y2
  have y3 : w.cell? ⟨g, 9, none⟩ = some (.bool t') := y3
  have y4 : w.cell? ⟨g, 10, none⟩ = some (.slice C' i' e') := y4
  have y5 : w.cell? ⟨g, 11, none⟩ = some (.slice D' j' f') := y5
  obtain ⟨_, e0, hg, hc2⟩ := h.cells 2 (by omega)
  cases e0
  rw [Addr.add_lit] at hc2
  obtain ⟨s2, A2, n2, c2, B2, m2, d2, t2, C2, i2, e2, D2, j2, f2, ⟨z0, z1, z2, z3, z4, z5⟩, hX2, hY2⟩ := (show PtAt w ⟨g, 12, none⟩ p2 from hc2)
  have z0 : w.cell? ⟨g, 12, none⟩ = some (.bool s2) := z0
  have z1 : w.cell? ⟨g, 13, none⟩ = some (.slice A2 n2 c2) := z1
  have z2 : w.cell? ⟨g, 14, none⟩ = some (.slice B2 m2 d2) := z2
  have z3 : w.cell? ⟨g, 15, none⟩ = some (.bool t2) := z3
  have z4 : w.cell? ⟨g, 16, none⟩ = some (.slice C2 i2 e2) := z4
  have z5 : w.cell? ⟨g, 17, none⟩ = some (.slice D2 j2 f2) := z5
  clear hc0 hc1 hc2
  go_enter Tryz.func12, Tryz.ntmps12
  go_wp2_with fail
  refine (sIsProper_any _ h).mono ?_
  rw [hp.out]
  rintro e w1 ⟨rfl, hb1⟩
  have hz1 := Bl.size hb1
  go_wp2_with fail
  go_cut [3] (fun s3 wx => ∃ (g3 : Nat) (sw : Bool) (Aw : Option Addr) (nw cw : Nat) (Bw : Option Addr) (mw dw : Nat), s3 = .pointer (some ⟨g3, 0, none⟩) ∧ Blk wx g3 34 #[.bool sw, .slice Aw nw cw, .slice Bw mw dw] ∧ RdR wx sw Aw nw cw Bw mw dw (dblA p0 p1 p2) ∧ Bl w wx)
  case first =>
    go_region_held3 (fun w' => (w'.cell? ⟨g, 0, none⟩ = some (.bool s) ∧ w'.cell? ⟨g, 1, none⟩ = some (.slice A n c) ∧ w'.cell? ⟨g, 2, none⟩ = some (.slice B m d) ∧ w'.cell? ⟨g, 3, none⟩ = some (.bool t) ∧ w'.cell? ⟨g, 4, none⟩ = some (.slice C i e) ∧ w'.cell? ⟨g, 5, none⟩ = some (.slice D j f)) ∧ (w'.cell? ⟨g, 6, none⟩ = some (.bool s') ∧ w'.cell? ⟨g, 7, none⟩ = some (.slice A' n' c') ∧ w'.cell? ⟨g, 8, none⟩ = some (.slice B' m' d') ∧ w'.cell? ⟨g, 9, none⟩ = some (.bool t') ∧ w'.cell? ⟨g, 10, none⟩ = some (.slice C' i' e') ∧ w'.cell? ⟨g, 11, none⟩ = some (.slice D' j' f')) ∧ (w'.cell? ⟨g, 12, none⟩ = some (.bool s2) ∧ w'.cell? ⟨g, 13, none⟩ = some (.slice A2 n2 c2) ∧ w'.cell? ⟨g, 14, none⟩ = some (.slice B2 m2 d2) ∧ w'.cell? ⟨g, 15, none⟩ = some (.bool t2) ∧ w'.cell? ⟨g, 16, none⟩ = some (.slice C2 i2 e2) ∧ w'.cell? ⟨g, 17, none⟩ = some (.slice D2 j2 f2))) (first | exact ⟨⟨(Bl.cellOf (w := w) (p := ⟨g, 0, none⟩) slc hg).trans x0, (Bl.cellOf (w := w) (p := ⟨g, 1, none⟩) slc hg).trans x1, (Bl.cellOf (w := w) (p := ⟨g, 2, none⟩) slc hg).trans x2, (Bl.cellOf (w := w) (p := ⟨g, 3, none⟩) slc hg).trans x3, (Bl.cellOf (w := w) (p := ⟨g, 4, none⟩) slc hg).trans x4, (Bl.cellOf (w := w) (p := ⟨g, 5, none⟩) slc hg).trans x5⟩, ⟨(Bl.cellOf (w := w) (p := ⟨g, 6, none⟩) slc hg).trans y0, (Bl.cellOf (w := w) (p := ⟨g, 7, none⟩) slc hg).trans y1, (Bl.cellOf (w := w) (p := ⟨g, 8, none⟩) slc hg).trans y2, (Bl.cellOf (w := w) (p := ⟨g, 9, none⟩) slc hg).trans y3, (Bl.cellOf (w := w) (p := ⟨g, 10, none⟩) slc hg).trans y4, (Bl.cellOf (w := w) (p := ⟨g, 11, none⟩) slc hg).trans y5⟩, ⟨(Bl.cellOf (w := w) (p := ⟨g, 12, none⟩) slc hg).trans z0, (Bl.cellOf (w := w) (p := ⟨g, 13, none⟩) slc hg).trans z1, (Bl.cellOf (w := w) (p := ⟨g, 14, none⟩) slc hg).trans z2, (Bl.cellOf (w := w) (p := ⟨g, 15, none⟩) slc hg).trans z3, (Bl.cellOf (w := w) (p := ⟨g, 16, none⟩) slc hg).trans z4, (Bl.cellOf (w := w) (p := ⟨g, 17, none⟩) slc hg).trans z5⟩⟩) (first | (go_at_call 57; refine (sDoubleArea_any _ (hX0.bl slc) (hY0.bl slc) (hX1.bl slc) (hY1.bl slc) (hX2.bl slc) (hY2.bl slc)).mono ?_; rintro en w3 ⟨s3, A3, n3, c3, B3, m3, d3, rfl, hR3, hb3⟩; (first | have hq : Wk 3 34 _ _ := wk_newd hb3 | have hq : Wk 3 34 _ _ := wk_new hb3 | skip); (try obtain ⟨⟨q0, q1, q2⟩, fz0, fz1, fz2⟩ := hq.out3)))
    · go_wp2_with fail
      go_meet
      exact ⟨w3.heap.size, _, _, _, _, _, _, _, rfl, Blk.new _ _ _, hR3.rd.bl slc, slc⟩
    · go_wp2_with fail
      go_meet
      exact ⟨w1.heap.size, _, _, _, _, _, _, _, rfl, Wk.put3 hq _ _ _, (((hR3.far (by simp) _).far (by simp) _).far (by simp) _).rd, slc⟩
  case rest =>
    obtain ⟨g3, sw, Aw, nw, cw, Bw, mw, dw, rfl, hBw, hRw, hbc⟩ := hcut
    go_wp2_with fail
    obtain ⟨W0, rfl⟩ : ∃ W0 : World, W0 = wc := ⟨_, rfl⟩
    go_loopw [4, 25] (fun v i wr => ∃ (k hi : Nat), k ≤ 3 ∧ i = .int .i64 (k : Int) ∧ RowP List.Nodup W0.heap.size hi wr v (gradTo p0 p1 p2 k) ∧ GradOk p0 p1 p2 k ∧ Bl W0 wr ∧ W0.heap.size ≤ hi) (fun _ i _ => 3 - (intOf i).toNat)
    case atStart => exact ⟨0, _, by omega, rfl, RowG.empty appN_nodup W0 (Nat.le_refl _), fun j hj => by omega, (Bl.refl _).alloc _, by omega⟩
    case round =>
      obtain ⟨k, hi, hk, rfl, hrow, hok, hbw, hlh⟩ := hrel
      rcases (show k = 0 ∨ k = 1 ∨ k = 2 ∨ k = 3 by omega) with rfl | rfl | rfl | rfl
      · skip
        have e0 : ((0 : Nat) : Int) = 0 := rfl
        rw [e0]
        clear e0 hk
        have hhi0 := RowG.hiLe hrow
        have hzc := Bl.size hbc
        have hzo := Bl.size hbw
        have hw : IntKind.i64.wrap 1 = 1 := by rfl
        have hw2 : IntKind.i64.wrap 2 = 2 := by rfl
        obtain ⟨wo, rfl⟩ : ∃ wo : World, wo = wr := ⟨_, rfl⟩
        have hbwo := hbc.next hbw
        have hgo : g < wo.heap.size := Nat.lt_of_lt_of_le hg (Bl.size hbwo)
        have y0 : wo.cell? ⟨g, 6, none⟩ = some (.bool s') := (Bl.cellOf (w := w) (p := ⟨g, 6, none⟩) hbwo hg).trans y0
        have y1 : wo.cell? ⟨g, 7, none⟩ = some (.slice A' n' c') := (Bl.cellOf (w := w) (p := ⟨g, 7, none⟩) hbwo hg).trans y1
        have y2 : wo.cell? ⟨g, 8, none⟩ = some (.slice B' m' d') := (Bl.cellOf (w := w) (p := ⟨g, 8, none⟩) hbwo hg).trans y2
        have y3 : wo.cell? ⟨g, 9, none⟩ = some (.bool t') := (Bl.cellOf (w := w) (p := ⟨g, 9, none⟩) hbwo hg).trans y3
        have y4 : wo.cell? ⟨g, 10, none⟩ = some (.slice C' i' e') := (Bl.cellOf (w := w) (p := ⟨g, 10, none⟩) hbwo hg).trans y4
        have y5 : wo.cell? ⟨g, 11, none⟩ = some (.slice D' j' f') := (Bl.cellOf (w := w) (p := ⟨g, 11, none⟩) hbwo hg).trans y5
        have z0 : wo.cell? ⟨g, 12, none⟩ = some (.bool s2) := (Bl.cellOf (w := w) (p := ⟨g, 12, none⟩) hbwo hg).trans z0
        have z1 : wo.cell? ⟨g, 13, none⟩ = some (.slice A2 n2 c2) := (Bl.cellOf (w := w) (p := ⟨g, 13, none⟩) hbwo hg).trans z1
        have z2 : wo.cell? ⟨g, 14, none⟩ = some (.slice B2 m2 d2) := (Bl.cellOf (w := w) (p := ⟨g, 14, none⟩) hbwo hg).trans z2
        have z3 : wo.cell? ⟨g, 15, none⟩ = some (.bool t2) := (Bl.cellOf (w := w) (p := ⟨g, 15, none⟩) hbwo hg).trans z3
        have z4 : wo.cell? ⟨g, 16, none⟩ = some (.slice C2 i2 e2) := (Bl.cellOf (w := w) (p := ⟨g, 16, none⟩) hbwo hg).trans z4
        have z5 : wo.cell? ⟨g, 17, none⟩ = some (.slice D2 j2 f2) := (Bl.cellOf (w := w) (p := ⟨g, 17, none⟩) hbwo hg).trans z5
        go_upto_region 10 with (fail)
        · refine wp_gen (fun W => Blk W wo.heap.size 45 #[.bool s', .slice A' n' c', .slice B' m' d', .bool t', .slice C' i' e', .slice D' j' f'] ∧ Blk W (wo.heap.size + 1) 45 #[.bool s2, .slice A2 n2 c2, .slice B2 m2 d2, .bool t2, .slice C2 i2 e2, .slice D2 j2 f2] ∧ Bl wo W) ⟨by exact bts, by exact bts, slc⟩ ?_
          rintro wp ⟨qa, qb, hb8⟩
          have hYj := hY1.bl (hbc.next (hbw.next hb8))
          have hXj := hX1.bl (hbc.next (hbw.next hb8))
          have hYk := hY2.bl (hbc.next (hbw.next hb8))
          have hXk := hX2.bl (hbc.next (hbw.next hb8))
          have hRp := hRw.bl (hbw.next hb8)
          have qw := hBw.bl (hbw.next hb8)
          have hrow := RowG.bl (ptIn_keep 3) hrow hb8
          go_cut [8] (fun s8 wx => ∃ (g8 : Nat) (s1 : Bool) (A1 : Option Addr) (n1 c1 : Nat) (B1 : Option Addr) (m1 d1 : Nat) (t1 : Bool) (C1 : Option Addr) (i1 e1 : Nat) (D1 : Option Addr) (j1 f1 : Nat), s8 = .pointer (some ⟨g8, 0, none⟩) ∧ Blk wx g8 45 #[.bool s1, .slice A1 n1 c1, .slice B1 m1 d1, .bool t1, .slice C1 i1 e1, .slice D1 j1 f1] ∧ OwP 3 wp.heap.size wx s1 A1 n1 c1 B1 m1 d1 t1 C1 i1 e1 D1 j1 f1 (gradR (dblA p0 p1 p2) p1 p2) ∧ Bl wp wx)
          case first =>
            clear hrow hRw hBw hbw hb8 hbc hok
            go_region_held3 (fun w' => (w'.cell? ⟨wo.heap.size, 0, none⟩ = some (.bool s') ∧ w'.cell? ⟨wo.heap.size, 1, none⟩ = some (.slice A' n' c') ∧ w'.cell? ⟨wo.heap.size, 2, none⟩ = some (.slice B' m' d') ∧ w'.cell? ⟨wo.heap.size, 3, none⟩ = some (.bool t') ∧ w'.cell? ⟨wo.heap.size, 4, none⟩ = some (.slice C' i' e') ∧ w'.cell? ⟨wo.heap.size, 5, none⟩ = some (.slice D' j' f')) ∧ (w'.cell? ⟨wo.heap.size + 1, 0, none⟩ = some (.bool s2) ∧ w'.cell? ⟨wo.heap.size + 1, 1, none⟩ = some (.slice A2 n2 c2) ∧ w'.cell? ⟨wo.heap.size + 1, 2, none⟩ = some (.slice B2 m2 d2) ∧ w'.cell? ⟨wo.heap.size + 1, 3, none⟩ = some (.bool t2) ∧ w'.cell? ⟨wo.heap.size + 1, 4, none⟩ = some (.slice C2 i2 e2) ∧ w'.cell? ⟨wo.heap.size + 1, 5, none⟩ = some (.slice D2 j2 f2)) ∧ (w'.cell? ⟨g3, 0, none⟩ = some (.bool sw) ∧ w'.cell? ⟨g3, 1, none⟩ = some (.slice Aw nw cw) ∧ w'.cell? ⟨g3, 2, none⟩ = some (.slice Bw mw dw))) (first | exact ⟨bx6 (T := 45) (qa.bl slc), bx6 (T := 45) (qb.bl slc), bx3 (T := 34) (qw.bl slc)⟩) (first | (go_at_call 59; (with_reducible refine (sRatSub_any _ (hYj.bl slc) (hYk.bl slc)).mono ?_); rintro e w2 ⟨s2_, A2_, n2_, c2_, B2_, m2_, d2_, rfl, hR2, hb2⟩; (have hz2 : wp.heap.size ≤ w2.heap.size := Bl.size (by exact slc)); (first | have hq : Wk 6 45 _ _ := wk_newd hb2 | have hq : Wk 6 45 _ _ := wk_new hb2 | have hq : Wk 6 45 _ _ := Wk.bl hq hb2 | skip)) | (go_at_call 58; (with_reducible refine (sRatDiv_any _ (hR2.rd.bl slc) (hRp.bl slc)).mono ?_); rintro e w3 ⟨s3_, A3_, n3_, c3_, B3_, m3_, d3_, rfl, hR3, hb3⟩; (have hz3 : wp.heap.size ≤ w3.heap.size := Bl.size (by exact slc)); (first | have hq : Wk 6 45 _ _ := wk_newd hb3 | have hq : Wk 6 45 _ _ := wk_new hb3 | have hq : Wk 6 45 _ _ := Wk.bl hq hb3 | skip)) | (go_at_call 59; (with_reducible refine (sRatSub_any _ (hXk.bl slc) (hXj.bl slc)).mono ?_); rintro e w4 ⟨s4_, A4_, n4_, c4_, B4_, m4_, d4_, rfl, hR4, hb4⟩; (have hz4 : wp.heap.size ≤ w4.heap.size := Bl.size (by exact slc)); (first | have hq : Wk 6 45 _ _ := wk_newd hb4 | have hq : Wk 6 45 _ _ := wk_new hb4 | have hq : Wk 6 45 _ _ := Wk.bl hq hb4 | skip)) | (go_at_call 58; (with_reducible refine (sRatDiv_any _ (hR4.rd.bl slc) (hRp.bl slc)).mono ?_); rintro e w5 ⟨s5_, A5_, n5_, c5_, B5_, m5_, d5_, rfl, hR5, hb5⟩; (have hz5 : wp.heap.size ≤ w5.heap.size := Bl.size (by exact slc)); (first | have hq : Wk 6 45 _ _ := wk_newd hb5 | have hq : Wk 6 45 _ _ := wk_new hb5 | have hq : Wk 6 45 _ _ := Wk.bl hq hb5 | skip); (try obtain ⟨⟨q0, q1, q2, q3, q4, q5⟩, fz0, fz1, fz2, fz3, fz4, fz5⟩ := hq.out6); (have hO5 : OwP 3 wp.heap.size w5 s3_ A3_ n3_ c3_ B3_ m3_ d3_ s5_ A5_ n5_ c5_ B5_ m5_ d5_ (gradR (dblA p0 p1 p2) p1 p2) := OwP.two (hR3.mono (Bl.size (by exact slc))) (hR5.mono (Bl.size (by exact slc))) (by exact slc) (Bl.size (by exact slc)))))
            · go_wp2_with fail
              go_meet
              exact ⟨w5.heap.size, _, _, _, _, _, _, _, _, _, _, _, _, _, _, rfl, Blk.new _ _ _, hO5.bl slc, slc⟩
            · go_wp2_with fail
              go_meet
              exact ⟨w4.heap.size, _, _, _, _, _, _, _, _, _, _, _, _, _, _, rfl, Wk.put6 hq _ _ _ _ _ _, hO5.put6 hq ne_ip _ _ _ _ _ _, slc⟩
            · go_wp2_with fail
              go_meet
              exact ⟨w3.heap.size, _, _, _, _, _, _, _, _, _, _, _, _, _, _, rfl, Wk.put6 hq _ _ _ _ _ _, hO5.put6 hq ne_ip _ _ _ _ _ _, slc⟩
            · go_wp2_with fail
              go_meet
              exact ⟨w2.heap.size, _, _, _, _, _, _, _, _, _, _, _, _, _, _, rfl, Wk.put6 hq _ _ _ _ _ _, hO5.put6 hq ne_ip _ _ _ _ _ _, slc⟩
            · go_wp2_with fail
              go_meet
              exact ⟨wp.heap.size, _, _, _, _, _, _, _, _, _, _, _, _, _, _, rfl, Wk.put6 hq _ _ _ _ _ _, hO5.put6 hq ne_ip _ _ _ _ _ _, slc⟩
          case rest =>
            obtain ⟨g8, s1, A1, n1, c1, B1, m1, d1, t1, C1, i1, e1, D1, j1, f1, rfl, q8, hP8, hb9⟩ := hcut
            obtain ⟨wq, rfl⟩ : ∃ wq : World, wq = wc := ⟨_, rfl⟩
            have hrow := RowG.bl (ptIn_keep 3) hrow hb9
            have hbq : Bl W0 wq := (hbw.next hb8).next hb9
            clear qa qb qw hRp hXj hYj hXk hYk
            obtain ⟨i0, i1, i2, i3, i4, i5⟩ := bx6 q8
            have hgr : grad3 p0 p1 p2 0 = (gradR (dblA p0 p1 p2) p1 p2) := rfl
            by_cases ho : OkP (grad3 p0 p1 p2 0)
            · skip
              have hok' : GradOk p0 p1 p2 1 := hok.step ho
              have hv := hgr.symm
              rw [hv] at hP8
              clear hv hgr
              skip
              have ho := Lib.hid ho; rename_i h_; clear h_
              have hok' := Lib.hid hok'; rename_i h_; clear h_
              clear hok
              go_wp2_with fail
              refine (sIsValidPoint_yes _ hP8.rx hP8.ry ho.out).mono ?_
              rintro e w7 ⟨rfl, hb7⟩
              have hrow := RowG.bl (ptIn_keep 3) hrow hb7
              have hP8 := OwPN.of (hP8.bl hb7)
              have q8 := q8.bl hb7
              have hbq := hbq.next hb7
              have hhi : hi ≤ wp.heap.size := Nat.le_trans hhi0 (Bl.size hb8)
              obtain ⟨i0, i1, i2, i3, i4, i5⟩ := bx6 q8
              go_wp2_with ((refine wpList_append_pt appN_nodup rfl (.tmp 58) (.tmp 60) rfl _ (by rfl) hrow hP8 hhi hlh 1 (by rfl) (by rw [gradTo_len]; omega) W0 hbq (Nat.le_refl _) ?_; intro v' w8 hrow' hb8'; clear hrow hP8))
              have hz8 := hb8'.size
              rw [← gradTo_succ] at hrow'
              go_roundw
              case rel => exact ⟨1, _, by omega, rfl, hrow', hok'.out, hb8', hz8⟩
              case measure => simp [intOf]
            · skip
              have hv := hgr.symm
              rw [hv] at hP8
              clear hv hgr
              skip
              have hv := Lib.hid (gradP_no (k := 0) (by omega) ho)
              have ho := Lib.hid ho; rename_i h_; clear h_
              clear hok
              go_wp2_with fail
              refine (sIsValidPoint_no _ hP8.rx hP8.ry ho.out).mono ?_
              rintro e w7 ⟨rfl, hb7⟩
              go_wp2_with fail
              go_ret
              refine ⟨_, _, _, rfl, ?_, fun _ => ⟨rfl, rfl⟩, (hbc.next hbq).next hb7⟩
              rw [hv.out]
              exact ⟨rfl, Nat.le_refl _, Nat.zero_le _, .inl rfl⟩
      · skip
        have e0 : ((1 : Nat) : Int) = 1 := rfl
        rw [e0]
        clear e0 hk
        have hhi0 := RowG.hiLe hrow
        have hzc := Bl.size hbc
        have hzo := Bl.size hbw
        have hw : IntKind.i64.wrap 2 = 2 := by rfl
        have hw2 : IntKind.i64.wrap 3 = 3 := by rfl
        obtain ⟨wo, rfl⟩ : ∃ wo : World, wo = wr := ⟨_, rfl⟩
        have hbwo := hbc.next hbw
        have hgo : g < wo.heap.size := Nat.lt_of_lt_of_le hg (Bl.size hbwo)
        have z0 : wo.cell? ⟨g, 12, none⟩ = some (.bool s2) := (Bl.cellOf (w := w) (p := ⟨g, 12, none⟩) hbwo hg).trans z0
        have z1 : wo.cell? ⟨g, 13, none⟩ = some (.slice A2 n2 c2) := (Bl.cellOf (w := w) (p := ⟨g, 13, none⟩) hbwo hg).trans z1
        have z2 : wo.cell? ⟨g, 14, none⟩ = some (.slice B2 m2 d2) := (Bl.cellOf (w := w) (p := ⟨g, 14, none⟩) hbwo hg).trans z2
        have z3 : wo.cell? ⟨g, 15, none⟩ = some (.bool t2) := (Bl.cellOf (w := w) (p := ⟨g, 15, none⟩) hbwo hg).trans z3
        have z4 : wo.cell? ⟨g, 16, none⟩ = some (.slice C2 i2 e2) := (Bl.cellOf (w := w) (p := ⟨g, 16, none⟩) hbwo hg).trans z4
        have z5 : wo.cell? ⟨g, 17, none⟩ = some (.slice D2 j2 f2) := (Bl.cellOf (w := w) (p := ⟨g, 17, none⟩) hbwo hg).trans z5
        have x0 : wo.cell? ⟨g, 0, none⟩ = some (.bool s) := (Bl.cellOf (w := w) (p := ⟨g, 0, none⟩) hbwo hg).trans x0
        have x1 : wo.cell? ⟨g, 1, none⟩ = some (.slice A n c) := (Bl.cellOf (w := w) (p := ⟨g, 1, none⟩) hbwo hg).trans x1
        have x2 : wo.cell? ⟨g, 2, none⟩ = some (.slice B m d) := (Bl.cellOf (w := w) (p := ⟨g, 2, none⟩) hbwo hg).trans x2
        have x3 : wo.cell? ⟨g, 3, none⟩ = some (.bool t) := (Bl.cellOf (w := w) (p := ⟨g, 3, none⟩) hbwo hg).trans x3
        have x4 : wo.cell? ⟨g, 4, none⟩ = some (.slice C i e) := (Bl.cellOf (w := w) (p := ⟨g, 4, none⟩) hbwo hg).trans x4
        have x5 : wo.cell? ⟨g, 5, none⟩ = some (.slice D j f) := (Bl.cellOf (w := w) (p := ⟨g, 5, none⟩) hbwo hg).trans x5
        go_upto_region 10 with (fail)
        · refine wp_gen (fun W => Blk W wo.heap.size 45 #[.bool s2, .slice A2 n2 c2, .slice B2 m2 d2, .bool t2, .slice C2 i2 e2, .slice D2 j2 f2] ∧ Blk W (wo.heap.size + 1) 45 #[.bool s, .slice A n c, .slice B m d, .bool t, .slice C i e, .slice D j f] ∧ Bl wo W) ⟨by exact bts, by exact bts, slc⟩ ?_
          rintro wp ⟨qa, qb, hb8⟩
          have hYj := hY2.bl (hbc.next (hbw.next hb8))
          have hXj := hX2.bl (hbc.next (hbw.next hb8))
          have hYk := hY0.bl (hbc.next (hbw.next hb8))
          have hXk := hX0.bl (hbc.next (hbw.next hb8))
          have hRp := hRw.bl (hbw.next hb8)
          have qw := hBw.bl (hbw.next hb8)
          have hrow := RowG.bl (ptIn_keep 3) hrow hb8
          go_cut [8] (fun s8 wx => ∃ (g8 : Nat) (s1 : Bool) (A1 : Option Addr) (n1 c1 : Nat) (B1 : Option Addr) (m1 d1 : Nat) (t1 : Bool) (C1 : Option Addr) (i1 e1 : Nat) (D1 : Option Addr) (j1 f1 : Nat), s8 = .pointer (some ⟨g8, 0, none⟩) ∧ Blk wx g8 45 #[.bool s1, .slice A1 n1 c1, .slice B1 m1 d1, .bool t1, .slice C1 i1 e1, .slice D1 j1 f1] ∧ OwP 3 wp.heap.size wx s1 A1 n1 c1 B1 m1 d1 t1 C1 i1 e1 D1 j1 f1 (gradR (dblA p0 p1 p2) p2 p0) ∧ Bl wp wx)
          case first =>
            clear hrow hRw hBw hbw hb8 hbc hok
            go_region_held3 (fun w' => (w'.cell? ⟨wo.heap.size, 0, none⟩ = some (.bool s2) ∧ w'.cell? ⟨wo.heap.size, 1, none⟩ = some (.slice A2 n2 c2) ∧ w'.cell? ⟨wo.heap.size, 2, none⟩ = some (.slice B2 m2 d2) ∧ w'.cell? ⟨wo.heap.size, 3, none⟩ = some (.bool t2) ∧ w'.cell? ⟨wo.heap.size, 4, none⟩ = some (.slice C2 i2 e2) ∧ w'.cell? ⟨wo.heap.size, 5, none⟩ = some (.slice D2 j2 f2)) ∧ (w'.cell? ⟨wo.heap.size + 1, 0, none⟩ = some (.bool s) ∧ w'.cell? ⟨wo.heap.size + 1, 1, none⟩ = some (.slice A n c) ∧ w'.cell? ⟨wo.heap.size + 1, 2, none⟩ = some (.slice B m d) ∧ w'.cell? ⟨wo.heap.size + 1, 3, none⟩ = some (.bool t) ∧ w'.cell? ⟨wo.heap.size + 1, 4, none⟩ = some (.slice C i e) ∧ w'.cell? ⟨wo.heap.size + 1, 5, none⟩ = some (.slice D j f)) ∧ (w'.cell? ⟨g3, 0, none⟩ = some (.bool sw) ∧ w'.cell? ⟨g3, 1, none⟩ = some (.slice Aw nw cw) ∧ w'.cell? ⟨g3, 2, none⟩ = some (.slice Bw mw dw))) (first | exact ⟨bx6 (T := 45) (qa.bl slc), bx6 (T := 45) (qb.bl slc), bx3 (T := 34) (qw.bl slc)⟩) (first | (go_at_call 59; (with_reducible refine (sRatSub_any _ (hYj.bl slc) (hYk.bl slc)).mono ?_); rintro e w2 ⟨s2_, A2_, n2_, c2_, B2_, m2_, d2_, rfl, hR2, hb2⟩; (have hz2 : wp.heap.size ≤ w2.heap.size := Bl.size (by exact slc)); (first | have hq : Wk 6 45 _ _ := wk_newd hb2 | have hq : Wk 6 45 _ _ := wk_new hb2 | have hq : Wk 6 45 _ _ := Wk.bl hq hb2 | skip)) | (go_at_call 58; (with_reducible refine (sRatDiv_any _ (hR2.rd.bl slc) (hRp.bl slc)).mono ?_); rintro e w3 ⟨s3_, A3_, n3_, c3_, B3_, m3_, d3_, rfl, hR3, hb3⟩; (have hz3 : wp.heap.size ≤ w3.heap.size := Bl.size (by exact slc)); (first | have hq : Wk 6 45 _ _ := wk_newd hb3 | have hq : Wk 6 45 _ _ := wk_new hb3 | have hq : Wk 6 45 _ _ := Wk.bl hq hb3 | skip)) | (go_at_call 59; (with_reducible refine (sRatSub_any _ (hXk.bl slc) (hXj.bl slc)).mono ?_); rintro e w4 ⟨s4_, A4_, n4_, c4_, B4_, m4_, d4_, rfl, hR4, hb4⟩; (have hz4 : wp.heap.size ≤ w4.heap.size := Bl.size (by exact slc)); (first | have hq : Wk 6 45 _ _ := wk_newd hb4 | have hq : Wk 6 45 _ _ := wk_new hb4 | have hq : Wk 6 45 _ _ := Wk.bl hq hb4 | skip)) | (go_at_call 58; (with_reducible refine (sRatDiv_any _ (hR4.rd.bl slc) (hRp.bl slc)).mono ?_); rintro e w5 ⟨s5_, A5_, n5_, c5_, B5_, m5_, d5_, rfl, hR5, hb5⟩; (have hz5 : wp.heap.size ≤ w5.heap.size := Bl.size (by exact slc)); (first | have hq : Wk 6 45 _ _ := wk_newd hb5 | have hq : Wk 6 45 _ _ := wk_new hb5 | have hq : Wk 6 45 _ _ := Wk.bl hq hb5 | skip); (try obtain ⟨⟨q0, q1, q2, q3, q4, q5⟩, fz0, fz1, fz2, fz3, fz4, fz5⟩ := hq.out6); (have hO5 : OwP 3 wp.heap.size w5 s3_ A3_ n3_ c3_ B3_ m3_ d3_ s5_ A5_ n5_ c5_ B5_ m5_ d5_ (gradR (dblA p0 p1 p2) p2 p0) := OwP.two (hR3.mono (Bl.size (by exact slc))) (hR5.mono (Bl.size (by exact slc))) (by exact slc) (Bl.size (by exact slc)))))
            · go_wp2_with fail
              go_meet
              exact ⟨w5.heap.size, _, _, _, _, _, _, _, _, _, _, _, _, _, _, rfl, Blk.new _ _ _, hO5.bl slc, slc⟩
            · go_wp2_with fail
              go_meet
              exact ⟨w4.heap.size, _, _, _, _, _, _, _, _, _, _, _, _, _, _, rfl, Wk.put6 hq _ _ _ _ _ _, hO5.put6 hq ne_ip _ _ _ _ _ _, slc⟩
            · go_wp2_with fail
              go_meet
              exact ⟨w3.heap.size, _, _, _, _, _, _, _, _, _, _, _, _, _, _, rfl, Wk.put6 hq _ _ _ _ _ _, hO5.put6 hq ne_ip _ _ _ _ _ _, slc⟩
            · go_wp2_with fail
              go_meet
              exact ⟨w2.heap.size, _, _, _, _, _, _, _, _, _, _, _, _, _, _, rfl, Wk.put6 hq _ _ _ _ _ _, hO5.put6 hq ne_ip _ _ _ _ _ _, slc⟩
            · go_wp2_with fail
              go_meet
              exact ⟨wp.heap.size, _, _, _, _, _, _, _, _, _, _, _, _, _, _, rfl, Wk.put6 hq _ _ _ _ _ _, hO5.put6 hq ne_ip _ _ _ _ _ _, slc⟩
          case rest =>
            obtain ⟨g8, s1, A1, n1, c1, B1, m1, d1, t1, C1, i1, e1, D1, j1, f1, rfl, q8, hP8, hb9⟩ := hcut
            obtain ⟨wq, rfl⟩ : ∃ wq : World, wq = wc := ⟨_, rfl⟩
            have hrow := RowG.bl (ptIn_keep 3) hrow hb9
            have hbq : Bl W0 wq := (hbw.next hb8).next hb9
            clear qa qb qw hRp hXj hYj hXk hYk
            obtain ⟨i0, i1, i2, i3, i4, i5⟩ := bx6 q8
            have hgr : grad3 p0 p1 p2 1 = (gradR (dblA p0 p1 p2) p2 p0) := rfl
            by_cases ho : OkP (grad3 p0 p1 p2 1)
            · skip
              have hok' : GradOk p0 p1 p2 2 := hok.step ho
              have hv := hgr.symm
              rw [hv] at hP8
              clear hv hgr
              skip
              have ho := Lib.hid ho; rename_i h_; clear h_
              have hok' := Lib.hid hok'; rename_i h_; clear h_
              clear hok
              go_wp2_with fail
              refine (sIsValidPoint_yes _ hP8.rx hP8.ry ho.out).mono ?_
              rintro e w7 ⟨rfl, hb7⟩
              have hrow := RowG.bl (ptIn_keep 3) hrow hb7
              have hP8 := OwPN.of (hP8.bl hb7)
              have q8 := q8.bl hb7
              have hbq := hbq.next hb7
              have hhi : hi ≤ wp.heap.size := Nat.le_trans hhi0 (Bl.size hb8)
              obtain ⟨i0, i1, i2, i3, i4, i5⟩ := bx6 q8
              go_wp2_with ((refine wpList_append_pt appN_nodup rfl (.tmp 58) (.tmp 60) rfl _ (by rfl) hrow hP8 hhi hlh 1 (by rfl) (by rw [gradTo_len]; omega) W0 hbq (Nat.le_refl _) ?_; intro v' w8 hrow' hb8'; clear hrow hP8))
              have hz8 := hb8'.size
              rw [← gradTo_succ] at hrow'
              go_roundw
              case rel => exact ⟨2, _, by omega, rfl, hrow', hok'.out, hb8', hz8⟩
              case measure => simp [intOf]
            · skip
              have hv := hgr.symm
              rw [hv] at hP8
              clear hv hgr
              skip
              have hv := Lib.hid (gradP_no (k := 1) (by omega) ho)
              have ho := Lib.hid ho; rename_i h_; clear h_
              clear hok
              go_wp2_with fail
              refine (sIsValidPoint_no _ hP8.rx hP8.ry ho.out).mono ?_
              rintro e w7 ⟨rfl, hb7⟩
              go_wp2_with fail
              go_ret
              refine ⟨_, _, _, rfl, ?_, fun _ => ⟨rfl, rfl⟩, (hbc.next hbq).next hb7⟩
              rw [hv.out]
              exact ⟨rfl, Nat.le_refl _, Nat.zero_le _, .inl rfl⟩
      · skip
        have e0 : ((2 : Nat) : Int) = 2 := rfl
        rw [e0]
        clear e0 hk
        have hhi0 := RowG.hiLe hrow
        have hzc := Bl.size hbc
        have hzo := Bl.size hbw
        have hw : IntKind.i64.wrap 3 = 3 := by rfl
        have hw2 : IntKind.i64.wrap 4 = 4 := by rfl
        obtain ⟨wo, rfl⟩ : ∃ wo : World, wo = wr := ⟨_, rfl⟩
        have hbwo := hbc.next hbw
        have hgo : g < wo.heap.size := Nat.lt_of_lt_of_le hg (Bl.size hbwo)
        have x0 : wo.cell? ⟨g, 0, none⟩ = some (.bool s) := (Bl.cellOf (w := w) (p := ⟨g, 0, none⟩) hbwo hg).trans x0
        have x1 : wo.cell? ⟨g, 1, none⟩ = some (.slice A n c) := (Bl.cellOf (w := w) (p := ⟨g, 1, none⟩) hbwo hg).trans x1
        have x2 : wo.cell? ⟨g, 2, none⟩ = some (.slice B m d) := (Bl.cellOf (w := w) (p := ⟨g, 2, none⟩) hbwo hg).trans x2
        have x3 : wo.cell? ⟨g, 3, none⟩ = some (.bool t) := (Bl.cellOf (w := w) (p := ⟨g, 3, none⟩) hbwo hg).trans x3
        have x4 : wo.cell? ⟨g, 4, none⟩ = some (.slice C i e) := (Bl.cellOf (w := w) (p := ⟨g, 4, none⟩) hbwo hg).trans x4
        have x5 : wo.cell? ⟨g, 5, none⟩ = some (.slice D j f) := (Bl.cellOf (w := w) (p := ⟨g, 5, none⟩) hbwo hg).trans x5
        have y0 : wo.cell? ⟨g, 6, none⟩ = some (.bool s') := (Bl.cellOf (w := w) (p := ⟨g, 6, none⟩) hbwo hg).trans y0
        have y1 : wo.cell? ⟨g, 7, none⟩ = some (.slice A' n' c') := (Bl.cellOf (w := w) (p := ⟨g, 7, none⟩) hbwo hg).trans y1
        have y2 : wo.cell? ⟨g, 8, none⟩ = some (.slice B' m' d') := (Bl.cellOf (w := w) (p := ⟨g, 8, none⟩) hbwo hg).trans y2
        have y3 : wo.cell? ⟨g, 9, none⟩ = some (.bool t') := (Bl.cellOf (w := w) (p := ⟨g, 9, none⟩) hbwo hg).trans y3
        have y4 : wo.cell? ⟨g, 10, none⟩ = some (.slice C' i' e') := (Bl.cellOf (w := w) (p := ⟨g, 10, none⟩) hbwo hg).trans y4
        have y5 : wo.cell? ⟨g, 11, none⟩ = some (.slice D' j' f') := (Bl.cellOf (w := w) (p := ⟨g, 11, none⟩) hbwo hg).trans y5
        go_upto_region 10 with (fail)
        · refine wp_gen (fun W => Blk W wo.heap.size 45 #[.bool s, .slice A n c, .slice B m d, .bool t, .slice C i e, .slice D j f] ∧ Blk W (wo.heap.size + 1) 45 #[.bool s', .slice A' n' c', .slice B' m' d', .bool t', .slice C' i' e', .slice D' j' f'] ∧ Bl wo W) ⟨by exact bts, by exact bts, slc⟩ ?_
          rintro wp ⟨qa, qb, hb8⟩
          have hYj := hY0.bl (hbc.next (hbw.next hb8))
          have hXj := hX0.bl (hbc.next (hbw.next hb8))
          have hYk := hY1.bl (hbc.next (hbw.next hb8))
          have hXk := hX1.bl (hbc.next (hbw.next hb8))
          have hRp := hRw.bl (hbw.next hb8)
          have qw := hBw.bl (hbw.next hb8)
          have hrow := RowG.bl (ptIn_keep 3) hrow hb8
          go_cut [8] (fun s8 wx => ∃ (g8 : Nat) (s1 : Bool) (A1 : Option Addr) (n1 c1 : Nat) (B1 : Option Addr) (m1 d1 : Nat) (t1 : Bool) (C1 : Option Addr) (i1 e1 : Nat) (D1 : Option Addr) (j1 f1 : Nat), s8 = .pointer (some ⟨g8, 0, none⟩) ∧ Blk wx g8 45 #[.bool s1, .slice A1 n1 c1, .slice B1 m1 d1, .bool t1, .slice C1 i1 e1, .slice D1 j1 f1] ∧ OwP 3 wp.heap.size wx s1 A1 n1 c1 B1 m1 d1 t1 C1 i1 e1 D1 j1 f1 (gradR (dblA p0 p1 p2) p0 p1) ∧ Bl wp wx)
          case first =>
            clear hrow hRw hBw hbw hb8 hbc hok
            go_region_held3 (fun w' => (w'.cell? ⟨wo.heap.size, 0, none⟩ = some (.bool s) ∧ w'.cell? ⟨wo.heap.size, 1, none⟩ = some (.slice A n c) ∧ w'.cell? ⟨wo.heap.size, 2, none⟩ = some (.slice B m d) ∧ w'.cell? ⟨wo.heap.size, 3, none⟩ = some (.bool t) ∧ w'.cell? ⟨wo.heap.size, 4, none⟩ = some (.slice C i e) ∧ w'.cell? ⟨wo.heap.size, 5, none⟩ = some (.slice D j f)) ∧ (w'.cell? ⟨wo.heap.size + 1, 0, none⟩ = some (.bool s') ∧ w'.cell? ⟨wo.heap.size + 1, 1, none⟩ = some (.slice A' n' c') ∧ w'.cell? ⟨wo.heap.size + 1, 2, none⟩ = some (.slice B' m' d') ∧ w'.cell? ⟨wo.heap.size + 1, 3, none⟩ = some (.bool t') ∧ w'.cell? ⟨wo.heap.size + 1, 4, none⟩ = some (.slice C' i' e') ∧ w'.cell? ⟨wo.heap.size + 1, 5, none⟩ = some (.slice D' j' f')) ∧ (w'.cell? ⟨g3, 0, none⟩ = some (.bool sw) ∧ w'.cell? ⟨g3, 1, none⟩ = some (.slice Aw nw cw) ∧ w'.cell? ⟨g3, 2, none⟩ = some (.slice Bw mw dw))) (first | exact ⟨bx6 (T := 45) (qa.bl slc), bx6 (T := 45) (qb.bl slc), bx3 (T := 34) (qw.bl slc)⟩) (first | (go_at_call 59; (with_reducible refine (sRatSub_any _ (hYj.bl slc) (hYk.bl slc)).mono ?_); rintro e w2 ⟨s2_, A2_, n2_, c2_, B2_, m2_, d2_, rfl, hR2, hb2⟩; (have hz2 : wp.heap.size ≤ w2.heap.size := Bl.size (by exact slc)); (first | have hq : Wk 6 45 _ _ := wk_newd hb2 | have hq : Wk 6 45 _ _ := wk_new hb2 | have hq : Wk 6 45 _ _ := Wk.bl hq hb2 | skip)) | (go_at_call 58; (with_reducible refine (sRatDiv_any _ (hR2.rd.bl slc) (hRp.bl slc)).mono ?_); rintro e w3 ⟨s3_, A3_, n3_, c3_, B3_, m3_, d3_, rfl, hR3, hb3⟩; (have hz3 : wp.heap.size ≤ w3.heap.size := Bl.size (by exact slc)); (first | have hq : Wk 6 45 _ _ := wk_newd hb3 | have hq : Wk 6 45 _ _ := wk_new hb3 | have hq : Wk 6 45 _ _ := Wk.bl hq hb3 | skip)) | (go_at_call 59; (with_reducible refine (sRatSub_any _ (hXk.bl slc) (hXj.bl slc)).mono ?_); rintro e w4 ⟨s4_, A4_, n4_, c4_, B4_, m4_, d4_, rfl, hR4, hb4⟩; (have hz4 : wp.heap.size ≤ w4.heap.size := Bl.size (by exact slc)); (first | have hq : Wk 6 45 _ _ := wk_newd hb4 | have hq : Wk 6 45 _ _ := wk_new hb4 | have hq : Wk 6 45 _ _ := Wk.bl hq hb4 | skip)) | (go_at_call 58; (with_reducible refine (sRatDiv_any _ (hR4.rd.bl slc) (hRp.bl slc)).mono ?_); rintro e w5 ⟨s5_, A5_, n5_, c5_, B5_, m5_, d5_, rfl, hR5, hb5⟩; (have hz5 : wp.heap.size ≤ w5.heap.size := Bl.size (by exact slc)); (first | have hq : Wk 6 45 _ _ := wk_newd hb5 | have hq : Wk 6 45 _ _ := wk_new hb5 | have hq : Wk 6 45 _ _ := Wk.bl hq hb5 | skip); (try obtain ⟨⟨q0, q1, q2, q3, q4, q5⟩, fz0, fz1, fz2, fz3, fz4, fz5⟩ := hq.out6); (have hO5 : OwP 3 wp.heap.size w5 s3_ A3_ n3_ c3_ B3_ m3_ d3_ s5_ A5_ n5_ c5_ B5_ m5_ d5_ (gradR (dblA p0 p1 p2) p0 p1) := OwP.two (hR3.mono (Bl.size (by exact slc))) (hR5.mono (Bl.size (by exact slc))) (by exact slc) (Bl.size (by exact slc)))))
            · go_wp2_with fail
              go_meet
              exact ⟨w5.heap.size, _, _, _, _, _, _, _, _, _, _, _, _, _, _, rfl, Blk.new _ _ _, hO5.bl slc, slc⟩
            · go_wp2_with fail
              go_meet
              exact ⟨w4.heap.size, _, _, _, _, _, _, _, _, _, _, _, _, _, _, rfl, Wk.put6 hq _ _ _ _ _ _, hO5.put6 hq ne_ip _ _ _ _ _ _, slc⟩
            · go_wp2_with fail
              go_meet
              exact ⟨w3.heap.size, _, _, _, _, _, _, _, _, _, _, _, _, _, _, rfl, Wk.put6 hq _ _ _ _ _ _, hO5.put6 hq ne_ip _ _ _ _ _ _, slc⟩
            · go_wp2_with fail
              go_meet
              exact ⟨w2.heap.size, _, _, _, _, _, _, _, _, _, _, _, _, _, _, rfl, Wk.put6 hq _ _ _ _ _ _, hO5.put6 hq ne_ip _ _ _ _ _ _, slc⟩
            · go_wp2_with fail
              go_meet
              exact ⟨wp.heap.size, _, _, _, _, _, _, _, _, _, _, _, _, _, _, rfl, Wk.put6 hq _ _ _ _ _ _, hO5.put6 hq ne_ip _ _ _ _ _ _, slc⟩
          case rest =>
            obtain ⟨g8, s1, A1, n1, c1, B1, m1, d1, t1, C1, i1, e1, D1, j1, f1, rfl, q8, hP8, hb9⟩ := hcut
            obtain ⟨wq, rfl⟩ : ∃ wq : World, wq = wc := ⟨_, rfl⟩
            have hrow := RowG.bl (ptIn_keep 3) hrow hb9
            have hbq : Bl W0 wq := (hbw.next hb8).next hb9
            clear qa qb qw hRp hXj hYj hXk hYk
            obtain ⟨i0, i1, i2, i3, i4, i5⟩ := bx6 q8
            have hgr : grad3 p0 p1 p2 2 = (gradR (dblA p0 p1 p2) p0 p1) := rfl
            by_cases ho : OkP (grad3 p0 p1 p2 2)
            · skip
              have hok' : GradOk p0 p1 p2 3 := hok.step ho
              have hv := hgr.symm
              rw [hv] at hP8
              clear hv hgr
              skip
              have ho := Lib.hid ho; rename_i h_; clear h_
              have hok' := Lib.hid hok'; rename_i h_; clear h_
              clear hok
              go_wp2_with fail
              refine (sIsValidPoint_yes _ hP8.rx hP8.ry ho.out).mono ?_
              rintro e w7 ⟨rfl, hb7⟩
              have hrow := RowG.bl (ptIn_keep 3) hrow hb7
              have hP8 := OwPN.of (hP8.bl hb7)
              have q8 := q8.bl hb7
              have hbq := hbq.next hb7
              have hhi : hi ≤ wp.heap.size := Nat.le_trans hhi0 (Bl.size hb8)
              obtain ⟨i0, i1, i2, i3, i4, i5⟩ := bx6 q8
              go_wp2_with ((refine wpList_append_pt appN_nodup rfl (.tmp 58) (.tmp 60) rfl _ (by rfl) hrow hP8 hhi hlh 1 (by rfl) (by rw [gradTo_len]; omega) W0 hbq (Nat.le_refl _) ?_; intro v' w8 hrow' hb8'; clear hrow hP8))
              have hz8 := hb8'.size
              rw [← gradTo_succ] at hrow'
              go_roundw
              case rel => exact ⟨3, _, by omega, rfl, hrow', hok'.out, hb8', hz8⟩
              case measure => simp [intOf]
            · skip
              have hv := hgr.symm
              rw [hv] at hP8
              clear hv hgr
              skip
              have hv := Lib.hid (gradP_no (k := 2) (by omega) ho)
              have ho := Lib.hid ho; rename_i h_; clear h_
              clear hok
              go_wp2_with fail
              refine (sIsValidPoint_no _ hP8.rx hP8.ry ho.out).mono ?_
              rintro e w7 ⟨rfl, hb7⟩
              go_wp2_with fail
              go_ret
              refine ⟨_, _, _, rfl, ?_, fun _ => ⟨rfl, rfl⟩, (hbc.next hbq).next hb7⟩
              rw [hv.out]
              exact ⟨rfl, Nat.le_refl _, Nat.zero_le _, .inl rfl⟩
      · skip
        have e0 : ((3 : Nat) : Int) = 3 := rfl
        rw [e0]
        clear e0 hk
        have hv := Lib.hid (gradP_yes hok)
        have hok := Lib.hid hok; rename_i h_; clear h_
        obtain ⟨A1, c1, rfl, hZ⟩ := RowP.own hrow (by rw [gradTo_len]; omega)
        rw [gradTo_len] at hZ ⊢
        go_wp2_with fail
        go_ret
        refine ⟨_, _, _, rfl, ?_, fun h => by omega, hbc.next hbw⟩
        rw [hv.out]
        exact hZ.low (Bl.size hbc) (RowG.hiLe hrow)


end

section


set_option maxRecDepth 100000 in
set_option maxHeartbeats 1000000 in
theorem Gradients_any (w : World) {g n c0 : Nat} {l : List PtD} (h : RdPS w (some ⟨g, 0, none⟩) n c0 l) :
    Calls Tryz.prog 14 #[.slice (some ⟨g, 0, none⟩) n c0] w fun e w' => ∃ A1 n1 c1, e = .returned (.slice A1 n1 c1) ∧ OwPZ 3 45 w.heap.size w'.heap.size w' A1 n1 c1 (gradL l) ∧ (n1 = 0 → A1 = none ∧ c1 = 0) ∧ Bl w w' := by
  by_cases hp : propB l = true
  · obtain ⟨_, p0, p1, p2, e, _⟩ := propB_out hp
    subst e
    obtain rfl : 3 = n := h.len
    have hv : gradL [p0, p1, p2] = gradP p0 p1 p2 := by unfold gradL; rw [if_pos hp]; rfl
    rw [hv]
    exact Gradients_three _ h (Lib.hid hp)
  · have hval := Lib.hid (show gradL l = [] by unfold gradL; rw [if_neg hp])
    have hp := Lib.hid (Bool.eq_false_iff.2 hp); rename_i h_; clear h_
    go_enter Tryz.func14, Tryz.ntmps14
    go_wp2_with fail
    refine (IsProper_any _ h).mono ?_
    rw [hp.out]
    rintro e w1 ⟨rfl, hb1⟩
    go_wp2_with fail
    go_ret
    refine ⟨_, _, _, rfl, ?_, fun _ => ⟨rfl, rfl⟩, hb1⟩
    rw [hval.out]
    exact ⟨rfl, Nat.le_refl _, Nat.zero_le _, .inl rfl⟩
theorem Gradients_z (w : World) {g n c0 : Nat} {l : List PtD} (h : RdPS w (some ⟨g, 0, none⟩) n c0 l) :
    Calls Tryz.prog 14 #[.slice (some ⟨g, 0, none⟩) n c0] w fun e w' => ∃ A1 n1 c1, e = .returned (.slice A1 n1 c1) ∧ OwPZ 3 45 w.heap.size w'.heap.size w' A1 n1 c1 (gradL l) ∧ Bl w w' := by
  refine (Gradients_any w h).mono ?_
  rintro e w' ⟨A1, n1, c1, h1, h2, _, h3⟩
  exact ⟨A1, n1, c1, h1, h2, h3⟩

set_option maxRecDepth 100000 in
set_option maxHeartbeats 1000000 in
theorem sGradients_any (w : World) {g n c0 : Nat} {l : List PtD} (h : RdPS w (some ⟨g, 0, none⟩) n c0 l) :
    Calls Tryz.prog 12 #[.slice (some ⟨g, 0, none⟩) n c0] w fun e w' => ∃ A1 n1 c1, e = .returned (.slice A1 n1 c1) ∧ OwPZ 3 45 w.heap.size w'.heap.size w' A1 n1 c1 (gradL l) ∧ (n1 = 0 → A1 = none ∧ c1 = 0) ∧ Bl w w' := by
  by_cases hp : propB l = true
  · obtain ⟨_, p0, p1, p2, e, _⟩ := propB_out hp
    subst e
    obtain rfl : 3 = n := h.len
    have hv : gradL [p0, p1, p2] = gradP p0 p1 p2 := by unfold gradL; rw [if_pos hp]; rfl
    rw [hv]
    exact sGradients_three _ h (Lib.hid hp)
  · have hval := Lib.hid (show gradL l = [] by unfold gradL; rw [if_neg hp])
    have hp := Lib.hid (Bool.eq_false_iff.2 hp); rename_i h_; clear h_
    go_enter Tryz.func12, Tryz.ntmps12
    go_wp2_with fail
    refine (sIsProper_any _ h).mono ?_
    rw [hp.out]
    rintro e w1 ⟨rfl, hb1⟩
    go_wp2_with fail
    go_ret
    refine ⟨_, _, _, rfl, ?_, fun _ => ⟨rfl, rfl⟩, hb1⟩
    rw [hval.out]
    exact ⟨rfl, Nat.le_refl _, Nat.zero_le _, .inl rfl⟩
theorem sGradients_z (w : World) {g n c0 : Nat} {l : List PtD} (h : RdPS w (some ⟨g, 0, none⟩) n c0 l) :
    Calls Tryz.prog 12 #[.slice (some ⟨g, 0, none⟩) n c0] w fun e w' => ∃ A1 n1 c1, e = .returned (.slice A1 n1 c1) ∧ RdPS w' A1 n1 c1 (gradL l) ∧ Bl w w' := by
  refine (sGradients_any w h).mono ?_
  rintro e w' ⟨A1, n1, c1, h1, h2, _, h3⟩
  exact ⟨A1, n1, c1, h1, h2.rd, h3⟩

theorem len24_divR' (r s : RatD) : (divR r s).mag.length ≤ 24 ∧ (divR r s).den.length ≤ 24 := by
  unfold divR
  split
  · exact len24_ofFrac _ _
  · exact len24_zR

theorem gradR_sz (D : RatD) (j k : PtD) : szP (gradR D j k) ≤ 96 := by
  have h1 := len24_divR' (subR j.y k.y) D
  have h2 := len24_divR' (subR k.x j.x) D
  show szR (divR _ _) + szR (divR _ _) ≤ 96
  simp only [szR]
  omega
theorem gradL_sz (l : List PtD) : szL szP (gradL l) ≤ 1048576 := by
  unfold gradL gradP
  split
  · split
    · have e0 : pix (gradTo (pix l 0) (pix l 1) (pix l 2) 3) 0 = gradR (dblA (pix l 0) (pix l 1) (pix l 2)) (pix l 1) (pix l 2) := rfl
      have e1 : pix (gradTo (pix l 0) (pix l 1) (pix l 2) 3) 1 = gradR (dblA (pix l 0) (pix l 1) (pix l 2)) (pix l 2) (pix l 0) := rfl
      have e2 : pix (gradTo (pix l 0) (pix l 1) (pix l 2) 3) 2 = gradR (dblA (pix l 0) (pix l 1) (pix l 2)) (pix l 0) (pix l 1) := rfl
      have h0 := gradR_sz (dblA (pix l 0) (pix l 1) (pix l 2)) (pix l 1) (pix l 2)
      have h1 := gradR_sz (dblA (pix l 0) (pix l 1) (pix l 2)) (pix l 2) (pix l 0)
      have h2 := gradR_sz (dblA (pix l 0) (pix l 1) (pix l 2)) (pix l 0) (pix l 1)
      have hl := gradTo_len (pix l 0) (pix l 1) (pix l 2) 3
      unfold szL
      rw [hl]
      simp only [sumTo, e0, e1, e2]
      omega
    · simp [szL, sumTo]
  · simp [szL, sumTo]


end

section


/-- All fractions of a list of lists are valid. -/
def SqOk (L : List (List RatD)) : Prop := ∀ i, i < L.length → ∀ j, j < (pix L i).length → OkR (pix (pix L i) j)
open Classical in
noncomputable def sqIf (L : List (List RatD)) : List (List RatD) := if SqOk L then L else []
noncomputable def massV (D : RatD) (i j : Nat) : RatD := divR D (ofFrac (if i = j then 6 else 12) 1)
noncomputable def massRow (D : RatD) (i k : Nat) : List RatD := (List.range k).map (massV D i)
noncomputable def massTo (D : RatD) (k : Nat) : List (List RatD) := (List.range k).map fun i => massRow D i 3
noncomputable def massL (l : List PtD) : List (List RatD) := if propB l = true then sqIf (massTo (areaR (pix l 0) (pix l 1) (pix l 2)) 3) else []
theorem massRow_succ (D : RatD) (i k : Nat) : massRow D i (k + 1) = massRow D i k ++ [massV D i k] := by unfold massRow; rw [List.range_succ, List.map_append]; rfl
theorem massRow_len (D : RatD) (i k : Nat) : (massRow D i k).length = k := by simp [massRow]
theorem massTo_succ (D : RatD) (k : Nat) : massTo D (k + 1) = massTo D k ++ [massRow D k 3] := by unfold massTo; rw [List.range_succ, List.map_append]; rfl
theorem massTo_len (D : RatD) (k : Nat) : (massTo D k).length = k := by simp [massTo]
/-- Lists whose fractions are computed ones. -/
def ZOk (L : List (List RatD)) : Prop := ∀ i, i < L.length → 0 < (pix L i).length ∧ ∀ j, j < (pix L i).length → pix (pix L i) j = zR ∨ OkR (pix (pix L i) j)
theorem divR_z (r s : RatD) : divR r s = zR ∨ OkR (divR r s) := by
  unfold divR
  split
  · rename_i h
    exact ofFrac_ok (Nat.mul_pos h.1.get.2.1 (by have := h.2.2; omega))
  · exact .inl rfl
theorem divR_24 (r s : RatD) : (divR r s).mag.length ≤ 24 ∧ (divR r s).den.length ≤ 24 := by
  unfold divR
  split
  · exact len24_ofFrac _ _
  · exact len24_zR
theorem massTo_z (D : RatD) : ZOk (massTo D 3) := by
  intro i hi
  rw [massTo_len] at hi
  have e : pix (massTo D 3) i = massRow D i 3 := by simp [pix, massTo, hi]
  rw [e, massRow_len]
  refine ⟨by omega, fun j hj => ?_⟩
  have e2 : pix (massRow D i 3) j = massV D i j := by simp [pix, massRow, hj]
  rw [e2]
  exact divR_z _ _
theorem szL_24 {l : List RatD} (hl : l.length ≤ 3) (h : ∀ j, j < l.length → (pix l j).mag.length ≤ 24 ∧ (pix l j).den.length ≤ 24) : szL szR l ≤ 1048576 := by
  rcases l with _ | ⟨a, _ | ⟨b, _ | ⟨c, _ | ⟨d, l⟩⟩⟩⟩
  · simp [szL, sumTo]
  · have h0 := h 0 (by simp)
    simp [pix] at h0
    simp [szL, sumTo, szR, pix]; omega
  · have h0 := h 0 (by simp)
    have h1 := h 1 (by simp)
    simp [pix] at h0 h1
    simp [szL, sumTo, szR, pix]; omega
  · have h0 := h 0 (by simp)
    have h1 := h 1 (by simp)
    have h2 := h 2 (by simp)
    simp [pix] at h0 h1 h2
    simp [szL, sumTo, szR, pix]; omega
  · simp at hl
theorem massL_sz (l : List PtD) : (massL l).length ≤ 8 ∧ ∀ i, i < (massL l).length → szL szR (pix (massL l) i) ≤ 1048576 := by
  have h0 : (([] : List (List RatD)).length ≤ 8 ∧ ∀ i, i < ([] : List (List RatD)).length → szL szR (pix ([] : List (List RatD)) i) ≤ 1048576) := ⟨Nat.zero_le _, fun i hi => by simp at hi⟩
  unfold massL sqIf
  split
  · split
    · rw [massTo_len]
      refine ⟨by omega, fun i hi => ?_⟩
      have e : pix (massTo (areaR (pix l 0) (pix l 1) (pix l 2)) 3) i = massRow (areaR (pix l 0) (pix l 1) (pix l 2)) i 3 := by simp [pix, massTo, hi]
      rw [e]
      refine szL_24 (by rw [massRow_len]; omega) fun j hj => ?_
      rw [massRow_len] at hj
      have e2 : pix (massRow (areaR (pix l 0) (pix l 1) (pix l 2)) i 3) j = massV (areaR (pix l 0) (pix l 1) (pix l 2)) i j := by simp [pix, massRow, hj]
      rw [e2]
      exact divR_24 _ _
    · exact h0
  · exact h0

def ZTo (l : List RatD) : Prop := ∀ j, j < l.length → pix l j = zR ∨ OkR (pix l j)
set_option maxHeartbeats 400000 in
theorem ifVectorF_any (w : World) {s : Bool} {A : Option Addr} {n c : Nat} {B : Option Addr} {m d : Nat} {r : RatD} {b : Bool} (h : RdR w s A n c B m d r) (hz : r = zR ∨ OkR r) (hb : okR r = b) :
    Calls Tryz.prog 177 #[.agg #[.bool s, .slice A n c, .slice B m d]] w fun e w' => e = .returned (.bool (!b)) ∧ Bl w w' := by
  have hd := okR_den hz
  rw [h.den.len, ← okR_true] at hd
  cases b with
  | true =>
    have hm : 0 < m := by have := hd.2 hb; omega
    clear hd hz h hb
    go_enter Tryz.func177, Tryz.ntmps177
    go_wp2_with fail
    refine (isRat_yes _ hm).mono ?_
    rintro e w1 ⟨rfl, hb1⟩
    go_wp2_with fail
    go_ret
    exact ⟨rfl, slc⟩
  | false =>
    obtain rfl : m = 0 := by
      rcases Nat.eq_zero_or_pos m with h0 | h0
      · exact h0
      · rw [hd.1 (by omega)] at hb; cases hb
    clear hd hz h hb
    go_enter Tryz.func177, Tryz.ntmps177
    go_wp2_with fail
    refine (isRat_no _ rfl).mono ?_
    rintro e w1 ⟨rfl, hb1⟩
    go_wp2_with fail
    go_ret
    exact ⟨rfl, slc⟩
set_option maxHeartbeats 400000 in
theorem IndexRatV_any (w : World) {A : Option Addr} {n c : Nat} {l : List RatD} (h : RdRS w A n c l) (hz : ZTo l) :
    Calls Tryz.prog 181 #[.slice A n c, .func (.func 177) #[] #[]] w (IdxPostB (AllOk l) w) := by
  have hn := h.small
  have hl := Lib.hid h.len
  go_enter Tryz.func181, Tryz.ntmps181
  go_wp2_with fail
  go_loopw [8] (fun i wr => ∃ k : Nat, k ≤ n ∧ i = .int .i64 (k : Int) ∧ OkTo l k ∧ Bl w wr) (fun i _ => n - (intOf i).toNat)
  case atStart => exact ⟨0, Nat.zero_le _, rfl, OkTo.zero _, Bl.refl _⟩
  case round =>
    obtain ⟨k, hk, rfl, hin, hbw⟩ := hrel
    by_cases hkn : k < n
    · have hki : (k : Int) < (n : Int) := by omega
      obtain ⟨ad, rfl, hlta, hca⟩ := (h.bl hbw).cells k hkn
      obtain ⟨s, A, n', c', B, m, d', ⟨g0, g1, g2⟩, hx⟩ := hca
      by_cases ho : OkR (pix l k)
      · have hin' := hin.step ho
        have hok := okR_of ho
        clear hin ho
        go_wp2_with fail
        refine (ifVectorF_any _ hx (hz k (by rw [hl.out]; exact hkn)) hok).mono ?_
        rintro e w1 ⟨rfl, hb1⟩
        have hb2 : Bl w w1 := slc
        clear hb1
        go_wp2_with fail
        go_roundw
        case rel => exact ⟨k + 1, by omega, by go_num, hin', hb2⟩
        case measure => simp [intOf]; omega
      · have hno : ¬ AllOk l := fun ha => ho (ha k (by rw [hl.out]; exact hkn))
        have hno := Lib.hid hno; rename_i h_; clear h_
        have hok := okR_no ho
        clear hin ho
        go_wp2_with fail
        refine (ifVectorF_any _ hx (hz k (by rw [hl.out]; exact hkn)) hok).mono ?_
        rintro e w1 ⟨rfl, hb1⟩
        have hb2 : Bl w w1 := slc
        clear hb1
        go_wp2_with fail
        go_ret
        exact ⟨_, rfl, fun ha => absurd ha hno.out, fun _ => by omega, hb2⟩
    · have hall : AllOk l := fun j hj => hin j (by rw [hl.out] at hj; omega)
      have hall := Lib.hid hall; rename_i h_; clear h_
      go_wp2_with fail
      go_ret
      exact ⟨_, rfl, fun _ => rfl, fun hno => absurd hall.out hno, hbw⟩
theorem ContainsRatV_yes (w : World) {A : Option Addr} {n c : Nat} {l : List RatD} (h : RdRS w A n c l) (hz : ZTo l) (hp : AllOk l) :
    Calls Tryz.prog 144 #[.slice A n c, .func (.func 177) #[] #[]] w fun e w' => e = .returned (.bool false) ∧ Bl w w' := by
  have hp := Lib.hid hp; rename_i h_; clear h_
  go_enter Tryz.func144, Tryz.ntmps144
  go_wp2_with fail
  refine (IndexRatV_any _ h hz).mono ?_
  rintro e w1 ⟨i, rfl, h1, _, hb⟩
  have h1 := h1 hp.out
  subst h1
  go_wp2_with fail
  go_ret
  exact ⟨rfl, hb⟩
theorem ContainsRatV_no (w : World) {A : Option Addr} {n c : Nat} {l : List RatD} (h : RdRS w A n c l) (hz : ZTo l) (hp : ¬ AllOk l) :
    Calls Tryz.prog 144 #[.slice A n c, .func (.func 177) #[] #[]] w fun e w' => e = .returned (.bool true) ∧ Bl w w' := by
  have hp := Lib.hid hp; rename_i h_; clear h_
  go_enter Tryz.func144, Tryz.ntmps144
  go_wp2_with fail
  refine (IndexRatV_any _ h hz).mono ?_
  rintro e w1 ⟨i, rfl, _, h1, hb⟩
  have h1 := h1 hp.out
  go_wp2_with fail
  go_ret
  exact ⟨rfl, hb⟩

theorem ifVector_yes (w : World) {A : Option Addr} {n c : Nat} {l : List RatD} (h : RdRS w A n c l) (hz : ZTo l) (hp : AllOk l) :
    Calls Tryz.prog 136 #[.slice A n c] w fun e w' => e = .returned (.slice A n c) ∧ Bl w w' := by
  have hp := Lib.hid hp; rename_i h_; clear h_
  go_enter Tryz.func136, Tryz.ntmps136
  go_wp2_with fail
  refine (ContainsRatV_yes _ h hz hp.out).mono ?_
  rintro e w1 ⟨rfl, hb⟩
  go_wp2_with fail
  go_ret
  exact ⟨rfl, hb⟩
theorem ifVector_no (w : World) {A : Option Addr} {n c : Nat} {l : List RatD} (h : RdRS w A n c l) (hz : ZTo l) (hp : ¬ AllOk l) :
    Calls Tryz.prog 136 #[.slice A n c] w fun e w' => e = .returned (.slice none 0 0) ∧ Bl w w' := by
  have hp := Lib.hid hp; rename_i h_; clear h_
  go_enter Tryz.func136, Tryz.ntmps136
  go_wp2_with fail
  refine (ContainsRatV_no _ h hz hp.out).mono ?_
  rintro e w1 ⟨rfl, hb⟩
  go_wp2_with fail
  go_ret
  exact ⟨rfl, hb⟩
def SqTo (L : List (List RatD)) (k : Nat) : Prop := ∀ i, i < k → AllOk (pix L i)
theorem SqTo.step {L : List (List RatD)} {k : Nat} (h : SqTo L k) (h0 : AllOk (pix L k)) : SqTo L (k + 1) := by
  intro j hj
  rcases Nat.lt_succ_iff_lt_or_eq.1 hj with hj | rfl
  · exact h j hj
  · exact h0
set_option maxHeartbeats 1000000 in
theorem ifSquare_any (w : World) {A : Option Addr} {n c : Nat} {L : List (List RatD)} (h : RdRSS w A n c L) (hz : ZOk L) :
    Calls Tryz.prog 84 #[.slice A n c] w fun e w' => ((SqOk L ∧ e = .returned (.slice A n c)) ∨ (¬ SqOk L ∧ e = .returned (.slice none 0 0))) ∧ Bl w w' := by
  have hn := h.small
  have hl := Lib.hid h.len
  go_enter Tryz.func84, Tryz.ntmps84
  go_wp2_with fail
  go_loopw [7] (fun i wr => ∃ k : Nat, k ≤ n ∧ i = .int .i64 (k : Int) ∧ SqTo L k ∧ Bl w wr) (fun i _ => n - (intOf i).toNat)
  case atStart => exact ⟨0, Nat.zero_le _, rfl, fun j hj => by omega, Bl.refl _⟩
  case round =>
    obtain ⟨k, hk, rfl, hin, hbw⟩ := hrel
    by_cases hkn : k < n
    · have hki : (k : Int) < (n : Int) := by omega
      obtain ⟨ad, rfl, hlta, hca⟩ := (RdRSS.bl h hbw).cells k hkn
      obtain ⟨A', n', c', g0, hx⟩ := hca
      rw [Nat.mul_one] at g0
      have hzk := hz k (by rw [hl.out]; exact hkn)
      have hn' : 0 < n' := by rw [← hx.len]; exact hzk.1
      by_cases ho : AllOk (pix L k)
      · have hin' := hin.step ho
        have ho := Lib.hid ho; rename_i h_; clear h_
        clear hin
        go_wp2_with fail
        refine (ifVector_yes _ hx hzk.2 ho.out).mono ?_
        rintro e w1 ⟨rfl, hb1⟩
        have hb2 : Bl w w1 := slc
        clear hb1
        go_wp2_with fail
        go_roundw
        case rel => exact ⟨k + 1, by omega, by go_num, hin', hb2⟩
        case measure => simp [intOf]; omega
      · have hno : ¬ SqOk L := fun ha => ho fun j hj => ha k (by rw [hl.out]; exact hkn) j hj
        have hno := Lib.hid hno; rename_i h_; clear h_
        have ho := Lib.hid ho; rename_i h_; clear h_
        clear hin
        go_wp2_with fail
        refine (ifVector_no _ hx hzk.2 ho.out).mono ?_
        rintro e w1 ⟨rfl, hb1⟩
        have hb2 : Bl w w1 := slc
        clear hb1
        go_wp2_with fail
        go_ret
        exact ⟨.inr ⟨hno.out, rfl⟩, hb2⟩
    · have hall : SqOk L := fun j hj i hi => hin j (by rw [hl.out] at hj; omega) i hi
      have hall := Lib.hid hall; rename_i h_; clear h_
      go_wp2_with fail
      go_ret
      exact ⟨.inl ⟨hall.out, rfl⟩, hbw⟩
set_option maxHeartbeats 1000000 in
theorem l11Valid_any (w : World) {A : Option Addr} {n c : Nat} {l : List RatD} (h : RdRS w A n c l) :
    Calls Tryz.prog 135 #[.slice A n c] w fun e w' => ((AllOk l ∧ e = .returned (.bool true)) ∨ (¬ AllOk l ∧ e = .returned (.bool false))) ∧ Bl w w' := by
  have hn := h.small
  have hl := Lib.hid h.len
  go_enter Tryz.func135, Tryz.ntmps135
  go_wp2_with fail
  go_loopw [7] (fun i wr => ∃ k : Nat, k ≤ n ∧ i = .int .i64 (k : Int) ∧ OkTo l k ∧ Bl w wr) (fun i _ => n - (intOf i).toNat)
  case atStart => exact ⟨0, Nat.zero_le _, rfl, OkTo.zero _, Bl.refl _⟩
  case round =>
    obtain ⟨k, hk, rfl, hin, hbw⟩ := hrel
    by_cases hkn : k < n
    · have hki : (k : Int) < (n : Int) := by omega
      obtain ⟨ad, rfl, hlta, hca⟩ := (h.bl hbw).cells k hkn
      obtain ⟨s, A, n', c', B, m, d', ⟨g0, g1, g2⟩, hx⟩ := hca
      by_cases ho : OkR (pix l k)
      · have hin' := hin.step ho
        have hok := okR_of ho
        clear hin ho
        go_wp2_with fail
        refine (sRatOk_any _ (hx.bl slc)).mono ?_
        rw [hok]
        rintro e w1 ⟨rfl, hb1⟩
        have hb2 : Bl w w1 := slc
        clear hb1
        go_wp2_with fail
        go_roundw
        case rel => exact ⟨k + 1, by omega, by go_num, hin', hb2⟩
        case measure => simp [intOf]; omega
      · have hno : ¬ AllOk l := fun ha => ho (ha k (by rw [hl.out]; exact hkn))
        have hno := Lib.hid hno; rename_i h_; clear h_
        have hok := okR_no ho
        clear hin ho
        go_wp2_with fail
        refine (sRatOk_any _ (hx.bl slc)).mono ?_
        rw [hok]
        rintro e w1 ⟨rfl, hb1⟩
        have hb2 : Bl w w1 := slc
        clear hb1
        go_wp2_with fail
        go_ret
        exact ⟨.inr ⟨hno.out, rfl⟩, hb2⟩
    · have hall : AllOk l := fun j hj => hin j (by rw [hl.out] at hj; omega)
      have hall := Lib.hid hall; rename_i h_; clear h_
      go_wp2_with fail
      go_ret
      exact ⟨.inl ⟨hall.out, rfl⟩, hbw⟩
set_option maxHeartbeats 1000000 in
theorem l12Full_any (w : World) {A : Option Addr} {n c : Nat} {L : List (List RatD)} (h : RdRSS w A n c L) :
    Calls Tryz.prog 82 #[.slice A n c] w fun e w' => ((SqOk L ∧ e = .returned (.slice A n c)) ∨ (¬ SqOk L ∧ e = .returned (.slice none 0 0))) ∧ Bl w w' := by
  have hn := h.small
  have hl := Lib.hid h.len
  go_enter Tryz.func82, Tryz.ntmps82
  go_wp2_with fail
  go_loopw [7] (fun i wr => ∃ k : Nat, k ≤ n ∧ i = .int .i64 (k : Int) ∧ SqTo L k ∧ Bl w wr) (fun i _ => n - (intOf i).toNat)
  case atStart => exact ⟨0, Nat.zero_le _, rfl, fun j hj => by omega, Bl.refl _⟩
  case round =>
    obtain ⟨k, hk, rfl, hin, hbw⟩ := hrel
    by_cases hkn : k < n
    · have hki : (k : Int) < (n : Int) := by omega
      obtain ⟨ad, rfl, hlta, hca⟩ := (RdRSS.bl h hbw).cells k hkn
      obtain ⟨A', n', c', g0, hx⟩ := hca
      rw [Nat.mul_one] at g0
      go_wp2_with fail
      refine (l11Valid_any _ hx).mono ?_
      rintro e w1 ⟨⟨ho, rfl⟩ | ⟨ho, rfl⟩, hb1⟩
      · have hin' := hin.step ho
        have ho := Lib.hid ho; rename_i h_; clear h_
        have hb2 : Bl w w1 := slc
        clear hb1 hin
        go_wp2_with fail
        go_roundw
        case rel => exact ⟨k + 1, by omega, by go_num, hin', hb2⟩
        case measure => simp [intOf]; omega
      · have hno : ¬ SqOk L := fun ha => ho fun j hj => ha k (by rw [hl.out]; exact hkn) j hj
        have hno := Lib.hid hno; rename_i h_; clear h_
        have ho := Lib.hid ho; rename_i h_; clear h_
        have hb2 : Bl w w1 := slc
        clear hb1 hin
        go_wp2_with fail
        go_ret
        exact ⟨.inr ⟨hno.out, rfl⟩, hb2⟩
    · have hall : SqOk L := fun j hj i hi => hin j (by rw [hl.out] at hj; omega) i hi
      have hall := Lib.hid hall; rename_i h_; clear h_
      go_wp2_with fail
      go_ret
      exact ⟨.inl ⟨hall.out, rfl⟩, hbw⟩


end

section


theorem ofFrac_unit (c : Nat) (hc : c = 6 ∨ c = 12) : ofFrac 1 c = raw 1 c ∧ (dig c).length ≤ 24 := by
  have h24 : (dig c).length ≤ 24 := dig_len_le.2 (by rcases hc with rfl | rfl <;> decide)
  refine ⟨?_, h24⟩
  unfold ofFrac
  have hg : Nat.gcd (Int.natAbs 1) c = 1 := Nat.gcd_one_left c
  rw [hg, Nat.div_one, Nat.div_one]
  rw [if_pos ⟨dig_len_le.2 (by decide), h24⟩]
  simp
theorem mul_unit {D : RatD} (c : Nat) (hc : c = 6 ∨ c = 12) : mulR D (ofFrac 1 c) = divR D (ofFrac (c : Int) 1) := by
  obtain ⟨e1, h24⟩ := ofFrac_unit c hc
  have e2 : ofFrac (c : Int) 1 = raw c 1 := ofFrac_int (by omega) (by omega)
  rw [e1, e2]
  have o1 : OkR (raw 1 c) := ⟨1, c, rfl, by omega, Nat.gcd_one_left c, dig_len_le.2 (by decide), h24⟩
  have o2 : OkR (raw (c : Int) 1) := ⟨c, 1, rfl, by omega, Nat.gcd_one_right _, by simpa using h24, dig_len_le.2 (by decide)⟩
  by_cases hD : OkR D
  · unfold mulR divR
    rw [if_pos ⟨hD, o1⟩, if_pos ⟨hD, o2, by rw [rn_raw]; omega⟩, rn_raw, rd_raw, rn_raw, rd_raw, if_neg (by omega)]
    simp
  · unfold mulR divR
    rw [if_neg (fun h => hD h.1), if_neg (fun h => hD h.1)]
theorem massV_mul (D : RatD) (i j : Nat) : massV D i j = if i = j then mulR D (ofFrac 1 ((6 : Int).natAbs)) else mulR D (ofFrac 1 ((12 : Int).natAbs)) := by
  unfold massV
  split
  · exact (mul_unit 6 (.inl rfl)).symm
  · exact (mul_unit 12 (.inr rfl)).symm

set_option maxRecDepth 100000 in
set_option maxHeartbeats 8000000 in
theorem LocalMass_any (w : World) {g n c0 : Nat} {l : List PtD} (h : RdPS w (some ⟨g, 0, none⟩) n c0 l) :
    Calls Tryz.prog 24 #[.slice (some ⟨g, 0, none⟩) n c0] w fun e w' => ∃ A1 n1 c1, e = .returned (.slice A1 n1 c1) ∧ OwSZ 3 34 51 w.heap.size w'.heap.size w' A1 n1 c1 (massL l) ∧ Bl w w' := by
  by_cases hp : propB l = true
  · obtain ⟨_, p0, p1, p2, e, _⟩ := propB_out hp
    subst e
    obtain rfl : 3 = n := h.len
    have hv : massL [p0, p1, p2] = sqIf (massTo (areaR p0 p1 p2) 3) := by unfold massL; rw [if_pos hp]; rfl
    have hv2 := Lib.hid (show areaL [p0, p1, p2] = (areaR p0 p1 p2) by unfold areaL; rw [if_pos hp]; rfl)
    rw [hv]
    clear hv
    have hp := Lib.hid hp; rename_i h_; clear h_
    go_enter Tryz.func24, Tryz.ntmps24
    go_wp2_with fail
    refine (IsProper_any _ h).mono ?_
    rw [hp.out]
    rintro e w1 ⟨rfl, hb1⟩
    go_wp2_with fail
    go_loopw [3, 12] (fun v i wr => ∃ (k hi : Nat), k ≤ 3 ∧ i = .int .i64 (k : Int) ∧ RowS List.Nodup w1.heap.size hi wr v (massTo (areaR p0 p1 p2) k) ∧ Bl w1 wr ∧ w1.heap.size ≤ hi) (fun _ i _ => 3 - (intOf i).toNat)
    case atStart => exact ⟨0, w1.heap.size + 1, by omega, rfl, RowG.empty appN_nodup w1 (Nat.le_refl _), (Bl.refl _).alloc _, by omega⟩
    case round =>
      obtain ⟨k, hi, hk, rfl, hrow, hbw, hlh⟩ := hrel
      have hhi0 := RowG.hiLe hrow
      have hbz := Bl.size hbw
      obtain ⟨wo, rfl⟩ : ∃ wo : World, wo = wr := ⟨_, rfl⟩
      by_cases hk3 : k < 3
      · have hki : (k : Int) < 3 := by omega
        go_wp2_with fail
        go_loopw [5, 16] (fun v2 j wr => ∃ (m hi2 : Nat), m ≤ 3 ∧ j = .int .i64 (m : Int) ∧ RowR List.Nodup wo.heap.size hi2 wr v2 (massRow (areaR p0 p1 p2) k m) ∧ Bl wo wr ∧ wo.heap.size ≤ hi2) (fun _ j _ => 3 - (intOf j).toNat)
        case atStart => exact ⟨0, _, by omega, rfl, RowG.empty appN_nodup wo (Nat.le_refl _), (Bl.refl _).alloc _, by omega⟩
        case round =>
          obtain ⟨m, hi2, hm, rfl, hrow2, hbw2, hlh2⟩ := hrel
          have hhi2 := RowG.hiLe hrow2
          have hbz2 := Bl.size hbw2
          by_cases hm3 : m < 3
          · have hmi : (m : Int) < 3 := by omega
            by_cases hkm : k = m
            · have hV : Hid (massV (areaR p0 p1 p2) k m = divR (areaR p0 p1 p2) (ofFrac 6 1)) := by unfold Hid massV; rw [if_pos hkm]
              have hkd : ((k : Int) == (m : Int)) = true := by simp [hkm]
              have hkm := Lib.hid hkm; rename_i h_; clear h_
              go_wp2_with fail
              refine (area_any _ (RdPS.bl h (hb1.next (hbw.next hbw2)))).mono ?_
              rintro e w2 ⟨s2, A2, n2, c2, B2, m2, d2, rfl, hR2, hb2⟩
              go_wp2_with fail
              refine (RatFromInt_any _ 6 (by omega) (by omega)).mono ?_
              rintro e w3 ⟨s3, A3, n3, c3, B3, m3, d3, rfl, hR3, hb3⟩
              have hz2 := Bl.size hb2
              have hz3 := Bl.size hb3
              go_wp2_with fail
              refine (RatDiv_any _ (hR2.rd.bl hb3) hR3.rd).mono ?_
              rintro e w4 ⟨s4, A4, n4, c4, B4, m4, d4, rfl, hR4, hb4⟩
              have hb5 := ((hbw2.next hb2).next hb3).next hb4
              have hrow4 := RowG.bl (rtIn_keep 3) (RowG.bl (rtIn_keep 3) (RowG.bl (rtIn_keep 3) hrow2 hb2) hb3) hb4
              clear hrow2
              rw [← hV.out] at hR4
              go_wp2_with ((refine wpList_append_rat rfl (.tmp 22) (.tmp 28) rfl _ (by rfl) hrow4 hR4 (by omega) hlh2 1 (by rfl) (by rw [massRow_len]; omega) wo hb5 (Nat.le_refl _) ?_; intro v' w8 hrow' hb8'; clear hrow4 hR4))
              have hz8 := hb8'.size
              rw [← massRow_succ] at hrow'
              go_roundw
              case rel => exact ⟨m + 1, _, by omega, by go_num, hrow', hb8', hz8⟩
              case measure => simp [intOf]; omega
            · have hV : Hid (massV (areaR p0 p1 p2) k m = divR (areaR p0 p1 p2) (ofFrac 12 1)) := by unfold Hid massV; rw [if_neg hkm]
              have hkd : ((k : Int) == (m : Int)) = false := by simp; omega
              have hkm := Lib.hid hkm; rename_i h_; clear h_
              go_wp2_with fail
              refine (area_any _ (RdPS.bl h (hb1.next (hbw.next hbw2)))).mono ?_
              rintro e w2 ⟨s2, A2, n2, c2, B2, m2, d2, rfl, hR2, hb2⟩
              go_wp2_with fail
              refine (RatFromInt_any _ 12 (by omega) (by omega)).mono ?_
              rintro e w3 ⟨s3, A3, n3, c3, B3, m3, d3, rfl, hR3, hb3⟩
              have hz2 := Bl.size hb2
              have hz3 := Bl.size hb3
              go_wp2_with fail
              refine (RatDiv_any _ (hR2.rd.bl hb3) hR3.rd).mono ?_
              rintro e w4 ⟨s4, A4, n4, c4, B4, m4, d4, rfl, hR4, hb4⟩
              have hb5 := ((hbw2.next hb2).next hb3).next hb4
              have hrow4 := RowG.bl (rtIn_keep 3) (RowG.bl (rtIn_keep 3) (RowG.bl (rtIn_keep 3) hrow2 hb2) hb3) hb4
              clear hrow2
              rw [← hV.out] at hR4
              go_wp2_with ((refine wpList_append_rat rfl (.tmp 22) (.tmp 28) rfl _ (by rfl) hrow4 hR4 (by omega) hlh2 1 (by rfl) (by rw [massRow_len]; omega) wo hb5 (Nat.le_refl _) ?_; intro v' w8 hrow' hb8'; clear hrow4 hR4))
              have hz8 := hb8'.size
              rw [← massRow_succ] at hrow'
              go_roundw
              case rel => exact ⟨m + 1, _, by omega, by go_num, hrow', hb8', hz8⟩
              case measure => simp [intOf]; omega
          · obtain rfl : m = 3 := by omega
            obtain ⟨A7, c7, bs7, rfl, hft, hnd, hbs⟩ := RowR.ft hrow2 (by rw [massRow_len]; omega)
            have hrow := RowG.bl (rsIn_keep 3 34) hrow hbw2
            have hb6 := hbw.next hbw2
            go_wp2_with ((refine wpList_append_rats rfl (.tmp 31) (.tmp 33) rfl _ (by rfl) hrow hft hnd (fun b hb => ⟨by have := (hbs b hb).1; omega, Nat.lt_of_lt_of_le (hbs b hb).2 hhi2⟩) hlh 1 (by rfl) (by rw [massTo_len]; omega) w1 hb6 (Nat.le_refl _) ?_; intro v' w8 hrow' hb8'; clear hrow hft))
            have hz8 := hb8'.size
            rw [← massTo_succ] at hrow'
            go_roundw
            case rel => exact ⟨k + 1, _, by omega, by go_num, hrow', hb8', hz8⟩
            case measure => simp [intOf]; omega
      · obtain rfl : k = 3 := by omega
        obtain ⟨A1, c1, rfl, hZ⟩ := RowS.own hrow (by rw [massTo_len]; omega)
        rw [massTo_len] at hZ ⊢
        have hbf := hb1.next hbw
        have hhi3 := RowG.hiLe hrow
        go_wp2_with fail
        refine (ifSquare_any _ hZ.rd (massTo_z _)).mono ?_
        rintro e w7 ⟨⟨hs, rfl⟩ | ⟨hs, rfl⟩, hb7⟩
        · have hv := Lib.hid (show sqIf (massTo (areaR p0 p1 p2) 3) = massTo (areaR p0 p1 p2) 3 from if_pos hs)
          have hs := Lib.hid hs; rename_i h_; clear h_
          go_wp2_with fail
          go_ret
          rw [hv.out]
          exact ⟨_, _, _, rfl, (OwSZ.bl hZ hb7).low (Bl.size hb1) (Nat.le_trans hhi3 (Bl.size hb7)), hbf.next hb7⟩
        · have hv := Lib.hid (show sqIf (massTo (areaR p0 p1 p2) 3) = [] from if_neg hs)
          have hs := Lib.hid hs; rename_i h_; clear h_
          go_wp2_with fail
          go_ret
          rw [hv.out]
          exact ⟨_, _, _, rfl, ⟨rfl, Nat.le_refl _, Nat.zero_le _, .inl rfl⟩, hbf.next hb7⟩
  · have hval := Lib.hid (show massL l = [] by unfold massL; rw [if_neg hp])
    have hp := Lib.hid (Bool.eq_false_iff.2 hp); rename_i h_; clear h_
    go_enter Tryz.func24, Tryz.ntmps24
    go_wp2_with fail
    refine (IsProper_any _ h).mono ?_
    rw [hp.out]
    rintro e w1 ⟨rfl, hb1⟩
    go_wp2_with fail
    go_ret
    rw [hval.out]
    exact ⟨_, _, _, rfl, ⟨rfl, Nat.le_refl _, Nat.zero_le _, .inl rfl⟩, hb1⟩


end

section


theorem mulR_z (r s : RatD) : mulR r s = zR ∨ OkR (mulR r s) := by
  unfold mulR
  split
  · rename_i h
    exact ofFrac_ok (Nat.mul_pos h.1.get.2.1 h.2.get.2.1)
  · exact .inl rfl
theorem mulR_24 (r s : RatD) : (mulR r s).mag.length ≤ 24 ∧ (mulR r s).den.length ≤ 24 := by
  unfold mulR
  split
  · exact len24_ofFrac _ _
  · exact len24_zR
noncomputable def stifV (D : RatD) (G : List PtD) (i j : Nat) : RatD := mulR D (innP (pix G i) (pix G j))
noncomputable def stifRow (D : RatD) (G : List PtD) (i k : Nat) : List RatD := (List.range k).map (stifV D G i)
noncomputable def stifTo (D : RatD) (G : List PtD) (k : Nat) : List (List RatD) := (List.range k).map fun i => stifRow D G i 3
open Classical in
/-- The stiffness matrix of a proper corner list. -/
noncomputable def stifP (p0 p1 p2 : PtD) : List (List RatD) := if GradOk p0 p1 p2 3 then sqIf (stifTo (areaR p0 p1 p2) (gradTo p0 p1 p2 3) 3) else []
noncomputable def stifL (l : List PtD) : List (List RatD) := if propB l = true then stifP (pix l 0) (pix l 1) (pix l 2) else []
theorem stifRow_succ (D : RatD) (G : List PtD) (i k : Nat) : stifRow D G i (k + 1) = stifRow D G i k ++ [stifV D G i k] := by unfold stifRow; rw [List.range_succ, List.map_append]; rfl
theorem stifRow_len (D : RatD) (G : List PtD) (i k : Nat) : (stifRow D G i k).length = k := by simp [stifRow]
theorem stifTo_succ (D : RatD) (G : List PtD) (k : Nat) : stifTo D G (k + 1) = stifTo D G k ++ [stifRow D G k 3] := by unfold stifTo; rw [List.range_succ, List.map_append]; rfl
theorem stifTo_len (D : RatD) (G : List PtD) (k : Nat) : (stifTo D G k).length = k := by simp [stifTo]
theorem stifTo_z (D : RatD) (G : List PtD) : ZOk (stifTo D G 3) := by
  intro i hi
  rw [stifTo_len] at hi
  have e : pix (stifTo D G 3) i = stifRow D G i 3 := by simp [pix, stifTo, hi]
  rw [e, stifRow_len]
  refine ⟨by omega, fun j hj => ?_⟩
  have e2 : pix (stifRow D G i 3) j = stifV D G i j := by simp [pix, stifRow, hj]
  rw [e2]
  exact mulR_z _ _
theorem stifL_sz (l : List PtD) : (stifL l).length ≤ 8 ∧ ∀ i, i < (stifL l).length → szL szR (pix (stifL l) i) ≤ 1048576 := by
  have h0 : (([] : List (List RatD)).length ≤ 8 ∧ ∀ i, i < ([] : List (List RatD)).length → szL szR (pix ([] : List (List RatD)) i) ≤ 1048576) := ⟨Nat.zero_le _, fun i hi => by simp at hi⟩
  have h1 : ∀ D G, (stifTo D G 3).length ≤ 8 ∧ ∀ i, i < (stifTo D G 3).length → szL szR (pix (stifTo D G 3) i) ≤ 1048576 := by
    intro D G
    rw [stifTo_len]
    refine ⟨by omega, fun i hi => ?_⟩
    have e : pix (stifTo D G 3) i = stifRow D G i 3 := by simp [pix, stifTo, hi]
    rw [e]
    refine szL_24 (by rw [stifRow_len]; omega) fun j hj => ?_
    rw [stifRow_len] at hj
    have e2 : pix (stifRow D G i 3) j = stifV D G i j := by simp [pix, stifRow, hj]
    rw [e2]
    exact mulR_24 _ _
  unfold stifL stifP sqIf
  split
  · split
    · split
      · exact h1 _ _
      · exact h0
    · exact h0
  · exact h0

set_option maxRecDepth 100000 in
set_option maxHeartbeats 8000000 in
theorem LocalStiffness_any (w : World) {g n c0 : Nat} {l : List PtD} (h : RdPS w (some ⟨g, 0, none⟩) n c0 l) :
    Calls Tryz.prog 29 #[.slice (some ⟨g, 0, none⟩) n c0] w fun e w' => ∃ A1 n1 c1, e = .returned (.slice A1 n1 c1) ∧ OwSZ 3 34 51 w.heap.size w'.heap.size w' A1 n1 c1 (stifL l) ∧ Bl w w' := by
  by_cases hp : propB l = true
  · obtain ⟨_, p0, p1, p2, e, _⟩ := propB_out hp
    subst e
    obtain rfl : 3 = n := h.len
    have hv : stifL [p0, p1, p2] = stifP p0 p1 p2 := by unfold stifL; rw [if_pos hp]; rfl
    have hv1 := Lib.hid (show gradL [p0, p1, p2] = gradP p0 p1 p2 by unfold gradL; rw [if_pos hp]; rfl)
    have hv2 := Lib.hid (show areaL [p0, p1, p2] = (areaR p0 p1 p2) by unfold areaL; rw [if_pos hp]; rfl)
    rw [hv]
    clear hv
    have hp := Lib.hid hp; rename_i h_; clear h_
    go_enter Tryz.func29, Tryz.ntmps29
    go_wp2_with fail
    refine (Gradients_any _ h).mono ?_
    rw [hv1.out]
    rintro e w2 ⟨Ag, ng, cg, rfl, hZ, hnil, hb1⟩
    by_cases ho : GradOk p0 p1 p2 3
    · skip
      have hgv : gradP p0 p1 p2 = (gradTo p0 p1 p2 3) := if_pos ho
      have hval := Lib.hid (show stifP p0 p1 p2 = sqIf (stifTo (areaR p0 p1 p2) (gradTo p0 p1 p2 3) 3) from if_pos ho)
      rw [hgv] at hZ
      have hGl : (gradTo p0 p1 p2 3).length = 3 := gradTo_len _ _ _ _
      have ho := Lib.hid ho; rename_i h_; clear h_
      have hng := hZ.rd.len
      obtain rfl : ng = 3 := hng.symm.trans hGl
      clear hng hgv hnil hGl
      have hG := hZ.rd
      clear hZ
      generalize (gradTo p0 p1 p2 3) = G at hG hval
      obtain ⟨ag, ea, _, _⟩ := hG.cells 0 (by omega)
      subst ea
      have hnb : ∀ W : World, Sem.run Tryz.prog (binOp BinOp.eql 24 (.slice (some ag) 3 cg) (.slice none 0 0)) W = .ok (.bool false) W := fun _ => by kernel_rfl
      go_wp2_with fail
      clear hnb
      go_loopw [4, 17] (fun v i wr => ∃ (k hi : Nat), k ≤ 3 ∧ i = .int .i64 (k : Int) ∧ RowS List.Nodup w2.heap.size hi wr v (stifTo (areaR p0 p1 p2) G k) ∧ Bl w2 wr ∧ w2.heap.size ≤ hi) (fun _ i _ => 3 - (intOf i).toNat)
      case atStart => exact ⟨0, w2.heap.size + 1, by omega, rfl, RowG.empty appN_nodup w2 (Nat.le_refl _), (Bl.refl _).alloc _, by omega⟩
      case round =>
        obtain ⟨k, hi, hk, rfl, hrow, hbw, hlh⟩ := hrel
        have hhi0 := RowG.hiLe hrow
        have hbz := Bl.size hbw
        obtain ⟨wo, rfl⟩ : ∃ wo : World, wo = wr := ⟨_, rfl⟩
        by_cases hk3 : k < 3
        · have hki : (k : Int) < 3 := by omega
          obtain ⟨ad1, ea1, hl1, hat1⟩ := (RdPS.bl hG hbw).cells k (by omega)
          cases ea1
          obtain ⟨s1, A1, n1, c1, B1, m1, d1, t1, C1, i1, e1, D1, j1, f1, ⟨x10, x11, x12, x13, x14, x15⟩, hX1, hY1⟩ := hat1
          go_wp2_with fail
          refine wp_gen (fun W => ∃ Wo : World, W = Wo.alloc (.cells #[] 34) ∧ Bl wo Wo ∧ Blk Wo wo.heap.size 45 #[.bool s1, .slice A1 n1 c1, .slice B1 m1 d1, .bool t1, .slice C1 i1 e1, .slice D1 j1 f1] ∧ Wo.heap.size = wo.heap.size + 1) ⟨_, rfl, slc, Blk.new _ _ _, by simp⟩ ?_
          rintro _ ⟨wp, rfl, hbp, qp, hsw⟩
          rw [← hsw]
          have hX1 := hX1.bl hbp
          have hY1 := hY1.bl hbp
          clear x10 x11 x12 x13 x14 x15 hl1
          have hbwp := hbw.next hbp
          have hgp : wo.heap.size < wp.heap.size := by omega
          clear hsw
          go_loopw [7, 24] (fun v2 j wr2 => ∃ (m hi2 : Nat), m ≤ 3 ∧ j = .int .i64 (m : Int) ∧ RowR List.Nodup wp.heap.size hi2 wr2 v2 (stifRow (areaR p0 p1 p2) G k m) ∧ Bl wp wr2 ∧ wp.heap.size ≤ hi2) (fun _ j _ => 3 - (intOf j).toNat)
          case atStart => exact ⟨0, wp.heap.size + 1, by omega, rfl, RowG.empty appN_nodup wp (Nat.le_refl _), (Bl.refl _).alloc _, by omega⟩
          case round =>
            obtain ⟨m, hi2, hm, rfl, hrow2, hbw2, hlh2⟩ := hrel
            have hhi2 := RowG.hiLe hrow2
            have hbz2 := Bl.size hbw2
            by_cases hm3 : m < 3
            · have hmi : (m : Int) < 3 := by omega
              obtain ⟨ad2, ea2, hl2, hat2⟩ := (RdPS.bl hG (hbwp.next hbw2)).cells m (by omega)
              cases ea2
              obtain ⟨s2, A2, n2, c2, B2, m2, d2, t2, C2, i2, e2, D2, j2, f2, ⟨x20, x21, x22, x23, x24, x25⟩, hX2, hY2⟩ := hat2
              go_wp2_with fail
              obtain ⟨wo2, rfl⟩ : ∃ wo2 : World, wo2 = wr := ⟨_, rfl⟩
              refine wp_gen (fun W => Bl wo2 W ∧ Blk W wo2.heap.size 45 #[.bool s2, .slice A2 n2 c2, .slice B2 m2 d2, .bool t2, .slice C2 i2 e2, .slice D2 j2 f2]) ⟨slc, Blk.new _ _ _⟩ ?_
              rintro wr ⟨hbq, qq⟩
              have hX2 := hX2.bl hbq
              have hY2 := hY2.bl hbq
              clear x20 x21 x22 x23 x24 x25 hl2
              have qp2 := (qp.bl hbw2).bl hbq
              have hX1 := (hX1.bl hbw2).bl hbq
              have hY1 := (hY1.bl hbw2).bl hbq
              have hrow2 := RowG.bl (rtIn_keep 3) hrow2 hbq
              have hhi20 := hhi2
              have hhi2 := Nat.le_trans hhi2 (Bl.size hbq)
              have hbwr : Bl w wr := ((hb1.next hbwp).next hbw2).next hbq
              have hbow : Bl wp wr := hbw2.next hbq
              clear hbw2 hbq
              go_region_held3 (fun w' => (w'.cell? ⟨wo.heap.size, 0, none⟩ = some (.bool s1) ∧ w'.cell? ⟨wo.heap.size, 1, none⟩ = some (.slice A1 n1 c1) ∧ w'.cell? ⟨wo.heap.size, 2, none⟩ = some (.slice B1 m1 d1) ∧ w'.cell? ⟨wo.heap.size, 3, none⟩ = some (.bool t1) ∧ w'.cell? ⟨wo.heap.size, 4, none⟩ = some (.slice C1 i1 e1) ∧ w'.cell? ⟨wo.heap.size, 5, none⟩ = some (.slice D1 j1 f1)) ∧ (w'.cell? ⟨wo2.heap.size, 0, none⟩ = some (.bool s2) ∧ w'.cell? ⟨wo2.heap.size, 1, none⟩ = some (.slice A2 n2 c2) ∧ w'.cell? ⟨wo2.heap.size, 2, none⟩ = some (.slice B2 m2 d2) ∧ w'.cell? ⟨wo2.heap.size, 3, none⟩ = some (.bool t2) ∧ w'.cell? ⟨wo2.heap.size, 4, none⟩ = some (.slice C2 i2 e2) ∧ w'.cell? ⟨wo2.heap.size, 5, none⟩ = some (.slice D2 j2 f2))) (first | exact ⟨bx6 (T := 45) (qp2.bl slc), bx6 (T := 45) (qq.bl slc)⟩) (first | (go_at_call 83; (with_reducible refine (area_any _ (RdPS.bl h slc)).mono ?_); rintro e w2' ⟨s2', A2', n2', c2', B2', m2', d2', rfl, hR2, hb2⟩) | (go_at_call 74; (with_reducible refine (Inner_any _ (hX1.bl slc) (hY1.bl slc) (hX2.bl slc) (hY2.bl slc)).mono ?_); rintro e w3' ⟨s3', A3', n3', c3', B3', m3', d3', rfl, hR3, hb3⟩) | (go_at_call 88; (with_reducible refine (RatMul_any _ (hR2.rd.bl slc) (hR3.rd.bl slc)).mono ?_); rintro e w4 ⟨s4, A4, n4, c4, B4, m4, d4, rfl, hR4, hb4⟩; (have hrow4 := RowG.bl (rtIn_keep 3) hrow2 (show Bl wr w4 from slc))) | ((have qq4 := (show Blk w4 wo2.heap.size 45 #[.bool s2, .slice A2 n2 c2, .slice B2 m2 d2, .bool t2, .slice C2 i2 e2, .slice D2 j2 f2] from qq.bl slc)); (have hz3 : hi2 ≤ w3'.heap.size := Nat.le_trans hhi2 (Bl.size (show Bl wr w3' from slc))); (have hb5 : Bl wp w4 := slc); refine step_append_ratX rfl (.tmp 28) (.tmp 35) rfl _ (by rfl) hrow4 hR4 hz3 hlh2 1 (by rfl) (by rw [stifRow_len]; omega) wp hb5 (Nat.le_refl _) ?_; intro v' w8 hrow' hb8' hoth; (have qq := Blk.oth qq4 hoth (RowG.ne hrow2 hhi20)); (have qp2 := qp.bl hb8'); clear hrow4 hR4 hoth qq4))
              have hz8 := hb8'.size
              rw [show stifRow (areaR p0 p1 p2) G k m ++ [mulR (areaR p0 p1 p2) (innP (pix G k) (pix G m))] = stifRow (areaR p0 p1 p2) G k (m + 1) from (stifRow_succ _ _ _ _).symm] at hrow'
              go_wp2_with fail
              go_roundw
              case rel => exact ⟨m + 1, _, by omega, by go_num, hrow', hb8', hz8⟩
              case measure => simp [intOf]; omega
            · skip
              obtain rfl : m = 3 := by omega
              obtain ⟨A7, c7, bs7, rfl, hft, hnd, hbs⟩ := RowR.ft hrow2 (by rw [stifRow_len]; omega)
              have hrow := RowG.bl (rsIn_keep 3 34) hrow (hbp.next hbw2)
              have hb6 := hbwp.next hbw2
              go_wp2_with ((refine wpList_append_rats rfl (.tmp 38) (.tmp 40) rfl _ (by rfl) hrow hft hnd (fun b hb => ⟨by have := (hbs b hb).1; omega, Nat.lt_of_lt_of_le (hbs b hb).2 hhi2⟩) hlh 1 (by rfl) (by rw [stifTo_len]; omega) w2 hb6 (Nat.le_refl _) ?_; intro v' w8 hrow' hb8'; clear hrow hft))
              have hz8 := hb8'.size
              rw [← stifTo_succ] at hrow'
              go_roundw
              case rel => exact ⟨k + 1, _, by omega, by go_num, hrow', hb8', hz8⟩
              case measure => simp [intOf]; omega
        · skip
          obtain rfl : k = 3 := by omega
          obtain ⟨A1, c1, rfl, hZ⟩ := RowS.own hrow (by rw [stifTo_len]; omega)
          rw [stifTo_len] at hZ ⊢
          have hbf := hb1.next hbw
          have hhi3 := RowG.hiLe hrow
          go_wp2_with fail
          refine (ifSquare_any _ hZ.rd (stifTo_z _ _)).mono ?_
          rintro e w7 ⟨⟨hs, rfl⟩ | ⟨hs, rfl⟩, hb7⟩
          · have hv := Lib.hid (show sqIf (stifTo (areaR p0 p1 p2) G 3) = stifTo (areaR p0 p1 p2) G 3 from if_pos hs)
            have hs := Lib.hid hs; rename_i h_; clear h_
            go_wp2_with fail
            go_ret
            rw [hval.out, hv.out]
            exact ⟨_, _, _, rfl, (OwSZ.bl hZ hb7).low (Bl.size hb1) (Nat.le_trans hhi3 (Bl.size hb7)), hbf.next hb7⟩
          · have hv := Lib.hid (show sqIf (stifTo (areaR p0 p1 p2) G 3) = [] from if_neg hs)
            have hs := Lib.hid hs; rename_i h_; clear h_
            go_wp2_with fail
            go_ret
            rw [hval.out, hv.out]
            exact ⟨_, _, _, rfl, ⟨rfl, Nat.le_refl _, Nat.zero_le _, .inl rfl⟩, hbf.next hb7⟩
    · skip
      have hval := Lib.hid (show stifP p0 p1 p2 = [] from if_neg ho)
      have hgv : gradP p0 p1 p2 = [] := if_neg ho
      rw [hgv] at hZ
      obtain rfl : 0 = ng := hZ.rd.len
      obtain ⟨rfl, rfl⟩ := hnil rfl
      have ho := Lib.hid ho; rename_i h_; clear h_
      clear hgv hZ hnil
      have hnb : ∀ W : World, Sem.run Tryz.prog (binOp BinOp.eql 24 (.slice none 0 0) (.slice none 0 0)) W = .ok (.bool true) W := fun _ => by kernel_rfl
      go_wp2_with fail
      go_ret
      rw [hval.out]
      exact ⟨_, _, _, rfl, ⟨rfl, Nat.le_refl _, Nat.zero_le _, .inl rfl⟩, hb1⟩
  · have hval := Lib.hid (show stifL l = [] by unfold stifL; rw [if_neg hp])
    have hgn := Lib.hid (show gradL l = [] by unfold gradL; rw [if_neg hp])
    have hp := Lib.hid (Bool.eq_false_iff.2 hp); rename_i h_; clear h_
    go_enter Tryz.func29, Tryz.ntmps29
    go_wp2_with fail
    refine (Gradients_any _ h).mono ?_
    rw [hgn.out]
    rintro e w2 ⟨Ag, ng, cg, rfl, hZ, hnil, hb1⟩
    obtain rfl : 0 = ng := hZ.rd.len
    obtain ⟨rfl, rfl⟩ := hnil rfl
    clear hZ hnil
    have hnb : ∀ W : World, Sem.run Tryz.prog (binOp BinOp.eql 24 (.slice none 0 0) (.slice none 0 0)) W = .ok (.bool true) W := fun _ => by kernel_rfl
    go_wp2_with fail
    go_ret
    rw [hval.out]
    exact ⟨_, _, _, rfl, ⟨rfl, Nat.le_refl _, Nat.zero_le _, .inl rfl⟩, hb1⟩


end

section


set_option maxRecDepth 100000 in
set_option maxHeartbeats 8000000 in
theorem sLocalStiffness_any (w : World) {g n c0 : Nat} {l : List PtD} (h : RdPS w (some ⟨g, 0, none⟩) n c0 l) :
    Calls Tryz.prog 28 #[.slice (some ⟨g, 0, none⟩) n c0] w fun e w' => ∃ A1 n1 c1, e = .returned (.slice A1 n1 c1) ∧ RdRSS w' A1 n1 c1 (stifL l) ∧ Bl w w' := by
  by_cases hp : propB l = true
  · obtain ⟨_, p0, p1, p2, e, _⟩ := propB_out hp
    subst e
    obtain rfl : 3 = n := h.len
    have hv : stifL [p0, p1, p2] = stifP p0 p1 p2 := by unfold stifL; rw [if_pos hp]; rfl
    have hv1 := Lib.hid (show gradL [p0, p1, p2] = gradP p0 p1 p2 by unfold gradL; rw [if_pos hp]; rfl)
    have hv2 := Lib.hid (show areaL [p0, p1, p2] = (areaR p0 p1 p2) by unfold areaL; rw [if_pos hp]; rfl)
    rw [hv]
    clear hv
    have hp := Lib.hid hp; rename_i h_; clear h_
    go_enter Tryz.func28, Tryz.ntmps28
    go_wp2_with fail
    refine (sIsProper_any _ h).mono ?_
    rw [hp.out]
    rintro e w1 ⟨rfl, hb0⟩
    go_wp2_with fail
    refine (sGradients_three _ (RdPS.bl h hb0) hp).mono ?_
    rintro e w2 ⟨Ag, ng, cg, rfl, hZ, hnil, hb2⟩
    have hb1 := hb0.next hb2
    go_wp2_with fail
    refine (sAreaOf_any _ (RdPS.bl h hb1)).mono ?_
    rintro e w3 ⟨s9, A9, n9, c9, B9, m9, d9, rfl, hR9, hb3⟩
    rw [hv2.out] at hR9
    have hZ := OwPZ.bl hZ hb3
    have hb1 := hb1.next hb3
    by_cases ho : GradOk p0 p1 p2 3
    · skip
      have hgv : gradP p0 p1 p2 = (gradTo p0 p1 p2 3) := if_pos ho
      have hval := Lib.hid (show stifP p0 p1 p2 = sqIf (stifTo (areaR p0 p1 p2) (gradTo p0 p1 p2 3) 3) from if_pos ho)
      rw [hgv] at hZ
      have hGl : (gradTo p0 p1 p2 3).length = 3 := gradTo_len _ _ _ _
      have ho := Lib.hid ho; rename_i h_; clear h_
      have hng := hZ.rd.len
      obtain rfl : ng = 3 := hng.symm.trans hGl
      clear hng hgv hnil hGl
      have hG := hZ.rd
      clear hZ
      generalize (gradTo p0 p1 p2 3) = G at hG hval
      obtain ⟨ag, ea, _, _⟩ := hG.cells 0 (by omega)
      subst ea
      go_wp2_with fail
      refine wp_gen (fun W => ∃ Wa : World, W = Wa.alloc (.cells #[] 51) ∧ Bl w Wa ∧ Blk Wa w3.heap.size 34 #[.bool s9, .slice A9 n9 c9, .slice B9 m9 d9] ∧ RdR Wa s9 A9 n9 c9 B9 m9 d9 (areaR p0 p1 p2) ∧ RdPS Wa (some ag) 3 cg G ∧ Wa.heap.size = w3.heap.size + 1) ⟨_, rfl, slc, Blk.new _ _ _, hR9.rd.bl slc, RdPS.bl hG slc, by simp⟩ ?_
      clear hR9 hG
      rintro _ ⟨wa, rfl, hba, qa, hRa, hG, hsw⟩
      rw [← hsw]
      clear hsw
      go_loopw [5, 19] (fun v i wr => ∃ (k hi : Nat), k ≤ 3 ∧ i = .int .i64 (k : Int) ∧ RowS List.Nodup wa.heap.size hi wr v (stifTo (areaR p0 p1 p2) G k) ∧ Bl wa wr ∧ wa.heap.size ≤ hi) (fun _ i _ => 3 - (intOf i).toNat)
      case atStart => exact ⟨0, wa.heap.size + 1, by omega, rfl, RowG.empty appN_nodup wa (Nat.le_refl _), (Bl.refl _).alloc _, by omega⟩
      case round =>
        obtain ⟨k, hi, hk, rfl, hrow, hbw, hlh⟩ := hrel
        have hhi0 := RowG.hiLe hrow
        have hbz := Bl.size hbw
        obtain ⟨wo, rfl⟩ : ∃ wo : World, wo = wr := ⟨_, rfl⟩
        by_cases hk3 : k < 3
        · have hki : (k : Int) < 3 := by omega
          go_wp2_with fail
          go_loopw [7, 25] (fun v2 j wr2 => ∃ (m hi2 : Nat), m ≤ 3 ∧ j = .int .i64 (m : Int) ∧ RowR List.Nodup wo.heap.size hi2 wr2 v2 (stifRow (areaR p0 p1 p2) G k m) ∧ Bl wo wr2 ∧ wo.heap.size ≤ hi2) (fun _ j _ => 3 - (intOf j).toNat)
          case atStart => exact ⟨0, wo.heap.size + 1, by omega, rfl, RowG.empty appN_nodup wo (Nat.le_refl _), (Bl.refl _).alloc _, by omega⟩
          case round =>
            obtain ⟨m, hi2, hm, rfl, hrow2, hbw2, hlh2⟩ := hrel
            have hhi2 := RowG.hiLe hrow2
            have hbz2 := Bl.size hbw2
            by_cases hm3 : m < 3
            · have hmi : (m : Int) < 3 := by omega
              obtain ⟨ad1, ea1, hl1, hat1⟩ := (RdPS.bl hG hbw).cells k (by omega)
              cases ea1
              obtain ⟨s1, A1, n1, c1, B1, m1, d1, t1, C1, i1, e1, D1, j1, f1, ⟨x10, x11, x12, x13, x14, x15⟩, hX1, hY1⟩ := hat1
              obtain ⟨ad2, ea2, hl2, hat2⟩ := (RdPS.bl hG hbw).cells m (by omega)
              cases ea2
              obtain ⟨s2, A2, n2, c2, B2, m2, d2, t2, C2, i2, e2, D2, j2, f2, ⟨x20, x21, x22, x23, x24, x25⟩, hX2, hY2⟩ := hat2
              have hl1 : (ag.add (k * 6)).block < wo.heap.size := by rw [block_add]; exact hl1
              have hl2 : (ag.add (m * 6)).block < wo.heap.size := by rw [block_add]; exact hl2
              have hbow : Bl wo wr := hbw2
              have qa2 := qa.bl hbw
              have hRa := hRa.bl hbw
              clear hbw2
              go_wp2_with fail
              go_region_held3 (fun w' => (w'.cell? ⟨w3.heap.size, 0, none⟩ = some (.bool s9) ∧ w'.cell? ⟨w3.heap.size, 1, none⟩ = some (.slice A9 n9 c9) ∧ w'.cell? ⟨w3.heap.size, 2, none⟩ = some (.slice B9 m9 d9)) ∧ (w'.cell? (ag.add (k * 6)) = some (.bool s1) ∧ w'.cell? ⟨(ag.add (k * 6)).block, (ag.add (k * 6)).off + 1, none⟩ = some (.slice A1 n1 c1) ∧ w'.cell? ⟨(ag.add (k * 6)).block, (ag.add (k * 6)).off + 2, none⟩ = some (.slice B1 m1 d1) ∧ w'.cell? ⟨(ag.add (k * 6)).block, (ag.add (k * 6)).off + 3, none⟩ = some (.bool t1) ∧ w'.cell? ⟨(ag.add (k * 6)).block, (ag.add (k * 6)).off + 4, none⟩ = some (.slice C1 i1 e1) ∧ w'.cell? ⟨(ag.add (k * 6)).block, (ag.add (k * 6)).off + 5, none⟩ = some (.slice D1 j1 f1)) ∧ (w'.cell? (ag.add (m * 6)) = some (.bool s2) ∧ w'.cell? ⟨(ag.add (m * 6)).block, (ag.add (m * 6)).off + 1, none⟩ = some (.slice A2 n2 c2) ∧ w'.cell? ⟨(ag.add (m * 6)).block, (ag.add (m * 6)).off + 2, none⟩ = some (.slice B2 m2 d2) ∧ w'.cell? ⟨(ag.add (m * 6)).block, (ag.add (m * 6)).off + 3, none⟩ = some (.bool t2) ∧ w'.cell? ⟨(ag.add (m * 6)).block, (ag.add (m * 6)).off + 4, none⟩ = some (.slice C2 i2 e2) ∧ w'.cell? ⟨(ag.add (m * 6)).block, (ag.add (m * 6)).off + 5, none⟩ = some (.slice D2 j2 f2))) (first | exact ⟨bx3 (T := 34) (qa2.bl slc), ⟨(Bl.cellOf (w := wo) (p := (ag.add (k * 6))) slc hl1).trans x10, (Bl.cellOf (w := wo) (p := ⟨(ag.add (k * 6)).block, (ag.add (k * 6)).off + 1, none⟩) slc hl1).trans x11, (Bl.cellOf (w := wo) (p := ⟨(ag.add (k * 6)).block, (ag.add (k * 6)).off + 2, none⟩) slc hl1).trans x12, (Bl.cellOf (w := wo) (p := ⟨(ag.add (k * 6)).block, (ag.add (k * 6)).off + 3, none⟩) slc hl1).trans x13, (Bl.cellOf (w := wo) (p := ⟨(ag.add (k * 6)).block, (ag.add (k * 6)).off + 4, none⟩) slc hl1).trans x14, (Bl.cellOf (w := wo) (p := ⟨(ag.add (k * 6)).block, (ag.add (k * 6)).off + 5, none⟩) slc hl1).trans x15⟩, ⟨(Bl.cellOf (w := wo) (p := (ag.add (m * 6))) slc hl2).trans x20, (Bl.cellOf (w := wo) (p := ⟨(ag.add (m * 6)).block, (ag.add (m * 6)).off + 1, none⟩) slc hl2).trans x21, (Bl.cellOf (w := wo) (p := ⟨(ag.add (m * 6)).block, (ag.add (m * 6)).off + 2, none⟩) slc hl2).trans x22, (Bl.cellOf (w := wo) (p := ⟨(ag.add (m * 6)).block, (ag.add (m * 6)).off + 3, none⟩) slc hl2).trans x23, (Bl.cellOf (w := wo) (p := ⟨(ag.add (m * 6)).block, (ag.add (m * 6)).off + 4, none⟩) slc hl2).trans x24, (Bl.cellOf (w := wo) (p := ⟨(ag.add (m * 6)).block, (ag.add (m * 6)).off + 5, none⟩) slc hl2).trans x25⟩⟩) (first | (go_at_call 71; (with_reducible refine (sInner_any _ (hX1.bl slc) (hY1.bl slc) (hX2.bl slc) (hY2.bl slc)).mono ?_); rintro e w3' ⟨s3', A3', n3', c3', B3', m3', d3', rfl, hR3, hb3⟩) | (go_at_call 80; (with_reducible refine (sRatMul_any _ (hRa.bl slc) (hR3.rd.bl slc)).mono ?_); rintro e w4 ⟨s4, A4, n4, c4, B4, m4, d4, rfl, hR4, hb4⟩; (have hrow4 := RowG.bl (rtIn_keep 3) hrow2 (show Bl wr w4 from slc))) | ((have hz3 : hi2 ≤ w3'.heap.size := Nat.le_trans hhi2 (Bl.size (show Bl wr w3' from slc))); (have hb5 : Bl wo w4 := slc); refine step_append_ratX rfl (.tmp 28) (.tmp 40) rfl _ (by rfl) hrow4 hR4 hz3 hlh2 1 (by rfl) (by rw [stifRow_len]; omega) wo hb5 (Nat.le_refl _) ?_; intro v' w8 hrow' hb8' hoth; clear hrow4 hR4 hoth))
              have hz8 := hb8'.size
              rw [show stifRow (areaR p0 p1 p2) G k m ++ [mulR (areaR p0 p1 p2) (innP (pix G k) (pix G m))] = stifRow (areaR p0 p1 p2) G k (m + 1) from (stifRow_succ _ _ _ _).symm] at hrow'
              go_wp2_with fail
              go_roundw
              case rel => exact ⟨m + 1, _, by omega, by go_num, hrow', hb8', hz8⟩
              case measure => simp [intOf]; omega
            · skip
              obtain rfl : m = 3 := by omega
              obtain ⟨A7, c7, bs7, rfl, hft, hnd, hbs⟩ := RowR.ft hrow2 (by rw [stifRow_len]; omega)
              have hrow := RowG.bl (rsIn_keep 3 34) hrow hbw2
              have hb6 := hbw.next hbw2
              go_wp2_with ((refine wpList_append_rats rfl (.tmp 43) (.tmp 45) rfl _ (by rfl) hrow hft hnd (fun b hb => ⟨by have := (hbs b hb).1; omega, Nat.lt_of_lt_of_le (hbs b hb).2 hhi2⟩) hlh 1 (by rfl) (by rw [stifTo_len]; omega) wa hb6 (Nat.le_refl _) ?_; intro v' w8 hrow' hb8'; clear hrow hft))
              have hz8 := hb8'.size
              rw [← stifTo_succ] at hrow'
              go_roundw
              case rel => exact ⟨k + 1, _, by omega, by go_num, hrow', hb8', hz8⟩
              case measure => simp [intOf]; omega
        · skip
          obtain rfl : k = 3 := by omega
          obtain ⟨A1, c1, rfl, hZ⟩ := RowS.own hrow (by rw [stifTo_len]; omega)
          rw [stifTo_len] at hZ ⊢
          have hbf := hba.next hbw
          have hhi3 := RowG.hiLe hrow
          go_wp2_with fail
          refine (l12Full_any _ hZ.rd).mono ?_
          rintro e w7 ⟨⟨hs, rfl⟩ | ⟨hs, rfl⟩, hb7⟩
          · have hv := Lib.hid (show sqIf (stifTo (areaR p0 p1 p2) G 3) = stifTo (areaR p0 p1 p2) G 3 from if_pos hs)
            have hs := Lib.hid hs; rename_i h_; clear h_
            go_wp2_with fail
            go_ret
            rw [hval.out, hv.out]
            exact ⟨_, _, _, rfl, RdRSS.bl hZ.rd hb7, hbf.next hb7⟩
          · have hv := Lib.hid (show sqIf (stifTo (areaR p0 p1 p2) G 3) = [] from if_neg hs)
            have hs := Lib.hid hs; rename_i h_; clear h_
            go_wp2_with fail
            go_ret
            rw [hval.out, hv.out]
            exact ⟨_, _, _, rfl, RdS.nil _ _ _, hbf.next hb7⟩
    · skip
      have hval := Lib.hid (show stifP p0 p1 p2 = [] from if_neg ho)
      have hgv : gradP p0 p1 p2 = [] := if_neg ho
      rw [hgv] at hZ
      obtain rfl : 0 = ng := hZ.rd.len
      obtain ⟨rfl, rfl⟩ := hnil rfl
      have ho := Lib.hid ho; rename_i h_; clear h_
      clear hgv hZ hnil
      go_wp2_with fail
      refine wp_gen (fun W => ∃ Wa : World, W = Wa.alloc (.cells #[] 51) ∧ Bl w Wa ∧ Wa.heap.size = w3.heap.size + 1) ⟨_, rfl, slc, by simp⟩ ?_
      clear hR9 hb1
      rintro _ ⟨wa, rfl, hba, hsw⟩
      rw [← hsw]
      clear hsw
      go_loopw [5, 19] (fun v i wr => v = .slice (some ⟨wa.heap.size, 0, none⟩) 0 0 ∧ i = .int .i64 0 ∧ Bl w wr) (fun _ _ _ => 0)
      case atStart => exact ⟨rfl, rfl, slc⟩
      case round =>
        obtain ⟨rfl, rfl, hbw⟩ := hrel
        go_wp2_with fail
        refine (l12Full_any _ (L := []) (RdS.nil _ _ _)).mono ?_
        rintro e w7 ⟨⟨hs, rfl⟩ | ⟨hs, rfl⟩, hb7⟩ <;> (clear hs; go_wp2_with fail; go_ret; rw [hval.out]; exact ⟨_, _, _, rfl, RdS.nil _ _ _, hbw.next hb7⟩)
  · have hval := Lib.hid (show stifL l = [] by unfold stifL; rw [if_neg hp])
    have hgn := Lib.hid (show gradL l = [] by unfold gradL; rw [if_neg hp])
    have hp := Lib.hid (Bool.eq_false_iff.2 hp); rename_i h_; clear h_
    go_enter Tryz.func28, Tryz.ntmps28
    go_wp2_with fail
    refine (sIsProper_any _ h).mono ?_
    rw [hp.out]
    rintro e w1 ⟨rfl, hb1⟩
    go_wp2_with fail
    go_ret
    rw [hval.out]
    exact ⟨_, _, _, rfl, RdS.nil _ _ _, hb1⟩


end

end Go.Proofs.YtggjdgjkdmgjnaaGreat
