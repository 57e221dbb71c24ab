/- Lemmas. -/
import Derived.Test.YtajlahjghapbkaaGreatRows
import Derived.Test.YtajlahjghapbkaaGreatPIntegralsM30
import Derived.Test.YtajlahjghapbkaaGreatPIntegralsM26
import Derived.Test.YtajlahjghapbkaaGreatPIntegralsM28
import Derived.Deep.Cut
import Derived.Deep.DeepCutAuto
namespace Go.Proofs.YtajlahjghapbkaaGreat
section
open Go.RowKit

theorem OwR.setT {T TP : TypeId} {b0 g k : Nat} {w : World} {s : Bool} {A : Option Addr} {n c : Nat} {B : Option Addr} {m d : Nat} {r : RatD} (h : OwR T b0 w s A n c B m d r) (hk : Wk k TP g w) (hne : T ≠ TP) (i0 : Nat) (u : Value) : OwR T b0 (w.setCell ⟨g, i0, none⟩ u) s A n c B m d r := by
  obtain ⟨bs, h1, hf⟩ := h
  exact ⟨bs, h1.keep (by simp) (fun b hb => Below.heap_setCell w _ u b (h1.neT hk hne b hb)), hf.mono (Nat.le_refl _) (by simp)⟩
theorem OwR.put3 {T TP : TypeId} {b0 g k : Nat} {w : World} {s : Bool} {A : Option Addr} {n c : Nat} {B : Option Addr} {m d : Nat} {r : RatD} (h : OwR T b0 w s A n c B m d r) (hk : Wk k TP g w) (hne : T ≠ TP) (u0 u1 u2 : Value) :
    OwR T b0 (((w.setCell ⟨g, 0, none⟩ u0).setCell ⟨g, 1, none⟩ u1).setCell ⟨g, 2, none⟩ u2) s A n c B m d r :=
  ((h.setT hk hne 0 u0).setT (hk.set 0 u0) hne 1 u1).setT ((hk.set 0 u0).set 1 u1) hne 2 u2
theorem ne_ir : (3 : TypeId) ≠ 29 := by decide
/-- Twice the area where a corner is another point. -/
noncomputable def repA (p0 p1 p2 q : PtD) : Nat → RatD
  | 0 => dblA q p1 p2
  | 1 => dblA p0 q p2
  | _ + 2 => dblA p0 p1 q
noncomputable def bar3 (p0 p1 p2 q : PtD) (k : Nat) : RatD := divR (repA p0 p1 p2 q k) (dblA p0 p1 p2)
noncomputable def barTo (p0 p1 p2 q : PtD) (k : Nat) : List RatD := (List.range k).map (bar3 p0 p1 p2 q)
def BarOk (p0 p1 p2 q : PtD) : Prop := ∀ j, j < 3 → OkR (bar3 p0 p1 p2 q j)
theorem barTo_succ (p0 p1 p2 q : PtD) (k : Nat) : barTo p0 p1 p2 q (k + 1) = barTo p0 p1 p2 q k ++ [bar3 p0 p1 p2 q k] := by unfold barTo; rw [List.range_succ, List.map_append]; rfl
theorem barTo_len (p0 p1 p2 q : PtD) (k : Nat) : (barTo p0 p1 p2 q k).length = k := by simp [barTo]

set_option maxRecDepth 100000 in
set_option maxHeartbeats 32000000 in
theorem Barycentric_yes (w : World) {g c0 : Nat} {p0 p1 p2 : PtD} (h : RdPS w (some ⟨g, 0, none⟩) 3 c0 [p0, p1, p2]) (hp : Hid (propB [p0, p1, p2] = true)) {s3 : Bool} {A3 : Option Addr} {n3 c3 : Nat} {B3 : Option Addr} {m3 d3 : Nat} {t3 : Bool} {C3 : Option Addr} {i3 e3 : Nat} {D3 : Option Addr} {j3 f3 : Nat} {q : PtD} (hqx : RdR w s3 A3 n3 c3 B3 m3 d3 q.x) (hqy : RdR w t3 C3 i3 e3 D3 j3 f3 q.y) (hqo : Hid (OkP q)) (hok : Hid (BarOk p0 p1 p2 q)) :
    Calls Tryz.prog 14 #[.slice (some ⟨g, 0, none⟩) 3 c0, .agg #[.bool s3, .slice A3 n3 c3, .slice B3 m3 d3, .bool t3, .slice C3 i3 e3, .slice D3 j3 f3]] w fun e w' => ∃ gb c1, e = .returned (.slice (some ⟨gb, 0, none⟩) 3 c1) ∧ RdRS w' (some ⟨gb, 0, none⟩) 3 c1 (barTo p0 p1 p2 q 3) ∧ Bl w w' := by
  obtain ⟨_, e0, hg, hc0⟩ := h.cells 0 (by omega)
  cases e0
  rw [Addr.add_lit] at hc0
  obtain ⟨s, A, n, c, B, m, d, t, C, i, e, D, j, f, ⟨x0, x1, x2, x3, x4, x5⟩, hX0, hY0⟩ := (show PtAt w ⟨g, 0, none⟩ p0 from hc0)
  have x0 : w.cell? ⟨g, 0, none⟩ = some (.bool s) := x0
  have x1 : w.cell? ⟨g, 1, none⟩ = some (.slice A n c) := x1
  have x2 : w.cell? ⟨g, 2, none⟩ = some (.slice B m d) := x2
  have x3 : w.cell? ⟨g, 3, none⟩ = some (.bool t) := x3
  have x4 : w.cell? ⟨g, 4, none⟩ = some (.slice C i e) := x4
  have x5 : w.cell? ⟨g, 5, none⟩ = some (.slice D j f) := x5
  obtain ⟨_, e0, hg, hc1⟩ := h.cells 1 (by omega)
  cases e0
  rw [Addr.add_lit] at hc1
  obtain ⟨s', A', n', c', B', m', d', t', C', i', e', D', j', f', ⟨y0, y1, y2, y3, y4, y5⟩, hX1, hY1⟩ := (show PtAt w ⟨g, 6, none⟩ p1 from hc1)
  have y0 : w.cell? ⟨g, 6, none⟩ = some (.bool s') := y0
  have y1 : w.cell? ⟨g, 7, none⟩ = some (.slice A' n' c') := y1
  have y2 : w.cell? ⟨g, 8, none⟩ = some (.slice B' m' d') := y2
  have y3 : w.cell? ⟨g, 9, none⟩ = some (.bool t') := y3
  have y4 : w.cell? ⟨g, 10, none⟩ = some (.slice C' i' e') := y4
  have y5 : w.cell? ⟨g, 11, none⟩ = some (.slice D' j' f') := y5
  obtain ⟨_, e0, hg, hc2⟩ := h.cells 2 (by omega)
  cases e0
  rw [Addr.add_lit] at hc2
  obtain ⟨s2, A2, n2, c2, B2, m2, d2, t2, C2, i2, e2, D2, j2, f2, ⟨z0, z1, z2, z3, z4, z5⟩, hX2, hY2⟩ := (show PtAt w ⟨g, 12, none⟩ p2 from hc2)
  have z0 : w.cell? ⟨g, 12, none⟩ = some (.bool s2) := z0
  have z1 : w.cell? ⟨g, 13, none⟩ = some (.slice A2 n2 c2) := z1
  have z2 : w.cell? ⟨g, 14, none⟩ = some (.slice B2 m2 d2) := z2
  have z3 : w.cell? ⟨g, 15, none⟩ = some (.bool t2) := z3
  have z4 : w.cell? ⟨g, 16, none⟩ = some (.slice C2 i2 e2) := z4
  have z5 : w.cell? ⟨g, 17, none⟩ = some (.slice D2 j2 f2) := z5
  clear hc0 hc1 hc2
  go_enter Tryz.func14, Tryz.ntmps14
  go_wp2_with fail
  refine calls_gen (fun W => Bl w W ∧ Blk W w.heap.size 31 #[.bool s3, .slice A3 n3 c3, .slice B3 m3 d3, .bool t3, .slice C3 i3 e3, .slice D3 j3 f3]) ⟨slc, bts⟩ ?_
  rintro W ⟨hbW, hBq⟩
  refine (IsProper_any _ (RdPS.bl h hbW)).mono ?_
  rw [hp.out]
  rintro e w1 ⟨rfl, hb1⟩
  have hBq := hBq.bl hb1
  have hbW := hbW.next hb1
  clear hb1
  obtain ⟨r0, r1, r2, r3, r4, r5⟩ := bx6 hBq
  go_wp2_with fail
  refine (IsValidPoint_yes _ (hqx.bl hbW) (hqy.bl hbW) hqo.out).mono ?_
  rintro e wB ⟨rfl, hb1⟩
  clear r0 r1 r2 r3 r4 r5
  have hBq := hBq.bl hb1
  have hbB := hbW.next hb1
  clear hbW hb1
  have hzB := Bl.size hbB
  go_wp2_with fail
  go_cut [5] (fun s3 wx => ∃ (g3 : Nat) (sw : Bool) (Aw : Option Addr) (nw cw : Nat) (Bw : Option Addr) (mw dw : Nat), s3 = .pointer (some ⟨g3, 0, none⟩) ∧ Blk wx g3 29 #[.bool sw, .slice Aw nw cw, .slice Bw mw dw] ∧ RdR wx sw Aw nw cw Bw mw dw (dblA p0 p1 p2) ∧ Bl wB wx)
  case first =>
    go_region_held3 (fun w' => (w'.cell? ⟨g, 0, none⟩ = some (.bool s) ∧ w'.cell? ⟨g, 1, none⟩ = some (.slice A n c) ∧ w'.cell? ⟨g, 2, none⟩ = some (.slice B m d) ∧ w'.cell? ⟨g, 3, none⟩ = some (.bool t) ∧ w'.cell? ⟨g, 4, none⟩ = some (.slice C i e) ∧ w'.cell? ⟨g, 5, none⟩ = some (.slice D j f)) ∧ (w'.cell? ⟨g, 6, none⟩ = some (.bool s') ∧ w'.cell? ⟨g, 7, none⟩ = some (.slice A' n' c') ∧ w'.cell? ⟨g, 8, none⟩ = some (.slice B' m' d') ∧ w'.cell? ⟨g, 9, none⟩ = some (.bool t') ∧ w'.cell? ⟨g, 10, none⟩ = some (.slice C' i' e') ∧ w'.cell? ⟨g, 11, none⟩ = some (.slice D' j' f')) ∧ (w'.cell? ⟨g, 12, none⟩ = some (.bool s2) ∧ w'.cell? ⟨g, 13, none⟩ = some (.slice A2 n2 c2) ∧ w'.cell? ⟨g, 14, none⟩ = some (.slice B2 m2 d2) ∧ w'.cell? ⟨g, 15, none⟩ = some (.bool t2) ∧ w'.cell? ⟨g, 16, none⟩ = some (.slice C2 i2 e2) ∧ w'.cell? ⟨g, 17, none⟩ = some (.slice D2 j2 f2))) (first | exact ⟨⟨(Bl.cellOf (w := w) (p := ⟨g, 0, none⟩) slc hg).trans x0, (Bl.cellOf (w := w) (p := ⟨g, 1, none⟩) slc hg).trans x1, (Bl.cellOf (w := w) (p := ⟨g, 2, none⟩) slc hg).trans x2, (Bl.cellOf (w := w) (p := ⟨g, 3, none⟩) slc hg).trans x3, (Bl.cellOf (w := w) (p := ⟨g, 4, none⟩) slc hg).trans x4, (Bl.cellOf (w := w) (p := ⟨g, 5, none⟩) slc hg).trans x5⟩, ⟨(Bl.cellOf (w := w) (p := ⟨g, 6, none⟩) slc hg).trans y0, (Bl.cellOf (w := w) (p := ⟨g, 7, none⟩) slc hg).trans y1, (Bl.cellOf (w := w) (p := ⟨g, 8, none⟩) slc hg).trans y2, (Bl.cellOf (w := w) (p := ⟨g, 9, none⟩) slc hg).trans y3, (Bl.cellOf (w := w) (p := ⟨g, 10, none⟩) slc hg).trans y4, (Bl.cellOf (w := w) (p := ⟨g, 11, none⟩) slc hg).trans y5⟩, ⟨(Bl.cellOf (w := w) (p := ⟨g, 12, none⟩) slc hg).trans z0, (Bl.cellOf (w := w) (p := ⟨g, 13, none⟩) slc hg).trans z1, (Bl.cellOf (w := w) (p := ⟨g, 14, none⟩) slc hg).trans z2, (Bl.cellOf (w := w) (p := ⟨g, 15, none⟩) slc hg).trans z3, (Bl.cellOf (w := w) (p := ⟨g, 16, none⟩) slc hg).trans z4, (Bl.cellOf (w := w) (p := ⟨g, 17, none⟩) slc hg).trans z5⟩⟩) (first | (go_at_call 73; refine (DoubleArea_any _ (hX0.bl slc) (hY0.bl slc) (hX1.bl slc) (hY1.bl slc) (hX2.bl slc) (hY2.bl slc)).mono ?_; rintro en w3 ⟨s3_, A3_, n3_, c3_, B3_, m3_, d3_, rfl, hR3, hb3⟩; (have hz3 : wB.heap.size ≤ w3.heap.size := Bl.size (by exact slc)); (first | have hq : Wk 3 29 _ _ := wk_newd hb3 | have hq : Wk 3 29 _ _ := wk_new hb3 | have hq : Wk 3 29 _ _ := Wk.bl hq hb3 | skip); (try obtain ⟨⟨q0, q1, q2⟩, fz0, fz1, fz2⟩ := hq.out3)))
    · go_wp2_with fail
      go_meet
      exact ⟨w3.heap.size, _, _, _, _, _, _, _, rfl, Blk.new _ _ _, hR3.rd.bl slc, slc⟩
    · go_wp2_with fail
      go_meet
      exact ⟨wB.heap.size, _, _, _, _, _, _, _, rfl, Wk.put3 hq _ _ _, (((hR3.far (by simp) _).far (by simp) _).far (by simp) _).rd, slc⟩
  case rest =>
    obtain ⟨g3, sw, Aw, nw, cw, Bw, mw, dw, rfl, hBw, hRw, hbc⟩ := hcut
    clear x0 x1 x2 x3 x4 x5 y0 y1 y2 y3 y4 y5 z0 z1 z2 z3 z4 z5 hX0 hY0 hX1 hY1 hX2 hY2
    go_wp2_with fail
    obtain ⟨W0, rfl⟩ : ∃ W0 : World, W0 = wc := ⟨_, rfl⟩
    go_loopw [6, 31] (fun v i wr => ∃ (k hi : Nat), k ≤ 3 ∧ i = .int .i64 (k : Int) ∧ RowR List.Nodup W0.heap.size hi wr v (barTo p0 p1 p2 q k) ∧ Bl W0 wr ∧ W0.heap.size ≤ hi) (fun _ i _ => 3 - (intOf i).toNat)
    case atStart => exact ⟨0, _, by omega, rfl, RowG.empty appN_nodup W0 (Nat.le_refl _), (Bl.refl _).alloc _, by omega⟩
    case round =>
      obtain ⟨k, hi, hk, rfl, hrow, hbw, hlh⟩ := hrel
      rcases (show k = 0 ∨ k = 1 ∨ k = 2 ∨ k = 3 by omega) with rfl | rfl | rfl | rfl
      · skip
        have e0 : ((0 : Nat) : Int) = 0 := rfl
        rw [e0]
        clear e0 hk
        have hhi0 := RowG.hiLe hrow
        have hzc := Bl.size hbc
        have hzo := Bl.size hbw
        obtain ⟨wo, rfl⟩ : ∃ wo : World, wo = wr := ⟨_, rfl⟩
        have hbo := hbc.next hbw
        have hBo := hBq.bl hbo
        obtain ⟨r0, r1, r2, r3, r4, r5⟩ := bx6 hBo
        go_wp2_with fail
        refine (replaced0_any _ (RdPS.bl h (hbB.next hbo)) (hqx.bl (hbB.next hbo)) (hqy.bl (hbB.next hbo))).mono ?_
        rintro e wp ⟨gm, cm, rfl, hm, hgm0, hb8⟩
        obtain ⟨_, e0, hgm, hcc⟩ := hm.cells 0 (by omega)
        cases e0
        rw [Addr.add_lit] at hcc
        obtain ⟨s4, A4, n4, c4, B4, m4, d4, t4, C4, i4, e4, D4, j4, f4, ⟨xa0, xa1, xa2, xa3, xa4, xa5⟩, hXm0, hYm0⟩ := (show PtAt wp ⟨gm, 0, none⟩ q from hcc)
        clear hcc
        have xa0 : wp.cell? ⟨gm, 0, none⟩ = some (.bool s4) := xa0
        have xa1 : wp.cell? ⟨gm, 1, none⟩ = some (.slice A4 n4 c4) := xa1
        have xa2 : wp.cell? ⟨gm, 2, none⟩ = some (.slice B4 m4 d4) := xa2
        have xa3 : wp.cell? ⟨gm, 3, none⟩ = some (.bool t4) := xa3
        have xa4 : wp.cell? ⟨gm, 4, none⟩ = some (.slice C4 i4 e4) := xa4
        have xa5 : wp.cell? ⟨gm, 5, none⟩ = some (.slice D4 j4 f4) := xa5
        obtain ⟨_, e0, hgm, hcc⟩ := hm.cells 1 (by omega)
        cases e0
        rw [Addr.add_lit] at hcc
        obtain ⟨s5, A5, n5, c5, B5, m5, d5, t5, C5, i5, e5, D5, j5, f5, ⟨xb0, xb1, xb2, xb3, xb4, xb5⟩, hXm1, hYm1⟩ := (show PtAt wp ⟨gm, 6, none⟩ p1 from hcc)
        clear hcc
        have xb0 : wp.cell? ⟨gm, 6, none⟩ = some (.bool s5) := xb0
        have xb1 : wp.cell? ⟨gm, 7, none⟩ = some (.slice A5 n5 c5) := xb1
        have xb2 : wp.cell? ⟨gm, 8, none⟩ = some (.slice B5 m5 d5) := xb2
        have xb3 : wp.cell? ⟨gm, 9, none⟩ = some (.bool t5) := xb3
        have xb4 : wp.cell? ⟨gm, 10, none⟩ = some (.slice C5 i5 e5) := xb4
        have xb5 : wp.cell? ⟨gm, 11, none⟩ = some (.slice D5 j5 f5) := xb5
        obtain ⟨_, e0, hgm, hcc⟩ := hm.cells 2 (by omega)
        cases e0
        rw [Addr.add_lit] at hcc
        obtain ⟨s6, A6, n6, c6, B6, m6, d6, t6, C6, i6, e6, D6, j6, f6, ⟨xe0, xe1, xe2, xe3, xe4, xe5⟩, hXm2, hYm2⟩ := (show PtAt wp ⟨gm, 12, none⟩ p2 from hcc)
        clear hcc
        have xe0 : wp.cell? ⟨gm, 12, none⟩ = some (.bool s6) := xe0
        have xe1 : wp.cell? ⟨gm, 13, none⟩ = some (.slice A6 n6 c6) := xe1
        have xe2 : wp.cell? ⟨gm, 14, none⟩ = some (.slice B6 m6 d6) := xe2
        have xe3 : wp.cell? ⟨gm, 15, none⟩ = some (.bool t6) := xe3
        have xe4 : wp.cell? ⟨gm, 16, none⟩ = some (.slice C6 i6 e6) := xe4
        have xe5 : wp.cell? ⟨gm, 17, none⟩ = some (.slice D6 j6 f6) := xe5
        have hrow := RowG.bl (rtIn_keep 3) hrow hb8
        have hRp := hRw.bl (hbw.next hb8)
        have qw := hBw.bl (hbw.next hb8)
        clear r0 r1 r2 r3 r4 r5 hBo
        go_upto_region 9 with (fail)
        go_cut [9] (fun s9 wx => ∃ (g9 : Nat) (sr : Bool) (Ar : Option Addr) (nr cr : Nat) (Br : Option Addr) (mr dr : Nat), s9 = .pointer (some ⟨g9, 0, none⟩) ∧ Blk wx g9 29 #[.bool sr, .slice Ar nr cr, .slice Br mr dr] ∧ OwR 3 wp.heap.size wx sr Ar nr cr Br mr dr (divR (dblA q p1 p2) (dblA p0 p1 p2)) ∧ Bl wp wx)
        case first =>
          clear hrow hRw hBw hbw hb8 hbc hok hbo
          go_region_held3 (fun w' => (w'.cell? ⟨gm, 0, none⟩ = some (.bool s4) ∧ w'.cell? ⟨gm, 1, none⟩ = some (.slice A4 n4 c4) ∧ w'.cell? ⟨gm, 2, none⟩ = some (.slice B4 m4 d4) ∧ w'.cell? ⟨gm, 3, none⟩ = some (.bool t4) ∧ w'.cell? ⟨gm, 4, none⟩ = some (.slice C4 i4 e4) ∧ w'.cell? ⟨gm, 5, none⟩ = some (.slice D4 j4 f4)) ∧ (w'.cell? ⟨gm, 6, none⟩ = some (.bool s5) ∧ w'.cell? ⟨gm, 7, none⟩ = some (.slice A5 n5 c5) ∧ w'.cell? ⟨gm, 8, none⟩ = some (.slice B5 m5 d5) ∧ w'.cell? ⟨gm, 9, none⟩ = some (.bool t5) ∧ w'.cell? ⟨gm, 10, none⟩ = some (.slice C5 i5 e5) ∧ w'.cell? ⟨gm, 11, none⟩ = some (.slice D5 j5 f5)) ∧ (w'.cell? ⟨gm, 12, none⟩ = some (.bool s6) ∧ w'.cell? ⟨gm, 13, none⟩ = some (.slice A6 n6 c6) ∧ w'.cell? ⟨gm, 14, none⟩ = some (.slice B6 m6 d6) ∧ w'.cell? ⟨gm, 15, none⟩ = some (.bool t6) ∧ w'.cell? ⟨gm, 16, none⟩ = some (.slice C6 i6 e6) ∧ w'.cell? ⟨gm, 17, none⟩ = some (.slice D6 j6 f6)) ∧ (w'.cell? ⟨g3, 0, none⟩ = some (.bool sw) ∧ w'.cell? ⟨g3, 1, none⟩ = some (.slice Aw nw cw) ∧ w'.cell? ⟨g3, 2, none⟩ = some (.slice Bw mw dw))) (first | exact ⟨⟨(Bl.cellOf (w := wp) (p := ⟨gm, 0, none⟩) slc hgm).trans xa0, (Bl.cellOf (w := wp) (p := ⟨gm, 1, none⟩) slc hgm).trans xa1, (Bl.cellOf (w := wp) (p := ⟨gm, 2, none⟩) slc hgm).trans xa2, (Bl.cellOf (w := wp) (p := ⟨gm, 3, none⟩) slc hgm).trans xa3, (Bl.cellOf (w := wp) (p := ⟨gm, 4, none⟩) slc hgm).trans xa4, (Bl.cellOf (w := wp) (p := ⟨gm, 5, none⟩) slc hgm).trans xa5⟩, ⟨(Bl.cellOf (w := wp) (p := ⟨gm, 6, none⟩) slc hgm).trans xb0, (Bl.cellOf (w := wp) (p := ⟨gm, 7, none⟩) slc hgm).trans xb1, (Bl.cellOf (w := wp) (p := ⟨gm, 8, none⟩) slc hgm).trans xb2, (Bl.cellOf (w := wp) (p := ⟨gm, 9, none⟩) slc hgm).trans xb3, (Bl.cellOf (w := wp) (p := ⟨gm, 10, none⟩) slc hgm).trans xb4, (Bl.cellOf (w := wp) (p := ⟨gm, 11, none⟩) slc hgm).trans xb5⟩, ⟨(Bl.cellOf (w := wp) (p := ⟨gm, 12, none⟩) slc hgm).trans xe0, (Bl.cellOf (w := wp) (p := ⟨gm, 13, none⟩) slc hgm).trans xe1, (Bl.cellOf (w := wp) (p := ⟨gm, 14, none⟩) slc hgm).trans xe2, (Bl.cellOf (w := wp) (p := ⟨gm, 15, none⟩) slc hgm).trans xe3, (Bl.cellOf (w := wp) (p := ⟨gm, 16, none⟩) slc hgm).trans xe4, (Bl.cellOf (w := wp) (p := ⟨gm, 17, none⟩) slc hgm).trans xe5⟩, bx3 (T := 29) (qw.bl slc)⟩) (first | (go_at_call 73; (with_reducible refine (DoubleArea_any _ (hXm0.bl slc) (hYm0.bl slc) (hXm1.bl slc) (hYm1.bl slc) (hXm2.bl slc) (hYm2.bl slc)).mono ?_); rintro en w2 ⟨s2_, A2_, n2_, c2_, B2_, m2_, d2_, rfl, hR2, hb2⟩; (have hz2 : wp.heap.size ≤ w2.heap.size := Bl.size (by exact slc)); (first | have hq : Wk 3 29 _ _ := wk_newd hb2 | have hq : Wk 3 29 _ _ := wk_new hb2 | have hq : Wk 3 29 _ _ := Wk.bl hq hb2 | skip)) | (go_at_call 75; (with_reducible refine (RatDiv_any _ (hR2.rd.bl slc) (hRp.bl slc)).mono ?_); rintro en w3 ⟨s3_, A3_, n3_, c3_, B3_, m3_, d3_, rfl, hR3, hb3⟩; (have hz3 : wp.heap.size ≤ w3.heap.size := Bl.size (by exact slc)); (first | have hq : Wk 3 29 _ _ := wk_newd hb3 | have hq : Wk 3 29 _ _ := wk_new hb3 | have hq : Wk 3 29 _ _ := Wk.bl hq hb3 | skip); (try obtain ⟨⟨q0, q1, q2⟩, fz0, fz1, fz2⟩ := hq.out3)))
          · go_wp2_with fail
            go_meet
            exact ⟨w3.heap.size, _, _, _, _, _, _, _, rfl, Blk.new _ _ _, (hR3.mono (Bl.size (by exact slc))).bl slc, slc⟩
          · go_wp2_with fail
            go_meet
            exact ⟨w2.heap.size, _, _, _, _, _, _, _, rfl, Wk.put3 hq _ _ _, (hR3.mono (Bl.size (by exact slc))).put3 hq ne_ir _ _ _, slc⟩
          · go_wp2_with fail
            go_meet
            exact ⟨wp.heap.size, _, _, _, _, _, _, _, rfl, Wk.put3 hq _ _ _, (hR3.mono (Bl.size (by exact slc))).put3 hq ne_ir _ _ _, slc⟩
        case rest =>
          obtain ⟨g9, sr, Ar, nr, cr, Br, mr, dr, rfl, q9, hR9, hb9⟩ := hcut
          obtain ⟨wq, rfl⟩ : ∃ wq : World, wq = wc := ⟨_, rfl⟩
          have hrow := RowG.bl (rtIn_keep 3) hrow hb9
          have hbq : Bl W0 wq := (hbw.next hb8).next hb9
          clear qw hRp hXm0 hYm0 hXm1 hYm1 hXm2 hYm2 hm
          obtain ⟨r0, r1, r2⟩ := bx3 q9
          have hv : (divR (dblA q p1 p2) (dblA p0 p1 p2)) = bar3 p0 p1 p2 q 0 := rfl
          rw [hv] at hR9
          clear hv
          have hmr := Lib.hid (show 0 < mr by have a1 := hR9.rd.den.len; have a2 := (okR_den (.inr (hok.out 0 (by omega)))).2 (hok.out 0 (by omega)); omega)
          go_wp2_with fail
          refine (isRat_yes _ hmr.out).mono ?_
          rintro e w7 ⟨rfl, hb7⟩
          have hrow := RowG.bl (rtIn_keep 3) hrow hb7
          have hR9 := hR9.bl hb7
          have q9 := q9.bl hb7
          have hbq := hbq.next hb7
          have hhi : hi ≤ wp.heap.size := Nat.le_trans hhi0 (Bl.size hb8)
          clear r0 r1 r2
          obtain ⟨r0, r1, r2⟩ := bx3 q9
          go_wp2_with ((refine wpList_append_rat rfl (.tmp 53) (.tmp 55) rfl _ (by rfl) hrow hR9 hhi hlh 1 (by rfl) (by rw [barTo_len]; omega) W0 hbq (Nat.le_refl _) ?_; intro v' w8 hrow' hb8'; clear hrow hR9))
          have hz8 := hb8'.size
          rw [← barTo_succ] at hrow'
          go_roundw
          case rel => exact ⟨1, _, by omega, rfl, hrow', hb8', hz8⟩
          case measure => simp [intOf]
      · skip
        have e0 : ((1 : Nat) : Int) = 1 := rfl
        rw [e0]
        clear e0 hk
        have hhi0 := RowG.hiLe hrow
        have hzc := Bl.size hbc
        have hzo := Bl.size hbw
        obtain ⟨wo, rfl⟩ : ∃ wo : World, wo = wr := ⟨_, rfl⟩
        have hbo := hbc.next hbw
        have hBo := hBq.bl hbo
        obtain ⟨r0, r1, r2, r3, r4, r5⟩ := bx6 hBo
        go_wp2_with fail
        refine (replaced1_any _ (RdPS.bl h (hbB.next hbo)) (hqx.bl (hbB.next hbo)) (hqy.bl (hbB.next hbo))).mono ?_
        rintro e wp ⟨gm, cm, rfl, hm, hgm0, hb8⟩
        obtain ⟨_, e0, hgm, hcc⟩ := hm.cells 0 (by omega)
        cases e0
        rw [Addr.add_lit] at hcc
        obtain ⟨s4, A4, n4, c4, B4, m4, d4, t4, C4, i4, e4, D4, j4, f4, ⟨xa0, xa1, xa2, xa3, xa4, xa5⟩, hXm0, hYm0⟩ := (show PtAt wp ⟨gm, 0, none⟩ p0 from hcc)
        clear hcc
        have xa0 : wp.cell? ⟨gm, 0, none⟩ = some (.bool s4) := xa0
        have xa1 : wp.cell? ⟨gm, 1, none⟩ = some (.slice A4 n4 c4) := xa1
        have xa2 : wp.cell? ⟨gm, 2, none⟩ = some (.slice B4 m4 d4) := xa2
        have xa3 : wp.cell? ⟨gm, 3, none⟩ = some (.bool t4) := xa3
        have xa4 : wp.cell? ⟨gm, 4, none⟩ = some (.slice C4 i4 e4) := xa4
        have xa5 : wp.cell? ⟨gm, 5, none⟩ = some (.slice D4 j4 f4) := xa5
        obtain ⟨_, e0, hgm, hcc⟩ := hm.cells 1 (by omega)
        cases e0
        rw [Addr.add_lit] at hcc
        obtain ⟨s5, A5, n5, c5, B5, m5, d5, t5, C5, i5, e5, D5, j5, f5, ⟨xb0, xb1, xb2, xb3, xb4, xb5⟩, hXm1, hYm1⟩ := (show PtAt wp ⟨gm, 6, none⟩ q from hcc)
        clear hcc
        have xb0 : wp.cell? ⟨gm, 6, none⟩ = some (.bool s5) := xb0
        have xb1 : wp.cell? ⟨gm, 7, none⟩ = some (.slice A5 n5 c5) := xb1
        have xb2 : wp.cell? ⟨gm, 8, none⟩ = some (.slice B5 m5 d5) := xb2
        have xb3 : wp.cell? ⟨gm, 9, none⟩ = some (.bool t5) := xb3
        have xb4 : wp.cell? ⟨gm, 10, none⟩ = some (.slice C5 i5 e5) := xb4
        have xb5 : wp.cell? ⟨gm, 11, none⟩ = some (.slice D5 j5 f5) := xb5
        obtain ⟨_, e0, hgm, hcc⟩ := hm.cells 2 (by omega)
        cases e0
        rw [Addr.add_lit] at hcc
        obtain ⟨s6, A6, n6, c6, B6, m6, d6, t6, C6, i6, e6, D6, j6, f6, ⟨xe0, xe1, xe2, xe3, xe4, xe5⟩, hXm2, hYm2⟩ := (show PtAt wp ⟨gm, 12, none⟩ p2 from hcc)
        clear hcc
        have xe0 : wp.cell? ⟨gm, 12, none⟩ = some (.bool s6) := xe0
        have xe1 : wp.cell? ⟨gm, 13, none⟩ = some (.slice A6 n6 c6) := xe1
        have xe2 : wp.cell? ⟨gm, 14, none⟩ = some (.slice B6 m6 d6) := xe2
        have xe3 : wp.cell? ⟨gm, 15, none⟩ = some (.bool t6) := xe3
        have xe4 : wp.cell? ⟨gm, 16, none⟩ = some (.slice C6 i6 e6) := xe4
        have xe5 : wp.cell? ⟨gm, 17, none⟩ = some (.slice D6 j6 f6) := xe5
        have hrow := RowG.bl (rtIn_keep 3) hrow hb8
        have hRp := hRw.bl (hbw.next hb8)
        have qw := hBw.bl (hbw.next hb8)
        clear r0 r1 r2 r3 r4 r5 hBo
        go_upto_region 9 with (fail)
        go_cut [9] (fun s9 wx => ∃ (g9 : Nat) (sr : Bool) (Ar : Option Addr) (nr cr : Nat) (Br : Option Addr) (mr dr : Nat), s9 = .pointer (some ⟨g9, 0, none⟩) ∧ Blk wx g9 29 #[.bool sr, .slice Ar nr cr, .slice Br mr dr] ∧ OwR 3 wp.heap.size wx sr Ar nr cr Br mr dr (divR (dblA p0 q p2) (dblA p0 p1 p2)) ∧ Bl wp wx)
        case first =>
          clear hrow hRw hBw hbw hb8 hbc hok hbo
          go_region_held3 (fun w' => (w'.cell? ⟨gm, 0, none⟩ = some (.bool s4) ∧ w'.cell? ⟨gm, 1, none⟩ = some (.slice A4 n4 c4) ∧ w'.cell? ⟨gm, 2, none⟩ = some (.slice B4 m4 d4) ∧ w'.cell? ⟨gm, 3, none⟩ = some (.bool t4) ∧ w'.cell? ⟨gm, 4, none⟩ = some (.slice C4 i4 e4) ∧ w'.cell? ⟨gm, 5, none⟩ = some (.slice D4 j4 f4)) ∧ (w'.cell? ⟨gm, 6, none⟩ = some (.bool s5) ∧ w'.cell? ⟨gm, 7, none⟩ = some (.slice A5 n5 c5) ∧ w'.cell? ⟨gm, 8, none⟩ = some (.slice B5 m5 d5) ∧ w'.cell? ⟨gm, 9, none⟩ = some (.bool t5) ∧ w'.cell? ⟨gm, 10, none⟩ = some (.slice C5 i5 e5) ∧ w'.cell? ⟨gm, 11, none⟩ = some (.slice D5 j5 f5)) ∧ (w'.cell? ⟨gm, 12, none⟩ = some (.bool s6) ∧ w'.cell? ⟨gm, 13, none⟩ = some (.slice A6 n6 c6) ∧ w'.cell? ⟨gm, 14, none⟩ = some (.slice B6 m6 d6) ∧ w'.cell? ⟨gm, 15, none⟩ = some (.bool t6) ∧ w'.cell? ⟨gm, 16, none⟩ = some (.slice C6 i6 e6) ∧ w'.cell? ⟨gm, 17, none⟩ = some (.slice D6 j6 f6)) ∧ (w'.cell? ⟨g3, 0, none⟩ = some (.bool sw) ∧ w'.cell? ⟨g3, 1, none⟩ = some (.slice Aw nw cw) ∧ w'.cell? ⟨g3, 2, none⟩ = some (.slice Bw mw dw))) (first | exact ⟨⟨(Bl.cellOf (w := wp) (p := ⟨gm, 0, none⟩) slc hgm).trans xa0, (Bl.cellOf (w := wp) (p := ⟨gm, 1, none⟩) slc hgm).trans xa1, (Bl.cellOf (w := wp) (p := ⟨gm, 2, none⟩) slc hgm).trans xa2, (Bl.cellOf (w := wp) (p := ⟨gm, 3, none⟩) slc hgm).trans xa3, (Bl.cellOf (w := wp) (p := ⟨gm, 4, none⟩) slc hgm).trans xa4, (Bl.cellOf (w := wp) (p := ⟨gm, 5, none⟩) slc hgm).trans xa5⟩, ⟨(Bl.cellOf (w := wp) (p := ⟨gm, 6, none⟩) slc hgm).trans xb0, (Bl.cellOf (w := wp) (p := ⟨gm, 7, none⟩) slc hgm).trans xb1, (Bl.cellOf (w := wp) (p := ⟨gm, 8, none⟩) slc hgm).trans xb2, (Bl.cellOf (w := wp) (p := ⟨gm, 9, none⟩) slc hgm).trans xb3, (Bl.cellOf (w := wp) (p := ⟨gm, 10, none⟩) slc hgm).trans xb4, (Bl.cellOf (w := wp) (p := ⟨gm, 11, none⟩) slc hgm).trans xb5⟩, ⟨(Bl.cellOf (w := wp) (p := ⟨gm, 12, none⟩) slc hgm).trans xe0, (Bl.cellOf (w := wp) (p := ⟨gm, 13, none⟩) slc hgm).trans xe1, (Bl.cellOf (w := wp) (p := ⟨gm, 14, none⟩) slc hgm).trans xe2, (Bl.cellOf (w := wp) (p := ⟨gm, 15, none⟩) slc hgm).trans xe3, (Bl.cellOf (w := wp) (p := ⟨gm, 16, none⟩) slc hgm).trans xe4, (Bl.cellOf (w := wp) (p := ⟨gm, 17, none⟩) slc hgm).trans xe5⟩, bx3 (T := 29) (qw.bl slc)⟩) (first | (go_at_call 73; (with_reducible refine (DoubleArea_any _ (hXm0.bl slc) (hYm0.bl slc) (hXm1.bl slc) (hYm1.bl slc) (hXm2.bl slc) (hYm2.bl slc)).mono ?_); rintro en w2 ⟨s2_, A2_, n2_, c2_, B2_, m2_, d2_, rfl, hR2, hb2⟩; (have hz2 : wp.heap.size ≤ w2.heap.size := Bl.size (by exact slc)); (first | have hq : Wk 3 29 _ _ := wk_newd hb2 | have hq : Wk 3 29 _ _ := wk_new hb2 | have hq : Wk 3 29 _ _ := Wk.bl hq hb2 | skip)) | (go_at_call 75; (with_reducible refine (RatDiv_any _ (hR2.rd.bl slc) (hRp.bl slc)).mono ?_); rintro en w3 ⟨s3_, A3_, n3_, c3_, B3_, m3_, d3_, rfl, hR3, hb3⟩; (have hz3 : wp.heap.size ≤ w3.heap.size := Bl.size (by exact slc)); (first | have hq : Wk 3 29 _ _ := wk_newd hb3 | have hq : Wk 3 29 _ _ := wk_new hb3 | have hq : Wk 3 29 _ _ := Wk.bl hq hb3 | skip); (try obtain ⟨⟨q0, q1, q2⟩, fz0, fz1, fz2⟩ := hq.out3)))
          · go_wp2_with fail
            go_meet
            exact ⟨w3.heap.size, _, _, _, _, _, _, _, rfl, Blk.new _ _ _, (hR3.mono (Bl.size (by exact slc))).bl slc, slc⟩
          · go_wp2_with fail
            go_meet
            exact ⟨w2.heap.size, _, _, _, _, _, _, _, rfl, Wk.put3 hq _ _ _, (hR3.mono (Bl.size (by exact slc))).put3 hq ne_ir _ _ _, slc⟩
          · go_wp2_with fail
            go_meet
            exact ⟨wp.heap.size, _, _, _, _, _, _, _, rfl, Wk.put3 hq _ _ _, (hR3.mono (Bl.size (by exact slc))).put3 hq ne_ir _ _ _, slc⟩
        case rest =>
          obtain ⟨g9, sr, Ar, nr, cr, Br, mr, dr, rfl, q9, hR9, hb9⟩ := hcut
          obtain ⟨wq, rfl⟩ : ∃ wq : World, wq = wc := ⟨_, rfl⟩
          have hrow := RowG.bl (rtIn_keep 3) hrow hb9
          have hbq : Bl W0 wq := (hbw.next hb8).next hb9
          clear qw hRp hXm0 hYm0 hXm1 hYm1 hXm2 hYm2 hm
          obtain ⟨r0, r1, r2⟩ := bx3 q9
          have hv : (divR (dblA p0 q p2) (dblA p0 p1 p2)) = bar3 p0 p1 p2 q 1 := rfl
          rw [hv] at hR9
          clear hv
          have hmr := Lib.hid (show 0 < mr by have a1 := hR9.rd.den.len; have a2 := (okR_den (.inr (hok.out 1 (by omega)))).2 (hok.out 1 (by omega)); omega)
          go_wp2_with fail
          refine (isRat_yes _ hmr.out).mono ?_
          rintro e w7 ⟨rfl, hb7⟩
          have hrow := RowG.bl (rtIn_keep 3) hrow hb7
          have hR9 := hR9.bl hb7
          have q9 := q9.bl hb7
          have hbq := hbq.next hb7
          have hhi : hi ≤ wp.heap.size := Nat.le_trans hhi0 (Bl.size hb8)
          clear r0 r1 r2
          obtain ⟨r0, r1, r2⟩ := bx3 q9
          go_wp2_with ((refine wpList_append_rat rfl (.tmp 53) (.tmp 55) rfl _ (by rfl) hrow hR9 hhi hlh 1 (by rfl) (by rw [barTo_len]; omega) W0 hbq (Nat.le_refl _) ?_; intro v' w8 hrow' hb8'; clear hrow hR9))
          have hz8 := hb8'.size
          rw [← barTo_succ] at hrow'
          go_roundw
          case rel => exact ⟨2, _, by omega, rfl, hrow', hb8', hz8⟩
          case measure => simp [intOf]
      · skip
        have e0 : ((2 : Nat) : Int) = 2 := rfl
        rw [e0]
        clear e0 hk
        have hhi0 := RowG.hiLe hrow
        have hzc := Bl.size hbc
        have hzo := Bl.size hbw
        obtain ⟨wo, rfl⟩ : ∃ wo : World, wo = wr := ⟨_, rfl⟩
        have hbo := hbc.next hbw
        have hBo := hBq.bl hbo
        obtain ⟨r0, r1, r2, r3, r4, r5⟩ := bx6 hBo
        go_wp2_with fail
        refine (replaced2_any _ (RdPS.bl h (hbB.next hbo)) (hqx.bl (hbB.next hbo)) (hqy.bl (hbB.next hbo))).mono ?_
        rintro e wp ⟨gm, cm, rfl, hm, hgm0, hb8⟩
        obtain ⟨_, e0, hgm, hcc⟩ := hm.cells 0 (by omega)
        cases e0
        rw [Addr.add_lit] at hcc
        obtain ⟨s4, A4, n4, c4, B4, m4, d4, t4, C4, i4, e4, D4, j4, f4, ⟨xa0, xa1, xa2, xa3, xa4, xa5⟩, hXm0, hYm0⟩ := (show PtAt wp ⟨gm, 0, none⟩ p0 from hcc)
        clear hcc
        have xa0 : wp.cell? ⟨gm, 0, none⟩ = some (.bool s4) := xa0
        have xa1 : wp.cell? ⟨gm, 1, none⟩ = some (.slice A4 n4 c4) := xa1
        have xa2 : wp.cell? ⟨gm, 2, none⟩ = some (.slice B4 m4 d4) := xa2
        have xa3 : wp.cell? ⟨gm, 3, none⟩ = some (.bool t4) := xa3
        have xa4 : wp.cell? ⟨gm, 4, none⟩ = some (.slice C4 i4 e4) := xa4
        have xa5 : wp.cell? ⟨gm, 5, none⟩ = some (.slice D4 j4 f4) := xa5
        obtain ⟨_, e0, hgm, hcc⟩ := hm.cells 1 (by omega)
        cases e0
        rw [Addr.add_lit] at hcc
        obtain ⟨s5, A5, n5, c5, B5, m5, d5, t5, C5, i5, e5, D5, j5, f5, ⟨xb0, xb1, xb2, xb3, xb4, xb5⟩, hXm1, hYm1⟩ := (show PtAt wp ⟨gm, 6, none⟩ p1 from hcc)
        clear hcc
        have xb0 : wp.cell? ⟨gm, 6, none⟩ = some (.bool s5) := xb0
        have xb1 : wp.cell? ⟨gm, 7, none⟩ = some (.slice A5 n5 c5) := xb1
        have xb2 : wp.cell? ⟨gm, 8, none⟩ = some (.slice B5 m5 d5) := xb2
        have xb3 : wp.cell? ⟨gm, 9, none⟩ = some (.bool t5) := xb3
        have xb4 : wp.cell? ⟨gm, 10, none⟩ = some (.slice C5 i5 e5) := xb4
        have xb5 : wp.cell? ⟨gm, 11, none⟩ = some (.slice D5 j5 f5) := xb5
        obtain ⟨_, e0, hgm, hcc⟩ := hm.cells 2 (by omega)
        cases e0
        rw [Addr.add_lit] at hcc
        obtain ⟨s6, A6, n6, c6, B6, m6, d6, t6, C6, i6, e6, D6, j6, f6, ⟨xe0, xe1, xe2, xe3, xe4, xe5⟩, hXm2, hYm2⟩ := (show PtAt wp ⟨gm, 12, none⟩ q from hcc)
        clear hcc
        have xe0 : wp.cell? ⟨gm, 12, none⟩ = some (.bool s6) := xe0
        have xe1 : wp.cell? ⟨gm, 13, none⟩ = some (.slice A6 n6 c6) := xe1
        have xe2 : wp.cell? ⟨gm, 14, none⟩ = some (.slice B6 m6 d6) := xe2
        have xe3 : wp.cell? ⟨gm, 15, none⟩ = some (.bool t6) := xe3
        have xe4 : wp.cell? ⟨gm, 16, none⟩ = some (.slice C6 i6 e6) := xe4
        have xe5 : wp.cell? ⟨gm, 17, none⟩ = some (.slice D6 j6 f6) := xe5
        have hrow := RowG.bl (rtIn_keep 3) hrow hb8
        have hRp := hRw.bl (hbw.next hb8)
        have qw := hBw.bl (hbw.next hb8)
        clear r0 r1 r2 r3 r4 r5 hBo
        go_upto_region 9 with (fail)
        go_cut [9] (fun s9 wx => ∃ (g9 : Nat) (sr : Bool) (Ar : Option Addr) (nr cr : Nat) (Br : Option Addr) (mr dr : Nat), s9 = .pointer (some ⟨g9, 0, none⟩) ∧ Blk wx g9 29 #[.bool sr, .slice Ar nr cr, .slice Br mr dr] ∧ OwR 3 wp.heap.size wx sr Ar nr cr Br mr dr (divR (dblA p0 p1 q) (dblA p0 p1 p2)) ∧ Bl wp wx)
        case first =>
          clear hrow hRw hBw hbw hb8 hbc hok hbo
          go_region_held3 (fun w' => (w'.cell? ⟨gm, 0, none⟩ = some (.bool s4) ∧ w'.cell? ⟨gm, 1, none⟩ = some (.slice A4 n4 c4) ∧ w'.cell? ⟨gm, 2, none⟩ = some (.slice B4 m4 d4) ∧ w'.cell? ⟨gm, 3, none⟩ = some (.bool t4) ∧ w'.cell? ⟨gm, 4, none⟩ = some (.slice C4 i4 e4) ∧ w'.cell? ⟨gm, 5, none⟩ = some (.slice D4 j4 f4)) ∧ (w'.cell? ⟨gm, 6, none⟩ = some (.bool s5) ∧ w'.cell? ⟨gm, 7, none⟩ = some (.slice A5 n5 c5) ∧ w'.cell? ⟨gm, 8, none⟩ = some (.slice B5 m5 d5) ∧ w'.cell? ⟨gm, 9, none⟩ = some (.bool t5) ∧ w'.cell? ⟨gm, 10, none⟩ = some (.slice C5 i5 e5) ∧ w'.cell? ⟨gm, 11, none⟩ = some (.slice D5 j5 f5)) ∧ (w'.cell? ⟨gm, 12, none⟩ = some (.bool s6) ∧ w'.cell? ⟨gm, 13, none⟩ = some (.slice A6 n6 c6) ∧ w'.cell? ⟨gm, 14, none⟩ = some (.slice B6 m6 d6) ∧ w'.cell? ⟨gm, 15, none⟩ = some (.bool t6) ∧ w'.cell? ⟨gm, 16, none⟩ = some (.slice C6 i6 e6) ∧ w'.cell? ⟨gm, 17, none⟩ = some (.slice D6 j6 f6)) ∧ (w'.cell? ⟨g3, 0, none⟩ = some (.bool sw) ∧ w'.cell? ⟨g3, 1, none⟩ = some (.slice Aw nw cw) ∧ w'.cell? ⟨g3, 2, none⟩ = some (.slice Bw mw dw))) (first | exact ⟨⟨(Bl.cellOf (w := wp) (p := ⟨gm, 0, none⟩) slc hgm).trans xa0, (Bl.cellOf (w := wp) (p := ⟨gm, 1, none⟩) slc hgm).trans xa1, (Bl.cellOf (w := wp) (p := ⟨gm, 2, none⟩) slc hgm).trans xa2, (Bl.cellOf (w := wp) (p := ⟨gm, 3, none⟩) slc hgm).trans xa3, (Bl.cellOf (w := wp) (p := ⟨gm, 4, none⟩) slc hgm).trans xa4, (Bl.cellOf (w := wp) (p := ⟨gm, 5, none⟩) slc hgm).trans xa5⟩, ⟨(Bl.cellOf (w := wp) (p := ⟨gm, 6, none⟩) slc hgm).trans xb0, (Bl.cellOf (w := wp) (p := ⟨gm, 7, none⟩) slc hgm).trans xb1, (Bl.cellOf (w := wp) (p := ⟨gm, 8, none⟩) slc hgm).trans xb2, (Bl.cellOf (w := wp) (p := ⟨gm, 9, none⟩) slc hgm).trans xb3, (Bl.cellOf (w := wp) (p := ⟨gm, 10, none⟩) slc hgm).trans xb4, (Bl.cellOf (w := wp) (p := ⟨gm, 11, none⟩) slc hgm).trans xb5⟩, ⟨(Bl.cellOf (w := wp) (p := ⟨gm, 12, none⟩) slc hgm).trans xe0, (Bl.cellOf (w := wp) (p := ⟨gm, 13, none⟩) slc hgm).trans xe1, (Bl.cellOf (w := wp) (p := ⟨gm, 14, none⟩) slc hgm).trans xe2, (Bl.cellOf (w := wp) (p := ⟨gm, 15, none⟩) slc hgm).trans xe3, (Bl.cellOf (w := wp) (p := ⟨gm, 16, none⟩) slc hgm).trans xe4, (Bl.cellOf (w := wp) (p := ⟨gm, 17, none⟩) slc hgm).trans xe5⟩, bx3 (T := 29) (qw.bl slc)⟩) (first | (go_at_call 73; (with_reducible refine (DoubleArea_any _ (hXm0.bl slc) (hYm0.bl slc) (hXm1.bl slc) (hYm1.bl slc) (hXm2.bl slc) (hYm2.bl slc)).mono ?_); rintro en w2 ⟨s2_, A2_, n2_, c2_, B2_, m2_, d2_, rfl, hR2, hb2⟩; (have hz2 : wp.heap.size ≤ w2.heap.size := Bl.size (by exact slc)); (first | have hq : Wk 3 29 _ _ := wk_newd hb2 | have hq : Wk 3 29 _ _ := wk_new hb2 | have hq : Wk 3 29 _ _ := Wk.bl hq hb2 | skip)) | (go_at_call 75; (with_reducible refine (RatDiv_any _ (hR2.rd.bl slc) (hRp.bl slc)).mono ?_); rintro en w3 ⟨s3_, A3_, n3_, c3_, B3_, m3_, d3_, rfl, hR3, hb3⟩; (have hz3 : wp.heap.size ≤ w3.heap.size := Bl.size (by exact slc)); (first | have hq : Wk 3 29 _ _ := wk_newd hb3 | have hq : Wk 3 29 _ _ := wk_new hb3 | have hq : Wk 3 29 _ _ := Wk.bl hq hb3 | skip); (try obtain ⟨⟨q0, q1, q2⟩, fz0, fz1, fz2⟩ := hq.out3)))
          · go_wp2_with fail
            go_meet
            exact ⟨w3.heap.size, _, _, _, _, _, _, _, rfl, Blk.new _ _ _, (hR3.mono (Bl.size (by exact slc))).bl slc, slc⟩
          · go_wp2_with fail
            go_meet
            exact ⟨w2.heap.size, _, _, _, _, _, _, _, rfl, Wk.put3 hq _ _ _, (hR3.mono (Bl.size (by exact slc))).put3 hq ne_ir _ _ _, slc⟩
          · go_wp2_with fail
            go_meet
            exact ⟨wp.heap.size, _, _, _, _, _, _, _, rfl, Wk.put3 hq _ _ _, (hR3.mono (Bl.size (by exact slc))).put3 hq ne_ir _ _ _, slc⟩
        case rest =>
          obtain ⟨g9, sr, Ar, nr, cr, Br, mr, dr, rfl, q9, hR9, hb9⟩ := hcut
          obtain ⟨wq, rfl⟩ : ∃ wq : World, wq = wc := ⟨_, rfl⟩
          have hrow := RowG.bl (rtIn_keep 3) hrow hb9
          have hbq : Bl W0 wq := (hbw.next hb8).next hb9
          clear qw hRp hXm0 hYm0 hXm1 hYm1 hXm2 hYm2 hm
          obtain ⟨r0, r1, r2⟩ := bx3 q9
          have hv : (divR (dblA p0 p1 q) (dblA p0 p1 p2)) = bar3 p0 p1 p2 q 2 := rfl
          rw [hv] at hR9
          clear hv
          have hmr := Lib.hid (show 0 < mr by have a1 := hR9.rd.den.len; have a2 := (okR_den (.inr (hok.out 2 (by omega)))).2 (hok.out 2 (by omega)); omega)
          go_wp2_with fail
          refine (isRat_yes _ hmr.out).mono ?_
          rintro e w7 ⟨rfl, hb7⟩
          have hrow := RowG.bl (rtIn_keep 3) hrow hb7
          have hR9 := hR9.bl hb7
          have q9 := q9.bl hb7
          have hbq := hbq.next hb7
          have hhi : hi ≤ wp.heap.size := Nat.le_trans hhi0 (Bl.size hb8)
          clear r0 r1 r2
          obtain ⟨r0, r1, r2⟩ := bx3 q9
          go_wp2_with ((refine wpList_append_rat rfl (.tmp 53) (.tmp 55) rfl _ (by rfl) hrow hR9 hhi hlh 1 (by rfl) (by rw [barTo_len]; omega) W0 hbq (Nat.le_refl _) ?_; intro v' w8 hrow' hb8'; clear hrow hR9))
          have hz8 := hb8'.size
          rw [← barTo_succ] at hrow'
          go_roundw
          case rel => exact ⟨3, _, by omega, rfl, hrow', hb8', hz8⟩
          case measure => simp [intOf]
      · skip
        have e0 : ((3 : Nat) : Int) = 3 := rfl
        rw [e0]
        clear e0 hk
        obtain ⟨A7, c7, bs7, rfl, hft, hnd, hbs⟩ := RowR.ft hrow (by rw [barTo_len]; omega)
        rw [barTo_len] at hft ⊢
        go_wp2_with fail
        go_ret
        obtain ⟨q1, q2, q3, ⟨h0, _⟩ | ⟨gb, _, _, rfl, _⟩⟩ := id hft
        · exact absurd h0 (by omega)
        exact ⟨_, _, rfl, hft.rd, (hbB.next hbc).next hbw⟩
end

end Go.Proofs.YtajlahjghapbkaaGreat
