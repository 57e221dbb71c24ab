/- Lemmas. -/
import Derived.Test.YtajlahjghapbkaaGreatRows
import Derived.Test.YtajlahjghapbkaaGreatPIntegralsM19
import Derived.Test.YtajlahjghapbkaaGreatPIntegralsM22
import Derived.Test.YtajlahjghapbkaaGreatPIntegralsM24
import Derived.Test.YtajlahjghapbkaaGreatPIntegralsM21
import Derived.Test.YtajlahjghapbkaaGreatPIntegralsM16
import Derived.Test.YtajlahjghapbkaaGreatPIntegralsM01
namespace Go.Proofs.YtajlahjghapbkaaGreat
section
open Go.RowKit

set_option maxRecDepth 100000 in
set_option maxHeartbeats 8000000 in
theorem sRatMake_any (w : World) {s : Bool} {A : Option Addr} {n c : Nat} {x : Int} {t : Bool} {B : Option Addr} {m d : Nat} {y : Int} (h : IsB w s A n c x) (k : IsB w t B m d y) (hn : n ≤ 60) (hm : m ≤ 60) :
    Calls Tryz.prog 194 #[.agg #[.bool s, .slice A n c], .agg #[.bool t, .slice B m d]] w fun e w' => ∃ s1 A1 n1 c1 B1 m1 d1, e = .returned (.agg #[.bool s1, .slice A1 n1 c1, .slice B1 m1 d1]) ∧ OwR 3 w.heap.size w' s1 A1 n1 c1 B1 m1 d1 (lowS (s != t) x.natAbs y.natAbs) ∧ Bl w w' := by
  have hB := okB_of h hn
  have hB' := okB_of k hm
  go_enter Tryz.func194, Tryz.ntmps194
  go_wp2_with fail
  refine calls_gen (fun W => Bl w W ∧ Blk W (w.heap.size) 27 #[.bool s, .slice A n c] ∧ Blk W (w.heap.size + 1) 27 #[.bool t, .slice B m d] ∧ Wk 3 29 (w.heap.size + 1 + 1) W) ⟨slc, bts, bts, bts⟩ ?_
  rintro W ⟨hbW, hx, hx', hr⟩
  refine (sBigIntOk_any _ (RdI.bl h.mg hbW)).mono ?_
  rw [hB]
  rintro e w1 ⟨rfl, hb1⟩
  have hx := hx.bl hb1
  have hx' := hx'.bl hb1
  have hr := hr.bl hb1
  have hbW := hbW.next hb1
  clear hb1
  obtain ⟨i0, i1⟩ := bx2 hx
  obtain ⟨j0, j1⟩ := bx2 hx'
  go_wp2_with fail
  refine (sBigIntOk_any _ (RdI.bl k.mg hbW)).mono ?_
  rw [hB']
  rintro e w2 ⟨rfl, hb2⟩
  have hx := hx.bl hb2
  have hx' := hx'.bl hb2
  have hr := hr.bl hb2
  have hbW := hbW.next hb2
  clear hb2
  obtain ⟨i0, i1⟩ := bx2 hx
  obtain ⟨j0, j1⟩ := bx2 hx'
  have hz2 : w.heap.size + 1 + 1 + 1 ≤ w2.heap.size := hr.lt
  go_wp2_with fail
  refine (l04Low_any _ (s != t) (h.mg.bl hbW) (k.mg.bl hbW) (by omega) (by omega)).mono ?_
  rintro e w6 ⟨s1, A1, n1, c1, B1, m1, d1, rfl, hR, hb6⟩
  have hbW := hbW.next hb6
  have hr := hr.bl hb6
  have hR := hR.mono (show w.heap.size + 1 + 1 + 1 ≤ w2.heap.size from hz2)
  obtain ⟨v0, x0⟩ := hr.val_ (i := 0) (by omega)
  obtain ⟨v1, x1⟩ := hr.val_ (i := 1) (by omega)
  obtain ⟨v2, x2⟩ := hr.val_ (i := 2) (by omega)
  have hg := hr.lt
  obtain ⟨cs4, hB4, hc4⟩ := hr
  have hf0 := hB4.frozen 0
  have hf1 := hB4.frozen 1
  have hf2 := hB4.frozen 2
  go_wp2_with fail
  exact bodyPost_ret (v := .agg #[.bool s1, .slice A1 n1 c1, .slice B1 m1 d1]) (by simp [results, Tryz.results194, go_sem, x0, x1, x2]) rfl ⟨_, _, _, _, _, _, _, rfl, (((hR.far (by simp) _).far (by simp) _).far (by simp) _).mono (by omega), slc⟩

set_option maxRecDepth 100000 in
set_option maxHeartbeats 4000000 in
theorem sRatOf_any (w : World) (x y : Int) (h1 : -9223372036854775808 < x) (h2 : x ≤ 9223372036854775807) (g1 : 0 < y) (g2 : y ≤ 9223372036854775807) :
    Calls Tryz.prog 145 #[.int .i64 x, .int .i64 y] w fun e w' => ∃ s1 A1 n1 c1 B1 m1 d1, e = .returned (.agg #[.bool s1, .slice A1 n1 c1, .slice B1 m1 d1]) ∧ OwR 3 w.heap.size w' s1 A1 n1 c1 B1 m1 d1 (ofFrac x y.natAbs) ∧ Bl w w' := by
  have hv := Lib.hid (show lowS (decide (x < 0) != decide (y < 0)) x.natAbs y.natAbs = ofFrac x y.natAbs by
    rw [decide_eq_false (show ¬ y < 0 by omega), Bool.bne_false]
    exact lowS_self (by omega) rfl)
  have hlx := int_len (x := x) (by omega) h2
  have hly := int_len (x := y) (by omega) g2
  go_enter Tryz.func145, Tryz.ntmps145
  go_wp2_with fail
  refine calls_gen (fun W => Bl w W ∧ Wk 3 29 (w.heap.size) W) ⟨slc, bts⟩ ?_
  rintro W ⟨hbW, hr⟩
  refine (sBigIntOf_any _ x h1 h2).mono ?_
  rintro e w1 ⟨s1, A1, n1, c1, rfl, hO1, hb1⟩
  have hl1 : n1 ≤ 3 := by rw [← hO1.len]; exact hlx
  go_wp2_with fail
  refine (sBigIntOf_any _ y (by omega) g2).mono ?_
  rintro e w2 ⟨s2, A2, n2, c2, rfl, hO2, hb2⟩
  have hl2 : n2 ≤ 3 := by rw [← hO2.len]; exact hly
  have hB1 := hO1.rd.bl hb2
  have q1 := Lib.hid hB1.1
  have q2 := Lib.hid hO2.1
  go_wp2_with fail
  refine (sRatMake_any _ hB1 hO2.rd (by omega) (by omega)).mono ?_
  rintro e w3 ⟨s3, A3, n3, c3, B3, m3, d3, rfl, hR, hb3⟩
  rw [q1.out, q2.out, hv.out] at hR
  have hr2 := (hr.bl hb1).bl hb2
  have hR := hR.mono (show w.heap.size + 1 ≤ w2.heap.size from hr2.lt)
  have hr := hr2.bl hb3
  have hbW := ((hbW.next hb1).next hb2).next hb3
  obtain ⟨v0, x0⟩ := hr.val_ (i := 0) (by omega)
  obtain ⟨v1, x1⟩ := hr.val_ (i := 1) (by omega)
  obtain ⟨v2, x2⟩ := hr.val_ (i := 2) (by omega)
  have hg := hr.lt
  obtain ⟨cs4, hB4, hc4⟩ := hr
  have hf0 := hB4.frozen 0
  have hf1 := hB4.frozen 1
  have hf2 := hB4.frozen 2
  go_wp2_with fail
  exact bodyPost_ret (v := .agg #[.bool s3, .slice A3 n3 c3, .slice B3 m3 d3]) (by simp [results, Tryz.results145, go_sem, x0, x1, x2]) rfl ⟨_, _, _, _, _, _, _, rfl, (((hR.far (by simp) _).far (by simp) _).far (by simp) _).mono (by omega), slc⟩

/-- The area of three points; of a list of points. -/
noncomputable def areaR (a b c : PtD) : RatD := mulR (ofFrac 1 2) (dblA a b c)
noncomputable def areaL (l : List PtD) : RatD := if propB l = true then areaR (pix l 0) (pix l 1) (pix l 2) else zR
theorem propB_out {l : List PtD} (h : propB l = true) : Prop3 l := by
  unfold propB at h
  simpa using h

set_option maxRecDepth 100000 in
set_option maxHeartbeats 8000000 in
theorem area_any (w : World) {g c0 : Nat} {p0 p1 p2 : PtD} (h : RdPS w (some ⟨g, 0, none⟩) 3 c0 [p0, p1, p2]) :
    Calls Tryz.prog 87 #[.slice (some ⟨g, 0, none⟩) 3 c0] w fun e w' => ∃ s1 A1 n1 c1 B1 m1 d1, e = .returned (.agg #[.bool s1, .slice A1 n1 c1, .slice B1 m1 d1]) ∧ OwR 3 w.heap.size w' s1 A1 n1 c1 B1 m1 d1 (areaR p0 p1 p2) ∧ Bl w w' := by
  obtain ⟨_, e0, hg, hc0⟩ := h.cells 0 (by omega)
  cases e0
  rw [Addr.add_lit] at hc0
  obtain ⟨s, A, n, c, B, m, d, t, C, i, e, D, j, f, ⟨x0, x1, x2, x3, x4, x5⟩, hX0, hY0⟩ := (show PtAt w ⟨g, 0, none⟩ p0 from hc0)
  have x0 : w.cell? ⟨g, 0, none⟩ = some (.bool s) := x0
  have x1 : w.cell? ⟨g, 1, none⟩ = some (.slice A n c) := x1
  have x2 : w.cell? ⟨g, 2, none⟩ = some (.slice B m d) := x2
  have x3 : w.cell? ⟨g, 3, none⟩ = some (.bool t) := x3
  have x4 : w.cell? ⟨g, 4, none⟩ = some (.slice C i e) := x4
  have x5 : w.cell? ⟨g, 5, none⟩ = some (.slice D j f) := x5
  obtain ⟨_, e0, hg, hc1⟩ := h.cells 1 (by omega)
  cases e0
  rw [Addr.add_lit] at hc1
  obtain ⟨s', A', n', c', B', m', d', t', C', i', e', D', j', f', ⟨y0, y1, y2, y3, y4, y5⟩, hX1, hY1⟩ := (show PtAt w ⟨g, 6, none⟩ p1 from hc1)
  have y0 : w.cell? ⟨g, 6, none⟩ = some (.bool s') := y0
  have y1 : w.cell? ⟨g, 7, none⟩ = some (.slice A' n' c') := y1
  have y2 : w.cell? ⟨g, 8, none⟩ = some (.slice B' m' d') := y2
  have y3 : w.cell? ⟨g, 9, none⟩ = some (.bool t') := y3
  have y4 : w.cell? ⟨g, 10, none⟩ = some (.slice C' i' e') := y4
  have y5 : w.cell? ⟨g, 11, none⟩ = some (.slice D' j' f') := y5
  obtain ⟨_, e0, hg, hc2⟩ := h.cells 2 (by omega)
  cases e0
  rw [Addr.add_lit] at hc2
  obtain ⟨s2, A2, n2, c2, B2, m2, d2, t2, C2, i2, e2, D2, j2, f2, ⟨z0, z1, z2, z3, z4, z5⟩, hX2, hY2⟩ := (show PtAt w ⟨g, 12, none⟩ p2 from hc2)
  have z0 : w.cell? ⟨g, 12, none⟩ = some (.bool s2) := z0
  have z1 : w.cell? ⟨g, 13, none⟩ = some (.slice A2 n2 c2) := z1
  have z2 : w.cell? ⟨g, 14, none⟩ = some (.slice B2 m2 d2) := z2
  have z3 : w.cell? ⟨g, 15, none⟩ = some (.bool t2) := z3
  have z4 : w.cell? ⟨g, 16, none⟩ = some (.slice C2 i2 e2) := z4
  have z5 : w.cell? ⟨g, 17, none⟩ = some (.slice D2 j2 f2) := z5
  clear hc0 hc1 hc2
  go_enter Tryz.func87, Tryz.ntmps87
  go_wp2_with fail
  refine wp_gen (fun W => Bl w W ∧ Wk 3 29 (w.heap.size) W) ⟨slc, bts⟩ ?_
  rintro W ⟨hbW, hr⟩
  go_region_held3 (fun w' => (w'.cell? ⟨g, 0, none⟩ = some (.bool s) ∧ w'.cell? ⟨g, 1, none⟩ = some (.slice A n c) ∧ w'.cell? ⟨g, 2, none⟩ = some (.slice B m d) ∧ w'.cell? ⟨g, 3, none⟩ = some (.bool t) ∧ w'.cell? ⟨g, 4, none⟩ = some (.slice C i e) ∧ w'.cell? ⟨g, 5, none⟩ = some (.slice D j f)) ∧ (w'.cell? ⟨g, 6, none⟩ = some (.bool s') ∧ w'.cell? ⟨g, 7, none⟩ = some (.slice A' n' c') ∧ w'.cell? ⟨g, 8, none⟩ = some (.slice B' m' d') ∧ w'.cell? ⟨g, 9, none⟩ = some (.bool t') ∧ w'.cell? ⟨g, 10, none⟩ = some (.slice C' i' e') ∧ w'.cell? ⟨g, 11, none⟩ = some (.slice D' j' f')) ∧ (w'.cell? ⟨g, 12, none⟩ = some (.bool s2) ∧ w'.cell? ⟨g, 13, none⟩ = some (.slice A2 n2 c2) ∧ w'.cell? ⟨g, 14, none⟩ = some (.slice B2 m2 d2) ∧ w'.cell? ⟨g, 15, none⟩ = some (.bool t2) ∧ w'.cell? ⟨g, 16, none⟩ = some (.slice C2 i2 e2) ∧ w'.cell? ⟨g, 17, none⟩ = some (.slice D2 j2 f2)) ∧ (w'.cell? ⟨w.heap.size, 0, none⟩ = some (cellD w' (w.heap.size) 0) ∧ w'.cell? ⟨w.heap.size, 1, none⟩ = some (cellD w' (w.heap.size) 1) ∧ w'.cell? ⟨w.heap.size, 2, none⟩ = some (cellD w' (w.heap.size) 2)) ∧ w'.frozen? ⟨w.heap.size, 0, none⟩ = false ∧ w'.frozen? ⟨w.heap.size, 1, none⟩ = false ∧ w'.frozen? ⟨w.heap.size, 2, none⟩ = false) (first | exact ⟨⟨(Bl.cellOf (w := w) (p := ⟨g, 0, none⟩) slc hg).trans x0, (Bl.cellOf (w := w) (p := ⟨g, 1, none⟩) slc hg).trans x1, (Bl.cellOf (w := w) (p := ⟨g, 2, none⟩) slc hg).trans x2, (Bl.cellOf (w := w) (p := ⟨g, 3, none⟩) slc hg).trans x3, (Bl.cellOf (w := w) (p := ⟨g, 4, none⟩) slc hg).trans x4, (Bl.cellOf (w := w) (p := ⟨g, 5, none⟩) slc hg).trans x5⟩, ⟨(Bl.cellOf (w := w) (p := ⟨g, 6, none⟩) slc hg).trans y0, (Bl.cellOf (w := w) (p := ⟨g, 7, none⟩) slc hg).trans y1, (Bl.cellOf (w := w) (p := ⟨g, 8, none⟩) slc hg).trans y2, (Bl.cellOf (w := w) (p := ⟨g, 9, none⟩) slc hg).trans y3, (Bl.cellOf (w := w) (p := ⟨g, 10, none⟩) slc hg).trans y4, (Bl.cellOf (w := w) (p := ⟨g, 11, none⟩) slc hg).trans y5⟩, ⟨(Bl.cellOf (w := w) (p := ⟨g, 12, none⟩) slc hg).trans z0, (Bl.cellOf (w := w) (p := ⟨g, 13, none⟩) slc hg).trans z1, (Bl.cellOf (w := w) (p := ⟨g, 14, none⟩) slc hg).trans z2, (Bl.cellOf (w := w) (p := ⟨g, 15, none⟩) slc hg).trans z3, (Bl.cellOf (w := w) (p := ⟨g, 16, none⟩) slc hg).trans z4, (Bl.cellOf (w := w) (p := ⟨g, 17, none⟩) slc hg).trans z5⟩, Wk.out3 (T := 29) bts⟩) (first | (go_at_call 50; refine (RatOf_any _ 1 2 (by omega) (by omega) (by omega) (by omega)).mono ?_; rintro e w2 ⟨s6, A6, n6, c6, B6, m6, d6, rfl, hR2, hb2⟩) | (go_at_call 73; refine (DoubleArea_any _ (hX0.bl slc) (hY0.bl slc) (hX1.bl slc) (hY1.bl slc) (hX2.bl slc) (hY2.bl slc)).mono ?_; rintro en w3 ⟨s3, A3, n3, c3, B3, m3, d3, rfl, hR3, hb3⟩) | (go_at_call 49; refine (RatMul_any _ (hR2.rd.bl hb3) hR3.rd).mono ?_; rintro en w4 ⟨s1, A1, n1, c1, B1, m1, d1, rfl, hR, hb4⟩))
  have hz : w.heap.size + 1 ≤ W.heap.size := hr.lt
  have hz2 : W.heap.size ≤ w2.heap.size := (Bl.size hb2 : W.drew.heap.size ≤ _)
  have hz3 : w2.heap.size ≤ w3.heap.size := Bl.size hb3
  have hr := (show Wk 3 29 (w.heap.size) w4 from bts)
  have hbW : Bl w w4 := slc
  have hR : OwR 3 (w.heap.size + 1) w4 s1 A1 n1 c1 B1 m1 d1 (areaR p0 p1 p2) := hR.mono (show w.heap.size + 1 ≤ w3.heap.size by omega)
  obtain ⟨v0, x0⟩ := hr.val_ (i := 0) (by omega)
  obtain ⟨v1, x1⟩ := hr.val_ (i := 1) (by omega)
  obtain ⟨v2, x2⟩ := hr.val_ (i := 2) (by omega)
  have hg := hr.lt
  obtain ⟨cs4, hB4, hc4⟩ := hr
  have hf0 := hB4.frozen 0
  have hf1 := hB4.frozen 1
  have hf2 := hB4.frozen 2
  go_wp2_with fail
  exact bodyPost_ret (v := .agg #[.bool s1, .slice A1 n1 c1, .slice B1 m1 d1]) (by simp [results, Tryz.results87, go_sem, x0, x1, x2]) rfl ⟨_, _, _, _, _, _, _, rfl, (((hR.far (by simp) _).far (by simp) _).far (by simp) _).mono (by omega), slc⟩


set_option maxRecDepth 100000 in
set_option maxHeartbeats 8000000 in
theorem AreaOf_any (w : World) {g n c0 : Nat} {l : List PtD} (h : RdPS w (some ⟨g, 0, none⟩) n c0 l) :
    Calls Tryz.prog 31 #[.slice (some ⟨g, 0, none⟩) n c0] w fun e w' => ∃ s1 A1 n1 c1 B1 m1 d1, e = .returned (.agg #[.bool s1, .slice A1 n1 c1, .slice B1 m1 d1]) ∧ OwR 3 w.heap.size w' s1 A1 n1 c1 B1 m1 d1 (areaL l) ∧ Bl w w' := by
  by_cases hp : propB l = true
  · obtain ⟨_, p0, p1, p2, e, _⟩ := propB_out hp
    subst e
    obtain rfl : 3 = n := h.len
    have hv : areaL [p0, p1, p2] = areaR p0 p1 p2 := by unfold areaL; rw [if_pos hp]; rfl
    rw [hv]
    clear hv
    have hp := Lib.hid hp; rename_i h_; clear h_
    go_enter Tryz.func31, Tryz.ntmps31
    go_wp2_with fail
    refine calls_gen (fun W => Bl w W ∧ Wk 3 29 (w.heap.size) W) ⟨slc, bts⟩ ?_
    rintro W ⟨hbW, hr⟩
    refine (IsProper_any _ (RdPS.bl h hbW)).mono ?_
    rw [hp.out]
    rintro e w1 ⟨rfl, hb1⟩
    have hz0 : w.heap.size < W.heap.size := hr.lt
    have hr := hr.bl hb1
    have hbW := hbW.next hb1
    clear hb1
    go_wp2_with fail
    refine (area_any _ (RdPS.bl h hbW)).mono ?_
    rintro e w4 ⟨s1, A1, n1, c1, B1, m1, d1, rfl, hR, hb4⟩
    have hR := hR.mono (show w.heap.size + 1 ≤ w1.heap.size from hr.lt)
    have hr := hr.bl hb4
    have hbW := hbW.next hb4
    obtain ⟨v0, x0⟩ := hr.val_ (i := 0) (by omega)
    obtain ⟨v1, x1⟩ := hr.val_ (i := 1) (by omega)
    obtain ⟨v2, x2⟩ := hr.val_ (i := 2) (by omega)
    have hg := hr.lt
    obtain ⟨cs4, hB4, hc4⟩ := hr
    have hf0 := hB4.frozen 0
    have hf1 := hB4.frozen 1
    have hf2 := hB4.frozen 2
    go_wp2_with fail
    exact bodyPost_ret (v := .agg #[.bool s1, .slice A1 n1 c1, .slice B1 m1 d1]) (by simp [results, Tryz.results31, go_sem, x0, x1, x2]) rfl ⟨_, _, _, _, _, _, _, rfl, (((hR.far (by simp) _).far (by simp) _).far (by simp) _).mono (by omega), slc⟩
  · have hval := Lib.hid (show areaL l = zR by unfold areaL; rw [if_neg hp])
    have hp := Lib.hid (Bool.eq_false_iff.2 hp); rename_i h_; clear h_
    go_enter Tryz.func31, Tryz.ntmps31
    go_wp2_with fail
    refine calls_gen (fun W => Bl w W ∧ Wk 3 29 (w.heap.size) W) ⟨slc, bts⟩ ?_
    rintro W ⟨hbW, hr⟩
    refine (IsProper_any _ (RdPS.bl h hbW)).mono ?_
    rw [hp.out]
    rintro e w1 ⟨rfl, hb1⟩
    have hz0 : w.heap.size < W.heap.size := hr.lt
    have hr := hr.bl hb1
    have hbW := hbW.next hb1
    clear hb1
    obtain ⟨v0, x0⟩ := hr.val_ (i := 0) (by omega)
    obtain ⟨v1, x1⟩ := hr.val_ (i := 1) (by omega)
    obtain ⟨v2, x2⟩ := hr.val_ (i := 2) (by omega)
    have hg := hr.lt
    obtain ⟨cs4, hB4, hc4⟩ := hr
    have hf0 := hB4.frozen 0
    have hf1 := hB4.frozen 1
    have hf2 := hB4.frozen 2
    go_wp2_with fail
    exact bodyPost_ret (v := .agg #[.bool false, .slice none 0 0, .slice none 0 0]) (by simp [results, Tryz.results31, go_sem, x0, x1, x2]) rfl ⟨_, _, _, _, _, _, _, rfl, by rw [hval.out]; exact OwR.zero _ _ _, slc⟩
end

section
open Go.RowKit

theorem divR_inv {r r' : RatD} (ho : OkR r) (ho' : OkR r') (hx : rn r' ≠ 0) : mulR r ⟨r'.neg, r'.den, r'.mag⟩ = divR r r' := by
  have g := ho'.get
  have hD : (0 : Int) < (rd r' : Int) := by have := g.2.1; omega
  generalize hX : rn r' = X at *
  generalize hE : rd r' = E at *
  have hq : r' = raw X E := by rw [← hX, ← hE]; have := g.1; rw [hX, hE] at *; exact this
  have e : (⟨r'.neg, r'.den, r'.mag⟩ : RatD) = raw ((E : Int) * (if X < 0 then -1 else 1)) X.natAbs := by
    rw [hq]
    unfold raw
    rcases Int.lt_or_le X 0 with h | h
    · rw [if_pos h]
      have e1 : decide ((E : Int) * -1 < 0) = decide (X < 0) := by rw [decide_eq_decide]; omega
      have e2 : ((E : Int) * -1).natAbs = E := by omega
      rw [e1, e2]
    · rw [if_neg (by omega)]
      have e1 : decide ((E : Int) * 1 < 0) = decide (X < 0) := by rw [decide_eq_decide]; omega
      have e2 : ((E : Int) * 1).natAbs = E := by omega
      rw [e1, e2]
  have e3 : ((E : Int) * (if X < 0 then -1 else 1)).natAbs = E := by split <;> omega
  have ok : OkR (raw ((E : Int) * (if X < 0 then -1 else 1)) X.natAbs) := ⟨_, _, rfl, by omega, by rw [e3, Nat.gcd_comm]; exact g.2.2.1, by rw [e3]; exact g.2.2.2.2, g.2.2.2.1⟩
  rw [e]
  have a1 : ∀ q, OkR q → mulR r q = ofFrac (rn r * rn q) (rd r * rd q) := fun q hq => by unfold mulR; exact if_pos ⟨ho, hq⟩
  have a2 : divR r r' = ofFrac (rn r * rd r' * (if rn r' < 0 then -1 else 1)) (rd r * (rn r').natAbs) := by unfold divR; exact if_pos ⟨ho, ho', by rw [hX]; exact hx⟩
  rw [a1 _ ok, a2, rn_raw, rd_raw, hX, hE, Int.mul_assoc]
set_option maxRecDepth 100000 in
set_option maxHeartbeats 4000000 in
theorem RatDiv_any (w : World) {s : Bool} {A : Option Addr} {n c : Nat} {B : Option Addr} {m d : Nat} {r : RatD} {s' : Bool} {A' : Option Addr} {n' c' : Nat} {B' : Option Addr} {m' d' : Nat} {r' : RatD} (h : RdR w s A n c B m d r) (k : RdR w s' A' n' c' B' m' d' r') :
    Calls Tryz.prog 75 #[.agg #[.bool s, .slice A n c, .slice B m d], .agg #[.bool s', .slice A' n' c', .slice B' m' d']] w fun e w' => ∃ s1 A1 n1 c1 B1 m1 d1, e = .returned (.agg #[.bool s1, .slice A1 n1 c1, .slice B1 m1 d1]) ∧ OwR 3 w.heap.size w' s1 A1 n1 c1 B1 m1 d1 (divR r r') ∧ Bl w w' := by
  by_cases ho : OkR r ∧ OkR r'
  · have hall := Lib.hid (allOk_two.2 ho)
    have hI' := IsR.out k ho.2
    have hln := hI'.num.lenN
    by_cases hx0 : rn r' = 0
    · have hval := Lib.hid (show divR r r' = zR by unfold divR; rw [if_neg (fun hk => hk.2.2 hx0)])
      have hn0 : n' = 0 := by rw [← hln, hx0]; exact List.length_eq_zero_iff.2 (dig_nil.2 rfl)
      have hne : ((n' : Int) == 0) = true := by simp [hn0]
      clear ho hI' hln hx0 hn0
      go_enter Tryz.func75, Tryz.ntmps75
      go_wp2_with fail
      refine calls_gen (fun W => Bl w W ∧ Blk W (w.heap.size) 29 #[.bool s, .slice A n c, .slice B m d] ∧ Blk W (w.heap.size + 1) 29 #[.bool s', .slice A' n' c', .slice B' m' d'] ∧ Wk 3 29 (w.heap.size + 1 + 1) W ∧ Blk W (w.heap.size + 1 + 1 + 1) 29 #[.bool s, .slice A n c, .slice B m d, .bool s', .slice A' n' c', .slice B' m' d']) ⟨slc, bts, bts, bts, Blk.new3 _ _ _ _ _ _⟩ ?_
      rintro W ⟨hbW, hx, hx', hr, hy⟩
      refine (areRats_yes _ (RdRS.two hy (h.bl hbW) (k.bl hbW)) hall.out).mono ?_
      rintro e w1 ⟨rfl, hb1⟩
      clear hy
      have hx := hx.bl hb1
      have hx' := hx'.bl hb1
      have hr := hr.bl hb1
      have hbW := hbW.next hb1
      clear hb1
      obtain ⟨i0, i1, i2⟩ := bx3 hx
      obtain ⟨j0, j1, j2⟩ := bx3 hx'
      obtain ⟨v0, x0⟩ := hr.val_ (i := 0) (by omega)
      obtain ⟨v1, x1⟩ := hr.val_ (i := 1) (by omega)
      obtain ⟨v2, x2⟩ := hr.val_ (i := 2) (by omega)
      have hg := hr.lt
      obtain ⟨cs4, hB4, hc4⟩ := hr
      have hf0 := hB4.frozen 0
      have hf1 := hB4.frozen 1
      have hf2 := hB4.frozen 2
      go_wp2_with fail
      exact bodyPost_ret (v := .agg #[.bool false, .slice none 0 0, .slice none 0 0]) (by simp [results, Tryz.results75, go_sem, x0, x1, x2]) rfl ⟨_, _, _, _, _, _, _, rfl, by rw [hval.out]; exact OwR.zero _ _ _, slc⟩
    · have hval := Lib.hid (divR_inv ho.1 ho.2 hx0)
      have hpos : 0 < n' := by rw [← hln]; exact dig_len_pos.2 (by omega)
      have hne : ((n' : Int) == 0) = false := by simp; omega
      have hinv : RdR w s' B' m' d' A' n' c' ⟨r'.neg, r'.den, r'.mag⟩ := ⟨k.neg, k.den, k.mag⟩
      clear ho hI' hln
      have hx0 := Lib.hid hx0; rename_i h_; clear h_
      go_enter Tryz.func75, Tryz.ntmps75
      go_wp2_with fail
      refine calls_gen (fun W => Bl w W ∧ Blk W (w.heap.size) 29 #[.bool s, .slice A n c, .slice B m d] ∧ Blk W (w.heap.size + 1) 29 #[.bool s', .slice A' n' c', .slice B' m' d'] ∧ Wk 3 29 (w.heap.size + 1 + 1) W ∧ Blk W (w.heap.size + 1 + 1 + 1) 29 #[.bool s, .slice A n c, .slice B m d, .bool s', .slice A' n' c', .slice B' m' d']) ⟨slc, bts, bts, bts, Blk.new3 _ _ _ _ _ _⟩ ?_
      rintro W ⟨hbW, hx, hx', hr, hy⟩
      refine (areRats_yes _ (RdRS.two hy (h.bl hbW) (k.bl hbW)) hall.out).mono ?_
      rintro e w1 ⟨rfl, hb1⟩
      clear hy
      have hx := hx.bl hb1
      have hx' := hx'.bl hb1
      have hr := hr.bl hb1
      have hbW := hbW.next hb1
      clear hb1
      obtain ⟨i0, i1, i2⟩ := bx3 hx
      obtain ⟨j0, j1, j2⟩ := bx3 hx'
      go_wp2_with fail
      refine (RatMul_any _ (h.bl hbW) (hinv.bl hbW)).mono ?_
      rintro e w2 ⟨s1, A1, n1, c1, B1, m1, d1, rfl, hR, hb2⟩
      have hR := hR.mono (show w.heap.size + 1 + 1 + 1 ≤ w1.heap.size from hr.lt)
      rw [hval.out] at hR
      have hx := hx.bl hb2
      have hx' := hx'.bl hb2
      have hr := hr.bl hb2
      have hbW := hbW.next hb2
      clear hb2
      obtain ⟨i0, i1, i2⟩ := bx3 hx
      obtain ⟨j0, j1, j2⟩ := bx3 hx'
      obtain ⟨v0, x0⟩ := hr.val_ (i := 0) (by omega)
      obtain ⟨v1, x1⟩ := hr.val_ (i := 1) (by omega)
      obtain ⟨v2, x2⟩ := hr.val_ (i := 2) (by omega)
      have hg := hr.lt
      obtain ⟨cs4, hB4, hc4⟩ := hr
      have hf0 := hB4.frozen 0
      have hf1 := hB4.frozen 1
      have hf2 := hB4.frozen 2
      go_wp2_with fail
      exact bodyPost_ret (v := .agg #[.bool s1, .slice A1 n1 c1, .slice B1 m1 d1]) (by simp [results, Tryz.results75, go_sem, x0, x1, x2]) rfl ⟨_, _, _, _, _, _, _, rfl, (((hR.far (by simp) _).far (by simp) _).far (by simp) _).mono (by omega), slc⟩
  · have hall := Lib.hid (fun hk => ho (allOk_two.1 hk) : ¬ AllOk [r, r'])
    have hval := Lib.hid (show divR r r' = zR by unfold divR; rw [if_neg (fun hk => ho ⟨hk.1, hk.2.1⟩)])
    have ho := Lib.hid ho; rename_i h_; clear h_
    go_enter Tryz.func75, Tryz.ntmps75
    go_wp2_with fail
    refine calls_gen (fun W => Bl w W ∧ Blk W (w.heap.size) 29 #[.bool s, .slice A n c, .slice B m d] ∧ Blk W (w.heap.size + 1) 29 #[.bool s', .slice A' n' c', .slice B' m' d'] ∧ Wk 3 29 (w.heap.size + 1 + 1) W ∧ Blk W (w.heap.size + 1 + 1 + 1) 29 #[.bool s, .slice A n c, .slice B m d, .bool s', .slice A' n' c', .slice B' m' d']) ⟨slc, bts, bts, bts, Blk.new3 _ _ _ _ _ _⟩ ?_
    rintro W ⟨hbW, hx, hx', hr, hy⟩
    refine (areRats_no _ (RdRS.two hy (h.bl hbW) (k.bl hbW)) hall.out).mono ?_
    rintro e w1 ⟨rfl, hb1⟩
    clear hy
    have hx := hx.bl hb1
    have hx' := hx'.bl hb1
    have hr := hr.bl hb1
    have hbW := hbW.next hb1
    clear hb1
    obtain ⟨i0, i1, i2⟩ := bx3 hx
    obtain ⟨j0, j1, j2⟩ := bx3 hx'
    obtain ⟨v0, x0⟩ := hr.val_ (i := 0) (by omega)
    obtain ⟨v1, x1⟩ := hr.val_ (i := 1) (by omega)
    obtain ⟨v2, x2⟩ := hr.val_ (i := 2) (by omega)
    have hg := hr.lt
    obtain ⟨cs4, hB4, hc4⟩ := hr
    have hf0 := hB4.frozen 0
    have hf1 := hB4.frozen 1
    have hf2 := hB4.frozen 2
    go_wp2_with fail
    exact bodyPost_ret (v := .agg #[.bool false, .slice none 0 0, .slice none 0 0]) (by simp [results, Tryz.results75, go_sem, x0, x1, x2]) rfl ⟨_, _, _, _, _, _, _, rfl, by rw [hval.out]; exact OwR.zero _ _ _, slc⟩
end

section
open Go.RowKit

theorem OwL.grown {E : TypeId} {base : Nat} {w w' : World} {v : Value} {l : List Int} {row : Option Nat} (h : OwL E base w v l) (hg : w.grownBy w' row) (hr : ∀ k, row = some k → v.ownBlock ≠ some k) : OwL E base w' v l := by
  refine ⟨h.1, ?_⟩
  rcases h.2 with h2 | ⟨g, cap, cur, hv, hgb, hh, r⟩
  · exact .inl h2
  · exact .inr ⟨g, cap, cur, hv, hgb, (hg.block g (heap_lt hh) (by intro e; exact hr g e.symm (by rw [hv]; rfl))).trans hh, r⟩
/-- A fraction in memory of its own (its two slices may share it). -/
def OwQ (T : TypeId) (b0 : Nat) (w : World) (s : Bool) (A : Option Addr) (n c : Nat) (B : Option Addr) (m d : Nat) (r : RatD) : Prop :=
  ∃ bs, FtR T w s A n c B m d r bs ∧ ∀ b ∈ bs, b0 ≤ b ∧ b < w.heap.size
section
variable {T : TypeId} {b0 b1 : Nat} {w W : World} {s : Bool} {A : Option Addr} {n c : Nat} {B : Option Addr} {m d : Nat} {r : RatD}
theorem OwQ.of (h : OwR T b0 w s A n c B m d r) : OwQ T b0 w s A n c B m d r := by
  obtain ⟨bs, h, hf⟩ := h
  exact ⟨bs, h, hf.2⟩
theorem OwQ.rd (h : OwQ T b0 w s A n c B m d r) : RdR w s A n c B m d r := by
  obtain ⟨bs, h, _⟩ := h
  exact h.rd
theorem OwQ.two (hs : s = r.neg) (h : OwI T b0 w A n c r.mag) (k : OwI T b0 w B m d r.den) : OwQ T b0 w s A n c B m d r := by
  obtain ⟨b1, h1, f1⟩ := FtI.of_own h
  obtain ⟨b2, h2, f2⟩ := FtI.of_own k
  refine ⟨b1 ++ b2, ⟨hs, b1, b2, h1, h2, rfl⟩, fun b hb => ?_⟩
  rcases List.mem_append.1 hb with hb | hb
  · exact f1.2 b hb
  · exact f2.2 b hb
theorem OwQ.bl (h : OwQ T b0 w s A n c B m d r) (hb : Bl w W) : OwQ T b0 W s A n c B m d r := by
  obtain ⟨bs, h, hf⟩ := h
  exact ⟨bs, h.bl hb, fun b hm => ⟨(hf b hm).1, Nat.lt_of_lt_of_le (hf b hm).2 hb.size⟩⟩
theorem OwQ.mono (h : OwQ T b1 w s A n c B m d r) (hb : b0 ≤ b1) : OwQ T b0 w s A n c B m d r := by
  obtain ⟨bs, h, hf⟩ := h
  exact ⟨bs, h, fun b hm => ⟨Nat.le_trans hb (hf b hm).1, (hf b hm).2⟩⟩
theorem OwQ.far (h : OwQ T b0 w s A n c B m d r) {q : Addr} (hp : q.block < b0) (u : Value) : OwQ T b0 (w.setCell q u) s A n c B m d r := by
  obtain ⟨bs, h, hf⟩ := h
  refine ⟨bs, h.keep (by simp) (fun b hb => Below.heap_setCell w q u b (by have := (hf b hb).1; omega)), fun b hm => ?_⟩
  have := hf b hm
  simpa using this
end
end

section
open Go.RowKit
end

section
open Go.RowKit
end

section
open Go.RowKit

/- A region that draws its order and ends in a store that waits for all the rest: S need not hold behind that store. (The form of the proof is the library's own wpAnyH_first.) -/
section
variable {P : Program} {ops : Array Oper} {Q : Exit → Act → World → Prop} {md : Region.Mode} {S : World → Prop} {last : Nat}
def wpAnyT (P : Program) (md : Region.Mode) (ops : Array Oper) (Q : Exit → Act → World → Prop) (S : World → Prop) (last : Nat) : Nat → Array Bool → Act → World → Prop
  | 0, listed, a, w => Region.ready md ops listed = [] ∧ Q .normal a w
  | fuel + 1, listed, a, w =>
    (Region.ready md ops listed = [] → Q .normal a w) ∧
    ∀ i ∈ Region.ready md ops listed, wpOp P ops Q i (fun a' w' => (i ≠ last → S w') ∧ wpAnyT P md ops Q S last fuel (listed.setIfInBounds i true) a' w') a w
theorem wpAny_of_T : ∀ (fuel : Nat) (listed : Array Bool) (a : Act) (w : World), wpAnyT P md ops Q S last fuel listed a w → wpAny P md ops Q fuel listed a w
  | 0, _, _, _, h => h
  | fuel + 1, _, _, _, h => ⟨h.1, fun i hi => wpOp_mono (fun a' w' h' => wpAny_of_T fuel _ a' w' h'.2) (h.2 i hi)⟩
def waits (md : Region.Mode) (ops : Array Oper) (last i : Nat) : Bool :=
  match ops[last]? with
  | some ol => ol.after.any (fun e => Region.binds md e && e.on == i)
  | none => false
theorem waits_spec {i : Nat} (h : waits md ops last i = true) : ∀ oj, ops[last]? = some oj → ¬ ∀ e ∈ oj.after, Region.binds md e = true → e.on ≠ i := by
  intro oj hj hno
  unfold waits at h
  rw [hj] at h
  obtain ⟨k, hk, hx⟩ := Array.any_eq_true.1 h
  have h1 := Bool.and_eq_true_iff.1 hx
  exact hno _ (Array.getElem_mem hk) h1.1 (by simpa using h1.2)
theorem wpAnyT_first {i : Nat} {oi : Oper} {v : Value} (hi : ops[i]? = some oi) (hsel : ∀ (j : Nat) (o : Oper) cs b, ops[j]? = some o → o.op ≠ .select cs b)
    (hQ : ∀ c a w, Q (.panic c) (a.put oi.dst v) w → Q (.panic c) a w) (hw : waits md ops last i = true) :
    ∀ (fuel : Nat) (listed : Array Bool) (a : Act) (w : World),
      (∀ j oj, ops[j]? = some oj → j ≠ i → listed.getD j true = false → (∀ e ∈ oj.after, Region.binds md e = true → e.on ≠ i) → oi.apart ops oj = true) →
      i ∈ Region.ready md ops listed → YieldsIf P ops S oi v a → S w →
      wpAnyT P md ops Q S last fuel (listed.setIfInBounds i true) (a.put oi.dst v) w → wpAnyT P md ops Q S last (fuel + 1) listed a w := by
  intro fuel
  induction fuel with
  | zero =>
    intro listed a w _ hr hy hS H
    refine ⟨fun h => (by rw [h] at hr; cases hr), fun j hj => ?_⟩
    by_cases hji : j = i
    · subst hji; exact hy.wpOp hi hS ⟨fun _ => hS, H⟩
    · have := ready_mono hj hji
      rw [H.1] at this
      cases this
  | succ fuel ih =>
    intro listed a w hfree hr hy hS H
    refine ⟨fun h => (by rw [h] at hr; cases hr), fun j hj => ?_⟩
    by_cases hji : j = i
    · subst hji; exact hy.wpOp hi hS ⟨fun _ => hS, H⟩
    · have h1 := H.2 j (ready_mono hj hji)
      obtain ⟨hjun, oj, hoj, hall⟩ := mem_ready.1 hj
      have hnot : ∀ e ∈ oj.after, Region.binds md e = true → e.on ≠ i := fun e he hb heq => by
        have h1 := hall e he hb
        have h0 := (mem_ready.1 hr).1
        rw [heq] at h1
        rcases Nat.lt_or_ge i listed.size with h' | h'
        · simp [h'] at h0 h1; rw [h0] at h1; cases h1
        · simp [Array.getElem?_eq_none h'] at h1
      have hjl : j ≠ last := fun e => by subst e; exact waits_spec hw oj hoj hnot
      have h2 := wpOp_putIf hoj (hfree j oj hoj hji hjun hnot) (fun cs b => hsel i oi cs b hi) (fun cs b => hsel j oj cs b hoj) hQ hy h1
      have hfree' : ∀ k ok, ops[k]? = some ok → k ≠ i → (listed.setIfInBounds j true).getD k true = false →
          (∀ e ∈ ok.after, Region.binds md e = true → e.on ≠ i) → oi.apart ops ok = true := fun k ok hk hki hun hno => by
        refine hfree k ok hk hki ?_ hno
        by_cases hjk : j = k
        · subst hjk; exact hjun
        · rw [getD_set_ne true hjk] at hun; exact hun
      refine wpOp_mono (fun a' w' h3 => ⟨fun _ => h3.2.1 hjl, ih (listed.setIfInBounds j true) a' w' hfree' (ready_mono hr (Ne.symm hji)) h3.1 (h3.2.1 hjl) ?_⟩) h2
      rw [Array.setIfInBounds_comm _ _ hji]
      exact h3.2.2
theorem wpAnyT_take {i : Nat} {oi : Oper} {v : Value} {fuel : Nat} {listed : Array Bool} {a : Act} {w : World} (hi : ops[i]? = some oi)
    (hs : Region.noSelect ops = true) (hf : Region.free md ops listed i = true) (hr : (Region.ready md ops listed).contains i = true) (hl : waits md ops last i = true)
    (hQ : ∀ c a w, Q (.panic c) (a.put oi.dst v) w → Q (.panic c) a w) (hw : Region.wanted oi (yielded ops a.tmps) = true) (hy : ∀ w, S w → (execOp a.eval oi).run P w = .ok (.value v) w) (hS : S w)
    (h : wpAnyT P md ops Q S last fuel (listed.setIfInBounds i true) (a.put oi.dst v) w) : wpAnyT P md ops Q S last (fuel + 1) listed a w :=
  wpAnyT_first hi (Region.noSelect_spec hs) hQ hl fuel listed a w (Region.free_spec hi hf) (by simpa using hr) (.inl ⟨hw, hy⟩) hS h
theorem wpAnyT_step {i : Nat} {o : Oper} {fuel : Nat} {listed : Array Bool} {a : Act} {w : World} (ho : ops[i]? = some o) (hr : Region.ready md ops listed = [i])
    (h : ∀ K' : Act → World → Prop, Shut (∀ a w, (i ≠ last → S w) → wpAnyT P md ops Q S last fuel (listed.setIfInBounds i true) a w → K' a w) → if Region.wanted o (yielded ops a.tmps) = true then Oper.wp P o a w K' Q else K' (a.put o.dst undef) w) : wpAnyT P md ops Q S last (fuel + 1) listed a w := by
  refine ⟨fun h0 => (by rw [hr] at h0; cases h0), fun j hj => ?_⟩
  rw [hr] at hj
  obtain rfl : j = i := by simpa using hj
  exact wpOp_step ho (fun K' hK => h K' (fun a w hS hW => hK a w ⟨hS, hW⟩))
theorem wpAnyT_done {listed : Array Bool} {a : Act} {w : World} (hr : Region.ready md ops listed = []) (h : Q .normal a w) : wpAnyT P md ops Q S last 0 listed a w := ⟨hr, h⟩
theorem wp_region_T {id : Nat} {a : Act} {w : World} (last n : Nat) (S : World → Prop) (hn : ops.size = n) (hm : P.follows .mixedOrders = true) (_hS : S w.drew)
    (h : wpAnyT P .any ops Q S last n (Array.replicate n false) a w.drew) : (Code.region id ops true).wp P Q a w := by
  subst hn
  exact wp_region_any hm (wpAny_of_T _ _ _ _ h)
end
end

section
open Go.RowKit

/-- A fraction, none of it in block g. -/
def OwE (T : TypeId) (g : Nat) (w : World) (s : Bool) (A : Option Addr) (n c : Nat) (B : Option Addr) (m d : Nat) (r : RatD) : Prop :=
  ∃ bs, FtR T w s A n c B m d r bs ∧ ∀ b ∈ bs, b ≠ g
section
variable {T : TypeId} {b0 g : Nat} {w W : World} {s : Bool} {A : Option Addr} {n c : Nat} {B : Option Addr} {m d : Nat} {r : RatD}
theorem OwE.rd (h : OwE T g w s A n c B m d r) : RdR w s A n c B m d r := by
  obtain ⟨bs, h, _⟩ := h
  exact h.rd
theorem OwE.bl (h : OwE T g w s A n c B m d r) (hb : Bl w W) : OwE T g W s A n c B m d r := by
  obtain ⟨bs, h, hf⟩ := h
  exact ⟨bs, h.bl hb, hf⟩
theorem OwE.set (h : OwE T g w s A n c B m d r) (i : Nat) (u : Value) : OwE T g (w.setCell ⟨g, i, none⟩ u) s A n c B m d r := by
  obtain ⟨bs, h, hf⟩ := h
  exact ⟨bs, h.keep (by simp) (fun b hb => Below.heap_setCell w _ u b (hf b hb)), hf⟩
theorem OwQ.exc (h : OwQ T b0 w s A n c B m d r) (hb : Bl w W) : OwE T w.heap.size W s A n c B m d r := by
  obtain ⟨bs, h, hf⟩ := h
  exact ⟨bs, h.bl hb, fun b hm => by have := (hf _ hm).2; omega⟩
theorem OwQ.exc2 (h : OwQ T b0 w s A n c B m d r) (hg : g < b0) : OwE T g w s A n c B m d r := by
  obtain ⟨bs, h, hf⟩ := h
  exact ⟨bs, h, fun b hm => by have := (hf _ hm).1; omega⟩
theorem Blk.fz3 {a b c : Value} {T : TypeId} (h : Blk W g T #[a, b, c]) : W.frozen? ⟨g, 0, none⟩ = false ∧ W.frozen? ⟨g, 1, none⟩ = false ∧ W.frozen? ⟨g, 2, none⟩ = false := ⟨h.frozen 0, h.frozen 1, h.frozen 2⟩
end
theorem Wk.put6 {W : World} {g : Nat} {T : TypeId} (h : Wk 6 T g W) (a b c a' b' c' : Value) : Blk ((((((W.setCell ⟨g, 0, none⟩ a).setCell ⟨g, 1, none⟩ b).setCell ⟨g, 2, none⟩ c).setCell ⟨g, 3, none⟩ a').setCell ⟨g, 4, none⟩ b').setCell ⟨g, 5, none⟩ c') g T #[a, b, c, a', b', c'] := by
  obtain ⟨⟨l⟩, h1, h2⟩ := h
  have h3 := (((((h1.set_ 0 a).set_ 1 b).set_ 2 c).set_ 3 a').set_ 4 b').set_ 5 c'
  rcases l with _ | ⟨u, _ | ⟨v, _ | ⟨x, _ | ⟨y, _ | ⟨z, _ | ⟨t, _ | ⟨q, l⟩⟩⟩⟩⟩⟩⟩ <;> simp at h2
  exact h3
end

end Go.Proofs.YtajlahjghapbkaaGreat
