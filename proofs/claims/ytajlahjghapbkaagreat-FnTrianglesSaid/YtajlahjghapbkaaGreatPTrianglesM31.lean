/- Lemmas. -/
import Derived.Test.YtajlahjghapbkaaGreatRows
import Derived.Test.YtajlahjghapbkaaGreatPTrianglesM30
import Derived.Test.YtajlahjghapbkaaGreatPTrianglesM19
import Derived.Test.YtajlahjghapbkaaGreatPTrianglesM22
import Derived.Test.YtajlahjghapbkaaGreatPTrianglesM28
namespace Go.Proofs.YtajlahjghapbkaaGreat
section
open Go.RowKit

noncomputable def sclP (r : RatD) (p : PtD) : PtD := ifP ⟨mulR r p.x, mulR r p.y⟩
set_option maxRecDepth 100000 in
set_option maxHeartbeats 2000000 in
theorem ScalePoint_any (w : World) {s : Bool} {A : Option Addr} {n c : Nat} {B : Option Addr} {m d : Nat} {r : RatD} {s' : Bool} {A' : Option Addr} {n' c' : Nat} {B' : Option Addr} {m' d' : Nat} {t' : Bool} {C' : Option Addr} {i' e' : Nat} {D' : Option Addr} {j' f' : Nat} {p' : PtD} (h : RdR w s A n c B m d r) (h' : RdR w s' A' n' c' B' m' d' p'.x) (k' : RdR w t' C' i' e' D' j' f' p'.y) :
    Calls Tryz.prog 19 #[.agg #[.bool s, .slice A n c, .slice B m d], .agg #[.bool s', .slice A' n' c', .slice B' m' d', .bool t', .slice C' i' e', .slice D' j' f']] w fun en w' => ∃ s1 A1 n1 c1 B1 m1 d1 t1 C1 i1 e1 D1 j1 f1, en = .returned (.agg #[.bool s1, .slice A1 n1 c1, .slice B1 m1 d1, .bool t1, .slice C1 i1 e1, .slice D1 j1 f1]) ∧ OwP 3 w.heap.size w' s1 A1 n1 c1 B1 m1 d1 t1 C1 i1 e1 D1 j1 f1 (sclP r p') ∧ Bl w w' := by
  go_enter Tryz.func19, Tryz.ntmps19
  go_wp2_with fail
  refine wp_gen (fun W => Bl w W ∧ Blk W (w.heap.size) 29 #[.bool s, .slice A n c, .slice B m d] ∧ Blk W (w.heap.size + 1) 31 #[.bool s', .slice A' n' c', .slice B' m' d', .bool t', .slice C' i' e', .slice D' j' f'] ∧ Wk 6 31 (w.heap.size + 1 + 1) W) ⟨slc, bts, bts, bts⟩ ?_
  rintro W ⟨hbW, hx, hx', hr⟩
  go_region_held3 (fun w' => (w'.cell? ⟨w.heap.size, 0, none⟩ = some (.bool s) ∧ w'.cell? ⟨w.heap.size, 1, none⟩ = some (.slice A n c) ∧ w'.cell? ⟨w.heap.size, 2, none⟩ = some (.slice B m d)) ∧ (w'.cell? ⟨w.heap.size + 1, 0, none⟩ = some (.bool s') ∧ w'.cell? ⟨w.heap.size + 1, 1, none⟩ = some (.slice A' n' c') ∧ w'.cell? ⟨w.heap.size + 1, 2, none⟩ = some (.slice B' m' d') ∧ w'.cell? ⟨w.heap.size + 1, 3, none⟩ = some (.bool t') ∧ w'.cell? ⟨w.heap.size + 1, 4, none⟩ = some (.slice C' i' e') ∧ w'.cell? ⟨w.heap.size + 1, 5, none⟩ = some (.slice D' j' f')) ∧ (w'.cell? ⟨w.heap.size + 1 + 1, 0, none⟩ = some (cellD w' (w.heap.size + 1 + 1) 0) ∧ w'.cell? ⟨w.heap.size + 1 + 1, 1, none⟩ = some (cellD w' (w.heap.size + 1 + 1) 1) ∧ w'.cell? ⟨w.heap.size + 1 + 1, 2, none⟩ = some (cellD w' (w.heap.size + 1 + 1) 2) ∧ w'.cell? ⟨w.heap.size + 1 + 1, 3, none⟩ = some (cellD w' (w.heap.size + 1 + 1) 3) ∧ w'.cell? ⟨w.heap.size + 1 + 1, 4, none⟩ = some (cellD w' (w.heap.size + 1 + 1) 4) ∧ w'.cell? ⟨w.heap.size + 1 + 1, 5, none⟩ = some (cellD w' (w.heap.size + 1 + 1) 5)) ∧ w'.frozen? ⟨w.heap.size + 1 + 1, 0, none⟩ = false ∧ w'.frozen? ⟨w.heap.size + 1 + 1, 1, none⟩ = false ∧ w'.frozen? ⟨w.heap.size + 1 + 1, 2, none⟩ = false ∧ w'.frozen? ⟨w.heap.size + 1 + 1, 3, none⟩ = false ∧ w'.frozen? ⟨w.heap.size + 1 + 1, 4, none⟩ = false ∧ w'.frozen? ⟨w.heap.size + 1 + 1, 5, none⟩ = false) (first | exact ⟨bx3 (T := 29) bts, bx6 (T := 31) bts, Wk.out6 (T := 31) bts⟩) (first | (go_at_call 49; with_reducible refine (RatMul_any _ (h.bl slc) (h'.bl slc)).mono ?_; rintro en w2 ⟨s2, A2, n2, c2, B2, m2, d2, rfl, hR2, hb2⟩) | (go_at_call 49; with_reducible refine (RatMul_any _ (h.bl slc) (k'.bl slc)).mono ?_; rintro en w3 ⟨s3, A3, n3, c3, B3, m3, d3, rfl, hR3, hb3⟩) | (go_at_call 77; refine (ifPoint_any (p := ⟨mulR r p'.x, mulR r p'.y⟩) _ (OwP.two hR2 hR3 hb3 (Bl.size hb2))).mono ?_; rintro en w4 ⟨s1, A1, n1, c1, B1, m1, d1, t1, C1, i1, e1, D1, j1, f1, rfl, hX, hb4⟩))
  have hz : w.heap.size + 1 + 1 + 1 ≤ W.heap.size := hr.lt
  have hr := (show Wk 6 31 (w.heap.size + 1 + 1) w4 from bts)
  have hbW : Bl w w4 := slc
  have hX := hX.low (show w.heap.size + 1 + 1 + 1 ≤ W.drew.heap.size from hz)
  obtain ⟨v0, x0⟩ := hr.val_ (i := 0) (by omega)
  obtain ⟨v1, x1⟩ := hr.val_ (i := 1) (by omega)
  obtain ⟨v2, x2⟩ := hr.val_ (i := 2) (by omega)
  obtain ⟨v3, x3⟩ := hr.val_ (i := 3) (by omega)
  obtain ⟨v4, x4⟩ := hr.val_ (i := 4) (by omega)
  obtain ⟨v5, x5⟩ := hr.val_ (i := 5) (by omega)
  have hg := hr.lt
  obtain ⟨cs4, hB4, hc4⟩ := hr
  have hf0 := hB4.frozen 0
  have hf1 := hB4.frozen 1
  have hf2 := hB4.frozen 2
  have hf3 := hB4.frozen 3
  have hf4 := hB4.frozen 4
  have hf5 := hB4.frozen 5
  go_wp2_with fail
  exact bodyPost_ret (v := .agg #[.bool s1, .slice A1 n1 c1, .slice B1 m1 d1, .bool t1, .slice C1 i1 e1, .slice D1 j1 f1]) (by simp [results, Tryz.results19, go_sem, x0, x1, x2, x3, x4, x5]) rfl ⟨_, _, _, _, _, _, _, _, _, _, _, _, _, _, rfl, ((((((hX.far (by simp) _).far (by simp) _).far (by simp) _).far (by simp) _).far (by simp) _).far (by simp) _).low (by omega), slc⟩

noncomputable def midP (p q : PtD) : PtD := sclP (ofFrac 1 2) (addP p q)
set_option maxRecDepth 100000 in
set_option maxHeartbeats 2000000 in
theorem Middle_any (w : World) {s : Bool} {A : Option Addr} {n c : Nat} {B : Option Addr} {m d : Nat} {t : Bool} {C : Option Addr} {i e : Nat} {D : Option Addr} {j f : Nat} {p : PtD} {s' : Bool} {A' : Option Addr} {n' c' : Nat} {B' : Option Addr} {m' d' : Nat} {t' : Bool} {C' : Option Addr} {i' e' : Nat} {D' : Option Addr} {j' f' : Nat} {p' : PtD} (h : RdR w s A n c B m d p.x) (k : RdR w t C i e D j f p.y) (h' : RdR w s' A' n' c' B' m' d' p'.x) (k' : RdR w t' C' i' e' D' j' f' p'.y) :
    Calls Tryz.prog 26 #[.agg #[.bool s, .slice A n c, .slice B m d, .bool t, .slice C i e, .slice D j f], .agg #[.bool s', .slice A' n' c', .slice B' m' d', .bool t', .slice C' i' e', .slice D' j' f']] w fun en w' => ∃ s1 A1 n1 c1 B1 m1 d1 t1 C1 i1 e1 D1 j1 f1, en = .returned (.agg #[.bool s1, .slice A1 n1 c1, .slice B1 m1 d1, .bool t1, .slice C1 i1 e1, .slice D1 j1 f1]) ∧ OwP 3 w.heap.size w' s1 A1 n1 c1 B1 m1 d1 t1 C1 i1 e1 D1 j1 f1 (midP p p') ∧ Bl w w' := by
  go_enter Tryz.func26, Tryz.ntmps26
  go_wp2_with fail
  refine wp_gen (fun W => Bl w W ∧ Blk W (w.heap.size) 31 #[.bool s, .slice A n c, .slice B m d, .bool t, .slice C i e, .slice D j f] ∧ Blk W (w.heap.size + 1) 31 #[.bool s', .slice A' n' c', .slice B' m' d', .bool t', .slice C' i' e', .slice D' j' f'] ∧ Wk 6 31 (w.heap.size + 1 + 1) W) ⟨slc, bts, bts, bts⟩ ?_
  rintro W ⟨hbW, hx, hx', hr⟩
  go_region_held3 (fun w' => (w'.cell? ⟨w.heap.size, 0, none⟩ = some (.bool s) ∧ w'.cell? ⟨w.heap.size, 1, none⟩ = some (.slice A n c) ∧ w'.cell? ⟨w.heap.size, 2, none⟩ = some (.slice B m d) ∧ w'.cell? ⟨w.heap.size, 3, none⟩ = some (.bool t) ∧ w'.cell? ⟨w.heap.size, 4, none⟩ = some (.slice C i e) ∧ w'.cell? ⟨w.heap.size, 5, none⟩ = some (.slice D j f)) ∧ (w'.cell? ⟨w.heap.size + 1, 0, none⟩ = some (.bool s') ∧ w'.cell? ⟨w.heap.size + 1, 1, none⟩ = some (.slice A' n' c') ∧ w'.cell? ⟨w.heap.size + 1, 2, none⟩ = some (.slice B' m' d') ∧ w'.cell? ⟨w.heap.size + 1, 3, none⟩ = some (.bool t') ∧ w'.cell? ⟨w.heap.size + 1, 4, none⟩ = some (.slice C' i' e') ∧ w'.cell? ⟨w.heap.size + 1, 5, none⟩ = some (.slice D' j' f')) ∧ (w'.cell? ⟨w.heap.size + 1 + 1, 0, none⟩ = some (cellD w' (w.heap.size + 1 + 1) 0) ∧ w'.cell? ⟨w.heap.size + 1 + 1, 1, none⟩ = some (cellD w' (w.heap.size + 1 + 1) 1) ∧ w'.cell? ⟨w.heap.size + 1 + 1, 2, none⟩ = some (cellD w' (w.heap.size + 1 + 1) 2) ∧ w'.cell? ⟨w.heap.size + 1 + 1, 3, none⟩ = some (cellD w' (w.heap.size + 1 + 1) 3) ∧ w'.cell? ⟨w.heap.size + 1 + 1, 4, none⟩ = some (cellD w' (w.heap.size + 1 + 1) 4) ∧ w'.cell? ⟨w.heap.size + 1 + 1, 5, none⟩ = some (cellD w' (w.heap.size + 1 + 1) 5)) ∧ w'.frozen? ⟨w.heap.size + 1 + 1, 0, none⟩ = false ∧ w'.frozen? ⟨w.heap.size + 1 + 1, 1, none⟩ = false ∧ w'.frozen? ⟨w.heap.size + 1 + 1, 2, none⟩ = false ∧ w'.frozen? ⟨w.heap.size + 1 + 1, 3, none⟩ = false ∧ w'.frozen? ⟨w.heap.size + 1 + 1, 4, none⟩ = false ∧ w'.frozen? ⟨w.heap.size + 1 + 1, 5, none⟩ = false) (first | exact ⟨bx6 (T := 31) bts, bx6 (T := 31) bts, Wk.out6 (T := 31) bts⟩) (first | (go_at_call 50; with_reducible refine (RatOf_any _ 1 2 (by omega) (by omega) (by omega) (by omega)).mono ?_; rintro en w2 ⟨s2, A2, n2, c2, B2, m2, d2, rfl, hR2, hb2⟩) | (go_at_call 18; with_reducible refine (AddPoints_any _ (h.bl slc) (k.bl slc) (h'.bl slc) (k'.bl slc)).mono ?_; rintro en w3 ⟨s3, A3, n3, c3, B3, m3, d3, t3, C3, i3, e3, D3, j3, f3, rfl, hP3, hb3⟩) | (go_at_call 19; refine (ScalePoint_any _ (hR2.rd.bl slc) (hP3.rx.bl slc) (hP3.ry.bl slc)).mono ?_; rintro en w4 ⟨s1, A1, n1, c1, B1, m1, d1, t1, C1, i1, e1, D1, j1, f1, rfl, hX, hb4⟩; replace hX := hX.low (show W.drew.heap.size ≤ _ from Bl.size (by exact slc))))
  have hz : w.heap.size + 1 + 1 + 1 ≤ W.heap.size := hr.lt
  have hr := (show Wk 6 31 (w.heap.size + 1 + 1) w4 from bts)
  have hbW : Bl w w4 := slc
  have hX := hX.low (show w.heap.size + 1 + 1 + 1 ≤ W.drew.heap.size from hz)
  obtain ⟨v0, x0⟩ := hr.val_ (i := 0) (by omega)
  obtain ⟨v1, x1⟩ := hr.val_ (i := 1) (by omega)
  obtain ⟨v2, x2⟩ := hr.val_ (i := 2) (by omega)
  obtain ⟨v3, x3⟩ := hr.val_ (i := 3) (by omega)
  obtain ⟨v4, x4⟩ := hr.val_ (i := 4) (by omega)
  obtain ⟨v5, x5⟩ := hr.val_ (i := 5) (by omega)
  have hg := hr.lt
  obtain ⟨cs4, hB4, hc4⟩ := hr
  have hf0 := hB4.frozen 0
  have hf1 := hB4.frozen 1
  have hf2 := hB4.frozen 2
  have hf3 := hB4.frozen 3
  have hf4 := hB4.frozen 4
  have hf5 := hB4.frozen 5
  go_wp2_with fail
  exact bodyPost_ret (v := .agg #[.bool s1, .slice A1 n1 c1, .slice B1 m1 d1, .bool t1, .slice C1 i1 e1, .slice D1 j1 f1]) (by simp [results, Tryz.results26, go_sem, x0, x1, x2, x3, x4, x5]) rfl ⟨_, _, _, _, _, _, _, _, _, _, _, _, _, _, rfl, ((((((hX.far (by simp) _).far (by simp) _).far (by simp) _).far (by simp) _).far (by simp) _).far (by simp) _).low (by omega), slc⟩

noncomputable def cenP (p0 p1 p2 : PtD) : PtD := sclP (ofFrac 1 3) (addP (addP p0 p1) p2)
set_option maxRecDepth 100000 in
set_option maxHeartbeats 4000000 in
theorem Centroid_yes (w : World) {g c0 : Nat} {p0 p1 p2 : PtD} (h : RdPS w (some ⟨g, 0, none⟩) 3 c0 [p0, p1, p2]) (hp : Hid (propB [p0, p1, p2] = true)) :
    Calls Tryz.prog 25 #[.slice (some ⟨g, 0, none⟩) 3 c0] w fun en w' => ∃ s1 A1 n1 c1 B1 m1 d1 t1 C1 i1 e1 D1 j1 f1, en = .returned (.agg #[.bool s1, .slice A1 n1 c1, .slice B1 m1 d1, .bool t1, .slice C1 i1 e1, .slice D1 j1 f1]) ∧ OwP 3 w.heap.size w' s1 A1 n1 c1 B1 m1 d1 t1 C1 i1 e1 D1 j1 f1 (cenP p0 p1 p2) ∧ Bl w w' := by
  obtain ⟨_, e0, hg, hc0⟩ := h.cells 0 (by omega)
  cases e0
  rw [Addr.add_lit] at hc0
  obtain ⟨s, A, n, c, B, m, d, t, C, i, e, D, j, f, ⟨x0, x1, x2, x3, x4, x5⟩, hX0, hY0⟩ := (show PtAt w ⟨g, 0, none⟩ p0 from hc0)
  have x0 : w.cell? ⟨g, 0, none⟩ = some (.bool s) := x0
  have x1 : w.cell? ⟨g, 1, none⟩ = some (.slice A n c) := x1
  have x2 : w.cell? ⟨g, 2, none⟩ = some (.slice B m d) := x2
  have x3 : w.cell? ⟨g, 3, none⟩ = some (.bool t) := x3
  have x4 : w.cell? ⟨g, 4, none⟩ = some (.slice C i e) := x4
  have x5 : w.cell? ⟨g, 5, none⟩ = some (.slice D j f) := x5
  obtain ⟨_, e0, hg, hc1⟩ := h.cells 1 (by omega)
  cases e0
  rw [Addr.add_lit] at hc1
  obtain ⟨s', A', n', c', B', m', d', t', C', i', e', D', j', f', ⟨y0, y1, y2, y3, y4, y5⟩, hX1, hY1⟩ := (show PtAt w ⟨g, 6, none⟩ p1 from hc1)
  have y0 : w.cell? ⟨g, 6, none⟩ = some (.bool s') := y0
  have y1 : w.cell? ⟨g, 7, none⟩ = some (.slice A' n' c') := y1
  have y2 : w.cell? ⟨g, 8, none⟩ = some (.slice B' m' d') := y2
  have y3 : w.cell? ⟨g, 9, none⟩ = some (.bool t') := y3
  have y4 : w.cell? ⟨g, 10, none⟩ = some (.slice C' i' e') := y4
  have y5 : w.cell? ⟨g, 11, none⟩ = some (.slice D' j' f') := y5
  obtain ⟨_, e0, hg, hc2⟩ := h.cells 2 (by omega)
  cases e0
  rw [Addr.add_lit] at hc2
  obtain ⟨s2, A2, n2, c2, B2, m2, d2, t2, C2, i2, e2, D2, j2, f2, ⟨z0, z1, z2, z3, z4, z5⟩, hX2, hY2⟩ := (show PtAt w ⟨g, 12, none⟩ p2 from hc2)
  have z0 : w.cell? ⟨g, 12, none⟩ = some (.bool s2) := z0
  have z1 : w.cell? ⟨g, 13, none⟩ = some (.slice A2 n2 c2) := z1
  have z2 : w.cell? ⟨g, 14, none⟩ = some (.slice B2 m2 d2) := z2
  have z3 : w.cell? ⟨g, 15, none⟩ = some (.bool t2) := z3
  have z4 : w.cell? ⟨g, 16, none⟩ = some (.slice C2 i2 e2) := z4
  have z5 : w.cell? ⟨g, 17, none⟩ = some (.slice D2 j2 f2) := z5
  clear hc0 hc1 hc2
  go_enter Tryz.func25, Tryz.ntmps25
  go_wp2_with fail
  refine calls_gen (fun W => Bl w W ∧ Wk 6 31 w.heap.size W) ⟨slc, bts⟩ ?_
  rintro W0 ⟨hb0, hr⟩
  refine (IsProper_any _ (RdPS.bl h hb0)).mono ?_
  rw [hp.out]
  rintro e W ⟨rfl, hb1⟩
  have hr := hr.bl hb1
  have hbW := hb0.next hb1
  clear hb0 hb1
  obtain ⟨⟨q0, q1, q2, q3, q4, q5⟩, fz0, fz1, fz2, fz3, fz4, fz5⟩ := hr.out6
  go_wp2_with fail
  go_region_held3 (fun w' => (w'.cell? ⟨g, 0, none⟩ = some (.bool s) ∧ w'.cell? ⟨g, 1, none⟩ = some (.slice A n c) ∧ w'.cell? ⟨g, 2, none⟩ = some (.slice B m d) ∧ w'.cell? ⟨g, 3, none⟩ = some (.bool t) ∧ w'.cell? ⟨g, 4, none⟩ = some (.slice C i e) ∧ w'.cell? ⟨g, 5, none⟩ = some (.slice D j f)) ∧ (w'.cell? ⟨g, 6, none⟩ = some (.bool s') ∧ w'.cell? ⟨g, 7, none⟩ = some (.slice A' n' c') ∧ w'.cell? ⟨g, 8, none⟩ = some (.slice B' m' d') ∧ w'.cell? ⟨g, 9, none⟩ = some (.bool t') ∧ w'.cell? ⟨g, 10, none⟩ = some (.slice C' i' e') ∧ w'.cell? ⟨g, 11, none⟩ = some (.slice D' j' f')) ∧ (w'.cell? ⟨g, 12, none⟩ = some (.bool s2) ∧ w'.cell? ⟨g, 13, none⟩ = some (.slice A2 n2 c2) ∧ w'.cell? ⟨g, 14, none⟩ = some (.slice B2 m2 d2) ∧ w'.cell? ⟨g, 15, none⟩ = some (.bool t2) ∧ w'.cell? ⟨g, 16, none⟩ = some (.slice C2 i2 e2) ∧ w'.cell? ⟨g, 17, none⟩ = some (.slice D2 j2 f2)) ∧ (w'.cell? ⟨w.heap.size, 0, none⟩ = some (cellD w' (w.heap.size) 0) ∧ w'.cell? ⟨w.heap.size, 1, none⟩ = some (cellD w' (w.heap.size) 1) ∧ w'.cell? ⟨w.heap.size, 2, none⟩ = some (cellD w' (w.heap.size) 2) ∧ w'.cell? ⟨w.heap.size, 3, none⟩ = some (cellD w' (w.heap.size) 3) ∧ w'.cell? ⟨w.heap.size, 4, none⟩ = some (cellD w' (w.heap.size) 4) ∧ w'.cell? ⟨w.heap.size, 5, none⟩ = some (cellD w' (w.heap.size) 5)) ∧ w'.frozen? ⟨w.heap.size, 0, none⟩ = false ∧ w'.frozen? ⟨w.heap.size, 1, none⟩ = false ∧ w'.frozen? ⟨w.heap.size, 2, none⟩ = false ∧ w'.frozen? ⟨w.heap.size, 3, none⟩ = false ∧ w'.frozen? ⟨w.heap.size, 4, none⟩ = false ∧ w'.frozen? ⟨w.heap.size, 5, none⟩ = false) (first | exact ⟨⟨(Bl.cellOf (w := w) (p := ⟨g, 0, none⟩) slc hg).trans x0, (Bl.cellOf (w := w) (p := ⟨g, 1, none⟩) slc hg).trans x1, (Bl.cellOf (w := w) (p := ⟨g, 2, none⟩) slc hg).trans x2, (Bl.cellOf (w := w) (p := ⟨g, 3, none⟩) slc hg).trans x3, (Bl.cellOf (w := w) (p := ⟨g, 4, none⟩) slc hg).trans x4, (Bl.cellOf (w := w) (p := ⟨g, 5, none⟩) slc hg).trans x5⟩, ⟨(Bl.cellOf (w := w) (p := ⟨g, 6, none⟩) slc hg).trans y0, (Bl.cellOf (w := w) (p := ⟨g, 7, none⟩) slc hg).trans y1, (Bl.cellOf (w := w) (p := ⟨g, 8, none⟩) slc hg).trans y2, (Bl.cellOf (w := w) (p := ⟨g, 9, none⟩) slc hg).trans y3, (Bl.cellOf (w := w) (p := ⟨g, 10, none⟩) slc hg).trans y4, (Bl.cellOf (w := w) (p := ⟨g, 11, none⟩) slc hg).trans y5⟩, ⟨(Bl.cellOf (w := w) (p := ⟨g, 12, none⟩) slc hg).trans z0, (Bl.cellOf (w := w) (p := ⟨g, 13, none⟩) slc hg).trans z1, (Bl.cellOf (w := w) (p := ⟨g, 14, none⟩) slc hg).trans z2, (Bl.cellOf (w := w) (p := ⟨g, 15, none⟩) slc hg).trans z3, (Bl.cellOf (w := w) (p := ⟨g, 16, none⟩) slc hg).trans z4, (Bl.cellOf (w := w) (p := ⟨g, 17, none⟩) slc hg).trans z5⟩, Wk.out6 (T := 31) bts⟩) (first | (go_at_call 50; with_reducible refine (RatOf_any _ 1 3 (by omega) (by omega) (by omega) (by omega)).mono ?_; rintro en w2 ⟨s2_, A2_, n2_, c2_, B2_, m2_, d2_, rfl, hR2, hb2⟩) | (go_at_call 18; with_reducible refine (AddPoints_any _ (hX0.bl slc) (hY0.bl slc) (hX1.bl slc) (hY1.bl slc)).mono ?_; rintro en w3 ⟨s3, A3, n3, c3, B3, m3, d3, t3, C3, i3, e3, D3, j3, f3, rfl, hP3, hb3⟩) | (go_at_call 18; with_reducible refine (AddPoints_any _ (hP3.rx.bl slc) (hP3.ry.bl slc) (hX2.bl slc) (hY2.bl slc)).mono ?_; rintro en w4 ⟨s4, A4, n4, c4, B4, m4, d4, t4, C4, i4, e4, D4, j4, f4, rfl, hP4, hb4⟩) | (go_at_call 19; refine (ScalePoint_any _ (hR2.rd.bl slc) (hP4.rx.bl slc) (hP4.ry.bl slc)).mono ?_; rintro en w5 ⟨s1, A1, n1, c1, B1, m1, d1, t1, C1, i1, e1, D1, j1, f1, rfl, hX, hb5⟩; replace hX := hX.low (show W.drew.heap.size ≤ _ from Bl.size (by exact slc))))
  have hz : w.heap.size + 1 ≤ W.heap.size := hr.lt
  have hr := (show Wk 6 31 (w.heap.size) w5 from bts)
  have hbW : Bl w w5 := slc
  have hX := hX.low (show w.heap.size + 1 ≤ W.drew.heap.size from hz)
  obtain ⟨v0, x0⟩ := hr.val_ (i := 0) (by omega)
  obtain ⟨v1, x1⟩ := hr.val_ (i := 1) (by omega)
  obtain ⟨v2, x2⟩ := hr.val_ (i := 2) (by omega)
  obtain ⟨v3, x3⟩ := hr.val_ (i := 3) (by omega)
  obtain ⟨v4, x4⟩ := hr.val_ (i := 4) (by omega)
  obtain ⟨v5, x5⟩ := hr.val_ (i := 5) (by omega)
  have hg := hr.lt
  obtain ⟨cs4, hB4, hc4⟩ := hr
  have hf0 := hB4.frozen 0
  have hf1 := hB4.frozen 1
  have hf2 := hB4.frozen 2
  have hf3 := hB4.frozen 3
  have hf4 := hB4.frozen 4
  have hf5 := hB4.frozen 5
  go_wp2_with fail
  exact bodyPost_ret (v := .agg #[.bool s1, .slice A1 n1 c1, .slice B1 m1 d1, .bool t1, .slice C1 i1 e1, .slice D1 j1 f1]) (by simp [results, Tryz.results25, go_sem, x0, x1, x2, x3, x4, x5]) rfl ⟨_, _, _, _, _, _, _, _, _, _, _, _, _, _, rfl, ((((((hX.far (by simp) _).far (by simp) _).far (by simp) _).far (by simp) _).far (by simp) _).far (by simp) _).low (by omega), slc⟩
end

section
open Go.RowKit

/-- Numerator and denominator are at most 10 ^ k. -/
def B10 (k : Nat) (q : Rat) : Prop := Bd (10 ^ k) q
theorem ten_lt {k : Nat} (hk : k < 216) : 10 ^ k < Bs ^ 24 := by
  have h1 : (10 : Nat) ^ k ≤ 10 ^ 215 := Nat.pow_le_pow_right (by omega) (by omega)
  exact Nat.lt_of_le_of_lt h1 (by decide)
section
variable {a b k : Nat} {p q : Rat}
theorem B10.fit (h : B10 k q) (hk : k < 216) : Fit q := Bd.fit h (ten_lt hk)
theorem B10.mono (h : B10 a q) (hk : a ≤ b) : B10 b q := Bd.mono h (Nat.pow_le_pow_right (by omega) hk)
theorem B10.of {N : Nat} (h : Bd N q) (hk : N ≤ 10 ^ k) : B10 k q := Bd.mono h hk
theorem B10.add (h : B10 a p) (k : B10 b q) : B10 (a + b + 1) (p + q) := (Bd.add h k).mono (by rw [Nat.pow_succ, Nat.pow_add]; omega)
theorem B10.sub (h : B10 a p) (k : B10 b q) : B10 (a + b + 1) (p - q) := (Bd.sub h k).mono (by rw [Nat.pow_succ, Nat.pow_add]; omega)
theorem B10.mul (h : B10 a p) (k : B10 b q) : B10 (a + b) (p * q) := (Bd.mul h k).mono (by rw [Nat.pow_add]; exact Nat.le_refl _)
theorem B10.div (h : B10 a p) (k : B10 b q) : B10 (a + b) (p / q) := (Bd.div h k).mono (by rw [Nat.pow_add]; exact Nat.le_refl _)
theorem B10.neg (h : B10 a p) : B10 a (-p) := Bd.neg h
theorem addR_b (h : B10 a p) (k : B10 b q) (hk : a + b + 1 < 216) : addR (toR p) (toR q) = toR (p + q) := addR_toR (h.fit (by omega)) (k.fit (by omega)) ((h.add k).fit hk)
theorem subR_b (h : B10 a p) (k : B10 b q) (hk : a + b + 1 < 216) : subR (toR p) (toR q) = toR (p - q) := subR_toR (h.fit (by omega)) (k.fit (by omega)) ((h.sub k).fit hk)
theorem mulR_b (h : B10 a p) (k : B10 b q) (hk : a + b < 216) : mulR (toR p) (toR q) = toR (p * q) := mulR_toR (h.fit (by omega)) (k.fit (by omega)) ((h.mul k).fit hk)
theorem divR_b (h : B10 a p) (k : B10 b q) (h0 : q ≠ 0) (hk : a + b < 216) : divR (toR p) (toR q) = toR (p / q) := divR_toR (h.fit (by omega)) (k.fit (by omega)) h0 ((h.div k).fit hk)
theorem frac_b (x : Int) (D : Nat) (hD : 0 < D) (hx : x.natAbs ≤ 10 ^ k) (hn : D ≤ 10 ^ k) (hk : k < 216) : ofFrac x D = toR (mkRat x D) ∧ B10 k (mkRat x D) := by
  have hb : B10 k (mkRat x D) := bd_mk hD hx hn
  exact ⟨by rw [ofFrac_toR x hD, if_pos (hb.fit hk)], hb⟩
theorem int_b (x : Int) (hx : x.natAbs ≤ 10 ^ k) (hk : k < 216) : ofFrac x 1 = toR (x : Rat) ∧ B10 k (x : Rat) := by
  have e : mkRat x 1 = (x : Rat) := by rw [Rat.mkRat_one]
  obtain ⟨h1, h2⟩ := frac_b x 1 (by omega) hx (Nat.one_le_pow _ _ (by omega)) hk
  rw [e] at h1 h2
  exact ⟨h1, h2⟩
theorem sgn_b (h : B10 k q) (hk : k < 216) : sgnR (toR q) = if q < 0 then -1 else if 0 < q then 1 else 0 := sgnR_toR (h.fit hk)
end
section
variable {a b c k : Nat} {x y u v p q : Rat}
theorem ifP_b (hx : B10 a x) (hy : B10 a y) (hk : a < 216) : ifP (toP x y) = toP x y := ifP_toP (hx.fit hk) (hy.fit hk)
theorem okP_b (hx : B10 a x) (hy : B10 a y) (hk : a < 216) : OkP (toP x y) := ⟨(hx.fit hk).ok, (hy.fit hk).ok⟩
theorem addP_b (hx : B10 a x) (hy : B10 a y) (hu : B10 b u) (hv : B10 b v) (hk : a + b + 1 < 216) : addP (toP x y) (toP u v) = toP (x + u) (y + v) := by
  show ifP ⟨addR (toR x) (toR u), addR (toR y) (toR v)⟩ = _
  rw [addR_b hx hu hk, addR_b hy hv hk]
  exact ifP_b (hx.add hu) (hy.add hv) hk
theorem subP_b (hx : B10 a x) (hy : B10 a y) (hu : B10 b u) (hv : B10 b v) (hk : a + b + 1 < 216) : subP (toP x y) (toP u v) = toP (x - u) (y - v) := by
  show ifP ⟨subR (toR x) (toR u), subR (toR y) (toR v)⟩ = _
  rw [subR_b hx hu hk, subR_b hy hv hk]
  exact ifP_b (hx.sub hu) (hy.sub hv) hk
theorem sclP_b (hq : B10 b q) (hx : B10 a x) (hy : B10 a y) (hk : b + a < 216) : sclP (toR q) (toP x y) = toP (q * x) (q * y) := by
  show ifP ⟨mulR (toR q) (toR x), mulR (toR q) (toR y)⟩ = _
  rw [mulR_b hq hx hk, mulR_b hq hy hk]
  exact ifP_b (hq.mul hx) (hq.mul hy) hk
theorem dblA_b {x0 y0 x1 y1 x2 y2 : Rat} (a0 : B10 k x0) (b0 : B10 k y0) (a1 : B10 k x1) (b1 : B10 k y1) (a2 : B10 k x2) (b2 : B10 k y2) (hk : 8 * k + 5 < 216) :
    dblA (toP x0 y0) (toP x1 y1) (toP x2 y2) = toR (detQ x0 y0 x1 y1 x2 y2) ∧ B10 (8 * k + 5) (detQ x0 y0 x1 y1 x2 y2) := by
  have s1 := a1.sub a0
  have s2 := b1.sub b0
  have s3 := a2.sub a0
  have s4 := b2.sub b0
  have m1 := s1.mul s4
  have m2 := s2.mul s3
  refine ⟨?_, (m1.sub m2).mono (by omega)⟩
  unfold dblA
  rw [subP_b a1 b1 a0 b0 (by omega), subP_b a2 b2 a0 b0 (by omega)]
  show subR (mulR (toR (x1 - x0)) (toR (y2 - y0))) (mulR (toR (y1 - y0)) (toR (x2 - x0))) = _
  rw [mulR_b s1 s4 (by omega), mulR_b s2 s3 (by omega), subR_b m1 m2 (by omega)]
  rfl
theorem sgn_pos (h : B10 k q) (hk : k < 216) (h0 : 0 < q) : sgnR (toR q) = 1 := by
  rw [sgn_b h hk, if_neg (by grind), if_pos h0]
theorem sgn_zero (h : B10 k q) (hk : k < 216) (h0 : q = 0) : sgnR (toR q) = 0 := by
  rw [sgn_b h hk, if_neg (by grind), if_neg (by grind)]
end
end

section
open Go.RowKit

theorem propB_fix : propB [⟨ofFrac 0 1, ofFrac 0 1⟩, ⟨ofFrac 2 1, ofFrac 0 1⟩, ⟨ofFrac 0 1, ofFrac 1 1⟩] = true := by
  obtain ⟨e0, b0⟩ := ofFrac_sm 0 1 (by omega) (by decide) (by omega)
  obtain ⟨e1, b1⟩ := ofFrac_sm 1 1 (by omega) (by decide) (by omega)
  obtain ⟨e2, b2⟩ := ofFrac_sm 2 1 (by omega) (by decide) (by omega)
  rw [e0, e1, e2]
  have f0 := (b0.fit (by decide)).ok
  have f1 := (b1.fit (by decide)).ok
  have f2 := (b2.fit (by decide)).ok
  refine propB_yes ⟨?_, _, _, _, rfl, ?_⟩
  · intro k hk
    simp only [List.length_cons, List.length_nil] at hk
    rcases (show k = 0 ∨ k = 1 ∨ k = 2 by omega) with rfl | rfl | rfl
    · exact ⟨f0, f0⟩
    · exact ⟨f2, f0⟩
    · exact ⟨f0, f1⟩
  · obtain ⟨e, h⟩ := dblA_toP b0 b0 b2 b0 b0 b1
    rw [show (⟨toR (mkRat 0 1), toR (mkRat 0 1)⟩ : PtD) = toP (mkRat 0 1) (mkRat 0 1) from rfl, show (⟨toR (mkRat 2 1), toR (mkRat 0 1)⟩ : PtD) = toP (mkRat 2 1) (mkRat 0 1) from rfl, show (⟨toR (mkRat 0 1), toR (mkRat 1 1)⟩ : PtD) = toP (mkRat 0 1) (mkRat 1 1) from rfl, e, sgnR_toR (h.fit (by decide))]
    rw [show detQ (mkRat 0 1) (mkRat 0 1) (mkRat 2 1) (mkRat 0 1) (mkRat 0 1) (mkRat 1 1) = 2 from by decide +kernel]
    decide

def TriRes (w : World) (g : Nat) (en : Ending) (w' : World) : Prop := ∃ h c1 p0 p1 p2, en = .returned (.slice (some ⟨h, 0, none⟩) 3 c1) ∧ RdPS w' (some ⟨h, 0, none⟩) 3 c1 [p0, p1, p2] ∧ propB [p0, p1, p2] = true ∧ PtS p0 ∧ PtS p1 ∧ PtS p2 ∧ Ob [g] w w'
theorem Ob.bl {bs : List Nat} {w W W2 : World} (h : Ob bs w W) (hb : Bl W W2) : Ob bs w W2 := h.trans (Ob.of_bl hb _)
set_option maxRecDepth 100000 in
set_option maxHeartbeats 4000000 in
theorem l06Draw_any (w : World) {g n c : Nat} {A : Option Addr} {l : List Int} (hC : Cur g w A n c l) :
    Calls Tryz.prog 69 #[.pointer (some ⟨g, 0, none⟩)] w (TriRes w g) := by
  go_enter Tryz.func69, Tryz.ntmps69
  go_wp2_with fail
  go_loopw [3] (fun i wr => ∃ k : Nat, k ≤ 6 ∧ i = .int .i64 (k : Int) ∧ Cur g wr A n c l ∧ Ob [g] w wr) (fun i _ => 6 - (intOf i).toNat)
  case atStart => exact ⟨0, Nat.zero_le _, rfl, hC, Ob.refl _ _⟩
  case round =>
    clear hC
    obtain ⟨k, hk, rfl, hC, hO⟩ := hrel
    by_cases hk6 : k < 6
    · have hki : (k : Int) < 6 := by omega
      have hg0 := hC.lt
      go_wp2_with fail
      refine (l05Point_any _ hC).mono ?_
      rintro e u0 ⟨s4, A4, n4, c4, B4, m4, d4, t4, C4, i4, e4, D4, j4, f4, p0, rfl, hP0, hS0, hC0, hO0⟩
      have hz0 := hO0.size
      go_wp2_with fail
      refine (l05Point_any _ hC0).mono ?_
      rintro e u1 ⟨s5, A5, n5, c5, B5, m5, d5, t5, C5, i5, e5, D5, j5, f5, p1, rfl, hP1, hS1, hC1, hO1⟩
      have hz1 := hO1.size
      go_wp2_with fail
      refine (l05Point_any _ hC1).mono ?_
      rintro e u2 ⟨s6, A6, n6, c6, B6, m6, d6, t6, C6, i6, e6, D6, j6, f6, p2, rfl, hP2, hS2, hC2, hO2⟩
      have hP0 := (hP0.ob' hO1 hg0).ob' hO2 hg0
      have hP1 := hP1.ob' hO2 (by omega)
      have hO := ((hO.trans hO0).trans hO1).trans hO2
      clear hC hC0 hC1 hO0 hO1 hO2
      go_wp2_with fail
      refine calls_gen (fun W => Blk W u2.heap.size 31 #[.bool s4, .slice A4 n4 c4, .slice B4 m4 d4, .bool t4, .slice C4 i4 e4, .slice D4 j4 f4, .bool s5, .slice A5 n5 c5, .slice B5 m5 d5, .bool t5, .slice C5 i5 e5, .slice D5 j5 f5, .bool s6, .slice A6 n6 c6, .slice B6 m6 d6, .bool t6, .slice C6 i6 e6, .slice D6 j6 f6] ∧ Bl u2 W) ⟨Blk.new _ _ _, slc⟩ ?_
      rintro W ⟨hB, hbW⟩
      have hx0 := (hP0.bl' hbW).rdx.1
      have hy0 := (hP0.bl' hbW).rdx.2
      have hx1 := (hP1.bl' hbW).rdx.1
      have hy1 := (hP1.bl' hbW).rdx.2
      have hx2 := (hP2.bl' hbW).rdx.1
      have hy2 := (hP2.bl' hbW).rdx.2
      have hC := hC2.bl hbW
      have hO := hO.bl hbW
      clear hP0 hP1 hP2 hC2 hbW
      have hL : RdPS W (some ⟨u2.heap.size, 0, none⟩) 3 3 [p0, p1, p2] := by
        refine ⟨rfl, by omega, by omega, fun k hk => ?_⟩
        rcases (show k = 0 ∨ k = 1 ∨ k = 2 by omega) with rfl | rfl | rfl
        · exact ⟨_, rfl, hB.lt, _, _, _, _, _, _, _, _, _, _, _, _, _, _, ⟨(hB.cell 0).trans rfl, (hB.cell 1).trans rfl, (hB.cell 2).trans rfl, (hB.cell 3).trans rfl, (hB.cell 4).trans rfl, (hB.cell 5).trans rfl⟩, hx0, hy0⟩
        · exact ⟨_, rfl, hB.lt, _, _, _, _, _, _, _, _, _, _, _, _, _, _, ⟨(hB.cell 6).trans rfl, (hB.cell 7).trans rfl, (hB.cell 8).trans rfl, (hB.cell 9).trans rfl, (hB.cell 10).trans rfl, (hB.cell 11).trans rfl⟩, hx1, hy1⟩
        · exact ⟨_, rfl, hB.lt, _, _, _, _, _, _, _, _, _, _, _, _, _, _, ⟨(hB.cell 12).trans rfl, (hB.cell 13).trans rfl, (hB.cell 14).trans rfl, (hB.cell 15).trans rfl, (hB.cell 16).trans rfl, (hB.cell 17).trans rfl⟩, hx2, hy2⟩
      refine (sIsProper_any _ hL).mono ?_
      by_cases hp : propB [p0, p1, p2] = true
      · rw [hp]
        rintro e w3 ⟨rfl, hb3⟩
        go_wp2_with fail
        go_ret
        exact ⟨_, _, p0, p1, p2, rfl, RdPS.bl hL hb3, hp, hS0, hS1, hS2, hO.bl hb3⟩
      · rw [Bool.eq_false_iff.2 hp]
        rintro e w3 ⟨rfl, hb3⟩
        have hp := Lib.hid hp; rename_i h_; clear h_
        have hB := hB.bl hb3
        have hx0 := hx0.bl hb3
        have hy0 := hy0.bl hb3
        have hx1 := hx1.bl hb3
        have hy1 := hy1.bl hb3
        have hx2 := hx2.bl hb3
        have hy2 := hy2.bl hb3
        have hC := hC.bl hb3
        have hO := hO.bl hb3
        clear hL hb3
        go_wp2_with fail
        go_region_held3 (fun w' => (w'.cell? ⟨u2.heap.size, 0, none⟩ = some (.bool s4) ∧ w'.cell? ⟨u2.heap.size, 1, none⟩ = some (.slice A4 n4 c4) ∧ w'.cell? ⟨u2.heap.size, 2, none⟩ = some (.slice B4 m4 d4) ∧ w'.cell? ⟨u2.heap.size, 3, none⟩ = some (.bool t4) ∧ w'.cell? ⟨u2.heap.size, 4, none⟩ = some (.slice C4 i4 e4) ∧ w'.cell? ⟨u2.heap.size, 5, none⟩ = some (.slice D4 j4 f4) ∧ w'.cell? ⟨u2.heap.size, 6, none⟩ = some (.bool s5) ∧ w'.cell? ⟨u2.heap.size, 7, none⟩ = some (.slice A5 n5 c5) ∧ w'.cell? ⟨u2.heap.size, 8, none⟩ = some (.slice B5 m5 d5) ∧ w'.cell? ⟨u2.heap.size, 9, none⟩ = some (.bool t5) ∧ w'.cell? ⟨u2.heap.size, 10, none⟩ = some (.slice C5 i5 e5) ∧ w'.cell? ⟨u2.heap.size, 11, none⟩ = some (.slice D5 j5 f5) ∧ w'.cell? ⟨u2.heap.size, 12, none⟩ = some (.bool s6) ∧ w'.cell? ⟨u2.heap.size, 13, none⟩ = some (.slice A6 n6 c6) ∧ w'.cell? ⟨u2.heap.size, 14, none⟩ = some (.slice B6 m6 d6) ∧ w'.cell? ⟨u2.heap.size, 15, none⟩ = some (.bool t6) ∧ w'.cell? ⟨u2.heap.size, 16, none⟩ = some (.slice C6 i6 e6) ∧ w'.cell? ⟨u2.heap.size, 17, none⟩ = some (.slice D6 j6 f6))) (first | exact ⟨((hB.bl slc).cell 0).trans rfl, ((hB.bl slc).cell 1).trans rfl, ((hB.bl slc).cell 2).trans rfl, ((hB.bl slc).cell 3).trans rfl, ((hB.bl slc).cell 4).trans rfl, ((hB.bl slc).cell 5).trans rfl, ((hB.bl slc).cell 6).trans rfl, ((hB.bl slc).cell 7).trans rfl, ((hB.bl slc).cell 8).trans rfl, ((hB.bl slc).cell 9).trans rfl, ((hB.bl slc).cell 10).trans rfl, ((hB.bl slc).cell 11).trans rfl, ((hB.bl slc).cell 12).trans rfl, ((hB.bl slc).cell 13).trans rfl, ((hB.bl slc).cell 14).trans rfl, ((hB.bl slc).cell 15).trans rfl, ((hB.bl slc).cell 16).trans rfl, ((hB.bl slc).cell 17).trans rfl⟩) (fail)
        go_wp2_with fail
        refine calls_gen (fun W => Blk W w3.heap.size 31 #[.bool s4, .slice A4 n4 c4, .slice B4 m4 d4, .bool t4, .slice C4 i4 e4, .slice D4 j4 f4, .bool s6, .slice A6 n6 c6, .slice B6 m6 d6, .bool t6, .slice C6 i6 e6, .slice D6 j6 f6, .bool s5, .slice A5 n5 c5, .slice B5 m5 d5, .bool t5, .slice C5 i5 e5, .slice D5 j5 f5] ∧ Bl w3 W) ⟨by exact bts, slc⟩ ?_
        rintro W2 ⟨hB2, hbW⟩
        have hx0 := hx0.bl hbW
        have hy0 := hy0.bl hbW
        have hx1 := hx1.bl hbW
        have hy1 := hy1.bl hbW
        have hx2 := hx2.bl hbW
        have hy2 := hy2.bl hbW
        have hC := hC.bl hbW
        have hO := hO.bl hbW
        have hL : RdPS W2 (some ⟨w3.heap.size, 0, none⟩) 3 3 [p0, p2, p1] := by
          refine ⟨rfl, by omega, by omega, fun k hk => ?_⟩
          rcases (show k = 0 ∨ k = 1 ∨ k = 2 by omega) with rfl | rfl | rfl
          · exact ⟨_, rfl, hB2.lt, _, _, _, _, _, _, _, _, _, _, _, _, _, _, ⟨(hB2.cell 0).trans rfl, (hB2.cell 1).trans rfl, (hB2.cell 2).trans rfl, (hB2.cell 3).trans rfl, (hB2.cell 4).trans rfl, (hB2.cell 5).trans rfl⟩, hx0, hy0⟩
          · exact ⟨_, rfl, hB2.lt, _, _, _, _, _, _, _, _, _, _, _, _, _, _, ⟨(hB2.cell 6).trans rfl, (hB2.cell 7).trans rfl, (hB2.cell 8).trans rfl, (hB2.cell 9).trans rfl, (hB2.cell 10).trans rfl, (hB2.cell 11).trans rfl⟩, hx2, hy2⟩
          · exact ⟨_, rfl, hB2.lt, _, _, _, _, _, _, _, _, _, _, _, _, _, _, ⟨(hB2.cell 12).trans rfl, (hB2.cell 13).trans rfl, (hB2.cell 14).trans rfl, (hB2.cell 15).trans rfl, (hB2.cell 16).trans rfl, (hB2.cell 17).trans rfl⟩, hx1, hy1⟩
        refine (sIsProper_any _ hL).mono ?_
        by_cases hq : propB [p0, p2, p1] = true
        · rw [hq]
          rintro e w4 ⟨rfl, hb4⟩
          go_wp2_with fail
          go_ret
          exact ⟨_, _, p0, p2, p1, rfl, RdPS.bl hL hb4, hq, hS0, hS2, hS1, hO.bl hb4⟩
        · rw [Bool.eq_false_iff.2 hq]
          rintro e w4 ⟨rfl, hb4⟩
          have hq := Lib.hid hq; rename_i h_; clear h_
          go_wp2_with fail
          go_roundw
          case rel => exact ⟨k + 1, by omega, by go_num, hC.bl hb4, hO.bl hb4⟩
          case measure => simp [intOf]; omega
    · obtain rfl : k = 6 := by omega
      have e0 : ((6 : Nat) : Int) = 6 := rfl
      rw [e0]
      clear e0 hk hk6
      go_wp2_with fail
      refine (sPointAt_any _ 0 0 (by omega) (by omega) (by omega) (by omega)).mono ?_
      rintro e u0 ⟨s4, A4, n4, c4, B4, m4, d4, t4, C4, i4, e4, D4, j4, f4, rfl, hP0, hb0⟩
      go_wp2_with fail
      refine (sPointAt_any _ 2 0 (by omega) (by omega) (by omega) (by omega)).mono ?_
      rintro e u1 ⟨s5, A5, n5, c5, B5, m5, d5, t5, C5, i5, e5, D5, j5, f5, rfl, hP1, hb1⟩
      go_wp2_with fail
      refine (sPointAt_any _ 0 1 (by omega) (by omega) (by omega) (by omega)).mono ?_
      rintro e u2 ⟨s6, A6, n6, c6, B6, m6, d6, t6, C6, i6, e6, D6, j6, f6, rfl, hP2, hb2⟩
      have hP0 := OwPN.bl' (OwPN.bl' (OwPN.q hP0) hb1) hb2
      have hP1 := OwPN.bl' (OwPN.q hP1) hb2
      have hP2 := OwPN.q hP2
      have hO := ((hO.bl hb0).bl hb1).bl hb2
      go_wp2_with fail
      go_ret
      have hB : Blk (u2.alloc (.cells #[.bool s4, .slice A4 n4 c4, .slice B4 m4 d4, .bool t4, .slice C4 i4 e4, .slice D4 j4 f4, .bool s5, .slice A5 n5 c5, .slice B5 m5 d5, .bool t5, .slice C5 i5 e5, .slice D5 j5 f5, .bool s6, .slice A6 n6 c6, .slice B6 m6 d6, .bool t6, .slice C6 i6 e6, .slice D6 j6 f6] 31)) u2.heap.size 31 #[.bool s4, .slice A4 n4 c4, .slice B4 m4 d4, .bool t4, .slice C4 i4 e4, .slice D4 j4 f4, .bool s5, .slice A5 n5 c5, .slice B5 m5 d5, .bool t5, .slice C5 i5 e5, .slice D5 j5 f5, .bool s6, .slice A6 n6 c6, .slice B6 m6 d6, .bool t6, .slice C6 i6 e6, .slice D6 j6 f6] := Blk.new _ _ _
      have hal : Bl u2 (u2.alloc (.cells #[.bool s4, .slice A4 n4 c4, .slice B4 m4 d4, .bool t4, .slice C4 i4 e4, .slice D4 j4 f4, .bool s5, .slice A5 n5 c5, .slice B5 m5 d5, .bool t5, .slice C5 i5 e5, .slice D5 j5 f5, .bool s6, .slice A6 n6 c6, .slice B6 m6 d6, .bool t6, .slice C6 i6 e6, .slice D6 j6 f6] 31)) := (Bl.refl u2).alloc _
      have hx0 := (hP0.bl' hal).rdx.1
      have hy0 := (hP0.bl' hal).rdx.2
      have hx1 := (hP1.bl' hal).rdx.1
      have hy1 := (hP1.bl' hal).rdx.2
      have hx2 := (hP2.bl' hal).rdx.1
      have hy2 := (hP2.bl' hal).rdx.2
      refine ⟨u2.heap.size, 3, _, _, _, rfl, ?_, propB_fix, ptS_at 0 0 (by decide) (by decide), ptS_at 2 0 (by decide) (by decide), ptS_at 0 1 (by decide) (by decide), hO.bl hal⟩
      refine ⟨rfl, by omega, by omega, fun k hk => ?_⟩
      rcases (show k = 0 ∨ k = 1 ∨ k = 2 by omega) with rfl | rfl | rfl
      · exact ⟨_, rfl, hB.lt, _, _, _, _, _, _, _, _, _, _, _, _, _, _, ⟨(hB.cell 0).trans rfl, (hB.cell 1).trans rfl, (hB.cell 2).trans rfl, (hB.cell 3).trans rfl, (hB.cell 4).trans rfl, (hB.cell 5).trans rfl⟩, hx0, hy0⟩
      · exact ⟨_, rfl, hB.lt, _, _, _, _, _, _, _, _, _, _, _, _, _, _, ⟨(hB.cell 6).trans rfl, (hB.cell 7).trans rfl, (hB.cell 8).trans rfl, (hB.cell 9).trans rfl, (hB.cell 10).trans rfl, (hB.cell 11).trans rfl⟩, hx1, hy1⟩
      · exact ⟨_, rfl, hB.lt, _, _, _, _, _, _, _, _, _, _, _, _, _, _, ⟨(hB.cell 12).trans rfl, (hB.cell 13).trans rfl, (hB.cell 14).trans rfl, (hB.cell 15).trans rfl, (hB.cell 16).trans rfl, (hB.cell 17).trans rfl⟩, hx2, hy2⟩

set_option maxHeartbeats 1000000 in
theorem MakeTriangle_any (w : World) {A : Option Addr} {n c : Nat} {l : List Int} (m : Nat) (hm : m ≤ 100) (h : RdB w A n c l) :
    Calls Tryz.prog 12 #[.slice A n c, .int .i64 (m : Int)] w fun en w' => ∃ h c1 p0 p1 p2, en = .returned (.slice (some ⟨h, 0, none⟩) 3 c1) ∧ RdPS w' (some ⟨h, 0, none⟩) 3 c1 [p0, p1, p2] ∧ propB [p0, p1, p2] = true ∧ PtS p0 ∧ PtS p1 ∧ PtS p2 ∧ Bl w w' := by
  go_enter Tryz.func12, Tryz.ntmps12
  go_wp2_with fail
  refine (l31New_any _ (9 * m) (by omega) h).mono ?_
  rintro e w1 ⟨g, rfl, hg, hC, hb1⟩
  go_wp2_with fail
  refine (l06Draw_any _ hC).mono ?_
  rintro e w2 ⟨k, c1, p0, p1, p2, rfl, hL, hp, h0, h1, h2, hO⟩
  go_wp2_with fail
  go_ret
  exact ⟨_, _, p0, p1, p2, rfl, hL, hp, h0, h1, h2, hb1.ob hO fun b hb => by simp at hb; omega⟩
end

end Go.Proofs.YtajlahjghapbkaaGreat
