/- Lemmas. -/
import Derived.Test.YtjaapemopbbfaaaGreatDoorRows
import Derived.Test.YtjaapemopbbfaaaGreatDoorPPointsM30
import Derived.Test.YtjaapemopbbfaaaGreatDoorPPointsM24
import Derived.Test.YtjaapemopbbfaaaGreatDoorPPointsM29
import Derived.Test.YtjaapemopbbfaaaGreatDoorPPointsM16
import Derived.Test.YtjaapemopbbfaaaGreatDoorPPointsM15
import Derived.Test.YtjaapemopbbfaaaGreatDoorPPointsM27
import Derived.Deep.Cut
import Derived.Deep.DeepCutAuto
import Derived.Test.YtjaapemopbbfaaaGreatDoorPPointsM14
import Derived.ProofKit
import Derived.HandedShaped
import Derived.LaidMore
import Derived.OpenShut
import Derived.Stop.Joined
import Derived.Shelf.Vars
import Derived.Lib.LaidTab
import Derived.Deep.Slices
namespace Go.Proofs.YtjaapemopbbfaaaGreatDoor
section
open Go.RowKit

noncomputable def sclP (r : RatD) (p : PtD) : PtD := ifP ⟨mulR r p.x, mulR r p.y⟩
set_option maxRecDepth 100000 in
set_option maxHeartbeats 8000000 in
theorem ScalePoint_any (w : World) {s : Bool} {A : Option Addr} {n c : Nat} {B : Option Addr} {m d : Nat} {r : RatD} {s' : Bool} {A' : Option Addr} {n' c' : Nat} {B' : Option Addr} {m' d' : Nat} {t' : Bool} {C' : Option Addr} {i' e' : Nat} {D' : Option Addr} {j' f' : Nat} {p' : PtD} (h : RdR w s A n c B m d r) (h' : RdR w s' A' n' c' B' m' d' p'.x) (k' : RdR w t' C' i' e' D' j' f' p'.y) :
    Calls Tryz.prog 21 #[.agg #[.bool s, .slice A n c, .slice B m d], .agg #[.bool s', .slice A' n' c', .slice B' m' d', .bool t', .slice C' i' e', .slice D' j' f']] w fun en w' => ∃ s1 A1 n1 c1 B1 m1 d1 t1 C1 i1 e1 D1 j1 f1, en = .returned (.agg #[.bool s1, .slice A1 n1 c1, .slice B1 m1 d1, .bool t1, .slice C1 i1 e1, .slice D1 j1 f1]) ∧ OwP 3 w.heap.size w' s1 A1 n1 c1 B1 m1 d1 t1 C1 i1 e1 D1 j1 f1 (sclP r p') ∧ Bl w w' := by
  go_enter Tryz.func21, Tryz.ntmps21
  go_wp2_with fail
  refine wp_gen (fun W => Bl w W ∧ Blk W (w.heap.size) 26 #[.bool s, .slice A n c, .slice B m d] ∧ Blk W (w.heap.size + 1) 28 #[.bool s', .slice A' n' c', .slice B' m' d', .bool t', .slice C' i' e', .slice D' j' f'] ∧ Wk 6 28 (w.heap.size + 1 + 1) W) ⟨slc, bts, bts, bts⟩ ?_
  rintro W ⟨hbW, hx, hx', hr⟩
  go_region_held3 (fun w' => (w'.cell? ⟨w.heap.size, 0, none⟩ = some (.bool s) ∧ w'.cell? ⟨w.heap.size, 1, none⟩ = some (.slice A n c) ∧ w'.cell? ⟨w.heap.size, 2, none⟩ = some (.slice B m d)) ∧ (w'.cell? ⟨w.heap.size + 1, 0, none⟩ = some (.bool s') ∧ w'.cell? ⟨w.heap.size + 1, 1, none⟩ = some (.slice A' n' c') ∧ w'.cell? ⟨w.heap.size + 1, 2, none⟩ = some (.slice B' m' d') ∧ w'.cell? ⟨w.heap.size + 1, 3, none⟩ = some (.bool t') ∧ w'.cell? ⟨w.heap.size + 1, 4, none⟩ = some (.slice C' i' e') ∧ w'.cell? ⟨w.heap.size + 1, 5, none⟩ = some (.slice D' j' f')) ∧ (w'.cell? ⟨w.heap.size + 1 + 1, 0, none⟩ = some (cellD w' (w.heap.size + 1 + 1) 0) ∧ w'.cell? ⟨w.heap.size + 1 + 1, 1, none⟩ = some (cellD w' (w.heap.size + 1 + 1) 1) ∧ w'.cell? ⟨w.heap.size + 1 + 1, 2, none⟩ = some (cellD w' (w.heap.size + 1 + 1) 2) ∧ w'.cell? ⟨w.heap.size + 1 + 1, 3, none⟩ = some (cellD w' (w.heap.size + 1 + 1) 3) ∧ w'.cell? ⟨w.heap.size + 1 + 1, 4, none⟩ = some (cellD w' (w.heap.size + 1 + 1) 4) ∧ w'.cell? ⟨w.heap.size + 1 + 1, 5, none⟩ = some (cellD w' (w.heap.size + 1 + 1) 5)) ∧ w'.frozen? ⟨w.heap.size + 1 + 1, 0, none⟩ = false ∧ w'.frozen? ⟨w.heap.size + 1 + 1, 1, none⟩ = false ∧ w'.frozen? ⟨w.heap.size + 1 + 1, 2, none⟩ = false ∧ w'.frozen? ⟨w.heap.size + 1 + 1, 3, none⟩ = false ∧ w'.frozen? ⟨w.heap.size + 1 + 1, 4, none⟩ = false ∧ w'.frozen? ⟨w.heap.size + 1 + 1, 5, none⟩ = false) (first | exact ⟨bx3 (T := 26) bts, bx6 (T := 28) bts, Wk.out6 (T := 28) bts⟩) (first | (go_at_call 55; with_reducible refine (RatMul_any _ (h.bl slc) (h'.bl slc)).mono ?_; rintro en w2 ⟨s2, A2, n2, c2, B2, m2, d2, rfl, hR2, hb2⟩) | (go_at_call 55; with_reducible refine (RatMul_any _ (h.bl slc) (k'.bl slc)).mono ?_; rintro en w3 ⟨s3, A3, n3, c3, B3, m3, d3, rfl, hR3, hb3⟩) | (go_at_call 51; refine (ifPoint_any (p := ⟨mulR r p'.x, mulR r p'.y⟩) _ (OwP.two hR2 hR3 hb3 (Bl.size hb2))).mono ?_; rintro en w4 ⟨s1, A1, n1, c1, B1, m1, d1, t1, C1, i1, e1, D1, j1, f1, rfl, hX, hb4⟩))
  have hz : w.heap.size + 1 + 1 + 1 ≤ W.heap.size := hr.lt
  have hr := (show Wk 6 28 (w.heap.size + 1 + 1) w4 from bts)
  have hbW : Bl w w4 := slc
  have hX := hX.low (show w.heap.size + 1 + 1 + 1 ≤ W.drew.heap.size from hz)
  obtain ⟨v0, x0⟩ := hr.val_ (i := 0) (by omega)
  obtain ⟨v1, x1⟩ := hr.val_ (i := 1) (by omega)
  obtain ⟨v2, x2⟩ := hr.val_ (i := 2) (by omega)
  obtain ⟨v3, x3⟩ := hr.val_ (i := 3) (by omega)
  obtain ⟨v4, x4⟩ := hr.val_ (i := 4) (by omega)
  obtain ⟨v5, x5⟩ := hr.val_ (i := 5) (by omega)
  have hg := hr.lt
  obtain ⟨cs4, hB4, hc4⟩ := hr
  have hf0 := hB4.frozen 0
  have hf1 := hB4.frozen 1
  have hf2 := hB4.frozen 2
  have hf3 := hB4.frozen 3
  have hf4 := hB4.frozen 4
  have hf5 := hB4.frozen 5
  go_wp2_with fail
  exact bodyPost_ret (v := .agg #[.bool s1, .slice A1 n1 c1, .slice B1 m1 d1, .bool t1, .slice C1 i1 e1, .slice D1 j1 f1]) (by simp [results, Tryz.results21, go_sem, x0, x1, x2, x3, x4, x5]) rfl ⟨_, _, _, _, _, _, _, _, _, _, _, _, _, _, rfl, ((((((hX.far (by simp) _).far (by simp) _).far (by simp) _).far (by simp) _).far (by simp) _).far (by simp) _).low (by omega), slc⟩

noncomputable def midP (p q : PtD) : PtD := sclP (ofFrac 1 2) (addP p q)
set_option maxRecDepth 100000 in
set_option maxHeartbeats 8000000 in
theorem Middle_any (w : World) {s : Bool} {A : Option Addr} {n c : Nat} {B : Option Addr} {m d : Nat} {t : Bool} {C : Option Addr} {i e : Nat} {D : Option Addr} {j f : Nat} {p : PtD} {s' : Bool} {A' : Option Addr} {n' c' : Nat} {B' : Option Addr} {m' d' : Nat} {t' : Bool} {C' : Option Addr} {i' e' : Nat} {D' : Option Addr} {j' f' : Nat} {p' : PtD} (h : RdR w s A n c B m d p.x) (k : RdR w t C i e D j f p.y) (h' : RdR w s' A' n' c' B' m' d' p'.x) (k' : RdR w t' C' i' e' D' j' f' p'.y) :
    Calls Tryz.prog 14 #[.agg #[.bool s, .slice A n c, .slice B m d, .bool t, .slice C i e, .slice D j f], .agg #[.bool s', .slice A' n' c', .slice B' m' d', .bool t', .slice C' i' e', .slice D' j' f']] w fun en w' => ∃ s1 A1 n1 c1 B1 m1 d1 t1 C1 i1 e1 D1 j1 f1, en = .returned (.agg #[.bool s1, .slice A1 n1 c1, .slice B1 m1 d1, .bool t1, .slice C1 i1 e1, .slice D1 j1 f1]) ∧ OwP 3 w.heap.size w' s1 A1 n1 c1 B1 m1 d1 t1 C1 i1 e1 D1 j1 f1 (midP p p') ∧ Bl w w' := by
  go_enter Tryz.func14, Tryz.ntmps14
  go_wp2_with fail
  refine wp_gen (fun W => Bl w W ∧ Blk W (w.heap.size) 28 #[.bool s, .slice A n c, .slice B m d, .bool t, .slice C i e, .slice D j f] ∧ Blk W (w.heap.size + 1) 28 #[.bool s', .slice A' n' c', .slice B' m' d', .bool t', .slice C' i' e', .slice D' j' f'] ∧ Wk 6 28 (w.heap.size + 1 + 1) W) ⟨slc, bts, bts, bts⟩ ?_
  rintro W ⟨hbW, hx, hx', hr⟩
  go_region_held3 (fun w' => (w'.cell? ⟨w.heap.size, 0, none⟩ = some (.bool s) ∧ w'.cell? ⟨w.heap.size, 1, none⟩ = some (.slice A n c) ∧ w'.cell? ⟨w.heap.size, 2, none⟩ = some (.slice B m d) ∧ w'.cell? ⟨w.heap.size, 3, none⟩ = some (.bool t) ∧ w'.cell? ⟨w.heap.size, 4, none⟩ = some (.slice C i e) ∧ w'.cell? ⟨w.heap.size, 5, none⟩ = some (.slice D j f)) ∧ (w'.cell? ⟨w.heap.size + 1, 0, none⟩ = some (.bool s') ∧ w'.cell? ⟨w.heap.size + 1, 1, none⟩ = some (.slice A' n' c') ∧ w'.cell? ⟨w.heap.size + 1, 2, none⟩ = some (.slice B' m' d') ∧ w'.cell? ⟨w.heap.size + 1, 3, none⟩ = some (.bool t') ∧ w'.cell? ⟨w.heap.size + 1, 4, none⟩ = some (.slice C' i' e') ∧ w'.cell? ⟨w.heap.size + 1, 5, none⟩ = some (.slice D' j' f')) ∧ (w'.cell? ⟨w.heap.size + 1 + 1, 0, none⟩ = some (cellD w' (w.heap.size + 1 + 1) 0) ∧ w'.cell? ⟨w.heap.size + 1 + 1, 1, none⟩ = some (cellD w' (w.heap.size + 1 + 1) 1) ∧ w'.cell? ⟨w.heap.size + 1 + 1, 2, none⟩ = some (cellD w' (w.heap.size + 1 + 1) 2) ∧ w'.cell? ⟨w.heap.size + 1 + 1, 3, none⟩ = some (cellD w' (w.heap.size + 1 + 1) 3) ∧ w'.cell? ⟨w.heap.size + 1 + 1, 4, none⟩ = some (cellD w' (w.heap.size + 1 + 1) 4) ∧ w'.cell? ⟨w.heap.size + 1 + 1, 5, none⟩ = some (cellD w' (w.heap.size + 1 + 1) 5)) ∧ w'.frozen? ⟨w.heap.size + 1 + 1, 0, none⟩ = false ∧ w'.frozen? ⟨w.heap.size + 1 + 1, 1, none⟩ = false ∧ w'.frozen? ⟨w.heap.size + 1 + 1, 2, none⟩ = false ∧ w'.frozen? ⟨w.heap.size + 1 + 1, 3, none⟩ = false ∧ w'.frozen? ⟨w.heap.size + 1 + 1, 4, none⟩ = false ∧ w'.frozen? ⟨w.heap.size + 1 + 1, 5, none⟩ = false) (first | exact ⟨bx6 (T := 28) bts, bx6 (T := 28) bts, Wk.out6 (T := 28) bts⟩) (first | (go_at_call 46; with_reducible refine (RatOf_any _ 1 2 (by omega) (by omega) (by omega) (by omega)).mono ?_; rintro en w2 ⟨s2, A2, n2, c2, B2, m2, d2, rfl, hR2, hb2⟩) | (go_at_call 19; with_reducible refine (AddPoints_any _ (h.bl slc) (k.bl slc) (h'.bl slc) (k'.bl slc)).mono ?_; rintro en w3 ⟨s3, A3, n3, c3, B3, m3, d3, t3, C3, i3, e3, D3, j3, f3, rfl, hP3, hb3⟩) | (go_at_call 21; refine (ScalePoint_any _ (hR2.rd.bl slc) (hP3.rx.bl slc) (hP3.ry.bl slc)).mono ?_; rintro en w4 ⟨s1, A1, n1, c1, B1, m1, d1, t1, C1, i1, e1, D1, j1, f1, rfl, hX, hb4⟩; replace hX := hX.low (show W.drew.heap.size ≤ _ from Bl.size (by exact slc))))
  have hz : w.heap.size + 1 + 1 + 1 ≤ W.heap.size := hr.lt
  have hr := (show Wk 6 28 (w.heap.size + 1 + 1) w4 from bts)
  have hbW : Bl w w4 := slc
  have hX := hX.low (show w.heap.size + 1 + 1 + 1 ≤ W.drew.heap.size from hz)
  obtain ⟨v0, x0⟩ := hr.val_ (i := 0) (by omega)
  obtain ⟨v1, x1⟩ := hr.val_ (i := 1) (by omega)
  obtain ⟨v2, x2⟩ := hr.val_ (i := 2) (by omega)
  obtain ⟨v3, x3⟩ := hr.val_ (i := 3) (by omega)
  obtain ⟨v4, x4⟩ := hr.val_ (i := 4) (by omega)
  obtain ⟨v5, x5⟩ := hr.val_ (i := 5) (by omega)
  have hg := hr.lt
  obtain ⟨cs4, hB4, hc4⟩ := hr
  have hf0 := hB4.frozen 0
  have hf1 := hB4.frozen 1
  have hf2 := hB4.frozen 2
  have hf3 := hB4.frozen 3
  have hf4 := hB4.frozen 4
  have hf5 := hB4.frozen 5
  go_wp2_with fail
  exact bodyPost_ret (v := .agg #[.bool s1, .slice A1 n1 c1, .slice B1 m1 d1, .bool t1, .slice C1 i1 e1, .slice D1 j1 f1]) (by simp [results, Tryz.results14, go_sem, x0, x1, x2, x3, x4, x5]) rfl ⟨_, _, _, _, _, _, _, _, _, _, _, _, _, _, rfl, ((((((hX.far (by simp) _).far (by simp) _).far (by simp) _).far (by simp) _).far (by simp) _).far (by simp) _).low (by omega), slc⟩
end

section
open Go.RowKit

/-- Numerator and denominator are at most 10 ^ k. -/
def B10 (k : Nat) (q : Rat) : Prop := Bd (10 ^ k) q
theorem ten_lt {k : Nat} (hk : k < 216) : 10 ^ k < Bs ^ 24 := by
  have h1 : (10 : Nat) ^ k ≤ 10 ^ 215 := Nat.pow_le_pow_right (by omega) (by omega)
  exact Nat.lt_of_le_of_lt h1 (by decide)
section
variable {a b k : Nat} {p q : Rat}
theorem B10.fit (h : B10 k q) (hk : k < 216) : Fit q := Bd.fit h (ten_lt hk)
theorem B10.mono (h : B10 a q) (hk : a ≤ b) : B10 b q := Bd.mono h (Nat.pow_le_pow_right (by omega) hk)
theorem B10.of {N : Nat} (h : Bd N q) (hk : N ≤ 10 ^ k) : B10 k q := Bd.mono h hk
theorem B10.add (h : B10 a p) (k : B10 b q) : B10 (a + b + 1) (p + q) := (Bd.add h k).mono (by rw [Nat.pow_succ, Nat.pow_add]; omega)
theorem B10.sub (h : B10 a p) (k : B10 b q) : B10 (a + b + 1) (p - q) := (Bd.sub h k).mono (by rw [Nat.pow_succ, Nat.pow_add]; omega)
theorem B10.mul (h : B10 a p) (k : B10 b q) : B10 (a + b) (p * q) := (Bd.mul h k).mono (by rw [Nat.pow_add]; exact Nat.le_refl _)
theorem B10.neg (h : B10 a p) : B10 a (-p) := Bd.neg h
theorem addR_b (h : B10 a p) (k : B10 b q) (hk : a + b + 1 < 216) : addR (toR p) (toR q) = toR (p + q) := addR_toR (h.fit (by omega)) (k.fit (by omega)) ((h.add k).fit hk)
theorem subR_b (h : B10 a p) (k : B10 b q) (hk : a + b + 1 < 216) : subR (toR p) (toR q) = toR (p - q) := subR_toR (h.fit (by omega)) (k.fit (by omega)) ((h.sub k).fit hk)
theorem mulR_b (h : B10 a p) (k : B10 b q) (hk : a + b < 216) : mulR (toR p) (toR q) = toR (p * q) := mulR_toR (h.fit (by omega)) (k.fit (by omega)) ((h.mul k).fit hk)
theorem frac_b (x : Int) (D : Nat) (hD : 0 < D) (hx : x.natAbs ≤ 10 ^ k) (hn : D ≤ 10 ^ k) (hk : k < 216) : ofFrac x D = toR (mkRat x D) ∧ B10 k (mkRat x D) := by
  have hb : B10 k (mkRat x D) := bd_mk hD hx hn
  exact ⟨by rw [ofFrac_toR x hD, if_pos (hb.fit hk)], hb⟩
theorem int_b (x : Int) (hx : x.natAbs ≤ 10 ^ k) (hk : k < 216) : ofFrac x 1 = toR (x : Rat) ∧ B10 k (x : Rat) := by
  have e : mkRat x 1 = (x : Rat) := by rw [Rat.mkRat_one]
  obtain ⟨h1, h2⟩ := frac_b x 1 (by omega) hx (Nat.one_le_pow _ _ (by omega)) hk
  rw [e] at h1 h2
  exact ⟨h1, h2⟩
theorem sgn_b (h : B10 k q) (hk : k < 216) : sgnR (toR q) = if q < 0 then -1 else if 0 < q then 1 else 0 := sgnR_toR (h.fit hk)
end
section
variable {a b c k : Nat} {x y u v p q : Rat}
theorem ifP_b (hx : B10 a x) (hy : B10 a y) (hk : a < 216) : ifP (toP x y) = toP x y := ifP_toP (hx.fit hk) (hy.fit hk)
theorem okP_b (hx : B10 a x) (hy : B10 a y) (hk : a < 216) : OkP (toP x y) := ⟨(hx.fit hk).ok, (hy.fit hk).ok⟩
theorem addP_b (hx : B10 a x) (hy : B10 a y) (hu : B10 b u) (hv : B10 b v) (hk : a + b + 1 < 216) : addP (toP x y) (toP u v) = toP (x + u) (y + v) := by
  show ifP ⟨addR (toR x) (toR u), addR (toR y) (toR v)⟩ = _
  rw [addR_b hx hu hk, addR_b hy hv hk]
  exact ifP_b (hx.add hu) (hy.add hv) hk
theorem subP_b (hx : B10 a x) (hy : B10 a y) (hu : B10 b u) (hv : B10 b v) (hk : a + b + 1 < 216) : subP (toP x y) (toP u v) = toP (x - u) (y - v) := by
  show ifP ⟨subR (toR x) (toR u), subR (toR y) (toR v)⟩ = _
  rw [subR_b hx hu hk, subR_b hy hv hk]
  exact ifP_b (hx.sub hu) (hy.sub hv) hk
theorem sclP_b (hq : B10 b q) (hx : B10 a x) (hy : B10 a y) (hk : b + a < 216) : sclP (toR q) (toP x y) = toP (q * x) (q * y) := by
  show ifP ⟨mulR (toR q) (toR x), mulR (toR q) (toR y)⟩ = _
  rw [mulR_b hq hx hk, mulR_b hq hy hk]
  exact ifP_b (hq.mul hx) (hq.mul hy) hk
theorem dblA_b {x0 y0 x1 y1 x2 y2 : Rat} (a0 : B10 k x0) (b0 : B10 k y0) (a1 : B10 k x1) (b1 : B10 k y1) (a2 : B10 k x2) (b2 : B10 k y2) (hk : 8 * k + 5 < 216) :
    dblA (toP x0 y0) (toP x1 y1) (toP x2 y2) = toR (detQ x0 y0 x1 y1 x2 y2) ∧ B10 (8 * k + 5) (detQ x0 y0 x1 y1 x2 y2) := by
  have s1 := a1.sub a0
  have s2 := b1.sub b0
  have s3 := a2.sub a0
  have s4 := b2.sub b0
  have m1 := s1.mul s4
  have m2 := s2.mul s3
  refine ⟨?_, (m1.sub m2).mono (by omega)⟩
  unfold dblA
  rw [subP_b a1 b1 a0 b0 (by omega), subP_b a2 b2 a0 b0 (by omega)]
  show subR (mulR (toR (x1 - x0)) (toR (y2 - y0))) (mulR (toR (y1 - y0)) (toR (x2 - x0))) = _
  rw [mulR_b s1 s4 (by omega), mulR_b s2 s3 (by omega), subR_b m1 m2 (by omega)]
  rfl
theorem sgn_zero (h : B10 k q) (hk : k < 216) (h0 : q = 0) : sgnR (toR q) = 0 := by
  rw [sgn_b h hk, if_neg (by grind), if_neg (by grind)]
end
end

section
open Go.RowKit

theorem Ob.bl {bs : List Nat} {w W W2 : World} (h : Ob bs w W) (hb : Bl W W2) : Ob bs w W2 := h.trans (Ob.of_bl hb _)
end

section
open Go.RowKit
end

section
open Go.RowKit

def SqTo (L : List (List RatD)) (k : Nat) : Prop := ∀ i, i < k → AllOk (pix L i)
theorem SqTo.step {L : List (List RatD)} {k : Nat} (h : SqTo L k) (h0 : AllOk (pix L k)) : SqTo L (k + 1) := by
  intro j hj
  rcases Nat.lt_succ_iff_lt_or_eq.1 hj with hj | rfl
  · exact h j hj
  · exact h0
end

section
open Go.RowKit
end

section
open Go.RowKit

section
variable {x0 y0 x1 y1 x2 y2 : Rat}
end
end

section
open Go.RowKit
end

section
open Go.RowKit

theorem OwR.setT {T TP : TypeId} {b0 g k : Nat} {w : World} {s : Bool} {A : Option Addr} {n c : Nat} {B : Option Addr} {m d : Nat} {r : RatD} (h : OwR T b0 w s A n c B m d r) (hk : Wk k TP g w) (hne : T ≠ TP) (i0 : Nat) (u : Value) : OwR T b0 (w.setCell ⟨g, i0, none⟩ u) s A n c B m d r := by
  obtain ⟨bs, h1, hf⟩ := h
  exact ⟨bs, h1.keep (by simp) (fun b hb => Below.heap_setCell w _ u b (h1.neT hk hne b hb)), hf.mono (Nat.le_refl _) (by simp)⟩
end

section
open Go.ChangeShapes Go.WideShapes Go.ChangeAt Go.RowKit
open Go.ChangeMaps (open_string shut_string)

theorem Tryz.own : ownKnob Tryz.prog.godebug = none := by kernel_rfl
theorem Tryz.laidOut : laidOutB Tryz.prog = true := by kernel_rfl
/-- The wrap that hands on both the listed tables and the world's shape. -/
theorem handed_both {H : Type} {enc : TypeId × Value → H} {a : Assume} {C : Checked} {os : Os} {f : FuncId} {fn : Func} {s : ChangeSpec} {conds : List PathCond} {apart fresh handsOn again : Bool} {X : World → Array Value → Prop}
    (hX : ∀ (w w' : World) (args : Array Value), w.heap = w'.heap → X w args → X w' args)
    (own : ownKnob C.prog.godebug = none) (started : os.Started) (noInit : C.prog.inits.idxOf? f = none) (hfn : C.prog.funcs[f]? = some fn)
    (witness : ∃ (w : World) (tape : Tape) (i : Input), w.os = os ∧ (w.forCall tape i).Shaped C.prog ∧ i.vars = [] ∧ Input.okWide C.prog (w.forCall tape i) .any w.heap.size f i ∧
      ((s.pre enc C.prog fn conds apart (w.forCall tape i).memory i.args ∧ X (w.forCall tape i).memory i.args) ∧ sizedMet enc C.prog fn (OpenSpec.ofChange s) apart (w.forCall tape i).memory i.args) ∧ a.holds C.prog (lone (Frame.enter C.prog f i.args .normal) [] (w.forCall tape i)))
    (contract : ∀ (W : World) (base : Nat) (args : Array Value) (ds gs : List (DataW H)) (before : List MemPlace),
      (∀ (j : Nat) t v, fn.params[j]? = some t → args[j]? = some v → Value.okWide C.prog W .any base t v) →
      DataW.Whole enc C.prog fn.params.toList s.vars apart W args.toList ds gs before → X W args → W.ShapedOpen C.prog →
      Calls C.prog f args W fun e W' => ∃ v, e = .returned v ∧ s.post enc C.prog fn apart fresh handsOn again W args v W') :
    ReturnsInHanded a C os f .any (fun w args => (s.pre enc C.prog fn conds apart w args ∧ X w args) ∧ sizedMet enc C.prog fn (OpenSpec.ofChange s) apart w args) (s.post enc C.prog fn apart fresh handsOn again) := by
  refine returnsInHanded_of_calls own started noInit witness ?_
  intro w tape i _ hsh _ hok hpre _
  obtain ⟨_, _, _, fn', hfn', _, _, _, _, hval⟩ := hok
  have e : fn' = fn := Option.some.inj (hfn'.symm.trans hfn)
  subst e
  obtain ⟨⟨⟨ds, gs, before, hw, _⟩, hx⟩, _⟩ := hpre
  have hw' := DataW.Whole.of_heap (w' := w.forCall tape i) (by rfl) hw
  refine (contract (w.forCall tape i) w.heap.size i.args ds gs before hval hw' (hX _ _ _ (by rfl) hx) hsh).mono fun e W' ⟨v, he, hp⟩ => ?_
  subst he
  exact ChangeSpec.post_blind hp
/-- What the three smaller tables read as. -/
def lay3 : List (String × DataW Unit) := Rows.fnExactParsePointRow.laid
theorem door_met (os : Os) (args : Array Value) : laidMetH Tryz.prog lay3 ((World.doorLaid Tryz.prog 400 os).forCall (fun _ _ => 0) ⟨#[], args, []⟩).memory :=
  laidMetH_of_parts3 (fuel := 8) (laidMet_of_run' 8 (by kernel_rfl) (by kernel_rfl)) (by kernel_rfl) (by kernel_rfl)
theorem Env.of {W : World} (h : laidMetH Tryz.prog lay3 W) (hsh : W.ShapedOpen Tryz.prog) : Env W := by
  rw [MakeChecks.laidMetH_plain _ _ _ (by kernel_rfl)] at h
  obtain ⟨ps, ⟨g0, t0, cs0, f0, p0, q0, _, _, _, _, ⟨g1, t1, cs1, f1, p1, q1, _, _, _, _, ⟨g2, t2, cs2, f2, p2, q2, hg2, ht2, hv2, hd2, _, _⟩, _⟩, _⟩, _, _⟩ := h
  refine ⟨?_, cell_of_shapedOpen_int (zero := #[.int .i64 0]) (t := 3) hsh (of_decide_eq_true (by kernel_rfl)) (by kernel_rfl) rfl (by kernel_rfl) (by kernel_rfl) Tryz.underlying3⟩
  have e2 : Tryz.prog.globalNamed "internal/strconv.uint64pow10" = some 5 := by kernel_rfl
  obtain rfl := Option.some.inj (e2.symm.trans hg2)
  have et : (Tryz.prog.globals[5]?).map (·.type) = some 254 := by kernel_rfl
  obtain rfl := Option.some.inj (et.symm.trans ht2)
  unfold Lib.TabIs
  rw [hv2]
  have hc : cs2.toList = Lib.pow10Tab.map fun z => Value.int .u64 z := Lib.cells_of_tab (n := 20) (e := 167) Tryz.underlying254 Tryz.underlying167 (by kernel_rfl) (by kernel_rfl) (show DataW.trod _ Tryz.prog W 0 _ false f2 254 cs2.toList = some (Lib.tabData .u64 Lib.pow10Tab, p2) from hd2)
  rw [← hc]
end

section
open Go.RowKit Go.ChangeShapes
open Go.Deep (open_slice open_slice1 choose_lt)
theorem cells_u8 : Tryz.prog.cellsOf 5 = 1 := by kernel_rfl
theorem open_by {H : Type} {enc : TypeId × Value → H} {w : World} {fuel : Nat} {cs : List Value} {x : DataW H × List MemPlace} {spare : Nat → Bool} {base : Nat} {held : Bool} (h : DataW.trod enc Tryz.prog w base spare held fuel 34 cs = some x) : ∃ A n c l, cs = [.slice A n c] ∧ RdB w A n c l := by
  rcases open_slice1 Tryz.underlying34 cells_u8 h with ⟨rfl, _⟩ | ⟨a, len, cap, m, k, V, D, Pl, rfl, hb, hl, hm, hmm, _, hx⟩
  · exact ⟨none, 0, 0, [], rfl, RdS.nil w _ _⟩
  · have hm' : cap ≤ 9223372036854775807 := by simpa [maxLen] using hm
    have hlm : len ≤ m := by rw [hmm]; split <;> omega
    refine ⟨some a, len, cap, (List.range len).map fun i => intOf (V i), rfl, by simp, hl, by omega, fun i hi => ?_⟩
    obtain ⟨hc, ht⟩ := hx i (by omega)
    obtain ⟨z, e, _, hwf⟩ := DataW.trod_int Tryz.underlying5 ht
    injection e with e
    have hlt : a.block < w.heap.size := by
      have := World.block_lt_of_cell? w _ hc
      rwa [block_add] at this
    have hz : 0 ≤ z ∧ z ≤ 255 := by
      have h1 : IntKind.u8.min = 0 := by decide
      have h2 : IntKind.u8.max = 255 := by decide
      simp only [Lit.wf, h1, h2, Bool.and_eq_true, decide_eq_true_eq] at hwf
      exact hwf
    refine ⟨a, rfl, hlt, ?_⟩
    have hpx : pix ((List.range len).map fun i => intOf (V i)) i = z := by simp [pix, hi, e, intOf]
    rw [hpx, Nat.mul_one]
    exact ⟨by rw [hc, e], hz⟩
end

end Go.Proofs.YtjaapemopbbfaaaGreatDoor
