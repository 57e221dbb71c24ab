-- merged: Fs1 Fs0 Fs2
import Derived.Test.YtggjdgjkdmgjnaaGreatRows
import Derived.Test.YtggjdgjkdmgjnaaGreatDv1
import Derived.Test.YtggjdgjkdmgjnaaGreatBg8
import Derived.Test.YtggjdgjkdmgjnaaGreatOpb
import Derived.Test.YtggjdgjkdmgjnaaGreatOv2
import Derived.Test.YtggjdgjkdmgjnaaGreatEl2
import Derived.Deep.Cut
import Derived.Deep.DeepCutAuto
namespace Go.Proofs.YtggjdgjkdmgjnaaGreat
open Go.RowKit
section


noncomputable def addP (p q : PtD) : PtD := ifP ⟨addR p.x q.x, addR p.y q.y⟩
set_option maxRecDepth 100000 in
set_option maxHeartbeats 2000000 in
theorem AddPoints_any (w : World) {s : Bool} {A : Option Addr} {n c : Nat} {B : Option Addr} {m d : Nat} {t : Bool} {C : Option Addr} {i e : Nat} {D : Option Addr} {j f : Nat} {p : PtD} {s' : Bool} {A' : Option Addr} {n' c' : Nat} {B' : Option Addr} {m' d' : Nat} {t' : Bool} {C' : Option Addr} {i' e' : Nat} {D' : Option Addr} {j' f' : Nat} {p' : PtD} (h : RdR w s A n c B m d p.x) (k : RdR w t C i e D j f p.y) (h' : RdR w s' A' n' c' B' m' d' p'.x) (k' : RdR w t' C' i' e' D' j' f' p'.y) :
    Calls Tryz.prog 32 #[.agg #[.bool s, .slice A n c, .slice B m d, .bool t, .slice C i e, .slice D j f], .agg #[.bool s', .slice A' n' c', .slice B' m' d', .bool t', .slice C' i' e', .slice D' j' f']] w fun en w' => ∃ s1 A1 n1 c1 B1 m1 d1 t1 C1 i1 e1 D1 j1 f1, en = .returned (.agg #[.bool s1, .slice A1 n1 c1, .slice B1 m1 d1, .bool t1, .slice C1 i1 e1, .slice D1 j1 f1]) ∧ OwP 3 w.heap.size w' s1 A1 n1 c1 B1 m1 d1 t1 C1 i1 e1 D1 j1 f1 (addP p p') ∧ Bl w w' := by
  go_enter Tryz.func32, Tryz.ntmps32
  go_wp2_with fail
  refine wp_gen (fun W => Bl w W ∧ Blk W (w.heap.size) 45 #[.bool s, .slice A n c, .slice B m d, .bool t, .slice C i e, .slice D j f] ∧ Blk W (w.heap.size + 1) 45 #[.bool s', .slice A' n' c', .slice B' m' d', .bool t', .slice C' i' e', .slice D' j' f'] ∧ Wk 6 45 (w.heap.size + 1 + 1) W) ⟨slc, bts, bts, bts⟩ ?_
  rintro W ⟨hbW, hx, hx', hr⟩
  go_region_held3 (fun w' => (w'.cell? ⟨w.heap.size, 0, none⟩ = some (.bool s) ∧ w'.cell? ⟨w.heap.size, 1, none⟩ = some (.slice A n c) ∧ w'.cell? ⟨w.heap.size, 2, none⟩ = some (.slice B m d) ∧ w'.cell? ⟨w.heap.size, 3, none⟩ = some (.bool t) ∧ w'.cell? ⟨w.heap.size, 4, none⟩ = some (.slice C i e) ∧ w'.cell? ⟨w.heap.size, 5, none⟩ = some (.slice D j f)) ∧ (w'.cell? ⟨w.heap.size + 1, 0, none⟩ = some (.bool s') ∧ w'.cell? ⟨w.heap.size + 1, 1, none⟩ = some (.slice A' n' c') ∧ w'.cell? ⟨w.heap.size + 1, 2, none⟩ = some (.slice B' m' d') ∧ w'.cell? ⟨w.heap.size + 1, 3, none⟩ = some (.bool t') ∧ w'.cell? ⟨w.heap.size + 1, 4, none⟩ = some (.slice C' i' e') ∧ w'.cell? ⟨w.heap.size + 1, 5, none⟩ = some (.slice D' j' f')) ∧ (w'.cell? ⟨w.heap.size + 1 + 1, 0, none⟩ = some (cellD w' (w.heap.size + 1 + 1) 0) ∧ w'.cell? ⟨w.heap.size + 1 + 1, 1, none⟩ = some (cellD w' (w.heap.size + 1 + 1) 1) ∧ w'.cell? ⟨w.heap.size + 1 + 1, 2, none⟩ = some (cellD w' (w.heap.size + 1 + 1) 2) ∧ w'.cell? ⟨w.heap.size + 1 + 1, 3, none⟩ = some (cellD w' (w.heap.size + 1 + 1) 3) ∧ w'.cell? ⟨w.heap.size + 1 + 1, 4, none⟩ = some (cellD w' (w.heap.size + 1 + 1) 4) ∧ w'.cell? ⟨w.heap.size + 1 + 1, 5, none⟩ = some (cellD w' (w.heap.size + 1 + 1) 5)) ∧ w'.frozen? ⟨w.heap.size + 1 + 1, 0, none⟩ = false ∧ w'.frozen? ⟨w.heap.size + 1 + 1, 1, none⟩ = false ∧ w'.frozen? ⟨w.heap.size + 1 + 1, 2, none⟩ = false ∧ w'.frozen? ⟨w.heap.size + 1 + 1, 3, none⟩ = false ∧ w'.frozen? ⟨w.heap.size + 1 + 1, 4, none⟩ = false ∧ w'.frozen? ⟨w.heap.size + 1 + 1, 5, none⟩ = false) (first | exact ⟨bx6 (T := 45) bts, bx6 (T := 45) bts, Wk.out6 (T := 45) bts⟩) (first | (go_at_call 39; with_reducible refine (RatAdd_any _ (h.bl slc) (h'.bl slc)).mono ?_; rintro en w2 ⟨s2, A2, n2, c2, B2, m2, d2, rfl, hR2, hb2⟩) | (go_at_call 39; with_reducible refine (RatAdd_any _ (k.bl slc) (k'.bl slc)).mono ?_; rintro en w3 ⟨s3, A3, n3, c3, B3, m3, d3, rfl, hR3, hb3⟩) | (go_at_call 63; refine (ifPoint_any (p := ⟨addR p.x p'.x, addR p.y p'.y⟩) _ (OwP.two hR2 hR3 hb3 (Bl.size hb2))).mono ?_; rintro en w4 ⟨s1, A1, n1, c1, B1, m1, d1, t1, C1, i1, e1, D1, j1, f1, rfl, hX, hb4⟩))
  have hz : w.heap.size + 1 + 1 + 1 ≤ W.heap.size := hr.lt
  have hr := (show Wk 6 45 (w.heap.size + 1 + 1) w4 from bts)
  have hbW : Bl w w4 := slc
  have hX := hX.low (show w.heap.size + 1 + 1 + 1 ≤ W.drew.heap.size from hz)
  obtain ⟨v0, x0⟩ := hr.val_ (i := 0) (by omega)
  obtain ⟨v1, x1⟩ := hr.val_ (i := 1) (by omega)
  obtain ⟨v2, x2⟩ := hr.val_ (i := 2) (by omega)
  obtain ⟨v3, x3⟩ := hr.val_ (i := 3) (by omega)
  obtain ⟨v4, x4⟩ := hr.val_ (i := 4) (by omega)
  obtain ⟨v5, x5⟩ := hr.val_ (i := 5) (by omega)
  have hg := hr.lt
  obtain ⟨cs4, hB4, hc4⟩ := hr
  have hf0 := hB4.frozen 0
  have hf1 := hB4.frozen 1
  have hf2 := hB4.frozen 2
  have hf3 := hB4.frozen 3
  have hf4 := hB4.frozen 4
  have hf5 := hB4.frozen 5
  go_wp2_with fail
  exact bodyPost_ret (v := .agg #[.bool s1, .slice A1 n1 c1, .slice B1 m1 d1, .bool t1, .slice C1 i1 e1, .slice D1 j1 f1]) (by simp [results, Tryz.results32, go_sem, x0, x1, x2, x3, x4, x5]) rfl ⟨_, _, _, _, _, _, _, _, _, _, _, _, _, _, rfl, ((((((hX.far (by simp) _).far (by simp) _).far (by simp) _).far (by simp) _).far (by simp) _).far (by simp) _).low (by omega), slc⟩


theorem cmpR_val {r s : RatD} (h : OkR r ∧ OkR s) : cmpR r s = cmpZ (rn r * (rd s : Int)) (rn s * (rd r : Int)) := if_pos h
set_option maxRecDepth 100000 in
set_option maxHeartbeats 1000000 in
theorem RatCmp_yes (w : World) {s : Bool} {A : Option Addr} {n c : Nat} {B : Option Addr} {m d : Nat} {r : RatD} {s' : Bool} {A' : Option Addr} {n' c' : Nat} {B' : Option Addr} {m' d' : Nat} {r' : RatD} (h : RdR w s A n c B m d r) (k : RdR w s' A' n' c' B' m' d' r') (ho : OkR r ∧ OkR r') :
    Calls Tryz.prog 34 #[.agg #[.bool s, .slice A n c, .slice B m d], .agg #[.bool s', .slice A' n' c', .slice B' m' d']] w fun e w' => e = .returned (.int .i64 (cmpR r r')) ∧ Bl w w' := by
  have hall := Lib.hid (allOk_two.2 ho)
  have hI := IsR.out h ho.1
  have hI' := IsR.out k ho.2
  have hL := OkR.lens h ho.1
  have hL' := OkR.lens k ho.2
  have hval := Lib.hid (cmpR_val ho)
  clear ho
  generalize hcz : cmpZ (rn r * (rd r' : Int)) (rn r' * (rd r : Int)) = cz at *
  have hcz := Lib.hid hcz; rename_i h_; clear h_
  go_enter Tryz.func34, Tryz.ntmps34
  go_wp2_with fail
  refine calls_gen (fun W => Bl w W ∧ Blk W (w.heap.size) 34 #[.bool s, .slice A n c, .slice B m d] ∧ Blk W (w.heap.size + 1) 34 #[.bool s', .slice A' n' c', .slice B' m' d'] ∧ Blk W (w.heap.size + 1 + 1) 34 #[.bool s, .slice A n c, .slice B m d, .bool s', .slice A' n' c', .slice B' m' d']) ⟨slc, bts, bts, Blk.new2 _ _ _ _ _⟩ ?_
  rintro W ⟨hbW, hx, hx', hy⟩
  refine (areRats_yes _ (RdRS.two hy (h.bl hbW) (k.bl hbW)) hall.out).mono ?_
  rintro e w1 ⟨rfl, hb1⟩
  clear hy
  have hx := hx.bl hb1
  have hx' := hx'.bl hb1
  have hbW := hbW.next hb1
  clear hb1
  obtain ⟨i0, i1, i2⟩ := bx3 hx
  obtain ⟨j0, j1, j2⟩ := bx3 hx'
  go_wp2_with fail
  refine (rcompare_any _ (RdR.bl hI hbW) (RdR.bl hI' hbW) (by omega) (by omega) (by omega) (by omega)).mono ?_
  rw [hcz.out]
  rintro e w2 ⟨rfl, hb2⟩
  go_wp2_with fail
  go_ret
  exact ⟨by rw [hval.out]; rfl, hbW.next hb2⟩


end

section


section
variable {x0 y0 x1 y1 x2 y2 : Rat}
theorem addP_toP {x y u v : Rat} (hx : Bd 17 x) (hy : Bd 17 y) (hu : Bd 17 u) (hv : Bd 17 v) : addP (toP x y) (toP u v) = toP (x + u) (y + v) ∧ Bd 578 (x + u) ∧ Bd 578 (y + v) := by
  have h1 : Bd 578 (x + u) := (hx.add hu).mono (by decide)
  have h2 : Bd 578 (y + v) := (hy.add hv).mono (by decide)
  refine ⟨?_, h1, h2⟩
  unfold addP
  rw [show (toP x y).x = toR x from rfl, show (toP u v).x = toR u from rfl, show (toP x y).y = toR y from rfl, show (toP u v).y = toR v from rfl,
    addR_toR (hx.fit (by decide)) (hu.fit (by decide)) (h1.fit (by decide)), addR_toR (hy.fit (by decide)) (hv.fit (by decide)) (h2.fit (by decide))]
  exact ifP_toP (h1.fit (by decide)) (h2.fit (by decide))
/-- Differences of points that are not so small. -/
theorem subP_gen {x y u v : Rat} (hx : Bd 19652 x) (hy : Bd 19652 y) (hu : Bd 19652 u) (hv : Bd 19652 v) : subP (toP x y) (toP u v) = toP (x - u) (y - v) ∧ Bd 772402208 (x - u) ∧ Bd 772402208 (y - v) := by
  have h1 : Bd 772402208 (x - u) := (hx.sub hu).mono (by decide)
  have h2 : Bd 772402208 (y - v) := (hy.sub hv).mono (by decide)
  refine ⟨?_, h1, h2⟩
  unfold subP
  rw [show (toP x y).x = toR x from rfl, show (toP u v).x = toR u from rfl, show (toP x y).y = toR y from rfl, show (toP u v).y = toR v from rfl,
    subR_toR (hx.fit (by decide)) (hu.fit (by decide)) (h1.fit (by decide)), subR_toR (hy.fit (by decide)) (hv.fit (by decide)) (h2.fit (by decide))]
  exact ifP_toP (h1.fit (by decide)) (h2.fit (by decide))
theorem dblA_gen {x0 y0 x1 y1 x2 y2 : Rat} (a0 : Bd 19652 x0) (b0 : Bd 19652 y0) (a1 : Bd 19652 x1) (b1 : Bd 19652 y1) (a2 : Bd 19652 x2) (b2 : Bd 19652 y2) :
    dblA (toP x0 y0) (toP x1 y1) (toP x2 y2) = toR (detQ x0 y0 x1 y1 x2 y2) ∧ Bd 711875459944780985046933946228539392 (detQ x0 y0 x1 y1 x2 y2) := by
  obtain ⟨e1, h1, h2⟩ := subP_gen a1 b1 a0 b0
  obtain ⟨e2, h3, h4⟩ := subP_gen a2 b2 a0 b0
  have m1 : Bd 596605170923275264 ((x1 - x0) * (y2 - y0)) := (h1.mul h4).mono (by decide)
  have m2 : Bd 596605170923275264 ((y1 - y0) * (x2 - x0)) := (h2.mul h3).mono (by decide)
  have m3 : Bd 711875459944780985046933946228539392 (detQ x0 y0 x1 y1 x2 y2) := (m1.sub m2).mono (by decide)
  refine ⟨?_, m3⟩
  unfold dblA
  rw [e1, e2]
  unfold crossP
  rw [show (toP (x1 - x0) (y1 - y0)).x = toR (x1 - x0) from rfl, show (toP (x1 - x0) (y1 - y0)).y = toR (y1 - y0) from rfl, show (toP (x2 - x0) (y2 - y0)).x = toR (x2 - x0) from rfl, show (toP (x2 - x0) (y2 - y0)).y = toR (y2 - y0) from rfl,
    mulR_toR (h1.fit (by decide)) (h4.fit (by decide)) (m1.fit (by decide)), mulR_toR (h2.fit (by decide)) (h3.fit (by decide)) (m2.fit (by decide)), subR_toR (m1.fit (by decide)) (m2.fit (by decide)) (m3.fit (by decide))]
  rfl
theorem sgn_toR {N : Nat} {q : Rat} (h : Bd N q) (hN : N < Bs ^ 24) : (0 < sgnR (toR q)) ↔ 0 < q := by
  rw [sgnR_toR (h.fit hN)]
  by_cases h1 : q < 0
  · rw [if_pos h1]
    constructor
    · intro h; omega
    · intro h; exfalso; grind
  · rw [if_neg h1]
    by_cases h2 : 0 < q
    · rw [if_pos h2]; exact ⟨fun _ => h2, fun _ => by omega⟩
    · rw [if_neg h2]; exact ⟨fun h => by omega, fun h => absurd h h2⟩
theorem okP_toP {N : Nat} {x y : Rat} (hx : Bd N x) (hy : Bd N y) (hN : N < Bs ^ 24) : OkP (toP x y) := ⟨(hx.fit hN).ok, (hy.fit hN).ok⟩
theorem propB_gen {x0 y0 x1 y1 x2 y2 : Rat} (a0 : Bd 19652 x0) (b0 : Bd 19652 y0) (a1 : Bd 19652 x1) (b1 : Bd 19652 y1) (a2 : Bd 19652 x2) (b2 : Bd 19652 y2) (h : 0 < detQ x0 y0 x1 y1 x2 y2) : propB [toP x0 y0, toP x1 y1, toP x2 y2] = true := by
  obtain ⟨e, hd⟩ := dblA_gen a0 b0 a1 b1 a2 b2
  refine propB_yes ⟨?_, _, _, _, rfl, by rw [e]; exact (sgn_toR hd (by decide)).2 h⟩
  intro k hk
  simp only [List.length_cons, List.length_nil] at hk
  rcases (show k = 0 ∨ k = 1 ∨ k = 2 by omega) with rfl | rfl | rfl
  · exact okP_toP a0 b0 (by decide)
  · exact okP_toP a1 b1 (by decide)
  · exact okP_toP a2 b2 (by decide)
theorem noPos3 {a b c d e : PtD} (h0 : ¬ 0 < sgnR (dblA a b c)) (h1 : ¬ 0 < sgnR (dblA a b d)) (h2 : ¬ 0 < sgnR (dblA a b e)) : NoPos a b [c, d, e] := by
  intro k hk
  simp only [List.length_cons, List.length_nil] at hk
  rcases (show k = 0 ∨ k = 1 ∨ k = 2 by omega) with rfl | rfl | rfl
  · exact h0
  · exact h1
  · exact h2
/-- What FnShapes asks of a corner list l, its neighbour m and its shape s. -/
def ShOk (l m : List PtD) (s : RatD) : Prop :=
  sgnR s = 1 ∧ OkR s ∧ OkR (ofFrac 1 1) ∧ cmpR s (ofFrac 1 1) = -1 ∧ ovB l l = true ∧ ovB l m = false ∧ ovB m l = false ∧ areaL l = areaL m ∧ sgnR (areaL l) = 1
theorem sq_nn (x : Rat) : 0 ≤ x * x := by
  rcases Rat.le_total (a := 0) (b := x) with h | h
  · exact Rat.mul_nonneg h h
  · have h1 : 0 ≤ -x := by grind
    have h2 := Rat.mul_nonneg h1 h1
    grind
theorem sq_zero {x : Rat} (h : x * x ≤ 0) : x = 0 := by
  have h1 := sq_nn x
  have h2 : x * x = 0 := by grind
  rcases Rat.mul_eq_zero.1 h2 with h | h <;> exact h
/-- The longest side of a triangle is greater than twice its area. -/
theorem long_gt {a b c e L : Rat} (hd : 0 < a * e - b * c) (h1 : a * a + b * b ≤ L) (h2 : c * c + e * e ≤ L) (h3 : (c - a) * (c - a) + (e - b) * (e - b) ≤ L) : a * e - b * c < L := by
  have hX := sq_nn (a - e)
  have hY := sq_nn (b + c)
  rcases Rat.le_total (a := L) (b := a * e - b * c) with h | h
  · exfalso
    have s : (a - e) * (a - e) + (b + c) * (b + c) = (a * a + b * b) + (c * c + e * e) - 2 * (a * e - b * c) := by grind
    have x0 := sq_zero (x := a - e) (by grind)
    have y0 := sq_zero (x := b + c) (by grind)
    have q1 : a = e := by grind
    have q2 : c = -b := by grind
    subst q1 q2
    grind
  · rcases Rat.le_iff_lt_or_eq.1 h with h | h
    · exact h
    · exfalso
      have s : (a - e) * (a - e) + (b + c) * (b + c) = (a * a + b * b) + (c * c + e * e) - 2 * (a * e - b * c) := by grind
      have x0 := sq_zero (x := a - e) (by grind)
      have y0 := sq_zero (x := b + c) (by grind)
      have q1 : a = e := by grind
      have q2 : c = -b := by grind
      subst q1 q2
      grind
def sdQ (x0 y0 x1 y1 : Rat) : Rat := (x1 - x0) * (x1 - x0) + (y1 - y0) * (y1 - y0)
theorem side_toP {x0 y0 x1 y1 : Rat} (a0 : Bd 17 x0) (b0 : Bd 17 y0) (a1 : Bd 17 x1) (b1 : Bd 17 y1) : sideR (toP x0 y0) (toP x1 y1) = toR (sdQ x0 y0 x1 y1) ∧ Bd 223224238112 (sdQ x0 y0 x1 y1) := by
  obtain ⟨e1, h1, h2⟩ := subP_toP a1 b1 a0 b0
  have m1 : Bd 334084 ((x1 - x0) * (x1 - x0)) := (h1.mul h1).mono (by decide)
  have m2 : Bd 334084 ((y1 - y0) * (y1 - y0)) := (h2.mul h2).mono (by decide)
  have m3 : Bd 223224238112 (sdQ x0 y0 x1 y1) := (m1.add m2).mono (by decide)
  refine ⟨?_, m3⟩
  unfold sideR innP
  rw [e1, show (toP (x1 - x0) (y1 - y0)).x = toR (x1 - x0) from rfl, show (toP (x1 - x0) (y1 - y0)).y = toR (y1 - y0) from rfl,
    mulR_toR (h1.fit (by decide)) (h1.fit (by decide)) (m1.fit (by decide)), mulR_toR (h2.fit (by decide)) (h2.fit (by decide)) (m2.fit (by decide)), addR_toR (m1.fit (by decide)) (m2.fit (by decide)) (m3.fit (by decide))]
  rfl
theorem max_bd {N : Nat} {p q : Rat} (hp : Bd N p) (hq : Bd N q) (hN : N < Bs ^ 24) : ∃ r, maxR (toR p) (toR q) = toR r ∧ Bd N r ∧ p ≤ r ∧ q ≤ r := by
  refine ⟨if p < q then q else p, maxR_toR (hp.fit hN) (hq.fit hN), ?_, ?_, ?_⟩
  · split
    · exact hq
    · exact hp
  · split <;> grind
  · split <;> grind
theorem shape_ok (h : Sm6 x0 y0 x1 y1 x2 y2) (hp : propB [toP x0 y0, toP x1 y1, toP x2 y2] = true) : ∃ s : Rat, shapeL [toP x0 y0, toP x1 y1, toP x2 y2] = toR s ∧ Bd 49829060480682873324544 s ∧ 0 < s ∧ s < 1 := by
  have hd := det_pos h hp
  obtain ⟨a0, b0, a1, b1, a2, b2⟩ := h
  obtain ⟨e, hD⟩ := dblA_toP a0 b0 a1 b1 a2 b2
  obtain ⟨e1, s1⟩ := side_toP a0 b0 a1 b1
  obtain ⟨e2, s2⟩ := side_toP a1 b1 a2 b2
  obtain ⟨e3, s3⟩ := side_toP a2 b2 a0 b0
  obtain ⟨r1, f1, t1, g1, _⟩ := max_bd s1 s1 (by decide)
  obtain ⟨r2, f2, t2, g2, g3⟩ := max_bd t1 s2 (by decide)
  obtain ⟨r3, f3, t3, g4, g5⟩ := max_bd t2 s3 (by decide)
  have hL : detQ x0 y0 x1 y1 x2 y2 < r3 := by
    unfold detQ at hd ⊢
    unfold sdQ at g1 g3 g5
    refine long_gt hd ?_ ?_ ?_
    · grind
    · grind
    · grind
  have h0 : r3 ≠ 0 := by grind
  have hq : Bd 49829060480682873324544 (detQ x0 y0 x1 y1 x2 y2 / r3) := (hD.div t3).mono (by decide)
  refine ⟨detQ x0 y0 x1 y1 x2 y2 / r3, ?_, hq, ?_, ?_⟩
  · unfold shapeL
    rw [if_pos hp]
    show shapeR (toP x0 y0) (toP x1 y1) (toP x2 y2) = _
    unfold shapeR
    show divR (dblA (toP x0 y0) (toP x1 y1) (toP x2 y2)) (maxR (maxR (maxR (sideR (toP x0 y0) (toP x1 y1)) (sideR (toP x0 y0) (toP x1 y1))) (sideR (toP x1 y1) (toP x2 y2))) (sideR (toP x2 y2) (toP x0 y0))) = _
    rw [e, e1, e2, e3, f1, f2, f3, divR_toR (hD.fit (by decide)) (t3.fit (by decide)) h0 (hq.fit (by decide))]
  · have hr : 0 < r3 := by grind
    rw [Rat.div_def]
    exact Rat.mul_pos hd (Rat.inv_pos.2 hr)
  · have hr : 0 < r3 := by grind
    have hi := Rat.inv_pos.2 hr
    have h1 : r3 * r3⁻¹ = 1 := Rat.mul_inv_cancel _ h0
    have h2 := Rat.mul_pos (show 0 < r3 - detQ x0 y0 x1 y1 x2 y2 by grind) hi
    rw [Rat.div_def]
    grind
theorem sh_ok (h : Sm6 x0 y0 x1 y1 x2 y2) (hp : propB [toP x0 y0, toP x1 y1, toP x2 y2] = true) (hx : Bd 19652 (x0 + x1 - x2)) (hy : Bd 19652 (y0 + y1 - y2)) :
    ShOk [toP x0 y0, toP x1 y1, toP x2 y2] [toP x1 y1, toP x0 y0, toP (x0 + x1 - x2) (y0 + y1 - y2)] (shapeL [toP x0 y0, toP x1 y1, toP x2 y2]) := by
  have hd := det_pos h hp
  obtain ⟨s, es, hs, hs0, hs1⟩ := shape_ok h hp
  obtain ⟨ear, har⟩ := area_toP h
  obtain ⟨a0, b0, a1, b1, a2, b2⟩ := h
  have u1 : Bd 1 (mkRat 1 1) := bd_mk (by omega) (by decide) (by omega)
  have e1 : ofFrac 1 1 = toR (mkRat 1 1) := by rw [ofFrac_toR _ (by omega), if_pos (u1.fit (by decide))]
  have k1 : mkRat 1 1 = 1 := by decide +kernel
  have A0 := a0.mono (show 17 ≤ 19652 by decide)
  have A1 := a1.mono (show 17 ≤ 19652 by decide)
  have A2 := a2.mono (show 17 ≤ 19652 by decide)
  have B0 := b0.mono (show 17 ≤ 19652 by decide)
  have B1 := b1.mono (show 17 ≤ 19652 by decide)
  have B2 := b2.mono (show 17 ≤ 19652 by decide)
  have hm : propB [toP x1 y1, toP x0 y0, toP (x0 + x1 - x2) (y0 + y1 - y2)] = true := by
    refine propB_gen A1 B1 A0 B0 hx hy ?_
    have : detQ x1 y1 x0 y0 (x0 + x1 - x2) (y0 + y1 - y2) = detQ x0 y0 x1 y1 x2 y2 := by unfold detQ; grind
    rw [this]
    exact hd
  have hsl : sgnR (areaL [toP x0 y0, toP x1 y1, toP x2 y2]) = 1 := by
    have : areaL [toP x0 y0, toP x1 y1, toP x2 y2] = toR (arQ x0 y0 x1 y1 x2 y2) := by
      unfold areaL
      rw [if_pos hp]
      exact ear
    have hpos : 0 < arQ x0 y0 x1 y1 x2 y2 := Rat.mul_pos (by decide +kernel) hd
    rw [this, sgnR_toR (har.fit (by decide)), if_neg (by grind), if_pos hpos]
  refine ⟨?_, ?_, ?_, ?_, ?_, ?_, ?_, ?_, hsl⟩
  · rw [es, sgnR_toR (hs.fit (by decide)), if_neg (by grind), if_pos hs0]
  · rw [es]; exact (hs.fit (by decide)).ok
  · rw [e1]; exact (u1.fit (by decide)).ok
  · rw [es, e1, cmpR_toR (hs.fit (by decide)) (u1.fit (by decide)), k1, if_pos hs1]
  · have hn : sepB [toP x0 y0, toP x1 y1, toP x2 y2] [toP x0 y0, toP x1 y1, toP x2 y2] = false := by
      unfold sepB
      simp only [decide_eq_false_iff_not]
      rintro ⟨a, b, c, e, hs⟩
      injection e with q1 e
      injection e with q2 e
      injection e with q3 e
      subst q1 q2 q3
      rcases hs with hs | hs | hs
      · refine hs 2 (by simp) ?_
        obtain ⟨e, hb⟩ := dblA_gen A0 B0 A1 B1 A2 B2
        show 0 < sgnR (dblA _ _ (toP x2 y2))
        rw [e]
        exact (sgn_toR hb (by decide)).2 hd
      · refine hs 0 (by simp) ?_
        obtain ⟨e, hb⟩ := dblA_gen A1 B1 A2 B2 A0 B0
        show 0 < sgnR (dblA _ _ (toP x0 y0))
        rw [e]
        refine (sgn_toR hb (by decide)).2 ?_
        have : detQ x1 y1 x2 y2 x0 y0 = detQ x0 y0 x1 y1 x2 y2 := by unfold detQ; grind
        rw [this]
        exact hd
      · refine hs 1 (by simp) ?_
        obtain ⟨e, hb⟩ := dblA_gen A2 B2 A0 B0 A1 B1
        show 0 < sgnR (dblA _ _ (toP x1 y1))
        rw [e]
        refine (sgn_toR hb (by decide)).2 ?_
        have : detQ x2 y2 x0 y0 x1 y1 = detQ x0 y0 x1 y1 x2 y2 := by unfold detQ; grind
        rw [this]
        exact hd
    unfold ovB
    rw [hp, hn]
    rfl
  · have hn : sepB [toP x0 y0, toP x1 y1, toP x2 y2] [toP x1 y1, toP x0 y0, toP (x0 + x1 - x2) (y0 + y1 - y2)] = true := by
      refine sepB_yes (.inl (noPos3 ?_ ?_ ?_))
      · obtain ⟨e, hb⟩ := dblA_gen A0 B0 A1 B1 A1 B1
        rw [e, sgn_toR hb (by decide)]
        unfold detQ; grind
      · obtain ⟨e, hb⟩ := dblA_gen A0 B0 A1 B1 A0 B0
        rw [e, sgn_toR hb (by decide)]
        unfold detQ; grind
      · obtain ⟨e, hb⟩ := dblA_gen A0 B0 A1 B1 hx hy
        rw [e, sgn_toR hb (by decide)]
        have : detQ x0 y0 x1 y1 (x0 + x1 - x2) (y0 + y1 - y2) = - detQ x0 y0 x1 y1 x2 y2 := by unfold detQ; grind
        rw [this]
        grind
    unfold ovB
    rw [hp, hm, hn]
    rfl
  · have hn : sepB [toP x1 y1, toP x0 y0, toP (x0 + x1 - x2) (y0 + y1 - y2)] [toP x0 y0, toP x1 y1, toP x2 y2] = true := by
      refine sepB_yes (.inl (noPos3 ?_ ?_ ?_))
      · obtain ⟨e, hb⟩ := dblA_gen A1 B1 A0 B0 A0 B0
        rw [e, sgn_toR hb (by decide)]
        unfold detQ; grind
      · obtain ⟨e, hb⟩ := dblA_gen A1 B1 A0 B0 A1 B1
        rw [e, sgn_toR hb (by decide)]
        unfold detQ; grind
      · obtain ⟨e, hb⟩ := dblA_gen A1 B1 A0 B0 A2 B2
        rw [e, sgn_toR hb (by decide)]
        have : detQ x1 y1 x0 y0 x2 y2 = - detQ x0 y0 x1 y1 x2 y2 := by unfold detQ; grind
        rw [this]
        grind
    unfold ovB
    rw [hp, hm, hn]
    cases sepB [toP x0 y0, toP x1 y1, toP x2 y2] [toP x1 y1, toP x0 y0, toP (x0 + x1 - x2) (y0 + y1 - y2)] <;> rfl
  · unfold areaL
    rw [if_pos hp, if_pos hm]
    show areaR (toP x0 y0) (toP x1 y1) (toP x2 y2) = areaR (toP x1 y1) (toP x0 y0) (toP (x0 + x1 - x2) (y0 + y1 - y2))
    unfold areaR
    obtain ⟨e, _⟩ := dblA_gen A0 B0 A1 B1 A2 B2
    obtain ⟨e', _⟩ := dblA_gen A1 B1 A0 B0 hx hy
    have : detQ x1 y1 x0 y0 (x0 + x1 - x2) (y0 + y1 - y2) = detQ x0 y0 x1 y1 x2 y2 := by unfold detQ; grind
    rw [e, e', this]
end


end

section


theorem farP {p0 p1 p2 : PtD} (h0 : PtS p0) (h1 : PtS p1) (h2 : PtS p2) (hp : propB [p0, p1, p2] = true) : ShOk [p0, p1, p2] [p1, p0, (subP (addP p0 p1) p2)] (shapeL [p0, p1, p2]) := by
  obtain ⟨x0, y0, rfl, a0, b0⟩ := h0
  obtain ⟨x1, y1, rfl, a1, b1⟩ := h1
  obtain ⟨x2, y2, rfl, a2, b2⟩ := h2
  obtain ⟨e, hx, hy⟩ := addP_toP a0 b0 a1 b1
  have hx2 : Bd 19652 (x0 + x1 - x2) := (hx.sub a2).mono (by decide)
  have hy2 : Bd 19652 (y0 + y1 - y2) := (hy.sub b2).mono (by decide)
  obtain ⟨e2, _⟩ := subP_gen (hx.mono (show 578 ≤ 19652 by decide)) (hy.mono (show 578 ≤ 19652 by decide)) (a2.mono (show 17 ≤ 19652 by decide)) (b2.mono (show 17 ≤ 19652 by decide))
  have h := sh_ok ⟨a0, b0, a1, b1, a2, b2⟩ hp hx2 hy2
  rw [show (⟨toR x0, toR y0⟩ : PtD) = toP x0 y0 from rfl, show (⟨toR x1, toR y1⟩ : PtD) = toP x1 y1 from rfl, show (⟨toR x2, toR y2⟩ : PtD) = toP x2 y2 from rfl, e, e2]
  exact h
set_option maxRecDepth 100000 in
set_option maxHeartbeats 8000000 in
theorem FnShapes_any (w0 : World) {Ac : Option Addr} {nc cc : Nat} {lc : List Int} (hc : RdB w0 Ac nc cc lc) :
    Calls Tryz.prog 7 #[.slice Ac nc cc] w0 fun e w' => e = .returned (.bool true) ∧ Bl w0 w' := by
  have hn := hc.small
  by_cases hbig : (nc : Int) > 1048576
  · go_enter Tryz.func7, Tryz.ntmps7
    go_wp2_with fail
    go_ret
    exact ⟨rfl, slc⟩
  · have hsmall : ¬ 1048576 < (nc : Int) := hbig
    go_enter Tryz.func7, Tryz.ntmps7
    go_wp2_with fail
    refine (MakeTriangle_any _ 0 (by omega) hc).mono ?_
    rintro e w ⟨g, c0, p0, p1, p2, rfl, h, hp, hS0, hS1, hS2, hb0⟩
    have hE := farP hS0 hS1 hS2 hp
    have hE := Lib.hid hE; rename_i h_; clear h_
    have hp := Lib.hid hp; rename_i h_; clear h_
    clear hS0 hS1 hS2
    have hl0 := h
    obtain ⟨_, e0, hg, hc0⟩ := h.cells 0 (by omega)
    cases e0
    rw [Addr.add_lit] at hc0
    obtain ⟨s, A, n, c, B, m, d, t, C, i, e, D, j, f, ⟨x0, x1, x2, x3, x4, x5⟩, hX0, hY0⟩ := (show PtAt w ⟨g, 0, none⟩ p0 from hc0)
    have x0 : w.cell? ⟨g, 0, none⟩ = some (.bool s) := x0
    have x1 : w.cell? ⟨g, 1, none⟩ = some (.slice A n c) := x1
    have x2 : w.cell? ⟨g, 2, none⟩ = some (.slice B m d) := x2
    have x3 : w.cell? ⟨g, 3, none⟩ = some (.bool t) := x3
    have x4 : w.cell? ⟨g, 4, none⟩ = some (.slice C i e) := x4
    have x5 : w.cell? ⟨g, 5, none⟩ = some (.slice D j f) := x5
    obtain ⟨_, e0, hg, hc1⟩ := h.cells 1 (by omega)
    cases e0
    rw [Addr.add_lit] at hc1
    obtain ⟨s', A', n', c', B', m', d', t', C', i', e', D', j', f', ⟨y0, y1, y2, y3, y4, y5⟩, hX1, hY1⟩ := (show PtAt w ⟨g, 6, none⟩ p1 from hc1)
    have y0 : w.cell? ⟨g, 6, none⟩ = some (.bool s') := y0
    have y1 : w.cell? ⟨g, 7, none⟩ = some (.slice A' n' c') := y1
    have y2 : w.cell? ⟨g, 8, none⟩ = some (.slice B' m' d') := y2
    have y3 : w.cell? ⟨g, 9, none⟩ = some (.bool t') := y3
    have y4 : w.cell? ⟨g, 10, none⟩ = some (.slice C' i' e') := y4
    have y5 : w.cell? ⟨g, 11, none⟩ = some (.slice D' j' f') := y5
    obtain ⟨_, e0, hg, hc2⟩ := h.cells 2 (by omega)
    cases e0
    rw [Addr.add_lit] at hc2
    obtain ⟨s2, A2, n2, c2, B2, m2, d2, t2, C2, i2, e2, D2, j2, f2, ⟨z0, z1, z2, z3, z4, z5⟩, hX2, hY2⟩ := (show PtAt w ⟨g, 12, none⟩ p2 from hc2)
    have z0 : w.cell? ⟨g, 12, none⟩ = some (.bool s2) := z0
    have z1 : w.cell? ⟨g, 13, none⟩ = some (.slice A2 n2 c2) := z1
    have z2 : w.cell? ⟨g, 14, none⟩ = some (.slice B2 m2 d2) := z2
    have z3 : w.cell? ⟨g, 15, none⟩ = some (.bool t2) := z3
    have z4 : w.cell? ⟨g, 16, none⟩ = some (.slice C2 i2 e2) := z4
    have z5 : w.cell? ⟨g, 17, none⟩ = some (.slice D2 j2 f2) := z5
    clear hc0 hc1 hc2
    go_wp2_with fail
    go_cut [4] (fun s4 wx => ∃ (g4 : Nat) (s1 : Bool) (A1 : Option Addr) (n1 c1 : Nat) (B1 : Option Addr) (m1 d1 : Nat) (t1 : Bool) (C1 : Option Addr) (i1 e1 : Nat) (D1 : Option Addr) (j1 f1 : Nat), s4 = .pointer (some ⟨g4, 0, none⟩) ∧ Blk wx g4 45 #[.bool s1, .slice A1 n1 c1, .slice B1 m1 d1, .bool t1, .slice C1 i1 e1, .slice D1 j1 f1] ∧ RdR wx s1 A1 n1 c1 B1 m1 d1 (subP (addP p0 p1) p2).x ∧ RdR wx t1 C1 i1 e1 D1 j1 f1 (subP (addP p0 p1) p2).y ∧ Bl w wx)
    case first =>
      go_region_held3 (fun w' => (w'.cell? ⟨g, 0, none⟩ = some (.bool s) ∧ w'.cell? ⟨g, 1, none⟩ = some (.slice A n c) ∧ w'.cell? ⟨g, 2, none⟩ = some (.slice B m d) ∧ w'.cell? ⟨g, 3, none⟩ = some (.bool t) ∧ w'.cell? ⟨g, 4, none⟩ = some (.slice C i e) ∧ w'.cell? ⟨g, 5, none⟩ = some (.slice D j f)) ∧ (w'.cell? ⟨g, 6, none⟩ = some (.bool s') ∧ w'.cell? ⟨g, 7, none⟩ = some (.slice A' n' c') ∧ w'.cell? ⟨g, 8, none⟩ = some (.slice B' m' d') ∧ w'.cell? ⟨g, 9, none⟩ = some (.bool t') ∧ w'.cell? ⟨g, 10, none⟩ = some (.slice C' i' e') ∧ w'.cell? ⟨g, 11, none⟩ = some (.slice D' j' f')) ∧ (w'.cell? ⟨g, 12, none⟩ = some (.bool s2) ∧ w'.cell? ⟨g, 13, none⟩ = some (.slice A2 n2 c2) ∧ w'.cell? ⟨g, 14, none⟩ = some (.slice B2 m2 d2) ∧ w'.cell? ⟨g, 15, none⟩ = some (.bool t2) ∧ w'.cell? ⟨g, 16, none⟩ = some (.slice C2 i2 e2) ∧ w'.cell? ⟨g, 17, none⟩ = some (.slice D2 j2 f2))) (first | exact ⟨⟨(Bl.cellOf (w := w) (p := ⟨g, 0, none⟩) slc hg).trans x0, (Bl.cellOf (w := w) (p := ⟨g, 1, none⟩) slc hg).trans x1, (Bl.cellOf (w := w) (p := ⟨g, 2, none⟩) slc hg).trans x2, (Bl.cellOf (w := w) (p := ⟨g, 3, none⟩) slc hg).trans x3, (Bl.cellOf (w := w) (p := ⟨g, 4, none⟩) slc hg).trans x4, (Bl.cellOf (w := w) (p := ⟨g, 5, none⟩) slc hg).trans x5⟩, ⟨(Bl.cellOf (w := w) (p := ⟨g, 6, none⟩) slc hg).trans y0, (Bl.cellOf (w := w) (p := ⟨g, 7, none⟩) slc hg).trans y1, (Bl.cellOf (w := w) (p := ⟨g, 8, none⟩) slc hg).trans y2, (Bl.cellOf (w := w) (p := ⟨g, 9, none⟩) slc hg).trans y3, (Bl.cellOf (w := w) (p := ⟨g, 10, none⟩) slc hg).trans y4, (Bl.cellOf (w := w) (p := ⟨g, 11, none⟩) slc hg).trans y5⟩, ⟨(Bl.cellOf (w := w) (p := ⟨g, 12, none⟩) slc hg).trans z0, (Bl.cellOf (w := w) (p := ⟨g, 13, none⟩) slc hg).trans z1, (Bl.cellOf (w := w) (p := ⟨g, 14, none⟩) slc hg).trans z2, (Bl.cellOf (w := w) (p := ⟨g, 15, none⟩) slc hg).trans z3, (Bl.cellOf (w := w) (p := ⟨g, 16, none⟩) slc hg).trans z4, (Bl.cellOf (w := w) (p := ⟨g, 17, none⟩) slc hg).trans z5⟩⟩) (first | (go_at_call 32; (with_reducible refine (AddPoints_any _ (hX0.bl slc) (hY0.bl slc) (hX1.bl slc) (hY1.bl slc)).mono ?_); rintro en w2 ⟨s4, A4, n4, c4, B4, m4, d4, t4, C4, i4, e4, D4, j4, f4, rfl, hP2, hb2⟩; (have hz2 : w.heap.size ≤ w2.heap.size := Bl.size (by exact slc)); (first | have hq : Wk 6 45 _ _ := wk_newd hb2 | have hq : Wk 6 45 _ _ := wk_new hb2 | have hq : Wk 6 45 _ _ := Wk.bl hq hb2 | skip)) | (go_at_call 31; (with_reducible refine (SubtractPoints_any _ (hP2.rx.bl slc) (hP2.ry.bl slc) (hX2.bl slc) (hY2.bl slc)).mono ?_); rintro en w3 ⟨s1, A1, n1, c1, B1, m1, d1, t1, C1, i1, e1, D1, j1, f1, rfl, hP3, hb3⟩; (have hz3 : w.heap.size ≤ w3.heap.size := Bl.size (by exact slc)); (first | have hq : Wk 6 45 _ _ := wk_newd hb3 | have hq : Wk 6 45 _ _ := wk_new hb3 | have hq : Wk 6 45 _ _ := Wk.bl hq hb3 | skip); (try obtain ⟨⟨q0, q1, q2, q3, q4, q5⟩, fz0, fz1, fz2, fz3, fz4, fz5⟩ := hq.out6)))
      · go_wp2_with fail
        go_meet
        exact ⟨w3.heap.size, _, _, _, _, _, _, _, _, _, _, _, _, _, _, rfl, Blk.new _ _ _, hP3.rx.bl slc, hP3.ry.bl slc, slc⟩
      · go_wp2_with fail
        go_meet
        exact ⟨w2.heap.size, _, _, _, _, _, _, _, _, _, _, _, _, _, _, rfl, Wk.put6 hq _ _ _ _ _ _, (hP3.put6 hq ne_ip _ _ _ _ _ _).rx, (hP3.put6 hq ne_ip _ _ _ _ _ _).ry, slc⟩
      · go_wp2_with fail
        go_meet
        exact ⟨w.heap.size, _, _, _, _, _, _, _, _, _, _, _, _, _, _, rfl, Wk.put6 hq _ _ _ _ _ _, (hP3.put6 hq ne_ip _ _ _ _ _ _).rx, (hP3.put6 hq ne_ip _ _ _ _ _ _).ry, slc⟩
    case rest =>
      obtain ⟨g4, s1, A1, n1, c1, B1, m1, d1, t1, C1, i1, e1, D1, j1, f1, rfl, hB4, hFx, hFy, hbc⟩ := hcut
      obtain ⟨wa, rfl⟩ : ∃ wa : World, wa = wc := ⟨_, rfl⟩
      have hg4 := hB4.lt
      go_wp2_with fail
      go_region_held3 (fun w' => (w'.cell? ⟨g, 6, none⟩ = some (.bool s') ∧ w'.cell? ⟨g, 7, none⟩ = some (.slice A' n' c') ∧ w'.cell? ⟨g, 8, none⟩ = some (.slice B' m' d') ∧ w'.cell? ⟨g, 9, none⟩ = some (.bool t') ∧ w'.cell? ⟨g, 10, none⟩ = some (.slice C' i' e') ∧ w'.cell? ⟨g, 11, none⟩ = some (.slice D' j' f')) ∧ (w'.cell? ⟨g, 0, none⟩ = some (.bool s) ∧ w'.cell? ⟨g, 1, none⟩ = some (.slice A n c) ∧ w'.cell? ⟨g, 2, none⟩ = some (.slice B m d) ∧ w'.cell? ⟨g, 3, none⟩ = some (.bool t) ∧ w'.cell? ⟨g, 4, none⟩ = some (.slice C i e) ∧ w'.cell? ⟨g, 5, none⟩ = some (.slice D j f)) ∧ (w'.cell? ⟨g4, 0, none⟩ = some (.bool s1) ∧ w'.cell? ⟨g4, 1, none⟩ = some (.slice A1 n1 c1) ∧ w'.cell? ⟨g4, 2, none⟩ = some (.slice B1 m1 d1) ∧ w'.cell? ⟨g4, 3, none⟩ = some (.bool t1) ∧ w'.cell? ⟨g4, 4, none⟩ = some (.slice C1 i1 e1) ∧ w'.cell? ⟨g4, 5, none⟩ = some (.slice D1 j1 f1))) (first | exact ⟨⟨(Bl.cellOf (w := w) (p := ⟨g, 6, none⟩) slc hg).trans y0, (Bl.cellOf (w := w) (p := ⟨g, 7, none⟩) slc hg).trans y1, (Bl.cellOf (w := w) (p := ⟨g, 8, none⟩) slc hg).trans y2, (Bl.cellOf (w := w) (p := ⟨g, 9, none⟩) slc hg).trans y3, (Bl.cellOf (w := w) (p := ⟨g, 10, none⟩) slc hg).trans y4, (Bl.cellOf (w := w) (p := ⟨g, 11, none⟩) slc hg).trans y5⟩, ⟨(Bl.cellOf (w := w) (p := ⟨g, 0, none⟩) slc hg).trans x0, (Bl.cellOf (w := w) (p := ⟨g, 1, none⟩) slc hg).trans x1, (Bl.cellOf (w := w) (p := ⟨g, 2, none⟩) slc hg).trans x2, (Bl.cellOf (w := w) (p := ⟨g, 3, none⟩) slc hg).trans x3, (Bl.cellOf (w := w) (p := ⟨g, 4, none⟩) slc hg).trans x4, (Bl.cellOf (w := w) (p := ⟨g, 5, none⟩) slc hg).trans x5⟩, bx6 (T := 45) (hB4.bl slc)⟩) (fail)
      go_wp2_with fail
      refine calls_gen (fun W => Blk W wa.heap.size 45 #[.bool s', .slice A' n' c', .slice B' m' d', .bool t', .slice C' i' e', .slice D' j' f', .bool s, .slice A n c, .slice B m d, .bool t, .slice C i e, .slice D j f, .bool s1, .slice A1 n1 c1, .slice B1 m1 d1, .bool t1, .slice C1 i1 e1, .slice D1 j1 f1] ∧ Bl wa W) ⟨by exact bts, slc⟩ ?_
      rintro W ⟨hBm, hbf⟩
      have hbm := hbc.next hbf
      have hm : RdPS W (some ⟨wa.heap.size, 0, none⟩) 3 3 [p1, p0, (subP (addP p0 p1) p2)] := by
        refine ⟨rfl, by omega, by omega, fun k hk => ?_⟩
        rcases (show k = 0 ∨ k = 1 ∨ k = 2 by omega) with rfl | rfl | rfl
        · exact ⟨_, rfl, hBm.lt, _, _, _, _, _, _, _, _, _, _, _, _, _, _, ⟨(hBm.cell 0).trans rfl, (hBm.cell 1).trans rfl, (hBm.cell 2).trans rfl, (hBm.cell 3).trans rfl, (hBm.cell 4).trans rfl, (hBm.cell 5).trans rfl⟩, hX1.bl hbm, hY1.bl hbm⟩
        · exact ⟨_, rfl, hBm.lt, _, _, _, _, _, _, _, _, _, _, _, _, _, _, ⟨(hBm.cell 6).trans rfl, (hBm.cell 7).trans rfl, (hBm.cell 8).trans rfl, (hBm.cell 9).trans rfl, (hBm.cell 10).trans rfl, (hBm.cell 11).trans rfl⟩, hX0.bl hbm, hY0.bl hbm⟩
        · exact ⟨_, rfl, hBm.lt, _, _, _, _, _, _, _, _, _, _, _, _, _, _, ⟨(hBm.cell 12).trans rfl, (hBm.cell 13).trans rfl, (hBm.cell 14).trans rfl, (hBm.cell 15).trans rfl, (hBm.cell 16).trans rfl, (hBm.cell 17).trans rfl⟩, hFx.bl hbf, hFy.bl hbf⟩
      have hl := RdPS.bl hl0 hbm
      have hbw := hb0.next hbm
      clear hBm hbf hbm hFx hFy hB4 hbc x0 x1 x2 x3 x4 x5 y0 y1 y2 y3 y4 y5 z0 z1 z2 z3 z4 z5 hX0 hY0 hX1 hY1 hX2 hY2
      refine (ShapeOf_any _ hl).mono ?_
      rintro e w6 ⟨s6_, A6_, n6_, c6_, B6_, m6_, d6_, rfl, hR6, hb6⟩
      have hl := RdPS.bl hl hb6
      have hm := RdPS.bl hm hb6
      have hbw := hbw.next hb6
      clear hb6
      go_wp2_with fail
      refine wp_gen (fun W => ∃ gs, Blk W gs 34 #[.bool s6_, .slice A6_ n6_ c6_, .slice B6_ m6_ d6_] ∧ RdR W s6_ A6_ n6_ c6_ B6_ m6_ d6_ (shapeL [p0, p1, p2]) ∧ Bl w6 W ∧ gs = w6.heap.size) ⟨w6.heap.size, Blk.new _ _ _, hR6.rd.bl slc, slc, rfl⟩ ?_
      clear hR6
      rintro W7 ⟨gs, hBs, hRs, hb7, hge⟩
      rw [← hge]
      clear hge
      have hl := RdPS.bl hl hb7
      have hm := RdPS.bl hm hb7
      have hbw := hbw.next hb7
      clear hb7
      have hE := hE.out
      unfold ShOk at hE
      go_region_held3 (fun w' => (w'.cell? ⟨gs, 0, none⟩ = some (.bool s6_) ∧ w'.cell? ⟨gs, 1, none⟩ = some (.slice A6_ n6_ c6_) ∧ w'.cell? ⟨gs, 2, none⟩ = some (.slice B6_ m6_ d6_))) (first | exact bx3 (T := 34) (hBs.bl slc)) (first | (go_at_call 33; (with_reducible refine (RatSign_any _ (hRs.bl slc)).mono ?_); rw [hE.1]; rintro e v1 ⟨rfl, hv1⟩) | (go_at_call 35; (with_reducible refine (RatFromInt_any _ 1 (by omega) (by omega)).mono ?_); rintro e v2 ⟨s2_, A2_, n2_, c2_, B2_, m2_, d2_, rfl, hR2, hv2⟩) | (go_at_call 34; (with_reducible refine (RatCmp_yes _ (hRs.bl slc) hR2.rd ⟨hE.2.1, hE.2.2.1⟩).mono ?_); rw [hE.2.2.2.1]; rintro e v3 ⟨rfl, hv3⟩) | (go_at_call 36; (with_reducible refine (Overlap_any _ (RdPS.bl hl slc) (RdPS.bl hl slc)).mono ?_); rw [hE.2.2.2.2.1]; rintro e v4 ⟨rfl, hv4⟩) | (go_at_call 36; (with_reducible refine (Overlap_any _ (RdPS.bl hl slc) (RdPS.bl hm slc)).mono ?_); rw [hE.2.2.2.2.2.1]; rintro e v5 ⟨rfl, hv5⟩) | (go_at_call 36; (with_reducible refine (Overlap_any _ (RdPS.bl hm slc) (RdPS.bl hl slc)).mono ?_); rw [hE.2.2.2.2.2.2.1]; rintro e v6 ⟨rfl, hv6⟩) | (go_at_call 38; (with_reducible refine (AreaOf_any _ (RdPS.bl hl slc)).mono ?_); rintro e v7 ⟨s7_, A7_, n7_, c7_, B7_, m7_, d7_, rfl, hR7, hv7⟩) | (go_at_call 38; (with_reducible refine (AreaOf_any _ (RdPS.bl hm slc)).mono ?_); rintro e v8 ⟨s8_, A8_, n8_, c8_, B8_, m8_, d8_, rfl, hR8, hv8⟩) | (go_at_call 37; (with_reducible refine (RatEqual_any _ (hR7.rd.bl slc) (hR8.rd.bl slc)).mono ?_); rw [hE.2.2.2.2.2.2.2.1, eqR_self]; rintro e v9 ⟨rfl, hv9⟩) | (go_at_call 33; (with_reducible refine (RatSign_any _ (hR7.rd.bl slc)).mono ?_); rw [hE.2.2.2.2.2.2.2.2]; rintro e v10 ⟨rfl, hv10⟩))
      have hb8 : Bl W7 v10 := slc
      go_wp2_with fail
      go_ret
      exact ⟨rfl, hbw.next hb8⟩


end

end Go.Proofs.YtggjdgjkdmgjnaaGreat
