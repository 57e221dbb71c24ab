/- Lemmas. -/
import Derived.Test.YtajlahjghapbkaaGreatRows
import Derived.Test.YtajlahjghapbkaaGreatPIntegralsM27
import Derived.Test.YtajlahjghapbkaaGreatPIntegralsM26
import Derived.Test.YtajlahjghapbkaaGreatPIntegralsM08
import Derived.Test.YtajlahjghapbkaaGreatPIntegralsM01
import Derived.Test.YtajlahjghapbkaaGreatPIntegralsM20
import Derived.Test.YtajlahjghapbkaaGreatPIntegralsM02
namespace Go.Proofs.YtajlahjghapbkaaGreat
section
open Go.RowKit

/-- Numerator and denominator are at most 10 ^ k. -/
def B10 (k : Nat) (q : Rat) : Prop := Bd (10 ^ k) q
theorem ten_lt {k : Nat} (hk : k < 216) : 10 ^ k < Bs ^ 24 := by
  have h1 : (10 : Nat) ^ k ≤ 10 ^ 215 := Nat.pow_le_pow_right (by omega) (by omega)
  exact Nat.lt_of_le_of_lt h1 (by decide)
section
variable {a b k : Nat} {p q : Rat}
theorem B10.fit (h : B10 k q) (hk : k < 216) : Fit q := Bd.fit h (ten_lt hk)
theorem B10.mono (h : B10 a q) (hk : a ≤ b) : B10 b q := Bd.mono h (Nat.pow_le_pow_right (by omega) hk)
theorem B10.of {N : Nat} (h : Bd N q) (hk : N ≤ 10 ^ k) : B10 k q := Bd.mono h hk
theorem B10.add (h : B10 a p) (k : B10 b q) : B10 (a + b + 1) (p + q) := (Bd.add h k).mono (by rw [Nat.pow_succ, Nat.pow_add]; omega)
theorem B10.sub (h : B10 a p) (k : B10 b q) : B10 (a + b + 1) (p - q) := (Bd.sub h k).mono (by rw [Nat.pow_succ, Nat.pow_add]; omega)
theorem B10.mul (h : B10 a p) (k : B10 b q) : B10 (a + b) (p * q) := (Bd.mul h k).mono (by rw [Nat.pow_add]; exact Nat.le_refl _)
theorem B10.div (h : B10 a p) (k : B10 b q) : B10 (a + b) (p / q) := (Bd.div h k).mono (by rw [Nat.pow_add]; exact Nat.le_refl _)
theorem B10.neg (h : B10 a p) : B10 a (-p) := Bd.neg h
theorem addR_b (h : B10 a p) (k : B10 b q) (hk : a + b + 1 < 216) : addR (toR p) (toR q) = toR (p + q) := addR_toR (h.fit (by omega)) (k.fit (by omega)) ((h.add k).fit hk)
theorem subR_b (h : B10 a p) (k : B10 b q) (hk : a + b + 1 < 216) : subR (toR p) (toR q) = toR (p - q) := subR_toR (h.fit (by omega)) (k.fit (by omega)) ((h.sub k).fit hk)
theorem mulR_b (h : B10 a p) (k : B10 b q) (hk : a + b < 216) : mulR (toR p) (toR q) = toR (p * q) := mulR_toR (h.fit (by omega)) (k.fit (by omega)) ((h.mul k).fit hk)
theorem divR_b (h : B10 a p) (k : B10 b q) (h0 : q ≠ 0) (hk : a + b < 216) : divR (toR p) (toR q) = toR (p / q) := divR_toR (h.fit (by omega)) (k.fit (by omega)) h0 ((h.div k).fit hk)
theorem frac_b (x : Int) (D : Nat) (hD : 0 < D) (hx : x.natAbs ≤ 10 ^ k) (hn : D ≤ 10 ^ k) (hk : k < 216) : ofFrac x D = toR (mkRat x D) ∧ B10 k (mkRat x D) := by
  have hb : B10 k (mkRat x D) := bd_mk hD hx hn
  exact ⟨by rw [ofFrac_toR x hD, if_pos (hb.fit hk)], hb⟩
theorem int_b (x : Int) (hx : x.natAbs ≤ 10 ^ k) (hk : k < 216) : ofFrac x 1 = toR (x : Rat) ∧ B10 k (x : Rat) := by
  have e : mkRat x 1 = (x : Rat) := by rw [Rat.mkRat_one]
  obtain ⟨h1, h2⟩ := frac_b x 1 (by omega) hx (Nat.one_le_pow _ _ (by omega)) hk
  rw [e] at h1 h2
  exact ⟨h1, h2⟩
end
section
variable {a b c k : Nat} {x y u v p q : Rat}
theorem ifP_b (hx : B10 a x) (hy : B10 a y) (hk : a < 216) : ifP (toP x y) = toP x y := ifP_toP (hx.fit hk) (hy.fit hk)
theorem okP_b (hx : B10 a x) (hy : B10 a y) (hk : a < 216) : OkP (toP x y) := ⟨(hx.fit hk).ok, (hy.fit hk).ok⟩
theorem addP_b (hx : B10 a x) (hy : B10 a y) (hu : B10 b u) (hv : B10 b v) (hk : a + b + 1 < 216) : addP (toP x y) (toP u v) = toP (x + u) (y + v) := by
  show ifP ⟨addR (toR x) (toR u), addR (toR y) (toR v)⟩ = _
  rw [addR_b hx hu hk, addR_b hy hv hk]
  exact ifP_b (hx.add hu) (hy.add hv) hk
theorem subP_b (hx : B10 a x) (hy : B10 a y) (hu : B10 b u) (hv : B10 b v) (hk : a + b + 1 < 216) : subP (toP x y) (toP u v) = toP (x - u) (y - v) := by
  show ifP ⟨subR (toR x) (toR u), subR (toR y) (toR v)⟩ = _
  rw [subR_b hx hu hk, subR_b hy hv hk]
  exact ifP_b (hx.sub hu) (hy.sub hv) hk
theorem sclP_b (hq : B10 b q) (hx : B10 a x) (hy : B10 a y) (hk : b + a < 216) : sclP (toR q) (toP x y) = toP (q * x) (q * y) := by
  show ifP ⟨mulR (toR q) (toR x), mulR (toR q) (toR y)⟩ = _
  rw [mulR_b hq hx hk, mulR_b hq hy hk]
  exact ifP_b (hq.mul hx) (hq.mul hy) hk
theorem dblA_b {x0 y0 x1 y1 x2 y2 : Rat} (a0 : B10 k x0) (b0 : B10 k y0) (a1 : B10 k x1) (b1 : B10 k y1) (a2 : B10 k x2) (b2 : B10 k y2) (hk : 8 * k + 5 < 216) :
    dblA (toP x0 y0) (toP x1 y1) (toP x2 y2) = toR (detQ x0 y0 x1 y1 x2 y2) ∧ B10 (8 * k + 5) (detQ x0 y0 x1 y1 x2 y2) := by
  have s1 := a1.sub a0
  have s2 := b1.sub b0
  have s3 := a2.sub a0
  have s4 := b2.sub b0
  have m1 := s1.mul s4
  have m2 := s2.mul s3
  refine ⟨?_, (m1.sub m2).mono (by omega)⟩
  unfold dblA
  rw [subP_b a1 b1 a0 b0 (by omega), subP_b a2 b2 a0 b0 (by omega)]
  show subR (mulR (toR (x1 - x0)) (toR (y2 - y0))) (mulR (toR (y1 - y0)) (toR (x2 - x0))) = _
  rw [mulR_b s1 s4 (by omega), mulR_b s2 s3 (by omega), subR_b m1 m2 (by omega)]
  rfl
end
end

section
open Go.RowKit

theorem propB_fix : propB [⟨ofFrac 0 1, ofFrac 0 1⟩, ⟨ofFrac 2 1, ofFrac 0 1⟩, ⟨ofFrac 0 1, ofFrac 1 1⟩] = true := by
  obtain ⟨e0, b0⟩ := ofFrac_sm 0 1 (by omega) (by decide) (by omega)
  obtain ⟨e1, b1⟩ := ofFrac_sm 1 1 (by omega) (by decide) (by omega)
  obtain ⟨e2, b2⟩ := ofFrac_sm 2 1 (by omega) (by decide) (by omega)
  rw [e0, e1, e2]
  have f0 := (b0.fit (by decide)).ok
  have f1 := (b1.fit (by decide)).ok
  have f2 := (b2.fit (by decide)).ok
  refine propB_yes ⟨?_, _, _, _, rfl, ?_⟩
  · intro k hk
    simp only [List.length_cons, List.length_nil] at hk
    rcases (show k = 0 ∨ k = 1 ∨ k = 2 by omega) with rfl | rfl | rfl
    · exact ⟨f0, f0⟩
    · exact ⟨f2, f0⟩
    · exact ⟨f0, f1⟩
  · obtain ⟨e, h⟩ := dblA_toP b0 b0 b2 b0 b0 b1
    rw [show (⟨toR (mkRat 0 1), toR (mkRat 0 1)⟩ : PtD) = toP (mkRat 0 1) (mkRat 0 1) from rfl, show (⟨toR (mkRat 2 1), toR (mkRat 0 1)⟩ : PtD) = toP (mkRat 2 1) (mkRat 0 1) from rfl, show (⟨toR (mkRat 0 1), toR (mkRat 1 1)⟩ : PtD) = toP (mkRat 0 1) (mkRat 1 1) from rfl, e, sgnR_toR (h.fit (by decide))]
    rw [show detQ (mkRat 0 1) (mkRat 0 1) (mkRat 2 1) (mkRat 0 1) (mkRat 0 1) (mkRat 1 1) = 2 from by decide +kernel]
    decide

def TriRes (w : World) (g : Nat) (en : Ending) (w' : World) : Prop := ∃ h c1 p0 p1 p2, en = .returned (.slice (some ⟨h, 0, none⟩) 3 c1) ∧ RdPS w' (some ⟨h, 0, none⟩) 3 c1 [p0, p1, p2] ∧ propB [p0, p1, p2] = true ∧ PtS p0 ∧ PtS p1 ∧ PtS p2 ∧ Ob [g] w w'
theorem Ob.bl {bs : List Nat} {w W W2 : World} (h : Ob bs w W) (hb : Bl W W2) : Ob bs w W2 := h.trans (Ob.of_bl hb _)
set_option maxRecDepth 100000 in
set_option maxHeartbeats 16000000 in
theorem l06Draw_any (w : World) {g n c : Nat} {A : Option Addr} {l : List Int} (hC : Cur g w A n c l) :
    Calls Tryz.prog 69 #[.pointer (some ⟨g, 0, none⟩)] w (TriRes w g) := by
  go_enter Tryz.func69, Tryz.ntmps69
  go_wp2_with fail
  go_loopw [3] (fun i wr => ∃ k : Nat, k ≤ 6 ∧ i = .int .i64 (k : Int) ∧ Cur g wr A n c l ∧ Ob [g] w wr) (fun i _ => 6 - (intOf i).toNat)
  case atStart => exact ⟨0, Nat.zero_le _, rfl, hC, Ob.refl _ _⟩
  case round =>
    clear hC
    obtain ⟨k, hk, rfl, hC, hO⟩ := hrel
    by_cases hk6 : k < 6
    · have hki : (k : Int) < 6 := by omega
      have hg0 := hC.lt
      go_wp2_with fail
      refine (l05Point_any _ hC).mono ?_
      rintro e u0 ⟨s4, A4, n4, c4, B4, m4, d4, t4, C4, i4, e4, D4, j4, f4, p0, rfl, hP0, hS0, hC0, hO0⟩
      have hz0 := hO0.size
      go_wp2_with fail
      refine (l05Point_any _ hC0).mono ?_
      rintro e u1 ⟨s5, A5, n5, c5, B5, m5, d5, t5, C5, i5, e5, D5, j5, f5, p1, rfl, hP1, hS1, hC1, hO1⟩
      have hz1 := hO1.size
      go_wp2_with fail
      refine (l05Point_any _ hC1).mono ?_
      rintro e u2 ⟨s6, A6, n6, c6, B6, m6, d6, t6, C6, i6, e6, D6, j6, f6, p2, rfl, hP2, hS2, hC2, hO2⟩
      have hP0 := (hP0.ob' hO1 hg0).ob' hO2 hg0
      have hP1 := hP1.ob' hO2 (by omega)
      have hO := ((hO.trans hO0).trans hO1).trans hO2
      clear hC hC0 hC1 hO0 hO1 hO2
      go_wp2_with fail
      refine calls_gen (fun W => Blk W u2.heap.size 31 #[.bool s4, .slice A4 n4 c4, .slice B4 m4 d4, .bool t4, .slice C4 i4 e4, .slice D4 j4 f4, .bool s5, .slice A5 n5 c5, .slice B5 m5 d5, .bool t5, .slice C5 i5 e5, .slice D5 j5 f5, .bool s6, .slice A6 n6 c6, .slice B6 m6 d6, .bool t6, .slice C6 i6 e6, .slice D6 j6 f6] ∧ Bl u2 W) ⟨Blk.new _ _ _, slc⟩ ?_
      rintro W ⟨hB, hbW⟩
      have hx0 := (hP0.bl' hbW).rdx.1
      have hy0 := (hP0.bl' hbW).rdx.2
      have hx1 := (hP1.bl' hbW).rdx.1
      have hy1 := (hP1.bl' hbW).rdx.2
      have hx2 := (hP2.bl' hbW).rdx.1
      have hy2 := (hP2.bl' hbW).rdx.2
      have hC := hC2.bl hbW
      have hO := hO.bl hbW
      clear hP0 hP1 hP2 hC2 hbW
      have hL : RdPS W (some ⟨u2.heap.size, 0, none⟩) 3 3 [p0, p1, p2] := by
        refine ⟨rfl, by omega, by omega, fun k hk => ?_⟩
        rcases (show k = 0 ∨ k = 1 ∨ k = 2 by omega) with rfl | rfl | rfl
        · exact ⟨_, rfl, hB.lt, _, _, _, _, _, _, _, _, _, _, _, _, _, _, ⟨(hB.cell 0).trans rfl, (hB.cell 1).trans rfl, (hB.cell 2).trans rfl, (hB.cell 3).trans rfl, (hB.cell 4).trans rfl, (hB.cell 5).trans rfl⟩, hx0, hy0⟩
        · exact ⟨_, rfl, hB.lt, _, _, _, _, _, _, _, _, _, _, _, _, _, _, ⟨(hB.cell 6).trans rfl, (hB.cell 7).trans rfl, (hB.cell 8).trans rfl, (hB.cell 9).trans rfl, (hB.cell 10).trans rfl, (hB.cell 11).trans rfl⟩, hx1, hy1⟩
        · exact ⟨_, rfl, hB.lt, _, _, _, _, _, _, _, _, _, _, _, _, _, _, ⟨(hB.cell 12).trans rfl, (hB.cell 13).trans rfl, (hB.cell 14).trans rfl, (hB.cell 15).trans rfl, (hB.cell 16).trans rfl, (hB.cell 17).trans rfl⟩, hx2, hy2⟩
      refine (sIsProper_any _ hL).mono ?_
      by_cases hp : propB [p0, p1, p2] = true
      · rw [hp]
        rintro e w3 ⟨rfl, hb3⟩
        go_wp2_with fail
        go_ret
        exact ⟨_, _, p0, p1, p2, rfl, RdPS.bl hL hb3, hp, hS0, hS1, hS2, hO.bl hb3⟩
      · rw [Bool.eq_false_iff.2 hp]
        rintro e w3 ⟨rfl, hb3⟩
        have hp := Lib.hid hp; rename_i h_; clear h_
        have hB := hB.bl hb3
        have hx0 := hx0.bl hb3
        have hy0 := hy0.bl hb3
        have hx1 := hx1.bl hb3
        have hy1 := hy1.bl hb3
        have hx2 := hx2.bl hb3
        have hy2 := hy2.bl hb3
        have hC := hC.bl hb3
        have hO := hO.bl hb3
        clear hL hb3
        go_wp2_with fail
        go_region_held3 (fun w' => (w'.cell? ⟨u2.heap.size, 0, none⟩ = some (.bool s4) ∧ w'.cell? ⟨u2.heap.size, 1, none⟩ = some (.slice A4 n4 c4) ∧ w'.cell? ⟨u2.heap.size, 2, none⟩ = some (.slice B4 m4 d4) ∧ w'.cell? ⟨u2.heap.size, 3, none⟩ = some (.bool t4) ∧ w'.cell? ⟨u2.heap.size, 4, none⟩ = some (.slice C4 i4 e4) ∧ w'.cell? ⟨u2.heap.size, 5, none⟩ = some (.slice D4 j4 f4) ∧ w'.cell? ⟨u2.heap.size, 6, none⟩ = some (.bool s5) ∧ w'.cell? ⟨u2.heap.size, 7, none⟩ = some (.slice A5 n5 c5) ∧ w'.cell? ⟨u2.heap.size, 8, none⟩ = some (.slice B5 m5 d5) ∧ w'.cell? ⟨u2.heap.size, 9, none⟩ = some (.bool t5) ∧ w'.cell? ⟨u2.heap.size, 10, none⟩ = some (.slice C5 i5 e5) ∧ w'.cell? ⟨u2.heap.size, 11, none⟩ = some (.slice D5 j5 f5) ∧ w'.cell? ⟨u2.heap.size, 12, none⟩ = some (.bool s6) ∧ w'.cell? ⟨u2.heap.size, 13, none⟩ = some (.slice A6 n6 c6) ∧ w'.cell? ⟨u2.heap.size, 14, none⟩ = some (.slice B6 m6 d6) ∧ w'.cell? ⟨u2.heap.size, 15, none⟩ = some (.bool t6) ∧ w'.cell? ⟨u2.heap.size, 16, none⟩ = some (.slice C6 i6 e6) ∧ w'.cell? ⟨u2.heap.size, 17, none⟩ = some (.slice D6 j6 f6))) (first | exact ⟨((hB.bl slc).cell 0).trans rfl, ((hB.bl slc).cell 1).trans rfl, ((hB.bl slc).cell 2).trans rfl, ((hB.bl slc).cell 3).trans rfl, ((hB.bl slc).cell 4).trans rfl, ((hB.bl slc).cell 5).trans rfl, ((hB.bl slc).cell 6).trans rfl, ((hB.bl slc).cell 7).trans rfl, ((hB.bl slc).cell 8).trans rfl, ((hB.bl slc).cell 9).trans rfl, ((hB.bl slc).cell 10).trans rfl, ((hB.bl slc).cell 11).trans rfl, ((hB.bl slc).cell 12).trans rfl, ((hB.bl slc).cell 13).trans rfl, ((hB.bl slc).cell 14).trans rfl, ((hB.bl slc).cell 15).trans rfl, ((hB.bl slc).cell 16).trans rfl, ((hB.bl slc).cell 17).trans rfl⟩) (fail)
        go_wp2_with fail
        refine calls_gen (fun W => Blk W w3.heap.size 31 #[.bool s4, .slice A4 n4 c4, .slice B4 m4 d4, .bool t4, .slice C4 i4 e4, .slice D4 j4 f4, .bool s6, .slice A6 n6 c6, .slice B6 m6 d6, .bool t6, .slice C6 i6 e6, .slice D6 j6 f6, .bool s5, .slice A5 n5 c5, .slice B5 m5 d5, .bool t5, .slice C5 i5 e5, .slice D5 j5 f5] ∧ Bl w3 W) ⟨by exact bts, slc⟩ ?_
        rintro W2 ⟨hB2, hbW⟩
        have hx0 := hx0.bl hbW
        have hy0 := hy0.bl hbW
        have hx1 := hx1.bl hbW
        have hy1 := hy1.bl hbW
        have hx2 := hx2.bl hbW
        have hy2 := hy2.bl hbW
        have hC := hC.bl hbW
        have hO := hO.bl hbW
        have hL : RdPS W2 (some ⟨w3.heap.size, 0, none⟩) 3 3 [p0, p2, p1] := by
          refine ⟨rfl, by omega, by omega, fun k hk => ?_⟩
          rcases (show k = 0 ∨ k = 1 ∨ k = 2 by omega) with rfl | rfl | rfl
          · exact ⟨_, rfl, hB2.lt, _, _, _, _, _, _, _, _, _, _, _, _, _, _, ⟨(hB2.cell 0).trans rfl, (hB2.cell 1).trans rfl, (hB2.cell 2).trans rfl, (hB2.cell 3).trans rfl, (hB2.cell 4).trans rfl, (hB2.cell 5).trans rfl⟩, hx0, hy0⟩
          · exact ⟨_, rfl, hB2.lt, _, _, _, _, _, _, _, _, _, _, _, _, _, _, ⟨(hB2.cell 6).trans rfl, (hB2.cell 7).trans rfl, (hB2.cell 8).trans rfl, (hB2.cell 9).trans rfl, (hB2.cell 10).trans rfl, (hB2.cell 11).trans rfl⟩, hx2, hy2⟩
          · exact ⟨_, rfl, hB2.lt, _, _, _, _, _, _, _, _, _, _, _, _, _, _, ⟨(hB2.cell 12).trans rfl, (hB2.cell 13).trans rfl, (hB2.cell 14).trans rfl, (hB2.cell 15).trans rfl, (hB2.cell 16).trans rfl, (hB2.cell 17).trans rfl⟩, hx1, hy1⟩
        refine (sIsProper_any _ hL).mono ?_
        by_cases hq : propB [p0, p2, p1] = true
        · rw [hq]
          rintro e w4 ⟨rfl, hb4⟩
          go_wp2_with fail
          go_ret
          exact ⟨_, _, p0, p2, p1, rfl, RdPS.bl hL hb4, hq, hS0, hS2, hS1, hO.bl hb4⟩
        · rw [Bool.eq_false_iff.2 hq]
          rintro e w4 ⟨rfl, hb4⟩
          have hq := Lib.hid hq; rename_i h_; clear h_
          go_wp2_with fail
          go_roundw
          case rel => exact ⟨k + 1, by omega, by go_num, hC.bl hb4, hO.bl hb4⟩
          case measure => simp [intOf]; omega
    · obtain rfl : k = 6 := by omega
      have e0 : ((6 : Nat) : Int) = 6 := rfl
      rw [e0]
      clear e0 hk hk6
      go_wp2_with fail
      refine (sPointAt_any _ 0 0 (by omega) (by omega) (by omega) (by omega)).mono ?_
      rintro e u0 ⟨s4, A4, n4, c4, B4, m4, d4, t4, C4, i4, e4, D4, j4, f4, rfl, hP0, hb0⟩
      go_wp2_with fail
      refine (sPointAt_any _ 2 0 (by omega) (by omega) (by omega) (by omega)).mono ?_
      rintro e u1 ⟨s5, A5, n5, c5, B5, m5, d5, t5, C5, i5, e5, D5, j5, f5, rfl, hP1, hb1⟩
      go_wp2_with fail
      refine (sPointAt_any _ 0 1 (by omega) (by omega) (by omega) (by omega)).mono ?_
      rintro e u2 ⟨s6, A6, n6, c6, B6, m6, d6, t6, C6, i6, e6, D6, j6, f6, rfl, hP2, hb2⟩
      have hP0 := OwPN.bl' (OwPN.bl' (OwPN.q hP0) hb1) hb2
      have hP1 := OwPN.bl' (OwPN.q hP1) hb2
      have hP2 := OwPN.q hP2
      have hO := ((hO.bl hb0).bl hb1).bl hb2
      go_wp2_with fail
      go_ret
      have hB : Blk (u2.alloc (.cells #[.bool s4, .slice A4 n4 c4, .slice B4 m4 d4, .bool t4, .slice C4 i4 e4, .slice D4 j4 f4, .bool s5, .slice A5 n5 c5, .slice B5 m5 d5, .bool t5, .slice C5 i5 e5, .slice D5 j5 f5, .bool s6, .slice A6 n6 c6, .slice B6 m6 d6, .bool t6, .slice C6 i6 e6, .slice D6 j6 f6] 31)) u2.heap.size 31 #[.bool s4, .slice A4 n4 c4, .slice B4 m4 d4, .bool t4, .slice C4 i4 e4, .slice D4 j4 f4, .bool s5, .slice A5 n5 c5, .slice B5 m5 d5, .bool t5, .slice C5 i5 e5, .slice D5 j5 f5, .bool s6, .slice A6 n6 c6, .slice B6 m6 d6, .bool t6, .slice C6 i6 e6, .slice D6 j6 f6] := Blk.new _ _ _
      have hal : Bl u2 (u2.alloc (.cells #[.bool s4, .slice A4 n4 c4, .slice B4 m4 d4, .bool t4, .slice C4 i4 e4, .slice D4 j4 f4, .bool s5, .slice A5 n5 c5, .slice B5 m5 d5, .bool t5, .slice C5 i5 e5, .slice D5 j5 f5, .bool s6, .slice A6 n6 c6, .slice B6 m6 d6, .bool t6, .slice C6 i6 e6, .slice D6 j6 f6] 31)) := (Bl.refl u2).alloc _
      have hx0 := (hP0.bl' hal).rdx.1
      have hy0 := (hP0.bl' hal).rdx.2
      have hx1 := (hP1.bl' hal).rdx.1
      have hy1 := (hP1.bl' hal).rdx.2
      have hx2 := (hP2.bl' hal).rdx.1
      have hy2 := (hP2.bl' hal).rdx.2
      refine ⟨u2.heap.size, 3, _, _, _, rfl, ?_, propB_fix, ptS_at 0 0 (by decide) (by decide), ptS_at 2 0 (by decide) (by decide), ptS_at 0 1 (by decide) (by decide), hO.bl hal⟩
      refine ⟨rfl, by omega, by omega, fun k hk => ?_⟩
      rcases (show k = 0 ∨ k = 1 ∨ k = 2 by omega) with rfl | rfl | rfl
      · exact ⟨_, rfl, hB.lt, _, _, _, _, _, _, _, _, _, _, _, _, _, _, ⟨(hB.cell 0).trans rfl, (hB.cell 1).trans rfl, (hB.cell 2).trans rfl, (hB.cell 3).trans rfl, (hB.cell 4).trans rfl, (hB.cell 5).trans rfl⟩, hx0, hy0⟩
      · exact ⟨_, rfl, hB.lt, _, _, _, _, _, _, _, _, _, _, _, _, _, _, ⟨(hB.cell 6).trans rfl, (hB.cell 7).trans rfl, (hB.cell 8).trans rfl, (hB.cell 9).trans rfl, (hB.cell 10).trans rfl, (hB.cell 11).trans rfl⟩, hx1, hy1⟩
      · exact ⟨_, rfl, hB.lt, _, _, _, _, _, _, _, _, _, _, _, _, _, _, ⟨(hB.cell 12).trans rfl, (hB.cell 13).trans rfl, (hB.cell 14).trans rfl, (hB.cell 15).trans rfl, (hB.cell 16).trans rfl, (hB.cell 17).trans rfl⟩, hx2, hy2⟩

set_option maxHeartbeats 4000000 in
theorem MakeTriangle_any (w : World) {A : Option Addr} {n c : Nat} {l : List Int} (m : Nat) (hm : m ≤ 100) (h : RdB w A n c l) :
    Calls Tryz.prog 12 #[.slice A n c, .int .i64 (m : Int)] w fun en w' => ∃ h c1 p0 p1 p2, en = .returned (.slice (some ⟨h, 0, none⟩) 3 c1) ∧ RdPS w' (some ⟨h, 0, none⟩) 3 c1 [p0, p1, p2] ∧ propB [p0, p1, p2] = true ∧ PtS p0 ∧ PtS p1 ∧ PtS p2 ∧ Bl w w' := by
  go_enter Tryz.func12, Tryz.ntmps12
  go_wp2_with fail
  refine (l31New_any _ (9 * m) (by omega) h).mono ?_
  rintro e w1 ⟨g, rfl, hg, hC, hb1⟩
  go_wp2_with fail
  refine (l06Draw_any _ hC).mono ?_
  rintro e w2 ⟨k, c1, p0, p1, p2, rfl, hL, hp, h0, h1, h2, hO⟩
  go_wp2_with fail
  go_ret
  exact ⟨_, _, p0, p1, p2, rfl, hL, hp, h0, h1, h2, hb1.ob hO fun b hb => by simp at hb; omega⟩
end

section
open Go.RowKit

set_option maxRecDepth 100000 in
set_option maxHeartbeats 4000000 in
theorem Gradients_any (w : World) {g n c0 : Nat} {l : List PtD} (h : RdPS w (some ⟨g, 0, none⟩) n c0 l) :
    Calls Tryz.prog 15 #[.slice (some ⟨g, 0, none⟩) n c0] w fun e w' => ∃ A1 n1 c1, e = .returned (.slice A1 n1 c1) ∧ OwPZ 3 31 w.heap.size w'.heap.size w' A1 n1 c1 (gradL l) ∧ (n1 = 0 → A1 = none ∧ c1 = 0) ∧ Bl w w' := by
  by_cases hp : propB l = true
  · obtain ⟨_, p0, p1, p2, e, _⟩ := propB_out hp
    subst e
    obtain rfl : 3 = n := h.len
    have hv : gradL [p0, p1, p2] = gradP p0 p1 p2 := by unfold gradL; rw [if_pos hp]; rfl
    rw [hv]
    exact Gradients_three _ h (Lib.hid hp)
  · have hval := Lib.hid (show gradL l = [] by unfold gradL; rw [if_neg hp])
    have hp := Lib.hid (Bool.eq_false_iff.2 hp); rename_i h_; clear h_
    go_enter Tryz.func15, Tryz.ntmps15
    go_wp2_with fail
    refine (IsProper_any _ h).mono ?_
    rw [hp.out]
    rintro e w1 ⟨rfl, hb1⟩
    go_wp2_with fail
    go_ret
    refine ⟨_, _, _, rfl, ?_, fun _ => ⟨rfl, rfl⟩, hb1⟩
    rw [hval.out]
    exact ⟨rfl, Nat.le_refl _, Nat.zero_le _, .inl rfl⟩
end

section
open Go.RowKit

theorem info_rat : (Tryz.prog.info? 29).map (fun i => (i.zero, i.size, i.bytes)) = some (some (.agg #[.bool false, .slice none 0 0, .slice none 0 0]), 3, 56) := by kernel_rfl
end

section
open Go.RowKit

theorem RtIn.lt {T : TypeId} {w : World} {cs : Array Value} {i : Nat} {r : RatD} {bs : List Nat} (h : RtIn T w cs i r bs) : ∀ b ∈ bs, b < w.heap.size := by
  obtain ⟨s, A, n, c, B, m, d, _, h⟩ := h
  exact h.lt

/-- A list of fractions in memory of one's own, its limbs behind its cells. -/
def OwRX (TI TR : TypeId) (b0 : Nat) (w : World) (A : Option Addr) (n c : Nat) (l : List RatD) : Prop :=
  ∃ g cs fs, A = some ⟨g, 0, none⟩ ∧ b0 ≤ g ∧ l.length = n ∧ n ≤ c ∧ n ≤ 1048576 ∧ Blk w g TR cs ∧ cs.size = n * 3 ∧ RtsIn TI w cs l n fs ∧ Fp (g + 1) w.heap.size fs.flatten
theorem OwRX.rd {TI TR : TypeId} {b0 : Nat} {w : World} {A : Option Addr} {n c : Nat} {l : List RatD} (h : OwRX TI TR b0 w A n c l) : RdRS w A n c l := by
  obtain ⟨g, cs, fs, rfl, h1, h2, h3, h4, h5, h6, h7, h8⟩ := h
  exact h7.rd h5 h2 (by omega) h3
theorem OwRX.bl {TI TR : TypeId} {b0 : Nat} {w W : World} {A : Option Addr} {n c : Nat} {l : List RatD} (h : OwRX TI TR b0 w A n c l) (hb : Bl w W) : OwRX TI TR b0 W A n c l := by
  obtain ⟨g, cs, fs, rfl, h1, h2, h3, h4, h5, h6, h7, h8⟩ := h
  exact ⟨g, cs, fs, rfl, h1, h2, h3, h4, h5.bl hb, h6, h7.bl hb (fun b hm => (h8.2 b hm).2), h8.mono (Nat.le_refl _) hb.size⟩
theorem OwRX.ob {TI TR : TypeId} {b0 : Nat} {w W : World} {A : Option Addr} {n c : Nat} {l : List RatD} {bs : List Nat} (h : OwRX TI TR b0 w A n c l) (ho : Ob bs w W) (hd : ∀ b ∈ bs, b < b0) : OwRX TI TR b0 W A n c l := by
  obtain ⟨g, cs, fs, rfl, h1, h2, h3, h4, h5, h6, h7, h8⟩ := h
  refine ⟨g, cs, fs, rfl, h1, h2, h3, h4, h5.ob ho (fun hm => by have := hd g hm; omega), h6, ⟨h7.1, fun i hi => (h7.2 i hi).keep (fun _ _ => rfl) ho.size fun b hb => ?_⟩, h8.mono (Nat.le_refl _) ho.size⟩
  have hm := h8.2 b (mem_flatten_pix hb)
  exact ho.block b hm.2 fun hx => by have := hd b hx; omega
end

section
open Go.RowKit

/-- A list of fractions with its footprint. -/
def FtRS (TI TR : TypeId) (w : World) (A : Option Addr) (n c : Nat) (l : List RatD) (bs : List Nat) : Prop :=
  l.length = n ∧ n ≤ c ∧ n ≤ 1048576 ∧ ((n = 0 ∧ bs = []) ∨ ∃ g cs fs, A = some ⟨g, 0, none⟩ ∧ Blk w g TR cs ∧ n * 3 ≤ cs.size ∧ RtsIn TI w cs l n fs ∧ bs = g :: fs.flatten)
/-- One cell that holds a list of fractions. -/
def RsAt (w : World) (p : Addr) (l : List RatD) : Prop := ∃ A n c, w.cell? p = some (.slice A n c) ∧ RdRS w A n c l
theorem RsAt.bl {w W : World} {p : Addr} {l : List RatD} (h : RsAt w p l) (hp : p.block < w.heap.size) (hb : Bl w W) : RsAt W p l := by
  obtain ⟨A, n, c, h0, h1⟩ := h
  exact ⟨A, n, c, by rw [hb.cellOf hp]; exact h0, h1.bl hb⟩
abbrev RdRSS := RdS 1 RsAt
theorem RdRSS.bl {w W : World} {A : Option Addr} {n c : Nat} {l : List (List RatD)} (h : RdRSS w A n c l) (hb : Bl w W) : RdRSS W A n c l := RdS.bl (fun h hp hb => h.bl hp hb) h hb
/-- The cell i of a block holds a list of fractions. -/
def RsIn (TI TR : TypeId) (w : World) (cs : Array Value) (i : Nat) (l : List RatD) (bs : List Nat) : Prop :=
  ∃ A n c, cs[i]? = some (.slice A n c) ∧ FtRS TI TR w A n c l bs
theorem flat_pix {fs : List (List Nat)} {b : Nat} (h : b ∈ fs.flatten) : ∃ k, k < fs.length ∧ b ∈ pix fs k := by
  obtain ⟨l, hl, hb⟩ := List.mem_flatten.1 h
  obtain ⟨k, hk, rfl⟩ := List.getElem_of_mem hl
  exact ⟨k, hk, by simpa [pix, hk] using hb⟩
section
variable {TI TR TS : TypeId} {w W : World} {A : Option Addr} {n c i lo hi lo' hi' : Nat} {cs cs' : Array Value} {l : List RatD} {L : List (List RatD)} {bs xs : List Nat}
theorem FtRS.rd (h : FtRS TI TR w A n c l bs) : RdRS w A n c l := by
  obtain ⟨h1, h2, h3, h4⟩ := h
  rcases h4 with ⟨h4, _⟩ | ⟨g, cs, fs, rfl, hB, hc, hP, _⟩
  · subst h4
    obtain rfl := List.length_eq_zero_iff.1 h1
    exact RdS.nil _ _ _
  · exact hP.rd hB h1 (by omega) h2
theorem FtRS.lt (h : FtRS TI TR w A n c l bs) : ∀ b ∈ bs, b < w.heap.size := by
  obtain ⟨h1, h2, h3, h4⟩ := h
  rcases h4 with ⟨_, rfl⟩ | ⟨g, cs, fs, rfl, hB, hc, hP, rfl⟩
  · intro b hb; cases hb
  · intro b hb
    rcases List.mem_cons.1 hb with rfl | hb
    · exact hB.lt
    · obtain ⟨k, hk, hm⟩ := flat_pix hb
      exact (hP.2 k (by rw [← hP.1]; exact hk)).lt b hm
theorem FtRS.keep (h : FtRS TI TR w A n c l bs) (hs : w.heap.size ≤ W.heap.size) (hk : ∀ b ∈ bs, W.heap[b]? = w.heap[b]?) : FtRS TI TR W A n c l bs := by
  obtain ⟨h1, h2, h3, h4⟩ := h
  refine ⟨h1, h2, h3, ?_⟩
  rcases h4 with h4 | ⟨g, cs, fs, rfl, hB, hc, hP, rfl⟩
  · exact .inl h4
  · exact .inr ⟨g, cs, fs, rfl, (hk g (by simp)).trans hB, hc, ⟨hP.1, fun i hi => (hP.2 i hi).keep (fun _ _ => rfl) hs fun b hb => hk b (List.mem_cons_of_mem _ (mem_flatten_pix hb))⟩, rfl⟩
theorem RsIn.lt (h : RsIn TI TR w cs i l bs) : ∀ b ∈ bs, b < w.heap.size := by
  obtain ⟨A, n, c, _, h⟩ := h
  exact h.lt
theorem RsIn.keep (h : RsIn TI TR w cs i l bs) (hc : cs'[i]? = cs[i]?) (hs : w.heap.size ≤ W.heap.size) (hk : ∀ b ∈ bs, W.heap[b]? = w.heap[b]?) : RsIn TI TR W cs' i l bs := by
  obtain ⟨A, n, c, h0, h⟩ := h
  exact ⟨A, n, c, hc.trans h0, h.keep hs hk⟩
/-- A list of lists of fractions in the blocks from lo to hi. -/
def OwSZ (TI TR TS : TypeId) (lo hi : Nat) (w : World) (A : Option Addr) (n c : Nat) (L : List (List RatD)) : Prop :=
  L.length = n ∧ n ≤ c ∧ n ≤ 1048576 ∧ (n = 0 ∨ ∃ g cs fs, A = some ⟨g, 0, none⟩ ∧ Blk w g TS cs ∧ n ≤ cs.size ∧ fs.length = n ∧ (∀ i, i < n → RsIn TI TR w cs i (pix L i) (pix fs i)) ∧ Fp lo hi (g :: fs.flatten))
theorem rss_rd {g : Nat} {fs : List (List Nat)} (hB : Blk w g TS cs) (hl : L.length = n) (hn : n ≤ c) (h3 : n ≤ 1048576) (hP : ∀ i, i < n → RsIn TI TR w cs i (pix L i) (pix fs i)) : RdRSS w (some ⟨g, 0, none⟩) n c L := by
  refine ⟨hl, hn, by omega, fun k hk => ⟨_, rfl, hB.lt, ?_⟩⟩
  obtain ⟨A, n', c', h0, h1⟩ := hP k hk
  refine ⟨A, n', c', ?_, h1.rd⟩
  rw [Nat.mul_one, Addr.add_lit, Nat.zero_add]
  exact (hB.cell k).trans h0
theorem OwSZ.rd (h : OwSZ TI TR TS lo hi w A n c L) : RdRSS w A n c L := by
  obtain ⟨h1, h2, h3, h4⟩ := h
  rcases h4 with h4 | ⟨g, cs, fs, rfl, hB, hc, hf, hP, hF⟩
  · subst h4
    obtain rfl := List.length_eq_zero_iff.1 h1
    exact RdS.nil _ _ _
  · exact rss_rd hB h1 h2 h3 hP
theorem OwSZ.keep (h : OwSZ TI TR TS lo hi w A n c L) (hs : w.heap.size ≤ W.heap.size) (hk : ∀ b, lo ≤ b → b < hi → b < w.heap.size → W.heap[b]? = w.heap[b]?) : OwSZ TI TR TS lo hi W A n c L := by
  obtain ⟨h1, h2, h3, h4⟩ := h
  refine ⟨h1, h2, h3, ?_⟩
  rcases h4 with h4 | ⟨g, cs, fs, rfl, hB, hc, hf, hP, hF⟩
  · exact .inl h4
  · have hg := hF.2 g (by simp)
    refine .inr ⟨g, cs, fs, rfl, (hk g hg.1 hg.2 hB.lt).trans hB, hc, hf, fun i hi => (hP i hi).keep rfl hs fun b hb => ?_, hF⟩
    have hm := hF.2 b (List.mem_cons_of_mem _ (mem_flatten_pix hb))
    exact hk b hm.1 hm.2 ((hP i hi).lt b hb)
theorem OwSZ.bl (h : OwSZ TI TR TS lo hi w A n c L) (hb : Bl w W) : OwSZ TI TR TS lo hi W A n c L := h.keep hb.size fun b _ _ hl => Below.block hb b hl
theorem OwSZ.ob (h : OwSZ TI TR TS lo hi w A n c L) (ho : Ob bs w W) (hd : ∀ b ∈ bs, b < lo ∨ hi ≤ b) : OwSZ TI TR TS lo hi W A n c L :=
  h.keep ho.size fun b h1 h2 hl => ho.block b hl fun hm => by have := hd b hm; omega
theorem OwSZ.low (h : OwSZ TI TR TS lo hi w A n c L) (h1 : lo' ≤ lo) (h2 : hi ≤ hi') : OwSZ TI TR TS lo' hi' w A n c L := by
  obtain ⟨a1, a2, a3, a4⟩ := h
  refine ⟨a1, a2, a3, ?_⟩
  rcases a4 with h4 | ⟨g, cs, fs, rfl, hB, hc, hf, hP, hF⟩
  · exact .inl h4
  · exact .inr ⟨g, cs, fs, rfl, hB, hc, hf, hP, hF.mono h1 h2⟩
end
end

section
open Go.RowKit
theorem rsIn_keep (T TR : TypeId) : KeepE 1 (RsIn T TR) := by
  intro w W cs cs' i i' x bs h hc hs hb
  exact RsIn.keep (i := i') (cs := cs') (by obtain ⟨A, n, c, h0, h1⟩ := h; exact ⟨A, n, c, (hc 0 (by omega)).trans h0, h1⟩) rfl hs hb
/-- A row of fractions; a row of such rows. -/
abbrev RowR (N : List Nat → Prop) (lo hi : Nat) (w : World) (v : Value) (l : List RatD) : Prop := RowG N 29 3 (RtIn 3) lo hi w v l
abbrev RowS (N : List Nat → Prop) (lo hi : Nat) (w : World) (v : Value) (l : List (List RatD)) : Prop := RowG N 33 1 (RsIn 3 29) lo hi w v l
section
variable {N : List Nat → Prop} {lo hi : Nat} {w W : World} {v : Value} {l : List RatD} {L : List (List RatD)}
theorem RowR.ft (h : RowR List.Nodup lo hi w v l) (hl : l.length ≤ 1048576) : ∃ A c bs, v = .slice A l.length c ∧ FtRS 3 29 w A l.length c l bs ∧ bs.Nodup ∧ ∀ b ∈ bs, lo ≤ b ∧ b < hi := by
  obtain ⟨cells, fs, r1, r2, r3, r4, r5, r6, r7⟩ := h
  rcases r1.2 with ⟨rfl, h0⟩ | ⟨g, cap, cur, rfl, hg, hh, hn, hcap, hcs, ht⟩
  · exact ⟨none, 0, [], by rw [h0], ⟨rfl, by rw [h0]; exact Nat.le_refl _, hl, .inl ⟨h0, rfl⟩⟩, List.nodup_nil, fun b hb => by cases hb⟩
  · have hlen : l.length * 3 ≤ cur.size := by rw [hcs]; exact Nat.mul_le_mul_right _ hn
    have hgm : g ∉ fs.flatten := fun hm => (r5 g hm).2.2 rfl
    refine ⟨_, cap, g :: fs.flatten, rfl, ⟨rfl, hn, hl, .inr ⟨g, cur, fs, rfl, hh, hlen, ⟨r3, fun i hi => ?_⟩, rfl⟩⟩, List.nodup_cons.2 ⟨hgm, r6⟩, fun b hb => ?_⟩
    · refine rtIn_keep _ _ _ _ _ _ _ _ _ (r4 i hi) (fun j hj => ?_) (Nat.le_refl _) fun _ _ => rfl
      rw [← ht]
      have : i * 3 + j < l.length * 3 := by omega
      simp [this]
    · rcases List.mem_cons.1 hb with rfl | hb
      · exact ⟨hg, r2 _ rfl⟩
      · exact ⟨(r5 b hb).1, (r5 b hb).2.1⟩
theorem RowS.own (h : RowS List.Nodup lo hi w v L) (hl : L.length ≤ 1048576) : ∃ A c, v = .slice A L.length c ∧ OwSZ 3 29 33 lo hi w A L.length c L := by
  obtain ⟨cells, fs, r1, r2, r3, r4, r5, r6, r7⟩ := h
  rcases r1.2 with ⟨rfl, h0⟩ | ⟨g, cap, cur, rfl, hg, hh, hn, hcap, hcs, ht⟩
  · exact ⟨none, 0, by rw [h0], rfl, by rw [h0]; exact Nat.le_refl _, hl, .inl h0⟩
  · have hlen : L.length ≤ cur.size := by rw [hcs]; omega
    have hgm : g ∉ fs.flatten := fun hm => (r5 g hm).2.2 rfl
    refine ⟨_, cap, rfl, rfl, hn, hl, .inr ⟨g, cur, fs, rfl, hh, hlen, r3, fun i hi => ?_, List.nodup_cons.2 ⟨hgm, r6⟩, fun b hb => ?_⟩⟩
    · have h1 := r4 i hi
      rw [Nat.mul_one] at h1
      refine h1.keep ?_ (Nat.le_refl _) fun _ _ => rfl
      rw [← ht]
      simp [hi]
    · rcases List.mem_cons.1 hb with rfl | hb
      · exact ⟨hg, r2 _ rfl⟩
      · exact ⟨(r5 b hb).1, (r5 b hb).2.1⟩
end
theorem wpList_append_rat {W : World} {s : Bool} {A : Option Addr} {n c : Nat} {B : Option Addr} {m d : Nat} {p : RatD} {lo hi b0 : Nat} {l : List RatD} {ops : Array Oper} {rest : List Oper} {o : Oper} {a : Act} {Q : Exit → Act → World → Prop} (hgd : o.guard = none) (s1 x1 : Operand)
    (ho : o.op = .call { callee := .builtin .append, args := #[s1, x1], argTypes := #[33, 33] }) (v : Value) (hs : a.eval s1 = v) (hrow : RowR List.Nodup lo hi W v l)
    (hpt : OwR 3 b0 W s A n c B m d p) (hb0 : hi ≤ b0) (hlh : lo ≤ hi) (c1 : Nat) (hx : a.eval x1 = .slice (some ⟨W.heap.size, 0, none⟩) 1 c1) (hlen : l.length ≤ 1048576) (w0 : World) (hb : Bl w0 W) (h0 : w0.heap.size ≤ lo)
    (h : ∀ v' w', RowR List.Nodup lo w'.heap.size w' v' (l ++ [p]) → Bl w0 w' → wpList Tryz.prog ops Q rest (a.put o.dst v') w') : wpList Tryz.prog ops Q (o :: rest) a (W.alloc (.cells #[.bool s, .slice A n c, .slice B m d] 29)) := by
  obtain ⟨bs, f1, f2⟩ := hpt
  exact wpList_append_row appN_nodup (rtIn_keep 3) info_rat (by rfl) (by omega) (by omega) Tryz.underlying33 hgd s1 x1 ho v hs hrow (p := p) (bs := bs) ⟨_, _, _, _, _, _, _, ⟨rfl, rfl, rfl⟩, f1⟩ rfl (by simp [Value.oneCell']) (fun b hm => ⟨Nat.le_trans hb0 (f2.2 b hm).1, (f2.2 b hm).2⟩) f2.1 hlh c1 hx hlen w0 hb h0 fun v' w' g1 g2 _ => h v' w' g1 g2
theorem info_rats : (Tryz.prog.info? 33).map (fun i => (i.zero, i.size, i.bytes)) = some (some (.slice none 0 0), 1, 24) := by kernel_rfl
theorem wpList_append_rats {W : World} {A : Option Addr} {n c : Nat} {p : List RatD} {bs : List Nat} {lo hi : Nat} {l : List (List RatD)} {ops : Array Oper} {rest : List Oper} {o : Oper} {a : Act} {Q : Exit → Act → World → Prop} (hgd : o.guard = none) (s1 x1 : Operand)
    (ho : o.op = .call { callee := .builtin .append, args := #[s1, x1], argTypes := #[113, 113] }) (v : Value) (hs : a.eval s1 = v) (hrow : RowS List.Nodup lo hi W v l)
    (hpt : FtRS 3 29 W A n c p bs) (hnd : bs.Nodup) (hbs : ∀ b ∈ bs, hi ≤ b ∧ b < W.heap.size) (hlh : lo ≤ hi) (c1 : Nat) (hx : a.eval x1 = .slice (some ⟨W.heap.size, 0, none⟩) 1 c1) (hlen : l.length ≤ 1048576) (w0 : World) (hb : Bl w0 W) (h0 : w0.heap.size ≤ lo)
    (h : ∀ v' w', RowS List.Nodup lo w'.heap.size w' v' (l ++ [p]) → Bl w0 w' → wpList Tryz.prog ops Q rest (a.put o.dst v') w') : wpList Tryz.prog ops Q (o :: rest) a (W.alloc (.cells #[.slice A n c] 33)) :=
  wpList_append_row appN_nodup (rsIn_keep 3 29) info_rats (by rfl) (by omega) (by omega) Tryz.underlying113 hgd s1 x1 ho v hs hrow (p := p) (bs := bs) ⟨A, n, c, rfl, hpt⟩ rfl (by simp [Value.oneCell']) hbs hnd hlh c1 hx hlen w0 hb h0 fun v' w' g1 g2 _ => h v' w' g1 g2
end

end Go.Proofs.YtajlahjghapbkaaGreat
