/- Points with half coordinates. -/
import Derived.Test.YtggjdgjkdmgjnaaRows
import Derived.Test.YtggjdgjkdmgjnaaMe0
import Derived.Test.YtggjdgjkdmgjnaaAr
namespace Go.Proofs.Ytggjdgjkdmgjnaa

open Go.RowKit

theorem ofFrac_half (x : Int) (hx1 : -1000000 < x) (hx2 : x ≤ 1000000) : OkR (ofFrac x 2) := by
  have h1 : (dig (x.natAbs / Nat.gcd x.natAbs 2)).length ≤ 24 := by
    have h2 : x.natAbs / Nat.gcd x.natAbs 2 ≤ x.natAbs := Nat.div_le_self _ _
    exact dig_len_le.2 (Nat.lt_of_le_of_lt h2 (Nat.lt_of_lt_of_le (show x.natAbs < 1000001 by omega) (by decide)))
  have h3 : (dig (2 / Nat.gcd x.natAbs 2)).length ≤ 24 := by
    have h2 : 2 / Nat.gcd x.natAbs 2 ≤ 2 := Nat.div_le_self _ _
    exact dig_len_le.2 (Nat.lt_of_le_of_lt h2 (by decide))
  rcases ofFrac_ok (x := x) (D := 2) (by omega) with h | h
  · exfalso
    unfold ofFrac at h
    rw [if_pos ⟨h1, h3⟩] at h
    have h4 : (raw (x / (Nat.gcd x.natAbs 2 : Int)) (2 / Nat.gcd x.natAbs 2)).den.length = 0 := by rw [h]; rfl
    have h5 : 0 < 2 / Nat.gcd x.natAbs 2 := Nat.div_pos (Nat.le_of_dvd (by omega) (Nat.gcd_dvd_right _ _)) (Nat.gcd_pos_of_pos_right _ (by omega))
    have h6 : dig (2 / Nat.gcd x.natAbs 2) = [] := by simpa [raw, ints] using h4
    have h7 := dig_len_le (n := 2 / Nat.gcd x.natAbs 2) (k := 0)
    rw [h6] at h7
    have h8 := h7.1 (Nat.le_refl _)
    rw [Nat.pow_zero] at h8
    omega
  · exact h
theorem ifP_half (x y : Int) (hx1 : -1000000 < x) (hx2 : x ≤ 1000000) (hy1 : -1000000 < y) (hy2 : y ≤ 1000000) : ifP ⟨ofFrac x 2, ofFrac y 2⟩ = ⟨ofFrac x 2, ofFrac y 2⟩ := by
  have e1 := (okR_den (.inr (ofFrac_half x hx1 hx2))).2 (ofFrac_half x hx1 hx2)
  have e2 := (okR_den (.inr (ofFrac_half y hy1 hy2))).2 (ofFrac_half y hy1 hy2)
  unfold ifP
  rw [if_neg]
  rintro (h | h)
  · exact e1 h
  · exact e2 h

set_option maxRecDepth 100000 in
set_option maxHeartbeats 1000000 in
theorem HalfPoint_any (w : World) (x y : Int) (hx1 : -1000000 < x) (hx2 : x ≤ 1000000) (hy1 : -1000000 < y) (hy2 : y ≤ 1000000) :
    Calls Try.prog 39 #[.int .i64 x, .int .i64 y] w fun en w' => ∃ s1 A1 n1 c1 B1 m1 d1 t1 C1 i1 e1 D1 j1 f1, en = .returned (.agg #[.bool s1, .slice A1 n1 c1, .slice B1 m1 d1, .bool t1, .slice C1 i1 e1, .slice D1 j1 f1]) ∧ OwP 3 w.heap.size w' s1 A1 n1 c1 B1 m1 d1 t1 C1 i1 e1 D1 j1 f1 ⟨ofFrac x 2, ofFrac y 2⟩ ∧ Bl w w' := by
  go_enter Try.func39, Try.ntmps39
  go_wp2_with fail
  refine calls_gen (fun W => Bl w W ∧ Wk 6 54 w.heap.size W) ⟨slc, bts⟩ ?_
  rintro W ⟨hbW, hr⟩
  refine (RatOf_any _ x 2 (by omega) (by omega) (by omega) (by omega)).mono ?_
  rintro e w2 ⟨s1, A1, n1, c1, B1, m1, d1, rfl, hR1, hb2⟩
  go_wp2_with fail
  refine (RatOf_any _ y 2 (by omega) (by omega) (by omega) (by omega)).mono ?_
  rintro e w3 ⟨t1, C1, i1, e1, D1, j1, f1, rfl, hR2, hb3⟩
  have hz : w.heap.size + 1 ≤ W.heap.size := hr.lt
  have hz2 : W.heap.size ≤ w2.heap.size := Bl.size hb2
  have hbW : Bl w w3 := slc
  have hX : OwP 3 W.heap.size w3 s1 A1 n1 c1 B1 m1 d1 t1 C1 i1 e1 D1 j1 f1 ⟨ofFrac x 2, ofFrac y 2⟩ := OwP.two hR1 hR2 hb3 hz2
  go_wp2_with fail
  refine (ifPoint_any _ hX).mono ?_
  rintro en w4 ⟨s2, A2, n2, c2, B2, m2, d2, t2, C2, i2, e2, D2, j2, f2, rfl, hP, hb4⟩
  have hr := ((hr.bl hb2).bl hb3).bl hb4
  have hbW : Bl w w4 := hbW.next hb4
  rw [ifP_half _ _ hx1 hx2 hy1 hy2] at hP
  have hX := OwP.low hP (show w.heap.size + 1 ≤ _ from hz)
  obtain ⟨v0, x0⟩ := hr.val_ (i := 0) (by omega)
  obtain ⟨v1, x1⟩ := hr.val_ (i := 1) (by omega)
  obtain ⟨v2, x2⟩ := hr.val_ (i := 2) (by omega)
  obtain ⟨v3, x3⟩ := hr.val_ (i := 3) (by omega)
  obtain ⟨v4, x4⟩ := hr.val_ (i := 4) (by omega)
  obtain ⟨v5, x5⟩ := hr.val_ (i := 5) (by omega)
  have hg := hr.lt
  obtain ⟨cs4, hB4, hc4⟩ := hr
  have hf0 := hB4.frozen 0
  have hf1 := hB4.frozen 1
  have hf2 := hB4.frozen 2
  have hf3 := hB4.frozen 3
  have hf4 := hB4.frozen 4
  have hf5 := hB4.frozen 5
  go_wp2_with fail
  exact bodyPost_ret (v := .agg #[.bool s2, .slice A2 n2 c2, .slice B2 m2 d2, .bool t2, .slice C2 i2 e2, .slice D2 j2 f2]) (by simp [results, Try.results39, go_sem, x0, x1, x2, x3, x4, x5]) rfl ⟨_, _, _, _, _, _, _, _, _, _, _, _, _, _, rfl, ((((((hX.far (by simp) _).far (by simp) _).far (by simp) _).far (by simp) _).far (by simp) _).far (by simp) _).low (by omega), slc⟩

set_option maxRecDepth 100000 in
set_option maxHeartbeats 1000000 in
theorem sHalfPoint_any (w : World) (x y : Int) (hx1 : -1000000 < x) (hx2 : x ≤ 1000000) (hy1 : -1000000 < y) (hy2 : y ≤ 1000000) :
    Calls Try.prog 38 #[.int .i64 x, .int .i64 y] w fun en w' => ∃ s1 A1 n1 c1 B1 m1 d1 t1 C1 i1 e1 D1 j1 f1, en = .returned (.agg #[.bool s1, .slice A1 n1 c1, .slice B1 m1 d1, .bool t1, .slice C1 i1 e1, .slice D1 j1 f1]) ∧ OwP 3 w.heap.size w' s1 A1 n1 c1 B1 m1 d1 t1 C1 i1 e1 D1 j1 f1 ⟨ofFrac x 2, ofFrac y 2⟩ ∧ Bl w w' := by
  go_enter Try.func38, Try.ntmps38
  go_wp2_with fail
  refine calls_gen (fun W => Bl w W ∧ Wk 6 54 w.heap.size W) ⟨slc, bts⟩ ?_
  rintro W ⟨hbW, hr⟩
  refine (sRatOf_any _ x 2 (by omega) (by omega) (by omega) (by omega)).mono ?_
  rintro e w2 ⟨s1, A1, n1, c1, B1, m1, d1, rfl, hR1, hb2⟩
  go_wp2_with fail
  refine (sRatOf_any _ y 2 (by omega) (by omega) (by omega) (by omega)).mono ?_
  rintro e w3 ⟨t1, C1, i1, e1, D1, j1, f1, rfl, hR2, hb3⟩
  have hz : w.heap.size + 1 ≤ W.heap.size := hr.lt
  have hz2 : W.heap.size ≤ w2.heap.size := Bl.size hb2
  have hr := (hr.bl hb2).bl hb3
  have hbW : Bl w w3 := slc
  have hX : OwP 3 W.heap.size w3 s1 A1 n1 c1 B1 m1 d1 t1 C1 i1 e1 D1 j1 f1 ⟨ofFrac x 2, ofFrac y 2⟩ := OwP.two hR1 hR2 hb3 hz2
  have hX := OwP.low hX hz
  obtain ⟨v0, x0⟩ := hr.val_ (i := 0) (by omega)
  obtain ⟨v1, x1⟩ := hr.val_ (i := 1) (by omega)
  obtain ⟨v2, x2⟩ := hr.val_ (i := 2) (by omega)
  obtain ⟨v3, x3⟩ := hr.val_ (i := 3) (by omega)
  obtain ⟨v4, x4⟩ := hr.val_ (i := 4) (by omega)
  obtain ⟨v5, x5⟩ := hr.val_ (i := 5) (by omega)
  have hg := hr.lt
  obtain ⟨cs4, hB4, hc4⟩ := hr
  have hf0 := hB4.frozen 0
  have hf1 := hB4.frozen 1
  have hf2 := hB4.frozen 2
  have hf3 := hB4.frozen 3
  have hf4 := hB4.frozen 4
  have hf5 := hB4.frozen 5
  go_wp2_with fail
  exact bodyPost_ret (v := .agg #[.bool s1, .slice A1 n1 c1, .slice B1 m1 d1, .bool t1, .slice C1 i1 e1, .slice D1 j1 f1]) (by simp [results, Try.results38, go_sem, x0, x1, x2, x3, x4, x5]) rfl ⟨_, _, _, _, _, _, _, _, _, _, _, _, _, _, rfl, ((((((hX.far (by simp) _).far (by simp) _).far (by simp) _).far (by simp) _).far (by simp) _).far (by simp) _).low (by omega), slc⟩

end Go.Proofs.Ytggjdgjkdmgjnaa
