import Derived.Test.YtggjdgjkdmgjnaaGreatRows
import Derived.Test.YtggjdgjkdmgjnaaGreatOk2
import Derived.Test.YtggjdgjkdmgjnaaGreatCp
namespace Go.Proofs.YtggjdgjkdmgjnaaGreat

open Go.RowKit

theorem okR_iff (r : RatD) : OkR r ↔ OkB r.neg r.mag ∧ OkN r.den ∧ 0 < r.den.length ∧ r.mag.length ≤ 24 ∧ r.den.length ≤ 24 ∧ Nat.gcd (nv r.mag) (nv r.den) = 1 := by
  constructor
  · rintro ⟨x, D, rfl, h0, h1, h2, h3⟩
    simp only [raw, nv_ints, ints_len]
    refine ⟨⟨⟨_, rfl, by omega⟩, fun e => ?_⟩, ⟨_, rfl, by omega⟩, dig_len_pos.2 h0, h2, h3, h1⟩
    rw [ints_len]
    have : x < 0 := by simpa using e
    exact dig_len_pos.2 (by omega)
  · rintro ⟨⟨h1, h2⟩, h3, h4, h5, h6, h7⟩
    have e1 := h1.nv.1
    have e3 := h3.nv.1
    have hn : (rn r).natAbs = nv r.mag := by unfold rn; split <;> omega
    rw [e1] at h2 h5
    rw [e3] at h4 h6
    rw [ints_len] at h2 h4 h5 h6
    refine ⟨rn r, rd r, ?_, dig_len_pos.1 h4, by rw [hn]; exact h7, by rw [hn]; exact h5, h6⟩
    obtain ⟨s, mag, den⟩ := r
    unfold raw
    congr 1
    · by_cases hs : s = true
      · have := dig_len_pos.1 (h2 hs)
        subst hs
        simp [rn]
        omega
      · have : s = false := by simpa using hs
        subst this
        simp [rn]
    · rw [hn]; exact e1
theorem okR_of {r : RatD} (h : OkR r) : okR r = true := okR_true.2 h
theorem okR_no {r : RatD} (h : ¬ OkR r) : okR r = false := okR_false.2 h

section
variable (w : World) {s : Bool} {A : Option Addr} {n c : Nat} {B : Option Addr} {m d : Nat} {r : RatD}
set_option maxHeartbeats 1000000 in
theorem RatOk_bad (h : RdR w s A n c B m d r) (ho : ¬ OkR r) (ho' : ¬ (OkB s r.mag ∧ OkN r.den ∧ 0 < m ∧ n ≤ 24 ∧ m ≤ 24)) :
    Calls Tryz.prog 40 #[.agg #[.bool s, .slice A n c, .slice B m d]] w fun e w' => e = .returned (.bool (okR r)) ∧ Bl w w' := by
  rw [okR_no ho]
  clear ho
  by_cases h1 : OkB s r.mag
  · have hB1 := okB_yes h1
    by_cases h2 : OkN r.den
    · have hN1 := okN_of h2
      by_cases h3 : 0 < m
      · have h3i : ((m : Int) == 0) = false := by simp; omega
        by_cases h4 : n ≤ 24
        · have h4i : decide ((24 : Int) < (n : Int)) = false := by simp; omega
          have h5 : ¬ m ≤ 24 := fun h5 => ho' ⟨h1, h2, h3, h4, h5⟩
          have h5i : decide ((24 : Int) < (m : Int)) = true := by simp; omega
          clear ho' h1 h2 h3 h4 h5
          go_enter Tryz.func40, Tryz.ntmps40
          go_wp2_with fail
          refine (BigIntOk_any _ (h.mag.alloc _)).mono ?_
          rw [hB1]
          rintro e w1 ⟨rfl, hb1⟩
          obtain ⟨k0, k1, k2⟩ := box3 hb1
          have hb1 : Bl w w1 := slc
          go_wp2_with fail
          refine (NatOk_any _ (h.den.bl hb1)).mono ?_
          rw [hN1]
          rintro e w2 ⟨rfl, q2, rfl⟩
          go_wp2_with fail
          go_ret
          exact ⟨rfl, slc⟩

        · have h4i : decide ((24 : Int) < (n : Int)) = true := by simp; omega
          clear ho' h1 h2 h3 h4
          go_enter Tryz.func40, Tryz.ntmps40
          go_wp2_with fail
          refine (BigIntOk_any _ (h.mag.alloc _)).mono ?_
          rw [hB1]
          rintro e w1 ⟨rfl, hb1⟩
          obtain ⟨k0, k1, k2⟩ := box3 hb1
          have hb1 : Bl w w1 := slc
          go_wp2_with fail
          refine (NatOk_any _ (h.den.bl hb1)).mono ?_
          rw [hN1]
          rintro e w2 ⟨rfl, q2, rfl⟩
          go_wp2_with fail
          go_ret
          exact ⟨rfl, slc⟩

      · obtain rfl : m = 0 := by omega
        clear ho' h1 h2 h3
        go_enter Tryz.func40, Tryz.ntmps40
        go_wp2_with fail
        refine (BigIntOk_any _ (h.mag.alloc _)).mono ?_
        rw [hB1]
        rintro e w1 ⟨rfl, hb1⟩
        obtain ⟨k0, k1, k2⟩ := box3 hb1
        have hb1 : Bl w w1 := slc
        go_wp2_with fail
        refine (NatOk_any _ (h.den.bl hb1)).mono ?_
        rw [hN1]
        rintro e w2 ⟨rfl, q2, rfl⟩
        go_wp2_with fail
        go_ret
        exact ⟨rfl, slc⟩

    · have hN0 := okN_no h2
      clear ho' h1 h2
      go_enter Tryz.func40, Tryz.ntmps40
      go_wp2_with fail
      refine (BigIntOk_any _ (h.mag.alloc _)).mono ?_
      rw [hB1]
      rintro e w1 ⟨rfl, hb1⟩
      obtain ⟨k0, k1, k2⟩ := box3 hb1
      have hb1 : Bl w w1 := slc
      go_wp2_with fail
      refine (NatOk_any _ (h.den.bl hb1)).mono ?_
      rw [hN0]
      rintro e w2 ⟨rfl, q2, rfl⟩
      go_wp2_with fail
      go_ret
      exact ⟨rfl, slc⟩

  · have hB0 := okB_no h1
    clear ho' h1
    go_enter Tryz.func40, Tryz.ntmps40
    go_wp2_with fail
    refine (BigIntOk_any _ (h.mag.alloc _)).mono ?_
    rw [hB0]
    rintro e w1 ⟨rfl, hb1⟩
    obtain ⟨k0, k1, k2⟩ := box3 hb1
    have hb1 : Bl w w1 := slc
    go_wp2_with fail
    go_ret
    exact ⟨rfl, slc⟩


set_option maxHeartbeats 1000000 in
theorem RatOk_fine {x : Int} {D : Nat} (h : IsR w s A n c B m d x D) (hB1 : okB s (raw x D).mag = true) (hN1 : okN (raw x D).den = true) (h3 : 0 < m) (h4 : n ≤ 24) (h5 : m ≤ 24) :
    Calls Tryz.prog 40 #[.agg #[.bool s, .slice A n c, .slice B m d]] w fun e w' => e = .returned (.bool (decide (Nat.gcd x.natAbs D = 1))) ∧ Bl w w' := by
  have h3i : ((m : Int) == 0) = false := by simp; omega
  have h4i : decide ((24 : Int) < (n : Int)) = false := by simp; omega
  have h5i : decide ((24 : Int) < (m : Int)) = false := by simp; omega
  by_cases hs : n ≤ 1 ∧ m = 1
  · obtain ⟨hn1, rfl⟩ := hs
    have hx := small_le (N := x.natAbs) (by rw [h.num.lenN]; exact hn1)
    have hD := (one_limb h.dn.lenN).2
    have hb1 : -1000000000 < x := by omega
    have hb2 : x < 1000000000 := by omega
    clear h3 h4 h5
    go_enter Tryz.func40, Tryz.ntmps40
    go_wp2_with fail
    refine (BigIntOk_any _ (h.mag.alloc _)).mono ?_
    rw [hB1]
    rintro e w1 ⟨rfl, hb1⟩
    obtain ⟨k0, k1, k2⟩ := box3 hb1
    have hb1 : Bl w w1 := slc
    go_wp2_with fail
    refine (NatOk_any _ (h.den.bl hb1)).mono ?_
    rw [hN1]
    rintro e w2 ⟨rfl, q2, rfl⟩
    go_wp2_with fail
    refine (isSmall_yes _ hn1 rfl).mono ?_
    rintro e w3 ⟨rfl, hb3⟩
    obtain ⟨k3, k4, k5⟩ := box3 (W := w3) (w := w) (a := .bool s) (b := .slice A n c) (c := .slice B 1 d) (T := 34) slc
    have hb3 : Bl w w3 := slc
    go_wp2_with fail
    refine (small_any _ (h.bl hb3) hn1).mono ?_
    rintro e w4 ⟨rfl, hb4⟩
    have hb4 : Bl w w4 := slc
    rcases Int.lt_or_le x 0 with hx0 | hx0
    · have hmx : x < -x := by omega
      have hu : Hid (-x = ((x.natAbs : Nat) : Int)) := by unfold Hid; omega
      clear hx hx0
      go_wp2_with fail
      refine (gcd_int _ x.natAbs D hu.out (by omega) (by omega)).mono ?_
      rintro e w5 ⟨rfl, q5, rfl⟩
      go_wp2_with fail
      go_ret
      exact ⟨ret_bool (by rw [Bool.eq_iff_iff]; simp; omega), slc⟩
    · have hmx : ¬ x < -x := by omega
      have hu : Hid (x = ((x.natAbs : Nat) : Int)) := by unfold Hid; omega
      clear hx
      go_wp2_with fail
      refine (gcd_int _ x.natAbs D hu.out (by omega) (by omega)).mono ?_
      rintro e w5 ⟨rfl, q5, rfl⟩
      go_wp2_with fail
      go_ret
      exact ⟨ret_bool (by rw [Bool.eq_iff_iff]; simp; omega), slc⟩
  · have hns : Hid (¬ (n ≤ 1 ∧ m = 1)) := hs
    clear hs
    go_enter Tryz.func40, Tryz.ntmps40
    go_wp2_with fail
    refine (BigIntOk_any _ (h.mag.alloc _)).mono ?_
    rw [hB1]
    rintro e w1 ⟨rfl, hb1⟩
    obtain ⟨k0, k1, k2⟩ := box3 hb1
    have hb1 : Bl w w1 := slc
    go_wp2_with fail
    refine (NatOk_any _ (h.den.bl hb1)).mono ?_
    rw [hN1]
    rintro e w2 ⟨rfl, q2, rfl⟩
    go_wp2_with fail
    refine (isSmall_no _ hns.out).mono ?_
    rintro e w3 ⟨rfl, hb3⟩
    obtain ⟨k3, k4, k5⟩ := box3 (W := w3) (w := w) (a := .bool s) (b := .slice A n c) (c := .slice B m d) (T := 34) slc
    have hb3 : Bl w w3 := slc
    go_wp2_with fail
    refine (natGcd_any _ (h.num.bl hb3) (h.dn.bl hb3) (by omega) (by omega)).mono ?_
    rintro e w4 ⟨A', n', c', rfl, hO, hb4⟩
    have hb4 : Bl w w4 := slc
    by_cases hg : Nat.gcd x.natAbs D = 1
    · rw [hg] at hO
      have hd := Lib.hid (show decide (Nat.gcd x.natAbs D = 1) = true by simp [hg])
      clear hg
      go_wp2_with fail
      refine (isOne_yes _ hO.rd).mono ?_
      rintro e w5 ⟨rfl, q5, rfl⟩
      go_wp2_with fail
      go_ret
      exact ⟨ret_bool hd.out.symm, slc⟩
    · have hd := Lib.hid (show decide (Nat.gcd x.natAbs D = 1) = false by simp [hg])
      have hg := Lib.hid hg; rename_i h_; clear h_
      go_wp2_with fail
      refine (isOne_no _ hO.rd hg.out).mono ?_
      rintro e w5 ⟨rfl, q5, rfl⟩
      go_wp2_with fail
      go_ret
      exact ⟨ret_bool hd.out.symm, slc⟩
theorem RatOk_any (h : RdR w s A n c B m d r) :
    Calls Tryz.prog 40 #[.agg #[.bool s, .slice A n c, .slice B m d]] w fun e w' => e = .returned (.bool (okR r)) ∧ Bl w w' := by
  have hiff := okR_iff r
  rw [h.mag.len, h.den.len, ← h.neg] at hiff
  by_cases hg : OkB s r.mag ∧ OkN r.den ∧ 0 < m ∧ n ≤ 24 ∧ m ≤ 24
  · obtain ⟨g1, g2, g3, g4, g5⟩ := hg
    have e1 := g1.1.nv.1
    have e2 := g2.nv.1
    have hn : (rn r).natAbs = nv r.mag := by unfold rn; split <;> omega
    have hr : r = raw (rn r) (rd r) := by
      obtain ⟨s', mag, den⟩ := r
      have hs := h.neg
      simp only at hs
      subst hs
      unfold raw
      congr 1
      · by_cases hs : s = true
        · have := g1.2 hs
          simp only at this e1
          rw [e1, ints_len] at this
          have := dig_len_pos.1 this
          subst hs
          simp [rn]
          omega
        · have : s = false := by simpa using hs
          subst this
          simp [rn]
      · rw [hn]; exact e1
    have hI : IsR w s A n c B m d (rn r) (rd r) := by
      have h2 := h
      rw [hr] at h2
      exact h2
    refine (RatOk_fine w hI (by rw [← hr]; exact okB_yes g1) (by rw [← hr]; exact okN_of g2) g3 g4 g5).mono ?_
    rintro e w' ⟨rfl, hb⟩
    refine ⟨?_, hb⟩
    congr 2
    by_cases hk : Nat.gcd (nv r.mag) (nv r.den) = 1
    · rw [okR_of (hiff.2 ⟨g1, g2, g3, g4, g5, hk⟩), hn]
      simp [rd, hk]
    · rw [okR_no (fun ho => hk (hiff.1 ho).2.2.2.2.2), hn]
      simp [rd, hk]
  · exact RatOk_bad w h (fun ho => hg ⟨(hiff.1 ho).1, (hiff.1 ho).2.1, (hiff.1 ho).2.2.1, (hiff.1 ho).2.2.2.1, (hiff.1 ho).2.2.2.2.1⟩) hg
end

end Go.Proofs.YtggjdgjkdmgjnaaGreat
