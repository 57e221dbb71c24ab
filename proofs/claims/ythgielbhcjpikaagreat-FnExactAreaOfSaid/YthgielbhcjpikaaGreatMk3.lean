import Derived.Test.YthgielbhcjpikaaGreatRows
import Derived.Test.YthgielbhcjpikaaGreatMk2
namespace Go.Proofs.YthgielbhcjpikaaGreat
open Go.RowKit

set_option maxHeartbeats 1000000 in
theorem heldPointS_any (w : World) {A : Option Addr} {n c : Nat} {l : List PtD} {k0 : Int} (h : RdPS w A n c (mkL l k0)) (hl : l.length = n) (hn : n ≤ 1048576) (hsz : szL szP l ≤ 1048576) (h0 : 0 ≤ k0) (h1 : k0 ≤ 1073741824) :
    Calls Tryz.prog 23 #[.slice A n c, .int .i64 k0] w fun e w' => e = .returned (.int .i64 (k0 + (sumTo adv l n : Int))) ∧ ∃ q, w' = w.drewN q := by
  have hl := Lib.hid hl; rename_i h_; clear h_
  have hb2 : ∀ z : Bool, (z != z) = false := by simp
  go_enter Tryz.func23, Tryz.ntmps23
  go_wp2_with fail
  go_loopw [1, 5] (fun v i wr => ∃ k : Nat, k ≤ n ∧ i = .int .i64 (k : Int) ∧ v = .int .i64 (k0 + (sumTo adv l k : Int)) ∧ ∃ q, wr = w.drewN q) (fun _ i _ => n - (intOf i).toNat)
  case atStart => exact ⟨0, Nat.zero_le _, rfl, by simp [sumTo], 0, rfl⟩
  case round =>
    obtain ⟨k, hk, rfl, rfl, q, rfl⟩ := hrel
    by_cases hkn : k < n
    · have hki : (k : Int) < (n : Int) := by omega
      have hMk : Hid (k0 + (sumTo adv l (k + 1) : Int) = k0 + (sumTo adv l k : Int) + (adv (pix l k) : Int)) := by unfold Hid; simp only [sumTo]; omega
      obtain ⟨ad, rfl, hlt, hat⟩ := h.cells k hkn
      have hpz := szL_at szP l (k := k) (by rw [hl.out]; exact hkn)
      rw [pix_mkL _ _ (by rw [hl.out]; exact hkn)] at hat
      unfold mkAt at hat
      have hks : (0 : Int) ≤ k0 + (sumTo adv l k : Int) := by omega
      have hkb : k0 + (sumTo adv l k : Int) ≤ 1099511627776 - 100000000 := by have a1 := sumTo_adv l k; have a2 := sumTo_le szP l hk; have a3 := hl.out; unfold szL at hsz; rw [a3] at hsz; omega
      generalize k0 + (sumTo adv l k : Int) = ks at *
      generalize pix l k = p at *
      obtain ⟨s, A, n1, c1, B, m1, d1, t, C, n2, c2, D, m2, d2, ⟨x0, x1, x2, x3, x4, x5⟩, hx, hy⟩ := hat
      have lX1 := Lib.hid (show p.x.mag.length = n1 by have := hx.mag.len; rwa [mkP_xm rfl, marks_len] at this)
      have lX2 := Lib.hid (show p.x.den.length = m1 by have := hx.den.len; rwa [mkP_xd rfl rfl, marks_len] at this)
      have lY1 := Lib.hid (show p.y.mag.length = n2 by have := hy.mag.len; rwa [mkP_y rfl rfl rfl, mkR_m rfl, marks_len] at this)
      have lY2 := Lib.hid (show p.y.den.length = m2 by have := hy.den.len; rwa [mkP_y rfl rfl rfl, mkR_d rfl rfl, marks_len] at this)
      have hb1 : n1 + m1 + n2 + m2 ≤ 1048576 := by have a1 := lX1.out; have a2 := lX2.out; have a3 := lY1.out; have a4 := lY2.out; simp only [szP, szR] at hpz; omega
      have vX1 := hx.mag
      have vX2 := hx.den
      have vY1 := hy.mag
      have vY2 := hy.den
      have es := hx.neg
      have et := hy.neg
      rw [mkP_xm lX1.out] at vX1
      rw [mkP_xd lX1.out lX2.out] at vX2
      rw [mkP_y lX1.out lX2.out rfl, mkR_m lY1.out] at vY1
      rw [mkP_y lX1.out lX2.out rfl, mkR_d lY1.out lY2.out] at vY2
      rw [mkP_y lX1.out lX2.out rfl] at et
      obtain rfl : s = (ks % 3 == 0) := es
      obtain rfl : t = ((ks + 1 + (n1 : Int) + (m1 : Int)) % 3 == 0) := et
      clear hx hy hpz
      go_wp2_with fail
      refine (heldIntS_any _ (vX1.drewN _) (by omega) (by omega) (by omega)).mono ?_
      rintro e w2 ⟨rfl, qa, rfl⟩
      go_wp2_with fail
      refine (heldIntS_any _ (vX2.drewN _) (by omega) (by omega) (by omega)).mono ?_
      rintro e w3 ⟨rfl, qb, rfl⟩
      generalize hks3 : ks + 1 + (n1 : Int) + (m1 : Int) = ks3 at *
      have hks3 := Lib.hid hks3; rename_i h_; clear h_
      have hk3b : ks3 ≤ 1099511627776 - 90000000 := by have := hks3.out; omega
      have hk30 : 0 ≤ ks3 := by have := hks3.out; omega
      go_wp2_with fail
      refine (heldIntS_any _ (vY1.drewN _) (by omega) (by omega) (by omega)).mono ?_
      rintro e w4 ⟨rfl, qc, rfl⟩
      go_wp2_with fail
      refine (heldIntS_any _ (vY2.drewN _) (by omega) (by omega) (by omega)).mono ?_
      rintro e w5 ⟨rfl, qd, rfl⟩
      have hnext : Hid (ks3 + 1 + (n2 : Int) + (m2 : Int) = k0 + (sumTo adv l (k + 1) : Int)) := by
        unfold Hid
        rw [hMk.out]
        have a1 := lX1.out; have a2 := lX2.out; have a3 := lY1.out; have a4 := lY2.out; have a5 := hks3.out
        simp only [adv, szP, szR]
        omega
      go_wp2_with fail
      go_roundw
      case rel => exact ⟨k + 1, by omega, by go_num, by rw [hnext.out], _, rfl⟩
      case measure => simp [intOf]; omega
    · obtain rfl : k = n := by omega
      go_wp2_with fail
      go_ret
      exact ⟨rfl, ⟨_, rfl⟩⟩


end Go.Proofs.YthgielbhcjpikaaGreat
