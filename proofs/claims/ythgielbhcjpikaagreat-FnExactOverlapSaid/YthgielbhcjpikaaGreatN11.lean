import Derived.Test.YthgielbhcjpikaaGreatRows
import Derived.Test.YthgielbhcjpikaaGreatN6
import Derived.Test.YthgielbhcjpikaaGreatKn
import Derived.Deep.QuietTactic
import Derived.BigQuiet
namespace Go.Proofs.YthgielbhcjpikaaGreat
open Go.RowKit

theorem isNaN_any (a : Int) (w : World) :
    Calls Tryz.prog 208 #[.int .i64 a] w fun e w' => e = .returned (.bool false) ∧ ∃ q, w' = w.drewN q := by
  go_enter Tryz.func208, Tryz.ntmps208
  go_wp2
  go_ret
  exact ⟨by simp, 0, rfl⟩

def cmpI (a b : Int) : Int := if a < b then -1 else if b < a then 1 else 0

set_option maxHeartbeats 400000 in
theorem compare_any (a b : Int) (w : World) :
    Calls Tryz.prog 203 #[.int .i64 a, .int .i64 b] w fun e w' => e = .returned (.int .i64 (cmpI a b)) ∧ ∃ q, w' = w.drewN q := by
  unfold cmpI
  go_enter Tryz.func203, Tryz.ntmps203
  go_wp2_with (go_at_call 208; refine (isNaN_any _ _).mono ?_; rintro e w' ⟨rfl, _, rfl⟩)
  all_goals (go_ret; exact ⟨by simp [*], _, rfl⟩)

theorem cmpI_lt {a b : Int} (h : a < b) : cmpI a b = -1 := if_pos h
theorem cmpI_gt {a b : Int} (h : b < a) : cmpI a b = 1 := by unfold cmpI; rw [if_neg (by omega), if_pos h]
theorem cmpI_eq {a b : Int} (h : a = b) : cmpI a b = 0 := by unfold cmpI; rw [if_neg (by omega), if_neg (by omega)]
theorem cmp_len {N M n m : Nat} (hn : (dig N).length = n) (hm : (dig M).length = m) (h : n ≠ m) : cmpI (n : Int) (m : Int) = cmpI (N : Int) (M : Int) := by
  rcases Nat.lt_or_ge n m with hlt | hge
  · have : N < M := by
      rcases Nat.lt_or_ge N M with h1 | h1
      · exact h1
      · have := dig_len_mono h1; omega
    rw [cmpI_lt (by omega), cmpI_lt (by omega)]
  · have : M < N := by
      rcases Nat.lt_or_ge M N with h1 | h1
      · exact h1
      · have := dig_len_mono h1; omega
    rw [cmpI_gt (by omega), cmpI_gt (by omega)]
theorem cmp_dx {f g : Nat → Nat} {k m : Nat} (hf : ∀ i, f i < Bs) (_hg : ∀ i, g i < Bs) (ha : ∀ j, k + 1 ≤ j → f j = g j) (h : f k < g k) : vf f (k + 1 + m) < vf g (k + 1 + m) := by
  rw [vf_split f (k + 1) m, vf_split g (k + 1) m, show vf (fun i => f (k + 1 + i)) m = vf (fun i => g (k + 1 + i)) m from vf_congr fun i _ => ha _ (by omega)]
  have h1 := vf_lt (f := f) (k := k) fun i _ => hf i
  have h2 : (f k + 1) * Bs ^ k ≤ g k * Bs ^ k := Nat.mul_le_mul_right _ h
  rw [Nat.add_mul] at h2
  simp only [vf]
  omega
theorem cmp_digit {N M n k : Nat} (hn : (dig N).length = n) (hm : (dig M).length = n) (hk : k < n) (ha : ∀ j, k + 1 ≤ j → dx (dig N) j = dx (dig M) j) (h : dx (dig N) k ≠ dx (dig M) k) : cmpI (dx (dig N) k : Int) (dx (dig M) k : Int) = cmpI (N : Int) (M : Int) := by
  obtain ⟨m, rfl⟩ : ∃ m, n = k + 1 + m := ⟨n - (k + 1), by omega⟩
  have e1 : vf (dx (dig N)) (k + 1 + m) = N := by rw [val_vf (by omega), val_dig]
  have e2 : vf (dx (dig M)) (k + 1 + m) = M := by rw [val_vf (by omega), val_dig]
  rcases Nat.lt_or_ge (dx (dig N) k) (dx (dig M) k) with hlt | hge
  · have := cmp_dx (m := m) (dx_lt (digs_dig N)) (dx_lt (digs_dig M)) ha hlt
    rw [cmpI_lt (by omega), cmpI_lt (by omega)]
  · have := cmp_dx (m := m) (dx_lt (digs_dig M)) (dx_lt (digs_dig N)) (fun j hj => (ha j hj).symm) (show dx (dig M) k < dx (dig N) k by omega)
    rw [cmpI_gt (by omega), cmpI_gt (by omega)]
theorem cmp_same {N M n : Nat} (hn : (dig N).length = n) (hm : (dig M).length = n) (ha : ∀ j, 0 ≤ j → dx (dig N) j = dx (dig M) j) : 0 = cmpI (N : Int) (M : Int) := by
  have e1 : vf (dx (dig N)) n = N := by rw [val_vf (by omega), val_dig]
  have e2 : vf (dx (dig M)) n = M := by rw [val_vf (by omega), val_dig]
  have : vf (dx (dig N)) n = vf (dx (dig M)) n := vf_congr fun i _ => ha i (Nat.zero_le _)
  exact (cmpI_eq (by omega)).symm

set_option maxHeartbeats 1000000 in
theorem natCmp_any (w : World) {A B : Option Addr} {n m c d N M : Nat} (ha : IsN w A n c N) (hb : IsN w B m d M) (hn : n ≤ 2097152) (hm : m ≤ 2097152) :
    Calls Tryz.prog 195 #[.slice A n c, .slice B m d] w fun e w' => e = .returned (.int .i64 (cmpI N M)) ∧ ∃ q, w' = w.drewN q := by
  have hnl := Lib.hid ha.lenN
  have hml := Lib.hid hb.lenN
  by_cases hnm : n = m
  · subst hnm
    go_enter Tryz.func195, Tryz.ntmps195
    go_wp2
    go_loopw [5] (fun i wr => ∃ k : Nat, k ≤ n ∧ i = .int .i64 ((k : Int) - 1) ∧ Hid (∀ j, k ≤ j → dx (dig N) j = dx (dig M) j) ∧ ∃ q, wr = w.drewN q) (fun i _ => (intOf i + 1).toNat)
    case atStart => exact ⟨n, Nat.le_refl _, rfl, fun j hj => by rw [dx_beyond (by rw [hnl.out]; exact hj), dx_beyond (by rw [hml.out]; exact hj)], 0, rfl⟩
    case round =>
      obtain ⟨k, hk, rfl, heq, q, rfl⟩ := hrel
      rcases k with _ | k
      · go_wp2
        go_ret
        exact ⟨ret_int (cmp_same hnl.out hml.out heq.out), q, rfl⟩
      · have hkn : k < n := hk
        obtain ⟨ad, rfl, hlta, hca⟩ := ha.atN (k := k) (by omega)
        obtain ⟨bd, rfl, hltb, hcb⟩ := hb.atN (k := k) (by omega)
        rw [show (((k + 1 : Nat) : Int) - 1) = (k : Int) from by omega]
        by_cases he : dx (dig N) k = dx (dig M) k
        · have hs : Hid (∀ j, k ≤ j → dx (dig N) j = dx (dig M) j) := fun j hj => by
            rcases Nat.eq_or_lt_of_le hj with rfl | hlt
            · exact he
            · exact heq.out j hlt
          clear heq
          have hbeq : ((dx (dig N) k : Int) != (dx (dig M) k : Int)) = false := by simp [he]
          clear he
          go_wp2
          go_quiet (fail)
          go_wp2
          go_roundw
          case rel => exact ⟨k, by omega, rfl, hs, _, rfl⟩
          case measure => simp [intOf]
        · have hs := Lib.hid (cmp_digit hnl.out hml.out hkn heq.out he); clear heq
          have hbeq : ((dx (dig N) k : Int) != (dx (dig M) k : Int)) = true := by simp; omega
          clear he
          go_wp2
          go_quiet (fail)
          go_wp2
          go_quiet ((go_at_call 203; exact quiet_add (compare_any _ _ _)))
          go_wp2
          go_ret
          exact ⟨ret_int hs.out, q_drewN (q_drewN ⟨_, rfl⟩)⟩
  · have heq := Lib.hid (cmp_len hnl.out hml.out hnm)
    have hne : ((n : Int) != (m : Int)) = true := by simp; omega
    go_enter Tryz.func195, Tryz.ntmps195
    go_wp2_with (go_at_call 203; refine (compare_any _ _ _).mono ?_; rintro e w' ⟨rfl, _, rfl⟩)
    go_ret
    exact ⟨ret_int heq.out, _, rfl⟩

end Go.Proofs.YthgielbhcjpikaaGreat
