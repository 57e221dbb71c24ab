/- The long division, plainly; no program in sight. -/
import Derived.Test.YthgielbhcjpikaaGreatN4
namespace Go.Proofs.YthgielbhcjpikaaGreat

/-! The quotient's digit in a division by more than one limb: plain arithmetic over a base B; P is B^(n-2). -/
section
variable {B P v1 v2 Vl top u2 Wl q rest : Nat}
theorem kn_init {t : Nat} (hu2 : u2 < B) (hWl : Wl < P) (h : t * (v1 * (B * P) + v2 * P + Vl) ≤ top * (B * P) + u2 * P + Wl) : t * v1 ≤ top := by
  have h1 : (u2 + 1) * P ≤ B * P := Nat.mul_le_mul_right P hu2
  have h2 : t * (v1 * (B * P)) ≤ t * (v1 * (B * P) + v2 * P + Vl) := Nat.mul_le_mul_left t (by omega)
  rw [← Nat.mul_assoc] at h2
  rw [Nat.add_mul] at h1
  rcases Nat.lt_or_ge top (t * v1) with hlt | hge
  · have h3 : (top + 1) * (B * P) ≤ (t * v1) * (B * P) := Nat.mul_le_mul_right _ hlt
    rw [Nat.add_mul] at h3
    omega
  · exact hge
theorem kn_step (hr : rest + q * v1 = top) (hWl : Wl < P) (h : rest * B + u2 < q * v2) : top * (B * P) + u2 * P + Wl < q * (v1 * (B * P) + v2 * P + Vl) := by
  have h1 : (rest * B + u2 + 1) * P ≤ (q * v2) * P := Nat.mul_le_mul_right P h
  rw [Nat.add_mul, Nat.add_mul, Nat.mul_assoc, Nat.mul_assoc] at h1
  rw [← hr, Nat.add_mul, Nat.mul_add, Nat.mul_add, Nat.mul_assoc q v1]
  omega
theorem kn_exit1 (hq : q < B) (hr : rest + q * v1 = top) (hv1 : 0 < v1) (hVl : Vl < P) (h : q * v2 ≤ rest * B + u2) : q * (v1 * (B * P) + v2 * P + Vl) ≤ (top * (B * P) + u2 * P + Wl) + (v1 * (B * P) + v2 * P + Vl) := by
  have h1 : (q * v2) * P ≤ (rest * B + u2) * P := Nat.mul_le_mul_right P h
  rw [Nat.add_mul, Nat.mul_assoc, Nat.mul_assoc] at h1
  have h2 : q * Vl ≤ B * P := Nat.mul_le_mul (by omega) (by omega)
  have h3 : 1 * (B * P) ≤ v1 * (B * P) := Nat.mul_le_mul_right _ hv1
  rw [← hr, Nat.add_mul, Nat.mul_add, Nat.mul_add, Nat.mul_assoc q v1]
  omega
theorem kn_exit2 (hq : q < B) (hr : rest + q * v1 = top) (hv2 : v2 < B) (hVl : Vl < P) (h : B ≤ rest) : q * (v1 * (B * P) + v2 * P + Vl) ≤ (top * (B * P) + u2 * P + Wl) + (v1 * (B * P) + v2 * P + Vl) := by
  have h1 : (v2 + 1) * P ≤ B * P := Nat.mul_le_mul_right P hv2
  rw [Nat.add_mul] at h1
  have h2 : q * (v2 * P + Vl) ≤ B * (B * P) := Nat.mul_le_mul (by omega) (by omega)
  have h3 : B * (B * P) ≤ rest * (B * P) := Nat.mul_le_mul_right _ h
  rw [← hr, Nat.add_mul, Nat.add_assoc (v1 * (B * P)), Nat.mul_add, Nat.mul_assoc q v1]
  omega
end

theorem vf_split (f : Nat → Nat) (j m : Nat) : vf f (j + m) = vf f j + Bs ^ j * vf (fun i => f (j + i)) m := by
  induction m with
  | zero => simp [vf]
  | succ m ih =>
    rw [← Nat.add_assoc, vf, ih]
    simp only [vf]
    rw [Nat.mul_add, Nat.pow_add, Nat.add_assoc, ← Nat.mul_assoc, Nat.mul_comm (f (j + m)), Nat.mul_assoc]
theorem vf_top2 (f : Nat → Nat) (n : Nat) : vf f (n + 3) = (f (n + 2) * Bs + f (n + 1)) * (Bs * Bs ^ n) + f n * Bs ^ n + vf f n := by
  simp only [vf]
  have e1 : Bs ^ (n + 1) = Bs * Bs ^ n := by rw [Nat.pow_succ, Nat.mul_comm]
  have e2 : Bs ^ (n + 2) = Bs * (Bs * Bs ^ n) := by rw [Nat.pow_succ, e1, Nat.mul_comm]
  rw [e2, e1, Nat.add_mul, Nat.mul_assoc (f (n + 2)) Bs]
  omega
theorem vf_top1 (f : Nat → Nat) (n : Nat) : vf f (n + 2) = f (n + 1) * (Bs * Bs ^ n) + f n * Bs ^ n + vf f n := by
  simp only [vf]
  rw [Nat.pow_succ, Nat.mul_comm (Bs ^ n) Bs]
  omega

/-- The state of a long division when K digits are still to come. N: the number to divide (scaled), V: the divisor (scaled). -/
structure LdRel (N V n L K : Nat) (us os : List Nat) : Prop where
  lenU : us.length = L + 1
  lenO : os.length = L - n + 1
  digU : Digs us
  digO : Digs os
  sum : val os * V + val us = N
  part : vf (fun i => dx us (K + i)) n < V
  high : ∀ j, K + n ≤ j → dx us j = 0
  low : ∀ j, j < K → dx os j = 0
theorem LdRel.window {N V n L K : Nat} {us os : List Nat} (h : LdRel N V n L (K + 1) us os) : vf (fun i => dx us (K + i)) (n + 1) < Bs * V := by
  have h1 : vf (fun i => dx us (K + i)) (n + 1) = dx us K + Bs * vf (fun i => dx us (K + 1 + i)) n := by
    rw [vf_shift]
    rw [Nat.add_zero]
    congr 2
    exact vf_congr fun i _ => by rw [Nat.add_assoc, Nat.add_comm 1 i]
  have h2 := h.part
  have h3 := dx_lt h.digU K
  have h4 := Nat.mul_le_mul_left Bs (show vf (fun i => dx us (K + 1 + i)) n + 1 ≤ V from h2)
  rw [Nat.mul_add] at h4
  omega
/-- One digit more: the window W is replaced by W mod V. -/
theorem LdRel.step {N V n L K q : Nat} {us us' os : List Nat} (h : LdRel N V n L (K + 1) us os) (hK : K + n ≤ L) (hVn : V < Bs ^ n) (hlen : us'.length = us.length) (hdig : Digs us')
    (hq : q = vf (fun i => dx us (K + i)) (n + 1) / V) (hw : vf (fun i => dx us' (K + i)) (n + 1) = vf (fun i => dx us (K + i)) (n + 1) % V) (hsame : ∀ j, (j < K ∨ K + n < j) → dx us' j = dx us j) (hn : n ≤ L) :
    LdRel N V n L K us' (os.set K q) := by
  have hwin := h.window
  have hV0 : 0 < V := by
    rcases Nat.eq_zero_or_pos V with h0 | h0
    · rw [h0] at hwin; omega
    · exact h0
  have hqB : q < Bs := by rw [hq, Nat.div_lt_iff_lt_mul hV0]; exact hwin
  have hi : K < os.length := by rw [h.lenO]; omega
  have hmod := Nat.mod_lt (vf (fun i => dx us (K + i)) (n + 1)) hV0
  have htop : dx us' (K + n) = 0 := by
    rcases Nat.eq_zero_or_pos (dx us' (K + n)) with h0 | h0
    · exact h0
    · have e1 : vf (fun i => dx us' (K + i)) (n + 1) = vf (fun i => dx us' (K + i)) n + dx us' (K + n) * Bs ^ n := rfl
      have := Nat.mul_le_mul_right (Bs ^ n) h0
      omega
  have hpart : vf (fun i => dx us' (K + i)) n = vf (fun i => dx us (K + i)) (n + 1) % V := by
    rw [← hw]
    have e1 : vf (fun i => dx us' (K + i)) (n + 1) = vf (fun i => dx us' (K + i)) n + dx us' (K + n) * Bs ^ n := rfl
    rw [e1, htop]; omega
  refine ⟨by rw [hlen]; exact h.lenU, by rw [List.length_set]; exact h.lenO, hdig, digs_set h.digO hqB _, ?_, by rw [hpart]; exact hmod, fun j hj => ?_, fun j hj => ?_⟩
  · have h1 := val_set hi q
    rw [h.low K (by omega)] at h1
    have h2 := h.sum
    have split : ∀ w : List Nat, w.length = L + 1 → (∀ j, K + n + 1 ≤ j → dx w j = 0) → val w = vf (dx w) K + Bs ^ K * vf (fun i => dx w (K + i)) (n + 1) := fun w hl hz => by
      rw [← vf_split, ← val_vf (l := w) (k := L + 1) (by omega)]
      exact vf_zero (fun i h1 _ => hz i (by omega)) (by omega)
    have s1 := split us h.lenU (fun j hj => h.high j (by omega))
    have s2 := split us' (by rw [hlen]; exact h.lenU) (fun j hj => by rw [hsame j (by omega)]; exact h.high j (by omega))
    have e1 : vf (dx us') K = vf (dx us) K := vf_congr fun i hi => hsame i (by omega)
    have h3 := Nat.mod_add_div (vf (fun i => dx us (K + i)) (n + 1)) V
    rw [← hq, ← hw] at h3
    rw [s2, e1]
    rw [s1, ← h3, Nat.mul_add] at h2
    have h4 : val (os.set K q) * V = val os * V + Bs ^ K * (V * q) := by
      have : val (os.set K q) = val os + q * Bs ^ K := by omega
      rw [this, Nat.add_mul, Nat.mul_comm q (Bs ^ K), Nat.mul_assoc, Nat.mul_comm q V]
    omega
  · rcases Nat.eq_or_lt_of_le hj with e | hlt
    · rw [← e]; exact htop
    · rw [hsame j (.inr hlt)]; exact h.high j (by omega)
  · rw [dx_set hi, if_neg (by omega)]
    exact h.low j (by omega)
theorem LdRel.stop {a b s n L : Nat} {us os : List Nat} (h : LdRel (s * a) (s * b) n L 0 us os) (hs : 0 < s) : val os = a / b ∧ val us = s * (a % b) ∧ vf (dx us) n = val us := by
  have h1 : vf (dx us) n = val us := by
    rcases Nat.lt_or_ge (L + 1) n with hl | hl
    · exact val_vf (by rw [h.lenU]; omega)
    · rw [← val_vf (l := us) (k := L + 1) (by rw [h.lenU]; omega)]
      exact (vf_zero (fun i h1 _ => h.high i (by omega)) hl).symm
  have h2 := h.part
  simp only [Nat.zero_add] at h2
  have h3 : vf (fun i => dx us i) n = vf (dx us) n := rfl
  rw [h3, h1] at h2
  have h4 := h.sum
  have hb : 0 < s * b := by omega
  have q1 : s * a / (s * b) = val os := by
    rw [← h4, Nat.mul_comm (val os), Nat.mul_add_div hb, Nat.div_eq_of_lt h2]; omega
  have q2 : s * a % (s * b) = val us := by
    rw [← h4, Nat.mul_comm (val os), Nat.mul_add_mod, Nat.mod_eq_of_lt h2]
  rw [Nat.mul_div_mul_left _ _ hs] at q1
  rw [Nat.mul_mod_mul_left] at q2
  exact ⟨q1.symm, q2.symm, h1⟩
theorem LdRel.start {a b s n L : Nat} {us : List Nat} (hU : us.length = L + 1) (hd : Digs us) (hv : val us = s * a) (ha : a < Bs ^ L) (hb : Bs ^ (n - 1) ≤ b) (hs : 0 < s) (hn : 0 < n) (hnL : n ≤ L) :
    LdRel (s * a) (s * b) n L (L - n + 1) us (List.replicate (L - n + 1) 0) := by
  refine ⟨hU, by simp, hd, digs_replicate _, by rw [val_replicate, hv]; omega, ?_, fun j hj => dx_beyond (by rw [hU]; omega), fun j _ => dx_replicate _ _⟩
  have h1 : val us = vf (dx us) (L - n + 1) + Bs ^ (L - n + 1) * vf (fun i => dx us (L - n + 1 + i)) n := by
    rw [← vf_split, val_eq_vf, hU]
    congr 1
    omega
  rcases Nat.lt_or_ge (vf (fun i => dx us (L - n + 1 + i)) n) (s * b) with hlt | hge
  · exact hlt
  · have h2 := Nat.mul_le_mul_left (Bs ^ (L - n + 1)) hge
    have h3 : Bs ^ (L - n + 1) * (s * Bs ^ (n - 1)) ≤ Bs ^ (L - n + 1) * (s * b) := Nat.mul_le_mul_left _ (Nat.mul_le_mul_left _ hb)
    have h4 : Bs ^ (L - n + 1) * (s * Bs ^ (n - 1)) = s * Bs ^ L := by
      rw [← Nat.mul_assoc, Nat.mul_comm _ s, Nat.mul_assoc, ← Nat.pow_add]
      congr 2
      omega
    have h5 : s * (a + 1) ≤ s * Bs ^ L := Nat.mul_le_mul_left s ha
    rw [Nat.mul_add] at h5
    omega
/-- The digit after the subtraction, and after the addition that mends it. -/
theorem kn_digit {W W1 W2 V q r c n : Nat} (hV0 : 0 < V) (hVn : V < Bs ^ n) (h1 : W / V ≤ q) (h2 : q ≤ W / V + 1) (hs : W1 + q * V = W + r * Bs ^ (n + 1)) (hw1 : W1 < Bs ^ (n + 1)) :
    (r = 0 → q = W / V ∧ W1 = W % V) ∧ (r = 1 → q - 1 = W / V ∧ 0 < q ∧ (W2 + c * Bs ^ (n + 1) = W1 + V → W2 < Bs ^ (n + 1) → W2 = W % V)) := by
  have hbig : V < Bs ^ (n + 1) := by
    rw [Nat.pow_succ]
    have := Nat.mul_le_mul_left (Bs ^ n) Bs_pos
    omega
  generalize Bs ^ (n + 1) = M at *
  have hdm := Nat.mod_add_div W V
  have hlt := Nat.mod_lt W hV0
  have hle : q * V ≤ (W / V + 1) * V := Nat.mul_le_mul_right V h2
  have hge : (W / V) * V ≤ q * V := Nat.mul_le_mul_right V h1
  rw [Nat.add_mul] at hle
  rw [Nat.mul_comm V] at hdm
  constructor
  · intro h0
    rw [h0, Nat.zero_mul] at hs
    have hq : q = W / V := by
      rcases Nat.eq_or_lt_of_le h1 with e | hl
      · exact e.symm
      · have : (W / V + 1) * V ≤ q * V := Nat.mul_le_mul_right V hl
        rw [Nat.add_mul] at this
        omega
    refine ⟨hq, ?_⟩
    rw [hq] at hs
    omega
  · intro h0
    rw [h0, Nat.one_mul] at hs
    have hq : q = W / V + 1 := by
      rcases Nat.eq_or_lt_of_le h1 with e | hl
      · have e2 : (W / V) * V = q * V := by rw [e]
        omega
      · omega
    refine ⟨by rw [hq, Nat.add_sub_cancel], by rw [hq]; exact Nat.succ_pos _, fun h3 h4 => ?_⟩
    rw [hq, Nat.add_mul] at hs
    rcases Nat.lt_or_ge c 2 with hc | hc
    · rcases Nat.eq_zero_or_pos c with h0 | h0
      · subst h0; omega
      · obtain rfl : c = 1 := by omega
        omega
    · have := Nat.mul_le_mul_right M hc
      omega

end Go.Proofs.YthgielbhcjpikaaGreat
