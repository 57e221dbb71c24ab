-- merged: Kn N7 N10 Kq N11 N12
import Derived.Test.YtggjdgjkdmgjnaaGreatN6
import Derived.Test.YtggjdgjkdmgjnaaGreatRows
import Derived.Deep.QuietTactic
import Derived.BigQuiet
namespace Go.Proofs.YtggjdgjkdmgjnaaGreat
open Go.RowKit
section

/-! The quotient's digit in a division by more than one limb: plain arithmetic over a base B; P is B^(n-2). -/
section
variable {B P v1 v2 Vl top u2 Wl q rest : Nat}
theorem kn_init {t : Nat} (hu2 : u2 < B) (hWl : Wl < P) (h : t * (v1 * (B * P) + v2 * P + Vl) ≤ top * (B * P) + u2 * P + Wl) : t * v1 ≤ top := by
  have h1 : (u2 + 1) * P ≤ B * P := Nat.mul_le_mul_right P hu2
  have h2 : t * (v1 * (B * P)) ≤ t * (v1 * (B * P) + v2 * P + Vl) := Nat.mul_le_mul_left t (by omega)
  rw [← Nat.mul_assoc] at h2
  rw [Nat.add_mul] at h1
  rcases Nat.lt_or_ge top (t * v1) with hlt | hge
  · have h3 : (top + 1) * (B * P) ≤ (t * v1) * (B * P) := Nat.mul_le_mul_right _ hlt
    rw [Nat.add_mul] at h3
    omega
  · exact hge
theorem kn_step (hr : rest + q * v1 = top) (hWl : Wl < P) (h : rest * B + u2 < q * v2) : top * (B * P) + u2 * P + Wl < q * (v1 * (B * P) + v2 * P + Vl) := by
  have h1 : (rest * B + u2 + 1) * P ≤ (q * v2) * P := Nat.mul_le_mul_right P h
  rw [Nat.add_mul, Nat.add_mul, Nat.mul_assoc, Nat.mul_assoc] at h1
  rw [← hr, Nat.add_mul, Nat.mul_add, Nat.mul_add, Nat.mul_assoc q v1]
  omega
theorem kn_exit1 (hq : q < B) (hr : rest + q * v1 = top) (hv1 : 0 < v1) (hVl : Vl < P) (h : q * v2 ≤ rest * B + u2) : q * (v1 * (B * P) + v2 * P + Vl) ≤ (top * (B * P) + u2 * P + Wl) + (v1 * (B * P) + v2 * P + Vl) := by
  have h1 : (q * v2) * P ≤ (rest * B + u2) * P := Nat.mul_le_mul_right P h
  rw [Nat.add_mul, Nat.mul_assoc, Nat.mul_assoc] at h1
  have h2 : q * Vl ≤ B * P := Nat.mul_le_mul (by omega) (by omega)
  have h3 : 1 * (B * P) ≤ v1 * (B * P) := Nat.mul_le_mul_right _ hv1
  rw [← hr, Nat.add_mul, Nat.mul_add, Nat.mul_add, Nat.mul_assoc q v1]
  omega
theorem kn_exit2 (hq : q < B) (hr : rest + q * v1 = top) (hv2 : v2 < B) (hVl : Vl < P) (h : B ≤ rest) : q * (v1 * (B * P) + v2 * P + Vl) ≤ (top * (B * P) + u2 * P + Wl) + (v1 * (B * P) + v2 * P + Vl) := by
  have h1 : (v2 + 1) * P ≤ B * P := Nat.mul_le_mul_right P hv2
  rw [Nat.add_mul] at h1
  have h2 : q * (v2 * P + Vl) ≤ B * (B * P) := Nat.mul_le_mul (by omega) (by omega)
  have h3 : B * (B * P) ≤ rest * (B * P) := Nat.mul_le_mul_right _ h
  rw [← hr, Nat.add_mul, Nat.add_assoc (v1 * (B * P)), Nat.mul_add, Nat.mul_assoc q v1]
  omega
end

theorem vf_split (f : Nat → Nat) (j m : Nat) : vf f (j + m) = vf f j + Bs ^ j * vf (fun i => f (j + i)) m := by
  induction m with
  | zero => simp [vf]
  | succ m ih =>
    rw [← Nat.add_assoc, vf, ih]
    simp only [vf]
    rw [Nat.mul_add, Nat.pow_add, Nat.add_assoc, ← Nat.mul_assoc, Nat.mul_comm (f (j + m)), Nat.mul_assoc]
theorem vf_top2 (f : Nat → Nat) (n : Nat) : vf f (n + 3) = (f (n + 2) * Bs + f (n + 1)) * (Bs * Bs ^ n) + f n * Bs ^ n + vf f n := by
  simp only [vf]
  have e1 : Bs ^ (n + 1) = Bs * Bs ^ n := by rw [Nat.pow_succ, Nat.mul_comm]
  have e2 : Bs ^ (n + 2) = Bs * (Bs * Bs ^ n) := by rw [Nat.pow_succ, e1, Nat.mul_comm]
  rw [e2, e1, Nat.add_mul, Nat.mul_assoc (f (n + 2)) Bs]
  omega
theorem vf_top1 (f : Nat → Nat) (n : Nat) : vf f (n + 2) = f (n + 1) * (Bs * Bs ^ n) + f n * Bs ^ n + vf f n := by
  simp only [vf]
  rw [Nat.pow_succ, Nat.mul_comm (Bs ^ n) Bs]
  omega

/-- The state of a long division when K digits are still to come. N: the number to divide (scaled), V: the divisor (scaled). -/
structure LdRel (N V n L K : Nat) (us os : List Nat) : Prop where
  lenU : us.length = L + 1
  lenO : os.length = L - n + 1
  digU : Digs us
  digO : Digs os
  sum : val os * V + val us = N
  part : vf (fun i => dx us (K + i)) n < V
  high : ∀ j, K + n ≤ j → dx us j = 0
  low : ∀ j, j < K → dx os j = 0
theorem LdRel.window {N V n L K : Nat} {us os : List Nat} (h : LdRel N V n L (K + 1) us os) : vf (fun i => dx us (K + i)) (n + 1) < Bs * V := by
  have h1 : vf (fun i => dx us (K + i)) (n + 1) = dx us K + Bs * vf (fun i => dx us (K + 1 + i)) n := by
    rw [vf_shift]
    rw [Nat.add_zero]
    congr 2
    exact vf_congr fun i _ => by rw [Nat.add_assoc, Nat.add_comm 1 i]
  have h2 := h.part
  have h3 := dx_lt h.digU K
  have h4 := Nat.mul_le_mul_left Bs (show vf (fun i => dx us (K + 1 + i)) n + 1 ≤ V from h2)
  rw [Nat.mul_add] at h4
  omega
/-- One digit more: the window W is replaced by W mod V. -/
theorem LdRel.step {N V n L K q : Nat} {us us' os : List Nat} (h : LdRel N V n L (K + 1) us os) (hK : K + n ≤ L) (hVn : V < Bs ^ n) (hlen : us'.length = us.length) (hdig : Digs us')
    (hq : q = vf (fun i => dx us (K + i)) (n + 1) / V) (hw : vf (fun i => dx us' (K + i)) (n + 1) = vf (fun i => dx us (K + i)) (n + 1) % V) (hsame : ∀ j, (j < K ∨ K + n < j) → dx us' j = dx us j) (hn : n ≤ L) :
    LdRel N V n L K us' (os.set K q) := by
  have hwin := h.window
  have hV0 : 0 < V := by
    rcases Nat.eq_zero_or_pos V with h0 | h0
    · rw [h0] at hwin; omega
    · exact h0
  have hqB : q < Bs := by rw [hq, Nat.div_lt_iff_lt_mul hV0]; exact hwin
  have hi : K < os.length := by rw [h.lenO]; omega
  have hmod := Nat.mod_lt (vf (fun i => dx us (K + i)) (n + 1)) hV0
  have htop : dx us' (K + n) = 0 := by
    rcases Nat.eq_zero_or_pos (dx us' (K + n)) with h0 | h0
    · exact h0
    · have e1 : vf (fun i => dx us' (K + i)) (n + 1) = vf (fun i => dx us' (K + i)) n + dx us' (K + n) * Bs ^ n := rfl
      have := Nat.mul_le_mul_right (Bs ^ n) h0
      omega
  have hpart : vf (fun i => dx us' (K + i)) n = vf (fun i => dx us (K + i)) (n + 1) % V := by
    rw [← hw]
    have e1 : vf (fun i => dx us' (K + i)) (n + 1) = vf (fun i => dx us' (K + i)) n + dx us' (K + n) * Bs ^ n := rfl
    rw [e1, htop]; omega
  refine ⟨by rw [hlen]; exact h.lenU, by rw [List.length_set]; exact h.lenO, hdig, digs_set h.digO hqB _, ?_, by rw [hpart]; exact hmod, fun j hj => ?_, fun j hj => ?_⟩
  · have h1 := val_set hi q
    rw [h.low K (by omega)] at h1
    have h2 := h.sum
    have split : ∀ w : List Nat, w.length = L + 1 → (∀ j, K + n + 1 ≤ j → dx w j = 0) → val w = vf (dx w) K + Bs ^ K * vf (fun i => dx w (K + i)) (n + 1) := fun w hl hz => by
      rw [← vf_split, ← val_vf (l := w) (k := L + 1) (by omega)]
      exact vf_zero (fun i h1 _ => hz i (by omega)) (by omega)
    have s1 := split us h.lenU (fun j hj => h.high j (by omega))
    have s2 := split us' (by rw [hlen]; exact h.lenU) (fun j hj => by rw [hsame j (by omega)]; exact h.high j (by omega))
    have e1 : vf (dx us') K = vf (dx us) K := vf_congr fun i hi => hsame i (by omega)
    have h3 := Nat.mod_add_div (vf (fun i => dx us (K + i)) (n + 1)) V
    rw [← hq, ← hw] at h3
    rw [s2, e1]
    rw [s1, ← h3, Nat.mul_add] at h2
    have h4 : val (os.set K q) * V = val os * V + Bs ^ K * (V * q) := by
      have : val (os.set K q) = val os + q * Bs ^ K := by omega
      rw [this, Nat.add_mul, Nat.mul_comm q (Bs ^ K), Nat.mul_assoc, Nat.mul_comm q V]
    omega
  · rcases Nat.eq_or_lt_of_le hj with e | hlt
    · rw [← e]; exact htop
    · rw [hsame j (.inr hlt)]; exact h.high j (by omega)
  · rw [dx_set hi, if_neg (by omega)]
    exact h.low j (by omega)
theorem LdRel.stop {a b s n L : Nat} {us os : List Nat} (h : LdRel (s * a) (s * b) n L 0 us os) (hs : 0 < s) : val os = a / b ∧ val us = s * (a % b) ∧ vf (dx us) n = val us := by
  have h1 : vf (dx us) n = val us := by
    rcases Nat.lt_or_ge (L + 1) n with hl | hl
    · exact val_vf (by rw [h.lenU]; omega)
    · rw [← val_vf (l := us) (k := L + 1) (by rw [h.lenU]; omega)]
      exact (vf_zero (fun i h1 _ => h.high i (by omega)) hl).symm
  have h2 := h.part
  simp only [Nat.zero_add] at h2
  have h3 : vf (fun i => dx us i) n = vf (dx us) n := rfl
  rw [h3, h1] at h2
  have h4 := h.sum
  have hb : 0 < s * b := by omega
  have q1 : s * a / (s * b) = val os := by
    rw [← h4, Nat.mul_comm (val os), Nat.mul_add_div hb, Nat.div_eq_of_lt h2]; omega
  have q2 : s * a % (s * b) = val us := by
    rw [← h4, Nat.mul_comm (val os), Nat.mul_add_mod, Nat.mod_eq_of_lt h2]
  rw [Nat.mul_div_mul_left _ _ hs] at q1
  rw [Nat.mul_mod_mul_left] at q2
  exact ⟨q1.symm, q2.symm, h1⟩
theorem LdRel.start {a b s n L : Nat} {us : List Nat} (hU : us.length = L + 1) (hd : Digs us) (hv : val us = s * a) (ha : a < Bs ^ L) (hb : Bs ^ (n - 1) ≤ b) (hs : 0 < s) (hn : 0 < n) (hnL : n ≤ L) :
    LdRel (s * a) (s * b) n L (L - n + 1) us (List.replicate (L - n + 1) 0) := by
  refine ⟨hU, by simp, hd, digs_replicate _, by rw [val_replicate, hv]; omega, ?_, fun j hj => dx_beyond (by rw [hU]; omega), fun j _ => dx_replicate _ _⟩
  have h1 : val us = vf (dx us) (L - n + 1) + Bs ^ (L - n + 1) * vf (fun i => dx us (L - n + 1 + i)) n := by
    rw [← vf_split, val_eq_vf, hU]
    congr 1
    omega
  rcases Nat.lt_or_ge (vf (fun i => dx us (L - n + 1 + i)) n) (s * b) with hlt | hge
  · exact hlt
  · have h2 := Nat.mul_le_mul_left (Bs ^ (L - n + 1)) hge
    have h3 : Bs ^ (L - n + 1) * (s * Bs ^ (n - 1)) ≤ Bs ^ (L - n + 1) * (s * b) := Nat.mul_le_mul_left _ (Nat.mul_le_mul_left _ hb)
    have h4 : Bs ^ (L - n + 1) * (s * Bs ^ (n - 1)) = s * Bs ^ L := by
      rw [← Nat.mul_assoc, Nat.mul_comm _ s, Nat.mul_assoc, ← Nat.pow_add]
      congr 2
      omega
    have h5 : s * (a + 1) ≤ s * Bs ^ L := Nat.mul_le_mul_left s ha
    rw [Nat.mul_add] at h5
    omega
/-- The digit after the subtraction, and after the addition that mends it. -/
theorem kn_digit {W W1 W2 V q r c n : Nat} (hV0 : 0 < V) (hVn : V < Bs ^ n) (h1 : W / V ≤ q) (h2 : q ≤ W / V + 1) (hs : W1 + q * V = W + r * Bs ^ (n + 1)) (hw1 : W1 < Bs ^ (n + 1)) :
    (r = 0 → q = W / V ∧ W1 = W % V) ∧ (r = 1 → q - 1 = W / V ∧ 0 < q ∧ (W2 + c * Bs ^ (n + 1) = W1 + V → W2 < Bs ^ (n + 1) → W2 = W % V)) := by
  have hbig : V < Bs ^ (n + 1) := by
    rw [Nat.pow_succ]
    have := Nat.mul_le_mul_left (Bs ^ n) Bs_pos
    omega
  generalize Bs ^ (n + 1) = M at *
  have hdm := Nat.mod_add_div W V
  have hlt := Nat.mod_lt W hV0
  have hle : q * V ≤ (W / V + 1) * V := Nat.mul_le_mul_right V h2
  have hge : (W / V) * V ≤ q * V := Nat.mul_le_mul_right V h1
  rw [Nat.add_mul] at hle
  rw [Nat.mul_comm V] at hdm
  constructor
  · intro h0
    rw [h0, Nat.zero_mul] at hs
    have hq : q = W / V := by
      rcases Nat.eq_or_lt_of_le h1 with e | hl
      · exact e.symm
      · have : (W / V + 1) * V ≤ q * V := Nat.mul_le_mul_right V hl
        rw [Nat.add_mul] at this
        omega
    refine ⟨hq, ?_⟩
    rw [hq] at hs
    omega
  · intro h0
    rw [h0, Nat.one_mul] at hs
    have hq : q = W / V + 1 := by
      rcases Nat.eq_or_lt_of_le h1 with e | hl
      · have e2 : (W / V) * V = q * V := by rw [e]
        omega
      · omega
    refine ⟨by rw [hq, Nat.add_sub_cancel], by rw [hq]; exact Nat.succ_pos _, fun h3 h4 => ?_⟩
    rw [hq, Nat.add_mul] at hs
    rcases Nat.lt_or_ge c 2 with hc | hc
    · rcases Nat.eq_zero_or_pos c with h0 | h0
      · subst h0; omega
      · obtain rfl : c = 1 := by omega
        omega
    · have := Nat.mul_le_mul_right M hc
      omega


end

section


/-- What holds of a division by a limb when the limbs from k up are done. -/
structure DivRel (N d n k r : Nat) (o : List Nat) : Prop where
  len : o.length = n
  digs : Digs o
  small : r < d
  sum : val o * d + r * Bs ^ k + vf (dx (dig N)) k = N
  rest : ∀ j, j < k → dx o j = 0
theorem DivRel.start {N d n : Nat} (h : (dig N).length = n) (hd : 0 < d) : DivRel N d n n 0 (List.replicate n 0) :=
  ⟨by simp, digs_replicate _, hd, by rw [val_replicate, val_vf (by omega), val_dig]; omega, fun j _ => dx_replicate _ _⟩
theorem div_limb {r d a : Nat} (hr : r < d) (ha : a < Bs) : (r * Bs + a) / d < Bs := by
  rw [Nat.div_lt_iff_lt_mul (by omega)]
  have := Nat.mul_le_mul_right Bs (show r + 1 ≤ d by omega)
  rw [Nat.add_mul] at this
  rw [Nat.mul_comm Bs d]
  omega
theorem DivRel.step {N d n k r : Nat} {o : List Nat} (h : DivRel N d n (k + 1) r o) (hk : k < n) :
    DivRel N d n k ((r * Bs + dx (dig N) k) % d) (o.set k ((r * Bs + dx (dig N) k) / d)) := by
  have hi : k < o.length := by rw [h.len]; exact hk
  have hd0 : 0 < d := by have := h.small; omega
  refine ⟨by rw [List.length_set]; exact h.len, digs_set h.digs (div_limb h.small (dx_lt (digs_dig N) k)) _, Nat.mod_lt _ hd0, ?_, fun j hj => ?_⟩
  · have h1 := val_set hi ((r * Bs + dx (dig N) k) / d)
    rw [h.rest k (by omega)] at h1
    have h2 := h.sum
    have h3 := Nat.mod_add_div (r * Bs + dx (dig N) k) d
    simp only [vf] at h2
    rw [Nat.pow_succ] at h2
    generalize (r * Bs + dx (dig N) k) % d = s at *
    generalize (r * Bs + dx (dig N) k) / d = q at *
    have h4 : (s + d * q) * Bs ^ k = (r * Bs + dx (dig N) k) * Bs ^ k := by rw [h3]
    grind
  · rw [dx_set hi, if_neg (by omega)]
    exact h.rest j (by omega)
theorem DivRel.stop {N d n r : Nat} {o : List Nat} (h : DivRel N d n 0 r o) : val o = N / d ∧ r = N % d := by
  have h1 := h.sum
  have h2 := h.small
  simp only [vf, Nat.pow_zero, Nat.mul_one, Nat.add_zero] at h1
  have h3 : N / d = val o := by
    rw [← h1, Nat.mul_comm, Nat.mul_add_div (by omega), Nat.div_eq_of_lt h2]; omega
  have h4 : N % d = r := by
    rw [← h1, Nat.mul_comm, Nat.mul_add_mod, Nat.mod_eq_of_lt h2]
  exact ⟨h3.symm, h4.symm⟩

set_option maxHeartbeats 1000000 in
theorem divSmall_any (w : World) {A : Option Addr} {n c N d : Nat} (ha : IsN w A n c N) (hn : n ≤ 1048576) (hd0 : 0 < d) (hdB : d < 1000000000) :
    Calls Tryz.prog 186 #[.slice A n c, .int .i64 (d : Int)] w fun e w' => ∃ A' n' c', e = .returned (.tuple #[.slice A' n' c', .int .i64 ((N % d : Nat) : Int)]) ∧ OwI 3 w.heap.size w' A' n' c' (ints (dig (N / d))) ∧ Bl w w' := by
  have hmk := make_ints (P := Tryz.prog) Tryz.underlying30 info_int n n (Nat.le_refl _) (by omega)
  go_enter Tryz.func186, Tryz.ntmps186
  go_wp2_with fail
  clear hmk
  go_loopw [7, 8] (fun rv i wr => ∃ (k r : Nat) (o : List Nat), k ≤ n ∧ i = .int .i64 ((k : Int) - 1) ∧ rv = .int .i64 (r : Int) ∧ DivRel N d n k r o ∧ Ow 3 wr w.heap.size (ints o) ∧ Bl w wr) (fun _ i _ => (intOf i + 1).toNat)
  case atStart => exact ⟨n, 0, List.replicate n 0, Nat.le_refl _, rfl, rfl, DivRel.start ha.lenN hd0, by rw [ints_replicate]; exact Ow.mk w n, (Bl.refl w).alloc _⟩
  case round =>
    obtain ⟨k, r, o, hk, rfl, rfl, hrel, hO, hbw⟩ := hrel
    rcases k with _ | k
    · have hv := Lib.hid hrel.stop
      have hlen := hrel.len
      have hdg := hrel.digs
      clear hrel
      go_wp2_with fail
      refine (trimmed_any _ (l := o) (RdI.of_ow hO (by rw [ints_len]; exact hlen) (by omega)) hdg).mono ?_
      rintro e w1 ⟨m', rfl, hm', ht, hq⟩
      rw [hv.out.1] at ht
      have hO1 := (OwI.of_ow (c := n) hO (Nat.le_refl _) (by rw [ints_len]; exact hlen) (by omega) hm' ht).q hq
      have hbw1 := hbw.next (q_bl hq)
      go_wp2_with fail
      go_ret2
      exact ⟨_, _, _, by rw [← hv.out.2]; rfl, hO1, hbw1⟩
    · obtain ⟨ad, rfl, hlta, hca⟩ := (ha.bl hbw).atN (k := k) (by omega)
      have hki : (k : Int) < (n : Int) := by omega
      have hkn : k < n := by omega
      rw [show (((k + 1 : Nat) : Int) - 1) = (k : Int) from by omega]
      have hcell := hO.cell (k := k) (by rw [ints_len, hrel.len]; omega)
      rw [ix_ints] at hcell
      have hfr := hO.frozen k
      have bx := dx_lt (digs_dig N) k
      have hq := div_limb hrel.small bx
      rw [Bs_eq] at bx
      have hr := hrel.small
      have hst := hrel.step hkn
      have hO1 := hO.set k (((r * Bs + dx (dig N) k) / d : Nat) : Int)
      rw [← ints_set] at hO1
      generalize dx (dig N) k = x at *
      have e1 : ((((r * Bs + x) / d : Nat) : Int)) = ((r : Int) * 1000000000 + (x : Int)) / (d : Int) := by rw [Bs_eq]; simp
      have e2 : ((((r * Bs + x) % d : Nat) : Int)) = ((r : Int) * 1000000000 + (x : Int)) % (d : Int) := by rw [Bs_eq]; simp
      rw [e1] at hO1
      have e2 := Lib.hid e2; rename_i e2o; clear e2o e1 hq
      go_wp2_with fail
      go_roundw
      case rel => exact ⟨k, _, _, by omega, rfl, by rw [e2.out], hst, hO1, hbw.set (Nat.le_refl _) _⟩
      case measure => simp [intOf]


end

section


/-- What holds behind k rounds of a multiplication by a limb. -/
structure ScRel (N b n k c : Nat) (o : List Nat) : Prop where
  len : o.length = n
  digs : Digs o
  small : c < Bs
  sum : vf (dx o) k + c * Bs ^ k = b * vf (dx (dig N)) k
theorem ScRel.start (N b n : Nat) : ScRel N b n 0 0 (List.replicate n 0) := ⟨by simp, digs_replicate _, Bs_pos, by simp [vf]⟩
theorem ScRel.step {N b n k c : Nat} {o : List Nat} (h : ScRel N b n k c o) (hk : k < n) (hb : b < Bs) :
    ScRel N b n (k + 1) ((c + dx (dig N) k * b) / Bs) (o.set k ((c + dx (dig N) k * b) % Bs)) := by
  have hi : k < o.length := by rw [h.len]; exact hk
  refine ⟨by rw [List.length_set]; exact h.len, digs_set h.digs (Nat.mod_lt _ Bs_pos) _, ?_, ?_⟩
  · have := mul_carry (z := 0) Bs_pos (dx_lt (digs_dig N) k) hb h.small
    rw [Nat.zero_add, Nat.add_comm] at this
    exact this
  · have h1 : vf (dx (o.set k ((c + dx (dig N) k * b) % Bs))) k = vf (dx o) k := vf_congr fun i hi' => by rw [dx_set hi, if_neg (by omega)]
    have h2 := h.sum
    have h3 := Nat.mod_add_div (c + dx (dig N) k * b) Bs
    simp only [vf]
    rw [h1, dx_set hi, if_pos rfl, Nat.pow_succ]
    generalize (c + dx (dig N) k * b) % Bs = s at *
    generalize (c + dx (dig N) k * b) / Bs = q at *
    have h4 : (s + Bs * q) * Bs ^ k = (c + dx (dig N) k * b) * Bs ^ k := by rw [h3]
    grind
theorem ScRel.stop {N b n c : Nat} {o : List Nat} (h : ScRel N b n n c o) (hn : (dig N).length ≤ n) (hlt : b * N < Bs ^ n) : val o = b * N := by
  have h1 := h.sum
  rw [val_vf (by rw [h.len]; exact Nat.le_refl _), val_vf hn, val_dig] at h1
  rcases Nat.eq_zero_or_pos c with h0 | h0
  · subst h0; omega
  · have := Nat.mul_le_mul_right (Bs ^ n) h0
    omega

set_option maxHeartbeats 1000000 in
theorem scaled_any (w : World) {A : Option Addr} {n c N b s : Nat} (ha : IsN w A n c N) (hs : s ≤ 1048577) (hb : b < 1000000000) (hn : n ≤ s) (hlt : b * N < Bs ^ s) :
    Calls Tryz.prog 187 #[.slice A n c, .int .i64 (b : Int), .int .i64 (s : Int)] w fun e w' => ∃ g o, e = .returned (.slice (some ⟨g, 0, none⟩) s s) ∧ w.heap.size ≤ g ∧ Ow 3 w' g (ints o) ∧ o.length = s ∧ Digs o ∧ val o = b * N ∧ Bl w w' := by
  have hmk := make_ints (P := Tryz.prog) Tryz.underlying30 info_int s s (Nat.le_refl _) (by omega)
  go_enter Tryz.func187, Tryz.ntmps187
  go_wp2_with fail
  clear hmk
  go_loopw [8, 15] (fun cv i wr => ∃ (k c1 : Nat) (o : List Nat), k ≤ s ∧ i = .int .i64 (k : Int) ∧ cv = .int .i64 (c1 : Int) ∧ ScRel N b s k c1 o ∧ Ow 3 wr w.heap.size (ints o) ∧ Bl w wr) (fun _ i _ => s - (intOf i).toNat)
  case atStart => exact ⟨0, 0, List.replicate s 0, Nat.zero_le _, rfl, rfl, ScRel.start _ _ _, by rw [ints_replicate]; exact Ow.mk w s, (Bl.refl w).alloc _⟩
  case round =>
    obtain ⟨k, c1, o, hk, rfl, rfl, hrel, hO, hbw⟩ := hrel
    by_cases hks : k < s
    · have hki : (k : Int) < (s : Int) := by omega
      have hcell := hO.cell (k := k) (by rw [ints_len, hrel.len]; exact hks)
      rw [ix_ints] at hcell
      have hfr := hO.frozen k
      have bx := dx_lt (digs_dig N) k
      rw [Bs_eq] at bx
      have hc1 := hrel.small
      rw [Bs_eq] at hc1
      have hst := hrel.step hks (by rw [Bs_eq]; exact hb)
      have hO1 := hO.set k (((c1 + dx (dig N) k * b) % Bs : Nat) : Int)
      rw [← ints_set] at hO1
      by_cases hkn : k < n
      · obtain ⟨ad, rfl, hlta, hca⟩ := (ha.bl hbw).atN hkn
        have hkj : (k : Int) < (n : Int) := by omega
        generalize dx (dig N) k = x at *
        have hxy0 : (0 : Int) ≤ (x : Int) * (b : Int) := by exact_mod_cast Nat.zero_le (x * b)
        have hxy : (x : Int) * (b : Int) ≤ 999999998000000001 := by
          have : x * b ≤ 999999999 * 999999999 := Nat.mul_le_mul (by omega) (by omega)
          have h2 : ((x * b : Nat) : Int) ≤ 999999998000000001 := by omega
          rwa [Int.natCast_mul] at h2
        have e1 : ((((c1 + x * b) % Bs : Nat) : Int)) = ((c1 : Int) + (x : Int) * (b : Int)) % 1000000000 := by rw [Bs_eq, ← Int.natCast_mul]; omega
        have e2 : ((((c1 + x * b) / Bs : Nat) : Int)) = ((c1 : Int) + (x : Int) * (b : Int)) / 1000000000 := by rw [Bs_eq, ← Int.natCast_mul]; omega
        rw [e1] at hO1
        have e2 := Lib.hid e2; rename_i e2o; clear e2o e1
        go_wp2_with fail
        go_roundw
        case rel => exact ⟨k + 1, _, _, by omega, by go_num, by rw [e2.out], hst, hO1, hbw.set (Nat.le_refl _) _⟩
        case measure => simp [intOf]; omega
      · have hz : dx (dig N) k = 0 := dx_beyond (by rw [ha.lenN]; omega)
        have hkj : ¬ (k : Int) < (n : Int) := by omega
        simp only [hz, Nat.zero_mul, Nat.add_zero] at hst hO1
        clear hz bx
        have e1 : (((c1 % Bs : Nat) : Int)) = (c1 : Int) % 1000000000 := by rw [Bs_eq]; omega
        have e2 : (((c1 / Bs : Nat) : Int)) = (c1 : Int) / 1000000000 := by rw [Bs_eq]; omega
        rw [e1] at hO1
        have e2 := Lib.hid e2; rename_i e2o; clear e2o e1
        go_wp2_with fail
        go_roundw
        case rel => exact ⟨k + 1, _, _, by omega, by go_num, by rw [e2.out], hst, hO1, hbw.set (Nat.le_refl _) _⟩
        case measure => simp [intOf]; omega
    · obtain rfl : k = s := by omega
      have hv := hrel.stop (by rw [ha.lenN]; omega) hlt
      have hv := Lib.hid hv; rename_i hvo; clear hvo
      have hl := Lib.hid hrel.len
      have hdg := hrel.digs
      go_wp2_with fail
      go_ret
      exact ⟨_, o, rfl, Nat.le_refl _, hO, hl.out, hdg, hv.out, hbw⟩



/-- Only block g, and what is new, may have turned. -/
def Og (g : Nat) (w w' : World) : Prop := w.grownBy w' (some g)
section
variable {T : TypeId} {g g2 : Nat} {w W w0 : World} {l : List Int}
theorem Og.refl (g : Nat) (w : World) : Og g w w := World.grownBy.refl w _
theorem Og.set (h : Og g w W) (off : Nat) (u : Value) : Og g w (W.setCell ⟨g, off, none⟩ u) :=
  ⟨h.os, h.tape, h.output, by simpa [World.setCell] using h.size, fun k hk hne => (Below.heap_setCell W _ u k (by intro e; exact hne (by rw [e]))).trans (h.block k hk hne)⟩
theorem Og.drew (h : Og g w W) : Og g w W.drew := ⟨h.os, h.tape, h.output, h.size, h.block⟩
theorem Og.drewN (h : Og g w W) (q : Nat) : Og g w (W.drewN q) := ⟨h.os, h.tape, h.output, h.size, h.block⟩
theorem Ow.og (h : Ow T w g2 l) (hne : g2 ≠ g) (ho : Og g w W) : Ow T W g2 l := (ho.block g2 h.lt (by intro e; injection e with e; exact hne e)).trans h
theorem Bl.og (h : Bl w0 w) (ho : Og g w W) (hg : w0.heap.size ≤ g) : Bl w0 W := h.grown ho (fun k hk => by injection hk with hk; omega)
end

/-- What holds behind k rounds of taking b times v away from the limbs of u from 'off' on. -/
structure SbRel (us v : List Nat) (off b k bw : Nat) (o : List Nat) : Prop where
  len : o.length = us.length
  digs : Digs o
  small : bw < Bs
  diff : vf (fun i => dx o (off + i)) k + b * vf (dx v) k = vf (fun i => dx us (off + i)) k + bw * Bs ^ k
  same : ∀ j, (j < off ∨ off + k ≤ j) → dx o j = dx us j
theorem SbRel.start {us v : List Nat} (off b : Nat) (h : Digs us) : SbRel us v off b 0 0 us := ⟨rfl, h, Bs_pos, by simp [vf], fun _ _ => rfl⟩
theorem SbRel.step {us v o : List Nat} {off b k bw d bw' : Nat} (h : SbRel us v off b k bw o) (hk : off + k < us.length) (hd : d < Bs) (hb : bw' < Bs) (he : d + bw + dx v k * b = dx us (off + k) + bw' * Bs) :
    SbRel us v off b (k + 1) bw' (o.set (off + k) d) := by
  have hi : off + k < o.length := by rw [h.len]; exact hk
  refine ⟨by rw [List.length_set]; exact h.len, digs_set h.digs hd _, hb, ?_, fun j hj => ?_⟩
  · have h1 : vf (fun i => dx (o.set (off + k) d) (off + i)) k = vf (fun i => dx o (off + i)) k := vf_congr fun i hi' => by rw [dx_set hi, if_neg (by omega)]
    have h2 := h.diff
    simp only [vf]
    rw [h1, dx_set hi, if_pos rfl, Nat.pow_succ]
    have h3 : (d + bw + dx v k * b) * Bs ^ k = (dx us (off + k) + bw' * Bs) * Bs ^ k := by rw [he]
    grind
  · rw [dx_set hi, if_neg (by omega)]
    exact h.same j (by omega)
/-- The borrow of one limb. -/
theorem sb_pos {z bw p : Nat} (h : bw + p ≤ z) (hz : z < Bs) : z - bw - p < Bs ∧ (z - bw - p) + bw + p = z + 0 * Bs := by omega
theorem sb_neg {z bw x b : Nat} (hz : z < Bs) (hw : bw < Bs) (hx : x < Bs) (hb : b < Bs) (h : z < bw + x * b) :
    (bw + x * b - z + Bs - 1) / Bs < Bs ∧ z + ((bw + x * b - z + Bs - 1) / Bs) * Bs - (bw + x * b) < Bs ∧
    (z + ((bw + x * b - z + Bs - 1) / Bs) * Bs - (bw + x * b)) + bw + x * b = z + ((bw + x * b - z + Bs - 1) / Bs) * Bs := by
  have hp : x * b ≤ (Bs - 1) * (Bs - 1) := Nat.mul_le_mul (by omega) (by omega)
  generalize x * b = p at *
  have h1 := Nat.mod_add_div (bw + p - z + Bs - 1) Bs
  have h2 := Nat.mod_lt (bw + p - z + Bs - 1) Bs_pos
  have h3 : (bw + p - z + Bs - 1) / Bs < Bs := by
    rw [Nat.div_lt_iff_lt_mul Bs_pos]
    rw [Bs_eq] at *
    omega
  rw [Bs_eq] at *
  omega

theorem sb_cast {z bw x b : Nat} (h : (z : Int) - (bw : Int) - (x : Int) * (b : Int) < 0) : (((bw + x * b - z + Bs - 1) / Bs : Nat) : Int) = (-((z : Int) - (bw : Int) - (x : Int) * (b : Int)) + 1000000000 - 1) / 1000000000 := by
  rw [← Int.natCast_mul] at *
  rw [Bs_eq]
  generalize x * b = p at *
  omega
theorem sb_cast2 {z bw x b q : Nat} (h : bw + x * b ≤ z + q * Bs) : ((z + q * Bs - (bw + x * b) : Nat) : Int) = (z : Int) - (bw : Int) - (x : Int) * (b : Int) + (q : Int) * 1000000000 := by
  rw [← Int.natCast_mul]
  rw [Bs_eq] at *
  generalize x * b = p at *
  omega
theorem sb_cast3 {z bw x b : Nat} (h : ¬ (z : Int) - (bw : Int) - (x : Int) * (b : Int) < 0) : bw + x * b ≤ z ∧ ((z - bw - x * b : Nat) : Int) = (z : Int) - (bw : Int) - (x : Int) * (b : Int) := by
  rw [← Int.natCast_mul] at *
  generalize x * b = p at *
  omega
theorem sb_lt {z bw x b : Nat} (h : (z : Int) - (bw : Int) - (x : Int) * (b : Int) < 0) : z < bw + x * b := by
  rw [← Int.natCast_mul] at h
  generalize x * b = p at *
  omega
theorem SbRel.stop {us v o : List Nat} {off b n bw d r : Nat} (h : SbRel us v off b n bw o) (hv : v.length = n) (hk : off + n < us.length) (he : d + bw = dx us (off + n) + r * Bs) :
    vf (fun i => dx (o.set (off + n) d) (off + i)) (n + 1) + b * val v = vf (fun i => dx us (off + i)) (n + 1) + r * Bs ^ (n + 1) := by
  have hi : off + n < o.length := by rw [h.len]; exact hk
  have h1 : vf (fun i => dx (o.set (off + n) d) (off + i)) n = vf (fun i => dx o (off + i)) n := vf_congr fun i hi' => by rw [dx_set hi, if_neg (by omega)]
  have h2 := h.diff
  rw [val_vf (by omega)] at h2
  simp only [vf]
  rw [h1, dx_set hi, if_pos rfl, Nat.pow_succ]
  have h3 : (d + bw) * Bs ^ n = (dx us (off + n) + r * Bs) * Bs ^ n := by rw [he]
  rw [Nat.add_mul, Nat.add_mul] at h3
  have h4 : r * (Bs ^ n * Bs) = r * Bs * Bs ^ n := by rw [Nat.mul_comm (Bs ^ n) Bs, Nat.mul_assoc]
  omega

def SubPost (T : TypeId) (w : World) (g off n b : Nat) (us v : List Nat) (e : Ending) (w' : World) : Prop :=
  ∃ (r : Nat) (o : List Nat), e = .returned (.int .i64 (r : Int)) ∧ r ≤ 1 ∧ Ow T w' g (ints o) ∧ o.length = us.length ∧ Digs o ∧
      vf (fun i => dx o (off + i)) (n + 1) + b * val v = vf (fun i => dx us (off + i)) (n + 1) + r * Bs ^ (n + 1) ∧ (∀ j, (j < off ∨ off + n < j) → dx o j = dx us j) ∧ Og g w w'

set_option maxRecDepth 100000 in
set_option maxHeartbeats 2000000 in
theorem subtract_any (w : World) {g off c g2 n d b : Nat} {us v : List Nat} (hO : Ow 3 w g (ints us)) (hV : Ow 3 w g2 (ints v)) (hne : g2 ≠ g) (hdu : Digs us) (hdv : Digs v) (hn : v.length = n) (hoff : off + (n + 1) ≤ us.length)
    (hs : us.length ≤ 2097152) (hb : b < 1000000000) :
    Calls Tryz.prog 188 #[.slice (some ⟨g, off, none⟩) (n + 1) c, .slice (some ⟨g2, 0, none⟩) n d, .int .i64 (b : Int)] w (SubPost 3 w g off n b us v) := by
  have hn := Lib.hid hn; rename_i hno
  have hnb : n ≤ 2097152 := by omega
  clear hno
  go_enter Tryz.func188, Tryz.ntmps188
  go_wp2_with fail
  go_loopw [7, 14] (fun cv i wr => ∃ (k bw : Nat) (o : List Nat), k ≤ n ∧ i = .int .i64 (k : Int) ∧ cv = .int .i64 (bw : Int) ∧ SbRel us v off b k bw o ∧ Ow 3 wr g (ints o) ∧ Og g w wr) (fun _ i _ => n - (intOf i).toNat)
  case atStart => exact ⟨0, 0, us, Nat.zero_le _, rfl, rfl, SbRel.start off b hdu, hO, Og.refl _ _⟩
  case round =>
    clear hO
    obtain ⟨k, bw, o, hk, rfl, rfl, hrel, hO, hog⟩ := hrel
    by_cases hkn : k < n
    · have hki : (k : Int) < (n : Int) := by omega
      have hki1 : (k : Int) < (n : Int) + 1 := by omega
      have hcell := hO.cell (k := off + k) (by rw [ints_len, hrel.len]; omega)
      rw [ix_ints, hrel.same _ (.inr (Nat.le_refl _))] at hcell
      have hfr := hO.frozen (off + k)
      have hV1 := (hV.og hne hog).cell (k := k) (by rw [ints_len, hn.out]; exact hkn)
      rw [ix_ints] at hV1
      have bx := dx_lt hdv k
      have bz := dx_lt hdu (off + k)
      have hw := hrel.small
      have hst := fun d' bw' h1 h2 h3 => hrel.step (d := d') (bw' := bw') (by omega) h1 h2 h3
      have hsp := fun h => sb_pos (z := dx us (off + k)) (bw := bw) (p := dx v k * b) h bz
      have hsn := fun h => sb_neg (z := dx us (off + k)) (bw := bw) (x := dx v k) (b := b) bz hw bx (by rw [Bs_eq]; exact hb) h
      rw [Bs_eq] at bx bz hw
      generalize dx v k = x at *
      generalize dx us (off + k) = z at *
      have hxy0 : (0 : Int) ≤ (x : Int) * (b : Int) := by exact_mod_cast Nat.zero_le (x * b)
      have hxyn : ((x * b : Nat) : Int) = (x : Int) * (b : Int) := Int.natCast_mul _ _
      have hxy : (x : Int) * (b : Int) ≤ 999999998000000001 := by
        have : x * b ≤ 999999999 * 999999999 := Nat.mul_le_mul (by omega) (by omega)
        have h2 : ((x * b : Nat) : Int) ≤ 999999998000000001 := by omega
        rwa [Int.natCast_mul] at h2
      have hxyn := Lib.hid hxyn; rename_i hxo; clear hxo
      have hsp := Lib.hid hsp; rename_i hspo; clear hspo
      have hsn := Lib.hid hsn; rename_i hsno; clear hsno
      have hst := Lib.hid hst; rename_i hsto; clear hsto
      by_cases hneg : (z : Int) - (bw : Int) - (x : Int) * (b : Int) < 0
      · have hlt := sb_lt hneg
        obtain ⟨q1, q2, q3⟩ := hsn.out hlt
        have hs1 := hst.out _ _ q2 q1 q3
        have e1 := sb_cast hneg
        have e2 := sb_cast2 (z := z) (bw := bw) (x := x) (b := b) (q := (bw + x * b - z + Bs - 1) / Bs) (by omega)
        rw [e1] at e2
        have hO1 := hO.set (off + k) ((z + ((bw + x * b - z + Bs - 1) / Bs) * Bs - (bw + x * b) : Nat) : Int)
        rw [← ints_set, e2] at hO1
        have e1 := Lib.hid e1; rename_i e1o; clear e1o e2 q1 q2 q3 hlt
        have hs1 := Lib.hid hs1; rename_i hs1o; clear hs1o
        go_wp2_with fail
        go_roundw
        case rel => exact ⟨k + 1, _, _, by omega, by go_num, by rw [e1.out], hs1.out, hO1, hog.set _ _⟩
        case measure => simp [intOf]; omega
      · obtain ⟨hle, e2⟩ := sb_cast3 hneg
        obtain ⟨q1, q2⟩ := hsp.out hle
        have hs1 := hst.out _ 0 q1 Bs_pos q2
        have hO1 := hO.set (off + k) ((z - bw - x * b : Nat) : Int)
        rw [← ints_set, e2] at hO1
        clear e2 hle q1 q2
        go_wp2_with fail
        go_roundw
        case rel => exact ⟨k + 1, 0, _, by omega, by go_num, rfl, hs1, hO1, hog.set _ _⟩
        case measure => simp [intOf]; omega
    · obtain rfl : k = n := by omega
      have hcell := hO.cell (k := off + k) (by rw [ints_len, hrel.len]; omega)
      rw [ix_ints, hrel.same _ (.inr (Nat.le_refl _))] at hcell
      have hfr := hO.frozen (off + k)
      have bz := dx_lt hdu (off + k)
      have hw := hrel.small
      have hki1 : (k : Int) < (k : Int) + 1 := by omega
      have hst := fun d r h => hrel.stop (d := d) (r := r) hn.out (by omega) h
      have hsm := fun d => digs_set hrel.digs (v := d)
      have hfar : ∀ d j, (j < off ∨ off + k < j) → dx (o.set (off + k) d) j = dx us j := fun d j hj => by
        rw [dx_set (by rw [hrel.len]; omega), if_neg (by omega)]
        exact hrel.same j (by omega)
      have hlo := hrel.len
      rw [Bs_eq] at bz hw
      generalize dx us (off + k) = z at *
      have hst := Lib.hid hst; rename_i hsto; clear hsto
      have hsm := Lib.hid hsm; rename_i hsmo; clear hsmo
      have hfar := Lib.hid hfar; rename_i hfaro; clear hfaro
      have hlo := Lib.hid hlo; rename_i hloo; clear hloo
      by_cases hneg : (z : Int) - (bw : Int) < 0
      · have hd : ((z + Bs - bw : Nat) : Int) = (z : Int) - (bw : Int) + 1000000000 := by rw [Bs_eq]; omega
        have hO1 := (hO.set (off + k) ((z : Int) - (bw : Int))).set (off + k) ((z : Int) - (bw : Int) + 1000000000)
        rw [List.set_set, show (ints o).set (off + k) ((z : Int) - (bw : Int) + 1000000000) = ints (o.set (off + k) (z + Bs - bw)) from by rw [ints_set, hd]] at hO1
        have h1 := Lib.hid (hst.out (z + Bs - bw) 1 (by rw [Bs_eq]; omega))
        have h2 := Lib.hid (hsm.out (z + Bs - bw) (by rw [Bs_eq]; omega) (off + k))
        clear hd
        go_wp2_with fail
        go_ret
        exact ⟨1, _, rfl, by omega, hO1, by rw [List.length_set]; exact hlo.out, h2.out, h1.out, hfar.out _, (hog.set _ _).set _ _⟩
      · have hd : ((z - bw : Nat) : Int) = (z : Int) - (bw : Int) := by omega
        have hO1 := hO.set (off + k) ((z : Int) - (bw : Int))
        rw [show (ints o).set (off + k) ((z : Int) - (bw : Int)) = ints (o.set (off + k) (z - bw)) from by rw [ints_set, hd]] at hO1
        have h1 := Lib.hid (hst.out (z - bw) 0 (by omega))
        have h2 := Lib.hid (hsm.out (z - bw) (by rw [Bs_eq]; omega) (off + k))
        clear hd
        go_wp2_with fail
        go_ret
        exact ⟨0, _, rfl, by omega, hO1, by rw [List.length_set]; exact hlo.out, h2.out, h1.out, hfar.out _, hog.set _ _⟩



/-- What holds behind k rounds of adding v back to the limbs of u from 'off' on. -/
structure AbRel (us v : List Nat) (off k c : Nat) (o : List Nat) : Prop where
  len : o.length = us.length
  digs : Digs o
  small : c ≤ 1
  sum : vf (fun i => dx o (off + i)) k + c * Bs ^ k = vf (fun i => dx us (off + i)) k + vf (dx v) k
  same : ∀ j, (j < off ∨ off + k ≤ j) → dx o j = dx us j
theorem AbRel.start {us v : List Nat} (off : Nat) (h : Digs us) : AbRel us v off 0 0 us := ⟨rfl, h, by omega, by simp [vf], fun _ _ => rfl⟩
theorem AbRel.step {us v o : List Nat} {off k c : Nat} (h : AbRel us v off k c o) (hu : Digs us) (hv : Digs v) (hk : off + k < us.length) :
    AbRel us v off (k + 1) ((dx us (off + k) + c + dx v k) / Bs) (o.set (off + k) ((dx us (off + k) + c + dx v k) % Bs)) := by
  have hi : off + k < o.length := by rw [h.len]; exact hk
  refine ⟨by rw [List.length_set]; exact h.len, digs_set h.digs (Nat.mod_lt _ Bs_pos) _, add_bound (dx_lt hu _) (dx_lt hv _) h.small, ?_, fun j hj => ?_⟩
  · have h1 : vf (fun i => dx (o.set (off + k) ((dx us (off + k) + c + dx v k) % Bs)) (off + i)) k = vf (fun i => dx o (off + i)) k := vf_congr fun i hi' => by rw [dx_set hi, if_neg (by omega)]
    have h2 := h.sum
    have h3 := Nat.mod_add_div (dx us (off + k) + c + dx v k) Bs
    simp only [vf]
    rw [h1, dx_set hi, if_pos rfl, Nat.pow_succ]
    generalize (dx us (off + k) + c + dx v k) % Bs = s at *
    generalize (dx us (off + k) + c + dx v k) / Bs = q at *
    have h4 : (s + Bs * q) * Bs ^ k = (dx us (off + k) + c + dx v k) * Bs ^ k := by rw [h3]
    rw [Nat.add_mul, Nat.add_mul, Nat.add_mul] at h4
    have h5 : q * (Bs ^ k * Bs) = Bs * q * Bs ^ k := by rw [Nat.mul_comm (Bs ^ k) Bs, ← Nat.mul_assoc, Nat.mul_comm q Bs]
    omega
  · rw [dx_set hi, if_neg (by omega)]
    exact h.same j (by omega)

set_option maxRecDepth 100000 in
set_option maxHeartbeats 1000000 in
theorem addBack_any (w : World) {g off c g2 n d : Nat} {us v : List Nat} (hO : Ow 3 w g (ints us)) (hV : Ow 3 w g2 (ints v)) (hne : g2 ≠ g) (hdu : Digs us) (hdv : Digs v) (hn : v.length = n) (hoff : off + (n + 1) ≤ us.length)
    (hs : us.length ≤ 2097152) :
    Calls Tryz.prog 189 #[.slice (some ⟨g, off, none⟩) (n + 1) c, .slice (some ⟨g2, 0, none⟩) n d] w fun e w' => e = .returned (.tuple #[]) ∧ ∃ (o : List Nat) (c1 : Nat), Ow 3 w' g (ints o) ∧ o.length = us.length ∧ Digs o ∧
      vf (fun i => dx o (off + i)) (n + 1) + c1 * Bs ^ (n + 1) = vf (fun i => dx us (off + i)) (n + 1) + val v ∧ (∀ j, (j < off ∨ off + n < j) → dx o j = dx us j) ∧ Og g w w' := by
  have hn := Lib.hid hn; rename_i hno
  have hnb : n ≤ 2097152 := by omega
  clear hno
  go_enter Tryz.func189, Tryz.ntmps189
  go_wp2_with fail
  go_loopw [4, 9] (fun cv i wr => ∃ (k c1 : Nat) (o : List Nat), k ≤ n + 1 ∧ i = .int .i64 (k : Int) ∧ cv = .int .i64 (c1 : Int) ∧ AbRel us v off k c1 o ∧ Ow 3 wr g (ints o) ∧ Og g w wr) (fun _ i _ => n + 1 - (intOf i).toNat)
  case atStart => exact ⟨0, 0, us, Nat.zero_le _, rfl, rfl, AbRel.start off hdu, hO, Og.refl _ _⟩
  case round =>
    clear hO
    obtain ⟨k, c1, o, hk, rfl, rfl, hrel, hO, hog⟩ := hrel
    by_cases hkn : k < n + 1
    · have hki : (k : Int) < (n : Int) + 1 := by omega
      have hcell := hO.cell (k := off + k) (by rw [ints_len, hrel.len]; omega)
      rw [ix_ints, hrel.same _ (.inr (Nat.le_refl _))] at hcell
      have hfr := hO.frozen (off + k)
      have bx := dx_lt hdv k
      have bz := dx_lt hdu (off + k)
      rw [Bs_eq] at bx bz
      have hc1 := hrel.small
      have hst := hrel.step hdu hdv (by omega)
      have hO1 := hO.set (off + k) (((dx us (off + k) + c1 + dx v k) % Bs : Nat) : Int)
      rw [← ints_set] at hO1
      by_cases hkm : k < n
      · have hkj : (k : Int) < (n : Int) := by omega
        have hV1 := (hV.og hne hog).cell (k := k) (by rw [ints_len, hn.out]; exact hkm)
        rw [ix_ints] at hV1
        generalize dx v k = x at *
        generalize dx us (off + k) = z at *
        have e1 : ((((z + c1 + x) % Bs : Nat) : Int)) = ((z : Int) + (c1 : Int) + (x : Int)) % 1000000000 := by rw [Bs_eq]; omega
        have e2 : ((((z + c1 + x) / Bs : Nat) : Int)) = ((z : Int) + (c1 : Int) + (x : Int)) / 1000000000 := by rw [Bs_eq]; omega
        rw [e1] at hO1
        have e2 := Lib.hid e2; rename_i e2o; clear e2o e1
        go_wp2_with fail
        go_roundw
        case rel => exact ⟨k + 1, _, _, by omega, by go_num, by rw [e2.out], hst, hO1, hog.set _ _⟩
        case measure => simp [intOf]; omega
      · have hz : dx v k = 0 := dx_beyond (by rw [hn.out]; omega)
        have hkj : ¬ (k : Int) < (n : Int) := by omega
        simp only [hz, Nat.add_zero] at hst hO1
        clear hz bx
        generalize dx us (off + k) = z at *
        have e1 : ((((z + c1) % Bs : Nat) : Int)) = ((z : Int) + (c1 : Int)) % 1000000000 := by rw [Bs_eq]; omega
        have e2 : ((((z + c1) / Bs : Nat) : Int)) = ((z : Int) + (c1 : Int)) / 1000000000 := by rw [Bs_eq]; omega
        rw [e1] at hO1
        have e2 := Lib.hid e2; rename_i e2o; clear e2o e1
        go_wp2_with fail
        go_roundw
        case rel => exact ⟨k + 1, _, _, by omega, by go_num, by rw [e2.out], hst, hO1, hog.set _ _⟩
        case measure => simp [intOf]; omega
    · obtain rfl : k = n + 1 := by omega
      have hsum := hrel.sum
      rw [val_vf (l := v) (by rw [hn.out]; omega)] at hsum
      have hsum := Lib.hid hsum; rename_i hsumo; clear hsumo
      have hl := Lib.hid hrel.len
      have hdg := hrel.digs
      have hfar : Hid (∀ j, (j < off ∨ off + n < j) → dx o j = dx us j) := fun j hj => hrel.same j (by omega)
      clear hrel
      go_wp2_with fail
      go_end0
      exact ⟨rfl, o, c1, hO, hl.out, hdg, hsum.out, hfar.out, hog⟩



end

section

section
variable {f : Nat → Nat} {v : List Nat} {p q rest : Nat}
theorem kq_start (hf : ∀ i, f i < Bs) (hv : v.length = p + 2) (hv1 : 0 < dx v (p + 1)) (hW : vf f (p + 3) < Bs * val v) (hV : 0 < val v) :
    vf f (p + 3) / val v ≤ min (Bs - 1) ((f (p + 2) * Bs + f (p + 1)) / dx v (p + 1)) := by
  have e1 := vf_top2 f p
  have e2 : val v = _ := (val_vf (l := v) (k := p + 2) (by omega)).symm.trans (vf_top1 (dx v) p)
  have hlo := vf_lt (f := f) (k := p) fun i _ => hf i
  have h1 := Nat.div_mul_le_self (vf f (p + 3)) (val v)
  have h2 : vf f (p + 3) / val v < Bs := by rw [Nat.div_lt_iff_lt_mul hV]; exact hW
  generalize vf f (p + 3) / val v = t at *
  rw [e1, e2] at h1
  have h3 := kn_init (hf p) hlo h1
  exact Nat.le_min.2 ⟨by omega, (Nat.le_div_iff_mul_le hv1).2 h3⟩
theorem kq_step (hf : ∀ i, f i < Bs) (hv : v.length = p + 2) (hV : 0 < val v) (hr : rest + q * dx v (p + 1) = f (p + 2) * Bs + f (p + 1)) (h : rest * Bs + f p < q * dx v p) :
    0 < q ∧ vf f (p + 3) / val v ≤ q - 1 ∧ rest + dx v (p + 1) + (q - 1) * dx v (p + 1) = f (p + 2) * Bs + f (p + 1) := by
  have e1 := vf_top2 f p
  have e2 : val v = _ := (val_vf (l := v) (k := p + 2) (by omega)).symm.trans (vf_top1 (dx v) p)
  have hlo := vf_lt (f := f) (k := p) fun i _ => hf i
  have hq : 0 < q := by
    rcases Nat.eq_zero_or_pos q with h0 | h0
    · rw [h0] at h; omega
    · exact h0
  have h1 := kn_step (Vl := vf (dx v) p) hr hlo h
  rw [← e1, ← e2] at h1
  have h2 : vf f (p + 3) / val v < q := by rw [Nat.div_lt_iff_lt_mul hV]; exact h1
  refine ⟨hq, by omega, ?_⟩
  obtain ⟨r, rfl⟩ : ∃ r, q = r + 1 := ⟨q - 1, by omega⟩
  rw [Nat.add_sub_cancel, ← hr, Nat.add_mul]
  omega
theorem kq_exit (hq : q < Bs) (hd : Digs v) (hv : v.length = p + 2) (hv1 : 0 < dx v (p + 1)) (hV : 0 < val v) (hr : rest + q * dx v (p + 1) = f (p + 2) * Bs + f (p + 1)) (h : Bs ≤ rest ∨ q * dx v p ≤ rest * Bs + f p) :
    q ≤ vf f (p + 3) / val v + 1 := by
  have e1 := vf_top2 f p
  have e2 : val v = _ := (val_vf (l := v) (k := p + 2) (by omega)).symm.trans (vf_top1 (dx v) p)
  have hvl := vf_lt (f := dx v) (k := p) fun i _ => dx_lt hd i
  have h1 : q * val v ≤ vf f (p + 3) + val v := by
    rw [e1, e2]
    rcases h with h | h
    · exact kn_exit2 hq hr (dx_lt hd p) hvl h
    · exact kn_exit1 hq hr hv1 hvl h
  rw [← Nat.add_div_right _ hV, Nat.le_div_iff_mul_le hV]
  exact h1
end
/-- The divisor scaled by Bs / (its last limb + 1). -/
theorem kv_by {M p t : Nat} (hM : (dig M).length = p + 1) (ht : t = dx (dig M) p) : 0 < t ∧ 0 < Bs / (t + 1) ∧ Bs / (t + 1) < Bs ∧ (Bs / (t + 1)) * M < Bs ^ (p + 1) := by
  have h0 := canon_last (canon_dig M) (by intro h; rw [h] at hM; simp at hM)
  rw [hM, Nat.add_sub_cancel, ← ht] at h0
  have h1 := dx_lt (digs_dig M) p
  rw [← ht] at h1
  have hle := Nat.div_mul_le_self Bs (t + 1)
  have hpos : 0 < Bs / (t + 1) := Nat.div_pos (by omega) (by omega)
  have hlt : Bs / (t + 1) < Bs := Nat.div_lt_self Bs_pos (by omega)
  refine ⟨by omega, hpos, hlt, ?_⟩
  have hMv : M = vf (dx (dig M)) (p + 1) := by rw [val_vf (by omega), val_dig]
  have hlow := vf_lt (f := dx (dig M)) (k := p) fun i _ => dx_lt (digs_dig M) i
  have hM2 : M < (t + 1) * Bs ^ p := by
    rw [Nat.add_mul, ht]
    simp only [vf] at hMv
    omega
  have h3 : Bs / (t + 1) * M < Bs / (t + 1) * ((t + 1) * Bs ^ p) := Nat.mul_lt_mul_of_pos_left hM2 hpos
  have h4 : Bs / (t + 1) * (t + 1) * Bs ^ p ≤ Bs * Bs ^ p := Nat.mul_le_mul_right _ hle
  rw [Nat.mul_assoc] at h4
  rw [Nat.pow_succ, Nat.mul_comm (Bs ^ p)]
  omega
/-- The last limb of the scaled divisor is not 0. -/
theorem kv_top {b M p : Nat} {v : List Nat} (hv : v.length = p + 1) (hd : Digs v) (hval : val v = b * M) (hb : 0 < b) (hM : (dig M).length = p + 1) : 0 < dx v p := by
  rcases Nat.eq_zero_or_pos (dx v p) with h0 | h0
  · have h1 := canon_lower (canon_dig M) (by intro h; rw [h] at hM; simp at hM)
    rw [hM, Nat.add_sub_cancel, val_dig] at h1
    have h2 : vf (dx v) (p + 1) = val v := val_vf (by omega)
    simp only [vf] at h2
    rw [h0] at h2
    have h3 := vf_lt (f := dx v) (k := p) fun i _ => dx_lt hd i
    have h4 := Nat.mul_le_mul_right M hb
    omega
  · exact h0


end

section


theorem isNaN_any (a : Int) (w : World) :
    Calls Tryz.prog 200 #[.int .i64 a] w fun e w' => e = .returned (.bool false) ∧ ∃ q, w' = w.drewN q := by
  go_enter Tryz.func200, Tryz.ntmps200
  go_wp2
  go_ret
  exact ⟨by simp, 0, rfl⟩

def cmpI (a b : Int) : Int := if a < b then -1 else if b < a then 1 else 0

set_option maxHeartbeats 400000 in
theorem compare_any (a b : Int) (w : World) :
    Calls Tryz.prog 199 #[.int .i64 a, .int .i64 b] w fun e w' => e = .returned (.int .i64 (cmpI a b)) ∧ ∃ q, w' = w.drewN q := by
  unfold cmpI
  go_enter Tryz.func199, Tryz.ntmps199
  go_wp2_with (go_at_call 200; refine (isNaN_any _ _).mono ?_; rintro e w' ⟨rfl, _, rfl⟩)
  all_goals (go_ret; exact ⟨by simp [*], _, rfl⟩)

theorem cmpI_lt {a b : Int} (h : a < b) : cmpI a b = -1 := if_pos h
theorem cmpI_gt {a b : Int} (h : b < a) : cmpI a b = 1 := by unfold cmpI; rw [if_neg (by omega), if_pos h]
theorem cmpI_eq {a b : Int} (h : a = b) : cmpI a b = 0 := by unfold cmpI; rw [if_neg (by omega), if_neg (by omega)]
theorem cmp_len {N M n m : Nat} (hn : (dig N).length = n) (hm : (dig M).length = m) (h : n ≠ m) : cmpI (n : Int) (m : Int) = cmpI (N : Int) (M : Int) := by
  rcases Nat.lt_or_ge n m with hlt | hge
  · have : N < M := by
      rcases Nat.lt_or_ge N M with h1 | h1
      · exact h1
      · have := dig_len_mono h1; omega
    rw [cmpI_lt (by omega), cmpI_lt (by omega)]
  · have : M < N := by
      rcases Nat.lt_or_ge M N with h1 | h1
      · exact h1
      · have := dig_len_mono h1; omega
    rw [cmpI_gt (by omega), cmpI_gt (by omega)]
theorem cmp_dx {f g : Nat → Nat} {k m : Nat} (hf : ∀ i, f i < Bs) (_hg : ∀ i, g i < Bs) (ha : ∀ j, k + 1 ≤ j → f j = g j) (h : f k < g k) : vf f (k + 1 + m) < vf g (k + 1 + m) := by
  rw [vf_split f (k + 1) m, vf_split g (k + 1) m, show vf (fun i => f (k + 1 + i)) m = vf (fun i => g (k + 1 + i)) m from vf_congr fun i _ => ha _ (by omega)]
  have h1 := vf_lt (f := f) (k := k) fun i _ => hf i
  have h2 : (f k + 1) * Bs ^ k ≤ g k * Bs ^ k := Nat.mul_le_mul_right _ h
  rw [Nat.add_mul] at h2
  simp only [vf]
  omega
theorem cmp_digit {N M n k : Nat} (hn : (dig N).length = n) (hm : (dig M).length = n) (hk : k < n) (ha : ∀ j, k + 1 ≤ j → dx (dig N) j = dx (dig M) j) (h : dx (dig N) k ≠ dx (dig M) k) : cmpI (dx (dig N) k : Int) (dx (dig M) k : Int) = cmpI (N : Int) (M : Int) := by
  obtain ⟨m, rfl⟩ : ∃ m, n = k + 1 + m := ⟨n - (k + 1), by omega⟩
  have e1 : vf (dx (dig N)) (k + 1 + m) = N := by rw [val_vf (by omega), val_dig]
  have e2 : vf (dx (dig M)) (k + 1 + m) = M := by rw [val_vf (by omega), val_dig]
  rcases Nat.lt_or_ge (dx (dig N) k) (dx (dig M) k) with hlt | hge
  · have := cmp_dx (m := m) (dx_lt (digs_dig N)) (dx_lt (digs_dig M)) ha hlt
    rw [cmpI_lt (by omega), cmpI_lt (by omega)]
  · have := cmp_dx (m := m) (dx_lt (digs_dig M)) (dx_lt (digs_dig N)) (fun j hj => (ha j hj).symm) (show dx (dig M) k < dx (dig N) k by omega)
    rw [cmpI_gt (by omega), cmpI_gt (by omega)]
theorem cmp_same {N M n : Nat} (hn : (dig N).length = n) (hm : (dig M).length = n) (ha : ∀ j, 0 ≤ j → dx (dig N) j = dx (dig M) j) : 0 = cmpI (N : Int) (M : Int) := by
  have e1 : vf (dx (dig N)) n = N := by rw [val_vf (by omega), val_dig]
  have e2 : vf (dx (dig M)) n = M := by rw [val_vf (by omega), val_dig]
  have : vf (dx (dig N)) n = vf (dx (dig M)) n := vf_congr fun i _ => ha i (Nat.zero_le _)
  exact (cmpI_eq (by omega)).symm

set_option maxHeartbeats 1000000 in
theorem natCmp_any (w : World) {A B : Option Addr} {n m c d N M : Nat} (ha : IsN w A n c N) (hb : IsN w B m d M) (hn : n ≤ 2097152) (hm : m ≤ 2097152) :
    Calls Tryz.prog 182 #[.slice A n c, .slice B m d] w fun e w' => e = .returned (.int .i64 (cmpI N M)) ∧ ∃ q, w' = w.drewN q := by
  have hnl := Lib.hid ha.lenN
  have hml := Lib.hid hb.lenN
  by_cases hnm : n = m
  · subst hnm
    go_enter Tryz.func182, Tryz.ntmps182
    go_wp2
    go_loopw [5] (fun i wr => ∃ k : Nat, k ≤ n ∧ i = .int .i64 ((k : Int) - 1) ∧ Hid (∀ j, k ≤ j → dx (dig N) j = dx (dig M) j) ∧ ∃ q, wr = w.drewN q) (fun i _ => (intOf i + 1).toNat)
    case atStart => exact ⟨n, Nat.le_refl _, rfl, fun j hj => by rw [dx_beyond (by rw [hnl.out]; exact hj), dx_beyond (by rw [hml.out]; exact hj)], 0, rfl⟩
    case round =>
      obtain ⟨k, hk, rfl, heq, q, rfl⟩ := hrel
      rcases k with _ | k
      · go_wp2
        go_ret
        exact ⟨ret_int (cmp_same hnl.out hml.out heq.out), q, rfl⟩
      · have hkn : k < n := hk
        obtain ⟨ad, rfl, hlta, hca⟩ := ha.atN (k := k) (by omega)
        obtain ⟨bd, rfl, hltb, hcb⟩ := hb.atN (k := k) (by omega)
        rw [show (((k + 1 : Nat) : Int) - 1) = (k : Int) from by omega]
        by_cases he : dx (dig N) k = dx (dig M) k
        · have hs : Hid (∀ j, k ≤ j → dx (dig N) j = dx (dig M) j) := fun j hj => by
            rcases Nat.eq_or_lt_of_le hj with rfl | hlt
            · exact he
            · exact heq.out j hlt
          clear heq
          have hbeq : ((dx (dig N) k : Int) != (dx (dig M) k : Int)) = false := by simp [he]
          clear he
          go_wp2
          go_quiet (fail)
          go_wp2
          go_roundw
          case rel => exact ⟨k, by omega, rfl, hs, _, rfl⟩
          case measure => simp [intOf]
        · have hs := Lib.hid (cmp_digit hnl.out hml.out hkn heq.out he); clear heq
          have hbeq : ((dx (dig N) k : Int) != (dx (dig M) k : Int)) = true := by simp; omega
          clear he
          go_wp2
          go_quiet (fail)
          go_wp2
          go_quiet ((go_at_call 199; exact quiet_add (compare_any _ _ _)))
          go_wp2
          go_ret
          exact ⟨ret_int hs.out, q_drewN (q_drewN ⟨_, rfl⟩)⟩
  · have heq := Lib.hid (cmp_len hnl.out hml.out hnm)
    have hne : ((n : Int) != (m : Int)) = true := by simp; omega
    go_enter Tryz.func182, Tryz.ntmps182
    go_wp2_with (go_at_call 199; refine (compare_any _ _ _).mono ?_; rintro e w' ⟨rfl, _, rfl⟩)
    go_ret
    exact ⟨ret_int heq.out, _, rfl⟩


end

section


def DivPost (T : TypeId) (w : World) (N M : Nat) (e : Ending) (w' : World) : Prop :=
  ∃ A1 n1 c1 A2 n2 c2, e = .returned (.tuple #[.slice A1 n1 c1, .slice A2 n2 c2]) ∧ OwI T w.heap.size w' A1 n1 c1 (ints (dig (N / M))) ∧ OwI T w.heap.size w' A2 n2 c2 (ints (dig (N % M))) ∧ Bl w w'

theorem OwI.mono0 {T : TypeId} {w : World} {b0 b1 : Nat} {A : Option Addr} {n c : Nat} {l : List Int} (h : OwI T b1 w A n c l) (hb : b0 ≤ b1) : OwI T b0 w A n c l :=
  ⟨h.1, h.2.imp id fun ⟨g, cs, e, hg, r⟩ => ⟨g, cs, e, by omega, r⟩⟩

theorem dig_one {M : Nat} (h : (dig M).length = 1) : dx (dig M) 0 = M ∧ M < 1000000000 ∧ 0 < M := by
  have h1 : vf (dx (dig M)) 1 = M := by rw [val_vf (by omega), val_dig]
  simp only [vf, Nat.pow_zero, Nat.mul_one, Nat.zero_add] at h1
  have h2 := dx_lt (digs_dig M) 0
  have h3 := dig_len_pos (n := M)
  rw [Bs_eq] at h2
  omega

set_option maxRecDepth 100000 in
set_option maxHeartbeats 2000000 in
theorem natDiv_less (w : World) {A B : Option Addr} {n m c d N M : Nat} (ha : IsN w A n c N) (hb : IsN w B m d M) (hn : n ≤ 1048576) (hm : m ≤ 1048576) (hlt : N < M) :
    Calls Tryz.prog 155 #[.slice A n c, .slice B m d] w (DivPost 3 w N M) := by
  have hq : Hid (N / M = 0 ∧ N % M = N) := ⟨Nat.div_eq_of_lt hlt, Nat.mod_eq_of_lt hlt⟩
  have hc : cmpI N M = -1 := cmpI_lt (by omega)
  clear hlt
  go_enter Tryz.func155, Tryz.ntmps155
  go_wp2_with fail
  refine (natCmp_any _ ha hb (by omega) (by omega)).mono ?_
  rw [hc]
  rintro e w1 ⟨rfl, q, rfl⟩
  go_wp2_with fail
  refine (Clone_any _ ((ha.drewN q).alloc _) hn).mono ?_
  rintro e w2 ⟨A', n', c', rfl, hO, hb2⟩
  have hO2 : OwI 3 w.heap.size w2 A' n' c' (ints (dig N)) := hO.mono0 (by simp)
  have hb2 : Bl w w2 := Bl.next (((Bl.refl w).drewN q).alloc _) hb2
  go_wp2_with fail
  go_ret2
  exact ⟨_, 0, 0, _, _, _, rfl, by rw [hq.out.1, dig_zero]; exact OwI.nil _ _ _ _, by rw [hq.out.2]; exact hO2, hb2⟩

set_option maxRecDepth 100000 in
set_option maxHeartbeats 2000000 in
theorem natDiv_one (w : World) {A B : Option Addr} {n c d N M : Nat} (ha : IsN w A n c N) (hb : IsN w B 1 d M) (hn : n ≤ 1048576) (hle : M ≤ N) :
    Calls Tryz.prog 155 #[.slice A n c, .slice B 1 d] w (DivPost 3 w N M) := by
  obtain ⟨h0, hM, hM0⟩ := dig_one hb.lenN
  have hc : 0 ≤ cmpI N M := by unfold cmpI; split <;> (try split) <;> omega
  clear hle
  generalize hcc : cmpI N M = cc at hc
  obtain ⟨bd, rfl, hltb, hcb⟩ := hb.atN (k := 0) (by omega)
  rw [h0] at hcb
  have hcb : w.cell? bd = some (.int .i64 (M : Int)) := by rw [← hcb, Addr.add_zero']
  clear h0
  go_enter Tryz.func155, Tryz.ntmps155
  go_wp2_with fail
  refine (natCmp_any _ ha hb (by omega) (by omega)).mono ?_
  rw [hcc]
  rintro e w1 ⟨rfl, q, rfl⟩
  clear hcc
  go_wp2_with fail
  refine (divSmall_any _ (ha.drewN q) hn hM0 hM).mono ?_
  rintro e w2 ⟨A', n', c', rfl, hO, hb2⟩
  have hO2 : OwI 3 w.heap.size w2 A' n' c' (ints (dig (N / M))) := hO.mono0 (by simp)
  have hb2 : Bl w w2 := Bl.next ((Bl.refl w).drewN q) hb2
  have hr0 := Nat.mod_lt N hM0
  generalize hrr : N % M = r at *
  go_wp2_with fail
  refine (natOf_any _ r (by omega)).mono ?_
  rintro e w3 ⟨A2, n2, c2, rfl, hO3, hb3⟩
  go_wp2_with fail
  go_ret2
  exact ⟨_, _, _, _, _, _, rfl, hO2.bl hb3, by rw [hrr]; exact hO3.mono0 hb2.size, hb2.next hb3⟩


end

end Go.Proofs.YtggjdgjkdmgjnaaGreat
