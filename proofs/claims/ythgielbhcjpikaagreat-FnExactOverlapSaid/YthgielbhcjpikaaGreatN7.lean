import Derived.Test.YthgielbhcjpikaaGreatRows
import Derived.Test.YthgielbhcjpikaaGreatN6
namespace Go.Proofs.YthgielbhcjpikaaGreat
open Go.RowKit

/-- What holds of a division by a limb when the limbs from k up are done. -/
structure DivRel (N d n k r : Nat) (o : List Nat) : Prop where
  len : o.length = n
  digs : Digs o
  small : r < d
  sum : val o * d + r * Bs ^ k + vf (dx (dig N)) k = N
  rest : ∀ j, j < k → dx o j = 0
theorem DivRel.start {N d n : Nat} (h : (dig N).length = n) (hd : 0 < d) : DivRel N d n n 0 (List.replicate n 0) :=
  ⟨by simp, digs_replicate _, hd, by rw [val_replicate, val_vf (by omega), val_dig]; omega, fun j _ => dx_replicate _ _⟩
theorem div_limb {r d a : Nat} (hr : r < d) (ha : a < Bs) : (r * Bs + a) / d < Bs := by
  rw [Nat.div_lt_iff_lt_mul (by omega)]
  have := Nat.mul_le_mul_right Bs (show r + 1 ≤ d by omega)
  rw [Nat.add_mul] at this
  rw [Nat.mul_comm Bs d]
  omega
theorem DivRel.step {N d n k r : Nat} {o : List Nat} (h : DivRel N d n (k + 1) r o) (hk : k < n) :
    DivRel N d n k ((r * Bs + dx (dig N) k) % d) (o.set k ((r * Bs + dx (dig N) k) / d)) := by
  have hi : k < o.length := by rw [h.len]; exact hk
  have hd0 : 0 < d := by have := h.small; omega
  refine ⟨by rw [List.length_set]; exact h.len, digs_set h.digs (div_limb h.small (dx_lt (digs_dig N) k)) _, Nat.mod_lt _ hd0, ?_, fun j hj => ?_⟩
  · have h1 := val_set hi ((r * Bs + dx (dig N) k) / d)
    rw [h.rest k (by omega)] at h1
    have h2 := h.sum
    have h3 := Nat.mod_add_div (r * Bs + dx (dig N) k) d
    simp only [vf] at h2
    rw [Nat.pow_succ] at h2
    generalize (r * Bs + dx (dig N) k) % d = s at *
    generalize (r * Bs + dx (dig N) k) / d = q at *
    have h4 : (s + d * q) * Bs ^ k = (r * Bs + dx (dig N) k) * Bs ^ k := by rw [h3]
    grind
  · rw [dx_set hi, if_neg (by omega)]
    exact h.rest j (by omega)
theorem DivRel.stop {N d n r : Nat} {o : List Nat} (h : DivRel N d n 0 r o) : val o = N / d ∧ r = N % d := by
  have h1 := h.sum
  have h2 := h.small
  simp only [vf, Nat.pow_zero, Nat.mul_one, Nat.add_zero] at h1
  have h3 : N / d = val o := by
    rw [← h1, Nat.mul_comm, Nat.mul_add_div (by omega), Nat.div_eq_of_lt h2]; omega
  have h4 : N % d = r := by
    rw [← h1, Nat.mul_comm, Nat.mul_add_mod, Nat.mod_eq_of_lt h2]
  exact ⟨h3.symm, h4.symm⟩

set_option maxHeartbeats 1000000 in
theorem divSmall_any (w : World) {A : Option Addr} {n c N d : Nat} (ha : IsN w A n c N) (hn : n ≤ 1048576) (hd0 : 0 < d) (hdB : d < 1000000000) :
    Calls Tryz.prog 197 #[.slice A n c, .int .i64 (d : Int)] w fun e w' => ∃ A' n' c', e = .returned (.tuple #[.slice A' n' c', .int .i64 ((N % d : Nat) : Int)]) ∧ OwI 3 w.heap.size w' A' n' c' (ints (dig (N / d))) ∧ Bl w w' := by
  have hmk := make_ints (P := Tryz.prog) Tryz.underlying28 info_int n n (Nat.le_refl _) (by omega)
  go_enter Tryz.func197, Tryz.ntmps197
  go_wp2_with fail
  clear hmk
  go_loopw [7, 8] (fun rv i wr => ∃ (k r : Nat) (o : List Nat), k ≤ n ∧ i = .int .i64 ((k : Int) - 1) ∧ rv = .int .i64 (r : Int) ∧ DivRel N d n k r o ∧ Ow 3 wr w.heap.size (ints o) ∧ Bl w wr) (fun _ i _ => (intOf i + 1).toNat)
  case atStart => exact ⟨n, 0, List.replicate n 0, Nat.le_refl _, rfl, rfl, DivRel.start ha.lenN hd0, by rw [ints_replicate]; exact Ow.mk w n, (Bl.refl w).alloc _⟩
  case round =>
    obtain ⟨k, r, o, hk, rfl, rfl, hrel, hO, hbw⟩ := hrel
    rcases k with _ | k
    · have hv := Lib.hid hrel.stop
      have hlen := hrel.len
      have hdg := hrel.digs
      clear hrel
      go_wp2_with fail
      refine (trimmed_any _ (l := o) (RdI.of_ow hO (by rw [ints_len]; exact hlen) (by omega)) hdg).mono ?_
      rintro e w1 ⟨m', rfl, hm', ht, hq⟩
      rw [hv.out.1] at ht
      have hO1 := (OwI.of_ow (c := n) hO (Nat.le_refl _) (by rw [ints_len]; exact hlen) (by omega) hm' ht).q hq
      have hbw1 := hbw.next (q_bl hq)
      go_wp2_with fail
      go_ret2
      exact ⟨_, _, _, by rw [← hv.out.2]; rfl, hO1, hbw1⟩
    · obtain ⟨ad, rfl, hlta, hca⟩ := (ha.bl hbw).atN (k := k) (by omega)
      have hki : (k : Int) < (n : Int) := by omega
      have hkn : k < n := by omega
      rw [show (((k + 1 : Nat) : Int) - 1) = (k : Int) from by omega]
      have hcell := hO.cell (k := k) (by rw [ints_len, hrel.len]; omega)
      rw [ix_ints] at hcell
      have hfr := hO.frozen k
      have bx := dx_lt (digs_dig N) k
      have hq := div_limb hrel.small bx
      rw [Bs_eq] at bx
      have hr := hrel.small
      have hst := hrel.step hkn
      have hO1 := hO.set k (((r * Bs + dx (dig N) k) / d : Nat) : Int)
      rw [← ints_set] at hO1
      generalize dx (dig N) k = x at *
      have e1 : ((((r * Bs + x) / d : Nat) : Int)) = ((r : Int) * 1000000000 + (x : Int)) / (d : Int) := by rw [Bs_eq]; simp
      have e2 : ((((r * Bs + x) % d : Nat) : Int)) = ((r : Int) * 1000000000 + (x : Int)) % (d : Int) := by rw [Bs_eq]; simp
      rw [e1] at hO1
      have e2 := Lib.hid e2; rename_i e2o; clear e2o e1 hq
      go_wp2_with fail
      go_roundw
      case rel => exact ⟨k, _, _, by omega, rfl, by rw [e2.out], hst, hO1, hbw.set (Nat.le_refl _) _⟩
      case measure => simp [intOf]

end Go.Proofs.YthgielbhcjpikaaGreat
