/- The quotient's digit, plainly; no program in sight. -/
import Derived.Test.YthgielbhcjpikaaGreatKn
namespace Go.Proofs.YthgielbhcjpikaaGreat

section
variable {f : Nat → Nat} {v : List Nat} {p q rest : Nat}
theorem kq_start (hf : ∀ i, f i < Bs) (hv : v.length = p + 2) (hv1 : 0 < dx v (p + 1)) (hW : vf f (p + 3) < Bs * val v) (hV : 0 < val v) :
    vf f (p + 3) / val v ≤ min (Bs - 1) ((f (p + 2) * Bs + f (p + 1)) / dx v (p + 1)) := by
  have e1 := vf_top2 f p
  have e2 : val v = _ := (val_vf (l := v) (k := p + 2) (by omega)).symm.trans (vf_top1 (dx v) p)
  have hlo := vf_lt (f := f) (k := p) fun i _ => hf i
  have h1 := Nat.div_mul_le_self (vf f (p + 3)) (val v)
  have h2 : vf f (p + 3) / val v < Bs := by rw [Nat.div_lt_iff_lt_mul hV]; exact hW
  generalize vf f (p + 3) / val v = t at *
  rw [e1, e2] at h1
  have h3 := kn_init (hf p) hlo h1
  exact Nat.le_min.2 ⟨by omega, (Nat.le_div_iff_mul_le hv1).2 h3⟩
theorem kq_step (hf : ∀ i, f i < Bs) (hv : v.length = p + 2) (hV : 0 < val v) (hr : rest + q * dx v (p + 1) = f (p + 2) * Bs + f (p + 1)) (h : rest * Bs + f p < q * dx v p) :
    0 < q ∧ vf f (p + 3) / val v ≤ q - 1 ∧ rest + dx v (p + 1) + (q - 1) * dx v (p + 1) = f (p + 2) * Bs + f (p + 1) := by
  have e1 := vf_top2 f p
  have e2 : val v = _ := (val_vf (l := v) (k := p + 2) (by omega)).symm.trans (vf_top1 (dx v) p)
  have hlo := vf_lt (f := f) (k := p) fun i _ => hf i
  have hq : 0 < q := by
    rcases Nat.eq_zero_or_pos q with h0 | h0
    · rw [h0] at h; omega
    · exact h0
  have h1 := kn_step (Vl := vf (dx v) p) hr hlo h
  rw [← e1, ← e2] at h1
  have h2 : vf f (p + 3) / val v < q := by rw [Nat.div_lt_iff_lt_mul hV]; exact h1
  refine ⟨hq, by omega, ?_⟩
  obtain ⟨r, rfl⟩ : ∃ r, q = r + 1 := ⟨q - 1, by omega⟩
  rw [Nat.add_sub_cancel, ← hr, Nat.add_mul]
  omega
theorem kq_exit (hq : q < Bs) (hd : Digs v) (hv : v.length = p + 2) (hv1 : 0 < dx v (p + 1)) (hV : 0 < val v) (hr : rest + q * dx v (p + 1) = f (p + 2) * Bs + f (p + 1)) (h : Bs ≤ rest ∨ q * dx v p ≤ rest * Bs + f p) :
    q ≤ vf f (p + 3) / val v + 1 := by
  have e1 := vf_top2 f p
  have e2 : val v = _ := (val_vf (l := v) (k := p + 2) (by omega)).symm.trans (vf_top1 (dx v) p)
  have hvl := vf_lt (f := dx v) (k := p) fun i _ => dx_lt hd i
  have h1 : q * val v ≤ vf f (p + 3) + val v := by
    rw [e1, e2]
    rcases h with h | h
    · exact kn_exit2 hq hr (dx_lt hd p) hvl h
    · exact kn_exit1 hq hr hv1 hvl h
  rw [← Nat.add_div_right _ hV, Nat.le_div_iff_mul_le hV]
  exact h1
end
/-- The divisor scaled by Bs / (its last limb + 1). -/
theorem kv_by {M p t : Nat} (hM : (dig M).length = p + 1) (ht : t = dx (dig M) p) : 0 < t ∧ 0 < Bs / (t + 1) ∧ Bs / (t + 1) < Bs ∧ (Bs / (t + 1)) * M < Bs ^ (p + 1) := by
  have h0 := canon_last (canon_dig M) (by intro h; rw [h] at hM; simp at hM)
  rw [hM, Nat.add_sub_cancel, ← ht] at h0
  have h1 := dx_lt (digs_dig M) p
  rw [← ht] at h1
  have hle := Nat.div_mul_le_self Bs (t + 1)
  have hpos : 0 < Bs / (t + 1) := Nat.div_pos (by omega) (by omega)
  have hlt : Bs / (t + 1) < Bs := Nat.div_lt_self Bs_pos (by omega)
  refine ⟨by omega, hpos, hlt, ?_⟩
  have hMv : M = vf (dx (dig M)) (p + 1) := by rw [val_vf (by omega), val_dig]
  have hlow := vf_lt (f := dx (dig M)) (k := p) fun i _ => dx_lt (digs_dig M) i
  have hM2 : M < (t + 1) * Bs ^ p := by
    rw [Nat.add_mul, ht]
    simp only [vf] at hMv
    omega
  have h3 : Bs / (t + 1) * M < Bs / (t + 1) * ((t + 1) * Bs ^ p) := Nat.mul_lt_mul_of_pos_left hM2 hpos
  have h4 : Bs / (t + 1) * (t + 1) * Bs ^ p ≤ Bs * Bs ^ p := Nat.mul_le_mul_right _ hle
  rw [Nat.mul_assoc] at h4
  rw [Nat.pow_succ, Nat.mul_comm (Bs ^ p)]
  omega
/-- The last limb of the scaled divisor is not 0. -/
theorem kv_top {b M p : Nat} {v : List Nat} (hv : v.length = p + 1) (hd : Digs v) (hval : val v = b * M) (hb : 0 < b) (hM : (dig M).length = p + 1) : 0 < dx v p := by
  rcases Nat.eq_zero_or_pos (dx v p) with h0 | h0
  · have h1 := canon_lower (canon_dig M) (by intro h; rw [h] at hM; simp at hM)
    rw [hM, Nat.add_sub_cancel, val_dig] at h1
    have h2 : vf (dx v) (p + 1) = val v := val_vf (by omega)
    simp only [vf] at h2
    rw [h0] at h2
    have h3 := vf_lt (f := dx v) (k := p) fun i _ => dx_lt hd i
    have h4 := Nat.mul_le_mul_right M hb
    omega
  · exact h0

end Go.Proofs.YthgielbhcjpikaaGreat
