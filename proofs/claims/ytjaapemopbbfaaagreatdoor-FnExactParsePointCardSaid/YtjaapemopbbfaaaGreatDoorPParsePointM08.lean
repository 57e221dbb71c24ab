/- Lemmas. -/
import Derived.Test.YtjaapemopbbfaaaGreatDoorPParsePointM05
import Derived.Test.YtjaapemopbbfaaaGreatDoorRows
import Derived.Test.YtjaapemopbbfaaaGreatDoorPParsePointM06
import Derived.Test.YtjaapemopbbfaaaGreatDoorPParsePointM07
namespace Go.Proofs.YtjaapemopbbfaaaGreatDoor
section
section
variable {f : Nat → Nat} {v : List Nat} {p q rest : Nat}
theorem kq_start (hf : ∀ i, f i < Bs) (hv : v.length = p + 2) (hv1 : 0 < dx v (p + 1)) (hW : vf f (p + 3) < Bs * val v) (hV : 0 < val v) :
    vf f (p + 3) / val v ≤ min (Bs - 1) ((f (p + 2) * Bs + f (p + 1)) / dx v (p + 1)) := by
  have e1 := vf_top2 f p
  have e2 : val v = _ := (val_vf (l := v) (k := p + 2) (by omega)).symm.trans (vf_top1 (dx v) p)
  have hlo := vf_lt (f := f) (k := p) fun i _ => hf i
  have h1 := Nat.div_mul_le_self (vf f (p + 3)) (val v)
  have h2 : vf f (p + 3) / val v < Bs := by rw [Nat.div_lt_iff_lt_mul hV]; exact hW
  generalize vf f (p + 3) / val v = t at *
  rw [e1, e2] at h1
  have h3 := kn_init (hf p) hlo h1
  exact Nat.le_min.2 ⟨by omega, (Nat.le_div_iff_mul_le hv1).2 h3⟩
theorem kq_step (hf : ∀ i, f i < Bs) (hv : v.length = p + 2) (hV : 0 < val v) (hr : rest + q * dx v (p + 1) = f (p + 2) * Bs + f (p + 1)) (h : rest * Bs + f p < q * dx v p) :
    0 < q ∧ vf f (p + 3) / val v ≤ q - 1 ∧ rest + dx v (p + 1) + (q - 1) * dx v (p + 1) = f (p + 2) * Bs + f (p + 1) := by
  have e1 := vf_top2 f p
  have e2 : val v = _ := (val_vf (l := v) (k := p + 2) (by omega)).symm.trans (vf_top1 (dx v) p)
  have hlo := vf_lt (f := f) (k := p) fun i _ => hf i
  have hq : 0 < q := by
    rcases Nat.eq_zero_or_pos q with h0 | h0
    · rw [h0] at h; omega
    · exact h0
  have h1 := kn_step (Vl := vf (dx v) p) hr hlo h
  rw [← e1, ← e2] at h1
  have h2 : vf f (p + 3) / val v < q := by rw [Nat.div_lt_iff_lt_mul hV]; exact h1
  refine ⟨hq, by omega, ?_⟩
  obtain ⟨r, rfl⟩ : ∃ r, q = r + 1 := ⟨q - 1, by omega⟩
  rw [Nat.add_sub_cancel, ← hr, Nat.add_mul]
  omega
theorem kq_exit (hq : q < Bs) (hd : Digs v) (hv : v.length = p + 2) (hv1 : 0 < dx v (p + 1)) (hV : 0 < val v) (hr : rest + q * dx v (p + 1) = f (p + 2) * Bs + f (p + 1)) (h : Bs ≤ rest ∨ q * dx v p ≤ rest * Bs + f p) :
    q ≤ vf f (p + 3) / val v + 1 := by
  have e1 := vf_top2 f p
  have e2 : val v = _ := (val_vf (l := v) (k := p + 2) (by omega)).symm.trans (vf_top1 (dx v) p)
  have hvl := vf_lt (f := dx v) (k := p) fun i _ => dx_lt hd i
  have h1 : q * val v ≤ vf f (p + 3) + val v := by
    rw [e1, e2]
    rcases h with h | h
    · exact kn_exit2 hq hr (dx_lt hd p) hvl h
    · exact kn_exit1 hq hr hv1 hvl h
  rw [← Nat.add_div_right _ hV, Nat.le_div_iff_mul_le hV]
  exact h1
end
/-- The divisor scaled by Bs / (its last limb + 1). -/
theorem kv_by {M p t : Nat} (hM : (dig M).length = p + 1) (ht : t = dx (dig M) p) : 0 < t ∧ 0 < Bs / (t + 1) ∧ Bs / (t + 1) < Bs ∧ (Bs / (t + 1)) * M < Bs ^ (p + 1) := by
  have h0 := canon_last (canon_dig M) (by intro h; rw [h] at hM; simp at hM)
  rw [hM, Nat.add_sub_cancel, ← ht] at h0
  have h1 := dx_lt (digs_dig M) p
  rw [← ht] at h1
  have hle := Nat.div_mul_le_self Bs (t + 1)
  have hpos : 0 < Bs / (t + 1) := Nat.div_pos (by omega) (by omega)
  have hlt : Bs / (t + 1) < Bs := Nat.div_lt_self Bs_pos (by omega)
  refine ⟨by omega, hpos, hlt, ?_⟩
  have hMv : M = vf (dx (dig M)) (p + 1) := by rw [val_vf (by omega), val_dig]
  have hlow := vf_lt (f := dx (dig M)) (k := p) fun i _ => dx_lt (digs_dig M) i
  have hM2 : M < (t + 1) * Bs ^ p := by
    rw [Nat.add_mul, ht]
    simp only [vf] at hMv
    omega
  have h3 : Bs / (t + 1) * M < Bs / (t + 1) * ((t + 1) * Bs ^ p) := Nat.mul_lt_mul_of_pos_left hM2 hpos
  have h4 : Bs / (t + 1) * (t + 1) * Bs ^ p ≤ Bs * Bs ^ p := Nat.mul_le_mul_right _ hle
  rw [Nat.mul_assoc] at h4
  rw [Nat.pow_succ, Nat.mul_comm (Bs ^ p)]
  omega
/-- The last limb of the scaled divisor is not 0. -/
theorem kv_top {b M p : Nat} {v : List Nat} (hv : v.length = p + 1) (hd : Digs v) (hval : val v = b * M) (hb : 0 < b) (hM : (dig M).length = p + 1) : 0 < dx v p := by
  rcases Nat.eq_zero_or_pos (dx v p) with h0 | h0
  · have h1 := canon_lower (canon_dig M) (by intro h; rw [h] at hM; simp at hM)
    rw [hM, Nat.add_sub_cancel, val_dig] at h1
    have h2 : vf (dx v) (p + 1) = val v := val_vf (by omega)
    simp only [vf] at h2
    rw [h0] at h2
    have h3 := vf_lt (f := dx v) (k := p) fun i _ => dx_lt hd i
    have h4 := Nat.mul_le_mul_right M hb
    omega
  · exact h0
end

section
open Go.RowKit

def DivPost (T : TypeId) (w : World) (N M : Nat) (e : Ending) (w' : World) : Prop :=
  ∃ A1 n1 c1 A2 n2 c2, e = .returned (.tuple #[.slice A1 n1 c1, .slice A2 n2 c2]) ∧ OwI T w.heap.size w' A1 n1 c1 (ints (dig (N / M))) ∧ OwI T w.heap.size w' A2 n2 c2 (ints (dig (N % M))) ∧ Bl w w'

theorem OwI.mono0 {T : TypeId} {w : World} {b0 b1 : Nat} {A : Option Addr} {n c : Nat} {l : List Int} (h : OwI T b1 w A n c l) (hb : b0 ≤ b1) : OwI T b0 w A n c l :=
  ⟨h.1, h.2.imp id fun ⟨g, cs, e, hg, r⟩ => ⟨g, cs, e, by omega, r⟩⟩

theorem dig_one {M : Nat} (h : (dig M).length = 1) : dx (dig M) 0 = M ∧ M < 1000000000 ∧ 0 < M := by
  have h1 : vf (dx (dig M)) 1 = M := by rw [val_vf (by omega), val_dig]
  simp only [vf, Nat.pow_zero, Nat.mul_one, Nat.zero_add] at h1
  have h2 := dx_lt (digs_dig M) 0
  have h3 := dig_len_pos (n := M)
  rw [Bs_eq] at h2
  omega

set_option maxRecDepth 100000 in
set_option maxHeartbeats 8000000 in
theorem natDiv_less (w : World) {A B : Option Addr} {n m c d N M : Nat} (ha : IsN w A n c N) (hb : IsN w B m d M) (hn : n ≤ 1048576) (hm : m ≤ 1048576) (hlt : N < M) :
    Calls Tryz.prog 153 #[.slice A n c, .slice B m d] w (DivPost 3 w N M) := by
  have hq : Hid (N / M = 0 ∧ N % M = N) := ⟨Nat.div_eq_of_lt hlt, Nat.mod_eq_of_lt hlt⟩
  have hc : cmpI N M = -1 := cmpI_lt (by omega)
  clear hlt
  go_enter Tryz.func153, Tryz.ntmps153
  go_wp2_with fail
  refine (natCmp_any _ ha hb (by omega) (by omega)).mono ?_
  rw [hc]
  rintro e w1 ⟨rfl, q, rfl⟩
  go_wp2_with fail
  refine (Clone_any _ ((ha.drewN q).alloc _) hn).mono ?_
  rintro e w2 ⟨A', n', c', rfl, hO, hb2⟩
  have hO2 : OwI 3 w.heap.size w2 A' n' c' (ints (dig N)) := hO.mono0 (by simp)
  have hb2 : Bl w w2 := Bl.next (((Bl.refl w).drewN q).alloc _) hb2
  go_wp2_with fail
  go_ret2
  exact ⟨_, 0, 0, _, _, _, rfl, by rw [hq.out.1, dig_zero]; exact OwI.nil _ _ _ _, by rw [hq.out.2]; exact hO2, hb2⟩

set_option maxRecDepth 100000 in
set_option maxHeartbeats 8000000 in
theorem natDiv_one (w : World) {A B : Option Addr} {n c d N M : Nat} (ha : IsN w A n c N) (hb : IsN w B 1 d M) (hn : n ≤ 1048576) (hle : M ≤ N) :
    Calls Tryz.prog 153 #[.slice A n c, .slice B 1 d] w (DivPost 3 w N M) := by
  obtain ⟨h0, hM, hM0⟩ := dig_one hb.lenN
  have hc : 0 ≤ cmpI N M := by unfold cmpI; split <;> (try split) <;> omega
  clear hle
  generalize hcc : cmpI N M = cc at hc
  obtain ⟨bd, rfl, hltb, hcb⟩ := hb.atN (k := 0) (by omega)
  rw [h0] at hcb
  have hcb : w.cell? bd = some (.int .i64 (M : Int)) := by rw [← hcb, Addr.add_zero']
  clear h0
  go_enter Tryz.func153, Tryz.ntmps153
  go_wp2_with fail
  refine (natCmp_any _ ha hb (by omega) (by omega)).mono ?_
  rw [hcc]
  rintro e w1 ⟨rfl, q, rfl⟩
  clear hcc
  go_wp2_with fail
  refine (divSmall_any _ (ha.drewN q) hn hM0 hM).mono ?_
  rintro e w2 ⟨A', n', c', rfl, hO, hb2⟩
  have hO2 : OwI 3 w.heap.size w2 A' n' c' (ints (dig (N / M))) := hO.mono0 (by simp)
  have hb2 : Bl w w2 := Bl.next ((Bl.refl w).drewN q) hb2
  have hr0 := Nat.mod_lt N hM0
  generalize hrr : N % M = r at *
  go_wp2_with fail
  refine (natOf_any _ r (by omega)).mono ?_
  rintro e w3 ⟨A2, n2, c2, rfl, hO3, hb3⟩
  go_wp2_with fail
  go_ret2
  exact ⟨_, _, _, _, _, _, rfl, hO2.bl hb3, by rw [hrr]; exact hO3.mono0 hb2.size, hb2.next hb3⟩
end

end Go.Proofs.YtjaapemopbbfaaaGreatDoor
