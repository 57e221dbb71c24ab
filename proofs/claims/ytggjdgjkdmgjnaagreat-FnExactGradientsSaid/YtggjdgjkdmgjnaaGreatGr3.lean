/- The gradients of any corner lists. -/
import Derived.Test.YtggjdgjkdmgjnaaGreatRows
import Derived.Test.YtggjdgjkdmgjnaaGreatGr2
namespace Go.Proofs.YtggjdgjkdmgjnaaGreat

open Go.RowKit

set_option maxRecDepth 100000 in
set_option maxHeartbeats 1000000 in
theorem Gradients_any (w : World) {g n c0 : Nat} {l : List PtD} (h : RdPS w (some ⟨g, 0, none⟩) n c0 l) :
    Calls Tryz.prog 14 #[.slice (some ⟨g, 0, none⟩) n c0] w fun e w' => ∃ A1 n1 c1, e = .returned (.slice A1 n1 c1) ∧ OwPZ 3 45 w.heap.size w'.heap.size w' A1 n1 c1 (gradL l) ∧ (n1 = 0 → A1 = none ∧ c1 = 0) ∧ Bl w w' := by
  by_cases hp : propB l = true
  · obtain ⟨_, p0, p1, p2, e, _⟩ := propB_out hp
    subst e
    obtain rfl : 3 = n := h.len
    have hv : gradL [p0, p1, p2] = gradP p0 p1 p2 := by unfold gradL; rw [if_pos hp]; rfl
    rw [hv]
    exact Gradients_three _ h (Lib.hid hp)
  · have hval := Lib.hid (show gradL l = [] by unfold gradL; rw [if_neg hp])
    have hp := Lib.hid (Bool.eq_false_iff.2 hp); rename_i h_; clear h_
    go_enter Tryz.func14, Tryz.ntmps14
    go_wp2_with fail
    refine (IsProper_any _ h).mono ?_
    rw [hp.out]
    rintro e w1 ⟨rfl, hb1⟩
    go_wp2_with fail
    go_ret
    refine ⟨_, _, _, rfl, ?_, fun _ => ⟨rfl, rfl⟩, hb1⟩
    rw [hval.out]
    exact ⟨rfl, Nat.le_refl _, Nat.zero_le _, .inl rfl⟩
theorem Gradients_z (w : World) {g n c0 : Nat} {l : List PtD} (h : RdPS w (some ⟨g, 0, none⟩) n c0 l) :
    Calls Tryz.prog 14 #[.slice (some ⟨g, 0, none⟩) n c0] w fun e w' => ∃ A1 n1 c1, e = .returned (.slice A1 n1 c1) ∧ OwPZ 3 45 w.heap.size w'.heap.size w' A1 n1 c1 (gradL l) ∧ Bl w w' := by
  refine (Gradients_any w h).mono ?_
  rintro e w' ⟨A1, n1, c1, h1, h2, _, h3⟩
  exact ⟨A1, n1, c1, h1, h2, h3⟩

set_option maxRecDepth 100000 in
set_option maxHeartbeats 1000000 in
theorem sGradients_any (w : World) {g n c0 : Nat} {l : List PtD} (h : RdPS w (some ⟨g, 0, none⟩) n c0 l) :
    Calls Tryz.prog 12 #[.slice (some ⟨g, 0, none⟩) n c0] w fun e w' => ∃ A1 n1 c1, e = .returned (.slice A1 n1 c1) ∧ OwPZ 3 45 w.heap.size w'.heap.size w' A1 n1 c1 (gradL l) ∧ (n1 = 0 → A1 = none ∧ c1 = 0) ∧ Bl w w' := by
  by_cases hp : propB l = true
  · obtain ⟨_, p0, p1, p2, e, _⟩ := propB_out hp
    subst e
    obtain rfl : 3 = n := h.len
    have hv : gradL [p0, p1, p2] = gradP p0 p1 p2 := by unfold gradL; rw [if_pos hp]; rfl
    rw [hv]
    exact sGradients_three _ h (Lib.hid hp)
  · have hval := Lib.hid (show gradL l = [] by unfold gradL; rw [if_neg hp])
    have hp := Lib.hid (Bool.eq_false_iff.2 hp); rename_i h_; clear h_
    go_enter Tryz.func12, Tryz.ntmps12
    go_wp2_with fail
    refine (sIsProper_any _ h).mono ?_
    rw [hp.out]
    rintro e w1 ⟨rfl, hb1⟩
    go_wp2_with fail
    go_ret
    refine ⟨_, _, _, rfl, ?_, fun _ => ⟨rfl, rfl⟩, hb1⟩
    rw [hval.out]
    exact ⟨rfl, Nat.le_refl _, Nat.zero_le _, .inl rfl⟩
theorem sGradients_z (w : World) {g n c0 : Nat} {l : List PtD} (h : RdPS w (some ⟨g, 0, none⟩) n c0 l) :
    Calls Tryz.prog 12 #[.slice (some ⟨g, 0, none⟩) n c0] w fun e w' => ∃ A1 n1 c1, e = .returned (.slice A1 n1 c1) ∧ RdPS w' A1 n1 c1 (gradL l) ∧ Bl w w' := by
  refine (sGradients_any w h).mono ?_
  rintro e w' ⟨A1, n1, c1, h1, h2, _, h3⟩
  exact ⟨A1, n1, c1, h1, h2.rd, h3⟩

theorem len24_divR' (r s : RatD) : (divR r s).mag.length ≤ 24 ∧ (divR r s).den.length ≤ 24 := by
  unfold divR
  split
  · exact len24_ofFrac _ _
  · exact len24_zR

theorem gradR_sz (D : RatD) (j k : PtD) : szP (gradR D j k) ≤ 96 := by
  have h1 := len24_divR' (subR j.y k.y) D
  have h2 := len24_divR' (subR k.x j.x) D
  show szR (divR _ _) + szR (divR _ _) ≤ 96
  simp only [szR]
  omega
theorem gradL_sz (l : List PtD) : szL szP (gradL l) ≤ 1048576 := by
  unfold gradL gradP
  split
  · split
    · have e0 : pix (gradTo (pix l 0) (pix l 1) (pix l 2) 3) 0 = gradR (dblA (pix l 0) (pix l 1) (pix l 2)) (pix l 1) (pix l 2) := rfl
      have e1 : pix (gradTo (pix l 0) (pix l 1) (pix l 2) 3) 1 = gradR (dblA (pix l 0) (pix l 1) (pix l 2)) (pix l 2) (pix l 0) := rfl
      have e2 : pix (gradTo (pix l 0) (pix l 1) (pix l 2) 3) 2 = gradR (dblA (pix l 0) (pix l 1) (pix l 2)) (pix l 0) (pix l 1) := rfl
      have h0 := gradR_sz (dblA (pix l 0) (pix l 1) (pix l 2)) (pix l 1) (pix l 2)
      have h1 := gradR_sz (dblA (pix l 0) (pix l 1) (pix l 2)) (pix l 2) (pix l 0)
      have h2 := gradR_sz (dblA (pix l 0) (pix l 1) (pix l 2)) (pix l 0) (pix l 1)
      have hl := gradTo_len (pix l 0) (pix l 1) (pix l 2) 3
      unfold szL
      rw [hl]
      simp only [sumTo, e0, e1, e2]
      omega
    · simp [szL, sumTo]
  · simp [szL, sumTo]

end Go.Proofs.YtggjdgjkdmgjnaaGreat
