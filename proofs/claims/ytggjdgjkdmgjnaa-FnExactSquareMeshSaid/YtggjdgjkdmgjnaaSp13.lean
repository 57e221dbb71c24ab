import Derived.Test.YtggjdgjkdmgjnaaRows
import Derived.Test.YtggjdgjkdmgjnaaSp10
import Derived.Deep.Cut
import Derived.Test.YtggjdgjkdmgjnaaBg9
namespace Go.Proofs.Ytggjdgjkdmgjnaa

open Go.RowKit

theorem subR_ok (r s : RatD) : subR r s = zR ∨ OkR (subR r s) := by
  unfold subR
  split
  · rename_i h
    exact ofFrac_ok (Nat.mul_pos h.1.get.2.1 h.2.get.2.1)
  · exact .inl rfl
theorem okR_den {r : RatD} (h : r = zR ∨ OkR r) : (¬ r.den.length = 0) ↔ OkR r := by
  rcases h with h | h
  · subst h
    exact ⟨fun h => absurd rfl h, fun h => absurd h not_ok_zR⟩
  · refine ⟨fun _ => h, fun _ => ?_⟩
    have g := h.get
    rw [g.1]
    unfold raw
    simp only
    rw [ints_len]
    have := dig_len_pos.2 g.2.1
    omega
end Go.Proofs.Ytggjdgjkdmgjnaa
