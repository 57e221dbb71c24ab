import Derived.Test.YtggjdgjkdmgjnaaRows
import Derived.Test.YtggjdgjkdmgjnaaOk2
import Derived.Test.YtggjdgjkdmgjnaaCp
namespace Go.Proofs.Ytggjdgjkdmgjnaa

open Go.RowKit

theorem okR_iff (r : RatD) : OkR r ↔ OkB r.neg r.mag ∧ OkN r.den ∧ 0 < r.den.length ∧ r.mag.length ≤ 24 ∧ r.den.length ≤ 24 ∧ Nat.gcd (nv r.mag) (nv r.den) = 1 := by
  constructor
  · rintro ⟨x, D, rfl, h0, h1, h2, h3⟩
    simp only [raw, nv_ints, ints_len]
    refine ⟨⟨⟨_, rfl, by omega⟩, fun e => ?_⟩, ⟨_, rfl, by omega⟩, dig_len_pos.2 h0, h2, h3, h1⟩
    rw [ints_len]
    have : x < 0 := by simpa using e
    exact dig_len_pos.2 (by omega)
  · rintro ⟨⟨h1, h2⟩, h3, h4, h5, h6, h7⟩
    have e1 := h1.nv.1
    have e3 := h3.nv.1
    have hn : (rn r).natAbs = nv r.mag := by unfold rn; split <;> omega
    rw [e1] at h2 h5
    rw [e3] at h4 h6
    rw [ints_len] at h2 h4 h5 h6
    refine ⟨rn r, rd r, ?_, dig_len_pos.1 h4, by rw [hn]; exact h7, by rw [hn]; exact h5, h6⟩
    obtain ⟨s, mag, den⟩ := r
    unfold raw
    congr 1
    · by_cases hs : s = true
      · have := dig_len_pos.1 (h2 hs)
        subst hs
        simp [rn]
        omega
      · have : s = false := by simpa using hs
        subst this
        simp [rn]
    · rw [hn]; exact e1
theorem okR_of {r : RatD} (h : OkR r) : okR r = true := okR_true.2 h
theorem okR_no {r : RatD} (h : ¬ OkR r) : okR r = false := okR_false.2 h

section
variable (w : World) {s : Bool} {A : Option Addr} {n c : Nat} {B : Option Addr} {m d : Nat} {r : RatD}
end

end Go.Proofs.Ytggjdgjkdmgjnaa
