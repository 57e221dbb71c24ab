import Derived.Test.YtggjdgjkdmgjnaaRows
import Derived.Test.YtggjdgjkdmgjnaaSp13
import Derived.Test.YtggjdgjkdmgjnaaBg10
import Derived.Deep.Cut
namespace Go.Proofs.Ytggjdgjkdmgjnaa

open Go.RowKit

theorem sgn_pos_ok {r : RatD} (h : 0 < sgnR r) : OkR r := by
  unfold sgnR at h
  split at h
  · assumption
  · omega

theorem propB_three {p0 p1 p2 : PtD} (h : Prop3 [p0, p1, p2]) : OkP p0 ∧ OkP p1 ∧ OkP p2 ∧ 0 < sgnR (dblA p0 p1 p2) := by
  obtain ⟨hall, a, b, c, e, hs⟩ := h
  injection e with e1 e
  injection e with e2 e
  injection e with e3 e
  subst e1 e2 e3
  exact ⟨hall 0 (by simp), hall 1 (by simp), hall 2 (by simp), hs⟩
end Go.Proofs.Ytggjdgjkdmgjnaa
