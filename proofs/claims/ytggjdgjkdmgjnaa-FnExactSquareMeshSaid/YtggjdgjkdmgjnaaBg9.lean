import Derived.Test.YtggjdgjkdmgjnaaRows
import Derived.Test.YtggjdgjkdmgjnaaBg8
namespace Go.Proofs.Ytggjdgjkdmgjnaa

open Go.RowKit

def AllP (l : List PtD) : Prop := ∀ k, k < l.length → OkP (pix l k)
def PTo (l : List PtD) (k : Nat) : Prop := ∀ j, j < k → OkP (pix l j)
theorem PTo.zero (l : List PtD) : PTo l 0 := fun j hj => by omega
theorem PTo.step {l : List PtD} {k : Nat} (h : PTo l k) (h0 : OkP (pix l k)) : PTo l (k + 1) := by
  intro j hj
  rcases Nat.lt_succ_iff_lt_or_eq.1 hj with hj | rfl
  · exact h j hj
  · exact h0
end Go.Proofs.Ytggjdgjkdmgjnaa
