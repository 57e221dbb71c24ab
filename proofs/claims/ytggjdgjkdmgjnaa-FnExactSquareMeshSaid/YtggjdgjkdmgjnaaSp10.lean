-- merged: Sp9 Sp10
import Derived.Test.YtggjdgjkdmgjnaaRows
import Derived.Test.YtggjdgjkdmgjnaaSp8
namespace Go.Proofs.Ytggjdgjkdmgjnaa
open Go.RowKit
section


end

section


theorem one_lit (w : World) (o : Obj) (T : TypeId) : IsN ((w.alloc o).alloc (.cells #[.int .i64 1] T)) (some ⟨w.heap.size + 1, 0, none⟩) 1 1 1 := by
  have hd : dig 1 = [1] := by rw [dig_pos (by omega), show 1 / Bs = 0 from by rw [Bs_eq], dig_zero]; rfl
  have hB : Ow T ((w.alloc o).alloc (.cells #[.int .i64 1] T)) (w.alloc o).heap.size [1] := heap_alloc_new _ _
  rw [World.size_alloc] at hB
  have := hB.rd (c := 1) (by decide) (by decide)
  show RdI _ _ _ _ (ints (dig 1))
  rw [hd]
  exact this

theorem mk_sign {x : Int} {s : Bool} {D : Nat} (hs : s = decide (x < 0)) (hD : 0 < D) : (s && decide (0 < x.natAbs * D)) = decide (x * (D : Int) < 0) := by
  refine signed_neg (x := x * (D : Int)) (by rw [Int.natAbs_mul, Int.natAbs_natCast]) fun _ => ?_
  rw [hs]
  refine decide_eq_decide.2 ⟨fun h => Int.mul_neg_of_neg_of_pos h (by omega), fun h => ?_⟩
  rcases Int.lt_or_le x 0 with hx | hx
  · exact hx
  · have := Int.mul_nonneg hx (show (0 : Int) ≤ D by omega)
    omega
theorem lowS_self {x : Int} {s : Bool} {D : Nat} (hD : 0 < D) (hs : s = decide (x < 0)) : lowS s x.natAbs D = ofFrac x D := by
  unfold lowS
  rw [if_neg (by omega)]
  congr 1
  unfold sx
  rw [hs]
  by_cases h : x < 0
  · simp [h]; omega
  · simp [h]; omega
end

end Go.Proofs.Ytggjdgjkdmgjnaa
