import Derived.Test.YtggjdgjkdmgjnaaRows
import Derived.Test.YtggjdgjkdmgjnaaBg4
namespace Go.Proofs.Ytggjdgjkdmgjnaa

open Go.RowKit

theorem dig_mul_len {N M a b : Nat} (h1 : (dig N).length ≤ a) (h2 : (dig M).length ≤ b) : (dig (N * M)).length ≤ a + b := by
  rw [dig_len_le] at *
  rw [Nat.pow_add]
  exact Nat.mul_lt_mul'' h1 h2
theorem bm_len {T : TypeId} {b0 : Nat} {w : World} {s : Bool} {A : Option Addr} {n c : Nat} {x y : Int} (h : OwB T b0 w s A n c (x * y)) (hl : (dig x.natAbs).length + (dig y.natAbs).length ≤ 1048576) : n ≤ 1048576 := by
  rw [← h.len, Int.natAbs_mul]
  exact Nat.le_trans (dig_mul_len (Nat.le_refl _) (Nat.le_refl _)) hl
theorem mul_lim {a b : Int} (h1 : -1000000000 < a) (h2 : a < 1000000000) (h3 : 0 ≤ b) (h4 : b < 1000000000) : -1000000000000000000 ≤ a * b ∧ a * b ≤ 1000000000000000000 := by
  have e1 : a * b ≤ 1000000000 * b := Int.mul_le_mul_of_nonneg_right (by omega) h3
  have e2 : -1000000000 * b ≤ a * b := Int.mul_le_mul_of_nonneg_right (by omega) h3
  omega
theorem add_len {x y : Int} {a b : Nat} (h1 : (dig x.natAbs).length ≤ a) (h2 : (dig y.natAbs).length ≤ b) : (dig (x + y).natAbs).length ≤ a + b + 1 := by
  rw [dig_len_le] at *
  have e : (x + y).natAbs ≤ x.natAbs + y.natAbs := Int.natAbs_add_le x y
  have p1 : Bs ^ a ≤ Bs ^ (a + b) := Nat.pow_le_pow_right Bs_pos (by omega)
  have p2 : Bs ^ b ≤ Bs ^ (a + b) := Nat.pow_le_pow_right Bs_pos (by omega)
  rw [Nat.pow_succ, Bs_eq] at *
  omega
theorem imul_len {x y : Int} {a b : Nat} (h1 : (dig x.natAbs).length ≤ a) (h2 : (dig y.natAbs).length ≤ b) : (dig (x * y).natAbs).length ≤ a + b := by
  rw [Int.natAbs_mul]; exact dig_mul_len h1 h2

end Go.Proofs.Ytggjdgjkdmgjnaa
