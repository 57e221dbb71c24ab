import Derived.Test.YthgielbhcjpikaaGreatRows
import Derived.Test.YthgielbhcjpikaaGreatN1
namespace Go.Proofs.YthgielbhcjpikaaGreat
open Go.RowKit

theorem natOf_step {d : List Nat} {R N : Nat} (h : d ++ dig R = dig N) (h0 : 0 < R) : (d ++ [R % Bs]) ++ dig (R / Bs) = dig N := by
  rw [List.append_assoc, List.singleton_append, ← dig_pos (by omega)]; exact h

set_option maxHeartbeats 400000 in
theorem natOf_any (w : World) (N : Nat) (hN : N < 18446744073709551616) :
    Calls Tryz.prog 173 #[.int .u64 (N : Int)] w fun e w' => ∃ A n c, e = .returned (.slice A n c) ∧ OwI 3 w.heap.size w' A n c (ints (dig N)) ∧ Bl w w' := by
  go_enter Tryz.func173, Tryz.ntmps173
  go_wp2
  go_loopw [0, 3] (fun r v wr => ∃ (R : Nat) (d : List Nat), r = .int .u64 (R : Int) ∧ R ≤ N ∧ d ++ dig R = dig N ∧ OwL 3 w.heap.size wr v (ints d) ∧ Bl w wr) (fun r _ _ => (intOf r).toNat)
  case atStart => exact ⟨N, [], rfl, Nat.le_refl _, rfl, OwL.empty w (Nat.le_refl _) (by simp), (Bl.refl w).alloc _⟩
  case round =>
    obtain ⟨R, d, rfl, hR, hd, hown, hbw⟩ := hrel
    have hd := Lib.hid hd; rename_i hdo; clear hdo
    by_cases h0 : 0 < R
    · have hnext := Lib.hid (natOf_step hd.out h0)
      have hlen : (ints d).length ≤ 1099511627776 := by
        have := congrArg List.length hd.out
        have h3 : (dig N).length ≤ 3 := dig_len_le.2 (by rw [Bs_eq]; omega)
        rw [List.length_append] at this
        rw [ints_len]; omega
      have hpos : (0 : Int) < (R : Int) := by omega
      have hdiv := Nat.div_lt_self h0 (show 1 < 1000000000 by omega)
      go_wp2_with (at_builtin; go_must (refine wpList_append_int (w0 := w) info_int Tryz.underlying28 rfl (.tmp 9) (.tmp 13) rfl _ (ints d) rfl hown hbw 1 rfl hlen ?_); intro v' w1 hown1 hbw1)
      go_roundw
      case rel => exact ⟨R / Bs, d ++ [R % Bs], by rw [Bs_eq]; go_num, Nat.le_trans (Nat.div_le_self _ _) hR, hnext.out, by rw [ints_append, Bs_eq]; exact hown1, hbw1⟩
      case measure => simp [intOf]; omega
    · obtain rfl : R = 0 := by omega
      have hfin := Lib.hid (show d = dig N by have := hd.out; rwa [dig_zero, List.append_nil] at this)
      have hlen : (ints d).length ≤ 9223372036854775807 := by
        have h3 : (dig N).length ≤ 3 := dig_len_le.2 (by rw [Bs_eq]; omega)
        rw [ints_len, hfin.out]; omega
      obtain ⟨A, c, hv, ho⟩ := hown.own hlen
      have hv := Lib.hid hv; rename_i hvo; clear hvo
      go_wp2
      go_ret
      exact ⟨A, _, c, congrArg Ending.returned hv.out, by rw [← hfin.out]; exact ho, hbw⟩

end Go.Proofs.YthgielbhcjpikaaGreat
