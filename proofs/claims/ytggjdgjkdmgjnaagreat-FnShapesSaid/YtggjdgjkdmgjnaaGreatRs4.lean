import Derived.Test.YtggjdgjkdmgjnaaGreatRows
import Derived.Test.YtggjdgjkdmgjnaaGreatRs
import Derived.Test.YtggjdgjkdmgjnaaGreatEqL
namespace Go.Proofs.YtggjdgjkdmgjnaaGreat

open Go.RowKit

set_option maxRecDepth 100000 in
set_option maxHeartbeats 1000000 in
theorem eqRatS_any (w : World) {A B : Option Addr} {n c d : Nat} {l : List RatD} (ha : RdRS w A n c l) (hb : RdRS w B n d l) :
    Calls Tryz.prog 85 #[.slice A n c, .slice B n d] w fun e w' => e = .returned (.bool true) ∧ Bl w w' := by
  have hna := ha.small
  go_enter Tryz.func85, Tryz.ntmps85
  go_wp2
  go_loopw [5] (fun i wr => ∃ k : Nat, k ≤ n ∧ i = .int .i64 (k : Int) ∧ Bl w wr) (fun i _ => n - (intOf i).toNat)
  case atStart => exact ⟨0, Nat.zero_le _, rfl, Bl.refl _⟩
  case round =>
    obtain ⟨k, hk, rfl, hbw⟩ := hrel
    by_cases hkn : k < n
    · obtain ⟨ad, rfl, hlta, hca⟩ := (ha.bl hbw).cells k hkn
      obtain ⟨bd, rfl, hltb, hcb⟩ := (hb.bl hbw).cells k hkn
      obtain ⟨s, A, n', c', B, m, d', ⟨g0, g1, g2⟩, hx⟩ := hca
      obtain ⟨s', A', n'', c'', B', m', d'', ⟨p0, p1, p2⟩, hx'⟩ := hcb
      have hki : (k : Int) < (n : Int) := by omega
      go_wp2
      go_still_tail 8, (by kernel_rfl)
      go_wp2_with fail
      refine (eqRat_any _ hx.drew hx'.drew).mono ?_
      rintro e w1 ⟨rfl, hb1⟩
      have hb2 : Bl w w1 := slc
      go_wp2_with fail
      go_roundw
      case rel => exact ⟨k + 1, by omega, by go_num, hb2⟩
      case measure => simp [intOf]; omega
    · go_wp2
      go_ret
      exact ⟨rfl, slc⟩

theorem info_rat : (Tryz.prog.info? 34).map (fun i => (i.zero, i.size, i.bytes)) = some (some (.agg #[.bool false, .slice none 0 0, .slice none 0 0]), 3, 56) := by kernel_rfl
end Go.Proofs.YtggjdgjkdmgjnaaGreat
