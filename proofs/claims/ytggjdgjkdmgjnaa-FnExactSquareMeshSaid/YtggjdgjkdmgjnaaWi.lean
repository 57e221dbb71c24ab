import Derived.Test.YtggjdgjkdmgjnaaRows
import Derived.Test.YtggjdgjkdmgjnaaBase
namespace Go.Proofs.Ytggjdgjkdmgjnaa

open Go.RowKit

set_option maxHeartbeats 400000 in
theorem within_any (w : World) (a lo hi : Int) :
    Calls Try.prog 27 #[.int .i64 a, .int .i64 lo, .int .i64 hi] w fun e w' => e = .returned (.bool (decide (lo ≤ a) && decide (a ≤ hi))) ∧ ∃ q, w' = w.drewN q := by
  by_cases h1 : lo ≤ a
  · by_cases h2 : a ≤ hi
    · go_enter Try.func27, Try.ntmps27
      go_wp2
      go_ret
      exact ⟨by simp [*], (by first | exact ⟨_, rfl⟩ | exact ⟨0, rfl⟩ | exact q_drewN ⟨_, rfl⟩ | exact q_drewN (q_drewN ⟨_, rfl⟩))⟩
    · go_enter Try.func27, Try.ntmps27
      go_wp2
      go_ret
      exact ⟨by simp [*], (by first | exact ⟨_, rfl⟩ | exact ⟨0, rfl⟩ | exact q_drewN ⟨_, rfl⟩ | exact q_drewN (q_drewN ⟨_, rfl⟩))⟩
  · go_enter Try.func27, Try.ntmps27
    go_wp2
    go_ret
    exact ⟨by rw [decide_eq_false (show ¬ lo ≤ a by omega)]; rfl, (by first | exact ⟨_, rfl⟩ | exact ⟨0, rfl⟩ | exact q_drewN ⟨_, rfl⟩ | exact q_drewN (q_drewN ⟨_, rfl⟩))⟩

set_option maxHeartbeats 400000 in
theorem l01In_any (w : World) (a lo hi : Int) :
    Calls Try.prog 22 #[.int .i64 a, .int .i64 lo, .int .i64 hi] w fun e w' => e = .returned (.bool (decide (lo ≤ a) && decide (a ≤ hi))) ∧ ∃ q, w' = w.drewN q := by
  by_cases h1 : lo ≤ a
  · by_cases h2 : a ≤ hi
    · go_enter Try.func22, Try.ntmps22
      go_wp2
      go_ret
      exact ⟨by simp [*], (by first | exact ⟨_, rfl⟩ | exact ⟨0, rfl⟩ | exact q_drewN ⟨_, rfl⟩ | exact q_drewN (q_drewN ⟨_, rfl⟩))⟩
    · go_enter Try.func22, Try.ntmps22
      go_wp2
      go_ret
      exact ⟨by simp [*], (by first | exact ⟨_, rfl⟩ | exact ⟨0, rfl⟩ | exact q_drewN ⟨_, rfl⟩ | exact q_drewN (q_drewN ⟨_, rfl⟩))⟩
  · go_enter Try.func22, Try.ntmps22
    go_wp2
    go_ret
    exact ⟨by rw [decide_eq_false (show ¬ lo ≤ a by omega)]; rfl, (by first | exact ⟨_, rfl⟩ | exact ⟨0, rfl⟩ | exact q_drewN ⟨_, rfl⟩ | exact q_drewN (q_drewN ⟨_, rfl⟩))⟩

set_option maxHeartbeats 400000 in
theorem corners_any (w : World) (t : TriD) :
    Calls Try.prog 28 #[.agg #[.int .i64 t.a, .int .i64 t.b, .int .i64 t.c, .int .i64 t.region, .int .i64 t.level]] w fun e w' => e = .returned (.agg #[.int .i64 t.a, .int .i64 t.b, .int .i64 t.c]) ∧ Bl w w' := by
  go_enter Try.func28, Try.ntmps28
  go_wp2
  refine bodyPost_ret (v := .agg #[.int .i64 t.a, .int .i64 t.b, .int .i64 t.c]) (by simp [results, Try.results28, go_sem]) rfl ⟨rfl, slc⟩

end Go.Proofs.Ytggjdgjkdmgjnaa
