import Derived.Test.YtggjdgjkdmgjnaaRows
import Derived.Test.YtggjdgjkdmgjnaaEqL
namespace Go.Proofs.Ytggjdgjkdmgjnaa

open Go.RowKit

set_option maxHeartbeats 1000000 in
theorem eqTri_any (w : World) (a b c d e : Int) :
    Calls Try.prog 46 #[.agg #[.int .i64 a, .int .i64 b, .int .i64 c, .int .i64 d, .int .i64 e], .agg #[.int .i64 a, .int .i64 b, .int .i64 c, .int .i64 d, .int .i64 e]] w fun en w' => en = .returned (.bool true) ∧ Bl w w' := by
  have ha : ∀ z : Int, (z != z) = false := by simp
  go_enter Try.func46, Try.ntmps46
  go_wp2
  go_ret
  exact ⟨rfl, slc⟩

set_option maxRecDepth 100000 in
set_option maxHeartbeats 1000000 in
theorem eqTriS_any (w : World) {A B : Option Addr} {n c d : Nat} {l : List TriD} (ha : RdTS w A n c l) (hb : RdTS w B n d l) :
    Calls Try.prog 31 #[.slice A n c, .slice B n d] w fun e w' => e = .returned (.bool true) ∧ Bl w w' := by
  have hna := ha.small
  go_enter Try.func31, Try.ntmps31
  go_wp2
  go_loopw [5] (fun i wr => ∃ k : Nat, k ≤ n ∧ i = .int .i64 (k : Int) ∧ Bl w wr) (fun i _ => n - (intOf i).toNat)
  case atStart => exact ⟨0, Nat.zero_le _, rfl, Bl.refl _⟩
  case round =>
    obtain ⟨k, hk, rfl, hbw⟩ := hrel
    by_cases hkn : k < n
    · obtain ⟨ad, rfl, hlta, hca⟩ := (ha.bl hbw).cells k hkn
      obtain ⟨bd, rfl, hltb, hcb⟩ := (hb.bl hbw).cells k hkn
      obtain ⟨g0, g1, g2, g3, g4⟩ := hca
      obtain ⟨p0, p1, p2, p3, p4⟩ := hcb
      have hki : (k : Int) < (n : Int) := by omega
      go_wp2
      go_still_tail 8, (by kernel_rfl)
      go_wp2_with fail
      refine (eqTri_any _ _ _ _ _ _).mono ?_
      rintro e w1 ⟨rfl, hb1⟩
      have hb2 : Bl w w1 := slc
      go_wp2_with fail
      go_roundw
      case rel => exact ⟨k + 1, by omega, by go_num, hb2⟩
      case measure => simp [intOf]; omega
    · go_wp2
      go_ret
      exact ⟨rfl, slc⟩

set_option maxHeartbeats 1000000 in
theorem eqMesh_any (w : World) {A B A' B' : Option Addr} {n m c d n' m' c' d' : Nat} {x : MeD} (h : RdPS w A n c x.points) (k : RdTS w B m d x.tris) (h' : RdPS w A' n' c' x.points) (k' : RdTS w B' m' d' x.tris) :
    Calls Try.prog 11 #[.agg #[.slice A n c, .slice B m d], .agg #[.slice A' n' c', .slice B' m' d']] w fun e w' => e = .returned (.bool true) ∧ Bl w w' := by
  obtain rfl := h.len.symm.trans h'.len
  obtain rfl := k.len.symm.trans k'.len
  go_enter Try.func11, Try.ntmps11
  go_wp2_with fail
  refine (eqPointS_any _ (h.bl slc) (h'.bl slc)).mono ?_
  rintro e w1 ⟨rfl, hb⟩
  have hb1 : Bl w w1 := slc
  obtain ⟨hc, hf⟩ := bcell hb
  clear hb
  go_wp2_with fail
  refine (eqTriS_any _ (k.bl slc) (k'.bl slc)).mono ?_
  rintro e w2 ⟨rfl, hb⟩
  have hb2 : Bl w w2 := slc
  clear hb
  go_wp2_with fail
  go_ret
  exact ⟨rfl, hb2⟩

end Go.Proofs.Ytggjdgjkdmgjnaa
