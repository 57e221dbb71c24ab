import Derived.Test.YthgielbhcjpikaaRows
import Derived.Test.YthgielbhcjpikaaSp14
import Derived.Test.YthgielbhcjpikaaEqL
import Derived.Test.YthgielbhcjpikaaSz
import Derived.Test.YthgielbhcjpikaaTo
namespace Go.Proofs.Ythgielbhcjpikaa
open Go.RowKit

set_option maxRecDepth 100000 in
set_option maxHeartbeats 2000000 in
theorem FnExactIsProper_any (w : World) {A : Option Addr} {n c : Nat} {l : List PtD} (h : RdPS w A n c l) :
    Calls Try.prog 7 #[.slice A n c] w fun e w' => e = .returned (.bool true) ∧ Bl w w' := by
  have hsm := h.small
  by_cases s1 : ((szL szP l : Nat) : Int) ≤ 1048576
  · have e1 := lft_yes s1
    have hsz : szL szP l ≤ 1048576 := by omega
    have hn : n ≤ 1048576 := by
      have := h.len
      unfold szL at hsz
      omega
    have hl := Lib.hid h.len
    have hne : (propB l != propB l) = false := by simp
    go_enter Try.func7, Try.ntmps7
    go_wp2_with fail
    refine (szPointS_any _ h (by omega) (by omega)).mono ?_
    rw [e1]
    rintro e w1 ⟨rfl, hb1⟩
    go_wp2_with fail
    refine (toPointS_any _ (RdPS.bl h hb1) hsz).mono ?_
    rintro e w2 ⟨g2, cs2, fs2, rfl, hg2, hB2, hc2, hP2, hF2, hb2⟩
    have hbb2 := hb1.next hb2
    have hR2 : RdPS w2 (some ⟨g2, 0, none⟩) n n l := hP2.rd hB2 hl.out (by omega) (Nat.le_refl _)
    clear hB2 hP2 hF2 hc2
    go_wp2_with fail
    refine (sIsProper_any _ hR2).mono ?_
    rintro e w3 ⟨rfl, hb3⟩
    have hbb3 := hbb2.next hb3
    generalize hpb : propB l = pb at *
    have hpb := Lib.hid hpb; rename_i h_; clear h_
    go_wp2_with fail
    refine (toPointS_any _ (RdPS.bl h hbb3) hsz).mono ?_
    rintro e w4 ⟨g4, cs4, fs4, rfl, hg4, hB4, hc4, hP4, hF4, hb4⟩
    have hbb4 := hbb3.next hb4
    have hR4 : RdPS w4 (some ⟨g4, 0, none⟩) n n l := hP4.rd hB4 hl.out (by omega) (Nat.le_refl _)
    clear hB4 hP4 hF4 hc4
    go_wp2_with fail
    refine (IsProper_any _ hR4).mono ?_
    rw [hpb.out]
    rintro e w5 ⟨rfl, hb5⟩
    have hbb5 := hbb4.next hb5
    have hR5 := RdPS.bl hR4 hb5
    go_wp2_with fail
    refine (toPointS_any _ (RdPS.bl h hbb5) hsz).mono ?_
    rintro e w6 ⟨g6, cs6, fs6, rfl, hg6, hB6, hc6, hP6, hF6, hb6⟩
    have hbb6 := hbb5.next hb6
    have hR6 : RdPS w6 (some ⟨g6, 0, none⟩) n n l := hP6.rd hB6 hl.out (by omega) (Nat.le_refl _)
    clear hB6 hP6 hF6 hc6
    go_wp2_with fail
    refine (eqPointS_any _ (RdPS.bl hR5 hb6) hR6).mono ?_
    rintro e w7 ⟨rfl, hb7⟩
    go_wp2_with fail
    go_ret
    exact ⟨rfl, hbb6.next hb7⟩
  · have e1 := lft_no s1
    go_enter Try.func7, Try.ntmps7
    go_wp2_with fail
    refine (szPointS_any _ h (by omega) (by omega)).mono ?_
    rw [e1]
    rintro e w1 ⟨rfl, hb1⟩
    go_wp2_with fail
    go_ret
    exact ⟨rfl, hb1⟩

end Go.Proofs.Ythgielbhcjpikaa
