import Derived.Test.YthgielbhcjpikaaGreatRows
import Derived.Test.YthgielbhcjpikaaGreatOv2
import Derived.Test.YthgielbhcjpikaaGreatTo
import Derived.Test.YthgielbhcjpikaaGreatSz
import Derived.Test.YthgielbhcjpikaaGreatEqL
namespace Go.Proofs.YthgielbhcjpikaaGreat
open Go.RowKit

theorem toPointS_rd (w : World) {A : Option Addr} {n c : Nat} {l : List PtD} (h : RdPS w A n c l) (hn : szL szP l ≤ 1048576) :
    Calls Tryz.prog 12 #[.slice A n c] w fun e w' => ∃ g, e = .returned (.slice (some ⟨g, 0, none⟩) n n) ∧ RdPS w' (some ⟨g, 0, none⟩) n n l ∧ Bl w w' := by
  refine (toPointS_any w h hn).mono ?_
  rintro e w' ⟨g, cs, fs, rfl, hg, hB, hc, hP, hF, hb⟩
  exact ⟨g, rfl, hP.rd hB h.len h.small (Nat.le_refl _), hb⟩
set_option maxRecDepth 100000 in
set_option maxHeartbeats 4000000 in
theorem FnExactOverlap_any (w : World) {A B : Option Addr} {n c m d : Nat} {l l' : List PtD} (ha : RdPS w A n c l) (hb : RdPS w B m d l') :
    Calls Tryz.prog 3 #[.slice A n c, .slice B m d] w fun e w' => e = .returned (.bool true) ∧ Bl w w' := by
  by_cases s1 : ((szL szP l : Nat) : Int) ≤ 1048576
  · have e1 := lft_yes s1
    have p1 : ¬ 1048576 - ((szL szP l : Nat) : Int) < 0 := by omega
    have hsz : szL szP l ≤ 1048576 := by omega
    by_cases s2 : ((szL szP l' : Nat) : Int) ≤ 1048576 - ((szL szP l : Nat) : Int)
    · have e2 := lft_yes s2
      have p2 : ¬ 1048576 - ((szL szP l : Nat) : Int) - ((szL szP l' : Nat) : Int) < 0 := by omega
      have hsz' : szL szP l' ≤ 1048576 := by omega
      have e1 := Lib.hid e1; rename_i h_; clear h_
      have e2 := Lib.hid e2; rename_i h_; clear h_
      go_enter Tryz.func3, Tryz.ntmps3
      go_wp2_with fail
      refine (szPointS_any _ ha (by omega) (by omega)).mono ?_
      rw [e1.out]
      rintro e w1 ⟨rfl, hb1⟩
      have hbb := hb1
      go_wp2_with fail
      refine (szPointS_any _ (RdPS.bl hb hbb) (by omega) (by omega)).mono ?_
      rw [e2.out]
      rintro e w2 ⟨rfl, hb2⟩
      replace hbb := hbb.next hb2
      go_wp2_with fail
      refine (toPointS_rd _ (RdPS.bl ha hbb) hsz).mono ?_
      rintro e w3 ⟨g3, rfl, hO3, hb3⟩
      replace hbb := hbb.next hb3
      go_wp2_with fail
      refine (toPointS_rd _ (RdPS.bl hb hbb) hsz').mono ?_
      rintro e w4 ⟨g4, rfl, hO4, hb4⟩
      replace hbb := hbb.next hb4
      replace hO3 := RdPS.bl hO3 hb4
      go_wp2_with fail
      refine (sOverlap_any _ hO3 hO4).mono ?_
      rintro e w5 ⟨rfl, hb5⟩
      replace hbb := hbb.next hb5
      replace hO3 := RdPS.bl hO3 hb5
      replace hO4 := RdPS.bl hO4 hb5
      clear hO3 hO4
      generalize hov : ovB l l' = ov at *
      have hov := Lib.hid hov; rename_i h_; clear h_
      have hne : (ov != ov) = false := by simp
      go_wp2_with fail
      refine (toPointS_rd _ (RdPS.bl ha hbb) hsz).mono ?_
      rintro e w6 ⟨g6, rfl, hO6, hb6⟩
      replace hbb := hbb.next hb6
      go_wp2_with fail
      refine (toPointS_rd _ (RdPS.bl hb hbb) hsz').mono ?_
      rintro e w7 ⟨g7, rfl, hO7, hb7⟩
      replace hbb := hbb.next hb7
      replace hO6 := RdPS.bl hO6 hb7
      go_wp2_with fail
      refine (Overlap_any _ hO6 hO7).mono ?_
      rw [hov.out]
      rintro e w8 ⟨rfl, hb8⟩
      replace hbb := hbb.next hb8
      replace hO6 := RdPS.bl hO6 hb8
      replace hO7 := RdPS.bl hO7 hb8
      go_wp2_with fail
      refine (toPointS_rd _ (RdPS.bl ha hbb) hsz).mono ?_
      rintro e w9 ⟨g9, rfl, hO9, hb9⟩
      replace hbb := hbb.next hb9
      replace hO6 := RdPS.bl hO6 hb9
      replace hO7 := RdPS.bl hO7 hb9
      go_wp2_with fail
      refine (eqPointS_any _ hO6 hO9).mono ?_
      rintro e w10 ⟨rfl, hb10⟩
      replace hbb := hbb.next hb10
      replace hO6 := RdPS.bl hO6 hb10
      replace hO7 := RdPS.bl hO7 hb10
      replace hO9 := RdPS.bl hO9 hb10
      clear hO9
      go_wp2_with fail
      refine (toPointS_rd _ (RdPS.bl hb hbb) hsz').mono ?_
      rintro e w11 ⟨g11, rfl, hO11, hb11⟩
      replace hbb := hbb.next hb11
      replace hO6 := RdPS.bl hO6 hb11
      replace hO7 := RdPS.bl hO7 hb11
      go_wp2_with fail
      refine (eqPointS_any _ hO7 hO11).mono ?_
      rintro e w12 ⟨rfl, hb12⟩
      replace hbb := hbb.next hb12
      go_wp2_with fail
      go_ret
      exact ⟨rfl, hbb⟩
    · have e2 := lft_no s2
      go_enter Tryz.func3, Tryz.ntmps3
      go_wp2_with fail
      refine (szPointS_any _ ha (by omega) (by omega)).mono ?_
      rw [e1]
      rintro e w1 ⟨rfl, hb1⟩
      go_wp2_with fail
      refine (szPointS_any _ (RdPS.bl hb hb1) (by omega) (by omega)).mono ?_
      rw [e2]
      rintro e w2 ⟨rfl, hb2⟩
      go_wp2_with fail
      go_ret
      exact ⟨rfl, hb1.next hb2⟩
  · have e1 := lft_no s1
    go_enter Tryz.func3, Tryz.ntmps3
    go_wp2_with fail
    refine (szPointS_any _ ha (by omega) (by omega)).mono ?_
    rw [e1]
    rintro e w1 ⟨rfl, hb1⟩
    go_wp2_with fail
    go_ret
    exact ⟨rfl, hb1⟩

end Go.Proofs.YthgielbhcjpikaaGreat
