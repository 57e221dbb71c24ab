import Derived.Test.YtggjdgjkdmgjnaaGreatRows
import Derived.Test.YtggjdgjkdmgjnaaGreatLs2
import Derived.Test.YtggjdgjkdmgjnaaGreatMz
namespace Go.Proofs.YtggjdgjkdmgjnaaGreat

open Go.RowKit

set_option maxRecDepth 100000 in
set_option maxHeartbeats 4000000 in
theorem FnExactLocalStiffness_any (w : World) {A : Option Addr} {n c : Nat} {l : List PtD} (ha : RdPS w A n c l) :
    Calls Tryz.prog 6 #[.slice A n c] w fun e w' => e = .returned (.bool true) ∧ Bl w w' := by
  by_cases s1 : ((szL szP l : Nat) : Int) ≤ 1048576
  · have e1 := lft_yes s1
    have p1 : ¬ 1048576 - ((szL szP l : Nat) : Int) < 0 := by omega
    have hsz : szL szP l ≤ 1048576 := by omega
    have hadv := adv_le ha.len hsz
    have e1 := Lib.hid e1; rename_i h_; clear h_
    go_enter Tryz.func6, Tryz.ntmps6
    go_wp2_with fail
    refine (szPointS_any _ ha (by omega) (by omega)).mono ?_
    rw [e1.out]
    rintro e w1 ⟨rfl, hb1⟩
    have hbb := hb1
    go_wp2_with fail
    refine (toPointS_z _ (RdPS.bl ha hbb) hsz).mono ?_
    rintro e w2 ⟨g2, rfl, hO2, hb2⟩
    replace hbb := hbb.next hb2
    go_wp2_with fail
    refine (sLocalStiffness_any _ hO2.rd).mono ?_
    rintro e w3 ⟨A3, n3, c3, rfl, hR3, hb3⟩
    clear hO2
    replace hbb := hbb.next hb3
    go_wp2_with fail
    have z3 := hbb.size
    refine (toPointS_z _ (RdPS.bl ha hbb) hsz).mono ?_
    rintro e w4 ⟨g4, rfl, hO4, hb4⟩
    have hs : Bl w3 w4 := hb4
    replace hbb := hbb.next hb4
    have z4 : w3.heap.size ≤ w4.heap.size := hs.size
    go_wp2_with fail
    refine (LocalStiffness_any _ hO4.rd).mono ?_
    rintro e w5 ⟨A5, n5, c5, rfl, hR5, hb5⟩
    have z5 := hb5.size
    replace hO4 := hO4.bl hb5
    replace hbb := hbb.next hb5
    replace hs := hs.next hb5
    have q3 := Lib.hid hR3.len
    have q5 := Lib.hid hR5.rd.len
    obtain rfl : n5 = n3 := q5.out.symm.trans q3.out
    clear q3 q5
    go_wp2_with fail
    refine (eqRatSS_any _ hR5.rd (RdRSS.bl hR3 hs)).mono ?_
    rintro e w6 ⟨rfl, hb6⟩
    have z6 := hb6.size
    replace hO4 := hO4.bl hb6
    replace hR5 := hR5.bl hb6
    replace hbb := hbb.next hb6
    replace hs := hs.next hb6
    go_wp2_with fail
    refine (toPointS_z _ (RdPS.bl ha hbb) hsz).mono ?_
    rintro e w7 ⟨g7, rfl, hO7, hb7⟩
    replace hO4 := hO4.bl hb7
    replace hR5 := hR5.bl hb7
    replace hbb := hbb.next hb7
    replace hs := hs.next hb7
    go_wp2_with fail
    refine (eqPointS_any _ hO4.rd hO7.rd).mono ?_
    rintro e w8 ⟨rfl, hb8⟩
    clear hO7
    replace hO4 := hO4.bl hb8
    replace hR5 := hR5.bl hb8
    replace hbb := hbb.next hb8
    replace hs := hs.next hb8
    go_wp2_with fail
    refine (markPointS_z _ hO4 hsz (by omega) (by omega)).mono ?_
    rintro e w9 ⟨rfl, -, bs9, hs9, hO9⟩
    clear hO4
    replace hR5 := hR5.ob hO9 (fun b hm => by have := hs9 b hm; omega)
    replace hbb := hbb.ob hO9 (fun b hm => by have := hs9 b hm; omega)
    replace hs := hs.ob hO9 (fun b hm => by have := hs9 b hm; simp; omega)
    clear hs9 hO9
    have hK : ¬ 1 + (sumTo adv l n : Int) < 0 := by omega
    go_wp2_with fail
    refine (eqRatSS_any _ hR5.rd (RdRSS.bl hR3 hs)).mono ?_
    rintro e w10 ⟨rfl, hb10⟩
    replace hR5 := hR5.bl hb10
    replace hbb := hbb.next hb10
    replace hs := hs.next hb10
    have hszr := stifL_sz l
    have hl5 := Lib.hid hR5.1
    have hn5 : n5 ≤ 8 := by rw [← hl5.out]; exact hszr.1
    have hszs : ∀ i, i < n5 → szL szR (pix (stifL l) i) ≤ 1048576 := fun i hi => hszr.2 i (by rw [hl5.out]; exact hi)
    have hKr := sumTo_advL hszs n5 (Nat.le_refl _)
    clear hszr
    go_wp2_with fail
    refine (markRatSS_z _ hR5 hn5 hszs (by omega) (by omega)).mono ?_
    rintro e w11 ⟨rfl, hA11, bs11, hs11, hO11⟩
    clear hR5
    replace hbb := hbb.ob hO11 (fun b hm => by have := hs11 b hm; omega)
    replace hs := hs.ob hO11 (fun b hm => by have := hs11 b hm; simp; omega)
    clear hs11 hO11
    have hq : ¬ 1 + (sumTo advL (stifL l) n5 : Int) < 0 := by omega
    go_wp2_with fail
    refine (heldRatSS_any _ hA11 hl5.out hn5 hszs (by omega) (by omega)).mono ?_
    rintro e w12 ⟨rfl, q12, rfl⟩
    replace hA11 := RdRSS.bl hA11 ((Bl.refl _).drewN q12)
    replace hbb := hbb.drewN q12
    replace hs := hs.drewN q12
    go_wp2_with fail
    refine (toPointS_z _ (RdPS.bl ha hbb) hsz).mono ?_
    rintro e w13 ⟨g13, rfl, hO13, hb13⟩
    have z13 := hb13.size
    replace hA11 := RdRSS.bl hA11 hb13
    replace hbb := hbb.next hb13
    replace hs := hs.next hb13
    go_wp2_with fail
    refine (LocalStiffness_any _ hO13.rd).mono ?_
    rintro e w14 ⟨A14, n14, c14, rfl, hR14, hb14⟩
    have z14 := hb14.size
    replace hR14 := hR14.rd
    clear hO13
    replace hA11 := RdRSS.bl hA11 hb14
    replace hbb := hbb.next hb14
    replace hs := hs.next hb14
    have q3 := Lib.hid hR3.len
    have q14 := Lib.hid hR14.len
    obtain rfl : n14 = n5 := q14.out.symm.trans q3.out
    clear q3 q14
    go_wp2_with fail
    refine (eqRatSS_any _ hR14 (RdRSS.bl hR3 hs)).mono ?_
    rintro e w15 ⟨rfl, hb15⟩
    replace hA11 := RdRSS.bl hA11 hb15
    replace hbb := hbb.next hb15
    replace hs := hs.next hb15
    go_wp2_with fail
    refine (heldRatSS_any _ hA11 hl5.out hn5 hszs (by omega) (by omega)).mono ?_
    rintro e w16 ⟨rfl, q16, rfl⟩
    replace hbb := hbb.drewN q16
    go_wp2_with fail
    go_ret
    exact ⟨rfl, hbb⟩
  · have e1 := lft_no s1
    go_enter Tryz.func6, Tryz.ntmps6
    go_wp2_with fail
    refine (szPointS_any _ ha (by omega) (by omega)).mono ?_
    rw [e1]
    rintro e w1 ⟨rfl, hb1⟩
    go_wp2_with fail
    go_ret
    exact ⟨rfl, hb1⟩

end Go.Proofs.YtggjdgjkdmgjnaaGreat
