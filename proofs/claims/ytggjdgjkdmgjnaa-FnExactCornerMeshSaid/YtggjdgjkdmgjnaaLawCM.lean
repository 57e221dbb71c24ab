/- The law about CornerMesh, walked. -/
import Derived.Test.YtggjdgjkdmgjnaaRows
import Derived.Test.YtggjdgjkdmgjnaaCm2
import Derived.Test.YtggjdgjkdmgjnaaEqM
namespace Go.Proofs.Ytggjdgjkdmgjnaa

open Go.RowKit

theorem cPt_sz (k : Nat) : szP (cPt k) ≤ 96 := by
  have h1 := len24_ofFrac (cX k) 1
  have h2 := len24_ofFrac (cY k) 1
  show szR (ofFrac _ _) + szR (ofFrac _ _) ≤ 96
  simp only [szR]
  omega
theorem cMesh_sz : szL szP cMesh.points ≤ 1048576 := by
  show szL szP (cPts 8) ≤ 1048576
  unfold szL
  rw [cPts_len]
  have e0 : pix (cPts 8) 0 = cPt 0 := rfl
  have h0 := cPt_sz 0
  have e1 : pix (cPts 8) 1 = cPt 1 := rfl
  have h1 := cPt_sz 1
  have e2 : pix (cPts 8) 2 = cPt 2 := rfl
  have h2 := cPt_sz 2
  have e3 : pix (cPts 8) 3 = cPt 3 := rfl
  have h3 := cPt_sz 3
  have e4 : pix (cPts 8) 4 = cPt 4 := rfl
  have h4 := cPt_sz 4
  have e5 : pix (cPts 8) 5 = cPt 5 := rfl
  have h5 := cPt_sz 5
  have e6 : pix (cPts 8) 6 = cPt 6 := rfl
  have h6 := cPt_sz 6
  have e7 : pix (cPts 8) 7 = cPt 7 := rfl
  have h7 := cPt_sz 7
  simp only [sumTo, e0, e1, e2, e3, e4, e5, e6, e7]
  omega

set_option maxRecDepth 100000 in
set_option maxHeartbeats 4000000 in
theorem FnExactCornerMesh_any (w : World)  :
    Calls Try.prog 4 #[] w fun e w' => e = .returned (.bool true) ∧ Bl w w' := by
  have hsz := cMesh_sz
  go_enter Try.func4, Try.ntmps4
  go_wp2_with fail
  refine (sCornerMesh_any _).mono ?_
  rintro e w1 ⟨A1, n1, c1, B1, m1, d1, rfl, hP1, hT1, hbb⟩
  have hz0 := Bl.size hbb
  go_wp2_with fail
  refine calls_gen (fun W => Blk W w1.heap.size 31 #[.slice A1 n1 c1, .slice B1 m1 d1] ∧ Bl w1 W) ⟨Blk.new _ _ _, slc⟩ ?_
  rintro W1 ⟨hx1, hs⟩
  have hbb := hbb.next hs
  have hzw := hx1.lt
  refine (CornerMesh_any _).mono ?_
  rintro e w2 ⟨A2, n2, c2, B2, m2, d2, rfl, hO2, hb2⟩
  have hx1 := hx1.bl hb2
  have hbb := hbb.next hb2
  have hs := hs.next hb2
  have hz2 := hx1.lt
  have hz3 := Bl.size hb2
  clear hb2
  obtain ⟨i0, i1⟩ := bx2 hx1
  go_wp2_with fail
  refine calls_gen (fun W => Blk W w2.heap.size 31 #[.slice A2 n2 c2, .slice B2 m2 d2] ∧ Bl w2 W) ⟨Blk.new _ _ _, slc⟩ ?_
  rintro W2 ⟨hx2, hb2⟩
  have hz4 := hx2.lt
  have hx1 := hx1.bl hb2
  have hbb := hbb.next hb2
  have hs := hs.next hb2
  have hO2 := hO2.bl hb2
  clear hb2 i0 i1
  refine (eqMesh_any _ (x := cMesh) hO2.rdP hO2.rdT (RdPS.bl hP1 hs) (RdTS.bl hT1 hs)).mono ?_
  rintro e w3 ⟨rfl, hb3⟩
  have hx1 := hx1.bl hb3
  have hx2 := hx2.bl hb3
  have hbb := hbb.next hb3
  have hs := hs.next hb3
  have hO2 := hO2.bl hb3
  clear hb3
  have hn2 := Lib.hid hO2.1
  have hn2b := hO2.2.2.2.2.1
  have hm2b := hO2.2.2.2.2.2.1
  have hadv := adv_le hO2.1 hsz
  obtain ⟨i0, i1⟩ := bx2 hx2
  go_wp2_with fail
  refine (markMesh_x _ hO2 hsz (by omega) (by omega)).mono ?_
  rintro e w4 ⟨rfl, hA4, hB4, bs, hbs, hO4⟩
  have hx1 := hx1.ob hO4 (fun hm => by have := hbs _ hm; omega)
  have hx2 := hx2.ob hO4 (fun hm => by have := hbs _ hm; omega)
  have hbb := hbb.ob hO4 (fun b hm => by have := hbs b hm; omega)
  have hs := hs.ob hO4 (fun b hm => by have := hbs b hm; omega)
  clear hO2 hO4 hbs i0 i1
  obtain ⟨i0, i1⟩ := bx2 hx2
  go_wp2_with fail
  refine (heldMesh_any _ hA4 hB4 hn2.out hn2b hm2b hsz (by omega) (by omega)).mono ?_
  rintro e w5 ⟨rfl, hb5⟩
  have hx1 := hx1.bl hb5
  have hx2 := hx2.bl hb5
  have hbb := hbb.next hb5
  have hs := hs.next hb5
  have hA4 := RdPS.bl hA4 hb5
  have hB4 := RdTS.bl hB4 hb5
  clear hb5 i0 i1
  have hq : ¬ 1 + (sumTo adv (cMesh).points n2 : Int) + 5 * (m2 : Int) < 0 := by omega
  go_wp2_with fail
  refine (CornerMesh_any _).mono ?_
  rintro e w6 ⟨A6, n6, c6, B6, m6, d6, rfl, hO6, hb6⟩
  have hx1 := hx1.bl hb6
  have hx2 := hx2.bl hb6
  have hbb := hbb.next hb6
  have hs := hs.next hb6
  have hA4 := RdPS.bl hA4 hb6
  have hB4 := RdTS.bl hB4 hb6
  clear hb6
  have hz5 := hx1.lt
  have hz6 := hx2.lt
  obtain ⟨i0, i1⟩ := bx2 hx1
  go_wp2_with fail
  refine calls_gen (fun W => Bl w6 W) slc ?_
  intro W6 hb6
  have hx2 := hx2.bl hb6
  have hbb := hbb.next hb6
  have hs := hs.next hb6
  have hA4 := RdPS.bl hA4 hb6
  have hB4 := RdTS.bl hB4 hb6
  have hO6 := hO6.bl hb6
  clear hb6 i0 i1
  refine (eqMesh_any _ (x := cMesh) hO6.rdP hO6.rdT (RdPS.bl hP1 hs) (RdTS.bl hT1 hs)).mono ?_
  rintro e w7 ⟨rfl, hb7⟩
  have hx2 := hx2.bl hb7
  have hbb := hbb.next hb7
  have hA4 := RdPS.bl hA4 hb7
  have hB4 := RdTS.bl hB4 hb7
  clear hb7 hO6
  obtain ⟨i0, i1⟩ := bx2 hx2
  go_wp2_with fail
  refine (heldMesh_any _ hA4 hB4 hn2.out hn2b hm2b hsz (by omega) (by omega)).mono ?_
  rintro e w8 ⟨rfl, hb8⟩
  have hbb := hbb.next hb8
  go_wp2_with fail
  go_ret
  exact ⟨rfl, hbb⟩

end Go.Proofs.Ytggjdgjkdmgjnaa
