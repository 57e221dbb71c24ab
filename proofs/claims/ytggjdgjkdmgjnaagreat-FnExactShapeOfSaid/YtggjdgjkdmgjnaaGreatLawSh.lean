import Derived.Test.YtggjdgjkdmgjnaaGreatRows
import Derived.Test.YtggjdgjkdmgjnaaGreatSh2
import Derived.Test.YtggjdgjkdmgjnaaGreatMz
namespace Go.Proofs.YtggjdgjkdmgjnaaGreat

open Go.RowKit

theorem len24_divR (r s : RatD) : (divR r s).mag.length ≤ 24 ∧ (divR r s).den.length ≤ 24 := by
  unfold divR
  split
  · exact len24_ofFrac _ _
  · exact len24_zR
theorem len24_shapeL (l : List PtD) : (shapeL l).mag.length ≤ 24 ∧ (shapeL l).den.length ≤ 24 := by
  unfold shapeL
  split
  · exact len24_divR _ _
  · exact len24_zR

set_option maxRecDepth 100000 in
set_option maxHeartbeats 4000000 in
theorem FnExactShapeOf_any (w : World) {A : Option Addr} {n c : Nat} {l : List PtD} (ha : RdPS w A n c l) :
    Calls Tryz.prog 4 #[.slice A n c] w fun e w' => e = .returned (.bool true) ∧ Bl w w' := by
  by_cases s1 : ((szL szP l : Nat) : Int) ≤ 1048576
  · have e1 := lft_yes s1
    have p1 : ¬ 1048576 - ((szL szP l : Nat) : Int) < 0 := by omega
    have hsz : szL szP l ≤ 1048576 := by omega
    have hadv := adv_le ha.len hsz
    have e1 := Lib.hid e1; rename_i h_; clear h_
    go_enter Tryz.func4, Tryz.ntmps4
    go_wp2_with fail
    refine (szPointS_any _ ha (by omega) (by omega)).mono ?_
    rw [e1.out]
    rintro e w1 ⟨rfl, hb1⟩
    have hbb := hb1
    go_wp2_with fail
    refine (toPointS_z _ (RdPS.bl ha hbb) hsz).mono ?_
    rintro e w2 ⟨g2, rfl, hO2, hb2⟩
    replace hbb := hbb.next hb2
    go_wp2_with fail
    refine (sShapeOf_any _ hO2.rd).mono ?_
    rintro e w3 ⟨s3, A3, n3, c3, B3, m3, d3, rfl, hR3, hb3⟩
    replace hR3 := hR3.rd
    clear hO2
    replace hbb := hbb.next hb3
    go_wp2_with fail
    have z3 := hbb.size
    refine (toPointS_z _ (RdPS.bl ha (hbb.alloc _)) hsz).mono ?_
    rintro e w4 ⟨g4, rfl, hO4, hb4⟩
    have hs : Bl (w3.alloc (.cells #[.bool s3, .slice A3 n3 c3, .slice B3 m3 d3] 34)) w4 := hb4
    replace hb4 := ((Bl.refl w3).alloc _).next hb4
    replace hbb := hbb.next hb4
    have z4 : w3.heap.size + 1 ≤ w4.heap.size := by have := hs.size; simp at this; omega
    replace hO4 := hO4.low (lo' := w3.heap.size + 1) (by simp) (Nat.le_refl _)
    go_wp2_with fail
    refine (ShapeOf_any _ hO4.rd).mono ?_
    rintro e w5 ⟨s5, A5, n5, c5, B5, m5, d5, rfl, hR5, hb5⟩
    have z5 := hb5.size
    replace hR5 := OwX.of hR5
    replace hO4 := hO4.bl hb5
    replace hbb := hbb.next hb5
    replace hs := hs.next hb5
    have hx3 : Blk _ w3.heap.size 34 #[.bool s3, .slice A3 n3 c3, .slice B3 m3 d3] := ((Blk.new w3 _ _).bl hs).alloc (.cells #[.bool s5, .slice A5 n5 c5, .slice B5 m5 d5] 34)
    obtain ⟨i30, i31, i32⟩ := bx3 hx3
    go_wp2_with fail
    refine (eqRat_any _ (hR5.rd.alloc _) (((hR3.alloc _).bl hs).alloc _)).mono ?_
    rintro e w6 ⟨rfl, hb6⟩
    clear hx3 i30 i31 i32
    have hx5 : Blk w6 w5.heap.size 34 #[.bool s5, .slice A5 n5 c5, .slice B5 m5 d5] := (Blk.new _ _ _).bl hb6
    replace hb6 := ((Bl.refl w5).alloc _).next hb6
    replace hO4 := hO4.bl hb6
    replace hR5 := hR5.bl hb6
    replace hbb := hbb.next hb6
    replace hs := hs.next hb6
    have z6 : w5.heap.size + 1 ≤ w6.heap.size := hx5.lt
    go_wp2_with fail
    refine (toPointS_z _ (RdPS.bl ha hbb) hsz).mono ?_
    rintro e w7 ⟨g7, rfl, hO7, hb7⟩
    replace hO4 := hO4.bl hb7
    replace hR5 := hR5.bl hb7
    replace hx5 := hx5.bl hb7
    replace hbb := hbb.next hb7
    replace hs := hs.next hb7
    go_wp2_with fail
    refine (eqPointS_any _ hO4.rd hO7.rd).mono ?_
    rintro e w8 ⟨rfl, hb8⟩
    clear hO7
    replace hO4 := hO4.bl hb8
    replace hR5 := hR5.bl hb8
    replace hx5 := hx5.bl hb8
    replace hbb := hbb.next hb8
    replace hs := hs.next hb8
    go_wp2_with fail
    refine (markPointS_z _ hO4 hsz (by omega) (by omega)).mono ?_
    rintro e w9 ⟨rfl, -, bs9, hs9, hO9⟩
    clear hO4
    replace hR5 := hR5.ob hO9 (fun b hm => by have := hs9 b hm; omega)
    replace hx5 := hx5.ob hO9 (fun hm => by have := hs9 _ hm; omega)
    replace hbb := hbb.ob hO9 (fun b hm => by have := hs9 b hm; omega)
    replace hs := hs.ob hO9 (fun b hm => by have := hs9 b hm; simp; omega)
    clear hs9 hO9
    have hK : ¬ 1 + (sumTo adv l n : Int) < 0 := by omega
    have hx3 : Blk _ w3.heap.size 34 #[.bool s3, .slice A3 n3 c3, .slice B3 m3 d3] := (Blk.new w3 _ _).bl hs
    obtain ⟨i30, i31, i32⟩ := bx3 hx3
    obtain ⟨i50, i51, i52⟩ := bx3 hx5
    go_wp2_with fail
    refine (eqRat_any _ hR5.rd ((hR3.alloc _).bl hs)).mono ?_
    rintro e w10 ⟨rfl, hb10⟩
    clear i50 i51 i52
    clear hx3 i30 i31 i32
    replace hR5 := hR5.bl hb10
    replace hx5 := hx5.bl hb10
    replace hbb := hbb.next hb10
    replace hs := hs.next hb10
    obtain ⟨bs11, hF5, hf5⟩ := hR5
    have h24 := len24_shapeL l
    have l5 := Lib.hid hF5.rd.mag.len
    have l5' := Lib.hid hF5.rd.den.len
    have hn5 : n5 ≤ 1048576 := by rw [← l5.out]; omega
    have hm5 : m5 ≤ 1048576 := by rw [← l5'.out]; omega
    obtain ⟨i50, i51, i52⟩ := bx3 hx5
    go_wp2_with fail
    refine (markRat_any _ hF5 hf5.1 hn5 hm5 (by omega) (by omega)).mono ?_
    rintro e w11 ⟨rfl, hA11, hB11, hO11⟩
    clear i50 i51 i52
    have hs11 := hf5.2
    replace hx5 := hx5.ob hO11 (fun hm => by have := hs11 _ hm; omega)
    replace hbb := hbb.ob hO11 (fun b hm => by have := hs11 b hm; omega)
    replace hs := hs.ob hO11 (fun b hm => by have := hs11 b hm; simp; omega)
    clear hs11 hO11 hF5
    have hq : ¬ 1 + (n5 : Int) + (m5 : Int) < 0 := by omega
    obtain ⟨i50, i51, i52⟩ := bx3 hx5
    go_wp2_with fail
    refine (heldRat_any _ hA11 hB11 hn5 hm5 (by omega) (by omega)).mono ?_
    rintro e w12 ⟨rfl, hb12⟩
    clear i50 i51 i52
    replace hx5 := hx5.bl hb12
    replace hA11 := hA11.bl hb12
    replace hB11 := hB11.bl hb12
    replace hbb := hbb.next hb12
    replace hs := hs.next hb12
    go_wp2_with fail
    refine (toPointS_z _ (RdPS.bl ha hbb) hsz).mono ?_
    rintro e w13 ⟨g13, rfl, hO13, hb13⟩
    have z13 := hb13.size
    replace hx5 := hx5.bl hb13
    replace hA11 := hA11.bl hb13
    replace hB11 := hB11.bl hb13
    replace hbb := hbb.next hb13
    replace hs := hs.next hb13
    go_wp2_with fail
    refine (ShapeOf_any _ hO13.rd).mono ?_
    rintro e w14 ⟨s14, A14, n14, c14, B14, m14, d14, rfl, hR14, hb14⟩
    have z14 := hb14.size
    replace hR14 := hR14.rd
    clear hO13
    replace hx5 := hx5.bl hb14
    replace hA11 := hA11.bl hb14
    replace hB11 := hB11.bl hb14
    replace hbb := hbb.next hb14
    replace hs := hs.next hb14
    have hx3 : Blk _ w3.heap.size 34 #[.bool s3, .slice A3 n3 c3, .slice B3 m3 d3] := ((Blk.new w3 _ _).bl hs).alloc (.cells #[.bool s14, .slice A14 n14 c14, .slice B14 m14 d14] 34)
    obtain ⟨i30, i31, i32⟩ := bx3 hx3
    go_wp2_with fail
    refine (eqRat_any _ (hR14.alloc _) (((hR3.alloc _).bl hs).alloc _)).mono ?_
    rintro e w15 ⟨rfl, hb15⟩
    replace hb15 := ((Bl.refl w14).alloc _).next hb15
    clear hx3 i30 i31 i32
    replace hx5 := hx5.bl hb15
    replace hA11 := hA11.bl hb15
    replace hB11 := hB11.bl hb15
    replace hbb := hbb.next hb15
    replace hs := hs.next hb15
    obtain ⟨i50, i51, i52⟩ := bx3 hx5
    go_wp2_with fail
    refine (heldRat_any _ hA11 hB11 hn5 hm5 (by omega) (by omega)).mono ?_
    rintro e w16 ⟨rfl, hb16⟩
    replace hbb := hbb.next hb16
    clear i50 i51 i52
    go_wp2_with fail
    go_ret
    exact ⟨rfl, hbb⟩
  · have e1 := lft_no s1
    go_enter Tryz.func4, Tryz.ntmps4
    go_wp2_with fail
    refine (szPointS_any _ ha (by omega) (by omega)).mono ?_
    rw [e1]
    rintro e w1 ⟨rfl, hb1⟩
    go_wp2_with fail
    go_ret
    exact ⟨rfl, hb1⟩

end Go.Proofs.YtggjdgjkdmgjnaaGreat
