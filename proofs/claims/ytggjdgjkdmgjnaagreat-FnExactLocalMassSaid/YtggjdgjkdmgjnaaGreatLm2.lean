/- The mass matrix of a corner list: the reference's. -/
import Derived.Test.YtggjdgjkdmgjnaaGreatRows
import Derived.Test.YtggjdgjkdmgjnaaGreatLm1
namespace Go.Proofs.YtggjdgjkdmgjnaaGreat

open Go.RowKit

set_option maxRecDepth 100000 in
set_option maxHeartbeats 8000000 in
theorem sLocalMass_any (w : World) {g n c0 : Nat} {l : List PtD} (h : RdPS w (some ⟨g, 0, none⟩) n c0 l) :
    Calls Tryz.prog 23 #[.slice (some ⟨g, 0, none⟩) n c0] w fun e w' => ∃ A1 n1 c1, e = .returned (.slice A1 n1 c1) ∧ RdRSS w' A1 n1 c1 (massL l) ∧ Bl w w' := by
  by_cases hp : propB l = true
  · obtain ⟨_, p0, p1, p2, e, _⟩ := propB_out hp
    subst e
    obtain rfl : 3 = n := h.len
    have hv : massL [p0, p1, p2] = sqIf (massTo (areaR p0 p1 p2) 3) := by unfold massL; rw [if_pos hp]; rfl
    have hv2 := Lib.hid (show areaL [p0, p1, p2] = (areaR p0 p1 p2) by unfold areaL; rw [if_pos hp]; rfl)
    rw [hv]
    clear hv
    have hp := Lib.hid hp; rename_i h_; clear h_
    go_enter Tryz.func23, Tryz.ntmps23
    go_wp2_with fail
    refine (sIsProper_any _ h).mono ?_
    rw [hp.out]
    rintro e w1 ⟨rfl, hb1⟩
    go_wp2_with fail
    refine (sAreaOf_any _ (RdPS.bl h hb1)).mono ?_
    rintro e w2 ⟨s9, A9, n9, c9, B9, m9, d9, rfl, hR9, hb2⟩
    rw [hv2.out] at hR9
    go_wp2_with fail
    refine wp_gen (fun W => ∃ Wa : World, W = Wa.alloc (.cells #[] 51) ∧ Bl w Wa ∧ Blk Wa w2.heap.size 34 #[.bool s9, .slice A9 n9 c9, .slice B9 m9 d9] ∧ RdR Wa s9 A9 n9 c9 B9 m9 d9 (areaR p0 p1 p2) ∧ Wa.heap.size = w2.heap.size + 1) ⟨_, rfl, slc, Blk.new _ _ _, hR9.rd.bl slc, by simp⟩ ?_
    clear hR9 hb2
    rintro _ ⟨wa, rfl, hba, qa, hRa, hsw⟩
    rw [← hsw]
    clear hsw
    go_loopw [4, 5] (fun v i wr => ∃ (k hi : Nat), k ≤ 3 ∧ i = .int .i64 (k : Int) ∧ RowS List.Nodup wa.heap.size hi wr v (massTo (areaR p0 p1 p2) k) ∧ Bl wa wr ∧ wa.heap.size ≤ hi) (fun _ i _ => 3 - (intOf i).toNat)
    case atStart => exact ⟨0, wa.heap.size + 1, by omega, rfl, RowG.empty appN_nodup wa (Nat.le_refl _), (Bl.refl _).alloc _, by omega⟩
    case round =>
      obtain ⟨k, hi, hk, rfl, hrow, hbw, hlh⟩ := hrel
      have hhi0 := RowG.hiLe hrow
      have hbz := Bl.size hbw
      obtain ⟨wo, rfl⟩ : ∃ wo : World, wo = wr := ⟨_, rfl⟩
      by_cases hk3 : k < 3
      · have hki : (k : Int) < 3 := by omega
        go_wp2_with fail
        go_loopw [6, 7] (fun v2 j wr => ∃ (m hi2 : Nat), m ≤ 3 ∧ j = .int .i64 (m : Int) ∧ RowR List.Nodup wo.heap.size hi2 wr v2 (massRow (areaR p0 p1 p2) k m) ∧ Bl wo wr ∧ wo.heap.size ≤ hi2) (fun _ j _ => 3 - (intOf j).toNat)
        case atStart => exact ⟨0, _, by omega, rfl, RowG.empty appN_nodup wo (Nat.le_refl _), (Bl.refl _).alloc _, by omega⟩
        case round =>
          obtain ⟨m, hi2, hm, rfl, hrow2, hbw2, hlh2⟩ := hrel
          have hhi2 := RowG.hiLe hrow2
          have hbz2 := Bl.size hbw2
          by_cases hm3 : m < 3
          · have hmi : (m : Int) < 3 := by omega
            by_cases hkm : k = m
            · have hV : Hid (massV (areaR p0 p1 p2) k m = mulR (areaR p0 p1 p2) (ofFrac 1 ((6 : Int).natAbs))) := by unfold Hid; rw [massV_mul, if_pos hkm]
              have hkd : ((k : Int) == (m : Int)) = true := by simp [hkm]
              have hkm := Lib.hid hkm; rename_i h_; clear h_
              have hb6 := hbw.next hbw2
              go_wp2_with fail
              go_region_held3 (fun w' => (w'.cell? ⟨w2.heap.size, 0, none⟩ = some (.bool s9) ∧ w'.cell? ⟨w2.heap.size, 1, none⟩ = some (.slice A9 n9 c9) ∧ w'.cell? ⟨w2.heap.size, 2, none⟩ = some (.slice B9 m9 d9))) (first | exact (bx3 (T := 34) (qa.bl slc))) (first | (go_at_call 81; (with_reducible refine (sRatOf_any _ 1 6 (by omega) (by omega) (by omega) (by omega)).mono ?_); rintro e w3 ⟨s3, A3, n3, c3, B3, m3, d3, rfl, hR3, hb3⟩) | (go_at_call 80; (with_reducible refine (sRatMul_any _ (hRa.bl slc) hR3.rd).mono ?_); rintro e w4 ⟨s4, A4, n4, c4, B4, m4, d4, rfl, hR4, hb4⟩; (have hz3 := Bl.size hb3); (have hrow4 := RowG.bl (rtIn_keep 3) hrow2 (show Bl wr w4 from slc)); (have hb5 : Bl wo w4 := slc); rw [← hV.out] at hR4) | (refine step_append_rat rfl (.tmp 27) (.tmp 32) rfl _ (by rfl) hrow4 hR4 (Nat.le_trans hhi2 (Bl.size (show Bl wr w3 from slc))) hlh2 1 (by rfl) (by rw [massRow_len]; omega) wo hb5 (Nat.le_refl _) ?_; intro v' w8 hrow' hb8'; clear hrow4 hR4))
              have hz8 := hb8'.size
              rw [← massRow_succ] at hrow'
              go_wp2_with fail
              go_roundw
              case rel => exact ⟨m + 1, _, by omega, by go_num, hrow', hb8', hz8⟩
              case measure => simp [intOf]; omega
            · have hV : Hid (massV (areaR p0 p1 p2) k m = mulR (areaR p0 p1 p2) (ofFrac 1 ((12 : Int).natAbs))) := by unfold Hid; rw [massV_mul, if_neg hkm]
              have hkd : ((k : Int) == (m : Int)) = false := by simp; omega
              have hkm := Lib.hid hkm; rename_i h_; clear h_
              have hb6 := hbw.next hbw2
              go_wp2_with fail
              go_region_held3 (fun w' => (w'.cell? ⟨w2.heap.size, 0, none⟩ = some (.bool s9) ∧ w'.cell? ⟨w2.heap.size, 1, none⟩ = some (.slice A9 n9 c9) ∧ w'.cell? ⟨w2.heap.size, 2, none⟩ = some (.slice B9 m9 d9))) (first | exact (bx3 (T := 34) (qa.bl slc))) (first | (go_at_call 81; (with_reducible refine (sRatOf_any _ 1 12 (by omega) (by omega) (by omega) (by omega)).mono ?_); rintro e w3 ⟨s3, A3, n3, c3, B3, m3, d3, rfl, hR3, hb3⟩) | (go_at_call 80; (with_reducible refine (sRatMul_any _ (hRa.bl slc) hR3.rd).mono ?_); rintro e w4 ⟨s4, A4, n4, c4, B4, m4, d4, rfl, hR4, hb4⟩; (have hz3 := Bl.size hb3); (have hrow4 := RowG.bl (rtIn_keep 3) hrow2 (show Bl wr w4 from slc)); (have hb5 : Bl wo w4 := slc); rw [← hV.out] at hR4) | (refine step_append_rat rfl (.tmp 27) (.tmp 32) rfl _ (by rfl) hrow4 hR4 (Nat.le_trans hhi2 (Bl.size (show Bl wr w3 from slc))) hlh2 1 (by rfl) (by rw [massRow_len]; omega) wo hb5 (Nat.le_refl _) ?_; intro v' w8 hrow' hb8'; clear hrow4 hR4))
              have hz8 := hb8'.size
              rw [← massRow_succ] at hrow'
              go_wp2_with fail
              go_roundw
              case rel => exact ⟨m + 1, _, by omega, by go_num, hrow', hb8', hz8⟩
              case measure => simp [intOf]; omega
          · obtain rfl : m = 3 := by omega
            obtain ⟨A7, c7, bs7, rfl, hft, hnd, hbs⟩ := RowR.ft hrow2 (by rw [massRow_len]; omega)
            have hrow := RowG.bl (rsIn_keep 3 34) hrow hbw2
            have hb6 := hbw.next hbw2
            go_wp2_with ((refine wpList_append_rats rfl (.tmp 34) (.tmp 36) rfl _ (by rfl) hrow hft hnd (fun b hb => ⟨by have := (hbs b hb).1; omega, Nat.lt_of_lt_of_le (hbs b hb).2 hhi2⟩) hlh 1 (by rfl) (by rw [massTo_len]; omega) wa hb6 (Nat.le_refl _) ?_; intro v' w8 hrow' hb8'; clear hrow hft))
            have hz8 := hb8'.size
            rw [← massTo_succ] at hrow'
            go_roundw
            case rel => exact ⟨k + 1, _, by omega, by go_num, hrow', hb8', hz8⟩
            case measure => simp [intOf]; omega
      · obtain rfl : k = 3 := by omega
        obtain ⟨A1, c1, rfl, hZ⟩ := RowS.own hrow (by rw [massTo_len]; omega)
        rw [massTo_len] at hZ ⊢
        have hbf := hba.next hbw
        have hhi3 := RowG.hiLe hrow
        go_wp2_with fail
        refine (l12Full_any _ hZ.rd).mono ?_
        rintro e w7 ⟨⟨hs, rfl⟩ | ⟨hs, rfl⟩, hb7⟩
        · have hv := Lib.hid (show sqIf (massTo (areaR p0 p1 p2) 3) = massTo (areaR p0 p1 p2) 3 from if_pos hs)
          have hs := Lib.hid hs; rename_i h_; clear h_
          go_wp2_with fail
          go_ret
          rw [hv.out]
          exact ⟨_, _, _, rfl, RdRSS.bl hZ.rd hb7, hbf.next hb7⟩
        · have hv := Lib.hid (show sqIf (massTo (areaR p0 p1 p2) 3) = [] from if_neg hs)
          have hs := Lib.hid hs; rename_i h_; clear h_
          go_wp2_with fail
          go_ret
          rw [hv.out]
          exact ⟨_, _, _, rfl, RdS.nil _ _ _, hbf.next hb7⟩
  · have hval := Lib.hid (show massL l = [] by unfold massL; rw [if_neg hp])
    have hp := Lib.hid (Bool.eq_false_iff.2 hp); rename_i h_; clear h_
    go_enter Tryz.func23, Tryz.ntmps23
    go_wp2_with fail
    refine (sIsProper_any _ h).mono ?_
    rw [hp.out]
    rintro e w1 ⟨rfl, hb1⟩
    go_wp2_with fail
    go_ret
    rw [hval.out]
    exact ⟨_, _, _, rfl, RdS.nil _ _ _, hb1⟩

end Go.Proofs.YtggjdgjkdmgjnaaGreat
