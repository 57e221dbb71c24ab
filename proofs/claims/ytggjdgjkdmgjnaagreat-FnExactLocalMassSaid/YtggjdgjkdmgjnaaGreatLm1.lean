/- The mass matrix of a corner list: the program's. -/
import Derived.Test.YtggjdgjkdmgjnaaGreatRows
import Derived.Test.YtggjdgjkdmgjnaaGreatLm0
namespace Go.Proofs.YtggjdgjkdmgjnaaGreat

open Go.RowKit

theorem ofFrac_unit (c : Nat) (hc : c = 6 ∨ c = 12) : ofFrac 1 c = raw 1 c ∧ (dig c).length ≤ 24 := by
  have h24 : (dig c).length ≤ 24 := dig_len_le.2 (by rcases hc with rfl | rfl <;> decide)
  refine ⟨?_, h24⟩
  unfold ofFrac
  have hg : Nat.gcd (Int.natAbs 1) c = 1 := Nat.gcd_one_left c
  rw [hg, Nat.div_one, Nat.div_one]
  rw [if_pos ⟨dig_len_le.2 (by decide), h24⟩]
  simp
theorem mul_unit {D : RatD} (c : Nat) (hc : c = 6 ∨ c = 12) : mulR D (ofFrac 1 c) = divR D (ofFrac (c : Int) 1) := by
  obtain ⟨e1, h24⟩ := ofFrac_unit c hc
  have e2 : ofFrac (c : Int) 1 = raw c 1 := ofFrac_int (by omega) (by omega)
  rw [e1, e2]
  have o1 : OkR (raw 1 c) := ⟨1, c, rfl, by omega, Nat.gcd_one_left c, dig_len_le.2 (by decide), h24⟩
  have o2 : OkR (raw (c : Int) 1) := ⟨c, 1, rfl, by omega, Nat.gcd_one_right _, by simpa using h24, dig_len_le.2 (by decide)⟩
  by_cases hD : OkR D
  · unfold mulR divR
    rw [if_pos ⟨hD, o1⟩, if_pos ⟨hD, o2, by rw [rn_raw]; omega⟩, rn_raw, rd_raw, rn_raw, rd_raw, if_neg (by omega)]
    simp
  · unfold mulR divR
    rw [if_neg (fun h => hD h.1), if_neg (fun h => hD h.1)]
theorem massV_mul (D : RatD) (i j : Nat) : massV D i j = if i = j then mulR D (ofFrac 1 ((6 : Int).natAbs)) else mulR D (ofFrac 1 ((12 : Int).natAbs)) := by
  unfold massV
  split
  · exact (mul_unit 6 (.inl rfl)).symm
  · exact (mul_unit 12 (.inr rfl)).symm

set_option maxRecDepth 100000 in
set_option maxHeartbeats 8000000 in
theorem LocalMass_any (w : World) {g n c0 : Nat} {l : List PtD} (h : RdPS w (some ⟨g, 0, none⟩) n c0 l) :
    Calls Tryz.prog 24 #[.slice (some ⟨g, 0, none⟩) n c0] w fun e w' => ∃ A1 n1 c1, e = .returned (.slice A1 n1 c1) ∧ OwSZ 3 34 51 w.heap.size w'.heap.size w' A1 n1 c1 (massL l) ∧ Bl w w' := by
  by_cases hp : propB l = true
  · obtain ⟨_, p0, p1, p2, e, _⟩ := propB_out hp
    subst e
    obtain rfl : 3 = n := h.len
    have hv : massL [p0, p1, p2] = sqIf (massTo (areaR p0 p1 p2) 3) := by unfold massL; rw [if_pos hp]; rfl
    have hv2 := Lib.hid (show areaL [p0, p1, p2] = (areaR p0 p1 p2) by unfold areaL; rw [if_pos hp]; rfl)
    rw [hv]
    clear hv
    have hp := Lib.hid hp; rename_i h_; clear h_
    go_enter Tryz.func24, Tryz.ntmps24
    go_wp2_with fail
    refine (IsProper_any _ h).mono ?_
    rw [hp.out]
    rintro e w1 ⟨rfl, hb1⟩
    go_wp2_with fail
    go_loopw [3, 12] (fun v i wr => ∃ (k hi : Nat), k ≤ 3 ∧ i = .int .i64 (k : Int) ∧ RowS List.Nodup w1.heap.size hi wr v (massTo (areaR p0 p1 p2) k) ∧ Bl w1 wr ∧ w1.heap.size ≤ hi) (fun _ i _ => 3 - (intOf i).toNat)
    case atStart => exact ⟨0, _, by omega, rfl, RowG.empty appN_nodup w1 (Nat.le_refl _), (Bl.refl _).alloc _, by omega⟩
    case round =>
      obtain ⟨k, hi, hk, rfl, hrow, hbw, hlh⟩ := hrel
      have hhi0 := RowG.hiLe hrow
      have hbz := Bl.size hbw
      obtain ⟨wo, rfl⟩ : ∃ wo : World, wo = wr := ⟨_, rfl⟩
      by_cases hk3 : k < 3
      · have hki : (k : Int) < 3 := by omega
        go_wp2_with fail
        go_loopw [5, 16] (fun v2 j wr => ∃ (m hi2 : Nat), m ≤ 3 ∧ j = .int .i64 (m : Int) ∧ RowR List.Nodup wo.heap.size hi2 wr v2 (massRow (areaR p0 p1 p2) k m) ∧ Bl wo wr ∧ wo.heap.size ≤ hi2) (fun _ j _ => 3 - (intOf j).toNat)
        case atStart => exact ⟨0, _, by omega, rfl, RowG.empty appN_nodup wo (Nat.le_refl _), (Bl.refl _).alloc _, by omega⟩
        case round =>
          obtain ⟨m, hi2, hm, rfl, hrow2, hbw2, hlh2⟩ := hrel
          have hhi2 := RowG.hiLe hrow2
          have hbz2 := Bl.size hbw2
          by_cases hm3 : m < 3
          · have hmi : (m : Int) < 3 := by omega
            by_cases hkm : k = m
            · have hV : Hid (massV (areaR p0 p1 p2) k m = divR (areaR p0 p1 p2) (ofFrac 6 1)) := by unfold Hid massV; rw [if_pos hkm]
              have hkd : ((k : Int) == (m : Int)) = true := by simp [hkm]
              have hkm := Lib.hid hkm; rename_i h_; clear h_
              go_wp2_with fail
              refine (area_any _ (RdPS.bl h (hb1.next (hbw.next hbw2)))).mono ?_
              rintro e w2 ⟨s2, A2, n2, c2, B2, m2, d2, rfl, hR2, hb2⟩
              go_wp2_with fail
              refine (RatFromInt_any _ 6 (by omega) (by omega)).mono ?_
              rintro e w3 ⟨s3, A3, n3, c3, B3, m3, d3, rfl, hR3, hb3⟩
              have hz2 := Bl.size hb2
              have hz3 := Bl.size hb3
              go_wp2_with fail
              refine (RatDiv_any _ (hR2.rd.bl hb3) hR3.rd).mono ?_
              rintro e w4 ⟨s4, A4, n4, c4, B4, m4, d4, rfl, hR4, hb4⟩
              have hb5 := ((hbw2.next hb2).next hb3).next hb4
              have hrow4 := RowG.bl (rtIn_keep 3) (RowG.bl (rtIn_keep 3) (RowG.bl (rtIn_keep 3) hrow2 hb2) hb3) hb4
              clear hrow2
              rw [← hV.out] at hR4
              go_wp2_with ((refine wpList_append_rat rfl (.tmp 22) (.tmp 28) rfl _ (by rfl) hrow4 hR4 (by omega) hlh2 1 (by rfl) (by rw [massRow_len]; omega) wo hb5 (Nat.le_refl _) ?_; intro v' w8 hrow' hb8'; clear hrow4 hR4))
              have hz8 := hb8'.size
              rw [← massRow_succ] at hrow'
              go_roundw
              case rel => exact ⟨m + 1, _, by omega, by go_num, hrow', hb8', hz8⟩
              case measure => simp [intOf]; omega
            · have hV : Hid (massV (areaR p0 p1 p2) k m = divR (areaR p0 p1 p2) (ofFrac 12 1)) := by unfold Hid massV; rw [if_neg hkm]
              have hkd : ((k : Int) == (m : Int)) = false := by simp; omega
              have hkm := Lib.hid hkm; rename_i h_; clear h_
              go_wp2_with fail
              refine (area_any _ (RdPS.bl h (hb1.next (hbw.next hbw2)))).mono ?_
              rintro e w2 ⟨s2, A2, n2, c2, B2, m2, d2, rfl, hR2, hb2⟩
              go_wp2_with fail
              refine (RatFromInt_any _ 12 (by omega) (by omega)).mono ?_
              rintro e w3 ⟨s3, A3, n3, c3, B3, m3, d3, rfl, hR3, hb3⟩
              have hz2 := Bl.size hb2
              have hz3 := Bl.size hb3
              go_wp2_with fail
              refine (RatDiv_any _ (hR2.rd.bl hb3) hR3.rd).mono ?_
              rintro e w4 ⟨s4, A4, n4, c4, B4, m4, d4, rfl, hR4, hb4⟩
              have hb5 := ((hbw2.next hb2).next hb3).next hb4
              have hrow4 := RowG.bl (rtIn_keep 3) (RowG.bl (rtIn_keep 3) (RowG.bl (rtIn_keep 3) hrow2 hb2) hb3) hb4
              clear hrow2
              rw [← hV.out] at hR4
              go_wp2_with ((refine wpList_append_rat rfl (.tmp 22) (.tmp 28) rfl _ (by rfl) hrow4 hR4 (by omega) hlh2 1 (by rfl) (by rw [massRow_len]; omega) wo hb5 (Nat.le_refl _) ?_; intro v' w8 hrow' hb8'; clear hrow4 hR4))
              have hz8 := hb8'.size
              rw [← massRow_succ] at hrow'
              go_roundw
              case rel => exact ⟨m + 1, _, by omega, by go_num, hrow', hb8', hz8⟩
              case measure => simp [intOf]; omega
          · obtain rfl : m = 3 := by omega
            obtain ⟨A7, c7, bs7, rfl, hft, hnd, hbs⟩ := RowR.ft hrow2 (by rw [massRow_len]; omega)
            have hrow := RowG.bl (rsIn_keep 3 34) hrow hbw2
            have hb6 := hbw.next hbw2
            go_wp2_with ((refine wpList_append_rats rfl (.tmp 31) (.tmp 33) rfl _ (by rfl) hrow hft hnd (fun b hb => ⟨by have := (hbs b hb).1; omega, Nat.lt_of_lt_of_le (hbs b hb).2 hhi2⟩) hlh 1 (by rfl) (by rw [massTo_len]; omega) w1 hb6 (Nat.le_refl _) ?_; intro v' w8 hrow' hb8'; clear hrow hft))
            have hz8 := hb8'.size
            rw [← massTo_succ] at hrow'
            go_roundw
            case rel => exact ⟨k + 1, _, by omega, by go_num, hrow', hb8', hz8⟩
            case measure => simp [intOf]; omega
      · obtain rfl : k = 3 := by omega
        obtain ⟨A1, c1, rfl, hZ⟩ := RowS.own hrow (by rw [massTo_len]; omega)
        rw [massTo_len] at hZ ⊢
        have hbf := hb1.next hbw
        have hhi3 := RowG.hiLe hrow
        go_wp2_with fail
        refine (ifSquare_any _ hZ.rd (massTo_z _)).mono ?_
        rintro e w7 ⟨⟨hs, rfl⟩ | ⟨hs, rfl⟩, hb7⟩
        · have hv := Lib.hid (show sqIf (massTo (areaR p0 p1 p2) 3) = massTo (areaR p0 p1 p2) 3 from if_pos hs)
          have hs := Lib.hid hs; rename_i h_; clear h_
          go_wp2_with fail
          go_ret
          rw [hv.out]
          exact ⟨_, _, _, rfl, (OwSZ.bl hZ hb7).low (Bl.size hb1) (Nat.le_trans hhi3 (Bl.size hb7)), hbf.next hb7⟩
        · have hv := Lib.hid (show sqIf (massTo (areaR p0 p1 p2) 3) = [] from if_neg hs)
          have hs := Lib.hid hs; rename_i h_; clear h_
          go_wp2_with fail
          go_ret
          rw [hv.out]
          exact ⟨_, _, _, rfl, ⟨rfl, Nat.le_refl _, Nat.zero_le _, .inl rfl⟩, hbf.next hb7⟩
  · have hval := Lib.hid (show massL l = [] by unfold massL; rw [if_neg hp])
    have hp := Lib.hid (Bool.eq_false_iff.2 hp); rename_i h_; clear h_
    go_enter Tryz.func24, Tryz.ntmps24
    go_wp2_with fail
    refine (IsProper_any _ h).mono ?_
    rw [hp.out]
    rintro e w1 ⟨rfl, hb1⟩
    go_wp2_with fail
    go_ret
    rw [hval.out]
    exact ⟨_, _, _, rfl, ⟨rfl, Nat.le_refl _, Nat.zero_le _, .inl rfl⟩, hb1⟩

end Go.Proofs.YtggjdgjkdmgjnaaGreat
