-- merged: Ls1 Ls2
import Derived.Test.YtggjdgjkdmgjnaaGreatRows
import Derived.Test.YtggjdgjkdmgjnaaGreatGr3
import Derived.Test.YtggjdgjkdmgjnaaGreatLm1
import Derived.Test.YtggjdgjkdmgjnaaGreatRw3
namespace Go.Proofs.YtggjdgjkdmgjnaaGreat
open Go.RowKit
section


theorem mulR_z (r s : RatD) : mulR r s = zR ∨ OkR (mulR r s) := by
  unfold mulR
  split
  · rename_i h
    exact ofFrac_ok (Nat.mul_pos h.1.get.2.1 h.2.get.2.1)
  · exact .inl rfl
theorem mulR_24 (r s : RatD) : (mulR r s).mag.length ≤ 24 ∧ (mulR r s).den.length ≤ 24 := by
  unfold mulR
  split
  · exact len24_ofFrac _ _
  · exact len24_zR
noncomputable def stifV (D : RatD) (G : List PtD) (i j : Nat) : RatD := mulR D (innP (pix G i) (pix G j))
noncomputable def stifRow (D : RatD) (G : List PtD) (i k : Nat) : List RatD := (List.range k).map (stifV D G i)
noncomputable def stifTo (D : RatD) (G : List PtD) (k : Nat) : List (List RatD) := (List.range k).map fun i => stifRow D G i 3
open Classical in
/-- The stiffness matrix of a proper corner list. -/
noncomputable def stifP (p0 p1 p2 : PtD) : List (List RatD) := if GradOk p0 p1 p2 3 then sqIf (stifTo (areaR p0 p1 p2) (gradTo p0 p1 p2 3) 3) else []
noncomputable def stifL (l : List PtD) : List (List RatD) := if propB l = true then stifP (pix l 0) (pix l 1) (pix l 2) else []
theorem stifRow_succ (D : RatD) (G : List PtD) (i k : Nat) : stifRow D G i (k + 1) = stifRow D G i k ++ [stifV D G i k] := by unfold stifRow; rw [List.range_succ, List.map_append]; rfl
theorem stifRow_len (D : RatD) (G : List PtD) (i k : Nat) : (stifRow D G i k).length = k := by simp [stifRow]
theorem stifTo_succ (D : RatD) (G : List PtD) (k : Nat) : stifTo D G (k + 1) = stifTo D G k ++ [stifRow D G k 3] := by unfold stifTo; rw [List.range_succ, List.map_append]; rfl
theorem stifTo_len (D : RatD) (G : List PtD) (k : Nat) : (stifTo D G k).length = k := by simp [stifTo]
theorem stifTo_z (D : RatD) (G : List PtD) : ZOk (stifTo D G 3) := by
  intro i hi
  rw [stifTo_len] at hi
  have e : pix (stifTo D G 3) i = stifRow D G i 3 := by simp [pix, stifTo, hi]
  rw [e, stifRow_len]
  refine ⟨by omega, fun j hj => ?_⟩
  have e2 : pix (stifRow D G i 3) j = stifV D G i j := by simp [pix, stifRow, hj]
  rw [e2]
  exact mulR_z _ _
theorem stifL_sz (l : List PtD) : (stifL l).length ≤ 8 ∧ ∀ i, i < (stifL l).length → szL szR (pix (stifL l) i) ≤ 1048576 := by
  have h0 : (([] : List (List RatD)).length ≤ 8 ∧ ∀ i, i < ([] : List (List RatD)).length → szL szR (pix ([] : List (List RatD)) i) ≤ 1048576) := ⟨Nat.zero_le _, fun i hi => by simp at hi⟩
  have h1 : ∀ D G, (stifTo D G 3).length ≤ 8 ∧ ∀ i, i < (stifTo D G 3).length → szL szR (pix (stifTo D G 3) i) ≤ 1048576 := by
    intro D G
    rw [stifTo_len]
    refine ⟨by omega, fun i hi => ?_⟩
    have e : pix (stifTo D G 3) i = stifRow D G i 3 := by simp [pix, stifTo, hi]
    rw [e]
    refine szL_24 (by rw [stifRow_len]; omega) fun j hj => ?_
    rw [stifRow_len] at hj
    have e2 : pix (stifRow D G i 3) j = stifV D G i j := by simp [pix, stifRow, hj]
    rw [e2]
    exact mulR_24 _ _
  unfold stifL stifP sqIf
  split
  · split
    · split
      · exact h1 _ _
      · exact h0
    · exact h0
  · exact h0

set_option maxRecDepth 100000 in
set_option maxHeartbeats 8000000 in
theorem LocalStiffness_any (w : World) {g n c0 : Nat} {l : List PtD} (h : RdPS w (some ⟨g, 0, none⟩) n c0 l) :
    Calls Tryz.prog 29 #[.slice (some ⟨g, 0, none⟩) n c0] w fun e w' => ∃ A1 n1 c1, e = .returned (.slice A1 n1 c1) ∧ OwSZ 3 34 51 w.heap.size w'.heap.size w' A1 n1 c1 (stifL l) ∧ Bl w w' := by
  by_cases hp : propB l = true
  · obtain ⟨_, p0, p1, p2, e, _⟩ := propB_out hp
    subst e
    obtain rfl : 3 = n := h.len
    have hv : stifL [p0, p1, p2] = stifP p0 p1 p2 := by unfold stifL; rw [if_pos hp]; rfl
    have hv1 := Lib.hid (show gradL [p0, p1, p2] = gradP p0 p1 p2 by unfold gradL; rw [if_pos hp]; rfl)
    have hv2 := Lib.hid (show areaL [p0, p1, p2] = (areaR p0 p1 p2) by unfold areaL; rw [if_pos hp]; rfl)
    rw [hv]
    clear hv
    have hp := Lib.hid hp; rename_i h_; clear h_
    go_enter Tryz.func29, Tryz.ntmps29
    go_wp2_with fail
    refine (Gradients_any _ h).mono ?_
    rw [hv1.out]
    rintro e w2 ⟨Ag, ng, cg, rfl, hZ, hnil, hb1⟩
    by_cases ho : GradOk p0 p1 p2 3
    · skip
      have hgv : gradP p0 p1 p2 = (gradTo p0 p1 p2 3) := if_pos ho
      have hval := Lib.hid (show stifP p0 p1 p2 = sqIf (stifTo (areaR p0 p1 p2) (gradTo p0 p1 p2 3) 3) from if_pos ho)
      rw [hgv] at hZ
      have hGl : (gradTo p0 p1 p2 3).length = 3 := gradTo_len _ _ _ _
      have ho := Lib.hid ho; rename_i h_; clear h_
      have hng := hZ.rd.len
      obtain rfl : ng = 3 := hng.symm.trans hGl
      clear hng hgv hnil hGl
      have hG := hZ.rd
      clear hZ
      generalize (gradTo p0 p1 p2 3) = G at hG hval
      obtain ⟨ag, ea, _, _⟩ := hG.cells 0 (by omega)
      subst ea
      have hnb : ∀ W : World, Sem.run Tryz.prog (binOp BinOp.eql 24 (.slice (some ag) 3 cg) (.slice none 0 0)) W = .ok (.bool false) W := fun _ => by kernel_rfl
      go_wp2_with fail
      clear hnb
      go_loopw [4, 17] (fun v i wr => ∃ (k hi : Nat), k ≤ 3 ∧ i = .int .i64 (k : Int) ∧ RowS List.Nodup w2.heap.size hi wr v (stifTo (areaR p0 p1 p2) G k) ∧ Bl w2 wr ∧ w2.heap.size ≤ hi) (fun _ i _ => 3 - (intOf i).toNat)
      case atStart => exact ⟨0, w2.heap.size + 1, by omega, rfl, RowG.empty appN_nodup w2 (Nat.le_refl _), (Bl.refl _).alloc _, by omega⟩
      case round =>
        obtain ⟨k, hi, hk, rfl, hrow, hbw, hlh⟩ := hrel
        have hhi0 := RowG.hiLe hrow
        have hbz := Bl.size hbw
        obtain ⟨wo, rfl⟩ : ∃ wo : World, wo = wr := ⟨_, rfl⟩
        by_cases hk3 : k < 3
        · have hki : (k : Int) < 3 := by omega
          obtain ⟨ad1, ea1, hl1, hat1⟩ := (RdPS.bl hG hbw).cells k (by omega)
          cases ea1
          obtain ⟨s1, A1, n1, c1, B1, m1, d1, t1, C1, i1, e1, D1, j1, f1, ⟨x10, x11, x12, x13, x14, x15⟩, hX1, hY1⟩ := hat1
          go_wp2_with fail
          refine wp_gen (fun W => ∃ Wo : World, W = Wo.alloc (.cells #[] 34) ∧ Bl wo Wo ∧ Blk Wo wo.heap.size 45 #[.bool s1, .slice A1 n1 c1, .slice B1 m1 d1, .bool t1, .slice C1 i1 e1, .slice D1 j1 f1] ∧ Wo.heap.size = wo.heap.size + 1) ⟨_, rfl, slc, Blk.new _ _ _, by simp⟩ ?_
          rintro _ ⟨wp, rfl, hbp, qp, hsw⟩
          rw [← hsw]
          have hX1 := hX1.bl hbp
          have hY1 := hY1.bl hbp
          clear x10 x11 x12 x13 x14 x15 hl1
          have hbwp := hbw.next hbp
          have hgp : wo.heap.size < wp.heap.size := by omega
          clear hsw
          go_loopw [7, 24] (fun v2 j wr2 => ∃ (m hi2 : Nat), m ≤ 3 ∧ j = .int .i64 (m : Int) ∧ RowR List.Nodup wp.heap.size hi2 wr2 v2 (stifRow (areaR p0 p1 p2) G k m) ∧ Bl wp wr2 ∧ wp.heap.size ≤ hi2) (fun _ j _ => 3 - (intOf j).toNat)
          case atStart => exact ⟨0, wp.heap.size + 1, by omega, rfl, RowG.empty appN_nodup wp (Nat.le_refl _), (Bl.refl _).alloc _, by omega⟩
          case round =>
            obtain ⟨m, hi2, hm, rfl, hrow2, hbw2, hlh2⟩ := hrel
            have hhi2 := RowG.hiLe hrow2
            have hbz2 := Bl.size hbw2
            by_cases hm3 : m < 3
            · have hmi : (m : Int) < 3 := by omega
              obtain ⟨ad2, ea2, hl2, hat2⟩ := (RdPS.bl hG (hbwp.next hbw2)).cells m (by omega)
              cases ea2
              obtain ⟨s2, A2, n2, c2, B2, m2, d2, t2, C2, i2, e2, D2, j2, f2, ⟨x20, x21, x22, x23, x24, x25⟩, hX2, hY2⟩ := hat2
              go_wp2_with fail
              obtain ⟨wo2, rfl⟩ : ∃ wo2 : World, wo2 = wr := ⟨_, rfl⟩
              refine wp_gen (fun W => Bl wo2 W ∧ Blk W wo2.heap.size 45 #[.bool s2, .slice A2 n2 c2, .slice B2 m2 d2, .bool t2, .slice C2 i2 e2, .slice D2 j2 f2]) ⟨slc, Blk.new _ _ _⟩ ?_
              rintro wr ⟨hbq, qq⟩
              have hX2 := hX2.bl hbq
              have hY2 := hY2.bl hbq
              clear x20 x21 x22 x23 x24 x25 hl2
              have qp2 := (qp.bl hbw2).bl hbq
              have hX1 := (hX1.bl hbw2).bl hbq
              have hY1 := (hY1.bl hbw2).bl hbq
              have hrow2 := RowG.bl (rtIn_keep 3) hrow2 hbq
              have hhi20 := hhi2
              have hhi2 := Nat.le_trans hhi2 (Bl.size hbq)
              have hbwr : Bl w wr := ((hb1.next hbwp).next hbw2).next hbq
              have hbow : Bl wp wr := hbw2.next hbq
              clear hbw2 hbq
              go_region_held3 (fun w' => (w'.cell? ⟨wo.heap.size, 0, none⟩ = some (.bool s1) ∧ w'.cell? ⟨wo.heap.size, 1, none⟩ = some (.slice A1 n1 c1) ∧ w'.cell? ⟨wo.heap.size, 2, none⟩ = some (.slice B1 m1 d1) ∧ w'.cell? ⟨wo.heap.size, 3, none⟩ = some (.bool t1) ∧ w'.cell? ⟨wo.heap.size, 4, none⟩ = some (.slice C1 i1 e1) ∧ w'.cell? ⟨wo.heap.size, 5, none⟩ = some (.slice D1 j1 f1)) ∧ (w'.cell? ⟨wo2.heap.size, 0, none⟩ = some (.bool s2) ∧ w'.cell? ⟨wo2.heap.size, 1, none⟩ = some (.slice A2 n2 c2) ∧ w'.cell? ⟨wo2.heap.size, 2, none⟩ = some (.slice B2 m2 d2) ∧ w'.cell? ⟨wo2.heap.size, 3, none⟩ = some (.bool t2) ∧ w'.cell? ⟨wo2.heap.size, 4, none⟩ = some (.slice C2 i2 e2) ∧ w'.cell? ⟨wo2.heap.size, 5, none⟩ = some (.slice D2 j2 f2))) (first | exact ⟨bx6 (T := 45) (qp2.bl slc), bx6 (T := 45) (qq.bl slc)⟩) (first | (go_at_call 83; (with_reducible refine (area_any _ (RdPS.bl h slc)).mono ?_); rintro e w2' ⟨s2', A2', n2', c2', B2', m2', d2', rfl, hR2, hb2⟩) | (go_at_call 74; (with_reducible refine (Inner_any _ (hX1.bl slc) (hY1.bl slc) (hX2.bl slc) (hY2.bl slc)).mono ?_); rintro e w3' ⟨s3', A3', n3', c3', B3', m3', d3', rfl, hR3, hb3⟩) | (go_at_call 88; (with_reducible refine (RatMul_any _ (hR2.rd.bl slc) (hR3.rd.bl slc)).mono ?_); rintro e w4 ⟨s4, A4, n4, c4, B4, m4, d4, rfl, hR4, hb4⟩; (have hrow4 := RowG.bl (rtIn_keep 3) hrow2 (show Bl wr w4 from slc))) | ((have qq4 := (show Blk w4 wo2.heap.size 45 #[.bool s2, .slice A2 n2 c2, .slice B2 m2 d2, .bool t2, .slice C2 i2 e2, .slice D2 j2 f2] from qq.bl slc)); (have hz3 : hi2 ≤ w3'.heap.size := Nat.le_trans hhi2 (Bl.size (show Bl wr w3' from slc))); (have hb5 : Bl wp w4 := slc); refine step_append_ratX rfl (.tmp 28) (.tmp 35) rfl _ (by rfl) hrow4 hR4 hz3 hlh2 1 (by rfl) (by rw [stifRow_len]; omega) wp hb5 (Nat.le_refl _) ?_; intro v' w8 hrow' hb8' hoth; (have qq := Blk.oth qq4 hoth (RowG.ne hrow2 hhi20)); (have qp2 := qp.bl hb8'); clear hrow4 hR4 hoth qq4))
              have hz8 := hb8'.size
              rw [show stifRow (areaR p0 p1 p2) G k m ++ [mulR (areaR p0 p1 p2) (innP (pix G k) (pix G m))] = stifRow (areaR p0 p1 p2) G k (m + 1) from (stifRow_succ _ _ _ _).symm] at hrow'
              go_wp2_with fail
              go_roundw
              case rel => exact ⟨m + 1, _, by omega, by go_num, hrow', hb8', hz8⟩
              case measure => simp [intOf]; omega
            · skip
              obtain rfl : m = 3 := by omega
              obtain ⟨A7, c7, bs7, rfl, hft, hnd, hbs⟩ := RowR.ft hrow2 (by rw [stifRow_len]; omega)
              have hrow := RowG.bl (rsIn_keep 3 34) hrow (hbp.next hbw2)
              have hb6 := hbwp.next hbw2
              go_wp2_with ((refine wpList_append_rats rfl (.tmp 38) (.tmp 40) rfl _ (by rfl) hrow hft hnd (fun b hb => ⟨by have := (hbs b hb).1; omega, Nat.lt_of_lt_of_le (hbs b hb).2 hhi2⟩) hlh 1 (by rfl) (by rw [stifTo_len]; omega) w2 hb6 (Nat.le_refl _) ?_; intro v' w8 hrow' hb8'; clear hrow hft))
              have hz8 := hb8'.size
              rw [← stifTo_succ] at hrow'
              go_roundw
              case rel => exact ⟨k + 1, _, by omega, by go_num, hrow', hb8', hz8⟩
              case measure => simp [intOf]; omega
        · skip
          obtain rfl : k = 3 := by omega
          obtain ⟨A1, c1, rfl, hZ⟩ := RowS.own hrow (by rw [stifTo_len]; omega)
          rw [stifTo_len] at hZ ⊢
          have hbf := hb1.next hbw
          have hhi3 := RowG.hiLe hrow
          go_wp2_with fail
          refine (ifSquare_any _ hZ.rd (stifTo_z _ _)).mono ?_
          rintro e w7 ⟨⟨hs, rfl⟩ | ⟨hs, rfl⟩, hb7⟩
          · have hv := Lib.hid (show sqIf (stifTo (areaR p0 p1 p2) G 3) = stifTo (areaR p0 p1 p2) G 3 from if_pos hs)
            have hs := Lib.hid hs; rename_i h_; clear h_
            go_wp2_with fail
            go_ret
            rw [hval.out, hv.out]
            exact ⟨_, _, _, rfl, (OwSZ.bl hZ hb7).low (Bl.size hb1) (Nat.le_trans hhi3 (Bl.size hb7)), hbf.next hb7⟩
          · have hv := Lib.hid (show sqIf (stifTo (areaR p0 p1 p2) G 3) = [] from if_neg hs)
            have hs := Lib.hid hs; rename_i h_; clear h_
            go_wp2_with fail
            go_ret
            rw [hval.out, hv.out]
            exact ⟨_, _, _, rfl, ⟨rfl, Nat.le_refl _, Nat.zero_le _, .inl rfl⟩, hbf.next hb7⟩
    · skip
      have hval := Lib.hid (show stifP p0 p1 p2 = [] from if_neg ho)
      have hgv : gradP p0 p1 p2 = [] := if_neg ho
      rw [hgv] at hZ
      obtain rfl : 0 = ng := hZ.rd.len
      obtain ⟨rfl, rfl⟩ := hnil rfl
      have ho := Lib.hid ho; rename_i h_; clear h_
      clear hgv hZ hnil
      have hnb : ∀ W : World, Sem.run Tryz.prog (binOp BinOp.eql 24 (.slice none 0 0) (.slice none 0 0)) W = .ok (.bool true) W := fun _ => by kernel_rfl
      go_wp2_with fail
      go_ret
      rw [hval.out]
      exact ⟨_, _, _, rfl, ⟨rfl, Nat.le_refl _, Nat.zero_le _, .inl rfl⟩, hb1⟩
  · have hval := Lib.hid (show stifL l = [] by unfold stifL; rw [if_neg hp])
    have hgn := Lib.hid (show gradL l = [] by unfold gradL; rw [if_neg hp])
    have hp := Lib.hid (Bool.eq_false_iff.2 hp); rename_i h_; clear h_
    go_enter Tryz.func29, Tryz.ntmps29
    go_wp2_with fail
    refine (Gradients_any _ h).mono ?_
    rw [hgn.out]
    rintro e w2 ⟨Ag, ng, cg, rfl, hZ, hnil, hb1⟩
    obtain rfl : 0 = ng := hZ.rd.len
    obtain ⟨rfl, rfl⟩ := hnil rfl
    clear hZ hnil
    have hnb : ∀ W : World, Sem.run Tryz.prog (binOp BinOp.eql 24 (.slice none 0 0) (.slice none 0 0)) W = .ok (.bool true) W := fun _ => by kernel_rfl
    go_wp2_with fail
    go_ret
    rw [hval.out]
    exact ⟨_, _, _, rfl, ⟨rfl, Nat.le_refl _, Nat.zero_le _, .inl rfl⟩, hb1⟩


end

section


set_option maxRecDepth 100000 in
set_option maxHeartbeats 8000000 in
theorem sLocalStiffness_any (w : World) {g n c0 : Nat} {l : List PtD} (h : RdPS w (some ⟨g, 0, none⟩) n c0 l) :
    Calls Tryz.prog 28 #[.slice (some ⟨g, 0, none⟩) n c0] w fun e w' => ∃ A1 n1 c1, e = .returned (.slice A1 n1 c1) ∧ RdRSS w' A1 n1 c1 (stifL l) ∧ Bl w w' := by
  by_cases hp : propB l = true
  · obtain ⟨_, p0, p1, p2, e, _⟩ := propB_out hp
    subst e
    obtain rfl : 3 = n := h.len
    have hv : stifL [p0, p1, p2] = stifP p0 p1 p2 := by unfold stifL; rw [if_pos hp]; rfl
    have hv1 := Lib.hid (show gradL [p0, p1, p2] = gradP p0 p1 p2 by unfold gradL; rw [if_pos hp]; rfl)
    have hv2 := Lib.hid (show areaL [p0, p1, p2] = (areaR p0 p1 p2) by unfold areaL; rw [if_pos hp]; rfl)
    rw [hv]
    clear hv
    have hp := Lib.hid hp; rename_i h_; clear h_
    go_enter Tryz.func28, Tryz.ntmps28
    go_wp2_with fail
    refine (sIsProper_any _ h).mono ?_
    rw [hp.out]
    rintro e w1 ⟨rfl, hb0⟩
    go_wp2_with fail
    refine (sGradients_three _ (RdPS.bl h hb0) hp).mono ?_
    rintro e w2 ⟨Ag, ng, cg, rfl, hZ, hnil, hb2⟩
    have hb1 := hb0.next hb2
    go_wp2_with fail
    refine (sAreaOf_any _ (RdPS.bl h hb1)).mono ?_
    rintro e w3 ⟨s9, A9, n9, c9, B9, m9, d9, rfl, hR9, hb3⟩
    rw [hv2.out] at hR9
    have hZ := OwPZ.bl hZ hb3
    have hb1 := hb1.next hb3
    by_cases ho : GradOk p0 p1 p2 3
    · skip
      have hgv : gradP p0 p1 p2 = (gradTo p0 p1 p2 3) := if_pos ho
      have hval := Lib.hid (show stifP p0 p1 p2 = sqIf (stifTo (areaR p0 p1 p2) (gradTo p0 p1 p2 3) 3) from if_pos ho)
      rw [hgv] at hZ
      have hGl : (gradTo p0 p1 p2 3).length = 3 := gradTo_len _ _ _ _
      have ho := Lib.hid ho; rename_i h_; clear h_
      have hng := hZ.rd.len
      obtain rfl : ng = 3 := hng.symm.trans hGl
      clear hng hgv hnil hGl
      have hG := hZ.rd
      clear hZ
      generalize (gradTo p0 p1 p2 3) = G at hG hval
      obtain ⟨ag, ea, _, _⟩ := hG.cells 0 (by omega)
      subst ea
      go_wp2_with fail
      refine wp_gen (fun W => ∃ Wa : World, W = Wa.alloc (.cells #[] 51) ∧ Bl w Wa ∧ Blk Wa w3.heap.size 34 #[.bool s9, .slice A9 n9 c9, .slice B9 m9 d9] ∧ RdR Wa s9 A9 n9 c9 B9 m9 d9 (areaR p0 p1 p2) ∧ RdPS Wa (some ag) 3 cg G ∧ Wa.heap.size = w3.heap.size + 1) ⟨_, rfl, slc, Blk.new _ _ _, hR9.rd.bl slc, RdPS.bl hG slc, by simp⟩ ?_
      clear hR9 hG
      rintro _ ⟨wa, rfl, hba, qa, hRa, hG, hsw⟩
      rw [← hsw]
      clear hsw
      go_loopw [5, 19] (fun v i wr => ∃ (k hi : Nat), k ≤ 3 ∧ i = .int .i64 (k : Int) ∧ RowS List.Nodup wa.heap.size hi wr v (stifTo (areaR p0 p1 p2) G k) ∧ Bl wa wr ∧ wa.heap.size ≤ hi) (fun _ i _ => 3 - (intOf i).toNat)
      case atStart => exact ⟨0, wa.heap.size + 1, by omega, rfl, RowG.empty appN_nodup wa (Nat.le_refl _), (Bl.refl _).alloc _, by omega⟩
      case round =>
        obtain ⟨k, hi, hk, rfl, hrow, hbw, hlh⟩ := hrel
        have hhi0 := RowG.hiLe hrow
        have hbz := Bl.size hbw
        obtain ⟨wo, rfl⟩ : ∃ wo : World, wo = wr := ⟨_, rfl⟩
        by_cases hk3 : k < 3
        · have hki : (k : Int) < 3 := by omega
          go_wp2_with fail
          go_loopw [7, 25] (fun v2 j wr2 => ∃ (m hi2 : Nat), m ≤ 3 ∧ j = .int .i64 (m : Int) ∧ RowR List.Nodup wo.heap.size hi2 wr2 v2 (stifRow (areaR p0 p1 p2) G k m) ∧ Bl wo wr2 ∧ wo.heap.size ≤ hi2) (fun _ j _ => 3 - (intOf j).toNat)
          case atStart => exact ⟨0, wo.heap.size + 1, by omega, rfl, RowG.empty appN_nodup wo (Nat.le_refl _), (Bl.refl _).alloc _, by omega⟩
          case round =>
            obtain ⟨m, hi2, hm, rfl, hrow2, hbw2, hlh2⟩ := hrel
            have hhi2 := RowG.hiLe hrow2
            have hbz2 := Bl.size hbw2
            by_cases hm3 : m < 3
            · have hmi : (m : Int) < 3 := by omega
              obtain ⟨ad1, ea1, hl1, hat1⟩ := (RdPS.bl hG hbw).cells k (by omega)
              cases ea1
              obtain ⟨s1, A1, n1, c1, B1, m1, d1, t1, C1, i1, e1, D1, j1, f1, ⟨x10, x11, x12, x13, x14, x15⟩, hX1, hY1⟩ := hat1
              obtain ⟨ad2, ea2, hl2, hat2⟩ := (RdPS.bl hG hbw).cells m (by omega)
              cases ea2
              obtain ⟨s2, A2, n2, c2, B2, m2, d2, t2, C2, i2, e2, D2, j2, f2, ⟨x20, x21, x22, x23, x24, x25⟩, hX2, hY2⟩ := hat2
              have hl1 : (ag.add (k * 6)).block < wo.heap.size := by rw [block_add]; exact hl1
              have hl2 : (ag.add (m * 6)).block < wo.heap.size := by rw [block_add]; exact hl2
              have hbow : Bl wo wr := hbw2
              have qa2 := qa.bl hbw
              have hRa := hRa.bl hbw
              clear hbw2
              go_wp2_with fail
              go_region_held3 (fun w' => (w'.cell? ⟨w3.heap.size, 0, none⟩ = some (.bool s9) ∧ w'.cell? ⟨w3.heap.size, 1, none⟩ = some (.slice A9 n9 c9) ∧ w'.cell? ⟨w3.heap.size, 2, none⟩ = some (.slice B9 m9 d9)) ∧ (w'.cell? (ag.add (k * 6)) = some (.bool s1) ∧ w'.cell? ⟨(ag.add (k * 6)).block, (ag.add (k * 6)).off + 1, none⟩ = some (.slice A1 n1 c1) ∧ w'.cell? ⟨(ag.add (k * 6)).block, (ag.add (k * 6)).off + 2, none⟩ = some (.slice B1 m1 d1) ∧ w'.cell? ⟨(ag.add (k * 6)).block, (ag.add (k * 6)).off + 3, none⟩ = some (.bool t1) ∧ w'.cell? ⟨(ag.add (k * 6)).block, (ag.add (k * 6)).off + 4, none⟩ = some (.slice C1 i1 e1) ∧ w'.cell? ⟨(ag.add (k * 6)).block, (ag.add (k * 6)).off + 5, none⟩ = some (.slice D1 j1 f1)) ∧ (w'.cell? (ag.add (m * 6)) = some (.bool s2) ∧ w'.cell? ⟨(ag.add (m * 6)).block, (ag.add (m * 6)).off + 1, none⟩ = some (.slice A2 n2 c2) ∧ w'.cell? ⟨(ag.add (m * 6)).block, (ag.add (m * 6)).off + 2, none⟩ = some (.slice B2 m2 d2) ∧ w'.cell? ⟨(ag.add (m * 6)).block, (ag.add (m * 6)).off + 3, none⟩ = some (.bool t2) ∧ w'.cell? ⟨(ag.add (m * 6)).block, (ag.add (m * 6)).off + 4, none⟩ = some (.slice C2 i2 e2) ∧ w'.cell? ⟨(ag.add (m * 6)).block, (ag.add (m * 6)).off + 5, none⟩ = some (.slice D2 j2 f2))) (first | exact ⟨bx3 (T := 34) (qa2.bl slc), ⟨(Bl.cellOf (w := wo) (p := (ag.add (k * 6))) slc hl1).trans x10, (Bl.cellOf (w := wo) (p := ⟨(ag.add (k * 6)).block, (ag.add (k * 6)).off + 1, none⟩) slc hl1).trans x11, (Bl.cellOf (w := wo) (p := ⟨(ag.add (k * 6)).block, (ag.add (k * 6)).off + 2, none⟩) slc hl1).trans x12, (Bl.cellOf (w := wo) (p := ⟨(ag.add (k * 6)).block, (ag.add (k * 6)).off + 3, none⟩) slc hl1).trans x13, (Bl.cellOf (w := wo) (p := ⟨(ag.add (k * 6)).block, (ag.add (k * 6)).off + 4, none⟩) slc hl1).trans x14, (Bl.cellOf (w := wo) (p := ⟨(ag.add (k * 6)).block, (ag.add (k * 6)).off + 5, none⟩) slc hl1).trans x15⟩, ⟨(Bl.cellOf (w := wo) (p := (ag.add (m * 6))) slc hl2).trans x20, (Bl.cellOf (w := wo) (p := ⟨(ag.add (m * 6)).block, (ag.add (m * 6)).off + 1, none⟩) slc hl2).trans x21, (Bl.cellOf (w := wo) (p := ⟨(ag.add (m * 6)).block, (ag.add (m * 6)).off + 2, none⟩) slc hl2).trans x22, (Bl.cellOf (w := wo) (p := ⟨(ag.add (m * 6)).block, (ag.add (m * 6)).off + 3, none⟩) slc hl2).trans x23, (Bl.cellOf (w := wo) (p := ⟨(ag.add (m * 6)).block, (ag.add (m * 6)).off + 4, none⟩) slc hl2).trans x24, (Bl.cellOf (w := wo) (p := ⟨(ag.add (m * 6)).block, (ag.add (m * 6)).off + 5, none⟩) slc hl2).trans x25⟩⟩) (first | (go_at_call 71; (with_reducible refine (sInner_any _ (hX1.bl slc) (hY1.bl slc) (hX2.bl slc) (hY2.bl slc)).mono ?_); rintro e w3' ⟨s3', A3', n3', c3', B3', m3', d3', rfl, hR3, hb3⟩) | (go_at_call 80; (with_reducible refine (sRatMul_any _ (hRa.bl slc) (hR3.rd.bl slc)).mono ?_); rintro e w4 ⟨s4, A4, n4, c4, B4, m4, d4, rfl, hR4, hb4⟩; (have hrow4 := RowG.bl (rtIn_keep 3) hrow2 (show Bl wr w4 from slc))) | ((have hz3 : hi2 ≤ w3'.heap.size := Nat.le_trans hhi2 (Bl.size (show Bl wr w3' from slc))); (have hb5 : Bl wo w4 := slc); refine step_append_ratX rfl (.tmp 28) (.tmp 40) rfl _ (by rfl) hrow4 hR4 hz3 hlh2 1 (by rfl) (by rw [stifRow_len]; omega) wo hb5 (Nat.le_refl _) ?_; intro v' w8 hrow' hb8' hoth; clear hrow4 hR4 hoth))
              have hz8 := hb8'.size
              rw [show stifRow (areaR p0 p1 p2) G k m ++ [mulR (areaR p0 p1 p2) (innP (pix G k) (pix G m))] = stifRow (areaR p0 p1 p2) G k (m + 1) from (stifRow_succ _ _ _ _).symm] at hrow'
              go_wp2_with fail
              go_roundw
              case rel => exact ⟨m + 1, _, by omega, by go_num, hrow', hb8', hz8⟩
              case measure => simp [intOf]; omega
            · skip
              obtain rfl : m = 3 := by omega
              obtain ⟨A7, c7, bs7, rfl, hft, hnd, hbs⟩ := RowR.ft hrow2 (by rw [stifRow_len]; omega)
              have hrow := RowG.bl (rsIn_keep 3 34) hrow hbw2
              have hb6 := hbw.next hbw2
              go_wp2_with ((refine wpList_append_rats rfl (.tmp 43) (.tmp 45) rfl _ (by rfl) hrow hft hnd (fun b hb => ⟨by have := (hbs b hb).1; omega, Nat.lt_of_lt_of_le (hbs b hb).2 hhi2⟩) hlh 1 (by rfl) (by rw [stifTo_len]; omega) wa hb6 (Nat.le_refl _) ?_; intro v' w8 hrow' hb8'; clear hrow hft))
              have hz8 := hb8'.size
              rw [← stifTo_succ] at hrow'
              go_roundw
              case rel => exact ⟨k + 1, _, by omega, by go_num, hrow', hb8', hz8⟩
              case measure => simp [intOf]; omega
        · skip
          obtain rfl : k = 3 := by omega
          obtain ⟨A1, c1, rfl, hZ⟩ := RowS.own hrow (by rw [stifTo_len]; omega)
          rw [stifTo_len] at hZ ⊢
          have hbf := hba.next hbw
          have hhi3 := RowG.hiLe hrow
          go_wp2_with fail
          refine (l12Full_any _ hZ.rd).mono ?_
          rintro e w7 ⟨⟨hs, rfl⟩ | ⟨hs, rfl⟩, hb7⟩
          · have hv := Lib.hid (show sqIf (stifTo (areaR p0 p1 p2) G 3) = stifTo (areaR p0 p1 p2) G 3 from if_pos hs)
            have hs := Lib.hid hs; rename_i h_; clear h_
            go_wp2_with fail
            go_ret
            rw [hval.out, hv.out]
            exact ⟨_, _, _, rfl, RdRSS.bl hZ.rd hb7, hbf.next hb7⟩
          · have hv := Lib.hid (show sqIf (stifTo (areaR p0 p1 p2) G 3) = [] from if_neg hs)
            have hs := Lib.hid hs; rename_i h_; clear h_
            go_wp2_with fail
            go_ret
            rw [hval.out, hv.out]
            exact ⟨_, _, _, rfl, RdS.nil _ _ _, hbf.next hb7⟩
    · skip
      have hval := Lib.hid (show stifP p0 p1 p2 = [] from if_neg ho)
      have hgv : gradP p0 p1 p2 = [] := if_neg ho
      rw [hgv] at hZ
      obtain rfl : 0 = ng := hZ.rd.len
      obtain ⟨rfl, rfl⟩ := hnil rfl
      have ho := Lib.hid ho; rename_i h_; clear h_
      clear hgv hZ hnil
      go_wp2_with fail
      refine wp_gen (fun W => ∃ Wa : World, W = Wa.alloc (.cells #[] 51) ∧ Bl w Wa ∧ Wa.heap.size = w3.heap.size + 1) ⟨_, rfl, slc, by simp⟩ ?_
      clear hR9 hb1
      rintro _ ⟨wa, rfl, hba, hsw⟩
      rw [← hsw]
      clear hsw
      go_loopw [5, 19] (fun v i wr => v = .slice (some ⟨wa.heap.size, 0, none⟩) 0 0 ∧ i = .int .i64 0 ∧ Bl w wr) (fun _ _ _ => 0)
      case atStart => exact ⟨rfl, rfl, slc⟩
      case round =>
        obtain ⟨rfl, rfl, hbw⟩ := hrel
        go_wp2_with fail
        refine (l12Full_any _ (L := []) (RdS.nil _ _ _)).mono ?_
        rintro e w7 ⟨⟨hs, rfl⟩ | ⟨hs, rfl⟩, hb7⟩ <;> (clear hs; go_wp2_with fail; go_ret; rw [hval.out]; exact ⟨_, _, _, rfl, RdS.nil _ _ _, hbw.next hb7⟩)
  · have hval := Lib.hid (show stifL l = [] by unfold stifL; rw [if_neg hp])
    have hgn := Lib.hid (show gradL l = [] by unfold gradL; rw [if_neg hp])
    have hp := Lib.hid (Bool.eq_false_iff.2 hp); rename_i h_; clear h_
    go_enter Tryz.func28, Tryz.ntmps28
    go_wp2_with fail
    refine (sIsProper_any _ h).mono ?_
    rw [hp.out]
    rintro e w1 ⟨rfl, hb1⟩
    go_wp2_with fail
    go_ret
    rw [hval.out]
    exact ⟨_, _, _, rfl, RdS.nil _ _ _, hb1⟩


end

end Go.Proofs.YtggjdgjkdmgjnaaGreat
