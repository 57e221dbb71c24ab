/- Lemmas. -/
import Derived.Test.YtajlahjghapbkaaGreatRows
import Derived.Test.YtajlahjghapbkaaGreatPProlongM39
import Derived.Test.YtajlahjghapbkaaGreatPProlongM40
namespace Go.Proofs.YtajlahjghapbkaaGreat
section
open Go.RowKit

theorem lin_eq {l : List (Rat × Rat)} {j : Nat} (h : j < l.length) (hs : Sm2 (pix l j)) : eqR (pix (linL l) j) (addR (tp (pix l j)).x (mulR (ofFrac 2 1) (tp (pix l j)).y)) = true := by
  show eqR (pix (linL l) j) (addR (toR (pix l j).1) (mulR (ofFrac 2 1) (toR (pix l j).2))) = true
  rw [(lin_ok hs).1, show pix (linL l) j = toR (linQ (pix l j)) by simp [pix, linL, h]]
  exact eqR_self' _
theorem RasL.ok {l : List RatD} (h : RasL l) : AllOk l := fun k hk => by
  obtain ⟨q, e, b⟩ := h k hk
  rw [e]
  exact (b.fit (by decide)).ok
theorem linL_len (l : List (Rat × Rat)) : (linL l).length = l.length := by simp [linL]
theorem lin_step {l : List (Rat × Rat)} {j : Nat} (h : j < l.length) (hs : Sm2 (pix l j)) : linL (l.take (j + 1)) = linL (l.take j) ++ [addR (toR (pix l j).1) (mulR (ofFrac 2 1) (toR (pix l j).2))] := by
  rw [(lin_ok hs).1, List.take_add_one]
  unfold linL
  rw [List.map_append, List.getElem?_eq_getElem h]
  simp [pix, h]
theorem MeAt.ps {w : World} {gp n cp gt k ct : Nat} {m : MeQ} (h : MeAt w (.agg #[.slice (some ⟨gp, 0, none⟩) n cp, .slice (some ⟨gt, 0, none⟩) k ct]) m) : RdPS w (some ⟨gp, 0, none⟩) n cp (m.pts.map tp) := by
  obtain ⟨_, _, _, _, _, _, e, h, _⟩ := h
  cases e
  exact h

set_option maxRecDepth 100000 in
set_option maxHeartbeats 32000000 in
theorem FnProlong_any (w0 : World) {Ac : Option Addr} {nc cc : Nat} {lc : List Int} (hc : RdB w0 Ac nc cc lc) :
    Calls Tryz.prog 10 #[.slice Ac nc cc] w0 fun e w' => e = .returned (.bool true) ∧ Bl w0 w' := by
  have hn := hc.small
  by_cases hbig : (nc : Int) > 1048576
  · go_enter Tryz.func10, Tryz.ntmps10
    go_wp2_with fail
    go_ret
    exact ⟨rfl, slc⟩
  · have hsmall : ¬ 1048576 < (nc : Int) := hbig
    go_enter Tryz.func10, Tryz.ntmps10
    go_wp2_with fail
    refine (MakeCoarse_any _ hc).mono ?_
    rintro e w1 ⟨_, m, rfl, hm, hO1, hb1⟩
    obtain ⟨gp1, n1, cp1, gt1, m1, ct1, rfl, hP1, hT1⟩ := hO1.1
    go_upto_region 4 with (fail)
    refine wp_gen (fun W => Bl w1 W ∧ ∃ g3, Blk W g3 57 #[.slice (some ⟨gp1, 0, none⟩) n1 cp1, .slice (some ⟨gt1, 0, none⟩) m1 ct1] ∧ g3 = w1.heap.size) ⟨slc, _, by exact bts, rfl⟩ ?_
    rintro W1 ⟨hbW, g3, h3, hg3⟩
    rw [← hg3]
    have hP1 := RdPS.bl hP1 hbW
    have hT1 := RdTS.bl hT1 hbW
    have hbw := hb1.next hbW
    have hMe1 : MeAt W1 (.agg #[.slice (some ⟨gp1, 0, none⟩) n1 cp1, .slice (some ⟨gt1, 0, none⟩) m1 ct1]) m := ⟨gp1, n1, cp1, gt1, m1, ct1, rfl, hP1, hT1⟩
    have hang := Lib.hid (ref_ok hm [])
    have hmH := Lib.hid hm
    clear hm
    clear hg3 hbW hb1 hO1 hT1
    go_cut [4, 5] (fun s4 s5 wx => ∃ (g4 gp2 n2 cp2 gt2 m2 ct2 : Nat) (l : List Int), s4 = .pointer (some ⟨g4, 0, none⟩) ∧ s5 = .bool true ∧ Blk wx g4 57 #[.slice (some ⟨gp2, 0, none⟩) n2 cp2, .slice (some ⟨gt2, 0, none⟩) m2 ct2] ∧ MeAt wx (.agg #[.slice (some ⟨gp2, 0, none⟩) n2 cp2, .slice (some ⟨gt2, 0, none⟩) m2 ct2]) (bisM m (emA m.tris l)) ∧ Bl W1 wx)
    case first =>
      go_region_held3 (fun w' => (w'.cell? ⟨g3, 0, none⟩ = some (.slice (some ⟨gp1, 0, none⟩) n1 cp1) ∧ w'.cell? ⟨g3, 1, none⟩ = some (.slice (some ⟨gt1, 0, none⟩) m1 ct1))) (first | exact bx2 (T := 57) (h3.bl slc)) (first | (go_at_call 46; refine (MakeSome_any _ 3 (by omega) (RdB.bl hc (hbw.next slc))).mono ?_; rintro e w2 ⟨A4, n4, c4, l, rfl, hl, hSo, hb2⟩; (have hz2 : W1.heap.size ≤ w2.heap.size := Bl.size (by exact slc)); (first | have hq : Wk 2 57 _ _ := wk_newd hb2 | have hq : Wk 2 57 _ _ := wk_new hb2 | have hq : Wk 2 57 _ _ := Wk.bl hq hb2 | skip)) | (go_at_call 47; refine (RefineMesh_yes _ (MeAt.bl hMe1 slc) hang.out.fit (RdI.bl hl slc) (by have h1 := hSo.1; have h2 := hl.len; omega) (ref_ok hmH.out l).fitX.ok).mono ?_; rintro e w3 ⟨_, rfl, hO2, hb3⟩; (obtain ⟨gp2, n2, cp2, gt2, m2, ct2, rfl, hP2, hT2⟩ := hO2.1); (have hz3 : W1.heap.size ≤ w3.heap.size := Bl.size (by exact slc)); (first | have hq : Wk 2 57 _ _ := wk_newd hb3 | have hq : Wk 2 57 _ _ := wk_new hb3 | have hq : Wk 2 57 _ _ := Wk.bl hq hb3 | skip); (try obtain ⟨⟨q0, q1⟩, fz0, fz1⟩ := hq.out2)))
      · go_wp2_with fail
        go_meet
        exact ⟨w3.heap.size, gp2, n2, cp2, gt2, m2, ct2, l, rfl, rfl, Blk.new _ _ _, MeAt.bl hO2.1 slc, slc⟩
      · go_wp2_with fail
        go_meet
        exact ⟨w2.heap.size, gp2, n2, cp2, gt2, m2, ct2, l, rfl, rfl, Wk.put2 hq _ _, (MeOw.setLow (MeOw.setLow hO2 (q := ⟨w2.heap.size, 0, none⟩) (by simp) _) (q := ⟨w2.heap.size, 1, none⟩) (by simp) _).1, slc⟩
      · go_wp2_with fail
        go_meet
        have hlt : W1.heap.size < w2.heap.size := by have := Bl.size hb2; simp at this; omega
        exact ⟨W1.heap.size, gp2, n2, cp2, gt2, m2, ct2, l, rfl, rfl, Wk.put2 hq _ _, (MeOw.setLow (MeOw.setLow hO2 (q := ⟨W1.heap.size, 0, none⟩) hlt _) (q := ⟨W1.heap.size, 1, none⟩) hlt _).1, slc⟩
    case rest =>
      obtain ⟨g4, gp2, n2, cp2, gt2, m2, ct2, l, rfl, rfl, h4, hMe2, hbc⟩ := hcut
      obtain ⟨W2, rfl⟩ : ∃ W2 : World, W2 = wc := ⟨_, rfl⟩
      have hA := Lib.hid (ref_ok hmH.out l)
      have hRm := Lib.hid (rm_ok hmH.out l)
      obtain ⟨X, hX⟩ : ∃ X, bisM m (emA m.tris l) = X := ⟨_, rfl⟩
      have hfX := Lib.hid (show FitM X by rw [← hX]; exact hA.out.fitX)
      have hRX := Lib.hid (show RmOk m X by rw [← hX]; exact hRm.out)
      rw [hX] at hMe2
      clear hX hA hRm
      have h3 := h3.bl hbc
      have hMe1 := MeAt.bl hMe1 hbc
      have hP1 := RdPS.bl hP1 hbc
      have hbw := hbw.next hbc
      clear hbc
      have hn1 := Lib.hid (show m.pts.length = n1 by rw [← hP1.len, List.length_map])
      have hn2 := Lib.hid (show X.pts.length = n2 by rw [← (MeAt.ps hMe2).len, List.length_map])
      have h1r : 3 ≤ n1 ∧ n1 ≤ 40 := by rw [← hn1.out]; exact ⟨hang.out.fit.ok.n3, hang.out.fit.ok.n40⟩
      have h2r : 3 ≤ n2 ∧ n2 ≤ 40 := by rw [← hn2.out]; exact ⟨hfX.out.ok.n3, hfX.out.ok.n40⟩
      go_upto_region 6 with (fail)
      refine wp_gen (fun W => Bl W2 W ∧ ∃ v c, RowR List.Nodup W2.heap.size W.heap.size W v (linL (m.pts.take 0)) ∧ v = .slice (some ⟨W2.heap.size, 0, none⟩) 0 c ∧ c = 0) ⟨by exact slc, _, 0, by have := RowG.empty (size := 3) (TP := 29) (El := RtIn 3) appN_nodup W2 (Nat.le_refl _); rw [World.size_alloc]; exact this, rfl, rfl⟩ ?_
      rintro W ⟨hbW, v0, c0, hrow, hv0, rfl⟩
      rw [← hv0]
      have h3' := h3.bl hbW
      have hzW := hbW.size
      clear hv0
      obtain ⟨r0, r1⟩ := bx2 h3'
      go_wp2_with fail
      clear r0 r1 h3'
      go_loopw [6, 30] (fun sp si wr => ∃ (j : Nat) (o : Value), j ≤ n1 ∧ si = .int .i64 (j : Int) ∧ o = sp ∧ RowR List.Nodup W2.heap.size wr.heap.size wr o (linL (m.pts.take j)) ∧ Bl W2 wr ∧ W2.heap.size ≤ wr.heap.size) (fun _ si _ => n1 - (intOf si).toNat)
      case atStart => exact ⟨0, v0, by omega, rfl, rfl, hrow, hbW, hzW⟩
      case round =>
        clear hrow hbW hzW
        obtain ⟨j, o, hj, rfl, rfl, hrow, hbj, hlo⟩ := hrel
        obtain ⟨wj, rfl⟩ : ∃ wj : World, wj = wr := ⟨_, rfl⟩
        by_cases hjk : j < n1
        · have hji : (j : Int) < (n1 : Int) := by omega
          obtain ⟨sq, Aq, nq, cq, Bq, mq_, dq, tq, Cq, iq, eq, Dq, jq, fq, ⟨y0, y1, y2, y3, y4, y5⟩, hR1, hR2⟩ := pts_lit (RdPS.bl hP1 hbj) hjk
          have hsm := Lib.hid (hang.out.fit.sm j (by rw [hn1.out]; exact hjk))
          have hpx : pix (m.pts.map tp) j = tp (pix m.pts j) := pix_map (by rw [hn1.out]; exact hjk)
          have hval := Lib.hid (lin_step (l := m.pts) (by rw [hn1.out]; exact hjk) hsm.out)
          have htl : (linL (m.pts.take j)).length ≤ 40 := by rw [linL_len, List.length_take]; omega
          rw [hpx] at hR1 hR2
          clear hpx
          have hvq := hrow.ne (Nat.le_refl wj.heap.size)
          go_upto_region 9 with (fail)
          refine wp_gen (fun W => Bl wj W ∧ wj.heap.size < W.heap.size ∧ Blk W wj.heap.size 31 #[.bool sq, .slice Aq nq cq, .slice Bq mq_ dq, .bool tq, .slice Cq iq eq, .slice Dq jq fq]) ⟨slc, by simp, by exact bts⟩ ?_
          rintro W ⟨hbq, hgw, hq⟩
          have hrow := (RowG.bl (rtIn_keep 3) hrow hbq).up hbq.size (Nat.le_refl _)
          replace hR1 := hR1.bl hbq
          replace hR2 := hR2.bl hbq
          have hbW := hbj.next hbq
          have hlo2 : W2.heap.size ≤ W.heap.size := by omega
          clear y0 y1 y2 y3 y4 y5
          have hHeld : (fun w' => (w'.cell? ⟨wj.heap.size, 0, none⟩ = some (.bool sq) ∧ w'.cell? ⟨wj.heap.size, 1, none⟩ = some (.slice Aq nq cq) ∧ w'.cell? ⟨wj.heap.size, 2, none⟩ = some (.slice Bq mq_ dq) ∧ w'.cell? ⟨wj.heap.size, 3, none⟩ = some (.bool tq) ∧ w'.cell? ⟨wj.heap.size, 4, none⟩ = some (.slice Cq iq eq) ∧ w'.cell? ⟨wj.heap.size, 5, none⟩ = some (.slice Dq jq fq))) (W.drew) := bx6 (T := 31) (hq.bl slc)
          refine wp_region_T 10 11 (fun w' => (w'.cell? ⟨wj.heap.size, 0, none⟩ = some (.bool sq) ∧ w'.cell? ⟨wj.heap.size, 1, none⟩ = some (.slice Aq nq cq) ∧ w'.cell? ⟨wj.heap.size, 2, none⟩ = some (.slice Bq mq_ dq) ∧ w'.cell? ⟨wj.heap.size, 3, none⟩ = some (.bool tq) ∧ w'.cell? ⟨wj.heap.size, 4, none⟩ = some (.slice Cq iq eq) ∧ w'.cell? ⟨wj.heap.size, 5, none⟩ = some (.slice Dq jq fq))) rfl (by kernel_rfl) hHeld ?_
          refine wpAnyT_take (i := 0) (oi := _) (v := ?_) (fuel := 10) rfl (by kernel_rfl) (by kernel_rfl) (by kernel_rfl) (by kernel_rfl) (fun _ _ _ h => h) (by rfl) ?_ hHeld ?_
          rotate_left 1
          · (intro w' hSw; (try dsimp only at hSw); go_simp <;> with_reducible rfl)
          refine wpAnyT_take (i := 1) (oi := _) (v := ?_) (fuel := 9) rfl (by kernel_rfl) (by kernel_rfl) (by kernel_rfl) (by kernel_rfl) (fun _ _ _ h => h) (by rfl) ?_ hHeld ?_
          rotate_left 1
          · (intro w' hSw; (try dsimp only at hSw); go_simp <;> with_reducible rfl)
          refine wpAnyT_take (i := 2) (oi := _) (v := ?_) (fuel := 8) rfl (by kernel_rfl) (by kernel_rfl) (by kernel_rfl) (by kernel_rfl) (fun _ _ _ h => h) (by rfl) ?_ hHeld ?_
          rotate_left 1
          · (intro w' hSw; (try dsimp only at hSw); go_simp <;> with_reducible rfl)
          refine wpAnyT_take (i := 4) (oi := _) (v := ?_) (fuel := 7) rfl (by kernel_rfl) (by kernel_rfl) (by kernel_rfl) (by kernel_rfl) (fun _ _ _ h => h) (by rfl) ?_ hHeld ?_
          rotate_left 1
          · (intro w' hSw; (try dsimp only at hSw); go_simp <;> with_reducible rfl)
          refine wpAnyT_take (i := 5) (oi := _) (v := ?_) (fuel := 6) rfl (by kernel_rfl) (by kernel_rfl) (by kernel_rfl) (by kernel_rfl) (fun _ _ _ h => h) (by rfl) ?_ hHeld ?_
          rotate_left 1
          · (intro w' hSw; (try dsimp only at hSw); go_simp <;> with_reducible rfl)
          clear hHeld
          simp only [Act.put, List.setIfInBounds_toArray]
          refine wpAnyT_step (i := 3) (o := _) (fuel := 5) rfl (by kernel_rfl) (fun K hK => ?_)
          go_simp
          refine (RatFromInt_any _ 2 (by omega) (by omega)).mono ?_
          rintro e w4 ⟨s4, A4, n4, c4, B4, m4, d4, rfl, hR4, hb4⟩
          have hb4 : Bl W w4 := (show Bl W W.drew from slc).next hb4
          refine hK.out _ _ (fun _ => bx6 (T := 31) (hq.bl slc)) ?_
          clear hK K
          try simp only [Act.put, List.setIfInBounds_toArray, List.set_cons_zero, List.set_cons_succ]
          refine wpAnyT_step (i := 6) (o := _) (fuel := 4) rfl (by kernel_rfl) (fun K hK => ?_)
          go_simp
          refine (RatMul_any _ (hR4.rd.bl slc) (hR2.bl slc)).mono ?_
          rintro e w5 ⟨s5, A5, n5, c5, B5, m5, d5, rfl, hR5, hb5⟩
          have hb5 : Bl W w5 := hb4.next hb5
          refine hK.out _ _ (fun _ => bx6 (T := 31) (hq.bl slc)) ?_
          clear hK K
          try simp only [Act.put, List.setIfInBounds_toArray, List.set_cons_zero, List.set_cons_succ]
          refine wpAnyT_step (i := 7) (o := _) (fuel := 3) rfl (by kernel_rfl) (fun K hK => ?_)
          go_simp
          refine (RatAdd_any _ (hR1.bl slc) (hR5.rd.bl slc)).mono ?_
          rintro e w6 ⟨s6, A6, n6, c6, B6, m6, d6, rfl, hR6, hb6⟩
          have hz6 : W.heap.size ≤ w5.heap.size := hb5.size
          have hb6 : Bl W w6 := hb5.next hb6
          have hrow6 := RowG.bl (rtIn_keep 3) hrow hb6
          have hq := hq.bl hb6
          have hbw6 := hbW.next hb6
          refine hK.out _ _ (fun _ => bx6 (T := 31) (hq.bl slc)) ?_
          clear hK K
          try simp only [Act.put, List.setIfInBounds_toArray, List.set_cons_zero, List.set_cons_succ]
          refine wpAnyT_step (i := 8) (o := _) (fuel := 2) rfl (by kernel_rfl) (fun K hK => ?_)
          go_simp
          refine hK.out _ _ (fun _ => bx6 (T := 31) (hq.bl slc)) ?_
          clear hK K
          try simp only [Act.put, List.setIfInBounds_toArray, List.set_cons_zero, List.set_cons_succ]
          refine wpAnyT_step (i := 9) (o := _) (fuel := 1) rfl (by kernel_rfl) (fun K hK => ?_)
          refine step_append_ratX rfl (.tmp 34) (.tmp 42) rfl _ (by rfl) hrow6 hR6 hz6 hlo2 1 (by rfl) (by omega) W2 hbw6 (Nat.le_refl _) ?_
          intro v8 w8 hrow' hb8' hoth
          have hq := hq.oth hoth hvq
          refine hK.out _ _ (fun _ => bx6 (T := 31) (hq.bl slc)) ?_
          clear hK K
          try simp only [Act.put, List.setIfInBounds_toArray]
          refine wpAnyT_step (i := 10) (o := _) (fuel := 0) rfl (by kernel_rfl) (fun K hK => ?_)
          go_simp
          refine hK.out _ _ (fun h => absurd rfl h) ?_
          clear hK K
          try simp only [Act.put, List.setIfInBounds_toArray]
          refine wpAnyT_done (by kernel_rfl) ?_
          go_wp2_with fail
          go_roundw
          case rel => exact ⟨j + 1, v8, by omega, by go_num, rfl, by rw [hval.out]; exact hrow', hb8', hb8'.size⟩
          case measure => simp [intOf]; omega
        · obtain rfl : n1 = j := by omega
          have hkm2 : ¬ (n1 : Int) < (n1 : Int) := by omega
          rw [show m.pts.take n1 = m.pts by rw [← hn1.out]; exact List.take_length] at hrow
          have hll : (linL m.pts).length = n1 := by rw [linL_len]; exact hn1.out
          obtain ⟨A7, c7, bs7, e7, hft, hnd, hbs⟩ := RowR.ft hrow (by omega)
          rw [hll] at e7 hft
          subst e7
          obtain ⟨gu, rfl⟩ : ∃ gu, A7 = some ⟨gu, 0, none⟩ := by
            rcases hft.2.2.2 with ⟨h0, _⟩ | ⟨gr, _, _, e, _⟩
            · omega
            · exact ⟨gr, e⟩
          have hu := hft.rd
          have h3 := h3.bl hbj
          have h4 := h4.bl hbj
          have hMe1 := MeAt.bl hMe1 hbj
          have hMe2 := MeAt.bl hMe2 hbj
          have hbw := hbw.next hbj
          clear hrow hft hnd hbs hlo hbj
          have hlp := Lib.hid (lin_pro hang.out.fit hRX.out)
          have hokX := Lib.hid (linL_ok hfX.out.sm)
          obtain ⟨r0, r1⟩ := bx2 h3
          obtain ⟨s0, s1⟩ := bx2 h4
          go_wp2_with fail
          clear r0 r1 s0 s1
          refine (Prolong_yes _ hMe1 hMe2 hang.out.fit hfX.out.ok hRX.out hu (Lib.hid (linL_ok hang.out.fit.sm)) hn1.out.symm (by rw [hlp.out]; exact hokX.out)).mono ?_
          unfold RatsRes
          rw [hlp.out]
          rintro e w5 ⟨gv, kv, dv, rfl, hV, hb5⟩
          obtain rfl : n2 = kv := by symm; rw [← hV.len, linL_len]; exact hn2.out
          have h3 := h3.bl hb5
          have h4 := h4.bl hb5
          have hMe1 := MeAt.bl hMe1 hb5
          have hMe2 := MeAt.bl hMe2 hb5
          have hbw := hbw.next hb5
          clear hu hb5
          obtain ⟨r0, r1⟩ := bx2 h3
          obtain ⟨s0, s1⟩ := bx2 h4
          go_wp2_with fail
          refine (ParentsOf_yes _ hMe1 hMe2 hang.out.fit hfX.out.ok hRX.out).mono ?_
          rintro e w6 ⟨gpa, ka, da, rfl, hPa, hb6⟩
          obtain rfl : n2 = ka := by symm; rw [← hPa.len, paL_len hRX.out]; exact hn2.out
          have h3 := h3.bl hb6
          have h4 := h4.bl hb6
          have hMe1 := MeAt.bl hMe1 hb6
          have hMe2 := MeAt.bl hMe2 hb6
          have hV := RdRS.bl hV hb6
          have hbw := hbw.next hb6
          have hP2 := MeAt.ps hMe2
          clear hPa hb6 r0 r1 s0 s1
          obtain ⟨s0, s1⟩ := bx2 h4
          go_wp2_with fail
          clear s0 s1
          go_loopw [71] (fun si wr => ∃ j : Nat, j ≤ n2 ∧ si = .int .i64 (j : Int) ∧ Bl w6 wr) (fun si _ => n2 - (intOf si).toNat)
          case atStart => exact ⟨0, by omega, rfl, Bl.refl _⟩
          case round =>
            obtain ⟨j, hj, rfl, hbj⟩ := hrel
            obtain ⟨wj, rfl⟩ : ∃ wj : World, wj = wr := ⟨_, rfl⟩
            by_cases hjk : j < n2
            · have hji : (j : Int) < (n2 : Int) := by omega
              obtain ⟨sq, Aq, nq, cq, Bq, mq_, dq, tq, Cq, iq, eq, Dq, jq, fq, ⟨y0, y1, y2, y3, y4, y5⟩, hR1, hR2⟩ := pts_lit (RdPS.bl hP2 hbj) hjk
              have hsm := Lib.hid (hfX.out.sm j (by rw [hn2.out]; exact hjk))
              have hpx : pix (X.pts.map tp) j = tp (pix X.pts j) := pix_map (by rw [hn2.out]; exact hjk)
              have heq := Lib.hid (lin_eq (l := X.pts) (by rw [hn2.out]; exact hjk) hsm.out)
              rw [hpx] at hR1 hR2
              clear hpx
              go_upto_region 17 with (fail)
              refine wp_gen (fun W => Bl wj W ∧ ∃ g11, Blk W g11 31 #[.bool sq, .slice Aq nq cq, .slice Bq mq_ dq, .bool tq, .slice Cq iq eq, .slice Dq jq fq] ∧ g11 = wj.heap.size) ⟨slc, _, by exact bts, rfl⟩ ?_
              rintro W ⟨hbq, g11, hq, hg⟩
              rw [← hg]
              clear hg y0 y1 y2 y3 y4 y5
              have hVW := RdRS.bl hV (hbj.next hbq)
              obtain ⟨_, ee, hlv, hcc⟩ := hVW.cells j hjk
              cases ee
              rw [Addr.add_lit, Nat.zero_add] at hcc
              obtain ⟨sv, Av, nv, cv, Bv, mv, dv, ⟨xv0, xv1, xv2⟩, hRv⟩ := (show RtAt W ⟨gv, j * 3, none⟩ (pix (linL X.pts) j) from hcc)
              clear hcc
              have xv0 : W.cell? ⟨gv, j * 3, none⟩ = some (.bool sv) := xv0
              have xv1 : W.cell? ⟨gv, j * 3 + 1, none⟩ = some (.slice Av nv cv) := xv1
              have xv2 : W.cell? ⟨gv, j * 3 + 2, none⟩ = some (.slice Bv mv dv) := xv2
              replace hR1 := hR1.bl hbq
              replace hR2 := hR2.bl hbq
              go_region_held3 (fun w' => (w'.cell? ⟨g11, 0, none⟩ = some (.bool sq) ∧ w'.cell? ⟨g11, 1, none⟩ = some (.slice Aq nq cq) ∧ w'.cell? ⟨g11, 2, none⟩ = some (.slice Bq mq_ dq) ∧ w'.cell? ⟨g11, 3, none⟩ = some (.bool tq) ∧ w'.cell? ⟨g11, 4, none⟩ = some (.slice Cq iq eq) ∧ w'.cell? ⟨g11, 5, none⟩ = some (.slice Dq jq fq)) ∧ (w'.cell? ⟨gv, j * 3, none⟩ = some (.bool sv) ∧ w'.cell? ⟨gv, j * 3 + 1, none⟩ = some (.slice Av nv cv) ∧ w'.cell? ⟨gv, j * 3 + 2, none⟩ = some (.slice Bv mv dv))) (first | exact ⟨bx6 (T := 31) (hq.bl slc), ⟨(Bl.cellOf (w := W) (p := ⟨gv, j * 3, none⟩) slc hlv).trans xv0, (Bl.cellOf (w := W) (p := ⟨gv, j * 3 + 1, none⟩) slc hlv).trans xv1, (Bl.cellOf (w := W) (p := ⟨gv, j * 3 + 2, none⟩) slc hlv).trans xv2⟩⟩) (first | (go_at_call 23; (with_reducible refine (RatFromInt_any _ 2 (by omega) (by omega)).mono ?_); rintro e v1 ⟨s1_, A1_, n1_, c1_, B1_, m1_, d1_, rfl, hT1, hv1⟩) | (go_at_call 49; (with_reducible refine (RatMul_any _ (hT1.rd.bl slc) (hR2.bl slc)).mono ?_); rintro e v2 ⟨s2_, A2_, n2_, c2_, B2_, m2_, d2_, rfl, hT2, hv2⟩) | (go_at_call 22; (with_reducible refine (RatAdd_any _ (hR1.bl slc) (hT2.rd.bl slc)).mono ?_); rintro e v3 ⟨s3_, A3_, n3_, c3_, B3_, m3_, d3_, rfl, hT3, hv3⟩) | (go_at_call 21; (with_reducible refine (RatEqual_any _ (hRv.bl slc) (hT3.rd.bl slc)).mono ?_); rw [heq.out]; rintro e v4 ⟨rfl, hv4⟩))
              go_wp2_with fail
              go_roundw
              case rel => exact ⟨j + 1, by omega, by go_num, slc⟩
              case measure => simp [intOf]; omega
            · obtain rfl : n2 = j := by omega
              have hkm2 : ¬ (n2 : Int) < (n2 : Int) := by omega
              have h3 := h3.bl hbj
              have h4 := h4.bl hbj
              have hMe1 := MeAt.bl hMe1 hbj
              have hMe2 := MeAt.bl hMe2 hbj
              have hbw := hbw.next hbj
              clear hV hbj
              obtain ⟨r0, r1⟩ := bx2 h3
              go_wp2_with fail
              clear r0 r1
              refine (MakeVector_any _ 1 (by omega) n1 (by omega) (by omega) (RdB.bl hc slc)).mono ?_
              rintro e w8 ⟨gw, cw, wL, rfl, hW, hRw, hb8⟩
              have h3 := h3.bl hb8
              have h4 := h4.bl hb8
              have hMe1 := MeAt.bl hMe1 hb8
              have hMe2 := MeAt.bl hMe2 hb8
              have hbw := hbw.next hb8
              clear hb8
              obtain ⟨s0, s1⟩ := bx2 h4
              go_wp2_with fail
              clear s0 s1
              refine (MakeVector_any _ 2 (by omega) n2 (by omega) (by omega) (RdB.bl hc slc)).mono ?_
              rintro e w9 ⟨gz, cz, zL, rfl, hZ, hRz, hb9⟩
              have h3 := h3.bl hb9
              have h4 := h4.bl hb9
              have hMe1 := MeAt.bl hMe1 hb9
              have hMe2 := MeAt.bl hMe2 hb9
              have hW := RdRS.bl hW hb9
              have hbw := hbw.next hb9
              have hpl := Lib.hid (paL_len hRX.out)
              have hadj := Lib.hid (adjR hRw hRz (paL_ok (x := X) hang.out.fit) (by rw [hW.len]; exact hn1.out.symm) (by rw [hZ.len, hpl.out]; exact hn2.out.symm) (by rw [hpl.out, hn2.out]; exact h2r.2) (by rw [hn1.out]; exact h1r.2))
              have hkw := Lib.hid hRw.ok
              have hkz := Lib.hid hRz.ok
              have heq := Lib.hid (show eqR (innR (proT wL (paL m (rmL m X)) (paL m (rmL m X)).length) zL) (innR wL (gaT (paL m (rmL m X)) zL m.pts.length (paL m (rmL m X)).length)) = true by rw [hadj.out.1]; exact eqR_self' _)
              clear hRw hRz hb9
              go_upto_region 22 with (fail)
              refine wp_gen (fun W => Bl w9 W) slc ?_
              rintro W hbW
              go_region_held3 (fun w' => (w'.cell? ⟨g3, 0, none⟩ = some (.slice (some ⟨gp1, 0, none⟩) n1 cp1) ∧ w'.cell? ⟨g3, 1, none⟩ = some (.slice (some ⟨gt1, 0, none⟩) m1 ct1)) ∧ (w'.cell? ⟨g4, 0, none⟩ = some (.slice (some ⟨gp2, 0, none⟩) n2 cp2) ∧ w'.cell? ⟨g4, 1, none⟩ = some (.slice (some ⟨gt2, 0, none⟩) m2 ct2))) (first | exact ⟨bx2 (T := 57) (h3.bl slc), bx2 (T := 57) (h4.bl slc)⟩) (first | (go_at_call 60; (with_reducible refine (Prolong_yes _ (MeAt.bl hMe1 slc) (MeAt.bl hMe2 slc) hang.out.fit hfX.out.ok hRX.out (RdRS.bl hW slc) hkw hn1.out.symm hadj.out.2.1).mono ?_); rintro e v1 ⟨g1_, k1_, d1_, rfl, hT1, hv1⟩) | (go_at_call 62; (with_reducible refine (InnerVector_any _ (RdRS.bl hT1 slc) (RdRS.bl hZ slc)).mono ?_); rintro e v2 ⟨s2_, A2_, n2_, c2_, B2_, m2_, d2_, rfl, hT2, hv2⟩) | (go_at_call 63; (with_reducible refine (Gather_yes _ (MeAt.bl hMe1 slc) (MeAt.bl hMe2 slc) hang.out.fit hfX.out.ok hRX.out (RdRS.bl hZ slc) hkz hn2.out.symm hpl.out hadj.out.2.2).mono ?_); rintro e v3 ⟨g3_, k3_, d3_, rfl, hT3, hv3⟩) | (go_at_call 62; (with_reducible refine (InnerVector_any _ (RdRS.bl hW slc) (RdRS.bl hT3 slc)).mono ?_); rintro e v4 ⟨s4_, A4_, n4_, c4_, B4_, m4_, d4_, rfl, hT4, hv4⟩) | (go_at_call 21; (with_reducible refine (RatEqual_any _ (hT2.rd.bl slc) (hT4.rd.bl slc)).mono ?_); rw [heq.out]; rintro e v5 ⟨rfl, hv5⟩))
              go_wp2_with fail
              go_ret
              exact ⟨rfl, slc⟩
end

end Go.Proofs.YtajlahjghapbkaaGreat
