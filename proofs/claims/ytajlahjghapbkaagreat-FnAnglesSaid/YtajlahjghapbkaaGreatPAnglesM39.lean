/- Lemmas. -/
import Derived.Test.YtajlahjghapbkaaGreatRows
import Derived.Test.YtajlahjghapbkaaGreatPAnglesM36
import Derived.Test.YtajlahjghapbkaaGreatPAnglesM37
import Derived.Test.YtajlahjghapbkaaGreatPAnglesM38
namespace Go.Proofs.YtajlahjghapbkaaGreat
section
open Go.RowKit

set_option maxRecDepth 100000 in
set_option maxHeartbeats 32000000 in
theorem FnAngles_any (w0 : World) {Ac : Option Addr} {nc cc : Nat} {lc : List Int} (hc : RdB w0 Ac nc cc lc) :
    Calls Tryz.prog 8 #[.slice Ac nc cc] w0 fun e w' => e = .returned (.bool true) ∧ Bl w0 w' := by
  have hn := hc.small
  by_cases hbig : (nc : Int) > 1048576
  · go_enter Tryz.func8, Tryz.ntmps8
    go_wp2_with fail
    go_ret
    exact ⟨rfl, slc⟩
  · have hsmall : ¬ 1048576 < (nc : Int) := hbig
    go_enter Tryz.func8, Tryz.ntmps8
    go_wp2_with fail
    refine (MakeCoarse_any _ hc).mono ?_
    rintro e w1 ⟨_, m, rfl, hm, hO1, hb1⟩
    obtain ⟨gp1, n1, cp1, gt1, m1, ct1, rfl, hP1, hT1⟩ := hO1.1
    go_upto_region 4 with (fail)
    refine wp_gen (fun W => Bl w1 W ∧ ∃ g3, Blk W g3 57 #[.slice (some ⟨gp1, 0, none⟩) n1 cp1, .slice (some ⟨gt1, 0, none⟩) m1 ct1] ∧ g3 = w1.heap.size) ⟨slc, _, by exact bts, rfl⟩ ?_
    rintro W1 ⟨hbW, g3, h3, hg3⟩
    rw [← hg3]
    have hP1 := RdPS.bl hP1 hbW
    have hT1 := RdTS.bl hT1 hbW
    have hbw := hb1.next hbW
    have hMe1 : MeAt W1 (.agg #[.slice (some ⟨gp1, 0, none⟩) n1 cp1, .slice (some ⟨gt1, 0, none⟩) m1 ct1]) m := ⟨gp1, n1, cp1, gt1, m1, ct1, rfl, hP1, hT1⟩
    have hang := Lib.hid (ang_m hm)
    have hmH := Lib.hid hm
    clear hm
    clear hg3 hbW hb1 hO1 hP1 hT1
    go_cut [4, 5] (fun s4 s5 wx => ∃ (g4 gp2 n2 cp2 gt2 m2 ct2 : Nat) (l : List Int), s4 = .pointer (some ⟨g4, 0, none⟩) ∧ s5 = .bool true ∧ Blk wx g4 57 #[.slice (some ⟨gp2, 0, none⟩) n2 cp2, .slice (some ⟨gt2, 0, none⟩) m2 ct2] ∧ MeAt wx (.agg #[.slice (some ⟨gp2, 0, none⟩) n2 cp2, .slice (some ⟨gt2, 0, none⟩) m2 ct2]) (bisM m (emA m.tris l)) ∧ Bl W1 wx)
    case first =>
      go_region_held3 (fun w' => (w'.cell? ⟨g3, 0, none⟩ = some (.slice (some ⟨gp1, 0, none⟩) n1 cp1) ∧ w'.cell? ⟨g3, 1, none⟩ = some (.slice (some ⟨gt1, 0, none⟩) m1 ct1))) (first | exact bx2 (T := 57) (h3.bl slc)) (first | (go_at_call 46; refine (MakeSome_any _ 3 (by omega) (RdB.bl hc (hbw.next slc))).mono ?_; rintro e w2 ⟨A4, n4, c4, l, rfl, hl, hSo, hb2⟩; (have hz2 : W1.heap.size ≤ w2.heap.size := Bl.size (by exact slc)); (first | have hq : Wk 2 57 _ _ := wk_newd hb2 | have hq : Wk 2 57 _ _ := wk_new hb2 | have hq : Wk 2 57 _ _ := Wk.bl hq hb2 | skip)) | (go_at_call 47; refine (RefineMesh_yes _ (MeAt.bl hMe1 slc) hang.out.fit (RdI.bl hl slc) (by have h1 := hSo.1; have h2 := hl.len; omega) (ang_ok hmH.out l).fitX.ok).mono ?_; rintro e w3 ⟨_, rfl, hO2, hb3⟩; (obtain ⟨gp2, n2, cp2, gt2, m2, ct2, rfl, hP2, hT2⟩ := hO2.1); (have hz3 : W1.heap.size ≤ w3.heap.size := Bl.size (by exact slc)); (first | have hq : Wk 2 57 _ _ := wk_newd hb3 | have hq : Wk 2 57 _ _ := wk_new hb3 | have hq : Wk 2 57 _ _ := Wk.bl hq hb3 | skip); (try obtain ⟨⟨q0, q1⟩, fz0, fz1⟩ := hq.out2)))
      · go_wp2_with fail
        go_meet
        exact ⟨w3.heap.size, gp2, n2, cp2, gt2, m2, ct2, l, rfl, rfl, Blk.new _ _ _, MeAt.bl hO2.1 slc, slc⟩
      · go_wp2_with fail
        go_meet
        exact ⟨w2.heap.size, gp2, n2, cp2, gt2, m2, ct2, l, rfl, rfl, Wk.put2 hq _ _, (MeOw.setLow (MeOw.setLow hO2 (q := ⟨w2.heap.size, 0, none⟩) (by simp) _) (q := ⟨w2.heap.size, 1, none⟩) (by simp) _).1, slc⟩
      · go_wp2_with fail
        go_meet
        have hlt : W1.heap.size < w2.heap.size := by have := Bl.size hb2; simp at this; omega
        exact ⟨W1.heap.size, gp2, n2, cp2, gt2, m2, ct2, l, rfl, rfl, Wk.put2 hq _ _, (MeOw.setLow (MeOw.setLow hO2 (q := ⟨W1.heap.size, 0, none⟩) hlt _) (q := ⟨W1.heap.size, 1, none⟩) hlt _).1, slc⟩
    case rest =>
      obtain ⟨g4, gp2, n2, cp2, gt2, m2, ct2, l, rfl, rfl, h4, hMe2, hbc⟩ := hcut
      obtain ⟨W2, rfl⟩ : ∃ W2 : World, W2 = wc := ⟨_, rfl⟩
      have hA := Lib.hid (ang_ok hmH.out l)
      obtain ⟨X, hX⟩ : ∃ X, bisM m (emA m.tris l) = X := ⟨_, rfl⟩
      rw [hX] at hMe2 hA
      clear hX
      have h3 := h3.bl hbc
      have hMe1 := MeAt.bl hMe1 hbc
      have hbw := hbw.next hbc
      clear hbc
      obtain ⟨r0, r1⟩ := bx2 h4
      go_wp2_with fail
      clear r0 r1
      refine calls_gen (fun W => Bl W2 W ∧ ∃ ga, Ow 3 W ga [0, 1] ∧ ga = W2.heap.size) ⟨by exact slc, _, by exact Blk.new W2 3 #[.int .i64 0, .int .i64 1], rfl⟩ ?_
      rintro W3 ⟨hb2, ga, hOa, hga⟩
      rw [← hga]
      have hl2 : RdI W3 (some ⟨ga, 0, none⟩) 2 2 [0, 1] := Ow.rd hOa (by simp) (by simp)
      refine (RefineMesh_yes _ (MeAt.bl hMe2 hb2) hA.out.fitX hl2 (by omega) hA.out.fitY.ok).mono ?_
      rintro e w5 ⟨_, rfl, hO3, hb5⟩
      obtain ⟨gp3, n3, cp3, gt3, m3, ct3, rfl, hP3, hT3⟩ := hO3.1
      go_upto_region 6 with (fail)
      refine wp_gen (fun W => Bl w5 W ∧ ∃ g6, Blk W g6 57 #[.slice (some ⟨gp3, 0, none⟩) n3 cp3, .slice (some ⟨gt3, 0, none⟩) m3 ct3] ∧ g6 = w5.heap.size) ⟨slc, _, by exact bts, rfl⟩ ?_
      rintro W5 ⟨hbW, g6, h6, hg6⟩
      rw [← hg6]
      have hb25 := (hb2.next hb5).next hbW
      have h3 := h3.bl hb25
      have h4 := h4.bl hb25
      have hMe1 := MeAt.bl hMe1 hb25
      have hMe2 := MeAt.bl hMe2 hb25
      have hMe3 := MeAt.bl hO3.1 hbW
      have hT3 := RdTS.bl hT3 hbW
      have hbw := hbw.next hb25
      clear hg6 hbW hb2 hb5 hO3 hb25 hga hOa hl2 hP3
      rw [show bisM X (emA X.tris [0, 1]) = angY X from rfl] at hMe3 hT3
      obtain ⟨wq, hwq⟩ : ∃ wq, mkRat 1 4 * wsM m = wq := ⟨_, rfl⟩
      have hsg := Lib.hid (show sgnR (toR wq) = 1 by rw [← hwq]; exact hang.out.sgn)
      have hwp := Lib.hid hwq
      have hwq2 := Lib.hid (show mulR (ofFrac 1 4) (toR (wsM m)) = toR wq by rw [← hwq]; exact hang.out.mul)
      clear hwq
      go_cut [8] (fun sl8 wx => ∃ (g8 : Nat) (s8 : Bool) (A8 : Option Addr) (n8 c8 : Nat) (B8 : Option Addr) (m8 d8 : Nat), sl8 = .pointer (some ⟨g8, 0, none⟩) ∧ Blk wx g8 29 #[.bool s8, .slice A8 n8 c8, .slice B8 m8 d8] ∧ RdR wx s8 A8 n8 c8 B8 m8 d8 (toR wq) ∧ Bl W5 wx)
      case first =>
        go_region_held3 (fun w' => (w'.cell? ⟨g3, 0, none⟩ = some (.slice (some ⟨gp1, 0, none⟩) n1 cp1) ∧ w'.cell? ⟨g3, 1, none⟩ = some (.slice (some ⟨gt1, 0, none⟩) m1 ct1))) (first | exact bx2 (T := 57) (h3.bl slc)) (first | (go_at_call 50; refine (RatOf_any _ 1 4 (by omega) (by omega) (by omega) (by omega)).mono ?_; rintro e w6 ⟨s6_, A6_, n6_, c6_, B6_, m6_, d6_, rfl, hR6, hb6⟩; (have hz6 : W5.heap.size ≤ w6.heap.size := Bl.size (by exact slc)); (first | have hq : Wk 3 29 _ _ := wk_newd hb6 | have hq : Wk 3 29 _ _ := wk_new hb6 | have hq : Wk 3 29 _ _ := Wk.bl hq hb6 | skip)) | (go_at_call 51; refine (WorstShape_yes _ (MeAt.bl hMe1 slc) hang.out.fit.ok hang.out.sh).mono ?_; rintro e w7 ⟨s7_, A7_, n7_, c7_, B7_, m7_, d7_, rfl, hR7, hb7⟩; (have hz7 : W5.heap.size ≤ w7.heap.size := Bl.size (by exact slc)); (first | have hq : Wk 3 29 _ _ := wk_newd hb7 | have hq : Wk 3 29 _ _ := wk_new hb7 | have hq : Wk 3 29 _ _ := Wk.bl hq hb7 | skip)) | (go_at_call 49; refine (RatMul_any _ (hR6.rd.bl slc) (hR7.bl slc)).mono ?_; rintro e w8 ⟨s8_, A8_, n8_, c8_, B8_, m8_, d8_, rfl, hR8, hb8⟩; (have hz8 : W5.heap.size ≤ w8.heap.size := Bl.size (by exact slc)); (first | have hq : Wk 3 29 _ _ := wk_newd hb8 | have hq : Wk 3 29 _ _ := wk_new hb8 | have hq : Wk 3 29 _ _ := Wk.bl hq hb8 | skip); (try obtain ⟨⟨q0, q1, q2⟩, fz0, fz1, fz2⟩ := hq.out3)))
        · go_wp2_with fail
          go_meet
          exact ⟨w8.heap.size, _, _, _, _, _, _, _, rfl, Blk.new _ _ _, by rw [← hwq2.out]; exact hR8.rd.bl slc, slc⟩
        · go_wp2_with fail
          go_meet
          exact ⟨w7.heap.size, _, _, _, _, _, _, _, rfl, Wk.put3 hq _ _ _, by rw [← hwq2.out]; exact (OwR.put3 (hR8.mono (Nat.zero_le _)) hq ne_ir _ _ _).rd, slc⟩
        · go_wp2_with fail
          go_meet
          exact ⟨w6.heap.size, _, _, _, _, _, _, _, rfl, Wk.put3 hq _ _ _, by rw [← hwq2.out]; exact (OwR.put3 (hR8.mono (Nat.zero_le _)) hq ne_ir _ _ _).rd, slc⟩
        · go_wp2_with fail
          go_meet
          exact ⟨W5.heap.size, _, _, _, _, _, _, _, rfl, Wk.put3 hq _ _ _, by rw [← hwq2.out]; exact (OwR.put3 (hR8.mono (Nat.zero_le _)) hq ne_ir _ _ _).rd, slc⟩
      case rest =>
        obtain ⟨g8, s8, A8, n8, c8, B8, m8, d8, rfl, h8, hR8, hbc⟩ := hcut
        obtain ⟨W6, rfl⟩ : ∃ W6 : World, W6 = wc := ⟨_, rfl⟩
        have h4 := h4.bl hbc
        have h6 := h6.bl hbc
        have hMe2 := MeAt.bl hMe2 hbc
        have hMe3 := MeAt.bl hMe3 hbc
        have hm3 := hT3.len
        have hbw := hbw.next hbc
        have hbX := Lib.hid (show Bd 49829060480682873324544 wq by rw [← hwp.out]; exact hang.out.bd)
        clear hbc h3 hMe1 hT3
        obtain ⟨r0, r1⟩ := bx2 h6
        go_wp2_with fail
        clear r0 r1
        refine (CountLevels_yes W6 hMe3 hA.out.fitY.ok).mono ?_
        rintro e w7 ⟨A7, n7, c7, u, rfl, hI, hL, hb7⟩
        rw [hm3] at hL
        have hLs := Lib.hid hL
        have hlu := Lib.hid hI.len
        have hbd := Lib.hid (suI_bd (N := (m3 : Int)) (by omega) hL.2.2)
        have hm48 : m3 ≤ 48 := by have := hA.out.fitY.ok.t48; omega
        have hn61 : n7 ≤ 61 := by have := hL.2.1; have := hI.len; omega
        clear hL
        go_wp2_with fail
        go_loopw [10, 39] (fun x y wr => ∃ i : Nat, i ≤ n7 ∧ y = .int .i64 (i : Int) ∧ x = .int .i64 (suI u i) ∧ Bl w7 wr) (fun _ y _ => n7 - (intOf y).toNat)
        case atStart => exact ⟨0, by omega, rfl, rfl, slc⟩
        case round =>
          obtain ⟨i, hi, rfl, rfl, hbi⟩ := hrel
          obtain ⟨wi, rfl⟩ : ∃ wi : World, wi = wr := ⟨_, rfl⟩
          have hb1 := hbd.out i (by rw [hlu.out]; exact hi)
          have hb1a := hb1.1
          have hb1b : suI u i ≤ 48 * 61 := Int.le_trans hb1.2 (Int.le_trans (Int.mul_le_mul_of_nonneg_right (show (m3 : Int) ≤ 48 by omega) (by omega)) (by omega))
          clear hb1
          by_cases him : i < n7
          · have hii : (i : Int) < (n7 : Int) := by omega
            obtain ⟨ad, rfl, hlta, hca⟩ := (hI.bl hbi).cells i him
            have hb2 := hbd.out (i + 1) (by rw [hlu.out]; omega)
            have hb2a := hb2.1
            have hb2b : suI u (i + 1) ≤ 48 * 61 := Int.le_trans hb2.2 (Int.le_trans (Int.mul_le_mul_of_nonneg_right (show (m3 : Int) ≤ 48 by omega) (by omega)) (by omega))
            clear hb2
            rw [show suI u (i + 1) = suI u i + ix u i from rfl] at hb2a hb2b
            have hwr := IntWalk.i64_in (n := suI u i + ix u i) (by omega)
            go_wp2_with fail
            go_roundw
            case rel => exact ⟨i + 1, by omega, by go_num, rfl, slc⟩
            case measure => simp [intOf]; omega
          · obtain rfl : i = n7 := by omega
            have hs : suI u i = (m3 : Int) := by rw [← hlu.out, suI_all, hLs.out.1]
            rw [hs]
            have h8 := h8.bl ((hb7.next hbi))
            have h4 := h4.bl ((hb7.next hbi))
            have h6 := h6.bl ((hb7.next hbi))
            have hR8 := hR8.bl ((hb7.next hbi))
            have hMe2 := MeAt.bl hMe2 ((hb7.next hbi))
            have hMe3 := MeAt.bl hMe3 ((hb7.next hbi))
            have hbw : Bl w0 wi := (hbw.next hb7).next hbi
            clear hs hb1a hb1b hbi hb7
            have hoX := Lib.hid (show OkR (toR (wsM X)) ∧ OkR (toR wq) from ⟨((hA.out.shX.wsb hA.out.fitX).fit (by decide)).ok, (hbX.out.fit (by decide)).ok⟩)
            have hoY := Lib.hid (show OkR (toR (wsM (angY X))) ∧ OkR (toR wq) from ⟨((hA.out.shY.wsb hA.out.fitY).fit (by decide)).ok, (hbX.out.fit (by decide)).ok⟩)
            have hl1 := hA.out.le1
            have hl2 := hA.out.le2
            rw [hwp.out] at hl1 hl2
            have hcX := cmp_ge (hA.out.shX.wsb hA.out.fitX) hbX.out (by decide) hl1
            have hcY := cmp_ge (hA.out.shY.wsb hA.out.fitY) hbX.out (by decide) hl2
            have hcX : cmpR (toR (wsM X)) (toR wq) = 0 ∨ cmpR (toR (wsM X)) (toR wq) = 1 := by omega
            have hcY : cmpR (toR (wsM (angY X))) (toR wq) = 0 ∨ cmpR (toR (wsM (angY X))) (toR wq) = 1 := by omega
            clear hl1 hl2 hLs hlu hbd hI
            rcases hcX with hzX | hzX
            · have hzX := Lib.hid hzX
              rcases hcY with hzY | hzY
              · have hzY := Lib.hid hzY
                go_upto_region 14 with (fail)
                go_region_held3 (fun w' => (w'.cell? ⟨g8, 0, none⟩ = some (.bool s8) ∧ w'.cell? ⟨g8, 1, none⟩ = some (.slice A8 n8 c8) ∧ w'.cell? ⟨g8, 2, none⟩ = some (.slice B8 m8 d8)) ∧ (w'.cell? ⟨g4, 0, none⟩ = some (.slice (some ⟨gp2, 0, none⟩) n2 cp2) ∧ w'.cell? ⟨g4, 1, none⟩ = some (.slice (some ⟨gt2, 0, none⟩) m2 ct2)) ∧ (w'.cell? ⟨g6, 0, none⟩ = some (.slice (some ⟨gp3, 0, none⟩) n3 cp3) ∧ w'.cell? ⟨g6, 1, none⟩ = some (.slice (some ⟨gt3, 0, none⟩) m3 ct3))) (first | exact ⟨bx3 (T := 29) (h8.bl slc), bx2 (T := 57) (h4.bl slc), bx2 (T := 57) (h6.bl slc)⟩) (first | (go_at_call 53; (with_reducible refine (RatSign_any _ (hR8.bl slc)).mono ?_); rw [hsg.out]; rintro e v1 ⟨rfl, hv1⟩) | (go_at_call 51; (with_reducible refine (WorstShape_yes _ (MeAt.bl hMe2 slc) hA.out.fitX.ok hA.out.shX).mono ?_); rintro e v2 ⟨s2_, A2_, n2_, c2_, B2_, m2_, d2_, rfl, hR2, hv2⟩) | (go_at_call 54; (with_reducible refine (RatCmp_yes _ (hR2.bl slc) (hR8.bl slc) hoX.out).mono ?_); rw [hzX.out]; rintro e v3 ⟨rfl, hv3⟩) | (go_at_call 51; (with_reducible refine (WorstShape_yes _ (MeAt.bl hMe3 slc) hA.out.fitY.ok hA.out.shY).mono ?_); rintro e v4 ⟨s4_, A4_, n4_, c4_, B4_, m4_, d4_, rfl, hR4, hv4⟩) | (go_at_call 54; (with_reducible refine (RatCmp_yes _ (hR4.bl slc) (hR8.bl slc) hoY.out).mono ?_); rw [hzY.out]; rintro e v5 ⟨rfl, hv5⟩))
                all_goals (go_wp2_with fail)
                all_goals (go_ret)
                all_goals exact ⟨rfl, slc⟩
              · have hzY := Lib.hid hzY
                go_upto_region 14 with (fail)
                go_region_held3 (fun w' => (w'.cell? ⟨g8, 0, none⟩ = some (.bool s8) ∧ w'.cell? ⟨g8, 1, none⟩ = some (.slice A8 n8 c8) ∧ w'.cell? ⟨g8, 2, none⟩ = some (.slice B8 m8 d8)) ∧ (w'.cell? ⟨g4, 0, none⟩ = some (.slice (some ⟨gp2, 0, none⟩) n2 cp2) ∧ w'.cell? ⟨g4, 1, none⟩ = some (.slice (some ⟨gt2, 0, none⟩) m2 ct2)) ∧ (w'.cell? ⟨g6, 0, none⟩ = some (.slice (some ⟨gp3, 0, none⟩) n3 cp3) ∧ w'.cell? ⟨g6, 1, none⟩ = some (.slice (some ⟨gt3, 0, none⟩) m3 ct3))) (first | exact ⟨bx3 (T := 29) (h8.bl slc), bx2 (T := 57) (h4.bl slc), bx2 (T := 57) (h6.bl slc)⟩) (first | (go_at_call 53; (with_reducible refine (RatSign_any _ (hR8.bl slc)).mono ?_); rw [hsg.out]; rintro e v1 ⟨rfl, hv1⟩) | (go_at_call 51; (with_reducible refine (WorstShape_yes _ (MeAt.bl hMe2 slc) hA.out.fitX.ok hA.out.shX).mono ?_); rintro e v2 ⟨s2_, A2_, n2_, c2_, B2_, m2_, d2_, rfl, hR2, hv2⟩) | (go_at_call 54; (with_reducible refine (RatCmp_yes _ (hR2.bl slc) (hR8.bl slc) hoX.out).mono ?_); rw [hzX.out]; rintro e v3 ⟨rfl, hv3⟩) | (go_at_call 51; (with_reducible refine (WorstShape_yes _ (MeAt.bl hMe3 slc) hA.out.fitY.ok hA.out.shY).mono ?_); rintro e v4 ⟨s4_, A4_, n4_, c4_, B4_, m4_, d4_, rfl, hR4, hv4⟩) | (go_at_call 54; (with_reducible refine (RatCmp_yes _ (hR4.bl slc) (hR8.bl slc) hoY.out).mono ?_); rw [hzY.out]; rintro e v5 ⟨rfl, hv5⟩))
                all_goals (go_wp2_with fail)
                all_goals (go_ret)
                all_goals exact ⟨rfl, slc⟩
            · have hzX := Lib.hid hzX
              rcases hcY with hzY | hzY
              · have hzY := Lib.hid hzY
                go_upto_region 14 with (fail)
                go_region_held3 (fun w' => (w'.cell? ⟨g8, 0, none⟩ = some (.bool s8) ∧ w'.cell? ⟨g8, 1, none⟩ = some (.slice A8 n8 c8) ∧ w'.cell? ⟨g8, 2, none⟩ = some (.slice B8 m8 d8)) ∧ (w'.cell? ⟨g4, 0, none⟩ = some (.slice (some ⟨gp2, 0, none⟩) n2 cp2) ∧ w'.cell? ⟨g4, 1, none⟩ = some (.slice (some ⟨gt2, 0, none⟩) m2 ct2)) ∧ (w'.cell? ⟨g6, 0, none⟩ = some (.slice (some ⟨gp3, 0, none⟩) n3 cp3) ∧ w'.cell? ⟨g6, 1, none⟩ = some (.slice (some ⟨gt3, 0, none⟩) m3 ct3))) (first | exact ⟨bx3 (T := 29) (h8.bl slc), bx2 (T := 57) (h4.bl slc), bx2 (T := 57) (h6.bl slc)⟩) (first | (go_at_call 53; (with_reducible refine (RatSign_any _ (hR8.bl slc)).mono ?_); rw [hsg.out]; rintro e v1 ⟨rfl, hv1⟩) | (go_at_call 51; (with_reducible refine (WorstShape_yes _ (MeAt.bl hMe2 slc) hA.out.fitX.ok hA.out.shX).mono ?_); rintro e v2 ⟨s2_, A2_, n2_, c2_, B2_, m2_, d2_, rfl, hR2, hv2⟩) | (go_at_call 54; (with_reducible refine (RatCmp_yes _ (hR2.bl slc) (hR8.bl slc) hoX.out).mono ?_); rw [hzX.out]; rintro e v3 ⟨rfl, hv3⟩) | (go_at_call 51; (with_reducible refine (WorstShape_yes _ (MeAt.bl hMe3 slc) hA.out.fitY.ok hA.out.shY).mono ?_); rintro e v4 ⟨s4_, A4_, n4_, c4_, B4_, m4_, d4_, rfl, hR4, hv4⟩) | (go_at_call 54; (with_reducible refine (RatCmp_yes _ (hR4.bl slc) (hR8.bl slc) hoY.out).mono ?_); rw [hzY.out]; rintro e v5 ⟨rfl, hv5⟩))
                all_goals (go_wp2_with fail)
                all_goals (go_ret)
                all_goals exact ⟨rfl, slc⟩
              · have hzY := Lib.hid hzY
                go_upto_region 14 with (fail)
                go_region_held3 (fun w' => (w'.cell? ⟨g8, 0, none⟩ = some (.bool s8) ∧ w'.cell? ⟨g8, 1, none⟩ = some (.slice A8 n8 c8) ∧ w'.cell? ⟨g8, 2, none⟩ = some (.slice B8 m8 d8)) ∧ (w'.cell? ⟨g4, 0, none⟩ = some (.slice (some ⟨gp2, 0, none⟩) n2 cp2) ∧ w'.cell? ⟨g4, 1, none⟩ = some (.slice (some ⟨gt2, 0, none⟩) m2 ct2)) ∧ (w'.cell? ⟨g6, 0, none⟩ = some (.slice (some ⟨gp3, 0, none⟩) n3 cp3) ∧ w'.cell? ⟨g6, 1, none⟩ = some (.slice (some ⟨gt3, 0, none⟩) m3 ct3))) (first | exact ⟨bx3 (T := 29) (h8.bl slc), bx2 (T := 57) (h4.bl slc), bx2 (T := 57) (h6.bl slc)⟩) (first | (go_at_call 53; (with_reducible refine (RatSign_any _ (hR8.bl slc)).mono ?_); rw [hsg.out]; rintro e v1 ⟨rfl, hv1⟩) | (go_at_call 51; (with_reducible refine (WorstShape_yes _ (MeAt.bl hMe2 slc) hA.out.fitX.ok hA.out.shX).mono ?_); rintro e v2 ⟨s2_, A2_, n2_, c2_, B2_, m2_, d2_, rfl, hR2, hv2⟩) | (go_at_call 54; (with_reducible refine (RatCmp_yes _ (hR2.bl slc) (hR8.bl slc) hoX.out).mono ?_); rw [hzX.out]; rintro e v3 ⟨rfl, hv3⟩) | (go_at_call 51; (with_reducible refine (WorstShape_yes _ (MeAt.bl hMe3 slc) hA.out.fitY.ok hA.out.shY).mono ?_); rintro e v4 ⟨s4_, A4_, n4_, c4_, B4_, m4_, d4_, rfl, hR4, hv4⟩) | (go_at_call 54; (with_reducible refine (RatCmp_yes _ (hR4.bl slc) (hR8.bl slc) hoY.out).mono ?_); rw [hzY.out]; rintro e v5 ⟨rfl, hv5⟩))
                all_goals (go_wp2_with fail)
                all_goals (go_ret)
                all_goals exact ⟨rfl, slc⟩
end

end Go.Proofs.YtajlahjghapbkaaGreat
