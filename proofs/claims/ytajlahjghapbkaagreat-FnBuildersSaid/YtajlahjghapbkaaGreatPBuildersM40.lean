/- Lemmas. -/
import Derived.Test.YtajlahjghapbkaaGreatRows
import Derived.Test.YtajlahjghapbkaaGreatPBuildersM39
import Derived.Test.YtajlahjghapbkaaGreatPBuildersM29
import Derived.Test.YtajlahjghapbkaaGreatPBuildersM30
import Derived.Deep.Cut
import Derived.Deep.DeepCutAuto
namespace Go.Proofs.YtajlahjghapbkaaGreat
section
open Go.RowKit

theorem reg_same : sameM ⟨(regM cMQ 1 2).pts.map tp, (regM cMQ 1 2).tris⟩ ⟨cMQ.pts.map tp, cMQ.tris⟩ = false := by
  unfold sameM
  rw [show Same (regM cMQ 1 2).tris cMQ.tris = false by decide +kernel, Bool.and_false]
theorem in_len {w : World} {A : Option Addr} {n c : Nat} (h : RdI w A n c (inPts cMQ)) : n = 0 := by
  have := h.len
  rw [c_inner] at this
  exact this.symm
theorem half_eq2 : eqP ⟨toR (mkRat 1 2), toR (mkRat 1 2)⟩ ⟨ofFrac 1 2, ofFrac 1 2⟩ = true := half_eq

set_option maxRecDepth 100000 in
set_option maxHeartbeats 32000000 in
theorem FnBuilders_any (w0 : World) {Ac : Option Addr} {nc cc : Nat} {lc : List Int} (hc : RdB w0 Ac nc cc lc) :
    Calls Tryz.prog 5 #[.slice Ac nc cc] w0 fun e w' => e = .returned (.bool true) ∧ Bl w0 w' := by
  have hn := hc.small
  by_cases hbig : (nc : Int) > 1048576
  · go_enter Tryz.func5, Tryz.ntmps5
    go_wp2_with fail
    go_ret
    exact ⟨rfl, slc⟩
  · have hsmall : ¬ 1048576 < (nc : Int) := hbig
    go_enter Tryz.func5, Tryz.ntmps5
    go_wp2_with fail
    refine (MakeNum_any _ 1 (by omega) hc).mono ?_
    rintro e w1 ⟨x, rfl, hx, hb1⟩
    obtain ⟨y, hy, hy2⟩ : ∃ y : Nat, (x : Int).tmod 3 = (y : Int) ∧ y ≤ 2 := ⟨x % 3, by rw [Int.tmod_eq_emod_of_nonneg (by omega)]; omega, by omega⟩
    obtain ⟨a, ha, ha2⟩ : ∃ a : Nat, 1 + (y : Int) = (a : Int) ∧ (a = 1 ∨ a = 2 ∨ a = 3) := ⟨y + 1, by omega, by omega⟩
    go_wp2_with fail
    refine (SquareMesh_me _ ha2).mono ?_
    rintro e w2 ⟨v1, rfl, hM1, hb2⟩
    obtain ⟨gp1, n1, cp1, gt1, m1, ct1, rfl, hP1, hT1⟩ := hM1
    have hb2 := hb1.next hb2
    go_wp2_with fail
    refine calls_gen (fun W => Bl w2 W ∧ ∃ g4, Blk W g4 57 #[.slice (some ⟨gp1, 0, none⟩) n1 cp1, .slice (some ⟨gt1, 0, none⟩) m1 ct1] ∧ g4 = w2.heap.size) ⟨by exact slc, _, by exact bts, rfl⟩ ?_
    rintro W ⟨hbW, g4, h4, hg4⟩
    rw [← hg4]
    clear hg4
    have hP1 := RdPS.bl hP1 hbW
    have hT1 := RdTS.bl hT1 hbW
    have hbw := hb2.next hbW
    clear hbW hb1 hb2
    refine (CornerMesh_me _).mono ?_
    rintro e w3 ⟨v2, rfl, hM2, hb3⟩
    obtain ⟨gp2, n2, cp2, gt2, m2, ct2, rfl, hP2, hT2⟩ := hM2
    have h4 := h4.bl hb3
    have hP1 := RdPS.bl hP1 hb3
    have hT1 := RdTS.bl hT1 hb3
    have hbw := hbw.next hb3
    clear hb3
    go_wp2_with fail
    refine calls_gen (fun W => Bl w3 W ∧ ∃ g5, Blk W g5 57 #[.slice (some ⟨gp2, 0, none⟩) n2 cp2, .slice (some ⟨gt2, 0, none⟩) m2 ct2] ∧ g5 = w3.heap.size) ⟨by exact slc, _, by exact bts, rfl⟩ ?_
    rintro W5 ⟨hbW, g5, h5, hg5⟩
    rw [← hg5]
    clear hg5
    have h4 := h4.bl hbW
    have hP1 := RdPS.bl hP1 hbW
    have hT1 := RdTS.bl hT1 hbW
    have hP2 := RdPS.bl hP2 hbW
    have hT2 := RdTS.bl hT2 hbW
    have hbw := hbw.next hbW
    clear hbW
    refine (SetRegion_yes _ ⟨gp2, n2, cp2, gt2, m2, ct2, rfl, hP2, hT2⟩ cMQ_ok 1 2 (by decide) (by omega) (by omega)).mono ?_
    rintro e w6 ⟨v3, rfl, hM3, hb6⟩
    obtain ⟨gp3, n3, cp3, gt3, m3, ct3, rfl, hP3, hT3⟩ := hM3
    have h4 := h4.bl hb6
    have h5 := h5.bl hb6
    have hP1 := RdPS.bl hP1 hb6
    have hT1 := RdTS.bl hT1 hb6
    have hP2 := RdPS.bl hP2 hb6
    have hT2 := RdTS.bl hT2 hb6
    have hbw := hbw.next hb6
    clear hb6
    go_upto_region 7 with (fail)
    refine wp_gen (fun W => Bl w6 W ∧ ∃ g6, Blk W g6 57 #[.slice (some ⟨gp3, 0, none⟩) n3 cp3, .slice (some ⟨gt3, 0, none⟩) m3 ct3] ∧ g6 = w6.heap.size) ⟨by exact slc, _, by exact bts, rfl⟩ ?_
    rintro W7 ⟨hbW, g6, h6, hg6⟩
    rw [← hg6]
    clear hg6
    have h4 := h4.bl hbW
    have h5 := h5.bl hbW
    have hP1 := RdPS.bl hP1 hbW
    have hT1 := RdTS.bl hT1 hbW
    have hP2 := RdPS.bl hP2 hbW
    have hT2 := RdTS.bl hT2 hbW
    have hP3 := RdPS.bl hP3 hbW
    have hT3 := RdTS.bl hT3 hbW
    have hbw := hbw.next hbW
    clear hbW
    obtain ⟨hF1, hF2, hF3, hF4, hF5⟩ := sqF ha2
    have hMe1 : MeAt W7 (.agg #[.slice (some ⟨gp1, 0, none⟩) n1 cp1, .slice (some ⟨gt1, 0, none⟩) m1 ct1]) (sqMQ a) := ⟨gp1, n1, cp1, gt1, m1, ct1, rfl, hP1, hT1⟩
    have hMe2 : MeAt W7 (.agg #[.slice (some ⟨gp2, 0, none⟩) n2 cp2, .slice (some ⟨gt2, 0, none⟩) m2 ct2]) cMQ := ⟨gp2, n2, cp2, gt2, m2, ct2, rfl, hP2, hT2⟩
    obtain ⟨aa, haa⟩ : ∃ z, a * a = z := ⟨_, rfl⟩
    have ha3 : a ≤ 3 := by omega
    have haa2 : aa ≤ 9 := by rw [← haa]; exact Nat.mul_le_mul ha3 ha3
    have hEa := Lib.hid (show eqR (areaM (sqMQ a)) (ofFrac (aa : Int) 1) = true by rw [hF2, haa]; exact eq_nat (by omega))
    have hEc := Lib.hid (show eqR (areaM cMQ) (ofFrac 3 1) = true by rw [c_area]; exact eq_nat (a := 3) (by omega))
    have hn1 : (sqMQ a).pts.length = n1 := by rw [← hP1.len, List.length_map]
    have hm1 : 4 * a * a = m1 := by rw [← hF3]; exact hT1.len
    obtain ⟨ix, hix⟩ : ∃ z, (a + 1) * (a + 1) = z := ⟨_, rfl⟩
    rw [hix] at hF4 hF5
    have hix2 : ix < n1 := by rw [← hn1]; exact hF5
    have hix16 : ix ≤ 16 := by rw [← hix]; exact Nat.mul_le_mul (show a + 1 ≤ 4 by omega) (show a + 1 ≤ 4 by omega)
    have u1 : IntKind.i64.wrap ((a : Int) * (a : Int)) = (aa : Int) := by rw [← haa, ← Int.natCast_mul]; exact IntWalk.i64_in _ (by omega)
    have u2 : IntKind.i64.wrap (4 * (a : Int)) = ((4 * a : Nat) : Int) := by rw [Int.natCast_mul]; exact IntWalk.i64_in _ (by omega)
    obtain ⟨a4, ha4⟩ : ∃ z, 4 * a = z := ⟨_, rfl⟩
    rw [ha4] at u2 hm1
    have hm36 : m1 ≤ 36 := by rw [← hm1]; exact Nat.mul_le_mul (show a4 ≤ 12 by omega) ha3
    have u3 : IntKind.i64.wrap ((a4 : Int) * (a : Int)) = (m1 : Int) := by rw [← hm1, ← Int.natCast_mul]; exact IntWalk.i64_in _ (by omega)
    obtain ⟨b, hb⟩ : ∃ z, a + 1 = z := ⟨_, rfl⟩
    have u4 : IntKind.i64.wrap ((a : Int) + 1) = (b : Int) := by rw [← hb]; exact IntWalk.i64_in _ (by omega)
    rw [hb] at hix
    have u5 : IntKind.i64.wrap ((b : Int) * (b : Int)) = (ix : Int) := by rw [← hix, ← Int.natCast_mul]; exact IntWalk.i64_in _ (by omega)
    have hixi : (ix : Int) < (n1 : Int) := by omega
    obtain ⟨sq, Aq, nq, cq, Bq, mq, dq, tq, Cq, iq, eq, Dq, jq, fq, ⟨y0, y1, y2, y3, y4, y5⟩, hRx, hRy⟩ := pts_lit hP1 hix2
    rw [pix_map (by omega), hF4] at hRx hRy
    replace hRx : RdR W7 sq Aq nq cq Bq mq dq (toR (mkRat 1 2)) := hRx
    replace hRy : RdR W7 tq Cq iq eq Dq jq fq (toR (mkRat 1 2)) := hRy
    have hgl1 : gp1 < W7.heap.size := by obtain ⟨ad, e, hlt, _⟩ := hP1.cells 0 (by omega); injection e with e; rw [← e] at hlt; exact hlt
    clear haa hm1 hix ha4 hb hF2 hF3 hF4 hF5 hn1 ha ha2 hy
    go_region_held3 (fun w' => (w'.cell? ⟨g4, 0, none⟩ = some (.slice (some ⟨gp1, 0, none⟩) n1 cp1) ∧ w'.cell? ⟨g4, 1, none⟩ = some (.slice (some ⟨gt1, 0, none⟩) m1 ct1)) ∧ (w'.cell? ⟨g5, 0, none⟩ = some (.slice (some ⟨gp2, 0, none⟩) n2 cp2) ∧ w'.cell? ⟨g5, 1, none⟩ = some (.slice (some ⟨gt2, 0, none⟩) m2 ct2)) ∧ (w'.cell? ⟨g6, 0, none⟩ = some (.slice (some ⟨gp3, 0, none⟩) n3 cp3) ∧ w'.cell? ⟨g6, 1, none⟩ = some (.slice (some ⟨gt3, 0, none⟩) m3 ct3)) ∧ w'.cell? ⟨gp1, ix * 6, none⟩ = some (.bool sq) ∧ w'.cell? ⟨gp1, ix * 6 + 1, none⟩ = some (.slice Aq nq cq) ∧ w'.cell? ⟨gp1, ix * 6 + 2, none⟩ = some (.slice Bq mq dq) ∧ w'.cell? ⟨gp1, ix * 6 + 3, none⟩ = some (.bool tq) ∧ w'.cell? ⟨gp1, ix * 6 + 4, none⟩ = some (.slice Cq iq eq) ∧ w'.cell? ⟨gp1, ix * 6 + 5, none⟩ = some (.slice Dq jq fq)) (first | exact ⟨bx2 (T := 57) (h4.bl slc), bx2 (T := 57) (h5.bl slc), bx2 (T := 57) (h6.bl slc), (Bl.cellOf (w := W7) (p := ⟨gp1, ix * 6, none⟩) slc hgl1).trans y0, (Bl.cellOf (w := W7) (p := ⟨gp1, ix * 6 + 1, none⟩) slc hgl1).trans y1, (Bl.cellOf (w := W7) (p := ⟨gp1, ix * 6 + 2, none⟩) slc hgl1).trans y2, (Bl.cellOf (w := W7) (p := ⟨gp1, ix * 6 + 3, none⟩) slc hgl1).trans y3, (Bl.cellOf (w := W7) (p := ⟨gp1, ix * 6 + 4, none⟩) slc hgl1).trans y4, (Bl.cellOf (w := W7) (p := ⟨gp1, ix * 6 + 5, none⟩) slc hgl1).trans y5⟩) (first | (go_at_call 38; (with_reducible refine (IsMesh_yes _ (RdPS.bl hP1 slc) (RdTS.bl hT1 slc) hF1).mono ?_); rintro e v1 ⟨rfl, hv1⟩) | (go_at_call 38; (with_reducible refine (IsMesh_yes _ (RdPS.bl hP2 slc) (RdTS.bl hT2 slc) cMQ_ok).mono ?_); rintro e v2 ⟨rfl, hv2⟩) | (go_at_call 39; (with_reducible refine (MeshArea_yes _ (MeAt.bl hMe1 slc) hF1).mono ?_); rintro e v3 ⟨s3_, A3_, n3_, c3_, B3_, m3_, d3_, rfl, hR3, hv3⟩) | (go_at_call 23; (with_reducible refine (RatFromInt_any _ (aa : Int) (by omega) (by omega)).mono ?_); rintro e v4 ⟨s4_, A4_, n4_, c4_, B4_, m4_, d4_, rfl, hR4, hv4⟩) | (go_at_call 21; (with_reducible refine (RatEqual_any _ (hR3.rd.bl slc) (hR4.rd.bl slc)).mono ?_); rw [hEa.out]; rintro e v5 ⟨rfl, hv5⟩) | (go_at_call 39; (with_reducible refine (MeshArea_yes _ (MeAt.bl hMe2 slc) cMQ_ok).mono ?_); rintro e v6 ⟨s6_, A6_, n6_, c6_, B6_, m6_, d6_, rfl, hR6, hv6⟩) | (go_at_call 23; (with_reducible refine (RatFromInt_any _ 3 (by omega) (by omega)).mono ?_); rintro e v7 ⟨s7_, A7_, n7_, c7_, B7_, m7_, d7_, rfl, hR7, hv7⟩) | (go_at_call 21; (with_reducible refine (RatEqual_any _ (hR6.rd.bl slc) (hR7.rd.bl slc)).mono ?_); rw [hEc.out]; rintro e v8 ⟨rfl, hv8⟩) | (go_at_call 40; (with_reducible refine (SameMesh_any (x := ⟨(regM cMQ 1 2).pts.map tp, (regM cMQ 1 2).tris⟩) (y := ⟨cMQ.pts.map tp, cMQ.tris⟩) _ (RdPS.bl hP3 slc) (RdTS.bl hT3 slc) (RdPS.bl hP2 slc) (RdTS.bl hT2 slc)).mono ?_); rw [reg_same]; rintro e v9 ⟨rfl, hv9⟩) | (go_at_call 41; (with_reducible refine (InteriorPoints_yes _ (MeAt.bl hMe2 slc) cMQ_ok).mono ?_); rintro e v10 ⟨A10_, n10_, c10_, rfl, hR10, hv10⟩; (obtain rfl : n10_ = 0 := in_len hR10)) | (go_at_call 42; (with_reducible refine (HalfPoint_any _ 1 1 (by omega) (by omega) (by omega) (by omega)).mono ?_); rintro e v11 ⟨sh, Ah, nh, ch, Bh, mh, dh, th, Ch, ih, eh, Dh, jh, fh, rfl, hP11, hv11⟩) | (go_at_call 20; (with_reducible refine (SamePoint_any (p := ⟨toR (mkRat 1 2), toR (mkRat 1 2)⟩) (q := ⟨ofFrac 1 2, ofFrac 1 2⟩) _ (hRx.bl slc) (hRy.bl slc) (hP11.rx.bl slc) (hP11.ry.bl slc)).mono ?_); rw [half_eq2]; rintro e v12 ⟨rfl, hv12⟩))
    all_goals go_wp2_with fail
    all_goals go_ret
    all_goals exact ⟨rfl, hbw.next (by exact slc)⟩
end

end Go.Proofs.YtajlahjghapbkaaGreat
