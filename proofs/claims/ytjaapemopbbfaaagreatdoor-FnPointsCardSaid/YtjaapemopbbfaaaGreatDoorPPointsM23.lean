/- Lemmas. -/
import Derived.Test.YtjaapemopbbfaaaGreatDoorRows
import Derived.Test.YtjaapemopbbfaaaGreatDoorPPointsM22
import Derived.Deep.Cut
import Derived.Deep.DeepCutAuto
namespace Go.Proofs.YtjaapemopbbfaaaGreatDoor
section
open Go.RowKit
set_option maxRecDepth 100000 in
set_option maxHeartbeats 32000000 in
theorem l04Add_nn (w : World) {s : Bool} {A : Option Addr} {n c : Nat} {B : Option Addr} {m d : Nat} {x : Int} {D : Nat} {s' : Bool} {A' : Option Addr} {n' c' : Nat} {B' : Option Addr} {m' d' : Nat} {x' : Int} {D' : Nat} (h : IsR w s A n c B m d x D) (k : IsR w s' A' n' c' B' m' d' x' D') (hn : n ≤ 24) (hm : m ≤ 24) (hn' : n' ≤ 24) (hm' : m' ≤ 24) (hD : 0 < D) (hD' : 0 < D') (h12 : ¬ (D = 1 ∧ D' = 1)) :
    Calls Tryz.prog 143 #[.agg #[.bool s, .slice A n c, .slice B m d], .agg #[.bool s', .slice A' n' c', .slice B' m' d']] w fun e w' => ∃ s1 A1 n1 c1 B1 m1 d1, e = .returned (.agg #[.bool s1, .slice A1 n1 c1, .slice B1 m1 d1]) ∧ OwR 3 w.heap.size w' s1 A1 n1 c1 B1 m1 d1 (ofFrac (x * D' + x' * D) (D * D')) ∧ Bl w w' := by
  have hm1 : (dig (x.natAbs * D')).length ≤ 59 := Nat.le_trans (dig_mul_len (Nat.le_of_eq h.num.lenN) (Nat.le_of_eq k.dn.lenN)) (by omega)
  have hm2 : (dig (x'.natAbs * D)).length ≤ 59 := Nat.le_trans (dig_mul_len (Nat.le_of_eq k.num.lenN) (Nat.le_of_eq h.dn.lenN)) (by omega)
  have hlD : (dig (D * D')).length ≤ 1048570 := Nat.le_trans (dig_mul_len (Nat.le_of_eq h.dn.lenN) (Nat.le_of_eq k.dn.lenN)) (by omega)
  have hlz : (dig (x * (D' : Int) + x' * (D : Int)).natAbs).length ≤ 1048570 := by
    have e1 : (dig (x * (D' : Int)).natAbs).length ≤ 59 := by rw [Int.natAbs_mul, Int.natAbs_natCast]; exact hm1
    have e2 : (dig (x' * (D : Int)).natAbs).length ≤ 59 := by rw [Int.natAbs_mul, Int.natAbs_natCast]; exact hm2
    exact Nat.le_trans (add_len e1 e2) (by omega)
  have hDD : 0 < D * D' := Nat.mul_pos hD hD'
  go_enter Tryz.func143, Tryz.ntmps143
  go_upto_region 1 with (fail)
  refine wp_gen (fun W => Bl w W ∧ Blk W (w.heap.size) 26 #[.bool s, .slice A n c, .slice B m d] ∧ Blk W (w.heap.size + 1) 26 #[.bool s', .slice A' n' c', .slice B' m' d'] ∧ Wk 3 26 (w.heap.size + 1 + 1) W) ⟨slc, bts, bts, bts⟩ ?_
  rintro W ⟨hbW, hx, hx', hr⟩
  go_cut [16] (fun s16 wx => s16 = .bool false ∧ Bl W wx)
  case first =>
    obtain ⟨i0, i1, i2⟩ := bx3 hx
    obtain ⟨j0, j1, j2⟩ := bx3 hx'
    by_cases h1 : D = 1
    · have h2 := Lib.hid (fun h2 : D' = 1 => h12 ⟨h1, h2⟩)
      have h1 := Lib.hid h1; rename_i h_; clear h_
      clear h12
      go_wp2_with fail
      refine (l04One_yes _ (h1.out ▸ RdI.bl h.dn hbW)).mono ?_
      rintro e w1 ⟨rfl, q1, rfl⟩
      have hb1 : Bl W (W.drewN q1) := (Bl.refl W).drewN q1
      obtain ⟨i0, i1, i2⟩ := bx3 (hx.bl hb1)
      obtain ⟨j0, j1, j2⟩ := bx3 (hx'.bl hb1)
      go_wp2_with fail
      refine (l04One_no _ (RdI.bl k.dn (hbW.next hb1)) h2.out).mono ?_
      rintro e w2 ⟨rfl, q2, rfl⟩
      have hb2 := hb1.drewN q2
      go_wp2_with fail
      go_meet
      exact ⟨rfl, (Bl.refl W).drewN _⟩
    · have h1 := Lib.hid h1; rename_i h_; clear h_
      clear h12
      go_wp2_with fail
      refine (l04One_no _ (RdI.bl h.dn hbW) h1.out).mono ?_
      rintro e w1 ⟨rfl, q1, rfl⟩
      have hb1 : Bl W (W.drewN q1) := (Bl.refl W).drewN q1
      go_wp2_with fail
      go_meet
      exact ⟨rfl, hb1⟩
  case rest =>
    obtain ⟨rfl, hb1⟩ := hcut
    obtain ⟨W1, rfl⟩ : ∃ W1 : World, W1 = wc := ⟨_, rfl⟩
    have hx := hx.bl hb1
    have hx' := hx'.bl hb1
    have hr := hr.bl hb1
    have hbW := hbW.next hb1
    clear hb1 h12
    have hz1 := hr.lt
    go_wp2_with fail
    go_cut [6] (fun s6 wx => ∃ (g6 : Nat) (s5 : Bool) (A5 : Option Addr) (n5 c5 : Nat), s6 = .pointer (some ⟨g6, 0, none⟩) ∧ Blk wx g6 24 #[.bool s5, .slice A5 n5 c5] ∧ OwB 3 (w.heap.size + 1 + 1 + 1) wx s5 A5 n5 c5 (x * (D' : Int)) ∧ n5 ≤ 59 ∧ Bl w wx ∧ Bl W1 wx)
    case first =>
      go_region_held3 (fun w' => (w'.cell? ⟨w.heap.size, 0, none⟩ = some (.bool s) ∧ w'.cell? ⟨w.heap.size, 1, none⟩ = some (.slice A n c) ∧ w'.cell? ⟨w.heap.size, 2, none⟩ = some (.slice B m d)) ∧ (w'.cell? ⟨w.heap.size + 1, 0, none⟩ = some (.bool s') ∧ w'.cell? ⟨w.heap.size + 1, 1, none⟩ = some (.slice A' n' c') ∧ w'.cell? ⟨w.heap.size + 1, 2, none⟩ = some (.slice B' m' d'))) (first | exact ⟨bx3 (T := 26) bts, bx3 (T := 26) bts⟩) (first | (go_at_call 190; refine (l02Mul_any _ (h.num.bl slc) (k.dn.bl slc) (by omega) (by omega)).mono ?_; rintro e w4 ⟨A4, n4, c4, rfl, hO4, hb4⟩; (have hz4 : w.heap.size + 1 + 1 < w4.heap.size := Wk.lt (k := 3) (T := 26) bts); (first | have hy4 : W1.heap.size + 1 ≤ w4.heap.size := (by have := Bl.size hb4; first | omega | (simp at this; omega)) | have hy4 : W1.heap.size ≤ w4.heap.size := (by have := Bl.size hb4; first | omega | (simp at this; omega))); (first | have hq : Wk 2 24 _ _ := wk_newd hb4 | have hq : Wk 2 24 _ _ := wk_new hb4 | have hq := Wk.bl hq hb4 | skip); (have hl4 : n4 ≤ 59 := by rw [← hO4.rd.lenN]; exact hm1)) | (go_at_call 189; refine (l03Make_any _ _ (RdI.bl hO4.rd slc) (by omega)).mono ?_; rintro e w5 ⟨s5, A5, n5, c5, rfl, hs5, hO5, hb5⟩; (have hz5 : w.heap.size + 1 + 1 < w5.heap.size := Wk.lt (k := 3) (T := 26) bts); (first | have hy5 : w4.heap.size + 1 ≤ w5.heap.size := (by have := Bl.size hb5; first | omega | (simp at this; omega)) | have hy5 : w4.heap.size ≤ w5.heap.size := (by have := Bl.size hb5; first | omega | (simp at this; omega))); (first | have hq : Wk 2 24 _ _ := wk_newd hb5 | have hq : Wk 2 24 _ _ := wk_new hb5 | have hq := Wk.bl hq hb5 | skip); (have hl5 : n5 ≤ 59 := by rw [← hO5.rd.lenN]; exact hm1); (try obtain ⟨⟨y0, y1⟩, y2, y3⟩ := hq.out2)))
      · skip
        have hOa5 : OwB 3 _ w5 s5 A5 n5 c5 (x * (D' : Int)) := ⟨by rw [hs5.out]; exact mk_sign h.sgn hD', by rw [Int.natAbs_mul, Int.natAbs_natCast]; exact hO5⟩
        go_wp2_with fail
        go_meet
        exact ⟨w5.heap.size, s5, A5, n5, c5, rfl, Blk.new _ _ _, (hOa5.bl slc).mono (by first | omega | (simp; omega) | (simp; done)), hl5, slc, slc⟩
      · skip
        have hOa5 : OwB 3 _ w5 s5 A5 n5 c5 (x * (D' : Int)) := ⟨by rw [hs5.out]; exact mk_sign h.sgn hD', by rw [Int.natAbs_mul, Int.natAbs_natCast]; exact hO5⟩
        go_wp2_with fail
        go_meet
        exact ⟨w4.heap.size, s5, A5, n5, c5, rfl, Wk.put2 hq _ _, ((hOa5.far (by have := hy4; have := hy5; first | omega | (simp; omega) | (simp; done)) _).far (by have := hy4; have := hy5; first | omega | (simp; omega) | (simp; done)) _).mono (by first | omega | (simp; omega) | (simp; done)), hl5, slc, slc⟩
      · skip
        have hOa5 : OwB 3 _ w5 s5 A5 n5 c5 (x * (D' : Int)) := ⟨by rw [hs5.out]; exact mk_sign h.sgn hD', by rw [Int.natAbs_mul, Int.natAbs_natCast]; exact hO5⟩
        go_wp2_with fail
        go_meet
        exact ⟨W1.heap.size, s5, A5, n5, c5, rfl, Wk.put2 hq _ _, ((hOa5.far (by have := hy4; have := hy5; first | omega | (simp; omega) | (simp; done)) _).far (by have := hy4; have := hy5; first | omega | (simp; omega) | (simp; done)) _).mono (by first | omega | (simp; omega) | (simp; done)), hl5, slc, slc⟩
    case rest =>
      obtain ⟨g6, s5, A5, n5, c5, rfl, hN, hOa, hl5, hb2, hb12⟩ := hcut
      obtain ⟨W2, rfl⟩ : ∃ W2 : World, W2 = wc := ⟨_, rfl⟩
      have hx := hx.bl hb12
      have hx' := hx'.bl hb12
      have hr := hr.bl hb12
      clear hb12 hbW
      have hzW2 := hr.lt
      have hzN := hN.lt
      go_upto_region 5 with (fail)
      go_cut [7] (fun s7 wx => ∃ (g7 : Nat) (s7' : Bool) (A7 : Option Addr) (n7 c7 : Nat), s7 = .pointer (some ⟨g7, 0, none⟩) ∧ Blk wx g7 24 #[.bool s7', .slice A7 n7 c7] ∧ OwB 3 (w.heap.size + 1 + 1 + 1) wx s7' A7 n7 c7 (x' * (D : Int)) ∧ n7 ≤ 59 ∧ Bl w wx ∧ Bl W2 wx)
      case first =>
        go_region_held3 (fun w' => (w'.cell? ⟨w.heap.size, 0, none⟩ = some (.bool s) ∧ w'.cell? ⟨w.heap.size, 1, none⟩ = some (.slice A n c) ∧ w'.cell? ⟨w.heap.size, 2, none⟩ = some (.slice B m d)) ∧ (w'.cell? ⟨w.heap.size + 1, 0, none⟩ = some (.bool s') ∧ w'.cell? ⟨w.heap.size + 1, 1, none⟩ = some (.slice A' n' c') ∧ w'.cell? ⟨w.heap.size + 1, 2, none⟩ = some (.slice B' m' d'))) (first | exact ⟨bx3 (T := 26) bts, bx3 (T := 26) bts⟩) (first | (go_at_call 190; refine (l02Mul_any _ (k.num.bl slc) (h.dn.bl slc) (by omega) (by omega)).mono ?_; rintro e w6 ⟨A6, n6, c6, rfl, hO6, hb6⟩; (have hz6 : w.heap.size + 1 + 1 < w6.heap.size := Wk.lt (k := 3) (T := 26) bts); (first | have hy6 : W2.heap.size + 1 ≤ w6.heap.size := (by have := Bl.size hb6; first | omega | (simp at this; omega)) | have hy6 : W2.heap.size ≤ w6.heap.size := (by have := Bl.size hb6; first | omega | (simp at this; omega))); (first | have hq : Wk 2 24 _ _ := wk_newd hb6 | have hq : Wk 2 24 _ _ := wk_new hb6 | have hq := Wk.bl hq hb6 | skip); (have hl6 : n6 ≤ 59 := by rw [← hO6.rd.lenN]; exact hm2)) | (go_at_call 189; refine (l03Make_any _ _ (RdI.bl hO6.rd slc) (by omega)).mono ?_; rintro e w7 ⟨s7, A7, n7, c7, rfl, hs7, hO7, hb7⟩; (have hz7 : w.heap.size + 1 + 1 < w7.heap.size := Wk.lt (k := 3) (T := 26) bts); (first | have hy7 : w6.heap.size + 1 ≤ w7.heap.size := (by have := Bl.size hb7; first | omega | (simp at this; omega)) | have hy7 : w6.heap.size ≤ w7.heap.size := (by have := Bl.size hb7; first | omega | (simp at this; omega))); (first | have hq : Wk 2 24 _ _ := wk_newd hb7 | have hq : Wk 2 24 _ _ := wk_new hb7 | have hq := Wk.bl hq hb7 | skip); (have hl7 : n7 ≤ 59 := by rw [← hO7.rd.lenN]; exact hm2); (try obtain ⟨⟨y0, y1⟩, y2, y3⟩ := hq.out2)))
        · skip
          have hOb7 : OwB 3 _ w7 s7 A7 n7 c7 (x' * (D : Int)) := ⟨by rw [hs7.out]; exact mk_sign k.sgn hD, by rw [Int.natAbs_mul, Int.natAbs_natCast]; exact hO7⟩
          go_wp2_with fail
          go_meet
          exact ⟨w7.heap.size, s7, A7, n7, c7, rfl, Blk.new _ _ _, (hOb7.bl slc).mono (by first | omega | (simp; omega) | (simp; done)), hl7, slc, slc⟩
        · skip
          have hOb7 : OwB 3 _ w7 s7 A7 n7 c7 (x' * (D : Int)) := ⟨by rw [hs7.out]; exact mk_sign k.sgn hD, by rw [Int.natAbs_mul, Int.natAbs_natCast]; exact hO7⟩
          go_wp2_with fail
          go_meet
          exact ⟨w6.heap.size, s7, A7, n7, c7, rfl, Wk.put2 hq _ _, ((hOb7.far (by have := hy6; have := hy7; first | omega | (simp; omega) | (simp; done)) _).far (by have := hy6; have := hy7; first | omega | (simp; omega) | (simp; done)) _).mono (by first | omega | (simp; omega) | (simp; done)), hl7, slc, slc⟩
        · skip
          have hOb7 : OwB 3 _ w7 s7 A7 n7 c7 (x' * (D : Int)) := ⟨by rw [hs7.out]; exact mk_sign k.sgn hD, by rw [Int.natAbs_mul, Int.natAbs_natCast]; exact hO7⟩
          go_wp2_with fail
          go_meet
          exact ⟨W2.heap.size, s7, A7, n7, c7, rfl, Wk.put2 hq _ _, ((hOb7.far (by have := hy6; have := hy7; first | omega | (simp; omega) | (simp; done)) _).far (by have := hy6; have := hy7; first | omega | (simp; omega) | (simp; done)) _).mono (by first | omega | (simp; omega) | (simp; done)), hl7, slc, slc⟩
      case rest =>
        obtain ⟨g7, s7, A7, n7, c7, rfl, hN', hOb, hl7, hb3, hb23⟩ := hcut
        obtain ⟨W3, rfl⟩ : ∃ W3 : World, W3 = wc := ⟨_, rfl⟩
        have hx := hx.bl hb23
        have hx' := hx'.bl hb23
        have hr := hr.bl hb23
        have hN := hN.bl hb23
        have hOa := hOa.bl hb23
        clear hb23 hb2
        go_upto_region 6 with (fail)
        obtain ⟨i0, i1⟩ := bx2 hN
        obtain ⟨j0, j1⟩ := bx2 hN'
        go_wp2_with fail
        refine (l03Add_any _ hOa.rd hOb.rd (by omega) (by omega)).mono ?_
        rintro e w8 ⟨s8, A8, n8, c8, rfl, hO8, hb8⟩
        have hr8 := hr.bl hb8
        have hz8 : w.heap.size + 1 + 1 < w8.heap.size := hr8.lt
        have hx8 := hx.bl hb8
        have hx8' := hx'.bl hb8
        have hb9 := hb3.next hb8
        have hO8 := hO8.mono (show w.heap.size + 1 + 1 + 1 ≤ W3.heap.size from hr.lt)
        have hl8 : n8 ≤ 1048570 := by rw [← hO8.len]; exact hlz
        clear i0 i1 j0 j1 hx hx' hr hb3 hOa hOb hN hN' hb8
        go_wp2_with fail
        refine wp_gen (fun W4 => Bl w W4 ∧ Blk W4 w8.heap.size 24 #[.bool s8, .slice A8 n8 c8] ∧ Blk W4 (w.heap.size) 26 #[.bool s, .slice A n c, .slice B m d] ∧ Blk W4 (w.heap.size + 1) 26 #[.bool s', .slice A' n' c', .slice B' m' d'] ∧ Wk 3 26 (w.heap.size + 1 + 1) W4 ∧ OwB 3 (w.heap.size + 1 + 1 + 1) W4 s8 A8 n8 c8 (x * (D' : Int) + x' * (D : Int))) ⟨slc, Blk.new _ _ _, hx8.alloc _, hx8'.alloc _, hr8.alloc _, hO8.bl slc⟩ ?_
        rintro W4 ⟨hbW, hN, hx, hx', hr, hO⟩
        go_region_held3 (fun w' => (w'.cell? ⟨w8.heap.size, 0, none⟩ = some (.bool s8) ∧ w'.cell? ⟨w8.heap.size, 1, none⟩ = some (.slice A8 n8 c8)) ∧ (w'.cell? ⟨w.heap.size, 0, none⟩ = some (.bool s) ∧ w'.cell? ⟨w.heap.size, 1, none⟩ = some (.slice A n c) ∧ w'.cell? ⟨w.heap.size, 2, none⟩ = some (.slice B m d)) ∧ (w'.cell? ⟨w.heap.size + 1, 0, none⟩ = some (.bool s') ∧ w'.cell? ⟨w.heap.size + 1, 1, none⟩ = some (.slice A' n' c') ∧ w'.cell? ⟨w.heap.size + 1, 2, none⟩ = some (.slice B' m' d')) ∧ (w'.cell? ⟨w.heap.size + 1 + 1, 0, none⟩ = some (cellD w' (w.heap.size + 1 + 1) 0) ∧ w'.cell? ⟨w.heap.size + 1 + 1, 1, none⟩ = some (cellD w' (w.heap.size + 1 + 1) 1) ∧ w'.cell? ⟨w.heap.size + 1 + 1, 2, none⟩ = some (cellD w' (w.heap.size + 1 + 1) 2)) ∧ w'.frozen? ⟨w.heap.size + 1 + 1, 0, none⟩ = false ∧ w'.frozen? ⟨w.heap.size + 1 + 1, 1, none⟩ = false ∧ w'.frozen? ⟨w.heap.size + 1 + 1, 2, none⟩ = false) (first | exact ⟨bx2 (T := 24) bts, bx3 (T := 26) bts, bx3 (T := 26) bts, Wk.out3 (T := 26) bts⟩) (first | (go_at_call 190; refine (l02Mul_any _ (h.dn.bl slc) (k.dn.bl slc) (by omega) (by omega)).mono ?_; rintro e w9 ⟨A9, n9, c9, rfl, hO9, hb9⟩; (have hl9 : n9 ≤ 1048570 := by rw [← hO9.rd.lenN]; exact hlD); (have hO10 := hO.rd.mg.bl (Bl.next (Bl.drew (Bl.refl _)) hb9))) | (go_at_call 188; refine (l04Low_any _ s8 hO10 hO9.rd hl8 hl9).mono ?_; rintro e w10 ⟨s1, A1, n1, c1, B1, m1, d1, rfl, hR, hb10⟩))
        have hz9 : W4.heap.size ≤ w9.heap.size := (Bl.size hb9 : W4.drew.heap.size ≤ _)
        have hzr : w.heap.size + 1 + 1 + 1 ≤ W4.heap.size := hr.lt
        have hr := (show Wk 3 26 (w.heap.size + 1 + 1) w10 from bts)
        have hbW : Bl w w10 := slc
        rw [lowS_self hDD hO.1] at hR
        have hR := hR.mono (show w.heap.size + 1 + 1 + 1 ≤ w9.heap.size by omega)
        obtain ⟨v0, x0⟩ := hr.val_ (i := 0) (by omega)
        obtain ⟨v1, x1⟩ := hr.val_ (i := 1) (by omega)
        obtain ⟨v2, x2⟩ := hr.val_ (i := 2) (by omega)
        have hg := hr.lt
        obtain ⟨cs4, hB4, hc4⟩ := hr
        have hf0 := hB4.frozen 0
        have hf1 := hB4.frozen 1
        have hf2 := hB4.frozen 2
        go_wp2_with fail
        exact bodyPost_ret (v := .agg #[.bool s1, .slice A1 n1 c1, .slice B1 m1 d1]) (by simp [results, Tryz.results143, go_sem, x0, x1, x2]) rfl ⟨_, _, _, _, _, _, _, rfl, (((hR.far (by simp) _).far (by simp) _).far (by simp) _).mono (by omega), slc⟩
end

section
open Go.RowKit

theorem l04Add_any (w : World) {s : Bool} {A : Option Addr} {n c : Nat} {B : Option Addr} {m d : Nat} {x : Int} {D : Nat} {s' : Bool} {A' : Option Addr} {n' c' : Nat} {B' : Option Addr} {m' d' : Nat} {x' : Int} {D' : Nat} (h : IsR w s A n c B m d x D) (k : IsR w s' A' n' c' B' m' d' x' D') (hn : n ≤ 24) (hm : m ≤ 24) (hn' : n' ≤ 24) (hm' : m' ≤ 24) (hD : 0 < D) (hD' : 0 < D') :
    Calls Tryz.prog 143 #[.agg #[.bool s, .slice A n c, .slice B m d], .agg #[.bool s', .slice A' n' c', .slice B' m' d']] w fun e w' => ∃ s1 A1 n1 c1 B1 m1 d1, e = .returned (.agg #[.bool s1, .slice A1 n1 c1, .slice B1 m1 d1]) ∧ OwR 3 w.heap.size w' s1 A1 n1 c1 B1 m1 d1 (ofFrac (x * D' + x' * D) (D * D')) ∧ Bl w w' := by
  by_cases h12 : D = 1 ∧ D' = 1
  · exact l04Add_ints w h k hn hn' h12.1 h12.2
  · exact l04Add_nn w h k hn hm hn' hm' hD hD' h12
end

end Go.Proofs.YtjaapemopbbfaaaGreatDoor
