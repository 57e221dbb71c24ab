import Derived.Test.YtggjdgjkdmgjnaaGreatRows
import Derived.Test.YtggjdgjkdmgjnaaGreatSp11y
import Derived.Test.YtggjdgjkdmgjnaaGreatSp11n
namespace Go.Proofs.YtggjdgjkdmgjnaaGreat

open Go.RowKit

theorem l04Add_any (w : World) {s : Bool} {A : Option Addr} {n c : Nat} {B : Option Addr} {m d : Nat} {x : Int} {D : Nat} {s' : Bool} {A' : Option Addr} {n' c' : Nat} {B' : Option Addr} {m' d' : Nat} {x' : Int} {D' : Nat} (h : IsR w s A n c B m d x D) (k : IsR w s' A' n' c' B' m' d' x' D') (hn : n ≤ 24) (hm : m ≤ 24) (hn' : n' ≤ 24) (hm' : m' ≤ 24) (hD : 0 < D) (hD' : 0 < D') :
    Calls Tryz.prog 122 #[.agg #[.bool s, .slice A n c, .slice B m d], .agg #[.bool s', .slice A' n' c', .slice B' m' d']] w fun e w' => ∃ s1 A1 n1 c1 B1 m1 d1, e = .returned (.agg #[.bool s1, .slice A1 n1 c1, .slice B1 m1 d1]) ∧ OwR 3 w.heap.size w' s1 A1 n1 c1 B1 m1 d1 (ofFrac (x * D' + x' * D) (D * D')) ∧ Bl w w' := by
  by_cases h1 : D = 1
  · by_cases h2 : D' = 1
    · exact l04Add_ints w h k hn hn' h1 h2
    · exact l04Add_yes w h k hn hm hn' hm' hD hD' h1 h2
  · exact l04Add_no w h k hn hm hn' hm' hD hD' h1

set_option maxRecDepth 100000 in
set_option maxHeartbeats 1000000 in
theorem sRatSub_any (w : World) {s : Bool} {A : Option Addr} {n c : Nat} {B : Option Addr} {m d : Nat} {r : RatD} {s' : Bool} {A' : Option Addr} {n' c' : Nat} {B' : Option Addr} {m' d' : Nat} {r' : RatD} (h : RdR w s A n c B m d r) (k : RdR w s' A' n' c' B' m' d' r') :
    Calls Tryz.prog 59 #[.agg #[.bool s, .slice A n c, .slice B m d], .agg #[.bool s', .slice A' n' c', .slice B' m' d']] w fun e w' => ∃ s1 A1 n1 c1 B1 m1 d1, e = .returned (.agg #[.bool s1, .slice A1 n1 c1, .slice B1 m1 d1]) ∧ OwR 3 w.heap.size w' s1 A1 n1 c1 B1 m1 d1 (subR r r') ∧ Bl w w' := by
  by_cases ho : OkR r
  · have hok := okR_of ho
    by_cases ho' : OkR r'
    · have hok' := okR_of ho'
      have hI := IsR.out h ho
      have hI' := IsR.out k ho'
      have hL := OkR.lens h ho
      have hL' := OkR.lens k ho'
      have hval := Lib.hid (show subR r r' = ofFrac (rn r * rd r' - rn r' * rd r) (rd r * rd r') by unfold subR; rw [if_pos ⟨ho, ho'⟩])
      clear ho ho'
      go_enter Tryz.func59, Tryz.ntmps59
      go_wp2_with fail
      refine calls_gen (fun W => Bl w W ∧ Blk W (w.heap.size) 34 #[.bool s, .slice A n c, .slice B m d] ∧ Blk W (w.heap.size + 1) 34 #[.bool s', .slice A' n' c', .slice B' m' d'] ∧ Wk 3 34 (w.heap.size + 1 + 1) W) ⟨slc, bts, bts, bts⟩ ?_
      rintro W ⟨hbW, hx, hx', hr⟩
      refine (sRatOk_any _ (h.bl hbW)).mono ?_
      rw [hok]
      rintro e w1 ⟨rfl, hb1⟩
      have hx := hx.bl hb1
      have hx' := hx'.bl hb1
      have hr := hr.bl hb1
      have hbW := hbW.next hb1
      clear hb1
      obtain ⟨i0, i1, i2⟩ := bx3 hx
      obtain ⟨j0, j1, j2⟩ := bx3 hx'
      go_wp2_with fail
      refine (sRatOk_any _ (k.bl hbW)).mono ?_
      rw [hok']
      rintro e w2 ⟨rfl, hb2⟩
      have hx := hx.bl hb2
      have hx' := hx'.bl hb2
      have hr := hr.bl hb2
      have hbW := hbW.next hb2
      clear hb2
      obtain ⟨i0, i1, i2⟩ := bx3 hx
      obtain ⟨j0, j1, j2⟩ := bx3 hx'
      go_wp2_with fail
      have hz2 := hr.lt
      go_region_held3 (fun w' => (w'.cell? ⟨w.heap.size, 0, none⟩ = some (.bool s) ∧ w'.cell? ⟨w.heap.size, 1, none⟩ = some (.slice A n c) ∧ w'.cell? ⟨w.heap.size, 2, none⟩ = some (.slice B m d)) ∧ (w'.cell? ⟨w.heap.size + 1, 0, none⟩ = some (.bool s') ∧ w'.cell? ⟨w.heap.size + 1, 1, none⟩ = some (.slice A' n' c') ∧ w'.cell? ⟨w.heap.size + 1, 2, none⟩ = some (.slice B' m' d')) ∧ (w'.cell? ⟨w.heap.size + 1 + 1, 0, none⟩ = some (cellD w' (w.heap.size + 1 + 1) 0) ∧ w'.cell? ⟨w.heap.size + 1 + 1, 1, none⟩ = some (cellD w' (w.heap.size + 1 + 1) 1) ∧ w'.cell? ⟨w.heap.size + 1 + 1, 2, none⟩ = some (cellD w' (w.heap.size + 1 + 1) 2)) ∧ w'.frozen? ⟨w.heap.size + 1 + 1, 0, none⟩ = false ∧ w'.frozen? ⟨w.heap.size + 1 + 1, 1, none⟩ = false ∧ w'.frozen? ⟨w.heap.size + 1 + 1, 2, none⟩ = false) (first | exact ⟨bx3 (T := 34) bts, bx3 (T := 34) bts, Wk.out3 (T := 34) bts⟩) (first | (go_at_call 123; refine (l04Neg_any _ (RdR.bl hI' slc) (by omega) (by omega)).mono ?_; rintro e w3 ⟨s3, A3, n3, c3, B3, m3, d3, rfl, hN, hb3⟩; (have hl3 : n3 ≤ 24 := by rw [← hN.num.lenN, Int.natAbs_neg, hI'.num.lenN]; omega); (have hl4 : m3 ≤ 24 := by rw [← hN.dn.lenN, hI'.dn.lenN]; omega)) | (go_at_call 122; refine (l04Add_any _ (RdR.bl hI slc) hN (by omega) (by omega) hl3 hl4 hL.2.2 hL'.2.2).mono ?_; rintro e w4 ⟨s1, A1, n1, c1, B1, m1, d1, rfl, hR, hb4⟩))
      have hz3 : w2.heap.size ≤ w3.heap.size := (Bl.size hb3 : w2.drew.heap.size ≤ _)
      have hR := hR.mono (show w.heap.size + 1 + 1 + 1 ≤ w3.heap.size from Nat.le_trans hz2 hz3)
      rw [show rn r * rd r' + -rn r' * rd r = rn r * rd r' - rn r' * rd r by rw [Int.neg_mul]; omega, ← hval.out] at hR
      have hr := (show Wk 3 34 (w.heap.size + 1 + 1) w4 from bts)
      have hbW : Bl w w4 := slc
      obtain ⟨v0, x0⟩ := hr.val_ (i := 0) (by omega)
      obtain ⟨v1, x1⟩ := hr.val_ (i := 1) (by omega)
      obtain ⟨v2, x2⟩ := hr.val_ (i := 2) (by omega)
      have hg := hr.lt
      obtain ⟨cs4, hB4, hc4⟩ := hr
      have hf0 := hB4.frozen 0
      have hf1 := hB4.frozen 1
      have hf2 := hB4.frozen 2
      go_wp2_with fail
      exact bodyPost_ret (v := .agg #[.bool s1, .slice A1 n1 c1, .slice B1 m1 d1]) (by simp [results, Tryz.results59, go_sem, x0, x1, x2]) rfl ⟨_, _, _, _, _, _, _, rfl, (((hR.far (by simp) _).far (by simp) _).far (by simp) _).mono (by omega), slc⟩
    · have hok' := okR_no ho'
      have hval := Lib.hid (show subR r r' = zR by unfold subR; rw [if_neg (fun hk => ho' hk.2)])
      have ho' := Lib.hid ho'; rename_i h_; clear h_
      clear ho
      go_enter Tryz.func59, Tryz.ntmps59
      go_wp2_with fail
      refine calls_gen (fun W => Bl w W ∧ Blk W (w.heap.size) 34 #[.bool s, .slice A n c, .slice B m d] ∧ Blk W (w.heap.size + 1) 34 #[.bool s', .slice A' n' c', .slice B' m' d'] ∧ Wk 3 34 (w.heap.size + 1 + 1) W) ⟨slc, bts, bts, bts⟩ ?_
      rintro W ⟨hbW, hx, hx', hr⟩
      refine (sRatOk_any _ (h.bl hbW)).mono ?_
      rw [hok]
      rintro e w1 ⟨rfl, hb1⟩
      have hx := hx.bl hb1
      have hx' := hx'.bl hb1
      have hr := hr.bl hb1
      have hbW := hbW.next hb1
      clear hb1
      obtain ⟨i0, i1, i2⟩ := bx3 hx
      obtain ⟨j0, j1, j2⟩ := bx3 hx'
      go_wp2_with fail
      refine (sRatOk_any _ (k.bl hbW)).mono ?_
      rw [hok']
      rintro e w2 ⟨rfl, hb2⟩
      have hx := hx.bl hb2
      have hx' := hx'.bl hb2
      have hr := hr.bl hb2
      have hbW := hbW.next hb2
      clear hb2
      obtain ⟨i0, i1, i2⟩ := bx3 hx
      obtain ⟨j0, j1, j2⟩ := bx3 hx'
      obtain ⟨v0, x0⟩ := hr.val_ (i := 0) (by omega)
      obtain ⟨v1, x1⟩ := hr.val_ (i := 1) (by omega)
      obtain ⟨v2, x2⟩ := hr.val_ (i := 2) (by omega)
      have hg := hr.lt
      obtain ⟨cs4, hB4, hc4⟩ := hr
      have hf0 := hB4.frozen 0
      have hf1 := hB4.frozen 1
      have hf2 := hB4.frozen 2
      go_wp2_with fail
      exact bodyPost_ret (v := .agg #[.bool false, .slice none 0 0, .slice none 0 0]) (by simp [results, Tryz.results59, go_sem, x0, x1, x2]) rfl ⟨_, _, _, _, _, _, _, rfl, by rw [hval.out]; exact OwR.zero _ _ _, slc⟩
  · have hok := okR_no ho
    have hval := Lib.hid (show subR r r' = zR by unfold subR; rw [if_neg (fun hk => ho hk.1)])
    have ho := Lib.hid ho; rename_i h_; clear h_
    go_enter Tryz.func59, Tryz.ntmps59
    go_wp2_with fail
    refine calls_gen (fun W => Bl w W ∧ Blk W (w.heap.size) 34 #[.bool s, .slice A n c, .slice B m d] ∧ Blk W (w.heap.size + 1) 34 #[.bool s', .slice A' n' c', .slice B' m' d'] ∧ Wk 3 34 (w.heap.size + 1 + 1) W) ⟨slc, bts, bts, bts⟩ ?_
    rintro W ⟨hbW, hx, hx', hr⟩
    refine (sRatOk_any _ (h.bl hbW)).mono ?_
    rw [hok]
    rintro e w1 ⟨rfl, hb1⟩
    have hx := hx.bl hb1
    have hx' := hx'.bl hb1
    have hr := hr.bl hb1
    have hbW := hbW.next hb1
    clear hb1
    obtain ⟨i0, i1, i2⟩ := bx3 hx
    obtain ⟨j0, j1, j2⟩ := bx3 hx'
    obtain ⟨v0, x0⟩ := hr.val_ (i := 0) (by omega)
    obtain ⟨v1, x1⟩ := hr.val_ (i := 1) (by omega)
    obtain ⟨v2, x2⟩ := hr.val_ (i := 2) (by omega)
    have hg := hr.lt
    obtain ⟨cs4, hB4, hc4⟩ := hr
    have hf0 := hB4.frozen 0
    have hf1 := hB4.frozen 1
    have hf2 := hB4.frozen 2
    go_wp2_with fail
    exact bodyPost_ret (v := .agg #[.bool false, .slice none 0 0, .slice none 0 0]) (by simp [results, Tryz.results59, go_sem, x0, x1, x2]) rfl ⟨_, _, _, _, _, _, _, rfl, by rw [hval.out]; exact OwR.zero _ _ _, slc⟩

end Go.Proofs.YtggjdgjkdmgjnaaGreat
