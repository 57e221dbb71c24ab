/- Lemmas. -/
import Derived.Test.YtjaapemopbbfaaaGreatDoorRows
import Derived.Test.YtjaapemopbbfaaaGreatDoorPPointsM23
import Derived.Test.YtjaapemopbbfaaaGreatDoorPPointsM15
namespace Go.Proofs.YtjaapemopbbfaaaGreatDoor
section
open Go.RowKit

theorem cell_al {w : World} {o : Obj} {a : Addr} (h : a.block < w.heap.size) : (w.alloc o).cell? a = w.cell? a := Bl.cellOf ((Bl.refl w).alloc o) h
theorem okB_of {w : World} {s : Bool} {A : Option Addr} {n c : Nat} {x : Int} (h : IsB w s A n c x) (hn : n ≤ 60) : okB s (ints (dig x.natAbs)) = true := by
  refine okB_yes ⟨⟨_, rfl, by rw [h.len]; exact hn⟩, fun hs => ?_⟩
  rw [ints_len]
  rw [h.1] at hs
  have : x < 0 := by simpa using hs
  exact dig_len_pos.2 (by omega)
set_option maxRecDepth 100000 in
set_option maxHeartbeats 8000000 in
theorem RatMake_any (w : World) {s : Bool} {A : Option Addr} {n c : Nat} {x : Int} {t : Bool} {B : Option Addr} {m d : Nat} {y : Int} (h : IsB w s A n c x) (k : IsB w t B m d y) (hn : n ≤ 60) (hm : m ≤ 60) (hy : y ≠ 0) :
    Calls Tryz.prog 100 #[.agg #[.bool s, .slice A n c], .agg #[.bool t, .slice B m d]] w fun e w' => ∃ s1 A1 n1 c1 B1 m1 d1, e = .returned (.agg #[.bool s1, .slice A1 n1 c1, .slice B1 m1 d1]) ∧ OwR 3 w.heap.size w' s1 A1 n1 c1 B1 m1 d1 (lowS (s != t) x.natAbs y.natAbs) ∧ Bl w w' := by
  have hB := okB_of h hn
  have hB' := okB_of k hm
  have hy0 : 0 < y.natAbs := by omega
  have hm0 : 0 < m := by rw [← k.len]; exact dig_len_pos.2 hy0
  have hne : ((m : Int) == 0) = false := by simp; omega
  have hlow := Lib.hid (show lowS (s != t) x.natAbs y.natAbs = ofFrac (sx (s != t) x.natAbs) y.natAbs by unfold lowS; rw [if_neg (by omega)])
  clear hy
  go_enter Tryz.func100, Tryz.ntmps100
  go_wp2_with fail
  refine calls_gen (fun W => Bl w W ∧ Blk W (w.heap.size) 24 #[.bool s, .slice A n c] ∧ Blk W (w.heap.size + 1) 24 #[.bool t, .slice B m d] ∧ Wk 3 26 (w.heap.size + 1 + 1) W) ⟨slc, bts, bts, bts⟩ ?_
  rintro W ⟨hbW, hx, hx', hr⟩
  refine (BigIntOk_any _ (RdI.bl h.mg hbW)).mono ?_
  rw [hB]
  rintro e w1 ⟨rfl, hb1⟩
  have hx := hx.bl hb1
  have hx' := hx'.bl hb1
  have hr := hr.bl hb1
  have hbW := hbW.next hb1
  clear hb1
  obtain ⟨i0, i1⟩ := bx2 hx
  obtain ⟨j0, j1⟩ := bx2 hx'
  go_wp2_with fail
  refine (BigIntOk_any _ (RdI.bl k.mg hbW)).mono ?_
  rw [hB']
  rintro e w2 ⟨rfl, hb2⟩
  have hx := hx.bl hb2
  have hx' := hx'.bl hb2
  have hr := hr.bl hb2
  have hbW := hbW.next hb2
  clear hb2
  obtain ⟨i0, i1⟩ := bx2 hx
  obtain ⟨j0, j1⟩ := bx2 hx'
  have hz2 := hr.lt
  go_wp2_with fail
  go_region_held3 (fun w' => (w'.cell? ⟨w.heap.size, 0, none⟩ = some (.bool s) ∧ w'.cell? ⟨w.heap.size, 1, none⟩ = some (.slice A n c)) ∧ (w'.cell? ⟨w.heap.size + 1, 0, none⟩ = some (.bool t) ∧ w'.cell? ⟨w.heap.size + 1, 1, none⟩ = some (.slice B m d)) ∧ (w'.cell? ⟨w.heap.size + 1 + 1, 0, none⟩ = some (cellD w' (w.heap.size + 1 + 1) 0) ∧ w'.cell? ⟨w.heap.size + 1 + 1, 1, none⟩ = some (cellD w' (w.heap.size + 1 + 1) 1) ∧ w'.cell? ⟨w.heap.size + 1 + 1, 2, none⟩ = some (cellD w' (w.heap.size + 1 + 1) 2)) ∧ w'.frozen? ⟨w.heap.size + 1 + 1, 0, none⟩ = false ∧ w'.frozen? ⟨w.heap.size + 1 + 1, 1, none⟩ = false ∧ w'.frozen? ⟨w.heap.size + 1 + 1, 2, none⟩ = false) (first | exact ⟨bx2 (T := 24) bts, bx2 (T := 24) bts, Wk.out3 (T := 26) bts⟩) (first | (go_at_call 108; (with_reducible refine (Clone_any _ (RdI.bl h.mg slc) (by omega)).mono ?_); rintro e w3 ⟨A3, n3, c3, rfl, hO3, hb3⟩; (have hO3 : OwI 3 (w.heap.size + 1 + 1 + 1) w3 A3 n3 c3 _ := hO3.mono hz2)) | (go_at_call 109; refine (signed_any _ _ hO3.rd).mono ?_; rintro e w4 ⟨s4, rfl, hs4, hb4⟩) | (go_at_call 108; (with_reducible refine (Clone_any _ (RdI.bl k.mg slc) (by omega)).mono ?_); rintro e w5 ⟨A5, n5, c5, rfl, hO5, hb5⟩; (have hz4 : w.heap.size + 1 + 1 + 1 ≤ w4.heap.size := Wk.lt (k := 3) (T := 26) bts); (have hR5 : OwR 3 (w.heap.size + 1 + 1 + 1) w5 s4 A3 n3 c3 A5 n5 c5 (raw (sx (s != t) x.natAbs) y.natAbs) := OwR.two' (by show OwI _ _ _ _ _ _ (ints (dig (sx (s != t) x.natAbs).natAbs)); rw [sx_abs]; exact hO3.bl hb4) hO5 hb5 hz4 (by rw [hs4.out]; exact (sx_neg _ _).symm)); (have hz5 : w.heap.size + 1 + 1 + 1 ≤ w5.heap.size := Wk.lt (k := 3) (T := 26) bts); (have hl3 : n3 ≤ 60 := by rw [← hO3.rd.lenN, h.len]; exact hn); (have hl5 : n5 ≤ 60 := by rw [← hO5.rd.lenN, k.len]; exact hm)) | (go_at_call 113; refine (reduced_any _ hR5 hz5 (by omega) (by omega) hy0).mono ?_; rintro e w6 ⟨s1, A1, n1, c1, B1, m1, d1, rfl, hR, hb6⟩))
  have hr := (show Wk 3 26 (w.heap.size + 1 + 1) w6 from bts)
  have hbW : Bl w w6 := slc
  rw [← hlow.out] at hR
  obtain ⟨v0, x0⟩ := hr.val_ (i := 0) (by omega)
  obtain ⟨v1, x1⟩ := hr.val_ (i := 1) (by omega)
  obtain ⟨v2, x2⟩ := hr.val_ (i := 2) (by omega)
  have hg := hr.lt
  obtain ⟨cs4, hB4, hc4⟩ := hr
  have hf0 := hB4.frozen 0
  have hf1 := hB4.frozen 1
  have hf2 := hB4.frozen 2
  go_wp2_with fail
  exact bodyPost_ret (v := .agg #[.bool s1, .slice A1 n1 c1, .slice B1 m1 d1]) (by simp [results, Tryz.results100, go_sem, x0, x1, x2]) rfl ⟨_, _, _, _, _, _, _, rfl, (((hR.far (by simp) _).far (by simp) _).far (by simp) _).mono (by omega), slc⟩

theorem int_len {x : Int} (h1 : -9223372036854775808 ≤ x) (h2 : x ≤ 9223372036854775807) : (dig x.natAbs).length ≤ 3 := dig_len_le.2 (by rw [Bs_eq]; omega)
set_option maxRecDepth 100000 in
set_option maxHeartbeats 4000000 in
theorem RatOf_any (w : World) (x y : Int) (h1 : -9223372036854775808 ≤ x) (h2 : x ≤ 9223372036854775807) (g1 : 0 < y) (g2 : y ≤ 9223372036854775807) :
    Calls Tryz.prog 46 #[.int .i64 x, .int .i64 y] w fun e w' => ∃ s1 A1 n1 c1 B1 m1 d1, e = .returned (.agg #[.bool s1, .slice A1 n1 c1, .slice B1 m1 d1]) ∧ OwR 3 w.heap.size w' s1 A1 n1 c1 B1 m1 d1 (ofFrac x y.natAbs) ∧ Bl w w' := by
  have hv := Lib.hid (show lowS (decide (x < 0) != decide (y < 0)) x.natAbs y.natAbs = ofFrac x y.natAbs by
    rw [decide_eq_false (show ¬ y < 0 by omega), Bool.bne_false]
    exact lowS_self (by omega) rfl)
  have hlx := int_len h1 h2
  have hly := int_len (x := y) (by omega) g2
  go_enter Tryz.func46, Tryz.ntmps46
  go_wp2_with fail
  refine calls_gen (fun W => Bl w W ∧ Wk 3 26 (w.heap.size) W) ⟨slc, bts⟩ ?_
  rintro W ⟨hbW, hr⟩
  refine (BigIntOf_any _ x h1 h2).mono ?_
  rintro e w1 ⟨s1, A1, n1, c1, rfl, hO1, hb1⟩
  have hl1 : n1 ≤ 3 := by rw [← hO1.len]; exact hlx
  go_wp2_with fail
  refine (BigIntOf_any _ y (by omega) g2).mono ?_
  rintro e w2 ⟨s2, A2, n2, c2, rfl, hO2, hb2⟩
  have hl2 : n2 ≤ 3 := by rw [← hO2.len]; exact hly
  have hB1 := hO1.rd.bl hb2
  have q1 := Lib.hid hB1.1
  have q2 := Lib.hid hO2.1
  go_wp2_with fail
  refine (RatMake_any _ hB1 hO2.rd (by omega) (by omega) (by omega)).mono ?_
  rintro e w3 ⟨s3, A3, n3, c3, B3, m3, d3, rfl, hR, hb3⟩
  rw [q1.out, q2.out, hv.out] at hR
  have hr2 := (hr.bl hb1).bl hb2
  have hR := hR.mono (show w.heap.size + 1 ≤ w2.heap.size from hr2.lt)
  have hr := hr2.bl hb3
  have hbW := ((hbW.next hb1).next hb2).next hb3
  obtain ⟨v0, x0⟩ := hr.val_ (i := 0) (by omega)
  obtain ⟨v1, x1⟩ := hr.val_ (i := 1) (by omega)
  obtain ⟨v2, x2⟩ := hr.val_ (i := 2) (by omega)
  have hg := hr.lt
  obtain ⟨cs4, hB4, hc4⟩ := hr
  have hf0 := hB4.frozen 0
  have hf1 := hB4.frozen 1
  have hf2 := hB4.frozen 2
  go_wp2_with fail
  exact bodyPost_ret (v := .agg #[.bool s3, .slice A3 n3 c3, .slice B3 m3 d3]) (by simp [results, Tryz.results46, go_sem, x0, x1, x2]) rfl ⟨_, _, _, _, _, _, _, rfl, (((hR.far (by simp) _).far (by simp) _).far (by simp) _).mono (by omega), slc⟩

set_option maxHeartbeats 4000000 in
theorem RatFromInt_any (w : World) (x : Int) (h1 : -9223372036854775808 ≤ x) (h2 : x ≤ 9223372036854775807) :
    Calls Tryz.prog 22 #[.int .i64 x] w fun e w' => ∃ s1 A1 n1 c1 B1 m1 d1, e = .returned (.agg #[.bool s1, .slice A1 n1 c1, .slice B1 m1 d1]) ∧ OwR 3 w.heap.size w' s1 A1 n1 c1 B1 m1 d1 (ofFrac x 1) ∧ Bl w w' := by
  go_enter Tryz.func22, Tryz.ntmps22
  go_wp2_with fail
  refine calls_gen (fun W => Bl w W ∧ Wk 3 26 (w.heap.size) W) ⟨slc, bts⟩ ?_
  rintro W ⟨hbW, hr⟩
  refine (RatOf_any _ x 1 h1 h2 (by omega) (by omega)).mono ?_
  rintro e w3 ⟨s3, A3, n3, c3, B3, m3, d3, rfl, hR, hb3⟩
  have hR : OwR 3 (w.heap.size + 1) w3 s3 A3 n3 c3 B3 m3 d3 (ofFrac x 1) := hR.mono (show w.heap.size + 1 ≤ W.heap.size from hr.lt)
  have hr := hr.bl hb3
  have hbW := hbW.next hb3
  obtain ⟨v0, x0⟩ := hr.val_ (i := 0) (by omega)
  obtain ⟨v1, x1⟩ := hr.val_ (i := 1) (by omega)
  obtain ⟨v2, x2⟩ := hr.val_ (i := 2) (by omega)
  have hg := hr.lt
  obtain ⟨cs4, hB4, hc4⟩ := hr
  have hf0 := hB4.frozen 0
  have hf1 := hB4.frozen 1
  have hf2 := hB4.frozen 2
  go_wp2_with fail
  exact bodyPost_ret (v := .agg #[.bool s3, .slice A3 n3 c3, .slice B3 m3 d3]) (by simp [results, Tryz.results22, go_sem, x0, x1, x2]) rfl ⟨_, _, _, _, _, _, _, rfl, (((hR.far (by simp) _).far (by simp) _).far (by simp) _).mono (by omega), slc⟩


set_option maxRecDepth 100000 in
set_option maxHeartbeats 4000000 in
theorem sBigIntOf_any (w : World) (x : Int) (h1 : -9223372036854775808 < x) (h2 : x ≤ 9223372036854775807) :
    Calls Tryz.prog 145 #[.int .i64 x] w fun e w' => ∃ s' A' n' c', e = .returned (.agg #[.bool s', .slice A' n' c']) ∧ OwB 3 w.heap.size w' s' A' n' c' x ∧ Bl w w' := by
  have hlx := int_len (x := x) (by omega) h2
  have hne : (x == -9223372036854775808) = false := by simp; omega
  rcases Int.lt_or_le x 0 with hx | hx
  · skip
    have hu : Hid (-x = ((x.natAbs : Nat) : Int)) := by unfold Hid; omega
    go_enter Tryz.func145, Tryz.ntmps145
    go_wp2_with fail
    refine calls_gen (fun W => Bl w W ∧ Wk 2 24 (w.heap.size) W) ⟨slc, bts⟩ ?_
    rintro W ⟨hbW, hr⟩
    rw [hu.out]
    refine (sNatOf_any _ x.natAbs (by omega)).mono ?_
    rintro e w3 ⟨A1, k1, c1, rfl, hO, hb3⟩
    have hl : k1 ≤ 60 := by rw [← hO.rd.lenN]; omega
    go_wp2_with fail
    refine (l03Make_any _ true hO.rd hl).mono ?_
    rintro e w4 ⟨s4, A4, n4, c4, rfl, hs4, hO4, hb4⟩
    have hr3 := hr.bl hb3
    have hO5 : OwB 3 (w.heap.size + 1) w4 s4 A4 n4 c4 x := ⟨by rw [hs4.out]; exact signed_neg rfl (fun _ => (decide_eq_true hx).symm), hO4.mono (show w.heap.size + 1 ≤ w3.heap.size from hr3.lt)⟩
    have hr := hr3.bl hb4
    have hbW := (hbW.next hb3).next hb4
    obtain ⟨⟨x0, x1⟩, hf0, hf1⟩ := hr.out2
    have hg := hr.lt
    go_wp2_with fail
    exact bodyPost_ret (v := .agg #[.bool s4, .slice A4 n4 c4]) (by simp [results, Tryz.results145, go_sem, x0, x1]) rfl ⟨_, _, _, _, rfl, ((hO5.far (by simp) _).far (by simp) _).mono (by omega), slc⟩
  · skip
    have hu : Hid (x = ((x.natAbs : Nat) : Int)) := by unfold Hid; omega
    go_enter Tryz.func145, Tryz.ntmps145
    go_wp2_with fail
    refine calls_gen (fun W => Bl w W ∧ Wk 2 24 (w.heap.size) W) ⟨slc, bts⟩ ?_
    rintro W ⟨hbW, hr⟩
    rw [hu.out]
    refine (sNatOf_any _ x.natAbs (by omega)).mono ?_
    rintro e w3 ⟨A1, k1, c1, rfl, hO, hb3⟩
    have hl : k1 ≤ 60 := by rw [← hO.rd.lenN]; omega
    go_wp2_with fail
    refine (l03Make_any _ false hO.rd hl).mono ?_
    rintro e w4 ⟨s4, A4, n4, c4, rfl, hs4, hO4, hb4⟩
    have hr3 := hr.bl hb3
    have hO5 : OwB 3 (w.heap.size + 1) w4 s4 A4 n4 c4 x := ⟨by rw [hs4.out]; exact signed_neg rfl (fun _ => (decide_eq_false (by omega)).symm), hO4.mono (show w.heap.size + 1 ≤ w3.heap.size from hr3.lt)⟩
    have hr := hr3.bl hb4
    have hbW := (hbW.next hb3).next hb4
    obtain ⟨⟨x0, x1⟩, hf0, hf1⟩ := hr.out2
    have hg := hr.lt
    go_wp2_with fail
    exact bodyPost_ret (v := .agg #[.bool s4, .slice A4 n4 c4]) (by simp [results, Tryz.results145, go_sem, x0, x1]) rfl ⟨_, _, _, _, rfl, ((hO5.far (by simp) _).far (by simp) _).mono (by omega), slc⟩

theorem ofFrac_int {x : Int} (h1 : -9223372036854775808 ≤ x) (h2 : x ≤ 9223372036854775807) : ofFrac x 1 = raw x 1 := by
  have hb : (dig 1).length ≤ 24 := dig_len_le.2 (by decide)
  have ha : (dig x.natAbs).length ≤ 24 := Nat.le_trans (int_len h1 h2) (by omega)
  rw [ofFrac_one (Nat.gcd_one_right _), if_pos ⟨ha, hb⟩]
set_option maxRecDepth 100000 in
set_option maxHeartbeats 4000000 in
theorem sRatAdd_any (w : World) {s : Bool} {A : Option Addr} {n c : Nat} {B : Option Addr} {m d : Nat} {r : RatD} {s' : Bool} {A' : Option Addr} {n' c' : Nat} {B' : Option Addr} {m' d' : Nat} {r' : RatD} (h : RdR w s A n c B m d r) (k : RdR w s' A' n' c' B' m' d' r') :
    Calls Tryz.prog 93 #[.agg #[.bool s, .slice A n c, .slice B m d], .agg #[.bool s', .slice A' n' c', .slice B' m' d']] w fun e w' => ∃ s1 A1 n1 c1 B1 m1 d1, e = .returned (.agg #[.bool s1, .slice A1 n1 c1, .slice B1 m1 d1]) ∧ OwR 3 w.heap.size w' s1 A1 n1 c1 B1 m1 d1 (addR r r') ∧ Bl w w' := by
  by_cases ho : OkR r
  · have hok := okR_of ho
    by_cases ho' : OkR r'
    · have hok' := okR_of ho'
      have hI := IsR.out h ho
      have hI' := IsR.out k ho'
      have hL := OkR.lens h ho
      have hL' := OkR.lens k ho'
      have hval := Lib.hid (show addR r r' = ofFrac (rn r * rd r' + rn r' * rd r) (rd r * rd r') by unfold addR; rw [if_pos ⟨ho, ho'⟩])
      clear ho ho'
      go_enter Tryz.func93, Tryz.ntmps93
      go_wp2_with fail
      refine calls_gen (fun W => Bl w W ∧ Blk W (w.heap.size) 26 #[.bool s, .slice A n c, .slice B m d] ∧ Blk W (w.heap.size + 1) 26 #[.bool s', .slice A' n' c', .slice B' m' d'] ∧ Wk 3 26 (w.heap.size + 1 + 1) W) ⟨slc, bts, bts, bts⟩ ?_
      rintro W ⟨hbW, hx, hx', hr⟩
      refine (sRatOk_any _ (h.bl hbW)).mono ?_
      rw [hok]
      rintro e w1 ⟨rfl, hb1⟩
      have hx := hx.bl hb1
      have hx' := hx'.bl hb1
      have hr := hr.bl hb1
      have hbW := hbW.next hb1
      clear hb1
      obtain ⟨i0, i1, i2⟩ := bx3 hx
      obtain ⟨j0, j1, j2⟩ := bx3 hx'
      go_wp2_with fail
      refine (sRatOk_any _ (k.bl hbW)).mono ?_
      rw [hok']
      rintro e w2 ⟨rfl, hb2⟩
      have hx := hx.bl hb2
      have hx' := hx'.bl hb2
      have hr := hr.bl hb2
      have hbW := hbW.next hb2
      clear hb2
      obtain ⟨i0, i1, i2⟩ := bx3 hx
      obtain ⟨j0, j1, j2⟩ := bx3 hx'
      go_wp2_with fail
      refine (l04Add_any _ (RdR.bl hI hbW) (RdR.bl hI' hbW) (by omega) (by omega) (by omega) (by omega) hL.2.2 hL'.2.2).mono ?_
      rintro e w3 ⟨s1, A1, n1, c1, B1, m1, d1, rfl, hR, hb3⟩
      have hR := hR.mono (show w.heap.size + 1 + 1 + 1 ≤ w2.heap.size from hr.lt)
      rw [← hval.out] at hR
      have hx := hx.bl hb3
      have hx' := hx'.bl hb3
      have hr := hr.bl hb3
      have hbW := hbW.next hb3
      clear hb3
      obtain ⟨i0, i1, i2⟩ := bx3 hx
      obtain ⟨j0, j1, j2⟩ := bx3 hx'
      obtain ⟨v0, x0⟩ := hr.val_ (i := 0) (by omega)
      obtain ⟨v1, x1⟩ := hr.val_ (i := 1) (by omega)
      obtain ⟨v2, x2⟩ := hr.val_ (i := 2) (by omega)
      have hg := hr.lt
      obtain ⟨cs4, hB4, hc4⟩ := hr
      have hf0 := hB4.frozen 0
      have hf1 := hB4.frozen 1
      have hf2 := hB4.frozen 2
      go_wp2_with fail
      exact bodyPost_ret (v := .agg #[.bool s1, .slice A1 n1 c1, .slice B1 m1 d1]) (by simp [results, Tryz.results93, go_sem, x0, x1, x2]) rfl ⟨_, _, _, _, _, _, _, rfl, (((hR.far (by simp) _).far (by simp) _).far (by simp) _).mono (by omega), slc⟩
    · have hok' := okR_no ho'
      have hval := Lib.hid (show addR r r' = zR by unfold addR; rw [if_neg (fun hk => ho' hk.2)])
      have ho' := Lib.hid ho'; rename_i h_; clear h_
      clear ho
      go_enter Tryz.func93, Tryz.ntmps93
      go_wp2_with fail
      refine calls_gen (fun W => Bl w W ∧ Blk W (w.heap.size) 26 #[.bool s, .slice A n c, .slice B m d] ∧ Blk W (w.heap.size + 1) 26 #[.bool s', .slice A' n' c', .slice B' m' d'] ∧ Wk 3 26 (w.heap.size + 1 + 1) W) ⟨slc, bts, bts, bts⟩ ?_
      rintro W ⟨hbW, hx, hx', hr⟩
      refine (sRatOk_any _ (h.bl hbW)).mono ?_
      rw [hok]
      rintro e w1 ⟨rfl, hb1⟩
      have hx := hx.bl hb1
      have hx' := hx'.bl hb1
      have hr := hr.bl hb1
      have hbW := hbW.next hb1
      clear hb1
      obtain ⟨i0, i1, i2⟩ := bx3 hx
      obtain ⟨j0, j1, j2⟩ := bx3 hx'
      go_wp2_with fail
      refine (sRatOk_any _ (k.bl hbW)).mono ?_
      rw [hok']
      rintro e w2 ⟨rfl, hb2⟩
      have hx := hx.bl hb2
      have hx' := hx'.bl hb2
      have hr := hr.bl hb2
      have hbW := hbW.next hb2
      clear hb2
      obtain ⟨i0, i1, i2⟩ := bx3 hx
      obtain ⟨j0, j1, j2⟩ := bx3 hx'
      obtain ⟨v0, x0⟩ := hr.val_ (i := 0) (by omega)
      obtain ⟨v1, x1⟩ := hr.val_ (i := 1) (by omega)
      obtain ⟨v2, x2⟩ := hr.val_ (i := 2) (by omega)
      have hg := hr.lt
      obtain ⟨cs4, hB4, hc4⟩ := hr
      have hf0 := hB4.frozen 0
      have hf1 := hB4.frozen 1
      have hf2 := hB4.frozen 2
      go_wp2_with fail
      exact bodyPost_ret (v := .agg #[.bool false, .slice none 0 0, .slice none 0 0]) (by simp [results, Tryz.results93, go_sem, x0, x1, x2]) rfl ⟨_, _, _, _, _, _, _, rfl, by rw [hval.out]; exact OwR.zero _ _ _, slc⟩
  · have hok := okR_no ho
    have hval := Lib.hid (show addR r r' = zR by unfold addR; rw [if_neg (fun hk => ho hk.1)])
    have ho := Lib.hid ho; rename_i h_; clear h_
    go_enter Tryz.func93, Tryz.ntmps93
    go_wp2_with fail
    refine calls_gen (fun W => Bl w W ∧ Blk W (w.heap.size) 26 #[.bool s, .slice A n c, .slice B m d] ∧ Blk W (w.heap.size + 1) 26 #[.bool s', .slice A' n' c', .slice B' m' d'] ∧ Wk 3 26 (w.heap.size + 1 + 1) W) ⟨slc, bts, bts, bts⟩ ?_
    rintro W ⟨hbW, hx, hx', hr⟩
    refine (sRatOk_any _ (h.bl hbW)).mono ?_
    rw [hok]
    rintro e w1 ⟨rfl, hb1⟩
    have hx := hx.bl hb1
    have hx' := hx'.bl hb1
    have hr := hr.bl hb1
    have hbW := hbW.next hb1
    clear hb1
    obtain ⟨i0, i1, i2⟩ := bx3 hx
    obtain ⟨j0, j1, j2⟩ := bx3 hx'
    obtain ⟨v0, x0⟩ := hr.val_ (i := 0) (by omega)
    obtain ⟨v1, x1⟩ := hr.val_ (i := 1) (by omega)
    obtain ⟨v2, x2⟩ := hr.val_ (i := 2) (by omega)
    have hg := hr.lt
    obtain ⟨cs4, hB4, hc4⟩ := hr
    have hf0 := hB4.frozen 0
    have hf1 := hB4.frozen 1
    have hf2 := hB4.frozen 2
    go_wp2_with fail
    exact bodyPost_ret (v := .agg #[.bool false, .slice none 0 0, .slice none 0 0]) (by simp [results, Tryz.results93, go_sem, x0, x1, x2]) rfl ⟨_, _, _, _, _, _, _, rfl, by rw [hval.out]; exact OwR.zero _ _ _, slc⟩
end

section
open Go.RowKit

set_option maxRecDepth 100000 in
set_option maxHeartbeats 4000000 in
theorem sRatFromInt_any (w : World) (x : Int) (h1 : -9223372036854775808 < x) (h2 : x ≤ 9223372036854775807) :
    Calls Tryz.prog 142 #[.int .i64 x] w fun e w' => ∃ s1 A1 n1 c1 B1 m1 d1, e = .returned (.agg #[.bool s1, .slice A1 n1 c1, .slice B1 m1 d1]) ∧ OwR 3 w.heap.size w' s1 A1 n1 c1 B1 m1 d1 (ofFrac x 1) ∧ Bl w w' := by
  have hd : dig 1 = [1] := by rw [dig_pos (by omega), show 1 / Bs = 0 from by rw [Bs_eq], dig_zero]; rfl
  have hd := Lib.hid hd; rename_i h_; clear h_
  have hv := Lib.hid (ofFrac_int (x := x) (by omega) h2)
  go_enter Tryz.func142, Tryz.ntmps142
  go_wp2_with fail
  refine calls_gen (fun W => Bl w W ∧ Wk 3 26 (w.heap.size) W) ⟨slc, bts⟩ ?_
  rintro W ⟨hbW, hr⟩
  refine (sBigIntOf_any _ x h1 h2).mono ?_
  rintro e w3 ⟨s3, A3, n3, c3, rfl, hO3, hb3⟩
  have hr3 := hr.bl hb3
  have hbW := hbW.next hb3
  obtain ⟨⟨x0, x1, x2⟩, hf0, hf1, hf2⟩ := hr3.out3
  have hg := hr3.lt
  have hO3 := hO3.mono (show w.heap.size + 1 ≤ W.heap.size from hr.lt)
  have key : ∀ V : World, V.heap.size = w3.heap.size → OwB 3 (w.heap.size + 1) V s3 A3 n3 c3 x → OwR 3 (w.heap.size + 1) (V.alloc (.cells #[.int .i64 1] 3)) s3 A3 n3 c3 (some ⟨w3.heap.size, 0, none⟩) 1 1 (ofFrac x 1) := by
    intro V hV hO
    have hB : Ow 3 (V.alloc (.cells #[.int .i64 1] 3)) V.heap.size [1] := heap_alloc_new _ _
    have hB : OwI 3 V.heap.size (V.alloc (.cells #[.int .i64 1] 3)) (some ⟨V.heap.size, 0, none⟩) 1 1 (ints (dig 1)) := by
      rw [hd.out]
      exact hB.own (c := 1) (by decide) (Nat.le_refl _) (by decide)
    rw [hv.out, ← hV]
    exact OwR.two' hO.2 hB ((Bl.refl V).alloc _) (by rw [hV]; exact hg) hO.1
  go_wp2_with fail
  exact bodyPost_ret (v := .agg #[.bool s3, .slice A3 n3 c3, .slice (some ⟨w3.heap.size, 0, none⟩) 1 1]) (by simp [results, Tryz.results142, go_sem, x0, x1, x2, cell_al, hg]) rfl ⟨_, _, _, _, _, _, _, rfl, (key _ (by simp) (((hO3.far (by simp) _).far (by simp) _).far (by simp) _)).mono (by omega), slc⟩
end

section
open Go.RowKit

set_option maxRecDepth 100000 in
set_option maxHeartbeats 4000000 in
theorem sPointAt_any (w : World) (x y : Int) (hx1 : -1000000 < x) (hx2 : x ≤ 1000000) (hy1 : -1000000 < y) (hy2 : y ≤ 1000000) :
    Calls Tryz.prog 90 #[.int .i64 x, .int .i64 y] w fun en w' => ∃ s1 A1 n1 c1 B1 m1 d1 t1 C1 i1 e1 D1 j1 f1, en = .returned (.agg #[.bool s1, .slice A1 n1 c1, .slice B1 m1 d1, .bool t1, .slice C1 i1 e1, .slice D1 j1 f1]) ∧ OwP 3 w.heap.size w' s1 A1 n1 c1 B1 m1 d1 t1 C1 i1 e1 D1 j1 f1 ⟨ofFrac x 1, ofFrac y 1⟩ ∧ Bl w w' := by
  go_enter Tryz.func90, Tryz.ntmps90
  go_wp2_with fail
  refine calls_gen (fun W => Bl w W ∧ Wk 6 28 w.heap.size W) ⟨slc, bts⟩ ?_
  rintro W ⟨hbW, hr⟩
  refine (sRatFromInt_any _ x (by omega) (by omega)).mono ?_
  rintro e w2 ⟨s1, A1, n1, c1, B1, m1, d1, rfl, hR1, hb2⟩
  go_wp2_with fail
  refine (sRatFromInt_any _ y (by omega) (by omega)).mono ?_
  rintro e w3 ⟨t1, C1, i1, e1, D1, j1, f1, rfl, hR2, hb3⟩
  have hz : w.heap.size + 1 ≤ W.heap.size := hr.lt
  have hz2 : W.heap.size ≤ w2.heap.size := Bl.size hb2
  have hr := (hr.bl hb2).bl hb3
  have hbW : Bl w w3 := slc
  have hX : OwP 3 W.heap.size w3 s1 A1 n1 c1 B1 m1 d1 t1 C1 i1 e1 D1 j1 f1 ⟨ofFrac x 1, ofFrac y 1⟩ := OwP.two hR1 hR2 hb3 hz2
  have hX := OwP.low hX hz
  obtain ⟨v0, x0⟩ := hr.val_ (i := 0) (by omega)
  obtain ⟨v1, x1⟩ := hr.val_ (i := 1) (by omega)
  obtain ⟨v2, x2⟩ := hr.val_ (i := 2) (by omega)
  obtain ⟨v3, x3⟩ := hr.val_ (i := 3) (by omega)
  obtain ⟨v4, x4⟩ := hr.val_ (i := 4) (by omega)
  obtain ⟨v5, x5⟩ := hr.val_ (i := 5) (by omega)
  have hg := hr.lt
  obtain ⟨cs4, hB4, hc4⟩ := hr
  have hf0 := hB4.frozen 0
  have hf1 := hB4.frozen 1
  have hf2 := hB4.frozen 2
  have hf3 := hB4.frozen 3
  have hf4 := hB4.frozen 4
  have hf5 := hB4.frozen 5
  go_wp2_with fail
  exact bodyPost_ret (v := .agg #[.bool s1, .slice A1 n1 c1, .slice B1 m1 d1, .bool t1, .slice C1 i1 e1, .slice D1 j1 f1]) (by simp [results, Tryz.results90, go_sem, x0, x1, x2, x3, x4, x5]) rfl ⟨_, _, _, _, _, _, _, _, _, _, _, _, _, _, rfl, ((((((hX.far (by simp) _).far (by simp) _).far (by simp) _).far (by simp) _).far (by simp) _).far (by simp) _).low (by omega), slc⟩
end

end Go.Proofs.YtjaapemopbbfaaaGreatDoor
