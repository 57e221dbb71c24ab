/- Quotients and the greater one of fractions: the reference's. -/
import Derived.Test.YtggjdgjkdmgjnaaGreatRows
import Derived.Test.YtggjdgjkdmgjnaaGreatDv1
import Derived.Test.YtggjdgjkdmgjnaaGreatLc
import Derived.Test.YtggjdgjkdmgjnaaGreatSp10
namespace Go.Proofs.YtggjdgjkdmgjnaaGreat

open Go.RowKit

set_option maxRecDepth 100000 in
set_option maxHeartbeats 1000000 in
theorem l03Cmp_any (w : World) {s : Bool} {A : Option Addr} {n c : Nat} {x : Int} {t : Bool} {B : Option Addr} {m d : Nat} {y : Int} (h : IsB w s A n c x) (k : IsB w t B m d y) (hn : n ≤ 2097152) (hm : m ≤ 2097152) :
    Calls Tryz.prog 175 #[.agg #[.bool s, .slice A n c], .agg #[.bool t, .slice B m d]] w fun e w' => e = .returned (.int .i64 (cmpZ x y)) ∧ Bl w w' := by
  have hs := h.1
  have ht := k.1
  cases s <;> cases t
  · have hx : 0 ≤ x := by have := hs.symm; simp at this; omega
    have hy : 0 ≤ y := by have := ht.symm; simp at this; omega
    have hv := Lib.hid (show cmpZ x y = cmpI (x.natAbs : Int) (y.natAbs : Int) by unfold cmpZ cmpI; split <;> (try split) <;> (try split) <;> (try split) <;> omega)
    clear hs ht hx hy
    go_enter Tryz.func175, Tryz.ntmps175
    go_wp2_with fail
    refine (l02Cmp_any _ (RdI.bl h.mg slc) (RdI.bl k.mg slc) hn hm).mono ?_
    rintro e w1 ⟨rfl, q1, rfl⟩
    go_wp2_with fail
    go_ret
    exact ⟨ret_int hv.out.symm, slc⟩
  · have hx : 0 ≤ x := by have := hs.symm; simp at this; omega
    have hy : y < 0 := by have := ht.symm; simpa using this
    have hv := Lib.hid (show cmpZ x y = 1 by unfold cmpZ; split <;> (try split) <;> (try split) <;> (try split) <;> omega)
    clear hs ht hx hy
    go_enter Tryz.func175, Tryz.ntmps175
    go_wp2_with fail
    go_ret
    exact ⟨ret_int hv.out.symm, slc⟩
  · have hx : x < 0 := by have := hs.symm; simpa using this
    have hy : 0 ≤ y := by have := ht.symm; simp at this; omega
    have hv := Lib.hid (show cmpZ x y = -1 by unfold cmpZ; split <;> (try split) <;> (try split) <;> (try split) <;> omega)
    clear hs ht hx hy
    go_enter Tryz.func175, Tryz.ntmps175
    go_wp2_with fail
    go_ret
    exact ⟨ret_int hv.out.symm, slc⟩
  · have hx : x < 0 := by have := hs.symm; simpa using this
    have hy : y < 0 := by have := ht.symm; simpa using this
    have hv := Lib.hid (show cmpZ x y = cmpI (y.natAbs : Int) (x.natAbs : Int) by unfold cmpZ cmpI; split <;> (try split) <;> (try split) <;> (try split) <;> omega)
    clear hs ht hx hy
    go_enter Tryz.func175, Tryz.ntmps175
    go_wp2_with fail
    refine (l02Cmp_any _ (RdI.bl k.mg slc) (RdI.bl h.mg slc) hm hn).mono ?_
    rintro e w1 ⟨rfl, q1, rfl⟩
    go_wp2_with fail
    go_ret
    exact ⟨ret_int hv.out.symm, slc⟩

set_option maxRecDepth 100000 in
set_option maxHeartbeats 2000000 in
theorem l04Cmp_any (w : World) {s : Bool} {A : Option Addr} {n c : Nat} {B : Option Addr} {m d : Nat} {x : Int} {D : Nat} {s' : Bool} {A' : Option Addr} {n' c' : Nat} {B' : Option Addr} {m' d' : Nat} {x' : Int} {D' : Nat} (h : IsR w s A n c B m d x D) (k : IsR w s' A' n' c' B' m' d' x' D') (hn : n ≤ 24) (hm : m ≤ 24) (hn' : n' ≤ 24) (hm' : m' ≤ 24) (hD : 0 < D) (hD' : 0 < D') :
    Calls Tryz.prog 129 #[.agg #[.bool s, .slice A n c, .slice B m d], .agg #[.bool s', .slice A' n' c', .slice B' m' d']] w fun e w' => e = .returned (.int .i64 (cmpZ (x * (D' : Int)) (x' * (D : Int)))) ∧ Bl w w' := by
  have hm1 : (dig (x.natAbs * D')).length ≤ 59 := Nat.le_trans (dig_mul_len (Nat.le_of_eq h.num.lenN) (Nat.le_of_eq k.dn.lenN)) (by omega)
  have hm2 : (dig (x'.natAbs * D)).length ≤ 59 := Nat.le_trans (dig_mul_len (Nat.le_of_eq k.num.lenN) (Nat.le_of_eq h.dn.lenN)) (by omega)
  go_enter Tryz.func129, Tryz.ntmps129
  go_wp2_with fail
  refine wp_gen (fun W => Bl w W ∧ Blk W (w.heap.size) 34 #[.bool s, .slice A n c, .slice B m d] ∧ Blk W (w.heap.size + 1) 34 #[.bool s', .slice A' n' c', .slice B' m' d']) ⟨slc, bts, bts⟩ ?_
  rintro W ⟨hbW, hx, hx'⟩
  go_region_held3 (fun w' => (w'.cell? ⟨w.heap.size, 0, none⟩ = some (.bool s) ∧ w'.cell? ⟨w.heap.size, 1, none⟩ = some (.slice A n c) ∧ w'.cell? ⟨w.heap.size, 2, none⟩ = some (.slice B m d)) ∧ (w'.cell? ⟨w.heap.size + 1, 0, none⟩ = some (.bool s') ∧ w'.cell? ⟨w.heap.size + 1, 1, none⟩ = some (.slice A' n' c') ∧ w'.cell? ⟨w.heap.size + 1, 2, none⟩ = some (.slice B' m' d'))) (first | exact ⟨bx3 (T := 34) bts, bx3 (T := 34) bts⟩) (first | (go_at_call 121; with_reducible refine (l02Mul_any _ (h.num.bl slc) (k.dn.bl slc) (by omega) (by omega)).mono ?_; rintro e w4 ⟨A4, n4, c4, rfl, hO4, hb4⟩; (have hl4 : n4 ≤ 59 := by rw [← hO4.rd.lenN]; exact hm1); (have hN4 : IsN w4 A4 n4 c4 (x.natAbs * D') := hO4.rd)) | (go_at_call 170; (with_reducible refine (l03Make_any _ _ hN4 (by omega)).mono ?_); rintro e w5 ⟨s5, A5, n5, c5, rfl, hs5, hO5, hb5⟩; (have hB5 : IsB w5 s5 A5 n5 c5 (x * (D' : Int)) := ⟨by rw [hs5.out]; exact mk_sign h.sgn hD', by rw [Int.natAbs_mul, Int.natAbs_natCast]; exact hO5.rd⟩)) | (go_at_call 121; with_reducible refine (l02Mul_any _ (k.num.bl slc) (h.dn.bl slc) (by omega) (by omega)).mono ?_; rintro e w6 ⟨A6, n6, c6, rfl, hO6, hb6⟩; (have hl6 : n6 ≤ 59 := by rw [← hO6.rd.lenN]; exact hm2); (have hN6 : IsN w6 A6 n6 c6 (x'.natAbs * D) := hO6.rd)) | (go_at_call 170; (with_reducible refine (l03Make_any _ _ hN6 (by omega)).mono ?_); rintro e w7 ⟨s7, A7, n7, c7, rfl, hs7, hO7, hb7⟩; (have hB7 : IsB w7 s7 A7 n7 c7 (x' * (D : Int)) := ⟨by rw [hs7.out]; exact mk_sign k.sgn hD, by rw [Int.natAbs_mul, Int.natAbs_natCast]; exact hO7.rd⟩); (have hl5 : n5 ≤ 2097152 := by rw [← hO5.rd.lenN]; exact Nat.le_trans hm1 (by omega)); (have hl7 : n7 ≤ 2097152 := by rw [← hO7.rd.lenN]; exact Nat.le_trans hm2 (by omega))) | (go_at_call 175; refine (l03Cmp_any _ (hB5.bl slc) hB7 hl5 hl7).mono ?_; rintro e w8 ⟨rfl, hb8⟩))
  go_wp2_with fail
  go_ret
  exact ⟨rfl, slc⟩

set_option maxRecDepth 100000 in
set_option maxHeartbeats 1000000 in
theorem sRatMax_any (w : World) {s : Bool} {A : Option Addr} {n c : Nat} {B : Option Addr} {m d : Nat} {r : RatD} {s' : Bool} {A' : Option Addr} {n' c' : Nat} {B' : Option Addr} {m' d' : Nat} {r' : RatD} (h : RdR w s A n c B m d r) (k : RdR w s' A' n' c' B' m' d' r') :
    Calls Tryz.prog 72 #[.agg #[.bool s, .slice A n c, .slice B m d], .agg #[.bool s', .slice A' n' c', .slice B' m' d']] w fun e w' => ∃ s1 A1 n1 c1 B1 m1 d1, e = .returned (.agg #[.bool s1, .slice A1 n1 c1, .slice B1 m1 d1]) ∧ OwQ 3 w.heap.size w' s1 A1 n1 c1 B1 m1 d1 (maxR r r') ∧ Bl w w' := by
  by_cases ho : OkR r
  · have hok := okR_of ho
    by_cases ho' : OkR r'
    · have hok' := okR_of ho'
      have hI := IsR.out h ho
      have hI' := IsR.out k ho'
      have hL := OkR.lens h ho
      have hL' := OkR.lens k ho'
      have hval := maxR_val ⟨ho, ho'⟩
      clear ho ho'
      generalize hcz : cmpZ (rn r * (rd r' : Int)) (rn r' * (rd r : Int)) = cz at *
      have hcz := Lib.hid hcz; rename_i h_; clear h_
      by_cases hge : 0 ≤ cz
      · rw [if_pos hge] at hval
        have hval := Lib.hid hval; rename_i h_; clear h_
        go_enter Tryz.func72, Tryz.ntmps72
        go_wp2_with fail
        refine calls_gen (fun W => Bl w W ∧ Blk W (w.heap.size) 34 #[.bool s, .slice A n c, .slice B m d] ∧ Blk W (w.heap.size + 1) 34 #[.bool s', .slice A' n' c', .slice B' m' d'] ∧ Wk 3 34 (w.heap.size + 1 + 1) W) ⟨slc, bts, bts, bts⟩ ?_
        rintro W ⟨hbW, hx, hx', hr⟩
        refine (sRatOk_any _ (h.bl hbW)).mono ?_
        rw [hok]
        rintro e w1 ⟨rfl, hb1⟩
        have hx := hx.bl hb1
        have hx' := hx'.bl hb1
        have hr := hr.bl hb1
        have hbW := hbW.next hb1
        clear hb1
        obtain ⟨i0, i1, i2⟩ := bx3 hx
        obtain ⟨j0, j1, j2⟩ := bx3 hx'
        go_wp2_with fail
        refine (sRatOk_any _ (k.bl hbW)).mono ?_
        rw [hok']
        rintro e w2 ⟨rfl, hb2⟩
        have hx := hx.bl hb2
        have hx' := hx'.bl hb2
        have hr := hr.bl hb2
        have hbW := hbW.next hb2
        clear hb2
        obtain ⟨i0, i1, i2⟩ := bx3 hx
        obtain ⟨j0, j1, j2⟩ := bx3 hx'
        go_wp2_with fail
        refine (l04Cmp_any _ (RdR.bl hI hbW) (RdR.bl hI' hbW) (by omega) (by omega) (by omega) (by omega) hL.2.2 hL'.2.2).mono ?_
        rw [hcz.out]
        rintro e w3 ⟨rfl, hb3⟩
        have hx := hx.bl hb3
        have hx' := hx'.bl hb3
        have hr := hr.bl hb3
        have hbW := hbW.next hb3
        clear hb3
        obtain ⟨i0, i1, i2⟩ := bx3 hx
        obtain ⟨j0, j1, j2⟩ := bx3 hx'
        go_wp2_with fail
        refine (l04Copy_any _ (h.bl hbW) (by omega) (by omega)).mono ?_
        rintro e w4 ⟨s1, A1, n1, c1, B1, m1, d1, rfl, hR, hb4⟩
        have hR := hR.mono (show w.heap.size + 1 + 1 + 1 ≤ w3.heap.size from hr.lt)
        rw [← hval.out] at hR
        have hx := hx.bl hb4
        have hx' := hx'.bl hb4
        have hr := hr.bl hb4
        have hbW := hbW.next hb4
        clear hb4
        obtain ⟨i0, i1, i2⟩ := bx3 hx
        obtain ⟨j0, j1, j2⟩ := bx3 hx'
        obtain ⟨v0, x0⟩ := hr.val_ (i := 0) (by omega)
        obtain ⟨v1, x1⟩ := hr.val_ (i := 1) (by omega)
        obtain ⟨v2, x2⟩ := hr.val_ (i := 2) (by omega)
        have hg := hr.lt
        obtain ⟨cs4, hB4, hc4⟩ := hr
        have hf0 := hB4.frozen 0
        have hf1 := hB4.frozen 1
        have hf2 := hB4.frozen 2
        go_wp2_with fail
        exact bodyPost_ret (v := .agg #[.bool s1, .slice A1 n1 c1, .slice B1 m1 d1]) (by simp [results, Tryz.results72, go_sem, x0, x1, x2]) rfl ⟨_, _, _, _, _, _, _, rfl, (((hR.far (by simp) _).far (by simp) _).far (by simp) _).mono (by omega), slc⟩
      · rw [if_neg hge] at hval
        have hval := Lib.hid hval; rename_i h_; clear h_
        have hge : cz < 0 := by omega
        go_enter Tryz.func72, Tryz.ntmps72
        go_wp2_with fail
        refine calls_gen (fun W => Bl w W ∧ Blk W (w.heap.size) 34 #[.bool s, .slice A n c, .slice B m d] ∧ Blk W (w.heap.size + 1) 34 #[.bool s', .slice A' n' c', .slice B' m' d'] ∧ Wk 3 34 (w.heap.size + 1 + 1) W) ⟨slc, bts, bts, bts⟩ ?_
        rintro W ⟨hbW, hx, hx', hr⟩
        refine (sRatOk_any _ (h.bl hbW)).mono ?_
        rw [hok]
        rintro e w1 ⟨rfl, hb1⟩
        have hx := hx.bl hb1
        have hx' := hx'.bl hb1
        have hr := hr.bl hb1
        have hbW := hbW.next hb1
        clear hb1
        obtain ⟨i0, i1, i2⟩ := bx3 hx
        obtain ⟨j0, j1, j2⟩ := bx3 hx'
        go_wp2_with fail
        refine (sRatOk_any _ (k.bl hbW)).mono ?_
        rw [hok']
        rintro e w2 ⟨rfl, hb2⟩
        have hx := hx.bl hb2
        have hx' := hx'.bl hb2
        have hr := hr.bl hb2
        have hbW := hbW.next hb2
        clear hb2
        obtain ⟨i0, i1, i2⟩ := bx3 hx
        obtain ⟨j0, j1, j2⟩ := bx3 hx'
        go_wp2_with fail
        refine (l04Cmp_any _ (RdR.bl hI hbW) (RdR.bl hI' hbW) (by omega) (by omega) (by omega) (by omega) hL.2.2 hL'.2.2).mono ?_
        rw [hcz.out]
        rintro e w3 ⟨rfl, hb3⟩
        have hx := hx.bl hb3
        have hx' := hx'.bl hb3
        have hr := hr.bl hb3
        have hbW := hbW.next hb3
        clear hb3
        obtain ⟨i0, i1, i2⟩ := bx3 hx
        obtain ⟨j0, j1, j2⟩ := bx3 hx'
        go_wp2_with fail
        refine (l04Copy_any _ (k.bl hbW) (by omega) (by omega)).mono ?_
        rintro e w4 ⟨s1, A1, n1, c1, B1, m1, d1, rfl, hR, hb4⟩
        have hR := hR.mono (show w.heap.size + 1 + 1 + 1 ≤ w3.heap.size from hr.lt)
        rw [← hval.out] at hR
        have hx := hx.bl hb4
        have hx' := hx'.bl hb4
        have hr := hr.bl hb4
        have hbW := hbW.next hb4
        clear hb4
        obtain ⟨i0, i1, i2⟩ := bx3 hx
        obtain ⟨j0, j1, j2⟩ := bx3 hx'
        obtain ⟨v0, x0⟩ := hr.val_ (i := 0) (by omega)
        obtain ⟨v1, x1⟩ := hr.val_ (i := 1) (by omega)
        obtain ⟨v2, x2⟩ := hr.val_ (i := 2) (by omega)
        have hg := hr.lt
        obtain ⟨cs4, hB4, hc4⟩ := hr
        have hf0 := hB4.frozen 0
        have hf1 := hB4.frozen 1
        have hf2 := hB4.frozen 2
        go_wp2_with fail
        exact bodyPost_ret (v := .agg #[.bool s1, .slice A1 n1 c1, .slice B1 m1 d1]) (by simp [results, Tryz.results72, go_sem, x0, x1, x2]) rfl ⟨_, _, _, _, _, _, _, rfl, (((hR.far (by simp) _).far (by simp) _).far (by simp) _).mono (by omega), slc⟩
    · have hok' := okR_no ho'
      have hval := Lib.hid (show maxR r r' = zR by unfold maxR; rw [if_neg (fun hk => ho' hk.2)])
      have ho' := Lib.hid ho'; rename_i h_; clear h_
      clear ho
      go_enter Tryz.func72, Tryz.ntmps72
      go_wp2_with fail
      refine calls_gen (fun W => Bl w W ∧ Blk W (w.heap.size) 34 #[.bool s, .slice A n c, .slice B m d] ∧ Blk W (w.heap.size + 1) 34 #[.bool s', .slice A' n' c', .slice B' m' d'] ∧ Wk 3 34 (w.heap.size + 1 + 1) W) ⟨slc, bts, bts, bts⟩ ?_
      rintro W ⟨hbW, hx, hx', hr⟩
      refine (sRatOk_any _ (h.bl hbW)).mono ?_
      rw [hok]
      rintro e w1 ⟨rfl, hb1⟩
      have hx := hx.bl hb1
      have hx' := hx'.bl hb1
      have hr := hr.bl hb1
      have hbW := hbW.next hb1
      clear hb1
      obtain ⟨i0, i1, i2⟩ := bx3 hx
      obtain ⟨j0, j1, j2⟩ := bx3 hx'
      go_wp2_with fail
      refine (sRatOk_any _ (k.bl hbW)).mono ?_
      rw [hok']
      rintro e w2 ⟨rfl, hb2⟩
      have hx := hx.bl hb2
      have hx' := hx'.bl hb2
      have hr := hr.bl hb2
      have hbW := hbW.next hb2
      clear hb2
      obtain ⟨i0, i1, i2⟩ := bx3 hx
      obtain ⟨j0, j1, j2⟩ := bx3 hx'
      obtain ⟨v0, x0⟩ := hr.val_ (i := 0) (by omega)
      obtain ⟨v1, x1⟩ := hr.val_ (i := 1) (by omega)
      obtain ⟨v2, x2⟩ := hr.val_ (i := 2) (by omega)
      have hg := hr.lt
      obtain ⟨cs4, hB4, hc4⟩ := hr
      have hf0 := hB4.frozen 0
      have hf1 := hB4.frozen 1
      have hf2 := hB4.frozen 2
      go_wp2_with fail
      exact bodyPost_ret (v := .agg #[.bool false, .slice none 0 0, .slice none 0 0]) (by simp [results, Tryz.results72, go_sem, x0, x1, x2]) rfl ⟨_, _, _, _, _, _, _, rfl, by rw [hval.out]; exact OwQ.of (OwR.zero _ _ _), slc⟩
  · have hok := okR_no ho
    have hval := Lib.hid (show maxR r r' = zR by unfold maxR; rw [if_neg (fun hk => ho hk.1)])
    have ho := Lib.hid ho; rename_i h_; clear h_
    go_enter Tryz.func72, Tryz.ntmps72
    go_wp2_with fail
    refine calls_gen (fun W => Bl w W ∧ Blk W (w.heap.size) 34 #[.bool s, .slice A n c, .slice B m d] ∧ Blk W (w.heap.size + 1) 34 #[.bool s', .slice A' n' c', .slice B' m' d'] ∧ Wk 3 34 (w.heap.size + 1 + 1) W) ⟨slc, bts, bts, bts⟩ ?_
    rintro W ⟨hbW, hx, hx', hr⟩
    refine (sRatOk_any _ (h.bl hbW)).mono ?_
    rw [hok]
    rintro e w1 ⟨rfl, hb1⟩
    have hx := hx.bl hb1
    have hx' := hx'.bl hb1
    have hr := hr.bl hb1
    have hbW := hbW.next hb1
    clear hb1
    obtain ⟨i0, i1, i2⟩ := bx3 hx
    obtain ⟨j0, j1, j2⟩ := bx3 hx'
    obtain ⟨v0, x0⟩ := hr.val_ (i := 0) (by omega)
    obtain ⟨v1, x1⟩ := hr.val_ (i := 1) (by omega)
    obtain ⟨v2, x2⟩ := hr.val_ (i := 2) (by omega)
    have hg := hr.lt
    obtain ⟨cs4, hB4, hc4⟩ := hr
    have hf0 := hB4.frozen 0
    have hf1 := hB4.frozen 1
    have hf2 := hB4.frozen 2
    go_wp2_with fail
    exact bodyPost_ret (v := .agg #[.bool false, .slice none 0 0, .slice none 0 0]) (by simp [results, Tryz.results72, go_sem, x0, x1, x2]) rfl ⟨_, _, _, _, _, _, _, rfl, by rw [hval.out]; exact OwQ.of (OwR.zero _ _ _), slc⟩

theorem lowS_div {x x' : Int} {D D' : Nat} {s s' : Bool} (hs : s = decide (x < 0)) (hs' : s' = decide (x' < 0)) (hD : 0 < D) (hD' : 0 < D') (hx : x' ≠ 0) :
    lowS (s != s') (x.natAbs * D') (D * x'.natAbs) = ofFrac (x * D' * (if x' < 0 then -1 else 1)) (D * x'.natAbs) := by
  have h0 := Nat.mul_pos hD (show 0 < x'.natAbs by omega)
  unfold lowS
  rw [if_neg (by omega)]
  congr 1
  have e : x'.natAbs * (D' : Nat) = x'.natAbs * D' := rfl
  have hy : sx (s != s') (x.natAbs * ((D' : Int) * (if x' < 0 then -1 else 1)).natAbs) = x * ((D' : Int) * (if x' < 0 then -1 else 1)) := by
    refine sx_mul hs ?_
    rw [hs', decide_eq_decide]
    split <;> omega
  have e2 : ((D' : Int) * (if x' < 0 then -1 else 1)).natAbs = D' := by split <;> omega
  rw [e2] at hy
  rw [hy, Int.mul_assoc]

set_option maxRecDepth 100000 in
set_option maxHeartbeats 2000000 in
theorem sRatDiv_any (w : World) {s : Bool} {A : Option Addr} {n c : Nat} {B : Option Addr} {m d : Nat} {r : RatD} {s' : Bool} {A' : Option Addr} {n' c' : Nat} {B' : Option Addr} {m' d' : Nat} {r' : RatD} (h : RdR w s A n c B m d r) (k : RdR w s' A' n' c' B' m' d' r') :
    Calls Tryz.prog 58 #[.agg #[.bool s, .slice A n c, .slice B m d], .agg #[.bool s', .slice A' n' c', .slice B' m' d']] w fun e w' => ∃ s1 A1 n1 c1 B1 m1 d1, e = .returned (.agg #[.bool s1, .slice A1 n1 c1, .slice B1 m1 d1]) ∧ OwR 3 w.heap.size w' s1 A1 n1 c1 B1 m1 d1 (divR r r') ∧ Bl w w' := by
  by_cases ho : OkR r
  · have hok := okR_of ho
    by_cases ho' : OkR r'
    · have hok' := okR_of ho'
      have hI := IsR.out h ho
      have hI' := IsR.out k ho'
      have hL := OkR.lens h ho
      have hL' := OkR.lens k ho'
      have hl3 := Nat.le_trans (dig_mul_len (Nat.le_of_eq hI.num.lenN) (Nat.le_of_eq hI'.dn.lenN)) (show n + m' ≤ 1048570 by omega)
      have hlD := Nat.le_trans (dig_mul_len (Nat.le_of_eq hI.dn.lenN) (Nat.le_of_eq hI'.num.lenN)) (show m + n' ≤ 1048570 by omega)
      have hval := Lib.hid (show divR r r' = lowS (s != s') ((rn r).natAbs * rd r') (rd r * (rn r').natAbs) by
        unfold divR
        by_cases hx : rn r' = 0
        · rw [if_neg (fun hk => hk.2.2 hx), hx]
          unfold lowS
          rw [if_pos (by simp)]
        · rw [if_pos ⟨ho, ho', hx⟩, lowS_div hI.sgn hI'.sgn hL.2.2 hL'.2.2 hx])
      clear ho ho'
      go_enter Tryz.func58, Tryz.ntmps58
      go_wp2_with fail
      refine calls_gen (fun W => Bl w W ∧ Blk W (w.heap.size) 34 #[.bool s, .slice A n c, .slice B m d] ∧ Blk W (w.heap.size + 1) 34 #[.bool s', .slice A' n' c', .slice B' m' d'] ∧ Wk 3 34 (w.heap.size + 1 + 1) W) ⟨slc, bts, bts, bts⟩ ?_
      rintro W ⟨hbW, hx, hx', hr⟩
      refine (sRatOk_any _ (h.bl hbW)).mono ?_
      rw [hok]
      rintro e w1 ⟨rfl, hb1⟩
      have hx := hx.bl hb1
      have hx' := hx'.bl hb1
      have hr := hr.bl hb1
      have hbW := hbW.next hb1
      clear hb1
      obtain ⟨i0, i1, i2⟩ := bx3 hx
      obtain ⟨j0, j1, j2⟩ := bx3 hx'
      go_wp2_with fail
      refine (sRatOk_any _ (k.bl hbW)).mono ?_
      rw [hok']
      rintro e w2 ⟨rfl, hb2⟩
      have hx := hx.bl hb2
      have hx' := hx'.bl hb2
      have hr := hr.bl hb2
      have hbW := hbW.next hb2
      clear hb2
      obtain ⟨i0, i1, i2⟩ := bx3 hx
      obtain ⟨j0, j1, j2⟩ := bx3 hx'
      go_wp2_with fail
      refine wp_gen (fun W => Bl w W ∧ Blk W (w.heap.size) 34 #[.bool s, .slice A n c, .slice B m d] ∧ Blk W (w.heap.size + 1) 34 #[.bool s', .slice A' n' c', .slice B' m' d'] ∧ Wk 3 34 (w.heap.size + 1 + 1) W) ⟨hbW, hx, hx', hr⟩ ?_
      clear hbW hx hx' hr
      rintro W5 ⟨hbW, hx, hx', hr⟩
      go_region_held3 (fun w' => (w'.cell? ⟨w.heap.size, 0, none⟩ = some (.bool s) ∧ w'.cell? ⟨w.heap.size, 1, none⟩ = some (.slice A n c) ∧ w'.cell? ⟨w.heap.size, 2, none⟩ = some (.slice B m d)) ∧ (w'.cell? ⟨w.heap.size + 1, 0, none⟩ = some (.bool s') ∧ w'.cell? ⟨w.heap.size + 1, 1, none⟩ = some (.slice A' n' c') ∧ w'.cell? ⟨w.heap.size + 1, 2, none⟩ = some (.slice B' m' d')) ∧ (w'.cell? ⟨w.heap.size + 1 + 1, 0, none⟩ = some (cellD w' (w.heap.size + 1 + 1) 0) ∧ w'.cell? ⟨w.heap.size + 1 + 1, 1, none⟩ = some (cellD w' (w.heap.size + 1 + 1) 1) ∧ w'.cell? ⟨w.heap.size + 1 + 1, 2, none⟩ = some (cellD w' (w.heap.size + 1 + 1) 2)) ∧ w'.frozen? ⟨w.heap.size + 1 + 1, 0, none⟩ = false ∧ w'.frozen? ⟨w.heap.size + 1 + 1, 1, none⟩ = false ∧ w'.frozen? ⟨w.heap.size + 1 + 1, 2, none⟩ = false) (first | exact ⟨bx3 (T := 34) bts, bx3 (T := 34) bts, Wk.out3 (T := 34) bts⟩) (first | (go_at_call 121; with_reducible refine (l02Mul_any _ (hI.num.bl slc) (hI'.dn.bl slc) (by omega) (by omega)).mono ?_; rintro e w4 ⟨A4, n4, c4, rfl, hO, hb4⟩) | (go_at_call 121; with_reducible refine (l02Mul_any _ (hI.dn.bl slc) (hI'.num.bl slc) (by omega) (by omega)).mono ?_; rintro e w5 ⟨A5, n5, c5, rfl, hO5, hb5⟩; (have hl4 : n4 ≤ 1048570 := by rw [← hO.rd.lenN]; exact hl3); (have hl5 : n5 ≤ 1048570 := by rw [← hO5.rd.lenN]; exact hlD); (have hO6 := RdI.bl hO.rd hb5)) | (go_at_call 120; refine (l04Low_any _ (s != s') hO6 hO5.rd hl4 hl5).mono ?_; rintro e w8 ⟨s1, A1, n1, c1, B1, m1, d1, rfl, hR, hb8⟩))
      have hz3 : w.heap.size + 1 + 1 + 1 ≤ W5.heap.size := hr.lt
      have hz4 : W5.heap.size ≤ w4.heap.size := (Bl.size hb4 : W5.drew.heap.size ≤ _)
      have hz5 : w4.heap.size ≤ w5.heap.size := Bl.size hb5
      have hr := (show Wk 3 34 (w.heap.size + 1 + 1) w8 from bts)
      have hbW : Bl w w8 := slc
      rw [← hval.out] at hR
      have hR := hR.mono (show w.heap.size + 1 + 1 + 1 ≤ w5.heap.size by omega)
      obtain ⟨v0, x0⟩ := hr.val_ (i := 0) (by omega)
      obtain ⟨v1, x1⟩ := hr.val_ (i := 1) (by omega)
      obtain ⟨v2, x2⟩ := hr.val_ (i := 2) (by omega)
      have hg := hr.lt
      obtain ⟨cs4, hB4, hc4⟩ := hr
      have hf0 := hB4.frozen 0
      have hf1 := hB4.frozen 1
      have hf2 := hB4.frozen 2
      go_wp2_with fail
      exact bodyPost_ret (v := .agg #[.bool s1, .slice A1 n1 c1, .slice B1 m1 d1]) (by simp [results, Tryz.results58, go_sem, x0, x1, x2]) rfl ⟨_, _, _, _, _, _, _, rfl, (((hR.far (by simp) _).far (by simp) _).far (by simp) _).mono (by omega), slc⟩
    · have hok' := okR_no ho'
      have hval := Lib.hid (show divR r r' = zR by unfold divR; rw [if_neg (fun hk => ho' hk.2.1)])
      have ho' := Lib.hid ho'; rename_i h_; clear h_
      clear ho
      go_enter Tryz.func58, Tryz.ntmps58
      go_wp2_with fail
      refine calls_gen (fun W => Bl w W ∧ Blk W (w.heap.size) 34 #[.bool s, .slice A n c, .slice B m d] ∧ Blk W (w.heap.size + 1) 34 #[.bool s', .slice A' n' c', .slice B' m' d'] ∧ Wk 3 34 (w.heap.size + 1 + 1) W) ⟨slc, bts, bts, bts⟩ ?_
      rintro W ⟨hbW, hx, hx', hr⟩
      refine (sRatOk_any _ (h.bl hbW)).mono ?_
      rw [hok]
      rintro e w1 ⟨rfl, hb1⟩
      have hx := hx.bl hb1
      have hx' := hx'.bl hb1
      have hr := hr.bl hb1
      have hbW := hbW.next hb1
      clear hb1
      obtain ⟨i0, i1, i2⟩ := bx3 hx
      obtain ⟨j0, j1, j2⟩ := bx3 hx'
      go_wp2_with fail
      refine (sRatOk_any _ (k.bl hbW)).mono ?_
      rw [hok']
      rintro e w2 ⟨rfl, hb2⟩
      have hx := hx.bl hb2
      have hx' := hx'.bl hb2
      have hr := hr.bl hb2
      have hbW := hbW.next hb2
      clear hb2
      obtain ⟨i0, i1, i2⟩ := bx3 hx
      obtain ⟨j0, j1, j2⟩ := bx3 hx'
      obtain ⟨v0, x0⟩ := hr.val_ (i := 0) (by omega)
      obtain ⟨v1, x1⟩ := hr.val_ (i := 1) (by omega)
      obtain ⟨v2, x2⟩ := hr.val_ (i := 2) (by omega)
      have hg := hr.lt
      obtain ⟨cs4, hB4, hc4⟩ := hr
      have hf0 := hB4.frozen 0
      have hf1 := hB4.frozen 1
      have hf2 := hB4.frozen 2
      go_wp2_with fail
      exact bodyPost_ret (v := .agg #[.bool false, .slice none 0 0, .slice none 0 0]) (by simp [results, Tryz.results58, go_sem, x0, x1, x2]) rfl ⟨_, _, _, _, _, _, _, rfl, by rw [hval.out]; exact OwR.zero _ _ _, slc⟩
  · have hok := okR_no ho
    have hval := Lib.hid (show divR r r' = zR by unfold divR; rw [if_neg (fun hk => ho hk.1)])
    have ho := Lib.hid ho; rename_i h_; clear h_
    go_enter Tryz.func58, Tryz.ntmps58
    go_wp2_with fail
    refine calls_gen (fun W => Bl w W ∧ Blk W (w.heap.size) 34 #[.bool s, .slice A n c, .slice B m d] ∧ Blk W (w.heap.size + 1) 34 #[.bool s', .slice A' n' c', .slice B' m' d'] ∧ Wk 3 34 (w.heap.size + 1 + 1) W) ⟨slc, bts, bts, bts⟩ ?_
    rintro W ⟨hbW, hx, hx', hr⟩
    refine (sRatOk_any _ (h.bl hbW)).mono ?_
    rw [hok]
    rintro e w1 ⟨rfl, hb1⟩
    have hx := hx.bl hb1
    have hx' := hx'.bl hb1
    have hr := hr.bl hb1
    have hbW := hbW.next hb1
    clear hb1
    obtain ⟨i0, i1, i2⟩ := bx3 hx
    obtain ⟨j0, j1, j2⟩ := bx3 hx'
    obtain ⟨v0, x0⟩ := hr.val_ (i := 0) (by omega)
    obtain ⟨v1, x1⟩ := hr.val_ (i := 1) (by omega)
    obtain ⟨v2, x2⟩ := hr.val_ (i := 2) (by omega)
    have hg := hr.lt
    obtain ⟨cs4, hB4, hc4⟩ := hr
    have hf0 := hB4.frozen 0
    have hf1 := hB4.frozen 1
    have hf2 := hB4.frozen 2
    go_wp2_with fail
    exact bodyPost_ret (v := .agg #[.bool false, .slice none 0 0, .slice none 0 0]) (by simp [results, Tryz.results58, go_sem, x0, x1, x2]) rfl ⟨_, _, _, _, _, _, _, rfl, by rw [hval.out]; exact OwR.zero _ _ _, slc⟩

end Go.Proofs.YtggjdgjkdmgjnaaGreat
