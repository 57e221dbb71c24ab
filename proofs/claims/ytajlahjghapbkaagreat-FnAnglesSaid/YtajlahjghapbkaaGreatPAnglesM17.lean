/- Lemmas. -/
import Derived.Test.YtajlahjghapbkaaGreatRows
import Derived.Test.YtajlahjghapbkaaGreatPAnglesM15
import Derived.Test.YtajlahjghapbkaaGreatPAnglesM12
namespace Go.Proofs.YtajlahjghapbkaaGreat
section
open Go.RowKit

theorem cmpZ_sub (a b : Int) : cmpZ (a - b) 0 = cmpZ a b := by
  unfold cmpZ
  split <;> (try split) <;> (try split) <;> (try split) <;> omega

set_option maxRecDepth 100000 in
set_option maxHeartbeats 4000000 in
theorem bigCmp_any (w : World) {s : Bool} {A : Option Addr} {n c : Nat} {x : Int} {t : Bool} {B : Option Addr} {m d : Nat} {y : Int} (h : IsB w s A n c x) (k : IsB w t B m d y) (hn : n ≤ 2097152) (hm : m ≤ 2097152) :
    Calls Tryz.prog 176 #[.agg #[.bool s, .slice A n c], .agg #[.bool t, .slice B m d]] w fun e w' => e = .returned (.int .i64 (cmpZ x y)) ∧ Bl w w' := by
  have hs := h.1
  have ht := k.1
  cases s <;> cases t
  · have hx : 0 ≤ x := by have := hs.symm; simp at this; omega
    have hy : 0 ≤ y := by have := ht.symm; simp at this; omega
    have hv := Lib.hid (show cmpZ x y = cmpI (x.natAbs : Int) (y.natAbs : Int) by unfold cmpZ cmpI; split <;> (try split) <;> (try split) <;> (try split) <;> omega)
    clear hs ht hx hy
    go_enter Tryz.func176, Tryz.ntmps176
    go_wp2_with fail
    refine (natCmp_any _ (RdI.bl h.mg slc) (RdI.bl k.mg slc) hn hm).mono ?_
    rintro e w1 ⟨rfl, q1, rfl⟩
    go_wp2_with fail
    go_ret
    exact ⟨ret_int hv.out.symm, slc⟩
  · have hx : 0 ≤ x := by have := hs.symm; simp at this; omega
    have hy : y < 0 := by have := ht.symm; simpa using this
    have hv := Lib.hid (show cmpZ x y = 1 by unfold cmpZ; split <;> (try split) <;> (try split) <;> (try split) <;> omega)
    clear hs ht hx hy
    go_enter Tryz.func176, Tryz.ntmps176
    go_wp2_with fail
    go_ret
    exact ⟨ret_int hv.out.symm, slc⟩
  · have hx : x < 0 := by have := hs.symm; simpa using this
    have hy : 0 ≤ y := by have := ht.symm; simp at this; omega
    have hv := Lib.hid (show cmpZ x y = -1 by unfold cmpZ; split <;> (try split) <;> (try split) <;> (try split) <;> omega)
    clear hs ht hx hy
    go_enter Tryz.func176, Tryz.ntmps176
    go_wp2_with fail
    go_ret
    exact ⟨ret_int hv.out.symm, slc⟩
  · have hx : x < 0 := by have := hs.symm; simpa using this
    have hy : y < 0 := by have := ht.symm; simpa using this
    have hv := Lib.hid (show cmpZ x y = cmpI (y.natAbs : Int) (x.natAbs : Int) by unfold cmpZ cmpI; split <;> (try split) <;> (try split) <;> (try split) <;> omega)
    clear hs ht hx hy
    go_enter Tryz.func176, Tryz.ntmps176
    go_wp2_with fail
    refine (natCmp_any _ (RdI.bl k.mg slc) (RdI.bl h.mg slc) hm hn).mono ?_
    rintro e w1 ⟨rfl, q1, rfl⟩
    go_wp2_with fail
    go_ret
    exact ⟨ret_int hv.out.symm, slc⟩

theorem signOf_any (w : World) (v : Int) : Calls Tryz.prog 175 #[.int .i64 v] w fun e w' => e = .returned (.int .i64 (cmpZ v 0)) ∧ Bl w w' := by
  rcases Int.lt_or_le v 0 with h | h
  · have hv := Lib.hid (show cmpZ v 0 = -1 by unfold cmpZ; rw [if_pos h])
    go_enter Tryz.func175, Tryz.ntmps175
    go_wp2_with fail
    go_ret
    exact ⟨ret_int hv.out.symm, slc⟩
  · rcases Int.lt_or_le 0 v with h' | h'
    · have hv := Lib.hid (show cmpZ v 0 = 1 by unfold cmpZ; rw [if_neg (by omega), if_pos h'])
      go_enter Tryz.func175, Tryz.ntmps175
      go_wp2_with fail
      go_ret
      exact ⟨ret_int hv.out.symm, slc⟩
    · have hv := Lib.hid (show cmpZ v 0 = 0 by unfold cmpZ; rw [if_neg (by omega), if_neg (by omega)])
      go_enter Tryz.func175, Tryz.ntmps175
      go_wp2_with fail
      go_ret
      exact ⟨ret_int hv.out.symm, slc⟩

set_option maxRecDepth 100000 in
set_option maxHeartbeats 4000000 in
theorem compare_small (w : World) {s : Bool} {A : Option Addr} {n c : Nat} {B : Option Addr} {m d : Nat} {x : Int} {D : Nat} {s' : Bool} {A' : Option Addr} {n' c' : Nat} {B' : Option Addr} {m' d' : Nat} {x' : Int} {D' : Nat} (h : IsR w s A n c B m d x D) (k : IsR w s' A' n' c' B' m' d' x' D') (hn : n ≤ 1) (hm : m = 1) (hn' : n' ≤ 1) (hm' : m' = 1) :
    Calls Tryz.prog 128 #[.agg #[.bool s, .slice A n c, .slice B m d], .agg #[.bool s', .slice A' n' c', .slice B' m' d']] w fun e w' => e = .returned (.int .i64 (cmpZ (x * (D' : Int)) (x' * (D : Int)))) ∧ Bl w w' := by
  subst hm hm'
  have hx0 := small_le (N := x.natAbs) (by rw [h.num.lenN]; exact hn)
  have hx0' := small_le (N := x'.natAbs) (by rw [k.num.lenN]; exact hn')
  have hD := (one_limb h.dn.lenN).2
  have hD' := (one_limb k.dn.lenN).2
  have l1 := mul_lim (a := x) (b := (D' : Int)) (by omega) (by omega) (by omega) (by omega)
  have l2 := mul_lim (a := x') (b := (D : Int)) (by omega) (by omega) (by omega) (by omega)
  generalize e1 : x * (D' : Int) = p1 at *
  generalize e2 : x' * (D : Int) = p2 at *
  have hv := Lib.hid (cmpZ_sub p1 p2)
  clear hx0 hx0'
  go_enter Tryz.func128, Tryz.ntmps128
  go_wp2_with fail
  refine calls_gen (fun W => Bl w W ∧ Blk W (w.heap.size) 29 #[.bool s, .slice A n c, .slice B 1 d] ∧ Blk W (w.heap.size + 1) 29 #[.bool s', .slice A' n' c', .slice B' 1 d']) ⟨slc, bts, bts⟩ ?_
  rintro W ⟨hbW, hx, hx'⟩
  refine (isSmall_yes _ hn rfl).mono ?_
  rintro e w3 ⟨rfl, hb3⟩
  have hx := hx.bl hb3
  have hx' := hx'.bl hb3
  have hbW := hbW.next hb3
  clear hb3
  obtain ⟨i0, i1, i2⟩ := bx3 hx
  obtain ⟨j0, j1, j2⟩ := bx3 hx'
  go_wp2_with fail
  refine (isSmall_yes _ hn' rfl).mono ?_
  rintro e w4 ⟨rfl, hb4⟩
  have hx := hx.bl hb4
  have hx' := hx'.bl hb4
  have hbW := hbW.next hb4
  clear hb4
  obtain ⟨i0, i1, i2⟩ := bx3 hx
  obtain ⟨j0, j1, j2⟩ := bx3 hx'
  go_wp2_with fail
  refine (small_any _ (h.bl hbW) hn).mono ?_
  rintro e w5 ⟨rfl, hb5⟩
  have hx := hx.bl hb5
  have hx' := hx'.bl hb5
  have hbW := hbW.next hb5
  clear hb5
  obtain ⟨i0, i1, i2⟩ := bx3 hx
  obtain ⟨j0, j1, j2⟩ := bx3 hx'
  go_wp2_with fail
  refine (small_any _ (k.bl hbW) hn').mono ?_
  rintro e w6 ⟨rfl, hb6⟩
  have hx := hx.bl hb6
  have hx' := hx'.bl hb6
  have hbW := hbW.next hb6
  clear hb6
  obtain ⟨i0, i1, i2⟩ := bx3 hx
  obtain ⟨j0, j1, j2⟩ := bx3 hx'
  go_wp2_with fail
  refine (signOf_any _ (p1 - p2)).mono ?_
  rintro e w7 ⟨rfl, hb7⟩
  go_wp2_with fail
  go_ret
  exact ⟨ret_int hv.out, hbW.next hb7⟩

set_option maxRecDepth 100000 in
set_option maxHeartbeats 4000000 in
theorem compare_yes (w : World) {s : Bool} {A : Option Addr} {n c : Nat} {B : Option Addr} {m d : Nat} {x : Int} {D : Nat} {s' : Bool} {A' : Option Addr} {n' c' : Nat} {B' : Option Addr} {m' d' : Nat} {x' : Int} {D' : Nat} (h : IsR w s A n c B m d x D) (k : IsR w s' A' n' c' B' m' d' x' D') (hn : n ≤ 262143) (hm : m ≤ 262143) (hn' : n' ≤ 262143) (hm' : m' ≤ 262143) (h1 : n ≤ 1 ∧ m = 1) (h2 : ¬ (n' ≤ 1 ∧ m' = 1)) :
    Calls Tryz.prog 128 #[.agg #[.bool s, .slice A n c, .slice B m d], .agg #[.bool s', .slice A' n' c', .slice B' m' d']] w fun e w' => e = .returned (.int .i64 (cmpZ (x * (D' : Int)) (x' * (D : Int)))) ∧ Bl w w' := by
  have q1 := h.num.lenN
  have q2 := h.dn.lenN
  have q3 := k.num.lenN
  have q4 := k.dn.lenN
  have q2' : (dig (D : Int).natAbs).length = m := by rw [Int.natAbs_natCast]; exact q2
  have q4' : (dig (D' : Int).natAbs).length = m' := by rw [Int.natAbs_natCast]; exact q4
  have hl1 : (dig x.natAbs).length + (dig (D' : Int).natAbs).length ≤ 1048576 := by omega
  have hl2 : (dig x'.natAbs).length + (dig (D : Int).natAbs).length ≤ 1048576 := by omega
  clear q1 q2 q3 q4 q2' q4'
  have h1 := Lib.hid h1; rename_i h_; clear h_
  have h2 := Lib.hid h2; rename_i h_; clear h_
  go_enter Tryz.func128, Tryz.ntmps128
  go_wp2_with fail
  refine calls_gen (fun W => Bl w W ∧ Blk W (w.heap.size) 29 #[.bool s, .slice A n c, .slice B m d] ∧ Blk W (w.heap.size + 1) 29 #[.bool s', .slice A' n' c', .slice B' m' d']) ⟨slc, bts, bts⟩ ?_
  rintro W ⟨hbW, hx, hx'⟩
  refine (isSmall_yes _ h1.out.1 h1.out.2).mono ?_
  rintro e w2 ⟨rfl, hb2⟩
  have hx := hx.bl hb2
  have hx' := hx'.bl hb2
  have hbW := hbW.next hb2
  clear hb2
  obtain ⟨i0, i1, i2⟩ := bx3 hx
  obtain ⟨j0, j1, j2⟩ := bx3 hx'
  go_wp2_with fail
  refine (isSmall_no _ h2.out).mono ?_
  rintro e w3 ⟨rfl, hb3⟩
  have hx := hx.bl hb3
  have hx' := hx'.bl hb3
  have hbW := hbW.next hb3
  clear hb3
  obtain ⟨i0, i1, i2⟩ := bx3 hx
  obtain ⟨j0, j1, j2⟩ := bx3 hx'
  go_wp2_with fail
  go_region_held3 (fun w' => (w'.cell? ⟨w.heap.size, 0, none⟩ = some (.bool s) ∧ w'.cell? ⟨w.heap.size, 1, none⟩ = some (.slice A n c) ∧ w'.cell? ⟨w.heap.size, 2, none⟩ = some (.slice B m d)) ∧ (w'.cell? ⟨w.heap.size + 1, 0, none⟩ = some (.bool s') ∧ w'.cell? ⟨w.heap.size + 1, 1, none⟩ = some (.slice A' n' c') ∧ w'.cell? ⟨w.heap.size + 1, 2, none⟩ = some (.slice B' m' d'))) (first | exact ⟨bx3 (T := 29) bts, bx3 (T := 29) bts⟩) (first | (go_at_call 121; with_reducible refine (bigMul_any _ (h.b.bl slc) (IsB.of (k.dn.bl slc)) (by omega) (by omega)).mono ?_; rintro e w4 ⟨s2, A2, n2, c2, rfl, hO1, hb4⟩) | (go_at_call 121; with_reducible refine (bigMul_any _ (k.b.bl slc) (IsB.of (h.dn.bl slc)) (by omega) (by omega)).mono ?_; rintro e w5 ⟨s3, A3, n3, c3, rfl, hO2, hb5⟩; (have hl4 : n2 ≤ 2097152 := Nat.le_trans (bm_len hO1 hl1) (by omega)); (have hl5 : n3 ≤ 2097152 := Nat.le_trans (bm_len hO2 hl2) (by omega))) | (go_at_call 176; refine (bigCmp_any _ (hO1.rd.bl hb5) hO2.rd hl4 hl5).mono ?_; rintro e w6 ⟨rfl, hb6⟩))
  go_wp2_with fail
  go_ret
  exact ⟨rfl, slc⟩

set_option maxRecDepth 100000 in
set_option maxHeartbeats 4000000 in
theorem compare_no (w : World) {s : Bool} {A : Option Addr} {n c : Nat} {B : Option Addr} {m d : Nat} {x : Int} {D : Nat} {s' : Bool} {A' : Option Addr} {n' c' : Nat} {B' : Option Addr} {m' d' : Nat} {x' : Int} {D' : Nat} (h : IsR w s A n c B m d x D) (k : IsR w s' A' n' c' B' m' d' x' D') (hn : n ≤ 262143) (hm : m ≤ 262143) (hn' : n' ≤ 262143) (hm' : m' ≤ 262143) (h1 : ¬ (n ≤ 1 ∧ m = 1)) :
    Calls Tryz.prog 128 #[.agg #[.bool s, .slice A n c, .slice B m d], .agg #[.bool s', .slice A' n' c', .slice B' m' d']] w fun e w' => e = .returned (.int .i64 (cmpZ (x * (D' : Int)) (x' * (D : Int)))) ∧ Bl w w' := by
  have q1 := h.num.lenN
  have q2 := h.dn.lenN
  have q3 := k.num.lenN
  have q4 := k.dn.lenN
  have q2' : (dig (D : Int).natAbs).length = m := by rw [Int.natAbs_natCast]; exact q2
  have q4' : (dig (D' : Int).natAbs).length = m' := by rw [Int.natAbs_natCast]; exact q4
  have hl1 : (dig x.natAbs).length + (dig (D' : Int).natAbs).length ≤ 1048576 := by omega
  have hl2 : (dig x'.natAbs).length + (dig (D : Int).natAbs).length ≤ 1048576 := by omega
  clear q1 q2 q3 q4 q2' q4'
  have h1 := Lib.hid h1; rename_i h_; clear h_
  go_enter Tryz.func128, Tryz.ntmps128
  go_wp2_with fail
  refine calls_gen (fun W => Bl w W ∧ Blk W (w.heap.size) 29 #[.bool s, .slice A n c, .slice B m d] ∧ Blk W (w.heap.size + 1) 29 #[.bool s', .slice A' n' c', .slice B' m' d']) ⟨slc, bts, bts⟩ ?_
  rintro W ⟨hbW, hx, hx'⟩
  refine (isSmall_no _ h1.out).mono ?_
  rintro e w2 ⟨rfl, hb2⟩
  have hx := hx.bl hb2
  have hx' := hx'.bl hb2
  have hbW := hbW.next hb2
  clear hb2
  obtain ⟨i0, i1, i2⟩ := bx3 hx
  obtain ⟨j0, j1, j2⟩ := bx3 hx'
  go_wp2_with fail
  go_region_held3 (fun w' => (w'.cell? ⟨w.heap.size, 0, none⟩ = some (.bool s) ∧ w'.cell? ⟨w.heap.size, 1, none⟩ = some (.slice A n c) ∧ w'.cell? ⟨w.heap.size, 2, none⟩ = some (.slice B m d)) ∧ (w'.cell? ⟨w.heap.size + 1, 0, none⟩ = some (.bool s') ∧ w'.cell? ⟨w.heap.size + 1, 1, none⟩ = some (.slice A' n' c') ∧ w'.cell? ⟨w.heap.size + 1, 2, none⟩ = some (.slice B' m' d'))) (first | exact ⟨bx3 (T := 29) bts, bx3 (T := 29) bts⟩) (first | (go_at_call 121; with_reducible refine (bigMul_any _ (h.b.bl slc) (IsB.of (k.dn.bl slc)) (by omega) (by omega)).mono ?_; rintro e w4 ⟨s2, A2, n2, c2, rfl, hO1, hb4⟩) | (go_at_call 121; with_reducible refine (bigMul_any _ (k.b.bl slc) (IsB.of (h.dn.bl slc)) (by omega) (by omega)).mono ?_; rintro e w5 ⟨s3, A3, n3, c3, rfl, hO2, hb5⟩; (have hl4 : n2 ≤ 2097152 := Nat.le_trans (bm_len hO1 hl1) (by omega)); (have hl5 : n3 ≤ 2097152 := Nat.le_trans (bm_len hO2 hl2) (by omega))) | (go_at_call 176; refine (bigCmp_any _ (hO1.rd.bl hb5) hO2.rd hl4 hl5).mono ?_; rintro e w6 ⟨rfl, hb6⟩))
  go_wp2_with fail
  go_ret
  exact ⟨rfl, slc⟩

theorem rcompare_any (w : World) {s : Bool} {A : Option Addr} {n c : Nat} {B : Option Addr} {m d : Nat} {x : Int} {D : Nat} {s' : Bool} {A' : Option Addr} {n' c' : Nat} {B' : Option Addr} {m' d' : Nat} {x' : Int} {D' : Nat} (h : IsR w s A n c B m d x D) (k : IsR w s' A' n' c' B' m' d' x' D') (hn : n ≤ 262143) (hm : m ≤ 262143) (hn' : n' ≤ 262143) (hm' : m' ≤ 262143) :
    Calls Tryz.prog 128 #[.agg #[.bool s, .slice A n c, .slice B m d], .agg #[.bool s', .slice A' n' c', .slice B' m' d']] w fun e w' => e = .returned (.int .i64 (cmpZ (x * (D' : Int)) (x' * (D : Int)))) ∧ Bl w w' := by
  by_cases h1 : n ≤ 1 ∧ m = 1
  · by_cases h2 : n' ≤ 1 ∧ m' = 1
    · exact compare_small w h k h1.1 h1.2 h2.1 h2.2
    · exact compare_yes w h k hn hm hn' hm' h1 h2
  · exact compare_no w h k hn hm hn' hm' h1

theorem maxR_val {r r' : RatD} (ho : OkR r ∧ OkR r') : maxR r r' = if 0 ≤ cmpZ (rn r * rd r') (rn r' * rd r) then r else r' := by
  unfold maxR cmpR
  rw [if_pos ho, if_pos ho]
set_option maxRecDepth 100000 in
set_option maxHeartbeats 4000000 in
theorem RatMax_any (w : World) {s : Bool} {A : Option Addr} {n c : Nat} {B : Option Addr} {m d : Nat} {r : RatD} {s' : Bool} {A' : Option Addr} {n' c' : Nat} {B' : Option Addr} {m' d' : Nat} {r' : RatD} (h : RdR w s A n c B m d r) (k : RdR w s' A' n' c' B' m' d' r') :
    Calls Tryz.prog 173 #[.agg #[.bool s, .slice A n c, .slice B m d], .agg #[.bool s', .slice A' n' c', .slice B' m' d']] w fun e w' => ∃ s1 A1 n1 c1 B1 m1 d1, e = .returned (.agg #[.bool s1, .slice A1 n1 c1, .slice B1 m1 d1]) ∧ OwR 3 w.heap.size w' s1 A1 n1 c1 B1 m1 d1 (maxR r r') ∧ Bl w w' := by
  by_cases ho : OkR r ∧ OkR r'
  · have hall := Lib.hid (allOk_two.2 ho)
    have hI := IsR.out h ho.1
    have hI' := IsR.out k ho.2
    have hL := OkR.lens h ho.1
    have hL' := OkR.lens k ho.2
    have hval := maxR_val ho
    clear ho
    generalize hcz : cmpZ (rn r * (rd r' : Int)) (rn r' * (rd r : Int)) = cz at *
    have hcz := Lib.hid hcz; rename_i h_; clear h_
    by_cases hge : 0 ≤ cz
    · rw [if_pos hge] at hval
      have hval := Lib.hid hval; rename_i h_; clear h_
      go_enter Tryz.func173, Tryz.ntmps173
      go_wp2_with fail
      refine calls_gen (fun W => Bl w W ∧ Blk W (w.heap.size) 29 #[.bool s, .slice A n c, .slice B m d] ∧ Blk W (w.heap.size + 1) 29 #[.bool s', .slice A' n' c', .slice B' m' d'] ∧ Wk 3 29 (w.heap.size + 1 + 1) W ∧ Blk W (w.heap.size + 1 + 1 + 1) 29 #[.bool s, .slice A n c, .slice B m d, .bool s', .slice A' n' c', .slice B' m' d']) ⟨slc, bts, bts, bts, Blk.new3 _ _ _ _ _ _⟩ ?_
      rintro W ⟨hbW, hx, hx', hr, hy⟩
      refine (areRats_yes _ (RdRS.two hy (h.bl hbW) (k.bl hbW)) hall.out).mono ?_
      rintro e w1 ⟨rfl, hb1⟩
      clear hy
      have hx := hx.bl hb1
      have hx' := hx'.bl hb1
      have hr := hr.bl hb1
      have hbW := hbW.next hb1
      clear hb1
      obtain ⟨i0, i1, i2⟩ := bx3 hx
      obtain ⟨j0, j1, j2⟩ := bx3 hx'
      go_wp2_with fail
      refine (rcompare_any _ (RdR.bl hI hbW) (RdR.bl hI' hbW) (by omega) (by omega) (by omega) (by omega)).mono ?_
      rw [hcz.out]
      rintro e w2 ⟨rfl, hb2⟩
      have hx := hx.bl hb2
      have hx' := hx'.bl hb2
      have hr := hr.bl hb2
      have hbW := hbW.next hb2
      clear hb2
      obtain ⟨i0, i1, i2⟩ := bx3 hx
      obtain ⟨j0, j1, j2⟩ := bx3 hx'
      go_wp2_with fail
      refine (copyRat_any _ (h.bl hbW) (by omega) (by omega)).mono ?_
      rintro e w3 ⟨A1, n1, c1, B1, m1, d1, rfl, hR, hb3⟩
      have hR := hR.mono (show w.heap.size + 1 + 1 + 1 ≤ w2.heap.size from hr.lt)
      rw [← hval.out] at hR
      have hx := hx.bl hb3
      have hx' := hx'.bl hb3
      have hr := hr.bl hb3
      have hbW := hbW.next hb3
      clear hb3
      obtain ⟨i0, i1, i2⟩ := bx3 hx
      obtain ⟨j0, j1, j2⟩ := bx3 hx'
      obtain ⟨v0, x0⟩ := hr.val_ (i := 0) (by omega)
      obtain ⟨v1, x1⟩ := hr.val_ (i := 1) (by omega)
      obtain ⟨v2, x2⟩ := hr.val_ (i := 2) (by omega)
      have hg := hr.lt
      obtain ⟨cs4, hB4, hc4⟩ := hr
      have hf0 := hB4.frozen 0
      have hf1 := hB4.frozen 1
      have hf2 := hB4.frozen 2
      go_wp2_with fail
      exact bodyPost_ret (v := .agg #[.bool s, .slice A1 n1 c1, .slice B1 m1 d1]) (by simp [results, Tryz.results173, go_sem, x0, x1, x2]) rfl ⟨_, _, _, _, _, _, _, rfl, (((hR.far (by simp) _).far (by simp) _).far (by simp) _).mono (by omega), slc⟩
    · rw [if_neg hge] at hval
      have hval := Lib.hid hval; rename_i h_; clear h_
      have hge : cz < 0 := by omega
      go_enter Tryz.func173, Tryz.ntmps173
      go_wp2_with fail
      refine calls_gen (fun W => Bl w W ∧ Blk W (w.heap.size) 29 #[.bool s, .slice A n c, .slice B m d] ∧ Blk W (w.heap.size + 1) 29 #[.bool s', .slice A' n' c', .slice B' m' d'] ∧ Wk 3 29 (w.heap.size + 1 + 1) W ∧ Blk W (w.heap.size + 1 + 1 + 1) 29 #[.bool s, .slice A n c, .slice B m d, .bool s', .slice A' n' c', .slice B' m' d']) ⟨slc, bts, bts, bts, Blk.new3 _ _ _ _ _ _⟩ ?_
      rintro W ⟨hbW, hx, hx', hr, hy⟩
      refine (areRats_yes _ (RdRS.two hy (h.bl hbW) (k.bl hbW)) hall.out).mono ?_
      rintro e w1 ⟨rfl, hb1⟩
      clear hy
      have hx := hx.bl hb1
      have hx' := hx'.bl hb1
      have hr := hr.bl hb1
      have hbW := hbW.next hb1
      clear hb1
      obtain ⟨i0, i1, i2⟩ := bx3 hx
      obtain ⟨j0, j1, j2⟩ := bx3 hx'
      go_wp2_with fail
      refine (rcompare_any _ (RdR.bl hI hbW) (RdR.bl hI' hbW) (by omega) (by omega) (by omega) (by omega)).mono ?_
      rw [hcz.out]
      rintro e w2 ⟨rfl, hb2⟩
      have hx := hx.bl hb2
      have hx' := hx'.bl hb2
      have hr := hr.bl hb2
      have hbW := hbW.next hb2
      clear hb2
      obtain ⟨i0, i1, i2⟩ := bx3 hx
      obtain ⟨j0, j1, j2⟩ := bx3 hx'
      go_wp2_with fail
      refine (copyRat_any _ (k.bl hbW) (by omega) (by omega)).mono ?_
      rintro e w3 ⟨A1, n1, c1, B1, m1, d1, rfl, hR, hb3⟩
      have hR := hR.mono (show w.heap.size + 1 + 1 + 1 ≤ w2.heap.size from hr.lt)
      rw [← hval.out] at hR
      have hx := hx.bl hb3
      have hx' := hx'.bl hb3
      have hr := hr.bl hb3
      have hbW := hbW.next hb3
      clear hb3
      obtain ⟨i0, i1, i2⟩ := bx3 hx
      obtain ⟨j0, j1, j2⟩ := bx3 hx'
      obtain ⟨v0, x0⟩ := hr.val_ (i := 0) (by omega)
      obtain ⟨v1, x1⟩ := hr.val_ (i := 1) (by omega)
      obtain ⟨v2, x2⟩ := hr.val_ (i := 2) (by omega)
      have hg := hr.lt
      obtain ⟨cs4, hB4, hc4⟩ := hr
      have hf0 := hB4.frozen 0
      have hf1 := hB4.frozen 1
      have hf2 := hB4.frozen 2
      go_wp2_with fail
      exact bodyPost_ret (v := .agg #[.bool s', .slice A1 n1 c1, .slice B1 m1 d1]) (by simp [results, Tryz.results173, go_sem, x0, x1, x2]) rfl ⟨_, _, _, _, _, _, _, rfl, (((hR.far (by simp) _).far (by simp) _).far (by simp) _).mono (by omega), slc⟩
  · have hall := Lib.hid (fun hk => ho (allOk_two.1 hk) : ¬ AllOk [r, r'])
    have hval := Lib.hid (show maxR r r' = zR by unfold maxR; rw [if_neg ho])
    have ho := Lib.hid ho; rename_i h_; clear h_
    go_enter Tryz.func173, Tryz.ntmps173
    go_wp2_with fail
    refine calls_gen (fun W => Bl w W ∧ Blk W (w.heap.size) 29 #[.bool s, .slice A n c, .slice B m d] ∧ Blk W (w.heap.size + 1) 29 #[.bool s', .slice A' n' c', .slice B' m' d'] ∧ Wk 3 29 (w.heap.size + 1 + 1) W ∧ Blk W (w.heap.size + 1 + 1 + 1) 29 #[.bool s, .slice A n c, .slice B m d, .bool s', .slice A' n' c', .slice B' m' d']) ⟨slc, bts, bts, bts, Blk.new3 _ _ _ _ _ _⟩ ?_
    rintro W ⟨hbW, hx, hx', hr, hy⟩
    refine (areRats_no _ (RdRS.two hy (h.bl hbW) (k.bl hbW)) hall.out).mono ?_
    rintro e w1 ⟨rfl, hb1⟩
    clear hy
    have hx := hx.bl hb1
    have hx' := hx'.bl hb1
    have hr := hr.bl hb1
    have hbW := hbW.next hb1
    clear hb1
    obtain ⟨i0, i1, i2⟩ := bx3 hx
    obtain ⟨j0, j1, j2⟩ := bx3 hx'
    obtain ⟨v0, x0⟩ := hr.val_ (i := 0) (by omega)
    obtain ⟨v1, x1⟩ := hr.val_ (i := 1) (by omega)
    obtain ⟨v2, x2⟩ := hr.val_ (i := 2) (by omega)
    have hg := hr.lt
    obtain ⟨cs4, hB4, hc4⟩ := hr
    have hf0 := hB4.frozen 0
    have hf1 := hB4.frozen 1
    have hf2 := hB4.frozen 2
    go_wp2_with fail
    exact bodyPost_ret (v := .agg #[.bool false, .slice none 0 0, .slice none 0 0]) (by simp [results, Tryz.results173, go_sem, x0, x1, x2]) rfl ⟨_, _, _, _, _, _, _, rfl, by rw [hval.out]; exact OwR.zero _ _ _, slc⟩

theorem divR_inv {r r' : RatD} (ho : OkR r) (ho' : OkR r') (hx : rn r' ≠ 0) : mulR r ⟨r'.neg, r'.den, r'.mag⟩ = divR r r' := by
  have g := ho'.get
  have hD : (0 : Int) < (rd r' : Int) := by have := g.2.1; omega
  generalize hX : rn r' = X at *
  generalize hE : rd r' = E at *
  have hq : r' = raw X E := by rw [← hX, ← hE]; have := g.1; rw [hX, hE] at *; exact this
  have e : (⟨r'.neg, r'.den, r'.mag⟩ : RatD) = raw ((E : Int) * (if X < 0 then -1 else 1)) X.natAbs := by
    rw [hq]
    unfold raw
    rcases Int.lt_or_le X 0 with h | h
    · rw [if_pos h]
      have e1 : decide ((E : Int) * -1 < 0) = decide (X < 0) := by rw [decide_eq_decide]; omega
      have e2 : ((E : Int) * -1).natAbs = E := by omega
      rw [e1, e2]
    · rw [if_neg (by omega)]
      have e1 : decide ((E : Int) * 1 < 0) = decide (X < 0) := by rw [decide_eq_decide]; omega
      have e2 : ((E : Int) * 1).natAbs = E := by omega
      rw [e1, e2]
  have e3 : ((E : Int) * (if X < 0 then -1 else 1)).natAbs = E := by split <;> omega
  have ok : OkR (raw ((E : Int) * (if X < 0 then -1 else 1)) X.natAbs) := ⟨_, _, rfl, by omega, by rw [e3, Nat.gcd_comm]; exact g.2.2.1, by rw [e3]; exact g.2.2.2.2, g.2.2.2.1⟩
  rw [e]
  have a1 : ∀ q, OkR q → mulR r q = ofFrac (rn r * rn q) (rd r * rd q) := fun q hq => by unfold mulR; exact if_pos ⟨ho, hq⟩
  have a2 : divR r r' = ofFrac (rn r * rd r' * (if rn r' < 0 then -1 else 1)) (rd r * (rn r').natAbs) := by unfold divR; exact if_pos ⟨ho, ho', by rw [hX]; exact hx⟩
  rw [a1 _ ok, a2, rn_raw, rd_raw, hX, hE, Int.mul_assoc]
set_option maxRecDepth 100000 in
set_option maxHeartbeats 4000000 in
theorem RatDiv_any (w : World) {s : Bool} {A : Option Addr} {n c : Nat} {B : Option Addr} {m d : Nat} {r : RatD} {s' : Bool} {A' : Option Addr} {n' c' : Nat} {B' : Option Addr} {m' d' : Nat} {r' : RatD} (h : RdR w s A n c B m d r) (k : RdR w s' A' n' c' B' m' d' r') :
    Calls Tryz.prog 75 #[.agg #[.bool s, .slice A n c, .slice B m d], .agg #[.bool s', .slice A' n' c', .slice B' m' d']] w fun e w' => ∃ s1 A1 n1 c1 B1 m1 d1, e = .returned (.agg #[.bool s1, .slice A1 n1 c1, .slice B1 m1 d1]) ∧ OwR 3 w.heap.size w' s1 A1 n1 c1 B1 m1 d1 (divR r r') ∧ Bl w w' := by
  by_cases ho : OkR r ∧ OkR r'
  · have hall := Lib.hid (allOk_two.2 ho)
    have hI' := IsR.out k ho.2
    have hln := hI'.num.lenN
    by_cases hx0 : rn r' = 0
    · have hval := Lib.hid (show divR r r' = zR by unfold divR; rw [if_neg (fun hk => hk.2.2 hx0)])
      have hn0 : n' = 0 := by rw [← hln, hx0]; exact List.length_eq_zero_iff.2 (dig_nil.2 rfl)
      have hne : ((n' : Int) == 0) = true := by simp [hn0]
      clear ho hI' hln hx0 hn0
      go_enter Tryz.func75, Tryz.ntmps75
      go_wp2_with fail
      refine calls_gen (fun W => Bl w W ∧ Blk W (w.heap.size) 29 #[.bool s, .slice A n c, .slice B m d] ∧ Blk W (w.heap.size + 1) 29 #[.bool s', .slice A' n' c', .slice B' m' d'] ∧ Wk 3 29 (w.heap.size + 1 + 1) W ∧ Blk W (w.heap.size + 1 + 1 + 1) 29 #[.bool s, .slice A n c, .slice B m d, .bool s', .slice A' n' c', .slice B' m' d']) ⟨slc, bts, bts, bts, Blk.new3 _ _ _ _ _ _⟩ ?_
      rintro W ⟨hbW, hx, hx', hr, hy⟩
      refine (areRats_yes _ (RdRS.two hy (h.bl hbW) (k.bl hbW)) hall.out).mono ?_
      rintro e w1 ⟨rfl, hb1⟩
      clear hy
      have hx := hx.bl hb1
      have hx' := hx'.bl hb1
      have hr := hr.bl hb1
      have hbW := hbW.next hb1
      clear hb1
      obtain ⟨i0, i1, i2⟩ := bx3 hx
      obtain ⟨j0, j1, j2⟩ := bx3 hx'
      obtain ⟨v0, x0⟩ := hr.val_ (i := 0) (by omega)
      obtain ⟨v1, x1⟩ := hr.val_ (i := 1) (by omega)
      obtain ⟨v2, x2⟩ := hr.val_ (i := 2) (by omega)
      have hg := hr.lt
      obtain ⟨cs4, hB4, hc4⟩ := hr
      have hf0 := hB4.frozen 0
      have hf1 := hB4.frozen 1
      have hf2 := hB4.frozen 2
      go_wp2_with fail
      exact bodyPost_ret (v := .agg #[.bool false, .slice none 0 0, .slice none 0 0]) (by simp [results, Tryz.results75, go_sem, x0, x1, x2]) rfl ⟨_, _, _, _, _, _, _, rfl, by rw [hval.out]; exact OwR.zero _ _ _, slc⟩
    · have hval := Lib.hid (divR_inv ho.1 ho.2 hx0)
      have hpos : 0 < n' := by rw [← hln]; exact dig_len_pos.2 (by omega)
      have hne : ((n' : Int) == 0) = false := by simp; omega
      have hinv : RdR w s' B' m' d' A' n' c' ⟨r'.neg, r'.den, r'.mag⟩ := ⟨k.neg, k.den, k.mag⟩
      clear ho hI' hln
      have hx0 := Lib.hid hx0; rename_i h_; clear h_
      go_enter Tryz.func75, Tryz.ntmps75
      go_wp2_with fail
      refine calls_gen (fun W => Bl w W ∧ Blk W (w.heap.size) 29 #[.bool s, .slice A n c, .slice B m d] ∧ Blk W (w.heap.size + 1) 29 #[.bool s', .slice A' n' c', .slice B' m' d'] ∧ Wk 3 29 (w.heap.size + 1 + 1) W ∧ Blk W (w.heap.size + 1 + 1 + 1) 29 #[.bool s, .slice A n c, .slice B m d, .bool s', .slice A' n' c', .slice B' m' d']) ⟨slc, bts, bts, bts, Blk.new3 _ _ _ _ _ _⟩ ?_
      rintro W ⟨hbW, hx, hx', hr, hy⟩
      refine (areRats_yes _ (RdRS.two hy (h.bl hbW) (k.bl hbW)) hall.out).mono ?_
      rintro e w1 ⟨rfl, hb1⟩
      clear hy
      have hx := hx.bl hb1
      have hx' := hx'.bl hb1
      have hr := hr.bl hb1
      have hbW := hbW.next hb1
      clear hb1
      obtain ⟨i0, i1, i2⟩ := bx3 hx
      obtain ⟨j0, j1, j2⟩ := bx3 hx'
      go_wp2_with fail
      refine (RatMul_any _ (h.bl hbW) (hinv.bl hbW)).mono ?_
      rintro e w2 ⟨s1, A1, n1, c1, B1, m1, d1, rfl, hR, hb2⟩
      have hR := hR.mono (show w.heap.size + 1 + 1 + 1 ≤ w1.heap.size from hr.lt)
      rw [hval.out] at hR
      have hx := hx.bl hb2
      have hx' := hx'.bl hb2
      have hr := hr.bl hb2
      have hbW := hbW.next hb2
      clear hb2
      obtain ⟨i0, i1, i2⟩ := bx3 hx
      obtain ⟨j0, j1, j2⟩ := bx3 hx'
      obtain ⟨v0, x0⟩ := hr.val_ (i := 0) (by omega)
      obtain ⟨v1, x1⟩ := hr.val_ (i := 1) (by omega)
      obtain ⟨v2, x2⟩ := hr.val_ (i := 2) (by omega)
      have hg := hr.lt
      obtain ⟨cs4, hB4, hc4⟩ := hr
      have hf0 := hB4.frozen 0
      have hf1 := hB4.frozen 1
      have hf2 := hB4.frozen 2
      go_wp2_with fail
      exact bodyPost_ret (v := .agg #[.bool s1, .slice A1 n1 c1, .slice B1 m1 d1]) (by simp [results, Tryz.results75, go_sem, x0, x1, x2]) rfl ⟨_, _, _, _, _, _, _, rfl, (((hR.far (by simp) _).far (by simp) _).far (by simp) _).mono (by omega), slc⟩
  · have hall := Lib.hid (fun hk => ho (allOk_two.1 hk) : ¬ AllOk [r, r'])
    have hval := Lib.hid (show divR r r' = zR by unfold divR; rw [if_neg (fun hk => ho ⟨hk.1, hk.2.1⟩)])
    have ho := Lib.hid ho; rename_i h_; clear h_
    go_enter Tryz.func75, Tryz.ntmps75
    go_wp2_with fail
    refine calls_gen (fun W => Bl w W ∧ Blk W (w.heap.size) 29 #[.bool s, .slice A n c, .slice B m d] ∧ Blk W (w.heap.size + 1) 29 #[.bool s', .slice A' n' c', .slice B' m' d'] ∧ Wk 3 29 (w.heap.size + 1 + 1) W ∧ Blk W (w.heap.size + 1 + 1 + 1) 29 #[.bool s, .slice A n c, .slice B m d, .bool s', .slice A' n' c', .slice B' m' d']) ⟨slc, bts, bts, bts, Blk.new3 _ _ _ _ _ _⟩ ?_
    rintro W ⟨hbW, hx, hx', hr, hy⟩
    refine (areRats_no _ (RdRS.two hy (h.bl hbW) (k.bl hbW)) hall.out).mono ?_
    rintro e w1 ⟨rfl, hb1⟩
    clear hy
    have hx := hx.bl hb1
    have hx' := hx'.bl hb1
    have hr := hr.bl hb1
    have hbW := hbW.next hb1
    clear hb1
    obtain ⟨i0, i1, i2⟩ := bx3 hx
    obtain ⟨j0, j1, j2⟩ := bx3 hx'
    obtain ⟨v0, x0⟩ := hr.val_ (i := 0) (by omega)
    obtain ⟨v1, x1⟩ := hr.val_ (i := 1) (by omega)
    obtain ⟨v2, x2⟩ := hr.val_ (i := 2) (by omega)
    have hg := hr.lt
    obtain ⟨cs4, hB4, hc4⟩ := hr
    have hf0 := hB4.frozen 0
    have hf1 := hB4.frozen 1
    have hf2 := hB4.frozen 2
    go_wp2_with fail
    exact bodyPost_ret (v := .agg #[.bool false, .slice none 0 0, .slice none 0 0]) (by simp [results, Tryz.results75, go_sem, x0, x1, x2]) rfl ⟨_, _, _, _, _, _, _, rfl, by rw [hval.out]; exact OwR.zero _ _ _, slc⟩
end

section
open Go.RowKit

theorem OwL.grown {E : TypeId} {base : Nat} {w w' : World} {v : Value} {l : List Int} {row : Option Nat} (h : OwL E base w v l) (hg : w.grownBy w' row) (hr : ∀ k, row = some k → v.ownBlock ≠ some k) : OwL E base w' v l := by
  refine ⟨h.1, ?_⟩
  rcases h.2 with h2 | ⟨g, cap, cur, hv, hgb, hh, r⟩
  · exact .inl h2
  · exact .inr ⟨g, cap, cur, hv, hgb, (hg.block g (heap_lt hh) (by intro e; exact hr g e.symm (by rw [hv]; rfl))).trans hh, r⟩
/-- A fraction in memory of its own (its two slices may share it). -/
def OwQ (T : TypeId) (b0 : Nat) (w : World) (s : Bool) (A : Option Addr) (n c : Nat) (B : Option Addr) (m d : Nat) (r : RatD) : Prop :=
  ∃ bs, FtR T w s A n c B m d r bs ∧ ∀ b ∈ bs, b0 ≤ b ∧ b < w.heap.size
section
variable {T : TypeId} {b0 b1 : Nat} {w W : World} {s : Bool} {A : Option Addr} {n c : Nat} {B : Option Addr} {m d : Nat} {r : RatD}
theorem OwQ.of (h : OwR T b0 w s A n c B m d r) : OwQ T b0 w s A n c B m d r := by
  obtain ⟨bs, h, hf⟩ := h
  exact ⟨bs, h, hf.2⟩
theorem OwQ.rd (h : OwQ T b0 w s A n c B m d r) : RdR w s A n c B m d r := by
  obtain ⟨bs, h, _⟩ := h
  exact h.rd
theorem OwQ.two (hs : s = r.neg) (h : OwI T b0 w A n c r.mag) (k : OwI T b0 w B m d r.den) : OwQ T b0 w s A n c B m d r := by
  obtain ⟨b1, h1, f1⟩ := FtI.of_own h
  obtain ⟨b2, h2, f2⟩ := FtI.of_own k
  refine ⟨b1 ++ b2, ⟨hs, b1, b2, h1, h2, rfl⟩, fun b hb => ?_⟩
  rcases List.mem_append.1 hb with hb | hb
  · exact f1.2 b hb
  · exact f2.2 b hb
theorem OwQ.bl (h : OwQ T b0 w s A n c B m d r) (hb : Bl w W) : OwQ T b0 W s A n c B m d r := by
  obtain ⟨bs, h, hf⟩ := h
  exact ⟨bs, h.bl hb, fun b hm => ⟨(hf b hm).1, Nat.lt_of_lt_of_le (hf b hm).2 hb.size⟩⟩
theorem OwQ.mono (h : OwQ T b1 w s A n c B m d r) (hb : b0 ≤ b1) : OwQ T b0 w s A n c B m d r := by
  obtain ⟨bs, h, hf⟩ := h
  exact ⟨bs, h, fun b hm => ⟨Nat.le_trans hb (hf b hm).1, (hf b hm).2⟩⟩
theorem OwQ.far (h : OwQ T b0 w s A n c B m d r) {q : Addr} (hp : q.block < b0) (u : Value) : OwQ T b0 (w.setCell q u) s A n c B m d r := by
  obtain ⟨bs, h, hf⟩ := h
  refine ⟨bs, h.keep (by simp) (fun b hb => Below.heap_setCell w q u b (by have := (hf b hb).1; omega)), fun b hm => ?_⟩
  have := hf b hm
  simpa using this
end
end

section
open Go.RowKit
end

end Go.Proofs.YtajlahjghapbkaaGreat
