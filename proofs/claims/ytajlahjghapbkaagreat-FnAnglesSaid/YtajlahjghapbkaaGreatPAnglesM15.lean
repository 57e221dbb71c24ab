/- Lemmas. -/
import Derived.Test.YtajlahjghapbkaaGreatRows
import Derived.Test.YtajlahjghapbkaaGreatPAnglesM12
import Derived.Test.YtajlahjghapbkaaGreatPAnglesM13
namespace Go.Proofs.YtajlahjghapbkaaGreat
section
open Go.RowKit

set_option maxRecDepth 100000 in
set_option maxHeartbeats 4000000 in
theorem RatMul_bad (w : World) {s : Bool} {A : Option Addr} {n c : Nat} {B : Option Addr} {m d : Nat} {r : RatD} {s' : Bool} {A' : Option Addr} {n' c' : Nat} {B' : Option Addr} {m' d' : Nat} {r' : RatD} (h : RdR w s A n c B m d r) (k : RdR w s' A' n' c' B' m' d' r') (ho : ¬ (OkR r ∧ OkR r')) :
    Calls Tryz.prog 49 #[.agg #[.bool s, .slice A n c, .slice B m d], .agg #[.bool s', .slice A' n' c', .slice B' m' d']] w fun e w' => ∃ s1 A1 n1 c1 B1 m1 d1, e = .returned (.agg #[.bool s1, .slice A1 n1 c1, .slice B1 m1 d1]) ∧ OwR 3 w.heap.size w' s1 A1 n1 c1 B1 m1 d1 (mulR r r') ∧ Bl w w' := by
  have hall := Lib.hid (fun hk => ho (allOk_two.1 hk) : ¬ AllOk [r, r'])
  have hval := Lib.hid (show mulR r r' = zR by unfold mulR; rw [if_neg ho])
  have ho := Lib.hid ho; rename_i h_; clear h_
  go_enter Tryz.func49, Tryz.ntmps49
  go_wp2_with fail
  refine calls_gen (fun W => Bl w W ∧ Blk W (w.heap.size) 29 #[.bool s, .slice A n c, .slice B m d] ∧ Blk W (w.heap.size + 1) 29 #[.bool s', .slice A' n' c', .slice B' m' d'] ∧ Wk 3 29 (w.heap.size + 1 + 1) W ∧ Blk W (w.heap.size + 1 + 1 + 1) 29 #[.bool s, .slice A n c, .slice B m d, .bool s', .slice A' n' c', .slice B' m' d']) ⟨slc, bts, bts, bts, Blk.new3 _ _ _ _ _ _⟩ ?_
  rintro W ⟨hbW, hx, hx', hr, hy⟩
  refine (areRats_no _ (RdRS.two hy (h.bl hbW) (k.bl hbW)) hall.out).mono ?_
  rintro e w1 ⟨rfl, hb1⟩
  clear hy
  have hx := hx.bl hb1
  have hx' := hx'.bl hb1
  have hr := hr.bl hb1
  have hbW := hbW.next hb1
  clear hb1
  obtain ⟨i0, i1, i2⟩ := bx3 hx
  obtain ⟨j0, j1, j2⟩ := bx3 hx'
  obtain ⟨v0, x0⟩ := hr.val_ (i := 0) (by omega)
  obtain ⟨v1, x1⟩ := hr.val_ (i := 1) (by omega)
  obtain ⟨v2, x2⟩ := hr.val_ (i := 2) (by omega)
  have hg := hr.lt
  obtain ⟨cs4, hB4, hc4⟩ := hr
  have hf0 := hB4.frozen 0
  have hf1 := hB4.frozen 1
  have hf2 := hB4.frozen 2
  go_wp2_with fail
  exact bodyPost_ret (v := .agg #[.bool false, .slice none 0 0, .slice none 0 0]) (by simp [results, Tryz.results49, go_sem, x0, x1, x2]) rfl ⟨_, _, _, _, _, _, _, rfl, by rw [hval.out]; exact OwR.zero _ _ _, slc⟩


set_option maxRecDepth 100000 in
set_option maxHeartbeats 4000000 in
theorem RatMul_small (w : World) {s : Bool} {A : Option Addr} {n c : Nat} {B : Option Addr} {m d : Nat} {x : Int} {D : Nat} {s' : Bool} {A' : Option Addr} {n' c' : Nat} {B' : Option Addr} {m' d' : Nat} {x' : Int} {D' : Nat} (h : IsR w s A n c B m d x D) (k : IsR w s' A' n' c' B' m' d' x' D') (hall : Hid (AllOk [raw x D, raw x' D'])) (hn : n ≤ 1) (hm : m = 1) (hn' : n' ≤ 1) (hm' : m' = 1) :
    Calls Tryz.prog 49 #[.agg #[.bool s, .slice A n c, .slice B m d], .agg #[.bool s', .slice A' n' c', .slice B' m' d']] w fun e w' => ∃ s1 A1 n1 c1 B1 m1 d1, e = .returned (.agg #[.bool s1, .slice A1 n1 c1, .slice B1 m1 d1]) ∧ OwR 3 w.heap.size w' s1 A1 n1 c1 B1 m1 d1 (ofFrac (x * x') (D * D')) ∧ Bl w w' := by
  subst hm hm'
  have hx0 := small_le (N := x.natAbs) (by rw [h.num.lenN]; exact hn)
  have hx0' := small_le (N := x'.natAbs) (by rw [k.num.lenN]; exact hn')
  have hD := (one_limb h.dn.lenN).2
  have hD' := (one_limb k.dn.lenN).2
  have l1 : -1000000000000000000 ≤ x * x' ∧ x * x' ≤ 1000000000000000000 := by
    rcases Int.le_total 0 x' with hp | hp
    · exact mul_lim (by omega) (by omega) hp (by omega)
    · have := mul_lim (a := x) (b := -x') (by omega) (by omega) (by omega) (by omega)
      rw [Int.mul_neg] at this
      omega
  have l3 := mul_lim (a := (D : Int)) (b := (D' : Int)) (by omega) (by omega) (by omega) (by omega)
  have hDD : 0 < D * D' := Nat.mul_pos hD.2 hD'.2
  generalize e1 : x * x' = p1 at *
  have e3 : (D : Int) * (D' : Int) = ((D * D' : Nat) : Int) := by rw [Int.natCast_mul]
  rw [e3] at l3
  generalize hP : D * D' = P at *
  have hP := Lib.hid hP; rename_i h_; clear h_
  clear hx0 hx0'
  go_enter Tryz.func49, Tryz.ntmps49
  go_wp2_with fail
  refine calls_gen (fun W => Bl w W ∧ Blk W (w.heap.size) 29 #[.bool s, .slice A n c, .slice B 1 d] ∧ Blk W (w.heap.size + 1) 29 #[.bool s', .slice A' n' c', .slice B' 1 d'] ∧ Wk 3 29 (w.heap.size + 1 + 1) W ∧ Blk W (w.heap.size + 1 + 1 + 1) 29 #[.bool s, .slice A n c, .slice B 1 d, .bool s', .slice A' n' c', .slice B' 1 d']) ⟨slc, bts, bts, bts, Blk.new3 _ _ _ _ _ _⟩ ?_
  rintro W ⟨hbW, hx, hx', hr, hy⟩
  refine (areRats_yes _ (RdRS.two hy (h.bl hbW) (k.bl hbW)) hall.out).mono ?_
  rintro e w1 ⟨rfl, hb1⟩
  clear hy
  have hx := hx.bl hb1
  have hx' := hx'.bl hb1
  have hr := hr.bl hb1
  have hbW := hbW.next hb1
  clear hb1
  obtain ⟨i0, i1, i2⟩ := bx3 hx
  obtain ⟨j0, j1, j2⟩ := bx3 hx'
  go_wp2_with fail
  refine (isSmall_yes _ hn rfl).mono ?_
  rintro e w3 ⟨rfl, hb3⟩
  have hx := hx.bl hb3
  have hx' := hx'.bl hb3
  have hr := hr.bl hb3
  have hbW := hbW.next hb3
  clear hb3
  obtain ⟨i0, i1, i2⟩ := bx3 hx
  obtain ⟨j0, j1, j2⟩ := bx3 hx'
  go_wp2_with fail
  refine (isSmall_yes _ hn' rfl).mono ?_
  rintro e w4 ⟨rfl, hb4⟩
  have hx := hx.bl hb4
  have hx' := hx'.bl hb4
  have hr := hr.bl hb4
  have hbW := hbW.next hb4
  clear hb4
  obtain ⟨i0, i1, i2⟩ := bx3 hx
  obtain ⟨j0, j1, j2⟩ := bx3 hx'
  go_wp2_with fail
  refine (small_any _ (h.bl hbW) hn).mono ?_
  rintro e w5 ⟨rfl, hb5⟩
  have hx := hx.bl hb5
  have hx' := hx'.bl hb5
  have hr := hr.bl hb5
  have hbW := hbW.next hb5
  clear hb5
  obtain ⟨i0, i1, i2⟩ := bx3 hx
  obtain ⟨j0, j1, j2⟩ := bx3 hx'
  go_wp2_with fail
  refine (small_any _ (k.bl hbW) hn').mono ?_
  rintro e w6 ⟨rfl, hb6⟩
  have hx := hx.bl hb6
  have hx' := hx'.bl hb6
  have hr := hr.bl hb6
  have hbW := hbW.next hb6
  clear hb6
  obtain ⟨i0, i1, i2⟩ := bx3 hx
  obtain ⟨j0, j1, j2⟩ := bx3 hx'
  go_wp2_with fail
  refine (ofInts_any _ p1 P (by omega) (by omega) hDD (by omega)).mono ?_
  rintro e w7 ⟨s1, A1, n1, c1, B1, m1, d1, rfl, hR, hb7⟩
  have hR := hR.mono (show w.heap.size + 1 + 1 + 1 ≤ w6.heap.size from hr.lt)
  have hx := hx.bl hb7
  have hx' := hx'.bl hb7
  have hr := hr.bl hb7
  have hbW := hbW.next hb7
  clear hb7
  obtain ⟨i0, i1, i2⟩ := bx3 hx
  obtain ⟨j0, j1, j2⟩ := bx3 hx'
  obtain ⟨v0, x0⟩ := hr.val_ (i := 0) (by omega)
  obtain ⟨v1, x1⟩ := hr.val_ (i := 1) (by omega)
  obtain ⟨v2, x2⟩ := hr.val_ (i := 2) (by omega)
  have hg := hr.lt
  obtain ⟨cs4, hB4, hc4⟩ := hr
  have hf0 := hB4.frozen 0
  have hf1 := hB4.frozen 1
  have hf2 := hB4.frozen 2
  go_wp2_with fail
  exact bodyPost_ret (v := .agg #[.bool s1, .slice A1 n1 c1, .slice B1 m1 d1]) (by simp [results, Tryz.results49, go_sem, x0, x1, x2]) rfl ⟨_, _, _, _, _, _, _, rfl, (((hR.far (by simp) _).far (by simp) _).far (by simp) _).mono (by omega), slc⟩


set_option maxRecDepth 100000 in
set_option maxHeartbeats 8000000 in
theorem RatMul_big_yes (w : World) {s : Bool} {A : Option Addr} {n c : Nat} {B : Option Addr} {m d : Nat} {x : Int} {D : Nat} {s' : Bool} {A' : Option Addr} {n' c' : Nat} {B' : Option Addr} {m' d' : Nat} {x' : Int} {D' : Nat} (h : IsR w s A n c B m d x D) (k : IsR w s' A' n' c' B' m' d' x' D') (hall : Hid (AllOk [raw x D, raw x' D'])) (hn : n ≤ 262143) (hm : m ≤ 262143) (hn' : n' ≤ 262143) (hm' : m' ≤ 262143) (hD : 0 < D) (hD' : 0 < D') (h1 : n ≤ 1 ∧ m = 1) (h2 : ¬ (n' ≤ 1 ∧ m' = 1)) :
    Calls Tryz.prog 49 #[.agg #[.bool s, .slice A n c, .slice B m d], .agg #[.bool s', .slice A' n' c', .slice B' m' d']] w fun e w' => ∃ s1 A1 n1 c1 B1 m1 d1, e = .returned (.agg #[.bool s1, .slice A1 n1 c1, .slice B1 m1 d1]) ∧ OwR 3 w.heap.size w' s1 A1 n1 c1 B1 m1 d1 (ofFrac (x * x') (D * D')) ∧ Bl w w' := by
  have q1 := h.num.lenN
  have q2 := h.dn.lenN
  have q3 := k.num.lenN
  have q4 := k.dn.lenN
  have hl3 : (dig (x * x').natAbs).length ≤ 1048576 := Nat.le_trans (imul_len (Nat.le_of_eq q1) (Nat.le_of_eq q3)) (by omega)
  have hlD : (dig (D * D')).length ≤ 1048576 := Nat.le_trans (dig_mul_len (Nat.le_of_eq q2) (Nat.le_of_eq q4)) (by omega)
  have hDD : 0 < D * D' := Nat.mul_pos hD hD'
  clear q1 q2 q3 q4
  have h1 := Lib.hid h1; rename_i h_; clear h_
  have h2 := Lib.hid h2; rename_i h_; clear h_
  go_enter Tryz.func49, Tryz.ntmps49
  go_wp2_with fail
  refine calls_gen (fun W => Bl w W ∧ Blk W (w.heap.size) 29 #[.bool s, .slice A n c, .slice B m d] ∧ Blk W (w.heap.size + 1) 29 #[.bool s', .slice A' n' c', .slice B' m' d'] ∧ Wk 3 29 (w.heap.size + 1 + 1) W ∧ Blk W (w.heap.size + 1 + 1 + 1) 29 #[.bool s, .slice A n c, .slice B m d, .bool s', .slice A' n' c', .slice B' m' d']) ⟨slc, bts, bts, bts, Blk.new3 _ _ _ _ _ _⟩ ?_
  rintro W ⟨hbW, hx, hx', hr, hy⟩
  refine (areRats_yes _ (RdRS.two hy (h.bl hbW) (k.bl hbW)) hall.out).mono ?_
  rintro e w1 ⟨rfl, hb1⟩
  clear hy
  have hx := hx.bl hb1
  have hx' := hx'.bl hb1
  have hr := hr.bl hb1
  have hbW := hbW.next hb1
  clear hb1
  obtain ⟨i0, i1, i2⟩ := bx3 hx
  obtain ⟨j0, j1, j2⟩ := bx3 hx'
  go_wp2_with fail
  refine (isSmall_yes _ h1.out.1 h1.out.2).mono ?_
  rintro e w2 ⟨rfl, hb2⟩
  have hx := hx.bl hb2
  have hx' := hx'.bl hb2
  have hr := hr.bl hb2
  have hbW := hbW.next hb2
  clear hb2
  obtain ⟨i0, i1, i2⟩ := bx3 hx
  obtain ⟨j0, j1, j2⟩ := bx3 hx'
  go_wp2_with fail
  refine (isSmall_no _ h2.out).mono ?_
  rintro e w3 ⟨rfl, hb3⟩
  have hx := hx.bl hb3
  have hx' := hx'.bl hb3
  have hr := hr.bl hb3
  have hbW := hbW.next hb3
  clear hb3
  obtain ⟨i0, i1, i2⟩ := bx3 hx
  obtain ⟨j0, j1, j2⟩ := bx3 hx'
  go_wp2_with fail
  have hz3 : w.heap.size + 1 + 1 < w3.heap.size := hr.lt
  go_region_held3 (fun w' => (w'.cell? ⟨w.heap.size, 0, none⟩ = some (.bool s) ∧ w'.cell? ⟨w.heap.size, 1, none⟩ = some (.slice A n c) ∧ w'.cell? ⟨w.heap.size, 2, none⟩ = some (.slice B m d)) ∧ (w'.cell? ⟨w.heap.size + 1, 0, none⟩ = some (.bool s') ∧ w'.cell? ⟨w.heap.size + 1, 1, none⟩ = some (.slice A' n' c') ∧ w'.cell? ⟨w.heap.size + 1, 2, none⟩ = some (.slice B' m' d')) ∧ (w'.cell? ⟨w.heap.size + 1 + 1, 0, none⟩ = some (cellD w' (w.heap.size + 1 + 1) 0) ∧ w'.cell? ⟨w.heap.size + 1 + 1, 1, none⟩ = some (cellD w' (w.heap.size + 1 + 1) 1) ∧ w'.cell? ⟨w.heap.size + 1 + 1, 2, none⟩ = some (cellD w' (w.heap.size + 1 + 1) 2)) ∧ w'.frozen? ⟨w.heap.size + 1 + 1, 0, none⟩ = false ∧ w'.frozen? ⟨w.heap.size + 1 + 1, 1, none⟩ = false ∧ w'.frozen? ⟨w.heap.size + 1 + 1, 2, none⟩ = false) (first | exact ⟨bx3 (T := 29) bts, bx3 (T := 29) bts, Wk.out3 (T := 29) bts⟩) (first | (go_at_call 121; refine (bigMul_any _ (h.b.bl slc) (k.b.bl slc) (by omega) (by omega)).mono ?_; rintro e w4 ⟨s4, A4, n4, c4, rfl, hO, hb4⟩) | (go_at_call 122; refine (natMul_any _ (h.dn.bl slc) (k.dn.bl slc) (by omega) (by omega)).mono ?_; rintro e w5 ⟨A5, n5, c5, rfl, hO5, hb5⟩; (have hz4 : w3.heap.size ≤ w4.heap.size := (Bl.size hb4 : w3.drew.heap.size ≤ _)); (have hz5 : w4.heap.size ≤ w5.heap.size := Bl.size hb5); (have hR7 : OwR 3 (w.heap.size + 1 + 1 + 1) w5 s4 A4 n4 c4 A5 n5 c5 (raw (x * x') (D * D')) := (OwR.two' hO.2 hO5 hb5 hz4 hO.1).mono hz3); (have hl4 : n4 ≤ 1048576 := by rw [← hO.len]; exact hl3); (have hl5 : n5 ≤ 1048576 := by rw [← hO5.rd.lenN]; exact hlD); (have hz7 : w.heap.size + 1 + 1 + 1 ≤ w5.heap.size := by omega)) | (go_at_call 120; refine (reduced_any _ hR7 hz7 hl4 hl5 hDD).mono ?_; rintro e w8 ⟨s1, A1, n1, c1, B1, m1, d1, rfl, hR, hb8⟩))
  have hr := (show Wk 3 29 (w.heap.size + 1 + 1) w8 from bts)
  have hbW : Bl w w8 := slc
  obtain ⟨v0, x0⟩ := hr.val_ (i := 0) (by omega)
  obtain ⟨v1, x1⟩ := hr.val_ (i := 1) (by omega)
  obtain ⟨v2, x2⟩ := hr.val_ (i := 2) (by omega)
  have hg := hr.lt
  obtain ⟨cs4, hB4, hc4⟩ := hr
  have hf0 := hB4.frozen 0
  have hf1 := hB4.frozen 1
  have hf2 := hB4.frozen 2
  go_wp2_with fail
  exact bodyPost_ret (v := .agg #[.bool s1, .slice A1 n1 c1, .slice B1 m1 d1]) (by simp [results, Tryz.results49, go_sem, x0, x1, x2]) rfl ⟨_, _, _, _, _, _, _, rfl, (((hR.far (by simp) _).far (by simp) _).far (by simp) _).mono (by omega), slc⟩


set_option maxRecDepth 100000 in
set_option maxHeartbeats 8000000 in
theorem RatMul_big_no (w : World) {s : Bool} {A : Option Addr} {n c : Nat} {B : Option Addr} {m d : Nat} {x : Int} {D : Nat} {s' : Bool} {A' : Option Addr} {n' c' : Nat} {B' : Option Addr} {m' d' : Nat} {x' : Int} {D' : Nat} (h : IsR w s A n c B m d x D) (k : IsR w s' A' n' c' B' m' d' x' D') (hall : Hid (AllOk [raw x D, raw x' D'])) (hn : n ≤ 262143) (hm : m ≤ 262143) (hn' : n' ≤ 262143) (hm' : m' ≤ 262143) (hD : 0 < D) (hD' : 0 < D') (h1 : ¬ (n ≤ 1 ∧ m = 1)) :
    Calls Tryz.prog 49 #[.agg #[.bool s, .slice A n c, .slice B m d], .agg #[.bool s', .slice A' n' c', .slice B' m' d']] w fun e w' => ∃ s1 A1 n1 c1 B1 m1 d1, e = .returned (.agg #[.bool s1, .slice A1 n1 c1, .slice B1 m1 d1]) ∧ OwR 3 w.heap.size w' s1 A1 n1 c1 B1 m1 d1 (ofFrac (x * x') (D * D')) ∧ Bl w w' := by
  have q1 := h.num.lenN
  have q2 := h.dn.lenN
  have q3 := k.num.lenN
  have q4 := k.dn.lenN
  have hl3 : (dig (x * x').natAbs).length ≤ 1048576 := Nat.le_trans (imul_len (Nat.le_of_eq q1) (Nat.le_of_eq q3)) (by omega)
  have hlD : (dig (D * D')).length ≤ 1048576 := Nat.le_trans (dig_mul_len (Nat.le_of_eq q2) (Nat.le_of_eq q4)) (by omega)
  have hDD : 0 < D * D' := Nat.mul_pos hD hD'
  clear q1 q2 q3 q4
  have h1 := Lib.hid h1; rename_i h_; clear h_

  go_enter Tryz.func49, Tryz.ntmps49
  go_wp2_with fail
  refine calls_gen (fun W => Bl w W ∧ Blk W (w.heap.size) 29 #[.bool s, .slice A n c, .slice B m d] ∧ Blk W (w.heap.size + 1) 29 #[.bool s', .slice A' n' c', .slice B' m' d'] ∧ Wk 3 29 (w.heap.size + 1 + 1) W ∧ Blk W (w.heap.size + 1 + 1 + 1) 29 #[.bool s, .slice A n c, .slice B m d, .bool s', .slice A' n' c', .slice B' m' d']) ⟨slc, bts, bts, bts, Blk.new3 _ _ _ _ _ _⟩ ?_
  rintro W ⟨hbW, hx, hx', hr, hy⟩
  refine (areRats_yes _ (RdRS.two hy (h.bl hbW) (k.bl hbW)) hall.out).mono ?_
  rintro e w1 ⟨rfl, hb1⟩
  clear hy
  have hx := hx.bl hb1
  have hx' := hx'.bl hb1
  have hr := hr.bl hb1
  have hbW := hbW.next hb1
  clear hb1
  obtain ⟨i0, i1, i2⟩ := bx3 hx
  obtain ⟨j0, j1, j2⟩ := bx3 hx'
  go_wp2_with fail
  refine (isSmall_no _ h1.out).mono ?_
  rintro e w2 ⟨rfl, hb2⟩
  have hx := hx.bl hb2
  have hx' := hx'.bl hb2
  have hr := hr.bl hb2
  have hbW := hbW.next hb2
  clear hb2
  obtain ⟨i0, i1, i2⟩ := bx3 hx
  obtain ⟨j0, j1, j2⟩ := bx3 hx'
  go_wp2_with fail
  have hz3 : w.heap.size + 1 + 1 < w2.heap.size := hr.lt
  go_region_held3 (fun w' => (w'.cell? ⟨w.heap.size, 0, none⟩ = some (.bool s) ∧ w'.cell? ⟨w.heap.size, 1, none⟩ = some (.slice A n c) ∧ w'.cell? ⟨w.heap.size, 2, none⟩ = some (.slice B m d)) ∧ (w'.cell? ⟨w.heap.size + 1, 0, none⟩ = some (.bool s') ∧ w'.cell? ⟨w.heap.size + 1, 1, none⟩ = some (.slice A' n' c') ∧ w'.cell? ⟨w.heap.size + 1, 2, none⟩ = some (.slice B' m' d')) ∧ (w'.cell? ⟨w.heap.size + 1 + 1, 0, none⟩ = some (cellD w' (w.heap.size + 1 + 1) 0) ∧ w'.cell? ⟨w.heap.size + 1 + 1, 1, none⟩ = some (cellD w' (w.heap.size + 1 + 1) 1) ∧ w'.cell? ⟨w.heap.size + 1 + 1, 2, none⟩ = some (cellD w' (w.heap.size + 1 + 1) 2)) ∧ w'.frozen? ⟨w.heap.size + 1 + 1, 0, none⟩ = false ∧ w'.frozen? ⟨w.heap.size + 1 + 1, 1, none⟩ = false ∧ w'.frozen? ⟨w.heap.size + 1 + 1, 2, none⟩ = false) (first | exact ⟨bx3 (T := 29) bts, bx3 (T := 29) bts, Wk.out3 (T := 29) bts⟩) (first | (go_at_call 121; refine (bigMul_any _ (h.b.bl slc) (k.b.bl slc) (by omega) (by omega)).mono ?_; rintro e w4 ⟨s4, A4, n4, c4, rfl, hO, hb4⟩) | (go_at_call 122; refine (natMul_any _ (h.dn.bl slc) (k.dn.bl slc) (by omega) (by omega)).mono ?_; rintro e w5 ⟨A5, n5, c5, rfl, hO5, hb5⟩; (have hz4 : w2.heap.size ≤ w4.heap.size := (Bl.size hb4 : w2.drew.heap.size ≤ _)); (have hz5 : w4.heap.size ≤ w5.heap.size := Bl.size hb5); (have hR7 : OwR 3 (w.heap.size + 1 + 1 + 1) w5 s4 A4 n4 c4 A5 n5 c5 (raw (x * x') (D * D')) := (OwR.two' hO.2 hO5 hb5 hz4 hO.1).mono hz3); (have hl4 : n4 ≤ 1048576 := by rw [← hO.len]; exact hl3); (have hl5 : n5 ≤ 1048576 := by rw [← hO5.rd.lenN]; exact hlD); (have hz7 : w.heap.size + 1 + 1 + 1 ≤ w5.heap.size := by omega)) | (go_at_call 120; refine (reduced_any _ hR7 hz7 hl4 hl5 hDD).mono ?_; rintro e w8 ⟨s1, A1, n1, c1, B1, m1, d1, rfl, hR, hb8⟩))
  have hr := (show Wk 3 29 (w.heap.size + 1 + 1) w8 from bts)
  have hbW : Bl w w8 := slc
  obtain ⟨v0, x0⟩ := hr.val_ (i := 0) (by omega)
  obtain ⟨v1, x1⟩ := hr.val_ (i := 1) (by omega)
  obtain ⟨v2, x2⟩ := hr.val_ (i := 2) (by omega)
  have hg := hr.lt
  obtain ⟨cs4, hB4, hc4⟩ := hr
  have hf0 := hB4.frozen 0
  have hf1 := hB4.frozen 1
  have hf2 := hB4.frozen 2
  go_wp2_with fail
  exact bodyPost_ret (v := .agg #[.bool s1, .slice A1 n1 c1, .slice B1 m1 d1]) (by simp [results, Tryz.results49, go_sem, x0, x1, x2]) rfl ⟨_, _, _, _, _, _, _, rfl, (((hR.far (by simp) _).far (by simp) _).far (by simp) _).mono (by omega), slc⟩


theorem RatMul_any (w : World) {s : Bool} {A : Option Addr} {n c : Nat} {B : Option Addr} {m d : Nat} {r : RatD} {s' : Bool} {A' : Option Addr} {n' c' : Nat} {B' : Option Addr} {m' d' : Nat} {r' : RatD} (h : RdR w s A n c B m d r) (k : RdR w s' A' n' c' B' m' d' r') :
    Calls Tryz.prog 49 #[.agg #[.bool s, .slice A n c, .slice B m d], .agg #[.bool s', .slice A' n' c', .slice B' m' d']] w fun e w' => ∃ s1 A1 n1 c1 B1 m1 d1, e = .returned (.agg #[.bool s1, .slice A1 n1 c1, .slice B1 m1 d1]) ∧ OwR 3 w.heap.size w' s1 A1 n1 c1 B1 m1 d1 (mulR r r') ∧ Bl w w' := by
  by_cases ho : OkR r ∧ OkR r'
  · have hall := Lib.hid (allOk_two.2 ho)
    have e1 := ho.1.get.1
    have e2 := ho.2.get.1
    have hI := IsR.out h ho.1
    have hI' := IsR.out k ho.2
    have hL := OkR.lens h ho.1
    have hL' := OkR.lens k ho.2
    rw [show mulR r r' = ofFrac (rn r * rn r') (rd r * rd r') by unfold mulR; rw [if_pos ho]]
    rw [e1, e2] at hall
    by_cases h1 : n ≤ 1 ∧ m = 1
    · by_cases h2 : n' ≤ 1 ∧ m' = 1
      · exact RatMul_small w hI hI' hall h1.1 h1.2 h2.1 h2.2
      · exact RatMul_big_yes w hI hI' hall (by omega) (by omega) (by omega) (by omega) hL.2.2 hL'.2.2 h1 h2
    · exact RatMul_big_no w hI hI' hall (by omega) (by omega) (by omega) (by omega) hL.2.2 hL'.2.2 h1
  · exact RatMul_bad w h k ho
end

section
open Go.RowKit

/-- The zero point: what is not valid. -/
def zP : PtD := ⟨zR, zR⟩
def ifP (p : PtD) : PtD := if p.x.den.length = 0 ∨ p.y.den.length = 0 then zP else p
noncomputable def subP (p q : PtD) : PtD := ifP ⟨subR p.x q.x, subR p.y q.y⟩
noncomputable def crossP (p q : PtD) : RatD := subR (mulR p.x q.y) (mulR p.y q.x)
noncomputable def dblA (a b c : PtD) : RatD := crossP (subP b a) (subP c a)
def OkP (p : PtD) : Prop := OkR p.x ∧ OkR p.y
theorem RdR.zero (w : World) : RdR w false none 0 0 none 0 0 zR := ⟨rfl, RdI.nil _ _ _, RdI.nil _ _ _⟩
theorem isRat_yes (w : World) {s : Bool} {A : Option Addr} {n c : Nat} {B : Option Addr} {m d : Nat} (hm : 0 < m) :
    Calls Tryz.prog 76 #[.agg #[.bool s, .slice A n c, .slice B m d]] w fun e w' => e = .returned (.bool true) ∧ Bl w w' := by
  go_enter Tryz.func76, Tryz.ntmps76
  go_wp2_with fail
  go_ret
  exact ⟨rfl, slc⟩
theorem isRat_no (w : World) {s : Bool} {A : Option Addr} {n c : Nat} {B : Option Addr} {m d : Nat} (hm : m = 0) :
    Calls Tryz.prog 76 #[.agg #[.bool s, .slice A n c, .slice B m d]] w fun e w' => e = .returned (.bool false) ∧ Bl w w' := by
  subst hm
  go_enter Tryz.func76, Tryz.ntmps76
  go_wp2_with fail
  go_ret
  exact ⟨rfl, slc⟩

set_option maxRecDepth 100000 in
set_option maxHeartbeats 4000000 in
theorem ifPoint_yes (w : World) {s : Bool} {A : Option Addr} {n c : Nat} {B : Option Addr} {m d : Nat} {t : Bool} {C : Option Addr} {i e : Nat} {D : Option Addr} {j f : Nat} (hm : 0 < m) (hj : 0 < j) :
    Calls Tryz.prog 77 #[.agg #[.bool s, .slice A n c, .slice B m d, .bool t, .slice C i e, .slice D j f]] w fun en w' => en = .returned (.agg #[.bool s, .slice A n c, .slice B m d, .bool t, .slice C i e, .slice D j f]) ∧ Bl w w' := by
  go_enter Tryz.func77, Tryz.ntmps77
  go_wp2_with fail
  refine calls_gen (fun W => Bl w W ∧ Blk W (w.heap.size) 31 #[.bool s, .slice A n c, .slice B m d, .bool t, .slice C i e, .slice D j f] ∧ Wk 6 31 (w.heap.size + 1) W) ⟨slc, bts, bts⟩ ?_
  rintro W ⟨hbW, hx, hr⟩
  refine (isRat_yes _ hm).mono ?_
  rintro e1 w1 ⟨rfl, hb1⟩
  have hx := hx.bl hb1
  have hr := hr.bl hb1
  have hbW := hbW.next hb1
  clear hb1
  obtain ⟨i0, i1, i2, i3, i4, i5⟩ := bx6 hx
  go_wp2_with fail
  refine (isRat_yes _ hj).mono ?_
  rintro e2 w2 ⟨rfl, hb2⟩
  have hx := hx.bl hb2
  have hr := hr.bl hb2
  have hbW := hbW.next hb2
  clear hb2
  obtain ⟨i0, i1, i2, i3, i4, i5⟩ := bx6 hx
  obtain ⟨v0, x0⟩ := hr.val_ (i := 0) (by omega)
  obtain ⟨v1, x1⟩ := hr.val_ (i := 1) (by omega)
  obtain ⟨v2, x2⟩ := hr.val_ (i := 2) (by omega)
  obtain ⟨v3, x3⟩ := hr.val_ (i := 3) (by omega)
  obtain ⟨v4, x4⟩ := hr.val_ (i := 4) (by omega)
  obtain ⟨v5, x5⟩ := hr.val_ (i := 5) (by omega)
  have hg := hr.lt
  obtain ⟨cs4, hB4, hc4⟩ := hr
  have hf0 := hB4.frozen 0
  have hf1 := hB4.frozen 1
  have hf2 := hB4.frozen 2
  have hf3 := hB4.frozen 3
  have hf4 := hB4.frozen 4
  have hf5 := hB4.frozen 5
  go_wp2_with fail
  exact bodyPost_ret (v := .agg #[.bool s, .slice A n c, .slice B m d, .bool t, .slice C i e, .slice D j f]) (by simp [results, Tryz.results77, go_sem, x0, x1, x2, x3, x4, x5]) rfl ⟨rfl, slc⟩
set_option maxRecDepth 100000 in
set_option maxHeartbeats 4000000 in
theorem ifPoint_no (w : World) {s : Bool} {A : Option Addr} {n c : Nat} {B : Option Addr} {m d : Nat} {t : Bool} {C : Option Addr} {i e : Nat} {D : Option Addr} {j f : Nat} (hmj : m = 0 ∨ j = 0) :
    Calls Tryz.prog 77 #[.agg #[.bool s, .slice A n c, .slice B m d, .bool t, .slice C i e, .slice D j f]] w fun en w' => en = .returned (.agg #[.bool false, .slice none 0 0, .slice none 0 0, .bool false, .slice none 0 0, .slice none 0 0]) ∧ Bl w w' := by
  rcases Nat.eq_zero_or_pos m with h0 | h0
  · clear hmj
    have h0 := Lib.hid h0; rename_i h_; clear h_
    go_enter Tryz.func77, Tryz.ntmps77
    go_wp2_with fail
    refine calls_gen (fun W => Bl w W ∧ Blk W (w.heap.size) 31 #[.bool s, .slice A n c, .slice B m d, .bool t, .slice C i e, .slice D j f] ∧ Wk 6 31 (w.heap.size + 1) W) ⟨slc, bts, bts⟩ ?_
    rintro W ⟨hbW, hx, hr⟩
    refine (isRat_no _ h0.out).mono ?_
    rintro e1 w1 ⟨rfl, hb1⟩
    have hx := hx.bl hb1
    have hr := hr.bl hb1
    have hbW := hbW.next hb1
    clear hb1
    obtain ⟨i0, i1, i2, i3, i4, i5⟩ := bx6 hx
    obtain ⟨v0, x0⟩ := hr.val_ (i := 0) (by omega)
    obtain ⟨v1, x1⟩ := hr.val_ (i := 1) (by omega)
    obtain ⟨v2, x2⟩ := hr.val_ (i := 2) (by omega)
    obtain ⟨v3, x3⟩ := hr.val_ (i := 3) (by omega)
    obtain ⟨v4, x4⟩ := hr.val_ (i := 4) (by omega)
    obtain ⟨v5, x5⟩ := hr.val_ (i := 5) (by omega)
    have hg := hr.lt
    obtain ⟨cs4, hB4, hc4⟩ := hr
    have hf0 := hB4.frozen 0
    have hf1 := hB4.frozen 1
    have hf2 := hB4.frozen 2
    have hf3 := hB4.frozen 3
    have hf4 := hB4.frozen 4
    have hf5 := hB4.frozen 5
    go_wp2_with fail
    exact bodyPost_ret (v := .agg #[.bool false, .slice none 0 0, .slice none 0 0, .bool false, .slice none 0 0, .slice none 0 0]) (by simp [results, Tryz.results77, go_sem, x0, x1, x2, x3, x4, x5]) rfl ⟨rfl, slc⟩
  · have h1 : j = 0 := by omega
    clear hmj
    have h1 := Lib.hid h1; rename_i h_; clear h_
    go_enter Tryz.func77, Tryz.ntmps77
    go_wp2_with fail
    refine calls_gen (fun W => Bl w W ∧ Blk W (w.heap.size) 31 #[.bool s, .slice A n c, .slice B m d, .bool t, .slice C i e, .slice D j f] ∧ Wk 6 31 (w.heap.size + 1) W) ⟨slc, bts, bts⟩ ?_
    rintro W ⟨hbW, hx, hr⟩
    refine (isRat_yes _ h0).mono ?_
    rintro e1 w1 ⟨rfl, hb1⟩
    have hx := hx.bl hb1
    have hr := hr.bl hb1
    have hbW := hbW.next hb1
    clear hb1
    obtain ⟨i0, i1, i2, i3, i4, i5⟩ := bx6 hx
    go_wp2_with fail
    refine (isRat_no _ h1.out).mono ?_
    rintro e2 w2 ⟨rfl, hb2⟩
    have hx := hx.bl hb2
    have hr := hr.bl hb2
    have hbW := hbW.next hb2
    clear hb2
    obtain ⟨i0, i1, i2, i3, i4, i5⟩ := bx6 hx
    obtain ⟨v0, x0⟩ := hr.val_ (i := 0) (by omega)
    obtain ⟨v1, x1⟩ := hr.val_ (i := 1) (by omega)
    obtain ⟨v2, x2⟩ := hr.val_ (i := 2) (by omega)
    obtain ⟨v3, x3⟩ := hr.val_ (i := 3) (by omega)
    obtain ⟨v4, x4⟩ := hr.val_ (i := 4) (by omega)
    obtain ⟨v5, x5⟩ := hr.val_ (i := 5) (by omega)
    have hg := hr.lt
    obtain ⟨cs4, hB4, hc4⟩ := hr
    have hf0 := hB4.frozen 0
    have hf1 := hB4.frozen 1
    have hf2 := hB4.frozen 2
    have hf3 := hB4.frozen 3
    have hf4 := hB4.frozen 4
    have hf5 := hB4.frozen 5
    go_wp2_with fail
    exact bodyPost_ret (v := .agg #[.bool false, .slice none 0 0, .slice none 0 0, .bool false, .slice none 0 0, .slice none 0 0]) (by simp [results, Tryz.results77, go_sem, x0, x1, x2, x3, x4, x5]) rfl ⟨rfl, slc⟩
theorem OwP.zero (T : TypeId) (b0 : Nat) (w : World) : OwP T b0 w false none 0 0 none 0 0 false none 0 0 none 0 0 zP :=
  ⟨[], [], ⟨rfl, [], [], ⟨RdI.nil _ _ _, .inl ⟨rfl, rfl⟩⟩, ⟨RdI.nil _ _ _, .inl ⟨rfl, rfl⟩⟩, rfl⟩, ⟨rfl, [], [], ⟨RdI.nil _ _ _, .inl ⟨rfl, rfl⟩⟩, ⟨RdI.nil _ _ _, .inl ⟨rfl, rfl⟩⟩, rfl⟩, Fp.nil _ _⟩
section
variable {T : TypeId} {b0 : Nat} {w W : World} {s : Bool} {A : Option Addr} {n c : Nat} {B : Option Addr} {m d : Nat} {t : Bool} {C : Option Addr} {i e : Nat} {D : Option Addr} {j f : Nat} {p : PtD}
theorem OwP.bl (h : OwP T b0 w s A n c B m d t C i e D j f p) (hb : Bl w W) : OwP T b0 W s A n c B m d t C i e D j f p := by
  obtain ⟨b1, b2, h1, h2, hf⟩ := h
  exact ⟨b1, b2, h1.bl hb, h2.bl hb, hf.mono (Nat.le_refl _) hb.size⟩
theorem OwP.rx (h : OwP T b0 w s A n c B m d t C i e D j f p) : RdR w s A n c B m d p.x := by
  obtain ⟨b1, b2, h1, h2, hf⟩ := h
  exact h1.rd
theorem OwP.ry (h : OwP T b0 w s A n c B m d t C i e D j f p) : RdR w t C i e D j f p.y := by
  obtain ⟨b1, b2, h1, h2, hf⟩ := h
  exact h2.rd
end
theorem ifPoint_any (w : World) {b0 : Nat} {s : Bool} {A : Option Addr} {n c : Nat} {B : Option Addr} {m d : Nat} {t : Bool} {C : Option Addr} {i e : Nat} {D : Option Addr} {j f : Nat} {p : PtD} (h : OwP 3 b0 w s A n c B m d t C i e D j f p) :
    Calls Tryz.prog 77 #[.agg #[.bool s, .slice A n c, .slice B m d, .bool t, .slice C i e, .slice D j f]] w fun en w' => ∃ s1 A1 n1 c1 B1 m1 d1 t1 C1 i1 e1 D1 j1 f1, en = .returned (.agg #[.bool s1, .slice A1 n1 c1, .slice B1 m1 d1, .bool t1, .slice C1 i1 e1, .slice D1 j1 f1]) ∧ OwP 3 b0 w' s1 A1 n1 c1 B1 m1 d1 t1 C1 i1 e1 D1 j1 f1 (ifP p) ∧ Bl w w' := by
  have l1 := h.rx.den.len
  have l2 := h.ry.den.len
  by_cases hz : m = 0 ∨ j = 0
  · have e : ifP p = zP := by unfold ifP; rw [l1, l2, if_pos hz]
    rw [e]
    refine (ifPoint_no w hz).mono ?_
    rintro en w' ⟨rfl, hb⟩
    exact ⟨_, _, _, _, _, _, _, _, _, _, _, _, _, _, rfl, OwP.zero _ _ _, hb⟩
  · have e : ifP p = p := by unfold ifP; rw [l1, l2, if_neg hz]
    rw [e]
    refine (ifPoint_yes w (by omega) (by omega)).mono ?_
    rintro en w' ⟨rfl, hb⟩
    exact ⟨_, _, _, _, _, _, _, _, _, _, _, _, _, _, rfl, h.bl hb, hb⟩

set_option maxRecDepth 100000 in
set_option maxHeartbeats 8000000 in
theorem SubtractPoints_any (w : World) {s : Bool} {A : Option Addr} {n c : Nat} {B : Option Addr} {m d : Nat} {t : Bool} {C : Option Addr} {i e : Nat} {D : Option Addr} {j f : Nat} {p : PtD} {s' : Bool} {A' : Option Addr} {n' c' : Nat} {B' : Option Addr} {m' d' : Nat} {t' : Bool} {C' : Option Addr} {i' e' : Nat} {D' : Option Addr} {j' f' : Nat} {p' : PtD} (h : RdR w s A n c B m d p.x) (k : RdR w t C i e D j f p.y) (h' : RdR w s' A' n' c' B' m' d' p'.x) (k' : RdR w t' C' i' e' D' j' f' p'.y) :
    Calls Tryz.prog 147 #[.agg #[.bool s, .slice A n c, .slice B m d, .bool t, .slice C i e, .slice D j f], .agg #[.bool s', .slice A' n' c', .slice B' m' d', .bool t', .slice C' i' e', .slice D' j' f']] w fun en w' => ∃ s1 A1 n1 c1 B1 m1 d1 t1 C1 i1 e1 D1 j1 f1, en = .returned (.agg #[.bool s1, .slice A1 n1 c1, .slice B1 m1 d1, .bool t1, .slice C1 i1 e1, .slice D1 j1 f1]) ∧ OwP 3 w.heap.size w' s1 A1 n1 c1 B1 m1 d1 t1 C1 i1 e1 D1 j1 f1 (subP p p') ∧ Bl w w' := by
  go_enter Tryz.func147, Tryz.ntmps147
  go_wp2_with fail
  refine wp_gen (fun W => Bl w W ∧ Blk W (w.heap.size) 31 #[.bool s, .slice A n c, .slice B m d, .bool t, .slice C i e, .slice D j f] ∧ Blk W (w.heap.size + 1) 31 #[.bool s', .slice A' n' c', .slice B' m' d', .bool t', .slice C' i' e', .slice D' j' f'] ∧ Wk 6 31 (w.heap.size + 1 + 1) W) ⟨slc, bts, bts, bts⟩ ?_
  rintro W ⟨hbW, hx, hx', hr⟩
  go_region_held3 (fun w' => (w'.cell? ⟨w.heap.size, 0, none⟩ = some (.bool s) ∧ w'.cell? ⟨w.heap.size, 1, none⟩ = some (.slice A n c) ∧ w'.cell? ⟨w.heap.size, 2, none⟩ = some (.slice B m d) ∧ w'.cell? ⟨w.heap.size, 3, none⟩ = some (.bool t) ∧ w'.cell? ⟨w.heap.size, 4, none⟩ = some (.slice C i e) ∧ w'.cell? ⟨w.heap.size, 5, none⟩ = some (.slice D j f)) ∧ (w'.cell? ⟨w.heap.size + 1, 0, none⟩ = some (.bool s') ∧ w'.cell? ⟨w.heap.size + 1, 1, none⟩ = some (.slice A' n' c') ∧ w'.cell? ⟨w.heap.size + 1, 2, none⟩ = some (.slice B' m' d') ∧ w'.cell? ⟨w.heap.size + 1, 3, none⟩ = some (.bool t') ∧ w'.cell? ⟨w.heap.size + 1, 4, none⟩ = some (.slice C' i' e') ∧ w'.cell? ⟨w.heap.size + 1, 5, none⟩ = some (.slice D' j' f')) ∧ (w'.cell? ⟨w.heap.size + 1 + 1, 0, none⟩ = some (cellD w' (w.heap.size + 1 + 1) 0) ∧ w'.cell? ⟨w.heap.size + 1 + 1, 1, none⟩ = some (cellD w' (w.heap.size + 1 + 1) 1) ∧ w'.cell? ⟨w.heap.size + 1 + 1, 2, none⟩ = some (cellD w' (w.heap.size + 1 + 1) 2) ∧ w'.cell? ⟨w.heap.size + 1 + 1, 3, none⟩ = some (cellD w' (w.heap.size + 1 + 1) 3) ∧ w'.cell? ⟨w.heap.size + 1 + 1, 4, none⟩ = some (cellD w' (w.heap.size + 1 + 1) 4) ∧ w'.cell? ⟨w.heap.size + 1 + 1, 5, none⟩ = some (cellD w' (w.heap.size + 1 + 1) 5)) ∧ w'.frozen? ⟨w.heap.size + 1 + 1, 0, none⟩ = false ∧ w'.frozen? ⟨w.heap.size + 1 + 1, 1, none⟩ = false ∧ w'.frozen? ⟨w.heap.size + 1 + 1, 2, none⟩ = false ∧ w'.frozen? ⟨w.heap.size + 1 + 1, 3, none⟩ = false ∧ w'.frozen? ⟨w.heap.size + 1 + 1, 4, none⟩ = false ∧ w'.frozen? ⟨w.heap.size + 1 + 1, 5, none⟩ = false) (first | exact ⟨bx6 (T := 31) bts, bx6 (T := 31) bts, Wk.out6 (T := 31) bts⟩) (first | (go_at_call 78; with_reducible refine (RatSub_any _ (h.bl slc) (h'.bl slc)).mono ?_; rintro en w2 ⟨s2, A2, n2, c2, B2, m2, d2, rfl, hR2, hb2⟩) | (go_at_call 78; with_reducible refine (RatSub_any _ (k.bl slc) (k'.bl slc)).mono ?_; rintro en w3 ⟨s3, A3, n3, c3, B3, m3, d3, rfl, hR3, hb3⟩) | (go_at_call 77; refine (ifPoint_any (p := ⟨subR p.x p'.x, subR p.y p'.y⟩) _ (OwP.two hR2 hR3 hb3 (Bl.size hb2))).mono ?_; rintro en w4 ⟨s1, A1, n1, c1, B1, m1, d1, t1, C1, i1, e1, D1, j1, f1, rfl, hX, hb4⟩))
  have hz : w.heap.size + 1 + 1 + 1 ≤ W.heap.size := hr.lt
  have hr := (show Wk 6 31 (w.heap.size + 1 + 1) w4 from bts)
  have hbW : Bl w w4 := slc
  have hX := hX.low (show w.heap.size + 1 + 1 + 1 ≤ W.drew.heap.size from hz)
  obtain ⟨v0, x0⟩ := hr.val_ (i := 0) (by omega)
  obtain ⟨v1, x1⟩ := hr.val_ (i := 1) (by omega)
  obtain ⟨v2, x2⟩ := hr.val_ (i := 2) (by omega)
  obtain ⟨v3, x3⟩ := hr.val_ (i := 3) (by omega)
  obtain ⟨v4, x4⟩ := hr.val_ (i := 4) (by omega)
  obtain ⟨v5, x5⟩ := hr.val_ (i := 5) (by omega)
  have hg := hr.lt
  obtain ⟨cs4, hB4, hc4⟩ := hr
  have hf0 := hB4.frozen 0
  have hf1 := hB4.frozen 1
  have hf2 := hB4.frozen 2
  have hf3 := hB4.frozen 3
  have hf4 := hB4.frozen 4
  have hf5 := hB4.frozen 5
  go_wp2_with fail
  exact bodyPost_ret (v := .agg #[.bool s1, .slice A1 n1 c1, .slice B1 m1 d1, .bool t1, .slice C1 i1 e1, .slice D1 j1 f1]) (by simp [results, Tryz.results147, go_sem, x0, x1, x2, x3, x4, x5]) rfl ⟨_, _, _, _, _, _, _, _, _, _, _, _, _, _, rfl, ((((((hX.far (by simp) _).far (by simp) _).far (by simp) _).far (by simp) _).far (by simp) _).far (by simp) _).low (by omega), slc⟩
end

end Go.Proofs.YtajlahjghapbkaaGreat
