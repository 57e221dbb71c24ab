/- Lemmas. -/
import Derived.Test.YtajlahjghapbkaaGreatRows
import Derived.Test.YtajlahjghapbkaaGreatPProlongM12
import Derived.Test.YtajlahjghapbkaaGreatPProlongM08
namespace Go.Proofs.YtajlahjghapbkaaGreat
section
open Go.RowKit

theorem OkR.lens {w : World} {s : Bool} {A : Option Addr} {n c : Nat} {B : Option Addr} {m d : Nat} {r : RatD} (h : RdR w s A n c B m d r) (ho : OkR r) : n ≤ 24 ∧ m ≤ 24 ∧ 0 < rd r := by
  have hI := IsR.out h ho
  have g := ho.get
  have l1 := hI.num.lenN
  have l2 := hI.dn.lenN
  omega

set_option maxRecDepth 100000 in
set_option maxHeartbeats 4000000 in
theorem RatAdd_any (w : World) {s : Bool} {A : Option Addr} {n c : Nat} {B : Option Addr} {m d : Nat} {r : RatD} {s' : Bool} {A' : Option Addr} {n' c' : Nat} {B' : Option Addr} {m' d' : Nat} {r' : RatD} (h : RdR w s A n c B m d r) (k : RdR w s' A' n' c' B' m' d' r') :
    Calls Tryz.prog 22 #[.agg #[.bool s, .slice A n c, .slice B m d], .agg #[.bool s', .slice A' n' c', .slice B' m' d']] w fun e w' => ∃ s1 A1 n1 c1 B1 m1 d1, e = .returned (.agg #[.bool s1, .slice A1 n1 c1, .slice B1 m1 d1]) ∧ OwR 3 w.heap.size w' s1 A1 n1 c1 B1 m1 d1 (addR r r') ∧ Bl w w' := by
  by_cases ho : OkR r ∧ OkR r'
  · have hall := Lib.hid (allOk_two.2 ho)
    have hI := IsR.out h ho.1
    have hI' := IsR.out k ho.2
    have hL := OkR.lens h ho.1
    have hL' := OkR.lens k ho.2
    have hval := Lib.hid (show addR r r' = ofFrac (rn r * rd r' + rn r' * rd r) (rd r * rd r') by unfold addR; rw [if_pos ho])
    clear ho
    go_enter Tryz.func22, Tryz.ntmps22
    go_wp2_with fail
    refine calls_gen (fun W => Bl w W ∧ Blk W (w.heap.size) 29 #[.bool s, .slice A n c, .slice B m d] ∧ Blk W (w.heap.size + 1) 29 #[.bool s', .slice A' n' c', .slice B' m' d'] ∧ Wk 3 29 (w.heap.size + 1 + 1) W ∧ Blk W (w.heap.size + 1 + 1 + 1) 29 #[.bool s, .slice A n c, .slice B m d, .bool s', .slice A' n' c', .slice B' m' d']) ⟨slc, bts, bts, bts, Blk.new3 _ _ _ _ _ _⟩ ?_
    rintro W ⟨hbW, hx, hx', hr, hy⟩
    refine (areRats_yes _ (RdRS.two hy (h.bl hbW) (k.bl hbW)) hall.out).mono ?_
    rintro e w1 ⟨rfl, hb1⟩
    clear hy
    have hx := hx.bl hb1
    have hx' := hx'.bl hb1
    have hr := hr.bl hb1
    have hbW := hbW.next hb1
    clear hb1
    obtain ⟨i0, i1, i2⟩ := bx3 hx
    obtain ⟨j0, j1, j2⟩ := bx3 hx'
    go_wp2_with fail
    refine (plus_any _ (RdR.bl hI hbW) (RdR.bl hI' hbW) (by omega) (by omega) (by omega) (by omega) hL.2.2 hL'.2.2).mono ?_
    rintro e w2 ⟨s1, A1, n1, c1, B1, m1, d1, rfl, hR, hb2⟩
    have hR := hR.mono (show w.heap.size + 1 + 1 + 1 ≤ w1.heap.size from hr.lt)
    rw [← hval.out] at hR
    have hx := hx.bl hb2
    have hx' := hx'.bl hb2
    have hr := hr.bl hb2
    have hbW := hbW.next hb2
    clear hb2
    obtain ⟨i0, i1, i2⟩ := bx3 hx
    obtain ⟨j0, j1, j2⟩ := bx3 hx'
    obtain ⟨v0, x0⟩ := hr.val_ (i := 0) (by omega)
    obtain ⟨v1, x1⟩ := hr.val_ (i := 1) (by omega)
    obtain ⟨v2, x2⟩ := hr.val_ (i := 2) (by omega)
    have hg := hr.lt
    obtain ⟨cs4, hB4, hc4⟩ := hr
    have hf0 := hB4.frozen 0
    have hf1 := hB4.frozen 1
    have hf2 := hB4.frozen 2
    go_wp2_with fail
    exact bodyPost_ret (v := .agg #[.bool s1, .slice A1 n1 c1, .slice B1 m1 d1]) (by simp [results, Tryz.results22, go_sem, x0, x1, x2]) rfl ⟨_, _, _, _, _, _, _, rfl, (((hR.far (by simp) _).far (by simp) _).far (by simp) _).mono (by omega), slc⟩
  · have hall := Lib.hid (fun hk => ho (allOk_two.1 hk) : ¬ AllOk [r, r'])
    have hval := Lib.hid (show addR r r' = zR by unfold addR; rw [if_neg ho])
    have ho := Lib.hid ho; rename_i h_; clear h_
    go_enter Tryz.func22, Tryz.ntmps22
    go_wp2_with fail
    refine calls_gen (fun W => Bl w W ∧ Blk W (w.heap.size) 29 #[.bool s, .slice A n c, .slice B m d] ∧ Blk W (w.heap.size + 1) 29 #[.bool s', .slice A' n' c', .slice B' m' d'] ∧ Wk 3 29 (w.heap.size + 1 + 1) W ∧ Blk W (w.heap.size + 1 + 1 + 1) 29 #[.bool s, .slice A n c, .slice B m d, .bool s', .slice A' n' c', .slice B' m' d']) ⟨slc, bts, bts, bts, Blk.new3 _ _ _ _ _ _⟩ ?_
    rintro W ⟨hbW, hx, hx', hr, hy⟩
    refine (areRats_no _ (RdRS.two hy (h.bl hbW) (k.bl hbW)) hall.out).mono ?_
    rintro e w1 ⟨rfl, hb1⟩
    clear hy
    have hx := hx.bl hb1
    have hx' := hx'.bl hb1
    have hr := hr.bl hb1
    have hbW := hbW.next hb1
    clear hb1
    obtain ⟨i0, i1, i2⟩ := bx3 hx
    obtain ⟨j0, j1, j2⟩ := bx3 hx'
    obtain ⟨v0, x0⟩ := hr.val_ (i := 0) (by omega)
    obtain ⟨v1, x1⟩ := hr.val_ (i := 1) (by omega)
    obtain ⟨v2, x2⟩ := hr.val_ (i := 2) (by omega)
    have hg := hr.lt
    obtain ⟨cs4, hB4, hc4⟩ := hr
    have hf0 := hB4.frozen 0
    have hf1 := hB4.frozen 1
    have hf2 := hB4.frozen 2
    go_wp2_with fail
    exact bodyPost_ret (v := .agg #[.bool false, .slice none 0 0, .slice none 0 0]) (by simp [results, Tryz.results22, go_sem, x0, x1, x2]) rfl ⟨_, _, _, _, _, _, _, rfl, by rw [hval.out]; exact OwR.zero _ _ _, slc⟩
end

section
open Go.RowKit

set_option maxRecDepth 100000 in
set_option maxHeartbeats 4000000 in
theorem RatMul_bad (w : World) {s : Bool} {A : Option Addr} {n c : Nat} {B : Option Addr} {m d : Nat} {r : RatD} {s' : Bool} {A' : Option Addr} {n' c' : Nat} {B' : Option Addr} {m' d' : Nat} {r' : RatD} (h : RdR w s A n c B m d r) (k : RdR w s' A' n' c' B' m' d' r') (ho : ¬ (OkR r ∧ OkR r')) :
    Calls Tryz.prog 49 #[.agg #[.bool s, .slice A n c, .slice B m d], .agg #[.bool s', .slice A' n' c', .slice B' m' d']] w fun e w' => ∃ s1 A1 n1 c1 B1 m1 d1, e = .returned (.agg #[.bool s1, .slice A1 n1 c1, .slice B1 m1 d1]) ∧ OwR 3 w.heap.size w' s1 A1 n1 c1 B1 m1 d1 (mulR r r') ∧ Bl w w' := by
  have hall := Lib.hid (fun hk => ho (allOk_two.1 hk) : ¬ AllOk [r, r'])
  have hval := Lib.hid (show mulR r r' = zR by unfold mulR; rw [if_neg ho])
  have ho := Lib.hid ho; rename_i h_; clear h_
  go_enter Tryz.func49, Tryz.ntmps49
  go_wp2_with fail
  refine calls_gen (fun W => Bl w W ∧ Blk W (w.heap.size) 29 #[.bool s, .slice A n c, .slice B m d] ∧ Blk W (w.heap.size + 1) 29 #[.bool s', .slice A' n' c', .slice B' m' d'] ∧ Wk 3 29 (w.heap.size + 1 + 1) W ∧ Blk W (w.heap.size + 1 + 1 + 1) 29 #[.bool s, .slice A n c, .slice B m d, .bool s', .slice A' n' c', .slice B' m' d']) ⟨slc, bts, bts, bts, Blk.new3 _ _ _ _ _ _⟩ ?_
  rintro W ⟨hbW, hx, hx', hr, hy⟩
  refine (areRats_no _ (RdRS.two hy (h.bl hbW) (k.bl hbW)) hall.out).mono ?_
  rintro e w1 ⟨rfl, hb1⟩
  clear hy
  have hx := hx.bl hb1
  have hx' := hx'.bl hb1
  have hr := hr.bl hb1
  have hbW := hbW.next hb1
  clear hb1
  obtain ⟨i0, i1, i2⟩ := bx3 hx
  obtain ⟨j0, j1, j2⟩ := bx3 hx'
  obtain ⟨v0, x0⟩ := hr.val_ (i := 0) (by omega)
  obtain ⟨v1, x1⟩ := hr.val_ (i := 1) (by omega)
  obtain ⟨v2, x2⟩ := hr.val_ (i := 2) (by omega)
  have hg := hr.lt
  obtain ⟨cs4, hB4, hc4⟩ := hr
  have hf0 := hB4.frozen 0
  have hf1 := hB4.frozen 1
  have hf2 := hB4.frozen 2
  go_wp2_with fail
  exact bodyPost_ret (v := .agg #[.bool false, .slice none 0 0, .slice none 0 0]) (by simp [results, Tryz.results49, go_sem, x0, x1, x2]) rfl ⟨_, _, _, _, _, _, _, rfl, by rw [hval.out]; exact OwR.zero _ _ _, slc⟩


set_option maxRecDepth 100000 in
set_option maxHeartbeats 4000000 in
theorem RatMul_small (w : World) {s : Bool} {A : Option Addr} {n c : Nat} {B : Option Addr} {m d : Nat} {x : Int} {D : Nat} {s' : Bool} {A' : Option Addr} {n' c' : Nat} {B' : Option Addr} {m' d' : Nat} {x' : Int} {D' : Nat} (h : IsR w s A n c B m d x D) (k : IsR w s' A' n' c' B' m' d' x' D') (hall : Hid (AllOk [raw x D, raw x' D'])) (hn : n ≤ 1) (hm : m = 1) (hn' : n' ≤ 1) (hm' : m' = 1) :
    Calls Tryz.prog 49 #[.agg #[.bool s, .slice A n c, .slice B m d], .agg #[.bool s', .slice A' n' c', .slice B' m' d']] w fun e w' => ∃ s1 A1 n1 c1 B1 m1 d1, e = .returned (.agg #[.bool s1, .slice A1 n1 c1, .slice B1 m1 d1]) ∧ OwR 3 w.heap.size w' s1 A1 n1 c1 B1 m1 d1 (ofFrac (x * x') (D * D')) ∧ Bl w w' := by
  subst hm hm'
  have hx0 := small_le (N := x.natAbs) (by rw [h.num.lenN]; exact hn)
  have hx0' := small_le (N := x'.natAbs) (by rw [k.num.lenN]; exact hn')
  have hD := (one_limb h.dn.lenN).2
  have hD' := (one_limb k.dn.lenN).2
  have l1 : -1000000000000000000 ≤ x * x' ∧ x * x' ≤ 1000000000000000000 := by
    rcases Int.le_total 0 x' with hp | hp
    · exact mul_lim (by omega) (by omega) hp (by omega)
    · have := mul_lim (a := x) (b := -x') (by omega) (by omega) (by omega) (by omega)
      rw [Int.mul_neg] at this
      omega
  have l3 := mul_lim (a := (D : Int)) (b := (D' : Int)) (by omega) (by omega) (by omega) (by omega)
  have hDD : 0 < D * D' := Nat.mul_pos hD.2 hD'.2
  generalize e1 : x * x' = p1 at *
  have e3 : (D : Int) * (D' : Int) = ((D * D' : Nat) : Int) := by rw [Int.natCast_mul]
  rw [e3] at l3
  generalize hP : D * D' = P at *
  have hP := Lib.hid hP; rename_i h_; clear h_
  clear hx0 hx0'
  go_enter Tryz.func49, Tryz.ntmps49
  go_wp2_with fail
  refine calls_gen (fun W => Bl w W ∧ Blk W (w.heap.size) 29 #[.bool s, .slice A n c, .slice B 1 d] ∧ Blk W (w.heap.size + 1) 29 #[.bool s', .slice A' n' c', .slice B' 1 d'] ∧ Wk 3 29 (w.heap.size + 1 + 1) W ∧ Blk W (w.heap.size + 1 + 1 + 1) 29 #[.bool s, .slice A n c, .slice B 1 d, .bool s', .slice A' n' c', .slice B' 1 d']) ⟨slc, bts, bts, bts, Blk.new3 _ _ _ _ _ _⟩ ?_
  rintro W ⟨hbW, hx, hx', hr, hy⟩
  refine (areRats_yes _ (RdRS.two hy (h.bl hbW) (k.bl hbW)) hall.out).mono ?_
  rintro e w1 ⟨rfl, hb1⟩
  clear hy
  have hx := hx.bl hb1
  have hx' := hx'.bl hb1
  have hr := hr.bl hb1
  have hbW := hbW.next hb1
  clear hb1
  obtain ⟨i0, i1, i2⟩ := bx3 hx
  obtain ⟨j0, j1, j2⟩ := bx3 hx'
  go_wp2_with fail
  refine (isSmall_yes _ hn rfl).mono ?_
  rintro e w3 ⟨rfl, hb3⟩
  have hx := hx.bl hb3
  have hx' := hx'.bl hb3
  have hr := hr.bl hb3
  have hbW := hbW.next hb3
  clear hb3
  obtain ⟨i0, i1, i2⟩ := bx3 hx
  obtain ⟨j0, j1, j2⟩ := bx3 hx'
  go_wp2_with fail
  refine (isSmall_yes _ hn' rfl).mono ?_
  rintro e w4 ⟨rfl, hb4⟩
  have hx := hx.bl hb4
  have hx' := hx'.bl hb4
  have hr := hr.bl hb4
  have hbW := hbW.next hb4
  clear hb4
  obtain ⟨i0, i1, i2⟩ := bx3 hx
  obtain ⟨j0, j1, j2⟩ := bx3 hx'
  go_wp2_with fail
  refine (small_any _ (h.bl hbW) hn).mono ?_
  rintro e w5 ⟨rfl, hb5⟩
  have hx := hx.bl hb5
  have hx' := hx'.bl hb5
  have hr := hr.bl hb5
  have hbW := hbW.next hb5
  clear hb5
  obtain ⟨i0, i1, i2⟩ := bx3 hx
  obtain ⟨j0, j1, j2⟩ := bx3 hx'
  go_wp2_with fail
  refine (small_any _ (k.bl hbW) hn').mono ?_
  rintro e w6 ⟨rfl, hb6⟩
  have hx := hx.bl hb6
  have hx' := hx'.bl hb6
  have hr := hr.bl hb6
  have hbW := hbW.next hb6
  clear hb6
  obtain ⟨i0, i1, i2⟩ := bx3 hx
  obtain ⟨j0, j1, j2⟩ := bx3 hx'
  go_wp2_with fail
  refine (ofInts_any _ p1 P (by omega) (by omega) hDD (by omega)).mono ?_
  rintro e w7 ⟨s1, A1, n1, c1, B1, m1, d1, rfl, hR, hb7⟩
  have hR := hR.mono (show w.heap.size + 1 + 1 + 1 ≤ w6.heap.size from hr.lt)
  have hx := hx.bl hb7
  have hx' := hx'.bl hb7
  have hr := hr.bl hb7
  have hbW := hbW.next hb7
  clear hb7
  obtain ⟨i0, i1, i2⟩ := bx3 hx
  obtain ⟨j0, j1, j2⟩ := bx3 hx'
  obtain ⟨v0, x0⟩ := hr.val_ (i := 0) (by omega)
  obtain ⟨v1, x1⟩ := hr.val_ (i := 1) (by omega)
  obtain ⟨v2, x2⟩ := hr.val_ (i := 2) (by omega)
  have hg := hr.lt
  obtain ⟨cs4, hB4, hc4⟩ := hr
  have hf0 := hB4.frozen 0
  have hf1 := hB4.frozen 1
  have hf2 := hB4.frozen 2
  go_wp2_with fail
  exact bodyPost_ret (v := .agg #[.bool s1, .slice A1 n1 c1, .slice B1 m1 d1]) (by simp [results, Tryz.results49, go_sem, x0, x1, x2]) rfl ⟨_, _, _, _, _, _, _, rfl, (((hR.far (by simp) _).far (by simp) _).far (by simp) _).mono (by omega), slc⟩


set_option maxRecDepth 100000 in
set_option maxHeartbeats 8000000 in
theorem RatMul_big_yes (w : World) {s : Bool} {A : Option Addr} {n c : Nat} {B : Option Addr} {m d : Nat} {x : Int} {D : Nat} {s' : Bool} {A' : Option Addr} {n' c' : Nat} {B' : Option Addr} {m' d' : Nat} {x' : Int} {D' : Nat} (h : IsR w s A n c B m d x D) (k : IsR w s' A' n' c' B' m' d' x' D') (hall : Hid (AllOk [raw x D, raw x' D'])) (hn : n ≤ 262143) (hm : m ≤ 262143) (hn' : n' ≤ 262143) (hm' : m' ≤ 262143) (hD : 0 < D) (hD' : 0 < D') (h1 : n ≤ 1 ∧ m = 1) (h2 : ¬ (n' ≤ 1 ∧ m' = 1)) :
    Calls Tryz.prog 49 #[.agg #[.bool s, .slice A n c, .slice B m d], .agg #[.bool s', .slice A' n' c', .slice B' m' d']] w fun e w' => ∃ s1 A1 n1 c1 B1 m1 d1, e = .returned (.agg #[.bool s1, .slice A1 n1 c1, .slice B1 m1 d1]) ∧ OwR 3 w.heap.size w' s1 A1 n1 c1 B1 m1 d1 (ofFrac (x * x') (D * D')) ∧ Bl w w' := by
  have q1 := h.num.lenN
  have q2 := h.dn.lenN
  have q3 := k.num.lenN
  have q4 := k.dn.lenN
  have hl3 : (dig (x * x').natAbs).length ≤ 1048576 := Nat.le_trans (imul_len (Nat.le_of_eq q1) (Nat.le_of_eq q3)) (by omega)
  have hlD : (dig (D * D')).length ≤ 1048576 := Nat.le_trans (dig_mul_len (Nat.le_of_eq q2) (Nat.le_of_eq q4)) (by omega)
  have hDD : 0 < D * D' := Nat.mul_pos hD hD'
  clear q1 q2 q3 q4
  have h1 := Lib.hid h1; rename_i h_; clear h_
  have h2 := Lib.hid h2; rename_i h_; clear h_
  go_enter Tryz.func49, Tryz.ntmps49
  go_wp2_with fail
  refine calls_gen (fun W => Bl w W ∧ Blk W (w.heap.size) 29 #[.bool s, .slice A n c, .slice B m d] ∧ Blk W (w.heap.size + 1) 29 #[.bool s', .slice A' n' c', .slice B' m' d'] ∧ Wk 3 29 (w.heap.size + 1 + 1) W ∧ Blk W (w.heap.size + 1 + 1 + 1) 29 #[.bool s, .slice A n c, .slice B m d, .bool s', .slice A' n' c', .slice B' m' d']) ⟨slc, bts, bts, bts, Blk.new3 _ _ _ _ _ _⟩ ?_
  rintro W ⟨hbW, hx, hx', hr, hy⟩
  refine (areRats_yes _ (RdRS.two hy (h.bl hbW) (k.bl hbW)) hall.out).mono ?_
  rintro e w1 ⟨rfl, hb1⟩
  clear hy
  have hx := hx.bl hb1
  have hx' := hx'.bl hb1
  have hr := hr.bl hb1
  have hbW := hbW.next hb1
  clear hb1
  obtain ⟨i0, i1, i2⟩ := bx3 hx
  obtain ⟨j0, j1, j2⟩ := bx3 hx'
  go_wp2_with fail
  refine (isSmall_yes _ h1.out.1 h1.out.2).mono ?_
  rintro e w2 ⟨rfl, hb2⟩
  have hx := hx.bl hb2
  have hx' := hx'.bl hb2
  have hr := hr.bl hb2
  have hbW := hbW.next hb2
  clear hb2
  obtain ⟨i0, i1, i2⟩ := bx3 hx
  obtain ⟨j0, j1, j2⟩ := bx3 hx'
  go_wp2_with fail
  refine (isSmall_no _ h2.out).mono ?_
  rintro e w3 ⟨rfl, hb3⟩
  have hx := hx.bl hb3
  have hx' := hx'.bl hb3
  have hr := hr.bl hb3
  have hbW := hbW.next hb3
  clear hb3
  obtain ⟨i0, i1, i2⟩ := bx3 hx
  obtain ⟨j0, j1, j2⟩ := bx3 hx'
  go_wp2_with fail
  have hz3 : w.heap.size + 1 + 1 < w3.heap.size := hr.lt
  go_region_held3 (fun w' => (w'.cell? ⟨w.heap.size, 0, none⟩ = some (.bool s) ∧ w'.cell? ⟨w.heap.size, 1, none⟩ = some (.slice A n c) ∧ w'.cell? ⟨w.heap.size, 2, none⟩ = some (.slice B m d)) ∧ (w'.cell? ⟨w.heap.size + 1, 0, none⟩ = some (.bool s') ∧ w'.cell? ⟨w.heap.size + 1, 1, none⟩ = some (.slice A' n' c') ∧ w'.cell? ⟨w.heap.size + 1, 2, none⟩ = some (.slice B' m' d')) ∧ (w'.cell? ⟨w.heap.size + 1 + 1, 0, none⟩ = some (cellD w' (w.heap.size + 1 + 1) 0) ∧ w'.cell? ⟨w.heap.size + 1 + 1, 1, none⟩ = some (cellD w' (w.heap.size + 1 + 1) 1) ∧ w'.cell? ⟨w.heap.size + 1 + 1, 2, none⟩ = some (cellD w' (w.heap.size + 1 + 1) 2)) ∧ w'.frozen? ⟨w.heap.size + 1 + 1, 0, none⟩ = false ∧ w'.frozen? ⟨w.heap.size + 1 + 1, 1, none⟩ = false ∧ w'.frozen? ⟨w.heap.size + 1 + 1, 2, none⟩ = false) (first | exact ⟨bx3 (T := 29) bts, bx3 (T := 29) bts, Wk.out3 (T := 29) bts⟩) (first | (go_at_call 121; refine (bigMul_any _ (h.b.bl slc) (k.b.bl slc) (by omega) (by omega)).mono ?_; rintro e w4 ⟨s4, A4, n4, c4, rfl, hO, hb4⟩) | (go_at_call 122; refine (natMul_any _ (h.dn.bl slc) (k.dn.bl slc) (by omega) (by omega)).mono ?_; rintro e w5 ⟨A5, n5, c5, rfl, hO5, hb5⟩; (have hz4 : w3.heap.size ≤ w4.heap.size := (Bl.size hb4 : w3.drew.heap.size ≤ _)); (have hz5 : w4.heap.size ≤ w5.heap.size := Bl.size hb5); (have hR7 : OwR 3 (w.heap.size + 1 + 1 + 1) w5 s4 A4 n4 c4 A5 n5 c5 (raw (x * x') (D * D')) := (OwR.two' hO.2 hO5 hb5 hz4 hO.1).mono hz3); (have hl4 : n4 ≤ 1048576 := by rw [← hO.len]; exact hl3); (have hl5 : n5 ≤ 1048576 := by rw [← hO5.rd.lenN]; exact hlD); (have hz7 : w.heap.size + 1 + 1 + 1 ≤ w5.heap.size := by omega)) | (go_at_call 120; refine (reduced_any _ hR7 hz7 hl4 hl5 hDD).mono ?_; rintro e w8 ⟨s1, A1, n1, c1, B1, m1, d1, rfl, hR, hb8⟩))
  have hr := (show Wk 3 29 (w.heap.size + 1 + 1) w8 from bts)
  have hbW : Bl w w8 := slc
  obtain ⟨v0, x0⟩ := hr.val_ (i := 0) (by omega)
  obtain ⟨v1, x1⟩ := hr.val_ (i := 1) (by omega)
  obtain ⟨v2, x2⟩ := hr.val_ (i := 2) (by omega)
  have hg := hr.lt
  obtain ⟨cs4, hB4, hc4⟩ := hr
  have hf0 := hB4.frozen 0
  have hf1 := hB4.frozen 1
  have hf2 := hB4.frozen 2
  go_wp2_with fail
  exact bodyPost_ret (v := .agg #[.bool s1, .slice A1 n1 c1, .slice B1 m1 d1]) (by simp [results, Tryz.results49, go_sem, x0, x1, x2]) rfl ⟨_, _, _, _, _, _, _, rfl, (((hR.far (by simp) _).far (by simp) _).far (by simp) _).mono (by omega), slc⟩


set_option maxRecDepth 100000 in
set_option maxHeartbeats 8000000 in
theorem RatMul_big_no (w : World) {s : Bool} {A : Option Addr} {n c : Nat} {B : Option Addr} {m d : Nat} {x : Int} {D : Nat} {s' : Bool} {A' : Option Addr} {n' c' : Nat} {B' : Option Addr} {m' d' : Nat} {x' : Int} {D' : Nat} (h : IsR w s A n c B m d x D) (k : IsR w s' A' n' c' B' m' d' x' D') (hall : Hid (AllOk [raw x D, raw x' D'])) (hn : n ≤ 262143) (hm : m ≤ 262143) (hn' : n' ≤ 262143) (hm' : m' ≤ 262143) (hD : 0 < D) (hD' : 0 < D') (h1 : ¬ (n ≤ 1 ∧ m = 1)) :
    Calls Tryz.prog 49 #[.agg #[.bool s, .slice A n c, .slice B m d], .agg #[.bool s', .slice A' n' c', .slice B' m' d']] w fun e w' => ∃ s1 A1 n1 c1 B1 m1 d1, e = .returned (.agg #[.bool s1, .slice A1 n1 c1, .slice B1 m1 d1]) ∧ OwR 3 w.heap.size w' s1 A1 n1 c1 B1 m1 d1 (ofFrac (x * x') (D * D')) ∧ Bl w w' := by
  have q1 := h.num.lenN
  have q2 := h.dn.lenN
  have q3 := k.num.lenN
  have q4 := k.dn.lenN
  have hl3 : (dig (x * x').natAbs).length ≤ 1048576 := Nat.le_trans (imul_len (Nat.le_of_eq q1) (Nat.le_of_eq q3)) (by omega)
  have hlD : (dig (D * D')).length ≤ 1048576 := Nat.le_trans (dig_mul_len (Nat.le_of_eq q2) (Nat.le_of_eq q4)) (by omega)
  have hDD : 0 < D * D' := Nat.mul_pos hD hD'
  clear q1 q2 q3 q4
  have h1 := Lib.hid h1; rename_i h_; clear h_

  go_enter Tryz.func49, Tryz.ntmps49
  go_wp2_with fail
  refine calls_gen (fun W => Bl w W ∧ Blk W (w.heap.size) 29 #[.bool s, .slice A n c, .slice B m d] ∧ Blk W (w.heap.size + 1) 29 #[.bool s', .slice A' n' c', .slice B' m' d'] ∧ Wk 3 29 (w.heap.size + 1 + 1) W ∧ Blk W (w.heap.size + 1 + 1 + 1) 29 #[.bool s, .slice A n c, .slice B m d, .bool s', .slice A' n' c', .slice B' m' d']) ⟨slc, bts, bts, bts, Blk.new3 _ _ _ _ _ _⟩ ?_
  rintro W ⟨hbW, hx, hx', hr, hy⟩
  refine (areRats_yes _ (RdRS.two hy (h.bl hbW) (k.bl hbW)) hall.out).mono ?_
  rintro e w1 ⟨rfl, hb1⟩
  clear hy
  have hx := hx.bl hb1
  have hx' := hx'.bl hb1
  have hr := hr.bl hb1
  have hbW := hbW.next hb1
  clear hb1
  obtain ⟨i0, i1, i2⟩ := bx3 hx
  obtain ⟨j0, j1, j2⟩ := bx3 hx'
  go_wp2_with fail
  refine (isSmall_no _ h1.out).mono ?_
  rintro e w2 ⟨rfl, hb2⟩
  have hx := hx.bl hb2
  have hx' := hx'.bl hb2
  have hr := hr.bl hb2
  have hbW := hbW.next hb2
  clear hb2
  obtain ⟨i0, i1, i2⟩ := bx3 hx
  obtain ⟨j0, j1, j2⟩ := bx3 hx'
  go_wp2_with fail
  have hz3 : w.heap.size + 1 + 1 < w2.heap.size := hr.lt
  go_region_held3 (fun w' => (w'.cell? ⟨w.heap.size, 0, none⟩ = some (.bool s) ∧ w'.cell? ⟨w.heap.size, 1, none⟩ = some (.slice A n c) ∧ w'.cell? ⟨w.heap.size, 2, none⟩ = some (.slice B m d)) ∧ (w'.cell? ⟨w.heap.size + 1, 0, none⟩ = some (.bool s') ∧ w'.cell? ⟨w.heap.size + 1, 1, none⟩ = some (.slice A' n' c') ∧ w'.cell? ⟨w.heap.size + 1, 2, none⟩ = some (.slice B' m' d')) ∧ (w'.cell? ⟨w.heap.size + 1 + 1, 0, none⟩ = some (cellD w' (w.heap.size + 1 + 1) 0) ∧ w'.cell? ⟨w.heap.size + 1 + 1, 1, none⟩ = some (cellD w' (w.heap.size + 1 + 1) 1) ∧ w'.cell? ⟨w.heap.size + 1 + 1, 2, none⟩ = some (cellD w' (w.heap.size + 1 + 1) 2)) ∧ w'.frozen? ⟨w.heap.size + 1 + 1, 0, none⟩ = false ∧ w'.frozen? ⟨w.heap.size + 1 + 1, 1, none⟩ = false ∧ w'.frozen? ⟨w.heap.size + 1 + 1, 2, none⟩ = false) (first | exact ⟨bx3 (T := 29) bts, bx3 (T := 29) bts, Wk.out3 (T := 29) bts⟩) (first | (go_at_call 121; refine (bigMul_any _ (h.b.bl slc) (k.b.bl slc) (by omega) (by omega)).mono ?_; rintro e w4 ⟨s4, A4, n4, c4, rfl, hO, hb4⟩) | (go_at_call 122; refine (natMul_any _ (h.dn.bl slc) (k.dn.bl slc) (by omega) (by omega)).mono ?_; rintro e w5 ⟨A5, n5, c5, rfl, hO5, hb5⟩; (have hz4 : w2.heap.size ≤ w4.heap.size := (Bl.size hb4 : w2.drew.heap.size ≤ _)); (have hz5 : w4.heap.size ≤ w5.heap.size := Bl.size hb5); (have hR7 : OwR 3 (w.heap.size + 1 + 1 + 1) w5 s4 A4 n4 c4 A5 n5 c5 (raw (x * x') (D * D')) := (OwR.two' hO.2 hO5 hb5 hz4 hO.1).mono hz3); (have hl4 : n4 ≤ 1048576 := by rw [← hO.len]; exact hl3); (have hl5 : n5 ≤ 1048576 := by rw [← hO5.rd.lenN]; exact hlD); (have hz7 : w.heap.size + 1 + 1 + 1 ≤ w5.heap.size := by omega)) | (go_at_call 120; refine (reduced_any _ hR7 hz7 hl4 hl5 hDD).mono ?_; rintro e w8 ⟨s1, A1, n1, c1, B1, m1, d1, rfl, hR, hb8⟩))
  have hr := (show Wk 3 29 (w.heap.size + 1 + 1) w8 from bts)
  have hbW : Bl w w8 := slc
  obtain ⟨v0, x0⟩ := hr.val_ (i := 0) (by omega)
  obtain ⟨v1, x1⟩ := hr.val_ (i := 1) (by omega)
  obtain ⟨v2, x2⟩ := hr.val_ (i := 2) (by omega)
  have hg := hr.lt
  obtain ⟨cs4, hB4, hc4⟩ := hr
  have hf0 := hB4.frozen 0
  have hf1 := hB4.frozen 1
  have hf2 := hB4.frozen 2
  go_wp2_with fail
  exact bodyPost_ret (v := .agg #[.bool s1, .slice A1 n1 c1, .slice B1 m1 d1]) (by simp [results, Tryz.results49, go_sem, x0, x1, x2]) rfl ⟨_, _, _, _, _, _, _, rfl, (((hR.far (by simp) _).far (by simp) _).far (by simp) _).mono (by omega), slc⟩


theorem RatMul_any (w : World) {s : Bool} {A : Option Addr} {n c : Nat} {B : Option Addr} {m d : Nat} {r : RatD} {s' : Bool} {A' : Option Addr} {n' c' : Nat} {B' : Option Addr} {m' d' : Nat} {r' : RatD} (h : RdR w s A n c B m d r) (k : RdR w s' A' n' c' B' m' d' r') :
    Calls Tryz.prog 49 #[.agg #[.bool s, .slice A n c, .slice B m d], .agg #[.bool s', .slice A' n' c', .slice B' m' d']] w fun e w' => ∃ s1 A1 n1 c1 B1 m1 d1, e = .returned (.agg #[.bool s1, .slice A1 n1 c1, .slice B1 m1 d1]) ∧ OwR 3 w.heap.size w' s1 A1 n1 c1 B1 m1 d1 (mulR r r') ∧ Bl w w' := by
  by_cases ho : OkR r ∧ OkR r'
  · have hall := Lib.hid (allOk_two.2 ho)
    have e1 := ho.1.get.1
    have e2 := ho.2.get.1
    have hI := IsR.out h ho.1
    have hI' := IsR.out k ho.2
    have hL := OkR.lens h ho.1
    have hL' := OkR.lens k ho.2
    rw [show mulR r r' = ofFrac (rn r * rn r') (rd r * rd r') by unfold mulR; rw [if_pos ho]]
    rw [e1, e2] at hall
    by_cases h1 : n ≤ 1 ∧ m = 1
    · by_cases h2 : n' ≤ 1 ∧ m' = 1
      · exact RatMul_small w hI hI' hall h1.1 h1.2 h2.1 h2.2
      · exact RatMul_big_yes w hI hI' hall (by omega) (by omega) (by omega) (by omega) hL.2.2 hL'.2.2 h1 h2
    · exact RatMul_big_no w hI hI' hall (by omega) (by omega) (by omega) (by omega) hL.2.2 hL'.2.2 h1
  · exact RatMul_bad w h k ho
end

section
open Go.RowKit

theorem box6 {w W : World} {a b c a' b' c' : Value} {T : TypeId} (h : Bl (w.alloc (.cells #[a, b, c, a', b', c'] T)) W) :
    W.cell? ⟨w.heap.size, 0, none⟩ = some a ∧ W.cell? ⟨w.heap.size, 1, none⟩ = some b ∧ W.cell? ⟨w.heap.size, 2, none⟩ = some c ∧ W.cell? ⟨w.heap.size, 3, none⟩ = some a' ∧ W.cell? ⟨w.heap.size, 4, none⟩ = some b' ∧ W.cell? ⟨w.heap.size, 5, none⟩ = some c' := by
  refine ⟨?_, ?_, ?_, ?_, ?_, ?_⟩ <;> (rw [h.cellOf (by simp)]; simp [go_sem])
/-- Block g has six cells that may be written. -/
def Wr6 (T : TypeId) (g : Nat) (W : World) : Prop := ∃ cs, Blk W g T cs ∧ cs.size = 6
theorem Wr6.bl {T : TypeId} {g : Nat} {w W : World} (h : Wr6 T g w) (hb : Bl w W) : Wr6 T g W := by
  obtain ⟨cs, h1, h2⟩ := h
  exact ⟨cs, h1.bl hb, h2⟩
theorem Wr6.set {T : TypeId} {g : Nat} {w : World} (h : Wr6 T g w) (i : Nat) (u : Value) : Wr6 T g (w.setCell ⟨g, i, none⟩ u) := by
  obtain ⟨cs, h1, h2⟩ := h
  exact ⟨_, h1.set_ i u, by simp [h2]⟩
theorem Wr6.new2 (T : TypeId) (w : World) (o : Obj) (a b c a' b' c' : Value) : Wr6 T (w.heap.size + 1) ((w.alloc o).alloc (.cells #[a, b, c, a', b', c'] T)) := by
  have : Wr6 T (w.alloc o).heap.size ((w.alloc o).alloc (.cells #[a, b, c, a', b', c'] T)) := ⟨_, Blk.new _ _ _, rfl⟩
  rwa [World.size_alloc] at this
theorem Wr6.drew {T : TypeId} {g : Nat} {w : World} (h : Wr6 T g w) : Wr6 T g w.drew := h
theorem Wr6.out {T : TypeId} {g : Nat} {w : World} (h : Wr6 T g w) : (w.cell? ⟨g, 0, none⟩ = some (cellD w g 0) ∧ w.cell? ⟨g, 1, none⟩ = some (cellD w g 1) ∧ w.cell? ⟨g, 2, none⟩ = some (cellD w g 2) ∧ w.cell? ⟨g, 3, none⟩ = some (cellD w g 3) ∧ w.cell? ⟨g, 4, none⟩ = some (cellD w g 4) ∧ w.cell? ⟨g, 5, none⟩ = some (cellD w g 5)) ∧
    w.frozen? ⟨g, 0, none⟩ = false ∧ w.frozen? ⟨g, 1, none⟩ = false ∧ w.frozen? ⟨g, 2, none⟩ = false ∧ w.frozen? ⟨g, 3, none⟩ = false ∧ w.frozen? ⟨g, 4, none⟩ = false ∧ w.frozen? ⟨g, 5, none⟩ = false := by
  obtain ⟨cs, h1, h2⟩ := h
  exact ⟨⟨cellD_eq (h1.some (by omega)), cellD_eq (h1.some (by omega)), cellD_eq (h1.some (by omega)), cellD_eq (h1.some (by omega)), cellD_eq (h1.some (by omega)), cellD_eq (h1.some (by omega))⟩, h1.frozen 0, h1.frozen 1, h1.frozen 2, h1.frozen 3, h1.frozen 4, h1.frozen 5⟩
/-- A point in memory of its own from block b0 on. -/
def OwP (T : TypeId) (b0 : Nat) (w : World) (s : Bool) (A : Option Addr) (n c : Nat) (B : Option Addr) (m d : Nat) (t : Bool) (C : Option Addr) (i e : Nat) (D : Option Addr) (j f : Nat) (p : PtD) : Prop :=
  ∃ b1 b2, FtR T w s A n c B m d p.x b1 ∧ FtR T w t C i e D j f p.y b2 ∧ Fp b0 w.heap.size (b1 ++ b2)
section
variable {T : TypeId} {b0 b1 : Nat} {w w1 W : World} {s : Bool} {A : Option Addr} {n c : Nat} {B : Option Addr} {m d : Nat} {t : Bool} {C : Option Addr} {i e : Nat} {D : Option Addr} {j f : Nat} {p : PtD}
theorem OwP.two (h : OwR T b0 w1 s A n c B m d p.x) (k : OwR T w1.heap.size w t C i e D j f p.y) (hb : Bl w1 w) (h0 : b0 ≤ w1.heap.size) : OwP T b0 w s A n c B m d t C i e D j f p := by
  obtain ⟨c1, h1, f1⟩ := h
  obtain ⟨c2, h2, f2⟩ := k
  exact ⟨c1, c2, h1.bl hb, h2, f1.app f2 (Nat.le_refl _) h0 hb.size⟩
theorem OwP.far (h : OwP T b0 w s A n c B m d t C i e D j f p) {q : Addr} (hp : q.block < b0) (u : Value) : OwP T b0 (w.setCell q u) s A n c B m d t C i e D j f p := by
  obtain ⟨c1, c2, h1, h2, hf⟩ := h
  exact ⟨c1, c2, h1.keep (by simp) (fun b hb => Below.heap_setCell w q u b (by have := (hf.2 b (by simp [hb])).1; omega)), h2.keep (by simp) (fun b hb => Below.heap_setCell w q u b (by have := (hf.2 b (by simp [hb])).1; omega)), hf.mono (Nat.le_refl _) (by simp)⟩
theorem OwP.low (h : OwP T b1 w s A n c B m d t C i e D j f p) (hb : b0 ≤ b1) : OwP T b0 w s A n c B m d t C i e D j f p := by
  obtain ⟨c1, c2, h1, h2, hf⟩ := h
  exact ⟨c1, c2, h1, h2, hf.mono hb (Nat.le_refl _)⟩
end

set_option maxRecDepth 100000 in
set_option maxHeartbeats 8000000 in
theorem copyPoint_any (w : World) {s : Bool} {A : Option Addr} {n c : Nat} {B : Option Addr} {m d : Nat} {t : Bool} {C : Option Addr} {i e : Nat} {D : Option Addr} {j f : Nat} {p : PtD} (h : RdR w s A n c B m d p.x) (k : RdR w t C i e D j f p.y) (hn : n ≤ 1048576) (hm : m ≤ 1048576) (hi : i ≤ 1048576) (hj : j ≤ 1048576) :
    Calls Tryz.prog 161 #[.agg #[.bool s, .slice A n c, .slice B m d, .bool t, .slice C i e, .slice D j f]] w fun en w' => ∃ A' n' c' B' m' d' C' i' e' D' j' f', en = .returned (.agg #[.bool s, .slice A' n' c', .slice B' m' d', .bool t, .slice C' i' e', .slice D' j' f']) ∧ OwP 3 w.heap.size w' s A' n' c' B' m' d' t C' i' e' D' j' f' p ∧ Bl w w' := by
  go_enter Tryz.func161, Tryz.ntmps161
  go_wp2_with fail
  go_region_held3 (fun w' => (w'.cell? ⟨w.heap.size, 0, none⟩ = some (.bool s) ∧ w'.cell? ⟨w.heap.size, 1, none⟩ = some (.slice A n c) ∧ w'.cell? ⟨w.heap.size, 2, none⟩ = some (.slice B m d) ∧ w'.cell? ⟨w.heap.size, 3, none⟩ = some (.bool t) ∧ w'.cell? ⟨w.heap.size, 4, none⟩ = some (.slice C i e) ∧ w'.cell? ⟨w.heap.size, 5, none⟩ = some (.slice D j f)) ∧ (w'.cell? ⟨w.heap.size + 1, 0, none⟩ = some (cellD w' (w.heap.size + 1) 0) ∧ w'.cell? ⟨w.heap.size + 1, 1, none⟩ = some (cellD w' (w.heap.size + 1) 1) ∧ w'.cell? ⟨w.heap.size + 1, 2, none⟩ = some (cellD w' (w.heap.size + 1) 2) ∧ w'.cell? ⟨w.heap.size + 1, 3, none⟩ = some (cellD w' (w.heap.size + 1) 3) ∧ w'.cell? ⟨w.heap.size + 1, 4, none⟩ = some (cellD w' (w.heap.size + 1) 4) ∧ w'.cell? ⟨w.heap.size + 1, 5, none⟩ = some (cellD w' (w.heap.size + 1) 5)) ∧ w'.frozen? ⟨w.heap.size + 1, 0, none⟩ = false ∧ w'.frozen? ⟨w.heap.size + 1, 1, none⟩ = false ∧ w'.frozen? ⟨w.heap.size + 1, 2, none⟩ = false ∧ w'.frozen? ⟨w.heap.size + 1, 3, none⟩ = false ∧ w'.frozen? ⟨w.heap.size + 1, 4, none⟩ = false ∧ w'.frozen? ⟨w.heap.size + 1, 5, none⟩ = false) (first | exact ⟨box6 slc, Wr6.out (T := 31) (by repeat (first | with_reducible exact Wr6.new2 _ _ _ _ _ _ _ _ _ | (with_reducible refine Wr6.drew ?_) | (with_reducible refine Wr6.set ?_ _ _) | (with_reducible refine Wr6.bl ?_ ‹Bl _ _›)))⟩) (first | (go_at_call 134; with_reducible refine (copyRat_any _ (h.bl slc) hn hm).mono ?_; rintro en w3 ⟨A1, k1, c1, A2, k2, c2, rfl, hO1, hb3⟩) | (go_at_call 134; with_reducible refine (copyRat_any _ (k.bl slc) hi hj).mono ?_; rintro en w4 ⟨A3, k3, c3, A4, k4, c4, rfl, hO2, hb4⟩))
  have hb1 : Bl w w4 := slc
  have hz3 := hb3.size
  have hz4 := hb4.size
  have hsz : w.heap.size + 2 ≤ ((w.alloc (.cells #[.bool s, .slice A n c, .slice B m d, .bool t, .slice C i e, .slice D j f] 31)).alloc (.cells #[.bool false, .slice none 0 0, .slice none 0 0, .bool false, .slice none 0 0, .slice none 0 0] 31)).heap.size := by simp
  have hR : OwP 3 (w.heap.size + 2) w4 s A1 k1 c1 A2 k2 c2 t A3 k3 c3 A4 k4 c4 p := (OwP.two hO1 hO2 hb4 hz3).low hsz
  have hg : w.heap.size + 1 < w4.heap.size := Nat.lt_of_lt_of_le (show w.heap.size + 1 < w.heap.size + 2 by omega) (Nat.le_trans hsz (Nat.le_trans hz3 hz4))
  obtain ⟨cs3, hB3, hcs3⟩ : Wr6 31 (w.heap.size + 1) w4 := ((Wr6.new2 31 w _ _ _ _ _ _ _).drew.bl hb3).bl hb4
  obtain ⟨v0, x0⟩ := hB3.some (i := 0) (by omega)
  obtain ⟨v1, x1⟩ := hB3.some (i := 1) (by omega)
  obtain ⟨v2, x2⟩ := hB3.some (i := 2) (by omega)
  obtain ⟨v3, x3⟩ := hB3.some (i := 3) (by omega)
  obtain ⟨v4, x4⟩ := hB3.some (i := 4) (by omega)
  obtain ⟨v5, x5⟩ := hB3.some (i := 5) (by omega)
  go_wp2_with fail
  refine bodyPost_ret (v := .agg #[.bool s, .slice A1 k1 c1, .slice A2 k2 c2, .bool t, .slice A3 k3 c3, .slice A4 k4 c4]) (by simp [results, Tryz.results161, go_sem, x0, x1, x2, x3, x4, x5]) rfl ⟨_, _, _, _, _, _, _, _, _, _, _, _, rfl, ((((((hR.far (by simp) _).far (by simp) _).far (by simp) _).far (by simp) _).far (by simp) _).far (by simp) _).low (by omega), slc⟩
end

end Go.Proofs.YtajlahjghapbkaaGreat
