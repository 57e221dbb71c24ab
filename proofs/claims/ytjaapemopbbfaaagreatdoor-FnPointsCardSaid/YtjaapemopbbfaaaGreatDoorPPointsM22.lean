/- Lemmas. -/
import Derived.Test.YtjaapemopbbfaaaGreatDoorRows
import Derived.Test.YtjaapemopbbfaaaGreatDoorPPointsM18
import Derived.Test.YtjaapemopbbfaaaGreatDoorPPointsM21
namespace Go.Proofs.YtjaapemopbbfaaaGreatDoor
section
open Go.RowKit

set_option maxRecDepth 100000 in
set_option maxHeartbeats 4000000 in
theorem negative_any (w : World) {s : Bool} {A : Option Addr} {n c : Nat} {B : Option Addr} {m d : Nat} {x : Int} {D : Nat} (h : IsR w s A n c B m d x D) :
    Calls Tryz.prog 50 #[.agg #[.bool s, .slice A n c, .slice B m d]] w fun e w' => ∃ s1, e = .returned (.agg #[.bool s1, .slice A n c, .slice B m d]) ∧ IsR w' s1 A n c B m d (-x) D ∧ Bl w w' := by
  have hs := Lib.hid h.sgn
  go_enter Tryz.func50, Tryz.ntmps50
  go_wp2_with fail
  refine wp_gen (fun W => Bl w W ∧ Blk W (w.heap.size) 26 #[.bool s, .slice A n c, .slice B m d] ∧ Wk 3 26 (w.heap.size + 1) W) ⟨slc, bts, bts⟩ ?_
  rintro W ⟨hbW, hx, hr⟩
  go_region_held3 (fun w' => (w'.cell? ⟨w.heap.size, 0, none⟩ = some (.bool s) ∧ w'.cell? ⟨w.heap.size, 1, none⟩ = some (.slice A n c) ∧ w'.cell? ⟨w.heap.size, 2, none⟩ = some (.slice B m d)) ∧ (w'.cell? ⟨w.heap.size + 1, 0, none⟩ = some (cellD w' (w.heap.size + 1) 0) ∧ w'.cell? ⟨w.heap.size + 1, 1, none⟩ = some (cellD w' (w.heap.size + 1) 1) ∧ w'.cell? ⟨w.heap.size + 1, 2, none⟩ = some (cellD w' (w.heap.size + 1) 2)) ∧ w'.frozen? ⟨w.heap.size + 1, 0, none⟩ = false ∧ w'.frozen? ⟨w.heap.size + 1, 1, none⟩ = false ∧ w'.frozen? ⟨w.heap.size + 1, 2, none⟩ = false) (first | exact ⟨bx3 (T := 26) bts, Wk.out3 (T := 26) bts⟩) (first | (go_at_call 109; refine (signed_any _ _ (h.num.bl slc)).mono ?_; rintro e w4 ⟨s1, rfl, hs1, hb4⟩))
  have hr := (show Wk 3 26 (w.heap.size + 1) w4 from bts)
  have hbW : Bl w w4 := slc
  obtain ⟨v0, x0⟩ := hr.val_ (i := 0) (by omega)
  obtain ⟨v1, x1⟩ := hr.val_ (i := 1) (by omega)
  obtain ⟨v2, x2⟩ := hr.val_ (i := 2) (by omega)
  have hg := hr.lt
  obtain ⟨cs4, hB4, hc4⟩ := hr
  have hf0 := hB4.frozen 0
  have hf1 := hB4.frozen 1
  have hf2 := hB4.frozen 2
  go_wp2_with fail
  refine bodyPost_ret (v := .agg #[.bool s1, .slice A n c, .slice B m d]) (by simp [results, Tryz.results50, go_sem, x0, x1, x2]) rfl ⟨_, rfl, ⟨?_, ?_, ?_⟩, slc⟩
  · rw [hs1.out]
    refine signed_neg (x := -x) (by omega) fun h0 => ?_
    rw [hs.out]
    by_cases hx0 : x < 0
    · simp [hx0]; omega
    · simp [hx0]; omega
  · show RdI _ A n c (ints (dig (-x).natAbs))
    rw [Int.natAbs_neg]
    exact h.num.bl slc
  · exact h.dn.bl slc
set_option maxHeartbeats 1600000 in
theorem sign_any (w : World) {s : Bool} {A : Option Addr} {n c : Nat} {B : Option Addr} {m d : Nat} {x : Int} {D : Nat} (h : IsR w s A n c B m d x D) :
    Calls Tryz.prog 54 #[.agg #[.bool s, .slice A n c, .slice B m d]] w fun e w' => e = .returned (.int .i64 (cmpZ x 0)) ∧ Bl w w' := by
  have hl := h.num.lenN
  have hs := h.sgn
  rcases Nat.eq_zero_or_pos n with h0 | h0
  · have hx : cmpZ x 0 = 0 := by
      have := dig_nil.1 (List.length_eq_zero_iff.1 (hl.trans h0))
      unfold cmpZ
      rw [if_neg (by omega), if_neg (by omega)]
    rw [hx]
    subst h0
    clear hx hl hs
    go_enter Tryz.func54, Tryz.ntmps54
    go_wp2_with fail
    go_ret
    exact ⟨rfl, slc⟩
  · have hne : ((n : Int) == 0) = false := by simp; omega
    have hpos : 0 < x.natAbs := dig_len_pos.1 (by omega)
    rcases Int.lt_or_le x 0 with hx | hx
    · have hc : cmpZ x 0 = -1 := by unfold cmpZ; rw [if_pos hx]
      rw [hc]
      obtain rfl : s = true := by rw [hs]; simp [hx]
      clear hc hl hs hpos h0
      go_enter Tryz.func54, Tryz.ntmps54
      go_wp2_with fail
      go_ret
      exact ⟨rfl, slc⟩
    · have hc : cmpZ x 0 = 1 := by unfold cmpZ; rw [if_neg (by omega), if_pos (by omega)]
      rw [hc]
      obtain rfl : s = false := by rw [hs]; simp; omega
      clear hc hl hs hpos h0
      go_enter Tryz.func54, Tryz.ntmps54
      go_wp2_with fail
      go_ret
      exact ⟨rfl, slc⟩
theorem RatSign_any (w : World) {s : Bool} {A : Option Addr} {n c : Nat} {B : Option Addr} {m d : Nat} {r : RatD} (h : RdR w s A n c B m d r) :
    Calls Tryz.prog 20 #[.agg #[.bool s, .slice A n c, .slice B m d]] w fun e w' => e = .returned (.int .i64 (sgnR r)) ∧ Bl w w' := by
  by_cases ho : OkR r
  · have hok := okR_of ho
    have hv : sgnR r = cmpZ (rn r) 0 := by unfold sgnR; rw [if_pos ho]
    rw [hv]
    have hI := IsR.out h ho
    clear hv ho
    go_enter Tryz.func20, Tryz.ntmps20
    go_wp2_with fail
    refine (RatOk_any _ (h.alloc _)).mono ?_
    rw [hok]
    rintro e w1 ⟨rfl, hb1⟩
    obtain ⟨i0, i1, i2⟩ := box3 hb1
    have hb1 : Bl w w1 := slc
    go_wp2_with fail
    refine (sign_any _ (RdR.bl hI hb1)).mono ?_
    rintro e w2 ⟨rfl, hb2⟩
    go_wp2_with fail
    go_ret
    exact ⟨rfl, slc⟩
  · have hok := okR_no ho
    have hv : sgnR r = 0 := by unfold sgnR; rw [if_neg ho]
    rw [hv]
    clear hv
    have ho := Lib.hid ho; rename_i h_; clear h_
    go_enter Tryz.func20, Tryz.ntmps20
    go_wp2_with fail
    refine (RatOk_any _ (h.alloc _)).mono ?_
    rw [hok]
    rintro e w1 ⟨rfl, hb1⟩
    go_wp2_with fail
    go_ret
    exact ⟨rfl, slc⟩

theorem OkR.lens {w : World} {s : Bool} {A : Option Addr} {n c : Nat} {B : Option Addr} {m d : Nat} {r : RatD} (h : RdR w s A n c B m d r) (ho : OkR r) : n ≤ 24 ∧ m ≤ 24 ∧ 0 < rd r := by
  have hI := IsR.out h ho
  have g := ho.get
  have l1 := hI.num.lenN
  have l2 := hI.dn.lenN
  omega

set_option maxRecDepth 100000 in
set_option maxHeartbeats 4000000 in
theorem RatAdd_any (w : World) {s : Bool} {A : Option Addr} {n c : Nat} {B : Option Addr} {m d : Nat} {r : RatD} {s' : Bool} {A' : Option Addr} {n' c' : Nat} {B' : Option Addr} {m' d' : Nat} {r' : RatD} (h : RdR w s A n c B m d r) (k : RdR w s' A' n' c' B' m' d' r') :
    Calls Tryz.prog 53 #[.agg #[.bool s, .slice A n c, .slice B m d], .agg #[.bool s', .slice A' n' c', .slice B' m' d']] w fun e w' => ∃ s1 A1 n1 c1 B1 m1 d1, e = .returned (.agg #[.bool s1, .slice A1 n1 c1, .slice B1 m1 d1]) ∧ OwR 3 w.heap.size w' s1 A1 n1 c1 B1 m1 d1 (addR r r') ∧ Bl w w' := by
  by_cases ho : OkR r ∧ OkR r'
  · have hall := Lib.hid (allOk_two.2 ho)
    have hI := IsR.out h ho.1
    have hI' := IsR.out k ho.2
    have hL := OkR.lens h ho.1
    have hL' := OkR.lens k ho.2
    have hval := Lib.hid (show addR r r' = ofFrac (rn r * rd r' + rn r' * rd r) (rd r * rd r') by unfold addR; rw [if_pos ho])
    clear ho
    go_enter Tryz.func53, Tryz.ntmps53
    go_wp2_with fail
    refine calls_gen (fun W => Bl w W ∧ Blk W (w.heap.size) 26 #[.bool s, .slice A n c, .slice B m d] ∧ Blk W (w.heap.size + 1) 26 #[.bool s', .slice A' n' c', .slice B' m' d'] ∧ Wk 3 26 (w.heap.size + 1 + 1) W ∧ Blk W (w.heap.size + 1 + 1 + 1) 26 #[.bool s, .slice A n c, .slice B m d, .bool s', .slice A' n' c', .slice B' m' d']) ⟨slc, bts, bts, bts, Blk.new3 _ _ _ _ _ _⟩ ?_
    rintro W ⟨hbW, hx, hx', hr, hy⟩
    refine (areRats_yes _ (RdRS.two hy (h.bl hbW) (k.bl hbW)) hall.out).mono ?_
    rintro e w1 ⟨rfl, hb1⟩
    clear hy
    have hx := hx.bl hb1
    have hx' := hx'.bl hb1
    have hr := hr.bl hb1
    have hbW := hbW.next hb1
    clear hb1
    obtain ⟨i0, i1, i2⟩ := bx3 hx
    obtain ⟨j0, j1, j2⟩ := bx3 hx'
    go_wp2_with fail
    refine (plus_any _ (RdR.bl hI hbW) (RdR.bl hI' hbW) (by omega) (by omega) (by omega) (by omega) hL.2.2 hL'.2.2).mono ?_
    rintro e w2 ⟨s1, A1, n1, c1, B1, m1, d1, rfl, hR, hb2⟩
    have hR := hR.mono (show w.heap.size + 1 + 1 + 1 ≤ w1.heap.size from hr.lt)
    rw [← hval.out] at hR
    have hx := hx.bl hb2
    have hx' := hx'.bl hb2
    have hr := hr.bl hb2
    have hbW := hbW.next hb2
    clear hb2
    obtain ⟨i0, i1, i2⟩ := bx3 hx
    obtain ⟨j0, j1, j2⟩ := bx3 hx'
    obtain ⟨v0, x0⟩ := hr.val_ (i := 0) (by omega)
    obtain ⟨v1, x1⟩ := hr.val_ (i := 1) (by omega)
    obtain ⟨v2, x2⟩ := hr.val_ (i := 2) (by omega)
    have hg := hr.lt
    obtain ⟨cs4, hB4, hc4⟩ := hr
    have hf0 := hB4.frozen 0
    have hf1 := hB4.frozen 1
    have hf2 := hB4.frozen 2
    go_wp2_with fail
    exact bodyPost_ret (v := .agg #[.bool s1, .slice A1 n1 c1, .slice B1 m1 d1]) (by simp [results, Tryz.results53, go_sem, x0, x1, x2]) rfl ⟨_, _, _, _, _, _, _, rfl, (((hR.far (by simp) _).far (by simp) _).far (by simp) _).mono (by omega), slc⟩
  · have hall := Lib.hid (fun hk => ho (allOk_two.1 hk) : ¬ AllOk [r, r'])
    have hval := Lib.hid (show addR r r' = zR by unfold addR; rw [if_neg ho])
    have ho := Lib.hid ho; rename_i h_; clear h_
    go_enter Tryz.func53, Tryz.ntmps53
    go_wp2_with fail
    refine calls_gen (fun W => Bl w W ∧ Blk W (w.heap.size) 26 #[.bool s, .slice A n c, .slice B m d] ∧ Blk W (w.heap.size + 1) 26 #[.bool s', .slice A' n' c', .slice B' m' d'] ∧ Wk 3 26 (w.heap.size + 1 + 1) W ∧ Blk W (w.heap.size + 1 + 1 + 1) 26 #[.bool s, .slice A n c, .slice B m d, .bool s', .slice A' n' c', .slice B' m' d']) ⟨slc, bts, bts, bts, Blk.new3 _ _ _ _ _ _⟩ ?_
    rintro W ⟨hbW, hx, hx', hr, hy⟩
    refine (areRats_no _ (RdRS.two hy (h.bl hbW) (k.bl hbW)) hall.out).mono ?_
    rintro e w1 ⟨rfl, hb1⟩
    clear hy
    have hx := hx.bl hb1
    have hx' := hx'.bl hb1
    have hr := hr.bl hb1
    have hbW := hbW.next hb1
    clear hb1
    obtain ⟨i0, i1, i2⟩ := bx3 hx
    obtain ⟨j0, j1, j2⟩ := bx3 hx'
    obtain ⟨v0, x0⟩ := hr.val_ (i := 0) (by omega)
    obtain ⟨v1, x1⟩ := hr.val_ (i := 1) (by omega)
    obtain ⟨v2, x2⟩ := hr.val_ (i := 2) (by omega)
    have hg := hr.lt
    obtain ⟨cs4, hB4, hc4⟩ := hr
    have hf0 := hB4.frozen 0
    have hf1 := hB4.frozen 1
    have hf2 := hB4.frozen 2
    go_wp2_with fail
    exact bodyPost_ret (v := .agg #[.bool false, .slice none 0 0, .slice none 0 0]) (by simp [results, Tryz.results53, go_sem, x0, x1, x2]) rfl ⟨_, _, _, _, _, _, _, rfl, by rw [hval.out]; exact OwR.zero _ _ _, slc⟩

set_option maxRecDepth 100000 in
set_option maxHeartbeats 4000000 in
theorem RatSub_any (w : World) {s : Bool} {A : Option Addr} {n c : Nat} {B : Option Addr} {m d : Nat} {r : RatD} {s' : Bool} {A' : Option Addr} {n' c' : Nat} {B' : Option Addr} {m' d' : Nat} {r' : RatD} (h : RdR w s A n c B m d r) (k : RdR w s' A' n' c' B' m' d' r') :
    Calls Tryz.prog 52 #[.agg #[.bool s, .slice A n c, .slice B m d], .agg #[.bool s', .slice A' n' c', .slice B' m' d']] w fun e w' => ∃ s1 A1 n1 c1 B1 m1 d1, e = .returned (.agg #[.bool s1, .slice A1 n1 c1, .slice B1 m1 d1]) ∧ OwR 3 w.heap.size w' s1 A1 n1 c1 B1 m1 d1 (subR r r') ∧ Bl w w' := by
  by_cases ho : OkR r ∧ OkR r'
  · have hall := Lib.hid (allOk_two.2 ho)
    have hI := IsR.out h ho.1
    have hI' := IsR.out k ho.2
    have hL := OkR.lens h ho.1
    have hL' := OkR.lens k ho.2
    have hval := Lib.hid (show subR r r' = ofFrac (rn r * rd r' - rn r' * rd r) (rd r * rd r') by unfold subR; rw [if_pos ho])
    clear ho
    go_enter Tryz.func52, Tryz.ntmps52
    go_wp2_with fail
    refine calls_gen (fun W => Bl w W ∧ Blk W (w.heap.size) 26 #[.bool s, .slice A n c, .slice B m d] ∧ Blk W (w.heap.size + 1) 26 #[.bool s', .slice A' n' c', .slice B' m' d'] ∧ Wk 3 26 (w.heap.size + 1 + 1) W ∧ Blk W (w.heap.size + 1 + 1 + 1) 26 #[.bool s, .slice A n c, .slice B m d, .bool s', .slice A' n' c', .slice B' m' d']) ⟨slc, bts, bts, bts, Blk.new3 _ _ _ _ _ _⟩ ?_
    rintro W ⟨hbW, hx, hx', hr, hy⟩
    refine (areRats_yes _ (RdRS.two hy (h.bl hbW) (k.bl hbW)) hall.out).mono ?_
    rintro e w1 ⟨rfl, hb1⟩
    clear hy
    have hx := hx.bl hb1
    have hx' := hx'.bl hb1
    have hr := hr.bl hb1
    have hbW := hbW.next hb1
    clear hb1
    obtain ⟨i0, i1, i2⟩ := bx3 hx
    obtain ⟨j0, j1, j2⟩ := bx3 hx'
    go_wp2_with fail
    have hz1 := hr.lt
    go_region_held3 (fun w' => (w'.cell? ⟨w.heap.size, 0, none⟩ = some (.bool s) ∧ w'.cell? ⟨w.heap.size, 1, none⟩ = some (.slice A n c) ∧ w'.cell? ⟨w.heap.size, 2, none⟩ = some (.slice B m d)) ∧ (w'.cell? ⟨w.heap.size + 1, 0, none⟩ = some (.bool s') ∧ w'.cell? ⟨w.heap.size + 1, 1, none⟩ = some (.slice A' n' c') ∧ w'.cell? ⟨w.heap.size + 1, 2, none⟩ = some (.slice B' m' d')) ∧ (w'.cell? ⟨w.heap.size + 1 + 1, 0, none⟩ = some (cellD w' (w.heap.size + 1 + 1) 0) ∧ w'.cell? ⟨w.heap.size + 1 + 1, 1, none⟩ = some (cellD w' (w.heap.size + 1 + 1) 1) ∧ w'.cell? ⟨w.heap.size + 1 + 1, 2, none⟩ = some (cellD w' (w.heap.size + 1 + 1) 2)) ∧ w'.frozen? ⟨w.heap.size + 1 + 1, 0, none⟩ = false ∧ w'.frozen? ⟨w.heap.size + 1 + 1, 1, none⟩ = false ∧ w'.frozen? ⟨w.heap.size + 1 + 1, 2, none⟩ = false) (first | exact ⟨bx3 (T := 26) bts, bx3 (T := 26) bts, Wk.out3 (T := 26) bts⟩) (first | (go_at_call 50; refine (negative_any _ (RdR.bl hI' slc)).mono ?_; rintro e w2 ⟨s2, rfl, hN, hb2⟩) | (go_at_call 111; refine (plus_any _ (RdR.bl hI slc) (RdR.bl hN slc) (by omega) (by omega) (by omega) (by omega) hL.2.2 hL'.2.2).mono ?_; rintro e w3 ⟨s1, A1, n1, c1, B1, m1, d1, rfl, hR, hb3⟩))
    have hz2 : w1.heap.size ≤ w2.heap.size := (Bl.size hb2 : w1.drew.heap.size ≤ _)
    have hR := hR.mono (show w.heap.size + 1 + 1 + 1 ≤ w2.heap.size from Nat.le_trans hz1 hz2)
    rw [show rn r * rd r' + -rn r' * rd r = rn r * rd r' - rn r' * rd r by rw [Int.neg_mul]; omega, ← hval.out] at hR
    have hr := (show Wk 3 26 (w.heap.size + 1 + 1) w3 from bts)
    have hbW : Bl w w3 := slc
    obtain ⟨v0, x0⟩ := hr.val_ (i := 0) (by omega)
    obtain ⟨v1, x1⟩ := hr.val_ (i := 1) (by omega)
    obtain ⟨v2, x2⟩ := hr.val_ (i := 2) (by omega)
    have hg := hr.lt
    obtain ⟨cs4, hB4, hc4⟩ := hr
    have hf0 := hB4.frozen 0
    have hf1 := hB4.frozen 1
    have hf2 := hB4.frozen 2
    go_wp2_with fail
    exact bodyPost_ret (v := .agg #[.bool s1, .slice A1 n1 c1, .slice B1 m1 d1]) (by simp [results, Tryz.results52, go_sem, x0, x1, x2]) rfl ⟨_, _, _, _, _, _, _, rfl, (((hR.far (by simp) _).far (by simp) _).far (by simp) _).mono (by omega), slc⟩
  · have hall := Lib.hid (fun hk => ho (allOk_two.1 hk) : ¬ AllOk [r, r'])
    have hval := Lib.hid (show subR r r' = zR by unfold subR; rw [if_neg ho])
    have ho := Lib.hid ho; rename_i h_; clear h_
    go_enter Tryz.func52, Tryz.ntmps52
    go_wp2_with fail
    refine calls_gen (fun W => Bl w W ∧ Blk W (w.heap.size) 26 #[.bool s, .slice A n c, .slice B m d] ∧ Blk W (w.heap.size + 1) 26 #[.bool s', .slice A' n' c', .slice B' m' d'] ∧ Wk 3 26 (w.heap.size + 1 + 1) W ∧ Blk W (w.heap.size + 1 + 1 + 1) 26 #[.bool s, .slice A n c, .slice B m d, .bool s', .slice A' n' c', .slice B' m' d']) ⟨slc, bts, bts, bts, Blk.new3 _ _ _ _ _ _⟩ ?_
    rintro W ⟨hbW, hx, hx', hr, hy⟩
    refine (areRats_no _ (RdRS.two hy (h.bl hbW) (k.bl hbW)) hall.out).mono ?_
    rintro e w1 ⟨rfl, hb1⟩
    clear hy
    have hx := hx.bl hb1
    have hx' := hx'.bl hb1
    have hr := hr.bl hb1
    have hbW := hbW.next hb1
    clear hb1
    obtain ⟨i0, i1, i2⟩ := bx3 hx
    obtain ⟨j0, j1, j2⟩ := bx3 hx'
    obtain ⟨v0, x0⟩ := hr.val_ (i := 0) (by omega)
    obtain ⟨v1, x1⟩ := hr.val_ (i := 1) (by omega)
    obtain ⟨v2, x2⟩ := hr.val_ (i := 2) (by omega)
    have hg := hr.lt
    obtain ⟨cs4, hB4, hc4⟩ := hr
    have hf0 := hB4.frozen 0
    have hf1 := hB4.frozen 1
    have hf2 := hB4.frozen 2
    go_wp2_with fail
    exact bodyPost_ret (v := .agg #[.bool false, .slice none 0 0, .slice none 0 0]) (by simp [results, Tryz.results52, go_sem, x0, x1, x2]) rfl ⟨_, _, _, _, _, _, _, rfl, by rw [hval.out]; exact OwR.zero _ _ _, slc⟩
end

section
open Go.RowKit

section
variable (w : World) {s : Bool} {A : Option Addr} {n c : Nat} {B : Option Addr} {m d : Nat} {r : RatD}
set_option maxHeartbeats 4000000 in
theorem sRatOk_bad (h : RdR w s A n c B m d r) (ho : ¬ OkR r) (ho' : ¬ (OkB s r.mag ∧ OkN r.den ∧ 0 < m ∧ n ≤ 24 ∧ m ≤ 24)) :
    Calls Tryz.prog 135 #[.agg #[.bool s, .slice A n c, .slice B m d]] w fun e w' => e = .returned (.bool (okR r)) ∧ Bl w w' := by
  rw [okR_no ho]
  clear ho
  by_cases h1 : OkB s r.mag
  · have hB1 := okB_yes h1
    by_cases h2 : OkN r.den
    · have hN1 := okN_of h2
      by_cases h3 : 0 < m
      · have h3i : ((m : Int) == 0) = false := by simp; omega
        by_cases h5 : m ≤ 24
        · have h5i : decide ((24 : Int) < (m : Int)) = false := by simp; omega
          have h4 : ¬ n ≤ 24 := fun h4 => ho' ⟨h1, h2, h3, h4, h5⟩
          have h4i : decide ((24 : Int) < (n : Int)) = true := by simp; omega
          clear ho' h1 h2 h3 h4 h5
          go_enter Tryz.func135, Tryz.ntmps135
          go_wp2_with fail
          refine (sBigIntOk_any _ (h.mag.alloc _)).mono ?_
          rw [hB1]
          rintro e w1 ⟨rfl, hb1⟩
          obtain ⟨k0, k1, k2⟩ := box3 hb1
          have hb1 : Bl w w1 := slc
          go_wp2_with fail
          refine (sNatOk_any _ (h.den.bl hb1)).mono ?_
          rw [hN1]
          rintro e w2 ⟨rfl, q2, rfl⟩
          go_wp2_with fail
          go_ret
          exact ⟨rfl, slc⟩

        · have h5i : decide ((24 : Int) < (m : Int)) = true := by simp; omega
          clear ho' h1 h2 h3 h5
          go_enter Tryz.func135, Tryz.ntmps135
          go_wp2_with fail
          refine (sBigIntOk_any _ (h.mag.alloc _)).mono ?_
          rw [hB1]
          rintro e w1 ⟨rfl, hb1⟩
          obtain ⟨k0, k1, k2⟩ := box3 hb1
          have hb1 : Bl w w1 := slc
          go_wp2_with fail
          refine (sNatOk_any _ (h.den.bl hb1)).mono ?_
          rw [hN1]
          rintro e w2 ⟨rfl, q2, rfl⟩
          go_wp2_with fail
          go_ret
          exact ⟨rfl, slc⟩

      · obtain rfl : m = 0 := by omega
        clear ho' h1 h2 h3
        go_enter Tryz.func135, Tryz.ntmps135
        go_wp2_with fail
        refine (sBigIntOk_any _ (h.mag.alloc _)).mono ?_
        rw [hB1]
        rintro e w1 ⟨rfl, hb1⟩
        obtain ⟨k0, k1, k2⟩ := box3 hb1
        have hb1 : Bl w w1 := slc
        go_wp2_with fail
        refine (sNatOk_any _ (h.den.bl hb1)).mono ?_
        rw [hN1]
        rintro e w2 ⟨rfl, q2, rfl⟩
        go_wp2_with fail
        go_ret
        exact ⟨rfl, slc⟩

    · have hN0 := okN_no h2
      clear ho' h1 h2
      go_enter Tryz.func135, Tryz.ntmps135
      go_wp2_with fail
      refine (sBigIntOk_any _ (h.mag.alloc _)).mono ?_
      rw [hB1]
      rintro e w1 ⟨rfl, hb1⟩
      obtain ⟨k0, k1, k2⟩ := box3 hb1
      have hb1 : Bl w w1 := slc
      go_wp2_with fail
      refine (sNatOk_any _ (h.den.bl hb1)).mono ?_
      rw [hN0]
      rintro e w2 ⟨rfl, q2, rfl⟩
      go_wp2_with fail
      go_ret
      exact ⟨rfl, slc⟩

  · have hB0 := okB_no h1
    clear ho' h1
    go_enter Tryz.func135, Tryz.ntmps135
    go_wp2_with fail
    refine (sBigIntOk_any _ (h.mag.alloc _)).mono ?_
    rw [hB0]
    rintro e w1 ⟨rfl, hb1⟩
    obtain ⟨k0, k1, k2⟩ := box3 hb1
    have hb1 : Bl w w1 := slc
    go_wp2_with fail
    go_ret
    exact ⟨rfl, slc⟩

set_option maxHeartbeats 4000000 in
theorem sRatOk_fine {x : Int} {D : Nat} (h : IsR w s A n c B m d x D) (hB1 : okB s (raw x D).mag = true) (hN1 : okN (raw x D).den = true) (h3 : 0 < m) (h4 : n ≤ 24) (h5 : m ≤ 24) :
    Calls Tryz.prog 135 #[.agg #[.bool s, .slice A n c, .slice B m d]] w fun e w' => e = .returned (.bool (decide (Nat.gcd x.natAbs D = 1))) ∧ Bl w w' := by
  have h3i : ((m : Int) == 0) = false := by simp; omega
  have h4i : decide ((24 : Int) < (n : Int)) = false := by simp; omega
  have h5i : decide ((24 : Int) < (m : Int)) = false := by simp; omega
  go_enter Tryz.func135, Tryz.ntmps135
  go_wp2_with fail
  refine (sBigIntOk_any _ (h.mag.alloc _)).mono ?_
  rw [hB1]
  rintro e w1 ⟨rfl, hb1⟩
  obtain ⟨k0, k1, k2⟩ := box3 hb1
  have hb1 : Bl w w1 := slc
  go_wp2_with fail
  refine (sNatOk_any _ (h.den.bl hb1)).mono ?_
  rw [hN1]
  rintro e w2 ⟨rfl, q2, rfl⟩
  have hb3 : Bl w (w1.drewN q2) := slc
  go_wp2_with fail
  refine (l02Gcd_any _ (h.num.bl hb3) (h.dn.bl hb3) (by omega) (by omega)).mono ?_
  rintro e w4 ⟨A', n', c', rfl, hO, hb4⟩
  have hb4 : Bl w w4 := slc
  by_cases hg : Nat.gcd x.natAbs D = 1
  · rw [hg] at hO
    have hd := Lib.hid (show decide (Nat.gcd x.natAbs D = 1) = true by simp [hg])
    clear hg
    go_wp2_with fail
    refine (l04One_yes _ hO.rd).mono ?_
    rintro e w5 ⟨rfl, q5, rfl⟩
    go_wp2_with fail
    go_ret
    exact ⟨ret_bool hd.out.symm, slc⟩
  · have hd := Lib.hid (show decide (Nat.gcd x.natAbs D = 1) = false by simp [hg])
    have hg := Lib.hid hg; rename_i h_; clear h_
    go_wp2_with fail
    refine (l04One_no _ hO.rd hg.out).mono ?_
    rintro e w5 ⟨rfl, q5, rfl⟩
    go_wp2_with fail
    go_ret
    exact ⟨ret_bool hd.out.symm, slc⟩
theorem sRatOk_any (h : RdR w s A n c B m d r) :
    Calls Tryz.prog 135 #[.agg #[.bool s, .slice A n c, .slice B m d]] w fun e w' => e = .returned (.bool (okR r)) ∧ Bl w w' := by
  have hiff := okR_iff r
  rw [h.mag.len, h.den.len, ← h.neg] at hiff
  by_cases hg : OkB s r.mag ∧ OkN r.den ∧ 0 < m ∧ n ≤ 24 ∧ m ≤ 24
  · obtain ⟨g1, g2, g3, g4, g5⟩ := hg
    have e1 := g1.1.nv.1
    have e2 := g2.nv.1
    have hn : (rn r).natAbs = nv r.mag := by unfold rn; split <;> omega
    have hr : r = raw (rn r) (rd r) := by
      obtain ⟨s', mag, den⟩ := r
      have hs := h.neg
      simp only at hs
      subst hs
      unfold raw
      congr 1
      · by_cases hs : s = true
        · have := g1.2 hs
          simp only at this e1
          rw [e1, ints_len] at this
          have := dig_len_pos.1 this
          subst hs
          simp [rn]
          omega
        · have : s = false := by simpa using hs
          subst this
          simp [rn]
      · rw [hn]; exact e1
    have hI : IsR w s A n c B m d (rn r) (rd r) := by
      have h2 := h
      rw [hr] at h2
      exact h2
    refine (sRatOk_fine w hI (by rw [← hr]; exact okB_yes g1) (by rw [← hr]; exact okN_of g2) g3 g4 g5).mono ?_
    rintro e w' ⟨rfl, hb⟩
    refine ⟨?_, hb⟩
    congr 2
    by_cases hk : Nat.gcd (nv r.mag) (nv r.den) = 1
    · rw [okR_of (hiff.2 ⟨g1, g2, g3, g4, g5, hk⟩), hn]
      simp [rd, hk]
    · rw [okR_no (fun ho => hk (hiff.1 ho).2.2.2.2.2), hn]
      simp [rd, hk]
  · exact sRatOk_bad w h (fun ho => hg ⟨(hiff.1 ho).1, (hiff.1 ho).2.1, (hiff.1 ho).2.2.1, (hiff.1 ho).2.2.2.1, (hiff.1 ho).2.2.2.2.1⟩) hg
end

theorem OwI.grown {T : TypeId} {b0 : Nat} {w w' : World} {A : Option Addr} {n c : Nat} {l : List Int} {row : Option Nat} (h : OwI T b0 w A n c l) (hg : w.grownBy w' row) (hr : ∀ k, row = some k → k < b0) : OwI T b0 w' A n c l := by
  obtain ⟨bs, h1, hf⟩ := FtI.of_own h
  have h2 : FtI T w' A n c l bs := h1.keep hg.size (fun b hb => hg.block b (hf.2 b hb).2 (by intro e; have := hr b e.symm; have := (hf.2 b hb).1; omega))
  refine ⟨h2.1, ?_⟩
  rcases h2.2 with ⟨h0, _⟩ | ⟨g, cs, _, e, hh, hn, e2⟩
  · exact .inl h0
  · exact .inr ⟨g, cs, e, (hf.2 g (by rw [e2]; simp)).1, hh, hn⟩
end

section
open Go.RowKit
end

section
open Go.RowKit

theorem one_lit (w : World) (o : Obj) (T : TypeId) : IsN ((w.alloc o).alloc (.cells #[.int .i64 1] T)) (some ⟨w.heap.size + 1, 0, none⟩) 1 1 1 := by
  have hd : dig 1 = [1] := by rw [dig_pos (by omega), show 1 / Bs = 0 from by rw [Bs_eq], dig_zero]; rfl
  have hB : Ow T ((w.alloc o).alloc (.cells #[.int .i64 1] T)) (w.alloc o).heap.size [1] := heap_alloc_new _ _
  rw [World.size_alloc] at hB
  have := hB.rd (c := 1) (by decide) (by decide)
  show RdI _ _ _ _ (ints (dig 1))
  rw [hd]
  exact this

theorem mk_sign {x : Int} {s : Bool} {D : Nat} (hs : s = decide (x < 0)) (hD : 0 < D) : (s && decide (0 < x.natAbs * D)) = decide (x * (D : Int) < 0) := by
  refine signed_neg (x := x * (D : Int)) (by rw [Int.natAbs_mul, Int.natAbs_natCast]) fun _ => ?_
  rw [hs]
  refine decide_eq_decide.2 ⟨fun h => Int.mul_neg_of_neg_of_pos h (by omega), fun h => ?_⟩
  rcases Int.lt_or_le x 0 with hx | hx
  · exact hx
  · have := Int.mul_nonneg hx (show (0 : Int) ≤ D by omega)
    omega
theorem lowS_self {x : Int} {s : Bool} {D : Nat} (hD : 0 < D) (hs : s = decide (x < 0)) : lowS s x.natAbs D = ofFrac x D := by
  unfold lowS
  rw [if_neg (by omega)]
  congr 1
  unfold sx
  rw [hs]
  by_cases h : x < 0
  · simp [h]; omega
  · simp [h]; omega
set_option maxRecDepth 100000 in
set_option maxHeartbeats 8000000 in
theorem l04Add_ints (w : World) {s : Bool} {A : Option Addr} {n c : Nat} {B : Option Addr} {m d : Nat} {x : Int} {D : Nat} {s' : Bool} {A' : Option Addr} {n' c' : Nat} {B' : Option Addr} {m' d' : Nat} {x' : Int} {D' : Nat} (h : IsR w s A n c B m d x D) (k : IsR w s' A' n' c' B' m' d' x' D') (hn : n ≤ 24) (hn' : n' ≤ 24) (h1 : D = 1) (h1' : D' = 1) :
    Calls Tryz.prog 143 #[.agg #[.bool s, .slice A n c, .slice B m d], .agg #[.bool s', .slice A' n' c', .slice B' m' d']] w fun e w' => ∃ s1 A1 n1 c1 B1 m1 d1, e = .returned (.agg #[.bool s1, .slice A1 n1 c1, .slice B1 m1 d1]) ∧ OwR 3 w.heap.size w' s1 A1 n1 c1 B1 m1 d1 (ofFrac (x * D' + x' * D) (D * D')) ∧ Bl w w' := by
  subst h1 h1'
  have hval : Hid (ofFrac (x * ((1 : Nat) : Int) + x' * ((1 : Nat) : Int)) (1 * 1) = ofFrac (x + x') 1) := by unfold Hid; simp
  have hlz := add_len (Nat.le_of_eq h.num.lenN) (Nat.le_of_eq k.num.lenN)
  go_enter Tryz.func143, Tryz.ntmps143
  go_wp2_with fail
  refine calls_gen (fun W => Bl w W ∧ Blk W (w.heap.size) 26 #[.bool s, .slice A n c, .slice B m d] ∧ Blk W (w.heap.size + 1) 26 #[.bool s', .slice A' n' c', .slice B' m' d'] ∧ Wk 3 26 (w.heap.size + 1 + 1) W) ⟨slc, bts, bts, bts⟩ ?_
  rintro W ⟨hbW, hx, hx', hr⟩
  refine (l04One_yes _ (RdI.bl h.dn hbW)).mono ?_
  rintro e w1 ⟨rfl, q1, rfl⟩
  have hb1 : Bl W (W.drewN q1) := (Bl.refl W).drewN q1
  have hx := hx.bl hb1
  have hx' := hx'.bl hb1
  have hr := hr.bl hb1
  have hbW := hbW.next hb1
  clear hb1
  obtain ⟨i0, i1, i2⟩ := bx3 hx
  obtain ⟨j0, j1, j2⟩ := bx3 hx'
  go_wp2_with fail
  refine (l04One_yes _ (RdI.bl k.dn hbW)).mono ?_
  rintro e w2 ⟨rfl, q2, rfl⟩
  have hb2 : Bl (W.drewN q1) ((W.drewN q1).drewN q2) := (Bl.refl _).drewN q2
  have hx := hx.bl hb2
  have hx' := hx'.bl hb2
  have hr := hr.bl hb2
  have hbW := hbW.next hb2
  clear hb2
  obtain ⟨i0, i1, i2⟩ := bx3 hx
  obtain ⟨j0, j1, j2⟩ := bx3 hx'
  generalize (W.drewN q1).drewN q2 = W2 at *
  go_wp2_with fail
  refine (l03Add_any _ (h.b.bl hbW) (k.b.bl hbW) (by omega) (by omega)).mono ?_
  rintro e w3 ⟨s3, A3, n3, c3, rfl, hO3, hb3⟩
  have hx := hx.bl hb3
  have hx' := hx'.bl hb3
  have hr := hr.bl hb3
  have hbW := hbW.next hb3
  clear hb3
  obtain ⟨i0, i1, i2⟩ := bx3 hx
  obtain ⟨j0, j1, j2⟩ := bx3 hx'
  have hl3 : n3 ≤ 1048570 := by rw [← hO3.len]; omega
  go_wp2_with fail
  refine calls_gen (fun W4 => Bl w W4 ∧ Wk 3 26 (w.heap.size + 1 + 1) W4 ∧ IsB W4 s3 A3 n3 c3 (x + x') ∧ IsN W4 (some ⟨w3.heap.size + 1, 0, none⟩) 1 1 1) ⟨slc, bts, hO3.rd.bl slc, one_lit _ _ _⟩ ?_
  rintro W4 ⟨hbW, hr, hB3, hone⟩
  refine (l04Low_any _ s3 hB3.mg hone hl3 (by omega)).mono ?_
  rintro e w5 ⟨s1, A1, n1, c1, B1, m1, d1, rfl, hR, hb5⟩
  have hR := hR.mono (show w.heap.size + 1 + 1 + 1 ≤ W4.heap.size from hr.lt)
  rw [lowS_self (by omega) hB3.1, ← hval.out] at hR
  have hr := hr.bl hb5
  have hbW := hbW.next hb5
  obtain ⟨v0, x0⟩ := hr.val_ (i := 0) (by omega)
  obtain ⟨v1, x1⟩ := hr.val_ (i := 1) (by omega)
  obtain ⟨v2, x2⟩ := hr.val_ (i := 2) (by omega)
  have hg := hr.lt
  obtain ⟨cs4, hB4, hc4⟩ := hr
  have hf0 := hB4.frozen 0
  have hf1 := hB4.frozen 1
  have hf2 := hB4.frozen 2
  go_wp2_with fail
  exact bodyPost_ret (v := .agg #[.bool s1, .slice A1 n1 c1, .slice B1 m1 d1]) (by simp [results, Tryz.results143, go_sem, x0, x1, x2]) rfl ⟨_, _, _, _, _, _, _, rfl, (((hR.far (by simp) _).far (by simp) _).far (by simp) _).mono (by omega), slc⟩
end

end Go.Proofs.YtjaapemopbbfaaaGreatDoor
