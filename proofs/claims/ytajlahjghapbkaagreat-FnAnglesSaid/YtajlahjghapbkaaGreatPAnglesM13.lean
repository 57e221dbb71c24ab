/- Lemmas. -/
import Derived.Test.YtajlahjghapbkaaGreatRows
import Derived.Test.YtajlahjghapbkaaGreatPAnglesM12
import Derived.Test.YtajlahjghapbkaaGreatPAnglesM07
import Derived.Test.YtajlahjghapbkaaGreatPAnglesM02
import Derived.Test.YtajlahjghapbkaaGreatPAnglesM01
namespace Go.Proofs.YtajlahjghapbkaaGreat
section
open Go.RowKit

theorem cell_al {w : World} {o : Obj} {a : Addr} (h : a.block < w.heap.size) : (w.alloc o).cell? a = w.cell? a := Bl.cellOf ((Bl.refl w).alloc o) h
theorem okB_of {w : World} {s : Bool} {A : Option Addr} {n c : Nat} {x : Int} (h : IsB w s A n c x) (hn : n ≤ 60) : okB s (ints (dig x.natAbs)) = true := by
  refine okB_yes ⟨⟨_, rfl, by rw [h.len]; exact hn⟩, fun hs => ?_⟩
  rw [ints_len]
  rw [h.1] at hs
  have : x < 0 := by simpa using hs
  exact dig_len_pos.2 (by omega)
set_option maxRecDepth 100000 in
set_option maxHeartbeats 8000000 in
theorem RatMake_any (w : World) {s : Bool} {A : Option Addr} {n c : Nat} {x : Int} {t : Bool} {B : Option Addr} {m d : Nat} {y : Int} (h : IsB w s A n c x) (k : IsB w t B m d y) (hn : n ≤ 60) (hm : m ≤ 60) (hy : y ≠ 0) :
    Calls Tryz.prog 123 #[.agg #[.bool s, .slice A n c], .agg #[.bool t, .slice B m d]] w fun e w' => ∃ s1 A1 n1 c1 B1 m1 d1, e = .returned (.agg #[.bool s1, .slice A1 n1 c1, .slice B1 m1 d1]) ∧ OwR 3 w.heap.size w' s1 A1 n1 c1 B1 m1 d1 (lowS (s != t) x.natAbs y.natAbs) ∧ Bl w w' := by
  have hB := okB_of h hn
  have hB' := okB_of k hm
  have hy0 : 0 < y.natAbs := by omega
  have hm0 : 0 < m := by rw [← k.len]; exact dig_len_pos.2 hy0
  have hne : ((m : Int) == 0) = false := by simp; omega
  have hlow := Lib.hid (show lowS (s != t) x.natAbs y.natAbs = ofFrac (sx (s != t) x.natAbs) y.natAbs by unfold lowS; rw [if_neg (by omega)])
  clear hy
  go_enter Tryz.func123, Tryz.ntmps123
  go_wp2_with fail
  refine calls_gen (fun W => Bl w W ∧ Blk W (w.heap.size) 27 #[.bool s, .slice A n c] ∧ Blk W (w.heap.size + 1) 27 #[.bool t, .slice B m d] ∧ Wk 3 29 (w.heap.size + 1 + 1) W) ⟨slc, bts, bts, bts⟩ ?_
  rintro W ⟨hbW, hx, hx', hr⟩
  refine (BigIntOk_any _ (RdI.bl h.mg hbW)).mono ?_
  rw [hB]
  rintro e w1 ⟨rfl, hb1⟩
  have hx := hx.bl hb1
  have hx' := hx'.bl hb1
  have hr := hr.bl hb1
  have hbW := hbW.next hb1
  clear hb1
  obtain ⟨i0, i1⟩ := bx2 hx
  obtain ⟨j0, j1⟩ := bx2 hx'
  go_wp2_with fail
  refine (BigIntOk_any _ (RdI.bl k.mg hbW)).mono ?_
  rw [hB']
  rintro e w2 ⟨rfl, hb2⟩
  have hx := hx.bl hb2
  have hx' := hx'.bl hb2
  have hr := hr.bl hb2
  have hbW := hbW.next hb2
  clear hb2
  obtain ⟨i0, i1⟩ := bx2 hx
  obtain ⟨j0, j1⟩ := bx2 hx'
  have hz2 := hr.lt
  go_wp2_with fail
  go_region_held3 (fun w' => (w'.cell? ⟨w.heap.size, 0, none⟩ = some (.bool s) ∧ w'.cell? ⟨w.heap.size, 1, none⟩ = some (.slice A n c)) ∧ (w'.cell? ⟨w.heap.size + 1, 0, none⟩ = some (.bool t) ∧ w'.cell? ⟨w.heap.size + 1, 1, none⟩ = some (.slice B m d)) ∧ (w'.cell? ⟨w.heap.size + 1 + 1, 0, none⟩ = some (cellD w' (w.heap.size + 1 + 1) 0) ∧ w'.cell? ⟨w.heap.size + 1 + 1, 1, none⟩ = some (cellD w' (w.heap.size + 1 + 1) 1) ∧ w'.cell? ⟨w.heap.size + 1 + 1, 2, none⟩ = some (cellD w' (w.heap.size + 1 + 1) 2)) ∧ w'.frozen? ⟨w.heap.size + 1 + 1, 0, none⟩ = false ∧ w'.frozen? ⟨w.heap.size + 1 + 1, 1, none⟩ = false ∧ w'.frozen? ⟨w.heap.size + 1 + 1, 2, none⟩ = false) (first | exact ⟨bx2 (T := 27) bts, bx2 (T := 27) bts, Wk.out3 (T := 29) bts⟩) (first | (go_at_call 158; (with_reducible refine (Clone_any _ (RdI.bl h.mg slc) (by omega)).mono ?_); rintro e w3 ⟨A3, n3, c3, rfl, hO3, hb3⟩; (have hO3 : OwI 3 (w.heap.size + 1 + 1 + 1) w3 A3 n3 c3 _ := hO3.mono hz2)) | (go_at_call 171; refine (signed_any _ _ hO3.rd).mono ?_; rintro e w4 ⟨s4, rfl, hs4, hb4⟩) | (go_at_call 158; (with_reducible refine (Clone_any _ (RdI.bl k.mg slc) (by omega)).mono ?_); rintro e w5 ⟨A5, n5, c5, rfl, hO5, hb5⟩; (have hz4 : w.heap.size + 1 + 1 + 1 ≤ w4.heap.size := Wk.lt (k := 3) (T := 29) bts); (have hR5 : OwR 3 (w.heap.size + 1 + 1 + 1) w5 s4 A3 n3 c3 A5 n5 c5 (raw (sx (s != t) x.natAbs) y.natAbs) := OwR.two' (by show OwI _ _ _ _ _ _ (ints (dig (sx (s != t) x.natAbs).natAbs)); rw [sx_abs]; exact hO3.bl hb4) hO5 hb5 hz4 (by rw [hs4.out]; exact (sx_neg _ _).symm)); (have hz5 : w.heap.size + 1 + 1 + 1 ≤ w5.heap.size := Wk.lt (k := 3) (T := 29) bts); (have hl3 : n3 ≤ 60 := by rw [← hO3.rd.lenN, h.len]; exact hn); (have hl5 : n5 ≤ 60 := by rw [← hO5.rd.lenN, k.len]; exact hm)) | (go_at_call 120; refine (reduced_any _ hR5 hz5 (by omega) (by omega) hy0).mono ?_; rintro e w6 ⟨s1, A1, n1, c1, B1, m1, d1, rfl, hR, hb6⟩))
  have hr := (show Wk 3 29 (w.heap.size + 1 + 1) w6 from bts)
  have hbW : Bl w w6 := slc
  rw [← hlow.out] at hR
  obtain ⟨v0, x0⟩ := hr.val_ (i := 0) (by omega)
  obtain ⟨v1, x1⟩ := hr.val_ (i := 1) (by omega)
  obtain ⟨v2, x2⟩ := hr.val_ (i := 2) (by omega)
  have hg := hr.lt
  obtain ⟨cs4, hB4, hc4⟩ := hr
  have hf0 := hB4.frozen 0
  have hf1 := hB4.frozen 1
  have hf2 := hB4.frozen 2
  go_wp2_with fail
  exact bodyPost_ret (v := .agg #[.bool s1, .slice A1 n1 c1, .slice B1 m1 d1]) (by simp [results, Tryz.results123, go_sem, x0, x1, x2]) rfl ⟨_, _, _, _, _, _, _, rfl, (((hR.far (by simp) _).far (by simp) _).far (by simp) _).mono (by omega), slc⟩

theorem int_len {x : Int} (h1 : -9223372036854775808 ≤ x) (h2 : x ≤ 9223372036854775807) : (dig x.natAbs).length ≤ 3 := dig_len_le.2 (by rw [Bs_eq]; omega)
set_option maxRecDepth 100000 in
set_option maxHeartbeats 4000000 in
theorem RatOf_any (w : World) (x y : Int) (h1 : -9223372036854775808 ≤ x) (h2 : x ≤ 9223372036854775807) (g1 : 0 < y) (g2 : y ≤ 9223372036854775807) :
    Calls Tryz.prog 50 #[.int .i64 x, .int .i64 y] w fun e w' => ∃ s1 A1 n1 c1 B1 m1 d1, e = .returned (.agg #[.bool s1, .slice A1 n1 c1, .slice B1 m1 d1]) ∧ OwR 3 w.heap.size w' s1 A1 n1 c1 B1 m1 d1 (ofFrac x y.natAbs) ∧ Bl w w' := by
  have hv := Lib.hid (show lowS (decide (x < 0) != decide (y < 0)) x.natAbs y.natAbs = ofFrac x y.natAbs by
    rw [decide_eq_false (show ¬ y < 0 by omega), Bool.bne_false]
    exact lowS_self (by omega) rfl)
  have hlx := int_len h1 h2
  have hly := int_len (x := y) (by omega) g2
  go_enter Tryz.func50, Tryz.ntmps50
  go_wp2_with fail
  refine calls_gen (fun W => Bl w W ∧ Wk 3 29 (w.heap.size) W) ⟨slc, bts⟩ ?_
  rintro W ⟨hbW, hr⟩
  refine (BigIntOf_any _ x h1 h2).mono ?_
  rintro e w1 ⟨s1, A1, n1, c1, rfl, hO1, hb1⟩
  have hl1 : n1 ≤ 3 := by rw [← hO1.len]; exact hlx
  go_wp2_with fail
  refine (BigIntOf_any _ y (by omega) g2).mono ?_
  rintro e w2 ⟨s2, A2, n2, c2, rfl, hO2, hb2⟩
  have hl2 : n2 ≤ 3 := by rw [← hO2.len]; exact hly
  have hB1 := hO1.rd.bl hb2
  have q1 := Lib.hid hB1.1
  have q2 := Lib.hid hO2.1
  go_wp2_with fail
  refine (RatMake_any _ hB1 hO2.rd (by omega) (by omega) (by omega)).mono ?_
  rintro e w3 ⟨s3, A3, n3, c3, B3, m3, d3, rfl, hR, hb3⟩
  rw [q1.out, q2.out, hv.out] at hR
  have hr2 := (hr.bl hb1).bl hb2
  have hR := hR.mono (show w.heap.size + 1 ≤ w2.heap.size from hr2.lt)
  have hr := hr2.bl hb3
  have hbW := ((hbW.next hb1).next hb2).next hb3
  obtain ⟨v0, x0⟩ := hr.val_ (i := 0) (by omega)
  obtain ⟨v1, x1⟩ := hr.val_ (i := 1) (by omega)
  obtain ⟨v2, x2⟩ := hr.val_ (i := 2) (by omega)
  have hg := hr.lt
  obtain ⟨cs4, hB4, hc4⟩ := hr
  have hf0 := hB4.frozen 0
  have hf1 := hB4.frozen 1
  have hf2 := hB4.frozen 2
  go_wp2_with fail
  exact bodyPost_ret (v := .agg #[.bool s3, .slice A3 n3 c3, .slice B3 m3 d3]) (by simp [results, Tryz.results50, go_sem, x0, x1, x2]) rfl ⟨_, _, _, _, _, _, _, rfl, (((hR.far (by simp) _).far (by simp) _).far (by simp) _).mono (by omega), slc⟩

set_option maxHeartbeats 4000000 in
theorem RatFromInt_any (w : World) (x : Int) (h1 : -9223372036854775808 ≤ x) (h2 : x ≤ 9223372036854775807) :
    Calls Tryz.prog 23 #[.int .i64 x] w fun e w' => ∃ s1 A1 n1 c1 B1 m1 d1, e = .returned (.agg #[.bool s1, .slice A1 n1 c1, .slice B1 m1 d1]) ∧ OwR 3 w.heap.size w' s1 A1 n1 c1 B1 m1 d1 (ofFrac x 1) ∧ Bl w w' := by
  go_enter Tryz.func23, Tryz.ntmps23
  go_wp2_with fail
  refine calls_gen (fun W => Bl w W ∧ Wk 3 29 (w.heap.size) W) ⟨slc, bts⟩ ?_
  rintro W ⟨hbW, hr⟩
  refine (RatOf_any _ x 1 h1 h2 (by omega) (by omega)).mono ?_
  rintro e w3 ⟨s3, A3, n3, c3, B3, m3, d3, rfl, hR, hb3⟩
  have hR : OwR 3 (w.heap.size + 1) w3 s3 A3 n3 c3 B3 m3 d3 (ofFrac x 1) := hR.mono (show w.heap.size + 1 ≤ W.heap.size from hr.lt)
  have hr := hr.bl hb3
  have hbW := hbW.next hb3
  obtain ⟨v0, x0⟩ := hr.val_ (i := 0) (by omega)
  obtain ⟨v1, x1⟩ := hr.val_ (i := 1) (by omega)
  obtain ⟨v2, x2⟩ := hr.val_ (i := 2) (by omega)
  have hg := hr.lt
  obtain ⟨cs4, hB4, hc4⟩ := hr
  have hf0 := hB4.frozen 0
  have hf1 := hB4.frozen 1
  have hf2 := hB4.frozen 2
  go_wp2_with fail
  exact bodyPost_ret (v := .agg #[.bool s3, .slice A3 n3 c3, .slice B3 m3 d3]) (by simp [results, Tryz.results23, go_sem, x0, x1, x2]) rfl ⟨_, _, _, _, _, _, _, rfl, (((hR.far (by simp) _).far (by simp) _).far (by simp) _).mono (by omega), slc⟩


set_option maxRecDepth 100000 in
set_option maxHeartbeats 4000000 in
theorem sBigIntOf_any (w : World) (x : Int) (h1 : -9223372036854775808 < x) (h2 : x ≤ 9223372036854775807) :
    Calls Tryz.prog 195 #[.int .i64 x] w fun e w' => ∃ s' A' n' c', e = .returned (.agg #[.bool s', .slice A' n' c']) ∧ OwB 3 w.heap.size w' s' A' n' c' x ∧ Bl w w' := by
  have hlx := int_len (x := x) (by omega) h2
  have hne : (x == -9223372036854775808) = false := by simp; omega
  rcases Int.lt_or_le x 0 with hx | hx
  · skip
    have hu : Hid (-x = ((x.natAbs : Nat) : Int)) := by unfold Hid; omega
    go_enter Tryz.func195, Tryz.ntmps195
    go_wp2_with fail
    refine calls_gen (fun W => Bl w W ∧ Wk 2 27 (w.heap.size) W) ⟨slc, bts⟩ ?_
    rintro W ⟨hbW, hr⟩
    rw [hu.out]
    refine (sNatOf_any _ x.natAbs (by omega)).mono ?_
    rintro e w3 ⟨A1, k1, c1, rfl, hO, hb3⟩
    have hl : k1 ≤ 60 := by rw [← hO.rd.lenN]; omega
    go_wp2_with fail
    refine (l03Make_any _ true hO.rd hl).mono ?_
    rintro e w4 ⟨s4, A4, n4, c4, rfl, hs4, hO4, hb4⟩
    have hr3 := hr.bl hb3
    have hO5 : OwB 3 (w.heap.size + 1) w4 s4 A4 n4 c4 x := ⟨by rw [hs4.out]; exact signed_neg rfl (fun _ => (decide_eq_true hx).symm), hO4.mono (show w.heap.size + 1 ≤ w3.heap.size from hr3.lt)⟩
    have hr := hr3.bl hb4
    have hbW := (hbW.next hb3).next hb4
    obtain ⟨⟨x0, x1⟩, hf0, hf1⟩ := hr.out2
    have hg := hr.lt
    go_wp2_with fail
    exact bodyPost_ret (v := .agg #[.bool s4, .slice A4 n4 c4]) (by simp [results, Tryz.results195, go_sem, x0, x1]) rfl ⟨_, _, _, _, rfl, ((hO5.far (by simp) _).far (by simp) _).mono (by omega), slc⟩
  · skip
    have hu : Hid (x = ((x.natAbs : Nat) : Int)) := by unfold Hid; omega
    go_enter Tryz.func195, Tryz.ntmps195
    go_wp2_with fail
    refine calls_gen (fun W => Bl w W ∧ Wk 2 27 (w.heap.size) W) ⟨slc, bts⟩ ?_
    rintro W ⟨hbW, hr⟩
    rw [hu.out]
    refine (sNatOf_any _ x.natAbs (by omega)).mono ?_
    rintro e w3 ⟨A1, k1, c1, rfl, hO, hb3⟩
    have hl : k1 ≤ 60 := by rw [← hO.rd.lenN]; omega
    go_wp2_with fail
    refine (l03Make_any _ false hO.rd hl).mono ?_
    rintro e w4 ⟨s4, A4, n4, c4, rfl, hs4, hO4, hb4⟩
    have hr3 := hr.bl hb3
    have hO5 : OwB 3 (w.heap.size + 1) w4 s4 A4 n4 c4 x := ⟨by rw [hs4.out]; exact signed_neg rfl (fun _ => (decide_eq_false (by omega)).symm), hO4.mono (show w.heap.size + 1 ≤ w3.heap.size from hr3.lt)⟩
    have hr := hr3.bl hb4
    have hbW := (hbW.next hb3).next hb4
    obtain ⟨⟨x0, x1⟩, hf0, hf1⟩ := hr.out2
    have hg := hr.lt
    go_wp2_with fail
    exact bodyPost_ret (v := .agg #[.bool s4, .slice A4 n4 c4]) (by simp [results, Tryz.results195, go_sem, x0, x1]) rfl ⟨_, _, _, _, rfl, ((hO5.far (by simp) _).far (by simp) _).mono (by omega), slc⟩

theorem ofFrac_int {x : Int} (h1 : -9223372036854775808 ≤ x) (h2 : x ≤ 9223372036854775807) : ofFrac x 1 = raw x 1 := by
  have hb : (dig 1).length ≤ 24 := dig_len_le.2 (by decide)
  have ha : (dig x.natAbs).length ≤ 24 := Nat.le_trans (int_len h1 h2) (by omega)
  rw [ofFrac_one (Nat.gcd_one_right _), if_pos ⟨ha, hb⟩]
end

section
open Go.RowKit

set_option maxRecDepth 100000 in
set_option maxHeartbeats 4000000 in
theorem sRatFromInt_any (w : World) (x : Int) (h1 : -9223372036854775808 < x) (h2 : x ≤ 9223372036854775807) :
    Calls Tryz.prog 192 #[.int .i64 x] w fun e w' => ∃ s1 A1 n1 c1 B1 m1 d1, e = .returned (.agg #[.bool s1, .slice A1 n1 c1, .slice B1 m1 d1]) ∧ OwR 3 w.heap.size w' s1 A1 n1 c1 B1 m1 d1 (ofFrac x 1) ∧ Bl w w' := by
  have hd : dig 1 = [1] := by rw [dig_pos (by omega), show 1 / Bs = 0 from by rw [Bs_eq], dig_zero]; rfl
  have hd := Lib.hid hd; rename_i h_; clear h_
  have hv := Lib.hid (ofFrac_int (x := x) (by omega) h2)
  go_enter Tryz.func192, Tryz.ntmps192
  go_wp2_with fail
  refine calls_gen (fun W => Bl w W ∧ Wk 3 29 (w.heap.size) W) ⟨slc, bts⟩ ?_
  rintro W ⟨hbW, hr⟩
  refine (sBigIntOf_any _ x h1 h2).mono ?_
  rintro e w3 ⟨s3, A3, n3, c3, rfl, hO3, hb3⟩
  have hr3 := hr.bl hb3
  have hbW := hbW.next hb3
  obtain ⟨⟨x0, x1, x2⟩, hf0, hf1, hf2⟩ := hr3.out3
  have hg := hr3.lt
  have hO3 := hO3.mono (show w.heap.size + 1 ≤ W.heap.size from hr.lt)
  have key : ∀ V : World, V.heap.size = w3.heap.size → OwB 3 (w.heap.size + 1) V s3 A3 n3 c3 x → OwR 3 (w.heap.size + 1) (V.alloc (.cells #[.int .i64 1] 3)) s3 A3 n3 c3 (some ⟨w3.heap.size, 0, none⟩) 1 1 (ofFrac x 1) := by
    intro V hV hO
    have hB : Ow 3 (V.alloc (.cells #[.int .i64 1] 3)) V.heap.size [1] := heap_alloc_new _ _
    have hB : OwI 3 V.heap.size (V.alloc (.cells #[.int .i64 1] 3)) (some ⟨V.heap.size, 0, none⟩) 1 1 (ints (dig 1)) := by
      rw [hd.out]
      exact hB.own (c := 1) (by decide) (Nat.le_refl _) (by decide)
    rw [hv.out, ← hV]
    exact OwR.two' hO.2 hB ((Bl.refl V).alloc _) (by rw [hV]; exact hg) hO.1
  go_wp2_with fail
  exact bodyPost_ret (v := .agg #[.bool s3, .slice A3 n3 c3, .slice (some ⟨w3.heap.size, 0, none⟩) 1 1]) (by simp [results, Tryz.results192, go_sem, x0, x1, x2, cell_al, hg]) rfl ⟨_, _, _, _, _, _, _, rfl, (key _ (by simp) (((hO3.far (by simp) _).far (by simp) _).far (by simp) _)).mono (by omega), slc⟩
end

section
open Go.RowKit

theorem box6 {w W : World} {a b c a' b' c' : Value} {T : TypeId} (h : Bl (w.alloc (.cells #[a, b, c, a', b', c'] T)) W) :
    W.cell? ⟨w.heap.size, 0, none⟩ = some a ∧ W.cell? ⟨w.heap.size, 1, none⟩ = some b ∧ W.cell? ⟨w.heap.size, 2, none⟩ = some c ∧ W.cell? ⟨w.heap.size, 3, none⟩ = some a' ∧ W.cell? ⟨w.heap.size, 4, none⟩ = some b' ∧ W.cell? ⟨w.heap.size, 5, none⟩ = some c' := by
  refine ⟨?_, ?_, ?_, ?_, ?_, ?_⟩ <;> (rw [h.cellOf (by simp)]; simp [go_sem])
/-- Block g has six cells that may be written. -/
def Wr6 (T : TypeId) (g : Nat) (W : World) : Prop := ∃ cs, Blk W g T cs ∧ cs.size = 6
theorem Wr6.bl {T : TypeId} {g : Nat} {w W : World} (h : Wr6 T g w) (hb : Bl w W) : Wr6 T g W := by
  obtain ⟨cs, h1, h2⟩ := h
  exact ⟨cs, h1.bl hb, h2⟩
theorem Wr6.set {T : TypeId} {g : Nat} {w : World} (h : Wr6 T g w) (i : Nat) (u : Value) : Wr6 T g (w.setCell ⟨g, i, none⟩ u) := by
  obtain ⟨cs, h1, h2⟩ := h
  exact ⟨_, h1.set_ i u, by simp [h2]⟩
theorem Wr6.new2 (T : TypeId) (w : World) (o : Obj) (a b c a' b' c' : Value) : Wr6 T (w.heap.size + 1) ((w.alloc o).alloc (.cells #[a, b, c, a', b', c'] T)) := by
  have : Wr6 T (w.alloc o).heap.size ((w.alloc o).alloc (.cells #[a, b, c, a', b', c'] T)) := ⟨_, Blk.new _ _ _, rfl⟩
  rwa [World.size_alloc] at this
theorem Wr6.drew {T : TypeId} {g : Nat} {w : World} (h : Wr6 T g w) : Wr6 T g w.drew := h
theorem Wr6.out {T : TypeId} {g : Nat} {w : World} (h : Wr6 T g w) : (w.cell? ⟨g, 0, none⟩ = some (cellD w g 0) ∧ w.cell? ⟨g, 1, none⟩ = some (cellD w g 1) ∧ w.cell? ⟨g, 2, none⟩ = some (cellD w g 2) ∧ w.cell? ⟨g, 3, none⟩ = some (cellD w g 3) ∧ w.cell? ⟨g, 4, none⟩ = some (cellD w g 4) ∧ w.cell? ⟨g, 5, none⟩ = some (cellD w g 5)) ∧
    w.frozen? ⟨g, 0, none⟩ = false ∧ w.frozen? ⟨g, 1, none⟩ = false ∧ w.frozen? ⟨g, 2, none⟩ = false ∧ w.frozen? ⟨g, 3, none⟩ = false ∧ w.frozen? ⟨g, 4, none⟩ = false ∧ w.frozen? ⟨g, 5, none⟩ = false := by
  obtain ⟨cs, h1, h2⟩ := h
  exact ⟨⟨cellD_eq (h1.some (by omega)), cellD_eq (h1.some (by omega)), cellD_eq (h1.some (by omega)), cellD_eq (h1.some (by omega)), cellD_eq (h1.some (by omega)), cellD_eq (h1.some (by omega))⟩, h1.frozen 0, h1.frozen 1, h1.frozen 2, h1.frozen 3, h1.frozen 4, h1.frozen 5⟩
/-- A point in memory of its own from block b0 on. -/
def OwP (T : TypeId) (b0 : Nat) (w : World) (s : Bool) (A : Option Addr) (n c : Nat) (B : Option Addr) (m d : Nat) (t : Bool) (C : Option Addr) (i e : Nat) (D : Option Addr) (j f : Nat) (p : PtD) : Prop :=
  ∃ b1 b2, FtR T w s A n c B m d p.x b1 ∧ FtR T w t C i e D j f p.y b2 ∧ Fp b0 w.heap.size (b1 ++ b2)
section
variable {T : TypeId} {b0 b1 : Nat} {w w1 W : World} {s : Bool} {A : Option Addr} {n c : Nat} {B : Option Addr} {m d : Nat} {t : Bool} {C : Option Addr} {i e : Nat} {D : Option Addr} {j f : Nat} {p : PtD}
theorem OwP.two (h : OwR T b0 w1 s A n c B m d p.x) (k : OwR T w1.heap.size w t C i e D j f p.y) (hb : Bl w1 w) (h0 : b0 ≤ w1.heap.size) : OwP T b0 w s A n c B m d t C i e D j f p := by
  obtain ⟨c1, h1, f1⟩ := h
  obtain ⟨c2, h2, f2⟩ := k
  exact ⟨c1, c2, h1.bl hb, h2, f1.app f2 (Nat.le_refl _) h0 hb.size⟩
theorem OwP.far (h : OwP T b0 w s A n c B m d t C i e D j f p) {q : Addr} (hp : q.block < b0) (u : Value) : OwP T b0 (w.setCell q u) s A n c B m d t C i e D j f p := by
  obtain ⟨c1, c2, h1, h2, hf⟩ := h
  exact ⟨c1, c2, h1.keep (by simp) (fun b hb => Below.heap_setCell w q u b (by have := (hf.2 b (by simp [hb])).1; omega)), h2.keep (by simp) (fun b hb => Below.heap_setCell w q u b (by have := (hf.2 b (by simp [hb])).1; omega)), hf.mono (Nat.le_refl _) (by simp)⟩
theorem OwP.low (h : OwP T b1 w s A n c B m d t C i e D j f p) (hb : b0 ≤ b1) : OwP T b0 w s A n c B m d t C i e D j f p := by
  obtain ⟨c1, c2, h1, h2, hf⟩ := h
  exact ⟨c1, c2, h1, h2, hf.mono hb (Nat.le_refl _)⟩
end

set_option maxRecDepth 100000 in
set_option maxHeartbeats 8000000 in
theorem copyPoint_any (w : World) {s : Bool} {A : Option Addr} {n c : Nat} {B : Option Addr} {m d : Nat} {t : Bool} {C : Option Addr} {i e : Nat} {D : Option Addr} {j f : Nat} {p : PtD} (h : RdR w s A n c B m d p.x) (k : RdR w t C i e D j f p.y) (hn : n ≤ 1048576) (hm : m ≤ 1048576) (hi : i ≤ 1048576) (hj : j ≤ 1048576) :
    Calls Tryz.prog 161 #[.agg #[.bool s, .slice A n c, .slice B m d, .bool t, .slice C i e, .slice D j f]] w fun en w' => ∃ A' n' c' B' m' d' C' i' e' D' j' f', en = .returned (.agg #[.bool s, .slice A' n' c', .slice B' m' d', .bool t, .slice C' i' e', .slice D' j' f']) ∧ OwP 3 w.heap.size w' s A' n' c' B' m' d' t C' i' e' D' j' f' p ∧ Bl w w' := by
  go_enter Tryz.func161, Tryz.ntmps161
  go_wp2_with fail
  go_region_held3 (fun w' => (w'.cell? ⟨w.heap.size, 0, none⟩ = some (.bool s) ∧ w'.cell? ⟨w.heap.size, 1, none⟩ = some (.slice A n c) ∧ w'.cell? ⟨w.heap.size, 2, none⟩ = some (.slice B m d) ∧ w'.cell? ⟨w.heap.size, 3, none⟩ = some (.bool t) ∧ w'.cell? ⟨w.heap.size, 4, none⟩ = some (.slice C i e) ∧ w'.cell? ⟨w.heap.size, 5, none⟩ = some (.slice D j f)) ∧ (w'.cell? ⟨w.heap.size + 1, 0, none⟩ = some (cellD w' (w.heap.size + 1) 0) ∧ w'.cell? ⟨w.heap.size + 1, 1, none⟩ = some (cellD w' (w.heap.size + 1) 1) ∧ w'.cell? ⟨w.heap.size + 1, 2, none⟩ = some (cellD w' (w.heap.size + 1) 2) ∧ w'.cell? ⟨w.heap.size + 1, 3, none⟩ = some (cellD w' (w.heap.size + 1) 3) ∧ w'.cell? ⟨w.heap.size + 1, 4, none⟩ = some (cellD w' (w.heap.size + 1) 4) ∧ w'.cell? ⟨w.heap.size + 1, 5, none⟩ = some (cellD w' (w.heap.size + 1) 5)) ∧ w'.frozen? ⟨w.heap.size + 1, 0, none⟩ = false ∧ w'.frozen? ⟨w.heap.size + 1, 1, none⟩ = false ∧ w'.frozen? ⟨w.heap.size + 1, 2, none⟩ = false ∧ w'.frozen? ⟨w.heap.size + 1, 3, none⟩ = false ∧ w'.frozen? ⟨w.heap.size + 1, 4, none⟩ = false ∧ w'.frozen? ⟨w.heap.size + 1, 5, none⟩ = false) (first | exact ⟨box6 slc, Wr6.out (T := 31) (by repeat (first | with_reducible exact Wr6.new2 _ _ _ _ _ _ _ _ _ | (with_reducible refine Wr6.drew ?_) | (with_reducible refine Wr6.set ?_ _ _) | (with_reducible refine Wr6.bl ?_ ‹Bl _ _›)))⟩) (first | (go_at_call 134; with_reducible refine (copyRat_any _ (h.bl slc) hn hm).mono ?_; rintro en w3 ⟨A1, k1, c1, A2, k2, c2, rfl, hO1, hb3⟩) | (go_at_call 134; with_reducible refine (copyRat_any _ (k.bl slc) hi hj).mono ?_; rintro en w4 ⟨A3, k3, c3, A4, k4, c4, rfl, hO2, hb4⟩))
  have hb1 : Bl w w4 := slc
  have hz3 := hb3.size
  have hz4 := hb4.size
  have hsz : w.heap.size + 2 ≤ ((w.alloc (.cells #[.bool s, .slice A n c, .slice B m d, .bool t, .slice C i e, .slice D j f] 31)).alloc (.cells #[.bool false, .slice none 0 0, .slice none 0 0, .bool false, .slice none 0 0, .slice none 0 0] 31)).heap.size := by simp
  have hR : OwP 3 (w.heap.size + 2) w4 s A1 k1 c1 A2 k2 c2 t A3 k3 c3 A4 k4 c4 p := (OwP.two hO1 hO2 hb4 hz3).low hsz
  have hg : w.heap.size + 1 < w4.heap.size := Nat.lt_of_lt_of_le (show w.heap.size + 1 < w.heap.size + 2 by omega) (Nat.le_trans hsz (Nat.le_trans hz3 hz4))
  obtain ⟨cs3, hB3, hcs3⟩ : Wr6 31 (w.heap.size + 1) w4 := ((Wr6.new2 31 w _ _ _ _ _ _ _).drew.bl hb3).bl hb4
  obtain ⟨v0, x0⟩ := hB3.some (i := 0) (by omega)
  obtain ⟨v1, x1⟩ := hB3.some (i := 1) (by omega)
  obtain ⟨v2, x2⟩ := hB3.some (i := 2) (by omega)
  obtain ⟨v3, x3⟩ := hB3.some (i := 3) (by omega)
  obtain ⟨v4, x4⟩ := hB3.some (i := 4) (by omega)
  obtain ⟨v5, x5⟩ := hB3.some (i := 5) (by omega)
  go_wp2_with fail
  refine bodyPost_ret (v := .agg #[.bool s, .slice A1 k1 c1, .slice A2 k2 c2, .bool t, .slice A3 k3 c3, .slice A4 k4 c4]) (by simp [results, Tryz.results161, go_sem, x0, x1, x2, x3, x4, x5]) rfl ⟨_, _, _, _, _, _, _, _, _, _, _, _, rfl, ((((((hR.far (by simp) _).far (by simp) _).far (by simp) _).far (by simp) _).far (by simp) _).far (by simp) _).low (by omega), slc⟩
end

section
open Go.RowKit

set_option maxRecDepth 100000 in
set_option maxHeartbeats 4000000 in
theorem sPointAt_any (w : World) (x y : Int) (hx1 : -1000000 < x) (hx2 : x ≤ 1000000) (hy1 : -1000000 < y) (hy2 : y ≤ 1000000) :
    Calls Tryz.prog 142 #[.int .i64 x, .int .i64 y] w fun en w' => ∃ s1 A1 n1 c1 B1 m1 d1 t1 C1 i1 e1 D1 j1 f1, en = .returned (.agg #[.bool s1, .slice A1 n1 c1, .slice B1 m1 d1, .bool t1, .slice C1 i1 e1, .slice D1 j1 f1]) ∧ OwP 3 w.heap.size w' s1 A1 n1 c1 B1 m1 d1 t1 C1 i1 e1 D1 j1 f1 ⟨ofFrac x 1, ofFrac y 1⟩ ∧ Bl w w' := by
  go_enter Tryz.func142, Tryz.ntmps142
  go_wp2_with fail
  refine calls_gen (fun W => Bl w W ∧ Wk 6 31 w.heap.size W) ⟨slc, bts⟩ ?_
  rintro W ⟨hbW, hr⟩
  refine (sRatFromInt_any _ x (by omega) (by omega)).mono ?_
  rintro e w2 ⟨s1, A1, n1, c1, B1, m1, d1, rfl, hR1, hb2⟩
  go_wp2_with fail
  refine (sRatFromInt_any _ y (by omega) (by omega)).mono ?_
  rintro e w3 ⟨t1, C1, i1, e1, D1, j1, f1, rfl, hR2, hb3⟩
  have hz : w.heap.size + 1 ≤ W.heap.size := hr.lt
  have hz2 : W.heap.size ≤ w2.heap.size := Bl.size hb2
  have hr := (hr.bl hb2).bl hb3
  have hbW : Bl w w3 := slc
  have hX : OwP 3 W.heap.size w3 s1 A1 n1 c1 B1 m1 d1 t1 C1 i1 e1 D1 j1 f1 ⟨ofFrac x 1, ofFrac y 1⟩ := OwP.two hR1 hR2 hb3 hz2
  have hX := OwP.low hX hz
  obtain ⟨v0, x0⟩ := hr.val_ (i := 0) (by omega)
  obtain ⟨v1, x1⟩ := hr.val_ (i := 1) (by omega)
  obtain ⟨v2, x2⟩ := hr.val_ (i := 2) (by omega)
  obtain ⟨v3, x3⟩ := hr.val_ (i := 3) (by omega)
  obtain ⟨v4, x4⟩ := hr.val_ (i := 4) (by omega)
  obtain ⟨v5, x5⟩ := hr.val_ (i := 5) (by omega)
  have hg := hr.lt
  obtain ⟨cs4, hB4, hc4⟩ := hr
  have hf0 := hB4.frozen 0
  have hf1 := hB4.frozen 1
  have hf2 := hB4.frozen 2
  have hf3 := hB4.frozen 3
  have hf4 := hB4.frozen 4
  have hf5 := hB4.frozen 5
  go_wp2_with fail
  exact bodyPost_ret (v := .agg #[.bool s1, .slice A1 n1 c1, .slice B1 m1 d1, .bool t1, .slice C1 i1 e1, .slice D1 j1 f1]) (by simp [results, Tryz.results142, go_sem, x0, x1, x2, x3, x4, x5]) rfl ⟨_, _, _, _, _, _, _, _, _, _, _, _, _, _, rfl, ((((((hX.far (by simp) _).far (by simp) _).far (by simp) _).far (by simp) _).far (by simp) _).far (by simp) _).low (by omega), slc⟩
end

section
open Go.RowKit

/-- The fraction that stands for a rational number. -/
def toR (q : Rat) : RatD := raw q.num q.den
/-- It is not too large. -/
def Fit (q : Rat) : Prop := q.num.natAbs < Bs ^ 24 ∧ q.den < Bs ^ 24
theorem Fit.ok {q : Rat} (h : Fit q) : OkR (toR q) := ⟨q.num, q.den, rfl, q.den_pos, q.reduced, dig_len_le.2 h.1, dig_len_le.2 h.2⟩
theorem rn_toR (q : Rat) : rn (toR q) = q.num := rn_raw _ _
theorem rd_toR (q : Rat) : rd (toR q) = q.den := rd_raw _ _
/-- The number of a fraction. -/
def vR (r : RatD) : Rat := mkRat (rn r) (rd r)
theorem OkR.toR {r : RatD} (h : OkR r) : r = toR (vR r) ∧ Fit (vR r) := by
  obtain ⟨h1, h2, h3, h4, h5⟩ := h.get
  have e : vR r = ⟨rn r, rd r, by omega, h3⟩ := (Rat.mk_eq_mkRat (rn r) (rd r) (by omega) h3).symm
  rw [e]
  exact ⟨h1, dig_len_le.1 h4, dig_len_le.1 h5⟩
theorem toR_inj {p q : Rat} (h : toR p = toR q) : p = q := by
  refine Rat.ext ?_ ?_
  · rw [← rn_toR, h, rn_toR]
  · rw [← rd_toR, h, rd_toR]
open Classical in
theorem ofFrac_toR (x : Int) {D : Nat} (hD : 0 < D) : ofFrac x D = if Fit (mkRat x D) then toR (mkRat x D) else zR := by
  have h1 : (mkRat x D).num = x / (Nat.gcd x.natAbs D : Int) := by
    rw [Rat.num_mkRat, if_neg (by omega), Nat.gcd_comm]
  have h2 : (mkRat x D).den = D / Nat.gcd x.natAbs D := by
    rw [Rat.den_mkRat, if_neg (by omega), Nat.gcd_comm]
  have h3 : (mkRat x D).num.natAbs = x.natAbs / Nat.gcd x.natAbs D := by
    rw [h1, natAbs_ediv_gcd _ _ (Nat.gcd_dvd_left _ _)]
  unfold ofFrac Fit toR
  rw [h3, h2, h1]
  by_cases h : x.natAbs / Nat.gcd x.natAbs D < Bs ^ 24 ∧ D / Nat.gcd x.natAbs D < Bs ^ 24
  · rw [if_pos h, if_pos ⟨dig_len_le.2 h.1, dig_len_le.2 h.2⟩]
  · rw [if_neg h, if_neg (fun hk => h ⟨dig_len_le.1 hk.1, dig_len_le.1 hk.2⟩)]
theorem addR_toR {p q : Rat} (hp : Fit p) (hq : Fit q) (h : Fit (p + q)) : addR (toR p) (toR q) = toR (p + q) := by
  unfold addR
  rw [if_pos ⟨hp.ok, hq.ok⟩, rn_toR, rn_toR, rd_toR, rd_toR, ofFrac_toR _ (Nat.mul_pos p.den_pos q.den_pos), ← Rat.add_def', if_pos h]
theorem subR_toR {p q : Rat} (hp : Fit p) (hq : Fit q) (h : Fit (p - q)) : subR (toR p) (toR q) = toR (p - q) := by
  unfold subR
  rw [if_pos ⟨hp.ok, hq.ok⟩, rn_toR, rn_toR, rd_toR, rd_toR, ofFrac_toR _ (Nat.mul_pos p.den_pos q.den_pos), ← Rat.sub_def', if_pos h]
theorem mulR_toR {p q : Rat} (hp : Fit p) (hq : Fit q) (h : Fit (p * q)) : mulR (toR p) (toR q) = toR (p * q) := by
  unfold mulR
  rw [if_pos ⟨hp.ok, hq.ok⟩, rn_toR, rn_toR, rd_toR, rd_toR, ofFrac_toR _ (Nat.mul_pos p.den_pos q.den_pos), ← Rat.mul_def', if_pos h]
theorem div_mkRat (p q : Rat) (h0 : q ≠ 0) : mkRat (p.num * q.den * (if q.num < 0 then -1 else 1)) (p.den * q.num.natAbs) = p / q := by
  have hn : q.num ≠ 0 := fun h => h0 (Rat.num_eq_zero.1 h)
  have e : p / q = Rat.divInt (p.num * q.den) (p.den * q.num) := by
    rw [Rat.div_def, Rat.inv_def]
    conv => lhs; rw [← Rat.num_divInt_den p]
    rw [Rat.divInt_mul_divInt]
  rw [e]
  by_cases hq : q.num < 0
  · have hq2 : ((q.num.natAbs : Nat) : Int) = -q.num := by omega
    rw [if_pos hq, ← Rat.divInt_ofNat, ← Rat.neg_divInt_neg (p.num * q.den), Int.mul_neg_one, Int.natCast_mul, hq2, Int.mul_neg]
  · have hq2 : ((q.num.natAbs : Nat) : Int) = q.num := by omega
    rw [if_neg hq, ← Rat.divInt_ofNat, Int.mul_one, Int.natCast_mul, hq2]
theorem divR_toR {p q : Rat} (hp : Fit p) (hq : Fit q) (h0 : q ≠ 0) (h : Fit (p / q)) : divR (toR p) (toR q) = toR (p / q) := by
  have hn : q.num ≠ 0 := fun h => h0 (Rat.num_eq_zero.1 h)
  unfold divR
  rw [if_pos ⟨hp.ok, hq.ok, by rw [rn_toR]; exact hn⟩, rn_toR, rn_toR, rd_toR, rd_toR, ofFrac_toR _ (Nat.mul_pos p.den_pos (by omega)), div_mkRat p q h0, if_pos h]
theorem cmpR_toR {p q : Rat} (hp : Fit p) (hq : Fit q) : cmpR (toR p) (toR q) = if p < q then -1 else if q < p then 1 else 0 := by
  unfold cmpR cmpZ
  rw [if_pos ⟨hp.ok, hq.ok⟩, rn_toR, rn_toR, rd_toR, rd_toR]
  simp only [Rat.lt_iff]
theorem sgnR_toR {p : Rat} (hp : Fit p) : sgnR (toR p) = if p < 0 then -1 else if 0 < p then 1 else 0 := by
  unfold sgnR cmpZ
  rw [if_pos hp.ok, rn_toR]
  simp [Rat.lt_iff]
theorem maxR_toR {p q : Rat} (hp : Fit p) (hq : Fit q) : maxR (toR p) (toR q) = toR (if p < q then q else p) := by
  unfold maxR
  rw [if_pos ⟨hp.ok, hq.ok⟩, cmpR_toR hp hq]
  by_cases h : p < q
  · simp [h]
  · by_cases h' : q < p <;> simp [h, h']
/-- Numerator and denominator are at most N. -/
def Bd (N : Nat) (q : Rat) : Prop := q.num.natAbs ≤ N ∧ q.den ≤ N
theorem Bd.fit {N : Nat} {q : Rat} (h : Bd N q) (hN : N < Bs ^ 24) : Fit q := ⟨Nat.lt_of_le_of_lt h.1 hN, Nat.lt_of_le_of_lt h.2 hN⟩
theorem Bd.pos {N : Nat} {q : Rat} (h : Bd N q) : 1 ≤ N := Nat.le_trans q.den_pos h.2
theorem Bd.mono {M N : Nat} {q : Rat} (h : Bd M q) (hN : M ≤ N) : Bd N q := ⟨Nat.le_trans h.1 hN, Nat.le_trans h.2 hN⟩
theorem bd_mk {x : Int} {D N : Nat} (hD : 0 < D) (hx : x.natAbs ≤ N) (hn : D ≤ N) : Bd N (mkRat x D) := by
  refine ⟨?_, ?_⟩
  · rw [Rat.num_mkRat, if_neg (by omega), Nat.gcd_comm, natAbs_ediv_gcd _ _ (Nat.gcd_dvd_left _ _)]
    exact Nat.le_trans (Nat.div_le_self _ _) hx
  · rw [Rat.den_mkRat, if_neg (by omega)]
    exact Nat.le_trans (Nat.div_le_self _ _) hn
section
variable {M N : Nat} {p q : Rat}
theorem natAbs_mul_le {a b : Int} (ha : a.natAbs ≤ M) (hb : b.natAbs ≤ N) : (a * b).natAbs ≤ M * N := by
  rw [Int.natAbs_mul]; exact Nat.mul_le_mul ha hb
theorem Bd.add (h : Bd M p) (k : Bd N q) : Bd (2 * (M * N)) (p + q) := by
  rw [Rat.add_def']
  refine bd_mk (Nat.mul_pos p.den_pos q.den_pos) ?_ (Nat.le_trans (Nat.mul_le_mul h.2 k.2) (by omega))
  have h1 : (p.num * (q.den : Int)).natAbs ≤ M * N := natAbs_mul_le h.1 k.2
  have h2 : (q.num * (p.den : Int)).natAbs ≤ N * M := natAbs_mul_le k.1 h.2
  rw [Nat.mul_comm N M] at h2
  omega
theorem Bd.sub (h : Bd M p) (k : Bd N q) : Bd (2 * (M * N)) (p - q) := by
  rw [Rat.sub_def']
  refine bd_mk (Nat.mul_pos p.den_pos q.den_pos) ?_ (Nat.le_trans (Nat.mul_le_mul h.2 k.2) (by omega))
  have h1 : (p.num * (q.den : Int)).natAbs ≤ M * N := natAbs_mul_le h.1 k.2
  have h2 : (q.num * (p.den : Int)).natAbs ≤ N * M := natAbs_mul_le k.1 h.2
  rw [Nat.mul_comm N M] at h2
  omega
theorem Bd.mul (h : Bd M p) (k : Bd N q) : Bd (M * N) (p * q) := by
  rw [Rat.mul_def']
  exact bd_mk (Nat.mul_pos p.den_pos q.den_pos) (natAbs_mul_le h.1 k.1) (Nat.mul_le_mul h.2 k.2)
theorem Bd.neg (h : Bd M p) : Bd M (-p) := ⟨by simpa using h.1, by simpa using h.2⟩
theorem Bd.inv (h : Bd M p) : Bd M p⁻¹ := by
  have h0 := h.pos
  refine ⟨?_, ?_⟩
  · rw [Rat.num_inv]
    have : (p.num.sign * (p.den : Int)).natAbs ≤ 1 * M := natAbs_mul_le (by rcases Int.lt_trichotomy p.num 0 with h | h | h <;> simp [Int.sign_eq_neg_one_of_neg, Int.sign_eq_one_of_pos, h]) h.2
    omega
  · rw [Rat.den_inv]
    split
    · exact h0
    · exact h.1
theorem Bd.div (h : Bd M p) (k : Bd N q) : Bd (M * N) (p / q) := by
  rw [Rat.div_def]
  exact h.mul k.inv
end
end

section
open Go.RowKit



theorem info_pt : (Tryz.prog.info? 31).map (fun i => (i.zero, i.size, i.bytes)) = some (some (.agg #[.bool false, .slice none 0 0, .slice none 0 0, .bool false, .slice none 0 0, .slice none 0 0]), 6, 112) := by kernel_rfl
end

section
open Go.RowKit
end

end Go.Proofs.YtajlahjghapbkaaGreat
