-- merged: Sp9 Sp10
import Derived.Test.YtggjdgjkdmgjnaaGreatRows
import Derived.Test.YtggjdgjkdmgjnaaGreatSp8
namespace Go.Proofs.YtggjdgjkdmgjnaaGreat
open Go.RowKit
section


set_option maxRecDepth 100000 in
set_option maxHeartbeats 2000000 in
theorem l04Neg_any (w : World) {s : Bool} {A : Option Addr} {n c : Nat} {B : Option Addr} {m d : Nat} {x : Int} {D : Nat} (h : IsR w s A n c B m d x D) (hn : n ≤ 60) (hm : m ≤ 1048576) :
    Calls Tryz.prog 123 #[.agg #[.bool s, .slice A n c, .slice B m d]] w fun e w' => ∃ s1 A1 n1 c1 B1 m1 d1, e = .returned (.agg #[.bool s1, .slice A1 n1 c1, .slice B1 m1 d1]) ∧ IsR w' s1 A1 n1 c1 B1 m1 d1 (-x) D ∧ Bl w w' := by
  have hs := Lib.hid h.sgn
  have hl1 : Hid ((([] : List Int) ++ ints (dig D)).length = m) := by have := RdI.len h.dn; unfold Hid; simpa using this
  go_enter Tryz.func123, Tryz.ntmps123
  go_wp2_with fail
  refine wp_gen (fun W => Bl w W ∧ Blk W (w.heap.size) 34 #[.bool s, .slice A n c, .slice B m d] ∧ Wk 3 34 (w.heap.size + 1) W) ⟨slc, bts, bts⟩ ?_
  rintro W ⟨hbW, hx, hr⟩
  have hzW := hr.lt
  go_region_held3 (fun w' => (w'.cell? ⟨w.heap.size, 0, none⟩ = some (.bool s) ∧ w'.cell? ⟨w.heap.size, 1, none⟩ = some (.slice A n c) ∧ w'.cell? ⟨w.heap.size, 2, none⟩ = some (.slice B m d)) ∧ (w'.cell? ⟨w.heap.size + 1, 0, none⟩ = some (cellD w' (w.heap.size + 1) 0) ∧ w'.cell? ⟨w.heap.size + 1, 1, none⟩ = some (cellD w' (w.heap.size + 1) 1) ∧ w'.cell? ⟨w.heap.size + 1, 2, none⟩ = some (cellD w' (w.heap.size + 1) 2)) ∧ w'.frozen? ⟨w.heap.size + 1, 0, none⟩ = false ∧ w'.frozen? ⟨w.heap.size + 1, 1, none⟩ = false ∧ w'.frozen? ⟨w.heap.size + 1, 2, none⟩ = false) (first | exact ⟨bx3 (T := 34) bts, Wk.out3 (T := 34) bts⟩) (first | (go_at_call 170; refine (l03Make_any _ _ (h.num.bl slc) hn).mono ?_; rintro e w4 ⟨s1, A1, n1, c1, rfl, hs1, hO1, hb4⟩; (have hz4 : w.heap.size + 1 < w4.heap.size := Wk.lt (k := 3) (T := 34) bts)) | (refine step_append_x (w0 := w4) info_int Tryz.underlying30 rfl (.tmp 11) (.tmp 13) rfl _ [] (by rfl) (OwL.empty w4 (Nat.le_refl _) (by simp)) ((Bl.refl w4).alloc _) B m d (by rfl) (ints (dig D)) (h.dn.bl slc) (by simp) (by omega) ?_; intro v1 w5 hown hb5 hgr; obtain ⟨B1, d1, hv1, ho1⟩ := hown.own (by rw [hl1.out]; omega); rw [hl1.out] at hv1 ho1; subst hv1) | (refine step_append_x (w0 := W) info_int Tryz.underlying30 rfl (.tmp 11) (.tmp 13) rfl _ [] (by rfl) (((OwL.empty W (Nat.le_refl _) (by simp)).drew).bl hb4) (Bl.next (((Bl.refl W).alloc _).drew) hb4) B m d (by rfl) (ints (dig D)) (h.dn.bl slc) (by simp) (by omega) ?_; intro v1 w5 hown hb5 hgr; obtain ⟨B1, d1, hv1, ho1⟩ := hown.own (by rw [hl1.out]; omega); rw [hl1.out] at hv1 ho1; subst hv1))
  · have hz5 : w4.heap.size ≤ w5.heap.size := Bl.size hb5
    have hr := (show Wk 3 34 (w.heap.size + 1) w5 from bts)
    have hbW : Bl w w5 := slc
    have hO1 := (hO1.mono (show w.heap.size + 1 + 1 ≤ W.drew.heap.size from hzW)).bl hb5
    have ho1 := ho1.mono (show w.heap.size + 1 + 1 ≤ w4.heap.size from hz4)
    rw [List.nil_append] at ho1
    obtain ⟨v0, x0⟩ := hr.val_ (i := 0) (by omega)
    obtain ⟨v1, x1⟩ := hr.val_ (i := 1) (by omega)
    obtain ⟨v2, x2⟩ := hr.val_ (i := 2) (by omega)
    have hg := hr.lt
    obtain ⟨cs4, hB4, hc4⟩ := hr
    have hf0 := hB4.frozen 0
    have hf1 := hB4.frozen 1
    have hf2 := hB4.frozen 2
    go_wp2_with fail
    refine bodyPost_ret (v := .agg #[.bool s1, .slice A1 n1 c1, .slice B1 m d1]) (by simp [results, Tryz.results123, go_sem, x0, x1, x2]) rfl ⟨_, _, _, _, _, _, _, rfl, ⟨?_, ?_, ?_⟩, slc⟩
    · rw [hs1.out]
      refine signed_neg (x := -x) (by omega) fun h0 => ?_
      rw [hs.out]
      by_cases hx0 : x < 0
      · simp [hx0]; omega
      · simp [hx0]; omega
    · show RdI _ A1 n1 c1 (ints (dig (-x).natAbs))
      rw [Int.natAbs_neg]
      exact (((hO1.far (by simp) _).far (by simp) _).far (by simp) _).rd
    · exact (((ho1.far (by simp) _).far (by simp) _).far (by simp) _).rd
  · have hr := (show Wk 3 34 (w.heap.size + 1) w5 from hr.bl hb5)
    have hbW : Bl w w5 := hbW.next hb5
    have hO1 := (hO1.grown hgr (by intro k hk; injection hk with hk; subst hk; simp)).mono (show w.heap.size + 1 + 1 ≤ _ by simp; omega)
    have ho1 := ho1.mono (show w.heap.size + 1 + 1 ≤ W.heap.size from hzW)
    rw [List.nil_append] at ho1
    obtain ⟨v0, x0⟩ := hr.val_ (i := 0) (by omega)
    obtain ⟨v1, x1⟩ := hr.val_ (i := 1) (by omega)
    obtain ⟨v2, x2⟩ := hr.val_ (i := 2) (by omega)
    have hg := hr.lt
    obtain ⟨cs4, hB4, hc4⟩ := hr
    have hf0 := hB4.frozen 0
    have hf1 := hB4.frozen 1
    have hf2 := hB4.frozen 2
    go_wp2_with fail
    refine bodyPost_ret (v := .agg #[.bool s1, .slice A1 n1 c1, .slice B1 m d1]) (by simp [results, Tryz.results123, go_sem, x0, x1, x2]) rfl ⟨_, _, _, _, _, _, _, rfl, ⟨?_, ?_, ?_⟩, slc⟩
    · rw [hs1.out]
      refine signed_neg (x := -x) (by omega) fun h0 => ?_
      rw [hs.out]
      by_cases hx0 : x < 0
      · simp [hx0]; omega
      · simp [hx0]; omega
    · show RdI _ A1 n1 c1 (ints (dig (-x).natAbs))
      rw [Int.natAbs_neg]
      exact (((hO1.far (by simp) _).far (by simp) _).far (by simp) _).rd
    · exact (((ho1.far (by simp) _).far (by simp) _).far (by simp) _).rd


end

section


theorem one_lit (w : World) (o : Obj) (T : TypeId) : IsN ((w.alloc o).alloc (.cells #[.int .i64 1] T)) (some ⟨w.heap.size + 1, 0, none⟩) 1 1 1 := by
  have hd : dig 1 = [1] := by rw [dig_pos (by omega), show 1 / Bs = 0 from by rw [Bs_eq], dig_zero]; rfl
  have hB : Ow T ((w.alloc o).alloc (.cells #[.int .i64 1] T)) (w.alloc o).heap.size [1] := heap_alloc_new _ _
  rw [World.size_alloc] at hB
  have := hB.rd (c := 1) (by decide) (by decide)
  show RdI _ _ _ _ (ints (dig 1))
  rw [hd]
  exact this

theorem mk_sign {x : Int} {s : Bool} {D : Nat} (hs : s = decide (x < 0)) (hD : 0 < D) : (s && decide (0 < x.natAbs * D)) = decide (x * (D : Int) < 0) := by
  refine signed_neg (x := x * (D : Int)) (by rw [Int.natAbs_mul, Int.natAbs_natCast]) fun _ => ?_
  rw [hs]
  refine decide_eq_decide.2 ⟨fun h => Int.mul_neg_of_neg_of_pos h (by omega), fun h => ?_⟩
  rcases Int.lt_or_le x 0 with hx | hx
  · exact hx
  · have := Int.mul_nonneg hx (show (0 : Int) ≤ D by omega)
    omega
theorem lowS_self {x : Int} {s : Bool} {D : Nat} (hD : 0 < D) (hs : s = decide (x < 0)) : lowS s x.natAbs D = ofFrac x D := by
  unfold lowS
  rw [if_neg (by omega)]
  congr 1
  unfold sx
  rw [hs]
  by_cases h : x < 0
  · simp [h]; omega
  · simp [h]; omega
set_option maxRecDepth 100000 in
set_option maxHeartbeats 2000000 in
theorem l04Add_ints (w : World) {s : Bool} {A : Option Addr} {n c : Nat} {B : Option Addr} {m d : Nat} {x : Int} {D : Nat} {s' : Bool} {A' : Option Addr} {n' c' : Nat} {B' : Option Addr} {m' d' : Nat} {x' : Int} {D' : Nat} (h : IsR w s A n c B m d x D) (k : IsR w s' A' n' c' B' m' d' x' D') (hn : n ≤ 24) (hn' : n' ≤ 24) (h1 : D = 1) (h1' : D' = 1) :
    Calls Tryz.prog 122 #[.agg #[.bool s, .slice A n c, .slice B m d], .agg #[.bool s', .slice A' n' c', .slice B' m' d']] w fun e w' => ∃ s1 A1 n1 c1 B1 m1 d1, e = .returned (.agg #[.bool s1, .slice A1 n1 c1, .slice B1 m1 d1]) ∧ OwR 3 w.heap.size w' s1 A1 n1 c1 B1 m1 d1 (ofFrac (x * D' + x' * D) (D * D')) ∧ Bl w w' := by
  subst h1 h1'
  have hval : Hid (ofFrac (x * ((1 : Nat) : Int) + x' * ((1 : Nat) : Int)) (1 * 1) = ofFrac (x + x') 1) := by unfold Hid; simp
  have hlz := add_len (Nat.le_of_eq h.num.lenN) (Nat.le_of_eq k.num.lenN)
  go_enter Tryz.func122, Tryz.ntmps122
  go_wp2_with fail
  refine calls_gen (fun W => Bl w W ∧ Blk W (w.heap.size) 34 #[.bool s, .slice A n c, .slice B m d] ∧ Blk W (w.heap.size + 1) 34 #[.bool s', .slice A' n' c', .slice B' m' d'] ∧ Wk 3 34 (w.heap.size + 1 + 1) W) ⟨slc, bts, bts, bts⟩ ?_
  rintro W ⟨hbW, hx, hx', hr⟩
  refine (l04One_yes _ (RdI.bl h.dn hbW)).mono ?_
  rintro e w1 ⟨rfl, q1, rfl⟩
  have hb1 : Bl W (W.drewN q1) := (Bl.refl W).drewN q1
  have hx := hx.bl hb1
  have hx' := hx'.bl hb1
  have hr := hr.bl hb1
  have hbW := hbW.next hb1
  clear hb1
  obtain ⟨i0, i1, i2⟩ := bx3 hx
  obtain ⟨j0, j1, j2⟩ := bx3 hx'
  go_wp2_with fail
  refine (l04One_yes _ (RdI.bl k.dn hbW)).mono ?_
  rintro e w2 ⟨rfl, q2, rfl⟩
  have hb2 : Bl (W.drewN q1) ((W.drewN q1).drewN q2) := (Bl.refl _).drewN q2
  have hx := hx.bl hb2
  have hx' := hx'.bl hb2
  have hr := hr.bl hb2
  have hbW := hbW.next hb2
  clear hb2
  obtain ⟨i0, i1, i2⟩ := bx3 hx
  obtain ⟨j0, j1, j2⟩ := bx3 hx'
  generalize (W.drewN q1).drewN q2 = W2 at *
  go_wp2_with fail
  refine (l03Add_any _ (h.b.bl hbW) (k.b.bl hbW) (by omega) (by omega)).mono ?_
  rintro e w3 ⟨s3, A3, n3, c3, rfl, hO3, hb3⟩
  have hx := hx.bl hb3
  have hx' := hx'.bl hb3
  have hr := hr.bl hb3
  have hbW := hbW.next hb3
  clear hb3
  obtain ⟨i0, i1, i2⟩ := bx3 hx
  obtain ⟨j0, j1, j2⟩ := bx3 hx'
  have hl3 : n3 ≤ 1048570 := by rw [← hO3.len]; omega
  go_wp2_with fail
  refine calls_gen (fun W4 => Bl w W4 ∧ Wk 3 34 (w.heap.size + 1 + 1) W4 ∧ IsB W4 s3 A3 n3 c3 (x + x') ∧ IsN W4 (some ⟨w3.heap.size + 1, 0, none⟩) 1 1 1) ⟨slc, bts, hO3.rd.bl slc, one_lit _ _ _⟩ ?_
  rintro W4 ⟨hbW, hr, hB3, hone⟩
  refine (l04Low_any _ s3 hB3.mg hone hl3 (by omega)).mono ?_
  rintro e w5 ⟨s1, A1, n1, c1, B1, m1, d1, rfl, hR, hb5⟩
  have hR := hR.mono (show w.heap.size + 1 + 1 + 1 ≤ W4.heap.size from hr.lt)
  rw [lowS_self (by omega) hB3.1, ← hval.out] at hR
  have hr := hr.bl hb5
  have hbW := hbW.next hb5
  obtain ⟨v0, x0⟩ := hr.val_ (i := 0) (by omega)
  obtain ⟨v1, x1⟩ := hr.val_ (i := 1) (by omega)
  obtain ⟨v2, x2⟩ := hr.val_ (i := 2) (by omega)
  have hg := hr.lt
  obtain ⟨cs4, hB4, hc4⟩ := hr
  have hf0 := hB4.frozen 0
  have hf1 := hB4.frozen 1
  have hf2 := hB4.frozen 2
  go_wp2_with fail
  exact bodyPost_ret (v := .agg #[.bool s1, .slice A1 n1 c1, .slice B1 m1 d1]) (by simp [results, Tryz.results122, go_sem, x0, x1, x2]) rfl ⟨_, _, _, _, _, _, _, rfl, (((hR.far (by simp) _).far (by simp) _).far (by simp) _).mono (by omega), slc⟩



end

end Go.Proofs.YtggjdgjkdmgjnaaGreat
