/- Lemmas. -/
import Derived.Test.YtajlahjghapbkaaGreatRows
import Derived.Test.YtajlahjghapbkaaGreatPProlongM17
import Derived.Test.YtajlahjghapbkaaGreatPProlongM13
import Derived.Deep.Cut
namespace Go.Proofs.YtajlahjghapbkaaGreat
section
open Go.RowKit

/-- The signed number of a sign and a magnitude. -/
def sx (s : Bool) (N : Nat) : Int := if s = true then -(N : Int) else (N : Int)
theorem sx_abs (s : Bool) (N : Nat) : (sx s N).natAbs = N := by unfold sx; split <;> omega
theorem sx_neg (s : Bool) (N : Nat) : decide (sx s N < 0) = (s && decide (0 < N)) := by
  unfold sx
  rcases s with _ | _
  · simp
  · simp
def lowS (s : Bool) (N D : Nat) : RatD := if D = 0 then zR else ofFrac (sx s N) D
theorem lowS_val {s : Bool} {N D : Nat} (hD : 0 < D) : lowS s N D = if (dig (N / Nat.gcd N D)).length ≤ 24 ∧ (dig (D / Nat.gcd N D)).length ≤ 24 then ⟨s && decide (0 < N / Nat.gcd N D), ints (dig (N / Nat.gcd N D)), ints (dig (D / Nat.gcd N D))⟩ else zR := by
  unfold lowS
  rw [if_neg (by omega)]
  unfold ofFrac
  rw [sx_abs]
  have hgN : Nat.gcd N D ∣ (sx s N).natAbs := by rw [sx_abs]; exact Nat.gcd_dvd_left _ _
  have hg0 := gcd_pos_den (n := N) hD
  have h1 := natAbs_ediv_gcd (sx s N) _ hgN
  rw [sx_abs] at h1
  have h2 := ediv_neg_iff (sx s N) _ hg0
  have h3 : decide (sx s N / (Nat.gcd N D : Int) < 0) = (s && decide (0 < N / Nat.gcd N D)) := by
    rw [show decide (sx s N / (Nat.gcd N D : Int) < 0) = decide (sx s N < 0) from decide_eq_decide.2 h2, sx_neg]
    congr 1
    refine decide_eq_decide.2 ⟨fun h => Nat.div_pos (Nat.le_of_dvd h (Nat.gcd_dvd_left _ _)) hg0, fun h => ?_⟩
    rcases Nat.eq_zero_or_pos N with h0 | h0
    · rw [h0] at h; simp at h
    · exact h0
  unfold raw
  rw [h1, h3]
set_option maxRecDepth 100000 in
set_option maxHeartbeats 4000000 in
theorem l04Low_zero (w : World) (s : Bool) {A : Option Addr} {n c : Nat} {N : Nat} {B : Option Addr} {m d : Nat} {D : Nat} (ha : IsN w A n c N) (hb : IsN w B m d D) (_hn : n ≤ 1048570) (_hm : m ≤ 1048570) (h0 : m = 0) :
    Calls Tryz.prog 230 #[.bool s, .slice A n c, .slice B m d] w fun e w' => ∃ s' A' n' c' B' m' d', e = .returned (.agg #[.bool s', .slice A' n' c', .slice B' m' d']) ∧ OwR 3 w.heap.size w' s' A' n' c' B' m' d' (lowS s N D) ∧ Bl w w' := by
  subst h0
  have hD : D = 0 := dig_nil.1 (List.length_eq_zero_iff.1 hb.lenN)
  have hfin := Lib.hid (show lowS s N D = zR by unfold lowS; rw [if_pos hD])
  clear hD
  go_enter Tryz.func230, Tryz.ntmps230
  go_wp2_with fail
  refine calls_gen (fun W => Bl w W ∧ Wk 3 29 w.heap.size W) ⟨slc, bts⟩ ?_
  rintro W ⟨hbW, hr⟩
  refine (l02Trim_num _ (RdI.bl ha hbW)).mono ?_
  rintro e w1 ⟨rfl, q1, rfl⟩
  go_wp2_with fail
  refine (l02Trim_num _ (RdI.bl hb (hbW.drewN q1))).mono ?_
  rintro e w1 ⟨rfl, q2, rfl⟩
  have hbW := (hbW.drewN q1).drewN q2
  have hr := (hr.drewN q1).drewN q2
  generalize (W.drewN q1).drewN q2 = W at *
  obtain ⟨⟨x0, x1, x2⟩, hf0, hf1, hf2⟩ := hr.out3
  have hg := hr.lt
  go_wp2_with fail
  exact bodyPost_ret (v := .agg #[.bool false, .slice none 0 0, .slice none 0 0]) (by simp [results, Tryz.results230, go_sem, x0, x1, x2]) rfl ⟨_, _, _, _, _, _, _, rfl, by rw [hfin.out]; exact OwR.zero _ _ _, slc⟩

set_option maxRecDepth 100000 in
set_option maxHeartbeats 8000000 in
theorem l04Low_one (w : World) (s : Bool) {A : Option Addr} {n c : Nat} {N : Nat} {B : Option Addr} {m d : Nat} {D : Nat} (ha : IsN w A n c N) (hb : IsN w B m d D) (hn : n ≤ 1048570) (hm : m ≤ 1048570) (h1 : D = 1) :
    Calls Tryz.prog 230 #[.bool s, .slice A n c, .slice B m d] w fun e w' => ∃ s' A' n' c' B' m' d', e = .returned (.agg #[.bool s', .slice A' n' c', .slice B' m' d']) ∧ OwR 3 w.heap.size w' s' A' n' c' B' m' d' (lowS s N D) ∧ Bl w w' := by
  have hm0 : 0 < m := by rw [← hb.lenN]; exact dig_len_pos.2 (by omega)
  have hne : ((m : Int) == 0) = false := by simp; omega
  have hval := lowS_val (s := s) (N := N) (D := D) (by omega)
  rw [h1, Nat.gcd_one_right, Nat.div_one, Nat.div_one] at hval
  subst h1
  rw [ha.lenN, hb.lenN] at hval
  have hval := Lib.hid hval; rename_i h_; clear h_
  go_enter Tryz.func230, Tryz.ntmps230
  go_wp2_with fail
  refine calls_gen (fun W => Bl w W ∧ Wk 3 29 w.heap.size W) ⟨slc, bts⟩ ?_
  rintro W ⟨hbW, hr⟩
  refine (l02Trim_num _ (RdI.bl ha hbW)).mono ?_
  rintro e w1 ⟨rfl, q1, rfl⟩
  go_wp2_with fail
  refine (l02Trim_num _ (RdI.bl hb (hbW.drewN q1))).mono ?_
  rintro e w1 ⟨rfl, q2, rfl⟩
  have hbW := (hbW.drewN q1).drewN q2
  have hr := (hr.drewN q1).drewN q2
  generalize (W.drewN q1).drewN q2 = W at *
  go_wp2_with fail
  refine (l04One_yes _ (RdI.bl hb hbW)).mono ?_
  rintro e w1 ⟨rfl, q3, rfl⟩
  have hbW := hbW.drewN q3
  have hr := hr.drewN q3
  generalize W.drewN q3 = W at *
  have hval := hval.out
  by_cases hn24 : n ≤ 24
  · have hi : decide ((24 : Int) < (n : Int)) = false := by simp; omega
    by_cases hm24 : m ≤ 24
    · have hj : decide ((24 : Int) < (m : Int)) = false := by simp; omega
      rw [if_pos ⟨hn24, hm24⟩] at hval
      have hfin := Lib.hid hval; clear hval
      go_wp2_with fail
      have hz := hr.lt
      have hl1 : Hid ((([] : List Int) ++ ints (dig (1))).length = m) := by have := RdI.len (RdI.bl hb hbW); unfold Hid; simpa using this
      refine (l03Make_any _ s (RdI.bl ha hbW) (by omega)).mono ?_
      rintro e w8 ⟨s8, A8, n8, c8, rfl, hs8, hO8, hb8⟩
      have hO8 := hO8.mono (show w.heap.size + 1 ≤ W.heap.size from hz)
      have hr8 := hr.bl hb8
      have hb9 := hbW.next hb8
      have hz8 : w.heap.size + 1 ≤ w8.heap.size := hr8.lt
      go_wp2_with (at_builtin; go_must (refine wpList_append_x (w0 := w8) info_int Tryz.underlying25 rfl (.tmp 51) (.tmp 52) rfl _ [] rfl (OwL.empty w8 (Nat.le_refl _) (by simp)) ((Bl.refl w8).alloc _) B m d rfl (ints (dig (1))) (RdI.alloc (RdI.bl (RdI.bl hb hbW) hb8) _) (by simp) (by omega) ?_); intro v1 w9 hown2 hb10; obtain ⟨A9, c9, hv1, ho1⟩ := hown2.own (by rw [hl1.out]; omega); rw [hl1.out] at hv1 ho1; subst hv1; obtain ⟨⟨x0, x1, x2⟩, hf0, hf1, hf2⟩ := (hr8.bl hb10).out3)
      have hg := (hr8.bl hb10).lt
      have hR : OwR 3 (w.heap.size + 1) w9 s8 A8 n8 c8 A9 m c9 ⟨s8, ints (dig (N)), ints (dig (1))⟩ := OwR.two hO8 ho1 hb10 hz8
      rw [hs8.out, ← hfin.out] at hR
      have hs8' := hs8.out
      have hbz := hb9.next hb10
      exact bodyPost_ret (v := .agg #[.bool s8, .slice A8 n8 c8, .slice A9 m c9]) (by simp [results, Tryz.results230, go_sem, x0, x1, x2]) rfl ⟨_, _, _, _, _, _, _, rfl, by rw [hs8']; exact (((hR.far (by simp) _).far (by simp) _).far (by simp) _).mono (by omega), slc⟩
    · have hj : decide ((24 : Int) < (m : Int)) = true := by simp; omega
      rw [if_neg (fun hh => hm24 hh.2)] at hval
      have hfin := Lib.hid hval; clear hval
      obtain ⟨⟨x0, x1, x2⟩, hf0, hf1, hf2⟩ := hr.out3
      have hg := hr.lt
      go_wp2_with fail
      exact bodyPost_ret (v := .agg #[.bool false, .slice none 0 0, .slice none 0 0]) (by simp [results, Tryz.results230, go_sem, x0, x1, x2]) rfl ⟨_, _, _, _, _, _, _, rfl, by rw [hfin.out]; exact OwR.zero _ _ _, slc⟩
  · have hi : decide ((24 : Int) < (n : Int)) = true := by simp; omega
    rw [if_neg (fun hh => hn24 hh.1)] at hval
    have hfin := Lib.hid hval; clear hval
    obtain ⟨⟨x0, x1, x2⟩, hf0, hf1, hf2⟩ := hr.out3
    have hg := hr.lt
    go_wp2_with fail
    exact bodyPost_ret (v := .agg #[.bool false, .slice none 0 0, .slice none 0 0]) (by simp [results, Tryz.results230, go_sem, x0, x1, x2]) rfl ⟨_, _, _, _, _, _, _, rfl, by rw [hfin.out]; exact OwR.zero _ _ _, slc⟩

set_option maxRecDepth 100000 in
set_option maxHeartbeats 8000000 in
theorem l04Low_prime (w : World) (s : Bool) {A : Option Addr} {n c : Nat} {N : Nat} {B : Option Addr} {m d : Nat} {D : Nat} (ha : IsN w A n c N) (hb : IsN w B m d D) (hn : n ≤ 1048570) (hm : m ≤ 1048570) (h0 : 0 < D) (h1 : D ≠ 1) (hg1 : Nat.gcd N D = 1) :
    Calls Tryz.prog 230 #[.bool s, .slice A n c, .slice B m d] w fun e w' => ∃ s' A' n' c' B' m' d', e = .returned (.agg #[.bool s', .slice A' n' c', .slice B' m' d']) ∧ OwR 3 w.heap.size w' s' A' n' c' B' m' d' (lowS s N D) ∧ Bl w w' := by
  have hm0 : 0 < m := by rw [← hb.lenN]; exact dig_len_pos.2 h0
  have hne : ((m : Int) == 0) = false := by simp; omega
  have hval := lowS_val (s := s) (N := N) (D := D) h0
  rw [hg1, Nat.div_one, Nat.div_one, ha.lenN, hb.lenN] at hval
  have hval := Lib.hid hval; rename_i h_; clear h_
  have h1 := Lib.hid h1; rename_i h_; clear h_
  have hg1 := Lib.hid hg1; rename_i h_; clear h_
  go_enter Tryz.func230, Tryz.ntmps230
  go_wp2_with fail
  refine calls_gen (fun W => Bl w W ∧ Wk 3 29 w.heap.size W) ⟨slc, bts⟩ ?_
  rintro W ⟨hbW, hr⟩
  refine (l02Trim_num _ (RdI.bl ha hbW)).mono ?_
  rintro e w1 ⟨rfl, q1, rfl⟩
  go_wp2_with fail
  refine (l02Trim_num _ (RdI.bl hb (hbW.drewN q1))).mono ?_
  rintro e w1 ⟨rfl, q2, rfl⟩
  have hbW := (hbW.drewN q1).drewN q2
  have hr := (hr.drewN q1).drewN q2
  generalize (W.drewN q1).drewN q2 = W at *
  go_wp2_with fail
  refine (l04One_no _ (RdI.bl hb hbW) h1.out).mono ?_
  rintro e w1 ⟨rfl, q3, rfl⟩
  have hbW := hbW.drewN q3
  have hr := hr.drewN q3
  generalize W.drewN q3 = W at *
  go_wp2_with fail
  refine (l02Gcd_any _ (RdI.bl ha hbW) (RdI.bl hb hbW) hn hm).mono ?_
  rintro e w3 ⟨A3, n3, c3, rfl, hG, hb3⟩
  rw [hg1.out] at hG
  have hbW := hbW.next hb3
  have hr := hr.bl hb3
  clear hb3
  obtain ⟨W, rfl⟩ : ∃ W, W = w3 := ⟨_, rfl⟩
  go_wp2_with fail
  refine (l04One_yes _ hG.rd).mono ?_
  rintro e w1 ⟨rfl, q3, rfl⟩
  have hbW := hbW.drewN q3
  have hr := hr.drewN q3
  have hG := hG.q ⟨q3, rfl⟩
  generalize W.drewN q3 = W at *
  have hval := hval.out
  by_cases hn24 : n ≤ 24
  · have hi : decide ((24 : Int) < (n : Int)) = false := by simp; omega
    by_cases hm24 : m ≤ 24
    · have hj : decide ((24 : Int) < (m : Int)) = false := by simp; omega
      rw [if_pos ⟨hn24, hm24⟩] at hval
      have hfin := Lib.hid hval; clear hval
      go_wp2_with fail
      have hz := hr.lt
      have hl1 : Hid ((([] : List Int) ++ ints (dig (D))).length = m) := by have := RdI.len (RdI.bl hb hbW); unfold Hid; simpa using this
      refine (l03Make_any _ s (RdI.bl ha hbW) (by omega)).mono ?_
      rintro e w8 ⟨s8, A8, n8, c8, rfl, hs8, hO8, hb8⟩
      have hO8 := hO8.mono (show w.heap.size + 1 ≤ W.heap.size from hz)
      have hr8 := hr.bl hb8
      have hb9 := hbW.next hb8
      have hz8 : w.heap.size + 1 ≤ w8.heap.size := hr8.lt
      go_wp2_with (at_builtin; go_must (refine wpList_append_x (w0 := w8) info_int Tryz.underlying25 rfl (.tmp 51) (.tmp 52) rfl _ [] rfl (OwL.empty w8 (Nat.le_refl _) (by simp)) ((Bl.refl w8).alloc _) B m d rfl (ints (dig (D))) (RdI.alloc (RdI.bl (RdI.bl hb hbW) hb8) _) (by simp) (by omega) ?_); intro v1 w9 hown2 hb10; obtain ⟨A9, c9, hv1, ho1⟩ := hown2.own (by rw [hl1.out]; omega); rw [hl1.out] at hv1 ho1; subst hv1; obtain ⟨⟨x0, x1, x2⟩, hf0, hf1, hf2⟩ := (hr8.bl hb10).out3)
      have hg := (hr8.bl hb10).lt
      have hR : OwR 3 (w.heap.size + 1) w9 s8 A8 n8 c8 A9 m c9 ⟨s8, ints (dig (N)), ints (dig (D))⟩ := OwR.two hO8 ho1 hb10 hz8
      rw [hs8.out, ← hfin.out] at hR
      have hs8' := hs8.out
      have hbz := hb9.next hb10
      exact bodyPost_ret (v := .agg #[.bool s8, .slice A8 n8 c8, .slice A9 m c9]) (by simp [results, Tryz.results230, go_sem, x0, x1, x2]) rfl ⟨_, _, _, _, _, _, _, rfl, by rw [hs8']; exact (((hR.far (by simp) _).far (by simp) _).far (by simp) _).mono (by omega), slc⟩
    · have hj : decide ((24 : Int) < (m : Int)) = true := by simp; omega
      rw [if_neg (fun hh => hm24 hh.2)] at hval
      have hfin := Lib.hid hval; clear hval
      obtain ⟨⟨x0, x1, x2⟩, hf0, hf1, hf2⟩ := hr.out3
      have hg := hr.lt
      go_wp2_with fail
      exact bodyPost_ret (v := .agg #[.bool false, .slice none 0 0, .slice none 0 0]) (by simp [results, Tryz.results230, go_sem, x0, x1, x2]) rfl ⟨_, _, _, _, _, _, _, rfl, by rw [hfin.out]; exact OwR.zero _ _ _, slc⟩
  · have hi : decide ((24 : Int) < (n : Int)) = true := by simp; omega
    rw [if_neg (fun hh => hn24 hh.1)] at hval
    have hfin := Lib.hid hval; clear hval
    obtain ⟨⟨x0, x1, x2⟩, hf0, hf1, hf2⟩ := hr.out3
    have hg := hr.lt
    go_wp2_with fail
    exact bodyPost_ret (v := .agg #[.bool false, .slice none 0 0, .slice none 0 0]) (by simp [results, Tryz.results230, go_sem, x0, x1, x2]) rfl ⟨_, _, _, _, _, _, _, rfl, by rw [hfin.out]; exact OwR.zero _ _ _, slc⟩

set_option maxRecDepth 100000 in
set_option maxHeartbeats 8000000 in
theorem l04Low_more (w : World) (s : Bool) {A : Option Addr} {n c : Nat} {N : Nat} {B : Option Addr} {m d : Nat} {D : Nat} (ha : IsN w A n c N) (hb : IsN w B m d D) (hn : n ≤ 1048570) (hm : m ≤ 1048570) (h0 : 0 < D) (h1 : D ≠ 1) (hg1 : Nat.gcd N D ≠ 1) :
    Calls Tryz.prog 230 #[.bool s, .slice A n c, .slice B m d] w fun e w' => ∃ s' A' n' c' B' m' d', e = .returned (.agg #[.bool s', .slice A' n' c', .slice B' m' d']) ∧ OwR 3 w.heap.size w' s' A' n' c' B' m' d' (lowS s N D) ∧ Bl w w' := by
  have hm0 : 0 < m := by rw [← hb.lenN]; exact dig_len_pos.2 h0
  have hne : ((m : Int) == 0) = false := by simp; omega
  have hval := lowS_val (s := s) (N := N) (D := D) h0
  have hg0 := gcd_pos_den (n := N) h0
  have hgl := dig_len_mono (Nat.le_of_dvd h0 (Nat.gcd_dvd_right N D))
  rw [hb.lenN] at hgl
  generalize hgd : Nat.gcd N D = g at *
  have hval := Lib.hid hval; rename_i h_; clear h_
  have h1 := Lib.hid h1; rename_i h_; clear h_
  have hg1 := Lib.hid hg1; rename_i h_; clear h_
  have hgd := Lib.hid hgd; rename_i h_; clear h_
  go_enter Tryz.func230, Tryz.ntmps230
  go_wp2_with fail
  refine calls_gen (fun W => Bl w W ∧ Wk 3 29 w.heap.size W) ⟨slc, bts⟩ ?_
  rintro W ⟨hbW, hr⟩
  refine (l02Trim_num _ (RdI.bl ha hbW)).mono ?_
  rintro e w1 ⟨rfl, q1, rfl⟩
  go_wp2_with fail
  refine (l02Trim_num _ (RdI.bl hb (hbW.drewN q1))).mono ?_
  rintro e w1 ⟨rfl, q2, rfl⟩
  have hbW := (hbW.drewN q1).drewN q2
  have hr := (hr.drewN q1).drewN q2
  generalize (W.drewN q1).drewN q2 = W at *
  go_wp2_with fail
  refine (l04One_no _ (RdI.bl hb hbW) h1.out).mono ?_
  rintro e w1 ⟨rfl, q3, rfl⟩
  have hbW := hbW.drewN q3
  have hr := hr.drewN q3
  generalize W.drewN q3 = W at *
  go_wp2_with fail
  refine (l02Gcd_any _ (RdI.bl ha hbW) (RdI.bl hb hbW) hn hm).mono ?_
  rintro e w3 ⟨A3, n3, c3, rfl, hG, hb3⟩
  rw [hgd.out] at hG
  have hn3 : n3 ≤ 1048570 := by rw [hG.rd.lenN] at hgl; omega
  have hbW := hbW.next hb3
  have hr := hr.bl hb3
  clear hb3
  obtain ⟨W, rfl⟩ : ∃ W, W = w3 := ⟨_, rfl⟩
  go_wp2_with fail
  refine (l04One_no _ hG.rd hg1.out).mono ?_
  rintro e w1 ⟨rfl, q3, rfl⟩
  have hbW := hbW.drewN q3
  have hr := hr.drewN q3
  have hG := hG.rd.drewN q3
  generalize W.drewN q3 = W at *
  go_wp2_with fail
  refine (l02Div_any _ (RdI.bl ha hbW) hG hn hn3 hg0).mono ?_
  rintro e w4 ⟨A4, n4, c4, A5, n5, c5, rfl, hQ, _, hb4⟩
  have hbW := hbW.next hb4
  have hr := hr.bl hb4
  have hG := hG.bl hb4
  have hQ := hQ.rd
  clear hb4
  obtain ⟨W, rfl⟩ : ∃ W, W = w4 := ⟨_, rfl⟩
  go_wp2_with fail
  refine (l02Div_any _ (RdI.bl hb hbW) hG hm hn3 hg0).mono ?_
  rintro e w6 ⟨A6, n6, c6, A7, n7, c7, rfl, hQ2, _, hb6⟩
  have hbW := hbW.next hb6
  have hr := hr.bl hb6
  have hQ := hQ.bl hb6
  have hQ2 := hQ2.rd
  clear hb6 hG
  have hsm4 := hQ.small
  have hsm6 := hQ2.small
  have hval := hval.out
  rw [hQ.lenN, hQ2.lenN] at hval
  obtain ⟨W, rfl⟩ : ∃ W, W = w6 := ⟨_, rfl⟩
  by_cases hn24 : n4 ≤ 24
  · have hi : decide ((24 : Int) < (n4 : Int)) = false := by simp; omega
    by_cases hm24 : n6 ≤ 24
    · have hj : decide ((24 : Int) < (n6 : Int)) = false := by simp; omega
      rw [if_pos ⟨hn24, hm24⟩] at hval
      have hfin := Lib.hid hval; clear hval
      go_wp2_with fail
      have hz := hr.lt
      have hl1 : Hid ((([] : List Int) ++ ints (dig (D / g))).length = n6) := by have := RdI.len hQ2; unfold Hid; simpa using this
      refine (l03Make_any _ s hQ (by omega)).mono ?_
      rintro e w8 ⟨s8, A8, n8, c8, rfl, hs8, hO8, hb8⟩
      have hO8 := hO8.mono (show w.heap.size + 1 ≤ W.heap.size from hz)
      have hr8 := hr.bl hb8
      have hb9 := hbW.next hb8
      have hz8 : w.heap.size + 1 ≤ w8.heap.size := hr8.lt
      go_wp2_with (at_builtin; go_must (refine wpList_append_x (w0 := w8) info_int Tryz.underlying25 rfl (.tmp 51) (.tmp 52) rfl _ [] rfl (OwL.empty w8 (Nat.le_refl _) (by simp)) ((Bl.refl w8).alloc _) A6 n6 c6 rfl (ints (dig (D / g))) (RdI.alloc (RdI.bl hQ2 hb8) _) (by simp) (by omega) ?_); intro v1 w9 hown2 hb10; obtain ⟨A9, c9, hv1, ho1⟩ := hown2.own (by rw [hl1.out]; omega); rw [hl1.out] at hv1 ho1; subst hv1; obtain ⟨⟨x0, x1, x2⟩, hf0, hf1, hf2⟩ := (hr8.bl hb10).out3)
      have hg := (hr8.bl hb10).lt
      have hR : OwR 3 (w.heap.size + 1) w9 s8 A8 n8 c8 A9 n6 c9 ⟨s8, ints (dig (N / g)), ints (dig (D / g))⟩ := OwR.two hO8 ho1 hb10 hz8
      rw [hs8.out, ← hfin.out] at hR
      have hs8' := hs8.out
      have hbz := hb9.next hb10
      exact bodyPost_ret (v := .agg #[.bool s8, .slice A8 n8 c8, .slice A9 n6 c9]) (by simp [results, Tryz.results230, go_sem, x0, x1, x2]) rfl ⟨_, _, _, _, _, _, _, rfl, by rw [hs8']; exact (((hR.far (by simp) _).far (by simp) _).far (by simp) _).mono (by omega), slc⟩
    · have hj : decide ((24 : Int) < (n6 : Int)) = true := by simp; omega
      rw [if_neg (fun hh => hm24 hh.2)] at hval
      have hfin := Lib.hid hval; clear hval
      obtain ⟨⟨x0, x1, x2⟩, hf0, hf1, hf2⟩ := hr.out3
      have hg := hr.lt
      go_wp2_with fail
      exact bodyPost_ret (v := .agg #[.bool false, .slice none 0 0, .slice none 0 0]) (by simp [results, Tryz.results230, go_sem, x0, x1, x2]) rfl ⟨_, _, _, _, _, _, _, rfl, by rw [hfin.out]; exact OwR.zero _ _ _, slc⟩
  · have hi : decide ((24 : Int) < (n4 : Int)) = true := by simp; omega
    rw [if_neg (fun hh => hn24 hh.1)] at hval
    have hfin := Lib.hid hval; clear hval
    obtain ⟨⟨x0, x1, x2⟩, hf0, hf1, hf2⟩ := hr.out3
    have hg := hr.lt
    go_wp2_with fail
    exact bodyPost_ret (v := .agg #[.bool false, .slice none 0 0, .slice none 0 0]) (by simp [results, Tryz.results230, go_sem, x0, x1, x2]) rfl ⟨_, _, _, _, _, _, _, rfl, by rw [hfin.out]; exact OwR.zero _ _ _, slc⟩

theorem l04Low_any (w : World) (s : Bool) {A : Option Addr} {n c : Nat} {N : Nat} {B : Option Addr} {m d : Nat} {D : Nat} (ha : IsN w A n c N) (hb : IsN w B m d D) (hn : n ≤ 1048570) (hm : m ≤ 1048570) :
    Calls Tryz.prog 230 #[.bool s, .slice A n c, .slice B m d] w fun e w' => ∃ s' A' n' c' B' m' d', e = .returned (.agg #[.bool s', .slice A' n' c', .slice B' m' d']) ∧ OwR 3 w.heap.size w' s' A' n' c' B' m' d' (lowS s N D) ∧ Bl w w' := by
  rcases Nat.eq_zero_or_pos m with h0 | h0
  · exact l04Low_zero w s ha hb hn hm h0
  · have hD : 0 < D := dig_len_pos.1 (by rw [hb.lenN]; exact h0)
    by_cases h1 : D = 1
    · exact l04Low_one w s ha hb hn hm h1
    · by_cases hg : Nat.gcd N D = 1
      · exact l04Low_prime w s ha hb hn hm hD h1 hg
      · exact l04Low_more w s ha hb hn hm hD h1 hg
end

section
open Go.RowKit

section
variable (w : World) {s : Bool} {A : Option Addr} {n c : Nat} {B : Option Addr} {m d : Nat} {r : RatD}
end

theorem OwI.grown {T : TypeId} {b0 : Nat} {w w' : World} {A : Option Addr} {n c : Nat} {l : List Int} {row : Option Nat} (h : OwI T b0 w A n c l) (hg : w.grownBy w' row) (hr : ∀ k, row = some k → k < b0) : OwI T b0 w' A n c l := by
  obtain ⟨bs, h1, hf⟩ := FtI.of_own h
  have h2 : FtI T w' A n c l bs := h1.keep hg.size (fun b hb => hg.block b (hf.2 b hb).2 (by intro e; have := hr b e.symm; have := (hf.2 b hb).1; omega))
  refine ⟨h2.1, ?_⟩
  rcases h2.2 with ⟨h0, _⟩ | ⟨g, cs, _, e, hh, hn, e2⟩
  · exact .inl h0
  · exact .inr ⟨g, cs, e, (hf.2 g (by rw [e2]; simp)).1, hh, hn⟩
end

section
open Go.RowKit
end

section
open Go.RowKit

theorem lowS_self {x : Int} {s : Bool} {D : Nat} (hD : 0 < D) (hs : s = decide (x < 0)) : lowS s x.natAbs D = ofFrac x D := by
  unfold lowS
  rw [if_neg (by omega)]
  congr 1
  unfold sx
  rw [hs]
  by_cases h : x < 0
  · simp [h]; omega
  · simp [h]; omega
end

section
open Go.RowKit
end

section
open Go.RowKit
end

section
open Go.RowKit
end

section
open Go.RowKit

theorem cell_al {w : World} {o : Obj} {a : Addr} (h : a.block < w.heap.size) : (w.alloc o).cell? a = w.cell? a := Bl.cellOf ((Bl.refl w).alloc o) h
theorem okB_of {w : World} {s : Bool} {A : Option Addr} {n c : Nat} {x : Int} (h : IsB w s A n c x) (hn : n ≤ 60) : okB s (ints (dig x.natAbs)) = true := by
  refine okB_yes ⟨⟨_, rfl, by rw [h.len]; exact hn⟩, fun hs => ?_⟩
  rw [ints_len]
  rw [h.1] at hs
  have : x < 0 := by simpa using hs
  exact dig_len_pos.2 (by omega)
set_option maxRecDepth 100000 in
set_option maxHeartbeats 8000000 in
theorem RatMake_any (w : World) {s : Bool} {A : Option Addr} {n c : Nat} {x : Int} {t : Bool} {B : Option Addr} {m d : Nat} {y : Int} (h : IsB w s A n c x) (k : IsB w t B m d y) (hn : n ≤ 60) (hm : m ≤ 60) (hy : y ≠ 0) :
    Calls Tryz.prog 123 #[.agg #[.bool s, .slice A n c], .agg #[.bool t, .slice B m d]] w fun e w' => ∃ s1 A1 n1 c1 B1 m1 d1, e = .returned (.agg #[.bool s1, .slice A1 n1 c1, .slice B1 m1 d1]) ∧ OwR 3 w.heap.size w' s1 A1 n1 c1 B1 m1 d1 (lowS (s != t) x.natAbs y.natAbs) ∧ Bl w w' := by
  have hB := okB_of h hn
  have hB' := okB_of k hm
  have hy0 : 0 < y.natAbs := by omega
  have hm0 : 0 < m := by rw [← k.len]; exact dig_len_pos.2 hy0
  have hne : ((m : Int) == 0) = false := by simp; omega
  have hlow := Lib.hid (show lowS (s != t) x.natAbs y.natAbs = ofFrac (sx (s != t) x.natAbs) y.natAbs by unfold lowS; rw [if_neg (by omega)])
  clear hy
  go_enter Tryz.func123, Tryz.ntmps123
  go_wp2_with fail
  refine calls_gen (fun W => Bl w W ∧ Blk W (w.heap.size) 27 #[.bool s, .slice A n c] ∧ Blk W (w.heap.size + 1) 27 #[.bool t, .slice B m d] ∧ Wk 3 29 (w.heap.size + 1 + 1) W) ⟨slc, bts, bts, bts⟩ ?_
  rintro W ⟨hbW, hx, hx', hr⟩
  refine (BigIntOk_any _ (RdI.bl h.mg hbW)).mono ?_
  rw [hB]
  rintro e w1 ⟨rfl, hb1⟩
  have hx := hx.bl hb1
  have hx' := hx'.bl hb1
  have hr := hr.bl hb1
  have hbW := hbW.next hb1
  clear hb1
  obtain ⟨i0, i1⟩ := bx2 hx
  obtain ⟨j0, j1⟩ := bx2 hx'
  go_wp2_with fail
  refine (BigIntOk_any _ (RdI.bl k.mg hbW)).mono ?_
  rw [hB']
  rintro e w2 ⟨rfl, hb2⟩
  have hx := hx.bl hb2
  have hx' := hx'.bl hb2
  have hr := hr.bl hb2
  have hbW := hbW.next hb2
  clear hb2
  obtain ⟨i0, i1⟩ := bx2 hx
  obtain ⟨j0, j1⟩ := bx2 hx'
  have hz2 := hr.lt
  go_wp2_with fail
  go_region_held3 (fun w' => (w'.cell? ⟨w.heap.size, 0, none⟩ = some (.bool s) ∧ w'.cell? ⟨w.heap.size, 1, none⟩ = some (.slice A n c)) ∧ (w'.cell? ⟨w.heap.size + 1, 0, none⟩ = some (.bool t) ∧ w'.cell? ⟨w.heap.size + 1, 1, none⟩ = some (.slice B m d)) ∧ (w'.cell? ⟨w.heap.size + 1 + 1, 0, none⟩ = some (cellD w' (w.heap.size + 1 + 1) 0) ∧ w'.cell? ⟨w.heap.size + 1 + 1, 1, none⟩ = some (cellD w' (w.heap.size + 1 + 1) 1) ∧ w'.cell? ⟨w.heap.size + 1 + 1, 2, none⟩ = some (cellD w' (w.heap.size + 1 + 1) 2)) ∧ w'.frozen? ⟨w.heap.size + 1 + 1, 0, none⟩ = false ∧ w'.frozen? ⟨w.heap.size + 1 + 1, 1, none⟩ = false ∧ w'.frozen? ⟨w.heap.size + 1 + 1, 2, none⟩ = false) (first | exact ⟨bx2 (T := 27) bts, bx2 (T := 27) bts, Wk.out3 (T := 29) bts⟩) (first | (go_at_call 158; (with_reducible refine (Clone_any _ (RdI.bl h.mg slc) (by omega)).mono ?_); rintro e w3 ⟨A3, n3, c3, rfl, hO3, hb3⟩; (have hO3 : OwI 3 (w.heap.size + 1 + 1 + 1) w3 A3 n3 c3 _ := hO3.mono hz2)) | (go_at_call 171; refine (signed_any _ _ hO3.rd).mono ?_; rintro e w4 ⟨s4, rfl, hs4, hb4⟩) | (go_at_call 158; (with_reducible refine (Clone_any _ (RdI.bl k.mg slc) (by omega)).mono ?_); rintro e w5 ⟨A5, n5, c5, rfl, hO5, hb5⟩; (have hz4 : w.heap.size + 1 + 1 + 1 ≤ w4.heap.size := Wk.lt (k := 3) (T := 29) bts); (have hR5 : OwR 3 (w.heap.size + 1 + 1 + 1) w5 s4 A3 n3 c3 A5 n5 c5 (raw (sx (s != t) x.natAbs) y.natAbs) := OwR.two' (by show OwI _ _ _ _ _ _ (ints (dig (sx (s != t) x.natAbs).natAbs)); rw [sx_abs]; exact hO3.bl hb4) hO5 hb5 hz4 (by rw [hs4.out]; exact (sx_neg _ _).symm)); (have hz5 : w.heap.size + 1 + 1 + 1 ≤ w5.heap.size := Wk.lt (k := 3) (T := 29) bts); (have hl3 : n3 ≤ 60 := by rw [← hO3.rd.lenN, h.len]; exact hn); (have hl5 : n5 ≤ 60 := by rw [← hO5.rd.lenN, k.len]; exact hm)) | (go_at_call 120; refine (reduced_any _ hR5 hz5 (by omega) (by omega) hy0).mono ?_; rintro e w6 ⟨s1, A1, n1, c1, B1, m1, d1, rfl, hR, hb6⟩))
  have hr := (show Wk 3 29 (w.heap.size + 1 + 1) w6 from bts)
  have hbW : Bl w w6 := slc
  rw [← hlow.out] at hR
  obtain ⟨v0, x0⟩ := hr.val_ (i := 0) (by omega)
  obtain ⟨v1, x1⟩ := hr.val_ (i := 1) (by omega)
  obtain ⟨v2, x2⟩ := hr.val_ (i := 2) (by omega)
  have hg := hr.lt
  obtain ⟨cs4, hB4, hc4⟩ := hr
  have hf0 := hB4.frozen 0
  have hf1 := hB4.frozen 1
  have hf2 := hB4.frozen 2
  go_wp2_with fail
  exact bodyPost_ret (v := .agg #[.bool s1, .slice A1 n1 c1, .slice B1 m1 d1]) (by simp [results, Tryz.results123, go_sem, x0, x1, x2]) rfl ⟨_, _, _, _, _, _, _, rfl, (((hR.far (by simp) _).far (by simp) _).far (by simp) _).mono (by omega), slc⟩

theorem int_len {x : Int} (h1 : -9223372036854775808 ≤ x) (h2 : x ≤ 9223372036854775807) : (dig x.natAbs).length ≤ 3 := dig_len_le.2 (by rw [Bs_eq]; omega)
set_option maxRecDepth 100000 in
set_option maxHeartbeats 4000000 in
theorem RatOf_any (w : World) (x y : Int) (h1 : -9223372036854775808 ≤ x) (h2 : x ≤ 9223372036854775807) (g1 : 0 < y) (g2 : y ≤ 9223372036854775807) :
    Calls Tryz.prog 50 #[.int .i64 x, .int .i64 y] w fun e w' => ∃ s1 A1 n1 c1 B1 m1 d1, e = .returned (.agg #[.bool s1, .slice A1 n1 c1, .slice B1 m1 d1]) ∧ OwR 3 w.heap.size w' s1 A1 n1 c1 B1 m1 d1 (ofFrac x y.natAbs) ∧ Bl w w' := by
  have hv := Lib.hid (show lowS (decide (x < 0) != decide (y < 0)) x.natAbs y.natAbs = ofFrac x y.natAbs by
    rw [decide_eq_false (show ¬ y < 0 by omega), Bool.bne_false]
    exact lowS_self (by omega) rfl)
  have hlx := int_len h1 h2
  have hly := int_len (x := y) (by omega) g2
  go_enter Tryz.func50, Tryz.ntmps50
  go_wp2_with fail
  refine calls_gen (fun W => Bl w W ∧ Wk 3 29 (w.heap.size) W) ⟨slc, bts⟩ ?_
  rintro W ⟨hbW, hr⟩
  refine (BigIntOf_any _ x h1 h2).mono ?_
  rintro e w1 ⟨s1, A1, n1, c1, rfl, hO1, hb1⟩
  have hl1 : n1 ≤ 3 := by rw [← hO1.len]; exact hlx
  go_wp2_with fail
  refine (BigIntOf_any _ y (by omega) g2).mono ?_
  rintro e w2 ⟨s2, A2, n2, c2, rfl, hO2, hb2⟩
  have hl2 : n2 ≤ 3 := by rw [← hO2.len]; exact hly
  have hB1 := hO1.rd.bl hb2
  have q1 := Lib.hid hB1.1
  have q2 := Lib.hid hO2.1
  go_wp2_with fail
  refine (RatMake_any _ hB1 hO2.rd (by omega) (by omega) (by omega)).mono ?_
  rintro e w3 ⟨s3, A3, n3, c3, B3, m3, d3, rfl, hR, hb3⟩
  rw [q1.out, q2.out, hv.out] at hR
  have hr2 := (hr.bl hb1).bl hb2
  have hR := hR.mono (show w.heap.size + 1 ≤ w2.heap.size from hr2.lt)
  have hr := hr2.bl hb3
  have hbW := ((hbW.next hb1).next hb2).next hb3
  obtain ⟨v0, x0⟩ := hr.val_ (i := 0) (by omega)
  obtain ⟨v1, x1⟩ := hr.val_ (i := 1) (by omega)
  obtain ⟨v2, x2⟩ := hr.val_ (i := 2) (by omega)
  have hg := hr.lt
  obtain ⟨cs4, hB4, hc4⟩ := hr
  have hf0 := hB4.frozen 0
  have hf1 := hB4.frozen 1
  have hf2 := hB4.frozen 2
  go_wp2_with fail
  exact bodyPost_ret (v := .agg #[.bool s3, .slice A3 n3 c3, .slice B3 m3 d3]) (by simp [results, Tryz.results50, go_sem, x0, x1, x2]) rfl ⟨_, _, _, _, _, _, _, rfl, (((hR.far (by simp) _).far (by simp) _).far (by simp) _).mono (by omega), slc⟩

set_option maxHeartbeats 4000000 in
theorem RatFromInt_any (w : World) (x : Int) (h1 : -9223372036854775808 ≤ x) (h2 : x ≤ 9223372036854775807) :
    Calls Tryz.prog 23 #[.int .i64 x] w fun e w' => ∃ s1 A1 n1 c1 B1 m1 d1, e = .returned (.agg #[.bool s1, .slice A1 n1 c1, .slice B1 m1 d1]) ∧ OwR 3 w.heap.size w' s1 A1 n1 c1 B1 m1 d1 (ofFrac x 1) ∧ Bl w w' := by
  go_enter Tryz.func23, Tryz.ntmps23
  go_wp2_with fail
  refine calls_gen (fun W => Bl w W ∧ Wk 3 29 (w.heap.size) W) ⟨slc, bts⟩ ?_
  rintro W ⟨hbW, hr⟩
  refine (RatOf_any _ x 1 h1 h2 (by omega) (by omega)).mono ?_
  rintro e w3 ⟨s3, A3, n3, c3, B3, m3, d3, rfl, hR, hb3⟩
  have hR : OwR 3 (w.heap.size + 1) w3 s3 A3 n3 c3 B3 m3 d3 (ofFrac x 1) := hR.mono (show w.heap.size + 1 ≤ W.heap.size from hr.lt)
  have hr := hr.bl hb3
  have hbW := hbW.next hb3
  obtain ⟨v0, x0⟩ := hr.val_ (i := 0) (by omega)
  obtain ⟨v1, x1⟩ := hr.val_ (i := 1) (by omega)
  obtain ⟨v2, x2⟩ := hr.val_ (i := 2) (by omega)
  have hg := hr.lt
  obtain ⟨cs4, hB4, hc4⟩ := hr
  have hf0 := hB4.frozen 0
  have hf1 := hB4.frozen 1
  have hf2 := hB4.frozen 2
  go_wp2_with fail
  exact bodyPost_ret (v := .agg #[.bool s3, .slice A3 n3 c3, .slice B3 m3 d3]) (by simp [results, Tryz.results23, go_sem, x0, x1, x2]) rfl ⟨_, _, _, _, _, _, _, rfl, (((hR.far (by simp) _).far (by simp) _).far (by simp) _).mono (by omega), slc⟩


set_option maxRecDepth 100000 in
set_option maxHeartbeats 4000000 in
theorem sBigIntOf_any (w : World) (x : Int) (h1 : -9223372036854775808 < x) (h2 : x ≤ 9223372036854775807) :
    Calls Tryz.prog 195 #[.int .i64 x] w fun e w' => ∃ s' A' n' c', e = .returned (.agg #[.bool s', .slice A' n' c']) ∧ OwB 3 w.heap.size w' s' A' n' c' x ∧ Bl w w' := by
  have hlx := int_len (x := x) (by omega) h2
  have hne : (x == -9223372036854775808) = false := by simp; omega
  rcases Int.lt_or_le x 0 with hx | hx
  · skip
    have hu : Hid (-x = ((x.natAbs : Nat) : Int)) := by unfold Hid; omega
    go_enter Tryz.func195, Tryz.ntmps195
    go_wp2_with fail
    refine calls_gen (fun W => Bl w W ∧ Wk 2 27 (w.heap.size) W) ⟨slc, bts⟩ ?_
    rintro W ⟨hbW, hr⟩
    rw [hu.out]
    refine (sNatOf_any _ x.natAbs (by omega)).mono ?_
    rintro e w3 ⟨A1, k1, c1, rfl, hO, hb3⟩
    have hl : k1 ≤ 60 := by rw [← hO.rd.lenN]; omega
    go_wp2_with fail
    refine (l03Make_any _ true hO.rd hl).mono ?_
    rintro e w4 ⟨s4, A4, n4, c4, rfl, hs4, hO4, hb4⟩
    have hr3 := hr.bl hb3
    have hO5 : OwB 3 (w.heap.size + 1) w4 s4 A4 n4 c4 x := ⟨by rw [hs4.out]; exact signed_neg rfl (fun _ => (decide_eq_true hx).symm), hO4.mono (show w.heap.size + 1 ≤ w3.heap.size from hr3.lt)⟩
    have hr := hr3.bl hb4
    have hbW := (hbW.next hb3).next hb4
    obtain ⟨⟨x0, x1⟩, hf0, hf1⟩ := hr.out2
    have hg := hr.lt
    go_wp2_with fail
    exact bodyPost_ret (v := .agg #[.bool s4, .slice A4 n4 c4]) (by simp [results, Tryz.results195, go_sem, x0, x1]) rfl ⟨_, _, _, _, rfl, ((hO5.far (by simp) _).far (by simp) _).mono (by omega), slc⟩
  · skip
    have hu : Hid (x = ((x.natAbs : Nat) : Int)) := by unfold Hid; omega
    go_enter Tryz.func195, Tryz.ntmps195
    go_wp2_with fail
    refine calls_gen (fun W => Bl w W ∧ Wk 2 27 (w.heap.size) W) ⟨slc, bts⟩ ?_
    rintro W ⟨hbW, hr⟩
    rw [hu.out]
    refine (sNatOf_any _ x.natAbs (by omega)).mono ?_
    rintro e w3 ⟨A1, k1, c1, rfl, hO, hb3⟩
    have hl : k1 ≤ 60 := by rw [← hO.rd.lenN]; omega
    go_wp2_with fail
    refine (l03Make_any _ false hO.rd hl).mono ?_
    rintro e w4 ⟨s4, A4, n4, c4, rfl, hs4, hO4, hb4⟩
    have hr3 := hr.bl hb3
    have hO5 : OwB 3 (w.heap.size + 1) w4 s4 A4 n4 c4 x := ⟨by rw [hs4.out]; exact signed_neg rfl (fun _ => (decide_eq_false (by omega)).symm), hO4.mono (show w.heap.size + 1 ≤ w3.heap.size from hr3.lt)⟩
    have hr := hr3.bl hb4
    have hbW := (hbW.next hb3).next hb4
    obtain ⟨⟨x0, x1⟩, hf0, hf1⟩ := hr.out2
    have hg := hr.lt
    go_wp2_with fail
    exact bodyPost_ret (v := .agg #[.bool s4, .slice A4 n4 c4]) (by simp [results, Tryz.results195, go_sem, x0, x1]) rfl ⟨_, _, _, _, rfl, ((hO5.far (by simp) _).far (by simp) _).mono (by omega), slc⟩

theorem ofFrac_int {x : Int} (h1 : -9223372036854775808 ≤ x) (h2 : x ≤ 9223372036854775807) : ofFrac x 1 = raw x 1 := by
  have hb : (dig 1).length ≤ 24 := dig_len_le.2 (by decide)
  have ha : (dig x.natAbs).length ≤ 24 := Nat.le_trans (int_len h1 h2) (by omega)
  rw [ofFrac_one (Nat.gcd_one_right _), if_pos ⟨ha, hb⟩]
end

section
open Go.RowKit

set_option maxRecDepth 100000 in
set_option maxHeartbeats 4000000 in
theorem sRatFromInt_any (w : World) (x : Int) (h1 : -9223372036854775808 < x) (h2 : x ≤ 9223372036854775807) :
    Calls Tryz.prog 192 #[.int .i64 x] w fun e w' => ∃ s1 A1 n1 c1 B1 m1 d1, e = .returned (.agg #[.bool s1, .slice A1 n1 c1, .slice B1 m1 d1]) ∧ OwR 3 w.heap.size w' s1 A1 n1 c1 B1 m1 d1 (ofFrac x 1) ∧ Bl w w' := by
  have hd : dig 1 = [1] := by rw [dig_pos (by omega), show 1 / Bs = 0 from by rw [Bs_eq], dig_zero]; rfl
  have hd := Lib.hid hd; rename_i h_; clear h_
  have hv := Lib.hid (ofFrac_int (x := x) (by omega) h2)
  go_enter Tryz.func192, Tryz.ntmps192
  go_wp2_with fail
  refine calls_gen (fun W => Bl w W ∧ Wk 3 29 (w.heap.size) W) ⟨slc, bts⟩ ?_
  rintro W ⟨hbW, hr⟩
  refine (sBigIntOf_any _ x h1 h2).mono ?_
  rintro e w3 ⟨s3, A3, n3, c3, rfl, hO3, hb3⟩
  have hr3 := hr.bl hb3
  have hbW := hbW.next hb3
  obtain ⟨⟨x0, x1, x2⟩, hf0, hf1, hf2⟩ := hr3.out3
  have hg := hr3.lt
  have hO3 := hO3.mono (show w.heap.size + 1 ≤ W.heap.size from hr.lt)
  have key : ∀ V : World, V.heap.size = w3.heap.size → OwB 3 (w.heap.size + 1) V s3 A3 n3 c3 x → OwR 3 (w.heap.size + 1) (V.alloc (.cells #[.int .i64 1] 3)) s3 A3 n3 c3 (some ⟨w3.heap.size, 0, none⟩) 1 1 (ofFrac x 1) := by
    intro V hV hO
    have hB : Ow 3 (V.alloc (.cells #[.int .i64 1] 3)) V.heap.size [1] := heap_alloc_new _ _
    have hB : OwI 3 V.heap.size (V.alloc (.cells #[.int .i64 1] 3)) (some ⟨V.heap.size, 0, none⟩) 1 1 (ints (dig 1)) := by
      rw [hd.out]
      exact hB.own (c := 1) (by decide) (Nat.le_refl _) (by decide)
    rw [hv.out, ← hV]
    exact OwR.two' hO.2 hB ((Bl.refl V).alloc _) (by rw [hV]; exact hg) hO.1
  go_wp2_with fail
  exact bodyPost_ret (v := .agg #[.bool s3, .slice A3 n3 c3, .slice (some ⟨w3.heap.size, 0, none⟩) 1 1]) (by simp [results, Tryz.results192, go_sem, x0, x1, x2, cell_al, hg]) rfl ⟨_, _, _, _, _, _, _, rfl, (key _ (by simp) (((hO3.far (by simp) _).far (by simp) _).far (by simp) _)).mono (by omega), slc⟩
end

end Go.Proofs.YtajlahjghapbkaaGreat
