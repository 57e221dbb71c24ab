import Derived.Test.YthgielbhcjpikaaGreatRows
import Derived.Test.YthgielbhcjpikaaGreatSp8
namespace Go.Proofs.YthgielbhcjpikaaGreat
open Go.RowKit

set_option maxRecDepth 100000 in
set_option maxHeartbeats 2000000 in
theorem l04Neg_any (w : World) {s : Bool} {A : Option Addr} {n c : Nat} {B : Option Addr} {m d : Nat} {x : Int} {D : Nat} (h : IsR w s A n c B m d x D) (hn : n ≤ 60) (hm : m ≤ 1048576) :
    Calls Tryz.prog 117 #[.agg #[.bool s, .slice A n c, .slice B m d]] w fun e w' => ∃ s1 A1 n1 c1 B1 m1 d1, e = .returned (.agg #[.bool s1, .slice A1 n1 c1, .slice B1 m1 d1]) ∧ IsR w' s1 A1 n1 c1 B1 m1 d1 (-x) D ∧ Bl w w' := by
  have hs := Lib.hid h.sgn
  have hl1 : Hid ((([] : List Int) ++ ints (dig D)).length = m) := by have := RdI.len h.dn; unfold Hid; simpa using this
  go_enter Tryz.func117, Tryz.ntmps117
  go_wp2_with fail
  refine wp_gen (fun W => Bl w W ∧ Blk W (w.heap.size) 32 #[.bool s, .slice A n c, .slice B m d] ∧ Wk 3 32 (w.heap.size + 1) W) ⟨slc, bts, bts⟩ ?_
  rintro W ⟨hbW, hx, hr⟩
  have hzW := hr.lt
  go_region_held3 (fun w' => (w'.cell? ⟨w.heap.size, 0, none⟩ = some (.bool s) ∧ w'.cell? ⟨w.heap.size, 1, none⟩ = some (.slice A n c) ∧ w'.cell? ⟨w.heap.size, 2, none⟩ = some (.slice B m d)) ∧ (w'.cell? ⟨w.heap.size + 1, 0, none⟩ = some (cellD w' (w.heap.size + 1) 0) ∧ w'.cell? ⟨w.heap.size + 1, 1, none⟩ = some (cellD w' (w.heap.size + 1) 1) ∧ w'.cell? ⟨w.heap.size + 1, 2, none⟩ = some (cellD w' (w.heap.size + 1) 2)) ∧ w'.frozen? ⟨w.heap.size + 1, 0, none⟩ = false ∧ w'.frozen? ⟨w.heap.size + 1, 1, none⟩ = false ∧ w'.frozen? ⟨w.heap.size + 1, 2, none⟩ = false) (first | exact ⟨bx3 (T := 32) bts, Wk.out3 (T := 32) bts⟩) (first | (go_at_call 159; refine (l03Make_any _ _ (h.num.bl slc) hn).mono ?_; rintro e w4 ⟨s1, A1, n1, c1, rfl, hs1, hO1, hb4⟩; (have hz4 : w.heap.size + 1 < w4.heap.size := Wk.lt (k := 3) (T := 32) bts)) | (refine step_append_x (w0 := w4) info_int Tryz.underlying28 rfl (.tmp 11) (.tmp 13) rfl _ [] (by rfl) (OwL.empty w4 (Nat.le_refl _) (by simp)) ((Bl.refl w4).alloc _) B m d (by rfl) (ints (dig D)) (h.dn.bl slc) (by simp) (by omega) ?_; intro v1 w5 hown hb5 hgr; obtain ⟨B1, d1, hv1, ho1⟩ := hown.own (by rw [hl1.out]; omega); rw [hl1.out] at hv1 ho1; subst hv1) | (refine step_append_x (w0 := W) info_int Tryz.underlying28 rfl (.tmp 11) (.tmp 13) rfl _ [] (by rfl) (((OwL.empty W (Nat.le_refl _) (by simp)).drew).bl hb4) (Bl.next (((Bl.refl W).alloc _).drew) hb4) B m d (by rfl) (ints (dig D)) (h.dn.bl slc) (by simp) (by omega) ?_; intro v1 w5 hown hb5 hgr; obtain ⟨B1, d1, hv1, ho1⟩ := hown.own (by rw [hl1.out]; omega); rw [hl1.out] at hv1 ho1; subst hv1))
  · have hz5 : w4.heap.size ≤ w5.heap.size := Bl.size hb5
    have hr := (show Wk 3 32 (w.heap.size + 1) w5 from bts)
    have hbW : Bl w w5 := slc
    have hO1 := (hO1.mono (show w.heap.size + 1 + 1 ≤ W.drew.heap.size from hzW)).bl hb5
    have ho1 := ho1.mono (show w.heap.size + 1 + 1 ≤ w4.heap.size from hz4)
    rw [List.nil_append] at ho1
    obtain ⟨v0, x0⟩ := hr.val_ (i := 0) (by omega)
    obtain ⟨v1, x1⟩ := hr.val_ (i := 1) (by omega)
    obtain ⟨v2, x2⟩ := hr.val_ (i := 2) (by omega)
    have hg := hr.lt
    obtain ⟨cs4, hB4, hc4⟩ := hr
    have hf0 := hB4.frozen 0
    have hf1 := hB4.frozen 1
    have hf2 := hB4.frozen 2
    go_wp2_with fail
    refine bodyPost_ret (v := .agg #[.bool s1, .slice A1 n1 c1, .slice B1 m d1]) (by simp [results, Tryz.results117, go_sem, x0, x1, x2]) rfl ⟨_, _, _, _, _, _, _, rfl, ⟨?_, ?_, ?_⟩, slc⟩
    · rw [hs1.out]
      refine signed_neg (x := -x) (by omega) fun h0 => ?_
      rw [hs.out]
      by_cases hx0 : x < 0
      · simp [hx0]; omega
      · simp [hx0]; omega
    · show RdI _ A1 n1 c1 (ints (dig (-x).natAbs))
      rw [Int.natAbs_neg]
      exact (((hO1.far (by simp) _).far (by simp) _).far (by simp) _).rd
    · exact (((ho1.far (by simp) _).far (by simp) _).far (by simp) _).rd
  · have hr := (show Wk 3 32 (w.heap.size + 1) w5 from hr.bl hb5)
    have hbW : Bl w w5 := hbW.next hb5
    have hO1 := (hO1.grown hgr (by intro k hk; injection hk with hk; subst hk; simp)).mono (show w.heap.size + 1 + 1 ≤ _ by simp; omega)
    have ho1 := ho1.mono (show w.heap.size + 1 + 1 ≤ W.heap.size from hzW)
    rw [List.nil_append] at ho1
    obtain ⟨v0, x0⟩ := hr.val_ (i := 0) (by omega)
    obtain ⟨v1, x1⟩ := hr.val_ (i := 1) (by omega)
    obtain ⟨v2, x2⟩ := hr.val_ (i := 2) (by omega)
    have hg := hr.lt
    obtain ⟨cs4, hB4, hc4⟩ := hr
    have hf0 := hB4.frozen 0
    have hf1 := hB4.frozen 1
    have hf2 := hB4.frozen 2
    go_wp2_with fail
    refine bodyPost_ret (v := .agg #[.bool s1, .slice A1 n1 c1, .slice B1 m d1]) (by simp [results, Tryz.results117, go_sem, x0, x1, x2]) rfl ⟨_, _, _, _, _, _, _, rfl, ⟨?_, ?_, ?_⟩, slc⟩
    · rw [hs1.out]
      refine signed_neg (x := -x) (by omega) fun h0 => ?_
      rw [hs.out]
      by_cases hx0 : x < 0
      · simp [hx0]; omega
      · simp [hx0]; omega
    · show RdI _ A1 n1 c1 (ints (dig (-x).natAbs))
      rw [Int.natAbs_neg]
      exact (((hO1.far (by simp) _).far (by simp) _).far (by simp) _).rd
    · exact (((ho1.far (by simp) _).far (by simp) _).far (by simp) _).rd

end Go.Proofs.YthgielbhcjpikaaGreat
