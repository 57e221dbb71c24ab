/- The law about SquareMesh, walked. -/
import Derived.Test.YtggjdgjkdmgjnaaRows
import Derived.Test.YtggjdgjkdmgjnaaSq3
import Derived.Test.YtggjdgjkdmgjnaaSq6
import Derived.Test.YtggjdgjkdmgjnaaEqM
namespace Go.Proofs.Ytggjdgjkdmgjnaa

open Go.RowKit

noncomputable def sqM (n : Int) : MeD := if 1 ≤ n ∧ n ≤ 3 then sqL n.toNat else ⟨[], []⟩
theorem gpt_sz (x y : Nat) : szP (gpt x y) ≤ 96 := by
  have h1 := len24_ofFrac (x : Int) 1
  have h2 := len24_ofFrac (y : Int) 1
  show szR (ofFrac _ _) + szR (ofFrac _ _) ≤ 96
  simp only [szR]
  omega
theorem hpt_sz (x y : Nat) : szP (hpt x y) ≤ 96 := by
  have h1 := len24_ofFrac (2 * (x : Int) + 1) 2
  have h2 := len24_ofFrac (2 * (y : Int) + 1) 2
  show szR (ofFrac _ _) + szR (ofFrac _ _) ≤ 96
  simp only [szR]
  omega
theorem mem_pix {l : List PtD} {i : Nat} (h : i < l.length) : pix l i ∈ l := by
  unfold pix
  rw [List.getD_eq_getElem?_getD, List.getElem?_eq_getElem h]
  exact List.getElem_mem h
theorem sumTo_all {l : List PtD} (h : ∀ p ∈ l, szP p ≤ 96) : ∀ k, k ≤ l.length → sumTo szP l k ≤ k * 96 := by
  intro k
  induction k with
  | zero => intro _; exact Nat.zero_le _
  | succ k ih =>
    intro hk
    have h1 := ih (by omega)
    have h2 := h _ (mem_pix (l := l) (i := k) (by omega))
    simp only [sumTo]
    omega
theorem sqP_all (a y x : Nat) : ∀ p ∈ sqP a y x, szP p ≤ 96 := by
  intro p hp
  simp only [sqP, gGrid, gRow, cGrid, cRow, List.mem_append, List.mem_flatMap, List.mem_map] at hp
  rcases hp with (⟨_, _, _, _, rfl⟩ | ⟨_, _, _, _, rfl⟩) | ⟨_, _, rfl⟩
  · exact gpt_sz _ _
  · exact hpt_sz _ _
  · exact hpt_sz _ _
theorem sqM_sz (n : Int) : szL szP (sqM n).points ≤ 1048576 := by
  unfold sqM
  split
  · rename_i h
    have e1 : (sqL n.toNat).points = sqP n.toNat n.toNat 0 := rfl
    have h1 := sumTo_all (sqP_all n.toNat n.toNat 0) _ (Nat.le_refl _)
    have h2 := sqP_len n.toNat n.toNat 0
    have h3 : ctr n.toNat n.toNat 0 ≤ 100 := by
      rcases (show n = 1 ∨ n = 2 ∨ n = 3 by omega) with rfl | rfl | rfl <;> decide
    rw [e1]
    unfold szL
    rw [h2] at h1 ⊢
    omega
  · simp [szL, sumTo]

set_option maxRecDepth 100000 in
set_option maxHeartbeats 1000000 in
theorem SquareMesh_any (w : World) (n : Int) :
    Calls Try.prog 19 #[.int .i64 n] w fun e w' => ∃ A k c B m d, e = .returned (.agg #[.slice A k c, .slice B m d]) ∧ OwMZ w.heap.size w'.heap.size w' A k c B m d (sqM n) ∧ Bl w w' := by
  by_cases hn : 1 ≤ n ∧ n ≤ 3
  · rcases (show n = 1 ∨ n = 2 ∨ n = 3 by omega) with rfl | rfl | rfl
    · exact SquareMesh_1 w
    · exact SquareMesh_2 w
    · exact SquareMesh_3 w
  · have hv := Lib.hid (show sqM n = ⟨[], []⟩ from if_neg hn)
    have hnb : (decide (1 ≤ n) && decide (n ≤ 3)) = false := by
      rw [Bool.and_eq_false_iff]
      rcases Decidable.not_and_iff_or_not.1 hn with h' | h'
      · exact .inl (decide_eq_false h')
      · exact .inr (decide_eq_false h')
    clear hn
    go_enter Try.func19, Try.ntmps19
    go_wp2_with fail
    refine (within_any _ _ _ _).mono ?_
    rw [hnb]
    clear hnb
    rintro e w1 ⟨rfl, hq1⟩
    have hb1 : Bl ((w.alloc (.cells #[.slice none 0 0, .slice none 0 0] 31)).alloc (.cells #[.slice none 0 0, .slice none 0 0] 31)) w1 := by obtain ⟨q1, rfl⟩ := hq1; exact (Bl.refl _).drewN q1
    clear hq1
    have h0 : Blk w1 w.heap.size 31 #[.slice none 0 0, .slice none 0 0] := (Blk.alloc (Blk.new w _ _) _).bl hb1
    have hm : Blk w1 (w.heap.size + 1) 31 #[.slice none 0 0, .slice none 0 0] := (Blk.newAt (by simp)).bl hb1
    have hbw : Bl w w1 := (((Bl.refl w).alloc _).alloc _).next hb1
    clear hb1
    obtain ⟨i0, i1⟩ := bx2 hm
    obtain ⟨j0, j1⟩ := bx2 h0
    have f0 := h0.frozen 0
    have f1 := h0.frozen 1
    go_wp2_with fail
    exact bodyPost_ret (v := .agg #[.slice none 0 0, .slice none 0 0]) (by simp [results, Try.results19, go_sem, j0, j1]) rfl ⟨_, _, _, _, _, _, rfl, by rw [hv.out]; exact OwMZ.nil _ _ _, Bl.set (Bl.set hbw (by simp) _) (by simp) _⟩

set_option maxRecDepth 100000 in
set_option maxHeartbeats 1000000 in
theorem sSquareMesh_any (w : World) (n : Int) :
    Calls Try.prog 18 #[.int .i64 n] w fun e w' => ∃ A k c B m d, e = .returned (.agg #[.slice A k c, .slice B m d]) ∧ OwMZ w.heap.size w'.heap.size w' A k c B m d (sqM n) ∧ Bl w w' := by
  by_cases hn : 1 ≤ n ∧ n ≤ 3
  · rcases (show n = 1 ∨ n = 2 ∨ n = 3 by omega) with rfl | rfl | rfl
    · exact sSquareMesh_1 w
    · exact sSquareMesh_2 w
    · exact sSquareMesh_3 w
  · have hv := Lib.hid (show sqM n = ⟨[], []⟩ from if_neg hn)
    have hnb : (decide (1 ≤ n) && decide (n ≤ 3)) = false := by
      rw [Bool.and_eq_false_iff]
      rcases Decidable.not_and_iff_or_not.1 hn with h' | h'
      · exact .inl (decide_eq_false h')
      · exact .inr (decide_eq_false h')
    clear hn
    go_enter Try.func18, Try.ntmps18
    go_wp2_with fail
    refine (l01In_any _ _ _ _).mono ?_
    rw [hnb]
    clear hnb
    rintro e w1 ⟨rfl, hq1⟩
    have hb1 : Bl ((w.alloc (.cells #[.slice none 0 0, .slice none 0 0] 31)).alloc (.cells #[.slice none 0 0, .slice none 0 0] 31)) w1 := by obtain ⟨q1, rfl⟩ := hq1; exact (Bl.refl _).drewN q1
    clear hq1
    have h0 : Blk w1 w.heap.size 31 #[.slice none 0 0, .slice none 0 0] := (Blk.alloc (Blk.new w _ _) _).bl hb1
    have hm : Blk w1 (w.heap.size + 1) 31 #[.slice none 0 0, .slice none 0 0] := (Blk.newAt (by simp)).bl hb1
    have hbw : Bl w w1 := (((Bl.refl w).alloc _).alloc _).next hb1
    clear hb1
    obtain ⟨i0, i1⟩ := bx2 hm
    obtain ⟨j0, j1⟩ := bx2 h0
    have f0 := h0.frozen 0
    have f1 := h0.frozen 1
    go_wp2_with fail
    exact bodyPost_ret (v := .agg #[.slice none 0 0, .slice none 0 0]) (by simp [results, Try.results18, go_sem, j0, j1]) rfl ⟨_, _, _, _, _, _, rfl, by rw [hv.out]; exact OwMZ.nil _ _ _, Bl.set (Bl.set hbw (by simp) _) (by simp) _⟩

theorem sSquareMesh_r (w : World) (n : Int) :
    Calls Try.prog 18 #[.int .i64 n] w fun e w' => ∃ A k c B m d, e = .returned (.agg #[.slice A k c, .slice B m d]) ∧ RdPS w' A k c (sqM n).points ∧ RdTS w' B m d (sqM n).tris ∧ Bl w w' := by
  refine (sSquareMesh_any w n).mono ?_
  rintro e w' ⟨A, k, c, B, m, d, h1, h2, h3⟩
  exact ⟨A, k, c, B, m, d, h1, h2.rdP, h2.rdT, h3⟩

set_option maxRecDepth 100000 in
set_option maxHeartbeats 4000000 in
theorem FnExactSquareMesh_any (w : World) (nn : Int) :
    Calls Try.prog 5 #[.int .i64 nn] w fun e w' => e = .returned (.bool true) ∧ Bl w w' := by
  have hsz := sqM_sz nn
  go_enter Try.func5, Try.ntmps5
  go_wp2_with fail
  refine (sSquareMesh_r _ nn).mono ?_
  rintro e w1 ⟨A1, n1, c1, B1, m1, d1, rfl, hP1, hT1, hbb⟩
  have hz0 := Bl.size hbb
  go_wp2_with fail
  refine calls_gen (fun W => Blk W w1.heap.size 31 #[.slice A1 n1 c1, .slice B1 m1 d1] ∧ Bl w1 W) ⟨Blk.new _ _ _, slc⟩ ?_
  rintro W1 ⟨hx1, hs⟩
  have hbb := hbb.next hs
  have hzw := hx1.lt
  refine (SquareMesh_any _ nn).mono ?_
  rintro e w2 ⟨A2, n2, c2, B2, m2, d2, rfl, hO2, hb2⟩
  have hx1 := hx1.bl hb2
  have hbb := hbb.next hb2
  have hs := hs.next hb2
  have hz2 := hx1.lt
  have hz3 := Bl.size hb2
  clear hb2
  obtain ⟨i0, i1⟩ := bx2 hx1
  go_wp2_with fail
  refine calls_gen (fun W => Blk W w2.heap.size 31 #[.slice A2 n2 c2, .slice B2 m2 d2] ∧ Bl w2 W) ⟨Blk.new _ _ _, slc⟩ ?_
  rintro W2 ⟨hx2, hb2⟩
  have hz4 := hx2.lt
  have hx1 := hx1.bl hb2
  have hbb := hbb.next hb2
  have hs := hs.next hb2
  have hO2 := hO2.bl hb2
  clear hb2 i0 i1
  refine (eqMesh_any _ (x := sqM nn) hO2.rdP hO2.rdT (RdPS.bl hP1 hs) (RdTS.bl hT1 hs)).mono ?_
  rintro e w3 ⟨rfl, hb3⟩
  have hx1 := hx1.bl hb3
  have hx2 := hx2.bl hb3
  have hbb := hbb.next hb3
  have hs := hs.next hb3
  have hO2 := hO2.bl hb3
  clear hb3
  have hn2 := Lib.hid hO2.1
  have hn2b := hO2.2.2.2.2.1
  have hm2b := hO2.2.2.2.2.2.1
  have hadv := adv_le hO2.1 hsz
  obtain ⟨i0, i1⟩ := bx2 hx2
  go_wp2_with fail
  refine (markMesh_x _ hO2 hsz (by omega) (by omega)).mono ?_
  rintro e w4 ⟨rfl, hA4, hB4, bs, hbs, hO4⟩
  have hx1 := hx1.ob hO4 (fun hm => by have := hbs _ hm; omega)
  have hx2 := hx2.ob hO4 (fun hm => by have := hbs _ hm; omega)
  have hbb := hbb.ob hO4 (fun b hm => by have := hbs b hm; omega)
  have hs := hs.ob hO4 (fun b hm => by have := hbs b hm; omega)
  clear hO2 hO4 hbs i0 i1
  obtain ⟨i0, i1⟩ := bx2 hx2
  go_wp2_with fail
  refine (heldMesh_any _ hA4 hB4 hn2.out hn2b hm2b hsz (by omega) (by omega)).mono ?_
  rintro e w5 ⟨rfl, hb5⟩
  have hx1 := hx1.bl hb5
  have hx2 := hx2.bl hb5
  have hbb := hbb.next hb5
  have hs := hs.next hb5
  have hA4 := RdPS.bl hA4 hb5
  have hB4 := RdTS.bl hB4 hb5
  clear hb5 i0 i1
  have hq : ¬ 1 + (sumTo adv (sqM nn).points n2 : Int) + 5 * (m2 : Int) < 0 := by omega
  go_wp2_with fail
  refine (SquareMesh_any _ nn).mono ?_
  rintro e w6 ⟨A6, n6, c6, B6, m6, d6, rfl, hO6, hb6⟩
  have hx1 := hx1.bl hb6
  have hx2 := hx2.bl hb6
  have hbb := hbb.next hb6
  have hs := hs.next hb6
  have hA4 := RdPS.bl hA4 hb6
  have hB4 := RdTS.bl hB4 hb6
  clear hb6
  have hz5 := hx1.lt
  have hz6 := hx2.lt
  obtain ⟨i0, i1⟩ := bx2 hx1
  go_wp2_with fail
  refine calls_gen (fun W => Bl w6 W) slc ?_
  intro W6 hb6
  have hx2 := hx2.bl hb6
  have hbb := hbb.next hb6
  have hs := hs.next hb6
  have hA4 := RdPS.bl hA4 hb6
  have hB4 := RdTS.bl hB4 hb6
  have hO6 := hO6.bl hb6
  clear hb6 i0 i1
  refine (eqMesh_any _ (x := sqM nn) hO6.rdP hO6.rdT (RdPS.bl hP1 hs) (RdTS.bl hT1 hs)).mono ?_
  rintro e w7 ⟨rfl, hb7⟩
  have hx2 := hx2.bl hb7
  have hbb := hbb.next hb7
  have hA4 := RdPS.bl hA4 hb7
  have hB4 := RdTS.bl hB4 hb7
  clear hb7 hO6
  obtain ⟨i0, i1⟩ := bx2 hx2
  go_wp2_with fail
  refine (heldMesh_any _ hA4 hB4 hn2.out hn2b hm2b hsz (by omega) (by omega)).mono ?_
  rintro e w8 ⟨rfl, hb8⟩
  have hbb := hbb.next hb8
  go_wp2_with fail
  go_ret
  exact ⟨rfl, hbb⟩

end Go.Proofs.Ytggjdgjkdmgjnaa
