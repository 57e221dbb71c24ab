/- The mesh of an L-shaped domain: the program's. -/
import Derived.Test.YtggjdgjkdmgjnaaRows
import Derived.Test.YtggjdgjkdmgjnaaMe0
import Derived.Test.YtggjdgjkdmgjnaaRw4
import Derived.Test.YtggjdgjkdmgjnaaHt
import Derived.Deep.Cut
import Derived.Deep.DeepCutAuto
namespace Go.Proofs.Ytggjdgjkdmgjnaa

open Go.RowKit

theorem RowG.shape {α : Type} [Inhabited α] {N : List Nat → Prop} {TP : TypeId} {size lo hi : Nat} {El : World → Array Value → Nat → α → List Nat → Prop} {w : World} {v : Value} {l : List α} (h : RowG N TP size El lo hi w v l) : ∃ A n c, v = .slice A n c := by
  obtain ⟨_, _, h1, _⟩ := h
  rcases h1.2 with ⟨rfl, _⟩ | ⟨g, cap, cur, rfl, _⟩
  · exact ⟨_, _, _, rfl⟩
  · exact ⟨_, _, _, rfl⟩
def cX : Nat → Int
  | 0 => 0
  | 1 => 1
  | 2 => 2
  | 3 => 2
  | 4 => 1
  | 5 => 1
  | 6 => 0
  | _ => 0
def cY : Nat → Int
  | 0 => 0
  | 1 => 0
  | 2 => 0
  | 3 => 1
  | 4 => 1
  | 5 => 2
  | 6 => 2
  | _ => 1
def cA : Nat → Int
  | 0 => 1
  | 1 => 7
  | 2 => 3
  | 3 => 1
  | 4 => 7
  | _ => 5
def cB : Nat → Int
  | 0 => 4
  | 1 => 0
  | 2 => 4
  | 3 => 2
  | 4 => 4
  | _ => 6
def cC : Nat → Int
  | 0 => 0
  | 1 => 4
  | 2 => 2
  | 3 => 4
  | 4 => 6
  | _ => 4
noncomputable def cPt (k : Nat) : PtD := ⟨ofFrac (cX k) 1, ofFrac (cY k) 1⟩
def cTr (k : Nat) : TriD := ⟨cA k, cB k, cC k, 0, 0⟩
noncomputable def cPts (k : Nat) : List PtD := (List.range k).map cPt
def cTrs (k : Nat) : List TriD := (List.range k).map cTr
noncomputable def cMesh : MeD := ⟨cPts 8, cTrs 6⟩
theorem cPts_len (k : Nat) : (cPts k).length = k := by simp [cPts]
theorem cTrs_len (k : Nat) : (cTrs k).length = k := by simp [cTrs]
theorem cPts_succ (k : Nat) : cPts (k + 1) = cPts k ++ [⟨ofFrac (cX k) 1, ofFrac (cY k) 1⟩] := by unfold cPts; rw [List.range_succ, List.map_append]; rfl
theorem cTrs_succ (k : Nat) : cTrs (k + 1) = cTrs k ++ [⟨cA k, cB k, cC k, 0, 0⟩] := by unfold cTrs; rw [List.range_succ, List.map_append]; rfl
theorem cXY_b (k : Nat) (h : k < 8) : -1000000 < cX k ∧ cX k ≤ 1000000 ∧ -1000000 < cY k ∧ cY k ≤ 1000000 := by
  rcases (show k = 0 ∨ k = 1 ∨ k = 2 ∨ k = 3 ∨ k = 4 ∨ k = 5 ∨ k = 6 ∨ k = 7 by omega) with rfl | rfl | rfl | rfl | rfl | rfl | rfl | rfl <;> simp [cX, cY]
theorem lit2 (k : Nat) (h : k < 8) : (#[.int .i64 0, .int .i64 0, .int .i64 1, .int .i64 0, .int .i64 2, .int .i64 0, .int .i64 2, .int .i64 1, .int .i64 1, .int .i64 1, .int .i64 1, .int .i64 2, .int .i64 0, .int .i64 2, .int .i64 0, .int .i64 1] : Array Value)[k * 2]? = some (.int .i64 (cX k)) ∧ (#[.int .i64 0, .int .i64 0, .int .i64 1, .int .i64 0, .int .i64 2, .int .i64 0, .int .i64 2, .int .i64 1, .int .i64 1, .int .i64 1, .int .i64 1, .int .i64 2, .int .i64 0, .int .i64 2, .int .i64 0, .int .i64 1] : Array Value)[k * 2 + 1]? = some (.int .i64 (cY k)) := by
  rcases (show k = 0 ∨ k = 1 ∨ k = 2 ∨ k = 3 ∨ k = 4 ∨ k = 5 ∨ k = 6 ∨ k = 7 by omega) with rfl | rfl | rfl | rfl | rfl | rfl | rfl | rfl <;> exact ⟨rfl, rfl⟩
theorem lit3 (k : Nat) (h : k < 6) : (#[.int .i64 1, .int .i64 4, .int .i64 0, .int .i64 7, .int .i64 0, .int .i64 4, .int .i64 3, .int .i64 4, .int .i64 2, .int .i64 1, .int .i64 2, .int .i64 4, .int .i64 7, .int .i64 4, .int .i64 6, .int .i64 5, .int .i64 6, .int .i64 4] : Array Value)[k * 3]? = some (.int .i64 (cA k)) ∧ (#[.int .i64 1, .int .i64 4, .int .i64 0, .int .i64 7, .int .i64 0, .int .i64 4, .int .i64 3, .int .i64 4, .int .i64 2, .int .i64 1, .int .i64 2, .int .i64 4, .int .i64 7, .int .i64 4, .int .i64 6, .int .i64 5, .int .i64 6, .int .i64 4] : Array Value)[k * 3 + 1]? = some (.int .i64 (cB k)) ∧ (#[.int .i64 1, .int .i64 4, .int .i64 0, .int .i64 7, .int .i64 0, .int .i64 4, .int .i64 3, .int .i64 4, .int .i64 2, .int .i64 1, .int .i64 2, .int .i64 4, .int .i64 7, .int .i64 4, .int .i64 6, .int .i64 5, .int .i64 6, .int .i64 4] : Array Value)[k * 3 + 2]? = some (.int .i64 (cC k)) := by
  rcases (show k = 0 ∨ k = 1 ∨ k = 2 ∨ k = 3 ∨ k = 4 ∨ k = 5 by omega) with rfl | rfl | rfl | rfl | rfl | rfl <;> exact ⟨rfl, rfl, rfl⟩

set_option maxRecDepth 100000 in
set_option maxHeartbeats 4000000 in
theorem CornerMesh_any (w : World) :
    Calls Try.prog 16 #[] w fun e w' => ∃ A n c B m d, e = .returned (.agg #[.slice A n c, .slice B m d]) ∧ OwMZ w.heap.size w'.heap.size w' A n c B m d cMesh ∧ Bl w w' := by
  go_enter Try.func16, Try.ntmps16
  go_wp2_with fail
  refine wp_gen (fun W => Blk W w.heap.size 31 #[.slice none 0 0, .slice none 0 0] ∧ Blk W (w.heap.size + 1) 31 #[.slice none 0 0, .slice none 0 0] ∧ Blk W (w.heap.size + 1 + 1) 66 #[.int .i64 0, .int .i64 0, .int .i64 1, .int .i64 0, .int .i64 2, .int .i64 0, .int .i64 2, .int .i64 1, .int .i64 1, .int .i64 1, .int .i64 1, .int .i64 2, .int .i64 0, .int .i64 2, .int .i64 0, .int .i64 1] ∧ Bl w W ∧ W.heap.size = w.heap.size + 1 + 1 + 1) ⟨by exact bts, by exact bts, by exact bts, slc, by simp⟩ ?_
  rintro W ⟨h0, hm, hl, hbw, hsz⟩
  go_loopw [17] (fun i wr => ∃ (k : Nat) (vp : Value), k ≤ 8 ∧ i = .int .i64 (k : Int) ∧ Blk wr (w.heap.size + 1) 31 #[vp, .slice none 0 0] ∧ MR (w.heap.size + 1 + 1 + 1) wr vp (.slice none 0 0) (cPts k) [] ∧ Blk wr w.heap.size 31 #[.slice none 0 0, .slice none 0 0] ∧ Blk wr (w.heap.size + 1 + 1) 66 #[.int .i64 0, .int .i64 0, .int .i64 1, .int .i64 0, .int .i64 2, .int .i64 0, .int .i64 2, .int .i64 1, .int .i64 1, .int .i64 1, .int .i64 1, .int .i64 2, .int .i64 0, .int .i64 2, .int .i64 0, .int .i64 1] ∧ Bl w wr) (fun i _ => 8 - (intOf i).toNat)
  case atStart => exact ⟨0, .slice none 0 0, by omega, rfl, hm, MR.nil _, h0, hl, hbw⟩
  case round =>
    clear h0 hm hl hbw hsz
    obtain ⟨k, vp, hk, rfl, hm, hM, h0, hl, hbw⟩ := hrel
    by_cases hk8 : k < 8
    · skip
      have hki : (k : Int) < 8 := by omega
      have hcb := cXY_b k hk8
      obtain ⟨g0, g1⟩ := lit2 k hk8
      have y0 := (hl.cell (k * 2)).trans g0
      have y1 := (hl.cell (k * 2 + 1)).trans g1
      have hlo0 : w.heap.size + 1 + 1 < wr.heap.size := hl.lt
      have hMr := hM
      go_wp2_with fail
      refine wp_gen (fun W => Bl wr W ∧ Blk W wr.heap.size 66 #[.int .i64 (cX k), .int .i64 (cY k)]) ⟨slc, Blk.new _ _ _⟩ ?_
      rintro W ⟨hbq, hq⟩
      have hm := hm.bl hbq
      have hl := hl.bl hbq
      have h0 := h0.bl hbq
      have hM := hM.bl hbq
      have hbW := hbw.next hbq
      have hlo : w.heap.size + 1 + 1 + 1 ≤ W.heap.size := by have := Bl.size hbq; omega
      clear y0 y1 g0 g1
      have hHeld : (fun w' => (w'.cell? ⟨(w.heap.size + 1), 0, none⟩ = some (vp) ∧ w'.cell? ⟨(w.heap.size + 1), 1, none⟩ = some (.slice none 0 0)) ∧ (w'.cell? ⟨wr.heap.size, 0, none⟩ = some (.int .i64 (cX k)) ∧ w'.cell? ⟨wr.heap.size, 1, none⟩ = some (.int .i64 (cY k)))) (W.drew) := ⟨bx2 (T := 31) (hm.bl slc), bx2 (T := 66) (hq.bl slc)⟩
      refine wp_region_T 10 11 (fun w' => (w'.cell? ⟨(w.heap.size + 1), 0, none⟩ = some (vp) ∧ w'.cell? ⟨(w.heap.size + 1), 1, none⟩ = some (.slice none 0 0)) ∧ (w'.cell? ⟨wr.heap.size, 0, none⟩ = some (.int .i64 (cX k)) ∧ w'.cell? ⟨wr.heap.size, 1, none⟩ = some (.int .i64 (cY k)))) rfl (by kernel_rfl) hHeld ?_
      refine wpAnyT_take (i := 0) (oi := _) (v := ?_) (fuel := 10) rfl (by kernel_rfl) (by kernel_rfl) (by kernel_rfl) (by kernel_rfl) (fun _ _ _ h => h) (by rfl) ?_ hHeld ?_
      rotate_left 1
      · (intro w' hSw; (try dsimp only at hSw); go_simp <;> with_reducible rfl)
      refine wpAnyT_take (i := 1) (oi := _) (v := ?_) (fuel := 9) rfl (by kernel_rfl) (by kernel_rfl) (by kernel_rfl) (by kernel_rfl) (fun _ _ _ h => h) (by rfl) ?_ hHeld ?_
      rotate_left 1
      · (intro w' hSw; (try dsimp only at hSw); go_simp <;> with_reducible rfl)
      refine wpAnyT_take (i := 2) (oi := _) (v := ?_) (fuel := 8) rfl (by kernel_rfl) (by kernel_rfl) (by kernel_rfl) (by kernel_rfl) (fun _ _ _ h => h) (by rfl) ?_ hHeld ?_
      rotate_left 1
      · (intro w' hSw; (try dsimp only at hSw); go_simp <;> with_reducible rfl)
      refine wpAnyT_take (i := 3) (oi := _) (v := ?_) (fuel := 7) rfl (by kernel_rfl) (by kernel_rfl) (by kernel_rfl) (by kernel_rfl) (fun _ _ _ h => h) (by rfl) ?_ hHeld ?_
      rotate_left 1
      · (intro w' hSw; (try dsimp only at hSw); go_simp <;> with_reducible rfl)
      refine wpAnyT_take (i := 4) (oi := _) (v := ?_) (fuel := 6) rfl (by kernel_rfl) (by kernel_rfl) (by kernel_rfl) (by kernel_rfl) (fun _ _ _ h => h) (by rfl) ?_ hHeld ?_
      rotate_left 1
      · (intro w' hSw; (try dsimp only at hSw); go_simp <;> with_reducible rfl)
      refine wpAnyT_take (i := 5) (oi := _) (v := ?_) (fuel := 5) rfl (by kernel_rfl) (by kernel_rfl) (by kernel_rfl) (by kernel_rfl) (fun _ _ _ h => h) (by rfl) ?_ hHeld ?_
      rotate_left 1
      · (intro w' hSw; (try dsimp only at hSw); go_simp <;> with_reducible rfl)
      clear hHeld
      simp only [Act.put, List.setIfInBounds_toArray]
      refine wpAnyT_step (i := 6) (o := _) (fuel := 4) rfl (by kernel_rfl) (fun K hK => ?_)
      go_simp
      refine (PointAt_any _ (cX k) (cY k) hcb.1 hcb.2.1 hcb.2.2.1 hcb.2.2.2).mono ?_
      rintro e w2 ⟨s1, A1, n1, c1, B1, m1, d1, t1, C1, i1, e1, D1, j1, f1, rfl, hP, hb2⟩
      have hrow4 := RowG.bl (ptIn_keep 3) hM.1 (show Bl W w2 from slc)
      have hM4 := hM.bl (show Bl W w2 from slc)
      have hP4 := OwPN.sep (vt := .slice none 0 0) hP (fun g e => by cases e)
      have h04 := h0.bl (show Bl W w2 from slc)
      have hl4 := hl.bl (show Bl W w2 from slc)
      have hm := hm.bl (show Bl W w2 from slc)
      have hq := hq.bl (show Bl W w2 from slc)
      have hbw4 : Bl w w2 := hbW.next (show Bl W w2 from slc)
      refine hK.out _ _ (fun _ => ⟨bx2 (T := 31) (hm.bl slc), bx2 (T := 66) (hq.bl slc)⟩) ?_
      clear hK K
      try simp only [Act.put, List.setIfInBounds_toArray, List.set_cons_zero, List.set_cons_succ]
      refine wpAnyT_step (i := 7) (o := _) (fuel := 3) rfl (by kernel_rfl) (fun K hK => ?_)
      go_simp
      refine hK.out _ _ (fun _ => ⟨bx2 (T := 31) (hm.bl slc), bx2 (T := 66) (hq.bl slc)⟩) ?_
      clear hK K
      try simp only [Act.put, List.setIfInBounds_toArray, List.set_cons_zero, List.set_cons_succ]
      refine wpAnyT_step (i := 8) (o := _) (fuel := 2) rfl (by kernel_rfl) (fun K hK => ?_)
      refine step_append_ptS (appN_sep _) rfl (.tmp 22) (.tmp 28) rfl _ (by rfl) hrow4 hP4 (Nat.le_refl _) hlo 1 (by rfl) (by rw [cPts_len]; omega) w hbw4 (by omega) ?_
      intro v' w8 hrow' hb8' hoth
      obtain ⟨A8, n8, c8, rfl⟩ := RowG.shape hrow'
      have hM8 := hM4.afterP hrow' hoth.2 hoth.1
      have hne : ∀ g, g < W.heap.size → vp.ownBlock = Option.some g → w.heap.size + 1 + 1 + 1 ≤ g := fun g _ e => (hM.1.lo e).1
      have h0 := h04.oth hoth.2 (fun e => by have := hM.1.lo e; omega)
      have hl := hl4.oth hoth.2 (fun e => by have := hM.1.lo e; omega)
      have hm := hm.oth hoth.2 (fun e => by have := hM.1.lo e; omega)
      have hq := hq.oth hoth.2 (fun e => by have := (hMr.1.lo e).2; omega)
      refine hK.out _ _ (fun _ => ⟨bx2 (T := 31) (hm.bl slc), bx2 (T := 66) (hq.bl slc)⟩) ?_
      clear hK K
      try simp only [Act.put, List.setIfInBounds_toArray]
      refine wpAnyT_step (i := 9) (o := _) (fuel := 1) rfl (by kernel_rfl) (fun K hK => ?_)
      go_simp
      refine hK.out _ _ (fun _ => ⟨bx2 (T := 31) (hm.bl slc), bx2 (T := 66) (hq.bl slc)⟩) ?_
      clear hK K
      try simp only [Act.put, List.setIfInBounds_toArray, List.set_cons_zero, List.set_cons_succ]
      obtain ⟨z0', z1'⟩ := bx2 hm
      have zf := hm.frozen 0
      refine wpAnyT_step (i := 10) (o := _) (fuel := 0) rfl (by kernel_rfl) (fun K hK => ?_)
      go_simp
      refine hK.out _ _ (fun h => absurd rfl h) ?_
      clear hK K
      try simp only [Act.put, List.setIfInBounds_toArray]
      refine wpAnyT_done (by kernel_rfl) ?_
      go_wp2_with fail
      go_roundw
      case rel => exact ⟨k + 1, .slice A8 n8 c8, by omega, by go_num, by simpa using hm.set_ 0 (.slice A8 n8 c8), by rw [cPts_succ]; exact hM8.set (by simp) _, h0.far (by simp) _, hl.far (by simp) _, Bl.set hb8' (by simp) _⟩
      case measure => simp [intOf]; omega
    · obtain rfl : k = 8 := by omega
      have e0 : ((8 : Nat) : Int) = 8 := rfl
      rw [e0]
      clear e0 hk hk8 hl
      obtain ⟨wl, rfl⟩ : ∃ wl : World, wl = wr := ⟨_, rfl⟩
      have hlo1 : w.heap.size + 1 < wl.heap.size := hm.lt
      go_wp2_with fail
      refine wp_gen (fun W => Bl wl W ∧ Blk W wl.heap.size 58 #[.int .i64 1, .int .i64 4, .int .i64 0, .int .i64 7, .int .i64 0, .int .i64 4, .int .i64 3, .int .i64 4, .int .i64 2, .int .i64 1, .int .i64 2, .int .i64 4, .int .i64 7, .int .i64 4, .int .i64 6, .int .i64 5, .int .i64 6, .int .i64 4]) ⟨slc, by exact bts⟩ ?_
      rintro W ⟨hbl, hl⟩
      go_loopw [40] (fun i wr => ∃ (k : Nat) (vt : Value), k ≤ 6 ∧ i = .int .i64 (k : Int) ∧ Blk wr (w.heap.size + 1) 31 #[vp, vt] ∧ MR (w.heap.size + 1 + 1 + 1) wr vp vt (cPts 8) (cTrs k) ∧ Blk wr w.heap.size 31 #[.slice none 0 0, .slice none 0 0] ∧ Blk wr wl.heap.size 58 #[.int .i64 1, .int .i64 4, .int .i64 0, .int .i64 7, .int .i64 0, .int .i64 4, .int .i64 3, .int .i64 4, .int .i64 2, .int .i64 1, .int .i64 2, .int .i64 4, .int .i64 7, .int .i64 4, .int .i64 6, .int .i64 5, .int .i64 6, .int .i64 4] ∧ vt.ownBlock ≠ Option.some wl.heap.size ∧ Bl w wr) (fun i _ => 6 - (intOf i).toNat)
      case atStart => exact ⟨0, .slice none 0 0, by omega, rfl, hm.bl hbl, hM.bl hbl, h0.bl hbl, hl, (by intro e; cases e), hbw.next hbl⟩
      case round =>
        clear hm hM h0 hl hbw hbl
        obtain ⟨k, vt, hk, rfl, hm, hM, h0, hl, hvl, hbw⟩ := hrel
        by_cases hk6 : k < 6
        · skip
          have hki : (k : Int) < 6 := by omega
          obtain ⟨g0, g1, g2⟩ := lit3 k hk6
          have y0 := (hl.cell (k * 3)).trans g0
          have y1 := (hl.cell (k * 3 + 1)).trans g1
          have y2 := (hl.cell (k * 3 + 2)).trans g2
          have hlo0 : w.heap.size + 1 + 1 < wr.heap.size := by have := hl.lt; omega
          go_upto_region 10 with (fail)
          refine wp_gen (fun W => Bl wr W ∧ Blk W wr.heap.size 58 #[.int .i64 (cA k), .int .i64 (cB k), .int .i64 (cC k)]) ⟨slc, Blk.new _ _ _⟩ ?_
          rintro W ⟨hbq, hq⟩
          have hm := hm.bl hbq
          have hlW := hl.bl hbq
          have h0 := h0.bl hbq
          have hMW := hM.bl hbq
          have hbW := hbw.next hbq
          have hlo : w.heap.size + 1 + 1 + 1 ≤ W.heap.size := by have := Bl.size hbq; omega
          clear y0 y1 y2 g0 g1 g2
          obtain ⟨i0, i1⟩ := bx2 hm
          obtain ⟨q0, q1, q2⟩ := bx3 hq
          have hrow4 := hMW.2.1
          go_wp2_with ((refine wpList_append_triS rfl (.tmp 45) (.tmp 53) rfl _ (by rfl) hrow4 hlo 1 (by rfl) (by rw [cTrs_len]; omega) w hbW (by omega) ?_; intro v' w8 hrow' hb8' hoth; (obtain ⟨A8, n8, c8, rfl⟩ := RowG.shape hrow'); (have hM8 := hMW.afterT hrow' hoth.2 hoth.1); (have h0 := h0.oth hoth.2 (fun e => by have := hMW.2.1.lo e; omega)); (have hm := hm.oth hoth.2 (fun e => by have := hMW.2.1.lo e; omega)); (have hl8 := hlW.oth hoth.2 hvl); (have hvl8 := (hoth.2 _ hlW.lt hvl).2); (have zf := hm.frozen 1); (obtain ⟨z0', z1'⟩ := bx2 hm); clear hrow4))
          go_roundw
          case rel => exact ⟨k + 1, .slice A8 n8 c8, by omega, by go_num, by simpa using hm.set_ 1 (.slice A8 n8 c8), by rw [cTrs_succ]; exact hM8.set (by simp) _, h0.far (by simp) _, hl8.far (by simp; omega) _, hvl8, Bl.set hb8' (by simp) _⟩
          case measure => simp [intOf]; omega
        · obtain rfl : k = 6 := by omega
          have e0 : ((6 : Nat) : Int) = 6 := rfl
          rw [e0]
          clear e0 hk hk6 hl hvl
          obtain ⟨A, c, B, d, rfl, rfl, hO⟩ := hM.out (by rw [cPts_len]; omega) (by rw [cTrs_len]; omega) (by rw [cPts_len]; omega) (by rw [cTrs_len]; omega)
          rw [cPts_len, cTrs_len] at hO
          rw [cPts_len, cTrs_len] at hm
          obtain ⟨i0, i1⟩ := bx2 hm
          obtain ⟨j0, j1⟩ := bx2 h0
          have f0 := h0.frozen 0
          have f1 := h0.frozen 1
          have hlw : w.heap.size < wr.heap.size := h0.lt
          go_wp2_with fail
          exact bodyPost_ret (v := .agg #[.slice A 8 c, .slice B 6 d]) (by simp [results, Try.results16, go_sem, j0, j1]) rfl ⟨_, _, _, _, _, _, rfl, ((hO.set (.inl (by show w.heap.size < _; omega)) _).set (.inl (by show w.heap.size < _; omega)) _).low (by omega) (by simp), Bl.set (Bl.set hbw (by simp) _) (by simp) _⟩

end Go.Proofs.Ytggjdgjkdmgjnaa
