/- Lemmas. -/
import Derived.Test.YtajlahjghapbkaaGreatRows
import Derived.Test.YtajlahjghapbkaaGreatPBuildersM20
import Derived.Test.YtajlahjghapbkaaGreatPBuildersM21
import Derived.Deep.Cut
import Derived.Deep.DeepCutAuto
import Derived.Test.YtajlahjghapbkaaGreatPBuildersM17
import Derived.Test.YtajlahjghapbkaaGreatPBuildersM11
import Derived.Test.YtajlahjghapbkaaGreatPBuildersM15
import Derived.Test.YtajlahjghapbkaaGreatPBuildersM24
import Derived.Test.YtajlahjghapbkaaGreatPBuildersM19
import Derived.Test.YtajlahjghapbkaaGreatPBuildersM16
import Derived.Test.YtajlahjghapbkaaGreatPBuildersM18
import Derived.Test.YtajlahjghapbkaaGreatPBuildersM03
namespace Go.Proofs.YtajlahjghapbkaaGreat
section
open Go.RowKit

def cX : Nat → Int
  | 0 => 0
  | 1 => 1
  | 2 => 2
  | 3 => 2
  | 4 => 1
  | 5 => 1
  | 6 => 0
  | _ => 0
def cY : Nat → Int
  | 0 => 0
  | 1 => 0
  | 2 => 0
  | 3 => 1
  | 4 => 1
  | 5 => 2
  | 6 => 2
  | _ => 1
def cA : Nat → Int
  | 0 => 1
  | 1 => 7
  | 2 => 3
  | 3 => 1
  | 4 => 7
  | _ => 5
def cB : Nat → Int
  | 0 => 4
  | 1 => 0
  | 2 => 4
  | 3 => 2
  | 4 => 4
  | _ => 6
def cC : Nat → Int
  | 0 => 0
  | 1 => 4
  | 2 => 2
  | 3 => 4
  | 4 => 6
  | _ => 4
noncomputable def cPt (k : Nat) : PtD := ⟨ofFrac (cX k) 1, ofFrac (cY k) 1⟩
def cTr (k : Nat) : TriD := ⟨cA k, cB k, cC k, 0, 0⟩
noncomputable def cPts (k : Nat) : List PtD := (List.range k).map cPt
def cTrs (k : Nat) : List TriD := (List.range k).map cTr
noncomputable def cMesh : MeD := ⟨cPts 8, cTrs 6⟩
theorem cPts_len (k : Nat) : (cPts k).length = k := by simp [cPts]
theorem cTrs_len (k : Nat) : (cTrs k).length = k := by simp [cTrs]
theorem cPts_succ (k : Nat) : cPts (k + 1) = cPts k ++ [⟨ofFrac (cX k) 1, ofFrac (cY k) 1⟩] := by unfold cPts; rw [List.range_succ, List.map_append]; rfl
theorem cTrs_succ (k : Nat) : cTrs (k + 1) = cTrs k ++ [⟨cA k, cB k, cC k, 0, 0⟩] := by unfold cTrs; rw [List.range_succ, List.map_append]; rfl
theorem cXY_b (k : Nat) (h : k < 8) : -1000000 < cX k ∧ cX k ≤ 1000000 ∧ -1000000 < cY k ∧ cY k ≤ 1000000 := by
  rcases (show k = 0 ∨ k = 1 ∨ k = 2 ∨ k = 3 ∨ k = 4 ∨ k = 5 ∨ k = 6 ∨ k = 7 by omega) with rfl | rfl | rfl | rfl | rfl | rfl | rfl | rfl <;> simp [cX, cY]
theorem lit2 (k : Nat) (h : k < 8) : (#[.int .i64 0, .int .i64 0, .int .i64 1, .int .i64 0, .int .i64 2, .int .i64 0, .int .i64 2, .int .i64 1, .int .i64 1, .int .i64 1, .int .i64 1, .int .i64 2, .int .i64 0, .int .i64 2, .int .i64 0, .int .i64 1] : Array Value)[k * 2]? = some (.int .i64 (cX k)) ∧ (#[.int .i64 0, .int .i64 0, .int .i64 1, .int .i64 0, .int .i64 2, .int .i64 0, .int .i64 2, .int .i64 1, .int .i64 1, .int .i64 1, .int .i64 1, .int .i64 2, .int .i64 0, .int .i64 2, .int .i64 0, .int .i64 1] : Array Value)[k * 2 + 1]? = some (.int .i64 (cY k)) := by
  rcases (show k = 0 ∨ k = 1 ∨ k = 2 ∨ k = 3 ∨ k = 4 ∨ k = 5 ∨ k = 6 ∨ k = 7 by omega) with rfl | rfl | rfl | rfl | rfl | rfl | rfl | rfl <;> exact ⟨rfl, rfl⟩
theorem lit3 (k : Nat) (h : k < 6) : (#[.int .i64 1, .int .i64 4, .int .i64 0, .int .i64 7, .int .i64 0, .int .i64 4, .int .i64 3, .int .i64 4, .int .i64 2, .int .i64 1, .int .i64 2, .int .i64 4, .int .i64 7, .int .i64 4, .int .i64 6, .int .i64 5, .int .i64 6, .int .i64 4] : Array Value)[k * 3]? = some (.int .i64 (cA k)) ∧ (#[.int .i64 1, .int .i64 4, .int .i64 0, .int .i64 7, .int .i64 0, .int .i64 4, .int .i64 3, .int .i64 4, .int .i64 2, .int .i64 1, .int .i64 2, .int .i64 4, .int .i64 7, .int .i64 4, .int .i64 6, .int .i64 5, .int .i64 6, .int .i64 4] : Array Value)[k * 3 + 1]? = some (.int .i64 (cB k)) ∧ (#[.int .i64 1, .int .i64 4, .int .i64 0, .int .i64 7, .int .i64 0, .int .i64 4, .int .i64 3, .int .i64 4, .int .i64 2, .int .i64 1, .int .i64 2, .int .i64 4, .int .i64 7, .int .i64 4, .int .i64 6, .int .i64 5, .int .i64 6, .int .i64 4] : Array Value)[k * 3 + 2]? = some (.int .i64 (cC k)) := by
  rcases (show k = 0 ∨ k = 1 ∨ k = 2 ∨ k = 3 ∨ k = 4 ∨ k = 5 by omega) with rfl | rfl | rfl | rfl | rfl | rfl <;> exact ⟨rfl, rfl, rfl⟩

set_option maxRecDepth 100000 in
set_option maxHeartbeats 16000000 in
theorem CornerMesh_any (w : World) :
    Calls Tryz.prog 36 #[] w fun e w' => ∃ A n c B m d, e = .returned (.agg #[.slice A n c, .slice B m d]) ∧ OwMZ w.heap.size w'.heap.size w' A n c B m d cMesh ∧ Bl w w' := by
  go_enter Tryz.func36, Tryz.ntmps36
  go_wp2_with fail
  refine wp_gen (fun W => Blk W w.heap.size 57 #[.slice none 0 0, .slice none 0 0] ∧ Blk W (w.heap.size + 1) 57 #[.slice none 0 0, .slice none 0 0] ∧ Blk W (w.heap.size + 1 + 1) 117 #[.int .i64 0, .int .i64 0, .int .i64 1, .int .i64 0, .int .i64 2, .int .i64 0, .int .i64 2, .int .i64 1, .int .i64 1, .int .i64 1, .int .i64 1, .int .i64 2, .int .i64 0, .int .i64 2, .int .i64 0, .int .i64 1] ∧ Bl w W ∧ W.heap.size = w.heap.size + 1 + 1 + 1) ⟨by exact bts, by exact bts, by exact bts, slc, by simp⟩ ?_
  rintro W ⟨h0, hm, hl, hbw, hsz⟩
  go_loopw [17] (fun i wr => ∃ (k : Nat) (vp : Value), k ≤ 8 ∧ i = .int .i64 (k : Int) ∧ Blk wr (w.heap.size + 1) 57 #[vp, .slice none 0 0] ∧ MR (w.heap.size + 1 + 1 + 1) wr vp (.slice none 0 0) (cPts k) [] ∧ Blk wr w.heap.size 57 #[.slice none 0 0, .slice none 0 0] ∧ Blk wr (w.heap.size + 1 + 1) 117 #[.int .i64 0, .int .i64 0, .int .i64 1, .int .i64 0, .int .i64 2, .int .i64 0, .int .i64 2, .int .i64 1, .int .i64 1, .int .i64 1, .int .i64 1, .int .i64 2, .int .i64 0, .int .i64 2, .int .i64 0, .int .i64 1] ∧ Bl w wr) (fun i _ => 8 - (intOf i).toNat)
  case atStart => exact ⟨0, .slice none 0 0, by omega, rfl, hm, MR.nil _, h0, hl, hbw⟩
  case round =>
    clear h0 hm hl hbw hsz
    obtain ⟨k, vp, hk, rfl, hm, hM, h0, hl, hbw⟩ := hrel
    by_cases hk8 : k < 8
    · skip
      have hki : (k : Int) < 8 := by omega
      have hcb := cXY_b k hk8
      obtain ⟨g0, g1⟩ := lit2 k hk8
      have y0 := (hl.cell (k * 2)).trans g0
      have y1 := (hl.cell (k * 2 + 1)).trans g1
      have hlo0 : w.heap.size + 1 + 1 < wr.heap.size := hl.lt
      have hMr := hM
      go_wp2_with fail
      refine wp_gen (fun W => Bl wr W ∧ Blk W wr.heap.size 117 #[.int .i64 (cX k), .int .i64 (cY k)]) ⟨slc, Blk.new _ _ _⟩ ?_
      rintro W ⟨hbq, hq⟩
      have hm := hm.bl hbq
      have hl := hl.bl hbq
      have h0 := h0.bl hbq
      have hM := hM.bl hbq
      have hbW := hbw.next hbq
      have hlo : w.heap.size + 1 + 1 + 1 ≤ W.heap.size := by have := Bl.size hbq; omega
      clear y0 y1 g0 g1
      have hHeld : (fun w' => (w'.cell? ⟨(w.heap.size + 1), 0, none⟩ = some (vp) ∧ w'.cell? ⟨(w.heap.size + 1), 1, none⟩ = some (.slice none 0 0)) ∧ (w'.cell? ⟨wr.heap.size, 0, none⟩ = some (.int .i64 (cX k)) ∧ w'.cell? ⟨wr.heap.size, 1, none⟩ = some (.int .i64 (cY k)))) (W.drew) := ⟨bx2 (T := 57) (hm.bl slc), bx2 (T := 117) (hq.bl slc)⟩
      refine wp_region_T 10 11 (fun w' => (w'.cell? ⟨(w.heap.size + 1), 0, none⟩ = some (vp) ∧ w'.cell? ⟨(w.heap.size + 1), 1, none⟩ = some (.slice none 0 0)) ∧ (w'.cell? ⟨wr.heap.size, 0, none⟩ = some (.int .i64 (cX k)) ∧ w'.cell? ⟨wr.heap.size, 1, none⟩ = some (.int .i64 (cY k)))) rfl (by kernel_rfl) hHeld ?_
      refine wpAnyT_take (i := 0) (oi := _) (v := ?_) (fuel := 10) rfl (by kernel_rfl) (by kernel_rfl) (by kernel_rfl) (by kernel_rfl) (fun _ _ _ h => h) (by rfl) ?_ hHeld ?_
      rotate_left 1
      · (intro w' hSw; (try dsimp only at hSw); go_simp <;> with_reducible rfl)
      refine wpAnyT_take (i := 1) (oi := _) (v := ?_) (fuel := 9) rfl (by kernel_rfl) (by kernel_rfl) (by kernel_rfl) (by kernel_rfl) (fun _ _ _ h => h) (by rfl) ?_ hHeld ?_
      rotate_left 1
      · (intro w' hSw; (try dsimp only at hSw); go_simp <;> with_reducible rfl)
      refine wpAnyT_take (i := 2) (oi := _) (v := ?_) (fuel := 8) rfl (by kernel_rfl) (by kernel_rfl) (by kernel_rfl) (by kernel_rfl) (fun _ _ _ h => h) (by rfl) ?_ hHeld ?_
      rotate_left 1
      · (intro w' hSw; (try dsimp only at hSw); go_simp <;> with_reducible rfl)
      refine wpAnyT_take (i := 3) (oi := _) (v := ?_) (fuel := 7) rfl (by kernel_rfl) (by kernel_rfl) (by kernel_rfl) (by kernel_rfl) (fun _ _ _ h => h) (by rfl) ?_ hHeld ?_
      rotate_left 1
      · (intro w' hSw; (try dsimp only at hSw); go_simp <;> with_reducible rfl)
      refine wpAnyT_take (i := 4) (oi := _) (v := ?_) (fuel := 6) rfl (by kernel_rfl) (by kernel_rfl) (by kernel_rfl) (by kernel_rfl) (fun _ _ _ h => h) (by rfl) ?_ hHeld ?_
      rotate_left 1
      · (intro w' hSw; (try dsimp only at hSw); go_simp <;> with_reducible rfl)
      refine wpAnyT_take (i := 5) (oi := _) (v := ?_) (fuel := 5) rfl (by kernel_rfl) (by kernel_rfl) (by kernel_rfl) (by kernel_rfl) (fun _ _ _ h => h) (by rfl) ?_ hHeld ?_
      rotate_left 1
      · (intro w' hSw; (try dsimp only at hSw); go_simp <;> with_reducible rfl)
      clear hHeld
      simp only [Act.put, List.setIfInBounds_toArray]
      refine wpAnyT_step (i := 6) (o := _) (fuel := 4) rfl (by kernel_rfl) (fun K hK => ?_)
      go_simp
      refine (PointAt_any _ (cX k) (cY k) hcb.1 hcb.2.1 hcb.2.2.1 hcb.2.2.2).mono ?_
      rintro e w2 ⟨s1, A1, n1, c1, B1, m1, d1, t1, C1, i1, e1, D1, j1, f1, rfl, hP, hb2⟩
      have hrow4 := RowG.bl (ptIn_keep 3) hM.1 (show Bl W w2 from slc)
      have hM4 := hM.bl (show Bl W w2 from slc)
      have hP4 := OwPN.sep (vt := .slice none 0 0) hP (fun g e => by cases e)
      have h04 := h0.bl (show Bl W w2 from slc)
      have hl4 := hl.bl (show Bl W w2 from slc)
      have hm := hm.bl (show Bl W w2 from slc)
      have hq := hq.bl (show Bl W w2 from slc)
      have hbw4 : Bl w w2 := hbW.next (show Bl W w2 from slc)
      refine hK.out _ _ (fun _ => ⟨bx2 (T := 57) (hm.bl slc), bx2 (T := 117) (hq.bl slc)⟩) ?_
      clear hK K
      try simp only [Act.put, List.setIfInBounds_toArray, List.set_cons_zero, List.set_cons_succ]
      refine wpAnyT_step (i := 7) (o := _) (fuel := 3) rfl (by kernel_rfl) (fun K hK => ?_)
      go_simp
      refine hK.out _ _ (fun _ => ⟨bx2 (T := 57) (hm.bl slc), bx2 (T := 117) (hq.bl slc)⟩) ?_
      clear hK K
      try simp only [Act.put, List.setIfInBounds_toArray, List.set_cons_zero, List.set_cons_succ]
      refine wpAnyT_step (i := 8) (o := _) (fuel := 2) rfl (by kernel_rfl) (fun K hK => ?_)
      refine step_append_ptS (appN_sep _) rfl (.tmp 22) (.tmp 28) rfl _ (by rfl) hrow4 hP4 (Nat.le_refl _) hlo 1 (by rfl) (by rw [cPts_len]; omega) w hbw4 (by omega) ?_
      intro v' w8 hrow' hb8' hoth
      obtain ⟨A8, n8, c8, rfl⟩ := RowG.shape hrow'
      have hM8 := hM4.afterP hrow' hoth.2 hoth.1
      have hne : ∀ g, g < W.heap.size → vp.ownBlock = Option.some g → w.heap.size + 1 + 1 + 1 ≤ g := fun g _ e => (hM.1.lo e).1
      have h0 := h04.oth hoth.2 (fun e => by have := hM.1.lo e; omega)
      have hl := hl4.oth hoth.2 (fun e => by have := hM.1.lo e; omega)
      have hm := hm.oth hoth.2 (fun e => by have := hM.1.lo e; omega)
      have hq := hq.oth hoth.2 (fun e => by have := (hMr.1.lo e).2; omega)
      refine hK.out _ _ (fun _ => ⟨bx2 (T := 57) (hm.bl slc), bx2 (T := 117) (hq.bl slc)⟩) ?_
      clear hK K
      try simp only [Act.put, List.setIfInBounds_toArray]
      refine wpAnyT_step (i := 9) (o := _) (fuel := 1) rfl (by kernel_rfl) (fun K hK => ?_)
      go_simp
      refine hK.out _ _ (fun _ => ⟨bx2 (T := 57) (hm.bl slc), bx2 (T := 117) (hq.bl slc)⟩) ?_
      clear hK K
      try simp only [Act.put, List.setIfInBounds_toArray, List.set_cons_zero, List.set_cons_succ]
      obtain ⟨z0', z1'⟩ := bx2 hm
      have zf := hm.frozen 0
      refine wpAnyT_step (i := 10) (o := _) (fuel := 0) rfl (by kernel_rfl) (fun K hK => ?_)
      go_simp
      refine hK.out _ _ (fun h => absurd rfl h) ?_
      clear hK K
      try simp only [Act.put, List.setIfInBounds_toArray]
      refine wpAnyT_done (by kernel_rfl) ?_
      go_wp2_with fail
      go_roundw
      case rel => exact ⟨k + 1, .slice A8 n8 c8, by omega, by go_num, by simpa using hm.set_ 0 (.slice A8 n8 c8), by rw [cPts_succ]; exact hM8.set (by simp) _, h0.far (by simp) _, hl.far (by simp) _, Bl.set hb8' (by simp) _⟩
      case measure => simp [intOf]; omega
    · obtain rfl : k = 8 := by omega
      have e0 : ((8 : Nat) : Int) = 8 := rfl
      rw [e0]
      clear e0 hk hk8 hl
      obtain ⟨wl, rfl⟩ : ∃ wl : World, wl = wr := ⟨_, rfl⟩
      have hlo1 : w.heap.size + 1 < wl.heap.size := hm.lt
      go_wp2_with fail
      refine wp_gen (fun W => Bl wl W ∧ Blk W wl.heap.size 119 #[.int .i64 1, .int .i64 4, .int .i64 0, .int .i64 7, .int .i64 0, .int .i64 4, .int .i64 3, .int .i64 4, .int .i64 2, .int .i64 1, .int .i64 2, .int .i64 4, .int .i64 7, .int .i64 4, .int .i64 6, .int .i64 5, .int .i64 6, .int .i64 4]) ⟨slc, by exact bts⟩ ?_
      rintro W ⟨hbl, hl⟩
      go_loopw [40] (fun i wr => ∃ (k : Nat) (vt : Value), k ≤ 6 ∧ i = .int .i64 (k : Int) ∧ Blk wr (w.heap.size + 1) 57 #[vp, vt] ∧ MR (w.heap.size + 1 + 1 + 1) wr vp vt (cPts 8) (cTrs k) ∧ Blk wr w.heap.size 57 #[.slice none 0 0, .slice none 0 0] ∧ Blk wr wl.heap.size 119 #[.int .i64 1, .int .i64 4, .int .i64 0, .int .i64 7, .int .i64 0, .int .i64 4, .int .i64 3, .int .i64 4, .int .i64 2, .int .i64 1, .int .i64 2, .int .i64 4, .int .i64 7, .int .i64 4, .int .i64 6, .int .i64 5, .int .i64 6, .int .i64 4] ∧ vt.ownBlock ≠ Option.some wl.heap.size ∧ Bl w wr) (fun i _ => 6 - (intOf i).toNat)
      case atStart => exact ⟨0, .slice none 0 0, by omega, rfl, hm.bl hbl, hM.bl hbl, h0.bl hbl, hl, (by intro e; cases e), hbw.next hbl⟩
      case round =>
        clear hm hM h0 hl hbw hbl
        obtain ⟨k, vt, hk, rfl, hm, hM, h0, hl, hvl, hbw⟩ := hrel
        by_cases hk6 : k < 6
        · skip
          have hki : (k : Int) < 6 := by omega
          obtain ⟨g0, g1, g2⟩ := lit3 k hk6
          have y0 := (hl.cell (k * 3)).trans g0
          have y1 := (hl.cell (k * 3 + 1)).trans g1
          have y2 := (hl.cell (k * 3 + 2)).trans g2
          have hlo0 : w.heap.size + 1 + 1 < wr.heap.size := by have := hl.lt; omega
          go_upto_region 10 with (fail)
          refine wp_gen (fun W => Bl wr W ∧ Blk W wr.heap.size 119 #[.int .i64 (cA k), .int .i64 (cB k), .int .i64 (cC k)]) ⟨slc, Blk.new _ _ _⟩ ?_
          rintro W ⟨hbq, hq⟩
          have hm := hm.bl hbq
          have hlW := hl.bl hbq
          have h0 := h0.bl hbq
          have hMW := hM.bl hbq
          have hbW := hbw.next hbq
          have hlo : w.heap.size + 1 + 1 + 1 ≤ W.heap.size := by have := Bl.size hbq; omega
          clear y0 y1 y2 g0 g1 g2
          obtain ⟨i0, i1⟩ := bx2 hm
          obtain ⟨q0, q1, q2⟩ := bx3 hq
          have hrow4 := hMW.2.1
          go_wp2_with ((refine wpList_append_triS rfl (.tmp 45) (.tmp 53) rfl _ (by rfl) hrow4 hlo 1 (by rfl) (by rw [cTrs_len]; omega) w hbW (by omega) ?_; intro v' w8 hrow' hb8' hoth; (obtain ⟨A8, n8, c8, rfl⟩ := RowG.shape hrow'); (have hM8 := hMW.afterT hrow' hoth.2 hoth.1); (have h0 := h0.oth hoth.2 (fun e => by have := hMW.2.1.lo e; omega)); (have hm := hm.oth hoth.2 (fun e => by have := hMW.2.1.lo e; omega)); (have hl8 := hlW.oth hoth.2 hvl); (have hvl8 := (hoth.2 _ hlW.lt hvl).2); (have zf := hm.frozen 1); (obtain ⟨z0', z1'⟩ := bx2 hm); clear hrow4))
          go_roundw
          case rel => exact ⟨k + 1, .slice A8 n8 c8, by omega, by go_num, by simpa using hm.set_ 1 (.slice A8 n8 c8), by rw [cTrs_succ]; exact hM8.set (by simp) _, h0.far (by simp) _, hl8.far (by simp; omega) _, hvl8, Bl.set hb8' (by simp) _⟩
          case measure => simp [intOf]; omega
        · obtain rfl : k = 6 := by omega
          have e0 : ((6 : Nat) : Int) = 6 := rfl
          rw [e0]
          clear e0 hk hk6 hl hvl
          obtain ⟨A, c, B, d, rfl, rfl, hO⟩ := hM.out (by rw [cPts_len]; omega) (by rw [cTrs_len]; omega) (by rw [cPts_len]; omega) (by rw [cTrs_len]; omega)
          rw [cPts_len, cTrs_len] at hO
          rw [cPts_len, cTrs_len] at hm
          obtain ⟨i0, i1⟩ := bx2 hm
          obtain ⟨j0, j1⟩ := bx2 h0
          have f0 := h0.frozen 0
          have f1 := h0.frozen 1
          have hlw : w.heap.size < wr.heap.size := h0.lt
          go_wp2_with fail
          exact bodyPost_ret (v := .agg #[.slice A 8 c, .slice B 6 d]) (by simp [results, Tryz.results36, go_sem, j0, j1]) rfl ⟨_, _, _, _, _, _, rfl, ((hO.set (.inl (by show w.heap.size < _; omega)) _).set (.inl (by show w.heap.size < _; omega)) _).low (by omega) (by simp), Bl.set (Bl.set hbw (by simp) _) (by simp) _⟩
end

section
open Go.RowKit

theorem and255 (x : Int) : 0 ≤ bits .and .i64 x 255 ∧ bits .and .i64 x 255 ≤ 255 := by
  rw [bits.eq_1]
  have h : (BitVec.ofInt IntKind.i64.bits x &&& BitVec.ofInt IntKind.i64.bits 255).toNat ≤ 255 := by
    rw [BitVec.toNat_and]
    exact Nat.le_trans Nat.and_le_right (by decide)
  rw [IntKind.wrap_i64]
  omega
/-- A byte of the code. -/
def ByteAt (w : World) (p : Addr) (x : Int) : Prop := w.cell? p = some (.int .u8 x) ∧ 0 ≤ x ∧ x ≤ 255
abbrev RdB := RdS 1 ByteAt
theorem RdB.bl {w W : World} {A : Option Addr} {n c : Nat} {l : List Int} (h : RdB w A n c l) (hb : Bl w W) : RdB W A n c l := RdS.bl (fun h hp hb => ⟨by rw [hb.cellOf hp]; exact h.1, h.2⟩) h hb
theorem RdB.ob {w W : World} {A : Option Addr} {n c g : Nat} {l : List Int} (h : RdB w A n c l) (hg : ∀ ad, A = Option.some ad → 0 < n → ad.block ≠ g) (hb : Ob [g] w W) : RdB W A n c l :=
  ⟨h.len, h.cap, h.small, fun k hk => by
    obtain ⟨ad, e, hlt, hc, hx⟩ := h.cells k hk
    refine ⟨ad, e, Nat.lt_of_lt_of_le hlt hb.size, ?_, hx⟩
    exact (World.cell?_of_block (w := w) (hb.block (ad.add (k * 1)).block (by rw [block_add]; exact hlt) (by rw [block_add]; simpa using hg ad e (by omega)))).trans hc⟩
/-- A cursor in block g. -/
def Cur (g : Nat) (w : World) (A : Option Addr) (n c : Nat) (l : List Int) : Prop :=
  ∃ i h : Int, Blk w g 169 #[.slice A n c, .int .i64 i, .int .i64 h] ∧ 0 ≤ i ∧ i ≤ n ∧ RdB w A n c l ∧ ∀ ad, A = Option.some ad → 0 < n → ad.block ≠ g
theorem Cur.bl {g n c : Nat} {w W : World} {A : Option Addr} {l : List Int} (h : Cur g w A n c l) (hb : Bl w W) : Cur g W A n c l := by
  obtain ⟨i, k, h1, h2, h3, h4, h5⟩ := h
  exact ⟨i, k, h1.bl hb, h2, h3, h4.bl hb, h5⟩
theorem Cur.lt {g n c : Nat} {w : World} {A : Option Addr} {l : List Int} (h : Cur g w A n c l) : g < w.heap.size := by
  obtain ⟨i, k, h1, _⟩ := h
  exact h1.lt
set_option maxRecDepth 100000 in
set_option maxHeartbeats 4000000 in
theorem l01Byte_any (w : World) {g n c : Nat} {A : Option Addr} {l : List Int} (hC : Cur g w A n c l) :
    Calls Tryz.prog 98 #[.pointer (some ⟨g, 0, none⟩)] w fun e w' => ∃ x : Int, e = .returned (.int .i64 x) ∧ 0 ≤ x ∧ x ≤ 255 ∧ Cur g w' A n c l ∧ Ob [g] w w' := by
  obtain ⟨i, h, hB, hi0, hin, hR, hne⟩ := hC
  have hs := hR.small
  obtain ⟨x0, x1, x2⟩ := bx3 hB
  have f1 := hB.frozen 1
  have f2 := hB.frozen 2
  have hg := hB.lt
  by_cases hlt : i < (n : Int)
  · obtain ⟨k, rfl⟩ := Int.eq_ofNat_of_zero_le hi0
    have hkn : k < n := by omega
    obtain ⟨ad, rfl, _⟩ := hR.cells k hkn
    have hna := hne ad rfl (by omega)
    go_enter Tryz.func98, Tryz.ntmps98
    go_wp2_with fail
    refine wp_gen (fun W => ∃ h', Blk W g 169 #[.slice (some ad) n c, .int .i64 (k : Int), .int .i64 h'] ∧ Ob [g] w W) ⟨_, by simpa using hB.set_ 2 _, (Ob.refl _ w).set (by simp) _ _⟩ ?_
    clear x0 x1 x2 f1 f2 hB
    rintro W ⟨h', hB, hO⟩
    have hR := hR.ob hne hO
    go_region_held3 (fun w' => (w'.cell? ⟨g, 0, none⟩ = some (.slice (some ad) n c) ∧ w'.cell? ⟨g, 1, none⟩ = some (.int .i64 (k : Int)) ∧ w'.cell? ⟨g, 2, none⟩ = some (.int .i64 h'))) (first | exact bx3 (T := 169) (hB.bl slc)) (fail)
    obtain ⟨hx0, hx1⟩ := and255 (bits .xor .i64 (h' / 8589934592) (h' / 35184372088832))
    generalize bits .and .i64 (bits .xor .i64 (h' / 8589934592) (h' / 35184372088832)) 255 = x at *
    go_wp2_with fail
    go_region_held3 (fun w' => (w'.cell? ⟨g, 0, none⟩ = some (.slice (some ad) n c) ∧ w'.cell? ⟨g, 1, none⟩ = some (.int .i64 (k : Int)) ∧ w'.cell? ⟨g, 2, none⟩ = some (.int .i64 h'))) (first | exact bx3 (T := 169) (hB.bl slc)) (fail)
    obtain ⟨_, e, hlt2, hc, hb0, hb1⟩ := hR.cells k hkn
    cases e
    rw [Nat.mul_one] at hc
    generalize pix l k = y at hc hb0 hb1
    have hlt3 : (ad.add k).block < W.heap.size := by rw [block_add]; exact hlt2
    go_wp2_with fail
    go_region_held3 (fun w' => (w'.cell? ⟨g, 0, none⟩ = some (.slice (some ad) n c) ∧ w'.cell? ⟨g, 1, none⟩ = some (.int .i64 (k : Int)) ∧ w'.cell? ⟨g, 2, none⟩ = some (.int .i64 h')) ∧ w'.cell? (ad.add k) = some (.int .u8 y)) (first | exact ⟨bx3 (T := 169) (hB.bl slc), (Bl.cellOf (w := W) (p := ad.add k) slc hlt3).trans hc⟩) (fail)
    obtain ⟨hz0, hz1⟩ := and255 (IntKind.i64.wrap (x + IntKind.i64.wrap y))
    generalize bits .and .i64 (IntKind.i64.wrap (x + IntKind.i64.wrap y)) 255 = z at *
    obtain ⟨x0, x1, x2⟩ := bx3 hB
    have f1 := hB.frozen 1
    go_wp2_with fail
    go_ret
    have hC2 : Cur g (W.setCell ⟨g, 1, none⟩ (.int .i64 ((k : Int) + 1))) (some ad) n c l := ⟨(k : Int) + 1, h', by simpa using hB.set_ 1 (.int .i64 ((k : Int) + 1)), by omega, by omega, hR.ob hne ((Ob.refl [g] W).set (by simp) _ _), hne⟩
    have hO2 := hO.set (g := g) (by simp) 1 (.int .i64 ((k : Int) + 1))
    exact ⟨z, rfl, hz0, hz1, hC2.bl slc, hO2.trans (Ob.of_bl slc _)⟩
  · have hnlt : ¬ i < (n : Int) := hlt
    go_enter Tryz.func98, Tryz.ntmps98
    go_wp2_with fail
    refine wp_gen (fun W => ∃ h', Blk W g 169 #[.slice A n c, .int .i64 i, .int .i64 h'] ∧ Ob [g] w W) ⟨_, by simpa using hB.set_ 2 _, (Ob.refl _ w).set (by simp) _ _⟩ ?_
    clear x0 x1 x2 f1 f2 hB
    rintro W ⟨h', hB, hO⟩
    have hR := hR.ob hne hO
    go_region_held3 (fun w' => (w'.cell? ⟨g, 0, none⟩ = some (.slice A n c) ∧ w'.cell? ⟨g, 1, none⟩ = some (.int .i64 i) ∧ w'.cell? ⟨g, 2, none⟩ = some (.int .i64 h'))) (first | exact bx3 (T := 169) (hB.bl slc)) (fail)
    obtain ⟨hx0, hx1⟩ := and255 (bits .xor .i64 (h' / 8589934592) (h' / 35184372088832))
    generalize bits .and .i64 (bits .xor .i64 (h' / 8589934592) (h' / 35184372088832)) 255 = x at *
    go_wp2_with fail
    go_region_held3 (fun w' => (w'.cell? ⟨g, 0, none⟩ = some (.slice A n c) ∧ w'.cell? ⟨g, 1, none⟩ = some (.int .i64 i) ∧ w'.cell? ⟨g, 2, none⟩ = some (.int .i64 h'))) (first | exact bx3 (T := 169) (hB.bl slc)) (fail)
    go_wp2_with fail
    go_ret
    exact ⟨x, rfl, hx0, hx1, (show Cur g W A n c l from ⟨i, h', hB, hi0, hin, hR, hne⟩).bl slc, hO.trans (Ob.of_bl slc _)⟩
set_option maxHeartbeats 4000000 in
theorem l01New_any (w : World) {A : Option Addr} {n c : Nat} {l : List Int} (h : RdB w A n c l) :
    Calls Tryz.prog 113 #[.slice A n c] w fun e w' => ∃ g, e = .returned (.pointer (some ⟨g, 0, none⟩)) ∧ w.heap.size ≤ g ∧ Cur g w' A n c l ∧ Bl w w' := by
  have hn := h.small
  go_enter Tryz.func113, Tryz.ntmps113
  go_wp2_with fail
  go_loopw [3, 4] (fun v i wr => ∃ (k : Nat) (z : Int), k ≤ n ∧ k ≤ 4000 ∧ i = .int .i64 (k : Int) ∧ v = .int .i64 z ∧ Bl w wr) (fun _ i _ => n - (intOf i).toNat)
  case atStart => exact ⟨0, _, Nat.zero_le _, Nat.zero_le _, rfl, rfl, Bl.refl _⟩
  case round =>
    obtain ⟨k, z, hk, hk4, rfl, rfl, hbw⟩ := hrel
    by_cases hkn : k < n
    · have hki : (k : Int) < (n : Int) := by omega
      by_cases hk5 : k < 4000
      · have hki2 : (k : Int) < 4000 := by omega
        obtain ⟨ad, rfl, hlt, hc, hb0, hb1⟩ := (RdB.bl h hbw).cells k hkn
        rw [Nat.mul_one] at hc
        go_wp2_with fail
        go_roundw
        case rel => exact ⟨k + 1, _, by omega, by omega, by go_num, rfl, slc⟩
        case measure => simp [intOf]; omega
      · have hd1 : decide ((k : Int) < 4000) = false := by simp; omega
        go_wp2_with fail
        go_ret
        exact ⟨wr.heap.size, rfl, hbw.size, ⟨0, z, Blk.new _ _ _, by omega, by omega, RdB.bl h (hbw.alloc _), fun ad e hn0 => by subst e; obtain ⟨_, e, hl, _⟩ := h.cells 0 hn0; cases e; have := hbw.size; omega⟩, slc⟩
    · have hd2 : decide ((k : Int) < (n : Int)) = false := by simp; omega
      go_wp2_with fail
      go_ret
      exact ⟨wr.heap.size, rfl, hbw.size, ⟨0, z, Blk.new _ _ _, by omega, by omega, RdB.bl h (hbw.alloc _), fun ad e hn0 => by subst e; obtain ⟨_, e, hl, _⟩ := h.cells 0 hn0; cases e; have := hbw.size; omega⟩, slc⟩
set_option maxHeartbeats 4000000 in
theorem l31New_any (w : World) {A : Option Addr} {n c : Nat} {l : List Int} (m : Nat) (hm : m ≤ 1000) (h : RdB w A n c l) :
    Calls Tryz.prog 70 #[.slice A n c, .int .i64 (m : Int)] w fun e w' => ∃ g, e = .returned (.pointer (some ⟨g, 0, none⟩)) ∧ w.heap.size ≤ g ∧ Cur g w' A n c l ∧ Bl w w' := by
  go_enter Tryz.func70, Tryz.ntmps70
  go_wp2_with fail
  refine (l01New_any _ h).mono ?_
  rintro e w1 ⟨g, rfl, hg, hC, hb1⟩
  go_wp2_with fail
  go_loopw [6] (fun i wr => ∃ k : Nat, k ≤ m ∧ i = .int .i64 (k : Int) ∧ Cur g wr A n c l ∧ Bl w wr) (fun i _ => m - (intOf i).toNat)
  case atStart => exact ⟨0, Nat.zero_le _, rfl, hC, hb1⟩
  case round =>
    clear hC hb1
    obtain ⟨k, hk, rfl, hC, hbw⟩ := hrel
    by_cases hkm : k < m
    · have hki : (k : Int) < (m : Int) := by omega
      go_wp2_with fail
      refine (l01Byte_any _ hC).mono ?_
      rintro e w2 ⟨x, rfl, -, -, hC2, hO⟩
      have hb2 := hbw.ob hO (fun b hb => by simp at hb; omega)
      go_wp2_with fail
      go_roundw
      case rel => exact ⟨k + 1, by omega, by go_num, hC2, hb2⟩
      case measure => simp [intOf]; omega
    · obtain rfl : k = m := by omega
      go_wp2_with fail
      go_ret
      exact ⟨g, rfl, hg, hC, hbw⟩
end

section
open Go.RowKit
end

section
open Go.RowKit
end

section
open Go.RowKit
end

section
open Go.RowKit

/-- A fraction, none of it in block g. -/
def OwE (T : TypeId) (g : Nat) (w : World) (s : Bool) (A : Option Addr) (n c : Nat) (B : Option Addr) (m d : Nat) (r : RatD) : Prop :=
  ∃ bs, FtR T w s A n c B m d r bs ∧ ∀ b ∈ bs, b ≠ g
section
variable {T : TypeId} {b0 g : Nat} {w W : World} {s : Bool} {A : Option Addr} {n c : Nat} {B : Option Addr} {m d : Nat} {r : RatD}
theorem OwE.rd (h : OwE T g w s A n c B m d r) : RdR w s A n c B m d r := by
  obtain ⟨bs, h, _⟩ := h
  exact h.rd
theorem OwE.bl (h : OwE T g w s A n c B m d r) (hb : Bl w W) : OwE T g W s A n c B m d r := by
  obtain ⟨bs, h, hf⟩ := h
  exact ⟨bs, h.bl hb, hf⟩
theorem OwE.set (h : OwE T g w s A n c B m d r) (i : Nat) (u : Value) : OwE T g (w.setCell ⟨g, i, none⟩ u) s A n c B m d r := by
  obtain ⟨bs, h, hf⟩ := h
  exact ⟨bs, h.keep (by simp) (fun b hb => Below.heap_setCell w _ u b (hf b hb)), hf⟩
theorem OwQ.exc (h : OwQ T b0 w s A n c B m d r) (hb : Bl w W) : OwE T w.heap.size W s A n c B m d r := by
  obtain ⟨bs, h, hf⟩ := h
  exact ⟨bs, h.bl hb, fun b hm => by have := (hf _ hm).2; omega⟩
theorem OwQ.exc2 (h : OwQ T b0 w s A n c B m d r) (hg : g < b0) : OwE T g w s A n c B m d r := by
  obtain ⟨bs, h, hf⟩ := h
  exact ⟨bs, h, fun b hm => by have := (hf _ hm).1; omega⟩
theorem Blk.fz3 {a b c : Value} {T : TypeId} (h : Blk W g T #[a, b, c]) : W.frozen? ⟨g, 0, none⟩ = false ∧ W.frozen? ⟨g, 1, none⟩ = false ∧ W.frozen? ⟨g, 2, none⟩ = false := ⟨h.frozen 0, h.frozen 1, h.frozen 2⟩
end
end

section
open Go.RowKit

/-- The gradient that belongs to a corner, where j and k are the two others, and D is twice the area. -/
noncomputable def gradR (D : RatD) (j k : PtD) : PtD := ⟨divR (subR j.y k.y) D, divR (subR k.x j.x) D⟩
noncomputable def grad3 (p0 p1 p2 : PtD) : Nat → PtD
  | 0 => gradR (dblA p0 p1 p2) p1 p2
  | 1 => gradR (dblA p0 p1 p2) p2 p0
  | _ + 2 => gradR (dblA p0 p1 p2) p0 p1
def GradOk (p0 p1 p2 : PtD) (k : Nat) : Prop := ∀ j, j < k → OkP (grad3 p0 p1 p2 j)
theorem GradOk.step {p0 p1 p2 : PtD} {k : Nat} (h : GradOk p0 p1 p2 k) (h0 : OkP (grad3 p0 p1 p2 k)) : GradOk p0 p1 p2 (k + 1) := by
  intro j hj
  rcases Nat.lt_succ_iff_lt_or_eq.1 hj with hj | rfl
  · exact h j hj
  · exact h0
end

section
open Go.RowKit

theorem Wk.ob {k g : Nat} {T : TypeId} {w W : World} {bs : List Nat} (h : Wk k T g w) (ho : Ob bs w W) (hg : g ∉ bs) : Wk k T g W := by
  obtain ⟨cs, h1, h2⟩ := h
  exact ⟨cs, h1.ob ho hg, h2⟩
theorem ofFrac_sm (x : Int) (D : Nat) (hD : 0 < D) (hx : x.natAbs ≤ 17) (hn : D ≤ 17) : ofFrac x D = toR (mkRat x D) ∧ Bd 17 (mkRat x D) := by
  have hb : Bd 17 (mkRat x D) := bd_mk hD hx hn
  rw [ofFrac_toR x hD, if_pos (hb.fit (by decide))]
  exact ⟨rfl, hb⟩
theorem Cur.set {g n c : Nat} {w : World} {A : Option Addr} {l : List Int} (h : Cur g w A n c l) {b : Nat} (hq : b ≠ g) (hq2 : ∀ ad, A = Option.some ad → 0 < n → ad.block ≠ b) (o : Nat) (u : Value) : Cur g (w.setCell ⟨b, o, none⟩ u) A n c l := by
  obtain ⟨i, k, h1, h2, h3, h4, h5⟩ := h
  exact ⟨i, k, h1.far (Ne.symm hq) u, h2, h3, h4.ob (g := b) hq2 ((Ob.refl [b] w).set (by simp) _ _), h5⟩
theorem Ob.far {bs : List Nat} {w W : World} (h : Ob bs w W) {b : Nat} (hb : w.heap.size ≤ b) (o : Nat) (u : Value) : Ob bs w (W.setCell ⟨b, o, none⟩ u) := by
  have k := (h.mono (cs := b :: bs) (fun x hx => List.mem_cons_of_mem _ hx)).set (g := b) (by simp) o u
  exact ⟨k.os, k.tape, k.output, k.size, fun x hx hn => k.block x hx fun hm => by rcases List.mem_cons.1 hm with rfl | hm; omega; exact hn hm⟩
end

end Go.Proofs.YtajlahjghapbkaaGreat
