/- Lemmas. -/
import Derived.Test.YtajlahjghapbkaaGreatRows
import Derived.Test.YtajlahjghapbkaaGreatPBuildersM21
namespace Go.Proofs.YtajlahjghapbkaaGreat
section
open Go.RowKit

set_option maxRecDepth 100000 in
set_option maxHeartbeats 32000000 in
theorem SquareMesh_1 (w : World) :
    Calls Tryz.prog 35 #[.int .i64 1] w fun e w' => ∃ A n c B m d, e = .returned (.agg #[.slice A n c, .slice B m d]) ∧ OwMZ w.heap.size w'.heap.size w' A n c B m d (sqL 1) ∧ Bl w w' := by
  go_enter Tryz.func35, Tryz.ntmps35
  go_wp2_with fail
  refine (within_any _ _ _ _).mono ?_
  rw [show (decide ((1 : Int) ≤ 1) && decide ((1 : Int) ≤ 3)) = true from rfl]
  rintro e w1 ⟨rfl, hq1⟩
  have hb1 : Bl ((w.alloc (.cells #[.slice none 0 0, .slice none 0 0] 57)).alloc (.cells #[.slice none 0 0, .slice none 0 0] 57)) w1 := by obtain ⟨q1, rfl⟩ := hq1; exact (Bl.refl _).drewN q1
  clear hq1
  have h0 : Blk w1 w.heap.size 57 #[.slice none 0 0, .slice none 0 0] := (Blk.alloc (Blk.new w _ _) _).bl hb1
  have hm : Blk w1 (w.heap.size + 1) 57 #[.slice none 0 0, .slice none 0 0] := (Blk.newAt (by simp)).bl hb1
  have hbw : Bl w w1 := (((Bl.refl w).alloc _).alloc _).next hb1
  clear hb1
  go_wp2_with fail
  go_loopw [20] (fun i wr => ∃ (y : Nat) (vp : Value), y ≤ 2 ∧ i = .int .i64 (y : Int) ∧ Blk wr (w.heap.size + 1) 57 #[vp, .slice none 0 0] ∧ MR (w.heap.size + 1 + 1) wr vp (.slice none 0 0) (gGrid 1 y) [] ∧ Blk wr w.heap.size 57 #[.slice none 0 0, .slice none 0 0] ∧ Bl w wr) (fun i _ => 2 - (intOf i).toNat)
  case atStart => exact ⟨0, .slice none 0 0, by omega, rfl, hm, MR.nil _, h0, hbw⟩
  case round =>
    clear h0 hm hbw
    obtain ⟨y, vp, hy, rfl, hm, hM, h0, hbw⟩ := hrel
    obtain ⟨wo, rfl⟩ : ∃ wo : World, wo = wr := ⟨_, rfl⟩
    by_cases hyk : y < 2
    · have hyi : (y : Int) < 2 := by omega
      go_wp2_with fail
      go_loopw [25] (fun i wr => ∃ (x : Nat) (vp : Value), x ≤ 2 ∧ i = .int .i64 (x : Int) ∧ Blk wr (w.heap.size + 1) 57 #[vp, .slice none 0 0] ∧ MR (w.heap.size + 1 + 1) wr vp (.slice none 0 0) (gGrid 1 y ++ gRow y x) [] ∧ Blk wr w.heap.size 57 #[.slice none 0 0, .slice none 0 0] ∧ Bl w wr) (fun i _ => 2 - (intOf i).toNat)
      case atStart => exact ⟨0, vp, by omega, rfl, hm, by simpa [gRow] using hM, h0, hbw⟩
      case round =>
        clear h0 hm hbw hM
        obtain ⟨x, vp, hx, rfl, hm, hM, h0, hbw⟩ := hrel
        by_cases hxk : x < 2
        · skip
          have hxi : (x : Int) < 2 := by omega
          have hlo : w.heap.size + 1 + 1 ≤ wr.heap.size := hm.lt
          go_wp2_with fail
          have hHeld : (fun w' => (w'.cell? ⟨(w.heap.size + 1), 0, none⟩ = some (vp) ∧ w'.cell? ⟨(w.heap.size + 1), 1, none⟩ = some (.slice none 0 0))) (wr.drew) := bx2 (T := 57) (hm.bl slc)
          refine wp_region_T 8 9 (fun w' => (w'.cell? ⟨(w.heap.size + 1), 0, none⟩ = some (vp) ∧ w'.cell? ⟨(w.heap.size + 1), 1, none⟩ = some (.slice none 0 0))) rfl (by kernel_rfl) hHeld ?_
          refine wpAnyT_take (i := 0) (oi := _) (v := ?_) (fuel := 8) rfl (by kernel_rfl) (by kernel_rfl) (by kernel_rfl) (by kernel_rfl) (fun _ _ _ h => h) (by rfl) ?_ hHeld ?_
          rotate_left 1
          · (intro w' hSw; (try dsimp only at hSw); go_simp <;> with_reducible rfl)
          refine wpAnyT_take (i := 1) (oi := _) (v := ?_) (fuel := 7) rfl (by kernel_rfl) (by kernel_rfl) (by kernel_rfl) (by kernel_rfl) (fun _ _ _ h => h) (by rfl) ?_ hHeld ?_
          rotate_left 1
          · (intro w' hSw; (try dsimp only at hSw); go_simp <;> with_reducible rfl)
          refine wpAnyT_take (i := 2) (oi := _) (v := ?_) (fuel := 6) rfl (by kernel_rfl) (by kernel_rfl) (by kernel_rfl) (by kernel_rfl) (fun _ _ _ h => h) (by rfl) ?_ hHeld ?_
          rotate_left 1
          · (intro w' hSw; (try dsimp only at hSw); go_simp <;> with_reducible rfl)
          refine wpAnyT_take (i := 3) (oi := _) (v := ?_) (fuel := 5) rfl (by kernel_rfl) (by kernel_rfl) (by kernel_rfl) (by kernel_rfl) (fun _ _ _ h => h) (by rfl) ?_ hHeld ?_
          rotate_left 1
          · (intro w' hSw; (try dsimp only at hSw); go_simp <;> with_reducible rfl)
          clear hHeld
          simp only [Act.put, List.setIfInBounds_toArray]
          refine wpAnyT_step (i := 4) (o := _) (fuel := 4) rfl (by kernel_rfl) (fun K hK => ?_)
          go_simp
          refine (PointAt_any _ (x : Int) (y : Int) (by omega) (by omega) (by omega) (by omega)).mono ?_
          rintro e w2 ⟨s1, A1, n1, c1, B1, m1, d1, t1, C1, i1, e1, D1, j1, f1, rfl, hP, hb2⟩
          have hrow4 := RowG.bl (ptIn_keep 3) hM.1 (show Bl wr w2 from slc)
          have hM4 := hM.bl (show Bl wr w2 from slc)
          have hP4 := OwPN.sep (vt := .slice none 0 0) hP (fun g e => by cases e)
          have h04 := h0.bl (show Bl wr w2 from slc)
          have hm := hm.bl (show Bl wr w2 from slc)
          have hbw4 : Bl w w2 := hbw.next (show Bl wr w2 from slc)
          refine hK.out _ _ (fun _ => bx2 (T := 57) (hm.bl slc)) ?_
          clear hK K
          try simp only [Act.put, List.setIfInBounds_toArray, List.set_cons_zero, List.set_cons_succ]
          refine wpAnyT_step (i := 5) (o := _) (fuel := 3) rfl (by kernel_rfl) (fun K hK => ?_)
          go_simp
          refine hK.out _ _ (fun _ => bx2 (T := 57) (hm.bl slc)) ?_
          clear hK K
          try simp only [Act.put, List.setIfInBounds_toArray, List.set_cons_zero, List.set_cons_succ]
          refine wpAnyT_step (i := 6) (o := _) (fuel := 2) rfl (by kernel_rfl) (fun K hK => ?_)
          refine step_append_ptS (appN_sep _) rfl (.tmp 29) (.tmp 33) rfl _ (by rfl) hrow4 hP4 (Nat.le_refl _) hlo 1 (by rfl) (by simp only [List.length_append, gGrid_len, gRow_len]; omega) w hbw4 (by omega) ?_
          intro v' w8 hrow' hb8' hoth
          obtain ⟨A8, n8, c8, rfl⟩ := RowG.shape hrow'
          have hM8 := hM4.afterP hrow' hoth.2 hoth.1
          have h0 := h04.oth hoth.2 (fun e => by have := hM.1.lo e; omega)
          have hm := hm.oth hoth.2 (fun e => by have := hM.1.lo e; omega)
          refine hK.out _ _ (fun _ => bx2 (T := 57) (hm.bl slc)) ?_
          clear hK K
          try simp only [Act.put, List.setIfInBounds_toArray]
          refine wpAnyT_step (i := 7) (o := _) (fuel := 1) rfl (by kernel_rfl) (fun K hK => ?_)
          go_simp
          refine hK.out _ _ (fun _ => bx2 (T := 57) (hm.bl slc)) ?_
          clear hK K
          try simp only [Act.put, List.setIfInBounds_toArray, List.set_cons_zero, List.set_cons_succ]
          obtain ⟨z0', z1'⟩ := bx2 hm
          have zf := hm.frozen 0
          refine wpAnyT_step (i := 8) (o := _) (fuel := 0) rfl (by kernel_rfl) (fun K hK => ?_)
          go_simp
          refine hK.out _ _ (fun h => absurd rfl h) ?_
          clear hK K
          try simp only [Act.put, List.setIfInBounds_toArray]
          refine wpAnyT_done (by kernel_rfl) ?_
          go_wp2_with fail
          go_roundw
          case rel => exact ⟨x + 1, .slice A8 n8 c8, by omega, by go_num, by simpa using hm.set_ 0 (.slice A8 n8 c8), by rw [gRow_succ, ← List.append_assoc]; exact hM8.set (by show w.heap.size + 1 < _; omega) _, h0.far (by simp) _, Bl.set hb8' (by simp) _⟩
          case measure => simp [intOf]; omega
        · obtain rfl : x = 2 := by omega
          have e0 : ((2 : Nat) : Int) = 2 := rfl
          rw [e0]
          clear e0
          go_wp2_with fail
          go_roundw
          case rel => exact ⟨y + 1, vp, by omega, by go_num, hm, by rw [gGrid_succ]; exact hM, h0, hbw⟩
          case measure => simp [intOf]; omega
    · obtain rfl : y = 2 := by omega
      have e0 : ((2 : Nat) : Int) = 2 := rfl
      rw [e0]
      clear e0 hy hyk
      rw [← sqP_zero] at hM
      go_wp2_with fail
      go_loopw [39] (fun i wr => ∃ (y : Nat) (vp vt : Value), y ≤ 1 ∧ i = .int .i64 (y : Int) ∧ Blk wr (w.heap.size + 1) 57 #[vp, vt] ∧ MR (w.heap.size + 1 + 1) wr vp vt (sqP 1 y 0) (sqT 1 y 0) ∧ Blk wr w.heap.size 57 #[.slice none 0 0, .slice none 0 0] ∧ Bl w wr) (fun i _ => 1 - (intOf i).toNat)
      case atStart => exact ⟨0, vp, .slice none 0 0, by omega, rfl, hm, hM, h0, hbw⟩
      case round =>
        clear h0 hm hbw hM
        obtain ⟨y, vp, vt, hy, rfl, hm, hM, h0, hbw⟩ := hrel
        obtain ⟨wp, rfl⟩ : ∃ wp : World, wp = wr := ⟨_, rfl⟩
        by_cases hyk : y < 1
        · have hyi : (y : Int) < 1 := by omega
          go_wp2_with fail
          go_loopw [43] (fun i wr => ∃ (x : Nat) (vp vt : Value), x ≤ 1 ∧ i = .int .i64 (x : Int) ∧ Blk wr (w.heap.size + 1) 57 #[vp, vt] ∧ MR (w.heap.size + 1 + 1) wr vp vt (sqP 1 y x) (sqT 1 y x) ∧ Blk wr w.heap.size 57 #[.slice none 0 0, .slice none 0 0] ∧ Bl w wr) (fun i _ => 1 - (intOf i).toNat)
          case atStart => exact ⟨0, vp, vt, by omega, rfl, hm, hM, h0, hbw⟩
          case round =>
            clear h0 hm hbw hM
            obtain ⟨x, vp, vt, hx, rfl, hm, hM, h0, hbw⟩ := hrel
            by_cases hxk : x < 1
            · skip
              have hxi : (x : Int) < 1 := by omega
              have hlo : w.heap.size + 1 + 1 ≤ wr.heap.size := hm.lt
              obtain ⟨Ap, cp, rfl⟩ := RowG.shapeN hM.1
              obtain ⟨np, hnp⟩ : ∃ np, np = ctr 1 y x := ⟨_, rfl⟩
              rw [sqP_len, ← hnp] at hm hM
              have hnpb : np ≤ 1000 := by rw [hnp]; unfold ctr; omega
              have hnp := Lib.hid hnp; rename_i h_; clear h_
              obtain ⟨i0, i1⟩ := bx2 hm
              have hw1 : IntKind.i64.wrap (2 * (x : Int)) = 2 * (x : Int) := wrap_id _ (by omega) (by omega)
              have hw2 : IntKind.i64.wrap (2 * (x : Int) + 1) = 2 * (x : Int) + 1 := wrap_id _ (by omega) (by omega)
              have hw3 : IntKind.i64.wrap (2 * (y : Int)) = 2 * (y : Int) := wrap_id _ (by omega) (by omega)
              have hw4 : IntKind.i64.wrap (2 * (y : Int) + 1) = 2 * (y : Int) + 1 := wrap_id _ (by omega) (by omega)
              go_wp2_with fail
              have hHeld : (fun w' => (w'.cell? ⟨(w.heap.size + 1), 0, none⟩ = some (.slice Ap np cp) ∧ w'.cell? ⟨(w.heap.size + 1), 1, none⟩ = some (vt))) (wr.drew) := bx2 (T := 57) (hm.bl slc)
              refine wp_region_T 12 13 (fun w' => (w'.cell? ⟨(w.heap.size + 1), 0, none⟩ = some (.slice Ap np cp) ∧ w'.cell? ⟨(w.heap.size + 1), 1, none⟩ = some (vt))) rfl (by kernel_rfl) hHeld ?_
              refine wpAnyT_take (i := 0) (oi := _) (v := ?_) (fuel := 12) rfl (by kernel_rfl) (by kernel_rfl) (by kernel_rfl) (by kernel_rfl) (fun _ _ _ h => h) (by rfl) ?_ hHeld ?_
              rotate_left 1
              · (intro w' hSw; (try dsimp only at hSw); go_simp <;> with_reducible rfl)
              refine wpAnyT_take (i := 1) (oi := _) (v := ?_) (fuel := 11) rfl (by kernel_rfl) (by kernel_rfl) (by kernel_rfl) (by kernel_rfl) (fun _ _ _ h => h) (by rfl) ?_ hHeld ?_
              rotate_left 1
              · (intro w' hSw; (try dsimp only at hSw); go_simp <;> with_reducible rfl)
              refine wpAnyT_take (i := 2) (oi := _) (v := ?_) (fuel := 10) rfl (by kernel_rfl) (by kernel_rfl) (by kernel_rfl) (by kernel_rfl) (fun _ _ _ h => h) (by rfl) ?_ hHeld ?_
              rotate_left 1
              · (intro w' hSw; (try dsimp only at hSw); go_simp <;> with_reducible rfl)
              refine wpAnyT_take (i := 3) (oi := _) (v := ?_) (fuel := 9) rfl (by kernel_rfl) (by kernel_rfl) (by kernel_rfl) (by kernel_rfl) (fun _ _ _ h => h) (by rfl) ?_ hHeld ?_
              rotate_left 1
              · (intro w' hSw; (try dsimp only at hSw); go_simp <;> with_reducible rfl)
              refine wpAnyT_take (i := 4) (oi := _) (v := ?_) (fuel := 8) rfl (by kernel_rfl) (by kernel_rfl) (by kernel_rfl) (by kernel_rfl) (fun _ _ _ h => h) (by rfl) ?_ hHeld ?_
              rotate_left 1
              · (intro w' hSw; (try dsimp only at hSw); go_simp <;> with_reducible rfl)
              refine wpAnyT_take (i := 5) (oi := _) (v := ?_) (fuel := 7) rfl (by kernel_rfl) (by kernel_rfl) (by kernel_rfl) (by kernel_rfl) (fun _ _ _ h => h) (by rfl) ?_ hHeld ?_
              rotate_left 1
              · (intro w' hSw; (try dsimp only at hSw); go_simp <;> with_reducible rfl)
              refine wpAnyT_take (i := 6) (oi := _) (v := ?_) (fuel := 6) rfl (by kernel_rfl) (by kernel_rfl) (by kernel_rfl) (by kernel_rfl) (fun _ _ _ h => h) (by rfl) ?_ hHeld ?_
              rotate_left 1
              · (intro w' hSw; (try dsimp only at hSw); go_simp <;> with_reducible rfl)
              refine wpAnyT_take (i := 7) (oi := _) (v := ?_) (fuel := 5) rfl (by kernel_rfl) (by kernel_rfl) (by kernel_rfl) (by kernel_rfl) (fun _ _ _ h => h) (by rfl) ?_ hHeld ?_
              rotate_left 1
              · (intro w' hSw; (try dsimp only at hSw); go_simp <;> with_reducible rfl)
              clear hHeld
              simp only [Act.put, List.setIfInBounds_toArray]
              refine wpAnyT_step (i := 8) (o := _) (fuel := 4) rfl (by kernel_rfl) (fun K hK => ?_)
              go_simp
              refine (HalfPoint_any _ (2 * (x : Int) + 1) (2 * (y : Int) + 1) (by omega) (by omega) (by omega) (by omega)).mono ?_
              rintro e w2 ⟨s1, A1, n1, c1, B1, m1, d1, t1, C1, i1, e1, D1, j1, f1, rfl, hP, hb2⟩
              have hrow4 := RowG.bl (ptIn_keep 3) hM.1 (show Bl wr w2 from slc)
              have hM4 := hM.bl (show Bl wr w2 from slc)
              have hP4 := OwPN.sep (vt := vt) hP (fun g e => (hM.2.1.lo e).2)
              have h04 := h0.bl (show Bl wr w2 from slc)
              have hm := hm.bl (show Bl wr w2 from slc)
              have hbw4 : Bl w w2 := hbw.next (show Bl wr w2 from slc)
              refine hK.out _ _ (fun _ => bx2 (T := 57) (hm.bl slc)) ?_
              clear hK K
              try simp only [Act.put, List.setIfInBounds_toArray, List.set_cons_zero, List.set_cons_succ]
              refine wpAnyT_step (i := 9) (o := _) (fuel := 3) rfl (by kernel_rfl) (fun K hK => ?_)
              go_simp
              refine hK.out _ _ (fun _ => bx2 (T := 57) (hm.bl slc)) ?_
              clear hK K
              try simp only [Act.put, List.setIfInBounds_toArray, List.set_cons_zero, List.set_cons_succ]
              refine wpAnyT_step (i := 10) (o := _) (fuel := 2) rfl (by kernel_rfl) (fun K hK => ?_)
              refine step_append_ptS (appN_sep _) rfl (.tmp 50) (.tmp 58) rfl _ (by rfl) hrow4 hP4 (Nat.le_refl _) hlo 1 (by rfl) (by rw [sqP_len]; unfold ctr; omega) w hbw4 (by omega) ?_
              intro v' w8 hrow' hb8' hoth
              obtain ⟨A8, n8, c8, rfl⟩ := RowG.shape hrow'
              have hM8 := hM4.afterP hrow' hoth.2 hoth.1
              have h0 := h04.oth hoth.2 (fun e => by have := hM.1.lo e; omega)
              have hm := hm.oth hoth.2 (fun e => by have := hM.1.lo e; omega)
              refine hK.out _ _ (fun _ => bx2 (T := 57) (hm.bl slc)) ?_
              clear hK K
              try simp only [Act.put, List.setIfInBounds_toArray]
              refine wpAnyT_step (i := 11) (o := _) (fuel := 1) rfl (by kernel_rfl) (fun K hK => ?_)
              go_simp
              refine hK.out _ _ (fun _ => bx2 (T := 57) (hm.bl slc)) ?_
              clear hK K
              try simp only [Act.put, List.setIfInBounds_toArray, List.set_cons_zero, List.set_cons_succ]
              obtain ⟨z0', z1'⟩ := bx2 hm
              have zf := hm.frozen 0
              refine wpAnyT_step (i := 12) (o := _) (fuel := 0) rfl (by kernel_rfl) (fun K hK => ?_)
              go_simp
              refine hK.out _ _ (fun h => absurd rfl h) ?_
              clear hK K
              try simp only [Act.put, List.setIfInBounds_toArray]
              refine wpAnyT_done (by kernel_rfl) ?_
              clear hw1 hw2 hw3 hw4
              have hm9 : Blk (w8.setCell ⟨w.heap.size + 1, 0, none⟩ (.slice A8 n8 c8)) (w.heap.size + 1) 57 #[.slice A8 n8 c8, vt] := by simpa using hm.set_ 0 (.slice A8 n8 c8)
              have hM9 := hM8.set (q := ⟨w.heap.size + 1, 0, none⟩) (by show w.heap.size + 1 < _; omega) (.slice A8 n8 c8)
              have h09 : Blk (w8.setCell ⟨w.heap.size + 1, 0, none⟩ (.slice A8 n8 c8)) w.heap.size 57 #[.slice none 0 0, .slice none 0 0] := h0.far (by simp) _
              have hb9 : Bl w (w8.setCell ⟨w.heap.size + 1, 0, none⟩ (.slice A8 n8 c8)) := Bl.set hb8' (by simp) _
              generalize w8.setCell ⟨w.heap.size + 1, 0, none⟩ (.slice A8 n8 c8) = w9 at hm9 hM9 h09 hb9 ⊢
              clear hm hM8 h0 hb8' hM hM4 h04 hrow4 hP4 hbw hbw4 hrow' hoth hP hb2
              go_wp2_with fail
              refine wp_gen (fun W => ∃ gr, Blk W gr 3 (ringA 1 y x) ∧ Blk W (w.heap.size + 1) 57 #[.slice A8 n8 c8, vt] ∧ MR (w.heap.size + 1 + 1) W (.slice A8 n8 c8) vt (sqP 1 y x ++ [hpt x y]) (sqT 1 y x) ∧ Blk W w.heap.size 57 #[.slice none 0 0, .slice none 0 0] ∧ w.heap.size + 1 < gr ∧ (∀ g, gr ≤ g → g ≤ gr → vt.ownBlock ≠ Option.some g) ∧ Bl w W ∧ gr = w9.heap.size) ⟨w9.heap.size, Blk.newC (by simp [ringA, rg] <;> omega), hm9.alloc _, hM9.bl ((Bl.refl _).alloc _), h09.alloc _, hm9.lt, fun g h1 _ => hM9.2.1.ne h1, hb9.alloc _, rfl⟩ ?_
              rintro W ⟨gr, hl, hm, hM, h0, hgr, hvl, hbw, hg9⟩
              rw [← hg9]
              clear hg9
              go_loopw [79] (fun i wr => ∃ (k : Nat) (vt : Value), k ≤ 4 ∧ i = .int .i64 (k : Int) ∧ Blk wr (w.heap.size + 1) 57 #[.slice A8 n8 c8, vt] ∧ MR (w.heap.size + 1 + 1) wr (.slice A8 n8 c8) vt (sqP 1 y x ++ [hpt x y]) (sqT 1 y x ++ tCell 1 y x k) ∧ Blk wr w.heap.size 57 #[.slice none 0 0, .slice none 0 0] ∧ Blk wr gr 3 (ringA 1 y x) ∧ (∀ g, gr ≤ g → g ≤ gr → vt.ownBlock ≠ Option.some g) ∧ Bl w wr) (fun i _ => 4 - (intOf i).toNat)
              case atStart => exact ⟨0, vt, by omega, rfl, hm, by simpa [tCell] using hM, h0, hl, hvl, hbw⟩
              case round =>
                clear hm hM h0 hl hvl hbw
                obtain ⟨k, vt, hk, rfl, hm, hM, h0, hl, hvl, hbw⟩ := hrel
                by_cases hk4 : k < 4
                · skip
                  have hki : (k : Int) < 4 := by omega
                  have hq := hl
                  have hwk : IntKind.i64.wrap ((k : Int) + 1) = (k : Int) + 1 := wrap_id _ (by omega) (by omega)
                  have hki1 : (k : Int) + 1 < 5 := by omega
                  have hki2 : (k : Int) < 5 := by omega
                  have hki3 : (0 : Int) ≤ (k : Int) + 1 := by omega
                  have hgrl : gr < wr.heap.size := hl.lt
                  have hlo : w.heap.size + 1 + 1 ≤ wr.heap.size := by have := hm.lt; omega
                  have hrow4 := RowG.bl trIn_keep hM.2.1 (show Bl wr wr.drew from slc)
                  have hM4 := hM.bl (show Bl wr wr.drew from slc)
                  have hbw4 : Bl w wr.drew := hbw.drew
                  have hl4 := hl.bl (show Bl wr wr.drew from slc)
                  go_wp2_with fail
                  have hHeld : (fun w' => (w'.cell? ⟨(w.heap.size + 1), 0, none⟩ = some (.slice A8 n8 c8) ∧ w'.cell? ⟨(w.heap.size + 1), 1, none⟩ = some (vt)) ∧ (w'.cell? ⟨gr, k, none⟩ = some (.int .i64 (rg 1 y x k)) ∧ w'.cell? ⟨gr, k + 1, none⟩ = some (.int .i64 (rg 1 y x (k + 1))))) (wr.drew) := ⟨bx2 (T := 57) (hm.bl slc), ring_cells (T := 3) (hq.bl slc) hk4⟩
                  refine wp_region_T 16 17 (fun w' => (w'.cell? ⟨(w.heap.size + 1), 0, none⟩ = some (.slice A8 n8 c8) ∧ w'.cell? ⟨(w.heap.size + 1), 1, none⟩ = some (vt)) ∧ (w'.cell? ⟨gr, k, none⟩ = some (.int .i64 (rg 1 y x k)) ∧ w'.cell? ⟨gr, k + 1, none⟩ = some (.int .i64 (rg 1 y x (k + 1))))) rfl (by kernel_rfl) hHeld ?_
                  refine wpAnyT_take (i := 0) (oi := _) (v := ?_) (fuel := 16) rfl (by kernel_rfl) (by kernel_rfl) (by kernel_rfl) (by kernel_rfl) (fun _ _ _ h => h) (by rfl) ?_ hHeld ?_
                  rotate_left 1
                  · (intro w' hSw; (try dsimp only at hSw); go_simp <;> with_reducible rfl)
                  refine wpAnyT_take (i := 1) (oi := _) (v := ?_) (fuel := 15) rfl (by kernel_rfl) (by kernel_rfl) (by kernel_rfl) (by kernel_rfl) (fun _ _ _ h => h) (by rfl) ?_ hHeld ?_
                  rotate_left 1
                  · (intro w' hSw; (try dsimp only at hSw); go_simp <;> with_reducible rfl)
                  refine wpAnyT_take (i := 2) (oi := _) (v := ?_) (fuel := 14) rfl (by kernel_rfl) (by kernel_rfl) (by kernel_rfl) (by kernel_rfl) (fun _ _ _ h => h) (by rfl) ?_ hHeld ?_
                  rotate_left 1
                  · (intro w' hSw; (try dsimp only at hSw); go_simp <;> with_reducible rfl)
                  refine wpAnyT_take (i := 3) (oi := _) (v := ?_) (fuel := 13) rfl (by kernel_rfl) (by kernel_rfl) (by kernel_rfl) (by kernel_rfl) (fun _ _ _ h => h) (by rfl) ?_ hHeld ?_
                  rotate_left 1
                  · (intro w' hSw; (try dsimp only at hSw); go_simp <;> with_reducible rfl)
                  refine wpAnyT_take (i := 4) (oi := _) (v := ?_) (fuel := 12) rfl (by kernel_rfl) (by kernel_rfl) (by kernel_rfl) (by kernel_rfl) (fun _ _ _ h => h) (by rfl) ?_ hHeld ?_
                  rotate_left 1
                  · (intro w' hSw; (try dsimp only at hSw); go_simp <;> with_reducible rfl)
                  refine wpAnyT_take (i := 5) (oi := _) (v := ?_) (fuel := 11) rfl (by kernel_rfl) (by kernel_rfl) (by kernel_rfl) (by kernel_rfl) (fun _ _ _ h => h) (by rfl) ?_ hHeld ?_
                  rotate_left 1
                  · (intro w' hSw; (try dsimp only at hSw); go_simp <;> with_reducible rfl)
                  refine wpAnyT_take (i := 6) (oi := _) (v := ?_) (fuel := 10) rfl (by kernel_rfl) (by kernel_rfl) (by kernel_rfl) (by kernel_rfl) (fun _ _ _ h => h) (by rfl) ?_ hHeld ?_
                  rotate_left 1
                  · (intro w' hSw; (try dsimp only at hSw); go_simp <;> with_reducible rfl)
                  refine wpAnyT_take (i := 7) (oi := _) (v := ?_) (fuel := 9) rfl (by kernel_rfl) (by kernel_rfl) (by kernel_rfl) (by kernel_rfl) (fun _ _ _ h => h) (by rfl) ?_ hHeld ?_
                  rotate_left 1
                  · (intro w' hSw; (try dsimp only at hSw); go_simp <;> with_reducible rfl)
                  refine wpAnyT_take (i := 8) (oi := _) (v := ?_) (fuel := 8) rfl (by kernel_rfl) (by kernel_rfl) (by kernel_rfl) (by kernel_rfl) (fun _ _ _ h => h) (by rfl) ?_ hHeld ?_
                  rotate_left 1
                  · (intro w' hSw; (try dsimp only at hSw); go_simp <;> with_reducible rfl)
                  refine wpAnyT_take (i := 9) (oi := _) (v := ?_) (fuel := 7) rfl (by kernel_rfl) (by kernel_rfl) (by kernel_rfl) (by kernel_rfl) (fun _ _ _ h => h) (by rfl) ?_ hHeld ?_
                  rotate_left 1
                  · (intro w' hSw; (try dsimp only at hSw); go_simp <;> with_reducible rfl)
                  refine wpAnyT_take (i := 10) (oi := _) (v := ?_) (fuel := 6) rfl (by kernel_rfl) (by kernel_rfl) (by kernel_rfl) (by kernel_rfl) (fun _ _ _ h => h) (by rfl) ?_ hHeld ?_
                  rotate_left 1
                  · (intro w' hSw; (try dsimp only at hSw); go_simp <;> with_reducible rfl)
                  refine wpAnyT_take (i := 11) (oi := _) (v := ?_) (fuel := 5) rfl (by kernel_rfl) (by kernel_rfl) (by kernel_rfl) (by kernel_rfl) (fun _ _ _ h => h) (by rfl) ?_ hHeld ?_
                  rotate_left 1
                  · (intro w' hSw; (try dsimp only at hSw); go_simp <;> with_reducible rfl)
                  refine wpAnyT_take (i := 12) (oi := _) (v := ?_) (fuel := 4) rfl (by kernel_rfl) (by kernel_rfl) (by kernel_rfl) (by kernel_rfl) (fun _ _ _ h => h) (by rfl) ?_ hHeld ?_
                  rotate_left 1
                  · (intro w' hSw; (try dsimp only at hSw); go_simp <;> with_reducible rfl)
                  clear hHeld
                  simp only [Act.put, List.setIfInBounds_toArray]
                  refine wpAnyT_step (i := 13) (o := _) (fuel := 3) rfl (by kernel_rfl) (fun K hK => ?_)
                  go_simp
                  refine hK.out _ _ (fun _ => ⟨bx2 (T := 57) (hm.bl slc), ring_cells (T := 3) (hq.bl slc) hk4⟩) ?_
                  clear hK K
                  try simp only [Act.put, List.setIfInBounds_toArray, List.set_cons_zero, List.set_cons_succ]
                  refine wpAnyT_step (i := 14) (o := _) (fuel := 2) rfl (by kernel_rfl) (fun K hK => ?_)
                  refine step_append_triS (ta := (np : Int)) (tb := rg 1 y x k) (tc := rg 1 y x (k + 1)) (tr := 0) (tv := 0) rfl (.tmp 83) (.tmp 95) rfl _ (by rfl) hrow4 hlo 1 (by rfl) (by rw [List.length_append, sqT_len, tCell_len]; omega) w hbw4 (by omega) ?_
                  intro v' w8 hrow' hb8' hoth
                  obtain ⟨A9, n9, c9, rfl⟩ := RowG.shape hrow'
                  rw [List.append_assoc, show (tCell 1 y x k ++ [(⟨(np : Int), rg 1 y x k, rg 1 y x (k + 1), 0, 0⟩ : TriD)]) = tCell 1 y x (k + 1) by rw [tCell_succ, hnp.out]; rfl] at hrow'
                  have hM8 := hM4.afterT hrow' hoth.2 hoth.1
                  have h0 := h0.oth hoth.2 (fun e => by have := hM.2.1.lo e; omega)
                  have hm := hm.oth hoth.2 (fun e => by have := hM.2.1.lo e; omega)
                  have hl8 := hl4.oth hoth.2 (hvl _ (Nat.le_refl _) (by omega))
                  have hq := hq.oth hoth.2 (hvl _ (Nat.le_refl _) (by omega))
                  have hvl8 : ∀ g, gr ≤ g → g ≤ gr → (Value.slice A9 n9 c9).ownBlock ≠ Option.some g := fun g h1 h2 => (hoth.2 g (by show g < wr.heap.size; omega) (hvl g h1 h2)).2
                  refine hK.out _ _ (fun _ => ⟨bx2 (T := 57) (hm.bl slc), ring_cells (T := 3) (hq.bl slc) hk4⟩) ?_
                  clear hK K
                  try simp only [Act.put, List.setIfInBounds_toArray]
                  refine wpAnyT_step (i := 15) (o := _) (fuel := 1) rfl (by kernel_rfl) (fun K hK => ?_)
                  go_simp
                  refine hK.out _ _ (fun _ => ⟨bx2 (T := 57) (hm.bl slc), ring_cells (T := 3) (hq.bl slc) hk4⟩) ?_
                  clear hK K
                  try simp only [Act.put, List.setIfInBounds_toArray, List.set_cons_zero, List.set_cons_succ]
                  obtain ⟨z0', z1'⟩ := bx2 hm
                  have zf := hm.frozen 1
                  refine wpAnyT_step (i := 16) (o := _) (fuel := 0) rfl (by kernel_rfl) (fun K hK => ?_)
                  go_simp
                  refine hK.out _ _ (fun h => absurd rfl h) ?_
                  clear hK K
                  try simp only [Act.put, List.setIfInBounds_toArray]
                  refine wpAnyT_done (by kernel_rfl) ?_
                  go_wp2_with fail
                  go_roundw
                  case rel => exact ⟨k + 1, .slice A9 n9 c9, by omega, by go_num, by simpa using hm.set_ 1 (.slice A9 n9 c9), hM8.set (by show w.heap.size + 1 < _; omega) _, h0.far (by simp) _, hl8.far (show gr ≠ w.heap.size + 1 by omega) _, hvl8, Bl.set hb8' (by simp) _⟩
                  case measure => simp [intOf]; omega
                · obtain rfl : k = 4 := by omega
                  have e0 : ((4 : Nat) : Int) = 4 := rfl
                  rw [e0]
                  clear e0
                  go_wp2_with fail
                  go_roundw
                  case rel => exact ⟨x + 1, .slice A8 n8 c8, vt, by omega, by go_num, hm, by rw [sqP_succ, sqT_succ]; exact hM, h0, hbw⟩
                  case measure => simp [intOf]; omega
            · obtain rfl : x = 1 := by omega
              have e0 : ((1 : Nat) : Int) = 1 := rfl
              rw [e0]
              clear e0
              go_wp2_with fail
              go_roundw
              case rel => exact ⟨y + 1, vp, vt, by omega, by go_num, hm, by rw [sqP_row, sqT_row]; exact hM, h0, hbw⟩
              case measure => simp [intOf]; omega
        · obtain rfl : y = 1 := by omega
          have e0 : ((1 : Nat) : Int) = 1 := rfl
          rw [e0]
          clear e0 hy hyk
          obtain ⟨A1, c1, B1, d1, rfl, rfl, hO⟩ := hM.out (by rw [sqP_len]; unfold ctr; omega) (by rw [sqT_len]; omega) (by rw [sqP_len]; unfold ctr; omega) (by rw [sqT_len]; omega)
          generalize (sqP 1 1 0).length = n1 at hO hm
          generalize (sqT 1 1 0).length = m1 at hO hm
          obtain ⟨i0, i1⟩ := bx2 hm
          obtain ⟨j0, j1⟩ := bx2 h0
          have f0 := h0.frozen 0
          have f1 := h0.frozen 1
          have hlw : w.heap.size < wp.heap.size := h0.lt
          go_wp2_with fail
          exact bodyPost_ret (v := .agg #[.slice A1 n1 c1, .slice B1 m1 d1]) (by simp [results, Tryz.results35, go_sem, j0, j1]) rfl ⟨_, _, _, _, _, _, rfl, ((hO.set (.inl (by show w.heap.size < _; omega)) _).set (.inl (by show w.heap.size < _; omega)) _).low (by omega) (by simp), Bl.set (Bl.set hbw (by simp) _) (by simp) _⟩
end

end Go.Proofs.YtajlahjghapbkaaGreat
