/- Lemmas. -/
import Derived.Test.YtajlahjghapbkaaGreatRows
import Derived.Test.YtajlahjghapbkaaGreatPUndoM25
import Derived.Test.YtajlahjghapbkaaGreatPUndoM17
import Derived.Test.YtajlahjghapbkaaGreatPUndoM22
import Derived.Test.YtajlahjghapbkaaGreatPUndoM18
import Derived.Test.YtajlahjghapbkaaGreatPUndoM09
import Derived.Test.YtajlahjghapbkaaGreatPUndoM23
namespace Go.Proofs.YtajlahjghapbkaaGreat
section
open Go.RowKit

/-- What the kernel checks of a mesh whose points lie at xs, ys. -/
def okT (n : Nat) (xs ys : List Int) (ts : List TriD) : Bool :=
  decide (TrsIx n ts) && (decide (∀ k, k < ts.length → (0 ≤ (pix ts k).region ∧ (pix ts k).region ≤ 2) ∧ 0 ≤ (pix ts k).level ∧ (pix ts k).level ≤ 60) &&
    (decide (∀ k, k < ts.length → 0 < trn xs ys (pix ts k).a (pix ts k).b (pix ts k).c) &&
      (decide (∀ k, k < ts.length → ∀ j, j < k → sepI xs ys (pix ts j) (pix ts k) = true ∨ sepI xs ys (pix ts k) (pix ts j) = true) &&
        (decide (∀ k, k < n → usedTo ts ts.length k = true) && decide (NoIn n xs ys ts)))))
theorem usedTo_ex {ts : List TriD} {i : Nat} : ∀ {k : Nat}, usedTo ts k i = true → ∃ j, j < k ∧ ((pix ts j).a = i ∨ (pix ts j).b = i ∨ (pix ts j).c = i)
  | 0, h => by cases h
  | k + 1, h => by
    unfold usedTo at h
    simp only [Bool.or_eq_true, decide_eq_true_eq] at h
    rcases h with h | h
    · obtain ⟨j, hj, h2⟩ := usedTo_ex h
      exact ⟨j, by omega, h2⟩
    · exact ⟨k, by omega, h⟩
def okP (pts : List (Rat × Rat)) : Bool :=
  decide (∀ k, k < pts.length → ∀ j, j < k → pix pts k ≠ pix pts j) && (decide (∀ k, k < pts.length → SmQ (pix pts k).1 ∧ SmQ (pix pts k).2) && decide (∀ k, k < pts.length → shS (shTo pts k) (pix pts k).1.den ≤ 268435456 ∧ shTo pts (k + 1) ≤ 268435456))
theorem MeshOk.of {m : MeQ} (n : Nat) (xs ys : List Int) (hn : m.pts.length = n) (hx : plXs m.pts n = xs) (hy : plYs m.pts n = ys) (h1 : (3 ≤ n ∧ n ≤ 40) ∧ 1 ≤ m.tris.length ∧ m.tris.length ≤ 48) (h2 : okP m.pts = true) (h3 : PlB n xs ys) (h4 : okT n xs ys m.tris = true) : MeshOk m := by
  unfold okP at h2
  unfold okT at h4
  simp only [Bool.and_eq_true, decide_eq_true_eq] at h2 h4
  obtain ⟨a1, a2, a3⟩ := h2
  obtain ⟨b1, b2, b3, b4, b5, b6⟩ := h4
  subst hn
  subst hx
  subst hy
  exact ⟨h1.1.1, h1.1.2, h1.2.1, h1.2.2, a1, ⟨a2, a3, h3⟩, b1, b2, b3, b4, fun k hk => usedTo_ex (b5 k hk), b6⟩
def qp1 (x y : Nat) : Rat × Rat := (mkRat (x : Int) 1, mkRat (y : Int) 1)
end

section
open Go.RowKit

theorem info_bool : (Tryz.prog.info? 4).map (fun i => (i.zero, i.size, i.bytes)) = some (some (.bool false), 1, 1) := by kernel_rfl
def mkBools (n : Nat) : Obj := .cells (madeCells #[.bool false] n) 4
theorem make_bools (n : Nat) (hn : n ≤ 1048576) (w : World) :
    (Instr.makeSlice 124 (.int .i64 (n : Int)) (.int .i64 (n : Int))).run Tryz.prog w = .ok (.slice (some ⟨w.heap.size, 0, none⟩) n n) (w.alloc (mkBools n)) := by
  obtain ⟨i0, hi, hz0, hz1, hz2⟩ := info_parts info_bool
  have := run_make (P := Tryz.prog) w 124 4 i0 (.bool false) Tryz.underlying124 hi hz0 .i64 .i64 (n : Int) (n : Int) (by omega) (by omega) (by rw [hz2]; omega) (by omega)
  rw [this, hz1]
  simp [mkBools, Value.cells]
theorem OwU.made (w : World) (n : Nat) (b : Nat → Bool) (hb : ∀ i, b i = false) : OwU (w.alloc (mkBools n)) w.heap.size n b := by
  refine ⟨_, heap_alloc_new w _, by simp [size_madeCells], fun i hi => ?_⟩
  · rw [hb i, ← Array.getElem?_toList, toList_madeCells_one]
    simp [hi]

theorem usedLast (ts : List TriD) {k : Nat} {t : TriD} (h : pix ts k = t) (x : Nat) : (usedTo ts k x || (decide (t.a = (x : Int)) || (decide (t.b = (x : Int)) || decide (t.c = (x : Int))))) = usedTo ts (k + 1) x := by
  subst h
  rfl
def usedIn (ts : List TriD) (k : Nat) (t : TriD) : Nat → Nat → Bool
  | 0, x => usedTo ts k x
  | 1, x => usedTo ts k x || decide (t.a = (x : Int))
  | 2, x => usedTo ts k x || (decide (t.a = (x : Int)) || decide (t.b = (x : Int)))
  | _, x => usedTo ts k x || (decide (t.a = (x : Int)) || (decide (t.b = (x : Int)) || decide (t.c = (x : Int))))
theorem usedIn_step0 (ts : List TriD) (k : Nat) (t : TriD) (x : Nat) (h : 0 ≤ t.a) : (if x = t.a.toNat then true else usedIn ts k t 0 x) = usedIn ts k t 1 x := by
  simp only [usedIn]
  by_cases e : x = t.a.toNat
  · rw [if_pos e, decide_eq_true (by omega), Bool.or_true]
  · rw [if_neg e, decide_eq_false (by omega), Bool.or_false]
theorem usedIn_step1 (ts : List TriD) (k : Nat) (t : TriD) (x : Nat) (h : 0 ≤ t.b) : (if x = t.b.toNat then true else usedIn ts k t 1 x) = usedIn ts k t 2 x := by
  simp only [usedIn]
  by_cases e : x = t.b.toNat
  · rw [if_pos e, decide_eq_true (show t.b = (x : Int) by omega), Bool.or_true, Bool.or_true]
  · rw [if_neg e, decide_eq_false (show ¬ t.b = (x : Int) by omega), Bool.or_false]
theorem usedIn_step2 (ts : List TriD) (k : Nat) (t : TriD) (x : Nat) (h : 0 ≤ t.c) : (if x = t.c.toNat then true else usedIn ts k t 2 x) = usedIn ts k t 3 x := by
  simp only [usedIn]
  by_cases e : x = t.c.toNat
  · rw [if_pos e, decide_eq_true (show t.c = (x : Int) by omega), Bool.or_true, Bool.or_true, Bool.or_true]
  · rw [if_neg e, decide_eq_false (show ¬ t.c = (x : Int) by omega), Bool.or_false]
set_option maxRecDepth 100000 in
set_option maxHeartbeats 32000000 in
theorem IsMesh_yes (w : World) {gp n cp gt m ct : Nat} {mq : MeQ} (hp : RdPS w (some ⟨gp, 0, none⟩) n cp (mq.pts.map tp)) (ht : RdTS w (some ⟨gt, 0, none⟩) m ct mq.tris) (hok : MeshOk mq) :
    Calls Tryz.prog 38 #[.agg #[.slice (some ⟨gp, 0, none⟩) n cp, .slice (some ⟨gt, 0, none⟩) m ct]] w fun e w' => e = .returned (.bool true) ∧ Bl w w' := by
  have hn : mq.pts.length = n := by rw [← hp.len, List.length_map]
  have hm : mq.tris.length = m := ht.len
  obtain ⟨n3, n40, t1, t48, hdiff, hpl, hixs, hreg, hpos, hsep, hused, hno⟩ := id hok
  rw [hn] at n3 n40 hixs hpos hsep hused hno
  rw [hm] at t1 t48 hreg hpos hsep
  have hB : PlB n (plXs mq.pts n) (plYs mq.pts n) := by have := hpl.2.2; rw [hn] at this; exact this
  have hpo := Lib.hid hok.ptsOk
  have hpl := Lib.hid hpl; rename_i h_; clear h_
  have hixs := Lib.hid hixs; rename_i h_; clear h_
  have hreg := Lib.hid hreg; rename_i h_; clear h_
  have hpos := Lib.hid hpos; rename_i h_; clear h_
  have hsep := Lib.hid hsep; rename_i h_; clear h_
  have hused := Lib.hid hused; rename_i h_; clear h_
  have hno := Lib.hid hno; rename_i h_; clear h_
  have hn := Lib.hid hn; rename_i h_; clear h_
  have hm := Lib.hid hm; rename_i h_; clear h_
  have hcapt := ht.cap
  clear hdiff hok
  go_enter Tryz.func38, Tryz.ntmps38
  go_wp2_with fail
  refine calls_gen (fun W => Bl w W ∧ Blk W w.heap.size 57 #[.slice (some ⟨gp, 0, none⟩) n cp, .slice (some ⟨gt, 0, none⟩) m ct]) ⟨slc, bts⟩ ?_
  rintro W ⟨hbW, hM⟩
  refine (arePoints_yes _ (RdPS.bl hp hbW) hpo.out (by omega) (by omega)).mono ?_
  rintro e w1 ⟨rfl, hb1⟩
  have hM := hM.bl hb1
  have hbW := hbW.next hb1
  clear hb1
  obtain ⟨r0, r1⟩ := bx2 hM
  go_wp2_with fail
  refine (within_yes _ (show (1 : Int) ≤ (m : Int) by omega) (show (m : Int) ≤ 48 by omega)).mono ?_
  rintro e w2 ⟨rfl, q1, rfl⟩
  have hM := hM.bl ((Bl.refl w1).drewN q1)
  have hbW := hbW.next ((Bl.refl w1).drewN q1)
  obtain ⟨w3, hw3⟩ : ∃ w3, w1.drewN q1 = w3 := ⟨_, rfl⟩
  rw [hw3] at hM hbW ⊢
  clear r0 r1 hw3
  obtain ⟨r0, r1⟩ := bx2 hM
  go_wp2_with fail
  refine (place_yes _ (RdPS.bl hp hbW) hpl.out (by omega) (by omega)).mono ?_
  rintro e w4 ⟨gx, cx, gy, cy, rfl, hx, hy, hb4⟩
  have hM := hM.bl hb4
  have hbW := hbW.next hb4
  have hMl := hM.lt
  clear r0 r1 hb4
  obtain ⟨r0, r1⟩ := bx2 hM
  have hmk := fun W : World => make_bools n (by omega) W
  go_wp2_with fail
  refine wp_gen (fun W5 => Bl w4 W5 ∧ ∃ gb gu, Blk W5 gb 122 #[.slice (some ⟨gp, 0, none⟩) n cp, .slice (some ⟨gx, 0, none⟩) n cx, .slice (some ⟨gy, 0, none⟩) n cy] ∧ OwU W5 gu n (usedTo mq.tris 0) ∧ gb = w4.heap.size ∧ gu = w4.heap.size + 1) ⟨by exact slc, _, _, by exact bts, by have := OwU.made (w4.alloc (.cells #[.slice (some ⟨gp, 0, none⟩) n cp, .slice (some ⟨gx, 0, none⟩) n cx, .slice (some ⟨gy, 0, none⟩) n cy] 122)) n (usedTo mq.tris 0) (fun _ => rfl); rw [World.size_alloc] at this; exact this, rfl, rfl⟩ ?_
  rintro W5 ⟨hb5, gb, gu, hQ, hU, hgb, hgu⟩
  rw [← hgu, ← hgb]
  have hgb4 : w4.heap.size ≤ gb := by omega
  have hgu4 : w4.heap.size ≤ gu := by omega
  have hbu : gb ≠ gu := by omega
  clear hgb hgu hmk r0 r1
  go_loopw [32] (fun v wr => ∃ k : Nat, k ≤ m ∧ v = .int .i64 (k : Int) ∧ OwU wr gu n (usedTo mq.tris k) ∧ Blk wr gb 122 #[.slice (some ⟨gp, 0, none⟩) n cp, .slice (some ⟨gx, 0, none⟩) n cx, .slice (some ⟨gy, 0, none⟩) n cy] ∧ Bl w4 wr) (fun v _ => m - (intOf v).toNat)
  case atStart => exact ⟨0, by omega, rfl, hU, hQ, hb5⟩
  case round =>
    clear hU hQ hb5
    obtain ⟨k, hk, rfl, hU, hQ, hbw⟩ := hrel
    obtain ⟨wo, rfl⟩ : ∃ wo : World, wo = wr := ⟨_, rfl⟩
    by_cases hkm : k < m
    · have hki : (k : Int) < (m : Int) := by omega
      have hbo := hbW.next hbw
      obtain ⟨c0, c1, c2, c3, c4⟩ := trs_lit (RdTS.bl ht hbo) hkm
      have htx := hixs.out k (by rw [hm.out]; exact hkm)
      have htx2 := Lib.hid htx
      obtain ⟨⟨ta0, ta1⟩, ⟨tb0, tb1⟩, tc0, tc1⟩ := htx
      obtain ⟨⟨hr0, hr1⟩, hl0, hl1⟩ := hreg.out k hkm
      have hps := Lib.hid (hpos.out k hkm)
      have hsp := Lib.hid (hsep.out k hkm)
      obtain ⟨t, hte⟩ : ∃ t, pix mq.tris k = t := ⟨_, rfl⟩
      have husd := Lib.hid (fun x => usedLast mq.tris hte x)
      rw [hte] at c0 c1 c2 c3 c4 htx2 ta0 ta1 tb0 tb1 tc0 tc1 hr0 hr1 hl0 hl1 hps hsp
      clear hte
      obtain ⟨p0, p1, p2⟩ := bx3 hQ
      have hQl := hQ.lt
      go_wp2_with fail
      refine calls_gen (fun W6 => Bl wo W6 ∧ ∃ g6, Blk W6 g6 73 #[.int .i64 t.a, .int .i64 t.b, .int .i64 t.c, .int .i64 t.region, .int .i64 t.level] ∧ g6 = wo.heap.size) ⟨by exact slc, _, by exact bts, rfl⟩ ?_
      rintro W6 ⟨hb6, g6, h6, hg6⟩
      rw [← hg6]
      have hg64 : w4.heap.size ≤ g6 := by have := hbw.size; omega
      have hu6 : gu ≠ g6 := by have := hU.lt; omega
      clear c0 c1 c2 c3 c4 p0 p1 p2 hg6
      have hQ := hQ.bl hb6
      have hU := hU.bl hb6
      refine (triangleOk_yes _ (hx.bl (hbw.next hb6)) (hy.bl (hbw.next hb6)) hB t htx2.out hr0 hr1 hl0 hl1 hps.out).mono ?_
      rintro e w7 ⟨rfl, hb7⟩
      have hQ := hQ.bl hb7
      have hU := hU.bl hb7
      have h6 := h6.bl hb7
      have hb67 := hb6.next hb7
      clear hb6 hb7
      obtain ⟨c0, c1, c2, c3, c4⟩ := bx5 h6
      have h6l := h6.lt
      go_wp2_with fail
      refine (corners_any _ t).mono ?_
      rintro e w8 ⟨rfl, hb8⟩
      have hQ := hQ.bl hb8
      have hU := hU.bl hb8
      have h6 := h6.bl hb8
      have hb68 := hb67.next hb8
      clear hb67 hb8 c0 c1 c2 c3 c4
      have hb48 := hbw.next hb68
      go_wp2_with fail
      go_loopw [43] (fun v wr => ∃ i : Nat, i ≤ 3 ∧ v = .int .i64 (i : Int) ∧ OwU wr gu n (usedIn mq.tris k t i) ∧ Blk wr gb 122 #[.slice (some ⟨gp, 0, none⟩) n cp, .slice (some ⟨gx, 0, none⟩) n cx, .slice (some ⟨gy, 0, none⟩) n cy] ∧ Blk wr g6 73 #[.int .i64 t.a, .int .i64 t.b, .int .i64 t.c, .int .i64 t.region, .int .i64 t.level] ∧ Bl w4 wr) (fun v _ => 3 - (intOf v).toNat)
      case atStart => exact ⟨0, by omega, rfl, hU, hQ, h6, hb48⟩
      case round =>
        clear hU hQ h6 hb48 hb68
        obtain ⟨i, hi, rfl, hUi, hQ, h6, hbi⟩ := hrel
        rcases (show i = 0 ∨ i = 1 ∨ i = 2 ∨ i = 3 by omega) with rfl | rfl | rfl | rfl
        · skip
          have e0 : ((0 : Nat) : Int) = 0 := rfl
          rw [e0]
          clear e0 hi
          obtain ⟨wj, rfl⟩ : ∃ wj : World, wj = wr := ⟨_, rfl⟩
          have hix : ∀ W : World, (Instr.index 119 (.agg #[.int .i64 t.a, .int .i64 t.b, .int .i64 t.c]) (.int .i64 0)).run Tryz.prog W = .ok (.int .i64 t.a) W := fun _ => by kernel_rfl
          have ux := hUi.cell (i := t.a.toNat) (by omega)
          have uf := hUi.frozen t.a.toNat
          go_wp2_with fail
          go_roundw
          case rel => exact ⟨1, by omega, rfl, (hUi.set t.a.toNat true).congr (fun x hx => usedIn_step0 mq.tris k t x ta0), hQ.far hbu _, h6.far (Ne.symm hu6) _, Bl.set hbi hgu4 _⟩
          case measure => simp [intOf]
        · skip
          have e0 : ((1 : Nat) : Int) = 1 := rfl
          rw [e0]
          clear e0 hi
          obtain ⟨wj, rfl⟩ : ∃ wj : World, wj = wr := ⟨_, rfl⟩
          have hix : ∀ W : World, (Instr.index 119 (.agg #[.int .i64 t.a, .int .i64 t.b, .int .i64 t.c]) (.int .i64 1)).run Tryz.prog W = .ok (.int .i64 t.b) W := fun _ => by kernel_rfl
          have ux := hUi.cell (i := t.b.toNat) (by omega)
          have uf := hUi.frozen t.b.toNat
          go_wp2_with fail
          go_roundw
          case rel => exact ⟨2, by omega, rfl, (hUi.set t.b.toNat true).congr (fun x hx => usedIn_step1 mq.tris k t x tb0), hQ.far hbu _, h6.far (Ne.symm hu6) _, Bl.set hbi hgu4 _⟩
          case measure => simp [intOf]
        · skip
          have e0 : ((2 : Nat) : Int) = 2 := rfl
          rw [e0]
          clear e0 hi
          obtain ⟨wj, rfl⟩ : ∃ wj : World, wj = wr := ⟨_, rfl⟩
          have hix : ∀ W : World, (Instr.index 119 (.agg #[.int .i64 t.a, .int .i64 t.b, .int .i64 t.c]) (.int .i64 2)).run Tryz.prog W = .ok (.int .i64 t.c) W := fun _ => by kernel_rfl
          have ux := hUi.cell (i := t.c.toNat) (by omega)
          have uf := hUi.frozen t.c.toNat
          go_wp2_with fail
          go_roundw
          case rel => exact ⟨3, by omega, rfl, (hUi.set t.c.toNat true).congr (fun x hx => usedIn_step2 mq.tris k t x tc0), hQ.far hbu _, h6.far (Ne.symm hu6) _, Bl.set hbi hgu4 _⟩
          case measure => simp [intOf]
        · have e0 : ((3 : Nat) : Int) = 3 := rfl
          rw [e0]
          clear e0 hi
          obtain ⟨wj, rfl⟩ : ∃ wj : World, wj = wr := ⟨_, rfl⟩
          have hMj := hM.bl hbi
          have hMjl := hMj.lt
          obtain ⟨r0, r1⟩ := bx2 hMj
          go_wp2_with fail
          clear r0 r1
          go_loopw [55] (fun v wr => ∃ j : Nat, j ≤ k ∧ v = .int .i64 (j : Int) ∧ Bl wj wr) (fun v _ => k - (intOf v).toNat)
          case atStart => exact ⟨0, by omega, rfl, Bl.refl _⟩
          case round =>
            obtain ⟨j, hj, rfl, hbj⟩ := hrel
            obtain ⟨wp, rfl⟩ : ∃ wp : World, wp = wr := ⟨_, rfl⟩
            have hb4p := hbi.next hbj
            by_cases hjk : j < k
            · have hji : (j : Int) < (k : Int) := by omega
              obtain ⟨c0, c1, c2, c3, c4⟩ := trs_lit (RdTS.bl ht (hbW.next hb4p)) (show j < m by omega)
              have hsx := Lib.hid (hixs.out j (by rw [hm.out]; omega))
              have hsj := Lib.hid (hsp.out j hjk)
              obtain ⟨s, hse⟩ : ∃ s, pix mq.tris j = s := ⟨_, rfl⟩
              rw [hse] at c0 c1 c2 c3 c4 hsx hsj
              clear hse
              have hQ2 := hQ.bl hbj
              have h62 := h6.bl hbj
              have hQl := hQ2.lt
              have h6l := h62.lt
              obtain ⟨p0, p1, p2⟩ := bx3 hQ2
              obtain ⟨d0, d1, d2, d3, d4⟩ := bx5 h62
              go_wp2_with fail
              refine calls_gen (fun W9 => Bl wp W9 ∧ ∃ g9, Blk W9 g9 73 #[.int .i64 s.a, .int .i64 s.b, .int .i64 s.c, .int .i64 s.region, .int .i64 s.level] ∧ g9 = wp.heap.size) ⟨by exact slc, _, by exact bts, rfl⟩ ?_
              rintro W9 ⟨hb9, g9, h9, hg9⟩
              rw [← hg9]
              clear c0 c1 c2 c3 c4 p0 p1 p2 d0 d1 d2 d3 d4 hg9
              have hQ2 := hQ2.bl hb9
              have h62 := h62.bl hb9
              refine (separates_any _ (hx.bl (hb4p.next hb9)) (hy.bl (hb4p.next hb9)) hB s t hsx.out htx2.out).mono ?_
              by_cases h1 : sepI (plXs mq.pts n) (plYs mq.pts n) s t = true
              · rw [h1]
                rintro e w10 ⟨rfl, hb10⟩
                have h1 := Lib.hid h1; rename_i h_; clear h_
                go_wp2_with fail
                go_roundw
                case rel => exact ⟨j + 1, by omega, by go_num, hbj.next (hb9.next hb10)⟩
                case measure => simp [intOf]; omega
              · have h2 : sepI (plXs mq.pts n) (plYs mq.pts n) t s = true := hsj.out.resolve_left h1
                rw [Bool.eq_false_iff.2 h1]
                rintro e w10 ⟨rfl, hb10⟩
                have h1 := Lib.hid h1; rename_i h_; clear h_
                have h2 := Lib.hid h2; rename_i h_; clear h_
                have hQ2 := hQ2.bl hb10
                have h62 := h62.bl hb10
                have h92 := h9.bl hb10
                have hb910 := hb9.next hb10
                clear hb9 hb10
                have hQl := hQ2.lt
                have h6l := h62.lt
                have h9l := h92.lt
                obtain ⟨p0, p1, p2⟩ := bx3 hQ2
                obtain ⟨d0, d1, d2, d3, d4⟩ := bx5 h62
                obtain ⟨c0, c1, c2, c3, c4⟩ := bx5 h92
                go_wp2_with fail
                refine (separates_any _ (hx.bl (hb4p.next hb910)) (hy.bl (hb4p.next hb910)) hB t s htx2.out hsx.out).mono ?_
                rw [h2.out]
                rintro e w11 ⟨rfl, hb11⟩
                go_wp2_with fail
                go_roundw
                case rel => exact ⟨j + 1, by omega, by go_num, hbj.next (hb910.next hb11)⟩
                case measure => simp [intOf]; omega
            · obtain rfl : j = k := by omega
              have hkm2 : ¬ (j : Int) < (j : Int) := by omega
              go_wp2_with fail
              go_roundw
              case rel => exact ⟨j + 1, by omega, by go_num, (hUi.bl hbj).congr (fun x _ => husd.out x), hQ.bl hbj, hb4p⟩
              case measure => simp [intOf]; omega
    · obtain rfl : k = m := by omega
      have hkm2 : ¬ (k : Int) < (k : Int) := by omega
      have hall : ∀ i, i < n → wo.cell? ⟨gu, i, none⟩ = some (.bool true) := by
        intro i hi
        obtain ⟨j, hj, h⟩ := hused.out i hi
        rw [hU.cell hi, usedTo_of (by rw [hm.out] at hj; exact hj) h]
      have hall := Lib.hid hall; rename_i h_; clear h_
      go_wp2_with fail
      refine (ContainsBool_no _ hall.out (by omega)).mono ?_
      rintro e w9 ⟨rfl, rfl⟩
      obtain ⟨p0, p1, p2⟩ := bx3 hQ
      obtain ⟨r0, r1⟩ := bx2 (hM.bl hbw)
      go_wp2_with fail
      refine (hasInside_no _ (hx.bl hbw) (hy.bl hbw) hB (RdTS.bl ht (hbW.next hbw)) hixs.out hno.out (by omega)).mono ?_
      rintro e w10 ⟨rfl, hb10⟩
      go_wp2_with fail
      go_ret
      exact ⟨rfl, (hbW.next hbw).next hb10⟩
end

section
open Go.RowKit

def EdIx (n : Nat) (l : List EdD) : Prop := ∀ e ∈ l, (0 ≤ e.a ∧ e.a < n) ∧ 0 ≤ e.b ∧ e.b < n
theorem mem_modify {f : EdD → EdD} : ∀ {l : List EdD} {p : Nat} {e : EdD}, e ∈ l.modify p f → e ∈ l ∨ ∃ x, x ∈ l ∧ e = f x
  | [], p, e, h => by simp at h
  | y :: ys, 0, e, h => by
    rw [List.modify_zero_cons, List.mem_cons] at h
    rcases h with h | h
    · exact .inr ⟨y, by simp, h⟩
    · exact .inl (by simp [h])
  | y :: ys, p + 1, e, h => by
    rw [List.modify_succ_cons, List.mem_cons] at h
    rcases h with h | h
    · exact .inl (by simp [h])
    · rcases mem_modify h with h | ⟨x, h1, h2⟩
      · exact .inl (by simp [h])
      · exact .inr ⟨x, by simp [h1], h2⟩
theorem EdIx.put {n : Nat} {l : List EdD} {a b k : Int} (h : EdIx n l) (ha : 0 ≤ a ∧ a < n) (hb : 0 ≤ b ∧ b < n) : EdIx n (putE l a b k) := by
  have hn : ((0 : Int) ≤ (newE a b).a ∧ (newE a b).a < (n : Int)) ∧ (0 : Int) ≤ (newE a b).b ∧ (newE a b).b < (n : Int) := by
    show ((0 : Int) ≤ min a b ∧ min a b < (n : Int)) ∧ (0 : Int) ≤ max a b ∧ max a b < (n : Int)
    omega
  have h2 : EdIx n (if fndE (newE a b) l then l else insE (newE a b) l) := by
    by_cases hf : fndE (newE a b) l = true
    · rw [if_pos hf]; exact h
    · rw [if_neg hf]
      intro e he
      unfold insE at he
      rw [List.mem_append, List.mem_cons] at he
      rcases he with he | rfl | he
      · exact h e (List.mem_of_mem_take he)
      · exact hn
      · exact h e (List.mem_of_mem_drop he)
  intro e he
  rcases mem_modify he with he | ⟨x, hx, rfl⟩
  · exact h2 e he
  · have := h2 x hx
    unfold setLR
    split <;> exact this
theorem edTo_ix {n : Nat} {ts : List TriD} (h : TrsIx n ts) : ∀ {k : Nat}, k ≤ ts.length → EdIx n (edTo ts k)
  | 0, _ => fun e he => by simp [edTo] at he
  | k + 1, hk => by
    obtain ⟨h1, h2, h3⟩ := h k (by omega)
    exact ((EdIx.put (edTo_ix h (by omega)) h1 h2).put h2 h3).put h3 h1
theorem EdIx.at_ {n : Nat} {l : List EdD} (h : EdIx n l) {k : Nat} (hk : k < l.length) : (0 ≤ (pix l k).a ∧ (pix l k).a < n) ∧ 0 ≤ (pix l k).b ∧ (pix l k).b < n := by
  refine h _ ?_
  unfold pix
  rw [List.getD_eq_getElem?_getD, List.getElem?_eq_getElem hk]
  exact List.getElem_mem hk
theorem OwL.any {E : TypeId} {base : Nat} {w : World} {v : Value} {l : List Int} (h : OwL E base w v l) (hl : l.length ≤ 9223372036854775807) : ∃ A c, v = .slice A l.length c ∧ RdI w A l.length c l := by
  obtain ⟨A, c, e, ho⟩ := h.own hl
  exact ⟨A, c, e, ho.rd⟩

/-- A mesh in memory. -/
def MeAt (w : World) (v : Value) (mq : MeQ) : Prop := ∃ gp n cp gt m ct, v = .agg #[.slice (some ⟨gp, 0, none⟩) n cp, .slice (some ⟨gt, 0, none⟩) m ct] ∧ RdPS w (some ⟨gp, 0, none⟩) n cp (mq.pts.map tp) ∧ RdTS w (some ⟨gt, 0, none⟩) m ct mq.tris
theorem MeAt.bl {w W : World} {v : Value} {mq : MeQ} (h : MeAt w v mq) (hb : Bl w W) : MeAt W v mq := by
  obtain ⟨gp, n, cp, gt, m, ct, e, hp, ht⟩ := h
  exact ⟨gp, n, cp, gt, m, ct, e, RdPS.bl hp hb, RdTS.bl ht hb⟩
end

section
open Go.RowKit

/-- The corners of triangle k. -/
def mc (mq : MeQ) (x : Int) : Rat × Rat := pix mq.pts x.toNat
noncomputable def arK (mq : MeQ) (k : Nat) : RatD := areaR (tp (mc mq (pix mq.tris k).a)) (tp (mc mq (pix mq.tris k).b)) (tp (mc mq (pix mq.tris k).c))
noncomputable def arTo (mq : MeQ) (k : Nat) : List RatD := (List.range k).map (arK mq)
theorem arTo_len (mq : MeQ) (k : Nat) : (arTo mq k).length = k := by simp [arTo]
/-- The area of a mesh. -/
noncomputable def areaM (mq : MeQ) : RatD := sumS (arTo mq mq.tris.length)
end

section
open Go.RowKit

theorem OwT.setK {base : Nat} {w : World} {l : List TriD} {g n c : Nat} (h : OwT base w (.slice (some ⟨g, 0, none⟩) n c) l) {j : Nat} {u : Value} {l' : List TriD} (hl : l'.length = l.length) (hf : l'.flatMap encT = (l.flatMap encT).set j u) : OwT base (w.setCell ⟨g, j, none⟩ u) (.slice (some ⟨g, 0, none⟩) n c) l' := by
  obtain ⟨hcl, ⟨h, _⟩ | ⟨g', cap, cur, h, hg, hh, hnc, hm, hcs, htk⟩⟩ := id h
  · cases h
  injection h with q1 q2 q3
  injection q1 with q1
  injection q1 with q1
  subst q1
  unfold OwT World.ownsRow
  rw [hl, hf]
  refine ⟨by simpa using hcl, .inr ⟨g, cap, _, by rw [q2, q3], hg, Blk.set_ (T := 73) hh j u, hnc, hm, by simpa using hcs, ?_⟩⟩
  rw [Array.toList_setIfInBounds, List.take_set, htk]
theorem OwT.rd {base : Nat} {w : World} {l : List TriD} {g n c : Nat} (h : OwT base w (.slice (some ⟨g, 0, none⟩) n c) l) : RdTS w (some ⟨g, 0, none⟩) n c l ∧ (∀ o, w.frozen? ⟨g, o, none⟩ = false) := by
  obtain ⟨g', c', e, h1, h2, h3, h4⟩ := h.lit (fun e => by cases e)
  injection e with q1 q2 q3
  injection q1 with q1
  injection q1 with q1
  subst q1 q2 q3
  exact ⟨h2, h4⟩
theorem sm_sz {q : Rat} (h : SmQ q) : (toR q).mag.length ≤ 1048576 ∧ (toR q).den.length ≤ 1048576 := by
  have h1 := h.mag
  have h2 := h.den
  omega
theorem RowP.rdN {N : List Nat → Prop} {lo hi : Nat} {w : World} {g n c : Nat} {l : List PtD} (h : RowP N lo hi w (.slice (some ⟨g, 0, none⟩) n c) l) (hl : l.length ≤ 1048576) : RdPS w (some ⟨g, 0, none⟩) n c l := by
  obtain ⟨A, d, e, hr⟩ := RowP.rd h hl
  injection e with q1 q2 q3
  subst q1 q2 q3
  exact hr
end

section
open Go.RowKit

theorem gpt_tp (x y : Nat) (hx : x ≤ 8) (hy : y ≤ 8) : gpt x y = tp (qp1 x y) := by
  show (⟨ofFrac (x : Int) 1, ofFrac (y : Int) 1⟩ : PtD) = ⟨toR (mkRat (x : Int) 1), toR (mkRat (y : Int) 1)⟩
  rw [(ofFrac_sm (x : Int) 1 (by omega) (by omega) (by omega)).1, (ofFrac_sm (y : Int) 1 (by omega) (by omega) (by omega)).1]
def sumQ (q : Nat → Rat) : Nat → Rat
  | 0 => 0
  | k + 1 => sumQ q k + q k
instance (N : Nat) (q : Rat) : Decidable (Bd N q) := by unfold Bd; infer_instance
theorem accS_toR {l : List RatD} {q : Nat → Rat} : ∀ {n : Nat}, (∀ k, k < n → pix l k = toR (q k) ∧ Fit (q k)) → (∀ k, k ≤ n → Fit (sumQ q k)) → accS l n = toR (sumQ q n)
  | 0, _, _ => by
    show ofFrac 0 1 = toR 0
    rw [zero_sm.1, zero_sm.2.2]
  | n + 1, h1, h2 => by
    obtain ⟨e, f⟩ := h1 n (by omega)
    show addR (accS l n) (pix l n) = _
    rw [accS_toR (fun k hk => h1 k (by omega)) (fun k hk => h2 k (by omega)), e]
    exact addR_toR (h2 n (by omega)) f (h2 (n + 1) (by omega))
/-- The area of triangle k. -/
def aqK (m : MeQ) (k : Nat) : Rat := arQ (mc m (pix m.tris k).a).1 (mc m (pix m.tris k).a).2 (mc m (pix m.tris k).b).1 (mc m (pix m.tris k).b).2 (mc m (pix m.tris k).c).1 (mc m (pix m.tris k).c).2
def Sm2 (p : Rat × Rat) : Prop := Bd 17 p.1 ∧ Bd 17 p.2
instance (p : Rat × Rat) : Decidable (Sm2 p) := by unfold Sm2; infer_instance
def okA (m : MeQ) (s : Rat) : Bool := decide (∀ k, k < m.tris.length → Sm2 (mc m (pix m.tris k).a) ∧ Sm2 (mc m (pix m.tris k).b) ∧ Sm2 (mc m (pix m.tris k).c)) && (decide (∀ k, k < m.tris.length + 1 → Bd 446448476224 (sumQ (aqK m) k)) && decide (sumQ (aqK m) m.tris.length = s))
theorem areaM_toR {m : MeQ} {s : Rat} (h : okA m s = true) : areaM m = toR s := by
  unfold okA at h
  simp only [Bool.and_eq_true, decide_eq_true_eq] at h
  obtain ⟨h1, h2, h3⟩ := h
  unfold areaM sumS
  rw [arTo_len, ← h3]
  refine accS_toR (fun k hk => ?_) (fun k hk => (h2 k (by omega)).fit (by decide))
  obtain ⟨⟨a1, a2⟩, ⟨b1, b2⟩, c1, c2⟩ := h1 k hk
  obtain ⟨e, hb⟩ := area_toP (x0 := (mc m (pix m.tris k).a).1) (y0 := (mc m (pix m.tris k).a).2) (x1 := (mc m (pix m.tris k).b).1) (y1 := (mc m (pix m.tris k).b).2) (x2 := (mc m (pix m.tris k).c).1) (y2 := (mc m (pix m.tris k).c).2) ⟨a1, a2, b1, b2, c1, c2⟩
  refine ⟨?_, hb.fit (by decide)⟩
  rw [show pix (arTo m m.tris.length) k = arK m k by simp [pix, arTo, hk]]
  exact e
end

end Go.Proofs.YtajlahjghapbkaaGreat
