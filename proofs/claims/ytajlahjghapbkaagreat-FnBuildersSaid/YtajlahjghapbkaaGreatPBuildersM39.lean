/- Lemmas. -/
import Derived.Test.YtajlahjghapbkaaGreatRows
import Derived.Test.YtajlahjghapbkaaGreatPBuildersM38
import Derived.Test.YtajlahjghapbkaaGreatPBuildersM20
import Derived.Test.YtajlahjghapbkaaGreatPBuildersM21
import Derived.Test.YtajlahjghapbkaaGreatPBuildersM33
import Derived.Test.YtajlahjghapbkaaGreatPBuildersM35
import Derived.Test.YtajlahjghapbkaaGreatPBuildersM25
import Derived.Test.YtajlahjghapbkaaGreatPBuildersM26
import Derived.Test.YtajlahjghapbkaaGreatPBuildersM27
import Derived.Test.YtajlahjghapbkaaGreatPBuildersM28
import Derived.Test.YtajlahjghapbkaaGreatPBuildersM29
namespace Go.Proofs.YtajlahjghapbkaaGreat
section
open Go.RowKit

theorem RowP.setLow {N : List Nat → Prop} {lo : Nat} {w : World} {v : Value} {l : List PtD} (h : RowP N lo w.heap.size w v l) {q : Addr} (hq : q.block < lo) (u : Value) : RowP N lo (w.setCell q u).heap.size (w.setCell q u) v l := by
  have hs : (w.setCell q u).heap.size = w.heap.size := by simp
  rw [hs]
  exact RowG.keep (ptIn_keep 3) h (by omega) fun b h1 _ => Below.heap_setCell w q u b (by omega)
theorem RowP.shape3 {N : List Nat → Prop} {lo hi : Nat} {w : World} {v : Value} {l : List PtD} (h : RowP N lo hi w v l) : ∃ A n c, v = .slice A n c := by
  obtain ⟨_, _, h1, _⟩ := h
  rcases h1.2 with ⟨rfl, _⟩ | ⟨g, cap, cur, rfl, _⟩
  · exact ⟨_, _, _, rfl⟩
  · exact ⟨_, _, _, rfl⟩
theorem RowP.up2 {N : List Nat → Prop} {lo : Nat} {w W : World} {v : Value} {l : List PtD} (h : RowP N lo w.heap.size w v l) (hb : Bl w W) : RowP N lo W.heap.size W v l := (RowG.bl (ptIn_keep 3) h hb).up hb.size (Nat.le_refl _)
theorem RowP.lit {N : List Nat → Prop} {lo hi : Nat} {w : World} {v : Value} {l : List PtD} (h : RowP N lo hi w v l) (hl : 0 < l.length) (hl2 : l.length ≤ 1048576) : ∃ g c, v = .slice (some ⟨g, 0, none⟩) l.length c ∧ lo ≤ g ∧ RdPS w (some ⟨g, 0, none⟩) l.length c l := by
  obtain ⟨A, c, e, hr⟩ := RowP.rd h hl2
  obtain ⟨cells, fs, h1, _⟩ := h
  rcases h1.2 with ⟨rfl, h0⟩ | ⟨g, cap, cur, rfl, hg, _⟩
  · omega
  · injection e with e1 e2 e3
    subst e1 e3
    exact ⟨g, cap, rfl, hg, hr⟩
def cpTo (l : List PtD) (k : Nat) : List PtD := (List.range k).map (pix l)
theorem cpTo_len (l : List PtD) (k : Nat) : (cpTo l k).length = k := by simp [cpTo]
theorem cpTo_succ (l : List PtD) (k : Nat) : cpTo l (k + 1) = cpTo l k ++ [pix l k] := by unfold cpTo; rw [List.range_succ, List.map_append]; rfl
theorem cpTo_all {l : List PtD} : cpTo l l.length = l := by
  refine List.ext_getElem (by simp [cpTo]) fun i h1 h2 => ?_
  simp [cpTo, pix, h2]
theorem OwT.low {base b1 : Nat} {w : World} {v : Value} {l : List TriD} (h : OwT b1 w v l) (hb : base ≤ b1) : OwT base w v l := by
  refine ⟨h.1, ?_⟩
  rcases h.2 with h2 | ⟨g, cap, cur, hv, hg, r⟩
  · exact .inl h2
  · exact .inr ⟨g, cap, cur, hv, Nat.le_trans hb hg, r⟩
/-- A mesh in memory of one's own; its triangles lie apart from its points. -/
def CmRes (w : World) (l : List PtD) (ts : List TriD) (en : Ending) (w' : World) : Prop :=
  ∃ lo gp n cp gt m ct, en = .returned (.agg #[.slice (some ⟨gp, 0, none⟩) n cp, .slice (some ⟨gt, 0, none⟩) m ct]) ∧ n = l.length ∧ m = ts.length ∧ RowP List.Nodup lo w'.heap.size w' (.slice (some ⟨gp, 0, none⟩) n cp) l ∧ OwT w.heap.size w' (.slice (some ⟨gt, 0, none⟩) m ct) ts ∧ gt < lo ∧ w.heap.size ≤ lo ∧ Bl w w'

set_option maxRecDepth 100000 in
set_option maxHeartbeats 16000000 in
theorem copyMesh_any (w : World) {gp n cp gt m ct : Nat} {l : List PtD} {ts : List TriD} (hp : RdPS w (some ⟨gp, 0, none⟩) n cp l) (ht : RdTS w (some ⟨gt, 0, none⟩) m ct ts) (hn : 0 < n) (hn2 : n ≤ 1048576) (hm2 : m ≤ 1048576)
    (hsz : ∀ k, k < n → ((pix l k).x.mag.length ≤ 1048576 ∧ (pix l k).x.den.length ≤ 1048576) ∧ (pix l k).y.mag.length ≤ 1048576 ∧ (pix l k).y.den.length ≤ 1048576) :
    Calls Tryz.prog 100 #[.agg #[.slice (some ⟨gp, 0, none⟩) n cp, .slice (some ⟨gt, 0, none⟩) m ct]] w (CmRes w l ts) := by
  have hln := Lib.hid hp.len
  have hlm := Lib.hid ht.len
  have hsz := Lib.hid hsz; rename_i h_; clear h_
  go_enter Tryz.func100, Tryz.ntmps100
  go_wp2_with fail
  refine calls_gen (fun W => Bl w W ∧ Blk W w.heap.size 57 #[.slice (some ⟨gp, 0, none⟩) n cp, .slice (some ⟨gt, 0, none⟩) m ct] ∧ Wk 2 57 (w.heap.size + 1) W) ⟨slc, bts, bts⟩ ?_
  rintro W ⟨hbW, hA, hr⟩
  refine (CloneTri_any _ (RdTS.bl ht hbW) hm2).mono ?_
  rintro e w1 ⟨gt', ct', rfl, hT, hb1⟩
  have hz0 := hr.lt
  have hA := hA.bl hb1
  have hr := hr.bl hb1
  have hbW := hbW.next hb1
  have hgt := hT.blk (g := gt') rfl
  have hz1 := hr.lt
  clear hb1
  obtain ⟨r0, r1⟩ := bx2 hA
  go_upto_region 2 with (fail)
  refine wp_gen (fun W2 => Bl w1 W2 ∧ Blk W2 w1.heap.size 57 #[.slice none 0 0, .slice (some ⟨gt', 0, none⟩) m ct']) ⟨slc, by exact bts⟩ ?_
  rintro W2 ⟨hb2, hm⟩
  have hA := hA.bl hb2
  have hT := hT.bl hb2
  have hr := hr.bl hb2
  have hbW := hbW.next hb2
  clear r0 r1
  obtain ⟨r0, r1⟩ := bx2 hA
  go_wp2_with fail
  clear r0 r1 hA
  go_loopw [13] (fun i wr => ∃ (k : Nat) (vp : Value), k ≤ n ∧ i = .int .i64 (k : Int) ∧ Blk wr w1.heap.size 57 #[vp, .slice (some ⟨gt', 0, none⟩) m ct'] ∧ RowP List.Nodup (w1.heap.size + 1) wr.heap.size wr vp (cpTo l k) ∧ OwT W.heap.size wr (.slice (some ⟨gt', 0, none⟩) m ct') ts ∧ Wk 2 57 (w.heap.size + 1) wr ∧ Bl w wr) (fun i _ => n - (intOf i).toNat)
  case atStart => exact ⟨0, .slice none 0 0, by omega, rfl, hm, RowG.nil appN_nodup _ (Nat.le_refl _), hT, hr, hbW⟩
  case round =>
    clear hm hT hr hbW hb2
    obtain ⟨k, vp, hk, rfl, hm, hrow, hT, hr, hbw⟩ := hrel
    by_cases hkn : k < n
    · have hki : (k : Int) < (n : Int) := by omega
      obtain ⟨sq, Aq, nq, cq, Bq, mq_, dq, tq, Cq, iq, eq, Dq, jq, fq, ⟨y0, y1, y2, y3, y4, y5⟩, hR1, hR2⟩ := pts_lit (RdPS.bl hp hbw) hkn
      obtain ⟨⟨sz1, sz2⟩, sz3, sz4⟩ := hsz.out k hkn
      have hn1 : nq ≤ 1048576 := by rw [← hR1.mag.len]; exact sz1
      have hn3 : mq_ ≤ 1048576 := by rw [← hR1.den.len]; exact sz2
      have hn4 : iq ≤ 1048576 := by rw [← hR2.mag.len]; exact sz3
      have hn5 : jq ≤ 1048576 := by rw [← hR2.den.len]; exact sz4
      clear sz1 sz2 sz3 sz4
      have hml := hm.lt
      have hvq := hrow.ne (Nat.le_refl wr.heap.size)
      go_upto_region 5 with (fail)
      refine wp_gen (fun W => Bl wr W ∧ wr.heap.size < W.heap.size ∧ Blk W wr.heap.size 31 #[.bool sq, .slice Aq nq cq, .slice Bq mq_ dq, .bool tq, .slice Cq iq eq, .slice Dq jq fq]) ⟨slc, by simp, by exact bts⟩ ?_
      rintro W ⟨hbq, hgw, hq⟩
      have hm := hm.bl hbq
      have hrow := RowP.up2 hrow hbq
      have hT := hT.bl hbq
      have hr := hr.bl hbq
      have hbW := hbw.next hbq
      have hlo : (w1.heap.size + 1) ≤ W.heap.size := by omega
      clear y0 y1 y2 y3 y4 y5
      replace hR1 := hR1.bl hbq
      replace hR2 := hR2.bl hbq
      have hHeld : (fun w' => (w'.cell? ⟨w1.heap.size, 0, none⟩ = some (vp) ∧ w'.cell? ⟨w1.heap.size, 1, none⟩ = some (.slice (some ⟨gt', 0, none⟩) m ct')) ∧ (w'.cell? ⟨wr.heap.size, 0, none⟩ = some (.bool sq) ∧ w'.cell? ⟨wr.heap.size, 1, none⟩ = some (.slice Aq nq cq) ∧ w'.cell? ⟨wr.heap.size, 2, none⟩ = some (.slice Bq mq_ dq) ∧ w'.cell? ⟨wr.heap.size, 3, none⟩ = some (.bool tq) ∧ w'.cell? ⟨wr.heap.size, 4, none⟩ = some (.slice Cq iq eq) ∧ w'.cell? ⟨wr.heap.size, 5, none⟩ = some (.slice Dq jq fq))) (W.drew) := ⟨bx2 (T := 57) (hm.bl slc), bx6 (T := 31) (hq.bl slc)⟩
      refine wp_region_T 7 8 (fun w' => (w'.cell? ⟨w1.heap.size, 0, none⟩ = some (vp) ∧ w'.cell? ⟨w1.heap.size, 1, none⟩ = some (.slice (some ⟨gt', 0, none⟩) m ct')) ∧ (w'.cell? ⟨wr.heap.size, 0, none⟩ = some (.bool sq) ∧ w'.cell? ⟨wr.heap.size, 1, none⟩ = some (.slice Aq nq cq) ∧ w'.cell? ⟨wr.heap.size, 2, none⟩ = some (.slice Bq mq_ dq) ∧ w'.cell? ⟨wr.heap.size, 3, none⟩ = some (.bool tq) ∧ w'.cell? ⟨wr.heap.size, 4, none⟩ = some (.slice Cq iq eq) ∧ w'.cell? ⟨wr.heap.size, 5, none⟩ = some (.slice Dq jq fq))) rfl (by kernel_rfl) hHeld ?_
      refine wpAnyT_take (i := 0) (oi := _) (v := ?_) (fuel := 7) rfl (by kernel_rfl) (by kernel_rfl) (by kernel_rfl) (by kernel_rfl) (fun _ _ _ h => h) (by rfl) ?_ hHeld ?_
      rotate_left 1
      · (intro w' hSw; (try dsimp only at hSw); go_simp <;> with_reducible rfl)
      refine wpAnyT_take (i := 1) (oi := _) (v := ?_) (fuel := 6) rfl (by kernel_rfl) (by kernel_rfl) (by kernel_rfl) (by kernel_rfl) (fun _ _ _ h => h) (by rfl) ?_ hHeld ?_
      rotate_left 1
      · (intro w' hSw; (try dsimp only at hSw); go_simp <;> with_reducible rfl)
      refine wpAnyT_take (i := 2) (oi := _) (v := ?_) (fuel := 5) rfl (by kernel_rfl) (by kernel_rfl) (by kernel_rfl) (by kernel_rfl) (fun _ _ _ h => h) (by rfl) ?_ hHeld ?_
      rotate_left 1
      · (intro w' hSw; (try dsimp only at hSw); go_simp <;> with_reducible rfl)
      clear hHeld
      simp only [Act.put, List.setIfInBounds_toArray]
      refine wpAnyT_step (i := 3) (o := _) (fuel := 4) rfl (by kernel_rfl) (fun K hK => ?_)
      go_simp
      refine (copyPoint_any _ (RdR.bl hR1 slc) (RdR.bl hR2 slc) (by omega) (by omega) (by omega) (by omega)).mono ?_
      rintro e w2 ⟨A1, n1, c1, B1, m1, d1, C1, i1', e1, D1, j1, f1, rfl, hP, hb2⟩
      have hrow4 := RowG.bl (ptIn_keep 3) hrow (show Bl W w2 from slc)
      have hP4 := OwPN.of hP
      have hm := hm.bl (show Bl W w2 from slc)
      have hq := hq.bl (show Bl W w2 from slc)
      have hT4 := hT.bl (show Bl W w2 from slc)
      have hr4 := hr.bl (show Bl W w2 from slc)
      have hbw4 : Bl w w2 := hbW.next (show Bl W w2 from slc)
      refine hK.out _ _ (fun _ => ⟨bx2 (T := 57) (hm.bl slc), bx6 (T := 31) (hq.bl slc)⟩) ?_
      clear hK K
      try simp only [Act.put, List.setIfInBounds_toArray, List.set_cons_zero, List.set_cons_succ]
      refine wpAnyT_step (i := 4) (o := _) (fuel := 3) rfl (by kernel_rfl) (fun K hK => ?_)
      go_simp
      refine hK.out _ _ (fun _ => ⟨bx2 (T := 57) (hm.bl slc), bx6 (T := 31) (hq.bl slc)⟩) ?_
      clear hK K
      try simp only [Act.put, List.setIfInBounds_toArray, List.set_cons_zero, List.set_cons_succ]
      refine wpAnyT_step (i := 5) (o := _) (fuel := 2) rfl (by kernel_rfl) (fun K hK => ?_)
      refine step_append_ptX appN_nodup rfl (.tmp 18) (.tmp 21) rfl _ (by rfl) hrow4 hP4 (Nat.le_refl _) hlo 1 (by rfl) (by rw [cpTo_len]; omega) w hbw4 (by omega) ?_
      intro v' w8 hrow' hb8' hoth
      obtain ⟨A8, n8, c8, rfl⟩ := RowP.shape3 hrow'
      have hm := hm.oth hoth (fun e => by have := hrow.lo e; omega)
      have hq := hq.oth hoth hvq
      have hT8 := hT4.keep (fun g e => (hoth g (hT4.blk e).2 (fun e2 => by have h1 := hrow.lo e2; injection e with e; simp only at e; omega)).1)
      obtain ⟨cs5, hB5, hc5⟩ := hr4
      have hr8 : Wk 2 57 (w.heap.size + 1) w8 := ⟨cs5, hB5.oth hoth (fun e => by have := hrow.lo e; omega), hc5⟩
      refine hK.out _ _ (fun _ => ⟨bx2 (T := 57) (hm.bl slc), bx6 (T := 31) (hq.bl slc)⟩) ?_
      clear hK K
      try simp only [Act.put, List.setIfInBounds_toArray]
      refine wpAnyT_step (i := 6) (o := _) (fuel := 1) rfl (by kernel_rfl) (fun K hK => ?_)
      go_simp
      refine hK.out _ _ (fun _ => ⟨bx2 (T := 57) (hm.bl slc), bx6 (T := 31) (hq.bl slc)⟩) ?_
      clear hK K
      try simp only [Act.put, List.setIfInBounds_toArray, List.set_cons_zero, List.set_cons_succ]
      obtain ⟨z0', z1'⟩ := bx2 hm
      have zf := hm.frozen 0
      refine wpAnyT_step (i := 7) (o := _) (fuel := 0) rfl (by kernel_rfl) (fun K hK => ?_)
      go_simp
      refine hK.out _ _ (fun h => absurd rfl h) ?_
      clear hK K
      try simp only [Act.put, List.setIfInBounds_toArray]
      refine wpAnyT_done (by kernel_rfl) ?_
      go_wp2_with fail
      go_roundw
      case rel => exact ⟨k + 1, _, by omega, by go_num, by simpa using hm.set_ 0 _, by rw [cpTo_succ]; exact RowP.setLow hrow' (by simp) _, hT8.keep (fun g e => Below.heap_setCell _ _ _ g (by injection e with e; simp only at e ⊢; omega)), hr8.far (by simp; omega) _, Bl.set hb8' (by simp; omega) _⟩
      case measure => simp [intOf]; omega
    · obtain rfl : k = n := by omega
      have hkm2 : ¬ (k : Int) < (k : Int) := by omega
      rw [show cpTo l k = l by rw [← hln.out]; exact cpTo_all] at hrow
      obtain ⟨gp', cp', rfl, hgp, hRd⟩ := hrow.lit (by rw [hln.out]; exact hn) (by rw [hln.out]; exact hn2)
      obtain ⟨v0, x0⟩ := hr.val_ (i := 0) (by omega)
      obtain ⟨v1, x1⟩ := hr.val_ (i := 1) (by omega)
      have hg := hr.lt
      obtain ⟨cs4, hB4, hc4⟩ := hr
      have hf0 := hB4.frozen 0
      have hf1 := hB4.frozen 1
      rw [hln.out] at hm hrow hRd
      obtain ⟨i0, i1⟩ := bx2 hm
      go_wp2_with fail
      exact bodyPost_ret (v := .agg #[.slice (some ⟨gp', 0, none⟩) k cp', .slice (some ⟨gt', 0, none⟩) m ct']) (by simp [results, Tryz.results100, go_sem, x0, x1]) rfl ⟨(w1.heap.size + 1), gp', _, cp', gt', _, ct', rfl, hln.out.symm, hlm.out.symm, RowP.setLow (RowP.setLow hrow (by simp; omega) _) (by simp; omega) _, (hT.keep (fun g e => (Below.heap_setCell _ _ _ g (by injection e with e; simp only at e ⊢; omega)).trans (Below.heap_setCell _ _ _ g (by injection e with e; simp only at e ⊢; omega)))).low (by omega), by omega, by omega, slc⟩
end

section
open Go.RowKit

theorem flatT_setR (x : Int) : ∀ (l : List TriD) (p : Nat), (l.modify p (fun e => ⟨e.a, e.b, e.c, x, e.level⟩)).flatMap encT = (l.flatMap encT).set (p * 5 + 3) (.int .i64 x)
  | [], p => by simp
  | y :: ys, p => by
    have h4 : (encT y).length = 5 := rfl
    rcases p with _ | p
    · simp [encT]
    · rw [List.modify_succ_cons, List.flatMap_cons, List.flatMap_cons, flatT_setR x ys p, List.set_append_right _ _ (by omega), h4, show (p + 1) * 5 + 3 - 5 = p * 5 + 3 by omega]
theorem OwT.setK {base : Nat} {w : World} {l : List TriD} {g n c : Nat} (h : OwT base w (.slice (some ⟨g, 0, none⟩) n c) l) {j : Nat} {u : Value} {l' : List TriD} (hl : l'.length = l.length) (hf : l'.flatMap encT = (l.flatMap encT).set j u) : OwT base (w.setCell ⟨g, j, none⟩ u) (.slice (some ⟨g, 0, none⟩) n c) l' := by
  obtain ⟨hcl, ⟨h, _⟩ | ⟨g', cap, cur, h, hg, hh, hnc, hm, hcs, htk⟩⟩ := id h
  · cases h
  injection h with q1 q2 q3
  injection q1 with q1
  injection q1 with q1
  subst q1
  unfold OwT World.ownsRow
  rw [hl, hf]
  refine ⟨by simpa using hcl, .inr ⟨g, cap, _, by rw [q2, q3], hg, Blk.set_ (T := 73) hh j u, hnc, hm, by simpa using hcs, ?_⟩⟩
  rw [Array.toList_setIfInBounds, List.take_set, htk]
theorem OwT.rd {base : Nat} {w : World} {l : List TriD} {g n c : Nat} (h : OwT base w (.slice (some ⟨g, 0, none⟩) n c) l) : RdTS w (some ⟨g, 0, none⟩) n c l ∧ (∀ o, w.frozen? ⟨g, o, none⟩ = false) := by
  obtain ⟨g', c', e, h1, h2, h3, h4⟩ := h.lit (fun e => by cases e)
  injection e with q1 q2 q3
  injection q1 with q1
  injection q1 with q1
  subst q1 q2 q3
  exact ⟨h2, h4⟩
/-- Triangle k gets another region. -/
def regM (mq : MeQ) (k : Nat) (r : Int) : MeQ := ⟨mq.pts, mq.tris.modify k (fun e => ⟨e.a, e.b, e.c, r, e.level⟩)⟩
theorem sm_sz {q : Rat} (h : SmQ q) : (toR q).mag.length ≤ 1048576 ∧ (toR q).den.length ≤ 1048576 := by
  have h1 := h.mag
  have h2 := h.den
  omega
theorem RowP.rdN {N : List Nat → Prop} {lo hi : Nat} {w : World} {g n c : Nat} {l : List PtD} (h : RowP N lo hi w (.slice (some ⟨g, 0, none⟩) n c) l) (hl : l.length ≤ 1048576) : RdPS w (some ⟨g, 0, none⟩) n c l := by
  obtain ⟨A, d, e, hr⟩ := RowP.rd h hl
  injection e with q1 q2 q3
  subst q1 q2 q3
  exact hr

set_option maxRecDepth 100000 in
set_option maxHeartbeats 16000000 in
theorem SetRegion_yes (w : World) {v : Value} {mq : MeQ} (h : MeAt w v mq) (hok : MeshOk mq) (k : Nat) (r : Int) (hk : k < mq.tris.length) (hr0 : 0 ≤ r) (hr1 : r ≤ 2) :
    Calls Tryz.prog 37 #[v, .int .i64 (k : Int), .int .i64 r] w fun e w' => ∃ v2, e = .returned (.tuple #[v2, .bool true]) ∧ MeAt w' v2 (regM mq k r) ∧ Bl w w' := by
  obtain ⟨gp, n, cp, gt, m, ct, rfl, hp, ht⟩ := h
  have hm48 : m ≤ 48 := by have := hok.t48; rw [ht.len] at this; exact this
  have hm0 : 1 ≤ m := by have := hok.t1; rw [ht.len] at this; exact this
  have hn0 : mq.pts.length = n := by rw [← hp.len, List.length_map]
  have hn3 : 3 ≤ n := by have := hok.n3; rw [hn0] at this; exact this
  have hn40 : n ≤ 40 := by have := hok.n40; rw [hn0] at this; exact this
  have hkm : k < m := by rw [ht.len] at hk; exact hk
  have hn := Lib.hid hn0
  have hm := Lib.hid ht.len
  have hok := Lib.hid hok; rename_i h_; clear h_
  clear hn0 hk
  go_enter Tryz.func37, Tryz.ntmps37
  go_wp2_with fail
  refine calls_gen (fun W => Bl w W ∧ Blk W w.heap.size 57 #[.slice (some ⟨gp, 0, none⟩) n cp, .slice (some ⟨gt, 0, none⟩) m ct] ∧ Wk 2 57 (w.heap.size + 1) W) ⟨slc, bts, bts⟩ ?_
  rintro W ⟨hbW, hA, hr⟩
  refine (copyMesh_any _ (RdPS.bl hp hbW) (RdTS.bl ht hbW) (by omega) (by omega) (by omega) (fun i hi => by rw [pix_map (by rw [hn.out]; exact hi)]; exact ⟨sm_sz (hok.out.place.1 i (by rw [hn.out]; exact hi)).1, sm_sz (hok.out.place.1 i (by rw [hn.out]; exact hi)).2⟩)).mono ?_
  rintro e w1 ⟨lo, gp', n', cp', gt', m', ct', rfl, hn', hm', hrow, hT, hgl, hlo, hb1⟩
  obtain rfl : n' = n := by rw [hn', List.length_map, hn.out]
  obtain rfl : m' = m := by rw [hm', hm.out]
  clear hn' hm'
  have hz0 := hr.lt
  have hA := hA.bl hb1
  have hr := hr.bl hb1
  have hbW := hbW.next hb1
  have hgt := hT.blk (g := gt') rfl
  clear hb1
  obtain ⟨r0, r1⟩ := bx2 hA
  have hAl := hA.lt
  go_upto_region 2 with (fail)
  refine wp_gen (fun W2 => Bl w1 W2 ∧ Blk W2 w1.heap.size 57 #[.slice (some ⟨gp', 0, none⟩) n' cp', .slice (some ⟨gt', 0, none⟩) m' ct']) ⟨slc, by exact bts⟩ ?_
  rintro W2 ⟨hb2, hx⟩
  have hA := hA.bl hb2
  have hT := hT.bl hb2
  have hr := hr.bl hb2
  have hrow := RowP.up2 hrow hb2
  have hbW := hbW.next hb2
  clear r0 r1
  obtain ⟨r0, r1⟩ := bx2 hA
  go_wp2_with fail
  refine (IsMesh_yes _ (RdPS.bl hp hbW) (RdTS.bl ht hbW) hok.out).mono ?_
  rintro e w3 ⟨rfl, hb3⟩
  have hx := hx.bl hb3
  have hA := hA.bl hb3
  have hT := hT.bl hb3
  have hr := hr.bl hb3
  have hrow := RowP.up2 hrow hb3
  have hbW := hbW.next hb3
  have hw13 := hb2.next hb3
  clear r0 r1 hb3 hb2
  obtain ⟨r0, r1⟩ := bx2 hA
  have hAl := hA.lt
  have hmi : (m' : Int) - 1 = ((m' - 1 : Nat) : Int) := by omega
  go_wp2_with fail
  refine (within_yes _ (show (0 : Int) ≤ (k : Int) by omega) (show (k : Int) ≤ ((m' - 1 : Nat) : Int) by omega)).mono ?_
  rintro e w4 ⟨rfl, q1, rfl⟩
  go_wp2_with fail
  refine (within_yes _ hr0 hr1).mono ?_
  rintro e w5 ⟨rfl, q2, rfl⟩
  have hb6 := ((Bl.refl w3).drewN q1).drewN q2
  obtain ⟨w6, hw6⟩ : ∃ w6, (w3.drewN q1).drewN q2 = w6 := ⟨_, rfl⟩
  rw [hw6] at hb6 ⊢
  clear r0 r1 hw6 hA hAl
  have hx := hx.bl hb6
  have hT := hT.bl hb6
  have hr := hr.bl hb6
  have hrow := RowP.up2 hrow hb6
  have hbW := hbW.next hb6
  have hxl := hx.lt
  obtain ⟨x0, x1⟩ := bx2 hx
  obtain ⟨hR, hfz⟩ := hT.rd
  obtain ⟨c0, c1, c2, c3, c4⟩ := trs_lit hR hkm
  have hf3 := hfz (k * 5 + 3)
  have hki : (k : Int) < (m' : Int) := by omega
  have hcp := hR.cap
  clear hR hfz c0 c1 c2 c4
  obtain ⟨v0, z0⟩ := hr.val_ (i := 0) (by omega)
  obtain ⟨v1, z1⟩ := hr.val_ (i := 1) (by omega)
  have hg := hr.lt
  obtain ⟨cs4, hB4, hc4⟩ := hr
  have hf0 := hB4.frozen 0
  have hf1 := hB4.frozen 1
  have hne : w.heap.size + 1 ≠ gt' := by omega
  have hne2 : w1.heap.size ≠ gt' := by omega
  have hne3 : gt' ≠ w.heap.size + 1 := by omega
  have hne4 : gt' ≠ w1.heap.size := by omega
  go_wp2_with fail
  have hS := hT.setK (j := k * 5 + 3) (u := .int .i64 r) (l' := (regM mq k r).tris) (by simp [regM]) (flatT_setR r _ k)
  have hS2 := (hS.keep (W := (w6.setCell ⟨gt', k * 5 + 3, none⟩ (.int .i64 r)).setCell ⟨w.heap.size + 1, 0, none⟩ (.slice (some ⟨gp', 0, none⟩) n' cp')) (fun g e => Below.heap_setCell _ _ _ g (by injection e with e; simp only at e ⊢; omega))).keep (W := ((w6.setCell ⟨gt', k * 5 + 3, none⟩ (.int .i64 r)).setCell ⟨w.heap.size + 1, 0, none⟩ (.slice (some ⟨gp', 0, none⟩) n' cp')).setCell ⟨w.heap.size + 1, 1, none⟩ (.slice (some ⟨gt', 0, none⟩) m' ct')) (fun g e => Below.heap_setCell _ _ _ g (by injection e with e; simp only at e ⊢; omega))
  have hrow2 := RowP.setLow (RowP.setLow (RowP.setLow hrow (q := ⟨gt', k * 5 + 3, none⟩) hgl (.int .i64 r)) (q := ⟨w.heap.size + 1, 0, none⟩) (by show w.heap.size + 1 < lo; omega) (.slice (some ⟨gp', 0, none⟩) n' cp')) (q := ⟨w.heap.size + 1, 1, none⟩) (by show w.heap.size + 1 < lo; omega) (.slice (some ⟨gt', 0, none⟩) m' ct')
  exact bodyPost_ret (v := .tuple #[.agg #[.slice (some ⟨gp', 0, none⟩) n' cp', .slice (some ⟨gt', 0, none⟩) m' ct'], .bool true]) (by simp [results, Tryz.results37, go_sem, z0, z1]) rfl ⟨_, rfl, ⟨gp', n', cp', gt', m', ct', rfl, RowP.rdN hrow2 (by have := hn.out; rw [List.length_map]; show mq.pts.length ≤ _; omega), hS2.rd.1⟩, Bl.set (Bl.set (Bl.set hbW (by show w.heap.size ≤ gt'; omega) _) (by simp) _) (by simp) _⟩
end

section
open Go.RowKit

theorem flatMap_congr' {α β : Type} {f g : α → List β} : ∀ {l : List α}, (∀ y ∈ l, f y = g y) → l.flatMap f = l.flatMap g
  | [], _ => rfl
  | x :: xs, h => by
    rw [List.flatMap_cons, List.flatMap_cons, h x (by simp), flatMap_congr' (fun y hy => h y (by simp [hy]))]
theorem gpt_tp (x y : Nat) (hx : x ≤ 8) (hy : y ≤ 8) : gpt x y = tp (qp1 x y) := by
  show (⟨ofFrac (x : Int) 1, ofFrac (y : Int) 1⟩ : PtD) = ⟨toR (mkRat (x : Int) 1), toR (mkRat (y : Int) 1)⟩
  rw [(ofFrac_sm (x : Int) 1 (by omega) (by omega) (by omega)).1, (ofFrac_sm (y : Int) 1 (by omega) (by omega) (by omega)).1]
theorem hpt_tp (x y : Nat) (hx : x ≤ 8) (hy : y ≤ 8) : hpt x y = tp (qp2 x y) := by
  show (⟨ofFrac (2 * (x : Int) + 1) 2, ofFrac (2 * (y : Int) + 1) 2⟩ : PtD) = ⟨toR (mkRat (2 * (x : Int) + 1) 2), toR (mkRat (2 * (y : Int) + 1) 2)⟩
  rw [(ofFrac_sm (2 * (x : Int) + 1) 2 (by omega) (by omega) (by omega)).1, (ofFrac_sm (2 * (y : Int) + 1) 2 (by omega) (by omega) (by omega)).1]
theorem sqL_eq {a : Nat} (ha : a ≤ 3) : sqL a = ⟨(sqMQ a).pts.map tp, (sqMQ a).tris⟩ := by
  unfold sqL sqMQ
  congr 1
  show gGrid a (a + 1) ++ cGrid a a ++ cRow a 0 = (qPs a).map tp
  unfold qPs
  rw [List.map_append, List.map_flatMap, List.map_flatMap, show cRow a 0 = [] from rfl, List.append_nil]
  congr 1
  · refine flatMap_congr' fun y hy => ?_
    rw [List.map_map]
    refine List.map_congr_left fun x hx => ?_
    rw [List.mem_range] at hx hy
    exact gpt_tp x y (by omega) (by omega)
  · refine flatMap_congr' fun y hy => ?_
    rw [List.map_map]
    refine List.map_congr_left fun x hx => ?_
    rw [List.mem_range] at hx hy
    exact hpt_tp x y (by omega) (by omega)
theorem cMesh_eq : cMesh = ⟨cMQ.pts.map tp, cMQ.tris⟩ := by
  have h1 : cPts 8 = ((List.range 8).map fun k => (mkRat (cX k) 1, mkRat (cY k) 1)).map tp := by
    unfold cPts
    rw [List.map_map]
    refine List.map_congr_left fun k hk => ?_
    rw [List.mem_range] at hk
    have hb : (cX k).natAbs ≤ 17 ∧ (cY k).natAbs ≤ 17 := by
      rcases (show k = 0 ∨ k = 1 ∨ k = 2 ∨ k = 3 ∨ k = 4 ∨ k = 5 ∨ k = 6 ∨ k = 7 by omega) with rfl | rfl | rfl | rfl | rfl | rfl | rfl | rfl <;> exact ⟨by decide, by decide⟩
    show (⟨ofFrac (cX k) 1, ofFrac (cY k) 1⟩ : PtD) = ⟨toR (mkRat (cX k) 1), toR (mkRat (cY k) 1)⟩
    rw [(ofFrac_sm (cX k) 1 (by omega) hb.1 (by omega)).1, (ofFrac_sm (cY k) 1 (by omega) hb.2 (by omega)).1]
  unfold cMesh
  rw [h1, show ((List.range 8).map fun k => (mkRat (cX k) 1, mkRat (cY k) 1)) = cMQ.pts by decide +kernel]
  rfl
def sumQ (q : Nat → Rat) : Nat → Rat
  | 0 => 0
  | k + 1 => sumQ q k + q k
instance (N : Nat) (q : Rat) : Decidable (Bd N q) := by unfold Bd; infer_instance
theorem accS_toR {l : List RatD} {q : Nat → Rat} : ∀ {n : Nat}, (∀ k, k < n → pix l k = toR (q k) ∧ Fit (q k)) → (∀ k, k ≤ n → Fit (sumQ q k)) → accS l n = toR (sumQ q n)
  | 0, _, _ => by
    show ofFrac 0 1 = toR 0
    rw [zero_sm.1, zero_sm.2.2]
  | n + 1, h1, h2 => by
    obtain ⟨e, f⟩ := h1 n (by omega)
    show addR (accS l n) (pix l n) = _
    rw [accS_toR (fun k hk => h1 k (by omega)) (fun k hk => h2 k (by omega)), e]
    exact addR_toR (h2 n (by omega)) f (h2 (n + 1) (by omega))
/-- The area of triangle k. -/
def aqK (m : MeQ) (k : Nat) : Rat := arQ (mc m (pix m.tris k).a).1 (mc m (pix m.tris k).a).2 (mc m (pix m.tris k).b).1 (mc m (pix m.tris k).b).2 (mc m (pix m.tris k).c).1 (mc m (pix m.tris k).c).2
def Sm2 (p : Rat × Rat) : Prop := Bd 17 p.1 ∧ Bd 17 p.2
instance (p : Rat × Rat) : Decidable (Sm2 p) := by unfold Sm2; infer_instance
def okA (m : MeQ) (s : Rat) : Bool := decide (∀ k, k < m.tris.length → Sm2 (mc m (pix m.tris k).a) ∧ Sm2 (mc m (pix m.tris k).b) ∧ Sm2 (mc m (pix m.tris k).c)) && (decide (∀ k, k < m.tris.length + 1 → Bd 446448476224 (sumQ (aqK m) k)) && decide (sumQ (aqK m) m.tris.length = s))
theorem areaM_toR {m : MeQ} {s : Rat} (h : okA m s = true) : areaM m = toR s := by
  unfold okA at h
  simp only [Bool.and_eq_true, decide_eq_true_eq] at h
  obtain ⟨h1, h2, h3⟩ := h
  unfold areaM sumS
  rw [arTo_len, ← h3]
  refine accS_toR (fun k hk => ?_) (fun k hk => (h2 k (by omega)).fit (by decide))
  obtain ⟨⟨a1, a2⟩, ⟨b1, b2⟩, c1, c2⟩ := h1 k hk
  obtain ⟨e, hb⟩ := area_toP (x0 := (mc m (pix m.tris k).a).1) (y0 := (mc m (pix m.tris k).a).2) (x1 := (mc m (pix m.tris k).b).1) (y1 := (mc m (pix m.tris k).b).2) (x2 := (mc m (pix m.tris k).c).1) (y2 := (mc m (pix m.tris k).c).2) ⟨a1, a2, b1, b2, c1, c2⟩
  refine ⟨?_, hb.fit (by decide)⟩
  rw [show pix (arTo m m.tris.length) k = arK m k by simp [pix, arTo, hk]]
  exact e
theorem sq_area1 : areaM (sqMQ 1) = toR 1 := areaM_toR (by decide +kernel)
theorem sq_area2 : areaM (sqMQ 2) = toR 4 := areaM_toR (by decide +kernel)
theorem sq_area3 : areaM (sqMQ 3) = toR 9 := areaM_toR (by decide +kernel)
theorem c_area : areaM cMQ = toR 3 := areaM_toR (by decide +kernel)
theorem c_inner : inPts cMQ = [] := by decide +kernel
theorem sq_tris1 : (sqMQ 1).tris.length = 4 ∧ pix (sqMQ 1).pts 4 = (mkRat 1 2, mkRat 1 2) ∧ (sqMQ 1).pts.length = 5 := by decide +kernel
theorem sq_tris2 : (sqMQ 2).tris.length = 16 ∧ pix (sqMQ 2).pts 9 = (mkRat 1 2, mkRat 1 2) ∧ (sqMQ 2).pts.length = 13 := by decide +kernel
theorem sq_tris3 : (sqMQ 3).tris.length = 36 ∧ pix (sqMQ 3).pts 16 = (mkRat 1 2, mkRat 1 2) ∧ (sqMQ 3).pts.length = 25 := by decide +kernel
end

section
open Go.RowKit

theorem OwMZ.me {lo hi : Nat} {w : World} {A : Option Addr} {n c : Nat} {B : Option Addr} {m d : Nat} {mq : MeQ} (h : OwMZ lo hi w A n c B m d ⟨mq.pts.map tp, mq.tris⟩) (h0 : 0 < mq.pts.length) : MeAt w (.agg #[.slice A n c, .slice B m d]) mq := by
  have hP := h.rdP
  have hT := h.rdT
  obtain ⟨h1, h2, h3, h4, h5, h6, ⟨e, _⟩ | ⟨g, g', cs, cs', fs, rfl, rfl, _⟩⟩ := h
  · rw [e] at h1
    rw [List.length_map] at h1
    omega
  · exact ⟨g, n, c, g', m, d, rfl, hP, hT⟩
/-- What the law asks of a square's mesh. -/
def SqF (a : Nat) (mq : MeQ) : Prop := MeshOk mq ∧ areaM mq = toR ((a * a : Nat) : Rat) ∧ mq.tris.length = 4 * a * a ∧ pix mq.pts ((a + 1) * (a + 1)) = (mkRat 1 2, mkRat 1 2) ∧ (a + 1) * (a + 1) < mq.pts.length
theorem sqF {a : Nat} (h : a = 1 ∨ a = 2 ∨ a = 3) : SqF a (sqMQ a) := by
  rcases h with rfl | rfl | rfl
  · exact ⟨sqMQ_ok1, sq_area1.trans (by decide +kernel), sq_tris1.1, sq_tris1.2.1, by rw [sq_tris1.2.2]; decide⟩
  · exact ⟨sqMQ_ok2, sq_area2.trans (by decide +kernel), sq_tris2.1, sq_tris2.2.1, by rw [sq_tris2.2.2]; decide⟩
  · exact ⟨sqMQ_ok3, sq_area3.trans (by decide +kernel), sq_tris3.1, sq_tris3.2.1, by rw [sq_tris3.2.2]; decide⟩
theorem sq_pos {a : Nat} (h : a = 1 ∨ a = 2 ∨ a = 3) : 0 < (sqMQ a).pts.length := by have := (sqF h).1.n3; omega
theorem SquareMesh_me (w : World) {a : Nat} (h : a = 1 ∨ a = 2 ∨ a = 3) :
    Calls Tryz.prog 35 #[.int .i64 (a : Int)] w fun e w' => ∃ v, e = .returned v ∧ MeAt w' v (sqMQ a) ∧ Bl w w' := by
  have hp := sq_pos h
  have hq := sqL_eq (a := a) (by omega)
  rcases h with rfl | rfl | rfl
  · refine (SquareMesh_1 w).mono ?_
    rintro e w' ⟨A, n, c, B, m, d, rfl, hO, hb⟩
    rw [hq] at hO
    exact ⟨_, rfl, hO.me hp, hb⟩
  · refine (SquareMesh_2 w).mono ?_
    rintro e w' ⟨A, n, c, B, m, d, rfl, hO, hb⟩
    rw [hq] at hO
    exact ⟨_, rfl, hO.me hp, hb⟩
  · refine (SquareMesh_3 w).mono ?_
    rintro e w' ⟨A, n, c, B, m, d, rfl, hO, hb⟩
    rw [hq] at hO
    exact ⟨_, rfl, hO.me hp, hb⟩
theorem CornerMesh_me (w : World) : Calls Tryz.prog 36 #[] w fun e w' => ∃ v, e = .returned v ∧ MeAt w' v cMQ ∧ Bl w w' := by
  refine (CornerMesh_any w).mono ?_
  rintro e w' ⟨A, n, c, B, m, d, rfl, hO, hb⟩
  rw [cMesh_eq] at hO
  exact ⟨_, rfl, hO.me (by decide), hb⟩
theorem eq_nat {a : Nat} (h : a ≤ 17) : eqR (toR ((a : Nat) : Rat)) (ofFrac (a : Int) 1) = true := by
  rw [(ofFrac_sm (a : Int) 1 (by omega) (by omega) (by omega)).1, eqR_iff]
  congr 1
  rw [Rat.mkRat_one]
  rfl
theorem half_eq : eqP (tp (mkRat 1 2, mkRat 1 2)) ⟨ofFrac 1 2, ofFrac 1 2⟩ = true := by
  rw [half_sm.1]
  show (eqR (toR (mkRat 1 2)) (toR (mkRat 1 2)) && eqR (toR (mkRat 1 2)) (toR (mkRat 1 2))) = true
  rw [eqR_iff.2 rfl]
  rfl
end

end Go.Proofs.YtajlahjghapbkaaGreat
