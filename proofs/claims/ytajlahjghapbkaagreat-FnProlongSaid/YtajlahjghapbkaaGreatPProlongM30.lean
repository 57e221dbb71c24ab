/- Lemmas. -/
import Derived.Test.YtajlahjghapbkaaGreatRows
import Derived.Test.YtajlahjghapbkaaGreatPProlongM29
import Derived.Test.YtajlahjghapbkaaGreatPProlongM19
import Derived.Test.YtajlahjghapbkaaGreatPProlongM26
import Derived.Test.YtajlahjghapbkaaGreatPProlongM27
import Derived.Test.YtajlahjghapbkaaGreatPProlongM22
import Derived.Test.YtajlahjghapbkaaGreatPProlongM23
namespace Go.Proofs.YtajlahjghapbkaaGreat
section
open Go.RowKit

theorem RowP.setLow {N : List Nat → Prop} {lo : Nat} {w : World} {v : Value} {l : List PtD} (h : RowP N lo w.heap.size w v l) {q : Addr} (hq : q.block < lo) (u : Value) : RowP N lo (w.setCell q u).heap.size (w.setCell q u) v l := by
  have hs : (w.setCell q u).heap.size = w.heap.size := by simp
  rw [hs]
  exact RowG.keep (ptIn_keep 3) h (by omega) fun b h1 _ => Below.heap_setCell w q u b (by omega)
theorem RowP.shape3 {N : List Nat → Prop} {lo hi : Nat} {w : World} {v : Value} {l : List PtD} (h : RowP N lo hi w v l) : ∃ A n c, v = .slice A n c := by
  obtain ⟨_, _, h1, _⟩ := h
  rcases h1.2 with ⟨rfl, _⟩ | ⟨g, cap, cur, rfl, _⟩
  · exact ⟨_, _, _, rfl⟩
  · exact ⟨_, _, _, rfl⟩
theorem RowP.up2 {N : List Nat → Prop} {lo : Nat} {w W : World} {v : Value} {l : List PtD} (h : RowP N lo w.heap.size w v l) (hb : Bl w W) : RowP N lo W.heap.size W v l := (RowG.bl (ptIn_keep 3) h hb).up hb.size (Nat.le_refl _)
theorem RowP.lit {N : List Nat → Prop} {lo hi : Nat} {w : World} {v : Value} {l : List PtD} (h : RowP N lo hi w v l) (hl : 0 < l.length) (hl2 : l.length ≤ 1048576) : ∃ g c, v = .slice (some ⟨g, 0, none⟩) l.length c ∧ lo ≤ g ∧ RdPS w (some ⟨g, 0, none⟩) l.length c l := by
  obtain ⟨A, c, e, hr⟩ := RowP.rd h hl2
  obtain ⟨cells, fs, h1, _⟩ := h
  rcases h1.2 with ⟨rfl, h0⟩ | ⟨g, cap, cur, rfl, hg, _⟩
  · omega
  · injection e with e1 e2 e3
    subst e1 e3
    exact ⟨g, cap, rfl, hg, hr⟩
def cpTo (l : List PtD) (k : Nat) : List PtD := (List.range k).map (pix l)
theorem cpTo_len (l : List PtD) (k : Nat) : (cpTo l k).length = k := by simp [cpTo]
theorem cpTo_succ (l : List PtD) (k : Nat) : cpTo l (k + 1) = cpTo l k ++ [pix l k] := by unfold cpTo; rw [List.range_succ, List.map_append]; rfl
theorem cpTo_all {l : List PtD} : cpTo l l.length = l := by
  refine List.ext_getElem (by simp [cpTo]) fun i h1 h2 => ?_
  simp [cpTo, pix, h2]
theorem OwT.low {base b1 : Nat} {w : World} {v : Value} {l : List TriD} (h : OwT b1 w v l) (hb : base ≤ b1) : OwT base w v l := by
  refine ⟨h.1, ?_⟩
  rcases h.2 with h2 | ⟨g, cap, cur, hv, hg, r⟩
  · exact .inl h2
  · exact .inr ⟨g, cap, cur, hv, Nat.le_trans hb hg, r⟩
/-- A mesh in memory of one's own; its triangles lie apart from its points. -/
def CmRes (w : World) (l : List PtD) (ts : List TriD) (en : Ending) (w' : World) : Prop :=
  ∃ lo gp n cp gt m ct, en = .returned (.agg #[.slice (some ⟨gp, 0, none⟩) n cp, .slice (some ⟨gt, 0, none⟩) m ct]) ∧ n = l.length ∧ m = ts.length ∧ RowP List.Nodup lo w'.heap.size w' (.slice (some ⟨gp, 0, none⟩) n cp) l ∧ OwT w.heap.size w' (.slice (some ⟨gt, 0, none⟩) m ct) ts ∧ gt < lo ∧ w.heap.size ≤ lo ∧ Bl w w'

set_option maxRecDepth 100000 in
set_option maxHeartbeats 16000000 in
theorem copyMesh_any (w : World) {gp n cp gt m ct : Nat} {l : List PtD} {ts : List TriD} (hp : RdPS w (some ⟨gp, 0, none⟩) n cp l) (ht : RdTS w (some ⟨gt, 0, none⟩) m ct ts) (hn : 0 < n) (hn2 : n ≤ 1048576) (hm2 : m ≤ 1048576)
    (hsz : ∀ k, k < n → ((pix l k).x.mag.length ≤ 1048576 ∧ (pix l k).x.den.length ≤ 1048576) ∧ (pix l k).y.mag.length ≤ 1048576 ∧ (pix l k).y.den.length ≤ 1048576) :
    Calls Tryz.prog 100 #[.agg #[.slice (some ⟨gp, 0, none⟩) n cp, .slice (some ⟨gt, 0, none⟩) m ct]] w (CmRes w l ts) := by
  have hln := Lib.hid hp.len
  have hlm := Lib.hid ht.len
  have hsz := Lib.hid hsz; rename_i h_; clear h_
  go_enter Tryz.func100, Tryz.ntmps100
  go_wp2_with fail
  refine calls_gen (fun W => Bl w W ∧ Blk W w.heap.size 57 #[.slice (some ⟨gp, 0, none⟩) n cp, .slice (some ⟨gt, 0, none⟩) m ct] ∧ Wk 2 57 (w.heap.size + 1) W) ⟨slc, bts, bts⟩ ?_
  rintro W ⟨hbW, hA, hr⟩
  refine (CloneTri_any _ (RdTS.bl ht hbW) hm2).mono ?_
  rintro e w1 ⟨gt', ct', rfl, hT, hb1⟩
  have hz0 := hr.lt
  have hA := hA.bl hb1
  have hr := hr.bl hb1
  have hbW := hbW.next hb1
  have hgt := hT.blk (g := gt') rfl
  have hz1 := hr.lt
  clear hb1
  obtain ⟨r0, r1⟩ := bx2 hA
  go_upto_region 2 with (fail)
  refine wp_gen (fun W2 => Bl w1 W2 ∧ Blk W2 w1.heap.size 57 #[.slice none 0 0, .slice (some ⟨gt', 0, none⟩) m ct']) ⟨slc, by exact bts⟩ ?_
  rintro W2 ⟨hb2, hm⟩
  have hA := hA.bl hb2
  have hT := hT.bl hb2
  have hr := hr.bl hb2
  have hbW := hbW.next hb2
  clear r0 r1
  obtain ⟨r0, r1⟩ := bx2 hA
  go_wp2_with fail
  clear r0 r1 hA
  go_loopw [13] (fun i wr => ∃ (k : Nat) (vp : Value), k ≤ n ∧ i = .int .i64 (k : Int) ∧ Blk wr w1.heap.size 57 #[vp, .slice (some ⟨gt', 0, none⟩) m ct'] ∧ RowP List.Nodup (w1.heap.size + 1) wr.heap.size wr vp (cpTo l k) ∧ OwT W.heap.size wr (.slice (some ⟨gt', 0, none⟩) m ct') ts ∧ Wk 2 57 (w.heap.size + 1) wr ∧ Bl w wr) (fun i _ => n - (intOf i).toNat)
  case atStart => exact ⟨0, .slice none 0 0, by omega, rfl, hm, RowG.nil appN_nodup _ (Nat.le_refl _), hT, hr, hbW⟩
  case round =>
    clear hm hT hr hbW hb2
    obtain ⟨k, vp, hk, rfl, hm, hrow, hT, hr, hbw⟩ := hrel
    by_cases hkn : k < n
    · have hki : (k : Int) < (n : Int) := by omega
      obtain ⟨sq, Aq, nq, cq, Bq, mq_, dq, tq, Cq, iq, eq, Dq, jq, fq, ⟨y0, y1, y2, y3, y4, y5⟩, hR1, hR2⟩ := pts_lit (RdPS.bl hp hbw) hkn
      obtain ⟨⟨sz1, sz2⟩, sz3, sz4⟩ := hsz.out k hkn
      have hn1 : nq ≤ 1048576 := by rw [← hR1.mag.len]; exact sz1
      have hn3 : mq_ ≤ 1048576 := by rw [← hR1.den.len]; exact sz2
      have hn4 : iq ≤ 1048576 := by rw [← hR2.mag.len]; exact sz3
      have hn5 : jq ≤ 1048576 := by rw [← hR2.den.len]; exact sz4
      clear sz1 sz2 sz3 sz4
      have hml := hm.lt
      have hvq := hrow.ne (Nat.le_refl wr.heap.size)
      go_upto_region 5 with (fail)
      refine wp_gen (fun W => Bl wr W ∧ wr.heap.size < W.heap.size ∧ Blk W wr.heap.size 31 #[.bool sq, .slice Aq nq cq, .slice Bq mq_ dq, .bool tq, .slice Cq iq eq, .slice Dq jq fq]) ⟨slc, by simp, by exact bts⟩ ?_
      rintro W ⟨hbq, hgw, hq⟩
      have hm := hm.bl hbq
      have hrow := RowP.up2 hrow hbq
      have hT := hT.bl hbq
      have hr := hr.bl hbq
      have hbW := hbw.next hbq
      have hlo : (w1.heap.size + 1) ≤ W.heap.size := by omega
      clear y0 y1 y2 y3 y4 y5
      replace hR1 := hR1.bl hbq
      replace hR2 := hR2.bl hbq
      have hHeld : (fun w' => (w'.cell? ⟨w1.heap.size, 0, none⟩ = some (vp) ∧ w'.cell? ⟨w1.heap.size, 1, none⟩ = some (.slice (some ⟨gt', 0, none⟩) m ct')) ∧ (w'.cell? ⟨wr.heap.size, 0, none⟩ = some (.bool sq) ∧ w'.cell? ⟨wr.heap.size, 1, none⟩ = some (.slice Aq nq cq) ∧ w'.cell? ⟨wr.heap.size, 2, none⟩ = some (.slice Bq mq_ dq) ∧ w'.cell? ⟨wr.heap.size, 3, none⟩ = some (.bool tq) ∧ w'.cell? ⟨wr.heap.size, 4, none⟩ = some (.slice Cq iq eq) ∧ w'.cell? ⟨wr.heap.size, 5, none⟩ = some (.slice Dq jq fq))) (W.drew) := ⟨bx2 (T := 57) (hm.bl slc), bx6 (T := 31) (hq.bl slc)⟩
      refine wp_region_T 7 8 (fun w' => (w'.cell? ⟨w1.heap.size, 0, none⟩ = some (vp) ∧ w'.cell? ⟨w1.heap.size, 1, none⟩ = some (.slice (some ⟨gt', 0, none⟩) m ct')) ∧ (w'.cell? ⟨wr.heap.size, 0, none⟩ = some (.bool sq) ∧ w'.cell? ⟨wr.heap.size, 1, none⟩ = some (.slice Aq nq cq) ∧ w'.cell? ⟨wr.heap.size, 2, none⟩ = some (.slice Bq mq_ dq) ∧ w'.cell? ⟨wr.heap.size, 3, none⟩ = some (.bool tq) ∧ w'.cell? ⟨wr.heap.size, 4, none⟩ = some (.slice Cq iq eq) ∧ w'.cell? ⟨wr.heap.size, 5, none⟩ = some (.slice Dq jq fq))) rfl (by kernel_rfl) hHeld ?_
      refine wpAnyT_take (i := 0) (oi := _) (v := ?_) (fuel := 7) rfl (by kernel_rfl) (by kernel_rfl) (by kernel_rfl) (by kernel_rfl) (fun _ _ _ h => h) (by rfl) ?_ hHeld ?_
      rotate_left 1
      · (intro w' hSw; (try dsimp only at hSw); go_simp <;> with_reducible rfl)
      refine wpAnyT_take (i := 1) (oi := _) (v := ?_) (fuel := 6) rfl (by kernel_rfl) (by kernel_rfl) (by kernel_rfl) (by kernel_rfl) (fun _ _ _ h => h) (by rfl) ?_ hHeld ?_
      rotate_left 1
      · (intro w' hSw; (try dsimp only at hSw); go_simp <;> with_reducible rfl)
      refine wpAnyT_take (i := 2) (oi := _) (v := ?_) (fuel := 5) rfl (by kernel_rfl) (by kernel_rfl) (by kernel_rfl) (by kernel_rfl) (fun _ _ _ h => h) (by rfl) ?_ hHeld ?_
      rotate_left 1
      · (intro w' hSw; (try dsimp only at hSw); go_simp <;> with_reducible rfl)
      clear hHeld
      simp only [Act.put, List.setIfInBounds_toArray]
      refine wpAnyT_step (i := 3) (o := _) (fuel := 4) rfl (by kernel_rfl) (fun K hK => ?_)
      go_simp
      refine (copyPoint_any _ (RdR.bl hR1 slc) (RdR.bl hR2 slc) (by omega) (by omega) (by omega) (by omega)).mono ?_
      rintro e w2 ⟨A1, n1, c1, B1, m1, d1, C1, i1', e1, D1, j1, f1, rfl, hP, hb2⟩
      have hrow4 := RowG.bl (ptIn_keep 3) hrow (show Bl W w2 from slc)
      have hP4 := OwPN.of hP
      have hm := hm.bl (show Bl W w2 from slc)
      have hq := hq.bl (show Bl W w2 from slc)
      have hT4 := hT.bl (show Bl W w2 from slc)
      have hr4 := hr.bl (show Bl W w2 from slc)
      have hbw4 : Bl w w2 := hbW.next (show Bl W w2 from slc)
      refine hK.out _ _ (fun _ => ⟨bx2 (T := 57) (hm.bl slc), bx6 (T := 31) (hq.bl slc)⟩) ?_
      clear hK K
      try simp only [Act.put, List.setIfInBounds_toArray, List.set_cons_zero, List.set_cons_succ]
      refine wpAnyT_step (i := 4) (o := _) (fuel := 3) rfl (by kernel_rfl) (fun K hK => ?_)
      go_simp
      refine hK.out _ _ (fun _ => ⟨bx2 (T := 57) (hm.bl slc), bx6 (T := 31) (hq.bl slc)⟩) ?_
      clear hK K
      try simp only [Act.put, List.setIfInBounds_toArray, List.set_cons_zero, List.set_cons_succ]
      refine wpAnyT_step (i := 5) (o := _) (fuel := 2) rfl (by kernel_rfl) (fun K hK => ?_)
      refine step_append_ptX appN_nodup rfl (.tmp 18) (.tmp 21) rfl _ (by rfl) hrow4 hP4 (Nat.le_refl _) hlo 1 (by rfl) (by rw [cpTo_len]; omega) w hbw4 (by omega) ?_
      intro v' w8 hrow' hb8' hoth
      obtain ⟨A8, n8, c8, rfl⟩ := RowP.shape3 hrow'
      have hm := hm.oth hoth (fun e => by have := hrow.lo e; omega)
      have hq := hq.oth hoth hvq
      have hT8 := hT4.keep (fun g e => (hoth g (hT4.blk e).2 (fun e2 => by have h1 := hrow.lo e2; injection e with e; simp only at e; omega)).1)
      obtain ⟨cs5, hB5, hc5⟩ := hr4
      have hr8 : Wk 2 57 (w.heap.size + 1) w8 := ⟨cs5, hB5.oth hoth (fun e => by have := hrow.lo e; omega), hc5⟩
      refine hK.out _ _ (fun _ => ⟨bx2 (T := 57) (hm.bl slc), bx6 (T := 31) (hq.bl slc)⟩) ?_
      clear hK K
      try simp only [Act.put, List.setIfInBounds_toArray]
      refine wpAnyT_step (i := 6) (o := _) (fuel := 1) rfl (by kernel_rfl) (fun K hK => ?_)
      go_simp
      refine hK.out _ _ (fun _ => ⟨bx2 (T := 57) (hm.bl slc), bx6 (T := 31) (hq.bl slc)⟩) ?_
      clear hK K
      try simp only [Act.put, List.setIfInBounds_toArray, List.set_cons_zero, List.set_cons_succ]
      obtain ⟨z0', z1'⟩ := bx2 hm
      have zf := hm.frozen 0
      refine wpAnyT_step (i := 7) (o := _) (fuel := 0) rfl (by kernel_rfl) (fun K hK => ?_)
      go_simp
      refine hK.out _ _ (fun h => absurd rfl h) ?_
      clear hK K
      try simp only [Act.put, List.setIfInBounds_toArray]
      refine wpAnyT_done (by kernel_rfl) ?_
      go_wp2_with fail
      go_roundw
      case rel => exact ⟨k + 1, _, by omega, by go_num, by simpa using hm.set_ 0 _, by rw [cpTo_succ]; exact RowP.setLow hrow' (by simp) _, hT8.keep (fun g e => Below.heap_setCell _ _ _ g (by injection e with e; simp only at e ⊢; omega)), hr8.far (by simp; omega) _, Bl.set hb8' (by simp; omega) _⟩
      case measure => simp [intOf]; omega
    · obtain rfl : k = n := by omega
      have hkm2 : ¬ (k : Int) < (k : Int) := by omega
      rw [show cpTo l k = l by rw [← hln.out]; exact cpTo_all] at hrow
      obtain ⟨gp', cp', rfl, hgp, hRd⟩ := hrow.lit (by rw [hln.out]; exact hn) (by rw [hln.out]; exact hn2)
      obtain ⟨v0, x0⟩ := hr.val_ (i := 0) (by omega)
      obtain ⟨v1, x1⟩ := hr.val_ (i := 1) (by omega)
      have hg := hr.lt
      obtain ⟨cs4, hB4, hc4⟩ := hr
      have hf0 := hB4.frozen 0
      have hf1 := hB4.frozen 1
      rw [hln.out] at hm hrow hRd
      obtain ⟨i0, i1⟩ := bx2 hm
      go_wp2_with fail
      exact bodyPost_ret (v := .agg #[.slice (some ⟨gp', 0, none⟩) k cp', .slice (some ⟨gt', 0, none⟩) m ct']) (by simp [results, Tryz.results100, go_sem, x0, x1]) rfl ⟨(w1.heap.size + 1), gp', _, cp', gt', _, ct', rfl, hln.out.symm, hlm.out.symm, RowP.setLow (RowP.setLow hrow (by simp; omega) _) (by simp; omega) _, (hT.keep (fun g e => (Below.heap_setCell _ _ _ g (by injection e with e; simp only at e ⊢; omega)).trans (Below.heap_setCell _ _ _ g (by injection e with e; simp only at e ⊢; omega)))).low (by omega), by omega, by omega, slc⟩
end

section
open Go.RowKit

theorem OwT.setK {base : Nat} {w : World} {l : List TriD} {g n c : Nat} (h : OwT base w (.slice (some ⟨g, 0, none⟩) n c) l) {j : Nat} {u : Value} {l' : List TriD} (hl : l'.length = l.length) (hf : l'.flatMap encT = (l.flatMap encT).set j u) : OwT base (w.setCell ⟨g, j, none⟩ u) (.slice (some ⟨g, 0, none⟩) n c) l' := by
  obtain ⟨hcl, ⟨h, _⟩ | ⟨g', cap, cur, h, hg, hh, hnc, hm, hcs, htk⟩⟩ := id h
  · cases h
  injection h with q1 q2 q3
  injection q1 with q1
  injection q1 with q1
  subst q1
  unfold OwT World.ownsRow
  rw [hl, hf]
  refine ⟨by simpa using hcl, .inr ⟨g, cap, _, by rw [q2, q3], hg, Blk.set_ (T := 73) hh j u, hnc, hm, by simpa using hcs, ?_⟩⟩
  rw [Array.toList_setIfInBounds, List.take_set, htk]
theorem OwT.rd {base : Nat} {w : World} {l : List TriD} {g n c : Nat} (h : OwT base w (.slice (some ⟨g, 0, none⟩) n c) l) : RdTS w (some ⟨g, 0, none⟩) n c l ∧ (∀ o, w.frozen? ⟨g, o, none⟩ = false) := by
  obtain ⟨g', c', e, h1, h2, h3, h4⟩ := h.lit (fun e => by cases e)
  injection e with q1 q2 q3
  injection q1 with q1
  injection q1 with q1
  subst q1 q2 q3
  exact ⟨h2, h4⟩
theorem sm_sz {q : Rat} (h : SmQ q) : (toR q).mag.length ≤ 1048576 ∧ (toR q).den.length ≤ 1048576 := by
  have h1 := h.mag
  have h2 := h.den
  omega
theorem RowP.rdN {N : List Nat → Prop} {lo hi : Nat} {w : World} {g n c : Nat} {l : List PtD} (h : RowP N lo hi w (.slice (some ⟨g, 0, none⟩) n c) l) (hl : l.length ≤ 1048576) : RdPS w (some ⟨g, 0, none⟩) n c l := by
  obtain ⟨A, d, e, hr⟩ := RowP.rd h hl
  injection e with q1 q2 q3
  subst q1 q2 q3
  exact hr
end

section
open Go.RowKit

theorem gpt_tp (x y : Nat) (hx : x ≤ 8) (hy : y ≤ 8) : gpt x y = tp (qp1 x y) := by
  show (⟨ofFrac (x : Int) 1, ofFrac (y : Int) 1⟩ : PtD) = ⟨toR (mkRat (x : Int) 1), toR (mkRat (y : Int) 1)⟩
  rw [(ofFrac_sm (x : Int) 1 (by omega) (by omega) (by omega)).1, (ofFrac_sm (y : Int) 1 (by omega) (by omega) (by omega)).1]
def sumQ (q : Nat → Rat) : Nat → Rat
  | 0 => 0
  | k + 1 => sumQ q k + q k
instance (N : Nat) (q : Rat) : Decidable (Bd N q) := by unfold Bd; infer_instance
theorem accS_toR {l : List RatD} {q : Nat → Rat} : ∀ {n : Nat}, (∀ k, k < n → pix l k = toR (q k) ∧ Fit (q k)) → (∀ k, k ≤ n → Fit (sumQ q k)) → accS l n = toR (sumQ q n)
  | 0, _, _ => by
    show ofFrac 0 1 = toR 0
    rw [zero_sm.1, zero_sm.2.2]
  | n + 1, h1, h2 => by
    obtain ⟨e, f⟩ := h1 n (by omega)
    show addR (accS l n) (pix l n) = _
    rw [accS_toR (fun k hk => h1 k (by omega)) (fun k hk => h2 k (by omega)), e]
    exact addR_toR (h2 n (by omega)) f (h2 (n + 1) (by omega))
/-- The area of triangle k. -/
def aqK (m : MeQ) (k : Nat) : Rat := arQ (mc m (pix m.tris k).a).1 (mc m (pix m.tris k).a).2 (mc m (pix m.tris k).b).1 (mc m (pix m.tris k).b).2 (mc m (pix m.tris k).c).1 (mc m (pix m.tris k).c).2
def Sm2 (p : Rat × Rat) : Prop := Bd 17 p.1 ∧ Bd 17 p.2
instance (p : Rat × Rat) : Decidable (Sm2 p) := by unfold Sm2; infer_instance
def okA (m : MeQ) (s : Rat) : Bool := decide (∀ k, k < m.tris.length → Sm2 (mc m (pix m.tris k).a) ∧ Sm2 (mc m (pix m.tris k).b) ∧ Sm2 (mc m (pix m.tris k).c)) && (decide (∀ k, k < m.tris.length + 1 → Bd 446448476224 (sumQ (aqK m) k)) && decide (sumQ (aqK m) m.tris.length = s))
theorem areaM_toR {m : MeQ} {s : Rat} (h : okA m s = true) : areaM m = toR s := by
  unfold okA at h
  simp only [Bool.and_eq_true, decide_eq_true_eq] at h
  obtain ⟨h1, h2, h3⟩ := h
  unfold areaM sumS
  rw [arTo_len, ← h3]
  refine accS_toR (fun k hk => ?_) (fun k hk => (h2 k (by omega)).fit (by decide))
  obtain ⟨⟨a1, a2⟩, ⟨b1, b2⟩, c1, c2⟩ := h1 k hk
  obtain ⟨e, hb⟩ := area_toP (x0 := (mc m (pix m.tris k).a).1) (y0 := (mc m (pix m.tris k).a).2) (x1 := (mc m (pix m.tris k).b).1) (y1 := (mc m (pix m.tris k).b).2) (x2 := (mc m (pix m.tris k).c).1) (y2 := (mc m (pix m.tris k).c).2) ⟨a1, a2, b1, b2, c1, c2⟩
  refine ⟨?_, hb.fit (by decide)⟩
  rw [show pix (arTo m m.tris.length) k = arK m k by simp [pix, arTo, hk]]
  exact e
end

section
open Go.RowKit

/-- Flag i of a list of flags. -/
def bgt (bl : List Bool) (i : Nat) : Bool := bl.getD i false
theorem bgt_set {bl : List Bool} {n k : Nat} (hl : bl.length = n) (x : Bool) (i : Nat) (hi : i < n) : (if i = k then x else bgt bl i) = bgt (bl.set k x) i := by
  unfold bgt
  rw [List.getD_eq_getElem?_getD, List.getD_eq_getElem?_getD, List.getElem?_set]
  by_cases e : i = k
  · subst e
    rw [if_pos rfl, if_pos rfl, if_pos (by omega)]
    rfl
  · rw [if_neg e, if_neg (fun h => e h.symm)]
theorem bgt_rep (n i : Nat) : bgt (List.replicate n false) i = false := by
  unfold bgt
  rw [List.getD_eq_getElem?_getD, List.getElem?_replicate]
  by_cases e : i < n
  · rw [if_pos e]; rfl
  · rw [if_neg e]; rfl
/-- The flags of the first k indices of a list. -/
def mkTo (l : List Int) (n : Nat) : Nat → List Bool
  | 0 => List.replicate n false
  | k + 1 => if 0 ≤ ix l k ∧ ix l k ≤ (n : Int) - 1 then (mkTo l n k).set (ix l k).toNat true else mkTo l n k
def mkA (l : List Int) (n : Nat) : List Bool := mkTo l n l.length
theorem mkTo_len (l : List Int) (n : Nat) : ∀ k, (mkTo l n k).length = n
  | 0 => by simp [mkTo]
  | k + 1 => by
    unfold mkTo
    split
    · rw [List.length_set, mkTo_len l n k]
    · exact mkTo_len l n k
theorem mkA_len (l : List Int) (n : Nat) : (mkA l n).length = n := mkTo_len l n _
/-- The marked indices among the first k. -/
def lsTo (bl : List Bool) (k : Nat) : List Int := ((List.range k).filter (bgt bl)).map (fun i : Nat => (i : Int))
def lsA (bl : List Bool) : List Int := lsTo bl bl.length
theorem lsTo_succ (bl : List Bool) (k : Nat) : lsTo bl (k + 1) = if bgt bl k = true then lsTo bl k ++ [(k : Int)] else lsTo bl k := by
  unfold lsTo
  rw [List.range_succ, List.filter_append, List.map_append]
  by_cases h : bgt bl k = true
  · rw [if_pos h]; simp [h]
  · rw [if_neg h]; simp [h]
theorem lsTo_len (bl : List Bool) (k : Nat) : (lsTo bl k).length ≤ k := by
  unfold lsTo
  rw [List.length_map]
  exact Nat.le_trans (List.length_filter_le _ _) (by simp)
theorem lsTo_mem {bl : List Bool} {k : Nat} {x : Int} (h : x ∈ lsTo bl k) : 0 ≤ x ∧ x < k := by
  unfold lsTo at h
  obtain ⟨i, hi, rfl⟩ := List.mem_map.1 h
  have := List.mem_range.1 (List.mem_filter.1 hi).1
  omega
theorem ix_mem {l : List Int} {k : Nat} (h : k < l.length) : ix l k ∈ l := by
  unfold ix
  rw [List.getD_eq_getElem?_getD, List.getElem?_eq_getElem h]
  exact List.getElem_mem h
theorem lsA_ix {bl : List Bool} {k : Nat} (h : k < (lsA bl).length) : 0 ≤ ix (lsA bl) k ∧ ix (lsA bl) k < bl.length := lsTo_mem (ix_mem h)
/-- The refinement edges of the first k triangles of a list. -/
def emTo (ts : List TriD) (L : List EdD) (ks : List Int) : Nat → List Bool
  | 0 => List.replicate L.length false
  | k + 1 => (emTo ts L ks k).set (posE (newE (pix ts (ix ks k).toNat).b (pix ts (ix ks k).toNat).c) L) true
theorem emTo_len (ts : List TriD) (L : List EdD) (ks : List Int) : ∀ k, (emTo ts L ks k).length = L.length
  | 0 => by simp [emTo]
  | k + 1 => by unfold emTo; rw [List.length_set, emTo_len ts L ks k]
def emB (ts : List TriD) (bl : List Bool) : List Bool := emTo ts (edL ts) (lsA bl) (lsA bl).length
def emA (ts : List TriD) (l : List Int) : List Int := lsA (emB ts (mkA l ts.length))
/-- All edges of the triangles are among the edges. -/
def EdHas (ts : List TriD) (L : List EdD) : Prop := ∀ k, k < ts.length → fndE (newE (pix ts k).b (pix ts k).c) L = true ∧ fndE (newE (pix ts k).a (pix ts k).b) L = true ∧ fndE (newE (pix ts k).c (pix ts k).a) L = true
theorem fndE_lt {e : EdD} {L : List EdD} (h : fndE e L = true) : posE e L < L.length := by
  unfold fndE at h
  simp only [Bool.and_eq_true, decide_eq_true_eq] at h
  exact h.1
/-- One triangle of a round of the closure. -/
def clT (L : List EdD) (t : TriD) (x : List Bool × Bool) : List Bool × Bool :=
  if bgt x.1 (posE (newE t.b t.c) L) = false ∧ (bgt x.1 (posE (newE t.a t.b) L) = true ∨ bgt x.1 (posE (newE t.c t.a) L) = true) then (x.1.set (posE (newE t.b t.c) L) true, true) else x
def clTo (ts : List TriD) (L : List EdD) (bl : List Bool) : Nat → List Bool × Bool
  | 0 => (bl, false)
  | k + 1 => clT L (pix ts k) (clTo ts L bl k)
theorem clTo_len (ts : List TriD) (L : List EdD) (bl : List Bool) : ∀ k, (clTo ts L bl k).1.length = bl.length
  | 0 => rfl
  | k + 1 => by
    have h := clTo_len ts L bl k
    unfold clTo clT
    split
    · rw [List.length_set]; exact h
    · exact h
/-- How many flags are down. -/
def dnB (bl : List Bool) : Nat := bl.count false
theorem dnB_set {bl : List Bool} {k : Nat} (hk : k < bl.length) (h : bgt bl k = false) : dnB (bl.set k true) + 1 = dnB bl := by
  unfold dnB
  have e : bl[k] = false := by
    unfold bgt at h
    rwa [List.getD_eq_getElem?_getD, List.getElem?_eq_getElem hk] at h
  rw [List.count_set hk, e]
  have : 0 < bl.count false := List.count_pos_iff.2 (e ▸ List.getElem_mem hk)
  simp
  omega
theorem clTo_dn {ts : List TriD} {L : List EdD} {bl : List Bool} (hl : bl.length = L.length) (hE : EdHas ts L) : ∀ k, k ≤ ts.length → dnB (clTo ts L bl k).1 + (if (clTo ts L bl k).2 = true then 1 else 0) ≤ dnB bl
  | 0, _ => by simp [clTo]
  | k + 1, hk => by
    have h := clTo_dn hl hE k (by omega)
    have hlen := clTo_len ts L bl k
    unfold clTo clT
    split
    · rename_i hc
      have := dnB_set (bl := (clTo ts L bl k).1) (k := posE (newE (pix ts k).b (pix ts k).c) L) (by rw [hlen, hl]; exact fndE_lt (hE k (by omega)).1) hc.1
      show dnB ((clTo ts L bl k).1.set _ true) + 1 ≤ _
      omega
    · exact h
/-- The closure, with fuel. -/
def clF (ts : List TriD) (L : List EdD) : Nat → List Bool → List Bool
  | 0, bl => bl
  | f + 1, bl => if (clTo ts L bl ts.length).2 = true then clF ts L f (clTo ts L bl ts.length).1 else (clTo ts L bl ts.length).1
theorem clF_len (ts : List TriD) (L : List EdD) : ∀ f bl, (clF ts L f bl).length = bl.length
  | 0, _ => rfl
  | f + 1, bl => by
    unfold clF
    split
    · rw [clF_len ts L f, clTo_len]
    · rw [clTo_len]
def clA (ts : List TriD) (l : List Int) : List Bool := clF ts (edL ts) ((edL ts).length + 1) (mkA l (edL ts).length)
theorem dnB_le (bl : List Bool) : dnB bl ≤ bl.length := List.count_le_length
/-- The halves of a triangle. -/
def hvA (t : TriD) (m : Int) : TriD := ⟨m, t.a, t.b, t.region, t.level + 1⟩
def hvB (t : TriD) (m : Int) : TriD := ⟨m, t.c, t.a, t.region, t.level + 1⟩
def bsT (mid : Int → Int → Int) : Nat → TriD → List TriD
  | 0, t => [t]
  | d + 1, t => if mid t.b t.c < 0 then [t] else bsT mid d (hvA t (mid t.b t.c)) ++ bsT mid d (hvB t (mid t.b t.c))
theorem bsT_len (mid : Int → Int → Int) : ∀ d t, (bsT mid d t).length ≤ 2 ^ d
  | 0, t => by simp [bsT]
  | d + 1, t => by
    unfold bsT
    split
    · have := Nat.two_pow_pos (d + 1)
      simp
      omega
    · have h1 := bsT_len mid d (hvA t (mid t.b t.c))
      have h2 := bsT_len mid d (hvB t (mid t.b t.c))
      rw [List.length_append, Nat.pow_succ]
      omega
theorem bsT_pos (mid : Int → Int → Int) : ∀ d t, 1 ≤ (bsT mid d t).length
  | 0, t => by simp [bsT]
  | d + 1, t => by
    unfold bsT
    split
    · simp
    · have h1 := bsT_pos mid d (hvA t (mid t.b t.c))
      rw [List.length_append]
      omega
/-- The midpoints' numbers of the first k edges, where n points stand already. -/
def mdTo (bl : List Bool) (n : Nat) (k : Nat) : List Int := (List.range k).map fun i => if bgt bl i = true then ((n + (lsTo bl i).length : Nat) : Int) else -1
def midF (L : List EdD) (md : List Int) (a b : Int) : Int := if fndE (newE a b) L = true then ix md (posE (newE a b) L) else -1
theorem mdTo_len (bl : List Bool) (n k : Nat) : (mdTo bl n k).length = k := by simp [mdTo]
def midQ (p q : Rat × Rat) : Rat × Rat := (mkRat 1 2 * (p.1 + q.1), mkRat 1 2 * (p.2 + q.2))
theorem midP_tp {p q : Rat × Rat} (hp : Sm2 p) (hq : Sm2 q) : midP (tp p) (tp q) = tp (midQ p q) := by
  have h2 := half_sm
  have b2 : B10 1 (mkRat 1 2) := B10.of h2.2 (by decide)
  have a := B10.of (k := 2) hp.1 (by decide)
  have b := B10.of (k := 2) hp.2 (by decide)
  have c := B10.of (k := 2) hq.1 (by decide)
  have d := B10.of (k := 2) hq.2 (by decide)
  unfold midP
  rw [h2.1]
  show sclP (toR (mkRat 1 2)) (addP (toP p.1 p.2) (toP q.1 q.2)) = _
  rw [addP_b a b c d (by omega), sclP_b b2 (a.add c) (b.add d) (by omega)]
  rfl
def mdP (mq : MeQ) (L : List EdD) (i : Int) : Rat × Rat := midQ (mc mq (pix L i.toNat).a) (mc mq (pix L i.toNat).b)
/-- The points when the first k edges have been looked at. -/
def bpTo (mq : MeQ) (L : List EdD) (bl : List Bool) (k : Nat) : List (Rat × Rat) := mq.pts ++ (lsTo bl k).map (mdP mq L)
theorem bpTo_len (mq : MeQ) (L : List EdD) (bl : List Bool) (k : Nat) : (bpTo mq L bl k).length = mq.pts.length + (lsTo bl k).length := by unfold bpTo; rw [List.length_append, List.length_map]
theorem bpTo_yes (mq : MeQ) (L : List EdD) {bl : List Bool} {k : Nat} (h : bgt bl k = true) : bpTo mq L bl (k + 1) = bpTo mq L bl k ++ [mdP mq L (k : Int)] := by
  unfold bpTo
  rw [lsTo_succ, if_pos h, List.map_append, ← List.append_assoc]
  rfl
theorem bpTo_no (mq : MeQ) (L : List EdD) {bl : List Bool} {k : Nat} (h : bgt bl k = false) : bpTo mq L bl (k + 1) = bpTo mq L bl k := by
  unfold bpTo
  rw [lsTo_succ, if_neg (by rw [h]; decide)]
/-- The triangles when the first k have been looked at. -/
def btTo (ts : List TriD) (mid : Int → Int → Int) (k : Nat) : List TriD := (List.range k).flatMap fun i => bsT mid 2 (pix ts i)
theorem btTo_succ (ts : List TriD) (mid : Int → Int → Int) (k : Nat) : btTo ts mid (k + 1) = btTo ts mid k ++ bsT mid 2 (pix ts k) := by unfold btTo; rw [List.range_succ, List.flatMap_append]; simp
theorem btTo_len (ts : List TriD) (mid : Int → Int → Int) : ∀ k, (btTo ts mid k).length ≤ 4 * k
  | 0 => by simp [btTo]
  | k + 1 => by
    rw [btTo_succ, List.length_append]
    have h1 := btTo_len ts mid k
    have h2 := bsT_len mid 2 (pix ts k)
    omega
theorem btTo_pos (ts : List TriD) (mid : Int → Int → Int) : ∀ k, k ≤ (btTo ts mid k).length
  | 0 => by simp
  | k + 1 => by
    rw [btTo_succ, List.length_append]
    have h1 := btTo_pos ts mid k
    have h2 := bsT_pos mid 2 (pix ts k)
    omega
/-- The mesh in which the closure of marked edges is bisected. -/
def bisL (mq : MeQ) (L : List EdD) (bl : List Bool) : MeQ := ⟨bpTo mq L bl L.length, btTo mq.tris (midF L (mdTo bl mq.pts.length L.length)) mq.tris.length⟩
def bisM (mq : MeQ) (l : List Int) : MeQ := bisL mq (edL mq.tris) (clA mq.tris l)
end

end Go.Proofs.YtajlahjghapbkaaGreat
