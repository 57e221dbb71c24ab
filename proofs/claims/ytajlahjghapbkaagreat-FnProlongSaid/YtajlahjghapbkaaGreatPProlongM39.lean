/- Lemmas. -/
import Derived.Test.YtajlahjghapbkaaGreatRows
import Derived.Test.YtajlahjghapbkaaGreatPProlongM38
import Derived.Test.YtajlahjghapbkaaGreatPProlongM33
import Derived.Test.YtajlahjghapbkaaGreatPProlongM35
import Derived.Test.YtajlahjghapbkaaGreatPProlongM23
namespace Go.Proofs.YtajlahjghapbkaaGreat
section
open Go.RowKit

theorem pix_proT {u : List RatD} {P : List (List Int)} {k n : Nat} (h : k < n) : pix (proT u P n) k = proR u (pix P k) := by simp [pix, proT, h]
/-- Prolongation and gathering, of small fractions. -/
theorem adjR {P : List (List Int)} {n : Nat} {wL zL : List RatD} (hw : RasL wL) (hz : RasL zL) (hP : PaOk n P) (hwl : wL.length = n) (hzl : zL.length = P.length) (h40 : P.length ≤ 40) (hn40 : n ≤ 40) :
    innR (proT wL P P.length) zL = innR wL (gaT P zL n P.length) ∧ AllOk (proT wL P P.length) ∧ AllOk (gaT P zL n P.length) := by
  obtain ⟨w, hw⟩ := VFr.of hw
  obtain ⟨z, hz⟩ := VFr.of hz
  have hp : ∀ k, k < P.length → pix (proT wL P P.length) k = toR (pq w (pix P k)) ∧ Fr 24504480 833152320 (pq w (pix P k)) := fun k hk => by
    rw [pix_proT hk]
    exact proR_toR hw (hP k hk).1 (by rw [hwl]; exact (hP k hk).2)
  have hzz : ∀ k, k < P.length → pix zL k = toR (z k) ∧ Fr 12252240 208288080 (z k) := fun k hk => hz k (by omega)
  have hww : ∀ k, k < n → pix wL k = toR (w k) ∧ Fr 12252240 208288080 (w k) := fun k hk => hw k (by omega)
  have hg : ∀ k, k < n → pix (gaT P zL n P.length) k = toR (gTot P z P.length k) ∧ Fr 24504480 (80 * 416576160) (gTot P z P.length k) := fun k hk => by
    obtain ⟨e, f⟩ := gaT_toR hz hP hzl h40 P.length (Nat.le_refl _) k hk
    exact ⟨e, f.mono (Nat.mul_le_mul_right _ (by omega))⟩
  have hA := accR_toR hp hzz (by decide) (by decide) (by decide) (by decide) (by decide) (by decide) (by decide) (Nat.le_trans (Nat.mul_le_mul_right _ (show P.length + 1 ≤ 41 by omega)) (by decide)) P.length (Nat.le_refl _)
  have hB := accR_toR hww hg (by decide) (by decide) (by decide) (by decide) (by decide) (by decide) (by decide) (Nat.le_trans (Nat.mul_le_mul_right _ (show n + 1 ≤ 41 by omega)) (by decide)) n (Nat.le_refl _)
  refine ⟨?_, fun k hk => ?_, fun k hk => ?_⟩
  · unfold innR
    rw [if_pos (by rw [proT_len, hzl]), if_pos (by rw [hwl, gaT_len]), proT_len, hwl, hA.1, hB.1, adj w z hP _ (Nat.le_refl _)]
  · rw [proT_len] at hk
    rw [(hp k hk).1]
    exact ((hp k hk).2.fit (by decide) (by decide) (by decide)).ok
  · rw [gaT_len] at hk
    rw [(hg k hk).1]
    exact ((hg k hk).2.fit (by decide) (by decide) (by decide)).ok
end

section
open Go.RowKit

def linQ (p : Rat × Rat) : Rat := p.1 + mkRat 2 1 * p.2
def linL (l : List (Rat × Rat)) : List RatD := l.map fun p => toR (linQ p)
theorem lin_ok {p : Rat × Rat} (h : Sm2 p) : addR (toR p.1) (mulR (ofFrac 2 1) (toR p.2)) = toR (linQ p) ∧ Bd 9826 (linQ p) := by
  obtain ⟨e, b⟩ := ofFrac_sm 2 1 (by omega) (by decide) (by omega)
  have bm := b.mul h.2
  have bs := h.1.add bm
  rw [e, mulR_toR (b.fit (by decide)) (h.2.fit (by decide)) (bm.fit (by decide)), addR_toR (h.1.fit (by decide)) (bm.fit (by decide)) (bs.fit (by decide))]
  exact ⟨rfl, bs.mono (by decide)⟩
theorem lin_mid {p q : Rat × Rat} (hp : Sm2 p) (hq : Sm2 q) : mulR (ofFrac 1 2) (addR (toR (linQ p)) (toR (linQ q))) = toR (linQ (midQ p q)) := by
  have a := (lin_ok hp).2
  have b := (lin_ok hq).2
  have c := a.add b
  have d := half_sm.2.mul c
  rw [half_sm.1, addR_toR (a.fit (by decide)) (b.fit (by decide)) (c.fit (by decide)), mulR_toR (half_sm.2.fit (by decide)) (c.fit (by decide)) (d.fit (by decide))]
  congr 1
  unfold linQ midQ
  grind
theorem proT_map (u : List RatD) (P : List (List Int)) : proT u P P.length = P.map (proR u) := by
  apply List.ext_getElem
  · simp [proT]
  · intro i h1 h2
    have h3 : i < P.length := by simpa using h2
    simp [proT, pix, h3]
theorem lin_pro {m x : MeQ} (hf : FitM m) (hr : RmOk m x) : proT (linL m.pts) (paL m (rmL m x)) (paL m (rmL m x)).length = linL x.pts := by
  have hE : EdIx m.pts.length (edL m.tris) := edTo_ix hf.ok.ixs (Nat.le_refl _)
  have hu : ∀ k, k < m.pts.length → pix (linL m.pts) k = toR (linQ (pix m.pts k)) := fun k hk => by simp [pix, linL, hk]
  rw [proT_map, paL_eq, List.map_append, hr.pts]
  unfold linL
  rw [List.map_append]
  congr 1
  · apply List.ext_getElem
    · simp [sgL]
    · intro i h1 h2
      have h3 : i < m.pts.length := by simpa using h2
      have h4 := hu i h3
      simp only [List.getElem_map, sgL, List.getElem_range]
      show proR (linL m.pts) [(i : Int)] = toR (linQ m.pts[i])
      unfold proR
      rw [if_neg (by simp)]
      show pix (linL m.pts) (Int.toNat (i : Int)) = _
      rw [Int.toNat_natCast, h4]
      simp [pix, h3]
  · rw [List.map_map, List.map_map]
    apply List.map_congr_left
    intro k hk
    have h1 := lsTo_mem hk
    obtain ⟨⟨a0, a1⟩, b0, b1⟩ := hE.at_ (k := k.toNat) (by omega)
    show proR (linL m.pts) (prE (edL m.tris) k) = toR (linQ (mdP m (edL m.tris) k))
    unfold proR prE
    rw [if_pos (show [(pix (edL m.tris) k.toNat).a, (pix (edL m.tris) k.toNat).b].length = 2 from rfl)]
    show mulR (ofFrac 1 2) (addR (pix (linL m.pts) (pix (edL m.tris) k.toNat).a.toNat) (pix (linL m.pts) (pix (edL m.tris) k.toNat).b.toNat)) = _
    rw [hu _ (by omega), hu _ (by omega), lin_mid (hf.sm _ (by omega)) (hf.sm _ (by omega))]
    rfl
theorem paL_len {m x : MeQ} (hr : RmOk m x) : (paL m (rmL m x)).length = x.pts.length := by
  rw [paL_eq, hr.pts, List.length_append, List.length_append, sgL_len, List.length_map, List.length_map]
theorem linL_ok {l : List (Rat × Rat)} (h : ∀ k, k < l.length → Sm2 (pix l k)) : AllOk (linL l) := by
  intro k hk
  have hk2 : k < l.length := by simpa [linL] using hk
  rw [show pix (linL l) k = toR (linQ (pix l k)) by simp [pix, linL, hk2]]
  exact ((lin_ok (h k hk2)).2.fit (by decide)).ok
end

section
open Go.RowKit

/-- The cells of a block are points with memory of their own since b0. -/
def PtsB (b0 : Nat) (w : World) (cs : Array Value) (ps : List PtD) : Prop := ∀ k, k < ps.length → ∃ s A n c B m d t C i e D j f, (cs[k * 6]? = some (.bool s) ∧ cs[k * 6 + 1]? = some (.slice A n c) ∧ cs[k * 6 + 2]? = some (.slice B m d) ∧ cs[k * 6 + 3]? = some (.bool t) ∧ cs[k * 6 + 4]? = some (.slice C i e) ∧ cs[k * 6 + 5]? = some (.slice D j f)) ∧ OwPN AnyN 3 b0 w s A n c B m d t C i e D j f (pix ps k)
def TrsB (cs : Array Value) (ts : List TriD) : Prop := ∀ k, k < ts.length → cs[k * 5]? = some (.int .i64 (pix ts k).a) ∧ cs[k * 5 + 1]? = some (.int .i64 (pix ts k).b) ∧ cs[k * 5 + 2]? = some (.int .i64 (pix ts k).c) ∧ cs[k * 5 + 3]? = some (.int .i64 (pix ts k).region) ∧ cs[k * 5 + 4]? = some (.int .i64 (pix ts k).level)
theorem OwPN.keepB {T : TypeId} {b0 : Nat} {w W : World} {s : Bool} {A : Option Addr} {n c : Nat} {B : Option Addr} {m d : Nat} {t : Bool} {C : Option Addr} {i e : Nat} {D : Option Addr} {j f : Nat} {p : PtD} (h : OwPN AnyN T b0 w s A n c B m d t C i e D j f p) (hs : w.heap.size ≤ W.heap.size) (hk : ∀ b, b0 ≤ b → b < w.heap.size → W.heap[b]? = w.heap[b]?) : OwPN AnyN T b0 W s A n c B m d t C i e D j f p := by
  obtain ⟨c1, c2, h1, h2, hf, hn⟩ := h
  exact ⟨c1, c2, h1.keep hs fun b hb => hk b (hf b (by simp [hb])).1 (hf b (by simp [hb])).2, h2.keep hs fun b hb => hk b (hf b (by simp [hb])).1 (hf b (by simp [hb])).2, fun b hm => ⟨(hf b hm).1, Nat.lt_of_lt_of_le (hf b hm).2 hs⟩, hn⟩
theorem PtsB.rd {b0 : Nat} {w : World} {cs : Array Value} {ps : List PtD} (h : PtsB b0 w cs ps) {g c : Nat} (hB : Blk w g 31 cs) (hc : ps.length ≤ c) (hl : ps.length ≤ 1048576) : RdPS w (some ⟨g, 0, none⟩) ps.length c ps := by
  refine ⟨rfl, hc, by omega, fun k hk => ⟨_, rfl, hB.lt, ?_⟩⟩
  obtain ⟨s, A, n, c, B, m, d, t, C, i, e, D, j, f, ⟨h0, h1, h2, h3, h4, h5⟩, hP⟩ := h k hk
  rw [Addr.add_lit, Nat.zero_add]
  exact ⟨_, _, _, _, _, _, _, _, _, _, _, _, _, _, ⟨(hB.cell _).trans h0, (hB.cell _).trans h1, (hB.cell _).trans h2, (hB.cell _).trans h3, (hB.cell _).trans h4, (hB.cell _).trans h5⟩, hP.rdx.1, hP.rdx.2⟩
theorem TrsB.rd {w : World} {cs : Array Value} {ts : List TriD} (h : TrsB cs ts) {g c : Nat} (hB : Blk w g 73 cs) (hc : ts.length ≤ c) (hl : ts.length ≤ 1048576) : RdTS w (some ⟨g, 0, none⟩) ts.length c ts := by
  refine ⟨rfl, hc, by omega, fun k hk => ⟨_, rfl, hB.lt, ?_⟩⟩
  obtain ⟨h0, h1, h2, h3, h4⟩ := h k hk
  rw [Addr.add_lit, Nat.zero_add]
  exact ⟨(hB.cell _).trans h0, (hB.cell _).trans h1, (hB.cell _).trans h2, (hB.cell _).trans h3, (hB.cell _).trans h4⟩
theorem MeOw.ofB {b0 : Nat} {w : World} {gP gT nP nT : Nat} {cs cs2 : Array Value} {mq : MeQ} (hB : Blk w gP 31 cs) (hB2 : Blk w gT 73 cs2) (hP : PtsB b0 w cs (mq.pts.map tp)) (hT : TrsB cs2 mq.tris) (h1 : b0 ≤ gP) (h2 : b0 ≤ gT) (hn : (mq.pts.map tp).length = nP) (hm : mq.tris.length = nT) (hn2 : nP ≤ 1048576) (hm2 : nT ≤ 1048576) :
    MeOw b0 w (.agg #[.slice (some ⟨gP, 0, none⟩) nP nP, .slice (some ⟨gT, 0, none⟩) nT nT]) mq := by
  subst hn hm
  have key : ∀ w', w.heap.size ≤ w'.heap.size → (∀ b, b0 ≤ b → b < w.heap.size → w'.heap[b]? = w.heap[b]?) → MeAt w' (.agg #[.slice (some ⟨gP, 0, none⟩) (mq.pts.map tp).length (mq.pts.map tp).length, .slice (some ⟨gT, 0, none⟩) mq.tris.length mq.tris.length]) mq := fun w' hs hk => by
    have hP' : PtsB b0 w' cs (mq.pts.map tp) := fun k hk2 => by
      obtain ⟨s, A, n, c, B, m, d, t, C, i, e, D, j, f, hc, ho⟩ := hP k hk2
      exact ⟨_, _, _, _, _, _, _, _, _, _, _, _, _, _, hc, ho.keepB hs hk⟩
    exact ⟨gP, _, _, gT, _, _, rfl, hP'.rd ((hk gP h1 hB.lt).trans hB) (Nat.le_refl _) hn2, hT.rd ((hk gT h2 hB2.lt).trans hB2) (Nat.le_refl _) hm2⟩
  exact ⟨key w (Nat.le_refl _) fun _ _ _ => rfl, key⟩
theorem push_modify {α : Type} (a : Array α) (o : α) (f : α → α) {g : Nat} (hg : g < a.size) : (a.modify g f).push o = (a.push o).modify g f := by
  refine Array.ext_getElem? fun i => ?_
  rw [Array.getElem?_push, Array.getElem?_modify, Array.getElem?_modify, Array.getElem?_push, Array.size_modify]
  by_cases h : i = a.size
  · subst h
    rw [if_pos rfl, if_neg (by omega), if_pos rfl]
  · rw [if_neg h, if_neg h]
theorem setCell_alloc {W : World} {g i : Nat} (hg : g < W.heap.size) (o : Obj) (u : Value) : (W.setCell ⟨g, i, none⟩ u).alloc o = (W.alloc o).setCell ⟨g, i, none⟩ u := by
  unfold World.alloc World.setCell
  simp only
  rw [push_modify _ _ _ hg]
theorem MeOw.ob {b0 g : Nat} {w W : World} {v : Value} {mq : MeQ} (h : MeOw b0 w v mq) (ho : Ob [g] w W) (hg : g < b0) : MeOw b0 W v mq :=
  ⟨h.2 _ ho.size fun b h1 h2 => ho.block b h2 (by simp; omega), fun w' hs hk => h.2 w' (Nat.le_trans ho.size hs) fun b h1 h2 => (hk b h1 (Nat.lt_of_lt_of_le h2 ho.size)).trans (ho.block b h2 (by simp; omega))⟩
theorem cp_00 : (⟨ofFrac 0 1, ofFrac 0 1⟩ : PtD) = tp (0, 0) := (gpt_tp 0 0 (by omega) (by omega)).trans (congrArg tp (show qp1 0 0 = (0, 0) by decide +kernel))
theorem cp_01 : (⟨ofFrac 0 1, ofFrac 1 1⟩ : PtD) = tp (0, 1) := (gpt_tp 0 1 (by omega) (by omega)).trans (congrArg tp (show qp1 0 1 = (0, 1) by decide +kernel))
theorem cp_02 : (⟨ofFrac 0 1, ofFrac 2 1⟩ : PtD) = tp (0, 2) := (gpt_tp 0 2 (by omega) (by omega)).trans (congrArg tp (show qp1 0 2 = (0, 2) by decide +kernel))
theorem cp_10 : (⟨ofFrac 1 1, ofFrac 0 1⟩ : PtD) = tp (1, 0) := (gpt_tp 1 0 (by omega) (by omega)).trans (congrArg tp (show qp1 1 0 = (1, 0) by decide +kernel))
theorem cp_11 : (⟨ofFrac 1 1, ofFrac 1 1⟩ : PtD) = tp (1, 1) := (gpt_tp 1 1 (by omega) (by omega)).trans (congrArg tp (show qp1 1 1 = (1, 1) by decide +kernel))
theorem cp_12 : (⟨ofFrac 1 1, ofFrac 2 1⟩ : PtD) = tp (1, 2) := (gpt_tp 1 2 (by omega) (by omega)).trans (congrArg tp (show qp1 1 2 = (1, 2) by decide +kernel))
theorem cp_20 : (⟨ofFrac 2 1, ofFrac 0 1⟩ : PtD) = tp (2, 0) := (gpt_tp 2 0 (by omega) (by omega)).trans (congrArg tp (show qp1 2 0 = (2, 0) by decide +kernel))
theorem cp_21 : (⟨ofFrac 2 1, ofFrac 1 1⟩ : PtD) = tp (2, 1) := (gpt_tp 2 1 (by omega) (by omega)).trans (congrArg tp (show qp1 2 1 = (2, 1) by decide +kernel))
theorem cp_22 : (⟨ofFrac 2 1, ofFrac 2 1⟩ : PtD) = tp (2, 2) := (gpt_tp 2 2 (by omega) (by omega)).trans (congrArg tp (show qp1 2 2 = (2, 2) by decide +kernel))
end

end Go.Proofs.YtajlahjghapbkaaGreat
