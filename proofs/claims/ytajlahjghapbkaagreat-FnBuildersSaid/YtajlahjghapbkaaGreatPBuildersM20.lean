/- Lemmas. -/
import Derived.Test.YtajlahjghapbkaaGreatRows
import Derived.Test.YtajlahjghapbkaaGreatPBuildersM17
import Derived.Test.YtajlahjghapbkaaGreatPBuildersM19
import Derived.Test.YtajlahjghapbkaaGreatPBuildersM16
import Derived.Deep.Cut
namespace Go.Proofs.YtajlahjghapbkaaGreat
section
open Go.RowKit

/-- Blocks that all differ, and differ from the block of a row. -/
def Sep (vt : Value) (bs : List Nat) : Prop := bs.Nodup ∧ ∀ g, vt.ownBlock = Option.some g → g ∉ bs
theorem appN_sep (vt : Value) : AppN (Sep vt) :=
  ⟨⟨List.nodup_nil, fun g _ => by simp⟩, fun a b ha hb hd => ⟨List.nodup_append.2 ⟨ha.1, hb.1, hd⟩, fun g e hm => by rcases List.mem_append.1 hm with h | h; exact ha.2 g e h; exact hb.2 g e h⟩⟩
theorem RowG.shape {α : Type} [Inhabited α] {N : List Nat → Prop} {TP : TypeId} {size lo hi : Nat} {El : World → Array Value → Nat → α → List Nat → Prop} {w : World} {v : Value} {l : List α} (h : RowG N TP size El lo hi w v l) : ∃ A n c, v = .slice A n c := by
  obtain ⟨_, _, h1, _⟩ := h
  rcases h1.2 with ⟨rfl, _⟩ | ⟨g, cap, cur, rfl, _⟩
  · exact ⟨_, _, _, rfl⟩
  · exact ⟨_, _, _, rfl⟩
theorem RowG.lo {α : Type} [Inhabited α] {N : List Nat → Prop} {TP : TypeId} {size lo hi : Nat} {El : World → Array Value → Nat → α → List Nat → Prop} {w : World} {v : Value} {l : List α} (h : RowG N TP size El lo hi w v l) {g : Nat} (hg : v.ownBlock = Option.some g) : lo ≤ g ∧ g < hi := by
  obtain ⟨_, _, h1, h2, _⟩ := h
  exact ⟨(World.ownsRow.lt h1 g hg).1, h2 g hg⟩
theorem RowG.up {α : Type} [Inhabited α] {N : List Nat → Prop} {TP : TypeId} {size lo hi hi' : Nat} {El : World → Array Value → Nat → α → List Nat → Prop} {w : World} {v : Value} {l : List α} (h : RowG N TP size El lo hi w v l) (h1 : hi ≤ hi') (h2 : hi' ≤ w.heap.size) : RowG N TP size El lo hi' w v l := by
  obtain ⟨cells, fs, r1, r2, r3, r4, r5, r6, r7⟩ := h
  exact ⟨cells, fs, r1, fun g e => Nat.lt_of_lt_of_le (r2 g e) h1, r3, r4, fun b hm => ⟨(r5 b hm).1, Nat.lt_of_lt_of_le (r5 b hm).2.1 h1, (r5 b hm).2.2⟩, r6, h2⟩
/-- What stays where another row may have turned. -/
theorem RowG.keepX {α : Type} [Inhabited α] {N N' : List Nat → Prop} {TP : TypeId} {size lo hi : Nat} {El : World → Array Value → Nat → α → List Nat → Prop} {w W : World} {v : Value} {l : List α} (hk : KeepE size El) (h : RowG N TP size El lo hi w v l) (hs : w.heap.size ≤ W.heap.size)
    (h1 : ∀ g, v.ownBlock = Option.some g → W.heap[g]? = w.heap[g]?) (h2 : ∀ bs : List Nat, N bs → (∀ b ∈ bs, lo ≤ b ∧ b < hi) → (∀ b ∈ bs, W.heap[b]? = w.heap[b]?) ∧ N' bs) : RowG N' TP size El lo hi W v l := by
  obtain ⟨cells, fs, r1, r2, r3, r4, r5, r6, r7⟩ := h
  obtain ⟨q1, q2⟩ := h2 fs.flatten r6 fun b hm => ⟨(r5 b hm).1, (r5 b hm).2.1⟩
  refine ⟨cells, fs, ⟨r1.1, ?_⟩, r2, r3, fun i hi => hk _ _ _ _ _ _ _ _ (r4 i hi) (fun _ _ => rfl) hs fun b hm => q1 b (mem_flatten_pix hm), r5, q2, Nat.le_trans r7 hs⟩
  rcases r1.2 with h | ⟨g, cap, cur, rfl, hg, hh, r⟩
  · exact .inl h
  · exact .inr ⟨g, cap, cur, rfl, hg, (h1 g rfl).trans hh, r⟩
theorem RowT.keep {lo hi : Nat} {w W : World} {v : Value} {l : List TriD} (h : RowT lo hi w v l) (hs : w.heap.size ≤ W.heap.size) (h1 : ∀ g, v.ownBlock = Option.some g → W.heap[g]? = w.heap[g]?) : RowT lo hi W v l := by
  obtain ⟨cells, fs, r1, r2, r3, r4, r5, r6, r7⟩ := h
  refine ⟨cells, fs, ⟨r1.1, ?_⟩, r2, r3, fun i hi => r4 i hi, r5, r6, Nat.le_trans r7 hs⟩
  rcases r1.2 with h | ⟨g, cap, cur, rfl, hg, hh, r⟩
  · exact .inl h
  · exact .inr ⟨g, cap, cur, rfl, hg, (h1 g rfl).trans hh, r⟩
/-- The points and the triangles of a mesh that is being built. -/
def MR (lo : Nat) (w : World) (vp vt : Value) (l : List PtD) (t : List TriD) : Prop :=
  RowP (Sep vt) lo w.heap.size w vp l ∧ RowT lo w.heap.size w vt t ∧ ∀ g, vt.ownBlock = Option.some g → vp.ownBlock ≠ Option.some g
section
variable {lo : Nat} {w W w' : World} {vp vt vp' vt' : Value} {l l' : List PtD} {t t' : List TriD}
theorem MR.nil (w : World) : MR lo w (.slice none 0 0) (.slice none 0 0) [] [] :=
  ⟨RowG.nil (appN_sep _) w (Nat.le_refl _), RowG.nil appN_any w (Nat.le_refl _), fun g e => by cases e⟩
theorem MR.bl (h : MR lo w vp vt l t) (hb : Bl w W) : MR lo W vp vt l t :=
  ⟨(RowG.bl (ptIn_keep 3) h.1 hb).up hb.size (Nat.le_refl _), (RowG.bl trIn_keep h.2.1 hb).up hb.size (Nat.le_refl _), h.2.2⟩
theorem MR.set (h : MR lo w vp vt l t) {q : Addr} (hq : q.block < lo) (u : Value) : MR lo (w.setCell q u) vp vt l t := by
  have hs : (w.setCell q u).heap.size = w.heap.size := by simp
  refine ⟨?_, ?_, h.2.2⟩
  · rw [hs]
    exact RowG.keep (ptIn_keep 3) h.1 (by omega) fun b h1 _ => Below.heap_setCell w q u b (by omega)
  · rw [hs]
    exact RowG.keep trIn_keep h.2.1 (by omega) fun b h1 _ => Below.heap_setCell w q u b (by omega)
theorem MR.afterP (h : MR lo w vp vt l t) (h1 : RowP (Sep vt) lo w'.heap.size w' vp' l') (ho : ∀ g, g < w.heap.size → vp.ownBlock ≠ Option.some g → w'.heap[g]? = w.heap[g]? ∧ vp'.ownBlock ≠ Option.some g) (hs : w.heap.size ≤ w'.heap.size) : MR lo w' vp' vt l' t := by
  exact ⟨h1, (RowT.keep h.2.1 hs (fun g e => (ho g (h.2.1.lo e).2 (h.2.2 g e)).1)).up hs (Nat.le_refl _), fun g e => (ho g (h.2.1.lo e).2 (h.2.2 g e)).2⟩
theorem MR.afterT (h : MR lo w vp vt l t) (h1 : RowT lo w'.heap.size w' vt' t') (ho : ∀ g, g < w.heap.size → vt.ownBlock ≠ Option.some g → w'.heap[g]? = w.heap[g]? ∧ vt'.ownBlock ≠ Option.some g) (hs : w.heap.size ≤ w'.heap.size) : MR lo w' vp vt' l t' := by
  refine ⟨(RowG.keepX (ptIn_keep 3) h.1 hs (fun g e => (ho g (h.1.lo e).2 fun e2 => h.2.2 g e2 e).1) fun bs hn hb => ⟨fun b hm => (ho b (hb b hm).2 fun e => hn.2 b e hm).1, hn.1, fun g e hm => (ho g (hb g hm).2 fun e2 => hn.2 g e2 hm).2 e⟩).up hs (Nat.le_refl _), h1, fun g e e2 => (ho g (h.1.lo e2).2 fun e3 => h.2.2 g e3 e2).2 e⟩
theorem MR.out (h : MR lo w vp vt l t) (hl : 0 < l.length) (ht : 0 < t.length) (hl2 : l.length ≤ 1048576) (ht2 : t.length ≤ 1048576) : ∃ A c B d, vp = .slice A l.length c ∧ vt = .slice B t.length d ∧ OwMZ lo w.heap.size w A l.length c B t.length d ⟨l, t⟩ := by
  obtain ⟨h1, h2, h3⟩ := h
  obtain ⟨cells, fs, r1, r2, r3, r4, r5, r6, r7⟩ := h1
  obtain ⟨cells', fs', s1, s2, s3, s4, s5, s6, s7⟩ := h2
  rcases r1.2 with ⟨rfl, h0⟩ | ⟨g, cap, cur, rfl, hg, hh, hn, hcap, hcs, htk⟩
  · omega
  rcases s1.2 with ⟨rfl, h0⟩ | ⟨g', cap', cur', rfl, hg', hh', hn', hcap', hcs', htk'⟩
  · omega
  have hlen : l.length * 6 ≤ cur.size := by rw [hcs]; exact Nat.mul_le_mul_right _ hn
  have hlen' : t.length * 5 ≤ cur'.size := by rw [hcs']; exact Nat.mul_le_mul_right _ hn'
  have hgm : g ∉ fs.flatten := fun hm => (r5 g hm).2.2 rfl
  have hgm' : g' ∉ fs.flatten := r6.2 g' rfl
  have hne : g ≠ g' := fun e => h3 g' rfl (by rw [e]; rfl)
  refine ⟨_, cap, _, cap', rfl, rfl, rfl, rfl, hn, hn', hl2, ht2, .inr ⟨g, g', cur, cur', fs, rfl, rfl, hh, hh', hlen, hlen', ⟨r3, fun i hi => ?_⟩, fun i hi => ?_, List.nodup_cons.2 ⟨?_, List.nodup_cons.2 ⟨hgm', r6.1⟩⟩, fun b hb => ?_⟩⟩
  · refine ptIn_keep _ _ _ _ _ _ _ _ _ (r4 i hi) (fun j hj => ?_) (Nat.le_refl _) fun _ _ => rfl
    rw [← htk]
    have : i * 6 + j < l.length * 6 := by omega
    simp [this]
  · have h5 := (s4 i hi).1
    have hc : ∀ j, j < 5 → cur'[i * 5 + j]? = cells'.toArray[i * 5 + j]? := by
      intro j hj
      rw [← htk']
      have : i * 5 + j < t.length * 5 := by omega
      simp [this]
    obtain ⟨g0, g1, g2, g3, g4⟩ := h5
    exact ⟨(hc 0 (by omega)).trans g0, (hc 1 (by omega)).trans g1, (hc 2 (by omega)).trans g2, (hc 3 (by omega)).trans g3, (hc 4 (by omega)).trans g4⟩
  · intro hm
    rcases List.mem_cons.1 hm with e | hm
    · exact hne e
    · exact hgm hm
  · rcases List.mem_cons.1 hb with rfl | hb
    · exact ⟨hg, r2 _ rfl⟩
    · rcases List.mem_cons.1 hb with rfl | hb
      · exact ⟨hg', s2 _ rfl⟩
      · exact ⟨(r5 b hb).1, (r5 b hb).2.1⟩
theorem OwPN.sep {s : Bool} {A : Option Addr} {n c : Nat} {B : Option Addr} {m d : Nat} {t : Bool} {C : Option Addr} {i e : Nat} {D : Option Addr} {j f : Nat} {p : PtD} {b0 : Nat} (h : OwP 3 b0 w s A n c B m d t C i e D j f p) (hv : ∀ g, vt.ownBlock = Option.some g → g < b0) : OwPN (Sep vt) 3 b0 w s A n c B m d t C i e D j f p := by
  obtain ⟨b1, b2, h1, h2, hf⟩ := h
  exact ⟨b1, b2, h1, h2, hf.2, hf.1, fun g e hm => by have := hv g e; have := (hf.2 g hm).1; omega⟩
end
end

section
open Go.RowKit
end

section
open Go.RowKit

theorem okR_den {r : RatD} (h : r = zR ∨ OkR r) : (¬ r.den.length = 0) ↔ OkR r := by
  rcases h with h | h
  · subst h
    exact ⟨fun h => absurd rfl h, fun h => absurd h not_ok_zR⟩
  · refine ⟨fun _ => h, fun _ => ?_⟩
    have g := h.get
    rw [g.1]
    unfold raw
    simp only
    rw [ints_len]
    have := dig_len_pos.2 g.2.1
    omega
end

section
open Go.RowKit
end

section
open Go.RowKit

/-- The area of three points; of a list of points. -/
noncomputable def areaR (a b c : PtD) : RatD := mulR (ofFrac 1 2) (dblA a b c)
set_option maxRecDepth 100000 in
set_option maxHeartbeats 8000000 in
theorem area_any (w : World) {g c0 : Nat} {p0 p1 p2 : PtD} (h : RdPS w (some ⟨g, 0, none⟩) 3 c0 [p0, p1, p2]) :
    Calls Tryz.prog 87 #[.slice (some ⟨g, 0, none⟩) 3 c0] w fun e w' => ∃ s1 A1 n1 c1 B1 m1 d1, e = .returned (.agg #[.bool s1, .slice A1 n1 c1, .slice B1 m1 d1]) ∧ OwR 3 w.heap.size w' s1 A1 n1 c1 B1 m1 d1 (areaR p0 p1 p2) ∧ Bl w w' := by
  obtain ⟨_, e0, hg, hc0⟩ := h.cells 0 (by omega)
  cases e0
  rw [Addr.add_lit] at hc0
  obtain ⟨s, A, n, c, B, m, d, t, C, i, e, D, j, f, ⟨x0, x1, x2, x3, x4, x5⟩, hX0, hY0⟩ := (show PtAt w ⟨g, 0, none⟩ p0 from hc0)
  have x0 : w.cell? ⟨g, 0, none⟩ = some (.bool s) := x0
  have x1 : w.cell? ⟨g, 1, none⟩ = some (.slice A n c) := x1
  have x2 : w.cell? ⟨g, 2, none⟩ = some (.slice B m d) := x2
  have x3 : w.cell? ⟨g, 3, none⟩ = some (.bool t) := x3
  have x4 : w.cell? ⟨g, 4, none⟩ = some (.slice C i e) := x4
  have x5 : w.cell? ⟨g, 5, none⟩ = some (.slice D j f) := x5
  obtain ⟨_, e0, hg, hc1⟩ := h.cells 1 (by omega)
  cases e0
  rw [Addr.add_lit] at hc1
  obtain ⟨s', A', n', c', B', m', d', t', C', i', e', D', j', f', ⟨y0, y1, y2, y3, y4, y5⟩, hX1, hY1⟩ := (show PtAt w ⟨g, 6, none⟩ p1 from hc1)
  have y0 : w.cell? ⟨g, 6, none⟩ = some (.bool s') := y0
  have y1 : w.cell? ⟨g, 7, none⟩ = some (.slice A' n' c') := y1
  have y2 : w.cell? ⟨g, 8, none⟩ = some (.slice B' m' d') := y2
  have y3 : w.cell? ⟨g, 9, none⟩ = some (.bool t') := y3
  have y4 : w.cell? ⟨g, 10, none⟩ = some (.slice C' i' e') := y4
  have y5 : w.cell? ⟨g, 11, none⟩ = some (.slice D' j' f') := y5
  obtain ⟨_, e0, hg, hc2⟩ := h.cells 2 (by omega)
  cases e0
  rw [Addr.add_lit] at hc2
  obtain ⟨s2, A2, n2, c2, B2, m2, d2, t2, C2, i2, e2, D2, j2, f2, ⟨z0, z1, z2, z3, z4, z5⟩, hX2, hY2⟩ := (show PtAt w ⟨g, 12, none⟩ p2 from hc2)
  have z0 : w.cell? ⟨g, 12, none⟩ = some (.bool s2) := z0
  have z1 : w.cell? ⟨g, 13, none⟩ = some (.slice A2 n2 c2) := z1
  have z2 : w.cell? ⟨g, 14, none⟩ = some (.slice B2 m2 d2) := z2
  have z3 : w.cell? ⟨g, 15, none⟩ = some (.bool t2) := z3
  have z4 : w.cell? ⟨g, 16, none⟩ = some (.slice C2 i2 e2) := z4
  have z5 : w.cell? ⟨g, 17, none⟩ = some (.slice D2 j2 f2) := z5
  clear hc0 hc1 hc2
  go_enter Tryz.func87, Tryz.ntmps87
  go_wp2_with fail
  refine wp_gen (fun W => Bl w W ∧ Wk 3 29 (w.heap.size) W) ⟨slc, bts⟩ ?_
  rintro W ⟨hbW, hr⟩
  go_region_held3 (fun w' => (w'.cell? ⟨g, 0, none⟩ = some (.bool s) ∧ w'.cell? ⟨g, 1, none⟩ = some (.slice A n c) ∧ w'.cell? ⟨g, 2, none⟩ = some (.slice B m d) ∧ w'.cell? ⟨g, 3, none⟩ = some (.bool t) ∧ w'.cell? ⟨g, 4, none⟩ = some (.slice C i e) ∧ w'.cell? ⟨g, 5, none⟩ = some (.slice D j f)) ∧ (w'.cell? ⟨g, 6, none⟩ = some (.bool s') ∧ w'.cell? ⟨g, 7, none⟩ = some (.slice A' n' c') ∧ w'.cell? ⟨g, 8, none⟩ = some (.slice B' m' d') ∧ w'.cell? ⟨g, 9, none⟩ = some (.bool t') ∧ w'.cell? ⟨g, 10, none⟩ = some (.slice C' i' e') ∧ w'.cell? ⟨g, 11, none⟩ = some (.slice D' j' f')) ∧ (w'.cell? ⟨g, 12, none⟩ = some (.bool s2) ∧ w'.cell? ⟨g, 13, none⟩ = some (.slice A2 n2 c2) ∧ w'.cell? ⟨g, 14, none⟩ = some (.slice B2 m2 d2) ∧ w'.cell? ⟨g, 15, none⟩ = some (.bool t2) ∧ w'.cell? ⟨g, 16, none⟩ = some (.slice C2 i2 e2) ∧ w'.cell? ⟨g, 17, none⟩ = some (.slice D2 j2 f2)) ∧ (w'.cell? ⟨w.heap.size, 0, none⟩ = some (cellD w' (w.heap.size) 0) ∧ w'.cell? ⟨w.heap.size, 1, none⟩ = some (cellD w' (w.heap.size) 1) ∧ w'.cell? ⟨w.heap.size, 2, none⟩ = some (cellD w' (w.heap.size) 2)) ∧ w'.frozen? ⟨w.heap.size, 0, none⟩ = false ∧ w'.frozen? ⟨w.heap.size, 1, none⟩ = false ∧ w'.frozen? ⟨w.heap.size, 2, none⟩ = false) (first | exact ⟨⟨(Bl.cellOf (w := w) (p := ⟨g, 0, none⟩) slc hg).trans x0, (Bl.cellOf (w := w) (p := ⟨g, 1, none⟩) slc hg).trans x1, (Bl.cellOf (w := w) (p := ⟨g, 2, none⟩) slc hg).trans x2, (Bl.cellOf (w := w) (p := ⟨g, 3, none⟩) slc hg).trans x3, (Bl.cellOf (w := w) (p := ⟨g, 4, none⟩) slc hg).trans x4, (Bl.cellOf (w := w) (p := ⟨g, 5, none⟩) slc hg).trans x5⟩, ⟨(Bl.cellOf (w := w) (p := ⟨g, 6, none⟩) slc hg).trans y0, (Bl.cellOf (w := w) (p := ⟨g, 7, none⟩) slc hg).trans y1, (Bl.cellOf (w := w) (p := ⟨g, 8, none⟩) slc hg).trans y2, (Bl.cellOf (w := w) (p := ⟨g, 9, none⟩) slc hg).trans y3, (Bl.cellOf (w := w) (p := ⟨g, 10, none⟩) slc hg).trans y4, (Bl.cellOf (w := w) (p := ⟨g, 11, none⟩) slc hg).trans y5⟩, ⟨(Bl.cellOf (w := w) (p := ⟨g, 12, none⟩) slc hg).trans z0, (Bl.cellOf (w := w) (p := ⟨g, 13, none⟩) slc hg).trans z1, (Bl.cellOf (w := w) (p := ⟨g, 14, none⟩) slc hg).trans z2, (Bl.cellOf (w := w) (p := ⟨g, 15, none⟩) slc hg).trans z3, (Bl.cellOf (w := w) (p := ⟨g, 16, none⟩) slc hg).trans z4, (Bl.cellOf (w := w) (p := ⟨g, 17, none⟩) slc hg).trans z5⟩, Wk.out3 (T := 29) bts⟩) (first | (go_at_call 50; refine (RatOf_any _ 1 2 (by omega) (by omega) (by omega) (by omega)).mono ?_; rintro e w2 ⟨s6, A6, n6, c6, B6, m6, d6, rfl, hR2, hb2⟩) | (go_at_call 73; refine (DoubleArea_any _ (hX0.bl slc) (hY0.bl slc) (hX1.bl slc) (hY1.bl slc) (hX2.bl slc) (hY2.bl slc)).mono ?_; rintro en w3 ⟨s3, A3, n3, c3, B3, m3, d3, rfl, hR3, hb3⟩) | (go_at_call 49; refine (RatMul_any _ (hR2.rd.bl hb3) hR3.rd).mono ?_; rintro en w4 ⟨s1, A1, n1, c1, B1, m1, d1, rfl, hR, hb4⟩))
  have hz : w.heap.size + 1 ≤ W.heap.size := hr.lt
  have hz2 : W.heap.size ≤ w2.heap.size := (Bl.size hb2 : W.drew.heap.size ≤ _)
  have hz3 : w2.heap.size ≤ w3.heap.size := Bl.size hb3
  have hr := (show Wk 3 29 (w.heap.size) w4 from bts)
  have hbW : Bl w w4 := slc
  have hR : OwR 3 (w.heap.size + 1) w4 s1 A1 n1 c1 B1 m1 d1 (areaR p0 p1 p2) := hR.mono (show w.heap.size + 1 ≤ w3.heap.size by omega)
  obtain ⟨v0, x0⟩ := hr.val_ (i := 0) (by omega)
  obtain ⟨v1, x1⟩ := hr.val_ (i := 1) (by omega)
  obtain ⟨v2, x2⟩ := hr.val_ (i := 2) (by omega)
  have hg := hr.lt
  obtain ⟨cs4, hB4, hc4⟩ := hr
  have hf0 := hB4.frozen 0
  have hf1 := hB4.frozen 1
  have hf2 := hB4.frozen 2
  go_wp2_with fail
  exact bodyPost_ret (v := .agg #[.bool s1, .slice A1 n1 c1, .slice B1 m1 d1]) (by simp [results, Tryz.results87, go_sem, x0, x1, x2]) rfl ⟨_, _, _, _, _, _, _, rfl, (((hR.far (by simp) _).far (by simp) _).far (by simp) _).mono (by omega), slc⟩
end

section
open Go.RowKit

theorem ofFrac_half (x : Int) (hx1 : -1000000 < x) (hx2 : x ≤ 1000000) : OkR (ofFrac x 2) := by
  have h1 : (dig (x.natAbs / Nat.gcd x.natAbs 2)).length ≤ 24 := by
    have h2 : x.natAbs / Nat.gcd x.natAbs 2 ≤ x.natAbs := Nat.div_le_self _ _
    exact dig_len_le.2 (Nat.lt_of_le_of_lt h2 (Nat.lt_of_lt_of_le (show x.natAbs < 1000001 by omega) (by decide)))
  have h3 : (dig (2 / Nat.gcd x.natAbs 2)).length ≤ 24 := by
    have h2 : 2 / Nat.gcd x.natAbs 2 ≤ 2 := Nat.div_le_self _ _
    exact dig_len_le.2 (Nat.lt_of_le_of_lt h2 (by decide))
  rcases ofFrac_ok (x := x) (D := 2) (by omega) with h | h
  · exfalso
    unfold ofFrac at h
    rw [if_pos ⟨h1, h3⟩] at h
    have h4 : (raw (x / (Nat.gcd x.natAbs 2 : Int)) (2 / Nat.gcd x.natAbs 2)).den.length = 0 := by rw [h]; rfl
    have h5 : 0 < 2 / Nat.gcd x.natAbs 2 := Nat.div_pos (Nat.le_of_dvd (by omega) (Nat.gcd_dvd_right _ _)) (Nat.gcd_pos_of_pos_right _ (by omega))
    have h6 : dig (2 / Nat.gcd x.natAbs 2) = [] := by simpa [raw, ints] using h4
    have h7 := dig_len_le (n := 2 / Nat.gcd x.natAbs 2) (k := 0)
    rw [h6] at h7
    have h8 := h7.1 (Nat.le_refl _)
    rw [Nat.pow_zero] at h8
    omega
  · exact h
theorem ifP_half (x y : Int) (hx1 : -1000000 < x) (hx2 : x ≤ 1000000) (hy1 : -1000000 < y) (hy2 : y ≤ 1000000) : ifP ⟨ofFrac x 2, ofFrac y 2⟩ = ⟨ofFrac x 2, ofFrac y 2⟩ := by
  have e1 := (okR_den (.inr (ofFrac_half x hx1 hx2))).2 (ofFrac_half x hx1 hx2)
  have e2 := (okR_den (.inr (ofFrac_half y hy1 hy2))).2 (ofFrac_half y hy1 hy2)
  unfold ifP
  rw [if_neg]
  rintro (h | h)
  · exact e1 h
  · exact e2 h

set_option maxRecDepth 100000 in
set_option maxHeartbeats 4000000 in
theorem HalfPoint_any (w : World) (x y : Int) (hx1 : -1000000 < x) (hx2 : x ≤ 1000000) (hy1 : -1000000 < y) (hy2 : y ≤ 1000000) :
    Calls Tryz.prog 42 #[.int .i64 x, .int .i64 y] w fun en w' => ∃ s1 A1 n1 c1 B1 m1 d1 t1 C1 i1 e1 D1 j1 f1, en = .returned (.agg #[.bool s1, .slice A1 n1 c1, .slice B1 m1 d1, .bool t1, .slice C1 i1 e1, .slice D1 j1 f1]) ∧ OwP 3 w.heap.size w' s1 A1 n1 c1 B1 m1 d1 t1 C1 i1 e1 D1 j1 f1 ⟨ofFrac x 2, ofFrac y 2⟩ ∧ Bl w w' := by
  go_enter Tryz.func42, Tryz.ntmps42
  go_wp2_with fail
  refine calls_gen (fun W => Bl w W ∧ Wk 6 31 w.heap.size W) ⟨slc, bts⟩ ?_
  rintro W ⟨hbW, hr⟩
  refine (RatOf_any _ x 2 (by omega) (by omega) (by omega) (by omega)).mono ?_
  rintro e w2 ⟨s1, A1, n1, c1, B1, m1, d1, rfl, hR1, hb2⟩
  go_wp2_with fail
  refine (RatOf_any _ y 2 (by omega) (by omega) (by omega) (by omega)).mono ?_
  rintro e w3 ⟨t1, C1, i1, e1, D1, j1, f1, rfl, hR2, hb3⟩
  have hz : w.heap.size + 1 ≤ W.heap.size := hr.lt
  have hz2 : W.heap.size ≤ w2.heap.size := Bl.size hb2
  have hbW : Bl w w3 := slc
  have hX : OwP 3 W.heap.size w3 s1 A1 n1 c1 B1 m1 d1 t1 C1 i1 e1 D1 j1 f1 ⟨ofFrac x 2, ofFrac y 2⟩ := OwP.two hR1 hR2 hb3 hz2
  go_wp2_with fail
  refine (ifPoint_any _ hX).mono ?_
  rintro en w4 ⟨s2, A2, n2, c2, B2, m2, d2, t2, C2, i2, e2, D2, j2, f2, rfl, hP, hb4⟩
  have hr := ((hr.bl hb2).bl hb3).bl hb4
  have hbW : Bl w w4 := hbW.next hb4
  rw [ifP_half _ _ hx1 hx2 hy1 hy2] at hP
  have hX := OwP.low hP (show w.heap.size + 1 ≤ _ from hz)
  obtain ⟨v0, x0⟩ := hr.val_ (i := 0) (by omega)
  obtain ⟨v1, x1⟩ := hr.val_ (i := 1) (by omega)
  obtain ⟨v2, x2⟩ := hr.val_ (i := 2) (by omega)
  obtain ⟨v3, x3⟩ := hr.val_ (i := 3) (by omega)
  obtain ⟨v4, x4⟩ := hr.val_ (i := 4) (by omega)
  obtain ⟨v5, x5⟩ := hr.val_ (i := 5) (by omega)
  have hg := hr.lt
  obtain ⟨cs4, hB4, hc4⟩ := hr
  have hf0 := hB4.frozen 0
  have hf1 := hB4.frozen 1
  have hf2 := hB4.frozen 2
  have hf3 := hB4.frozen 3
  have hf4 := hB4.frozen 4
  have hf5 := hB4.frozen 5
  go_wp2_with fail
  exact bodyPost_ret (v := .agg #[.bool s2, .slice A2 n2 c2, .slice B2 m2 d2, .bool t2, .slice C2 i2 e2, .slice D2 j2 f2]) (by simp [results, Tryz.results42, go_sem, x0, x1, x2, x3, x4, x5]) rfl ⟨_, _, _, _, _, _, _, _, _, _, _, _, _, _, rfl, ((((((hX.far (by simp) _).far (by simp) _).far (by simp) _).far (by simp) _).far (by simp) _).far (by simp) _).low (by omega), slc⟩
end

end Go.Proofs.YtajlahjghapbkaaGreat
