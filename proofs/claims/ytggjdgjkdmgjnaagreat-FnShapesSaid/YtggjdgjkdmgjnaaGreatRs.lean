import Derived.Test.YtggjdgjkdmgjnaaGreatRows
import Derived.Test.YtggjdgjkdmgjnaaGreatBase
namespace Go.Proofs.YtggjdgjkdmgjnaaGreat

open Go.RowKit

/-- The three cells of a fraction. -/
def RtAt (w : World) (p : Addr) (r : RatD) : Prop :=
  ∃ s A n c B m d, (w.cell? p = some (.bool s) ∧ w.cell? ⟨p.block, p.off + 1, none⟩ = some (.slice A n c) ∧ w.cell? ⟨p.block, p.off + 2, none⟩ = some (.slice B m d)) ∧ RdR w s A n c B m d r
theorem RtAt.bl {w W : World} {p : Addr} {r : RatD} (h : RtAt w p r) (hp : p.block < w.heap.size) (hb : Bl w W) : RtAt W p r := by
  obtain ⟨s, A, n, c, B, m, d, ⟨h0, h1, h2⟩, hx⟩ := h
  refine ⟨s, A, n, c, B, m, d, ⟨?_, ?_, ?_⟩, hx.bl hb⟩
  · rw [hb.cellOf hp]; exact h0
  · rw [hb.cellOf (p := ⟨p.block, p.off + 1, none⟩) hp]; exact h1
  · rw [hb.cellOf (p := ⟨p.block, p.off + 2, none⟩) hp]; exact h2
abbrev RdRS := RdS 3 RtAt
theorem RdRS.bl {w W : World} {A : Option Addr} {n c : Nat} {l : List RatD} (h : RdRS w A n c l) (hb : Bl w W) : RdRS W A n c l := RdS.bl (fun h hp hb => h.bl hp hb) h hb
def RtIn (T : TypeId) (w : World) (cs : Array Value) (i : Nat) (r : RatD) (bs : List Nat) : Prop :=
  ∃ s A n c B m d, (cs[i]? = some (.bool s) ∧ cs[i + 1]? = some (.slice A n c) ∧ cs[i + 2]? = some (.slice B m d)) ∧ FtR T w s A n c B m d r bs
/-- The footprints of a list of fractions whose cells lie in cs one behind the other. -/
def RtsIn (T : TypeId) (w : World) (cs : Array Value) (l : List RatD) (k : Nat) (fs : List (List Nat)) : Prop :=
  fs.length = k ∧ ∀ i, i < k → RtIn T w cs (i * 3) (pix l i) (pix fs i)
section
variable {T : TypeId} {w W : World} {cs cs' : Array Value} {i : Nat} {r : RatD} {bs : List Nat}
theorem RtIn.keep (h : RtIn T w cs i r bs) (hc : ∀ j, j < 3 → cs'[i + j]? = cs[i + j]?) (hs : w.heap.size ≤ W.heap.size) (hk : ∀ b ∈ bs, W.heap[b]? = w.heap[b]?) : RtIn T W cs' i r bs := by
  obtain ⟨s, A, n, c, B, m, d, ⟨h0, h1, h2⟩, hx⟩ := h
  refine ⟨s, A, n, c, B, m, d, ⟨?_, ?_, ?_⟩, hx.keep hs hk⟩
  · rw [← h0]; exact hc 0 (by omega)
  · rw [← h1]; exact hc 1 (by omega)
  · rw [← h2]; exact hc 2 (by omega)
theorem set3_size {cs : Array Value} {i : Nat} {x0 x1 x2 : Value} : (((cs.setIfInBounds i x0).setIfInBounds (i + 1) x1).setIfInBounds (i + 2) x2).size = cs.size := by simp
theorem set3_far {cs : Array Value} {i q : Nat} {x0 x1 x2 : Value} (h : q < i ∨ i + 2 < q) : (((cs.setIfInBounds i x0).setIfInBounds (i + 1) x1).setIfInBounds (i + 2) x2)[q]? = cs[q]? := by
  rw [Array.getElem?_setIfInBounds_ne (by omega), Array.getElem?_setIfInBounds_ne (by omega), Array.getElem?_setIfInBounds_ne (by omega)]
theorem set3_at {cs : Array Value} {i : Nat} {x0 x1 x2 : Value} (h : i + 2 < cs.size) : ∀ z, z = (((cs.setIfInBounds i x0).setIfInBounds (i + 1) x1).setIfInBounds (i + 2) x2) →
    z[i]? = some x0 ∧ z[i + 1]? = some x1 ∧ z[i + 2]? = some x2 := by
  rintro z rfl
  refine ⟨?_, ?_, ?_⟩ <;> simp [Array.getElem?_setIfInBounds] <;> omega
end
section
variable {T : TypeId} {w W : World} {cs : Array Value} {l : List RatD} {k : Nat} {fs : List (List Nat)}
theorem RtsIn.bl (h : RtsIn T w cs l k fs) (hb : Bl w W) (hf : ∀ b ∈ fs.flatten, b < w.heap.size) : RtsIn T W cs l k fs :=
  ⟨h.1, fun i hi => (h.2 i hi).keep (fun _ _ => rfl) hb.size fun b hm => Below.block hb b (hf b (mem_flatten_pix hm))⟩
theorem RtsIn.far (h : RtsIn T w cs l k fs) {p : Addr} (hp : ∀ b ∈ fs.flatten, b ≠ p.block) (u : Value) : RtsIn T (w.setCell p u) cs l k fs :=
  ⟨h.1, fun i hi => (h.2 i hi).keep (fun _ _ => rfl) (by simp) fun b hm => Below.heap_setCell w p u b (hp b (mem_flatten_pix hm))⟩
/-- One fraction more is stored behind the first k. -/
theorem RtsIn.step {g n : Nat} {TP : TypeId} (hP : RtsIn T w cs l k fs) (hB : Blk w g TP cs) (hcs : cs.size = n * 3) (hk : k < n) {lo : Nat} (hF : Fp (g + 1) lo fs.flatten) (hlo : g + 1 ≤ lo)
    {s : Bool} {n1 n2 g1 g2 : Nat} (h1 : lo ≤ g1) (h2 : g1 < g2)
    (hs : s = (pix l k).neg) (l1 : (pix l k).mag.length = n1) (l2 : (pix l k).den.length = n2)
    (s1 : n1 ≤ 9223372036854775807) (s2 : n2 ≤ 9223372036854775807)
    (o1 : Ow T w g1 (pix l k).mag) (o2 : Ow T w g2 (pix l k).den)
    (hW : W = ((w.setCell ⟨g, k * 3, none⟩ (.bool s)).setCell ⟨g, k * 3 + 1, none⟩ (.slice (some ⟨g1, 0, none⟩) n1 n1)).setCell ⟨g, k * 3 + 2, none⟩ (.slice (some ⟨g2, 0, none⟩) n2 n2)) :
    ∃ cs' fs', Blk W g TP cs' ∧ cs'.size = n * 3 ∧ RtsIn T W cs' l (k + 1) fs' ∧ Fp (g + 1) W.heap.size fs'.flatten := by
  have hWs : W.heap.size = w.heap.size := by rw [hW]; simp
  have hkeep : ∀ b, b ≠ g → W.heap[b]? = w.heap[b]? := by
    intro b hb
    rw [hW]
    rw [Below.heap_setCell _ _ _ _ hb, Below.heap_setCell _ _ _ _ hb, Below.heap_setCell _ _ _ _ hb]
  have g2lt := o2.lt
  obtain ⟨b1, f1, p1⟩ := FtI.of_ow o1 l1 s1
  obtain ⟨b2, f2, p2⟩ := FtI.of_ow o2 l2 s2
  have PA := p1.app p2 (by omega) (by omega) (by omega)
  have hsz : w.heap.size ≤ W.heap.size := by omega
  have hne : ∀ {bs : List Nat} {lo' hi' : Nat}, Fp lo' hi' bs → g < lo' → ∀ b ∈ bs, W.heap[b]? = w.heap[b]? := fun hp hl b hb => hkeep b (by have := (hp.2 b hb).1; omega)
  have hst := set3_at (cs := cs) (i := k * 3) (x0 := .bool s) (x1 := .slice (some ⟨g1, 0, none⟩) n1 n1) (x2 := .slice (some ⟨g2, 0, none⟩) n2 n2) (by omega) _ rfl
  obtain ⟨a0, a1, a2⟩ := hst
  refine ⟨_, fs ++ [b1 ++ b2], by rw [hW]; exact ((hB.set_ _ _).set_ _ _).set_ _ _, by rw [set3_size]; exact hcs, ⟨by simp [hP.1], fun i hi => ?_⟩, ?_⟩
  · rcases Nat.lt_succ_iff_lt_or_eq.1 hi with hi | rfl
    · rw [pix_append_left (a := fs) (by rw [hP.1]; exact hi)]
      refine (hP.2 i hi).keep (fun j hj => set3_far (.inl (by omega))) hsz fun b hb => hkeep b ?_
      have := (hF.2 b (mem_flatten_pix hb)).1
      omega
    · have e : pix (fs ++ [b1 ++ b2]) i = b1 ++ b2 := by rw [← hP.1]; exact pix_append_last
      rw [e]
      exact ⟨s, _, n1, n1, _, n2, n2, ⟨a0, a1, a2⟩, ⟨hs, b1, b2, f1.keep hsz (hne p1 (by omega)), f2.keep hsz (hne p2 (by omega)), rfl⟩⟩
  · rw [List.flatten_append]
    simp only [List.flatten_cons, List.flatten_nil, List.append_nil]
    exact hF.app (PA.mono (Nat.le_refl _) (by omega)) (by omega) (by omega) (by omega)
end
theorem RtIn.at_ {T : TypeId} {w : World} {g : Nat} {TP : TypeId} {cs : Array Value} {i : Nat} {r : RatD} {bs : List Nat} (h : RtIn T w cs i r bs) (hB : Blk w g TP cs) : RtAt w ⟨g, i, none⟩ r := by
  obtain ⟨s, A, n, c, B, m, d, ⟨h0, h1, h2⟩, hx⟩ := h
  exact ⟨s, A, n, c, B, m, d, ⟨(hB.cell _).trans h0, (hB.cell _).trans h1, (hB.cell _).trans h2⟩, hx.rd⟩
theorem RtsIn.rd {T : TypeId} {w : World} {g : Nat} {TP : TypeId} {cs : Array Value} {l : List RatD} {fs : List (List Nat)} {n c : Nat} (h : RtsIn T w cs l n fs) (hB : Blk w g TP cs) (hl : l.length = n) (hn : n ≤ 9223372036854775807) (hc : n ≤ c) : RdRS w (some ⟨g, 0, none⟩) n c l :=
  ⟨hl, hc, hn, fun k hk => ⟨_, rfl, hB.lt, by
    rw [Addr.add_lit, Nat.zero_add]
    exact (h.2 k hk).at_ hB⟩⟩
/-- A list of fractions in memory of its own from block b0 on. -/
def OwRS (TI TR : TypeId) (b0 : Nat) (w : World) (A : Option Addr) (n c : Nat) (l : List RatD) : Prop :=
  ∃ g cs fs, A = some ⟨g, 0, none⟩ ∧ b0 ≤ g ∧ l.length = n ∧ n ≤ c ∧ n ≤ 1048576 ∧ Blk w g TR cs ∧ cs.size = n * 3 ∧ RtsIn TI w cs l n fs ∧ Fp b0 w.heap.size fs.flatten
theorem OwRS.rd {TI TR : TypeId} {b0 : Nat} {w : World} {A : Option Addr} {n c : Nat} {l : List RatD} (h : OwRS TI TR b0 w A n c l) : RdRS w A n c l := by
  obtain ⟨g, cs, fs, rfl, h1, h2, h3, h4, h5, h6, h7, h8⟩ := h
  exact h7.rd h5 h2 (by omega) h3
theorem OwRS.bl {TI TR : TypeId} {b0 : Nat} {w W : World} {A : Option Addr} {n c : Nat} {l : List RatD} (h : OwRS TI TR b0 w A n c l) (hb : Bl w W) : OwRS TI TR b0 W A n c l := by
  obtain ⟨g, cs, fs, rfl, h1, h2, h3, h4, h5, h6, h7, h8⟩ := h
  exact ⟨g, cs, fs, rfl, h1, h2, h3, h4, h5.bl hb, h6, h7.bl hb (fun b hm => (h8.2 b hm).2), h8.mono (Nat.le_refl _) hb.size⟩

end Go.Proofs.YtggjdgjkdmgjnaaGreat
