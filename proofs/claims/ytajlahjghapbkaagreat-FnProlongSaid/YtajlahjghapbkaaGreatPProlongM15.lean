/- Lemmas. -/
import Derived.Test.YtajlahjghapbkaaGreatRows
import Derived.Test.YtajlahjghapbkaaGreatPProlongM14
import Derived.Test.YtajlahjghapbkaaGreatPProlongM13
import Derived.Test.YtajlahjghapbkaaGreatPProlongM09
import Derived.Test.YtajlahjghapbkaaGreatPProlongM02
namespace Go.Proofs.YtajlahjghapbkaaGreat
section
open Go.RowKit

/-- What is kept where the cells and the blocks of the footprint are the same. -/
def KeepE {α : Type} (size : Nat) (El : World → Array Value → Nat → α → List Nat → Prop) : Prop :=
  ∀ (w W : World) (cs cs' : Array Value) (i i' : Nat) (x : α) (bs : List Nat), El w cs i x bs → (∀ j, j < size → cs'[i' + j]? = cs[i + j]?) → w.heap.size ≤ W.heap.size → (∀ b ∈ bs, W.heap[b]? = w.heap[b]?) → El W cs' i' x bs
/-- A property of footprints that holds of two that have no block in common, if it holds of each. -/
def AppN (N : List Nat → Prop) : Prop := N [] ∧ ∀ a b, N a → N b → (∀ x ∈ a, ∀ y ∈ b, x ≠ y) → N (a ++ b)
theorem appN_nodup : AppN List.Nodup := ⟨List.nodup_nil, fun _ _ h k d => List.nodup_append.2 ⟨h, k, d⟩⟩
def AnyN (_ : List Nat) : Prop := True
theorem appN_any : AppN AnyN := ⟨trivial, fun _ _ _ _ _ => trivial⟩
/-- The slice value v is the call's own; its elements read as l; all its blocks lie from lo to hi; N holds of the elements' blocks. -/
def RowG {α : Type} [Inhabited α] (N : List Nat → Prop) (TP : TypeId) (size : Nat) (El : World → Array Value → Nat → α → List Nat → Prop) (lo hi : Nat) (w : World) (v : Value) (l : List α) : Prop :=
  ∃ cells fs, w.ownsRow lo TP size v l.length cells ∧ (∀ g, v.ownBlock = some g → g < hi) ∧ fs.length = l.length ∧ (∀ i, i < l.length → El w cells.toArray (i * size) (pix l i) (pix fs i)) ∧
    (∀ b ∈ fs.flatten, lo ≤ b ∧ b < hi ∧ v.ownBlock ≠ some b) ∧ N fs.flatten ∧ hi ≤ w.heap.size
section
variable {α : Type} [Inhabited α] {N : List Nat → Prop} {TP : TypeId} {size lo hi : Nat} {El : World → Array Value → Nat → α → List Nat → Prop} {w W : World} {v : Value} {l : List α}
theorem RowG.nil (hN : AppN N) (w : World) (h2 : hi ≤ w.heap.size) : RowG N TP size El lo hi w (.slice none 0 0) ([] : List α) :=
  ⟨[], [], World.ownsRow_nil _ _ _ _, (fun g h => by cases h), rfl, (fun i hi => by simp at hi), (fun b hb => by simp at hb), hN.1, h2⟩
theorem RowG.empty (hN : AppN N) (w : World) (h1 : lo ≤ w.heap.size) : RowG N TP size El lo (w.heap.size + 1) (w.alloc (.cells #[] TP)) (.slice (some ⟨w.heap.size, 0, none⟩) 0 0) ([] : List α) :=
  ⟨[], [], World.ownsRow_made w #[] 0 h1 (Nat.zero_le _) (by simp), (fun g h => by injection h with h; simp only at h; omega), rfl, (fun i hi => by simp at hi), (fun b hb => by simp at hb), hN.1, by simp⟩
theorem RowG.keep (hk : KeepE size El) (h : RowG N TP size El lo hi w v l) (hs : w.heap.size ≤ W.heap.size) (hb : ∀ b, lo ≤ b → b < hi → W.heap[b]? = w.heap[b]?) : RowG N TP size El lo hi W v l := by
  obtain ⟨cells, fs, h1, h2, h3, h4, h5, h6, h7⟩ := h
  refine ⟨cells, fs, ⟨h1.1, ?_⟩, h2, h3, fun i hi => hk _ _ _ _ _ _ _ _ (h4 i hi) (fun _ _ => rfl) hs fun b hm => ?_, h5, h6, Nat.le_trans h7 hs⟩
  · rcases h1.2 with h | ⟨g, cap, cur, rfl, hg, hh, r⟩
    · exact .inl h
    · exact .inr ⟨g, cap, cur, rfl, hg, (hb g hg (h2 g rfl)).trans hh, r⟩
  · have := h5 b (mem_flatten_pix hm)
    exact hb b this.1 this.2.1
theorem RowG.bl (hk : KeepE size El) (h : RowG N TP size El lo hi w v l) (hb : Bl w W) : RowG N TP size El lo hi W v l :=
  h.keep hk hb.size fun b _ h2 => Below.block hb b (Nat.lt_of_lt_of_le h2 (by obtain ⟨_, _, _, _, _, _, _, _, h7⟩ := h; exact h7))
theorem RowG.hiLe (h : RowG N TP size El lo hi w v l) : hi ≤ w.heap.size := by
  obtain ⟨_, _, _, _, _, _, _, _, h7⟩ := h
  exact h7
end
theorem pixs_last {fs : List (List Nat)} {bs : List Nat} {n : Nat} (h : fs.length = n) : pix (fs ++ [bs]) n = bs := by subst h; exact pix_append_last
theorem ptIn_keep (T : TypeId) : KeepE 6 (PtIn T) := by
  intro w W cs cs' i i' x bs h hc hs hb
  obtain ⟨s, A, n, c, B, m, d, t, C, j, e, D, k, f, b1, b2, ⟨h0, h1, h2, h3, h4, h5⟩, hx, hy, rfl⟩ := h
  refine ⟨s, A, n, c, B, m, d, t, C, j, e, D, k, f, b1, b2, ⟨?_, ?_, ?_, ?_, ?_, ?_⟩, hx.keep hs fun b hm => hb b (by simp [hm]), hy.keep hs fun b hm => hb b (by simp [hm]), rfl⟩
  · rw [← h0]; exact hc 0 (by omega)
  · rw [← h1]; exact hc 1 (by omega)
  · rw [← h2]; exact hc 2 (by omega)
  · rw [← h3]; exact hc 3 (by omega)
  · rw [← h4]; exact hc 4 (by omega)
  · rw [← h5]; exact hc 5 (by omega)
theorem rtIn_keep (T : TypeId) : KeepE 3 (RtIn T) := by
  intro w W cs cs' i i' x bs h hc hs hb
  obtain ⟨s, A, n, c, B, m, d, ⟨h0, h1, h2⟩, hx⟩ := h
  refine ⟨s, A, n, c, B, m, d, ⟨?_, ?_, ?_⟩, hx.keep hs hb⟩
  · rw [← h0]; exact hc 0 (by omega)
  · rw [← h1]; exact hc 1 (by omega)
  · rw [← h2]; exact hc 2 (by omega)
/-- A row of points. -/
abbrev RowP (N : List Nat → Prop) (lo hi : Nat) (w : World) (v : Value) (l : List PtD) : Prop := RowG N 31 6 (PtIn 3) lo hi w v l
section
variable {N : List Nat → Prop} {lo hi : Nat} {w W : World} {v : Value} {l : List PtD}
theorem RowP.out (h : RowP N lo hi w v l) : (v = .slice none 0 0 ∧ l = []) ∨ ∃ g c cs fs, v = .slice (some ⟨g, 0, none⟩) l.length c ∧ l.length ≤ c ∧ Blk w g 31 cs ∧ l.length * 6 ≤ cs.size ∧ PtsIn 3 w cs l l.length fs ∧ (∀ b ∈ g :: fs.flatten, lo ≤ b ∧ b < hi) ∧ g ∉ fs.flatten ∧ N fs.flatten := by
  obtain ⟨cells, fs, r1, r2, r3, r4, r5, r6, r7⟩ := h
  rcases r1.2 with ⟨rfl, h0⟩ | ⟨g, cap, cur, rfl, hg, hh, hn, hcap, hcs, ht⟩
  · exact .inl ⟨rfl, List.length_eq_zero_iff.1 h0⟩
  · have hlen : l.length * 6 ≤ cur.size := by rw [hcs]; exact Nat.mul_le_mul_right _ hn
    refine .inr ⟨g, cap, cur, fs, rfl, hn, hh, hlen, ⟨r3, fun i hi => ?_⟩, fun b hb => ?_, fun hm => (r5 g hm).2.2 rfl, r6⟩
    · refine ptIn_keep _ _ _ _ _ _ _ _ _ (r4 i hi) (fun j hj => ?_) (Nat.le_refl _) fun _ _ => rfl
      rw [← ht]
      have : i * 6 + j < l.length * 6 := by omega
      simp [this]
    · rcases List.mem_cons.1 hb with rfl | hb
      · exact ⟨hg, r2 _ rfl⟩
      · exact ⟨(r5 b hb).1, (r5 b hb).2.1⟩
theorem RowP.rd (h : RowP N lo hi w v l) (hl : l.length ≤ 1048576) : ∃ A c, v = .slice A l.length c ∧ RdPS w A l.length c l := by
  rcases RowP.out h with ⟨rfl, rfl⟩ | ⟨g, c, cs, fs, rfl, h1, h2, h3, h4, _⟩
  · exact ⟨none, 0, rfl, RdS.nil _ _ _⟩
  · exact ⟨_, c, rfl, h4.rd h2 rfl (by omega) h1⟩
theorem RowP.own (h : RowP List.Nodup lo hi w v l) (hl : l.length ≤ 1048576) : ∃ A c, v = .slice A l.length c ∧ OwPZ 3 31 lo hi w A l.length c l := by
  rcases RowP.out h with ⟨rfl, rfl⟩ | ⟨g, c, cs, fs, rfl, h1, h2, h3, h4, h5, h6, h7⟩
  · exact ⟨none, 0, rfl, rfl, Nat.le_refl _, Nat.zero_le _, .inl rfl⟩
  · exact ⟨_, c, rfl, rfl, h1, hl, .inr ⟨g, cs, fs, rfl, h2, h3, h4, List.nodup_cons.2 ⟨h6, h7⟩, h5⟩⟩
end
/-- A point by value, in memory of its own. -/
def OwPN (N : List Nat → Prop) (T : TypeId) (b0 : Nat) (w : World) (s : Bool) (A : Option Addr) (n c : Nat) (B : Option Addr) (m d : Nat) (t : Bool) (C : Option Addr) (i e : Nat) (D : Option Addr) (j f : Nat) (p : PtD) : Prop :=
  ∃ b1 b2, FtR T w s A n c B m d p.x b1 ∧ FtR T w t C i e D j f p.y b2 ∧ (∀ b ∈ b1 ++ b2, b0 ≤ b ∧ b < w.heap.size) ∧ N (b1 ++ b2)
theorem OwPN.of {T : TypeId} {b0 : Nat} {w : World} {s : Bool} {A : Option Addr} {n c : Nat} {B : Option Addr} {m d : Nat} {t : Bool} {C : Option Addr} {i e : Nat} {D : Option Addr} {j f : Nat} {p : PtD} (h : OwP T b0 w s A n c B m d t C i e D j f p) : OwPN List.Nodup T b0 w s A n c B m d t C i e D j f p := by
  obtain ⟨b1, b2, h1, h2, hf⟩ := h
  exact ⟨b1, b2, h1, h2, hf.2, hf.1⟩
theorem OwPN.q {T : TypeId} {b0 : Nat} {w : World} {s : Bool} {A : Option Addr} {n c : Nat} {B : Option Addr} {m d : Nat} {t : Bool} {C : Option Addr} {i e : Nat} {D : Option Addr} {j f : Nat} {p : PtD} (h : OwP T b0 w s A n c B m d t C i e D j f p) : OwPN AnyN T b0 w s A n c B m d t C i e D j f p := by
  obtain ⟨b1, b2, h1, h2, hf⟩ := h
  exact ⟨b1, b2, h1, h2, hf.2, trivial⟩
end

section
open Go.RowKit

theorem info_rat : (Tryz.prog.info? 29).map (fun i => (i.zero, i.size, i.bytes)) = some (some (.agg #[.bool false, .slice none 0 0, .slice none 0 0]), 3, 56) := by kernel_rfl
end

section
open Go.RowKit

theorem RtIn.lt {T : TypeId} {w : World} {cs : Array Value} {i : Nat} {r : RatD} {bs : List Nat} (h : RtIn T w cs i r bs) : ∀ b ∈ bs, b < w.heap.size := by
  obtain ⟨s, A, n, c, B, m, d, _, h⟩ := h
  exact h.lt

/-- A list of fractions in memory of one's own, its limbs behind its cells. -/
def OwRX (TI TR : TypeId) (b0 : Nat) (w : World) (A : Option Addr) (n c : Nat) (l : List RatD) : Prop :=
  ∃ g cs fs, A = some ⟨g, 0, none⟩ ∧ b0 ≤ g ∧ l.length = n ∧ n ≤ c ∧ n ≤ 1048576 ∧ Blk w g TR cs ∧ cs.size = n * 3 ∧ RtsIn TI w cs l n fs ∧ Fp (g + 1) w.heap.size fs.flatten
theorem OwRX.rd {TI TR : TypeId} {b0 : Nat} {w : World} {A : Option Addr} {n c : Nat} {l : List RatD} (h : OwRX TI TR b0 w A n c l) : RdRS w A n c l := by
  obtain ⟨g, cs, fs, rfl, h1, h2, h3, h4, h5, h6, h7, h8⟩ := h
  exact h7.rd h5 h2 (by omega) h3
theorem OwRX.bl {TI TR : TypeId} {b0 : Nat} {w W : World} {A : Option Addr} {n c : Nat} {l : List RatD} (h : OwRX TI TR b0 w A n c l) (hb : Bl w W) : OwRX TI TR b0 W A n c l := by
  obtain ⟨g, cs, fs, rfl, h1, h2, h3, h4, h5, h6, h7, h8⟩ := h
  exact ⟨g, cs, fs, rfl, h1, h2, h3, h4, h5.bl hb, h6, h7.bl hb (fun b hm => (h8.2 b hm).2), h8.mono (Nat.le_refl _) hb.size⟩
theorem OwRX.ob {TI TR : TypeId} {b0 : Nat} {w W : World} {A : Option Addr} {n c : Nat} {l : List RatD} {bs : List Nat} (h : OwRX TI TR b0 w A n c l) (ho : Ob bs w W) (hd : ∀ b ∈ bs, b < b0) : OwRX TI TR b0 W A n c l := by
  obtain ⟨g, cs, fs, rfl, h1, h2, h3, h4, h5, h6, h7, h8⟩ := h
  refine ⟨g, cs, fs, rfl, h1, h2, h3, h4, h5.ob ho (fun hm => by have := hd g hm; omega), h6, ⟨h7.1, fun i hi => (h7.2 i hi).keep (fun _ _ => rfl) ho.size fun b hb => ?_⟩, h8.mono (Nat.le_refl _) ho.size⟩
  have hm := h8.2 b (mem_flatten_pix hb)
  exact ho.block b hm.2 fun hx => by have := hd b hx; omega
end

section
open Go.RowKit

/-- A list of fractions with its footprint. -/
def FtRS (TI TR : TypeId) (w : World) (A : Option Addr) (n c : Nat) (l : List RatD) (bs : List Nat) : Prop :=
  l.length = n ∧ n ≤ c ∧ n ≤ 1048576 ∧ ((n = 0 ∧ bs = []) ∨ ∃ g cs fs, A = some ⟨g, 0, none⟩ ∧ Blk w g TR cs ∧ n * 3 ≤ cs.size ∧ RtsIn TI w cs l n fs ∧ bs = g :: fs.flatten)
/-- One cell that holds a list of fractions. -/
def RsAt (w : World) (p : Addr) (l : List RatD) : Prop := ∃ A n c, w.cell? p = some (.slice A n c) ∧ RdRS w A n c l
theorem RsAt.bl {w W : World} {p : Addr} {l : List RatD} (h : RsAt w p l) (hp : p.block < w.heap.size) (hb : Bl w W) : RsAt W p l := by
  obtain ⟨A, n, c, h0, h1⟩ := h
  exact ⟨A, n, c, by rw [hb.cellOf hp]; exact h0, h1.bl hb⟩
abbrev RdRSS := RdS 1 RsAt
theorem RdRSS.bl {w W : World} {A : Option Addr} {n c : Nat} {l : List (List RatD)} (h : RdRSS w A n c l) (hb : Bl w W) : RdRSS W A n c l := RdS.bl (fun h hp hb => h.bl hp hb) h hb
/-- The cell i of a block holds a list of fractions. -/
def RsIn (TI TR : TypeId) (w : World) (cs : Array Value) (i : Nat) (l : List RatD) (bs : List Nat) : Prop :=
  ∃ A n c, cs[i]? = some (.slice A n c) ∧ FtRS TI TR w A n c l bs
theorem flat_pix {fs : List (List Nat)} {b : Nat} (h : b ∈ fs.flatten) : ∃ k, k < fs.length ∧ b ∈ pix fs k := by
  obtain ⟨l, hl, hb⟩ := List.mem_flatten.1 h
  obtain ⟨k, hk, rfl⟩ := List.getElem_of_mem hl
  exact ⟨k, hk, by simpa [pix, hk] using hb⟩
section
variable {TI TR TS : TypeId} {w W : World} {A : Option Addr} {n c i lo hi lo' hi' : Nat} {cs cs' : Array Value} {l : List RatD} {L : List (List RatD)} {bs xs : List Nat}
theorem FtRS.rd (h : FtRS TI TR w A n c l bs) : RdRS w A n c l := by
  obtain ⟨h1, h2, h3, h4⟩ := h
  rcases h4 with ⟨h4, _⟩ | ⟨g, cs, fs, rfl, hB, hc, hP, _⟩
  · subst h4
    obtain rfl := List.length_eq_zero_iff.1 h1
    exact RdS.nil _ _ _
  · exact hP.rd hB h1 (by omega) h2
theorem FtRS.lt (h : FtRS TI TR w A n c l bs) : ∀ b ∈ bs, b < w.heap.size := by
  obtain ⟨h1, h2, h3, h4⟩ := h
  rcases h4 with ⟨_, rfl⟩ | ⟨g, cs, fs, rfl, hB, hc, hP, rfl⟩
  · intro b hb; cases hb
  · intro b hb
    rcases List.mem_cons.1 hb with rfl | hb
    · exact hB.lt
    · obtain ⟨k, hk, hm⟩ := flat_pix hb
      exact (hP.2 k (by rw [← hP.1]; exact hk)).lt b hm
theorem FtRS.keep (h : FtRS TI TR w A n c l bs) (hs : w.heap.size ≤ W.heap.size) (hk : ∀ b ∈ bs, W.heap[b]? = w.heap[b]?) : FtRS TI TR W A n c l bs := by
  obtain ⟨h1, h2, h3, h4⟩ := h
  refine ⟨h1, h2, h3, ?_⟩
  rcases h4 with h4 | ⟨g, cs, fs, rfl, hB, hc, hP, rfl⟩
  · exact .inl h4
  · exact .inr ⟨g, cs, fs, rfl, (hk g (by simp)).trans hB, hc, ⟨hP.1, fun i hi => (hP.2 i hi).keep (fun _ _ => rfl) hs fun b hb => hk b (List.mem_cons_of_mem _ (mem_flatten_pix hb))⟩, rfl⟩
theorem RsIn.lt (h : RsIn TI TR w cs i l bs) : ∀ b ∈ bs, b < w.heap.size := by
  obtain ⟨A, n, c, _, h⟩ := h
  exact h.lt
theorem RsIn.keep (h : RsIn TI TR w cs i l bs) (hc : cs'[i]? = cs[i]?) (hs : w.heap.size ≤ W.heap.size) (hk : ∀ b ∈ bs, W.heap[b]? = w.heap[b]?) : RsIn TI TR W cs' i l bs := by
  obtain ⟨A, n, c, h0, h⟩ := h
  exact ⟨A, n, c, hc.trans h0, h.keep hs hk⟩
/-- A list of lists of fractions in the blocks from lo to hi. -/
def OwSZ (TI TR TS : TypeId) (lo hi : Nat) (w : World) (A : Option Addr) (n c : Nat) (L : List (List RatD)) : Prop :=
  L.length = n ∧ n ≤ c ∧ n ≤ 1048576 ∧ (n = 0 ∨ ∃ g cs fs, A = some ⟨g, 0, none⟩ ∧ Blk w g TS cs ∧ n ≤ cs.size ∧ fs.length = n ∧ (∀ i, i < n → RsIn TI TR w cs i (pix L i) (pix fs i)) ∧ Fp lo hi (g :: fs.flatten))
theorem rss_rd {g : Nat} {fs : List (List Nat)} (hB : Blk w g TS cs) (hl : L.length = n) (hn : n ≤ c) (h3 : n ≤ 1048576) (hP : ∀ i, i < n → RsIn TI TR w cs i (pix L i) (pix fs i)) : RdRSS w (some ⟨g, 0, none⟩) n c L := by
  refine ⟨hl, hn, by omega, fun k hk => ⟨_, rfl, hB.lt, ?_⟩⟩
  obtain ⟨A, n', c', h0, h1⟩ := hP k hk
  refine ⟨A, n', c', ?_, h1.rd⟩
  rw [Nat.mul_one, Addr.add_lit, Nat.zero_add]
  exact (hB.cell k).trans h0
theorem OwSZ.rd (h : OwSZ TI TR TS lo hi w A n c L) : RdRSS w A n c L := by
  obtain ⟨h1, h2, h3, h4⟩ := h
  rcases h4 with h4 | ⟨g, cs, fs, rfl, hB, hc, hf, hP, hF⟩
  · subst h4
    obtain rfl := List.length_eq_zero_iff.1 h1
    exact RdS.nil _ _ _
  · exact rss_rd hB h1 h2 h3 hP
theorem OwSZ.keep (h : OwSZ TI TR TS lo hi w A n c L) (hs : w.heap.size ≤ W.heap.size) (hk : ∀ b, lo ≤ b → b < hi → b < w.heap.size → W.heap[b]? = w.heap[b]?) : OwSZ TI TR TS lo hi W A n c L := by
  obtain ⟨h1, h2, h3, h4⟩ := h
  refine ⟨h1, h2, h3, ?_⟩
  rcases h4 with h4 | ⟨g, cs, fs, rfl, hB, hc, hf, hP, hF⟩
  · exact .inl h4
  · have hg := hF.2 g (by simp)
    refine .inr ⟨g, cs, fs, rfl, (hk g hg.1 hg.2 hB.lt).trans hB, hc, hf, fun i hi => (hP i hi).keep rfl hs fun b hb => ?_, hF⟩
    have hm := hF.2 b (List.mem_cons_of_mem _ (mem_flatten_pix hb))
    exact hk b hm.1 hm.2 ((hP i hi).lt b hb)
theorem OwSZ.bl (h : OwSZ TI TR TS lo hi w A n c L) (hb : Bl w W) : OwSZ TI TR TS lo hi W A n c L := h.keep hb.size fun b _ _ hl => Below.block hb b hl
theorem OwSZ.ob (h : OwSZ TI TR TS lo hi w A n c L) (ho : Ob bs w W) (hd : ∀ b ∈ bs, b < lo ∨ hi ≤ b) : OwSZ TI TR TS lo hi W A n c L :=
  h.keep ho.size fun b h1 h2 hl => ho.block b hl fun hm => by have := hd b hm; omega
theorem OwSZ.low (h : OwSZ TI TR TS lo hi w A n c L) (h1 : lo' ≤ lo) (h2 : hi ≤ hi') : OwSZ TI TR TS lo' hi' w A n c L := by
  obtain ⟨a1, a2, a3, a4⟩ := h
  refine ⟨a1, a2, a3, ?_⟩
  rcases a4 with h4 | ⟨g, cs, fs, rfl, hB, hc, hf, hP, hF⟩
  · exact .inl h4
  · exact .inr ⟨g, cs, fs, rfl, hB, hc, hf, hP, hF.mono h1 h2⟩
end
end

section
open Go.RowKit
/-- A row of fractions; a row of such rows. -/
abbrev RowR (N : List Nat → Prop) (lo hi : Nat) (w : World) (v : Value) (l : List RatD) : Prop := RowG N 29 3 (RtIn 3) lo hi w v l
abbrev RowS (N : List Nat → Prop) (lo hi : Nat) (w : World) (v : Value) (l : List (List RatD)) : Prop := RowG N 33 1 (RsIn 3 29) lo hi w v l
section
variable {N : List Nat → Prop} {lo hi : Nat} {w W : World} {v : Value} {l : List RatD} {L : List (List RatD)}
theorem RowR.ft (h : RowR List.Nodup lo hi w v l) (hl : l.length ≤ 1048576) : ∃ A c bs, v = .slice A l.length c ∧ FtRS 3 29 w A l.length c l bs ∧ bs.Nodup ∧ ∀ b ∈ bs, lo ≤ b ∧ b < hi := by
  obtain ⟨cells, fs, r1, r2, r3, r4, r5, r6, r7⟩ := h
  rcases r1.2 with ⟨rfl, h0⟩ | ⟨g, cap, cur, rfl, hg, hh, hn, hcap, hcs, ht⟩
  · exact ⟨none, 0, [], by rw [h0], ⟨rfl, by rw [h0]; exact Nat.le_refl _, hl, .inl ⟨h0, rfl⟩⟩, List.nodup_nil, fun b hb => by cases hb⟩
  · have hlen : l.length * 3 ≤ cur.size := by rw [hcs]; exact Nat.mul_le_mul_right _ hn
    have hgm : g ∉ fs.flatten := fun hm => (r5 g hm).2.2 rfl
    refine ⟨_, cap, g :: fs.flatten, rfl, ⟨rfl, hn, hl, .inr ⟨g, cur, fs, rfl, hh, hlen, ⟨r3, fun i hi => ?_⟩, rfl⟩⟩, List.nodup_cons.2 ⟨hgm, r6⟩, fun b hb => ?_⟩
    · refine rtIn_keep _ _ _ _ _ _ _ _ _ (r4 i hi) (fun j hj => ?_) (Nat.le_refl _) fun _ _ => rfl
      rw [← ht]
      have : i * 3 + j < l.length * 3 := by omega
      simp [this]
    · rcases List.mem_cons.1 hb with rfl | hb
      · exact ⟨hg, r2 _ rfl⟩
      · exact ⟨(r5 b hb).1, (r5 b hb).2.1⟩
theorem RowS.own (h : RowS List.Nodup lo hi w v L) (hl : L.length ≤ 1048576) : ∃ A c, v = .slice A L.length c ∧ OwSZ 3 29 33 lo hi w A L.length c L := by
  obtain ⟨cells, fs, r1, r2, r3, r4, r5, r6, r7⟩ := h
  rcases r1.2 with ⟨rfl, h0⟩ | ⟨g, cap, cur, rfl, hg, hh, hn, hcap, hcs, ht⟩
  · exact ⟨none, 0, by rw [h0], rfl, by rw [h0]; exact Nat.le_refl _, hl, .inl h0⟩
  · have hlen : L.length ≤ cur.size := by rw [hcs]; omega
    have hgm : g ∉ fs.flatten := fun hm => (r5 g hm).2.2 rfl
    refine ⟨_, cap, rfl, rfl, hn, hl, .inr ⟨g, cur, fs, rfl, hh, hlen, r3, fun i hi => ?_, List.nodup_cons.2 ⟨hgm, r6⟩, fun b hb => ?_⟩⟩
    · have h1 := r4 i hi
      rw [Nat.mul_one] at h1
      refine h1.keep ?_ (Nat.le_refl _) fun _ _ => rfl
      rw [← ht]
      simp [hi]
    · rcases List.mem_cons.1 hb with rfl | hb
      · exact ⟨hg, r2 _ rfl⟩
      · exact ⟨(r5 b hb).1, (r5 b hb).2.1⟩
end
end

section
open Go.RowKit
theorem step_append_rowX {P : Program} {α : Type} [Inhabited α] {N : List Nat → Prop} (hN : AppN N) {size bytes : Nat} {El : World → Array Value → Nat → α → List Nat → Prop} (hk : KeepE size El) {TP t : TypeId} {z : Value}
    (hinfo : (P.info? TP).map (fun i => (i.zero, i.size, i.bytes)) = some (some z, size, bytes)) (hzs : z.cells.size = size) (hsz : 0 < size) (hby : bytes ≤ 4096) (ht : P.underlying t = some (.slice TP))
    {W : World} {news : Array Value} {p : α} {bs : List Nat} {lo hi : Nat} {l : List α} {ops : Array Oper} {o : Oper} {a : Act} {K : Act → World → Prop} {Q : Exit → Act → World → Prop} {F : Prop} (hgd : o.guard = none) (s x : Operand)
    (ho : o.op = .call { callee := .builtin .append, args := #[s, x], argTypes := #[t, t] }) (v : Value) (hs : a.eval s = v) (hrow : RowG N TP size El lo hi W v l)
    (hel : El W news 0 p bs) (hnl : news.size = size) (h1 : ∀ u ∈ news.toList, u.oneCell' = true) (hbs : ∀ b ∈ bs, hi ≤ b ∧ b < W.heap.size) (hNb : N bs) (hlh : lo ≤ hi)
    (c : Nat) (hx : a.eval x = .slice (some ⟨W.heap.size, 0, none⟩) 1 c) (hlen : l.length ≤ 1048576) (w0 : World) (hb : Bl w0 W) (h0 : w0.heap.size ≤ lo)
    (h : ∀ v' w', RowG N TP size El lo w'.heap.size w' v' (l ++ [p]) → Bl w0 w' → (v' = .slice none 0 0 → False) → (∀ g, g < W.heap.size → v.ownBlock ≠ some g → w'.heap[g]? = W.heap[g]? ∧ v'.ownBlock ≠ some g) → K (a.put o.dst v') w') : if Region.wanted o (yielded ops a.tmps) = true then Oper.wp P o a (W.alloc (.cells news TP)) K Q else F := by
  have hw : Region.wanted o (yielded ops a.tmps) = true := by simp [Region.wanted, hgd]
  rw [if_pos hw]
  obtain ⟨i0, hi0, hz0, hz1, hz2⟩ := info_parts hinfo
  obtain ⟨cells, fs, r1, r2, r3, r4, r5, r6, r7⟩ := hrow
  have ro := World.ownsRow.alloc r1 (.cells news TP)
  have hnew : (W.alloc (.cells news TP)).heap[W.heap.size]? = some (.cells news TP (0, 0)) := heap_alloc_new W _
  have hsz2 : (W.alloc (.cells news TP)).heap.size = W.heap.size + 1 := by simp
  have hm : (l.length + 1) * bytes ≤ 140737488355328 := Nat.le_trans (Nat.mul_le_mul (show l.length + 1 ≤ 1048577 by omega) hby) (by omega)
  obtain ⟨v', w', hrun, g1, g2, g3, g4⟩ := run_append_own_at (P := P) (W.alloc (.cells news TP)) lo t o.type TP i0 z size bytes ht hi0 hz0 hz1 hz2 hzs hsz v l.length cells ro ⟨W.heap.size, 0, none⟩ 1 c news.toList (by simpa using hnl) (World.news_of_block hnew) h1 (by unfold maxLen; omega) hm (by omega)
  unfold Oper.wp execOp
  simp only [ho, resolve, invoke, builtin, Sem.run_bind, Sem.run_pure, Result.andThen_ok, List.map_toArray, List.map_cons, List.map_nil, hs, hx, hrun]
  have hne : v' ≠ .slice none 0 0 := fun e => by have := (g3.1 e).2; omega
  have hws := g2.size
  have hold : ∀ b, b < W.heap.size → v.ownBlock ≠ some b → w'.heap[b]? = W.heap[b]? := fun b hb1 hb2 => (g2.block b (by omega) (fun e => hb2 e.symm)).trans (Below.heap_alloc W _ b hb1)
  have hown : ∀ b, v'.ownBlock = some b → (v.ownBlock = some b ∨ b = W.heap.size + 1) := by
    intro b e
    rcases g4 with g4 | g4
    · exact .inl (by rw [← g4]; exact e)
    · rw [g4] at e; injection e with e; right; omega
  have hvl : ∀ b, v'.ownBlock = some b → lo ≤ b ∧ b < w'.heap.size := fun b e => by have := World.ownsRow.lt g1 b e; exact this
  refine h v' w' ⟨cells ++ news.toList, fs ++ [bs], by simpa using g1, fun g e => (hvl g e).2, by simp [r3], fun i hi' => ?_, fun b hm' => ?_, ?_, Nat.le_refl _⟩ ((hb.alloc _).grown g2 (fun k e => by have := (World.ownsRow.lt r1 k e).1; omega)) hne (fun g hg hn => ⟨hold g hg hn, fun e => by rcases hown g e with e | e; exact hn e; omega⟩)
  · have hcl := r1.1
    rw [List.length_append, List.length_singleton] at hi'
    rcases Nat.lt_succ_iff_lt_or_eq.1 hi' with hi' | rfl
    · rw [pix_append_left hi', pix_append_left (by rw [r3]; exact hi')]
      refine hk _ _ _ _ _ _ _ _ (r4 i hi') (fun j hj => ?_) (by omega) fun b hb' => ?_
      · have : i * size + j < cells.length := by
          rw [hcl]
          have : (i + 1) * size ≤ l.length * size := Nat.mul_le_mul_right _ hi'
          rw [Nat.succ_mul] at this
          omega
        simp [List.getElem?_append_left this]
      · have := r5 b (mem_flatten_pix hb')
        exact hold b (by omega) this.2.2
    · rw [pix_append_last, pixs_last r3]
      refine hk _ _ _ _ _ _ _ _ hel (fun j hj => ?_) (by omega) fun b hb' => ?_
      · have : (cells ++ news.toList)[l.length * size + j]? = news.toList[j]? := by
          rw [List.getElem?_append_right (by rw [hcl]; omega), hcl]
          congr 1; omega
        simpa using this
      · have := hbs b hb'
        exact hold b this.2 fun e => by have := r2 b e; omega
  · rw [List.flatten_append, List.mem_append] at hm'
    rcases hm' with hm' | hm'
    · have := r5 b hm'
      refine ⟨this.1, by omega, fun e => ?_⟩
      rcases hown b e with e | e
      · exact this.2.2 e
      · omega
    · have := hbs b (by simpa using hm')
      refine ⟨by omega, by omega, fun e => ?_⟩
      rcases hown b e with e | e
      · have := r2 b e; omega
      · omega
  · rw [List.flatten_append]
    refine hN.2 _ _ r6 (by simpa using hNb) fun x hx' y hy e => ?_
    have a1 := r5 x hx'
    have a2 := hbs y (by simpa using hy)
    omega
theorem step_append_ratX {W : World} {s : Bool} {A : Option Addr} {n c : Nat} {B : Option Addr} {m d : Nat} {p : RatD} {lo hi b0 : Nat} {l : List RatD} {ops : Array Oper} {o : Oper} {a : Act} {K : Act → World → Prop} {Q : Exit → Act → World → Prop} {F : Prop} (hgd : o.guard = none) (s1 x1 : Operand)
    (ho : o.op = .call { callee := .builtin .append, args := #[s1, x1], argTypes := #[33, 33] }) (v : Value) (hs : a.eval s1 = v) (hrow : RowR List.Nodup lo hi W v l)
    (hpt : OwR 3 b0 W s A n c B m d p) (hb0 : hi ≤ b0) (hlh : lo ≤ hi) (c1 : Nat) (hx : a.eval x1 = .slice (some ⟨W.heap.size, 0, none⟩) 1 c1) (hlen : l.length ≤ 1048576) (w0 : World) (hb : Bl w0 W) (h0 : w0.heap.size ≤ lo)
    (h : ∀ v' w', RowR List.Nodup lo w'.heap.size w' v' (l ++ [p]) → Bl w0 w' → (∀ g, g < W.heap.size → v.ownBlock ≠ some g → w'.heap[g]? = W.heap[g]? ∧ v'.ownBlock ≠ some g) → K (a.put o.dst v') w') : if Region.wanted o (yielded ops a.tmps) = true then Oper.wp Tryz.prog o a (W.alloc (.cells #[.bool s, .slice A n c, .slice B m d] 29)) K Q else F := by
  obtain ⟨bs, f1, f2⟩ := hpt
  exact step_append_rowX appN_nodup (rtIn_keep 3) info_rat (by rfl) (by omega) (by omega) Tryz.underlying33 hgd s1 x1 ho v hs hrow (p := p) (bs := bs) ⟨_, _, _, _, _, _, _, ⟨rfl, rfl, rfl⟩, f1⟩ rfl (by simp [Value.oneCell']) (fun b hm => ⟨Nat.le_trans hb0 (f2.2 b hm).1, (f2.2 b hm).2⟩) f2.1 hlh c1 hx hlen w0 hb h0 fun v' w' g1 g2 _ g4 => h v' w' g1 g2 g4
theorem step_append_ptX {N : List Nat → Prop} (hN : AppN N) {W : World} {s : Bool} {A : Option Addr} {n c : Nat} {B : Option Addr} {m d : Nat} {t : Bool} {C : Option Addr} {i e : Nat} {D : Option Addr} {j f : Nat} {p : PtD} {lo hi b0 : Nat} {l : List PtD} {ops : Array Oper} {o : Oper} {a : Act} {K : Act → World → Prop} {Q : Exit → Act → World → Prop} {F : Prop} (hgd : o.guard = none) (s1 x1 : Operand)
    (ho : o.op = .call { callee := .builtin .append, args := #[s1, x1], argTypes := #[23, 23] }) (v : Value) (hs : a.eval s1 = v) (hrow : RowP N lo hi W v l)
    (hpt : OwPN N 3 b0 W s A n c B m d t C i e D j f p) (hb0 : hi ≤ b0) (hlh : lo ≤ hi) (c1 : Nat) (hx : a.eval x1 = .slice (some ⟨W.heap.size, 0, none⟩) 1 c1) (hlen : l.length ≤ 1048576) (w0 : World) (hb : Bl w0 W) (h0 : w0.heap.size ≤ lo)
    (h : ∀ v' w', RowP N lo w'.heap.size w' v' (l ++ [p]) → Bl w0 w' → (∀ g, g < W.heap.size → v.ownBlock ≠ some g → w'.heap[g]? = W.heap[g]? ∧ v'.ownBlock ≠ some g) → K (a.put o.dst v') w') : if Region.wanted o (yielded ops a.tmps) = true then Oper.wp Tryz.prog o a (W.alloc (.cells #[.bool s, .slice A n c, .slice B m d, .bool t, .slice C i e, .slice D j f] 31)) K Q else F := by
  obtain ⟨b1, b2, f1, f2, f3, f4⟩ := hpt
  refine step_append_rowX hN (ptIn_keep 3) info_pt (by rfl) (by omega) (by omega) Tryz.underlying23 hgd s1 x1 ho v hs hrow (p := p) (bs := b1 ++ b2) ⟨_, _, _, _, _, _, _, _, _, _, _, _, _, _, b1, b2, ⟨rfl, rfl, rfl, rfl, rfl, rfl⟩, f1, f2, rfl⟩ rfl (by simp [Value.oneCell']) (fun b hm => ⟨Nat.le_trans hb0 (f3 b hm).1, (f3 b hm).2⟩) f4 hlh c1 hx hlen w0 hb h0 fun v' w' g1 g2 _ g4 => h v' w' g1 g2 g4

def TrsE (_ : World) (cs : Array Value) (i : Nat) (t : TriD) (bs : List Nat) : Prop := TrIn cs i t ∧ bs = []
theorem trIn_keep : KeepE 5 TrsE := by
  intro w W cs cs' i i' x bs h hc hs hb
  obtain ⟨⟨h0, h1, h2, h3, h4⟩, e⟩ := h
  exact ⟨⟨(hc 0 (by omega)).trans h0, (hc 1 (by omega)).trans h1, (hc 2 (by omega)).trans h2, (hc 3 (by omega)).trans h3, (hc 4 (by omega)).trans h4⟩, e⟩
abbrev RowT (lo hi : Nat) (w : World) (v : Value) (l : List TriD) : Prop := RowG AnyN 73 5 TrsE lo hi w v l
theorem info_tri' : (Tryz.prog.info? 73).map (fun i => (i.zero, i.size, i.bytes)) = some (some (.agg #[.int .i64 0, .int .i64 0, .int .i64 0, .int .i64 0, .int .i64 0]), 5, 40) := by kernel_rfl
/-- A row's block differs from all blocks from hi on. -/
theorem RowG.ne {α : Type} [Inhabited α] {N : List Nat → Prop} {TP : TypeId} {size lo hi : Nat} {El : World → Array Value → Nat → α → List Nat → Prop} {w : World} {v : Value} {l : List α} (h : RowG N TP size El lo hi w v l) {g : Nat} (hg : hi ≤ g) : v.ownBlock ≠ Option.some g := by
  obtain ⟨_, _, _, h2, _⟩ := h
  intro e
  have := h2 g e
  omega
theorem Blk.oth {g : Nat} {T : TypeId} {cs : Array Value} {v v' : Value} {W w' : World} (h : Blk W g T cs) (ho : ∀ g, g < W.heap.size → v.ownBlock ≠ Option.some g → w'.heap[g]? = W.heap[g]? ∧ v'.ownBlock ≠ Option.some g) (hv : v.ownBlock ≠ Option.some g) : Blk w' g T cs :=
  (ho g h.lt hv).1.trans h
end

end Go.Proofs.YtajlahjghapbkaaGreat
