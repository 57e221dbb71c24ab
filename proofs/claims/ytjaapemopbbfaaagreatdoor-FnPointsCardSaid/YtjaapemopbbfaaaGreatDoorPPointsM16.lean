/- Lemmas. -/
import Derived.Test.YtjaapemopbbfaaaGreatDoorRows
import Derived.Test.YtjaapemopbbfaaaGreatDoorPPointsM15
import Derived.Test.YtjaapemopbbfaaaGreatDoorPPointsM11
import Derived.Test.YtjaapemopbbfaaaGreatDoorPPointsM03
import Derived.Test.YtjaapemopbbfaaaGreatDoorPPointsM12
import Derived.Lib.AppendZerosOnto
import Derived.Lib.Overlaps
import Derived.Laws.CopyRow
import Derived.Laws.NewBlocks
import Derived.Laws.Externs
import Derived.Laws.CopyOwn
import Derived.Shelf.RegionOpenPlain
namespace Go.Proofs.YtjaapemopbbfaaaGreatDoor
section
open Go.RowKit

/-- What is kept where the cells and the blocks of the footprint are the same. -/
def KeepE {α : Type} (size : Nat) (El : World → Array Value → Nat → α → List Nat → Prop) : Prop :=
  ∀ (w W : World) (cs cs' : Array Value) (i i' : Nat) (x : α) (bs : List Nat), El w cs i x bs → (∀ j, j < size → cs'[i' + j]? = cs[i + j]?) → w.heap.size ≤ W.heap.size → (∀ b ∈ bs, W.heap[b]? = w.heap[b]?) → El W cs' i' x bs
/-- A property of footprints that holds of two that have no block in common, if it holds of each. -/
def AppN (N : List Nat → Prop) : Prop := N [] ∧ ∀ a b, N a → N b → (∀ x ∈ a, ∀ y ∈ b, x ≠ y) → N (a ++ b)
def AnyN (_ : List Nat) : Prop := True
theorem appN_any : AppN AnyN := ⟨trivial, fun _ _ _ _ _ => trivial⟩
/-- The slice value v is the call's own; its elements read as l; all its blocks lie from lo to hi; N holds of the elements' blocks. -/
def RowG {α : Type} [Inhabited α] (N : List Nat → Prop) (TP : TypeId) (size : Nat) (El : World → Array Value → Nat → α → List Nat → Prop) (lo hi : Nat) (w : World) (v : Value) (l : List α) : Prop :=
  ∃ cells fs, w.ownsRow lo TP size v l.length cells ∧ (∀ g, v.ownBlock = some g → g < hi) ∧ fs.length = l.length ∧ (∀ i, i < l.length → El w cells.toArray (i * size) (pix l i) (pix fs i)) ∧
    (∀ b ∈ fs.flatten, lo ≤ b ∧ b < hi ∧ v.ownBlock ≠ some b) ∧ N fs.flatten ∧ hi ≤ w.heap.size
section
variable {α : Type} [Inhabited α] {N : List Nat → Prop} {TP : TypeId} {size lo hi : Nat} {El : World → Array Value → Nat → α → List Nat → Prop} {w W : World} {v : Value} {l : List α}
theorem RowG.nil (hN : AppN N) (w : World) (h2 : hi ≤ w.heap.size) : RowG N TP size El lo hi w (.slice none 0 0) ([] : List α) :=
  ⟨[], [], World.ownsRow_nil _ _ _ _, (fun g h => by cases h), rfl, (fun i hi => by simp at hi), (fun b hb => by simp at hb), hN.1, h2⟩
theorem RowG.empty (hN : AppN N) (w : World) (h1 : lo ≤ w.heap.size) : RowG N TP size El lo (w.heap.size + 1) (w.alloc (.cells #[] TP)) (.slice (some ⟨w.heap.size, 0, none⟩) 0 0) ([] : List α) :=
  ⟨[], [], World.ownsRow_made w #[] 0 h1 (Nat.zero_le _) (by simp), (fun g h => by injection h with h; simp only at h; omega), rfl, (fun i hi => by simp at hi), (fun b hb => by simp at hb), hN.1, by simp⟩
theorem RowG.keep (hk : KeepE size El) (h : RowG N TP size El lo hi w v l) (hs : w.heap.size ≤ W.heap.size) (hb : ∀ b, lo ≤ b → b < hi → W.heap[b]? = w.heap[b]?) : RowG N TP size El lo hi W v l := by
  obtain ⟨cells, fs, h1, h2, h3, h4, h5, h6, h7⟩ := h
  refine ⟨cells, fs, ⟨h1.1, ?_⟩, h2, h3, fun i hi => hk _ _ _ _ _ _ _ _ (h4 i hi) (fun _ _ => rfl) hs fun b hm => ?_, h5, h6, Nat.le_trans h7 hs⟩
  · rcases h1.2 with h | ⟨g, cap, cur, rfl, hg, hh, r⟩
    · exact .inl h
    · exact .inr ⟨g, cap, cur, rfl, hg, (hb g hg (h2 g rfl)).trans hh, r⟩
  · have := h5 b (mem_flatten_pix hm)
    exact hb b this.1 this.2.1
theorem RowG.bl (hk : KeepE size El) (h : RowG N TP size El lo hi w v l) (hb : Bl w W) : RowG N TP size El lo hi W v l :=
  h.keep hk hb.size fun b _ h2 => Below.block hb b (Nat.lt_of_lt_of_le h2 (by obtain ⟨_, _, _, _, _, _, _, _, h7⟩ := h; exact h7))
end
theorem ptIn_keep (T : TypeId) : KeepE 6 (PtIn T) := by
  intro w W cs cs' i i' x bs h hc hs hb
  obtain ⟨s, A, n, c, B, m, d, t, C, j, e, D, k, f, b1, b2, ⟨h0, h1, h2, h3, h4, h5⟩, hx, hy, rfl⟩ := h
  refine ⟨s, A, n, c, B, m, d, t, C, j, e, D, k, f, b1, b2, ⟨?_, ?_, ?_, ?_, ?_, ?_⟩, hx.keep hs fun b hm => hb b (by simp [hm]), hy.keep hs fun b hm => hb b (by simp [hm]), rfl⟩
  · rw [← h0]; exact hc 0 (by omega)
  · rw [← h1]; exact hc 1 (by omega)
  · rw [← h2]; exact hc 2 (by omega)
  · rw [← h3]; exact hc 3 (by omega)
  · rw [← h4]; exact hc 4 (by omega)
  · rw [← h5]; exact hc 5 (by omega)
/-- A row of points. -/
abbrev RowP (N : List Nat → Prop) (lo hi : Nat) (w : World) (v : Value) (l : List PtD) : Prop := RowG N 28 6 (PtIn 3) lo hi w v l
section
variable {N : List Nat → Prop} {lo hi : Nat} {w W : World} {v : Value} {l : List PtD}
theorem RowP.out (h : RowP N lo hi w v l) : (v = .slice none 0 0 ∧ l = []) ∨ ∃ g c cs fs, v = .slice (some ⟨g, 0, none⟩) l.length c ∧ l.length ≤ c ∧ Blk w g 28 cs ∧ l.length * 6 ≤ cs.size ∧ PtsIn 3 w cs l l.length fs ∧ (∀ b ∈ g :: fs.flatten, lo ≤ b ∧ b < hi) ∧ g ∉ fs.flatten ∧ N fs.flatten := by
  obtain ⟨cells, fs, r1, r2, r3, r4, r5, r6, r7⟩ := h
  rcases r1.2 with ⟨rfl, h0⟩ | ⟨g, cap, cur, rfl, hg, hh, hn, hcap, hcs, ht⟩
  · exact .inl ⟨rfl, List.length_eq_zero_iff.1 h0⟩
  · have hlen : l.length * 6 ≤ cur.size := by rw [hcs]; exact Nat.mul_le_mul_right _ hn
    refine .inr ⟨g, cap, cur, fs, rfl, hn, hh, hlen, ⟨r3, fun i hi => ?_⟩, fun b hb => ?_, fun hm => (r5 g hm).2.2 rfl, r6⟩
    · refine ptIn_keep _ _ _ _ _ _ _ _ _ (r4 i hi) (fun j hj => ?_) (Nat.le_refl _) fun _ _ => rfl
      rw [← ht]
      have : i * 6 + j < l.length * 6 := by omega
      simp [this]
    · rcases List.mem_cons.1 hb with rfl | hb
      · exact ⟨hg, r2 _ rfl⟩
      · exact ⟨(r5 b hb).1, (r5 b hb).2.1⟩
theorem RowP.rd (h : RowP N lo hi w v l) (hl : l.length ≤ 1048576) : ∃ A c, v = .slice A l.length c ∧ RdPS w A l.length c l := by
  rcases RowP.out h with ⟨rfl, rfl⟩ | ⟨g, c, cs, fs, rfl, h1, h2, h3, h4, _⟩
  · exact ⟨none, 0, rfl, RdS.nil _ _ _⟩
  · exact ⟨_, c, rfl, h4.rd h2 rfl (by omega) h1⟩
theorem RowP.own (h : RowP List.Nodup lo hi w v l) (hl : l.length ≤ 1048576) : ∃ A c, v = .slice A l.length c ∧ OwPZ 3 28 lo hi w A l.length c l := by
  rcases RowP.out h with ⟨rfl, rfl⟩ | ⟨g, c, cs, fs, rfl, h1, h2, h3, h4, h5, h6, h7⟩
  · exact ⟨none, 0, rfl, rfl, Nat.le_refl _, Nat.zero_le _, .inl rfl⟩
  · exact ⟨_, c, rfl, rfl, h1, hl, .inr ⟨g, cs, fs, rfl, h2, h3, h4, List.nodup_cons.2 ⟨h6, h7⟩, h5⟩⟩
end
/-- A point by value, in memory of its own. -/
def OwPN (N : List Nat → Prop) (T : TypeId) (b0 : Nat) (w : World) (s : Bool) (A : Option Addr) (n c : Nat) (B : Option Addr) (m d : Nat) (t : Bool) (C : Option Addr) (i e : Nat) (D : Option Addr) (j f : Nat) (p : PtD) : Prop :=
  ∃ b1 b2, FtR T w s A n c B m d p.x b1 ∧ FtR T w t C i e D j f p.y b2 ∧ (∀ b ∈ b1 ++ b2, b0 ≤ b ∧ b < w.heap.size) ∧ N (b1 ++ b2)
theorem OwPN.of {T : TypeId} {b0 : Nat} {w : World} {s : Bool} {A : Option Addr} {n c : Nat} {B : Option Addr} {m d : Nat} {t : Bool} {C : Option Addr} {i e : Nat} {D : Option Addr} {j f : Nat} {p : PtD} (h : OwP T b0 w s A n c B m d t C i e D j f p) : OwPN List.Nodup T b0 w s A n c B m d t C i e D j f p := by
  obtain ⟨b1, b2, h1, h2, hf⟩ := h
  exact ⟨b1, b2, h1, h2, hf.2, hf.1⟩
theorem OwPN.q {T : TypeId} {b0 : Nat} {w : World} {s : Bool} {A : Option Addr} {n c : Nat} {B : Option Addr} {m d : Nat} {t : Bool} {C : Option Addr} {i e : Nat} {D : Option Addr} {j f : Nat} {p : PtD} (h : OwP T b0 w s A n c B m d t C i e D j f p) : OwPN AnyN T b0 w s A n c B m d t C i e D j f p := by
  obtain ⟨b1, b2, h1, h2, hf⟩ := h
  exact ⟨b1, b2, h1, h2, hf.2, trivial⟩
end

section
open Go.RowKit
end

section
open Go.RowKit

theorem RtIn.lt {T : TypeId} {w : World} {cs : Array Value} {i : Nat} {r : RatD} {bs : List Nat} (h : RtIn T w cs i r bs) : ∀ b ∈ bs, b < w.heap.size := by
  obtain ⟨s, A, n, c, B, m, d, _, h⟩ := h
  exact h.lt

/-- A list of fractions in memory of one's own, its limbs behind its cells. -/
def OwRX (TI TR : TypeId) (b0 : Nat) (w : World) (A : Option Addr) (n c : Nat) (l : List RatD) : Prop :=
  ∃ g cs fs, A = some ⟨g, 0, none⟩ ∧ b0 ≤ g ∧ l.length = n ∧ n ≤ c ∧ n ≤ 1048576 ∧ Blk w g TR cs ∧ cs.size = n * 3 ∧ RtsIn TI w cs l n fs ∧ Fp (g + 1) w.heap.size fs.flatten
theorem OwRX.rd {TI TR : TypeId} {b0 : Nat} {w : World} {A : Option Addr} {n c : Nat} {l : List RatD} (h : OwRX TI TR b0 w A n c l) : RdRS w A n c l := by
  obtain ⟨g, cs, fs, rfl, h1, h2, h3, h4, h5, h6, h7, h8⟩ := h
  exact h7.rd h5 h2 (by omega) h3
theorem OwRX.bl {TI TR : TypeId} {b0 : Nat} {w W : World} {A : Option Addr} {n c : Nat} {l : List RatD} (h : OwRX TI TR b0 w A n c l) (hb : Bl w W) : OwRX TI TR b0 W A n c l := by
  obtain ⟨g, cs, fs, rfl, h1, h2, h3, h4, h5, h6, h7, h8⟩ := h
  exact ⟨g, cs, fs, rfl, h1, h2, h3, h4, h5.bl hb, h6, h7.bl hb (fun b hm => (h8.2 b hm).2), h8.mono (Nat.le_refl _) hb.size⟩
theorem OwRX.ob {TI TR : TypeId} {b0 : Nat} {w W : World} {A : Option Addr} {n c : Nat} {l : List RatD} {bs : List Nat} (h : OwRX TI TR b0 w A n c l) (ho : Ob bs w W) (hd : ∀ b ∈ bs, b < b0) : OwRX TI TR b0 W A n c l := by
  obtain ⟨g, cs, fs, rfl, h1, h2, h3, h4, h5, h6, h7, h8⟩ := h
  refine ⟨g, cs, fs, rfl, h1, h2, h3, h4, h5.ob ho (fun hm => by have := hd g hm; omega), h6, ⟨h7.1, fun i hi => (h7.2 i hi).keep (fun _ _ => rfl) ho.size fun b hb => ?_⟩, h8.mono (Nat.le_refl _) ho.size⟩
  have hm := h8.2 b (mem_flatten_pix hb)
  exact ho.block b hm.2 fun hx => by have := hd b hx; omega
end

section
open Go.RowKit

/-- A list of fractions with its footprint. -/
def FtRS (TI TR : TypeId) (w : World) (A : Option Addr) (n c : Nat) (l : List RatD) (bs : List Nat) : Prop :=
  l.length = n ∧ n ≤ c ∧ n ≤ 1048576 ∧ ((n = 0 ∧ bs = []) ∨ ∃ g cs fs, A = some ⟨g, 0, none⟩ ∧ Blk w g TR cs ∧ n * 3 ≤ cs.size ∧ RtsIn TI w cs l n fs ∧ bs = g :: fs.flatten)
/-- One cell that holds a list of fractions. -/
def RsAt (w : World) (p : Addr) (l : List RatD) : Prop := ∃ A n c, w.cell? p = some (.slice A n c) ∧ RdRS w A n c l
theorem RsAt.bl {w W : World} {p : Addr} {l : List RatD} (h : RsAt w p l) (hp : p.block < w.heap.size) (hb : Bl w W) : RsAt W p l := by
  obtain ⟨A, n, c, h0, h1⟩ := h
  exact ⟨A, n, c, by rw [hb.cellOf hp]; exact h0, h1.bl hb⟩
abbrev RdRSS := RdS 1 RsAt
theorem RdRSS.bl {w W : World} {A : Option Addr} {n c : Nat} {l : List (List RatD)} (h : RdRSS w A n c l) (hb : Bl w W) : RdRSS W A n c l := RdS.bl (fun h hp hb => h.bl hp hb) h hb
/-- The cell i of a block holds a list of fractions. -/
def RsIn (TI TR : TypeId) (w : World) (cs : Array Value) (i : Nat) (l : List RatD) (bs : List Nat) : Prop :=
  ∃ A n c, cs[i]? = some (.slice A n c) ∧ FtRS TI TR w A n c l bs
theorem flat_pix {fs : List (List Nat)} {b : Nat} (h : b ∈ fs.flatten) : ∃ k, k < fs.length ∧ b ∈ pix fs k := by
  obtain ⟨l, hl, hb⟩ := List.mem_flatten.1 h
  obtain ⟨k, hk, rfl⟩ := List.getElem_of_mem hl
  exact ⟨k, hk, by simpa [pix, hk] using hb⟩
section
variable {TI TR TS : TypeId} {w W : World} {A : Option Addr} {n c i lo hi lo' hi' : Nat} {cs cs' : Array Value} {l : List RatD} {L : List (List RatD)} {bs xs : List Nat}
theorem FtRS.rd (h : FtRS TI TR w A n c l bs) : RdRS w A n c l := by
  obtain ⟨h1, h2, h3, h4⟩ := h
  rcases h4 with ⟨h4, _⟩ | ⟨g, cs, fs, rfl, hB, hc, hP, _⟩
  · subst h4
    obtain rfl := List.length_eq_zero_iff.1 h1
    exact RdS.nil _ _ _
  · exact hP.rd hB h1 (by omega) h2
theorem FtRS.lt (h : FtRS TI TR w A n c l bs) : ∀ b ∈ bs, b < w.heap.size := by
  obtain ⟨h1, h2, h3, h4⟩ := h
  rcases h4 with ⟨_, rfl⟩ | ⟨g, cs, fs, rfl, hB, hc, hP, rfl⟩
  · intro b hb; cases hb
  · intro b hb
    rcases List.mem_cons.1 hb with rfl | hb
    · exact hB.lt
    · obtain ⟨k, hk, hm⟩ := flat_pix hb
      exact (hP.2 k (by rw [← hP.1]; exact hk)).lt b hm
theorem FtRS.keep (h : FtRS TI TR w A n c l bs) (hs : w.heap.size ≤ W.heap.size) (hk : ∀ b ∈ bs, W.heap[b]? = w.heap[b]?) : FtRS TI TR W A n c l bs := by
  obtain ⟨h1, h2, h3, h4⟩ := h
  refine ⟨h1, h2, h3, ?_⟩
  rcases h4 with h4 | ⟨g, cs, fs, rfl, hB, hc, hP, rfl⟩
  · exact .inl h4
  · exact .inr ⟨g, cs, fs, rfl, (hk g (by simp)).trans hB, hc, ⟨hP.1, fun i hi => (hP.2 i hi).keep (fun _ _ => rfl) hs fun b hb => hk b (List.mem_cons_of_mem _ (mem_flatten_pix hb))⟩, rfl⟩
theorem RsIn.lt (h : RsIn TI TR w cs i l bs) : ∀ b ∈ bs, b < w.heap.size := by
  obtain ⟨A, n, c, _, h⟩ := h
  exact h.lt
theorem RsIn.keep (h : RsIn TI TR w cs i l bs) (hc : cs'[i]? = cs[i]?) (hs : w.heap.size ≤ W.heap.size) (hk : ∀ b ∈ bs, W.heap[b]? = w.heap[b]?) : RsIn TI TR W cs' i l bs := by
  obtain ⟨A, n, c, h0, h⟩ := h
  exact ⟨A, n, c, hc.trans h0, h.keep hs hk⟩
/-- A list of lists of fractions in the blocks from lo to hi. -/
def OwSZ (TI TR TS : TypeId) (lo hi : Nat) (w : World) (A : Option Addr) (n c : Nat) (L : List (List RatD)) : Prop :=
  L.length = n ∧ n ≤ c ∧ n ≤ 1048576 ∧ (n = 0 ∨ ∃ g cs fs, A = some ⟨g, 0, none⟩ ∧ Blk w g TS cs ∧ n ≤ cs.size ∧ fs.length = n ∧ (∀ i, i < n → RsIn TI TR w cs i (pix L i) (pix fs i)) ∧ Fp lo hi (g :: fs.flatten))
theorem rss_rd {g : Nat} {fs : List (List Nat)} (hB : Blk w g TS cs) (hl : L.length = n) (hn : n ≤ c) (h3 : n ≤ 1048576) (hP : ∀ i, i < n → RsIn TI TR w cs i (pix L i) (pix fs i)) : RdRSS w (some ⟨g, 0, none⟩) n c L := by
  refine ⟨hl, hn, by omega, fun k hk => ⟨_, rfl, hB.lt, ?_⟩⟩
  obtain ⟨A, n', c', h0, h1⟩ := hP k hk
  refine ⟨A, n', c', ?_, h1.rd⟩
  rw [Nat.mul_one, Addr.add_lit, Nat.zero_add]
  exact (hB.cell k).trans h0
theorem OwSZ.rd (h : OwSZ TI TR TS lo hi w A n c L) : RdRSS w A n c L := by
  obtain ⟨h1, h2, h3, h4⟩ := h
  rcases h4 with h4 | ⟨g, cs, fs, rfl, hB, hc, hf, hP, hF⟩
  · subst h4
    obtain rfl := List.length_eq_zero_iff.1 h1
    exact RdS.nil _ _ _
  · exact rss_rd hB h1 h2 h3 hP
theorem OwSZ.keep (h : OwSZ TI TR TS lo hi w A n c L) (hs : w.heap.size ≤ W.heap.size) (hk : ∀ b, lo ≤ b → b < hi → b < w.heap.size → W.heap[b]? = w.heap[b]?) : OwSZ TI TR TS lo hi W A n c L := by
  obtain ⟨h1, h2, h3, h4⟩ := h
  refine ⟨h1, h2, h3, ?_⟩
  rcases h4 with h4 | ⟨g, cs, fs, rfl, hB, hc, hf, hP, hF⟩
  · exact .inl h4
  · have hg := hF.2 g (by simp)
    refine .inr ⟨g, cs, fs, rfl, (hk g hg.1 hg.2 hB.lt).trans hB, hc, hf, fun i hi => (hP i hi).keep rfl hs fun b hb => ?_, hF⟩
    have hm := hF.2 b (List.mem_cons_of_mem _ (mem_flatten_pix hb))
    exact hk b hm.1 hm.2 ((hP i hi).lt b hb)
theorem OwSZ.bl (h : OwSZ TI TR TS lo hi w A n c L) (hb : Bl w W) : OwSZ TI TR TS lo hi W A n c L := h.keep hb.size fun b _ _ hl => Below.block hb b hl
theorem OwSZ.ob (h : OwSZ TI TR TS lo hi w A n c L) (ho : Ob bs w W) (hd : ∀ b ∈ bs, b < lo ∨ hi ≤ b) : OwSZ TI TR TS lo hi W A n c L :=
  h.keep ho.size fun b h1 h2 hl => ho.block b hl fun hm => by have := hd b hm; omega
theorem OwSZ.low (h : OwSZ TI TR TS lo hi w A n c L) (h1 : lo' ≤ lo) (h2 : hi ≤ hi') : OwSZ TI TR TS lo' hi' w A n c L := by
  obtain ⟨a1, a2, a3, a4⟩ := h
  refine ⟨a1, a2, a3, ?_⟩
  rcases a4 with h4 | ⟨g, cs, fs, rfl, hB, hc, hf, hP, hF⟩
  · exact .inl h4
  · exact .inr ⟨g, cs, fs, rfl, hB, hc, hf, hP, hF.mono h1 h2⟩
end
end

section
open Go.RowKit
abbrev RowS (N : List Nat → Prop) (lo hi : Nat) (w : World) (v : Value) (l : List (List RatD)) : Prop := RowG N 102 1 (RsIn 3 26) lo hi w v l
section
variable {N : List Nat → Prop} {lo hi : Nat} {w W : World} {v : Value} {l : List RatD} {L : List (List RatD)}
theorem RowS.own (h : RowS List.Nodup lo hi w v L) (hl : L.length ≤ 1048576) : ∃ A c, v = .slice A L.length c ∧ OwSZ 3 26 102 lo hi w A L.length c L := by
  obtain ⟨cells, fs, r1, r2, r3, r4, r5, r6, r7⟩ := h
  rcases r1.2 with ⟨rfl, h0⟩ | ⟨g, cap, cur, rfl, hg, hh, hn, hcap, hcs, ht⟩
  · exact ⟨none, 0, by rw [h0], rfl, by rw [h0]; exact Nat.le_refl _, hl, .inl h0⟩
  · have hlen : L.length ≤ cur.size := by rw [hcs]; omega
    have hgm : g ∉ fs.flatten := fun hm => (r5 g hm).2.2 rfl
    refine ⟨_, cap, rfl, rfl, hn, hl, .inr ⟨g, cur, fs, rfl, hh, hlen, r3, fun i hi => ?_, List.nodup_cons.2 ⟨hgm, r6⟩, fun b hb => ?_⟩⟩
    · have h1 := r4 i hi
      rw [Nat.mul_one] at h1
      refine h1.keep ?_ (Nat.le_refl _) fun _ _ => rfl
      rw [← ht]
      simp [hi]
    · rcases List.mem_cons.1 hb with rfl | hb
      · exact ⟨hg, r2 _ rfl⟩
      · exact ⟨(r5 b hb).1, (r5 b hb).2.1⟩
end
end

section
open Go.RowKit
def TrsE (_ : World) (cs : Array Value) (i : Nat) (t : TriD) (bs : List Nat) : Prop := TrIn cs i t ∧ bs = []
theorem trIn_keep : KeepE 5 TrsE := by
  intro w W cs cs' i i' x bs h hc hs hb
  obtain ⟨⟨h0, h1, h2, h3, h4⟩, e⟩ := h
  exact ⟨⟨(hc 0 (by omega)).trans h0, (hc 1 (by omega)).trans h1, (hc 2 (by omega)).trans h2, (hc 3 (by omega)).trans h3, (hc 4 (by omega)).trans h4⟩, e⟩
abbrev RowT (lo hi : Nat) (w : World) (v : Value) (l : List TriD) : Prop := RowG AnyN 83 5 TrsE lo hi w v l
end

section
open Go.RowKit

/-- The fraction that stands for a rational number. -/
def toR (q : Rat) : RatD := raw q.num q.den
/-- It is not too large. -/
def Fit (q : Rat) : Prop := q.num.natAbs < Bs ^ 24 ∧ q.den < Bs ^ 24
theorem Fit.ok {q : Rat} (h : Fit q) : OkR (toR q) := ⟨q.num, q.den, rfl, q.den_pos, q.reduced, dig_len_le.2 h.1, dig_len_le.2 h.2⟩
theorem rn_toR (q : Rat) : rn (toR q) = q.num := rn_raw _ _
theorem rd_toR (q : Rat) : rd (toR q) = q.den := rd_raw _ _
/-- The number of a fraction. -/
def vR (r : RatD) : Rat := mkRat (rn r) (rd r)
theorem OkR.toR {r : RatD} (h : OkR r) : r = toR (vR r) ∧ Fit (vR r) := by
  obtain ⟨h1, h2, h3, h4, h5⟩ := h.get
  have e : vR r = ⟨rn r, rd r, by omega, h3⟩ := (Rat.mk_eq_mkRat (rn r) (rd r) (by omega) h3).symm
  rw [e]
  exact ⟨h1, dig_len_le.1 h4, dig_len_le.1 h5⟩
open Classical in
theorem ofFrac_toR (x : Int) {D : Nat} (hD : 0 < D) : ofFrac x D = if Fit (mkRat x D) then toR (mkRat x D) else zR := by
  have h1 : (mkRat x D).num = x / (Nat.gcd x.natAbs D : Int) := by
    rw [Rat.num_mkRat, if_neg (by omega), Nat.gcd_comm]
  have h2 : (mkRat x D).den = D / Nat.gcd x.natAbs D := by
    rw [Rat.den_mkRat, if_neg (by omega), Nat.gcd_comm]
  have h3 : (mkRat x D).num.natAbs = x.natAbs / Nat.gcd x.natAbs D := by
    rw [h1, natAbs_ediv_gcd _ _ (Nat.gcd_dvd_left _ _)]
  unfold ofFrac Fit toR
  rw [h3, h2, h1]
  by_cases h : x.natAbs / Nat.gcd x.natAbs D < Bs ^ 24 ∧ D / Nat.gcd x.natAbs D < Bs ^ 24
  · rw [if_pos h, if_pos ⟨dig_len_le.2 h.1, dig_len_le.2 h.2⟩]
  · rw [if_neg h, if_neg (fun hk => h ⟨dig_len_le.1 hk.1, dig_len_le.1 hk.2⟩)]
theorem addR_toR {p q : Rat} (hp : Fit p) (hq : Fit q) (h : Fit (p + q)) : addR (toR p) (toR q) = toR (p + q) := by
  unfold addR
  rw [if_pos ⟨hp.ok, hq.ok⟩, rn_toR, rn_toR, rd_toR, rd_toR, ofFrac_toR _ (Nat.mul_pos p.den_pos q.den_pos), ← Rat.add_def', if_pos h]
theorem subR_toR {p q : Rat} (hp : Fit p) (hq : Fit q) (h : Fit (p - q)) : subR (toR p) (toR q) = toR (p - q) := by
  unfold subR
  rw [if_pos ⟨hp.ok, hq.ok⟩, rn_toR, rn_toR, rd_toR, rd_toR, ofFrac_toR _ (Nat.mul_pos p.den_pos q.den_pos), ← Rat.sub_def', if_pos h]
theorem mulR_toR {p q : Rat} (hp : Fit p) (hq : Fit q) (h : Fit (p * q)) : mulR (toR p) (toR q) = toR (p * q) := by
  unfold mulR
  rw [if_pos ⟨hp.ok, hq.ok⟩, rn_toR, rn_toR, rd_toR, rd_toR, ofFrac_toR _ (Nat.mul_pos p.den_pos q.den_pos), ← Rat.mul_def', if_pos h]
theorem sgnR_toR {p : Rat} (hp : Fit p) : sgnR (toR p) = if p < 0 then -1 else if 0 < p then 1 else 0 := by
  unfold sgnR cmpZ
  rw [if_pos hp.ok, rn_toR]
  simp [Rat.lt_iff]
/-- Numerator and denominator are at most N. -/
def Bd (N : Nat) (q : Rat) : Prop := q.num.natAbs ≤ N ∧ q.den ≤ N
theorem Bd.fit {N : Nat} {q : Rat} (h : Bd N q) (hN : N < Bs ^ 24) : Fit q := ⟨Nat.lt_of_le_of_lt h.1 hN, Nat.lt_of_le_of_lt h.2 hN⟩
theorem Bd.mono {M N : Nat} {q : Rat} (h : Bd M q) (hN : M ≤ N) : Bd N q := ⟨Nat.le_trans h.1 hN, Nat.le_trans h.2 hN⟩
theorem bd_mk {x : Int} {D N : Nat} (hD : 0 < D) (hx : x.natAbs ≤ N) (hn : D ≤ N) : Bd N (mkRat x D) := by
  refine ⟨?_, ?_⟩
  · rw [Rat.num_mkRat, if_neg (by omega), Nat.gcd_comm, natAbs_ediv_gcd _ _ (Nat.gcd_dvd_left _ _)]
    exact Nat.le_trans (Nat.div_le_self _ _) hx
  · rw [Rat.den_mkRat, if_neg (by omega)]
    exact Nat.le_trans (Nat.div_le_self _ _) hn
section
variable {M N : Nat} {p q : Rat}
theorem natAbs_mul_le {a b : Int} (ha : a.natAbs ≤ M) (hb : b.natAbs ≤ N) : (a * b).natAbs ≤ M * N := by
  rw [Int.natAbs_mul]; exact Nat.mul_le_mul ha hb
theorem Bd.add (h : Bd M p) (k : Bd N q) : Bd (2 * (M * N)) (p + q) := by
  rw [Rat.add_def']
  refine bd_mk (Nat.mul_pos p.den_pos q.den_pos) ?_ (Nat.le_trans (Nat.mul_le_mul h.2 k.2) (by omega))
  have h1 : (p.num * (q.den : Int)).natAbs ≤ M * N := natAbs_mul_le h.1 k.2
  have h2 : (q.num * (p.den : Int)).natAbs ≤ N * M := natAbs_mul_le k.1 h.2
  rw [Nat.mul_comm N M] at h2
  omega
theorem Bd.sub (h : Bd M p) (k : Bd N q) : Bd (2 * (M * N)) (p - q) := by
  rw [Rat.sub_def']
  refine bd_mk (Nat.mul_pos p.den_pos q.den_pos) ?_ (Nat.le_trans (Nat.mul_le_mul h.2 k.2) (by omega))
  have h1 : (p.num * (q.den : Int)).natAbs ≤ M * N := natAbs_mul_le h.1 k.2
  have h2 : (q.num * (p.den : Int)).natAbs ≤ N * M := natAbs_mul_le k.1 h.2
  rw [Nat.mul_comm N M] at h2
  omega
theorem Bd.mul (h : Bd M p) (k : Bd N q) : Bd (M * N) (p * q) := by
  rw [Rat.mul_def']
  exact bd_mk (Nat.mul_pos p.den_pos q.den_pos) (natAbs_mul_le h.1 k.1) (Nat.mul_le_mul h.2 k.2)
theorem Bd.neg (h : Bd M p) : Bd M (-p) := ⟨by simpa using h.1, by simpa using h.2⟩
end
end

section
open Go.RowKit

instance : Inhabited (Rat × Rat) := ⟨(0, 0)⟩
/-- A fraction of one limb. -/
def SmQ (q : Rat) : Prop := q.num.natAbs < 1000000000 ∧ q.den < 1000000000
instance (q : Rat) : Decidable (SmQ q) := by unfold SmQ; infer_instance
theorem SmQ.mag {q : Rat} (h : SmQ q) : (toR q).mag.length ≤ 1 := by
  show (ints (dig q.num.natAbs)).length ≤ 1
  rw [ints_len]
  exact dig_len_le.2 (by simpa [Bs] using h.1)
theorem SmQ.den {q : Rat} (h : SmQ q) : (toR q).den.length = 1 := by
  show (ints (dig q.den)).length = 1
  rw [ints_len]
  have h1 : (dig q.den).length ≤ 1 := dig_len_le.2 (by simpa [Bs] using h.2)
  have h2 : 0 < (dig q.den).length := dig_len_pos.2 q.den_pos
  omega
theorem SmQ.fit {q : Rat} (h : SmQ q) : Fit q := ⟨Nat.lt_trans h.1 (by decide), Nat.lt_trans h.2 (by decide)⟩
/-- The sign of a turn. -/
def trn (xs ys : List Int) (a b c : Int) : Int :=
  cmpZ ((ix xs b.toNat - ix xs a.toNat) * (ix ys c.toNat - ix ys a.toNat) - (ix ys b.toNat - ix ys a.toNat) * (ix xs c.toNat - ix xs a.toNat)) 0
end

section
open Go.RowKit

structure EdD where
  a : Int
  b : Int
  l : Int
  r : Int
  deriving DecidableEq, Inhabited
theorem pix_zero {α : Type} [Inhabited α] (x : α) (xs : List α) : pix (x :: xs) 0 = x := rfl
theorem pix_succ {α : Type} [Inhabited α] (x : α) (xs : List α) (k : Nat) : pix (x :: xs) (k + 1) = pix xs k := by simp [pix]
def EdAt (w : World) (p : Addr) (e : EdD) : Prop :=
  w.cell? p = some (.int .i64 e.a) ∧ w.cell? ⟨p.block, p.off + 1, none⟩ = some (.int .i64 e.b) ∧ w.cell? ⟨p.block, p.off + 2, none⟩ = some (.int .i64 e.l) ∧ w.cell? ⟨p.block, p.off + 3, none⟩ = some (.int .i64 e.r)
theorem EdAt.bl {w W : World} {p : Addr} {e : EdD} (h : EdAt w p e) (hp : p.block < w.heap.size) (hb : Bl w W) : EdAt W p e := by
  obtain ⟨h0, h1, h2, h3⟩ := h
  refine ⟨?_, ?_, ?_, ?_⟩
  · rw [hb.cellOf hp]; exact h0
  · rw [hb.cellOf (p := ⟨p.block, p.off + 1, none⟩) hp]; exact h1
  · rw [hb.cellOf (p := ⟨p.block, p.off + 2, none⟩) hp]; exact h2
  · rw [hb.cellOf (p := ⟨p.block, p.off + 3, none⟩) hp]; exact h3
abbrev RdES := RdS 4 EdAt
theorem RdES.bl {w W : World} {A : Option Addr} {n c : Nat} {l : List EdD} (h : RdES w A n c l) (hb : Bl w W) : RdES W A n c l := RdS.bl (fun h hp hb => h.bl hp hb) h hb
end

section
open Go.RowKit
end

section
open Go.RowKit
end

section
open Go.RowKit

def encE (e : EdD) : List Value := [.int .i64 e.a, .int .i64 e.b, .int .i64 e.l, .int .i64 e.r]
def OwEd (base : Nat) (w : World) (v : Value) (l : List EdD) : Prop := w.ownsRow base 152 4 v l.length (l.flatMap encE)
end

section
open Go.RowKit

theorem row_cell {w : World} {b : Nat} {cur : Array Value} {T : TypeId} {cs : List Value} {k : Nat} (hg : w.heap[b]? = some (.cells cur T (0, 0))) (ht : cur.toList.take k = cs) {j : Nat} {u : Value} (h : cs[j]? = some u) : w.cell? ⟨b, j, none⟩ = some u := by
  rw [cell_of_row w b j cur T (0, 0) hg]
  rw [← ht, List.getElem?_take] at h
  split at h
  · rw [← Array.getElem?_toList]; exact h
  · cases h
end

section
open Go.RowKit
end

section
open Go.RowKit
end

section
open Go.RowKit

theorem Ob.cellOf {bs : List Nat} {w W : World} (h : Ob bs w W) {b o : Nat} (hb : b < w.heap.size) (hn : b ∉ bs) : W.cell? ⟨b, o, none⟩ = w.cell? ⟨b, o, none⟩ := World.cell?_of_block (w := w) (h.block b hb hn)
end

section
open Go.RowKit
/-- A mesh in the blocks from lo to hi; its slices may have room to spare; or an empty one. -/
def OwMZ (lo hi : Nat) (w : World) (A : Option Addr) (n c : Nat) (B : Option Addr) (m d : Nat) (x : MeD) : Prop :=
  x.points.length = n ∧ x.tris.length = m ∧ n ≤ c ∧ m ≤ d ∧ n ≤ 1048576 ∧ m ≤ 1048576 ∧ ((n = 0 ∧ m = 0) ∨
    ∃ g g' cs cs' fs, A = some ⟨g, 0, none⟩ ∧ B = some ⟨g', 0, none⟩ ∧ Blk w g 28 cs ∧ Blk w g' 83 cs' ∧ n * 6 ≤ cs.size ∧ m * 5 ≤ cs'.size ∧ PtsIn 3 w cs x.points n fs ∧ TrsIn cs' x.tris m ∧ Fp lo hi (g :: g' :: fs.flatten))
section
variable {lo hi : Nat} {w W : World} {A : Option Addr} {n c : Nat} {B : Option Addr} {m d : Nat} {x : MeD}
theorem OwMZ.bl (h : OwMZ lo hi w A n c B m d x) (hb : Bl w W) : OwMZ lo hi W A n c B m d x := by
  obtain ⟨h1, h2, h3, h4, h5, h6, h7⟩ := h
  refine ⟨h1, h2, h3, h4, h5, h6, ?_⟩
  rcases h7 with h7 | ⟨g, g', cs, cs', fs, rfl, rfl, a1, a2, a3, a4, a5, a6, a7⟩
  · exact .inl h7
  · refine .inr ⟨g, g', cs, cs', fs, rfl, rfl, a1.bl hb, a2.bl hb, a3, a4, a5.bl hb fun b hm => ?_, a6, a7⟩
    obtain ⟨l, hl', hb'⟩ := List.mem_flatten.1 hm
    obtain ⟨i, hi, rfl⟩ := List.getElem_of_mem hl'
    exact (a5.2 i (by rw [← a5.1]; exact hi)).lt b (by simpa [pix, hi] using hb')
theorem OwMZ.low {lo' hi' : Nat} (h : OwMZ lo hi w A n c B m d x) (h1 : lo' ≤ lo) (h2 : hi ≤ hi') : OwMZ lo' hi' w A n c B m d x := by
  obtain ⟨b1, b2, b3, b4, b5, b6, h7⟩ := h
  refine ⟨b1, b2, b3, b4, b5, b6, ?_⟩
  rcases h7 with h7 | ⟨g, g', cs, cs', fs, rfl, rfl, a1, a2, a3, a4, a5, a6, a7⟩
  · exact .inl h7
  · exact .inr ⟨g, g', cs, cs', fs, rfl, rfl, a1, a2, a3, a4, a5, a6, a7.mono h1 h2⟩
theorem OwMZ.keep (h : OwMZ lo hi w A n c B m d x) (hs : w.heap.size ≤ W.heap.size) (hk : ∀ b, lo ≤ b → b < hi → b < w.heap.size → W.heap[b]? = w.heap[b]?) : OwMZ lo hi W A n c B m d x := by
  obtain ⟨b1, b2, b3, b4, b5, b6, h7⟩ := h
  refine ⟨b1, b2, b3, b4, b5, b6, ?_⟩
  rcases h7 with h7 | ⟨g, g', cs, cs', fs, rfl, rfl, a1, a2, a3, a4, a5, a6, a7⟩
  · exact .inl h7
  · have hg := a7.2 g (by simp)
    have hg' := a7.2 g' (by simp)
    refine .inr ⟨g, g', cs, cs', fs, rfl, rfl, (hk g hg.1 hg.2 a1.lt).trans a1, (hk g' hg'.1 hg'.2 a2.lt).trans a2, a3, a4, ⟨a5.1, fun i hi => (a5.2 i hi).keep (fun _ _ => rfl) hs fun b hb => ?_⟩, a6, a7⟩
    have hm := a7.2 b (List.mem_cons_of_mem _ (List.mem_cons_of_mem _ (mem_flatten_pix hb)))
    exact hk b hm.1 hm.2 ((a5.2 i hi).lt b hb)
theorem OwMZ.set (h : OwMZ lo hi w A n c B m d x) {q : Addr} (hq : q.block < lo ∨ hi ≤ q.block) (u : Value) : OwMZ lo hi (w.setCell q u) A n c B m d x :=
  h.keep (by simp) fun b h1 h2 _ => Below.heap_setCell w q u b (by omega)
end
end

end Go.Proofs.YtjaapemopbbfaaaGreatDoor
