/- Lemmas. -/
import Derived.Test.YtajlahjghapbkaaGreatRows
import Derived.Test.YtajlahjghapbkaaGreatPAnglesM02
import Derived.Test.YtajlahjghapbkaaGreatPAnglesM08
import Derived.Test.YtajlahjghapbkaaGreatPAnglesM13
import Derived.Test.YtajlahjghapbkaaGreatPAnglesM01
namespace Go.Proofs.YtajlahjghapbkaaGreat
section
open Go.RowKit
/-- A fraction in the blocks from lo to hi. -/
def OwX (T : TypeId) (lo hi : Nat) (w : World) (s : Bool) (A : Option Addr) (n c : Nat) (B : Option Addr) (m d : Nat) (r : RatD) : Prop :=
  ∃ bs, FtR T w s A n c B m d r bs ∧ Fp lo hi bs
section
variable {T : TypeId} {lo hi b0 : Nat} {w W : World} {s : Bool} {A : Option Addr} {n c : Nat} {B : Option Addr} {m d : Nat} {r : RatD} {bs : List Nat}
theorem OwX.of (h : OwR T b0 w s A n c B m d r) : OwX T b0 w.heap.size w s A n c B m d r := h
theorem OwX.rd (h : OwX T lo hi w s A n c B m d r) : RdR w s A n c B m d r := by
  obtain ⟨bs, h, _⟩ := h
  exact h.rd
theorem OwX.bl (h : OwX T lo hi w s A n c B m d r) (hb : Bl w W) : OwX T lo hi W s A n c B m d r := by
  obtain ⟨bs, h, hf⟩ := h
  exact ⟨bs, h.bl hb, hf⟩
theorem OwX.ob (h : OwX T lo hi w s A n c B m d r) (ho : Ob bs w W) (hd : ∀ b ∈ bs, b < lo ∨ hi ≤ b) : OwX T lo hi W s A n c B m d r := by
  obtain ⟨cs, h, hf⟩ := h
  refine ⟨cs, h.keep ho.size fun b hb => ho.block b (h.lt b hb) fun hm => ?_, hf⟩
  have h1 := hf.2 b hb
  have h2 := hd b hm
  omega
end

/-- A list of points in the blocks from lo to hi. -/
def OwPZ (TI TP : TypeId) (lo hi : Nat) (w : World) (A : Option Addr) (n c : Nat) (l : List PtD) : Prop :=
  l.length = n ∧ n ≤ c ∧ n ≤ 1048576 ∧ (n = 0 ∨ ∃ g cs fs, A = some ⟨g, 0, none⟩ ∧ Blk w g TP cs ∧ n * 6 ≤ cs.size ∧ PtsIn TI w cs l n fs ∧ Fp lo hi (g :: fs.flatten))
section
variable {TI TP : TypeId} {lo hi lo' hi' : Nat} {w W : World} {A : Option Addr} {n c : Nat} {l : List PtD} {bs : List Nat}
theorem OwPZ.rd (h : OwPZ TI TP lo hi w A n c l) : RdPS w A n c l := by
  obtain ⟨h1, h2, h3, h4⟩ := h
  rcases h4 with h4 | ⟨g, cs, fs, rfl, hB, hc, hP, hF⟩
  · subst h4
    obtain rfl := List.length_eq_zero_iff.1 h1
    exact RdS.nil _ _ _
  · exact hP.rd hB h1 (by omega) h2
theorem OwPZ.keep (h : OwPZ TI TP lo hi w A n c l) (hs : w.heap.size ≤ W.heap.size) (hk : ∀ b, lo ≤ b → b < hi → b < w.heap.size → W.heap[b]? = w.heap[b]?) : OwPZ TI TP lo hi W A n c l := by
  obtain ⟨h1, h2, h3, h4⟩ := h
  refine ⟨h1, h2, h3, ?_⟩
  rcases h4 with h4 | ⟨g, cs, fs, rfl, hB, hc, hP, hF⟩
  · exact .inl h4
  · have hg := hF.2 g (by simp)
    refine .inr ⟨g, cs, fs, rfl, (hk g hg.1 hg.2 hB.lt).trans hB, hc, ⟨hP.1, fun i hi => (hP.2 i hi).keep (fun _ _ => rfl) hs fun b hb => ?_⟩, hF⟩
    have hm := hF.2 b (List.mem_cons_of_mem _ (mem_flatten_pix hb))
    exact hk b hm.1 hm.2 ((hP.2 i hi).lt b hb)
theorem OwPZ.bl (h : OwPZ TI TP lo hi w A n c l) (hb : Bl w W) : OwPZ TI TP lo hi W A n c l := h.keep hb.size fun b _ _ hl => Below.block hb b hl
theorem OwPZ.ob (h : OwPZ TI TP lo hi w A n c l) (ho : Ob bs w W) (hd : ∀ b ∈ bs, b < lo ∨ hi ≤ b) : OwPZ TI TP lo hi W A n c l :=
  h.keep ho.size fun b h1 h2 hl => ho.block b hl fun hm => by have := hd b hm; omega
theorem OwPZ.low (h : OwPZ TI TP lo hi w A n c l) (h1 : lo' ≤ lo) (h2 : hi ≤ hi') : OwPZ TI TP lo' hi' w A n c l := by
  obtain ⟨a1, a2, a3, a4⟩ := h
  refine ⟨a1, a2, a3, ?_⟩
  rcases a4 with h4 | ⟨g, cs, fs, rfl, hB, hc, hP, hF⟩
  · exact .inl h4
  · exact .inr ⟨g, cs, fs, rfl, hB, hc, hP, hF.mono h1 h2⟩
end
end

section
open Go.RowKit

/-- What is kept where the cells and the blocks of the footprint are the same. -/
def KeepE {α : Type} (size : Nat) (El : World → Array Value → Nat → α → List Nat → Prop) : Prop :=
  ∀ (w W : World) (cs cs' : Array Value) (i i' : Nat) (x : α) (bs : List Nat), El w cs i x bs → (∀ j, j < size → cs'[i' + j]? = cs[i + j]?) → w.heap.size ≤ W.heap.size → (∀ b ∈ bs, W.heap[b]? = w.heap[b]?) → El W cs' i' x bs
/-- A property of footprints that holds of two that have no block in common, if it holds of each. -/
def AppN (N : List Nat → Prop) : Prop := N [] ∧ ∀ a b, N a → N b → (∀ x ∈ a, ∀ y ∈ b, x ≠ y) → N (a ++ b)
theorem appN_nodup : AppN List.Nodup := ⟨List.nodup_nil, fun _ _ h k d => List.nodup_append.2 ⟨h, k, d⟩⟩
def AnyN (_ : List Nat) : Prop := True
theorem appN_any : AppN AnyN := ⟨trivial, fun _ _ _ _ _ => trivial⟩
/-- The slice value v is the call's own; its elements read as l; all its blocks lie from lo to hi; N holds of the elements' blocks. -/
def RowG {α : Type} [Inhabited α] (N : List Nat → Prop) (TP : TypeId) (size : Nat) (El : World → Array Value → Nat → α → List Nat → Prop) (lo hi : Nat) (w : World) (v : Value) (l : List α) : Prop :=
  ∃ cells fs, w.ownsRow lo TP size v l.length cells ∧ (∀ g, v.ownBlock = some g → g < hi) ∧ fs.length = l.length ∧ (∀ i, i < l.length → El w cells.toArray (i * size) (pix l i) (pix fs i)) ∧
    (∀ b ∈ fs.flatten, lo ≤ b ∧ b < hi ∧ v.ownBlock ≠ some b) ∧ N fs.flatten ∧ hi ≤ w.heap.size
section
variable {α : Type} [Inhabited α] {N : List Nat → Prop} {TP : TypeId} {size lo hi : Nat} {El : World → Array Value → Nat → α → List Nat → Prop} {w W : World} {v : Value} {l : List α}
theorem RowG.nil (hN : AppN N) (w : World) (h2 : hi ≤ w.heap.size) : RowG N TP size El lo hi w (.slice none 0 0) ([] : List α) :=
  ⟨[], [], World.ownsRow_nil _ _ _ _, (fun g h => by cases h), rfl, (fun i hi => by simp at hi), (fun b hb => by simp at hb), hN.1, h2⟩
theorem RowG.empty (hN : AppN N) (w : World) (h1 : lo ≤ w.heap.size) : RowG N TP size El lo (w.heap.size + 1) (w.alloc (.cells #[] TP)) (.slice (some ⟨w.heap.size, 0, none⟩) 0 0) ([] : List α) :=
  ⟨[], [], World.ownsRow_made w #[] 0 h1 (Nat.zero_le _) (by simp), (fun g h => by injection h with h; simp only at h; omega), rfl, (fun i hi => by simp at hi), (fun b hb => by simp at hb), hN.1, by simp⟩
theorem RowG.keep (hk : KeepE size El) (h : RowG N TP size El lo hi w v l) (hs : w.heap.size ≤ W.heap.size) (hb : ∀ b, lo ≤ b → b < hi → W.heap[b]? = w.heap[b]?) : RowG N TP size El lo hi W v l := by
  obtain ⟨cells, fs, h1, h2, h3, h4, h5, h6, h7⟩ := h
  refine ⟨cells, fs, ⟨h1.1, ?_⟩, h2, h3, fun i hi => hk _ _ _ _ _ _ _ _ (h4 i hi) (fun _ _ => rfl) hs fun b hm => ?_, h5, h6, Nat.le_trans h7 hs⟩
  · rcases h1.2 with h | ⟨g, cap, cur, rfl, hg, hh, r⟩
    · exact .inl h
    · exact .inr ⟨g, cap, cur, rfl, hg, (hb g hg (h2 g rfl)).trans hh, r⟩
  · have := h5 b (mem_flatten_pix hm)
    exact hb b this.1 this.2.1
theorem RowG.bl (hk : KeepE size El) (h : RowG N TP size El lo hi w v l) (hb : Bl w W) : RowG N TP size El lo hi W v l :=
  h.keep hk hb.size fun b _ h2 => Below.block hb b (Nat.lt_of_lt_of_le h2 (by obtain ⟨_, _, _, _, _, _, _, _, h7⟩ := h; exact h7))
theorem RowG.hiLe (h : RowG N TP size El lo hi w v l) : hi ≤ w.heap.size := by
  obtain ⟨_, _, _, _, _, _, _, _, h7⟩ := h
  exact h7
end
theorem pixs_last {fs : List (List Nat)} {bs : List Nat} {n : Nat} (h : fs.length = n) : pix (fs ++ [bs]) n = bs := by subst h; exact pix_append_last
/-- append of one element, laid by the call itself. -/
theorem wpList_append_rowX {P : Program} {α : Type} [Inhabited α] {N : List Nat → Prop} (hN : AppN N) {size bytes : Nat} {El : World → Array Value → Nat → α → List Nat → Prop} (hk : KeepE size El) {TP t : TypeId} {z : Value}
    (hinfo : (P.info? TP).map (fun i => (i.zero, i.size, i.bytes)) = some (some z, size, bytes)) (hzs : z.cells.size = size) (hsz : 0 < size) (hby : bytes ≤ 4096) (ht : P.underlying t = some (.slice TP))
    {W : World} {news : Array Value} {p : α} {bs : List Nat} {lo hi : Nat} {l : List α} {ops : Array Oper} {rest : List Oper} {o : Oper} {a : Act} {Q : Exit → Act → World → Prop} (hgd : o.guard = none) (s x : Operand)
    (ho : o.op = .call { callee := .builtin .append, args := #[s, x], argTypes := #[t, t] }) (v : Value) (hs : a.eval s = v) (hrow : RowG N TP size El lo hi W v l)
    (hel : El W news 0 p bs) (hnl : news.size = size) (h1 : ∀ u ∈ news.toList, u.oneCell' = true) (hbs : ∀ b ∈ bs, hi ≤ b ∧ b < W.heap.size) (hNb : N bs) (hlh : lo ≤ hi)
    (c : Nat) (hx : a.eval x = .slice (some ⟨W.heap.size, 0, none⟩) 1 c) (hlen : l.length ≤ 1048576) (w0 : World) (hb : Bl w0 W) (h0 : w0.heap.size ≤ lo)
    (h : ∀ v' w', RowG N TP size El lo w'.heap.size w' v' (l ++ [p]) → Bl w0 w' → (v' = .slice none 0 0 → False) → (∀ g, g < W.heap.size → v.ownBlock ≠ some g → w'.heap[g]? = W.heap[g]? ∧ v'.ownBlock ≠ some g) → wpList P ops Q rest (a.put o.dst v') w') : wpList P ops Q (o :: rest) a (W.alloc (.cells news TP)) := by
  obtain ⟨i0, hi0, hz0, hz1, hz2⟩ := info_parts hinfo
  obtain ⟨cells, fs, r1, r2, r3, r4, r5, r6, r7⟩ := hrow
  have ro := World.ownsRow.alloc r1 (.cells news TP)
  have hnew : (W.alloc (.cells news TP)).heap[W.heap.size]? = some (.cells news TP (0, 0)) := heap_alloc_new W _
  have hsz2 : (W.alloc (.cells news TP)).heap.size = W.heap.size + 1 := by simp
  have hm : (l.length + 1) * bytes ≤ 140737488355328 := Nat.le_trans (Nat.mul_le_mul (show l.length + 1 ≤ 1048577 by omega) hby) (by omega)
  refine wpList_append_own_at _ hgd s x t ho lo TP i0 z size bytes ht hi0 hz0 hz1 hz2 hzs hsz v l.length cells hs ro ⟨W.heap.size, 0, none⟩ 1 c news.toList hx (by simpa using hnl) (World.news_of_block hnew) h1 (by unfold maxLen; omega) hm (by omega) ?_
  intro v' w' g1 g2 g3 g4
  have hne : v' ≠ .slice none 0 0 := fun e => by have := (g3.1 e).2; omega
  have hws := g2.size
  have hold : ∀ b, b < W.heap.size → v.ownBlock ≠ some b → w'.heap[b]? = W.heap[b]? := fun b hb1 hb2 => (g2.block b (by omega) (fun e => hb2 e.symm)).trans (Below.heap_alloc W _ b hb1)
  have hown : ∀ b, v'.ownBlock = some b → (v.ownBlock = some b ∨ b = W.heap.size + 1) := by
    intro b e
    rcases g4 with g4 | g4
    · exact .inl (by rw [← g4]; exact e)
    · rw [g4] at e; injection e with e; right; omega
  have hvl : ∀ b, v'.ownBlock = some b → lo ≤ b ∧ b < w'.heap.size := fun b e => by have := World.ownsRow.lt g1 b e; exact this
  refine h v' w' ⟨cells ++ news.toList, fs ++ [bs], by simpa using g1, fun g e => (hvl g e).2, by simp [r3], fun i hi' => ?_, fun b hm' => ?_, ?_, Nat.le_refl _⟩ ((hb.alloc _).grown g2 (fun k e => by have := (World.ownsRow.lt r1 k e).1; omega)) hne (fun g hg hn => ⟨hold g hg hn, fun e => by rcases hown g e with e | e; exact hn e; omega⟩)
  · have hcl := r1.1
    rw [List.length_append, List.length_singleton] at hi'
    rcases Nat.lt_succ_iff_lt_or_eq.1 hi' with hi' | rfl
    · rw [pix_append_left hi', pix_append_left (by rw [r3]; exact hi')]
      refine hk _ _ _ _ _ _ _ _ (r4 i hi') (fun j hj => ?_) (by omega) fun b hb' => ?_
      · have : i * size + j < cells.length := by
          rw [hcl]
          have : (i + 1) * size ≤ l.length * size := Nat.mul_le_mul_right _ hi'
          rw [Nat.succ_mul] at this
          omega
        simp [List.getElem?_append_left this]
      · have := r5 b (mem_flatten_pix hb')
        exact hold b (by omega) this.2.2
    · rw [pix_append_last, pixs_last r3]
      refine hk _ _ _ _ _ _ _ _ hel (fun j hj => ?_) (by omega) fun b hb' => ?_
      · have : (cells ++ news.toList)[l.length * size + j]? = news.toList[j]? := by
          rw [List.getElem?_append_right (by rw [hcl]; omega), hcl]
          congr 1; omega
        simpa using this
      · have := hbs b hb'
        exact hold b this.2 fun e => by have := r2 b e; omega
  · rw [List.flatten_append, List.mem_append] at hm'
    rcases hm' with hm' | hm'
    · have := r5 b hm'
      refine ⟨this.1, by omega, fun e => ?_⟩
      rcases hown b e with e | e
      · exact this.2.2 e
      · omega
    · have := hbs b (by simpa using hm')
      refine ⟨by omega, by omega, fun e => ?_⟩
      rcases hown b e with e | e
      · have := r2 b e; omega
      · omega
  · rw [List.flatten_append]
    refine hN.2 _ _ r6 (by simpa using hNb) fun x hx' y hy e => ?_
    have a1 := r5 x hx'
    have a2 := hbs y (by simpa using hy)
    omega
theorem ptIn_keep (T : TypeId) : KeepE 6 (PtIn T) := by
  intro w W cs cs' i i' x bs h hc hs hb
  obtain ⟨s, A, n, c, B, m, d, t, C, j, e, D, k, f, b1, b2, ⟨h0, h1, h2, h3, h4, h5⟩, hx, hy, rfl⟩ := h
  refine ⟨s, A, n, c, B, m, d, t, C, j, e, D, k, f, b1, b2, ⟨?_, ?_, ?_, ?_, ?_, ?_⟩, hx.keep hs fun b hm => hb b (by simp [hm]), hy.keep hs fun b hm => hb b (by simp [hm]), rfl⟩
  · rw [← h0]; exact hc 0 (by omega)
  · rw [← h1]; exact hc 1 (by omega)
  · rw [← h2]; exact hc 2 (by omega)
  · rw [← h3]; exact hc 3 (by omega)
  · rw [← h4]; exact hc 4 (by omega)
  · rw [← h5]; exact hc 5 (by omega)
/-- A row of points. -/
abbrev RowP (N : List Nat → Prop) (lo hi : Nat) (w : World) (v : Value) (l : List PtD) : Prop := RowG N 31 6 (PtIn 3) lo hi w v l
section
variable {N : List Nat → Prop} {lo hi : Nat} {w W : World} {v : Value} {l : List PtD}
theorem RowP.out (h : RowP N lo hi w v l) : (v = .slice none 0 0 ∧ l = []) ∨ ∃ g c cs fs, v = .slice (some ⟨g, 0, none⟩) l.length c ∧ l.length ≤ c ∧ Blk w g 31 cs ∧ l.length * 6 ≤ cs.size ∧ PtsIn 3 w cs l l.length fs ∧ (∀ b ∈ g :: fs.flatten, lo ≤ b ∧ b < hi) ∧ g ∉ fs.flatten ∧ N fs.flatten := by
  obtain ⟨cells, fs, r1, r2, r3, r4, r5, r6, r7⟩ := h
  rcases r1.2 with ⟨rfl, h0⟩ | ⟨g, cap, cur, rfl, hg, hh, hn, hcap, hcs, ht⟩
  · exact .inl ⟨rfl, List.length_eq_zero_iff.1 h0⟩
  · have hlen : l.length * 6 ≤ cur.size := by rw [hcs]; exact Nat.mul_le_mul_right _ hn
    refine .inr ⟨g, cap, cur, fs, rfl, hn, hh, hlen, ⟨r3, fun i hi => ?_⟩, fun b hb => ?_, fun hm => (r5 g hm).2.2 rfl, r6⟩
    · refine ptIn_keep _ _ _ _ _ _ _ _ _ (r4 i hi) (fun j hj => ?_) (Nat.le_refl _) fun _ _ => rfl
      rw [← ht]
      have : i * 6 + j < l.length * 6 := by omega
      simp [this]
    · rcases List.mem_cons.1 hb with rfl | hb
      · exact ⟨hg, r2 _ rfl⟩
      · exact ⟨(r5 b hb).1, (r5 b hb).2.1⟩
theorem RowP.rd (h : RowP N lo hi w v l) (hl : l.length ≤ 1048576) : ∃ A c, v = .slice A l.length c ∧ RdPS w A l.length c l := by
  rcases RowP.out h with ⟨rfl, rfl⟩ | ⟨g, c, cs, fs, rfl, h1, h2, h3, h4, _⟩
  · exact ⟨none, 0, rfl, RdS.nil _ _ _⟩
  · exact ⟨_, c, rfl, h4.rd h2 rfl (by omega) h1⟩
theorem RowP.own (h : RowP List.Nodup lo hi w v l) (hl : l.length ≤ 1048576) : ∃ A c, v = .slice A l.length c ∧ OwPZ 3 31 lo hi w A l.length c l := by
  rcases RowP.out h with ⟨rfl, rfl⟩ | ⟨g, c, cs, fs, rfl, h1, h2, h3, h4, h5, h6, h7⟩
  · exact ⟨none, 0, rfl, rfl, Nat.le_refl _, Nat.zero_le _, .inl rfl⟩
  · exact ⟨_, c, rfl, rfl, h1, hl, .inr ⟨g, cs, fs, rfl, h2, h3, h4, List.nodup_cons.2 ⟨h6, h7⟩, h5⟩⟩
end
/-- A point by value, in memory of its own. -/
def OwPN (N : List Nat → Prop) (T : TypeId) (b0 : Nat) (w : World) (s : Bool) (A : Option Addr) (n c : Nat) (B : Option Addr) (m d : Nat) (t : Bool) (C : Option Addr) (i e : Nat) (D : Option Addr) (j f : Nat) (p : PtD) : Prop :=
  ∃ b1 b2, FtR T w s A n c B m d p.x b1 ∧ FtR T w t C i e D j f p.y b2 ∧ (∀ b ∈ b1 ++ b2, b0 ≤ b ∧ b < w.heap.size) ∧ N (b1 ++ b2)
theorem OwPN.of {T : TypeId} {b0 : Nat} {w : World} {s : Bool} {A : Option Addr} {n c : Nat} {B : Option Addr} {m d : Nat} {t : Bool} {C : Option Addr} {i e : Nat} {D : Option Addr} {j f : Nat} {p : PtD} (h : OwP T b0 w s A n c B m d t C i e D j f p) : OwPN List.Nodup T b0 w s A n c B m d t C i e D j f p := by
  obtain ⟨b1, b2, h1, h2, hf⟩ := h
  exact ⟨b1, b2, h1, h2, hf.2, hf.1⟩
theorem OwPN.q {T : TypeId} {b0 : Nat} {w : World} {s : Bool} {A : Option Addr} {n c : Nat} {B : Option Addr} {m d : Nat} {t : Bool} {C : Option Addr} {i e : Nat} {D : Option Addr} {j f : Nat} {p : PtD} (h : OwP T b0 w s A n c B m d t C i e D j f p) : OwPN AnyN T b0 w s A n c B m d t C i e D j f p := by
  obtain ⟨b1, b2, h1, h2, hf⟩ := h
  exact ⟨b1, b2, h1, h2, hf.2, trivial⟩
theorem wpList_append_ptX {N : List Nat → Prop} (hN : AppN N) {W : World} {s : Bool} {A : Option Addr} {n c : Nat} {B : Option Addr} {m d : Nat} {t : Bool} {C : Option Addr} {i e : Nat} {D : Option Addr} {j f : Nat} {p : PtD} {lo hi b0 : Nat} {l : List PtD} {ops : Array Oper} {rest : List Oper} {o : Oper} {a : Act} {Q : Exit → Act → World → Prop} (hgd : o.guard = none) (s1 x1 : Operand)
    (ho : o.op = .call { callee := .builtin .append, args := #[s1, x1], argTypes := #[23, 23] }) (v : Value) (hs : a.eval s1 = v) (hrow : RowP N lo hi W v l)
    (hpt : OwPN N 3 b0 W s A n c B m d t C i e D j f p) (hb0 : hi ≤ b0) (hlh : lo ≤ hi) (c1 : Nat) (hx : a.eval x1 = .slice (some ⟨W.heap.size, 0, none⟩) 1 c1) (hlen : l.length ≤ 1048576) (w0 : World) (hb : Bl w0 W) (h0 : w0.heap.size ≤ lo)
    (h : ∀ v' w', RowP N lo w'.heap.size w' v' (l ++ [p]) → Bl w0 w' → (∀ g, g < W.heap.size → v.ownBlock ≠ some g → w'.heap[g]? = W.heap[g]? ∧ v'.ownBlock ≠ some g) → wpList Tryz.prog ops Q rest (a.put o.dst v') w') : wpList Tryz.prog ops Q (o :: rest) a (W.alloc (.cells #[.bool s, .slice A n c, .slice B m d, .bool t, .slice C i e, .slice D j f] 31)) := by
  obtain ⟨b1, b2, f1, f2, f3, f4⟩ := hpt
  refine wpList_append_rowX hN (ptIn_keep 3) info_pt (by rfl) (by omega) (by omega) Tryz.underlying23 hgd s1 x1 ho v hs hrow (p := p) (bs := b1 ++ b2) ⟨_, _, _, _, _, _, _, _, _, _, _, _, _, _, b1, b2, ⟨rfl, rfl, rfl, rfl, rfl, rfl⟩, f1, f2, rfl⟩ rfl (by simp [Value.oneCell']) (fun b hm => ⟨Nat.le_trans hb0 (f3 b hm).1, (f3 b hm).2⟩) f4 hlh c1 hx hlen w0 hb h0 fun v' w' g1 g2 _ g4 => h v' w' g1 g2 g4
end

end Go.Proofs.YtajlahjghapbkaaGreat
