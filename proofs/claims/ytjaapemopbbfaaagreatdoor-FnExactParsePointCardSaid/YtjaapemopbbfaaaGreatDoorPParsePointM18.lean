/- Lemmas. -/
import Derived.Test.YtjaapemopbbfaaaGreatDoorRows
import Derived.Test.YtjaapemopbbfaaaGreatDoorPParsePointM01
import Derived.Test.YtjaapemopbbfaaaGreatDoorPParsePointM17
import Derived.Test.YtjaapemopbbfaaaGreatDoorPParsePointM11
import Derived.Test.YtjaapemopbbfaaaGreatDoorPParsePointM12
namespace Go.Proofs.YtjaapemopbbfaaaGreatDoor
section
open Go.RowKit

set_option maxHeartbeats 1600000 in
theorem eqIntS_any (w : World) {A B : Option Addr} {n c d : Nat} {xs : List Int} (ha : RdI w A n c xs) (hb : RdI w B n d xs) :
    Calls Tryz.prog 85 #[.slice A n c, .slice B n d] w fun e w' => e = .returned (.bool true) ∧ ∃ q, w' = w.drewN q := by
  have hna := ha.small
  go_enter Tryz.func85, Tryz.ntmps85
  go_wp2
  go_loopw [5] (fun i wr => ∃ k : Nat, k ≤ n ∧ i = .int .i64 (k : Int) ∧ ∃ q, wr = w.drewN q) (fun i _ => n - (intOf i).toNat)
  case atStart => exact ⟨0, Nat.zero_le _, rfl, (by first | exact ⟨_, rfl⟩ | exact ⟨0, rfl⟩ | exact q_drewN ⟨_, rfl⟩ | exact q_drewN (q_drewN ⟨_, rfl⟩))⟩
  case round =>
    obtain ⟨k, hk, rfl, q, rfl⟩ := hrel
    by_cases hkn : k < n
    · obtain ⟨ad, rfl, hlta, hca⟩ := ha.at_ hkn
      obtain ⟨bd, rfl, hltb, hcb⟩ := hb.at_ hkn
      have hki : (k : Int) < (n : Int) := by omega
      go_wp2
      go_quiet (fail)
      go_wp2
      go_roundw
      case rel => exact ⟨k + 1, by omega, by go_num, (by first | exact ⟨_, rfl⟩ | exact ⟨0, rfl⟩ | exact q_drewN ⟨_, rfl⟩ | exact q_drewN (q_drewN ⟨_, rfl⟩))⟩
      case measure => simp [intOf]; omega
    · go_wp2
      go_ret
      exact ⟨rfl, (by first | exact ⟨_, rfl⟩ | exact ⟨0, rfl⟩ | exact q_drewN ⟨_, rfl⟩ | exact q_drewN (q_drewN ⟨_, rfl⟩))⟩

set_option maxHeartbeats 4000000 in
theorem eqBigInt_any (w : World) {s : Bool} {A A' : Option Addr} {n c c' : Nat} {l : List Int} (h : RdI w A n c l) (h' : RdI w A' n c' l) :
    Calls Tryz.prog 84 #[.agg #[.bool s, .slice A n c], .agg #[.bool s, .slice A' n c']] w fun e w' => e = .returned (.bool true) ∧ Bl w w' := by
  have hse : (s != s) = false := by simp
  go_enter Tryz.func84, Tryz.ntmps84
  go_wp2_with fail
  refine (eqIntS_any _ (h.bl slc) (h'.bl slc)).mono ?_
  rintro e w1 ⟨rfl, hq⟩
  have hb : Bl _ w1 := q_bl hq
  clear hq
  have hb1 : Bl w w1 := slc
  clear hb
  go_wp2_with fail
  go_ret
  exact ⟨rfl, hb1⟩

set_option maxHeartbeats 4000000 in
theorem eqRat_any (w : World) {s s' : Bool} {A : Option Addr} {n c : Nat} {B : Option Addr} {m d : Nat} {A' : Option Addr} {n' c' : Nat} {B' : Option Addr} {m' d' : Nat} {r : RatD} (h : RdR w s A n c B m d r) (h' : RdR w s' A' n' c' B' m' d' r) :
    Calls Tryz.prog 39 #[.agg #[.bool s, .slice A n c, .slice B m d], .agg #[.bool s', .slice A' n' c', .slice B' m' d']] w fun e w' => e = .returned (.bool true) ∧ Bl w w' := by
  obtain rfl := h.neg.trans h'.neg.symm
  obtain rfl := h.mag.len.symm.trans h'.mag.len
  obtain rfl := h.den.len.symm.trans h'.den.len
  go_enter Tryz.func39, Tryz.ntmps39
  go_wp2_with fail
  refine (eqBigInt_any _ (h.mag.bl slc) (h'.mag.bl slc)).mono ?_
  rintro e w1 ⟨rfl, hb⟩
  have hb1 : Bl w w1 := slc
  obtain ⟨hc, hf⟩ := bcell hb
  clear hb
  go_wp2_with fail
  refine (eqIntS_any _ (h.den.bl slc) (h'.den.bl slc)).mono ?_
  rintro e w2 ⟨rfl, hq⟩
  have hb : Bl _ w2 := q_bl hq
  clear hq
  have hb2 : Bl w w2 := slc
  clear hb
  go_wp2_with fail
  go_ret
  exact ⟨rfl, hb2⟩

set_option maxHeartbeats 4000000 in
theorem eqPoint_any (w : World) {s s' : Bool} {A : Option Addr} {n c : Nat} {B : Option Addr} {m d : Nat} {A' : Option Addr} {n' c' : Nat} {B' : Option Addr} {m' d' : Nat} {t t' : Bool} {C : Option Addr} {i e : Nat} {D : Option Addr} {j f : Nat} {C' : Option Addr} {i' e' : Nat} {D' : Option Addr} {j' f' : Nat} {p : PtD} (h : RdR w s A n c B m d p.x) (k : RdR w t C i e D j f p.y) (h' : RdR w s' A' n' c' B' m' d' p.x) (k' : RdR w t' C' i' e' D' j' f' p.y) :
    Calls Tryz.prog 8 #[.agg #[.bool s, .slice A n c, .slice B m d, .bool t, .slice C i e, .slice D j f], .agg #[.bool s', .slice A' n' c', .slice B' m' d', .bool t', .slice C' i' e', .slice D' j' f']] w fun e w' => e = .returned (.bool true) ∧ Bl w w' := by
  go_enter Tryz.func8, Tryz.ntmps8
  go_wp2_with fail
  refine (eqRat_any _ (h.bl slc) (h'.bl slc)).mono ?_
  rintro e w1 ⟨rfl, hb⟩
  have hb1 : Bl w w1 := slc
  obtain ⟨hc, hf⟩ := bcell hb
  clear hb
  go_wp2_with fail
  refine (eqRat_any _ (k.bl slc) (k'.bl slc)).mono ?_
  rintro e w2 ⟨rfl, hb⟩
  have hb2 : Bl w w2 := slc
  clear hb
  go_wp2_with fail
  go_ret
  exact ⟨rfl, hb2⟩
end

section
open Go.RowKit
/-- A fraction in the blocks from lo to hi. -/
def OwX (T : TypeId) (lo hi : Nat) (w : World) (s : Bool) (A : Option Addr) (n c : Nat) (B : Option Addr) (m d : Nat) (r : RatD) : Prop :=
  ∃ bs, FtR T w s A n c B m d r bs ∧ Fp lo hi bs
section
variable {T : TypeId} {lo hi b0 : Nat} {w W : World} {s : Bool} {A : Option Addr} {n c : Nat} {B : Option Addr} {m d : Nat} {r : RatD} {bs : List Nat}
theorem OwX.of (h : OwR T b0 w s A n c B m d r) : OwX T b0 w.heap.size w s A n c B m d r := h
theorem OwX.rd (h : OwX T lo hi w s A n c B m d r) : RdR w s A n c B m d r := by
  obtain ⟨bs, h, _⟩ := h
  exact h.rd
theorem OwX.bl (h : OwX T lo hi w s A n c B m d r) (hb : Bl w W) : OwX T lo hi W s A n c B m d r := by
  obtain ⟨bs, h, hf⟩ := h
  exact ⟨bs, h.bl hb, hf⟩
theorem OwX.ob (h : OwX T lo hi w s A n c B m d r) (ho : Ob bs w W) (hd : ∀ b ∈ bs, b < lo ∨ hi ≤ b) : OwX T lo hi W s A n c B m d r := by
  obtain ⟨cs, h, hf⟩ := h
  refine ⟨cs, h.keep ho.size fun b hb => ho.block b (h.lt b hb) fun hm => ?_, hf⟩
  have h1 := hf.2 b hb
  have h2 := hd b hm
  omega
end

/-- A list of points in the blocks from lo to hi. -/
def OwPZ (TI TP : TypeId) (lo hi : Nat) (w : World) (A : Option Addr) (n c : Nat) (l : List PtD) : Prop :=
  l.length = n ∧ n ≤ c ∧ n ≤ 1048576 ∧ (n = 0 ∨ ∃ g cs fs, A = some ⟨g, 0, none⟩ ∧ Blk w g TP cs ∧ n * 6 ≤ cs.size ∧ PtsIn TI w cs l n fs ∧ Fp lo hi (g :: fs.flatten))
section
variable {TI TP : TypeId} {lo hi lo' hi' : Nat} {w W : World} {A : Option Addr} {n c : Nat} {l : List PtD} {bs : List Nat}
theorem OwPZ.rd (h : OwPZ TI TP lo hi w A n c l) : RdPS w A n c l := by
  obtain ⟨h1, h2, h3, h4⟩ := h
  rcases h4 with h4 | ⟨g, cs, fs, rfl, hB, hc, hP, hF⟩
  · subst h4
    obtain rfl := List.length_eq_zero_iff.1 h1
    exact RdS.nil _ _ _
  · exact hP.rd hB h1 (by omega) h2
theorem OwPZ.keep (h : OwPZ TI TP lo hi w A n c l) (hs : w.heap.size ≤ W.heap.size) (hk : ∀ b, lo ≤ b → b < hi → b < w.heap.size → W.heap[b]? = w.heap[b]?) : OwPZ TI TP lo hi W A n c l := by
  obtain ⟨h1, h2, h3, h4⟩ := h
  refine ⟨h1, h2, h3, ?_⟩
  rcases h4 with h4 | ⟨g, cs, fs, rfl, hB, hc, hP, hF⟩
  · exact .inl h4
  · have hg := hF.2 g (by simp)
    refine .inr ⟨g, cs, fs, rfl, (hk g hg.1 hg.2 hB.lt).trans hB, hc, ⟨hP.1, fun i hi => (hP.2 i hi).keep (fun _ _ => rfl) hs fun b hb => ?_⟩, hF⟩
    have hm := hF.2 b (List.mem_cons_of_mem _ (mem_flatten_pix hb))
    exact hk b hm.1 hm.2 ((hP.2 i hi).lt b hb)
theorem OwPZ.bl (h : OwPZ TI TP lo hi w A n c l) (hb : Bl w W) : OwPZ TI TP lo hi W A n c l := h.keep hb.size fun b _ _ hl => Below.block hb b hl
theorem OwPZ.ob (h : OwPZ TI TP lo hi w A n c l) (ho : Ob bs w W) (hd : ∀ b ∈ bs, b < lo ∨ hi ≤ b) : OwPZ TI TP lo hi W A n c l :=
  h.keep ho.size fun b h1 h2 hl => ho.block b hl fun hm => by have := hd b hm; omega
theorem OwPZ.low (h : OwPZ TI TP lo hi w A n c l) (h1 : lo' ≤ lo) (h2 : hi ≤ hi') : OwPZ TI TP lo' hi' w A n c l := by
  obtain ⟨a1, a2, a3, a4⟩ := h
  refine ⟨a1, a2, a3, ?_⟩
  rcases a4 with h4 | ⟨g, cs, fs, rfl, hB, hc, hP, hF⟩
  · exact .inl h4
  · exact .inr ⟨g, cs, fs, rfl, hB, hc, hP, hF.mono h1 h2⟩
end
end

section
open Go.RowKit

/-- Block g has six cells that may be written. -/
def Wr6 (T : TypeId) (g : Nat) (W : World) : Prop := ∃ cs, Blk W g T cs ∧ cs.size = 6
theorem Wr6.bl {T : TypeId} {g : Nat} {w W : World} (h : Wr6 T g w) (hb : Bl w W) : Wr6 T g W := by
  obtain ⟨cs, h1, h2⟩ := h
  exact ⟨cs, h1.bl hb, h2⟩
theorem Wr6.set {T : TypeId} {g : Nat} {w : World} (h : Wr6 T g w) (i : Nat) (u : Value) : Wr6 T g (w.setCell ⟨g, i, none⟩ u) := by
  obtain ⟨cs, h1, h2⟩ := h
  exact ⟨_, h1.set_ i u, by simp [h2]⟩
theorem Wr6.new2 (T : TypeId) (w : World) (o : Obj) (a b c a' b' c' : Value) : Wr6 T (w.heap.size + 1) ((w.alloc o).alloc (.cells #[a, b, c, a', b', c'] T)) := by
  have : Wr6 T (w.alloc o).heap.size ((w.alloc o).alloc (.cells #[a, b, c, a', b', c'] T)) := ⟨_, Blk.new _ _ _, rfl⟩
  rwa [World.size_alloc] at this
theorem Wr6.drew {T : TypeId} {g : Nat} {w : World} (h : Wr6 T g w) : Wr6 T g w.drew := h
theorem Wr6.out {T : TypeId} {g : Nat} {w : World} (h : Wr6 T g w) : (w.cell? ⟨g, 0, none⟩ = some (cellD w g 0) ∧ w.cell? ⟨g, 1, none⟩ = some (cellD w g 1) ∧ w.cell? ⟨g, 2, none⟩ = some (cellD w g 2) ∧ w.cell? ⟨g, 3, none⟩ = some (cellD w g 3) ∧ w.cell? ⟨g, 4, none⟩ = some (cellD w g 4) ∧ w.cell? ⟨g, 5, none⟩ = some (cellD w g 5)) ∧
    w.frozen? ⟨g, 0, none⟩ = false ∧ w.frozen? ⟨g, 1, none⟩ = false ∧ w.frozen? ⟨g, 2, none⟩ = false ∧ w.frozen? ⟨g, 3, none⟩ = false ∧ w.frozen? ⟨g, 4, none⟩ = false ∧ w.frozen? ⟨g, 5, none⟩ = false := by
  obtain ⟨cs, h1, h2⟩ := h
  exact ⟨⟨cellD_eq (h1.some (by omega)), cellD_eq (h1.some (by omega)), cellD_eq (h1.some (by omega)), cellD_eq (h1.some (by omega)), cellD_eq (h1.some (by omega)), cellD_eq (h1.some (by omega))⟩, h1.frozen 0, h1.frozen 1, h1.frozen 2, h1.frozen 3, h1.frozen 4, h1.frozen 5⟩
/-- A point in memory of its own from block b0 on. -/
def OwP (T : TypeId) (b0 : Nat) (w : World) (s : Bool) (A : Option Addr) (n c : Nat) (B : Option Addr) (m d : Nat) (t : Bool) (C : Option Addr) (i e : Nat) (D : Option Addr) (j f : Nat) (p : PtD) : Prop :=
  ∃ b1 b2, FtR T w s A n c B m d p.x b1 ∧ FtR T w t C i e D j f p.y b2 ∧ Fp b0 w.heap.size (b1 ++ b2)
section
variable {T : TypeId} {b0 b1 : Nat} {w w1 W : World} {s : Bool} {A : Option Addr} {n c : Nat} {B : Option Addr} {m d : Nat} {t : Bool} {C : Option Addr} {i e : Nat} {D : Option Addr} {j f : Nat} {p : PtD}
theorem OwP.two (h : OwR T b0 w1 s A n c B m d p.x) (k : OwR T w1.heap.size w t C i e D j f p.y) (hb : Bl w1 w) (h0 : b0 ≤ w1.heap.size) : OwP T b0 w s A n c B m d t C i e D j f p := by
  obtain ⟨c1, h1, f1⟩ := h
  obtain ⟨c2, h2, f2⟩ := k
  exact ⟨c1, c2, h1.bl hb, h2, f1.app f2 (Nat.le_refl _) h0 hb.size⟩
theorem OwP.far (h : OwP T b0 w s A n c B m d t C i e D j f p) {q : Addr} (hp : q.block < b0) (u : Value) : OwP T b0 (w.setCell q u) s A n c B m d t C i e D j f p := by
  obtain ⟨c1, c2, h1, h2, hf⟩ := h
  exact ⟨c1, c2, h1.keep (by simp) (fun b hb => Below.heap_setCell w q u b (by have := (hf.2 b (by simp [hb])).1; omega)), h2.keep (by simp) (fun b hb => Below.heap_setCell w q u b (by have := (hf.2 b (by simp [hb])).1; omega)), hf.mono (Nat.le_refl _) (by simp)⟩
theorem OwP.low (h : OwP T b1 w s A n c B m d t C i e D j f p) (hb : b0 ≤ b1) : OwP T b0 w s A n c B m d t C i e D j f p := by
  obtain ⟨c1, c2, h1, h2, hf⟩ := h
  exact ⟨c1, c2, h1, h2, hf.mono hb (Nat.le_refl _)⟩
end
end

section
open Go.RowKit

/-- What is kept where the cells and the blocks of the footprint are the same. -/
def KeepE {α : Type} (size : Nat) (El : World → Array Value → Nat → α → List Nat → Prop) : Prop :=
  ∀ (w W : World) (cs cs' : Array Value) (i i' : Nat) (x : α) (bs : List Nat), El w cs i x bs → (∀ j, j < size → cs'[i' + j]? = cs[i + j]?) → w.heap.size ≤ W.heap.size → (∀ b ∈ bs, W.heap[b]? = w.heap[b]?) → El W cs' i' x bs
/-- A property of footprints that holds of two that have no block in common, if it holds of each. -/
def AppN (N : List Nat → Prop) : Prop := N [] ∧ ∀ a b, N a → N b → (∀ x ∈ a, ∀ y ∈ b, x ≠ y) → N (a ++ b)
def AnyN (_ : List Nat) : Prop := True
theorem appN_any : AppN AnyN := ⟨trivial, fun _ _ _ _ _ => trivial⟩
/-- The slice value v is the call's own; its elements read as l; all its blocks lie from lo to hi; N holds of the elements' blocks. -/
def RowG {α : Type} [Inhabited α] (N : List Nat → Prop) (TP : TypeId) (size : Nat) (El : World → Array Value → Nat → α → List Nat → Prop) (lo hi : Nat) (w : World) (v : Value) (l : List α) : Prop :=
  ∃ cells fs, w.ownsRow lo TP size v l.length cells ∧ (∀ g, v.ownBlock = some g → g < hi) ∧ fs.length = l.length ∧ (∀ i, i < l.length → El w cells.toArray (i * size) (pix l i) (pix fs i)) ∧
    (∀ b ∈ fs.flatten, lo ≤ b ∧ b < hi ∧ v.ownBlock ≠ some b) ∧ N fs.flatten ∧ hi ≤ w.heap.size
section
variable {α : Type} [Inhabited α] {N : List Nat → Prop} {TP : TypeId} {size lo hi : Nat} {El : World → Array Value → Nat → α → List Nat → Prop} {w W : World} {v : Value} {l : List α}
theorem RowG.nil (hN : AppN N) (w : World) (h2 : hi ≤ w.heap.size) : RowG N TP size El lo hi w (.slice none 0 0) ([] : List α) :=
  ⟨[], [], World.ownsRow_nil _ _ _ _, (fun g h => by cases h), rfl, (fun i hi => by simp at hi), (fun b hb => by simp at hb), hN.1, h2⟩
theorem RowG.empty (hN : AppN N) (w : World) (h1 : lo ≤ w.heap.size) : RowG N TP size El lo (w.heap.size + 1) (w.alloc (.cells #[] TP)) (.slice (some ⟨w.heap.size, 0, none⟩) 0 0) ([] : List α) :=
  ⟨[], [], World.ownsRow_made w #[] 0 h1 (Nat.zero_le _) (by simp), (fun g h => by injection h with h; simp only at h; omega), rfl, (fun i hi => by simp at hi), (fun b hb => by simp at hb), hN.1, by simp⟩
theorem RowG.keep (hk : KeepE size El) (h : RowG N TP size El lo hi w v l) (hs : w.heap.size ≤ W.heap.size) (hb : ∀ b, lo ≤ b → b < hi → W.heap[b]? = w.heap[b]?) : RowG N TP size El lo hi W v l := by
  obtain ⟨cells, fs, h1, h2, h3, h4, h5, h6, h7⟩ := h
  refine ⟨cells, fs, ⟨h1.1, ?_⟩, h2, h3, fun i hi => hk _ _ _ _ _ _ _ _ (h4 i hi) (fun _ _ => rfl) hs fun b hm => ?_, h5, h6, Nat.le_trans h7 hs⟩
  · rcases h1.2 with h | ⟨g, cap, cur, rfl, hg, hh, r⟩
    · exact .inl h
    · exact .inr ⟨g, cap, cur, rfl, hg, (hb g hg (h2 g rfl)).trans hh, r⟩
  · have := h5 b (mem_flatten_pix hm)
    exact hb b this.1 this.2.1
theorem RowG.bl (hk : KeepE size El) (h : RowG N TP size El lo hi w v l) (hb : Bl w W) : RowG N TP size El lo hi W v l :=
  h.keep hk hb.size fun b _ h2 => Below.block hb b (Nat.lt_of_lt_of_le h2 (by obtain ⟨_, _, _, _, _, _, _, _, h7⟩ := h; exact h7))
end
theorem ptIn_keep (T : TypeId) : KeepE 6 (PtIn T) := by
  intro w W cs cs' i i' x bs h hc hs hb
  obtain ⟨s, A, n, c, B, m, d, t, C, j, e, D, k, f, b1, b2, ⟨h0, h1, h2, h3, h4, h5⟩, hx, hy, rfl⟩ := h
  refine ⟨s, A, n, c, B, m, d, t, C, j, e, D, k, f, b1, b2, ⟨?_, ?_, ?_, ?_, ?_, ?_⟩, hx.keep hs fun b hm => hb b (by simp [hm]), hy.keep hs fun b hm => hb b (by simp [hm]), rfl⟩
  · rw [← h0]; exact hc 0 (by omega)
  · rw [← h1]; exact hc 1 (by omega)
  · rw [← h2]; exact hc 2 (by omega)
  · rw [← h3]; exact hc 3 (by omega)
  · rw [← h4]; exact hc 4 (by omega)
  · rw [← h5]; exact hc 5 (by omega)
/-- A row of points. -/
abbrev RowP (N : List Nat → Prop) (lo hi : Nat) (w : World) (v : Value) (l : List PtD) : Prop := RowG N 28 6 (PtIn 3) lo hi w v l
section
variable {N : List Nat → Prop} {lo hi : Nat} {w W : World} {v : Value} {l : List PtD}
theorem RowP.out (h : RowP N lo hi w v l) : (v = .slice none 0 0 ∧ l = []) ∨ ∃ g c cs fs, v = .slice (some ⟨g, 0, none⟩) l.length c ∧ l.length ≤ c ∧ Blk w g 28 cs ∧ l.length * 6 ≤ cs.size ∧ PtsIn 3 w cs l l.length fs ∧ (∀ b ∈ g :: fs.flatten, lo ≤ b ∧ b < hi) ∧ g ∉ fs.flatten ∧ N fs.flatten := by
  obtain ⟨cells, fs, r1, r2, r3, r4, r5, r6, r7⟩ := h
  rcases r1.2 with ⟨rfl, h0⟩ | ⟨g, cap, cur, rfl, hg, hh, hn, hcap, hcs, ht⟩
  · exact .inl ⟨rfl, List.length_eq_zero_iff.1 h0⟩
  · have hlen : l.length * 6 ≤ cur.size := by rw [hcs]; exact Nat.mul_le_mul_right _ hn
    refine .inr ⟨g, cap, cur, fs, rfl, hn, hh, hlen, ⟨r3, fun i hi => ?_⟩, fun b hb => ?_, fun hm => (r5 g hm).2.2 rfl, r6⟩
    · refine ptIn_keep _ _ _ _ _ _ _ _ _ (r4 i hi) (fun j hj => ?_) (Nat.le_refl _) fun _ _ => rfl
      rw [← ht]
      have : i * 6 + j < l.length * 6 := by omega
      simp [this]
    · rcases List.mem_cons.1 hb with rfl | hb
      · exact ⟨hg, r2 _ rfl⟩
      · exact ⟨(r5 b hb).1, (r5 b hb).2.1⟩
theorem RowP.rd (h : RowP N lo hi w v l) (hl : l.length ≤ 1048576) : ∃ A c, v = .slice A l.length c ∧ RdPS w A l.length c l := by
  rcases RowP.out h with ⟨rfl, rfl⟩ | ⟨g, c, cs, fs, rfl, h1, h2, h3, h4, _⟩
  · exact ⟨none, 0, rfl, RdS.nil _ _ _⟩
  · exact ⟨_, c, rfl, h4.rd h2 rfl (by omega) h1⟩
theorem RowP.own (h : RowP List.Nodup lo hi w v l) (hl : l.length ≤ 1048576) : ∃ A c, v = .slice A l.length c ∧ OwPZ 3 28 lo hi w A l.length c l := by
  rcases RowP.out h with ⟨rfl, rfl⟩ | ⟨g, c, cs, fs, rfl, h1, h2, h3, h4, h5, h6, h7⟩
  · exact ⟨none, 0, rfl, rfl, Nat.le_refl _, Nat.zero_le _, .inl rfl⟩
  · exact ⟨_, c, rfl, rfl, h1, hl, .inr ⟨g, cs, fs, rfl, h2, h3, h4, List.nodup_cons.2 ⟨h6, h7⟩, h5⟩⟩
end
/-- A point by value, in memory of its own. -/
def OwPN (N : List Nat → Prop) (T : TypeId) (b0 : Nat) (w : World) (s : Bool) (A : Option Addr) (n c : Nat) (B : Option Addr) (m d : Nat) (t : Bool) (C : Option Addr) (i e : Nat) (D : Option Addr) (j f : Nat) (p : PtD) : Prop :=
  ∃ b1 b2, FtR T w s A n c B m d p.x b1 ∧ FtR T w t C i e D j f p.y b2 ∧ (∀ b ∈ b1 ++ b2, b0 ≤ b ∧ b < w.heap.size) ∧ N (b1 ++ b2)
theorem OwPN.of {T : TypeId} {b0 : Nat} {w : World} {s : Bool} {A : Option Addr} {n c : Nat} {B : Option Addr} {m d : Nat} {t : Bool} {C : Option Addr} {i e : Nat} {D : Option Addr} {j f : Nat} {p : PtD} (h : OwP T b0 w s A n c B m d t C i e D j f p) : OwPN List.Nodup T b0 w s A n c B m d t C i e D j f p := by
  obtain ⟨b1, b2, h1, h2, hf⟩ := h
  exact ⟨b1, b2, h1, h2, hf.2, hf.1⟩
theorem OwPN.q {T : TypeId} {b0 : Nat} {w : World} {s : Bool} {A : Option Addr} {n c : Nat} {B : Option Addr} {m d : Nat} {t : Bool} {C : Option Addr} {i e : Nat} {D : Option Addr} {j f : Nat} {p : PtD} (h : OwP T b0 w s A n c B m d t C i e D j f p) : OwPN AnyN T b0 w s A n c B m d t C i e D j f p := by
  obtain ⟨b1, b2, h1, h2, hf⟩ := h
  exact ⟨b1, b2, h1, h2, hf.2, trivial⟩
end

section
open Go.RowKit
end

section
open Go.RowKit

theorem RtIn.lt {T : TypeId} {w : World} {cs : Array Value} {i : Nat} {r : RatD} {bs : List Nat} (h : RtIn T w cs i r bs) : ∀ b ∈ bs, b < w.heap.size := by
  obtain ⟨s, A, n, c, B, m, d, _, h⟩ := h
  exact h.lt

/-- A list of fractions in memory of one's own, its limbs behind its cells. -/
def OwRX (TI TR : TypeId) (b0 : Nat) (w : World) (A : Option Addr) (n c : Nat) (l : List RatD) : Prop :=
  ∃ g cs fs, A = some ⟨g, 0, none⟩ ∧ b0 ≤ g ∧ l.length = n ∧ n ≤ c ∧ n ≤ 1048576 ∧ Blk w g TR cs ∧ cs.size = n * 3 ∧ RtsIn TI w cs l n fs ∧ Fp (g + 1) w.heap.size fs.flatten
theorem OwRX.rd {TI TR : TypeId} {b0 : Nat} {w : World} {A : Option Addr} {n c : Nat} {l : List RatD} (h : OwRX TI TR b0 w A n c l) : RdRS w A n c l := by
  obtain ⟨g, cs, fs, rfl, h1, h2, h3, h4, h5, h6, h7, h8⟩ := h
  exact h7.rd h5 h2 (by omega) h3
theorem OwRX.bl {TI TR : TypeId} {b0 : Nat} {w W : World} {A : Option Addr} {n c : Nat} {l : List RatD} (h : OwRX TI TR b0 w A n c l) (hb : Bl w W) : OwRX TI TR b0 W A n c l := by
  obtain ⟨g, cs, fs, rfl, h1, h2, h3, h4, h5, h6, h7, h8⟩ := h
  exact ⟨g, cs, fs, rfl, h1, h2, h3, h4, h5.bl hb, h6, h7.bl hb (fun b hm => (h8.2 b hm).2), h8.mono (Nat.le_refl _) hb.size⟩
theorem OwRX.ob {TI TR : TypeId} {b0 : Nat} {w W : World} {A : Option Addr} {n c : Nat} {l : List RatD} {bs : List Nat} (h : OwRX TI TR b0 w A n c l) (ho : Ob bs w W) (hd : ∀ b ∈ bs, b < b0) : OwRX TI TR b0 W A n c l := by
  obtain ⟨g, cs, fs, rfl, h1, h2, h3, h4, h5, h6, h7, h8⟩ := h
  refine ⟨g, cs, fs, rfl, h1, h2, h3, h4, h5.ob ho (fun hm => by have := hd g hm; omega), h6, ⟨h7.1, fun i hi => (h7.2 i hi).keep (fun _ _ => rfl) ho.size fun b hb => ?_⟩, h8.mono (Nat.le_refl _) ho.size⟩
  have hm := h8.2 b (mem_flatten_pix hb)
  exact ho.block b hm.2 fun hx => by have := hd b hx; omega
end

end Go.Proofs.YtjaapemopbbfaaaGreatDoor
