/- Lemmas. -/
import Derived.Test.YtjaapemopbbfaaaGreatDoorRows
import Derived.Test.YtjaapemopbbfaaaGreatDoorPPointsM16
import Derived.IntWalk
import Derived.Lib.MinMax
import Derived.Deep.Cut
import Derived.Deep.DeepCutAuto
import Derived.Test.YtjaapemopbbfaaaGreatDoorPPointsM05
import Derived.Test.YtjaapemopbbfaaaGreatDoorPPointsM27
import Derived.Test.YtjaapemopbbfaaaGreatDoorPPointsM28
import Derived.Test.YtjaapemopbbfaaaGreatDoorPPointsM25
import Derived.OrdersHeld
import Derived.RegionTactic
import Derived.OrdersIn
import Derived.RangeFuncNested
import Derived.RangeFuncBound
import Derived.RangeFuncCalls
import Derived.RangeFuncLeaves
import Derived.Shelf.Abstract
import Derived.Shelf.RegionOpen
import Derived.WalkKit
import Derived.OwnWalkIn
import Derived.TacticsInMore
import Derived.LoopNIn
import Derived.LoopIn
import Derived.Test.YtjaapemopbbfaaaGreatDoorPPointsM14
import Derived.Test.YtjaapemopbbfaaaGreatDoorPPointsM12
namespace Go.Proofs.YtjaapemopbbfaaaGreatDoor
section
open Go.RowKit
end

section
open Go.RowKit

/-- The corners are numbers of points. -/
def TrIx (n : Nat) (t : TriD) : Prop := (0 ≤ t.a ∧ t.a < n) ∧ (0 ≤ t.b ∧ t.b < n) ∧ 0 ≤ t.c ∧ t.c < n
instance (n : Nat) (t : TriD) : Decidable (TrIx n t) := by unfold TrIx; infer_instance
end

section
open Go.RowKit

/-- c lies inside the edge from a to b. -/
def insI (xs ys : List Int) (a b c : Int) : Prop :=
  trn xs ys a b c = 0 ∧ (min (ix xs a.toNat) (ix xs b.toNat) ≤ ix xs c.toNat ∧ ix xs c.toNat ≤ max (ix xs a.toNat) (ix xs b.toNat)) ∧ min (ix ys a.toNat) (ix ys b.toNat) ≤ ix ys c.toNat ∧ ix ys c.toNat ≤ max (ix ys a.toNat) (ix ys b.toNat)
instance (xs ys : List Int) (a b c : Int) : Decidable (insI xs ys a b c) := by unfold insI; infer_instance
end

section
open Go.RowKit

def TrsIx (n : Nat) (ts : List TriD) : Prop := ∀ k, k < ts.length → TrIx n (pix ts k)
instance (n : Nat) (ts : List TriD) : Decidable (TrsIx n ts) := by unfold TrsIx; infer_instance
/-- No point lies inside the edge from a to b. -/
def NoIn1 (n : Nat) (xs ys : List Int) (a b : Int) : Prop := ∀ c : Nat, c < n → (c : Int) ≠ a → (c : Int) ≠ b → ¬ insI xs ys a b c
instance (n : Nat) (xs ys : List Int) (a b : Int) : Decidable (NoIn1 n xs ys a b) := by unfold NoIn1; infer_instance
def NoIn (n : Nat) (xs ys : List Int) (ts : List TriD) : Prop := ∀ k, k < ts.length → NoIn1 n xs ys (pix ts k).a (pix ts k).b ∧ NoIn1 n xs ys (pix ts k).b (pix ts k).c ∧ NoIn1 n xs ys (pix ts k).c (pix ts k).a
instance (n : Nat) (xs ys : List Int) (ts : List TriD) : Decidable (NoIn n xs ys ts) := by unfold NoIn; infer_instance
end

section
open Go.RowKit

theorem flat_get : ∀ (l : List EdD) {k j : Nat}, k < l.length → j < 4 → (l.flatMap encE)[k * 4 + j]? = (encE (pix l k))[j]?
  | [], k, j, hk, _ => by simp at hk
  | x :: xs, k, j, hk, hj => by
    have h4 : (encE x).length = 4 := rfl
    rw [List.flatMap_cons]
    rcases k with _ | k
    · rw [List.getElem?_append_left (by omega), pix_zero]
      congr 1
      omega
    · rw [List.getElem?_append_right (by omega), h4, pix_succ, show (k + 1) * 4 + j - 4 = k * 4 + j by omega]
      exact flat_get xs (by simpa using hk) hj
section
variable {base : Nat} {w W : World} {v : Value} {l : List EdD}
theorem OwEd.empty (w : World) (hb : base ≤ w.heap.size) : OwEd base (w.alloc (.cells #[] 152)) (.slice (some ⟨w.heap.size, 0, none⟩) 0 0) [] := World.ownsRow_made w #[] 0 hb (Nat.zero_le _) (by simp)
theorem OwEd.keep (h : OwEd base w v l) (h1 : ∀ g, v.ownBlock = Option.some g → W.heap[g]? = w.heap[g]?) : OwEd base W v l := by
  refine ⟨h.1, ?_⟩
  rcases h.2 with h2 | ⟨g, cap, cur, hv, hg, hh, r⟩
  · exact .inl h2
  · exact .inr ⟨g, cap, cur, hv, hg, (h1 g (by rw [hv]; rfl)).trans hh, r⟩
theorem OwEd.blk (h : OwEd base w v l) {g : Nat} (hg : v.ownBlock = Option.some g) : base ≤ g ∧ g < w.heap.size := World.ownsRow.lt h g hg
theorem OwEd.bl (h : OwEd base w v l) (hb : Bl w W) : OwEd base W v l := h.keep fun g e => Below.block hb g (h.blk e).2
/-- The row, opened. -/
theorem OwEd.lit (h : OwEd base w v l) (hnil : v ≠ .slice none 0 0) : ∃ g c, v = .slice (some ⟨g, 0, none⟩) l.length c ∧ base ≤ g ∧ l.length ≤ c ∧ c ≤ 9223372036854775807 ∧ (∀ k, k < l.length → EdAt w ⟨g, k * 4, none⟩ (pix l k)) ∧ g < w.heap.size ∧ (∀ o, w.frozen? ⟨g, o, none⟩ = false) := by
  obtain ⟨hcl, ⟨h, _⟩ | ⟨g, cap, cur, rfl, hg, hh, hnc, hm, hcs, htk⟩⟩ := id h
  · exact absurd h hnil
  refine ⟨g, cap, rfl, hg, hnc, by unfold maxLen at hm; omega, fun k hk => ?_, heap_lt hh, fun o => by simp [World.frozen?, hh]⟩
  have hc : ∀ j u, j < 4 → (encE (pix l k))[j]? = some u → w.cell? ⟨g, k * 4 + j, none⟩ = some u := fun j u hj hu => row_cell hh htk (by rw [flat_get l hk hj]; exact hu)
  exact ⟨hc 0 _ (by omega) rfl, hc 1 _ (by omega) rfl, hc 2 _ (by omega) rfl, hc 3 _ (by omega) rfl⟩
theorem OwEd.rd {g c : Nat} (h : OwEd base w (.slice (some ⟨g, 0, none⟩) l.length c) l) : RdES w (some ⟨g, 0, none⟩) l.length c l := by
  obtain ⟨g', c', e, h1, h2, h3, h4, h5, h6⟩ := h.lit (fun e => by cases e)
  injection e with q1 q2 q3
  injection q1 with q1
  injection q1 with q1
  subst q1 q3
  exact ⟨rfl, h2, by omega, fun k hk => ⟨_, rfl, h5, by rw [Addr.add_lit, Nat.zero_add]; exact h4 k hk⟩⟩
end
end

section
open Go.RowKit

def encT (t : TriD) : List Value := [.int .i64 t.a, .int .i64 t.b, .int .i64 t.c, .int .i64 t.region, .int .i64 t.level]
theorem flatT_get : ∀ (l : List TriD) {k j : Nat}, k < l.length → j < 5 → (l.flatMap encT)[k * 5 + j]? = (encT (pix l k))[j]?
  | [], k, j, hk, _ => by simp at hk
  | x :: xs, k, j, hk, hj => by
    have h4 : (encT x).length = 5 := rfl
    rw [List.flatMap_cons]
    rcases k with _ | k
    · rw [List.getElem?_append_left (by omega), pix_zero]
      congr 1
      omega
    · rw [List.getElem?_append_right (by omega), h4, pix_succ, show (k + 1) * 5 + j - 5 = k * 5 + j by omega]
      exact flatT_get xs (by simpa using hk) hj
/-- A row of triangles in memory of one's own. -/
def OwT (base : Nat) (w : World) (v : Value) (l : List TriD) : Prop := w.ownsRow base 83 5 v l.length (l.flatMap encT)
section
variable {base : Nat} {w W : World} {v : Value} {l : List TriD}
theorem OwT.empty (w : World) (hb : base ≤ w.heap.size) : OwT base (w.alloc (.cells #[] 83)) (.slice (some ⟨w.heap.size, 0, none⟩) 0 0) [] := World.ownsRow_made w #[] 0 hb (Nat.zero_le _) (by simp)
theorem OwT.keep (h : OwT base w v l) (h1 : ∀ g, v.ownBlock = Option.some g → W.heap[g]? = w.heap[g]?) : OwT base W v l := by
  refine ⟨h.1, ?_⟩
  rcases h.2 with h2 | ⟨g, cap, cur, hv, hg, hh, r⟩
  · exact .inl h2
  · exact .inr ⟨g, cap, cur, hv, hg, (h1 g (by rw [hv]; rfl)).trans hh, r⟩
theorem OwT.blk (h : OwT base w v l) {g : Nat} (hg : v.ownBlock = Option.some g) : base ≤ g ∧ g < w.heap.size := World.ownsRow.lt h g hg
theorem OwT.bl (h : OwT base w v l) (hb : Bl w W) : OwT base W v l := h.keep fun g e => Below.block hb g (h.blk e).2
/-- The row, opened. -/
theorem OwT.lit (h : OwT base w v l) (hnil : v ≠ .slice none 0 0) : ∃ g c, v = .slice (some ⟨g, 0, none⟩) l.length c ∧ base ≤ g ∧ RdTS w (some ⟨g, 0, none⟩) l.length c l ∧ g < w.heap.size ∧ (∀ o, w.frozen? ⟨g, o, none⟩ = false) := by
  obtain ⟨hcl, ⟨h, _⟩ | ⟨g, cap, cur, rfl, hg, hh, hnc, hm, hcs, htk⟩⟩ := id h
  · exact absurd h hnil
  have hc : ∀ k j u, k < l.length → j < 5 → (encT (pix l k))[j]? = some u → w.cell? ⟨g, k * 5 + j, none⟩ = some u := fun k j u hk hj hu => row_cell hh htk (by rw [flatT_get l hk hj]; exact hu)
  refine ⟨g, cap, rfl, hg, ⟨rfl, hnc, by unfold maxLen at hm; omega, fun k hk => ⟨_, rfl, heap_lt hh, ?_⟩⟩, heap_lt hh, fun o => by simp [World.frozen?, hh]⟩
  rw [Addr.add_lit, Nat.zero_add]
  exact ⟨hc k 0 _ hk (by omega) rfl, hc k 1 _ hk (by omega) rfl, hc k 2 _ hk (by omega) rfl, hc k 3 _ hk (by omega) rfl, hc k 4 _ hk (by omega) rfl⟩
end
end

section
open Go.RowKit
end

section
open Go.RowKit

theorem RowP.lit {N : List Nat → Prop} {lo hi : Nat} {w : World} {v : Value} {l : List PtD} (h : RowP N lo hi w v l) (hl : 0 < l.length) (hl2 : l.length ≤ 1048576) : ∃ g c, v = .slice (some ⟨g, 0, none⟩) l.length c ∧ lo ≤ g ∧ RdPS w (some ⟨g, 0, none⟩) l.length c l := by
  obtain ⟨A, c, e, hr⟩ := RowP.rd h hl2
  obtain ⟨cells, fs, h1, _⟩ := h
  rcases h1.2 with ⟨rfl, h0⟩ | ⟨g, cap, cur, rfl, hg, _⟩
  · omega
  · injection e with e1 e2 e3
    subst e1 e3
    exact ⟨g, cap, rfl, hg, hr⟩
theorem OwT.low {base b1 : Nat} {w : World} {v : Value} {l : List TriD} (h : OwT b1 w v l) (hb : base ≤ b1) : OwT base w v l := by
  refine ⟨h.1, ?_⟩
  rcases h.2 with h2 | ⟨g, cap, cur, hv, hg, r⟩
  · exact .inl h2
  · exact .inr ⟨g, cap, cur, hv, Nat.le_trans hb hg, r⟩
end

section
open Go.RowKit
attribute [local go_sem] Oper.semAt_some

theorem Bl.others {w w' : World} (h : Bl w w') : KeepsOthers w w' := ⟨h.size, fun k _ hk _ => (h.block k (heap_lt hk)).trans hk⟩
/-- The blocks ys are kept. -/
def Kps (ys : List Nat) (A B : World) : Prop := ∀ x ∈ ys, B.heap[x]? = A.heap[x]?
theorem Kps.refl (ys : List Nat) (A : World) : Kps ys A A := fun _ _ => rfl
theorem Kps.trans {ys : List Nat} {A B C : World} (h : Kps ys A B) (k : Kps ys B C) : Kps ys A C := fun x hx => (k x hx).trans (h x hx)
theorem Kps.cell {ys : List Nat} {A B : World} (h : Kps ys A B) {p : Addr} (hx : p.block ∈ ys) : B.cell? p = A.cell? p := World.cell?_of_block (h _ hx)
/-- An iterator that hands N rounds, the k-th one the values encs k; its rounds keep the blocks ys. -/
def CntSeq (n : Nat) (P : Program) (g : Nat) (lb : Array Value) (encs : Nat → Array Value) (ys : List Nat) (N : Nat) (w : World) : Prop :=
  ∀ (l : Nat) (J Jx : Nat → World → Prop) (W : World), Below w.heap.size w W → (∀ k A B, J k A → Ob [] A B → J k B) →
    (∀ k W1, J k W1 → k < N → YieldAt Fence.wide (n - 1) P l (encs k) W1 fun e W' => (e = .returned (.bool true) ∧ J (k + 1) W' ∧ Kps ys W1 W') ∨ (e = .returned (.bool false) ∧ Jx (k + 1) W')) →
    J 0 W → CallsIn Fence.wide n P g (#[.func (.yield l) #[] #[]] ++ lb) W fun e W' => (∃ v, e = .returned v) ∧ (J N W' ∨ ∃ k, Jx k W')
/-- What a round leaves. -/
def cntPost (ys : List Nat) (I : Nat → World → Prop) (Ix : Code → Nat → World → Prop) (k : Nat) (W : World) : Exit → Act → World → Prop
  | .normal, _, W' => KeepsOthers W W' ∧ Kps ys W W' ∧ I k W'
  | .ret, _, W' => KeepsOthers W W' ∧ Ix .ret k W'
  | .exit i, _, W' => KeepsOthers W W' ∧ Ix (.exit i) k W'
  | .goto t, _, W' => KeepsOthers W W' ∧ Ix (.goto t) k W'
  | .panic _, _, _ => False
  | .outgrown, _, _ => False
/-- A range over such an iterator. (The book-keeping is the library's own, of wpIn_rangeFunc_ownF; here the rounds are counted, so that the body knows which value it is handed.) -/
theorem wp_rangeCnt {n : Nat} {P : Program} {g : Operand} {ps : Array Tmp} {assign body : Code} {Q : Exit → Act → World → Prop} {a : Act} {w : World} (h1 : 1 ≤ n) {gf : Nat} {lb : Array Value}
    (hg : a.eval g = .func (.func gf) #[] lb) (eg : ∀ args w, (callFunc gf args).run P w = .ok (.enter gf args) w) {encs : Nat → Array Value} {ys : List Nat} {N : Nat} (hseq : CntSeq (n - 1) P gf lb encs ys N w) (hys : ∀ y ∈ ys, y < w.heap.size) (hps : ∀ k, (encs k).size = ps.size)
    (I : Nat → World → Prop) (Ix : Code → Nat → World → Prop) (hI : ∀ k A B, I k A → Ob [w.heap.size, w.heap.size + 1] A B → I k B) (hIx : ∀ c k A B, Ix c k A → Ob [w.heap.size, w.heap.size + 1] A B → Ix c k B) (h0 : I 0 w) (f : Nat → Act → Act)
    (hassign : ∀ (l k : Nat) (W : World) (K : Act → World → Prop), K (f k a) W → assign.wpIn (Fence.wide.inRound l) (n - 1 - 1) P (Exit.then K (fun _ _ _ => False)) { tmps := (ps.zip (encs k)).foldl (fun t (p, v) => t.setIfInBounds p v) a.tmps, defers := [] } W)
    (hbody : ∀ (l k : Nat) (W : World), w.heap.size + 2 ≤ W.heap.size → I k W → k < N → body.wpIn (Fence.wide.inRound l) (n - 1 - 1) P (cntPost ys I Ix (k + 1) W) (f k a) W)
    (hdone : ∀ (D : Nat) (W : World), D = w.heap.size → I N W → W.heap[D]? = some (.deferred (some [])) → Q .normal { a with defers := { target := .collected D, args := #[] } :: a.defers } W)
    (hstop : ∀ (D : Nat) (c : Code) (k : Nat) (W : World), D = w.heap.size → Ix c k W → W.heap[D]? = some (.deferred (some [])) → c.wpIn Fence.wide n P Q { a with defers := { target := .collected D, args := #[] } :: a.defers } W) :
    (Code.rangeFunc g ps assign body).wpIn Fence.wide n P Q a w := by
  have hput : ∀ (A : World) (o : Obj), Ob [w.heap.size, w.heap.size + 1] A (A.putObj (w.heap.size + 1) o) := fun A o => ⟨rfl, rfl, rfl, by simp, fun k _ hn => World.putObj_heap_other (fun e => hn (by rw [e]; simp))⟩
  have hkp : ∀ (A : World) (o : Obj), Kps ys A (A.putObj (w.heap.size + 1) o) := fun A o x hx => World.putObj_heap_other (by have := hys x hx; omega)
  refine wpIn_rangeFunc ?_
  intro fn hfn
  rw [show Fence.wide.round = none from rfl]
  obtain ⟨rec, hrec⟩ : ∃ rec : LoopState → Option Code → Loop, rec = fun st pe => { state := st, pending := pe, fn, tmps := a.tmps, params := ps, assign, body, defers := w.heap.size } := ⟨_, rfl⟩
  obtain ⟨V, hV⟩ : ∃ V, (w.alloc (.deferred (some []))).alloc (.loop (rec .ready none)) = V := ⟨_, rfl⟩
  have hL : V.heap[w.heap.size + 1]? = some (.loop (rec .ready none)) := by
    have h := World.alloc_heap_new (w.alloc (.deferred (some []))) (.loop (rec .ready none))
    rw [World.size_alloc, hV] at h
    exact h
  have hK : V.heap[w.heap.size]? = some (.deferred (some [])) := by rw [← hV]; exact (Below.heap_alloc _ _ _ (by simp)).trans (World.alloc_heap_new w _)
  have hIV : I 0 V := by rw [← hV]; exact hI 0 w _ h0 (Ob.of_bl (((Bl.refl w).alloc _).alloc _) _)
  have hBV : Below w.heap.size w V := by rw [← hV]; exact ((Below.refl _ w).alloc (Nat.le_refl _) _).alloc (by simp) _
  refine ⟨w.heap.size + 1, [{ target := .collected w.heap.size, args := #[] }], V, { target := .fn (.func gf) lb, args := #[.func (.yield (w.heap.size + 1)) #[] #[]] }, V, gf, #[.func (.yield (w.heap.size + 1)) #[] #[]] ++ lb, V, ?_, ?_, ?_, ?_, fun _ => h1, ?_⟩
  · rw [← hV, hrec]
    exact run_enterLoop_outer _ _ _ _ _
  · simp only [resolve, hg]
    simp [go_sem]
  · intro f hf
    simp [Target.leads] at hf
    subst hf
    trivial
  · simp [invoke, go_sem, eg]
  · refine (hseq (w.heap.size + 1) (fun k W => I k W ∧ W.heap[w.heap.size + 1]? = some (.loop (rec .ready none)) ∧ W.heap[w.heap.size]? = some (.deferred (some [])))
      (fun k W => ∃ c, Ix c k W ∧ W.heap[w.heap.size + 1]? = some (.loop (rec .done (some c))) ∧ W.heap[w.heap.size]? = some (.deferred (some []))) V hBV ?_ ?_ ⟨hIV, hL, hK⟩).mono ?_
    · exact fun k A B hs ho => ⟨hI k A B hs.1 (ho.mono (by simp)), (ho.block _ (heap_lt hs.2.1) (by simp)).trans hs.2.1, (ho.block _ (heap_lt hs.2.2) (by simp)).trans hs.2.2⟩
    · rintro k W ⟨hi, hl, hk⟩ hkN
      have hlt := heap_lt hl
      have hy := run_yield (P := P) (args := encs k) hl (by rw [hrec]; exact hps k)
      rw [hrec] at hy
      refine ⟨fn, _, assign, body, hy, roundIn_of_wpIn hfn (hassign _ k W _ ⟨_, run_beginRound hl (by rw [hrec]), ?_⟩)⟩
      obtain ⟨B, hB⟩ : ∃ B, W.putObj (w.heap.size + 1) (.loop { rec .ready none with state := .busy }) = B := ⟨_, rfl⟩
      have hl2 : B.heap[w.heap.size + 1]? = some (.loop { rec .ready none with state := .busy }) := by rw [← hB]; exact World.putObj_heap_same hlt
      have hk2 : B.heap[w.heap.size]? = some (.deferred (some [])) := by rw [← hB]; exact (World.putObj_heap_other (by omega)).trans hk
      have hw2 : Kps ys W B := by rw [← hB]; exact hkp _ _
      have hsB : w.heap.size + 2 ≤ B.heap.size := by rw [← hB]; simp; omega
      have hiB : I k B := by rw [← hB]; exact hI k _ _ hi (hput _ _)
      subst hB
      refine wpIn_mono (hbody _ k _ hsB hiB hkN) ?_
      have fin : ∀ (j : Option Code) (U : World), KeepsOthers (W.putObj (w.heap.size + 1) (.loop { rec .ready none with state := .busy })) U → (Instr.endRound (w.heap.size + 1) j).run P U = .ok (.bool j.isNone) (U.putObj (w.heap.size + 1) (.loop (rec (if j.isNone then .ready else .done) j))) ∧ U.heap[w.heap.size + 1]? = some (.loop { rec .ready none with state := .busy }) ∧
          (U.putObj (w.heap.size + 1) (.loop (rec (if j.isNone then .ready else .done) j))).heap[w.heap.size + 1]? = some (.loop (rec (if j.isNone then .ready else .done) j)) ∧ (U.putObj (w.heap.size + 1) (.loop (rec (if j.isNone then .ready else .done) j))).heap[w.heap.size]? = some (.deferred (some [])) := fun j U hU => by
        have h3 := hU.same _ _ hl2 rfl
        have h4 := run_endRound (P := P) j h3
        rw [hrec] at h3 h4 ⊢
        exact ⟨h4, h3, World.putObj_heap_same (heap_lt h3), (World.putObj_heap_other (by omega)).trans (hU.same _ _ hk2 rfl)⟩
      have stop : ∀ (c : Code) (U : World), KeepsOthers (W.putObj (w.heap.size + 1) (.loop { rec .ready none with state := .busy })) U → Ix c (k + 1) U → ∃ c', Ix c' (k + 1) (U.putObj (w.heap.size + 1) (.loop (rec (if (some c).isNone then .ready else .done) (some c)))) ∧ (U.putObj (w.heap.size + 1) (.loop (rec (if (some c).isNone then .ready else .done) (some c)))).heap[w.heap.size + 1]? = some (.loop (rec .done (some c'))) ∧
          (U.putObj (w.heap.size + 1) (.loop (rec (if (some c).isNone then .ready else .done) (some c)))).heap[w.heap.size]? = some (.deferred (some [])) := fun c U hU hx => by
        obtain ⟨_, _, h4, h5⟩ := fin (some c) U hU
        exact ⟨c, hIx c _ _ _ hx (hput _ _), h4, h5⟩
      rintro e a3 U hp
      cases e with
      | normal =>
        obtain ⟨hU, hb, hi3⟩ := hp
        obtain ⟨hr, _, h4, h5⟩ := fin none U hU
        exact ⟨_, _, hr, .inl ⟨rfl, ⟨hI _ _ _ hi3 (hput _ _), h4, h5⟩, (hw2.trans hb).trans (hkp _ _)⟩⟩
      | ret => exact ⟨_, _, (fin (some .ret) U hp.1).1, .inr ⟨rfl, stop _ U hp.1 hp.2⟩⟩
      | exit i => exact ⟨_, _, (fin (some (.exit i)) U hp.1).1, .inr ⟨rfl, stop _ U hp.1 hp.2⟩⟩
      | goto t => exact ⟨_, _, (fin (some (.goto t)) U hp.1).1, .inr ⟨rfl, stop _ U hp.1 hp.2⟩⟩
      | panic c => exact hp.elim
      | outgrown => exact hp.elim
    · rintro e U ⟨⟨v, rfl⟩, (⟨hi, hl, hk⟩ | ⟨k, c, hi, hl, hk⟩)⟩
      · have h := run_endLoop (P := P) hl (by rw [hrec]; simp)
        rw [hrec] at h
        exact ⟨none, _, h, hdone _ _ rfl (hI _ _ _ hi (hput _ _)) ((World.putObj_heap_other (by omega)).trans hk)⟩
      · have h := run_endLoop (P := P) hl (by rw [hrec]; simp)
        rw [hrec] at h
        exact ⟨some c, _, h, hstop _ c k _ rfl (hIx c _ _ _ hi (hput _ _)) ((World.putObj_heap_other (by omega)).trans hk)⟩

section
variable {P : Program} {ops : Array Oper} {Q : Exit → Act → World → Prop} {md : Region.Mode} {S : World → Prop}
end

set_option maxHeartbeats 4000000 in
theorem Backward_any (w : World) (a : Option Addr) (len cap : Nat) :
    Calls Tryz.prog 148 #[.slice a len cap] w fun e w' => e = .returned (.func (.func 193) #[] #[.pointer (some ⟨w.heap.size, 0, none⟩)]) ∧ Bl w w' ∧ Blk w' w.heap.size 22 #[.slice a len cap] := by
  go_enter Tryz.func148, Tryz.ntmps148
  go_wp2_with fail
  go_ret
  exact ⟨rfl, slc, bts⟩
end

end Go.Proofs.YtjaapemopbbfaaaGreatDoor
