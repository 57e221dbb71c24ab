/- Lemmas. -/
import Derived.Test.YtajlahjghapbkaaGreatRows
import Derived.Test.YtajlahjghapbkaaGreatPRefineM35
import Derived.Test.YtajlahjghapbkaaGreatPRefineM32
import Derived.Test.YtajlahjghapbkaaGreatPRefineM20
namespace Go.Proofs.YtajlahjghapbkaaGreat
section
open Go.RowKit

/-- None of the blocks is among those of xs. -/
def NotIn (xs : List Nat) (fs : List Nat) : Prop := ∀ b ∈ fs, b ∉ xs
theorem appN_notIn (xs : List Nat) : AppN (NotIn xs) :=
  ⟨fun b hb => (by cases hb), fun _ _ h k _ b hb => (List.mem_append.1 hb).elim (h b) (k b)⟩
theorem OwPN.notIn {xs : List Nat} {b0 : Nat} {w : World} {s : Bool} {A : Option Addr} {n c : Nat} {B : Option Addr} {m d : Nat} {t : Bool} {C : Option Addr} {i e : Nat} {D : Option Addr} {j f : Nat} {p : PtD} (h : OwP 3 b0 w s A n c B m d t C i e D j f p) (hx : ∀ b ∈ xs, b < b0) : OwPN (NotIn xs) 3 b0 w s A n c B m d t C i e D j f p := by
  obtain ⟨c1, c2, h1, h2, hf, _⟩ := OwPN.q h
  exact ⟨c1, c2, h1, h2, hf, fun b hb hm => by have := (hf b hb).1; have := hx b hm; omega⟩
theorem RowP.notIn {xs : List Nat} {N : List Nat → Prop} {lo : Nat} {w W : World} {v : Value} {l : List PtD} (h : RowP N lo w.heap.size w v l) (hb : Bl w W) (hx : ∀ b ∈ xs, w.heap.size ≤ b) : RowP (NotIn xs) lo W.heap.size W v l :=
  RowG.up (RowG.keepX (ptIn_keep 3) h hb.size (fun g e => Below.block hb g (RowG.lo h e).2) (fun _ _ hm => ⟨fun b hb' => Below.block hb b (hm b hb').2, fun b hb' hc => by have := (hm b hb').2; have := hx b hc; omega⟩)) hb.size (Nat.le_refl _)
theorem RowP.setX {xs : List Nat} {lo : Nat} {w : World} {v : Value} {l : List PtD} (h : RowP (NotIn xs) lo w.heap.size w v l) {q : Addr} (hq : q.block ∈ xs) (hv : v.ownBlock ≠ some q.block) (u : Value) : RowP (NotIn xs) lo (w.setCell q u).heap.size (w.setCell q u) v l := by
  have hs : (w.setCell q u).heap.size = w.heap.size := by simp
  rw [hs]
  exact RowG.keepX (ptIn_keep 3) h (by simp) (fun g e => Below.heap_setCell w q u g fun e2 => hv (by rw [e, e2])) (fun bs hN _ => ⟨fun b hb => Below.heap_setCell w q u b fun e2 => hN b hb (by rw [e2]; exact hq), hN⟩)
theorem RowP.obX {xs : List Nat} {lo g : Nat} {w W : World} {v : Value} {l : List PtD} (h : RowP (NotIn xs) lo w.heap.size w v l) (ho : Ob [g] w W) (hg : g ∈ xs) (hv : v.ownBlock ≠ some g) : RowP (NotIn xs) lo W.heap.size W v l :=
  RowG.up (RowG.keepX (ptIn_keep 3) h ho.size (fun b e => ho.block b (RowG.lo h e).2 (by simp; rintro rfl; exact hv e)) (fun bs hN hm => ⟨fun b hb => ho.block b (hm b hb).2 (by simp; rintro rfl; exact hN b hb hg), hN⟩)) ho.size (Nat.le_refl _)
theorem Ow.ob' {T : TypeId} {w W : World} {g b : Nat} {l : List Int} (h : Ow T w g l) (ho : Ob [b] w W) (hg : g ≠ b) : Ow T W g l := (ho.block g (Ow.lt h) (by simpa using hg)).trans h
theorem Ow.oth {T : TypeId} {g : Nat} {v v' : Value} {W w' : World} {l : List Int} (h : Ow T W g l) (ho : ∀ g, g < W.heap.size → v.ownBlock ≠ Option.some g → w'.heap[g]? = W.heap[g]? ∧ v'.ownBlock ≠ Option.some g) (hn : v.ownBlock ≠ some g) : Ow T w' g l := (ho g (Ow.lt h) hn).1.trans h
theorem Ob.app {g7 : Nat} {W3 W7 W w8 : World} (hO : Ob [g7] W7 W) (h3 : Bl W3 W7) (h8 : Bl W3 w8) (hs : W.heap.size ≤ w8.heap.size) (hB : ∀ b, b < W7.heap.size → w8.heap[b]? = W.heap[b]?) : Ob [g7] W7 w8 :=
  ⟨(Below.os h8).trans (Below.os h3).symm, (Below.tape h8).trans (Below.tape h3).symm, (Below.output h8).trans (Below.output h3).symm, Nat.le_trans hO.size hs, fun b hb hn => (hB b hb).trans (hO.block b hb hn)⟩
theorem OwT.nil0 {base : Nat} {w : World} {l : List TriD} (h : OwT base w (.slice none 0 0) l) : l = [] := by
  rcases h.2 with ⟨_, h0⟩ | ⟨g, cap, cur, hv, _⟩
  · exact List.length_eq_zero_iff.1 h0
  · cases hv
/-- The midpoints' numbers when the first k edges have been looked at. -/
def mdC (bl : List Bool) (n ne k : Nat) : List Int := (List.range ne).map fun i => if i < k then (if bgt bl i = true then ((n + (lsTo bl i).length : Nat) : Int) else -1) else 0
theorem mdC_len (bl : List Bool) (n ne k : Nat) : (mdC bl n ne k).length = ne := by simp [mdC]
theorem mdC_zero (bl : List Bool) (n ne : Nat) : List.replicate ne 0 = mdC bl n ne 0 := by
  refine List.ext_getElem (by simp [mdC]) fun i h1 h2 => ?_
  simp [mdC]
theorem mdC_all (bl : List Bool) (n ne : Nat) : mdC bl n ne ne = mdTo bl n ne := by
  refine List.ext_getElem (by simp [mdC, mdTo]) fun i h1 h2 => ?_
  have : i < ne := by simpa [mdC] using h1
  simp [mdC, mdTo, this]
theorem mdC_set {bl : List Bool} {n ne k : Nat} {x : Int} (hx : (if bgt bl k = true then ((n + (lsTo bl k).length : Nat) : Int) else -1) = x) : (mdC bl n ne k).set k x = mdC bl n ne (k + 1) := by
  refine List.ext_getElem (by simp [mdC]) fun i h1 h2 => ?_
  rw [List.getElem_set]
  by_cases e : k = i
  · subst e
    rw [if_pos rfl]
    simp only [mdC, List.getElem_map, List.getElem_range]
    rw [if_pos (Nat.lt_succ_self _), hx]
  · rw [if_neg e]
    simp only [mdC, List.getElem_map, List.getElem_range]
    by_cases h : i < k
    · have h3 : i < k + 1 := by omega
      simp only [h, h3, if_true]
    · have h3 : ¬ i < k + 1 := by omega
      simp only [h, h3, if_false]
theorem mdC_no {bl : List Bool} {n ne k : Nat} (h : bgt bl k = false) : (mdC bl n ne k).set k (-1) = mdC bl n ne (k + 1) := mdC_set (by rw [h]; rfl)
theorem mdC_yes {bl : List Bool} {n ne k : Nat} (h : bgt bl k = true) : ((mdC bl n ne k).set k (-1)).set k ((n + (lsTo bl k).length : Nat) : Int) = mdC bl n ne (k + 1) := by
  rw [List.set_set]
  exact mdC_set (by rw [h]; rfl)
theorem bpM_yes (mq : MeQ) (L : List EdD) {bl : List Bool} {k : Nat} (h : bgt bl k = true) : (bpTo mq L bl k).map tp ++ [tp (mdP mq L (k : Int))] = (bpTo mq L bl (k + 1)).map tp := by rw [bpTo_yes mq L h, List.map_append]; rfl
theorem bisected2 {g5 g8 : Nat} {L : List EdD} {md : List Int} (hs : SrtE L) (w : World) (t : TriD) (hM : MidAt w g5 g8 L md) (hl : -1000 ≤ t.level ∧ t.level ≤ 998) :
    Calls Tryz.prog 187 #[.agg #[.int .i64 t.a, .int .i64 t.b, .int .i64 t.c, .int .i64 t.region, .int .i64 t.level], .func (.func 186) #[] #[.pointer (some ⟨g5, 0, none⟩), .pointer (some ⟨g8, 0, none⟩)], .int .i64 2] w (TrisOw w (bsT (midF L md) 2 t)) :=
  bisected_any hs 2 (by omega) w t hM (by simpa using hl)
/-- The mesh lies in memory that was made since block b0. -/
def MeOw (b0 : Nat) (w : World) (v : Value) (mq : MeQ) : Prop := MeAt w v mq ∧ ∀ w', w.heap.size ≤ w'.heap.size → (∀ b, b0 ≤ b → b < w.heap.size → w'.heap[b]? = w.heap[b]?) → MeAt w' v mq
section
variable {b0 b1 : Nat} {w W : World} {v : Value} {mq : MeQ}
theorem MeOw.bl (h : MeOw b0 w v mq) (hb : Bl w W) : MeOw b0 W v mq :=
  ⟨h.1.bl hb, fun w' hs hk => h.2 w' (Nat.le_trans hb.size hs) fun b h1 h2 => (hk b h1 (Nat.lt_of_lt_of_le h2 hb.size)).trans (Below.block hb b h2)⟩
theorem MeOw.low (h : MeOw b1 w v mq) (hb : b0 ≤ b1) : MeOw b0 w v mq := ⟨h.1, fun w' hs hk => h.2 w' hs fun b h1 h2 => hk b (Nat.le_trans hb h1) h2⟩
theorem MeOw.setLow (h : MeOw b0 w v mq) {q : Addr} (hq : q.block < b0) (u : Value) : MeOw b0 (w.setCell q u) v mq :=
  ⟨h.2 _ (by simp) fun b h1 _ => Below.heap_setCell w q u b (by omega), fun w' hs hk => h.2 w' (by simpa using hs) fun b h1 h2 => (hk b h1 (by simpa using h2)).trans (Below.heap_setCell w q u b (by omega))⟩
theorem MeOw.of {N : List Nat → Prop} {lo gp n c gt m ct : Nat} (hrow : RowP N lo w.heap.size w (.slice (some ⟨gp, 0, none⟩) n c) (mq.pts.map tp)) (hT : OwT b1 w (.slice (some ⟨gt, 0, none⟩) m ct) mq.tris) (h1 : b0 ≤ lo) (h2 : b0 ≤ b1) (hlen : mq.pts.length ≤ 1048576) : MeOw b0 w (.agg #[.slice (some ⟨gp, 0, none⟩) n c, .slice (some ⟨gt, 0, none⟩) m ct]) mq := by
  have key : ∀ w', w.heap.size ≤ w'.heap.size → (∀ b, b0 ≤ b → b < w.heap.size → w'.heap[b]? = w.heap[b]?) → MeAt w' (.agg #[.slice (some ⟨gp, 0, none⟩) n c, .slice (some ⟨gt, 0, none⟩) m ct]) mq := fun w' hs hk => by
    have hr := RowG.keep (ptIn_keep 3) hrow hs fun b h3 h4 => hk b (Nat.le_trans h1 h3) h4
    have ht := hT.keep fun g e => hk g (Nat.le_trans h2 (hT.blk e).1) (hT.blk e).2
    obtain ⟨gt', ct', e, _, hTr, _, _⟩ := ht.lit (fun e => by cases e)
    injection e with e1 e2 e3
    injection e1 with e1
    injection e1 with e1
    subst e1 e3
    rw [← e2] at hTr
    exact ⟨gp, n, c, gt, m, ct, rfl, RowP.rdN hr (by rw [List.length_map]; exact hlen), hTr⟩
  exact ⟨key w (Nat.le_refl _) fun _ _ _ => rfl, key⟩
end
/-- A mesh in memory of one's own. -/
def MeRes (w : World) (mq : MeQ) (e : Ending) (w' : World) : Prop := ∃ v2, e = .returned v2 ∧ MeOw w.heap.size w' v2 mq ∧ Bl w w'
end

end Go.Proofs.YtajlahjghapbkaaGreat
