/- Lemmas. -/
import Derived.Test.YtjaapemopbbfaaaGreatDoorRows
import Derived.Test.YtjaapemopbbfaaaGreatDoorPPointsM16
import Derived.Test.YtjaapemopbbfaaaGreatDoorPPointsM24
import Derived.Test.YtjaapemopbbfaaaGreatDoorPPointsM15
import Derived.Test.YtjaapemopbbfaaaGreatDoorPPointsM01
namespace Go.Proofs.YtjaapemopbbfaaaGreatDoor
section
open Go.RowKit

/-- Blocks that all differ, and differ from the block of a row. -/
def Sep (vt : Value) (bs : List Nat) : Prop := bs.Nodup ∧ ∀ g, vt.ownBlock = Option.some g → g ∉ bs
theorem appN_sep (vt : Value) : AppN (Sep vt) :=
  ⟨⟨List.nodup_nil, fun g _ => by simp⟩, fun a b ha hb hd => ⟨List.nodup_append.2 ⟨ha.1, hb.1, hd⟩, fun g e hm => by rcases List.mem_append.1 hm with h | h; exact ha.2 g e h; exact hb.2 g e h⟩⟩
theorem RowG.shape {α : Type} [Inhabited α] {N : List Nat → Prop} {TP : TypeId} {size lo hi : Nat} {El : World → Array Value → Nat → α → List Nat → Prop} {w : World} {v : Value} {l : List α} (h : RowG N TP size El lo hi w v l) : ∃ A n c, v = .slice A n c := by
  obtain ⟨_, _, h1, _⟩ := h
  rcases h1.2 with ⟨rfl, _⟩ | ⟨g, cap, cur, rfl, _⟩
  · exact ⟨_, _, _, rfl⟩
  · exact ⟨_, _, _, rfl⟩
theorem RowG.lo {α : Type} [Inhabited α] {N : List Nat → Prop} {TP : TypeId} {size lo hi : Nat} {El : World → Array Value → Nat → α → List Nat → Prop} {w : World} {v : Value} {l : List α} (h : RowG N TP size El lo hi w v l) {g : Nat} (hg : v.ownBlock = Option.some g) : lo ≤ g ∧ g < hi := by
  obtain ⟨_, _, h1, h2, _⟩ := h
  exact ⟨(World.ownsRow.lt h1 g hg).1, h2 g hg⟩
theorem RowG.up {α : Type} [Inhabited α] {N : List Nat → Prop} {TP : TypeId} {size lo hi hi' : Nat} {El : World → Array Value → Nat → α → List Nat → Prop} {w : World} {v : Value} {l : List α} (h : RowG N TP size El lo hi w v l) (h1 : hi ≤ hi') (h2 : hi' ≤ w.heap.size) : RowG N TP size El lo hi' w v l := by
  obtain ⟨cells, fs, r1, r2, r3, r4, r5, r6, r7⟩ := h
  exact ⟨cells, fs, r1, fun g e => Nat.lt_of_lt_of_le (r2 g e) h1, r3, r4, fun b hm => ⟨(r5 b hm).1, Nat.lt_of_lt_of_le (r5 b hm).2.1 h1, (r5 b hm).2.2⟩, r6, h2⟩
theorem RowT.keep {lo hi : Nat} {w W : World} {v : Value} {l : List TriD} (h : RowT lo hi w v l) (hs : w.heap.size ≤ W.heap.size) (h1 : ∀ g, v.ownBlock = Option.some g → W.heap[g]? = w.heap[g]?) : RowT lo hi W v l := by
  obtain ⟨cells, fs, r1, r2, r3, r4, r5, r6, r7⟩ := h
  refine ⟨cells, fs, ⟨r1.1, ?_⟩, r2, r3, fun i hi => r4 i hi, r5, r6, Nat.le_trans r7 hs⟩
  rcases r1.2 with h | ⟨g, cap, cur, rfl, hg, hh, r⟩
  · exact .inl h
  · exact .inr ⟨g, cap, cur, rfl, hg, (h1 g rfl).trans hh, r⟩
/-- The points and the triangles of a mesh that is being built. -/
def MR (lo : Nat) (w : World) (vp vt : Value) (l : List PtD) (t : List TriD) : Prop :=
  RowP (Sep vt) lo w.heap.size w vp l ∧ RowT lo w.heap.size w vt t ∧ ∀ g, vt.ownBlock = Option.some g → vp.ownBlock ≠ Option.some g
section
variable {lo : Nat} {w W w' : World} {vp vt vp' vt' : Value} {l l' : List PtD} {t t' : List TriD}
theorem MR.nil (w : World) : MR lo w (.slice none 0 0) (.slice none 0 0) [] [] :=
  ⟨RowG.nil (appN_sep _) w (Nat.le_refl _), RowG.nil appN_any w (Nat.le_refl _), fun g e => by cases e⟩
theorem MR.bl (h : MR lo w vp vt l t) (hb : Bl w W) : MR lo W vp vt l t :=
  ⟨(RowG.bl (ptIn_keep 3) h.1 hb).up hb.size (Nat.le_refl _), (RowG.bl trIn_keep h.2.1 hb).up hb.size (Nat.le_refl _), h.2.2⟩
theorem MR.set (h : MR lo w vp vt l t) {q : Addr} (hq : q.block < lo) (u : Value) : MR lo (w.setCell q u) vp vt l t := by
  have hs : (w.setCell q u).heap.size = w.heap.size := by simp
  refine ⟨?_, ?_, h.2.2⟩
  · rw [hs]
    exact RowG.keep (ptIn_keep 3) h.1 (by omega) fun b h1 _ => Below.heap_setCell w q u b (by omega)
  · rw [hs]
    exact RowG.keep trIn_keep h.2.1 (by omega) fun b h1 _ => Below.heap_setCell w q u b (by omega)
theorem MR.out (h : MR lo w vp vt l t) (hl : 0 < l.length) (ht : 0 < t.length) (hl2 : l.length ≤ 1048576) (ht2 : t.length ≤ 1048576) : ∃ A c B d, vp = .slice A l.length c ∧ vt = .slice B t.length d ∧ OwMZ lo w.heap.size w A l.length c B t.length d ⟨l, t⟩ := by
  obtain ⟨h1, h2, h3⟩ := h
  obtain ⟨cells, fs, r1, r2, r3, r4, r5, r6, r7⟩ := h1
  obtain ⟨cells', fs', s1, s2, s3, s4, s5, s6, s7⟩ := h2
  rcases r1.2 with ⟨rfl, h0⟩ | ⟨g, cap, cur, rfl, hg, hh, hn, hcap, hcs, htk⟩
  · omega
  rcases s1.2 with ⟨rfl, h0⟩ | ⟨g', cap', cur', rfl, hg', hh', hn', hcap', hcs', htk'⟩
  · omega
  have hlen : l.length * 6 ≤ cur.size := by rw [hcs]; exact Nat.mul_le_mul_right _ hn
  have hlen' : t.length * 5 ≤ cur'.size := by rw [hcs']; exact Nat.mul_le_mul_right _ hn'
  have hgm : g ∉ fs.flatten := fun hm => (r5 g hm).2.2 rfl
  have hgm' : g' ∉ fs.flatten := r6.2 g' rfl
  have hne : g ≠ g' := fun e => h3 g' rfl (by rw [e]; rfl)
  refine ⟨_, cap, _, cap', rfl, rfl, rfl, rfl, hn, hn', hl2, ht2, .inr ⟨g, g', cur, cur', fs, rfl, rfl, hh, hh', hlen, hlen', ⟨r3, fun i hi => ?_⟩, fun i hi => ?_, List.nodup_cons.2 ⟨?_, List.nodup_cons.2 ⟨hgm', r6.1⟩⟩, fun b hb => ?_⟩⟩
  · refine ptIn_keep _ _ _ _ _ _ _ _ _ (r4 i hi) (fun j hj => ?_) (Nat.le_refl _) fun _ _ => rfl
    rw [← htk]
    have : i * 6 + j < l.length * 6 := by omega
    simp [this]
  · have h5 := (s4 i hi).1
    have hc : ∀ j, j < 5 → cur'[i * 5 + j]? = cells'.toArray[i * 5 + j]? := by
      intro j hj
      rw [← htk']
      have : i * 5 + j < t.length * 5 := by omega
      simp [this]
    obtain ⟨g0, g1, g2, g3, g4⟩ := h5
    exact ⟨(hc 0 (by omega)).trans g0, (hc 1 (by omega)).trans g1, (hc 2 (by omega)).trans g2, (hc 3 (by omega)).trans g3, (hc 4 (by omega)).trans g4⟩
  · intro hm
    rcases List.mem_cons.1 hm with e | hm
    · exact hne e
    · exact hgm hm
  · rcases List.mem_cons.1 hb with rfl | hb
    · exact ⟨hg, r2 _ rfl⟩
    · rcases List.mem_cons.1 hb with rfl | hb
      · exact ⟨hg', s2 _ rfl⟩
      · exact ⟨(r5 b hb).1, (r5 b hb).2.1⟩
theorem OwPN.sep {s : Bool} {A : Option Addr} {n c : Nat} {B : Option Addr} {m d : Nat} {t : Bool} {C : Option Addr} {i e : Nat} {D : Option Addr} {j f : Nat} {p : PtD} {b0 : Nat} (h : OwP 3 b0 w s A n c B m d t C i e D j f p) (hv : ∀ g, vt.ownBlock = Option.some g → g < b0) : OwPN (Sep vt) 3 b0 w s A n c B m d t C i e D j f p := by
  obtain ⟨b1, b2, h1, h2, hf⟩ := h
  exact ⟨b1, b2, h1, h2, hf.2, hf.1, fun g e hm => by have := hv g e; have := (hf.2 g hm).1; omega⟩
end
end

section
open Go.RowKit

/- A region that draws its order and ends in a store that waits for all the rest: S need not hold behind that store. (The form of the proof is the library's own wpAnyH_first.) -/
section
variable {P : Program} {ops : Array Oper} {Q : Exit → Act → World → Prop} {md : Region.Mode} {S : World → Prop} {last : Nat}
def wpAnyT (P : Program) (md : Region.Mode) (ops : Array Oper) (Q : Exit → Act → World → Prop) (S : World → Prop) (last : Nat) : Nat → Array Bool → Act → World → Prop
  | 0, listed, a, w => Region.ready md ops listed = [] ∧ Q .normal a w
  | fuel + 1, listed, a, w =>
    (Region.ready md ops listed = [] → Q .normal a w) ∧
    ∀ i ∈ Region.ready md ops listed, wpOp P ops Q i (fun a' w' => (i ≠ last → S w') ∧ wpAnyT P md ops Q S last fuel (listed.setIfInBounds i true) a' w') a w
theorem wpAny_of_T : ∀ (fuel : Nat) (listed : Array Bool) (a : Act) (w : World), wpAnyT P md ops Q S last fuel listed a w → wpAny P md ops Q fuel listed a w
  | 0, _, _, _, h => h
  | fuel + 1, _, _, _, h => ⟨h.1, fun i hi => wpOp_mono (fun a' w' h' => wpAny_of_T fuel _ a' w' h'.2) (h.2 i hi)⟩
def waits (md : Region.Mode) (ops : Array Oper) (last i : Nat) : Bool :=
  match ops[last]? with
  | some ol => ol.after.any (fun e => Region.binds md e && e.on == i)
  | none => false
theorem waits_spec {i : Nat} (h : waits md ops last i = true) : ∀ oj, ops[last]? = some oj → ¬ ∀ e ∈ oj.after, Region.binds md e = true → e.on ≠ i := by
  intro oj hj hno
  unfold waits at h
  rw [hj] at h
  obtain ⟨k, hk, hx⟩ := Array.any_eq_true.1 h
  have h1 := Bool.and_eq_true_iff.1 hx
  exact hno _ (Array.getElem_mem hk) h1.1 (by simpa using h1.2)
theorem wpAnyT_first {i : Nat} {oi : Oper} {v : Value} (hi : ops[i]? = some oi) (hsel : ∀ (j : Nat) (o : Oper) cs b, ops[j]? = some o → o.op ≠ .select cs b)
    (hQ : ∀ c a w, Q (.panic c) (a.put oi.dst v) w → Q (.panic c) a w) (hw : waits md ops last i = true) :
    ∀ (fuel : Nat) (listed : Array Bool) (a : Act) (w : World),
      (∀ j oj, ops[j]? = some oj → j ≠ i → listed.getD j true = false → (∀ e ∈ oj.after, Region.binds md e = true → e.on ≠ i) → oi.apart ops oj = true) →
      i ∈ Region.ready md ops listed → YieldsIf P ops S oi v a → S w →
      wpAnyT P md ops Q S last fuel (listed.setIfInBounds i true) (a.put oi.dst v) w → wpAnyT P md ops Q S last (fuel + 1) listed a w := by
  intro fuel
  induction fuel with
  | zero =>
    intro listed a w _ hr hy hS H
    refine ⟨fun h => (by rw [h] at hr; cases hr), fun j hj => ?_⟩
    by_cases hji : j = i
    · subst hji; exact hy.wpOp hi hS ⟨fun _ => hS, H⟩
    · have := ready_mono hj hji
      rw [H.1] at this
      cases this
  | succ fuel ih =>
    intro listed a w hfree hr hy hS H
    refine ⟨fun h => (by rw [h] at hr; cases hr), fun j hj => ?_⟩
    by_cases hji : j = i
    · subst hji; exact hy.wpOp hi hS ⟨fun _ => hS, H⟩
    · have h1 := H.2 j (ready_mono hj hji)
      obtain ⟨hjun, oj, hoj, hall⟩ := mem_ready.1 hj
      have hnot : ∀ e ∈ oj.after, Region.binds md e = true → e.on ≠ i := fun e he hb heq => by
        have h1 := hall e he hb
        have h0 := (mem_ready.1 hr).1
        rw [heq] at h1
        rcases Nat.lt_or_ge i listed.size with h' | h'
        · simp [h'] at h0 h1; rw [h0] at h1; cases h1
        · simp [Array.getElem?_eq_none h'] at h1
      have hjl : j ≠ last := fun e => by subst e; exact waits_spec hw oj hoj hnot
      have h2 := wpOp_putIf hoj (hfree j oj hoj hji hjun hnot) (fun cs b => hsel i oi cs b hi) (fun cs b => hsel j oj cs b hoj) hQ hy h1
      have hfree' : ∀ k ok, ops[k]? = some ok → k ≠ i → (listed.setIfInBounds j true).getD k true = false →
          (∀ e ∈ ok.after, Region.binds md e = true → e.on ≠ i) → oi.apart ops ok = true := fun k ok hk hki hun hno => by
        refine hfree k ok hk hki ?_ hno
        by_cases hjk : j = k
        · subst hjk; exact hjun
        · rw [getD_set_ne true hjk] at hun; exact hun
      refine wpOp_mono (fun a' w' h3 => ⟨fun _ => h3.2.1 hjl, ih (listed.setIfInBounds j true) a' w' hfree' (ready_mono hr (Ne.symm hji)) h3.1 (h3.2.1 hjl) ?_⟩) h2
      rw [Array.setIfInBounds_comm _ _ hji]
      exact h3.2.2
theorem wpAnyT_take {i : Nat} {oi : Oper} {v : Value} {fuel : Nat} {listed : Array Bool} {a : Act} {w : World} (hi : ops[i]? = some oi)
    (hs : Region.noSelect ops = true) (hf : Region.free md ops listed i = true) (hr : (Region.ready md ops listed).contains i = true) (hl : waits md ops last i = true)
    (hQ : ∀ c a w, Q (.panic c) (a.put oi.dst v) w → Q (.panic c) a w) (hw : Region.wanted oi (yielded ops a.tmps) = true) (hy : ∀ w, S w → (execOp a.eval oi).run P w = .ok (.value v) w) (hS : S w)
    (h : wpAnyT P md ops Q S last fuel (listed.setIfInBounds i true) (a.put oi.dst v) w) : wpAnyT P md ops Q S last (fuel + 1) listed a w :=
  wpAnyT_first hi (Region.noSelect_spec hs) hQ hl fuel listed a w (Region.free_spec hi hf) (by simpa using hr) (.inl ⟨hw, hy⟩) hS h
theorem wpAnyT_step {i : Nat} {o : Oper} {fuel : Nat} {listed : Array Bool} {a : Act} {w : World} (ho : ops[i]? = some o) (hr : Region.ready md ops listed = [i])
    (h : ∀ K' : Act → World → Prop, Shut (∀ a w, (i ≠ last → S w) → wpAnyT P md ops Q S last fuel (listed.setIfInBounds i true) a w → K' a w) → if Region.wanted o (yielded ops a.tmps) = true then Oper.wp P o a w K' Q else K' (a.put o.dst undef) w) : wpAnyT P md ops Q S last (fuel + 1) listed a w := by
  refine ⟨fun h0 => (by rw [hr] at h0; cases h0), fun j hj => ?_⟩
  rw [hr] at hj
  obtain rfl : j = i := by simpa using hj
  exact wpOp_step ho (fun K' hK => h K' (fun a w hS hW => hK a w ⟨hS, hW⟩))
theorem wpAnyT_done {listed : Array Bool} {a : Act} {w : World} (hr : Region.ready md ops listed = []) (h : Q .normal a w) : wpAnyT P md ops Q S last 0 listed a w := ⟨hr, h⟩
theorem wp_region_T {id : Nat} {a : Act} {w : World} (last n : Nat) (S : World → Prop) (hn : ops.size = n) (hm : P.follows .mixedOrders = true) (_hS : S w.drew)
    (h : wpAnyT P .any ops Q S last n (Array.replicate n false) a w.drew) : (Code.region id ops true).wp P Q a w := by
  subst hn
  exact wp_region_any hm (wpAny_of_T _ _ _ _ h)
end
end

end Go.Proofs.YtjaapemopbbfaaaGreatDoor
