/- Lemmas. -/
import Derived.Test.YtjaapemopbbfaaaGreatDoorRows
import Derived.Test.YtjaapemopbbfaaaGreatDoorPParsePointM19
import Derived.Test.YtjaapemopbbfaaaGreatDoorPParsePointM21
import Derived.Test.YtjaapemopbbfaaaGreatDoorPParsePointM18
import Derived.Test.YtjaapemopbbfaaaGreatDoorPParsePointM01
namespace Go.Proofs.YtjaapemopbbfaaaGreatDoor
section
open Go.RowKit

/-- Blocks that all differ, and differ from the block of a row. -/
def Sep (vt : Value) (bs : List Nat) : Prop := bs.Nodup ∧ ∀ g, vt.ownBlock = Option.some g → g ∉ bs
theorem appN_sep (vt : Value) : AppN (Sep vt) :=
  ⟨⟨List.nodup_nil, fun g _ => by simp⟩, fun a b ha hb hd => ⟨List.nodup_append.2 ⟨ha.1, hb.1, hd⟩, fun g e hm => by rcases List.mem_append.1 hm with h | h; exact ha.2 g e h; exact hb.2 g e h⟩⟩
theorem RowG.shape {α : Type} [Inhabited α] {N : List Nat → Prop} {TP : TypeId} {size lo hi : Nat} {El : World → Array Value → Nat → α → List Nat → Prop} {w : World} {v : Value} {l : List α} (h : RowG N TP size El lo hi w v l) : ∃ A n c, v = .slice A n c := by
  obtain ⟨_, _, h1, _⟩ := h
  rcases h1.2 with ⟨rfl, _⟩ | ⟨g, cap, cur, rfl, _⟩
  · exact ⟨_, _, _, rfl⟩
  · exact ⟨_, _, _, rfl⟩
theorem RowG.lo {α : Type} [Inhabited α] {N : List Nat → Prop} {TP : TypeId} {size lo hi : Nat} {El : World → Array Value → Nat → α → List Nat → Prop} {w : World} {v : Value} {l : List α} (h : RowG N TP size El lo hi w v l) {g : Nat} (hg : v.ownBlock = Option.some g) : lo ≤ g ∧ g < hi := by
  obtain ⟨_, _, h1, h2, _⟩ := h
  exact ⟨(World.ownsRow.lt h1 g hg).1, h2 g hg⟩
theorem RowG.up {α : Type} [Inhabited α] {N : List Nat → Prop} {TP : TypeId} {size lo hi hi' : Nat} {El : World → Array Value → Nat → α → List Nat → Prop} {w : World} {v : Value} {l : List α} (h : RowG N TP size El lo hi w v l) (h1 : hi ≤ hi') (h2 : hi' ≤ w.heap.size) : RowG N TP size El lo hi' w v l := by
  obtain ⟨cells, fs, r1, r2, r3, r4, r5, r6, r7⟩ := h
  exact ⟨cells, fs, r1, fun g e => Nat.lt_of_lt_of_le (r2 g e) h1, r3, r4, fun b hm => ⟨(r5 b hm).1, Nat.lt_of_lt_of_le (r5 b hm).2.1 h1, (r5 b hm).2.2⟩, r6, h2⟩
theorem RowT.keep {lo hi : Nat} {w W : World} {v : Value} {l : List TriD} (h : RowT lo hi w v l) (hs : w.heap.size ≤ W.heap.size) (h1 : ∀ g, v.ownBlock = Option.some g → W.heap[g]? = w.heap[g]?) : RowT lo hi W v l := by
  obtain ⟨cells, fs, r1, r2, r3, r4, r5, r6, r7⟩ := h
  refine ⟨cells, fs, ⟨r1.1, ?_⟩, r2, r3, fun i hi => r4 i hi, r5, r6, Nat.le_trans r7 hs⟩
  rcases r1.2 with h | ⟨g, cap, cur, rfl, hg, hh, r⟩
  · exact .inl h
  · exact .inr ⟨g, cap, cur, rfl, hg, (h1 g rfl).trans hh, r⟩
/-- The points and the triangles of a mesh that is being built. -/
def MR (lo : Nat) (w : World) (vp vt : Value) (l : List PtD) (t : List TriD) : Prop :=
  RowP (Sep vt) lo w.heap.size w vp l ∧ RowT lo w.heap.size w vt t ∧ ∀ g, vt.ownBlock = Option.some g → vp.ownBlock ≠ Option.some g
section
variable {lo : Nat} {w W w' : World} {vp vt vp' vt' : Value} {l l' : List PtD} {t t' : List TriD}
theorem MR.nil (w : World) : MR lo w (.slice none 0 0) (.slice none 0 0) [] [] :=
  ⟨RowG.nil (appN_sep _) w (Nat.le_refl _), RowG.nil appN_any w (Nat.le_refl _), fun g e => by cases e⟩
theorem MR.bl (h : MR lo w vp vt l t) (hb : Bl w W) : MR lo W vp vt l t :=
  ⟨(RowG.bl (ptIn_keep 3) h.1 hb).up hb.size (Nat.le_refl _), (RowG.bl trIn_keep h.2.1 hb).up hb.size (Nat.le_refl _), h.2.2⟩
theorem MR.set (h : MR lo w vp vt l t) {q : Addr} (hq : q.block < lo) (u : Value) : MR lo (w.setCell q u) vp vt l t := by
  have hs : (w.setCell q u).heap.size = w.heap.size := by simp
  refine ⟨?_, ?_, h.2.2⟩
  · rw [hs]
    exact RowG.keep (ptIn_keep 3) h.1 (by omega) fun b h1 _ => Below.heap_setCell w q u b (by omega)
  · rw [hs]
    exact RowG.keep trIn_keep h.2.1 (by omega) fun b h1 _ => Below.heap_setCell w q u b (by omega)
theorem MR.out (h : MR lo w vp vt l t) (hl : 0 < l.length) (ht : 0 < t.length) (hl2 : l.length ≤ 1048576) (ht2 : t.length ≤ 1048576) : ∃ A c B d, vp = .slice A l.length c ∧ vt = .slice B t.length d ∧ OwMZ lo w.heap.size w A l.length c B t.length d ⟨l, t⟩ := by
  obtain ⟨h1, h2, h3⟩ := h
  obtain ⟨cells, fs, r1, r2, r3, r4, r5, r6, r7⟩ := h1
  obtain ⟨cells', fs', s1, s2, s3, s4, s5, s6, s7⟩ := h2
  rcases r1.2 with ⟨rfl, h0⟩ | ⟨g, cap, cur, rfl, hg, hh, hn, hcap, hcs, htk⟩
  · omega
  rcases s1.2 with ⟨rfl, h0⟩ | ⟨g', cap', cur', rfl, hg', hh', hn', hcap', hcs', htk'⟩
  · omega
  have hlen : l.length * 6 ≤ cur.size := by rw [hcs]; exact Nat.mul_le_mul_right _ hn
  have hlen' : t.length * 5 ≤ cur'.size := by rw [hcs']; exact Nat.mul_le_mul_right _ hn'
  have hgm : g ∉ fs.flatten := fun hm => (r5 g hm).2.2 rfl
  have hgm' : g' ∉ fs.flatten := r6.2 g' rfl
  have hne : g ≠ g' := fun e => h3 g' rfl (by rw [e]; rfl)
  refine ⟨_, cap, _, cap', rfl, rfl, rfl, rfl, hn, hn', hl2, ht2, .inr ⟨g, g', cur, cur', fs, rfl, rfl, hh, hh', hlen, hlen', ⟨r3, fun i hi => ?_⟩, fun i hi => ?_, List.nodup_cons.2 ⟨?_, List.nodup_cons.2 ⟨hgm', r6.1⟩⟩, fun b hb => ?_⟩⟩
  · refine ptIn_keep _ _ _ _ _ _ _ _ _ (r4 i hi) (fun j hj => ?_) (Nat.le_refl _) fun _ _ => rfl
    rw [← htk]
    have : i * 6 + j < l.length * 6 := by omega
    simp [this]
  · have h5 := (s4 i hi).1
    have hc : ∀ j, j < 5 → cur'[i * 5 + j]? = cells'.toArray[i * 5 + j]? := by
      intro j hj
      rw [← htk']
      have : i * 5 + j < t.length * 5 := by omega
      simp [this]
    obtain ⟨g0, g1, g2, g3, g4⟩ := h5
    exact ⟨(hc 0 (by omega)).trans g0, (hc 1 (by omega)).trans g1, (hc 2 (by omega)).trans g2, (hc 3 (by omega)).trans g3, (hc 4 (by omega)).trans g4⟩
  · intro hm
    rcases List.mem_cons.1 hm with e | hm
    · exact hne e
    · exact hgm hm
  · rcases List.mem_cons.1 hb with rfl | hb
    · exact ⟨hg, r2 _ rfl⟩
    · rcases List.mem_cons.1 hb with rfl | hb
      · exact ⟨hg', s2 _ rfl⟩
      · exact ⟨(r5 b hb).1, (r5 b hb).2.1⟩
theorem OwPN.sep {s : Bool} {A : Option Addr} {n c : Nat} {B : Option Addr} {m d : Nat} {t : Bool} {C : Option Addr} {i e : Nat} {D : Option Addr} {j f : Nat} {p : PtD} {b0 : Nat} (h : OwP 3 b0 w s A n c B m d t C i e D j f p) (hv : ∀ g, vt.ownBlock = Option.some g → g < b0) : OwPN (Sep vt) 3 b0 w s A n c B m d t C i e D j f p := by
  obtain ⟨b1, b2, h1, h2, hf⟩ := h
  exact ⟨b1, b2, h1, h2, hf.2, hf.1, fun g e hm => by have := hv g e; have := (hf.2 g hm).1; omega⟩
end
end

section
open Go.RowKit

/- A region that draws its order and ends in a store that waits for all the rest: S need not hold behind that store. (The form of the proof is the library's own wpAnyH_first.) -/
section
variable {P : Program} {ops : Array Oper} {Q : Exit → Act → World → Prop} {md : Region.Mode} {S : World → Prop} {last : Nat}
def waits (md : Region.Mode) (ops : Array Oper) (last i : Nat) : Bool :=
  match ops[last]? with
  | some ol => ol.after.any (fun e => Region.binds md e && e.on == i)
  | none => false
end
end

section
open Go.RowKit
end

section
open Go.RowKit

/-- The zero point: what is not valid. -/
def zP : PtD := ⟨zR, zR⟩
def OkP (p : PtD) : Prop := OkR p.x ∧ OkR p.y
theorem RdR.zero (w : World) : RdR w false none 0 0 none 0 0 zR := ⟨rfl, RdI.nil _ _ _, RdI.nil _ _ _⟩
theorem OwP.zero (T : TypeId) (b0 : Nat) (w : World) : OwP T b0 w false none 0 0 none 0 0 false none 0 0 none 0 0 zP :=
  ⟨[], [], ⟨rfl, [], [], ⟨RdI.nil _ _ _, .inl ⟨rfl, rfl⟩⟩, ⟨RdI.nil _ _ _, .inl ⟨rfl, rfl⟩⟩, rfl⟩, ⟨rfl, [], [], ⟨RdI.nil _ _ _, .inl ⟨rfl, rfl⟩⟩, ⟨RdI.nil _ _ _, .inl ⟨rfl, rfl⟩⟩, rfl⟩, Fp.nil _ _⟩
section
variable {T : TypeId} {b0 : Nat} {w W : World} {s : Bool} {A : Option Addr} {n c : Nat} {B : Option Addr} {m d : Nat} {t : Bool} {C : Option Addr} {i e : Nat} {D : Option Addr} {j f : Nat} {p : PtD}
theorem OwP.bl (h : OwP T b0 w s A n c B m d t C i e D j f p) (hb : Bl w W) : OwP T b0 W s A n c B m d t C i e D j f p := by
  obtain ⟨b1, b2, h1, h2, hf⟩ := h
  exact ⟨b1, b2, h1.bl hb, h2.bl hb, hf.mono (Nat.le_refl _) hb.size⟩
theorem OwP.rx (h : OwP T b0 w s A n c B m d t C i e D j f p) : RdR w s A n c B m d p.x := by
  obtain ⟨b1, b2, h1, h2, hf⟩ := h
  exact h1.rd
theorem OwP.ry (h : OwP T b0 w s A n c B m d t C i e D j f p) : RdR w t C i e D j f p.y := by
  obtain ⟨b1, b2, h1, h2, hf⟩ := h
  exact h2.rd
end
end

section
open Go.RowKit

def PTo (l : List PtD) (k : Nat) : Prop := ∀ j, j < k → OkP (pix l j)
theorem PTo.zero (l : List PtD) : PTo l 0 := fun j hj => by omega
theorem PTo.step {l : List PtD} {k : Nat} (h : PTo l k) (h0 : OkP (pix l k)) : PTo l (k + 1) := by
  intro j hj
  rcases Nat.lt_succ_iff_lt_or_eq.1 hj with hj | rfl
  · exact h j hj
  · exact h0
end

section
open Go.RowKit
end

section
open Go.RowKit

/-- The first k elements agree. -/
def Agree {α : Type} [Inhabited α] (l l' : List α) (k : Nat) : Prop := ∀ i, i < k → pix l i = pix l' i
theorem Agree.zero {α : Type} [Inhabited α] (l l' : List α) : Agree l l' 0 := fun i hi => by omega
theorem Agree.step {α : Type} [Inhabited α] {l l' : List α} {k : Nat} (h : Agree l l' k) (e : pix l k = pix l' k) : Agree l l' (k + 1) := by
  intro i hi
  rcases Nat.lt_succ_iff_lt_or_eq.1 hi with hi | rfl
  · exact h i hi
  · exact e
theorem Agree.all {α : Type} [Inhabited α] {l l' : List α} {n : Nat} (h : Agree l l' n) (hl : l.length = n) (hl' : l'.length = n) : l = l' := list_eq_of_pix hl hl' h
end

end Go.Proofs.YtjaapemopbbfaaaGreatDoor
