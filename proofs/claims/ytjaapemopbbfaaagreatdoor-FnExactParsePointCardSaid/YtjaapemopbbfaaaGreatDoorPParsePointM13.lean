/- Lemmas. -/
import Derived.Test.YtjaapemopbbfaaaGreatDoorRows
import Derived.Test.YtjaapemopbbfaaaGreatDoorPParsePointM12
namespace Go.Proofs.YtjaapemopbbfaaaGreatDoor
section
open Go.RowKit

section
variable {w W : World} {g : Nat} {T : TypeId} {cs : Array Value} {a b c a' b' c' : Value}
theorem Blk.alloc (h : Blk w g T cs) (o : Obj) : Blk (w.alloc o) g T cs := h.bl ((Bl.refl w).alloc o)
theorem Blk.drew (h : Blk w g T cs) : Blk w.drew g T cs := h
theorem Blk.drewN (h : Blk w g T cs) (q : Nat) : Blk (w.drewN q) g T cs := h
theorem Blk.new1 (w : World) (o : Obj) (T : TypeId) (cs : Array Value) : Blk ((w.alloc o).alloc (.cells cs T)) (w.heap.size + 1) T cs := by
  have := Blk.new (w.alloc o) T cs
  rwa [World.size_alloc] at this
theorem Blk.new2 (w : World) (o o' : Obj) (T : TypeId) (cs : Array Value) : Blk (((w.alloc o).alloc o').alloc (.cells cs T)) (w.heap.size + 1 + 1) T cs := by
  have := Blk.new1 (w.alloc o) o' T cs
  rwa [World.size_alloc] at this
theorem bx2 (h : Blk W g T #[a, b]) : W.cell? ⟨g, 0, none⟩ = some a ∧ W.cell? ⟨g, 1, none⟩ = some b := ⟨h.cell 0, h.cell 1⟩
theorem bx3 (h : Blk W g T #[a, b, c]) : W.cell? ⟨g, 0, none⟩ = some a ∧ W.cell? ⟨g, 1, none⟩ = some b ∧ W.cell? ⟨g, 2, none⟩ = some c := ⟨h.cell 0, h.cell 1, h.cell 2⟩
theorem bx6 (h : Blk W g T #[a, b, c, a', b', c']) : W.cell? ⟨g, 0, none⟩ = some a ∧ W.cell? ⟨g, 1, none⟩ = some b ∧ W.cell? ⟨g, 2, none⟩ = some c ∧ W.cell? ⟨g, 3, none⟩ = some a' ∧ W.cell? ⟨g, 4, none⟩ = some b' ∧ W.cell? ⟨g, 5, none⟩ = some c' := ⟨h.cell 0, h.cell 1, h.cell 2, h.cell 3, h.cell 4, h.cell 5⟩
/-- Block g has k cells that may be written. -/
def Wk (k : Nat) (T : TypeId) (g : Nat) (W : World) : Prop := ∃ cs, Blk W g T cs ∧ cs.size = k
variable {k : Nat}
theorem Wk.bl (h : Wk k T g w) (hb : Bl w W) : Wk k T g W := by
  obtain ⟨cs, h1, h2⟩ := h
  exact ⟨cs, h1.bl hb, h2⟩
theorem Wk.alloc (h : Wk k T g w) (o : Obj) : Wk k T g (w.alloc o) := h.bl ((Bl.refl w).alloc o)
theorem Wk.drew (h : Wk k T g w) : Wk k T g w.drew := h
theorem Wk.drewN (h : Wk k T g w) (q : Nat) : Wk k T g (w.drewN q) := h
theorem Wk.set (h : Wk k T g w) (i : Nat) (u : Value) : Wk k T g (w.setCell ⟨g, i, none⟩ u) := by
  obtain ⟨cs, h1, h2⟩ := h
  exact ⟨_, h1.set_ i u, by simp [h2]⟩
theorem Wk.far (h : Wk k T g w) {p : Addr} (hp : g ≠ p.block) (u : Value) : Wk k T g (w.setCell p u) := by
  obtain ⟨cs, h1, h2⟩ := h
  exact ⟨cs, h1.far hp u, h2⟩
theorem Wk.of (h : Blk W g T cs) (hk : cs.size = k) : Wk k T g W := ⟨cs, h, hk⟩
theorem Wk.lt (h : Wk k T g w) : g < w.heap.size := by
  obtain ⟨cs, h1, _⟩ := h
  exact h1.lt
theorem Wk.val_ (h : Wk k T g W) {i : Nat} (hi : i < k) : ∃ v, W.cell? ⟨g, i, none⟩ = some v := by
  obtain ⟨cs, h1, h2⟩ := h
  exact h1.some (by omega)
end

theorem Blk.new3 (w : World) (o o' o'' : Obj) (T : TypeId) (cs : Array Value) : Blk ((((w.alloc o).alloc o').alloc o'').alloc (.cells cs T)) (w.heap.size + 1 + 1 + 1) T cs := by
  have := Blk.new2 (w.alloc o) o' o'' T cs
  rwa [World.size_alloc] at this
/-- What is to be shown of a block goes by itself. -/
theorem bts {P : Prop} (h : P := by repeat (first | (with_reducible first | assumption | exact Blk.new _ _ _ | exact Blk.new1 _ _ _ _ | exact Blk.new2 _ _ _ _ _ | exact Blk.new3 _ _ _ _ _ _ | exact Wk.of (Blk.new _ _ _) rfl | exact Wk.of (Blk.new1 _ _ _ _) rfl | exact Wk.of (Blk.new2 _ _ _ _ _) rfl | exact Wk.of (Blk.new3 _ _ _ _ _ _) rfl | refine Blk.drew ?_ | refine Blk.drewN ?_ _ | refine Wk.drew ?_ | refine Wk.drewN ?_ _ | refine Blk.alloc ?_ _ | refine Wk.alloc ?_ _ | refine Wk.set ?_ _ _) | (with_reducible refine Blk.far ?_ (by simp <;> omega) _) | (with_reducible refine Wk.far ?_ (by simp <;> omega) _) | (with_reducible refine Blk.bl ?_ ‹Bl _ _›) | (with_reducible refine Wk.bl ?_ ‹Bl _ _›))) : P := h
/-- A signed integer in memory. -/
def IsB (w : World) (s : Bool) (A : Option Addr) (n c : Nat) (x : Int) : Prop := s = decide (x < 0) ∧ IsN w A n c x.natAbs
/-- .. in memory of its own. -/
def OwB (T : TypeId) (b0 : Nat) (w : World) (s : Bool) (A : Option Addr) (n c : Nat) (x : Int) : Prop := s = decide (x < 0) ∧ OwI T b0 w A n c (ints (dig x.natAbs))
section
variable {T : TypeId} {b0 b1 : Nat} {w W : World} {s : Bool} {A B : Option Addr} {n c m d : Nat} {x : Int} {D : Nat}
theorem IsB.bl (h : IsB w s A n c x) (hb : Bl w W) : IsB W s A n c x := ⟨h.1, h.2.bl hb⟩
theorem IsB.of (h : IsN w A n c D) : IsB w false A n c (D : Int) := ⟨by simp, by rw [Int.natAbs_natCast]; exact h⟩
theorem OwB.rd (h : OwB T b0 w s A n c x) : IsB w s A n c x := ⟨h.1, h.2.rd⟩
theorem OwB.bl (h : OwB T b0 w s A n c x) (hb : Bl w W) : OwB T b0 W s A n c x := ⟨h.1, h.2.bl hb⟩
theorem OwB.mono (h : OwB T b1 w s A n c x) (hb : b0 ≤ b1) : OwB T b0 w s A n c x := ⟨h.1, h.2.mono hb⟩
theorem OwI.far {l : List Int} (h : OwI T b0 w A n c l) {p : Addr} (hp : p.block < b0) (u : Value) : OwI T b0 (w.setCell p u) A n c l := by
  obtain ⟨bs, h, hf⟩ := FtI.of_own h
  have h2 : FtI T (w.setCell p u) A n c l bs := h.keep (by simp) (fun b hb => Below.heap_setCell w p u b (by have := (hf.2 b hb).1; omega))
  refine ⟨h2.1, ?_⟩
  rcases h2.2 with ⟨h0, _⟩ | ⟨g, cs, _, e, hh, hn, e2⟩
  · exact .inl h0
  · exact .inr ⟨g, cs, e, (hf.2 g (by rw [e2]; simp)).1, hh, hn⟩
theorem OwB.far (h : OwB T b0 w s A n c x) {p : Addr} (hp : p.block < b0) (u : Value) : OwB T b0 (w.setCell p u) s A n c x := ⟨h.1, h.2.far hp u⟩
theorem IsR.b (h : IsR w s A n c B m d x D) : IsB w s A n c x := ⟨h.neg, h.mag⟩
theorem IsB.len (h : IsB w s A n c x) : (dig x.natAbs).length = n := h.2.lenN
theorem OwB.len (h : OwB T b0 w s A n c x) : (dig x.natAbs).length = n := h.rd.len
end
def OkTo (l : List RatD) (k : Nat) : Prop := ∀ j, j < k → OkR (pix l j)
theorem OkTo.zero (l : List RatD) : OkTo l 0 := fun j hj => by omega
theorem OkTo.step {l : List RatD} {k : Nat} (h : OkTo l k) (h0 : OkR (pix l k)) : OkTo l (k + 1) := by
  intro j hj
  rcases Nat.lt_succ_iff_lt_or_eq.1 hj with hj | rfl
  · exact h j hj
  · exact h0
/-- Two fractions in a row of six cells. -/
theorem RdRS.two {w : World} {g : Nat} {T : TypeId} {s : Bool} {A : Option Addr} {n c : Nat} {B : Option Addr} {m d : Nat} {r : RatD} {s' : Bool} {A' : Option Addr} {n' c' : Nat} {B' : Option Addr} {m' d' : Nat} {r' : RatD}
    (hb : Blk w g T #[.bool s, .slice A n c, .slice B m d, .bool s', .slice A' n' c', .slice B' m' d']) (h : RdR w s A n c B m d r) (k : RdR w s' A' n' c' B' m' d' r') : RdRS w (some ⟨g, 0, none⟩) 2 2 [r, r'] := by
  refine ⟨rfl, Nat.le_refl _, by omega, fun i hi => ⟨_, rfl, hb.lt, ?_⟩⟩
  rw [Addr.add_lit, Nat.zero_add]
  obtain ⟨k0, k1, k2, k3, k4, k5⟩ := bx6 hb
  rcases i with _ | i
  · exact ⟨s, A, n, c, B, m, d, ⟨k0, k1, k2⟩, h⟩
  · obtain rfl : i = 0 := by omega
    exact ⟨s', A', n', c', B', m', d', ⟨k3, k4, k5⟩, k⟩
end

end Go.Proofs.YtjaapemopbbfaaaGreatDoor
