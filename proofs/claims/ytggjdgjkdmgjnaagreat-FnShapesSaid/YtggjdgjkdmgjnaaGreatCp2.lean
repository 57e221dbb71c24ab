import Derived.Test.YtggjdgjkdmgjnaaGreatRows
import Derived.Test.YtggjdgjkdmgjnaaGreatCp
namespace Go.Proofs.YtggjdgjkdmgjnaaGreat

open Go.RowKit

theorem box6 {w W : World} {a b c a' b' c' : Value} {T : TypeId} (h : Bl (w.alloc (.cells #[a, b, c, a', b', c'] T)) W) :
    W.cell? ⟨w.heap.size, 0, none⟩ = some a ∧ W.cell? ⟨w.heap.size, 1, none⟩ = some b ∧ W.cell? ⟨w.heap.size, 2, none⟩ = some c ∧ W.cell? ⟨w.heap.size, 3, none⟩ = some a' ∧ W.cell? ⟨w.heap.size, 4, none⟩ = some b' ∧ W.cell? ⟨w.heap.size, 5, none⟩ = some c' := by
  refine ⟨?_, ?_, ?_, ?_, ?_, ?_⟩ <;> (rw [h.cellOf (by simp)]; simp [go_sem])
/-- Block g has six cells that may be written. -/
def Wr6 (T : TypeId) (g : Nat) (W : World) : Prop := ∃ cs, Blk W g T cs ∧ cs.size = 6
theorem Wr6.bl {T : TypeId} {g : Nat} {w W : World} (h : Wr6 T g w) (hb : Bl w W) : Wr6 T g W := by
  obtain ⟨cs, h1, h2⟩ := h
  exact ⟨cs, h1.bl hb, h2⟩
theorem Wr6.set {T : TypeId} {g : Nat} {w : World} (h : Wr6 T g w) (i : Nat) (u : Value) : Wr6 T g (w.setCell ⟨g, i, none⟩ u) := by
  obtain ⟨cs, h1, h2⟩ := h
  exact ⟨_, h1.set_ i u, by simp [h2]⟩
theorem Wr6.new2 (T : TypeId) (w : World) (o : Obj) (a b c a' b' c' : Value) : Wr6 T (w.heap.size + 1) ((w.alloc o).alloc (.cells #[a, b, c, a', b', c'] T)) := by
  have : Wr6 T (w.alloc o).heap.size ((w.alloc o).alloc (.cells #[a, b, c, a', b', c'] T)) := ⟨_, Blk.new _ _ _, rfl⟩
  rwa [World.size_alloc] at this
theorem Wr6.drew {T : TypeId} {g : Nat} {w : World} (h : Wr6 T g w) : Wr6 T g w.drew := h
theorem Wr6.out {T : TypeId} {g : Nat} {w : World} (h : Wr6 T g w) : (w.cell? ⟨g, 0, none⟩ = some (cellD w g 0) ∧ w.cell? ⟨g, 1, none⟩ = some (cellD w g 1) ∧ w.cell? ⟨g, 2, none⟩ = some (cellD w g 2) ∧ w.cell? ⟨g, 3, none⟩ = some (cellD w g 3) ∧ w.cell? ⟨g, 4, none⟩ = some (cellD w g 4) ∧ w.cell? ⟨g, 5, none⟩ = some (cellD w g 5)) ∧
    w.frozen? ⟨g, 0, none⟩ = false ∧ w.frozen? ⟨g, 1, none⟩ = false ∧ w.frozen? ⟨g, 2, none⟩ = false ∧ w.frozen? ⟨g, 3, none⟩ = false ∧ w.frozen? ⟨g, 4, none⟩ = false ∧ w.frozen? ⟨g, 5, none⟩ = false := by
  obtain ⟨cs, h1, h2⟩ := h
  exact ⟨⟨cellD_eq (h1.some (by omega)), cellD_eq (h1.some (by omega)), cellD_eq (h1.some (by omega)), cellD_eq (h1.some (by omega)), cellD_eq (h1.some (by omega)), cellD_eq (h1.some (by omega))⟩, h1.frozen 0, h1.frozen 1, h1.frozen 2, h1.frozen 3, h1.frozen 4, h1.frozen 5⟩
/-- A point in memory of its own from block b0 on. -/
def OwP (T : TypeId) (b0 : Nat) (w : World) (s : Bool) (A : Option Addr) (n c : Nat) (B : Option Addr) (m d : Nat) (t : Bool) (C : Option Addr) (i e : Nat) (D : Option Addr) (j f : Nat) (p : PtD) : Prop :=
  ∃ b1 b2, FtR T w s A n c B m d p.x b1 ∧ FtR T w t C i e D j f p.y b2 ∧ Fp b0 w.heap.size (b1 ++ b2)
section
variable {T : TypeId} {b0 b1 : Nat} {w w1 W : World} {s : Bool} {A : Option Addr} {n c : Nat} {B : Option Addr} {m d : Nat} {t : Bool} {C : Option Addr} {i e : Nat} {D : Option Addr} {j f : Nat} {p : PtD}
theorem OwP.two (h : OwR T b0 w1 s A n c B m d p.x) (k : OwR T w1.heap.size w t C i e D j f p.y) (hb : Bl w1 w) (h0 : b0 ≤ w1.heap.size) : OwP T b0 w s A n c B m d t C i e D j f p := by
  obtain ⟨c1, h1, f1⟩ := h
  obtain ⟨c2, h2, f2⟩ := k
  exact ⟨c1, c2, h1.bl hb, h2, f1.app f2 (Nat.le_refl _) h0 hb.size⟩
theorem OwP.far (h : OwP T b0 w s A n c B m d t C i e D j f p) {q : Addr} (hp : q.block < b0) (u : Value) : OwP T b0 (w.setCell q u) s A n c B m d t C i e D j f p := by
  obtain ⟨c1, c2, h1, h2, hf⟩ := h
  exact ⟨c1, c2, h1.keep (by simp) (fun b hb => Below.heap_setCell w q u b (by have := (hf.2 b (by simp [hb])).1; omega)), h2.keep (by simp) (fun b hb => Below.heap_setCell w q u b (by have := (hf.2 b (by simp [hb])).1; omega)), hf.mono (Nat.le_refl _) (by simp)⟩
theorem OwP.low (h : OwP T b1 w s A n c B m d t C i e D j f p) (hb : b0 ≤ b1) : OwP T b0 w s A n c B m d t C i e D j f p := by
  obtain ⟨c1, c2, h1, h2, hf⟩ := h
  exact ⟨c1, c2, h1, h2, hf.mono hb (Nat.le_refl _)⟩
end

end Go.Proofs.YtggjdgjkdmgjnaaGreat
