import Derived.Test.YtggjdgjkdmgjnaaRows
import Derived.Test.YtggjdgjkdmgjnaaMk3
import Derived.Test.YtggjdgjkdmgjnaaBx
import Derived.Test.YtggjdgjkdmgjnaaRs4
namespace Go.Proofs.Ytggjdgjkdmgjnaa

open Go.RowKit

def advR (r : RatD) : Nat := 1 + szR r
def mkAtR (l : List RatD) (k : Int) (i : Nat) : RatD := mkR (k + (sumTo advR l i : Int)) (pix l i)
def mkLR (l : List RatD) (k : Int) : List RatD := (List.range l.length).map (mkAtR l k)
theorem mkLR_len (l : List RatD) (k : Int) : (mkLR l k).length = l.length := by simp [mkLR]
theorem pix_mkLR (l : List RatD) (k : Int) {i : Nat} (h : i < l.length) : pix (mkLR l k) i = mkAtR l k i := by simp [pix, mkLR, h]
theorem sumTo_advR (l : List RatD) (k : Nat) : sumTo advR l k = k + sumTo szR l k := by
  induction k with
  | zero => rfl
  | succ k ih => simp only [sumTo, ih, advR]; omega
theorem RtIn.lt {T : TypeId} {w : World} {cs : Array Value} {i : Nat} {r : RatD} {bs : List Nat} (h : RtIn T w cs i r bs) : ∀ b ∈ bs, b < w.heap.size := by
  obtain ⟨s, A, n, c, B, m, d, _, h⟩ := h
  exact h.lt

/-- A list of fractions in memory of one's own, its limbs behind its cells. -/
def OwRX (TI TR : TypeId) (b0 : Nat) (w : World) (A : Option Addr) (n c : Nat) (l : List RatD) : Prop :=
  ∃ g cs fs, A = some ⟨g, 0, none⟩ ∧ b0 ≤ g ∧ l.length = n ∧ n ≤ c ∧ n ≤ 1048576 ∧ Blk w g TR cs ∧ cs.size = n * 3 ∧ RtsIn TI w cs l n fs ∧ Fp (g + 1) w.heap.size fs.flatten
theorem OwRX.rd {TI TR : TypeId} {b0 : Nat} {w : World} {A : Option Addr} {n c : Nat} {l : List RatD} (h : OwRX TI TR b0 w A n c l) : RdRS w A n c l := by
  obtain ⟨g, cs, fs, rfl, h1, h2, h3, h4, h5, h6, h7, h8⟩ := h
  exact h7.rd h5 h2 (by omega) h3
theorem OwRX.bl {TI TR : TypeId} {b0 : Nat} {w W : World} {A : Option Addr} {n c : Nat} {l : List RatD} (h : OwRX TI TR b0 w A n c l) (hb : Bl w W) : OwRX TI TR b0 W A n c l := by
  obtain ⟨g, cs, fs, rfl, h1, h2, h3, h4, h5, h6, h7, h8⟩ := h
  exact ⟨g, cs, fs, rfl, h1, h2, h3, h4, h5.bl hb, h6, h7.bl hb (fun b hm => (h8.2 b hm).2), h8.mono (Nat.le_refl _) hb.size⟩
theorem OwRX.ob {TI TR : TypeId} {b0 : Nat} {w W : World} {A : Option Addr} {n c : Nat} {l : List RatD} {bs : List Nat} (h : OwRX TI TR b0 w A n c l) (ho : Ob bs w W) (hd : ∀ b ∈ bs, b < b0) : OwRX TI TR b0 W A n c l := by
  obtain ⟨g, cs, fs, rfl, h1, h2, h3, h4, h5, h6, h7, h8⟩ := h
  refine ⟨g, cs, fs, rfl, h1, h2, h3, h4, h5.ob ho (fun hm => by have := hd g hm; omega), h6, ⟨h7.1, fun i hi => (h7.2 i hi).keep (fun _ _ => rfl) ho.size fun b hb => ?_⟩, h8.mono (Nat.le_refl _) ho.size⟩
  have hm := h8.2 b (mem_flatten_pix hb)
  exact ho.block b hm.2 fun hx => by have := hd b hx; omega
end Go.Proofs.Ytggjdgjkdmgjnaa
