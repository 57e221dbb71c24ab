import Derived.Test.YtggjdgjkdmgjnaaRows
import Derived.Test.YtggjdgjkdmgjnaaBase
import Derived.ProofKit
import Derived.Deep.Slices
namespace Go.Proofs.Ytggjdgjkdmgjnaa

open Go.RowKit Go.ChangeShapes
open Go.Deep (open_slice open_slice1 choose_lt)

theorem len_2 {α : Type} {cs : List α} (h : cs.length = 2) : ∃ a0 a1, cs = [a0, a1] := by
  match cs, h with
  | [a0, a1], _ => exact ⟨a0, a1, rfl⟩
theorem len_3 {α : Type} {cs : List α} (h : cs.length = 3) : ∃ a0 a1 a2, cs = [a0, a1, a2] := by
  match cs, h with
  | [a0, a1, a2], _ => exact ⟨a0, a1, a2, rfl⟩
theorem len_5 {α : Type} {cs : List α} (h : cs.length = 5) : ∃ a0 a1 a2 a3 a4, cs = [a0, a1, a2, a3, a4] := by
  match cs, h with
  | [a0, a1, a2, a3, a4], _ => exact ⟨a0, a1, a2, a3, a4, rfl⟩
theorem len_6 {α : Type} {cs : List α} (h : cs.length = 6) : ∃ a0 a1 a2 a3 a4 a5, cs = [a0, a1, a2, a3, a4, a5] := by
  match cs, h with
  | [a0, a1, a2, a3, a4, a5], _ => exact ⟨a0, a1, a2, a3, a4, a5, rfl⟩
theorem cells_il : Try.prog.cellsOf 45 = 1 := by kernel_rfl
theorem cells_b : Try.prog.cellsOf 4 = 1 := by kernel_rfl
theorem cells_i : Try.prog.cellsOf 3 = 1 := by kernel_rfl
theorem cells_bi : Try.prog.cellsOf 70 = 2 := by kernel_rfl
theorem cells_rat : Try.prog.cellsOf 72 = 3 := by kernel_rfl
theorem cells_pt : Try.prog.cellsOf 74 = 6 := by kernel_rfl
theorem cells_ptl : Try.prog.cellsOf 22 = 1 := by kernel_rfl
section
variable {H : Type} {enc : TypeId × Value → H} {w : World} {fuel : Nat} {cs : List Value} {x : DataW H × List MemPlace}
theorem open_il {spare : Nat → Bool} {base : Nat} {held : Bool} (h : DataW.trod enc Try.prog w base spare held fuel 45 cs = some x) : ∃ A n c l, cs = [.slice A n c] ∧ RdI w A n c l := by
  rcases open_slice1 Try.underlying45 cells_i h with ⟨rfl, _⟩ | ⟨a, len, cap, m, k, V, D, Pl, rfl, hb, hl, hm, hmm, _, hx⟩
  · exact ⟨none, 0, 0, [], rfl, RdI.nil w _ _⟩
  · have hm' : cap ≤ 9223372036854775807 := by simpa [maxLen] using hm
    have hlm : len ≤ m := by rw [hmm]; split <;> omega
    refine ⟨some a, len, cap, (List.range len).map fun i => intOf (V i), rfl, by simp, hl, by omega, fun i hi => ?_⟩
    obtain ⟨hc, ht⟩ := hx i (by omega)
    obtain ⟨z, e, _⟩ := DataW.trod_int Try.underlying3 ht
    refine ⟨a, rfl, ?_, ?_⟩
    · have := World.block_lt_of_cell? w _ hc
      rwa [block_add] at this
    · rw [hc]
      injection e with e
      rw [e]
      simp [ix, hi, e, intOf]

theorem open_bi {spare : Nat → Bool} {base : Nat} {held : Bool} (h : DataW.trod enc Try.prog w base spare held fuel 70 cs = some x) : ∃ s A n c l, cs = [.bool s, .slice A n c] ∧ RdI w A n c l := by
  obtain ⟨y0, y1, n, _, hlen, h0, h1⟩ := trod_struct2 Try.underlying70 h
  have hl : cs.length = 2 := hlen.trans cells_bi
  obtain ⟨a, b, rfl⟩ := len_2 hl
  have h0' : DataW.trod enc Try.prog w base spare held n 4 [a] = some y0 := by simpa [cells_b, cells_bi, cells_rat, cells_ptl] using h0
  have h1' : DataW.trod enc Try.prog w base spare held n 45 [b] = some y1 := by simpa [cells_il] using h1
  obtain ⟨s, e0, _⟩ := DataW.trod_bool Try.underlying4 h0'
  obtain ⟨A, k, c, l, e1, hr⟩ := open_il h1'
  injection e0 with e0
  injection e1 with e1
  exact ⟨s, A, k, c, l, by rw [e0, e1], hr⟩
theorem open_rat {spare : Nat → Bool} {base : Nat} {held : Bool} (h : DataW.trod enc Try.prog w base spare held fuel 72 cs = some x) : ∃ s A n c B m d r, cs = [.bool s, .slice A n c, .slice B m d] ∧ RdR w s A n c B m d r := by
  obtain ⟨y0, y1, n, _, hlen, h0, h1⟩ := trod_struct2 Try.underlying72 h
  have hl : cs.length = 3 := hlen.trans cells_rat
  obtain ⟨a, b, c, rfl⟩ := len_3 hl
  have h0' : DataW.trod enc Try.prog w base spare held n 70 [a, b] = some y0 := by simpa [cells_b, cells_bi, cells_rat, cells_ptl] using h0
  have h1' : DataW.trod enc Try.prog w base spare held n 45 [c] = some y1 := by simpa [cells_il] using h1
  obtain ⟨s, A, k, d, l, e0, hr⟩ := open_bi h0'
  obtain ⟨B, m, e, l', e1, hr'⟩ := open_il h1'
  injection e0 with e0 e0'
  injection e0' with e0'
  injection e1 with e1
  exact ⟨s, A, k, d, B, m, e, ⟨s, l, l'⟩, by rw [e0, e0', e1], ⟨rfl, hr, hr'⟩⟩
theorem open_pt {spare : Nat → Bool} {base : Nat} {held : Bool} (h : DataW.trod enc Try.prog w base spare held fuel 74 cs = some x) : ∃ s A n c B m d t C i e D j f p, cs = [.bool s, .slice A n c, .slice B m d, .bool t, .slice C i e, .slice D j f] ∧ RdR w s A n c B m d (PtD.x p) ∧ RdR w t C i e D j f (PtD.y p) := by
  obtain ⟨y0, y1, n, _, hlen, h0, h1⟩ := trod_struct2 Try.underlying74 h
  have hl : cs.length = 6 := hlen.trans cells_pt
  obtain ⟨a0, a1, a2, a3, a4, a5, rfl⟩ := len_6 hl
  have h0' : DataW.trod enc Try.prog w base spare held n 72 [a0, a1, a2] = some y0 := by simpa [cells_b, cells_bi, cells_rat, cells_ptl] using h0
  have h1' : DataW.trod enc Try.prog w base spare held n 72 [a3, a4, a5] = some y1 := by simpa [cells_rat] using h1
  obtain ⟨s, A, k, c, B, m, d, r, e0, hr⟩ := open_rat h0'
  obtain ⟨t, C, i, e, D, j, f, u, e1, hr'⟩ := open_rat h1'
  injection e0 with g0 e0
  injection e0 with g1 e0
  injection e0 with g2 e0
  injection e1 with g3 e1
  injection e1 with g4 e1
  injection e1 with g5 e1
  exact ⟨s, A, k, c, B, m, d, t, C, i, e, D, j, f, ⟨r, u⟩, by rw [g0, g1, g2, g3, g4, g5], hr, hr'⟩
theorem open_ptl {spare : Nat → Bool} {base : Nat} {held : Bool} (h : DataW.trod enc Try.prog w base spare held fuel 22 cs = some x) : ∃ A n c l, cs = [.slice A n c] ∧ RdPS w A n c l := by
  rcases open_slice Try.underlying22 h with ⟨rfl, _⟩ | ⟨a, len, cap, m, k, D, Pl, rfl, hb, hl, hm, hmm, _, hx⟩
  · exact ⟨none, 0, 0, [], rfl, RdS.nil w _ _⟩
  · have hm' : cap ≤ 9223372036854775807 := by simpa [maxLen] using hm
    have hlm : len ≤ m := by rw [hmm]; split <;> omega
    have hel : ∀ i, i < len → ∃ p, a.block < w.heap.size ∧ PtAt w (a.add (i * 6)) p := by
      intro i hi
      obtain ⟨cs', hc, ht⟩ := hx i (by omega)
      have hc' : w.cells? base (a.add (i * 6)) 6 = some cs' := by rw [cells_pt] at hc; exact hc
      obtain ⟨s, A, n, c, B, m, d, t, C, i', e, D, j, f, p, rfl, hr, hr'⟩ := open_pt ht
      obtain ⟨_, _, hcell⟩ := World.cells?_some hc'
      have c0 := hcell 0 (by omega)
      refine ⟨p, ?_, s, A, n, c, B, m, d, t, C, i', e, D, j, f, ⟨c0, hcell 1 (by omega), hcell 2 (by omega), hcell 3 (by omega), hcell 4 (by omega), hcell 5 (by omega)⟩, hr, hr'⟩
      have := World.block_lt_of_cell? w _ (show w.cell? ((a.add (i * 6)).add 0) = some (.bool s) from c0)
      rwa [block_add, block_add] at this
    obtain ⟨F, hF⟩ := choose_lt hel
    refine ⟨some a, len, cap, (List.range len).map F, rfl, by simp, hl, by omega, fun i hi => ⟨a, rfl, (hF i hi).1, ?_⟩⟩
    have : pix ((List.range len).map F) i = F i := by simp [pix, hi]
    rw [this]
    exact (hF i hi).2
end

end Go.Proofs.Ytggjdgjkdmgjnaa
