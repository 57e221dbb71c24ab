import Derived.Test.YtggjdgjkdmgjnaaRows
import Derived.Test.YtggjdgjkdmgjnaaOpen
namespace Go.Proofs.Ytggjdgjkdmgjnaa

open Go.RowKit Go.ChangeShapes
open Go.Deep (open_slice open_slice1 choose_lt)
theorem cells_tri : Try.prog.cellsOf 78 = 5 := by kernel_rfl
theorem cells_trl : Try.prog.cellsOf 23 = 1 := by kernel_rfl
theorem cells_me : Try.prog.cellsOf 25 = 2 := by kernel_rfl
section
variable {H : Type} {enc : TypeId × Value → H} {w : World} {fuel : Nat} {cs : List Value} {x : DataW H × List MemPlace}
theorem open_tri {spare : Nat → Bool} {base : Nat} {held : Bool} (h : DataW.trod enc Try.prog w base spare held fuel 78 cs = some x) : ∃ a b c d e, cs = [.int .i64 a, .int .i64 b, .int .i64 c, .int .i64 d, .int .i64 e] := by
  obtain ⟨xs, n, _, _, hlen, hlx, hf⟩ := DataW.trod_struct Try.underlying78 h
  have hl : cs.length = 5 := hlen.trans cells_tri
  obtain ⟨a0, a1, a2, a3, a4, rfl⟩ := len_5 hl
  have hx : xs.length = 5 := hlx
  obtain ⟨y0, y1, y2, y3, y4, rfl⟩ := len_5 hx
  have h0 : DataW.trod enc Try.prog w base spare held n 3 [a0] = some y0 := by simpa [cells_i] using hf 0 _ rfl
  have h1 : DataW.trod enc Try.prog w base spare held n 3 [a1] = some y1 := by simpa [cells_i] using hf 1 _ rfl
  have h2 : DataW.trod enc Try.prog w base spare held n 3 [a2] = some y2 := by simpa [cells_i] using hf 2 _ rfl
  have h3 : DataW.trod enc Try.prog w base spare held n 3 [a3] = some y3 := by simpa [cells_i] using hf 3 _ rfl
  have h4 : DataW.trod enc Try.prog w base spare held n 3 [a4] = some y4 := by simpa [cells_i] using hf 4 _ rfl
  obtain ⟨z0, e0, _⟩ := DataW.trod_int Try.underlying3 h0
  obtain ⟨z1, e1, _⟩ := DataW.trod_int Try.underlying3 h1
  obtain ⟨z2, e2, _⟩ := DataW.trod_int Try.underlying3 h2
  obtain ⟨z3, e3, _⟩ := DataW.trod_int Try.underlying3 h3
  obtain ⟨z4, e4, _⟩ := DataW.trod_int Try.underlying3 h4
  injection e0 with e0
  injection e1 with e1
  injection e2 with e2
  injection e3 with e3
  injection e4 with e4
  exact ⟨z0, z1, z2, z3, z4, by rw [e0, e1, e2, e3, e4]⟩
theorem open_trl {spare : Nat → Bool} {base : Nat} {held : Bool} (h : DataW.trod enc Try.prog w base spare held fuel 23 cs = some x) : ∃ A n c l, cs = [.slice A n c] ∧ RdTS w A n c l := by
  rcases open_slice Try.underlying23 h with ⟨rfl, _⟩ | ⟨a, len, cap, m, k, D, Pl, rfl, hb, hl, hm, hmm, _, hx⟩
  · exact ⟨none, 0, 0, [], rfl, RdS.nil w _ _⟩
  · have hm' : cap ≤ 9223372036854775807 := by simpa [maxLen] using hm
    have hlm : len ≤ m := by rw [hmm]; split <;> omega
    have hel : ∀ i, i < len → ∃ t, a.block < w.heap.size ∧ TrAt w (a.add (i * 5)) t := by
      intro i hi
      obtain ⟨cs', hc, ht⟩ := hx i (by omega)
      have hc' : w.cells? base (a.add (i * 5)) 5 = some cs' := by rw [cells_tri] at hc; exact hc
      obtain ⟨a1, a2, a3, a4, a5, rfl⟩ := open_tri ht
      obtain ⟨_, _, hcell⟩ := World.cells?_some hc'
      have c0 := hcell 0 (by omega)
      refine ⟨⟨a1, a2, a3, a4, a5⟩, ?_, c0, hcell 1 (by omega), hcell 2 (by omega), hcell 3 (by omega), hcell 4 (by omega)⟩
      have := World.block_lt_of_cell? w _ (show w.cell? ((a.add (i * 5)).add 0) = some (.int .i64 a1) from c0)
      rwa [block_add, block_add] at this
    obtain ⟨F, hF⟩ := choose_lt hel
    refine ⟨some a, len, cap, (List.range len).map F, rfl, by simp, hl, by omega, fun i hi => ⟨a, rfl, (hF i hi).1, ?_⟩⟩
    have : pix ((List.range len).map F) i = F i := by simp [pix, hi]
    rw [this]
    exact (hF i hi).2
theorem open_me {spare : Nat → Bool} {base : Nat} {held : Bool} (h : DataW.trod enc Try.prog w base spare held fuel 25 cs = some x) : ∃ A n c B m d y, cs = [.slice A n c, .slice B m d] ∧ RdPS w A n c (MeD.points y) ∧ RdTS w B m d (MeD.tris y) := by
  obtain ⟨y0, y1, n, _, hlen, h0, h1⟩ := trod_struct2 Try.underlying25 h
  have hl : cs.length = 2 := hlen.trans cells_me
  obtain ⟨a, b, rfl⟩ := len_2 hl
  have h0' : DataW.trod enc Try.prog w base spare held n 22 [a] = some y0 := by simpa [cells_b, cells_bi, cells_rat, cells_ptl] using h0
  have h1' : DataW.trod enc Try.prog w base spare held n 23 [b] = some y1 := by simpa [cells_trl] using h1
  obtain ⟨A, k, c, l, e0, hr⟩ := open_ptl h0'
  obtain ⟨B, m, d, l', e1, hr'⟩ := open_trl h1'
  injection e0 with e0
  injection e1 with e1
  exact ⟨A, k, c, B, m, d, ⟨l, l'⟩, by rw [e0, e1], hr, hr'⟩
end

end Go.Proofs.Ytggjdgjkdmgjnaa
