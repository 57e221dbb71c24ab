/- For every pair of problems the law FnExactSameProblem returns true and leaves its arguments as they were. Conditions: none. -/
import Derived.Test.YtebfacejgphmhaaRows
import Derived.Test.YtebfacejgphmhaaLaw2
import Derived.Test.YtebfacejgphmhaaOpen
import Derived.ProofKit
namespace Go.Proofs.Ytebfacejgphmhaa
open Go.ChangeShapes Go.WideShapes Go.ChangeAt Go.RowKit
open Go.Deep (open_slice open_slice1 choose_lt)

theorem len_4 {α : Type} {cs : List α} (h : cs.length = 4) : ∃ a0 a1 a2 a3, cs = [a0, a1, a2, a3] := by
  match cs, h with
  | [a0, a1, a2, a3], _ => exact ⟨a0, a1, a2, a3, rfl⟩
theorem cells_rtl : Try.prog.cellsOf 38 = 1 := by kernel_rfl
theorem cells_pr : Try.prog.cellsOf 40 = 4 := by kernel_rfl
section
variable {H : Type} {enc : TypeId × Value → H} {w : World} {fuel : Nat} {cs : List Value} {x : DataW H × List MemPlace}
theorem open_rtl {spare : Nat → Bool} {base : Nat} {held : Bool} (h : DataW.trod enc Try.prog w base spare held fuel 38 cs = some x) : ∃ A n c l, cs = [.slice A n c] ∧ RdRS w A n c l := by
  rcases open_slice Try.underlying38 h with ⟨rfl, _⟩ | ⟨a, len, cap, m, k, D, Pl, rfl, hb, hl, hm, hmm, _, hx⟩
  · exact ⟨none, 0, 0, [], rfl, RdS.nil w _ _⟩
  · have hm' : cap ≤ 9223372036854775807 := by simpa [maxLen] using hm
    have hlm : len ≤ m := by rw [hmm]; split <;> omega
    have hel : ∀ i, i < len → ∃ p, a.block < w.heap.size ∧ RtAt w (a.add (i * 3)) p := by
      intro i hi
      obtain ⟨cs', hc, ht⟩ := hx i (by omega)
      have hc' : w.cells? base (a.add (i * 3)) 3 = some cs' := by rw [cells_rat] at hc; exact hc
      obtain ⟨s, A, n, c, B, m, d, r, rfl, hr⟩ := open_rat ht
      obtain ⟨_, _, hcell⟩ := World.cells?_some hc'
      have c0 := hcell 0 (by omega)
      refine ⟨r, ?_, s, A, n, c, B, m, d, ⟨c0, hcell 1 (by omega), hcell 2 (by omega)⟩, hr⟩
      have := World.block_lt_of_cell? w _ (show w.cell? ((a.add (i * 3)).add 0) = some (.bool s) from c0)
      rwa [block_add, block_add] at this
    obtain ⟨F, hF⟩ := choose_lt hel
    refine ⟨some a, len, cap, (List.range len).map F, rfl, by simp, hl, by omega, fun i hi => ⟨a, rfl, (hF i hi).1, ?_⟩⟩
    have : pix ((List.range len).map F) i = F i := by simp [pix, hi]
    rw [this]
    exact (hF i hi).2
theorem open_pr {spare : Nat → Bool} {base : Nat} {held : Bool} (h : DataW.trod enc Try.prog w base spare held fuel 40 cs = some x) : ∃ A n c B m d C i e D j f y, cs = [.slice A n c, .slice B m d, .slice C i e, .slice D j f] ∧
    (RdPS w A n c (PrD.mesh y).points ∧ RdTS w B m d (PrD.mesh y).tris) ∧ RdRS w C i e (PrD.diff y) ∧ RdRS w D j f (PrD.src y) := by
  obtain ⟨xs, n, _, _, hlen, hlx, hf⟩ := DataW.trod_struct Try.underlying40 h
  have hl : cs.length = 4 := hlen.trans cells_pr
  obtain ⟨a0, a1, a2, a3, rfl⟩ := len_4 hl
  have hx : xs.length = 3 := hlx
  obtain ⟨y0, y1, y2, rfl⟩ := len_3 hx
  have h0 : DataW.trod enc Try.prog w base spare held n 25 [a0, a1] = some y0 := by simpa [cells_me, cells_rtl] using hf 0 _ rfl
  have h1 : DataW.trod enc Try.prog w base spare held n 38 [a2] = some y1 := by simpa [cells_me, cells_rtl] using hf 1 _ rfl
  have h2 : DataW.trod enc Try.prog w base spare held n 38 [a3] = some y2 := by simpa [cells_me, cells_rtl] using hf 2 _ rfl
  obtain ⟨A, k, c, B, m, d, y, e0, hp, ht⟩ := open_me h0
  obtain ⟨C, i, e, l, e1, hr⟩ := open_rtl h1
  obtain ⟨D, j, f, l', e2, hr'⟩ := open_rtl h2
  injection e0 with g0 e0
  injection e0 with g1 e0
  injection e1 with g2 e1
  injection e2 with g3 e2
  exact ⟨A, k, c, B, m, d, C, i, e, D, j, f, ⟨y, l, l'⟩, by rw [g0, g1, g2, g3], ⟨hp, ht⟩, hr, hr'⟩
end
theorem Try.own : ownKnob Try.prog.godebug = none := by kernel_rfl
theorem Try.laidOut : laidOutB Try.prog = true := by kernel_rfl

set_option maxRecDepth 100000 in
theorem fnExactSameProblem_lifted (os : Os) (started : os.Started) (H : Type) (enc : TypeId × Value → H) :
    ReturnsInHanded {} Try.checked os 4 .any (Rows.fnExactSameProblemSpec.pre6 enc Try.prog Try.f4 Rows.fnExactSameProblemRow.domain false) (Rows.fnExactSameProblemSpec.post enc Try.prog Try.f4 false true false false) := by
  refine returnsInHanded_of_change (C := Try.checked) Try.own started (by kernel_rfl) Try.func4
    (ChangeSpec.witness6 (enc := enc) (C := Try.checked) false ⟨#[], #[.agg #[.slice none 0 0, .slice none 0 0, .slice none 0 0, .slice none 0 0], .agg #[.slice none 0 0, .slice none 0 0, .slice none 0 0, .slice none 0 0]], []⟩ 8 (by kernel_rfl) (by kernel_rfl) (by kernel_rfl) (by kernel_rfl)) ?_
  intro W base args ds gs before hval0 hW _ _
  have hval : ∀ (j : Nat) t v, Try.f4.params[j]? = some t → args[j]? = some v → Value.okWide Try.prog W .any base t v := hval0
  have hW' := hW
  obtain ⟨p, q, hA0, hV, rfl, hfz, hnd⟩ := hW
  have hA : DataW.TrodAll enc Try.prog W 0 (fun _ => true) true Try.f4.params.toList args.toList ds p := hA0
  rw [Try.params4] at hA hval
  obtain ⟨v0, v1, d0, d1, p0, p1, rfl, rfl, rfl, h0, h1⟩ := trodAll_two hA
  obtain ⟨rfl, rfl⟩ := trodVars_none hV
  clear hA0 hval0
  simp only [List.append_nil] at hW'
  have hlt : ∀ x ∈ p0 ++ p1, x.block < W.heap.size := fun x hx => by simpa using hW'.lt x hx
  have hk0 : ∀ W', Bl W W' → DataW.Trod enc Try.prog W' 0 (fun b => decide (b < W.heap.size)) true 40 v0 d0 p0 :=
    fun W' hn => Below.trod Try.laidOut (by kernel_rfl) (of_decide_eq_true (by kernel_rfl)) h0 hn (fun x hx => hlt x (by simp [hx]))
  have hk1 : ∀ W', Bl W W' → DataW.Trod enc Try.prog W' 0 (fun b => decide (b < W.heap.size)) true 40 v1 d1 p1 :=
    fun W' hn => Below.trod Try.laidOut (by kernel_rfl) (of_decide_eq_true (by kernel_rfl)) h1 hn (fun x hx => hlt x (by simp [hx]))
  obtain ⟨cs0, rfl, hs0⟩ := okWide_struct Try.underlying40 (hval 0 40 v0 rfl rfl)
  obtain ⟨cs1, rfl, hs1⟩ := okWide_struct Try.underlying40 (hval 1 40 v1 rfl rfl)
  obtain ⟨f0, hf0⟩ := h0
  obtain ⟨f1, hf1⟩ := h1
  obtain ⟨A, n, c, B, m, d, C, i, e, D, j, f, y, e0, ⟨hp, ht⟩, hr, hs⟩ := open_pr hf0
  obtain ⟨A', n', c', B', m', d', C', i', e', D', j', f', y', e1, ⟨hp', ht'⟩, hr', hs'⟩ := open_pr hf1
  obtain rfl : cs0 = #[.slice A n c, .slice B m d, .slice C i e, .slice D j f] := by rw [← Array.toList_inj]; exact e0
  obtain rfl : cs1 = #[.slice A' n' c', .slice B' m' d', .slice C' i' e', .slice D' j' f'] := by rw [← Array.toList_inj]; exact e1
  refine (FnExactSameProblem_any W hp ht hr hs hp' ht' hr' hs').mono fun e W' ⟨he, hb⟩ => ?_
  subst he
  refine ⟨_, rfl, _, _, _, [], p0 ++ p1, [], hW', trodAll_mk1 (shut_bool Try.underlying4 true), trodAll_mk2 (hk0 _ hb) (hk1 _ hb), rfl, Below.frame hb _, fun h => by cases h⟩

theorem sameProblem_holds : Rows.FnExactSameProblemSaid :=
  OpenClaim.holds_of_wide 4 Try.f4 rfl rfl rfl rfl rfl rfl rfl ⟨rfl, rfl, rfl, rfl, rfl⟩ rfl rfl rfl rfl rfl (by kernel_rfl) Try.func4 (by kernel_rfl)
    (of_decide_eq_true (by kernel_rfl)) (by unfold Func.isWrapper; first | (rw [if_pos (by decide +kernel)]; kernel_rfl) | (rw [if_neg (by decide +kernel)]; exact ⟨rfl, rfl⟩))
    (fun os started H enc _ => fnExactSameProblem_lifted os started H enc)

end Go.Proofs.Ytebfacejgphmhaa
