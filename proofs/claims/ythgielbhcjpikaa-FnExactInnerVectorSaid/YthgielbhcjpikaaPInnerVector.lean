/- For every pair of lists of fractions the law FnExactInnerVector returns true and leaves its arguments as they were. Conditions: none. -/
import Derived.Test.YthgielbhcjpikaaRows
import Derived.Test.YthgielbhcjpikaaLawIV
import Derived.Test.YthgielbhcjpikaaOpen
import Derived.ProofKit
namespace Go.Proofs.Ythgielbhcjpikaa
open Go.ChangeShapes Go.WideShapes Go.ChangeAt Go.RowKit
open Go.Deep (open_slice open_slice1 choose_lt)

theorem cells_rtl : Try.prog.cellsOf 42 = 1 := by kernel_rfl
section
variable {H : Type} {enc : TypeId × Value → H} {w : World} {fuel : Nat} {cs : List Value} {x : DataW H × List MemPlace}
theorem open_rtl {spare : Nat → Bool} {base : Nat} {held : Bool} (h : DataW.trod enc Try.prog w base spare held fuel 42 cs = some x) : ∃ A n c l, cs = [.slice A n c] ∧ RdRS w A n c l := by
  rcases open_slice Try.underlying42 h with ⟨rfl, _⟩ | ⟨a, len, cap, m, k, D, Pl, rfl, hb, hl, hm, hmm, _, hx⟩
  · exact ⟨none, 0, 0, [], rfl, RdS.nil w _ _⟩
  · have hm' : cap ≤ 9223372036854775807 := by simpa [maxLen] using hm
    have hlm : len ≤ m := by rw [hmm]; split <;> omega
    have hel : ∀ i, i < len → ∃ p, a.block < w.heap.size ∧ RtAt w (a.add (i * 3)) p := by
      intro i hi
      obtain ⟨cs', hc, ht⟩ := hx i (by omega)
      have hc' : w.cells? base (a.add (i * 3)) 3 = some cs' := by rw [cells_rat] at hc; exact hc
      obtain ⟨s, A, n, c, B, m, d, r, rfl, hr⟩ := open_rat ht
      obtain ⟨_, _, hcell⟩ := World.cells?_some hc'
      have c0 := hcell 0 (by omega)
      refine ⟨r, ?_, s, A, n, c, B, m, d, ⟨c0, hcell 1 (by omega), hcell 2 (by omega)⟩, hr⟩
      have := World.block_lt_of_cell? w _ (show w.cell? ((a.add (i * 3)).add 0) = some (.bool s) from c0)
      rwa [block_add, block_add] at this
    obtain ⟨F, hF⟩ := choose_lt hel
    refine ⟨some a, len, cap, (List.range len).map F, rfl, by simp, hl, by omega, fun i hi => ⟨a, rfl, (hF i hi).1, ?_⟩⟩
    have : pix ((List.range len).map F) i = F i := by simp [pix, hi]
    rw [this]
    exact (hF i hi).2
end

theorem Try.own : ownKnob Try.prog.godebug = none := by kernel_rfl
theorem Try.laidOut : laidOutB Try.prog = true := by kernel_rfl

set_option maxRecDepth 100000 in
theorem fnExactInnerVector_lifted (os : Os) (started : os.Started) (H : Type) (enc : TypeId × Value → H) :
    ReturnsInHanded {} Try.checked os 6 .any (Rows.fnExactInnerVectorSpec.pre6 enc Try.prog Try.f6 Rows.fnExactInnerVectorRow.domain false) (Rows.fnExactInnerVectorSpec.post enc Try.prog Try.f6 false true false false) := by
  refine returnsInHanded_of_change (C := Try.checked) Try.own started (by kernel_rfl) Try.func6
    (ChangeSpec.witness6 (enc := enc) (C := Try.checked) false ⟨#[], #[.slice none 0 0, .slice none 0 0], []⟩ 8 (by kernel_rfl) (by kernel_rfl) (by kernel_rfl) (by kernel_rfl)) ?_
  intro W base args ds gs before hval0 hW _ _
  have hval : ∀ (j : Nat) t v, Try.f6.params[j]? = some t → args[j]? = some v → Value.okWide Try.prog W .any base t v := hval0
  have hW' := hW
  obtain ⟨p, q, hA0, hV, rfl, hfz, hnd⟩ := hW
  have hA : DataW.TrodAll enc Try.prog W 0 (fun _ => true) true Try.f6.params.toList args.toList ds p := hA0
  rw [Try.params6] at hA hval
  obtain ⟨v0, v1, d0, d1, p0, p1, rfl, rfl, rfl, h0, h1⟩ := trodAll_two hA
  obtain ⟨rfl, rfl⟩ := trodVars_none hV
  clear hA0 hval0
  simp only [List.append_nil] at hW'
  have hlt : ∀ x ∈ p0 ++ p1, x.block < W.heap.size := fun x hx => by simpa using hW'.lt x hx
  have hk0 : ∀ W', Bl W W' → DataW.Trod enc Try.prog W' 0 (fun b => decide (b < W.heap.size)) true 42 v0 d0 p0 :=
    fun W' hn => Below.trod Try.laidOut (by kernel_rfl) (of_decide_eq_true (by kernel_rfl)) h0 hn (fun x hx => hlt x (by simp [hx]))
  have hk1 : ∀ W', Bl W W' → DataW.Trod enc Try.prog W' 0 (fun b => decide (b < W.heap.size)) true 42 v1 d1 p1 :=
    fun W' hn => Below.trod Try.laidOut (by kernel_rfl) (of_decide_eq_true (by kernel_rfl)) h1 hn (fun x hx => hlt x (by simp [hx]))
  obtain ⟨a0, n0, c0, rfl⟩ := okWide_slice Try.underlying42 (hval 0 42 v0 rfl rfl)
  obtain ⟨a1, n1, c1, rfl⟩ := okWide_slice Try.underlying42 (hval 1 42 v1 rfl rfl)
  obtain ⟨f0, hf0⟩ := h0
  obtain ⟨f1, hf1⟩ := h1
  obtain ⟨A, n, c, y, e0, hp⟩ := open_rtl hf0
  obtain ⟨B, m, d, y', e1, hp'⟩ := open_rtl hf1
  have e0 : Value.slice a0 n0 c0 = .slice A n c := by
    have : [Value.slice a0 n0 c0] = [.slice A n c] := e0
    injection this
  have e1 : Value.slice a1 n1 c1 = .slice B m d := by
    have : [Value.slice a1 n1 c1] = [.slice B m d] := e1
    injection this
  injection e0 with q1 q2 q3
  subst q1 q2 q3
  injection e1 with q1 q2 q3
  subst q1 q2 q3
  refine (FnExactInnerVector_any W hp hp').mono fun e W' ⟨he, hb⟩ => ?_
  subst he
  refine ⟨_, rfl, _, _, _, [], p0 ++ p1, [], hW', trodAll_mk1 (shut_bool Try.underlying4 true), trodAll_mk2 (hk0 _ hb) (hk1 _ hb), rfl, Below.frame hb _, fun h => by cases h⟩

theorem innerVector_holds : Rows.FnExactInnerVectorSaid :=
  OpenClaim.holds_of_wide 6 Try.f6 rfl rfl rfl rfl rfl rfl rfl ⟨rfl, rfl, rfl, rfl, rfl⟩ rfl rfl rfl rfl rfl (by kernel_rfl) Try.func6 (by kernel_rfl)
    (of_decide_eq_true (by kernel_rfl)) (by unfold Func.isWrapper; first | (rw [if_pos (by decide +kernel)]; kernel_rfl) | (rw [if_neg (by decide +kernel)]; exact ⟨rfl, rfl⟩))
    (fun os started H enc _ => fnExactInnerVector_lifted os started H enc)

end Go.Proofs.Ythgielbhcjpikaa
