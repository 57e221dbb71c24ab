import Derived.Test.YtggjdgjkdmgjnaaGreatRows
import Derived.Test.YtggjdgjkdmgjnaaGreatBg9
namespace Go.Proofs.YtggjdgjkdmgjnaaGreat

open Go.RowKit

/-- A region that draws its order, whose operations yield one value each in every world that has grown: one walk serves. -/
theorem wp_region_bl {P : Program} {id : Nat} {Q : Exit → Act → World → Prop} {a : Act} {w0 w : World} {l : List Oper} (hm : P.follows .mixedOrders = true) (hB : Region.lexB .any l.toArray = true) (hw : Bl w0 w)
    (h : wpQuiet P l.toArray (fun w' => Bl w0 w') (fun a' => ∀ w', Bl w0 w' → Q .normal a' w') l a) : (Code.region id l.toArray true).wp P Q a w :=
  wp_region_quiet (C := fun w' => Bl w0 w') hm hB hw.drew (by simpa using h)
/-- Three valid points with a positive area. -/
def Prop3 (l : List PtD) : Prop := AllP l ∧ ∃ a b c, l = [a, b, c] ∧ 0 < sgnR (dblA a b c)
open Classical in
noncomputable def propB (l : List PtD) : Bool := decide (Prop3 l)
theorem propB_yes {l : List PtD} (h : Prop3 l) : propB l = true := by unfold propB; simp [h]
theorem propB_no {l : List PtD} (h : ¬ Prop3 l) : propB l = false := by unfold propB; simp [h]
theorem len3 {α : Type} {cs : List α} (h : cs.length = 3) : ∃ a0 a1 a2, cs = [a0, a1, a2] := by
  match cs, h with
  | [a, b, c], _ => exact ⟨a, b, c, rfl⟩
set_option maxRecDepth 100000 in
set_option maxHeartbeats 1000000 in
theorem IsProper_any (w : World) {g n c0 : Nat} {l : List PtD} (h : RdPS w (some ⟨g, 0, none⟩) n c0 l) :
    Calls Tryz.prog 43 #[.slice (some ⟨g, 0, none⟩) n c0] w fun e w' => e = .returned (.bool (propB l)) ∧ Bl w w' := by
  have hl := h.len
  have hsm := h.small
  by_cases h3 : n = 3
  · subst h3
    by_cases hall : AllP l
    · obtain ⟨p0, p1, p2, rfl⟩ := len3 hl
      obtain ⟨_, e0, hg, hc0⟩ := h.cells 0 (by omega)
      cases e0
      rw [Addr.add_lit] at hc0
      obtain ⟨s, A, n, c, B, m, d, t, C, i, e, D, j, f, ⟨x0, x1, x2, x3, x4, x5⟩, hX0, hY0⟩ := (show PtAt w ⟨g, 0, none⟩ p0 from hc0)
      have x0 : w.cell? ⟨g, 0, none⟩ = some (.bool s) := x0
      have x1 : w.cell? ⟨g, 1, none⟩ = some (.slice A n c) := x1
      have x2 : w.cell? ⟨g, 2, none⟩ = some (.slice B m d) := x2
      have x3 : w.cell? ⟨g, 3, none⟩ = some (.bool t) := x3
      have x4 : w.cell? ⟨g, 4, none⟩ = some (.slice C i e) := x4
      have x5 : w.cell? ⟨g, 5, none⟩ = some (.slice D j f) := x5
      obtain ⟨_, e0, hg, hc1⟩ := h.cells 1 (by omega)
      cases e0
      rw [Addr.add_lit] at hc1
      obtain ⟨s', A', n', c', B', m', d', t', C', i', e', D', j', f', ⟨y0, y1, y2, y3, y4, y5⟩, hX1, hY1⟩ := (show PtAt w ⟨g, 6, none⟩ p1 from hc1)
      have y0 : w.cell? ⟨g, 6, none⟩ = some (.bool s') := y0
      have y1 : w.cell? ⟨g, 7, none⟩ = some (.slice A' n' c') := y1
      have y2 : w.cell? ⟨g, 8, none⟩ = some (.slice B' m' d') := y2
      have y3 : w.cell? ⟨g, 9, none⟩ = some (.bool t') := y3
      have y4 : w.cell? ⟨g, 10, none⟩ = some (.slice C' i' e') := y4
      have y5 : w.cell? ⟨g, 11, none⟩ = some (.slice D' j' f') := y5
      obtain ⟨_, e0, hg, hc2⟩ := h.cells 2 (by omega)
      cases e0
      rw [Addr.add_lit] at hc2
      obtain ⟨s2, A2, n2, c2, B2, m2, d2, t2, C2, i2, e2, D2, j2, f2, ⟨z0, z1, z2, z3, z4, z5⟩, hX2, hY2⟩ := (show PtAt w ⟨g, 12, none⟩ p2 from hc2)
      have z0 : w.cell? ⟨g, 12, none⟩ = some (.bool s2) := z0
      have z1 : w.cell? ⟨g, 13, none⟩ = some (.slice A2 n2 c2) := z1
      have z2 : w.cell? ⟨g, 14, none⟩ = some (.slice B2 m2 d2) := z2
      have z3 : w.cell? ⟨g, 15, none⟩ = some (.bool t2) := z3
      have z4 : w.cell? ⟨g, 16, none⟩ = some (.slice C2 i2 e2) := z4
      have z5 : w.cell? ⟨g, 17, none⟩ = some (.slice D2 j2 f2) := z5
      clear hc0 hc1 hc2
      have hv : propB [p0, p1, p2] = decide (0 < sgnR (dblA p0 p1 p2)) := by
        by_cases hs : 0 < sgnR (dblA p0 p1 p2)
        · rw [propB_yes ⟨hall, _, _, _, rfl, hs⟩]; simp [hs]
        · rw [propB_no (fun hk => by
            obtain ⟨_, a, b, c, e, hs'⟩ := hk
            injection e with e1 e
            injection e with e2 e
            injection e with e3 e
            subst e1 e2 e3
            exact hs hs')]
          simp [hs]
      have hv := Lib.hid hv; rename_i h_; clear h_
      have hall := Lib.hid hall; rename_i h_; clear h_
      go_enter Tryz.func43, Tryz.ntmps43
      go_wp2_with fail
      go_region_held3 (fun w' => (w'.cell? ⟨g, 0, none⟩ = some (.bool s) ∧ w'.cell? ⟨g, 1, none⟩ = some (.slice A n c) ∧ w'.cell? ⟨g, 2, none⟩ = some (.slice B m d) ∧ w'.cell? ⟨g, 3, none⟩ = some (.bool t) ∧ w'.cell? ⟨g, 4, none⟩ = some (.slice C i e) ∧ w'.cell? ⟨g, 5, none⟩ = some (.slice D j f)) ∧ (w'.cell? ⟨g, 6, none⟩ = some (.bool s') ∧ w'.cell? ⟨g, 7, none⟩ = some (.slice A' n' c') ∧ w'.cell? ⟨g, 8, none⟩ = some (.slice B' m' d') ∧ w'.cell? ⟨g, 9, none⟩ = some (.bool t') ∧ w'.cell? ⟨g, 10, none⟩ = some (.slice C' i' e') ∧ w'.cell? ⟨g, 11, none⟩ = some (.slice D' j' f')) ∧ (w'.cell? ⟨g, 12, none⟩ = some (.bool s2) ∧ w'.cell? ⟨g, 13, none⟩ = some (.slice A2 n2 c2) ∧ w'.cell? ⟨g, 14, none⟩ = some (.slice B2 m2 d2) ∧ w'.cell? ⟨g, 15, none⟩ = some (.bool t2) ∧ w'.cell? ⟨g, 16, none⟩ = some (.slice C2 i2 e2) ∧ w'.cell? ⟨g, 17, none⟩ = some (.slice D2 j2 f2))) (first | exact ⟨⟨(Bl.cellOf (w := w) (p := ⟨g, 0, none⟩) slc hg).trans x0, (Bl.cellOf (w := w) (p := ⟨g, 1, none⟩) slc hg).trans x1, (Bl.cellOf (w := w) (p := ⟨g, 2, none⟩) slc hg).trans x2, (Bl.cellOf (w := w) (p := ⟨g, 3, none⟩) slc hg).trans x3, (Bl.cellOf (w := w) (p := ⟨g, 4, none⟩) slc hg).trans x4, (Bl.cellOf (w := w) (p := ⟨g, 5, none⟩) slc hg).trans x5⟩, ⟨(Bl.cellOf (w := w) (p := ⟨g, 6, none⟩) slc hg).trans y0, (Bl.cellOf (w := w) (p := ⟨g, 7, none⟩) slc hg).trans y1, (Bl.cellOf (w := w) (p := ⟨g, 8, none⟩) slc hg).trans y2, (Bl.cellOf (w := w) (p := ⟨g, 9, none⟩) slc hg).trans y3, (Bl.cellOf (w := w) (p := ⟨g, 10, none⟩) slc hg).trans y4, (Bl.cellOf (w := w) (p := ⟨g, 11, none⟩) slc hg).trans y5⟩, ⟨(Bl.cellOf (w := w) (p := ⟨g, 12, none⟩) slc hg).trans z0, (Bl.cellOf (w := w) (p := ⟨g, 13, none⟩) slc hg).trans z1, (Bl.cellOf (w := w) (p := ⟨g, 14, none⟩) slc hg).trans z2, (Bl.cellOf (w := w) (p := ⟨g, 15, none⟩) slc hg).trans z3, (Bl.cellOf (w := w) (p := ⟨g, 16, none⟩) slc hg).trans z4, (Bl.cellOf (w := w) (p := ⟨g, 17, none⟩) slc hg).trans z5⟩⟩) (first | (go_at_call 108; refine (ContainsPt_yes _ (RdPS.bl h slc) hall.out).mono ?_; rintro en w1 ⟨rfl, hb1⟩) | (go_at_call 62; refine (DoubleArea_any _ (hX0.bl slc) (hY0.bl slc) (hX1.bl slc) (hY1.bl slc) (hX2.bl slc) (hY2.bl slc)).mono ?_; rintro en w2 ⟨s3, A3, n3, c3, B3, m3, d3, rfl, hR, hb2⟩) | (go_at_call 33; refine (RatSign_any _ hR.rd).mono ?_; rintro en w3 ⟨rfl, hb3⟩))
      go_wp2_with fail
      go_ret
      exact ⟨ret_bool hv.out.symm, slc⟩
    · have hv := Lib.hid (propB_no (fun hk => hall hk.1))
      have hall := Lib.hid hall; rename_i h_; clear h_
      go_enter Tryz.func43, Tryz.ntmps43
      go_wp2_with fail
      refine wp_region_bl (w0 := w) (by kernel_rfl) (by kernel_rfl) (Bl.refl w) ?_
      iterate 5 (quiet_step ((intro _; with_reducible rfl)))
      quiet_step ((intro hbz; go_at_call 108; refine (ContainsPt_no _ (RdPS.bl h hbz) hall.out).mono ?_; (rintro en w1 ⟨rfl, hb1⟩); exact ⟨rfl, hbz.next hb1⟩))
      iterate 3 (quiet_step ((intro _; with_reducible rfl)))
      repeat (first | go_big_quiet_skip | (go_big_quiet_want; go_big_quiet_op; go_big_quiet_on) | quiet_step ((intro _; with_reducible rfl)))
      refine wpQuiet_nil ?_
      intro w1 hb1
      go_wp2_with fail
      go_ret
      exact ⟨ret_bool hv.out.symm, hb1⟩
  · have hv := Lib.hid (propB_no (l := l) (fun hk => by
      obtain ⟨_, a, b, c, e, _⟩ := hk
      rw [e] at hl
      exact h3 hl.symm))
    have hi : ((n : Int) == 3) = false := by simp; omega
    have hl := Lib.hid hl; rename_i h_; clear h_
    go_enter Tryz.func43, Tryz.ntmps43
    go_wp2_with fail
    go_quiet (fail)
    go_wp2_with fail
    go_ret
    exact ⟨ret_bool hv.out.symm, slc⟩

end Go.Proofs.YtggjdgjkdmgjnaaGreat
