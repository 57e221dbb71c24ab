/- Lemmas. -/
import Derived.Test.YtajlahjghapbkaaGreatRows
import Derived.Test.YtajlahjghapbkaaGreatPIntegralsM20
import Derived.Test.YtajlahjghapbkaaGreatPIntegralsM25
import Derived.Deep.Cut
import Derived.Deep.DeepCutAuto
namespace Go.Proofs.YtajlahjghapbkaaGreat
section
open Go.RowKit

theorem FtI.neT {T TP : TypeId} {w : World} {A : Option Addr} {n c k g : Nat} {l : List Int} {bs : List Nat} (h : FtI T w A n c l bs) (hk : Wk k TP g w) (hne : T ≠ TP) : ∀ b ∈ bs, b ≠ g := by
  intro b hm e
  subst e
  obtain ⟨cs', h1, _⟩ := hk
  rcases h.2 with ⟨_, e2⟩ | ⟨g', cs, _, _, hh, _, e2⟩
  · rw [e2] at hm; cases hm
  · rw [e2] at hm
    simp at hm
    subst hm
    have h3 : w.heap[b]? = some (.cells cs' TP (0, 0)) := h1
    rw [hh] at h3
    injection h3 with h3
    injection h3 with _ h3
    exact hne h3
theorem FtR.neT {T TP : TypeId} {w : World} {s : Bool} {A : Option Addr} {n c : Nat} {B : Option Addr} {m d k g : Nat} {r : RatD} {bs : List Nat} (h : FtR T w s A n c B m d r bs) (hk : Wk k TP g w) (hne : T ≠ TP) : ∀ b ∈ bs, b ≠ g := by
  obtain ⟨_, b1, b2, h1, h2, rfl⟩ := h
  intro b hb
  rcases List.mem_append.1 hb with hb | hb
  · exact h1.neT hk hne b hb
  · exact h2.neT hk hne b hb
theorem OwP.setT {T TP : TypeId} {b0 g k : Nat} {w : World} {s : Bool} {A : Option Addr} {n c : Nat} {B : Option Addr} {m d : Nat} {t : Bool} {C : Option Addr} {i e : Nat} {D : Option Addr} {j f : Nat} {p : PtD} (h : OwP T b0 w s A n c B m d t C i e D j f p) (hk : Wk k TP g w) (hne : T ≠ TP) (i0 : Nat) (u : Value) : OwP T b0 (w.setCell ⟨g, i0, none⟩ u) s A n c B m d t C i e D j f p := by
  obtain ⟨c1, c2, h1, h2, hf⟩ := h
  exact ⟨c1, c2, h1.keep (by simp) (fun b hb => Below.heap_setCell w _ u b (h1.neT hk hne b hb)), h2.keep (by simp) (fun b hb => Below.heap_setCell w _ u b (h2.neT hk hne b hb)), hf.mono (Nat.le_refl _) (by simp)⟩
theorem OwP.put6 {T TP : TypeId} {b0 g k : Nat} {w : World} {s : Bool} {A : Option Addr} {n c : Nat} {B : Option Addr} {m d : Nat} {t : Bool} {C : Option Addr} {i e : Nat} {D : Option Addr} {j f : Nat} {p : PtD} (h : OwP T b0 w s A n c B m d t C i e D j f p) (hk : Wk k TP g w) (hne : T ≠ TP) (u0 u1 u2 u3 u4 u5 : Value) :
    OwP T b0 ((((((w.setCell ⟨g, 0, none⟩ u0).setCell ⟨g, 1, none⟩ u1).setCell ⟨g, 2, none⟩ u2).setCell ⟨g, 3, none⟩ u3).setCell ⟨g, 4, none⟩ u4).setCell ⟨g, 5, none⟩ u5) s A n c B m d t C i e D j f p :=
  (((((h.setT hk hne 0 u0).setT (hk.set 0 u0) hne 1 u1).setT ((hk.set 0 u0).set 1 u1) hne 2 u2).setT (((hk.set 0 u0).set 1 u1).set 2 u2) hne 3 u3).setT ((((hk.set 0 u0).set 1 u1).set 2 u2).set 3 u3) hne 4 u4).setT (((((hk.set 0 u0).set 1 u1).set 2 u2).set 3 u3).set 4 u4) hne 5 u5
theorem ne_ip : (3 : TypeId) ≠ 31 := by decide
theorem divR_ok (r s : RatD) : divR r s = zR ∨ OkR (divR r s) := by
  unfold divR
  split
  · rename_i h
    exact ofFrac_ok (Nat.mul_pos h.1.get.2.1 (by have := h.2.2; omega))
  · exact .inl rfl
/-- The gradient that belongs to a corner, where j and k are the two others, and D is twice the area. -/
noncomputable def gradR (D : RatD) (j k : PtD) : PtD := ⟨divR (subR j.y k.y) D, divR (subR k.x j.x) D⟩
open Classical in
theorem gradR_if (D : RatD) (j k : PtD) : ifP (gradR D j k) = if OkR (gradR D j k).x ∧ OkR (gradR D j k).y then gradR D j k else zP := by
  have e1 := okR_den (divR_ok (subR j.y k.y) D)
  have e2 := okR_den (divR_ok (subR k.x j.x) D)
  by_cases h : OkR (gradR D j k).x ∧ OkR (gradR D j k).y
  · rw [if_pos h]
    unfold ifP
    rw [if_neg]
    rintro (hk | hk)
    · exact e1.2 h.1 hk
    · exact e2.2 h.2 hk
  · rw [if_neg h]
    unfold ifP
    by_cases hk : (gradR D j k).x.den.length = 0 ∨ (gradR D j k).y.den.length = 0
    · rw [if_pos hk]
    · exact absurd ⟨e1.1 (fun h' => hk (.inl h')), e2.1 (fun h' => hk (.inr h'))⟩ h
noncomputable def grad3 (p0 p1 p2 : PtD) : Nat → PtD
  | 0 => gradR (dblA p0 p1 p2) p1 p2
  | 1 => gradR (dblA p0 p1 p2) p2 p0
  | _ + 2 => gradR (dblA p0 p1 p2) p0 p1
noncomputable def gradTo (p0 p1 p2 : PtD) (k : Nat) : List PtD := (List.range k).map (grad3 p0 p1 p2)
def GradOk (p0 p1 p2 : PtD) (k : Nat) : Prop := ∀ j, j < k → OkP (grad3 p0 p1 p2 j)
open Classical in
noncomputable def gradP (p0 p1 p2 : PtD) : List PtD := if GradOk p0 p1 p2 3 then gradTo p0 p1 p2 3 else []
noncomputable def gradL (l : List PtD) : List PtD := if propB l = true then gradP (pix l 0) (pix l 1) (pix l 2) else []
theorem gradTo_succ (p0 p1 p2 : PtD) (k : Nat) : gradTo p0 p1 p2 (k + 1) = gradTo p0 p1 p2 k ++ [grad3 p0 p1 p2 k] := by unfold gradTo; rw [List.range_succ, List.map_append]; rfl
theorem gradTo_len (p0 p1 p2 : PtD) (k : Nat) : (gradTo p0 p1 p2 k).length = k := by simp [gradTo]
theorem GradOk.step {p0 p1 p2 : PtD} {k : Nat} (h : GradOk p0 p1 p2 k) (h0 : OkP (grad3 p0 p1 p2 k)) : GradOk p0 p1 p2 (k + 1) := by
  intro j hj
  rcases Nat.lt_succ_iff_lt_or_eq.1 hj with hj | rfl
  · exact h j hj
  · exact h0
theorem gradP_yes {p0 p1 p2 : PtD} (h : GradOk p0 p1 p2 3) : gradP p0 p1 p2 = gradTo p0 p1 p2 3 := if_pos h
theorem gradP_no {p0 p1 p2 : PtD} {k : Nat} (hk : k < 3) (h : ¬ OkP (grad3 p0 p1 p2 k)) : gradP p0 p1 p2 = [] := if_neg fun ha => h (ha k hk)

set_option maxRecDepth 100000 in
set_option maxHeartbeats 32000000 in
theorem Gradients_three (w : World) {g c0 : Nat} {p0 p1 p2 : PtD} (h : RdPS w (some ⟨g, 0, none⟩) 3 c0 [p0, p1, p2]) (hp : Hid (propB [p0, p1, p2] = true)) :
    Calls Tryz.prog 15 #[.slice (some ⟨g, 0, none⟩) 3 c0] w fun e w' => ∃ A1 n1 c1, e = .returned (.slice A1 n1 c1) ∧ OwPZ 3 31 w.heap.size w'.heap.size w' A1 n1 c1 (gradP p0 p1 p2) ∧ (n1 = 0 → A1 = none ∧ c1 = 0) ∧ Bl w w' := by
  obtain ⟨_, e0, hg, hc0⟩ := h.cells 0 (by omega)
  cases e0
  rw [Addr.add_lit] at hc0
  obtain ⟨s, A, n, c, B, m, d, t, C, i, e, D, j, f, ⟨x0, x1, x2, x3, x4, x5⟩, hX0, hY0⟩ := (show PtAt w ⟨g, 0, none⟩ p0 from hc0)
  have x0 : w.cell? ⟨g, 0, none⟩ = some (.bool s) := x0
  have x1 : w.cell? ⟨g, 1, none⟩ = some (.slice A n c) := x1
  have x2 : w.cell? ⟨g, 2, none⟩ = some (.slice B m d) := x2
  have x3 : w.cell? ⟨g, 3, none⟩ = some (.bool t) := x3
  have x4 : w.cell? ⟨g, 4, none⟩ = some (.slice C i e) := x4
  have x5 : w.cell? ⟨g, 5, none⟩ = some (.slice D j f) := x5
  obtain ⟨_, e0, hg, hc1⟩ := h.cells 1 (by omega)
  cases e0
  rw [Addr.add_lit] at hc1
  obtain ⟨s', A', n', c', B', m', d', t', C', i', e', D', j', f', ⟨y0, y1, y2, y3, y4, y5⟩, hX1, hY1⟩ := (show PtAt w ⟨g, 6, none⟩ p1 from hc1)
  have y0 : w.cell? ⟨g, 6, none⟩ = some (.bool s') := y0
  have y1 : w.cell? ⟨g, 7, none⟩ = some (.slice A' n' c') := y1
  have y2 : w.cell? ⟨g, 8, none⟩ = some (.slice B' m' d') := y2
  have y3 : w.cell? ⟨g, 9, none⟩ = some (.bool t') := y3
  have y4 : w.cell? ⟨g, 10, none⟩ = some (.slice C' i' e') := y4
  have y5 : w.cell? ⟨g, 11, none⟩ = some (.slice D' j' f') := y5
  obtain ⟨_, e0, hg, hc2⟩ := h.cells 2 (by omega)
  cases e0
  rw [Addr.add_lit] at hc2
  obtain ⟨s2, A2, n2, c2, B2, m2, d2, t2, C2, i2, e2, D2, j2, f2, ⟨z0, z1, z2, z3, z4, z5⟩, hX2, hY2⟩ := (show PtAt w ⟨g, 12, none⟩ p2 from hc2)
  have z0 : w.cell? ⟨g, 12, none⟩ = some (.bool s2) := z0
  have z1 : w.cell? ⟨g, 13, none⟩ = some (.slice A2 n2 c2) := z1
  have z2 : w.cell? ⟨g, 14, none⟩ = some (.slice B2 m2 d2) := z2
  have z3 : w.cell? ⟨g, 15, none⟩ = some (.bool t2) := z3
  have z4 : w.cell? ⟨g, 16, none⟩ = some (.slice C2 i2 e2) := z4
  have z5 : w.cell? ⟨g, 17, none⟩ = some (.slice D2 j2 f2) := z5
  clear hc0 hc1 hc2
  go_enter Tryz.func15, Tryz.ntmps15
  go_wp2_with fail
  refine (IsProper_any _ h).mono ?_
  rw [hp.out]
  rintro e w1 ⟨rfl, hb1⟩
  have hz1 := Bl.size hb1
  go_wp2_with fail
  go_cut [3] (fun s3 wx => ∃ (g3 : Nat) (sw : Bool) (Aw : Option Addr) (nw cw : Nat) (Bw : Option Addr) (mw dw : Nat), s3 = .pointer (some ⟨g3, 0, none⟩) ∧ Blk wx g3 29 #[.bool sw, .slice Aw nw cw, .slice Bw mw dw] ∧ RdR wx sw Aw nw cw Bw mw dw (dblA p0 p1 p2) ∧ Bl w wx)
  case first =>
    go_region_held3 (fun w' => (w'.cell? ⟨g, 0, none⟩ = some (.bool s) ∧ w'.cell? ⟨g, 1, none⟩ = some (.slice A n c) ∧ w'.cell? ⟨g, 2, none⟩ = some (.slice B m d) ∧ w'.cell? ⟨g, 3, none⟩ = some (.bool t) ∧ w'.cell? ⟨g, 4, none⟩ = some (.slice C i e) ∧ w'.cell? ⟨g, 5, none⟩ = some (.slice D j f)) ∧ (w'.cell? ⟨g, 6, none⟩ = some (.bool s') ∧ w'.cell? ⟨g, 7, none⟩ = some (.slice A' n' c') ∧ w'.cell? ⟨g, 8, none⟩ = some (.slice B' m' d') ∧ w'.cell? ⟨g, 9, none⟩ = some (.bool t') ∧ w'.cell? ⟨g, 10, none⟩ = some (.slice C' i' e') ∧ w'.cell? ⟨g, 11, none⟩ = some (.slice D' j' f')) ∧ (w'.cell? ⟨g, 12, none⟩ = some (.bool s2) ∧ w'.cell? ⟨g, 13, none⟩ = some (.slice A2 n2 c2) ∧ w'.cell? ⟨g, 14, none⟩ = some (.slice B2 m2 d2) ∧ w'.cell? ⟨g, 15, none⟩ = some (.bool t2) ∧ w'.cell? ⟨g, 16, none⟩ = some (.slice C2 i2 e2) ∧ w'.cell? ⟨g, 17, none⟩ = some (.slice D2 j2 f2))) (first | exact ⟨⟨(Bl.cellOf (w := w) (p := ⟨g, 0, none⟩) slc hg).trans x0, (Bl.cellOf (w := w) (p := ⟨g, 1, none⟩) slc hg).trans x1, (Bl.cellOf (w := w) (p := ⟨g, 2, none⟩) slc hg).trans x2, (Bl.cellOf (w := w) (p := ⟨g, 3, none⟩) slc hg).trans x3, (Bl.cellOf (w := w) (p := ⟨g, 4, none⟩) slc hg).trans x4, (Bl.cellOf (w := w) (p := ⟨g, 5, none⟩) slc hg).trans x5⟩, ⟨(Bl.cellOf (w := w) (p := ⟨g, 6, none⟩) slc hg).trans y0, (Bl.cellOf (w := w) (p := ⟨g, 7, none⟩) slc hg).trans y1, (Bl.cellOf (w := w) (p := ⟨g, 8, none⟩) slc hg).trans y2, (Bl.cellOf (w := w) (p := ⟨g, 9, none⟩) slc hg).trans y3, (Bl.cellOf (w := w) (p := ⟨g, 10, none⟩) slc hg).trans y4, (Bl.cellOf (w := w) (p := ⟨g, 11, none⟩) slc hg).trans y5⟩, ⟨(Bl.cellOf (w := w) (p := ⟨g, 12, none⟩) slc hg).trans z0, (Bl.cellOf (w := w) (p := ⟨g, 13, none⟩) slc hg).trans z1, (Bl.cellOf (w := w) (p := ⟨g, 14, none⟩) slc hg).trans z2, (Bl.cellOf (w := w) (p := ⟨g, 15, none⟩) slc hg).trans z3, (Bl.cellOf (w := w) (p := ⟨g, 16, none⟩) slc hg).trans z4, (Bl.cellOf (w := w) (p := ⟨g, 17, none⟩) slc hg).trans z5⟩⟩) (first | (go_at_call 73; refine (DoubleArea_any _ (hX0.bl slc) (hY0.bl slc) (hX1.bl slc) (hY1.bl slc) (hX2.bl slc) (hY2.bl slc)).mono ?_; rintro en w3 ⟨s3, A3, n3, c3, B3, m3, d3, rfl, hR3, hb3⟩; (first | have hq : Wk 3 29 _ _ := wk_newd hb3 | have hq : Wk 3 29 _ _ := wk_new hb3 | skip); (try obtain ⟨⟨q0, q1, q2⟩, fz0, fz1, fz2⟩ := hq.out3)))
    · go_wp2_with fail
      go_meet
      exact ⟨w3.heap.size, _, _, _, _, _, _, _, rfl, Blk.new _ _ _, hR3.rd.bl slc, slc⟩
    · go_wp2_with fail
      go_meet
      exact ⟨w1.heap.size, _, _, _, _, _, _, _, rfl, Wk.put3 hq _ _ _, (((hR3.far (by simp) _).far (by simp) _).far (by simp) _).rd, slc⟩
  case rest =>
    obtain ⟨g3, sw, Aw, nw, cw, Bw, mw, dw, rfl, hBw, hRw, hbc⟩ := hcut
    go_wp2_with fail
    obtain ⟨W0, rfl⟩ : ∃ W0 : World, W0 = wc := ⟨_, rfl⟩
    go_loopw [4, 25] (fun v i wr => ∃ (k hi : Nat), k ≤ 3 ∧ i = .int .i64 (k : Int) ∧ RowP List.Nodup W0.heap.size hi wr v (gradTo p0 p1 p2 k) ∧ GradOk p0 p1 p2 k ∧ Bl W0 wr ∧ W0.heap.size ≤ hi) (fun _ i _ => 3 - (intOf i).toNat)
    case atStart => exact ⟨0, _, by omega, rfl, RowG.empty appN_nodup W0 (Nat.le_refl _), fun j hj => by omega, (Bl.refl _).alloc _, by omega⟩
    case round =>
      obtain ⟨k, hi, hk, rfl, hrow, hok, hbw, hlh⟩ := hrel
      rcases (show k = 0 ∨ k = 1 ∨ k = 2 ∨ k = 3 by omega) with rfl | rfl | rfl | rfl
      · skip
        have e0 : ((0 : Nat) : Int) = 0 := rfl
        rw [e0]
        clear e0 hk
        have hhi0 := RowG.hiLe hrow
        have hzc := Bl.size hbc
        have hzo := Bl.size hbw
        have hw : IntKind.i64.wrap 1 = 1 := by rfl
        have hw2 : IntKind.i64.wrap 2 = 2 := by rfl
        obtain ⟨wo, rfl⟩ : ∃ wo : World, wo = wr := ⟨_, rfl⟩
        go_upto_region 8 with (fail)
        go_cut [6, 7] (fun s6 s7 wx => ∃ ga gb : Nat, s6 = .pointer (some ⟨ga, 0, none⟩) ∧ s7 = .pointer (some ⟨gb, 0, none⟩) ∧ Blk wx ga 31 #[.bool s', .slice A' n' c', .slice B' m' d', .bool t', .slice C' i' e', .slice D' j' f'] ∧ Blk wx gb 31 #[.bool s2, .slice A2 n2 c2, .slice B2 m2 d2, .bool t2, .slice C2 i2 e2, .slice D2 j2 f2] ∧ Bl wo wx)
        case first =>
          go_region_held3 (fun w' => (w'.cell? ⟨g, 6, none⟩ = some (.bool s') ∧ w'.cell? ⟨g, 7, none⟩ = some (.slice A' n' c') ∧ w'.cell? ⟨g, 8, none⟩ = some (.slice B' m' d') ∧ w'.cell? ⟨g, 9, none⟩ = some (.bool t') ∧ w'.cell? ⟨g, 10, none⟩ = some (.slice C' i' e') ∧ w'.cell? ⟨g, 11, none⟩ = some (.slice D' j' f')) ∧ (w'.cell? ⟨g, 12, none⟩ = some (.bool s2) ∧ w'.cell? ⟨g, 13, none⟩ = some (.slice A2 n2 c2) ∧ w'.cell? ⟨g, 14, none⟩ = some (.slice B2 m2 d2) ∧ w'.cell? ⟨g, 15, none⟩ = some (.bool t2) ∧ w'.cell? ⟨g, 16, none⟩ = some (.slice C2 i2 e2) ∧ w'.cell? ⟨g, 17, none⟩ = some (.slice D2 j2 f2))) (first | exact ⟨⟨(Bl.cellOf (w := w) (p := ⟨g, 6, none⟩) slc hg).trans y0, (Bl.cellOf (w := w) (p := ⟨g, 7, none⟩) slc hg).trans y1, (Bl.cellOf (w := w) (p := ⟨g, 8, none⟩) slc hg).trans y2, (Bl.cellOf (w := w) (p := ⟨g, 9, none⟩) slc hg).trans y3, (Bl.cellOf (w := w) (p := ⟨g, 10, none⟩) slc hg).trans y4, (Bl.cellOf (w := w) (p := ⟨g, 11, none⟩) slc hg).trans y5⟩, ⟨(Bl.cellOf (w := w) (p := ⟨g, 12, none⟩) slc hg).trans z0, (Bl.cellOf (w := w) (p := ⟨g, 13, none⟩) slc hg).trans z1, (Bl.cellOf (w := w) (p := ⟨g, 14, none⟩) slc hg).trans z2, (Bl.cellOf (w := w) (p := ⟨g, 15, none⟩) slc hg).trans z3, (Bl.cellOf (w := w) (p := ⟨g, 16, none⟩) slc hg).trans z4, (Bl.cellOf (w := w) (p := ⟨g, 17, none⟩) slc hg).trans z5⟩⟩) (fail)
          · go_wp2_with fail
            go_meet
            exact ⟨wo.heap.size, wo.heap.size + 1, rfl, rfl, by exact bts, by exact bts, slc⟩
          · go_wp2_with fail
            go_meet
            exact ⟨wo.heap.size + 1, wo.heap.size, rfl, rfl, by exact bts, by exact bts, slc⟩
        case rest =>
          obtain ⟨ga, gb, rfl, rfl, qa, qb, hb8⟩ := hcut
          obtain ⟨wp, rfl⟩ : ∃ wp : World, wp = wc := ⟨_, rfl⟩
          have hYj := hY1.bl (hbc.next (hbw.next hb8))
          have hXj := hX1.bl (hbc.next (hbw.next hb8))
          have hYk := hY2.bl (hbc.next (hbw.next hb8))
          have hXk := hX2.bl (hbc.next (hbw.next hb8))
          have hRp := hRw.bl (hbw.next hb8)
          have qw := hBw.bl (hbw.next hb8)
          have hrow := RowG.bl (ptIn_keep 3) hrow hb8
          go_upto_region 9 with (fail)
          go_cut [8] (fun s8 wx => ∃ (g8 : Nat) (s1 : Bool) (A1 : Option Addr) (n1 c1 : Nat) (B1 : Option Addr) (m1 d1 : Nat) (t1 : Bool) (C1 : Option Addr) (i1 e1 : Nat) (D1 : Option Addr) (j1 f1 : Nat), s8 = .pointer (some ⟨g8, 0, none⟩) ∧ Blk wx g8 31 #[.bool s1, .slice A1 n1 c1, .slice B1 m1 d1, .bool t1, .slice C1 i1 e1, .slice D1 j1 f1] ∧ OwP 3 wp.heap.size wx s1 A1 n1 c1 B1 m1 d1 t1 C1 i1 e1 D1 j1 f1 (ifP (gradR (dblA p0 p1 p2) p1 p2)) ∧ Bl wp wx)
          case first =>
            clear hrow hRw hBw hbw hb8 hbc hok
            go_region_held3 (fun w' => (w'.cell? ⟨ga, 0, none⟩ = some (.bool s') ∧ w'.cell? ⟨ga, 1, none⟩ = some (.slice A' n' c') ∧ w'.cell? ⟨ga, 2, none⟩ = some (.slice B' m' d') ∧ w'.cell? ⟨ga, 3, none⟩ = some (.bool t') ∧ w'.cell? ⟨ga, 4, none⟩ = some (.slice C' i' e') ∧ w'.cell? ⟨ga, 5, none⟩ = some (.slice D' j' f')) ∧ (w'.cell? ⟨gb, 0, none⟩ = some (.bool s2) ∧ w'.cell? ⟨gb, 1, none⟩ = some (.slice A2 n2 c2) ∧ w'.cell? ⟨gb, 2, none⟩ = some (.slice B2 m2 d2) ∧ w'.cell? ⟨gb, 3, none⟩ = some (.bool t2) ∧ w'.cell? ⟨gb, 4, none⟩ = some (.slice C2 i2 e2) ∧ w'.cell? ⟨gb, 5, none⟩ = some (.slice D2 j2 f2)) ∧ (w'.cell? ⟨g3, 0, none⟩ = some (.bool sw) ∧ w'.cell? ⟨g3, 1, none⟩ = some (.slice Aw nw cw) ∧ w'.cell? ⟨g3, 2, none⟩ = some (.slice Bw mw dw))) (first | exact ⟨bx6 (T := 31) (qa.bl slc), bx6 (T := 31) (qb.bl slc), bx3 (T := 29) (qw.bl slc)⟩) (first | (go_at_call 78; (with_reducible refine (RatSub_any _ (hYj.bl slc) (hYk.bl slc)).mono ?_); rintro e w2 ⟨s2_, A2_, n2_, c2_, B2_, m2_, d2_, rfl, hR2, hb2⟩; (have hz2 : wp.heap.size ≤ w2.heap.size := Bl.size (by exact slc)); (first | have hq : Wk 6 31 _ _ := wk_newd hb2 | have hq : Wk 6 31 _ _ := wk_new hb2 | have hq : Wk 6 31 _ _ := Wk.bl hq hb2 | skip)) | (go_at_call 75; (with_reducible refine (RatDiv_any _ (hR2.rd.bl slc) (hRp.bl slc)).mono ?_); rintro e w3 ⟨s3_, A3_, n3_, c3_, B3_, m3_, d3_, rfl, hR3, hb3⟩; (have hz3 : wp.heap.size ≤ w3.heap.size := Bl.size (by exact slc)); (first | have hq : Wk 6 31 _ _ := wk_newd hb3 | have hq : Wk 6 31 _ _ := wk_new hb3 | have hq : Wk 6 31 _ _ := Wk.bl hq hb3 | skip)) | (go_at_call 78; (with_reducible refine (RatSub_any _ (hXk.bl slc) (hXj.bl slc)).mono ?_); rintro e w4 ⟨s4_, A4_, n4_, c4_, B4_, m4_, d4_, rfl, hR4, hb4⟩; (have hz4 : wp.heap.size ≤ w4.heap.size := Bl.size (by exact slc)); (first | have hq : Wk 6 31 _ _ := wk_newd hb4 | have hq : Wk 6 31 _ _ := wk_new hb4 | have hq : Wk 6 31 _ _ := Wk.bl hq hb4 | skip)) | (go_at_call 75; (with_reducible refine (RatDiv_any _ (hR4.rd.bl slc) (hRp.bl slc)).mono ?_); rintro e w5 ⟨s5_, A5_, n5_, c5_, B5_, m5_, d5_, rfl, hR5, hb5⟩; (have hz5 : wp.heap.size ≤ w5.heap.size := Bl.size (by exact slc)); (first | have hq : Wk 6 31 _ _ := wk_newd hb5 | have hq : Wk 6 31 _ _ := wk_new hb5 | have hq : Wk 6 31 _ _ := Wk.bl hq hb5 | skip); (have hO5 : OwP 3 wp.heap.size w5 s3_ A3_ n3_ c3_ B3_ m3_ d3_ s5_ A5_ n5_ c5_ B5_ m5_ d5_ (gradR (dblA p0 p1 p2) p1 p2) := OwP.two (hR3.mono (Bl.size (by exact slc))) (hR5.mono (Bl.size (by exact slc))) (by exact slc) (Bl.size (by exact slc)))) | (go_at_call 77; refine (ifPoint_any _ (hO5.bl slc)).mono ?_; rintro en w6 ⟨s1, A1, n1, c1, B1, m1, d1, t1, C1, i1, e1, D1, j1, f1, rfl, hP6, hb6⟩; (have hz6 : wp.heap.size ≤ w6.heap.size := Bl.size (by exact slc)); (first | have hq : Wk 6 31 _ _ := wk_newd hb6 | have hq : Wk 6 31 _ _ := wk_new hb6 | have hq : Wk 6 31 _ _ := Wk.bl hq hb6 | skip); (try obtain ⟨⟨q0, q1, q2, q3, q4, q5⟩, fz0, fz1, fz2, fz3, fz4, fz5⟩ := hq.out6)))
            · go_wp2_with fail
              go_meet
              exact ⟨w6.heap.size, _, _, _, _, _, _, _, _, _, _, _, _, _, _, rfl, Blk.new _ _ _, hP6.bl slc, slc⟩
            · go_wp2_with fail
              go_meet
              exact ⟨w5.heap.size, _, _, _, _, _, _, _, _, _, _, _, _, _, _, rfl, Wk.put6 hq _ _ _ _ _ _, hP6.put6 hq ne_ip _ _ _ _ _ _, slc⟩
            · go_wp2_with fail
              go_meet
              exact ⟨w4.heap.size, _, _, _, _, _, _, _, _, _, _, _, _, _, _, rfl, Wk.put6 hq _ _ _ _ _ _, hP6.put6 hq ne_ip _ _ _ _ _ _, slc⟩
            · go_wp2_with fail
              go_meet
              exact ⟨w3.heap.size, _, _, _, _, _, _, _, _, _, _, _, _, _, _, rfl, Wk.put6 hq _ _ _ _ _ _, hP6.put6 hq ne_ip _ _ _ _ _ _, slc⟩
            · go_wp2_with fail
              go_meet
              exact ⟨w2.heap.size, _, _, _, _, _, _, _, _, _, _, _, _, _, _, rfl, Wk.put6 hq _ _ _ _ _ _, hP6.put6 hq ne_ip _ _ _ _ _ _, slc⟩
            · go_wp2_with fail
              go_meet
              exact ⟨wp.heap.size, _, _, _, _, _, _, _, _, _, _, _, _, _, _, rfl, Wk.put6 hq _ _ _ _ _ _, hP6.put6 hq ne_ip _ _ _ _ _ _, slc⟩
          case rest =>
            obtain ⟨g8, s1, A1, n1, c1, B1, m1, d1, t1, C1, i1, e1, D1, j1, f1, rfl, q8, hP8, hb9⟩ := hcut
            obtain ⟨wq, rfl⟩ : ∃ wq : World, wq = wc := ⟨_, rfl⟩
            have hrow := RowG.bl (ptIn_keep 3) hrow hb9
            have hbq : Bl W0 wq := (hbw.next hb8).next hb9
            clear qa qb qw hRp hXj hYj hXk hYk
            obtain ⟨i0, i1, i2, i3, i4, i5⟩ := bx6 q8
            have hgr : grad3 p0 p1 p2 0 = (gradR (dblA p0 p1 p2) p1 p2) := rfl
            by_cases ho : OkP (grad3 p0 p1 p2 0)
            · skip
              have hok' : GradOk p0 p1 p2 1 := hok.step ho
              have hv : ifP (gradR (dblA p0 p1 p2) p1 p2) = grad3 p0 p1 p2 0 := (gradR_if _ _ _).trans (if_pos ho)
              rw [hv] at hP8
              clear hv hgr
              have hm1 := Lib.hid (show 0 < m1 by have a1 := hP8.rx.den.len; have a2 := (okR_den (.inr ho.1)).2 ho.1; omega)
              have ho := Lib.hid ho; rename_i h_; clear h_
              have hok' := Lib.hid hok'; rename_i h_; clear h_
              clear hok
              go_wp2_with fail
              refine (isRat_yes _ hm1.out).mono ?_
              rintro e w7 ⟨rfl, hb7⟩
              have hrow := RowG.bl (ptIn_keep 3) hrow hb7
              have hP8 := OwPN.of (hP8.bl hb7)
              have q8 := q8.bl hb7
              have hbq := hbq.next hb7
              have hhi : hi ≤ wp.heap.size := Nat.le_trans hhi0 (Bl.size hb8)
              obtain ⟨i0, i1, i2, i3, i4, i5⟩ := bx6 q8
              go_wp2_with ((refine wpList_append_pt appN_nodup rfl (.tmp 60) (.tmp 62) rfl _ (by rfl) hrow hP8 hhi hlh 1 (by rfl) (by rw [gradTo_len]; omega) W0 hbq (Nat.le_refl _) ?_; intro v' w8 hrow' hb8'; clear hrow hP8))
              have hz8 := hb8'.size
              rw [← gradTo_succ] at hrow'
              go_roundw
              case rel => exact ⟨1, _, by omega, rfl, hrow', hok'.out, hb8', hz8⟩
              case measure => simp [intOf]
            · skip
              have hv : ifP (gradR (dblA p0 p1 p2) p1 p2) = zP := (gradR_if _ _ _).trans (if_neg ho)
              rw [hv] at hP8
              clear hv hgr
              have hm1 := Lib.hid (show m1 = 0 from hP8.rx.den.len.symm)
              have hv := Lib.hid (gradP_no (k := 0) (by omega) ho)
              have ho := Lib.hid ho; rename_i h_; clear h_
              clear hok
              go_wp2_with fail
              refine (isRat_no _ hm1.out).mono ?_
              rintro e w7 ⟨rfl, hb7⟩
              go_wp2_with fail
              go_ret
              refine ⟨_, _, _, rfl, ?_, fun _ => ⟨rfl, rfl⟩, (hbc.next hbq).next hb7⟩
              rw [hv.out]
              exact ⟨rfl, Nat.le_refl _, Nat.zero_le _, .inl rfl⟩
      · skip
        have e0 : ((1 : Nat) : Int) = 1 := rfl
        rw [e0]
        clear e0 hk
        have hhi0 := RowG.hiLe hrow
        have hzc := Bl.size hbc
        have hzo := Bl.size hbw
        have hw : IntKind.i64.wrap 2 = 2 := by rfl
        have hw2 : IntKind.i64.wrap 3 = 3 := by rfl
        obtain ⟨wo, rfl⟩ : ∃ wo : World, wo = wr := ⟨_, rfl⟩
        go_upto_region 8 with (fail)
        go_cut [6, 7] (fun s6 s7 wx => ∃ ga gb : Nat, s6 = .pointer (some ⟨ga, 0, none⟩) ∧ s7 = .pointer (some ⟨gb, 0, none⟩) ∧ Blk wx ga 31 #[.bool s2, .slice A2 n2 c2, .slice B2 m2 d2, .bool t2, .slice C2 i2 e2, .slice D2 j2 f2] ∧ Blk wx gb 31 #[.bool s, .slice A n c, .slice B m d, .bool t, .slice C i e, .slice D j f] ∧ Bl wo wx)
        case first =>
          go_region_held3 (fun w' => (w'.cell? ⟨g, 12, none⟩ = some (.bool s2) ∧ w'.cell? ⟨g, 13, none⟩ = some (.slice A2 n2 c2) ∧ w'.cell? ⟨g, 14, none⟩ = some (.slice B2 m2 d2) ∧ w'.cell? ⟨g, 15, none⟩ = some (.bool t2) ∧ w'.cell? ⟨g, 16, none⟩ = some (.slice C2 i2 e2) ∧ w'.cell? ⟨g, 17, none⟩ = some (.slice D2 j2 f2)) ∧ (w'.cell? ⟨g, 0, none⟩ = some (.bool s) ∧ w'.cell? ⟨g, 1, none⟩ = some (.slice A n c) ∧ w'.cell? ⟨g, 2, none⟩ = some (.slice B m d) ∧ w'.cell? ⟨g, 3, none⟩ = some (.bool t) ∧ w'.cell? ⟨g, 4, none⟩ = some (.slice C i e) ∧ w'.cell? ⟨g, 5, none⟩ = some (.slice D j f))) (first | exact ⟨⟨(Bl.cellOf (w := w) (p := ⟨g, 12, none⟩) slc hg).trans z0, (Bl.cellOf (w := w) (p := ⟨g, 13, none⟩) slc hg).trans z1, (Bl.cellOf (w := w) (p := ⟨g, 14, none⟩) slc hg).trans z2, (Bl.cellOf (w := w) (p := ⟨g, 15, none⟩) slc hg).trans z3, (Bl.cellOf (w := w) (p := ⟨g, 16, none⟩) slc hg).trans z4, (Bl.cellOf (w := w) (p := ⟨g, 17, none⟩) slc hg).trans z5⟩, ⟨(Bl.cellOf (w := w) (p := ⟨g, 0, none⟩) slc hg).trans x0, (Bl.cellOf (w := w) (p := ⟨g, 1, none⟩) slc hg).trans x1, (Bl.cellOf (w := w) (p := ⟨g, 2, none⟩) slc hg).trans x2, (Bl.cellOf (w := w) (p := ⟨g, 3, none⟩) slc hg).trans x3, (Bl.cellOf (w := w) (p := ⟨g, 4, none⟩) slc hg).trans x4, (Bl.cellOf (w := w) (p := ⟨g, 5, none⟩) slc hg).trans x5⟩⟩) (fail)
          · go_wp2_with fail
            go_meet
            exact ⟨wo.heap.size, wo.heap.size + 1, rfl, rfl, by exact bts, by exact bts, slc⟩
          · go_wp2_with fail
            go_meet
            exact ⟨wo.heap.size + 1, wo.heap.size, rfl, rfl, by exact bts, by exact bts, slc⟩
        case rest =>
          obtain ⟨ga, gb, rfl, rfl, qa, qb, hb8⟩ := hcut
          obtain ⟨wp, rfl⟩ : ∃ wp : World, wp = wc := ⟨_, rfl⟩
          have hYj := hY2.bl (hbc.next (hbw.next hb8))
          have hXj := hX2.bl (hbc.next (hbw.next hb8))
          have hYk := hY0.bl (hbc.next (hbw.next hb8))
          have hXk := hX0.bl (hbc.next (hbw.next hb8))
          have hRp := hRw.bl (hbw.next hb8)
          have qw := hBw.bl (hbw.next hb8)
          have hrow := RowG.bl (ptIn_keep 3) hrow hb8
          go_upto_region 9 with (fail)
          go_cut [8] (fun s8 wx => ∃ (g8 : Nat) (s1 : Bool) (A1 : Option Addr) (n1 c1 : Nat) (B1 : Option Addr) (m1 d1 : Nat) (t1 : Bool) (C1 : Option Addr) (i1 e1 : Nat) (D1 : Option Addr) (j1 f1 : Nat), s8 = .pointer (some ⟨g8, 0, none⟩) ∧ Blk wx g8 31 #[.bool s1, .slice A1 n1 c1, .slice B1 m1 d1, .bool t1, .slice C1 i1 e1, .slice D1 j1 f1] ∧ OwP 3 wp.heap.size wx s1 A1 n1 c1 B1 m1 d1 t1 C1 i1 e1 D1 j1 f1 (ifP (gradR (dblA p0 p1 p2) p2 p0)) ∧ Bl wp wx)
          case first =>
            clear hrow hRw hBw hbw hb8 hbc hok
            go_region_held3 (fun w' => (w'.cell? ⟨ga, 0, none⟩ = some (.bool s2) ∧ w'.cell? ⟨ga, 1, none⟩ = some (.slice A2 n2 c2) ∧ w'.cell? ⟨ga, 2, none⟩ = some (.slice B2 m2 d2) ∧ w'.cell? ⟨ga, 3, none⟩ = some (.bool t2) ∧ w'.cell? ⟨ga, 4, none⟩ = some (.slice C2 i2 e2) ∧ w'.cell? ⟨ga, 5, none⟩ = some (.slice D2 j2 f2)) ∧ (w'.cell? ⟨gb, 0, none⟩ = some (.bool s) ∧ w'.cell? ⟨gb, 1, none⟩ = some (.slice A n c) ∧ w'.cell? ⟨gb, 2, none⟩ = some (.slice B m d) ∧ w'.cell? ⟨gb, 3, none⟩ = some (.bool t) ∧ w'.cell? ⟨gb, 4, none⟩ = some (.slice C i e) ∧ w'.cell? ⟨gb, 5, none⟩ = some (.slice D j f)) ∧ (w'.cell? ⟨g3, 0, none⟩ = some (.bool sw) ∧ w'.cell? ⟨g3, 1, none⟩ = some (.slice Aw nw cw) ∧ w'.cell? ⟨g3, 2, none⟩ = some (.slice Bw mw dw))) (first | exact ⟨bx6 (T := 31) (qa.bl slc), bx6 (T := 31) (qb.bl slc), bx3 (T := 29) (qw.bl slc)⟩) (first | (go_at_call 78; (with_reducible refine (RatSub_any _ (hYj.bl slc) (hYk.bl slc)).mono ?_); rintro e w2 ⟨s2_, A2_, n2_, c2_, B2_, m2_, d2_, rfl, hR2, hb2⟩; (have hz2 : wp.heap.size ≤ w2.heap.size := Bl.size (by exact slc)); (first | have hq : Wk 6 31 _ _ := wk_newd hb2 | have hq : Wk 6 31 _ _ := wk_new hb2 | have hq : Wk 6 31 _ _ := Wk.bl hq hb2 | skip)) | (go_at_call 75; (with_reducible refine (RatDiv_any _ (hR2.rd.bl slc) (hRp.bl slc)).mono ?_); rintro e w3 ⟨s3_, A3_, n3_, c3_, B3_, m3_, d3_, rfl, hR3, hb3⟩; (have hz3 : wp.heap.size ≤ w3.heap.size := Bl.size (by exact slc)); (first | have hq : Wk 6 31 _ _ := wk_newd hb3 | have hq : Wk 6 31 _ _ := wk_new hb3 | have hq : Wk 6 31 _ _ := Wk.bl hq hb3 | skip)) | (go_at_call 78; (with_reducible refine (RatSub_any _ (hXk.bl slc) (hXj.bl slc)).mono ?_); rintro e w4 ⟨s4_, A4_, n4_, c4_, B4_, m4_, d4_, rfl, hR4, hb4⟩; (have hz4 : wp.heap.size ≤ w4.heap.size := Bl.size (by exact slc)); (first | have hq : Wk 6 31 _ _ := wk_newd hb4 | have hq : Wk 6 31 _ _ := wk_new hb4 | have hq : Wk 6 31 _ _ := Wk.bl hq hb4 | skip)) | (go_at_call 75; (with_reducible refine (RatDiv_any _ (hR4.rd.bl slc) (hRp.bl slc)).mono ?_); rintro e w5 ⟨s5_, A5_, n5_, c5_, B5_, m5_, d5_, rfl, hR5, hb5⟩; (have hz5 : wp.heap.size ≤ w5.heap.size := Bl.size (by exact slc)); (first | have hq : Wk 6 31 _ _ := wk_newd hb5 | have hq : Wk 6 31 _ _ := wk_new hb5 | have hq : Wk 6 31 _ _ := Wk.bl hq hb5 | skip); (have hO5 : OwP 3 wp.heap.size w5 s3_ A3_ n3_ c3_ B3_ m3_ d3_ s5_ A5_ n5_ c5_ B5_ m5_ d5_ (gradR (dblA p0 p1 p2) p2 p0) := OwP.two (hR3.mono (Bl.size (by exact slc))) (hR5.mono (Bl.size (by exact slc))) (by exact slc) (Bl.size (by exact slc)))) | (go_at_call 77; refine (ifPoint_any _ (hO5.bl slc)).mono ?_; rintro en w6 ⟨s1, A1, n1, c1, B1, m1, d1, t1, C1, i1, e1, D1, j1, f1, rfl, hP6, hb6⟩; (have hz6 : wp.heap.size ≤ w6.heap.size := Bl.size (by exact slc)); (first | have hq : Wk 6 31 _ _ := wk_newd hb6 | have hq : Wk 6 31 _ _ := wk_new hb6 | have hq : Wk 6 31 _ _ := Wk.bl hq hb6 | skip); (try obtain ⟨⟨q0, q1, q2, q3, q4, q5⟩, fz0, fz1, fz2, fz3, fz4, fz5⟩ := hq.out6)))
            · go_wp2_with fail
              go_meet
              exact ⟨w6.heap.size, _, _, _, _, _, _, _, _, _, _, _, _, _, _, rfl, Blk.new _ _ _, hP6.bl slc, slc⟩
            · go_wp2_with fail
              go_meet
              exact ⟨w5.heap.size, _, _, _, _, _, _, _, _, _, _, _, _, _, _, rfl, Wk.put6 hq _ _ _ _ _ _, hP6.put6 hq ne_ip _ _ _ _ _ _, slc⟩
            · go_wp2_with fail
              go_meet
              exact ⟨w4.heap.size, _, _, _, _, _, _, _, _, _, _, _, _, _, _, rfl, Wk.put6 hq _ _ _ _ _ _, hP6.put6 hq ne_ip _ _ _ _ _ _, slc⟩
            · go_wp2_with fail
              go_meet
              exact ⟨w3.heap.size, _, _, _, _, _, _, _, _, _, _, _, _, _, _, rfl, Wk.put6 hq _ _ _ _ _ _, hP6.put6 hq ne_ip _ _ _ _ _ _, slc⟩
            · go_wp2_with fail
              go_meet
              exact ⟨w2.heap.size, _, _, _, _, _, _, _, _, _, _, _, _, _, _, rfl, Wk.put6 hq _ _ _ _ _ _, hP6.put6 hq ne_ip _ _ _ _ _ _, slc⟩
            · go_wp2_with fail
              go_meet
              exact ⟨wp.heap.size, _, _, _, _, _, _, _, _, _, _, _, _, _, _, rfl, Wk.put6 hq _ _ _ _ _ _, hP6.put6 hq ne_ip _ _ _ _ _ _, slc⟩
          case rest =>
            obtain ⟨g8, s1, A1, n1, c1, B1, m1, d1, t1, C1, i1, e1, D1, j1, f1, rfl, q8, hP8, hb9⟩ := hcut
            obtain ⟨wq, rfl⟩ : ∃ wq : World, wq = wc := ⟨_, rfl⟩
            have hrow := RowG.bl (ptIn_keep 3) hrow hb9
            have hbq : Bl W0 wq := (hbw.next hb8).next hb9
            clear qa qb qw hRp hXj hYj hXk hYk
            obtain ⟨i0, i1, i2, i3, i4, i5⟩ := bx6 q8
            have hgr : grad3 p0 p1 p2 1 = (gradR (dblA p0 p1 p2) p2 p0) := rfl
            by_cases ho : OkP (grad3 p0 p1 p2 1)
            · skip
              have hok' : GradOk p0 p1 p2 2 := hok.step ho
              have hv : ifP (gradR (dblA p0 p1 p2) p2 p0) = grad3 p0 p1 p2 1 := (gradR_if _ _ _).trans (if_pos ho)
              rw [hv] at hP8
              clear hv hgr
              have hm1 := Lib.hid (show 0 < m1 by have a1 := hP8.rx.den.len; have a2 := (okR_den (.inr ho.1)).2 ho.1; omega)
              have ho := Lib.hid ho; rename_i h_; clear h_
              have hok' := Lib.hid hok'; rename_i h_; clear h_
              clear hok
              go_wp2_with fail
              refine (isRat_yes _ hm1.out).mono ?_
              rintro e w7 ⟨rfl, hb7⟩
              have hrow := RowG.bl (ptIn_keep 3) hrow hb7
              have hP8 := OwPN.of (hP8.bl hb7)
              have q8 := q8.bl hb7
              have hbq := hbq.next hb7
              have hhi : hi ≤ wp.heap.size := Nat.le_trans hhi0 (Bl.size hb8)
              obtain ⟨i0, i1, i2, i3, i4, i5⟩ := bx6 q8
              go_wp2_with ((refine wpList_append_pt appN_nodup rfl (.tmp 60) (.tmp 62) rfl _ (by rfl) hrow hP8 hhi hlh 1 (by rfl) (by rw [gradTo_len]; omega) W0 hbq (Nat.le_refl _) ?_; intro v' w8 hrow' hb8'; clear hrow hP8))
              have hz8 := hb8'.size
              rw [← gradTo_succ] at hrow'
              go_roundw
              case rel => exact ⟨2, _, by omega, rfl, hrow', hok'.out, hb8', hz8⟩
              case measure => simp [intOf]
            · skip
              have hv : ifP (gradR (dblA p0 p1 p2) p2 p0) = zP := (gradR_if _ _ _).trans (if_neg ho)
              rw [hv] at hP8
              clear hv hgr
              have hm1 := Lib.hid (show m1 = 0 from hP8.rx.den.len.symm)
              have hv := Lib.hid (gradP_no (k := 1) (by omega) ho)
              have ho := Lib.hid ho; rename_i h_; clear h_
              clear hok
              go_wp2_with fail
              refine (isRat_no _ hm1.out).mono ?_
              rintro e w7 ⟨rfl, hb7⟩
              go_wp2_with fail
              go_ret
              refine ⟨_, _, _, rfl, ?_, fun _ => ⟨rfl, rfl⟩, (hbc.next hbq).next hb7⟩
              rw [hv.out]
              exact ⟨rfl, Nat.le_refl _, Nat.zero_le _, .inl rfl⟩
      · skip
        have e0 : ((2 : Nat) : Int) = 2 := rfl
        rw [e0]
        clear e0 hk
        have hhi0 := RowG.hiLe hrow
        have hzc := Bl.size hbc
        have hzo := Bl.size hbw
        have hw : IntKind.i64.wrap 3 = 3 := by rfl
        have hw2 : IntKind.i64.wrap 4 = 4 := by rfl
        obtain ⟨wo, rfl⟩ : ∃ wo : World, wo = wr := ⟨_, rfl⟩
        go_upto_region 8 with (fail)
        go_cut [6, 7] (fun s6 s7 wx => ∃ ga gb : Nat, s6 = .pointer (some ⟨ga, 0, none⟩) ∧ s7 = .pointer (some ⟨gb, 0, none⟩) ∧ Blk wx ga 31 #[.bool s, .slice A n c, .slice B m d, .bool t, .slice C i e, .slice D j f] ∧ Blk wx gb 31 #[.bool s', .slice A' n' c', .slice B' m' d', .bool t', .slice C' i' e', .slice D' j' f'] ∧ Bl wo wx)
        case first =>
          go_region_held3 (fun w' => (w'.cell? ⟨g, 0, none⟩ = some (.bool s) ∧ w'.cell? ⟨g, 1, none⟩ = some (.slice A n c) ∧ w'.cell? ⟨g, 2, none⟩ = some (.slice B m d) ∧ w'.cell? ⟨g, 3, none⟩ = some (.bool t) ∧ w'.cell? ⟨g, 4, none⟩ = some (.slice C i e) ∧ w'.cell? ⟨g, 5, none⟩ = some (.slice D j f)) ∧ (w'.cell? ⟨g, 6, none⟩ = some (.bool s') ∧ w'.cell? ⟨g, 7, none⟩ = some (.slice A' n' c') ∧ w'.cell? ⟨g, 8, none⟩ = some (.slice B' m' d') ∧ w'.cell? ⟨g, 9, none⟩ = some (.bool t') ∧ w'.cell? ⟨g, 10, none⟩ = some (.slice C' i' e') ∧ w'.cell? ⟨g, 11, none⟩ = some (.slice D' j' f'))) (first | exact ⟨⟨(Bl.cellOf (w := w) (p := ⟨g, 0, none⟩) slc hg).trans x0, (Bl.cellOf (w := w) (p := ⟨g, 1, none⟩) slc hg).trans x1, (Bl.cellOf (w := w) (p := ⟨g, 2, none⟩) slc hg).trans x2, (Bl.cellOf (w := w) (p := ⟨g, 3, none⟩) slc hg).trans x3, (Bl.cellOf (w := w) (p := ⟨g, 4, none⟩) slc hg).trans x4, (Bl.cellOf (w := w) (p := ⟨g, 5, none⟩) slc hg).trans x5⟩, ⟨(Bl.cellOf (w := w) (p := ⟨g, 6, none⟩) slc hg).trans y0, (Bl.cellOf (w := w) (p := ⟨g, 7, none⟩) slc hg).trans y1, (Bl.cellOf (w := w) (p := ⟨g, 8, none⟩) slc hg).trans y2, (Bl.cellOf (w := w) (p := ⟨g, 9, none⟩) slc hg).trans y3, (Bl.cellOf (w := w) (p := ⟨g, 10, none⟩) slc hg).trans y4, (Bl.cellOf (w := w) (p := ⟨g, 11, none⟩) slc hg).trans y5⟩⟩) (fail)
          · go_wp2_with fail
            go_meet
            exact ⟨wo.heap.size, wo.heap.size + 1, rfl, rfl, by exact bts, by exact bts, slc⟩
          · go_wp2_with fail
            go_meet
            exact ⟨wo.heap.size + 1, wo.heap.size, rfl, rfl, by exact bts, by exact bts, slc⟩
        case rest =>
          obtain ⟨ga, gb, rfl, rfl, qa, qb, hb8⟩ := hcut
          obtain ⟨wp, rfl⟩ : ∃ wp : World, wp = wc := ⟨_, rfl⟩
          have hYj := hY0.bl (hbc.next (hbw.next hb8))
          have hXj := hX0.bl (hbc.next (hbw.next hb8))
          have hYk := hY1.bl (hbc.next (hbw.next hb8))
          have hXk := hX1.bl (hbc.next (hbw.next hb8))
          have hRp := hRw.bl (hbw.next hb8)
          have qw := hBw.bl (hbw.next hb8)
          have hrow := RowG.bl (ptIn_keep 3) hrow hb8
          go_upto_region 9 with (fail)
          go_cut [8] (fun s8 wx => ∃ (g8 : Nat) (s1 : Bool) (A1 : Option Addr) (n1 c1 : Nat) (B1 : Option Addr) (m1 d1 : Nat) (t1 : Bool) (C1 : Option Addr) (i1 e1 : Nat) (D1 : Option Addr) (j1 f1 : Nat), s8 = .pointer (some ⟨g8, 0, none⟩) ∧ Blk wx g8 31 #[.bool s1, .slice A1 n1 c1, .slice B1 m1 d1, .bool t1, .slice C1 i1 e1, .slice D1 j1 f1] ∧ OwP 3 wp.heap.size wx s1 A1 n1 c1 B1 m1 d1 t1 C1 i1 e1 D1 j1 f1 (ifP (gradR (dblA p0 p1 p2) p0 p1)) ∧ Bl wp wx)
          case first =>
            clear hrow hRw hBw hbw hb8 hbc hok
            go_region_held3 (fun w' => (w'.cell? ⟨ga, 0, none⟩ = some (.bool s) ∧ w'.cell? ⟨ga, 1, none⟩ = some (.slice A n c) ∧ w'.cell? ⟨ga, 2, none⟩ = some (.slice B m d) ∧ w'.cell? ⟨ga, 3, none⟩ = some (.bool t) ∧ w'.cell? ⟨ga, 4, none⟩ = some (.slice C i e) ∧ w'.cell? ⟨ga, 5, none⟩ = some (.slice D j f)) ∧ (w'.cell? ⟨gb, 0, none⟩ = some (.bool s') ∧ w'.cell? ⟨gb, 1, none⟩ = some (.slice A' n' c') ∧ w'.cell? ⟨gb, 2, none⟩ = some (.slice B' m' d') ∧ w'.cell? ⟨gb, 3, none⟩ = some (.bool t') ∧ w'.cell? ⟨gb, 4, none⟩ = some (.slice C' i' e') ∧ w'.cell? ⟨gb, 5, none⟩ = some (.slice D' j' f')) ∧ (w'.cell? ⟨g3, 0, none⟩ = some (.bool sw) ∧ w'.cell? ⟨g3, 1, none⟩ = some (.slice Aw nw cw) ∧ w'.cell? ⟨g3, 2, none⟩ = some (.slice Bw mw dw))) (first | exact ⟨bx6 (T := 31) (qa.bl slc), bx6 (T := 31) (qb.bl slc), bx3 (T := 29) (qw.bl slc)⟩) (first | (go_at_call 78; (with_reducible refine (RatSub_any _ (hYj.bl slc) (hYk.bl slc)).mono ?_); rintro e w2 ⟨s2_, A2_, n2_, c2_, B2_, m2_, d2_, rfl, hR2, hb2⟩; (have hz2 : wp.heap.size ≤ w2.heap.size := Bl.size (by exact slc)); (first | have hq : Wk 6 31 _ _ := wk_newd hb2 | have hq : Wk 6 31 _ _ := wk_new hb2 | have hq : Wk 6 31 _ _ := Wk.bl hq hb2 | skip)) | (go_at_call 75; (with_reducible refine (RatDiv_any _ (hR2.rd.bl slc) (hRp.bl slc)).mono ?_); rintro e w3 ⟨s3_, A3_, n3_, c3_, B3_, m3_, d3_, rfl, hR3, hb3⟩; (have hz3 : wp.heap.size ≤ w3.heap.size := Bl.size (by exact slc)); (first | have hq : Wk 6 31 _ _ := wk_newd hb3 | have hq : Wk 6 31 _ _ := wk_new hb3 | have hq : Wk 6 31 _ _ := Wk.bl hq hb3 | skip)) | (go_at_call 78; (with_reducible refine (RatSub_any _ (hXk.bl slc) (hXj.bl slc)).mono ?_); rintro e w4 ⟨s4_, A4_, n4_, c4_, B4_, m4_, d4_, rfl, hR4, hb4⟩; (have hz4 : wp.heap.size ≤ w4.heap.size := Bl.size (by exact slc)); (first | have hq : Wk 6 31 _ _ := wk_newd hb4 | have hq : Wk 6 31 _ _ := wk_new hb4 | have hq : Wk 6 31 _ _ := Wk.bl hq hb4 | skip)) | (go_at_call 75; (with_reducible refine (RatDiv_any _ (hR4.rd.bl slc) (hRp.bl slc)).mono ?_); rintro e w5 ⟨s5_, A5_, n5_, c5_, B5_, m5_, d5_, rfl, hR5, hb5⟩; (have hz5 : wp.heap.size ≤ w5.heap.size := Bl.size (by exact slc)); (first | have hq : Wk 6 31 _ _ := wk_newd hb5 | have hq : Wk 6 31 _ _ := wk_new hb5 | have hq : Wk 6 31 _ _ := Wk.bl hq hb5 | skip); (have hO5 : OwP 3 wp.heap.size w5 s3_ A3_ n3_ c3_ B3_ m3_ d3_ s5_ A5_ n5_ c5_ B5_ m5_ d5_ (gradR (dblA p0 p1 p2) p0 p1) := OwP.two (hR3.mono (Bl.size (by exact slc))) (hR5.mono (Bl.size (by exact slc))) (by exact slc) (Bl.size (by exact slc)))) | (go_at_call 77; refine (ifPoint_any _ (hO5.bl slc)).mono ?_; rintro en w6 ⟨s1, A1, n1, c1, B1, m1, d1, t1, C1, i1, e1, D1, j1, f1, rfl, hP6, hb6⟩; (have hz6 : wp.heap.size ≤ w6.heap.size := Bl.size (by exact slc)); (first | have hq : Wk 6 31 _ _ := wk_newd hb6 | have hq : Wk 6 31 _ _ := wk_new hb6 | have hq : Wk 6 31 _ _ := Wk.bl hq hb6 | skip); (try obtain ⟨⟨q0, q1, q2, q3, q4, q5⟩, fz0, fz1, fz2, fz3, fz4, fz5⟩ := hq.out6)))
            · go_wp2_with fail
              go_meet
              exact ⟨w6.heap.size, _, _, _, _, _, _, _, _, _, _, _, _, _, _, rfl, Blk.new _ _ _, hP6.bl slc, slc⟩
            · go_wp2_with fail
              go_meet
              exact ⟨w5.heap.size, _, _, _, _, _, _, _, _, _, _, _, _, _, _, rfl, Wk.put6 hq _ _ _ _ _ _, hP6.put6 hq ne_ip _ _ _ _ _ _, slc⟩
            · go_wp2_with fail
              go_meet
              exact ⟨w4.heap.size, _, _, _, _, _, _, _, _, _, _, _, _, _, _, rfl, Wk.put6 hq _ _ _ _ _ _, hP6.put6 hq ne_ip _ _ _ _ _ _, slc⟩
            · go_wp2_with fail
              go_meet
              exact ⟨w3.heap.size, _, _, _, _, _, _, _, _, _, _, _, _, _, _, rfl, Wk.put6 hq _ _ _ _ _ _, hP6.put6 hq ne_ip _ _ _ _ _ _, slc⟩
            · go_wp2_with fail
              go_meet
              exact ⟨w2.heap.size, _, _, _, _, _, _, _, _, _, _, _, _, _, _, rfl, Wk.put6 hq _ _ _ _ _ _, hP6.put6 hq ne_ip _ _ _ _ _ _, slc⟩
            · go_wp2_with fail
              go_meet
              exact ⟨wp.heap.size, _, _, _, _, _, _, _, _, _, _, _, _, _, _, rfl, Wk.put6 hq _ _ _ _ _ _, hP6.put6 hq ne_ip _ _ _ _ _ _, slc⟩
          case rest =>
            obtain ⟨g8, s1, A1, n1, c1, B1, m1, d1, t1, C1, i1, e1, D1, j1, f1, rfl, q8, hP8, hb9⟩ := hcut
            obtain ⟨wq, rfl⟩ : ∃ wq : World, wq = wc := ⟨_, rfl⟩
            have hrow := RowG.bl (ptIn_keep 3) hrow hb9
            have hbq : Bl W0 wq := (hbw.next hb8).next hb9
            clear qa qb qw hRp hXj hYj hXk hYk
            obtain ⟨i0, i1, i2, i3, i4, i5⟩ := bx6 q8
            have hgr : grad3 p0 p1 p2 2 = (gradR (dblA p0 p1 p2) p0 p1) := rfl
            by_cases ho : OkP (grad3 p0 p1 p2 2)
            · skip
              have hok' : GradOk p0 p1 p2 3 := hok.step ho
              have hv : ifP (gradR (dblA p0 p1 p2) p0 p1) = grad3 p0 p1 p2 2 := (gradR_if _ _ _).trans (if_pos ho)
              rw [hv] at hP8
              clear hv hgr
              have hm1 := Lib.hid (show 0 < m1 by have a1 := hP8.rx.den.len; have a2 := (okR_den (.inr ho.1)).2 ho.1; omega)
              have ho := Lib.hid ho; rename_i h_; clear h_
              have hok' := Lib.hid hok'; rename_i h_; clear h_
              clear hok
              go_wp2_with fail
              refine (isRat_yes _ hm1.out).mono ?_
              rintro e w7 ⟨rfl, hb7⟩
              have hrow := RowG.bl (ptIn_keep 3) hrow hb7
              have hP8 := OwPN.of (hP8.bl hb7)
              have q8 := q8.bl hb7
              have hbq := hbq.next hb7
              have hhi : hi ≤ wp.heap.size := Nat.le_trans hhi0 (Bl.size hb8)
              obtain ⟨i0, i1, i2, i3, i4, i5⟩ := bx6 q8
              go_wp2_with ((refine wpList_append_pt appN_nodup rfl (.tmp 60) (.tmp 62) rfl _ (by rfl) hrow hP8 hhi hlh 1 (by rfl) (by rw [gradTo_len]; omega) W0 hbq (Nat.le_refl _) ?_; intro v' w8 hrow' hb8'; clear hrow hP8))
              have hz8 := hb8'.size
              rw [← gradTo_succ] at hrow'
              go_roundw
              case rel => exact ⟨3, _, by omega, rfl, hrow', hok'.out, hb8', hz8⟩
              case measure => simp [intOf]
            · skip
              have hv : ifP (gradR (dblA p0 p1 p2) p0 p1) = zP := (gradR_if _ _ _).trans (if_neg ho)
              rw [hv] at hP8
              clear hv hgr
              have hm1 := Lib.hid (show m1 = 0 from hP8.rx.den.len.symm)
              have hv := Lib.hid (gradP_no (k := 2) (by omega) ho)
              have ho := Lib.hid ho; rename_i h_; clear h_
              clear hok
              go_wp2_with fail
              refine (isRat_no _ hm1.out).mono ?_
              rintro e w7 ⟨rfl, hb7⟩
              go_wp2_with fail
              go_ret
              refine ⟨_, _, _, rfl, ?_, fun _ => ⟨rfl, rfl⟩, (hbc.next hbq).next hb7⟩
              rw [hv.out]
              exact ⟨rfl, Nat.le_refl _, Nat.zero_le _, .inl rfl⟩
      · skip
        have e0 : ((3 : Nat) : Int) = 3 := rfl
        rw [e0]
        clear e0 hk
        have hv := Lib.hid (gradP_yes hok)
        have hok := Lib.hid hok; rename_i h_; clear h_
        obtain ⟨A1, c1, rfl, hZ⟩ := RowP.own hrow (by rw [gradTo_len]; omega)
        rw [gradTo_len] at hZ ⊢
        go_wp2_with fail
        go_ret
        refine ⟨_, _, _, rfl, ?_, fun h => by omega, hbc.next hbw⟩
        rw [hv.out]
        exact hZ.low (Bl.size hbc) (RowG.hiLe hrow)
end

end Go.Proofs.YtajlahjghapbkaaGreat
