-- merged: Ov1 Ov3 Ov2
import Derived.Test.YtggjdgjkdmgjnaaGreatRows
import Derived.Test.YtggjdgjkdmgjnaaGreatSp14
import Derived.Test.YtggjdgjkdmgjnaaGreatAr
namespace Go.Proofs.YtggjdgjkdmgjnaaGreat
open Go.RowKit
section


set_option maxRecDepth 100000 in
set_option maxHeartbeats 1000000 in
theorem separatesF_any (w : World) {ga gb : Nat} {s : Bool} {A : Option Addr} {n c : Nat} {B : Option Addr} {m d : Nat} {t : Bool} {C : Option Addr} {i e : Nat} {D : Option Addr} {j f : Nat} {p : PtD} {s' : Bool} {A' : Option Addr} {n' c' : Nat} {B' : Option Addr} {m' d' : Nat} {t' : Bool} {C' : Option Addr} {i' e' : Nat} {D' : Option Addr} {j' f' : Nat} {p' : PtD} (qa : Blk w ga 45 #[.bool s, .slice A n c, .slice B m d, .bool t, .slice C i e, .slice D j f]) (qb : Blk w gb 45 #[.bool s', .slice A' n' c', .slice B' m' d', .bool t', .slice C' i' e', .slice D' j' f']) (h : RdR w s A n c B m d p.x) (k : RdR w t C i e D j f p.y) (h' : RdR w s' A' n' c' B' m' d' p'.x) (k' : RdR w t' C' i' e' D' j' f' p'.y) {s2 : Bool} {A2 : Option Addr} {n2 c2 : Nat} {B2 : Option Addr} {m2 d2 : Nat} {t2 : Bool} {C2 : Option Addr} {i2 e2 : Nat} {D2 : Option Addr} {j2 f2 : Nat} {p2 : PtD} (h2 : RdR w s2 A2 n2 c2 B2 m2 d2 p2.x) (k2 : RdR w t2 C2 i2 e2 D2 j2 f2 p2.y) :
    Calls Tryz.prog 150 #[.agg #[.bool s2, .slice A2 n2 c2, .slice B2 m2 d2, .bool t2, .slice C2 i2 e2, .slice D2 j2 f2], .pointer (some ⟨ga, 0, none⟩), .pointer (some ⟨gb, 0, none⟩)] w fun e w' => e = .returned (.bool (decide (0 < sgnR (dblA p p' p2)))) ∧ Bl w w' := by
  go_enter Tryz.func150, Tryz.ntmps150
  have ea := qa.alloc (.cells #[.bool s2, .slice A2 n2 c2, .slice B2 m2 d2, .bool t2, .slice C2 i2 e2, .slice D2 j2 f2] 45)
  have eb := qb.alloc (.cells #[.bool s2, .slice A2 n2 c2, .slice B2 m2 d2, .bool t2, .slice C2 i2 e2, .slice D2 j2 f2] 45)
  obtain ⟨i0, i1, i2, i3, i4, i5⟩ := bx6 ea
  obtain ⟨j0, j1, j2, j3, j4, j5⟩ := bx6 eb
  go_wp2_with fail
  refine (DoubleArea_any _ (h.bl slc) (k.bl slc) (h'.bl slc) (k'.bl slc) (h2.bl slc) (k2.bl slc)).mono ?_
  rintro e w1 ⟨s3, A3, n3, c3, B3, m3, d3, rfl, hR, hb1⟩
  go_wp2_with fail
  refine (RatSign_any _ hR.rd).mono ?_
  rintro e w2 ⟨rfl, hb2⟩
  go_wp2_with fail
  go_ret
  exact ⟨rfl, slc⟩
/-- No point of a list lies to the left of the line from a to b. -/
def NoPos (a b : PtD) (l : List PtD) : Prop := ∀ k, k < l.length → ¬ 0 < sgnR (dblA a b (pix l k))
def NoTo (a b : PtD) (l : List PtD) (k : Nat) : Prop := ∀ j, j < k → ¬ 0 < sgnR (dblA a b (pix l j))
theorem NoTo.zero (a b : PtD) (l : List PtD) : NoTo a b l 0 := fun j hj => by omega
theorem NoTo.step {a b : PtD} {l : List PtD} {k : Nat} (h : NoTo a b l k) (h0 : ¬ 0 < sgnR (dblA a b (pix l k))) : NoTo a b l (k + 1) := by
  intro j hj
  rcases Nat.lt_succ_iff_lt_or_eq.1 hj with hj | rfl
  · exact h j hj
  · exact h0
set_option maxRecDepth 100000 in
set_option maxHeartbeats 1000000 in
theorem IndexSep_any (w : World) {ga gb : Nat} {s : Bool} {A : Option Addr} {n c : Nat} {B : Option Addr} {m d : Nat} {t : Bool} {C : Option Addr} {i e : Nat} {D : Option Addr} {j f : Nat} {p : PtD} {s' : Bool} {A' : Option Addr} {n' c' : Nat} {B' : Option Addr} {m' d' : Nat} {t' : Bool} {C' : Option Addr} {i' e' : Nat} {D' : Option Addr} {j' f' : Nat} {p' : PtD} (qa : Blk w ga 45 #[.bool s, .slice A n c, .slice B m d, .bool t, .slice C i e, .slice D j f]) (qb : Blk w gb 45 #[.bool s', .slice A' n' c', .slice B' m' d', .bool t', .slice C' i' e', .slice D' j' f']) (h : RdR w s A n c B m d p.x) (k : RdR w t C i e D j f p.y) (h' : RdR w s' A' n' c' B' m' d' p'.x) (k' : RdR w t' C' i' e' D' j' f' p'.y) {A9 : Option Addr} {n9 c9 : Nat} {l : List PtD} (hl9 : RdPS w A9 n9 c9 l) :
    Calls Tryz.prog 160 #[.slice A9 n9 c9, .func (.func 150) #[] #[.pointer (some ⟨ga, 0, none⟩), .pointer (some ⟨gb, 0, none⟩)]] w (IdxPostB (NoPos p p' l) w) := by
  have hn := hl9.small
  have hl := Lib.hid hl9.len
  go_enter Tryz.func160, Tryz.ntmps160
  go_wp2_with fail
  go_loopw [8] (fun i wr => ∃ k : Nat, k ≤ n9 ∧ i = .int .i64 (k : Int) ∧ NoTo p p' l k ∧ Bl w wr) (fun i _ => n9 - (intOf i).toNat)
  case atStart => exact ⟨0, Nat.zero_le _, rfl, NoTo.zero _ _ _, Bl.refl _⟩
  case round =>
    obtain ⟨k9, hk, rfl, hin, hbw⟩ := hrel
    by_cases hkn : k9 < n9
    · have hki : (k9 : Int) < (n9 : Int) := by omega
      obtain ⟨ad, rfl, hlta, hca⟩ := (RdPS.bl hl9 hbw).cells k9 hkn
      obtain ⟨s2, A2, n2, c2, B2, m2, d2, t2, C2, i2, e2, D2, j2, f2, ⟨g0, g1, g2, g3, g4, g5⟩, hx, hy⟩ := hca
      by_cases ho : 0 < sgnR (dblA p p' (pix l k9))
      · have hno : ¬ NoPos p p' l := fun ha => ha k9 (by rw [hl.out]; exact hkn) ho
        have hno := Lib.hid hno; rename_i h_; clear h_
        have ho := Lib.hid (decide_eq_true ho); rename_i h_; clear h_
        clear hin
        go_wp2_with fail
        refine (separatesF_any _ (qa.bl hbw) (qb.bl hbw) (h.bl hbw) (k.bl hbw) (h'.bl hbw) (k'.bl hbw) hx hy).mono ?_
        rw [ho.out]
        rintro e w1 ⟨rfl, hb1⟩
        have hb2 : Bl w w1 := slc
        clear hb1
        go_wp2_with fail
        go_ret
        exact ⟨_, rfl, fun ha => absurd ha hno.out, fun _ => by omega, hb2⟩
      · have hin' := hin.step ho
        have ho := Lib.hid (decide_eq_false ho); rename_i h_; clear h_
        clear hin
        go_wp2_with fail
        refine (separatesF_any _ (qa.bl hbw) (qb.bl hbw) (h.bl hbw) (k.bl hbw) (h'.bl hbw) (k'.bl hbw) hx hy).mono ?_
        rw [ho.out]
        rintro e w1 ⟨rfl, hb1⟩
        have hb2 : Bl w w1 := slc
        clear hb1
        go_wp2_with fail
        go_roundw
        case rel => exact ⟨k9 + 1, by omega, by go_num, hin', hb2⟩
        case measure => simp [intOf]; omega
    · have hall : NoPos p p' l := fun j hj => hin j (by rw [hl.out] at hj; omega)
      have hall := Lib.hid hall; rename_i h_; clear h_
      go_wp2_with fail
      go_ret
      exact ⟨_, rfl, fun _ => rfl, fun hno => absurd hall.out hno, hbw⟩
theorem ContainsSep_yes (w : World) {ga gb : Nat} {s : Bool} {A : Option Addr} {n c : Nat} {B : Option Addr} {m d : Nat} {t : Bool} {C : Option Addr} {i e : Nat} {D : Option Addr} {j f : Nat} {p : PtD} {s' : Bool} {A' : Option Addr} {n' c' : Nat} {B' : Option Addr} {m' d' : Nat} {t' : Bool} {C' : Option Addr} {i' e' : Nat} {D' : Option Addr} {j' f' : Nat} {p' : PtD} (qa : Blk w ga 45 #[.bool s, .slice A n c, .slice B m d, .bool t, .slice C i e, .slice D j f]) (qb : Blk w gb 45 #[.bool s', .slice A' n' c', .slice B' m' d', .bool t', .slice C' i' e', .slice D' j' f']) (h : RdR w s A n c B m d p.x) (k : RdR w t C i e D j f p.y) (h' : RdR w s' A' n' c' B' m' d' p'.x) (k' : RdR w t' C' i' e' D' j' f' p'.y) {A9 : Option Addr} {n9 c9 : Nat} {l : List PtD} (hl9 : RdPS w A9 n9 c9 l) (hp : NoPos p p' l) :
    Calls Tryz.prog 108 #[.slice A9 n9 c9, .func (.func 150) #[] #[.pointer (some ⟨ga, 0, none⟩), .pointer (some ⟨gb, 0, none⟩)]] w fun e w' => e = .returned (.bool false) ∧ Bl w w' := by
  have hp := Lib.hid hp; rename_i h_; clear h_
  go_enter Tryz.func108, Tryz.ntmps108
  go_wp2_with fail
  refine (IndexSep_any _ qa qb h k h' k' hl9).mono ?_
  rintro e w1 ⟨i9, rfl, h1, _, hb⟩
  have h1 := h1 hp.out
  subst h1
  go_wp2_with fail
  go_ret
  exact ⟨rfl, hb⟩
theorem ContainsSep_no (w : World) {ga gb : Nat} {s : Bool} {A : Option Addr} {n c : Nat} {B : Option Addr} {m d : Nat} {t : Bool} {C : Option Addr} {i e : Nat} {D : Option Addr} {j f : Nat} {p : PtD} {s' : Bool} {A' : Option Addr} {n' c' : Nat} {B' : Option Addr} {m' d' : Nat} {t' : Bool} {C' : Option Addr} {i' e' : Nat} {D' : Option Addr} {j' f' : Nat} {p' : PtD} (qa : Blk w ga 45 #[.bool s, .slice A n c, .slice B m d, .bool t, .slice C i e, .slice D j f]) (qb : Blk w gb 45 #[.bool s', .slice A' n' c', .slice B' m' d', .bool t', .slice C' i' e', .slice D' j' f']) (h : RdR w s A n c B m d p.x) (k : RdR w t C i e D j f p.y) (h' : RdR w s' A' n' c' B' m' d' p'.x) (k' : RdR w t' C' i' e' D' j' f' p'.y) {A9 : Option Addr} {n9 c9 : Nat} {l : List PtD} (hl9 : RdPS w A9 n9 c9 l) (hp : ¬ NoPos p p' l) :
    Calls Tryz.prog 108 #[.slice A9 n9 c9, .func (.func 150) #[] #[.pointer (some ⟨ga, 0, none⟩), .pointer (some ⟨gb, 0, none⟩)]] w fun e w' => e = .returned (.bool true) ∧ Bl w w' := by
  have hp := Lib.hid hp; rename_i h_; clear h_
  go_enter Tryz.func108, Tryz.ntmps108
  go_wp2_with fail
  refine (IndexSep_any _ qa qb h k h' k' hl9).mono ?_
  rintro e w1 ⟨i9, rfl, _, h1, hb⟩
  have h1 := h1 hp.out
  go_wp2_with fail
  go_ret
  exact ⟨rfl, hb⟩


end

section


/-- A side of a triangle has no point of a list on its inner side. -/
def SepTo (a b c : PtD) (m : List PtD) (k : Nat) : Prop := (0 < k → ¬ NoPos a b m) ∧ (1 < k → ¬ NoPos b c m) ∧ (2 < k → ¬ NoPos c a m)
def Sep3 (l m : List PtD) : Prop := ∃ a b c, l = [a, b, c] ∧ (NoPos a b m ∨ NoPos b c m ∨ NoPos c a m)
open Classical in
noncomputable def sepB (l m : List PtD) : Bool := decide (Sep3 l m)
theorem sepB_yes {a b c : PtD} {m : List PtD} (h : NoPos a b m ∨ NoPos b c m ∨ NoPos c a m) : sepB [a, b, c] m = true := by
  unfold sepB
  simp only [decide_eq_true_eq]
  exact ⟨a, b, c, rfl, h⟩
theorem sepB_no {a b c : PtD} {m : List PtD} (h : SepTo a b c m 3) : sepB [a, b, c] m = false := by
  unfold sepB
  simp only [decide_eq_false_iff_not]
  rintro ⟨a', b', c', e, hk⟩
  injection e with e1 e
  injection e with e2 e
  injection e with e3 e
  subst e1 e2 e3
  rcases hk with hk | hk | hk
  · exact h.1 (by omega) hk
  · exact h.2.1 (by omega) hk
  · exact h.2.2 (by omega) hk

set_option maxRecDepth 100000 in
set_option maxHeartbeats 4000000 in
theorem separates_three (w : World) {g c0 : Nat} {p0 p1 p2 : PtD} (h : RdPS w (some ⟨g, 0, none⟩) 3 c0 [p0, p1, p2]) {A9 : Option Addr} {n9 c9 : Nat} {m9 : List PtD} (hl9 : RdPS w A9 n9 c9 m9) :
    Calls Tryz.prog 95 #[.slice (some ⟨g, 0, none⟩) 3 c0, .slice A9 n9 c9] w fun e w' => e = .returned (.bool (sepB [p0, p1, p2] m9)) ∧ Bl w w' := by
  obtain ⟨_, e0, hg, hc0⟩ := h.cells 0 (by omega)
  cases e0
  rw [Addr.add_lit] at hc0
  obtain ⟨s, A, n, c, B, m, d, t, C, i, e, D, j, f, ⟨x0, x1, x2, x3, x4, x5⟩, hX0, hY0⟩ := (show PtAt w ⟨g, 0, none⟩ p0 from hc0)
  have x0 : w.cell? ⟨g, 0, none⟩ = some (.bool s) := x0
  have x1 : w.cell? ⟨g, 1, none⟩ = some (.slice A n c) := x1
  have x2 : w.cell? ⟨g, 2, none⟩ = some (.slice B m d) := x2
  have x3 : w.cell? ⟨g, 3, none⟩ = some (.bool t) := x3
  have x4 : w.cell? ⟨g, 4, none⟩ = some (.slice C i e) := x4
  have x5 : w.cell? ⟨g, 5, none⟩ = some (.slice D j f) := x5
  obtain ⟨_, e0, hg, hc1⟩ := h.cells 1 (by omega)
  cases e0
  rw [Addr.add_lit] at hc1
  obtain ⟨s', A', n', c', B', m', d', t', C', i', e', D', j', f', ⟨y0, y1, y2, y3, y4, y5⟩, hX1, hY1⟩ := (show PtAt w ⟨g, 6, none⟩ p1 from hc1)
  have y0 : w.cell? ⟨g, 6, none⟩ = some (.bool s') := y0
  have y1 : w.cell? ⟨g, 7, none⟩ = some (.slice A' n' c') := y1
  have y2 : w.cell? ⟨g, 8, none⟩ = some (.slice B' m' d') := y2
  have y3 : w.cell? ⟨g, 9, none⟩ = some (.bool t') := y3
  have y4 : w.cell? ⟨g, 10, none⟩ = some (.slice C' i' e') := y4
  have y5 : w.cell? ⟨g, 11, none⟩ = some (.slice D' j' f') := y5
  obtain ⟨_, e0, hg, hc2⟩ := h.cells 2 (by omega)
  cases e0
  rw [Addr.add_lit] at hc2
  obtain ⟨s2, A2, n2, c2, B2, m2, d2, t2, C2, i2, e2, D2, j2, f2, ⟨z0, z1, z2, z3, z4, z5⟩, hX2, hY2⟩ := (show PtAt w ⟨g, 12, none⟩ p2 from hc2)
  have z0 : w.cell? ⟨g, 12, none⟩ = some (.bool s2) := z0
  have z1 : w.cell? ⟨g, 13, none⟩ = some (.slice A2 n2 c2) := z1
  have z2 : w.cell? ⟨g, 14, none⟩ = some (.slice B2 m2 d2) := z2
  have z3 : w.cell? ⟨g, 15, none⟩ = some (.bool t2) := z3
  have z4 : w.cell? ⟨g, 16, none⟩ = some (.slice C2 i2 e2) := z4
  have z5 : w.cell? ⟨g, 17, none⟩ = some (.slice D2 j2 f2) := z5
  clear hc0 hc1 hc2
  go_enter Tryz.func95, Tryz.ntmps95
  go_wp2_with fail
  go_loopw [10] (fun i wr => ∃ k : Nat, k ≤ 3 ∧ i = .int .i64 (k : Int) ∧ SepTo p0 p1 p2 m9 k ∧ Bl w wr) (fun i _ => 3 - (intOf i).toNat)
  case atStart => exact ⟨0, by omega, rfl, ⟨fun h => by omega, fun h => by omega, fun h => by omega⟩, Bl.refl _⟩
  case round =>
    obtain ⟨k, hk, rfl, hin, hbw⟩ := hrel
    rcases (show k = 0 ∨ k = 1 ∨ k = 2 ∨ k = 3 by omega) with rfl | rfl | rfl | rfl
    · have e0 : ((0 : Nat) : Int) = 0 := rfl
      rw [e0]
      clear e0 hk
      by_cases hq : NoPos p0 p1 m9
      · have hv := Lib.hid (sepB_yes (a := p0) (b := p1) (c := p2) (m := m9) (.inl hq))
        have hq := Lib.hid hq; rename_i h_; clear h_
        clear hin
        have hgr : g < wr.heap.size := Nat.lt_of_lt_of_le hg hbw.size
        have x0' : wr.cell? ⟨g, 0, none⟩ = some (.bool s) := (Bl.cellOf (w := w) (p := ⟨g, 0, none⟩) hbw hg).trans x0
        have x1' : wr.cell? ⟨g, 1, none⟩ = some (.slice A n c) := (Bl.cellOf (w := w) (p := ⟨g, 1, none⟩) hbw hg).trans x1
        have x2' : wr.cell? ⟨g, 2, none⟩ = some (.slice B m d) := (Bl.cellOf (w := w) (p := ⟨g, 2, none⟩) hbw hg).trans x2
        have x3' : wr.cell? ⟨g, 3, none⟩ = some (.bool t) := (Bl.cellOf (w := w) (p := ⟨g, 3, none⟩) hbw hg).trans x3
        have x4' : wr.cell? ⟨g, 4, none⟩ = some (.slice C i e) := (Bl.cellOf (w := w) (p := ⟨g, 4, none⟩) hbw hg).trans x4
        have x5' : wr.cell? ⟨g, 5, none⟩ = some (.slice D j f) := (Bl.cellOf (w := w) (p := ⟨g, 5, none⟩) hbw hg).trans x5
        have y0' : wr.cell? ⟨g, 6, none⟩ = some (.bool s') := (Bl.cellOf (w := w) (p := ⟨g, 6, none⟩) hbw hg).trans y0
        have y1' : wr.cell? ⟨g, 7, none⟩ = some (.slice A' n' c') := (Bl.cellOf (w := w) (p := ⟨g, 7, none⟩) hbw hg).trans y1
        have y2' : wr.cell? ⟨g, 8, none⟩ = some (.slice B' m' d') := (Bl.cellOf (w := w) (p := ⟨g, 8, none⟩) hbw hg).trans y2
        have y3' : wr.cell? ⟨g, 9, none⟩ = some (.bool t') := (Bl.cellOf (w := w) (p := ⟨g, 9, none⟩) hbw hg).trans y3
        have y4' : wr.cell? ⟨g, 10, none⟩ = some (.slice C' i' e') := (Bl.cellOf (w := w) (p := ⟨g, 10, none⟩) hbw hg).trans y4
        have y5' : wr.cell? ⟨g, 11, none⟩ = some (.slice D' j' f') := (Bl.cellOf (w := w) (p := ⟨g, 11, none⟩) hbw hg).trans y5
        have hw : IntKind.i64.wrap 1 = 1 := by rfl
        go_wp2_with fail
        go_region_held3 (fun w' => (w'.cell? ⟨g, 0, none⟩ = some (.bool s) ∧ w'.cell? ⟨g, 1, none⟩ = some (.slice A n c) ∧ w'.cell? ⟨g, 2, none⟩ = some (.slice B m d) ∧ w'.cell? ⟨g, 3, none⟩ = some (.bool t) ∧ w'.cell? ⟨g, 4, none⟩ = some (.slice C i e) ∧ w'.cell? ⟨g, 5, none⟩ = some (.slice D j f)) ∧ (w'.cell? ⟨g, 6, none⟩ = some (.bool s') ∧ w'.cell? ⟨g, 7, none⟩ = some (.slice A' n' c') ∧ w'.cell? ⟨g, 8, none⟩ = some (.slice B' m' d') ∧ w'.cell? ⟨g, 9, none⟩ = some (.bool t') ∧ w'.cell? ⟨g, 10, none⟩ = some (.slice C' i' e') ∧ w'.cell? ⟨g, 11, none⟩ = some (.slice D' j' f'))) (first | exact ⟨⟨(Bl.cellOf (w := w) (p := ⟨g, 0, none⟩) slc hg).trans x0, (Bl.cellOf (w := w) (p := ⟨g, 1, none⟩) slc hg).trans x1, (Bl.cellOf (w := w) (p := ⟨g, 2, none⟩) slc hg).trans x2, (Bl.cellOf (w := w) (p := ⟨g, 3, none⟩) slc hg).trans x3, (Bl.cellOf (w := w) (p := ⟨g, 4, none⟩) slc hg).trans x4, (Bl.cellOf (w := w) (p := ⟨g, 5, none⟩) slc hg).trans x5⟩, ⟨(Bl.cellOf (w := w) (p := ⟨g, 6, none⟩) slc hg).trans y0, (Bl.cellOf (w := w) (p := ⟨g, 7, none⟩) slc hg).trans y1, (Bl.cellOf (w := w) (p := ⟨g, 8, none⟩) slc hg).trans y2, (Bl.cellOf (w := w) (p := ⟨g, 9, none⟩) slc hg).trans y3, (Bl.cellOf (w := w) (p := ⟨g, 10, none⟩) slc hg).trans y4, (Bl.cellOf (w := w) (p := ⟨g, 11, none⟩) slc hg).trans y5⟩⟩) (fail)
        · skip
          go_wp2_with fail
          refine calls_gen (fun W => Bl w W ∧ Blk W wr.heap.size 45 #[.bool s, .slice A n c, .slice B m d, .bool t, .slice C i e, .slice D j f] ∧ Blk W (wr.heap.size + 1) 45 #[.bool s', .slice A' n' c', .slice B' m' d', .bool t', .slice C' i' e', .slice D' j' f']) ⟨slc, by exact bts, by exact bts⟩ ?_
          rintro W ⟨hbW, qa, qb⟩
          refine (ContainsSep_yes _ qa qb (hX0.bl hbW) (hY0.bl hbW) (hX1.bl hbW) (hY1.bl hbW) (RdPS.bl hl9 hbW) hq.out).mono ?_
          rintro e w1 ⟨rfl, hb1⟩
          go_wp2_with fail
          go_ret
          exact ⟨ret_bool hv.out.symm, hbW.next hb1⟩
        · skip
          go_wp2_with fail
          refine calls_gen (fun W => Bl w W ∧ Blk W (wr.heap.size + 1) 45 #[.bool s, .slice A n c, .slice B m d, .bool t, .slice C i e, .slice D j f] ∧ Blk W wr.heap.size 45 #[.bool s', .slice A' n' c', .slice B' m' d', .bool t', .slice C' i' e', .slice D' j' f']) ⟨slc, by exact bts, by exact bts⟩ ?_
          rintro W ⟨hbW, qa, qb⟩
          refine (ContainsSep_yes _ qa qb (hX0.bl hbW) (hY0.bl hbW) (hX1.bl hbW) (hY1.bl hbW) (RdPS.bl hl9 hbW) hq.out).mono ?_
          rintro e w1 ⟨rfl, hb1⟩
          go_wp2_with fail
          go_ret
          exact ⟨ret_bool hv.out.symm, hbW.next hb1⟩
      · have hin' : SepTo p0 p1 p2 m9 1 := ⟨fun _ => hq, fun h => by omega, fun h => by omega⟩
        have hq := Lib.hid hq; rename_i h_; clear h_
        have hin' := Lib.hid hin'; rename_i h_; clear h_
        clear hin
        have hgr : g < wr.heap.size := Nat.lt_of_lt_of_le hg hbw.size
        have x0' : wr.cell? ⟨g, 0, none⟩ = some (.bool s) := (Bl.cellOf (w := w) (p := ⟨g, 0, none⟩) hbw hg).trans x0
        have x1' : wr.cell? ⟨g, 1, none⟩ = some (.slice A n c) := (Bl.cellOf (w := w) (p := ⟨g, 1, none⟩) hbw hg).trans x1
        have x2' : wr.cell? ⟨g, 2, none⟩ = some (.slice B m d) := (Bl.cellOf (w := w) (p := ⟨g, 2, none⟩) hbw hg).trans x2
        have x3' : wr.cell? ⟨g, 3, none⟩ = some (.bool t) := (Bl.cellOf (w := w) (p := ⟨g, 3, none⟩) hbw hg).trans x3
        have x4' : wr.cell? ⟨g, 4, none⟩ = some (.slice C i e) := (Bl.cellOf (w := w) (p := ⟨g, 4, none⟩) hbw hg).trans x4
        have x5' : wr.cell? ⟨g, 5, none⟩ = some (.slice D j f) := (Bl.cellOf (w := w) (p := ⟨g, 5, none⟩) hbw hg).trans x5
        have y0' : wr.cell? ⟨g, 6, none⟩ = some (.bool s') := (Bl.cellOf (w := w) (p := ⟨g, 6, none⟩) hbw hg).trans y0
        have y1' : wr.cell? ⟨g, 7, none⟩ = some (.slice A' n' c') := (Bl.cellOf (w := w) (p := ⟨g, 7, none⟩) hbw hg).trans y1
        have y2' : wr.cell? ⟨g, 8, none⟩ = some (.slice B' m' d') := (Bl.cellOf (w := w) (p := ⟨g, 8, none⟩) hbw hg).trans y2
        have y3' : wr.cell? ⟨g, 9, none⟩ = some (.bool t') := (Bl.cellOf (w := w) (p := ⟨g, 9, none⟩) hbw hg).trans y3
        have y4' : wr.cell? ⟨g, 10, none⟩ = some (.slice C' i' e') := (Bl.cellOf (w := w) (p := ⟨g, 10, none⟩) hbw hg).trans y4
        have y5' : wr.cell? ⟨g, 11, none⟩ = some (.slice D' j' f') := (Bl.cellOf (w := w) (p := ⟨g, 11, none⟩) hbw hg).trans y5
        have hw : IntKind.i64.wrap 1 = 1 := by rfl
        go_wp2_with fail
        go_region_held3 (fun w' => (w'.cell? ⟨g, 0, none⟩ = some (.bool s) ∧ w'.cell? ⟨g, 1, none⟩ = some (.slice A n c) ∧ w'.cell? ⟨g, 2, none⟩ = some (.slice B m d) ∧ w'.cell? ⟨g, 3, none⟩ = some (.bool t) ∧ w'.cell? ⟨g, 4, none⟩ = some (.slice C i e) ∧ w'.cell? ⟨g, 5, none⟩ = some (.slice D j f)) ∧ (w'.cell? ⟨g, 6, none⟩ = some (.bool s') ∧ w'.cell? ⟨g, 7, none⟩ = some (.slice A' n' c') ∧ w'.cell? ⟨g, 8, none⟩ = some (.slice B' m' d') ∧ w'.cell? ⟨g, 9, none⟩ = some (.bool t') ∧ w'.cell? ⟨g, 10, none⟩ = some (.slice C' i' e') ∧ w'.cell? ⟨g, 11, none⟩ = some (.slice D' j' f'))) (first | exact ⟨⟨(Bl.cellOf (w := w) (p := ⟨g, 0, none⟩) slc hg).trans x0, (Bl.cellOf (w := w) (p := ⟨g, 1, none⟩) slc hg).trans x1, (Bl.cellOf (w := w) (p := ⟨g, 2, none⟩) slc hg).trans x2, (Bl.cellOf (w := w) (p := ⟨g, 3, none⟩) slc hg).trans x3, (Bl.cellOf (w := w) (p := ⟨g, 4, none⟩) slc hg).trans x4, (Bl.cellOf (w := w) (p := ⟨g, 5, none⟩) slc hg).trans x5⟩, ⟨(Bl.cellOf (w := w) (p := ⟨g, 6, none⟩) slc hg).trans y0, (Bl.cellOf (w := w) (p := ⟨g, 7, none⟩) slc hg).trans y1, (Bl.cellOf (w := w) (p := ⟨g, 8, none⟩) slc hg).trans y2, (Bl.cellOf (w := w) (p := ⟨g, 9, none⟩) slc hg).trans y3, (Bl.cellOf (w := w) (p := ⟨g, 10, none⟩) slc hg).trans y4, (Bl.cellOf (w := w) (p := ⟨g, 11, none⟩) slc hg).trans y5⟩⟩) (fail)
        · skip
          go_wp2_with fail
          refine calls_gen (fun W => Bl w W ∧ Blk W wr.heap.size 45 #[.bool s, .slice A n c, .slice B m d, .bool t, .slice C i e, .slice D j f] ∧ Blk W (wr.heap.size + 1) 45 #[.bool s', .slice A' n' c', .slice B' m' d', .bool t', .slice C' i' e', .slice D' j' f']) ⟨slc, by exact bts, by exact bts⟩ ?_
          rintro W ⟨hbW, qa, qb⟩
          refine (ContainsSep_no _ qa qb (hX0.bl hbW) (hY0.bl hbW) (hX1.bl hbW) (hY1.bl hbW) (RdPS.bl hl9 hbW) hq.out).mono ?_
          rintro e w1 ⟨rfl, hb1⟩
          go_wp2_with fail
          go_roundw
          case rel => exact ⟨1, by omega, rfl, hin'.out, hbW.next hb1⟩
          case measure => simp [intOf]
        · skip
          go_wp2_with fail
          refine calls_gen (fun W => Bl w W ∧ Blk W (wr.heap.size + 1) 45 #[.bool s, .slice A n c, .slice B m d, .bool t, .slice C i e, .slice D j f] ∧ Blk W wr.heap.size 45 #[.bool s', .slice A' n' c', .slice B' m' d', .bool t', .slice C' i' e', .slice D' j' f']) ⟨slc, by exact bts, by exact bts⟩ ?_
          rintro W ⟨hbW, qa, qb⟩
          refine (ContainsSep_no _ qa qb (hX0.bl hbW) (hY0.bl hbW) (hX1.bl hbW) (hY1.bl hbW) (RdPS.bl hl9 hbW) hq.out).mono ?_
          rintro e w1 ⟨rfl, hb1⟩
          go_wp2_with fail
          go_roundw
          case rel => exact ⟨1, by omega, rfl, hin'.out, hbW.next hb1⟩
          case measure => simp [intOf]
    · have e0 : ((1 : Nat) : Int) = 1 := rfl
      rw [e0]
      clear e0 hk
      by_cases hq : NoPos p1 p2 m9
      · have hv := Lib.hid (sepB_yes (a := p0) (b := p1) (c := p2) (m := m9) (.inr (.inl hq)))
        have hq := Lib.hid hq; rename_i h_; clear h_
        clear hin
        have hgr : g < wr.heap.size := Nat.lt_of_lt_of_le hg hbw.size
        have y0' : wr.cell? ⟨g, 6, none⟩ = some (.bool s') := (Bl.cellOf (w := w) (p := ⟨g, 6, none⟩) hbw hg).trans y0
        have y1' : wr.cell? ⟨g, 7, none⟩ = some (.slice A' n' c') := (Bl.cellOf (w := w) (p := ⟨g, 7, none⟩) hbw hg).trans y1
        have y2' : wr.cell? ⟨g, 8, none⟩ = some (.slice B' m' d') := (Bl.cellOf (w := w) (p := ⟨g, 8, none⟩) hbw hg).trans y2
        have y3' : wr.cell? ⟨g, 9, none⟩ = some (.bool t') := (Bl.cellOf (w := w) (p := ⟨g, 9, none⟩) hbw hg).trans y3
        have y4' : wr.cell? ⟨g, 10, none⟩ = some (.slice C' i' e') := (Bl.cellOf (w := w) (p := ⟨g, 10, none⟩) hbw hg).trans y4
        have y5' : wr.cell? ⟨g, 11, none⟩ = some (.slice D' j' f') := (Bl.cellOf (w := w) (p := ⟨g, 11, none⟩) hbw hg).trans y5
        have z0' : wr.cell? ⟨g, 12, none⟩ = some (.bool s2) := (Bl.cellOf (w := w) (p := ⟨g, 12, none⟩) hbw hg).trans z0
        have z1' : wr.cell? ⟨g, 13, none⟩ = some (.slice A2 n2 c2) := (Bl.cellOf (w := w) (p := ⟨g, 13, none⟩) hbw hg).trans z1
        have z2' : wr.cell? ⟨g, 14, none⟩ = some (.slice B2 m2 d2) := (Bl.cellOf (w := w) (p := ⟨g, 14, none⟩) hbw hg).trans z2
        have z3' : wr.cell? ⟨g, 15, none⟩ = some (.bool t2) := (Bl.cellOf (w := w) (p := ⟨g, 15, none⟩) hbw hg).trans z3
        have z4' : wr.cell? ⟨g, 16, none⟩ = some (.slice C2 i2 e2) := (Bl.cellOf (w := w) (p := ⟨g, 16, none⟩) hbw hg).trans z4
        have z5' : wr.cell? ⟨g, 17, none⟩ = some (.slice D2 j2 f2) := (Bl.cellOf (w := w) (p := ⟨g, 17, none⟩) hbw hg).trans z5
        have hw : IntKind.i64.wrap 2 = 2 := by rfl
        go_wp2_with fail
        go_region_held3 (fun w' => (w'.cell? ⟨g, 6, none⟩ = some (.bool s') ∧ w'.cell? ⟨g, 7, none⟩ = some (.slice A' n' c') ∧ w'.cell? ⟨g, 8, none⟩ = some (.slice B' m' d') ∧ w'.cell? ⟨g, 9, none⟩ = some (.bool t') ∧ w'.cell? ⟨g, 10, none⟩ = some (.slice C' i' e') ∧ w'.cell? ⟨g, 11, none⟩ = some (.slice D' j' f')) ∧ (w'.cell? ⟨g, 12, none⟩ = some (.bool s2) ∧ w'.cell? ⟨g, 13, none⟩ = some (.slice A2 n2 c2) ∧ w'.cell? ⟨g, 14, none⟩ = some (.slice B2 m2 d2) ∧ w'.cell? ⟨g, 15, none⟩ = some (.bool t2) ∧ w'.cell? ⟨g, 16, none⟩ = some (.slice C2 i2 e2) ∧ w'.cell? ⟨g, 17, none⟩ = some (.slice D2 j2 f2))) (first | exact ⟨⟨(Bl.cellOf (w := w) (p := ⟨g, 6, none⟩) slc hg).trans y0, (Bl.cellOf (w := w) (p := ⟨g, 7, none⟩) slc hg).trans y1, (Bl.cellOf (w := w) (p := ⟨g, 8, none⟩) slc hg).trans y2, (Bl.cellOf (w := w) (p := ⟨g, 9, none⟩) slc hg).trans y3, (Bl.cellOf (w := w) (p := ⟨g, 10, none⟩) slc hg).trans y4, (Bl.cellOf (w := w) (p := ⟨g, 11, none⟩) slc hg).trans y5⟩, ⟨(Bl.cellOf (w := w) (p := ⟨g, 12, none⟩) slc hg).trans z0, (Bl.cellOf (w := w) (p := ⟨g, 13, none⟩) slc hg).trans z1, (Bl.cellOf (w := w) (p := ⟨g, 14, none⟩) slc hg).trans z2, (Bl.cellOf (w := w) (p := ⟨g, 15, none⟩) slc hg).trans z3, (Bl.cellOf (w := w) (p := ⟨g, 16, none⟩) slc hg).trans z4, (Bl.cellOf (w := w) (p := ⟨g, 17, none⟩) slc hg).trans z5⟩⟩) (fail)
        · skip
          go_wp2_with fail
          refine calls_gen (fun W => Bl w W ∧ Blk W wr.heap.size 45 #[.bool s', .slice A' n' c', .slice B' m' d', .bool t', .slice C' i' e', .slice D' j' f'] ∧ Blk W (wr.heap.size + 1) 45 #[.bool s2, .slice A2 n2 c2, .slice B2 m2 d2, .bool t2, .slice C2 i2 e2, .slice D2 j2 f2]) ⟨slc, by exact bts, by exact bts⟩ ?_
          rintro W ⟨hbW, qa, qb⟩
          refine (ContainsSep_yes _ qa qb (hX1.bl hbW) (hY1.bl hbW) (hX2.bl hbW) (hY2.bl hbW) (RdPS.bl hl9 hbW) hq.out).mono ?_
          rintro e w1 ⟨rfl, hb1⟩
          go_wp2_with fail
          go_ret
          exact ⟨ret_bool hv.out.symm, hbW.next hb1⟩
        · skip
          go_wp2_with fail
          refine calls_gen (fun W => Bl w W ∧ Blk W (wr.heap.size + 1) 45 #[.bool s', .slice A' n' c', .slice B' m' d', .bool t', .slice C' i' e', .slice D' j' f'] ∧ Blk W wr.heap.size 45 #[.bool s2, .slice A2 n2 c2, .slice B2 m2 d2, .bool t2, .slice C2 i2 e2, .slice D2 j2 f2]) ⟨slc, by exact bts, by exact bts⟩ ?_
          rintro W ⟨hbW, qa, qb⟩
          refine (ContainsSep_yes _ qa qb (hX1.bl hbW) (hY1.bl hbW) (hX2.bl hbW) (hY2.bl hbW) (RdPS.bl hl9 hbW) hq.out).mono ?_
          rintro e w1 ⟨rfl, hb1⟩
          go_wp2_with fail
          go_ret
          exact ⟨ret_bool hv.out.symm, hbW.next hb1⟩
      · have hin' : SepTo p0 p1 p2 m9 2 := ⟨fun _ => hin.1 (by omega), fun _ => hq, fun h => by omega⟩
        have hq := Lib.hid hq; rename_i h_; clear h_
        have hin' := Lib.hid hin'; rename_i h_; clear h_
        clear hin
        have hgr : g < wr.heap.size := Nat.lt_of_lt_of_le hg hbw.size
        have y0' : wr.cell? ⟨g, 6, none⟩ = some (.bool s') := (Bl.cellOf (w := w) (p := ⟨g, 6, none⟩) hbw hg).trans y0
        have y1' : wr.cell? ⟨g, 7, none⟩ = some (.slice A' n' c') := (Bl.cellOf (w := w) (p := ⟨g, 7, none⟩) hbw hg).trans y1
        have y2' : wr.cell? ⟨g, 8, none⟩ = some (.slice B' m' d') := (Bl.cellOf (w := w) (p := ⟨g, 8, none⟩) hbw hg).trans y2
        have y3' : wr.cell? ⟨g, 9, none⟩ = some (.bool t') := (Bl.cellOf (w := w) (p := ⟨g, 9, none⟩) hbw hg).trans y3
        have y4' : wr.cell? ⟨g, 10, none⟩ = some (.slice C' i' e') := (Bl.cellOf (w := w) (p := ⟨g, 10, none⟩) hbw hg).trans y4
        have y5' : wr.cell? ⟨g, 11, none⟩ = some (.slice D' j' f') := (Bl.cellOf (w := w) (p := ⟨g, 11, none⟩) hbw hg).trans y5
        have z0' : wr.cell? ⟨g, 12, none⟩ = some (.bool s2) := (Bl.cellOf (w := w) (p := ⟨g, 12, none⟩) hbw hg).trans z0
        have z1' : wr.cell? ⟨g, 13, none⟩ = some (.slice A2 n2 c2) := (Bl.cellOf (w := w) (p := ⟨g, 13, none⟩) hbw hg).trans z1
        have z2' : wr.cell? ⟨g, 14, none⟩ = some (.slice B2 m2 d2) := (Bl.cellOf (w := w) (p := ⟨g, 14, none⟩) hbw hg).trans z2
        have z3' : wr.cell? ⟨g, 15, none⟩ = some (.bool t2) := (Bl.cellOf (w := w) (p := ⟨g, 15, none⟩) hbw hg).trans z3
        have z4' : wr.cell? ⟨g, 16, none⟩ = some (.slice C2 i2 e2) := (Bl.cellOf (w := w) (p := ⟨g, 16, none⟩) hbw hg).trans z4
        have z5' : wr.cell? ⟨g, 17, none⟩ = some (.slice D2 j2 f2) := (Bl.cellOf (w := w) (p := ⟨g, 17, none⟩) hbw hg).trans z5
        have hw : IntKind.i64.wrap 2 = 2 := by rfl
        go_wp2_with fail
        go_region_held3 (fun w' => (w'.cell? ⟨g, 6, none⟩ = some (.bool s') ∧ w'.cell? ⟨g, 7, none⟩ = some (.slice A' n' c') ∧ w'.cell? ⟨g, 8, none⟩ = some (.slice B' m' d') ∧ w'.cell? ⟨g, 9, none⟩ = some (.bool t') ∧ w'.cell? ⟨g, 10, none⟩ = some (.slice C' i' e') ∧ w'.cell? ⟨g, 11, none⟩ = some (.slice D' j' f')) ∧ (w'.cell? ⟨g, 12, none⟩ = some (.bool s2) ∧ w'.cell? ⟨g, 13, none⟩ = some (.slice A2 n2 c2) ∧ w'.cell? ⟨g, 14, none⟩ = some (.slice B2 m2 d2) ∧ w'.cell? ⟨g, 15, none⟩ = some (.bool t2) ∧ w'.cell? ⟨g, 16, none⟩ = some (.slice C2 i2 e2) ∧ w'.cell? ⟨g, 17, none⟩ = some (.slice D2 j2 f2))) (first | exact ⟨⟨(Bl.cellOf (w := w) (p := ⟨g, 6, none⟩) slc hg).trans y0, (Bl.cellOf (w := w) (p := ⟨g, 7, none⟩) slc hg).trans y1, (Bl.cellOf (w := w) (p := ⟨g, 8, none⟩) slc hg).trans y2, (Bl.cellOf (w := w) (p := ⟨g, 9, none⟩) slc hg).trans y3, (Bl.cellOf (w := w) (p := ⟨g, 10, none⟩) slc hg).trans y4, (Bl.cellOf (w := w) (p := ⟨g, 11, none⟩) slc hg).trans y5⟩, ⟨(Bl.cellOf (w := w) (p := ⟨g, 12, none⟩) slc hg).trans z0, (Bl.cellOf (w := w) (p := ⟨g, 13, none⟩) slc hg).trans z1, (Bl.cellOf (w := w) (p := ⟨g, 14, none⟩) slc hg).trans z2, (Bl.cellOf (w := w) (p := ⟨g, 15, none⟩) slc hg).trans z3, (Bl.cellOf (w := w) (p := ⟨g, 16, none⟩) slc hg).trans z4, (Bl.cellOf (w := w) (p := ⟨g, 17, none⟩) slc hg).trans z5⟩⟩) (fail)
        · skip
          go_wp2_with fail
          refine calls_gen (fun W => Bl w W ∧ Blk W wr.heap.size 45 #[.bool s', .slice A' n' c', .slice B' m' d', .bool t', .slice C' i' e', .slice D' j' f'] ∧ Blk W (wr.heap.size + 1) 45 #[.bool s2, .slice A2 n2 c2, .slice B2 m2 d2, .bool t2, .slice C2 i2 e2, .slice D2 j2 f2]) ⟨slc, by exact bts, by exact bts⟩ ?_
          rintro W ⟨hbW, qa, qb⟩
          refine (ContainsSep_no _ qa qb (hX1.bl hbW) (hY1.bl hbW) (hX2.bl hbW) (hY2.bl hbW) (RdPS.bl hl9 hbW) hq.out).mono ?_
          rintro e w1 ⟨rfl, hb1⟩
          go_wp2_with fail
          go_roundw
          case rel => exact ⟨2, by omega, rfl, hin'.out, hbW.next hb1⟩
          case measure => simp [intOf]
        · skip
          go_wp2_with fail
          refine calls_gen (fun W => Bl w W ∧ Blk W (wr.heap.size + 1) 45 #[.bool s', .slice A' n' c', .slice B' m' d', .bool t', .slice C' i' e', .slice D' j' f'] ∧ Blk W wr.heap.size 45 #[.bool s2, .slice A2 n2 c2, .slice B2 m2 d2, .bool t2, .slice C2 i2 e2, .slice D2 j2 f2]) ⟨slc, by exact bts, by exact bts⟩ ?_
          rintro W ⟨hbW, qa, qb⟩
          refine (ContainsSep_no _ qa qb (hX1.bl hbW) (hY1.bl hbW) (hX2.bl hbW) (hY2.bl hbW) (RdPS.bl hl9 hbW) hq.out).mono ?_
          rintro e w1 ⟨rfl, hb1⟩
          go_wp2_with fail
          go_roundw
          case rel => exact ⟨2, by omega, rfl, hin'.out, hbW.next hb1⟩
          case measure => simp [intOf]
    · have e0 : ((2 : Nat) : Int) = 2 := rfl
      rw [e0]
      clear e0 hk
      by_cases hq : NoPos p2 p0 m9
      · have hv := Lib.hid (sepB_yes (a := p0) (b := p1) (c := p2) (m := m9) (.inr (.inr hq)))
        have hq := Lib.hid hq; rename_i h_; clear h_
        clear hin
        have hgr : g < wr.heap.size := Nat.lt_of_lt_of_le hg hbw.size
        have z0' : wr.cell? ⟨g, 12, none⟩ = some (.bool s2) := (Bl.cellOf (w := w) (p := ⟨g, 12, none⟩) hbw hg).trans z0
        have z1' : wr.cell? ⟨g, 13, none⟩ = some (.slice A2 n2 c2) := (Bl.cellOf (w := w) (p := ⟨g, 13, none⟩) hbw hg).trans z1
        have z2' : wr.cell? ⟨g, 14, none⟩ = some (.slice B2 m2 d2) := (Bl.cellOf (w := w) (p := ⟨g, 14, none⟩) hbw hg).trans z2
        have z3' : wr.cell? ⟨g, 15, none⟩ = some (.bool t2) := (Bl.cellOf (w := w) (p := ⟨g, 15, none⟩) hbw hg).trans z3
        have z4' : wr.cell? ⟨g, 16, none⟩ = some (.slice C2 i2 e2) := (Bl.cellOf (w := w) (p := ⟨g, 16, none⟩) hbw hg).trans z4
        have z5' : wr.cell? ⟨g, 17, none⟩ = some (.slice D2 j2 f2) := (Bl.cellOf (w := w) (p := ⟨g, 17, none⟩) hbw hg).trans z5
        have x0' : wr.cell? ⟨g, 0, none⟩ = some (.bool s) := (Bl.cellOf (w := w) (p := ⟨g, 0, none⟩) hbw hg).trans x0
        have x1' : wr.cell? ⟨g, 1, none⟩ = some (.slice A n c) := (Bl.cellOf (w := w) (p := ⟨g, 1, none⟩) hbw hg).trans x1
        have x2' : wr.cell? ⟨g, 2, none⟩ = some (.slice B m d) := (Bl.cellOf (w := w) (p := ⟨g, 2, none⟩) hbw hg).trans x2
        have x3' : wr.cell? ⟨g, 3, none⟩ = some (.bool t) := (Bl.cellOf (w := w) (p := ⟨g, 3, none⟩) hbw hg).trans x3
        have x4' : wr.cell? ⟨g, 4, none⟩ = some (.slice C i e) := (Bl.cellOf (w := w) (p := ⟨g, 4, none⟩) hbw hg).trans x4
        have x5' : wr.cell? ⟨g, 5, none⟩ = some (.slice D j f) := (Bl.cellOf (w := w) (p := ⟨g, 5, none⟩) hbw hg).trans x5
        have hw : IntKind.i64.wrap 3 = 3 := by rfl
        go_wp2_with fail
        go_region_held3 (fun w' => (w'.cell? ⟨g, 12, none⟩ = some (.bool s2) ∧ w'.cell? ⟨g, 13, none⟩ = some (.slice A2 n2 c2) ∧ w'.cell? ⟨g, 14, none⟩ = some (.slice B2 m2 d2) ∧ w'.cell? ⟨g, 15, none⟩ = some (.bool t2) ∧ w'.cell? ⟨g, 16, none⟩ = some (.slice C2 i2 e2) ∧ w'.cell? ⟨g, 17, none⟩ = some (.slice D2 j2 f2)) ∧ (w'.cell? ⟨g, 0, none⟩ = some (.bool s) ∧ w'.cell? ⟨g, 1, none⟩ = some (.slice A n c) ∧ w'.cell? ⟨g, 2, none⟩ = some (.slice B m d) ∧ w'.cell? ⟨g, 3, none⟩ = some (.bool t) ∧ w'.cell? ⟨g, 4, none⟩ = some (.slice C i e) ∧ w'.cell? ⟨g, 5, none⟩ = some (.slice D j f))) (first | exact ⟨⟨(Bl.cellOf (w := w) (p := ⟨g, 12, none⟩) slc hg).trans z0, (Bl.cellOf (w := w) (p := ⟨g, 13, none⟩) slc hg).trans z1, (Bl.cellOf (w := w) (p := ⟨g, 14, none⟩) slc hg).trans z2, (Bl.cellOf (w := w) (p := ⟨g, 15, none⟩) slc hg).trans z3, (Bl.cellOf (w := w) (p := ⟨g, 16, none⟩) slc hg).trans z4, (Bl.cellOf (w := w) (p := ⟨g, 17, none⟩) slc hg).trans z5⟩, ⟨(Bl.cellOf (w := w) (p := ⟨g, 0, none⟩) slc hg).trans x0, (Bl.cellOf (w := w) (p := ⟨g, 1, none⟩) slc hg).trans x1, (Bl.cellOf (w := w) (p := ⟨g, 2, none⟩) slc hg).trans x2, (Bl.cellOf (w := w) (p := ⟨g, 3, none⟩) slc hg).trans x3, (Bl.cellOf (w := w) (p := ⟨g, 4, none⟩) slc hg).trans x4, (Bl.cellOf (w := w) (p := ⟨g, 5, none⟩) slc hg).trans x5⟩⟩) (fail)
        · skip
          go_wp2_with fail
          refine calls_gen (fun W => Bl w W ∧ Blk W wr.heap.size 45 #[.bool s2, .slice A2 n2 c2, .slice B2 m2 d2, .bool t2, .slice C2 i2 e2, .slice D2 j2 f2] ∧ Blk W (wr.heap.size + 1) 45 #[.bool s, .slice A n c, .slice B m d, .bool t, .slice C i e, .slice D j f]) ⟨slc, by exact bts, by exact bts⟩ ?_
          rintro W ⟨hbW, qa, qb⟩
          refine (ContainsSep_yes _ qa qb (hX2.bl hbW) (hY2.bl hbW) (hX0.bl hbW) (hY0.bl hbW) (RdPS.bl hl9 hbW) hq.out).mono ?_
          rintro e w1 ⟨rfl, hb1⟩
          go_wp2_with fail
          go_ret
          exact ⟨ret_bool hv.out.symm, hbW.next hb1⟩
        · skip
          go_wp2_with fail
          refine calls_gen (fun W => Bl w W ∧ Blk W (wr.heap.size + 1) 45 #[.bool s2, .slice A2 n2 c2, .slice B2 m2 d2, .bool t2, .slice C2 i2 e2, .slice D2 j2 f2] ∧ Blk W wr.heap.size 45 #[.bool s, .slice A n c, .slice B m d, .bool t, .slice C i e, .slice D j f]) ⟨slc, by exact bts, by exact bts⟩ ?_
          rintro W ⟨hbW, qa, qb⟩
          refine (ContainsSep_yes _ qa qb (hX2.bl hbW) (hY2.bl hbW) (hX0.bl hbW) (hY0.bl hbW) (RdPS.bl hl9 hbW) hq.out).mono ?_
          rintro e w1 ⟨rfl, hb1⟩
          go_wp2_with fail
          go_ret
          exact ⟨ret_bool hv.out.symm, hbW.next hb1⟩
      · have hin' : SepTo p0 p1 p2 m9 3 := ⟨fun _ => hin.1 (by omega), fun _ => hin.2.1 (by omega), fun _ => hq⟩
        have hq := Lib.hid hq; rename_i h_; clear h_
        have hin' := Lib.hid hin'; rename_i h_; clear h_
        clear hin
        have hgr : g < wr.heap.size := Nat.lt_of_lt_of_le hg hbw.size
        have z0' : wr.cell? ⟨g, 12, none⟩ = some (.bool s2) := (Bl.cellOf (w := w) (p := ⟨g, 12, none⟩) hbw hg).trans z0
        have z1' : wr.cell? ⟨g, 13, none⟩ = some (.slice A2 n2 c2) := (Bl.cellOf (w := w) (p := ⟨g, 13, none⟩) hbw hg).trans z1
        have z2' : wr.cell? ⟨g, 14, none⟩ = some (.slice B2 m2 d2) := (Bl.cellOf (w := w) (p := ⟨g, 14, none⟩) hbw hg).trans z2
        have z3' : wr.cell? ⟨g, 15, none⟩ = some (.bool t2) := (Bl.cellOf (w := w) (p := ⟨g, 15, none⟩) hbw hg).trans z3
        have z4' : wr.cell? ⟨g, 16, none⟩ = some (.slice C2 i2 e2) := (Bl.cellOf (w := w) (p := ⟨g, 16, none⟩) hbw hg).trans z4
        have z5' : wr.cell? ⟨g, 17, none⟩ = some (.slice D2 j2 f2) := (Bl.cellOf (w := w) (p := ⟨g, 17, none⟩) hbw hg).trans z5
        have x0' : wr.cell? ⟨g, 0, none⟩ = some (.bool s) := (Bl.cellOf (w := w) (p := ⟨g, 0, none⟩) hbw hg).trans x0
        have x1' : wr.cell? ⟨g, 1, none⟩ = some (.slice A n c) := (Bl.cellOf (w := w) (p := ⟨g, 1, none⟩) hbw hg).trans x1
        have x2' : wr.cell? ⟨g, 2, none⟩ = some (.slice B m d) := (Bl.cellOf (w := w) (p := ⟨g, 2, none⟩) hbw hg).trans x2
        have x3' : wr.cell? ⟨g, 3, none⟩ = some (.bool t) := (Bl.cellOf (w := w) (p := ⟨g, 3, none⟩) hbw hg).trans x3
        have x4' : wr.cell? ⟨g, 4, none⟩ = some (.slice C i e) := (Bl.cellOf (w := w) (p := ⟨g, 4, none⟩) hbw hg).trans x4
        have x5' : wr.cell? ⟨g, 5, none⟩ = some (.slice D j f) := (Bl.cellOf (w := w) (p := ⟨g, 5, none⟩) hbw hg).trans x5
        have hw : IntKind.i64.wrap 3 = 3 := by rfl
        go_wp2_with fail
        go_region_held3 (fun w' => (w'.cell? ⟨g, 12, none⟩ = some (.bool s2) ∧ w'.cell? ⟨g, 13, none⟩ = some (.slice A2 n2 c2) ∧ w'.cell? ⟨g, 14, none⟩ = some (.slice B2 m2 d2) ∧ w'.cell? ⟨g, 15, none⟩ = some (.bool t2) ∧ w'.cell? ⟨g, 16, none⟩ = some (.slice C2 i2 e2) ∧ w'.cell? ⟨g, 17, none⟩ = some (.slice D2 j2 f2)) ∧ (w'.cell? ⟨g, 0, none⟩ = some (.bool s) ∧ w'.cell? ⟨g, 1, none⟩ = some (.slice A n c) ∧ w'.cell? ⟨g, 2, none⟩ = some (.slice B m d) ∧ w'.cell? ⟨g, 3, none⟩ = some (.bool t) ∧ w'.cell? ⟨g, 4, none⟩ = some (.slice C i e) ∧ w'.cell? ⟨g, 5, none⟩ = some (.slice D j f))) (first | exact ⟨⟨(Bl.cellOf (w := w) (p := ⟨g, 12, none⟩) slc hg).trans z0, (Bl.cellOf (w := w) (p := ⟨g, 13, none⟩) slc hg).trans z1, (Bl.cellOf (w := w) (p := ⟨g, 14, none⟩) slc hg).trans z2, (Bl.cellOf (w := w) (p := ⟨g, 15, none⟩) slc hg).trans z3, (Bl.cellOf (w := w) (p := ⟨g, 16, none⟩) slc hg).trans z4, (Bl.cellOf (w := w) (p := ⟨g, 17, none⟩) slc hg).trans z5⟩, ⟨(Bl.cellOf (w := w) (p := ⟨g, 0, none⟩) slc hg).trans x0, (Bl.cellOf (w := w) (p := ⟨g, 1, none⟩) slc hg).trans x1, (Bl.cellOf (w := w) (p := ⟨g, 2, none⟩) slc hg).trans x2, (Bl.cellOf (w := w) (p := ⟨g, 3, none⟩) slc hg).trans x3, (Bl.cellOf (w := w) (p := ⟨g, 4, none⟩) slc hg).trans x4, (Bl.cellOf (w := w) (p := ⟨g, 5, none⟩) slc hg).trans x5⟩⟩) (fail)
        · skip
          go_wp2_with fail
          refine calls_gen (fun W => Bl w W ∧ Blk W wr.heap.size 45 #[.bool s2, .slice A2 n2 c2, .slice B2 m2 d2, .bool t2, .slice C2 i2 e2, .slice D2 j2 f2] ∧ Blk W (wr.heap.size + 1) 45 #[.bool s, .slice A n c, .slice B m d, .bool t, .slice C i e, .slice D j f]) ⟨slc, by exact bts, by exact bts⟩ ?_
          rintro W ⟨hbW, qa, qb⟩
          refine (ContainsSep_no _ qa qb (hX2.bl hbW) (hY2.bl hbW) (hX0.bl hbW) (hY0.bl hbW) (RdPS.bl hl9 hbW) hq.out).mono ?_
          rintro e w1 ⟨rfl, hb1⟩
          go_wp2_with fail
          go_roundw
          case rel => exact ⟨3, by omega, rfl, hin'.out, hbW.next hb1⟩
          case measure => simp [intOf]
        · skip
          go_wp2_with fail
          refine calls_gen (fun W => Bl w W ∧ Blk W (wr.heap.size + 1) 45 #[.bool s2, .slice A2 n2 c2, .slice B2 m2 d2, .bool t2, .slice C2 i2 e2, .slice D2 j2 f2] ∧ Blk W wr.heap.size 45 #[.bool s, .slice A n c, .slice B m d, .bool t, .slice C i e, .slice D j f]) ⟨slc, by exact bts, by exact bts⟩ ?_
          rintro W ⟨hbW, qa, qb⟩
          refine (ContainsSep_no _ qa qb (hX2.bl hbW) (hY2.bl hbW) (hX0.bl hbW) (hY0.bl hbW) (RdPS.bl hl9 hbW) hq.out).mono ?_
          rintro e w1 ⟨rfl, hb1⟩
          go_wp2_with fail
          go_roundw
          case rel => exact ⟨3, by omega, rfl, hin'.out, hbW.next hb1⟩
          case measure => simp [intOf]
    · have e0 : ((3 : Nat) : Int) = 3 := rfl
      rw [e0]
      clear e0 hk
      have hv := Lib.hid (sepB_no hin)
      clear hin
      go_wp2_with fail
      go_ret
      exact ⟨ret_bool hv.out.symm, hbw⟩


end

section


open Classical in
noncomputable def noB (a b : PtD) (l : List PtD) (k : Nat) : Bool := decide (NoTo a b l k)
theorem noB_zero (a b : PtD) (l : List PtD) : noB a b l 0 = true := by unfold noB; simp only [decide_eq_true_eq]; exact NoTo.zero _ _ _
theorem noB_yes {a b : PtD} {l : List PtD} {k : Nat} (h : noB a b l k = true) : noB a b l (k + 1) = decide (sgnR (dblA a b (pix l k)) ≤ 0) := by
  unfold noB at h ⊢
  simp only [decide_eq_true_eq] at h
  rw [decide_eq_decide]
  exact ⟨fun hk => Int.not_lt.1 (hk k (by omega)), fun hk => h.step (Int.not_lt.2 hk)⟩
theorem noB_no {a b : PtD} {l : List PtD} {k : Nat} (h : noB a b l k = false) : noB a b l (k + 1) = false := by
  unfold noB at h ⊢
  simp only [decide_eq_false_iff_not] at h ⊢
  exact fun hk => h fun j hj => hk j (by omega)
theorem noB_all {a b : PtD} {l : List PtD} {n : Nat} (hl : l.length = n) : noB a b l n = true ↔ NoPos a b l := by
  unfold noB
  simp only [decide_eq_true_eq]
  subst hl
  exact Iff.rfl

/-- Whether two lists of points overlap. -/
noncomputable def ovB (l m : List PtD) : Bool := propB l && propB m && !sepB l m && !sepB m l

set_option maxRecDepth 100000 in
set_option maxHeartbeats 2000000 in
theorem Overlap_any (w : World) {g n c g' n' c' : Nat} {l m : List PtD} (ha : RdPS w (some ⟨g, 0, none⟩) n c l) (hb : RdPS w (some ⟨g', 0, none⟩) n' c' m) :
    Calls Tryz.prog 36 #[.slice (some ⟨g, 0, none⟩) n c, .slice (some ⟨g', 0, none⟩) n' c'] w fun e w' => e = .returned (.bool (ovB l m)) ∧ Bl w w' := by
  have hbb := Bl.refl w
  by_cases e1 : propB l = true
  · by_cases e2 : propB m = true
    · obtain ⟨_, p0, p1, p2, q1, _⟩ := propB_out e1
      obtain ⟨_, q0, q1', q2, q2', _⟩ := propB_out e2
      subst q1
      subst q2'
      obtain rfl : 3 = n := ha.len
      obtain rfl : 3 = n' := hb.len
      cases e3 : sepB [p0, p1, p2] [q0, q1', q2]
      · cases e4 : sepB [q0, q1', q2] [p0, p1, p2]
        all_goals
          have e1 := Lib.hid e1; rename_i h_; clear h_
          have e2 := Lib.hid e2; rename_i h_; clear h_
          have e3 := Lib.hid e3; rename_i h_; clear h_
          have e4 := Lib.hid e4; rename_i h_; clear h_
          go_enter Tryz.func36, Tryz.ntmps36
          go_wp2_with fail
          refine (IsProper_any _ (RdPS.bl ha hbb)).mono ?_
          rw [e1.out]
          rintro e w1 ⟨rfl, hb1⟩
          replace hbb := hbb.next hb1
          clear hb1
          go_wp2_with fail
          refine (IsProper_any _ (RdPS.bl hb hbb)).mono ?_
          rw [e2.out]
          rintro e w1 ⟨rfl, hb1⟩
          replace hbb := hbb.next hb1
          clear hb1
          go_wp2_with fail
          refine (separates_three _ (RdPS.bl ha hbb) (RdPS.bl hb hbb)).mono ?_
          rw [e3.out]
          rintro e w1 ⟨rfl, hb1⟩
          replace hbb := hbb.next hb1
          clear hb1
          go_wp2_with fail
          refine (separates_three _ (RdPS.bl hb hbb) (RdPS.bl ha hbb)).mono ?_
          rw [e4.out]
          rintro e w1 ⟨rfl, hb1⟩
          replace hbb := hbb.next hb1
          clear hb1
          go_wp2_with fail
          go_ret
          exact ⟨ret_bool (by unfold ovB; simp [e1.out, e2.out, e3.out, e4.out]), hbb⟩
      · have e1 := Lib.hid e1; rename_i h_; clear h_
        have e2 := Lib.hid e2; rename_i h_; clear h_
        have e3 := Lib.hid e3; rename_i h_; clear h_
        go_enter Tryz.func36, Tryz.ntmps36
        go_wp2_with fail
        refine (IsProper_any _ (RdPS.bl ha hbb)).mono ?_
        rw [e1.out]
        rintro e w1 ⟨rfl, hb1⟩
        replace hbb := hbb.next hb1
        clear hb1
        go_wp2_with fail
        refine (IsProper_any _ (RdPS.bl hb hbb)).mono ?_
        rw [e2.out]
        rintro e w1 ⟨rfl, hb1⟩
        replace hbb := hbb.next hb1
        clear hb1
        go_wp2_with fail
        refine (separates_three _ (RdPS.bl ha hbb) (RdPS.bl hb hbb)).mono ?_
        rw [e3.out]
        rintro e w1 ⟨rfl, hb1⟩
        replace hbb := hbb.next hb1
        clear hb1
        go_wp2_with fail
        go_ret
        exact ⟨ret_bool (by unfold ovB; simp [e1.out, e2.out, e3.out]), hbb⟩
    · have e1 := Lib.hid e1; rename_i h_; clear h_
      have e2 := Lib.hid (Bool.eq_false_iff.2 e2); rename_i h_; clear h_
      go_enter Tryz.func36, Tryz.ntmps36
      go_wp2_with fail
      refine (IsProper_any _ (RdPS.bl ha hbb)).mono ?_
      rw [e1.out]
      rintro e w1 ⟨rfl, hb1⟩
      replace hbb := hbb.next hb1
      clear hb1
      go_wp2_with fail
      refine (IsProper_any _ (RdPS.bl hb hbb)).mono ?_
      rw [e2.out]
      rintro e w1 ⟨rfl, hb1⟩
      replace hbb := hbb.next hb1
      clear hb1
      go_wp2_with fail
      go_ret
      exact ⟨ret_bool (by unfold ovB; simp [e1.out, e2.out]), hbb⟩
  · have e1 := Lib.hid (Bool.eq_false_iff.2 e1); rename_i h_; clear h_
    go_enter Tryz.func36, Tryz.ntmps36
    go_wp2_with fail
    refine (IsProper_any _ (RdPS.bl ha hbb)).mono ?_
    rw [e1.out]
    rintro e w1 ⟨rfl, hb1⟩
    replace hbb := hbb.next hb1
    clear hb1
    go_wp2_with fail
    go_ret
    exact ⟨ret_bool (by unfold ovB; simp [e1.out]), hbb⟩

end

end Go.Proofs.YtggjdgjkdmgjnaaGreat
