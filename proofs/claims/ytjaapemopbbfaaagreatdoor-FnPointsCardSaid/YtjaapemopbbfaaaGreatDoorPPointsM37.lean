/- Lemmas. -/
import Derived.Test.YtjaapemopbbfaaaGreatDoorRows
import Derived.Test.YtjaapemopbbfaaaGreatDoorPPointsM36
import Derived.Test.YtjaapemopbbfaaaGreatDoorPPointsM22
import Derived.Test.YtjaapemopbbfaaaGreatDoorPPointsM11
import Derived.Test.YtjaapemopbbfaaaGreatDoorPPointsM27
import Derived.Test.YtjaapemopbbfaaaGreatDoorPPointsM35
import Derived.Test.YtjaapemopbbfaaaGreatDoorPPointsM15
import Derived.Test.YtjaapemopbbfaaaGreatDoorPPointsM28
namespace Go.Proofs.YtjaapemopbbfaaaGreatDoor
section
open Go.RowKit

set_option maxHeartbeats 6400000 in
set_option maxRecDepth 100000 in
theorem RatNeg_yes (w : World) {s : Bool} {A : Option Addr} {n c : Nat} {B : Option Addr} {m d : Nat} {r : RatD} (h : RdR w s A n c B m d r) (ho : OkR r) :
    Calls Tryz.prog 17 #[.agg #[.bool s, .slice A n c, .slice B m d]] w fun e w' => ∃ s1 A1 n1 c1 B1 m1 d1, e = .returned (.agg #[.bool s1, .slice A1 n1 c1, .slice B1 m1 d1]) ∧ OwR 3 w.heap.size w' s1 A1 n1 c1 B1 m1 d1 (negR r) ∧ Bl w w' := by
  have hok := okR_of ho
  have hneg : negR r = raw (-(rn r)) (rd r) := by unfold negR; rw [if_pos ho]
  have hR := IsR.out h ho
  obtain ⟨-, -, -, l1, l2⟩ := ho.get
  have hn : n ≤ 1048576 := by have := hR.num.lenN; omega
  have hm : m ≤ 1048576 := by have := hR.dn.lenN; omega
  rw [hneg]
  clear l1 l2 ho hneg
  go_enter Tryz.func17, Tryz.ntmps17
  go_upto_region 1 with (fail)
  refine wp_gen (fun W => Bl w W ∧ ∃ g k, Blk W g 26 #[.bool s, .slice A n c, .slice B m d] ∧ Wk 3 26 k W ∧ g = w.heap.size ∧ k = w.heap.size + 1) ⟨slc, _, _, by exact bts, by exact bts, rfl, rfl⟩ ?_
  rintro W0 ⟨hb0, g, k, hg, hk, hge, hke⟩
  rw [← hke, ← hge]
  have hgw : w.heap.size ≤ g := by omega
  have hkw : w.heap.size ≤ k := by omega
  clear hge hke
  obtain ⟨x0, x1, x2⟩ := bx3 hg
  go_upto_region 3 with (go_at_call 48; refine (RatOk_any (r := r) W0 (h.bl hb0)).mono ?_; rw [hok]; rintro e w1 ⟨rfl, hb1⟩)
  have hg1 := hg.bl hb1
  have hR1 := RdR.bl hR (hb0.next hb1)
  clear x0 x1 x2
  obtain ⟨x0, x1, x2⟩ := bx3 hg1
  go_wp2_with (first
    | (go_at_call 50; refine (negative_any w1 hR1).mono ?_; rintro e w2 ⟨s1, rfl, hR2, hb2⟩)
    | (go_at_call 49; refine (copyRat_any w2 hR2 hn hm).mono ?_; rintro e w3 ⟨A1, n1, c1, B1, m1, d1, rfl, hO, hb3⟩; have hbk := (hb1.next hb2).next hb3; have hr2 := hk.bl hbk; obtain ⟨v0, z0⟩ := hr2.val_ (i := 0) (by omega); obtain ⟨v1, z1⟩ := hr2.val_ (i := 1) (by omega); obtain ⟨v2, z2⟩ := hr2.val_ (i := 2) (by omega); have hgr := hr2.lt; have hB := hr2.blk; have hf0 := hB.frozen 0; have hf1 := hB.frozen 1; have hf2 := hB.frozen 2))
  have hk2 : k < w2.heap.size := Nat.lt_of_lt_of_le hk.lt (hb1.next hb2).size
  have hbw : Bl w w3 := hb0.next hbk
  refine bodyPost_ret (v := .agg #[.bool s1, .slice A1 n1 c1, .slice B1 m1 d1]) (by simp [results, Tryz.results17, go_sem, z0, z1, z2]) rfl ⟨_, _, _, _, _, _, _, rfl, OwR.mono (((hO.far (p := ⟨k, 0, none⟩) hk2 _).far (p := ⟨k, 1, none⟩) hk2 _).far (p := ⟨k, 2, none⟩) hk2 _) (by have := (hb0.next (hb1.next hb2)).size; omega), slc⟩

set_option maxHeartbeats 6400000 in
set_option maxRecDepth 100000 in
theorem FormatPoint_yes (w : World) {s : Bool} {A : Option Addr} {n c : Nat} {B : Option Addr} {m d : Nat} {t : Bool} {C : Option Addr} {i e : Nat} {D : Option Addr} {j f : Nat} {p : PtD} (h : RdR w s A n c B m d p.x) (k : RdR w t C i e D j f p.y) (ho : OkP p) (hE : Env w) :
    Calls Tryz.prog 12 #[.agg #[.bool s, .slice A n c, .slice B m d, .bool t, .slice C i e, .slice D j f]] w fun en w' => en = .returned (.string (sb (ptx p))) ∧ Bl w w' := by
  have hE := Lib.hid hE; rename_i hE_; clear hE_
  have o1 : okR (raw (rn p.x) (rd p.x)) = true := by rw [← ho.1.get.1]; exact okR_of ho.1
  have o2 : okR (raw (rn p.y) (rd p.y)) = true := by rw [← ho.2.get.1]; exact okR_of ho.2
  have l1 := ftx_len o1
  have l2 := ftx_len o2
  rw [← rtx_ok o1] at l1
  rw [← rtx_ok o2] at l2
  have hX := IsR.out h ho.1
  have hY := IsR.out k ho.2
  obtain ⟨-, -, -, q1, q2⟩ := ho.1.get
  obtain ⟨-, -, -, q3, q4⟩ := ho.2.get
  have hn : n ≤ 60 := by have := hX.num.lenN; omega
  have hm : m ≤ 60 := by have := hX.dn.lenN; omega
  have hi : i ≤ 60 := by have := hY.num.lenN; omega
  have hj : j ≤ 60 := by have := hY.dn.lenN; omega
  have hf1 : ∀ W, Bl w W → Calls Tryz.prog 45 #[.agg #[.bool s, .slice A n c, .slice B m d]] W fun en w' => en = .returned (.string (sb (rtx (rn p.x) (rd p.x)))) ∧ Bl W w' := fun W hb => FormatRat_any _ (RdR.bl hX hb) (by omega) (by omega) (hE.out.bl hb)
  have hf2 : ∀ W, Bl w W → Calls Tryz.prog 45 #[.agg #[.bool t, .slice C i e, .slice D j f]] W fun en w' => en = .returned (.string (sb (rtx (rn p.y) (rd p.y)))) ∧ Bl W w' := fun W hb => FormatRat_any _ (RdR.bl hY hb) (by omega) (by omega) (hE.out.bl hb)
  have hpt : Hid (ptx p = rtx (rn p.x) (rd p.x) ++ 44 :: rtx (rn p.y) (rd p.y)) := Lib.hid rfl
  generalize rtx (rn p.x) (rd p.x) = tx at hf1 hpt l1
  generalize rtx (rn p.y) (rd p.y) = ty at hf2 hpt l2
  have hf1 := Lib.hid hf1; rename_i hf1_; clear hf1_
  have hf2 := Lib.hid hf2; rename_i hf2_; clear hf2_
  have hadd1 : ∀ W, (Op.stringOp .add (sb tx) ⟨#[44]⟩).run Tryz.prog W = .ok (.string (sb (tx ++ [44]))) W := fun W => add_str (P := Tryz.prog) W tx [44] (by omega) (by simp)
  have hadd2 := fun W => add_str (P := Tryz.prog) W (tx ++ [44]) ty (by rw [List.length_append, List.length_singleton]; omega) (by omega)
  have hoH := Lib.hid ho
  clear q1 q2 q3 q4 o1 o2 ho hX hY hn hm hi hj
  go_enter Tryz.func12, Tryz.ntmps12
  go_upto_region 1 with (fail)
  refine wp_gen (fun W => Bl w W ∧ ∃ g, Blk W g 28 #[.bool s, .slice A n c, .slice B m d, .bool t, .slice C i e, .slice D j f] ∧ g = w.heap.size) ⟨slc, _, by exact bts, rfl⟩ ?_
  rintro W0 ⟨hb0, g, hg, hge⟩
  rw [← hge]
  clear hge
  obtain ⟨x0, x1, x2, x3, x4, x5⟩ := bx6 hg
  go_wp2_with (go_at_call 44; refine (IsValidPoint_yes W0 (h.bl hb0) (k.bl hb0) hoH.out).mono ?_; rintro en w1 ⟨rfl, hb1⟩)
  have hg := hg.bl hb1
  have hbw1 := hb0.next hb1
  clear x0 x1 x2 x3 x4 x5 hb0 hb1
  go_region_held3 (fun w' => (w'.cell? ⟨g, 0, none⟩ = some (.bool s) ∧ w'.cell? ⟨g, 1, none⟩ = some (.slice A n c) ∧ w'.cell? ⟨g, 2, none⟩ = some (.slice B m d) ∧ w'.cell? ⟨g, 3, none⟩ = some (.bool t) ∧ w'.cell? ⟨g, 4, none⟩ = some (.slice C i e) ∧ w'.cell? ⟨g, 5, none⟩ = some (.slice D j f))) (first | exact (bx6 (T := 28) bts)) (first | (go_at_call 45; with_reducible refine (hf1.out _ (show Bl w _ from slc)).mono ?_; rintro e w3 ⟨rfl, hb3⟩) | (go_at_call 45; with_reducible refine (hf2.out _ (show Bl w _ from slc)).mono ?_; rintro e w4 ⟨rfl, hb4⟩))
  all_goals (go_wp2_with fail)
  all_goals go_ret
  all_goals exact ⟨by rw [hpt.out]; first | rfl | (rw [List.append_assoc]; rfl), slc⟩
end

section
open Go.RowKit

/-- A fraction in memory made since block b0 (the two slices may share). -/
def OwW (b0 : Nat) (w : World) (t : Bool) (A : Option Addr) (n c : Nat) (B : Option Addr) (m d : Nat) (r : RatD) : Prop := t = r.neg ∧ OwI 3 b0 w A n c r.mag ∧ OwI 3 b0 w B m d r.den
section
variable {b0 b1 : Nat} {w W : World} {t : Bool} {A : Option Addr} {n c : Nat} {B : Option Addr} {m d : Nat} {r : RatD}
theorem OwW.rd (h : OwW b0 w t A n c B m d r) : RdR w t A n c B m d r := ⟨h.1, h.2.1.rd, h.2.2.rd⟩
theorem OwW.bl (h : OwW b0 w t A n c B m d r) (hb : Bl w W) : OwW b0 W t A n c B m d r := ⟨h.1, h.2.1.bl hb, h.2.2.bl hb⟩
theorem OwW.low (h : OwW b1 w t A n c B m d r) (hb : b0 ≤ b1) : OwW b0 w t A n c B m d r := ⟨h.1, h.2.1.mono hb, h.2.2.mono hb⟩
theorem OwW.far (h : OwW b0 w t A n c B m d r) {p : Addr} (hp : p.block < b0) (u : Value) : OwW b0 (w.setCell p u) t A n c B m d r := ⟨h.1, h.2.1.far hp u, h.2.2.far hp u⟩
end
end

section
open Go.RowKit
end

section
open Go.RowKit

/-- The four lists hold marks. -/
def Mk4 (w : World) (k0 : Int) (A : Option Addr) (n c : Nat) (B : Option Addr) (m d : Nat) (C : Option Addr) (i e : Nat) (D : Option Addr) (j f : Nat) : Prop :=
  RdI w A n c (marks k0 n) ∧ RdI w B m d (marks (k0 + (n : Int)) m) ∧ RdI w C i e (marks (k0 + (n : Int) + (m : Int)) i) ∧ RdI w D j f (marks (k0 + (n : Int) + (m : Int) + (i : Int)) j)
theorem Mk4.bl {w W : World} {k0 : Int} {A : Option Addr} {n c : Nat} {B : Option Addr} {m d : Nat} {C : Option Addr} {i e : Nat} {D : Option Addr} {j f : Nat} (h : Mk4 w k0 A n c B m d C i e D j f) (hb : Bl w W) : Mk4 W k0 A n c B m d C i e D j f :=
  ⟨h.1.bl hb, h.2.1.bl hb, h.2.2.1.bl hb, h.2.2.2.bl hb⟩

open Classical in
/-- Whether a point is spelled. -/
noncomputable def ptB (l : List UInt8) : Bool := decide (PtT l)
open Classical in
/-- What both return. -/
noncomputable def ptV (l : List UInt8) : PtD := if PtT l then qp l else zP
theorem ptB_yes {l : List UInt8} (h : PtT l) : ptB l = true := by simp [ptB, h]
theorem ptB_no {l : List UInt8} (h : ¬ PtT l) : ptB l = false := by simp [ptB, h]
theorem ParsePoint_one (w : World) (s : ByteArray) (hs : s.size ≤ 1048576) (hE : Env w) :
    Calls Tryz.prog 7 #[.string s] w fun en w' => ∃ s1 A1 n1 c1 B1 m1 d1 t1 C1 i1 e1 D1 j1 f1, en = .returned (.tuple #[.agg #[.bool s1, .slice A1 n1 c1, .slice B1 m1 d1, .bool t1, .slice C1 i1 e1, .slice D1 j1 f1], .bool (ptB (bl s))]) ∧ OwP 3 w.heap.size w' s1 A1 n1 c1 B1 m1 d1 t1 C1 i1 e1 D1 j1 f1 (ptV (bl s)) ∧ Bl w w' := by
  refine (ParsePoint_any w s hs hE).mono ?_
  rintro en w' ⟨(⟨h, s1, A1, n1, c1, B1, m1, d1, t1, C1, i1, e1, D1, j1, f1, rfl, hO⟩ | ⟨h, rfl⟩), hb⟩
  · refine ⟨s1, A1, n1, c1, B1, m1, d1, t1, C1, i1, e1, D1, j1, f1, by rw [ptB_yes h], by unfold ptV; rw [if_pos h]; exact hO, hb⟩
  · exact ⟨_, _, _, _, _, _, _, _, _, _, _, _, _, _, by rw [ptB_no h], by unfold ptV; rw [if_neg h]; exact OwP.zero _ _ _, hb⟩
end

section
open Go.RowKit

set_option maxRecDepth 100000 in
set_option maxHeartbeats 32000000 in
theorem FnPoints_any (w : World) {Ac : Option Addr} {nc cc : Nat} {lc : List Int} (hc : RdB w Ac nc cc lc) (hEn : Env w) :
    Calls Tryz.prog 4 #[.slice Ac nc cc] w fun e w' => e = .returned (.bool true) ∧ Bl w w' := by
  have hn := hc.small
  have hEn := Lib.hid hEn; rename_i hE_; clear hE_
  by_cases hbig : (nc : Int) > 1048576
  · go_enter Tryz.func4, Tryz.ntmps4
    go_wp2_with fail
    go_ret
    exact ⟨rfl, slc⟩
  · have hsmall : ¬ 1048576 < (nc : Int) := hbig
    clear hbig
    go_enter Tryz.func4, Tryz.ntmps4
    go_upto_region 4 with (go_at_call 11; refine (MakePoint_any _ 0 (by omega) (hc.bl (Bl.refl w))).mono ?_; rintro en v1 ⟨s1, A1, n1, c1, B1, m1, d1, t1, C1, i1, e1, D1, j1, f1, p1, rfl, hx1, hy1, hS1, hv1⟩)
    refine wp_gen (fun W => Bl v1 W ∧ ∃ g, Blk W g 28 #[.bool s1, .slice A1 n1 c1, .slice B1 m1 d1, .bool t1, .slice C1 i1 e1, .slice D1 j1 f1] ∧ g = v1.heap.size) ⟨slc, _, by exact bts, rfl⟩ ?_
    rintro Wa ⟨hBa, ga, hga, hge⟩
    rw [← hge]
    clear hge
    have hw1 := hv1.next hBa
    have hx1 := hx1.bl hBa
    have hy1 := hy1.bl hBa
    go_upto_region 5 with (go_at_call 11; refine (MakePoint_any _ 1 (by omega) (hc.bl hw1)).mono ?_; rintro en v2 ⟨s2, A2, n2, c2, B2, m2, d2, t2, C2, i2, e2, D2, j2, f2, p2, rfl, hx2, hy2, hS2, hv2⟩)
    refine wp_gen (fun W => Bl v2 W ∧ ∃ g, Blk W g 28 #[.bool s2, .slice A2 n2 c2, .slice B2 m2 d2, .bool t2, .slice C2 i2 e2, .slice D2 j2 f2] ∧ g = v2.heap.size) ⟨slc, _, by exact bts, rfl⟩ ?_
    rintro Wb ⟨hBb, gb, hgb, hge⟩
    rw [← hge]
    clear hge
    have hb := hv2.next hBb
    have hw2 := hw1.next hb
    have hx1 := hx1.bl hb
    have hy1 := hy1.bl hb
    have hga := hga.bl hb
    have hx2 := hx2.bl hBb
    have hy2 := hy2.bl hBb
    clear hb
    go_upto_region 6 with (go_at_call 11; refine (MakePoint_any _ 2 (by omega) (hc.bl hw2)).mono ?_; rintro en v3 ⟨s3, A3, n3, c3, B3, m3, d3, t3, C3, i3, e3, D3, j3, f3, p3, rfl, hx3, hy3, hS3, hv3⟩)
    refine wp_gen (fun W => Bl v3 W ∧ ∃ g, Blk W g 28 #[.bool s3, .slice A3 n3 c3, .slice B3 m3 d3, .bool t3, .slice C3 i3 e3, .slice D3 j3 f3] ∧ g = v3.heap.size) ⟨slc, _, by exact bts, rfl⟩ ?_
    rintro Wc ⟨hBc, gc, hgc, hge⟩
    rw [← hge]
    clear hge
    have hb := hv3.next hBc
    have hw3 := hw2.next hb
    have hx1 := hx1.bl hb
    have hy1 := hy1.bl hb
    have hga := hga.bl hb
    have hx2 := hx2.bl hb
    have hy2 := hy2.bl hb
    have hgb := hgb.bl hb
    have hx3 := hx3.bl hBc
    have hy3 := hy3.bl hBc
    clear hb
    have hE := Lib.hid (ps_ok hS1 hS2 hS3)
    have hE9 := Lib.hid hE.out.2.2.2.2.2.2.2.2
    obtain ⟨hpt, hqp⟩ := ptx_back hE.out.1
    have hpv : Hid (ptV (bl (sb (ptx p1))) = p1) := Lib.hid (by rw [bl_sb]; unfold ptV; rw [if_pos hpt]; exact hqp)
    have hpb : ptB (bl (sb (ptx p1))) = true := by rw [bl_sb]; exact ptB_yes hpt
    have hpl : (sb (ptx p1)).size ≤ 1048576 := by rw [sb_size]; have := ptx_len hE.out.1; omega
    clear hpt hqp hS1 hS2 hS3
    obtain ⟨x0, x1, x2, x3, x4, x5⟩ := bx6 hga
    go_upto_region 7 with (first | (go_at_call 12; refine (FormatPoint_yes _ hx1 hy1 hE.out.1 (hEn.out.bl hw3)).mono ?_; rintro en v4 ⟨rfl, hv4⟩) | (go_at_call 7; refine (ParsePoint_one v4 (sb (ptx p1)) hpl (hEn.out.bl (hw3.next hv4))).mono ?_; rw [hpb]; rintro en v5 ⟨s4, A4, n4, c4, B4, m4, d4, t4, C4, i4, e4, D4, j4, f4, rfl, hO4, hv5⟩))
    refine wp_gen (fun W => Bl v5 W ∧ ∃ g, Blk W g 28 #[.bool s4, .slice A4 n4 c4, .slice B4 m4 d4, .bool t4, .slice C4 i4 e4, .slice D4 j4 f4] ∧ g = v5.heap.size) ⟨slc, _, by exact bts, rfl⟩ ?_
    rintro Wx ⟨hBx, gx, hgx, hge⟩
    rw [← hge]
    clear hge
    have hb := (hv4.next hv5).next hBx
    have hw4 := hw3.next hb
    clear x0 x1 x2 x3 x4 x5
    have hx1 := hx1.bl hb
    have hy1 := hy1.bl hb
    have hga := hga.bl hb
    have hx2 := hx2.bl hb
    have hy2 := hy2.bl hb
    have hgb := hgb.bl hb
    have hx3 := hx3.bl hb
    have hy3 := hy3.bl hb
    have hgc := hgc.bl hb
    have hO4 := hO4.bl hBx
    clear hb
    obtain ⟨x0, x1, x2, x3, x4, x5⟩ := bx6 hga
    obtain ⟨y0, y1, y2, y3, y4, y5⟩ := bx6 hgb
    obtain ⟨z0, z1, z2, z3, z4, z5⟩ := bx6 hgc
    go_upto_region 8 with (go_at_call 13; refine (DoubleArea_any _ hx1 hy1 hx2 hy2 hx3 hy3).mono ?_; rintro en v6 ⟨s5, A5, n5, c5, B5, m5, d5, rfl, hR5, hv6⟩)
    refine wp_gen (fun W => Bl v6 W ∧ ∃ g, Blk W g 26 #[.bool s5, .slice A5 n5 c5, .slice B5 m5 d5] ∧ g = v6.heap.size) ⟨slc, _, by exact bts, rfl⟩ ?_
    rintro Wd ⟨hBd, gd, hgd, hge⟩
    rw [← hge]
    clear hge
    have hb := hv6.next hBd
    have hw5 := hw4.next hb
    clear x0 x1 x2 x3 x4 x5 y0 y1 y2 y3 y4 y5 z0 z1 z2 z3 z4 z5
    have hx1 := hx1.bl hb
    have hy1 := hy1.bl hb
    have hga := hga.bl hb
    have hx2 := hx2.bl hb
    have hy2 := hy2.bl hb
    have hgb := hgb.bl hb
    have hx3 := hx3.bl hb
    have hy3 := hy3.bl hb
    have hgc := hgc.bl hb
    have hO4 := hO4.bl hb
    have hgx := hgx.bl hb
    have hR5 := hR5.rd.bl hBd
    clear hb
    obtain ⟨x0, x1, x2, x3, x4, x5⟩ := bx6 hga
    obtain ⟨y0, y1, y2, y3, y4, y5⟩ := bx6 hgb
    go_upto_region 9 with (go_at_call 14; refine (Middle_any _ hx1 hy1 hx2 hy2).mono ?_; rintro en v7 ⟨s6, A6, n6, c6, B6, m6, d6, t6, C6, i6, e6, D6, j6, f6, rfl, hO6, hv7⟩)
    refine wp_gen (fun W => Bl v7 W ∧ ∃ g, Blk W g 28 #[.bool s6, .slice A6 n6 c6, .slice B6 m6 d6, .bool t6, .slice C6 i6 e6, .slice D6 j6 f6] ∧ g = v7.heap.size) ⟨slc, _, by exact bts, rfl⟩ ?_
    rintro Wm ⟨hBm, gm, hgm, hge⟩
    rw [← hge]
    clear hge
    have hb := hv7.next hBm
    have hw6 := hw5.next hb
    clear x0 x1 x2 x3 x4 x5 y0 y1 y2 y3 y4 y5
    have hx1 := hx1.bl hb
    have hy1 := hy1.bl hb
    have hga := hga.bl hb
    have hx2 := hx2.bl hb
    have hy2 := hy2.bl hb
    have hgb := hgb.bl hb
    have hx3 := hx3.bl hb
    have hy3 := hy3.bl hb
    have hgc := hgc.bl hb
    have hO4 := hO4.bl hb
    have hgx := hgx.bl hb
    have hR5 := hR5.bl hb
    have hgd := hgd.bl hb
    have hO6 := hO6.bl hBm
    clear hb hpl hpb hc hv1 hv2 hv3 hv4 hv5 hv6 hv7 hBa hBb hBc hBx hBd hBm hw1 hw2 hw3 hw4 hw5
    go_wp2_with fail
    dsimp only [List.append]
    go_region_held3 (fun w' => (w'.cell? ⟨ga, 0, none⟩ = some (.bool s1) ∧ w'.cell? ⟨ga, 1, none⟩ = some (.slice A1 n1 c1) ∧ w'.cell? ⟨ga, 2, none⟩ = some (.slice B1 m1 d1) ∧ w'.cell? ⟨ga, 3, none⟩ = some (.bool t1) ∧ w'.cell? ⟨ga, 4, none⟩ = some (.slice C1 i1 e1) ∧ w'.cell? ⟨ga, 5, none⟩ = some (.slice D1 j1 f1)) ∧ (w'.cell? ⟨gb, 0, none⟩ = some (.bool s2) ∧ w'.cell? ⟨gb, 1, none⟩ = some (.slice A2 n2 c2) ∧ w'.cell? ⟨gb, 2, none⟩ = some (.slice B2 m2 d2) ∧ w'.cell? ⟨gb, 3, none⟩ = some (.bool t2) ∧ w'.cell? ⟨gb, 4, none⟩ = some (.slice C2 i2 e2) ∧ w'.cell? ⟨gb, 5, none⟩ = some (.slice D2 j2 f2)) ∧ (w'.cell? ⟨gc, 0, none⟩ = some (.bool s3) ∧ w'.cell? ⟨gc, 1, none⟩ = some (.slice A3 n3 c3) ∧ w'.cell? ⟨gc, 2, none⟩ = some (.slice B3 m3 d3) ∧ w'.cell? ⟨gc, 3, none⟩ = some (.bool t3) ∧ w'.cell? ⟨gc, 4, none⟩ = some (.slice C3 i3 e3) ∧ w'.cell? ⟨gc, 5, none⟩ = some (.slice D3 j3 f3)) ∧ (w'.cell? ⟨gx, 0, none⟩ = some (.bool s4) ∧ w'.cell? ⟨gx, 1, none⟩ = some (.slice A4 n4 c4) ∧ w'.cell? ⟨gx, 2, none⟩ = some (.slice B4 m4 d4) ∧ w'.cell? ⟨gx, 3, none⟩ = some (.bool t4) ∧ w'.cell? ⟨gx, 4, none⟩ = some (.slice C4 i4 e4) ∧ w'.cell? ⟨gx, 5, none⟩ = some (.slice D4 j4 f4)) ∧ (w'.cell? ⟨gd, 0, none⟩ = some (.bool s5) ∧ w'.cell? ⟨gd, 1, none⟩ = some (.slice A5 n5 c5) ∧ w'.cell? ⟨gd, 2, none⟩ = some (.slice B5 m5 d5)) ∧ (w'.cell? ⟨gm, 0, none⟩ = some (.bool s6) ∧ w'.cell? ⟨gm, 1, none⟩ = some (.slice A6 n6 c6) ∧ w'.cell? ⟨gm, 2, none⟩ = some (.slice B6 m6 d6) ∧ w'.cell? ⟨gm, 3, none⟩ = some (.bool t6) ∧ w'.cell? ⟨gm, 4, none⟩ = some (.slice C6 i6 e6) ∧ w'.cell? ⟨gm, 5, none⟩ = some (.slice D6 j6 f6))) (first | exact ⟨bx6 (T := 28) (hga.bl slc), bx6 (T := 28) (hgb.bl slc), bx6 (T := 28) (hgc.bl slc), bx6 (T := 28) (hgx.bl slc), bx3 (T := 26) (hgd.bl slc), bx6 (T := 28) (hgm.bl slc)⟩) (first | (go_at_call 15; (with_reducible refine (SamePoint_any _ (hO4.rx.bl slc) (hO4.ry.bl slc) (hx1.bl slc) (hy1.bl slc)).mono ?_); rw [hpv.out, eqP_self']; rintro e u1 ⟨rfl, hu1⟩) | (go_at_call 13; (with_reducible refine (DoubleArea_any _ (hx2.bl slc) (hy2.bl slc) (hx3.bl slc) (hy3.bl slc) (hx1.bl slc) (hy1.bl slc)).mono ?_); rintro e u2 ⟨s_2, A_2, n_2, c_2, B_2, m_2, d_2, rfl, hR2, hu2⟩) | (go_at_call 16; (with_reducible refine (RatEqual_any _ (hR5.bl slc) (hR2.rd.bl slc)).mono ?_); rw [hE.out.2.1]; rintro e u3 ⟨rfl, hu3⟩) | (go_at_call 17; (with_reducible refine (RatNeg_yes _ (hR5.bl slc) hE9.out).mono ?_); rintro e u4 ⟨s_4, A_4, n_4, c_4, B_4, m_4, d_4, rfl, hR4, hu4⟩) | (go_at_call 13; (with_reducible refine (DoubleArea_any _ (hx2.bl slc) (hy2.bl slc) (hx1.bl slc) (hy1.bl slc) (hx3.bl slc) (hy3.bl slc)).mono ?_); rintro e u5 ⟨s_5, A_5, n_5, c_5, B_5, m_5, d_5, rfl, hR6, hu5⟩) | (go_at_call 16; (with_reducible refine (RatEqual_any _ (hR4.rd.bl slc) (hR6.rd.bl slc)).mono ?_); rw [hE.out.2.2.1]; rintro e u6 ⟨rfl, hu6⟩) | (go_at_call 19; (with_reducible refine (AddPoints_any _ (hx1.bl slc) (hy1.bl slc) (hx2.bl slc) (hy2.bl slc)).mono ?_); rintro e u7 ⟨s_7, A_7, n_7, c_7, B_7, m_7, d_7, t_7, C_7, i_7, e_7, D_7, j_7, f_7, rfl, hO7, hu7⟩) | (go_at_call 18; (with_reducible refine (SubtractPoints_any _ (hO7.rx.bl slc) (hO7.ry.bl slc) (hx2.bl slc) (hy2.bl slc)).mono ?_); rintro e u8 ⟨s_8, A_8, n_8, c_8, B_8, m_8, d_8, t_8, C_8, i_8, e_8, D_8, j_8, f_8, rfl, hO8, hu8⟩) | (go_at_call 15; (with_reducible refine (SamePoint_any _ (hO8.rx.bl slc) (hO8.ry.bl slc) (hx1.bl slc) (hy1.bl slc)).mono ?_); rw [hE.out.2.2.2.1]; rintro e u9 ⟨rfl, hu9⟩) | (go_at_call 13; (with_reducible refine (DoubleArea_any _ (hx1.bl slc) (hy1.bl slc) (hx2.bl slc) (hy2.bl slc) (hO6.rx.bl slc) (hO6.ry.bl slc)).mono ?_); rintro e u10 ⟨s_10, A_10, n_10, c_10, B_10, m_10, d_10, rfl, hR10, hu10⟩) | (go_at_call 20; (with_reducible refine (RatSign_any _ (hR10.rd.bl slc)).mono ?_); rw [hE.out.2.2.2.2.1]; rintro e u11 ⟨rfl, hu11⟩) | (go_at_call 22; (with_reducible refine (RatFromInt_any _ 2 (by omega) (by omega)).mono ?_); rintro e u12 ⟨s_12, A_12, n_12, c_12, B_12, m_12, d_12, rfl, hR12, hu12⟩) | (go_at_call 21; (with_reducible refine (ScalePoint_any _ (hR12.rd.bl slc) (hO6.rx.bl slc) (hO6.ry.bl slc)).mono ?_); rintro e u13 ⟨s_13, A_13, n_13, c_13, B_13, m_13, d_13, t_13, C_13, i_13, e_13, D_13, j_13, f_13, rfl, hO13, hu13⟩) | (go_at_call 15; (with_reducible refine (SamePoint_any _ (hO13.rx.bl slc) (hO13.ry.bl slc) (hO7.rx.bl slc) (hO7.ry.bl slc)).mono ?_); rw [hE.out.2.2.2.2.2.1]; rintro e u15 ⟨rfl, hu15⟩) | (go_at_call 23; (with_reducible refine (Inner_any _ (hx1.bl slc) (hy1.bl slc) (hx2.bl slc) (hy2.bl slc)).mono ?_); rintro e u16 ⟨s_16, A_16, n_16, c_16, B_16, m_16, d_16, rfl, hR16, hu16⟩) | (go_at_call 23; (with_reducible refine (Inner_any _ (hx2.bl slc) (hy2.bl slc) (hx1.bl slc) (hy1.bl slc)).mono ?_); rintro e u17 ⟨s_17, A_17, n_17, c_17, B_17, m_17, d_17, rfl, hR17, hu17⟩) | (go_at_call 16; (with_reducible refine (RatEqual_any _ (hR16.rd.bl slc) (hR17.rd.bl slc)).mono ?_); rw [hE.out.2.2.2.2.2.2.1]; rintro e u18 ⟨rfl, hu18⟩) | (go_at_call 24; (with_reducible refine (Cross_any _ (hx1.bl slc) (hy1.bl slc) (hx1.bl slc) (hy1.bl slc)).mono ?_); rintro e u19 ⟨s_19, A_19, n_19, c_19, B_19, m_19, d_19, rfl, hR19, hu19⟩) | (go_at_call 20; (with_reducible refine (RatSign_any _ (hR19.rd.bl slc)).mono ?_); rw [hE.out.2.2.2.2.2.2.2.1]; rintro e u20 ⟨rfl, hu20⟩))
    have hb8 : Bl Wm u20 := slc
    go_wp2_with fail
    go_ret
    exact ⟨rfl, hw6.next hb8⟩
end

end Go.Proofs.YtjaapemopbbfaaaGreatDoor
