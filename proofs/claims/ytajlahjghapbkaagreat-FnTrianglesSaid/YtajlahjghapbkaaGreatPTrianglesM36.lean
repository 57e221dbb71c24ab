/- Lemmas. -/
import Derived.Test.YtajlahjghapbkaaGreatRows
import Derived.Test.YtajlahjghapbkaaGreatPTrianglesM35
import Derived.Lib.MinMax
import Derived.Test.YtajlahjghapbkaaGreatPTrianglesM31
import Derived.Test.YtajlahjghapbkaaGreatPTrianglesM33
import Derived.Test.YtajlahjghapbkaaGreatPTrianglesM19
namespace Go.Proofs.YtajlahjghapbkaaGreat
section
open Go.RowKit

noncomputable def sideTo (p0 p1 p2 q : PtD) : Nat → Int
  | 0 => 1
  | k + 1 => min (sideTo p0 p1 p2 q k) (sgnR (repA p0 p1 p2 q k))
set_option maxRecDepth 100000 in
set_option maxHeartbeats 4000000 in
theorem sideOf_any (w : World) {g c0 : Nat} {p0 p1 p2 : PtD} (h : RdPS w (some ⟨g, 0, none⟩) 3 c0 [p0, p1, p2]) {s3 : Bool} {A3 : Option Addr} {n3 c3 : Nat} {B3 : Option Addr} {m3 d3 : Nat} {t3 : Bool} {C3 : Option Addr} {i3 e3 : Nat} {D3 : Option Addr} {j3 f3 : Nat} {q : PtD} (hqx : RdR w s3 A3 n3 c3 B3 m3 d3 q.x) (hqy : RdR w t3 C3 i3 e3 D3 j3 f3 q.y) :
    Calls Tryz.prog 84 #[.slice (some ⟨g, 0, none⟩) 3 c0, .agg #[.bool s3, .slice A3 n3 c3, .slice B3 m3 d3, .bool t3, .slice C3 i3 e3, .slice D3 j3 f3]] w fun e w' => e = .returned (.int .i64 (sideTo p0 p1 p2 q 3)) ∧ Bl w w' := by
  go_enter Tryz.func84, Tryz.ntmps84
  go_wp2_with fail
  refine wp_gen (fun W => Bl w W ∧ Blk W w.heap.size 31 #[.bool s3, .slice A3 n3 c3, .slice B3 m3 d3, .bool t3, .slice C3 i3 e3, .slice D3 j3 f3]) ⟨slc, bts⟩ ?_
  rintro W ⟨hbB, hBq⟩
  go_wp2_with fail
  go_loopw [5, 10] (fun v i wr => ∃ (k : Nat), k ≤ 3 ∧ i = .int .i64 (k : Int) ∧ v = .int .i64 (sideTo p0 p1 p2 q k) ∧ Bl W wr) (fun _ i _ => 3 - (intOf i).toNat)
  case atStart => exact ⟨0, by omega, rfl, rfl, Bl.refl _⟩
  case round =>
    obtain ⟨k, hk, rfl, rfl, hbw⟩ := hrel
    rcases (show k = 0 ∨ k = 1 ∨ k = 2 ∨ k = 3 by omega) with rfl | rfl | rfl | rfl
    · skip
      have e0 : ((0 : Nat) : Int) = 0 := rfl
      rw [e0]
      clear e0 hk
      obtain ⟨wo, rfl⟩ : ∃ wo : World, wo = wr := ⟨_, rfl⟩
      have hBo := hBq.bl hbw
      obtain ⟨r0, r1, r2, r3, r4, r5⟩ := bx6 hBo
      go_wp2_with fail
      refine (replaced0_any _ (RdPS.bl h (hbB.next hbw)) (hqx.bl (hbB.next hbw)) (hqy.bl (hbB.next hbw))).mono ?_
      rintro e wp ⟨gm, cm, rfl, hm, hgm0, hb8⟩
      obtain ⟨_, e0, hgm, hcc⟩ := hm.cells 0 (by omega)
      cases e0
      rw [Addr.add_lit] at hcc
      obtain ⟨s4, A4, n4, c4, B4, m4, d4, t4, C4, i4, e4, D4, j4, f4, ⟨xa0, xa1, xa2, xa3, xa4, xa5⟩, hXm0, hYm0⟩ := (show PtAt wp ⟨gm, 0, none⟩ q from hcc)
      clear hcc
      have xa0 : wp.cell? ⟨gm, 0, none⟩ = some (.bool s4) := xa0
      have xa1 : wp.cell? ⟨gm, 1, none⟩ = some (.slice A4 n4 c4) := xa1
      have xa2 : wp.cell? ⟨gm, 2, none⟩ = some (.slice B4 m4 d4) := xa2
      have xa3 : wp.cell? ⟨gm, 3, none⟩ = some (.bool t4) := xa3
      have xa4 : wp.cell? ⟨gm, 4, none⟩ = some (.slice C4 i4 e4) := xa4
      have xa5 : wp.cell? ⟨gm, 5, none⟩ = some (.slice D4 j4 f4) := xa5
      obtain ⟨_, e0, hgm, hcc⟩ := hm.cells 1 (by omega)
      cases e0
      rw [Addr.add_lit] at hcc
      obtain ⟨s5, A5, n5, c5, B5, m5, d5, t5, C5, i5, e5, D5, j5, f5, ⟨xb0, xb1, xb2, xb3, xb4, xb5⟩, hXm1, hYm1⟩ := (show PtAt wp ⟨gm, 6, none⟩ p1 from hcc)
      clear hcc
      have xb0 : wp.cell? ⟨gm, 6, none⟩ = some (.bool s5) := xb0
      have xb1 : wp.cell? ⟨gm, 7, none⟩ = some (.slice A5 n5 c5) := xb1
      have xb2 : wp.cell? ⟨gm, 8, none⟩ = some (.slice B5 m5 d5) := xb2
      have xb3 : wp.cell? ⟨gm, 9, none⟩ = some (.bool t5) := xb3
      have xb4 : wp.cell? ⟨gm, 10, none⟩ = some (.slice C5 i5 e5) := xb4
      have xb5 : wp.cell? ⟨gm, 11, none⟩ = some (.slice D5 j5 f5) := xb5
      obtain ⟨_, e0, hgm, hcc⟩ := hm.cells 2 (by omega)
      cases e0
      rw [Addr.add_lit] at hcc
      obtain ⟨s6, A6, n6, c6, B6, m6, d6, t6, C6, i6, e6, D6, j6, f6, ⟨xe0, xe1, xe2, xe3, xe4, xe5⟩, hXm2, hYm2⟩ := (show PtAt wp ⟨gm, 12, none⟩ p2 from hcc)
      clear hcc
      have xe0 : wp.cell? ⟨gm, 12, none⟩ = some (.bool s6) := xe0
      have xe1 : wp.cell? ⟨gm, 13, none⟩ = some (.slice A6 n6 c6) := xe1
      have xe2 : wp.cell? ⟨gm, 14, none⟩ = some (.slice B6 m6 d6) := xe2
      have xe3 : wp.cell? ⟨gm, 15, none⟩ = some (.bool t6) := xe3
      have xe4 : wp.cell? ⟨gm, 16, none⟩ = some (.slice C6 i6 e6) := xe4
      have xe5 : wp.cell? ⟨gm, 17, none⟩ = some (.slice D6 j6 f6) := xe5
      clear r0 r1 r2 r3 r4 r5 hBo
      have hb9 := hbw.next hb8
      go_wp2_with fail
      go_region_held3 (fun w' => (w'.cell? ⟨gm, 0, none⟩ = some (.bool s4) ∧ w'.cell? ⟨gm, 1, none⟩ = some (.slice A4 n4 c4) ∧ w'.cell? ⟨gm, 2, none⟩ = some (.slice B4 m4 d4) ∧ w'.cell? ⟨gm, 3, none⟩ = some (.bool t4) ∧ w'.cell? ⟨gm, 4, none⟩ = some (.slice C4 i4 e4) ∧ w'.cell? ⟨gm, 5, none⟩ = some (.slice D4 j4 f4)) ∧ (w'.cell? ⟨gm, 6, none⟩ = some (.bool s5) ∧ w'.cell? ⟨gm, 7, none⟩ = some (.slice A5 n5 c5) ∧ w'.cell? ⟨gm, 8, none⟩ = some (.slice B5 m5 d5) ∧ w'.cell? ⟨gm, 9, none⟩ = some (.bool t5) ∧ w'.cell? ⟨gm, 10, none⟩ = some (.slice C5 i5 e5) ∧ w'.cell? ⟨gm, 11, none⟩ = some (.slice D5 j5 f5)) ∧ (w'.cell? ⟨gm, 12, none⟩ = some (.bool s6) ∧ w'.cell? ⟨gm, 13, none⟩ = some (.slice A6 n6 c6) ∧ w'.cell? ⟨gm, 14, none⟩ = some (.slice B6 m6 d6) ∧ w'.cell? ⟨gm, 15, none⟩ = some (.bool t6) ∧ w'.cell? ⟨gm, 16, none⟩ = some (.slice C6 i6 e6) ∧ w'.cell? ⟨gm, 17, none⟩ = some (.slice D6 j6 f6))) (first | exact ⟨⟨(Bl.cellOf (w := wp) (p := ⟨gm, 0, none⟩) slc hgm).trans xa0, (Bl.cellOf (w := wp) (p := ⟨gm, 1, none⟩) slc hgm).trans xa1, (Bl.cellOf (w := wp) (p := ⟨gm, 2, none⟩) slc hgm).trans xa2, (Bl.cellOf (w := wp) (p := ⟨gm, 3, none⟩) slc hgm).trans xa3, (Bl.cellOf (w := wp) (p := ⟨gm, 4, none⟩) slc hgm).trans xa4, (Bl.cellOf (w := wp) (p := ⟨gm, 5, none⟩) slc hgm).trans xa5⟩, ⟨(Bl.cellOf (w := wp) (p := ⟨gm, 6, none⟩) slc hgm).trans xb0, (Bl.cellOf (w := wp) (p := ⟨gm, 7, none⟩) slc hgm).trans xb1, (Bl.cellOf (w := wp) (p := ⟨gm, 8, none⟩) slc hgm).trans xb2, (Bl.cellOf (w := wp) (p := ⟨gm, 9, none⟩) slc hgm).trans xb3, (Bl.cellOf (w := wp) (p := ⟨gm, 10, none⟩) slc hgm).trans xb4, (Bl.cellOf (w := wp) (p := ⟨gm, 11, none⟩) slc hgm).trans xb5⟩, ⟨(Bl.cellOf (w := wp) (p := ⟨gm, 12, none⟩) slc hgm).trans xe0, (Bl.cellOf (w := wp) (p := ⟨gm, 13, none⟩) slc hgm).trans xe1, (Bl.cellOf (w := wp) (p := ⟨gm, 14, none⟩) slc hgm).trans xe2, (Bl.cellOf (w := wp) (p := ⟨gm, 15, none⟩) slc hgm).trans xe3, (Bl.cellOf (w := wp) (p := ⟨gm, 16, none⟩) slc hgm).trans xe4, (Bl.cellOf (w := wp) (p := ⟨gm, 17, none⟩) slc hgm).trans xe5⟩⟩) (first | (go_at_call 73; (with_reducible refine (DoubleArea_any _ (hXm0.bl slc) (hYm0.bl slc) (hXm1.bl slc) (hYm1.bl slc) (hXm2.bl slc) (hYm2.bl slc)).mono ?_); rintro en w2 ⟨s2_, A2_, n2_, c2_, B2_, m2_, d2_, rfl, hR2, hb2⟩) | (go_at_call 53; (with_reducible refine (RatSign_any _ (hR2.rd.bl slc)).mono ?_); rintro en w3 ⟨rfl, hb3⟩))
      have hb10 : Bl wp w3 := slc
      go_wp2_with fail
      go_roundw
      case rel => exact ⟨1, by omega, rfl, rfl, hb9.next (by exact slc)⟩
      case measure => simp [intOf]
    · skip
      have e0 : ((1 : Nat) : Int) = 1 := rfl
      rw [e0]
      clear e0 hk
      obtain ⟨wo, rfl⟩ : ∃ wo : World, wo = wr := ⟨_, rfl⟩
      have hBo := hBq.bl hbw
      obtain ⟨r0, r1, r2, r3, r4, r5⟩ := bx6 hBo
      go_wp2_with fail
      refine (replaced1_any _ (RdPS.bl h (hbB.next hbw)) (hqx.bl (hbB.next hbw)) (hqy.bl (hbB.next hbw))).mono ?_
      rintro e wp ⟨gm, cm, rfl, hm, hgm0, hb8⟩
      obtain ⟨_, e0, hgm, hcc⟩ := hm.cells 0 (by omega)
      cases e0
      rw [Addr.add_lit] at hcc
      obtain ⟨s4, A4, n4, c4, B4, m4, d4, t4, C4, i4, e4, D4, j4, f4, ⟨xa0, xa1, xa2, xa3, xa4, xa5⟩, hXm0, hYm0⟩ := (show PtAt wp ⟨gm, 0, none⟩ p0 from hcc)
      clear hcc
      have xa0 : wp.cell? ⟨gm, 0, none⟩ = some (.bool s4) := xa0
      have xa1 : wp.cell? ⟨gm, 1, none⟩ = some (.slice A4 n4 c4) := xa1
      have xa2 : wp.cell? ⟨gm, 2, none⟩ = some (.slice B4 m4 d4) := xa2
      have xa3 : wp.cell? ⟨gm, 3, none⟩ = some (.bool t4) := xa3
      have xa4 : wp.cell? ⟨gm, 4, none⟩ = some (.slice C4 i4 e4) := xa4
      have xa5 : wp.cell? ⟨gm, 5, none⟩ = some (.slice D4 j4 f4) := xa5
      obtain ⟨_, e0, hgm, hcc⟩ := hm.cells 1 (by omega)
      cases e0
      rw [Addr.add_lit] at hcc
      obtain ⟨s5, A5, n5, c5, B5, m5, d5, t5, C5, i5, e5, D5, j5, f5, ⟨xb0, xb1, xb2, xb3, xb4, xb5⟩, hXm1, hYm1⟩ := (show PtAt wp ⟨gm, 6, none⟩ q from hcc)
      clear hcc
      have xb0 : wp.cell? ⟨gm, 6, none⟩ = some (.bool s5) := xb0
      have xb1 : wp.cell? ⟨gm, 7, none⟩ = some (.slice A5 n5 c5) := xb1
      have xb2 : wp.cell? ⟨gm, 8, none⟩ = some (.slice B5 m5 d5) := xb2
      have xb3 : wp.cell? ⟨gm, 9, none⟩ = some (.bool t5) := xb3
      have xb4 : wp.cell? ⟨gm, 10, none⟩ = some (.slice C5 i5 e5) := xb4
      have xb5 : wp.cell? ⟨gm, 11, none⟩ = some (.slice D5 j5 f5) := xb5
      obtain ⟨_, e0, hgm, hcc⟩ := hm.cells 2 (by omega)
      cases e0
      rw [Addr.add_lit] at hcc
      obtain ⟨s6, A6, n6, c6, B6, m6, d6, t6, C6, i6, e6, D6, j6, f6, ⟨xe0, xe1, xe2, xe3, xe4, xe5⟩, hXm2, hYm2⟩ := (show PtAt wp ⟨gm, 12, none⟩ p2 from hcc)
      clear hcc
      have xe0 : wp.cell? ⟨gm, 12, none⟩ = some (.bool s6) := xe0
      have xe1 : wp.cell? ⟨gm, 13, none⟩ = some (.slice A6 n6 c6) := xe1
      have xe2 : wp.cell? ⟨gm, 14, none⟩ = some (.slice B6 m6 d6) := xe2
      have xe3 : wp.cell? ⟨gm, 15, none⟩ = some (.bool t6) := xe3
      have xe4 : wp.cell? ⟨gm, 16, none⟩ = some (.slice C6 i6 e6) := xe4
      have xe5 : wp.cell? ⟨gm, 17, none⟩ = some (.slice D6 j6 f6) := xe5
      clear r0 r1 r2 r3 r4 r5 hBo
      have hb9 := hbw.next hb8
      go_wp2_with fail
      go_region_held3 (fun w' => (w'.cell? ⟨gm, 0, none⟩ = some (.bool s4) ∧ w'.cell? ⟨gm, 1, none⟩ = some (.slice A4 n4 c4) ∧ w'.cell? ⟨gm, 2, none⟩ = some (.slice B4 m4 d4) ∧ w'.cell? ⟨gm, 3, none⟩ = some (.bool t4) ∧ w'.cell? ⟨gm, 4, none⟩ = some (.slice C4 i4 e4) ∧ w'.cell? ⟨gm, 5, none⟩ = some (.slice D4 j4 f4)) ∧ (w'.cell? ⟨gm, 6, none⟩ = some (.bool s5) ∧ w'.cell? ⟨gm, 7, none⟩ = some (.slice A5 n5 c5) ∧ w'.cell? ⟨gm, 8, none⟩ = some (.slice B5 m5 d5) ∧ w'.cell? ⟨gm, 9, none⟩ = some (.bool t5) ∧ w'.cell? ⟨gm, 10, none⟩ = some (.slice C5 i5 e5) ∧ w'.cell? ⟨gm, 11, none⟩ = some (.slice D5 j5 f5)) ∧ (w'.cell? ⟨gm, 12, none⟩ = some (.bool s6) ∧ w'.cell? ⟨gm, 13, none⟩ = some (.slice A6 n6 c6) ∧ w'.cell? ⟨gm, 14, none⟩ = some (.slice B6 m6 d6) ∧ w'.cell? ⟨gm, 15, none⟩ = some (.bool t6) ∧ w'.cell? ⟨gm, 16, none⟩ = some (.slice C6 i6 e6) ∧ w'.cell? ⟨gm, 17, none⟩ = some (.slice D6 j6 f6))) (first | exact ⟨⟨(Bl.cellOf (w := wp) (p := ⟨gm, 0, none⟩) slc hgm).trans xa0, (Bl.cellOf (w := wp) (p := ⟨gm, 1, none⟩) slc hgm).trans xa1, (Bl.cellOf (w := wp) (p := ⟨gm, 2, none⟩) slc hgm).trans xa2, (Bl.cellOf (w := wp) (p := ⟨gm, 3, none⟩) slc hgm).trans xa3, (Bl.cellOf (w := wp) (p := ⟨gm, 4, none⟩) slc hgm).trans xa4, (Bl.cellOf (w := wp) (p := ⟨gm, 5, none⟩) slc hgm).trans xa5⟩, ⟨(Bl.cellOf (w := wp) (p := ⟨gm, 6, none⟩) slc hgm).trans xb0, (Bl.cellOf (w := wp) (p := ⟨gm, 7, none⟩) slc hgm).trans xb1, (Bl.cellOf (w := wp) (p := ⟨gm, 8, none⟩) slc hgm).trans xb2, (Bl.cellOf (w := wp) (p := ⟨gm, 9, none⟩) slc hgm).trans xb3, (Bl.cellOf (w := wp) (p := ⟨gm, 10, none⟩) slc hgm).trans xb4, (Bl.cellOf (w := wp) (p := ⟨gm, 11, none⟩) slc hgm).trans xb5⟩, ⟨(Bl.cellOf (w := wp) (p := ⟨gm, 12, none⟩) slc hgm).trans xe0, (Bl.cellOf (w := wp) (p := ⟨gm, 13, none⟩) slc hgm).trans xe1, (Bl.cellOf (w := wp) (p := ⟨gm, 14, none⟩) slc hgm).trans xe2, (Bl.cellOf (w := wp) (p := ⟨gm, 15, none⟩) slc hgm).trans xe3, (Bl.cellOf (w := wp) (p := ⟨gm, 16, none⟩) slc hgm).trans xe4, (Bl.cellOf (w := wp) (p := ⟨gm, 17, none⟩) slc hgm).trans xe5⟩⟩) (first | (go_at_call 73; (with_reducible refine (DoubleArea_any _ (hXm0.bl slc) (hYm0.bl slc) (hXm1.bl slc) (hYm1.bl slc) (hXm2.bl slc) (hYm2.bl slc)).mono ?_); rintro en w2 ⟨s2_, A2_, n2_, c2_, B2_, m2_, d2_, rfl, hR2, hb2⟩) | (go_at_call 53; (with_reducible refine (RatSign_any _ (hR2.rd.bl slc)).mono ?_); rintro en w3 ⟨rfl, hb3⟩))
      have hb10 : Bl wp w3 := slc
      go_wp2_with fail
      go_roundw
      case rel => exact ⟨2, by omega, rfl, rfl, hb9.next (by exact slc)⟩
      case measure => simp [intOf]
    · skip
      have e0 : ((2 : Nat) : Int) = 2 := rfl
      rw [e0]
      clear e0 hk
      obtain ⟨wo, rfl⟩ : ∃ wo : World, wo = wr := ⟨_, rfl⟩
      have hBo := hBq.bl hbw
      obtain ⟨r0, r1, r2, r3, r4, r5⟩ := bx6 hBo
      go_wp2_with fail
      refine (replaced2_any _ (RdPS.bl h (hbB.next hbw)) (hqx.bl (hbB.next hbw)) (hqy.bl (hbB.next hbw))).mono ?_
      rintro e wp ⟨gm, cm, rfl, hm, hgm0, hb8⟩
      obtain ⟨_, e0, hgm, hcc⟩ := hm.cells 0 (by omega)
      cases e0
      rw [Addr.add_lit] at hcc
      obtain ⟨s4, A4, n4, c4, B4, m4, d4, t4, C4, i4, e4, D4, j4, f4, ⟨xa0, xa1, xa2, xa3, xa4, xa5⟩, hXm0, hYm0⟩ := (show PtAt wp ⟨gm, 0, none⟩ p0 from hcc)
      clear hcc
      have xa0 : wp.cell? ⟨gm, 0, none⟩ = some (.bool s4) := xa0
      have xa1 : wp.cell? ⟨gm, 1, none⟩ = some (.slice A4 n4 c4) := xa1
      have xa2 : wp.cell? ⟨gm, 2, none⟩ = some (.slice B4 m4 d4) := xa2
      have xa3 : wp.cell? ⟨gm, 3, none⟩ = some (.bool t4) := xa3
      have xa4 : wp.cell? ⟨gm, 4, none⟩ = some (.slice C4 i4 e4) := xa4
      have xa5 : wp.cell? ⟨gm, 5, none⟩ = some (.slice D4 j4 f4) := xa5
      obtain ⟨_, e0, hgm, hcc⟩ := hm.cells 1 (by omega)
      cases e0
      rw [Addr.add_lit] at hcc
      obtain ⟨s5, A5, n5, c5, B5, m5, d5, t5, C5, i5, e5, D5, j5, f5, ⟨xb0, xb1, xb2, xb3, xb4, xb5⟩, hXm1, hYm1⟩ := (show PtAt wp ⟨gm, 6, none⟩ p1 from hcc)
      clear hcc
      have xb0 : wp.cell? ⟨gm, 6, none⟩ = some (.bool s5) := xb0
      have xb1 : wp.cell? ⟨gm, 7, none⟩ = some (.slice A5 n5 c5) := xb1
      have xb2 : wp.cell? ⟨gm, 8, none⟩ = some (.slice B5 m5 d5) := xb2
      have xb3 : wp.cell? ⟨gm, 9, none⟩ = some (.bool t5) := xb3
      have xb4 : wp.cell? ⟨gm, 10, none⟩ = some (.slice C5 i5 e5) := xb4
      have xb5 : wp.cell? ⟨gm, 11, none⟩ = some (.slice D5 j5 f5) := xb5
      obtain ⟨_, e0, hgm, hcc⟩ := hm.cells 2 (by omega)
      cases e0
      rw [Addr.add_lit] at hcc
      obtain ⟨s6, A6, n6, c6, B6, m6, d6, t6, C6, i6, e6, D6, j6, f6, ⟨xe0, xe1, xe2, xe3, xe4, xe5⟩, hXm2, hYm2⟩ := (show PtAt wp ⟨gm, 12, none⟩ q from hcc)
      clear hcc
      have xe0 : wp.cell? ⟨gm, 12, none⟩ = some (.bool s6) := xe0
      have xe1 : wp.cell? ⟨gm, 13, none⟩ = some (.slice A6 n6 c6) := xe1
      have xe2 : wp.cell? ⟨gm, 14, none⟩ = some (.slice B6 m6 d6) := xe2
      have xe3 : wp.cell? ⟨gm, 15, none⟩ = some (.bool t6) := xe3
      have xe4 : wp.cell? ⟨gm, 16, none⟩ = some (.slice C6 i6 e6) := xe4
      have xe5 : wp.cell? ⟨gm, 17, none⟩ = some (.slice D6 j6 f6) := xe5
      clear r0 r1 r2 r3 r4 r5 hBo
      have hb9 := hbw.next hb8
      go_wp2_with fail
      go_region_held3 (fun w' => (w'.cell? ⟨gm, 0, none⟩ = some (.bool s4) ∧ w'.cell? ⟨gm, 1, none⟩ = some (.slice A4 n4 c4) ∧ w'.cell? ⟨gm, 2, none⟩ = some (.slice B4 m4 d4) ∧ w'.cell? ⟨gm, 3, none⟩ = some (.bool t4) ∧ w'.cell? ⟨gm, 4, none⟩ = some (.slice C4 i4 e4) ∧ w'.cell? ⟨gm, 5, none⟩ = some (.slice D4 j4 f4)) ∧ (w'.cell? ⟨gm, 6, none⟩ = some (.bool s5) ∧ w'.cell? ⟨gm, 7, none⟩ = some (.slice A5 n5 c5) ∧ w'.cell? ⟨gm, 8, none⟩ = some (.slice B5 m5 d5) ∧ w'.cell? ⟨gm, 9, none⟩ = some (.bool t5) ∧ w'.cell? ⟨gm, 10, none⟩ = some (.slice C5 i5 e5) ∧ w'.cell? ⟨gm, 11, none⟩ = some (.slice D5 j5 f5)) ∧ (w'.cell? ⟨gm, 12, none⟩ = some (.bool s6) ∧ w'.cell? ⟨gm, 13, none⟩ = some (.slice A6 n6 c6) ∧ w'.cell? ⟨gm, 14, none⟩ = some (.slice B6 m6 d6) ∧ w'.cell? ⟨gm, 15, none⟩ = some (.bool t6) ∧ w'.cell? ⟨gm, 16, none⟩ = some (.slice C6 i6 e6) ∧ w'.cell? ⟨gm, 17, none⟩ = some (.slice D6 j6 f6))) (first | exact ⟨⟨(Bl.cellOf (w := wp) (p := ⟨gm, 0, none⟩) slc hgm).trans xa0, (Bl.cellOf (w := wp) (p := ⟨gm, 1, none⟩) slc hgm).trans xa1, (Bl.cellOf (w := wp) (p := ⟨gm, 2, none⟩) slc hgm).trans xa2, (Bl.cellOf (w := wp) (p := ⟨gm, 3, none⟩) slc hgm).trans xa3, (Bl.cellOf (w := wp) (p := ⟨gm, 4, none⟩) slc hgm).trans xa4, (Bl.cellOf (w := wp) (p := ⟨gm, 5, none⟩) slc hgm).trans xa5⟩, ⟨(Bl.cellOf (w := wp) (p := ⟨gm, 6, none⟩) slc hgm).trans xb0, (Bl.cellOf (w := wp) (p := ⟨gm, 7, none⟩) slc hgm).trans xb1, (Bl.cellOf (w := wp) (p := ⟨gm, 8, none⟩) slc hgm).trans xb2, (Bl.cellOf (w := wp) (p := ⟨gm, 9, none⟩) slc hgm).trans xb3, (Bl.cellOf (w := wp) (p := ⟨gm, 10, none⟩) slc hgm).trans xb4, (Bl.cellOf (w := wp) (p := ⟨gm, 11, none⟩) slc hgm).trans xb5⟩, ⟨(Bl.cellOf (w := wp) (p := ⟨gm, 12, none⟩) slc hgm).trans xe0, (Bl.cellOf (w := wp) (p := ⟨gm, 13, none⟩) slc hgm).trans xe1, (Bl.cellOf (w := wp) (p := ⟨gm, 14, none⟩) slc hgm).trans xe2, (Bl.cellOf (w := wp) (p := ⟨gm, 15, none⟩) slc hgm).trans xe3, (Bl.cellOf (w := wp) (p := ⟨gm, 16, none⟩) slc hgm).trans xe4, (Bl.cellOf (w := wp) (p := ⟨gm, 17, none⟩) slc hgm).trans xe5⟩⟩) (first | (go_at_call 73; (with_reducible refine (DoubleArea_any _ (hXm0.bl slc) (hYm0.bl slc) (hXm1.bl slc) (hYm1.bl slc) (hXm2.bl slc) (hYm2.bl slc)).mono ?_); rintro en w2 ⟨s2_, A2_, n2_, c2_, B2_, m2_, d2_, rfl, hR2, hb2⟩) | (go_at_call 53; (with_reducible refine (RatSign_any _ (hR2.rd.bl slc)).mono ?_); rintro en w3 ⟨rfl, hb3⟩))
      have hb10 : Bl wp w3 := slc
      go_wp2_with fail
      go_roundw
      case rel => exact ⟨3, by omega, rfl, rfl, hb9.next (by exact slc)⟩
      case measure => simp [intOf]
    · skip
      have e0 : ((3 : Nat) : Int) = 3 := rfl
      rw [e0]
      clear e0 hk
      go_wp2_with fail
      go_ret
      exact ⟨rfl, hbB.next hbw⟩

set_option maxRecDepth 100000 in
set_option maxHeartbeats 4000000 in
theorem SideOf_yes (w : World) {g c0 : Nat} {p0 p1 p2 : PtD} (h : RdPS w (some ⟨g, 0, none⟩) 3 c0 [p0, p1, p2]) (hp : Hid (propB [p0, p1, p2] = true)) {s3 : Bool} {A3 : Option Addr} {n3 c3 : Nat} {B3 : Option Addr} {m3 d3 : Nat} {t3 : Bool} {C3 : Option Addr} {i3 e3 : Nat} {D3 : Option Addr} {j3 f3 : Nat} {q : PtD} (hqx : RdR w s3 A3 n3 c3 B3 m3 d3 q.x) (hqy : RdR w t3 C3 i3 e3 D3 j3 f3 q.y) (hqo : Hid (OkP q)) :
    Calls Tryz.prog 24 #[.slice (some ⟨g, 0, none⟩) 3 c0, .agg #[.bool s3, .slice A3 n3 c3, .slice B3 m3 d3, .bool t3, .slice C3 i3 e3, .slice D3 j3 f3]] w fun e w' => e = .returned (.int .i64 (sideTo p0 p1 p2 q 3)) ∧ Bl w w' := by
  go_enter Tryz.func24, Tryz.ntmps24
  go_wp2_with fail
  refine calls_gen (fun W => Bl w W ∧ Blk W w.heap.size 31 #[.bool s3, .slice A3 n3 c3, .slice B3 m3 d3, .bool t3, .slice C3 i3 e3, .slice D3 j3 f3]) ⟨slc, bts⟩ ?_
  rintro W ⟨hbW, hBq⟩
  refine (IsProper_any _ (RdPS.bl h hbW)).mono ?_
  rw [hp.out]
  rintro e w1 ⟨rfl, hb1⟩
  have hBq := hBq.bl hb1
  have hbW := hbW.next hb1
  clear hb1
  obtain ⟨r0, r1, r2, r3, r4, r5⟩ := bx6 hBq
  go_wp2_with fail
  refine (IsValidPoint_yes _ (hqx.bl hbW) (hqy.bl hbW) hqo.out).mono ?_
  rintro e wB ⟨rfl, hb1⟩
  clear r0 r1 r2 r3 r4 r5
  have hBq := hBq.bl hb1
  have hbB := hbW.next hb1
  obtain ⟨r0, r1, r2, r3, r4, r5⟩ := bx6 hBq
  clear hbW hb1
  go_wp2_with fail
  refine (sideOf_any _ (RdPS.bl h hbB) (hqx.bl hbB) (hqy.bl hbB)).mono ?_
  rintro e w2 ⟨rfl, hb2⟩
  go_wp2_with fail
  go_ret
  exact ⟨rfl, hbB.next hb2⟩
end

section
open Go.RowKit

section
variable {x0 y0 x1 y1 x2 y2 u v : Rat}
def repQ (x0 y0 x1 y1 x2 y2 u v : Rat) : Nat → Rat
  | 0 => detQ u v x1 y1 x2 y2
  | 1 => detQ x0 y0 u v x2 y2
  | _ + 2 => detQ x0 y0 x1 y1 u v
theorem repA_b {k : Nat} (a0 : B10 k x0) (b0 : B10 k y0) (a1 : B10 k x1) (b1 : B10 k y1) (a2 : B10 k x2) (b2 : B10 k y2) (hu : B10 k u) (hv : B10 k v) (hk : 8 * k + 5 < 216) (i : Nat) :
    repA (toP x0 y0) (toP x1 y1) (toP x2 y2) (toP u v) i = toR (repQ x0 y0 x1 y1 x2 y2 u v i) ∧ B10 (8 * k + 5) (repQ x0 y0 x1 y1 x2 y2 u v i) := by
  rcases i with _ | _ | i
  · exact dblA_b hu hv a1 b1 a2 b2 hk
  · exact dblA_b a0 b0 hu hv a2 b2 hk
  · exact dblA_b a0 b0 a1 b1 hu hv hk
theorem side_b {k : Nat} (a0 : B10 k x0) (b0 : B10 k y0) (a1 : B10 k x1) (b1 : B10 k y1) (a2 : B10 k x2) (b2 : B10 k y2) (hu : B10 k u) (hv : B10 k v) (hk : 8 * k + 5 < 216) :
    sideTo (toP x0 y0) (toP x1 y1) (toP x2 y2) (toP u v) 3 = min (min (min 1 (sgnR (toR (repQ x0 y0 x1 y1 x2 y2 u v 0)))) (sgnR (toR (repQ x0 y0 x1 y1 x2 y2 u v 1)))) (sgnR (toR (repQ x0 y0 x1 y1 x2 y2 u v 2))) := by
  show min (min (min 1 (sgnR (repA _ _ _ _ 0))) (sgnR (repA _ _ _ _ 1))) (sgnR (repA _ _ _ _ 2)) = _
  rw [(repA_b a0 b0 a1 b1 a2 b2 hu hv hk 0).1, (repA_b a0 b0 a1 b1 a2 b2 hu hv hk 1).1, (repA_b a0 b0 a1 b1 a2 b2 hu hv hk 2).1]
/-- What FnTriangles asks of a corner list and a point. -/
def TrOk (p0 p1 p2 q : PtD) : Prop :=
  (OkP q ∧ BarOk p0 p1 p2 q ∧ gradL [p0, p1, p2] = gradTo p0 p1 p2 3) ∧
  addP (addP (addP ⟨ofFrac 0 1, ofFrac 0 1⟩ (sclP (bar3 p0 p1 p2 q 0) p0)) (sclP (bar3 p0 p1 p2 q 1) p1)) (sclP (bar3 p0 p1 p2 q 2) p2) = q ∧
  addP (addP (addP ⟨ofFrac 0 1, ofFrac 0 1⟩ (grad3 p0 p1 p2 0)) (grad3 p0 p1 p2 1)) (grad3 p0 p1 p2 2) = ⟨ofFrac 0 1, ofFrac 0 1⟩ ∧
  addR (bar3 p0 p1 p2 q 0) (addR (bar3 p0 p1 p2 q 1) (bar3 p0 p1 p2 q 2)) = ofFrac 1 1 ∧
  (OkP (cenP p0 p1 p2) ∧ sideTo p0 p1 p2 (cenP p0 p1 p2) 3 = 1) ∧ (OkP (midP p0 p1) ∧ sideTo p0 p1 p2 (midP p0 p1) 3 = 0) ∧ OkP p2 ∧ sideTo p0 p1 p2 p2 3 = 0
theorem B10.pt (h : Bd 17 u) : B10 2 u := B10.of h (by decide)
theorem tr_ok (h : Sm6 x0 y0 x1 y1 x2 y2) (hu : Bd 17 u) (hv : Bd 17 v) (hp : propB [toP x0 y0, toP x1 y1, toP x2 y2] = true) : TrOk (toP x0 y0) (toP x1 y1) (toP x2 y2) (toP u v) := by
  have hd := det_pos h hp
  have hgo := gradOk_toP h hd 3
  have hg := fun i => grad3_toP h hd i
  have hgX := fun i => B10.of (k := 15) (gX_bd h i) (by decide)
  have hgY := fun i => B10.of (k := 15) (gY_bd h i) (by decide)
  obtain ⟨a0, b0, a1, b1, a2, b2⟩ := h
  have a0 := B10.pt a0
  have b0 := B10.pt b0
  have a1 := B10.pt a1
  have b1 := B10.pt b1
  have a2 := B10.pt a2
  have b2 := B10.pt b2
  have hu := B10.pt hu
  have hv := B10.pt hv
  obtain ⟨ed, hD⟩ := dblA_b a0 b0 a1 b1 a2 b2 (by omega)
  have h0 : detQ x0 y0 x1 y1 x2 y2 ≠ 0 := by grind
  have hrep := repA_b a0 b0 a1 b1 a2 b2 hu hv (by omega)
  have hbar : ∀ i, bar3 (toP x0 y0) (toP x1 y1) (toP x2 y2) (toP u v) i = toR (repQ x0 y0 x1 y1 x2 y2 u v i / detQ x0 y0 x1 y1 x2 y2) ∧ B10 42 (repQ x0 y0 x1 y1 x2 y2 u v i / detQ x0 y0 x1 y1 x2 y2) := by
    intro i
    obtain ⟨e, hb⟩ := hrep i
    refine ⟨?_, hb.div hD⟩
    unfold bar3
    rw [ed, e]
    exact divR_b hb hD h0 (by omega)
  obtain ⟨ez, hz⟩ := int_b (k := 0) 0 (by decide) (by omega)
  obtain ⟨eo, ho⟩ := int_b (k := 0) 1 (by decide) (by omega)
  have ez : ofFrac 0 1 = toR 0 := ez
  have eo : ofFrac 1 1 = toR 1 := eo
  have hz : B10 0 (0 : Rat) := hz
  have eZ : (⟨ofFrac 0 1, ofFrac 0 1⟩ : PtD) = toP 0 0 := by rw [ez]; rfl
  obtain ⟨eb0, hb0⟩ := hbar 0
  obtain ⟨eb1, hb1⟩ := hbar 1
  obtain ⟨eb2, hb2⟩ := hbar 2
  obtain ⟨e3, h3⟩ := frac_b (k := 1) 1 3 (by omega) (by decide) (by decide) (by omega)
  obtain ⟨e2, h2⟩ := frac_b (k := 1) 1 2 (by omega) (by decide) (by decide) (by omega)
  have k3 : mkRat 1 3 = 1 / 3 := by decide +kernel
  have k2 : mkRat 1 2 = 1 / 2 := by decide +kernel
  rw [k3] at e3 h3
  rw [k2] at e2 h2
  have sx := (a0.add a1)
  have sy := (b0.add b1)
  have tx := sx.add a2
  have ty := sy.add b2
  have ec : cenP (toP x0 y0) (toP x1 y1) (toP x2 y2) = toP (1 / 3 * (x0 + x1 + x2)) (1 / 3 * (y0 + y1 + y2)) := by
    unfold cenP
    rw [e3, addP_b a0 b0 a1 b1 (by omega), addP_b sx sy a2 b2 (by omega), sclP_b h3 tx ty (by omega)]
  have em : midP (toP x0 y0) (toP x1 y1) = toP (1 / 2 * (x0 + x1)) (1 / 2 * (y0 + y1)) := by
    unfold midP
    rw [e2, addP_b a0 b0 a1 b1 (by omega), sclP_b h2 sx sy (by omega)]
  have cx := h3.mul tx
  have cy := h3.mul ty
  have mx := h2.mul sx
  have my := h2.mul sy
  have A0 := a0.mono (show 2 ≤ 9 by omega)
  have B0 := b0.mono (show 2 ≤ 9 by omega)
  have A1 := a1.mono (show 2 ≤ 9 by omega)
  have B1 := b1.mono (show 2 ≤ 9 by omega)
  have A2 := a2.mono (show 2 ≤ 9 by omega)
  have B2 := b2.mono (show 2 ≤ 9 by omega)
  have cx := cx.mono (show _ ≤ 9 by omega)
  have cy := cy.mono (show _ ≤ 9 by omega)
  have mx := mx.mono (show _ ≤ 9 by omega)
  have my := my.mono (show _ ≤ 9 by omega)
  have rc := fun i => (repA_b A0 B0 A1 B1 A2 B2 cx cy (by omega) i).2
  have rm := fun i => (repA_b A0 B0 A1 B1 A2 B2 mx my (by omega) i).2
  have r2 := fun i => (repA_b A0 B0 A1 B1 A2 B2 A2 B2 (by omega) i).2
  refine ⟨⟨okP_b hu hv (by omega), fun j _ => ?_, ?_⟩, ?_, ?_, ?_, ⟨?_, ?_⟩, ⟨?_, ?_⟩, okP_b a2 b2 (by omega), ?_⟩
  · rw [(hbar j).1]; exact ((hbar j).2.fit (by omega)).ok
  · unfold gradL
    rw [if_pos hp]
    show gradP (toP x0 y0) (toP x1 y1) (toP x2 y2) = _
    unfold gradP
    rw [if_pos hgo]
  · rw [eb0, eb1, eb2, eZ, sclP_b hb0 a0 b0 (by omega), sclP_b hb1 a1 b1 (by omega), sclP_b hb2 a2 b2 (by omega),
      addP_b hz hz (hb0.mul a0) (hb0.mul b0) (by omega), addP_b (hz.add (hb0.mul a0)) (hz.add (hb0.mul b0)) (hb1.mul a1) (hb1.mul b1) (by omega),
      addP_b ((hz.add (hb0.mul a0)).add (hb1.mul a1)) ((hz.add (hb0.mul b0)).add (hb1.mul b1)) (hb2.mul a2) (hb2.mul b2) (by omega)]
    have i0 := Rat.mul_inv_cancel _ h0
    congr 1
    · simp only [repQ, Rat.div_def]
      generalize (detQ x0 y0 x1 y1 x2 y2)⁻¹ = D at *
      unfold detQ at *
      grind
    · simp only [repQ, Rat.div_def]
      generalize (detQ x0 y0 x1 y1 x2 y2)⁻¹ = D at *
      unfold detQ at *
      grind
  · rw [hg 0, hg 1, hg 2, eZ, addP_b hz hz (hgX 0) (hgY 0) (by omega), addP_b (hz.add (hgX 0)) (hz.add (hgY 0)) (hgX 1) (hgY 1) (by omega),
      addP_b ((hz.add (hgX 0)).add (hgX 1)) ((hz.add (hgY 0)).add (hgY 1)) (hgX 2) (hgY 2) (by omega)]
    congr 1
    · simp only [gX]; grind
    · simp only [gY]; grind
  · rw [eb0, eb1, eb2, addR_b hb1 hb2 (by omega), addR_b hb0 (hb1.add hb2) (by omega), eo]
    have i0 := Rat.mul_inv_cancel _ h0
    congr 1
    simp only [repQ, Rat.div_def]
    generalize (detQ x0 y0 x1 y1 x2 y2)⁻¹ = D at *
    unfold detQ at *
    grind
  · rw [ec]; exact okP_b cx cy (by omega)
  · rw [ec, side_b A0 B0 A1 B1 A2 B2 cx cy (by omega), sgn_pos (rc 0) (by omega) ?_, sgn_pos (rc 1) (by omega) ?_, sgn_pos (rc 2) (by omega) ?_]
    · rfl
    · have : repQ x0 y0 x1 y1 x2 y2 (1 / 3 * (x0 + x1 + x2)) (1 / 3 * (y0 + y1 + y2)) 2 = 1 / 3 * detQ x0 y0 x1 y1 x2 y2 := by simp only [repQ]; unfold detQ; grind
      rw [this]; exact Rat.mul_pos (by decide +kernel) hd
    · have : repQ x0 y0 x1 y1 x2 y2 (1 / 3 * (x0 + x1 + x2)) (1 / 3 * (y0 + y1 + y2)) 1 = 1 / 3 * detQ x0 y0 x1 y1 x2 y2 := by simp only [repQ]; unfold detQ; grind
      rw [this]; exact Rat.mul_pos (by decide +kernel) hd
    · have : repQ x0 y0 x1 y1 x2 y2 (1 / 3 * (x0 + x1 + x2)) (1 / 3 * (y0 + y1 + y2)) 0 = 1 / 3 * detQ x0 y0 x1 y1 x2 y2 := by simp only [repQ]; unfold detQ; grind
      rw [this]; exact Rat.mul_pos (by decide +kernel) hd
  · rw [em]; exact okP_b mx my (by omega)
  · rw [em, side_b A0 B0 A1 B1 A2 B2 mx my (by omega), sgn_pos (rm 0) (by omega) ?_, sgn_pos (rm 1) (by omega) ?_, sgn_zero (rm 2) (by omega) ?_]
    · rfl
    · simp only [repQ]; unfold detQ; grind
    · have : repQ x0 y0 x1 y1 x2 y2 (1 / 2 * (x0 + x1)) (1 / 2 * (y0 + y1)) 1 = 1 / 2 * detQ x0 y0 x1 y1 x2 y2 := by simp only [repQ]; unfold detQ; grind
      rw [this]; exact Rat.mul_pos (by decide +kernel) hd
    · have : repQ x0 y0 x1 y1 x2 y2 (1 / 2 * (x0 + x1)) (1 / 2 * (y0 + y1)) 0 = 1 / 2 * detQ x0 y0 x1 y1 x2 y2 := by simp only [repQ]; unfold detQ; grind
      rw [this]; exact Rat.mul_pos (by decide +kernel) hd
  · rw [side_b A0 B0 A1 B1 A2 B2 A2 B2 (by omega), sgn_zero (r2 0) (by omega) ?_, sgn_zero (r2 1) (by omega) ?_, sgn_pos (r2 2) (by omega) hd]
    · rfl
    · simp only [repQ]; unfold detQ; grind
    · simp only [repQ]; unfold detQ; grind
end
end

section
open Go.RowKit

set_option maxRecDepth 100000 in
set_option maxHeartbeats 1000000 in
theorem PointAt_any (w : World) (x y : Int) (hx1 : -1000000 < x) (hx2 : x ≤ 1000000) (hy1 : -1000000 < y) (hy2 : y ≤ 1000000) :
    Calls Tryz.prog 17 #[.int .i64 x, .int .i64 y] w fun en w' => ∃ s1 A1 n1 c1 B1 m1 d1 t1 C1 i1 e1 D1 j1 f1, en = .returned (.agg #[.bool s1, .slice A1 n1 c1, .slice B1 m1 d1, .bool t1, .slice C1 i1 e1, .slice D1 j1 f1]) ∧ OwP 3 w.heap.size w' s1 A1 n1 c1 B1 m1 d1 t1 C1 i1 e1 D1 j1 f1 ⟨ofFrac x 1, ofFrac y 1⟩ ∧ Bl w w' := by
  go_enter Tryz.func17, Tryz.ntmps17
  go_wp2_with fail
  refine calls_gen (fun W => Bl w W ∧ Wk 6 31 w.heap.size W) ⟨slc, bts⟩ ?_
  rintro W ⟨hbW, hr⟩
  refine (RatFromInt_any _ x (by omega) (by omega)).mono ?_
  rintro e w2 ⟨s1, A1, n1, c1, B1, m1, d1, rfl, hR1, hb2⟩
  go_wp2_with fail
  refine (RatFromInt_any _ y (by omega) (by omega)).mono ?_
  rintro e w3 ⟨t1, C1, i1, e1, D1, j1, f1, rfl, hR2, hb3⟩
  have hz : w.heap.size + 1 ≤ W.heap.size := hr.lt
  have hz2 : W.heap.size ≤ w2.heap.size := Bl.size hb2
  have hr := (hr.bl hb2).bl hb3
  have hbW : Bl w w3 := slc
  have hX : OwP 3 W.heap.size w3 s1 A1 n1 c1 B1 m1 d1 t1 C1 i1 e1 D1 j1 f1 ⟨ofFrac x 1, ofFrac y 1⟩ := OwP.two hR1 hR2 hb3 hz2
  have hX := OwP.low hX hz
  obtain ⟨v0, x0⟩ := hr.val_ (i := 0) (by omega)
  obtain ⟨v1, x1⟩ := hr.val_ (i := 1) (by omega)
  obtain ⟨v2, x2⟩ := hr.val_ (i := 2) (by omega)
  obtain ⟨v3, x3⟩ := hr.val_ (i := 3) (by omega)
  obtain ⟨v4, x4⟩ := hr.val_ (i := 4) (by omega)
  obtain ⟨v5, x5⟩ := hr.val_ (i := 5) (by omega)
  have hg := hr.lt
  obtain ⟨cs4, hB4, hc4⟩ := hr
  have hf0 := hB4.frozen 0
  have hf1 := hB4.frozen 1
  have hf2 := hB4.frozen 2
  have hf3 := hB4.frozen 3
  have hf4 := hB4.frozen 4
  have hf5 := hB4.frozen 5
  go_wp2_with fail
  exact bodyPost_ret (v := .agg #[.bool s1, .slice A1 n1 c1, .slice B1 m1 d1, .bool t1, .slice C1 i1 e1, .slice D1 j1 f1]) (by simp [results, Tryz.results17, go_sem, x0, x1, x2, x3, x4, x5]) rfl ⟨_, _, _, _, _, _, _, _, _, _, _, _, _, _, rfl, ((((((hX.far (by simp) _).far (by simp) _).far (by simp) _).far (by simp) _).far (by simp) _).far (by simp) _).low (by omega), slc⟩
end

end Go.Proofs.YtajlahjghapbkaaGreat
