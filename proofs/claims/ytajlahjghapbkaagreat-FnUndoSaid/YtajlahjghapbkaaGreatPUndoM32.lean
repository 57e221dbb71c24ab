/- Lemmas. -/
import Derived.Test.YtajlahjghapbkaaGreatRows
import Derived.Test.YtajlahjghapbkaaGreatPUndoM31
import Derived.Test.YtajlahjghapbkaaGreatPUndoM28
import Derived.Test.YtajlahjghapbkaaGreatPUndoM19
import Derived.Deep.Cut
import Derived.Deep.DeepCutAuto
namespace Go.Proofs.YtajlahjghapbkaaGreat
section
open Go.RowKit

theorem run_eql_tri (W : World) (x y : TriD) : (binOp .eql 73 (.agg #[.int .i64 x.a, .int .i64 x.b, .int .i64 x.c, .int .i64 x.region, .int .i64 x.level]) (.agg #[.int .i64 y.a, .int .i64 y.b, .int .i64 y.c, .int .i64 y.region, .int .i64 y.level])).run Tryz.prog W = .ok (.bool (decide (x = y))) W := by
  have h : decide (x = y) = ((x.a == y.a) && ((x.b == y.b) && ((x.c == y.c) && ((x.region == y.region) && (x.level == y.level))))) := by
    cases x
    cases y
    rw [Bool.eq_iff_iff]
    simp
  rw [h]
  go_simp
  clear h
  repeat' split
  all_goals simp_all
theorem prB_eq {m : MeQ} {k l : Nat} {s t A B : TriD} (hs : pix m.tris k = s) (ht : pix m.tris l = t) (hA : hvA (prT s t) s.a = A) (hB : hvB (prT s t) s.a = B) :
    prB m k l = (decide ((l : Int) = (k : Int) + 1) && (decide (0 < s.level) && (decide (A = s) && (decide (B = t) && decide (midQ (mc m s.c) (mc m t.b) = mc m s.a))))) := by
  unfold prB
  rw [Int.toNat_natCast, Int.toNat_natCast, hs, ht, hA, hB]
theorem eqP_mid {p q r : Rat × Rat} (hp : Sm2 p) (hq : Sm2 q) : decide (midQ p q = r) = eqP (midP (tp p) (tp q)) (tp r) := by
  rw [midP_tp hp hq, Bool.eq_iff_iff, decide_eq_true_eq, eqP_iff]
  exact ⟨fun h => by rw [h], tp_inj⟩

set_option maxRecDepth 100000 in
set_option maxHeartbeats 32000000 in
theorem isPair_any (w : World) {gp n cp gt m ct : Nat} {mq : MeQ} (hp : RdPS w (some ⟨gp, 0, none⟩) n cp (mq.pts.map tp)) (ht : RdTS w (some ⟨gt, 0, none⟩) m ct mq.tris) (hf : FitM mq) (k l : Nat) (hk : k < m) (hl : l < m) :
    Calls Tryz.prog 181 #[.agg #[.slice (some ⟨gp, 0, none⟩) n cp, .slice (some ⟨gt, 0, none⟩) m ct], .int .i64 (k : Int), .int .i64 (l : Int)] w fun e w' => e = .returned (.bool (prB mq k l)) ∧ Bl w w' := by
  have hn := Lib.hid (show mq.pts.length = n by rw [← hp.len, List.length_map])
  have hm48 : m ≤ 48 := by rw [← ht.len]; exact hf.ok.t48
  have hrk := hf.ok.reg k (by rw [ht.len]; exact hk)
  have hrl := hf.ok.reg l (by rw [ht.len]; exact hl)
  have hik := hf.ok.ixs k (by rw [ht.len]; exact hk)
  have hil := hf.ok.ixs l (by rw [ht.len]; exact hl)
  rw [hn.out] at hik hil
  have hfH := Lib.hid hf
  clear hf
  go_enter Tryz.func181, Tryz.ntmps181
  go_upto_region 1 with (fail)
  refine wp_gen (fun W => Bl w W ∧ ∃ g3, Blk W g3 57 #[.slice (some ⟨gp, 0, none⟩) n cp, .slice (some ⟨gt, 0, none⟩) m ct] ∧ g3 = w.heap.size) ⟨slc, _, by exact bts, rfl⟩ ?_
  rintro W ⟨hbW, g3, h3, hg3⟩
  rw [← hg3]
  clear hg3
  have hp := RdPS.bl hp hbW
  have ht := RdTS.bl ht hbW
  obtain ⟨y0, y1, y2, y3, y4⟩ := trs_lit ht hk
  obtain ⟨z0, z1, z2, z3, z4⟩ := trs_lit ht hl
  obtain ⟨_, egt, hgt, _⟩ := ht.cells k hk
  cases egt
  obtain ⟨s, hs_⟩ : ∃ s, pix mq.tris k = s := ⟨_, rfl⟩
  obtain ⟨t, ht_⟩ : ∃ t, pix mq.tris l = t := ⟨_, rfl⟩
  rw [hs_] at y0 y1 y2 y3 y4 hrk hik
  rw [ht_] at z0 z1 z2 z3 z4 hrl hil
  obtain ⟨_, hv0, hv1⟩ := hrk
  have hki : (k : Int) < (m : Int) := by omega
  have hli : (l : Int) < (m : Int) := by omega
  go_cut [7, 8] (fun s7 s8 wx => ∃ g7 g8 : Nat, s7 = .pointer (some ⟨g7, 0, none⟩) ∧ s8 = .pointer (some ⟨g8, 0, none⟩) ∧ Blk wx g7 73 #[.int .i64 s.a, .int .i64 s.b, .int .i64 s.c, .int .i64 s.region, .int .i64 s.level] ∧ Blk wx g8 73 #[.int .i64 t.a, .int .i64 t.b, .int .i64 t.c, .int .i64 t.region, .int .i64 t.level] ∧ Bl W wx)
  case first =>
    go_region_held3 (fun w' => (w'.cell? ⟨g3, 0, none⟩ = some ((.slice (some ⟨gp, 0, none⟩) n cp)) ∧ w'.cell? ⟨g3, 1, none⟩ = some ((.slice (some ⟨gt, 0, none⟩) m ct))) ∧ (w'.cell? ⟨gt, k * 5, none⟩ = some (.int .i64 s.a) ∧ w'.cell? ⟨gt, k * 5 + 1, none⟩ = some (.int .i64 s.b) ∧ w'.cell? ⟨gt, k * 5 + 2, none⟩ = some (.int .i64 s.c) ∧ w'.cell? ⟨gt, k * 5 + 3, none⟩ = some (.int .i64 s.region) ∧ w'.cell? ⟨gt, k * 5 + 4, none⟩ = some (.int .i64 s.level)) ∧ (w'.cell? ⟨gt, l * 5, none⟩ = some (.int .i64 t.a) ∧ w'.cell? ⟨gt, l * 5 + 1, none⟩ = some (.int .i64 t.b) ∧ w'.cell? ⟨gt, l * 5 + 2, none⟩ = some (.int .i64 t.c) ∧ w'.cell? ⟨gt, l * 5 + 3, none⟩ = some (.int .i64 t.region) ∧ w'.cell? ⟨gt, l * 5 + 4, none⟩ = some (.int .i64 t.level))) (first | exact ⟨bx2 (T := 57) (h3.bl slc), ⟨(Bl.cellOf (w := W) (p := ⟨gt, k * 5, none⟩) slc hgt).trans y0, (Bl.cellOf (w := W) (p := ⟨gt, k * 5 + 1, none⟩) slc hgt).trans y1, (Bl.cellOf (w := W) (p := ⟨gt, k * 5 + 2, none⟩) slc hgt).trans y2, (Bl.cellOf (w := W) (p := ⟨gt, k * 5 + 3, none⟩) slc hgt).trans y3, (Bl.cellOf (w := W) (p := ⟨gt, k * 5 + 4, none⟩) slc hgt).trans y4⟩, ⟨(Bl.cellOf (w := W) (p := ⟨gt, l * 5, none⟩) slc hgt).trans z0, (Bl.cellOf (w := W) (p := ⟨gt, l * 5 + 1, none⟩) slc hgt).trans z1, (Bl.cellOf (w := W) (p := ⟨gt, l * 5 + 2, none⟩) slc hgt).trans z2, (Bl.cellOf (w := W) (p := ⟨gt, l * 5 + 3, none⟩) slc hgt).trans z3, (Bl.cellOf (w := W) (p := ⟨gt, l * 5 + 4, none⟩) slc hgt).trans z4⟩⟩) (fail)
    · go_wp2_with fail
      go_meet
      exact ⟨W.heap.size, W.heap.size + 1, rfl, rfl, by exact bts, by exact bts, slc⟩
    · go_wp2_with fail
      go_meet
      exact ⟨W.heap.size + 1, W.heap.size, rfl, rfl, by exact bts, by exact bts, slc⟩
  case rest =>
    obtain ⟨g7, g8, rfl, rfl, h7, h8, hbc⟩ := hcut
    obtain ⟨W2, rfl⟩ : ∃ W2 : World, W2 = wc := ⟨_, rfl⟩
    have h3 := h3.bl hbc
    have hp := RdPS.bl hp hbc
    have hbw := hbW.next hbc
    clear y0 y1 y2 y3 y4 z0 z1 z2 z3 z4 hbc hgt
    obtain ⟨y0, y1, y2, y3, y4⟩ := bx5 h7
    obtain ⟨z0, z1, z2, z3, z4⟩ := bx5 h8
    go_wp2_with fail
    refine (halves_any _ (prT s t) s.a (by show -1000000 ≤ s.level - 1; omega) (by show s.level - 1 ≤ 1000000; omega)).mono ?_
    rintro e w4 ⟨he, hb4⟩
    obtain ⟨A, hA⟩ : ∃ A, hvA (prT s t) s.a = A := ⟨_, rfl⟩
    obtain ⟨B, hB⟩ : ∃ B, hvB (prT s t) s.a = B := ⟨_, rfl⟩
    have hpr := prB_eq hs_ ht_ hA hB
    rw [hA, hB] at he
    unfold trV at he
    subst he
    clear y0 y1 y2 y3 y4 z0 z1 z2 z3 z4
    have h3 := h3.bl hb4
    have h7 := h7.bl hb4
    have h8 := h8.bl hb4
    have hp := RdPS.bl hp hb4
    have hbw := hbw.next hb4
    go_upto_region 3 with (fail)
    refine wp_gen (fun W => Bl w4 W ∧ ∃ g9 g10, Blk W g9 73 #[.int .i64 A.a, .int .i64 A.b, .int .i64 A.c, .int .i64 A.region, .int .i64 A.level] ∧ Blk W g10 73 #[.int .i64 B.a, .int .i64 B.b, .int .i64 B.c, .int .i64 B.region, .int .i64 B.level] ∧ g9 = w4.heap.size ∧ g10 = w4.heap.size + 1) ⟨slc, _, _, by exact bts, by exact bts, rfl, rfl⟩ ?_
    rintro W ⟨hbW3, g9, g10, h9, h10, hg9, hg10⟩
    rw [← hg10, ← hg9]
    have h3 := h3.bl hbW3
    have h7 := h7.bl hbW3
    have h8 := h8.bl hbW3
    have hp := RdPS.bl hp hbW3
    have hbw := hbw.next hbW3
    clear hg9 hg10 hbW3 hb4 hbW hs_ ht_ hA hB
    have hw1 : IntKind.i64.wrap ((k : Int) + 1) = (k : Int) + 1 := by rw [IntKind.wrap_i64]; omega
    have hsv := Lib.hid hpr
    clear hpr
    obtain ⟨x30, x31⟩ := bx2 h3
    obtain ⟨x70, x71, x72, x73, x74⟩ := bx5 h7
    obtain ⟨x80, x81, x82, x83, x84⟩ := bx5 h8
    obtain ⟨x90, x91, x92, x93, x94⟩ := bx5 h9
    obtain ⟨x00, x01, x02, x03, x04⟩ := bx5 h10
    by_cases c1 : (l : Int) = (k : Int) + 1
    · have f1 : ((l : Int) == (k : Int) + 1) = true := by simpa using c1
      by_cases c2 : 0 < s.level
      · by_cases c3 : A = s
        · have f3 : ∀ W, Sem.run Tryz.prog (binOp BinOp.eql 73 (.agg #[.int .i64 A.a, .int .i64 A.b, .int .i64 A.c, .int .i64 A.region, .int .i64 A.level]) (.agg #[.int .i64 s.a, .int .i64 s.b, .int .i64 s.c, .int .i64 s.region, .int .i64 s.level])) W = .ok (.bool true) W := fun W => by rw [run_eql_tri, decide_eq_true c3]
          by_cases c4 : B = t
          · have f4 : ∀ W, Sem.run Tryz.prog (binOp BinOp.eql 73 (.agg #[.int .i64 B.a, .int .i64 B.b, .int .i64 B.c, .int .i64 B.region, .int .i64 B.level]) (.agg #[.int .i64 t.a, .int .i64 t.b, .int .i64 t.c, .int .i64 t.region, .int .i64 t.level])) W = .ok (.bool true) W := fun W => by rw [run_eql_tri, decide_eq_true c4]
            have hs := Lib.hid (show prB mq k l = decide (midQ (mc mq s.c) (mc mq t.b) = mc mq s.a) by rw [hsv.out, decide_eq_true c1, decide_eq_true c2, decide_eq_true c3, decide_eq_true c4]; simp)
            obtain ⟨⟨ha0, ha1⟩, _, hc0, hc1⟩ := hik
            obtain ⟨_, ⟨hb0, hb1⟩, _⟩ := hil
            obtain ⟨ua, hua⟩ : ∃ ua : Nat, s.a = (ua : Int) := ⟨s.a.toNat, by omega⟩
            obtain ⟨uc, huc⟩ : ∃ uc : Nat, s.c = (uc : Int) := ⟨s.c.toNat, by omega⟩
            obtain ⟨ub, hub⟩ : ∃ ub : Nat, t.b = (ub : Int) := ⟨t.b.toNat, by omega⟩
            rw [hua] at ha0 ha1
            rw [huc] at hc0 hc1
            rw [hub] at hb0 hb1
            have la : ua < n := by omega
            have lb : ub < n := by omega
            have lc : uc < n := by omega
            have hmid := Lib.hid (show decide (midQ (mc mq s.c) (mc mq t.b) = mc mq s.a) = eqP (midP (tp (pix mq.pts uc)) (tp (pix mq.pts ub))) (tp (pix mq.pts ua)) by unfold mc; rw [hua, hub, huc, Int.toNat_natCast, Int.toNat_natCast, Int.toNat_natCast]; exact eqP_mid (hfH.out.sm _ (by rw [hn.out]; exact lc)) (hfH.out.sm _ (by rw [hn.out]; exact lb)))
            have hx7 := pix_map (l := mq.pts) (k := uc) (by rw [hn.out]; exact lc)
            have hx8 := pix_map (l := mq.pts) (k := ub) (by rw [hn.out]; exact lb)
            have hx9 := pix_map (l := mq.pts) (k := ua) (by rw [hn.out]; exact la)
            obtain ⟨s7, A7, n7, c7, B7, m7, d7, t7, C7, i7, e7, D7, j7, f7, ⟨xa0, xa1, xa2, xa3, xa4, xa5⟩, hXa, hYa⟩ := pts_lit hp lc
            obtain ⟨s8, A8, n8, c8, B8, m8, d8, t8, C8, i8, e8, D8, j8, f8, ⟨xb0, xb1, xb2, xb3, xb4, xb5⟩, hXb, hYb⟩ := pts_lit hp lb
            obtain ⟨s9, A9, n9, c9, B9, m9, d9, t9, C9, i9, e9, D9, j9, f9, ⟨xc0, xc1, xc2, xc3, xc4, xc5⟩, hXc, hYc⟩ := pts_lit hp la
            rw [hx7] at hXa hYa
            rw [hx8] at hXb hYb
            rw [hx9] at hXc hYc
            obtain ⟨_, egp, hgp, _⟩ := hp.cells uc lc
            cases egp
            rw [hua, huc] at h7 f3
            rw [hub] at h8 f4
            clear x30 x31 x70 x71 x72 x73 x74 x80 x81 x82 x83 x84 x90 x91 x92 x93 x94 x00 x01 x02 x03 x04 hx7 hx8 hx9 c3 c4 hua huc hub
            go_region_held3 (fun w' => (w'.cell? ⟨g3, 0, none⟩ = some ((.slice (some ⟨gp, 0, none⟩) n cp)) ∧ w'.cell? ⟨g3, 1, none⟩ = some ((.slice (some ⟨gt, 0, none⟩) m ct))) ∧ (w'.cell? ⟨g7, 0, none⟩ = some ((.int .i64 (ua : Int))) ∧ w'.cell? ⟨g7, 1, none⟩ = some (.int .i64 s.b) ∧ w'.cell? ⟨g7, 2, none⟩ = some ((.int .i64 (uc : Int))) ∧ w'.cell? ⟨g7, 3, none⟩ = some (.int .i64 s.region) ∧ w'.cell? ⟨g7, 4, none⟩ = some (.int .i64 s.level)) ∧ (w'.cell? ⟨g8, 0, none⟩ = some (.int .i64 t.a) ∧ w'.cell? ⟨g8, 1, none⟩ = some ((.int .i64 (ub : Int))) ∧ w'.cell? ⟨g8, 2, none⟩ = some (.int .i64 t.c) ∧ w'.cell? ⟨g8, 3, none⟩ = some (.int .i64 t.region) ∧ w'.cell? ⟨g8, 4, none⟩ = some (.int .i64 t.level)) ∧ (w'.cell? ⟨g9, 0, none⟩ = some (.int .i64 A.a) ∧ w'.cell? ⟨g9, 1, none⟩ = some (.int .i64 A.b) ∧ w'.cell? ⟨g9, 2, none⟩ = some (.int .i64 A.c) ∧ w'.cell? ⟨g9, 3, none⟩ = some (.int .i64 A.region) ∧ w'.cell? ⟨g9, 4, none⟩ = some (.int .i64 A.level)) ∧ (w'.cell? ⟨g10, 0, none⟩ = some (.int .i64 B.a) ∧ w'.cell? ⟨g10, 1, none⟩ = some (.int .i64 B.b) ∧ w'.cell? ⟨g10, 2, none⟩ = some (.int .i64 B.c) ∧ w'.cell? ⟨g10, 3, none⟩ = some (.int .i64 B.region) ∧ w'.cell? ⟨g10, 4, none⟩ = some (.int .i64 B.level)) ∧ (w'.cell? ⟨gp, uc * 6, none⟩ = some (.bool s7) ∧ w'.cell? ⟨gp, uc * 6 + 1, none⟩ = some (.slice A7 n7 c7) ∧ w'.cell? ⟨gp, uc * 6 + 2, none⟩ = some (.slice B7 m7 d7) ∧ w'.cell? ⟨gp, uc * 6 + 3, none⟩ = some (.bool t7) ∧ w'.cell? ⟨gp, uc * 6 + 4, none⟩ = some (.slice C7 i7 e7) ∧ w'.cell? ⟨gp, uc * 6 + 5, none⟩ = some (.slice D7 j7 f7)) ∧ (w'.cell? ⟨gp, ub * 6, none⟩ = some (.bool s8) ∧ w'.cell? ⟨gp, ub * 6 + 1, none⟩ = some (.slice A8 n8 c8) ∧ w'.cell? ⟨gp, ub * 6 + 2, none⟩ = some (.slice B8 m8 d8) ∧ w'.cell? ⟨gp, ub * 6 + 3, none⟩ = some (.bool t8) ∧ w'.cell? ⟨gp, ub * 6 + 4, none⟩ = some (.slice C8 i8 e8) ∧ w'.cell? ⟨gp, ub * 6 + 5, none⟩ = some (.slice D8 j8 f8)) ∧ (w'.cell? ⟨gp, ua * 6, none⟩ = some (.bool s9) ∧ w'.cell? ⟨gp, ua * 6 + 1, none⟩ = some (.slice A9 n9 c9) ∧ w'.cell? ⟨gp, ua * 6 + 2, none⟩ = some (.slice B9 m9 d9) ∧ w'.cell? ⟨gp, ua * 6 + 3, none⟩ = some (.bool t9) ∧ w'.cell? ⟨gp, ua * 6 + 4, none⟩ = some (.slice C9 i9 e9) ∧ w'.cell? ⟨gp, ua * 6 + 5, none⟩ = some (.slice D9 j9 f9))) (first | exact ⟨bx2 (T := 57) (h3.bl slc), bx5 (T := 73) (h7.bl slc), bx5 (T := 73) (h8.bl slc), bx5 (T := 73) (h9.bl slc), bx5 (T := 73) (h10.bl slc), ⟨(Bl.cellOf (w := W) (p := ⟨gp, uc * 6, none⟩) slc hgp).trans xa0, (Bl.cellOf (w := W) (p := ⟨gp, uc * 6 + 1, none⟩) slc hgp).trans xa1, (Bl.cellOf (w := W) (p := ⟨gp, uc * 6 + 2, none⟩) slc hgp).trans xa2, (Bl.cellOf (w := W) (p := ⟨gp, uc * 6 + 3, none⟩) slc hgp).trans xa3, (Bl.cellOf (w := W) (p := ⟨gp, uc * 6 + 4, none⟩) slc hgp).trans xa4, (Bl.cellOf (w := W) (p := ⟨gp, uc * 6 + 5, none⟩) slc hgp).trans xa5⟩, ⟨(Bl.cellOf (w := W) (p := ⟨gp, ub * 6, none⟩) slc hgp).trans xb0, (Bl.cellOf (w := W) (p := ⟨gp, ub * 6 + 1, none⟩) slc hgp).trans xb1, (Bl.cellOf (w := W) (p := ⟨gp, ub * 6 + 2, none⟩) slc hgp).trans xb2, (Bl.cellOf (w := W) (p := ⟨gp, ub * 6 + 3, none⟩) slc hgp).trans xb3, (Bl.cellOf (w := W) (p := ⟨gp, ub * 6 + 4, none⟩) slc hgp).trans xb4, (Bl.cellOf (w := W) (p := ⟨gp, ub * 6 + 5, none⟩) slc hgp).trans xb5⟩, ⟨(Bl.cellOf (w := W) (p := ⟨gp, ua * 6, none⟩) slc hgp).trans xc0, (Bl.cellOf (w := W) (p := ⟨gp, ua * 6 + 1, none⟩) slc hgp).trans xc1, (Bl.cellOf (w := W) (p := ⟨gp, ua * 6 + 2, none⟩) slc hgp).trans xc2, (Bl.cellOf (w := W) (p := ⟨gp, ua * 6 + 3, none⟩) slc hgp).trans xc3, (Bl.cellOf (w := W) (p := ⟨gp, ua * 6 + 4, none⟩) slc hgp).trans xc4, (Bl.cellOf (w := W) (p := ⟨gp, ua * 6 + 5, none⟩) slc hgp).trans xc5⟩⟩) (first | (go_at_call 26; (with_reducible refine (Middle_any _ (hXa.bl slc) (hYa.bl slc) (hXb.bl slc) (hYb.bl slc)).mono ?_); rintro e w6 ⟨s5, A5, n5, c5, B5, m5, d5, t5, C5, i5, e5, D5, j5, f5, rfl, hP6, hb6⟩) | (go_at_call 20; (with_reducible refine (SamePoint_any _ (hP6.rx.bl slc) (hP6.ry.bl slc) (hXc.bl slc) (hYc.bl slc)).mono ?_); rintro e w7 ⟨rfl, hb7⟩))
            all_goals (go_wp2_with fail)
            all_goals go_ret
            all_goals exact ⟨by rw [hs.out, hmid.out]; rfl, slc⟩
          · have f4 : ∀ W, Sem.run Tryz.prog (binOp BinOp.eql 73 (.agg #[.int .i64 B.a, .int .i64 B.b, .int .i64 B.c, .int .i64 B.region, .int .i64 B.level]) (.agg #[.int .i64 t.a, .int .i64 t.b, .int .i64 t.c, .int .i64 t.region, .int .i64 t.level])) W = .ok (.bool false) W := fun W => by rw [run_eql_tri, decide_eq_false c4]
            have hs := Lib.hid (show prB mq k l = false by rw [hsv.out, decide_eq_false c4]; simp)
            clear c3 c4
            go_wp2_with fail
            go_quiet (fail)
            all_goals (go_wp2_with fail)
            all_goals go_ret
            all_goals exact ⟨by rw [hs.out]; rfl, slc⟩
        · have f3 : ∀ W, Sem.run Tryz.prog (binOp BinOp.eql 73 (.agg #[.int .i64 A.a, .int .i64 A.b, .int .i64 A.c, .int .i64 A.region, .int .i64 A.level]) (.agg #[.int .i64 s.a, .int .i64 s.b, .int .i64 s.c, .int .i64 s.region, .int .i64 s.level])) W = .ok (.bool false) W := fun W => by rw [run_eql_tri, decide_eq_false c3]
          have hs := Lib.hid (show prB mq k l = false by rw [hsv.out, decide_eq_false c3]; simp)
          clear c3
          go_wp2_with fail
          go_quiet (fail)
          all_goals (go_wp2_with fail)
          all_goals go_ret
          all_goals exact ⟨by rw [hs.out]; rfl, slc⟩
      · have f2 : decide (0 < s.level) = false := decide_eq_false c2
        have hs := Lib.hid (show prB mq k l = false by rw [hsv.out, decide_eq_false c2]; simp)
        clear c2
        go_wp2_with fail
        go_quiet (fail)
        all_goals (go_wp2_with fail)
        all_goals go_ret
        all_goals exact ⟨by rw [hs.out]; rfl, slc⟩
    · have f1 : ((l : Int) == (k : Int) + 1) = false := by simpa using c1
      have hs := Lib.hid (show prB mq k l = false by rw [hsv.out, decide_eq_false c1]; simp)
      clear c1
      go_wp2_with fail
      go_quiet (fail)
      all_goals (go_wp2_with fail)
      all_goals go_ret
      all_goals exact ⟨by rw [hs.out]; rfl, slc⟩
end

section
open Go.RowKit

set_option maxRecDepth 100000 in
set_option maxHeartbeats 4000000 in
theorem remF_any (w : World) {g2 g3 gt m ct : Nat} {ts : List TriD} {p : Int} (h2 : w.cell? ⟨g2, 1, none⟩ = some (.slice (some ⟨gt, 0, none⟩) m ct)) (h3 : w.cell? ⟨g3, 0, none⟩ = some (.int .i64 p)) (ht : RdTS w (some ⟨gt, 0, none⟩) m ct ts) (k : Nat) (hk : k < m) {b : Bool} (hb : ((pix ts k).a == p) = b) :
    Calls Tryz.prog 179 #[.int .i64 (k : Int), .pointer (some ⟨g2, 0, none⟩), .pointer (some ⟨g3, 0, none⟩)] w fun e w' => e = .returned (.bool (!b)) ∧ Bl w w' := by
  obtain ⟨y0, _⟩ := trs_lit ht hk
  have hki : (k : Int) < (m : Int) := by omega
  obtain ⟨x, hx⟩ : ∃ x, (pix ts k).a = x := ⟨_, rfl⟩
  rw [hx] at y0 hb
  clear hx
  have hne : (x != p) = !b := by rw [← hb]; rfl
  cases b
  all_goals
    go_enter Tryz.func179, Tryz.ntmps179
    go_wp2_with fail
    go_quiet (fail)
    all_goals (go_wp2_with fail)
    all_goals go_ret
    all_goals exact ⟨rfl, slc⟩
/-- Every triangle of a list begins at p. -/
def AtA (ts : List TriD) (p : Int) (l : List Int) (k : Nat) : Prop := ∀ j, j < k → (pix ts (ix l j).toNat).a = p
theorem AtA.step {ts : List TriD} {p : Int} {l : List Int} {k : Nat} (h : AtA ts p l k) (h0 : (pix ts (ix l k).toNat).a = p) : AtA ts p l (k + 1) := by
  intro j hj
  rcases Nat.lt_succ_iff_lt_or_eq.1 hj with hj | rfl
  · exact h j hj
  · exact h0
set_option maxRecDepth 100000 in
set_option maxHeartbeats 4000000 in
theorem IndexAt_any (w : World) {g2 g3 gt m ct : Nat} {ts : List TriD} {p : Int} (h2 : w.cell? ⟨g2, 1, none⟩ = some (.slice (some ⟨gt, 0, none⟩) m ct)) (hg2 : g2 < w.heap.size) (h3 : w.cell? ⟨g3, 0, none⟩ = some (.int .i64 p)) (hg3 : g3 < w.heap.size) (ht : RdTS w (some ⟨gt, 0, none⟩) m ct ts) {A : Option Addr} {n c : Nat} {l : List Int} (h : RdI w A n c l) (hl : ∀ x ∈ l, 0 ≤ x ∧ x < m) :
    Calls Tryz.prog 200 #[.slice A n c, (.func (.func 179) #[] #[.pointer (some ⟨g2, 0, none⟩), .pointer (some ⟨g3, 0, none⟩)])] w (IdxPostB (AtA ts p l l.length) w) := by
  have hn := h.small
  have hln := Lib.hid h.len
  go_enter Tryz.func200, Tryz.ntmps200
  go_wp2_with fail
  go_loopw [8] (fun i wr => ∃ k : Nat, k ≤ n ∧ i = .int .i64 (k : Int) ∧ AtA ts p l k ∧ Bl w wr) (fun i _ => n - (intOf i).toNat)
  case atStart => exact ⟨0, Nat.zero_le _, rfl, fun j hj => by omega, Bl.refl _⟩
  case round =>
    obtain ⟨k, hk, rfl, hin, hbw⟩ := hrel
    by_cases hkn : k < n
    · have hki : (k : Int) < (n : Int) := by omega
      obtain ⟨ad, rfl, hlt, hc⟩ := (RdI.bl h hbw).at_ hkn
      obtain ⟨hx0, hx1⟩ := hl _ (ix_mem (l := l) (k := k) (by rw [hln.out]; exact hkn))
      obtain ⟨u, hu⟩ : ∃ u : Nat, ix l k = (u : Int) := ⟨(ix l k).toNat, by omega⟩
      have hxk := AtA.step (k := k) hin
      rw [hu] at hc hx0 hx1 hxk
      rw [Int.toNat_natCast] at hxk
      have hum : u < m := by omega
      have e2 := (Bl.cellOf (w := w) (p := ⟨g2, 1, none⟩) hbw hg2).trans h2
      have e3 := (Bl.cellOf (w := w) (p := ⟨g3, 0, none⟩) hbw hg3).trans h3
      have hz := hbw.size
      by_cases ho : (pix ts u).a = p
      · have hin' := Lib.hid (hxk ho)
        have hbb : ((pix ts u).a == p) = true := by simpa using ho
        have hbb := Lib.hid hbb
        clear hin ho hxk
        go_wp2_with fail
        refine (remF_any _ e2 e3 (RdTS.bl ht hbw) u hum hbb.out).mono ?_
        rintro e w1 ⟨rfl, hb1⟩
        have hb2 : Bl w w1 := hbw.next hb1
        clear hb1
        go_wp2_with fail
        go_roundw
        case rel => exact ⟨k + 1, by omega, by go_num, hin'.out, hb2⟩
        case measure => simp [intOf]; omega
      · have hno2 := Lib.hid (show ¬ AtA ts p l l.length from fun ha => ho (by have h1 := ha k (by rw [hln.out]; exact hkn); rw [hu, Int.toNat_natCast] at h1; exact h1))
        have hbb : ((pix ts u).a == p) = false := by simpa using ho
        have hbb := Lib.hid hbb
        clear hin ho hxk
        go_wp2_with fail
        refine (remF_any _ e2 e3 (RdTS.bl ht hbw) u hum hbb.out).mono ?_
        rintro e w1 ⟨rfl, hb1⟩
        have hb2 : Bl w w1 := hbw.next hb1
        clear hb1
        go_wp2_with fail
        go_ret
        exact ⟨_, rfl, fun ha => absurd ha hno2.out, fun _ => by omega, hb2⟩
    · have hall2 := Lib.hid (show AtA ts p l l.length from fun j hj => hin j (by rw [hln.out] at hj; omega))
      go_wp2_with fail
      go_ret
      exact ⟨_, rfl, fun _ => rfl, fun hno => absurd hall2.out hno, hbw⟩
theorem AtA_iff {ts : List TriD} {p : Int} {l : List Int} : AtA ts p l l.length ↔ (l.all fun k => decide ((pix ts k.toNat).a = p)) = true := by
  rw [List.all_eq_true]
  constructor
  · intro h x hx
    obtain ⟨i, hi, rfl⟩ := List.getElem_of_mem hx
    have h1 := h i hi
    rw [show ix l i = l[i] by simp [ix, hi]] at h1
    simpa using h1
  · intro h j hj
    simpa using h _ (ix_mem hj)
set_option maxRecDepth 100000 in
theorem ContainsAt_any (w : World) {g2 g3 gt m ct : Nat} {ts : List TriD} {p : Int} (h2 : w.cell? ⟨g2, 1, none⟩ = some (.slice (some ⟨gt, 0, none⟩) m ct)) (hg2 : g2 < w.heap.size) (h3 : w.cell? ⟨g3, 0, none⟩ = some (.int .i64 p)) (hg3 : g3 < w.heap.size) (ht : RdTS w (some ⟨gt, 0, none⟩) m ct ts) {A : Option Addr} {n c : Nat} {l : List Int} (h : RdI w A n c l) (hl : ∀ x ∈ l, 0 ≤ x ∧ x < m) {b : Bool} (hb : (l.all fun k => decide ((pix ts k.toNat).a = p)) = b) :
    Calls Tryz.prog 155 #[.slice A n c, (.func (.func 179) #[] #[.pointer (some ⟨g2, 0, none⟩), .pointer (some ⟨g3, 0, none⟩)])] w fun e w' => e = .returned (.bool (!b)) ∧ Bl w w' := by
  cases b with
  | true =>
    have hP2 := Lib.hid (AtA_iff.2 hb)
    clear hb
    go_enter Tryz.func155, Tryz.ntmps155
    go_wp2_with fail
    refine (IndexAt_any _ h2 hg2 h3 hg3 ht h hl).mono ?_
    rintro e w1 ⟨i, rfl, h1, _, hb⟩
    have h1 := h1 hP2.out
    subst h1
    go_wp2_with fail
    go_ret
    exact ⟨rfl, hb⟩
  | false =>
    have hP2 := Lib.hid (show ¬ AtA ts p l l.length from fun ha => by rw [AtA_iff.1 ha] at hb; cases hb)
    clear hb
    go_enter Tryz.func155, Tryz.ntmps155
    go_wp2_with fail
    refine (IndexAt_any _ h2 hg2 h3 hg3 ht h hl).mono ?_
    rintro e w1 ⟨i, rfl, _, h1, hb⟩
    have h1 := h1 hP2.out
    go_wp2_with fail
    go_ret
    exact ⟨rfl, hb⟩
end

end Go.Proofs.YtajlahjghapbkaaGreat
