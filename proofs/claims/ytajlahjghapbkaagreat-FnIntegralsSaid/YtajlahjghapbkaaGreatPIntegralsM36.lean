/- Lemmas. -/
import Derived.Test.YtajlahjghapbkaaGreatRows
import Derived.Test.YtajlahjghapbkaaGreatPIntegralsM34
import Derived.Test.YtajlahjghapbkaaGreatPIntegralsM35
namespace Go.Proofs.YtajlahjghapbkaaGreat
section
open Go.RowKit

theorem lg_succ (p0 p1 p2 : PtD) (u : List RatD) {k : Nat} : addP (lgP (gradTo p0 p1 p2 3) u k) (sclP (pix u k) (pix (gradTo p0 p1 p2 3) k)) = lgP (gradTo p0 p1 p2 3) u (k + 1) := rfl
def PtRd (w : World) (p : PtD) (e : Ending) (w' : World) : Prop := ∃ s1 A1 n1 c1 B1 m1 d1 t1 C1 i1 e1 D1 j1 f1, e = .returned (.agg #[.bool s1, .slice A1 n1 c1, .slice B1 m1 d1, .bool t1, .slice C1 i1 e1, .slice D1 j1 f1]) ∧ RdR w' s1 A1 n1 c1 B1 m1 d1 p.x ∧ RdR w' t1 C1 i1 e1 D1 j1 f1 p.y ∧ Bl w w'
set_option maxRecDepth 100000 in
set_option maxHeartbeats 32000000 in
theorem LocalGradient_yes (w : World) {g c0 : Nat} {p0 p1 p2 : PtD} (h : RdPS w (some ⟨g, 0, none⟩) 3 c0 [p0, p1, p2]) (hp : Hid (propB [p0, p1, p2] = true)) {gu d : Nat} {u : List RatD} (hu : RdRS w (some ⟨gu, 0, none⟩) 3 d u) (hok : Hid (AllOk u)) (hE : Hid (gradL [p0, p1, p2] = gradTo p0 p1 p2 3)) :
    Calls Tryz.prog 33 #[.slice (some ⟨g, 0, none⟩) 3 c0, .slice (some ⟨gu, 0, none⟩) 3 d] w (PtRd w (lgP (gradTo p0 p1 p2 3) u 3)) := by
  go_enter Tryz.func33, Tryz.ntmps33
  go_wp2_with fail
  refine calls_gen (fun W => Bl w W ∧ Wk 6 31 w.heap.size W) ⟨slc, bts⟩ ?_
  rintro W ⟨hbW, hr⟩
  refine (hasValues_yes _ (RdPS.bl h hbW) hp (RdRS.bl hu hbW) hok).mono ?_
  rintro e w1 ⟨rfl, hb1⟩
  have hr := hr.bl hb1
  have hbW := hbW.next hb1
  clear hb1
  go_wp2_with fail
  refine (PointAt_any _ 0 0 (by omega) (by omega) (by omega) (by omega)).mono ?_
  rintro e w3 ⟨s3, A3, n3, c3, B3, m3, d3, t3, C3, i3, e3, D3, j3, f3, rfl, hP3, hb3⟩
  have hr := hr.bl hb3
  have hbW := hbW.next hb3
  have hrl := hr.lt
  clear hb3
  go_wp2_with fail
  refine calls_gen (fun W => Bl w3 W ∧ ∃ g7, Blk W g7 31 #[.bool s3, .slice A3 n3 c3, .slice B3 m3 d3, .bool t3, .slice C3 i3 e3, .slice D3 j3 f3] ∧ g7 = w3.heap.size) ⟨by exact slc, _, by exact bts, rfl⟩ ?_
  rintro W4 ⟨hb4, g7, h7, hg7⟩
  rw [← hg7]
  have hr := hr.bl hb4
  have hbW := hbW.next hb4
  have hP3 := (OwPN.q hP3).bl' hb4
  have hrg : w.heap.size < g7 := by omega
  clear hb4 hg7 hrl
  refine (Gradients_any _ (RdPS.bl h hbW)).mono ?_
  rw [hE.out]
  rintro e w5 ⟨A5, n5, c5, rfl, hZ, _, hb5⟩
  obtain rfl : n5 = 3 := by rw [← hZ.1, gradTo_len]
  have hgz : g7 < W4.heap.size := h7.lt
  obtain ⟨g5, rfl⟩ : ∃ g5, A5 = some ⟨g5, 0, none⟩ := by
    obtain ⟨_, _, _, h0 | ⟨g5, _, _, e, _⟩⟩ := id hZ
    · omega
    · exact ⟨g5, e⟩
  have hr := hr.bl hb5
  have hbW := hbW.next hb5
  have h7 := h7.bl hb5
  have hF7 : OwPN AnyN 3 0 w5 s3 A3 n3 c3 B3 m3 d3 t3 C3 i3 e3 D3 j3 f3 (lgP (gradTo p0 p1 p2 3) u 0) := OwPN.low' (hP3.bl' hb5) (Nat.zero_le _)
  clear hb5 hP3
  go_wp2_with fail
  go_loopw [17] (fun x wr => ∃ (k : Nat) (s7 : Bool) (A7 : Option Addr) (n7 c7 : Nat) (B7 : Option Addr) (m7 d7 : Nat) (t7 : Bool) (C7 : Option Addr) (i7 e7 : Nat) (D7 : Option Addr) (j7 f7 : Nat), k ≤ 3 ∧ x = .int .i64 (k : Int) ∧ Blk wr g7 31 #[.bool s7, .slice A7 n7 c7, .slice B7 m7 d7, .bool t7, .slice C7 i7 e7, .slice D7 j7 f7] ∧ OwPN AnyN 3 0 wr s7 A7 n7 c7 B7 m7 d7 t7 C7 i7 e7 D7 j7 f7 (lgP (gradTo p0 p1 p2 3) u k) ∧ Ob [g7] w5 wr) (fun x _ => 3 - (intOf x).toNat)
  case atStart => exact ⟨0, _, _, _, _, _, _, _, _, _, _, _, _, _, _, by omega, rfl, h7, hF7, Ob.refl _ _⟩
  case round =>
    clear h7 hF7
    obtain ⟨k, s7, A7, n7, c7, B7, m7, d7, t7, C7, i7, e7, D7, j7, f7, hk, rfl, h7, hF7, hO⟩ := hrel
    obtain ⟨wi, rfl⟩ : ∃ wi : World, wi = wr := ⟨_, rfl⟩
    by_cases hk3 : k < 3
    · have hki : (k : Int) < 3 := by omega
      have hbj : Bl w wi := hbW.ob hO (fun b hb => by simp at hb; omega)
      have hlr := (OwPZ.ob hZ hO (fun b hb => by simp at hb; omega)).rd
      obtain ⟨_, ee, hll, hcc⟩ := hlr.cells k hk3
      cases ee
      rw [Addr.add_lit, Nat.zero_add] at hcc
      obtain ⟨sk, Ak, nk, ck, Bk, mk, dk, tk, Ck, ik, ek, Dk, jk, fk, ⟨xl0, xl1, xl2, xl3, xl4, xl5⟩, hXk, hYk⟩ := (show PtAt wi ⟨g5, (k * 6), none⟩ (pix (gradTo p0 p1 p2 3) k) from hcc)
      clear hcc
      have xl0 : wi.cell? ⟨g5, (k * 6), none⟩ = some (.bool sk) := xl0
      have xl1 : wi.cell? ⟨g5, (k * 6) + 1, none⟩ = some (.slice Ak nk ck) := xl1
      have xl2 : wi.cell? ⟨g5, (k * 6) + 2, none⟩ = some (.slice Bk mk dk) := xl2
      have xl3 : wi.cell? ⟨g5, (k * 6) + 3, none⟩ = some (.bool tk) := xl3
      have xl4 : wi.cell? ⟨g5, (k * 6) + 4, none⟩ = some (.slice Ck ik ek) := xl4
      have xl5 : wi.cell? ⟨g5, (k * 6) + 5, none⟩ = some (.slice Dk jk fk) := xl5
      go_upto_region 7 with (fail)
      refine wp_gen (fun W => Bl wi W ∧ ∃ gx, Blk W gx 31 #[.bool sk, .slice Ak nk ck, .slice Bk mk dk, .bool tk, .slice Ck ik ek, .slice Dk jk fk] ∧ gx = wi.heap.size) ⟨by exact slc, _, by exact bts, rfl⟩ ?_
      rintro wy ⟨hby, gx, hx, hgx⟩
      rw [← hgx]
      have h7 := h7.bl hby
      have hF7 := hF7.bl' hby
      have hXk := hXk.bl hby
      have hYk := hYk.bl hby
      have hO := hO.trans (Ob.of_bl hby _)
      have hbj := hbj.next hby
      clear xl0 xl1 xl2 xl3 xl4 xl5 hgx hll hby hlr
      have hur := RdRS.bl hu hbj
      obtain ⟨_, ee, hlu, hcc⟩ := hur.cells k hk3
      cases ee
      rw [Addr.add_lit, Nat.zero_add] at hcc
      obtain ⟨su, Au, nu, cu, Bu, mu, du, ⟨xu0, xu1, xu2⟩, hxu⟩ := (show RtAt wy ⟨gu, k * 3, none⟩ (pix u k) from hcc)
      clear hcc
      have xu0 : wy.cell? ⟨gu, k * 3, none⟩ = some (.bool su) := xu0
      have xu1 : wy.cell? ⟨gu, k * 3 + 1, none⟩ = some (.slice Au nu cu) := xu1
      have xu2 : wy.cell? ⟨gu, k * 3 + 2, none⟩ = some (.slice Bu mu du) := xu2
      have hHeld : (fun w' => (w'.cell? ⟨g7, 0, none⟩ = some (.bool s7) ∧ w'.cell? ⟨g7, 1, none⟩ = some (.slice A7 n7 c7) ∧ w'.cell? ⟨g7, 2, none⟩ = some (.slice B7 m7 d7) ∧ w'.cell? ⟨g7, 3, none⟩ = some (.bool t7) ∧ w'.cell? ⟨g7, 4, none⟩ = some (.slice C7 i7 e7) ∧ w'.cell? ⟨g7, 5, none⟩ = some (.slice D7 j7 f7)) ∧ (w'.cell? ⟨gx, 0, none⟩ = some (.bool sk) ∧ w'.cell? ⟨gx, 1, none⟩ = some (.slice Ak nk ck) ∧ w'.cell? ⟨gx, 2, none⟩ = some (.slice Bk mk dk) ∧ w'.cell? ⟨gx, 3, none⟩ = some (.bool tk) ∧ w'.cell? ⟨gx, 4, none⟩ = some (.slice Ck ik ek) ∧ w'.cell? ⟨gx, 5, none⟩ = some (.slice Dk jk fk)) ∧ (w'.cell? ⟨gu, k * 3, none⟩ = some (.bool su) ∧ w'.cell? ⟨gu, k * 3 + 1, none⟩ = some (.slice Au nu cu) ∧ w'.cell? ⟨gu, k * 3 + 2, none⟩ = some (.slice Bu mu du))) (wy.drew) := ⟨bx6 (T := 31) (h7.bl slc), bx6 (T := 31) (hx.bl slc), ⟨(Bl.cellOf (w := wy) (p := ⟨gu, k * 3, none⟩) slc hlu).trans xu0, (Bl.cellOf (w := wy) (p := ⟨gu, k * 3 + 1, none⟩) slc hlu).trans xu1, (Bl.cellOf (w := wy) (p := ⟨gu, k * 3 + 2, none⟩) slc hlu).trans xu2⟩⟩
      refine wp_region_T 8 9 (fun w' => (w'.cell? ⟨g7, 0, none⟩ = some (.bool s7) ∧ w'.cell? ⟨g7, 1, none⟩ = some (.slice A7 n7 c7) ∧ w'.cell? ⟨g7, 2, none⟩ = some (.slice B7 m7 d7) ∧ w'.cell? ⟨g7, 3, none⟩ = some (.bool t7) ∧ w'.cell? ⟨g7, 4, none⟩ = some (.slice C7 i7 e7) ∧ w'.cell? ⟨g7, 5, none⟩ = some (.slice D7 j7 f7)) ∧ (w'.cell? ⟨gx, 0, none⟩ = some (.bool sk) ∧ w'.cell? ⟨gx, 1, none⟩ = some (.slice Ak nk ck) ∧ w'.cell? ⟨gx, 2, none⟩ = some (.slice Bk mk dk) ∧ w'.cell? ⟨gx, 3, none⟩ = some (.bool tk) ∧ w'.cell? ⟨gx, 4, none⟩ = some (.slice Ck ik ek) ∧ w'.cell? ⟨gx, 5, none⟩ = some (.slice Dk jk fk)) ∧ (w'.cell? ⟨gu, k * 3, none⟩ = some (.bool su) ∧ w'.cell? ⟨gu, k * 3 + 1, none⟩ = some (.slice Au nu cu) ∧ w'.cell? ⟨gu, k * 3 + 2, none⟩ = some (.slice Bu mu du))) rfl (by kernel_rfl) hHeld ?_
      refine wpAnyT_take (i := 0) (oi := _) (v := ?_) (fuel := 8) rfl (by kernel_rfl) (by kernel_rfl) (by kernel_rfl) (by kernel_rfl) (fun _ _ _ h => h) (by rfl) ?_ hHeld ?_
      rotate_left 1
      · (intro w' hSw; (try dsimp only at hSw); go_simp <;> with_reducible rfl)
      refine wpAnyT_take (i := 1) (oi := _) (v := ?_) (fuel := 7) rfl (by kernel_rfl) (by kernel_rfl) (by kernel_rfl) (by kernel_rfl) (fun _ _ _ h => h) (by rfl) ?_ hHeld ?_
      rotate_left 1
      · (intro w' hSw; (try dsimp only at hSw); go_simp <;> with_reducible rfl)
      refine wpAnyT_take (i := 2) (oi := _) (v := ?_) (fuel := 6) rfl (by kernel_rfl) (by kernel_rfl) (by kernel_rfl) (by kernel_rfl) (fun _ _ _ h => h) (by rfl) ?_ hHeld ?_
      rotate_left 1
      · (intro w' hSw; (try dsimp only at hSw); go_simp <;> with_reducible rfl)
      refine wpAnyT_take (i := 3) (oi := _) (v := ?_) (fuel := 5) rfl (by kernel_rfl) (by kernel_rfl) (by kernel_rfl) (by kernel_rfl) (fun _ _ _ h => h) (by rfl) ?_ hHeld ?_
      rotate_left 1
      · (intro w' hSw; (try dsimp only at hSw); go_simp <;> with_reducible rfl)
      refine wpAnyT_take (i := 4) (oi := _) (v := ?_) (fuel := 4) rfl (by kernel_rfl) (by kernel_rfl) (by kernel_rfl) (by kernel_rfl) (fun _ _ _ h => h) (by rfl) ?_ hHeld ?_
      rotate_left 1
      · (intro w' hSw; (try dsimp only at hSw); go_simp <;> with_reducible rfl)
      refine wpAnyT_take (i := 5) (oi := _) (v := ?_) (fuel := 3) rfl (by kernel_rfl) (by kernel_rfl) (by kernel_rfl) (by kernel_rfl) (fun _ _ _ h => h) (by rfl) ?_ hHeld ?_
      rotate_left 1
      · (intro w' hSw; (try dsimp only at hSw); go_simp <;> with_reducible rfl)
      clear hHeld
      simp only [Act.put, List.setIfInBounds_toArray]
      refine wpAnyT_step (i := 6) (o := _) (fuel := 2) rfl (by kernel_rfl) (fun K hK => ?_)
      go_simp
      refine (ScalePoint_any _ (hxu.bl slc) (hXk.bl slc) (hYk.bl slc)).mono ?_
      rintro e w6 ⟨s5, A5, n5, c5, B5, m5, d5, t5, C5, i5, e5, D5, j5, f5, rfl, hR5, hb6⟩
      have hb6 : Bl wy w6 := (show Bl wy wy.drew from slc).next hb6
      refine hK.out _ _ (fun _ => ⟨bx6 (T := 31) (h7.bl slc), bx6 (T := 31) (hx.bl slc), ⟨(Bl.cellOf (w := wy) (p := ⟨gu, k * 3, none⟩) slc hlu).trans xu0, (Bl.cellOf (w := wy) (p := ⟨gu, k * 3 + 1, none⟩) slc hlu).trans xu1, (Bl.cellOf (w := wy) (p := ⟨gu, k * 3 + 2, none⟩) slc hlu).trans xu2⟩⟩) ?_
      clear hK K
      try simp only [Act.put, List.setIfInBounds_toArray, List.set_cons_zero, List.set_cons_succ]
      refine wpAnyT_step (i := 7) (o := _) (fuel := 1) rfl (by kernel_rfl) (fun K hK => ?_)
      go_simp
      refine (AddPoints_any _ (hF7.rdx.1.bl slc) (hF7.rdx.2.bl slc) (hR5.rx.bl slc) (hR5.ry.bl slc)).mono ?_
      rintro e w7 ⟨s6, A6, n6, c6, B6, m6, d6, t6, C6, i6, e6, D6, j6, f6, rfl, hRn, hbn⟩
      have hbn : Bl wy w7 := hb6.next hbn
      refine hK.out _ _ (fun _ => ⟨bx6 (T := 31) (h7.bl slc), bx6 (T := 31) (hx.bl slc), ⟨(Bl.cellOf (w := wy) (p := ⟨gu, k * 3, none⟩) slc hlu).trans xu0, (Bl.cellOf (w := wy) (p := ⟨gu, k * 3 + 1, none⟩) slc hlu).trans xu1, (Bl.cellOf (w := wy) (p := ⟨gu, k * 3 + 2, none⟩) slc hlu).trans xu2⟩⟩) ?_
      clear hK K
      try simp only [Act.put, List.setIfInBounds_toArray, List.set_cons_zero, List.set_cons_succ]
      have h7 := h7.bl hbn
      obtain ⟨z0', z1', z2', z3', z4', z5'⟩ := bx6 h7
      have zf0 := h7.frozen 0
      have zf1 := h7.frozen 1
      have zf2 := h7.frozen 2
      have zf3 := h7.frozen 3
      have zf4 := h7.frozen 4
      have zf5 := h7.frozen 5
      refine wpAnyT_step (i := 8) (o := _) (fuel := 0) rfl (by kernel_rfl) (fun K hK => ?_)
      go_simp
      refine hK.out _ _ (fun h => absurd rfl h) ?_
      clear hK K
      try simp only [Act.put, List.setIfInBounds_toArray]
      refine wpAnyT_done (by kernel_rfl) ?_
      rw [lg_succ] at hRn
      have hk : Wk 6 31 g7 w7 := Wk.of h7 rfl
      have hF7 := OwPN.put6 (OwPN.low' (OwPN.q hRn) (Nat.zero_le _)) hk ne_ip (.bool s6) (.slice A6 n6 c6) (.slice B6 m6 d6) (.bool t6) (.slice C6 i6 e6) (.slice D6 j6 f6)
      have h7 : Blk ((((((w7.setCell ⟨g7, 0, none⟩ (.bool s6)).setCell ⟨g7, 1, none⟩ (.slice A6 n6 c6)).setCell ⟨g7, 2, none⟩ (.slice B6 m6 d6)).setCell ⟨g7, 3, none⟩ (.bool t6)).setCell ⟨g7, 4, none⟩ (.slice C6 i6 e6)).setCell ⟨g7, 5, none⟩ (.slice D6 j6 f6)) g7 31 #[.bool s6, .slice A6 n6 c6, .slice B6 m6 d6, .bool t6, .slice C6 i6 e6, .slice D6 j6 f6] := by simpa using (((((h7.set_ 0 (.bool s6)).set_ 1 (.slice A6 n6 c6)).set_ 2 (.slice B6 m6 d6)).set_ 3 (.bool t6)).set_ 4 (.slice C6 i6 e6)).set_ 5 (.slice D6 j6 f6)
      have hOz : Ob [g7] w5 ((((((w7.setCell ⟨g7, 0, none⟩ (.bool s6)).setCell ⟨g7, 1, none⟩ (.slice A6 n6 c6)).setCell ⟨g7, 2, none⟩ (.slice B6 m6 d6)).setCell ⟨g7, 3, none⟩ (.bool t6)).setCell ⟨g7, 4, none⟩ (.slice C6 i6 e6)).setCell ⟨g7, 5, none⟩ (.slice D6 j6 f6)) := ((((((hO.trans (Ob.of_bl hbn _)).set (by simp) 0 _).set (by simp) 1 _).set (by simp) 2 _).set (by simp) 3 _).set (by simp) 4 _).set (by simp) 5 _
      generalize ((((((w7.setCell ⟨g7, 0, none⟩ (.bool s6)).setCell ⟨g7, 1, none⟩ (.slice A6 n6 c6)).setCell ⟨g7, 2, none⟩ (.slice B6 m6 d6)).setCell ⟨g7, 3, none⟩ (.bool t6)).setCell ⟨g7, 4, none⟩ (.slice C6 i6 e6)).setCell ⟨g7, 5, none⟩ (.slice D6 j6 f6)) = wz at hF7 h7 hOz ⊢
      clear hk hRn hbn
      go_wp2_with fail
      go_roundw
      case rel => exact ⟨k + 1, _, _, _, _, _, _, _, _, _, _, _, _, _, _, by omega, by go_num, h7, hF7, hOz⟩
      case measure => simp [intOf]; omega
    · obtain rfl : k = 3 := by omega
      have e0 : ((3 : Nat) : Int) = 3 := rfl
      rw [e0]
      clear e0 hk hk3
      have hbj : Bl w wi := hbW.ob hO (fun b hb => by simp at hb; omega)
      have hr := hr.ob hO (by simp; omega)
      have hF := OwPN.put6 hF7 hr ne_ip (.bool s7) (.slice A7 n7 c7) (.slice B7 m7 d7) (.bool t7) (.slice C7 i7 e7) (.slice D7 j7 f7)
      obtain ⟨i0_, i1_, i2_, i3_, i4_, i5_⟩ := bx6 h7
      obtain ⟨v0, x0⟩ := hr.val_ (i := 0) (by omega)
      obtain ⟨v1, x1⟩ := hr.val_ (i := 1) (by omega)
      obtain ⟨v2, x2⟩ := hr.val_ (i := 2) (by omega)
      obtain ⟨v3, x3⟩ := hr.val_ (i := 3) (by omega)
      obtain ⟨v4, x4⟩ := hr.val_ (i := 4) (by omega)
      obtain ⟨v5, x5⟩ := hr.val_ (i := 5) (by omega)
      have hg := hr.lt
      obtain ⟨cs4, hB4, hc4⟩ := hr
      have hf0 := hB4.frozen 0
      have hf1 := hB4.frozen 1
      have hf2 := hB4.frozen 2
      have hf3 := hB4.frozen 3
      have hf4 := hB4.frozen 4
      have hf5 := hB4.frozen 5
      go_wp2_with fail
      exact bodyPost_ret (v := .agg #[.bool s7, .slice A7 n7 c7, .slice B7 m7 d7, .bool t7, .slice C7 i7 e7, .slice D7 j7 f7]) (by simp [results, Tryz.results33, go_sem, x0, x1, x2, x3, x4, x5]) rfl ⟨_, _, _, _, _, _, _, _, _, _, _, _, _, _, rfl, hF.rdx.1, hF.rdx.2, slc⟩
end

section
open Go.RowKit

theorem rdRS3 {w : World} {g c : Nat} {sa : Bool} {Aa : Option Addr} {na ca : Nat} {Ba : Option Addr} {ma da : Nat} {sb : Bool} {Ab : Option Addr} {nb cb : Nat} {Bb : Option Addr} {mb db : Nat} {sc : Bool} {Ac : Option Addr} {nc cc : Nat} {Bc : Option Addr} {mc dc : Nat} {r0 r1 r2 : RatD} (hB : Blk w g 29 #[.bool sa, .slice Aa na ca, .slice Ba ma da, .bool sb, .slice Ab nb cb, .slice Bb mb db, .bool sc, .slice Ac nc cc, .slice Bc mc dc]) (h0 : RdR w sa Aa na ca Ba ma da r0) (h1 : RdR w sb Ab nb cb Bb mb db r1) (h2 : RdR w sc Ac nc cc Bc mc dc r2) (hc : 3 ≤ c) : RdRS w (some ⟨g, 0, none⟩) 3 c [r0, r1, r2] := by
  refine ⟨rfl, hc, by omega, fun k hk => ⟨_, rfl, hB.lt, ?_⟩⟩
  rcases (show k = 0 ∨ k = 1 ∨ k = 2 by omega) with rfl | rfl | rfl
  · exact ⟨_, _, _, _, _, _, _, ⟨hB.cell 0, hB.cell 1, hB.cell 2⟩, h0⟩
  · exact ⟨_, _, _, _, _, _, _, ⟨hB.cell 3, hB.cell 4, hB.cell 5⟩, h1⟩
  · exact ⟨_, _, _, _, _, _, _, ⟨hB.cell 6, hB.cell 7, hB.cell 8⟩, h2⟩
theorem ig3 {p0 p1 p2 : PtD} {l : List RatD} (h0 : PtS p0) (h1 : PtS p1) (h2 : PtS p2) (hp : propB [p0, p1, p2] = true) (hl : l.length = 3) (hr : RasL l) : IgOk p0 p1 p2 l := by
  obtain ⟨x0, y0, rfl, a0, b0⟩ := h0
  obtain ⟨x1, y1, rfl, a1, b1⟩ := h1
  obtain ⟨x2, y2, rfl, a2, b2⟩ := h2
  match l, hl, hr with
  | [r0, r1, r2], _, hr =>
    obtain ⟨a, ea, ba⟩ := hr 0 (by simp)
    obtain ⟨b, eb, bb⟩ := hr 1 (by simp)
    obtain ⟨c, ec, bc⟩ := hr 2 (by simp)
    have ea : r0 = toR a := ea
    have eb : r1 = toR b := eb
    have ec : r2 = toR c := ec
    subst ea eb ec
    exact ig_ok ⟨a0, b0, a1, b1, a2, b2⟩ hp ba bb bc
theorem eqR_of {a b : RatD} (h : a = b) : eqR a b = true := by rw [h]; exact eqR_self' b
set_option maxRecDepth 100000 in
set_option maxHeartbeats 32000000 in
theorem FnIntegrals_any (w0 : World) {Ac : Option Addr} {nc cc : Nat} {lc : List Int} (hc : RdB w0 Ac nc cc lc) :
    Calls Tryz.prog 4 #[.slice Ac nc cc] w0 fun e w' => e = .returned (.bool true) ∧ Bl w0 w' := by
  have hn := hc.small
  by_cases hbig : (nc : Int) > 1048576
  · go_enter Tryz.func4, Tryz.ntmps4
    go_wp2_with fail
    go_ret
    exact ⟨rfl, slc⟩
  · have hsmall : ¬ 1048576 < (nc : Int) := hbig
    go_enter Tryz.func4, Tryz.ntmps4
    go_wp2_with fail
    refine (MakeTriangle_any _ 0 (by omega) hc).mono ?_
    rintro e w ⟨g, c0, p0, p1, p2, rfl, hl, hp0, hS0, hS1, hS2, hb0⟩
    have hp := Lib.hid hp0
    clear hp0
    go_wp2_with fail
    refine (MakeVector_any _ 4 (by omega) 3 (by omega) (by omega) (hc.bl hb0)).mono ?_
    rintro e wq ⟨gu, d, u, rfl, hu, hru, hbq⟩
    have hI := ig3 hS0 hS1 hS2 hp.out hu.len hru
    unfold IgOk at hI
    obtain ⟨⟨i1, i2, i3, i4, i5, i6⟩, j1, j2, j3, j4, j5⟩ := hI
    have hEu := Lib.hid i1
    have hEo := Lib.hid i2
    have hEq := Lib.hid i3
    have hEb := Lib.hid i4
    have hEg := Lib.hid i5
    have hEm := Lib.hid i6
    have hE1 := Lib.hid j1
    have hE2 := Lib.hid (eqR_of j2)
    have hE3 := Lib.hid (eqR_of j3)
    have hE4 := Lib.hid (eqR_of j4)
    have hE5 := Lib.hid (eqP_iff.2 j5)
    clear i1 i2 i3 i4 i5 i6 j1 j2 j3 j4 j5 hru hS0 hS1 hS2 hc hn
    have hl := RdPS.bl hl hbq
    have hbw := hb0.next hbq
    clear hb0 hbq
    go_wp2_with fail
    refine (RatFromInt_any _ 1 (by omega) (by omega)).mono ?_
    rintro e wa ⟨sa, Aa, na, ca, Ba, ma, da, rfl, hRa, hba⟩
    go_wp2_with fail
    refine (RatFromInt_any _ 1 (by omega) (by omega)).mono ?_
    rintro e wb ⟨sb, Ab, nb, cb, Bb, mb, db, rfl, hRb, hbb⟩
    go_wp2_with fail
    refine (RatFromInt_any _ 1 (by omega) (by omega)).mono ?_
    rintro e wc ⟨sc, Ac, nc, cc, Bc, mc, dc, rfl, hRc, hbc⟩
    go_wp2_with fail
    refine calls_gen (fun W => Bl wc W ∧ ∃ go, Blk W go 29 #[.bool sa, .slice Aa na ca, .slice Ba ma da, .bool sb, .slice Ab nb cb, .slice Bb mb db, .bool sc, .slice Ac nc cc, .slice Bc mc dc] ∧ go = wc.heap.size) ⟨by exact slc, _, by exact bts, rfl⟩ ?_
    rintro W ⟨hbW, go, hBo, hgo⟩
    rw [← hgo]
    have ho : RdRS W (some ⟨go, 0, none⟩) 3 3 oneV := rdRS3 hBo (((hRa.rd.bl hbb).bl hbc).bl hbW) ((hRb.rd.bl hbc).bl hbW) (hRc.rd.bl hbW) (by omega)
    have hbx : Bl wq W := ((hba.next hbb).next hbc).next hbW
    have hl := RdPS.bl hl hbx
    have hu := RdRS.bl hu hbx
    have hbw := hbw.next hbx
    clear hgo hBo hRa hRb hRc hba hbb hbc hbW hbx
    refine (IntegralOf_yes _ hl hp hu hEu).mono ?_
    rintro e w6 ⟨s6, A6, n6, c6, B6, m6, d6, rfl, hR6, hb6⟩
    have hR6 := hR6.rd
    have hl := RdPS.bl hl hb6
    have hu := RdRS.bl hu hb6
    have ho := RdRS.bl ho hb6
    have hbw := hbw.next hb6
    clear hb6
    go_upto_region 7 with (fail)
    refine wp_gen (fun W => Bl w6 W ∧ ∃ g6, Blk W g6 29 #[.bool s6, .slice A6 n6 c6, .slice B6 m6 d6] ∧ g6 = w6.heap.size) ⟨by exact slc, _, by exact bts, rfl⟩ ?_
    rintro W7 ⟨hbW, g6, h6, hg6⟩
    rw [← hg6]
    have hR6 := hR6.bl hbW
    have hl := RdPS.bl hl hbW
    have hu := RdRS.bl hu hbW
    have ho := RdRS.bl ho hbW
    have hbw := hbw.next hbW
    clear hg6 hbW
    obtain ⟨_, ee, hly, hcc⟩ := hl.cells 1 (by omega)
    cases ee
    rw [Addr.add_lit, Nat.zero_add] at hcc
    obtain ⟨sq, Aq, nq, cq, Bq, mq, dq, tq, Cq, iq, eq, Dq, jq, fq, ⟨y0, y1, y2, y3, y4, y5⟩, hXq, hYq⟩ := (show PtAt W7 ⟨g, 6, none⟩ (p1) from hcc)
    clear hcc
    have y0 : W7.cell? ⟨g, 6, none⟩ = some (.bool sq) := y0
    have y1 : W7.cell? ⟨g, 7, none⟩ = some (.slice Aq nq cq) := y1
    have y2 : W7.cell? ⟨g, 8, none⟩ = some (.slice Bq mq dq) := y2
    have y3 : W7.cell? ⟨g, 9, none⟩ = some (.bool tq) := y3
    have y4 : W7.cell? ⟨g, 10, none⟩ = some (.slice Cq iq eq) := y4
    have y5 : W7.cell? ⟨g, 11, none⟩ = some (.slice Dq jq fq) := y5
    obtain ⟨_, ee, hlu, hcc⟩ := hu.cells 1 (by omega)
    cases ee
    rw [Addr.add_lit, Nat.zero_add] at hcc
    obtain ⟨su, Au, nu, cu, Bu, mu, du, ⟨xu0, xu1, xu2⟩, hxu⟩ := (show RtAt W7 ⟨gu, 3, none⟩ (pix u 1) from hcc)
    clear hcc
    have xu0 : W7.cell? ⟨gu, 3, none⟩ = some (.bool su) := xu0
    have xu1 : W7.cell? ⟨gu, 4, none⟩ = some (.slice Au nu cu) := xu1
    have xu2 : W7.cell? ⟨gu, 5, none⟩ = some (.slice Bu mu du) := xu2
    go_region_held3 (fun w' => (w'.cell? ⟨g6, 0, none⟩ = some (.bool s6) ∧ w'.cell? ⟨g6, 1, none⟩ = some (.slice A6 n6 c6) ∧ w'.cell? ⟨g6, 2, none⟩ = some (.slice B6 m6 d6)) ∧ (w'.cell? ⟨g, 6, none⟩ = some (.bool sq) ∧ w'.cell? ⟨g, 7, none⟩ = some (.slice Aq nq cq) ∧ w'.cell? ⟨g, 8, none⟩ = some (.slice Bq mq dq) ∧ w'.cell? ⟨g, 9, none⟩ = some (.bool tq) ∧ w'.cell? ⟨g, 10, none⟩ = some (.slice Cq iq eq) ∧ w'.cell? ⟨g, 11, none⟩ = some (.slice Dq jq fq)) ∧ (w'.cell? ⟨gu, 3, none⟩ = some (.bool su) ∧ w'.cell? ⟨gu, 4, none⟩ = some (.slice Au nu cu) ∧ w'.cell? ⟨gu, 5, none⟩ = some (.slice Bu mu du))) (first | exact ⟨bx3 (T := 29) (h6.bl slc), ⟨(Bl.cellOf (w := W7) (p := ⟨g, 6, none⟩) slc hly).trans y0, (Bl.cellOf (w := W7) (p := ⟨g, 7, none⟩) slc hly).trans y1, (Bl.cellOf (w := W7) (p := ⟨g, 8, none⟩) slc hly).trans y2, (Bl.cellOf (w := W7) (p := ⟨g, 9, none⟩) slc hly).trans y3, (Bl.cellOf (w := W7) (p := ⟨g, 10, none⟩) slc hly).trans y4, (Bl.cellOf (w := W7) (p := ⟨g, 11, none⟩) slc hly).trans y5⟩, ⟨(Bl.cellOf (w := W7) (p := ⟨gu, 3, none⟩) slc hlu).trans xu0, (Bl.cellOf (w := W7) (p := ⟨gu, 4, none⟩) slc hlu).trans xu1, (Bl.cellOf (w := W7) (p := ⟨gu, 5, none⟩) slc hlu).trans xu2⟩⟩) (first | (go_at_call 29; (with_reducible refine (RatOk_any _ (hR6.bl slc)).mono ?_); rw [hE1.out]; rintro e v1 ⟨rfl, hv1⟩) | (go_at_call 30; (with_reducible refine (ProductIntegral_yes _ (RdPS.bl hl slc) hp (RdRS.bl hu slc) hEu (RdRS.bl ho slc) hEo hEm).mono ?_); rintro e v2 ⟨s2_, A2_, n2_, c2_, B2_, m2_, d2_, rfl, hR2, hv2⟩) | (go_at_call 21; (with_reducible refine (RatEqual_any _ (hR2.bl slc) (hR6.bl slc)).mono ?_); rw [hE2.out]; rintro e v3 ⟨rfl, hv3⟩) | (go_at_call 28; (with_reducible refine (IntegralOf_yes _ (RdPS.bl hl slc) hp (RdRS.bl ho slc) hEo).mono ?_); rintro e v4 ⟨s4_, A4_, n4_, c4_, B4_, m4_, d4_, rfl, hR4, hv4⟩) | (go_at_call 31; (with_reducible refine (AreaOf_any _ (RdPS.bl hl slc)).mono ?_); rintro e v5 ⟨s5_, A5_, n5_, c5_, B5_, m5_, d5_, rfl, hR5, hv5⟩) | (go_at_call 21; (with_reducible refine (RatEqual_any _ (hR4.rd.bl slc) (hR5.rd.bl slc)).mono ?_); rw [hE3.out]; rintro e v6 ⟨rfl, hv6⟩) | (go_at_call 32; (with_reducible refine (ValueIn_yes _ (RdPS.bl hl slc) hp (RdRS.bl hu slc) hEu (hXq.bl slc) (hYq.bl slc) hEq hEb).mono ?_); rintro e v7 ⟨s7_, A7_, n7_, c7_, B7_, m7_, d7_, rfl, hR7, hv7⟩) | (go_at_call 21; (with_reducible refine (RatEqual_any _ (hR7.rd.bl slc) (hxu.bl slc)).mono ?_); rw [hE4.out]; rintro e v8 ⟨rfl, hv8⟩) | (go_at_call 33; (with_reducible refine (LocalGradient_yes _ (RdPS.bl hl slc) hp (RdRS.bl ho slc) hEo hEg).mono ?_); rintro e v9 ⟨sx, Ax, nx, cx, Bx, mx, dx, tx, Cx, ix, ex, Dx, jx, fx, rfl, hPx, hPy, hv9⟩) | (go_at_call 17; (with_reducible refine (PointAt_any _ 0 0 (by omega) (by omega) (by omega) (by omega)).mono ?_); rintro e v10 ⟨sz, Az, nz, cz, Bz, mz, dz, tz, Cz, iz, ez, Dz, jz, fz, rfl, hPz, hv10⟩) | (go_at_call 20; (with_reducible refine (SamePoint_any _ (hPx.bl slc) (hPy.bl slc) (hPz.rx.bl slc) (hPz.ry.bl slc)).mono ?_); rw [hE5.out]; rintro e v11 ⟨rfl, hv11⟩))
    all_goals go_wp2_with fail
    all_goals go_ret
    all_goals exact ⟨rfl, hbw.next (by exact slc)⟩
end

end Go.Proofs.YtajlahjghapbkaaGreat
