/- Lemmas. -/
import Derived.Test.YtajlahjghapbkaaGreatRows
import Derived.Test.YtajlahjghapbkaaGreatPIntegralsM34
import Derived.Test.YtajlahjghapbkaaGreatPIntegralsM33
import Derived.Test.YtajlahjghapbkaaGreatPIntegralsM25
import Derived.Test.YtajlahjghapbkaaGreatPIntegralsM32
import Derived.Deep.Cut
import Derived.Deep.DeepCutAuto
namespace Go.Proofs.YtajlahjghapbkaaGreat
section
open Go.RowKit

theorem OwSZ.row {T1 T2 T3 : TypeId} {lo hi g5 n c : Nat} {w : World} {L : List (List RatD)} (h : OwSZ T1 T2 T3 lo hi w (some ⟨g5, 0, none⟩) n c L) {i : Nat} (hi' : i < n) (hl : 0 < (pix L i).length) :
    ∃ gr cr bs, w.cell? ⟨g5, i, none⟩ = some (.slice (some ⟨gr, 0, none⟩) (pix L i).length cr) ∧ FtRS T1 T2 w (some ⟨gr, 0, none⟩) (pix L i).length cr (pix L i) bs ∧ ∀ b ∈ bs, lo ≤ b := by
  obtain ⟨h1, h2, h3, h4⟩ := h
  rcases h4 with h4 | ⟨g, cs, fs, e, hB, hc, hf, hP, hF⟩
  · omega
  · injection e with e
    injection e with e
    subst e
    obtain ⟨A, n', c', h0, hft⟩ := hP i hi'
    have hb : ∀ b ∈ pix fs i, lo ≤ b := fun b hb => (hF.2 b (List.mem_cons_of_mem _ (mem_flatten_pix hb))).1
    have e1 := hft.1
    rcases hft.2.2.2 with ⟨h0', _⟩ | ⟨gr, cs2, fs2, e2, _⟩
    · omega
    · subst e2
      subst e1
      exact ⟨gr, c', pix fs i, (hB.cell i).trans h0, hft, hb⟩
theorem FtRS.ob {T1 T2 : TypeId} {w W : World} {A : Option Addr} {n c g : Nat} {l : List RatD} {bs : List Nat} (h : FtRS T1 T2 w A n c l bs) (ho : Ob [g] w W) (hb : ∀ b ∈ bs, b ≠ g) : FtRS T1 T2 W A n c l bs :=
  h.keep ho.size fun b hm => ho.block b (h.lt b hm) (by simpa using hb b hm)
theorem prod_row (M : List (List RatD)) (u v : List RatD) (a : RatD) (i j : Nat) : addR (prodRow M u v a i j) (mulR (mulR (pix u i) (pix v j)) (pix (pix M i) j)) = prodRow M u v a i (j + 1) := rfl
theorem prod_all (M : List (List RatD)) (u v : List RatD) (i : Nat) : prodRow M u v (prodAll M u v i) i 3 = prodAll M u v (i + 1) := rfl
def RatRd (w : World) (r : RatD) (e : Ending) (w' : World) : Prop := ∃ s1 A1 n1 c1 B1 m1 d1, e = .returned (.agg #[.bool s1, .slice A1 n1 c1, .slice B1 m1 d1]) ∧ RdR w' s1 A1 n1 c1 B1 m1 d1 r ∧ Bl w w'
set_option maxRecDepth 100000 in
set_option maxHeartbeats 32000000 in
theorem ProductIntegral_yes (w : World) {g c0 : Nat} {p0 p1 p2 : PtD} (h : RdPS w (some ⟨g, 0, none⟩) 3 c0 [p0, p1, p2]) (hp : Hid (propB [p0, p1, p2] = true)) {gu d : Nat} {u : List RatD} (hu : RdRS w (some ⟨gu, 0, none⟩) 3 d u) (hok : Hid (AllOk u)) {gv f : Nat} {v : List RatD} (hv : RdRS w (some ⟨gv, 0, none⟩) 3 f v) (hok2 : Hid (AllOk v)) (hm : Hid (massL [p0, p1, p2] = massTo (areaR p0 p1 p2) 3)) :
    Calls Tryz.prog 30 #[.slice (some ⟨g, 0, none⟩) 3 c0, .slice (some ⟨gu, 0, none⟩) 3 d, .slice (some ⟨gv, 0, none⟩) 3 f] w (RatRd w (prodAll (massTo (areaR p0 p1 p2) 3) u v 3)) := by
  have hMl : ∀ i, i < 3 → (pix (massTo (areaR p0 p1 p2) 3) i).length = 3 := fun i hi => by simp [pix, massTo, massRow, hi]
  have hMl := Lib.hid hMl; rename_i h_; clear h_
  have hMt := Lib.hid (massTo_len (areaR p0 p1 p2) 3)
  obtain ⟨M, hM⟩ : ∃ M, massTo (areaR p0 p1 p2) 3 = M := ⟨_, rfl⟩
  rw [hM] at hm hMl hMt ⊢
  clear hM
  go_enter Tryz.func30, Tryz.ntmps30
  go_wp2_with fail
  refine calls_gen (fun W => Bl w W ∧ Wk 3 29 w.heap.size W) ⟨slc, bts⟩ ?_
  rintro W ⟨hbW, hr⟩
  refine (hasValues_yes _ (RdPS.bl h hbW) hp (RdRS.bl hu hbW) hok).mono ?_
  rintro e w1 ⟨rfl, hb1⟩
  have hr := hr.bl hb1
  have hbW := hbW.next hb1
  clear hb1
  go_wp2_with fail
  refine (isVector_yes _ (RdRS.bl hv hbW) hok2 3 rfl).mono ?_
  rintro e w2 ⟨rfl, hb2⟩
  have hr := hr.bl hb2
  have hbW := hbW.next hb2
  clear hb2
  go_wp2_with fail
  refine (RatFromInt_any _ 0 (by omega) (by omega)).mono ?_
  rintro e w3 ⟨s3, A3, n3, c3, B3, m3, d3, rfl, hR3, hb3⟩
  have hr := hr.bl hb3
  have hbW := hbW.next hb3
  have hrl := hr.lt
  clear hb3
  go_wp2_with fail
  refine calls_gen (fun W => Bl w3 W ∧ ∃ g7, Blk W g7 29 #[.bool s3, .slice A3 n3 c3, .slice B3 m3 d3] ∧ g7 = w3.heap.size) ⟨by exact slc, _, by exact bts, rfl⟩ ?_
  rintro W4 ⟨hb4, g7, h7, hg7⟩
  rw [← hg7]
  have hr := hr.bl hb4
  have hbW := hbW.next hb4
  have hR3 := hR3.bl hb4
  have hrg : w.heap.size < g7 := by omega
  clear hb4 hg7 hrl
  refine (LocalMass_any _ (RdPS.bl h hbW)).mono ?_
  rw [hm.out]
  rintro e w5 ⟨A5, n5, c5, rfl, hZ, hb5⟩
  obtain rfl : n5 = 3 := by have := hZ.1; rw [hMt.out] at this; exact this.symm
  have hgz : g7 < W4.heap.size := h7.lt
  obtain ⟨g5, rfl⟩ : ∃ g5, A5 = some ⟨g5, 0, none⟩ := by
    obtain ⟨_, _, _, h0 | ⟨g5, _, _, e, _⟩⟩ := id hZ
    · omega
    · exact ⟨g5, e⟩
  have hr := hr.bl hb5
  have hbW := hbW.next hb5
  have h7 := h7.bl hb5
  have hF7 : OwR 3 0 w5 s3 A3 n3 c3 B3 m3 d3 (prodAll M u v 0) := (hR3.bl hb5).mono (Nat.zero_le _)
  clear hb5 hR3
  go_wp2_with fail
  go_loopw [26] (fun x wr => ∃ (i : Nat) (s7 : Bool) (A7 : Option Addr) (n7 c7 : Nat) (B7 : Option Addr) (m7 d7 : Nat), i ≤ 3 ∧ x = .int .i64 (i : Int) ∧ Blk wr g7 29 #[.bool s7, .slice A7 n7 c7, .slice B7 m7 d7] ∧ OwR 3 0 wr s7 A7 n7 c7 B7 m7 d7 (prodAll M u v i) ∧ Ob [g7] w5 wr) (fun x _ => 3 - (intOf x).toNat)
  case atStart => exact ⟨0, _, _, _, _, _, _, _, by omega, rfl, h7, hF7, Ob.refl _ _⟩
  case round =>
    clear h7 hF7
    obtain ⟨i, s7, A7, n7, c7, B7, m7, d7, hi, rfl, h7, hF7, hO⟩ := hrel
    obtain ⟨wi, rfl⟩ : ∃ wi : World, wi = wr := ⟨_, rfl⟩
    by_cases hi3 : i < 3
    · have hii : (i : Int) < 3 := by omega
      have hlen := Lib.hid (hMl.out i hi3)
      obtain ⟨gr, cr, bs, x0, hft, hbs⟩ := (OwSZ.ob hZ hO (fun b hb => by simp at hb; omega)).row hi3 (by rw [hlen.out]; omega)
      rw [hlen.out] at x0 hft
      go_wp2_with fail
      go_loopw [33] (fun x wr => ∃ (j : Nat) (s7 : Bool) (A7 : Option Addr) (n7 c7 : Nat) (B7 : Option Addr) (m7 d7 : Nat), j ≤ 3 ∧ x = .int .i64 (j : Int) ∧ Blk wr g7 29 #[.bool s7, .slice A7 n7 c7, .slice B7 m7 d7] ∧ OwR 3 0 wr s7 A7 n7 c7 B7 m7 d7 (prodRow M u v (prodAll M u v i) i j) ∧ Ob [g7] wi wr) (fun x _ => 3 - (intOf x).toNat)
      case atStart => exact ⟨0, _, _, _, _, _, _, _, by omega, rfl, h7, hF7, Ob.refl _ _⟩
      case round =>
        clear h7 hF7
        obtain ⟨j, s7, A7, n7, c7, B7, m7, d7, hj, rfl, h7, hF7, hOi⟩ := hrel
        obtain ⟨wj, rfl⟩ : ∃ wj : World, wj = wr := ⟨_, rfl⟩
        by_cases hj3 : j < 3
        · have hji : (j : Int) < 3 := by omega
          have hO5 := hO.trans hOi
          have hbj : Bl w wj := hbW.ob hO5 (fun b hb => by simp at hb; omega)
          have hrow := (FtRS.ob hft hOi (fun b hb => by have := hbs b hb; omega)).rd
          obtain ⟨_, ee, hlx, hcc⟩ := hrow.cells j hj3
          cases ee
          rw [Addr.add_lit, Nat.zero_add] at hcc
          obtain ⟨sx, Ax, nx, cx, Bx, mx, dx, ⟨xx0, xx1, xx2⟩, hRx⟩ := (show RtAt wj ⟨gr, j * 3, none⟩ (pix (pix M i) j) from hcc)
          clear hcc
          have xx0 : wj.cell? ⟨gr, j * 3, none⟩ = some (.bool sx) := xx0
          have xx1 : wj.cell? ⟨gr, j * 3 + 1, none⟩ = some (.slice Ax nx cx) := xx1
          have xx2 : wj.cell? ⟨gr, j * 3 + 2, none⟩ = some (.slice Bx mx dx) := xx2
          go_upto_region 10 with (fail)
          refine wp_gen (fun W => Bl wj W ∧ ∃ gx, Blk W gx 29 #[.bool sx, .slice Ax nx cx, .slice Bx mx dx] ∧ gx = wj.heap.size) ⟨by exact slc, _, by exact bts, rfl⟩ ?_
          rintro wy ⟨hby, gx, hx, hgx⟩
          rw [← hgx]
          have h7 := h7.bl hby
          have hF7 := hF7.bl hby
          have hRx := hRx.bl hby
          have hO5 := hO5.trans (Ob.of_bl hby _)
          have hOi := hOi.trans (Ob.of_bl hby _)
          have hbj := hbj.next hby
          clear xx0 xx1 xx2 hgx hlx hby hrow
          have hur := RdRS.bl hu hbj
          have hvr := RdRS.bl hv hbj
          obtain ⟨_, ee, hlu, hcc⟩ := hur.cells i hi3
          cases ee
          rw [Addr.add_lit, Nat.zero_add] at hcc
          obtain ⟨su, Au, nu, cu, Bu, mu, du, ⟨xu0, xu1, xu2⟩, hxu⟩ := (show RtAt wy ⟨gu, i * 3, none⟩ (pix u i) from hcc)
          clear hcc
          have xu0 : wy.cell? ⟨gu, i * 3, none⟩ = some (.bool su) := xu0
          have xu1 : wy.cell? ⟨gu, i * 3 + 1, none⟩ = some (.slice Au nu cu) := xu1
          have xu2 : wy.cell? ⟨gu, i * 3 + 2, none⟩ = some (.slice Bu mu du) := xu2
          obtain ⟨_, ee, hlv, hcc⟩ := hvr.cells j hj3
          cases ee
          rw [Addr.add_lit, Nat.zero_add] at hcc
          obtain ⟨sv, Av, nv, cv, Bv, mv, dv, ⟨xv0, xv1, xv2⟩, hxv⟩ := (show RtAt wy ⟨gv, j * 3, none⟩ (pix v j) from hcc)
          clear hcc
          have xv0 : wy.cell? ⟨gv, j * 3, none⟩ = some (.bool sv) := xv0
          have xv1 : wy.cell? ⟨gv, j * 3 + 1, none⟩ = some (.slice Av nv cv) := xv1
          have xv2 : wy.cell? ⟨gv, j * 3 + 2, none⟩ = some (.slice Bv mv dv) := xv2
          have hHeld : (fun w' => (w'.cell? ⟨g7, 0, none⟩ = some (.bool s7) ∧ w'.cell? ⟨g7, 1, none⟩ = some (.slice A7 n7 c7) ∧ w'.cell? ⟨g7, 2, none⟩ = some (.slice B7 m7 d7)) ∧ ((w'.cell? ⟨gx, 0, none⟩ = some (.bool sx) ∧ w'.cell? ⟨gx, 1, none⟩ = some (.slice Ax nx cx) ∧ w'.cell? ⟨gx, 2, none⟩ = some (.slice Bx mx dx))) ∧ (w'.cell? ⟨gu, i * 3, none⟩ = some (.bool su) ∧ w'.cell? ⟨gu, i * 3 + 1, none⟩ = some (.slice Au nu cu) ∧ w'.cell? ⟨gu, i * 3 + 2, none⟩ = some (.slice Bu mu du)) ∧ (w'.cell? ⟨gv, j * 3, none⟩ = some (.bool sv) ∧ w'.cell? ⟨gv, j * 3 + 1, none⟩ = some (.slice Av nv cv) ∧ w'.cell? ⟨gv, j * 3 + 2, none⟩ = some (.slice Bv mv dv))) (wy.drew) := ⟨bx3 (T := 29) (h7.bl slc), bx3 (T := 29) (hx.bl slc), ⟨(Bl.cellOf (w := wy) (p := ⟨gu, i * 3, none⟩) slc hlu).trans xu0, (Bl.cellOf (w := wy) (p := ⟨gu, i * 3 + 1, none⟩) slc hlu).trans xu1, (Bl.cellOf (w := wy) (p := ⟨gu, i * 3 + 2, none⟩) slc hlu).trans xu2⟩, ⟨(Bl.cellOf (w := wy) (p := ⟨gv, j * 3, none⟩) slc hlv).trans xv0, (Bl.cellOf (w := wy) (p := ⟨gv, j * 3 + 1, none⟩) slc hlv).trans xv1, (Bl.cellOf (w := wy) (p := ⟨gv, j * 3 + 2, none⟩) slc hlv).trans xv2⟩⟩
          refine wp_region_T 13 14 (fun w' => (w'.cell? ⟨g7, 0, none⟩ = some (.bool s7) ∧ w'.cell? ⟨g7, 1, none⟩ = some (.slice A7 n7 c7) ∧ w'.cell? ⟨g7, 2, none⟩ = some (.slice B7 m7 d7)) ∧ ((w'.cell? ⟨gx, 0, none⟩ = some (.bool sx) ∧ w'.cell? ⟨gx, 1, none⟩ = some (.slice Ax nx cx) ∧ w'.cell? ⟨gx, 2, none⟩ = some (.slice Bx mx dx))) ∧ (w'.cell? ⟨gu, i * 3, none⟩ = some (.bool su) ∧ w'.cell? ⟨gu, i * 3 + 1, none⟩ = some (.slice Au nu cu) ∧ w'.cell? ⟨gu, i * 3 + 2, none⟩ = some (.slice Bu mu du)) ∧ (w'.cell? ⟨gv, j * 3, none⟩ = some (.bool sv) ∧ w'.cell? ⟨gv, j * 3 + 1, none⟩ = some (.slice Av nv cv) ∧ w'.cell? ⟨gv, j * 3 + 2, none⟩ = some (.slice Bv mv dv))) rfl (by kernel_rfl) hHeld ?_
          refine wpAnyT_take (i := 0) (oi := _) (v := ?_) (fuel := 13) rfl (by kernel_rfl) (by kernel_rfl) (by kernel_rfl) (by kernel_rfl) (fun _ _ _ h => h) (by rfl) ?_ hHeld ?_
          rotate_left 1
          · (intro w' hSw; (try dsimp only at hSw); go_simp <;> with_reducible rfl)
          refine wpAnyT_take (i := 1) (oi := _) (v := ?_) (fuel := 12) rfl (by kernel_rfl) (by kernel_rfl) (by kernel_rfl) (by kernel_rfl) (fun _ _ _ h => h) (by rfl) ?_ hHeld ?_
          rotate_left 1
          · (intro w' hSw; (try dsimp only at hSw); go_simp <;> with_reducible rfl)
          refine wpAnyT_take (i := 2) (oi := _) (v := ?_) (fuel := 11) rfl (by kernel_rfl) (by kernel_rfl) (by kernel_rfl) (by kernel_rfl) (fun _ _ _ h => h) (by rfl) ?_ hHeld ?_
          rotate_left 1
          · (intro w' hSw; (try dsimp only at hSw); go_simp <;> with_reducible rfl)
          refine wpAnyT_take (i := 3) (oi := _) (v := ?_) (fuel := 10) rfl (by kernel_rfl) (by kernel_rfl) (by kernel_rfl) (by kernel_rfl) (fun _ _ _ h => h) (by rfl) ?_ hHeld ?_
          rotate_left 1
          · (intro w' hSw; (try dsimp only at hSw); go_simp <;> with_reducible rfl)
          refine wpAnyT_take (i := 4) (oi := _) (v := ?_) (fuel := 9) rfl (by kernel_rfl) (by kernel_rfl) (by kernel_rfl) (by kernel_rfl) (fun _ _ _ h => h) (by rfl) ?_ hHeld ?_
          rotate_left 1
          · (intro w' hSw; (try dsimp only at hSw); go_simp <;> with_reducible rfl)
          refine wpAnyT_take (i := 5) (oi := _) (v := ?_) (fuel := 8) rfl (by kernel_rfl) (by kernel_rfl) (by kernel_rfl) (by kernel_rfl) (fun _ _ _ h => h) (by rfl) ?_ hHeld ?_
          rotate_left 1
          · (intro w' hSw; (try dsimp only at hSw); go_simp <;> with_reducible rfl)
          refine wpAnyT_take (i := 6) (oi := _) (v := ?_) (fuel := 7) rfl (by kernel_rfl) (by kernel_rfl) (by kernel_rfl) (by kernel_rfl) (fun _ _ _ h => h) (by rfl) ?_ hHeld ?_
          rotate_left 1
          · (intro w' hSw; (try dsimp only at hSw); go_simp <;> with_reducible rfl)
          refine wpAnyT_take (i := 7) (oi := _) (v := ?_) (fuel := 6) rfl (by kernel_rfl) (by kernel_rfl) (by kernel_rfl) (by kernel_rfl) (fun _ _ _ h => h) (by rfl) ?_ hHeld ?_
          rotate_left 1
          · (intro w' hSw; (try dsimp only at hSw); go_simp <;> with_reducible rfl)
          refine wpAnyT_take (i := 8) (oi := _) (v := ?_) (fuel := 5) rfl (by kernel_rfl) (by kernel_rfl) (by kernel_rfl) (by kernel_rfl) (fun _ _ _ h => h) (by rfl) ?_ hHeld ?_
          rotate_left 1
          · (intro w' hSw; (try dsimp only at hSw); go_simp <;> with_reducible rfl)
          refine wpAnyT_take (i := 10) (oi := _) (v := ?_) (fuel := 4) rfl (by kernel_rfl) (by kernel_rfl) (by kernel_rfl) (by kernel_rfl) (fun _ _ _ h => h) (by rfl) ?_ hHeld ?_
          rotate_left 1
          · (intro w' hSw; (try dsimp only at hSw); go_simp <;> with_reducible rfl)
          clear hHeld
          simp only [Act.put, List.setIfInBounds_toArray]
          refine wpAnyT_step (i := 9) (o := _) (fuel := 3) rfl (by kernel_rfl) (fun K hK => ?_)
          go_simp
          refine (RatMul_any _ (hxu.bl slc) (hxv.bl slc)).mono ?_
          rintro e w7 ⟨sy, Ay, ny, cy, By, my, dy, rfl, hRy, hb7⟩
          have hb7 : Bl wy w7 := (show Bl wy wy.drew from slc).next hb7
          refine hK.out _ _ (fun _ => ⟨bx3 (T := 29) (h7.bl slc), bx3 (T := 29) (hx.bl slc), ⟨(Bl.cellOf (w := wy) (p := ⟨gu, i * 3, none⟩) slc hlu).trans xu0, (Bl.cellOf (w := wy) (p := ⟨gu, i * 3 + 1, none⟩) slc hlu).trans xu1, (Bl.cellOf (w := wy) (p := ⟨gu, i * 3 + 2, none⟩) slc hlu).trans xu2⟩, ⟨(Bl.cellOf (w := wy) (p := ⟨gv, j * 3, none⟩) slc hlv).trans xv0, (Bl.cellOf (w := wy) (p := ⟨gv, j * 3 + 1, none⟩) slc hlv).trans xv1, (Bl.cellOf (w := wy) (p := ⟨gv, j * 3 + 2, none⟩) slc hlv).trans xv2⟩⟩) ?_
          clear hK K
          try simp only [Act.put, List.setIfInBounds_toArray, List.set_cons_zero, List.set_cons_succ]
          refine wpAnyT_step (i := 11) (o := _) (fuel := 2) rfl (by kernel_rfl) (fun K hK => ?_)
          go_simp
          refine (RatMul_any _ (hRy.rd.bl slc) (hRx.bl slc)).mono ?_
          rintro e w8 ⟨sz, Az, nz, cz, Bz, mz, dz, rfl, hRz, hb8⟩
          have hb8 : Bl wy w8 := hb7.next hb8
          refine hK.out _ _ (fun _ => ⟨bx3 (T := 29) (h7.bl slc), bx3 (T := 29) (hx.bl slc), ⟨(Bl.cellOf (w := wy) (p := ⟨gu, i * 3, none⟩) slc hlu).trans xu0, (Bl.cellOf (w := wy) (p := ⟨gu, i * 3 + 1, none⟩) slc hlu).trans xu1, (Bl.cellOf (w := wy) (p := ⟨gu, i * 3 + 2, none⟩) slc hlu).trans xu2⟩, ⟨(Bl.cellOf (w := wy) (p := ⟨gv, j * 3, none⟩) slc hlv).trans xv0, (Bl.cellOf (w := wy) (p := ⟨gv, j * 3 + 1, none⟩) slc hlv).trans xv1, (Bl.cellOf (w := wy) (p := ⟨gv, j * 3 + 2, none⟩) slc hlv).trans xv2⟩⟩) ?_
          clear hK K
          try simp only [Act.put, List.setIfInBounds_toArray, List.set_cons_zero, List.set_cons_succ]
          refine wpAnyT_step (i := 12) (o := _) (fuel := 1) rfl (by kernel_rfl) (fun K hK => ?_)
          go_simp
          refine (RatAdd_any _ (hF7.rd.bl slc) (hRz.rd.bl slc)).mono ?_
          rintro e w9 ⟨s6, A6, n6, c6, B6, m6, d6, rfl, hRn, hb9⟩
          have hb9 : Bl wy w9 := hb8.next hb9
          refine hK.out _ _ (fun _ => ⟨bx3 (T := 29) (h7.bl slc), bx3 (T := 29) (hx.bl slc), ⟨(Bl.cellOf (w := wy) (p := ⟨gu, i * 3, none⟩) slc hlu).trans xu0, (Bl.cellOf (w := wy) (p := ⟨gu, i * 3 + 1, none⟩) slc hlu).trans xu1, (Bl.cellOf (w := wy) (p := ⟨gu, i * 3 + 2, none⟩) slc hlu).trans xu2⟩, ⟨(Bl.cellOf (w := wy) (p := ⟨gv, j * 3, none⟩) slc hlv).trans xv0, (Bl.cellOf (w := wy) (p := ⟨gv, j * 3 + 1, none⟩) slc hlv).trans xv1, (Bl.cellOf (w := wy) (p := ⟨gv, j * 3 + 2, none⟩) slc hlv).trans xv2⟩⟩) ?_
          clear hK K
          try simp only [Act.put, List.setIfInBounds_toArray, List.set_cons_zero, List.set_cons_succ]
          have h7 := h7.bl hb9
          obtain ⟨z0', z1', z2'⟩ := bx3 h7
          have zf0 := h7.frozen 0
          have zf1 := h7.frozen 1
          have zf2 := h7.frozen 2
          refine wpAnyT_step (i := 13) (o := _) (fuel := 0) rfl (by kernel_rfl) (fun K hK => ?_)
          go_simp
          refine hK.out _ _ (fun h => absurd rfl h) ?_
          clear hK K
          try simp only [Act.put, List.setIfInBounds_toArray]
          refine wpAnyT_done (by kernel_rfl) ?_
          rw [prod_row] at hRn
          have hk : Wk 3 29 g7 w9 := Wk.of h7 rfl
          have hF7 := OwR.put3 (hRn.mono (Nat.zero_le _)) hk ne_ir (.bool s6) (.slice A6 n6 c6) (.slice B6 m6 d6)
          have h7 : Blk (((w9.setCell ⟨g7, 0, none⟩ (.bool s6)).setCell ⟨g7, 1, none⟩ (.slice A6 n6 c6)).setCell ⟨g7, 2, none⟩ (.slice B6 m6 d6)) g7 29 #[.bool s6, .slice A6 n6 c6, .slice B6 m6 d6] := by simpa using ((h7.set_ 0 (.bool s6)).set_ 1 (.slice A6 n6 c6)).set_ 2 (.slice B6 m6 d6)
          have hOz : Ob [g7] wi (((w9.setCell ⟨g7, 0, none⟩ (.bool s6)).setCell ⟨g7, 1, none⟩ (.slice A6 n6 c6)).setCell ⟨g7, 2, none⟩ (.slice B6 m6 d6)) := (((hOi.trans (Ob.of_bl hb9 _)).set (by simp) 0 _).set (by simp) 1 _).set (by simp) 2 _
          generalize (((w9.setCell ⟨g7, 0, none⟩ (.bool s6)).setCell ⟨g7, 1, none⟩ (.slice A6 n6 c6)).setCell ⟨g7, 2, none⟩ (.slice B6 m6 d6)) = wz at hF7 h7 hOz ⊢
          clear hk hRn hb9
          go_wp2_with fail
          go_roundw
          case rel => exact ⟨j + 1, _, _, _, _, _, _, _, by omega, by go_num, h7, hF7, hOz⟩
          case measure => simp [intOf]; omega
        · obtain rfl : j = 3 := by omega
          have e0 : ((3 : Nat) : Int) = 3 := rfl
          rw [e0]
          clear e0 hj hj3
          rw [prod_all] at hF7
          go_wp2_with fail
          go_roundw
          case rel => exact ⟨i + 1, _, _, _, _, _, _, _, by omega, by go_num, h7, hF7, hO.trans hOi⟩
          case measure => simp [intOf]; omega
    · obtain rfl : i = 3 := by omega
      have e0 : ((3 : Nat) : Int) = 3 := rfl
      rw [e0]
      clear e0 hi hi3
      have hbj : Bl w wi := hbW.ob hO (fun b hb => by simp at hb; omega)
      have hr := hr.ob hO (by simp; omega)
      have hF := OwR.put3 hF7 hr ne_ir (.bool s7) (.slice A7 n7 c7) (.slice B7 m7 d7)
      obtain ⟨i0, i1, i2⟩ := bx3 h7
      obtain ⟨v0, x0⟩ := hr.val_ (i := 0) (by omega)
      obtain ⟨v1, x1⟩ := hr.val_ (i := 1) (by omega)
      obtain ⟨v2, x2⟩ := hr.val_ (i := 2) (by omega)
      have hg := hr.lt
      obtain ⟨cs4, hB4, hc4⟩ := hr
      have hf0 := hB4.frozen 0
      have hf1 := hB4.frozen 1
      have hf2 := hB4.frozen 2
      go_wp2_with fail
      exact bodyPost_ret (v := .agg #[.bool s7, .slice A7 n7 c7, .slice B7 m7 d7]) (by simp [results, Tryz.results30, go_sem, x0, x1, x2]) rfl ⟨_, _, _, _, _, _, _, rfl, hF.rd, slc⟩
end

section
open Go.RowKit

theorem OwPN.put6 {T TP : TypeId} {b0 g k : Nat} {w : World} {s : Bool} {A : Option Addr} {n c : Nat} {B : Option Addr} {m d : Nat} {t : Bool} {C : Option Addr} {i e : Nat} {D : Option Addr} {j f : Nat} {p : PtD} (h : OwPN AnyN T b0 w s A n c B m d t C i e D j f p) (hk : Wk k TP g w) (hne : T ≠ TP) (u0 u1 u2 u3 u4 u5 : Value) :
    OwPN AnyN T b0 ((((((w.setCell ⟨g, 0, none⟩ u0).setCell ⟨g, 1, none⟩ u1).setCell ⟨g, 2, none⟩ u2).setCell ⟨g, 3, none⟩ u3).setCell ⟨g, 4, none⟩ u4).setCell ⟨g, 5, none⟩ u5) s A n c B m d t C i e D j f p :=
  (((((h.setT hk hne 0 u0).setT (hk.set 0 u0) hne 1 u1).setT ((hk.set 0 u0).set 1 u1) hne 2 u2).setT (((hk.set 0 u0).set 1 u1).set 2 u2) hne 3 u3).setT ((((hk.set 0 u0).set 1 u1).set 2 u2).set 3 u3) hne 4 u4).setT (((((hk.set 0 u0).set 1 u1).set 2 u2).set 3 u3).set 4 u4) hne 5 u5
theorem eqR_self' (r : RatD) : eqR r r = true := by unfold eqR eqL; simp
end

end Go.Proofs.YtajlahjghapbkaaGreat
