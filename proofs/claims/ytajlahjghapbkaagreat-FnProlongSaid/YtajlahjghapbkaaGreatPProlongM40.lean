/- Lemmas. -/
import Derived.Test.YtajlahjghapbkaaGreatRows
import Derived.Test.YtajlahjghapbkaaGreatPProlongM39
import Derived.Test.YtajlahjghapbkaaGreatPProlongM27
import Derived.Test.YtajlahjghapbkaaGreatPProlongM36
import Derived.Test.YtajlahjghapbkaaGreatPProlongM19
import Derived.Test.YtajlahjghapbkaaGreatPProlongM14
import Derived.Deep.Cut
import Derived.Deep.DeepCutAuto
namespace Go.Proofs.YtajlahjghapbkaaGreat
section
open Go.RowKit

def StRes (w : World) (g : Nat) (A : Option Addr) (n c : Nat) (l : List Int) (e : Ending) (w' : World) : Prop := ∃ v m, e = .returned v ∧ m ∈ csL ∧ MeOw w.heap.size w' v m ∧ Cur g w' A n c l ∧ Ob [g] w w'
theorem cs0_mem {r : Int} (h0 : 0 ≤ r) (h1 : r < 2) : csQ0 r ∈ csL := by
  rcases (show r = 0 ∨ r = 1 by omega) with rfl | rfl <;> simp [csL]
theorem cs1_mem {r : Int} (h0 : 0 ≤ r) (h1 : r < 3) : csQ1 r ∈ csL := by
  rcases (show r = 0 ∨ r = 1 ∨ r = 2 by omega) with rfl | rfl | rfl <;> simp [csL]
theorem cs2_mem : csQ2 ∈ csL := by simp [csL]
set_option maxRecDepth 100000 in
set_option maxHeartbeats 32000000 in
theorem l07Start_any (w : World) {g n c : Nat} {A : Option Addr} {l : List Int} (hC : Cur g w A n c l) :
    Calls Tryz.prog 112 #[.pointer (some ⟨g, 0, none⟩)] w (StRes w g A n c l) := by
  have hgw := hC.lt
  have hwg : w.heap.size ≠ g := by omega
  have hAl : ∀ ad, A = Option.some ad → 0 < n → ad.block < w.heap.size := fun ad e h0 => by
    obtain ⟨_, _, _, _, _, hR, _⟩ := hC
    obtain ⟨_, e2, hl, _⟩ := hR.cells 0 h0
    rw [e] at e2
    cases e2
    exact hl
  have hwA : ∀ ad, A = Option.some ad → 0 < n → ad.block ≠ w.heap.size := fun ad e h0 => by have := hAl ad e h0; omega
  have hwA := Lib.hid hwA; rename_i h_; clear h_
  clear hAl
  go_enter Tryz.func112, Tryz.ntmps112
  go_wp2_with fail
  refine calls_gen (fun W => Wk 2 57 w.heap.size W ∧ Bl w W) ⟨bts, slc⟩ ?_
  rintro W ⟨hr, hbW⟩
  have hC := hC.bl hbW
  refine (l01Below_any _ 3 (by omega) (by omega) hC).mono ?_
  rintro e W1 ⟨x, rfl, hx0, hx1, hC, hO1⟩
  have hr := hr.ob hO1 (by simp; omega)
  have hO := (Ob.of_bl hbW [g]).trans hO1
  clear hO1 hbW
  rcases (show x = 0 ∨ x = 1 ∨ x = 2 by omega) with rfl | rfl | rfl
  · clear hx0 hx1
    go_wp2_with fail
    refine (sPointAt_any _ 0 0 (by omega) (by omega) (by omega) (by omega)).mono ?_
    rintro e u0 ⟨s0_, A0_, n0_, c0_, B0_, m0_, d0_, t0_, C0_, i0_, e0_, D0_, j0_, f0_, rfl, hP0, hb0⟩
    rw [cp_00] at hP0
    have hP0 := OwPN.low' (OwPN.q hP0) (show w.heap.size + 1 ≤ _ by have := hr.lt; omega)
    have hr := hr.bl hb0
    have hC := hC.bl hb0
    have hO := hO.trans (Ob.of_bl hb0 _)
    clear hb0
    go_wp2_with fail
    refine (sPointAt_any _ 2 0 (by omega) (by omega) (by omega) (by omega)).mono ?_
    rintro e u1 ⟨s1_, A1_, n1_, c1_, B1_, m1_, d1_, t1_, C1_, i1_, e1_, D1_, j1_, f1_, rfl, hP1, hb1⟩
    rw [cp_20] at hP1
    have hP1 := OwPN.low' (OwPN.q hP1) (show w.heap.size + 1 ≤ _ by have := hr.lt; omega)
    have hr := hr.bl hb1
    have hC := hC.bl hb1
    have hO := hO.trans (Ob.of_bl hb1 _)
    have hP0 := hP0.bl' hb1
    clear hb1
    go_wp2_with fail
    refine (sPointAt_any _ 2 2 (by omega) (by omega) (by omega) (by omega)).mono ?_
    rintro e u2 ⟨s2_, A2_, n2_, c2_, B2_, m2_, d2_, t2_, C2_, i2_, e2_, D2_, j2_, f2_, rfl, hP2, hb2⟩
    rw [cp_22] at hP2
    have hP2 := OwPN.low' (OwPN.q hP2) (show w.heap.size + 1 ≤ _ by have := hr.lt; omega)
    have hr := hr.bl hb2
    have hC := hC.bl hb2
    have hO := hO.trans (Ob.of_bl hb2 _)
    have hP0 := hP0.bl' hb2
    have hP1 := hP1.bl' hb2
    clear hb2
    go_wp2_with fail
    refine (sPointAt_any _ 0 2 (by omega) (by omega) (by omega) (by omega)).mono ?_
    rintro e u3 ⟨s3_, A3_, n3_, c3_, B3_, m3_, d3_, t3_, C3_, i3_, e3_, D3_, j3_, f3_, rfl, hP3, hb3⟩
    rw [cp_02] at hP3
    have hP3 := OwPN.low' (OwPN.q hP3) (show w.heap.size + 1 ≤ _ by have := hr.lt; omega)
    have hr := hr.bl hb3
    have hC := hC.bl hb3
    have hO := hO.trans (Ob.of_bl hb3 _)
    have hP0 := hP0.bl' hb3
    have hP1 := hP1.bl' hb3
    have hP2 := hP2.bl' hb3
    clear hb3
    go_wp2_with fail
    refine (sPointAt_any _ 1 1 (by omega) (by omega) (by omega) (by omega)).mono ?_
    rintro e u4 ⟨s4_, A4_, n4_, c4_, B4_, m4_, d4_, t4_, C4_, i4_, e4_, D4_, j4_, f4_, rfl, hP4, hb4⟩
    rw [cp_11] at hP4
    have hP4 := OwPN.low' (OwPN.q hP4) (show w.heap.size + 1 ≤ _ by have := hr.lt; omega)
    have hr := hr.bl hb4
    have hC := hC.bl hb4
    have hO := hO.trans (Ob.of_bl hb4 _)
    have hP0 := hP0.bl' hb4
    have hP1 := hP1.bl' hb4
    have hP2 := hP2.bl' hb4
    have hP3 := hP3.bl' hb4
    clear hb4
    go_wp2_with fail
    refine calls_gen (fun W2 => Bl u4 W2 ∧ ∃ gP, Blk W2 gP 31 #[.bool s0_, .slice A0_ n0_ c0_, .slice B0_ m0_ d0_, .bool t0_, .slice C0_ i0_ e0_, .slice D0_ j0_ f0_, .bool s1_, .slice A1_ n1_ c1_, .slice B1_ m1_ d1_, .bool t1_, .slice C1_ i1_ e1_, .slice D1_ j1_ f1_, .bool s2_, .slice A2_ n2_ c2_, .slice B2_ m2_ d2_, .bool t2_, .slice C2_ i2_ e2_, .slice D2_ j2_ f2_, .bool s3_, .slice A3_ n3_ c3_, .slice B3_ m3_ d3_, .bool t3_, .slice C3_ i3_ e3_, .slice D3_ j3_ f3_, .bool s4_, .slice A4_ n4_ c4_, .slice B4_ m4_ d4_, .bool t4_, .slice C4_ i4_ e4_, .slice D4_ j4_ f4_] ∧ gP = u4.heap.size) ⟨by exact slc, _, by exact bts, rfl⟩ ?_
    rintro W2 ⟨hb2, gP, hBP, hgP⟩
    rw [← hgP]
    have hgP2 : w.heap.size + 1 ≤ gP := by have := hr.lt; omega
    have hr := hr.bl hb2
    have hC := hC.bl hb2
    have hO := hO.trans (Ob.of_bl hb2 _)
    have hP0 := hP0.bl' hb2
    have hP1 := hP1.bl' hb2
    have hP2 := hP2.bl' hb2
    have hP3 := hP3.bl' hb2
    have hP4 := hP4.bl' hb2
    clear hb2 hgP
    refine (l01Below_any _ 2 (by omega) (by omega) hC).mono ?_
    rintro e W3 ⟨r, rfl, hr0, hr1, hC, hO3⟩
    have hBP := hBP.ob hO3 (by simp; omega)
    have hr := hr.ob hO3 (by simp; omega)
    have hO := hO.trans hO3
    have hP0 := hP0.ob' hO3 (show g < w.heap.size + 1 by omega)
    have hP1 := hP1.ob' hO3 (show g < w.heap.size + 1 by omega)
    have hP2 := hP2.ob' hO3 (show g < w.heap.size + 1 by omega)
    have hP3 := hP3.ob' hO3 (show g < w.heap.size + 1 by omega)
    have hP4 := hP4.ob' hO3 (show g < w.heap.size + 1 by omega)
    clear hO3
    obtain ⟨v0, x0⟩ := hr.val_ (i := 0) (by omega)
    obtain ⟨v1, x1⟩ := hr.val_ (i := 1) (by omega)
    have hgr := hr.lt
    have hr2 := hr
    obtain ⟨cs4, hB4, hc4⟩ := hr2
    have hf0 := hB4.frozen 0
    have hf1 := hB4.frozen 1
    go_wp2_with fail
    have hbz : Bl W3 (W3.alloc (.cells #[.int .i64 4, .int .i64 0, .int .i64 1, .int .i64 0, .int .i64 0, .int .i64 4, .int .i64 1, .int .i64 2, .int .i64 0, .int .i64 0, .int .i64 4, .int .i64 2, .int .i64 3, .int .i64 1, .int .i64 0, .int .i64 4, .int .i64 3, .int .i64 0, .int .i64 r, .int .i64 0] 73)) := slc
    have hM : MeOw (w.heap.size + 1) (W3.alloc (.cells #[.int .i64 4, .int .i64 0, .int .i64 1, .int .i64 0, .int .i64 0, .int .i64 4, .int .i64 1, .int .i64 2, .int .i64 0, .int .i64 0, .int .i64 4, .int .i64 2, .int .i64 3, .int .i64 1, .int .i64 0, .int .i64 4, .int .i64 3, .int .i64 0, .int .i64 r, .int .i64 0] 73)) (.agg #[.slice (some ⟨gP, 0, none⟩) 5 5, .slice (some ⟨W3.heap.size, 0, none⟩) 4 4]) (csQ0 r) := by
      refine MeOw.ofB (hBP.bl hbz) (Blk.new _ _ _) ?_ ?_ hgP2 (by omega) rfl rfl (by omega) (by omega)
      · intro k hk
        rcases (show k = 0 ∨ k = 1 ∨ k = 2 ∨ k = 3 ∨ k = 4 by simp [csQ0] at hk; omega) with rfl | rfl | rfl | rfl | rfl
        · exact ⟨_, _, _, _, _, _, _, _, _, _, _, _, _, _, ⟨rfl, rfl, rfl, rfl, rfl, rfl⟩, hP0.bl' hbz⟩
        · exact ⟨_, _, _, _, _, _, _, _, _, _, _, _, _, _, ⟨rfl, rfl, rfl, rfl, rfl, rfl⟩, hP1.bl' hbz⟩
        · exact ⟨_, _, _, _, _, _, _, _, _, _, _, _, _, _, ⟨rfl, rfl, rfl, rfl, rfl, rfl⟩, hP2.bl' hbz⟩
        · exact ⟨_, _, _, _, _, _, _, _, _, _, _, _, _, _, ⟨rfl, rfl, rfl, rfl, rfl, rfl⟩, hP3.bl' hbz⟩
        · exact ⟨_, _, _, _, _, _, _, _, _, _, _, _, _, _, ⟨rfl, rfl, rfl, rfl, rfl, rfl⟩, hP4.bl' hbz⟩
      · intro k hk
        rcases (show k = 0 ∨ k = 1 ∨ k = 2 ∨ k = 3 by simp [csQ0] at hk; omega) with rfl | rfl | rfl | rfl <;> exact ⟨rfl, rfl, rfl, rfl, rfl⟩
    rw [setCell_alloc (W := W3.setCell ⟨w.heap.size, 0, none⟩ _) (by simpa using hgr), setCell_alloc (W := W3) hgr]
    have hC := hC.bl hbz
    have hO := hO.trans (Ob.of_bl hbz _)
    replace x0 := (hbz.cellOf (p := ⟨w.heap.size, 0, none⟩) hgr).trans x0
    replace x1 := (hbz.cellOf (p := ⟨w.heap.size, 1, none⟩) hgr).trans x1
    clear hbz
    generalize (W3.alloc (.cells #[.int .i64 4, .int .i64 0, .int .i64 1, .int .i64 0, .int .i64 0, .int .i64 4, .int .i64 1, .int .i64 2, .int .i64 0, .int .i64 0, .int .i64 4, .int .i64 2, .int .i64 3, .int .i64 1, .int .i64 0, .int .i64 4, .int .i64 3, .int .i64 0, .int .i64 r, .int .i64 0] 73)) = Wz at hM hC hO x0 x1 ⊢
    exact bodyPost_ret (v := .agg #[.slice (some ⟨gP, 0, none⟩) 5 5, .slice (some ⟨W3.heap.size, 0, none⟩) 4 4]) (by simp [results, Tryz.results112, go_sem, x0, x1]) rfl ⟨_, csQ0 r, rfl, cs0_mem hr0 hr1, MeOw.low (MeOw.setLow (MeOw.setLow hM (q := ⟨w.heap.size, 0, none⟩) (show w.heap.size < w.heap.size + 1 by omega) _) (q := ⟨w.heap.size, 1, none⟩) (show w.heap.size < w.heap.size + 1 by omega) _) (by omega), Cur.set (Cur.set hC hwg hwA.out 0 _) hwg hwA.out 1 _, Ob.far (Ob.far hO (Nat.le_refl _) 0 _) (Nat.le_refl _) 1 _⟩
  · clear hx0 hx1
    go_wp2_with fail
    refine (sPointAt_any _ 0 0 (by omega) (by omega) (by omega) (by omega)).mono ?_
    rintro e u0 ⟨s0_, A0_, n0_, c0_, B0_, m0_, d0_, t0_, C0_, i0_, e0_, D0_, j0_, f0_, rfl, hP0, hb0⟩
    rw [cp_00] at hP0
    have hP0 := OwPN.low' (OwPN.q hP0) (show w.heap.size + 1 ≤ _ by have := hr.lt; omega)
    have hr := hr.bl hb0
    have hC := hC.bl hb0
    have hO := hO.trans (Ob.of_bl hb0 _)
    clear hb0
    go_wp2_with fail
    refine (sPointAt_any _ 2 0 (by omega) (by omega) (by omega) (by omega)).mono ?_
    rintro e u1 ⟨s1_, A1_, n1_, c1_, B1_, m1_, d1_, t1_, C1_, i1_, e1_, D1_, j1_, f1_, rfl, hP1, hb1⟩
    rw [cp_20] at hP1
    have hP1 := OwPN.low' (OwPN.q hP1) (show w.heap.size + 1 ≤ _ by have := hr.lt; omega)
    have hr := hr.bl hb1
    have hC := hC.bl hb1
    have hO := hO.trans (Ob.of_bl hb1 _)
    have hP0 := hP0.bl' hb1
    clear hb1
    go_wp2_with fail
    refine (sPointAt_any _ 2 1 (by omega) (by omega) (by omega) (by omega)).mono ?_
    rintro e u2 ⟨s2_, A2_, n2_, c2_, B2_, m2_, d2_, t2_, C2_, i2_, e2_, D2_, j2_, f2_, rfl, hP2, hb2⟩
    rw [cp_21] at hP2
    have hP2 := OwPN.low' (OwPN.q hP2) (show w.heap.size + 1 ≤ _ by have := hr.lt; omega)
    have hr := hr.bl hb2
    have hC := hC.bl hb2
    have hO := hO.trans (Ob.of_bl hb2 _)
    have hP0 := hP0.bl' hb2
    have hP1 := hP1.bl' hb2
    clear hb2
    go_wp2_with fail
    refine (sPointAt_any _ 0 2 (by omega) (by omega) (by omega) (by omega)).mono ?_
    rintro e u3 ⟨s3_, A3_, n3_, c3_, B3_, m3_, d3_, t3_, C3_, i3_, e3_, D3_, j3_, f3_, rfl, hP3, hb3⟩
    rw [cp_02] at hP3
    have hP3 := OwPN.low' (OwPN.q hP3) (show w.heap.size + 1 ≤ _ by have := hr.lt; omega)
    have hr := hr.bl hb3
    have hC := hC.bl hb3
    have hO := hO.trans (Ob.of_bl hb3 _)
    have hP0 := hP0.bl' hb3
    have hP1 := hP1.bl' hb3
    have hP2 := hP2.bl' hb3
    clear hb3
    go_wp2_with fail
    refine calls_gen (fun W2 => Bl u3 W2 ∧ ∃ gP, Blk W2 gP 31 #[.bool s0_, .slice A0_ n0_ c0_, .slice B0_ m0_ d0_, .bool t0_, .slice C0_ i0_ e0_, .slice D0_ j0_ f0_, .bool s1_, .slice A1_ n1_ c1_, .slice B1_ m1_ d1_, .bool t1_, .slice C1_ i1_ e1_, .slice D1_ j1_ f1_, .bool s2_, .slice A2_ n2_ c2_, .slice B2_ m2_ d2_, .bool t2_, .slice C2_ i2_ e2_, .slice D2_ j2_ f2_, .bool s3_, .slice A3_ n3_ c3_, .slice B3_ m3_ d3_, .bool t3_, .slice C3_ i3_ e3_, .slice D3_ j3_ f3_] ∧ gP = u3.heap.size) ⟨by exact slc, _, by exact bts, rfl⟩ ?_
    rintro W2 ⟨hb2, gP, hBP, hgP⟩
    rw [← hgP]
    have hgP2 : w.heap.size + 1 ≤ gP := by have := hr.lt; omega
    have hr := hr.bl hb2
    have hC := hC.bl hb2
    have hO := hO.trans (Ob.of_bl hb2 _)
    have hP0 := hP0.bl' hb2
    have hP1 := hP1.bl' hb2
    have hP2 := hP2.bl' hb2
    have hP3 := hP3.bl' hb2
    clear hb2 hgP
    refine (l01Below_any _ 3 (by omega) (by omega) hC).mono ?_
    rintro e W3 ⟨r, rfl, hr0, hr1, hC, hO3⟩
    have hBP := hBP.ob hO3 (by simp; omega)
    have hr := hr.ob hO3 (by simp; omega)
    have hO := hO.trans hO3
    have hP0 := hP0.ob' hO3 (show g < w.heap.size + 1 by omega)
    have hP1 := hP1.ob' hO3 (show g < w.heap.size + 1 by omega)
    have hP2 := hP2.ob' hO3 (show g < w.heap.size + 1 by omega)
    have hP3 := hP3.ob' hO3 (show g < w.heap.size + 1 by omega)
    clear hO3
    obtain ⟨v0, x0⟩ := hr.val_ (i := 0) (by omega)
    obtain ⟨v1, x1⟩ := hr.val_ (i := 1) (by omega)
    have hgr := hr.lt
    have hr2 := hr
    obtain ⟨cs4, hB4, hc4⟩ := hr2
    have hf0 := hB4.frozen 0
    have hf1 := hB4.frozen 1
    go_wp2_with fail
    have hbz : Bl W3 (W3.alloc (.cells #[.int .i64 1, .int .i64 2, .int .i64 0, .int .i64 0, .int .i64 0, .int .i64 3, .int .i64 0, .int .i64 2, .int .i64 r, .int .i64 0] 73)) := slc
    have hM : MeOw (w.heap.size + 1) (W3.alloc (.cells #[.int .i64 1, .int .i64 2, .int .i64 0, .int .i64 0, .int .i64 0, .int .i64 3, .int .i64 0, .int .i64 2, .int .i64 r, .int .i64 0] 73)) (.agg #[.slice (some ⟨gP, 0, none⟩) 4 4, .slice (some ⟨W3.heap.size, 0, none⟩) 2 2]) (csQ1 r) := by
      refine MeOw.ofB (hBP.bl hbz) (Blk.new _ _ _) ?_ ?_ hgP2 (by omega) rfl rfl (by omega) (by omega)
      · intro k hk
        rcases (show k = 0 ∨ k = 1 ∨ k = 2 ∨ k = 3 by simp [csQ1] at hk; omega) with rfl | rfl | rfl | rfl
        · exact ⟨_, _, _, _, _, _, _, _, _, _, _, _, _, _, ⟨rfl, rfl, rfl, rfl, rfl, rfl⟩, hP0.bl' hbz⟩
        · exact ⟨_, _, _, _, _, _, _, _, _, _, _, _, _, _, ⟨rfl, rfl, rfl, rfl, rfl, rfl⟩, hP1.bl' hbz⟩
        · exact ⟨_, _, _, _, _, _, _, _, _, _, _, _, _, _, ⟨rfl, rfl, rfl, rfl, rfl, rfl⟩, hP2.bl' hbz⟩
        · exact ⟨_, _, _, _, _, _, _, _, _, _, _, _, _, _, ⟨rfl, rfl, rfl, rfl, rfl, rfl⟩, hP3.bl' hbz⟩
      · intro k hk
        rcases (show k = 0 ∨ k = 1 by simp [csQ1] at hk; omega) with rfl | rfl <;> exact ⟨rfl, rfl, rfl, rfl, rfl⟩
    rw [setCell_alloc (W := W3.setCell ⟨w.heap.size, 0, none⟩ _) (by simpa using hgr), setCell_alloc (W := W3) hgr]
    have hC := hC.bl hbz
    have hO := hO.trans (Ob.of_bl hbz _)
    replace x0 := (hbz.cellOf (p := ⟨w.heap.size, 0, none⟩) hgr).trans x0
    replace x1 := (hbz.cellOf (p := ⟨w.heap.size, 1, none⟩) hgr).trans x1
    clear hbz
    generalize (W3.alloc (.cells #[.int .i64 1, .int .i64 2, .int .i64 0, .int .i64 0, .int .i64 0, .int .i64 3, .int .i64 0, .int .i64 2, .int .i64 r, .int .i64 0] 73)) = Wz at hM hC hO x0 x1 ⊢
    exact bodyPost_ret (v := .agg #[.slice (some ⟨gP, 0, none⟩) 4 4, .slice (some ⟨W3.heap.size, 0, none⟩) 2 2]) (by simp [results, Tryz.results112, go_sem, x0, x1]) rfl ⟨_, csQ1 r, rfl, cs1_mem hr0 hr1, MeOw.low (MeOw.setLow (MeOw.setLow hM (q := ⟨w.heap.size, 0, none⟩) (show w.heap.size < w.heap.size + 1 by omega) _) (q := ⟨w.heap.size, 1, none⟩) (show w.heap.size < w.heap.size + 1 by omega) _) (by omega), Cur.set (Cur.set hC hwg hwA.out 0 _) hwg hwA.out 1 _, Ob.far (Ob.far hO (Nat.le_refl _) 0 _) (Nat.le_refl _) 1 _⟩
  · clear hx0 hx1
    go_wp2_with fail
    refine (sPointAt_any _ 0 0 (by omega) (by omega) (by omega) (by omega)).mono ?_
    rintro e u0 ⟨s0_, A0_, n0_, c0_, B0_, m0_, d0_, t0_, C0_, i0_, e0_, D0_, j0_, f0_, rfl, hP0, hb0⟩
    rw [cp_00] at hP0
    have hP0 := OwPN.low' (OwPN.q hP0) (show w.heap.size + 1 ≤ _ by have := hr.lt; omega)
    have hr := hr.bl hb0
    have hC := hC.bl hb0
    have hO := hO.trans (Ob.of_bl hb0 _)
    clear hb0
    go_wp2_with fail
    refine (sPointAt_any _ 1 0 (by omega) (by omega) (by omega) (by omega)).mono ?_
    rintro e u1 ⟨s1_, A1_, n1_, c1_, B1_, m1_, d1_, t1_, C1_, i1_, e1_, D1_, j1_, f1_, rfl, hP1, hb1⟩
    rw [cp_10] at hP1
    have hP1 := OwPN.low' (OwPN.q hP1) (show w.heap.size + 1 ≤ _ by have := hr.lt; omega)
    have hr := hr.bl hb1
    have hC := hC.bl hb1
    have hO := hO.trans (Ob.of_bl hb1 _)
    have hP0 := hP0.bl' hb1
    clear hb1
    go_wp2_with fail
    refine (sPointAt_any _ 2 0 (by omega) (by omega) (by omega) (by omega)).mono ?_
    rintro e u2 ⟨s2_, A2_, n2_, c2_, B2_, m2_, d2_, t2_, C2_, i2_, e2_, D2_, j2_, f2_, rfl, hP2, hb2⟩
    rw [cp_20] at hP2
    have hP2 := OwPN.low' (OwPN.q hP2) (show w.heap.size + 1 ≤ _ by have := hr.lt; omega)
    have hr := hr.bl hb2
    have hC := hC.bl hb2
    have hO := hO.trans (Ob.of_bl hb2 _)
    have hP0 := hP0.bl' hb2
    have hP1 := hP1.bl' hb2
    clear hb2
    go_wp2_with fail
    refine (sPointAt_any _ 2 1 (by omega) (by omega) (by omega) (by omega)).mono ?_
    rintro e u3 ⟨s3_, A3_, n3_, c3_, B3_, m3_, d3_, t3_, C3_, i3_, e3_, D3_, j3_, f3_, rfl, hP3, hb3⟩
    rw [cp_21] at hP3
    have hP3 := OwPN.low' (OwPN.q hP3) (show w.heap.size + 1 ≤ _ by have := hr.lt; omega)
    have hr := hr.bl hb3
    have hC := hC.bl hb3
    have hO := hO.trans (Ob.of_bl hb3 _)
    have hP0 := hP0.bl' hb3
    have hP1 := hP1.bl' hb3
    have hP2 := hP2.bl' hb3
    clear hb3
    go_wp2_with fail
    refine (sPointAt_any _ 1 1 (by omega) (by omega) (by omega) (by omega)).mono ?_
    rintro e u4 ⟨s4_, A4_, n4_, c4_, B4_, m4_, d4_, t4_, C4_, i4_, e4_, D4_, j4_, f4_, rfl, hP4, hb4⟩
    rw [cp_11] at hP4
    have hP4 := OwPN.low' (OwPN.q hP4) (show w.heap.size + 1 ≤ _ by have := hr.lt; omega)
    have hr := hr.bl hb4
    have hC := hC.bl hb4
    have hO := hO.trans (Ob.of_bl hb4 _)
    have hP0 := hP0.bl' hb4
    have hP1 := hP1.bl' hb4
    have hP2 := hP2.bl' hb4
    have hP3 := hP3.bl' hb4
    clear hb4
    go_wp2_with fail
    refine (sPointAt_any _ 1 2 (by omega) (by omega) (by omega) (by omega)).mono ?_
    rintro e u5 ⟨s5_, A5_, n5_, c5_, B5_, m5_, d5_, t5_, C5_, i5_, e5_, D5_, j5_, f5_, rfl, hP5, hb5⟩
    rw [cp_12] at hP5
    have hP5 := OwPN.low' (OwPN.q hP5) (show w.heap.size + 1 ≤ _ by have := hr.lt; omega)
    have hr := hr.bl hb5
    have hC := hC.bl hb5
    have hO := hO.trans (Ob.of_bl hb5 _)
    have hP0 := hP0.bl' hb5
    have hP1 := hP1.bl' hb5
    have hP2 := hP2.bl' hb5
    have hP3 := hP3.bl' hb5
    have hP4 := hP4.bl' hb5
    clear hb5
    go_wp2_with fail
    refine (sPointAt_any _ 0 2 (by omega) (by omega) (by omega) (by omega)).mono ?_
    rintro e u6 ⟨s6_, A6_, n6_, c6_, B6_, m6_, d6_, t6_, C6_, i6_, e6_, D6_, j6_, f6_, rfl, hP6, hb6⟩
    rw [cp_02] at hP6
    have hP6 := OwPN.low' (OwPN.q hP6) (show w.heap.size + 1 ≤ _ by have := hr.lt; omega)
    have hr := hr.bl hb6
    have hC := hC.bl hb6
    have hO := hO.trans (Ob.of_bl hb6 _)
    have hP0 := hP0.bl' hb6
    have hP1 := hP1.bl' hb6
    have hP2 := hP2.bl' hb6
    have hP3 := hP3.bl' hb6
    have hP4 := hP4.bl' hb6
    have hP5 := hP5.bl' hb6
    clear hb6
    go_wp2_with fail
    refine (sPointAt_any _ 0 1 (by omega) (by omega) (by omega) (by omega)).mono ?_
    rintro e u7 ⟨s7_, A7_, n7_, c7_, B7_, m7_, d7_, t7_, C7_, i7_, e7_, D7_, j7_, f7_, rfl, hP7, hb7⟩
    rw [cp_01] at hP7
    have hP7 := OwPN.low' (OwPN.q hP7) (show w.heap.size + 1 ≤ _ by have := hr.lt; omega)
    have hr := hr.bl hb7
    have hC := hC.bl hb7
    have hO := hO.trans (Ob.of_bl hb7 _)
    have hP0 := hP0.bl' hb7
    have hP1 := hP1.bl' hb7
    have hP2 := hP2.bl' hb7
    have hP3 := hP3.bl' hb7
    have hP4 := hP4.bl' hb7
    have hP5 := hP5.bl' hb7
    have hP6 := hP6.bl' hb7
    clear hb7
    obtain ⟨v0, x0⟩ := hr.val_ (i := 0) (by omega)
    obtain ⟨v1, x1⟩ := hr.val_ (i := 1) (by omega)
    have hgr := hr.lt
    have hr2 := hr
    obtain ⟨cs4, hB4, hc4⟩ := hr2
    have hf0 := hB4.frozen 0
    have hf1 := hB4.frozen 1
    go_wp2_with fail
    have hbz : Bl u7 ((u7.alloc (.cells #[.bool s0_, .slice A0_ n0_ c0_, .slice B0_ m0_ d0_, .bool t0_, .slice C0_ i0_ e0_, .slice D0_ j0_ f0_, .bool s1_, .slice A1_ n1_ c1_, .slice B1_ m1_ d1_, .bool t1_, .slice C1_ i1_ e1_, .slice D1_ j1_ f1_, .bool s2_, .slice A2_ n2_ c2_, .slice B2_ m2_ d2_, .bool t2_, .slice C2_ i2_ e2_, .slice D2_ j2_ f2_, .bool s3_, .slice A3_ n3_ c3_, .slice B3_ m3_ d3_, .bool t3_, .slice C3_ i3_ e3_, .slice D3_ j3_ f3_, .bool s4_, .slice A4_ n4_ c4_, .slice B4_ m4_ d4_, .bool t4_, .slice C4_ i4_ e4_, .slice D4_ j4_ f4_, .bool s5_, .slice A5_ n5_ c5_, .slice B5_ m5_ d5_, .bool t5_, .slice C5_ i5_ e5_, .slice D5_ j5_ f5_, .bool s6_, .slice A6_ n6_ c6_, .slice B6_ m6_ d6_, .bool t6_, .slice C6_ i6_ e6_, .slice D6_ j6_ f6_, .bool s7_, .slice A7_ n7_ c7_, .slice B7_ m7_ d7_, .bool t7_, .slice C7_ i7_ e7_, .slice D7_ j7_ f7_] 31)).alloc (.cells #[.int .i64 1, .int .i64 4, .int .i64 0, .int .i64 0, .int .i64 0, .int .i64 7, .int .i64 0, .int .i64 4, .int .i64 0, .int .i64 0, .int .i64 3, .int .i64 4, .int .i64 2, .int .i64 0, .int .i64 0, .int .i64 1, .int .i64 2, .int .i64 4, .int .i64 1, .int .i64 0, .int .i64 7, .int .i64 4, .int .i64 6, .int .i64 0, .int .i64 0, .int .i64 5, .int .i64 6, .int .i64 4, .int .i64 2, .int .i64 0] 73)) := slc
    have hM : MeOw (w.heap.size + 1) ((u7.alloc (.cells #[.bool s0_, .slice A0_ n0_ c0_, .slice B0_ m0_ d0_, .bool t0_, .slice C0_ i0_ e0_, .slice D0_ j0_ f0_, .bool s1_, .slice A1_ n1_ c1_, .slice B1_ m1_ d1_, .bool t1_, .slice C1_ i1_ e1_, .slice D1_ j1_ f1_, .bool s2_, .slice A2_ n2_ c2_, .slice B2_ m2_ d2_, .bool t2_, .slice C2_ i2_ e2_, .slice D2_ j2_ f2_, .bool s3_, .slice A3_ n3_ c3_, .slice B3_ m3_ d3_, .bool t3_, .slice C3_ i3_ e3_, .slice D3_ j3_ f3_, .bool s4_, .slice A4_ n4_ c4_, .slice B4_ m4_ d4_, .bool t4_, .slice C4_ i4_ e4_, .slice D4_ j4_ f4_, .bool s5_, .slice A5_ n5_ c5_, .slice B5_ m5_ d5_, .bool t5_, .slice C5_ i5_ e5_, .slice D5_ j5_ f5_, .bool s6_, .slice A6_ n6_ c6_, .slice B6_ m6_ d6_, .bool t6_, .slice C6_ i6_ e6_, .slice D6_ j6_ f6_, .bool s7_, .slice A7_ n7_ c7_, .slice B7_ m7_ d7_, .bool t7_, .slice C7_ i7_ e7_, .slice D7_ j7_ f7_] 31)).alloc (.cells #[.int .i64 1, .int .i64 4, .int .i64 0, .int .i64 0, .int .i64 0, .int .i64 7, .int .i64 0, .int .i64 4, .int .i64 0, .int .i64 0, .int .i64 3, .int .i64 4, .int .i64 2, .int .i64 0, .int .i64 0, .int .i64 1, .int .i64 2, .int .i64 4, .int .i64 1, .int .i64 0, .int .i64 7, .int .i64 4, .int .i64 6, .int .i64 0, .int .i64 0, .int .i64 5, .int .i64 6, .int .i64 4, .int .i64 2, .int .i64 0] 73)) (.agg #[.slice (some ⟨u7.heap.size, 0, none⟩) 8 8, .slice (some ⟨u7.heap.size + 1, 0, none⟩) 6 6]) (csQ2) := by
      refine MeOw.ofB (Blk.alloc (Blk.new _ _ _) _) (Blk.new1 _ _ _ _) ?_ ?_ (by omega) (by omega) rfl rfl (by omega) (by omega)
      · intro k hk
        rcases (show k = 0 ∨ k = 1 ∨ k = 2 ∨ k = 3 ∨ k = 4 ∨ k = 5 ∨ k = 6 ∨ k = 7 by simp [csQ2] at hk; omega) with rfl | rfl | rfl | rfl | rfl | rfl | rfl | rfl
        · exact ⟨_, _, _, _, _, _, _, _, _, _, _, _, _, _, ⟨rfl, rfl, rfl, rfl, rfl, rfl⟩, hP0.bl' hbz⟩
        · exact ⟨_, _, _, _, _, _, _, _, _, _, _, _, _, _, ⟨rfl, rfl, rfl, rfl, rfl, rfl⟩, hP1.bl' hbz⟩
        · exact ⟨_, _, _, _, _, _, _, _, _, _, _, _, _, _, ⟨rfl, rfl, rfl, rfl, rfl, rfl⟩, hP2.bl' hbz⟩
        · exact ⟨_, _, _, _, _, _, _, _, _, _, _, _, _, _, ⟨rfl, rfl, rfl, rfl, rfl, rfl⟩, hP3.bl' hbz⟩
        · exact ⟨_, _, _, _, _, _, _, _, _, _, _, _, _, _, ⟨rfl, rfl, rfl, rfl, rfl, rfl⟩, hP4.bl' hbz⟩
        · exact ⟨_, _, _, _, _, _, _, _, _, _, _, _, _, _, ⟨rfl, rfl, rfl, rfl, rfl, rfl⟩, hP5.bl' hbz⟩
        · exact ⟨_, _, _, _, _, _, _, _, _, _, _, _, _, _, ⟨rfl, rfl, rfl, rfl, rfl, rfl⟩, hP6.bl' hbz⟩
        · exact ⟨_, _, _, _, _, _, _, _, _, _, _, _, _, _, ⟨rfl, rfl, rfl, rfl, rfl, rfl⟩, hP7.bl' hbz⟩
      · intro k hk
        rcases (show k = 0 ∨ k = 1 ∨ k = 2 ∨ k = 3 ∨ k = 4 ∨ k = 5 by simp [csQ2] at hk; omega) with rfl | rfl | rfl | rfl | rfl | rfl <;> exact ⟨rfl, rfl, rfl, rfl, rfl⟩
    rw [setCell_alloc (W := u7.setCell ⟨w.heap.size, 0, none⟩ _) (by simpa using hgr), setCell_alloc (W := u7) hgr, setCell_alloc (W := (u7.alloc _).setCell ⟨w.heap.size, 0, none⟩ _) (by simp; omega), setCell_alloc (W := u7.alloc _) (by simp; omega)]
    have hC := hC.bl hbz
    have hO := hO.trans (Ob.of_bl hbz _)
    replace x0 := (hbz.cellOf (p := ⟨w.heap.size, 0, none⟩) hgr).trans x0
    replace x1 := (hbz.cellOf (p := ⟨w.heap.size, 1, none⟩) hgr).trans x1
    clear hbz
    generalize ((u7.alloc (.cells #[.bool s0_, .slice A0_ n0_ c0_, .slice B0_ m0_ d0_, .bool t0_, .slice C0_ i0_ e0_, .slice D0_ j0_ f0_, .bool s1_, .slice A1_ n1_ c1_, .slice B1_ m1_ d1_, .bool t1_, .slice C1_ i1_ e1_, .slice D1_ j1_ f1_, .bool s2_, .slice A2_ n2_ c2_, .slice B2_ m2_ d2_, .bool t2_, .slice C2_ i2_ e2_, .slice D2_ j2_ f2_, .bool s3_, .slice A3_ n3_ c3_, .slice B3_ m3_ d3_, .bool t3_, .slice C3_ i3_ e3_, .slice D3_ j3_ f3_, .bool s4_, .slice A4_ n4_ c4_, .slice B4_ m4_ d4_, .bool t4_, .slice C4_ i4_ e4_, .slice D4_ j4_ f4_, .bool s5_, .slice A5_ n5_ c5_, .slice B5_ m5_ d5_, .bool t5_, .slice C5_ i5_ e5_, .slice D5_ j5_ f5_, .bool s6_, .slice A6_ n6_ c6_, .slice B6_ m6_ d6_, .bool t6_, .slice C6_ i6_ e6_, .slice D6_ j6_ f6_, .bool s7_, .slice A7_ n7_ c7_, .slice B7_ m7_ d7_, .bool t7_, .slice C7_ i7_ e7_, .slice D7_ j7_ f7_] 31)).alloc (.cells #[.int .i64 1, .int .i64 4, .int .i64 0, .int .i64 0, .int .i64 0, .int .i64 7, .int .i64 0, .int .i64 4, .int .i64 0, .int .i64 0, .int .i64 3, .int .i64 4, .int .i64 2, .int .i64 0, .int .i64 0, .int .i64 1, .int .i64 2, .int .i64 4, .int .i64 1, .int .i64 0, .int .i64 7, .int .i64 4, .int .i64 6, .int .i64 0, .int .i64 0, .int .i64 5, .int .i64 6, .int .i64 4, .int .i64 2, .int .i64 0] 73)) = Wz at hM hC hO x0 x1 ⊢
    exact bodyPost_ret (v := .agg #[.slice (some ⟨u7.heap.size, 0, none⟩) 8 8, .slice (some ⟨u7.heap.size + 1, 0, none⟩) 6 6]) (by simp [results, Tryz.results112, go_sem, x0, x1]) rfl ⟨_, csQ2, rfl, cs2_mem, MeOw.low (MeOw.setLow (MeOw.setLow hM (q := ⟨w.heap.size, 0, none⟩) (show w.heap.size < w.heap.size + 1 by omega) _) (q := ⟨w.heap.size, 1, none⟩) (show w.heap.size < w.heap.size + 1 by omega) _) (by omega), Cur.set (Cur.set hC hwg hwA.out 0 _) hwg hwA.out 1 _, Ob.far (Ob.far hO (Nat.le_refl _) 0 _) (Nat.le_refl _) 1 _⟩
end

section
open Go.RowKit

def CoRes (w : World) (e : Ending) (w' : World) : Prop := ∃ v m, e = .returned v ∧ m ∈ csL ∧ MeOw w.heap.size w' v m ∧ Bl w w'
set_option maxRecDepth 100000 in
set_option maxHeartbeats 8000000 in
theorem MakeCoarse_any (w : World) {A : Option Addr} {n c : Nat} {l : List Int} (h : RdB w A n c l) :
    Calls Tryz.prog 43 #[.slice A n c] w (CoRes w) := by
  go_enter Tryz.func43, Tryz.ntmps43
  go_wp2_with fail
  refine calls_gen (fun W => Bl w W ∧ Wk 2 57 w.heap.size W) ⟨slc, bts⟩ ?_
  rintro W ⟨hbW, hr⟩
  refine (l01New_any _ (h.bl hbW)).mono ?_
  rintro e w1 ⟨g, rfl, hg, hC, hb1⟩
  have hzW : w.heap.size < W.heap.size := hr.lt
  have hr := hr.bl hb1
  have hbW := hbW.next hb1
  have hz1 := hr.lt
  have hz3 := hb1.size
  clear hb1
  go_wp2_with fail
  refine (l07Start_any _ hC).mono ?_
  rintro e w2 ⟨_, m, rfl, hm, hO, _, hob⟩
  obtain ⟨gp2, n2, cp2, gt2, m2, ct2, rfl, hP2, hT2⟩ := hO.1
  have hr := hr.ob hob (by simp; omega)
  have hbx : Bl w w2 := hbW.ob hob (fun b hb => by simp at hb; omega)
  obtain ⟨v0, x0⟩ := hr.val_ (i := 0) (by omega)
  obtain ⟨v1, x1⟩ := hr.val_ (i := 1) (by omega)
  have hgr := hr.lt
  obtain ⟨cs4, hB4, hc4⟩ := hr
  have hf0 := hB4.frozen 0
  have hf1 := hB4.frozen 1
  go_wp2_with fail
  exact bodyPost_ret (v := .agg #[.slice (some ⟨gp2, 0, none⟩) n2 cp2, .slice (some ⟨gt2, 0, none⟩) m2 ct2]) (by simp [results, Tryz.results43, go_sem, x0, x1]) rfl ⟨_, m, rfl, hm, MeOw.low (MeOw.setLow (MeOw.setLow hO (q := ⟨w.heap.size, 0, none⟩) hz1 _) (q := ⟨w.heap.size, 1, none⟩) hz1 _) (by omega), Bl.set (Bl.set hbx (show w.heap.size ≤ w.heap.size by omega) _) (show w.heap.size ≤ w.heap.size by omega) _⟩
theorem Cur.keepG {g n c : Nat} {w W w' : World} {A : Option Addr} {l : List Int} (h : Cur g W A n c l) (hg : w'.heap[g]? = W.heap[g]?) (hbW : Bl w W) (hb : Bl w w') (hA : ∀ ad, A = Option.some ad → 0 < n → ad.block < w.heap.size) : Cur g w' A n c l := by
  obtain ⟨i, k, h1, h2, h3, h4, h5⟩ := h
  refine ⟨i, k, hg.trans h1, h2, h3, ⟨h4.len, h4.cap, h4.small, fun j hj => ?_⟩, h5⟩
  obtain ⟨ad, e, hlt, hc, hx⟩ := h4.cells j hj
  have hl := hA ad e (by omega)
  refine ⟨ad, e, Nat.lt_of_lt_of_le hl hb.size, ?_, hx⟩
  have h6 : (ad.add (j * 1)).block < w.heap.size := by rw [block_add]; exact hl
  exact (hb.cellOf h6).trans ((hbW.cellOf h6).symm.trans hc)
/-- Some small indices. -/
def SomeI (l : List Int) : Prop := l.length ≤ 3 ∧ ∀ x ∈ l, 0 ≤ x ∧ x < 8
def SoRes (w : World) (e : Ending) (w' : World) : Prop := ∃ A n c l, e = .returned (.slice A n c) ∧ RdI w' A n c l ∧ SomeI l ∧ Bl w w'
set_option maxRecDepth 100000 in
set_option maxHeartbeats 16000000 in
theorem MakeSome_any (w : World) {A : Option Addr} {n c : Nat} {l : List Int} (m : Nat) (hm : m ≤ 100) (h : RdB w A n c l) :
    Calls Tryz.prog 46 #[.slice A n c, .int .i64 (m : Int)] w (SoRes w) := by
  have hAl : ∀ ad, A = Option.some ad → 0 < n → ad.block < w.heap.size := fun ad e h0 => by
    obtain ⟨_, e2, hl, _⟩ := h.cells 0 h0
    rw [e] at e2
    cases e2
    exact hl
  have hAl := Lib.hid hAl; rename_i h_; clear h_
  go_enter Tryz.func46, Tryz.ntmps46
  go_wp2_with fail
  refine (l31New_any _ m (by omega) h).mono ?_
  rintro e w1 ⟨g, rfl, hg, hC, hb1⟩
  have hgl := hC.lt
  go_upto_region 3 with (fail)
  refine wp_gen (fun W => Bl w1 W ∧ ∃ v0 c, OwL 3 w.heap.size W v0 [] ∧ v0 = .slice (some ⟨w1.heap.size, 0, none⟩) 0 c ∧ c = 0) ⟨slc, _, 0, OwL.empty w1 hb1.size (by decide), rfl, rfl⟩ ?_
  rintro W ⟨hbW, v0, c0, hX, hv0, rfl⟩
  have hvg : v0.ownBlock ≠ some g := by rw [hv0]; intro e; injection e with e; simp only at e; omega
  rw [← hv0]
  have hgW : g < W.heap.size := Nat.lt_of_lt_of_le hgl hbW.size
  have hC := hC.bl hbW
  have hb1 := hb1.next hbW
  clear hv0 hbW
  go_wp2_with fail
  refine (l01Below_any _ 3 (by omega) (by omega) hC).mono ?_
  rintro e w2 ⟨x, rfl, hx0, hx1, hC, hO⟩
  have hX := hX.keepX (fun b e => hO.block b (hX.blk e).2 (by simp; rintro rfl; exact hvg e))
  have hb2 : Bl w w2 := hb1.ob hO (fun b hb => by simp at hb; omega)
  have hg2 := hC.lt
  obtain ⟨k0, hk0, hk1⟩ : ∃ k0 : Nat, 1 + x = (k0 : Int) ∧ k0 ≤ 3 := ⟨(1 + x).toNat, by omega, by omega⟩
  clear hO hx0 hx1 hgl hgW hb1
  go_wp2_with fail
  clear hk0
  have hvg := Lib.hid hvg; rename_i h_; clear h_
  go_loopw [6, 7] (fun s v wr => ∃ (k : Nat) (u : List Int), k ≤ 3 ∧ v = .int .i64 (k : Int) ∧ OwL 3 w.heap.size wr s u ∧ Hid (u.length + k ≤ 3 ∧ ∀ x ∈ u, 0 ≤ x ∧ x < 8) ∧ Hid (s.ownBlock ≠ some g) ∧ Cur g wr A n c l ∧ Bl w wr) (fun _ v _ => (intOf v).toNat)
  case atStart => exact ⟨k0, [], hk1, rfl, hX, Lib.hid ⟨by simpa using hk1, fun x hx => by cases hx⟩, hvg, hC, hb2⟩
  case round =>
    clear hX hvg hC hb2 hg2
    obtain ⟨k, u, hk, rfl, hX, hu, hvg, hC, hbw⟩ := hrel
    obtain ⟨wr2, rfl⟩ : ∃ wr2 : World, wr2 = wr := ⟨_, rfl⟩
    by_cases hk0 : 0 < k
    · have hki : (0 : Int) < (k : Int) := by omega
      obtain ⟨k', rfl⟩ : ∃ k', k = k' + 1 := ⟨k - 1, by omega⟩
      have hk2 : ((k' + 1 : Nat) : Int) - 1 = (k' : Int) := by omega
      obtain ⟨z, hz⟩ : ∃ z : Int, ((k' + 1 : Nat) : Int) = z := ⟨_, rfl⟩
      rw [hz] at hki hk2 ⊢
      have hz3 : z ≤ 3 := by omega
      go_wp2_with fail
      refine (l01Below_any _ 8 (by omega) (by omega) hC).mono ?_
      rintro e w3 ⟨y, rfl, hy0, hy1, hC, hO⟩
      have hX := hX.keepX (fun b e => hO.block b (hX.blk e).2 (by simp; rintro rfl; exact hvg.out e))
      have hb3 : Bl w w3 := hbw.ob hO (fun b hb => by simp at hb; omega)
      have hg3 := hC.lt
      have hul := hu.out.1
      clear hO
      go_wp2_with ((refine wpList_append_intX (w0 := w) info_int Tryz.underlying25 rfl (.tmp 19) (.tmp 22) rfl _ u (by rfl) hX hb3 1 (by rfl) (by omega) ?_); intro vx7 w7 hX7 hb7 hoth)
      have hC7 := hC.keepG (hoth g hg3 hvg.out).1 hb3 hb7 hAl.out
      have hv7 := Lib.hid (hoth g hg3 hvg.out).2
      go_roundw
      case rel => exact ⟨k', u ++ [y], by omega, rfl, hX7, Lib.hid ⟨by rw [List.length_append, List.length_singleton]; omega, fun x hx => by rcases List.mem_append.1 hx with hx | hx; exact hu.out.2 x hx; rw [List.mem_singleton] at hx; subst hx; exact ⟨hy0, hy1⟩⟩, hv7, hC7, hb7⟩
      case measure => rw [← hz]; simp [intOf]
    · obtain rfl : k = 0 := by omega
      have e0 : ((0 : Nat) : Int) = 0 := rfl
      rw [e0]
      clear e0
      have hul := hu.out.1
      obtain ⟨B, cb, rfl, hR⟩ := hX.own (by omega)
      go_wp2_with fail
      go_ret
      exact ⟨B, _, cb, u, rfl, hR.rd, ⟨by omega, hu.out.2⟩, hbw⟩
end

section
open Go.RowKit

theorem OwPN.put6 {T TP : TypeId} {b0 g k : Nat} {w : World} {s : Bool} {A : Option Addr} {n c : Nat} {B : Option Addr} {m d : Nat} {t : Bool} {C : Option Addr} {i e : Nat} {D : Option Addr} {j f : Nat} {p : PtD} (h : OwPN AnyN T b0 w s A n c B m d t C i e D j f p) (hk : Wk k TP g w) (hne : T ≠ TP) (u0 u1 u2 u3 u4 u5 : Value) :
    OwPN AnyN T b0 ((((((w.setCell ⟨g, 0, none⟩ u0).setCell ⟨g, 1, none⟩ u1).setCell ⟨g, 2, none⟩ u2).setCell ⟨g, 3, none⟩ u3).setCell ⟨g, 4, none⟩ u4).setCell ⟨g, 5, none⟩ u5) s A n c B m d t C i e D j f p :=
  (((((h.setT hk hne 0 u0).setT (hk.set 0 u0) hne 1 u1).setT ((hk.set 0 u0).set 1 u1) hne 2 u2).setT (((hk.set 0 u0).set 1 u1).set 2 u2) hne 3 u3).setT ((((hk.set 0 u0).set 1 u1).set 2 u2).set 3 u3) hne 4 u4).setT (((((hk.set 0 u0).set 1 u1).set 2 u2).set 3 u3).set 4 u4) hne 5 u5
theorem eqR_self' (r : RatD) : eqR r r = true := by unfold eqR eqL; simp
end

end Go.Proofs.YtajlahjghapbkaaGreat
