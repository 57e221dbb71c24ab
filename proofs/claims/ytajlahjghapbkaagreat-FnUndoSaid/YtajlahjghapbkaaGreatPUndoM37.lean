/- Lemmas. -/
import Derived.Test.YtajlahjghapbkaaGreatRows
import Derived.Test.YtajlahjghapbkaaGreatPUndoM36
import Derived.Test.YtajlahjghapbkaaGreatPUndoM25
import Derived.Test.YtajlahjghapbkaaGreatPUndoM19
import Derived.Lib.MinMax
import Derived.Test.YtajlahjghapbkaaGreatPUndoM18
import Derived.Test.YtajlahjghapbkaaGreatPUndoM15
import Derived.Test.YtajlahjghapbkaaGreatPUndoM17
import Derived.Deep.Cut
import Derived.Deep.DeepCutAuto
import Derived.Test.YtajlahjghapbkaaGreatPUndoM16
import Derived.Test.YtajlahjghapbkaaGreatPUndoM31
namespace Go.Proofs.YtajlahjghapbkaaGreat
section
open Go.RowKit

def StRes (w : World) (g : Nat) (A : Option Addr) (n c : Nat) (l : List Int) (e : Ending) (w' : World) : Prop := ∃ v m, e = .returned v ∧ m ∈ csL ∧ MeOw w.heap.size w' v m ∧ Cur g w' A n c l ∧ Ob [g] w w'
theorem cs0_mem {r : Int} (h0 : 0 ≤ r) (h1 : r < 2) : csQ0 r ∈ csL := by
  rcases (show r = 0 ∨ r = 1 by omega) with rfl | rfl <;> simp [csL]
theorem cs1_mem {r : Int} (h0 : 0 ≤ r) (h1 : r < 3) : csQ1 r ∈ csL := by
  rcases (show r = 0 ∨ r = 1 ∨ r = 2 by omega) with rfl | rfl | rfl <;> simp [csL]
theorem cs2_mem : csQ2 ∈ csL := by simp [csL]
set_option maxRecDepth 100000 in
set_option maxHeartbeats 32000000 in
theorem l07Start_any (w : World) {g n c : Nat} {A : Option Addr} {l : List Int} (hC : Cur g w A n c l) :
    Calls Tryz.prog 112 #[.pointer (some ⟨g, 0, none⟩)] w (StRes w g A n c l) := by
  have hgw := hC.lt
  have hwg : w.heap.size ≠ g := by omega
  have hAl : ∀ ad, A = Option.some ad → 0 < n → ad.block < w.heap.size := fun ad e h0 => by
    obtain ⟨_, _, _, _, _, hR, _⟩ := hC
    obtain ⟨_, e2, hl, _⟩ := hR.cells 0 h0
    rw [e] at e2
    cases e2
    exact hl
  have hwA : ∀ ad, A = Option.some ad → 0 < n → ad.block ≠ w.heap.size := fun ad e h0 => by have := hAl ad e h0; omega
  have hwA := Lib.hid hwA; rename_i h_; clear h_
  clear hAl
  go_enter Tryz.func112, Tryz.ntmps112
  go_wp2_with fail
  refine calls_gen (fun W => Wk 2 57 w.heap.size W ∧ Bl w W) ⟨bts, slc⟩ ?_
  rintro W ⟨hr, hbW⟩
  have hC := hC.bl hbW
  refine (l01Below_any _ 3 (by omega) (by omega) hC).mono ?_
  rintro e W1 ⟨x, rfl, hx0, hx1, hC, hO1⟩
  have hr := hr.ob hO1 (by simp; omega)
  have hO := (Ob.of_bl hbW [g]).trans hO1
  clear hO1 hbW
  rcases (show x = 0 ∨ x = 1 ∨ x = 2 by omega) with rfl | rfl | rfl
  · clear hx0 hx1
    go_wp2_with fail
    refine (sPointAt_any _ 0 0 (by omega) (by omega) (by omega) (by omega)).mono ?_
    rintro e u0 ⟨s0_, A0_, n0_, c0_, B0_, m0_, d0_, t0_, C0_, i0_, e0_, D0_, j0_, f0_, rfl, hP0, hb0⟩
    rw [cp_00] at hP0
    have hP0 := OwPN.low' (OwPN.q hP0) (show w.heap.size + 1 ≤ _ by have := hr.lt; omega)
    have hr := hr.bl hb0
    have hC := hC.bl hb0
    have hO := hO.trans (Ob.of_bl hb0 _)
    clear hb0
    go_wp2_with fail
    refine (sPointAt_any _ 2 0 (by omega) (by omega) (by omega) (by omega)).mono ?_
    rintro e u1 ⟨s1_, A1_, n1_, c1_, B1_, m1_, d1_, t1_, C1_, i1_, e1_, D1_, j1_, f1_, rfl, hP1, hb1⟩
    rw [cp_20] at hP1
    have hP1 := OwPN.low' (OwPN.q hP1) (show w.heap.size + 1 ≤ _ by have := hr.lt; omega)
    have hr := hr.bl hb1
    have hC := hC.bl hb1
    have hO := hO.trans (Ob.of_bl hb1 _)
    have hP0 := hP0.bl' hb1
    clear hb1
    go_wp2_with fail
    refine (sPointAt_any _ 2 2 (by omega) (by omega) (by omega) (by omega)).mono ?_
    rintro e u2 ⟨s2_, A2_, n2_, c2_, B2_, m2_, d2_, t2_, C2_, i2_, e2_, D2_, j2_, f2_, rfl, hP2, hb2⟩
    rw [cp_22] at hP2
    have hP2 := OwPN.low' (OwPN.q hP2) (show w.heap.size + 1 ≤ _ by have := hr.lt; omega)
    have hr := hr.bl hb2
    have hC := hC.bl hb2
    have hO := hO.trans (Ob.of_bl hb2 _)
    have hP0 := hP0.bl' hb2
    have hP1 := hP1.bl' hb2
    clear hb2
    go_wp2_with fail
    refine (sPointAt_any _ 0 2 (by omega) (by omega) (by omega) (by omega)).mono ?_
    rintro e u3 ⟨s3_, A3_, n3_, c3_, B3_, m3_, d3_, t3_, C3_, i3_, e3_, D3_, j3_, f3_, rfl, hP3, hb3⟩
    rw [cp_02] at hP3
    have hP3 := OwPN.low' (OwPN.q hP3) (show w.heap.size + 1 ≤ _ by have := hr.lt; omega)
    have hr := hr.bl hb3
    have hC := hC.bl hb3
    have hO := hO.trans (Ob.of_bl hb3 _)
    have hP0 := hP0.bl' hb3
    have hP1 := hP1.bl' hb3
    have hP2 := hP2.bl' hb3
    clear hb3
    go_wp2_with fail
    refine (sPointAt_any _ 1 1 (by omega) (by omega) (by omega) (by omega)).mono ?_
    rintro e u4 ⟨s4_, A4_, n4_, c4_, B4_, m4_, d4_, t4_, C4_, i4_, e4_, D4_, j4_, f4_, rfl, hP4, hb4⟩
    rw [cp_11] at hP4
    have hP4 := OwPN.low' (OwPN.q hP4) (show w.heap.size + 1 ≤ _ by have := hr.lt; omega)
    have hr := hr.bl hb4
    have hC := hC.bl hb4
    have hO := hO.trans (Ob.of_bl hb4 _)
    have hP0 := hP0.bl' hb4
    have hP1 := hP1.bl' hb4
    have hP2 := hP2.bl' hb4
    have hP3 := hP3.bl' hb4
    clear hb4
    go_wp2_with fail
    refine calls_gen (fun W2 => Bl u4 W2 ∧ ∃ gP, Blk W2 gP 31 #[.bool s0_, .slice A0_ n0_ c0_, .slice B0_ m0_ d0_, .bool t0_, .slice C0_ i0_ e0_, .slice D0_ j0_ f0_, .bool s1_, .slice A1_ n1_ c1_, .slice B1_ m1_ d1_, .bool t1_, .slice C1_ i1_ e1_, .slice D1_ j1_ f1_, .bool s2_, .slice A2_ n2_ c2_, .slice B2_ m2_ d2_, .bool t2_, .slice C2_ i2_ e2_, .slice D2_ j2_ f2_, .bool s3_, .slice A3_ n3_ c3_, .slice B3_ m3_ d3_, .bool t3_, .slice C3_ i3_ e3_, .slice D3_ j3_ f3_, .bool s4_, .slice A4_ n4_ c4_, .slice B4_ m4_ d4_, .bool t4_, .slice C4_ i4_ e4_, .slice D4_ j4_ f4_] ∧ gP = u4.heap.size) ⟨by exact slc, _, by exact bts, rfl⟩ ?_
    rintro W2 ⟨hb2, gP, hBP, hgP⟩
    rw [← hgP]
    have hgP2 : w.heap.size + 1 ≤ gP := by have := hr.lt; omega
    have hr := hr.bl hb2
    have hC := hC.bl hb2
    have hO := hO.trans (Ob.of_bl hb2 _)
    have hP0 := hP0.bl' hb2
    have hP1 := hP1.bl' hb2
    have hP2 := hP2.bl' hb2
    have hP3 := hP3.bl' hb2
    have hP4 := hP4.bl' hb2
    clear hb2 hgP
    refine (l01Below_any _ 2 (by omega) (by omega) hC).mono ?_
    rintro e W3 ⟨r, rfl, hr0, hr1, hC, hO3⟩
    have hBP := hBP.ob hO3 (by simp; omega)
    have hr := hr.ob hO3 (by simp; omega)
    have hO := hO.trans hO3
    have hP0 := hP0.ob' hO3 (show g < w.heap.size + 1 by omega)
    have hP1 := hP1.ob' hO3 (show g < w.heap.size + 1 by omega)
    have hP2 := hP2.ob' hO3 (show g < w.heap.size + 1 by omega)
    have hP3 := hP3.ob' hO3 (show g < w.heap.size + 1 by omega)
    have hP4 := hP4.ob' hO3 (show g < w.heap.size + 1 by omega)
    clear hO3
    obtain ⟨v0, x0⟩ := hr.val_ (i := 0) (by omega)
    obtain ⟨v1, x1⟩ := hr.val_ (i := 1) (by omega)
    have hgr := hr.lt
    have hr2 := hr
    obtain ⟨cs4, hB4, hc4⟩ := hr2
    have hf0 := hB4.frozen 0
    have hf1 := hB4.frozen 1
    go_wp2_with fail
    have hbz : Bl W3 (W3.alloc (.cells #[.int .i64 4, .int .i64 0, .int .i64 1, .int .i64 0, .int .i64 0, .int .i64 4, .int .i64 1, .int .i64 2, .int .i64 0, .int .i64 0, .int .i64 4, .int .i64 2, .int .i64 3, .int .i64 1, .int .i64 0, .int .i64 4, .int .i64 3, .int .i64 0, .int .i64 r, .int .i64 0] 73)) := slc
    have hM : MeOw (w.heap.size + 1) (W3.alloc (.cells #[.int .i64 4, .int .i64 0, .int .i64 1, .int .i64 0, .int .i64 0, .int .i64 4, .int .i64 1, .int .i64 2, .int .i64 0, .int .i64 0, .int .i64 4, .int .i64 2, .int .i64 3, .int .i64 1, .int .i64 0, .int .i64 4, .int .i64 3, .int .i64 0, .int .i64 r, .int .i64 0] 73)) (.agg #[.slice (some ⟨gP, 0, none⟩) 5 5, .slice (some ⟨W3.heap.size, 0, none⟩) 4 4]) (csQ0 r) := by
      refine MeOw.ofB (hBP.bl hbz) (Blk.new _ _ _) ?_ ?_ hgP2 (by omega) rfl rfl (by omega) (by omega)
      · intro k hk
        rcases (show k = 0 ∨ k = 1 ∨ k = 2 ∨ k = 3 ∨ k = 4 by simp [csQ0] at hk; omega) with rfl | rfl | rfl | rfl | rfl
        · exact ⟨_, _, _, _, _, _, _, _, _, _, _, _, _, _, ⟨rfl, rfl, rfl, rfl, rfl, rfl⟩, hP0.bl' hbz⟩
        · exact ⟨_, _, _, _, _, _, _, _, _, _, _, _, _, _, ⟨rfl, rfl, rfl, rfl, rfl, rfl⟩, hP1.bl' hbz⟩
        · exact ⟨_, _, _, _, _, _, _, _, _, _, _, _, _, _, ⟨rfl, rfl, rfl, rfl, rfl, rfl⟩, hP2.bl' hbz⟩
        · exact ⟨_, _, _, _, _, _, _, _, _, _, _, _, _, _, ⟨rfl, rfl, rfl, rfl, rfl, rfl⟩, hP3.bl' hbz⟩
        · exact ⟨_, _, _, _, _, _, _, _, _, _, _, _, _, _, ⟨rfl, rfl, rfl, rfl, rfl, rfl⟩, hP4.bl' hbz⟩
      · intro k hk
        rcases (show k = 0 ∨ k = 1 ∨ k = 2 ∨ k = 3 by simp [csQ0] at hk; omega) with rfl | rfl | rfl | rfl <;> exact ⟨rfl, rfl, rfl, rfl, rfl⟩
    rw [setCell_alloc (W := W3.setCell ⟨w.heap.size, 0, none⟩ _) (by simpa using hgr), setCell_alloc (W := W3) hgr]
    have hC := hC.bl hbz
    have hO := hO.trans (Ob.of_bl hbz _)
    replace x0 := (hbz.cellOf (p := ⟨w.heap.size, 0, none⟩) hgr).trans x0
    replace x1 := (hbz.cellOf (p := ⟨w.heap.size, 1, none⟩) hgr).trans x1
    clear hbz
    generalize (W3.alloc (.cells #[.int .i64 4, .int .i64 0, .int .i64 1, .int .i64 0, .int .i64 0, .int .i64 4, .int .i64 1, .int .i64 2, .int .i64 0, .int .i64 0, .int .i64 4, .int .i64 2, .int .i64 3, .int .i64 1, .int .i64 0, .int .i64 4, .int .i64 3, .int .i64 0, .int .i64 r, .int .i64 0] 73)) = Wz at hM hC hO x0 x1 ⊢
    exact bodyPost_ret (v := .agg #[.slice (some ⟨gP, 0, none⟩) 5 5, .slice (some ⟨W3.heap.size, 0, none⟩) 4 4]) (by simp [results, Tryz.results112, go_sem, x0, x1]) rfl ⟨_, csQ0 r, rfl, cs0_mem hr0 hr1, MeOw.low (MeOw.setLow (MeOw.setLow hM (q := ⟨w.heap.size, 0, none⟩) (show w.heap.size < w.heap.size + 1 by omega) _) (q := ⟨w.heap.size, 1, none⟩) (show w.heap.size < w.heap.size + 1 by omega) _) (by omega), Cur.set (Cur.set hC hwg hwA.out 0 _) hwg hwA.out 1 _, Ob.far (Ob.far hO (Nat.le_refl _) 0 _) (Nat.le_refl _) 1 _⟩
  · clear hx0 hx1
    go_wp2_with fail
    refine (sPointAt_any _ 0 0 (by omega) (by omega) (by omega) (by omega)).mono ?_
    rintro e u0 ⟨s0_, A0_, n0_, c0_, B0_, m0_, d0_, t0_, C0_, i0_, e0_, D0_, j0_, f0_, rfl, hP0, hb0⟩
    rw [cp_00] at hP0
    have hP0 := OwPN.low' (OwPN.q hP0) (show w.heap.size + 1 ≤ _ by have := hr.lt; omega)
    have hr := hr.bl hb0
    have hC := hC.bl hb0
    have hO := hO.trans (Ob.of_bl hb0 _)
    clear hb0
    go_wp2_with fail
    refine (sPointAt_any _ 2 0 (by omega) (by omega) (by omega) (by omega)).mono ?_
    rintro e u1 ⟨s1_, A1_, n1_, c1_, B1_, m1_, d1_, t1_, C1_, i1_, e1_, D1_, j1_, f1_, rfl, hP1, hb1⟩
    rw [cp_20] at hP1
    have hP1 := OwPN.low' (OwPN.q hP1) (show w.heap.size + 1 ≤ _ by have := hr.lt; omega)
    have hr := hr.bl hb1
    have hC := hC.bl hb1
    have hO := hO.trans (Ob.of_bl hb1 _)
    have hP0 := hP0.bl' hb1
    clear hb1
    go_wp2_with fail
    refine (sPointAt_any _ 2 1 (by omega) (by omega) (by omega) (by omega)).mono ?_
    rintro e u2 ⟨s2_, A2_, n2_, c2_, B2_, m2_, d2_, t2_, C2_, i2_, e2_, D2_, j2_, f2_, rfl, hP2, hb2⟩
    rw [cp_21] at hP2
    have hP2 := OwPN.low' (OwPN.q hP2) (show w.heap.size + 1 ≤ _ by have := hr.lt; omega)
    have hr := hr.bl hb2
    have hC := hC.bl hb2
    have hO := hO.trans (Ob.of_bl hb2 _)
    have hP0 := hP0.bl' hb2
    have hP1 := hP1.bl' hb2
    clear hb2
    go_wp2_with fail
    refine (sPointAt_any _ 0 2 (by omega) (by omega) (by omega) (by omega)).mono ?_
    rintro e u3 ⟨s3_, A3_, n3_, c3_, B3_, m3_, d3_, t3_, C3_, i3_, e3_, D3_, j3_, f3_, rfl, hP3, hb3⟩
    rw [cp_02] at hP3
    have hP3 := OwPN.low' (OwPN.q hP3) (show w.heap.size + 1 ≤ _ by have := hr.lt; omega)
    have hr := hr.bl hb3
    have hC := hC.bl hb3
    have hO := hO.trans (Ob.of_bl hb3 _)
    have hP0 := hP0.bl' hb3
    have hP1 := hP1.bl' hb3
    have hP2 := hP2.bl' hb3
    clear hb3
    go_wp2_with fail
    refine calls_gen (fun W2 => Bl u3 W2 ∧ ∃ gP, Blk W2 gP 31 #[.bool s0_, .slice A0_ n0_ c0_, .slice B0_ m0_ d0_, .bool t0_, .slice C0_ i0_ e0_, .slice D0_ j0_ f0_, .bool s1_, .slice A1_ n1_ c1_, .slice B1_ m1_ d1_, .bool t1_, .slice C1_ i1_ e1_, .slice D1_ j1_ f1_, .bool s2_, .slice A2_ n2_ c2_, .slice B2_ m2_ d2_, .bool t2_, .slice C2_ i2_ e2_, .slice D2_ j2_ f2_, .bool s3_, .slice A3_ n3_ c3_, .slice B3_ m3_ d3_, .bool t3_, .slice C3_ i3_ e3_, .slice D3_ j3_ f3_] ∧ gP = u3.heap.size) ⟨by exact slc, _, by exact bts, rfl⟩ ?_
    rintro W2 ⟨hb2, gP, hBP, hgP⟩
    rw [← hgP]
    have hgP2 : w.heap.size + 1 ≤ gP := by have := hr.lt; omega
    have hr := hr.bl hb2
    have hC := hC.bl hb2
    have hO := hO.trans (Ob.of_bl hb2 _)
    have hP0 := hP0.bl' hb2
    have hP1 := hP1.bl' hb2
    have hP2 := hP2.bl' hb2
    have hP3 := hP3.bl' hb2
    clear hb2 hgP
    refine (l01Below_any _ 3 (by omega) (by omega) hC).mono ?_
    rintro e W3 ⟨r, rfl, hr0, hr1, hC, hO3⟩
    have hBP := hBP.ob hO3 (by simp; omega)
    have hr := hr.ob hO3 (by simp; omega)
    have hO := hO.trans hO3
    have hP0 := hP0.ob' hO3 (show g < w.heap.size + 1 by omega)
    have hP1 := hP1.ob' hO3 (show g < w.heap.size + 1 by omega)
    have hP2 := hP2.ob' hO3 (show g < w.heap.size + 1 by omega)
    have hP3 := hP3.ob' hO3 (show g < w.heap.size + 1 by omega)
    clear hO3
    obtain ⟨v0, x0⟩ := hr.val_ (i := 0) (by omega)
    obtain ⟨v1, x1⟩ := hr.val_ (i := 1) (by omega)
    have hgr := hr.lt
    have hr2 := hr
    obtain ⟨cs4, hB4, hc4⟩ := hr2
    have hf0 := hB4.frozen 0
    have hf1 := hB4.frozen 1
    go_wp2_with fail
    have hbz : Bl W3 (W3.alloc (.cells #[.int .i64 1, .int .i64 2, .int .i64 0, .int .i64 0, .int .i64 0, .int .i64 3, .int .i64 0, .int .i64 2, .int .i64 r, .int .i64 0] 73)) := slc
    have hM : MeOw (w.heap.size + 1) (W3.alloc (.cells #[.int .i64 1, .int .i64 2, .int .i64 0, .int .i64 0, .int .i64 0, .int .i64 3, .int .i64 0, .int .i64 2, .int .i64 r, .int .i64 0] 73)) (.agg #[.slice (some ⟨gP, 0, none⟩) 4 4, .slice (some ⟨W3.heap.size, 0, none⟩) 2 2]) (csQ1 r) := by
      refine MeOw.ofB (hBP.bl hbz) (Blk.new _ _ _) ?_ ?_ hgP2 (by omega) rfl rfl (by omega) (by omega)
      · intro k hk
        rcases (show k = 0 ∨ k = 1 ∨ k = 2 ∨ k = 3 by simp [csQ1] at hk; omega) with rfl | rfl | rfl | rfl
        · exact ⟨_, _, _, _, _, _, _, _, _, _, _, _, _, _, ⟨rfl, rfl, rfl, rfl, rfl, rfl⟩, hP0.bl' hbz⟩
        · exact ⟨_, _, _, _, _, _, _, _, _, _, _, _, _, _, ⟨rfl, rfl, rfl, rfl, rfl, rfl⟩, hP1.bl' hbz⟩
        · exact ⟨_, _, _, _, _, _, _, _, _, _, _, _, _, _, ⟨rfl, rfl, rfl, rfl, rfl, rfl⟩, hP2.bl' hbz⟩
        · exact ⟨_, _, _, _, _, _, _, _, _, _, _, _, _, _, ⟨rfl, rfl, rfl, rfl, rfl, rfl⟩, hP3.bl' hbz⟩
      · intro k hk
        rcases (show k = 0 ∨ k = 1 by simp [csQ1] at hk; omega) with rfl | rfl <;> exact ⟨rfl, rfl, rfl, rfl, rfl⟩
    rw [setCell_alloc (W := W3.setCell ⟨w.heap.size, 0, none⟩ _) (by simpa using hgr), setCell_alloc (W := W3) hgr]
    have hC := hC.bl hbz
    have hO := hO.trans (Ob.of_bl hbz _)
    replace x0 := (hbz.cellOf (p := ⟨w.heap.size, 0, none⟩) hgr).trans x0
    replace x1 := (hbz.cellOf (p := ⟨w.heap.size, 1, none⟩) hgr).trans x1
    clear hbz
    generalize (W3.alloc (.cells #[.int .i64 1, .int .i64 2, .int .i64 0, .int .i64 0, .int .i64 0, .int .i64 3, .int .i64 0, .int .i64 2, .int .i64 r, .int .i64 0] 73)) = Wz at hM hC hO x0 x1 ⊢
    exact bodyPost_ret (v := .agg #[.slice (some ⟨gP, 0, none⟩) 4 4, .slice (some ⟨W3.heap.size, 0, none⟩) 2 2]) (by simp [results, Tryz.results112, go_sem, x0, x1]) rfl ⟨_, csQ1 r, rfl, cs1_mem hr0 hr1, MeOw.low (MeOw.setLow (MeOw.setLow hM (q := ⟨w.heap.size, 0, none⟩) (show w.heap.size < w.heap.size + 1 by omega) _) (q := ⟨w.heap.size, 1, none⟩) (show w.heap.size < w.heap.size + 1 by omega) _) (by omega), Cur.set (Cur.set hC hwg hwA.out 0 _) hwg hwA.out 1 _, Ob.far (Ob.far hO (Nat.le_refl _) 0 _) (Nat.le_refl _) 1 _⟩
  · clear hx0 hx1
    go_wp2_with fail
    refine (sPointAt_any _ 0 0 (by omega) (by omega) (by omega) (by omega)).mono ?_
    rintro e u0 ⟨s0_, A0_, n0_, c0_, B0_, m0_, d0_, t0_, C0_, i0_, e0_, D0_, j0_, f0_, rfl, hP0, hb0⟩
    rw [cp_00] at hP0
    have hP0 := OwPN.low' (OwPN.q hP0) (show w.heap.size + 1 ≤ _ by have := hr.lt; omega)
    have hr := hr.bl hb0
    have hC := hC.bl hb0
    have hO := hO.trans (Ob.of_bl hb0 _)
    clear hb0
    go_wp2_with fail
    refine (sPointAt_any _ 1 0 (by omega) (by omega) (by omega) (by omega)).mono ?_
    rintro e u1 ⟨s1_, A1_, n1_, c1_, B1_, m1_, d1_, t1_, C1_, i1_, e1_, D1_, j1_, f1_, rfl, hP1, hb1⟩
    rw [cp_10] at hP1
    have hP1 := OwPN.low' (OwPN.q hP1) (show w.heap.size + 1 ≤ _ by have := hr.lt; omega)
    have hr := hr.bl hb1
    have hC := hC.bl hb1
    have hO := hO.trans (Ob.of_bl hb1 _)
    have hP0 := hP0.bl' hb1
    clear hb1
    go_wp2_with fail
    refine (sPointAt_any _ 2 0 (by omega) (by omega) (by omega) (by omega)).mono ?_
    rintro e u2 ⟨s2_, A2_, n2_, c2_, B2_, m2_, d2_, t2_, C2_, i2_, e2_, D2_, j2_, f2_, rfl, hP2, hb2⟩
    rw [cp_20] at hP2
    have hP2 := OwPN.low' (OwPN.q hP2) (show w.heap.size + 1 ≤ _ by have := hr.lt; omega)
    have hr := hr.bl hb2
    have hC := hC.bl hb2
    have hO := hO.trans (Ob.of_bl hb2 _)
    have hP0 := hP0.bl' hb2
    have hP1 := hP1.bl' hb2
    clear hb2
    go_wp2_with fail
    refine (sPointAt_any _ 2 1 (by omega) (by omega) (by omega) (by omega)).mono ?_
    rintro e u3 ⟨s3_, A3_, n3_, c3_, B3_, m3_, d3_, t3_, C3_, i3_, e3_, D3_, j3_, f3_, rfl, hP3, hb3⟩
    rw [cp_21] at hP3
    have hP3 := OwPN.low' (OwPN.q hP3) (show w.heap.size + 1 ≤ _ by have := hr.lt; omega)
    have hr := hr.bl hb3
    have hC := hC.bl hb3
    have hO := hO.trans (Ob.of_bl hb3 _)
    have hP0 := hP0.bl' hb3
    have hP1 := hP1.bl' hb3
    have hP2 := hP2.bl' hb3
    clear hb3
    go_wp2_with fail
    refine (sPointAt_any _ 1 1 (by omega) (by omega) (by omega) (by omega)).mono ?_
    rintro e u4 ⟨s4_, A4_, n4_, c4_, B4_, m4_, d4_, t4_, C4_, i4_, e4_, D4_, j4_, f4_, rfl, hP4, hb4⟩
    rw [cp_11] at hP4
    have hP4 := OwPN.low' (OwPN.q hP4) (show w.heap.size + 1 ≤ _ by have := hr.lt; omega)
    have hr := hr.bl hb4
    have hC := hC.bl hb4
    have hO := hO.trans (Ob.of_bl hb4 _)
    have hP0 := hP0.bl' hb4
    have hP1 := hP1.bl' hb4
    have hP2 := hP2.bl' hb4
    have hP3 := hP3.bl' hb4
    clear hb4
    go_wp2_with fail
    refine (sPointAt_any _ 1 2 (by omega) (by omega) (by omega) (by omega)).mono ?_
    rintro e u5 ⟨s5_, A5_, n5_, c5_, B5_, m5_, d5_, t5_, C5_, i5_, e5_, D5_, j5_, f5_, rfl, hP5, hb5⟩
    rw [cp_12] at hP5
    have hP5 := OwPN.low' (OwPN.q hP5) (show w.heap.size + 1 ≤ _ by have := hr.lt; omega)
    have hr := hr.bl hb5
    have hC := hC.bl hb5
    have hO := hO.trans (Ob.of_bl hb5 _)
    have hP0 := hP0.bl' hb5
    have hP1 := hP1.bl' hb5
    have hP2 := hP2.bl' hb5
    have hP3 := hP3.bl' hb5
    have hP4 := hP4.bl' hb5
    clear hb5
    go_wp2_with fail
    refine (sPointAt_any _ 0 2 (by omega) (by omega) (by omega) (by omega)).mono ?_
    rintro e u6 ⟨s6_, A6_, n6_, c6_, B6_, m6_, d6_, t6_, C6_, i6_, e6_, D6_, j6_, f6_, rfl, hP6, hb6⟩
    rw [cp_02] at hP6
    have hP6 := OwPN.low' (OwPN.q hP6) (show w.heap.size + 1 ≤ _ by have := hr.lt; omega)
    have hr := hr.bl hb6
    have hC := hC.bl hb6
    have hO := hO.trans (Ob.of_bl hb6 _)
    have hP0 := hP0.bl' hb6
    have hP1 := hP1.bl' hb6
    have hP2 := hP2.bl' hb6
    have hP3 := hP3.bl' hb6
    have hP4 := hP4.bl' hb6
    have hP5 := hP5.bl' hb6
    clear hb6
    go_wp2_with fail
    refine (sPointAt_any _ 0 1 (by omega) (by omega) (by omega) (by omega)).mono ?_
    rintro e u7 ⟨s7_, A7_, n7_, c7_, B7_, m7_, d7_, t7_, C7_, i7_, e7_, D7_, j7_, f7_, rfl, hP7, hb7⟩
    rw [cp_01] at hP7
    have hP7 := OwPN.low' (OwPN.q hP7) (show w.heap.size + 1 ≤ _ by have := hr.lt; omega)
    have hr := hr.bl hb7
    have hC := hC.bl hb7
    have hO := hO.trans (Ob.of_bl hb7 _)
    have hP0 := hP0.bl' hb7
    have hP1 := hP1.bl' hb7
    have hP2 := hP2.bl' hb7
    have hP3 := hP3.bl' hb7
    have hP4 := hP4.bl' hb7
    have hP5 := hP5.bl' hb7
    have hP6 := hP6.bl' hb7
    clear hb7
    obtain ⟨v0, x0⟩ := hr.val_ (i := 0) (by omega)
    obtain ⟨v1, x1⟩ := hr.val_ (i := 1) (by omega)
    have hgr := hr.lt
    have hr2 := hr
    obtain ⟨cs4, hB4, hc4⟩ := hr2
    have hf0 := hB4.frozen 0
    have hf1 := hB4.frozen 1
    go_wp2_with fail
    have hbz : Bl u7 ((u7.alloc (.cells #[.bool s0_, .slice A0_ n0_ c0_, .slice B0_ m0_ d0_, .bool t0_, .slice C0_ i0_ e0_, .slice D0_ j0_ f0_, .bool s1_, .slice A1_ n1_ c1_, .slice B1_ m1_ d1_, .bool t1_, .slice C1_ i1_ e1_, .slice D1_ j1_ f1_, .bool s2_, .slice A2_ n2_ c2_, .slice B2_ m2_ d2_, .bool t2_, .slice C2_ i2_ e2_, .slice D2_ j2_ f2_, .bool s3_, .slice A3_ n3_ c3_, .slice B3_ m3_ d3_, .bool t3_, .slice C3_ i3_ e3_, .slice D3_ j3_ f3_, .bool s4_, .slice A4_ n4_ c4_, .slice B4_ m4_ d4_, .bool t4_, .slice C4_ i4_ e4_, .slice D4_ j4_ f4_, .bool s5_, .slice A5_ n5_ c5_, .slice B5_ m5_ d5_, .bool t5_, .slice C5_ i5_ e5_, .slice D5_ j5_ f5_, .bool s6_, .slice A6_ n6_ c6_, .slice B6_ m6_ d6_, .bool t6_, .slice C6_ i6_ e6_, .slice D6_ j6_ f6_, .bool s7_, .slice A7_ n7_ c7_, .slice B7_ m7_ d7_, .bool t7_, .slice C7_ i7_ e7_, .slice D7_ j7_ f7_] 31)).alloc (.cells #[.int .i64 1, .int .i64 4, .int .i64 0, .int .i64 0, .int .i64 0, .int .i64 7, .int .i64 0, .int .i64 4, .int .i64 0, .int .i64 0, .int .i64 3, .int .i64 4, .int .i64 2, .int .i64 0, .int .i64 0, .int .i64 1, .int .i64 2, .int .i64 4, .int .i64 1, .int .i64 0, .int .i64 7, .int .i64 4, .int .i64 6, .int .i64 0, .int .i64 0, .int .i64 5, .int .i64 6, .int .i64 4, .int .i64 2, .int .i64 0] 73)) := slc
    have hM : MeOw (w.heap.size + 1) ((u7.alloc (.cells #[.bool s0_, .slice A0_ n0_ c0_, .slice B0_ m0_ d0_, .bool t0_, .slice C0_ i0_ e0_, .slice D0_ j0_ f0_, .bool s1_, .slice A1_ n1_ c1_, .slice B1_ m1_ d1_, .bool t1_, .slice C1_ i1_ e1_, .slice D1_ j1_ f1_, .bool s2_, .slice A2_ n2_ c2_, .slice B2_ m2_ d2_, .bool t2_, .slice C2_ i2_ e2_, .slice D2_ j2_ f2_, .bool s3_, .slice A3_ n3_ c3_, .slice B3_ m3_ d3_, .bool t3_, .slice C3_ i3_ e3_, .slice D3_ j3_ f3_, .bool s4_, .slice A4_ n4_ c4_, .slice B4_ m4_ d4_, .bool t4_, .slice C4_ i4_ e4_, .slice D4_ j4_ f4_, .bool s5_, .slice A5_ n5_ c5_, .slice B5_ m5_ d5_, .bool t5_, .slice C5_ i5_ e5_, .slice D5_ j5_ f5_, .bool s6_, .slice A6_ n6_ c6_, .slice B6_ m6_ d6_, .bool t6_, .slice C6_ i6_ e6_, .slice D6_ j6_ f6_, .bool s7_, .slice A7_ n7_ c7_, .slice B7_ m7_ d7_, .bool t7_, .slice C7_ i7_ e7_, .slice D7_ j7_ f7_] 31)).alloc (.cells #[.int .i64 1, .int .i64 4, .int .i64 0, .int .i64 0, .int .i64 0, .int .i64 7, .int .i64 0, .int .i64 4, .int .i64 0, .int .i64 0, .int .i64 3, .int .i64 4, .int .i64 2, .int .i64 0, .int .i64 0, .int .i64 1, .int .i64 2, .int .i64 4, .int .i64 1, .int .i64 0, .int .i64 7, .int .i64 4, .int .i64 6, .int .i64 0, .int .i64 0, .int .i64 5, .int .i64 6, .int .i64 4, .int .i64 2, .int .i64 0] 73)) (.agg #[.slice (some ⟨u7.heap.size, 0, none⟩) 8 8, .slice (some ⟨u7.heap.size + 1, 0, none⟩) 6 6]) (csQ2) := by
      refine MeOw.ofB (Blk.alloc (Blk.new _ _ _) _) (Blk.new1 _ _ _ _) ?_ ?_ (by omega) (by omega) rfl rfl (by omega) (by omega)
      · intro k hk
        rcases (show k = 0 ∨ k = 1 ∨ k = 2 ∨ k = 3 ∨ k = 4 ∨ k = 5 ∨ k = 6 ∨ k = 7 by simp [csQ2] at hk; omega) with rfl | rfl | rfl | rfl | rfl | rfl | rfl | rfl
        · exact ⟨_, _, _, _, _, _, _, _, _, _, _, _, _, _, ⟨rfl, rfl, rfl, rfl, rfl, rfl⟩, hP0.bl' hbz⟩
        · exact ⟨_, _, _, _, _, _, _, _, _, _, _, _, _, _, ⟨rfl, rfl, rfl, rfl, rfl, rfl⟩, hP1.bl' hbz⟩
        · exact ⟨_, _, _, _, _, _, _, _, _, _, _, _, _, _, ⟨rfl, rfl, rfl, rfl, rfl, rfl⟩, hP2.bl' hbz⟩
        · exact ⟨_, _, _, _, _, _, _, _, _, _, _, _, _, _, ⟨rfl, rfl, rfl, rfl, rfl, rfl⟩, hP3.bl' hbz⟩
        · exact ⟨_, _, _, _, _, _, _, _, _, _, _, _, _, _, ⟨rfl, rfl, rfl, rfl, rfl, rfl⟩, hP4.bl' hbz⟩
        · exact ⟨_, _, _, _, _, _, _, _, _, _, _, _, _, _, ⟨rfl, rfl, rfl, rfl, rfl, rfl⟩, hP5.bl' hbz⟩
        · exact ⟨_, _, _, _, _, _, _, _, _, _, _, _, _, _, ⟨rfl, rfl, rfl, rfl, rfl, rfl⟩, hP6.bl' hbz⟩
        · exact ⟨_, _, _, _, _, _, _, _, _, _, _, _, _, _, ⟨rfl, rfl, rfl, rfl, rfl, rfl⟩, hP7.bl' hbz⟩
      · intro k hk
        rcases (show k = 0 ∨ k = 1 ∨ k = 2 ∨ k = 3 ∨ k = 4 ∨ k = 5 by simp [csQ2] at hk; omega) with rfl | rfl | rfl | rfl | rfl | rfl <;> exact ⟨rfl, rfl, rfl, rfl, rfl⟩
    rw [setCell_alloc (W := u7.setCell ⟨w.heap.size, 0, none⟩ _) (by simpa using hgr), setCell_alloc (W := u7) hgr, setCell_alloc (W := (u7.alloc _).setCell ⟨w.heap.size, 0, none⟩ _) (by simp; omega), setCell_alloc (W := u7.alloc _) (by simp; omega)]
    have hC := hC.bl hbz
    have hO := hO.trans (Ob.of_bl hbz _)
    replace x0 := (hbz.cellOf (p := ⟨w.heap.size, 0, none⟩) hgr).trans x0
    replace x1 := (hbz.cellOf (p := ⟨w.heap.size, 1, none⟩) hgr).trans x1
    clear hbz
    generalize ((u7.alloc (.cells #[.bool s0_, .slice A0_ n0_ c0_, .slice B0_ m0_ d0_, .bool t0_, .slice C0_ i0_ e0_, .slice D0_ j0_ f0_, .bool s1_, .slice A1_ n1_ c1_, .slice B1_ m1_ d1_, .bool t1_, .slice C1_ i1_ e1_, .slice D1_ j1_ f1_, .bool s2_, .slice A2_ n2_ c2_, .slice B2_ m2_ d2_, .bool t2_, .slice C2_ i2_ e2_, .slice D2_ j2_ f2_, .bool s3_, .slice A3_ n3_ c3_, .slice B3_ m3_ d3_, .bool t3_, .slice C3_ i3_ e3_, .slice D3_ j3_ f3_, .bool s4_, .slice A4_ n4_ c4_, .slice B4_ m4_ d4_, .bool t4_, .slice C4_ i4_ e4_, .slice D4_ j4_ f4_, .bool s5_, .slice A5_ n5_ c5_, .slice B5_ m5_ d5_, .bool t5_, .slice C5_ i5_ e5_, .slice D5_ j5_ f5_, .bool s6_, .slice A6_ n6_ c6_, .slice B6_ m6_ d6_, .bool t6_, .slice C6_ i6_ e6_, .slice D6_ j6_ f6_, .bool s7_, .slice A7_ n7_ c7_, .slice B7_ m7_ d7_, .bool t7_, .slice C7_ i7_ e7_, .slice D7_ j7_ f7_] 31)).alloc (.cells #[.int .i64 1, .int .i64 4, .int .i64 0, .int .i64 0, .int .i64 0, .int .i64 7, .int .i64 0, .int .i64 4, .int .i64 0, .int .i64 0, .int .i64 3, .int .i64 4, .int .i64 2, .int .i64 0, .int .i64 0, .int .i64 1, .int .i64 2, .int .i64 4, .int .i64 1, .int .i64 0, .int .i64 7, .int .i64 4, .int .i64 6, .int .i64 0, .int .i64 0, .int .i64 5, .int .i64 6, .int .i64 4, .int .i64 2, .int .i64 0] 73)) = Wz at hM hC hO x0 x1 ⊢
    exact bodyPost_ret (v := .agg #[.slice (some ⟨u7.heap.size, 0, none⟩) 8 8, .slice (some ⟨u7.heap.size + 1, 0, none⟩) 6 6]) (by simp [results, Tryz.results112, go_sem, x0, x1]) rfl ⟨_, csQ2, rfl, cs2_mem, MeOw.low (MeOw.setLow (MeOw.setLow hM (q := ⟨w.heap.size, 0, none⟩) (show w.heap.size < w.heap.size + 1 by omega) _) (q := ⟨w.heap.size, 1, none⟩) (show w.heap.size < w.heap.size + 1 by omega) _) (by omega), Cur.set (Cur.set hC hwg hwA.out 0 _) hwg hwA.out 1 _, Ob.far (Ob.far hO (Nat.le_refl _) 0 _) (Nat.le_refl _) 1 _⟩
end

section
open Go.RowKit

def CoRes (w : World) (e : Ending) (w' : World) : Prop := ∃ v m, e = .returned v ∧ m ∈ csL ∧ MeOw w.heap.size w' v m ∧ Bl w w'
set_option maxRecDepth 100000 in
set_option maxHeartbeats 8000000 in
theorem MakeCoarse_any (w : World) {A : Option Addr} {n c : Nat} {l : List Int} (h : RdB w A n c l) :
    Calls Tryz.prog 43 #[.slice A n c] w (CoRes w) := by
  go_enter Tryz.func43, Tryz.ntmps43
  go_wp2_with fail
  refine calls_gen (fun W => Bl w W ∧ Wk 2 57 w.heap.size W) ⟨slc, bts⟩ ?_
  rintro W ⟨hbW, hr⟩
  refine (l01New_any _ (h.bl hbW)).mono ?_
  rintro e w1 ⟨g, rfl, hg, hC, hb1⟩
  have hzW : w.heap.size < W.heap.size := hr.lt
  have hr := hr.bl hb1
  have hbW := hbW.next hb1
  have hz1 := hr.lt
  have hz3 := hb1.size
  clear hb1
  go_wp2_with fail
  refine (l07Start_any _ hC).mono ?_
  rintro e w2 ⟨_, m, rfl, hm, hO, _, hob⟩
  obtain ⟨gp2, n2, cp2, gt2, m2, ct2, rfl, hP2, hT2⟩ := hO.1
  have hr := hr.ob hob (by simp; omega)
  have hbx : Bl w w2 := hbW.ob hob (fun b hb => by simp at hb; omega)
  obtain ⟨v0, x0⟩ := hr.val_ (i := 0) (by omega)
  obtain ⟨v1, x1⟩ := hr.val_ (i := 1) (by omega)
  have hgr := hr.lt
  obtain ⟨cs4, hB4, hc4⟩ := hr
  have hf0 := hB4.frozen 0
  have hf1 := hB4.frozen 1
  go_wp2_with fail
  exact bodyPost_ret (v := .agg #[.slice (some ⟨gp2, 0, none⟩) n2 cp2, .slice (some ⟨gt2, 0, none⟩) m2 ct2]) (by simp [results, Tryz.results43, go_sem, x0, x1]) rfl ⟨_, m, rfl, hm, MeOw.low (MeOw.setLow (MeOw.setLow hO (q := ⟨w.heap.size, 0, none⟩) hz1 _) (q := ⟨w.heap.size, 1, none⟩) hz1 _) (by omega), Bl.set (Bl.set hbx (show w.heap.size ≤ w.heap.size by omega) _) (show w.heap.size ≤ w.heap.size by omega) _⟩
end

section
open Go.RowKit
end

section
open Go.RowKit

section
variable {x0 y0 x1 y1 x2 y2 u v : Rat}
theorem B10.pt (h : Bd 17 u) : B10 2 u := B10.of h (by decide)
end
end

section
open Go.RowKit
end

section
open Go.RowKit

/-- The cell i of a block holds a list of numbers. -/
def IsIn (T : TypeId) (w : World) (cs : Array Value) (i : Nat) (l : List Int) (bs : List Nat) : Prop := ∃ g n c, cs[i]? = some (.slice (some ⟨g, 0, none⟩) n c) ∧ FtI T w (some ⟨g, 0, none⟩) n c l bs
theorem isIn_keep (T : TypeId) : KeepE 1 (IsIn T) := by
  intro w W cs cs' i i' x bs h hc hs hb
  obtain ⟨A, n, c, h0, h1⟩ := h
  exact ⟨A, n, c, (hc 0 (by omega)).trans h0, h1.keep hs hb⟩
/-- One cell that holds a list of numbers. -/
def IsAt (w : World) (p : Addr) (l : List Int) : Prop := ∃ g n c, w.cell? p = some (.slice (some ⟨g, 0, none⟩) n c) ∧ RdI w (some ⟨g, 0, none⟩) n c l
theorem IsAt.bl {w W : World} {p : Addr} {l : List Int} (h : IsAt w p l) (hp : p.block < w.heap.size) (hb : Bl w W) : IsAt W p l := by
  obtain ⟨A, n, c, h0, h1⟩ := h
  exact ⟨A, n, c, by rw [hb.cellOf hp]; exact h0, h1.bl hb⟩
abbrev RdII := RdS 1 IsAt
theorem RdII.bl {w W : World} {A : Option Addr} {n c : Nat} {l : List (List Int)} (h : RdII w A n c l) (hb : Bl w W) : RdII W A n c l := RdS.bl (fun h hp hb => h.bl hp hb) h hb
/-- A row of rows of numbers. -/
abbrev RowI (N : List Nat → Prop) (lo hi : Nat) (w : World) (v : Value) (l : List (List Int)) : Prop := RowG N 25 1 (IsIn 3) lo hi w v l
theorem RowI.rd {N : List Nat → Prop} {lo hi : Nat} {w : World} {v : Value} {l : List (List Int)} (h : RowI N lo hi w v l) (hl : l.length ≤ 1048576) (hl0 : 0 < l.length) : ∃ g c, v = .slice (some ⟨g, 0, none⟩) l.length c ∧ RdII w (some ⟨g, 0, none⟩) l.length c l := by
  obtain ⟨cells, fs, r1, r2, r3, r4, r5, r6, r7⟩ := h
  rcases r1.2 with ⟨rfl, h0⟩ | ⟨g, cap, cur, rfl, hg, hh, hn, hcap, hcs, ht⟩
  · omega
  · refine ⟨_, cap, rfl, rfl, hn, by omega, fun k hk => ⟨_, rfl, heap_lt hh, ?_⟩⟩
    obtain ⟨A, n, c, h0, h1⟩ := r4 k hk
    refine ⟨A, n, c, ?_, h1.1⟩
    rw [Nat.mul_one, Addr.add_lit, Nat.zero_add]
    rw [Nat.mul_one] at h0
    refine (show World.cell? w ⟨g, k, none⟩ = cur[k]? from Blk.cell (T := 25) hh k).trans ?_
    rw [← h0, ← ht]
    simp [hk]
/-- The parents of points and the marks of edges, while they are being built. -/
def PM (lo : Nat) (w : World) (vp vm : Value) (L : List (List Int)) (M : List Int) : Prop :=
  RowI (Sep vm) lo w.heap.size w vp L ∧ OwL 3 lo w vm M ∧ ∀ g, vm.ownBlock = Option.some g → vp.ownBlock ≠ Option.some g
section
variable {lo : Nat} {w W w' : World} {vp vm vp' vm' : Value} {L L' : List (List Int)} {M M' : List Int}
theorem PM.start (w : World) (h : lo ≤ w.heap.size) : PM lo ((w.alloc (.cells #[] 3)).alloc (.cells #[] 25)) (.slice (some ⟨w.heap.size + 1, 0, none⟩) 0 0) (.slice (some ⟨w.heap.size, 0, none⟩) 0 0) [] [] := by
  refine ⟨?_, ?_, ?_⟩
  · have h1 := RowG.empty (α := List Int) (N := Sep (.slice (some ⟨w.heap.size, 0, none⟩) 0 0)) (TP := 25) (size := 1) (lo := lo) (El := IsIn 3) (appN_sep _) (w.alloc (.cells #[] 3)) (by simp; omega)
    have e : (w.alloc (.cells #[] 3)).heap.size = w.heap.size + 1 := by simp
    have e2 : ((w.alloc (.cells #[] 3)).alloc (.cells #[] 25)).heap.size = w.heap.size + 1 + 1 := by simp
    rw [e2]
    rw [e] at h1
    exact h1
  · exact OwL.alloc (OwL.empty w h (Nat.zero_le _)) _
  · intro g e e2
    have a : w.heap.size = g := by injection e
    have b : w.heap.size + 1 = g := by injection e2
    omega
theorem PM.bl (h : PM lo w vp vm L M) (hb : Bl w W) : PM lo W vp vm L M :=
  ⟨(RowG.bl (isIn_keep 3) h.1 hb).up hb.size (Nat.le_refl _), h.2.1.bl hb, h.2.2⟩
end
end

section
open Go.RowKit

theorem sameM_refl {x : MeD} : sameM x x = true := by simp [sameM, Same]
end

end Go.Proofs.YtajlahjghapbkaaGreat
