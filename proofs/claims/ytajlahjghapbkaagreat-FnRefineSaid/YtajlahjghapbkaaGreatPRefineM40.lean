/- Lemmas. -/
import Derived.Test.YtajlahjghapbkaaGreatRows
import Derived.Test.YtajlahjghapbkaaGreatPRefineM39
import Derived.Test.YtajlahjghapbkaaGreatPRefineM28
import Derived.Test.YtajlahjghapbkaaGreatPRefineM25
import Derived.Lib.MinMax
import Derived.Test.YtajlahjghapbkaaGreatPRefineM24
import Derived.Test.YtajlahjghapbkaaGreatPRefineM19
import Derived.Test.YtajlahjghapbkaaGreatPRefineM16
import Derived.Deep.Cut
import Derived.Deep.DeepCutAuto
import Derived.Test.YtajlahjghapbkaaGreatPRefineM38
namespace Go.Proofs.YtajlahjghapbkaaGreat
section
open Go.RowKit

def CoRes (w : World) (e : Ending) (w' : World) : Prop := ∃ v m, e = .returned v ∧ m ∈ csL ∧ MeOw w.heap.size w' v m ∧ Bl w w'
set_option maxRecDepth 100000 in
set_option maxHeartbeats 8000000 in
theorem MakeCoarse_any (w : World) {A : Option Addr} {n c : Nat} {l : List Int} (h : RdB w A n c l) :
    Calls Tryz.prog 43 #[.slice A n c] w (CoRes w) := by
  go_enter Tryz.func43, Tryz.ntmps43
  go_wp2_with fail
  refine calls_gen (fun W => Bl w W ∧ Wk 2 57 w.heap.size W) ⟨slc, bts⟩ ?_
  rintro W ⟨hbW, hr⟩
  refine (l01New_any _ (h.bl hbW)).mono ?_
  rintro e w1 ⟨g, rfl, hg, hC, hb1⟩
  have hzW : w.heap.size < W.heap.size := hr.lt
  have hr := hr.bl hb1
  have hbW := hbW.next hb1
  have hz1 := hr.lt
  have hz3 := hb1.size
  clear hb1
  go_wp2_with fail
  refine (l07Start_any _ hC).mono ?_
  rintro e w2 ⟨_, m, rfl, hm, hO, _, hob⟩
  obtain ⟨gp2, n2, cp2, gt2, m2, ct2, rfl, hP2, hT2⟩ := hO.1
  have hr := hr.ob hob (by simp; omega)
  have hbx : Bl w w2 := hbW.ob hob (fun b hb => by simp at hb; omega)
  obtain ⟨v0, x0⟩ := hr.val_ (i := 0) (by omega)
  obtain ⟨v1, x1⟩ := hr.val_ (i := 1) (by omega)
  have hgr := hr.lt
  obtain ⟨cs4, hB4, hc4⟩ := hr
  have hf0 := hB4.frozen 0
  have hf1 := hB4.frozen 1
  go_wp2_with fail
  exact bodyPost_ret (v := .agg #[.slice (some ⟨gp2, 0, none⟩) n2 cp2, .slice (some ⟨gt2, 0, none⟩) m2 ct2]) (by simp [results, Tryz.results43, go_sem, x0, x1]) rfl ⟨_, m, rfl, hm, MeOw.low (MeOw.setLow (MeOw.setLow hO (q := ⟨w.heap.size, 0, none⟩) hz1 _) (q := ⟨w.heap.size, 1, none⟩) hz1 _) (by omega), Bl.set (Bl.set hbx (show w.heap.size ≤ w.heap.size by omega) _) (show w.heap.size ≤ w.heap.size by omega) _⟩
theorem Cur.keepG {g n c : Nat} {w W w' : World} {A : Option Addr} {l : List Int} (h : Cur g W A n c l) (hg : w'.heap[g]? = W.heap[g]?) (hbW : Bl w W) (hb : Bl w w') (hA : ∀ ad, A = Option.some ad → 0 < n → ad.block < w.heap.size) : Cur g w' A n c l := by
  obtain ⟨i, k, h1, h2, h3, h4, h5⟩ := h
  refine ⟨i, k, hg.trans h1, h2, h3, ⟨h4.len, h4.cap, h4.small, fun j hj => ?_⟩, h5⟩
  obtain ⟨ad, e, hlt, hc, hx⟩ := h4.cells j hj
  have hl := hA ad e (by omega)
  refine ⟨ad, e, Nat.lt_of_lt_of_le hl hb.size, ?_, hx⟩
  have h6 : (ad.add (j * 1)).block < w.heap.size := by rw [block_add]; exact hl
  exact (hb.cellOf h6).trans ((hbW.cellOf h6).symm.trans hc)
/-- Some small indices. -/
def SomeI (l : List Int) : Prop := l.length ≤ 3 ∧ ∀ x ∈ l, 0 ≤ x ∧ x < 8
def SoRes (w : World) (e : Ending) (w' : World) : Prop := ∃ A n c l, e = .returned (.slice A n c) ∧ RdI w' A n c l ∧ SomeI l ∧ Bl w w'
set_option maxRecDepth 100000 in
set_option maxHeartbeats 16000000 in
theorem MakeSome_any (w : World) {A : Option Addr} {n c : Nat} {l : List Int} (m : Nat) (hm : m ≤ 100) (h : RdB w A n c l) :
    Calls Tryz.prog 46 #[.slice A n c, .int .i64 (m : Int)] w (SoRes w) := by
  have hAl : ∀ ad, A = Option.some ad → 0 < n → ad.block < w.heap.size := fun ad e h0 => by
    obtain ⟨_, e2, hl, _⟩ := h.cells 0 h0
    rw [e] at e2
    cases e2
    exact hl
  have hAl := Lib.hid hAl; rename_i h_; clear h_
  go_enter Tryz.func46, Tryz.ntmps46
  go_wp2_with fail
  refine (l31New_any _ m (by omega) h).mono ?_
  rintro e w1 ⟨g, rfl, hg, hC, hb1⟩
  have hgl := hC.lt
  go_upto_region 3 with (fail)
  refine wp_gen (fun W => Bl w1 W ∧ ∃ v0 c, OwL 3 w.heap.size W v0 [] ∧ v0 = .slice (some ⟨w1.heap.size, 0, none⟩) 0 c ∧ c = 0) ⟨slc, _, 0, OwL.empty w1 hb1.size (by decide), rfl, rfl⟩ ?_
  rintro W ⟨hbW, v0, c0, hX, hv0, rfl⟩
  have hvg : v0.ownBlock ≠ some g := by rw [hv0]; intro e; injection e with e; simp only at e; omega
  rw [← hv0]
  have hgW : g < W.heap.size := Nat.lt_of_lt_of_le hgl hbW.size
  have hC := hC.bl hbW
  have hb1 := hb1.next hbW
  clear hv0 hbW
  go_wp2_with fail
  refine (l01Below_any _ 3 (by omega) (by omega) hC).mono ?_
  rintro e w2 ⟨x, rfl, hx0, hx1, hC, hO⟩
  have hX := hX.keepX (fun b e => hO.block b (hX.blk e).2 (by simp; rintro rfl; exact hvg e))
  have hb2 : Bl w w2 := hb1.ob hO (fun b hb => by simp at hb; omega)
  have hg2 := hC.lt
  obtain ⟨k0, hk0, hk1⟩ : ∃ k0 : Nat, 1 + x = (k0 : Int) ∧ k0 ≤ 3 := ⟨(1 + x).toNat, by omega, by omega⟩
  clear hO hx0 hx1 hgl hgW hb1
  go_wp2_with fail
  clear hk0
  have hvg := Lib.hid hvg; rename_i h_; clear h_
  go_loopw [6, 7] (fun s v wr => ∃ (k : Nat) (u : List Int), k ≤ 3 ∧ v = .int .i64 (k : Int) ∧ OwL 3 w.heap.size wr s u ∧ Hid (u.length + k ≤ 3 ∧ ∀ x ∈ u, 0 ≤ x ∧ x < 8) ∧ Hid (s.ownBlock ≠ some g) ∧ Cur g wr A n c l ∧ Bl w wr) (fun _ v _ => (intOf v).toNat)
  case atStart => exact ⟨k0, [], hk1, rfl, hX, Lib.hid ⟨by simpa using hk1, fun x hx => by cases hx⟩, hvg, hC, hb2⟩
  case round =>
    clear hX hvg hC hb2 hg2
    obtain ⟨k, u, hk, rfl, hX, hu, hvg, hC, hbw⟩ := hrel
    obtain ⟨wr2, rfl⟩ : ∃ wr2 : World, wr2 = wr := ⟨_, rfl⟩
    by_cases hk0 : 0 < k
    · have hki : (0 : Int) < (k : Int) := by omega
      obtain ⟨k', rfl⟩ : ∃ k', k = k' + 1 := ⟨k - 1, by omega⟩
      have hk2 : ((k' + 1 : Nat) : Int) - 1 = (k' : Int) := by omega
      obtain ⟨z, hz⟩ : ∃ z : Int, ((k' + 1 : Nat) : Int) = z := ⟨_, rfl⟩
      rw [hz] at hki hk2 ⊢
      have hz3 : z ≤ 3 := by omega
      go_wp2_with fail
      refine (l01Below_any _ 8 (by omega) (by omega) hC).mono ?_
      rintro e w3 ⟨y, rfl, hy0, hy1, hC, hO⟩
      have hX := hX.keepX (fun b e => hO.block b (hX.blk e).2 (by simp; rintro rfl; exact hvg.out e))
      have hb3 : Bl w w3 := hbw.ob hO (fun b hb => by simp at hb; omega)
      have hg3 := hC.lt
      have hul := hu.out.1
      clear hO
      go_wp2_with ((refine wpList_append_intX (w0 := w) info_int Tryz.underlying25 rfl (.tmp 19) (.tmp 22) rfl _ u (by rfl) hX hb3 1 (by rfl) (by omega) ?_); intro vx7 w7 hX7 hb7 hoth)
      have hC7 := hC.keepG (hoth g hg3 hvg.out).1 hb3 hb7 hAl.out
      have hv7 := Lib.hid (hoth g hg3 hvg.out).2
      go_roundw
      case rel => exact ⟨k', u ++ [y], by omega, rfl, hX7, Lib.hid ⟨by rw [List.length_append, List.length_singleton]; omega, fun x hx => by rcases List.mem_append.1 hx with hx | hx; exact hu.out.2 x hx; rw [List.mem_singleton] at hx; subst hx; exact ⟨hy0, hy1⟩⟩, hv7, hC7, hb7⟩
      case measure => rw [← hz]; simp [intOf]
    · obtain rfl : k = 0 := by omega
      have e0 : ((0 : Nat) : Int) = 0 := rfl
      rw [e0]
      clear e0
      have hul := hu.out.1
      obtain ⟨B, cb, rfl, hR⟩ := hX.own (by omega)
      go_wp2_with fail
      go_ret
      exact ⟨B, _, cb, u, rfl, hR.rd, ⟨by omega, hu.out.2⟩, hbw⟩
end

section
open Go.RowKit
end

section
open Go.RowKit

section
variable {x0 y0 x1 y1 x2 y2 u v : Rat}
theorem B10.pt (h : Bd 17 u) : B10 2 u := B10.of h (by decide)
end
end

section
open Go.RowKit

theorem eqR_self' (r : RatD) : eqR r r = true := by unfold eqR eqL; simp
end

section
open Go.RowKit

set_option maxRecDepth 100000 in
set_option maxHeartbeats 32000000 in
theorem FnRefine_any (w0 : World) {Ac : Option Addr} {nc cc : Nat} {lc : List Int} (hc : RdB w0 Ac nc cc lc) :
    Calls Tryz.prog 7 #[.slice Ac nc cc] w0 fun e w' => e = .returned (.bool true) ∧ Bl w0 w' := by
  have hn := hc.small
  by_cases hbig : (nc : Int) > 1048576
  · go_enter Tryz.func7, Tryz.ntmps7
    go_wp2_with fail
    go_ret
    exact ⟨rfl, slc⟩
  · have hsmall : ¬ 1048576 < (nc : Int) := hbig
    go_enter Tryz.func7, Tryz.ntmps7
    go_wp2_with fail
    refine (MakeCoarse_any _ hc).mono ?_
    rintro e w1 ⟨_, m, rfl, hm, hO1, hb1⟩
    obtain ⟨gp1, n1, cp1, gt1, m1, ct1, rfl, hP1, hT1⟩ := hO1.1
    go_upto_region 4 with (fail)
    refine wp_gen (fun W => Bl w1 W ∧ ∃ g3, Blk W g3 57 #[.slice (some ⟨gp1, 0, none⟩) n1 cp1, .slice (some ⟨gt1, 0, none⟩) m1 ct1] ∧ g3 = w1.heap.size) ⟨slc, _, by exact bts, rfl⟩ ?_
    rintro W1 ⟨hbW, g3, h3, hg3⟩
    rw [← hg3]
    have hP1 := RdPS.bl hP1 hbW
    have hT1 := RdTS.bl hT1 hbW
    have hbw := hb1.next hbW
    clear hg3 hbW hb1 hO1
    go_wp2_with fail
    refine (MakeSome_any _ 3 (by omega) (hc.bl hbw)).mono ?_
    rintro e w2 ⟨A4, n4, c4, l, rfl, hl, hSo, hb2⟩
    have h3 := h3.bl hb2
    have hP1 := RdPS.bl hP1 hb2
    have hT1 := RdTS.bl hT1 hb2
    have hbw := hbw.next hb2
    have hn4 : n4 ≤ 3 := by have := hSo.1; rw [hl.len] at this; exact this
    have hR := ref_ok hm l
    have hF := al_fit hm
    have hokM := Lib.hid hR.fit.ok
    have hokX := Lib.hid hR.fitX.ok
    have hfit := Lib.hid hR.fit
    have hAr := Lib.hid (show eqR (areaM (bisM m (emA m.tris l))) (areaM m) = true by rw [hR.area]; exact eqR_self' _)
    have hnew := Lib.hid hR.new
    have hF := Lib.hid hF; rename_i h_; clear h_
    have hSo := Lib.hid hSo.2; rename_i h_; clear h_
    clear hR hm hb2
    obtain ⟨r0, r1⟩ := bx2 h3
    go_wp2_with fail
    clear r0 r1
    have hMe1 : MeAt w2 (.agg #[.slice (some ⟨gp1, 0, none⟩) n1 cp1, .slice (some ⟨gt1, 0, none⟩) m1 ct1]) m := ⟨gp1, n1, cp1, gt1, m1, ct1, rfl, hP1, hT1⟩
    refine (RefineMesh_yes _ hMe1 hfit.out hl (by omega) hokX.out).mono ?_
    rintro e w3 ⟨_, rfl, hO2, hb3⟩
    obtain ⟨X, hX⟩ : ∃ X, bisM m (emA m.tris l) = X := ⟨_, rfl⟩
    rw [hX] at hO2 hokX hAr hnew
    clear hX
    obtain ⟨gp2, n2, cp2, gt2, m2, ct2, rfl, hP2, hT2⟩ := hO2.1
    go_upto_region 6 with (fail)
    refine wp_gen (fun W => Bl w3 W ∧ ∃ g5, Blk W g5 57 #[.slice (some ⟨gp2, 0, none⟩) n2 cp2, .slice (some ⟨gt2, 0, none⟩) m2 ct2] ∧ g5 = w3.heap.size) ⟨slc, _, by exact bts, rfl⟩ ?_
    rintro W3 ⟨hbW, g5, h5, hg5⟩
    rw [← hg5]
    have h3 := h3.bl (hb3.next hbW)
    have hP1 := RdPS.bl hP1 (hb3.next hbW)
    have hT1 := RdTS.bl hT1 (hb3.next hbW)
    have hMe1 := MeAt.bl hMe1 (hb3.next hbW)
    have hl := hl.bl (hb3.next hbW)
    have hP2 := RdPS.bl hP2 hbW
    have hT2 := RdTS.bl hT2 hbW
    have hbw := hbw.next (hb3.next hbW)
    have hMe2 : MeAt W3 (.agg #[.slice (some ⟨gp2, 0, none⟩) n2 cp2, .slice (some ⟨gt2, 0, none⟩) m2 ct2]) X := ⟨gp2, n2, cp2, gt2, m2, ct2, rfl, hP2, hT2⟩
    clear hg5 hbW hb3 hO2
    go_region_held3 (fun w' => (w'.cell? ⟨g3, 0, none⟩ = some (.slice (some ⟨gp1, 0, none⟩) n1 cp1) ∧ w'.cell? ⟨g3, 1, none⟩ = some (.slice (some ⟨gt1, 0, none⟩) m1 ct1)) ∧ (w'.cell? ⟨g5, 0, none⟩ = some (.slice (some ⟨gp2, 0, none⟩) n2 cp2) ∧ w'.cell? ⟨g5, 1, none⟩ = some (.slice (some ⟨gt2, 0, none⟩) m2 ct2))) (first | exact ⟨bx2 (T := 57) (h3.bl slc), bx2 (T := 57) (h5.bl slc)⟩) (first | (go_at_call 38; (with_reducible refine (IsMesh_yes _ (RdPS.bl hP2 slc) (RdTS.bl hT2 slc) hokX.out).mono ?_); rintro e v1 ⟨rfl, hv1⟩) | (go_at_call 39; (with_reducible refine (MeshArea_yes _ (MeAt.bl hMe2 slc) hokX.out).mono ?_); rintro e v3 ⟨s3_, A3_, n3_, c3_, B3_, m3_, d3_, rfl, hR3, hv3⟩) | (go_at_call 39; (with_reducible refine (MeshArea_yes _ (MeAt.bl hMe1 slc) hokM.out).mono ?_); rintro e v4 ⟨s4_, A4_, n4_, c4_, B4_, m4_, d4_, rfl, hR4, hv4⟩) | (go_at_call 21; (with_reducible refine (RatEqual_any _ (hR3.rd.bl slc) (hR4.rd.bl slc)).mono ?_); rw [hAr.out]; rintro e v5 ⟨rfl, hv5⟩))
    have hb5 : Bl W3 v5 := slc
    have h3 := h3.bl hb5
    have h5 := h5.bl hb5
    have hT1 := RdTS.bl hT1 hb5
    have hT2 := RdTS.bl hT2 hb5
    have hP1 := RdPS.bl hP1 hb5
    have hMe1 := MeAt.bl hMe1 hb5
    have hl := hl.bl hb5
    have hbw := hbw.next hb5
    clear hb5 hP2 hMe2
    have hm1l := Lib.hid hT1.len
    have hm2l := Lib.hid hT2.len
    have hct1 := hT1.cap
    have hct2 := hT2.cap
    have hm48 : m1 ≤ 48 := by have h := hokM.out.t48; rw [hm1l.out] at h; exact h
    have hm48x : m2 ≤ 48 := by have h := hokX.out.t48; rw [hm2l.out] at h; exact h
    have hll := Lib.hid hl.len
    have hcl := hl.cap
    obtain ⟨Wb, rfl⟩ : ∃ Wb : World, Wb = v5 := ⟨_, rfl⟩
    go_wp2_with fail
    go_loopw [43] (fun v wr => ∃ k : Nat, k ≤ n4 ∧ v = .int .i64 (k : Int) ∧ Bl Wb wr) (fun v _ => n4 - (intOf v).toNat)
    case atStart => exact ⟨0, by omega, rfl, Bl.refl _⟩
    case round =>
      obtain ⟨k, hk, rfl, hbi⟩ := hrel
      obtain ⟨wi, rfl⟩ : ∃ wi : World, wi = wr := ⟨_, rfl⟩
      obtain ⟨r0, r1⟩ := bx2 (h3.bl hbi)
      by_cases hkn : k < n4
      · have hki : (k : Int) < (n4 : Int) := by omega
        obtain ⟨ad, rfl, hlta, hca⟩ := (hl.bl hbi).cells k hkn
        have hxm := hSo.out _ (ix_mem (l := l) (k := k) (by rw [hll.out]; exact hkn))
        have hnk := hnew.out k (by rw [hll.out]; exact hkn) hxm.1
        obtain ⟨x, hx⟩ : ∃ x, ix l k = x := ⟨_, rfl⟩
        rw [hx] at hca hxm hnk
        obtain ⟨xn, rfl⟩ : ∃ xn : Nat, x = (xn : Int) := ⟨x.toNat, by omega⟩
        have hx := Lib.hid hx; rename_i h_; clear h_
        rw [Int.toNat_natCast] at hnk
        have hx8 : xn < 8 := by omega
        clear hxm
        by_cases hxl : xn < m1
        · have hxi : (xn : Int) < (m1 : Int) := by omega
          have hnj := Lib.hid (hnk (by rw [hm1l.out]; exact hxi))
          clear hnk
          obtain ⟨s0, s1⟩ := bx2 (h5.bl hbi)
          go_wp2_with fail
          clear r0 r1 s0 s1 hca
          go_loopw [55] (fun v wr => ∃ j : Nat, j ≤ m2 ∧ v = .int .i64 (j : Int) ∧ Bl wi wr) (fun v _ => m2 - (intOf v).toNat)
          case atStart => exact ⟨0, by omega, rfl, Bl.refl _⟩
          case round =>
            obtain ⟨j, hj, rfl, hbj⟩ := hrel
            obtain ⟨wj, rfl⟩ : ∃ wj : World, wj = wr := ⟨_, rfl⟩
            by_cases hjm : j < m2
            · have hji : (j : Int) < (m2 : Int) := by omega
              obtain ⟨y0, y1, y2, y3, y4⟩ := trs_lit (RdTS.bl hT2 (hbi.next hbj)) hjm
              have hne := hnj.out j (by rw [hm2l.out]; exact hjm)
              obtain ⟨tx, htx⟩ : ∃ tx, pix X.tris j = tx := ⟨_, rfl⟩
              rw [htx] at y0 y1 y2 y3 y4 hne
              clear htx
              go_upto_region 15 with (fail)
              refine wp_gen (fun W => Bl wj W ∧ ∃ g10, Blk W g10 73 #[.int .i64 tx.a, .int .i64 tx.b, .int .i64 tx.c, .int .i64 tx.region, .int .i64 tx.level] ∧ g10 = wj.heap.size) ⟨by exact slc, _, by exact bts, rfl⟩ ?_
              rintro W4 ⟨hb4, g10, h10, hg10⟩
              rw [← hg10]
              have hbj := hbj.next hb4
              clear y0 y1 y2 y3 y4 hg10 hb4
              obtain ⟨y0, y1, y2, y3, y4⟩ := bx5 h10
              obtain ⟨z0, z1, z2, z3, z4⟩ := trs_lit (RdTS.bl hT1 (hbi.next hbj)) hxl
              obtain ⟨r0, r1⟩ := bx2 (h3.bl (hbi.next hbj))
              obtain ⟨tm, htm⟩ : ∃ tm, pix m.tris xn = tm := ⟨_, rfl⟩
              rw [htm] at z0 z1 z2 z3 z4 hne
              clear htm
              rcases tri_diff hne with f1 | ⟨f1, f2⟩ | ⟨f1, f2, f3⟩ | ⟨f1, f2, f3, f4⟩ | ⟨f1, f2, f3, f4, f5⟩
              all_goals
                clear hne
                go_quiet (fail)
                go_wp2_with fail
                go_roundw
                case rel => exact ⟨j + 1, by omega, by go_num, slc⟩
                case measure => simp [intOf]; omega
            · obtain rfl : j = m2 := by omega
              have hkm2 : ¬ (j : Int) < (j : Int) := by omega
              go_wp2_with fail
              go_roundw
              case rel => exact ⟨k + 1, by omega, by go_num, hbi.next hbj⟩
              case measure => simp [intOf]; omega
        · have hxi : ¬ (xn : Int) < (m1 : Int) := by omega
          clear hnk
          go_wp2_with fail
          go_roundw
          case rel => exact ⟨k + 1, by omega, by go_num, hbi⟩
          case measure => simp [intOf]; omega
      · obtain rfl : k = n4 := by omega
        have hkm2 : ¬ (k : Int) < (k : Int) := by omega
        go_wp2_with fail
        refine (RefineAll_yes _ (MeAt.bl hMe1 hbi) hfit.out hF.out.1.ok).mono ?_
        rintro e w6 ⟨_, rfl, hO3, hb6⟩
        obtain ⟨gp3, n3, cp3, gt3, m3, ct3, rfl, hP3, hT3⟩ := hO3.1
        clear r0 r1
        go_upto_region 20 with (fail)
        refine wp_gen (fun W => Bl w6 W ∧ ∃ g11, Blk W g11 57 #[.slice (some ⟨gp3, 0, none⟩) n3 cp3, .slice (some ⟨gt3, 0, none⟩) m3 ct3] ∧ g11 = w6.heap.size) ⟨slc, _, by exact bts, rfl⟩ ?_
        rintro W6 ⟨hbW, g11, h11, hg11⟩
        rw [← hg11]
        have hb6 := (hbi.next hb6).next hbW
        have h3 := h3.bl hb6
        have hMe1 := MeAt.bl hMe1 hb6
        have hbw := hbw.next hb6
        have hlT : m3 = 4 * m1 := by have h1 := hF.out.2.1; have h2 := hT3.len; have h3 := hm1l.out; omega
        have hpl : m.pts.length = n1 := by have h := hP1.len; rw [List.length_map] at h; exact h
        have hpl3 : (alM m).pts.length = n3 := by have h := hP3.len; rw [List.length_map] at h; exact h
        obtain ⟨neL, hneL⟩ : ∃ neL, (edL m.tris).length = neL := ⟨_, rfl⟩
        have hlP : n3 = n1 + neL := by have h1 := hF.out.2.2; omega
        have hneL := Lib.hid hneL; rename_i h_; clear h_
        have hnb : neL ≤ 200 := by have h1 := edTo_len m.tris m.tris.length; have h2 : (edL m.tris).length ≤ 3 * m.tris.length := h1; rw [hneL.out, hm1l.out] at h2; omega
        have hn1b : n1 ≤ 40 := by have h := hokM.out.n40; omega
        have u1 : IntKind.i64.wrap (4 * (m1 : Int)) = (m3 : Int) := by rw [hlT, Int.natCast_mul]; exact IntWalk.i64_in _ (by omega)
        have u2 : IntKind.i64.wrap ((n1 : Int) + (neL : Int)) = (n3 : Int) := by rw [hlP, Int.natCast_add]; exact IntWalk.i64_in _ (by omega)
        clear hg11 hbW hlT hlP hpl hpl3
        go_region_held3 (fun w' => (w'.cell? ⟨g3, 0, none⟩ = some (.slice (some ⟨gp1, 0, none⟩) n1 cp1) ∧ w'.cell? ⟨g3, 1, none⟩ = some (.slice (some ⟨gt1, 0, none⟩) m1 ct1)) ∧ (w'.cell? ⟨g11, 0, none⟩ = some (.slice (some ⟨gp3, 0, none⟩) n3 cp3) ∧ w'.cell? ⟨g11, 1, none⟩ = some (.slice (some ⟨gt3, 0, none⟩) m3 ct3))) (first | exact ⟨bx2 (T := 57) (h3.bl slc), bx2 (T := 57) (h11.bl slc)⟩) (first | (go_at_call 48; (with_reducible refine (EdgesOf_yes _ (MeAt.bl hMe1 slc) hokM.out).mono ?_); rintro e v6 ⟨ge, ne, ce, rfl, hes, hv6⟩; (obtain rfl : ne = neL := hes.len.symm.trans hneL.out)))
        all_goals go_wp2_with fail
        all_goals go_ret
        all_goals exact ⟨rfl, hbw.next (by exact slc)⟩
end

end Go.Proofs.YtajlahjghapbkaaGreat
