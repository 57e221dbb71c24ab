/- Lemmas. -/
import Derived.Test.YtajlahjghapbkaaGreatRows
import Derived.Test.YtajlahjghapbkaaGreatPProlongM36
import Derived.Test.YtajlahjghapbkaaGreatPProlongM23
import Derived.Test.YtajlahjghapbkaaGreatPProlongM08
import Derived.Test.YtajlahjghapbkaaGreatPProlongM22
import Derived.Deep.Cut
import Derived.Deep.DeepCutAuto
namespace Go.Proofs.YtajlahjghapbkaaGreat
section
open Go.RowKit

noncomputable def proR (u : List RatD) (l : List Int) : RatD := if l.length = 2 then mulR (ofFrac 1 2) (addR (pix u (ix l 0).toNat) (pix u (ix l 1).toNat)) else pix u (ix l 0).toNat
noncomputable def proT (u : List RatD) (P : List (List Int)) (k : Nat) : List RatD := (List.range k).map fun i => proR u (pix P i)
theorem proT_len (u : List RatD) (P : List (List Int)) (k : Nat) : (proT u P k).length = k := by simp [proT]
theorem proT_succ (u : List RatD) (P : List (List Int)) (k : Nat) : proT u P (k + 1) = proT u P k ++ [proR u (pix P k)] := by simp [proT, List.range_succ]
def PaOk (n : Nat) (P : List (List Int)) : Prop := ∀ i, i < P.length → ((pix P i).length = 1 ∨ (pix P i).length = 2) ∧ ∀ x ∈ pix P i, 0 ≤ x ∧ x < n
theorem paL_ok {m x : MeQ} (hf : FitM m) : PaOk m.pts.length (paL m (rmL m x)) := by
  have hE : EdIx m.pts.length (edL m.tris) := edTo_ix hf.ok.ixs (Nat.le_refl _)
  have key : ∀ l ∈ paL m (rmL m x), (l.length = 1 ∨ l.length = 2) ∧ ∀ x ∈ l, 0 ≤ x ∧ x < m.pts.length := by
    intro l hl
    rw [paL_eq] at hl
    rcases List.mem_append.1 hl with h | h
    · obtain ⟨j, hj, rfl⟩ := List.mem_map.1 h
      have := List.mem_range.1 hj
      exact ⟨.inl rfl, fun x hx => by rw [List.mem_singleton] at hx; subst hx; omega⟩
    · obtain ⟨k, hk, rfl⟩ := List.mem_map.1 h
      have h1 := lsTo_mem hk
      obtain ⟨⟨a0, a1⟩, b0, b1⟩ := hE.at_ (k := k.toNat) (by omega)
      refine ⟨.inr rfl, fun x hx => ?_⟩
      rcases List.mem_cons.1 hx with rfl | hx
      · exact ⟨a0, a1⟩
      · rw [List.mem_singleton] at hx
        subst hx
        exact ⟨b0, b1⟩
  intro i hi
  refine key _ ?_
  unfold pix
  rw [List.getD_eq_getElem?_getD, List.getElem?_eq_getElem hi]
  exact List.getElem_mem hi
def RatsRes (w : World) (l : List RatD) (e : Ending) (w' : World) : Prop := ∃ g k d, e = .returned (.slice (some ⟨g, 0, none⟩) k d) ∧ RdRS w' (some ⟨g, 0, none⟩) k d l ∧ Bl w w'
theorem ZTo.ok {l : List RatD} (h : AllOk l) : ZTo l := fun j hj => .inr (h j hj)
set_option maxRecDepth 100000 in
set_option maxHeartbeats 32000000 in
theorem Prolong_yes (w : World) {v v' : Value} {m x : MeQ} (h : MeAt w v m) (h' : MeAt w v' x) (hf : FitM m) (hx : MeshOk x) (hr : RmOk m x) {gu nu du : Nat} {u : List RatD} (hu : RdRS w (some ⟨gu, 0, none⟩) nu du u) (hok : Hid (AllOk u)) (hnu : nu = m.pts.length)
    (hP : AllOk (proT u (paL m (rmL m x)) (paL m (rmL m x)).length)) :
    Calls Tryz.prog 60 #[v, v', .slice (some ⟨gu, 0, none⟩) nu du] w (RatsRes w (proT u (paL m (rmL m x)) (paL m (rmL m x)).length)) := by
  have hMe := h
  have hMe' := h'
  obtain ⟨gp1, n1, cp1, gt1, m1, ct1, rfl, hp, ht⟩ := h
  obtain ⟨gp2, n2, cp2, gt2, m2, ct2, rfl, hp', ht'⟩ := h'
  have hn1 : m.pts.length = n1 := by rw [← hp.len, List.length_map]
  obtain rfl : nu = n1 := by omega
  have hnu40 : nu ≤ 40 := by have := hf.ok.n40; omega
  have hnu3 : 3 ≤ nu := by have := hf.ok.n3; omega
  have hpok := paL_ok (x := x) hf
  rw [hn1] at hpok
  have hplen : (paL m (rmL m x)).length ≤ 1000 := by
    have h1 := edTo_len m.tris m.tris.length
    have h2 : (edL m.tris).length ≤ 3 * m.tris.length := h1
    have h3 := lsTo_len (inB m x) (edL m.tris).length
    have h4 : (rmL m x).length ≤ (edL m.tris).length := h3
    have h5 := hf.ok.t48
    rw [paL_eq, List.length_append, sgL_len, List.length_map]
    omega
  have hpl3 : 3 ≤ (paL m (rmL m x)).length := by rw [paL_eq, List.length_append, sgL_len]; omega
  have hfH := Lib.hid hf
  have hxH := Lib.hid hx
  have hrH := Lib.hid hr
  obtain ⟨P, hPd⟩ : ∃ P, paL m (rmL m x) = P := ⟨_, rfl⟩
  rw [hPd] at hP hpok hplen hpl3 ⊢
  have hPdH := Lib.hid hPd
  clear hf hx hr hp ht hp' ht' hn1 hnu hPd
  go_enter Tryz.func60, Tryz.ntmps60
  go_upto_region 1 with (fail)
  refine wp_gen (fun W => Bl w W ∧ ∃ g2 g3, Blk W g2 57 #[.slice (some ⟨gp1, 0, none⟩) nu cp1, .slice (some ⟨gt1, 0, none⟩) m1 ct1] ∧ Blk W g3 57 #[.slice (some ⟨gp2, 0, none⟩) n2 cp2, .slice (some ⟨gt2, 0, none⟩) m2 ct2] ∧ g2 = w.heap.size ∧ g3 = w.heap.size + 1) ⟨by exact slc, _, _, by exact bts, by exact bts, rfl, rfl⟩ ?_
  rintro W0 ⟨hb0, g2, g3, h2, h3, hg2, hg3⟩
  rw [← hg3, ← hg2]
  clear hg2 hg3
  obtain ⟨r0, r1⟩ := bx2 h2
  obtain ⟨s0, s1⟩ := bx2 h3
  go_wp2_with fail
  refine (ParentsOf_yes _ (MeAt.bl hMe slc) (MeAt.bl hMe' slc) hfH.out hxH.out hrH.out).mono ?_
  unfold ParRes
  rw [hPdH.out]
  rintro e w1 ⟨gpa, k, d, rfl, hPa, hb1⟩
  have hPlen := Lib.hid hPa.len
  have hk3 : 3 ≤ k := by rw [← hPa.len]; exact hpl3
  have hk1000 : k ≤ 1000 := by rw [← hPa.len]; exact hplen
  have hPH := Lib.hid hP
  have hpH := Lib.hid hpok
  have h2 := h2.bl hb1
  have hbw := hb0.next hb1
  clear r0 r1 s0 s1 hP hpok hplen hpl3 hb0 hb1 h3
  obtain ⟨r0, r1⟩ := bx2 h2
  have hnb : ∀ W : World, Sem.run Tryz.prog (binOp BinOp.eql 83 (.slice (some ⟨gpa, 0, none⟩) k d) (.slice none 0 0)) W = .ok (.bool false) W := fun _ => by kernel_rfl
  go_wp2_with fail
  clear hnb
  refine (isVector_yes _ (RdRS.bl hu hbw) hok _ rfl).mono ?_
  rintro e w2 ⟨rfl, hb2⟩
  have hbw := hbw.next hb2
  have hu2 := RdRS.bl hu hbw
  have hPa := RdII.bl hPa hb2
  clear r0 r1 h2 hb2
  go_upto_region 5 with (fail)
  refine wp_gen (fun W => Bl w2 W ∧ ∃ v c, RowR List.Nodup w2.heap.size W.heap.size W v [] ∧ v = .slice (some ⟨w2.heap.size, 0, none⟩) 0 c ∧ c = 0) ⟨by exact slc, _, 0, by have := RowG.empty (size := 3) (TP := 29) (El := RtIn 3) appN_nodup w2 (Nat.le_refl _); rw [World.size_alloc]; exact this, rfl, rfl⟩ ?_
  rintro W ⟨hbW, v0, c0, hrow, hv0, rfl⟩
  rw [← hv0]
  have hzW := hbW.size
  clear hv0
  go_wp2_with fail
  go_loopw [8, 28] (fun sp si wr => ∃ (j : Nat) (o : Value), j ≤ k ∧ si = .int .i64 (j : Int) ∧ o = sp ∧ RowR List.Nodup w2.heap.size wr.heap.size wr o (proT u P j) ∧ Bl w2 wr ∧ w2.heap.size ≤ wr.heap.size) (fun _ si _ => k - (intOf si).toNat)
  case atStart => exact ⟨0, v0, by omega, rfl, rfl, hrow, hbW, hzW⟩
  case round =>
    clear hrow hbW hzW
    obtain ⟨j, o, hj, rfl, rfl, hrow, hbj, hlo⟩ := hrel
    obtain ⟨wj, rfl⟩ : ∃ wj : World, wj = wr := ⟨_, rfl⟩
    by_cases hjk : j < k
    · have hji : (j : Int) < (k : Int) := by omega
      obtain ⟨_, ee, hgpa, hcc⟩ := (RdII.bl hPa hbj).cells j hjk
      cases ee
      rw [Addr.add_lit, Nat.zero_add, Nat.mul_one] at hcc
      obtain ⟨gl, nl, cl, xr, hrd⟩ := hcc
      obtain ⟨hl12, hlx⟩ := hpH.out j (by rw [hPlen.out]; exact hjk)
      have hval0 : proR u (pix P j) = proR u (pix P j) := rfl
      obtain ⟨l, hl⟩ : ∃ l, pix P j = l := ⟨_, rfl⟩
      rw [hl] at hrd hl12 hlx
      have hlH := Lib.hid hl
      have hrl := hrd.len
      have hux := RdRS.bl hu2 hbj
      obtain ⟨_, ee, hgl, xl0⟩ := hrd.cells 0 (by omega)
      cases ee
      rw [Addr.add_lit, Nat.zero_add] at xl0
      have hx0 := hlx _ (ix_mem (l := l) (k := 0) (by omega))
      obtain ⟨ua, hua⟩ : ∃ ua : Nat, ix l 0 = (ua : Int) := ⟨(ix l 0).toNat, by omega⟩
      rw [hua] at xl0 hx0
      have huan : ua < nu := by omega
      have huai : (ua : Int) < (nu : Int) := by omega
      obtain ⟨_, ee, hlx2, hcc⟩ := hux.cells ua huan
      cases ee
      rw [Addr.add_lit, Nat.zero_add] at hcc
      obtain ⟨sx, Ax, nx, cx, Bx, mx, dx, ⟨xx0, xx1, xx2⟩, hRx⟩ := (show RtAt wj ⟨gu, ua * 3, none⟩ (pix u ua) from hcc)
      clear hcc
      have xx0 : wj.cell? ⟨gu, ua * 3, none⟩ = some (.bool sx) := xx0
      have xx1 : wj.cell? ⟨gu, ua * 3 + 1, none⟩ = some (.slice Ax nx cx) := xx1
      have xx2 : wj.cell? ⟨gu, ua * 3 + 2, none⟩ = some (.slice Bx mx dx) := xx2
      have hlens := OkR.lens hRx (hok.out ua (by rw [hu2.len]; exact huan))
      clear hl hval0
      go_wp2_with fail
      refine (copyRat_any _ (hRx.bl slc) (by omega) (by omega)).mono ?_
      rintro e w3 ⟨A3, n3, c3, B3, m3, d3, rfl, hR3, hb3⟩
      go_upto_region 9 with (fail)
      refine wp_gen (fun W => Bl wj W ∧ ∃ g11, Blk W g11 29 #[.bool sx, .slice A3 n3 c3, .slice B3 m3 d3] ∧ OwR 3 wj.heap.size W sx A3 n3 c3 B3 m3 d3 (pix u ua) ∧ g11 = w3.heap.size) ⟨by exact slc, _, by exact bts, by exact hR3.bl slc, rfl⟩ ?_
      rintro W ⟨hbW, g11, h11, hR3, hg11⟩
      rw [← hg11]
      have hg11j : wj.heap.size ≤ g11 := by rw [hg11]; exact hb3.size
      have hzW := hbW.size
      clear hg11 hb3 xx0 xx1 xx2 hRx hlx2 hlens
      rcases hl12 with hl1 | hl2
      · obtain rfl : nl = 1 := by omega
        have hval := Lib.hid (show proR u (pix P j) = pix u ua by rw [hlH.out]; unfold proR; rw [if_neg (by omega), hua, Int.toNat_natCast])
        have hR11 := hR3
        obtain ⟨x0, x1, x2⟩ := bx3 h11
        go_wp2_with ((refine wpList_append_ratS rfl (.tmp 52) (.tmp 54) rfl _ (by rfl) (RowG.bl (rtIn_keep 3) hrow (show Bl wj _ from slc)) (hR11.bl slc) (Nat.le_refl _) hlo 1 (by rfl) (by rw [proT_len]; omega) w2 (hbj.next (show Bl wj _ from slc)) (Nat.le_refl _) ?_); intro v7 w7 hrow7 hb7 hoth)
        go_roundw
        case rel => exact ⟨j + 1, v7, by omega, by go_num, rfl, by rw [proT_succ, hval.out]; exact hrow7, hb7, by omega⟩
        case measure => simp [intOf]; omega
      · obtain rfl : nl = 2 := by omega
        obtain ⟨_, ee, hgl, xl1⟩ := hrd.cells 1 (by omega)
        cases ee
        rw [Addr.add_lit, Nat.zero_add] at xl1
        have hx1 := hlx _ (ix_mem (l := l) (k := 1) (by omega))
        obtain ⟨ub, hub⟩ : ∃ ub : Nat, ix l 1 = (ub : Int) := ⟨(ix l 1).toNat, by omega⟩
        rw [hub] at xl1 hx1
        have hubn : ub < nu := by omega
        have hubi : (ub : Int) < (nu : Int) := by omega
        have hval := Lib.hid (show proR u (pix P j) = mulR (ofFrac 1 2) (addR (pix u ua) (pix u ub)) by rw [hlH.out]; unfold proR; rw [if_pos (by omega), hua, hub, Int.toNat_natCast, Int.toNat_natCast])
        have hglW : gl < W.heap.size := Nat.lt_of_lt_of_le hgl hzW
        have xl1 := (hbW.cellOf (p := ⟨gl, 1, none⟩) hgl).trans xl1
        have huW := RdRS.bl hux hbW
        obtain ⟨_, ee, hly, hcc⟩ := huW.cells ub hubn
        cases ee
        rw [Addr.add_lit, Nat.zero_add] at hcc
        obtain ⟨sy, Ay, ny, cy, By, my, dy, ⟨xy0, xy1, xy2⟩, hRy⟩ := (show RtAt W ⟨gu, ub * 3, none⟩ (pix u ub) from hcc)
        clear hcc
        have xy0 : W.cell? ⟨gu, ub * 3, none⟩ = some (.bool sy) := xy0
        have xy1 : W.cell? ⟨gu, ub * 3 + 1, none⟩ = some (.slice Ay ny cy) := xy1
        have xy2 : W.cell? ⟨gu, ub * 3 + 2, none⟩ = some (.slice By my dy) := xy2
        clear xl0 hua hub
        go_upto_region 10 with (fail)
        have hHeld : (fun w' => (w'.cell? ⟨g11, 0, none⟩ = some (.bool sx) ∧ w'.cell? ⟨g11, 1, none⟩ = some (.slice A3 n3 c3) ∧ w'.cell? ⟨g11, 2, none⟩ = some (.slice B3 m3 d3)) ∧ w'.cell? ⟨gl, 1, none⟩ = some (.int .i64 (ub : Int)) ∧ (w'.cell? ⟨gu, ub * 3, none⟩ = some (.bool sy) ∧ w'.cell? ⟨gu, ub * 3 + 1, none⟩ = some (.slice Ay ny cy) ∧ w'.cell? ⟨gu, ub * 3 + 2, none⟩ = some (.slice By my dy))) (W.drew) := ⟨bx3 (T := 29) (h11.bl slc), (Bl.cellOf (w := W) (p := ⟨gl, 1, none⟩) slc hglW).trans xl1, ⟨(Bl.cellOf (w := W) (p := ⟨gu, ub * 3, none⟩) slc hly).trans xy0, (Bl.cellOf (w := W) (p := ⟨gu, ub * 3 + 1, none⟩) slc hly).trans xy1, (Bl.cellOf (w := W) (p := ⟨gu, ub * 3 + 2, none⟩) slc hly).trans xy2⟩⟩
        refine wp_region_T 10 11 (fun w' => (w'.cell? ⟨g11, 0, none⟩ = some (.bool sx) ∧ w'.cell? ⟨g11, 1, none⟩ = some (.slice A3 n3 c3) ∧ w'.cell? ⟨g11, 2, none⟩ = some (.slice B3 m3 d3)) ∧ w'.cell? ⟨gl, 1, none⟩ = some (.int .i64 (ub : Int)) ∧ (w'.cell? ⟨gu, ub * 3, none⟩ = some (.bool sy) ∧ w'.cell? ⟨gu, ub * 3 + 1, none⟩ = some (.slice Ay ny cy) ∧ w'.cell? ⟨gu, ub * 3 + 2, none⟩ = some (.slice By my dy))) rfl (by kernel_rfl) hHeld ?_
        refine wpAnyT_take (i := 1) (oi := _) (v := ?_) (fuel := 10) rfl (by kernel_rfl) (by kernel_rfl) (by kernel_rfl) (by kernel_rfl) (fun _ _ _ h => h) (by rfl) ?_ hHeld ?_
        rotate_left 1
        · (intro w' hSw; (try dsimp only at hSw); go_simp <;> with_reducible rfl)
        refine wpAnyT_take (i := 2) (oi := _) (v := ?_) (fuel := 9) rfl (by kernel_rfl) (by kernel_rfl) (by kernel_rfl) (by kernel_rfl) (fun _ _ _ h => h) (by rfl) ?_ hHeld ?_
        rotate_left 1
        · (intro w' hSw; (try dsimp only at hSw); go_simp <;> with_reducible rfl)
        refine wpAnyT_take (i := 3) (oi := _) (v := ?_) (fuel := 8) rfl (by kernel_rfl) (by kernel_rfl) (by kernel_rfl) (by kernel_rfl) (fun _ _ _ h => h) (by rfl) ?_ hHeld ?_
        rotate_left 1
        · (intro w' hSw; (try dsimp only at hSw); go_simp <;> with_reducible rfl)
        refine wpAnyT_take (i := 4) (oi := _) (v := ?_) (fuel := 7) rfl (by kernel_rfl) (by kernel_rfl) (by kernel_rfl) (by kernel_rfl) (fun _ _ _ h => h) (by rfl) ?_ hHeld ?_
        rotate_left 1
        · (intro w' hSw; (try dsimp only at hSw); go_simp <;> with_reducible rfl)
        refine wpAnyT_take (i := 5) (oi := _) (v := ?_) (fuel := 6) rfl (by kernel_rfl) (by kernel_rfl) (by kernel_rfl) (by kernel_rfl) (fun _ _ _ h => h) (by rfl) ?_ hHeld ?_
        rotate_left 1
        · (intro w' hSw; (try dsimp only at hSw); go_simp <;> with_reducible rfl)
        refine wpAnyT_take (i := 6) (oi := _) (v := ?_) (fuel := 5) rfl (by kernel_rfl) (by kernel_rfl) (by kernel_rfl) (by kernel_rfl) (fun _ _ _ h => h) (by rfl) ?_ hHeld ?_
        rotate_left 1
        · (intro w' hSw; (try dsimp only at hSw); go_simp <;> with_reducible rfl)
        refine wpAnyT_take (i := 7) (oi := _) (v := ?_) (fuel := 4) rfl (by kernel_rfl) (by kernel_rfl) (by kernel_rfl) (by kernel_rfl) (fun _ _ _ h => h) (by rfl) ?_ hHeld ?_
        rotate_left 1
        · (intro w' hSw; (try dsimp only at hSw); go_simp <;> with_reducible rfl)
        clear hHeld
        simp only [Act.put, List.setIfInBounds_toArray]
        refine wpAnyT_step (i := 0) (o := _) (fuel := 3) rfl (by kernel_rfl) (fun K hK => ?_)
        go_simp
        refine (RatOf_any _ 1 2 (by omega) (by omega) (by omega) (by omega)).mono ?_
        rintro e w4 ⟨s4, A4, n4, c4, B4, m4, d4, rfl, hR4, hb4⟩
        have hb4 : Bl W w4 := (show Bl W W.drew from slc).next hb4
        refine hK.out _ _ (fun _ => ⟨bx3 (T := 29) (h11.bl slc), (Bl.cellOf (w := W) (p := ⟨gl, 1, none⟩) slc hglW).trans xl1, ⟨(Bl.cellOf (w := W) (p := ⟨gu, ub * 3, none⟩) slc hly).trans xy0, (Bl.cellOf (w := W) (p := ⟨gu, ub * 3 + 1, none⟩) slc hly).trans xy1, (Bl.cellOf (w := W) (p := ⟨gu, ub * 3 + 2, none⟩) slc hly).trans xy2⟩⟩) ?_
        clear hK K
        try simp only [Act.put, List.setIfInBounds_toArray, List.set_cons_zero, List.set_cons_succ]
        refine wpAnyT_step (i := 8) (o := _) (fuel := 2) rfl (by kernel_rfl) (fun K hK => ?_)
        go_simp
        refine (RatAdd_any _ (hR3.rd.bl slc) (hRy.bl slc)).mono ?_
        rintro e w5 ⟨s5, A5, n5, c5, B5, m5, d5, rfl, hR5, hb5⟩
        have hb5 : Bl W w5 := hb4.next hb5
        refine hK.out _ _ (fun _ => ⟨bx3 (T := 29) (h11.bl slc), (Bl.cellOf (w := W) (p := ⟨gl, 1, none⟩) slc hglW).trans xl1, ⟨(Bl.cellOf (w := W) (p := ⟨gu, ub * 3, none⟩) slc hly).trans xy0, (Bl.cellOf (w := W) (p := ⟨gu, ub * 3 + 1, none⟩) slc hly).trans xy1, (Bl.cellOf (w := W) (p := ⟨gu, ub * 3 + 2, none⟩) slc hly).trans xy2⟩⟩) ?_
        clear hK K
        try simp only [Act.put, List.setIfInBounds_toArray, List.set_cons_zero, List.set_cons_succ]
        refine wpAnyT_step (i := 9) (o := _) (fuel := 1) rfl (by kernel_rfl) (fun K hK => ?_)
        go_simp
        refine (RatMul_any _ (hR4.rd.bl slc) (hR5.rd.bl slc)).mono ?_
        rintro e w6 ⟨s6, A6, n6, c6, B6, m6, d6, rfl, hR6, hb6⟩
        have hb6 : Bl W w6 := hb5.next hb6
        refine hK.out _ _ (fun _ => ⟨bx3 (T := 29) (h11.bl slc), (Bl.cellOf (w := W) (p := ⟨gl, 1, none⟩) slc hglW).trans xl1, ⟨(Bl.cellOf (w := W) (p := ⟨gu, ub * 3, none⟩) slc hly).trans xy0, (Bl.cellOf (w := W) (p := ⟨gu, ub * 3 + 1, none⟩) slc hly).trans xy1, (Bl.cellOf (w := W) (p := ⟨gu, ub * 3 + 2, none⟩) slc hly).trans xy2⟩⟩) ?_
        clear hK K
        try simp only [Act.put, List.setIfInBounds_toArray, List.set_cons_zero, List.set_cons_succ]
        have h11 := h11.bl hb6
        obtain ⟨z0', z1', z2'⟩ := bx3 h11
        have zf0 := h11.frozen 0
        have zf1 := h11.frozen 1
        have zf2 := h11.frozen 2
        refine wpAnyT_step (i := 10) (o := _) (fuel := 0) rfl (by kernel_rfl) (fun K hK => ?_)
        go_simp
        refine hK.out _ _ (fun h => absurd rfl h) ?_
        clear hK K
        try simp only [Act.put, List.setIfInBounds_toArray]
        refine wpAnyT_done (by kernel_rfl) ?_
        have hk : Wk 3 29 g11 w6 := Wk.of h11 rfl
        have hR11 := OwR.put3 (hR6.mono (show wj.heap.size ≤ w5.heap.size from Nat.le_trans hzW hb5.size)) hk ne_ir (.bool s6) (.slice A6 n6 c6) (.slice B6 m6 d6)
        have h11 : Blk (((w6.setCell ⟨g11, 0, none⟩ (.bool s6)).setCell ⟨g11, 1, none⟩ (.slice A6 n6 c6)).setCell ⟨g11, 2, none⟩ (.slice B6 m6 d6)) g11 29 #[.bool s6, .slice A6 n6 c6, .slice B6 m6 d6] := by simpa using ((h11.set_ 0 (.bool s6)).set_ 1 (.slice A6 n6 c6)).set_ 2 (.slice B6 m6 d6)
        have hbZ : Bl wj (((w6.setCell ⟨g11, 0, none⟩ (.bool s6)).setCell ⟨g11, 1, none⟩ (.slice A6 n6 c6)).setCell ⟨g11, 2, none⟩ (.slice B6 m6 d6)) := Bl.set (Bl.set (Bl.set (hbW.next hb6) (by exact hg11j) _) (by exact hg11j) _) (by exact hg11j) _
        have hzZ : wj.heap.size ≤ ((((w6.setCell ⟨g11, 0, none⟩ (.bool s6)).setCell ⟨g11, 1, none⟩ (.slice A6 n6 c6)).setCell ⟨g11, 2, none⟩ (.slice B6 m6 d6))).heap.size := hbZ.size
        generalize (((w6.setCell ⟨g11, 0, none⟩ (.bool s6)).setCell ⟨g11, 1, none⟩ (.slice A6 n6 c6)).setCell ⟨g11, 2, none⟩ (.slice B6 m6 d6)) = wz at hR11 h11 hbZ hzZ ⊢
        clear hk hR6 hb6 hb5 hb4 hbW
        obtain ⟨x0, x1, x2⟩ := bx3 h11
        go_wp2_with ((refine wpList_append_ratS rfl (.tmp 52) (.tmp 54) rfl _ (by rfl) (RowG.bl (rtIn_keep 3) hrow (show Bl wj _ from slc)) (hR11.bl slc) (Nat.le_refl _) hlo 1 (by rfl) (by rw [proT_len]; omega) w2 (hbj.next (show Bl wj _ from slc)) (Nat.le_refl _) ?_); intro v7 w7 hrow7 hb7 hoth)
        go_roundw
        case rel => exact ⟨j + 1, v7, by omega, by go_num, rfl, by rw [proT_succ, hval.out]; exact hrow7, hb7, by omega⟩
        case measure => simp [intOf]; omega
    · obtain rfl : j = k := by omega
      obtain ⟨A7, c7, bs7, e7, hft, hnd, hbs⟩ := RowR.ft hrow (by rw [proT_len]; omega)
      rw [proT_len] at e7 hft
      subst e7
      obtain ⟨gr, rfl⟩ : ∃ gr, A7 = some ⟨gr, 0, none⟩ := by
        rcases hft.2.2.2 with ⟨h0, _⟩ | ⟨gr, _, _, e, _⟩
        · omega
        · exact ⟨gr, e⟩
      go_wp2_with fail
      have hP2 : AllOk (proT u P j) := by have h := hPH.out; rw [hPlen.out] at h; exact h
      refine (ifVector_yes _ hft.rd (ZTo.ok hP2) hP2).mono ?_
      rintro e w8 ⟨rfl, hb8⟩
      go_wp2_with fail
      go_ret
      exact ⟨_, _, _, rfl, by rw [hPlen.out]; exact hft.rd.bl hb8, hbw.next (hbj.next hb8)⟩
end

end Go.Proofs.YtajlahjghapbkaaGreat
