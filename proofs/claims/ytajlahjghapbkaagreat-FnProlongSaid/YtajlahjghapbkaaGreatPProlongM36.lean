/- Lemmas. -/
import Derived.Test.YtajlahjghapbkaaGreatRows
import Derived.Test.YtajlahjghapbkaaGreatPProlongM35
import Derived.Test.YtajlahjghapbkaaGreatPProlongM24
import Derived.Test.YtajlahjghapbkaaGreatPProlongM22
import Derived.Deep.Cut
import Derived.Deep.DeepCutAuto
import Derived.Lib.MinMax
import Derived.Test.YtajlahjghapbkaaGreatPProlongM23
import Derived.Test.YtajlahjghapbkaaGreatPProlongM20
import Derived.Test.YtajlahjghapbkaaGreatPProlongM19
namespace Go.Proofs.YtajlahjghapbkaaGreat
section
open Go.RowKit

theorem contains_tp {l : List (Rat × Rat)} {p : Rat × Rat} : (l.map tp).contains (tp p) = l.contains p := by
  rw [Bool.eq_iff_iff, List.contains_iff_mem, List.contains_iff_mem, List.mem_map]
  constructor
  · rintro ⟨q, hq, e⟩
    rw [← tp_inj e]
    exact hq
  · intro h
    exact ⟨p, h, rfl⟩
def sgL (n : Nat) : List (List Int) := (List.range n).map fun j : Nat => [(j : Int)]
theorem sgL_len (n : Nat) : (sgL n).length = n := by simp [sgL]
theorem sgL_succ (n : Nat) : sgL (n + 1) = sgL n ++ [[(n : Int)]] := by simp [sgL, List.range_succ]
def prE (L : List EdD) (k : Int) : List Int := [(pix L k.toNat).a, (pix L k.toNat).b]
theorem paL_eq (m : MeQ) (l : List Int) : paL m l = sgL m.pts.length ++ l.map (prE (edL m.tris)) := rfl
theorem sameM_refl {x : MeD} : sameM x x = true := by simp [sameM, Same]
def RefRes (w : World) (m x : MeQ) (e : Ending) (w' : World) : Prop := ∃ A n c g k d, e = .returned (.tuple #[.slice A n c, .slice (some ⟨g, 0, none⟩) k d, .bool true]) ∧ RdI w' A n c (rmL m x) ∧ RdII w' (some ⟨g, 0, none⟩) k d (paL m (rmL m x)) ∧ Bl w w'
set_option maxRecDepth 100000 in
set_option maxHeartbeats 32000000 in
theorem refinement_yes (w : World) {v v' : Value} {m x : MeQ} (h : MeAt w v m) (h' : MeAt w v' x) (hf : FitM m) (hx : MeshOk x) (hr : RmOk m x) :
    Calls Tryz.prog 136 #[v, v'] w (RefRes w m x) := by
  obtain ⟨gp1, n1, cp1, gt1, m1, ct1, rfl, hp, ht⟩ := h
  obtain ⟨gp2, n2, cp2, gt2, m2, ct2, rfl, hp', ht'⟩ := h'
  have hn := Lib.hid (show m.pts.length = n1 by rw [← hp.len, List.length_map])
  have hn40 : n1 ≤ 40 := by have := hf.ok.n40; rw [hn.out] at this; exact this
  have hn3 : 3 ≤ n1 := by have := hf.ok.n3; rw [hn.out] at this; exact this
  have hm48 : m1 ≤ 48 := by have := hf.ok.t48; rw [ht.len] at this; exact this
  have hfH := Lib.hid hf
  have hxH := Lib.hid hx
  have hrH := Lib.hid hr
  clear hf hx hr
  go_enter Tryz.func136, Tryz.ntmps136
  go_upto_region 1 with (fail)
  refine wp_gen (fun W => Bl w W ∧ ∃ g2 g3, Blk W g2 57 #[.slice (some ⟨gp1, 0, none⟩) n1 cp1, .slice (some ⟨gt1, 0, none⟩) m1 ct1] ∧ Blk W g3 57 #[.slice (some ⟨gp2, 0, none⟩) n2 cp2, .slice (some ⟨gt2, 0, none⟩) m2 ct2] ∧ g2 = w.heap.size ∧ g3 = w.heap.size + 1) ⟨by exact slc, _, _, by exact bts, by exact bts, rfl, rfl⟩ ?_
  rintro W0 ⟨hb0, g2, g3, h2, h3, hg2, hg3⟩
  rw [← hg3, ← hg2]
  clear hg2 hg3
  obtain ⟨r0, r1⟩ := bx2 h2
  go_wp2_with fail
  refine (IsMesh_yes _ (RdPS.bl hp hb0) (RdTS.bl ht hb0) hfH.out.ok).mono ?_
  rintro e w1 ⟨rfl, hb1⟩
  clear r0 r1
  have hbw := hb0.next hb1
  have h2 := h2.bl hb1
  have h3 := h3.bl hb1
  clear hb0 hb1
  obtain ⟨r0, r1⟩ := bx2 h3
  go_wp2_with fail
  refine (IsMesh_yes _ (RdPS.bl hp' hbw) (RdTS.bl ht' hbw) hxH.out).mono ?_
  rintro e w2 ⟨rfl, hb2⟩
  clear r0 r1
  have hbw := hbw.next hb2
  have h2 := h2.bl hb2
  have h3 := h3.bl hb2
  have hp2 := RdPS.bl hp hbw
  have ht2 := RdTS.bl ht hbw
  have hp2' := RdPS.bl hp' hbw
  have ht2' := RdTS.bl ht' hbw
  clear hb2 hp ht hp' ht'
  go_upto_region 5 with (fail)
  refine wp_gen (fun W => Bl w2 W ∧ ∃ vm vp, PM w2.heap.size W vp vm [] [] ∧ vp = .slice (some ⟨w2.heap.size + 1, 0, none⟩) 0 0 ∧ vm = .slice (some ⟨w2.heap.size, 0, none⟩) 0 0) ⟨by exact slc, _, _, PM.start w2 (Nat.le_refl _), rfl, rfl⟩ ?_
  rintro W1 ⟨hbW, vm, vp, hPM, hvp, hvm⟩
  rw [← hvp, ← hvm]
  clear hvp hvm
  obtain ⟨r0, r1⟩ := bx2 (h2.bl hbW)
  go_wp2_with fail
  clear r0 r1
  go_loopw [8, 26] (fun sp si wr => ∃ (k : Nat) (vp : Value), k ≤ n1 ∧ si = .int .i64 (k : Int) ∧ vp = sp ∧ PM w2.heap.size wr vp vm (sgL k) [] ∧ Bl w2 wr) (fun _ si _ => n1 - (intOf si).toNat)
  case atStart => exact ⟨0, vp, by omega, rfl, rfl, hPM, hbW⟩
  case round =>
    clear hPM hbW
    obtain ⟨k, vq, hk, rfl, rfl, hPM, hbk⟩ := hrel
    obtain ⟨wi, rfl⟩ : ∃ wi : World, wi = wr := ⟨_, rfl⟩
    by_cases hkn : k < n1
    · have hki : (k : Int) < (n1 : Int) := by omega
      go_wp2_with ((refine wpList_append_pmP (w0 := w2) [(k : Int)] 1 rfl (by omega) (by omega) rfl (.tmp 29) (.tmp 32) rfl (by rfl) hPM hbk 1 (by rfl) (by rw [sgL_len]; omega) ?_); intro vp7 w7 hPM7 hb7 hoth)
      go_roundw
      case rel => exact ⟨k + 1, vp7, by omega, by go_num, rfl, by rw [sgL_succ]; exact hPM7, hb7⟩
      case measure => simp [intOf]; omega
    · obtain rfl : n1 = k := by omega
      clear hkn hk
      obtain ⟨r0, r1⟩ := bx2 (h2.bl hbk)
      go_wp2_with fail
      clear r0 r1
      refine (edges_any _ (RdTS.bl ht2 hbk) (by omega)).mono ?_
      rintro e w3 ⟨ge, ne, ce, rfl, hes, hge, hb3⟩
      have hne := Lib.hid hes.len
      have hne0 : 0 < ne := by have h1 := fndE_lt (hfH.out.has 0 (by have := hfH.out.ok.t1; omega)).1; rw [hne.out] at h1; omega
      have hge3 : ge < w3.heap.size := by
        obtain ⟨_, e2, hl, _⟩ := hes.cells 0 hne0
        injection e2 with e2
        rw [← e2] at hl
        exact hl
      have hEI := Lib.hid (show EdIx n1 (edL m.tris) from edTo_ix (by have := hfH.out.ok.ixs; rw [hn.out] at this; exact this) (Nat.le_refl _))
      have hne144 : ne ≤ 144 := by have h1 := edTo_len m.tris m.tris.length; have h2 : (edL m.tris).length ≤ 3 * m.tris.length := h1; rw [hne.out, ht2.len] at h2; omega
      have hPM3 := hPM.bl hb3
      have hown := Lib.hid (show vq.ownBlock ≠ some ge ∧ vm.ownBlock ≠ some ge from ⟨fun e => by have := (hPM.1.lo e).2; omega, fun e => by have := (hPM.2.1.blk e).2; omega⟩)
      have hbk3 := hbk.next hb3
      obtain ⟨bl, hbl⟩ : ∃ bl, inB m x = bl := ⟨_, rfl⟩
      have hblH := Lib.hid hbl
      clear hbl hPM hbk hb3
      go_wp2_with fail
      go_loopw [7, 8, 38] (fun sm sp si wr => ∃ (j : Nat) (um up : Value), j ≤ ne ∧ si = .int .i64 (j : Int) ∧ um = sm ∧ up = sp ∧ PM w2.heap.size wr up um (sgL n1 ++ (lsTo bl j).map (prE (edL m.tris))) (lsTo bl j) ∧ Hid (up.ownBlock ≠ some ge ∧ um.ownBlock ≠ some ge) ∧ wr.heap[ge]? = w3.heap[ge]? ∧ w3.heap.size ≤ wr.heap.size ∧ Bl w2 wr) (fun _ _ si _ => ne - (intOf si).toNat)
      case atStart => exact ⟨0, vm, vq, by omega, rfl, rfl, rfl, by simpa [lsTo] using hPM3, hown, rfl, Nat.le_refl _, hbk3⟩
      case round =>
        clear hPM3 hown hbk3
        obtain ⟨j, um, up, hj, rfl, rfl, rfl, hPM, hown, hheap, hsz3, hbj⟩ := hrel
        obtain ⟨wj, rfl⟩ : ∃ wj : World, wj = wr := ⟨_, rfl⟩
        by_cases hjn : j < ne
        · have hji : (j : Int) < (ne : Int) := by omega
          obtain ⟨xe0, xe1, xe2, xe3⟩ := eds_lit hes hjn
          have xe0 := (World.cell?_of_block (a := ⟨ge, j * 4, none⟩) hheap).trans xe0
          have xe1 := (World.cell?_of_block (a := ⟨ge, j * 4 + 1, none⟩) hheap).trans xe1
          have xe2 := (World.cell?_of_block (a := ⟨ge, j * 4 + 2, none⟩) hheap).trans xe2
          have xe3 := (World.cell?_of_block (a := ⟨ge, j * 4 + 3, none⟩) hheap).trans xe3
          obtain ⟨⟨ha0, ha1⟩, hb0, hb1⟩ := hEI.out.at_ (k := j) (by rw [hne.out]; exact hjn)
          have hmd : mdP m (edL m.tris) (j : Int) = midQ (pix m.pts (pix (edL m.tris) j).a.toNat) (pix m.pts (pix (edL m.tris) j).b.toNat) := rfl
          have hpr : prE (edL m.tris) (j : Int) = [(pix (edL m.tris) j).a, (pix (edL m.tris) j).b] := rfl
          obtain ⟨ed, hed⟩ : ∃ ed, pix (edL m.tris) j = ed := ⟨_, rfl⟩
          rw [hed] at xe0 xe1 xe2 xe3 ha0 ha1 hb0 hb1 hmd hpr
          clear hed
          obtain ⟨ua, hea⟩ : ∃ ua : Nat, ed.a = (ua : Int) := ⟨ed.a.toNat, by omega⟩
          obtain ⟨ub, heb⟩ : ∃ ub : Nat, ed.b = (ub : Int) := ⟨ed.b.toNat, by omega⟩
          rw [hea] at xe0 ha0 ha1 hmd hpr
          rw [heb] at xe1 hb0 hb1 hmd hpr
          rw [Int.toNat_natCast, Int.toNat_natCast] at hmd
          have hean : ua < n1 := by omega
          have hebn : ub < n1 := by omega
          have heai : (ua : Int) < (n1 : Int) := by omega
          have hebi : (ub : Int) < (n1 : Int) := by omega
          obtain ⟨qm, hqm⟩ : ∃ qm, mdP m (edL m.tris) (j : Int) = qm := ⟨_, rfl⟩
          have hmid := Lib.hid (show midP (tp (pix m.pts ua)) (tp (pix m.pts ub)) = tp qm by rw [← hqm, hmd]; exact midP_tp (hfH.out.sm ua (by rw [hn.out]; exact hean)) (hfH.out.sm ub (by rw [hn.out]; exact hebn)))
          have hin := Lib.hid (show bgt bl j = x.pts.contains qm by rw [← hblH.out, ← hqm]; exact bgt_inB (by rw [hne.out]; exact hjn))
          have hprH := Lib.hid hpr
          clear hea heb hmd ha0 ha1 hb0 hb1 hpr hqm
          go_upto_region 13 with (fail)
          refine wp_gen (fun W => Bl wj W ∧ ∃ g11, Blk W g11 175 #[.int .i64 (ua : Int), .int .i64 (ub : Int), .int .i64 ed.l, .int .i64 ed.r] ∧ g11 = wj.heap.size) ⟨by exact slc, _, by exact bts, rfl⟩ ?_
          rintro W ⟨hbjW, g11, h11, hg11⟩
          rw [← hg11]
          clear xe0 xe1 xe2 xe3
          have hbW2 := hbj.next hbjW
          have hPMW := hPM.bl hbjW
          have hheapW : W.heap[ge]? = w3.heap[ge]? := (Below.block hbjW ge (by omega)).trans hheap
          have hn11 := Lib.hid (show up.ownBlock ≠ some g11 ∧ um.ownBlock ≠ some g11 from ⟨fun e => by have := (hPM.1.lo e).2; omega, fun e => by have := (hPM.2.1.blk e).2; omega⟩)
          have hszW : w3.heap.size ≤ W.heap.size := by have := hbjW.size; omega
          clear hPM hheap hg11 hbjW hsz3 hbj
          have h2W := h2.bl hbW2
          have hpW := RdPS.bl hp2 hbW2
          have hgpW : gp1 < W.heap.size := by obtain ⟨_, e2, hl, _⟩ := hpW.cells 0 (by omega); injection e2 with e2; rw [← e2] at hl; exact hl
          obtain ⟨s7, A7, n7, c7, B7, m7, d7, t7, C7, i7, e7, D7, j7, f7, ⟨xa0, xa1, xa2, xa3, xa4, xa5⟩, hXa, hYa⟩ := pts_lit hpW hean
          rw [pix_map (by rw [hn.out]; omega)] at hXa hYa
          obtain ⟨s8, A8, n8, c8, B8, m8, d8, t8, C8, i8, e8, D8, j8, f8, ⟨xb0, xb1, xb2, xb3, xb4, xb5⟩, hXb, hYb⟩ := pts_lit hpW hebn
          rw [pix_map (by rw [hn.out]; omega)] at hXb hYb
          go_cut [12] (fun sl12 wx => ∃ (g12 : Nat) (s5 : Bool) (A5 : Option Addr) (n5 : Nat) (c5 : Nat) (B5 : Option Addr) (m5 : Nat) (d5 : Nat) (t5 : Bool) (C5 : Option Addr) (i5 : Nat) (e5 : Nat) (D5 : Option Addr) (j5 : Nat) (f5 : Nat), sl12 = .pointer (some ⟨g12, 0, none⟩) ∧ Blk wx g12 31 #[.bool s5, .slice A5 n5 c5, .slice B5 m5 d5, .bool t5, .slice C5 i5 e5, .slice D5 j5 f5] ∧ RdR wx s5 A5 n5 c5 B5 m5 d5 (tp qm).x ∧ RdR wx t5 C5 i5 e5 D5 j5 f5 (tp qm).y ∧ Bl W wx)
          case first =>
            go_region_held3 (fun w' => (w'.cell? ⟨g2, 0, none⟩ = some (.slice (some ⟨gp1, 0, none⟩) n1 cp1) ∧ w'.cell? ⟨g2, 1, none⟩ = some (.slice (some ⟨gt1, 0, none⟩) m1 ct1)) ∧ (w'.cell? ⟨g11, 0, none⟩ = some (.int .i64 (ua : Int)) ∧ w'.cell? ⟨g11, 1, none⟩ = some (.int .i64 (ub : Int))) ∧ (w'.cell? ⟨gp1, ua * 6, none⟩ = some (.bool s7) ∧ w'.cell? ⟨gp1, ua * 6 + 1, none⟩ = some (.slice A7 n7 c7) ∧ w'.cell? ⟨gp1, ua * 6 + 2, none⟩ = some (.slice B7 m7 d7) ∧ w'.cell? ⟨gp1, ua * 6 + 3, none⟩ = some (.bool t7) ∧ w'.cell? ⟨gp1, ua * 6 + 4, none⟩ = some (.slice C7 i7 e7) ∧ w'.cell? ⟨gp1, ua * 6 + 5, none⟩ = some (.slice D7 j7 f7)) ∧ (w'.cell? ⟨gp1, ub * 6, none⟩ = some (.bool s8) ∧ w'.cell? ⟨gp1, ub * 6 + 1, none⟩ = some (.slice A8 n8 c8) ∧ w'.cell? ⟨gp1, ub * 6 + 2, none⟩ = some (.slice B8 m8 d8) ∧ w'.cell? ⟨gp1, ub * 6 + 3, none⟩ = some (.bool t8) ∧ w'.cell? ⟨gp1, ub * 6 + 4, none⟩ = some (.slice C8 i8 e8) ∧ w'.cell? ⟨gp1, ub * 6 + 5, none⟩ = some (.slice D8 j8 f8))) (first | exact ⟨bx2 (T := 57) (h2W.bl slc), ⟨(h11.bl (show Bl W _ from slc)).cell 0, (h11.bl (show Bl W _ from slc)).cell 1⟩, ⟨(Bl.cellOf (w := W) (p := ⟨gp1, ua * 6, none⟩) slc hgpW).trans xa0, (Bl.cellOf (w := W) (p := ⟨gp1, ua * 6 + 1, none⟩) slc hgpW).trans xa1, (Bl.cellOf (w := W) (p := ⟨gp1, ua * 6 + 2, none⟩) slc hgpW).trans xa2, (Bl.cellOf (w := W) (p := ⟨gp1, ua * 6 + 3, none⟩) slc hgpW).trans xa3, (Bl.cellOf (w := W) (p := ⟨gp1, ua * 6 + 4, none⟩) slc hgpW).trans xa4, (Bl.cellOf (w := W) (p := ⟨gp1, ua * 6 + 5, none⟩) slc hgpW).trans xa5⟩, ⟨(Bl.cellOf (w := W) (p := ⟨gp1, ub * 6, none⟩) slc hgpW).trans xb0, (Bl.cellOf (w := W) (p := ⟨gp1, ub * 6 + 1, none⟩) slc hgpW).trans xb1, (Bl.cellOf (w := W) (p := ⟨gp1, ub * 6 + 2, none⟩) slc hgpW).trans xb2, (Bl.cellOf (w := W) (p := ⟨gp1, ub * 6 + 3, none⟩) slc hgpW).trans xb3, (Bl.cellOf (w := W) (p := ⟨gp1, ub * 6 + 4, none⟩) slc hgpW).trans xb4, (Bl.cellOf (w := W) (p := ⟨gp1, ub * 6 + 5, none⟩) slc hgpW).trans xb5⟩⟩) (first | (go_at_call 26; (with_reducible refine (Middle_any _ (hXa.bl slc) (hYa.bl slc) (hXb.bl slc) (hYb.bl slc)).mono ?_); rintro e w6 ⟨s5, A5, n5, c5, B5, m5, d5, t5, C5, i5, e5, D5, j5, f5, rfl, hP6, hb6⟩; (have hz6 : W.heap.size ≤ w6.heap.size := Bl.size (by exact slc)); (first | have hq : Wk 6 31 _ _ := wk_newd hb6 | have hq : Wk 6 31 _ _ := wk_new hb6 | have hq : Wk 6 31 _ _ := Wk.bl hq hb6 | skip); (try obtain ⟨⟨q0, q1, q2, q3, q4, q5⟩, fz0, fz1, fz2, fz3, fz4, fz5⟩ := hq.out6)))
            · go_wp2_with fail
              go_meet
              exact ⟨w6.heap.size, _, _, _, _, _, _, _, _, _, _, _, _, _, _, rfl, Blk.new _ _ _, by rw [← hmid.out]; exact hP6.rx.bl slc, by rw [← hmid.out]; exact hP6.ry.bl slc, slc⟩
            · go_wp2_with fail
              go_meet
              exact ⟨W.heap.size, _, _, _, _, _, _, _, _, _, _, _, _, _, _, rfl, Wk.put6 hq _ _ _ _ _ _, by rw [← hmid.out]; exact (hP6.put6 hq ne_ip _ _ _ _ _ _).rx, by rw [← hmid.out]; exact (hP6.put6 hq ne_ip _ _ _ _ _ _).ry, slc⟩
          case rest =>
            obtain ⟨g12, s5, A5, n5, c5, B5, m5, d5, t5, C5, i5, e5, D5, j5, f5, rfl, h12, hXq, hYq, hbc⟩ := hcut
            obtain ⟨V, rfl⟩ : ∃ V : World, V = wc := ⟨_, rfl⟩
            have hbV := hbW2.next hbc
            obtain ⟨r0, r1⟩ := bx2 (h3.bl hbV)
            go_wp2_with fail
            clear r0 r1
            refine (ContainsRf_any _ (RdPS.bl hp2' hbV) h12 hXq hYq contains_tp).mono ?_
            rw [← hin.out]
            rintro e w8 ⟨rfl, hb8⟩
            have hPM8 := (hPMW.bl hbc).bl hb8
            have h118 := (h11.bl hbc).bl hb8
            have hg11 := h118.lt
            have hz8 : w3.heap.size ≤ w8.heap.size := by have := hbc.size; have := hb8.size; omega
            have hheap8 : w8.heap[ge]? = w3.heap[ge]? := ((Below.block hb8 ge (by have := hbc.size; omega)).trans (Below.block hbc ge (by omega))).trans hheapW
            have hb28 := hbV.next hb8
            clear hb8 hbc hbV hPMW hheapW hbW2 h12 hXq hYq hXa hYa hXb hYb xa0 xa1 xa2 xa3 xa4 xa5 xb0 xb1 xb2 xb3 xb4 xb5 h11 h2W hpW hgpW hszW
            obtain ⟨q, hq⟩ : ∃ q, bgt bl j = q := ⟨_, rfl⟩
            rw [hq]
            cases q
            · have hl := Lib.hid (show lsTo bl (j + 1) = lsTo bl j by rw [lsTo_succ, if_neg (by rw [hq]; decide)])
              clear hq
              go_wp2_with fail
              go_roundw
              case rel => exact ⟨j + 1, um, up, by omega, by go_num, rfl, rfl, by rw [hl.out]; exact hPM8, hown, hheap8, hz8, hb28⟩
              case measure => simp [intOf]; omega
            · have hl := Lib.hid (show lsTo bl (j + 1) = lsTo bl j ++ [(j : Int)] by rw [lsTo_succ, if_pos hq])
              have hlj := lsTo_len bl j
              clear hq
              go_upto_region 16 with ((refine wpList_append_pmM (w0 := w2) rfl (.tmp 60) (.tmp 62) rfl (by rfl) hPM8 hb28 1 (by rfl) (by omega) ?_); intro um9 w9 hPM9 hb9 hoth)
              have h119 : Blk w9 g11 175 #[.int .i64 (ua : Int), .int .i64 (ub : Int), .int .i64 ed.l, .int .i64 ed.r] := (hoth.2 g11 hg11 hn11.out.2).1.trans h118
              have hum9 := (hoth.2 ge (by omega) hown.out.2).2
              have hheap9 := (hoth.2 ge (by omega) hown.out.2).1.trans hheap8
              have hz9 : w3.heap.size ≤ w9.heap.size := by have := hoth.1; omega
              clear hoth hPM8 hb28 h118 hheap8 hz8
              obtain ⟨x0, x1, _, _⟩ := bx4 h119
              go_wp2_with ((refine wpList_append_pmP (w0 := w2) [(ua : Int), (ub : Int)] 2 rfl (by omega) (by omega) rfl (.tmp 64) (.tmp 70) rfl (by rfl) hPM9 hb9 1 (by rfl) (by rw [List.length_append, sgL_len, List.length_map]; omega) ?_); intro up7 w7 hPM7 hb7 hoth)
              have hL : sgL n1 ++ (lsTo bl (j + 1)).map (prE (edL m.tris)) = (sgL n1 ++ (lsTo bl j).map (prE (edL m.tris))) ++ [[(ua : Int), (ub : Int)]] := by rw [hl.out, List.map_append, List.append_assoc, List.map_singleton, hprH.out]
              have hLH := Lib.hid hL
              clear hL
              go_roundw
              case rel => exact ⟨j + 1, um9, up7, by omega, by go_num, rfl, rfl, by rw [hLH.out, hl.out]; exact hPM7, Lib.hid ⟨(hoth.2 ge (by omega) hown.out.1).2, hum9⟩, (hoth.2 ge (by omega) hown.out.1).1.trans hheap9, by have := hoth.1; omega, hb7⟩
              case measure => simp [intOf]; omega
        · obtain rfl : ne = j := by omega
          have hrm := Lib.hid (show rmL m x = lsTo bl ne by unfold rmL; rw [hblH.out, hne.out])
          have hbe := Lib.hid (show bisM m (lsTo bl ne) = x by rw [← hrm.out]; exact hrH.out.eq)
          have hlj := lsTo_len bl ne
          obtain ⟨A7, c7, rfl, hR7⟩ := hPM.2.1.any (by omega)
          obtain ⟨g8, c8, rfl, hR8⟩ := RowI.rd hPM.1 (by rw [List.length_append, sgL_len, List.length_map]; omega) (by rw [List.length_append, sgL_len]; omega)
          obtain ⟨k7, hk7⟩ : ∃ k7, (lsTo bl ne).length = k7 := ⟨_, rfl⟩
          obtain ⟨k8, hk8⟩ : ∃ k8, (sgL n1 ++ (lsTo bl ne).map (prE (edL m.tris))).length = k8 := ⟨_, rfl⟩
          rw [hk7] at hR7 hlj
          rw [hk8] at hR8
          rw [hk7, hk8]
          clear hPM hown hheap hsz3 hes hk7 hk8
          go_upto_region 18 with (fail)
          go_region_held3 (fun w' => (w'.cell? ⟨g2, 0, none⟩ = some (.slice (some ⟨gp1, 0, none⟩) n1 cp1) ∧ w'.cell? ⟨g2, 1, none⟩ = some (.slice (some ⟨gt1, 0, none⟩) m1 ct1)) ∧ (w'.cell? ⟨g3, 0, none⟩ = some (.slice (some ⟨gp2, 0, none⟩) n2 cp2) ∧ w'.cell? ⟨g3, 1, none⟩ = some (.slice (some ⟨gt2, 0, none⟩) m2 ct2))) (first | exact ⟨bx2 (T := 57) (h2.bl slc), bx2 (T := 57) (h3.bl slc)⟩) (first | (go_at_call 140; (with_reducible refine (bisect_any _ (RdPS.bl hp2 slc) (RdTS.bl ht2 slc) hfH.out.ok hfH.out.has hfH.out.sm (RdI.bl hR7 slc) (by omega)).mono ?_); rw [hbe.out]; rintro e w8 ⟨_, rfl, hO8, hb8⟩; obtain ⟨gp3, n3, cp3, gt3, m3, ct3, rfl, hP8, hT8⟩ := hO8.1) | (go_at_call 40; (refine (SameMesh_any (x := ⟨x.pts.map tp, x.tris⟩) (y := ⟨x.pts.map tp, x.tris⟩) _ (RdPS.bl hP8 slc) (RdTS.bl hT8 slc) (RdPS.bl hp2' slc) (RdTS.bl ht2' slc)).mono ?_); rw [sameM_refl]; rintro e w9 ⟨rfl, hb9⟩))
          all_goals (go_wp2_with fail)
          all_goals exact bodyPost_ret (v := .tuple #[.slice A7 k7 c7, .slice (some ⟨g8, 0, none⟩) k8 c8, .bool true]) (by simp [results, Tryz.results136, go_sem]) rfl ⟨_, _, _, _, _, _, rfl, by rw [hrm.out]; exact RdI.bl hR7 slc, by rw [hrm.out, paL_eq, hn.out]; exact RdII.bl hR8 slc, slc⟩
end

section
open Go.RowKit

def ParRes (w : World) (m x : MeQ) (e : Ending) (w' : World) : Prop := ∃ g k d, e = .returned (.slice (some ⟨g, 0, none⟩) k d) ∧ RdII w' (some ⟨g, 0, none⟩) k d (paL m (rmL m x)) ∧ Bl w w'
set_option maxRecDepth 100000 in
set_option maxHeartbeats 16000000 in
theorem ParentsOf_yes (w : World) {v v' : Value} {m x : MeQ} (h : MeAt w v m) (h' : MeAt w v' x) (hf : FitM m) (hx : MeshOk x) (hr : RmOk m x) :
    Calls Tryz.prog 61 #[v, v'] w (ParRes w m x) := by
  have hMe := h
  have hMe' := h'
  obtain ⟨gp1, n1, cp1, gt1, m1, ct1, rfl, hp, ht⟩ := h
  obtain ⟨gp2, n2, cp2, gt2, m2, ct2, rfl, hp', ht'⟩ := h'
  have hfH := Lib.hid hf
  have hxH := Lib.hid hx
  have hrH := Lib.hid hr
  clear hf hx hr hp ht hp' ht'
  go_enter Tryz.func61, Tryz.ntmps61
  go_upto_region 1 with (fail)
  refine wp_gen (fun W => Bl w W ∧ ∃ g2 g3, Blk W g2 57 #[.slice (some ⟨gp1, 0, none⟩) n1 cp1, .slice (some ⟨gt1, 0, none⟩) m1 ct1] ∧ Blk W g3 57 #[.slice (some ⟨gp2, 0, none⟩) n2 cp2, .slice (some ⟨gt2, 0, none⟩) m2 ct2] ∧ g2 = w.heap.size ∧ g3 = w.heap.size + 1) ⟨by exact slc, _, _, by exact bts, by exact bts, rfl, rfl⟩ ?_
  rintro W0 ⟨hb0, g2, g3, h2, h3, hg2, hg3⟩
  rw [← hg3, ← hg2]
  clear hg2 hg3
  obtain ⟨r0, r1⟩ := bx2 h2
  obtain ⟨s0, s1⟩ := bx2 h3
  go_wp2_with fail
  refine (refinement_yes _ (MeAt.bl hMe slc) (MeAt.bl hMe' slc) hfH.out hxH.out hrH.out).mono ?_
  rintro e w1 ⟨A, n, c, g, k, d, rfl, _, hB, hb1⟩
  go_wp2_with fail
  go_ret
  exact ⟨_, _, _, rfl, hB, slc⟩
end

section
open Go.RowKit
end

section
open Go.RowKit

section
variable {x0 y0 x1 y1 x2 y2 u v : Rat}
theorem B10.pt (h : Bd 17 u) : B10 2 u := B10.of h (by decide)
end
end

section
open Go.RowKit

/-- A small fraction. -/
def RaS (r : RatD) : Prop := ∃ q : Rat, r = toR q ∧ Bd 17 q
section
variable {x0 y0 x1 y1 x2 y2 : Rat}
end
end

section
open Go.RowKit

set_option maxHeartbeats 4000000 in
theorem isVector_yes (w : World) {A : Option Addr} {n c : Nat} {l : List RatD} (h : RdRS w A n c l) (hok : Hid (AllOk l)) (x : Int) (hx : x = (n : Int)) :
    Calls Tryz.prog 96 #[.slice A n c, .int .i64 x] w fun e w' => e = .returned (.bool true) ∧ Bl w w' := by
  subst hx
  go_enter Tryz.func96, Tryz.ntmps96
  go_wp2_with fail
  refine (areRats_yes _ h hok.out).mono ?_
  rintro e w1 ⟨rfl, hb1⟩
  go_wp2_with fail
  go_ret
  exact ⟨rfl, hb1⟩
end

section
open Go.RowKit

def RatRes (w : World) (g : Nat) (A : Option Addr) (n c : Nat) (l : List Int) (en : Ending) (w' : World) : Prop := ∃ s1 A1 n1 c1 B1 m1 d1 r, en = .returned (.agg #[.bool s1, .slice A1 n1 c1, .slice B1 m1 d1]) ∧ OwR 3 w.heap.size w' s1 A1 n1 c1 B1 m1 d1 r ∧ RaS r ∧ Cur g w' A n c l ∧ Ob [g] w w'
set_option maxRecDepth 100000 in
set_option maxHeartbeats 4000000 in
theorem l01Pick5_any (w : World) {g n c : Nat} {A : Option Addr} {l : List Int} {G c5 : Nat} {a0 a1 a2 a3 a4 : Int} (hB : Blk w G 3 #[.int .i64 a0, .int .i64 a1, .int .i64 a2, .int .i64 a3, .int .i64 a4]) (hG : G ≠ g) (hC : Cur g w A n c l) :
    Calls Tryz.prog 154 #[.pointer (some ⟨g, 0, none⟩), .slice (some ⟨G, 0, none⟩) 5 c5] w fun e w' => ∃ x : Int, e = .returned (.int .i64 x) ∧ (x = a0 ∨ x = a1 ∨ x = a2 ∨ x = a3 ∨ x = a4) ∧ Cur g w' A n c l ∧ Ob [g] w w' := by
  go_enter Tryz.func154, Tryz.ntmps154
  go_wp2_with fail
  refine (l01Below_any _ 5 (by omega) (by omega) hC).mono ?_
  rintro e w1 ⟨x, rfl, hx0, hx1, hC1, hO⟩
  have hB := hB.ob hO (by simp; exact hG)
  rcases (show x = 0 ∨ x = 1 ∨ x = 2 ∨ x = 3 ∨ x = 4 by omega) with rfl | rfl | rfl | rfl | rfl
  · have r0 : w1.cell? ⟨G, 0, none⟩ = some (.int .i64 a0) := hB.cell 0
    go_wp2_with fail
    go_ret
    exact ⟨a0, rfl, by simp, hC1, hO⟩
  · have r0 : w1.cell? ⟨G, 1, none⟩ = some (.int .i64 a1) := hB.cell 1
    go_wp2_with fail
    go_ret
    exact ⟨a1, rfl, by simp, hC1, hO⟩
  · have r0 : w1.cell? ⟨G, 2, none⟩ = some (.int .i64 a2) := hB.cell 2
    go_wp2_with fail
    go_ret
    exact ⟨a2, rfl, by simp, hC1, hO⟩
  · have r0 : w1.cell? ⟨G, 3, none⟩ = some (.int .i64 a3) := hB.cell 3
    go_wp2_with fail
    go_ret
    exact ⟨a3, rfl, by simp, hC1, hO⟩
  · have r0 : w1.cell? ⟨G, 4, none⟩ = some (.int .i64 a4) := hB.cell 4
    go_wp2_with fail
    go_ret
    exact ⟨a4, rfl, by simp, hC1, hO⟩
theorem raS_of (x y : Int) (h0 : 0 ≤ x) (h1 : x < 21) (hy : y = 1 ∨ y = 1 ∨ y = 1 ∨ y = 2 ∨ y = 3) : RaS (ofFrac (x - 10) y.natAbs) := by
  obtain ⟨e, b⟩ := ofFrac_sm (x - 10) y.natAbs (by omega) (by omega) (by omega)
  exact ⟨_, e, b⟩
set_option maxRecDepth 100000 in
set_option maxHeartbeats 8000000 in
theorem l04Few_any (w : World) {g n c : Nat} {A : Option Addr} {l : List Int} (hC : Cur g w A n c l) :
    Calls Tryz.prog 85 #[.pointer (some ⟨g, 0, none⟩)] w (RatRes w g A n c l) := by
  have hgw := hC.lt
  have hwg : w.heap.size ≠ g := by omega
  have hAl : ∀ ad, A = Option.some ad → 0 < n → ad.block < w.heap.size := fun ad e h0 => by
    obtain ⟨_, _, _, _, _, hR, _⟩ := hC
    obtain ⟨_, e2, hl, _⟩ := hR.cells 0 h0
    rw [e] at e2
    cases e2
    exact hl
  have hwA : ∀ ad, A = Option.some ad → 0 < n → ad.block ≠ w.heap.size := fun ad e h0 => by have := hAl ad e h0; omega
  have hwA := Lib.hid hwA; rename_i h_; clear h_
  clear hAl
  go_enter Tryz.func85, Tryz.ntmps85
  go_wp2_with fail
  refine calls_gen (fun W => Wk 3 29 w.heap.size W ∧ Bl w W) ⟨bts, slc⟩ ?_
  rintro W ⟨hr, hbW⟩
  have hC := hC.bl hbW
  have hz0 := hr.lt
  refine (l01Below_any _ 21 (by omega) (by omega) hC).mono ?_
  rintro e w2 ⟨a, rfl, ha0, ha1, hC2, hO2⟩
  have hr := hr.ob hO2 (by simp; omega)
  have hO := (Ob.of_bl hbW [g]).trans hO2
  have hz2 := hr.lt
  have hg2 := hC2.lt
  clear hC hO2 hbW
  go_wp2_with fail
  refine calls_gen (fun W => Bl w2 W ∧ ∃ G, Blk W G 3 #[.int .i64 1, .int .i64 1, .int .i64 1, .int .i64 2, .int .i64 3] ∧ G = w2.heap.size) ⟨by exact slc, _, by exact bts, rfl⟩ ?_
  rintro W3 ⟨hb3, G, hB, hG⟩
  rw [← hG]
  have hGg : G ≠ g := by omega
  refine (l01Pick5_any _ hB hGg (hC2.bl hb3)).mono ?_
  rintro e w4 ⟨y, rfl, hy, hC4, hO4⟩
  have hr := (hr.bl hb3).ob hO4 (by simp; omega)
  have hO := (hO.trans (Ob.of_bl hb3 _)).trans hO4
  have hz4 := hr.lt
  have hy1 : 0 < y := by omega
  have hy2 : y ≤ 3 := by omega
  have hS := Lib.hid (raS_of a y ha0 ha1 hy)
  clear hy hB hG hGg hC2 hO4 hb3
  go_wp2_with fail
  refine (sRatOf_any _ (a - 10) y (by omega) (by omega) hy1 (by omega)).mono ?_
  rintro e w5 ⟨s1, A1, n1, c1, B1, m1, d1, rfl, hR, hb5⟩
  have hR : OwR 3 (w.heap.size + 1) w5 s1 A1 n1 c1 B1 m1 d1 (ofFrac (a - 10) y.natAbs) := hR.mono hz4
  have hr := hr.bl hb5
  have hC := hC4.bl hb5
  have hO := hO.trans (Ob.of_bl hb5 _)
  clear hC4 hb5
  obtain ⟨v0, x0⟩ := hr.val_ (i := 0) (by omega)
  obtain ⟨v1, x1⟩ := hr.val_ (i := 1) (by omega)
  obtain ⟨v2, x2⟩ := hr.val_ (i := 2) (by omega)
  have hgr := hr.lt
  obtain ⟨cs4, hB4, hc4⟩ := hr
  have hf0 := hB4.frozen 0
  have hf1 := hB4.frozen 1
  have hf2 := hB4.frozen 2
  go_wp2_with fail
  exact bodyPost_ret (v := .agg #[.bool s1, .slice A1 n1 c1, .slice B1 m1 d1]) (by simp [results, Tryz.results85, go_sem, x0, x1, x2]) rfl ⟨_, _, _, _, _, _, _, _, rfl, (((hR.far (by simp) _).far (by simp) _).far (by simp) _).mono (by omega), hS.out, Cur.set (Cur.set (Cur.set hC hwg hwA.out 0 _) hwg hwA.out 1 _) hwg hwA.out 2 _, Ob.far (Ob.far (Ob.far hO (Nat.le_refl _) 0 _) (Nat.le_refl _) 1 _) (Nat.le_refl _) 2 _⟩
/-- A list of small fractions. -/
def RasL (l : List RatD) : Prop := ∀ k, k < l.length → RaS (pix l k)
theorem RasL.snoc {l : List RatD} {r : RatD} (h : RasL l) (hr : RaS r) : RasL (l ++ [r]) := by
  intro k hk
  rw [List.length_append, List.length_singleton] at hk
  rcases Nat.lt_succ_iff_lt_or_eq.1 hk with hk | rfl
  · rw [pix_append_left hk]; exact h k hk
  · rw [pix_append_last]; exact hr
theorem RowG.ob {α : Type} [Inhabited α] {N : List Nat → Prop} {TP' : TypeId} {size lo hi : Nat} {El : World → Array Value → Nat → α → List Nat → Prop} {w W : World} {v : Value} {l : List α} (hk : KeepE size El) (h : RowG N TP' size El lo hi w v l) {g : Nat} (ho : Ob [g] w W) (hg : g < lo) : RowG N TP' size El lo hi W v l :=
  h.keep hk ho.size fun b h1 h2 => ho.block b (Nat.lt_of_lt_of_le h2 h.hiLe) (by simp; omega)
theorem wpList_append_ratS {W : World} {s : Bool} {A : Option Addr} {n c : Nat} {B : Option Addr} {m d : Nat} {p : RatD} {lo hi b0 : Nat} {l : List RatD} {ops : Array Oper} {rest : List Oper} {o : Oper} {a : Act} {Q : Exit → Act → World → Prop} (hgd : o.guard = none) (s1 x1 : Operand)
    (ho : o.op = .call { callee := .builtin .append, args := #[s1, x1], argTypes := #[33, 33] }) (v : Value) (hs : a.eval s1 = v) (hrow : RowR List.Nodup lo hi W v l)
    (hpt : OwR 3 b0 W s A n c B m d p) (hb0 : hi ≤ b0) (hlh : lo ≤ hi) (c1 : Nat) (hx : a.eval x1 = .slice (some ⟨W.heap.size, 0, none⟩) 1 c1) (hlen : l.length ≤ 1048576) (w0 : World) (hb : Bl w0 W) (h0 : w0.heap.size ≤ lo)
    (h : ∀ v' w', RowR List.Nodup lo w'.heap.size w' v' (l ++ [p]) → Bl w0 w' → (W.heap.size ≤ w'.heap.size ∧ ∀ g, g < W.heap.size → v.ownBlock ≠ some g → w'.heap[g]? = W.heap[g]? ∧ v'.ownBlock ≠ some g) → wpList Tryz.prog ops Q rest (a.put o.dst v') w') : wpList Tryz.prog ops Q (o :: rest) a (W.alloc (.cells #[.bool s, .slice A n c, .slice B m d] 29)) := by
  obtain ⟨bs, f1, f2⟩ := hpt
  exact wpList_append_rowS appN_nodup (rtIn_keep 3) info_rat (by rfl) (by omega) (by omega) Tryz.underlying33 hgd s1 x1 ho v hs hrow (p := p) (bs := bs) ⟨_, _, _, _, _, _, _, ⟨rfl, rfl, rfl⟩, f1⟩ rfl (by simp [Value.oneCell']) (fun b hm => ⟨Nat.le_trans hb0 (f2.2 b hm).1, (f2.2 b hm).2⟩) f2.1 hlh c1 hx hlen w0 hb h0 fun v' w' g1 g2 _ g4 => h v' w' g1 g2 g4
theorem Cur.low {g n c lo : Nat} {w W : World} {A : Option Addr} {l : List Int} (h : Cur g w A n c l) (hs : w.heap.size ≤ W.heap.size) (hB : ∀ b, b < lo → b < w.heap.size → W.heap[b]? = w.heap[b]?) (hg : g < lo) (hA : ∀ ad, A = Option.some ad → 0 < n → ad.block < lo) : Cur g W A n c l := by
  obtain ⟨i, k, h1, h2, h3, h4, h5⟩ := h
  refine ⟨i, k, (hB g hg h1.lt).trans h1, h2, h3, ⟨h4.len, h4.cap, h4.small, fun j hj => ?_⟩, h5⟩
  obtain ⟨ad, e, hlt, hc, hx⟩ := h4.cells j hj
  refine ⟨ad, e, Nat.lt_of_lt_of_le hlt hs, ?_, hx⟩
  exact (World.cell?_of_block (w := w) (hB (ad.add (j * 1)).block (by rw [block_add]; exact hA ad e (by omega)) (by rw [block_add]; exact hlt))).trans hc
def sLen : Value → Nat
  | .slice _ n _ => n
  | _ => 0
def VecRes (w : World) (N : Nat) (en : Ending) (w' : World) : Prop := ∃ gu c l, en = .returned (.slice (some ⟨gu, 0, none⟩) N c) ∧ RdRS w' (some ⟨gu, 0, none⟩) N c l ∧ RasL l ∧ Bl w w'
set_option maxRecDepth 100000 in
set_option maxHeartbeats 16000000 in
theorem MakeVector_any (w : World) {A : Option Addr} {n c : Nat} {l : List Int} (m : Nat) (hm : m ≤ 100) (N : Nat) (hN : N ≤ 1000) (hN0 : 0 < N) (h : RdB w A n c l) :
    Calls Tryz.prog 27 #[.slice A n c, .int .i64 (m : Int), .int .i64 (N : Int)] w (VecRes w N) := by
  have hAl : ∀ ad, A = Option.some ad → 0 < n → ad.block < w.heap.size := fun ad e h0 => by
    obtain ⟨_, e2, hl, _⟩ := h.cells 0 h0
    rw [e] at e2
    cases e2
    exact hl
  have hAl := Lib.hid hAl; rename_i h_; clear h_
  go_enter Tryz.func27, Tryz.ntmps27
  go_wp2_with fail
  refine (l31New_any _ (7 * m) (by omega) h).mono ?_
  rintro e w1 ⟨g, rfl, hg, hC, hb1⟩
  have hgl := hC.lt
  have hz1 := hb1.size
  go_wp2_with fail
  refine wp_gen (fun W => Bl w1 W ∧ ∃ v c, RowR List.Nodup w1.heap.size W.heap.size W v [] ∧ v = .slice (some ⟨w1.heap.size, 0, none⟩) 0 c ∧ c = 0) ⟨by exact slc, _, 0, by have := RowG.empty (size := 3) (TP := 29) (El := RtIn 3) appN_nodup w1 (Nat.le_refl _); rw [World.size_alloc]; exact this, rfl, rfl⟩ ?_
  rintro W ⟨hbW, v0, c0, hrow, hv0, rfl⟩
  rw [← hv0]
  have hC := hC.bl hbW
  have hb1 := hb1.next hbW
  have hzW := hbW.size
  clear hv0 hbW
  go_loopw [8] (fun v wr => ∃ (k : Nat) (u : List RatD), k ≤ N ∧ u.length = k ∧ RowR List.Nodup w1.heap.size wr.heap.size wr v u ∧ RasL u ∧ Cur g wr A n c l ∧ Bl w wr ∧ w1.heap.size ≤ wr.heap.size) (fun v _ => N - sLen v)
  case atStart => exact ⟨0, [], by omega, rfl, hrow, (fun k hk => by simp at hk), hC, hb1, hzW⟩
  case round =>
    clear hrow hC hb1 hzW
    obtain ⟨k, u, hk, hul, hrow, hu, hC, hbw, hz⟩ := hrel
    obtain ⟨A5, c5, rfl⟩ := RowG.shapeN hrow
    rw [hul] at hrow ⊢
    by_cases hkN : k < N
    · have hki : (k : Int) < (N : Int) := by omega
      go_wp2_with fail
      refine (l04Few_any _ hC).mono ?_
      rintro e w3 ⟨s1, A1, n1, c1, B1, m1, d1, r, rfl, hR, hS, hC3, hO⟩
      have hlo := hrow.hiLe
      have hzo := hO.size
      have hlo2 : ∀ g', (Value.slice A5 k c5).ownBlock = some g' → w1.heap.size ≤ g' := fun g' e => (RowG.lo hrow e).1
      have hrow := RowG.ob (rtIn_keep 3) hrow hO hgl
      have hb3 : Bl w w3 := hbw.ob hO (fun b hb => by simp at hb; omega)
      have hul2 := Lib.hid hul
      clear hul
      go_wp2_with ((refine wpList_append_ratS rfl (.tmp 18) (.tmp 21) rfl _ (by rfl) hrow hR (Nat.le_refl _) hz 1 (by rfl) (by rw [hul2.out]; omega) w hb3 (by omega) ?_; intro v' w8 hrow' hb8' hoth; clear hrow hR))
      have hz8 : w3.heap.size ≤ w8.heap.size := hoth.1
      have hC8 : Cur g w8 A n c l := hC3.low (lo := w1.heap.size) hz8 (fun b h1 h2 => (hoth.2 b h2 (fun e => by have := hlo2 b e; omega)).1) hgl (fun ad e h0 => by have := hAl.out ad e h0; omega)
      obtain ⟨A8, c8, rfl⟩ := RowG.shapeN hrow'
      go_roundw
      case rel => exact ⟨k + 1, u ++ [r], by omega, by simp [hul2.out], by simpa [hul2.out] using hrow', hu.snoc hS, hC8, hb8', by omega⟩
      case measure => simp [sLen, hul2.out]; omega
    · obtain rfl : k = N := by omega
      have hkm2 : ¬ (k : Int) < (k : Int) := by omega
      subst hul
      obtain ⟨A7, c7, bs7, e7, hft, hnd, hbs⟩ := RowR.ft hrow (by omega)
      injection e7 with e1 e2 e3
      subst e1 e3
      obtain ⟨gu, rfl⟩ : ∃ gu, A5 = some ⟨gu, 0, none⟩ := by
        rcases hft.2.2.2 with ⟨h0, _⟩ | ⟨gu, _, _, e, _⟩
        · omega
        · exact ⟨gu, e⟩
      go_wp2_with fail
      go_ret
      exact ⟨_, _, u, rfl, hft.rd, hu, hbw⟩
end

section
open Go.RowKit

theorem OwSZ.row {T1 T2 T3 : TypeId} {lo hi g5 n c : Nat} {w : World} {L : List (List RatD)} (h : OwSZ T1 T2 T3 lo hi w (some ⟨g5, 0, none⟩) n c L) {i : Nat} (hi' : i < n) (hl : 0 < (pix L i).length) :
    ∃ gr cr bs, w.cell? ⟨g5, i, none⟩ = some (.slice (some ⟨gr, 0, none⟩) (pix L i).length cr) ∧ FtRS T1 T2 w (some ⟨gr, 0, none⟩) (pix L i).length cr (pix L i) bs ∧ ∀ b ∈ bs, lo ≤ b := by
  obtain ⟨h1, h2, h3, h4⟩ := h
  rcases h4 with h4 | ⟨g, cs, fs, e, hB, hc, hf, hP, hF⟩
  · omega
  · injection e with e
    injection e with e
    subst e
    obtain ⟨A, n', c', h0, hft⟩ := hP i hi'
    have hb : ∀ b ∈ pix fs i, lo ≤ b := fun b hb => (hF.2 b (List.mem_cons_of_mem _ (mem_flatten_pix hb))).1
    have e1 := hft.1
    rcases hft.2.2.2 with ⟨h0', _⟩ | ⟨gr, cs2, fs2, e2, _⟩
    · omega
    · subst e2
      subst e1
      exact ⟨gr, c', pix fs i, (hB.cell i).trans h0, hft, hb⟩
theorem FtRS.ob {T1 T2 : TypeId} {w W : World} {A : Option Addr} {n c g : Nat} {l : List RatD} {bs : List Nat} (h : FtRS T1 T2 w A n c l bs) (ho : Ob [g] w W) (hb : ∀ b ∈ bs, b ≠ g) : FtRS T1 T2 W A n c l bs :=
  h.keep ho.size fun b hm => ho.block b (h.lt b hm) (by simpa using hb b hm)
end

end Go.Proofs.YtajlahjghapbkaaGreat
