/- Lemmas. -/
import Derived.Test.YtajlahjghapbkaaGreatRows
import Derived.Test.YtajlahjghapbkaaGreatPProlongM37
import Derived.Test.YtajlahjghapbkaaGreatPProlongM24
import Derived.Deep.Cut
import Derived.Deep.DeepCutAuto
import Derived.Test.YtajlahjghapbkaaGreatPProlongM20
namespace Go.Proofs.YtajlahjghapbkaaGreat
section
open Go.RowKit

set_option maxRecDepth 100000 in
set_option maxHeartbeats 32000000 in
theorem Gather_yes (w : World) {v v' : Value} {m x : MeQ} (h : MeAt w v m) (h' : MeAt w v' x) (hf : FitM m) (hx : MeshOk x) (hr : RmOk m x) {gz nz dz : Nat} {z : List RatD} (hz : RdRS w (some ⟨gz, 0, none⟩) nz dz z) (hok : Hid (AllOk z)) (hnz : nz = x.pts.length) (hpn : (paL m (rmL m x)).length = x.pts.length)
    (hG : AllOk (gaT (paL m (rmL m x)) z m.pts.length (paL m (rmL m x)).length)) :
    Calls Tryz.prog 63 #[v, v', .slice (some ⟨gz, 0, none⟩) nz dz] w (RatsRes w (gaT (paL m (rmL m x)) z m.pts.length (paL m (rmL m x)).length)) := by
  have hMe := h
  have hMe' := h'
  obtain ⟨gp1, n1, cp1, gt1, m1, ct1, rfl, hp, ht⟩ := h
  obtain ⟨gp2, n2, cp2, gt2, m2, ct2, rfl, hp', ht'⟩ := h'
  have hn1 : m.pts.length = n1 := by rw [← hp.len, List.length_map]
  have hn2 : x.pts.length = n2 := by rw [← hp'.len, List.length_map]
  rw [hn1] at hG ⊢
  rw [hn2] at hnz hpn
  obtain rfl : nz = n2 := hnz
  have hn40 : n1 ≤ 40 := by have := hf.ok.n40; omega
  have hn3 : 3 ≤ n1 := by have := hf.ok.n3; omega
  have hnz40 : nz ≤ 40 := by have := hx.n40; omega
  have hpok := paL_ok (x := x) hf
  rw [hn1] at hpok
  have hfH := Lib.hid hf
  have hxH := Lib.hid hx
  have hrH := Lib.hid hr
  obtain ⟨P, hPd⟩ : ∃ P, paL m (rmL m x) = P := ⟨_, rfl⟩
  rw [hPd] at hG hpok hpn ⊢
  have hPdH := Lib.hid hPd
  have hGH := Lib.hid hG
  have hpH := Lib.hid hpok
  have hpnH := Lib.hid hpn
  clear hf hx hr hp ht hp' ht' hn1 hn2 hPd hG hpok hpn
  go_enter Tryz.func63, Tryz.ntmps63
  go_upto_region 1 with (fail)
  refine wp_gen (fun W => Bl w W ∧ ∃ g2 g3, Blk W g2 57 #[.slice (some ⟨gp1, 0, none⟩) n1 cp1, .slice (some ⟨gt1, 0, none⟩) m1 ct1] ∧ Blk W g3 57 #[.slice (some ⟨gp2, 0, none⟩) nz cp2, .slice (some ⟨gt2, 0, none⟩) m2 ct2] ∧ g2 = w.heap.size ∧ g3 = w.heap.size + 1) ⟨by exact slc, _, _, by exact bts, by exact bts, rfl, rfl⟩ ?_
  rintro W0 ⟨hb0, g2, g3, h2, h3, hg2, hg3⟩
  rw [← hg3, ← hg2]
  clear hg2 hg3
  obtain ⟨r0, r1⟩ := bx2 h2
  obtain ⟨s0, s1⟩ := bx2 h3
  go_wp2_with fail
  refine (ParentsOf_yes _ (MeAt.bl hMe slc) (MeAt.bl hMe' slc) hfH.out hxH.out hrH.out).mono ?_
  unfold ParRes
  rw [hPdH.out]
  rintro e w1 ⟨gpa, k, d, rfl, hPa, hb1⟩
  obtain rfl : k = nz := by have := hPa.len; have := hpnH.out; omega
  have h2 := h2.bl hb1
  have h3 := h3.bl hb1
  have hbw := hb0.next hb1
  clear r0 r1 s0 s1 hb0 hb1
  obtain ⟨r0, r1⟩ := bx2 h3
  have hnb : ∀ W : World, Sem.run Tryz.prog (binOp BinOp.eql 83 (.slice (some ⟨gpa, 0, none⟩) k d) (.slice none 0 0)) W = .ok (.bool false) W := fun _ => by kernel_rfl
  go_wp2_with fail
  clear hnb
  refine (isVector_yes _ (RdRS.bl hz hbw) hok _ rfl).mono ?_
  rintro e w2 ⟨rfl, hb2⟩
  have hbw := hbw.next hb2
  have hz2 := RdRS.bl hz hbw
  have hPa := RdII.bl hPa hb2
  have h2 := h2.bl hb2
  clear r0 r1 h3 hb2
  go_upto_region 4 with (fail)
  go_cut [8] (fun sl8 wx => ∃ (g8 : Nat), sl8 = .slice (some ⟨g8, 0, none⟩) n1 n1 ∧ OutV wx g8 (List.replicate n1 (ofFrac 0 1)) ∧ w2.heap.size ≤ g8 ∧ Bl w2 wx)
  case first =>
    go_region_held3 (fun w' => (w'.cell? ⟨g2, 0, none⟩ = some (.slice (some ⟨gp1, 0, none⟩) n1 cp1) ∧ w'.cell? ⟨g2, 1, none⟩ = some (.slice (some ⟨gt1, 0, none⟩) m1 ct1))) (first | exact bx2 (T := 57) (h2.bl slc)) (first | (go_at_call 23; (with_reducible refine (RatFromInt_any _ 0 (by omega) (by omega)).mono ?_); rintro e w4 ⟨s4, A4, n4, c4, B4, m4, d4, rfl, hR4, hb4⟩) | (go_at_call 137; (refine (Repeat_any _ (by exact bts) n1 (by omega) (by omega)).mono ?_); rintro e w5 ⟨g8, cs8, rfl, hB8, hs8, hR8, hg8, hb5⟩))
    all_goals (go_wp2_with fail)
    all_goals go_meet
    all_goals exact ⟨g8, rfl, OutV.rep hB8 hs8 hR8 ((hR4.mono (Nat.zero_le _)).bl slc), Nat.le_trans (Bl.size (by exact slc)) hg8, slc⟩
  case rest =>
    obtain ⟨g8, rfl, hOut, hg8, hbc⟩ := hcut
    obtain ⟨W4, rfl⟩ : ∃ W4 : World, W4 = wc := ⟨_, rfl⟩
    have hbw4 := hbw.next hbc
    clear h2
    go_wp2_with fail
    go_loopw [37] (fun si wr => ∃ (i : Nat), i ≤ k ∧ si = .int .i64 (i : Int) ∧ OutV wr g8 (gaT P z n1 i) ∧ Bl w2 wr) (fun si _ => k - (intOf si).toNat)
    case atStart => exact ⟨0, by omega, rfl, hOut, hbc⟩
    case round =>
      clear hOut hbc hbw4
      obtain ⟨i, hi, rfl, hOut, hbi⟩ := hrel
      obtain ⟨wi, rfl⟩ : ∃ wi : World, wi = wr := ⟨_, rfl⟩
      by_cases hik : i < k
      · have hii : (i : Int) < (k : Int) := by omega
        obtain ⟨_, ee, hgpa, hcc⟩ := hPa.cells i hik
        cases ee
        rw [Addr.add_lit, Nat.zero_add, Nat.mul_one] at hcc
        obtain ⟨gl, nl, cl, xr, hrd⟩ := hcc
        have xr := (hbi.cellOf (p := ⟨gpa, i, none⟩) hgpa).trans xr
        obtain ⟨hl12, hlx⟩ := hpH.out i (by rw [hpnH.out]; exact hik)
        have hgT : gaT P z n1 (i + 1) = gaR (mulR (ofFrac 1 (pix P i).length) (pix z i)) (pix P i) (gaT P z n1 i) (pix P i).length := rfl
        obtain ⟨l, hl⟩ : ∃ l, pix P i = l := ⟨_, rfl⟩
        rw [hl] at hrd hl12 hlx hgT
        have hrl := hrd.len
        rw [hrl] at hgT hl12
        obtain ⟨rv, hrv⟩ : ∃ rv, mulR (ofFrac 1 nl) (pix z i) = rv := ⟨_, rfl⟩
        rw [hrv] at hgT
        have hrv := Lib.hid hrv
        obtain ⟨L0, hL0⟩ : ∃ L0, gaT P z n1 i = L0 := ⟨_, rfl⟩
        have hL0n : L0.length = n1 := by rw [← hL0]; exact gaT_len P z n1 i
        rw [hL0] at hgT hOut
        have hgTH := Lib.hid hgT
        have hlxH := Lib.hid hlx
        have hzi := RdRS.bl hz2 hbi
        obtain ⟨_, ee, hly, hcc⟩ := hzi.cells i hik
        cases ee
        rw [Addr.add_lit, Nat.zero_add] at hcc
        obtain ⟨sy, Ay, ny, cy, By, my, dy, ⟨xy0, xy1, xy2⟩, hRy⟩ := (show RtAt wi ⟨gz, i * 3, none⟩ (pix z i) from hcc)
        clear hcc
        have xy0 : wi.cell? ⟨gz, i * 3, none⟩ = some (.bool sy) := xy0
        have xy1 : wi.cell? ⟨gz, i * 3 + 1, none⟩ = some (.slice Ay ny cy) := xy1
        have xy2 : wi.cell? ⟨gz, i * 3 + 2, none⟩ = some (.slice By my dy) := xy2
        clear hl hL0 hgT hlx
        go_upto_region 8 with (fail)
        go_cut [11] (fun sl11 wx => ∃ (g11 : Nat) (s5 : Bool) (A5 : Option Addr) (n5 c5 : Nat) (B5 : Option Addr) (m5 d5 : Nat), sl11 = .pointer (some ⟨g11, 0, none⟩) ∧ Blk wx g11 29 #[.bool s5, .slice A5 n5 c5, .slice B5 m5 d5] ∧ OwR 3 0 wx s5 A5 n5 c5 B5 m5 d5 rv ∧ wi.heap.size ≤ g11 ∧ Bl wi wx)
        case first =>
          go_region_held3 (fun w' => (w'.cell? ⟨gz, i * 3, none⟩ = some (.bool sy) ∧ w'.cell? ⟨gz, i * 3 + 1, none⟩ = some (.slice Ay ny cy) ∧ w'.cell? ⟨gz, i * 3 + 2, none⟩ = some (.slice By my dy))) (first | exact ⟨(Bl.cellOf (w := wi) (p := ⟨gz, i * 3, none⟩) slc hly).trans xy0, (Bl.cellOf (w := wi) (p := ⟨gz, i * 3 + 1, none⟩) slc hly).trans xy1, (Bl.cellOf (w := wi) (p := ⟨gz, i * 3 + 2, none⟩) slc hly).trans xy2⟩) (first | (go_at_call 50; (with_reducible refine (RatOf_any _ 1 (nl : Int) (by omega) (by omega) (by omega) (by omega)).mono ?_); rintro e w6 ⟨s6, A6, n6, c6, B6, m6, d6, rfl, hR6, hb6⟩; (have hz6 : wi.heap.size ≤ w6.heap.size := Bl.size (by exact slc)); (first | have hq : Wk 3 29 _ _ := wk_newd hb6 | have hq : Wk 3 29 _ _ := wk_new hb6 | have hq : Wk 3 29 _ _ := Wk.bl hq hb6 | skip)) | (go_at_call 49; (with_reducible refine (RatMul_any _ (hR6.rd.bl slc) (hRy.bl slc)).mono ?_); rintro e w7 ⟨s7, A7, n7, c7, B7, m7, d7, rfl, hR7, hb7⟩; (have hz7 : wi.heap.size ≤ w7.heap.size := Bl.size (by exact slc)); (first | have hq : Wk 3 29 _ _ := wk_newd hb7 | have hq : Wk 3 29 _ _ := wk_new hb7 | have hq : Wk 3 29 _ _ := Wk.bl hq hb7 | skip); (try obtain ⟨⟨q0, q1, q2⟩, fz0, fz1, fz2⟩ := hq.out3)))
          · go_wp2_with fail
            go_meet
            exact ⟨w7.heap.size, _, _, _, _, _, _, _, rfl, Blk.new _ _ _, by rw [← hrv.out]; exact (hR7.mono (Nat.zero_le _)).bl slc, Bl.size slc, slc⟩
          · go_wp2_with fail
            go_meet
            exact ⟨w6.heap.size, _, _, _, _, _, _, _, rfl, Wk.put3 hq _ _ _, by rw [← hrv.out]; exact OwR.put3 (hR7.mono (Nat.zero_le _)) hq ne_ir _ _ _, Bl.size slc, slc⟩
          · go_wp2_with fail
            go_meet
            exact ⟨wi.heap.size, _, _, _, _, _, _, _, rfl, Wk.put3 hq _ _ _, by rw [← hrv.out]; exact OwR.put3 (hR7.mono (Nat.zero_le _)) hq ne_ir _ _ _, Nat.le_refl _, slc⟩
        case rest =>
          obtain ⟨g11, s5, A5, n5, c5, B5, m5, d5, rfl, h11, hR5, hg11, hbc⟩ := hcut
          obtain ⟨V, rfl⟩ : ∃ V : World, V = wc := ⟨_, rfl⟩
          have hg811 : g8 < g11 := by have := hOut.lt; omega
          have hOut := hOut.bl hbc
          have hbV := hbi.next hbc
          clear hbc hbi hzi xy0 xy1 xy2 hRy hly xr
          go_wp2_with fail
          go_loopw [52] (fun sj wr => ∃ (j : Nat), j ≤ nl ∧ sj = .int .i64 (j : Int) ∧ OutV wr g8 (gaR rv l L0 j) ∧ Blk wr g11 29 #[.bool s5, .slice A5 n5 c5, .slice B5 m5 d5] ∧ OwR 3 0 wr s5 A5 n5 c5 B5 m5 d5 rv ∧ Bl w2 wr) (fun sj _ => nl - (intOf sj).toNat)
          case atStart => exact ⟨0, by omega, rfl, hOut, h11, hR5, hbV⟩
          case round =>
            clear hOut h11 hR5 hbV
            obtain ⟨j, hj, rfl, hOj, h11, hR5, hbj⟩ := hrel
            obtain ⟨wj, rfl⟩ : ∃ wj : World, wj = wr := ⟨_, rfl⟩
            by_cases hjn : j < nl
            · have hji : (j : Int) < (nl : Int) := by omega
              obtain ⟨_, ee, hgl, xl⟩ := (RdI.bl hrd hbj).cells j hjn
              cases ee
              rw [Addr.add_lit, Nat.zero_add] at xl
              have hx0 := hlxH.out _ (ix_mem (l := l) (k := j) (by omega))
              have hgn : gaR rv l L0 (j + 1) = (gaR rv l L0 j).set (ix l j).toNat (addR (pix (gaR rv l L0 j) (ix l j).toNat) rv) := rfl
              obtain ⟨ue, hue⟩ : ∃ ue : Nat, ix l j = (ue : Int) := ⟨(ix l j).toNat, by omega⟩
              rw [hue] at xl hx0 hgn
              rw [Int.toNat_natCast] at hgn
              have hgnH := Lib.hid hgn
              have huen : ue < n1 := by omega
              have huei : (ue : Int) < (n1 : Int) := by omega
              have hue3 : ue < (gaR rv l L0 j).length := by rw [gaR_len, hL0n]; exact huen
              obtain ⟨sx, Ax, nx, cx, Bx, mx, dx, ⟨xx0, xx1, xx2⟩, hRx⟩ := hOj.at_ hue3
              have hg8l := hOj.lt
              clear hgn hue
              go_upto_region 12 with (fail)
              have hHeld : (fun w' => (w'.cell? ⟨g8, ue * 3, none⟩ = some (.bool sx) ∧ w'.cell? ⟨g8, ue * 3 + 1, none⟩ = some (.slice Ax nx cx) ∧ w'.cell? ⟨g8, ue * 3 + 2, none⟩ = some (.slice Bx mx dx)) ∧ (w'.cell? ⟨g11, 0, none⟩ = some (.bool s5) ∧ w'.cell? ⟨g11, 1, none⟩ = some (.slice A5 n5 c5) ∧ w'.cell? ⟨g11, 2, none⟩ = some (.slice B5 m5 d5))) (wj.drew) := ⟨⟨(Bl.cellOf (w := wj) (p := ⟨g8, ue * 3, none⟩) slc hg8l).trans xx0, (Bl.cellOf (w := wj) (p := ⟨g8, ue * 3 + 1, none⟩) slc hg8l).trans xx1, (Bl.cellOf (w := wj) (p := ⟨g8, ue * 3 + 2, none⟩) slc hg8l).trans xx2⟩, bx3 (T := 29) (h11.bl slc)⟩
              refine wp_region_T 9 10 (fun w' => (w'.cell? ⟨g8, ue * 3, none⟩ = some (.bool sx) ∧ w'.cell? ⟨g8, ue * 3 + 1, none⟩ = some (.slice Ax nx cx) ∧ w'.cell? ⟨g8, ue * 3 + 2, none⟩ = some (.slice Bx mx dx)) ∧ (w'.cell? ⟨g11, 0, none⟩ = some (.bool s5) ∧ w'.cell? ⟨g11, 1, none⟩ = some (.slice A5 n5 c5) ∧ w'.cell? ⟨g11, 2, none⟩ = some (.slice B5 m5 d5))) rfl (by kernel_rfl) hHeld ?_
              refine wpAnyT_take (i := 0) (oi := _) (v := ?_) (fuel := 9) rfl (by kernel_rfl) (by kernel_rfl) (by kernel_rfl) (by kernel_rfl) (fun _ _ _ h => h) (by rfl) ?_ hHeld ?_
              rotate_left 1
              · (intro w' hSw; (try dsimp only at hSw); go_simp <;> with_reducible rfl)
              refine wpAnyT_take (i := 1) (oi := _) (v := ?_) (fuel := 8) rfl (by kernel_rfl) (by kernel_rfl) (by kernel_rfl) (by kernel_rfl) (fun _ _ _ h => h) (by rfl) ?_ hHeld ?_
              rotate_left 1
              · (intro w' hSw; (try dsimp only at hSw); go_simp <;> with_reducible rfl)
              refine wpAnyT_take (i := 2) (oi := _) (v := ?_) (fuel := 7) rfl (by kernel_rfl) (by kernel_rfl) (by kernel_rfl) (by kernel_rfl) (fun _ _ _ h => h) (by rfl) ?_ hHeld ?_
              rotate_left 1
              · (intro w' hSw; (try dsimp only at hSw); go_simp <;> with_reducible rfl)
              refine wpAnyT_take (i := 3) (oi := _) (v := ?_) (fuel := 6) rfl (by kernel_rfl) (by kernel_rfl) (by kernel_rfl) (by kernel_rfl) (fun _ _ _ h => h) (by rfl) ?_ hHeld ?_
              rotate_left 1
              · (intro w' hSw; (try dsimp only at hSw); go_simp <;> with_reducible rfl)
              refine wpAnyT_take (i := 4) (oi := _) (v := ?_) (fuel := 5) rfl (by kernel_rfl) (by kernel_rfl) (by kernel_rfl) (by kernel_rfl) (fun _ _ _ h => h) (by rfl) ?_ hHeld ?_
              rotate_left 1
              · (intro w' hSw; (try dsimp only at hSw); go_simp <;> with_reducible rfl)
              refine wpAnyT_take (i := 5) (oi := _) (v := ?_) (fuel := 4) rfl (by kernel_rfl) (by kernel_rfl) (by kernel_rfl) (by kernel_rfl) (fun _ _ _ h => h) (by rfl) ?_ hHeld ?_
              rotate_left 1
              · (intro w' hSw; (try dsimp only at hSw); go_simp <;> with_reducible rfl)
              refine wpAnyT_take (i := 6) (oi := _) (v := ?_) (fuel := 3) rfl (by kernel_rfl) (by kernel_rfl) (by kernel_rfl) (by kernel_rfl) (fun _ _ _ h => h) (by rfl) ?_ hHeld ?_
              rotate_left 1
              · (intro w' hSw; (try dsimp only at hSw); go_simp <;> with_reducible rfl)
              clear hHeld
              simp only [Act.put, List.setIfInBounds_toArray]
              refine wpAnyT_step (i := 7) (o := _) (fuel := 2) rfl (by kernel_rfl) (fun K hK => ?_)
              go_simp
              refine (RatAdd_any _ (hRx.rd.bl slc) (hR5.rd.bl slc)).mono ?_
              rintro e w9 ⟨s6, A6, n6, c6, B6, m6, d6, rfl, hR9, hb9⟩
              have hb9 : Bl wj w9 := (show Bl wj wj.drew from slc).next hb9
              refine hK.out _ _ (fun _ => ⟨⟨(Bl.cellOf (w := wj) (p := ⟨g8, ue * 3, none⟩) slc hg8l).trans xx0, (Bl.cellOf (w := wj) (p := ⟨g8, ue * 3 + 1, none⟩) slc hg8l).trans xx1, (Bl.cellOf (w := wj) (p := ⟨g8, ue * 3 + 2, none⟩) slc hg8l).trans xx2⟩, bx3 (T := 29) (h11.bl slc)⟩) ?_
              clear hK K
              try simp only [Act.put, List.setIfInBounds_toArray, List.set_cons_zero, List.set_cons_succ]
              refine wpAnyT_step (i := 8) (o := _) (fuel := 1) rfl (by kernel_rfl) (fun K hK => ?_)
              go_simp
              refine hK.out _ _ (fun _ => ⟨⟨(Bl.cellOf (w := wj) (p := ⟨g8, ue * 3, none⟩) slc hg8l).trans xx0, (Bl.cellOf (w := wj) (p := ⟨g8, ue * 3 + 1, none⟩) slc hg8l).trans xx1, (Bl.cellOf (w := wj) (p := ⟨g8, ue * 3 + 2, none⟩) slc hg8l).trans xx2⟩, bx3 (T := 29) (h11.bl slc)⟩) ?_
              clear hK K
              try simp only [Act.put, List.setIfInBounds_toArray, List.set_cons_zero, List.set_cons_succ]
              have hO9 := hOj.bl hb9
              obtain ⟨_, _, _, _, _, _, _, ⟨z0', z1', z2'⟩, _⟩ := hO9.at_ hue3
              have zf0 := hO9.fz (ue * 3)
              have zf1 := hO9.fz (ue * 3 + 1)
              have zf2 := hO9.fz (ue * 3 + 2)
              refine wpAnyT_step (i := 9) (o := _) (fuel := 0) rfl (by kernel_rfl) (fun K hK => ?_)
              go_simp
              refine hK.out _ _ (fun h => absurd rfl h) ?_
              clear hK K
              try simp only [Act.put, List.setIfInBounds_toArray]
              refine wpAnyT_done (by kernel_rfl) ?_
              have hON := hO9.put hue3 (hR9.mono (Nat.zero_le _))
              have hR5N := hO9.keepR (ue * 3) (ue * 3 + 1) (ue * 3 + 2) (.bool s6) (.slice A6 n6 c6) (.slice B6 m6 d6) (hR5.bl hb9)
              have h11N : Blk (((w9.setCell ⟨g8, ue * 3, none⟩ (.bool s6)).setCell ⟨g8, ue * 3 + 1, none⟩ (.slice A6 n6 c6)).setCell ⟨g8, ue * 3 + 2, none⟩ (.slice B6 m6 d6)) g11 29 #[.bool s5, .slice A5 n5 c5, .slice B5 m5 d5] := (((h11.bl hb9).far (show g11 ≠ g8 by omega) _).far (show g11 ≠ g8 by omega) _).far (show g11 ≠ g8 by omega) _
              have hbN : Bl w2 (((w9.setCell ⟨g8, ue * 3, none⟩ (.bool s6)).setCell ⟨g8, ue * 3 + 1, none⟩ (.slice A6 n6 c6)).setCell ⟨g8, ue * 3 + 2, none⟩ (.slice B6 m6 d6)) := Bl.set (Bl.set (Bl.set (hbj.next hb9) (by exact hg8) _) (by exact hg8) _) (by exact hg8) _
              rw [← hgnH.out] at hON
              generalize (((w9.setCell ⟨g8, ue * 3, none⟩ (.bool s6)).setCell ⟨g8, ue * 3 + 1, none⟩ (.slice A6 n6 c6)).setCell ⟨g8, ue * 3 + 2, none⟩ (.slice B6 m6 d6)) = wz at hON hR5N h11N hbN ⊢
              clear hR9 hb9 hO9 hOj h11 hR5 hbj hRx xx0 xx1 xx2 xl
              go_wp2_with fail
              go_roundw
              case rel => exact ⟨j + 1, by omega, by go_num, hON, h11N, hR5N, hbN⟩
              case measure => simp [intOf]; omega
            · obtain rfl : j = nl := by omega
              rw [← hgTH.out] at hOj
              go_wp2_with fail
              go_roundw
              case rel => exact ⟨i + 1, by omega, by go_num, hOj, hbj⟩
              case measure => simp [intOf]; omega
      · obtain rfl : i = k := by omega
        have hGk : AllOk (gaT P z n1 i) := by have h := hGH.out; rw [hpnH.out] at h; exact h
        have hLn := gaT_len P z n1 i
        obtain ⟨L, hL⟩ : ∃ L, gaT P z n1 i = L := ⟨_, rfl⟩
        rw [hL] at hGk hLn hOut
        have hLH := Lib.hid hL
        have hGk2 := Lib.hid hGk
        have hLn2 := Lib.hid hLn
        clear hL hGk hLn
        go_wp2_with fail
        go_loopw [69] (fun sj wr => ∃ (j : Nat), j ≤ n1 ∧ sj = .int .i64 (j : Int) ∧ OutV wr g8 L ∧ Bl w2 wr) (fun sj _ => n1 - (intOf sj).toNat)
        case atStart => exact ⟨0, by omega, rfl, hOut, hbi⟩
        case round =>
          clear hOut hbi
          obtain ⟨j, hj, rfl, hOj, hbj⟩ := hrel
          obtain ⟨wj, rfl⟩ : ∃ wj : World, wj = wr := ⟨_, rfl⟩
          by_cases hjn : j < n1
          · have hji : (j : Int) < (n1 : Int) := by omega
            have hjL : j < L.length := by rw [hLn2.out]; exact hjn
            obtain ⟨sx, Ax, nx, cx, Bx, mx, dx, ⟨xx0, xx1, xx2⟩, hRx⟩ := hOj.at_ hjL
            have hlens := OkR.lens hRx.rd (hGk2.out j hjL)
            go_upto_region 18 with (fail)
            refine wp_gen (fun W => Bl wj W ∧ ∃ gx, Blk W gx 29 #[.bool sx, .slice Ax nx cx, .slice Bx mx dx] ∧ gx = wj.heap.size) ⟨by exact slc, _, by exact bts, rfl⟩ ?_
            rintro wy ⟨hby, gx, hx, hgx⟩
            rw [← hgx]
            clear xx0 xx1 xx2 hgx
            obtain ⟨x0, x1, x2⟩ := bx3 hx
            go_wp2_with fail
            refine (copyRat_any _ (hRx.rd.bl slc) (by omega) (by omega)).mono ?_
            rintro e w9 ⟨A6, n6, c6, B6, m6, d6, rfl, hR9, hb9⟩
            have hb9 : Bl wj w9 := hby.next (show Bl wy w9 from slc)
            have hO9 := hOj.bl hb9
            obtain ⟨_, _, _, _, _, _, _, ⟨z0', z1', z2'⟩, _⟩ := hO9.at_ hjL
            have zf0 := hO9.fz (j * 3)
            have zf1 := hO9.fz (j * 3 + 1)
            have zf2 := hO9.fz (j * 3 + 2)
            go_wp2_with fail
            have hON := hO9.put hjL (hR9.mono (Nat.zero_le _))
            rw [show L.set j (pix L j) = L by unfold pix; rw [List.getD_eq_getElem?_getD, List.getElem?_eq_getElem hjL]; exact List.set_getElem_self hjL] at hON
            have hbN : Bl w2 (((w9.setCell ⟨g8, j * 3, none⟩ (.bool sx)).setCell ⟨g8, j * 3 + 1, none⟩ (.slice A6 n6 c6)).setCell ⟨g8, j * 3 + 2, none⟩ (.slice B6 m6 d6)) := Bl.set (Bl.set (Bl.set (hbj.next hb9) (by exact hg8) _) (by exact hg8) _) (by exact hg8) _
            go_roundw
            case rel => exact ⟨j + 1, by omega, by go_num, hON, hbN⟩
            case measure => simp [intOf]; omega
          · obtain rfl : j = n1 := by omega
            have hLr := hOj.rd (by rw [hLn2.out]; omega)
            rw [hLn2.out] at hLr
            go_wp2_with fail
            refine (ifVector_yes _ hLr (ZTo.ok hGk2.out) hGk2.out).mono ?_
            rintro e w8 ⟨rfl, hb8⟩
            go_wp2_with fail
            go_ret
            exact ⟨_, _, _, rfl, by rw [hpnH.out, hLH.out]; exact hLr.bl hb8, hbw.next (hbj.next hb8)⟩
end

section
open Go.RowKit

/-- A number over the denominator D, its numerator no greater than K. -/
def Fr (D K : Nat) (q : Rat) : Prop := ∃ a : Int, q = mkRat a D ∧ a.natAbs ≤ K
theorem Fr.bd {D K N : Nat} {q : Rat} (h : Fr D K q) (hD : 0 < D) (h1 : D ≤ N) (h2 : K ≤ N) : Bd N q := by
  obtain ⟨a, rfl, ha⟩ := h
  exact bd_mk hD (Nat.le_trans ha h2) h1
theorem Fr.mono {D K L : Nat} {q : Rat} (h : Fr D K q) (hK : K ≤ L) : Fr D L q := by
  obtain ⟨a, e, ha⟩ := h
  exact ⟨a, e, Nat.le_trans ha hK⟩
theorem Fr.add {D K L : Nat} {p q : Rat} (h : Fr D K p) (k : Fr D L q) (hD : 0 < D) : Fr D (K + L) (p + q) := by
  obtain ⟨a, rfl, ha⟩ := h
  obtain ⟨b, rfl, hb⟩ := k
  refine ⟨a + b, ?_, by omega⟩
  have hD0 : D ≠ 0 := by omega
  rw [Rat.mkRat_add_mkRat _ _ hD0 hD0, ← Int.add_mul, Rat.mkRat_mul_right hD0]
theorem Fr.mul {D E K L : Nat} {p q : Rat} (h : Fr D K p) (k : Fr E L q) : Fr (D * E) (K * L) (p * q) := by
  obtain ⟨a, rfl, ha⟩ := h
  obtain ⟨b, rfl, hb⟩ := k
  refine ⟨a * b, by rw [Rat.mkRat_mul_mkRat], ?_⟩
  rw [Int.natAbs_mul]
  exact Nat.mul_le_mul ha hb
theorem Fr.up {D K : Nat} {q : Rat} (h : Fr D K q) {E : Nat} (hE : 0 < E) : Fr (D * E) (K * E) q := by
  obtain ⟨a, rfl, ha⟩ := h
  refine ⟨a * (E : Int), ?_, ?_⟩
  · rw [Rat.mkRat_mul_right (by omega)]
  · rw [Int.natAbs_mul, Int.natAbs_natCast]
    exact Nat.mul_le_mul_right _ ha
theorem dvd17 : ∀ d, d < 18 → 0 < d → d ∣ 12252240 := by decide
theorem Fr.of17 {q : Rat} (h : Bd 17 q) : Fr 12252240 208288080 q := by
  obtain ⟨e, he⟩ := dvd17 q.den (by have := h.2; omega) q.den_pos
  have he0 : 0 < e := by rcases Nat.eq_zero_or_pos e with h0 | h0; rw [h0] at he; omega; exact h0
  refine ⟨q.num * (e : Int), ?_, ?_⟩
  · rw [he, Rat.mkRat_mul_right (by omega), Rat.mkRat_self]
  · rw [Int.natAbs_mul, Int.natAbs_natCast]
    have h1 : q.num.natAbs * e ≤ 17 * e := Nat.mul_le_mul_right _ h.1
    have h2 : e ≤ 12252240 := by rw [he]; exact Nat.le_mul_of_pos_left _ q.den_pos
    omega
end

section
open Go.RowKit

/-- The sum of the first k. -/
def sQ (f : Nat → Rat) : Nat → Rat
  | 0 => 0
  | k + 1 => sQ f k + f k
def updQ (G : Nat → Rat) (e : Nat) (r : Rat) : Nat → Rat := fun k => if k = e then G k + r else G k
theorem sQ_upd (w G : Nat → Rat) (e : Nat) (r : Rat) : ∀ n, sQ (fun k => w k * updQ G e r k) n = sQ (fun k => w k * G k) n + (if e < n then w e * r else 0)
  | 0 => by
    show (0 : Rat) = 0 + _
    simp only [if_neg (show ¬ e < 0 by omega)]
    grind
  | n + 1 => by
    show sQ (fun k => w k * updQ G e r k) n + w n * updQ G e r n = sQ (fun k => w k * G k) n + w n * G n + _
    rw [sQ_upd w G e r n]
    unfold updQ
    rcases Nat.lt_trichotomy e n with h | h | h
    · simp only [if_pos h, if_pos (show e < n + 1 by omega), if_neg (show ¬ n = e by omega)]
      grind
    · subst h
      simp only [if_neg (show ¬ e < e by omega), if_pos (show e < e + 1 by omega), if_true]
      grind
    · simp only [if_neg (show ¬ e < n by omega), if_neg (show ¬ e < n + 1 by omega), if_neg (show ¬ n = e by omega)]
      grind
def ggRow (r : Rat) (row : List Int) (G : Nat → Rat) : Nat → Nat → Rat
  | 0 => G
  | j + 1 => updQ (ggRow r row G j) (ix row j).toNat r
theorem sQ_row (w G : Nat → Rat) (r : Rat) (row : List Int) {n : Nat} (hr : ∀ x ∈ row, 0 ≤ x ∧ x < n) : ∀ j, j ≤ row.length → sQ (fun k => w k * ggRow r row G j k) n = sQ (fun k => w k * G k) n + r * sQ (fun t => w (ix row t).toNat) j
  | 0, _ => by
    show sQ (fun k => w k * G k) n = sQ (fun k => w k * G k) n + r * 0
    grind
  | j + 1, hj => by
    have h1 := hr _ (ix_mem (l := row) (k := j) (by omega))
    show sQ (fun k => w k * updQ (ggRow r row G j) (ix row j).toNat r k) n = _ + r * (sQ _ j + _)
    rw [sQ_upd, if_pos (by omega), sQ_row w G r row hr j (by omega)]
    grind
def gTot (P : List (List Int)) (z : Nat → Rat) : Nat → Nat → Rat
  | 0 => fun _ => 0
  | i + 1 => ggRow (mkRat 1 (pix P i).length * z i) (pix P i) (gTot P z i) (pix P i).length
def pq (w : Nat → Rat) (l : List Int) : Rat := if l.length = 2 then mkRat 1 2 * (w (ix l 0).toNat + w (ix l 1).toNat) else w (ix l 0).toNat
theorem sQ_zero (w : Nat → Rat) : ∀ n, sQ (fun k => w k * (0 : Rat)) n = 0
  | 0 => rfl
  | n + 1 => by
    show sQ _ n + w n * 0 = 0
    rw [sQ_zero w n]
    grind
/-- Gathering is the transpose of prolongation. -/
theorem adj (w z : Nat → Rat) {P : List (List Int)} {n : Nat} (hP : PaOk n P) : ∀ i, i ≤ P.length → sQ (fun k => w k * gTot P z i k) n = sQ (fun i => pq w (pix P i) * z i) i
  | 0, _ => sQ_zero w n
  | i + 1, hi => by
    obtain ⟨h12, hr⟩ := hP i (by omega)
    show sQ (fun k => w k * ggRow _ (pix P i) (gTot P z i) (pix P i).length k) n = sQ (fun i => pq w (pix P i) * z i) i + pq w (pix P i) * z i
    rw [sQ_row w _ _ _ hr _ (Nat.le_refl _), adj w z hP i (by omega)]
    unfold pq
    rcases h12 with h | h
    · rw [h, if_neg (by omega)]
      show _ + mkRat 1 1 * z i * (0 + w (ix (pix P i) 0).toNat) = _
      rw [show mkRat 1 1 = 1 by decide]
      grind
    · rw [h, if_pos rfl]
      show _ + mkRat 1 2 * z i * (0 + w (ix (pix P i) 0).toNat + w (ix (pix P i) 1).toNat) = _
      grind
end

section
open Go.RowKit

theorem Fr.fit {D K : Nat} {q : Rat} (h : Fr D K q) (hD : 0 < D) (h1 : D ≤ 10 ^ 200) (h2 : K ≤ 10 ^ 200) : Fit q := (h.bd hD h1 h2).fit (by decide)
/-- A list of fractions of numbers over 12252240. -/
def VFr (l : List RatD) (w : Nat → Rat) : Prop := ∀ k, k < l.length → pix l k = toR (w k) ∧ Fr 12252240 208288080 (w k)
theorem VFr.of {l : List RatD} (h : RasL l) : ∃ w, VFr l w := by
  have h1 : ∀ k, ∃ q : Rat, k < l.length → pix l k = toR q ∧ Fr 12252240 208288080 q := fun k => by
    by_cases hk : k < l.length
    · obtain ⟨q, e, hb⟩ := h k hk
      exact ⟨q, fun _ => ⟨e, Fr.of17 hb⟩⟩
    · exact ⟨0, fun h2 => absurd h2 hk⟩
  exact ⟨fun k => (h1 k).choose, fun k hk => (h1 k).choose_spec hk⟩
theorem proR_toR {l : List RatD} {w : Nat → Rat} (h : VFr l w) {row : List Int} (h12 : row.length = 1 ∨ row.length = 2) (hr : ∀ x ∈ row, 0 ≤ x ∧ x < l.length) :
    proR l row = toR (pq w row) ∧ Fr 24504480 833152320 (pq w row) := by
  have ha := hr _ (ix_mem (l := row) (k := 0) (by omega))
  obtain ⟨ea, fa⟩ := h (ix row 0).toNat (by omega)
  unfold proR pq
  rcases h12 with h1 | h2
  · rw [if_neg (by omega), if_neg (by omega)]
    exact ⟨ea, (fa.up (E := 2) (by omega)).mono (by omega)⟩
  · have hb := hr _ (ix_mem (l := row) (k := 1) (by omega))
    obtain ⟨eb, fb⟩ := h (ix row 1).toNat (by omega)
    have fs := fa.add fb (by omega)
    have f2 : Fr 2 1 (mkRat 1 2) := ⟨1, rfl, by decide⟩
    have fm := f2.mul fs
    rw [if_pos h2, if_pos h2, ea, eb, half_sm.1, addR_toR (fa.fit (by omega) (by decide) (by decide)) (fb.fit (by omega) (by decide) (by decide)) (fs.fit (by omega) (by decide) (by decide)),
      mulR_toR (f2.fit (by omega) (by decide) (by decide)) (fs.fit (by omega) (by decide) (by decide)) (fm.fit (by omega) (by decide) (by decide))]
    exact ⟨rfl, fm.mono (by omega)⟩
end

section
open Go.RowKit

theorem zero_toR : ofFrac 0 1 = toR 0 := by
  have h := (ofFrac_sm 0 1 (by omega) (by omega) (by omega)).1
  rw [h]
  rfl
theorem Fr.zero (D : Nat) : Fr D 0 0 := ⟨0, by simp, by decide⟩
theorem accR_toR {l l' : List RatD} {a b : Nat → Rat} {D1 K1 D2 K2 n : Nat} (h : ∀ k, k < n → pix l k = toR (a k) ∧ Fr D1 K1 (a k)) (h' : ∀ k, k < n → pix l' k = toR (b k) ∧ Fr D2 K2 (b k))
    (hD1 : 0 < D1) (hD2 : 0 < D2) (g1 : D1 ≤ 10 ^ 200) (g2 : D2 ≤ 10 ^ 200) (g3 : K1 ≤ 10 ^ 200) (g4 : K2 ≤ 10 ^ 200) (g5 : D1 * D2 ≤ 10 ^ 200) (g6 : (n + 1) * (K1 * K2) ≤ 10 ^ 200) :
    ∀ k, k ≤ n → accR l l' k = toR (sQ (fun i => a i * b i) k) ∧ Fr (D1 * D2) (k * (K1 * K2)) (sQ (fun i => a i * b i) k)
  | 0, _ => ⟨zero_toR, by rw [Nat.zero_mul]; exact Fr.zero _⟩
  | k + 1, hk => by
    obtain ⟨e, f⟩ := accR_toR h h' hD1 hD2 g1 g2 g3 g4 g5 g6 k (by omega)
    obtain ⟨e1, f1⟩ := h k (by omega)
    obtain ⟨e2, f2⟩ := h' k (by omega)
    have hD : 0 < D1 * D2 := Nat.mul_pos hD1 hD2
    have fm := f1.mul f2
    have fs := f.add fm hD
    rw [← Nat.succ_mul] at fs
    have m1 : k * (K1 * K2) ≤ 10 ^ 200 := Nat.le_trans (Nat.mul_le_mul_right _ (by omega)) g6
    have m2 : (k + 1) * (K1 * K2) ≤ 10 ^ 200 := Nat.le_trans (Nat.mul_le_mul_right _ (by omega)) g6
    have m3 : K1 * K2 ≤ 10 ^ 200 := Nat.le_trans (Nat.le_mul_of_pos_left _ (by omega)) g6
    refine ⟨?_, fs⟩
    show addR (accR l l' k) (mulR (pix l k) (pix l' k)) = toR (sQ _ k + a k * b k)
    rw [e, e1, e2, mulR_toR (f1.fit hD1 g1 g3) (f2.fit hD2 g2 g4) (fm.fit hD g5 m3), addR_toR (f.fit hD g5 m1) (fm.fit hD g5 m3) (fs.fit hD g5 m2)]
end

section
open Go.RowKit

theorem gaR_toR {r : Rat} {row : List Int} {l : List RatD} {G : Nat → Rat} {D R t n : Nat} (hn : l.length = n) (hrow : ∀ x ∈ row, 0 ≤ x ∧ x < n) (hr : Fr D R r) (h : ∀ k, k < n → pix l k = toR (G k) ∧ Fr D (t * R) (G k))
    (hD : 0 < D) (g1 : D ≤ 10 ^ 200) (g2 : (t + 1 + row.length) * R ≤ 10 ^ 200) : ∀ j, j ≤ row.length → ∀ k, k < n → pix (gaR (toR r) row l j) k = toR (ggRow r row G j k) ∧ Fr D ((t + j) * R) (ggRow r row G j k)
  | 0, _, k, hk => h k hk
  | j + 1, hj, k, hk => by
    have ih := gaR_toR hn hrow hr h hD g1 g2 j (by omega)
    have hx := hrow _ (ix_mem (l := row) (k := j) (by omega))
    obtain ⟨ee, fe⟩ := ih (ix row j).toNat (by omega)
    show pix ((gaR (toR r) row l j).set (ix row j).toNat (addR (pix (gaR (toR r) row l j) (ix row j).toNat) (toR r))) k = toR (updQ (ggRow r row G j) (ix row j).toNat r k) ∧ Fr D _ (updQ (ggRow r row G j) (ix row j).toNat r k)
    have m : ∀ x, x ≤ t + 1 + row.length → x * R ≤ 10 ^ 200 := fun x hx => Nat.le_trans (Nat.mul_le_mul_right _ hx) g2
    rw [pix_set (by rw [gaR_len, hn]; omega)]
    unfold updQ
    by_cases hke : k = (ix row j).toNat
    · rw [if_pos hke, if_pos hke]
      rw [← hke] at ee fe
      have fs := fe.add hr hD
      rw [← Nat.succ_mul] at fs
      have hR : R ≤ 10 ^ 200 := by have := m 1 (by omega); omega
      refine ⟨?_, fs⟩
      rw [← hke, ee, addR_toR (fe.fit hD g1 (m _ (by omega))) (hr.fit hD g1 hR) (fs.fit hD g1 (m _ (by omega)))]
    · rw [if_neg hke, if_neg hke]
      obtain ⟨ek, fk⟩ := ih k hk
      exact ⟨ek, fk.mono (Nat.mul_le_mul_right _ (by omega))⟩
theorem gaT_toR {P : List (List Int)} {zL : List RatD} {z : Nat → Rat} {n : Nat} (hz : VFr zL z) (hP : PaOk n P) (hl : zL.length = P.length) (h40 : P.length ≤ 40) : ∀ i, i ≤ P.length → ∀ k, k < n → pix (gaT P zL n i) k = toR (gTot P z i k) ∧ Fr 24504480 (2 * i * 416576160) (gTot P z i k)
  | 0, _, k, hk => ⟨by show pix (List.replicate n (ofFrac 0 1)) k = toR 0; rw [show pix (List.replicate n (ofFrac 0 1)) k = ofFrac 0 1 by simp [pix, hk]]; exact zero_toR, Fr.zero _⟩
  | i + 1, hi, k, hk => by
    have ih := gaT_toR hz hP hl h40 i (by omega)
    obtain ⟨h12, hrow⟩ := hP i (by omega)
    obtain ⟨ez, fz⟩ := hz i (by omega)
    have hrv : mulR (ofFrac 1 (pix P i).length) (pix zL i) = toR (mkRat 1 (pix P i).length * z i) ∧ Fr 24504480 416576160 (mkRat 1 (pix P i).length * z i) := by
      obtain ⟨e1, b1⟩ := ofFrac_sm 1 (pix P i).length (by omega) (by decide) (by omega)
      have fl : Fr (pix P i).length 1 (mkRat 1 (pix P i).length) := ⟨1, rfl, by decide⟩
      have fm := fl.mul fz
      have hlp : 0 < (pix P i).length := by omega
      have hm1 : (pix P i).length * 12252240 ≤ 10 ^ 200 := Nat.le_trans (Nat.mul_le_mul_right _ (show (pix P i).length ≤ 2 by omega)) (by decide)
      rw [e1, ez, mulR_toR (b1.fit (by decide)) (fz.fit (by omega) (by decide) (by decide)) (fm.fit (by omega) hm1 (by decide))]
      refine ⟨rfl, ?_⟩
      rcases h12 with h | h
      · rw [h] at fm ⊢
        rw [Nat.one_mul, Nat.one_mul] at fm
        have h3 := fm.up (E := 2) (by omega)
        exact h3.mono (by decide)
      · rw [h] at fm ⊢
        exact fm.mono (by decide)
    have h2 := gaR_toR (t := 2 * i) (gaT_len P zL n i) hrow hrv.2 ih (by omega) (by decide) (Nat.le_trans (Nat.mul_le_mul_right _ (show 2 * i + 1 + (pix P i).length ≤ 100 by omega)) (by decide)) _ (Nat.le_refl _) k hk
    show pix (gaR (mulR (ofFrac 1 (pix P i).length) (pix zL i)) (pix P i) (gaT P zL n i) (pix P i).length) k = toR (ggRow (mkRat 1 (pix P i).length * z i) (pix P i) (gTot P z i) (pix P i).length k) ∧ _
    rw [hrv.1]
    exact ⟨h2.1, h2.2.mono (Nat.mul_le_mul_right _ (by omega))⟩
end

end Go.Proofs.YtajlahjghapbkaaGreat
