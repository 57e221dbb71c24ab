/- Lemmas. -/
import Derived.Test.YtajlahjghapbkaaGreatRows
import Derived.Test.YtajlahjghapbkaaGreatPUndoM36
import Derived.Test.YtajlahjghapbkaaGreatPUndoM37
import Derived.Test.YtajlahjghapbkaaGreatPUndoM19
import Derived.Deep.Cut
import Derived.Deep.DeepCutAuto
namespace Go.Proofs.YtajlahjghapbkaaGreat
section
open Go.RowKit

def udTo (n k : Nat) : List Int := (List.range k).map fun i : Nat => ((n + i : Nat) : Int)
theorem udTo_len (n k : Nat) : (udTo n k).length = k := by simp [udTo]
theorem udTo_succ {n k q : Nat} (h : q = n + k) : udTo n (k + 1) = udTo n k ++ [(q : Int)] := by
  subst h
  unfold udTo
  rw [List.range_succ, List.map_append]
  rfl
theorem udL_eq (m y : MeQ) : udL m y = udTo m.pts.length (y.pts.length - m.pts.length) := rfl
theorem udC_at {m y : MeQ} {k : Nat} (h : udC m (k + 1) y = true) : udO m y = true ∧ ((udS m y).2 = 0 → y = m) ∧ (¬ (udS m y).2 = 0 → udC m k (udS m y).1 = true) := by
  unfold udC at h
  rw [Bool.and_eq_true] at h
  refine ⟨h.1, fun h0 => ?_, fun h0 => ?_⟩
  · have h2 := h.2
    rw [if_pos h0] at h2
    exact of_decide_eq_true h2
  · have h2 := h.2
    rw [if_neg h0] at h2
    exact h2
theorem udO_fit {m y : MeQ} (hy : FitM y) (h : udO m y = true) : FitM (udS m y).1 := by
  have h1 := crC_fit (x := (y, 0)) hy h (pre := crL y (udL m y)) (suf := []) (List.append_nil _).symm
  exact h1

theorem MeAt.ts {w : World} {gp n cp gt k ct : Nat} {m : MeQ} (h : MeAt w (.agg #[.slice (some ⟨gp, 0, none⟩) n cp, .slice (some ⟨gt, 0, none⟩) k ct]) m) : RdTS w (some ⟨gt, 0, none⟩) k ct m.tris := by
  obtain ⟨_, _, _, _, _, _, e, _, h⟩ := h
  cases e
  exact h
theorem MeAt.ps {w : World} {gp n cp gt k ct : Nat} {m : MeQ} (h : MeAt w (.agg #[.slice (some ⟨gp, 0, none⟩) n cp, .slice (some ⟨gt, 0, none⟩) k ct]) m) : RdPS w (some ⟨gp, 0, none⟩) n cp (m.pts.map tp) := by
  obtain ⟨_, _, _, _, _, _, e, h, _⟩ := h
  cases e
  exact h
set_option maxRecDepth 100000 in
set_option maxHeartbeats 32000000 in
theorem FnUndo_any (w0 : World) {Ac : Option Addr} {nc cc : Nat} {lc : List Int} (hc : RdB w0 Ac nc cc lc) :
    Calls Tryz.prog 6 #[.slice Ac nc cc] w0 fun e w' => e = .returned (.bool true) ∧ Bl w0 w' := by
  have hn := hc.small
  by_cases hbig : (nc : Int) > 1048576
  · go_enter Tryz.func6, Tryz.ntmps6
    go_wp2_with fail
    go_ret
    exact ⟨rfl, slc⟩
  · have hsmall : ¬ 1048576 < (nc : Int) := hbig
    go_enter Tryz.func6, Tryz.ntmps6
    go_wp2_with fail
    refine (MakeCoarse_any _ hc).mono ?_
    rintro e w1 ⟨_, m, rfl, hm, hO1, hb1⟩
    obtain ⟨gp1, n1, cp1, gt1, m1, ct1, rfl, hP1, hT1⟩ := hO1.1
    have hud := ud_ok hm
    unfold udB at hud
    simp only [Bool.and_eq_true, decide_eq_true_eq] at hud
    have hudH := Lib.hid hud
    have hal := Lib.hid (al_fit hm)
    have hfm := Lib.hid (ref_ok hm []).fit
    have hn1 := Lib.hid (show m.pts.length = n1 by rw [← hP1.len, List.length_map])
    have h1r : 3 ≤ n1 ∧ n1 ≤ 40 := by rw [← hn1.out]; exact ⟨hfm.out.ok.n3, hfm.out.ok.n40⟩
    clear hm hud
    go_upto_region 4 with (fail)
    refine wp_gen (fun W => Bl w1 W ∧ ∃ g3, Blk W g3 57 #[.slice (some ⟨gp1, 0, none⟩) n1 cp1, .slice (some ⟨gt1, 0, none⟩) m1 ct1] ∧ g3 = w1.heap.size) ⟨slc, _, by exact bts, rfl⟩ ?_
    rintro W1 ⟨hbW, g3, h3, hg3⟩
    rw [← hg3]
    have hMm : MeAt W1 (.agg #[.slice (some ⟨gp1, 0, none⟩) n1 cp1, .slice (some ⟨gt1, 0, none⟩) m1 ct1]) m := MeAt.bl hO1.1 hbW
    have hbw := hb1.next hbW
    clear hg3 hbW hb1 hO1 hP1 hT1
    obtain ⟨r0, r1⟩ := bx2 h3
    go_wp2_with fail
    refine (RefineAll_yes _ hMm hfm.out hal.out.1.ok).mono ?_
    rintro e w2 ⟨_, rfl, hO2, hb2⟩
    obtain ⟨gp2, n2, cp2, gt2, m2, ct2, rfl, hP2, _⟩ := hO2.1
    obtain ⟨x, hx⟩ : ∃ x, alM m = x := ⟨_, rfl⟩
    rw [hx] at hO2 hudH hal hP2
    clear hx r0 r1
    have hn2 := Lib.hid (show x.pts.length = n2 by rw [← hP2.len, List.length_map])
    have h2r : n2 ≤ 40 := by rw [← hn2.out]; exact hal.out.1.ok.n40
    have hul2 := Lib.hid (show udTo n1 (n2 - n1) = udL m x by rw [udL_eq, hn1.out, hn2.out])
    go_upto_region 5 with (fail)
    refine wp_gen (fun W => Bl w2 W ∧ ∃ g4, Blk W g4 57 #[.slice (some ⟨gp2, 0, none⟩) n2 cp2, .slice (some ⟨gt2, 0, none⟩) m2 ct2] ∧ g4 = w2.heap.size) ⟨slc, _, by exact bts, rfl⟩ ?_
    rintro W2 ⟨hbW, g4, h4, hg4⟩
    rw [← hg4]
    have hb12 := hb2.next hbW
    have h3 := h3.bl hb12
    have hMm := MeAt.bl hMm hb12
    have hMx : MeAt W2 (.agg #[.slice (some ⟨gp2, 0, none⟩) n2 cp2, .slice (some ⟨gt2, 0, none⟩) m2 ct2]) x := MeAt.bl hO2.1 hbW
    have hbw := hbw.next hb12
    clear hg4 hbW hb2 hO2 hP2 hb12
    go_upto_region 6 with (fail)
    refine wp_gen (fun W3 => Bl W2 W3 ∧ ∃ v c, OwL 3 W2.heap.size W3 v (udTo n1 0) ∧ v = .slice (some ⟨W2.heap.size, 0, none⟩) 0 c ∧ c = 0) ⟨by exact slc, _, 0, OwL.empty W2 (Nat.le_refl _) (by decide), rfl, rfl⟩ ?_
    rintro W3 ⟨hb0, v0, c0, hX, hv0, rfl⟩
    rw [← hv0]
    clear hv0
    obtain ⟨r0, r1⟩ := bx2 (h3.bl hb0)
    go_wp2_with fail
    clear r0 r1
    go_loopw [6, 7] (fun sl sp wr => ∃ (i q : Nat) (o : Value), i ≤ n2 - n1 ∧ Hid (q = n1 + i) ∧ sp = .int .i64 (q : Int) ∧ o = sl ∧ OwL 3 W2.heap.size wr o (udTo n1 i) ∧ Bl W2 wr) (fun _ sp _ => n2 - (intOf sp).toNat)
    case atStart => exact ⟨0, n1, v0, by omega, Lib.hid rfl, rfl, rfl, hX, hb0⟩
    case round =>
      clear hX hb0
      obtain ⟨i, q, o, hi, hq, rfl, rfl, hX, hbi⟩ := hrel
      obtain ⟨wj, rfl⟩ : ∃ wj : World, wj = wr := ⟨_, rfl⟩
      have hSl := udTo_len n1 i
      have hq2 := hq.out
      obtain ⟨r0, r1⟩ := bx2 (h4.bl hbi)
      by_cases hin : i < n2 - n1
      · have hS2 := Lib.hid (udTo_succ hq.out)
        have hii : (q : Int) < (n2 : Int) := by omega
        have hqb : (q : Int) + 1 ≤ 9223372036854775807 := by omega
        clear hq2
        go_wp2_with ((refine wpList_append_intX (w0 := W2) info_int Tryz.underlying25 rfl (.tmp 36) (.tmp 38) rfl _ (udTo n1 i) (by rfl) hX hbi 1 (by rfl) (by omega) ?_); intro vx7 w7 hX7 hb7 hoth)
        rw [← hS2.out] at hX7
        go_roundw
        case rel => exact ⟨i + 1, q + 1, vx7, by omega, Lib.hid (by have := hq.out; omega), by go_num, rfl, hX7, hb7⟩
        case measure => simp [intOf]; omega
      · have hie : i = n2 - n1 := by omega
        have hkm3 : ¬ (q : Int) < (n2 : Int) := by omega
        clear hq2
        subst hie
        obtain ⟨B, c, rfl, hR⟩ := hX.own (by omega)
        rw [udTo_len] at hR
        have hRd := hR.rd
        clear hX hR hq hi hin
        have h3 := h3.bl hbi
        have hMm := MeAt.bl hMm hbi
        have hMx := MeAt.bl hMx hbi
        have hbw := hbw.next hbi
        go_wp2_with fail
        refine (CoarsenMesh_yes _ hMx hal.out.1 hRd (by omega) (by rw [hul2.out]; exact hudH.out.1)).mono ?_
        rw [hul2.out]
        rintro e w5 ⟨_, rfl, hO5, hb5⟩
        obtain ⟨gp4, n4, cp4, gt4, m4, ct4, rfl, _, _⟩ := hO5.1
        have hfy := Lib.hid (udO_fit hal.out.1 hudH.out.1)
        have hcn := hudH.out.2.1
        have huc := Lib.hid hudH.out.2.2
        rw [show crA x (udL m x) = udS m x from rfl] at hO5 ⊢
        obtain ⟨c9, hc9⟩ : ∃ c9, (udS m x).2 = c9 := ⟨_, rfl⟩
        obtain ⟨y0, hy0⟩ : ∃ y0, (udS m x).1 = y0 := ⟨_, rfl⟩
        rw [hc9] at hcn ⊢
        rw [hy0] at hO5 hfy huc
        have hcp : (0 : Int) < (c9 : Int) := by omega
        clear hc9 hy0 r0 r1 hudH hal hul2
        go_upto_region 11 with (fail)
        refine wp_gen (fun W => Bl w5 W ∧ ∃ g8, Blk W g8 57 #[.slice (some ⟨gp4, 0, none⟩) n4 cp4, .slice (some ⟨gt4, 0, none⟩) m4 ct4] ∧ g8 = w5.heap.size) ⟨slc, _, by exact bts, rfl⟩ ?_
        rintro W4 ⟨hbW, g8, h8, hg8⟩
        rw [← hg8]
        have h3 := h3.bl hb5
        have hMm := MeAt.bl hMm hb5
        have hbw := hbw.next hb5
        have hMy : MeAt W4 (.agg #[.slice (some ⟨gp4, 0, none⟩) n4 cp4, .slice (some ⟨gt4, 0, none⟩) m4 ct4]) y0 := MeAt.bl hO5.1 hbW
        have hg8z : w5.heap.size ≤ g8 := by rw [hg8]; exact Nat.le_refl _
        clear hg8 hO5 hb5 hRd
        go_wp2_with fail
        go_loopw [10] (fun sk wr => ∃ (k : Nat) (y : MeQ) (gp5 n5 cp5 gt5 m5 ct5 : Nat), k ≤ 4 ∧ sk = .int .i64 (k : Int) ∧ Blk wr g8 57 #[.slice (some ⟨gp5, 0, none⟩) n5 cp5, .slice (some ⟨gt5, 0, none⟩) m5 ct5] ∧ MeAt wr (.agg #[.slice (some ⟨gp5, 0, none⟩) n5 cp5, .slice (some ⟨gt5, 0, none⟩) m5 ct5]) y ∧ Hid (FitM y) ∧ Hid (udC m (4 - k) y = true) ∧ Bl w5 wr) (fun sk _ => 4 - (intOf sk).toNat)
        case atStart => exact ⟨0, y0, gp4, n4, cp4, gt4, m4, ct4, by omega, rfl, h8, hMy, hfy, huc, hbW⟩
        case round =>
          clear h8 hMy hfy huc hbW
          obtain ⟨k, y, gp5, n5, cp5, gt5, m5, ct5, hk, rfl, h8, hMy, hfy, huc, hbk⟩ := hrel
          obtain ⟨wk, rfl⟩ : ∃ wk : World, wk = wr := ⟨_, rfl⟩
          have h3k := h3.bl hbk
          have hMm := MeAt.bl hMm hbk
          have hbw := hbw.next hbk
          have hn5 := Lib.hid (show y.pts.length = n5 by rw [← (MeAt.ps hMy).len, List.length_map])
          have h5r : n5 ≤ 40 := by rw [← hn5.out]; exact hfy.out.ok.n40
          by_cases hk4 : k < 4
          · have hki : (k : Int) < 4 := by omega
            obtain ⟨hud, huz, hun⟩ := udC_at (k := 4 - (k + 1)) (by rw [show 4 - (k + 1) + 1 = 4 - k by omega]; exact huc.out)
            have hud := Lib.hid hud
            have huz := Lib.hid huz
            have hun := Lib.hid hun
            have hul := Lib.hid (show udTo n1 (n5 - n1) = udL m y by rw [udL_eq, hn1.out, hn5.out])
            clear huc
            go_upto_region 15 with (fail)
            refine wp_gen (fun W3 => Bl wk W3 ∧ ∃ v c, OwL 3 wk.heap.size W3 v (udTo n1 0) ∧ v = .slice (some ⟨wk.heap.size, 0, none⟩) 0 c ∧ c = 0) ⟨by exact slc, _, 0, OwL.empty wk (Nat.le_refl _) (by decide), rfl, rfl⟩ ?_
            rintro W6 ⟨hb0, v0, c0, hX, hv0, rfl⟩
            rw [← hv0]
            clear hv0
            obtain ⟨r0, r1⟩ := bx2 (h3k.bl hb0)
            go_wp2_with fail
            clear r0 r1
            go_loopw [11, 12] (fun sl sp wr => ∃ (i q : Nat) (o : Value), i ≤ n5 - n1 ∧ Hid (q = n1 + i) ∧ sp = .int .i64 (q : Int) ∧ o = sl ∧ OwL 3 wk.heap.size wr o (udTo n1 i) ∧ Bl wk wr) (fun _ sp _ => n5 - (intOf sp).toNat)
            case atStart => exact ⟨0, n1, v0, by omega, Lib.hid rfl, rfl, rfl, hX, hb0⟩
            case round =>
              clear hX hb0
              obtain ⟨i, q, o, hi, hq, rfl, rfl, hX, hbi⟩ := hrel
              obtain ⟨wj, rfl⟩ : ∃ wj : World, wj = wr := ⟨_, rfl⟩
              have hSl := udTo_len n1 i
              have hq2 := hq.out
              obtain ⟨r0, r1⟩ := bx2 (h8.bl hbi)
              by_cases hin : i < n5 - n1
              · have hS2 := Lib.hid (udTo_succ hq.out)
                have hii : (q : Int) < (n5 : Int) := by omega
                have hqb : (q : Int) + 1 ≤ 9223372036854775807 := by omega
                clear hq2
                go_wp2_with ((refine wpList_append_intX (w0 := wk) info_int Tryz.underlying25 rfl (.tmp 65) (.tmp 67) rfl _ (udTo n1 i) (by rfl) hX hbi 1 (by rfl) (by omega) ?_); intro vx7 w7 hX7 hb7 hoth)
                rw [← hS2.out] at hX7
                go_roundw
                case rel => exact ⟨i + 1, q + 1, vx7, by omega, Lib.hid (by have := hq.out; omega), by go_num, rfl, hX7, hb7⟩
                case measure => simp [intOf]; omega
              · have hie : i = n5 - n1 := by omega
                have hkm3 : ¬ (q : Int) < (n5 : Int) := by omega
                clear hq2
                subst hie
                obtain ⟨B, c, rfl, hR⟩ := hX.own (by omega)
                rw [udTo_len] at hR
                have hRd := hR.rd
                clear hX hR hq hi hin
                have h3k := h3k.bl hbi
                have hMm := MeAt.bl hMm hbi
                have hbw := hbw.next hbi
                have hMy := MeAt.bl hMy hbi
                have h8 := h8.bl hbi
                have hbk := hbk.next hbi
                clear hbi
                go_wp2_with fail
                refine (CoarsenMesh_yes _ hMy hfy.out hRd (by omega) (by rw [hul.out]; exact hud.out)).mono ?_
                rw [hul.out]
                rintro e w8 ⟨_, rfl, hO8, hb8⟩
                obtain ⟨gp6, n6, cp6, gt6, m6, ct6, rfl, _, _⟩ := hO8.1
                rw [show crA y (udL m y) = udS m y from rfl] at hO8 ⊢
                have h3k := h3k.bl hb8
                have hMm := MeAt.bl hMm hb8
                have hbw := hbw.next hb8
                have hMy := MeAt.bl hMy hb8
                have hg8l := h8.lt
                have h8 := h8.bl hb8
                have hbk := hbk.next hb8
                have hfz := Lib.hid (udO_fit hfy.out hud.out)
                clear hb8 r0 r1 hRd
                by_cases hz : (udS m y).2 = 0
                · have hym := huz.out hz
                  rw [hz]
                  subst hym
                  go_upto_region 20 with (fail)
                  refine wp_gen (fun W => Bl w8 W) slc ?_
                  rintro W8 hbW
                  have h3k := h3k.bl hbW
                  have hMm := MeAt.bl hMm hbW
                  have hbw := hbw.next hbW
                  have hMy := MeAt.bl hMy hbW
                  have h8 := h8.bl hbW
                  obtain ⟨r0, r1⟩ := bx2 h8
                  obtain ⟨q0, q1⟩ := bx2 h3k
                  have hs1 := (MeAt.ts hMy)
                  have hs3 := (MeAt.ts hMm)
                  go_wp2_with fail
                  refine (SameMesh_any _ (x := ⟨y.pts.map tp, y.tris⟩) (y := ⟨y.pts.map tp, y.tris⟩) (MeAt.ps hMy) hs1 (MeAt.ps hMm) hs3).mono ?_
                  rw [sameM_refl]
                  rintro e w_ ⟨rfl, hb_⟩
                  go_wp2_with fail
                  go_ret
                  exact ⟨rfl, slc⟩
                · have huc := Lib.hid (hun.out hz)
                  obtain ⟨c7, hc7⟩ : ∃ c7, (udS m y).2 = c7 := ⟨_, rfl⟩
                  obtain ⟨z, hz_⟩ : ∃ z, (udS m y).1 = z := ⟨_, rfl⟩
                  rw [hc7] at hz ⊢
                  rw [hz_] at hO8 hfz huc
                  have hc70 : ((c7 : Int) == 0) = false := by simp; omega
                  clear hc7 hz_
                  go_upto_region 20 with (fail)
                  refine wp_gen (fun W => Bl w8 W ∧ ∃ g13, Blk W g13 57 #[.slice (some ⟨gp6, 0, none⟩) n6 cp6, .slice (some ⟨gt6, 0, none⟩) m6 ct6] ∧ g13 = w8.heap.size) ⟨slc, _, by exact bts, rfl⟩ ?_
                  rintro W8 ⟨hbW, g13, h13, hg13⟩
                  rw [← hg13]
                  have h8 := h8.bl hbW
                  have hO8 := MeOw.bl hO8 hbW
                  have hbk := hbk.next hbW
                  have zf0 := h8.frozen 0
                  have zf1 := h8.frozen 1
                  clear hg13 hbW
                  obtain ⟨r0, r1⟩ := bx2 h13
                  obtain ⟨q0, q1⟩ := bx2 h8
                  go_wp2_with fail
                  go_roundw
                  case rel => exact ⟨k + 1, z, gp6, n6, cp6, gt6, m6, ct6, by omega, by go_num, by simpa using (h8.set_ 0 (.slice (some ⟨gp6, 0, none⟩) n6 cp6)).set_ 1 (.slice (some ⟨gt6, 0, none⟩) m6 ct6), (MeOw.setLow (MeOw.setLow hO8 (q := ⟨g8, 0, none⟩) hg8l _) (q := ⟨g8, 1, none⟩) hg8l _).1, hfz, huc, Bl.set (Bl.set hbk (by exact hg8z) _) (by exact hg8z) _⟩
                  case measure => simp [intOf]; omega
          · obtain rfl : k = 4 := by omega
            have hki : ¬ (4 : Int) < 4 := by omega
            have hym : y = m := of_decide_eq_true huc.out
            subst hym
            obtain ⟨r0, r1⟩ := bx2 h8
            obtain ⟨q0, q1⟩ := bx2 h3k
            clear huc hfy
            have hs1 := (MeAt.ts hMy)
            have hs3 := (MeAt.ts hMm)
            go_wp2_with fail
            refine (SameMesh_any _ (x := ⟨y.pts.map tp, y.tris⟩) (y := ⟨y.pts.map tp, y.tris⟩) (MeAt.ps hMy) hs1 (MeAt.ps hMm) hs3).mono ?_
            rw [sameM_refl]
            rintro e w_ ⟨rfl, hb_⟩
            go_wp2_with fail
            go_ret
            exact ⟨rfl, slc⟩
end

end Go.Proofs.YtajlahjghapbkaaGreat
