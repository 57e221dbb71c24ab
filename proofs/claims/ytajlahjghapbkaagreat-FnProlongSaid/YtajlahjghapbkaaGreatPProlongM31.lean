/- Lemmas. -/
import Derived.Test.YtajlahjghapbkaaGreatRows
import Derived.Test.YtajlahjghapbkaaGreatPProlongM30
import Derived.Lib.MinMax
import Derived.Test.YtajlahjghapbkaaGreatPProlongM19
import Derived.Deep.Cut
import Derived.Deep.DeepCutAuto
namespace Go.Proofs.YtajlahjghapbkaaGreat
section
open Go.RowKit

theorem mkTo_yes {l : List Int} {n k : Nat} (h1 : 0 ≤ ix l k) (h2 : ix l k ≤ (n : Int) - 1) : mkTo l n (k + 1) = (mkTo l n k).set (ix l k).toNat true := if_pos ⟨h1, h2⟩
theorem mkTo_no {l : List Int} {n k : Nat} (h : ¬ (0 ≤ ix l k ∧ ix l k ≤ (n : Int) - 1)) : mkTo l n (k + 1) = mkTo l n k := if_neg h
theorem lsTo_yes {bl : List Bool} {k : Nat} (h : bgt bl k = true) : lsTo bl (k + 1) = lsTo bl k ++ [(k : Int)] := by rw [lsTo_succ, if_pos h]
theorem lsTo_no {bl : List Bool} {k : Nat} (h : bgt bl k = false) : lsTo bl (k + 1) = lsTo bl k := by rw [lsTo_succ, if_neg (by rw [h]; decide)]
/-- The edge that is searched for. -/
def newZ (a b : Int) : EdD := ⟨min a b, max a b, 0, 0⟩
theorem posE_z (a b : Int) : ∀ l : List EdD, posE (newZ a b) l = posE (newE a b) l
  | [] => rfl
  | x :: xs => by
    have h := posE_z a b xs
    unfold posE
    rw [h]
    rfl
theorem fndE_z (a b : Int) (l : List EdD) : fndE (newZ a b) l = fndE (newE a b) l := by
  unfold fndE
  rw [posE_z]
  rfl
def IntsOw (w : World) (l : List Int) (en : Ending) (w' : World) : Prop := ∃ A n c, en = .returned (.slice A n c) ∧ OwI 3 w.heap.size w' A n c l ∧ Bl w w'

set_option maxRecDepth 100000 in
set_option maxHeartbeats 8000000 in
theorem markedOf_any (w : World) {A : Option Addr} {n c : Nat} {l : List Int} (h : RdI w A n c l) (hn : n ≤ 1048576) (N : Nat) (hN : N ≤ 1048576) :
    Calls Tryz.prog 116 #[.slice A n c, .int .i64 (N : Int)] w fun e w' => ∃ g, e = .returned (.slice (some ⟨g, 0, none⟩) N N) ∧ OwU w' g N (bgt (mkA l N)) ∧ w.heap.size ≤ g ∧ Bl w w' := by
  have hl := Lib.hid h.len
  obtain ⟨N1, hN1⟩ : ∃ z : Int, (N : Int) - 1 = z := ⟨_, rfl⟩
  have hb1 : -1 ≤ N1 := by omega
  have hb2 : N1 ≤ 1048576 := by omega
  go_enter Tryz.func116, Tryz.ntmps116
  have hmk := fun W : World => make_bools N hN W
  go_wp2_with fail
  refine wp_gen (fun W => Bl w W ∧ ∃ gu, OwU W gu N (bgt (mkTo l N 0)) ∧ gu = w.heap.size) ⟨by exact slc, _, OwU.made w N _ (fun i => bgt_rep N i), rfl⟩ ?_
  rintro W ⟨hbW, gu, hU, hgu⟩
  rw [← hgu]
  have hgu0 : w.heap.size ≤ gu := by omega
  clear hgu hmk
  go_loopw [12] (fun v wr => ∃ k : Nat, k ≤ n ∧ v = .int .i64 (k : Int) ∧ OwU wr gu N (bgt (mkTo l N k)) ∧ Bl w wr) (fun v _ => n - (intOf v).toNat)
  case atStart => exact ⟨0, by omega, rfl, hU, hbW⟩
  case round =>
    clear hU hbW
    obtain ⟨k, hk, rfl, hU, hbw⟩ := hrel
    obtain ⟨wo, rfl⟩ : ∃ wo : World, wo = wr := ⟨_, rfl⟩
    by_cases hkn : k < n
    · have hki : (k : Int) < (n : Int) := by omega
      obtain ⟨ad, rfl, hlta, hca⟩ := (h.bl hbw).cells k hkn
      obtain ⟨x, hx⟩ : ∃ x, ix l k = x := ⟨_, rfl⟩
      rw [hx] at hca
      by_cases hin : 0 ≤ x ∧ x ≤ N1
      · have hset := Lib.hid (mkTo_yes (l := l) (n := N) (k := k) (by omega) (by omega))
        rw [hx] at hset
        have hx := Lib.hid hx; rename_i h_; clear h_
        go_wp2_with fail
        refine (within_yes _ hin.1 hin.2).mono ?_
        rintro e w1 ⟨rfl, q1, rfl⟩
        have hb6 := (Bl.refl wo).drewN q1
        obtain ⟨w6, hw6⟩ : ∃ w6, wo.drewN q1 = w6 := ⟨_, rfl⟩
        rw [hw6] at hb6 ⊢
        clear hw6
        have hU := hU.bl hb6
        have ux := hU.cell (i := x.toNat) (by omega)
        have uf := hU.frozen x.toNat
        obtain ⟨hx1, hx2⟩ := hin
        have hxN : x < (N : Int) := by omega
        clear hN1
        go_wp2_with fail
        go_roundw
        case rel => exact ⟨k + 1, by omega, by go_num, (hU.set x.toNat true).congr (fun i hi => by rw [hset.out]; exact bgt_set (mkTo_len l N k) true i hi), Bl.set (hbw.next hb6) hgu0 _⟩
        case measure => simp [intOf]; omega
      · have hset := Lib.hid (mkTo_no (l := l) (n := N) (k := k) (by rw [hx]; omega))
        have hx := Lib.hid hx; rename_i h_; clear h_
        go_wp2_with fail
        refine (within_no _ hin).mono ?_
        rintro e w1 ⟨rfl, q1, rfl⟩
        have hb6 := (Bl.refl wo).drewN q1
        obtain ⟨w6, hw6⟩ : ∃ w6, wo.drewN q1 = w6 := ⟨_, rfl⟩
        rw [hw6] at hb6 ⊢
        clear hw6 hN1 hin
        go_wp2_with fail
        go_roundw
        case rel => exact ⟨k + 1, by omega, by go_num, by rw [hset.out]; exact hU.bl hb6, hbw.next hb6⟩
        case measure => simp [intOf]; omega
    · obtain rfl : k = n := by omega
      have hkm2 : ¬ (k : Int) < (k : Int) := by omega
      go_wp2_with fail
      go_ret
      exact ⟨gu, rfl, by unfold mkA; rw [hl.out]; exact hU, hgu0, hbw⟩
set_option maxRecDepth 100000 in
set_option maxHeartbeats 8000000 in
theorem listed_any (w : World) {g n c : Nat} {bl : List Bool} (hU : OwU w g n (bgt bl)) (hl : bl.length = n) (hn : n ≤ 1048576) :
    Calls Tryz.prog 115 #[.slice (some ⟨g, 0, none⟩) n c] w (IntsOw w (lsA bl)) := by
  have hl := Lib.hid hl; rename_i h_; clear h_
  go_enter Tryz.func115, Tryz.ntmps115
  go_wp2_with fail
  refine wp_gen (fun W3 => Bl w W3 ∧ ∃ v c, OwL 3 w.heap.size W3 v (lsTo bl 0) ∧ v = .slice (some ⟨w.heap.size, 0, none⟩) 0 c ∧ c = 0) ⟨by exact slc, _, 0, OwL.empty w (Nat.le_refl _) (by decide), rfl, rfl⟩ ?_
  rintro W3 ⟨hb3, v0, c0, hX, hv0, rfl⟩
  rw [← hv0]
  clear hv0
  go_loopw [3, 9] (fun s v wr => ∃ (i : Nat) (o : Value), i ≤ n ∧ v = .int .i64 (i : Int) ∧ o = s ∧ OwL 3 w.heap.size wr o (lsTo bl i) ∧ Bl w wr) (fun _ v _ => n - (intOf v).toNat)
  case atStart => exact ⟨0, v0, by omega, rfl, rfl, hX, hb3⟩
  case round =>
    clear hX hb3
    obtain ⟨i, o, hi, rfl, rfl, hX, hbi⟩ := hrel
    obtain ⟨wj, rfl⟩ : ∃ wj : World, wj = wr := ⟨_, rfl⟩
    by_cases hin : i < n
    · have hii : (i : Int) < (n : Int) := by omega
      have x0 := (hU.bl hbi).cell hin
      have hSl := lsTo_len bl i
      obtain ⟨q, hq⟩ : ∃ q, bgt bl i = q := ⟨_, rfl⟩
      rw [hq] at x0
      cases q
      · have hS2 := Lib.hid (lsTo_no hq)
        clear hq
        go_wp2_with fail
        go_roundw
        case rel => exact ⟨i + 1, o, by omega, by go_num, rfl, by rw [hS2.out]; exact hX, hbi⟩
        case measure => simp [intOf]; omega
      · have hS2 := Lib.hid (lsTo_yes hq)
        clear hq
        go_wp2_with ((refine wpList_append_intX (w0 := w) info_int Tryz.underlying25 rfl (.tmp 15) (.tmp 17) rfl _ (lsTo bl i) (by rfl) hX hbi 1 (by rfl) (by omega) ?_); intro vx7 w7 hX7 hb7 hoth)
        rw [← hS2.out] at hX7
        go_roundw
        case rel => exact ⟨i + 1, vx7, by omega, by go_num, rfl, hX7, hb7⟩
        case measure => simp [intOf]; omega
    · obtain rfl : i = n := by omega
      have hkm3 : ¬ (i : Int) < (i : Int) := by omega
      have hSl := lsTo_len bl i
      obtain ⟨B, c, rfl, hR⟩ := hX.own (by omega)
      go_wp2_with fail
      go_ret
      exact ⟨B, _, c, rfl, by unfold lsA; rw [hl.out]; exact hR, hbi⟩
set_option maxRecDepth 100000 in
set_option maxHeartbeats 8000000 in
theorem edgeIndex_yes (w : World) {g n c : Nat} {l : List EdD} (h : RdES w (some ⟨g, 0, none⟩) n c l) (hs : SrtE l) (hn : n ≤ 1048576) (a b : Int) (hf : fndE (newE a b) l = true) :
    Calls Tryz.prog 185 #[.slice (some ⟨g, 0, none⟩) n c, .int .i64 a, .int .i64 b] w fun e w' => e = .returned (.int .i64 (posE (newE a b) l : Int)) ∧ Bl w w' := by
  have hs := Lib.hid hs; rename_i h_; clear h_
  have hf := Lib.hid hf; rename_i h_; clear h_
  have hmn : min a b = (newZ a b).a := rfl
  have hmx : max a b = (newZ a b).b := rfl
  go_enter Tryz.func185, Tryz.ntmps185
  go_wp2_with fail
  refine (BSearch_any _ h hs.out (newZ a b) hn).mono ?_
  rw [fndE_z, posE_z, hf.out]
  rintro e w1 ⟨rfl, hb⟩
  clear hmn hmx
  go_wp2_with fail
  go_ret
  exact ⟨rfl, hb⟩
set_option maxRecDepth 100000 in
set_option maxHeartbeats 8000000 in
theorem edgeIndex_no (w : World) {g n c : Nat} {l : List EdD} (h : RdES w (some ⟨g, 0, none⟩) n c l) (hs : SrtE l) (hn : n ≤ 1048576) (a b : Int) (hf : fndE (newE a b) l = false) :
    Calls Tryz.prog 185 #[.slice (some ⟨g, 0, none⟩) n c, .int .i64 a, .int .i64 b] w fun e w' => e = .returned (.int .i64 (-1)) ∧ Bl w w' := by
  have hs := Lib.hid hs; rename_i h_; clear h_
  have hf := Lib.hid hf; rename_i h_; clear h_
  have hmn : min a b = (newZ a b).a := rfl
  have hmx : max a b = (newZ a b).b := rfl
  go_enter Tryz.func185, Tryz.ntmps185
  go_wp2_with fail
  refine (BSearch_any _ h hs.out (newZ a b) hn).mono ?_
  rw [fndE_z, posE_z, hf.out]
  rintro e w1 ⟨rfl, hb⟩
  clear hmn hmx
  go_wp2_with fail
  go_ret
  exact ⟨rfl, hb⟩
end

section
open Go.RowKit

theorem RdTS.setLit {w : World} {g n c : Nat} {l : List TriD} (h : RdTS w (some ⟨g, 0, none⟩) n c l) {p : Addr} (hp : g ≠ p.block) (u : Value) : RdTS (w.setCell p u) (some ⟨g, 0, none⟩) n c l := by
  refine ⟨h.len, h.cap, h.small, fun k hk => ?_⟩
  obtain ⟨ad, e, hlt, c0, c1, c2, c3, c4⟩ := h.cells k hk
  refine ⟨ad, e, by simpa using hlt, ?_⟩
  cases e
  rw [Addr.add_lit] at c0 c1 c2 c3 c4 ⊢
  have hne : ∀ o, p ≠ (⟨g, o, none⟩ : Addr) := fun o e => hp (by rw [e])
  exact ⟨by rw [World.cell?_setCell_other (h := hne _)]; exact c0, by rw [World.cell?_setCell_other (h := hne _)]; exact c1, by rw [World.cell?_setCell_other (h := hne _)]; exact c2, by rw [World.cell?_setCell_other (h := hne _)]; exact c3, by rw [World.cell?_setCell_other (h := hne _)]; exact c4⟩
theorem emTo_succ (ts : List TriD) (L : List EdD) (ks : List Int) (k : Nat) : emTo ts L ks (k + 1) = (emTo ts L ks k).set (posE (newE (pix ts (ix ks k).toNat).b (pix ts (ix ks k).toNat).c) L) true := rfl

set_option maxRecDepth 100000 in
set_option maxHeartbeats 32000000 in
theorem edgeMarks_any (w : World) {A : Option Addr} {n cp gt m ct : Nat} {ts : List TriD} (ht : RdTS w (some ⟨gt, 0, none⟩) m ct ts) (hm : m ≤ 10000) {B : Option Addr} {k d : Nat} {list : List Int} (hl : RdI w B k d list) (hk : k ≤ 1048576) (hE : EdHas ts (edL ts)) :
    Calls Tryz.prog 138 #[.agg #[.slice A n cp, .slice (some ⟨gt, 0, none⟩) m ct], .slice B k d] w (IntsOw w (emA ts list)) := by
  have hE := Lib.hid hE; rename_i h_; clear h_
  have hlt := Lib.hid ht.len
  have hlE : (edL ts).length ≤ 30000 := by have h := edTo_len ts ts.length; rw [ht.len] at h; unfold edL; rw [ht.len]; omega
  have hcpt := ht.cap
  have hemA := Lib.hid (show emA ts list = lsA (emTo ts (edL ts) (lsA (mkA list m)) (lsA (mkA list m)).length) by unfold emA emB; rw [ht.len])
  have hsrt := Lib.hid (show SrtE (edL ts) from edTo_srt ts _)
  go_enter Tryz.func138, Tryz.ntmps138
  go_wp2_with fail
  refine calls_gen (fun W => Bl w W ∧ Blk W w.heap.size 57 #[.slice A n cp, .slice (some ⟨gt, 0, none⟩) m ct]) ⟨slc, bts⟩ ?_
  rintro W ⟨hbW, h4⟩
  refine (edges_any _ (RdTS.bl ht hbW) hm).mono ?_
  rintro e w1 ⟨ge, ne, ce, rfl, hes, hge, hb1⟩
  have h4 := h4.bl hb1
  have hbW := hbW.next hb1
  have hgeg : 0 < ne → ge < w1.heap.size := fun h => by
    obtain ⟨ad, e, hlt, _⟩ := hes.cells 0 h
    injection e with e
    rw [← e] at hlt
    exact hlt
  clear hb1 hge
  have hne := Lib.hid hes.len
  have hnl3 : ne ≤ 30000 := by rw [← hes.len]; exact hlE
  have hnl : ne ≤ 1048576 := by omega
  obtain ⟨L, hL⟩ : ∃ L, edL ts = L := ⟨_, rfl⟩
  rw [hL] at hes hne hE hemA hsrt
  clear hL hlE
  have hmk := fun W : World => make_bools ne hnl W
  obtain ⟨r0, r1⟩ := bx2 (h4.alloc (mkBools ne))
  go_wp2_with fail
  clear r0 r1
  refine calls_gen (fun W => Bl w1 W ∧ ∃ gm, OwU W gm ne (bgt (List.replicate L.length false)) ∧ gm = w1.heap.size) ⟨by exact slc, _, OwU.made w1 ne _ (fun i => bgt_rep _ i), rfl⟩ ?_
  rintro W2 ⟨hbW2, gm, hU, hgm⟩
  rw [← hgm]
  clear hmk
  have h4l := h4.lt
  have h4g : w.heap.size < gm := by omega
  have h4 := h4.bl hbW2
  have hes := hes.bl hbW2
  have hbW := hbW.next hbW2
  have hltm : m ≤ 1048576 := by omega
  rw [← hgm] at hgeg
  clear hgm h4l
  refine (markedOf_any _ (hl.bl hbW) hk m hltm).mono ?_
  rintro e w2 ⟨g2, rfl, hU2, hg2, hb2⟩
  have h4 := h4.bl hb2
  have hes := hes.bl hb2
  have hU := hU.bl hb2
  have hgm2 := hU.lt
  have hbW := hbW.next hb2
  clear hb2 hbW2 hg2
  go_wp2_with fail
  refine (listed_any _ hU2 (mkA_len list m) hltm).mono ?_
  rintro e w3 ⟨B3, k3, d3, rfl, hR, hb3⟩
  have h4 := h4.bl hb3
  have hes := hes.bl hb3
  have hU := hU.bl hb3
  have hbW := hbW.next hb3
  have hR := hR.mono (show gm + 1 ≤ w2.heap.size from hgm2)
  clear hb3 hgm2
  have hk3b : k3 ≤ 1048576 := by
    have h1 := hR.rd.len
    have h2 := lsTo_len (mkA list m) (mkA list m).length
    rw [mkA_len] at h2
    have h3 : (lsA (mkA list m)).length = (lsTo (mkA list m) m).length := by unfold lsA; rw [mkA_len]
    omega
  obtain ⟨ks, hks⟩ : ∃ ks, lsA (mkA list m) = ks := ⟨_, rfl⟩
  have hksm : ∀ i, i < ks.length → 0 ≤ ix ks i ∧ ix ks i < m := by rw [← hks]; intro i hi; have := lsA_ix hi; rw [mkA_len] at this; exact this
  rw [hks] at hR hemA
  clear hks
  have hksm := Lib.hid hksm; rename_i h_; clear h_
  have hkl := Lib.hid hR.rd.len
  have hkc := hR.rd.cap
  go_wp2_with fail
  go_loopw [21] (fun v wr => ∃ i : Nat, i ≤ k3 ∧ v = .int .i64 (i : Int) ∧ OwU wr gm ne (bgt (emTo ts L ks i)) ∧ RdES wr (some ⟨ge, 0, none⟩) ne ce L ∧ Blk wr w.heap.size 57 #[.slice A n cp, .slice (some ⟨gt, 0, none⟩) m ct] ∧ OwI 3 (gm + 1) wr B3 k3 d3 ks ∧ Bl w wr) (fun v _ => k3 - (intOf v).toNat)
  case atStart => exact ⟨0, by omega, rfl, hU, hes, h4, hR, hbW⟩
  case round =>
    clear hU hes h4 hR hbW
    obtain ⟨i, hi, rfl, hU, hes, h4, hR, hbw⟩ := hrel
    obtain ⟨wj, rfl⟩ : ∃ wj : World, wj = wr := ⟨_, rfl⟩
    have hemS := Lib.hid (emTo_succ ts L ks i)
    by_cases hin : i < k3
    · have hii : (i : Int) < (k3 : Int) := by omega
      obtain ⟨ad, rfl, hlta, hca⟩ := hR.rd.cells i hin
      have hxb := hksm.out i (by rw [hkl.out]; exact hin)
      obtain ⟨x, hx⟩ : ∃ x, ix ks i = x := ⟨_, rfl⟩
      rw [hx] at hca hxb hemS
      obtain ⟨xn, rfl⟩ : ∃ xn : Nat, x = (xn : Int) := ⟨x.toNat, by omega⟩
      rw [Int.toNat_natCast] at hemS
      have hxm : xn < m := by omega
      have hxmi : (xn : Int) < (m : Int) := by omega
      have hEx := (hE.out xn (by rw [hlt.out]; exact hxm)).1
      obtain ⟨y0, y1, y2, y3, y4⟩ := trs_lit (RdTS.bl ht hbw) hxm
      have hgl : gt < wj.heap.size := by obtain ⟨ad2, e2, hlt2, _⟩ := (RdTS.bl ht hbw).cells xn hxm; injection e2 with e2; rw [← e2] at hlt2; exact hlt2
      obtain ⟨t, ht_⟩ : ∃ t, pix ts xn = t := ⟨_, rfl⟩
      rw [ht_] at y1 y2 hEx hemS
      obtain ⟨P, hPe⟩ : ∃ P, posE (newE t.b t.c) L = P := ⟨_, rfl⟩
      have hPn : P < ne := by rw [← hPe, ← hne.out]; exact fndE_lt hEx
      have hPi : (P : Int) < (ne : Int) := by omega
      rw [hPe] at hemS
      have hPe := Lib.hid hPe; rename_i h_; clear h_
      have hfe := Lib.hid hEx
      clear hEx ht_ hx y0 y3 y4
      go_upto_region 6 with (fail)
      have hHeld : (fun w' => (w'.cell? ⟨w.heap.size, 0, none⟩ = some (.slice A n cp) ∧ w'.cell? ⟨w.heap.size, 1, none⟩ = some (.slice (some ⟨gt, 0, none⟩) m ct)) ∧ w'.cell? ⟨gt, xn * 5 + 1, none⟩ = some (.int .i64 t.b) ∧ w'.cell? ⟨gt, xn * 5 + 2, none⟩ = some (.int .i64 t.c)) (wj.drew) := ⟨bx2 (T := 57) (h4.bl slc), (Bl.cellOf (w := wj) (p := ⟨gt, xn * 5 + 1, none⟩) slc hgl).trans y1, (Bl.cellOf (w := wj) (p := ⟨gt, xn * 5 + 2, none⟩) slc hgl).trans y2⟩
      refine wp_region_T 16 17 (fun w' => (w'.cell? ⟨w.heap.size, 0, none⟩ = some (.slice A n cp) ∧ w'.cell? ⟨w.heap.size, 1, none⟩ = some (.slice (some ⟨gt, 0, none⟩) m ct)) ∧ w'.cell? ⟨gt, xn * 5 + 1, none⟩ = some (.int .i64 t.b) ∧ w'.cell? ⟨gt, xn * 5 + 2, none⟩ = some (.int .i64 t.c)) rfl (by kernel_rfl) hHeld ?_
      refine wpAnyT_take (i := 0) (oi := _) (v := ?_) (fuel := 16) rfl (by kernel_rfl) (by kernel_rfl) (by kernel_rfl) (by kernel_rfl) (fun _ _ _ h => h) (by rfl) ?_ hHeld ?_
      rotate_left 1
      · (intro w' hSw; (try dsimp only at hSw); go_simp <;> with_reducible rfl)
      refine wpAnyT_take (i := 1) (oi := _) (v := ?_) (fuel := 15) rfl (by kernel_rfl) (by kernel_rfl) (by kernel_rfl) (by kernel_rfl) (fun _ _ _ h => h) (by rfl) ?_ hHeld ?_
      rotate_left 1
      · (intro w' hSw; (try dsimp only at hSw); go_simp <;> with_reducible rfl)
      refine wpAnyT_take (i := 2) (oi := _) (v := ?_) (fuel := 14) rfl (by kernel_rfl) (by kernel_rfl) (by kernel_rfl) (by kernel_rfl) (fun _ _ _ h => h) (by rfl) ?_ hHeld ?_
      rotate_left 1
      · (intro w' hSw; (try dsimp only at hSw); go_simp <;> with_reducible rfl)
      refine wpAnyT_take (i := 3) (oi := _) (v := ?_) (fuel := 13) rfl (by kernel_rfl) (by kernel_rfl) (by kernel_rfl) (by kernel_rfl) (fun _ _ _ h => h) (by rfl) ?_ hHeld ?_
      rotate_left 1
      · (intro w' hSw; (try dsimp only at hSw); go_simp <;> with_reducible rfl)
      refine wpAnyT_take (i := 4) (oi := _) (v := ?_) (fuel := 12) rfl (by kernel_rfl) (by kernel_rfl) (by kernel_rfl) (by kernel_rfl) (fun _ _ _ h => h) (by rfl) ?_ hHeld ?_
      rotate_left 1
      · (intro w' hSw; (try dsimp only at hSw); go_simp <;> with_reducible rfl)
      refine wpAnyT_take (i := 5) (oi := _) (v := ?_) (fuel := 11) rfl (by kernel_rfl) (by kernel_rfl) (by kernel_rfl) (by kernel_rfl) (fun _ _ _ h => h) (by rfl) ?_ hHeld ?_
      rotate_left 1
      · (intro w' hSw; (try dsimp only at hSw); go_simp <;> with_reducible rfl)
      refine wpAnyT_take (i := 6) (oi := _) (v := ?_) (fuel := 10) rfl (by kernel_rfl) (by kernel_rfl) (by kernel_rfl) (by kernel_rfl) (fun _ _ _ h => h) (by rfl) ?_ hHeld ?_
      rotate_left 1
      · (intro w' hSw; (try dsimp only at hSw); go_simp <;> with_reducible rfl)
      refine wpAnyT_take (i := 7) (oi := _) (v := ?_) (fuel := 9) rfl (by kernel_rfl) (by kernel_rfl) (by kernel_rfl) (by kernel_rfl) (fun _ _ _ h => h) (by rfl) ?_ hHeld ?_
      rotate_left 1
      · (intro w' hSw; (try dsimp only at hSw); go_simp <;> with_reducible rfl)
      refine wpAnyT_take (i := 8) (oi := _) (v := ?_) (fuel := 8) rfl (by kernel_rfl) (by kernel_rfl) (by kernel_rfl) (by kernel_rfl) (fun _ _ _ h => h) (by rfl) ?_ hHeld ?_
      rotate_left 1
      · (intro w' hSw; (try dsimp only at hSw); go_simp <;> with_reducible rfl)
      refine wpAnyT_take (i := 9) (oi := _) (v := ?_) (fuel := 7) rfl (by kernel_rfl) (by kernel_rfl) (by kernel_rfl) (by kernel_rfl) (fun _ _ _ h => h) (by rfl) ?_ hHeld ?_
      rotate_left 1
      · (intro w' hSw; (try dsimp only at hSw); go_simp <;> with_reducible rfl)
      refine wpAnyT_take (i := 10) (oi := _) (v := ?_) (fuel := 6) rfl (by kernel_rfl) (by kernel_rfl) (by kernel_rfl) (by kernel_rfl) (fun _ _ _ h => h) (by rfl) ?_ hHeld ?_
      rotate_left 1
      · (intro w' hSw; (try dsimp only at hSw); go_simp <;> with_reducible rfl)
      refine wpAnyT_take (i := 11) (oi := _) (v := ?_) (fuel := 5) rfl (by kernel_rfl) (by kernel_rfl) (by kernel_rfl) (by kernel_rfl) (fun _ _ _ h => h) (by rfl) ?_ hHeld ?_
      rotate_left 1
      · (intro w' hSw; (try dsimp only at hSw); go_simp <;> with_reducible rfl)
      refine wpAnyT_take (i := 12) (oi := _) (v := ?_) (fuel := 4) rfl (by kernel_rfl) (by kernel_rfl) (by kernel_rfl) (by kernel_rfl) (fun _ _ _ h => h) (by rfl) ?_ hHeld ?_
      rotate_left 1
      · (intro w' hSw; (try dsimp only at hSw); go_simp <;> with_reducible rfl)
      refine wpAnyT_take (i := 13) (oi := _) (v := ?_) (fuel := 3) rfl (by kernel_rfl) (by kernel_rfl) (by kernel_rfl) (by kernel_rfl) (fun _ _ _ h => h) (by rfl) ?_ hHeld ?_
      rotate_left 1
      · (intro w' hSw; (try dsimp only at hSw); go_simp <;> with_reducible rfl)
      clear hHeld
      simp only [Act.put, List.setIfInBounds_toArray]
      refine wpAnyT_step (i := 14) (o := _) (fuel := 2) rfl (by kernel_rfl) (fun K hK => ?_)
      go_simp
      refine (edgeIndex_yes _ (hes.bl slc) hsrt.out hnl t.b t.c hfe.out).mono ?_
      rw [hPe.out]
      rintro e w5 ⟨rfl, hb5⟩
      have hb5 : Bl wj w5 := slc
      have hU5 := hU.bl hb5
      have ux := hU5.cell hPn
      have uf := hU5.frozen P
      refine hK.out _ _ (fun _ => ⟨bx2 (T := 57) (h4.bl slc), (Bl.cellOf (w := wj) (p := ⟨gt, xn * 5 + 1, none⟩) slc hgl).trans y1, (Bl.cellOf (w := wj) (p := ⟨gt, xn * 5 + 2, none⟩) slc hgl).trans y2⟩) ?_
      clear hK K
      try simp only [Act.put, List.setIfInBounds_toArray, List.set_cons_zero, List.set_cons_succ]
      refine wpAnyT_step (i := 15) (o := _) (fuel := 1) rfl (by kernel_rfl) (fun K hK => ?_)
      go_simp
      refine hK.out _ _ (fun _ => ⟨bx2 (T := 57) (h4.bl slc), (Bl.cellOf (w := wj) (p := ⟨gt, xn * 5 + 1, none⟩) slc hgl).trans y1, (Bl.cellOf (w := wj) (p := ⟨gt, xn * 5 + 2, none⟩) slc hgl).trans y2⟩) ?_
      clear hK K
      try simp only [Act.put, List.setIfInBounds_toArray, List.set_cons_zero, List.set_cons_succ]
      refine wpAnyT_step (i := 16) (o := _) (fuel := 0) rfl (by kernel_rfl) (fun K hK => ?_)
      go_simp
      refine hK.out _ _ (fun h => absurd rfl h) ?_
      clear hK K
      try simp only [Act.put, List.setIfInBounds_toArray]
      refine wpAnyT_done (by kernel_rfl) ?_
      go_wp2_with fail
      go_roundw
      case rel => exact ⟨i + 1, by omega, by go_num, (hU5.set P true).congr (fun j hj => by rw [hemS.out]; exact bgt_set (by rw [emTo_len, hne.out]) true j hj), (hes.bl hb5).setLit (show ge ≠ gm by have := hgeg (by omega); omega) _, (h4.bl hb5).far (show w.heap.size ≠ gm by omega) _, (hR.bl hb5).far (show gm < gm + 1 by omega) _, Bl.set (hbw.next hb5) (by show w.heap.size ≤ gm; omega) _⟩
      case measure => simp [intOf]; omega
    · obtain rfl : i = k3 := by omega
      have hkm2 : ¬ (i : Int) < (i : Int) := by omega
      go_wp2_with fail
      refine (listed_any _ hU (by rw [emTo_len, hne.out]) hnl).mono ?_
      rintro e w6 ⟨B6, k6, d6, rfl, hR6, hb6⟩
      go_wp2_with fail
      go_ret
      exact ⟨B6, k6, d6, rfl, by rw [hemA.out, hkl.out]; exact hR6.mono hbw.size, hbw.next hb6⟩
end

end Go.Proofs.YtajlahjghapbkaaGreat
