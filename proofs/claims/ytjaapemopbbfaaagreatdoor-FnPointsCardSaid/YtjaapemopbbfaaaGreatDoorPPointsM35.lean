/- Lemmas. -/
import Derived.Test.YtjaapemopbbfaaaGreatDoorRows
import Derived.Test.YtjaapemopbbfaaaGreatDoorPPointsM34
namespace Go.Proofs.YtjaapemopbbfaaaGreatDoor
section
open Go.RowKit

/-- What the program's ParseRat returns. -/
def RatRes (w : World) (s : ByteArray) (e : Ending) (w' : World) : Prop :=
  ((OkT (bl s) ∧ ∃ t A n c B m d, e = .returned (.tuple #[.agg #[.bool t, .slice A n c, .slice B m d], .bool true]) ∧ OwR 3 w.heap.size w' t A n c B m d (qv (bl s))) ∨ (¬ OkT (bl s) ∧ e = .returned (.tuple #[.agg #[.bool false, .slice none 0 0, .slice none 0 0], .bool false]))) ∧ Bl w w'
theorem good_lenI {l : List UInt8} (h : goodI l = true) : (dig (vI l).natAbs).length ≤ 60 := by
  rw [vI_abs]
  unfold goodI at h
  simp only [Bool.and_eq_true] at h
  exact good_len60 h.1

set_option maxHeartbeats 12800000 in
set_option maxRecDepth 100000 in
theorem ParseRat_any (w : World) (s : ByteArray) (hs : s.size ≤ 1048576) (hE : Env w) :
    Calls Tryz.prog 38 #[.string s] w (RatRes w s) := by
  obtain ⟨mx, hmx⟩ := hE.2
  have hmx := Lib.hid hmx; rename_i hmx_; clear hmx_
  have hE := Lib.hid hE; rename_i hE_; clear hE_
  have hcut0 := cut_one 47 (bl s)
  have hnum := Nat.le_trans (cutA_bl s 47) hs
  have hsz := bl_len s
  by_cases h47 : 47 ∈ bl s
  · rw [if_pos h47] at hcut0
    have hcut : Lib.cut s.data.toList (sb [47]).data.toList = (cutA 47 (bl s), cutB 47 (bl s), true) := hcut0
    have hden : (sb (cutB 47 (bl s))).size ≤ 1048576 := by rw [sb_size]; have := cutB_le 47 (bl s); omega
    have hdenT : Hid (denT (bl s) = cutB 47 (bl s)) := Lib.hid (by unfold denT; rw [if_pos h47])
    clear hcut0 h47 hsz
    go_enter Tryz.func38, Tryz.ntmps38
    go_upto_region 1 with (fail)
    refine wp_gen (fun W => Bl w W ∧ ∃ r, Wk 3 26 r W ∧ r = w.heap.size) ⟨slc, _, by exact bts, rfl⟩ ?_
    rintro W0 ⟨hbW, r, hr, hre⟩
    rw [← hre]
    have hrw : w.heap.size ≤ r := by omega
    clear hre
    go_wp2_with (first
      | (go_at_call 37; refine (Tryz.strings_Cut s (sb [47]) mx _ (by omega) ((Bl.cellOf hbW (cell_lt hmx.out)).trans hmx.out)).mono ?_; rw [hcut]; rintro e w1 ⟨rfl, q1, rfl⟩)
      | (go_at_call 82; refine (ParseBigInt_any _ (sb (cutA 47 (bl s))) hnum (hE.out.bl (by exact slc))).mono ?_))
    rintro e w2 ⟨(⟨hgI, A, n, c, rfl, hO⟩ | ⟨hgI, rfl⟩), hb2⟩
    · have hbr0 : W0.heap.size ≤ W0.heap.size := Nat.le_refl _
      go_upto_region 5 with (fail)
      refine wp_gen (fun W => Bl w2 W ∧ ∃ g, Blk W g 24 #[.bool (decide (vI (bl (sb (cutA 47 (bl s)))) < 0)), .slice A n c] ∧ g = w2.heap.size) ⟨slc, _, by exact bts, rfl⟩ ?_
      rintro W2 ⟨hb3, g, hgx, hge⟩
      rw [← hge]
      have hgw : w2.heap.size ≤ g := by omega
      clear hge
      have hbw2 : Bl w W2 := (hbW.next (show Bl W0 w2 from slc)).next hb3
      have hbr2 : Bl W0 W2 := (show Bl W0 w2 from slc).next hb3
      go_wp2_with (go_at_call 83; refine (ParseNat_any _ (sb (cutB 47 (bl s))) hden (hE.out.bl hbw2)).mono ?_)
      rintro e w4 ⟨(⟨hgN, B, m, d, rfl, hP⟩ | ⟨hgN, rfl⟩), hb4⟩
      · have hl1 := good_lenI hgI
        have hl2 := good_len60 hgN
        have hneg : decide (vI (bl (sb (cutA 47 (bl s)))) < 0) = decide (vI (cutA 47 (bl s)) < 0) := rfl
        obtain ⟨x, hx⟩ : ∃ x, vI (bl (sb (cutA 47 (bl s)))) = x := ⟨_, rfl⟩
        obtain ⟨D, hD⟩ : ∃ D, vD (bl (sb (cutB 47 (bl s)))) = D := ⟨_, rfl⟩
        rw [hx] at hO hl1 hgx ⊢
        rw [hD] at hP hl2
        have hxv : vI (cutA 47 (bl s)) = x := hx
        have hDv : vD (denT (bl s)) = D := by rw [← hD]; exact congrArg vD hdenT.out
        have hqv : Hid (qv (bl s) = raw x D) := Lib.hid (by unfold qv; rw [hxv, hDv])
        have hOk : Hid (rtx x D = bl s ↔ OkT (bl s)) := Lib.hid ⟨fun h => OkT.of hgI h, fun h => by have := h.parts.2.2.2.2; rw [hxv, hDv] at this; exact this⟩
        have hcmp : ((sb (rtx x D)).toList == s.toList) = decide (rtx x D = bl s) := by
          rw [sb_toList, bl_toList, Bool.eq_iff_iff, beq_iff_eq, decide_eq_true_eq]
        clear hgI hgN hx hD hxv hDv hneg
        obtain ⟨y0, y1⟩ := bx2 (hgx.bl hb4)
        go_upto_region 7 with (fail)
        refine wp_gen (fun W => Bl w4 W ∧ ∃ g', Blk W g' 26 #[.bool (decide (x < 0)), .slice A n c, .slice B m d] ∧ g' = w4.heap.size) ⟨slc, _, by exact bts, rfl⟩ ?_
        rintro W4 ⟨hb5, g', hgy, hge⟩
        rw [← hge]
        have hgw' : w4.heap.size ≤ g' := by omega
        clear hge
        have hO4 := (hO.bl hb3).bl (hb4.next hb5)
        have hP4 := hP.bl hb5
        have hRd : IsR W4 (decide (x < 0)) A n c B m d x D := ⟨rfl, hO4.rd, hP4.rd⟩
        have hn60 : n ≤ 60 := by have := hO.rd.lenN; omega
        have hm60 : m ≤ 60 := by have := hP.rd.lenN; omega
        have hbw4 := hbw2.next (hb4.next hb5)
        have hOwR : OwR 3 W0.heap.size W4 (decide (x < 0)) A n c B m d (raw x D) := OwR.two ((hO.bl hb3).mono (by have h := hbr0; exact h)) hP hb4 hbr2.size |>.bl hb5
        obtain ⟨z0, z1, z2⟩ := bx3 hgy
        by_cases heq : rtx x D = bl s
        · rw [decide_eq_true heq] at hcmp
          have hOkT := Lib.hid (hOk.out.1 heq)
          clear heq hOk
          go_wp2_with (go_at_call 45; refine (FormatRat_any _ hRd hn60 hm60 (hE.out.bl hbw4)).mono ?_; rintro e w5 ⟨rfl, hb6⟩; have hgy5 := hgy.bl hb6; obtain ⟨u0, u1, u2⟩ := bx3 hgy5; have hr2 := hr.bl (hbr2.next ((hb4.next hb5).next hb6)); obtain ⟨v0, x0⟩ := hr2.val_ (i := 0) (by omega); obtain ⟨v1, x1⟩ := hr2.val_ (i := 1) (by omega); obtain ⟨v2, x2⟩ := hr2.val_ (i := 2) (by omega); have hgr := hr2.lt; have hB := hr2.blk; have hf0 := hB.frozen 0; have hf1 := hB.frozen 1; have hf2 := hB.frozen 2; have hOR := hOwR.bl hb6; have hbw5 := hbw4.next hb6; have hrg : r ≠ g' := by { have h1 := hr.lt; have h2 := hbr2.size; have h3 := hb4.size; omega })
          refine bodyPost_ret (v := .tuple #[.agg #[.bool (decide (x < 0)), .slice A n c, .slice B m d], .bool true]) (by simp [results, Tryz.results38, go_sem, x0, x1, x2]) rfl ⟨.inl ⟨hOkT.out, _, _, _, _, _, _, _, rfl, by rw [hqv.out]; exact (((hOR.far (p := ⟨r, 0, none⟩) (show r < W0.heap.size from hr.lt) _).far (p := ⟨r, 1, none⟩) (show r < W0.heap.size from hr.lt) _).far (p := ⟨r, 2, none⟩) (show r < W0.heap.size from hr.lt) _).mono hbW.size⟩, slc⟩
        · rw [decide_eq_false heq] at hcmp
          have hno := Lib.hid (fun h => heq (hOk.out.2 h))
          clear heq hOk
          go_wp2_with (go_at_call 45; refine (FormatRat_any _ hRd hn60 hm60 (hE.out.bl hbw4)).mono ?_; rintro e w5 ⟨rfl, hb6⟩; have hr2 := hr.bl (hbr2.next ((hb4.next hb5).next hb6)); obtain ⟨v0, x0⟩ := hr2.val_ (i := 0) (by omega); obtain ⟨v1, x1⟩ := hr2.val_ (i := 1) (by omega); obtain ⟨v2, x2⟩ := hr2.val_ (i := 2) (by omega); have hgr := hr2.lt; have hB := hr2.blk; have hf0 := hB.frozen 0; have hf1 := hB.frozen 1; have hf2 := hB.frozen 2; have hbw5 := hbw4.next hb6)
          refine bodyPost_ret (v := .tuple #[.agg #[.bool false, .slice none 0 0, .slice none 0 0], .bool false]) (by simp [results, Tryz.results38, go_sem, x0, x1, x2]) rfl ⟨.inr ⟨hno.out, rfl⟩, slc⟩
      · have hno : Hid (¬ OkT (bl s)) := Lib.hid (fun h => by have h1 := h.parts.2.1; rw [hdenT.out] at h1; rw [show cutB 47 (bl s) = bl (sb (cutB 47 (bl s))) from rfl, hgN] at h1; cases h1)
        obtain ⟨y0, y1⟩ := bx2 (hgx.bl hb4)
        go_upto_region 7 with (fail)
        refine wp_gen (fun W => Bl w4 W) slc ?_
        rintro W4 hb5
        have hbw4 := hbw2.next (hb4.next hb5)
        have hr2 := hr.bl (hbr2.next (hb4.next hb5))
        obtain ⟨v0, x0⟩ := hr2.val_ (i := 0) (by omega)
        obtain ⟨v1, x1⟩ := hr2.val_ (i := 1) (by omega)
        obtain ⟨v2, x2⟩ := hr2.val_ (i := 2) (by omega)
        have hgr := hr2.lt
        have hB := hr2.blk
        have hf0 := hB.frozen 0
        have hf1 := hB.frozen 1
        have hf2 := hB.frozen 2
        go_wp2_with fail
        refine bodyPost_ret (v := .tuple #[.agg #[.bool false, .slice none 0 0, .slice none 0 0], .bool false]) (by simp [results, Tryz.results38, go_sem, x0, x1, x2]) rfl ⟨.inr ⟨hno.out, rfl⟩, slc⟩
    · go_upto_region 5 with (fail)
      refine wp_gen (fun W => Bl w2 W ∧ ∃ g, Blk W g 24 #[.bool false, .slice none 0 0] ∧ g = w2.heap.size) ⟨slc, _, by exact bts, rfl⟩ ?_
      rintro W2 ⟨hb3, g, hgx, hge⟩
      rw [← hge]
      have hgw : w2.heap.size ≤ g := by omega
      clear hge
      have hbw2 : Bl w W2 := (hbW.next (show Bl W0 w2 from slc)).next hb3
      have hbr2 : Bl W0 W2 := (show Bl W0 w2 from slc).next hb3
      go_wp2_with (go_at_call 83; refine (ParseNat_any _ (sb (cutB 47 (bl s))) hden (hE.out.bl hbw2)).mono ?_)
      rintro e w4 ⟨(⟨hgN, B, m, d, rfl, hP⟩ | ⟨hgN, rfl⟩), hb4⟩
      · have hno : Hid (¬ OkT (bl s)) := Lib.hid (fun h => by have h1 := h.parts.1; rw [show cutA 47 (bl s) = bl (sb (cutA 47 (bl s))) from rfl, hgI] at h1; cases h1)
        obtain ⟨y0, y1⟩ := bx2 (hgx.bl hb4)
        go_upto_region 7 with (fail)
        refine wp_gen (fun W => Bl w4 W) slc ?_
        rintro W4 hb5
        have hbw4 := hbw2.next (hb4.next hb5)
        have hr2 := hr.bl (hbr2.next (hb4.next hb5))
        obtain ⟨v0, x0⟩ := hr2.val_ (i := 0) (by omega)
        obtain ⟨v1, x1⟩ := hr2.val_ (i := 1) (by omega)
        obtain ⟨v2, x2⟩ := hr2.val_ (i := 2) (by omega)
        have hgr := hr2.lt
        have hB := hr2.blk
        have hf0 := hB.frozen 0
        have hf1 := hB.frozen 1
        have hf2 := hB.frozen 2
        go_wp2_with fail
        refine bodyPost_ret (v := .tuple #[.agg #[.bool false, .slice none 0 0, .slice none 0 0], .bool false]) (by simp [results, Tryz.results38, go_sem, x0, x1, x2]) rfl ⟨.inr ⟨hno.out, rfl⟩, slc⟩
      · have hno : Hid (¬ OkT (bl s)) := Lib.hid (fun h => by have h1 := h.parts.1; rw [show cutA 47 (bl s) = bl (sb (cutA 47 (bl s))) from rfl, hgI] at h1; cases h1)
        obtain ⟨y0, y1⟩ := bx2 (hgx.bl hb4)
        go_upto_region 7 with (fail)
        refine wp_gen (fun W => Bl w4 W) slc ?_
        rintro W4 hb5
        have hbw4 := hbw2.next (hb4.next hb5)
        have hr2 := hr.bl (hbr2.next (hb4.next hb5))
        obtain ⟨v0, x0⟩ := hr2.val_ (i := 0) (by omega)
        obtain ⟨v1, x1⟩ := hr2.val_ (i := 1) (by omega)
        obtain ⟨v2, x2⟩ := hr2.val_ (i := 2) (by omega)
        have hgr := hr2.lt
        have hB := hr2.blk
        have hf0 := hB.frozen 0
        have hf1 := hB.frozen 1
        have hf2 := hB.frozen 2
        go_wp2_with fail
        refine bodyPost_ret (v := .tuple #[.agg #[.bool false, .slice none 0 0, .slice none 0 0], .bool false]) (by simp [results, Tryz.results38, go_sem, x0, x1, x2]) rfl ⟨.inr ⟨hno.out, rfl⟩, slc⟩
  · rw [if_neg h47] at hcut0
    have hcut : Lib.cut s.data.toList (sb [47]).data.toList = (cutA 47 (bl s), [], false) := by rw [cutA_id h47]; exact hcut0
    have hden : (sb [49]).size ≤ 1048576 := by rw [sb_size]; decide
    have hdenT : Hid (denT (bl s) = [49]) := Lib.hid (by unfold denT; rw [if_neg h47])
    clear hcut0 h47 hsz
    go_enter Tryz.func38, Tryz.ntmps38
    go_upto_region 1 with (fail)
    refine wp_gen (fun W => Bl w W ∧ ∃ r, Wk 3 26 r W ∧ r = w.heap.size) ⟨slc, _, by exact bts, rfl⟩ ?_
    rintro W0 ⟨hbW, r, hr, hre⟩
    rw [← hre]
    have hrw : w.heap.size ≤ r := by omega
    clear hre
    go_wp2_with (first
      | (go_at_call 37; refine (Tryz.strings_Cut s (sb [47]) mx _ (by omega) ((Bl.cellOf hbW (cell_lt hmx.out)).trans hmx.out)).mono ?_; rw [hcut]; rintro e w1 ⟨rfl, q1, rfl⟩)
      | (go_at_call 82; refine (ParseBigInt_any _ (sb (cutA 47 (bl s))) hnum (hE.out.bl (by exact slc))).mono ?_))
    rintro e w2 ⟨(⟨hgI, A, n, c, rfl, hO⟩ | ⟨hgI, rfl⟩), hb2⟩
    · have hbr0 : W0.heap.size ≤ W0.heap.size := Nat.le_refl _
      go_upto_region 5 with (fail)
      refine wp_gen (fun W => Bl w2 W ∧ ∃ g, Blk W g 24 #[.bool (decide (vI (bl (sb (cutA 47 (bl s)))) < 0)), .slice A n c] ∧ g = w2.heap.size) ⟨slc, _, by exact bts, rfl⟩ ?_
      rintro W2 ⟨hb3, g, hgx, hge⟩
      rw [← hge]
      have hgw : w2.heap.size ≤ g := by omega
      clear hge
      have hbw2 : Bl w W2 := (hbW.next (show Bl W0 w2 from slc)).next hb3
      have hbr2 : Bl W0 W2 := (show Bl W0 w2 from slc).next hb3
      go_wp2_with (go_at_call 83; refine (ParseNat_any _ (sb ([49])) hden (hE.out.bl hbw2)).mono ?_)
      rintro e w4 ⟨(⟨hgN, B, m, d, rfl, hP⟩ | ⟨hgN, rfl⟩), hb4⟩
      · have hl1 := good_lenI hgI
        have hl2 := good_len60 hgN
        have hneg : decide (vI (bl (sb (cutA 47 (bl s)))) < 0) = decide (vI (cutA 47 (bl s)) < 0) := rfl
        obtain ⟨x, hx⟩ : ∃ x, vI (bl (sb (cutA 47 (bl s)))) = x := ⟨_, rfl⟩
        obtain ⟨D, hD⟩ : ∃ D, vD (bl (sb ([49]))) = D := ⟨_, rfl⟩
        rw [hx] at hO hl1 hgx ⊢
        rw [hD] at hP hl2
        have hxv : vI (cutA 47 (bl s)) = x := hx
        have hDv : vD (denT (bl s)) = D := by rw [← hD]; exact congrArg vD hdenT.out
        have hqv : Hid (qv (bl s) = raw x D) := Lib.hid (by unfold qv; rw [hxv, hDv])
        have hOk : Hid (rtx x D = bl s ↔ OkT (bl s)) := Lib.hid ⟨fun h => OkT.of hgI h, fun h => by have := h.parts.2.2.2.2; rw [hxv, hDv] at this; exact this⟩
        have hcmp : ((sb (rtx x D)).toList == s.toList) = decide (rtx x D = bl s) := by
          rw [sb_toList, bl_toList, Bool.eq_iff_iff, beq_iff_eq, decide_eq_true_eq]
        clear hgI hgN hx hD hxv hDv hneg
        obtain ⟨y0, y1⟩ := bx2 (hgx.bl hb4)
        go_upto_region 7 with (fail)
        refine wp_gen (fun W => Bl w4 W ∧ ∃ g', Blk W g' 26 #[.bool (decide (x < 0)), .slice A n c, .slice B m d] ∧ g' = w4.heap.size) ⟨slc, _, by exact bts, rfl⟩ ?_
        rintro W4 ⟨hb5, g', hgy, hge⟩
        rw [← hge]
        have hgw' : w4.heap.size ≤ g' := by omega
        clear hge
        have hO4 := (hO.bl hb3).bl (hb4.next hb5)
        have hP4 := hP.bl hb5
        have hRd : IsR W4 (decide (x < 0)) A n c B m d x D := ⟨rfl, hO4.rd, hP4.rd⟩
        have hn60 : n ≤ 60 := by have := hO.rd.lenN; omega
        have hm60 : m ≤ 60 := by have := hP.rd.lenN; omega
        have hbw4 := hbw2.next (hb4.next hb5)
        have hOwR : OwR 3 W0.heap.size W4 (decide (x < 0)) A n c B m d (raw x D) := OwR.two ((hO.bl hb3).mono (by have h := hbr0; exact h)) hP hb4 hbr2.size |>.bl hb5
        obtain ⟨z0, z1, z2⟩ := bx3 hgy
        by_cases heq : rtx x D = bl s
        · rw [decide_eq_true heq] at hcmp
          have hOkT := Lib.hid (hOk.out.1 heq)
          clear heq hOk
          go_wp2_with (go_at_call 45; refine (FormatRat_any _ hRd hn60 hm60 (hE.out.bl hbw4)).mono ?_; rintro e w5 ⟨rfl, hb6⟩; have hgy5 := hgy.bl hb6; obtain ⟨u0, u1, u2⟩ := bx3 hgy5; have hr2 := hr.bl (hbr2.next ((hb4.next hb5).next hb6)); obtain ⟨v0, x0⟩ := hr2.val_ (i := 0) (by omega); obtain ⟨v1, x1⟩ := hr2.val_ (i := 1) (by omega); obtain ⟨v2, x2⟩ := hr2.val_ (i := 2) (by omega); have hgr := hr2.lt; have hB := hr2.blk; have hf0 := hB.frozen 0; have hf1 := hB.frozen 1; have hf2 := hB.frozen 2; have hOR := hOwR.bl hb6; have hbw5 := hbw4.next hb6; have hrg : r ≠ g' := by { have h1 := hr.lt; have h2 := hbr2.size; have h3 := hb4.size; omega })
          refine bodyPost_ret (v := .tuple #[.agg #[.bool (decide (x < 0)), .slice A n c, .slice B m d], .bool true]) (by simp [results, Tryz.results38, go_sem, x0, x1, x2]) rfl ⟨.inl ⟨hOkT.out, _, _, _, _, _, _, _, rfl, by rw [hqv.out]; exact (((hOR.far (p := ⟨r, 0, none⟩) (show r < W0.heap.size from hr.lt) _).far (p := ⟨r, 1, none⟩) (show r < W0.heap.size from hr.lt) _).far (p := ⟨r, 2, none⟩) (show r < W0.heap.size from hr.lt) _).mono hbW.size⟩, slc⟩
        · rw [decide_eq_false heq] at hcmp
          have hno := Lib.hid (fun h => heq (hOk.out.2 h))
          clear heq hOk
          go_wp2_with (go_at_call 45; refine (FormatRat_any _ hRd hn60 hm60 (hE.out.bl hbw4)).mono ?_; rintro e w5 ⟨rfl, hb6⟩; have hr2 := hr.bl (hbr2.next ((hb4.next hb5).next hb6)); obtain ⟨v0, x0⟩ := hr2.val_ (i := 0) (by omega); obtain ⟨v1, x1⟩ := hr2.val_ (i := 1) (by omega); obtain ⟨v2, x2⟩ := hr2.val_ (i := 2) (by omega); have hgr := hr2.lt; have hB := hr2.blk; have hf0 := hB.frozen 0; have hf1 := hB.frozen 1; have hf2 := hB.frozen 2; have hbw5 := hbw4.next hb6)
          refine bodyPost_ret (v := .tuple #[.agg #[.bool false, .slice none 0 0, .slice none 0 0], .bool false]) (by simp [results, Tryz.results38, go_sem, x0, x1, x2]) rfl ⟨.inr ⟨hno.out, rfl⟩, slc⟩
      · have hno : Hid (¬ OkT (bl s)) := Lib.hid (fun h => by have h1 := h.parts.2.1; rw [hdenT.out] at h1; rw [show [49] = bl (sb ([49])) from rfl, hgN] at h1; cases h1)
        obtain ⟨y0, y1⟩ := bx2 (hgx.bl hb4)
        go_upto_region 7 with (fail)
        refine wp_gen (fun W => Bl w4 W) slc ?_
        rintro W4 hb5
        have hbw4 := hbw2.next (hb4.next hb5)
        have hr2 := hr.bl (hbr2.next (hb4.next hb5))
        obtain ⟨v0, x0⟩ := hr2.val_ (i := 0) (by omega)
        obtain ⟨v1, x1⟩ := hr2.val_ (i := 1) (by omega)
        obtain ⟨v2, x2⟩ := hr2.val_ (i := 2) (by omega)
        have hgr := hr2.lt
        have hB := hr2.blk
        have hf0 := hB.frozen 0
        have hf1 := hB.frozen 1
        have hf2 := hB.frozen 2
        go_wp2_with fail
        refine bodyPost_ret (v := .tuple #[.agg #[.bool false, .slice none 0 0, .slice none 0 0], .bool false]) (by simp [results, Tryz.results38, go_sem, x0, x1, x2]) rfl ⟨.inr ⟨hno.out, rfl⟩, slc⟩
    · go_upto_region 5 with (fail)
      refine wp_gen (fun W => Bl w2 W ∧ ∃ g, Blk W g 24 #[.bool false, .slice none 0 0] ∧ g = w2.heap.size) ⟨slc, _, by exact bts, rfl⟩ ?_
      rintro W2 ⟨hb3, g, hgx, hge⟩
      rw [← hge]
      have hgw : w2.heap.size ≤ g := by omega
      clear hge
      have hbw2 : Bl w W2 := (hbW.next (show Bl W0 w2 from slc)).next hb3
      have hbr2 : Bl W0 W2 := (show Bl W0 w2 from slc).next hb3
      go_wp2_with (go_at_call 83; refine (ParseNat_any _ (sb ([49])) hden (hE.out.bl hbw2)).mono ?_)
      rintro e w4 ⟨(⟨hgN, B, m, d, rfl, hP⟩ | ⟨hgN, rfl⟩), hb4⟩
      · have hno : Hid (¬ OkT (bl s)) := Lib.hid (fun h => by have h1 := h.parts.1; rw [show cutA 47 (bl s) = bl (sb (cutA 47 (bl s))) from rfl, hgI] at h1; cases h1)
        obtain ⟨y0, y1⟩ := bx2 (hgx.bl hb4)
        go_upto_region 7 with (fail)
        refine wp_gen (fun W => Bl w4 W) slc ?_
        rintro W4 hb5
        have hbw4 := hbw2.next (hb4.next hb5)
        have hr2 := hr.bl (hbr2.next (hb4.next hb5))
        obtain ⟨v0, x0⟩ := hr2.val_ (i := 0) (by omega)
        obtain ⟨v1, x1⟩ := hr2.val_ (i := 1) (by omega)
        obtain ⟨v2, x2⟩ := hr2.val_ (i := 2) (by omega)
        have hgr := hr2.lt
        have hB := hr2.blk
        have hf0 := hB.frozen 0
        have hf1 := hB.frozen 1
        have hf2 := hB.frozen 2
        go_wp2_with fail
        refine bodyPost_ret (v := .tuple #[.agg #[.bool false, .slice none 0 0, .slice none 0 0], .bool false]) (by simp [results, Tryz.results38, go_sem, x0, x1, x2]) rfl ⟨.inr ⟨hno.out, rfl⟩, slc⟩
      · have hno : Hid (¬ OkT (bl s)) := Lib.hid (fun h => by have h1 := h.parts.1; rw [show cutA 47 (bl s) = bl (sb (cutA 47 (bl s))) from rfl, hgI] at h1; cases h1)
        obtain ⟨y0, y1⟩ := bx2 (hgx.bl hb4)
        go_upto_region 7 with (fail)
        refine wp_gen (fun W => Bl w4 W) slc ?_
        rintro W4 hb5
        have hbw4 := hbw2.next (hb4.next hb5)
        have hr2 := hr.bl (hbr2.next (hb4.next hb5))
        obtain ⟨v0, x0⟩ := hr2.val_ (i := 0) (by omega)
        obtain ⟨v1, x1⟩ := hr2.val_ (i := 1) (by omega)
        obtain ⟨v2, x2⟩ := hr2.val_ (i := 2) (by omega)
        have hgr := hr2.lt
        have hB := hr2.blk
        have hf0 := hB.frozen 0
        have hf1 := hB.frozen 1
        have hf2 := hB.frozen 2
        go_wp2_with fail
        refine bodyPost_ret (v := .tuple #[.agg #[.bool false, .slice none 0 0, .slice none 0 0], .bool false]) (by simp [results, Tryz.results38, go_sem, x0, x1, x2]) rfl ⟨.inr ⟨hno.out, rfl⟩, slc⟩
end

end Go.Proofs.YtjaapemopbbfaaaGreatDoor
