/- Lemmas. -/
import Derived.Test.YtjaapemopbbfaaaGreatDoorRows
import Derived.Test.YtjaapemopbbfaaaGreatDoorPParsePointM31
namespace Go.Proofs.YtjaapemopbbfaaaGreatDoor
section
open Go.RowKit

/-- A fraction in memory made since block b0 (the two slices may share). -/
def OwW (b0 : Nat) (w : World) (t : Bool) (A : Option Addr) (n c : Nat) (B : Option Addr) (m d : Nat) (r : RatD) : Prop := t = r.neg ∧ OwI 3 b0 w A n c r.mag ∧ OwI 3 b0 w B m d r.den
section
variable {b0 b1 : Nat} {w W : World} {t : Bool} {A : Option Addr} {n c : Nat} {B : Option Addr} {m d : Nat} {r : RatD}
theorem OwW.rd (h : OwW b0 w t A n c B m d r) : RdR w t A n c B m d r := ⟨h.1, h.2.1.rd, h.2.2.rd⟩
theorem OwW.bl (h : OwW b0 w t A n c B m d r) (hb : Bl w W) : OwW b0 W t A n c B m d r := ⟨h.1, h.2.1.bl hb, h.2.2.bl hb⟩
theorem OwW.low (h : OwW b1 w t A n c B m d r) (hb : b0 ≤ b1) : OwW b0 w t A n c B m d r := ⟨h.1, h.2.1.mono hb, h.2.2.mono hb⟩
theorem OwW.far (h : OwW b0 w t A n c B m d r) {p : Addr} (hp : p.block < b0) (u : Value) : OwW b0 (w.setCell p u) t A n c B m d r := ⟨h.1, h.2.1.far hp u, h.2.2.far hp u⟩
end
/-- What the reference's ParseRat returns. -/
def RatRd (w : World) (s : ByteArray) (e : Ending) (w' : World) : Prop :=
  ((OkT (bl s) ∧ ∃ t A n c B m d, e = .returned (.tuple #[.agg #[.bool t, .slice A n c, .slice B m d], .bool true]) ∧ OwW w.heap.size w' t A n c B m d (qv (bl s))) ∨ (¬ OkT (bl s) ∧ e = .returned (.tuple #[.agg #[.bool false, .slice none 0 0, .slice none 0 0], .bool false]))) ∧ Bl w w'

theorem addr_zero (a : Addr) : a.add 0 = a := by unfold Addr.add; split <;> simp_all

set_option maxHeartbeats 12800000 in
set_option maxRecDepth 100000 in
theorem sParseRat_any (w : World) (s : ByteArray) (hs : s.size ≤ 1048576) :
    Calls Tryz.prog 36 #[.string s] w (RatRd w s) := by
  have hnum := Nat.le_trans (cutA_bl s 47) hs
  have hsz := bl_len s
  by_cases h47 : 47 ∈ bl s
  · have hden : (sb (cutA 47 (cutB 47 (bl s)))).size ≤ 1048576 := by rw [sb_size]; have := cutB_le 47 (bl s); have := cutA_le 47 (cutB 47 (bl s)); omega
    have hdenT : Hid (denS (bl s) = cutA 47 (cutB 47 (bl s))) := Lib.hid (by unfold denS; rw [if_pos h47])
    clear hsz
    go_enter Tryz.func36, Tryz.ntmps36
    go_upto_region 1 with (fail)
    refine wp_gen (fun W => Bl w W ∧ ∃ r, Wk 3 26 r W ∧ r = w.heap.size) ⟨slc, _, by exact bts, rfl⟩ ?_
    rintro W0 ⟨hbW, r, hr, hre⟩
    rw [← hre]
    have hrw : w.heap.size ≤ r := by omega
    clear hre
    go_wp2_with (go_at_call 35; refine (sSplitAny_any _ s 47 hs).mono ?_)
    rintro e w1 ⟨As, caps, rfl, hSt, hb1⟩
    obtain ⟨ads, rfl, hads, hc0⟩ := hSt.2 0 (by have := List.length_pos_iff.2 (pcs_ne 47 (bl s)); omega)
    rw [pcs_head, addr_zero] at hc0
    obtain ⟨ads', ea, _, hc1⟩ := hSt.2 1 (pcs_len.2 h47)
    cases ea
    rw [pcs_snd h47] at hc1
    have hL := pcs_len.2 h47
    obtain ⟨np, hnp⟩ : ∃ np, (pcs 47 (bl s)).length = np := ⟨_, rfl⟩
    rw [hnp] at hL ⊢
    have hnp0 : (0 : Int) < (np : Int) := by omega
    have hnp1 : (1 : Int) < (np : Int) := by omega
    have hbW1 := hbW.next hb1
    clear hnp hSt
    go_wp2_with (go_at_call 78; refine (sParseBigInt_any _ (sb (cutA 47 (bl s))) hnum).mono ?_)
    rintro e w2 ⟨(⟨hgI, A, n, c, rfl, hO⟩ | ⟨hgI, rfl⟩), hb2⟩
    · go_upto_region 4 with (fail)
      refine wp_gen (fun W => Bl w2 W ∧ ∃ g k, Blk W g 24 #[.bool (decide (vI (bl (sb (cutA 47 (bl s)))) < 0)), .slice A n c] ∧ Ow 3 W k [1] ∧ g = w2.heap.size ∧ k = w2.heap.size + 1) ⟨slc, _, _, by exact bts, by exact heap_alloc_new _ _, rfl, by simp⟩ ?_
      rintro W2 ⟨hb3, g, k, hgx, hk1, hge, hke⟩
      rw [← hke, ← hge]
      have hgw : w2.heap.size ≤ g := by omega
      have hkw : w2.heap.size ≤ k := by omega
      clear hge hke
      have hbw2 : Bl w W2 := (hbW1.next hb2).next hb3
      have hbr2 : Bl W0 W2 := (hb1.next hb2).next hb3
      have hc1' := (Bl.cellOf (hb2.next hb3) (p := ads.add 1) (by rw [block_add]; exact hads)).trans hc1
      have hc1' : W2.cell? ⟨ads.block, ads.off + 1, none⟩ = some (.string (sb (cutA 47 (cutB 47 (bl s))))) := by simpa [Addr.add] using hc1'
      go_wp2_with (go_at_call 79; refine (sParseNat_any _ (sb (cutA 47 (cutB 47 (bl s)))) hden).mono ?_)
      rintro e w4 ⟨(⟨hgN, B, m, d, rfl, hP⟩ | ⟨hgN, rfl⟩), hb4⟩
      · have hl1 := good_lenI hgI
        have hl2 := good_len60 hgN
        obtain ⟨x, hx⟩ : ∃ x, vI (bl (sb (cutA 47 (bl s)))) = x := ⟨_, rfl⟩
        obtain ⟨D, hD⟩ : ∃ D, vD (bl (sb (cutA 47 (cutB 47 (bl s))))) = D := ⟨_, rfl⟩
        rw [hx] at hO hl1 hgx ⊢
        rw [hD] at hP hl2
        have hxv : vI (cutA 47 (bl s)) = x := hx
        have hDv : vD (denS (bl s)) = D := by rw [← hD]; exact congrArg vD hdenT.out
        have hqv : Hid (OkT (bl s) → qv (bl s) = raw x D) := Lib.hid (fun h => by unfold qv; rw [← h.parts.2.2.1, hxv, hDv])
        have hOk : Hid (rtx x D = bl s ↔ OkT (bl s)) := Lib.hid ⟨fun h => OkT.of hgI h, fun h => by have h1 := h.parts.2.2.2.2; rw [← h.parts.2.2.1, hxv, hDv] at h1; exact h1⟩
        have hne : Hid (bl s ≠ []) := Lib.hid (fun e => by have h1 := hgI; rw [show bl (sb (cutA 47 (bl s))) = cutA 47 (bl s) from rfl, e] at h1; exact absurd h1 (by decide))
        have hcmp : ((sb (rtx x D)).toList == s.toList) = decide (rtx x D = bl s) := by
          rw [sb_toList, bl_toList, Bool.eq_iff_iff, beq_iff_eq, decide_eq_true_eq]
        have hcm0 : (sb (rtx x D)).toList.isEmpty = decide (rtx x D = []) := by
          rw [sb_toList, Bool.eq_iff_iff, List.isEmpty_iff, decide_eq_true_eq]

        clear hgI hx hD hxv hDv hgN
        have hDH : Hid (D = D) := Lib.hid rfl
        clear hDH
        obtain ⟨y0, y1⟩ := bx2 (hgx.bl hb4)
        go_upto_region 8 with (fail)
        refine wp_gen (fun W => Bl w4 W ∧ ∃ g', Blk W g' 26 #[.bool (decide (x < 0)), .slice A n c, .slice B m d] ∧ g' = w4.heap.size) ⟨slc, _, by exact bts, rfl⟩ ?_
        rintro W4 ⟨hb5, g', hgy, hge⟩
        rw [← hge]
        have hgw' : w4.heap.size ≤ g' := by omega
        clear hge
        have hRd : IsR W4 (decide (x < 0)) A n c B m d x D := ⟨rfl, (hO.rd.bl hb3).bl (hb4.next hb5), RdI.bl hP.rd hb5⟩
        have hn60 : n ≤ 60 := by have := hO.rd.lenN; omega
        have hm60 : m ≤ 60 := by have := hP.rd.lenN; omega
        have hbw4 := hbw2.next (hb4.next hb5)
        have hrg : r ≠ g' := by
          have h1 := hr.lt; have h2 := hbr2.size; have h3 := hb4.size; omega
        obtain ⟨z0, z1, z2⟩ := bx3 hgy
        have hr4 := hr.bl (hbr2.next (hb4.next hb5))
        have hOA : OwI 3 W0.heap.size W4 A n c (ints (dig x.natAbs)) := ((hO.bl hb3).bl (hb4.next hb5)).mono hb1.size
        have hOB : OwI 3 W0.heap.size W4 B m d (ints (dig D)) := ((hP.bl hb5).mono hbr2.size)
        clear y0 y1
        by_cases heq : rtx x D = bl s
        · have hz : ¬ rtx x D = [] := by rw [heq]; exact hne.out
          rw [decide_eq_true heq] at hcmp
          rw [decide_eq_false hz] at hcm0
          have hOkT := Lib.hid (hOk.out.1 heq)
          clear heq hOk hz
          go_wp2_with (first | (go_at_call 80; refine (sFormatRat_any W4 hRd hn60 hm60).mono ?_; rintro e w5 ⟨rfl, hb6⟩; have hgy5 := hgy.bl hb6; obtain ⟨u0, u1, u2⟩ := bx3 hgy5; have hRd5 := RdR.bl hRd hb6; have hr5 := hr4.bl hb6; have hbw5 := hbw4.next hb6; clear hRd) | (go_at_call 80; refine (sFormatRat_any w5 hRd5 hn60 hm60).mono ?_; rintro e w6 ⟨rfl, hb7⟩; have hgy6 := hgy5.bl hb7; obtain ⟨t0, t1, t2⟩ := bx3 hgy6; have hr2 := hr5.bl hb7; obtain ⟨v0, x0⟩ := hr2.val_ (i := 0) (by omega); obtain ⟨v1, x1⟩ := hr2.val_ (i := 1) (by omega); obtain ⟨v2, x2⟩ := hr2.val_ (i := 2) (by omega); have hgr := hr2.lt; have hB := hr2.blk; have hf0 := hB.frozen 0; have hf1 := hB.frozen 1; have hf2 := hB.frozen 2; have hRd6 := RdR.bl hRd5 hb7; have hbw6 := hbw5.next hb7))
          refine bodyPost_ret (v := .tuple #[.agg #[.bool (decide (x < 0)), .slice A n c, .slice B m d], .bool true]) (by simp [results, Tryz.results36, go_sem, x0, x1, x2]) rfl ⟨.inl ⟨hOkT.out, _, _, _, _, _, _, _, rfl, by rw [hqv.out hOkT.out]; exact ⟨rfl, (((((hOA.bl hb6).bl hb7).far (p := ⟨r, 0, none⟩) (show r < W0.heap.size from hr.lt) _).far (p := ⟨r, 1, none⟩) (show r < W0.heap.size from hr.lt) _).far (p := ⟨r, 2, none⟩) (show r < W0.heap.size from hr.lt) _).mono hbW.size, (((((hOB.bl hb6).bl hb7).far (p := ⟨r, 0, none⟩) (show r < W0.heap.size from hr.lt) _).far (p := ⟨r, 1, none⟩) (show r < W0.heap.size from hr.lt) _).far (p := ⟨r, 2, none⟩) (show r < W0.heap.size from hr.lt) _).mono hbW.size⟩⟩, slc⟩
        · rw [decide_eq_false heq] at hcmp
          have hno := Lib.hid (fun h => heq (hOk.out.2 h))
          clear heq hOk
          by_cases hz : rtx x D = []
          · rw [decide_eq_true hz] at hcm0
            clear hz
            go_wp2_with (go_at_call 80; refine (sFormatRat_any W4 hRd hn60 hm60).mono ?_; rintro e w5 ⟨rfl, hb6⟩; have hgy5 := hgy.bl hb6; obtain ⟨u0, u1, u2⟩ := bx3 hgy5; have hr2 := hr4.bl hb6; obtain ⟨v0, x0⟩ := hr2.val_ (i := 0) (by omega); obtain ⟨v1, x1⟩ := hr2.val_ (i := 1) (by omega); obtain ⟨v2, x2⟩ := hr2.val_ (i := 2) (by omega); have hgr := hr2.lt; have hB := hr2.blk; have hf0 := hB.frozen 0; have hf1 := hB.frozen 1; have hf2 := hB.frozen 2; have hbw5 := hbw4.next hb6)
            refine bodyPost_ret (v := .tuple #[.agg #[.bool false, .slice none 0 0, .slice none 0 0], .bool false]) (by simp [results, Tryz.results36, go_sem, x0, x1, x2]) rfl ⟨.inr ⟨hno.out, rfl⟩, slc⟩
          · rw [decide_eq_false hz] at hcm0
            clear hz
            go_wp2_with (first | (go_at_call 80; refine (sFormatRat_any W4 hRd hn60 hm60).mono ?_; rintro e w5 ⟨rfl, hb6⟩; have hgy5 := hgy.bl hb6; obtain ⟨u0, u1, u2⟩ := bx3 hgy5; have hRd5 := RdR.bl hRd hb6; have hr5 := hr4.bl hb6; have hbw5 := hbw4.next hb6; clear hRd) | (go_at_call 80; refine (sFormatRat_any w5 hRd5 hn60 hm60).mono ?_; rintro e w6 ⟨rfl, hb7⟩; have hgy6 := hgy5.bl hb7; obtain ⟨t0, t1, t2⟩ := bx3 hgy6; have hr2 := hr5.bl hb7; obtain ⟨v0, x0⟩ := hr2.val_ (i := 0) (by omega); obtain ⟨v1, x1⟩ := hr2.val_ (i := 1) (by omega); obtain ⟨v2, x2⟩ := hr2.val_ (i := 2) (by omega); have hgr := hr2.lt; have hB := hr2.blk; have hf0 := hB.frozen 0; have hf1 := hB.frozen 1; have hf2 := hB.frozen 2; have hRd6 := RdR.bl hRd5 hb7; have hbw6 := hbw5.next hb7))
            refine bodyPost_ret (v := .tuple #[.agg #[.bool false, .slice none 0 0, .slice none 0 0], .bool false]) (by simp [results, Tryz.results36, go_sem, x0, x1, x2]) rfl ⟨.inr ⟨hno.out, rfl⟩, slc⟩
      · have hno : Hid (¬ OkT (bl s)) := Lib.hid (fun h => by have h1 := h.parts.2.1; rw [← h.parts.2.2.1, hdenT.out] at h1; rw [show cutA 47 (cutB 47 (bl s)) = bl (sb (cutA 47 (cutB 47 (bl s)))) from rfl, hgN] at h1; cases h1)
        obtain ⟨y0, y1⟩ := bx2 (hgx.bl hb4)
        go_upto_region 8 with (fail)
        refine wp_gen (fun W => Bl w4 W) slc ?_
        rintro W4 hb5
        have hbw4 := hbw2.next (hb4.next hb5)
        have hr2 := hr.bl (hbr2.next (hb4.next hb5))
        obtain ⟨v0, x0⟩ := hr2.val_ (i := 0) (by omega)
        obtain ⟨v1, x1⟩ := hr2.val_ (i := 1) (by omega)
        obtain ⟨v2, x2⟩ := hr2.val_ (i := 2) (by omega)
        have hgr := hr2.lt
        have hB := hr2.blk
        have hf0 := hB.frozen 0
        have hf1 := hB.frozen 1
        have hf2 := hB.frozen 2
        go_wp2_with fail
        refine bodyPost_ret (v := .tuple #[.agg #[.bool false, .slice none 0 0, .slice none 0 0], .bool false]) (by simp [results, Tryz.results36, go_sem, x0, x1, x2]) rfl ⟨.inr ⟨hno.out, rfl⟩, slc⟩
    · go_upto_region 4 with (fail)
      refine wp_gen (fun W => Bl w2 W ∧ ∃ g k, Blk W g 24 #[.bool false, .slice none 0 0] ∧ Ow 3 W k [1] ∧ g = w2.heap.size ∧ k = w2.heap.size + 1) ⟨slc, _, _, by exact bts, by exact heap_alloc_new _ _, rfl, by simp⟩ ?_
      rintro W2 ⟨hb3, g, k, hgx, hk1, hge, hke⟩
      rw [← hke, ← hge]
      have hgw : w2.heap.size ≤ g := by omega
      have hkw : w2.heap.size ≤ k := by omega
      clear hge hke
      have hbw2 : Bl w W2 := (hbW1.next hb2).next hb3
      have hbr2 : Bl W0 W2 := (hb1.next hb2).next hb3
      have hc1' := (Bl.cellOf (hb2.next hb3) (p := ads.add 1) (by rw [block_add]; exact hads)).trans hc1
      have hc1' : W2.cell? ⟨ads.block, ads.off + 1, none⟩ = some (.string (sb (cutA 47 (cutB 47 (bl s))))) := by simpa [Addr.add] using hc1'
      go_wp2_with (go_at_call 79; refine (sParseNat_any _ (sb (cutA 47 (cutB 47 (bl s)))) hden).mono ?_)
      rintro e w4 ⟨(⟨hgN, B, m, d, rfl, hP⟩ | ⟨hgN, rfl⟩), hb4⟩
      · have hno : Hid (¬ OkT (bl s)) := Lib.hid (fun h => by have h1 := h.parts.1; rw [show cutA 47 (bl s) = bl (sb (cutA 47 (bl s))) from rfl, hgI] at h1; cases h1)
        obtain ⟨y0, y1⟩ := bx2 (hgx.bl hb4)
        go_upto_region 8 with (fail)
        refine wp_gen (fun W => Bl w4 W) slc ?_
        rintro W4 hb5
        have hbw4 := hbw2.next (hb4.next hb5)
        have hr2 := hr.bl (hbr2.next (hb4.next hb5))
        obtain ⟨v0, x0⟩ := hr2.val_ (i := 0) (by omega)
        obtain ⟨v1, x1⟩ := hr2.val_ (i := 1) (by omega)
        obtain ⟨v2, x2⟩ := hr2.val_ (i := 2) (by omega)
        have hgr := hr2.lt
        have hB := hr2.blk
        have hf0 := hB.frozen 0
        have hf1 := hB.frozen 1
        have hf2 := hB.frozen 2
        go_wp2_with fail
        refine bodyPost_ret (v := .tuple #[.agg #[.bool false, .slice none 0 0, .slice none 0 0], .bool false]) (by simp [results, Tryz.results36, go_sem, x0, x1, x2]) rfl ⟨.inr ⟨hno.out, rfl⟩, slc⟩
      · have hno : Hid (¬ OkT (bl s)) := Lib.hid (fun h => by have h1 := h.parts.1; rw [show cutA 47 (bl s) = bl (sb (cutA 47 (bl s))) from rfl, hgI] at h1; cases h1)
        obtain ⟨y0, y1⟩ := bx2 (hgx.bl hb4)
        go_upto_region 8 with (fail)
        refine wp_gen (fun W => Bl w4 W) slc ?_
        rintro W4 hb5
        have hbw4 := hbw2.next (hb4.next hb5)
        have hr2 := hr.bl (hbr2.next (hb4.next hb5))
        obtain ⟨v0, x0⟩ := hr2.val_ (i := 0) (by omega)
        obtain ⟨v1, x1⟩ := hr2.val_ (i := 1) (by omega)
        obtain ⟨v2, x2⟩ := hr2.val_ (i := 2) (by omega)
        have hgr := hr2.lt
        have hB := hr2.blk
        have hf0 := hB.frozen 0
        have hf1 := hB.frozen 1
        have hf2 := hB.frozen 2
        go_wp2_with fail
        refine bodyPost_ret (v := .tuple #[.agg #[.bool false, .slice none 0 0, .slice none 0 0], .bool false]) (by simp [results, Tryz.results36, go_sem, x0, x1, x2]) rfl ⟨.inr ⟨hno.out, rfl⟩, slc⟩
  · have hdenT : Hid (denS (bl s) = [49]) := Lib.hid (by unfold denS; rw [if_neg h47])
    clear hsz
    go_enter Tryz.func36, Tryz.ntmps36
    go_upto_region 1 with (fail)
    refine wp_gen (fun W => Bl w W ∧ ∃ r, Wk 3 26 r W ∧ r = w.heap.size) ⟨slc, _, by exact bts, rfl⟩ ?_
    rintro W0 ⟨hbW, r, hr, hre⟩
    rw [← hre]
    have hrw : w.heap.size ≤ r := by omega
    clear hre
    go_wp2_with (go_at_call 35; refine (sSplitAny_any _ s 47 hs).mono ?_)
    rintro e w1 ⟨As, caps, rfl, hSt, hb1⟩
    obtain ⟨ads, rfl, hads, hc0⟩ := hSt.2 0 (by have := List.length_pos_iff.2 (pcs_ne 47 (bl s)); omega)
    rw [pcs_head, addr_zero] at hc0
    have hL := List.length_pos_iff.2 (pcs_ne 47 (bl s))
    have hL2 : ¬ 1 < (pcs 47 (bl s)).length := fun h => h47 (pcs_len.1 h)
    obtain ⟨np, hnp⟩ : ∃ np, (pcs 47 (bl s)).length = np := ⟨_, rfl⟩
    rw [hnp] at hL hL2 ⊢
    have hnp0 : (0 : Int) < (np : Int) := by omega
    have hnp1 : ¬ (1 : Int) < (np : Int) := by omega
    have hbW1 := hbW.next hb1
    clear hnp hSt
    go_wp2_with (go_at_call 78; refine (sParseBigInt_any _ (sb (cutA 47 (bl s))) hnum).mono ?_)
    rintro e w2 ⟨(⟨hgI, A, n, c, rfl, hO⟩ | ⟨hgI, rfl⟩), hb2⟩
    · go_upto_region 4 with (fail)
      refine wp_gen (fun W => Bl w2 W ∧ ∃ g k, Blk W g 24 #[.bool (decide (vI (bl (sb (cutA 47 (bl s)))) < 0)), .slice A n c] ∧ Ow 3 W k [1] ∧ g = w2.heap.size ∧ k = w2.heap.size + 1) ⟨slc, _, _, by exact bts, by exact heap_alloc_new _ _, rfl, by simp⟩ ?_
      rintro W2 ⟨hb3, g, k, hgx, hk1, hge, hke⟩
      rw [← hke, ← hge]
      have hgw : w2.heap.size ≤ g := by omega
      have hkw : w2.heap.size ≤ k := by omega
      clear hge hke
      have hbw2 : Bl w W2 := (hbW1.next hb2).next hb3
      have hbr2 : Bl W0 W2 := (hb1.next hb2).next hb3
      have hd1 : dig 1 = [1] := by rw [dig_pos (by omega), show 1 / Bs = 0 from by rw [Bs_eq], dig_zero]; rfl
      have hP0 : IsN W2 (some ⟨k, 0, none⟩) 1 1 1 := by
        have := RdI.of_ow (n := 1) (c := 1) hk1 rfl (by omega)
        show RdI W2 _ 1 1 (ints (dig 1))
        rw [hd1]
        exact this
      have hK0 : OwI 3 W0.heap.size W2 (some ⟨k, 0, none⟩) 1 1 (ints (dig 1)) := by
        rw [hd1]
        exact hk1.own (by simp) (by have := hb1.size; have := hb2.size; omega) (Nat.le_refl _)
      have hl1 := good_lenI hgI

      obtain ⟨x, hx⟩ : ∃ x, vI (bl (sb (cutA 47 (bl s)))) = x := ⟨_, rfl⟩
      obtain ⟨D, hD⟩ : ∃ D, D = 1 := ⟨_, rfl⟩
      rw [hx] at hO hl1 hgx ⊢
      have hP : RdI W2 (some ⟨k, 0, none⟩) 1 1 (ints (dig D)) := by rw [hD]; exact hP0
      have hxv : vI (cutA 47 (bl s)) = x := hx
      have hDv : vD (denS (bl s)) = D := by rw [hdenT.out, hD]; decide
      have hqv : Hid (OkT (bl s) → qv (bl s) = raw x D) := Lib.hid (fun h => by unfold qv; rw [← h.parts.2.2.1, hxv, hDv])
      have hOk : Hid (rtx x D = bl s ↔ OkT (bl s)) := Lib.hid ⟨fun h => OkT.of hgI h, fun h => by have h1 := h.parts.2.2.2.2; rw [← h.parts.2.2.1, hxv, hDv] at h1; exact h1⟩
      have hne : Hid (bl s ≠ []) := Lib.hid (fun e => by have h1 := hgI; rw [show bl (sb (cutA 47 (bl s))) = cutA 47 (bl s) from rfl, e] at h1; exact absurd h1 (by decide))
      have hcmp : ((sb (rtx x D)).toList == s.toList) = decide (rtx x D = bl s) := by
        rw [sb_toList, bl_toList, Bool.eq_iff_iff, beq_iff_eq, decide_eq_true_eq]
      have hcm0 : (sb (rtx x D)).toList.isEmpty = decide (rtx x D = []) := by
        rw [sb_toList, Bool.eq_iff_iff, List.isEmpty_iff, decide_eq_true_eq]
      have hD0 := hD
      clear hgI hx hD hxv hDv hP0 hd1 hk1
      have hDH : Hid (D = 1) := Lib.hid hD0
      clear hD0
      obtain ⟨y0, y1⟩ := bx2 (hgx.bl (Bl.refl W2))
      go_upto_region 8 with (fail)
      refine wp_gen (fun W => Bl W2 W ∧ ∃ g', Blk W g' 26 #[.bool (decide (x < 0)), .slice A n c, .slice (some ⟨k, 0, none⟩) 1 1] ∧ g' = W2.heap.size) ⟨slc, _, by exact bts, rfl⟩ ?_
      rintro W4 ⟨hb5, g', hgy, hge⟩
      rw [← hge]
      have hgw' : W2.heap.size ≤ g' := by omega
      clear hge
      have hRd : IsR W4 (decide (x < 0)) A n c (some ⟨k, 0, none⟩) 1 1 x D := ⟨rfl, (hO.rd.bl hb3).bl ((Bl.refl W2).next hb5), RdI.bl hP hb5⟩
      have hn60 : n ≤ 60 := by have := hO.rd.lenN; omega
      have hm60 : 1 ≤ 60 := by omega
      have hbw4 := hbw2.next ((Bl.refl W2).next hb5)
      have hrg : r ≠ g' := by
        have h1 := hr.lt; have h2 := hbr2.size; omega
      obtain ⟨z0, z1, z2⟩ := bx3 hgy
      have hr4 := hr.bl (hbr2.next ((Bl.refl W2).next hb5))
      have hOA : OwI 3 W0.heap.size W4 A n c (ints (dig x.natAbs)) := ((hO.bl hb3).bl ((Bl.refl W2).next hb5)).mono hb1.size
      have hOB : OwI 3 W0.heap.size W4 (some ⟨k, 0, none⟩) 1 1 (ints (dig D)) := (by rw [hDH.out]; exact hK0.bl hb5)
      clear y0 y1
      by_cases heq : rtx x D = bl s
      · have hz : ¬ rtx x D = [] := by rw [heq]; exact hne.out
        rw [decide_eq_true heq] at hcmp
        rw [decide_eq_false hz] at hcm0
        have hOkT := Lib.hid (hOk.out.1 heq)
        clear heq hOk hz
        go_wp2_with (first | (go_at_call 80; refine (sFormatRat_any W4 hRd hn60 hm60).mono ?_; rintro e w5 ⟨rfl, hb6⟩; have hgy5 := hgy.bl hb6; obtain ⟨u0, u1, u2⟩ := bx3 hgy5; have hRd5 := RdR.bl hRd hb6; have hr5 := hr4.bl hb6; have hbw5 := hbw4.next hb6; clear hRd) | (go_at_call 80; refine (sFormatRat_any w5 hRd5 hn60 hm60).mono ?_; rintro e w6 ⟨rfl, hb7⟩; have hgy6 := hgy5.bl hb7; obtain ⟨t0, t1, t2⟩ := bx3 hgy6; have hr2 := hr5.bl hb7; obtain ⟨v0, x0⟩ := hr2.val_ (i := 0) (by omega); obtain ⟨v1, x1⟩ := hr2.val_ (i := 1) (by omega); obtain ⟨v2, x2⟩ := hr2.val_ (i := 2) (by omega); have hgr := hr2.lt; have hB := hr2.blk; have hf0 := hB.frozen 0; have hf1 := hB.frozen 1; have hf2 := hB.frozen 2; have hRd6 := RdR.bl hRd5 hb7; have hbw6 := hbw5.next hb7))
        refine bodyPost_ret (v := .tuple #[.agg #[.bool (decide (x < 0)), .slice A n c, .slice (some ⟨k, 0, none⟩) 1 1], .bool true]) (by simp [results, Tryz.results36, go_sem, x0, x1, x2]) rfl ⟨.inl ⟨hOkT.out, _, _, _, _, _, _, _, rfl, by rw [hqv.out hOkT.out]; exact ⟨rfl, (((((hOA.bl hb6).bl hb7).far (p := ⟨r, 0, none⟩) (show r < W0.heap.size from hr.lt) _).far (p := ⟨r, 1, none⟩) (show r < W0.heap.size from hr.lt) _).far (p := ⟨r, 2, none⟩) (show r < W0.heap.size from hr.lt) _).mono hbW.size, (((((hOB.bl hb6).bl hb7).far (p := ⟨r, 0, none⟩) (show r < W0.heap.size from hr.lt) _).far (p := ⟨r, 1, none⟩) (show r < W0.heap.size from hr.lt) _).far (p := ⟨r, 2, none⟩) (show r < W0.heap.size from hr.lt) _).mono hbW.size⟩⟩, slc⟩
      · rw [decide_eq_false heq] at hcmp
        have hno := Lib.hid (fun h => heq (hOk.out.2 h))
        clear heq hOk
        by_cases hz : rtx x D = []
        · rw [decide_eq_true hz] at hcm0
          clear hz
          go_wp2_with (go_at_call 80; refine (sFormatRat_any W4 hRd hn60 hm60).mono ?_; rintro e w5 ⟨rfl, hb6⟩; have hgy5 := hgy.bl hb6; obtain ⟨u0, u1, u2⟩ := bx3 hgy5; have hr2 := hr4.bl hb6; obtain ⟨v0, x0⟩ := hr2.val_ (i := 0) (by omega); obtain ⟨v1, x1⟩ := hr2.val_ (i := 1) (by omega); obtain ⟨v2, x2⟩ := hr2.val_ (i := 2) (by omega); have hgr := hr2.lt; have hB := hr2.blk; have hf0 := hB.frozen 0; have hf1 := hB.frozen 1; have hf2 := hB.frozen 2; have hbw5 := hbw4.next hb6)
          refine bodyPost_ret (v := .tuple #[.agg #[.bool false, .slice none 0 0, .slice none 0 0], .bool false]) (by simp [results, Tryz.results36, go_sem, x0, x1, x2]) rfl ⟨.inr ⟨hno.out, rfl⟩, slc⟩
        · rw [decide_eq_false hz] at hcm0
          clear hz
          go_wp2_with (first | (go_at_call 80; refine (sFormatRat_any W4 hRd hn60 hm60).mono ?_; rintro e w5 ⟨rfl, hb6⟩; have hgy5 := hgy.bl hb6; obtain ⟨u0, u1, u2⟩ := bx3 hgy5; have hRd5 := RdR.bl hRd hb6; have hr5 := hr4.bl hb6; have hbw5 := hbw4.next hb6; clear hRd) | (go_at_call 80; refine (sFormatRat_any w5 hRd5 hn60 hm60).mono ?_; rintro e w6 ⟨rfl, hb7⟩; have hgy6 := hgy5.bl hb7; obtain ⟨t0, t1, t2⟩ := bx3 hgy6; have hr2 := hr5.bl hb7; obtain ⟨v0, x0⟩ := hr2.val_ (i := 0) (by omega); obtain ⟨v1, x1⟩ := hr2.val_ (i := 1) (by omega); obtain ⟨v2, x2⟩ := hr2.val_ (i := 2) (by omega); have hgr := hr2.lt; have hB := hr2.blk; have hf0 := hB.frozen 0; have hf1 := hB.frozen 1; have hf2 := hB.frozen 2; have hRd6 := RdR.bl hRd5 hb7; have hbw6 := hbw5.next hb7))
          refine bodyPost_ret (v := .tuple #[.agg #[.bool false, .slice none 0 0, .slice none 0 0], .bool false]) (by simp [results, Tryz.results36, go_sem, x0, x1, x2]) rfl ⟨.inr ⟨hno.out, rfl⟩, slc⟩
    · go_upto_region 4 with (fail)
      refine wp_gen (fun W => Bl w2 W ∧ ∃ g k, Blk W g 24 #[.bool false, .slice none 0 0] ∧ Ow 3 W k [1] ∧ g = w2.heap.size ∧ k = w2.heap.size + 1) ⟨slc, _, _, by exact bts, by exact heap_alloc_new _ _, rfl, by simp⟩ ?_
      rintro W2 ⟨hb3, g, k, hgx, hk1, hge, hke⟩
      rw [← hke, ← hge]
      have hgw : w2.heap.size ≤ g := by omega
      have hkw : w2.heap.size ≤ k := by omega
      clear hge hke
      have hbw2 : Bl w W2 := (hbW1.next hb2).next hb3
      have hbr2 : Bl W0 W2 := (hb1.next hb2).next hb3
      have hd1 : dig 1 = [1] := by rw [dig_pos (by omega), show 1 / Bs = 0 from by rw [Bs_eq], dig_zero]; rfl
      have hP0 : IsN W2 (some ⟨k, 0, none⟩) 1 1 1 := by
        have := RdI.of_ow (n := 1) (c := 1) hk1 rfl (by omega)
        show RdI W2 _ 1 1 (ints (dig 1))
        rw [hd1]
        exact this
      have hK0 : OwI 3 W0.heap.size W2 (some ⟨k, 0, none⟩) 1 1 (ints (dig 1)) := by
        rw [hd1]
        exact hk1.own (by simp) (by have := hb1.size; have := hb2.size; omega) (Nat.le_refl _)
      have hno : Hid (¬ OkT (bl s)) := Lib.hid (fun h => by have h1 := h.parts.1; rw [show cutA 47 (bl s) = bl (sb (cutA 47 (bl s))) from rfl, hgI] at h1; cases h1)
      obtain ⟨y0, y1⟩ := bx2 (hgx.bl (Bl.refl W2))
      go_upto_region 8 with (fail)
      refine wp_gen (fun W => Bl W2 W) slc ?_
      rintro W4 hb5
      have hbw4 := hbw2.next ((Bl.refl W2).next hb5)
      have hr2 := hr.bl (hbr2.next ((Bl.refl W2).next hb5))
      obtain ⟨v0, x0⟩ := hr2.val_ (i := 0) (by omega)
      obtain ⟨v1, x1⟩ := hr2.val_ (i := 1) (by omega)
      obtain ⟨v2, x2⟩ := hr2.val_ (i := 2) (by omega)
      have hgr := hr2.lt
      have hB := hr2.blk
      have hf0 := hB.frozen 0
      have hf1 := hB.frozen 1
      have hf2 := hB.frozen 2
      go_wp2_with fail
      refine bodyPost_ret (v := .tuple #[.agg #[.bool false, .slice none 0 0, .slice none 0 0], .bool false]) (by simp [results, Tryz.results36, go_sem, x0, x1, x2]) rfl ⟨.inr ⟨hno.out, rfl⟩, slc⟩
end

end Go.Proofs.YtjaapemopbbfaaaGreatDoor
