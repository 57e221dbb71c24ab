/- Lemmas. -/
import Derived.Test.YtjaapemopbbfaaaGreatDoorRows
import Derived.Test.YtjaapemopbbfaaaGreatDoorPPointsM35
import Derived.Test.YtjaapemopbbfaaaGreatDoorPPointsM15
import Derived.Test.YtjaapemopbbfaaaGreatDoorPPointsM27
import Derived.Test.YtjaapemopbbfaaaGreatDoorPPointsM31
import Derived.Lib.MinMax
import Derived.Test.YtjaapemopbbfaaaGreatDoorPPointsM24
import Derived.Test.YtjaapemopbbfaaaGreatDoorPPointsM28
import Derived.Deep.Cut
import Derived.Deep.DeepCutAuto
import Derived.Test.YtjaapemopbbfaaaGreatDoorPPointsM30
import Derived.Test.YtjaapemopbbfaaaGreatDoorPPointsM29
namespace Go.Proofs.YtjaapemopbbfaaaGreatDoor
section
open Go.RowKit

/-- The text of a valid point. -/
def PtT (l : List UInt8) : Prop := 44 ∈ l ∧ OkT (cutA 44 l) ∧ OkT (cutB 44 l)
/-- The point that is spelled. -/
def qp (l : List UInt8) : PtD := ⟨qv (cutA 44 l), qv (cutB 44 l)⟩
theorem OkT.no44 {l : List UInt8} (h : OkT l) : (44 : UInt8) ∉ l := by
  obtain ⟨x, D, _, rfl⟩ := h
  exact ftx_not x D (by decide) (by decide) (by decide)
theorem PtT.two {l : List UInt8} (h : PtT l) : (pcs 44 l).length = 2 := by rw [pcs_yes h.1, List.length_cons, pcs_one.2 h.2.2.no44]
/-- What the program's ParsePoint returns. -/
def PPRes (w : World) (s : ByteArray) (e : Ending) (w' : World) : Prop :=
  ((PtT (bl s) ∧ ∃ s1 A1 n1 c1 B1 m1 d1 s2 A2 n2 c2 B2 m2 d2, e = .returned (.tuple #[.agg #[.bool s1, .slice A1 n1 c1, .slice B1 m1 d1, .bool s2, .slice A2 n2 c2, .slice B2 m2 d2], .bool true]) ∧ OwP 3 w.heap.size w' s1 A1 n1 c1 B1 m1 d1 s2 A2 n2 c2 B2 m2 d2 (qp (bl s))) ∨ (¬ PtT (bl s) ∧ e = .returned (.tuple #[.agg #[.bool false, .slice none 0 0, .slice none 0 0, .bool false, .slice none 0 0, .slice none 0 0], .bool false]))) ∧ Bl w w'
set_option maxHeartbeats 12800000 in
set_option maxRecDepth 100000 in
theorem ParsePoint_any (w : World) (s : ByteArray) (hs : s.size ≤ 1048576) (hE : Env w) :
    Calls Tryz.prog 7 #[.string s] w (PPRes w s) := by
  obtain ⟨mx, hmx⟩ := hE.2
  have hmx := Lib.hid hmx; rename_i hmx_; clear hmx_
  have hE := Lib.hid hE; rename_i hE_; clear hE_
  have hcut0 := cut_one 44 (bl s)
  have hs1 := Nat.le_trans (cutA_bl s 44) hs
  have hsz := bl_len s
  by_cases h44 : 44 ∈ bl s
  · rw [if_pos h44] at hcut0
    have hcut : Lib.cut s.data.toList (sb [44]).data.toList = (cutA 44 (bl s), cutB 44 (bl s), true) := hcut0
    have hs2 : (sb (cutB 44 (bl s))).size ≤ 1048576 := by rw [sb_size]; have := cutB_le 44 (bl s); omega
    have h44 := Lib.hid h44; rename_i h_; clear h_
    clear hcut0 hsz
    go_enter Tryz.func7, Tryz.ntmps7
    go_upto_region 1 with (fail)
    refine wp_gen (fun W => Bl w W ∧ ∃ r, Wk 6 28 r W ∧ r = w.heap.size) ⟨slc, _, by exact bts, rfl⟩ ?_
    rintro W0 ⟨hbW, r, hr, hre⟩
    rw [← hre]
    have hrw : w.heap.size ≤ r := by omega
    clear hre
    go_wp2_with (first
      | (go_at_call 37; refine (Tryz.strings_Cut s (sb [44]) mx _ (by omega) ((Bl.cellOf hbW (cell_lt hmx.out)).trans hmx.out)).mono ?_; rw [hcut]; rintro e w1 ⟨rfl, hq1⟩; have hb1 := q_bl hq1; clear hq1)
      | (go_at_call 38; refine (ParseRat_any w1 (sb (cutA 44 (bl s))) hs1 (hE.out.bl (hbW.next hb1))).mono ?_))
    rintro e w2 ⟨(⟨hT1, s1, A1, n1, c1, B1, m1, d1, rfl, hO1⟩ | ⟨hT1, rfl⟩), hb2⟩
    · go_upto_region 3 with (fail)
      refine wp_gen (fun W => Bl w2 W ∧ ∃ g, Blk W g 26 #[.bool s1, .slice A1 n1 c1, .slice B1 m1 d1] ∧ g = w2.heap.size) ⟨slc, _, by exact bts, rfl⟩ ?_
      rintro W2 ⟨hb3, g, hgx, hge⟩
      rw [← hge]
      have hgw : w2.heap.size ≤ g := by omega
      clear hge
      have hbw2 : Bl w W2 := ((hbW.next hb1).next hb2).next hb3
      have hbr2 : Bl W0 W2 := (hb1.next hb2).next hb3
      go_wp2_with (go_at_call 38; refine (ParseRat_any W2 (sb (cutB 44 (bl s))) hs2 (hE.out.bl hbw2)).mono ?_)
      rintro e w4 ⟨(⟨hT2, s2, A2, n2, c2, B2, m2, d2, rfl, hO2⟩ | ⟨hT2, rfl⟩), hb4⟩
      · go_upto_region 4 with (fail)
        refine wp_gen (fun W => Bl w4 W ∧ ∃ k, Blk W k 26 #[.bool s2, .slice A2 n2 c2, .slice B2 m2 d2] ∧ k = w4.heap.size) ⟨slc, _, by exact bts, rfl⟩ ?_
        rintro W4 ⟨hb5, k, hkx, hke⟩
        rw [← hke]
        have hkw : w4.heap.size ≤ k := by omega
        clear hke
        have hbw4 := hbw2.next (hb4.next hb5)
        have hgx4 := hgx.bl (hb4.next hb5)
        have hyes : Hid (PtT (bl s)) := Lib.hid ⟨h44.out, hT1, hT2⟩
        obtain ⟨y0, y1, y2⟩ := bx3 hgx4
        obtain ⟨z0, z1, z2⟩ := bx3 hkx
        have hrg : r ≠ g := by have h1 := hr.lt; have h2 := hb1.size; have h3 := hb2.size; omega
        have hrk : r ≠ k := by have h1 := hr.lt; have h2 := hbr2.size; have h3 := hb4.size; omega
        have hPt : OwP 3 W0.heap.size W4 s1 A1 n1 c1 B1 m1 d1 s2 A2 n2 c2 B2 m2 d2 ⟨qv (cutA 44 (bl s)), qv (cutB 44 (bl s))⟩ := (OwP.two (p := ⟨qv (cutA 44 (bl s)), qv (cutB 44 (bl s))⟩) (OwR.mono (hO1.bl hb3) hb1.size) hO2 hb4 hbr2.size).bl hb5
        have hr2 := hr.bl (hbr2.next (hb4.next hb5))
        obtain ⟨v0, x0⟩ := hr2.val_ (i := 0) (by omega)
        obtain ⟨v1, x1⟩ := hr2.val_ (i := 1) (by omega)
        obtain ⟨v2, x2⟩ := hr2.val_ (i := 2) (by omega)
        obtain ⟨v3, x3⟩ := hr2.val_ (i := 3) (by omega)
        obtain ⟨v4, x4⟩ := hr2.val_ (i := 4) (by omega)
        obtain ⟨v5, x5⟩ := hr2.val_ (i := 5) (by omega)
        have hgr := hr2.lt
        have hB := hr2.blk
        have hf0 := hB.frozen 0
        have hf1 := hB.frozen 1
        have hf2 := hB.frozen 2
        have hf3 := hB.frozen 3
        have hf4 := hB.frozen 4
        have hf5 := hB.frozen 5
        go_wp2_with fail
        refine bodyPost_ret (v := .tuple #[.agg #[.bool s1, .slice A1 n1 c1, .slice B1 m1 d1, .bool s2, .slice A2 n2 c2, .slice B2 m2 d2], .bool true]) (by simp [results, Tryz.results7, go_sem, x0, x1, x2, x3, x4, x5]) rfl ⟨.inl ⟨hyes.out, _, _, _, _, _, _, _, _, _, _, _, _, _, _, rfl, ((((((hPt.far (q := ⟨r, 0, none⟩) (show r < W0.heap.size from hr.lt) _).far (q := ⟨r, 1, none⟩) (show r < W0.heap.size from hr.lt) _).far (q := ⟨r, 2, none⟩) (show r < W0.heap.size from hr.lt) _).far (q := ⟨r, 3, none⟩) (show r < W0.heap.size from hr.lt) _).far (q := ⟨r, 4, none⟩) (show r < W0.heap.size from hr.lt) _).far (q := ⟨r, 5, none⟩) (show r < W0.heap.size from hr.lt) _).low hbW.size⟩, slc⟩
      · go_upto_region 4 with (fail)
        refine wp_gen (fun W => Bl w4 W ∧ ∃ k, Blk W k 26 #[.bool false, .slice none 0 0, .slice none 0 0] ∧ k = w4.heap.size) ⟨slc, _, by exact bts, rfl⟩ ?_
        rintro W4 ⟨hb5, k, hkx, hke⟩
        rw [← hke]
        have hkw : w4.heap.size ≤ k := by omega
        clear hke
        have hbw4 := hbw2.next (hb4.next hb5)
        have hgx4 := hgx.bl (hb4.next hb5)
        have hno : Hid (¬ PtT (bl s)) := Lib.hid (fun h => hT2 h.2.2)
        have hr2 := hr.bl (hbr2.next (hb4.next hb5))
        obtain ⟨v0, x0⟩ := hr2.val_ (i := 0) (by omega)
        obtain ⟨v1, x1⟩ := hr2.val_ (i := 1) (by omega)
        obtain ⟨v2, x2⟩ := hr2.val_ (i := 2) (by omega)
        obtain ⟨v3, x3⟩ := hr2.val_ (i := 3) (by omega)
        obtain ⟨v4, x4⟩ := hr2.val_ (i := 4) (by omega)
        obtain ⟨v5, x5⟩ := hr2.val_ (i := 5) (by omega)
        have hgr := hr2.lt
        have hB := hr2.blk
        have hf0 := hB.frozen 0
        have hf1 := hB.frozen 1
        have hf2 := hB.frozen 2
        have hf3 := hB.frozen 3
        have hf4 := hB.frozen 4
        have hf5 := hB.frozen 5
        go_wp2_with fail
        refine bodyPost_ret (v := .tuple #[.agg #[.bool false, .slice none 0 0, .slice none 0 0, .bool false, .slice none 0 0, .slice none 0 0], .bool false]) (by simp [results, Tryz.results7, go_sem, x0, x1, x2, x3, x4, x5]) rfl ⟨.inr ⟨hno.out, rfl⟩, slc⟩
    · go_upto_region 3 with (fail)
      refine wp_gen (fun W => Bl w2 W ∧ ∃ g, Blk W g 26 #[.bool false, .slice none 0 0, .slice none 0 0] ∧ g = w2.heap.size) ⟨slc, _, by exact bts, rfl⟩ ?_
      rintro W2 ⟨hb3, g, hgx, hge⟩
      rw [← hge]
      have hgw : w2.heap.size ≤ g := by omega
      clear hge
      have hbw2 : Bl w W2 := ((hbW.next hb1).next hb2).next hb3
      have hbr2 : Bl W0 W2 := (hb1.next hb2).next hb3
      go_wp2_with (go_at_call 38; refine (ParseRat_any W2 (sb (cutB 44 (bl s))) hs2 (hE.out.bl hbw2)).mono ?_)
      rintro e w4 ⟨(⟨hT2, s2, A2, n2, c2, B2, m2, d2, rfl, hO2⟩ | ⟨hT2, rfl⟩), hb4⟩
      · go_upto_region 4 with (fail)
        refine wp_gen (fun W => Bl w4 W ∧ ∃ k, Blk W k 26 #[.bool s2, .slice A2 n2 c2, .slice B2 m2 d2] ∧ k = w4.heap.size) ⟨slc, _, by exact bts, rfl⟩ ?_
        rintro W4 ⟨hb5, k, hkx, hke⟩
        rw [← hke]
        have hkw : w4.heap.size ≤ k := by omega
        clear hke
        have hbw4 := hbw2.next (hb4.next hb5)
        have hgx4 := hgx.bl (hb4.next hb5)
        have hno : Hid (¬ PtT (bl s)) := Lib.hid (fun h => hT1 h.2.1)
        have hr2 := hr.bl (hbr2.next (hb4.next hb5))
        obtain ⟨v0, x0⟩ := hr2.val_ (i := 0) (by omega)
        obtain ⟨v1, x1⟩ := hr2.val_ (i := 1) (by omega)
        obtain ⟨v2, x2⟩ := hr2.val_ (i := 2) (by omega)
        obtain ⟨v3, x3⟩ := hr2.val_ (i := 3) (by omega)
        obtain ⟨v4, x4⟩ := hr2.val_ (i := 4) (by omega)
        obtain ⟨v5, x5⟩ := hr2.val_ (i := 5) (by omega)
        have hgr := hr2.lt
        have hB := hr2.blk
        have hf0 := hB.frozen 0
        have hf1 := hB.frozen 1
        have hf2 := hB.frozen 2
        have hf3 := hB.frozen 3
        have hf4 := hB.frozen 4
        have hf5 := hB.frozen 5
        go_wp2_with fail
        refine bodyPost_ret (v := .tuple #[.agg #[.bool false, .slice none 0 0, .slice none 0 0, .bool false, .slice none 0 0, .slice none 0 0], .bool false]) (by simp [results, Tryz.results7, go_sem, x0, x1, x2, x3, x4, x5]) rfl ⟨.inr ⟨hno.out, rfl⟩, slc⟩
      · go_upto_region 4 with (fail)
        refine wp_gen (fun W => Bl w4 W ∧ ∃ k, Blk W k 26 #[.bool false, .slice none 0 0, .slice none 0 0] ∧ k = w4.heap.size) ⟨slc, _, by exact bts, rfl⟩ ?_
        rintro W4 ⟨hb5, k, hkx, hke⟩
        rw [← hke]
        have hkw : w4.heap.size ≤ k := by omega
        clear hke
        have hbw4 := hbw2.next (hb4.next hb5)
        have hgx4 := hgx.bl (hb4.next hb5)
        have hno : Hid (¬ PtT (bl s)) := Lib.hid (fun h => hT1 h.2.1)
        have hr2 := hr.bl (hbr2.next (hb4.next hb5))
        obtain ⟨v0, x0⟩ := hr2.val_ (i := 0) (by omega)
        obtain ⟨v1, x1⟩ := hr2.val_ (i := 1) (by omega)
        obtain ⟨v2, x2⟩ := hr2.val_ (i := 2) (by omega)
        obtain ⟨v3, x3⟩ := hr2.val_ (i := 3) (by omega)
        obtain ⟨v4, x4⟩ := hr2.val_ (i := 4) (by omega)
        obtain ⟨v5, x5⟩ := hr2.val_ (i := 5) (by omega)
        have hgr := hr2.lt
        have hB := hr2.blk
        have hf0 := hB.frozen 0
        have hf1 := hB.frozen 1
        have hf2 := hB.frozen 2
        have hf3 := hB.frozen 3
        have hf4 := hB.frozen 4
        have hf5 := hB.frozen 5
        go_wp2_with fail
        refine bodyPost_ret (v := .tuple #[.agg #[.bool false, .slice none 0 0, .slice none 0 0, .bool false, .slice none 0 0, .slice none 0 0], .bool false]) (by simp [results, Tryz.results7, go_sem, x0, x1, x2, x3, x4, x5]) rfl ⟨.inr ⟨hno.out, rfl⟩, slc⟩
  · rw [if_neg h44] at hcut0
    have hcut : Lib.cut s.data.toList (sb [44]).data.toList = (cutA 44 (bl s), [], false) := by rw [cutA_id h44]; exact hcut0
    have hs2 : (sb []).size ≤ 1048576 := by rw [sb_size]; decide
    have h44 := Lib.hid h44; rename_i h_; clear h_
    clear hcut0 hsz
    go_enter Tryz.func7, Tryz.ntmps7
    go_upto_region 1 with (fail)
    refine wp_gen (fun W => Bl w W ∧ ∃ r, Wk 6 28 r W ∧ r = w.heap.size) ⟨slc, _, by exact bts, rfl⟩ ?_
    rintro W0 ⟨hbW, r, hr, hre⟩
    rw [← hre]
    have hrw : w.heap.size ≤ r := by omega
    clear hre
    go_wp2_with (first
      | (go_at_call 37; refine (Tryz.strings_Cut s (sb [44]) mx _ (by omega) ((Bl.cellOf hbW (cell_lt hmx.out)).trans hmx.out)).mono ?_; rw [hcut]; rintro e w1 ⟨rfl, hq1⟩; have hb1 := q_bl hq1; clear hq1)
      | (go_at_call 38; refine (ParseRat_any w1 (sb (cutA 44 (bl s))) hs1 (hE.out.bl (hbW.next hb1))).mono ?_))
    rintro e w2 ⟨(⟨hT1, s1, A1, n1, c1, B1, m1, d1, rfl, hO1⟩ | ⟨hT1, rfl⟩), hb2⟩
    · go_upto_region 3 with (fail)
      refine wp_gen (fun W => Bl w2 W ∧ ∃ g, Blk W g 26 #[.bool s1, .slice A1 n1 c1, .slice B1 m1 d1] ∧ g = w2.heap.size) ⟨slc, _, by exact bts, rfl⟩ ?_
      rintro W2 ⟨hb3, g, hgx, hge⟩
      rw [← hge]
      have hgw : w2.heap.size ≤ g := by omega
      clear hge
      have hbw2 : Bl w W2 := ((hbW.next hb1).next hb2).next hb3
      have hbr2 : Bl W0 W2 := (hb1.next hb2).next hb3
      go_wp2_with (go_at_call 38; refine (ParseRat_any W2 (sb ([])) hs2 (hE.out.bl hbw2)).mono ?_)
      rintro e w4 ⟨(⟨hT2, s2, A2, n2, c2, B2, m2, d2, rfl, hO2⟩ | ⟨hT2, rfl⟩), hb4⟩
      · go_upto_region 4 with (fail)
        refine wp_gen (fun W => Bl w4 W ∧ ∃ k, Blk W k 26 #[.bool s2, .slice A2 n2 c2, .slice B2 m2 d2] ∧ k = w4.heap.size) ⟨slc, _, by exact bts, rfl⟩ ?_
        rintro W4 ⟨hb5, k, hkx, hke⟩
        rw [← hke]
        have hkw : w4.heap.size ≤ k := by omega
        clear hke
        have hbw4 := hbw2.next (hb4.next hb5)
        have hgx4 := hgx.bl (hb4.next hb5)
        have hno : Hid (¬ PtT (bl s)) := Lib.hid (fun h => h44.out h.1)
        have hr2 := hr.bl (hbr2.next (hb4.next hb5))
        obtain ⟨v0, x0⟩ := hr2.val_ (i := 0) (by omega)
        obtain ⟨v1, x1⟩ := hr2.val_ (i := 1) (by omega)
        obtain ⟨v2, x2⟩ := hr2.val_ (i := 2) (by omega)
        obtain ⟨v3, x3⟩ := hr2.val_ (i := 3) (by omega)
        obtain ⟨v4, x4⟩ := hr2.val_ (i := 4) (by omega)
        obtain ⟨v5, x5⟩ := hr2.val_ (i := 5) (by omega)
        have hgr := hr2.lt
        have hB := hr2.blk
        have hf0 := hB.frozen 0
        have hf1 := hB.frozen 1
        have hf2 := hB.frozen 2
        have hf3 := hB.frozen 3
        have hf4 := hB.frozen 4
        have hf5 := hB.frozen 5
        go_wp2_with fail
        refine bodyPost_ret (v := .tuple #[.agg #[.bool false, .slice none 0 0, .slice none 0 0, .bool false, .slice none 0 0, .slice none 0 0], .bool false]) (by simp [results, Tryz.results7, go_sem, x0, x1, x2, x3, x4, x5]) rfl ⟨.inr ⟨hno.out, rfl⟩, slc⟩
      · go_upto_region 4 with (fail)
        refine wp_gen (fun W => Bl w4 W ∧ ∃ k, Blk W k 26 #[.bool false, .slice none 0 0, .slice none 0 0] ∧ k = w4.heap.size) ⟨slc, _, by exact bts, rfl⟩ ?_
        rintro W4 ⟨hb5, k, hkx, hke⟩
        rw [← hke]
        have hkw : w4.heap.size ≤ k := by omega
        clear hke
        have hbw4 := hbw2.next (hb4.next hb5)
        have hgx4 := hgx.bl (hb4.next hb5)
        have hno : Hid (¬ PtT (bl s)) := Lib.hid (fun h => h44.out h.1)
        have hr2 := hr.bl (hbr2.next (hb4.next hb5))
        obtain ⟨v0, x0⟩ := hr2.val_ (i := 0) (by omega)
        obtain ⟨v1, x1⟩ := hr2.val_ (i := 1) (by omega)
        obtain ⟨v2, x2⟩ := hr2.val_ (i := 2) (by omega)
        obtain ⟨v3, x3⟩ := hr2.val_ (i := 3) (by omega)
        obtain ⟨v4, x4⟩ := hr2.val_ (i := 4) (by omega)
        obtain ⟨v5, x5⟩ := hr2.val_ (i := 5) (by omega)
        have hgr := hr2.lt
        have hB := hr2.blk
        have hf0 := hB.frozen 0
        have hf1 := hB.frozen 1
        have hf2 := hB.frozen 2
        have hf3 := hB.frozen 3
        have hf4 := hB.frozen 4
        have hf5 := hB.frozen 5
        go_wp2_with fail
        refine bodyPost_ret (v := .tuple #[.agg #[.bool false, .slice none 0 0, .slice none 0 0, .bool false, .slice none 0 0, .slice none 0 0], .bool false]) (by simp [results, Tryz.results7, go_sem, x0, x1, x2, x3, x4, x5]) rfl ⟨.inr ⟨hno.out, rfl⟩, slc⟩
    · go_upto_region 3 with (fail)
      refine wp_gen (fun W => Bl w2 W ∧ ∃ g, Blk W g 26 #[.bool false, .slice none 0 0, .slice none 0 0] ∧ g = w2.heap.size) ⟨slc, _, by exact bts, rfl⟩ ?_
      rintro W2 ⟨hb3, g, hgx, hge⟩
      rw [← hge]
      have hgw : w2.heap.size ≤ g := by omega
      clear hge
      have hbw2 : Bl w W2 := ((hbW.next hb1).next hb2).next hb3
      have hbr2 : Bl W0 W2 := (hb1.next hb2).next hb3
      go_wp2_with (go_at_call 38; refine (ParseRat_any W2 (sb ([])) hs2 (hE.out.bl hbw2)).mono ?_)
      rintro e w4 ⟨(⟨hT2, s2, A2, n2, c2, B2, m2, d2, rfl, hO2⟩ | ⟨hT2, rfl⟩), hb4⟩
      · go_upto_region 4 with (fail)
        refine wp_gen (fun W => Bl w4 W ∧ ∃ k, Blk W k 26 #[.bool s2, .slice A2 n2 c2, .slice B2 m2 d2] ∧ k = w4.heap.size) ⟨slc, _, by exact bts, rfl⟩ ?_
        rintro W4 ⟨hb5, k, hkx, hke⟩
        rw [← hke]
        have hkw : w4.heap.size ≤ k := by omega
        clear hke
        have hbw4 := hbw2.next (hb4.next hb5)
        have hgx4 := hgx.bl (hb4.next hb5)
        have hno : Hid (¬ PtT (bl s)) := Lib.hid (fun h => h44.out h.1)
        have hr2 := hr.bl (hbr2.next (hb4.next hb5))
        obtain ⟨v0, x0⟩ := hr2.val_ (i := 0) (by omega)
        obtain ⟨v1, x1⟩ := hr2.val_ (i := 1) (by omega)
        obtain ⟨v2, x2⟩ := hr2.val_ (i := 2) (by omega)
        obtain ⟨v3, x3⟩ := hr2.val_ (i := 3) (by omega)
        obtain ⟨v4, x4⟩ := hr2.val_ (i := 4) (by omega)
        obtain ⟨v5, x5⟩ := hr2.val_ (i := 5) (by omega)
        have hgr := hr2.lt
        have hB := hr2.blk
        have hf0 := hB.frozen 0
        have hf1 := hB.frozen 1
        have hf2 := hB.frozen 2
        have hf3 := hB.frozen 3
        have hf4 := hB.frozen 4
        have hf5 := hB.frozen 5
        go_wp2_with fail
        refine bodyPost_ret (v := .tuple #[.agg #[.bool false, .slice none 0 0, .slice none 0 0, .bool false, .slice none 0 0, .slice none 0 0], .bool false]) (by simp [results, Tryz.results7, go_sem, x0, x1, x2, x3, x4, x5]) rfl ⟨.inr ⟨hno.out, rfl⟩, slc⟩
      · go_upto_region 4 with (fail)
        refine wp_gen (fun W => Bl w4 W ∧ ∃ k, Blk W k 26 #[.bool false, .slice none 0 0, .slice none 0 0] ∧ k = w4.heap.size) ⟨slc, _, by exact bts, rfl⟩ ?_
        rintro W4 ⟨hb5, k, hkx, hke⟩
        rw [← hke]
        have hkw : w4.heap.size ≤ k := by omega
        clear hke
        have hbw4 := hbw2.next (hb4.next hb5)
        have hgx4 := hgx.bl (hb4.next hb5)
        have hno : Hid (¬ PtT (bl s)) := Lib.hid (fun h => h44.out h.1)
        have hr2 := hr.bl (hbr2.next (hb4.next hb5))
        obtain ⟨v0, x0⟩ := hr2.val_ (i := 0) (by omega)
        obtain ⟨v1, x1⟩ := hr2.val_ (i := 1) (by omega)
        obtain ⟨v2, x2⟩ := hr2.val_ (i := 2) (by omega)
        obtain ⟨v3, x3⟩ := hr2.val_ (i := 3) (by omega)
        obtain ⟨v4, x4⟩ := hr2.val_ (i := 4) (by omega)
        obtain ⟨v5, x5⟩ := hr2.val_ (i := 5) (by omega)
        have hgr := hr2.lt
        have hB := hr2.blk
        have hf0 := hB.frozen 0
        have hf1 := hB.frozen 1
        have hf2 := hB.frozen 2
        have hf3 := hB.frozen 3
        have hf4 := hB.frozen 4
        have hf5 := hB.frozen 5
        go_wp2_with fail
        refine bodyPost_ret (v := .tuple #[.agg #[.bool false, .slice none 0 0, .slice none 0 0, .bool false, .slice none 0 0, .slice none 0 0], .bool false]) (by simp [results, Tryz.results7, go_sem, x0, x1, x2, x3, x4, x5]) rfl ⟨.inr ⟨hno.out, rfl⟩, slc⟩
end

section
open Go.RowKit
end

section
open Go.RowKit

section
variable {x0 y0 x1 y1 x2 y2 u v : Rat}
theorem B10.pt (h : Bd 17 u) : B10 2 u := B10.of h (by decide)
end
end

section
open Go.RowKit

theorem eqR_self' (r : RatD) : eqR r r = true := by unfold eqR eqL; simp
def PtRes (w : World) (en : Ending) (w' : World) : Prop := ∃ s1 A1 n1 c1 B1 m1 d1 t1 C1 i1 e1 D1 j1 f1 p, en = .returned (.agg #[.bool s1, .slice A1 n1 c1, .slice B1 m1 d1, .bool t1, .slice C1 i1 e1, .slice D1 j1 f1]) ∧ RdR w' s1 A1 n1 c1 B1 m1 d1 p.x ∧ RdR w' t1 C1 i1 e1 D1 j1 f1 p.y ∧ PtS p ∧ Bl w w'
set_option maxRecDepth 100000 in
set_option maxHeartbeats 4000000 in
theorem MakePoint_any (w : World) {A : Option Addr} {n c : Nat} {l : List Int} (m : Nat) (hm : m ≤ 100) (h : RdB w A n c l) :
    Calls Tryz.prog 11 #[.slice A n c, .int .i64 (m : Int)] w (PtRes w) := by
  go_enter Tryz.func11, Tryz.ntmps11
  go_wp2_with fail
  refine calls_gen (fun W => Bl w W ∧ Wk 6 28 w.heap.size W) ⟨slc, bts⟩ ?_
  rintro W ⟨hbW, hr⟩
  refine (l31New_any _ (4 * m) (by omega) (h.bl hbW)).mono ?_
  rintro e w1 ⟨g, rfl, hg, hC, hb1⟩
  have hzW : w.heap.size < W.heap.size := hr.lt
  have hr := hr.bl hb1
  have hz := hr.lt
  go_wp2_with fail
  refine (l05Point_any _ hC).mono ?_
  rintro e w2 ⟨s1, A1, n1, c1, B1, m1, d1, t1, C1, i1, e1, D1, j1, f1, p, rfl, hP, hS, hC2, hO⟩
  have hz3 : w.heap.size < w1.heap.size := by omega
  have hr := hr.ob hO (by simp; omega)
  have hbx : Bl w w2 := (hbW.next hb1).ob hO (fun b hb => by simp at hb; omega)
  obtain ⟨v0, x0⟩ := hr.val_ (i := 0) (by omega)
  obtain ⟨v1, x1⟩ := hr.val_ (i := 1) (by omega)
  obtain ⟨v2, x2⟩ := hr.val_ (i := 2) (by omega)
  obtain ⟨v3, x3⟩ := hr.val_ (i := 3) (by omega)
  obtain ⟨v4, x4⟩ := hr.val_ (i := 4) (by omega)
  obtain ⟨v5, x5⟩ := hr.val_ (i := 5) (by omega)
  have hgr := hr.lt
  obtain ⟨cs4, hB4, hc4⟩ := hr
  have hf0 := hB4.frozen 0
  have hf1 := hB4.frozen 1
  have hf2 := hB4.frozen 2
  have hf3 := hB4.frozen 3
  have hf4 := hB4.frozen 4
  have hf5 := hB4.frozen 5
  go_wp2_with fail
  have hQ := OwPN.far' (OwPN.far' (OwPN.far' (OwPN.far' (OwPN.far' (OwPN.far' (hP) (q := ⟨w.heap.size, 0, none⟩) hz3 (.bool s1)) (q := ⟨w.heap.size, 1, none⟩) hz3 (.slice A1 n1 c1)) (q := ⟨w.heap.size, 2, none⟩) hz3 (.slice B1 m1 d1)) (q := ⟨w.heap.size, 3, none⟩) hz3 (.bool t1)) (q := ⟨w.heap.size, 4, none⟩) hz3 (.slice C1 i1 e1)) (q := ⟨w.heap.size, 5, none⟩) hz3 (.slice D1 j1 f1)
  exact bodyPost_ret (v := .agg #[.bool s1, .slice A1 n1 c1, .slice B1 m1 d1, .bool t1, .slice C1 i1 e1, .slice D1 j1 f1]) (by simp [results, Tryz.results11, go_sem, x0, x1, x2, x3, x4, x5]) rfl ⟨_, _, _, _, _, _, _, _, _, _, _, _, _, _, _, rfl, hQ.rdx.1, hQ.rdx.2, hS, slc⟩
end

section
open Go.RowKit

open Classical in
noncomputable def negR (r : RatD) : RatD := if OkR r then raw (-(rn r)) (rd r) else zR
theorem negR_toR {q : Rat} (h : Fit q) : negR (toR q) = toR (-q) := by
  unfold negR
  rw [if_pos h.ok, rn_toR, rd_toR]
  unfold toR
  rw [Rat.neg_num, Rat.neg_den]
/-- The text of a point. -/
noncomputable def ptx (p : PtD) : List UInt8 := rtx (rn p.x) (rd p.x) ++ 44 :: rtx (rn p.y) (rd p.y)
theorem rtx_ok {x : Int} {D : Nat} (h : okR (raw x D) = true) : rtx x D = ftx x D := by unfold rtx; rw [if_pos h]
theorem ftx_no44 (x : Int) (D : Nat) : (44 : UInt8) ∉ ftx x D := ftx_not x D (by decide) (by decide) (by decide)
theorem qv_ftx (x : Int) (D : Nat) : qv (ftx x D) = raw x D := by
  obtain ⟨h1, h2⟩ := ftx_parts x D
  unfold qv
  rw [h1, h2, vI_itx, vD_dD]
theorem ptx_back {p : PtD} (h : OkP p) : PtT (ptx p) ∧ qp (ptx p) = p := by
  obtain ⟨h1, h2⟩ := h
  have e1 := h1.get.1
  have e2 := h2.get.1
  have o1 : okR (raw (rn p.x) (rd p.x)) = true := by rw [← e1]; exact okR_of h1
  have o2 : okR (raw (rn p.y) (rd p.y)) = true := by rw [← e2]; exact okR_of h2
  have et : ptx p = ftx (rn p.x) (rd p.x) ++ 44 :: ftx (rn p.y) (rd p.y) := by unfold ptx; rw [rtx_ok o1, rtx_ok o2]
  obtain ⟨c1, c2⟩ := cut_app (c := 44) (b := ftx (rn p.y) (rd p.y)) (ftx_no44 (rn p.x) (rd p.x))
  rw [et]
  refine ⟨⟨by simp, ?_, ?_⟩, ?_⟩
  · rw [c1]; exact ⟨_, _, o1, rfl⟩
  · rw [c2]; exact ⟨_, _, o2, rfl⟩
  · unfold qp
    rw [c1, c2, qv_ftx, qv_ftx, ← e1, ← e2]
theorem ftx_len {x : Int} {D : Nat} (h : okR (raw x D) = true) : (ftx x D).length ≤ 1100 := by
  obtain ⟨_, _, _, h5, h6⟩ := (okR_true.1 h).get
  rw [rn_raw] at h5
  rw [rd_raw] at h6
  have h1 := itx_len (x := x) (by omega)
  have h2 := len540 h6
  unfold ftx
  split
  · omega
  · rw [List.length_append, List.length_cons]; omega
theorem ptx_len {p : PtD} (h : OkP p) : (ptx p).length ≤ 2201 := by
  obtain ⟨h1, h2⟩ := h
  have o1 : okR (raw (rn p.x) (rd p.x)) = true := by rw [← h1.get.1]; exact okR_of h1
  have o2 : okR (raw (rn p.y) (rd p.y)) = true := by rw [← h2.get.1]; exact okR_of h2
  have l1 := ftx_len o1
  have l2 := ftx_len o2
  unfold ptx
  rw [rtx_ok o1, rtx_ok o2, List.length_append, List.length_cons]
  omega
/-- What FnPoints asks. -/
def PsOk (p q r : PtD) : Prop :=
  OkP p ∧ eqR (dblA p q r) (dblA q r p) = true ∧ eqR (negR (dblA p q r)) (dblA q p r) = true ∧ eqP (subP (addP p q) q) p = true ∧ sgnR (dblA p q (midP p q)) = 0 ∧
  eqP (sclP (ofFrac 2 1) (midP p q)) (addP p q) = true ∧ eqR (innP p q) (innP q p) = true ∧ sgnR (crossP p p) = 0 ∧ OkR (dblA p q r)
theorem eqP_self' (p : PtD) : eqP p p = true := by unfold eqP; rw [eqR_self', eqR_self']; rfl
theorem ps_ok {p q r : PtD} (hp : PtS p) (hq : PtS q) (hr : PtS r) : PsOk p q r := by
  obtain ⟨x0, y0, rfl, a0, b0⟩ := hp
  obtain ⟨x1, y1, rfl, a1, b1⟩ := hq
  obtain ⟨x2, y2, rfl, a2, b2⟩ := hr
  have a0 := B10.pt a0
  have b0 := B10.pt b0
  have a1 := B10.pt a1
  have b1 := B10.pt b1
  have a2 := B10.pt a2
  have b2 := B10.pt b2
  rw [show (⟨toR x0, toR y0⟩ : PtD) = toP x0 y0 from rfl, show (⟨toR x1, toR y1⟩ : PtD) = toP x1 y1 from rfl, show (⟨toR x2, toR y2⟩ : PtD) = toP x2 y2 from rfl]
  obtain ⟨d1, D1⟩ := dblA_b a0 b0 a1 b1 a2 b2 (by omega)
  obtain ⟨d2, D2⟩ := dblA_b a1 b1 a2 b2 a0 b0 (by omega)
  obtain ⟨d3, D3⟩ := dblA_b a1 b1 a0 b0 a2 b2 (by omega)
  have hadd := addP_b a0 b0 a1 b1 (by omega)
  have sx := a0.add a1
  have sy := b0.add b1
  obtain ⟨eh, hh⟩ := frac_b (k := 1) 1 2 (by omega) (by decide) (by decide) (by omega)
  have hmid : midP (toP x0 y0) (toP x1 y1) = toP (mkRat 1 2 * (x0 + x1)) (mkRat 1 2 * (y0 + y1)) := by
    unfold midP
    rw [hadd, eh]
    exact sclP_b hh sx sy (by omega)
  have mx := hh.mul sx
  have my := hh.mul sy
  obtain ⟨d4, D4⟩ := dblA_b (k := 6) (a0.mono (by omega)) (b0.mono (by omega)) (a1.mono (by omega)) (b1.mono (by omega)) (mx.mono (by omega)) (my.mono (by omega)) (by omega)
  obtain ⟨e2, h2⟩ := int_b (k := 1) 2 (by decide) (by omega)
  have hhalf : (mkRat 1 2 : Rat) * 2 = 1 := by decide +kernel
  refine ⟨okP_b a0 b0 (by omega), ?_, ?_, ?_, ?_, ?_, ?_, ?_, by rw [d1]; exact (D1.fit (by omega)).ok⟩
  · rw [d1, d2, show detQ x0 y0 x1 y1 x2 y2 = detQ x1 y1 x2 y2 x0 y0 by unfold detQ; grind]
    exact eqR_self' _
  · rw [d1, d3, negR_toR (D1.fit (by omega)), show -detQ x0 y0 x1 y1 x2 y2 = detQ x1 y1 x0 y0 x2 y2 by unfold detQ; grind]
    exact eqR_self' _
  · rw [hadd, subP_b sx sy a1 b1 (by omega), show x0 + x1 - x1 = x0 by grind, show y0 + y1 - y1 = y0 by grind]
    exact eqP_self' _
  · rw [hmid, d4]
    refine sgn_zero D4 (by omega) ?_
    unfold detQ
    grind
  · have e2 : ofFrac 2 1 = toR 2 := e2
    have h2 : B10 1 (2 : Rat) := h2
    rw [hmid, hadd, e2, sclP_b h2 mx my (by omega), show (2 : Rat) * (mkRat 1 2 * (x0 + x1)) = x0 + x1 by grind, show (2 : Rat) * (mkRat 1 2 * (y0 + y1)) = y0 + y1 by grind]
    exact eqP_self' _
  · have i1 : ∀ (u v u' v' : Rat), B10 2 u → B10 2 v → B10 2 u' → B10 2 v' → innP (toP u v) (toP u' v') = toR (u * u' + v * v') := fun u v u' v' hu hv hu' hv' => by
      show addR (mulR (toR u) (toR u')) (mulR (toR v) (toR v')) = _
      rw [mulR_b hu hu' (by omega), mulR_b hv hv' (by omega), addR_b (hu.mul hu') (hv.mul hv') (by omega)]
    rw [i1 _ _ _ _ a0 b0 a1 b1, i1 _ _ _ _ a1 b1 a0 b0, show x0 * x1 + y0 * y1 = x1 * x0 + y1 * y0 by grind]
    exact eqR_self' _
  · show sgnR (subR (mulR (toR x0) (toR y0)) (mulR (toR y0) (toR x0))) = 0
    rw [mulR_b a0 b0 (by omega), mulR_b b0 a0 (by omega), subR_b (a0.mul b0) (b0.mul a0) (by omega)]
    exact sgn_zero ((a0.mul b0).sub (b0.mul a0)) (by omega) (by grind)
end

end Go.Proofs.YtjaapemopbbfaaaGreatDoor
