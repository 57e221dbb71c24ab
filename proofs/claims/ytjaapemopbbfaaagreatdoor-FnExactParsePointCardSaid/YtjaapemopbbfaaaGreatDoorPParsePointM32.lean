/- Lemmas. -/
import Derived.Test.YtjaapemopbbfaaaGreatDoorRows
import Derived.Test.YtjaapemopbbfaaaGreatDoorPParsePointM31
import Derived.Test.YtjaapemopbbfaaaGreatDoorPParsePointM18
import Derived.Test.YtjaapemopbbfaaaGreatDoorPParsePointM22
namespace Go.Proofs.YtjaapemopbbfaaaGreatDoor
section
open Go.RowKit

/-- The text of a valid point. -/
def PtT (l : List UInt8) : Prop := 44 ∈ l ∧ OkT (cutA 44 l) ∧ OkT (cutB 44 l)
/-- The point that is spelled. -/
def qp (l : List UInt8) : PtD := ⟨qv (cutA 44 l), qv (cutB 44 l)⟩
theorem OkT.no44 {l : List UInt8} (h : OkT l) : (44 : UInt8) ∉ l := by
  obtain ⟨x, D, _, rfl⟩ := h
  exact ftx_not x D (by decide) (by decide) (by decide)
theorem PtT.two {l : List UInt8} (h : PtT l) : (pcs 44 l).length = 2 := by rw [pcs_yes h.1, List.length_cons, pcs_one.2 h.2.2.no44]
/-- What the program's ParsePoint returns. -/
def PtRes (w : World) (s : ByteArray) (e : Ending) (w' : World) : Prop :=
  ((PtT (bl s) ∧ ∃ s1 A1 n1 c1 B1 m1 d1 s2 A2 n2 c2 B2 m2 d2, e = .returned (.tuple #[.agg #[.bool s1, .slice A1 n1 c1, .slice B1 m1 d1, .bool s2, .slice A2 n2 c2, .slice B2 m2 d2], .bool true]) ∧ OwP 3 w.heap.size w' s1 A1 n1 c1 B1 m1 d1 s2 A2 n2 c2 B2 m2 d2 (qp (bl s))) ∨ (¬ PtT (bl s) ∧ e = .returned (.tuple #[.agg #[.bool false, .slice none 0 0, .slice none 0 0, .bool false, .slice none 0 0, .slice none 0 0], .bool false]))) ∧ Bl w w'
/-- What the reference's ParsePoint returns. -/
def PtRd (w : World) (s : ByteArray) (e : Ending) (w' : World) : Prop :=
  ((PtT (bl s) ∧ ∃ s1 A1 n1 c1 B1 m1 d1 s2 A2 n2 c2 B2 m2 d2, e = .returned (.tuple #[.agg #[.bool s1, .slice A1 n1 c1, .slice B1 m1 d1, .bool s2, .slice A2 n2 c2, .slice B2 m2 d2], .bool true]) ∧ RdR w' s1 A1 n1 c1 B1 m1 d1 (qp (bl s)).x ∧ RdR w' s2 A2 n2 c2 B2 m2 d2 (qp (bl s)).y) ∨ (¬ PtT (bl s) ∧ e = .returned (.tuple #[.agg #[.bool false, .slice none 0 0, .slice none 0 0, .bool false, .slice none 0 0, .slice none 0 0], .bool false]))) ∧ Bl w w'

set_option maxHeartbeats 12800000 in
set_option maxRecDepth 100000 in
theorem ParsePoint_any (w : World) (s : ByteArray) (hs : s.size ≤ 1048576) (hE : Env w) :
    Calls Tryz.prog 7 #[.string s] w (PtRes w s) := by
  obtain ⟨mx, hmx⟩ := hE.2
  have hmx := Lib.hid hmx; rename_i hmx_; clear hmx_
  have hE := Lib.hid hE; rename_i hE_; clear hE_
  have hcut0 := cut_one 44 (bl s)
  have hs1 := Nat.le_trans (cutA_bl s 44) hs
  have hsz := bl_len s
  by_cases h44 : 44 ∈ bl s
  · rw [if_pos h44] at hcut0
    have hcut : Lib.cut s.data.toList (sb [44]).data.toList = (cutA 44 (bl s), cutB 44 (bl s), true) := hcut0
    have hs2 : (sb (cutB 44 (bl s))).size ≤ 1048576 := by rw [sb_size]; have := cutB_le 44 (bl s); omega
    have h44 := Lib.hid h44; rename_i h_; clear h_
    clear hcut0 hsz
    go_enter Tryz.func7, Tryz.ntmps7
    go_upto_region 1 with (fail)
    refine wp_gen (fun W => Bl w W ∧ ∃ r, Wk 6 28 r W ∧ r = w.heap.size) ⟨slc, _, by exact bts, rfl⟩ ?_
    rintro W0 ⟨hbW, r, hr, hre⟩
    rw [← hre]
    have hrw : w.heap.size ≤ r := by omega
    clear hre
    go_wp2_with (first
      | (go_at_call 37; refine (Tryz.strings_Cut s (sb [44]) mx _ (by omega) ((Bl.cellOf hbW (cell_lt hmx.out)).trans hmx.out)).mono ?_; rw [hcut]; rintro e w1 ⟨rfl, hq1⟩; have hb1 := q_bl hq1; clear hq1)
      | (go_at_call 38; refine (ParseRat_any w1 (sb (cutA 44 (bl s))) hs1 (hE.out.bl (hbW.next hb1))).mono ?_))
    rintro e w2 ⟨(⟨hT1, s1, A1, n1, c1, B1, m1, d1, rfl, hO1⟩ | ⟨hT1, rfl⟩), hb2⟩
    · go_upto_region 3 with (fail)
      refine wp_gen (fun W => Bl w2 W ∧ ∃ g, Blk W g 26 #[.bool s1, .slice A1 n1 c1, .slice B1 m1 d1] ∧ g = w2.heap.size) ⟨slc, _, by exact bts, rfl⟩ ?_
      rintro W2 ⟨hb3, g, hgx, hge⟩
      rw [← hge]
      have hgw : w2.heap.size ≤ g := by omega
      clear hge
      have hbw2 : Bl w W2 := ((hbW.next hb1).next hb2).next hb3
      have hbr2 : Bl W0 W2 := (hb1.next hb2).next hb3
      go_wp2_with (go_at_call 38; refine (ParseRat_any W2 (sb (cutB 44 (bl s))) hs2 (hE.out.bl hbw2)).mono ?_)
      rintro e w4 ⟨(⟨hT2, s2, A2, n2, c2, B2, m2, d2, rfl, hO2⟩ | ⟨hT2, rfl⟩), hb4⟩
      · go_upto_region 4 with (fail)
        refine wp_gen (fun W => Bl w4 W ∧ ∃ k, Blk W k 26 #[.bool s2, .slice A2 n2 c2, .slice B2 m2 d2] ∧ k = w4.heap.size) ⟨slc, _, by exact bts, rfl⟩ ?_
        rintro W4 ⟨hb5, k, hkx, hke⟩
        rw [← hke]
        have hkw : w4.heap.size ≤ k := by omega
        clear hke
        have hbw4 := hbw2.next (hb4.next hb5)
        have hgx4 := hgx.bl (hb4.next hb5)
        have hyes : Hid (PtT (bl s)) := Lib.hid ⟨h44.out, hT1, hT2⟩
        obtain ⟨y0, y1, y2⟩ := bx3 hgx4
        obtain ⟨z0, z1, z2⟩ := bx3 hkx
        have hrg : r ≠ g := by have h1 := hr.lt; have h2 := hb1.size; have h3 := hb2.size; omega
        have hrk : r ≠ k := by have h1 := hr.lt; have h2 := hbr2.size; have h3 := hb4.size; omega
        have hPt : OwP 3 W0.heap.size W4 s1 A1 n1 c1 B1 m1 d1 s2 A2 n2 c2 B2 m2 d2 ⟨qv (cutA 44 (bl s)), qv (cutB 44 (bl s))⟩ := (OwP.two (p := ⟨qv (cutA 44 (bl s)), qv (cutB 44 (bl s))⟩) (OwR.mono (hO1.bl hb3) hb1.size) hO2 hb4 hbr2.size).bl hb5
        have hr2 := hr.bl (hbr2.next (hb4.next hb5))
        obtain ⟨v0, x0⟩ := hr2.val_ (i := 0) (by omega)
        obtain ⟨v1, x1⟩ := hr2.val_ (i := 1) (by omega)
        obtain ⟨v2, x2⟩ := hr2.val_ (i := 2) (by omega)
        obtain ⟨v3, x3⟩ := hr2.val_ (i := 3) (by omega)
        obtain ⟨v4, x4⟩ := hr2.val_ (i := 4) (by omega)
        obtain ⟨v5, x5⟩ := hr2.val_ (i := 5) (by omega)
        have hgr := hr2.lt
        have hB := hr2.blk
        have hf0 := hB.frozen 0
        have hf1 := hB.frozen 1
        have hf2 := hB.frozen 2
        have hf3 := hB.frozen 3
        have hf4 := hB.frozen 4
        have hf5 := hB.frozen 5
        go_wp2_with fail
        refine bodyPost_ret (v := .tuple #[.agg #[.bool s1, .slice A1 n1 c1, .slice B1 m1 d1, .bool s2, .slice A2 n2 c2, .slice B2 m2 d2], .bool true]) (by simp [results, Tryz.results7, go_sem, x0, x1, x2, x3, x4, x5]) rfl ⟨.inl ⟨hyes.out, _, _, _, _, _, _, _, _, _, _, _, _, _, _, rfl, ((((((hPt.far (q := ⟨r, 0, none⟩) (show r < W0.heap.size from hr.lt) _).far (q := ⟨r, 1, none⟩) (show r < W0.heap.size from hr.lt) _).far (q := ⟨r, 2, none⟩) (show r < W0.heap.size from hr.lt) _).far (q := ⟨r, 3, none⟩) (show r < W0.heap.size from hr.lt) _).far (q := ⟨r, 4, none⟩) (show r < W0.heap.size from hr.lt) _).far (q := ⟨r, 5, none⟩) (show r < W0.heap.size from hr.lt) _).low hbW.size⟩, slc⟩
      · go_upto_region 4 with (fail)
        refine wp_gen (fun W => Bl w4 W ∧ ∃ k, Blk W k 26 #[.bool false, .slice none 0 0, .slice none 0 0] ∧ k = w4.heap.size) ⟨slc, _, by exact bts, rfl⟩ ?_
        rintro W4 ⟨hb5, k, hkx, hke⟩
        rw [← hke]
        have hkw : w4.heap.size ≤ k := by omega
        clear hke
        have hbw4 := hbw2.next (hb4.next hb5)
        have hgx4 := hgx.bl (hb4.next hb5)
        have hno : Hid (¬ PtT (bl s)) := Lib.hid (fun h => hT2 h.2.2)
        have hr2 := hr.bl (hbr2.next (hb4.next hb5))
        obtain ⟨v0, x0⟩ := hr2.val_ (i := 0) (by omega)
        obtain ⟨v1, x1⟩ := hr2.val_ (i := 1) (by omega)
        obtain ⟨v2, x2⟩ := hr2.val_ (i := 2) (by omega)
        obtain ⟨v3, x3⟩ := hr2.val_ (i := 3) (by omega)
        obtain ⟨v4, x4⟩ := hr2.val_ (i := 4) (by omega)
        obtain ⟨v5, x5⟩ := hr2.val_ (i := 5) (by omega)
        have hgr := hr2.lt
        have hB := hr2.blk
        have hf0 := hB.frozen 0
        have hf1 := hB.frozen 1
        have hf2 := hB.frozen 2
        have hf3 := hB.frozen 3
        have hf4 := hB.frozen 4
        have hf5 := hB.frozen 5
        go_wp2_with fail
        refine bodyPost_ret (v := .tuple #[.agg #[.bool false, .slice none 0 0, .slice none 0 0, .bool false, .slice none 0 0, .slice none 0 0], .bool false]) (by simp [results, Tryz.results7, go_sem, x0, x1, x2, x3, x4, x5]) rfl ⟨.inr ⟨hno.out, rfl⟩, slc⟩
    · go_upto_region 3 with (fail)
      refine wp_gen (fun W => Bl w2 W ∧ ∃ g, Blk W g 26 #[.bool false, .slice none 0 0, .slice none 0 0] ∧ g = w2.heap.size) ⟨slc, _, by exact bts, rfl⟩ ?_
      rintro W2 ⟨hb3, g, hgx, hge⟩
      rw [← hge]
      have hgw : w2.heap.size ≤ g := by omega
      clear hge
      have hbw2 : Bl w W2 := ((hbW.next hb1).next hb2).next hb3
      have hbr2 : Bl W0 W2 := (hb1.next hb2).next hb3
      go_wp2_with (go_at_call 38; refine (ParseRat_any W2 (sb (cutB 44 (bl s))) hs2 (hE.out.bl hbw2)).mono ?_)
      rintro e w4 ⟨(⟨hT2, s2, A2, n2, c2, B2, m2, d2, rfl, hO2⟩ | ⟨hT2, rfl⟩), hb4⟩
      · go_upto_region 4 with (fail)
        refine wp_gen (fun W => Bl w4 W ∧ ∃ k, Blk W k 26 #[.bool s2, .slice A2 n2 c2, .slice B2 m2 d2] ∧ k = w4.heap.size) ⟨slc, _, by exact bts, rfl⟩ ?_
        rintro W4 ⟨hb5, k, hkx, hke⟩
        rw [← hke]
        have hkw : w4.heap.size ≤ k := by omega
        clear hke
        have hbw4 := hbw2.next (hb4.next hb5)
        have hgx4 := hgx.bl (hb4.next hb5)
        have hno : Hid (¬ PtT (bl s)) := Lib.hid (fun h => hT1 h.2.1)
        have hr2 := hr.bl (hbr2.next (hb4.next hb5))
        obtain ⟨v0, x0⟩ := hr2.val_ (i := 0) (by omega)
        obtain ⟨v1, x1⟩ := hr2.val_ (i := 1) (by omega)
        obtain ⟨v2, x2⟩ := hr2.val_ (i := 2) (by omega)
        obtain ⟨v3, x3⟩ := hr2.val_ (i := 3) (by omega)
        obtain ⟨v4, x4⟩ := hr2.val_ (i := 4) (by omega)
        obtain ⟨v5, x5⟩ := hr2.val_ (i := 5) (by omega)
        have hgr := hr2.lt
        have hB := hr2.blk
        have hf0 := hB.frozen 0
        have hf1 := hB.frozen 1
        have hf2 := hB.frozen 2
        have hf3 := hB.frozen 3
        have hf4 := hB.frozen 4
        have hf5 := hB.frozen 5
        go_wp2_with fail
        refine bodyPost_ret (v := .tuple #[.agg #[.bool false, .slice none 0 0, .slice none 0 0, .bool false, .slice none 0 0, .slice none 0 0], .bool false]) (by simp [results, Tryz.results7, go_sem, x0, x1, x2, x3, x4, x5]) rfl ⟨.inr ⟨hno.out, rfl⟩, slc⟩
      · go_upto_region 4 with (fail)
        refine wp_gen (fun W => Bl w4 W ∧ ∃ k, Blk W k 26 #[.bool false, .slice none 0 0, .slice none 0 0] ∧ k = w4.heap.size) ⟨slc, _, by exact bts, rfl⟩ ?_
        rintro W4 ⟨hb5, k, hkx, hke⟩
        rw [← hke]
        have hkw : w4.heap.size ≤ k := by omega
        clear hke
        have hbw4 := hbw2.next (hb4.next hb5)
        have hgx4 := hgx.bl (hb4.next hb5)
        have hno : Hid (¬ PtT (bl s)) := Lib.hid (fun h => hT1 h.2.1)
        have hr2 := hr.bl (hbr2.next (hb4.next hb5))
        obtain ⟨v0, x0⟩ := hr2.val_ (i := 0) (by omega)
        obtain ⟨v1, x1⟩ := hr2.val_ (i := 1) (by omega)
        obtain ⟨v2, x2⟩ := hr2.val_ (i := 2) (by omega)
        obtain ⟨v3, x3⟩ := hr2.val_ (i := 3) (by omega)
        obtain ⟨v4, x4⟩ := hr2.val_ (i := 4) (by omega)
        obtain ⟨v5, x5⟩ := hr2.val_ (i := 5) (by omega)
        have hgr := hr2.lt
        have hB := hr2.blk
        have hf0 := hB.frozen 0
        have hf1 := hB.frozen 1
        have hf2 := hB.frozen 2
        have hf3 := hB.frozen 3
        have hf4 := hB.frozen 4
        have hf5 := hB.frozen 5
        go_wp2_with fail
        refine bodyPost_ret (v := .tuple #[.agg #[.bool false, .slice none 0 0, .slice none 0 0, .bool false, .slice none 0 0, .slice none 0 0], .bool false]) (by simp [results, Tryz.results7, go_sem, x0, x1, x2, x3, x4, x5]) rfl ⟨.inr ⟨hno.out, rfl⟩, slc⟩
  · rw [if_neg h44] at hcut0
    have hcut : Lib.cut s.data.toList (sb [44]).data.toList = (cutA 44 (bl s), [], false) := by rw [cutA_id h44]; exact hcut0
    have hs2 : (sb []).size ≤ 1048576 := by rw [sb_size]; decide
    have h44 := Lib.hid h44; rename_i h_; clear h_
    clear hcut0 hsz
    go_enter Tryz.func7, Tryz.ntmps7
    go_upto_region 1 with (fail)
    refine wp_gen (fun W => Bl w W ∧ ∃ r, Wk 6 28 r W ∧ r = w.heap.size) ⟨slc, _, by exact bts, rfl⟩ ?_
    rintro W0 ⟨hbW, r, hr, hre⟩
    rw [← hre]
    have hrw : w.heap.size ≤ r := by omega
    clear hre
    go_wp2_with (first
      | (go_at_call 37; refine (Tryz.strings_Cut s (sb [44]) mx _ (by omega) ((Bl.cellOf hbW (cell_lt hmx.out)).trans hmx.out)).mono ?_; rw [hcut]; rintro e w1 ⟨rfl, hq1⟩; have hb1 := q_bl hq1; clear hq1)
      | (go_at_call 38; refine (ParseRat_any w1 (sb (cutA 44 (bl s))) hs1 (hE.out.bl (hbW.next hb1))).mono ?_))
    rintro e w2 ⟨(⟨hT1, s1, A1, n1, c1, B1, m1, d1, rfl, hO1⟩ | ⟨hT1, rfl⟩), hb2⟩
    · go_upto_region 3 with (fail)
      refine wp_gen (fun W => Bl w2 W ∧ ∃ g, Blk W g 26 #[.bool s1, .slice A1 n1 c1, .slice B1 m1 d1] ∧ g = w2.heap.size) ⟨slc, _, by exact bts, rfl⟩ ?_
      rintro W2 ⟨hb3, g, hgx, hge⟩
      rw [← hge]
      have hgw : w2.heap.size ≤ g := by omega
      clear hge
      have hbw2 : Bl w W2 := ((hbW.next hb1).next hb2).next hb3
      have hbr2 : Bl W0 W2 := (hb1.next hb2).next hb3
      go_wp2_with (go_at_call 38; refine (ParseRat_any W2 (sb ([])) hs2 (hE.out.bl hbw2)).mono ?_)
      rintro e w4 ⟨(⟨hT2, s2, A2, n2, c2, B2, m2, d2, rfl, hO2⟩ | ⟨hT2, rfl⟩), hb4⟩
      · go_upto_region 4 with (fail)
        refine wp_gen (fun W => Bl w4 W ∧ ∃ k, Blk W k 26 #[.bool s2, .slice A2 n2 c2, .slice B2 m2 d2] ∧ k = w4.heap.size) ⟨slc, _, by exact bts, rfl⟩ ?_
        rintro W4 ⟨hb5, k, hkx, hke⟩
        rw [← hke]
        have hkw : w4.heap.size ≤ k := by omega
        clear hke
        have hbw4 := hbw2.next (hb4.next hb5)
        have hgx4 := hgx.bl (hb4.next hb5)
        have hno : Hid (¬ PtT (bl s)) := Lib.hid (fun h => h44.out h.1)
        have hr2 := hr.bl (hbr2.next (hb4.next hb5))
        obtain ⟨v0, x0⟩ := hr2.val_ (i := 0) (by omega)
        obtain ⟨v1, x1⟩ := hr2.val_ (i := 1) (by omega)
        obtain ⟨v2, x2⟩ := hr2.val_ (i := 2) (by omega)
        obtain ⟨v3, x3⟩ := hr2.val_ (i := 3) (by omega)
        obtain ⟨v4, x4⟩ := hr2.val_ (i := 4) (by omega)
        obtain ⟨v5, x5⟩ := hr2.val_ (i := 5) (by omega)
        have hgr := hr2.lt
        have hB := hr2.blk
        have hf0 := hB.frozen 0
        have hf1 := hB.frozen 1
        have hf2 := hB.frozen 2
        have hf3 := hB.frozen 3
        have hf4 := hB.frozen 4
        have hf5 := hB.frozen 5
        go_wp2_with fail
        refine bodyPost_ret (v := .tuple #[.agg #[.bool false, .slice none 0 0, .slice none 0 0, .bool false, .slice none 0 0, .slice none 0 0], .bool false]) (by simp [results, Tryz.results7, go_sem, x0, x1, x2, x3, x4, x5]) rfl ⟨.inr ⟨hno.out, rfl⟩, slc⟩
      · go_upto_region 4 with (fail)
        refine wp_gen (fun W => Bl w4 W ∧ ∃ k, Blk W k 26 #[.bool false, .slice none 0 0, .slice none 0 0] ∧ k = w4.heap.size) ⟨slc, _, by exact bts, rfl⟩ ?_
        rintro W4 ⟨hb5, k, hkx, hke⟩
        rw [← hke]
        have hkw : w4.heap.size ≤ k := by omega
        clear hke
        have hbw4 := hbw2.next (hb4.next hb5)
        have hgx4 := hgx.bl (hb4.next hb5)
        have hno : Hid (¬ PtT (bl s)) := Lib.hid (fun h => h44.out h.1)
        have hr2 := hr.bl (hbr2.next (hb4.next hb5))
        obtain ⟨v0, x0⟩ := hr2.val_ (i := 0) (by omega)
        obtain ⟨v1, x1⟩ := hr2.val_ (i := 1) (by omega)
        obtain ⟨v2, x2⟩ := hr2.val_ (i := 2) (by omega)
        obtain ⟨v3, x3⟩ := hr2.val_ (i := 3) (by omega)
        obtain ⟨v4, x4⟩ := hr2.val_ (i := 4) (by omega)
        obtain ⟨v5, x5⟩ := hr2.val_ (i := 5) (by omega)
        have hgr := hr2.lt
        have hB := hr2.blk
        have hf0 := hB.frozen 0
        have hf1 := hB.frozen 1
        have hf2 := hB.frozen 2
        have hf3 := hB.frozen 3
        have hf4 := hB.frozen 4
        have hf5 := hB.frozen 5
        go_wp2_with fail
        refine bodyPost_ret (v := .tuple #[.agg #[.bool false, .slice none 0 0, .slice none 0 0, .bool false, .slice none 0 0, .slice none 0 0], .bool false]) (by simp [results, Tryz.results7, go_sem, x0, x1, x2, x3, x4, x5]) rfl ⟨.inr ⟨hno.out, rfl⟩, slc⟩
    · go_upto_region 3 with (fail)
      refine wp_gen (fun W => Bl w2 W ∧ ∃ g, Blk W g 26 #[.bool false, .slice none 0 0, .slice none 0 0] ∧ g = w2.heap.size) ⟨slc, _, by exact bts, rfl⟩ ?_
      rintro W2 ⟨hb3, g, hgx, hge⟩
      rw [← hge]
      have hgw : w2.heap.size ≤ g := by omega
      clear hge
      have hbw2 : Bl w W2 := ((hbW.next hb1).next hb2).next hb3
      have hbr2 : Bl W0 W2 := (hb1.next hb2).next hb3
      go_wp2_with (go_at_call 38; refine (ParseRat_any W2 (sb ([])) hs2 (hE.out.bl hbw2)).mono ?_)
      rintro e w4 ⟨(⟨hT2, s2, A2, n2, c2, B2, m2, d2, rfl, hO2⟩ | ⟨hT2, rfl⟩), hb4⟩
      · go_upto_region 4 with (fail)
        refine wp_gen (fun W => Bl w4 W ∧ ∃ k, Blk W k 26 #[.bool s2, .slice A2 n2 c2, .slice B2 m2 d2] ∧ k = w4.heap.size) ⟨slc, _, by exact bts, rfl⟩ ?_
        rintro W4 ⟨hb5, k, hkx, hke⟩
        rw [← hke]
        have hkw : w4.heap.size ≤ k := by omega
        clear hke
        have hbw4 := hbw2.next (hb4.next hb5)
        have hgx4 := hgx.bl (hb4.next hb5)
        have hno : Hid (¬ PtT (bl s)) := Lib.hid (fun h => h44.out h.1)
        have hr2 := hr.bl (hbr2.next (hb4.next hb5))
        obtain ⟨v0, x0⟩ := hr2.val_ (i := 0) (by omega)
        obtain ⟨v1, x1⟩ := hr2.val_ (i := 1) (by omega)
        obtain ⟨v2, x2⟩ := hr2.val_ (i := 2) (by omega)
        obtain ⟨v3, x3⟩ := hr2.val_ (i := 3) (by omega)
        obtain ⟨v4, x4⟩ := hr2.val_ (i := 4) (by omega)
        obtain ⟨v5, x5⟩ := hr2.val_ (i := 5) (by omega)
        have hgr := hr2.lt
        have hB := hr2.blk
        have hf0 := hB.frozen 0
        have hf1 := hB.frozen 1
        have hf2 := hB.frozen 2
        have hf3 := hB.frozen 3
        have hf4 := hB.frozen 4
        have hf5 := hB.frozen 5
        go_wp2_with fail
        refine bodyPost_ret (v := .tuple #[.agg #[.bool false, .slice none 0 0, .slice none 0 0, .bool false, .slice none 0 0, .slice none 0 0], .bool false]) (by simp [results, Tryz.results7, go_sem, x0, x1, x2, x3, x4, x5]) rfl ⟨.inr ⟨hno.out, rfl⟩, slc⟩
      · go_upto_region 4 with (fail)
        refine wp_gen (fun W => Bl w4 W ∧ ∃ k, Blk W k 26 #[.bool false, .slice none 0 0, .slice none 0 0] ∧ k = w4.heap.size) ⟨slc, _, by exact bts, rfl⟩ ?_
        rintro W4 ⟨hb5, k, hkx, hke⟩
        rw [← hke]
        have hkw : w4.heap.size ≤ k := by omega
        clear hke
        have hbw4 := hbw2.next (hb4.next hb5)
        have hgx4 := hgx.bl (hb4.next hb5)
        have hno : Hid (¬ PtT (bl s)) := Lib.hid (fun h => h44.out h.1)
        have hr2 := hr.bl (hbr2.next (hb4.next hb5))
        obtain ⟨v0, x0⟩ := hr2.val_ (i := 0) (by omega)
        obtain ⟨v1, x1⟩ := hr2.val_ (i := 1) (by omega)
        obtain ⟨v2, x2⟩ := hr2.val_ (i := 2) (by omega)
        obtain ⟨v3, x3⟩ := hr2.val_ (i := 3) (by omega)
        obtain ⟨v4, x4⟩ := hr2.val_ (i := 4) (by omega)
        obtain ⟨v5, x5⟩ := hr2.val_ (i := 5) (by omega)
        have hgr := hr2.lt
        have hB := hr2.blk
        have hf0 := hB.frozen 0
        have hf1 := hB.frozen 1
        have hf2 := hB.frozen 2
        have hf3 := hB.frozen 3
        have hf4 := hB.frozen 4
        have hf5 := hB.frozen 5
        go_wp2_with fail
        refine bodyPost_ret (v := .tuple #[.agg #[.bool false, .slice none 0 0, .slice none 0 0, .bool false, .slice none 0 0, .slice none 0 0], .bool false]) (by simp [results, Tryz.results7, go_sem, x0, x1, x2, x3, x4, x5]) rfl ⟨.inr ⟨hno.out, rfl⟩, slc⟩
end

end Go.Proofs.YtjaapemopbbfaaaGreatDoor
