/- Lemmas. -/
import Derived.Test.YtjaapemopbbfaaaGreatDoorRows
import Derived.Test.YtjaapemopbbfaaaGreatDoorPParsePointM32
import Derived.Test.YtjaapemopbbfaaaGreatDoorPParsePointM33
import Derived.Test.YtjaapemopbbfaaaGreatDoorPParsePointM17
namespace Go.Proofs.YtjaapemopbbfaaaGreatDoor
section
open Go.RowKit

set_option maxHeartbeats 12800000 in
set_option maxRecDepth 100000 in
theorem sParsePoint_any (w : World) (s : ByteArray) (hs : s.size ≤ 1048576) :
    Calls Tryz.prog 6 #[.string s] w (PtRd w s) := by
  have hs1 := Nat.le_trans (cutA_bl s 44) hs
  have hsz := bl_len s
  by_cases hn2 : (pcs 44 (bl s)).length = 2
  · obtain ⟨h44, hp2⟩ := pcs_two hn2
    have hp2 : Hid ((pcs 44 (bl s)).length = 2 ∧ (pcs 44 (bl s)).getD 1 [] = cutB 44 (bl s)) := Lib.hid ⟨hn2, by rw [hp2]; rfl⟩
    have h44 := Lib.hid h44; rename_i h_; clear h_
    have hs2 : (sb (cutB 44 (bl s))).size ≤ 1048576 := by rw [sb_size]; have := cutB_le 44 (bl s); omega
    clear hsz
    go_enter Tryz.func6, Tryz.ntmps6
    go_upto_region 1 with (fail)
    refine wp_gen (fun W => Bl w W ∧ ∃ r, Wk 6 28 r W ∧ r = w.heap.size) ⟨slc, _, by exact bts, rfl⟩ ?_
    rintro W0 ⟨hbW, r, hr, hre⟩
    rw [← hre]
    have hrw : w.heap.size ≤ r := by omega
    clear hre
    go_wp2_with (go_at_call 35; refine (sSplitAny_any _ s 44 hs).mono ?_)
    rintro e w1 ⟨As, caps, rfl, hSt, hb1⟩
    obtain ⟨ads, rfl, hads, hc0⟩ := hSt.2 0 (by omega)
    rw [pcs_head, addr_zero] at hc0
    obtain ⟨ads', ea, _, hc1⟩ := hSt.2 1 (by omega)
    cases ea
    rw [hp2.out.2] at hc1
    have hc1 : w1.cell? (ads.add 1) = some (.string (sb (cutB 44 (bl s)))) := hc1
    rw [hn2]
    clear hSt
    go_wp2_with (go_at_call 36; refine (sParseRat_any w1 (sb (cutA 44 (bl s))) hs1).mono ?_)
    rintro e w2 ⟨(⟨hT1, s1, A1, n1, c1, B1, m1, d1, rfl, hO1⟩ | ⟨hT1, rfl⟩), hb2⟩
    · go_upto_region 5 with (fail)
      refine wp_gen (fun W => Bl w2 W ∧ ∃ g, Blk W g 26 #[.bool s1, .slice A1 n1 c1, .slice B1 m1 d1] ∧ g = w2.heap.size) ⟨slc, _, by exact bts, rfl⟩ ?_
      rintro W2 ⟨hb3, g, hgx, hge⟩
      rw [← hge]
      have hgw : w2.heap.size ≤ g := by omega
      clear hge
      have hbw2 : Bl w W2 := ((hbW.next hb1).next hb2).next hb3
      have hbr2 : Bl W0 W2 := (hb1.next hb2).next hb3
      have hc1' := (Bl.cellOf (hb2.next hb3) (p := ads.add 1) (by rw [block_add]; exact hads)).trans hc1
      have hc1' : W2.cell? ⟨ads.block, ads.off + 1, none⟩ = some (.string (sb (cutB 44 (bl s)))) := by simpa [Addr.add] using hc1'
      go_wp2_with (go_at_call 36; refine (sParseRat_any W2 (sb (cutB 44 (bl s))) hs2).mono ?_)
      rintro e w4 ⟨(⟨hT2, s2, A2, n2, c2, B2, m2, d2, rfl, hO2⟩ | ⟨hT2, rfl⟩), hb4⟩
      · go_upto_region 6 with (fail)
        refine wp_gen (fun W => Bl w4 W ∧ ∃ k, Blk W k 26 #[.bool s2, .slice A2 n2 c2, .slice B2 m2 d2] ∧ k = w4.heap.size) ⟨slc, _, by exact bts, rfl⟩ ?_
        rintro W4 ⟨hb5, k, hkx, hke⟩
        rw [← hke]
        have hkw : w4.heap.size ≤ k := by omega
        clear hke
        have hbw4 := hbw2.next (hb4.next hb5)
        have hgx4 := hgx.bl (hb4.next hb5)
        have hyes : Hid (PtT (bl s)) := Lib.hid ⟨h44.out, hT1, hT2⟩
        obtain ⟨y0, y1, y2⟩ := bx3 hgx4
        obtain ⟨z0, z1, z2⟩ := bx3 hkx
        have hrg : r ≠ g := by have h1 := hr.lt; have h2 := hb1.size; have h3 := hb2.size; omega
        have hrk : r ≠ k := by have h1 := hr.lt; have h2 := hbr2.size; have h3 := hb4.size; omega
        have hO1 := OwW.low hO1 hb1.size
        have hO2 := OwW.low hO2 hbr2.size
        have hr2 := hr.bl (hbr2.next (hb4.next hb5))
        obtain ⟨v0, x0⟩ := hr2.val_ (i := 0) (by omega)
        obtain ⟨v1, x1⟩ := hr2.val_ (i := 1) (by omega)
        obtain ⟨v2, x2⟩ := hr2.val_ (i := 2) (by omega)
        obtain ⟨v3, x3⟩ := hr2.val_ (i := 3) (by omega)
        obtain ⟨v4, x4⟩ := hr2.val_ (i := 4) (by omega)
        obtain ⟨v5, x5⟩ := hr2.val_ (i := 5) (by omega)
        have hgr := hr2.lt
        have hB := hr2.blk
        have hf0 := hB.frozen 0
        have hf1 := hB.frozen 1
        have hf2 := hB.frozen 2
        have hf3 := hB.frozen 3
        have hf4 := hB.frozen 4
        have hf5 := hB.frozen 5
        go_wp2_with fail
        refine bodyPost_ret (v := .tuple #[.agg #[.bool s1, .slice A1 n1 c1, .slice B1 m1 d1, .bool s2, .slice A2 n2 c2, .slice B2 m2 d2], .bool true]) (by simp [results, Tryz.results6, go_sem, x0, x1, x2, x3, x4, x5]) rfl ⟨.inl ⟨hyes.out, _, _, _, _, _, _, _, _, _, _, _, _, _, _, rfl, (((((((hO1.bl (hb3.next (hb4.next hb5))).far (p := ⟨r, 0, none⟩) (show r < W0.heap.size from hr.lt) _).far (p := ⟨r, 1, none⟩) (show r < W0.heap.size from hr.lt) _).far (p := ⟨r, 2, none⟩) (show r < W0.heap.size from hr.lt) _).far (p := ⟨r, 3, none⟩) (show r < W0.heap.size from hr.lt) _).far (p := ⟨r, 4, none⟩) (show r < W0.heap.size from hr.lt) _).far (p := ⟨r, 5, none⟩) (show r < W0.heap.size from hr.lt) _).rd, (((((((hO2.bl hb5).far (p := ⟨r, 0, none⟩) (show r < W0.heap.size from hr.lt) _).far (p := ⟨r, 1, none⟩) (show r < W0.heap.size from hr.lt) _).far (p := ⟨r, 2, none⟩) (show r < W0.heap.size from hr.lt) _).far (p := ⟨r, 3, none⟩) (show r < W0.heap.size from hr.lt) _).far (p := ⟨r, 4, none⟩) (show r < W0.heap.size from hr.lt) _).far (p := ⟨r, 5, none⟩) (show r < W0.heap.size from hr.lt) _).rd⟩, slc⟩
      · go_upto_region 6 with (fail)
        refine wp_gen (fun W => Bl w4 W ∧ ∃ k, Blk W k 26 #[.bool false, .slice none 0 0, .slice none 0 0] ∧ k = w4.heap.size) ⟨slc, _, by exact bts, rfl⟩ ?_
        rintro W4 ⟨hb5, k, hkx, hke⟩
        rw [← hke]
        have hkw : w4.heap.size ≤ k := by omega
        clear hke
        have hbw4 := hbw2.next (hb4.next hb5)
        have hgx4 := hgx.bl (hb4.next hb5)
        have hno : Hid (¬ PtT (bl s)) := Lib.hid (fun h => hT2 h.2.2)
        have hr2 := hr.bl (hbr2.next (hb4.next hb5))
        obtain ⟨v0, x0⟩ := hr2.val_ (i := 0) (by omega)
        obtain ⟨v1, x1⟩ := hr2.val_ (i := 1) (by omega)
        obtain ⟨v2, x2⟩ := hr2.val_ (i := 2) (by omega)
        obtain ⟨v3, x3⟩ := hr2.val_ (i := 3) (by omega)
        obtain ⟨v4, x4⟩ := hr2.val_ (i := 4) (by omega)
        obtain ⟨v5, x5⟩ := hr2.val_ (i := 5) (by omega)
        have hgr := hr2.lt
        have hB := hr2.blk
        have hf0 := hB.frozen 0
        have hf1 := hB.frozen 1
        have hf2 := hB.frozen 2
        have hf3 := hB.frozen 3
        have hf4 := hB.frozen 4
        have hf5 := hB.frozen 5
        go_wp2_with fail
        refine bodyPost_ret (v := .tuple #[.agg #[.bool false, .slice none 0 0, .slice none 0 0, .bool false, .slice none 0 0, .slice none 0 0], .bool false]) (by simp [results, Tryz.results6, go_sem, x0, x1, x2, x3, x4, x5]) rfl ⟨.inr ⟨hno.out, rfl⟩, slc⟩
    · go_upto_region 5 with (fail)
      refine wp_gen (fun W => Bl w2 W ∧ ∃ g, Blk W g 26 #[.bool false, .slice none 0 0, .slice none 0 0] ∧ g = w2.heap.size) ⟨slc, _, by exact bts, rfl⟩ ?_
      rintro W2 ⟨hb3, g, hgx, hge⟩
      rw [← hge]
      have hgw : w2.heap.size ≤ g := by omega
      clear hge
      have hbw2 : Bl w W2 := ((hbW.next hb1).next hb2).next hb3
      have hbr2 : Bl W0 W2 := (hb1.next hb2).next hb3
      have hc1' := (Bl.cellOf (hb2.next hb3) (p := ads.add 1) (by rw [block_add]; exact hads)).trans hc1
      have hc1' : W2.cell? ⟨ads.block, ads.off + 1, none⟩ = some (.string (sb (cutB 44 (bl s)))) := by simpa [Addr.add] using hc1'
      go_wp2_with (go_at_call 36; refine (sParseRat_any W2 (sb (cutB 44 (bl s))) hs2).mono ?_)
      rintro e w4 ⟨(⟨hT2, s2, A2, n2, c2, B2, m2, d2, rfl, hO2⟩ | ⟨hT2, rfl⟩), hb4⟩
      · go_upto_region 6 with (fail)
        refine wp_gen (fun W => Bl w4 W ∧ ∃ k, Blk W k 26 #[.bool s2, .slice A2 n2 c2, .slice B2 m2 d2] ∧ k = w4.heap.size) ⟨slc, _, by exact bts, rfl⟩ ?_
        rintro W4 ⟨hb5, k, hkx, hke⟩
        rw [← hke]
        have hkw : w4.heap.size ≤ k := by omega
        clear hke
        have hbw4 := hbw2.next (hb4.next hb5)
        have hgx4 := hgx.bl (hb4.next hb5)
        have hno : Hid (¬ PtT (bl s)) := Lib.hid (fun h => hT1 h.2.1)
        have hr2 := hr.bl (hbr2.next (hb4.next hb5))
        obtain ⟨v0, x0⟩ := hr2.val_ (i := 0) (by omega)
        obtain ⟨v1, x1⟩ := hr2.val_ (i := 1) (by omega)
        obtain ⟨v2, x2⟩ := hr2.val_ (i := 2) (by omega)
        obtain ⟨v3, x3⟩ := hr2.val_ (i := 3) (by omega)
        obtain ⟨v4, x4⟩ := hr2.val_ (i := 4) (by omega)
        obtain ⟨v5, x5⟩ := hr2.val_ (i := 5) (by omega)
        have hgr := hr2.lt
        have hB := hr2.blk
        have hf0 := hB.frozen 0
        have hf1 := hB.frozen 1
        have hf2 := hB.frozen 2
        have hf3 := hB.frozen 3
        have hf4 := hB.frozen 4
        have hf5 := hB.frozen 5
        go_wp2_with fail
        refine bodyPost_ret (v := .tuple #[.agg #[.bool false, .slice none 0 0, .slice none 0 0, .bool false, .slice none 0 0, .slice none 0 0], .bool false]) (by simp [results, Tryz.results6, go_sem, x0, x1, x2, x3, x4, x5]) rfl ⟨.inr ⟨hno.out, rfl⟩, slc⟩
      · go_upto_region 6 with (fail)
        refine wp_gen (fun W => Bl w4 W ∧ ∃ k, Blk W k 26 #[.bool false, .slice none 0 0, .slice none 0 0] ∧ k = w4.heap.size) ⟨slc, _, by exact bts, rfl⟩ ?_
        rintro W4 ⟨hb5, k, hkx, hke⟩
        rw [← hke]
        have hkw : w4.heap.size ≤ k := by omega
        clear hke
        have hbw4 := hbw2.next (hb4.next hb5)
        have hgx4 := hgx.bl (hb4.next hb5)
        have hno : Hid (¬ PtT (bl s)) := Lib.hid (fun h => hT1 h.2.1)
        have hr2 := hr.bl (hbr2.next (hb4.next hb5))
        obtain ⟨v0, x0⟩ := hr2.val_ (i := 0) (by omega)
        obtain ⟨v1, x1⟩ := hr2.val_ (i := 1) (by omega)
        obtain ⟨v2, x2⟩ := hr2.val_ (i := 2) (by omega)
        obtain ⟨v3, x3⟩ := hr2.val_ (i := 3) (by omega)
        obtain ⟨v4, x4⟩ := hr2.val_ (i := 4) (by omega)
        obtain ⟨v5, x5⟩ := hr2.val_ (i := 5) (by omega)
        have hgr := hr2.lt
        have hB := hr2.blk
        have hf0 := hB.frozen 0
        have hf1 := hB.frozen 1
        have hf2 := hB.frozen 2
        have hf3 := hB.frozen 3
        have hf4 := hB.frozen 4
        have hf5 := hB.frozen 5
        go_wp2_with fail
        refine bodyPost_ret (v := .tuple #[.agg #[.bool false, .slice none 0 0, .slice none 0 0, .bool false, .slice none 0 0, .slice none 0 0], .bool false]) (by simp [results, Tryz.results6, go_sem, x0, x1, x2, x3, x4, x5]) rfl ⟨.inr ⟨hno.out, rfl⟩, slc⟩
  · have hno : Hid (¬ PtT (bl s)) := Lib.hid (fun h => hn2 h.two)
    obtain ⟨np, hnp⟩ : ∃ np, (pcs 44 (bl s)).length = np := ⟨_, rfl⟩
    have hni : ((np : Int) == 2) = false := by rw [hnp] at hn2; rw [beq_eq_false_iff_ne]; omega
    go_enter Tryz.func6, Tryz.ntmps6
    go_upto_region 1 with (fail)
    refine wp_gen (fun W => Bl w W ∧ ∃ r, Wk 6 28 r W ∧ r = w.heap.size) ⟨slc, _, by exact bts, rfl⟩ ?_
    rintro W0 ⟨hbW, r, hr, hre⟩
    rw [← hre]
    have hrw : w.heap.size ≤ r := by omega
    clear hre
    go_wp2_with (go_at_call 35; refine (sSplitAny_any _ s 44 hs).mono ?_)
    rintro e w1 ⟨As, caps, rfl, hSt, hb1⟩
    rw [hnp]
    clear hSt hn2 hnp
    have hr2 := hr.bl hb1
    obtain ⟨v0, x0⟩ := hr2.val_ (i := 0) (by omega)
    obtain ⟨v1, x1⟩ := hr2.val_ (i := 1) (by omega)
    obtain ⟨v2, x2⟩ := hr2.val_ (i := 2) (by omega)
    obtain ⟨v3, x3⟩ := hr2.val_ (i := 3) (by omega)
    obtain ⟨v4, x4⟩ := hr2.val_ (i := 4) (by omega)
    obtain ⟨v5, x5⟩ := hr2.val_ (i := 5) (by omega)
    have hgr := hr2.lt
    have hB := hr2.blk
    have hf0 := hB.frozen 0
    have hf1 := hB.frozen 1
    have hf2 := hB.frozen 2
    have hf3 := hB.frozen 3
    have hf4 := hB.frozen 4
    have hf5 := hB.frozen 5
    go_wp2_with fail
    refine bodyPost_ret (v := .tuple #[.agg #[.bool false, .slice none 0 0, .slice none 0 0, .bool false, .slice none 0 0, .slice none 0 0], .bool false]) (by simp [results, Tryz.results6, go_sem, x0, x1, x2, x3, x4, x5]) rfl ⟨.inr ⟨hno.out, rfl⟩, slc⟩
end

section
open Go.RowKit

theorem RdI.ob_of {T : TypeId} {w0 w W : World} {A : Option Addr} {n c : Nat} {l l' : List Int} {bs cs : List Nat} (h : FtI T w0 A n c l cs) (r : RdI w A n c l') (ho : Ob bs w W) (hd : ∀ b ∈ cs, b ∉ bs) : RdI W A n c l' := by
  refine ⟨r.len, r.cap, r.small, fun k hk => ?_⟩
  obtain ⟨ad, e, hlt, hc⟩ := r.cells k hk
  refine ⟨ad, e, Nat.lt_of_lt_of_le hlt ho.size, ?_⟩
  rcases h.2 with ⟨h0, _⟩ | ⟨g, xs, _, e2, _, _, e3⟩
  · omega
  · rw [e] at e2
    cases e2
    exact (World.cell?_of_block (ho.block _ (by rw [block_add]; exact hlt) (by rw [block_add]; exact hd g (by rw [e3]; simp)))).trans hc
/-- The four lists hold marks. -/
def Mk4 (w : World) (k0 : Int) (A : Option Addr) (n c : Nat) (B : Option Addr) (m d : Nat) (C : Option Addr) (i e : Nat) (D : Option Addr) (j f : Nat) : Prop :=
  RdI w A n c (marks k0 n) ∧ RdI w B m d (marks (k0 + (n : Int)) m) ∧ RdI w C i e (marks (k0 + (n : Int) + (m : Int)) i) ∧ RdI w D j f (marks (k0 + (n : Int) + (m : Int) + (i : Int)) j)
theorem Mk4.bl {w W : World} {k0 : Int} {A : Option Addr} {n c : Nat} {B : Option Addr} {m d : Nat} {C : Option Addr} {i e : Nat} {D : Option Addr} {j f : Nat} (h : Mk4 w k0 A n c B m d C i e D j f) (hb : Bl w W) : Mk4 W k0 A n c B m d C i e D j f :=
  ⟨h.1.bl hb, h.2.1.bl hb, h.2.2.1.bl hb, h.2.2.2.bl hb⟩

set_option maxHeartbeats 6400000 in
set_option maxRecDepth 100000 in
theorem markPoint_any {T : TypeId} (w : World) {s : Bool} {A : Option Addr} {n c : Nat} {B : Option Addr} {m d : Nat} {t : Bool} {C : Option Addr} {i e : Nat} {D : Option Addr} {j f : Nat} {p : PtD} {b1 b2 : List Nat} {k0 : Int} (h : FtR T w s A n c B m d p.x b1) (k : FtR T w t C i e D j f p.y b2) (hnd : (b1 ++ b2).Nodup) (hn : n ≤ 1048576) (hm : m ≤ 1048576) (hi : i ≤ 1048576) (hj : j ≤ 1048576) (h0 : 0 ≤ k0) (h1 : k0 ≤ 1048576) :
    Calls Tryz.prog 9 #[.agg #[.bool s, .slice A n c, .slice B m d, .bool t, .slice C i e, .slice D j f], .int .i64 k0] w fun en w' => en = .returned (.int .i64 (k0 + (n : Int) + (m : Int) + (i : Int) + (j : Int))) ∧ Mk4 w' k0 A n c B m d C i e D j f ∧ Ob (b1 ++ b2) w w' := by
  have hd := List.nodup_append.1 hnd
  go_enter Tryz.func9, Tryz.ntmps9
  go_upto_region 1 with (fail)
  refine wp_gen (fun W => Bl w W ∧ ∃ g, Blk W g 28 #[.bool s, .slice A n c, .slice B m d, .bool t, .slice C i e, .slice D j f] ∧ g = w.heap.size) ⟨slc, _, by exact bts, rfl⟩ ?_
  rintro W0 ⟨hb0, g, hg, hge⟩
  rw [← hge]
  have hh := h.bl hb0
  have hk := k.bl hb0
  have hnot : ∀ b ∈ b1 ++ b2, b ≠ g := fun b hb e => by
    rcases List.mem_append.1 hb with hb | hb
    · have := h.lt b hb; omega
    · have := k.lt b hb; omega
  clear hge
  obtain ⟨x0, x1, x2, x3, x4, x5⟩ := bx6 hg
  go_wp2_with (go_at_call 40; refine (markRat_any _ hh hd.1 hn hm h0 (by omega)).mono ?_)
  rintro en w1 ⟨rfl, hA, hB, hO⟩
  have hk1 : FtR T w1 t C i e D j f p.y b2 := hk.keep hO.size fun b hb => hO.block b (hk.lt b hb) (fun hm' => hd.2.2 b hm' b hb rfl)
  have hg1 := hg.ob hO (fun hm' => hnot g (List.mem_append.2 (.inl hm')) rfl)
  obtain ⟨y0, y1, y2, y3, y4, y5⟩ := bx6 hg1
  go_wp2_with (go_at_call 40; refine (markRat_any _ hk1 hd.2.1 hi hj (by omega) (by omega)).mono ?_)
  rintro en w2 ⟨rfl, hC, hD, hO2⟩
  obtain ⟨_, a1, a2, fa, fb, rfl⟩ := h
  have hA2 := RdI.ob_of fa hA hO2 (fun b hb hm' => hd.2.2 b (List.mem_append.2 (.inl hb)) b hm' rfl)
  have hB2 := RdI.ob_of fb hB hO2 (fun b hb hm' => hd.2.2 b (List.mem_append.2 (.inr hb)) b hm' rfl)
  have hOO : Ob (a1 ++ a2 ++ b2) w w2 := (Ob.of_bl hb0 _).trans ((hO.mono (fun b hb => List.mem_append.2 (.inl hb))).trans (hO2.mono (fun b hb => List.mem_append.2 (.inr hb))))
  go_wp2_with fail
  go_ret
  exact ⟨rfl, ⟨hA2, hB2, hC, hD⟩, hOO⟩

set_option maxHeartbeats 6400000 in
set_option maxRecDepth 100000 in
theorem heldPoint_any (w : World) {s : Bool} {A : Option Addr} {n c : Nat} {B : Option Addr} {m d : Nat} {t : Bool} {C : Option Addr} {i e : Nat} {D : Option Addr} {j f : Nat} {k0 : Int} (h : Mk4 w k0 A n c B m d C i e D j f) (hn : n ≤ 1048576) (hm : m ≤ 1048576) (hi : i ≤ 1048576) (hj : j ≤ 1048576) (h0 : 0 ≤ k0) (h1 : k0 ≤ 1048576) :
    Calls Tryz.prog 10 #[.agg #[.bool s, .slice A n c, .slice B m d, .bool t, .slice C i e, .slice D j f], .int .i64 k0] w fun en w' => en = .returned (.int .i64 (k0 + (n : Int) + (m : Int) + (i : Int) + (j : Int))) ∧ Bl w w' := by
  have hp1 : ¬ k0 + (n : Int) + (m : Int) < 0 := by omega
  have hp2 : ¬ k0 + (n : Int) + (m : Int) + (i : Int) + (j : Int) < 0 := by omega
  go_enter Tryz.func10, Tryz.ntmps10
  go_upto_region 1 with (fail)
  refine wp_gen (fun W => Bl w W ∧ ∃ g, Blk W g 28 #[.bool s, .slice A n c, .slice B m d, .bool t, .slice C i e, .slice D j f] ∧ g = w.heap.size) ⟨slc, _, by exact bts, rfl⟩ ?_
  rintro W0 ⟨hb0, g, hg, hge⟩
  rw [← hge]
  clear hge
  have hh := h.bl hb0
  obtain ⟨x0, x1, x2, x3, x4, x5⟩ := bx6 hg
  go_upto_region 2 with (go_at_call 41; refine (heldRat_any W0 hh.1 hh.2.1 hn hm h0 (by omega)).mono ?_; rintro en w1 ⟨rfl, hb1⟩)
  have hg1 := hg.bl hb1
  have hh1 := hh.bl hb1
  obtain ⟨y0, y1, y2, y3, y4, y5⟩ := bx6 hg1
  go_wp2_with (go_at_call 41; refine (heldRat_any w1 hh1.2.2.1 hh1.2.2.2 hi hj (by omega) (by omega)).mono ?_; rintro en w2 ⟨rfl, hb2⟩)
  go_ret
  exact ⟨rfl, slc⟩

open Classical in
/-- Whether a point is spelled. -/
noncomputable def ptB (l : List UInt8) : Bool := decide (PtT l)
open Classical in
/-- What both return. -/
noncomputable def ptV (l : List UInt8) : PtD := if PtT l then qp l else zP
theorem ptB_yes {l : List UInt8} (h : PtT l) : ptB l = true := by simp [ptB, h]
theorem ptB_no {l : List UInt8} (h : ¬ PtT l) : ptB l = false := by simp [ptB, h]
theorem len24_ok {r : RatD} (h : okR r = true) : r.mag.length ≤ 24 ∧ r.den.length ≤ 24 := by
  obtain ⟨x, D, rfl, _, _, h1, h2⟩ := okR_true.1 h
  exact ⟨by show (ints _).length ≤ 24; rw [ints_len]; exact h1, by show (ints _).length ≤ 24; rw [ints_len]; exact h2⟩
theorem ptV_len (l : List UInt8) : ((ptV l).x.mag.length ≤ 24 ∧ (ptV l).x.den.length ≤ 24) ∧ (ptV l).y.mag.length ≤ 24 ∧ (ptV l).y.den.length ≤ 24 := by
  unfold ptV
  split
  · rename_i h
    exact ⟨len24_ok h.2.1.parts.2.2.2.1, len24_ok h.2.2.parts.2.2.2.1⟩
  · exact ⟨⟨by decide, by decide⟩, by decide, by decide⟩
theorem ParsePoint_one (w : World) (s : ByteArray) (hs : s.size ≤ 1048576) (hE : Env w) :
    Calls Tryz.prog 7 #[.string s] w fun en w' => ∃ s1 A1 n1 c1 B1 m1 d1 t1 C1 i1 e1 D1 j1 f1, en = .returned (.tuple #[.agg #[.bool s1, .slice A1 n1 c1, .slice B1 m1 d1, .bool t1, .slice C1 i1 e1, .slice D1 j1 f1], .bool (ptB (bl s))]) ∧ OwP 3 w.heap.size w' s1 A1 n1 c1 B1 m1 d1 t1 C1 i1 e1 D1 j1 f1 (ptV (bl s)) ∧ Bl w w' := by
  refine (ParsePoint_any w s hs hE).mono ?_
  rintro en w' ⟨(⟨h, s1, A1, n1, c1, B1, m1, d1, t1, C1, i1, e1, D1, j1, f1, rfl, hO⟩ | ⟨h, rfl⟩), hb⟩
  · refine ⟨s1, A1, n1, c1, B1, m1, d1, t1, C1, i1, e1, D1, j1, f1, by rw [ptB_yes h], by unfold ptV; rw [if_pos h]; exact hO, hb⟩
  · exact ⟨_, _, _, _, _, _, _, _, _, _, _, _, _, _, by rw [ptB_no h], by unfold ptV; rw [if_neg h]; exact OwP.zero _ _ _, hb⟩
theorem sParsePoint_one (w : World) (s : ByteArray) (hs : s.size ≤ 1048576) :
    Calls Tryz.prog 6 #[.string s] w fun en w' => ∃ s1 A1 n1 c1 B1 m1 d1 t1 C1 i1 e1 D1 j1 f1, en = .returned (.tuple #[.agg #[.bool s1, .slice A1 n1 c1, .slice B1 m1 d1, .bool t1, .slice C1 i1 e1, .slice D1 j1 f1], .bool (ptB (bl s))]) ∧ (RdR w' s1 A1 n1 c1 B1 m1 d1 (ptV (bl s)).x ∧ RdR w' t1 C1 i1 e1 D1 j1 f1 (ptV (bl s)).y) ∧ Bl w w' := by
  refine (sParsePoint_any w s hs).mono ?_
  rintro en w' ⟨(⟨h, s1, A1, n1, c1, B1, m1, d1, t1, C1, i1, e1, D1, j1, f1, rfl, hO⟩ | ⟨h, rfl⟩), hb⟩
  · refine ⟨s1, A1, n1, c1, B1, m1, d1, t1, C1, i1, e1, D1, j1, f1, by rw [ptB_yes h], by unfold ptV; rw [if_pos h]; exact hO, hb⟩
  · exact ⟨_, _, _, _, _, _, _, _, _, _, _, _, _, _, by rw [ptB_no h], by unfold ptV; rw [if_neg h]; exact ⟨(OwP.zero 3 0 _).rx, (OwP.zero 3 0 _).ry⟩, hb⟩
end

end Go.Proofs.YtjaapemopbbfaaaGreatDoor
