/- Lemmas. -/
import Derived.Test.YtjaapemopbbfaaaGreatDoorRows
import Derived.Test.YtjaapemopbbfaaaGreatDoorPPointsM15
import Derived.Test.YtjaapemopbbfaaaGreatDoorPPointsM12
import Derived.Test.YtjaapemopbbfaaaGreatDoorPPointsM27
import Derived.Test.YtjaapemopbbfaaaGreatDoorPPointsM23
import Derived.Deep.Cut
import Derived.Test.YtjaapemopbbfaaaGreatDoorPPointsM24
import Derived.Test.YtjaapemopbbfaaaGreatDoorPPointsM26
import Derived.Test.YtjaapemopbbfaaaGreatDoorPPointsM22
import Derived.Test.YtjaapemopbbfaaaGreatDoorPPointsM25
import Derived.Test.YtjaapemopbbfaaaGreatDoorPPointsM16
import Derived.Deep.DeepCutAuto
namespace Go.Proofs.YtjaapemopbbfaaaGreatDoor
section
open Go.RowKit

theorem and255 (x : Int) : 0 ≤ bits .and .i64 x 255 ∧ bits .and .i64 x 255 ≤ 255 := by
  rw [bits.eq_1]
  have h : (BitVec.ofInt IntKind.i64.bits x &&& BitVec.ofInt IntKind.i64.bits 255).toNat ≤ 255 := by
    rw [BitVec.toNat_and]
    exact Nat.le_trans Nat.and_le_right (by decide)
  rw [IntKind.wrap_i64]
  omega
/-- A byte of the code. -/
def ByteAt (w : World) (p : Addr) (x : Int) : Prop := w.cell? p = some (.int .u8 x) ∧ 0 ≤ x ∧ x ≤ 255
abbrev RdB := RdS 1 ByteAt
theorem RdB.bl {w W : World} {A : Option Addr} {n c : Nat} {l : List Int} (h : RdB w A n c l) (hb : Bl w W) : RdB W A n c l := RdS.bl (fun h hp hb => ⟨by rw [hb.cellOf hp]; exact h.1, h.2⟩) h hb
theorem RdB.ob {w W : World} {A : Option Addr} {n c g : Nat} {l : List Int} (h : RdB w A n c l) (hg : ∀ ad, A = Option.some ad → 0 < n → ad.block ≠ g) (hb : Ob [g] w W) : RdB W A n c l :=
  ⟨h.len, h.cap, h.small, fun k hk => by
    obtain ⟨ad, e, hlt, hc, hx⟩ := h.cells k hk
    refine ⟨ad, e, Nat.lt_of_lt_of_le hlt hb.size, ?_, hx⟩
    exact (World.cell?_of_block (w := w) (hb.block (ad.add (k * 1)).block (by rw [block_add]; exact hlt) (by rw [block_add]; simpa using hg ad e (by omega)))).trans hc⟩
/-- A cursor in block g. -/
def Cur (g : Nat) (w : World) (A : Option Addr) (n c : Nat) (l : List Int) : Prop :=
  ∃ i h : Int, Blk w g 137 #[.slice A n c, .int .i64 i, .int .i64 h] ∧ 0 ≤ i ∧ i ≤ n ∧ RdB w A n c l ∧ ∀ ad, A = Option.some ad → 0 < n → ad.block ≠ g
theorem Cur.bl {g n c : Nat} {w W : World} {A : Option Addr} {l : List Int} (h : Cur g w A n c l) (hb : Bl w W) : Cur g W A n c l := by
  obtain ⟨i, k, h1, h2, h3, h4, h5⟩ := h
  exact ⟨i, k, h1.bl hb, h2, h3, h4.bl hb, h5⟩
theorem Cur.lt {g n c : Nat} {w : World} {A : Option Addr} {l : List Int} (h : Cur g w A n c l) : g < w.heap.size := by
  obtain ⟨i, k, h1, _⟩ := h
  exact h1.lt
set_option maxRecDepth 100000 in
set_option maxHeartbeats 4000000 in
theorem l01Byte_any (w : World) {g n c : Nat} {A : Option Addr} {l : List Int} (hC : Cur g w A n c l) :
    Calls Tryz.prog 95 #[.pointer (some ⟨g, 0, none⟩)] w fun e w' => ∃ x : Int, e = .returned (.int .i64 x) ∧ 0 ≤ x ∧ x ≤ 255 ∧ Cur g w' A n c l ∧ Ob [g] w w' := by
  obtain ⟨i, h, hB, hi0, hin, hR, hne⟩ := hC
  have hs := hR.small
  obtain ⟨x0, x1, x2⟩ := bx3 hB
  have f1 := hB.frozen 1
  have f2 := hB.frozen 2
  have hg := hB.lt
  by_cases hlt : i < (n : Int)
  · obtain ⟨k, rfl⟩ := Int.eq_ofNat_of_zero_le hi0
    have hkn : k < n := by omega
    obtain ⟨ad, rfl, _⟩ := hR.cells k hkn
    have hna := hne ad rfl (by omega)
    go_enter Tryz.func95, Tryz.ntmps95
    go_wp2_with fail
    refine wp_gen (fun W => ∃ h', Blk W g 137 #[.slice (some ad) n c, .int .i64 (k : Int), .int .i64 h'] ∧ Ob [g] w W) ⟨_, by simpa using hB.set_ 2 _, (Ob.refl _ w).set (by simp) _ _⟩ ?_
    clear x0 x1 x2 f1 f2 hB
    rintro W ⟨h', hB, hO⟩
    have hR := hR.ob hne hO
    go_region_held3 (fun w' => (w'.cell? ⟨g, 0, none⟩ = some (.slice (some ad) n c) ∧ w'.cell? ⟨g, 1, none⟩ = some (.int .i64 (k : Int)) ∧ w'.cell? ⟨g, 2, none⟩ = some (.int .i64 h'))) (first | exact bx3 (T := 137) (hB.bl slc)) (fail)
    obtain ⟨hx0, hx1⟩ := and255 (bits .xor .i64 (h' / 8589934592) (h' / 35184372088832))
    generalize bits .and .i64 (bits .xor .i64 (h' / 8589934592) (h' / 35184372088832)) 255 = x at *
    go_wp2_with fail
    go_region_held3 (fun w' => (w'.cell? ⟨g, 0, none⟩ = some (.slice (some ad) n c) ∧ w'.cell? ⟨g, 1, none⟩ = some (.int .i64 (k : Int)) ∧ w'.cell? ⟨g, 2, none⟩ = some (.int .i64 h'))) (first | exact bx3 (T := 137) (hB.bl slc)) (fail)
    obtain ⟨_, e, hlt2, hc, hb0, hb1⟩ := hR.cells k hkn
    cases e
    rw [Nat.mul_one] at hc
    generalize pix l k = y at hc hb0 hb1
    have hlt3 : (ad.add k).block < W.heap.size := by rw [block_add]; exact hlt2
    go_wp2_with fail
    go_region_held3 (fun w' => (w'.cell? ⟨g, 0, none⟩ = some (.slice (some ad) n c) ∧ w'.cell? ⟨g, 1, none⟩ = some (.int .i64 (k : Int)) ∧ w'.cell? ⟨g, 2, none⟩ = some (.int .i64 h')) ∧ w'.cell? (ad.add k) = some (.int .u8 y)) (first | exact ⟨bx3 (T := 137) (hB.bl slc), (Bl.cellOf (w := W) (p := ad.add k) slc hlt3).trans hc⟩) (fail)
    obtain ⟨hz0, hz1⟩ := and255 (IntKind.i64.wrap (x + IntKind.i64.wrap y))
    generalize bits .and .i64 (IntKind.i64.wrap (x + IntKind.i64.wrap y)) 255 = z at *
    obtain ⟨x0, x1, x2⟩ := bx3 hB
    have f1 := hB.frozen 1
    go_wp2_with fail
    go_ret
    have hC2 : Cur g (W.setCell ⟨g, 1, none⟩ (.int .i64 ((k : Int) + 1))) (some ad) n c l := ⟨(k : Int) + 1, h', by simpa using hB.set_ 1 (.int .i64 ((k : Int) + 1)), by omega, by omega, hR.ob hne ((Ob.refl [g] W).set (by simp) _ _), hne⟩
    have hO2 := hO.set (g := g) (by simp) 1 (.int .i64 ((k : Int) + 1))
    exact ⟨z, rfl, hz0, hz1, hC2.bl slc, hO2.trans (Ob.of_bl slc _)⟩
  · have hnlt : ¬ i < (n : Int) := hlt
    go_enter Tryz.func95, Tryz.ntmps95
    go_wp2_with fail
    refine wp_gen (fun W => ∃ h', Blk W g 137 #[.slice A n c, .int .i64 i, .int .i64 h'] ∧ Ob [g] w W) ⟨_, by simpa using hB.set_ 2 _, (Ob.refl _ w).set (by simp) _ _⟩ ?_
    clear x0 x1 x2 f1 f2 hB
    rintro W ⟨h', hB, hO⟩
    have hR := hR.ob hne hO
    go_region_held3 (fun w' => (w'.cell? ⟨g, 0, none⟩ = some (.slice A n c) ∧ w'.cell? ⟨g, 1, none⟩ = some (.int .i64 i) ∧ w'.cell? ⟨g, 2, none⟩ = some (.int .i64 h'))) (first | exact bx3 (T := 137) (hB.bl slc)) (fail)
    obtain ⟨hx0, hx1⟩ := and255 (bits .xor .i64 (h' / 8589934592) (h' / 35184372088832))
    generalize bits .and .i64 (bits .xor .i64 (h' / 8589934592) (h' / 35184372088832)) 255 = x at *
    go_wp2_with fail
    go_region_held3 (fun w' => (w'.cell? ⟨g, 0, none⟩ = some (.slice A n c) ∧ w'.cell? ⟨g, 1, none⟩ = some (.int .i64 i) ∧ w'.cell? ⟨g, 2, none⟩ = some (.int .i64 h'))) (first | exact bx3 (T := 137) (hB.bl slc)) (fail)
    go_wp2_with fail
    go_ret
    exact ⟨x, rfl, hx0, hx1, (show Cur g W A n c l from ⟨i, h', hB, hi0, hin, hR, hne⟩).bl slc, hO.trans (Ob.of_bl slc _)⟩
set_option maxHeartbeats 4000000 in
theorem l01Below_any (w : World) {g n c : Nat} {A : Option Addr} {l : List Int} (m : Int) (hm0 : 0 < m) (hm1 : m ≤ 256) (hC : Cur g w A n c l) :
    Calls Tryz.prog 91 #[.pointer (some ⟨g, 0, none⟩), .int .i64 m] w fun e w' => ∃ x : Int, e = .returned (.int .i64 x) ∧ 0 ≤ x ∧ x < m ∧ Cur g w' A n c l ∧ Ob [g] w w' := by
  have hm2 : ¬ m ≤ 0 := by omega
  have hm3 : ¬ m = 0 := by omega
  go_enter Tryz.func91, Tryz.ntmps91
  go_wp2_with fail
  refine (l01Byte_any _ hC).mono ?_
  rintro e w1 ⟨x, rfl, hx0, hx1, hC1, hO⟩
  have ht : x.tmod m = x % m := by rw [Int.tmod_eq_emod_of_nonneg hx0]
  have hx2 := Int.emod_nonneg x (show m ≠ 0 by omega)
  have hx3 := Int.emod_lt_of_pos x hm0
  go_wp2_with fail
  go_ret
  exact ⟨x % m, rfl, hx2, hx3, hC1, hO⟩
set_option maxHeartbeats 4000000 in
theorem l01New_any (w : World) {A : Option Addr} {n c : Nat} {l : List Int} (h : RdB w A n c l) :
    Calls Tryz.prog 57 #[.slice A n c] w fun e w' => ∃ g, e = .returned (.pointer (some ⟨g, 0, none⟩)) ∧ w.heap.size ≤ g ∧ Cur g w' A n c l ∧ Bl w w' := by
  have hn := h.small
  go_enter Tryz.func57, Tryz.ntmps57
  go_wp2_with fail
  go_loopw [3, 4] (fun v i wr => ∃ (k : Nat) (z : Int), k ≤ n ∧ k ≤ 4000 ∧ i = .int .i64 (k : Int) ∧ v = .int .i64 z ∧ Bl w wr) (fun _ i _ => n - (intOf i).toNat)
  case atStart => exact ⟨0, _, Nat.zero_le _, Nat.zero_le _, rfl, rfl, Bl.refl _⟩
  case round =>
    obtain ⟨k, z, hk, hk4, rfl, rfl, hbw⟩ := hrel
    by_cases hkn : k < n
    · have hki : (k : Int) < (n : Int) := by omega
      by_cases hk5 : k < 4000
      · have hki2 : (k : Int) < 4000 := by omega
        obtain ⟨ad, rfl, hlt, hc, hb0, hb1⟩ := (RdB.bl h hbw).cells k hkn
        rw [Nat.mul_one] at hc
        go_wp2_with fail
        go_roundw
        case rel => exact ⟨k + 1, _, by omega, by omega, by go_num, rfl, slc⟩
        case measure => simp [intOf]; omega
      · have hd1 : decide ((k : Int) < 4000) = false := by simp; omega
        go_wp2_with fail
        go_ret
        exact ⟨wr.heap.size, rfl, hbw.size, ⟨0, z, Blk.new _ _ _, by omega, by omega, RdB.bl h (hbw.alloc _), fun ad e hn0 => by subst e; obtain ⟨_, e, hl, _⟩ := h.cells 0 hn0; cases e; have := hbw.size; omega⟩, slc⟩
    · have hd2 : decide ((k : Int) < (n : Int)) = false := by simp; omega
      go_wp2_with fail
      go_ret
      exact ⟨wr.heap.size, rfl, hbw.size, ⟨0, z, Blk.new _ _ _, by omega, by omega, RdB.bl h (hbw.alloc _), fun ad e hn0 => by subst e; obtain ⟨_, e, hl, _⟩ := h.cells 0 hn0; cases e; have := hbw.size; omega⟩, slc⟩
set_option maxHeartbeats 4000000 in
theorem l31New_any (w : World) {A : Option Addr} {n c : Nat} {l : List Int} (m : Nat) (hm : m ≤ 1000) (h : RdB w A n c l) :
    Calls Tryz.prog 43 #[.slice A n c, .int .i64 (m : Int)] w fun e w' => ∃ g, e = .returned (.pointer (some ⟨g, 0, none⟩)) ∧ w.heap.size ≤ g ∧ Cur g w' A n c l ∧ Bl w w' := by
  go_enter Tryz.func43, Tryz.ntmps43
  go_wp2_with fail
  refine (l01New_any _ h).mono ?_
  rintro e w1 ⟨g, rfl, hg, hC, hb1⟩
  go_wp2_with fail
  go_loopw [6] (fun i wr => ∃ k : Nat, k ≤ m ∧ i = .int .i64 (k : Int) ∧ Cur g wr A n c l ∧ Bl w wr) (fun i _ => m - (intOf i).toNat)
  case atStart => exact ⟨0, Nat.zero_le _, rfl, hC, hb1⟩
  case round =>
    clear hC hb1
    obtain ⟨k, hk, rfl, hC, hbw⟩ := hrel
    by_cases hkm : k < m
    · have hki : (k : Int) < (m : Int) := by omega
      go_wp2_with fail
      refine (l01Byte_any _ hC).mono ?_
      rintro e w2 ⟨x, rfl, -, -, hC2, hO⟩
      have hb2 := hbw.ob hO (fun b hb => by simp at hb; omega)
      go_wp2_with fail
      go_roundw
      case rel => exact ⟨k + 1, by omega, by go_num, hC2, hb2⟩
      case measure => simp [intOf]; omega
    · obtain rfl : k = m := by omega
      go_wp2_with fail
      go_ret
      exact ⟨g, rfl, hg, hC, hbw⟩
set_option maxHeartbeats 4000000 in
theorem l01Once_any (w : World) {g n c : Nat} {A : Option Addr} {l : List Int} (m : Int) (hm0 : 0 < m) (hm1 : m ≤ 256) (hC : Cur g w A n c l) :
    Calls Tryz.prog 92 #[.pointer (some ⟨g, 0, none⟩), .int .i64 m] w fun e w' => ∃ b : Bool, e = .returned (.bool b) ∧ Cur g w' A n c l ∧ Ob [g] w w' := by
  go_enter Tryz.func92, Tryz.ntmps92
  go_wp2_with fail
  refine (l01Below_any _ m hm0 hm1 hC).mono ?_
  rintro e w1 ⟨x, rfl, hx0, hx1, hC1, hO⟩
  go_wp2_with fail
  go_ret
  exact ⟨_, rfl, hC1, hO⟩
end

section
open Go.RowKit
end

section
open Go.RowKit

theorem okR_den {r : RatD} (h : r = zR ∨ OkR r) : (¬ r.den.length = 0) ↔ OkR r := by
  rcases h with h | h
  · subst h
    exact ⟨fun h => absurd rfl h, fun h => absurd h not_ok_zR⟩
  · refine ⟨fun _ => h, fun _ => ?_⟩
    have g := h.get
    rw [g.1]
    unfold raw
    simp only
    rw [ints_len]
    have := dig_len_pos.2 g.2.1
    omega
end

section
open Go.RowKit
end

section
open Go.RowKit

set_option maxRecDepth 100000 in
set_option maxHeartbeats 8000000 in
theorem sRatMake_any (w : World) {s : Bool} {A : Option Addr} {n c : Nat} {x : Int} {t : Bool} {B : Option Addr} {m d : Nat} {y : Int} (h : IsB w s A n c x) (k : IsB w t B m d y) (hn : n ≤ 60) (hm : m ≤ 60) :
    Calls Tryz.prog 144 #[.agg #[.bool s, .slice A n c], .agg #[.bool t, .slice B m d]] w fun e w' => ∃ s1 A1 n1 c1 B1 m1 d1, e = .returned (.agg #[.bool s1, .slice A1 n1 c1, .slice B1 m1 d1]) ∧ OwR 3 w.heap.size w' s1 A1 n1 c1 B1 m1 d1 (lowS (s != t) x.natAbs y.natAbs) ∧ Bl w w' := by
  have hB := okB_of h hn
  have hB' := okB_of k hm
  go_enter Tryz.func144, Tryz.ntmps144
  go_wp2_with fail
  refine calls_gen (fun W => Bl w W ∧ Blk W (w.heap.size) 24 #[.bool s, .slice A n c] ∧ Blk W (w.heap.size + 1) 24 #[.bool t, .slice B m d] ∧ Wk 3 26 (w.heap.size + 1 + 1) W) ⟨slc, bts, bts, bts⟩ ?_
  rintro W ⟨hbW, hx, hx', hr⟩
  refine (sBigIntOk_any _ (RdI.bl h.mg hbW)).mono ?_
  rw [hB]
  rintro e w1 ⟨rfl, hb1⟩
  have hx := hx.bl hb1
  have hx' := hx'.bl hb1
  have hr := hr.bl hb1
  have hbW := hbW.next hb1
  clear hb1
  obtain ⟨i0, i1⟩ := bx2 hx
  obtain ⟨j0, j1⟩ := bx2 hx'
  go_wp2_with fail
  refine (sBigIntOk_any _ (RdI.bl k.mg hbW)).mono ?_
  rw [hB']
  rintro e w2 ⟨rfl, hb2⟩
  have hx := hx.bl hb2
  have hx' := hx'.bl hb2
  have hr := hr.bl hb2
  have hbW := hbW.next hb2
  clear hb2
  obtain ⟨i0, i1⟩ := bx2 hx
  obtain ⟨j0, j1⟩ := bx2 hx'
  have hz2 : w.heap.size + 1 + 1 + 1 ≤ w2.heap.size := hr.lt
  go_wp2_with fail
  refine (l04Low_any _ (s != t) (h.mg.bl hbW) (k.mg.bl hbW) (by omega) (by omega)).mono ?_
  rintro e w6 ⟨s1, A1, n1, c1, B1, m1, d1, rfl, hR, hb6⟩
  have hbW := hbW.next hb6
  have hr := hr.bl hb6
  have hR := hR.mono (show w.heap.size + 1 + 1 + 1 ≤ w2.heap.size from hz2)
  obtain ⟨v0, x0⟩ := hr.val_ (i := 0) (by omega)
  obtain ⟨v1, x1⟩ := hr.val_ (i := 1) (by omega)
  obtain ⟨v2, x2⟩ := hr.val_ (i := 2) (by omega)
  have hg := hr.lt
  obtain ⟨cs4, hB4, hc4⟩ := hr
  have hf0 := hB4.frozen 0
  have hf1 := hB4.frozen 1
  have hf2 := hB4.frozen 2
  go_wp2_with fail
  exact bodyPost_ret (v := .agg #[.bool s1, .slice A1 n1 c1, .slice B1 m1 d1]) (by simp [results, Tryz.results144, go_sem, x0, x1, x2]) rfl ⟨_, _, _, _, _, _, _, rfl, (((hR.far (by simp) _).far (by simp) _).far (by simp) _).mono (by omega), slc⟩

set_option maxRecDepth 100000 in
set_option maxHeartbeats 4000000 in
theorem sRatOf_any (w : World) (x y : Int) (h1 : -9223372036854775808 < x) (h2 : x ≤ 9223372036854775807) (g1 : 0 < y) (g2 : y ≤ 9223372036854775807) :
    Calls Tryz.prog 94 #[.int .i64 x, .int .i64 y] w fun e w' => ∃ s1 A1 n1 c1 B1 m1 d1, e = .returned (.agg #[.bool s1, .slice A1 n1 c1, .slice B1 m1 d1]) ∧ OwR 3 w.heap.size w' s1 A1 n1 c1 B1 m1 d1 (ofFrac x y.natAbs) ∧ Bl w w' := by
  have hv := Lib.hid (show lowS (decide (x < 0) != decide (y < 0)) x.natAbs y.natAbs = ofFrac x y.natAbs by
    rw [decide_eq_false (show ¬ y < 0 by omega), Bool.bne_false]
    exact lowS_self (by omega) rfl)
  have hlx := int_len (x := x) (by omega) h2
  have hly := int_len (x := y) (by omega) g2
  go_enter Tryz.func94, Tryz.ntmps94
  go_wp2_with fail
  refine calls_gen (fun W => Bl w W ∧ Wk 3 26 (w.heap.size) W) ⟨slc, bts⟩ ?_
  rintro W ⟨hbW, hr⟩
  refine (sBigIntOf_any _ x h1 h2).mono ?_
  rintro e w1 ⟨s1, A1, n1, c1, rfl, hO1, hb1⟩
  have hl1 : n1 ≤ 3 := by rw [← hO1.len]; exact hlx
  go_wp2_with fail
  refine (sBigIntOf_any _ y (by omega) g2).mono ?_
  rintro e w2 ⟨s2, A2, n2, c2, rfl, hO2, hb2⟩
  have hl2 : n2 ≤ 3 := by rw [← hO2.len]; exact hly
  have hB1 := hO1.rd.bl hb2
  have q1 := Lib.hid hB1.1
  have q2 := Lib.hid hO2.1
  go_wp2_with fail
  refine (sRatMake_any _ hB1 hO2.rd (by omega) (by omega)).mono ?_
  rintro e w3 ⟨s3, A3, n3, c3, B3, m3, d3, rfl, hR, hb3⟩
  rw [q1.out, q2.out, hv.out] at hR
  have hr2 := (hr.bl hb1).bl hb2
  have hR := hR.mono (show w.heap.size + 1 ≤ w2.heap.size from hr2.lt)
  have hr := hr2.bl hb3
  have hbW := ((hbW.next hb1).next hb2).next hb3
  obtain ⟨v0, x0⟩ := hr.val_ (i := 0) (by omega)
  obtain ⟨v1, x1⟩ := hr.val_ (i := 1) (by omega)
  obtain ⟨v2, x2⟩ := hr.val_ (i := 2) (by omega)
  have hg := hr.lt
  obtain ⟨cs4, hB4, hc4⟩ := hr
  have hf0 := hB4.frozen 0
  have hf1 := hB4.frozen 1
  have hf2 := hB4.frozen 2
  go_wp2_with fail
  exact bodyPost_ret (v := .agg #[.bool s3, .slice A3 n3 c3, .slice B3 m3 d3]) (by simp [results, Tryz.results94, go_sem, x0, x1, x2]) rfl ⟨_, _, _, _, _, _, _, rfl, (((hR.far (by simp) _).far (by simp) _).far (by simp) _).mono (by omega), slc⟩
end

section
open Go.RowKit
end

section
open Go.RowKit

theorem OwL.grown {E : TypeId} {base : Nat} {w w' : World} {v : Value} {l : List Int} {row : Option Nat} (h : OwL E base w v l) (hg : w.grownBy w' row) (hr : ∀ k, row = some k → v.ownBlock ≠ some k) : OwL E base w' v l := by
  refine ⟨h.1, ?_⟩
  rcases h.2 with h2 | ⟨g, cap, cur, hv, hgb, hh, r⟩
  · exact .inl h2
  · exact .inr ⟨g, cap, cur, hv, hgb, (hg.block g (heap_lt hh) (by intro e; exact hr g e.symm (by rw [hv]; rfl))).trans hh, r⟩
/-- A fraction in memory of its own (its two slices may share it). -/
def OwQ (T : TypeId) (b0 : Nat) (w : World) (s : Bool) (A : Option Addr) (n c : Nat) (B : Option Addr) (m d : Nat) (r : RatD) : Prop :=
  ∃ bs, FtR T w s A n c B m d r bs ∧ ∀ b ∈ bs, b0 ≤ b ∧ b < w.heap.size
section
variable {T : TypeId} {b0 b1 : Nat} {w W : World} {s : Bool} {A : Option Addr} {n c : Nat} {B : Option Addr} {m d : Nat} {r : RatD}
theorem OwQ.of (h : OwR T b0 w s A n c B m d r) : OwQ T b0 w s A n c B m d r := by
  obtain ⟨bs, h, hf⟩ := h
  exact ⟨bs, h, hf.2⟩
theorem OwQ.rd (h : OwQ T b0 w s A n c B m d r) : RdR w s A n c B m d r := by
  obtain ⟨bs, h, _⟩ := h
  exact h.rd
theorem OwQ.two (hs : s = r.neg) (h : OwI T b0 w A n c r.mag) (k : OwI T b0 w B m d r.den) : OwQ T b0 w s A n c B m d r := by
  obtain ⟨b1, h1, f1⟩ := FtI.of_own h
  obtain ⟨b2, h2, f2⟩ := FtI.of_own k
  refine ⟨b1 ++ b2, ⟨hs, b1, b2, h1, h2, rfl⟩, fun b hb => ?_⟩
  rcases List.mem_append.1 hb with hb | hb
  · exact f1.2 b hb
  · exact f2.2 b hb
theorem OwQ.bl (h : OwQ T b0 w s A n c B m d r) (hb : Bl w W) : OwQ T b0 W s A n c B m d r := by
  obtain ⟨bs, h, hf⟩ := h
  exact ⟨bs, h.bl hb, fun b hm => ⟨(hf b hm).1, Nat.lt_of_lt_of_le (hf b hm).2 hb.size⟩⟩
theorem OwQ.mono (h : OwQ T b1 w s A n c B m d r) (hb : b0 ≤ b1) : OwQ T b0 w s A n c B m d r := by
  obtain ⟨bs, h, hf⟩ := h
  exact ⟨bs, h, fun b hm => ⟨Nat.le_trans hb (hf b hm).1, (hf b hm).2⟩⟩
theorem OwQ.far (h : OwQ T b0 w s A n c B m d r) {q : Addr} (hp : q.block < b0) (u : Value) : OwQ T b0 (w.setCell q u) s A n c B m d r := by
  obtain ⟨bs, h, hf⟩ := h
  refine ⟨bs, h.keep (by simp) (fun b hb => Below.heap_setCell w q u b (by have := (hf b hb).1; omega)), fun b hm => ?_⟩
  have := hf b hm
  simpa using this
end
end

section
open Go.RowKit
end

section
open Go.RowKit

noncomputable def innP (p q : PtD) : RatD := addR (mulR p.x q.x) (mulR p.y q.y)
set_option maxRecDepth 100000 in
set_option maxHeartbeats 8000000 in
theorem Inner_any (w : World) {s : Bool} {A : Option Addr} {n c : Nat} {B : Option Addr} {m d : Nat} {t : Bool} {C : Option Addr} {i e : Nat} {D : Option Addr} {j f : Nat} {p : PtD} {s' : Bool} {A' : Option Addr} {n' c' : Nat} {B' : Option Addr} {m' d' : Nat} {t' : Bool} {C' : Option Addr} {i' e' : Nat} {D' : Option Addr} {j' f' : Nat} {p' : PtD} (h : RdR w s A n c B m d p.x) (k : RdR w t C i e D j f p.y) (h' : RdR w s' A' n' c' B' m' d' p'.x) (k' : RdR w t' C' i' e' D' j' f' p'.y) :
    Calls Tryz.prog 23 #[.agg #[.bool s, .slice A n c, .slice B m d, .bool t, .slice C i e, .slice D j f], .agg #[.bool s', .slice A' n' c', .slice B' m' d', .bool t', .slice C' i' e', .slice D' j' f']] w fun en w' => ∃ s1 A1 n1 c1 B1 m1 d1, en = .returned (.agg #[.bool s1, .slice A1 n1 c1, .slice B1 m1 d1]) ∧ OwR 3 w.heap.size w' s1 A1 n1 c1 B1 m1 d1 (innP p p') ∧ Bl w w' := by
  go_enter Tryz.func23, Tryz.ntmps23
  go_wp2_with fail
  refine wp_gen (fun W => Bl w W ∧ Blk W (w.heap.size) 28 #[.bool s, .slice A n c, .slice B m d, .bool t, .slice C i e, .slice D j f] ∧ Blk W (w.heap.size + 1) 28 #[.bool s', .slice A' n' c', .slice B' m' d', .bool t', .slice C' i' e', .slice D' j' f'] ∧ Wk 3 26 (w.heap.size + 1 + 1) W) ⟨slc, bts, bts, bts⟩ ?_
  rintro W ⟨hbW, hx, hx', hr⟩
  go_region_held3 (fun w' => (w'.cell? ⟨w.heap.size, 0, none⟩ = some (.bool s) ∧ w'.cell? ⟨w.heap.size, 1, none⟩ = some (.slice A n c) ∧ w'.cell? ⟨w.heap.size, 2, none⟩ = some (.slice B m d) ∧ w'.cell? ⟨w.heap.size, 3, none⟩ = some (.bool t) ∧ w'.cell? ⟨w.heap.size, 4, none⟩ = some (.slice C i e) ∧ w'.cell? ⟨w.heap.size, 5, none⟩ = some (.slice D j f)) ∧ (w'.cell? ⟨w.heap.size + 1, 0, none⟩ = some (.bool s') ∧ w'.cell? ⟨w.heap.size + 1, 1, none⟩ = some (.slice A' n' c') ∧ w'.cell? ⟨w.heap.size + 1, 2, none⟩ = some (.slice B' m' d') ∧ w'.cell? ⟨w.heap.size + 1, 3, none⟩ = some (.bool t') ∧ w'.cell? ⟨w.heap.size + 1, 4, none⟩ = some (.slice C' i' e') ∧ w'.cell? ⟨w.heap.size + 1, 5, none⟩ = some (.slice D' j' f')) ∧ (w'.cell? ⟨w.heap.size + 1 + 1, 0, none⟩ = some (cellD w' (w.heap.size + 1 + 1) 0) ∧ w'.cell? ⟨w.heap.size + 1 + 1, 1, none⟩ = some (cellD w' (w.heap.size + 1 + 1) 1) ∧ w'.cell? ⟨w.heap.size + 1 + 1, 2, none⟩ = some (cellD w' (w.heap.size + 1 + 1) 2)) ∧ w'.frozen? ⟨w.heap.size + 1 + 1, 0, none⟩ = false ∧ w'.frozen? ⟨w.heap.size + 1 + 1, 1, none⟩ = false ∧ w'.frozen? ⟨w.heap.size + 1 + 1, 2, none⟩ = false) (first | exact ⟨bx6 (T := 28) bts, bx6 (T := 28) bts, Wk.out3 (T := 26) bts⟩) (first | (go_at_call 55; with_reducible refine (RatMul_any _ (h.bl slc) (h'.bl slc)).mono ?_; rintro en w2 ⟨s2, A2, n2, c2, B2, m2, d2, rfl, hR2, hb2⟩) | (go_at_call 55; with_reducible refine (RatMul_any _ (k.bl slc) (k'.bl slc)).mono ?_; rintro en w3 ⟨s3, A3, n3, c3, B3, m3, d3, rfl, hR3, hb3⟩) | (go_at_call 53; refine (RatAdd_any _ (hR2.rd.bl hb3) hR3.rd).mono ?_; rintro en w4 ⟨s1, A1, n1, c1, B1, m1, d1, rfl, hR, hb4⟩))
  have hz : w.heap.size + 1 + 1 + 1 ≤ W.heap.size := hr.lt
  have hz2 : W.heap.size ≤ w2.heap.size := (Bl.size hb2 : W.drew.heap.size ≤ _)
  have hz3 : w2.heap.size ≤ w3.heap.size := Bl.size hb3
  have hr := (show Wk 3 26 (w.heap.size + 1 + 1) w4 from bts)
  have hbW : Bl w w4 := slc
  have hR := hR.mono (show w.heap.size + 1 + 1 + 1 ≤ w3.heap.size by omega)
  obtain ⟨v0, x0⟩ := hr.val_ (i := 0) (by omega)
  obtain ⟨v1, x1⟩ := hr.val_ (i := 1) (by omega)
  obtain ⟨v2, x2⟩ := hr.val_ (i := 2) (by omega)
  have hg := hr.lt
  obtain ⟨cs4, hB4, hc4⟩ := hr
  have hf0 := hB4.frozen 0
  have hf1 := hB4.frozen 1
  have hf2 := hB4.frozen 2
  go_wp2_with fail
  exact bodyPost_ret (v := .agg #[.bool s1, .slice A1 n1 c1, .slice B1 m1 d1]) (by simp [results, Tryz.results23, go_sem, x0, x1, x2]) rfl ⟨_, _, _, _, _, _, _, rfl, (((hR.far (by simp) _).far (by simp) _).far (by simp) _).mono (by omega), slc⟩
end

section
open Go.RowKit

/-- A fraction, none of it in block g. -/
def OwE (T : TypeId) (g : Nat) (w : World) (s : Bool) (A : Option Addr) (n c : Nat) (B : Option Addr) (m d : Nat) (r : RatD) : Prop :=
  ∃ bs, FtR T w s A n c B m d r bs ∧ ∀ b ∈ bs, b ≠ g
section
variable {T : TypeId} {b0 g : Nat} {w W : World} {s : Bool} {A : Option Addr} {n c : Nat} {B : Option Addr} {m d : Nat} {r : RatD}
theorem OwE.rd (h : OwE T g w s A n c B m d r) : RdR w s A n c B m d r := by
  obtain ⟨bs, h, _⟩ := h
  exact h.rd
theorem OwE.bl (h : OwE T g w s A n c B m d r) (hb : Bl w W) : OwE T g W s A n c B m d r := by
  obtain ⟨bs, h, hf⟩ := h
  exact ⟨bs, h.bl hb, hf⟩
theorem OwE.set (h : OwE T g w s A n c B m d r) (i : Nat) (u : Value) : OwE T g (w.setCell ⟨g, i, none⟩ u) s A n c B m d r := by
  obtain ⟨bs, h, hf⟩ := h
  exact ⟨bs, h.keep (by simp) (fun b hb => Below.heap_setCell w _ u b (hf b hb)), hf⟩
end
end

section
open Go.RowKit

theorem FtI.neT {T TP : TypeId} {w : World} {A : Option Addr} {n c k g : Nat} {l : List Int} {bs : List Nat} (h : FtI T w A n c l bs) (hk : Wk k TP g w) (hne : T ≠ TP) : ∀ b ∈ bs, b ≠ g := by
  intro b hm e
  subst e
  obtain ⟨cs', h1, _⟩ := hk
  rcases h.2 with ⟨_, e2⟩ | ⟨g', cs, _, _, hh, _, e2⟩
  · rw [e2] at hm; cases hm
  · rw [e2] at hm
    simp at hm
    subst hm
    have h3 : w.heap[b]? = some (.cells cs' TP (0, 0)) := h1
    rw [hh] at h3
    injection h3 with h3
    injection h3 with _ h3
    exact hne h3
theorem FtR.neT {T TP : TypeId} {w : World} {s : Bool} {A : Option Addr} {n c : Nat} {B : Option Addr} {m d k g : Nat} {r : RatD} {bs : List Nat} (h : FtR T w s A n c B m d r bs) (hk : Wk k TP g w) (hne : T ≠ TP) : ∀ b ∈ bs, b ≠ g := by
  obtain ⟨_, b1, b2, h1, h2, rfl⟩ := h
  intro b hb
  rcases List.mem_append.1 hb with hb | hb
  · exact h1.neT hk hne b hb
  · exact h2.neT hk hne b hb
theorem OwP.setT {T TP : TypeId} {b0 g k : Nat} {w : World} {s : Bool} {A : Option Addr} {n c : Nat} {B : Option Addr} {m d : Nat} {t : Bool} {C : Option Addr} {i e : Nat} {D : Option Addr} {j f : Nat} {p : PtD} (h : OwP T b0 w s A n c B m d t C i e D j f p) (hk : Wk k TP g w) (hne : T ≠ TP) (i0 : Nat) (u : Value) : OwP T b0 (w.setCell ⟨g, i0, none⟩ u) s A n c B m d t C i e D j f p := by
  obtain ⟨c1, c2, h1, h2, hf⟩ := h
  exact ⟨c1, c2, h1.keep (by simp) (fun b hb => Below.heap_setCell w _ u b (h1.neT hk hne b hb)), h2.keep (by simp) (fun b hb => Below.heap_setCell w _ u b (h2.neT hk hne b hb)), hf.mono (Nat.le_refl _) (by simp)⟩
theorem ne_ip : (3 : TypeId) ≠ 28 := by decide
/-- The gradient that belongs to a corner, where j and k are the two others, and D is twice the area. -/
noncomputable def gradR (D : RatD) (j k : PtD) : PtD := ⟨divR (subR j.y k.y) D, divR (subR k.x j.x) D⟩
noncomputable def grad3 (p0 p1 p2 : PtD) : Nat → PtD
  | 0 => gradR (dblA p0 p1 p2) p1 p2
  | 1 => gradR (dblA p0 p1 p2) p2 p0
  | _ + 2 => gradR (dblA p0 p1 p2) p0 p1
def GradOk (p0 p1 p2 : PtD) (k : Nat) : Prop := ∀ j, j < k → OkP (grad3 p0 p1 p2 j)
theorem GradOk.step {p0 p1 p2 : PtD} {k : Nat} (h : GradOk p0 p1 p2 k) (h0 : OkP (grad3 p0 p1 p2 k)) : GradOk p0 p1 p2 (k + 1) := by
  intro j hj
  rcases Nat.lt_succ_iff_lt_or_eq.1 hj with hj | rfl
  · exact h j hj
  · exact h0
end

end Go.Proofs.YtjaapemopbbfaaaGreatDoor
