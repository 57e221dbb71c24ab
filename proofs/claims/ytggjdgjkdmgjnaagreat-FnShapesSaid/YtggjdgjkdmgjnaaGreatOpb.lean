-- merged: Lt1 Pa0 Pl Lt2 Pt Lt3 Opb
import Derived.Test.YtggjdgjkdmgjnaaGreatRows
import Derived.Test.YtggjdgjkdmgjnaaGreatMk3
import Derived.Test.YtggjdgjkdmgjnaaGreatBx
import Derived.Test.YtggjdgjkdmgjnaaGreatFi2
import Derived.Test.YtggjdgjkdmgjnaaGreatCp2
import Derived.Test.YtggjdgjkdmgjnaaGreatRt
import Derived.Test.YtggjdgjkdmgjnaaGreatGr1
import Derived.Test.YtggjdgjkdmgjnaaGreatHt
import Derived.Test.YtggjdgjkdmgjnaaGreatAr
import Derived.ProofKit
import Derived.Deep.Slices
namespace Go.Proofs.YtggjdgjkdmgjnaaGreat
open Go.RowKit
section


theorem and255 (x : Int) : 0 ≤ bits .and .i64 x 255 ∧ bits .and .i64 x 255 ≤ 255 := by
  rw [bits.eq_1]
  have h : (BitVec.ofInt IntKind.i64.bits x &&& BitVec.ofInt IntKind.i64.bits 255).toNat ≤ 255 := by
    rw [BitVec.toNat_and]
    exact Nat.le_trans Nat.and_le_right (by decide)
  rw [IntKind.wrap_i64]
  omega
/-- A byte of the code. -/
def ByteAt (w : World) (p : Addr) (x : Int) : Prop := w.cell? p = some (.int .u8 x) ∧ 0 ≤ x ∧ x ≤ 255
abbrev RdB := RdS 1 ByteAt
theorem RdB.bl {w W : World} {A : Option Addr} {n c : Nat} {l : List Int} (h : RdB w A n c l) (hb : Bl w W) : RdB W A n c l := RdS.bl (fun h hp hb => ⟨by rw [hb.cellOf hp]; exact h.1, h.2⟩) h hb
theorem RdB.ob {w W : World} {A : Option Addr} {n c g : Nat} {l : List Int} (h : RdB w A n c l) (hg : ∀ ad, A = Option.some ad → 0 < n → ad.block ≠ g) (hb : Ob [g] w W) : RdB W A n c l :=
  ⟨h.len, h.cap, h.small, fun k hk => by
    obtain ⟨ad, e, hlt, hc, hx⟩ := h.cells k hk
    refine ⟨ad, e, Nat.lt_of_lt_of_le hlt hb.size, ?_, hx⟩
    exact (World.cell?_of_block (w := w) (hb.block (ad.add (k * 1)).block (by rw [block_add]; exact hlt) (by rw [block_add]; simpa using hg ad e (by omega)))).trans hc⟩
/-- A cursor in block g. -/
def Cur (g : Nat) (w : World) (A : Option Addr) (n c : Nat) (l : List Int) : Prop :=
  ∃ i h : Int, Blk w g 139 #[.slice A n c, .int .i64 i, .int .i64 h] ∧ 0 ≤ i ∧ i ≤ n ∧ RdB w A n c l ∧ ∀ ad, A = Option.some ad → 0 < n → ad.block ≠ g
theorem Cur.bl {g n c : Nat} {w W : World} {A : Option Addr} {l : List Int} (h : Cur g w A n c l) (hb : Bl w W) : Cur g W A n c l := by
  obtain ⟨i, k, h1, h2, h3, h4, h5⟩ := h
  exact ⟨i, k, h1.bl hb, h2, h3, h4.bl hb, h5⟩
theorem Cur.lt {g n c : Nat} {w : World} {A : Option Addr} {l : List Int} (h : Cur g w A n c l) : g < w.heap.size := by
  obtain ⟨i, k, h1, _⟩ := h
  exact h1.lt
set_option maxRecDepth 100000 in
set_option maxHeartbeats 1000000 in
theorem l01Byte_any (w : World) {g n c : Nat} {A : Option Addr} {l : List Int} (hC : Cur g w A n c l) :
    Calls Tryz.prog 143 #[.pointer (some ⟨g, 0, none⟩)] w fun e w' => ∃ x : Int, e = .returned (.int .i64 x) ∧ 0 ≤ x ∧ x ≤ 255 ∧ Cur g w' A n c l ∧ Ob [g] w w' := by
  obtain ⟨i, h, hB, hi0, hin, hR, hne⟩ := hC
  have hs := hR.small
  obtain ⟨x0, x1, x2⟩ := bx3 hB
  have f1 := hB.frozen 1
  have f2 := hB.frozen 2
  have hg := hB.lt
  by_cases hlt : i < (n : Int)
  · obtain ⟨k, rfl⟩ := Int.eq_ofNat_of_zero_le hi0
    have hkn : k < n := by omega
    obtain ⟨ad, rfl, _⟩ := hR.cells k hkn
    have hna := hne ad rfl (by omega)
    go_enter Tryz.func143, Tryz.ntmps143
    go_wp2_with fail
    refine wp_gen (fun W => ∃ h', Blk W g 139 #[.slice (some ad) n c, .int .i64 (k : Int), .int .i64 h'] ∧ Ob [g] w W) ⟨_, by simpa using hB.set_ 2 _, (Ob.refl _ w).set (by simp) _ _⟩ ?_
    clear x0 x1 x2 f1 f2 hB
    rintro W ⟨h', hB, hO⟩
    have hR := hR.ob hne hO
    go_region_held3 (fun w' => (w'.cell? ⟨g, 0, none⟩ = some (.slice (some ad) n c) ∧ w'.cell? ⟨g, 1, none⟩ = some (.int .i64 (k : Int)) ∧ w'.cell? ⟨g, 2, none⟩ = some (.int .i64 h'))) (first | exact bx3 (T := 139) (hB.bl slc)) (fail)
    obtain ⟨hx0, hx1⟩ := and255 (bits .xor .i64 (h' / 8589934592) (h' / 35184372088832))
    generalize bits .and .i64 (bits .xor .i64 (h' / 8589934592) (h' / 35184372088832)) 255 = x at *
    go_wp2_with fail
    go_region_held3 (fun w' => (w'.cell? ⟨g, 0, none⟩ = some (.slice (some ad) n c) ∧ w'.cell? ⟨g, 1, none⟩ = some (.int .i64 (k : Int)) ∧ w'.cell? ⟨g, 2, none⟩ = some (.int .i64 h'))) (first | exact bx3 (T := 139) (hB.bl slc)) (fail)
    obtain ⟨_, e, hlt2, hc, hb0, hb1⟩ := hR.cells k hkn
    cases e
    rw [Nat.mul_one] at hc
    generalize pix l k = y at hc hb0 hb1
    have hlt3 : (ad.add k).block < W.heap.size := by rw [block_add]; exact hlt2
    go_wp2_with fail
    go_region_held3 (fun w' => (w'.cell? ⟨g, 0, none⟩ = some (.slice (some ad) n c) ∧ w'.cell? ⟨g, 1, none⟩ = some (.int .i64 (k : Int)) ∧ w'.cell? ⟨g, 2, none⟩ = some (.int .i64 h')) ∧ w'.cell? (ad.add k) = some (.int .u8 y)) (first | exact ⟨bx3 (T := 139) (hB.bl slc), (Bl.cellOf (w := W) (p := ad.add k) slc hlt3).trans hc⟩) (fail)
    obtain ⟨hz0, hz1⟩ := and255 (IntKind.i64.wrap (x + IntKind.i64.wrap y))
    generalize bits .and .i64 (IntKind.i64.wrap (x + IntKind.i64.wrap y)) 255 = z at *
    obtain ⟨x0, x1, x2⟩ := bx3 hB
    have f1 := hB.frozen 1
    go_wp2_with fail
    go_ret
    have hC2 : Cur g (W.setCell ⟨g, 1, none⟩ (.int .i64 ((k : Int) + 1))) (some ad) n c l := ⟨(k : Int) + 1, h', by simpa using hB.set_ 1 (.int .i64 ((k : Int) + 1)), by omega, by omega, hR.ob hne ((Ob.refl [g] W).set (by simp) _ _), hne⟩
    have hO2 := hO.set (g := g) (by simp) 1 (.int .i64 ((k : Int) + 1))
    exact ⟨z, rfl, hz0, hz1, hC2.bl slc, hO2.trans (Ob.of_bl slc _)⟩
  · have hnlt : ¬ i < (n : Int) := hlt
    go_enter Tryz.func143, Tryz.ntmps143
    go_wp2_with fail
    refine wp_gen (fun W => ∃ h', Blk W g 139 #[.slice A n c, .int .i64 i, .int .i64 h'] ∧ Ob [g] w W) ⟨_, by simpa using hB.set_ 2 _, (Ob.refl _ w).set (by simp) _ _⟩ ?_
    clear x0 x1 x2 f1 f2 hB
    rintro W ⟨h', hB, hO⟩
    have hR := hR.ob hne hO
    go_region_held3 (fun w' => (w'.cell? ⟨g, 0, none⟩ = some (.slice A n c) ∧ w'.cell? ⟨g, 1, none⟩ = some (.int .i64 i) ∧ w'.cell? ⟨g, 2, none⟩ = some (.int .i64 h'))) (first | exact bx3 (T := 139) (hB.bl slc)) (fail)
    obtain ⟨hx0, hx1⟩ := and255 (bits .xor .i64 (h' / 8589934592) (h' / 35184372088832))
    generalize bits .and .i64 (bits .xor .i64 (h' / 8589934592) (h' / 35184372088832)) 255 = x at *
    go_wp2_with fail
    go_region_held3 (fun w' => (w'.cell? ⟨g, 0, none⟩ = some (.slice A n c) ∧ w'.cell? ⟨g, 1, none⟩ = some (.int .i64 i) ∧ w'.cell? ⟨g, 2, none⟩ = some (.int .i64 h'))) (first | exact bx3 (T := 139) (hB.bl slc)) (fail)
    go_wp2_with fail
    go_ret
    exact ⟨x, rfl, hx0, hx1, (show Cur g W A n c l from ⟨i, h', hB, hi0, hin, hR, hne⟩).bl slc, hO.trans (Ob.of_bl slc _)⟩
set_option maxHeartbeats 1000000 in
theorem l01Below_any (w : World) {g n c : Nat} {A : Option Addr} {l : List Int} (m : Int) (hm0 : 0 < m) (hm1 : m ≤ 256) (hC : Cur g w A n c l) :
    Calls Tryz.prog 157 #[.pointer (some ⟨g, 0, none⟩), .int .i64 m] w fun e w' => ∃ x : Int, e = .returned (.int .i64 x) ∧ 0 ≤ x ∧ x < m ∧ Cur g w' A n c l ∧ Ob [g] w w' := by
  have hm2 : ¬ m ≤ 0 := by omega
  have hm3 : ¬ m = 0 := by omega
  go_enter Tryz.func157, Tryz.ntmps157
  go_wp2_with fail
  refine (l01Byte_any _ hC).mono ?_
  rintro e w1 ⟨x, rfl, hx0, hx1, hC1, hO⟩
  have ht : x.tmod m = x % m := by rw [Int.tmod_eq_emod_of_nonneg hx0]
  have hx2 := Int.emod_nonneg x (show m ≠ 0 by omega)
  have hx3 := Int.emod_lt_of_pos x hm0
  go_wp2_with fail
  go_ret
  exact ⟨x % m, rfl, hx2, hx3, hC1, hO⟩
set_option maxHeartbeats 1000000 in
theorem l01New_any (w : World) {A : Option Addr} {n c : Nat} {l : List Int} (h : RdB w A n c l) :
    Calls Tryz.prog 142 #[.slice A n c] w fun e w' => ∃ g, e = .returned (.pointer (some ⟨g, 0, none⟩)) ∧ w.heap.size ≤ g ∧ Cur g w' A n c l ∧ Bl w w' := by
  have hn := h.small
  go_enter Tryz.func142, Tryz.ntmps142
  go_wp2_with fail
  go_loopw [3, 4] (fun v i wr => ∃ (k : Nat) (z : Int), k ≤ n ∧ k ≤ 4000 ∧ i = .int .i64 (k : Int) ∧ v = .int .i64 z ∧ Bl w wr) (fun _ i _ => n - (intOf i).toNat)
  case atStart => exact ⟨0, _, Nat.zero_le _, Nat.zero_le _, rfl, rfl, Bl.refl _⟩
  case round =>
    obtain ⟨k, z, hk, hk4, rfl, rfl, hbw⟩ := hrel
    by_cases hkn : k < n
    · have hki : (k : Int) < (n : Int) := by omega
      by_cases hk5 : k < 4000
      · have hki2 : (k : Int) < 4000 := by omega
        obtain ⟨ad, rfl, hlt, hc, hb0, hb1⟩ := (RdB.bl h hbw).cells k hkn
        rw [Nat.mul_one] at hc
        go_wp2_with fail
        go_roundw
        case rel => exact ⟨k + 1, _, by omega, by omega, by go_num, rfl, slc⟩
        case measure => simp [intOf]; omega
      · have hd1 : decide ((k : Int) < 4000) = false := by simp; omega
        go_wp2_with fail
        go_ret
        exact ⟨wr.heap.size, rfl, hbw.size, ⟨0, z, Blk.new _ _ _, by omega, by omega, RdB.bl h (hbw.alloc _), fun ad e hn0 => by subst e; obtain ⟨_, e, hl, _⟩ := h.cells 0 hn0; cases e; have := hbw.size; omega⟩, slc⟩
    · have hd2 : decide ((k : Int) < (n : Int)) = false := by simp; omega
      go_wp2_with fail
      go_ret
      exact ⟨wr.heap.size, rfl, hbw.size, ⟨0, z, Blk.new _ _ _, by omega, by omega, RdB.bl h (hbw.alloc _), fun ad e hn0 => by subst e; obtain ⟨_, e, hl, _⟩ := h.cells 0 hn0; cases e; have := hbw.size; omega⟩, slc⟩
set_option maxHeartbeats 1000000 in
theorem l31New_any (w : World) {A : Option Addr} {n c : Nat} {l : List Int} (m : Nat) (hm : m ≤ 1000) (h : RdB w A n c l) :
    Calls Tryz.prog 90 #[.slice A n c, .int .i64 (m : Int)] w fun e w' => ∃ g, e = .returned (.pointer (some ⟨g, 0, none⟩)) ∧ w.heap.size ≤ g ∧ Cur g w' A n c l ∧ Bl w w' := by
  go_enter Tryz.func90, Tryz.ntmps90
  go_wp2_with fail
  refine (l01New_any _ h).mono ?_
  rintro e w1 ⟨g, rfl, hg, hC, hb1⟩
  go_wp2_with fail
  go_loopw [6] (fun i wr => ∃ k : Nat, k ≤ m ∧ i = .int .i64 (k : Int) ∧ Cur g wr A n c l ∧ Bl w wr) (fun i _ => m - (intOf i).toNat)
  case atStart => exact ⟨0, Nat.zero_le _, rfl, hC, hb1⟩
  case round =>
    clear hC hb1
    obtain ⟨k, hk, rfl, hC, hbw⟩ := hrel
    by_cases hkm : k < m
    · have hki : (k : Int) < (m : Int) := by omega
      go_wp2_with fail
      refine (l01Byte_any _ hC).mono ?_
      rintro e w2 ⟨x, rfl, -, -, hC2, hO⟩
      have hb2 := hbw.ob hO (fun b hb => by simp at hb; omega)
      go_wp2_with fail
      go_roundw
      case rel => exact ⟨k + 1, by omega, by go_num, hC2, hb2⟩
      case measure => simp [intOf]; omega
    · obtain rfl : k = m := by omega
      go_wp2_with fail
      go_ret
      exact ⟨g, rfl, hg, hC, hbw⟩
set_option maxHeartbeats 1000000 in
theorem l01Once_any (w : World) {g n c : Nat} {A : Option Addr} {l : List Int} (m : Int) (hm0 : 0 < m) (hm1 : m ≤ 256) (hC : Cur g w A n c l) :
    Calls Tryz.prog 158 #[.pointer (some ⟨g, 0, none⟩), .int .i64 m] w fun e w' => ∃ b : Bool, e = .returned (.bool b) ∧ Cur g w' A n c l ∧ Ob [g] w w' := by
  go_enter Tryz.func158, Tryz.ntmps158
  go_wp2_with fail
  refine (l01Below_any _ m hm0 hm1 hC).mono ?_
  rintro e w1 ⟨x, rfl, hx0, hx1, hC1, hO⟩
  go_wp2_with fail
  go_ret
  exact ⟨_, rfl, hC1, hO⟩


end

section


set_option maxRecDepth 100000 in
set_option maxHeartbeats 1000000 in
theorem sPointAt_any (w : World) (x y : Int) (hx1 : -1000000 < x) (hx2 : x ≤ 1000000) (hy1 : -1000000 < y) (hy2 : y ≤ 1000000) :
    Calls Tryz.prog 141 #[.int .i64 x, .int .i64 y] w fun en w' => ∃ s1 A1 n1 c1 B1 m1 d1 t1 C1 i1 e1 D1 j1 f1, en = .returned (.agg #[.bool s1, .slice A1 n1 c1, .slice B1 m1 d1, .bool t1, .slice C1 i1 e1, .slice D1 j1 f1]) ∧ OwP 3 w.heap.size w' s1 A1 n1 c1 B1 m1 d1 t1 C1 i1 e1 D1 j1 f1 ⟨ofFrac x 1, ofFrac y 1⟩ ∧ Bl w w' := by
  go_enter Tryz.func141, Tryz.ntmps141
  go_wp2_with fail
  refine calls_gen (fun W => Bl w W ∧ Wk 6 45 w.heap.size W) ⟨slc, bts⟩ ?_
  rintro W ⟨hbW, hr⟩
  refine (sRatFromInt_any _ x (by omega) (by omega)).mono ?_
  rintro e w2 ⟨s1, A1, n1, c1, B1, m1, d1, rfl, hR1, hb2⟩
  go_wp2_with fail
  refine (sRatFromInt_any _ y (by omega) (by omega)).mono ?_
  rintro e w3 ⟨t1, C1, i1, e1, D1, j1, f1, rfl, hR2, hb3⟩
  have hz : w.heap.size + 1 ≤ W.heap.size := hr.lt
  have hz2 : W.heap.size ≤ w2.heap.size := Bl.size hb2
  have hr := (hr.bl hb2).bl hb3
  have hbW : Bl w w3 := slc
  have hX : OwP 3 W.heap.size w3 s1 A1 n1 c1 B1 m1 d1 t1 C1 i1 e1 D1 j1 f1 ⟨ofFrac x 1, ofFrac y 1⟩ := OwP.two hR1 hR2 hb3 hz2
  have hX := OwP.low hX hz
  obtain ⟨v0, x0⟩ := hr.val_ (i := 0) (by omega)
  obtain ⟨v1, x1⟩ := hr.val_ (i := 1) (by omega)
  obtain ⟨v2, x2⟩ := hr.val_ (i := 2) (by omega)
  obtain ⟨v3, x3⟩ := hr.val_ (i := 3) (by omega)
  obtain ⟨v4, x4⟩ := hr.val_ (i := 4) (by omega)
  obtain ⟨v5, x5⟩ := hr.val_ (i := 5) (by omega)
  have hg := hr.lt
  obtain ⟨cs4, hB4, hc4⟩ := hr
  have hf0 := hB4.frozen 0
  have hf1 := hB4.frozen 1
  have hf2 := hB4.frozen 2
  have hf3 := hB4.frozen 3
  have hf4 := hB4.frozen 4
  have hf5 := hB4.frozen 5
  go_wp2_with fail
  exact bodyPost_ret (v := .agg #[.bool s1, .slice A1 n1 c1, .slice B1 m1 d1, .bool t1, .slice C1 i1 e1, .slice D1 j1 f1]) (by simp [results, Tryz.results141, go_sem, x0, x1, x2, x3, x4, x5]) rfl ⟨_, _, _, _, _, _, _, _, _, _, _, _, _, _, rfl, ((((((hX.far (by simp) _).far (by simp) _).far (by simp) _).far (by simp) _).far (by simp) _).far (by simp) _).low (by omega), slc⟩


end

section


/-- The fraction that stands for a rational number. -/
def toR (q : Rat) : RatD := raw q.num q.den
/-- It is not too large. -/
def Fit (q : Rat) : Prop := q.num.natAbs < Bs ^ 24 ∧ q.den < Bs ^ 24
theorem Fit.ok {q : Rat} (h : Fit q) : OkR (toR q) := ⟨q.num, q.den, rfl, q.den_pos, q.reduced, dig_len_le.2 h.1, dig_len_le.2 h.2⟩
theorem rn_toR (q : Rat) : rn (toR q) = q.num := rn_raw _ _
theorem rd_toR (q : Rat) : rd (toR q) = q.den := rd_raw _ _
/-- The number of a fraction. -/
def vR (r : RatD) : Rat := mkRat (rn r) (rd r)
theorem OkR.toR {r : RatD} (h : OkR r) : r = toR (vR r) ∧ Fit (vR r) := by
  obtain ⟨h1, h2, h3, h4, h5⟩ := h.get
  have e : vR r = ⟨rn r, rd r, by omega, h3⟩ := (Rat.mk_eq_mkRat (rn r) (rd r) (by omega) h3).symm
  rw [e]
  exact ⟨h1, dig_len_le.1 h4, dig_len_le.1 h5⟩
theorem toR_inj {p q : Rat} (h : toR p = toR q) : p = q := by
  refine Rat.ext ?_ ?_
  · rw [← rn_toR, h, rn_toR]
  · rw [← rd_toR, h, rd_toR]
open Classical in
theorem ofFrac_toR (x : Int) {D : Nat} (hD : 0 < D) : ofFrac x D = if Fit (mkRat x D) then toR (mkRat x D) else zR := by
  have h1 : (mkRat x D).num = x / (Nat.gcd x.natAbs D : Int) := by
    rw [Rat.num_mkRat, if_neg (by omega), Nat.gcd_comm]
  have h2 : (mkRat x D).den = D / Nat.gcd x.natAbs D := by
    rw [Rat.den_mkRat, if_neg (by omega), Nat.gcd_comm]
  have h3 : (mkRat x D).num.natAbs = x.natAbs / Nat.gcd x.natAbs D := by
    rw [h1, natAbs_ediv_gcd _ _ (Nat.gcd_dvd_left _ _)]
  unfold ofFrac Fit toR
  rw [h3, h2, h1]
  by_cases h : x.natAbs / Nat.gcd x.natAbs D < Bs ^ 24 ∧ D / Nat.gcd x.natAbs D < Bs ^ 24
  · rw [if_pos h, if_pos ⟨dig_len_le.2 h.1, dig_len_le.2 h.2⟩]
  · rw [if_neg h, if_neg (fun hk => h ⟨dig_len_le.1 hk.1, dig_len_le.1 hk.2⟩)]
theorem addR_toR {p q : Rat} (hp : Fit p) (hq : Fit q) (h : Fit (p + q)) : addR (toR p) (toR q) = toR (p + q) := by
  unfold addR
  rw [if_pos ⟨hp.ok, hq.ok⟩, rn_toR, rn_toR, rd_toR, rd_toR, ofFrac_toR _ (Nat.mul_pos p.den_pos q.den_pos), ← Rat.add_def', if_pos h]
theorem subR_toR {p q : Rat} (hp : Fit p) (hq : Fit q) (h : Fit (p - q)) : subR (toR p) (toR q) = toR (p - q) := by
  unfold subR
  rw [if_pos ⟨hp.ok, hq.ok⟩, rn_toR, rn_toR, rd_toR, rd_toR, ofFrac_toR _ (Nat.mul_pos p.den_pos q.den_pos), ← Rat.sub_def', if_pos h]
theorem mulR_toR {p q : Rat} (hp : Fit p) (hq : Fit q) (h : Fit (p * q)) : mulR (toR p) (toR q) = toR (p * q) := by
  unfold mulR
  rw [if_pos ⟨hp.ok, hq.ok⟩, rn_toR, rn_toR, rd_toR, rd_toR, ofFrac_toR _ (Nat.mul_pos p.den_pos q.den_pos), ← Rat.mul_def', if_pos h]
theorem div_mkRat (p q : Rat) (h0 : q ≠ 0) : mkRat (p.num * q.den * (if q.num < 0 then -1 else 1)) (p.den * q.num.natAbs) = p / q := by
  have hn : q.num ≠ 0 := fun h => h0 (Rat.num_eq_zero.1 h)
  have e : p / q = Rat.divInt (p.num * q.den) (p.den * q.num) := by
    rw [Rat.div_def, Rat.inv_def]
    conv => lhs; rw [← Rat.num_divInt_den p]
    rw [Rat.divInt_mul_divInt]
  rw [e]
  by_cases hq : q.num < 0
  · have hq2 : ((q.num.natAbs : Nat) : Int) = -q.num := by omega
    rw [if_pos hq, ← Rat.divInt_ofNat, ← Rat.neg_divInt_neg (p.num * q.den), Int.mul_neg_one, Int.natCast_mul, hq2, Int.mul_neg]
  · have hq2 : ((q.num.natAbs : Nat) : Int) = q.num := by omega
    rw [if_neg hq, ← Rat.divInt_ofNat, Int.mul_one, Int.natCast_mul, hq2]
theorem divR_toR {p q : Rat} (hp : Fit p) (hq : Fit q) (h0 : q ≠ 0) (h : Fit (p / q)) : divR (toR p) (toR q) = toR (p / q) := by
  have hn : q.num ≠ 0 := fun h => h0 (Rat.num_eq_zero.1 h)
  unfold divR
  rw [if_pos ⟨hp.ok, hq.ok, by rw [rn_toR]; exact hn⟩, rn_toR, rn_toR, rd_toR, rd_toR, ofFrac_toR _ (Nat.mul_pos p.den_pos (by omega)), div_mkRat p q h0, if_pos h]
theorem cmpR_toR {p q : Rat} (hp : Fit p) (hq : Fit q) : cmpR (toR p) (toR q) = if p < q then -1 else if q < p then 1 else 0 := by
  unfold cmpR cmpZ
  rw [if_pos ⟨hp.ok, hq.ok⟩, rn_toR, rn_toR, rd_toR, rd_toR]
  simp only [Rat.lt_iff]
theorem sgnR_toR {p : Rat} (hp : Fit p) : sgnR (toR p) = if p < 0 then -1 else if 0 < p then 1 else 0 := by
  unfold sgnR cmpZ
  rw [if_pos hp.ok, rn_toR]
  simp [Rat.lt_iff]
theorem maxR_toR {p q : Rat} (hp : Fit p) (hq : Fit q) : maxR (toR p) (toR q) = toR (if p < q then q else p) := by
  unfold maxR
  rw [if_pos ⟨hp.ok, hq.ok⟩, cmpR_toR hp hq]
  by_cases h : p < q
  · simp [h]
  · by_cases h' : q < p <;> simp [h, h']
/-- Numerator and denominator are at most N. -/
def Bd (N : Nat) (q : Rat) : Prop := q.num.natAbs ≤ N ∧ q.den ≤ N
theorem Bd.fit {N : Nat} {q : Rat} (h : Bd N q) (hN : N < Bs ^ 24) : Fit q := ⟨Nat.lt_of_le_of_lt h.1 hN, Nat.lt_of_le_of_lt h.2 hN⟩
theorem Bd.pos {N : Nat} {q : Rat} (h : Bd N q) : 1 ≤ N := Nat.le_trans q.den_pos h.2
theorem Bd.mono {M N : Nat} {q : Rat} (h : Bd M q) (hN : M ≤ N) : Bd N q := ⟨Nat.le_trans h.1 hN, Nat.le_trans h.2 hN⟩
theorem bd_mk {x : Int} {D N : Nat} (hD : 0 < D) (hx : x.natAbs ≤ N) (hn : D ≤ N) : Bd N (mkRat x D) := by
  refine ⟨?_, ?_⟩
  · rw [Rat.num_mkRat, if_neg (by omega), Nat.gcd_comm, natAbs_ediv_gcd _ _ (Nat.gcd_dvd_left _ _)]
    exact Nat.le_trans (Nat.div_le_self _ _) hx
  · rw [Rat.den_mkRat, if_neg (by omega)]
    exact Nat.le_trans (Nat.div_le_self _ _) hn
section
variable {M N : Nat} {p q : Rat}
theorem natAbs_mul_le {a b : Int} (ha : a.natAbs ≤ M) (hb : b.natAbs ≤ N) : (a * b).natAbs ≤ M * N := by
  rw [Int.natAbs_mul]; exact Nat.mul_le_mul ha hb
theorem Bd.add (h : Bd M p) (k : Bd N q) : Bd (2 * (M * N)) (p + q) := by
  rw [Rat.add_def']
  refine bd_mk (Nat.mul_pos p.den_pos q.den_pos) ?_ (Nat.le_trans (Nat.mul_le_mul h.2 k.2) (by omega))
  have h1 : (p.num * (q.den : Int)).natAbs ≤ M * N := natAbs_mul_le h.1 k.2
  have h2 : (q.num * (p.den : Int)).natAbs ≤ N * M := natAbs_mul_le k.1 h.2
  rw [Nat.mul_comm N M] at h2
  omega
theorem Bd.sub (h : Bd M p) (k : Bd N q) : Bd (2 * (M * N)) (p - q) := by
  rw [Rat.sub_def']
  refine bd_mk (Nat.mul_pos p.den_pos q.den_pos) ?_ (Nat.le_trans (Nat.mul_le_mul h.2 k.2) (by omega))
  have h1 : (p.num * (q.den : Int)).natAbs ≤ M * N := natAbs_mul_le h.1 k.2
  have h2 : (q.num * (p.den : Int)).natAbs ≤ N * M := natAbs_mul_le k.1 h.2
  rw [Nat.mul_comm N M] at h2
  omega
theorem Bd.mul (h : Bd M p) (k : Bd N q) : Bd (M * N) (p * q) := by
  rw [Rat.mul_def']
  exact bd_mk (Nat.mul_pos p.den_pos q.den_pos) (natAbs_mul_le h.1 k.1) (Nat.mul_le_mul h.2 k.2)
theorem Bd.neg (h : Bd M p) : Bd M (-p) := ⟨by simpa using h.1, by simpa using h.2⟩
theorem Bd.inv (h : Bd M p) : Bd M p⁻¹ := by
  have h0 := h.pos
  refine ⟨?_, ?_⟩
  · rw [Rat.num_inv]
    have : (p.num.sign * (p.den : Int)).natAbs ≤ 1 * M := natAbs_mul_le (by rcases Int.lt_trichotomy p.num 0 with h | h | h <;> simp [Int.sign_eq_neg_one_of_neg, Int.sign_eq_one_of_pos, h]) h.2
    omega
  · rw [Rat.den_inv]
    split
    · exact h0
    · exact h.1
theorem Bd.div (h : Bd M p) (k : Bd N q) : Bd (M * N) (p / q) := by
  rw [Rat.div_def]
  exact h.mul k.inv
end


end

section


theorem Wk.ob {k g : Nat} {T : TypeId} {w W : World} {bs : List Nat} (h : Wk k T g w) (ho : Ob bs w W) (hg : g ∉ bs) : Wk k T g W := by
  obtain ⟨cs, h1, h2⟩ := h
  exact ⟨cs, h1.ob ho hg, h2⟩
theorem wrap_ok (n : Int) (h1 : -9223372036854775808 ≤ n) (h2 : n ≤ 9223372036854775807) : IntKind.i64.wrap n = n := by rw [IntKind.wrap_i64]; omega
/-- A point with small coordinates. -/
def PtS (p : PtD) : Prop := ∃ x y : Rat, p = ⟨toR x, toR y⟩ ∧ Bd 17 x ∧ Bd 17 y
theorem ofFrac_sm (x : Int) (D : Nat) (hD : 0 < D) (hx : x.natAbs ≤ 17) (hn : D ≤ 17) : ofFrac x D = toR (mkRat x D) ∧ Bd 17 (mkRat x D) := by
  have hb : Bd 17 (mkRat x D) := bd_mk hD hx hn
  rw [ofFrac_toR x hD, if_pos (hb.fit (by decide))]
  exact ⟨rfl, hb⟩
theorem ptS_at (a b : Int) (ha : a.natAbs ≤ 17) (hb : b.natAbs ≤ 17) : PtS ⟨ofFrac a 1, ofFrac b 1⟩ := by
  obtain ⟨e1, b1⟩ := ofFrac_sm a 1 (by omega) ha (by omega)
  obtain ⟨e2, b2⟩ := ofFrac_sm b 1 (by omega) hb (by omega)
  exact ⟨_, _, by rw [e1, e2], b1, b2⟩
theorem ptS_half (a b k : Int) (ha0 : -4 ≤ a) (ha1 : a ≤ 4) (hb : b.natAbs ≤ 17) (hk0 : 2 ≤ k) (hk1 : k ≤ 4) : PtS ⟨addR (ofFrac a 1) (ofFrac 1 k.natAbs), ofFrac b 1⟩ := by
  obtain ⟨e1, b1⟩ := ofFrac_sm a 1 (by omega) (by omega) (by omega)
  obtain ⟨e2, b2⟩ := ofFrac_sm b 1 (by omega) hb (by omega)
  obtain ⟨e3, b3⟩ := ofFrac_sm 1 k.natAbs (by omega) (by omega) (by omega)
  have e : mkRat a 1 + mkRat 1 k.natAbs = mkRat (a * k.natAbs + 1) k.natAbs := by
    rw [Rat.mkRat_add_mkRat _ _ (by omega) (by omega)]
    simp
  have hs : Bd 17 (mkRat a 1 + mkRat 1 k.natAbs) := by
    rw [e]
    refine bd_mk (by omega) ?_ (by omega)
    rcases (show k = 2 ∨ k = 3 ∨ k = 4 by omega) with rfl | rfl | rfl <;> simp <;> omega
  refine ⟨_, _, ?_, hs, b2⟩
  rw [e1, e2, e3, addR_toR (b1.fit (by decide)) (b3.fit (by decide)) (hs.fit (by decide))]
theorem OwPN.ob' {T : TypeId} {b0 g : Nat} {w W : World} {s : Bool} {A : Option Addr} {n c : Nat} {B : Option Addr} {m d : Nat} {t : Bool} {C : Option Addr} {i e : Nat} {D : Option Addr} {j f : Nat} {p : PtD} (h : OwPN AnyN T b0 w s A n c B m d t C i e D j f p) (ho : Ob [g] w W) (hg : g < b0) : OwPN AnyN T b0 W s A n c B m d t C i e D j f p := by
  obtain ⟨c1, c2, h1, h2, hf, hn⟩ := h
  refine ⟨c1, c2, h1.keep ho.size fun b hb => ho.block b (hf b (by simp [hb])).2 fun hm => ?_, h2.keep ho.size fun b hb => ho.block b (hf b (by simp [hb])).2 fun hm => ?_, fun b hb => ⟨(hf b hb).1, Nat.lt_of_lt_of_le (hf b hb).2 ho.size⟩, hn⟩
  · have := (hf b (by simp [hb])).1; simp at hm; omega
  · have := (hf b (by simp [hb])).1; simp at hm; omega
theorem OwPN.bl' {T : TypeId} {b0 : Nat} {w W : World} {s : Bool} {A : Option Addr} {n c : Nat} {B : Option Addr} {m d : Nat} {t : Bool} {C : Option Addr} {i e : Nat} {D : Option Addr} {j f : Nat} {p : PtD} (h : OwPN AnyN T b0 w s A n c B m d t C i e D j f p) (hb : Bl w W) : OwPN AnyN T b0 W s A n c B m d t C i e D j f p := by
  obtain ⟨c1, c2, h1, h2, hf, hn⟩ := h
  exact ⟨c1, c2, h1.bl hb, h2.bl hb, fun b hm => ⟨(hf b hm).1, Nat.lt_of_lt_of_le (hf b hm).2 hb.size⟩, hn⟩
theorem OwPN.rdx {T : TypeId} {b0 : Nat} {w : World} {s : Bool} {A : Option Addr} {n c : Nat} {B : Option Addr} {m d : Nat} {t : Bool} {C : Option Addr} {i e : Nat} {D : Option Addr} {j f : Nat} {p : PtD} (h : OwPN AnyN T b0 w s A n c B m d t C i e D j f p) : RdR w s A n c B m d p.x ∧ RdR w t C i e D j f p.y := by
  obtain ⟨c1, c2, h1, h2, hf, hn⟩ := h
  exact ⟨h1.rd, h2.rd⟩
theorem OwPN.low' {T : TypeId} {b0 b1 : Nat} {w : World} {s : Bool} {A : Option Addr} {n c : Nat} {B : Option Addr} {m d : Nat} {t : Bool} {C : Option Addr} {i e : Nat} {D : Option Addr} {j f : Nat} {p : PtD} (h : OwPN AnyN T b1 w s A n c B m d t C i e D j f p) (hb : b0 ≤ b1) : OwPN AnyN T b0 w s A n c B m d t C i e D j f p := by
  obtain ⟨c1, c2, h1, h2, hf, hn⟩ := h
  exact ⟨c1, c2, h1, h2, fun b hm => ⟨Nat.le_trans hb (hf b hm).1, (hf b hm).2⟩, hn⟩
theorem OwPN.setT {T TP : TypeId} {b0 g k : Nat} {w : World} {s : Bool} {A : Option Addr} {n c : Nat} {B : Option Addr} {m d : Nat} {t : Bool} {C : Option Addr} {i e : Nat} {D : Option Addr} {j f : Nat} {p : PtD} (h : OwPN AnyN T b0 w s A n c B m d t C i e D j f p) (hk : Wk k TP g w) (hne : T ≠ TP) (i0 : Nat) (u : Value) : OwPN AnyN T b0 (w.setCell ⟨g, i0, none⟩ u) s A n c B m d t C i e D j f p := by
  obtain ⟨c1, c2, h1, h2, hf, hn⟩ := h
  exact ⟨c1, c2, h1.keep (by simp) (fun b hb => Below.heap_setCell w _ u b (h1.neT hk hne b hb)), h2.keep (by simp) (fun b hb => Below.heap_setCell w _ u b (h2.neT hk hne b hb)), fun b hb => by simpa using hf b hb, hn⟩
theorem OwPN.mixX {T : TypeId} {b0 b1 : Nat} {w : World} {s : Bool} {A : Option Addr} {n c : Nat} {B : Option Addr} {m d : Nat} {t : Bool} {C : Option Addr} {i e : Nat} {D : Option Addr} {j f : Nat} {p : PtD} {s1 : Bool} {A1 : Option Addr} {n1 c1 : Nat} {B1 : Option Addr} {m1 d1 : Nat} {x : RatD} (h : OwPN AnyN T b0 w s A n c B m d t C i e D j f p) (k : OwR T b1 w s1 A1 n1 c1 B1 m1 d1 x) (hb : b0 ≤ b1) : OwPN AnyN T b0 w s1 A1 n1 c1 B1 m1 d1 t C i e D j f ⟨x, p.y⟩ := by
  obtain ⟨c1, c2, h1, h2, hf, hn⟩ := h
  obtain ⟨c3, h3, hf3⟩ := k
  refine ⟨c3, c2, h3, h2, fun b hm => ?_, trivial⟩
  rcases List.mem_append.1 hm with hm | hm
  · exact ⟨Nat.le_trans hb (hf3.2 b hm).1, (hf3.2 b hm).2⟩
  · exact hf b (by simp [hm])

theorem Cur.set {g n c : Nat} {w : World} {A : Option Addr} {l : List Int} (h : Cur g w A n c l) {b : Nat} (hq : b ≠ g) (hq2 : ∀ ad, A = Option.some ad → 0 < n → ad.block ≠ b) (o : Nat) (u : Value) : Cur g (w.setCell ⟨b, o, none⟩ u) A n c l := by
  obtain ⟨i, k, h1, h2, h3, h4, h5⟩ := h
  exact ⟨i, k, h1.far (Ne.symm hq) u, h2, h3, h4.ob (g := b) hq2 ((Ob.refl [b] w).set (by simp) _ _), h5⟩
theorem Ob.far {bs : List Nat} {w W : World} (h : Ob bs w W) {b : Nat} (hb : w.heap.size ≤ b) (o : Nat) (u : Value) : Ob bs w (W.setCell ⟨b, o, none⟩ u) := by
  have k := (h.mono (cs := b :: bs) (fun x hx => List.mem_cons_of_mem _ hx)).set (g := b) (by simp) o u
  exact ⟨k.os, k.tape, k.output, k.size, fun x hx hn => k.block x hx fun hm => by rcases List.mem_cons.1 hm with rfl | hm; omega; exact hn hm⟩
theorem OwPN.far' {T : TypeId} {b0 : Nat} {w : World} {s : Bool} {A : Option Addr} {n c : Nat} {B : Option Addr} {m d : Nat} {t : Bool} {C : Option Addr} {i e : Nat} {D : Option Addr} {j f : Nat} {p : PtD} (h : OwPN AnyN T b0 w s A n c B m d t C i e D j f p) {q : Addr} (hp : q.block < b0) (u : Value) : OwPN AnyN T b0 (w.setCell q u) s A n c B m d t C i e D j f p := by
  obtain ⟨b1, b2, h1, h2, hf, _⟩ := h
  exact ⟨b1, b2, h1.keep (by simp) (fun b hb => Below.heap_setCell w q u b (by have := (hf b (by simp [hb])).1; omega)), h2.keep (by simp) (fun b hb => Below.heap_setCell w q u b (by have := (hf b (by simp [hb])).1; omega)), fun b hb => by have := hf b hb; simpa using this, trivial⟩
def L05Res (w : World) (g : Nat) (A : Option Addr) (n c : Nat) (l : List Int) (en : Ending) (w' : World) : Prop := ∃ s1 A1 n1 c1 B1 m1 d1 t1 C1 i1 e1 D1 j1 f1 p, en = .returned (.agg #[.bool s1, .slice A1 n1 c1, .slice B1 m1 d1, .bool t1, .slice C1 i1 e1, .slice D1 j1 f1]) ∧ OwPN AnyN 3 w.heap.size w' s1 A1 n1 c1 B1 m1 d1 t1 C1 i1 e1 D1 j1 f1 p ∧ PtS p ∧ Cur g w' A n c l ∧ Ob [g] w w'
set_option maxRecDepth 100000 in
set_option maxHeartbeats 4000000 in
theorem l05Point_any (w : World) {g n c : Nat} {A : Option Addr} {l : List Int} (hC : Cur g w A n c l) :
    Calls Tryz.prog 105 #[.pointer (some ⟨g, 0, none⟩)] w (L05Res w g A n c l) := by
  have hgw := hC.lt
  have hwg : w.heap.size ≠ g := by omega
  have hAl : ∀ ad, A = Option.some ad → 0 < n → ad.block < w.heap.size := fun ad e h0 => by
    obtain ⟨_, _, _, _, _, hR, _⟩ := hC
    obtain ⟨_, e2, hl, _⟩ := hR.cells 0 h0
    rw [e] at e2
    cases e2
    exact hl
  have hwA : ∀ ad, A = Option.some ad → 0 < n → ad.block ≠ w.heap.size := fun ad e h0 => by have := hAl ad e h0; omega
  go_enter Tryz.func105, Tryz.ntmps105
  go_wp2_with fail
  refine calls_gen (fun W => Wk 6 45 w.heap.size W ∧ Bl w W) ⟨bts, slc⟩ ?_
  rintro W ⟨hr, hbW⟩
  have hC := hC.bl hbW
  have hz0 := hr.lt
  refine (l01Below_any _ 9 (by omega) (by omega) hC).mono ?_
  rintro e w2 ⟨a, rfl, ha0, ha1, hC2, hO2⟩
  go_wp2_with fail
  refine (l01Below_any _ 9 (by omega) (by omega) hC2).mono ?_
  rintro e w3 ⟨b, rfl, hb0, hb1, hC3, hO3⟩
  have hO := ((Ob.of_bl hbW [g]).trans hO2).trans hO3
  have hr := (hr.ob hO2 (fun hm => by simp at hm; omega)).ob hO3 (fun hm => by simp at hm; omega)
  have hz3 := hr.lt
  clear hC2 hO2 hO3 hC hbW
  go_wp2_with fail
  refine (sPointAt_any _ (a - 4) (b - 4) (by omega) (by omega) (by omega) (by omega)).mono ?_
  rintro e w4 ⟨s1, A1, n1, c1, B1, m1, d1, t1, C1, i1, e1, D1, j1, f1, rfl, hP, hb4⟩
  have hC4 := hC3.bl hb4
  have hr := hr.bl hb4
  have hO := hO.trans (Ob.of_bl hb4 _)
  have hP := OwPN.q hP
  have hz4 := Bl.size hb4
  clear hC3 hb4
  go_wp2_with fail
  refine calls_gen (fun W => Blk W w4.heap.size 45 #[.bool s1, .slice A1 n1 c1, .slice B1 m1 d1, .bool t1, .slice C1 i1 e1, .slice D1 j1 f1] ∧ Bl w4 W) ⟨Blk.new _ _ _, slc⟩ ?_
  rintro W5 ⟨hp, hb5⟩
  have hgW : g < w3.heap.size := by omega
  refine (l01Once_any _ 3 (by omega) (by omega) (hC4.bl hb5)).mono ?_
  rintro e w6 ⟨bb, rfl, hC6, hO6⟩
  have hP6 := OwPN.ob' (OwPN.bl' hP hb5) hO6 hgW
  have hp := hp.ob hO6 (fun hm => by simp at hm; omega)
  have hr6 := (hr.bl hb5).ob hO6 (fun hm => by simp at hm; omega)
  have hO := (hO.trans (Ob.of_bl hb5 _)).trans hO6
  clear hC4 hP hr hb5 hO6
  have hgp := hp.lt
  cases bb with
  | false =>
    have hr := hr6
    have hC := hC6
    have hP := hP6
    obtain ⟨y0, y1, y2, y3, y4, y5⟩ := bx6 hp
    obtain ⟨v0, x0⟩ := hr.val_ (i := 0) (by omega)
    obtain ⟨v1, x1⟩ := hr.val_ (i := 1) (by omega)
    obtain ⟨v2, x2⟩ := hr.val_ (i := 2) (by omega)
    obtain ⟨v3, x3⟩ := hr.val_ (i := 3) (by omega)
    obtain ⟨v4, x4⟩ := hr.val_ (i := 4) (by omega)
    obtain ⟨v5, x5⟩ := hr.val_ (i := 5) (by omega)
    have hgr := hr.lt
    obtain ⟨cs4, hB4, hc4⟩ := hr
    have hf0 := hB4.frozen 0
    have hf1 := hB4.frozen 1
    have hf2 := hB4.frozen 2
    have hf3 := hB4.frozen 3
    have hf4 := hB4.frozen 4
    have hf5 := hB4.frozen 5
    go_wp2_with fail
    exact bodyPost_ret (v := .agg #[.bool s1, .slice A1 n1 c1, .slice B1 m1 d1, .bool t1, .slice C1 i1 e1, .slice D1 j1 f1]) (by simp [results, Tryz.results105, go_sem, x0, x1, x2, x3, x4, x5]) rfl ⟨_, _, _, _, _, _, _, _, _, _, _, _, _, _, _, rfl, OwPN.low' (OwPN.far' (OwPN.far' (OwPN.far' (OwPN.far' (OwPN.far' (OwPN.far' hP (q := ⟨w.heap.size, 0, none⟩) hz3 _) (q := ⟨w.heap.size, 1, none⟩) hz3 _) (q := ⟨w.heap.size, 2, none⟩) hz3 _) (q := ⟨w.heap.size, 3, none⟩) hz3 _) (q := ⟨w.heap.size, 4, none⟩) hz3 _) (q := ⟨w.heap.size, 5, none⟩) hz3 _) (by omega), ptS_at _ _ (by omega) (by omega), (Cur.set (Cur.set (Cur.set (Cur.set (Cur.set (Cur.set hC hwg hwA 0 _) hwg hwA 1 _) hwg hwA 2 _) hwg hwA 3 _) hwg hwA 4 _) hwg hwA 5 _), (Ob.far (Ob.far (Ob.far (Ob.far (Ob.far (Ob.far hO (Nat.le_refl _) 0 _) (Nat.le_refl _) 1 _) (Nat.le_refl _) 2 _) (Nat.le_refl _) 3 _) (Nat.le_refl _) 4 _) (Nat.le_refl _) 5 _)⟩
  | true =>
    go_wp2_with fail
    have hHeld : (fun w' => (w'.cell? ⟨w4.heap.size, 0, none⟩ = some (.bool s1) ∧ w'.cell? ⟨w4.heap.size, 1, none⟩ = some (.slice A1 n1 c1) ∧ w'.cell? ⟨w4.heap.size, 2, none⟩ = some (.slice B1 m1 d1) ∧ w'.cell? ⟨w4.heap.size, 3, none⟩ = some (.bool t1) ∧ w'.cell? ⟨w4.heap.size, 4, none⟩ = some (.slice C1 i1 e1) ∧ w'.cell? ⟨w4.heap.size, 5, none⟩ = some (.slice D1 j1 f1))) (w6.drew) := bx6 (T := 45) (hp.bl slc)
    refine wp_region_T 8 9 (fun w' => (w'.cell? ⟨w4.heap.size, 0, none⟩ = some (.bool s1) ∧ w'.cell? ⟨w4.heap.size, 1, none⟩ = some (.slice A1 n1 c1) ∧ w'.cell? ⟨w4.heap.size, 2, none⟩ = some (.slice B1 m1 d1) ∧ w'.cell? ⟨w4.heap.size, 3, none⟩ = some (.bool t1) ∧ w'.cell? ⟨w4.heap.size, 4, none⟩ = some (.slice C1 i1 e1) ∧ w'.cell? ⟨w4.heap.size, 5, none⟩ = some (.slice D1 j1 f1))) rfl (by kernel_rfl) hHeld ?_
    refine wpAnyT_take (i := 0) (oi := _) (v := ?_) (fuel := 8) rfl (by kernel_rfl) (by kernel_rfl) (by kernel_rfl) (by kernel_rfl) (fun _ _ _ h => h) (by rfl) ?_ hHeld ?_
    rotate_left 1
    · (intro w' hSw; (try dsimp only at hSw); go_simp <;> with_reducible rfl)
    refine wpAnyT_take (i := 1) (oi := _) (v := ?_) (fuel := 7) rfl (by kernel_rfl) (by kernel_rfl) (by kernel_rfl) (by kernel_rfl) (fun _ _ _ h => h) (by rfl) ?_ hHeld ?_
    rotate_left 1
    · (intro w' hSw; (try dsimp only at hSw); go_simp <;> with_reducible rfl)
    refine wpAnyT_take (i := 2) (oi := _) (v := ?_) (fuel := 6) rfl (by kernel_rfl) (by kernel_rfl) (by kernel_rfl) (by kernel_rfl) (fun _ _ _ h => h) (by rfl) ?_ hHeld ?_
    rotate_left 1
    · (intro w' hSw; (try dsimp only at hSw); go_simp <;> with_reducible rfl)
    clear hHeld
    simp only [Act.put, List.setIfInBounds_toArray]
    refine wpAnyT_step (i := 3) (o := _) (fuel := 5) rfl (by kernel_rfl) (fun K hK => ?_)
    go_simp
    refine (l01Below_any _ 3 (by omega) (by omega) (hC6.bl slc)).mono ?_
    rintro e w7 ⟨d, rfl, hd0, hd1, hC7, hO7⟩
    have hwd : IntKind.i64.wrap (2 + d) = 2 + d := wrap_ok _ (by omega) (by omega)
    have hp := (hp.bl (show Bl w6 w6.drew from slc)).ob hO7 (fun hm => by simp at hm; omega)
    have hP7 := (OwPN.bl' hP6 (show Bl w6 w6.drew from slc)).ob' hO7 hgW
    have hr7 := (hr6.bl (show Bl w6 w6.drew from slc)).ob hO7 (fun hm => by simp at hm; omega)
    have hO67 := (hO.trans (Ob.of_bl (show Bl w6 w6.drew from slc) _)).trans hO7
    refine hK.out _ _ (fun _ => bx6 (T := 45) (hp.bl slc)) ?_
    clear hK K
    try simp only [Act.put, List.setIfInBounds_toArray, List.set_cons_zero, List.set_cons_succ]
    refine wpAnyT_step (i := 4) (o := _) (fuel := 4) rfl (by kernel_rfl) (fun K hK => ?_)
    go_simp
    refine hK.out _ _ (fun _ => bx6 (T := 45) (hp.bl slc)) ?_
    clear hK K
    try simp only [Act.put, List.setIfInBounds_toArray, List.set_cons_zero, List.set_cons_succ]
    refine wpAnyT_step (i := 5) (o := _) (fuel := 3) rfl (by kernel_rfl) (fun K hK => ?_)
    go_simp
    refine (sRatOf_any _ 1 (2 + d) (by omega) (by omega) (by omega) (by omega)).mono ?_
    rintro e w8 ⟨s8, A8, n8, c8, B8, m8, d8, rfl, hR8, hb8⟩
    have hp := hp.bl hb8
    refine hK.out _ _ (fun _ => bx6 (T := 45) (hp.bl slc)) ?_
    clear hK K
    try simp only [Act.put, List.setIfInBounds_toArray, List.set_cons_zero, List.set_cons_succ]
    refine wpAnyT_step (i := 6) (o := _) (fuel := 2) rfl (by kernel_rfl) (fun K hK => ?_)
    go_simp
    refine (sRatAdd_any _ (OwPN.bl' hP7 hb8).rdx.1 hR8.rd).mono ?_
    rintro e w9 ⟨s9, A9, n9, c9, B9, m9, d9, rfl, hR9, hb9⟩
    have hp := hp.bl hb9
    refine hK.out _ _ (fun _ => bx6 (T := 45) (hp.bl slc)) ?_
    clear hK K
    try simp only [Act.put, List.setIfInBounds_toArray, List.set_cons_zero, List.set_cons_succ]
    refine wpAnyT_step (i := 7) (o := _) (fuel := 1) rfl (by kernel_rfl) (fun K hK => ?_)
    go_simp
    refine hK.out _ _ (fun _ => bx6 (T := 45) (hp.bl slc)) ?_
    clear hK K
    try simp only [Act.put, List.setIfInBounds_toArray, List.set_cons_zero, List.set_cons_succ]
    obtain ⟨z0', z1', z2', z3', z4', z5'⟩ := bx6 hp
    have zf0 := hp.frozen 0
    have zf1 := hp.frozen 1
    have zf2 := hp.frozen 2
    refine wpAnyT_step (i := 8) (o := _) (fuel := 0) rfl (by kernel_rfl) (fun K hK => ?_)
    go_simp
    refine hK.out _ _ (fun h => absurd rfl h) ?_
    clear hK K
    try simp only [Act.put, List.setIfInBounds_toArray]
    refine wpAnyT_done (by kernel_rfl) ?_
    have hz8 : w3.heap.size ≤ w8.heap.size := by have := Bl.size hb8; have := hO7.size; simp at this; omega
    have hP9 := OwPN.mixX (OwPN.bl' (OwPN.bl' hP7 hb8) hb9) hR9 hz8
    have hk9 : Wk 6 45 w4.heap.size w9 := Wk.of hp rfl
    have hP := ((hP9.setT hk9 ne_ip 0 (.bool s9)).setT (hk9.set 0 _) ne_ip 1 (.slice A9 n9 c9)).setT ((hk9.set 0 _).set 1 _) ne_ip 2 (.slice B9 m9 d9)
    have hr := (((hr7.bl hb8).bl hb9).far (p := ⟨w4.heap.size, 0, none⟩) (by show w.heap.size ≠ w4.heap.size; omega) (.bool s9)).far (p := ⟨w4.heap.size, 1, none⟩) (by show w.heap.size ≠ w4.heap.size; omega) (.slice A9 n9 c9)
    have hr := hr.far (p := ⟨w4.heap.size, 2, none⟩) (by show w.heap.size ≠ w4.heap.size; omega) (.slice B9 m9 d9)
    have hpg : w4.heap.size ≠ g := by omega
    have hpA : ∀ ad, A = Option.some ad → 0 < n → ad.block ≠ w4.heap.size := fun ad e h0 => by have := hAl ad e h0; omega
    have hC := (((hC7.bl hb8).bl hb9).set hpg hpA 0 (.bool s9)).set hpg hpA 1 (.slice A9 n9 c9)
    have hC := hC.set hpg hpA 2 (.slice B9 m9 d9)
    have hO := (((hO67.trans (Ob.of_bl hb8 _)).trans (Ob.of_bl hb9 _)).far (b := w4.heap.size) (by omega) 0 (.bool s9)).far (b := w4.heap.size) (by omega) 1 (.slice A9 n9 c9)
    have hO := hO.far (b := w4.heap.size) (by omega) 2 (.slice B9 m9 d9)
    have hp : Blk (((w9.setCell ⟨w4.heap.size, 0, none⟩ (.bool s9)).setCell ⟨w4.heap.size, 1, none⟩ (.slice A9 n9 c9)).setCell ⟨w4.heap.size, 2, none⟩ (.slice B9 m9 d9)) w4.heap.size 45 #[.bool s9, .slice A9 n9 c9, .slice B9 m9 d9, .bool t1, .slice C1 i1 e1, .slice D1 j1 f1] := by simpa using ((hp.set_ 0 (.bool s9)).set_ 1 (.slice A9 n9 c9)).set_ 2 (.slice B9 m9 d9)
    generalize (((w9.setCell ⟨w4.heap.size, 0, none⟩ (.bool s9)).setCell ⟨w4.heap.size, 1, none⟩ (.slice A9 n9 c9)).setCell ⟨w4.heap.size, 2, none⟩ (.slice B9 m9 d9)) = wz at hP hr hC hO hp ⊢
    clear hP9 hP7 hR9 hR8 hk9 hC7 hO7 hO67 hr7 hb8 hb9 hP6 hr6 hC6
    obtain ⟨y0, y1, y2, y3, y4, y5⟩ := bx6 hp
    obtain ⟨v0, x0⟩ := hr.val_ (i := 0) (by omega)
    obtain ⟨v1, x1⟩ := hr.val_ (i := 1) (by omega)
    obtain ⟨v2, x2⟩ := hr.val_ (i := 2) (by omega)
    obtain ⟨v3, x3⟩ := hr.val_ (i := 3) (by omega)
    obtain ⟨v4, x4⟩ := hr.val_ (i := 4) (by omega)
    obtain ⟨v5, x5⟩ := hr.val_ (i := 5) (by omega)
    have hgr := hr.lt
    obtain ⟨cs4, hB4, hc4⟩ := hr
    have hf0 := hB4.frozen 0
    have hf1 := hB4.frozen 1
    have hf2 := hB4.frozen 2
    have hf3 := hB4.frozen 3
    have hf4 := hB4.frozen 4
    have hf5 := hB4.frozen 5
    go_wp2_with fail
    exact bodyPost_ret (v := .agg #[.bool s9, .slice A9 n9 c9, .slice B9 m9 d9, .bool t1, .slice C1 i1 e1, .slice D1 j1 f1]) (by simp [results, Tryz.results105, go_sem, x0, x1, x2, x3, x4, x5]) rfl ⟨_, _, _, _, _, _, _, _, _, _, _, _, _, _, _, rfl, OwPN.low' (OwPN.far' (OwPN.far' (OwPN.far' (OwPN.far' (OwPN.far' (OwPN.far' hP (q := ⟨w.heap.size, 0, none⟩) hz3 _) (q := ⟨w.heap.size, 1, none⟩) hz3 _) (q := ⟨w.heap.size, 2, none⟩) hz3 _) (q := ⟨w.heap.size, 3, none⟩) hz3 _) (q := ⟨w.heap.size, 4, none⟩) hz3 _) (q := ⟨w.heap.size, 5, none⟩) hz3 _) (by omega), ptS_half _ _ _ (by omega) (by omega) (by omega) (by omega) (by omega), (Cur.set (Cur.set (Cur.set (Cur.set (Cur.set (Cur.set hC hwg hwA 0 _) hwg hwA 1 _) hwg hwA 2 _) hwg hwA 3 _) hwg hwA 4 _) hwg hwA 5 _), (Ob.far (Ob.far (Ob.far (Ob.far (Ob.far (Ob.far hO (Nat.le_refl _) 0 _) (Nat.le_refl _) 1 _) (Nat.le_refl _) 2 _) (Nat.le_refl _) 3 _) (Nat.le_refl _) 4 _) (Nat.le_refl _) 5 _)⟩


end

section


def toP (x y : Rat) : PtD := ⟨toR x, toR y⟩
theorem ifP_toP {x y : Rat} (hx : Fit x) (hy : Fit y) : ifP (toP x y) = toP x y := by
  have e1 := (okR_den (.inr hx.ok)).2 hx.ok
  have e2 := (okR_den (.inr hy.ok)).2 hy.ok
  unfold ifP
  rw [if_neg]
  rintro (h | h)
  · exact e1 h
  · exact e2 h
theorem subP_toP {x y u v : Rat} (hx : Bd 17 x) (hy : Bd 17 y) (hu : Bd 17 u) (hv : Bd 17 v) : subP (toP x y) (toP u v) = toP (x - u) (y - v) ∧ Bd 578 (x - u) ∧ Bd 578 (y - v) := by
  have h1 : Bd 578 (x - u) := (hx.sub hu).mono (by decide)
  have h2 : Bd 578 (y - v) := (hy.sub hv).mono (by decide)
  refine ⟨?_, h1, h2⟩
  unfold subP
  rw [show (toP x y).x = toR x from rfl, show (toP u v).x = toR u from rfl, show (toP x y).y = toR y from rfl, show (toP u v).y = toR v from rfl,
    subR_toR (hx.fit (by decide)) (hu.fit (by decide)) (h1.fit (by decide)), subR_toR (hy.fit (by decide)) (hv.fit (by decide)) (h2.fit (by decide))]
  exact ifP_toP (h1.fit (by decide)) (h2.fit (by decide))
/-- Twice the area. -/
def detQ (x0 y0 x1 y1 x2 y2 : Rat) : Rat := (x1 - x0) * (y2 - y0) - (y1 - y0) * (x2 - x0)
theorem dblA_toP {x0 y0 x1 y1 x2 y2 : Rat} (a0 : Bd 17 x0) (b0 : Bd 17 y0) (a1 : Bd 17 x1) (b1 : Bd 17 y1) (a2 : Bd 17 x2) (b2 : Bd 17 y2) :
    dblA (toP x0 y0) (toP x1 y1) (toP x2 y2) = toR (detQ x0 y0 x1 y1 x2 y2) ∧ Bd 223224238112 (detQ x0 y0 x1 y1 x2 y2) := by
  obtain ⟨e1, h1, h2⟩ := subP_toP a1 b1 a0 b0
  obtain ⟨e2, h3, h4⟩ := subP_toP a2 b2 a0 b0
  have m1 : Bd 334084 ((x1 - x0) * (y2 - y0)) := (h1.mul h4).mono (by decide)
  have m2 : Bd 334084 ((y1 - y0) * (x2 - x0)) := (h2.mul h3).mono (by decide)
  have m3 : Bd 223224238112 (detQ x0 y0 x1 y1 x2 y2) := (m1.sub m2).mono (by decide)
  refine ⟨?_, m3⟩
  unfold dblA
  rw [e1, e2]
  unfold crossP
  rw [show (toP (x1 - x0) (y1 - y0)).x = toR (x1 - x0) from rfl, show (toP (x1 - x0) (y1 - y0)).y = toR (y1 - y0) from rfl, show (toP (x2 - x0) (y2 - y0)).x = toR (x2 - x0) from rfl, show (toP (x2 - x0) (y2 - y0)).y = toR (y2 - y0) from rfl,
    mulR_toR (h1.fit (by decide)) (h4.fit (by decide)) (m1.fit (by decide)), mulR_toR (h2.fit (by decide)) (h3.fit (by decide)) (m2.fit (by decide)), subR_toR (m1.fit (by decide)) (m2.fit (by decide)) (m3.fit (by decide))]
  rfl


end

section


theorem propB_fix : propB [⟨ofFrac 0 1, ofFrac 0 1⟩, ⟨ofFrac 2 1, ofFrac 0 1⟩, ⟨ofFrac 0 1, ofFrac 1 1⟩] = true := by
  obtain ⟨e0, b0⟩ := ofFrac_sm 0 1 (by omega) (by decide) (by omega)
  obtain ⟨e1, b1⟩ := ofFrac_sm 1 1 (by omega) (by decide) (by omega)
  obtain ⟨e2, b2⟩ := ofFrac_sm 2 1 (by omega) (by decide) (by omega)
  rw [e0, e1, e2]
  have f0 := (b0.fit (by decide)).ok
  have f1 := (b1.fit (by decide)).ok
  have f2 := (b2.fit (by decide)).ok
  refine propB_yes ⟨?_, _, _, _, rfl, ?_⟩
  · intro k hk
    simp only [List.length_cons, List.length_nil] at hk
    rcases (show k = 0 ∨ k = 1 ∨ k = 2 by omega) with rfl | rfl | rfl
    · exact ⟨f0, f0⟩
    · exact ⟨f2, f0⟩
    · exact ⟨f0, f1⟩
  · obtain ⟨e, h⟩ := dblA_toP b0 b0 b2 b0 b0 b1
    rw [show (⟨toR (mkRat 0 1), toR (mkRat 0 1)⟩ : PtD) = toP (mkRat 0 1) (mkRat 0 1) from rfl, show (⟨toR (mkRat 2 1), toR (mkRat 0 1)⟩ : PtD) = toP (mkRat 2 1) (mkRat 0 1) from rfl, show (⟨toR (mkRat 0 1), toR (mkRat 1 1)⟩ : PtD) = toP (mkRat 0 1) (mkRat 1 1) from rfl, e, sgnR_toR (h.fit (by decide))]
    rw [show detQ (mkRat 0 1) (mkRat 0 1) (mkRat 2 1) (mkRat 0 1) (mkRat 0 1) (mkRat 1 1) = 2 from by decide +kernel]
    decide

def TriRes (w : World) (g : Nat) (en : Ending) (w' : World) : Prop := ∃ h c1 p0 p1 p2, en = .returned (.slice (some ⟨h, 0, none⟩) 3 c1) ∧ RdPS w' (some ⟨h, 0, none⟩) 3 c1 [p0, p1, p2] ∧ propB [p0, p1, p2] = true ∧ PtS p0 ∧ PtS p1 ∧ PtS p2 ∧ Ob [g] w w'
theorem Ob.bl {bs : List Nat} {w W W2 : World} (h : Ob bs w W) (hb : Bl W W2) : Ob bs w W2 := h.trans (Ob.of_bl hb _)
set_option maxRecDepth 100000 in
set_option maxHeartbeats 4000000 in
theorem l06Draw_any (w : World) {g n c : Nat} {A : Option Addr} {l : List Int} (hC : Cur g w A n c l) :
    Calls Tryz.prog 89 #[.pointer (some ⟨g, 0, none⟩)] w (TriRes w g) := by
  go_enter Tryz.func89, Tryz.ntmps89
  go_wp2_with fail
  go_loopw [3] (fun i wr => ∃ k : Nat, k ≤ 6 ∧ i = .int .i64 (k : Int) ∧ Cur g wr A n c l ∧ Ob [g] w wr) (fun i _ => 6 - (intOf i).toNat)
  case atStart => exact ⟨0, Nat.zero_le _, rfl, hC, Ob.refl _ _⟩
  case round =>
    clear hC
    obtain ⟨k, hk, rfl, hC, hO⟩ := hrel
    by_cases hk6 : k < 6
    · have hki : (k : Int) < 6 := by omega
      have hg0 := hC.lt
      go_wp2_with fail
      refine (l05Point_any _ hC).mono ?_
      rintro e u0 ⟨s4, A4, n4, c4, B4, m4, d4, t4, C4, i4, e4, D4, j4, f4, p0, rfl, hP0, hS0, hC0, hO0⟩
      have hz0 := hO0.size
      go_wp2_with fail
      refine (l05Point_any _ hC0).mono ?_
      rintro e u1 ⟨s5, A5, n5, c5, B5, m5, d5, t5, C5, i5, e5, D5, j5, f5, p1, rfl, hP1, hS1, hC1, hO1⟩
      have hz1 := hO1.size
      go_wp2_with fail
      refine (l05Point_any _ hC1).mono ?_
      rintro e u2 ⟨s6, A6, n6, c6, B6, m6, d6, t6, C6, i6, e6, D6, j6, f6, p2, rfl, hP2, hS2, hC2, hO2⟩
      have hP0 := (hP0.ob' hO1 hg0).ob' hO2 hg0
      have hP1 := hP1.ob' hO2 (by omega)
      have hO := ((hO.trans hO0).trans hO1).trans hO2
      clear hC hC0 hC1 hO0 hO1 hO2
      go_wp2_with fail
      refine calls_gen (fun W => Blk W u2.heap.size 45 #[.bool s4, .slice A4 n4 c4, .slice B4 m4 d4, .bool t4, .slice C4 i4 e4, .slice D4 j4 f4, .bool s5, .slice A5 n5 c5, .slice B5 m5 d5, .bool t5, .slice C5 i5 e5, .slice D5 j5 f5, .bool s6, .slice A6 n6 c6, .slice B6 m6 d6, .bool t6, .slice C6 i6 e6, .slice D6 j6 f6] ∧ Bl u2 W) ⟨Blk.new _ _ _, slc⟩ ?_
      rintro W ⟨hB, hbW⟩
      have hx0 := (hP0.bl' hbW).rdx.1
      have hy0 := (hP0.bl' hbW).rdx.2
      have hx1 := (hP1.bl' hbW).rdx.1
      have hy1 := (hP1.bl' hbW).rdx.2
      have hx2 := (hP2.bl' hbW).rdx.1
      have hy2 := (hP2.bl' hbW).rdx.2
      have hC := hC2.bl hbW
      have hO := hO.bl hbW
      clear hP0 hP1 hP2 hC2 hbW
      have hL : RdPS W (some ⟨u2.heap.size, 0, none⟩) 3 3 [p0, p1, p2] := by
        refine ⟨rfl, by omega, by omega, fun k hk => ?_⟩
        rcases (show k = 0 ∨ k = 1 ∨ k = 2 by omega) with rfl | rfl | rfl
        · exact ⟨_, rfl, hB.lt, _, _, _, _, _, _, _, _, _, _, _, _, _, _, ⟨(hB.cell 0).trans rfl, (hB.cell 1).trans rfl, (hB.cell 2).trans rfl, (hB.cell 3).trans rfl, (hB.cell 4).trans rfl, (hB.cell 5).trans rfl⟩, hx0, hy0⟩
        · exact ⟨_, rfl, hB.lt, _, _, _, _, _, _, _, _, _, _, _, _, _, _, ⟨(hB.cell 6).trans rfl, (hB.cell 7).trans rfl, (hB.cell 8).trans rfl, (hB.cell 9).trans rfl, (hB.cell 10).trans rfl, (hB.cell 11).trans rfl⟩, hx1, hy1⟩
        · exact ⟨_, rfl, hB.lt, _, _, _, _, _, _, _, _, _, _, _, _, _, _, ⟨(hB.cell 12).trans rfl, (hB.cell 13).trans rfl, (hB.cell 14).trans rfl, (hB.cell 15).trans rfl, (hB.cell 16).trans rfl, (hB.cell 17).trans rfl⟩, hx2, hy2⟩
      refine (sIsProper_any _ hL).mono ?_
      by_cases hp : propB [p0, p1, p2] = true
      · rw [hp]
        rintro e w3 ⟨rfl, hb3⟩
        go_wp2_with fail
        go_ret
        exact ⟨_, _, p0, p1, p2, rfl, RdPS.bl hL hb3, hp, hS0, hS1, hS2, hO.bl hb3⟩
      · rw [Bool.eq_false_iff.2 hp]
        rintro e w3 ⟨rfl, hb3⟩
        have hp := Lib.hid hp; rename_i h_; clear h_
        have hB := hB.bl hb3
        have hx0 := hx0.bl hb3
        have hy0 := hy0.bl hb3
        have hx1 := hx1.bl hb3
        have hy1 := hy1.bl hb3
        have hx2 := hx2.bl hb3
        have hy2 := hy2.bl hb3
        have hC := hC.bl hb3
        have hO := hO.bl hb3
        clear hL hb3
        go_wp2_with fail
        go_region_held3 (fun w' => (w'.cell? ⟨u2.heap.size, 0, none⟩ = some (.bool s4) ∧ w'.cell? ⟨u2.heap.size, 1, none⟩ = some (.slice A4 n4 c4) ∧ w'.cell? ⟨u2.heap.size, 2, none⟩ = some (.slice B4 m4 d4) ∧ w'.cell? ⟨u2.heap.size, 3, none⟩ = some (.bool t4) ∧ w'.cell? ⟨u2.heap.size, 4, none⟩ = some (.slice C4 i4 e4) ∧ w'.cell? ⟨u2.heap.size, 5, none⟩ = some (.slice D4 j4 f4) ∧ w'.cell? ⟨u2.heap.size, 6, none⟩ = some (.bool s5) ∧ w'.cell? ⟨u2.heap.size, 7, none⟩ = some (.slice A5 n5 c5) ∧ w'.cell? ⟨u2.heap.size, 8, none⟩ = some (.slice B5 m5 d5) ∧ w'.cell? ⟨u2.heap.size, 9, none⟩ = some (.bool t5) ∧ w'.cell? ⟨u2.heap.size, 10, none⟩ = some (.slice C5 i5 e5) ∧ w'.cell? ⟨u2.heap.size, 11, none⟩ = some (.slice D5 j5 f5) ∧ w'.cell? ⟨u2.heap.size, 12, none⟩ = some (.bool s6) ∧ w'.cell? ⟨u2.heap.size, 13, none⟩ = some (.slice A6 n6 c6) ∧ w'.cell? ⟨u2.heap.size, 14, none⟩ = some (.slice B6 m6 d6) ∧ w'.cell? ⟨u2.heap.size, 15, none⟩ = some (.bool t6) ∧ w'.cell? ⟨u2.heap.size, 16, none⟩ = some (.slice C6 i6 e6) ∧ w'.cell? ⟨u2.heap.size, 17, none⟩ = some (.slice D6 j6 f6))) (first | exact ⟨((hB.bl slc).cell 0).trans rfl, ((hB.bl slc).cell 1).trans rfl, ((hB.bl slc).cell 2).trans rfl, ((hB.bl slc).cell 3).trans rfl, ((hB.bl slc).cell 4).trans rfl, ((hB.bl slc).cell 5).trans rfl, ((hB.bl slc).cell 6).trans rfl, ((hB.bl slc).cell 7).trans rfl, ((hB.bl slc).cell 8).trans rfl, ((hB.bl slc).cell 9).trans rfl, ((hB.bl slc).cell 10).trans rfl, ((hB.bl slc).cell 11).trans rfl, ((hB.bl slc).cell 12).trans rfl, ((hB.bl slc).cell 13).trans rfl, ((hB.bl slc).cell 14).trans rfl, ((hB.bl slc).cell 15).trans rfl, ((hB.bl slc).cell 16).trans rfl, ((hB.bl slc).cell 17).trans rfl⟩) (fail)
        go_wp2_with fail
        refine calls_gen (fun W => Blk W w3.heap.size 45 #[.bool s4, .slice A4 n4 c4, .slice B4 m4 d4, .bool t4, .slice C4 i4 e4, .slice D4 j4 f4, .bool s6, .slice A6 n6 c6, .slice B6 m6 d6, .bool t6, .slice C6 i6 e6, .slice D6 j6 f6, .bool s5, .slice A5 n5 c5, .slice B5 m5 d5, .bool t5, .slice C5 i5 e5, .slice D5 j5 f5] ∧ Bl w3 W) ⟨by exact bts, slc⟩ ?_
        rintro W2 ⟨hB2, hbW⟩
        have hx0 := hx0.bl hbW
        have hy0 := hy0.bl hbW
        have hx1 := hx1.bl hbW
        have hy1 := hy1.bl hbW
        have hx2 := hx2.bl hbW
        have hy2 := hy2.bl hbW
        have hC := hC.bl hbW
        have hO := hO.bl hbW
        have hL : RdPS W2 (some ⟨w3.heap.size, 0, none⟩) 3 3 [p0, p2, p1] := by
          refine ⟨rfl, by omega, by omega, fun k hk => ?_⟩
          rcases (show k = 0 ∨ k = 1 ∨ k = 2 by omega) with rfl | rfl | rfl
          · exact ⟨_, rfl, hB2.lt, _, _, _, _, _, _, _, _, _, _, _, _, _, _, ⟨(hB2.cell 0).trans rfl, (hB2.cell 1).trans rfl, (hB2.cell 2).trans rfl, (hB2.cell 3).trans rfl, (hB2.cell 4).trans rfl, (hB2.cell 5).trans rfl⟩, hx0, hy0⟩
          · exact ⟨_, rfl, hB2.lt, _, _, _, _, _, _, _, _, _, _, _, _, _, _, ⟨(hB2.cell 6).trans rfl, (hB2.cell 7).trans rfl, (hB2.cell 8).trans rfl, (hB2.cell 9).trans rfl, (hB2.cell 10).trans rfl, (hB2.cell 11).trans rfl⟩, hx2, hy2⟩
          · exact ⟨_, rfl, hB2.lt, _, _, _, _, _, _, _, _, _, _, _, _, _, _, ⟨(hB2.cell 12).trans rfl, (hB2.cell 13).trans rfl, (hB2.cell 14).trans rfl, (hB2.cell 15).trans rfl, (hB2.cell 16).trans rfl, (hB2.cell 17).trans rfl⟩, hx1, hy1⟩
        refine (sIsProper_any _ hL).mono ?_
        by_cases hq : propB [p0, p2, p1] = true
        · rw [hq]
          rintro e w4 ⟨rfl, hb4⟩
          go_wp2_with fail
          go_ret
          exact ⟨_, _, p0, p2, p1, rfl, RdPS.bl hL hb4, hq, hS0, hS2, hS1, hO.bl hb4⟩
        · rw [Bool.eq_false_iff.2 hq]
          rintro e w4 ⟨rfl, hb4⟩
          have hq := Lib.hid hq; rename_i h_; clear h_
          go_wp2_with fail
          go_roundw
          case rel => exact ⟨k + 1, by omega, by go_num, hC.bl hb4, hO.bl hb4⟩
          case measure => simp [intOf]; omega
    · obtain rfl : k = 6 := by omega
      have e0 : ((6 : Nat) : Int) = 6 := rfl
      rw [e0]
      clear e0 hk hk6
      go_wp2_with fail
      refine (sPointAt_any _ 0 0 (by omega) (by omega) (by omega) (by omega)).mono ?_
      rintro e u0 ⟨s4, A4, n4, c4, B4, m4, d4, t4, C4, i4, e4, D4, j4, f4, rfl, hP0, hb0⟩
      go_wp2_with fail
      refine (sPointAt_any _ 2 0 (by omega) (by omega) (by omega) (by omega)).mono ?_
      rintro e u1 ⟨s5, A5, n5, c5, B5, m5, d5, t5, C5, i5, e5, D5, j5, f5, rfl, hP1, hb1⟩
      go_wp2_with fail
      refine (sPointAt_any _ 0 1 (by omega) (by omega) (by omega) (by omega)).mono ?_
      rintro e u2 ⟨s6, A6, n6, c6, B6, m6, d6, t6, C6, i6, e6, D6, j6, f6, rfl, hP2, hb2⟩
      have hP0 := OwPN.bl' (OwPN.bl' (OwPN.q hP0) hb1) hb2
      have hP1 := OwPN.bl' (OwPN.q hP1) hb2
      have hP2 := OwPN.q hP2
      have hO := ((hO.bl hb0).bl hb1).bl hb2
      go_wp2_with fail
      go_ret
      have hB : Blk (u2.alloc (.cells #[.bool s4, .slice A4 n4 c4, .slice B4 m4 d4, .bool t4, .slice C4 i4 e4, .slice D4 j4 f4, .bool s5, .slice A5 n5 c5, .slice B5 m5 d5, .bool t5, .slice C5 i5 e5, .slice D5 j5 f5, .bool s6, .slice A6 n6 c6, .slice B6 m6 d6, .bool t6, .slice C6 i6 e6, .slice D6 j6 f6] 45)) u2.heap.size 45 #[.bool s4, .slice A4 n4 c4, .slice B4 m4 d4, .bool t4, .slice C4 i4 e4, .slice D4 j4 f4, .bool s5, .slice A5 n5 c5, .slice B5 m5 d5, .bool t5, .slice C5 i5 e5, .slice D5 j5 f5, .bool s6, .slice A6 n6 c6, .slice B6 m6 d6, .bool t6, .slice C6 i6 e6, .slice D6 j6 f6] := Blk.new _ _ _
      have hal : Bl u2 (u2.alloc (.cells #[.bool s4, .slice A4 n4 c4, .slice B4 m4 d4, .bool t4, .slice C4 i4 e4, .slice D4 j4 f4, .bool s5, .slice A5 n5 c5, .slice B5 m5 d5, .bool t5, .slice C5 i5 e5, .slice D5 j5 f5, .bool s6, .slice A6 n6 c6, .slice B6 m6 d6, .bool t6, .slice C6 i6 e6, .slice D6 j6 f6] 45)) := (Bl.refl u2).alloc _
      have hx0 := (hP0.bl' hal).rdx.1
      have hy0 := (hP0.bl' hal).rdx.2
      have hx1 := (hP1.bl' hal).rdx.1
      have hy1 := (hP1.bl' hal).rdx.2
      have hx2 := (hP2.bl' hal).rdx.1
      have hy2 := (hP2.bl' hal).rdx.2
      refine ⟨u2.heap.size, 3, _, _, _, rfl, ?_, propB_fix, ptS_at 0 0 (by decide) (by decide), ptS_at 2 0 (by decide) (by decide), ptS_at 0 1 (by decide) (by decide), hO.bl hal⟩
      refine ⟨rfl, by omega, by omega, fun k hk => ?_⟩
      rcases (show k = 0 ∨ k = 1 ∨ k = 2 by omega) with rfl | rfl | rfl
      · exact ⟨_, rfl, hB.lt, _, _, _, _, _, _, _, _, _, _, _, _, _, _, ⟨(hB.cell 0).trans rfl, (hB.cell 1).trans rfl, (hB.cell 2).trans rfl, (hB.cell 3).trans rfl, (hB.cell 4).trans rfl, (hB.cell 5).trans rfl⟩, hx0, hy0⟩
      · exact ⟨_, rfl, hB.lt, _, _, _, _, _, _, _, _, _, _, _, _, _, _, ⟨(hB.cell 6).trans rfl, (hB.cell 7).trans rfl, (hB.cell 8).trans rfl, (hB.cell 9).trans rfl, (hB.cell 10).trans rfl, (hB.cell 11).trans rfl⟩, hx1, hy1⟩
      · exact ⟨_, rfl, hB.lt, _, _, _, _, _, _, _, _, _, _, _, _, _, _, ⟨(hB.cell 12).trans rfl, (hB.cell 13).trans rfl, (hB.cell 14).trans rfl, (hB.cell 15).trans rfl, (hB.cell 16).trans rfl, (hB.cell 17).trans rfl⟩, hx2, hy2⟩

set_option maxHeartbeats 1000000 in
theorem MakeTriangle_any (w : World) {A : Option Addr} {n c : Nat} {l : List Int} (m : Nat) (hm : m ≤ 100) (h : RdB w A n c l) :
    Calls Tryz.prog 30 #[.slice A n c, .int .i64 (m : Int)] w fun en w' => ∃ h c1 p0 p1 p2, en = .returned (.slice (some ⟨h, 0, none⟩) 3 c1) ∧ RdPS w' (some ⟨h, 0, none⟩) 3 c1 [p0, p1, p2] ∧ propB [p0, p1, p2] = true ∧ PtS p0 ∧ PtS p1 ∧ PtS p2 ∧ Bl w w' := by
  go_enter Tryz.func30, Tryz.ntmps30
  go_wp2_with fail
  refine (l31New_any _ (9 * m) (by omega) h).mono ?_
  rintro e w1 ⟨g, rfl, hg, hC, hb1⟩
  go_wp2_with fail
  refine (l06Draw_any _ hC).mono ?_
  rintro e w2 ⟨k, c1, p0, p1, p2, rfl, hL, hp, h0, h1, h2, hO⟩
  go_wp2_with fail
  go_ret
  exact ⟨_, _, p0, p1, p2, rfl, hL, hp, h0, h1, h2, hb1.ob hO fun b hb => by simp at hb; omega⟩


end

section

open Go.RowKit Go.ChangeShapes
open Go.Deep (open_slice open_slice1 choose_lt)
theorem cells_u8 : Tryz.prog.cellsOf 5 = 1 := by kernel_rfl
theorem open_by {H : Type} {enc : TypeId × Value → H} {w : World} {fuel : Nat} {cs : List Value} {x : DataW H × List MemPlace} {spare : Nat → Bool} {base : Nat} {held : Bool} (h : DataW.trod enc Tryz.prog w base spare held fuel 42 cs = some x) : ∃ A n c l, cs = [.slice A n c] ∧ RdB w A n c l := by
  rcases open_slice1 Tryz.underlying42 cells_u8 h with ⟨rfl, _⟩ | ⟨a, len, cap, m, k, V, D, Pl, rfl, hb, hl, hm, hmm, _, hx⟩
  · exact ⟨none, 0, 0, [], rfl, RdS.nil w _ _⟩
  · have hm' : cap ≤ 9223372036854775807 := by simpa [maxLen] using hm
    have hlm : len ≤ m := by rw [hmm]; split <;> omega
    refine ⟨some a, len, cap, (List.range len).map fun i => intOf (V i), rfl, by simp, hl, by omega, fun i hi => ?_⟩
    obtain ⟨hc, ht⟩ := hx i (by omega)
    obtain ⟨z, e, _, hwf⟩ := DataW.trod_int Tryz.underlying5 ht
    injection e with e
    have hlt : a.block < w.heap.size := by
      have := World.block_lt_of_cell? w _ hc
      rwa [block_add] at this
    have hz : 0 ≤ z ∧ z ≤ 255 := by
      have h1 : IntKind.u8.min = 0 := by decide
      have h2 : IntKind.u8.max = 255 := by decide
      simp only [Lit.wf, h1, h2, Bool.and_eq_true, decide_eq_true_eq] at hwf
      exact hwf
    refine ⟨a, rfl, hlt, ?_⟩
    have hpx : pix ((List.range len).map fun i => intOf (V i)) i = z := by simp [pix, hi, e, intOf]
    rw [hpx, Nat.mul_one]
    exact ⟨by rw [hc, e], hz⟩


end

end Go.Proofs.YtggjdgjkdmgjnaaGreat
