/- Lemmas. -/
import Derived.Test.YtajlahjghapbkaaGreatRows
import Derived.Test.YtajlahjghapbkaaGreatPAnglesM02
import Derived.Test.YtajlahjghapbkaaGreatPAnglesM08
import Derived.Test.YtajlahjghapbkaaGreatPAnglesM07
namespace Go.Proofs.YtajlahjghapbkaaGreat
section
open Go.RowKit

theorem and255 (x : Int) : 0 ≤ bits .and .i64 x 255 ∧ bits .and .i64 x 255 ≤ 255 := by
  rw [bits.eq_1]
  have h : (BitVec.ofInt IntKind.i64.bits x &&& BitVec.ofInt IntKind.i64.bits 255).toNat ≤ 255 := by
    rw [BitVec.toNat_and]
    exact Nat.le_trans Nat.and_le_right (by decide)
  rw [IntKind.wrap_i64]
  omega
/-- A byte of the code. -/
def ByteAt (w : World) (p : Addr) (x : Int) : Prop := w.cell? p = some (.int .u8 x) ∧ 0 ≤ x ∧ x ≤ 255
abbrev RdB := RdS 1 ByteAt
theorem RdB.bl {w W : World} {A : Option Addr} {n c : Nat} {l : List Int} (h : RdB w A n c l) (hb : Bl w W) : RdB W A n c l := RdS.bl (fun h hp hb => ⟨by rw [hb.cellOf hp]; exact h.1, h.2⟩) h hb
theorem RdB.ob {w W : World} {A : Option Addr} {n c g : Nat} {l : List Int} (h : RdB w A n c l) (hg : ∀ ad, A = Option.some ad → 0 < n → ad.block ≠ g) (hb : Ob [g] w W) : RdB W A n c l :=
  ⟨h.len, h.cap, h.small, fun k hk => by
    obtain ⟨ad, e, hlt, hc, hx⟩ := h.cells k hk
    refine ⟨ad, e, Nat.lt_of_lt_of_le hlt hb.size, ?_, hx⟩
    exact (World.cell?_of_block (w := w) (hb.block (ad.add (k * 1)).block (by rw [block_add]; exact hlt) (by rw [block_add]; simpa using hg ad e (by omega)))).trans hc⟩
/-- A cursor in block g. -/
def Cur (g : Nat) (w : World) (A : Option Addr) (n c : Nat) (l : List Int) : Prop :=
  ∃ i h : Int, Blk w g 169 #[.slice A n c, .int .i64 i, .int .i64 h] ∧ 0 ≤ i ∧ i ≤ n ∧ RdB w A n c l ∧ ∀ ad, A = Option.some ad → 0 < n → ad.block ≠ g
theorem Cur.bl {g n c : Nat} {w W : World} {A : Option Addr} {l : List Int} (h : Cur g w A n c l) (hb : Bl w W) : Cur g W A n c l := by
  obtain ⟨i, k, h1, h2, h3, h4, h5⟩ := h
  exact ⟨i, k, h1.bl hb, h2, h3, h4.bl hb, h5⟩
theorem Cur.lt {g n c : Nat} {w : World} {A : Option Addr} {l : List Int} (h : Cur g w A n c l) : g < w.heap.size := by
  obtain ⟨i, k, h1, _⟩ := h
  exact h1.lt
set_option maxRecDepth 100000 in
set_option maxHeartbeats 4000000 in
theorem l01Byte_any (w : World) {g n c : Nat} {A : Option Addr} {l : List Int} (hC : Cur g w A n c l) :
    Calls Tryz.prog 98 #[.pointer (some ⟨g, 0, none⟩)] w fun e w' => ∃ x : Int, e = .returned (.int .i64 x) ∧ 0 ≤ x ∧ x ≤ 255 ∧ Cur g w' A n c l ∧ Ob [g] w w' := by
  obtain ⟨i, h, hB, hi0, hin, hR, hne⟩ := hC
  have hs := hR.small
  obtain ⟨x0, x1, x2⟩ := bx3 hB
  have f1 := hB.frozen 1
  have f2 := hB.frozen 2
  have hg := hB.lt
  by_cases hlt : i < (n : Int)
  · obtain ⟨k, rfl⟩ := Int.eq_ofNat_of_zero_le hi0
    have hkn : k < n := by omega
    obtain ⟨ad, rfl, _⟩ := hR.cells k hkn
    have hna := hne ad rfl (by omega)
    go_enter Tryz.func98, Tryz.ntmps98
    go_wp2_with fail
    refine wp_gen (fun W => ∃ h', Blk W g 169 #[.slice (some ad) n c, .int .i64 (k : Int), .int .i64 h'] ∧ Ob [g] w W) ⟨_, by simpa using hB.set_ 2 _, (Ob.refl _ w).set (by simp) _ _⟩ ?_
    clear x0 x1 x2 f1 f2 hB
    rintro W ⟨h', hB, hO⟩
    have hR := hR.ob hne hO
    go_region_held3 (fun w' => (w'.cell? ⟨g, 0, none⟩ = some (.slice (some ad) n c) ∧ w'.cell? ⟨g, 1, none⟩ = some (.int .i64 (k : Int)) ∧ w'.cell? ⟨g, 2, none⟩ = some (.int .i64 h'))) (first | exact bx3 (T := 169) (hB.bl slc)) (fail)
    obtain ⟨hx0, hx1⟩ := and255 (bits .xor .i64 (h' / 8589934592) (h' / 35184372088832))
    generalize bits .and .i64 (bits .xor .i64 (h' / 8589934592) (h' / 35184372088832)) 255 = x at *
    go_wp2_with fail
    go_region_held3 (fun w' => (w'.cell? ⟨g, 0, none⟩ = some (.slice (some ad) n c) ∧ w'.cell? ⟨g, 1, none⟩ = some (.int .i64 (k : Int)) ∧ w'.cell? ⟨g, 2, none⟩ = some (.int .i64 h'))) (first | exact bx3 (T := 169) (hB.bl slc)) (fail)
    obtain ⟨_, e, hlt2, hc, hb0, hb1⟩ := hR.cells k hkn
    cases e
    rw [Nat.mul_one] at hc
    generalize pix l k = y at hc hb0 hb1
    have hlt3 : (ad.add k).block < W.heap.size := by rw [block_add]; exact hlt2
    go_wp2_with fail
    go_region_held3 (fun w' => (w'.cell? ⟨g, 0, none⟩ = some (.slice (some ad) n c) ∧ w'.cell? ⟨g, 1, none⟩ = some (.int .i64 (k : Int)) ∧ w'.cell? ⟨g, 2, none⟩ = some (.int .i64 h')) ∧ w'.cell? (ad.add k) = some (.int .u8 y)) (first | exact ⟨bx3 (T := 169) (hB.bl slc), (Bl.cellOf (w := W) (p := ad.add k) slc hlt3).trans hc⟩) (fail)
    obtain ⟨hz0, hz1⟩ := and255 (IntKind.i64.wrap (x + IntKind.i64.wrap y))
    generalize bits .and .i64 (IntKind.i64.wrap (x + IntKind.i64.wrap y)) 255 = z at *
    obtain ⟨x0, x1, x2⟩ := bx3 hB
    have f1 := hB.frozen 1
    go_wp2_with fail
    go_ret
    have hC2 : Cur g (W.setCell ⟨g, 1, none⟩ (.int .i64 ((k : Int) + 1))) (some ad) n c l := ⟨(k : Int) + 1, h', by simpa using hB.set_ 1 (.int .i64 ((k : Int) + 1)), by omega, by omega, hR.ob hne ((Ob.refl [g] W).set (by simp) _ _), hne⟩
    have hO2 := hO.set (g := g) (by simp) 1 (.int .i64 ((k : Int) + 1))
    exact ⟨z, rfl, hz0, hz1, hC2.bl slc, hO2.trans (Ob.of_bl slc _)⟩
  · have hnlt : ¬ i < (n : Int) := hlt
    go_enter Tryz.func98, Tryz.ntmps98
    go_wp2_with fail
    refine wp_gen (fun W => ∃ h', Blk W g 169 #[.slice A n c, .int .i64 i, .int .i64 h'] ∧ Ob [g] w W) ⟨_, by simpa using hB.set_ 2 _, (Ob.refl _ w).set (by simp) _ _⟩ ?_
    clear x0 x1 x2 f1 f2 hB
    rintro W ⟨h', hB, hO⟩
    have hR := hR.ob hne hO
    go_region_held3 (fun w' => (w'.cell? ⟨g, 0, none⟩ = some (.slice A n c) ∧ w'.cell? ⟨g, 1, none⟩ = some (.int .i64 i) ∧ w'.cell? ⟨g, 2, none⟩ = some (.int .i64 h'))) (first | exact bx3 (T := 169) (hB.bl slc)) (fail)
    obtain ⟨hx0, hx1⟩ := and255 (bits .xor .i64 (h' / 8589934592) (h' / 35184372088832))
    generalize bits .and .i64 (bits .xor .i64 (h' / 8589934592) (h' / 35184372088832)) 255 = x at *
    go_wp2_with fail
    go_region_held3 (fun w' => (w'.cell? ⟨g, 0, none⟩ = some (.slice A n c) ∧ w'.cell? ⟨g, 1, none⟩ = some (.int .i64 i) ∧ w'.cell? ⟨g, 2, none⟩ = some (.int .i64 h'))) (first | exact bx3 (T := 169) (hB.bl slc)) (fail)
    go_wp2_with fail
    go_ret
    exact ⟨x, rfl, hx0, hx1, (show Cur g W A n c l from ⟨i, h', hB, hi0, hin, hR, hne⟩).bl slc, hO.trans (Ob.of_bl slc _)⟩
set_option maxHeartbeats 4000000 in
theorem l01Below_any (w : World) {g n c : Nat} {A : Option Addr} {l : List Int} (m : Int) (hm0 : 0 < m) (hm1 : m ≤ 256) (hC : Cur g w A n c l) :
    Calls Tryz.prog 117 #[.pointer (some ⟨g, 0, none⟩), .int .i64 m] w fun e w' => ∃ x : Int, e = .returned (.int .i64 x) ∧ 0 ≤ x ∧ x < m ∧ Cur g w' A n c l ∧ Ob [g] w w' := by
  have hm2 : ¬ m ≤ 0 := by omega
  have hm3 : ¬ m = 0 := by omega
  go_enter Tryz.func117, Tryz.ntmps117
  go_wp2_with fail
  refine (l01Byte_any _ hC).mono ?_
  rintro e w1 ⟨x, rfl, hx0, hx1, hC1, hO⟩
  have ht : x.tmod m = x % m := by rw [Int.tmod_eq_emod_of_nonneg hx0]
  have hx2 := Int.emod_nonneg x (show m ≠ 0 by omega)
  have hx3 := Int.emod_lt_of_pos x hm0
  go_wp2_with fail
  go_ret
  exact ⟨x % m, rfl, hx2, hx3, hC1, hO⟩
set_option maxHeartbeats 4000000 in
theorem l01New_any (w : World) {A : Option Addr} {n c : Nat} {l : List Int} (h : RdB w A n c l) :
    Calls Tryz.prog 113 #[.slice A n c] w fun e w' => ∃ g, e = .returned (.pointer (some ⟨g, 0, none⟩)) ∧ w.heap.size ≤ g ∧ Cur g w' A n c l ∧ Bl w w' := by
  have hn := h.small
  go_enter Tryz.func113, Tryz.ntmps113
  go_wp2_with fail
  go_loopw [3, 4] (fun v i wr => ∃ (k : Nat) (z : Int), k ≤ n ∧ k ≤ 4000 ∧ i = .int .i64 (k : Int) ∧ v = .int .i64 z ∧ Bl w wr) (fun _ i _ => n - (intOf i).toNat)
  case atStart => exact ⟨0, _, Nat.zero_le _, Nat.zero_le _, rfl, rfl, Bl.refl _⟩
  case round =>
    obtain ⟨k, z, hk, hk4, rfl, rfl, hbw⟩ := hrel
    by_cases hkn : k < n
    · have hki : (k : Int) < (n : Int) := by omega
      by_cases hk5 : k < 4000
      · have hki2 : (k : Int) < 4000 := by omega
        obtain ⟨ad, rfl, hlt, hc, hb0, hb1⟩ := (RdB.bl h hbw).cells k hkn
        rw [Nat.mul_one] at hc
        go_wp2_with fail
        go_roundw
        case rel => exact ⟨k + 1, _, by omega, by omega, by go_num, rfl, slc⟩
        case measure => simp [intOf]; omega
      · have hd1 : decide ((k : Int) < 4000) = false := by simp; omega
        go_wp2_with fail
        go_ret
        exact ⟨wr.heap.size, rfl, hbw.size, ⟨0, z, Blk.new _ _ _, by omega, by omega, RdB.bl h (hbw.alloc _), fun ad e hn0 => by subst e; obtain ⟨_, e, hl, _⟩ := h.cells 0 hn0; cases e; have := hbw.size; omega⟩, slc⟩
    · have hd2 : decide ((k : Int) < (n : Int)) = false := by simp; omega
      go_wp2_with fail
      go_ret
      exact ⟨wr.heap.size, rfl, hbw.size, ⟨0, z, Blk.new _ _ _, by omega, by omega, RdB.bl h (hbw.alloc _), fun ad e hn0 => by subst e; obtain ⟨_, e, hl, _⟩ := h.cells 0 hn0; cases e; have := hbw.size; omega⟩, slc⟩
set_option maxHeartbeats 4000000 in
theorem l31New_any (w : World) {A : Option Addr} {n c : Nat} {l : List Int} (m : Nat) (hm : m ≤ 1000) (h : RdB w A n c l) :
    Calls Tryz.prog 70 #[.slice A n c, .int .i64 (m : Int)] w fun e w' => ∃ g, e = .returned (.pointer (some ⟨g, 0, none⟩)) ∧ w.heap.size ≤ g ∧ Cur g w' A n c l ∧ Bl w w' := by
  go_enter Tryz.func70, Tryz.ntmps70
  go_wp2_with fail
  refine (l01New_any _ h).mono ?_
  rintro e w1 ⟨g, rfl, hg, hC, hb1⟩
  go_wp2_with fail
  go_loopw [6] (fun i wr => ∃ k : Nat, k ≤ m ∧ i = .int .i64 (k : Int) ∧ Cur g wr A n c l ∧ Bl w wr) (fun i _ => m - (intOf i).toNat)
  case atStart => exact ⟨0, Nat.zero_le _, rfl, hC, hb1⟩
  case round =>
    clear hC hb1
    obtain ⟨k, hk, rfl, hC, hbw⟩ := hrel
    by_cases hkm : k < m
    · have hki : (k : Int) < (m : Int) := by omega
      go_wp2_with fail
      refine (l01Byte_any _ hC).mono ?_
      rintro e w2 ⟨x, rfl, -, -, hC2, hO⟩
      have hb2 := hbw.ob hO (fun b hb => by simp at hb; omega)
      go_wp2_with fail
      go_roundw
      case rel => exact ⟨k + 1, by omega, by go_num, hC2, hb2⟩
      case measure => simp [intOf]; omega
    · obtain rfl : k = m := by omega
      go_wp2_with fail
      go_ret
      exact ⟨g, rfl, hg, hC, hbw⟩
end

section
open Go.RowKit

set_option maxHeartbeats 1600000 in
theorem l02Trim_any (w : World) {A : Option Addr} {n c : Nat} {l : List Nat} (h : RdI w A n c (ints l)) (hd : Digs l) :
    Calls Tryz.prog 257 #[.slice A n c] w fun e w' => ∃ m, e = .returned (.slice A m c) ∧ m ≤ n ∧ l.take m = dig (val l) ∧ ∃ q, w' = w.drewN q := by
  have hn := h.small
  have hcap := h.cap
  have hl := Lib.hid h.lenN
  go_enter Tryz.func257, Tryz.ntmps257
  go_wp2_with fail
  go_loopw [3] (fun v wr => ∃ m : Nat, v = .int .i64 (m : Int) ∧ m ≤ n ∧ Hid (∀ j, m ≤ j → dx l j = 0) ∧ ∃ q, wr = w.drewN q) (fun v _ => (intOf v).toNat)
  case atStart => exact ⟨n, rfl, Nat.le_refl _, fun j hj => dx_beyond (by rw [hl.out]; exact hj), 0, rfl⟩
  case round =>
    obtain ⟨m, rfl, hm, hz, q, rfl⟩ := hrel
    have hmc : m ≤ c := by omega
    have hmi : (m : Int) ≤ (c : Int) := by omega
    rcases m with _ | m
    · have hfin := Lib.hid (trim_dig hd (Nat.zero_le _) hz.out (.inl rfl))
      go_wp2_with fail
      go_ret
      exact ⟨0, rfl, Nat.zero_le _, hfin.out, (by first | exact ⟨_, rfl⟩ | exact ⟨0, rfl⟩ | exact q_drewN ⟨_, rfl⟩ | exact q_drewN (q_drewN ⟨_, rfl⟩))⟩
    · obtain ⟨ad, rfl, hlt, hc⟩ := h.atN (k := m) (by omega)
      have hki : ((m + 1 : Nat) : Int) - 1 = (m : Int) := by omega
      have hpos : (0 : Int) < ((m + 1 : Nat) : Int) := by omega
      have hmn : (m : Int) < (n : Int) := by omega
      by_cases h0 : dx l m = 0
      · have hz' := Lib.hid (zero_step hz.out h0)
        rw [h0] at hc
        have h0' := Lib.hid h0; clear h0
        go_wp2_with fail
        go_roundw
        case rel => exact ⟨m, rfl, by omega, hz'.out, (by first | exact ⟨_, rfl⟩ | exact ⟨0, rfl⟩ | exact q_drewN ⟨_, rfl⟩ | exact q_drewN (q_drewN ⟨_, rfl⟩))⟩
        case measure => simp [intOf]
      · have hfin := Lib.hid (trim_dig hd (by rw [hl.out]; exact hm) hz.out (.inr h0))
        have hbeq : (((dx l m : Nat) : Int) == 0) = false := by simp; omega
        clear h0
        go_wp2_with fail
        go_ret
        exact ⟨m + 1, rfl, hm, hfin.out, (by first | exact ⟨_, rfl⟩ | exact ⟨0, rfl⟩ | exact q_drewN ⟨_, rfl⟩ | exact q_drewN (q_drewN ⟨_, rfl⟩))⟩
set_option maxHeartbeats 1600000 in
theorem l02Cap_any (w : World) {A : Option Addr} {n c : Nat} {l : List Nat} (h : RdI w A n c (ints l)) (hd : Digs l) (h60 : (dig (val l)).length ≤ 60) :
    Calls Tryz.prog 258 #[.slice A n c] w fun e w' => ∃ m, e = .returned (.slice A m c) ∧ m ≤ n ∧ l.take m = dig (val l) ∧ ∃ q, w' = w.drewN q := by
  have hl := Lib.hid h.lenN
  go_enter Tryz.func258, Tryz.ntmps258
  go_wp2_with fail
  refine (l02Trim_any _ h hd).mono ?_
  rintro e w1 ⟨m, rfl, hm, ht, q, rfl⟩
  have hm60 : m ≤ 60 := by
    have := congrArg List.length ht
    rw [List.length_take, hl.out] at this
    omega
  have hi : ¬ (60 : Int) < (m : Int) := by omega
  have ht := Lib.hid ht; rename_i h_; clear h_
  go_wp2_with fail
  go_ret
  exact ⟨m, rfl, hm, ht.out, q, rfl⟩
theorem l02Cap_num (w : World) {A : Option Addr} {n c N : Nat} (h : IsN w A n c N) (h60 : n ≤ 60) :
    Calls Tryz.prog 258 #[.slice A n c] w fun e w' => e = .returned (.slice A n c) ∧ ∃ q, w' = w.drewN q := by
  refine (l02Cap_any w h (digs_dig N) (by rw [val_dig, h.lenN]; exact h60)).mono ?_
  rintro e w1 ⟨m, rfl, hm, ht, hq⟩
  have := congrArg List.length ht
  rw [List.length_take, val_dig, h.lenN] at this
  obtain rfl : m = n := by omega
  exact ⟨rfl, hq⟩

set_option maxHeartbeats 1600000 in
theorem sNatOf_any (w : World) (N : Nat) (hN : N < 9223372036854775808) :
    Calls Tryz.prog 233 #[.int .i64 (N : Int)] w fun e w' => ∃ A n c, e = .returned (.slice A n c) ∧ OwI 3 w.heap.size w' A n c (ints (dig N)) ∧ Bl w w' := by
  go_enter Tryz.func233, Tryz.ntmps233
  go_wp2_with fail
  go_loopw [0, 3] (fun r v wr => ∃ (R : Nat) (d : List Nat), r = .int .i64 (R : Int) ∧ R ≤ N ∧ Hid (d ++ dig R = dig N) ∧ OwL 3 w.heap.size wr v (ints d) ∧ Bl w wr) (fun r _ _ => (intOf r).toNat)
  case atStart => exact ⟨N, [], rfl, Nat.le_refl _, rfl, OwL.empty w (Nat.le_refl _) (by simp), (Bl.refl w).alloc _⟩
  case round =>
    obtain ⟨R, d, rfl, hR, hd, hown, hbw⟩ := hrel
    by_cases h0 : 0 < R
    · have hnext := Lib.hid (natOf_step hd.out h0)
      have hlen : (ints d).length ≤ 1099511627776 := by
        have := congrArg List.length hd.out
        have h3 : (dig N).length ≤ 3 := dig_len_le.2 (by rw [Bs_eq]; omega)
        rw [List.length_append] at this
        rw [ints_len]; omega
      have hpos : (0 : Int) < (R : Int) := by omega
      have hdiv := Nat.div_lt_self h0 (show 1 < 1000000000 by omega)
      have hRi : (R : Int) ≤ 9223372036854775807 := by omega
      go_wp2_with (at_builtin; go_must (refine wpList_append_int (w0 := w) info_int Tryz.underlying25 rfl (.tmp 7) (.tmp 10) rfl _ (ints d) rfl hown hbw 1 rfl hlen ?_); intro v' w1 hown1 hbw1)
      go_roundw
      case rel => exact ⟨R / Bs, d ++ [R % Bs], by rw [Bs_eq]; go_num, Nat.le_trans (Nat.div_le_self _ _) hR, hnext.out, by rw [ints_append, Bs_eq]; exact hown1, hbw1⟩
      case measure => simp [intOf]; omega
    · obtain rfl : R = 0 := by omega
      have hfin := Lib.hid (show d = dig N by have := hd.out; rwa [dig_zero, List.append_nil] at this)
      have hlen : (ints d).length ≤ 9223372036854775807 := by
        have h3 : (dig N).length ≤ 3 := dig_len_le.2 (by rw [Bs_eq]; omega)
        rw [ints_len, hfin.out]; omega
      obtain ⟨A, c, hv, ho⟩ := hown.own hlen
      have hv := Lib.hid hv; rename_i hvo; clear hvo
      go_wp2_with fail
      go_ret
      exact ⟨A, _, c, congrArg Ending.returned hv.out, by rw [← hfin.out]; exact ho, hbw⟩

theorem OwI.cutN {T : TypeId} {b0 : Nat} {w : World} {A : Option Addr} {n c m N : Nat} {l : List Nat} (h : OwI T b0 w A n c (ints l)) (hm : m ≤ n) (ht : l.take m = dig N) : OwI T b0 w A m c (ints (dig N)) := by
  refine ⟨by rw [← ht]; exact h.1.cut hm, ?_⟩
  rcases h.2 with h0 | ⟨g, cs, e, hg, hh, hsz⟩
  · exact .inl (by omega)
  · exact .inr ⟨g, cs, e, hg, hh, by omega⟩
/-- What holds behind k rounds of a subtraction that collects. -/
structure SubA (N M k br : Nat) (o : List Nat) : Prop where
  len : o.length = k
  digs : Digs o
  small : br ≤ 1
  diff : val o + vf (dx (dig M)) k = vf (dx (dig N)) k + br * Bs ^ k
theorem SubA.step {N M k br d br' : Nat} {o : List Nat} (h : SubA N M k br o) (hd : d < Bs) (hb : br' ≤ 1) (he : d + br + dx (dig M) k = dx (dig N) k + br' * Bs) : SubA N M (k + 1) br' (o ++ [d]) := by
  refine ⟨by simp [h.len], digs_snoc h.digs hd, hb, ?_⟩
  have h2 := h.diff
  simp only [vf]
  rw [val_snoc, h.len, Nat.pow_succ]
  have h3 : (d + br + dx (dig M) k) * Bs ^ k = (dx (dig N) k + br' * Bs) * Bs ^ k := by rw [he]
  grind
theorem SubA.stop {N M n br : Nat} {o : List Nat} (h : SubA N M n br o) (hn : (dig N).length = n) (hm : (dig M).length ≤ n) (hle : M ≤ N) : val o = N - M := by
  have h1 := h.diff
  rw [val_vf hm, val_vf (by omega), val_dig, val_dig] at h1
  have h2 := val_lt h.digs
  rw [h.len] at h2
  have h3 := h.small
  rcases Nat.eq_zero_or_pos br with h0 | h0
  · subst h0; omega
  · obtain rfl : br = 1 := by omega
    omega

theorem run_append_nil' {P : Program} (w : World) (base : Nat) {t ty e : TypeId} {i : TypeInfo} {size : Nat} (ht : P.underlying t = some (.slice e)) (hi : P.info? e = some i)
    {v : Value} {n : Nat} {xs : List Value} (hown : w.ownsRow base e size v n xs) (c : Nat) : (Builtin.append_ #[t, t] ty #[v, .slice none 0 c]).run P w = .ok v w := by
  rcases hown.2 with ⟨rfl, rfl⟩ | ⟨g, cap, cur, rfl, _, _, hnc, _⟩
  · simp [Builtin.append_, run_underlying ht, sizeOf, typeInfo, hi, Builtin.lenOf, Builtin.firstCells]
  · simp [Builtin.append_, run_underlying ht, sizeOf, typeInfo, hi, Builtin.lenOf, Builtin.firstCells, hnc, storeCells]
/-- append of a whole slice that reads as ys, nil or not. -/
theorem wpList_append_x {P : Program} {E t : TypeId} (hinfo : (P.info? E).map (fun i => (i.zero, i.size, i.bytes)) = some (some (.int .i64 0), 1, 8)) (ht : P.underlying t = some (.slice E))
    {w0 W : World} {ops : Array Oper} {rest : List Oper} {o : Oper} {a : Act} {Q : Exit → Act → World → Prop} (hgd : o.guard = none) (s x : Operand)
    (ho : o.op = .call { callee := .builtin .append, args := #[s, x], argTypes := #[t, t] }) (v : Value) (l : List Int) (hs : a.eval s = v) (hown : OwL E w0.heap.size W v l) (hb : Bl w0 W)
    (A : Option Addr) (m c : Nat) (hx : a.eval x = .slice A m c) (ys : List Int) (hr : RdI W A m c ys) (hlen : l.length ≤ 1099511627776) (hm : m ≤ 1099511627776)
    (h : ∀ v' w', OwL E w0.heap.size w' v' (l ++ ys) → Bl w0 w' → wpList P ops Q rest (a.put o.dst v') w') : wpList P ops Q (o :: rest) a W := by
  rcases A with _ | ad
  · have hm0 : m = 0 := by
      rcases Nat.eq_zero_or_pos m with h0 | h0
      · exact h0
      · obtain ⟨_, e, _⟩ := hr.at_ h0
        cases e
    subst hm0
    have hy : ys = [] := List.length_eq_zero_iff.1 hr.len
    subst hy
    obtain ⟨i0, hi, hz0, hz1, hz2⟩ := info_parts hinfo
    refine wpList_plain hgd fun K hK => ?_
    have hrun := run_append_nil' (P := P) W w0.heap.size (ty := o.type) ht hi hown c
    unfold Oper.wp
    simp [execOp, ho, resolve, invoke, builtin, hs, hx, hrun, Result.andThen]
    exact hK _ _ (h v W (by rw [List.append_nil]; exact hown) hb)
  · exact wpList_append_all hinfo ht hgd s x ho v l hs hown hb ad m c hx ys hr hlen hm h
theorem OwL.one {E : TypeId} {base : Nat} (w : World) (x : Int) (hb : base ≤ w.heap.size) : OwL E base (w.alloc (.cells #[.int .i64 x] E)) (.slice (some ⟨w.heap.size, 0, none⟩) 1 1) [x] :=
  World.ownsRow_lit w #[.int .i64 x] 1 hb (by decide) rfl

theorem dx_dig (N k : Nat) : dx (dig N) k = N / Bs ^ k % Bs := by
  induction k generalizing N with
  | zero =>
    rw [Nat.pow_zero, Nat.div_one]
    by_cases h : N = 0
    · subst h; rw [dig_zero]; rfl
    · rw [dig_pos h, dx_cons_zero]
  | succ k ih =>
    by_cases h : N = 0
    · subst h; rw [dig_zero, Nat.zero_div]; rfl
    · rw [dig_pos h, dx_cons_succ, ih, Nat.div_div_eq_div_mul, Nat.pow_succ, Nat.mul_comm]
end

end Go.Proofs.YtajlahjghapbkaaGreat
