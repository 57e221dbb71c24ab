/- Lemmas. -/
import Derived.Test.YtjaapemopbbfaaaGreatDoorRows
import Derived.Test.YtjaapemopbbfaaaGreatDoorPPointsM05
import Derived.Test.YtjaapemopbbfaaaGreatDoorPPointsM10
import Derived.Test.YtjaapemopbbfaaaGreatDoorPPointsM01
namespace Go.Proofs.YtjaapemopbbfaaaGreatDoor
section
open Go.RowKit

theorem box3 {w W : World} {a b c : Value} {T : TypeId} (h : Bl (w.alloc (.cells #[a, b, c] T)) W) :
    W.cell? ⟨w.heap.size, 0, none⟩ = some a ∧ W.cell? ⟨w.heap.size, 1, none⟩ = some b ∧ W.cell? ⟨w.heap.size, 2, none⟩ = some c := by
  refine ⟨?_, ?_, ?_⟩ <;> (rw [h.cellOf (by simp)]; simp [go_sem])
/-- Block g has three cells that may be written. -/
def Wr3 (T : TypeId) (g : Nat) (W : World) : Prop := ∃ cs, Blk W g T cs ∧ cs.size = 3
theorem Wr3.bl {T : TypeId} {g : Nat} {w W : World} (h : Wr3 T g w) (hb : Bl w W) : Wr3 T g W := by
  obtain ⟨cs, h1, h2⟩ := h
  exact ⟨cs, h1.bl hb, h2⟩
theorem Wr3.set {T : TypeId} {g : Nat} {w : World} (h : Wr3 T g w) (i : Nat) (u : Value) : Wr3 T g (w.setCell ⟨g, i, none⟩ u) := by
  obtain ⟨cs, h1, h2⟩ := h
  exact ⟨_, h1.set_ i u, by simp [h2]⟩
theorem Wr3.new (T : TypeId) (w : World) (a b c : Value) : Wr3 T w.heap.size (w.alloc (.cells #[a, b, c] T)) := ⟨_, Blk.new _ _ _, rfl⟩
theorem Wr3.new2 (T : TypeId) (w : World) (o : Obj) (a b c : Value) : Wr3 T (w.heap.size + 1) ((w.alloc o).alloc (.cells #[a, b, c] T)) := by
  have := Wr3.new T (w.alloc o) a b c
  rwa [World.size_alloc] at this
theorem Wr3.drew {T : TypeId} {g : Nat} {w : World} (h : Wr3 T g w) : Wr3 T g w.drew := h
/-- What a cell holds (a plain def: a fact of it is a rule that does not run away). -/
def cellD (w : World) (g i : Nat) : Value := (w.cell? ⟨g, i, none⟩).getD undef
theorem cellD_eq {w : World} {g i : Nat} (h : ∃ v, w.cell? ⟨g, i, none⟩ = some v) : w.cell? ⟨g, i, none⟩ = some (cellD w g i) := by
  obtain ⟨v, h⟩ := h
  unfold cellD
  rw [h]; rfl
theorem Wr3.out {T : TypeId} {g : Nat} {w : World} (h : Wr3 T g w) : (w.cell? ⟨g, 0, none⟩ = some (cellD w g 0) ∧ w.cell? ⟨g, 1, none⟩ = some (cellD w g 1) ∧ w.cell? ⟨g, 2, none⟩ = some (cellD w g 2)) ∧ w.frozen? ⟨g, 0, none⟩ = false ∧ w.frozen? ⟨g, 1, none⟩ = false ∧ w.frozen? ⟨g, 2, none⟩ = false := by
  obtain ⟨cs, h1, h2⟩ := h
  exact ⟨⟨cellD_eq (h1.some (by omega)), cellD_eq (h1.some (by omega)), cellD_eq (h1.some (by omega))⟩, h1.frozen 0, h1.frozen 1, h1.frozen 2⟩

theorem OwR.far {T : TypeId} {b0 : Nat} {w : World} {s : Bool} {A : Option Addr} {n c : Nat} {B : Option Addr} {m d : Nat} {r : RatD} (h : OwR T b0 w s A n c B m d r) {p : Addr} (hp : p.block < b0) (u : Value) : OwR T b0 (w.setCell p u) s A n c B m d r := by
  obtain ⟨bs, h, hf⟩ := h
  exact ⟨bs, h.keep (by simp) (fun b hb => Below.heap_setCell w p u b (by have := (hf.2 b hb).1; omega)), hf.mono (Nat.le_refl _) (by simp)⟩
theorem OwR.two' {T : TypeId} {b0 : Nat} {w w1 : World} {s : Bool} {A : Option Addr} {n c : Nat} {B : Option Addr} {m d : Nat} {r : RatD} (h : OwI T b0 w1 A n c r.mag) (k : OwI T w1.heap.size w B m d r.den) (hb : Bl w1 w) (h0 : b0 ≤ w1.heap.size) (hs : s = r.neg) : OwR T b0 w s A n c B m d r := by
  obtain ⟨_, _, _⟩ := r
  subst hs
  exact OwR.two h k hb h0
set_option maxRecDepth 100000 in
set_option maxHeartbeats 8000000 in
theorem copyRat_any (w : World) {s : Bool} {A : Option Addr} {n c : Nat} {B : Option Addr} {m d : Nat} {r : RatD} (h : RdR w s A n c B m d r) (hn : n ≤ 1048576) (hm : m ≤ 1048576) :
    Calls Tryz.prog 49 #[.agg #[.bool s, .slice A n c, .slice B m d]] w fun e w' => ∃ A' n' c' B' m' d', e = .returned (.agg #[.bool s, .slice A' n' c', .slice B' m' d']) ∧ OwR 3 w.heap.size w' s A' n' c' B' m' d' r ∧ Bl w w' := by
  go_enter Tryz.func49, Tryz.ntmps49
  go_wp2_with fail
  go_region_held3 (fun w' => (w'.cell? ⟨w.heap.size, 0, none⟩ = some (.bool s) ∧ w'.cell? ⟨w.heap.size, 1, none⟩ = some (.slice A n c) ∧ w'.cell? ⟨w.heap.size, 2, none⟩ = some (.slice B m d)) ∧ (w'.cell? ⟨w.heap.size + 1, 0, none⟩ = some (cellD w' (w.heap.size + 1) 0) ∧ w'.cell? ⟨w.heap.size + 1, 1, none⟩ = some (cellD w' (w.heap.size + 1) 1) ∧ w'.cell? ⟨w.heap.size + 1, 2, none⟩ = some (cellD w' (w.heap.size + 1) 2)) ∧ w'.frozen? ⟨w.heap.size + 1, 0, none⟩ = false ∧ w'.frozen? ⟨w.heap.size + 1, 1, none⟩ = false ∧ w'.frozen? ⟨w.heap.size + 1, 2, none⟩ = false) (first | exact ⟨box3 slc, Wr3.out (T := 26) (by repeat (first | with_reducible exact Wr3.new2 _ _ _ _ _ _ | (with_reducible refine Wr3.drew ?_) | (with_reducible refine Wr3.set ?_ _ _) | (with_reducible refine Wr3.bl ?_ ‹Bl _ _›)))⟩) (first | (go_at_call 108; with_reducible refine (Clone_any _ (h.mag.bl slc) hn).mono ?_; rintro e w3 ⟨A1, k1, c1, rfl, hO1, hb3⟩) | (go_at_call 108; with_reducible refine (Clone_any _ (h.den.bl slc) hm).mono ?_; rintro e w4 ⟨A2, k2, c2, rfl, hO2, hb4⟩))
  have hs := h.neg
  have hb1 : Bl w w4 := slc
  have hz3 := hb3.size
  have hz4 := hb4.size
  have hR : OwR 3 (w.heap.size + 2) w4 s A1 k1 c1 A2 k2 c2 r := (OwR.two' hO1 hO2 hb4 hz3 hs).mono (show w.heap.size + 2 ≤ ((w.alloc (.cells #[.bool s, .slice A n c, .slice B m d] 26)).alloc (.cells #[.bool false, .slice none 0 0, .slice none 0 0] 26)).heap.size by simp)
  have hg : w.heap.size + 1 < w4.heap.size := by
    have : w.heap.size + 2 ≤ ((w.alloc (.cells #[.bool s, .slice A n c, .slice B m d] 26)).alloc (.cells #[.bool false, .slice none 0 0, .slice none 0 0] 26)).heap.size := by simp
    exact Nat.lt_of_lt_of_le (show w.heap.size + 1 < w.heap.size + 2 by omega) (Nat.le_trans this (Nat.le_trans hz3 hz4))
  obtain ⟨cs3, hB3, hcs3⟩ : Wr3 26 (w.heap.size + 1) w4 := ((Wr3.new2 26 w _ _ _ _).drew.bl hb3).bl hb4
  obtain ⟨v0, x0⟩ := hB3.some (i := 0) (by omega)
  obtain ⟨v1, x1⟩ := hB3.some (i := 1) (by omega)
  obtain ⟨v2, x2⟩ := hB3.some (i := 2) (by omega)
  go_wp2_with fail
  refine bodyPost_ret (v := .agg #[.bool s, .slice A1 k1 c1, .slice A2 k2 c2]) (by simp [results, Tryz.results49, go_sem, x0, x1, x2]) rfl ⟨_, _, _, _, _, _, rfl, (((hR.far (by simp) _).far (by simp) _).far (by simp) _).mono (by omega), slc⟩
end

section
open Go.RowKit

theorem okR_iff (r : RatD) : OkR r ↔ OkB r.neg r.mag ∧ OkN r.den ∧ 0 < r.den.length ∧ r.mag.length ≤ 24 ∧ r.den.length ≤ 24 ∧ Nat.gcd (nv r.mag) (nv r.den) = 1 := by
  constructor
  · rintro ⟨x, D, rfl, h0, h1, h2, h3⟩
    simp only [raw, nv_ints, ints_len]
    refine ⟨⟨⟨_, rfl, by omega⟩, fun e => ?_⟩, ⟨_, rfl, by omega⟩, dig_len_pos.2 h0, h2, h3, h1⟩
    rw [ints_len]
    have : x < 0 := by simpa using e
    exact dig_len_pos.2 (by omega)
  · rintro ⟨⟨h1, h2⟩, h3, h4, h5, h6, h7⟩
    have e1 := h1.nv.1
    have e3 := h3.nv.1
    have hn : (rn r).natAbs = nv r.mag := by unfold rn; split <;> omega
    rw [e1] at h2 h5
    rw [e3] at h4 h6
    rw [ints_len] at h2 h4 h5 h6
    refine ⟨rn r, rd r, ?_, dig_len_pos.1 h4, by rw [hn]; exact h7, by rw [hn]; exact h5, h6⟩
    obtain ⟨s, mag, den⟩ := r
    unfold raw
    congr 1
    · by_cases hs : s = true
      · have := dig_len_pos.1 (h2 hs)
        subst hs
        simp [rn]
        omega
      · have : s = false := by simpa using hs
        subst this
        simp [rn]
    · rw [hn]; exact e1
theorem okR_of {r : RatD} (h : OkR r) : okR r = true := okR_true.2 h
theorem okR_no {r : RatD} (h : ¬ OkR r) : okR r = false := okR_false.2 h

section
variable (w : World) {s : Bool} {A : Option Addr} {n c : Nat} {B : Option Addr} {m d : Nat} {r : RatD}
set_option maxHeartbeats 4000000 in
theorem RatOk_bad (h : RdR w s A n c B m d r) (ho : ¬ OkR r) (ho' : ¬ (OkB s r.mag ∧ OkN r.den ∧ 0 < m ∧ n ≤ 24 ∧ m ≤ 24)) :
    Calls Tryz.prog 48 #[.agg #[.bool s, .slice A n c, .slice B m d]] w fun e w' => e = .returned (.bool (okR r)) ∧ Bl w w' := by
  rw [okR_no ho]
  clear ho
  by_cases h1 : OkB s r.mag
  · have hB1 := okB_yes h1
    by_cases h2 : OkN r.den
    · have hN1 := okN_of h2
      by_cases h3 : 0 < m
      · have h3i : ((m : Int) == 0) = false := by simp; omega
        by_cases h4 : n ≤ 24
        · have h4i : decide ((24 : Int) < (n : Int)) = false := by simp; omega
          have h5 : ¬ m ≤ 24 := fun h5 => ho' ⟨h1, h2, h3, h4, h5⟩
          have h5i : decide ((24 : Int) < (m : Int)) = true := by simp; omega
          clear ho' h1 h2 h3 h4 h5
          go_enter Tryz.func48, Tryz.ntmps48
          go_wp2_with fail
          refine (BigIntOk_any _ (h.mag.alloc _)).mono ?_
          rw [hB1]
          rintro e w1 ⟨rfl, hb1⟩
          obtain ⟨k0, k1, k2⟩ := box3 hb1
          have hb1 : Bl w w1 := slc
          go_wp2_with fail
          refine (NatOk_any _ (h.den.bl hb1)).mono ?_
          rw [hN1]
          rintro e w2 ⟨rfl, q2, rfl⟩
          go_wp2_with fail
          go_ret
          exact ⟨rfl, slc⟩

        · have h4i : decide ((24 : Int) < (n : Int)) = true := by simp; omega
          clear ho' h1 h2 h3 h4
          go_enter Tryz.func48, Tryz.ntmps48
          go_wp2_with fail
          refine (BigIntOk_any _ (h.mag.alloc _)).mono ?_
          rw [hB1]
          rintro e w1 ⟨rfl, hb1⟩
          obtain ⟨k0, k1, k2⟩ := box3 hb1
          have hb1 : Bl w w1 := slc
          go_wp2_with fail
          refine (NatOk_any _ (h.den.bl hb1)).mono ?_
          rw [hN1]
          rintro e w2 ⟨rfl, q2, rfl⟩
          go_wp2_with fail
          go_ret
          exact ⟨rfl, slc⟩

      · obtain rfl : m = 0 := by omega
        clear ho' h1 h2 h3
        go_enter Tryz.func48, Tryz.ntmps48
        go_wp2_with fail
        refine (BigIntOk_any _ (h.mag.alloc _)).mono ?_
        rw [hB1]
        rintro e w1 ⟨rfl, hb1⟩
        obtain ⟨k0, k1, k2⟩ := box3 hb1
        have hb1 : Bl w w1 := slc
        go_wp2_with fail
        refine (NatOk_any _ (h.den.bl hb1)).mono ?_
        rw [hN1]
        rintro e w2 ⟨rfl, q2, rfl⟩
        go_wp2_with fail
        go_ret
        exact ⟨rfl, slc⟩

    · have hN0 := okN_no h2
      clear ho' h1 h2
      go_enter Tryz.func48, Tryz.ntmps48
      go_wp2_with fail
      refine (BigIntOk_any _ (h.mag.alloc _)).mono ?_
      rw [hB1]
      rintro e w1 ⟨rfl, hb1⟩
      obtain ⟨k0, k1, k2⟩ := box3 hb1
      have hb1 : Bl w w1 := slc
      go_wp2_with fail
      refine (NatOk_any _ (h.den.bl hb1)).mono ?_
      rw [hN0]
      rintro e w2 ⟨rfl, q2, rfl⟩
      go_wp2_with fail
      go_ret
      exact ⟨rfl, slc⟩

  · have hB0 := okB_no h1
    clear ho' h1
    go_enter Tryz.func48, Tryz.ntmps48
    go_wp2_with fail
    refine (BigIntOk_any _ (h.mag.alloc _)).mono ?_
    rw [hB0]
    rintro e w1 ⟨rfl, hb1⟩
    obtain ⟨k0, k1, k2⟩ := box3 hb1
    have hb1 : Bl w w1 := slc
    go_wp2_with fail
    go_ret
    exact ⟨rfl, slc⟩


set_option maxHeartbeats 4000000 in
theorem RatOk_fine {x : Int} {D : Nat} (h : IsR w s A n c B m d x D) (hB1 : okB s (raw x D).mag = true) (hN1 : okN (raw x D).den = true) (h3 : 0 < m) (h4 : n ≤ 24) (h5 : m ≤ 24) :
    Calls Tryz.prog 48 #[.agg #[.bool s, .slice A n c, .slice B m d]] w fun e w' => e = .returned (.bool (decide (Nat.gcd x.natAbs D = 1))) ∧ Bl w w' := by
  have h3i : ((m : Int) == 0) = false := by simp; omega
  have h4i : decide ((24 : Int) < (n : Int)) = false := by simp; omega
  have h5i : decide ((24 : Int) < (m : Int)) = false := by simp; omega
  by_cases hs : n ≤ 1 ∧ m = 1
  · obtain ⟨hn1, rfl⟩ := hs
    have hx := small_le (N := x.natAbs) (by rw [h.num.lenN]; exact hn1)
    have hD := (one_limb h.dn.lenN).2
    have hb1 : -1000000000 < x := by omega
    have hb2 : x < 1000000000 := by omega
    clear h3 h4 h5
    go_enter Tryz.func48, Tryz.ntmps48
    go_wp2_with fail
    refine (BigIntOk_any _ (h.mag.alloc _)).mono ?_
    rw [hB1]
    rintro e w1 ⟨rfl, hb1⟩
    obtain ⟨k0, k1, k2⟩ := box3 hb1
    have hb1 : Bl w w1 := slc
    go_wp2_with fail
    refine (NatOk_any _ (h.den.bl hb1)).mono ?_
    rw [hN1]
    rintro e w2 ⟨rfl, q2, rfl⟩
    go_wp2_with fail
    refine (isSmall_yes _ hn1 rfl).mono ?_
    rintro e w3 ⟨rfl, hb3⟩
    obtain ⟨k3, k4, k5⟩ := box3 (W := w3) (w := w) (a := .bool s) (b := .slice A n c) (c := .slice B 1 d) (T := 26) slc
    have hb3 : Bl w w3 := slc
    go_wp2_with fail
    refine (small_any _ (h.bl hb3) hn1).mono ?_
    rintro e w4 ⟨rfl, hb4⟩
    have hb4 : Bl w w4 := slc
    rcases Int.lt_or_le x 0 with hx0 | hx0
    · have hmx : x < -x := by omega
      have hu : Hid (-x = ((x.natAbs : Nat) : Int)) := by unfold Hid; omega
      clear hx hx0
      go_wp2_with fail
      refine (gcd_int _ x.natAbs D hu.out (by omega) (by omega)).mono ?_
      rintro e w5 ⟨rfl, q5, rfl⟩
      go_wp2_with fail
      go_ret
      exact ⟨ret_bool (by rw [Bool.eq_iff_iff]; simp; omega), slc⟩
    · have hmx : ¬ x < -x := by omega
      have hu : Hid (x = ((x.natAbs : Nat) : Int)) := by unfold Hid; omega
      clear hx
      go_wp2_with fail
      refine (gcd_int _ x.natAbs D hu.out (by omega) (by omega)).mono ?_
      rintro e w5 ⟨rfl, q5, rfl⟩
      go_wp2_with fail
      go_ret
      exact ⟨ret_bool (by rw [Bool.eq_iff_iff]; simp; omega), slc⟩
  · have hns : Hid (¬ (n ≤ 1 ∧ m = 1)) := hs
    clear hs
    go_enter Tryz.func48, Tryz.ntmps48
    go_wp2_with fail
    refine (BigIntOk_any _ (h.mag.alloc _)).mono ?_
    rw [hB1]
    rintro e w1 ⟨rfl, hb1⟩
    obtain ⟨k0, k1, k2⟩ := box3 hb1
    have hb1 : Bl w w1 := slc
    go_wp2_with fail
    refine (NatOk_any _ (h.den.bl hb1)).mono ?_
    rw [hN1]
    rintro e w2 ⟨rfl, q2, rfl⟩
    go_wp2_with fail
    refine (isSmall_no _ hns.out).mono ?_
    rintro e w3 ⟨rfl, hb3⟩
    obtain ⟨k3, k4, k5⟩ := box3 (W := w3) (w := w) (a := .bool s) (b := .slice A n c) (c := .slice B m d) (T := 26) slc
    have hb3 : Bl w w3 := slc
    go_wp2_with fail
    refine (natGcd_any _ (h.num.bl hb3) (h.dn.bl hb3) (by omega) (by omega)).mono ?_
    rintro e w4 ⟨A', n', c', rfl, hO, hb4⟩
    have hb4 : Bl w w4 := slc
    by_cases hg : Nat.gcd x.natAbs D = 1
    · rw [hg] at hO
      have hd := Lib.hid (show decide (Nat.gcd x.natAbs D = 1) = true by simp [hg])
      clear hg
      go_wp2_with fail
      refine (isOne_yes _ hO.rd).mono ?_
      rintro e w5 ⟨rfl, q5, rfl⟩
      go_wp2_with fail
      go_ret
      exact ⟨ret_bool hd.out.symm, slc⟩
    · have hd := Lib.hid (show decide (Nat.gcd x.natAbs D = 1) = false by simp [hg])
      have hg := Lib.hid hg; rename_i h_; clear h_
      go_wp2_with fail
      refine (isOne_no _ hO.rd hg.out).mono ?_
      rintro e w5 ⟨rfl, q5, rfl⟩
      go_wp2_with fail
      go_ret
      exact ⟨ret_bool hd.out.symm, slc⟩
theorem RatOk_any (h : RdR w s A n c B m d r) :
    Calls Tryz.prog 48 #[.agg #[.bool s, .slice A n c, .slice B m d]] w fun e w' => e = .returned (.bool (okR r)) ∧ Bl w w' := by
  have hiff := okR_iff r
  rw [h.mag.len, h.den.len, ← h.neg] at hiff
  by_cases hg : OkB s r.mag ∧ OkN r.den ∧ 0 < m ∧ n ≤ 24 ∧ m ≤ 24
  · obtain ⟨g1, g2, g3, g4, g5⟩ := hg
    have e1 := g1.1.nv.1
    have e2 := g2.nv.1
    have hn : (rn r).natAbs = nv r.mag := by unfold rn; split <;> omega
    have hr : r = raw (rn r) (rd r) := by
      obtain ⟨s', mag, den⟩ := r
      have hs := h.neg
      simp only at hs
      subst hs
      unfold raw
      congr 1
      · by_cases hs : s = true
        · have := g1.2 hs
          simp only at this e1
          rw [e1, ints_len] at this
          have := dig_len_pos.1 this
          subst hs
          simp [rn]
          omega
        · have : s = false := by simpa using hs
          subst this
          simp [rn]
      · rw [hn]; exact e1
    have hI : IsR w s A n c B m d (rn r) (rd r) := by
      have h2 := h
      rw [hr] at h2
      exact h2
    refine (RatOk_fine w hI (by rw [← hr]; exact okB_yes g1) (by rw [← hr]; exact okN_of g2) g3 g4 g5).mono ?_
    rintro e w' ⟨rfl, hb⟩
    refine ⟨?_, hb⟩
    congr 2
    by_cases hk : Nat.gcd (nv r.mag) (nv r.den) = 1
    · rw [okR_of (hiff.2 ⟨g1, g2, g3, g4, g5, hk⟩), hn]
      simp [rd, hk]
    · rw [okR_no (fun ho => hk (hiff.1 ho).2.2.2.2.2), hn]
      simp [rd, hk]
  · exact RatOk_bad w h (fun ho => hg ⟨(hiff.1 ho).1, (hiff.1 ho).2.1, (hiff.1 ho).2.2.1, (hiff.1 ho).2.2.2.1, (hiff.1 ho).2.2.2.2.1⟩) hg
end
end

section
open Go.RowKit

/-- The three cells of a fraction. -/
def RtAt (w : World) (p : Addr) (r : RatD) : Prop :=
  ∃ s A n c B m d, (w.cell? p = some (.bool s) ∧ w.cell? ⟨p.block, p.off + 1, none⟩ = some (.slice A n c) ∧ w.cell? ⟨p.block, p.off + 2, none⟩ = some (.slice B m d)) ∧ RdR w s A n c B m d r
theorem RtAt.bl {w W : World} {p : Addr} {r : RatD} (h : RtAt w p r) (hp : p.block < w.heap.size) (hb : Bl w W) : RtAt W p r := by
  obtain ⟨s, A, n, c, B, m, d, ⟨h0, h1, h2⟩, hx⟩ := h
  refine ⟨s, A, n, c, B, m, d, ⟨?_, ?_, ?_⟩, hx.bl hb⟩
  · rw [hb.cellOf hp]; exact h0
  · rw [hb.cellOf (p := ⟨p.block, p.off + 1, none⟩) hp]; exact h1
  · rw [hb.cellOf (p := ⟨p.block, p.off + 2, none⟩) hp]; exact h2
abbrev RdRS := RdS 3 RtAt
theorem RdRS.bl {w W : World} {A : Option Addr} {n c : Nat} {l : List RatD} (h : RdRS w A n c l) (hb : Bl w W) : RdRS W A n c l := RdS.bl (fun h hp hb => h.bl hp hb) h hb
def RtIn (T : TypeId) (w : World) (cs : Array Value) (i : Nat) (r : RatD) (bs : List Nat) : Prop :=
  ∃ s A n c B m d, (cs[i]? = some (.bool s) ∧ cs[i + 1]? = some (.slice A n c) ∧ cs[i + 2]? = some (.slice B m d)) ∧ FtR T w s A n c B m d r bs
/-- The footprints of a list of fractions whose cells lie in cs one behind the other. -/
def RtsIn (T : TypeId) (w : World) (cs : Array Value) (l : List RatD) (k : Nat) (fs : List (List Nat)) : Prop :=
  fs.length = k ∧ ∀ i, i < k → RtIn T w cs (i * 3) (pix l i) (pix fs i)
section
variable {T : TypeId} {w W : World} {cs cs' : Array Value} {i : Nat} {r : RatD} {bs : List Nat}
theorem RtIn.keep (h : RtIn T w cs i r bs) (hc : ∀ j, j < 3 → cs'[i + j]? = cs[i + j]?) (hs : w.heap.size ≤ W.heap.size) (hk : ∀ b ∈ bs, W.heap[b]? = w.heap[b]?) : RtIn T W cs' i r bs := by
  obtain ⟨s, A, n, c, B, m, d, ⟨h0, h1, h2⟩, hx⟩ := h
  refine ⟨s, A, n, c, B, m, d, ⟨?_, ?_, ?_⟩, hx.keep hs hk⟩
  · rw [← h0]; exact hc 0 (by omega)
  · rw [← h1]; exact hc 1 (by omega)
  · rw [← h2]; exact hc 2 (by omega)
theorem set3_size {cs : Array Value} {i : Nat} {x0 x1 x2 : Value} : (((cs.setIfInBounds i x0).setIfInBounds (i + 1) x1).setIfInBounds (i + 2) x2).size = cs.size := by simp
theorem set3_far {cs : Array Value} {i q : Nat} {x0 x1 x2 : Value} (h : q < i ∨ i + 2 < q) : (((cs.setIfInBounds i x0).setIfInBounds (i + 1) x1).setIfInBounds (i + 2) x2)[q]? = cs[q]? := by
  rw [Array.getElem?_setIfInBounds_ne (by omega), Array.getElem?_setIfInBounds_ne (by omega), Array.getElem?_setIfInBounds_ne (by omega)]
theorem set3_at {cs : Array Value} {i : Nat} {x0 x1 x2 : Value} (h : i + 2 < cs.size) : ∀ z, z = (((cs.setIfInBounds i x0).setIfInBounds (i + 1) x1).setIfInBounds (i + 2) x2) →
    z[i]? = some x0 ∧ z[i + 1]? = some x1 ∧ z[i + 2]? = some x2 := by
  rintro z rfl
  refine ⟨?_, ?_, ?_⟩ <;> simp [Array.getElem?_setIfInBounds] <;> omega
end
section
variable {T : TypeId} {w W : World} {cs : Array Value} {l : List RatD} {k : Nat} {fs : List (List Nat)}
theorem RtsIn.bl (h : RtsIn T w cs l k fs) (hb : Bl w W) (hf : ∀ b ∈ fs.flatten, b < w.heap.size) : RtsIn T W cs l k fs :=
  ⟨h.1, fun i hi => (h.2 i hi).keep (fun _ _ => rfl) hb.size fun b hm => Below.block hb b (hf b (mem_flatten_pix hm))⟩
theorem RtsIn.far (h : RtsIn T w cs l k fs) {p : Addr} (hp : ∀ b ∈ fs.flatten, b ≠ p.block) (u : Value) : RtsIn T (w.setCell p u) cs l k fs :=
  ⟨h.1, fun i hi => (h.2 i hi).keep (fun _ _ => rfl) (by simp) fun b hm => Below.heap_setCell w p u b (hp b (mem_flatten_pix hm))⟩
/-- One fraction more is stored behind the first k. -/
theorem RtsIn.step {g n : Nat} {TP : TypeId} (hP : RtsIn T w cs l k fs) (hB : Blk w g TP cs) (hcs : cs.size = n * 3) (hk : k < n) {lo : Nat} (hF : Fp (g + 1) lo fs.flatten) (hlo : g + 1 ≤ lo)
    {s : Bool} {n1 n2 g1 g2 : Nat} (h1 : lo ≤ g1) (h2 : g1 < g2)
    (hs : s = (pix l k).neg) (l1 : (pix l k).mag.length = n1) (l2 : (pix l k).den.length = n2)
    (s1 : n1 ≤ 9223372036854775807) (s2 : n2 ≤ 9223372036854775807)
    (o1 : Ow T w g1 (pix l k).mag) (o2 : Ow T w g2 (pix l k).den)
    (hW : W = ((w.setCell ⟨g, k * 3, none⟩ (.bool s)).setCell ⟨g, k * 3 + 1, none⟩ (.slice (some ⟨g1, 0, none⟩) n1 n1)).setCell ⟨g, k * 3 + 2, none⟩ (.slice (some ⟨g2, 0, none⟩) n2 n2)) :
    ∃ cs' fs', Blk W g TP cs' ∧ cs'.size = n * 3 ∧ RtsIn T W cs' l (k + 1) fs' ∧ Fp (g + 1) W.heap.size fs'.flatten := by
  have hWs : W.heap.size = w.heap.size := by rw [hW]; simp
  have hkeep : ∀ b, b ≠ g → W.heap[b]? = w.heap[b]? := by
    intro b hb
    rw [hW]
    rw [Below.heap_setCell _ _ _ _ hb, Below.heap_setCell _ _ _ _ hb, Below.heap_setCell _ _ _ _ hb]
  have g2lt := o2.lt
  obtain ⟨b1, f1, p1⟩ := FtI.of_ow o1 l1 s1
  obtain ⟨b2, f2, p2⟩ := FtI.of_ow o2 l2 s2
  have PA := p1.app p2 (by omega) (by omega) (by omega)
  have hsz : w.heap.size ≤ W.heap.size := by omega
  have hne : ∀ {bs : List Nat} {lo' hi' : Nat}, Fp lo' hi' bs → g < lo' → ∀ b ∈ bs, W.heap[b]? = w.heap[b]? := fun hp hl b hb => hkeep b (by have := (hp.2 b hb).1; omega)
  have hst := set3_at (cs := cs) (i := k * 3) (x0 := .bool s) (x1 := .slice (some ⟨g1, 0, none⟩) n1 n1) (x2 := .slice (some ⟨g2, 0, none⟩) n2 n2) (by omega) _ rfl
  obtain ⟨a0, a1, a2⟩ := hst
  refine ⟨_, fs ++ [b1 ++ b2], by rw [hW]; exact ((hB.set_ _ _).set_ _ _).set_ _ _, by rw [set3_size]; exact hcs, ⟨by simp [hP.1], fun i hi => ?_⟩, ?_⟩
  · rcases Nat.lt_succ_iff_lt_or_eq.1 hi with hi | rfl
    · rw [pix_append_left (a := fs) (by rw [hP.1]; exact hi)]
      refine (hP.2 i hi).keep (fun j hj => set3_far (.inl (by omega))) hsz fun b hb => hkeep b ?_
      have := (hF.2 b (mem_flatten_pix hb)).1
      omega
    · have e : pix (fs ++ [b1 ++ b2]) i = b1 ++ b2 := by rw [← hP.1]; exact pix_append_last
      rw [e]
      exact ⟨s, _, n1, n1, _, n2, n2, ⟨a0, a1, a2⟩, ⟨hs, b1, b2, f1.keep hsz (hne p1 (by omega)), f2.keep hsz (hne p2 (by omega)), rfl⟩⟩
  · rw [List.flatten_append]
    simp only [List.flatten_cons, List.flatten_nil, List.append_nil]
    exact hF.app (PA.mono (Nat.le_refl _) (by omega)) (by omega) (by omega) (by omega)
end
theorem RtIn.at_ {T : TypeId} {w : World} {g : Nat} {TP : TypeId} {cs : Array Value} {i : Nat} {r : RatD} {bs : List Nat} (h : RtIn T w cs i r bs) (hB : Blk w g TP cs) : RtAt w ⟨g, i, none⟩ r := by
  obtain ⟨s, A, n, c, B, m, d, ⟨h0, h1, h2⟩, hx⟩ := h
  exact ⟨s, A, n, c, B, m, d, ⟨(hB.cell _).trans h0, (hB.cell _).trans h1, (hB.cell _).trans h2⟩, hx.rd⟩
theorem RtsIn.rd {T : TypeId} {w : World} {g : Nat} {TP : TypeId} {cs : Array Value} {l : List RatD} {fs : List (List Nat)} {n c : Nat} (h : RtsIn T w cs l n fs) (hB : Blk w g TP cs) (hl : l.length = n) (hn : n ≤ 9223372036854775807) (hc : n ≤ c) : RdRS w (some ⟨g, 0, none⟩) n c l :=
  ⟨hl, hc, hn, fun k hk => ⟨_, rfl, hB.lt, by
    rw [Addr.add_lit, Nat.zero_add]
    exact (h.2 k hk).at_ hB⟩⟩
/-- A list of fractions in memory of its own from block b0 on. -/
def OwRS (TI TR : TypeId) (b0 : Nat) (w : World) (A : Option Addr) (n c : Nat) (l : List RatD) : Prop :=
  ∃ g cs fs, A = some ⟨g, 0, none⟩ ∧ b0 ≤ g ∧ l.length = n ∧ n ≤ c ∧ n ≤ 1048576 ∧ Blk w g TR cs ∧ cs.size = n * 3 ∧ RtsIn TI w cs l n fs ∧ Fp b0 w.heap.size fs.flatten
theorem OwRS.rd {TI TR : TypeId} {b0 : Nat} {w : World} {A : Option Addr} {n c : Nat} {l : List RatD} (h : OwRS TI TR b0 w A n c l) : RdRS w A n c l := by
  obtain ⟨g, cs, fs, rfl, h1, h2, h3, h4, h5, h6, h7, h8⟩ := h
  exact h7.rd h5 h2 (by omega) h3
theorem OwRS.bl {TI TR : TypeId} {b0 : Nat} {w W : World} {A : Option Addr} {n c : Nat} {l : List RatD} (h : OwRS TI TR b0 w A n c l) (hb : Bl w W) : OwRS TI TR b0 W A n c l := by
  obtain ⟨g, cs, fs, rfl, h1, h2, h3, h4, h5, h6, h7, h8⟩ := h
  exact ⟨g, cs, fs, rfl, h1, h2, h3, h4, h5.bl hb, h6, h7.bl hb (fun b hm => (h8.2 b hm).2), h8.mono (Nat.le_refl _) hb.size⟩
end

end Go.Proofs.YtjaapemopbbfaaaGreatDoor
