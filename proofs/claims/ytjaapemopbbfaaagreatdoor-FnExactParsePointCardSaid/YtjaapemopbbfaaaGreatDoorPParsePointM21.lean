/- Lemmas. -/
import Derived.Test.YtjaapemopbbfaaaGreatDoorRows
import Derived.Test.YtjaapemopbbfaaaGreatDoorPParsePointM20
import Derived.Test.YtjaapemopbbfaaaGreatDoorPParsePointM19
import Derived.Deep.Cut
import Derived.Deep.DeepCutAuto
import Derived.Test.YtjaapemopbbfaaaGreatDoorPParsePointM18
namespace Go.Proofs.YtjaapemopbbfaaaGreatDoor
section
open Go.RowKit

set_option maxRecDepth 100000 in
set_option maxHeartbeats 8000000 in
theorem l02Gcd_any (w : World) {A B : Option Addr} {n m c d N M : Nat} (ha : IsN w A n c N) (hb : IsN w B m d M) (hn : n ≤ 1048570) (hm : m ≤ 1048570) :
    Calls Tryz.prog 179 #[.slice A n c, .slice B m d] w fun e w' => ∃ A' n' c', e = .returned (.slice A' n' c') ∧ OwI 3 w.heap.size w' A' n' c' (ints (dig (Nat.gcd N M))) ∧ Bl w w' := by
  go_enter Tryz.func179, Tryz.ntmps179
  go_wp2_with (first | (at_builtin; refine wpList_append_x (w0 := w) info_int Tryz.underlying22 rfl (.tmp 13) (.tmp 14) rfl _ [] rfl (OwL.empty w (Nat.le_refl _) (by simp)) ((Bl.refl w).alloc _) A n c rfl (ints (dig N)) (RdI.alloc ha _) (by simp) (by omega) ?_; intro v1 w1 hown1 hbw1) | (at_builtin; refine wpList_append_x (w0 := w1) info_int Tryz.underlying22 rfl (.tmp 16) (.tmp 17) rfl _ [] rfl (OwL.empty w1 (Nat.le_refl _) (by simp)) ((Bl.refl w1).alloc _) B m d rfl (ints (dig M)) (RdI.alloc (RdI.bl hb hbw1) _) (by simp) (by omega) ?_; intro v2 w2 hown2 hbw2))
  obtain ⟨A1, c1, hv1, ho1⟩ := hown1.own (by have := RdI.len ha; simp; omega)
  have hl1 : (([] : List Int) ++ ints (dig N)).length = n := by have := RdI.len ha; simpa using this
  rw [hl1, List.nil_append] at ho1
  rw [hl1] at hv1
  subst hv1
  clear hown1 hl1
  obtain ⟨A2, c2, hv2, ho2⟩ := hown2.own (by have := RdI.len hb; simp; omega)
  have hl2 : (([] : List Int) ++ ints (dig M)).length = m := by have := RdI.len hb; simpa using this
  rw [hl2, List.nil_append] at ho2
  rw [hl2] at hv2
  subst hv2
  clear hown2 hl2
  have ho1 := ho1.bl hbw2
  have ho2 := ho2.mono (show w.heap.size ≤ w1.heap.size from hbw1.size)
  have hbw := hbw1.next hbw2
  clear ha hb hbw1 hbw2
  go_loopw [5, 6] (fun x y wr => ∃ (A1 B1 : Option Addr) (n1 c1 m1 d1 N1 M1 : Nat), x = .slice A1 n1 c1 ∧ y = .slice B1 m1 d1 ∧ OwI 3 w.heap.size wr A1 n1 c1 (ints (dig N1)) ∧ OwI 3 w.heap.size wr B1 m1 d1 (ints (dig M1)) ∧ n1 ≤ 1048570 ∧ m1 ≤ 1048570 ∧ Hid (Nat.gcd N1 M1 = Nat.gcd N M) ∧ Bl w wr) (fun _ y wr => numAt wr y)
  case atStart => exact ⟨_, _, _, _, _, _, N, M, rfl, rfl, ho1, ho2, hn, hm, rfl, hbw⟩
  case round =>
    clear ho1 ho2 hbw
    obtain ⟨A1, B1, n1, c1, m1, d1, N1, M1, rfl, rfl, ha1, hb1, hn1, hm1, hg, hbw⟩ := hrel
    have hml := Lib.hid hb1.rd.lenN
    have hnl := Lib.hid ha1.rd.lenN
    by_cases h0 : m1 = 0
    · subst h0
      have hM : M1 = 0 := by
        have := dig_len_pos (n := M1)
        rw [hml.out] at this
        omega
      have hN : Hid (N1 = Nat.gcd N M) := by unfold Hid; rw [← hg.out, hM, Nat.gcd_zero_right]
      clear hM
      go_wp2_with fail
      go_ret
      exact ⟨_, _, _, rfl, by rw [← hN.out]; exact ha1, hbw⟩
    · have hM : 0 < M1 := by
        have := dig_len_pos (n := M1)
        rw [hml.out] at this
        omega
      have h0i : 0 < (m1 : Int) := by omega
      by_cases h3 : n1 < 3 ∧ m1 < 3
      · have hN9 : N1 < 1000000000000000000 := by
          have := dig_len_le.1 (show (dig N1).length ≤ 2 by rw [hnl.out]; omega)
          rw [Bs_eq] at this
          omega
        have hM9 : M1 < 1000000000000000000 := by
          have := dig_len_le.1 (show (dig M1).length ≤ 2 by rw [hml.out]; omega)
          rw [Bs_eq] at this
          omega
        have hi1 : n1 < 3 := h3.1
        have hi2 : m1 < 3 := h3.2
        clear h3
        go_wp2_with fail
        refine (NatToInt_any _ ha1.rd (by omega)).mono ?_
        rintro e w2 ⟨rfl, hb2⟩
        go_wp2_with fail
        refine (NatToInt_any _ (RdI.bl hb1.rd hb2) (by omega)).mono ?_
        rintro e w3 ⟨rfl, hb3⟩
        go_wp2_with fail
        refine (l02Plain_any _ N1 M1 (by omega) (by omega)).mono ?_
        rintro e w4 ⟨A3, n3, c3, rfl, hO, hb4⟩
        rw [hg.out] at hO
        have hb5 := (hbw.next hb2).next hb3
        go_wp2_with fail
        go_ret
        exact ⟨_, _, _, rfl, hO.mono hb5.size, hb5.next hb4⟩
      · have hgn : Hid (Nat.gcd M1 (N1 % M1) = Nat.gcd N M) := by unfold Hid; rw [← hg.out, Nat.gcd_comm N1 M1, Nat.gcd_rec M1 N1, Nat.gcd_comm]
        have hmd := Nat.mod_lt N1 hM
        have hnm := numAt_eq hb1.rd
        by_cases h31 : n1 < 3
        · have h32 : ¬ m1 < 3 := fun h => h3 ⟨h31, h⟩
          clear h3
          go_wp2_with fail
          refine (l02Div_any _ ha1.rd hb1.rd hn1 hm1 hM).mono ?_
          rintro e w2 ⟨A2, n2, c2, A3, n3, c3, rfl, hO2, hO3, hb2⟩
          have hb3 := hbw.next hb2
          have hn3 : n3 ≤ 1048570 := by
            have h1 := dig_len_mono (Nat.le_of_lt hmd)
            rw [hO3.rd.lenN, hml.out] at h1
            omega
          have hnm3 := numAt_eq hO3.rd
          have hb1' := hb1.bl hb2
          have hO3 := hO3.mono (show w.heap.size ≤ wr.heap.size from hbw.size)
          go_wp2_with fail
          go_roundw
          case rel => exact ⟨_, _, _, _, _, _, _, _, rfl, rfl, hb1', hO3, hm1, hn3, hgn, hb3⟩
          case measure => rw [hnm, hnm3]; exact hmd
        · clear h3
          go_wp2_with fail
          refine (l02Div_any _ ha1.rd hb1.rd hn1 hm1 hM).mono ?_
          rintro e w2 ⟨A2, n2, c2, A3, n3, c3, rfl, hO2, hO3, hb2⟩
          have hb3 := hbw.next hb2
          have hn3 : n3 ≤ 1048570 := by
            have h1 := dig_len_mono (Nat.le_of_lt hmd)
            rw [hO3.rd.lenN, hml.out] at h1
            omega
          have hnm3 := numAt_eq hO3.rd
          have hb1' := hb1.bl hb2
          have hO3 := hO3.mono (show w.heap.size ≤ wr.heap.size from hbw.size)
          go_wp2_with fail
          go_roundw
          case rel => exact ⟨_, _, _, _, _, _, _, _, rfl, rfl, hb1', hO3, hm1, hn3, hgn, hb3⟩
          case measure => rw [hnm, hnm3]; exact hmd

set_option maxHeartbeats 1600000 in
theorem l04One_yes (w : World) {A : Option Addr} {n c : Nat} (h : IsN w A n c 1) :
    Calls Tryz.prog 136 #[.slice A n c] w fun e w' => e = .returned (.bool true) ∧ ∃ q, w' = w.drewN q := by
  have hd : dig 1 = [1] := by rw [dig_pos (by omega), show 1 / Bs = 0 from by rw [Bs_eq], dig_zero]; rfl
  obtain rfl : n = 1 := by have := h.lenN; rw [hd] at this; exact this.symm
  obtain ⟨ad, rfl, hlt, hc⟩ := h.atN (k := 0) (by omega)
  rw [hd] at hc
  have hc : w.cell? ad = some (.int .i64 1) := by rw [← Addr.add_zero' ad]; exact hc
  clear hd h
  go_enter Tryz.func136, Tryz.ntmps136
  go_wp2_with fail
  go_ret
  exact ⟨rfl, 0, rfl⟩
set_option maxHeartbeats 1600000 in
theorem l04One_no (w : World) {A : Option Addr} {n c N : Nat} (h : IsN w A n c N) (hN : N ≠ 1) :
    Calls Tryz.prog 136 #[.slice A n c] w fun e w' => e = .returned (.bool false) ∧ ∃ q, w' = w.drewN q := by
  have hsm := h.small
  by_cases h1 : n = 1
  · subst h1
    obtain ⟨ad, rfl, hlt, hc⟩ := h.atN (k := 0) (by omega)
    rw [(one_limb h.lenN).1] at hc
    have hc : w.cell? ad = some (.int .i64 (N : Int)) := by rw [← hc, Addr.add_zero']
    have hne : ((N : Int) == 1) = false := by simp; omega
    clear h hN
    go_enter Tryz.func136, Tryz.ntmps136
    go_wp2_with fail
    go_ret
    exact ⟨rfl, 0, rfl⟩
  · have hne : ((n : Int) == 1) = false := by simp; omega
    clear h hN h1
    go_enter Tryz.func136, Tryz.ntmps136
    go_wp2_with fail
    go_ret
    exact ⟨rfl, 0, rfl⟩

set_option maxHeartbeats 1600000 in
theorem sBigIntOk_any (w : World) {s : Bool} {A : Option Addr} {n c : Nat} {l : List Int} (h : RdI w A n c l) :
    Calls Tryz.prog 177 #[.agg #[.bool s, .slice A n c]] w fun e w' => e = .returned (.bool (okB s l)) ∧ Bl w w' := by
  have hl := h.len
  have hsm := h.small
  by_cases hN : OkN l
  · have h1 := okN_of hN
    rcases s with _ | _
    · have h2 := okB_yes (s := false) ⟨hN, fun e => by cases e⟩
      rw [h2]
      clear h2 hN hl
      go_enter Tryz.func177, Tryz.ntmps177
      go_wp2_with (go_at_call 178; refine (sNatOk_any _ (h.alloc _)).mono ?_; rw [h1]; rintro e w1 ⟨rfl, q, rfl⟩)
      go_ret
      exact ⟨rfl, slc⟩
    · rcases Nat.eq_zero_or_pos n with h0 | h0
      · subst h0
        have h2 := okB_no (s := true) (l := l) (fun hk => by have := hk.2 rfl; omega)
        rw [h2]
        clear h2 hN hl
        go_enter Tryz.func177, Tryz.ntmps177
        go_wp2_with (go_at_call 178; refine (sNatOk_any _ (h.alloc _)).mono ?_; rw [h1]; rintro e w1 ⟨rfl, q, rfl⟩)
        go_ret
        exact ⟨rfl, slc⟩
      · have h2 := okB_yes (s := true) ⟨hN, fun _ => by omega⟩
        rw [h2]
        have hi : 0 < (n : Int) := by omega
        clear h2 hN hl
        go_enter Tryz.func177, Tryz.ntmps177
        go_wp2_with (go_at_call 178; refine (sNatOk_any _ (h.alloc _)).mono ?_; rw [h1]; rintro e w1 ⟨rfl, q, rfl⟩)
        go_ret
        exact ⟨rfl, slc⟩
  · have h1 := okN_no hN
    have h2 := okB_no (s := s) (fun hk => hN hk.1)
    rw [h2]
    clear h2 hl
    have hN := Lib.hid hN; rename_i h_; clear h_
    go_enter Tryz.func177, Tryz.ntmps177
    go_wp2_with (go_at_call 178; refine (sNatOk_any _ (h.alloc _)).mono ?_; rw [h1]; rintro e w1 ⟨rfl, q, rfl⟩)
    go_ret
    exact ⟨rfl, slc⟩
end

section
open Go.RowKit

/-- The signed number of a sign and a magnitude. -/
def sx (s : Bool) (N : Nat) : Int := if s = true then -(N : Int) else (N : Int)
end

section
open Go.RowKit
end

section
open Go.RowKit

section
variable (w : World) {s : Bool} {A : Option Addr} {n c : Nat} {B : Option Addr} {m d : Nat} {r : RatD}
set_option maxHeartbeats 4000000 in
theorem sRatOk_bad (h : RdR w s A n c B m d r) (ho : ¬ OkR r) (ho' : ¬ (OkB s r.mag ∧ OkN r.den ∧ 0 < m ∧ n ≤ 24 ∧ m ≤ 24)) :
    Calls Tryz.prog 135 #[.agg #[.bool s, .slice A n c, .slice B m d]] w fun e w' => e = .returned (.bool (okR r)) ∧ Bl w w' := by
  rw [okR_no ho]
  clear ho
  by_cases h1 : OkB s r.mag
  · have hB1 := okB_yes h1
    by_cases h2 : OkN r.den
    · have hN1 := okN_of h2
      by_cases h3 : 0 < m
      · have h3i : ((m : Int) == 0) = false := by simp; omega
        by_cases h5 : m ≤ 24
        · have h5i : decide ((24 : Int) < (m : Int)) = false := by simp; omega
          have h4 : ¬ n ≤ 24 := fun h4 => ho' ⟨h1, h2, h3, h4, h5⟩
          have h4i : decide ((24 : Int) < (n : Int)) = true := by simp; omega
          clear ho' h1 h2 h3 h4 h5
          go_enter Tryz.func135, Tryz.ntmps135
          go_wp2_with fail
          refine (sBigIntOk_any _ (h.mag.alloc _)).mono ?_
          rw [hB1]
          rintro e w1 ⟨rfl, hb1⟩
          obtain ⟨k0, k1, k2⟩ := box3 hb1
          have hb1 : Bl w w1 := slc
          go_wp2_with fail
          refine (sNatOk_any _ (h.den.bl hb1)).mono ?_
          rw [hN1]
          rintro e w2 ⟨rfl, q2, rfl⟩
          go_wp2_with fail
          go_ret
          exact ⟨rfl, slc⟩

        · have h5i : decide ((24 : Int) < (m : Int)) = true := by simp; omega
          clear ho' h1 h2 h3 h5
          go_enter Tryz.func135, Tryz.ntmps135
          go_wp2_with fail
          refine (sBigIntOk_any _ (h.mag.alloc _)).mono ?_
          rw [hB1]
          rintro e w1 ⟨rfl, hb1⟩
          obtain ⟨k0, k1, k2⟩ := box3 hb1
          have hb1 : Bl w w1 := slc
          go_wp2_with fail
          refine (sNatOk_any _ (h.den.bl hb1)).mono ?_
          rw [hN1]
          rintro e w2 ⟨rfl, q2, rfl⟩
          go_wp2_with fail
          go_ret
          exact ⟨rfl, slc⟩

      · obtain rfl : m = 0 := by omega
        clear ho' h1 h2 h3
        go_enter Tryz.func135, Tryz.ntmps135
        go_wp2_with fail
        refine (sBigIntOk_any _ (h.mag.alloc _)).mono ?_
        rw [hB1]
        rintro e w1 ⟨rfl, hb1⟩
        obtain ⟨k0, k1, k2⟩ := box3 hb1
        have hb1 : Bl w w1 := slc
        go_wp2_with fail
        refine (sNatOk_any _ (h.den.bl hb1)).mono ?_
        rw [hN1]
        rintro e w2 ⟨rfl, q2, rfl⟩
        go_wp2_with fail
        go_ret
        exact ⟨rfl, slc⟩

    · have hN0 := okN_no h2
      clear ho' h1 h2
      go_enter Tryz.func135, Tryz.ntmps135
      go_wp2_with fail
      refine (sBigIntOk_any _ (h.mag.alloc _)).mono ?_
      rw [hB1]
      rintro e w1 ⟨rfl, hb1⟩
      obtain ⟨k0, k1, k2⟩ := box3 hb1
      have hb1 : Bl w w1 := slc
      go_wp2_with fail
      refine (sNatOk_any _ (h.den.bl hb1)).mono ?_
      rw [hN0]
      rintro e w2 ⟨rfl, q2, rfl⟩
      go_wp2_with fail
      go_ret
      exact ⟨rfl, slc⟩

  · have hB0 := okB_no h1
    clear ho' h1
    go_enter Tryz.func135, Tryz.ntmps135
    go_wp2_with fail
    refine (sBigIntOk_any _ (h.mag.alloc _)).mono ?_
    rw [hB0]
    rintro e w1 ⟨rfl, hb1⟩
    obtain ⟨k0, k1, k2⟩ := box3 hb1
    have hb1 : Bl w w1 := slc
    go_wp2_with fail
    go_ret
    exact ⟨rfl, slc⟩

set_option maxHeartbeats 4000000 in
theorem sRatOk_fine {x : Int} {D : Nat} (h : IsR w s A n c B m d x D) (hB1 : okB s (raw x D).mag = true) (hN1 : okN (raw x D).den = true) (h3 : 0 < m) (h4 : n ≤ 24) (h5 : m ≤ 24) :
    Calls Tryz.prog 135 #[.agg #[.bool s, .slice A n c, .slice B m d]] w fun e w' => e = .returned (.bool (decide (Nat.gcd x.natAbs D = 1))) ∧ Bl w w' := by
  have h3i : ((m : Int) == 0) = false := by simp; omega
  have h4i : decide ((24 : Int) < (n : Int)) = false := by simp; omega
  have h5i : decide ((24 : Int) < (m : Int)) = false := by simp; omega
  go_enter Tryz.func135, Tryz.ntmps135
  go_wp2_with fail
  refine (sBigIntOk_any _ (h.mag.alloc _)).mono ?_
  rw [hB1]
  rintro e w1 ⟨rfl, hb1⟩
  obtain ⟨k0, k1, k2⟩ := box3 hb1
  have hb1 : Bl w w1 := slc
  go_wp2_with fail
  refine (sNatOk_any _ (h.den.bl hb1)).mono ?_
  rw [hN1]
  rintro e w2 ⟨rfl, q2, rfl⟩
  have hb3 : Bl w (w1.drewN q2) := slc
  go_wp2_with fail
  refine (l02Gcd_any _ (h.num.bl hb3) (h.dn.bl hb3) (by omega) (by omega)).mono ?_
  rintro e w4 ⟨A', n', c', rfl, hO, hb4⟩
  have hb4 : Bl w w4 := slc
  by_cases hg : Nat.gcd x.natAbs D = 1
  · rw [hg] at hO
    have hd := Lib.hid (show decide (Nat.gcd x.natAbs D = 1) = true by simp [hg])
    clear hg
    go_wp2_with fail
    refine (l04One_yes _ hO.rd).mono ?_
    rintro e w5 ⟨rfl, q5, rfl⟩
    go_wp2_with fail
    go_ret
    exact ⟨ret_bool hd.out.symm, slc⟩
  · have hd := Lib.hid (show decide (Nat.gcd x.natAbs D = 1) = false by simp [hg])
    have hg := Lib.hid hg; rename_i h_; clear h_
    go_wp2_with fail
    refine (l04One_no _ hO.rd hg.out).mono ?_
    rintro e w5 ⟨rfl, q5, rfl⟩
    go_wp2_with fail
    go_ret
    exact ⟨ret_bool hd.out.symm, slc⟩
theorem sRatOk_any (h : RdR w s A n c B m d r) :
    Calls Tryz.prog 135 #[.agg #[.bool s, .slice A n c, .slice B m d]] w fun e w' => e = .returned (.bool (okR r)) ∧ Bl w w' := by
  have hiff := okR_iff r
  rw [h.mag.len, h.den.len, ← h.neg] at hiff
  by_cases hg : OkB s r.mag ∧ OkN r.den ∧ 0 < m ∧ n ≤ 24 ∧ m ≤ 24
  · obtain ⟨g1, g2, g3, g4, g5⟩ := hg
    have e1 := g1.1.nv.1
    have e2 := g2.nv.1
    have hn : (rn r).natAbs = nv r.mag := by unfold rn; split <;> omega
    have hr : r = raw (rn r) (rd r) := by
      obtain ⟨s', mag, den⟩ := r
      have hs := h.neg
      simp only at hs
      subst hs
      unfold raw
      congr 1
      · by_cases hs : s = true
        · have := g1.2 hs
          simp only at this e1
          rw [e1, ints_len] at this
          have := dig_len_pos.1 this
          subst hs
          simp [rn]
          omega
        · have : s = false := by simpa using hs
          subst this
          simp [rn]
      · rw [hn]; exact e1
    have hI : IsR w s A n c B m d (rn r) (rd r) := by
      have h2 := h
      rw [hr] at h2
      exact h2
    refine (sRatOk_fine w hI (by rw [← hr]; exact okB_yes g1) (by rw [← hr]; exact okN_of g2) g3 g4 g5).mono ?_
    rintro e w' ⟨rfl, hb⟩
    refine ⟨?_, hb⟩
    congr 2
    by_cases hk : Nat.gcd (nv r.mag) (nv r.den) = 1
    · rw [okR_of (hiff.2 ⟨g1, g2, g3, g4, g5, hk⟩), hn]
      simp [rd, hk]
    · rw [okR_no (fun ho => hk (hiff.1 ho).2.2.2.2.2), hn]
      simp [rd, hk]
  · exact sRatOk_bad w h (fun ho => hg ⟨(hiff.1 ho).1, (hiff.1 ho).2.1, (hiff.1 ho).2.2.1, (hiff.1 ho).2.2.2.1, (hiff.1 ho).2.2.2.2.1⟩) hg
end

theorem OwI.grown {T : TypeId} {b0 : Nat} {w w' : World} {A : Option Addr} {n c : Nat} {l : List Int} {row : Option Nat} (h : OwI T b0 w A n c l) (hg : w.grownBy w' row) (hr : ∀ k, row = some k → k < b0) : OwI T b0 w' A n c l := by
  obtain ⟨bs, h1, hf⟩ := FtI.of_own h
  have h2 : FtI T w' A n c l bs := h1.keep hg.size (fun b hb => hg.block b (hf.2 b hb).2 (by intro e; have := hr b e.symm; have := (hf.2 b hb).1; omega))
  refine ⟨h2.1, ?_⟩
  rcases h2.2 with ⟨h0, _⟩ | ⟨g, cs, _, e, hh, hn, e2⟩
  · exact .inl h0
  · exact .inr ⟨g, cs, e, (hf.2 g (by rw [e2]; simp)).1, hh, hn⟩
end

section
open Go.RowKit
end

section
open Go.RowKit
end

section
open Go.RowKit
end

section
open Go.RowKit
end

section
open Go.RowKit
end

section
open Go.RowKit
end

section
open Go.RowKit
end

end Go.Proofs.YtjaapemopbbfaaaGreatDoor
