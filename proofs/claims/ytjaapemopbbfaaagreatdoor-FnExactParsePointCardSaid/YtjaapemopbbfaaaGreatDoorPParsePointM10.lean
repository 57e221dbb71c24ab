/- Lemmas. -/
import Derived.Test.YtjaapemopbbfaaaGreatDoorRows
import Derived.Test.YtjaapemopbbfaaaGreatDoorPParsePointM09
namespace Go.Proofs.YtjaapemopbbfaaaGreatDoor
section
open Go.RowKit

theorem natDiv_any (w : World) {A B : Option Addr} {n m c d N M : Nat} (ha : IsN w A n c N) (hb : IsN w B m d M) (hn : n ≤ 1048576) (hm : m ≤ 1048576) (h0 : 0 < M) :
    Calls Tryz.prog 153 #[.slice A n c, .slice B m d] w (DivPost 3 w N M) := by
  rcases Nat.lt_or_ge N M with hlt | hle
  · exact natDiv_less w ha hb hn hm hlt
  · have hm0 := dig_len_pos.2 h0
    have hnm := dig_len_mono hle
    rw [hb.lenN] at hm0 hnm
    rw [ha.lenN] at hnm
    by_cases h1 : m = 1
    · subst h1
      exact natDiv_one w ha hb hn hle
    · exact natDiv_long w (p := m - 2) (t := n - m) ha hb hn hle (by omega) (by omega)

theorem RdI.inj {w : World} {A : Option Addr} {n c : Nat} {l l' : List Int} (h : RdI w A n c l) (h' : RdI w A n c l') : l = l' := by
  apply List.ext_getElem (by rw [h.len, h'.len])
  intro i h1 h2
  obtain ⟨ad, e, _, hc⟩ := h.at_ (k := i) (by rw [← h.len]; exact h1)
  obtain ⟨ad', e', _, hc'⟩ := h'.at_ (k := i) (by rw [← h'.len]; exact h2)
  rw [e] at e'
  injection e' with e'
  subst e'
  rw [hc] at hc'
  have : ix l i = ix l' i := by simpa using hc'
  simpa [ix, h1, h2] using this
theorem IsN.inj {w : World} {A : Option Addr} {n c N M : Nat} (h : IsN w A n c N) (h' : IsN w A n c M) : N = M := by
  have := ints_inj (RdI.inj h h')
  rw [← val_dig N, this, val_dig]
open Classical in
/-- The number that a slice reads as. -/
noncomputable def numAt (w : World) (v : Value) : Nat := if h : ∃ N, match v with | .slice A n c => IsN w A n c N | _ => False then h.choose else 0
theorem numAt_eq {w : World} {A : Option Addr} {n c N : Nat} (h : IsN w A n c N) : numAt w (.slice A n c) = N := by
  have hx : ∃ M, IsN w A n c M := ⟨N, h⟩
  unfold numAt
  simp only []
  rw [dif_pos hx]
  exact IsN.inj hx.choose_spec h

set_option maxHeartbeats 4000000 in
theorem natGcd_any (w : World) {A B : Option Addr} {n m c d N M : Nat} (ha : IsN w A n c N) (hb : IsN w B m d M) (hn : n ≤ 1048576) (hm : m ≤ 1048576) :
    Calls Tryz.prog 107 #[.slice A n c, .slice B m d] w fun e w' => ∃ A' n' c', e = .returned (.slice A' n' c') ∧ OwI 3 w.heap.size w' A' n' c' (ints (dig (Nat.gcd N M))) ∧ Bl w w' := by
  go_enter Tryz.func107, Tryz.ntmps107
  go_wp2_with fail
  go_loopw [0, 1] (fun x y wr => ∃ (A1 B1 : Option Addr) (n1 c1 m1 d1 N1 M1 : Nat), x = .slice A1 n1 c1 ∧ y = .slice B1 m1 d1 ∧ IsN wr A1 n1 c1 N1 ∧ IsN wr B1 m1 d1 M1 ∧ n1 ≤ 1048576 ∧ m1 ≤ 1048576 ∧ Hid (Nat.gcd N1 M1 = Nat.gcd N M) ∧ Bl w wr) (fun _ y wr => numAt wr y)
  case atStart => exact ⟨A, B, n, c, m, d, N, M, rfl, rfl, ha, hb, hn, hm, rfl, Bl.refl w⟩
  case round =>
    obtain ⟨A1, B1, n1, c1, m1, d1, N1, M1, rfl, rfl, ha1, hb1, hn1, hm1, hg, hbw⟩ := hrel
    have hml := Lib.hid hb1.lenN
    by_cases h0 : m1 = 0
    · subst h0
      have hM : M1 = 0 := by
        have := dig_len_pos (n := M1)
        rw [hml.out] at this
        omega
      have hN : Hid (N1 = Nat.gcd N M) := by unfold Hid; rw [← hg.out, hM, Nat.gcd_zero_right]
      clear hM
      go_wp2_with fail
      refine (Clone_any _ ha1 hn1).mono ?_
      rintro e w2 ⟨A', n', c', rfl, hO, hb2⟩
      rw [hN.out] at hO
      have hb3 := hbw.next hb2
      have hO := hO.mono0 (show w.heap.size ≤ _ from hbw.size)
      go_wp2_with fail
      go_ret
      exact ⟨_, _, _, rfl, hO, hb3⟩
    · have hM : 0 < M1 := by
        have := dig_len_pos (n := M1)
        rw [hml.out] at this
        omega
      have h0i : 0 < (m1 : Int) := by omega
      have hgn : Hid (Nat.gcd M1 (N1 % M1) = Nat.gcd N M) := by unfold Hid; rw [← hg.out, Nat.gcd_comm N1 M1, Nat.gcd_rec M1 N1, Nat.gcd_comm]
      have hmd := Nat.mod_lt N1 hM
      have hnm := numAt_eq hb1
      go_wp2_with fail
      refine (natDiv_any _ ha1 hb1 hn1 hm1 hM).mono ?_
      rintro e w2 ⟨A2, n2, c2, A3, n3, c3, rfl, hO2, hO3, hb2⟩
      have hb3 := hbw.next hb2
      have hn3 : n3 ≤ 1048576 := by
        have h1 := dig_len_mono (Nat.le_of_lt hmd)
        rw [hO3.rd.lenN, hml.out] at h1
        omega
      have hnm3 := numAt_eq hO3.rd
      have hb1' := hb1.bl hb2
      go_wp2_with fail
      go_roundw
      case rel => exact ⟨_, _, _, _, _, _, _, _, rfl, rfl, hb1', hO3.rd, hm1, hn3, hgn, hb3⟩
      case measure => rw [hnm, hnm3]; exact hmd
end

end Go.Proofs.YtjaapemopbbfaaaGreatDoor
