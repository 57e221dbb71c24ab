import Derived.Test.YthgielbhcjpikaaGreatRows
import Derived.Test.YthgielbhcjpikaaGreatN4
import Derived.Test.YthgielbhcjpikaaGreatN5
namespace Go.Proofs.YthgielbhcjpikaaGreat
open Go.RowKit

/-- What holds behind k rounds of a subtraction. -/
structure SubRel (N M n k br : Nat) (o : List Nat) : Prop where
  len : o.length = n
  digs : Digs o
  small : br ≤ 1
  diff : vf (dx o) k + vf (dx (dig M)) k = vf (dx (dig N)) k + br * Bs ^ k
  same : ∀ j, k ≤ j → dx o j = dx (dig N) j
theorem SubRel.start {N M n : Nat} (h : (dig N).length = n) : SubRel N M n 0 0 (dig N) := ⟨h, digs_dig N, by omega, by simp [vf], fun _ _ => rfl⟩
theorem SubRel.step {N M n k br d br' : Nat} {o : List Nat} (h : SubRel N M n k br o) (hk : k < n) (hd : d < Bs) (hb : br' ≤ 1) (he : d + br + dx (dig M) k = dx (dig N) k + br' * Bs) : SubRel N M n (k + 1) br' (o.set k d) := by
  have hi : k < o.length := by rw [h.len]; exact hk
  refine ⟨by rw [List.length_set]; exact h.len, digs_set h.digs hd _, hb, ?_, fun j hj => ?_⟩
  · have h1 : vf (dx (o.set k d)) k = vf (dx o) k := vf_congr fun i hi' => by rw [dx_set hi, if_neg (by omega)]
    have h2 := h.diff
    simp only [vf]
    rw [h1, dx_set hi, if_pos rfl, Nat.pow_succ]
    have h3 : (d + br + dx (dig M) k) * Bs ^ k = (dx (dig N) k + br' * Bs) * Bs ^ k := by rw [he]
    grind
  · rw [dx_set hi, if_neg (by omega)]
    exact h.same j (by omega)
theorem SubRel.stop {N M n br : Nat} {o : List Nat} (h : SubRel N M n n br o) (hn : (dig N).length = n) (hm : (dig M).length ≤ n) (hle : M ≤ N) : val o = N - M := by
  have h1 := h.diff
  rw [val_vf (by rw [h.len]; exact Nat.le_refl _), val_vf hm, val_vf (by omega), val_dig, val_dig] at h1
  have h2 := val_lt h.digs
  rw [h.len] at h2
  have h3 := h.small
  rcases Nat.eq_zero_or_pos br with h0 | h0
  · subst h0; omega
  · obtain rfl : br = 1 := by omega
    omega
theorem dig_len_mono {M N : Nat} (h : M ≤ N) : (dig M).length ≤ (dig N).length := by
  have := val_lt (digs_dig N)
  rw [val_dig] at this
  exact dig_len_le.2 (by omega)

theorem ix_set {l : List Int} {k : Nat} (h : k < l.length) (x : Int) : ix (l.set k x) k = x := by simp [ix, h]
theorem Pre.drew1 {T : TypeId} {w : World} {g : Nat} {l : List Int} (h : Pre T w g l) : Pre T w.drew g l := h

set_option maxRecDepth 100000 in
set_option maxHeartbeats 2000000 in
theorem natSub_any (w : World) {A B : Option Addr} {n m c d N M : Nat} (ha : IsN w A n c N) (hb : IsN w B m d M) (hn : n ≤ 1048576) (hle : M ≤ N) :
    Calls Tryz.prog 196 #[.slice A n c, .slice B m d] w fun e w' => ∃ A' n' c', e = .returned (.slice A' n' c') ∧ OwI 3 w.heap.size w' A' n' c' (ints (dig (N - M))) ∧ Bl w w' := by
  have hm1 := dig_len_mono hle
  rw [ha.lenN, hb.lenN] at hm1
  go_enter Tryz.func196, Tryz.ntmps196
  go_wp2_with fail
  refine (Clone_any _ ha hn).mono ?_
  rintro e w1 ⟨A1, n1, c1, rfl, hown, hb1⟩
  obtain rfl : n1 = n := by have := hown.rd.lenN; have := ha.lenN; omega
  rcases Nat.eq_zero_or_pos n1 with h0 | h0
  · subst h0
    have hN : N = 0 := by
      have := ha.lenN
      exact dig_nil.1 (List.length_eq_zero_iff.1 this)
    have hv := Lib.hid (show dig (N - M) = [] by rw [hN, Nat.zero_sub, dig_zero])
    go_wp2_with fail
    go_loop [6, 12] (fun _ i => i = .int .i64 0) (fun _ _ => 0)
    case atStart => exact rfl
    case round =>
      obtain rfl := hrel
      go_wp2_with fail
      refine (trimmed_any _ (l := []) (RdI.nil _ A1 c1) (fun d hd => by cases hd)).mono ?_
      rintro e w2 ⟨m', rfl, hm', ht, hq⟩
      obtain rfl : m' = 0 := by omega
      have hbw1 := hb1.next (q_bl hq)
      go_wp2_with fail
      go_ret
      exact ⟨_, _, _, rfl, by rw [hv.out]; exact OwI.nil _ _ _ _, hbw1⟩
  · obtain ⟨g, rfl, hg, hpre⟩ := hown.pre h0
    have hcap := hown.rd.cap
    clear hown
    go_wp2_with fail
    go_loopw [6, 12] (fun b i wr => ∃ (k br : Nat) (o : List Nat), k ≤ n1 ∧ i = .int .i64 (k : Int) ∧ b = .int .i64 (br : Int) ∧ SubRel N M n1 k br o ∧ Pre 3 wr g (ints o) ∧ Bl w wr) (fun _ i _ => n1 - (intOf i).toNat)
    case atStart => exact ⟨0, 0, dig N, Nat.zero_le _, rfl, rfl, SubRel.start ha.lenN, hpre, hb1⟩
    case round =>
      clear hpre hb1
      obtain ⟨k, br, o, hk, rfl, rfl, hrel, hpre, hbw⟩ := hrel
      by_cases hkn : k < n1
      · have hki : (k : Int) < (n1 : Int) := by omega
        have hbr := hrel.small
        have hcell := hpre.cell (k := k) (by rw [ints_len, hrel.len]; exact hkn)
        have hfr := hpre.frozen k
        rw [ix_ints, hrel.same k (Nat.le_refl _)] at hcell
        have bz := dx_lt (digs_dig N) k
        have bz' := Lib.hid (rfl : dx (dig N) k = dx (dig N) k)
        have bym := dx_lt (digs_dig M) k
        rw [Bs_eq] at bz bym
        have hst := fun d br' h1 h2 h3 => hrel.step (d := d) (br' := br') hkn h1 h2 h3
        generalize dx (dig N) k = z at *
        obtain ⟨y, hy⟩ : ∃ y, y = dx (dig M) k := ⟨_, rfl⟩
        rw [← hy] at hst bym
        have hy := Lib.hid hy.symm; rename_i hyo; clear hyo
        by_cases hkm : k < m
        · have hkj : (k : Int) < (m : Int) := by omega
          have hpre1 := hpre.set_ (k := k) (by rw [ints_len, hrel.len]; exact hkn) ((z : Int) - (br : Int))
          go_wp2_with fail
          refine wp_gen (fun W => Bl w W ∧ Pre 3 W g ((ints o).set k ((z : Int) - (br : Int)))) ⟨slc, hpre1⟩ ?_
          rintro W ⟨hbW, hpW⟩
          have hcW := hpW.cell (k := k) (by rw [List.length_set, ints_len, hrel.len]; exact hkn)
          rw [ix_set (by rw [ints_len, hrel.len]; exact hkn)] at hcW
          have hfW := hpW.frozen k
          obtain ⟨bd, rfl, hltb, hcb⟩ := (hb.bl hbW).atN hkm
          rw [hy.out] at hcb
          have hpre2 := hpW.set_ (k := k) (by rw [List.length_set, ints_len, hrel.len]; exact hkn) ((z : Int) - (br : Int) - (y : Int))
          go_still_tail 10, (by kernel_rfl)
          go_wp2_with fail
          · have ht : (z : Int) - (br : Int) - (y : Int) < 0 := by first | assumption | omega
            have hd : ((z + Bs - br - y : Nat) : Int) = (z : Int) - (br : Int) - (y : Int) + 1000000000 := by rw [Bs_eq] at *; omega
            have hs := hst (z + Bs - br - y) 1 (by rw [Bs_eq]; omega) (by omega) (by rw [Bs_eq]; omega)
            have hp3 := (hpre2.set_ (k := k) (by simp only [List.length_set, ints_len, hrel.len]; exact hkn) ((z : Int) - (br : Int) - (y : Int) + 1000000000)).drew1
            simp only [List.set_set] at hp3
            rw [show (ints o).set k ((z : Int) - (br : Int) - (y : Int) + 1000000000) = ints (o.set k (z + Bs - br - y)) from by rw [ints_set, hd]] at hp3
            go_roundw
            case rel => exact ⟨k + 1, 1, _, by omega, by go_num, rfl, hs, hp3, slc⟩
            case measure => simp [intOf]; omega
          · have ht : ¬ (z : Int) - (br : Int) - (y : Int) < 0 := by first | assumption | omega
            have hd : ((z - br - y : Nat) : Int) = (z : Int) - (br : Int) - (y : Int) := by omega
            have hs := hst (z - br - y) 0 (by rw [Bs_eq]; omega) (by omega) (by rw [Bs_eq]; omega)
            have hp3 := hpre2.drew1
            try simp only [List.set_set] at hp3
            rw [show (ints o).set k ((z : Int) - (br : Int) - (y : Int)) = ints (o.set k (z - br - y)) from by rw [ints_set, hd]] at hp3
            go_roundw
            case rel => exact ⟨k + 1, 0, _, by omega, by go_num, rfl, hs, hp3, slc⟩
            case measure => simp [intOf]; omega
        · have hy0 : dx (dig M) k = 0 := dx_beyond (by rw [hb.lenN]; omega)
          have hkj : ¬ (k : Int) < (m : Int) := by omega
          have hyz : y = 0 := by rw [← hy.out]; exact hy0
          clear hy hy0
          subst hyz
          have hpre1 := hpre.set_ (k := k) (by rw [ints_len, hrel.len]; exact hkn) ((z : Int) - (br : Int))
          go_wp2_with fail
          · have ht : (z : Int) - (br : Int) < 0 := by first | assumption | omega
            have hd : ((z + Bs - br : Nat) : Int) = (z : Int) - (br : Int) + 1000000000 := by rw [Bs_eq] at *; omega
            have hs := hst (z + Bs - br) 1 (by rw [Bs_eq]; omega) (by omega) (by rw [Bs_eq]; omega)
            have hp3 := (hpre1.set_ (k := k) (by simp only [List.length_set, ints_len, hrel.len]; exact hkn) ((z : Int) - (br : Int) + 1000000000))
            simp only [List.set_set] at hp3
            rw [show (ints o).set k ((z : Int) - (br : Int) + 1000000000) = ints (o.set k (z + Bs - br)) from by rw [ints_set, hd]] at hp3
            go_roundw
            case rel => exact ⟨k + 1, 1, _, by omega, by go_num, rfl, hs, hp3, slc⟩
            case measure => simp [intOf]; omega
          · have ht : ¬ (z : Int) - (br : Int) < 0 := by first | assumption | omega
            have hd : ((z - br : Nat) : Int) = (z : Int) - (br : Int) := by omega
            have hs := hst (z - br) 0 (by rw [Bs_eq]; omega) (by omega) (by rw [Bs_eq]; omega)
            have hp3 := hpre1
            try simp only [List.set_set] at hp3
            rw [show (ints o).set k ((z : Int) - (br : Int)) = ints (o.set k (z - br)) from by rw [ints_set, hd]] at hp3
            go_roundw
            case rel => exact ⟨k + 1, 0, _, by omega, by go_num, rfl, hs, hp3, slc⟩
            case measure => simp [intOf]; omega
      · obtain rfl : k = n1 := by omega
        have hv := Lib.hid (hrel.stop ha.lenN (by rw [hb.lenN]; omega) hle)
        have hlen := hrel.len
        have hdg := hrel.digs
        clear hrel
        go_wp2_with fail
        refine (trimmed_any _ (l := o) (hpre.rd (c := c1) (by rw [ints_len]; exact hlen) (by omega) hcap) hdg).mono ?_
        rintro e w2 ⟨m', rfl, hm', ht, hq⟩
        rw [hv.out] at ht
        have hO1 := (hpre.cutN hg hlen (by omega) hcap hm' ht).q hq
        have hbw1 := hbw.next (q_bl hq)
        go_wp2_with fail
        go_ret
        exact ⟨_, _, _, rfl, hO1, hbw1⟩

end Go.Proofs.YthgielbhcjpikaaGreat
