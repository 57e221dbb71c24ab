/- Lemmas. -/
import Derived.Test.YtajlahjghapbkaaGreatRows
import Derived.Test.YtajlahjghapbkaaGreatPProlongM04
import Derived.Deep.QuietTactic
import Derived.BigQuiet
namespace Go.Proofs.YtajlahjghapbkaaGreat
section
open Go.RowKit

theorem isNaN_any (a : Int) (w : World) :
    Calls Tryz.prog 234 #[.int .i64 a] w fun e w' => e = .returned (.bool false) ∧ ∃ q, w' = w.drewN q := by
  go_enter Tryz.func234, Tryz.ntmps234
  go_wp2
  go_ret
  exact ⟨by simp, 0, rfl⟩

def cmpI (a b : Int) : Int := if a < b then -1 else if b < a then 1 else 0

set_option maxHeartbeats 1600000 in
theorem compare_any (a b : Int) (w : World) :
    Calls Tryz.prog 207 #[.int .i64 a, .int .i64 b] w fun e w' => e = .returned (.int .i64 (cmpI a b)) ∧ ∃ q, w' = w.drewN q := by
  unfold cmpI
  go_enter Tryz.func207, Tryz.ntmps207
  go_wp2_with (go_at_call 234; refine (isNaN_any _ _).mono ?_; rintro e w' ⟨rfl, _, rfl⟩)
  all_goals (go_ret; exact ⟨by simp [*], _, rfl⟩)

theorem cmpI_lt {a b : Int} (h : a < b) : cmpI a b = -1 := if_pos h
theorem cmpI_gt {a b : Int} (h : b < a) : cmpI a b = 1 := by unfold cmpI; rw [if_neg (by omega), if_pos h]
theorem cmpI_eq {a b : Int} (h : a = b) : cmpI a b = 0 := by unfold cmpI; rw [if_neg (by omega), if_neg (by omega)]
theorem cmp_len {N M n m : Nat} (hn : (dig N).length = n) (hm : (dig M).length = m) (h : n ≠ m) : cmpI (n : Int) (m : Int) = cmpI (N : Int) (M : Int) := by
  rcases Nat.lt_or_ge n m with hlt | hge
  · have : N < M := by
      rcases Nat.lt_or_ge N M with h1 | h1
      · exact h1
      · have := dig_len_mono h1; omega
    rw [cmpI_lt (by omega), cmpI_lt (by omega)]
  · have : M < N := by
      rcases Nat.lt_or_ge M N with h1 | h1
      · exact h1
      · have := dig_len_mono h1; omega
    rw [cmpI_gt (by omega), cmpI_gt (by omega)]
theorem cmp_dx {f g : Nat → Nat} {k m : Nat} (hf : ∀ i, f i < Bs) (_hg : ∀ i, g i < Bs) (ha : ∀ j, k + 1 ≤ j → f j = g j) (h : f k < g k) : vf f (k + 1 + m) < vf g (k + 1 + m) := by
  rw [vf_split f (k + 1) m, vf_split g (k + 1) m, show vf (fun i => f (k + 1 + i)) m = vf (fun i => g (k + 1 + i)) m from vf_congr fun i _ => ha _ (by omega)]
  have h1 := vf_lt (f := f) (k := k) fun i _ => hf i
  have h2 : (f k + 1) * Bs ^ k ≤ g k * Bs ^ k := Nat.mul_le_mul_right _ h
  rw [Nat.add_mul] at h2
  simp only [vf]
  omega
theorem cmp_digit {N M n k : Nat} (hn : (dig N).length = n) (hm : (dig M).length = n) (hk : k < n) (ha : ∀ j, k + 1 ≤ j → dx (dig N) j = dx (dig M) j) (h : dx (dig N) k ≠ dx (dig M) k) : cmpI (dx (dig N) k : Int) (dx (dig M) k : Int) = cmpI (N : Int) (M : Int) := by
  obtain ⟨m, rfl⟩ : ∃ m, n = k + 1 + m := ⟨n - (k + 1), by omega⟩
  have e1 : vf (dx (dig N)) (k + 1 + m) = N := by rw [val_vf (by omega), val_dig]
  have e2 : vf (dx (dig M)) (k + 1 + m) = M := by rw [val_vf (by omega), val_dig]
  rcases Nat.lt_or_ge (dx (dig N) k) (dx (dig M) k) with hlt | hge
  · have := cmp_dx (m := m) (dx_lt (digs_dig N)) (dx_lt (digs_dig M)) ha hlt
    rw [cmpI_lt (by omega), cmpI_lt (by omega)]
  · have := cmp_dx (m := m) (dx_lt (digs_dig M)) (dx_lt (digs_dig N)) (fun j hj => (ha j hj).symm) (show dx (dig M) k < dx (dig N) k by omega)
    rw [cmpI_gt (by omega), cmpI_gt (by omega)]
theorem cmp_same {N M n : Nat} (hn : (dig N).length = n) (hm : (dig M).length = n) (ha : ∀ j, 0 ≤ j → dx (dig N) j = dx (dig M) j) : 0 = cmpI (N : Int) (M : Int) := by
  have e1 : vf (dx (dig N)) n = N := by rw [val_vf (by omega), val_dig]
  have e2 : vf (dx (dig M)) n = M := by rw [val_vf (by omega), val_dig]
  have : vf (dx (dig N)) n = vf (dx (dig M)) n := vf_congr fun i _ => ha i (Nat.zero_le _)
  exact (cmpI_eq (by omega)).symm

set_option maxHeartbeats 4000000 in
theorem natCmp_any (w : World) {A B : Option Addr} {n m c d N M : Nat} (ha : IsN w A n c N) (hb : IsN w B m d M) (hn : n ≤ 2097152) (hm : m ≤ 2097152) :
    Calls Tryz.prog 198 #[.slice A n c, .slice B m d] w fun e w' => e = .returned (.int .i64 (cmpI N M)) ∧ ∃ q, w' = w.drewN q := by
  have hnl := Lib.hid ha.lenN
  have hml := Lib.hid hb.lenN
  by_cases hnm : n = m
  · subst hnm
    go_enter Tryz.func198, Tryz.ntmps198
    go_wp2
    go_loopw [5] (fun i wr => ∃ k : Nat, k ≤ n ∧ i = .int .i64 ((k : Int) - 1) ∧ Hid (∀ j, k ≤ j → dx (dig N) j = dx (dig M) j) ∧ ∃ q, wr = w.drewN q) (fun i _ => (intOf i + 1).toNat)
    case atStart => exact ⟨n, Nat.le_refl _, rfl, fun j hj => by rw [dx_beyond (by rw [hnl.out]; exact hj), dx_beyond (by rw [hml.out]; exact hj)], 0, rfl⟩
    case round =>
      obtain ⟨k, hk, rfl, heq, q, rfl⟩ := hrel
      rcases k with _ | k
      · go_wp2
        go_ret
        exact ⟨ret_int (cmp_same hnl.out hml.out heq.out), q, rfl⟩
      · have hkn : k < n := hk
        obtain ⟨ad, rfl, hlta, hca⟩ := ha.atN (k := k) (by omega)
        obtain ⟨bd, rfl, hltb, hcb⟩ := hb.atN (k := k) (by omega)
        rw [show (((k + 1 : Nat) : Int) - 1) = (k : Int) from by omega]
        by_cases he : dx (dig N) k = dx (dig M) k
        · have hs : Hid (∀ j, k ≤ j → dx (dig N) j = dx (dig M) j) := fun j hj => by
            rcases Nat.eq_or_lt_of_le hj with rfl | hlt
            · exact he
            · exact heq.out j hlt
          clear heq
          have hbeq : ((dx (dig N) k : Int) != (dx (dig M) k : Int)) = false := by simp [he]
          clear he
          go_wp2
          go_quiet (fail)
          go_wp2
          go_roundw
          case rel => exact ⟨k, by omega, rfl, hs, _, rfl⟩
          case measure => simp [intOf]
        · have hs := Lib.hid (cmp_digit hnl.out hml.out hkn heq.out he); clear heq
          have hbeq : ((dx (dig N) k : Int) != (dx (dig M) k : Int)) = true := by simp; omega
          clear he
          go_wp2
          go_quiet (fail)
          go_wp2
          go_quiet ((go_at_call 207; exact quiet_add (compare_any _ _ _)))
          go_wp2
          go_ret
          exact ⟨ret_int hs.out, q_drewN (q_drewN ⟨_, rfl⟩)⟩
  · have heq := Lib.hid (cmp_len hnl.out hml.out hnm)
    have hne : ((n : Int) != (m : Int)) = true := by simp; omega
    go_enter Tryz.func198, Tryz.ntmps198
    go_wp2_with (go_at_call 207; refine (compare_any _ _ _).mono ?_; rintro e w' ⟨rfl, _, rfl⟩)
    go_ret
    exact ⟨ret_int heq.out, _, rfl⟩
end

section
open Go.RowKit

/-- What holds of a division by a limb when the limbs from k up are done. -/
structure DivRel (N d n k r : Nat) (o : List Nat) : Prop where
  len : o.length = n
  digs : Digs o
  small : r < d
  sum : val o * d + r * Bs ^ k + vf (dx (dig N)) k = N
  rest : ∀ j, j < k → dx o j = 0
theorem DivRel.start {N d n : Nat} (h : (dig N).length = n) (hd : 0 < d) : DivRel N d n n 0 (List.replicate n 0) :=
  ⟨by simp, digs_replicate _, hd, by rw [val_replicate, val_vf (by omega), val_dig]; omega, fun j _ => dx_replicate _ _⟩
theorem div_limb {r d a : Nat} (hr : r < d) (ha : a < Bs) : (r * Bs + a) / d < Bs := by
  rw [Nat.div_lt_iff_lt_mul (by omega)]
  have := Nat.mul_le_mul_right Bs (show r + 1 ≤ d by omega)
  rw [Nat.add_mul] at this
  rw [Nat.mul_comm Bs d]
  omega
theorem DivRel.step {N d n k r : Nat} {o : List Nat} (h : DivRel N d n (k + 1) r o) (hk : k < n) :
    DivRel N d n k ((r * Bs + dx (dig N) k) % d) (o.set k ((r * Bs + dx (dig N) k) / d)) := by
  have hi : k < o.length := by rw [h.len]; exact hk
  have hd0 : 0 < d := by have := h.small; omega
  refine ⟨by rw [List.length_set]; exact h.len, digs_set h.digs (div_limb h.small (dx_lt (digs_dig N) k)) _, Nat.mod_lt _ hd0, ?_, fun j hj => ?_⟩
  · have h1 := val_set hi ((r * Bs + dx (dig N) k) / d)
    rw [h.rest k (by omega)] at h1
    have h2 := h.sum
    have h3 := Nat.mod_add_div (r * Bs + dx (dig N) k) d
    simp only [vf] at h2
    rw [Nat.pow_succ] at h2
    generalize (r * Bs + dx (dig N) k) % d = s at *
    generalize (r * Bs + dx (dig N) k) / d = q at *
    have h4 : (s + d * q) * Bs ^ k = (r * Bs + dx (dig N) k) * Bs ^ k := by rw [h3]
    grind
  · rw [dx_set hi, if_neg (by omega)]
    exact h.rest j (by omega)
theorem DivRel.stop {N d n r : Nat} {o : List Nat} (h : DivRel N d n 0 r o) : val o = N / d ∧ r = N % d := by
  have h1 := h.sum
  have h2 := h.small
  simp only [vf, Nat.pow_zero, Nat.mul_one, Nat.add_zero] at h1
  have h3 : N / d = val o := by
    rw [← h1, Nat.mul_comm, Nat.mul_add_div (by omega), Nat.div_eq_of_lt h2]; omega
  have h4 : N % d = r := by
    rw [← h1, Nat.mul_comm, Nat.mul_add_mod, Nat.mod_eq_of_lt h2]
  exact ⟨h3.symm, h4.symm⟩

set_option maxHeartbeats 4000000 in
theorem divSmall_any (w : World) {A : Option Addr} {n c N d : Nat} (ha : IsN w A n c N) (hn : n ≤ 1048576) (hd0 : 0 < d) (hdB : d < 1000000000) :
    Calls Tryz.prog 201 #[.slice A n c, .int .i64 (d : Int)] w fun e w' => ∃ A' n' c', e = .returned (.tuple #[.slice A' n' c', .int .i64 ((N % d : Nat) : Int)]) ∧ OwI 3 w.heap.size w' A' n' c' (ints (dig (N / d))) ∧ Bl w w' := by
  have hmk := make_ints (P := Tryz.prog) Tryz.underlying25 info_int n n (Nat.le_refl _) (by omega)
  go_enter Tryz.func201, Tryz.ntmps201
  go_wp2_with fail
  clear hmk
  go_loopw [7, 8] (fun rv i wr => ∃ (k r : Nat) (o : List Nat), k ≤ n ∧ i = .int .i64 ((k : Int) - 1) ∧ rv = .int .i64 (r : Int) ∧ DivRel N d n k r o ∧ Ow 3 wr w.heap.size (ints o) ∧ Bl w wr) (fun _ i _ => (intOf i + 1).toNat)
  case atStart => exact ⟨n, 0, List.replicate n 0, Nat.le_refl _, rfl, rfl, DivRel.start ha.lenN hd0, by rw [ints_replicate]; exact Ow.mk w n, (Bl.refl w).alloc _⟩
  case round =>
    obtain ⟨k, r, o, hk, rfl, rfl, hrel, hO, hbw⟩ := hrel
    rcases k with _ | k
    · have hv := Lib.hid hrel.stop
      have hlen := hrel.len
      have hdg := hrel.digs
      clear hrel
      go_wp2_with fail
      refine (trimmed_any _ (l := o) (RdI.of_ow hO (by rw [ints_len]; exact hlen) (by omega)) hdg).mono ?_
      rintro e w1 ⟨m', rfl, hm', ht, hq⟩
      rw [hv.out.1] at ht
      have hO1 := (OwI.of_ow (c := n) hO (Nat.le_refl _) (by rw [ints_len]; exact hlen) (by omega) hm' ht).q hq
      have hbw1 := hbw.next (q_bl hq)
      go_wp2_with fail
      go_ret2
      exact ⟨_, _, _, by rw [← hv.out.2]; rfl, hO1, hbw1⟩
    · obtain ⟨ad, rfl, hlta, hca⟩ := (ha.bl hbw).atN (k := k) (by omega)
      have hki : (k : Int) < (n : Int) := by omega
      have hkn : k < n := by omega
      rw [show (((k + 1 : Nat) : Int) - 1) = (k : Int) from by omega]
      have hcell := hO.cell (k := k) (by rw [ints_len, hrel.len]; omega)
      rw [ix_ints] at hcell
      have hfr := hO.frozen k
      have bx := dx_lt (digs_dig N) k
      have hq := div_limb hrel.small bx
      rw [Bs_eq] at bx
      have hr := hrel.small
      have hst := hrel.step hkn
      have hO1 := hO.set k (((r * Bs + dx (dig N) k) / d : Nat) : Int)
      rw [← ints_set] at hO1
      generalize dx (dig N) k = x at *
      have e1 : ((((r * Bs + x) / d : Nat) : Int)) = ((r : Int) * 1000000000 + (x : Int)) / (d : Int) := by rw [Bs_eq]; simp
      have e2 : ((((r * Bs + x) % d : Nat) : Int)) = ((r : Int) * 1000000000 + (x : Int)) % (d : Int) := by rw [Bs_eq]; simp
      rw [e1] at hO1
      have e2 := Lib.hid e2; rename_i e2o; clear e2o e1 hq
      go_wp2_with fail
      go_roundw
      case rel => exact ⟨k, _, _, by omega, rfl, by rw [e2.out], hst, hO1, hbw.set (Nat.le_refl _) _⟩
      case measure => simp [intOf]
end

section
open Go.RowKit

/-- What holds behind k rounds of a multiplication by a limb. -/
structure ScRel (N b n k c : Nat) (o : List Nat) : Prop where
  len : o.length = n
  digs : Digs o
  small : c < Bs
  sum : vf (dx o) k + c * Bs ^ k = b * vf (dx (dig N)) k
theorem ScRel.start (N b n : Nat) : ScRel N b n 0 0 (List.replicate n 0) := ⟨by simp, digs_replicate _, Bs_pos, by simp [vf]⟩
theorem ScRel.step {N b n k c : Nat} {o : List Nat} (h : ScRel N b n k c o) (hk : k < n) (hb : b < Bs) :
    ScRel N b n (k + 1) ((c + dx (dig N) k * b) / Bs) (o.set k ((c + dx (dig N) k * b) % Bs)) := by
  have hi : k < o.length := by rw [h.len]; exact hk
  refine ⟨by rw [List.length_set]; exact h.len, digs_set h.digs (Nat.mod_lt _ Bs_pos) _, ?_, ?_⟩
  · have := mul_carry (z := 0) Bs_pos (dx_lt (digs_dig N) k) hb h.small
    rw [Nat.zero_add, Nat.add_comm] at this
    exact this
  · have h1 : vf (dx (o.set k ((c + dx (dig N) k * b) % Bs))) k = vf (dx o) k := vf_congr fun i hi' => by rw [dx_set hi, if_neg (by omega)]
    have h2 := h.sum
    have h3 := Nat.mod_add_div (c + dx (dig N) k * b) Bs
    simp only [vf]
    rw [h1, dx_set hi, if_pos rfl, Nat.pow_succ]
    generalize (c + dx (dig N) k * b) % Bs = s at *
    generalize (c + dx (dig N) k * b) / Bs = q at *
    have h4 : (s + Bs * q) * Bs ^ k = (c + dx (dig N) k * b) * Bs ^ k := by rw [h3]
    grind
theorem ScRel.stop {N b n c : Nat} {o : List Nat} (h : ScRel N b n n c o) (hn : (dig N).length ≤ n) (hlt : b * N < Bs ^ n) : val o = b * N := by
  have h1 := h.sum
  rw [val_vf (by rw [h.len]; exact Nat.le_refl _), val_vf hn, val_dig] at h1
  rcases Nat.eq_zero_or_pos c with h0 | h0
  · subst h0; omega
  · have := Nat.mul_le_mul_right (Bs ^ n) h0
    omega

set_option maxHeartbeats 4000000 in
theorem scaled_any (w : World) {A : Option Addr} {n c N b s : Nat} (ha : IsN w A n c N) (hs : s ≤ 1048577) (hb : b < 1000000000) (hn : n ≤ s) (hlt : b * N < Bs ^ s) :
    Calls Tryz.prog 202 #[.slice A n c, .int .i64 (b : Int), .int .i64 (s : Int)] w fun e w' => ∃ g o, e = .returned (.slice (some ⟨g, 0, none⟩) s s) ∧ w.heap.size ≤ g ∧ Ow 3 w' g (ints o) ∧ o.length = s ∧ Digs o ∧ val o = b * N ∧ Bl w w' := by
  have hmk := make_ints (P := Tryz.prog) Tryz.underlying25 info_int s s (Nat.le_refl _) (by omega)
  go_enter Tryz.func202, Tryz.ntmps202
  go_wp2_with fail
  clear hmk
  go_loopw [8, 15] (fun cv i wr => ∃ (k c1 : Nat) (o : List Nat), k ≤ s ∧ i = .int .i64 (k : Int) ∧ cv = .int .i64 (c1 : Int) ∧ ScRel N b s k c1 o ∧ Ow 3 wr w.heap.size (ints o) ∧ Bl w wr) (fun _ i _ => s - (intOf i).toNat)
  case atStart => exact ⟨0, 0, List.replicate s 0, Nat.zero_le _, rfl, rfl, ScRel.start _ _ _, by rw [ints_replicate]; exact Ow.mk w s, (Bl.refl w).alloc _⟩
  case round =>
    obtain ⟨k, c1, o, hk, rfl, rfl, hrel, hO, hbw⟩ := hrel
    by_cases hks : k < s
    · have hki : (k : Int) < (s : Int) := by omega
      have hcell := hO.cell (k := k) (by rw [ints_len, hrel.len]; exact hks)
      rw [ix_ints] at hcell
      have hfr := hO.frozen k
      have bx := dx_lt (digs_dig N) k
      rw [Bs_eq] at bx
      have hc1 := hrel.small
      rw [Bs_eq] at hc1
      have hst := hrel.step hks (by rw [Bs_eq]; exact hb)
      have hO1 := hO.set k (((c1 + dx (dig N) k * b) % Bs : Nat) : Int)
      rw [← ints_set] at hO1
      by_cases hkn : k < n
      · obtain ⟨ad, rfl, hlta, hca⟩ := (ha.bl hbw).atN hkn
        have hkj : (k : Int) < (n : Int) := by omega
        generalize dx (dig N) k = x at *
        have hxy0 : (0 : Int) ≤ (x : Int) * (b : Int) := by exact_mod_cast Nat.zero_le (x * b)
        have hxy : (x : Int) * (b : Int) ≤ 999999998000000001 := by
          have : x * b ≤ 999999999 * 999999999 := Nat.mul_le_mul (by omega) (by omega)
          have h2 : ((x * b : Nat) : Int) ≤ 999999998000000001 := by omega
          rwa [Int.natCast_mul] at h2
        have e1 : ((((c1 + x * b) % Bs : Nat) : Int)) = ((c1 : Int) + (x : Int) * (b : Int)) % 1000000000 := by rw [Bs_eq, ← Int.natCast_mul]; omega
        have e2 : ((((c1 + x * b) / Bs : Nat) : Int)) = ((c1 : Int) + (x : Int) * (b : Int)) / 1000000000 := by rw [Bs_eq, ← Int.natCast_mul]; omega
        rw [e1] at hO1
        have e2 := Lib.hid e2; rename_i e2o; clear e2o e1
        go_wp2_with fail
        go_roundw
        case rel => exact ⟨k + 1, _, _, by omega, by go_num, by rw [e2.out], hst, hO1, hbw.set (Nat.le_refl _) _⟩
        case measure => simp [intOf]; omega
      · have hz : dx (dig N) k = 0 := dx_beyond (by rw [ha.lenN]; omega)
        have hkj : ¬ (k : Int) < (n : Int) := by omega
        simp only [hz, Nat.zero_mul, Nat.add_zero] at hst hO1
        clear hz bx
        have e1 : (((c1 % Bs : Nat) : Int)) = (c1 : Int) % 1000000000 := by rw [Bs_eq]; omega
        have e2 : (((c1 / Bs : Nat) : Int)) = (c1 : Int) / 1000000000 := by rw [Bs_eq]; omega
        rw [e1] at hO1
        have e2 := Lib.hid e2; rename_i e2o; clear e2o e1
        go_wp2_with fail
        go_roundw
        case rel => exact ⟨k + 1, _, _, by omega, by go_num, by rw [e2.out], hst, hO1, hbw.set (Nat.le_refl _) _⟩
        case measure => simp [intOf]; omega
    · obtain rfl : k = s := by omega
      have hv := hrel.stop (by rw [ha.lenN]; omega) hlt
      have hv := Lib.hid hv; rename_i hvo; clear hvo
      have hl := Lib.hid hrel.len
      have hdg := hrel.digs
      go_wp2_with fail
      go_ret
      exact ⟨_, o, rfl, Nat.le_refl _, hO, hl.out, hdg, hv.out, hbw⟩



/-- Only block g, and what is new, may have turned. -/
def Og (g : Nat) (w w' : World) : Prop := w.grownBy w' (some g)
section
variable {T : TypeId} {g g2 : Nat} {w W w0 : World} {l : List Int}
theorem Og.refl (g : Nat) (w : World) : Og g w w := World.grownBy.refl w _
theorem Og.set (h : Og g w W) (off : Nat) (u : Value) : Og g w (W.setCell ⟨g, off, none⟩ u) :=
  ⟨h.os, h.tape, h.output, by simpa [World.setCell] using h.size, fun k hk hne => (Below.heap_setCell W _ u k (by intro e; exact hne (by rw [e]))).trans (h.block k hk hne)⟩
theorem Og.drew (h : Og g w W) : Og g w W.drew := ⟨h.os, h.tape, h.output, h.size, h.block⟩
theorem Og.drewN (h : Og g w W) (q : Nat) : Og g w (W.drewN q) := ⟨h.os, h.tape, h.output, h.size, h.block⟩
theorem Ow.og (h : Ow T w g2 l) (hne : g2 ≠ g) (ho : Og g w W) : Ow T W g2 l := (ho.block g2 h.lt (by intro e; injection e with e; exact hne e)).trans h
theorem Bl.og (h : Bl w0 w) (ho : Og g w W) (hg : w0.heap.size ≤ g) : Bl w0 W := h.grown ho (fun k hk => by injection hk with hk; omega)
end

/-- What holds behind k rounds of taking b times v away from the limbs of u from 'off' on. -/
structure SbRel (us v : List Nat) (off b k bw : Nat) (o : List Nat) : Prop where
  len : o.length = us.length
  digs : Digs o
  small : bw < Bs
  diff : vf (fun i => dx o (off + i)) k + b * vf (dx v) k = vf (fun i => dx us (off + i)) k + bw * Bs ^ k
  same : ∀ j, (j < off ∨ off + k ≤ j) → dx o j = dx us j
theorem SbRel.start {us v : List Nat} (off b : Nat) (h : Digs us) : SbRel us v off b 0 0 us := ⟨rfl, h, Bs_pos, by simp [vf], fun _ _ => rfl⟩
theorem SbRel.step {us v o : List Nat} {off b k bw d bw' : Nat} (h : SbRel us v off b k bw o) (hk : off + k < us.length) (hd : d < Bs) (hb : bw' < Bs) (he : d + bw + dx v k * b = dx us (off + k) + bw' * Bs) :
    SbRel us v off b (k + 1) bw' (o.set (off + k) d) := by
  have hi : off + k < o.length := by rw [h.len]; exact hk
  refine ⟨by rw [List.length_set]; exact h.len, digs_set h.digs hd _, hb, ?_, fun j hj => ?_⟩
  · have h1 : vf (fun i => dx (o.set (off + k) d) (off + i)) k = vf (fun i => dx o (off + i)) k := vf_congr fun i hi' => by rw [dx_set hi, if_neg (by omega)]
    have h2 := h.diff
    simp only [vf]
    rw [h1, dx_set hi, if_pos rfl, Nat.pow_succ]
    have h3 : (d + bw + dx v k * b) * Bs ^ k = (dx us (off + k) + bw' * Bs) * Bs ^ k := by rw [he]
    grind
  · rw [dx_set hi, if_neg (by omega)]
    exact h.same j (by omega)
/-- The borrow of one limb. -/
theorem sb_pos {z bw p : Nat} (h : bw + p ≤ z) (hz : z < Bs) : z - bw - p < Bs ∧ (z - bw - p) + bw + p = z + 0 * Bs := by omega
theorem sb_neg {z bw x b : Nat} (hz : z < Bs) (hw : bw < Bs) (hx : x < Bs) (hb : b < Bs) (h : z < bw + x * b) :
    (bw + x * b - z + Bs - 1) / Bs < Bs ∧ z + ((bw + x * b - z + Bs - 1) / Bs) * Bs - (bw + x * b) < Bs ∧
    (z + ((bw + x * b - z + Bs - 1) / Bs) * Bs - (bw + x * b)) + bw + x * b = z + ((bw + x * b - z + Bs - 1) / Bs) * Bs := by
  have hp : x * b ≤ (Bs - 1) * (Bs - 1) := Nat.mul_le_mul (by omega) (by omega)
  generalize x * b = p at *
  have h1 := Nat.mod_add_div (bw + p - z + Bs - 1) Bs
  have h2 := Nat.mod_lt (bw + p - z + Bs - 1) Bs_pos
  have h3 : (bw + p - z + Bs - 1) / Bs < Bs := by
    rw [Nat.div_lt_iff_lt_mul Bs_pos]
    rw [Bs_eq] at *
    omega
  rw [Bs_eq] at *
  omega

theorem sb_cast {z bw x b : Nat} (h : (z : Int) - (bw : Int) - (x : Int) * (b : Int) < 0) : (((bw + x * b - z + Bs - 1) / Bs : Nat) : Int) = (-((z : Int) - (bw : Int) - (x : Int) * (b : Int)) + 1000000000 - 1) / 1000000000 := by
  rw [← Int.natCast_mul] at *
  rw [Bs_eq]
  generalize x * b = p at *
  omega
theorem sb_cast2 {z bw x b q : Nat} (h : bw + x * b ≤ z + q * Bs) : ((z + q * Bs - (bw + x * b) : Nat) : Int) = (z : Int) - (bw : Int) - (x : Int) * (b : Int) + (q : Int) * 1000000000 := by
  rw [← Int.natCast_mul]
  rw [Bs_eq] at *
  generalize x * b = p at *
  omega
theorem sb_cast3 {z bw x b : Nat} (h : ¬ (z : Int) - (bw : Int) - (x : Int) * (b : Int) < 0) : bw + x * b ≤ z ∧ ((z - bw - x * b : Nat) : Int) = (z : Int) - (bw : Int) - (x : Int) * (b : Int) := by
  rw [← Int.natCast_mul] at *
  generalize x * b = p at *
  omega
theorem sb_lt {z bw x b : Nat} (h : (z : Int) - (bw : Int) - (x : Int) * (b : Int) < 0) : z < bw + x * b := by
  rw [← Int.natCast_mul] at h
  generalize x * b = p at *
  omega
theorem SbRel.stop {us v o : List Nat} {off b n bw d r : Nat} (h : SbRel us v off b n bw o) (hv : v.length = n) (hk : off + n < us.length) (he : d + bw = dx us (off + n) + r * Bs) :
    vf (fun i => dx (o.set (off + n) d) (off + i)) (n + 1) + b * val v = vf (fun i => dx us (off + i)) (n + 1) + r * Bs ^ (n + 1) := by
  have hi : off + n < o.length := by rw [h.len]; exact hk
  have h1 : vf (fun i => dx (o.set (off + n) d) (off + i)) n = vf (fun i => dx o (off + i)) n := vf_congr fun i hi' => by rw [dx_set hi, if_neg (by omega)]
  have h2 := h.diff
  rw [val_vf (by omega)] at h2
  simp only [vf]
  rw [h1, dx_set hi, if_pos rfl, Nat.pow_succ]
  have h3 : (d + bw) * Bs ^ n = (dx us (off + n) + r * Bs) * Bs ^ n := by rw [he]
  rw [Nat.add_mul, Nat.add_mul] at h3
  have h4 : r * (Bs ^ n * Bs) = r * Bs * Bs ^ n := by rw [Nat.mul_comm (Bs ^ n) Bs, Nat.mul_assoc]
  omega

def SubPost (T : TypeId) (w : World) (g off n b : Nat) (us v : List Nat) (e : Ending) (w' : World) : Prop :=
  ∃ (r : Nat) (o : List Nat), e = .returned (.int .i64 (r : Int)) ∧ r ≤ 1 ∧ Ow T w' g (ints o) ∧ o.length = us.length ∧ Digs o ∧
      vf (fun i => dx o (off + i)) (n + 1) + b * val v = vf (fun i => dx us (off + i)) (n + 1) + r * Bs ^ (n + 1) ∧ (∀ j, (j < off ∨ off + n < j) → dx o j = dx us j) ∧ Og g w w'

set_option maxRecDepth 100000 in
set_option maxHeartbeats 8000000 in
theorem subtract_any (w : World) {g off c g2 n d b : Nat} {us v : List Nat} (hO : Ow 3 w g (ints us)) (hV : Ow 3 w g2 (ints v)) (hne : g2 ≠ g) (hdu : Digs us) (hdv : Digs v) (hn : v.length = n) (hoff : off + (n + 1) ≤ us.length)
    (hs : us.length ≤ 2097152) (hb : b < 1000000000) :
    Calls Tryz.prog 203 #[.slice (some ⟨g, off, none⟩) (n + 1) c, .slice (some ⟨g2, 0, none⟩) n d, .int .i64 (b : Int)] w (SubPost 3 w g off n b us v) := by
  have hn := Lib.hid hn; rename_i hno
  have hnb : n ≤ 2097152 := by omega
  clear hno
  go_enter Tryz.func203, Tryz.ntmps203
  go_wp2_with fail
  go_loopw [7, 14] (fun cv i wr => ∃ (k bw : Nat) (o : List Nat), k ≤ n ∧ i = .int .i64 (k : Int) ∧ cv = .int .i64 (bw : Int) ∧ SbRel us v off b k bw o ∧ Ow 3 wr g (ints o) ∧ Og g w wr) (fun _ i _ => n - (intOf i).toNat)
  case atStart => exact ⟨0, 0, us, Nat.zero_le _, rfl, rfl, SbRel.start off b hdu, hO, Og.refl _ _⟩
  case round =>
    clear hO
    obtain ⟨k, bw, o, hk, rfl, rfl, hrel, hO, hog⟩ := hrel
    by_cases hkn : k < n
    · have hki : (k : Int) < (n : Int) := by omega
      have hki1 : (k : Int) < (n : Int) + 1 := by omega
      have hcell := hO.cell (k := off + k) (by rw [ints_len, hrel.len]; omega)
      rw [ix_ints, hrel.same _ (.inr (Nat.le_refl _))] at hcell
      have hfr := hO.frozen (off + k)
      have hV1 := (hV.og hne hog).cell (k := k) (by rw [ints_len, hn.out]; exact hkn)
      rw [ix_ints] at hV1
      have bx := dx_lt hdv k
      have bz := dx_lt hdu (off + k)
      have hw := hrel.small
      have hst := fun d' bw' h1 h2 h3 => hrel.step (d := d') (bw' := bw') (by omega) h1 h2 h3
      have hsp := fun h => sb_pos (z := dx us (off + k)) (bw := bw) (p := dx v k * b) h bz
      have hsn := fun h => sb_neg (z := dx us (off + k)) (bw := bw) (x := dx v k) (b := b) bz hw bx (by rw [Bs_eq]; exact hb) h
      rw [Bs_eq] at bx bz hw
      generalize dx v k = x at *
      generalize dx us (off + k) = z at *
      have hxy0 : (0 : Int) ≤ (x : Int) * (b : Int) := by exact_mod_cast Nat.zero_le (x * b)
      have hxyn : ((x * b : Nat) : Int) = (x : Int) * (b : Int) := Int.natCast_mul _ _
      have hxy : (x : Int) * (b : Int) ≤ 999999998000000001 := by
        have : x * b ≤ 999999999 * 999999999 := Nat.mul_le_mul (by omega) (by omega)
        have h2 : ((x * b : Nat) : Int) ≤ 999999998000000001 := by omega
        rwa [Int.natCast_mul] at h2
      have hxyn := Lib.hid hxyn; rename_i hxo; clear hxo
      have hsp := Lib.hid hsp; rename_i hspo; clear hspo
      have hsn := Lib.hid hsn; rename_i hsno; clear hsno
      have hst := Lib.hid hst; rename_i hsto; clear hsto
      by_cases hneg : (z : Int) - (bw : Int) - (x : Int) * (b : Int) < 0
      · have hlt := sb_lt hneg
        obtain ⟨q1, q2, q3⟩ := hsn.out hlt
        have hs1 := hst.out _ _ q2 q1 q3
        have e1 := sb_cast hneg
        have e2 := sb_cast2 (z := z) (bw := bw) (x := x) (b := b) (q := (bw + x * b - z + Bs - 1) / Bs) (by omega)
        rw [e1] at e2
        have hO1 := hO.set (off + k) ((z + ((bw + x * b - z + Bs - 1) / Bs) * Bs - (bw + x * b) : Nat) : Int)
        rw [← ints_set, e2] at hO1
        have e1 := Lib.hid e1; rename_i e1o; clear e1o e2 q1 q2 q3 hlt
        have hs1 := Lib.hid hs1; rename_i hs1o; clear hs1o
        go_wp2_with fail
        go_roundw
        case rel => exact ⟨k + 1, _, _, by omega, by go_num, by rw [e1.out], hs1.out, hO1, hog.set _ _⟩
        case measure => simp [intOf]; omega
      · obtain ⟨hle, e2⟩ := sb_cast3 hneg
        obtain ⟨q1, q2⟩ := hsp.out hle
        have hs1 := hst.out _ 0 q1 Bs_pos q2
        have hO1 := hO.set (off + k) ((z - bw - x * b : Nat) : Int)
        rw [← ints_set, e2] at hO1
        clear e2 hle q1 q2
        go_wp2_with fail
        go_roundw
        case rel => exact ⟨k + 1, 0, _, by omega, by go_num, rfl, hs1, hO1, hog.set _ _⟩
        case measure => simp [intOf]; omega
    · obtain rfl : k = n := by omega
      have hcell := hO.cell (k := off + k) (by rw [ints_len, hrel.len]; omega)
      rw [ix_ints, hrel.same _ (.inr (Nat.le_refl _))] at hcell
      have hfr := hO.frozen (off + k)
      have bz := dx_lt hdu (off + k)
      have hw := hrel.small
      have hki1 : (k : Int) < (k : Int) + 1 := by omega
      have hst := fun d r h => hrel.stop (d := d) (r := r) hn.out (by omega) h
      have hsm := fun d => digs_set hrel.digs (v := d)
      have hfar : ∀ d j, (j < off ∨ off + k < j) → dx (o.set (off + k) d) j = dx us j := fun d j hj => by
        rw [dx_set (by rw [hrel.len]; omega), if_neg (by omega)]
        exact hrel.same j (by omega)
      have hlo := hrel.len
      rw [Bs_eq] at bz hw
      generalize dx us (off + k) = z at *
      have hst := Lib.hid hst; rename_i hsto; clear hsto
      have hsm := Lib.hid hsm; rename_i hsmo; clear hsmo
      have hfar := Lib.hid hfar; rename_i hfaro; clear hfaro
      have hlo := Lib.hid hlo; rename_i hloo; clear hloo
      by_cases hneg : (z : Int) - (bw : Int) < 0
      · have hd : ((z + Bs - bw : Nat) : Int) = (z : Int) - (bw : Int) + 1000000000 := by rw [Bs_eq]; omega
        have hO1 := (hO.set (off + k) ((z : Int) - (bw : Int))).set (off + k) ((z : Int) - (bw : Int) + 1000000000)
        rw [List.set_set, show (ints o).set (off + k) ((z : Int) - (bw : Int) + 1000000000) = ints (o.set (off + k) (z + Bs - bw)) from by rw [ints_set, hd]] at hO1
        have h1 := Lib.hid (hst.out (z + Bs - bw) 1 (by rw [Bs_eq]; omega))
        have h2 := Lib.hid (hsm.out (z + Bs - bw) (by rw [Bs_eq]; omega) (off + k))
        clear hd
        go_wp2_with fail
        go_ret
        exact ⟨1, _, rfl, by omega, hO1, by rw [List.length_set]; exact hlo.out, h2.out, h1.out, hfar.out _, (hog.set _ _).set _ _⟩
      · have hd : ((z - bw : Nat) : Int) = (z : Int) - (bw : Int) := by omega
        have hO1 := hO.set (off + k) ((z : Int) - (bw : Int))
        rw [show (ints o).set (off + k) ((z : Int) - (bw : Int)) = ints (o.set (off + k) (z - bw)) from by rw [ints_set, hd]] at hO1
        have h1 := Lib.hid (hst.out (z - bw) 0 (by omega))
        have h2 := Lib.hid (hsm.out (z - bw) (by rw [Bs_eq]; omega) (off + k))
        clear hd
        go_wp2_with fail
        go_ret
        exact ⟨0, _, rfl, by omega, hO1, by rw [List.length_set]; exact hlo.out, h2.out, h1.out, hfar.out _, hog.set _ _⟩



/-- What holds behind k rounds of adding v back to the limbs of u from 'off' on. -/
structure AbRel (us v : List Nat) (off k c : Nat) (o : List Nat) : Prop where
  len : o.length = us.length
  digs : Digs o
  small : c ≤ 1
  sum : vf (fun i => dx o (off + i)) k + c * Bs ^ k = vf (fun i => dx us (off + i)) k + vf (dx v) k
  same : ∀ j, (j < off ∨ off + k ≤ j) → dx o j = dx us j
theorem AbRel.start {us v : List Nat} (off : Nat) (h : Digs us) : AbRel us v off 0 0 us := ⟨rfl, h, by omega, by simp [vf], fun _ _ => rfl⟩
theorem AbRel.step {us v o : List Nat} {off k c : Nat} (h : AbRel us v off k c o) (hu : Digs us) (hv : Digs v) (hk : off + k < us.length) :
    AbRel us v off (k + 1) ((dx us (off + k) + c + dx v k) / Bs) (o.set (off + k) ((dx us (off + k) + c + dx v k) % Bs)) := by
  have hi : off + k < o.length := by rw [h.len]; exact hk
  refine ⟨by rw [List.length_set]; exact h.len, digs_set h.digs (Nat.mod_lt _ Bs_pos) _, add_bound (dx_lt hu _) (dx_lt hv _) h.small, ?_, fun j hj => ?_⟩
  · have h1 : vf (fun i => dx (o.set (off + k) ((dx us (off + k) + c + dx v k) % Bs)) (off + i)) k = vf (fun i => dx o (off + i)) k := vf_congr fun i hi' => by rw [dx_set hi, if_neg (by omega)]
    have h2 := h.sum
    have h3 := Nat.mod_add_div (dx us (off + k) + c + dx v k) Bs
    simp only [vf]
    rw [h1, dx_set hi, if_pos rfl, Nat.pow_succ]
    generalize (dx us (off + k) + c + dx v k) % Bs = s at *
    generalize (dx us (off + k) + c + dx v k) / Bs = q at *
    have h4 : (s + Bs * q) * Bs ^ k = (dx us (off + k) + c + dx v k) * Bs ^ k := by rw [h3]
    rw [Nat.add_mul, Nat.add_mul, Nat.add_mul] at h4
    have h5 : q * (Bs ^ k * Bs) = Bs * q * Bs ^ k := by rw [Nat.mul_comm (Bs ^ k) Bs, ← Nat.mul_assoc, Nat.mul_comm q Bs]
    omega
  · rw [dx_set hi, if_neg (by omega)]
    exact h.same j (by omega)

set_option maxRecDepth 100000 in
set_option maxHeartbeats 4000000 in
theorem addBack_any (w : World) {g off c g2 n d : Nat} {us v : List Nat} (hO : Ow 3 w g (ints us)) (hV : Ow 3 w g2 (ints v)) (hne : g2 ≠ g) (hdu : Digs us) (hdv : Digs v) (hn : v.length = n) (hoff : off + (n + 1) ≤ us.length)
    (hs : us.length ≤ 2097152) :
    Calls Tryz.prog 204 #[.slice (some ⟨g, off, none⟩) (n + 1) c, .slice (some ⟨g2, 0, none⟩) n d] w fun e w' => e = .returned (.tuple #[]) ∧ ∃ (o : List Nat) (c1 : Nat), Ow 3 w' g (ints o) ∧ o.length = us.length ∧ Digs o ∧
      vf (fun i => dx o (off + i)) (n + 1) + c1 * Bs ^ (n + 1) = vf (fun i => dx us (off + i)) (n + 1) + val v ∧ (∀ j, (j < off ∨ off + n < j) → dx o j = dx us j) ∧ Og g w w' := by
  have hn := Lib.hid hn; rename_i hno
  have hnb : n ≤ 2097152 := by omega
  clear hno
  go_enter Tryz.func204, Tryz.ntmps204
  go_wp2_with fail
  go_loopw [4, 9] (fun cv i wr => ∃ (k c1 : Nat) (o : List Nat), k ≤ n + 1 ∧ i = .int .i64 (k : Int) ∧ cv = .int .i64 (c1 : Int) ∧ AbRel us v off k c1 o ∧ Ow 3 wr g (ints o) ∧ Og g w wr) (fun _ i _ => n + 1 - (intOf i).toNat)
  case atStart => exact ⟨0, 0, us, Nat.zero_le _, rfl, rfl, AbRel.start off hdu, hO, Og.refl _ _⟩
  case round =>
    clear hO
    obtain ⟨k, c1, o, hk, rfl, rfl, hrel, hO, hog⟩ := hrel
    by_cases hkn : k < n + 1
    · have hki : (k : Int) < (n : Int) + 1 := by omega
      have hcell := hO.cell (k := off + k) (by rw [ints_len, hrel.len]; omega)
      rw [ix_ints, hrel.same _ (.inr (Nat.le_refl _))] at hcell
      have hfr := hO.frozen (off + k)
      have bx := dx_lt hdv k
      have bz := dx_lt hdu (off + k)
      rw [Bs_eq] at bx bz
      have hc1 := hrel.small
      have hst := hrel.step hdu hdv (by omega)
      have hO1 := hO.set (off + k) (((dx us (off + k) + c1 + dx v k) % Bs : Nat) : Int)
      rw [← ints_set] at hO1
      by_cases hkm : k < n
      · have hkj : (k : Int) < (n : Int) := by omega
        have hV1 := (hV.og hne hog).cell (k := k) (by rw [ints_len, hn.out]; exact hkm)
        rw [ix_ints] at hV1
        generalize dx v k = x at *
        generalize dx us (off + k) = z at *
        have e1 : ((((z + c1 + x) % Bs : Nat) : Int)) = ((z : Int) + (c1 : Int) + (x : Int)) % 1000000000 := by rw [Bs_eq]; omega
        have e2 : ((((z + c1 + x) / Bs : Nat) : Int)) = ((z : Int) + (c1 : Int) + (x : Int)) / 1000000000 := by rw [Bs_eq]; omega
        rw [e1] at hO1
        have e2 := Lib.hid e2; rename_i e2o; clear e2o e1
        go_wp2_with fail
        go_roundw
        case rel => exact ⟨k + 1, _, _, by omega, by go_num, by rw [e2.out], hst, hO1, hog.set _ _⟩
        case measure => simp [intOf]; omega
      · have hz : dx v k = 0 := dx_beyond (by rw [hn.out]; omega)
        have hkj : ¬ (k : Int) < (n : Int) := by omega
        simp only [hz, Nat.add_zero] at hst hO1
        clear hz bx
        generalize dx us (off + k) = z at *
        have e1 : ((((z + c1) % Bs : Nat) : Int)) = ((z : Int) + (c1 : Int)) % 1000000000 := by rw [Bs_eq]; omega
        have e2 : ((((z + c1) / Bs : Nat) : Int)) = ((z : Int) + (c1 : Int)) / 1000000000 := by rw [Bs_eq]; omega
        rw [e1] at hO1
        have e2 := Lib.hid e2; rename_i e2o; clear e2o e1
        go_wp2_with fail
        go_roundw
        case rel => exact ⟨k + 1, _, _, by omega, by go_num, by rw [e2.out], hst, hO1, hog.set _ _⟩
        case measure => simp [intOf]; omega
    · obtain rfl : k = n + 1 := by omega
      have hsum := hrel.sum
      rw [val_vf (l := v) (by rw [hn.out]; omega)] at hsum
      have hsum := Lib.hid hsum; rename_i hsumo; clear hsumo
      have hl := Lib.hid hrel.len
      have hdg := hrel.digs
      have hfar : Hid (∀ j, (j < off ∨ off + n < j) → dx o j = dx us j) := fun j hj => hrel.same j (by omega)
      clear hrel
      go_wp2_with fail
      go_end0
      exact ⟨rfl, o, c1, hO, hl.out, hdg, hsum.out, hfar.out, hog⟩
end

end Go.Proofs.YtajlahjghapbkaaGreat
