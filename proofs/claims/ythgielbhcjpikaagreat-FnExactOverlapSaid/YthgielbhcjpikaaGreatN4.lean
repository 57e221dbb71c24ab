import Derived.Test.YthgielbhcjpikaaGreatRows
import Derived.Test.YthgielbhcjpikaaGreatN3
namespace Go.Proofs.YthgielbhcjpikaaGreat
open Go.RowKit

/-- What holds behind k rounds of the outer loop of a product. -/
structure MulRel (N M n m k : Nat) (o : List Nat) : Prop where
  len : o.length = n + m
  digs : Digs o
  prod : val o = vf (dx (dig N)) k * M
  rest : ∀ j, k + m ≤ j → dx o j = 0
theorem dx_replicate (n j : Nat) : dx (List.replicate n 0) j = 0 := by
  unfold dx
  rw [List.getD_eq_getElem?_getD, List.getElem?_replicate]
  split <;> rfl
theorem MulRel.zero (N M n m : Nat) : MulRel N M n m 0 (List.replicate (n + m) 0) :=
  ⟨by simp, digs_replicate _, by rw [val_replicate]; simp [vf], fun j _ => dx_replicate _ _⟩
/-- .. behind q rounds of the inner one. -/
structure MulIn (V x M n m k q c : Nat) (o : List Nat) : Prop where
  len : o.length = n + m
  digs : Digs o
  carry : c < Bs
  sum : val o + c * Bs ^ (k + q) = V + x * Bs ^ k * vf (dx (dig M)) q
  rest : ∀ j, k + m ≤ j → dx o j = 0
  lim : x < Bs
theorem MulIn.zero {N M n m k : Nat} {o : List Nat} (h : MulRel N M n m k o) : MulIn (val o) (dx (dig N) k) M n m k 0 0 o :=
  ⟨h.len, h.digs, Bs_pos, by simp [vf], h.rest, dx_lt (digs_dig N) k⟩
theorem mul_carry {z x y c : Nat} (hz : z < Bs) (hx : x < Bs) (hy : y < Bs) (hc : c < Bs) : (z + x * y + c) / Bs < Bs := by
  rw [Nat.div_lt_iff_lt_mul Bs_pos]
  have : x * y ≤ (Bs - 1) * (Bs - 1) := Nat.mul_le_mul (by omega) (by omega)
  rw [Bs_eq] at *
  omega
theorem mul_cast_mod (z x y c : Nat) : ((((z + x * y + c) % Bs : Nat) : Int)) = ((z : Int) + (x : Int) * (y : Int) + (c : Int)) % 1000000000 := by
  rw [Bs_eq, ← Int.natCast_mul]; omega
theorem mul_cast_div (z x y c : Nat) : ((((z + x * y + c) / Bs : Nat) : Int)) = ((z : Int) + (x : Int) * (y : Int) + (c : Int)) / 1000000000 := by
  rw [Bs_eq, ← Int.natCast_mul]; omega
theorem MulIn.step {V x M n m k q c : Nat} {o : List Nat} (h : MulIn V x M n m k q c o) (hq : q < m) (hk : k < n) :
    MulIn V x M n m k (q + 1) ((dx o (k + q) + x * dx (dig M) q + c) / Bs) (o.set (k + q) ((dx o (k + q) + x * dx (dig M) q + c) % Bs)) := by
  have hi : k + q < o.length := by rw [h.len]; omega
  refine ⟨by rw [List.length_set]; exact h.len, digs_set h.digs (Nat.mod_lt _ Bs_pos) _, mul_carry (dx_lt h.digs _) h.lim (dx_lt (digs_dig M) q) h.carry, ?_, fun j hj => ?_, h.lim⟩
  · have h1 := val_set hi ((dx o (k + q) + x * dx (dig M) q + c) % Bs)
    have h2 := h.sum
    have h3 := Nat.mod_add_div (dx o (k + q) + x * dx (dig M) q + c) Bs
    simp only [vf]
    rw [← Nat.add_assoc, Nat.pow_succ]
    generalize (dx o (k + q) + x * dx (dig M) q + c) % Bs = r at *
    generalize (dx o (k + q) + x * dx (dig M) q + c) / Bs = t at *
    have hp : Bs ^ (k + q) = Bs ^ k * Bs ^ q := Nat.pow_add _ _ _
    have h4 : (r + Bs * t) * Bs ^ (k + q) = (dx o (k + q) + x * dx (dig M) q + c) * Bs ^ (k + q) := by rw [h3]
    rw [hp] at *
    grind
  · rw [dx_set hi, if_neg (by omega)]
    exact h.rest j hj
theorem MulIn.stop {N M n m k c x : Nat} {o o' : List Nat} (h : MulIn (val o) x M n m k m c o') (hx : vf (dx (dig N)) (k + 1) = vf (dx (dig N)) k + x * Bs ^ k) (hm : (dig M).length = m) (hk : k < n) (ho : MulRel N M n m k o) : MulRel N M n m (k + 1) (o'.set (k + m) c) := by
  have hi : k + m < o'.length := by rw [h.len]; omega
  refine ⟨by rw [List.length_set]; exact h.len, digs_set h.digs h.carry _, ?_, fun j hj => ?_⟩
  · have h1 := val_set hi c
    rw [h.rest _ (Nat.le_refl _)] at h1
    have h2 := h.sum
    rw [val_vf (by omega), val_dig] at h2
    have h3 := ho.prod
    rw [hx, Nat.add_mul]
    grind
  · rw [dx_set hi, if_neg (by omega)]
    exact h.rest j (by omega)

set_option maxRecDepth 100000 in
set_option maxHeartbeats 2000000 in
theorem natMul_any (w : World) {A B : Option Addr} {n m c d N M : Nat} (ha : IsN w A n c N) (hb : IsN w B m d M) (hn : n ≤ 1048576) (hm : m ≤ 1048576) :
    Calls Tryz.prog 136 #[.slice A n c, .slice B m d] w fun e w' => ∃ A' n' c', e = .returned (.slice A' n' c') ∧ OwI 3 w.heap.size w' A' n' c' (ints (dig (N * M))) ∧ Bl w w' := by
  have hmk := make_ints (P := Tryz.prog) Tryz.underlying28 info_int (n + m) (n + m) (Nat.le_refl _) (by omega)
  rw [show ((n + m : Nat) : Int) = (n : Int) + (m : Int) from by omega] at hmk
  go_enter Tryz.func136, Tryz.ntmps136
  go_wp2_with fail
  clear hmk
  go_loopw [20] (fun i wr => ∃ (k : Nat) (o : List Nat), k ≤ n ∧ i = .int .i64 (k : Int) ∧ MulRel N M n m k o ∧ Ow 3 wr w.heap.size (ints o) ∧ Bl w wr) (fun i _ => n - (intOf i).toNat)
  case atStart => exact ⟨0, List.replicate (n + m) 0, Nat.zero_le _, rfl, MulRel.zero _ _ _ _, by rw [ints_replicate]; exact Ow.mk w (n + m), (Bl.refl w).alloc _⟩
  case round =>
    obtain ⟨k, o, hk, rfl, hmul, hO, hbw⟩ := hrel
    obtain ⟨wo, hwo⟩ : ∃ wo : World, wo = wr := ⟨_, rfl⟩
    subst hwo
    by_cases hkn : k < n
    · obtain ⟨ad, rfl, hlta, hca⟩ := (ha.bl hbw).atN hkn
      have hki : (k : Int) < (n : Int) := by omega
      have bx := dx_lt (digs_dig N) k
      rw [Bs_eq] at bx
      have hin := MulIn.zero hmul
      have hmul0 := Lib.hid hmul
      have hNk := Lib.hid (show vf (dx (dig N)) (k + 1) = vf (dx (dig N)) k + dx (dig N) k * Bs ^ k from rfl)
      generalize dx (dig N) k = x at *
      go_wp2_with fail
      go_loopw [8, 27] (fun cr i wr => ∃ (q c1 : Nat) (o' : List Nat), q ≤ m ∧ i = .int .i64 (q : Int) ∧ cr = .int .i64 (c1 : Int) ∧ MulIn (val o) x M n m k q c1 o' ∧ Ow 3 wr w.heap.size (ints o') ∧ Bl w wr) (fun _ i _ => m - (intOf i).toNat)
      case atStart => exact ⟨0, 0, o, Nat.zero_le _, rfl, rfl, hin, hO, hbw⟩
      case round =>
        clear hin hO hbw hca hmul
        obtain ⟨q, c1, o', hq, rfl, rfl, hin, hO, hbw⟩ := hrel
        have hc1 := hin.carry
        rw [Bs_eq] at hc1
        by_cases hqm : q < m
        · obtain ⟨bd, rfl, hltb, hcb⟩ := (hb.bl hbw).atN hqm
          have hqi : (q : Int) < (m : Int) := by omega
          have hkq : ((k : Int) + (q : Int)) < ((n : Int) + (m : Int)) := by omega
          have hkq' : k + q < n + m := by omega
          have by' := dx_lt (digs_dig M) q
          rw [Bs_eq] at by'
          have hcell := hO.cell (k := k + q) (by rw [ints_len, hin.len]; omega)
          rw [ix_ints] at hcell
          have hfr := hO.frozen (k + q)
          have bo := dx_lt hin.digs (k + q)
          rw [Bs_eq] at bo
          have hstep := hin.step hqm hkn
          have hO1 := hO.set (k + q) (((dx o' (k + q) + x * dx (dig M) q + c1) % Bs : Nat) : Int)
          rw [← ints_set] at hO1
          generalize dx (dig M) q = y at *
          generalize dx o' (k + q) = z at *
          have hxy0 : (0 : Int) ≤ (x : Int) * (y : Int) := by exact_mod_cast Nat.zero_le (x * y)
          have hxy : (x : Int) * (y : Int) ≤ 999999998000000001 := by
            have : x * y ≤ 999999999 * 999999999 := Nat.mul_le_mul (by omega) (by omega)
            have h2 : ((x * y : Nat) : Int) ≤ 999999998000000001 := by omega
            rwa [Int.natCast_mul] at h2
          have e1 : ((((z + x * y + c1) % Bs : Nat) : Int)) = ((z : Int) + (x : Int) * (y : Int) + (c1 : Int)) % 1000000000 := mul_cast_mod z x y c1
          have e2 : ((((z + x * y + c1) / Bs : Nat) : Int)) = ((z : Int) + (x : Int) * (y : Int) + (c1 : Int)) / 1000000000 := mul_cast_div z x y c1
          rw [e1] at hO1
          have e2 := Lib.hid e2; rename_i e2o; clear e2o e1
          go_wp2_with fail
          go_roundw
          case rel => exact ⟨q + 1, _, _, by omega, by go_num, by rw [e2.out], hstep, hO1, hbw.set (Nat.le_refl _) _⟩
          case measure => simp [intOf]; omega
        · obtain rfl : q = m := by omega
          have hkm : ((k : Int) + (q : Int)) < ((n : Int) + (q : Int)) := by omega
          have hkm' : k + q < n + q := by omega
          have hcell := hO.cell (k := k + q) (by rw [ints_len, hin.len]; omega)
          rw [ix_ints, hin.rest _ (Nat.le_refl _)] at hcell
          have hfr := hO.frozen (k + q)
          have hstop := hin.stop hNk.out hb.lenN hkn hmul0.out
          have hO1 := hO.set (k + q) (c1 : Int)
          rw [← ints_set] at hO1
          go_wp2_with fail
          go_roundw
          case rel => exact ⟨k + 1, _, by omega, by go_num, hstop, hO1, hbw.set (Nat.le_refl _) _⟩
          case measure => simp [intOf]; omega
    · obtain rfl : k = n := by omega
      have hv := Lib.hid (show val o = N * M by rw [hmul.prod, val_vf (by rw [ha.lenN]; omega), val_dig])
      have hlen := hmul.len
      go_wp2_with fail
      refine (trimmed_any _ (l := o) (RdI.of_ow hO (by rw [ints_len]; exact hlen) (by omega)) hmul.digs).mono ?_
      rintro e w1 ⟨m', rfl, hm', ht, hq⟩
      rw [hv.out] at ht
      have hO1 := (OwI.of_ow (c := k + m) hO (Nat.le_refl _) (by rw [ints_len]; exact hlen) (by omega) hm' ht).q hq
      have hbw1 := hbw.next (q_bl hq)
      go_wp2_with fail
      go_ret
      exact ⟨_, _, _, rfl, hO1, hbw1⟩

end Go.Proofs.YthgielbhcjpikaaGreat
