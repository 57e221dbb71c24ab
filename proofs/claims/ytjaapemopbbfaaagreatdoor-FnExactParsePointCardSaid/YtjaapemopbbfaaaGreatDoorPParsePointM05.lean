/- Lemmas. -/
import Derived.Test.YtjaapemopbbfaaaGreatDoorRows
import Derived.Test.YtjaapemopbbfaaaGreatDoorPParsePointM04
import Derived.Test.YtjaapemopbbfaaaGreatDoorPParsePointM01
namespace Go.Proofs.YtjaapemopbbfaaaGreatDoor
section
open Go.RowKit

/-- What holds behind k rounds of the outer loop of a product. -/
structure MulRel (N M n m k : Nat) (o : List Nat) : Prop where
  len : o.length = n + m
  digs : Digs o
  prod : val o = vf (dx (dig N)) k * M
  rest : ∀ j, k + m ≤ j → dx o j = 0
theorem dx_replicate (n j : Nat) : dx (List.replicate n 0) j = 0 := by
  unfold dx
  rw [List.getD_eq_getElem?_getD, List.getElem?_replicate]
  split <;> rfl
theorem MulRel.zero (N M n m : Nat) : MulRel N M n m 0 (List.replicate (n + m) 0) :=
  ⟨by simp, digs_replicate _, by rw [val_replicate]; simp [vf], fun j _ => dx_replicate _ _⟩
/-- .. behind q rounds of the inner one. -/
structure MulIn (V x M n m k q c : Nat) (o : List Nat) : Prop where
  len : o.length = n + m
  digs : Digs o
  carry : c < Bs
  sum : val o + c * Bs ^ (k + q) = V + x * Bs ^ k * vf (dx (dig M)) q
  rest : ∀ j, k + m ≤ j → dx o j = 0
  lim : x < Bs
theorem MulIn.zero {N M n m k : Nat} {o : List Nat} (h : MulRel N M n m k o) : MulIn (val o) (dx (dig N) k) M n m k 0 0 o :=
  ⟨h.len, h.digs, Bs_pos, by simp [vf], h.rest, dx_lt (digs_dig N) k⟩
theorem mul_carry {z x y c : Nat} (hz : z < Bs) (hx : x < Bs) (hy : y < Bs) (hc : c < Bs) : (z + x * y + c) / Bs < Bs := by
  rw [Nat.div_lt_iff_lt_mul Bs_pos]
  have : x * y ≤ (Bs - 1) * (Bs - 1) := Nat.mul_le_mul (by omega) (by omega)
  rw [Bs_eq] at *
  omega
theorem mul_cast_mod (z x y c : Nat) : ((((z + x * y + c) % Bs : Nat) : Int)) = ((z : Int) + (x : Int) * (y : Int) + (c : Int)) % 1000000000 := by
  rw [Bs_eq, ← Int.natCast_mul]; omega
theorem mul_cast_div (z x y c : Nat) : ((((z + x * y + c) / Bs : Nat) : Int)) = ((z : Int) + (x : Int) * (y : Int) + (c : Int)) / 1000000000 := by
  rw [Bs_eq, ← Int.natCast_mul]; omega
theorem MulIn.step {V x M n m k q c : Nat} {o : List Nat} (h : MulIn V x M n m k q c o) (hq : q < m) (hk : k < n) :
    MulIn V x M n m k (q + 1) ((dx o (k + q) + x * dx (dig M) q + c) / Bs) (o.set (k + q) ((dx o (k + q) + x * dx (dig M) q + c) % Bs)) := by
  have hi : k + q < o.length := by rw [h.len]; omega
  refine ⟨by rw [List.length_set]; exact h.len, digs_set h.digs (Nat.mod_lt _ Bs_pos) _, mul_carry (dx_lt h.digs _) h.lim (dx_lt (digs_dig M) q) h.carry, ?_, fun j hj => ?_, h.lim⟩
  · have h1 := val_set hi ((dx o (k + q) + x * dx (dig M) q + c) % Bs)
    have h2 := h.sum
    have h3 := Nat.mod_add_div (dx o (k + q) + x * dx (dig M) q + c) Bs
    simp only [vf]
    rw [← Nat.add_assoc, Nat.pow_succ]
    generalize (dx o (k + q) + x * dx (dig M) q + c) % Bs = r at *
    generalize (dx o (k + q) + x * dx (dig M) q + c) / Bs = t at *
    have hp : Bs ^ (k + q) = Bs ^ k * Bs ^ q := Nat.pow_add _ _ _
    have h4 : (r + Bs * t) * Bs ^ (k + q) = (dx o (k + q) + x * dx (dig M) q + c) * Bs ^ (k + q) := by rw [h3]
    rw [hp] at *
    grind
  · rw [dx_set hi, if_neg (by omega)]
    exact h.rest j hj
theorem MulIn.stop {N M n m k c x : Nat} {o o' : List Nat} (h : MulIn (val o) x M n m k m c o') (hx : vf (dx (dig N)) (k + 1) = vf (dx (dig N)) k + x * Bs ^ k) (hm : (dig M).length = m) (hk : k < n) (ho : MulRel N M n m k o) : MulRel N M n m (k + 1) (o'.set (k + m) c) := by
  have hi : k + m < o'.length := by rw [h.len]; omega
  refine ⟨by rw [List.length_set]; exact h.len, digs_set h.digs h.carry _, ?_, fun j hj => ?_⟩
  · have h1 := val_set hi c
    rw [h.rest _ (Nat.le_refl _)] at h1
    have h2 := h.sum
    rw [val_vf (by omega), val_dig] at h2
    have h3 := ho.prod
    rw [hx, Nat.add_mul]
    grind
  · rw [dx_set hi, if_neg (by omega)]
    exact h.rest j (by omega)
end

section
open Go.RowKit

theorem wpList_append_all {P : Program} {E t : TypeId} (hinfo : (P.info? E).map (fun i => (i.zero, i.size, i.bytes)) = some (some (.int .i64 0), 1, 8)) (ht : P.underlying t = some (.slice E))
    {w0 W : World} {ops : Array Oper} {rest : List Oper} {o : Oper} {a : Act} {Q : Exit → Act → World → Prop} (hgd : o.guard = none) (s x : Operand)
    (ho : o.op = .call { callee := .builtin .append, args := #[s, x], argTypes := #[t, t] }) (v : Value) (l : List Int) (hs : a.eval s = v) (hown : OwL E w0.heap.size W v l) (hb : Bl w0 W)
    (ad : Addr) (m c : Nat) (hx : a.eval x = .slice (some ad) m c) (ys : List Int) (hr : RdI W (some ad) m c ys) (hlen : l.length ≤ 1099511627776) (hm : m ≤ 1099511627776)
    (h : ∀ v' w', OwL E w0.heap.size w' v' (l ++ ys) → Bl w0 w' → wpList P ops Q rest (a.put o.dst v') w') : wpList P ops Q (o :: rest) a W := by
  obtain ⟨i0, hi, hz0, hz1, hz2⟩ := info_parts hinfo
  refine wpList_append_own _ hgd s x t ho w0.heap.size E i0 (.int .i64 0) 1 8 ht hi hz0 hz1 hz2 rfl (by omega) v l.length (l.map (Value.int .i64)) hs hown ad m c (ys.map (Value.int .i64)) hx (by simp [hr.len]) ?_ (by intro u hu; simp at hu; obtain ⟨z, _, rfl⟩ := hu; rfl) (by simp only [maxLen]; omega) (by omega) hb.size ?_
  · intro j u hu
    rw [List.getElem?_map] at hu
    have hj : j < m := by
      rcases Nat.lt_or_ge j ys.length with h | h
      · rw [hr.len] at h; exact h
      · rw [List.getElem?_eq_none h] at hu; simp at hu
    obtain ⟨ad', e, _, hc⟩ := hr.at_ hj
    injection e with e
    subst e
    rw [hc]
    rw [List.getElem?_eq_getElem (by rw [hr.len]; exact hj)] at hu
    simp at hu
    rw [← hu]
    simp [ix, hr.len, hj]
  · intro v' w' h1 h2 _
    refine h v' w' ?_ (hb.grown h2 hown.blockLe)
    unfold OwL
    rw [List.length_append, hr.len]
    simpa using h1

set_option maxHeartbeats 1600000 in
theorem Clone_any (w : World) {A : Option Addr} {n c : Nat} {l : List Int} (h : RdI w A n c l) (hn : n ≤ 1048576) :
    Calls Tryz.prog 108 #[.slice A n c] w fun e w' => ∃ A' n' c', e = .returned (.slice A' n' c') ∧ OwI 3 w.heap.size w' A' n' c' l ∧ Bl w w' := by
  have he : ∀ W a n c, (binOp .eql 22 (.slice a n c) (.slice none 0 0)).run Tryz.prog W = .ok (.bool a.isNone) W := fun W a n c => Lib.run_eql_slice_nil W 22 3 a n c 0 0 Tryz.underlying22
  have hl := Lib.hid h.len
  rcases A with _ | ad
  · have hn0 : n = 0 := by
      rcases Nat.eq_zero_or_pos n with h0 | h0
      · exact h0
      · obtain ⟨_, e, _⟩ := h.at_ h0
        cases e
    subst hn0
    have hl0 : l = [] := List.length_eq_zero_iff.1 hl.out
    subst hl0
    go_enter Tryz.func108, Tryz.ntmps108
    go_wp2
    go_ret
    exact ⟨none, 0, 0, rfl, OwI.nil _ _ _ _, Bl.refl _⟩
  · go_enter Tryz.func108, Tryz.ntmps108
    go_wp2_with (at_builtin; go_must (refine wpList_append_all (w0 := w) info_int Tryz.underlying22 rfl (.tmp 5) (.tmp 6) rfl _ [] rfl (OwL.empty w (Nat.le_refl _) (by simp)) ((Bl.refl w).alloc _) ad n c rfl l (h.alloc _) (by simp) (by omega) ?_); intro v' w1 hown1 hbw1)
    obtain ⟨A', c', hv, ho⟩ := hown1.own (by have := hl.out; simp; omega)
    go_ret
    exact ⟨A', _, c', congrArg Ending.returned hv, ho, hbw1⟩
end

section
open Go.RowKit

/-- What holds behind k rounds of a subtraction. -/
structure SubRel (N M n k br : Nat) (o : List Nat) : Prop where
  len : o.length = n
  digs : Digs o
  small : br ≤ 1
  diff : vf (dx o) k + vf (dx (dig M)) k = vf (dx (dig N)) k + br * Bs ^ k
  same : ∀ j, k ≤ j → dx o j = dx (dig N) j
theorem SubRel.start {N M n : Nat} (h : (dig N).length = n) : SubRel N M n 0 0 (dig N) := ⟨h, digs_dig N, by omega, by simp [vf], fun _ _ => rfl⟩
theorem SubRel.step {N M n k br d br' : Nat} {o : List Nat} (h : SubRel N M n k br o) (hk : k < n) (hd : d < Bs) (hb : br' ≤ 1) (he : d + br + dx (dig M) k = dx (dig N) k + br' * Bs) : SubRel N M n (k + 1) br' (o.set k d) := by
  have hi : k < o.length := by rw [h.len]; exact hk
  refine ⟨by rw [List.length_set]; exact h.len, digs_set h.digs hd _, hb, ?_, fun j hj => ?_⟩
  · have h1 : vf (dx (o.set k d)) k = vf (dx o) k := vf_congr fun i hi' => by rw [dx_set hi, if_neg (by omega)]
    have h2 := h.diff
    simp only [vf]
    rw [h1, dx_set hi, if_pos rfl, Nat.pow_succ]
    have h3 : (d + br + dx (dig M) k) * Bs ^ k = (dx (dig N) k + br' * Bs) * Bs ^ k := by rw [he]
    grind
  · rw [dx_set hi, if_neg (by omega)]
    exact h.same j (by omega)
theorem SubRel.stop {N M n br : Nat} {o : List Nat} (h : SubRel N M n n br o) (hn : (dig N).length = n) (hm : (dig M).length ≤ n) (hle : M ≤ N) : val o = N - M := by
  have h1 := h.diff
  rw [val_vf (by rw [h.len]; exact Nat.le_refl _), val_vf hm, val_vf (by omega), val_dig, val_dig] at h1
  have h2 := val_lt h.digs
  rw [h.len] at h2
  have h3 := h.small
  rcases Nat.eq_zero_or_pos br with h0 | h0
  · subst h0; omega
  · obtain rfl : br = 1 := by omega
    omega
theorem dig_len_mono {M N : Nat} (h : M ≤ N) : (dig M).length ≤ (dig N).length := by
  have := val_lt (digs_dig N)
  rw [val_dig] at this
  exact dig_len_le.2 (by omega)
end

section
/-! The quotient's digit in a division by more than one limb: plain arithmetic over a base B; P is B^(n-2). -/
section
variable {B P v1 v2 Vl top u2 Wl q rest : Nat}
theorem kn_init {t : Nat} (hu2 : u2 < B) (hWl : Wl < P) (h : t * (v1 * (B * P) + v2 * P + Vl) ≤ top * (B * P) + u2 * P + Wl) : t * v1 ≤ top := by
  have h1 : (u2 + 1) * P ≤ B * P := Nat.mul_le_mul_right P hu2
  have h2 : t * (v1 * (B * P)) ≤ t * (v1 * (B * P) + v2 * P + Vl) := Nat.mul_le_mul_left t (by omega)
  rw [← Nat.mul_assoc] at h2
  rw [Nat.add_mul] at h1
  rcases Nat.lt_or_ge top (t * v1) with hlt | hge
  · have h3 : (top + 1) * (B * P) ≤ (t * v1) * (B * P) := Nat.mul_le_mul_right _ hlt
    rw [Nat.add_mul] at h3
    omega
  · exact hge
theorem kn_step (hr : rest + q * v1 = top) (hWl : Wl < P) (h : rest * B + u2 < q * v2) : top * (B * P) + u2 * P + Wl < q * (v1 * (B * P) + v2 * P + Vl) := by
  have h1 : (rest * B + u2 + 1) * P ≤ (q * v2) * P := Nat.mul_le_mul_right P h
  rw [Nat.add_mul, Nat.add_mul, Nat.mul_assoc, Nat.mul_assoc] at h1
  rw [← hr, Nat.add_mul, Nat.mul_add, Nat.mul_add, Nat.mul_assoc q v1]
  omega
theorem kn_exit1 (hq : q < B) (hr : rest + q * v1 = top) (hv1 : 0 < v1) (hVl : Vl < P) (h : q * v2 ≤ rest * B + u2) : q * (v1 * (B * P) + v2 * P + Vl) ≤ (top * (B * P) + u2 * P + Wl) + (v1 * (B * P) + v2 * P + Vl) := by
  have h1 : (q * v2) * P ≤ (rest * B + u2) * P := Nat.mul_le_mul_right P h
  rw [Nat.add_mul, Nat.mul_assoc, Nat.mul_assoc] at h1
  have h2 : q * Vl ≤ B * P := Nat.mul_le_mul (by omega) (by omega)
  have h3 : 1 * (B * P) ≤ v1 * (B * P) := Nat.mul_le_mul_right _ hv1
  rw [← hr, Nat.add_mul, Nat.mul_add, Nat.mul_add, Nat.mul_assoc q v1]
  omega
theorem kn_exit2 (hq : q < B) (hr : rest + q * v1 = top) (hv2 : v2 < B) (hVl : Vl < P) (h : B ≤ rest) : q * (v1 * (B * P) + v2 * P + Vl) ≤ (top * (B * P) + u2 * P + Wl) + (v1 * (B * P) + v2 * P + Vl) := by
  have h1 : (v2 + 1) * P ≤ B * P := Nat.mul_le_mul_right P hv2
  rw [Nat.add_mul] at h1
  have h2 : q * (v2 * P + Vl) ≤ B * (B * P) := Nat.mul_le_mul (by omega) (by omega)
  have h3 : B * (B * P) ≤ rest * (B * P) := Nat.mul_le_mul_right _ h
  rw [← hr, Nat.add_mul, Nat.add_assoc (v1 * (B * P)), Nat.mul_add, Nat.mul_assoc q v1]
  omega
end

theorem vf_split (f : Nat → Nat) (j m : Nat) : vf f (j + m) = vf f j + Bs ^ j * vf (fun i => f (j + i)) m := by
  induction m with
  | zero => simp [vf]
  | succ m ih =>
    rw [← Nat.add_assoc, vf, ih]
    simp only [vf]
    rw [Nat.mul_add, Nat.pow_add, Nat.add_assoc, ← Nat.mul_assoc, Nat.mul_comm (f (j + m)), Nat.mul_assoc]
theorem vf_top2 (f : Nat → Nat) (n : Nat) : vf f (n + 3) = (f (n + 2) * Bs + f (n + 1)) * (Bs * Bs ^ n) + f n * Bs ^ n + vf f n := by
  simp only [vf]
  have e1 : Bs ^ (n + 1) = Bs * Bs ^ n := by rw [Nat.pow_succ, Nat.mul_comm]
  have e2 : Bs ^ (n + 2) = Bs * (Bs * Bs ^ n) := by rw [Nat.pow_succ, e1, Nat.mul_comm]
  rw [e2, e1, Nat.add_mul, Nat.mul_assoc (f (n + 2)) Bs]
  omega
theorem vf_top1 (f : Nat → Nat) (n : Nat) : vf f (n + 2) = f (n + 1) * (Bs * Bs ^ n) + f n * Bs ^ n + vf f n := by
  simp only [vf]
  rw [Nat.pow_succ, Nat.mul_comm (Bs ^ n) Bs]
  omega

/-- The state of a long division when K digits are still to come. N: the number to divide (scaled), V: the divisor (scaled). -/
structure LdRel (N V n L K : Nat) (us os : List Nat) : Prop where
  lenU : us.length = L + 1
  lenO : os.length = L - n + 1
  digU : Digs us
  digO : Digs os
  sum : val os * V + val us = N
  part : vf (fun i => dx us (K + i)) n < V
  high : ∀ j, K + n ≤ j → dx us j = 0
  low : ∀ j, j < K → dx os j = 0
theorem LdRel.window {N V n L K : Nat} {us os : List Nat} (h : LdRel N V n L (K + 1) us os) : vf (fun i => dx us (K + i)) (n + 1) < Bs * V := by
  have h1 : vf (fun i => dx us (K + i)) (n + 1) = dx us K + Bs * vf (fun i => dx us (K + 1 + i)) n := by
    rw [vf_shift]
    rw [Nat.add_zero]
    congr 2
    exact vf_congr fun i _ => by rw [Nat.add_assoc, Nat.add_comm 1 i]
  have h2 := h.part
  have h3 := dx_lt h.digU K
  have h4 := Nat.mul_le_mul_left Bs (show vf (fun i => dx us (K + 1 + i)) n + 1 ≤ V from h2)
  rw [Nat.mul_add] at h4
  omega
/-- One digit more: the window W is replaced by W mod V. -/
theorem LdRel.step {N V n L K q : Nat} {us us' os : List Nat} (h : LdRel N V n L (K + 1) us os) (hK : K + n ≤ L) (hVn : V < Bs ^ n) (hlen : us'.length = us.length) (hdig : Digs us')
    (hq : q = vf (fun i => dx us (K + i)) (n + 1) / V) (hw : vf (fun i => dx us' (K + i)) (n + 1) = vf (fun i => dx us (K + i)) (n + 1) % V) (hsame : ∀ j, (j < K ∨ K + n < j) → dx us' j = dx us j) (hn : n ≤ L) :
    LdRel N V n L K us' (os.set K q) := by
  have hwin := h.window
  have hV0 : 0 < V := by
    rcases Nat.eq_zero_or_pos V with h0 | h0
    · rw [h0] at hwin; omega
    · exact h0
  have hqB : q < Bs := by rw [hq, Nat.div_lt_iff_lt_mul hV0]; exact hwin
  have hi : K < os.length := by rw [h.lenO]; omega
  have hmod := Nat.mod_lt (vf (fun i => dx us (K + i)) (n + 1)) hV0
  have htop : dx us' (K + n) = 0 := by
    rcases Nat.eq_zero_or_pos (dx us' (K + n)) with h0 | h0
    · exact h0
    · have e1 : vf (fun i => dx us' (K + i)) (n + 1) = vf (fun i => dx us' (K + i)) n + dx us' (K + n) * Bs ^ n := rfl
      have := Nat.mul_le_mul_right (Bs ^ n) h0
      omega
  have hpart : vf (fun i => dx us' (K + i)) n = vf (fun i => dx us (K + i)) (n + 1) % V := by
    rw [← hw]
    have e1 : vf (fun i => dx us' (K + i)) (n + 1) = vf (fun i => dx us' (K + i)) n + dx us' (K + n) * Bs ^ n := rfl
    rw [e1, htop]; omega
  refine ⟨by rw [hlen]; exact h.lenU, by rw [List.length_set]; exact h.lenO, hdig, digs_set h.digO hqB _, ?_, by rw [hpart]; exact hmod, fun j hj => ?_, fun j hj => ?_⟩
  · have h1 := val_set hi q
    rw [h.low K (by omega)] at h1
    have h2 := h.sum
    have split : ∀ w : List Nat, w.length = L + 1 → (∀ j, K + n + 1 ≤ j → dx w j = 0) → val w = vf (dx w) K + Bs ^ K * vf (fun i => dx w (K + i)) (n + 1) := fun w hl hz => by
      rw [← vf_split, ← val_vf (l := w) (k := L + 1) (by omega)]
      exact vf_zero (fun i h1 _ => hz i (by omega)) (by omega)
    have s1 := split us h.lenU (fun j hj => h.high j (by omega))
    have s2 := split us' (by rw [hlen]; exact h.lenU) (fun j hj => by rw [hsame j (by omega)]; exact h.high j (by omega))
    have e1 : vf (dx us') K = vf (dx us) K := vf_congr fun i hi => hsame i (by omega)
    have h3 := Nat.mod_add_div (vf (fun i => dx us (K + i)) (n + 1)) V
    rw [← hq, ← hw] at h3
    rw [s2, e1]
    rw [s1, ← h3, Nat.mul_add] at h2
    have h4 : val (os.set K q) * V = val os * V + Bs ^ K * (V * q) := by
      have : val (os.set K q) = val os + q * Bs ^ K := by omega
      rw [this, Nat.add_mul, Nat.mul_comm q (Bs ^ K), Nat.mul_assoc, Nat.mul_comm q V]
    omega
  · rcases Nat.eq_or_lt_of_le hj with e | hlt
    · rw [← e]; exact htop
    · rw [hsame j (.inr hlt)]; exact h.high j (by omega)
  · rw [dx_set hi, if_neg (by omega)]
    exact h.low j (by omega)
theorem LdRel.stop {a b s n L : Nat} {us os : List Nat} (h : LdRel (s * a) (s * b) n L 0 us os) (hs : 0 < s) : val os = a / b ∧ val us = s * (a % b) ∧ vf (dx us) n = val us := by
  have h1 : vf (dx us) n = val us := by
    rcases Nat.lt_or_ge (L + 1) n with hl | hl
    · exact val_vf (by rw [h.lenU]; omega)
    · rw [← val_vf (l := us) (k := L + 1) (by rw [h.lenU]; omega)]
      exact (vf_zero (fun i h1 _ => h.high i (by omega)) hl).symm
  have h2 := h.part
  simp only [Nat.zero_add] at h2
  have h3 : vf (fun i => dx us i) n = vf (dx us) n := rfl
  rw [h3, h1] at h2
  have h4 := h.sum
  have hb : 0 < s * b := by omega
  have q1 : s * a / (s * b) = val os := by
    rw [← h4, Nat.mul_comm (val os), Nat.mul_add_div hb, Nat.div_eq_of_lt h2]; omega
  have q2 : s * a % (s * b) = val us := by
    rw [← h4, Nat.mul_comm (val os), Nat.mul_add_mod, Nat.mod_eq_of_lt h2]
  rw [Nat.mul_div_mul_left _ _ hs] at q1
  rw [Nat.mul_mod_mul_left] at q2
  exact ⟨q1.symm, q2.symm, h1⟩
theorem LdRel.start {a b s n L : Nat} {us : List Nat} (hU : us.length = L + 1) (hd : Digs us) (hv : val us = s * a) (ha : a < Bs ^ L) (hb : Bs ^ (n - 1) ≤ b) (hs : 0 < s) (hn : 0 < n) (hnL : n ≤ L) :
    LdRel (s * a) (s * b) n L (L - n + 1) us (List.replicate (L - n + 1) 0) := by
  refine ⟨hU, by simp, hd, digs_replicate _, by rw [val_replicate, hv]; omega, ?_, fun j hj => dx_beyond (by rw [hU]; omega), fun j _ => dx_replicate _ _⟩
  have h1 : val us = vf (dx us) (L - n + 1) + Bs ^ (L - n + 1) * vf (fun i => dx us (L - n + 1 + i)) n := by
    rw [← vf_split, val_eq_vf, hU]
    congr 1
    omega
  rcases Nat.lt_or_ge (vf (fun i => dx us (L - n + 1 + i)) n) (s * b) with hlt | hge
  · exact hlt
  · have h2 := Nat.mul_le_mul_left (Bs ^ (L - n + 1)) hge
    have h3 : Bs ^ (L - n + 1) * (s * Bs ^ (n - 1)) ≤ Bs ^ (L - n + 1) * (s * b) := Nat.mul_le_mul_left _ (Nat.mul_le_mul_left _ hb)
    have h4 : Bs ^ (L - n + 1) * (s * Bs ^ (n - 1)) = s * Bs ^ L := by
      rw [← Nat.mul_assoc, Nat.mul_comm _ s, Nat.mul_assoc, ← Nat.pow_add]
      congr 2
      omega
    have h5 : s * (a + 1) ≤ s * Bs ^ L := Nat.mul_le_mul_left s ha
    rw [Nat.mul_add] at h5
    omega
/-- The digit after the subtraction, and after the addition that mends it. -/
theorem kn_digit {W W1 W2 V q r c n : Nat} (hV0 : 0 < V) (hVn : V < Bs ^ n) (h1 : W / V ≤ q) (h2 : q ≤ W / V + 1) (hs : W1 + q * V = W + r * Bs ^ (n + 1)) (hw1 : W1 < Bs ^ (n + 1)) :
    (r = 0 → q = W / V ∧ W1 = W % V) ∧ (r = 1 → q - 1 = W / V ∧ 0 < q ∧ (W2 + c * Bs ^ (n + 1) = W1 + V → W2 < Bs ^ (n + 1) → W2 = W % V)) := by
  have hbig : V < Bs ^ (n + 1) := by
    rw [Nat.pow_succ]
    have := Nat.mul_le_mul_left (Bs ^ n) Bs_pos
    omega
  generalize Bs ^ (n + 1) = M at *
  have hdm := Nat.mod_add_div W V
  have hlt := Nat.mod_lt W hV0
  have hle : q * V ≤ (W / V + 1) * V := Nat.mul_le_mul_right V h2
  have hge : (W / V) * V ≤ q * V := Nat.mul_le_mul_right V h1
  rw [Nat.add_mul] at hle
  rw [Nat.mul_comm V] at hdm
  constructor
  · intro h0
    rw [h0, Nat.zero_mul] at hs
    have hq : q = W / V := by
      rcases Nat.eq_or_lt_of_le h1 with e | hl
      · exact e.symm
      · have : (W / V + 1) * V ≤ q * V := Nat.mul_le_mul_right V hl
        rw [Nat.add_mul] at this
        omega
    refine ⟨hq, ?_⟩
    rw [hq] at hs
    omega
  · intro h0
    rw [h0, Nat.one_mul] at hs
    have hq : q = W / V + 1 := by
      rcases Nat.eq_or_lt_of_le h1 with e | hl
      · have e2 : (W / V) * V = q * V := by rw [e]
        omega
      · omega
    refine ⟨by rw [hq, Nat.add_sub_cancel], by rw [hq]; exact Nat.succ_pos _, fun h3 h4 => ?_⟩
    rw [hq, Nat.add_mul] at hs
    rcases Nat.lt_or_ge c 2 with hc | hc
    · rcases Nat.eq_zero_or_pos c with h0 | h0
      · subst h0; omega
      · obtain rfl : c = 1 := by omega
        omega
    · have := Nat.mul_le_mul_right M hc
      omega
end

end Go.Proofs.YtjaapemopbbfaaaGreatDoor
