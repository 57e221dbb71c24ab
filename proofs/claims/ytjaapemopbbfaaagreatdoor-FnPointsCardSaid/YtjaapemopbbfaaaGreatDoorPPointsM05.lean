/- Lemmas. -/
import Derived.Test.YtjaapemopbbfaaaGreatDoorRows
import Derived.Test.YtjaapemopbbfaaaGreatDoorPPointsM04
import Derived.Test.YtjaapemopbbfaaaGreatDoorPPointsM01
namespace Go.Proofs.YtjaapemopbbfaaaGreatDoor
section
open Go.RowKit

/-- What holds behind k rounds of the outer loop of a product. -/
structure MulRel (N M n m k : Nat) (o : List Nat) : Prop where
  len : o.length = n + m
  digs : Digs o
  prod : val o = vf (dx (dig N)) k * M
  rest : ∀ j, k + m ≤ j → dx o j = 0
theorem dx_replicate (n j : Nat) : dx (List.replicate n 0) j = 0 := by
  unfold dx
  rw [List.getD_eq_getElem?_getD, List.getElem?_replicate]
  split <;> rfl
theorem MulRel.zero (N M n m : Nat) : MulRel N M n m 0 (List.replicate (n + m) 0) :=
  ⟨by simp, digs_replicate _, by rw [val_replicate]; simp [vf], fun j _ => dx_replicate _ _⟩
/-- .. behind q rounds of the inner one. -/
structure MulIn (V x M n m k q c : Nat) (o : List Nat) : Prop where
  len : o.length = n + m
  digs : Digs o
  carry : c < Bs
  sum : val o + c * Bs ^ (k + q) = V + x * Bs ^ k * vf (dx (dig M)) q
  rest : ∀ j, k + m ≤ j → dx o j = 0
  lim : x < Bs
theorem MulIn.zero {N M n m k : Nat} {o : List Nat} (h : MulRel N M n m k o) : MulIn (val o) (dx (dig N) k) M n m k 0 0 o :=
  ⟨h.len, h.digs, Bs_pos, by simp [vf], h.rest, dx_lt (digs_dig N) k⟩
theorem mul_carry {z x y c : Nat} (hz : z < Bs) (hx : x < Bs) (hy : y < Bs) (hc : c < Bs) : (z + x * y + c) / Bs < Bs := by
  rw [Nat.div_lt_iff_lt_mul Bs_pos]
  have : x * y ≤ (Bs - 1) * (Bs - 1) := Nat.mul_le_mul (by omega) (by omega)
  rw [Bs_eq] at *
  omega
theorem mul_cast_mod (z x y c : Nat) : ((((z + x * y + c) % Bs : Nat) : Int)) = ((z : Int) + (x : Int) * (y : Int) + (c : Int)) % 1000000000 := by
  rw [Bs_eq, ← Int.natCast_mul]; omega
theorem mul_cast_div (z x y c : Nat) : ((((z + x * y + c) / Bs : Nat) : Int)) = ((z : Int) + (x : Int) * (y : Int) + (c : Int)) / 1000000000 := by
  rw [Bs_eq, ← Int.natCast_mul]; omega
theorem MulIn.step {V x M n m k q c : Nat} {o : List Nat} (h : MulIn V x M n m k q c o) (hq : q < m) (hk : k < n) :
    MulIn V x M n m k (q + 1) ((dx o (k + q) + x * dx (dig M) q + c) / Bs) (o.set (k + q) ((dx o (k + q) + x * dx (dig M) q + c) % Bs)) := by
  have hi : k + q < o.length := by rw [h.len]; omega
  refine ⟨by rw [List.length_set]; exact h.len, digs_set h.digs (Nat.mod_lt _ Bs_pos) _, mul_carry (dx_lt h.digs _) h.lim (dx_lt (digs_dig M) q) h.carry, ?_, fun j hj => ?_, h.lim⟩
  · have h1 := val_set hi ((dx o (k + q) + x * dx (dig M) q + c) % Bs)
    have h2 := h.sum
    have h3 := Nat.mod_add_div (dx o (k + q) + x * dx (dig M) q + c) Bs
    simp only [vf]
    rw [← Nat.add_assoc, Nat.pow_succ]
    generalize (dx o (k + q) + x * dx (dig M) q + c) % Bs = r at *
    generalize (dx o (k + q) + x * dx (dig M) q + c) / Bs = t at *
    have hp : Bs ^ (k + q) = Bs ^ k * Bs ^ q := Nat.pow_add _ _ _
    have h4 : (r + Bs * t) * Bs ^ (k + q) = (dx o (k + q) + x * dx (dig M) q + c) * Bs ^ (k + q) := by rw [h3]
    rw [hp] at *
    grind
  · rw [dx_set hi, if_neg (by omega)]
    exact h.rest j hj
theorem MulIn.stop {N M n m k c x : Nat} {o o' : List Nat} (h : MulIn (val o) x M n m k m c o') (hx : vf (dx (dig N)) (k + 1) = vf (dx (dig N)) k + x * Bs ^ k) (hm : (dig M).length = m) (hk : k < n) (ho : MulRel N M n m k o) : MulRel N M n m (k + 1) (o'.set (k + m) c) := by
  have hi : k + m < o'.length := by rw [h.len]; omega
  refine ⟨by rw [List.length_set]; exact h.len, digs_set h.digs h.carry _, ?_, fun j hj => ?_⟩
  · have h1 := val_set hi c
    rw [h.rest _ (Nat.le_refl _)] at h1
    have h2 := h.sum
    rw [val_vf (by omega), val_dig] at h2
    have h3 := ho.prod
    rw [hx, Nat.add_mul]
    grind
  · rw [dx_set hi, if_neg (by omega)]
    exact h.rest j (by omega)

set_option maxRecDepth 100000 in
set_option maxHeartbeats 8000000 in
theorem natMul_any (w : World) {A B : Option Addr} {n m c d N M : Nat} (ha : IsN w A n c N) (hb : IsN w B m d M) (hn : n ≤ 1048576) (hm : m ≤ 1048576) :
    Calls Tryz.prog 115 #[.slice A n c, .slice B m d] w fun e w' => ∃ A' n' c', e = .returned (.slice A' n' c') ∧ OwI 3 w.heap.size w' A' n' c' (ints (dig (N * M))) ∧ Bl w w' := by
  have hmk := make_ints (P := Tryz.prog) Tryz.underlying22 info_int (n + m) (n + m) (Nat.le_refl _) (by omega)
  rw [show ((n + m : Nat) : Int) = (n : Int) + (m : Int) from by omega] at hmk
  go_enter Tryz.func115, Tryz.ntmps115
  go_wp2_with fail
  clear hmk
  go_loopw [20] (fun i wr => ∃ (k : Nat) (o : List Nat), k ≤ n ∧ i = .int .i64 (k : Int) ∧ MulRel N M n m k o ∧ Ow 3 wr w.heap.size (ints o) ∧ Bl w wr) (fun i _ => n - (intOf i).toNat)
  case atStart => exact ⟨0, List.replicate (n + m) 0, Nat.zero_le _, rfl, MulRel.zero _ _ _ _, by rw [ints_replicate]; exact Ow.mk w (n + m), (Bl.refl w).alloc _⟩
  case round =>
    obtain ⟨k, o, hk, rfl, hmul, hO, hbw⟩ := hrel
    obtain ⟨wo, hwo⟩ : ∃ wo : World, wo = wr := ⟨_, rfl⟩
    subst hwo
    by_cases hkn : k < n
    · obtain ⟨ad, rfl, hlta, hca⟩ := (ha.bl hbw).atN hkn
      have hki : (k : Int) < (n : Int) := by omega
      have bx := dx_lt (digs_dig N) k
      rw [Bs_eq] at bx
      have hin := MulIn.zero hmul
      have hmul0 := Lib.hid hmul
      have hNk := Lib.hid (show vf (dx (dig N)) (k + 1) = vf (dx (dig N)) k + dx (dig N) k * Bs ^ k from rfl)
      generalize dx (dig N) k = x at *
      go_wp2_with fail
      go_loopw [8, 27] (fun cr i wr => ∃ (q c1 : Nat) (o' : List Nat), q ≤ m ∧ i = .int .i64 (q : Int) ∧ cr = .int .i64 (c1 : Int) ∧ MulIn (val o) x M n m k q c1 o' ∧ Ow 3 wr w.heap.size (ints o') ∧ Bl w wr) (fun _ i _ => m - (intOf i).toNat)
      case atStart => exact ⟨0, 0, o, Nat.zero_le _, rfl, rfl, hin, hO, hbw⟩
      case round =>
        clear hin hO hbw hca hmul
        obtain ⟨q, c1, o', hq, rfl, rfl, hin, hO, hbw⟩ := hrel
        have hc1 := hin.carry
        rw [Bs_eq] at hc1
        by_cases hqm : q < m
        · obtain ⟨bd, rfl, hltb, hcb⟩ := (hb.bl hbw).atN hqm
          have hqi : (q : Int) < (m : Int) := by omega
          have hkq : ((k : Int) + (q : Int)) < ((n : Int) + (m : Int)) := by omega
          have hkq' : k + q < n + m := by omega
          have by' := dx_lt (digs_dig M) q
          rw [Bs_eq] at by'
          have hcell := hO.cell (k := k + q) (by rw [ints_len, hin.len]; omega)
          rw [ix_ints] at hcell
          have hfr := hO.frozen (k + q)
          have bo := dx_lt hin.digs (k + q)
          rw [Bs_eq] at bo
          have hstep := hin.step hqm hkn
          have hO1 := hO.set (k + q) (((dx o' (k + q) + x * dx (dig M) q + c1) % Bs : Nat) : Int)
          rw [← ints_set] at hO1
          generalize dx (dig M) q = y at *
          generalize dx o' (k + q) = z at *
          have hxy0 : (0 : Int) ≤ (x : Int) * (y : Int) := by exact_mod_cast Nat.zero_le (x * y)
          have hxy : (x : Int) * (y : Int) ≤ 999999998000000001 := by
            have : x * y ≤ 999999999 * 999999999 := Nat.mul_le_mul (by omega) (by omega)
            have h2 : ((x * y : Nat) : Int) ≤ 999999998000000001 := by omega
            rwa [Int.natCast_mul] at h2
          have e1 : ((((z + x * y + c1) % Bs : Nat) : Int)) = ((z : Int) + (x : Int) * (y : Int) + (c1 : Int)) % 1000000000 := mul_cast_mod z x y c1
          have e2 : ((((z + x * y + c1) / Bs : Nat) : Int)) = ((z : Int) + (x : Int) * (y : Int) + (c1 : Int)) / 1000000000 := mul_cast_div z x y c1
          rw [e1] at hO1
          have e2 := Lib.hid e2; rename_i e2o; clear e2o e1
          go_wp2_with fail
          go_roundw
          case rel => exact ⟨q + 1, _, _, by omega, by go_num, by rw [e2.out], hstep, hO1, hbw.set (Nat.le_refl _) _⟩
          case measure => simp [intOf]; omega
        · obtain rfl : q = m := by omega
          have hkm : ((k : Int) + (q : Int)) < ((n : Int) + (q : Int)) := by omega
          have hkm' : k + q < n + q := by omega
          have hcell := hO.cell (k := k + q) (by rw [ints_len, hin.len]; omega)
          rw [ix_ints, hin.rest _ (Nat.le_refl _)] at hcell
          have hfr := hO.frozen (k + q)
          have hstop := hin.stop hNk.out hb.lenN hkn hmul0.out
          have hO1 := hO.set (k + q) (c1 : Int)
          rw [← ints_set] at hO1
          go_wp2_with fail
          go_roundw
          case rel => exact ⟨k + 1, _, by omega, by go_num, hstop, hO1, hbw.set (Nat.le_refl _) _⟩
          case measure => simp [intOf]; omega
    · obtain rfl : k = n := by omega
      have hv := Lib.hid (show val o = N * M by rw [hmul.prod, val_vf (by rw [ha.lenN]; omega), val_dig])
      have hlen := hmul.len
      go_wp2_with fail
      refine (trimmed_any _ (l := o) (RdI.of_ow hO (by rw [ints_len]; exact hlen) (by omega)) hmul.digs).mono ?_
      rintro e w1 ⟨m', rfl, hm', ht, hq⟩
      rw [hv.out] at ht
      have hO1 := (OwI.of_ow (c := k + m) hO (Nat.le_refl _) (by rw [ints_len]; exact hlen) (by omega) hm' ht).q hq
      have hbw1 := hbw.next (q_bl hq)
      go_wp2_with fail
      go_ret
      exact ⟨_, _, _, rfl, hO1, hbw1⟩
end

section
open Go.RowKit

theorem wpList_append_all {P : Program} {E t : TypeId} (hinfo : (P.info? E).map (fun i => (i.zero, i.size, i.bytes)) = some (some (.int .i64 0), 1, 8)) (ht : P.underlying t = some (.slice E))
    {w0 W : World} {ops : Array Oper} {rest : List Oper} {o : Oper} {a : Act} {Q : Exit → Act → World → Prop} (hgd : o.guard = none) (s x : Operand)
    (ho : o.op = .call { callee := .builtin .append, args := #[s, x], argTypes := #[t, t] }) (v : Value) (l : List Int) (hs : a.eval s = v) (hown : OwL E w0.heap.size W v l) (hb : Bl w0 W)
    (ad : Addr) (m c : Nat) (hx : a.eval x = .slice (some ad) m c) (ys : List Int) (hr : RdI W (some ad) m c ys) (hlen : l.length ≤ 1099511627776) (hm : m ≤ 1099511627776)
    (h : ∀ v' w', OwL E w0.heap.size w' v' (l ++ ys) → Bl w0 w' → wpList P ops Q rest (a.put o.dst v') w') : wpList P ops Q (o :: rest) a W := by
  obtain ⟨i0, hi, hz0, hz1, hz2⟩ := info_parts hinfo
  refine wpList_append_own _ hgd s x t ho w0.heap.size E i0 (.int .i64 0) 1 8 ht hi hz0 hz1 hz2 rfl (by omega) v l.length (l.map (Value.int .i64)) hs hown ad m c (ys.map (Value.int .i64)) hx (by simp [hr.len]) ?_ (by intro u hu; simp at hu; obtain ⟨z, _, rfl⟩ := hu; rfl) (by simp only [maxLen]; omega) (by omega) hb.size ?_
  · intro j u hu
    rw [List.getElem?_map] at hu
    have hj : j < m := by
      rcases Nat.lt_or_ge j ys.length with h | h
      · rw [hr.len] at h; exact h
      · rw [List.getElem?_eq_none h] at hu; simp at hu
    obtain ⟨ad', e, _, hc⟩ := hr.at_ hj
    injection e with e
    subst e
    rw [hc]
    rw [List.getElem?_eq_getElem (by rw [hr.len]; exact hj)] at hu
    simp at hu
    rw [← hu]
    simp [ix, hr.len, hj]
  · intro v' w' h1 h2 _
    refine h v' w' ?_ (hb.grown h2 hown.blockLe)
    unfold OwL
    rw [List.length_append, hr.len]
    simpa using h1

set_option maxHeartbeats 1600000 in
theorem Clone_any (w : World) {A : Option Addr} {n c : Nat} {l : List Int} (h : RdI w A n c l) (hn : n ≤ 1048576) :
    Calls Tryz.prog 108 #[.slice A n c] w fun e w' => ∃ A' n' c', e = .returned (.slice A' n' c') ∧ OwI 3 w.heap.size w' A' n' c' l ∧ Bl w w' := by
  have he : ∀ W a n c, (binOp .eql 22 (.slice a n c) (.slice none 0 0)).run Tryz.prog W = .ok (.bool a.isNone) W := fun W a n c => Lib.run_eql_slice_nil W 22 3 a n c 0 0 Tryz.underlying22
  have hl := Lib.hid h.len
  rcases A with _ | ad
  · have hn0 : n = 0 := by
      rcases Nat.eq_zero_or_pos n with h0 | h0
      · exact h0
      · obtain ⟨_, e, _⟩ := h.at_ h0
        cases e
    subst hn0
    have hl0 : l = [] := List.length_eq_zero_iff.1 hl.out
    subst hl0
    go_enter Tryz.func108, Tryz.ntmps108
    go_wp2
    go_ret
    exact ⟨none, 0, 0, rfl, OwI.nil _ _ _ _, Bl.refl _⟩
  · go_enter Tryz.func108, Tryz.ntmps108
    go_wp2_with (at_builtin; go_must (refine wpList_append_all (w0 := w) info_int Tryz.underlying22 rfl (.tmp 5) (.tmp 6) rfl _ [] rfl (OwL.empty w (Nat.le_refl _) (by simp)) ((Bl.refl w).alloc _) ad n c rfl l (h.alloc _) (by simp) (by omega) ?_); intro v' w1 hown1 hbw1)
    obtain ⟨A', c', hv, ho⟩ := hown1.own (by have := hl.out; simp; omega)
    go_ret
    exact ⟨A', _, c', congrArg Ending.returned hv, ho, hbw1⟩
end

section
open Go.RowKit

/-- What holds behind k rounds of a subtraction. -/
structure SubRel (N M n k br : Nat) (o : List Nat) : Prop where
  len : o.length = n
  digs : Digs o
  small : br ≤ 1
  diff : vf (dx o) k + vf (dx (dig M)) k = vf (dx (dig N)) k + br * Bs ^ k
  same : ∀ j, k ≤ j → dx o j = dx (dig N) j
theorem SubRel.start {N M n : Nat} (h : (dig N).length = n) : SubRel N M n 0 0 (dig N) := ⟨h, digs_dig N, by omega, by simp [vf], fun _ _ => rfl⟩
theorem SubRel.step {N M n k br d br' : Nat} {o : List Nat} (h : SubRel N M n k br o) (hk : k < n) (hd : d < Bs) (hb : br' ≤ 1) (he : d + br + dx (dig M) k = dx (dig N) k + br' * Bs) : SubRel N M n (k + 1) br' (o.set k d) := by
  have hi : k < o.length := by rw [h.len]; exact hk
  refine ⟨by rw [List.length_set]; exact h.len, digs_set h.digs hd _, hb, ?_, fun j hj => ?_⟩
  · have h1 : vf (dx (o.set k d)) k = vf (dx o) k := vf_congr fun i hi' => by rw [dx_set hi, if_neg (by omega)]
    have h2 := h.diff
    simp only [vf]
    rw [h1, dx_set hi, if_pos rfl, Nat.pow_succ]
    have h3 : (d + br + dx (dig M) k) * Bs ^ k = (dx (dig N) k + br' * Bs) * Bs ^ k := by rw [he]
    grind
  · rw [dx_set hi, if_neg (by omega)]
    exact h.same j (by omega)
theorem SubRel.stop {N M n br : Nat} {o : List Nat} (h : SubRel N M n n br o) (hn : (dig N).length = n) (hm : (dig M).length ≤ n) (hle : M ≤ N) : val o = N - M := by
  have h1 := h.diff
  rw [val_vf (by rw [h.len]; exact Nat.le_refl _), val_vf hm, val_vf (by omega), val_dig, val_dig] at h1
  have h2 := val_lt h.digs
  rw [h.len] at h2
  have h3 := h.small
  rcases Nat.eq_zero_or_pos br with h0 | h0
  · subst h0; omega
  · obtain rfl : br = 1 := by omega
    omega
theorem dig_len_mono {M N : Nat} (h : M ≤ N) : (dig M).length ≤ (dig N).length := by
  have := val_lt (digs_dig N)
  rw [val_dig] at this
  exact dig_len_le.2 (by omega)

theorem ix_set {l : List Int} {k : Nat} (h : k < l.length) (x : Int) : ix (l.set k x) k = x := by simp [ix, h]
theorem Pre.drew1 {T : TypeId} {w : World} {g : Nat} {l : List Int} (h : Pre T w g l) : Pre T w.drew g l := h

set_option maxRecDepth 100000 in
set_option maxHeartbeats 8000000 in
theorem natSub_any (w : World) {A B : Option Addr} {n m c d N M : Nat} (ha : IsN w A n c N) (hb : IsN w B m d M) (hn : n ≤ 1048576) (hle : M ≤ N) :
    Calls Tryz.prog 202 #[.slice A n c, .slice B m d] w fun e w' => ∃ A' n' c', e = .returned (.slice A' n' c') ∧ OwI 3 w.heap.size w' A' n' c' (ints (dig (N - M))) ∧ Bl w w' := by
  have hm1 := dig_len_mono hle
  rw [ha.lenN, hb.lenN] at hm1
  go_enter Tryz.func202, Tryz.ntmps202
  go_wp2_with fail
  refine (Clone_any _ ha hn).mono ?_
  rintro e w1 ⟨A1, n1, c1, rfl, hown, hb1⟩
  obtain rfl : n1 = n := by have := hown.rd.lenN; have := ha.lenN; omega
  rcases Nat.eq_zero_or_pos n1 with h0 | h0
  · subst h0
    have hN : N = 0 := by
      have := ha.lenN
      exact dig_nil.1 (List.length_eq_zero_iff.1 this)
    have hv := Lib.hid (show dig (N - M) = [] by rw [hN, Nat.zero_sub, dig_zero])
    go_wp2_with fail
    go_loop [6, 12] (fun _ i => i = .int .i64 0) (fun _ _ => 0)
    case atStart => exact rfl
    case round =>
      obtain rfl := hrel
      go_wp2_with fail
      refine (trimmed_any _ (l := []) (RdI.nil _ A1 c1) (fun d hd => by cases hd)).mono ?_
      rintro e w2 ⟨m', rfl, hm', ht, hq⟩
      obtain rfl : m' = 0 := by omega
      have hbw1 := hb1.next (q_bl hq)
      go_wp2_with fail
      go_ret
      exact ⟨_, _, _, rfl, by rw [hv.out]; exact OwI.nil _ _ _ _, hbw1⟩
  · obtain ⟨g, rfl, hg, hpre⟩ := hown.pre h0
    have hcap := hown.rd.cap
    clear hown
    go_wp2_with fail
    go_loopw [6, 12] (fun b i wr => ∃ (k br : Nat) (o : List Nat), k ≤ n1 ∧ i = .int .i64 (k : Int) ∧ b = .int .i64 (br : Int) ∧ SubRel N M n1 k br o ∧ Pre 3 wr g (ints o) ∧ Bl w wr) (fun _ i _ => n1 - (intOf i).toNat)
    case atStart => exact ⟨0, 0, dig N, Nat.zero_le _, rfl, rfl, SubRel.start ha.lenN, hpre, hb1⟩
    case round =>
      clear hpre hb1
      obtain ⟨k, br, o, hk, rfl, rfl, hrel, hpre, hbw⟩ := hrel
      by_cases hkn : k < n1
      · have hki : (k : Int) < (n1 : Int) := by omega
        have hbr := hrel.small
        have hcell := hpre.cell (k := k) (by rw [ints_len, hrel.len]; exact hkn)
        have hfr := hpre.frozen k
        rw [ix_ints, hrel.same k (Nat.le_refl _)] at hcell
        have bz := dx_lt (digs_dig N) k
        have bz' := Lib.hid (rfl : dx (dig N) k = dx (dig N) k)
        have bym := dx_lt (digs_dig M) k
        rw [Bs_eq] at bz bym
        have hst := fun d br' h1 h2 h3 => hrel.step (d := d) (br' := br') hkn h1 h2 h3
        generalize dx (dig N) k = z at *
        obtain ⟨y, hy⟩ : ∃ y, y = dx (dig M) k := ⟨_, rfl⟩
        rw [← hy] at hst bym
        have hy := Lib.hid hy.symm; rename_i hyo; clear hyo
        by_cases hkm : k < m
        · have hkj : (k : Int) < (m : Int) := by omega
          have hpre1 := hpre.set_ (k := k) (by rw [ints_len, hrel.len]; exact hkn) ((z : Int) - (br : Int))
          go_wp2_with fail
          refine wp_gen (fun W => Bl w W ∧ Pre 3 W g ((ints o).set k ((z : Int) - (br : Int)))) ⟨slc, hpre1⟩ ?_
          rintro W ⟨hbW, hpW⟩
          have hcW := hpW.cell (k := k) (by rw [List.length_set, ints_len, hrel.len]; exact hkn)
          rw [ix_set (by rw [ints_len, hrel.len]; exact hkn)] at hcW
          have hfW := hpW.frozen k
          obtain ⟨bd, rfl, hltb, hcb⟩ := (hb.bl hbW).atN hkm
          rw [hy.out] at hcb
          have hpre2 := hpW.set_ (k := k) (by rw [List.length_set, ints_len, hrel.len]; exact hkn) ((z : Int) - (br : Int) - (y : Int))
          go_still_tail 10, (by kernel_rfl)
          go_wp2_with fail
          · have ht : (z : Int) - (br : Int) - (y : Int) < 0 := by first | assumption | omega
            have hd : ((z + Bs - br - y : Nat) : Int) = (z : Int) - (br : Int) - (y : Int) + 1000000000 := by rw [Bs_eq] at *; omega
            have hs := hst (z + Bs - br - y) 1 (by rw [Bs_eq]; omega) (by omega) (by rw [Bs_eq]; omega)
            have hp3 := (hpre2.set_ (k := k) (by simp only [List.length_set, ints_len, hrel.len]; exact hkn) ((z : Int) - (br : Int) - (y : Int) + 1000000000)).drew1
            simp only [List.set_set] at hp3
            rw [show (ints o).set k ((z : Int) - (br : Int) - (y : Int) + 1000000000) = ints (o.set k (z + Bs - br - y)) from by rw [ints_set, hd]] at hp3
            go_roundw
            case rel => exact ⟨k + 1, 1, _, by omega, by go_num, rfl, hs, hp3, slc⟩
            case measure => simp [intOf]; omega
          · have ht : ¬ (z : Int) - (br : Int) - (y : Int) < 0 := by first | assumption | omega
            have hd : ((z - br - y : Nat) : Int) = (z : Int) - (br : Int) - (y : Int) := by omega
            have hs := hst (z - br - y) 0 (by rw [Bs_eq]; omega) (by omega) (by rw [Bs_eq]; omega)
            have hp3 := hpre2.drew1
            try simp only [List.set_set] at hp3
            rw [show (ints o).set k ((z : Int) - (br : Int) - (y : Int)) = ints (o.set k (z - br - y)) from by rw [ints_set, hd]] at hp3
            go_roundw
            case rel => exact ⟨k + 1, 0, _, by omega, by go_num, rfl, hs, hp3, slc⟩
            case measure => simp [intOf]; omega
        · have hy0 : dx (dig M) k = 0 := dx_beyond (by rw [hb.lenN]; omega)
          have hkj : ¬ (k : Int) < (m : Int) := by omega
          have hyz : y = 0 := by rw [← hy.out]; exact hy0
          clear hy hy0
          subst hyz
          have hpre1 := hpre.set_ (k := k) (by rw [ints_len, hrel.len]; exact hkn) ((z : Int) - (br : Int))
          go_wp2_with fail
          · have ht : (z : Int) - (br : Int) < 0 := by first | assumption | omega
            have hd : ((z + Bs - br : Nat) : Int) = (z : Int) - (br : Int) + 1000000000 := by rw [Bs_eq] at *; omega
            have hs := hst (z + Bs - br) 1 (by rw [Bs_eq]; omega) (by omega) (by rw [Bs_eq]; omega)
            have hp3 := (hpre1.set_ (k := k) (by simp only [List.length_set, ints_len, hrel.len]; exact hkn) ((z : Int) - (br : Int) + 1000000000))
            simp only [List.set_set] at hp3
            rw [show (ints o).set k ((z : Int) - (br : Int) + 1000000000) = ints (o.set k (z + Bs - br)) from by rw [ints_set, hd]] at hp3
            go_roundw
            case rel => exact ⟨k + 1, 1, _, by omega, by go_num, rfl, hs, hp3, slc⟩
            case measure => simp [intOf]; omega
          · have ht : ¬ (z : Int) - (br : Int) < 0 := by first | assumption | omega
            have hd : ((z - br : Nat) : Int) = (z : Int) - (br : Int) := by omega
            have hs := hst (z - br) 0 (by rw [Bs_eq]; omega) (by omega) (by rw [Bs_eq]; omega)
            have hp3 := hpre1
            try simp only [List.set_set] at hp3
            rw [show (ints o).set k ((z : Int) - (br : Int)) = ints (o.set k (z - br)) from by rw [ints_set, hd]] at hp3
            go_roundw
            case rel => exact ⟨k + 1, 0, _, by omega, by go_num, rfl, hs, hp3, slc⟩
            case measure => simp [intOf]; omega
      · obtain rfl : k = n1 := by omega
        have hv := Lib.hid (hrel.stop ha.lenN (by rw [hb.lenN]; omega) hle)
        have hlen := hrel.len
        have hdg := hrel.digs
        clear hrel
        go_wp2_with fail
        refine (trimmed_any _ (l := o) (hpre.rd (c := c1) (by rw [ints_len]; exact hlen) (by omega) hcap) hdg).mono ?_
        rintro e w2 ⟨m', rfl, hm', ht, hq⟩
        rw [hv.out] at ht
        have hO1 := (hpre.cutN hg hlen (by omega) hcap hm' ht).q hq
        have hbw1 := hbw.next (q_bl hq)
        go_wp2_with fail
        go_ret
        exact ⟨_, _, _, rfl, hO1, hbw1⟩
end

end Go.Proofs.YtjaapemopbbfaaaGreatDoor
