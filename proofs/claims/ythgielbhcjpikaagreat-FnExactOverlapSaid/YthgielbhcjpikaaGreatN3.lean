import Derived.Test.YthgielbhcjpikaaGreatRows
import Derived.Test.YthgielbhcjpikaaGreatN2
namespace Go.Proofs.YthgielbhcjpikaaGreat
open Go.RowKit

theorem add_step {o : List Nat} {k cr sx sy x y : Nat} (h : val o + cr * Bs ^ k = sx + sy) (hl : o.length = k) :
    val (o ++ [(x + cr + y) % Bs]) + ((x + cr + y) / Bs) * Bs ^ (k + 1) = (sx + x * Bs ^ k) + (sy + y * Bs ^ k) := by
  rw [val_snoc, hl, Nat.pow_succ]
  have hdm := Nat.mod_add_div (x + cr + y) Bs
  generalize (x + cr + y) % Bs = r at *
  generalize (x + cr + y) / Bs = q at *
  have : (r + Bs * q) * Bs ^ k = (x + cr + y) * Bs ^ k := by rw [hdm]
  grind
theorem add_end {o : List Nat} {cr N M : Nat} (h : val o + cr * Bs ^ o.length = N + M) (hd : Digs o) (hc : cr < Bs) (hl : (dig N).length = o.length) : (if 0 < cr then o ++ [cr] else o) = dig (N + M) := by
  split
  · next hp =>
    rw [← h, ← val_snoc]
    refine (dig_val (canon_of_last (digs_snoc hd hc) fun _ => ?_)).symm
    rw [List.length_append]
    simp [dx]; omega
  · next hp =>
    obtain rfl : cr = 0 := by omega
    have h' : val o = N + M := by simpa using h
    rw [← h']
    refine (dig_val (canon_of_lower hd fun e => ?_)).symm
    have hne : dig N ≠ [] := by
      intro e'
      rw [e'] at hl
      exact e (List.length_eq_zero_iff.1 hl.symm)
    have := canon_lower (canon_dig N) hne
    rw [val_dig, hl] at this
    omega
theorem add_bound {x y cr : Nat} (hx : x < Bs) (hy : y < Bs) (hc : cr ≤ 1) : (x + cr + y) / Bs ≤ 1 := by
  rw [Bs_eq] at *; omega

/-- What holds behind k rounds of an addition. -/
structure AddRel (N M k c : Nat) (o : List Nat) : Prop where
  len : o.length = k
  digs : Digs o
  sum : val o + c * Bs ^ k = vf (dx (dig N)) k + vf (dx (dig M)) k
theorem AddRel.zero (N M : Nat) : AddRel N M 0 0 [] := ⟨rfl, (fun d hd => by cases hd), by simp [val, vf]⟩
theorem AddRel.step {N M k c : Nat} {o : List Nat} (h : AddRel N M k c o) : AddRel N M (k + 1) ((dx (dig N) k + c + dx (dig M) k) / Bs) (o ++ [(dx (dig N) k + c + dx (dig M) k) % Bs]) :=
  ⟨by simp [h.len], digs_snoc h.digs (Nat.mod_lt _ Bs_pos), add_step h.sum h.len⟩
theorem AddRel.stop {N M k c : Nat} {o : List Nat} (h : AddRel N M k c o) (hn : (dig N).length = k) (hm : (dig M).length ≤ k) (hc : c < Bs) : (if 0 < c then o ++ [c] else o) = dig (N + M) := by
  have hs := h.sum
  rw [val_vf (by omega), val_vf hm, val_dig, val_dig, ← h.len] at hs
  exact add_end hs h.digs hc (by rw [hn, h.len])

set_option maxHeartbeats 2000000 in
theorem natAdd_any (w : World) {A B : Option Addr} {n m c d N M : Nat} (ha : IsN w A n c N) (hb : IsN w B m d M) (hn : n ≤ 1048576) (hm : m ≤ 1048576) :
    Calls Tryz.prog 194 #[.slice A n c, .slice B m d] w fun e w' => ∃ A' n' c', e = .returned (.slice A' n' c') ∧ OwI 3 w.heap.size w' A' n' c' (ints (dig (N + M))) ∧ Bl w w' := by
  by_cases hnm : m ≤ n
  · have hnmi : ¬ (n : Int) < (m : Int) := by omega
    have hmk := make_ints (P := Tryz.prog) Tryz.underlying28 info_int 0 (n + 1) (by omega) (by omega)
    rw [show (((n + 1 : Nat)) : Int) = (n : Int) + 1 from by omega, show ((0 : Nat) : Int) = 0 from rfl] at hmk
    go_enter Tryz.func194, Tryz.ntmps194
    go_wp2_with fail
    clear hmk
    go_loopw [5, 6, 22] (fun v cr i wr => ∃ (k c : Nat) (o : List Nat), k ≤ n ∧ i = .int .i64 (k : Int) ∧ c ≤ 1 ∧ cr = .int .i64 (c : Int) ∧ AddRel N M k c o ∧ OwL 3 w.heap.size wr v (ints o) ∧ Bl w wr) (fun _ _ i _ => n - (intOf i).toNat)
    case atStart => exact ⟨0, 0, [], Nat.zero_le _, rfl, by omega, rfl, AddRel.zero _ _, OwL.room w (n + 1) (Nat.le_refl _) (by simp only [maxLen]; omega), (Bl.refl w).alloc _⟩
    case round =>
      obtain ⟨k, c1, o, hk, rfl, hc1, rfl, hrel, hown, hbw⟩ := hrel
      by_cases hkn : k < n
      · obtain ⟨ad, rfl, hlta, hca⟩ := (ha.bl hbw).atN hkn
        have hki : (k : Int) < (n : Int) := by omega
        have bx := dx_lt (digs_dig N) k
        have by' := dx_lt (digs_dig M) k
        rw [Bs_eq] at bx by'
        have hlen : (ints o).length ≤ 1099511627776 := by rw [ints_len, hrel.len]; omega
        by_cases hkm : k < m
        · obtain ⟨bd, rfl, hltb, hcb⟩ := (hb.bl hbw).atN hkm
          have hkj : (k : Int) < (m : Int) := by omega
          have hs := hrel.step
          go_wp2_with (at_builtin; go_must (refine wpList_append_int (w0 := w) info_int Tryz.underlying28 rfl (.tmp 42) (.tmp 45) rfl _ (ints o) rfl hown hbw 1 rfl hlen ?_); intro v' w1 hown1 hbw1)
          go_roundw
          case rel => exact ⟨k + 1, (dx (dig N) k + c1 + dx (dig M) k) / Bs, o ++ [(dx (dig N) k + c1 + dx (dig M) k) % Bs], by omega, by go_num, add_bound (dx_lt (digs_dig _) _) (dx_lt (digs_dig _) _) hc1, by rw [Bs_eq]; go_num, hs, by rw [ints_append, Bs_eq]; exact hown1, hbw1⟩
          case measure => simp [intOf]; omega
        · have hz : dx (dig M) k = 0 := dx_beyond (by rw [hb.lenN]; omega)
          have hkj : ¬ (k : Int) < (m : Int) := by omega
          have hs := hrel.step
          rw [hz] at hs by'
          clear hz
          go_wp2_with (at_builtin; go_must (refine wpList_append_int (w0 := w) info_int Tryz.underlying28 rfl (.tmp 42) (.tmp 45) rfl _ (ints o) rfl hown hbw 1 rfl hlen ?_); intro v' w1 hown1 hbw1)
          go_roundw
          case rel => exact ⟨k + 1, (dx (dig N) k + c1) / Bs, o ++ [(dx (dig N) k + c1) % Bs], by omega, by go_num, by rw [Bs_eq]; omega, by rw [Bs_eq]; go_num, hs, by rw [ints_append, Bs_eq]; exact hown1, hbw1⟩
          case measure => simp [intOf]; omega
      · have hend := Lib.hid (hrel.stop (by rw [ha.lenN]; omega) (by rw [hb.lenN]; omega) (by rw [Bs_eq]; omega))
        have hlen : (ints o).length ≤ 1099511627776 := by rw [ints_len, hrel.len]; omega
        by_cases hc0 : 0 < c1
        · have hci : (0 : Int) < (c1 : Int) := by omega
          go_wp2_with (at_builtin; go_must (refine wpList_append_int (w0 := w) info_int Tryz.underlying28 rfl (.tmp 50) (.tmp 52) rfl _ (ints o) rfl hown hbw 1 rfl hlen ?_); intro v' w1 hown1 hbw1)
          obtain ⟨A', c', hv, ho⟩ := hown1.own (by simp; omega)
          have e : ints o ++ [(c1 : Int)] = ints (dig (N + M)) := by
            rw [← hend.out, if_pos hc0, ints_append]; rfl
          go_ret
          exact ⟨A', _, c', congrArg Ending.returned hv, e ▸ ho, hbw1⟩
        · have hci : ¬ (0 : Int) < (c1 : Int) := by omega
          have e : ints o = ints (dig (N + M)) := by
            rw [← hend.out, if_neg hc0]
          obtain ⟨A', c', hv, ho⟩ := hown.own (by omega)
          have hv := Lib.hid hv; rename_i hvo; clear hvo
          have e := Lib.hid e; rename_i eo; clear eo
          go_wp2
          go_ret
          exact ⟨A', _, c', congrArg Ending.returned hv.out, e.out ▸ ho, hbw⟩
  · have hnmi : (n : Int) < (m : Int) := by omega
    have hmk := make_ints (P := Tryz.prog) Tryz.underlying28 info_int 0 (m + 1) (by omega) (by omega)
    rw [show (((m + 1 : Nat)) : Int) = (m : Int) + 1 from by omega, show ((0 : Nat) : Int) = 0 from rfl] at hmk
    go_enter Tryz.func194, Tryz.ntmps194
    go_wp2_with fail
    clear hmk
    go_loopw [5, 6, 22] (fun v cr i wr => ∃ (k c : Nat) (o : List Nat), k ≤ m ∧ i = .int .i64 (k : Int) ∧ c ≤ 1 ∧ cr = .int .i64 (c : Int) ∧ AddRel M N k c o ∧ OwL 3 w.heap.size wr v (ints o) ∧ Bl w wr) (fun _ _ i _ => m - (intOf i).toNat)
    case atStart => exact ⟨0, 0, [], Nat.zero_le _, rfl, by omega, rfl, AddRel.zero _ _, OwL.room w (m + 1) (Nat.le_refl _) (by simp only [maxLen]; omega), (Bl.refl w).alloc _⟩
    case round =>
      obtain ⟨k, c1, o, hk, rfl, hc1, rfl, hrel, hown, hbw⟩ := hrel
      by_cases hkn : k < m
      · obtain ⟨ad, rfl, hlta, hca⟩ := (hb.bl hbw).atN hkn
        have hki : (k : Int) < (m : Int) := by omega
        have bx := dx_lt (digs_dig M) k
        have by' := dx_lt (digs_dig N) k
        rw [Bs_eq] at bx by'
        have hlen : (ints o).length ≤ 1099511627776 := by rw [ints_len, hrel.len]; omega
        by_cases hkm : k < n
        · obtain ⟨bd, rfl, hltb, hcb⟩ := (ha.bl hbw).atN hkm
          have hkj : (k : Int) < (n : Int) := by omega
          have hs := hrel.step
          go_wp2_with (at_builtin; go_must (refine wpList_append_int (w0 := w) info_int Tryz.underlying28 rfl (.tmp 42) (.tmp 45) rfl _ (ints o) rfl hown hbw 1 rfl hlen ?_); intro v' w1 hown1 hbw1)
          go_roundw
          case rel => exact ⟨k + 1, (dx (dig M) k + c1 + dx (dig N) k) / Bs, o ++ [(dx (dig M) k + c1 + dx (dig N) k) % Bs], by omega, by go_num, add_bound (dx_lt (digs_dig _) _) (dx_lt (digs_dig _) _) hc1, by rw [Bs_eq]; go_num, hs, by rw [ints_append, Bs_eq]; exact hown1, hbw1⟩
          case measure => simp [intOf]; omega
        · have hz : dx (dig N) k = 0 := dx_beyond (by rw [ha.lenN]; omega)
          have hkj : ¬ (k : Int) < (n : Int) := by omega
          have hs := hrel.step
          rw [hz] at hs by'
          clear hz
          go_wp2_with (at_builtin; go_must (refine wpList_append_int (w0 := w) info_int Tryz.underlying28 rfl (.tmp 42) (.tmp 45) rfl _ (ints o) rfl hown hbw 1 rfl hlen ?_); intro v' w1 hown1 hbw1)
          go_roundw
          case rel => exact ⟨k + 1, (dx (dig M) k + c1) / Bs, o ++ [(dx (dig M) k + c1) % Bs], by omega, by go_num, by rw [Bs_eq]; omega, by rw [Bs_eq]; go_num, hs, by rw [ints_append, Bs_eq]; exact hown1, hbw1⟩
          case measure => simp [intOf]; omega
      · have hend := Lib.hid (hrel.stop (by rw [hb.lenN]; omega) (by rw [ha.lenN]; omega) (by rw [Bs_eq]; omega))
        have hlen : (ints o).length ≤ 1099511627776 := by rw [ints_len, hrel.len]; omega
        by_cases hc0 : 0 < c1
        · have hci : (0 : Int) < (c1 : Int) := by omega
          go_wp2_with (at_builtin; go_must (refine wpList_append_int (w0 := w) info_int Tryz.underlying28 rfl (.tmp 50) (.tmp 52) rfl _ (ints o) rfl hown hbw 1 rfl hlen ?_); intro v' w1 hown1 hbw1)
          obtain ⟨A', c', hv, ho⟩ := hown1.own (by simp; omega)
          have e : ints o ++ [(c1 : Int)] = ints (dig (N + M)) := by
            rw [Nat.add_comm N M, ← hend.out, if_pos hc0, ints_append]; rfl
          go_ret
          exact ⟨A', _, c', congrArg Ending.returned hv, e ▸ ho, hbw1⟩
        · have hci : ¬ (0 : Int) < (c1 : Int) := by omega
          have e : ints o = ints (dig (N + M)) := by
            rw [Nat.add_comm N M, ← hend.out, if_neg hc0]
          obtain ⟨A', c', hv, ho⟩ := hown.own (by omega)
          have hv := Lib.hid hv; rename_i hvo; clear hvo
          have e := Lib.hid e; rename_i eo; clear eo
          go_wp2
          go_ret
          exact ⟨A', _, c', congrArg Ending.returned hv.out, e.out ▸ ho, hbw⟩

end Go.Proofs.YthgielbhcjpikaaGreat
