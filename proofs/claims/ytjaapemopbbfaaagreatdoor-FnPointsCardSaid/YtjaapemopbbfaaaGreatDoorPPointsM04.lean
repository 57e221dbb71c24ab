/- Lemmas. -/
import Derived.Test.YtjaapemopbbfaaaGreatDoorRows
import Derived.Test.YtjaapemopbbfaaaGreatDoorPPointsM01
import Derived.Test.YtjaapemopbbfaaaGreatDoorPPointsM02
namespace Go.Proofs.YtjaapemopbbfaaaGreatDoor
section
open Go.RowKit

theorem ix_ints (l : List Nat) (k : Nat) : ix (ints l) k = (dx l k : Int) := by
  unfold ix ints dx
  rw [List.getD_eq_getElem?_getD, List.getD_eq_getElem?_getD, List.getElem?_map]
  cases l[k]? <;> rfl
/-- The slice reads as the limbs of N. -/
abbrev IsN (w : World) (A : Option Addr) (n c N : Nat) : Prop := RdI w A n c (ints (dig N))
theorem RdI.atN {w : World} {A : Option Addr} {n c : Nat} {l : List Nat} (h : RdI w A n c (ints l)) {k : Nat} (hk : k < n) :
    ∃ ad, A = some ad ∧ ad.block < w.heap.size ∧ w.cell? (ad.add k) = some (.int .i64 ((dx l k : Nat) : Int)) := by
  obtain ⟨ad, e, hlt, hc⟩ := h.at_ hk
  exact ⟨ad, e, hlt, by rw [hc, ix_ints]⟩
theorem RdI.lenN {w : World} {A : Option Addr} {n c : Nat} {l : List Nat} (h : RdI w A n c (ints l)) : l.length = n := by
  have := h.len
  rwa [ints_len] at this
theorem RdI.cut {w : World} {A : Option Addr} {n c m : Nat} {l : List Nat} (h : RdI w A n c (ints l)) (hm : m ≤ n) : RdI w A m c (ints (l.take m)) :=
  ⟨by rw [ints_len, List.length_take, h.lenN]; omega, Nat.le_trans hm h.cap, Nat.le_trans hm h.small, fun k hk => by
    obtain ⟨ad, e, hlt, hc⟩ := h.atN (k := k) (by omega)
    exact ⟨ad, e, hlt, by rw [hc, ix_ints, dx_take hk]⟩⟩

theorem RdI.of_ow {T : TypeId} {w : World} {g n c : Nat} {l : List Int} (h : Ow T w g l) (hl : l.length = n) (hn : n ≤ 9223372036854775807) (hc : n ≤ c := by omega) : RdI w (some ⟨g, 0, none⟩) n c l := by
  subst hl
  exact h.rd hn hc
/-- A block of limbs, cut behind its last limb that is not 0. -/
theorem OwI.of_ow {T : TypeId} {w : World} {b0 g n c m N : Nat} {l : List Nat} (h : Ow T w g (ints l)) (hg : b0 ≤ g) (hl : (ints l).length = n) (hn : n ≤ 9223372036854775807) (hm : m ≤ n) (ht : l.take m = dig N) (hc : n ≤ c := by omega) : OwI T b0 w (some ⟨g, 0, none⟩) m c (ints (dig N)) := by
  have hr := (RdI.of_ow (c := c) h hl hn hc).cut hm
  rw [ht] at hr
  exact ⟨hr, .inr ⟨g, _, rfl, hg, h, by simp; omega⟩⟩
theorem OwI.q {T : TypeId} {w w' : World} {b0 : Nat} {A : Option Addr} {n c : Nat} {l : List Int} (h : OwI T b0 w A n c l) (hq : ∃ q, w' = w.drewN q) : OwI T b0 w' A n c l := h.bl (q_bl hq)

/-- Block g begins with the ints l, none frozen. -/
def Pre (T : TypeId) (w : World) (g : Nat) (l : List Int) : Prop := ∃ r : List Value, w.heap[g]? = some (.cells (l.map (Value.int .i64) ++ r).toArray T (0, 0))
section
variable {T : TypeId} {w W : World} {g : Nat} {l : List Int}
theorem Ow.pre (h : Ow T w g l) : Pre T w g l := ⟨[], by rw [List.append_nil]; exact h⟩
theorem Pre.lt (h : Pre T w g l) : g < w.heap.size := by
  obtain ⟨r, h⟩ := h
  exact heap_lt h
theorem Pre.cell (h : Pre T w g l) {k : Nat} (hk : k < l.length) : w.cell? ⟨g, k, none⟩ = some (.int .i64 (ix l k)) := by
  obtain ⟨r, h⟩ := h
  rw [cell_of_row w g k _ T (0, 0) h]
  simp [ix, hk, List.getElem?_append]
theorem Pre.frozen (h : Pre T w g l) (k : Nat) : w.frozen? ⟨g, k, none⟩ = false := by
  obtain ⟨r, h⟩ := h
  simp [World.frozen?, h]
theorem Pre.set_ (h : Pre T w g l) {k : Nat} (hk : k < l.length) (x : Int) : Pre T (w.setCell ⟨g, k, none⟩ (.int .i64 x)) g (l.set k x) := by
  obtain ⟨r, h⟩ := h
  refine ⟨r, ?_⟩
  simp only [World.setCell, Array.getElem?_modify, h]
  simp [hk, List.map_set]
theorem Pre.far (h : Pre T w g l) {p : Addr} (hp : g ≠ p.block) (u : Value) : Pre T (w.setCell p u) g l := by
  obtain ⟨r, h⟩ := h
  exact ⟨r, (Below.heap_setCell w p u g hp).trans h⟩
theorem Pre.bl (h : Pre T w g l) (hb : Bl w W) : Pre T W g l := by
  obtain ⟨r, h⟩ := h
  exact ⟨r, (Below.block hb g (heap_lt h)).trans h⟩
theorem Pre.rd (h : Pre T w g l) {n c : Nat} (hl : l.length = n) (hn : n ≤ 9223372036854775807) (hc : n ≤ c) : RdI w (some ⟨g, 0, none⟩) n c l :=
  ⟨hl, hc, hn, fun k hk => ⟨⟨g, 0, none⟩, rfl, h.lt, by
    rw [Addr.add_lit, Nat.zero_add]
    exact h.cell (by rw [hl]; exact hk)⟩⟩
theorem Pre.cutN {n c m b0 N : Nat} {l : List Nat} (h : Pre T w g (ints l)) (hg : b0 ≤ g) (hl : l.length = n) (hn : n ≤ 9223372036854775807) (hc : n ≤ c) (hm : m ≤ n) (ht : l.take m = dig N) : OwI T b0 w (some ⟨g, 0, none⟩) m c (ints (dig N)) := by
  have hr := (h.rd (c := c) (by rw [ints_len]; exact hl) hn hc).cut hm
  rw [ht] at hr
  obtain ⟨r, h⟩ := h
  exact ⟨hr, .inr ⟨g, _, rfl, hg, h, by simp [ints_len]; omega⟩⟩
theorem OwI.pre {b0 : Nat} {A : Option Addr} {n c : Nat} (h : OwI T b0 w A n c l) (h0 : 0 < n) : ∃ g, A = some ⟨g, 0, none⟩ ∧ b0 ≤ g ∧ Pre T w g l := by
  obtain ⟨hr, h2⟩ := h
  rcases h2 with h2 | ⟨g, cs, rfl, hg, hh, hn⟩
  · omega
  · refine ⟨g, rfl, hg, cs.toList.drop n, ?_⟩
    rw [hh]
    congr 2
    apply Array.toList_inj.1
    simp only []
    apply List.ext_getElem?
    intro i
    rcases Nat.lt_or_ge i n with hi | hi
    · rw [List.getElem?_append_left (by simp [hr.len, hi])]
      obtain ⟨ad, e, _, hc⟩ := hr.at_ hi
      injection e with e
      subst e
      rw [Addr.add_lit, Nat.zero_add, cell_of_row w g i cs T (0, 0) hh] at hc
      rw [Array.getElem?_toList, hc]
      simp [ix, hr.len, hi]
    · rw [List.getElem?_append_right (by simp [hr.len, hi])]
      simp [hr.len, hi]
end

theorem zero_step {l : List Nat} {m : Nat} (h : ∀ j, m + 1 ≤ j → dx l j = 0) (h0 : dx l m = 0) : ∀ j, m ≤ j → dx l j = 0 := by
  intro j hj
  rcases Nat.eq_or_lt_of_le hj with rfl | hlt
  · exact h0
  · exact h j hlt

set_option maxHeartbeats 1600000 in
theorem trimmed_any (w : World) {A : Option Addr} {n c : Nat} {l : List Nat} (h : RdI w A n c (ints l)) (hd : Digs l) :
    Calls Tryz.prog 141 #[.slice A n c] w fun e w' => ∃ m, e = .returned (.slice A m c) ∧ m ≤ n ∧ l.take m = dig (val l) ∧ ∃ q, w' = w.drewN q := by
  have hn := h.small
  have hcap := h.cap
  have hl := Lib.hid h.lenN
  go_enter Tryz.func141, Tryz.ntmps141
  go_wp2
  go_loop [0] (fun v => ∃ m, v = .slice A m c ∧ m ≤ n ∧ ∀ j, m ≤ j → dx l j = 0) (fun v => match v with | .slice _ m _ => m | _ => 0)
  case atStart => exact ⟨n, rfl, Nat.le_refl _, fun j hj => dx_beyond (by rw [hl.out]; exact hj)⟩
  case round =>
    obtain ⟨m, rfl, hm, hz⟩ := hrel
    have hz := Lib.hid hz; rename_i hzo; clear hzo
    rcases m with _ | m
    · have hfin := Lib.hid (trim_dig hd (Nat.zero_le _) hz.out (.inl rfl))
      go_wp2
      go_ret
      exact ⟨0, rfl, Nat.zero_le _, hfin.out, 0, rfl⟩
    · obtain ⟨ad, rfl, hlt, hc⟩ := h.atN (k := m) (by omega)
      have hki : ((m + 1 : Nat) : Int) - 1 = (m : Int) := by omega
      have hmc : m ≤ c := by omega
      by_cases h0 : dx l m = 0
      · have hz' := Lib.hid (zero_step hz.out h0)
        rw [h0] at hc
        have h0' := Lib.hid h0; clear h0
        go_wp2
        go_round
        case rel => exact ⟨m, rfl, by omega, hz'.out⟩
        case measure => simp
      · have hfin := Lib.hid (trim_dig hd (by rw [hl.out]; exact hm) hz.out (.inr h0))
        have hbeq : (((dx l m : Nat) : Int) == 0) = false := by simp; omega
        clear h0
        go_wp2
        go_ret
        exact ⟨m + 1, rfl, hm, hfin.out, 0, rfl⟩
end

section
open Go.RowKit

theorem natOf_step {d : List Nat} {R N : Nat} (h : d ++ dig R = dig N) (h0 : 0 < R) : (d ++ [R % Bs]) ++ dig (R / Bs) = dig N := by
  rw [List.append_assoc, List.singleton_append, ← dig_pos (by omega)]; exact h

set_option maxHeartbeats 1600000 in
theorem natOf_any (w : World) (N : Nat) (hN : N < 18446744073709551616) :
    Calls Tryz.prog 150 #[.int .u64 (N : Int)] w fun e w' => ∃ A n c, e = .returned (.slice A n c) ∧ OwI 3 w.heap.size w' A n c (ints (dig N)) ∧ Bl w w' := by
  go_enter Tryz.func150, Tryz.ntmps150
  go_wp2
  go_loopw [0, 3] (fun r v wr => ∃ (R : Nat) (d : List Nat), r = .int .u64 (R : Int) ∧ R ≤ N ∧ d ++ dig R = dig N ∧ OwL 3 w.heap.size wr v (ints d) ∧ Bl w wr) (fun r _ _ => (intOf r).toNat)
  case atStart => exact ⟨N, [], rfl, Nat.le_refl _, rfl, OwL.empty w (Nat.le_refl _) (by simp), (Bl.refl w).alloc _⟩
  case round =>
    obtain ⟨R, d, rfl, hR, hd, hown, hbw⟩ := hrel
    have hd := Lib.hid hd; rename_i hdo; clear hdo
    by_cases h0 : 0 < R
    · have hnext := Lib.hid (natOf_step hd.out h0)
      have hlen : (ints d).length ≤ 1099511627776 := by
        have := congrArg List.length hd.out
        have h3 : (dig N).length ≤ 3 := dig_len_le.2 (by rw [Bs_eq]; omega)
        rw [List.length_append] at this
        rw [ints_len]; omega
      have hpos : (0 : Int) < (R : Int) := by omega
      have hdiv := Nat.div_lt_self h0 (show 1 < 1000000000 by omega)
      go_wp2_with (at_builtin; go_must (refine wpList_append_int (w0 := w) info_int Tryz.underlying22 rfl (.tmp 9) (.tmp 13) rfl _ (ints d) rfl hown hbw 1 rfl hlen ?_); intro v' w1 hown1 hbw1)
      go_roundw
      case rel => exact ⟨R / Bs, d ++ [R % Bs], by rw [Bs_eq]; go_num, Nat.le_trans (Nat.div_le_self _ _) hR, hnext.out, by rw [ints_append, Bs_eq]; exact hown1, hbw1⟩
      case measure => simp [intOf]; omega
    · obtain rfl : R = 0 := by omega
      have hfin := Lib.hid (show d = dig N by have := hd.out; rwa [dig_zero, List.append_nil] at this)
      have hlen : (ints d).length ≤ 9223372036854775807 := by
        have h3 : (dig N).length ≤ 3 := dig_len_le.2 (by rw [Bs_eq]; omega)
        rw [ints_len, hfin.out]; omega
      obtain ⟨A, c, hv, ho⟩ := hown.own hlen
      have hv := Lib.hid hv; rename_i hvo; clear hvo
      go_wp2
      go_ret
      exact ⟨A, _, c, congrArg Ending.returned hv.out, by rw [← hfin.out]; exact ho, hbw⟩
end

section
open Go.RowKit

theorem add_step {o : List Nat} {k cr sx sy x y : Nat} (h : val o + cr * Bs ^ k = sx + sy) (hl : o.length = k) :
    val (o ++ [(x + cr + y) % Bs]) + ((x + cr + y) / Bs) * Bs ^ (k + 1) = (sx + x * Bs ^ k) + (sy + y * Bs ^ k) := by
  rw [val_snoc, hl, Nat.pow_succ]
  have hdm := Nat.mod_add_div (x + cr + y) Bs
  generalize (x + cr + y) % Bs = r at *
  generalize (x + cr + y) / Bs = q at *
  have : (r + Bs * q) * Bs ^ k = (x + cr + y) * Bs ^ k := by rw [hdm]
  grind
theorem add_end {o : List Nat} {cr N M : Nat} (h : val o + cr * Bs ^ o.length = N + M) (hd : Digs o) (hc : cr < Bs) (hl : (dig N).length = o.length) : (if 0 < cr then o ++ [cr] else o) = dig (N + M) := by
  split
  · next hp =>
    rw [← h, ← val_snoc]
    refine (dig_val (canon_of_last (digs_snoc hd hc) fun _ => ?_)).symm
    rw [List.length_append]
    simp [dx]; omega
  · next hp =>
    obtain rfl : cr = 0 := by omega
    have h' : val o = N + M := by simpa using h
    rw [← h']
    refine (dig_val (canon_of_lower hd fun e => ?_)).symm
    have hne : dig N ≠ [] := by
      intro e'
      rw [e'] at hl
      exact e (List.length_eq_zero_iff.1 hl.symm)
    have := canon_lower (canon_dig N) hne
    rw [val_dig, hl] at this
    omega
theorem add_bound {x y cr : Nat} (hx : x < Bs) (hy : y < Bs) (hc : cr ≤ 1) : (x + cr + y) / Bs ≤ 1 := by
  rw [Bs_eq] at *; omega

/-- What holds behind k rounds of an addition. -/
structure AddRel (N M k c : Nat) (o : List Nat) : Prop where
  len : o.length = k
  digs : Digs o
  sum : val o + c * Bs ^ k = vf (dx (dig N)) k + vf (dx (dig M)) k
theorem AddRel.zero (N M : Nat) : AddRel N M 0 0 [] := ⟨rfl, (fun d hd => by cases hd), by simp [val, vf]⟩
theorem AddRel.step {N M k c : Nat} {o : List Nat} (h : AddRel N M k c o) : AddRel N M (k + 1) ((dx (dig N) k + c + dx (dig M) k) / Bs) (o ++ [(dx (dig N) k + c + dx (dig M) k) % Bs]) :=
  ⟨by simp [h.len], digs_snoc h.digs (Nat.mod_lt _ Bs_pos), add_step h.sum h.len⟩
theorem AddRel.stop {N M k c : Nat} {o : List Nat} (h : AddRel N M k c o) (hn : (dig N).length = k) (hm : (dig M).length ≤ k) (hc : c < Bs) : (if 0 < c then o ++ [c] else o) = dig (N + M) := by
  have hs := h.sum
  rw [val_vf (by omega), val_vf hm, val_dig, val_dig, ← h.len] at hs
  exact add_end hs h.digs hc (by rw [hn, h.len])

set_option maxHeartbeats 8000000 in
theorem natAdd_any (w : World) {A B : Option Addr} {n m c d N M : Nat} (ha : IsN w A n c N) (hb : IsN w B m d M) (hn : n ≤ 1048576) (hm : m ≤ 1048576) :
    Calls Tryz.prog 201 #[.slice A n c, .slice B m d] w fun e w' => ∃ A' n' c', e = .returned (.slice A' n' c') ∧ OwI 3 w.heap.size w' A' n' c' (ints (dig (N + M))) ∧ Bl w w' := by
  by_cases hnm : m ≤ n
  · have hnmi : ¬ (n : Int) < (m : Int) := by omega
    have hmk := make_ints (P := Tryz.prog) Tryz.underlying22 info_int 0 (n + 1) (by omega) (by omega)
    rw [show (((n + 1 : Nat)) : Int) = (n : Int) + 1 from by omega, show ((0 : Nat) : Int) = 0 from rfl] at hmk
    go_enter Tryz.func201, Tryz.ntmps201
    go_wp2_with fail
    clear hmk
    go_loopw [5, 6, 22] (fun v cr i wr => ∃ (k c : Nat) (o : List Nat), k ≤ n ∧ i = .int .i64 (k : Int) ∧ c ≤ 1 ∧ cr = .int .i64 (c : Int) ∧ AddRel N M k c o ∧ OwL 3 w.heap.size wr v (ints o) ∧ Bl w wr) (fun _ _ i _ => n - (intOf i).toNat)
    case atStart => exact ⟨0, 0, [], Nat.zero_le _, rfl, by omega, rfl, AddRel.zero _ _, OwL.room w (n + 1) (Nat.le_refl _) (by simp only [maxLen]; omega), (Bl.refl w).alloc _⟩
    case round =>
      obtain ⟨k, c1, o, hk, rfl, hc1, rfl, hrel, hown, hbw⟩ := hrel
      by_cases hkn : k < n
      · obtain ⟨ad, rfl, hlta, hca⟩ := (ha.bl hbw).atN hkn
        have hki : (k : Int) < (n : Int) := by omega
        have bx := dx_lt (digs_dig N) k
        have by' := dx_lt (digs_dig M) k
        rw [Bs_eq] at bx by'
        have hlen : (ints o).length ≤ 1099511627776 := by rw [ints_len, hrel.len]; omega
        by_cases hkm : k < m
        · obtain ⟨bd, rfl, hltb, hcb⟩ := (hb.bl hbw).atN hkm
          have hkj : (k : Int) < (m : Int) := by omega
          have hs := hrel.step
          go_wp2_with (at_builtin; go_must (refine wpList_append_int (w0 := w) info_int Tryz.underlying22 rfl (.tmp 42) (.tmp 45) rfl _ (ints o) rfl hown hbw 1 rfl hlen ?_); intro v' w1 hown1 hbw1)
          go_roundw
          case rel => exact ⟨k + 1, (dx (dig N) k + c1 + dx (dig M) k) / Bs, o ++ [(dx (dig N) k + c1 + dx (dig M) k) % Bs], by omega, by go_num, add_bound (dx_lt (digs_dig _) _) (dx_lt (digs_dig _) _) hc1, by rw [Bs_eq]; go_num, hs, by rw [ints_append, Bs_eq]; exact hown1, hbw1⟩
          case measure => simp [intOf]; omega
        · have hz : dx (dig M) k = 0 := dx_beyond (by rw [hb.lenN]; omega)
          have hkj : ¬ (k : Int) < (m : Int) := by omega
          have hs := hrel.step
          rw [hz] at hs by'
          clear hz
          go_wp2_with (at_builtin; go_must (refine wpList_append_int (w0 := w) info_int Tryz.underlying22 rfl (.tmp 42) (.tmp 45) rfl _ (ints o) rfl hown hbw 1 rfl hlen ?_); intro v' w1 hown1 hbw1)
          go_roundw
          case rel => exact ⟨k + 1, (dx (dig N) k + c1) / Bs, o ++ [(dx (dig N) k + c1) % Bs], by omega, by go_num, by rw [Bs_eq]; omega, by rw [Bs_eq]; go_num, hs, by rw [ints_append, Bs_eq]; exact hown1, hbw1⟩
          case measure => simp [intOf]; omega
      · have hend := Lib.hid (hrel.stop (by rw [ha.lenN]; omega) (by rw [hb.lenN]; omega) (by rw [Bs_eq]; omega))
        have hlen : (ints o).length ≤ 1099511627776 := by rw [ints_len, hrel.len]; omega
        by_cases hc0 : 0 < c1
        · have hci : (0 : Int) < (c1 : Int) := by omega
          go_wp2_with (at_builtin; go_must (refine wpList_append_int (w0 := w) info_int Tryz.underlying22 rfl (.tmp 50) (.tmp 52) rfl _ (ints o) rfl hown hbw 1 rfl hlen ?_); intro v' w1 hown1 hbw1)
          obtain ⟨A', c', hv, ho⟩ := hown1.own (by simp; omega)
          have e : ints o ++ [(c1 : Int)] = ints (dig (N + M)) := by
            rw [← hend.out, if_pos hc0, ints_append]; rfl
          go_ret
          exact ⟨A', _, c', congrArg Ending.returned hv, e ▸ ho, hbw1⟩
        · have hci : ¬ (0 : Int) < (c1 : Int) := by omega
          have e : ints o = ints (dig (N + M)) := by
            rw [← hend.out, if_neg hc0]
          obtain ⟨A', c', hv, ho⟩ := hown.own (by omega)
          have hv := Lib.hid hv; rename_i hvo; clear hvo
          have e := Lib.hid e; rename_i eo; clear eo
          go_wp2
          go_ret
          exact ⟨A', _, c', congrArg Ending.returned hv.out, e.out ▸ ho, hbw⟩
  · have hnmi : (n : Int) < (m : Int) := by omega
    have hmk := make_ints (P := Tryz.prog) Tryz.underlying22 info_int 0 (m + 1) (by omega) (by omega)
    rw [show (((m + 1 : Nat)) : Int) = (m : Int) + 1 from by omega, show ((0 : Nat) : Int) = 0 from rfl] at hmk
    go_enter Tryz.func201, Tryz.ntmps201
    go_wp2_with fail
    clear hmk
    go_loopw [5, 6, 22] (fun v cr i wr => ∃ (k c : Nat) (o : List Nat), k ≤ m ∧ i = .int .i64 (k : Int) ∧ c ≤ 1 ∧ cr = .int .i64 (c : Int) ∧ AddRel M N k c o ∧ OwL 3 w.heap.size wr v (ints o) ∧ Bl w wr) (fun _ _ i _ => m - (intOf i).toNat)
    case atStart => exact ⟨0, 0, [], Nat.zero_le _, rfl, by omega, rfl, AddRel.zero _ _, OwL.room w (m + 1) (Nat.le_refl _) (by simp only [maxLen]; omega), (Bl.refl w).alloc _⟩
    case round =>
      obtain ⟨k, c1, o, hk, rfl, hc1, rfl, hrel, hown, hbw⟩ := hrel
      by_cases hkn : k < m
      · obtain ⟨ad, rfl, hlta, hca⟩ := (hb.bl hbw).atN hkn
        have hki : (k : Int) < (m : Int) := by omega
        have bx := dx_lt (digs_dig M) k
        have by' := dx_lt (digs_dig N) k
        rw [Bs_eq] at bx by'
        have hlen : (ints o).length ≤ 1099511627776 := by rw [ints_len, hrel.len]; omega
        by_cases hkm : k < n
        · obtain ⟨bd, rfl, hltb, hcb⟩ := (ha.bl hbw).atN hkm
          have hkj : (k : Int) < (n : Int) := by omega
          have hs := hrel.step
          go_wp2_with (at_builtin; go_must (refine wpList_append_int (w0 := w) info_int Tryz.underlying22 rfl (.tmp 42) (.tmp 45) rfl _ (ints o) rfl hown hbw 1 rfl hlen ?_); intro v' w1 hown1 hbw1)
          go_roundw
          case rel => exact ⟨k + 1, (dx (dig M) k + c1 + dx (dig N) k) / Bs, o ++ [(dx (dig M) k + c1 + dx (dig N) k) % Bs], by omega, by go_num, add_bound (dx_lt (digs_dig _) _) (dx_lt (digs_dig _) _) hc1, by rw [Bs_eq]; go_num, hs, by rw [ints_append, Bs_eq]; exact hown1, hbw1⟩
          case measure => simp [intOf]; omega
        · have hz : dx (dig N) k = 0 := dx_beyond (by rw [ha.lenN]; omega)
          have hkj : ¬ (k : Int) < (n : Int) := by omega
          have hs := hrel.step
          rw [hz] at hs by'
          clear hz
          go_wp2_with (at_builtin; go_must (refine wpList_append_int (w0 := w) info_int Tryz.underlying22 rfl (.tmp 42) (.tmp 45) rfl _ (ints o) rfl hown hbw 1 rfl hlen ?_); intro v' w1 hown1 hbw1)
          go_roundw
          case rel => exact ⟨k + 1, (dx (dig M) k + c1) / Bs, o ++ [(dx (dig M) k + c1) % Bs], by omega, by go_num, by rw [Bs_eq]; omega, by rw [Bs_eq]; go_num, hs, by rw [ints_append, Bs_eq]; exact hown1, hbw1⟩
          case measure => simp [intOf]; omega
      · have hend := Lib.hid (hrel.stop (by rw [hb.lenN]; omega) (by rw [ha.lenN]; omega) (by rw [Bs_eq]; omega))
        have hlen : (ints o).length ≤ 1099511627776 := by rw [ints_len, hrel.len]; omega
        by_cases hc0 : 0 < c1
        · have hci : (0 : Int) < (c1 : Int) := by omega
          go_wp2_with (at_builtin; go_must (refine wpList_append_int (w0 := w) info_int Tryz.underlying22 rfl (.tmp 50) (.tmp 52) rfl _ (ints o) rfl hown hbw 1 rfl hlen ?_); intro v' w1 hown1 hbw1)
          obtain ⟨A', c', hv, ho⟩ := hown1.own (by simp; omega)
          have e : ints o ++ [(c1 : Int)] = ints (dig (N + M)) := by
            rw [Nat.add_comm N M, ← hend.out, if_pos hc0, ints_append]; rfl
          go_ret
          exact ⟨A', _, c', congrArg Ending.returned hv, e ▸ ho, hbw1⟩
        · have hci : ¬ (0 : Int) < (c1 : Int) := by omega
          have e : ints o = ints (dig (N + M)) := by
            rw [Nat.add_comm N M, ← hend.out, if_neg hc0]
          obtain ⟨A', c', hv, ho⟩ := hown.own (by omega)
          have hv := Lib.hid hv; rename_i hvo; clear hvo
          have e := Lib.hid e; rename_i eo; clear eo
          go_wp2
          go_ret
          exact ⟨A', _, c', congrArg Ending.returned hv.out, e.out ▸ ho, hbw⟩
end

end Go.Proofs.YtjaapemopbbfaaaGreatDoor
