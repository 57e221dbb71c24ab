import Derived.Test.YthgielbhcjpikaaGreatRows
import Derived.Test.YthgielbhcjpikaaGreatBase
import Derived.Test.YthgielbhcjpikaaGreatNat
namespace Go.Proofs.YthgielbhcjpikaaGreat
open Go.RowKit

theorem ix_ints (l : List Nat) (k : Nat) : ix (ints l) k = (dx l k : Int) := by
  unfold ix ints dx
  rw [List.getD_eq_getElem?_getD, List.getD_eq_getElem?_getD, List.getElem?_map]
  cases l[k]? <;> rfl
/-- The slice reads as the limbs of N. -/
abbrev IsN (w : World) (A : Option Addr) (n c N : Nat) : Prop := RdI w A n c (ints (dig N))
theorem RdI.atN {w : World} {A : Option Addr} {n c : Nat} {l : List Nat} (h : RdI w A n c (ints l)) {k : Nat} (hk : k < n) :
    ∃ ad, A = some ad ∧ ad.block < w.heap.size ∧ w.cell? (ad.add k) = some (.int .i64 ((dx l k : Nat) : Int)) := by
  obtain ⟨ad, e, hlt, hc⟩ := h.at_ hk
  exact ⟨ad, e, hlt, by rw [hc, ix_ints]⟩
theorem RdI.lenN {w : World} {A : Option Addr} {n c : Nat} {l : List Nat} (h : RdI w A n c (ints l)) : l.length = n := by
  have := h.len
  rwa [ints_len] at this
theorem RdI.cut {w : World} {A : Option Addr} {n c m : Nat} {l : List Nat} (h : RdI w A n c (ints l)) (hm : m ≤ n) : RdI w A m c (ints (l.take m)) :=
  ⟨by rw [ints_len, List.length_take, h.lenN]; omega, Nat.le_trans hm h.cap, Nat.le_trans hm h.small, fun k hk => by
    obtain ⟨ad, e, hlt, hc⟩ := h.atN (k := k) (by omega)
    exact ⟨ad, e, hlt, by rw [hc, ix_ints, dx_take hk]⟩⟩

theorem RdI.of_ow {T : TypeId} {w : World} {g n c : Nat} {l : List Int} (h : Ow T w g l) (hl : l.length = n) (hn : n ≤ 9223372036854775807) (hc : n ≤ c := by omega) : RdI w (some ⟨g, 0, none⟩) n c l := by
  subst hl
  exact h.rd hn hc
/-- A block of limbs, cut behind its last limb that is not 0. -/
theorem OwI.of_ow {T : TypeId} {w : World} {b0 g n c m N : Nat} {l : List Nat} (h : Ow T w g (ints l)) (hg : b0 ≤ g) (hl : (ints l).length = n) (hn : n ≤ 9223372036854775807) (hm : m ≤ n) (ht : l.take m = dig N) (hc : n ≤ c := by omega) : OwI T b0 w (some ⟨g, 0, none⟩) m c (ints (dig N)) := by
  have hr := (RdI.of_ow (c := c) h hl hn hc).cut hm
  rw [ht] at hr
  exact ⟨hr, .inr ⟨g, _, rfl, hg, h, by simp; omega⟩⟩
theorem OwI.q {T : TypeId} {w w' : World} {b0 : Nat} {A : Option Addr} {n c : Nat} {l : List Int} (h : OwI T b0 w A n c l) (hq : ∃ q, w' = w.drewN q) : OwI T b0 w' A n c l := h.bl (q_bl hq)

/-- Block g begins with the ints l, none frozen. -/
def Pre (T : TypeId) (w : World) (g : Nat) (l : List Int) : Prop := ∃ r : List Value, w.heap[g]? = some (.cells (l.map (Value.int .i64) ++ r).toArray T (0, 0))
section
variable {T : TypeId} {w W : World} {g : Nat} {l : List Int}
theorem Ow.pre (h : Ow T w g l) : Pre T w g l := ⟨[], by rw [List.append_nil]; exact h⟩
theorem Pre.lt (h : Pre T w g l) : g < w.heap.size := by
  obtain ⟨r, h⟩ := h
  exact heap_lt h
theorem Pre.cell (h : Pre T w g l) {k : Nat} (hk : k < l.length) : w.cell? ⟨g, k, none⟩ = some (.int .i64 (ix l k)) := by
  obtain ⟨r, h⟩ := h
  rw [cell_of_row w g k _ T (0, 0) h]
  simp [ix, hk, List.getElem?_append]
theorem Pre.frozen (h : Pre T w g l) (k : Nat) : w.frozen? ⟨g, k, none⟩ = false := by
  obtain ⟨r, h⟩ := h
  simp [World.frozen?, h]
theorem Pre.set_ (h : Pre T w g l) {k : Nat} (hk : k < l.length) (x : Int) : Pre T (w.setCell ⟨g, k, none⟩ (.int .i64 x)) g (l.set k x) := by
  obtain ⟨r, h⟩ := h
  refine ⟨r, ?_⟩
  simp only [World.setCell, Array.getElem?_modify, h]
  simp [hk, List.map_set]
theorem Pre.far (h : Pre T w g l) {p : Addr} (hp : g ≠ p.block) (u : Value) : Pre T (w.setCell p u) g l := by
  obtain ⟨r, h⟩ := h
  exact ⟨r, (Below.heap_setCell w p u g hp).trans h⟩
theorem Pre.bl (h : Pre T w g l) (hb : Bl w W) : Pre T W g l := by
  obtain ⟨r, h⟩ := h
  exact ⟨r, (Below.block hb g (heap_lt h)).trans h⟩
theorem Pre.rd (h : Pre T w g l) {n c : Nat} (hl : l.length = n) (hn : n ≤ 9223372036854775807) (hc : n ≤ c) : RdI w (some ⟨g, 0, none⟩) n c l :=
  ⟨hl, hc, hn, fun k hk => ⟨⟨g, 0, none⟩, rfl, h.lt, by
    rw [Addr.add_lit, Nat.zero_add]
    exact h.cell (by rw [hl]; exact hk)⟩⟩
theorem Pre.cutN {n c m b0 N : Nat} {l : List Nat} (h : Pre T w g (ints l)) (hg : b0 ≤ g) (hl : l.length = n) (hn : n ≤ 9223372036854775807) (hc : n ≤ c) (hm : m ≤ n) (ht : l.take m = dig N) : OwI T b0 w (some ⟨g, 0, none⟩) m c (ints (dig N)) := by
  have hr := (h.rd (c := c) (by rw [ints_len]; exact hl) hn hc).cut hm
  rw [ht] at hr
  obtain ⟨r, h⟩ := h
  exact ⟨hr, .inr ⟨g, _, rfl, hg, h, by simp [ints_len]; omega⟩⟩
theorem OwI.pre {b0 : Nat} {A : Option Addr} {n c : Nat} (h : OwI T b0 w A n c l) (h0 : 0 < n) : ∃ g, A = some ⟨g, 0, none⟩ ∧ b0 ≤ g ∧ Pre T w g l := by
  obtain ⟨hr, h2⟩ := h
  rcases h2 with h2 | ⟨g, cs, rfl, hg, hh, hn⟩
  · omega
  · refine ⟨g, rfl, hg, cs.toList.drop n, ?_⟩
    rw [hh]
    congr 2
    apply Array.toList_inj.1
    simp only []
    apply List.ext_getElem?
    intro i
    rcases Nat.lt_or_ge i n with hi | hi
    · rw [List.getElem?_append_left (by simp [hr.len, hi])]
      obtain ⟨ad, e, _, hc⟩ := hr.at_ hi
      injection e with e
      subst e
      rw [Addr.add_lit, Nat.zero_add, cell_of_row w g i cs T (0, 0) hh] at hc
      rw [Array.getElem?_toList, hc]
      simp [ix, hr.len, hi]
    · rw [List.getElem?_append_right (by simp [hr.len, hi])]
      simp [hr.len, hi]
end

theorem zero_step {l : List Nat} {m : Nat} (h : ∀ j, m + 1 ≤ j → dx l j = 0) (h0 : dx l m = 0) : ∀ j, m ≤ j → dx l j = 0 := by
  intro j hj
  rcases Nat.eq_or_lt_of_le hj with rfl | hlt
  · exact h0
  · exact h j hlt

set_option maxHeartbeats 400000 in
theorem trimmed_any (w : World) {A : Option Addr} {n c : Nat} {l : List Nat} (h : RdI w A n c (ints l)) (hd : Digs l) :
    Calls Tryz.prog 177 #[.slice A n c] w fun e w' => ∃ m, e = .returned (.slice A m c) ∧ m ≤ n ∧ l.take m = dig (val l) ∧ ∃ q, w' = w.drewN q := by
  have hn := h.small
  have hcap := h.cap
  have hl := Lib.hid h.lenN
  go_enter Tryz.func177, Tryz.ntmps177
  go_wp2
  go_loop [0] (fun v => ∃ m, v = .slice A m c ∧ m ≤ n ∧ ∀ j, m ≤ j → dx l j = 0) (fun v => match v with | .slice _ m _ => m | _ => 0)
  case atStart => exact ⟨n, rfl, Nat.le_refl _, fun j hj => dx_beyond (by rw [hl.out]; exact hj)⟩
  case round =>
    obtain ⟨m, rfl, hm, hz⟩ := hrel
    have hz := Lib.hid hz; rename_i hzo; clear hzo
    rcases m with _ | m
    · have hfin := Lib.hid (trim_dig hd (Nat.zero_le _) hz.out (.inl rfl))
      go_wp2
      go_ret
      exact ⟨0, rfl, Nat.zero_le _, hfin.out, 0, rfl⟩
    · obtain ⟨ad, rfl, hlt, hc⟩ := h.atN (k := m) (by omega)
      have hki : ((m + 1 : Nat) : Int) - 1 = (m : Int) := by omega
      have hmc : m ≤ c := by omega
      by_cases h0 : dx l m = 0
      · have hz' := Lib.hid (zero_step hz.out h0)
        rw [h0] at hc
        have h0' := Lib.hid h0; clear h0
        go_wp2
        go_round
        case rel => exact ⟨m, rfl, by omega, hz'.out⟩
        case measure => simp
      · have hfin := Lib.hid (trim_dig hd (by rw [hl.out]; exact hm) hz.out (.inr h0))
        have hbeq : (((dx l m : Nat) : Int) == 0) = false := by simp; omega
        clear h0
        go_wp2
        go_ret
        exact ⟨m + 1, rfl, hm, hfin.out, 0, rfl⟩

end Go.Proofs.YthgielbhcjpikaaGreat
