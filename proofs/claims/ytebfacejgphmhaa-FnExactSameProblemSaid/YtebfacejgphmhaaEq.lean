import Derived.Test.YtebfacejgphmhaaRows
import Derived.Test.YtebfacejgphmhaaBase
namespace Go.Proofs.Ytebfacejgphmhaa
open Go.RowKit

/-- Two lists are equal up to place k. -/
def eqTo (a b : List Int) : Nat → Bool
  | 0 => true
  | k + 1 => eqTo a b k && (ix a k == ix b k)
def eqL (a b : List Int) : Bool := a == b

theorem eqTo_step {xs ys : List Int} {k : Nat} (h : eqTo xs ys k = true) (he : ix xs k = ix ys k) : eqTo xs ys (k + 1) = true := by simp [eqTo, h, he]
theorem eqTo_iff {xs ys : List Int} {k : Nat} : eqTo xs ys k = true ↔ ∀ i, i < k → ix xs i = ix ys i := by
  induction k with
  | zero => simp [eqTo]
  | succ k ih =>
    simp only [eqTo, Bool.and_eq_true, ih, beq_iff_eq]
    constructor
    · rintro ⟨h1, h2⟩ i hi
      rcases Nat.lt_succ_iff_lt_or_eq.1 hi with h | rfl
      · exact h1 i h
      · exact h2
    · intro h
      exact ⟨fun i hi => h i (by omega), h k (by omega)⟩
theorem eqL_same {xs ys : List Int} (h : xs.length = ys.length) : eqL xs ys = eqTo xs ys xs.length := by
  rw [Bool.eq_iff_iff, eqTo_iff]
  unfold eqL
  rw [beq_iff_eq]
  constructor
  · rintro rfl i _; rfl
  · intro hh
    apply List.ext_getElem h
    intro i h1 h2
    have := hh i h1
    simpa [ix, h1, h2] using this
theorem eqL_no {xs ys : List Int} {k : Nat} (_h : xs.length = ys.length) (_hk : k < xs.length) (he : ¬ ix xs k = ix ys k) : eqL xs ys = false := by
  unfold eqL
  rw [beq_eq_false_iff_ne]
  rintro rfl
  exact he rfl
theorem eqL_len {xs ys : List Int} (h : ¬ xs.length = ys.length) : eqL xs ys = false := by
  unfold eqL
  rw [beq_eq_false_iff_ne]
  rintro rfl
  exact h rfl

set_option maxHeartbeats 400000 in
theorem Equal_int (w : World) {A B : Option Addr} {n m c d : Nat} {xs ys : List Int} (ha : RdI w A n c xs) (hb : RdI w B m d ys) :
    Calls Try.prog 128 #[.slice A n c, .slice B m d] w fun e w' => e = .returned (.bool (eqL xs ys)) ∧ ∃ q, w' = w.drewN q := by
  have hna := ha.small
  have hnb := hb.small
  by_cases hnm : n = m
  · subst hnm
    have heq := Lib.hid (eqL_same (ha.len.trans hb.len.symm)); rw [ha.len] at heq
    go_enter Try.func128, Try.ntmps128
    go_wp2
    go_loopw [13] (fun i wr => ∃ k : Nat, k ≤ n ∧ i = .int .i64 (k : Int) ∧ Hid (eqTo xs ys k = true) ∧ ∃ q, wr = w.drewN q) (fun i _ => n - (intOf i).toNat)
    case atStart => exact ⟨0, Nat.zero_le _, rfl, rfl, (by first | exact ⟨_, rfl⟩ | exact ⟨0, rfl⟩ | exact q_drewN ⟨_, rfl⟩ | exact q_drewN (q_drewN ⟨_, rfl⟩))⟩
    case round =>
      obtain ⟨k, hk, rfl, hto, q, rfl⟩ := hrel
      by_cases hkn : k < n
      · obtain ⟨ad, rfl, hlta, hca⟩ := ha.at_ hkn
        obtain ⟨bd, rfl, hltb, hcb⟩ := hb.at_ hkn
        have hki : (k : Int) < (n : Int) := by omega
        by_cases he : ix xs k = ix ys k
        · have hs := Lib.hid (eqTo_step hto.out he); clear hto
          have hbeq : (ix xs k != ix ys k) = false := by simp [he]
          clear he
          go_wp2
          go_quiet (fail)
          go_wp2
          go_roundw
          case rel => exact ⟨k + 1, by omega, by go_num, hs, (by first | exact ⟨_, rfl⟩ | exact ⟨0, rfl⟩ | exact q_drewN ⟨_, rfl⟩ | exact q_drewN (q_drewN ⟨_, rfl⟩))⟩
          case measure => simp [intOf]; omega
        · have hs := Lib.hid (eqL_no (by rw [ha.len, hb.len]) (by rw [ha.len]; exact hkn) he); clear hto heq
          have hbeq : (ix xs k != ix ys k) = true := by simp [he]
          clear he
          go_wp2
          go_quiet (fail)
          go_wp2
          go_ret
          exact ⟨ret_bool hs.out.symm, (by first | exact ⟨_, rfl⟩ | exact ⟨0, rfl⟩ | exact q_drewN ⟨_, rfl⟩ | exact q_drewN (q_drewN ⟨_, rfl⟩))⟩
      · have hkk : k = n := by omega
        have hs := Lib.hid (heq.out.trans (hkk ▸ hto.out)); clear hto heq hkk
        go_wp2
        go_ret
        exact ⟨ret_bool hs.out.symm, (by first | exact ⟨_, rfl⟩ | exact ⟨0, rfl⟩ | exact q_drewN ⟨_, rfl⟩ | exact q_drewN (q_drewN ⟨_, rfl⟩))⟩
  · have hs := Lib.hid (eqL_len (xs := xs) (ys := ys) (by rw [ha.len, hb.len]; exact hnm))
    have hne : ((n : Int) != (m : Int)) = true := by simp; omega
    go_enter Try.func128, Try.ntmps128
    go_wp2
    go_ret
    exact ⟨ret_bool hs.out.symm, (by first | exact ⟨_, rfl⟩ | exact ⟨0, rfl⟩ | exact q_drewN ⟨_, rfl⟩ | exact q_drewN (q_drewN ⟨_, rfl⟩))⟩

set_option maxHeartbeats 400000 in
theorem l04List_any (w : World) {A B : Option Addr} {n m c d : Nat} {xs ys : List Int} (ha : RdI w A n c xs) (hb : RdI w B m d ys) :
    Calls Try.prog 127 #[.slice A n c, .slice B m d] w fun e w' => e = .returned (.bool (eqL xs ys)) ∧ ∃ q, w' = w.drewN q := by
  have hna := ha.small
  have hnb := hb.small
  by_cases hnm : n = m
  · subst hnm
    have heq := Lib.hid (eqL_same (ha.len.trans hb.len.symm)); rw [ha.len] at heq
    go_enter Try.func127, Try.ntmps127
    go_wp2
    go_loopw [13] (fun i wr => ∃ k : Nat, k ≤ n ∧ i = .int .i64 (k : Int) ∧ Hid (eqTo xs ys k = true) ∧ ∃ q, wr = w.drewN q) (fun i _ => n - (intOf i).toNat)
    case atStart => exact ⟨0, Nat.zero_le _, rfl, rfl, (by first | exact ⟨_, rfl⟩ | exact ⟨0, rfl⟩ | exact q_drewN ⟨_, rfl⟩ | exact q_drewN (q_drewN ⟨_, rfl⟩))⟩
    case round =>
      obtain ⟨k, hk, rfl, hto, q, rfl⟩ := hrel
      by_cases hkn : k < n
      · obtain ⟨ad, rfl, hlta, hca⟩ := ha.at_ hkn
        obtain ⟨bd, rfl, hltb, hcb⟩ := hb.at_ hkn
        have hki : (k : Int) < (n : Int) := by omega
        by_cases he : ix xs k = ix ys k
        · have hs := Lib.hid (eqTo_step hto.out he); clear hto
          have hbeq : (ix xs k != ix ys k) = false := by simp [he]
          clear he
          go_wp2
          go_quiet (fail)
          go_wp2
          go_roundw
          case rel => exact ⟨k + 1, by omega, by go_num, hs, (by first | exact ⟨_, rfl⟩ | exact ⟨0, rfl⟩ | exact q_drewN ⟨_, rfl⟩ | exact q_drewN (q_drewN ⟨_, rfl⟩))⟩
          case measure => simp [intOf]; omega
        · have hs := Lib.hid (eqL_no (by rw [ha.len, hb.len]) (by rw [ha.len]; exact hkn) he); clear hto heq
          have hbeq : (ix xs k != ix ys k) = true := by simp [he]
          clear he
          go_wp2
          go_quiet (fail)
          go_wp2
          go_ret
          exact ⟨ret_bool hs.out.symm, (by first | exact ⟨_, rfl⟩ | exact ⟨0, rfl⟩ | exact q_drewN ⟨_, rfl⟩ | exact q_drewN (q_drewN ⟨_, rfl⟩))⟩
      · have hkk : k = n := by omega
        have hs := Lib.hid (heq.out.trans (hkk ▸ hto.out)); clear hto heq hkk
        go_wp2
        go_ret
        exact ⟨ret_bool hs.out.symm, (by first | exact ⟨_, rfl⟩ | exact ⟨0, rfl⟩ | exact q_drewN ⟨_, rfl⟩ | exact q_drewN (q_drewN ⟨_, rfl⟩))⟩
  · have hs := Lib.hid (eqL_len (xs := xs) (ys := ys) (by rw [ha.len, hb.len]; exact hnm))
    have hne : ((n : Int) != (m : Int)) = true := by simp; omega
    go_enter Try.func127, Try.ntmps127
    go_wp2
    go_ret
    exact ⟨ret_bool hs.out.symm, (by first | exact ⟨_, rfl⟩ | exact ⟨0, rfl⟩ | exact q_drewN ⟨_, rfl⟩ | exact q_drewN (q_drewN ⟨_, rfl⟩))⟩

end Go.Proofs.Ytebfacejgphmhaa
