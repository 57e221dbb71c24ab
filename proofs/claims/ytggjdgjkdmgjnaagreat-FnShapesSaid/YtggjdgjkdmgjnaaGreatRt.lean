/- Fractions as signed integers over limbs: plain arithmetic; no program in sight. -/
import Derived.Test.YtggjdgjkdmgjnaaGreatNat
import Derived.Test.YtggjdgjkdmgjnaaGreatBase
namespace Go.Proofs.YtggjdgjkdmgjnaaGreat

open Go.RowKit

/-- The limbs read as a natural number. -/
def nv (l : List Int) : Nat := val (l.map Int.toNat)
theorem map_toNat_ints (l : List Nat) : (ints l).map Int.toNat = l := by
  unfold ints
  rw [List.map_map]
  have : (Int.toNat ∘ Int.ofNat) = (id : Nat → Nat) := by funext x; rfl
  rw [this, List.map_id]
theorem nv_ints (N : Nat) : nv (ints (dig N)) = N := by
  unfold nv; rw [map_toNat_ints, val_dig]
/-- Limbs of a natural number that is not too large. -/
def OkN (l : List Int) : Prop := ∃ N, l = ints (dig N) ∧ (dig N).length ≤ 60
theorem OkN.nv {l : List Int} (h : OkN l) : l = ints (dig (nv l)) ∧ l.length ≤ 60 := by
  obtain ⟨N, rfl, h⟩ := h
  rw [nv_ints]
  exact ⟨rfl, by rw [ints_len]; exact h⟩
theorem okN_iff (l : List Int) : OkN l ↔ l.length ≤ 60 ∧ (l.length = 0 ∨ ix l (l.length - 1) ≠ 0) ∧ ∀ k, k < l.length → 0 ≤ ix l k ∧ ix l k ≤ 999999999 := by
  constructor
  · rintro ⟨N, rfl, h⟩
    rw [ints_len]
    refine ⟨h, ?_, fun k hk => ?_⟩
    · rcases Nat.eq_zero_or_pos (dig N).length with h0 | h0
      · exact .inl h0
      · right
        have := canon_last (canon_dig N) (List.length_pos_iff.1 h0)
        unfold ix
        unfold dx at this
        unfold ints
        rw [List.getD_eq_getElem?_getD] at this
        rw [List.getD_eq_getElem?_getD, List.getElem?_map]
        rw [List.getElem?_eq_getElem (by omega)] at this ⊢
        simp at this ⊢
        omega
    · have := dx_lt (digs_dig N) k
      rw [Bs_eq] at this
      unfold ix
      unfold dx at this
      unfold ints
      rw [List.getD_eq_getElem?_getD] at this
      rw [List.getD_eq_getElem?_getD, List.getElem?_map]
      rw [List.getElem?_eq_getElem hk] at this ⊢
      simp at this ⊢
      omega
  · rintro ⟨h1, h2, h3⟩
    have hd : Digs (l.map Int.toNat) := by
      refine digs_of_dx fun k hk => ?_
      rw [List.length_map] at hk
      have := h3 k hk
      unfold ix at this
      unfold dx
      rw [List.getD_eq_getElem?_getD] at this ⊢
      rw [List.getElem?_map, List.getElem?_eq_getElem hk]
      rw [List.getElem?_eq_getElem hk] at this
      simp at this ⊢
      rw [Bs_eq]
      omega
    have hc : Canon (l.map Int.toNat) := by
      refine canon_of_last hd fun e => ?_
      have e0 : l.length ≠ 0 := by intro e0; apply e; rw [List.length_eq_zero_iff.1 e0]; rfl
      rcases h2 with h2 | h2
      · exact absurd h2 e0
      · have h4 := (h3 (l.length - 1) (by omega)).1
        rw [List.length_map]
        unfold dx
        unfold ix at h2 h4
        rw [List.getD_eq_getElem?_getD] at h2 h4 ⊢
        rw [List.getElem?_map]
        rw [List.getElem?_eq_getElem (by omega)] at h2 h4 ⊢
        simp at h2 h4 ⊢
        omega
    have he : l = ints (l.map Int.toNat) := by
      unfold ints
      rw [List.map_map]
      apply List.ext_getElem (by simp)
      intro i hi _
      have := h3 i hi
      unfold ix at this
      rw [List.getD_eq_getElem?_getD, List.getElem?_eq_getElem hi] at this
      simp at this ⊢
      omega
    refine ⟨val (l.map Int.toNat), ?_, ?_⟩
    · rw [dig_val hc]; exact he
    · rw [dig_val hc, List.length_map]; exact h1

/-- The fraction (sign, magnitude, denominator) over limbs. -/
def raw (x : Int) (D : Nat) : RatD := ⟨decide (x < 0), ints (dig x.natAbs), ints (dig D)⟩
/-- The zero value: what is not valid. -/
def zR : RatD := ⟨false, [], []⟩
/-- x / D in lowest terms; the zero value if it is too large. -/
def ofFrac (x : Int) (D : Nat) : RatD :=
  if (dig (x.natAbs / Nat.gcd x.natAbs D)).length ≤ 24 ∧ (dig (D / Nat.gcd x.natAbs D)).length ≤ 24 then raw (x / (Nat.gcd x.natAbs D : Int)) (D / Nat.gcd x.natAbs D) else zR
def rn (r : RatD) : Int := if r.neg = true then - (nv r.mag : Int) else (nv r.mag : Int)
def rd (r : RatD) : Nat := nv r.den
theorem natAbs_lt_neg {x : Int} (h : x < 0) : -(x.natAbs : Int) = x := by omega
theorem rn_raw (x : Int) (D : Nat) : rn (raw x D) = x := by
  unfold rn raw
  simp only [nv_ints]
  by_cases h : x < 0
  · simp [h]; omega
  · simp [h]; omega
theorem rd_raw (x : Int) (D : Nat) : rd (raw x D) = D := by unfold rd raw; simp only [nv_ints]
/-- A valid fraction. -/
def OkR (r : RatD) : Prop := ∃ (x : Int) (D : Nat), r = raw x D ∧ 0 < D ∧ Nat.gcd x.natAbs D = 1 ∧ (dig x.natAbs).length ≤ 24 ∧ (dig D).length ≤ 24
theorem OkR.get {r : RatD} (h : OkR r) : r = raw (rn r) (rd r) ∧ 0 < rd r ∧ Nat.gcd (rn r).natAbs (rd r) = 1 ∧ (dig (rn r).natAbs).length ≤ 24 ∧ (dig (rd r)).length ≤ 24 := by
  obtain ⟨x, D, rfl, h⟩ := h
  rw [rn_raw, rd_raw]
  exact ⟨rfl, h⟩
theorem not_ok_zR : ¬ OkR zR := by
  rintro ⟨x, D, h, hD, _⟩
  have : (dig D).length = 0 := by
    have := congrArg RatD.den h
    simp only [zR, raw] at this
    rw [← ints_len, ← this]; rfl
  have := dig_len_pos.2 hD
  omega
open Classical in
/-- Whether it is valid (a plain def: the walk leaves it closed). -/
noncomputable def okR (r : RatD) : Bool := decide (OkR r)
open Classical in
noncomputable def okN (l : List Int) : Bool := decide (OkN l)
theorem okR_true {r : RatD} : okR r = true ↔ OkR r := by unfold okR; simp
theorem okR_false {r : RatD} : okR r = false ↔ ¬ OkR r := by unfold okR; simp
theorem okN_true {r : List Int} : okN r = true ↔ OkN r := by unfold okN; simp
theorem okN_false {r : List Int} : okN r = false ↔ ¬ OkN r := by unfold okN; simp

open Classical in
noncomputable def addR (r s : RatD) : RatD := if OkR r ∧ OkR s then ofFrac (rn r * rd s + rn s * rd r) (rd r * rd s) else zR
open Classical in
noncomputable def subR (r s : RatD) : RatD := if OkR r ∧ OkR s then ofFrac (rn r * rd s - rn s * rd r) (rd r * rd s) else zR
open Classical in
noncomputable def mulR (r s : RatD) : RatD := if OkR r ∧ OkR s then ofFrac (rn r * rn s) (rd r * rd s) else zR
open Classical in
noncomputable def divR (r s : RatD) : RatD := if OkR r ∧ OkR s ∧ rn s ≠ 0 then ofFrac (rn r * rd s * (if rn s < 0 then -1 else 1)) (rd r * (rn s).natAbs) else zR
/-- -1, 0, 1. -/
def cmpZ (a b : Int) : Int := if a < b then -1 else if b < a then 1 else 0
open Classical in
noncomputable def cmpR (r s : RatD) : Int := if OkR r ∧ OkR s then cmpZ (rn r * rd s) (rn s * rd r) else 0
open Classical in
noncomputable def sgnR (r : RatD) : Int := if OkR r then cmpZ (rn r) 0 else 0
open Classical in
noncomputable def maxR (r s : RatD) : RatD := if OkR r ∧ OkR s then (if 0 ≤ cmpR r s then r else s) else zR

theorem gcd_pos_den {n D : Nat} (h : 0 < D) : 0 < Nat.gcd n D := Nat.gcd_pos_of_pos_right _ h
theorem natAbs_ediv_gcd (x : Int) (g : Nat) (hg : g ∣ x.natAbs) : (x / (g : Int)).natAbs = x.natAbs / g := by
  obtain ⟨k, hk⟩ := hg
  rcases Nat.eq_zero_or_pos g with h0 | h0
  · subst h0; simp
  · rw [hk, Nat.mul_div_cancel_left _ h0]
    rcases Int.natAbs_eq x with e | e
    · rw [e, hk]
      have : ((g * k : Nat) : Int) / (g : Int) = (k : Int) := by
        rw [Int.natCast_mul]; exact Int.mul_ediv_cancel_left _ (by omega)
      rw [this]; simp
    · rw [e, hk]
      have : (-((g * k : Nat) : Int)) / (g : Int) = -(k : Int) := by
        rw [Int.natCast_mul, ← Int.mul_neg]; exact Int.mul_ediv_cancel_left _ (by omega)
      rw [this]; simp
theorem ediv_neg_iff (x : Int) (g : Nat) (h0 : 0 < g) : x / (g : Int) < 0 ↔ x < 0 := by
  constructor
  · intro h
    rcases Int.lt_or_le x 0 with hx | hx
    · exact hx
    · have := Int.ediv_nonneg hx (show (0 : Int) ≤ g by omega)
      omega
  · intro h
    exact Int.ediv_neg_of_neg_of_pos h (by omega)
/-- What a computed fraction is: the zero value or a valid one. -/
theorem ofFrac_ok {x : Int} {D : Nat} (hD : 0 < D) : ofFrac x D = zR ∨ OkR (ofFrac x D) := by
  unfold ofFrac
  split
  · rename_i h
    right
    have hg := gcd_pos_den (n := x.natAbs) hD
    refine ⟨_, _, rfl, Nat.div_pos (Nat.le_of_dvd hD (Nat.gcd_dvd_right _ _)) hg, ?_, ?_, h.2⟩
    · rw [natAbs_ediv_gcd _ _ (Nat.gcd_dvd_left _ _)]
      exact Nat.coprime_div_gcd_div_gcd hg
    · rw [natAbs_ediv_gcd _ _ (Nat.gcd_dvd_left _ _)]
      exact h.1
  · exact .inl rfl
end Go.Proofs.YtggjdgjkdmgjnaaGreat
