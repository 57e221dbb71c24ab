-- merged: Lm0 Lm1
import Derived.Test.YtggjdgjkdmgjnaaGreatRows
import Derived.Test.YtggjdgjkdmgjnaaGreatRw3
import Derived.Test.YtggjdgjkdmgjnaaGreatAr
import Derived.Test.YtggjdgjkdmgjnaaGreatDv1
namespace Go.Proofs.YtggjdgjkdmgjnaaGreat
open Go.RowKit
section


/-- All fractions of a list of lists are valid. -/
def SqOk (L : List (List RatD)) : Prop := ∀ i, i < L.length → ∀ j, j < (pix L i).length → OkR (pix (pix L i) j)
open Classical in
noncomputable def sqIf (L : List (List RatD)) : List (List RatD) := if SqOk L then L else []
noncomputable def massV (D : RatD) (i j : Nat) : RatD := divR D (ofFrac (if i = j then 6 else 12) 1)
noncomputable def massRow (D : RatD) (i k : Nat) : List RatD := (List.range k).map (massV D i)
noncomputable def massTo (D : RatD) (k : Nat) : List (List RatD) := (List.range k).map fun i => massRow D i 3
noncomputable def massL (l : List PtD) : List (List RatD) := if propB l = true then sqIf (massTo (areaR (pix l 0) (pix l 1) (pix l 2)) 3) else []
theorem massRow_succ (D : RatD) (i k : Nat) : massRow D i (k + 1) = massRow D i k ++ [massV D i k] := by unfold massRow; rw [List.range_succ, List.map_append]; rfl
theorem massRow_len (D : RatD) (i k : Nat) : (massRow D i k).length = k := by simp [massRow]
theorem massTo_succ (D : RatD) (k : Nat) : massTo D (k + 1) = massTo D k ++ [massRow D k 3] := by unfold massTo; rw [List.range_succ, List.map_append]; rfl
theorem massTo_len (D : RatD) (k : Nat) : (massTo D k).length = k := by simp [massTo]
/-- Lists whose fractions are computed ones. -/
def ZOk (L : List (List RatD)) : Prop := ∀ i, i < L.length → 0 < (pix L i).length ∧ ∀ j, j < (pix L i).length → pix (pix L i) j = zR ∨ OkR (pix (pix L i) j)
theorem divR_z (r s : RatD) : divR r s = zR ∨ OkR (divR r s) := by
  unfold divR
  split
  · rename_i h
    exact ofFrac_ok (Nat.mul_pos h.1.get.2.1 (by have := h.2.2; omega))
  · exact .inl rfl
theorem divR_24 (r s : RatD) : (divR r s).mag.length ≤ 24 ∧ (divR r s).den.length ≤ 24 := by
  unfold divR
  split
  · exact len24_ofFrac _ _
  · exact len24_zR
theorem massTo_z (D : RatD) : ZOk (massTo D 3) := by
  intro i hi
  rw [massTo_len] at hi
  have e : pix (massTo D 3) i = massRow D i 3 := by simp [pix, massTo, hi]
  rw [e, massRow_len]
  refine ⟨by omega, fun j hj => ?_⟩
  have e2 : pix (massRow D i 3) j = massV D i j := by simp [pix, massRow, hj]
  rw [e2]
  exact divR_z _ _
theorem szL_24 {l : List RatD} (hl : l.length ≤ 3) (h : ∀ j, j < l.length → (pix l j).mag.length ≤ 24 ∧ (pix l j).den.length ≤ 24) : szL szR l ≤ 1048576 := by
  rcases l with _ | ⟨a, _ | ⟨b, _ | ⟨c, _ | ⟨d, l⟩⟩⟩⟩
  · simp [szL, sumTo]
  · have h0 := h 0 (by simp)
    simp [pix] at h0
    simp [szL, sumTo, szR, pix]; omega
  · have h0 := h 0 (by simp)
    have h1 := h 1 (by simp)
    simp [pix] at h0 h1
    simp [szL, sumTo, szR, pix]; omega
  · have h0 := h 0 (by simp)
    have h1 := h 1 (by simp)
    have h2 := h 2 (by simp)
    simp [pix] at h0 h1 h2
    simp [szL, sumTo, szR, pix]; omega
  · simp at hl
theorem massL_sz (l : List PtD) : (massL l).length ≤ 8 ∧ ∀ i, i < (massL l).length → szL szR (pix (massL l) i) ≤ 1048576 := by
  have h0 : (([] : List (List RatD)).length ≤ 8 ∧ ∀ i, i < ([] : List (List RatD)).length → szL szR (pix ([] : List (List RatD)) i) ≤ 1048576) := ⟨Nat.zero_le _, fun i hi => by simp at hi⟩
  unfold massL sqIf
  split
  · split
    · rw [massTo_len]
      refine ⟨by omega, fun i hi => ?_⟩
      have e : pix (massTo (areaR (pix l 0) (pix l 1) (pix l 2)) 3) i = massRow (areaR (pix l 0) (pix l 1) (pix l 2)) i 3 := by simp [pix, massTo, hi]
      rw [e]
      refine szL_24 (by rw [massRow_len]; omega) fun j hj => ?_
      rw [massRow_len] at hj
      have e2 : pix (massRow (areaR (pix l 0) (pix l 1) (pix l 2)) i 3) j = massV (areaR (pix l 0) (pix l 1) (pix l 2)) i j := by simp [pix, massRow, hj]
      rw [e2]
      exact divR_24 _ _
    · exact h0
  · exact h0

def ZTo (l : List RatD) : Prop := ∀ j, j < l.length → pix l j = zR ∨ OkR (pix l j)
set_option maxHeartbeats 400000 in
theorem ifVectorF_any (w : World) {s : Bool} {A : Option Addr} {n c : Nat} {B : Option Addr} {m d : Nat} {r : RatD} {b : Bool} (h : RdR w s A n c B m d r) (hz : r = zR ∨ OkR r) (hb : okR r = b) :
    Calls Tryz.prog 177 #[.agg #[.bool s, .slice A n c, .slice B m d]] w fun e w' => e = .returned (.bool (!b)) ∧ Bl w w' := by
  have hd := okR_den hz
  rw [h.den.len, ← okR_true] at hd
  cases b with
  | true =>
    have hm : 0 < m := by have := hd.2 hb; omega
    clear hd hz h hb
    go_enter Tryz.func177, Tryz.ntmps177
    go_wp2_with fail
    refine (isRat_yes _ hm).mono ?_
    rintro e w1 ⟨rfl, hb1⟩
    go_wp2_with fail
    go_ret
    exact ⟨rfl, slc⟩
  | false =>
    obtain rfl : m = 0 := by
      rcases Nat.eq_zero_or_pos m with h0 | h0
      · exact h0
      · rw [hd.1 (by omega)] at hb; cases hb
    clear hd hz h hb
    go_enter Tryz.func177, Tryz.ntmps177
    go_wp2_with fail
    refine (isRat_no _ rfl).mono ?_
    rintro e w1 ⟨rfl, hb1⟩
    go_wp2_with fail
    go_ret
    exact ⟨rfl, slc⟩
set_option maxHeartbeats 400000 in
theorem IndexRatV_any (w : World) {A : Option Addr} {n c : Nat} {l : List RatD} (h : RdRS w A n c l) (hz : ZTo l) :
    Calls Tryz.prog 181 #[.slice A n c, .func (.func 177) #[] #[]] w (IdxPostB (AllOk l) w) := by
  have hn := h.small
  have hl := Lib.hid h.len
  go_enter Tryz.func181, Tryz.ntmps181
  go_wp2_with fail
  go_loopw [8] (fun i wr => ∃ k : Nat, k ≤ n ∧ i = .int .i64 (k : Int) ∧ OkTo l k ∧ Bl w wr) (fun i _ => n - (intOf i).toNat)
  case atStart => exact ⟨0, Nat.zero_le _, rfl, OkTo.zero _, Bl.refl _⟩
  case round =>
    obtain ⟨k, hk, rfl, hin, hbw⟩ := hrel
    by_cases hkn : k < n
    · have hki : (k : Int) < (n : Int) := by omega
      obtain ⟨ad, rfl, hlta, hca⟩ := (h.bl hbw).cells k hkn
      obtain ⟨s, A, n', c', B, m, d', ⟨g0, g1, g2⟩, hx⟩ := hca
      by_cases ho : OkR (pix l k)
      · have hin' := hin.step ho
        have hok := okR_of ho
        clear hin ho
        go_wp2_with fail
        refine (ifVectorF_any _ hx (hz k (by rw [hl.out]; exact hkn)) hok).mono ?_
        rintro e w1 ⟨rfl, hb1⟩
        have hb2 : Bl w w1 := slc
        clear hb1
        go_wp2_with fail
        go_roundw
        case rel => exact ⟨k + 1, by omega, by go_num, hin', hb2⟩
        case measure => simp [intOf]; omega
      · have hno : ¬ AllOk l := fun ha => ho (ha k (by rw [hl.out]; exact hkn))
        have hno := Lib.hid hno; rename_i h_; clear h_
        have hok := okR_no ho
        clear hin ho
        go_wp2_with fail
        refine (ifVectorF_any _ hx (hz k (by rw [hl.out]; exact hkn)) hok).mono ?_
        rintro e w1 ⟨rfl, hb1⟩
        have hb2 : Bl w w1 := slc
        clear hb1
        go_wp2_with fail
        go_ret
        exact ⟨_, rfl, fun ha => absurd ha hno.out, fun _ => by omega, hb2⟩
    · have hall : AllOk l := fun j hj => hin j (by rw [hl.out] at hj; omega)
      have hall := Lib.hid hall; rename_i h_; clear h_
      go_wp2_with fail
      go_ret
      exact ⟨_, rfl, fun _ => rfl, fun hno => absurd hall.out hno, hbw⟩
theorem ContainsRatV_yes (w : World) {A : Option Addr} {n c : Nat} {l : List RatD} (h : RdRS w A n c l) (hz : ZTo l) (hp : AllOk l) :
    Calls Tryz.prog 144 #[.slice A n c, .func (.func 177) #[] #[]] w fun e w' => e = .returned (.bool false) ∧ Bl w w' := by
  have hp := Lib.hid hp; rename_i h_; clear h_
  go_enter Tryz.func144, Tryz.ntmps144
  go_wp2_with fail
  refine (IndexRatV_any _ h hz).mono ?_
  rintro e w1 ⟨i, rfl, h1, _, hb⟩
  have h1 := h1 hp.out
  subst h1
  go_wp2_with fail
  go_ret
  exact ⟨rfl, hb⟩
theorem ContainsRatV_no (w : World) {A : Option Addr} {n c : Nat} {l : List RatD} (h : RdRS w A n c l) (hz : ZTo l) (hp : ¬ AllOk l) :
    Calls Tryz.prog 144 #[.slice A n c, .func (.func 177) #[] #[]] w fun e w' => e = .returned (.bool true) ∧ Bl w w' := by
  have hp := Lib.hid hp; rename_i h_; clear h_
  go_enter Tryz.func144, Tryz.ntmps144
  go_wp2_with fail
  refine (IndexRatV_any _ h hz).mono ?_
  rintro e w1 ⟨i, rfl, _, h1, hb⟩
  have h1 := h1 hp.out
  go_wp2_with fail
  go_ret
  exact ⟨rfl, hb⟩

theorem ifVector_yes (w : World) {A : Option Addr} {n c : Nat} {l : List RatD} (h : RdRS w A n c l) (hz : ZTo l) (hp : AllOk l) :
    Calls Tryz.prog 136 #[.slice A n c] w fun e w' => e = .returned (.slice A n c) ∧ Bl w w' := by
  have hp := Lib.hid hp; rename_i h_; clear h_
  go_enter Tryz.func136, Tryz.ntmps136
  go_wp2_with fail
  refine (ContainsRatV_yes _ h hz hp.out).mono ?_
  rintro e w1 ⟨rfl, hb⟩
  go_wp2_with fail
  go_ret
  exact ⟨rfl, hb⟩
theorem ifVector_no (w : World) {A : Option Addr} {n c : Nat} {l : List RatD} (h : RdRS w A n c l) (hz : ZTo l) (hp : ¬ AllOk l) :
    Calls Tryz.prog 136 #[.slice A n c] w fun e w' => e = .returned (.slice none 0 0) ∧ Bl w w' := by
  have hp := Lib.hid hp; rename_i h_; clear h_
  go_enter Tryz.func136, Tryz.ntmps136
  go_wp2_with fail
  refine (ContainsRatV_no _ h hz hp.out).mono ?_
  rintro e w1 ⟨rfl, hb⟩
  go_wp2_with fail
  go_ret
  exact ⟨rfl, hb⟩
def SqTo (L : List (List RatD)) (k : Nat) : Prop := ∀ i, i < k → AllOk (pix L i)
theorem SqTo.step {L : List (List RatD)} {k : Nat} (h : SqTo L k) (h0 : AllOk (pix L k)) : SqTo L (k + 1) := by
  intro j hj
  rcases Nat.lt_succ_iff_lt_or_eq.1 hj with hj | rfl
  · exact h j hj
  · exact h0
set_option maxHeartbeats 1000000 in
theorem ifSquare_any (w : World) {A : Option Addr} {n c : Nat} {L : List (List RatD)} (h : RdRSS w A n c L) (hz : ZOk L) :
    Calls Tryz.prog 84 #[.slice A n c] w fun e w' => ((SqOk L ∧ e = .returned (.slice A n c)) ∨ (¬ SqOk L ∧ e = .returned (.slice none 0 0))) ∧ Bl w w' := by
  have hn := h.small
  have hl := Lib.hid h.len
  go_enter Tryz.func84, Tryz.ntmps84
  go_wp2_with fail
  go_loopw [7] (fun i wr => ∃ k : Nat, k ≤ n ∧ i = .int .i64 (k : Int) ∧ SqTo L k ∧ Bl w wr) (fun i _ => n - (intOf i).toNat)
  case atStart => exact ⟨0, Nat.zero_le _, rfl, fun j hj => by omega, Bl.refl _⟩
  case round =>
    obtain ⟨k, hk, rfl, hin, hbw⟩ := hrel
    by_cases hkn : k < n
    · have hki : (k : Int) < (n : Int) := by omega
      obtain ⟨ad, rfl, hlta, hca⟩ := (RdRSS.bl h hbw).cells k hkn
      obtain ⟨A', n', c', g0, hx⟩ := hca
      rw [Nat.mul_one] at g0
      have hzk := hz k (by rw [hl.out]; exact hkn)
      have hn' : 0 < n' := by rw [← hx.len]; exact hzk.1
      by_cases ho : AllOk (pix L k)
      · have hin' := hin.step ho
        have ho := Lib.hid ho; rename_i h_; clear h_
        clear hin
        go_wp2_with fail
        refine (ifVector_yes _ hx hzk.2 ho.out).mono ?_
        rintro e w1 ⟨rfl, hb1⟩
        have hb2 : Bl w w1 := slc
        clear hb1
        go_wp2_with fail
        go_roundw
        case rel => exact ⟨k + 1, by omega, by go_num, hin', hb2⟩
        case measure => simp [intOf]; omega
      · have hno : ¬ SqOk L := fun ha => ho fun j hj => ha k (by rw [hl.out]; exact hkn) j hj
        have hno := Lib.hid hno; rename_i h_; clear h_
        have ho := Lib.hid ho; rename_i h_; clear h_
        clear hin
        go_wp2_with fail
        refine (ifVector_no _ hx hzk.2 ho.out).mono ?_
        rintro e w1 ⟨rfl, hb1⟩
        have hb2 : Bl w w1 := slc
        clear hb1
        go_wp2_with fail
        go_ret
        exact ⟨.inr ⟨hno.out, rfl⟩, hb2⟩
    · have hall : SqOk L := fun j hj i hi => hin j (by rw [hl.out] at hj; omega) i hi
      have hall := Lib.hid hall; rename_i h_; clear h_
      go_wp2_with fail
      go_ret
      exact ⟨.inl ⟨hall.out, rfl⟩, hbw⟩
set_option maxHeartbeats 1000000 in
theorem l11Valid_any (w : World) {A : Option Addr} {n c : Nat} {l : List RatD} (h : RdRS w A n c l) :
    Calls Tryz.prog 135 #[.slice A n c] w fun e w' => ((AllOk l ∧ e = .returned (.bool true)) ∨ (¬ AllOk l ∧ e = .returned (.bool false))) ∧ Bl w w' := by
  have hn := h.small
  have hl := Lib.hid h.len
  go_enter Tryz.func135, Tryz.ntmps135
  go_wp2_with fail
  go_loopw [7] (fun i wr => ∃ k : Nat, k ≤ n ∧ i = .int .i64 (k : Int) ∧ OkTo l k ∧ Bl w wr) (fun i _ => n - (intOf i).toNat)
  case atStart => exact ⟨0, Nat.zero_le _, rfl, OkTo.zero _, Bl.refl _⟩
  case round =>
    obtain ⟨k, hk, rfl, hin, hbw⟩ := hrel
    by_cases hkn : k < n
    · have hki : (k : Int) < (n : Int) := by omega
      obtain ⟨ad, rfl, hlta, hca⟩ := (h.bl hbw).cells k hkn
      obtain ⟨s, A, n', c', B, m, d', ⟨g0, g1, g2⟩, hx⟩ := hca
      by_cases ho : OkR (pix l k)
      · have hin' := hin.step ho
        have hok := okR_of ho
        clear hin ho
        go_wp2_with fail
        refine (sRatOk_any _ (hx.bl slc)).mono ?_
        rw [hok]
        rintro e w1 ⟨rfl, hb1⟩
        have hb2 : Bl w w1 := slc
        clear hb1
        go_wp2_with fail
        go_roundw
        case rel => exact ⟨k + 1, by omega, by go_num, hin', hb2⟩
        case measure => simp [intOf]; omega
      · have hno : ¬ AllOk l := fun ha => ho (ha k (by rw [hl.out]; exact hkn))
        have hno := Lib.hid hno; rename_i h_; clear h_
        have hok := okR_no ho
        clear hin ho
        go_wp2_with fail
        refine (sRatOk_any _ (hx.bl slc)).mono ?_
        rw [hok]
        rintro e w1 ⟨rfl, hb1⟩
        have hb2 : Bl w w1 := slc
        clear hb1
        go_wp2_with fail
        go_ret
        exact ⟨.inr ⟨hno.out, rfl⟩, hb2⟩
    · have hall : AllOk l := fun j hj => hin j (by rw [hl.out] at hj; omega)
      have hall := Lib.hid hall; rename_i h_; clear h_
      go_wp2_with fail
      go_ret
      exact ⟨.inl ⟨hall.out, rfl⟩, hbw⟩
set_option maxHeartbeats 1000000 in
theorem l12Full_any (w : World) {A : Option Addr} {n c : Nat} {L : List (List RatD)} (h : RdRSS w A n c L) :
    Calls Tryz.prog 82 #[.slice A n c] w fun e w' => ((SqOk L ∧ e = .returned (.slice A n c)) ∨ (¬ SqOk L ∧ e = .returned (.slice none 0 0))) ∧ Bl w w' := by
  have hn := h.small
  have hl := Lib.hid h.len
  go_enter Tryz.func82, Tryz.ntmps82
  go_wp2_with fail
  go_loopw [7] (fun i wr => ∃ k : Nat, k ≤ n ∧ i = .int .i64 (k : Int) ∧ SqTo L k ∧ Bl w wr) (fun i _ => n - (intOf i).toNat)
  case atStart => exact ⟨0, Nat.zero_le _, rfl, fun j hj => by omega, Bl.refl _⟩
  case round =>
    obtain ⟨k, hk, rfl, hin, hbw⟩ := hrel
    by_cases hkn : k < n
    · have hki : (k : Int) < (n : Int) := by omega
      obtain ⟨ad, rfl, hlta, hca⟩ := (RdRSS.bl h hbw).cells k hkn
      obtain ⟨A', n', c', g0, hx⟩ := hca
      rw [Nat.mul_one] at g0
      go_wp2_with fail
      refine (l11Valid_any _ hx).mono ?_
      rintro e w1 ⟨⟨ho, rfl⟩ | ⟨ho, rfl⟩, hb1⟩
      · have hin' := hin.step ho
        have ho := Lib.hid ho; rename_i h_; clear h_
        have hb2 : Bl w w1 := slc
        clear hb1 hin
        go_wp2_with fail
        go_roundw
        case rel => exact ⟨k + 1, by omega, by go_num, hin', hb2⟩
        case measure => simp [intOf]; omega
      · have hno : ¬ SqOk L := fun ha => ho fun j hj => ha k (by rw [hl.out]; exact hkn) j hj
        have hno := Lib.hid hno; rename_i h_; clear h_
        have ho := Lib.hid ho; rename_i h_; clear h_
        have hb2 : Bl w w1 := slc
        clear hb1 hin
        go_wp2_with fail
        go_ret
        exact ⟨.inr ⟨hno.out, rfl⟩, hb2⟩
    · have hall : SqOk L := fun j hj i hi => hin j (by rw [hl.out] at hj; omega) i hi
      have hall := Lib.hid hall; rename_i h_; clear h_
      go_wp2_with fail
      go_ret
      exact ⟨.inl ⟨hall.out, rfl⟩, hbw⟩


end

section


theorem ofFrac_unit (c : Nat) (hc : c = 6 ∨ c = 12) : ofFrac 1 c = raw 1 c ∧ (dig c).length ≤ 24 := by
  have h24 : (dig c).length ≤ 24 := dig_len_le.2 (by rcases hc with rfl | rfl <;> decide)
  refine ⟨?_, h24⟩
  unfold ofFrac
  have hg : Nat.gcd (Int.natAbs 1) c = 1 := Nat.gcd_one_left c
  rw [hg, Nat.div_one, Nat.div_one]
  rw [if_pos ⟨dig_len_le.2 (by decide), h24⟩]
  simp
theorem mul_unit {D : RatD} (c : Nat) (hc : c = 6 ∨ c = 12) : mulR D (ofFrac 1 c) = divR D (ofFrac (c : Int) 1) := by
  obtain ⟨e1, h24⟩ := ofFrac_unit c hc
  have e2 : ofFrac (c : Int) 1 = raw c 1 := ofFrac_int (by omega) (by omega)
  rw [e1, e2]
  have o1 : OkR (raw 1 c) := ⟨1, c, rfl, by omega, Nat.gcd_one_left c, dig_len_le.2 (by decide), h24⟩
  have o2 : OkR (raw (c : Int) 1) := ⟨c, 1, rfl, by omega, Nat.gcd_one_right _, by simpa using h24, dig_len_le.2 (by decide)⟩
  by_cases hD : OkR D
  · unfold mulR divR
    rw [if_pos ⟨hD, o1⟩, if_pos ⟨hD, o2, by rw [rn_raw]; omega⟩, rn_raw, rd_raw, rn_raw, rd_raw, if_neg (by omega)]
    simp
  · unfold mulR divR
    rw [if_neg (fun h => hD h.1), if_neg (fun h => hD h.1)]
theorem massV_mul (D : RatD) (i j : Nat) : massV D i j = if i = j then mulR D (ofFrac 1 ((6 : Int).natAbs)) else mulR D (ofFrac 1 ((12 : Int).natAbs)) := by
  unfold massV
  split
  · exact (mul_unit 6 (.inl rfl)).symm
  · exact (mul_unit 12 (.inr rfl)).symm

set_option maxRecDepth 100000 in
set_option maxHeartbeats 8000000 in
theorem LocalMass_any (w : World) {g n c0 : Nat} {l : List PtD} (h : RdPS w (some ⟨g, 0, none⟩) n c0 l) :
    Calls Tryz.prog 24 #[.slice (some ⟨g, 0, none⟩) n c0] w fun e w' => ∃ A1 n1 c1, e = .returned (.slice A1 n1 c1) ∧ OwSZ 3 34 51 w.heap.size w'.heap.size w' A1 n1 c1 (massL l) ∧ Bl w w' := by
  by_cases hp : propB l = true
  · obtain ⟨_, p0, p1, p2, e, _⟩ := propB_out hp
    subst e
    obtain rfl : 3 = n := h.len
    have hv : massL [p0, p1, p2] = sqIf (massTo (areaR p0 p1 p2) 3) := by unfold massL; rw [if_pos hp]; rfl
    have hv2 := Lib.hid (show areaL [p0, p1, p2] = (areaR p0 p1 p2) by unfold areaL; rw [if_pos hp]; rfl)
    rw [hv]
    clear hv
    have hp := Lib.hid hp; rename_i h_; clear h_
    go_enter Tryz.func24, Tryz.ntmps24
    go_wp2_with fail
    refine (IsProper_any _ h).mono ?_
    rw [hp.out]
    rintro e w1 ⟨rfl, hb1⟩
    go_wp2_with fail
    go_loopw [3, 12] (fun v i wr => ∃ (k hi : Nat), k ≤ 3 ∧ i = .int .i64 (k : Int) ∧ RowS List.Nodup w1.heap.size hi wr v (massTo (areaR p0 p1 p2) k) ∧ Bl w1 wr ∧ w1.heap.size ≤ hi) (fun _ i _ => 3 - (intOf i).toNat)
    case atStart => exact ⟨0, w1.heap.size + 1, by omega, rfl, RowG.empty appN_nodup w1 (Nat.le_refl _), (Bl.refl _).alloc _, by omega⟩
    case round =>
      obtain ⟨k, hi, hk, rfl, hrow, hbw, hlh⟩ := hrel
      have hhi0 := RowG.hiLe hrow
      have hbz := Bl.size hbw
      obtain ⟨wo, rfl⟩ : ∃ wo : World, wo = wr := ⟨_, rfl⟩
      by_cases hk3 : k < 3
      · have hki : (k : Int) < 3 := by omega
        go_wp2_with fail
        go_loopw [5, 16] (fun v2 j wr => ∃ (m hi2 : Nat), m ≤ 3 ∧ j = .int .i64 (m : Int) ∧ RowR List.Nodup wo.heap.size hi2 wr v2 (massRow (areaR p0 p1 p2) k m) ∧ Bl wo wr ∧ wo.heap.size ≤ hi2) (fun _ j _ => 3 - (intOf j).toNat)
        case atStart => exact ⟨0, _, by omega, rfl, RowG.empty appN_nodup wo (Nat.le_refl _), (Bl.refl _).alloc _, by omega⟩
        case round =>
          obtain ⟨m, hi2, hm, rfl, hrow2, hbw2, hlh2⟩ := hrel
          have hhi2 := RowG.hiLe hrow2
          have hbz2 := Bl.size hbw2
          by_cases hm3 : m < 3
          · have hmi : (m : Int) < 3 := by omega
            by_cases hkm : k = m
            · have hV : Hid (massV (areaR p0 p1 p2) k m = divR (areaR p0 p1 p2) (ofFrac 6 1)) := by unfold Hid massV; rw [if_pos hkm]
              have hkd : ((k : Int) == (m : Int)) = true := by simp [hkm]
              have hkm := Lib.hid hkm; rename_i h_; clear h_
              go_wp2_with fail
              refine (area_any _ (RdPS.bl h (hb1.next (hbw.next hbw2)))).mono ?_
              rintro e w2 ⟨s2, A2, n2, c2, B2, m2, d2, rfl, hR2, hb2⟩
              go_wp2_with fail
              refine (RatFromInt_any _ 6 (by omega) (by omega)).mono ?_
              rintro e w3 ⟨s3, A3, n3, c3, B3, m3, d3, rfl, hR3, hb3⟩
              have hz2 := Bl.size hb2
              have hz3 := Bl.size hb3
              go_wp2_with fail
              refine (RatDiv_any _ (hR2.rd.bl hb3) hR3.rd).mono ?_
              rintro e w4 ⟨s4, A4, n4, c4, B4, m4, d4, rfl, hR4, hb4⟩
              have hb5 := ((hbw2.next hb2).next hb3).next hb4
              have hrow4 := RowG.bl (rtIn_keep 3) (RowG.bl (rtIn_keep 3) (RowG.bl (rtIn_keep 3) hrow2 hb2) hb3) hb4
              clear hrow2
              rw [← hV.out] at hR4
              go_wp2_with ((refine wpList_append_rat rfl (.tmp 22) (.tmp 28) rfl _ (by rfl) hrow4 hR4 (by omega) hlh2 1 (by rfl) (by rw [massRow_len]; omega) wo hb5 (Nat.le_refl _) ?_; intro v' w8 hrow' hb8'; clear hrow4 hR4))
              have hz8 := hb8'.size
              rw [← massRow_succ] at hrow'
              go_roundw
              case rel => exact ⟨m + 1, _, by omega, by go_num, hrow', hb8', hz8⟩
              case measure => simp [intOf]; omega
            · have hV : Hid (massV (areaR p0 p1 p2) k m = divR (areaR p0 p1 p2) (ofFrac 12 1)) := by unfold Hid massV; rw [if_neg hkm]
              have hkd : ((k : Int) == (m : Int)) = false := by simp; omega
              have hkm := Lib.hid hkm; rename_i h_; clear h_
              go_wp2_with fail
              refine (area_any _ (RdPS.bl h (hb1.next (hbw.next hbw2)))).mono ?_
              rintro e w2 ⟨s2, A2, n2, c2, B2, m2, d2, rfl, hR2, hb2⟩
              go_wp2_with fail
              refine (RatFromInt_any _ 12 (by omega) (by omega)).mono ?_
              rintro e w3 ⟨s3, A3, n3, c3, B3, m3, d3, rfl, hR3, hb3⟩
              have hz2 := Bl.size hb2
              have hz3 := Bl.size hb3
              go_wp2_with fail
              refine (RatDiv_any _ (hR2.rd.bl hb3) hR3.rd).mono ?_
              rintro e w4 ⟨s4, A4, n4, c4, B4, m4, d4, rfl, hR4, hb4⟩
              have hb5 := ((hbw2.next hb2).next hb3).next hb4
              have hrow4 := RowG.bl (rtIn_keep 3) (RowG.bl (rtIn_keep 3) (RowG.bl (rtIn_keep 3) hrow2 hb2) hb3) hb4
              clear hrow2
              rw [← hV.out] at hR4
              go_wp2_with ((refine wpList_append_rat rfl (.tmp 22) (.tmp 28) rfl _ (by rfl) hrow4 hR4 (by omega) hlh2 1 (by rfl) (by rw [massRow_len]; omega) wo hb5 (Nat.le_refl _) ?_; intro v' w8 hrow' hb8'; clear hrow4 hR4))
              have hz8 := hb8'.size
              rw [← massRow_succ] at hrow'
              go_roundw
              case rel => exact ⟨m + 1, _, by omega, by go_num, hrow', hb8', hz8⟩
              case measure => simp [intOf]; omega
          · obtain rfl : m = 3 := by omega
            obtain ⟨A7, c7, bs7, rfl, hft, hnd, hbs⟩ := RowR.ft hrow2 (by rw [massRow_len]; omega)
            have hrow := RowG.bl (rsIn_keep 3 34) hrow hbw2
            have hb6 := hbw.next hbw2
            go_wp2_with ((refine wpList_append_rats rfl (.tmp 31) (.tmp 33) rfl _ (by rfl) hrow hft hnd (fun b hb => ⟨by have := (hbs b hb).1; omega, Nat.lt_of_lt_of_le (hbs b hb).2 hhi2⟩) hlh 1 (by rfl) (by rw [massTo_len]; omega) w1 hb6 (Nat.le_refl _) ?_; intro v' w8 hrow' hb8'; clear hrow hft))
            have hz8 := hb8'.size
            rw [← massTo_succ] at hrow'
            go_roundw
            case rel => exact ⟨k + 1, _, by omega, by go_num, hrow', hb8', hz8⟩
            case measure => simp [intOf]; omega
      · obtain rfl : k = 3 := by omega
        obtain ⟨A1, c1, rfl, hZ⟩ := RowS.own hrow (by rw [massTo_len]; omega)
        rw [massTo_len] at hZ ⊢
        have hbf := hb1.next hbw
        have hhi3 := RowG.hiLe hrow
        go_wp2_with fail
        refine (ifSquare_any _ hZ.rd (massTo_z _)).mono ?_
        rintro e w7 ⟨⟨hs, rfl⟩ | ⟨hs, rfl⟩, hb7⟩
        · have hv := Lib.hid (show sqIf (massTo (areaR p0 p1 p2) 3) = massTo (areaR p0 p1 p2) 3 from if_pos hs)
          have hs := Lib.hid hs; rename_i h_; clear h_
          go_wp2_with fail
          go_ret
          rw [hv.out]
          exact ⟨_, _, _, rfl, (OwSZ.bl hZ hb7).low (Bl.size hb1) (Nat.le_trans hhi3 (Bl.size hb7)), hbf.next hb7⟩
        · have hv := Lib.hid (show sqIf (massTo (areaR p0 p1 p2) 3) = [] from if_neg hs)
          have hs := Lib.hid hs; rename_i h_; clear h_
          go_wp2_with fail
          go_ret
          rw [hv.out]
          exact ⟨_, _, _, rfl, ⟨rfl, Nat.le_refl _, Nat.zero_le _, .inl rfl⟩, hbf.next hb7⟩
  · have hval := Lib.hid (show massL l = [] by unfold massL; rw [if_neg hp])
    have hp := Lib.hid (Bool.eq_false_iff.2 hp); rename_i h_; clear h_
    go_enter Tryz.func24, Tryz.ntmps24
    go_wp2_with fail
    refine (IsProper_any _ h).mono ?_
    rw [hp.out]
    rintro e w1 ⟨rfl, hb1⟩
    go_wp2_with fail
    go_ret
    rw [hval.out]
    exact ⟨_, _, _, rfl, ⟨rfl, Nat.le_refl _, Nat.zero_le _, .inl rfl⟩, hb1⟩


end

end Go.Proofs.YtggjdgjkdmgjnaaGreat
