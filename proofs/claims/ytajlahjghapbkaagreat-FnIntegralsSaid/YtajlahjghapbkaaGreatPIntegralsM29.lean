/- Lemmas. -/
import Derived.Test.YtajlahjghapbkaaGreatRows
import Derived.Test.YtajlahjghapbkaaGreatPIntegralsM28
import Derived.Test.YtajlahjghapbkaaGreatPIntegralsM25
namespace Go.Proofs.YtajlahjghapbkaaGreat
section
open Go.RowKit

/-- All fractions of a list of lists are valid. -/
def SqOk (L : List (List RatD)) : Prop := ∀ i, i < L.length → ∀ j, j < (pix L i).length → OkR (pix (pix L i) j)
open Classical in
noncomputable def sqIf (L : List (List RatD)) : List (List RatD) := if SqOk L then L else []
noncomputable def massV (D : RatD) (i j : Nat) : RatD := divR D (ofFrac (if i = j then 6 else 12) 1)
noncomputable def massRow (D : RatD) (i k : Nat) : List RatD := (List.range k).map (massV D i)
noncomputable def massTo (D : RatD) (k : Nat) : List (List RatD) := (List.range k).map fun i => massRow D i 3
noncomputable def massL (l : List PtD) : List (List RatD) := if propB l = true then sqIf (massTo (areaR (pix l 0) (pix l 1) (pix l 2)) 3) else []
theorem massRow_succ (D : RatD) (i k : Nat) : massRow D i (k + 1) = massRow D i k ++ [massV D i k] := by unfold massRow; rw [List.range_succ, List.map_append]; rfl
theorem massRow_len (D : RatD) (i k : Nat) : (massRow D i k).length = k := by simp [massRow]
theorem massTo_succ (D : RatD) (k : Nat) : massTo D (k + 1) = massTo D k ++ [massRow D k 3] := by unfold massTo; rw [List.range_succ, List.map_append]; rfl
theorem massTo_len (D : RatD) (k : Nat) : (massTo D k).length = k := by simp [massTo]
/-- Lists whose fractions are computed ones. -/
def ZOk (L : List (List RatD)) : Prop := ∀ i, i < L.length → 0 < (pix L i).length ∧ ∀ j, j < (pix L i).length → pix (pix L i) j = zR ∨ OkR (pix (pix L i) j)
theorem divR_z (r s : RatD) : divR r s = zR ∨ OkR (divR r s) := by
  unfold divR
  split
  · rename_i h
    exact ofFrac_ok (Nat.mul_pos h.1.get.2.1 (by have := h.2.2; omega))
  · exact .inl rfl
theorem massTo_z (D : RatD) : ZOk (massTo D 3) := by
  intro i hi
  rw [massTo_len] at hi
  have e : pix (massTo D 3) i = massRow D i 3 := by simp [pix, massTo, hi]
  rw [e, massRow_len]
  refine ⟨by omega, fun j hj => ?_⟩
  have e2 : pix (massRow D i 3) j = massV D i j := by simp [pix, massRow, hj]
  rw [e2]
  exact divR_z _ _
def ZTo (l : List RatD) : Prop := ∀ j, j < l.length → pix l j = zR ∨ OkR (pix l j)
set_option maxHeartbeats 1600000 in
theorem ifVectorF_any (w : World) {s : Bool} {A : Option Addr} {n c : Nat} {B : Option Addr} {m d : Nat} {r : RatD} {b : Bool} (h : RdR w s A n c B m d r) (hz : r = zR ∨ OkR r) (hb : okR r = b) :
    Calls Tryz.prog 182 #[.agg #[.bool s, .slice A n c, .slice B m d]] w fun e w' => e = .returned (.bool (!b)) ∧ Bl w w' := by
  have hd := okR_den hz
  rw [h.den.len, ← okR_true] at hd
  cases b with
  | true =>
    have hm : 0 < m := by have := hd.2 hb; omega
    clear hd hz h hb
    go_enter Tryz.func182, Tryz.ntmps182
    go_wp2_with fail
    refine (isRat_yes _ hm).mono ?_
    rintro e w1 ⟨rfl, hb1⟩
    go_wp2_with fail
    go_ret
    exact ⟨rfl, slc⟩
  | false =>
    obtain rfl : m = 0 := by
      rcases Nat.eq_zero_or_pos m with h0 | h0
      · exact h0
      · rw [hd.1 (by omega)] at hb; cases hb
    clear hd hz h hb
    go_enter Tryz.func182, Tryz.ntmps182
    go_wp2_with fail
    refine (isRat_no _ rfl).mono ?_
    rintro e w1 ⟨rfl, hb1⟩
    go_wp2_with fail
    go_ret
    exact ⟨rfl, slc⟩
set_option maxHeartbeats 1600000 in
theorem IndexRatV_any (w : World) {A : Option Addr} {n c : Nat} {l : List RatD} (h : RdRS w A n c l) (hz : ZTo l) :
    Calls Tryz.prog 196 #[.slice A n c, .func (.func 182) #[] #[]] w (IdxPostB (AllOk l) w) := by
  have hn := h.small
  have hl := Lib.hid h.len
  go_enter Tryz.func196, Tryz.ntmps196
  go_wp2_with fail
  go_loopw [8] (fun i wr => ∃ k : Nat, k ≤ n ∧ i = .int .i64 (k : Int) ∧ OkTo l k ∧ Bl w wr) (fun i _ => n - (intOf i).toNat)
  case atStart => exact ⟨0, Nat.zero_le _, rfl, OkTo.zero _, Bl.refl _⟩
  case round =>
    obtain ⟨k, hk, rfl, hin, hbw⟩ := hrel
    by_cases hkn : k < n
    · have hki : (k : Int) < (n : Int) := by omega
      obtain ⟨ad, rfl, hlta, hca⟩ := (h.bl hbw).cells k hkn
      obtain ⟨s, A, n', c', B, m, d', ⟨g0, g1, g2⟩, hx⟩ := hca
      by_cases ho : OkR (pix l k)
      · have hin' := hin.step ho
        have hok := okR_of ho
        clear hin ho
        go_wp2_with fail
        refine (ifVectorF_any _ hx (hz k (by rw [hl.out]; exact hkn)) hok).mono ?_
        rintro e w1 ⟨rfl, hb1⟩
        have hb2 : Bl w w1 := slc
        clear hb1
        go_wp2_with fail
        go_roundw
        case rel => exact ⟨k + 1, by omega, by go_num, hin', hb2⟩
        case measure => simp [intOf]; omega
      · have hno : ¬ AllOk l := fun ha => ho (ha k (by rw [hl.out]; exact hkn))
        have hno := Lib.hid hno; rename_i h_; clear h_
        have hok := okR_no ho
        clear hin ho
        go_wp2_with fail
        refine (ifVectorF_any _ hx (hz k (by rw [hl.out]; exact hkn)) hok).mono ?_
        rintro e w1 ⟨rfl, hb1⟩
        have hb2 : Bl w w1 := slc
        clear hb1
        go_wp2_with fail
        go_ret
        exact ⟨_, rfl, fun ha => absurd ha hno.out, fun _ => by omega, hb2⟩
    · have hall : AllOk l := fun j hj => hin j (by rw [hl.out] at hj; omega)
      have hall := Lib.hid hall; rename_i h_; clear h_
      go_wp2_with fail
      go_ret
      exact ⟨_, rfl, fun _ => rfl, fun hno => absurd hall.out hno, hbw⟩
theorem ContainsRatV_yes (w : World) {A : Option Addr} {n c : Nat} {l : List RatD} (h : RdRS w A n c l) (hz : ZTo l) (hp : AllOk l) :
    Calls Tryz.prog 151 #[.slice A n c, .func (.func 182) #[] #[]] w fun e w' => e = .returned (.bool false) ∧ Bl w w' := by
  have hp := Lib.hid hp; rename_i h_; clear h_
  go_enter Tryz.func151, Tryz.ntmps151
  go_wp2_with fail
  refine (IndexRatV_any _ h hz).mono ?_
  rintro e w1 ⟨i, rfl, h1, _, hb⟩
  have h1 := h1 hp.out
  subst h1
  go_wp2_with fail
  go_ret
  exact ⟨rfl, hb⟩
theorem ContainsRatV_no (w : World) {A : Option Addr} {n c : Nat} {l : List RatD} (h : RdRS w A n c l) (hz : ZTo l) (hp : ¬ AllOk l) :
    Calls Tryz.prog 151 #[.slice A n c, .func (.func 182) #[] #[]] w fun e w' => e = .returned (.bool true) ∧ Bl w w' := by
  have hp := Lib.hid hp; rename_i h_; clear h_
  go_enter Tryz.func151, Tryz.ntmps151
  go_wp2_with fail
  refine (IndexRatV_any _ h hz).mono ?_
  rintro e w1 ⟨i, rfl, _, h1, hb⟩
  have h1 := h1 hp.out
  go_wp2_with fail
  go_ret
  exact ⟨rfl, hb⟩

theorem ifVector_yes (w : World) {A : Option Addr} {n c : Nat} {l : List RatD} (h : RdRS w A n c l) (hz : ZTo l) (hp : AllOk l) :
    Calls Tryz.prog 135 #[.slice A n c] w fun e w' => e = .returned (.slice A n c) ∧ Bl w w' := by
  have hp := Lib.hid hp; rename_i h_; clear h_
  go_enter Tryz.func135, Tryz.ntmps135
  go_wp2_with fail
  refine (ContainsRatV_yes _ h hz hp.out).mono ?_
  rintro e w1 ⟨rfl, hb⟩
  go_wp2_with fail
  go_ret
  exact ⟨rfl, hb⟩
theorem ifVector_no (w : World) {A : Option Addr} {n c : Nat} {l : List RatD} (h : RdRS w A n c l) (hz : ZTo l) (hp : ¬ AllOk l) :
    Calls Tryz.prog 135 #[.slice A n c] w fun e w' => e = .returned (.slice none 0 0) ∧ Bl w w' := by
  have hp := Lib.hid hp; rename_i h_; clear h_
  go_enter Tryz.func135, Tryz.ntmps135
  go_wp2_with fail
  refine (ContainsRatV_no _ h hz hp.out).mono ?_
  rintro e w1 ⟨rfl, hb⟩
  go_wp2_with fail
  go_ret
  exact ⟨rfl, hb⟩
def SqTo (L : List (List RatD)) (k : Nat) : Prop := ∀ i, i < k → AllOk (pix L i)
theorem SqTo.step {L : List (List RatD)} {k : Nat} (h : SqTo L k) (h0 : AllOk (pix L k)) : SqTo L (k + 1) := by
  intro j hj
  rcases Nat.lt_succ_iff_lt_or_eq.1 hj with hj | rfl
  · exact h j hj
  · exact h0
set_option maxHeartbeats 4000000 in
theorem ifSquare_any (w : World) {A : Option Addr} {n c : Nat} {L : List (List RatD)} (h : RdRSS w A n c L) (hz : ZOk L) :
    Calls Tryz.prog 159 #[.slice A n c] w fun e w' => ((SqOk L ∧ e = .returned (.slice A n c)) ∨ (¬ SqOk L ∧ e = .returned (.slice none 0 0))) ∧ Bl w w' := by
  have hn := h.small
  have hl := Lib.hid h.len
  go_enter Tryz.func159, Tryz.ntmps159
  go_wp2_with fail
  go_loopw [7] (fun i wr => ∃ k : Nat, k ≤ n ∧ i = .int .i64 (k : Int) ∧ SqTo L k ∧ Bl w wr) (fun i _ => n - (intOf i).toNat)
  case atStart => exact ⟨0, Nat.zero_le _, rfl, fun j hj => by omega, Bl.refl _⟩
  case round =>
    obtain ⟨k, hk, rfl, hin, hbw⟩ := hrel
    by_cases hkn : k < n
    · have hki : (k : Int) < (n : Int) := by omega
      obtain ⟨ad, rfl, hlta, hca⟩ := (RdRSS.bl h hbw).cells k hkn
      obtain ⟨A', n', c', g0, hx⟩ := hca
      rw [Nat.mul_one] at g0
      have hzk := hz k (by rw [hl.out]; exact hkn)
      have hn' : 0 < n' := by rw [← hx.len]; exact hzk.1
      by_cases ho : AllOk (pix L k)
      · have hin' := hin.step ho
        have ho := Lib.hid ho; rename_i h_; clear h_
        clear hin
        go_wp2_with fail
        refine (ifVector_yes _ hx hzk.2 ho.out).mono ?_
        rintro e w1 ⟨rfl, hb1⟩
        have hb2 : Bl w w1 := slc
        clear hb1
        go_wp2_with fail
        go_roundw
        case rel => exact ⟨k + 1, by omega, by go_num, hin', hb2⟩
        case measure => simp [intOf]; omega
      · have hno : ¬ SqOk L := fun ha => ho fun j hj => ha k (by rw [hl.out]; exact hkn) j hj
        have hno := Lib.hid hno; rename_i h_; clear h_
        have ho := Lib.hid ho; rename_i h_; clear h_
        clear hin
        go_wp2_with fail
        refine (ifVector_no _ hx hzk.2 ho.out).mono ?_
        rintro e w1 ⟨rfl, hb1⟩
        have hb2 : Bl w w1 := slc
        clear hb1
        go_wp2_with fail
        go_ret
        exact ⟨.inr ⟨hno.out, rfl⟩, hb2⟩
    · have hall : SqOk L := fun j hj i hi => hin j (by rw [hl.out] at hj; omega) i hi
      have hall := Lib.hid hall; rename_i h_; clear h_
      go_wp2_with fail
      go_ret
      exact ⟨.inl ⟨hall.out, rfl⟩, hbw⟩
end

section
open Go.RowKit
def TrsE (_ : World) (cs : Array Value) (i : Nat) (t : TriD) (bs : List Nat) : Prop := TrIn cs i t ∧ bs = []
theorem trIn_keep : KeepE 5 TrsE := by
  intro w W cs cs' i i' x bs h hc hs hb
  obtain ⟨⟨h0, h1, h2, h3, h4⟩, e⟩ := h
  exact ⟨⟨(hc 0 (by omega)).trans h0, (hc 1 (by omega)).trans h1, (hc 2 (by omega)).trans h2, (hc 3 (by omega)).trans h3, (hc 4 (by omega)).trans h4⟩, e⟩
abbrev RowT (lo hi : Nat) (w : World) (v : Value) (l : List TriD) : Prop := RowG AnyN 73 5 TrsE lo hi w v l
end

section
open Go.RowKit
end

section
open Go.RowKit

section
variable {x0 y0 x1 y1 x2 y2 : Rat}
/-- Six small coordinates. -/
def Sm6 (x0 y0 x1 y1 x2 y2 : Rat) : Prop := Bd 17 x0 ∧ Bd 17 y0 ∧ Bd 17 x1 ∧ Bd 17 y1 ∧ Bd 17 x2 ∧ Bd 17 y2
def gX (x0 y0 x1 y1 x2 y2 : Rat) : Nat → Rat
  | 0 => (y1 - y2) / detQ x0 y0 x1 y1 x2 y2
  | 1 => (y2 - y0) / detQ x0 y0 x1 y1 x2 y2
  | _ => (y0 - y1) / detQ x0 y0 x1 y1 x2 y2
def gY (x0 y0 x1 y1 x2 y2 : Rat) : Nat → Rat
  | 0 => (x2 - x1) / detQ x0 y0 x1 y1 x2 y2
  | 1 => (x0 - x2) / detQ x0 y0 x1 y1 x2 y2
  | _ => (x1 - x0) / detQ x0 y0 x1 y1 x2 y2
def arQ (x0 y0 x1 y1 x2 y2 : Rat) : Rat := mkRat 1 2 * detQ x0 y0 x1 y1 x2 y2
theorem half_sm : ofFrac 1 2 = toR (mkRat 1 2) ∧ Bd 2 (mkRat 1 2) := by
  have hb : Bd 2 (mkRat 1 2) := bd_mk (by omega) (by decide) (by omega)
  refine ⟨?_, hb⟩
  rw [ofFrac_toR 1 (by omega), if_pos (hb.fit (by decide))]
theorem area_toP (h : Sm6 x0 y0 x1 y1 x2 y2) : areaR (toP x0 y0) (toP x1 y1) (toP x2 y2) = toR (arQ x0 y0 x1 y1 x2 y2) ∧ Bd 446448476224 (arQ x0 y0 x1 y1 x2 y2) := by
  obtain ⟨a0, b0, a1, b1, a2, b2⟩ := h
  obtain ⟨e, hd⟩ := dblA_toP a0 b0 a1 b1 a2 b2
  obtain ⟨e2, hh⟩ := half_sm
  have ha : Bd 446448476224 (arQ x0 y0 x1 y1 x2 y2) := (hh.mul hd).mono (by decide)
  refine ⟨?_, ha⟩
  unfold areaR
  rw [e, e2, mulR_toR (hh.fit (by decide)) (hd.fit (by decide)) (ha.fit (by decide))]
  rfl
theorem det_pos (h : Sm6 x0 y0 x1 y1 x2 y2) (hp : propB [toP x0 y0, toP x1 y1, toP x2 y2] = true) : 0 < detQ x0 y0 x1 y1 x2 y2 := by
  obtain ⟨a0, b0, a1, b1, a2, b2⟩ := h
  obtain ⟨_, a, b, c, e, hs⟩ := propB_out hp
  injection e with q1 e
  injection e with q2 e
  injection e with q3 e
  subst q1 q2 q3
  obtain ⟨e, hd⟩ := dblA_toP a0 b0 a1 b1 a2 b2
  rw [e, sgnR_toR (hd.fit (by decide))] at hs
  by_cases h1 : detQ x0 y0 x1 y1 x2 y2 < 0
  · rw [if_pos h1] at hs; omega
  · rw [if_neg h1] at hs
    by_cases h2 : 0 < detQ x0 y0 x1 y1 x2 y2
    · exact h2
    · rw [if_neg h2] at hs; omega
theorem gX_bd (h : Sm6 x0 y0 x1 y1 x2 y2) (i : Nat) : Bd 129023609628736 (gX x0 y0 x1 y1 x2 y2 i) := by
  obtain ⟨a0, b0, a1, b1, a2, b2⟩ := h
  have hd := (dblA_toP a0 b0 a1 b1 a2 b2).2
  unfold gX
  split
  · exact ((b1.sub b2).div hd).mono (by decide)
  · exact ((b2.sub b0).div hd).mono (by decide)
  · exact ((b0.sub b1).div hd).mono (by decide)
theorem gY_bd (h : Sm6 x0 y0 x1 y1 x2 y2) (i : Nat) : Bd 129023609628736 (gY x0 y0 x1 y1 x2 y2 i) := by
  obtain ⟨a0, b0, a1, b1, a2, b2⟩ := h
  have hd := (dblA_toP a0 b0 a1 b1 a2 b2).2
  unfold gY
  split
  · exact ((a2.sub a1).div hd).mono (by decide)
  · exact ((a0.sub a2).div hd).mono (by decide)
  · exact ((a1.sub a0).div hd).mono (by decide)
theorem gradR_toP {a b c d e f : Rat} (h1 : Bd 17 a) (h2 : Bd 17 b) (h3 : Bd 17 c) (h4 : Bd 17 d) (hd : Bd 223224238112 e) (h0 : e ≠ 0) (hf : f = e) : gradR (toR f) (toP a b) (toP c d) = toP ((b - d) / e) ((c - a) / e) := by
  subst hf
  have s1 : Bd 578 (b - d) := (h2.sub h4).mono (by decide)
  have s2 : Bd 578 (c - a) := (h3.sub h1).mono (by decide)
  have t1 : Bd 129023609628736 ((b - d) / f) := (s1.div hd).mono (by decide)
  have t2 : Bd 129023609628736 ((c - a) / f) := (s2.div hd).mono (by decide)
  unfold gradR
  rw [show (toP a b).x = toR a from rfl, show (toP a b).y = toR b from rfl, show (toP c d).x = toR c from rfl, show (toP c d).y = toR d from rfl,
    subR_toR (h2.fit (by decide)) (h4.fit (by decide)) (s1.fit (by decide)), subR_toR (h3.fit (by decide)) (h1.fit (by decide)) (s2.fit (by decide)),
    divR_toR (s1.fit (by decide)) (hd.fit (by decide)) h0 (t1.fit (by decide)), divR_toR (s2.fit (by decide)) (hd.fit (by decide)) h0 (t2.fit (by decide))]
  rfl
theorem grad3_toP (h : Sm6 x0 y0 x1 y1 x2 y2) (hp : 0 < detQ x0 y0 x1 y1 x2 y2) (i : Nat) : grad3 (toP x0 y0) (toP x1 y1) (toP x2 y2) i = toP (gX x0 y0 x1 y1 x2 y2 i) (gY x0 y0 x1 y1 x2 y2 i) := by
  have h' := h
  obtain ⟨a0, b0, a1, b1, a2, b2⟩ := h'
  obtain ⟨e, hd⟩ := dblA_toP a0 b0 a1 b1 a2 b2
  have h0 : detQ x0 y0 x1 y1 x2 y2 ≠ 0 := by grind
  rcases i with _ | _ | i
  · unfold grad3 gX gY
    rw [e]
    exact gradR_toP a1 b1 a2 b2 hd h0 rfl
  · unfold grad3 gX gY
    rw [e]
    exact gradR_toP a2 b2 a0 b0 hd h0 rfl
  · unfold grad3 gX gY
    rw [e]
    exact gradR_toP a0 b0 a1 b1 hd h0 rfl
theorem gradOk_toP (h : Sm6 x0 y0 x1 y1 x2 y2) (hp : 0 < detQ x0 y0 x1 y1 x2 y2) (k : Nat) : GradOk (toP x0 y0) (toP x1 y1) (toP x2 y2) k := by
  intro j _
  rw [grad3_toP h hp]
  exact ⟨((gX_bd h j).fit (by decide)).ok, ((gY_bd h j).fit (by decide)).ok⟩
theorem pix_gradTo (p q r : PtD) {k i : Nat} (h : i < k) : pix (gradTo p q r k) i = grad3 p q r i := by simp [pix, gradTo, h]
end
end

end Go.Proofs.YtajlahjghapbkaaGreat
