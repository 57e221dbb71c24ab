-- merged: El0 El1 El2
import Derived.Test.YtggjdgjkdmgjnaaGreatRows
import Derived.Test.YtggjdgjkdmgjnaaGreatOpb
import Derived.Test.YtggjdgjkdmgjnaaGreatLs2
import Derived.Test.YtggjdgjkdmgjnaaGreatSm
import Derived.Deep.Cut
import Derived.Deep.DeepCutAuto
namespace Go.Proofs.YtggjdgjkdmgjnaaGreat
open Go.RowKit
section


section
variable {x0 y0 x1 y1 x2 y2 : Rat}
/-- Six small coordinates. -/
def Sm6 (x0 y0 x1 y1 x2 y2 : Rat) : Prop := Bd 17 x0 ∧ Bd 17 y0 ∧ Bd 17 x1 ∧ Bd 17 y1 ∧ Bd 17 x2 ∧ Bd 17 y2
def gX (x0 y0 x1 y1 x2 y2 : Rat) : Nat → Rat
  | 0 => (y1 - y2) / detQ x0 y0 x1 y1 x2 y2
  | 1 => (y2 - y0) / detQ x0 y0 x1 y1 x2 y2
  | _ => (y0 - y1) / detQ x0 y0 x1 y1 x2 y2
def gY (x0 y0 x1 y1 x2 y2 : Rat) : Nat → Rat
  | 0 => (x2 - x1) / detQ x0 y0 x1 y1 x2 y2
  | 1 => (x0 - x2) / detQ x0 y0 x1 y1 x2 y2
  | _ => (x1 - x0) / detQ x0 y0 x1 y1 x2 y2
def arQ (x0 y0 x1 y1 x2 y2 : Rat) : Rat := mkRat 1 2 * detQ x0 y0 x1 y1 x2 y2
def kQ (x0 y0 x1 y1 x2 y2 : Rat) (i j : Nat) : Rat := arQ x0 y0 x1 y1 x2 y2 * (gX x0 y0 x1 y1 x2 y2 i * gX x0 y0 x1 y1 x2 y2 j + gY x0 y0 x1 y1 x2 y2 i * gY x0 y0 x1 y1 x2 y2 j)
theorem half_sm : ofFrac 1 2 = toR (mkRat 1 2) ∧ Bd 2 (mkRat 1 2) := by
  have hb : Bd 2 (mkRat 1 2) := bd_mk (by omega) (by decide) (by omega)
  refine ⟨?_, hb⟩
  rw [ofFrac_toR 1 (by omega), if_pos (hb.fit (by decide))]
theorem area_toP (h : Sm6 x0 y0 x1 y1 x2 y2) : areaR (toP x0 y0) (toP x1 y1) (toP x2 y2) = toR (arQ x0 y0 x1 y1 x2 y2) ∧ Bd 446448476224 (arQ x0 y0 x1 y1 x2 y2) := by
  obtain ⟨a0, b0, a1, b1, a2, b2⟩ := h
  obtain ⟨e, hd⟩ := dblA_toP a0 b0 a1 b1 a2 b2
  obtain ⟨e2, hh⟩ := half_sm
  have ha : Bd 446448476224 (arQ x0 y0 x1 y1 x2 y2) := (hh.mul hd).mono (by decide)
  refine ⟨?_, ha⟩
  unfold areaR
  rw [e, e2, mulR_toR (hh.fit (by decide)) (hd.fit (by decide)) (ha.fit (by decide))]
  rfl
theorem det_pos (h : Sm6 x0 y0 x1 y1 x2 y2) (hp : propB [toP x0 y0, toP x1 y1, toP x2 y2] = true) : 0 < detQ x0 y0 x1 y1 x2 y2 := by
  obtain ⟨a0, b0, a1, b1, a2, b2⟩ := h
  obtain ⟨_, a, b, c, e, hs⟩ := propB_out hp
  injection e with q1 e
  injection e with q2 e
  injection e with q3 e
  subst q1 q2 q3
  obtain ⟨e, hd⟩ := dblA_toP a0 b0 a1 b1 a2 b2
  rw [e, sgnR_toR (hd.fit (by decide))] at hs
  by_cases h1 : detQ x0 y0 x1 y1 x2 y2 < 0
  · rw [if_pos h1] at hs; omega
  · rw [if_neg h1] at hs
    by_cases h2 : 0 < detQ x0 y0 x1 y1 x2 y2
    · exact h2
    · rw [if_neg h2] at hs; omega
theorem gX_bd (h : Sm6 x0 y0 x1 y1 x2 y2) (i : Nat) : Bd 129023609628736 (gX x0 y0 x1 y1 x2 y2 i) := by
  obtain ⟨a0, b0, a1, b1, a2, b2⟩ := h
  have hd := (dblA_toP a0 b0 a1 b1 a2 b2).2
  unfold gX
  split
  · exact ((b1.sub b2).div hd).mono (by decide)
  · exact ((b2.sub b0).div hd).mono (by decide)
  · exact ((b0.sub b1).div hd).mono (by decide)
theorem gY_bd (h : Sm6 x0 y0 x1 y1 x2 y2) (i : Nat) : Bd 129023609628736 (gY x0 y0 x1 y1 x2 y2 i) := by
  obtain ⟨a0, b0, a1, b1, a2, b2⟩ := h
  have hd := (dblA_toP a0 b0 a1 b1 a2 b2).2
  unfold gY
  split
  · exact ((a2.sub a1).div hd).mono (by decide)
  · exact ((a0.sub a2).div hd).mono (by decide)
  · exact ((a1.sub a0).div hd).mono (by decide)
theorem kQ_bd (h : Sm6 x0 y0 x1 y1 x2 y2) (i j : Nat) : Bd 247444663316207752276429486686767784207440241737649251473746053562368 (kQ x0 y0 x1 y1 x2 y2 i j) :=
  ((area_toP h).2.mul (((gX_bd h i).mul (gX_bd h j)).add ((gY_bd h i).mul (gY_bd h j)))).mono (by decide)
theorem gradR_toP {a b c d e f : Rat} (h1 : Bd 17 a) (h2 : Bd 17 b) (h3 : Bd 17 c) (h4 : Bd 17 d) (hd : Bd 223224238112 e) (h0 : e ≠ 0) (hf : f = e) : gradR (toR f) (toP a b) (toP c d) = toP ((b - d) / e) ((c - a) / e) := by
  subst hf
  have s1 : Bd 578 (b - d) := (h2.sub h4).mono (by decide)
  have s2 : Bd 578 (c - a) := (h3.sub h1).mono (by decide)
  have t1 : Bd 129023609628736 ((b - d) / f) := (s1.div hd).mono (by decide)
  have t2 : Bd 129023609628736 ((c - a) / f) := (s2.div hd).mono (by decide)
  unfold gradR
  rw [show (toP a b).x = toR a from rfl, show (toP a b).y = toR b from rfl, show (toP c d).x = toR c from rfl, show (toP c d).y = toR d from rfl,
    subR_toR (h2.fit (by decide)) (h4.fit (by decide)) (s1.fit (by decide)), subR_toR (h3.fit (by decide)) (h1.fit (by decide)) (s2.fit (by decide)),
    divR_toR (s1.fit (by decide)) (hd.fit (by decide)) h0 (t1.fit (by decide)), divR_toR (s2.fit (by decide)) (hd.fit (by decide)) h0 (t2.fit (by decide))]
  rfl
theorem grad3_toP (h : Sm6 x0 y0 x1 y1 x2 y2) (hp : 0 < detQ x0 y0 x1 y1 x2 y2) (i : Nat) : grad3 (toP x0 y0) (toP x1 y1) (toP x2 y2) i = toP (gX x0 y0 x1 y1 x2 y2 i) (gY x0 y0 x1 y1 x2 y2 i) := by
  have h' := h
  obtain ⟨a0, b0, a1, b1, a2, b2⟩ := h'
  obtain ⟨e, hd⟩ := dblA_toP a0 b0 a1 b1 a2 b2
  have h0 : detQ x0 y0 x1 y1 x2 y2 ≠ 0 := by grind
  rcases i with _ | _ | i
  · unfold grad3 gX gY
    rw [e]
    exact gradR_toP a1 b1 a2 b2 hd h0 rfl
  · unfold grad3 gX gY
    rw [e]
    exact gradR_toP a2 b2 a0 b0 hd h0 rfl
  · unfold grad3 gX gY
    rw [e]
    exact gradR_toP a0 b0 a1 b1 hd h0 rfl
theorem gradOk_toP (h : Sm6 x0 y0 x1 y1 x2 y2) (hp : 0 < detQ x0 y0 x1 y1 x2 y2) (k : Nat) : GradOk (toP x0 y0) (toP x1 y1) (toP x2 y2) k := by
  intro j _
  rw [grad3_toP h hp]
  exact ⟨((gX_bd h j).fit (by decide)).ok, ((gY_bd h j).fit (by decide)).ok⟩
theorem pix_gradTo (p q r : PtD) {k i : Nat} (h : i < k) : pix (gradTo p q r k) i = grad3 p q r i := by simp [pix, gradTo, h]
theorem stifV_toP (h : Sm6 x0 y0 x1 y1 x2 y2) (hp : 0 < detQ x0 y0 x1 y1 x2 y2) {i j : Nat} (hi : i < 3) (hj : j < 3) :
    stifV (areaR (toP x0 y0) (toP x1 y1) (toP x2 y2)) (gradTo (toP x0 y0) (toP x1 y1) (toP x2 y2) 3) i j = toR (kQ x0 y0 x1 y1 x2 y2 i j) := by
  obtain ⟨e, ha⟩ := area_toP h
  have m1 : Bd 16647091841628457051756957696 (gX x0 y0 x1 y1 x2 y2 i * gX x0 y0 x1 y1 x2 y2 j) := ((gX_bd h i).mul (gX_bd h j)).mono (by decide)
  have m2 : Bd 16647091841628457051756957696 (gY x0 y0 x1 y1 x2 y2 i * gY x0 y0 x1 y1 x2 y2 j) := ((gY_bd h i).mul (gY_bd h j)).mono (by decide)
  have m3 : Bd 554251333567225467597678577236061128152585627891067256832 (gX x0 y0 x1 y1 x2 y2 i * gX x0 y0 x1 y1 x2 y2 j + gY x0 y0 x1 y1 x2 y2 i * gY x0 y0 x1 y1 x2 y2 j) := (m1.add m2).mono (by decide)
  unfold stifV
  rw [pix_gradTo _ _ _ hi, pix_gradTo _ _ _ hj, grad3_toP h hp, grad3_toP h hp, e]
  unfold innP
  rw [show ∀ a b : Rat, (toP a b).x = toR a from fun _ _ => rfl, show ∀ a b : Rat, (toP a b).y = toR b from fun _ _ => rfl, show ∀ a b : Rat, (toP a b).x = toR a from fun _ _ => rfl, show ∀ a b : Rat, (toP a b).y = toR b from fun _ _ => rfl,
    mulR_toR ((gX_bd h i).fit (by decide)) ((gX_bd h j).fit (by decide)) (m1.fit (by decide)), mulR_toR ((gY_bd h i).fit (by decide)) ((gY_bd h j).fit (by decide)) (m2.fit (by decide)), addR_toR (m1.fit (by decide)) (m2.fit (by decide)) (m3.fit (by decide)), mulR_toR (ha.fit (by decide)) (m3.fit (by decide)) ((kQ_bd h i j).fit (by decide))]
  rfl
theorem kQ_sym (i j : Nat) : kQ x0 y0 x1 y1 x2 y2 i j = kQ x0 y0 x1 y1 x2 y2 j i := by unfold kQ; grind
theorem kQ_sum (i : Nat) : kQ x0 y0 x1 y1 x2 y2 i 0 + kQ x0 y0 x1 y1 x2 y2 i 1 + kQ x0 y0 x1 y1 x2 y2 i 2 = 0 := by
  have e1 : gX x0 y0 x1 y1 x2 y2 0 + gX x0 y0 x1 y1 x2 y2 1 + gX x0 y0 x1 y1 x2 y2 2 = 0 := by simp only [gX]; grind
  have e2 : gY x0 y0 x1 y1 x2 y2 0 + gY x0 y0 x1 y1 x2 y2 1 + gY x0 y0 x1 y1 x2 y2 2 = 0 := by simp only [gY]; grind
  unfold kQ
  generalize gX x0 y0 x1 y1 x2 y2 0 = u0 at *
  generalize gX x0 y0 x1 y1 x2 y2 1 = u1 at *
  generalize gX x0 y0 x1 y1 x2 y2 2 = u2 at *
  generalize gY x0 y0 x1 y1 x2 y2 0 = v0 at *
  generalize gY x0 y0 x1 y1 x2 y2 1 = v1 at *
  generalize gY x0 y0 x1 y1 x2 y2 2 = v2 at *
  generalize gX x0 y0 x1 y1 x2 y2 i = u at *
  generalize gY x0 y0 x1 y1 x2 y2 i = v at *
  have : arQ x0 y0 x1 y1 x2 y2 * (u * u0 + v * v0) + arQ x0 y0 x1 y1 x2 y2 * (u * u1 + v * v1) + arQ x0 y0 x1 y1 x2 y2 * (u * u2 + v * v2) = arQ x0 y0 x1 y1 x2 y2 * (u * (u0 + u1 + u2) + v * (v0 + v1 + v2)) := by grind
  rw [this, e1, e2]
  grind
end


end

section


section
variable {x0 y0 x1 y1 x2 y2 : Rat}
/-- The sum of the first fractions of row i, added to a one by one. -/
noncomputable def accRow (L : List (List RatD)) (a : RatD) (i : Nat) : Nat → RatD
  | 0 => a
  | j + 1 => addR (accRow L a i j) (pix (pix L i) j)
noncomputable def accAll (M : List (List RatD)) : Nat → RatD
  | 0 => ofFrac 0 1
  | i + 1 => accRow M (accAll M i) i 3
def mQ (x0 y0 x1 y1 x2 y2 : Rat) (i j : Nat) : Rat := arQ x0 y0 x1 y1 x2 y2 / mkRat (if i = j then 6 else 12) 1
theorem mQ_bd (h : Sm6 x0 y0 x1 y1 x2 y2) (i j : Nat) : Bd 5357381714688 (mQ x0 y0 x1 y1 x2 y2 i j) := by
  have h1 : Bd 12 (mkRat (if i = j then 6 else 12) 1) := bd_mk (by omega) (by split <;> decide) (by omega)
  exact ((area_toP h).2.div h1).mono (by decide)
theorem massV_toP (h : Sm6 x0 y0 x1 y1 x2 y2) (i j : Nat) : massV (areaR (toP x0 y0) (toP x1 y1) (toP x2 y2)) i j = toR (mQ x0 y0 x1 y1 x2 y2 i j) := by
  obtain ⟨e, ha⟩ := area_toP h
  have h1 : Bd 12 (mkRat (if i = j then 6 else 12) 1) := bd_mk (by omega) (by split <;> decide) (by omega)
  have h2 : ofFrac (if i = j then 6 else 12) 1 = toR (mkRat (if i = j then 6 else 12) 1) := by
    rw [ofFrac_toR _ (by omega), if_pos (h1.fit (by decide))]
  unfold massV
  rw [e, h2, divR_toR (ha.fit (by decide)) (h1.fit (by decide)) (by split <;> decide +kernel) ((mQ_bd h i j).fit (by decide))]
  rfl
theorem add_toR {N M : Nat} {q r : Rat} (hq : Bd N q) (hr : Bd M r) (hN : 2 * (N * M) < Bs ^ 24) (hN1 : N < Bs ^ 24) (hM1 : M < Bs ^ 24) : addR (toR q) (toR r) = toR (q + r) ∧ Bd (2 * (N * M)) (q + r) := by
  have h := hq.add hr
  exact ⟨addR_toR (hq.fit hN1) (hr.fit hM1) (h.fit hN), h⟩
theorem row_toR {L : List (List RatD)} {a b c d : Rat} {N M : Nat} {i : Nat} (ha : Bd N a) (hb : Bd M b) (hc : Bd M c) (hd : Bd M d) (e0 : pix (pix L i) 0 = toR b) (e1 : pix (pix L i) 1 = toR c) (e2 : pix (pix L i) 2 = toR d) (hN : 2 * (2 * (2 * (N * M) * M) * M) < Bs ^ 24) (hN0 : N < Bs ^ 24) (hM : M < Bs ^ 24) (hN1 : 2 * (N * M) < Bs ^ 24) (hN2 : 2 * (2 * (N * M) * M) < Bs ^ 24) :
    accRow L (toR a) i 3 = toR (a + b + c + d) ∧ Bd (2 * (2 * (2 * (N * M) * M) * M)) (a + b + c + d) := by
  obtain ⟨q1, w1⟩ := add_toR ha hb hN1 hN0 hM
  obtain ⟨q2, w2⟩ := add_toR w1 hc hN2 hN1 hM
  obtain ⟨q3, w3⟩ := add_toR w2 hd hN hN2 hM
  refine ⟨?_, w3⟩
  simp only [accRow]
  rw [e0, e1, e2, q1, q2, q3]
theorem stifL_toP (h : Sm6 x0 y0 x1 y1 x2 y2) (hp : propB [toP x0 y0, toP x1 y1, toP x2 y2] = true) :
    stifL [toP x0 y0, toP x1 y1, toP x2 y2] = stifTo (areaR (toP x0 y0) (toP x1 y1) (toP x2 y2)) (gradTo (toP x0 y0) (toP x1 y1) (toP x2 y2) 3) 3 := by
  have hd := det_pos h hp
  unfold stifL
  rw [if_pos hp]
  show stifP (toP x0 y0) (toP x1 y1) (toP x2 y2) = _
  unfold stifP
  rw [if_pos (gradOk_toP h hd 3)]
  unfold sqIf
  rw [if_pos]
  intro i hi j hj
  rw [stifTo_len] at hi
  have e : pix (stifTo (areaR (toP x0 y0) (toP x1 y1) (toP x2 y2)) (gradTo (toP x0 y0) (toP x1 y1) (toP x2 y2) 3) 3) i = stifRow (areaR (toP x0 y0) (toP x1 y1) (toP x2 y2)) (gradTo (toP x0 y0) (toP x1 y1) (toP x2 y2) 3) i 3 := by simp [pix, stifTo, hi]
  rw [e] at hj ⊢
  rw [stifRow_len] at hj
  have e2 : pix (stifRow (areaR (toP x0 y0) (toP x1 y1) (toP x2 y2)) (gradTo (toP x0 y0) (toP x1 y1) (toP x2 y2) 3) i 3) j = stifV (areaR (toP x0 y0) (toP x1 y1) (toP x2 y2)) (gradTo (toP x0 y0) (toP x1 y1) (toP x2 y2) 3) i j := by simp [pix, stifRow, hj]
  rw [e2, stifV_toP h hd hi hj]
  exact ((kQ_bd h i j).fit (by decide)).ok
theorem massL_toP (h : Sm6 x0 y0 x1 y1 x2 y2) (hp : propB [toP x0 y0, toP x1 y1, toP x2 y2] = true) : massL [toP x0 y0, toP x1 y1, toP x2 y2] = massTo (areaR (toP x0 y0) (toP x1 y1) (toP x2 y2)) 3 := by
  unfold massL
  rw [if_pos hp]
  show sqIf (massTo (areaR (toP x0 y0) (toP x1 y1) (toP x2 y2)) 3) = _
  unfold sqIf
  rw [if_pos]
  intro i hi j hj
  rw [massTo_len] at hi
  have e : pix (massTo (areaR (toP x0 y0) (toP x1 y1) (toP x2 y2)) 3) i = massRow (areaR (toP x0 y0) (toP x1 y1) (toP x2 y2)) i 3 := by simp [pix, massTo, hi]
  rw [e] at hj ⊢
  rw [massRow_len] at hj
  have e2 : pix (massRow (areaR (toP x0 y0) (toP x1 y1) (toP x2 y2)) i 3) j = massV (areaR (toP x0 y0) (toP x1 y1) (toP x2 y2)) i j := by simp [pix, massRow, hj]
  rw [e2, massV_toP h]
  exact ((mQ_bd h i j).fit (by decide)).ok
theorem stif_at (h : Sm6 x0 y0 x1 y1 x2 y2) (hp : propB [toP x0 y0, toP x1 y1, toP x2 y2] = true) {i j : Nat} (hi : i < 3) (hj : j < 3) : pix (pix (stifL [toP x0 y0, toP x1 y1, toP x2 y2]) i) j = toR (kQ x0 y0 x1 y1 x2 y2 i j) := by
  rw [stifL_toP h hp, ← stifV_toP h (det_pos h hp) hi hj]
  have e : pix (stifTo (areaR (toP x0 y0) (toP x1 y1) (toP x2 y2)) (gradTo (toP x0 y0) (toP x1 y1) (toP x2 y2) 3) 3) i = stifRow (areaR (toP x0 y0) (toP x1 y1) (toP x2 y2)) (gradTo (toP x0 y0) (toP x1 y1) (toP x2 y2) 3) i 3 := by simp [pix, stifTo, hi]
  rw [e]
  simp [pix, stifRow, hj]
theorem mass_at (h : Sm6 x0 y0 x1 y1 x2 y2) (hp : propB [toP x0 y0, toP x1 y1, toP x2 y2] = true) {i j : Nat} (hi : i < 3) (hj : j < 3) : pix (pix (massL [toP x0 y0, toP x1 y1, toP x2 y2]) i) j = toR (mQ x0 y0 x1 y1 x2 y2 i j) := by
  rw [massL_toP h hp, ← massV_toP h]
  have e : pix (massTo (areaR (toP x0 y0) (toP x1 y1) (toP x2 y2)) 3) i = massRow (areaR (toP x0 y0) (toP x1 y1) (toP x2 y2)) i 3 := by simp [pix, massTo, hi]
  rw [e]
  simp [pix, massRow, hj]
theorem zero_sm : ofFrac 0 1 = toR (mkRat 0 1) ∧ Bd 1 (mkRat 0 1) ∧ mkRat 0 1 = 0 := by
  have hb : Bd 1 (mkRat 0 1) := bd_mk (by omega) (by decide) (by omega)
  refine ⟨?_, hb, by decide +kernel⟩
  rw [ofFrac_toR 0 (by omega), if_pos (hb.fit (by decide))]
/-- What FnElements asks of the two matrices K and M of a corner list whose area is a. -/
def ElOk (K M : List (List RatD)) (a : RatD) : Prop :=
  K.length = 3 ∧ M.length = 3 ∧ (∀ i, i < 3 → (pix K i).length = 3) ∧ (∀ i, i < 3 → (pix M i).length = 3) ∧ (∀ i j, i < 3 → j < 3 → pix (pix K i) j = pix (pix K j) i) ∧
    (∀ i, i < 3 → sgnR (accRow K (ofFrac 0 1) i 3) = 0 ∧ OkR (accRow K (ofFrac 0 1) i 3)) ∧ accAll M 3 = a
theorem el_ok (h : Sm6 x0 y0 x1 y1 x2 y2) (hp : propB [toP x0 y0, toP x1 y1, toP x2 y2] = true) : ElOk (stifL [toP x0 y0, toP x1 y1, toP x2 y2]) (massL [toP x0 y0, toP x1 y1, toP x2 y2]) (areaL [toP x0 y0, toP x1 y1, toP x2 y2]) := by
  obtain ⟨ez, bz, z0⟩ := zero_sm
  refine ⟨?_, ?_, fun i hi => ?_, fun i hi => ?_, fun i j hi hj => ?_, fun i hi => ?_, ?_⟩
  · rw [stifL_toP h hp, stifTo_len]
  · rw [massL_toP h hp, massTo_len]
  · rw [stifL_toP h hp]
    have e : pix (stifTo (areaR (toP x0 y0) (toP x1 y1) (toP x2 y2)) (gradTo (toP x0 y0) (toP x1 y1) (toP x2 y2) 3) 3) i = stifRow (areaR (toP x0 y0) (toP x1 y1) (toP x2 y2)) (gradTo (toP x0 y0) (toP x1 y1) (toP x2 y2) 3) i 3 := by simp [pix, stifTo, hi]
    rw [e, stifRow_len]
  · rw [massL_toP h hp]
    have e : pix (massTo (areaR (toP x0 y0) (toP x1 y1) (toP x2 y2)) 3) i = massRow (areaR (toP x0 y0) (toP x1 y1) (toP x2 y2)) i 3 := by simp [pix, massTo, hi]
    rw [e, massRow_len]
  · rw [stif_at h hp hi hj, stif_at h hp hj hi, kQ_sym]
  · rw [ez]
    obtain ⟨e, hb⟩ := row_toR (L := stifL [toP x0 y0, toP x1 y1, toP x2 y2]) (i := i) bz (kQ_bd h i 0) (kQ_bd h i 1) (kQ_bd h i 2) (stif_at h hp hi (by omega)) (stif_at h hp hi (by omega)) (stif_at h hp hi (by omega)) (by decide) (by decide) (by decide) (by decide) (by decide)
    have hs : mkRat 0 1 + kQ x0 y0 x1 y1 x2 y2 i 0 + kQ x0 y0 x1 y1 x2 y2 i 1 + kQ x0 y0 x1 y1 x2 y2 i 2 = 0 := by
      rw [z0, Rat.zero_add]
      exact kQ_sum i
    rw [hs] at e hb
    rw [e, sgnR_toR (hb.fit (by decide))]
    exact ⟨by decide, (hb.fit (by decide)).ok⟩
  · have ha : areaL [toP x0 y0, toP x1 y1, toP x2 y2] = toR (arQ x0 y0 x1 y1 x2 y2) := by
      unfold areaL
      rw [if_pos hp]
      exact (area_toP h).1
    rw [ha]
    simp only [accAll]
    rw [ez]
    obtain ⟨e1, w1⟩ := row_toR (L := massL [toP x0 y0, toP x1 y1, toP x2 y2]) (i := 0) bz (mQ_bd h 0 0) (mQ_bd h 0 1) (mQ_bd h 0 2) (mass_at h hp (by omega) (by omega)) (mass_at h hp (by omega) (by omega)) (mass_at h hp (by omega) (by omega)) (by decide) (by decide) (by decide) (by decide) (by decide)
    obtain ⟨e2, w2⟩ := row_toR (L := massL [toP x0 y0, toP x1 y1, toP x2 y2]) (i := 1) w1 (mQ_bd h 1 0) (mQ_bd h 1 1) (mQ_bd h 1 2) (mass_at h hp (by omega) (by omega)) (mass_at h hp (by omega) (by omega)) (mass_at h hp (by omega) (by omega)) (by decide) (by decide) (by decide) (by decide) (by decide)
    obtain ⟨e3, w3⟩ := row_toR (L := massL [toP x0 y0, toP x1 y1, toP x2 y2]) (i := 2) w2 (mQ_bd h 2 0) (mQ_bd h 2 1) (mQ_bd h 2 2) (mass_at h hp (by omega) (by omega)) (mass_at h hp (by omega) (by omega)) (mass_at h hp (by omega) (by omega)) (by decide) (by decide) (by decide) (by decide) (by decide)
    rw [e1, e2, e3]
    refine congrArg toR ?_
    have k6 : mkRat 6 1 = 6 := by decide +kernel
    have k12 : mkRat 12 1 = 12 := by decide +kernel
    simp only [mQ, z0, if_pos, k6, k12, show ((0 : Nat) = 1) = False by simp, show ((0 : Nat) = 2) = False by simp, show ((1 : Nat) = 0) = False by simp, show ((1 : Nat) = 2) = False by simp, show ((2 : Nat) = 0) = False by simp, show ((2 : Nat) = 1) = False by simp, if_false]
    grind
end


end

section


theorem ne_ir : (3 : TypeId) ≠ 34 := by decide
theorem eqR_self (r : RatD) : eqR r r = true := by unfold eqR eqL; simp
/-- A fraction of known blocks. -/
def OwF (T : TypeId) (w : World) (s : Bool) (A : Option Addr) (n c : Nat) (B : Option Addr) (m d : Nat) (r : RatD) : Prop := ∃ bs, FtR T w s A n c B m d r bs
section
variable {T TP : TypeId} {b0 g k : Nat} {w W : World} {s : Bool} {A : Option Addr} {n c : Nat} {B : Option Addr} {m d : Nat} {r : RatD}
theorem OwF.of (h : OwR T b0 w s A n c B m d r) : OwF T w s A n c B m d r := by
  obtain ⟨bs, h, _⟩ := h
  exact ⟨bs, h⟩
theorem OwF.rd (h : OwF T w s A n c B m d r) : RdR w s A n c B m d r := by
  obtain ⟨bs, h⟩ := h
  exact h.rd
theorem OwF.bl (h : OwF T w s A n c B m d r) (hb : Bl w W) : OwF T W s A n c B m d r := by
  obtain ⟨bs, h⟩ := h
  exact ⟨bs, h.bl hb⟩
theorem OwF.setT (h : OwF T w s A n c B m d r) (hk : Wk k TP g w) (hne : T ≠ TP) (i : Nat) (u : Value) : OwF T (w.setCell ⟨g, i, none⟩ u) s A n c B m d r := by
  obtain ⟨bs, h⟩ := h
  exact ⟨bs, h.keep (by simp) fun b hb => Below.heap_setCell w _ u b (h.neT hk hne b hb)⟩
end
theorem ptS3 {p0 p1 p2 : PtD} (h0 : PtS p0) (h1 : PtS p1) (h2 : PtS p2) (hp : propB [p0, p1, p2] = true) : ElOk (stifL [p0, p1, p2]) (massL [p0, p1, p2]) (areaL [p0, p1, p2]) := by
  obtain ⟨x0, y0, rfl, a0, b0⟩ := h0
  obtain ⟨x1, y1, rfl, a1, b1⟩ := h1
  obtain ⟨x2, y2, rfl, a2, b2⟩ := h2
  exact el_ok ⟨a0, b0, a1, b1, a2, b2⟩ hp
set_option maxRecDepth 100000 in
set_option maxHeartbeats 8000000 in
theorem FnElements_any (w : World) {A : Option Addr} {n c : Nat} {l : List Int} (h : RdB w A n c l) :
    Calls Tryz.prog 8 #[.slice A n c] w fun e w' => e = .returned (.bool true) ∧ Bl w w' := by
  have hn := h.small
  by_cases hbig : (n : Int) > 1048576
  · go_enter Tryz.func8, Tryz.ntmps8
    go_wp2_with fail
    go_ret
    exact ⟨rfl, slc⟩
  · have hsmall : ¬ 1048576 < (n : Int) := hbig
    go_enter Tryz.func8, Tryz.ntmps8
    go_wp2_with fail
    refine (MakeTriangle_any _ 0 (by omega) h).mono ?_
    rintro e w1 ⟨gl, c1, p0, p1, p2, rfl, hL, hp, hS0, hS1, hS2, hb1⟩
    have hE := ptS3 hS0 hS1 hS2 hp
    have hp := Lib.hid hp; rename_i h_; clear h_
    clear hS0 hS1 hS2
    go_wp2_with fail
    refine (LocalStiffness_any _ hL).mono ?_
    rintro e w2 ⟨AK, nK, cK, rfl, hZ, hb2⟩
    have hL := RdPS.bl hL hb2
    have hK := hZ.rd
    clear hZ
    go_wp2_with fail
    refine (LocalMass_any _ hL).mono ?_
    rintro e w3 ⟨AM, nM, cM, rfl, hZ, hb3⟩
    have hL := RdPS.bl hL hb3
    have hK := RdRSS.bl hK hb3
    have hM := hZ.rd
    have hbw3 := (hb1.next hb2).next hb3
    clear hZ hb1 hb2 hb3
    generalize stifL [p0, p1, p2] = K at hE hK
    generalize massL [p0, p1, p2] = M at hE hM
    obtain rfl : nK = 3 := hK.len.symm.trans hE.1
    obtain rfl : nM = 3 := hM.len.symm.trans hE.2.1
    have hKl := hE.2.2.1
    have hMl := hE.2.2.2.1
    obtain ⟨adK, rfl, _⟩ := hK.cells 0 (by omega)
    obtain ⟨adM, rfl, _⟩ := hM.cells 0 (by omega)
    go_wp2_with fail
    refine (RatFromInt_any _ 0 (by omega) (by omega)).mono ?_
    rintro e w4 ⟨s9, A9, n9, c9, B9, m9, d9, rfl, hR0, hb4⟩
    go_wp2_with fail
    refine wp_gen (fun W => ∃ ga, Blk W ga 34 #[.bool s9, .slice A9 n9 c9, .slice B9 m9 d9] ∧ OwF 3 W s9 A9 n9 c9 B9 m9 d9 (accAll M 0) ∧ Bl w3 W ∧ w3.heap.size ≤ ga ∧ ga = w4.heap.size) ⟨w4.heap.size, Blk.new _ _ _, (OwF.of hR0).bl slc, slc, Bl.size hb4, rfl⟩ ?_
    clear hR0 hb4
    rintro W ⟨ga, h9, hF9, hbw, hga, hge⟩
    rw [← hge]
    clear hge
    go_loopw [30] (fun v wr => ∃ (i : Nat) (s9 : Bool) (A9 : Option Addr) (n9 c9 : Nat) (B9 : Option Addr) (m9 d9 : Nat), i ≤ 3 ∧ v = .int .i64 (i : Int) ∧ Blk wr ga 34 #[.bool s9, .slice A9 n9 c9, .slice B9 m9 d9] ∧ OwF 3 wr s9 A9 n9 c9 B9 m9 d9 (accAll M i) ∧ Bl w3 wr) (fun v _ => 3 - (intOf v).toNat)
    case atStart => exact ⟨0, _, _, _, _, _, _, _, by omega, rfl, h9, hF9, hbw⟩
    case round =>
      clear h9 hF9 hbw
      obtain ⟨i, s9, A9, n9, c9, B9, m9, d9, hi3, rfl, h9, hF9, hbw⟩ := hrel
      by_cases hi : i < 3
      · have hki : (i : Int) < 3 := by omega
        have hga2 := h9.lt
        obtain ⟨wo, rfl⟩ : ∃ wo : World, wo = wr := ⟨_, rfl⟩
        obtain ⟨_, ee, hlu, Aru, nru, cru, xru, hru⟩ := (RdRSS.bl hK hbw).cells i hi
        cases ee
        rw [Nat.mul_one] at xru
        have hlu : (adK.add i).block < wo.heap.size := by rw [block_add]; exact hlu
        obtain rfl : nru = 3 := hru.len.symm.trans (hKl i hi)
        obtain ⟨_, ee, hlv, Arv, nrv, crv, xrv, hrv⟩ := (RdRSS.bl hM hbw).cells i hi
        cases ee
        rw [Nat.mul_one] at xrv
        have hlv : (adM.add i).block < wo.heap.size := by rw [block_add]; exact hlv
        obtain rfl : nrv = 3 := hrv.len.symm.trans (hMl i hi)
        go_wp2_with fail
        refine (RatFromInt_any _ 0 (by omega) (by omega)).mono ?_
        rintro e w5 ⟨s8, A8, n8, c8, B8, m8, d8, rfl, hR0, hb5⟩
        have hz5 := Bl.size hb5
        clear xru hru hlu xrv hrv hlv
        go_upto_region 15 with (fail)
        refine wp_gen (fun W => ∃ gs, Blk W gs 34 #[.bool s8, .slice A8 n8 c8, .slice B8 m8 d8] ∧ OwF 3 W s8 A8 n8 c8 B8 m8 d8 (accRow K (ofFrac 0 1) i 0) ∧ Blk W ga 34 #[.bool s9, .slice A9 n9 c9, .slice B9 m9 d9] ∧ OwF 3 W s9 A9 n9 c9 B9 m9 d9 (accRow M (accAll M i) i 0) ∧ Bl w3 W ∧ w3.heap.size ≤ gs ∧ ga ≠ gs ∧ gs = w5.heap.size) ⟨w5.heap.size, Blk.new _ _ _, (OwF.of hR0).bl slc, (h9.bl hb5).alloc _, (hF9.bl hb5).bl slc, (hbw.next hb5).alloc _, by have := Bl.size hbw; omega, by omega, rfl⟩ ?_
        clear hR0 hb5 h9 hF9 hbw
        rintro W ⟨gs, h8, hF8, h9, hF9, hbw, hgs, hgg, hge⟩
        rw [← hge]
        clear hge
        obtain ⟨_, ee, hlu, Aru, nru, cru, xru, hru⟩ := (RdRSS.bl hK hbw).cells i hi
        cases ee
        rw [Nat.mul_one] at xru
        have hlu : (adK.add i).block < W.heap.size := by rw [block_add]; exact hlu
        obtain rfl : nru = 3 := hru.len.symm.trans (hKl i hi)
        go_wp2_with fail
        clear xru hru hlu
        go_loopw [53] (fun v wr => ∃ (j : Nat) (s8 : Bool) (A8 : Option Addr) (n8 c8 : Nat) (B8 : Option Addr) (m8 d8 : Nat) (s9 : Bool) (A9 : Option Addr) (n9 c9 : Nat) (B9 : Option Addr) (m9 d9 : Nat), j ≤ 3 ∧ v = .int .i64 (j : Int) ∧ Blk wr gs 34 #[.bool s8, .slice A8 n8 c8, .slice B8 m8 d8] ∧ OwF 3 wr s8 A8 n8 c8 B8 m8 d8 (accRow K (ofFrac 0 1) i j) ∧ Blk wr ga 34 #[.bool s9, .slice A9 n9 c9, .slice B9 m9 d9] ∧ OwF 3 wr s9 A9 n9 c9 B9 m9 d9 (accRow M (accAll M i) i j) ∧ Bl w3 wr) (fun v _ => 3 - (intOf v).toNat)
        case atStart => exact ⟨0, _, _, _, _, _, _, _, _, _, _, _, _, _, _, by omega, rfl, h8, hF8, h9, hF9, hbw⟩
        case round =>
          clear h8 hF8 h9 hF9 hbw
          obtain ⟨j, s8, A8, n8, c8, B8, m8, d8, s9, A9, n9, c9, B9, m9, d9, hj3, rfl, h8, hF8, h9, hF9, hbw⟩ := hrel
          by_cases hj : j < 3
          · have hkj : (j : Int) < 3 := by omega
            obtain ⟨_, ee, hle, Are, nre, cre, xre, hre⟩ := (RdRSS.bl hK hbw).cells i hi
            cases ee
            rw [Nat.mul_one] at xre
            have hle : (adK.add i).block < wr.heap.size := by rw [block_add]; exact hle
            obtain rfl : nre = 3 := hre.len.symm.trans (hKl i hi)
            obtain ⟨are, rfl, hme, see, Aee, nee, cee, Bee, mee, dee, ⟨ze0, ze1, ze2⟩, hxe⟩ := hre.cells j hj
            have hme : (are.add (j * 3)).block < wr.heap.size := by rw [block_add]; exact hme
            go_wp2_with fail
            have hHeld : (fun w' => (w'.cell? ⟨gs, 0, none⟩ = some (.bool s8) ∧ w'.cell? ⟨gs, 1, none⟩ = some (.slice A8 n8 c8) ∧ w'.cell? ⟨gs, 2, none⟩ = some (.slice B8 m8 d8)) ∧ (w'.cell? (adK.add i) = some (.slice (some are) 3 cre)) ∧ (w'.cell? (are.add (j * 3)) = some (.bool see) ∧ w'.cell? ⟨(are.add (j * 3)).block, (are.add (j * 3)).off + 1, none⟩ = some (.slice Aee nee cee) ∧ w'.cell? ⟨(are.add (j * 3)).block, (are.add (j * 3)).off + 2, none⟩ = some (.slice Bee mee dee))) (wr.drew) := ⟨bx3 (T := 34) (h8.bl slc), (Bl.cellOf (w := wr) (p := adK.add i) slc hle).trans xre, ⟨(Bl.cellOf (w := wr) (p := (are.add (j * 3))) slc hme).trans ze0, (Bl.cellOf (w := wr) (p := ⟨(are.add (j * 3)).block, (are.add (j * 3)).off + 1, none⟩) slc hme).trans ze1, (Bl.cellOf (w := wr) (p := ⟨(are.add (j * 3)).block, (are.add (j * 3)).off + 2, none⟩) slc hme).trans ze2⟩⟩
            refine wp_region_T 9 10 (fun w' => (w'.cell? ⟨gs, 0, none⟩ = some (.bool s8) ∧ w'.cell? ⟨gs, 1, none⟩ = some (.slice A8 n8 c8) ∧ w'.cell? ⟨gs, 2, none⟩ = some (.slice B8 m8 d8)) ∧ (w'.cell? (adK.add i) = some (.slice (some are) 3 cre)) ∧ (w'.cell? (are.add (j * 3)) = some (.bool see) ∧ w'.cell? ⟨(are.add (j * 3)).block, (are.add (j * 3)).off + 1, none⟩ = some (.slice Aee nee cee) ∧ w'.cell? ⟨(are.add (j * 3)).block, (are.add (j * 3)).off + 2, none⟩ = some (.slice Bee mee dee))) rfl (by kernel_rfl) hHeld ?_
            refine wpAnyT_take (i := 0) (oi := _) (v := ?_) (fuel := 9) rfl (by kernel_rfl) (by kernel_rfl) (by kernel_rfl) (by kernel_rfl) (fun _ _ _ h => h) (by rfl) ?_ hHeld ?_
            rotate_left 1
            · (intro w' hSw; (try dsimp only at hSw); go_simp <;> with_reducible rfl)
            refine wpAnyT_take (i := 1) (oi := _) (v := ?_) (fuel := 8) rfl (by kernel_rfl) (by kernel_rfl) (by kernel_rfl) (by kernel_rfl) (fun _ _ _ h => h) (by rfl) ?_ hHeld ?_
            rotate_left 1
            · (intro w' hSw; (try dsimp only at hSw); go_simp <;> with_reducible rfl)
            refine wpAnyT_take (i := 2) (oi := _) (v := ?_) (fuel := 7) rfl (by kernel_rfl) (by kernel_rfl) (by kernel_rfl) (by kernel_rfl) (fun _ _ _ h => h) (by rfl) ?_ hHeld ?_
            rotate_left 1
            · (intro w' hSw; (try dsimp only at hSw); go_simp <;> with_reducible rfl)
            refine wpAnyT_take (i := 3) (oi := _) (v := ?_) (fuel := 6) rfl (by kernel_rfl) (by kernel_rfl) (by kernel_rfl) (by kernel_rfl) (fun _ _ _ h => h) (by rfl) ?_ hHeld ?_
            rotate_left 1
            · (intro w' hSw; (try dsimp only at hSw); go_simp <;> with_reducible rfl)
            refine wpAnyT_take (i := 4) (oi := _) (v := ?_) (fuel := 5) rfl (by kernel_rfl) (by kernel_rfl) (by kernel_rfl) (by kernel_rfl) (fun _ _ _ h => h) (by rfl) ?_ hHeld ?_
            rotate_left 1
            · (intro w' hSw; (try dsimp only at hSw); go_simp <;> with_reducible rfl)
            refine wpAnyT_take (i := 5) (oi := _) (v := ?_) (fuel := 4) rfl (by kernel_rfl) (by kernel_rfl) (by kernel_rfl) (by kernel_rfl) (fun _ _ _ h => h) (by rfl) ?_ hHeld ?_
            rotate_left 1
            · (intro w' hSw; (try dsimp only at hSw); go_simp <;> with_reducible rfl)
            refine wpAnyT_take (i := 6) (oi := _) (v := ?_) (fuel := 3) rfl (by kernel_rfl) (by kernel_rfl) (by kernel_rfl) (by kernel_rfl) (fun _ _ _ h => h) (by rfl) ?_ hHeld ?_
            rotate_left 1
            · (intro w' hSw; (try dsimp only at hSw); go_simp <;> with_reducible rfl)
            refine wpAnyT_take (i := 7) (oi := _) (v := ?_) (fuel := 2) rfl (by kernel_rfl) (by kernel_rfl) (by kernel_rfl) (by kernel_rfl) (fun _ _ _ h => h) (by rfl) ?_ hHeld ?_
            rotate_left 1
            · (intro w' hSw; (try dsimp only at hSw); go_simp <;> with_reducible rfl)
            clear hHeld
            simp only [Act.put, List.setIfInBounds_toArray]
            refine wpAnyT_step (i := 8) (o := _) (fuel := 1) rfl (by kernel_rfl) (fun K hK => ?_)
            go_simp
            refine (RatAdd_any _ (hF8.rd.bl slc) (hxe.bl slc)).mono ?_
            rintro e w6 ⟨s5, A5, n5, c5, B5, m5, d5, rfl, hR5, hb6⟩
            have hb6 : Bl wr w6 := (show Bl wr wr.drew from slc).next hb6
            refine hK.out _ _ (fun _ => ⟨bx3 (T := 34) (h8.bl slc), (Bl.cellOf (w := wr) (p := adK.add i) slc hle).trans xre, ⟨(Bl.cellOf (w := wr) (p := (are.add (j * 3))) slc hme).trans ze0, (Bl.cellOf (w := wr) (p := ⟨(are.add (j * 3)).block, (are.add (j * 3)).off + 1, none⟩) slc hme).trans ze1, (Bl.cellOf (w := wr) (p := ⟨(are.add (j * 3)).block, (are.add (j * 3)).off + 2, none⟩) slc hme).trans ze2⟩⟩) ?_
            clear hK K
            try simp only [Act.put, List.setIfInBounds_toArray, List.set_cons_zero, List.set_cons_succ]
            have h8 := h8.bl hb6
            obtain ⟨z0', z1', z2'⟩ := bx3 h8
            have zf0 := h8.frozen 0
            have zf1 := h8.frozen 1
            have zf2 := h8.frozen 2
            refine wpAnyT_step (i := 9) (o := _) (fuel := 0) rfl (by kernel_rfl) (fun K hK => ?_)
            go_simp
            refine hK.out _ _ (fun h => absurd rfl h) ?_
            clear hK K
            try simp only [Act.put, List.setIfInBounds_toArray]
            refine wpAnyT_done (by kernel_rfl) ?_
            have hk : Wk 3 34 gs w6 := Wk.of h8 rfl
            have hF8 := (((OwF.of hR5).setT hk ne_ir 0 (.bool s5)).setT (hk.set 0 _) ne_ir 1 (.slice A5 n5 c5)).setT ((hk.set 0 _).set 1 _) ne_ir 2 (.slice B5 m5 d5)
            have hF9 := (((hF9.bl hb6).setT hk ne_ir 0 (.bool s5)).setT (hk.set 0 _) ne_ir 1 (.slice A5 n5 c5)).setT ((hk.set 0 _).set 1 _) ne_ir 2 (.slice B5 m5 d5)
            have h9 := (((h9.bl hb6).far (p := ⟨gs, 0, none⟩) (show ga ≠ gs by omega) (.bool s5)).far (p := ⟨gs, 1, none⟩) (show ga ≠ gs by omega) (.slice A5 n5 c5)).far (p := ⟨gs, 2, none⟩) (show ga ≠ gs by omega) (.slice B5 m5 d5)
            have h8 : Blk (((w6.setCell ⟨gs, 0, none⟩ (.bool s5)).setCell ⟨gs, 1, none⟩ (.slice A5 n5 c5)).setCell ⟨gs, 2, none⟩ (.slice B5 m5 d5)) gs 34 #[.bool s5, .slice A5 n5 c5, .slice B5 m5 d5] := by simpa using ((h8.set_ 0 (.bool s5)).set_ 1 (.slice A5 n5 c5)).set_ 2 (.slice B5 m5 d5)
            have hba : Bl w3 (((w6.setCell ⟨gs, 0, none⟩ (.bool s5)).setCell ⟨gs, 1, none⟩ (.slice A5 n5 c5)).setCell ⟨gs, 2, none⟩ (.slice B5 m5 d5)) := Bl.set (Bl.set (Bl.set (hbw.next hb6) (show w3.heap.size ≤ gs by omega) _) (show w3.heap.size ≤ gs by omega) _) (show w3.heap.size ≤ gs by omega) _
            generalize ((w6.setCell ⟨gs, 0, none⟩ (.bool s5)).setCell ⟨gs, 1, none⟩ (.slice A5 n5 c5)).setCell ⟨gs, 2, none⟩ (.slice B5 m5 d5) = wa at hF8 hF9 h8 h9 hba ⊢
            clear hk hR5 hb6
            clear xre ze0 ze1 ze2 hxe hre hle hme
            obtain ⟨_, ee, hle, Are, nre, cre, xre, hre⟩ := (RdRSS.bl hM hba).cells i hi
            cases ee
            rw [Nat.mul_one] at xre
            have hle : (adM.add i).block < wa.heap.size := by rw [block_add]; exact hle
            obtain rfl : nre = 3 := hre.len.symm.trans (hMl i hi)
            obtain ⟨are, rfl, hme, see, Aee, nee, cee, Bee, mee, dee, ⟨ze0, ze1, ze2⟩, hxe⟩ := hre.cells j hj
            have hme : (are.add (j * 3)).block < wa.heap.size := by rw [block_add]; exact hme
            go_wp2_with fail
            have hHeld : (fun w' => (w'.cell? ⟨ga, 0, none⟩ = some (.bool s9) ∧ w'.cell? ⟨ga, 1, none⟩ = some (.slice A9 n9 c9) ∧ w'.cell? ⟨ga, 2, none⟩ = some (.slice B9 m9 d9)) ∧ (w'.cell? (adM.add i) = some (.slice (some are) 3 cre)) ∧ (w'.cell? (are.add (j * 3)) = some (.bool see) ∧ w'.cell? ⟨(are.add (j * 3)).block, (are.add (j * 3)).off + 1, none⟩ = some (.slice Aee nee cee) ∧ w'.cell? ⟨(are.add (j * 3)).block, (are.add (j * 3)).off + 2, none⟩ = some (.slice Bee mee dee))) (wa.drew) := ⟨bx3 (T := 34) (h9.bl slc), (Bl.cellOf (w := wa) (p := adM.add i) slc hle).trans xre, ⟨(Bl.cellOf (w := wa) (p := (are.add (j * 3))) slc hme).trans ze0, (Bl.cellOf (w := wa) (p := ⟨(are.add (j * 3)).block, (are.add (j * 3)).off + 1, none⟩) slc hme).trans ze1, (Bl.cellOf (w := wa) (p := ⟨(are.add (j * 3)).block, (are.add (j * 3)).off + 2, none⟩) slc hme).trans ze2⟩⟩
            refine wp_region_T 9 10 (fun w' => (w'.cell? ⟨ga, 0, none⟩ = some (.bool s9) ∧ w'.cell? ⟨ga, 1, none⟩ = some (.slice A9 n9 c9) ∧ w'.cell? ⟨ga, 2, none⟩ = some (.slice B9 m9 d9)) ∧ (w'.cell? (adM.add i) = some (.slice (some are) 3 cre)) ∧ (w'.cell? (are.add (j * 3)) = some (.bool see) ∧ w'.cell? ⟨(are.add (j * 3)).block, (are.add (j * 3)).off + 1, none⟩ = some (.slice Aee nee cee) ∧ w'.cell? ⟨(are.add (j * 3)).block, (are.add (j * 3)).off + 2, none⟩ = some (.slice Bee mee dee))) rfl (by kernel_rfl) hHeld ?_
            refine wpAnyT_take (i := 0) (oi := _) (v := ?_) (fuel := 9) rfl (by kernel_rfl) (by kernel_rfl) (by kernel_rfl) (by kernel_rfl) (fun _ _ _ h => h) (by rfl) ?_ hHeld ?_
            rotate_left 1
            · (intro w' hSw; (try dsimp only at hSw); go_simp <;> with_reducible rfl)
            refine wpAnyT_take (i := 1) (oi := _) (v := ?_) (fuel := 8) rfl (by kernel_rfl) (by kernel_rfl) (by kernel_rfl) (by kernel_rfl) (fun _ _ _ h => h) (by rfl) ?_ hHeld ?_
            rotate_left 1
            · (intro w' hSw; (try dsimp only at hSw); go_simp <;> with_reducible rfl)
            refine wpAnyT_take (i := 2) (oi := _) (v := ?_) (fuel := 7) rfl (by kernel_rfl) (by kernel_rfl) (by kernel_rfl) (by kernel_rfl) (fun _ _ _ h => h) (by rfl) ?_ hHeld ?_
            rotate_left 1
            · (intro w' hSw; (try dsimp only at hSw); go_simp <;> with_reducible rfl)
            refine wpAnyT_take (i := 3) (oi := _) (v := ?_) (fuel := 6) rfl (by kernel_rfl) (by kernel_rfl) (by kernel_rfl) (by kernel_rfl) (fun _ _ _ h => h) (by rfl) ?_ hHeld ?_
            rotate_left 1
            · (intro w' hSw; (try dsimp only at hSw); go_simp <;> with_reducible rfl)
            refine wpAnyT_take (i := 4) (oi := _) (v := ?_) (fuel := 5) rfl (by kernel_rfl) (by kernel_rfl) (by kernel_rfl) (by kernel_rfl) (fun _ _ _ h => h) (by rfl) ?_ hHeld ?_
            rotate_left 1
            · (intro w' hSw; (try dsimp only at hSw); go_simp <;> with_reducible rfl)
            refine wpAnyT_take (i := 5) (oi := _) (v := ?_) (fuel := 4) rfl (by kernel_rfl) (by kernel_rfl) (by kernel_rfl) (by kernel_rfl) (fun _ _ _ h => h) (by rfl) ?_ hHeld ?_
            rotate_left 1
            · (intro w' hSw; (try dsimp only at hSw); go_simp <;> with_reducible rfl)
            refine wpAnyT_take (i := 6) (oi := _) (v := ?_) (fuel := 3) rfl (by kernel_rfl) (by kernel_rfl) (by kernel_rfl) (by kernel_rfl) (fun _ _ _ h => h) (by rfl) ?_ hHeld ?_
            rotate_left 1
            · (intro w' hSw; (try dsimp only at hSw); go_simp <;> with_reducible rfl)
            refine wpAnyT_take (i := 7) (oi := _) (v := ?_) (fuel := 2) rfl (by kernel_rfl) (by kernel_rfl) (by kernel_rfl) (by kernel_rfl) (fun _ _ _ h => h) (by rfl) ?_ hHeld ?_
            rotate_left 1
            · (intro w' hSw; (try dsimp only at hSw); go_simp <;> with_reducible rfl)
            clear hHeld
            simp only [Act.put, List.setIfInBounds_toArray]
            refine wpAnyT_step (i := 8) (o := _) (fuel := 1) rfl (by kernel_rfl) (fun K hK => ?_)
            go_simp
            refine (RatAdd_any _ (hF9.rd.bl slc) (hxe.bl slc)).mono ?_
            rintro e w6 ⟨s5, A5, n5, c5, B5, m5, d5, rfl, hR5, hb6⟩
            have hb6 : Bl wa w6 := (show Bl wa wa.drew from slc).next hb6
            refine hK.out _ _ (fun _ => ⟨bx3 (T := 34) (h9.bl slc), (Bl.cellOf (w := wa) (p := adM.add i) slc hle).trans xre, ⟨(Bl.cellOf (w := wa) (p := (are.add (j * 3))) slc hme).trans ze0, (Bl.cellOf (w := wa) (p := ⟨(are.add (j * 3)).block, (are.add (j * 3)).off + 1, none⟩) slc hme).trans ze1, (Bl.cellOf (w := wa) (p := ⟨(are.add (j * 3)).block, (are.add (j * 3)).off + 2, none⟩) slc hme).trans ze2⟩⟩) ?_
            clear hK K
            try simp only [Act.put, List.setIfInBounds_toArray, List.set_cons_zero, List.set_cons_succ]
            have h9 := h9.bl hb6
            obtain ⟨z0', z1', z2'⟩ := bx3 h9
            have zf0 := h9.frozen 0
            have zf1 := h9.frozen 1
            have zf2 := h9.frozen 2
            refine wpAnyT_step (i := 9) (o := _) (fuel := 0) rfl (by kernel_rfl) (fun K hK => ?_)
            go_simp
            refine hK.out _ _ (fun h => absurd rfl h) ?_
            clear hK K
            try simp only [Act.put, List.setIfInBounds_toArray]
            refine wpAnyT_done (by kernel_rfl) ?_
            have hk : Wk 3 34 ga w6 := Wk.of h9 rfl
            have hF9 := (((OwF.of hR5).setT hk ne_ir 0 (.bool s5)).setT (hk.set 0 _) ne_ir 1 (.slice A5 n5 c5)).setT ((hk.set 0 _).set 1 _) ne_ir 2 (.slice B5 m5 d5)
            have hF8 := (((hF8.bl hb6).setT hk ne_ir 0 (.bool s5)).setT (hk.set 0 _) ne_ir 1 (.slice A5 n5 c5)).setT ((hk.set 0 _).set 1 _) ne_ir 2 (.slice B5 m5 d5)
            have h8 := (((h8.bl hb6).far (p := ⟨ga, 0, none⟩) (show gs ≠ ga by omega) (.bool s5)).far (p := ⟨ga, 1, none⟩) (show gs ≠ ga by omega) (.slice A5 n5 c5)).far (p := ⟨ga, 2, none⟩) (show gs ≠ ga by omega) (.slice B5 m5 d5)
            have h9 : Blk (((w6.setCell ⟨ga, 0, none⟩ (.bool s5)).setCell ⟨ga, 1, none⟩ (.slice A5 n5 c5)).setCell ⟨ga, 2, none⟩ (.slice B5 m5 d5)) ga 34 #[.bool s5, .slice A5 n5 c5, .slice B5 m5 d5] := by simpa using ((h9.set_ 0 (.bool s5)).set_ 1 (.slice A5 n5 c5)).set_ 2 (.slice B5 m5 d5)
            have hbb : Bl w3 (((w6.setCell ⟨ga, 0, none⟩ (.bool s5)).setCell ⟨ga, 1, none⟩ (.slice A5 n5 c5)).setCell ⟨ga, 2, none⟩ (.slice B5 m5 d5)) := Bl.set (Bl.set (Bl.set (hba.next hb6) (show w3.heap.size ≤ ga by omega) _) (show w3.heap.size ≤ ga by omega) _) (show w3.heap.size ≤ ga by omega) _
            generalize ((w6.setCell ⟨ga, 0, none⟩ (.bool s5)).setCell ⟨ga, 1, none⟩ (.slice A5 n5 c5)).setCell ⟨ga, 2, none⟩ (.slice B5 m5 d5) = wb at hF9 hF8 h9 h8 hbb ⊢
            clear hk hR5 hb6
            clear xre ze0 ze1 ze2 hxe hre hle hme
            obtain ⟨_, ee, hlu, Aru, nru, cru, xru, hru⟩ := (RdRSS.bl hK hbb).cells i hi
            cases ee
            rw [Nat.mul_one] at xru
            have hlu : (adK.add i).block < wb.heap.size := by rw [block_add]; exact hlu
            obtain rfl : nru = 3 := hru.len.symm.trans (hKl i hi)
            obtain ⟨aru, rfl, hmu, seu, Aeu, neu, ceu, Beu, meu, deu, ⟨zu0, zu1, zu2⟩, hxu⟩ := hru.cells j hj
            have hmu : (aru.add (j * 3)).block < wb.heap.size := by rw [block_add]; exact hmu
            obtain ⟨_, ee, hlv, Arv, nrv, crv, xrv, hrv⟩ := (RdRSS.bl hK hbb).cells j hj
            cases ee
            rw [Nat.mul_one] at xrv
            have hlv : (adK.add j).block < wb.heap.size := by rw [block_add]; exact hlv
            obtain rfl : nrv = 3 := hrv.len.symm.trans (hKl j hj)
            obtain ⟨arv, rfl, hmv, sev, Aev, nev, cev, Bev, mev, dev, ⟨zv0, zv1, zv2⟩, hxv⟩ := hrv.cells i hi
            have hmv : (arv.add (i * 3)).block < wb.heap.size := by rw [block_add]; exact hmv
            have hsy := hE.2.2.2.2.1 i j hi hj
            go_wp2_with fail
            go_region_held3 (fun w' => ((w'.cell? (adK.add i) = some (.slice (some aru) 3 cru)) ∧ (w'.cell? (aru.add (j * 3)) = some (.bool seu) ∧ w'.cell? ⟨(aru.add (j * 3)).block, (aru.add (j * 3)).off + 1, none⟩ = some (.slice Aeu neu ceu) ∧ w'.cell? ⟨(aru.add (j * 3)).block, (aru.add (j * 3)).off + 2, none⟩ = some (.slice Beu meu deu))) ∧ ((w'.cell? (adK.add j) = some (.slice (some arv) 3 crv)) ∧ (w'.cell? (arv.add (i * 3)) = some (.bool sev) ∧ w'.cell? ⟨(arv.add (i * 3)).block, (arv.add (i * 3)).off + 1, none⟩ = some (.slice Aev nev cev) ∧ w'.cell? ⟨(arv.add (i * 3)).block, (arv.add (i * 3)).off + 2, none⟩ = some (.slice Bev mev dev)))) (first | exact ⟨⟨(Bl.cellOf (w := wb) (p := adK.add i) slc hlu).trans xru, ⟨(Bl.cellOf (w := wb) (p := (aru.add (j * 3))) slc hmu).trans zu0, (Bl.cellOf (w := wb) (p := ⟨(aru.add (j * 3)).block, (aru.add (j * 3)).off + 1, none⟩) slc hmu).trans zu1, (Bl.cellOf (w := wb) (p := ⟨(aru.add (j * 3)).block, (aru.add (j * 3)).off + 2, none⟩) slc hmu).trans zu2⟩⟩, ⟨(Bl.cellOf (w := wb) (p := adK.add j) slc hlv).trans xrv, ⟨(Bl.cellOf (w := wb) (p := (arv.add (i * 3))) slc hmv).trans zv0, (Bl.cellOf (w := wb) (p := ⟨(arv.add (i * 3)).block, (arv.add (i * 3)).off + 1, none⟩) slc hmv).trans zv1, (Bl.cellOf (w := wb) (p := ⟨(arv.add (i * 3)).block, (arv.add (i * 3)).off + 2, none⟩) slc hmv).trans zv2⟩⟩⟩) (first | (go_at_call 37; (with_reducible refine (RatEqual_any _ (hxu.bl slc) (hxv.bl slc)).mono ?_); rw [hsy, eqR_self]; rintro e w7 ⟨rfl, hb7⟩))
            have hb7 : Bl wb w7 := slc
            go_wp2_with fail
            go_roundw
            case rel => exact ⟨j + 1, _, _, _, _, _, _, _, _, _, _, _, _, _, _, by omega, by go_num, h8.bl hb7, hF8.bl hb7, h9.bl hb7, hF9.bl hb7, hbb.next hb7⟩
            case measure => simp [intOf]; omega
          · obtain rfl : j = 3 := by omega
            have e0 : ((3 : Nat) : Int) = 3 := rfl
            rw [e0]
            clear e0
            obtain ⟨hsg, hok⟩ := hE.2.2.2.2.2.1 i hi
            obtain ⟨q0, q1, q2⟩ := bx3 h8
            go_wp2_with fail
            refine (RatSign_any _ hF8.rd).mono ?_
            rw [hsg]
            rintro e w6 ⟨rfl, hb6⟩
            have h8 := h8.bl hb6
            obtain ⟨q0, q1, q2⟩ := bx3 h8
            go_wp2_with fail
            refine (RatOk_any _ (hF8.bl hb6).rd).mono ?_
            rw [okR_of hok]
            rintro e w7 ⟨rfl, hb7⟩
            go_wp2_with fail
            go_roundw
            case rel => exact ⟨i + 1, _, _, _, _, _, _, _, by omega, by go_num, (h9.bl hb6).bl hb7, (hF9.bl hb6).bl hb7, (hbw.next hb6).next hb7⟩
            case measure => simp [intOf]; omega
      · obtain rfl : i = 3 := by omega
        have e0 : ((3 : Nat) : Int) = 3 := rfl
        rw [e0]
        clear e0
        have hall := Lib.hid hE.2.2.2.2.2.2
        have hL := RdPS.bl hL hbw
        go_wp2_with fail
        go_region_held3 (fun w' => (w'.cell? ⟨ga, 0, none⟩ = some (.bool s9) ∧ w'.cell? ⟨ga, 1, none⟩ = some (.slice A9 n9 c9) ∧ w'.cell? ⟨ga, 2, none⟩ = some (.slice B9 m9 d9))) (first | exact bx3 (T := 34) (h9.bl slc)) (first | (go_at_call 38; (with_reducible refine (AreaOf_any _ (RdPS.bl hL slc)).mono ?_); rintro e w6 ⟨s6, A6, n6, c6, B6, m6, d6, rfl, hR6, hb6⟩) | (go_at_call 37; (with_reducible refine (RatEqual_any _ ((hF9.bl slc).rd) (hR6.rd.bl slc)).mono ?_); rw [hall.out, eqR_self]; rintro e w7 ⟨rfl, hb7⟩))
        have hb7 : Bl wr w7 := slc
        go_wp2_with fail
        go_ret
        exact ⟨rfl, (hbw3.next hbw).next hb7⟩


end

end Go.Proofs.YtggjdgjkdmgjnaaGreat
