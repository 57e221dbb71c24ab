/- Lemmas. -/
import Derived.Test.YtajlahjghapbkaaGreatRows
import Derived.Test.YtajlahjghapbkaaGreatPIntegralsM31
import Derived.Lib.MinMax
import Derived.Test.YtajlahjghapbkaaGreatPIntegralsM28
import Derived.Test.YtajlahjghapbkaaGreatPIntegralsM29
import Derived.Test.YtajlahjghapbkaaGreatPIntegralsM32
import Derived.Test.YtajlahjghapbkaaGreatPIntegralsM33
namespace Go.Proofs.YtajlahjghapbkaaGreat
section
open Go.RowKit
end

section
open Go.RowKit

section
variable {x0 y0 x1 y1 x2 y2 u v : Rat}
def repQ (x0 y0 x1 y1 x2 y2 u v : Rat) : Nat → Rat
  | 0 => detQ u v x1 y1 x2 y2
  | 1 => detQ x0 y0 u v x2 y2
  | _ + 2 => detQ x0 y0 x1 y1 u v
theorem repA_b {k : Nat} (a0 : B10 k x0) (b0 : B10 k y0) (a1 : B10 k x1) (b1 : B10 k y1) (a2 : B10 k x2) (b2 : B10 k y2) (hu : B10 k u) (hv : B10 k v) (hk : 8 * k + 5 < 216) (i : Nat) :
    repA (toP x0 y0) (toP x1 y1) (toP x2 y2) (toP u v) i = toR (repQ x0 y0 x1 y1 x2 y2 u v i) ∧ B10 (8 * k + 5) (repQ x0 y0 x1 y1 x2 y2 u v i) := by
  rcases i with _ | _ | i
  · exact dblA_b hu hv a1 b1 a2 b2 hk
  · exact dblA_b a0 b0 hu hv a2 b2 hk
  · exact dblA_b a0 b0 a1 b1 hu hv hk
theorem B10.pt (h : Bd 17 u) : B10 2 u := B10.of h (by decide)
end
end

section
open Go.RowKit

noncomputable def sumR (u : List RatD) : Nat → RatD
  | 0 => ofFrac 0 1
  | k + 1 => addR (sumR u k) (pix u k)
noncomputable def intR (p0 p1 p2 : PtD) (u : List RatD) : RatD := mulR (areaR p0 p1 p2) (mulR (ofFrac 1 3) (sumR u 3))
noncomputable def prodRow (M : List (List RatD)) (u v : List RatD) (a : RatD) (i : Nat) : Nat → RatD
  | 0 => a
  | j + 1 => addR (prodRow M u v a i j) (mulR (mulR (pix u i) (pix v j)) (pix (pix M i) j))
noncomputable def prodAll (M : List (List RatD)) (u v : List RatD) : Nat → RatD
  | 0 => ofFrac 0 1
  | i + 1 => prodRow M u v (prodAll M u v i) i 3
noncomputable def lgP (G : List PtD) (u : List RatD) : Nat → PtD
  | 0 => ⟨ofFrac 0 1, ofFrac 0 1⟩
  | k + 1 => addP (lgP G u k) (sclP (pix u k) (pix G k))
/-- A small fraction. -/
def RaS (r : RatD) : Prop := ∃ q : Rat, r = toR q ∧ Bd 17 q
noncomputable def oneV : List RatD := [ofFrac 1 1, ofFrac 1 1, ofFrac 1 1]
/-- What FnIntegrals asks of a corner list and of values at its corners. -/
def IgOk (p0 p1 p2 : PtD) (u : List RatD) : Prop :=
  (AllOk u ∧ AllOk oneV ∧ OkP p1 ∧ BarOk p0 p1 p2 p1 ∧ gradL [p0, p1, p2] = gradTo p0 p1 p2 3 ∧ massL [p0, p1, p2] = massTo (areaR p0 p1 p2) 3) ∧
  okR (intR p0 p1 p2 u) = true ∧ prodAll (massTo (areaR p0 p1 p2) 3) u oneV 3 = intR p0 p1 p2 u ∧ intR p0 p1 p2 oneV = areaL [p0, p1, p2] ∧
  innR u (barTo p0 p1 p2 p1 3) = pix u 1 ∧ lgP (gradTo p0 p1 p2 3) oneV 3 = ⟨ofFrac 0 1, ofFrac 0 1⟩
section
variable {x0 y0 x1 y1 x2 y2 : Rat}
theorem allOk3 {a b c : RatD} (h0 : OkR a) (h1 : OkR b) (h2 : OkR c) : AllOk [a, b, c] := by
  intro k hk
  simp only [List.length_cons, List.length_nil] at hk
  rcases (show k = 0 ∨ k = 1 ∨ k = 2 by omega) with rfl | rfl | rfl
  · exact h0
  · exact h1
  · exact h2
theorem ig_ok (h : Sm6 x0 y0 x1 y1 x2 y2) (hp : propB [toP x0 y0, toP x1 y1, toP x2 y2] = true) {a b c : Rat} (ha : Bd 17 a) (hb : Bd 17 b) (hc : Bd 17 c) :
    IgOk (toP x0 y0) (toP x1 y1) (toP x2 y2) [toR a, toR b, toR c] := by
  have hd := det_pos h hp
  have hgo := gradOk_toP h hd 3
  have hg := fun i => grad3_toP h hd i
  have hgX := fun i => B10.of (k := 15) (gX_bd h i) (by decide)
  have hgY := fun i => B10.of (k := 15) (gY_bd h i) (by decide)
  have hma := massL_toP h hp
  have hmv := fun i j => massV_toP h i j
  have hmb := fun i j => B10.of (k := 13) (mQ_bd h i j) (by decide)
  obtain ⟨ear, har⟩ := area_toP h
  have har := B10.of (k := 12) har (by decide)
  obtain ⟨a0, b0, a1, b1, a2, b2⟩ := h
  have a0 := B10.pt a0
  have b0 := B10.pt b0
  have a1 := B10.pt a1
  have b1 := B10.pt b1
  have a2 := B10.pt a2
  have b2 := B10.pt b2
  have ha := B10.pt ha
  have hb := B10.pt hb
  have hc := B10.pt hc
  obtain ⟨ed, hD⟩ := dblA_b a0 b0 a1 b1 a2 b2 (by omega)
  have h0 : detQ x0 y0 x1 y1 x2 y2 ≠ 0 := by grind
  have hrep := repA_b a0 b0 a1 b1 a2 b2 a1 b1 (by omega)
  have hbar : ∀ i, bar3 (toP x0 y0) (toP x1 y1) (toP x2 y2) (toP x1 y1) i = toR (repQ x0 y0 x1 y1 x2 y2 x1 y1 i / detQ x0 y0 x1 y1 x2 y2) ∧ B10 42 (repQ x0 y0 x1 y1 x2 y2 x1 y1 i / detQ x0 y0 x1 y1 x2 y2) := by
    intro i
    obtain ⟨e, hb⟩ := hrep i
    refine ⟨?_, hb.div hD⟩
    unfold bar3
    rw [ed, e]
    exact divR_b hb hD h0 (by omega)
  obtain ⟨ez, hz⟩ := int_b (k := 0) 0 (by decide) (by omega)
  obtain ⟨eo, ho⟩ := int_b (k := 0) 1 (by decide) (by omega)
  have ez : ofFrac 0 1 = toR 0 := ez
  have eo : ofFrac 1 1 = toR 1 := eo
  have hz : B10 0 (0 : Rat) := hz
  have ho : B10 0 (1 : Rat) := ho
  have eZ : (⟨ofFrac 0 1, ofFrac 0 1⟩ : PtD) = toP 0 0 := by rw [ez]; rfl
  obtain ⟨e3, h3⟩ := frac_b (k := 1) 1 3 (by omega) (by decide) (by decide) (by omega)
  have k3 : mkRat 1 3 = 1 / 3 := by decide +kernel
  rw [k3] at e3 h3
  have sumU : ∀ {a b c : Rat}, B10 2 a → B10 2 b → B10 2 c → sumR [toR a, toR b, toR c] 3 = toR (0 + a + b + c) ∧ B10 9 (0 + a + b + c) := by
    intro a b c ha hb hc
    refine ⟨?_, (((hz.add ha).add hb).add hc).mono (by omega)⟩
    show addR (addR (addR (ofFrac 0 1) (toR a)) (toR b)) (toR c) = _
    rw [ez, addR_b hz ha (by omega), addR_b (hz.add ha) hb (by omega), addR_b ((hz.add ha).add hb) hc (by omega)]
  have intU : ∀ {a b c : Rat}, B10 2 a → B10 2 b → B10 2 c → intR (toP x0 y0) (toP x1 y1) (toP x2 y2) [toR a, toR b, toR c] = toR (arQ x0 y0 x1 y1 x2 y2 * (1 / 3 * (0 + a + b + c))) ∧ B10 22 (arQ x0 y0 x1 y1 x2 y2 * (1 / 3 * (0 + a + b + c))) := by
    intro a b c ha hb hc
    obtain ⟨e, hs⟩ := sumU ha hb hc
    refine ⟨?_, (har.mul (h3.mul hs)).mono (by omega)⟩
    unfold intR
    rw [e, ear, e3, mulR_b h3 hs (by omega), mulR_b har (h3.mul hs) (by omega)]
  have eV : oneV = [toR 1, toR 1, toR 1] := by unfold oneV; rw [eo]
  have hO := ho.mono (show 0 ≤ 2 by omega)
  have okT : ∀ {k : Nat} {q : Rat}, B10 k q → k < 216 → OkR (toR q) := fun h hk => (h.fit hk).ok
  refine ⟨⟨allOk3 (okT ha (by omega)) (okT hb (by omega)) (okT hc (by omega)), by rw [eV]; exact allOk3 (okT ho (by omega)) (okT ho (by omega)) (okT ho (by omega)), okP_b a1 b1 (by omega), fun j _ => ?_, ?_, hma⟩, ?_, ?_, ?_, ?_, ?_⟩
  · rw [(hbar j).1]; exact okT (hbar j).2 (by omega)
  · unfold gradL
    rw [if_pos hp]
    show gradP (toP x0 y0) (toP x1 y1) (toP x2 y2) = _
    unfold gradP
    rw [if_pos hgo]
  · rw [(intU ha hb hc).1]
    exact okR_of (okT (intU ha hb hc).2 (by omega))
  · rw [(intU ha hb hc).1, eV]
    have step : ∀ {K : Nat} {s u : Rat} {i j : Nat}, B10 K s → B10 2 u → K + 16 < 216 → addR (toR s) (mulR (mulR (toR u) (toR 1)) (massV (areaR (toP x0 y0) (toP x1 y1) (toP x2 y2)) i j)) = toR (s + u * 1 * mQ x0 y0 x1 y1 x2 y2 i j) ∧ B10 (K + 16) (s + u * 1 * mQ x0 y0 x1 y1 x2 y2 i j) := by
      intro K s u i j hs hu hK
      have m1 := hu.mul ho
      have m2 := m1.mul (hmb i j)
      refine ⟨?_, hs.add m2⟩
      rw [hmv, mulR_b hu ho (by omega), mulR_b m1 (hmb i j) (by omega), addR_b hs m2 (by omega)]
    show addR (addR (addR (addR (addR (addR (addR (addR (addR (ofFrac 0 1) (mulR (mulR (toR a) (toR 1)) (massV _ 0 0))) (mulR (mulR (toR a) (toR 1)) (massV _ 0 1))) (mulR (mulR (toR a) (toR 1)) (massV _ 0 2)))
      (mulR (mulR (toR b) (toR 1)) (massV _ 1 0))) (mulR (mulR (toR b) (toR 1)) (massV _ 1 1))) (mulR (mulR (toR b) (toR 1)) (massV _ 1 2)))
      (mulR (mulR (toR c) (toR 1)) (massV _ 2 0))) (mulR (mulR (toR c) (toR 1)) (massV _ 2 1))) (mulR (mulR (toR c) (toR 1)) (massV _ 2 2)) = _
    rw [ez]
    obtain ⟨f1, g1⟩ := step (i := 0) (j := 0) hz ha (by omega)
    rw [f1]
    obtain ⟨f2, g2⟩ := step (i := 0) (j := 1) g1 ha (by omega)
    rw [f2]
    obtain ⟨f3, g3⟩ := step (i := 0) (j := 2) g2 ha (by omega)
    rw [f3]
    obtain ⟨f4, g4⟩ := step (i := 1) (j := 0) g3 hb (by omega)
    rw [f4]
    obtain ⟨f5, g5⟩ := step (i := 1) (j := 1) g4 hb (by omega)
    rw [f5]
    obtain ⟨f6, g6⟩ := step (i := 1) (j := 2) g5 hb (by omega)
    rw [f6]
    obtain ⟨f7, g7⟩ := step (i := 2) (j := 0) g6 hc (by omega)
    rw [f7]
    obtain ⟨f8, g8⟩ := step (i := 2) (j := 1) g7 hc (by omega)
    rw [f8]
    obtain ⟨f9, g9⟩ := step (i := 2) (j := 2) g8 hc (by omega)
    rw [f9]
    congr 1
    have k6 : mkRat 6 1 = 6 := by decide +kernel
    have k12 : mkRat 12 1 = 12 := by decide +kernel
    have q1 : ∀ i, mQ x0 y0 x1 y1 x2 y2 i i = arQ x0 y0 x1 y1 x2 y2 / 6 := fun i => by unfold mQ; rw [if_pos rfl]; exact congrArg _ k6
    have q2 : ∀ i j, i ≠ j → mQ x0 y0 x1 y1 x2 y2 i j = arQ x0 y0 x1 y1 x2 y2 / 12 := fun i j hn => by unfold mQ; rw [if_neg hn]; exact congrArg _ k12
    rw [q1 0, q1 1, q1 2, q2 0 1 (by omega), q2 0 2 (by omega), q2 1 0 (by omega), q2 1 2 (by omega), q2 2 0 (by omega), q2 2 1 (by omega)]
    generalize arQ x0 y0 x1 y1 x2 y2 = A
    grind
  · rw [eV, (intU hO hO hO).1]
    unfold areaL
    rw [if_pos hp]
    show _ = areaR (toP x0 y0) (toP x1 y1) (toP x2 y2)
    rw [ear]
    congr 1
    generalize arQ x0 y0 x1 y1 x2 y2 = A
    grind
  · unfold innR
    rw [if_pos (by simp [barTo_len])]
    show addR (addR (addR (ofFrac 0 1) (mulR (toR a) (bar3 _ _ _ _ 0))) (mulR (toR b) (bar3 _ _ _ _ 1))) (mulR (toR c) (bar3 _ _ _ _ 2)) = toR b
    have m0 := ha.mul (hbar 0).2
    have m1 := hb.mul (hbar 1).2
    have m2 := hc.mul (hbar 2).2
    rw [(hbar 0).1, (hbar 1).1, (hbar 2).1, ez, mulR_b ha (hbar 0).2 (by omega), mulR_b hb (hbar 1).2 (by omega), mulR_b hc (hbar 2).2 (by omega), addR_b hz m0 (by omega), addR_b (hz.add m0) m1 (by omega), addR_b ((hz.add m0).add m1) m2 (by omega)]
    congr 1
    have i0 := Rat.mul_inv_cancel _ h0
    have r0 : repQ x0 y0 x1 y1 x2 y2 x1 y1 0 = 0 := by simp only [repQ]; unfold detQ; grind
    have r1 : repQ x0 y0 x1 y1 x2 y2 x1 y1 1 = detQ x0 y0 x1 y1 x2 y2 := rfl
    have r2 : repQ x0 y0 x1 y1 x2 y2 x1 y1 2 = 0 := by simp only [repQ]; unfold detQ; grind
    rw [r0, r1, r2]
    simp only [Rat.div_def]
    generalize detQ x0 y0 x1 y1 x2 y2 = D at *
    generalize D⁻¹ = E at *
    grind
  · rw [eV]
    show addP (addP (addP ⟨ofFrac 0 1, ofFrac 0 1⟩ (sclP (toR 1) (pix (gradTo _ _ _ 3) 0))) (sclP (toR 1) (pix (gradTo _ _ _ 3) 1))) (sclP (toR 1) (pix (gradTo _ _ _ 3) 2)) = _
    rw [pix_gradTo _ _ _ (by omega), pix_gradTo _ _ _ (by omega), pix_gradTo _ _ _ (by omega), hg 0, hg 1, hg 2, eZ,
      sclP_b ho (hgX 0) (hgY 0) (by omega), sclP_b ho (hgX 1) (hgY 1) (by omega), sclP_b ho (hgX 2) (hgY 2) (by omega),
      addP_b hz hz (ho.mul (hgX 0)) (ho.mul (hgY 0)) (by omega), addP_b (hz.add (ho.mul (hgX 0))) (hz.add (ho.mul (hgY 0))) (ho.mul (hgX 1)) (ho.mul (hgY 1)) (by omega),
      addP_b ((hz.add (ho.mul (hgX 0))).add (ho.mul (hgX 1))) ((hz.add (ho.mul (hgY 0))).add (ho.mul (hgY 1))) (ho.mul (hgX 2)) (ho.mul (hgY 2)) (by omega)]
    congr 1
    · simp only [gX]; grind
    · simp only [gY]; grind
end
end

section
open Go.RowKit

def RatRes (w : World) (g : Nat) (A : Option Addr) (n c : Nat) (l : List Int) (en : Ending) (w' : World) : Prop := ∃ s1 A1 n1 c1 B1 m1 d1 r, en = .returned (.agg #[.bool s1, .slice A1 n1 c1, .slice B1 m1 d1]) ∧ OwR 3 w.heap.size w' s1 A1 n1 c1 B1 m1 d1 r ∧ RaS r ∧ Cur g w' A n c l ∧ Ob [g] w w'
set_option maxRecDepth 100000 in
set_option maxHeartbeats 4000000 in
theorem l01Pick5_any (w : World) {g n c : Nat} {A : Option Addr} {l : List Int} {G c5 : Nat} {a0 a1 a2 a3 a4 : Int} (hB : Blk w G 3 #[.int .i64 a0, .int .i64 a1, .int .i64 a2, .int .i64 a3, .int .i64 a4]) (hG : G ≠ g) (hC : Cur g w A n c l) :
    Calls Tryz.prog 154 #[.pointer (some ⟨g, 0, none⟩), .slice (some ⟨G, 0, none⟩) 5 c5] w fun e w' => ∃ x : Int, e = .returned (.int .i64 x) ∧ (x = a0 ∨ x = a1 ∨ x = a2 ∨ x = a3 ∨ x = a4) ∧ Cur g w' A n c l ∧ Ob [g] w w' := by
  go_enter Tryz.func154, Tryz.ntmps154
  go_wp2_with fail
  refine (l01Below_any _ 5 (by omega) (by omega) hC).mono ?_
  rintro e w1 ⟨x, rfl, hx0, hx1, hC1, hO⟩
  have hB := hB.ob hO (by simp; exact hG)
  rcases (show x = 0 ∨ x = 1 ∨ x = 2 ∨ x = 3 ∨ x = 4 by omega) with rfl | rfl | rfl | rfl | rfl
  · have r0 : w1.cell? ⟨G, 0, none⟩ = some (.int .i64 a0) := hB.cell 0
    go_wp2_with fail
    go_ret
    exact ⟨a0, rfl, by simp, hC1, hO⟩
  · have r0 : w1.cell? ⟨G, 1, none⟩ = some (.int .i64 a1) := hB.cell 1
    go_wp2_with fail
    go_ret
    exact ⟨a1, rfl, by simp, hC1, hO⟩
  · have r0 : w1.cell? ⟨G, 2, none⟩ = some (.int .i64 a2) := hB.cell 2
    go_wp2_with fail
    go_ret
    exact ⟨a2, rfl, by simp, hC1, hO⟩
  · have r0 : w1.cell? ⟨G, 3, none⟩ = some (.int .i64 a3) := hB.cell 3
    go_wp2_with fail
    go_ret
    exact ⟨a3, rfl, by simp, hC1, hO⟩
  · have r0 : w1.cell? ⟨G, 4, none⟩ = some (.int .i64 a4) := hB.cell 4
    go_wp2_with fail
    go_ret
    exact ⟨a4, rfl, by simp, hC1, hO⟩
theorem raS_of (x y : Int) (h0 : 0 ≤ x) (h1 : x < 21) (hy : y = 1 ∨ y = 1 ∨ y = 1 ∨ y = 2 ∨ y = 3) : RaS (ofFrac (x - 10) y.natAbs) := by
  obtain ⟨e, b⟩ := ofFrac_sm (x - 10) y.natAbs (by omega) (by omega) (by omega)
  exact ⟨_, e, b⟩
set_option maxRecDepth 100000 in
set_option maxHeartbeats 8000000 in
theorem l04Few_any (w : World) {g n c : Nat} {A : Option Addr} {l : List Int} (hC : Cur g w A n c l) :
    Calls Tryz.prog 85 #[.pointer (some ⟨g, 0, none⟩)] w (RatRes w g A n c l) := by
  have hgw := hC.lt
  have hwg : w.heap.size ≠ g := by omega
  have hAl : ∀ ad, A = Option.some ad → 0 < n → ad.block < w.heap.size := fun ad e h0 => by
    obtain ⟨_, _, _, _, _, hR, _⟩ := hC
    obtain ⟨_, e2, hl, _⟩ := hR.cells 0 h0
    rw [e] at e2
    cases e2
    exact hl
  have hwA : ∀ ad, A = Option.some ad → 0 < n → ad.block ≠ w.heap.size := fun ad e h0 => by have := hAl ad e h0; omega
  have hwA := Lib.hid hwA; rename_i h_; clear h_
  clear hAl
  go_enter Tryz.func85, Tryz.ntmps85
  go_wp2_with fail
  refine calls_gen (fun W => Wk 3 29 w.heap.size W ∧ Bl w W) ⟨bts, slc⟩ ?_
  rintro W ⟨hr, hbW⟩
  have hC := hC.bl hbW
  have hz0 := hr.lt
  refine (l01Below_any _ 21 (by omega) (by omega) hC).mono ?_
  rintro e w2 ⟨a, rfl, ha0, ha1, hC2, hO2⟩
  have hr := hr.ob hO2 (by simp; omega)
  have hO := (Ob.of_bl hbW [g]).trans hO2
  have hz2 := hr.lt
  have hg2 := hC2.lt
  clear hC hO2 hbW
  go_wp2_with fail
  refine calls_gen (fun W => Bl w2 W ∧ ∃ G, Blk W G 3 #[.int .i64 1, .int .i64 1, .int .i64 1, .int .i64 2, .int .i64 3] ∧ G = w2.heap.size) ⟨by exact slc, _, by exact bts, rfl⟩ ?_
  rintro W3 ⟨hb3, G, hB, hG⟩
  rw [← hG]
  have hGg : G ≠ g := by omega
  refine (l01Pick5_any _ hB hGg (hC2.bl hb3)).mono ?_
  rintro e w4 ⟨y, rfl, hy, hC4, hO4⟩
  have hr := (hr.bl hb3).ob hO4 (by simp; omega)
  have hO := (hO.trans (Ob.of_bl hb3 _)).trans hO4
  have hz4 := hr.lt
  have hy1 : 0 < y := by omega
  have hy2 : y ≤ 3 := by omega
  have hS := Lib.hid (raS_of a y ha0 ha1 hy)
  clear hy hB hG hGg hC2 hO4 hb3
  go_wp2_with fail
  refine (sRatOf_any _ (a - 10) y (by omega) (by omega) hy1 (by omega)).mono ?_
  rintro e w5 ⟨s1, A1, n1, c1, B1, m1, d1, rfl, hR, hb5⟩
  have hR : OwR 3 (w.heap.size + 1) w5 s1 A1 n1 c1 B1 m1 d1 (ofFrac (a - 10) y.natAbs) := hR.mono hz4
  have hr := hr.bl hb5
  have hC := hC4.bl hb5
  have hO := hO.trans (Ob.of_bl hb5 _)
  clear hC4 hb5
  obtain ⟨v0, x0⟩ := hr.val_ (i := 0) (by omega)
  obtain ⟨v1, x1⟩ := hr.val_ (i := 1) (by omega)
  obtain ⟨v2, x2⟩ := hr.val_ (i := 2) (by omega)
  have hgr := hr.lt
  obtain ⟨cs4, hB4, hc4⟩ := hr
  have hf0 := hB4.frozen 0
  have hf1 := hB4.frozen 1
  have hf2 := hB4.frozen 2
  go_wp2_with fail
  exact bodyPost_ret (v := .agg #[.bool s1, .slice A1 n1 c1, .slice B1 m1 d1]) (by simp [results, Tryz.results85, go_sem, x0, x1, x2]) rfl ⟨_, _, _, _, _, _, _, _, rfl, (((hR.far (by simp) _).far (by simp) _).far (by simp) _).mono (by omega), hS.out, Cur.set (Cur.set (Cur.set hC hwg hwA.out 0 _) hwg hwA.out 1 _) hwg hwA.out 2 _, Ob.far (Ob.far (Ob.far hO (Nat.le_refl _) 0 _) (Nat.le_refl _) 1 _) (Nat.le_refl _) 2 _⟩
/-- A list of small fractions. -/
def RasL (l : List RatD) : Prop := ∀ k, k < l.length → RaS (pix l k)
theorem RasL.snoc {l : List RatD} {r : RatD} (h : RasL l) (hr : RaS r) : RasL (l ++ [r]) := by
  intro k hk
  rw [List.length_append, List.length_singleton] at hk
  rcases Nat.lt_succ_iff_lt_or_eq.1 hk with hk | rfl
  · rw [pix_append_left hk]; exact h k hk
  · rw [pix_append_last]; exact hr
theorem RowG.ob {α : Type} [Inhabited α] {N : List Nat → Prop} {TP' : TypeId} {size lo hi : Nat} {El : World → Array Value → Nat → α → List Nat → Prop} {w W : World} {v : Value} {l : List α} (hk : KeepE size El) (h : RowG N TP' size El lo hi w v l) {g : Nat} (ho : Ob [g] w W) (hg : g < lo) : RowG N TP' size El lo hi W v l :=
  h.keep hk ho.size fun b h1 h2 => ho.block b (Nat.lt_of_lt_of_le h2 h.hiLe) (by simp; omega)
theorem wpList_append_ratS {W : World} {s : Bool} {A : Option Addr} {n c : Nat} {B : Option Addr} {m d : Nat} {p : RatD} {lo hi b0 : Nat} {l : List RatD} {ops : Array Oper} {rest : List Oper} {o : Oper} {a : Act} {Q : Exit → Act → World → Prop} (hgd : o.guard = none) (s1 x1 : Operand)
    (ho : o.op = .call { callee := .builtin .append, args := #[s1, x1], argTypes := #[33, 33] }) (v : Value) (hs : a.eval s1 = v) (hrow : RowR List.Nodup lo hi W v l)
    (hpt : OwR 3 b0 W s A n c B m d p) (hb0 : hi ≤ b0) (hlh : lo ≤ hi) (c1 : Nat) (hx : a.eval x1 = .slice (some ⟨W.heap.size, 0, none⟩) 1 c1) (hlen : l.length ≤ 1048576) (w0 : World) (hb : Bl w0 W) (h0 : w0.heap.size ≤ lo)
    (h : ∀ v' w', RowR List.Nodup lo w'.heap.size w' v' (l ++ [p]) → Bl w0 w' → (W.heap.size ≤ w'.heap.size ∧ ∀ g, g < W.heap.size → v.ownBlock ≠ some g → w'.heap[g]? = W.heap[g]? ∧ v'.ownBlock ≠ some g) → wpList Tryz.prog ops Q rest (a.put o.dst v') w') : wpList Tryz.prog ops Q (o :: rest) a (W.alloc (.cells #[.bool s, .slice A n c, .slice B m d] 29)) := by
  obtain ⟨bs, f1, f2⟩ := hpt
  exact wpList_append_rowS appN_nodup (rtIn_keep 3) info_rat (by rfl) (by omega) (by omega) Tryz.underlying33 hgd s1 x1 ho v hs hrow (p := p) (bs := bs) ⟨_, _, _, _, _, _, _, ⟨rfl, rfl, rfl⟩, f1⟩ rfl (by simp [Value.oneCell']) (fun b hm => ⟨Nat.le_trans hb0 (f2.2 b hm).1, (f2.2 b hm).2⟩) f2.1 hlh c1 hx hlen w0 hb h0 fun v' w' g1 g2 _ g4 => h v' w' g1 g2 g4
theorem Cur.low {g n c lo : Nat} {w W : World} {A : Option Addr} {l : List Int} (h : Cur g w A n c l) (hs : w.heap.size ≤ W.heap.size) (hB : ∀ b, b < lo → b < w.heap.size → W.heap[b]? = w.heap[b]?) (hg : g < lo) (hA : ∀ ad, A = Option.some ad → 0 < n → ad.block < lo) : Cur g W A n c l := by
  obtain ⟨i, k, h1, h2, h3, h4, h5⟩ := h
  refine ⟨i, k, (hB g hg h1.lt).trans h1, h2, h3, ⟨h4.len, h4.cap, h4.small, fun j hj => ?_⟩, h5⟩
  obtain ⟨ad, e, hlt, hc, hx⟩ := h4.cells j hj
  refine ⟨ad, e, Nat.lt_of_lt_of_le hlt hs, ?_, hx⟩
  exact (World.cell?_of_block (w := w) (hB (ad.add (j * 1)).block (by rw [block_add]; exact hA ad e (by omega)) (by rw [block_add]; exact hlt))).trans hc
def sLen : Value → Nat
  | .slice _ n _ => n
  | _ => 0
def VecRes (w : World) (N : Nat) (en : Ending) (w' : World) : Prop := ∃ gu c l, en = .returned (.slice (some ⟨gu, 0, none⟩) N c) ∧ RdRS w' (some ⟨gu, 0, none⟩) N c l ∧ RasL l ∧ Bl w w'
set_option maxRecDepth 100000 in
set_option maxHeartbeats 16000000 in
theorem MakeVector_any (w : World) {A : Option Addr} {n c : Nat} {l : List Int} (m : Nat) (hm : m ≤ 100) (N : Nat) (hN : N ≤ 1000) (hN0 : 0 < N) (h : RdB w A n c l) :
    Calls Tryz.prog 27 #[.slice A n c, .int .i64 (m : Int), .int .i64 (N : Int)] w (VecRes w N) := by
  have hAl : ∀ ad, A = Option.some ad → 0 < n → ad.block < w.heap.size := fun ad e h0 => by
    obtain ⟨_, e2, hl, _⟩ := h.cells 0 h0
    rw [e] at e2
    cases e2
    exact hl
  have hAl := Lib.hid hAl; rename_i h_; clear h_
  go_enter Tryz.func27, Tryz.ntmps27
  go_wp2_with fail
  refine (l31New_any _ (7 * m) (by omega) h).mono ?_
  rintro e w1 ⟨g, rfl, hg, hC, hb1⟩
  have hgl := hC.lt
  have hz1 := hb1.size
  go_wp2_with fail
  refine wp_gen (fun W => Bl w1 W ∧ ∃ v c, RowR List.Nodup w1.heap.size W.heap.size W v [] ∧ v = .slice (some ⟨w1.heap.size, 0, none⟩) 0 c ∧ c = 0) ⟨by exact slc, _, 0, by have := RowG.empty (size := 3) (TP := 29) (El := RtIn 3) appN_nodup w1 (Nat.le_refl _); rw [World.size_alloc]; exact this, rfl, rfl⟩ ?_
  rintro W ⟨hbW, v0, c0, hrow, hv0, rfl⟩
  rw [← hv0]
  have hC := hC.bl hbW
  have hb1 := hb1.next hbW
  have hzW := hbW.size
  clear hv0 hbW
  go_loopw [8] (fun v wr => ∃ (k : Nat) (u : List RatD), k ≤ N ∧ u.length = k ∧ RowR List.Nodup w1.heap.size wr.heap.size wr v u ∧ RasL u ∧ Cur g wr A n c l ∧ Bl w wr ∧ w1.heap.size ≤ wr.heap.size) (fun v _ => N - sLen v)
  case atStart => exact ⟨0, [], by omega, rfl, hrow, (fun k hk => by simp at hk), hC, hb1, hzW⟩
  case round =>
    clear hrow hC hb1 hzW
    obtain ⟨k, u, hk, hul, hrow, hu, hC, hbw, hz⟩ := hrel
    obtain ⟨A5, c5, rfl⟩ := RowG.shapeN hrow
    rw [hul] at hrow ⊢
    by_cases hkN : k < N
    · have hki : (k : Int) < (N : Int) := by omega
      go_wp2_with fail
      refine (l04Few_any _ hC).mono ?_
      rintro e w3 ⟨s1, A1, n1, c1, B1, m1, d1, r, rfl, hR, hS, hC3, hO⟩
      have hlo := hrow.hiLe
      have hzo := hO.size
      have hlo2 : ∀ g', (Value.slice A5 k c5).ownBlock = some g' → w1.heap.size ≤ g' := fun g' e => (RowG.lo hrow e).1
      have hrow := RowG.ob (rtIn_keep 3) hrow hO hgl
      have hb3 : Bl w w3 := hbw.ob hO (fun b hb => by simp at hb; omega)
      have hul2 := Lib.hid hul
      clear hul
      go_wp2_with ((refine wpList_append_ratS rfl (.tmp 18) (.tmp 21) rfl _ (by rfl) hrow hR (Nat.le_refl _) hz 1 (by rfl) (by rw [hul2.out]; omega) w hb3 (by omega) ?_; intro v' w8 hrow' hb8' hoth; clear hrow hR))
      have hz8 : w3.heap.size ≤ w8.heap.size := hoth.1
      have hC8 : Cur g w8 A n c l := hC3.low (lo := w1.heap.size) hz8 (fun b h1 h2 => (hoth.2 b h2 (fun e => by have := hlo2 b e; omega)).1) hgl (fun ad e h0 => by have := hAl.out ad e h0; omega)
      obtain ⟨A8, c8, rfl⟩ := RowG.shapeN hrow'
      go_roundw
      case rel => exact ⟨k + 1, u ++ [r], by omega, by simp [hul2.out], by simpa [hul2.out] using hrow', hu.snoc hS, hC8, hb8', by omega⟩
      case measure => simp [sLen, hul2.out]; omega
    · obtain rfl : k = N := by omega
      have hkm2 : ¬ (k : Int) < (k : Int) := by omega
      subst hul
      obtain ⟨A7, c7, bs7, e7, hft, hnd, hbs⟩ := RowR.ft hrow (by omega)
      injection e7 with e1 e2 e3
      subst e1 e3
      obtain ⟨gu, rfl⟩ : ∃ gu, A5 = some ⟨gu, 0, none⟩ := by
        rcases hft.2.2.2 with ⟨h0, _⟩ | ⟨gu, _, _, e, _⟩
        · omega
        · exact ⟨gu, e⟩
      go_wp2_with fail
      go_ret
      exact ⟨_, _, u, rfl, hft.rd, hu, hbw⟩
end

section
open Go.RowKit

set_option maxHeartbeats 4000000 in
theorem isVector_yes (w : World) {A : Option Addr} {n c : Nat} {l : List RatD} (h : RdRS w A n c l) (hok : Hid (AllOk l)) (x : Int) (hx : x = (n : Int)) :
    Calls Tryz.prog 96 #[.slice A n c, .int .i64 x] w fun e w' => e = .returned (.bool true) ∧ Bl w w' := by
  subst hx
  go_enter Tryz.func96, Tryz.ntmps96
  go_wp2_with fail
  refine (areRats_yes _ h hok.out).mono ?_
  rintro e w1 ⟨rfl, hb1⟩
  go_wp2_with fail
  go_ret
  exact ⟨rfl, hb1⟩
set_option maxHeartbeats 4000000 in
theorem hasValues_yes (w : World) {g c0 : Nat} {p0 p1 p2 : PtD} (h : RdPS w (some ⟨g, 0, none⟩) 3 c0 [p0, p1, p2]) (hp : Hid (propB [p0, p1, p2] = true)) {B : Option Addr} {d : Nat} {u : List RatD} (hu : RdRS w B 3 d u) (hok : Hid (AllOk u)) :
    Calls Tryz.prog 86 #[.slice (some ⟨g, 0, none⟩) 3 c0, .slice B 3 d] w fun e w' => e = .returned (.bool true) ∧ Bl w w' := by
  go_enter Tryz.func86, Tryz.ntmps86
  go_wp2_with fail
  refine (IsProper_any _ h).mono ?_
  rw [hp.out]
  rintro e w1 ⟨rfl, hb1⟩
  go_wp2_with fail
  refine (isVector_yes _ (RdRS.bl hu hb1) hok 3 rfl).mono ?_
  rintro e w2 ⟨rfl, hb2⟩
  go_wp2_with fail
  go_ret
  exact ⟨rfl, hb1.next hb2⟩
set_option maxRecDepth 100000 in
set_option maxHeartbeats 8000000 in
theorem IntegralOf_yes (w : World) {g c0 : Nat} {p0 p1 p2 : PtD} (h : RdPS w (some ⟨g, 0, none⟩) 3 c0 [p0, p1, p2]) (hp : Hid (propB [p0, p1, p2] = true)) {B : Option Addr} {d : Nat} {u : List RatD} (hu : RdRS w B 3 d u) (hok : Hid (AllOk u)) :
    Calls Tryz.prog 28 #[.slice (some ⟨g, 0, none⟩) 3 c0, .slice B 3 d] w fun e w' => ∃ s1 A1 n1 c1 B1 m1 d1, e = .returned (.agg #[.bool s1, .slice A1 n1 c1, .slice B1 m1 d1]) ∧ OwR 3 w.heap.size w' s1 A1 n1 c1 B1 m1 d1 (intR p0 p1 p2 u) ∧ Bl w w' := by
  have hsu := Lib.hid (show sumS u = sumR u 3 by unfold sumS; rw [hu.len]; rfl)
  go_enter Tryz.func28, Tryz.ntmps28
  go_wp2_with fail
  refine calls_gen (fun W => Bl w W ∧ Wk 3 29 w.heap.size W) ⟨slc, bts⟩ ?_
  rintro W ⟨hbW, hr⟩
  refine (hasValues_yes _ (RdPS.bl h hbW) hp (RdRS.bl hu hbW) hok).mono ?_
  rintro e w1 ⟨rfl, hb1⟩
  have hr := hr.bl hb1
  have hbW := hbW.next hb1
  clear hb1
  go_wp2_with fail
  refine (area_any _ (RdPS.bl h hbW)).mono ?_
  rintro e w2 ⟨s2, A2, n2, c2, B2, m2, d2, rfl, hR2, hb2⟩
  have hr := hr.bl hb2
  have hbW := hbW.next hb2
  go_wp2_with fail
  refine (RatOf_any _ 1 3 (by omega) (by omega) (by omega) (by omega)).mono ?_
  rintro e w3 ⟨s3, A3, n3, c3, B3, m3, d3, rfl, hR3, hb3⟩
  have hr := hr.bl hb3
  have hbW := hbW.next hb3
  go_wp2_with fail
  refine (sumOf_any _ (RdRS.bl hu hbW)).mono ?_
  rw [hsu.out]
  rintro e w4 ⟨s4, A4, n4, c4, B4, m4, d4, rfl, hR4, hb4⟩
  have hr := hr.bl hb4
  have hbW := hbW.next hb4
  go_wp2_with fail
  refine (RatMul_any _ (hR3.rd.bl hb4) hR4.rd).mono ?_
  rintro e w5 ⟨s5, A5, n5, c5, B5, m5, d5, rfl, hR5, hb5⟩
  have hr := hr.bl hb5
  have hbW := hbW.next hb5
  go_wp2_with fail
  refine (RatMul_any _ (((hR2.rd.bl hb3).bl hb4).bl hb5) hR5.rd).mono ?_
  rintro e w6 ⟨s6, A6, n6, c6, B6, m6, d6, rfl, hR6, hb6⟩
  have hR : OwR 3 (w.heap.size + 1) w6 s6 A6 n6 c6 B6 m6 d6 (intR p0 p1 p2 u) := hR6.mono hr.lt
  have hr := hr.bl hb6
  have hbW := hbW.next hb6
  obtain ⟨v0, x0⟩ := hr.val_ (i := 0) (by omega)
  obtain ⟨v1, x1⟩ := hr.val_ (i := 1) (by omega)
  obtain ⟨v2, x2⟩ := hr.val_ (i := 2) (by omega)
  have hg := hr.lt
  obtain ⟨cs4, hB4, hc4⟩ := hr
  have hf0 := hB4.frozen 0
  have hf1 := hB4.frozen 1
  have hf2 := hB4.frozen 2
  go_wp2_with fail
  exact bodyPost_ret (v := .agg #[.bool s6, .slice A6 n6 c6, .slice B6 m6 d6]) (by simp [results, Tryz.results28, go_sem, x0, x1, x2]) rfl ⟨_, _, _, _, _, _, _, rfl, (((hR.far (by simp) _).far (by simp) _).far (by simp) _).mono (by omega), slc⟩

set_option maxRecDepth 100000 in
set_option maxHeartbeats 8000000 in
theorem ValueIn_yes (w : World) {g c0 : Nat} {p0 p1 p2 : PtD} (h : RdPS w (some ⟨g, 0, none⟩) 3 c0 [p0, p1, p2]) (hp : Hid (propB [p0, p1, p2] = true)) {B : Option Addr} {d : Nat} {u : List RatD} (hu : RdRS w B 3 d u) (hok : Hid (AllOk u)) {s3 : Bool} {A3 : Option Addr} {n3 c3 : Nat} {B3 : Option Addr} {m3 d3 : Nat} {t3 : Bool} {C3 : Option Addr} {i3 e3 : Nat} {D3 : Option Addr} {j3 f3 : Nat} {q : PtD} (hqx : RdR w s3 A3 n3 c3 B3 m3 d3 q.x) (hqy : RdR w t3 C3 i3 e3 D3 j3 f3 q.y) (hqo : Hid (OkP q)) (hbo : Hid (BarOk p0 p1 p2 q)) :
    Calls Tryz.prog 32 #[.slice (some ⟨g, 0, none⟩) 3 c0, .slice B 3 d, .agg #[.bool s3, .slice A3 n3 c3, .slice B3 m3 d3, .bool t3, .slice C3 i3 e3, .slice D3 j3 f3]] w fun e w' => ∃ s1 A1 n1 c1 B1 m1 d1, e = .returned (.agg #[.bool s1, .slice A1 n1 c1, .slice B1 m1 d1]) ∧ OwR 3 w.heap.size w' s1 A1 n1 c1 B1 m1 d1 (innR u (barTo p0 p1 p2 q 3)) ∧ Bl w w' := by
  go_enter Tryz.func32, Tryz.ntmps32
  go_wp2_with fail
  refine calls_gen (fun W => Bl w W ∧ Blk W w.heap.size 31 #[.bool s3, .slice A3 n3 c3, .slice B3 m3 d3, .bool t3, .slice C3 i3 e3, .slice D3 j3 f3] ∧ Wk 3 29 (w.heap.size + 1) W) ⟨slc, bts, bts⟩ ?_
  rintro W ⟨hbW, hBq, hr⟩
  refine (hasValues_yes _ (RdPS.bl h hbW) hp (RdRS.bl hu hbW) hok).mono ?_
  rintro e w1 ⟨rfl, hb1⟩
  have hr := hr.bl hb1
  have hBq := hBq.bl hb1
  have hbW := hbW.next hb1
  clear hb1
  obtain ⟨r0, r1, r2, r3, r4, r5⟩ := bx6 hBq
  go_wp2_with fail
  refine (IsValidPoint_yes _ (hqx.bl hbW) (hqy.bl hbW) hqo.out).mono ?_
  rintro e w2 ⟨rfl, hb2⟩
  clear r0 r1 r2 r3 r4 r5
  have hr := hr.bl hb2
  have hBq := hBq.bl hb2
  have hbW := hbW.next hb2
  obtain ⟨r0, r1, r2, r3, r4, r5⟩ := bx6 hBq
  clear hb2
  go_wp2_with fail
  refine (Barycentric_yes _ (RdPS.bl h hbW) hp (hqx.bl hbW) (hqy.bl hbW) hqo hbo).mono ?_
  rintro e w3 ⟨gb, cb, rfl, hBar, hb3⟩
  clear r0 r1 r2 r3 r4 r5 hBq
  have hr := hr.bl hb3
  have hbW := hbW.next hb3
  clear hb3
  go_wp2_with fail
  refine (InnerVector_any _ (RdRS.bl hu hbW) hBar).mono ?_
  rintro e w4 ⟨s4, A4, n4, c4, B4, m4, d4, rfl, hR4, hb4⟩
  have hR : OwR 3 (w.heap.size + 1 + 1) w4 s4 A4 n4 c4 B4 m4 d4 (innR u (barTo p0 p1 p2 q 3)) := hR4.mono hr.lt
  have hr := hr.bl hb4
  have hbW := hbW.next hb4
  obtain ⟨v0, x0⟩ := hr.val_ (i := 0) (by omega)
  obtain ⟨v1, x1⟩ := hr.val_ (i := 1) (by omega)
  obtain ⟨v2, x2⟩ := hr.val_ (i := 2) (by omega)
  have hg := hr.lt
  obtain ⟨cs4, hB4, hc4⟩ := hr
  have hf0 := hB4.frozen 0
  have hf1 := hB4.frozen 1
  have hf2 := hB4.frozen 2
  go_wp2_with fail
  exact bodyPost_ret (v := .agg #[.bool s4, .slice A4 n4 c4, .slice B4 m4 d4]) (by simp [results, Tryz.results32, go_sem, x0, x1, x2]) rfl ⟨_, _, _, _, _, _, _, rfl, (((hR.far (by simp) _).far (by simp) _).far (by simp) _).mono (by omega), slc⟩
end

end Go.Proofs.YtajlahjghapbkaaGreat
