/- Lemmas. -/
import Derived.Test.YtajlahjghapbkaaGreatRows
import Derived.Test.YtajlahjghapbkaaGreatPRefineM28
import Derived.Test.YtajlahjghapbkaaGreatPRefineM20
namespace Go.Proofs.YtajlahjghapbkaaGreat
section
open Go.RowKit

structure MeQ where
  pts : List (Rat × Rat)
  tris : List TriD
  deriving DecidableEq
/-- A mesh of points that can be placed, which the program calls valid. -/
structure MeshOk (m : MeQ) : Prop where
  n3 : 3 ≤ m.pts.length
  n40 : m.pts.length ≤ 40
  t1 : 1 ≤ m.tris.length
  t48 : m.tris.length ≤ 48
  diff : ∀ k, k < m.pts.length → ∀ j, j < k → pix m.pts k ≠ pix m.pts j
  place : PlOk m.pts
  ixs : TrsIx m.pts.length m.tris
  reg : ∀ k, k < m.tris.length → (0 ≤ (pix m.tris k).region ∧ (pix m.tris k).region ≤ 2) ∧ 0 ≤ (pix m.tris k).level ∧ (pix m.tris k).level ≤ 60
  pos : ∀ k, k < m.tris.length → 0 < trn (plXs m.pts m.pts.length) (plYs m.pts m.pts.length) (pix m.tris k).a (pix m.tris k).b (pix m.tris k).c
  sep : ∀ k, k < m.tris.length → ∀ j, j < k → sepI (plXs m.pts m.pts.length) (plYs m.pts m.pts.length) (pix m.tris j) (pix m.tris k) = true ∨ sepI (plXs m.pts m.pts.length) (plYs m.pts m.pts.length) (pix m.tris k) (pix m.tris j) = true
  used : ∀ k : Nat, k < m.pts.length → ∃ j, j < m.tris.length ∧ ((pix m.tris j).a = k ∨ (pix m.tris j).b = k ∨ (pix m.tris j).c = k)
  noIn : NoIn m.pts.length (plXs m.pts m.pts.length) (plYs m.pts m.pts.length) m.tris
theorem MeshOk.ptsOk {m : MeQ} (h : MeshOk m) : PtsOk (m.pts.map tp) := by
  intro k hk
  rw [List.length_map] at hk
  rw [pix_map hk]
  obtain ⟨s1, s2⟩ := h.place.1 k hk
  refine ⟨⟨s1.fit.ok, s2.fit.ok⟩, fun j hj => ?_⟩
  rw [pix_map (by omega)]
  refine eqP_no fun e => h.diff k hk j hj ?_
  unfold tp at e
  injection e with e1 e2
  exact Prod.ext (toR_inj e1) (toR_inj e2)
/-- Which points the first k triangles use. -/
def usedTo (ts : List TriD) : Nat → Nat → Bool
  | 0, _ => false
  | k + 1, i => usedTo ts k i || (decide ((pix ts k).a = i) || (decide ((pix ts k).b = i) || decide ((pix ts k).c = i)))
theorem usedTo_of {ts : List TriD} {i : Nat} : ∀ {k j : Nat}, j < k → ((pix ts j).a = i ∨ (pix ts j).b = i ∨ (pix ts j).c = i) → usedTo ts k i = true
  | k + 1, j, hj, h => by
    unfold usedTo
    rcases Nat.lt_succ_iff_lt_or_eq.1 hj with hj | rfl
    · rw [usedTo_of hj h]; rfl
    · rcases h with h | h | h <;> simp [h]
/-- Block g holds the truth values b 0, .., b (n - 1). -/
def OwU (w : World) (g n : Nat) (b : Nat → Bool) : Prop := ∃ cs, Blk w g 4 cs ∧ cs.size = n ∧ ∀ i, i < n → cs[i]? = some (.bool (b i))
theorem OwU.bl {w W : World} {g n : Nat} {b : Nat → Bool} (h : OwU w g n b) (hb : Bl w W) : OwU W g n b := by
  obtain ⟨cs, h1, h2⟩ := h
  exact ⟨cs, h1.bl hb, h2⟩
theorem OwU.lt {w : World} {g n : Nat} {b : Nat → Bool} (h : OwU w g n b) : g < w.heap.size := by
  obtain ⟨cs, h1, h2⟩ := h
  exact h1.lt
theorem OwU.cell {w : World} {g n : Nat} {b : Nat → Bool} (h : OwU w g n b) {i : Nat} (hi : i < n) : w.cell? ⟨g, i, none⟩ = some (.bool (b i)) := by
  obtain ⟨cs, h1, _, h2⟩ := h
  exact (h1.cell i).trans (h2 i hi)
theorem OwU.frozen {w : World} {g n : Nat} {b : Nat → Bool} (h : OwU w g n b) (i : Nat) : w.frozen? ⟨g, i, none⟩ = false := by
  obtain ⟨cs, h1, _⟩ := h
  exact h1.frozen i
theorem OwU.set {w : World} {g n : Nat} {b : Nat → Bool} (h : OwU w g n b) (k : Nat) (x : Bool) : OwU (w.setCell ⟨g, k, none⟩ (.bool x)) g n (fun i => if i = k then x else b i) := by
  obtain ⟨cs, h1, h2, h3⟩ := h
  refine ⟨_, h1.set_ k _, by simpa using h2, fun i hi => ?_⟩
  show _ = some (Value.bool (if i = k then x else b i))
  by_cases e : i = k
  · subst e
    rw [if_pos rfl]
    simp [h2, hi]
  · rw [if_neg e, Array.getElem?_setIfInBounds_ne (by omega)]
    exact h3 i hi
theorem OwU.congr {w : World} {g n : Nat} {b b' : Nat → Bool} (h : OwU w g n b) (e : ∀ i, i < n → b i = b' i) : OwU w g n b' := by
  obtain ⟨cs, h1, h2, h3⟩ := h
  exact ⟨cs, h1, h2, fun i hi => by rw [← e i hi]; exact h3 i hi⟩

theorem IndexBool_no (w : World) {g n c : Nat} (hc : ∀ i, i < n → w.cell? ⟨g, i, none⟩ = some (.bool true)) (hn : n ≤ 1048576) :
    Calls Tryz.prog 164 #[.slice (some ⟨g, 0, none⟩) n c, .bool false] w fun e w' => e = .returned (.int .i64 (-1)) ∧ w' = w := by
  have hc := Lib.hid hc; rename_i h_; clear h_
  go_enter Tryz.func164, Tryz.ntmps164
  go_wp2_with fail
  go_loop [8] (fun i => ∃ k : Nat, k ≤ n ∧ i = .int .i64 (k : Int)) (fun i => n - (intOf i).toNat)
  case atStart => exact ⟨0, Nat.zero_le _, rfl⟩
  case round =>
    obtain ⟨k, hk, rfl⟩ := hrel
    by_cases hkn : k < n
    · have hki : (k : Int) < (n : Int) := by omega
      have y0 := hc.out k hkn
      go_wp2_with fail
      go_round
      case rel => exact ⟨k + 1, by omega, by go_num⟩
      case measure => simp [intOf]; omega
    · obtain rfl : k = n := by omega
      have hkm2 : ¬ (k : Int) < (k : Int) := by omega
      go_wp2_with fail
      go_ret
      exact ⟨rfl, rfl⟩
theorem ContainsBool_no (w : World) {g n c : Nat} (hc : ∀ i, i < n → w.cell? ⟨g, i, none⟩ = some (.bool true)) (hn : n ≤ 1048576) :
    Calls Tryz.prog 106 #[.slice (some ⟨g, 0, none⟩) n c, .bool false] w fun e w' => e = .returned (.bool false) ∧ w' = w := by
  have hc := Lib.hid hc; rename_i h_; clear h_
  go_enter Tryz.func106, Tryz.ntmps106
  go_wp2_with fail
  refine (IndexBool_no _ hc.out hn).mono ?_
  rintro e w1 ⟨rfl, rfl⟩
  go_wp2_with fail
  go_ret
  exact ⟨rfl, rfl⟩
end

section
open Go.RowKit

/-- What the kernel checks of a mesh whose points lie at xs, ys. -/
def okT (n : Nat) (xs ys : List Int) (ts : List TriD) : Bool :=
  decide (TrsIx n ts) && (decide (∀ k, k < ts.length → (0 ≤ (pix ts k).region ∧ (pix ts k).region ≤ 2) ∧ 0 ≤ (pix ts k).level ∧ (pix ts k).level ≤ 60) &&
    (decide (∀ k, k < ts.length → 0 < trn xs ys (pix ts k).a (pix ts k).b (pix ts k).c) &&
      (decide (∀ k, k < ts.length → ∀ j, j < k → sepI xs ys (pix ts j) (pix ts k) = true ∨ sepI xs ys (pix ts k) (pix ts j) = true) &&
        (decide (∀ k, k < n → usedTo ts ts.length k = true) && decide (NoIn n xs ys ts)))))
theorem usedTo_ex {ts : List TriD} {i : Nat} : ∀ {k : Nat}, usedTo ts k i = true → ∃ j, j < k ∧ ((pix ts j).a = i ∨ (pix ts j).b = i ∨ (pix ts j).c = i)
  | 0, h => by cases h
  | k + 1, h => by
    unfold usedTo at h
    simp only [Bool.or_eq_true, decide_eq_true_eq] at h
    rcases h with h | h
    · obtain ⟨j, hj, h2⟩ := usedTo_ex h
      exact ⟨j, by omega, h2⟩
    · exact ⟨k, by omega, h⟩
def okP (pts : List (Rat × Rat)) : Bool :=
  decide (∀ k, k < pts.length → ∀ j, j < k → pix pts k ≠ pix pts j) && (decide (∀ k, k < pts.length → SmQ (pix pts k).1 ∧ SmQ (pix pts k).2) && decide (∀ k, k < pts.length → shS (shTo pts k) (pix pts k).1.den ≤ 268435456 ∧ shTo pts (k + 1) ≤ 268435456))
theorem MeshOk.of {m : MeQ} (n : Nat) (xs ys : List Int) (hn : m.pts.length = n) (hx : plXs m.pts n = xs) (hy : plYs m.pts n = ys) (h1 : (3 ≤ n ∧ n ≤ 40) ∧ 1 ≤ m.tris.length ∧ m.tris.length ≤ 48) (h2 : okP m.pts = true) (h3 : PlB n xs ys) (h4 : okT n xs ys m.tris = true) : MeshOk m := by
  unfold okP at h2
  unfold okT at h4
  simp only [Bool.and_eq_true, decide_eq_true_eq] at h2 h4
  obtain ⟨a1, a2, a3⟩ := h2
  obtain ⟨b1, b2, b3, b4, b5, b6⟩ := h4
  subst hn
  subst hx
  subst hy
  exact ⟨h1.1.1, h1.1.2, h1.2.1, h1.2.2, a1, ⟨a2, a3, h3⟩, b1, b2, b3, b4, fun k hk => usedTo_ex (b5 k hk), b6⟩
def qp1 (x y : Nat) : Rat × Rat := (mkRat (x : Int) 1, mkRat (y : Int) 1)
end

end Go.Proofs.YtajlahjghapbkaaGreat
