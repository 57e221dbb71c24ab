/- Lemmas. -/
import Derived.Test.YtajlahjghapbkaaGreatRows
import Derived.Test.YtajlahjghapbkaaGreatPBuildersM25
import Derived.Test.YtajlahjghapbkaaGreatPBuildersM18
import Derived.Test.YtajlahjghapbkaaGreatPBuildersM20
import Derived.Test.YtajlahjghapbkaaGreatPBuildersM19
namespace Go.Proofs.YtajlahjghapbkaaGreat
section
open Go.RowKit

def toP (x y : Rat) : PtD := ⟨toR x, toR y⟩
theorem ifP_toP {x y : Rat} (hx : Fit x) (hy : Fit y) : ifP (toP x y) = toP x y := by
  have e1 := (okR_den (.inr hx.ok)).2 hx.ok
  have e2 := (okR_den (.inr hy.ok)).2 hy.ok
  unfold ifP
  rw [if_neg]
  rintro (h | h)
  · exact e1 h
  · exact e2 h
theorem subP_toP {x y u v : Rat} (hx : Bd 17 x) (hy : Bd 17 y) (hu : Bd 17 u) (hv : Bd 17 v) : subP (toP x y) (toP u v) = toP (x - u) (y - v) ∧ Bd 578 (x - u) ∧ Bd 578 (y - v) := by
  have h1 : Bd 578 (x - u) := (hx.sub hu).mono (by decide)
  have h2 : Bd 578 (y - v) := (hy.sub hv).mono (by decide)
  refine ⟨?_, h1, h2⟩
  unfold subP
  rw [show (toP x y).x = toR x from rfl, show (toP u v).x = toR u from rfl, show (toP x y).y = toR y from rfl, show (toP u v).y = toR v from rfl,
    subR_toR (hx.fit (by decide)) (hu.fit (by decide)) (h1.fit (by decide)), subR_toR (hy.fit (by decide)) (hv.fit (by decide)) (h2.fit (by decide))]
  exact ifP_toP (h1.fit (by decide)) (h2.fit (by decide))
/-- Twice the area. -/
def detQ (x0 y0 x1 y1 x2 y2 : Rat) : Rat := (x1 - x0) * (y2 - y0) - (y1 - y0) * (x2 - x0)
theorem dblA_toP {x0 y0 x1 y1 x2 y2 : Rat} (a0 : Bd 17 x0) (b0 : Bd 17 y0) (a1 : Bd 17 x1) (b1 : Bd 17 y1) (a2 : Bd 17 x2) (b2 : Bd 17 y2) :
    dblA (toP x0 y0) (toP x1 y1) (toP x2 y2) = toR (detQ x0 y0 x1 y1 x2 y2) ∧ Bd 223224238112 (detQ x0 y0 x1 y1 x2 y2) := by
  obtain ⟨e1, h1, h2⟩ := subP_toP a1 b1 a0 b0
  obtain ⟨e2, h3, h4⟩ := subP_toP a2 b2 a0 b0
  have m1 : Bd 334084 ((x1 - x0) * (y2 - y0)) := (h1.mul h4).mono (by decide)
  have m2 : Bd 334084 ((y1 - y0) * (x2 - x0)) := (h2.mul h3).mono (by decide)
  have m3 : Bd 223224238112 (detQ x0 y0 x1 y1 x2 y2) := (m1.sub m2).mono (by decide)
  refine ⟨?_, m3⟩
  unfold dblA
  rw [e1, e2]
  unfold crossP
  rw [show (toP (x1 - x0) (y1 - y0)).x = toR (x1 - x0) from rfl, show (toP (x1 - x0) (y1 - y0)).y = toR (y1 - y0) from rfl, show (toP (x2 - x0) (y2 - y0)).x = toR (x2 - x0) from rfl, show (toP (x2 - x0) (y2 - y0)).y = toR (y2 - y0) from rfl,
    mulR_toR (h1.fit (by decide)) (h4.fit (by decide)) (m1.fit (by decide)), mulR_toR (h2.fit (by decide)) (h3.fit (by decide)) (m2.fit (by decide)), subR_toR (m1.fit (by decide)) (m2.fit (by decide)) (m3.fit (by decide))]
  rfl
end

section
open Go.RowKit

theorem Ob.bl {bs : List Nat} {w W W2 : World} (h : Ob bs w W) (hb : Bl W W2) : Ob bs w W2 := h.trans (Ob.of_bl hb _)
end

section
open Go.RowKit
end

section
open Go.RowKit

def SqTo (L : List (List RatD)) (k : Nat) : Prop := ∀ i, i < k → AllOk (pix L i)
theorem SqTo.step {L : List (List RatD)} {k : Nat} (h : SqTo L k) (h0 : AllOk (pix L k)) : SqTo L (k + 1) := by
  intro j hj
  rcases Nat.lt_succ_iff_lt_or_eq.1 hj with hj | rfl
  · exact h j hj
  · exact h0
end

section
open Go.RowKit
end

section
open Go.RowKit

section
variable {x0 y0 x1 y1 x2 y2 : Rat}
/-- Six small coordinates. -/
def Sm6 (x0 y0 x1 y1 x2 y2 : Rat) : Prop := Bd 17 x0 ∧ Bd 17 y0 ∧ Bd 17 x1 ∧ Bd 17 y1 ∧ Bd 17 x2 ∧ Bd 17 y2
def arQ (x0 y0 x1 y1 x2 y2 : Rat) : Rat := mkRat 1 2 * detQ x0 y0 x1 y1 x2 y2
theorem half_sm : ofFrac 1 2 = toR (mkRat 1 2) ∧ Bd 2 (mkRat 1 2) := by
  have hb : Bd 2 (mkRat 1 2) := bd_mk (by omega) (by decide) (by omega)
  refine ⟨?_, hb⟩
  rw [ofFrac_toR 1 (by omega), if_pos (hb.fit (by decide))]
theorem area_toP (h : Sm6 x0 y0 x1 y1 x2 y2) : areaR (toP x0 y0) (toP x1 y1) (toP x2 y2) = toR (arQ x0 y0 x1 y1 x2 y2) ∧ Bd 446448476224 (arQ x0 y0 x1 y1 x2 y2) := by
  obtain ⟨a0, b0, a1, b1, a2, b2⟩ := h
  obtain ⟨e, hd⟩ := dblA_toP a0 b0 a1 b1 a2 b2
  obtain ⟨e2, hh⟩ := half_sm
  have ha : Bd 446448476224 (arQ x0 y0 x1 y1 x2 y2) := (hh.mul hd).mono (by decide)
  refine ⟨?_, ha⟩
  unfold areaR
  rw [e, e2, mulR_toR (hh.fit (by decide)) (hd.fit (by decide)) (ha.fit (by decide))]
  rfl
end
end

section
open Go.RowKit

section
variable {x0 y0 x1 y1 x2 y2 : Rat}
theorem zero_sm : ofFrac 0 1 = toR (mkRat 0 1) ∧ Bd 1 (mkRat 0 1) ∧ mkRat 0 1 = 0 := by
  have hb : Bd 1 (mkRat 0 1) := bd_mk (by omega) (by decide) (by omega)
  refine ⟨?_, hb, by decide +kernel⟩
  rw [ofFrac_toR 0 (by omega), if_pos (hb.fit (by decide))]
end
end

end Go.Proofs.YtajlahjghapbkaaGreat
