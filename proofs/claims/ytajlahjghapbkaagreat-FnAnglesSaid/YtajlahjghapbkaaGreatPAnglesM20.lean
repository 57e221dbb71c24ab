/- Lemmas. -/
import Derived.Test.YtajlahjghapbkaaGreatRows
import Derived.Test.YtajlahjghapbkaaGreatPAnglesM14
import Derived.Test.YtajlahjghapbkaaGreatPAnglesM19
import Derived.Deep.Cut
import Derived.Deep.DeepCutAuto
import Derived.Test.YtajlahjghapbkaaGreatPAnglesM09
import Derived.Test.YtajlahjghapbkaaGreatPAnglesM13
import Derived.Test.YtajlahjghapbkaaGreatPAnglesM18
import Derived.Test.YtajlahjghapbkaaGreatPAnglesM16
import Derived.Test.YtajlahjghapbkaaGreatPAnglesM17
import Derived.Test.YtajlahjghapbkaaGreatPAnglesM15
import Derived.Test.YtajlahjghapbkaaGreatPAnglesM08
import Derived.Test.YtajlahjghapbkaaGreatPAnglesM01
import Derived.Test.YtajlahjghapbkaaGreatPAnglesM02
namespace Go.Proofs.YtajlahjghapbkaaGreat
section
open Go.RowKit

theorem FtI.neT {T TP : TypeId} {w : World} {A : Option Addr} {n c k g : Nat} {l : List Int} {bs : List Nat} (h : FtI T w A n c l bs) (hk : Wk k TP g w) (hne : T ≠ TP) : ∀ b ∈ bs, b ≠ g := by
  intro b hm e
  subst e
  obtain ⟨cs', h1, _⟩ := hk
  rcases h.2 with ⟨_, e2⟩ | ⟨g', cs, _, _, hh, _, e2⟩
  · rw [e2] at hm; cases hm
  · rw [e2] at hm
    simp at hm
    subst hm
    have h3 : w.heap[b]? = some (.cells cs' TP (0, 0)) := h1
    rw [hh] at h3
    injection h3 with h3
    injection h3 with _ h3
    exact hne h3
theorem FtR.neT {T TP : TypeId} {w : World} {s : Bool} {A : Option Addr} {n c : Nat} {B : Option Addr} {m d k g : Nat} {r : RatD} {bs : List Nat} (h : FtR T w s A n c B m d r bs) (hk : Wk k TP g w) (hne : T ≠ TP) : ∀ b ∈ bs, b ≠ g := by
  obtain ⟨_, b1, b2, h1, h2, rfl⟩ := h
  intro b hb
  rcases List.mem_append.1 hb with hb | hb
  · exact h1.neT hk hne b hb
  · exact h2.neT hk hne b hb
theorem OwP.setT {T TP : TypeId} {b0 g k : Nat} {w : World} {s : Bool} {A : Option Addr} {n c : Nat} {B : Option Addr} {m d : Nat} {t : Bool} {C : Option Addr} {i e : Nat} {D : Option Addr} {j f : Nat} {p : PtD} (h : OwP T b0 w s A n c B m d t C i e D j f p) (hk : Wk k TP g w) (hne : T ≠ TP) (i0 : Nat) (u : Value) : OwP T b0 (w.setCell ⟨g, i0, none⟩ u) s A n c B m d t C i e D j f p := by
  obtain ⟨c1, c2, h1, h2, hf⟩ := h
  exact ⟨c1, c2, h1.keep (by simp) (fun b hb => Below.heap_setCell w _ u b (h1.neT hk hne b hb)), h2.keep (by simp) (fun b hb => Below.heap_setCell w _ u b (h2.neT hk hne b hb)), hf.mono (Nat.le_refl _) (by simp)⟩
theorem OwP.put6 {T TP : TypeId} {b0 g k : Nat} {w : World} {s : Bool} {A : Option Addr} {n c : Nat} {B : Option Addr} {m d : Nat} {t : Bool} {C : Option Addr} {i e : Nat} {D : Option Addr} {j f : Nat} {p : PtD} (h : OwP T b0 w s A n c B m d t C i e D j f p) (hk : Wk k TP g w) (hne : T ≠ TP) (u0 u1 u2 u3 u4 u5 : Value) :
    OwP T b0 ((((((w.setCell ⟨g, 0, none⟩ u0).setCell ⟨g, 1, none⟩ u1).setCell ⟨g, 2, none⟩ u2).setCell ⟨g, 3, none⟩ u3).setCell ⟨g, 4, none⟩ u4).setCell ⟨g, 5, none⟩ u5) s A n c B m d t C i e D j f p :=
  (((((h.setT hk hne 0 u0).setT (hk.set 0 u0) hne 1 u1).setT ((hk.set 0 u0).set 1 u1) hne 2 u2).setT (((hk.set 0 u0).set 1 u1).set 2 u2) hne 3 u3).setT ((((hk.set 0 u0).set 1 u1).set 2 u2).set 3 u3) hne 4 u4).setT (((((hk.set 0 u0).set 1 u1).set 2 u2).set 3 u3).set 4 u4) hne 5 u5
/-- The gradient that belongs to a corner, where j and k are the two others, and D is twice the area. -/
noncomputable def gradR (D : RatD) (j k : PtD) : PtD := ⟨divR (subR j.y k.y) D, divR (subR k.x j.x) D⟩
noncomputable def grad3 (p0 p1 p2 : PtD) : Nat → PtD
  | 0 => gradR (dblA p0 p1 p2) p1 p2
  | 1 => gradR (dblA p0 p1 p2) p2 p0
  | _ + 2 => gradR (dblA p0 p1 p2) p0 p1
def GradOk (p0 p1 p2 : PtD) (k : Nat) : Prop := ∀ j, j < k → OkP (grad3 p0 p1 p2 j)
theorem GradOk.step {p0 p1 p2 : PtD} {k : Nat} (h : GradOk p0 p1 p2 k) (h0 : OkP (grad3 p0 p1 p2 k)) : GradOk p0 p1 p2 (k + 1) := by
  intro j hj
  rcases Nat.lt_succ_iff_lt_or_eq.1 hj with hj | rfl
  · exact h j hj
  · exact h0
end

section
open Go.RowKit

theorem Wk.ob {k g : Nat} {T : TypeId} {w W : World} {bs : List Nat} (h : Wk k T g w) (ho : Ob bs w W) (hg : g ∉ bs) : Wk k T g W := by
  obtain ⟨cs, h1, h2⟩ := h
  exact ⟨cs, h1.ob ho hg, h2⟩
theorem ofFrac_sm (x : Int) (D : Nat) (hD : 0 < D) (hx : x.natAbs ≤ 17) (hn : D ≤ 17) : ofFrac x D = toR (mkRat x D) ∧ Bd 17 (mkRat x D) := by
  have hb : Bd 17 (mkRat x D) := bd_mk hD hx hn
  rw [ofFrac_toR x hD, if_pos (hb.fit (by decide))]
  exact ⟨rfl, hb⟩
theorem OwPN.ob' {T : TypeId} {b0 g : Nat} {w W : World} {s : Bool} {A : Option Addr} {n c : Nat} {B : Option Addr} {m d : Nat} {t : Bool} {C : Option Addr} {i e : Nat} {D : Option Addr} {j f : Nat} {p : PtD} (h : OwPN AnyN T b0 w s A n c B m d t C i e D j f p) (ho : Ob [g] w W) (hg : g < b0) : OwPN AnyN T b0 W s A n c B m d t C i e D j f p := by
  obtain ⟨c1, c2, h1, h2, hf, hn⟩ := h
  refine ⟨c1, c2, h1.keep ho.size fun b hb => ho.block b (hf b (by simp [hb])).2 fun hm => ?_, h2.keep ho.size fun b hb => ho.block b (hf b (by simp [hb])).2 fun hm => ?_, fun b hb => ⟨(hf b hb).1, Nat.lt_of_lt_of_le (hf b hb).2 ho.size⟩, hn⟩
  · have := (hf b (by simp [hb])).1; simp at hm; omega
  · have := (hf b (by simp [hb])).1; simp at hm; omega
theorem OwPN.bl' {T : TypeId} {b0 : Nat} {w W : World} {s : Bool} {A : Option Addr} {n c : Nat} {B : Option Addr} {m d : Nat} {t : Bool} {C : Option Addr} {i e : Nat} {D : Option Addr} {j f : Nat} {p : PtD} (h : OwPN AnyN T b0 w s A n c B m d t C i e D j f p) (hb : Bl w W) : OwPN AnyN T b0 W s A n c B m d t C i e D j f p := by
  obtain ⟨c1, c2, h1, h2, hf, hn⟩ := h
  exact ⟨c1, c2, h1.bl hb, h2.bl hb, fun b hm => ⟨(hf b hm).1, Nat.lt_of_lt_of_le (hf b hm).2 hb.size⟩, hn⟩
theorem OwPN.rdx {T : TypeId} {b0 : Nat} {w : World} {s : Bool} {A : Option Addr} {n c : Nat} {B : Option Addr} {m d : Nat} {t : Bool} {C : Option Addr} {i e : Nat} {D : Option Addr} {j f : Nat} {p : PtD} (h : OwPN AnyN T b0 w s A n c B m d t C i e D j f p) : RdR w s A n c B m d p.x ∧ RdR w t C i e D j f p.y := by
  obtain ⟨c1, c2, h1, h2, hf, hn⟩ := h
  exact ⟨h1.rd, h2.rd⟩
theorem OwPN.low' {T : TypeId} {b0 b1 : Nat} {w : World} {s : Bool} {A : Option Addr} {n c : Nat} {B : Option Addr} {m d : Nat} {t : Bool} {C : Option Addr} {i e : Nat} {D : Option Addr} {j f : Nat} {p : PtD} (h : OwPN AnyN T b1 w s A n c B m d t C i e D j f p) (hb : b0 ≤ b1) : OwPN AnyN T b0 w s A n c B m d t C i e D j f p := by
  obtain ⟨c1, c2, h1, h2, hf, hn⟩ := h
  exact ⟨c1, c2, h1, h2, fun b hm => ⟨Nat.le_trans hb (hf b hm).1, (hf b hm).2⟩, hn⟩
theorem OwPN.setT {T TP : TypeId} {b0 g k : Nat} {w : World} {s : Bool} {A : Option Addr} {n c : Nat} {B : Option Addr} {m d : Nat} {t : Bool} {C : Option Addr} {i e : Nat} {D : Option Addr} {j f : Nat} {p : PtD} (h : OwPN AnyN T b0 w s A n c B m d t C i e D j f p) (hk : Wk k TP g w) (hne : T ≠ TP) (i0 : Nat) (u : Value) : OwPN AnyN T b0 (w.setCell ⟨g, i0, none⟩ u) s A n c B m d t C i e D j f p := by
  obtain ⟨c1, c2, h1, h2, hf, hn⟩ := h
  exact ⟨c1, c2, h1.keep (by simp) (fun b hb => Below.heap_setCell w _ u b (h1.neT hk hne b hb)), h2.keep (by simp) (fun b hb => Below.heap_setCell w _ u b (h2.neT hk hne b hb)), fun b hb => by simpa using hf b hb, hn⟩
theorem Cur.set {g n c : Nat} {w : World} {A : Option Addr} {l : List Int} (h : Cur g w A n c l) {b : Nat} (hq : b ≠ g) (hq2 : ∀ ad, A = Option.some ad → 0 < n → ad.block ≠ b) (o : Nat) (u : Value) : Cur g (w.setCell ⟨b, o, none⟩ u) A n c l := by
  obtain ⟨i, k, h1, h2, h3, h4, h5⟩ := h
  exact ⟨i, k, h1.far (Ne.symm hq) u, h2, h3, h4.ob (g := b) hq2 ((Ob.refl [b] w).set (by simp) _ _), h5⟩
theorem Ob.far {bs : List Nat} {w W : World} (h : Ob bs w W) {b : Nat} (hb : w.heap.size ≤ b) (o : Nat) (u : Value) : Ob bs w (W.setCell ⟨b, o, none⟩ u) := by
  have k := (h.mono (cs := b :: bs) (fun x hx => List.mem_cons_of_mem _ hx)).set (g := b) (by simp) o u
  exact ⟨k.os, k.tape, k.output, k.size, fun x hx hn => k.block x hx fun hm => by rcases List.mem_cons.1 hm with rfl | hm; omega; exact hn hm⟩
end

section
open Go.RowKit

def toP (x y : Rat) : PtD := ⟨toR x, toR y⟩
theorem ifP_toP {x y : Rat} (hx : Fit x) (hy : Fit y) : ifP (toP x y) = toP x y := by
  have e1 := (okR_den (.inr hx.ok)).2 hx.ok
  have e2 := (okR_den (.inr hy.ok)).2 hy.ok
  unfold ifP
  rw [if_neg]
  rintro (h | h)
  · exact e1 h
  · exact e2 h
theorem subP_toP {x y u v : Rat} (hx : Bd 17 x) (hy : Bd 17 y) (hu : Bd 17 u) (hv : Bd 17 v) : subP (toP x y) (toP u v) = toP (x - u) (y - v) ∧ Bd 578 (x - u) ∧ Bd 578 (y - v) := by
  have h1 : Bd 578 (x - u) := (hx.sub hu).mono (by decide)
  have h2 : Bd 578 (y - v) := (hy.sub hv).mono (by decide)
  refine ⟨?_, h1, h2⟩
  unfold subP
  rw [show (toP x y).x = toR x from rfl, show (toP u v).x = toR u from rfl, show (toP x y).y = toR y from rfl, show (toP u v).y = toR v from rfl,
    subR_toR (hx.fit (by decide)) (hu.fit (by decide)) (h1.fit (by decide)), subR_toR (hy.fit (by decide)) (hv.fit (by decide)) (h2.fit (by decide))]
  exact ifP_toP (h1.fit (by decide)) (h2.fit (by decide))
/-- Twice the area. -/
def detQ (x0 y0 x1 y1 x2 y2 : Rat) : Rat := (x1 - x0) * (y2 - y0) - (y1 - y0) * (x2 - x0)
theorem dblA_toP {x0 y0 x1 y1 x2 y2 : Rat} (a0 : Bd 17 x0) (b0 : Bd 17 y0) (a1 : Bd 17 x1) (b1 : Bd 17 y1) (a2 : Bd 17 x2) (b2 : Bd 17 y2) :
    dblA (toP x0 y0) (toP x1 y1) (toP x2 y2) = toR (detQ x0 y0 x1 y1 x2 y2) ∧ Bd 223224238112 (detQ x0 y0 x1 y1 x2 y2) := by
  obtain ⟨e1, h1, h2⟩ := subP_toP a1 b1 a0 b0
  obtain ⟨e2, h3, h4⟩ := subP_toP a2 b2 a0 b0
  have m1 : Bd 334084 ((x1 - x0) * (y2 - y0)) := (h1.mul h4).mono (by decide)
  have m2 : Bd 334084 ((y1 - y0) * (x2 - x0)) := (h2.mul h3).mono (by decide)
  have m3 : Bd 223224238112 (detQ x0 y0 x1 y1 x2 y2) := (m1.sub m2).mono (by decide)
  refine ⟨?_, m3⟩
  unfold dblA
  rw [e1, e2]
  unfold crossP
  rw [show (toP (x1 - x0) (y1 - y0)).x = toR (x1 - x0) from rfl, show (toP (x1 - x0) (y1 - y0)).y = toR (y1 - y0) from rfl, show (toP (x2 - x0) (y2 - y0)).x = toR (x2 - x0) from rfl, show (toP (x2 - x0) (y2 - y0)).y = toR (y2 - y0) from rfl,
    mulR_toR (h1.fit (by decide)) (h4.fit (by decide)) (m1.fit (by decide)), mulR_toR (h2.fit (by decide)) (h3.fit (by decide)) (m2.fit (by decide)), subR_toR (m1.fit (by decide)) (m2.fit (by decide)) (m3.fit (by decide))]
  rfl
end

section
open Go.RowKit

theorem Ob.bl {bs : List Nat} {w W W2 : World} (h : Ob bs w W) (hb : Bl W W2) : Ob bs w W2 := h.trans (Ob.of_bl hb _)
end

section
open Go.RowKit

noncomputable def addP (p q : PtD) : PtD := ifP ⟨addR p.x q.x, addR p.y q.y⟩
set_option maxRecDepth 100000 in
set_option maxHeartbeats 8000000 in
theorem AddPoints_any (w : World) {s : Bool} {A : Option Addr} {n c : Nat} {B : Option Addr} {m d : Nat} {t : Bool} {C : Option Addr} {i e : Nat} {D : Option Addr} {j f : Nat} {p : PtD} {s' : Bool} {A' : Option Addr} {n' c' : Nat} {B' : Option Addr} {m' d' : Nat} {t' : Bool} {C' : Option Addr} {i' e' : Nat} {D' : Option Addr} {j' f' : Nat} {p' : PtD} (h : RdR w s A n c B m d p.x) (k : RdR w t C i e D j f p.y) (h' : RdR w s' A' n' c' B' m' d' p'.x) (k' : RdR w t' C' i' e' D' j' f' p'.y) :
    Calls Tryz.prog 18 #[.agg #[.bool s, .slice A n c, .slice B m d, .bool t, .slice C i e, .slice D j f], .agg #[.bool s', .slice A' n' c', .slice B' m' d', .bool t', .slice C' i' e', .slice D' j' f']] w fun en w' => ∃ s1 A1 n1 c1 B1 m1 d1 t1 C1 i1 e1 D1 j1 f1, en = .returned (.agg #[.bool s1, .slice A1 n1 c1, .slice B1 m1 d1, .bool t1, .slice C1 i1 e1, .slice D1 j1 f1]) ∧ OwP 3 w.heap.size w' s1 A1 n1 c1 B1 m1 d1 t1 C1 i1 e1 D1 j1 f1 (addP p p') ∧ Bl w w' := by
  go_enter Tryz.func18, Tryz.ntmps18
  go_wp2_with fail
  refine wp_gen (fun W => Bl w W ∧ Blk W (w.heap.size) 31 #[.bool s, .slice A n c, .slice B m d, .bool t, .slice C i e, .slice D j f] ∧ Blk W (w.heap.size + 1) 31 #[.bool s', .slice A' n' c', .slice B' m' d', .bool t', .slice C' i' e', .slice D' j' f'] ∧ Wk 6 31 (w.heap.size + 1 + 1) W) ⟨slc, bts, bts, bts⟩ ?_
  rintro W ⟨hbW, hx, hx', hr⟩
  go_region_held3 (fun w' => (w'.cell? ⟨w.heap.size, 0, none⟩ = some (.bool s) ∧ w'.cell? ⟨w.heap.size, 1, none⟩ = some (.slice A n c) ∧ w'.cell? ⟨w.heap.size, 2, none⟩ = some (.slice B m d) ∧ w'.cell? ⟨w.heap.size, 3, none⟩ = some (.bool t) ∧ w'.cell? ⟨w.heap.size, 4, none⟩ = some (.slice C i e) ∧ w'.cell? ⟨w.heap.size, 5, none⟩ = some (.slice D j f)) ∧ (w'.cell? ⟨w.heap.size + 1, 0, none⟩ = some (.bool s') ∧ w'.cell? ⟨w.heap.size + 1, 1, none⟩ = some (.slice A' n' c') ∧ w'.cell? ⟨w.heap.size + 1, 2, none⟩ = some (.slice B' m' d') ∧ w'.cell? ⟨w.heap.size + 1, 3, none⟩ = some (.bool t') ∧ w'.cell? ⟨w.heap.size + 1, 4, none⟩ = some (.slice C' i' e') ∧ w'.cell? ⟨w.heap.size + 1, 5, none⟩ = some (.slice D' j' f')) ∧ (w'.cell? ⟨w.heap.size + 1 + 1, 0, none⟩ = some (cellD w' (w.heap.size + 1 + 1) 0) ∧ w'.cell? ⟨w.heap.size + 1 + 1, 1, none⟩ = some (cellD w' (w.heap.size + 1 + 1) 1) ∧ w'.cell? ⟨w.heap.size + 1 + 1, 2, none⟩ = some (cellD w' (w.heap.size + 1 + 1) 2) ∧ w'.cell? ⟨w.heap.size + 1 + 1, 3, none⟩ = some (cellD w' (w.heap.size + 1 + 1) 3) ∧ w'.cell? ⟨w.heap.size + 1 + 1, 4, none⟩ = some (cellD w' (w.heap.size + 1 + 1) 4) ∧ w'.cell? ⟨w.heap.size + 1 + 1, 5, none⟩ = some (cellD w' (w.heap.size + 1 + 1) 5)) ∧ w'.frozen? ⟨w.heap.size + 1 + 1, 0, none⟩ = false ∧ w'.frozen? ⟨w.heap.size + 1 + 1, 1, none⟩ = false ∧ w'.frozen? ⟨w.heap.size + 1 + 1, 2, none⟩ = false ∧ w'.frozen? ⟨w.heap.size + 1 + 1, 3, none⟩ = false ∧ w'.frozen? ⟨w.heap.size + 1 + 1, 4, none⟩ = false ∧ w'.frozen? ⟨w.heap.size + 1 + 1, 5, none⟩ = false) (first | exact ⟨bx6 (T := 31) bts, bx6 (T := 31) bts, Wk.out6 (T := 31) bts⟩) (first | (go_at_call 22; with_reducible refine (RatAdd_any _ (h.bl slc) (h'.bl slc)).mono ?_; rintro en w2 ⟨s2, A2, n2, c2, B2, m2, d2, rfl, hR2, hb2⟩) | (go_at_call 22; with_reducible refine (RatAdd_any _ (k.bl slc) (k'.bl slc)).mono ?_; rintro en w3 ⟨s3, A3, n3, c3, B3, m3, d3, rfl, hR3, hb3⟩) | (go_at_call 77; refine (ifPoint_any (p := ⟨addR p.x p'.x, addR p.y p'.y⟩) _ (OwP.two hR2 hR3 hb3 (Bl.size hb2))).mono ?_; rintro en w4 ⟨s1, A1, n1, c1, B1, m1, d1, t1, C1, i1, e1, D1, j1, f1, rfl, hX, hb4⟩))
  have hz : w.heap.size + 1 + 1 + 1 ≤ W.heap.size := hr.lt
  have hr := (show Wk 6 31 (w.heap.size + 1 + 1) w4 from bts)
  have hbW : Bl w w4 := slc
  have hX := hX.low (show w.heap.size + 1 + 1 + 1 ≤ W.drew.heap.size from hz)
  obtain ⟨v0, x0⟩ := hr.val_ (i := 0) (by omega)
  obtain ⟨v1, x1⟩ := hr.val_ (i := 1) (by omega)
  obtain ⟨v2, x2⟩ := hr.val_ (i := 2) (by omega)
  obtain ⟨v3, x3⟩ := hr.val_ (i := 3) (by omega)
  obtain ⟨v4, x4⟩ := hr.val_ (i := 4) (by omega)
  obtain ⟨v5, x5⟩ := hr.val_ (i := 5) (by omega)
  have hg := hr.lt
  obtain ⟨cs4, hB4, hc4⟩ := hr
  have hf0 := hB4.frozen 0
  have hf1 := hB4.frozen 1
  have hf2 := hB4.frozen 2
  have hf3 := hB4.frozen 3
  have hf4 := hB4.frozen 4
  have hf5 := hB4.frozen 5
  go_wp2_with fail
  exact bodyPost_ret (v := .agg #[.bool s1, .slice A1 n1 c1, .slice B1 m1 d1, .bool t1, .slice C1 i1 e1, .slice D1 j1 f1]) (by simp [results, Tryz.results18, go_sem, x0, x1, x2, x3, x4, x5]) rfl ⟨_, _, _, _, _, _, _, _, _, _, _, _, _, _, rfl, ((((((hX.far (by simp) _).far (by simp) _).far (by simp) _).far (by simp) _).far (by simp) _).far (by simp) _).low (by omega), slc⟩


theorem cmpR_val {r s : RatD} (h : OkR r ∧ OkR s) : cmpR r s = cmpZ (rn r * (rd s : Int)) (rn s * (rd r : Int)) := if_pos h
set_option maxRecDepth 100000 in
set_option maxHeartbeats 4000000 in
theorem RatCmp_yes (w : World) {s : Bool} {A : Option Addr} {n c : Nat} {B : Option Addr} {m d : Nat} {r : RatD} {s' : Bool} {A' : Option Addr} {n' c' : Nat} {B' : Option Addr} {m' d' : Nat} {r' : RatD} (h : RdR w s A n c B m d r) (k : RdR w s' A' n' c' B' m' d' r') (ho : OkR r ∧ OkR r') :
    Calls Tryz.prog 54 #[.agg #[.bool s, .slice A n c, .slice B m d], .agg #[.bool s', .slice A' n' c', .slice B' m' d']] w fun e w' => e = .returned (.int .i64 (cmpR r r')) ∧ Bl w w' := by
  have hall := Lib.hid (allOk_two.2 ho)
  have hI := IsR.out h ho.1
  have hI' := IsR.out k ho.2
  have hL := OkR.lens h ho.1
  have hL' := OkR.lens k ho.2
  have hval := Lib.hid (cmpR_val ho)
  clear ho
  generalize hcz : cmpZ (rn r * (rd r' : Int)) (rn r' * (rd r : Int)) = cz at *
  have hcz := Lib.hid hcz; rename_i h_; clear h_
  go_enter Tryz.func54, Tryz.ntmps54
  go_wp2_with fail
  refine calls_gen (fun W => Bl w W ∧ Blk W (w.heap.size) 29 #[.bool s, .slice A n c, .slice B m d] ∧ Blk W (w.heap.size + 1) 29 #[.bool s', .slice A' n' c', .slice B' m' d'] ∧ Blk W (w.heap.size + 1 + 1) 29 #[.bool s, .slice A n c, .slice B m d, .bool s', .slice A' n' c', .slice B' m' d']) ⟨slc, bts, bts, Blk.new2 _ _ _ _ _⟩ ?_
  rintro W ⟨hbW, hx, hx', hy⟩
  refine (areRats_yes _ (RdRS.two hy (h.bl hbW) (k.bl hbW)) hall.out).mono ?_
  rintro e w1 ⟨rfl, hb1⟩
  clear hy
  have hx := hx.bl hb1
  have hx' := hx'.bl hb1
  have hbW := hbW.next hb1
  clear hb1
  obtain ⟨i0, i1, i2⟩ := bx3 hx
  obtain ⟨j0, j1, j2⟩ := bx3 hx'
  go_wp2_with fail
  refine (rcompare_any _ (RdR.bl hI hbW) (RdR.bl hI' hbW) (by omega) (by omega) (by omega) (by omega)).mono ?_
  rw [hcz.out]
  rintro e w2 ⟨rfl, hb2⟩
  go_wp2_with fail
  go_ret
  exact ⟨by rw [hval.out]; rfl, hbW.next hb2⟩
end

section
open Go.RowKit

def NoTo (a b : PtD) (l : List PtD) (k : Nat) : Prop := ∀ j, j < k → ¬ 0 < sgnR (dblA a b (pix l j))
theorem NoTo.zero (a b : PtD) (l : List PtD) : NoTo a b l 0 := fun j hj => by omega
theorem NoTo.step {a b : PtD} {l : List PtD} {k : Nat} (h : NoTo a b l k) (h0 : ¬ 0 < sgnR (dblA a b (pix l k))) : NoTo a b l (k + 1) := by
  intro j hj
  rcases Nat.lt_succ_iff_lt_or_eq.1 hj with hj | rfl
  · exact h j hj
  · exact h0
end

section
open Go.RowKit
end

section
open Go.RowKit
end

section
open Go.RowKit
end

section
open Go.RowKit
end

section
open Go.RowKit

theorem RtIn.lt {T : TypeId} {w : World} {cs : Array Value} {i : Nat} {r : RatD} {bs : List Nat} (h : RtIn T w cs i r bs) : ∀ b ∈ bs, b < w.heap.size := by
  obtain ⟨s, A, n, c, B, m, d, _, h⟩ := h
  exact h.lt

/-- A list of fractions in memory of one's own, its limbs behind its cells. -/
def OwRX (TI TR : TypeId) (b0 : Nat) (w : World) (A : Option Addr) (n c : Nat) (l : List RatD) : Prop :=
  ∃ g cs fs, A = some ⟨g, 0, none⟩ ∧ b0 ≤ g ∧ l.length = n ∧ n ≤ c ∧ n ≤ 1048576 ∧ Blk w g TR cs ∧ cs.size = n * 3 ∧ RtsIn TI w cs l n fs ∧ Fp (g + 1) w.heap.size fs.flatten
theorem OwRX.rd {TI TR : TypeId} {b0 : Nat} {w : World} {A : Option Addr} {n c : Nat} {l : List RatD} (h : OwRX TI TR b0 w A n c l) : RdRS w A n c l := by
  obtain ⟨g, cs, fs, rfl, h1, h2, h3, h4, h5, h6, h7, h8⟩ := h
  exact h7.rd h5 h2 (by omega) h3
theorem OwRX.bl {TI TR : TypeId} {b0 : Nat} {w W : World} {A : Option Addr} {n c : Nat} {l : List RatD} (h : OwRX TI TR b0 w A n c l) (hb : Bl w W) : OwRX TI TR b0 W A n c l := by
  obtain ⟨g, cs, fs, rfl, h1, h2, h3, h4, h5, h6, h7, h8⟩ := h
  exact ⟨g, cs, fs, rfl, h1, h2, h3, h4, h5.bl hb, h6, h7.bl hb (fun b hm => (h8.2 b hm).2), h8.mono (Nat.le_refl _) hb.size⟩
theorem OwRX.ob {TI TR : TypeId} {b0 : Nat} {w W : World} {A : Option Addr} {n c : Nat} {l : List RatD} {bs : List Nat} (h : OwRX TI TR b0 w A n c l) (ho : Ob bs w W) (hd : ∀ b ∈ bs, b < b0) : OwRX TI TR b0 W A n c l := by
  obtain ⟨g, cs, fs, rfl, h1, h2, h3, h4, h5, h6, h7, h8⟩ := h
  refine ⟨g, cs, fs, rfl, h1, h2, h3, h4, h5.ob ho (fun hm => by have := hd g hm; omega), h6, ⟨h7.1, fun i hi => (h7.2 i hi).keep (fun _ _ => rfl) ho.size fun b hb => ?_⟩, h8.mono (Nat.le_refl _) ho.size⟩
  have hm := h8.2 b (mem_flatten_pix hb)
  exact ho.block b hm.2 fun hx => by have := hd b hx; omega
end

section
open Go.RowKit

/-- A list of fractions with its footprint. -/
def FtRS (TI TR : TypeId) (w : World) (A : Option Addr) (n c : Nat) (l : List RatD) (bs : List Nat) : Prop :=
  l.length = n ∧ n ≤ c ∧ n ≤ 1048576 ∧ ((n = 0 ∧ bs = []) ∨ ∃ g cs fs, A = some ⟨g, 0, none⟩ ∧ Blk w g TR cs ∧ n * 3 ≤ cs.size ∧ RtsIn TI w cs l n fs ∧ bs = g :: fs.flatten)
/-- One cell that holds a list of fractions. -/
def RsAt (w : World) (p : Addr) (l : List RatD) : Prop := ∃ A n c, w.cell? p = some (.slice A n c) ∧ RdRS w A n c l
theorem RsAt.bl {w W : World} {p : Addr} {l : List RatD} (h : RsAt w p l) (hp : p.block < w.heap.size) (hb : Bl w W) : RsAt W p l := by
  obtain ⟨A, n, c, h0, h1⟩ := h
  exact ⟨A, n, c, by rw [hb.cellOf hp]; exact h0, h1.bl hb⟩
abbrev RdRSS := RdS 1 RsAt
theorem RdRSS.bl {w W : World} {A : Option Addr} {n c : Nat} {l : List (List RatD)} (h : RdRSS w A n c l) (hb : Bl w W) : RdRSS W A n c l := RdS.bl (fun h hp hb => h.bl hp hb) h hb
/-- The cell i of a block holds a list of fractions. -/
def RsIn (TI TR : TypeId) (w : World) (cs : Array Value) (i : Nat) (l : List RatD) (bs : List Nat) : Prop :=
  ∃ A n c, cs[i]? = some (.slice A n c) ∧ FtRS TI TR w A n c l bs
theorem flat_pix {fs : List (List Nat)} {b : Nat} (h : b ∈ fs.flatten) : ∃ k, k < fs.length ∧ b ∈ pix fs k := by
  obtain ⟨l, hl, hb⟩ := List.mem_flatten.1 h
  obtain ⟨k, hk, rfl⟩ := List.getElem_of_mem hl
  exact ⟨k, hk, by simpa [pix, hk] using hb⟩
section
variable {TI TR TS : TypeId} {w W : World} {A : Option Addr} {n c i lo hi lo' hi' : Nat} {cs cs' : Array Value} {l : List RatD} {L : List (List RatD)} {bs xs : List Nat}
theorem FtRS.rd (h : FtRS TI TR w A n c l bs) : RdRS w A n c l := by
  obtain ⟨h1, h2, h3, h4⟩ := h
  rcases h4 with ⟨h4, _⟩ | ⟨g, cs, fs, rfl, hB, hc, hP, _⟩
  · subst h4
    obtain rfl := List.length_eq_zero_iff.1 h1
    exact RdS.nil _ _ _
  · exact hP.rd hB h1 (by omega) h2
theorem FtRS.lt (h : FtRS TI TR w A n c l bs) : ∀ b ∈ bs, b < w.heap.size := by
  obtain ⟨h1, h2, h3, h4⟩ := h
  rcases h4 with ⟨_, rfl⟩ | ⟨g, cs, fs, rfl, hB, hc, hP, rfl⟩
  · intro b hb; cases hb
  · intro b hb
    rcases List.mem_cons.1 hb with rfl | hb
    · exact hB.lt
    · obtain ⟨k, hk, hm⟩ := flat_pix hb
      exact (hP.2 k (by rw [← hP.1]; exact hk)).lt b hm
theorem FtRS.keep (h : FtRS TI TR w A n c l bs) (hs : w.heap.size ≤ W.heap.size) (hk : ∀ b ∈ bs, W.heap[b]? = w.heap[b]?) : FtRS TI TR W A n c l bs := by
  obtain ⟨h1, h2, h3, h4⟩ := h
  refine ⟨h1, h2, h3, ?_⟩
  rcases h4 with h4 | ⟨g, cs, fs, rfl, hB, hc, hP, rfl⟩
  · exact .inl h4
  · exact .inr ⟨g, cs, fs, rfl, (hk g (by simp)).trans hB, hc, ⟨hP.1, fun i hi => (hP.2 i hi).keep (fun _ _ => rfl) hs fun b hb => hk b (List.mem_cons_of_mem _ (mem_flatten_pix hb))⟩, rfl⟩
theorem RsIn.lt (h : RsIn TI TR w cs i l bs) : ∀ b ∈ bs, b < w.heap.size := by
  obtain ⟨A, n, c, _, h⟩ := h
  exact h.lt
theorem RsIn.keep (h : RsIn TI TR w cs i l bs) (hc : cs'[i]? = cs[i]?) (hs : w.heap.size ≤ W.heap.size) (hk : ∀ b ∈ bs, W.heap[b]? = w.heap[b]?) : RsIn TI TR W cs' i l bs := by
  obtain ⟨A, n, c, h0, h⟩ := h
  exact ⟨A, n, c, hc.trans h0, h.keep hs hk⟩
/-- A list of lists of fractions in the blocks from lo to hi. -/
def OwSZ (TI TR TS : TypeId) (lo hi : Nat) (w : World) (A : Option Addr) (n c : Nat) (L : List (List RatD)) : Prop :=
  L.length = n ∧ n ≤ c ∧ n ≤ 1048576 ∧ (n = 0 ∨ ∃ g cs fs, A = some ⟨g, 0, none⟩ ∧ Blk w g TS cs ∧ n ≤ cs.size ∧ fs.length = n ∧ (∀ i, i < n → RsIn TI TR w cs i (pix L i) (pix fs i)) ∧ Fp lo hi (g :: fs.flatten))
theorem rss_rd {g : Nat} {fs : List (List Nat)} (hB : Blk w g TS cs) (hl : L.length = n) (hn : n ≤ c) (h3 : n ≤ 1048576) (hP : ∀ i, i < n → RsIn TI TR w cs i (pix L i) (pix fs i)) : RdRSS w (some ⟨g, 0, none⟩) n c L := by
  refine ⟨hl, hn, by omega, fun k hk => ⟨_, rfl, hB.lt, ?_⟩⟩
  obtain ⟨A, n', c', h0, h1⟩ := hP k hk
  refine ⟨A, n', c', ?_, h1.rd⟩
  rw [Nat.mul_one, Addr.add_lit, Nat.zero_add]
  exact (hB.cell k).trans h0
theorem OwSZ.rd (h : OwSZ TI TR TS lo hi w A n c L) : RdRSS w A n c L := by
  obtain ⟨h1, h2, h3, h4⟩ := h
  rcases h4 with h4 | ⟨g, cs, fs, rfl, hB, hc, hf, hP, hF⟩
  · subst h4
    obtain rfl := List.length_eq_zero_iff.1 h1
    exact RdS.nil _ _ _
  · exact rss_rd hB h1 h2 h3 hP
theorem OwSZ.keep (h : OwSZ TI TR TS lo hi w A n c L) (hs : w.heap.size ≤ W.heap.size) (hk : ∀ b, lo ≤ b → b < hi → b < w.heap.size → W.heap[b]? = w.heap[b]?) : OwSZ TI TR TS lo hi W A n c L := by
  obtain ⟨h1, h2, h3, h4⟩ := h
  refine ⟨h1, h2, h3, ?_⟩
  rcases h4 with h4 | ⟨g, cs, fs, rfl, hB, hc, hf, hP, hF⟩
  · exact .inl h4
  · have hg := hF.2 g (by simp)
    refine .inr ⟨g, cs, fs, rfl, (hk g hg.1 hg.2 hB.lt).trans hB, hc, hf, fun i hi => (hP i hi).keep rfl hs fun b hb => ?_, hF⟩
    have hm := hF.2 b (List.mem_cons_of_mem _ (mem_flatten_pix hb))
    exact hk b hm.1 hm.2 ((hP i hi).lt b hb)
theorem OwSZ.bl (h : OwSZ TI TR TS lo hi w A n c L) (hb : Bl w W) : OwSZ TI TR TS lo hi W A n c L := h.keep hb.size fun b _ _ hl => Below.block hb b hl
theorem OwSZ.ob (h : OwSZ TI TR TS lo hi w A n c L) (ho : Ob bs w W) (hd : ∀ b ∈ bs, b < lo ∨ hi ≤ b) : OwSZ TI TR TS lo hi W A n c L :=
  h.keep ho.size fun b h1 h2 hl => ho.block b hl fun hm => by have := hd b hm; omega
theorem OwSZ.low (h : OwSZ TI TR TS lo hi w A n c L) (h1 : lo' ≤ lo) (h2 : hi ≤ hi') : OwSZ TI TR TS lo' hi' w A n c L := by
  obtain ⟨a1, a2, a3, a4⟩ := h
  refine ⟨a1, a2, a3, ?_⟩
  rcases a4 with h4 | ⟨g, cs, fs, rfl, hB, hc, hf, hP, hF⟩
  · exact .inl h4
  · exact .inr ⟨g, cs, fs, rfl, hB, hc, hf, hP, hF.mono h1 h2⟩
end
end

section
open Go.RowKit
abbrev RowS (N : List Nat → Prop) (lo hi : Nat) (w : World) (v : Value) (l : List (List RatD)) : Prop := RowG N 33 1 (RsIn 3 29) lo hi w v l
section
variable {N : List Nat → Prop} {lo hi : Nat} {w W : World} {v : Value} {l : List RatD} {L : List (List RatD)}
theorem RowS.own (h : RowS List.Nodup lo hi w v L) (hl : L.length ≤ 1048576) : ∃ A c, v = .slice A L.length c ∧ OwSZ 3 29 33 lo hi w A L.length c L := by
  obtain ⟨cells, fs, r1, r2, r3, r4, r5, r6, r7⟩ := h
  rcases r1.2 with ⟨rfl, h0⟩ | ⟨g, cap, cur, rfl, hg, hh, hn, hcap, hcs, ht⟩
  · exact ⟨none, 0, by rw [h0], rfl, by rw [h0]; exact Nat.le_refl _, hl, .inl h0⟩
  · have hlen : L.length ≤ cur.size := by rw [hcs]; omega
    have hgm : g ∉ fs.flatten := fun hm => (r5 g hm).2.2 rfl
    refine ⟨_, cap, rfl, rfl, hn, hl, .inr ⟨g, cur, fs, rfl, hh, hlen, r3, fun i hi => ?_, List.nodup_cons.2 ⟨hgm, r6⟩, fun b hb => ?_⟩⟩
    · have h1 := r4 i hi
      rw [Nat.mul_one] at h1
      refine h1.keep ?_ (Nat.le_refl _) fun _ _ => rfl
      rw [← ht]
      simp [hi]
    · rcases List.mem_cons.1 hb with rfl | hb
      · exact ⟨hg, r2 _ rfl⟩
      · exact ⟨(r5 b hb).1, (r5 b hb).2.1⟩
end
end

section
open Go.RowKit

def SqTo (L : List (List RatD)) (k : Nat) : Prop := ∀ i, i < k → AllOk (pix L i)
theorem SqTo.step {L : List (List RatD)} {k : Nat} (h : SqTo L k) (h0 : AllOk (pix L k)) : SqTo L (k + 1) := by
  intro j hj
  rcases Nat.lt_succ_iff_lt_or_eq.1 hj with hj | rfl
  · exact h j hj
  · exact h0
end

end Go.Proofs.YtajlahjghapbkaaGreat
