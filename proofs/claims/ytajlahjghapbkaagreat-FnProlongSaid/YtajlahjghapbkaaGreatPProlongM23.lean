/- Lemmas. -/
import Derived.Test.YtajlahjghapbkaaGreatRows
import Derived.Test.YtajlahjghapbkaaGreatPProlongM22
import Derived.Test.YtajlahjghapbkaaGreatPProlongM19
import Derived.Test.YtajlahjghapbkaaGreatPProlongM03
import Derived.Test.YtajlahjghapbkaaGreatPProlongM15
import Derived.Test.YtajlahjghapbkaaGreatPProlongM14
import Derived.Test.YtajlahjghapbkaaGreatPProlongM18
namespace Go.Proofs.YtajlahjghapbkaaGreat
section
open Go.RowKit

theorem Wk.ob {k g : Nat} {T : TypeId} {w W : World} {bs : List Nat} (h : Wk k T g w) (ho : Ob bs w W) (hg : g ∉ bs) : Wk k T g W := by
  obtain ⟨cs, h1, h2⟩ := h
  exact ⟨cs, h1.ob ho hg, h2⟩
theorem ofFrac_sm (x : Int) (D : Nat) (hD : 0 < D) (hx : x.natAbs ≤ 17) (hn : D ≤ 17) : ofFrac x D = toR (mkRat x D) ∧ Bd 17 (mkRat x D) := by
  have hb : Bd 17 (mkRat x D) := bd_mk hD hx hn
  rw [ofFrac_toR x hD, if_pos (hb.fit (by decide))]
  exact ⟨rfl, hb⟩
theorem OwPN.ob' {T : TypeId} {b0 g : Nat} {w W : World} {s : Bool} {A : Option Addr} {n c : Nat} {B : Option Addr} {m d : Nat} {t : Bool} {C : Option Addr} {i e : Nat} {D : Option Addr} {j f : Nat} {p : PtD} (h : OwPN AnyN T b0 w s A n c B m d t C i e D j f p) (ho : Ob [g] w W) (hg : g < b0) : OwPN AnyN T b0 W s A n c B m d t C i e D j f p := by
  obtain ⟨c1, c2, h1, h2, hf, hn⟩ := h
  refine ⟨c1, c2, h1.keep ho.size fun b hb => ho.block b (hf b (by simp [hb])).2 fun hm => ?_, h2.keep ho.size fun b hb => ho.block b (hf b (by simp [hb])).2 fun hm => ?_, fun b hb => ⟨(hf b hb).1, Nat.lt_of_lt_of_le (hf b hb).2 ho.size⟩, hn⟩
  · have := (hf b (by simp [hb])).1; simp at hm; omega
  · have := (hf b (by simp [hb])).1; simp at hm; omega
theorem OwPN.bl' {T : TypeId} {b0 : Nat} {w W : World} {s : Bool} {A : Option Addr} {n c : Nat} {B : Option Addr} {m d : Nat} {t : Bool} {C : Option Addr} {i e : Nat} {D : Option Addr} {j f : Nat} {p : PtD} (h : OwPN AnyN T b0 w s A n c B m d t C i e D j f p) (hb : Bl w W) : OwPN AnyN T b0 W s A n c B m d t C i e D j f p := by
  obtain ⟨c1, c2, h1, h2, hf, hn⟩ := h
  exact ⟨c1, c2, h1.bl hb, h2.bl hb, fun b hm => ⟨(hf b hm).1, Nat.lt_of_lt_of_le (hf b hm).2 hb.size⟩, hn⟩
theorem OwPN.rdx {T : TypeId} {b0 : Nat} {w : World} {s : Bool} {A : Option Addr} {n c : Nat} {B : Option Addr} {m d : Nat} {t : Bool} {C : Option Addr} {i e : Nat} {D : Option Addr} {j f : Nat} {p : PtD} (h : OwPN AnyN T b0 w s A n c B m d t C i e D j f p) : RdR w s A n c B m d p.x ∧ RdR w t C i e D j f p.y := by
  obtain ⟨c1, c2, h1, h2, hf, hn⟩ := h
  exact ⟨h1.rd, h2.rd⟩
theorem OwPN.low' {T : TypeId} {b0 b1 : Nat} {w : World} {s : Bool} {A : Option Addr} {n c : Nat} {B : Option Addr} {m d : Nat} {t : Bool} {C : Option Addr} {i e : Nat} {D : Option Addr} {j f : Nat} {p : PtD} (h : OwPN AnyN T b1 w s A n c B m d t C i e D j f p) (hb : b0 ≤ b1) : OwPN AnyN T b0 w s A n c B m d t C i e D j f p := by
  obtain ⟨c1, c2, h1, h2, hf, hn⟩ := h
  exact ⟨c1, c2, h1, h2, fun b hm => ⟨Nat.le_trans hb (hf b hm).1, (hf b hm).2⟩, hn⟩
theorem OwPN.setT {T TP : TypeId} {b0 g k : Nat} {w : World} {s : Bool} {A : Option Addr} {n c : Nat} {B : Option Addr} {m d : Nat} {t : Bool} {C : Option Addr} {i e : Nat} {D : Option Addr} {j f : Nat} {p : PtD} (h : OwPN AnyN T b0 w s A n c B m d t C i e D j f p) (hk : Wk k TP g w) (hne : T ≠ TP) (i0 : Nat) (u : Value) : OwPN AnyN T b0 (w.setCell ⟨g, i0, none⟩ u) s A n c B m d t C i e D j f p := by
  obtain ⟨c1, c2, h1, h2, hf, hn⟩ := h
  exact ⟨c1, c2, h1.keep (by simp) (fun b hb => Below.heap_setCell w _ u b (h1.neT hk hne b hb)), h2.keep (by simp) (fun b hb => Below.heap_setCell w _ u b (h2.neT hk hne b hb)), fun b hb => by simpa using hf b hb, hn⟩
theorem Cur.set {g n c : Nat} {w : World} {A : Option Addr} {l : List Int} (h : Cur g w A n c l) {b : Nat} (hq : b ≠ g) (hq2 : ∀ ad, A = Option.some ad → 0 < n → ad.block ≠ b) (o : Nat) (u : Value) : Cur g (w.setCell ⟨b, o, none⟩ u) A n c l := by
  obtain ⟨i, k, h1, h2, h3, h4, h5⟩ := h
  exact ⟨i, k, h1.far (Ne.symm hq) u, h2, h3, h4.ob (g := b) hq2 ((Ob.refl [b] w).set (by simp) _ _), h5⟩
theorem Ob.far {bs : List Nat} {w W : World} (h : Ob bs w W) {b : Nat} (hb : w.heap.size ≤ b) (o : Nat) (u : Value) : Ob bs w (W.setCell ⟨b, o, none⟩ u) := by
  have k := (h.mono (cs := b :: bs) (fun x hx => List.mem_cons_of_mem _ hx)).set (g := b) (by simp) o u
  exact ⟨k.os, k.tape, k.output, k.size, fun x hx hn => k.block x hx fun hm => by rcases List.mem_cons.1 hm with rfl | hm; omega; exact hn hm⟩
end

section
open Go.RowKit

def toP (x y : Rat) : PtD := ⟨toR x, toR y⟩
theorem ifP_toP {x y : Rat} (hx : Fit x) (hy : Fit y) : ifP (toP x y) = toP x y := by
  have e1 := (okR_den (.inr hx.ok)).2 hx.ok
  have e2 := (okR_den (.inr hy.ok)).2 hy.ok
  unfold ifP
  rw [if_neg]
  rintro (h | h)
  · exact e1 h
  · exact e2 h
theorem subP_toP {x y u v : Rat} (hx : Bd 17 x) (hy : Bd 17 y) (hu : Bd 17 u) (hv : Bd 17 v) : subP (toP x y) (toP u v) = toP (x - u) (y - v) ∧ Bd 578 (x - u) ∧ Bd 578 (y - v) := by
  have h1 : Bd 578 (x - u) := (hx.sub hu).mono (by decide)
  have h2 : Bd 578 (y - v) := (hy.sub hv).mono (by decide)
  refine ⟨?_, h1, h2⟩
  unfold subP
  rw [show (toP x y).x = toR x from rfl, show (toP u v).x = toR u from rfl, show (toP x y).y = toR y from rfl, show (toP u v).y = toR v from rfl,
    subR_toR (hx.fit (by decide)) (hu.fit (by decide)) (h1.fit (by decide)), subR_toR (hy.fit (by decide)) (hv.fit (by decide)) (h2.fit (by decide))]
  exact ifP_toP (h1.fit (by decide)) (h2.fit (by decide))
/-- Twice the area. -/
def detQ (x0 y0 x1 y1 x2 y2 : Rat) : Rat := (x1 - x0) * (y2 - y0) - (y1 - y0) * (x2 - x0)
theorem dblA_toP {x0 y0 x1 y1 x2 y2 : Rat} (a0 : Bd 17 x0) (b0 : Bd 17 y0) (a1 : Bd 17 x1) (b1 : Bd 17 y1) (a2 : Bd 17 x2) (b2 : Bd 17 y2) :
    dblA (toP x0 y0) (toP x1 y1) (toP x2 y2) = toR (detQ x0 y0 x1 y1 x2 y2) ∧ Bd 223224238112 (detQ x0 y0 x1 y1 x2 y2) := by
  obtain ⟨e1, h1, h2⟩ := subP_toP a1 b1 a0 b0
  obtain ⟨e2, h3, h4⟩ := subP_toP a2 b2 a0 b0
  have m1 : Bd 334084 ((x1 - x0) * (y2 - y0)) := (h1.mul h4).mono (by decide)
  have m2 : Bd 334084 ((y1 - y0) * (x2 - x0)) := (h2.mul h3).mono (by decide)
  have m3 : Bd 223224238112 (detQ x0 y0 x1 y1 x2 y2) := (m1.sub m2).mono (by decide)
  refine ⟨?_, m3⟩
  unfold dblA
  rw [e1, e2]
  unfold crossP
  rw [show (toP (x1 - x0) (y1 - y0)).x = toR (x1 - x0) from rfl, show (toP (x1 - x0) (y1 - y0)).y = toR (y1 - y0) from rfl, show (toP (x2 - x0) (y2 - y0)).x = toR (x2 - x0) from rfl, show (toP (x2 - x0) (y2 - y0)).y = toR (y2 - y0) from rfl,
    mulR_toR (h1.fit (by decide)) (h4.fit (by decide)) (m1.fit (by decide)), mulR_toR (h2.fit (by decide)) (h3.fit (by decide)) (m2.fit (by decide)), subR_toR (m1.fit (by decide)) (m2.fit (by decide)) (m3.fit (by decide))]
  rfl
end

section
open Go.RowKit

theorem Ob.bl {bs : List Nat} {w W W2 : World} (h : Ob bs w W) (hb : Bl W W2) : Ob bs w W2 := h.trans (Ob.of_bl hb _)
end

section
open Go.RowKit
end

section
open Go.RowKit

def ZTo (l : List RatD) : Prop := ∀ j, j < l.length → pix l j = zR ∨ OkR (pix l j)
set_option maxHeartbeats 1600000 in
theorem ifVectorF_any (w : World) {s : Bool} {A : Option Addr} {n c : Nat} {B : Option Addr} {m d : Nat} {r : RatD} {b : Bool} (h : RdR w s A n c B m d r) (hz : r = zR ∨ OkR r) (hb : okR r = b) :
    Calls Tryz.prog 182 #[.agg #[.bool s, .slice A n c, .slice B m d]] w fun e w' => e = .returned (.bool (!b)) ∧ Bl w w' := by
  have hd := okR_den hz
  rw [h.den.len, ← okR_true] at hd
  cases b with
  | true =>
    have hm : 0 < m := by have := hd.2 hb; omega
    clear hd hz h hb
    go_enter Tryz.func182, Tryz.ntmps182
    go_wp2_with fail
    refine (isRat_yes _ hm).mono ?_
    rintro e w1 ⟨rfl, hb1⟩
    go_wp2_with fail
    go_ret
    exact ⟨rfl, slc⟩
  | false =>
    obtain rfl : m = 0 := by
      rcases Nat.eq_zero_or_pos m with h0 | h0
      · exact h0
      · rw [hd.1 (by omega)] at hb; cases hb
    clear hd hz h hb
    go_enter Tryz.func182, Tryz.ntmps182
    go_wp2_with fail
    refine (isRat_no _ rfl).mono ?_
    rintro e w1 ⟨rfl, hb1⟩
    go_wp2_with fail
    go_ret
    exact ⟨rfl, slc⟩
set_option maxHeartbeats 1600000 in
theorem IndexRatV_any (w : World) {A : Option Addr} {n c : Nat} {l : List RatD} (h : RdRS w A n c l) (hz : ZTo l) :
    Calls Tryz.prog 196 #[.slice A n c, .func (.func 182) #[] #[]] w (IdxPostB (AllOk l) w) := by
  have hn := h.small
  have hl := Lib.hid h.len
  go_enter Tryz.func196, Tryz.ntmps196
  go_wp2_with fail
  go_loopw [8] (fun i wr => ∃ k : Nat, k ≤ n ∧ i = .int .i64 (k : Int) ∧ OkTo l k ∧ Bl w wr) (fun i _ => n - (intOf i).toNat)
  case atStart => exact ⟨0, Nat.zero_le _, rfl, OkTo.zero _, Bl.refl _⟩
  case round =>
    obtain ⟨k, hk, rfl, hin, hbw⟩ := hrel
    by_cases hkn : k < n
    · have hki : (k : Int) < (n : Int) := by omega
      obtain ⟨ad, rfl, hlta, hca⟩ := (h.bl hbw).cells k hkn
      obtain ⟨s, A, n', c', B, m, d', ⟨g0, g1, g2⟩, hx⟩ := hca
      by_cases ho : OkR (pix l k)
      · have hin' := hin.step ho
        have hok := okR_of ho
        clear hin ho
        go_wp2_with fail
        refine (ifVectorF_any _ hx (hz k (by rw [hl.out]; exact hkn)) hok).mono ?_
        rintro e w1 ⟨rfl, hb1⟩
        have hb2 : Bl w w1 := slc
        clear hb1
        go_wp2_with fail
        go_roundw
        case rel => exact ⟨k + 1, by omega, by go_num, hin', hb2⟩
        case measure => simp [intOf]; omega
      · have hno : ¬ AllOk l := fun ha => ho (ha k (by rw [hl.out]; exact hkn))
        have hno := Lib.hid hno; rename_i h_; clear h_
        have hok := okR_no ho
        clear hin ho
        go_wp2_with fail
        refine (ifVectorF_any _ hx (hz k (by rw [hl.out]; exact hkn)) hok).mono ?_
        rintro e w1 ⟨rfl, hb1⟩
        have hb2 : Bl w w1 := slc
        clear hb1
        go_wp2_with fail
        go_ret
        exact ⟨_, rfl, fun ha => absurd ha hno.out, fun _ => by omega, hb2⟩
    · have hall : AllOk l := fun j hj => hin j (by rw [hl.out] at hj; omega)
      have hall := Lib.hid hall; rename_i h_; clear h_
      go_wp2_with fail
      go_ret
      exact ⟨_, rfl, fun _ => rfl, fun hno => absurd hall.out hno, hbw⟩
theorem ContainsRatV_yes (w : World) {A : Option Addr} {n c : Nat} {l : List RatD} (h : RdRS w A n c l) (hz : ZTo l) (hp : AllOk l) :
    Calls Tryz.prog 151 #[.slice A n c, .func (.func 182) #[] #[]] w fun e w' => e = .returned (.bool false) ∧ Bl w w' := by
  have hp := Lib.hid hp; rename_i h_; clear h_
  go_enter Tryz.func151, Tryz.ntmps151
  go_wp2_with fail
  refine (IndexRatV_any _ h hz).mono ?_
  rintro e w1 ⟨i, rfl, h1, _, hb⟩
  have h1 := h1 hp.out
  subst h1
  go_wp2_with fail
  go_ret
  exact ⟨rfl, hb⟩
theorem ifVector_yes (w : World) {A : Option Addr} {n c : Nat} {l : List RatD} (h : RdRS w A n c l) (hz : ZTo l) (hp : AllOk l) :
    Calls Tryz.prog 135 #[.slice A n c] w fun e w' => e = .returned (.slice A n c) ∧ Bl w w' := by
  have hp := Lib.hid hp; rename_i h_; clear h_
  go_enter Tryz.func135, Tryz.ntmps135
  go_wp2_with fail
  refine (ContainsRatV_yes _ h hz hp.out).mono ?_
  rintro e w1 ⟨rfl, hb⟩
  go_wp2_with fail
  go_ret
  exact ⟨rfl, hb⟩
def SqTo (L : List (List RatD)) (k : Nat) : Prop := ∀ i, i < k → AllOk (pix L i)
theorem SqTo.step {L : List (List RatD)} {k : Nat} (h : SqTo L k) (h0 : AllOk (pix L k)) : SqTo L (k + 1) := by
  intro j hj
  rcases Nat.lt_succ_iff_lt_or_eq.1 hj with hj | rfl
  · exact h j hj
  · exact h0
end

section
open Go.RowKit
end

section
open Go.RowKit

section
variable {x0 y0 x1 y1 x2 y2 : Rat}
/-- Six small coordinates. -/
def Sm6 (x0 y0 x1 y1 x2 y2 : Rat) : Prop := Bd 17 x0 ∧ Bd 17 y0 ∧ Bd 17 x1 ∧ Bd 17 y1 ∧ Bd 17 x2 ∧ Bd 17 y2
def arQ (x0 y0 x1 y1 x2 y2 : Rat) : Rat := mkRat 1 2 * detQ x0 y0 x1 y1 x2 y2
theorem half_sm : ofFrac 1 2 = toR (mkRat 1 2) ∧ Bd 2 (mkRat 1 2) := by
  have hb : Bd 2 (mkRat 1 2) := bd_mk (by omega) (by decide) (by omega)
  refine ⟨?_, hb⟩
  rw [ofFrac_toR 1 (by omega), if_pos (hb.fit (by decide))]
theorem area_toP (h : Sm6 x0 y0 x1 y1 x2 y2) : areaR (toP x0 y0) (toP x1 y1) (toP x2 y2) = toR (arQ x0 y0 x1 y1 x2 y2) ∧ Bd 446448476224 (arQ x0 y0 x1 y1 x2 y2) := by
  obtain ⟨a0, b0, a1, b1, a2, b2⟩ := h
  obtain ⟨e, hd⟩ := dblA_toP a0 b0 a1 b1 a2 b2
  obtain ⟨e2, hh⟩ := half_sm
  have ha : Bd 446448476224 (arQ x0 y0 x1 y1 x2 y2) := (hh.mul hd).mono (by decide)
  refine ⟨?_, ha⟩
  unfold areaR
  rw [e, e2, mulR_toR (hh.fit (by decide)) (hd.fit (by decide)) (ha.fit (by decide))]
  rfl
end
end

section
open Go.RowKit

section
variable {x0 y0 x1 y1 x2 y2 : Rat}
theorem zero_sm : ofFrac 0 1 = toR (mkRat 0 1) ∧ Bd 1 (mkRat 0 1) ∧ mkRat 0 1 = 0 := by
  have hb : Bd 1 (mkRat 0 1) := bd_mk (by omega) (by decide) (by omega)
  refine ⟨?_, hb, by decide +kernel⟩
  rw [ofFrac_toR 0 (by omega), if_pos (hb.fit (by decide))]
end
end

section
open Go.RowKit

noncomputable def addP (p q : PtD) : PtD := ifP ⟨addR p.x q.x, addR p.y q.y⟩
set_option maxRecDepth 100000 in
set_option maxHeartbeats 8000000 in
theorem AddPoints_any (w : World) {s : Bool} {A : Option Addr} {n c : Nat} {B : Option Addr} {m d : Nat} {t : Bool} {C : Option Addr} {i e : Nat} {D : Option Addr} {j f : Nat} {p : PtD} {s' : Bool} {A' : Option Addr} {n' c' : Nat} {B' : Option Addr} {m' d' : Nat} {t' : Bool} {C' : Option Addr} {i' e' : Nat} {D' : Option Addr} {j' f' : Nat} {p' : PtD} (h : RdR w s A n c B m d p.x) (k : RdR w t C i e D j f p.y) (h' : RdR w s' A' n' c' B' m' d' p'.x) (k' : RdR w t' C' i' e' D' j' f' p'.y) :
    Calls Tryz.prog 18 #[.agg #[.bool s, .slice A n c, .slice B m d, .bool t, .slice C i e, .slice D j f], .agg #[.bool s', .slice A' n' c', .slice B' m' d', .bool t', .slice C' i' e', .slice D' j' f']] w fun en w' => ∃ s1 A1 n1 c1 B1 m1 d1 t1 C1 i1 e1 D1 j1 f1, en = .returned (.agg #[.bool s1, .slice A1 n1 c1, .slice B1 m1 d1, .bool t1, .slice C1 i1 e1, .slice D1 j1 f1]) ∧ OwP 3 w.heap.size w' s1 A1 n1 c1 B1 m1 d1 t1 C1 i1 e1 D1 j1 f1 (addP p p') ∧ Bl w w' := by
  go_enter Tryz.func18, Tryz.ntmps18
  go_wp2_with fail
  refine wp_gen (fun W => Bl w W ∧ Blk W (w.heap.size) 31 #[.bool s, .slice A n c, .slice B m d, .bool t, .slice C i e, .slice D j f] ∧ Blk W (w.heap.size + 1) 31 #[.bool s', .slice A' n' c', .slice B' m' d', .bool t', .slice C' i' e', .slice D' j' f'] ∧ Wk 6 31 (w.heap.size + 1 + 1) W) ⟨slc, bts, bts, bts⟩ ?_
  rintro W ⟨hbW, hx, hx', hr⟩
  go_region_held3 (fun w' => (w'.cell? ⟨w.heap.size, 0, none⟩ = some (.bool s) ∧ w'.cell? ⟨w.heap.size, 1, none⟩ = some (.slice A n c) ∧ w'.cell? ⟨w.heap.size, 2, none⟩ = some (.slice B m d) ∧ w'.cell? ⟨w.heap.size, 3, none⟩ = some (.bool t) ∧ w'.cell? ⟨w.heap.size, 4, none⟩ = some (.slice C i e) ∧ w'.cell? ⟨w.heap.size, 5, none⟩ = some (.slice D j f)) ∧ (w'.cell? ⟨w.heap.size + 1, 0, none⟩ = some (.bool s') ∧ w'.cell? ⟨w.heap.size + 1, 1, none⟩ = some (.slice A' n' c') ∧ w'.cell? ⟨w.heap.size + 1, 2, none⟩ = some (.slice B' m' d') ∧ w'.cell? ⟨w.heap.size + 1, 3, none⟩ = some (.bool t') ∧ w'.cell? ⟨w.heap.size + 1, 4, none⟩ = some (.slice C' i' e') ∧ w'.cell? ⟨w.heap.size + 1, 5, none⟩ = some (.slice D' j' f')) ∧ (w'.cell? ⟨w.heap.size + 1 + 1, 0, none⟩ = some (cellD w' (w.heap.size + 1 + 1) 0) ∧ w'.cell? ⟨w.heap.size + 1 + 1, 1, none⟩ = some (cellD w' (w.heap.size + 1 + 1) 1) ∧ w'.cell? ⟨w.heap.size + 1 + 1, 2, none⟩ = some (cellD w' (w.heap.size + 1 + 1) 2) ∧ w'.cell? ⟨w.heap.size + 1 + 1, 3, none⟩ = some (cellD w' (w.heap.size + 1 + 1) 3) ∧ w'.cell? ⟨w.heap.size + 1 + 1, 4, none⟩ = some (cellD w' (w.heap.size + 1 + 1) 4) ∧ w'.cell? ⟨w.heap.size + 1 + 1, 5, none⟩ = some (cellD w' (w.heap.size + 1 + 1) 5)) ∧ w'.frozen? ⟨w.heap.size + 1 + 1, 0, none⟩ = false ∧ w'.frozen? ⟨w.heap.size + 1 + 1, 1, none⟩ = false ∧ w'.frozen? ⟨w.heap.size + 1 + 1, 2, none⟩ = false ∧ w'.frozen? ⟨w.heap.size + 1 + 1, 3, none⟩ = false ∧ w'.frozen? ⟨w.heap.size + 1 + 1, 4, none⟩ = false ∧ w'.frozen? ⟨w.heap.size + 1 + 1, 5, none⟩ = false) (first | exact ⟨bx6 (T := 31) bts, bx6 (T := 31) bts, Wk.out6 (T := 31) bts⟩) (first | (go_at_call 22; with_reducible refine (RatAdd_any _ (h.bl slc) (h'.bl slc)).mono ?_; rintro en w2 ⟨s2, A2, n2, c2, B2, m2, d2, rfl, hR2, hb2⟩) | (go_at_call 22; with_reducible refine (RatAdd_any _ (k.bl slc) (k'.bl slc)).mono ?_; rintro en w3 ⟨s3, A3, n3, c3, B3, m3, d3, rfl, hR3, hb3⟩) | (go_at_call 77; refine (ifPoint_any (p := ⟨addR p.x p'.x, addR p.y p'.y⟩) _ (OwP.two hR2 hR3 hb3 (Bl.size hb2))).mono ?_; rintro en w4 ⟨s1, A1, n1, c1, B1, m1, d1, t1, C1, i1, e1, D1, j1, f1, rfl, hX, hb4⟩))
  have hz : w.heap.size + 1 + 1 + 1 ≤ W.heap.size := hr.lt
  have hr := (show Wk 6 31 (w.heap.size + 1 + 1) w4 from bts)
  have hbW : Bl w w4 := slc
  have hX := hX.low (show w.heap.size + 1 + 1 + 1 ≤ W.drew.heap.size from hz)
  obtain ⟨v0, x0⟩ := hr.val_ (i := 0) (by omega)
  obtain ⟨v1, x1⟩ := hr.val_ (i := 1) (by omega)
  obtain ⟨v2, x2⟩ := hr.val_ (i := 2) (by omega)
  obtain ⟨v3, x3⟩ := hr.val_ (i := 3) (by omega)
  obtain ⟨v4, x4⟩ := hr.val_ (i := 4) (by omega)
  obtain ⟨v5, x5⟩ := hr.val_ (i := 5) (by omega)
  have hg := hr.lt
  obtain ⟨cs4, hB4, hc4⟩ := hr
  have hf0 := hB4.frozen 0
  have hf1 := hB4.frozen 1
  have hf2 := hB4.frozen 2
  have hf3 := hB4.frozen 3
  have hf4 := hB4.frozen 4
  have hf5 := hB4.frozen 5
  go_wp2_with fail
  exact bodyPost_ret (v := .agg #[.bool s1, .slice A1 n1 c1, .slice B1 m1 d1, .bool t1, .slice C1 i1 e1, .slice D1 j1 f1]) (by simp [results, Tryz.results18, go_sem, x0, x1, x2, x3, x4, x5]) rfl ⟨_, _, _, _, _, _, _, _, _, _, _, _, _, _, rfl, ((((((hX.far (by simp) _).far (by simp) _).far (by simp) _).far (by simp) _).far (by simp) _).far (by simp) _).low (by omega), slc⟩
end

section
open Go.RowKit

noncomputable def sclP (r : RatD) (p : PtD) : PtD := ifP ⟨mulR r p.x, mulR r p.y⟩
set_option maxRecDepth 100000 in
set_option maxHeartbeats 8000000 in
theorem ScalePoint_any (w : World) {s : Bool} {A : Option Addr} {n c : Nat} {B : Option Addr} {m d : Nat} {r : RatD} {s' : Bool} {A' : Option Addr} {n' c' : Nat} {B' : Option Addr} {m' d' : Nat} {t' : Bool} {C' : Option Addr} {i' e' : Nat} {D' : Option Addr} {j' f' : Nat} {p' : PtD} (h : RdR w s A n c B m d r) (h' : RdR w s' A' n' c' B' m' d' p'.x) (k' : RdR w t' C' i' e' D' j' f' p'.y) :
    Calls Tryz.prog 19 #[.agg #[.bool s, .slice A n c, .slice B m d], .agg #[.bool s', .slice A' n' c', .slice B' m' d', .bool t', .slice C' i' e', .slice D' j' f']] w fun en w' => ∃ s1 A1 n1 c1 B1 m1 d1 t1 C1 i1 e1 D1 j1 f1, en = .returned (.agg #[.bool s1, .slice A1 n1 c1, .slice B1 m1 d1, .bool t1, .slice C1 i1 e1, .slice D1 j1 f1]) ∧ OwP 3 w.heap.size w' s1 A1 n1 c1 B1 m1 d1 t1 C1 i1 e1 D1 j1 f1 (sclP r p') ∧ Bl w w' := by
  go_enter Tryz.func19, Tryz.ntmps19
  go_wp2_with fail
  refine wp_gen (fun W => Bl w W ∧ Blk W (w.heap.size) 29 #[.bool s, .slice A n c, .slice B m d] ∧ Blk W (w.heap.size + 1) 31 #[.bool s', .slice A' n' c', .slice B' m' d', .bool t', .slice C' i' e', .slice D' j' f'] ∧ Wk 6 31 (w.heap.size + 1 + 1) W) ⟨slc, bts, bts, bts⟩ ?_
  rintro W ⟨hbW, hx, hx', hr⟩
  go_region_held3 (fun w' => (w'.cell? ⟨w.heap.size, 0, none⟩ = some (.bool s) ∧ w'.cell? ⟨w.heap.size, 1, none⟩ = some (.slice A n c) ∧ w'.cell? ⟨w.heap.size, 2, none⟩ = some (.slice B m d)) ∧ (w'.cell? ⟨w.heap.size + 1, 0, none⟩ = some (.bool s') ∧ w'.cell? ⟨w.heap.size + 1, 1, none⟩ = some (.slice A' n' c') ∧ w'.cell? ⟨w.heap.size + 1, 2, none⟩ = some (.slice B' m' d') ∧ w'.cell? ⟨w.heap.size + 1, 3, none⟩ = some (.bool t') ∧ w'.cell? ⟨w.heap.size + 1, 4, none⟩ = some (.slice C' i' e') ∧ w'.cell? ⟨w.heap.size + 1, 5, none⟩ = some (.slice D' j' f')) ∧ (w'.cell? ⟨w.heap.size + 1 + 1, 0, none⟩ = some (cellD w' (w.heap.size + 1 + 1) 0) ∧ w'.cell? ⟨w.heap.size + 1 + 1, 1, none⟩ = some (cellD w' (w.heap.size + 1 + 1) 1) ∧ w'.cell? ⟨w.heap.size + 1 + 1, 2, none⟩ = some (cellD w' (w.heap.size + 1 + 1) 2) ∧ w'.cell? ⟨w.heap.size + 1 + 1, 3, none⟩ = some (cellD w' (w.heap.size + 1 + 1) 3) ∧ w'.cell? ⟨w.heap.size + 1 + 1, 4, none⟩ = some (cellD w' (w.heap.size + 1 + 1) 4) ∧ w'.cell? ⟨w.heap.size + 1 + 1, 5, none⟩ = some (cellD w' (w.heap.size + 1 + 1) 5)) ∧ w'.frozen? ⟨w.heap.size + 1 + 1, 0, none⟩ = false ∧ w'.frozen? ⟨w.heap.size + 1 + 1, 1, none⟩ = false ∧ w'.frozen? ⟨w.heap.size + 1 + 1, 2, none⟩ = false ∧ w'.frozen? ⟨w.heap.size + 1 + 1, 3, none⟩ = false ∧ w'.frozen? ⟨w.heap.size + 1 + 1, 4, none⟩ = false ∧ w'.frozen? ⟨w.heap.size + 1 + 1, 5, none⟩ = false) (first | exact ⟨bx3 (T := 29) bts, bx6 (T := 31) bts, Wk.out6 (T := 31) bts⟩) (first | (go_at_call 49; with_reducible refine (RatMul_any _ (h.bl slc) (h'.bl slc)).mono ?_; rintro en w2 ⟨s2, A2, n2, c2, B2, m2, d2, rfl, hR2, hb2⟩) | (go_at_call 49; with_reducible refine (RatMul_any _ (h.bl slc) (k'.bl slc)).mono ?_; rintro en w3 ⟨s3, A3, n3, c3, B3, m3, d3, rfl, hR3, hb3⟩) | (go_at_call 77; refine (ifPoint_any (p := ⟨mulR r p'.x, mulR r p'.y⟩) _ (OwP.two hR2 hR3 hb3 (Bl.size hb2))).mono ?_; rintro en w4 ⟨s1, A1, n1, c1, B1, m1, d1, t1, C1, i1, e1, D1, j1, f1, rfl, hX, hb4⟩))
  have hz : w.heap.size + 1 + 1 + 1 ≤ W.heap.size := hr.lt
  have hr := (show Wk 6 31 (w.heap.size + 1 + 1) w4 from bts)
  have hbW : Bl w w4 := slc
  have hX := hX.low (show w.heap.size + 1 + 1 + 1 ≤ W.drew.heap.size from hz)
  obtain ⟨v0, x0⟩ := hr.val_ (i := 0) (by omega)
  obtain ⟨v1, x1⟩ := hr.val_ (i := 1) (by omega)
  obtain ⟨v2, x2⟩ := hr.val_ (i := 2) (by omega)
  obtain ⟨v3, x3⟩ := hr.val_ (i := 3) (by omega)
  obtain ⟨v4, x4⟩ := hr.val_ (i := 4) (by omega)
  obtain ⟨v5, x5⟩ := hr.val_ (i := 5) (by omega)
  have hg := hr.lt
  obtain ⟨cs4, hB4, hc4⟩ := hr
  have hf0 := hB4.frozen 0
  have hf1 := hB4.frozen 1
  have hf2 := hB4.frozen 2
  have hf3 := hB4.frozen 3
  have hf4 := hB4.frozen 4
  have hf5 := hB4.frozen 5
  go_wp2_with fail
  exact bodyPost_ret (v := .agg #[.bool s1, .slice A1 n1 c1, .slice B1 m1 d1, .bool t1, .slice C1 i1 e1, .slice D1 j1 f1]) (by simp [results, Tryz.results19, go_sem, x0, x1, x2, x3, x4, x5]) rfl ⟨_, _, _, _, _, _, _, _, _, _, _, _, _, _, rfl, ((((((hX.far (by simp) _).far (by simp) _).far (by simp) _).far (by simp) _).far (by simp) _).far (by simp) _).low (by omega), slc⟩

noncomputable def midP (p q : PtD) : PtD := sclP (ofFrac 1 2) (addP p q)
set_option maxRecDepth 100000 in
set_option maxHeartbeats 8000000 in
theorem Middle_any (w : World) {s : Bool} {A : Option Addr} {n c : Nat} {B : Option Addr} {m d : Nat} {t : Bool} {C : Option Addr} {i e : Nat} {D : Option Addr} {j f : Nat} {p : PtD} {s' : Bool} {A' : Option Addr} {n' c' : Nat} {B' : Option Addr} {m' d' : Nat} {t' : Bool} {C' : Option Addr} {i' e' : Nat} {D' : Option Addr} {j' f' : Nat} {p' : PtD} (h : RdR w s A n c B m d p.x) (k : RdR w t C i e D j f p.y) (h' : RdR w s' A' n' c' B' m' d' p'.x) (k' : RdR w t' C' i' e' D' j' f' p'.y) :
    Calls Tryz.prog 26 #[.agg #[.bool s, .slice A n c, .slice B m d, .bool t, .slice C i e, .slice D j f], .agg #[.bool s', .slice A' n' c', .slice B' m' d', .bool t', .slice C' i' e', .slice D' j' f']] w fun en w' => ∃ s1 A1 n1 c1 B1 m1 d1 t1 C1 i1 e1 D1 j1 f1, en = .returned (.agg #[.bool s1, .slice A1 n1 c1, .slice B1 m1 d1, .bool t1, .slice C1 i1 e1, .slice D1 j1 f1]) ∧ OwP 3 w.heap.size w' s1 A1 n1 c1 B1 m1 d1 t1 C1 i1 e1 D1 j1 f1 (midP p p') ∧ Bl w w' := by
  go_enter Tryz.func26, Tryz.ntmps26
  go_wp2_with fail
  refine wp_gen (fun W => Bl w W ∧ Blk W (w.heap.size) 31 #[.bool s, .slice A n c, .slice B m d, .bool t, .slice C i e, .slice D j f] ∧ Blk W (w.heap.size + 1) 31 #[.bool s', .slice A' n' c', .slice B' m' d', .bool t', .slice C' i' e', .slice D' j' f'] ∧ Wk 6 31 (w.heap.size + 1 + 1) W) ⟨slc, bts, bts, bts⟩ ?_
  rintro W ⟨hbW, hx, hx', hr⟩
  go_region_held3 (fun w' => (w'.cell? ⟨w.heap.size, 0, none⟩ = some (.bool s) ∧ w'.cell? ⟨w.heap.size, 1, none⟩ = some (.slice A n c) ∧ w'.cell? ⟨w.heap.size, 2, none⟩ = some (.slice B m d) ∧ w'.cell? ⟨w.heap.size, 3, none⟩ = some (.bool t) ∧ w'.cell? ⟨w.heap.size, 4, none⟩ = some (.slice C i e) ∧ w'.cell? ⟨w.heap.size, 5, none⟩ = some (.slice D j f)) ∧ (w'.cell? ⟨w.heap.size + 1, 0, none⟩ = some (.bool s') ∧ w'.cell? ⟨w.heap.size + 1, 1, none⟩ = some (.slice A' n' c') ∧ w'.cell? ⟨w.heap.size + 1, 2, none⟩ = some (.slice B' m' d') ∧ w'.cell? ⟨w.heap.size + 1, 3, none⟩ = some (.bool t') ∧ w'.cell? ⟨w.heap.size + 1, 4, none⟩ = some (.slice C' i' e') ∧ w'.cell? ⟨w.heap.size + 1, 5, none⟩ = some (.slice D' j' f')) ∧ (w'.cell? ⟨w.heap.size + 1 + 1, 0, none⟩ = some (cellD w' (w.heap.size + 1 + 1) 0) ∧ w'.cell? ⟨w.heap.size + 1 + 1, 1, none⟩ = some (cellD w' (w.heap.size + 1 + 1) 1) ∧ w'.cell? ⟨w.heap.size + 1 + 1, 2, none⟩ = some (cellD w' (w.heap.size + 1 + 1) 2) ∧ w'.cell? ⟨w.heap.size + 1 + 1, 3, none⟩ = some (cellD w' (w.heap.size + 1 + 1) 3) ∧ w'.cell? ⟨w.heap.size + 1 + 1, 4, none⟩ = some (cellD w' (w.heap.size + 1 + 1) 4) ∧ w'.cell? ⟨w.heap.size + 1 + 1, 5, none⟩ = some (cellD w' (w.heap.size + 1 + 1) 5)) ∧ w'.frozen? ⟨w.heap.size + 1 + 1, 0, none⟩ = false ∧ w'.frozen? ⟨w.heap.size + 1 + 1, 1, none⟩ = false ∧ w'.frozen? ⟨w.heap.size + 1 + 1, 2, none⟩ = false ∧ w'.frozen? ⟨w.heap.size + 1 + 1, 3, none⟩ = false ∧ w'.frozen? ⟨w.heap.size + 1 + 1, 4, none⟩ = false ∧ w'.frozen? ⟨w.heap.size + 1 + 1, 5, none⟩ = false) (first | exact ⟨bx6 (T := 31) bts, bx6 (T := 31) bts, Wk.out6 (T := 31) bts⟩) (first | (go_at_call 50; with_reducible refine (RatOf_any _ 1 2 (by omega) (by omega) (by omega) (by omega)).mono ?_; rintro en w2 ⟨s2, A2, n2, c2, B2, m2, d2, rfl, hR2, hb2⟩) | (go_at_call 18; with_reducible refine (AddPoints_any _ (h.bl slc) (k.bl slc) (h'.bl slc) (k'.bl slc)).mono ?_; rintro en w3 ⟨s3, A3, n3, c3, B3, m3, d3, t3, C3, i3, e3, D3, j3, f3, rfl, hP3, hb3⟩) | (go_at_call 19; refine (ScalePoint_any _ (hR2.rd.bl slc) (hP3.rx.bl slc) (hP3.ry.bl slc)).mono ?_; rintro en w4 ⟨s1, A1, n1, c1, B1, m1, d1, t1, C1, i1, e1, D1, j1, f1, rfl, hX, hb4⟩; replace hX := hX.low (show W.drew.heap.size ≤ _ from Bl.size (by exact slc))))
  have hz : w.heap.size + 1 + 1 + 1 ≤ W.heap.size := hr.lt
  have hr := (show Wk 6 31 (w.heap.size + 1 + 1) w4 from bts)
  have hbW : Bl w w4 := slc
  have hX := hX.low (show w.heap.size + 1 + 1 + 1 ≤ W.drew.heap.size from hz)
  obtain ⟨v0, x0⟩ := hr.val_ (i := 0) (by omega)
  obtain ⟨v1, x1⟩ := hr.val_ (i := 1) (by omega)
  obtain ⟨v2, x2⟩ := hr.val_ (i := 2) (by omega)
  obtain ⟨v3, x3⟩ := hr.val_ (i := 3) (by omega)
  obtain ⟨v4, x4⟩ := hr.val_ (i := 4) (by omega)
  obtain ⟨v5, x5⟩ := hr.val_ (i := 5) (by omega)
  have hg := hr.lt
  obtain ⟨cs4, hB4, hc4⟩ := hr
  have hf0 := hB4.frozen 0
  have hf1 := hB4.frozen 1
  have hf2 := hB4.frozen 2
  have hf3 := hB4.frozen 3
  have hf4 := hB4.frozen 4
  have hf5 := hB4.frozen 5
  go_wp2_with fail
  exact bodyPost_ret (v := .agg #[.bool s1, .slice A1 n1 c1, .slice B1 m1 d1, .bool t1, .slice C1 i1 e1, .slice D1 j1 f1]) (by simp [results, Tryz.results26, go_sem, x0, x1, x2, x3, x4, x5]) rfl ⟨_, _, _, _, _, _, _, _, _, _, _, _, _, _, rfl, ((((((hX.far (by simp) _).far (by simp) _).far (by simp) _).far (by simp) _).far (by simp) _).far (by simp) _).low (by omega), slc⟩
end

section
open Go.RowKit

/-- Numerator and denominator are at most 10 ^ k. -/
def B10 (k : Nat) (q : Rat) : Prop := Bd (10 ^ k) q
theorem ten_lt {k : Nat} (hk : k < 216) : 10 ^ k < Bs ^ 24 := by
  have h1 : (10 : Nat) ^ k ≤ 10 ^ 215 := Nat.pow_le_pow_right (by omega) (by omega)
  exact Nat.lt_of_le_of_lt h1 (by decide)
section
variable {a b k : Nat} {p q : Rat}
theorem B10.fit (h : B10 k q) (hk : k < 216) : Fit q := Bd.fit h (ten_lt hk)
theorem B10.mono (h : B10 a q) (hk : a ≤ b) : B10 b q := Bd.mono h (Nat.pow_le_pow_right (by omega) hk)
theorem B10.of {N : Nat} (h : Bd N q) (hk : N ≤ 10 ^ k) : B10 k q := Bd.mono h hk
theorem B10.add (h : B10 a p) (k : B10 b q) : B10 (a + b + 1) (p + q) := (Bd.add h k).mono (by rw [Nat.pow_succ, Nat.pow_add]; omega)
theorem B10.sub (h : B10 a p) (k : B10 b q) : B10 (a + b + 1) (p - q) := (Bd.sub h k).mono (by rw [Nat.pow_succ, Nat.pow_add]; omega)
theorem B10.mul (h : B10 a p) (k : B10 b q) : B10 (a + b) (p * q) := (Bd.mul h k).mono (by rw [Nat.pow_add]; exact Nat.le_refl _)
theorem B10.neg (h : B10 a p) : B10 a (-p) := Bd.neg h
theorem addR_b (h : B10 a p) (k : B10 b q) (hk : a + b + 1 < 216) : addR (toR p) (toR q) = toR (p + q) := addR_toR (h.fit (by omega)) (k.fit (by omega)) ((h.add k).fit hk)
theorem mulR_b (h : B10 a p) (k : B10 b q) (hk : a + b < 216) : mulR (toR p) (toR q) = toR (p * q) := mulR_toR (h.fit (by omega)) (k.fit (by omega)) ((h.mul k).fit hk)
end
section
variable {a b c k : Nat} {x y u v p q : Rat}
theorem ifP_b (hx : B10 a x) (hy : B10 a y) (hk : a < 216) : ifP (toP x y) = toP x y := ifP_toP (hx.fit hk) (hy.fit hk)
theorem addP_b (hx : B10 a x) (hy : B10 a y) (hu : B10 b u) (hv : B10 b v) (hk : a + b + 1 < 216) : addP (toP x y) (toP u v) = toP (x + u) (y + v) := by
  show ifP ⟨addR (toR x) (toR u), addR (toR y) (toR v)⟩ = _
  rw [addR_b hx hu hk, addR_b hy hv hk]
  exact ifP_b (hx.add hu) (hy.add hv) hk
theorem sclP_b (hq : B10 b q) (hx : B10 a x) (hy : B10 a y) (hk : b + a < 216) : sclP (toR q) (toP x y) = toP (q * x) (q * y) := by
  show ifP ⟨mulR (toR q) (toR x), mulR (toR q) (toR y)⟩ = _
  rw [mulR_b hq hx hk, mulR_b hq hy hk]
  exact ifP_b (hq.mul hx) (hq.mul hy) hk
end
end

end Go.Proofs.YtajlahjghapbkaaGreat
