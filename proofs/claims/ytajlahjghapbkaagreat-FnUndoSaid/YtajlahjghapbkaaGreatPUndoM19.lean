/- Lemmas. -/
import Derived.Test.YtajlahjghapbkaaGreatRows
import Derived.Test.YtajlahjghapbkaaGreatPUndoM18
import Derived.Test.YtajlahjghapbkaaGreatPUndoM15
import Derived.Test.YtajlahjghapbkaaGreatPUndoM17
import Derived.Test.YtajlahjghapbkaaGreatPUndoM16
import Derived.OrdersHeld
import Derived.RegionTactic
import Derived.Test.YtajlahjghapbkaaGreatPUndoM09
import Derived.Deep.Cut
import Derived.Deep.DeepCutAuto
import Derived.ProofKit
import Derived.Deep.Slices
namespace Go.Proofs.YtajlahjghapbkaaGreat
section
open Go.RowKit

noncomputable def sclP (r : RatD) (p : PtD) : PtD := ifP ⟨mulR r p.x, mulR r p.y⟩
set_option maxRecDepth 100000 in
set_option maxHeartbeats 8000000 in
theorem ScalePoint_any (w : World) {s : Bool} {A : Option Addr} {n c : Nat} {B : Option Addr} {m d : Nat} {r : RatD} {s' : Bool} {A' : Option Addr} {n' c' : Nat} {B' : Option Addr} {m' d' : Nat} {t' : Bool} {C' : Option Addr} {i' e' : Nat} {D' : Option Addr} {j' f' : Nat} {p' : PtD} (h : RdR w s A n c B m d r) (h' : RdR w s' A' n' c' B' m' d' p'.x) (k' : RdR w t' C' i' e' D' j' f' p'.y) :
    Calls Tryz.prog 19 #[.agg #[.bool s, .slice A n c, .slice B m d], .agg #[.bool s', .slice A' n' c', .slice B' m' d', .bool t', .slice C' i' e', .slice D' j' f']] w fun en w' => ∃ s1 A1 n1 c1 B1 m1 d1 t1 C1 i1 e1 D1 j1 f1, en = .returned (.agg #[.bool s1, .slice A1 n1 c1, .slice B1 m1 d1, .bool t1, .slice C1 i1 e1, .slice D1 j1 f1]) ∧ OwP 3 w.heap.size w' s1 A1 n1 c1 B1 m1 d1 t1 C1 i1 e1 D1 j1 f1 (sclP r p') ∧ Bl w w' := by
  go_enter Tryz.func19, Tryz.ntmps19
  go_wp2_with fail
  refine wp_gen (fun W => Bl w W ∧ Blk W (w.heap.size) 29 #[.bool s, .slice A n c, .slice B m d] ∧ Blk W (w.heap.size + 1) 31 #[.bool s', .slice A' n' c', .slice B' m' d', .bool t', .slice C' i' e', .slice D' j' f'] ∧ Wk 6 31 (w.heap.size + 1 + 1) W) ⟨slc, bts, bts, bts⟩ ?_
  rintro W ⟨hbW, hx, hx', hr⟩
  go_region_held3 (fun w' => (w'.cell? ⟨w.heap.size, 0, none⟩ = some (.bool s) ∧ w'.cell? ⟨w.heap.size, 1, none⟩ = some (.slice A n c) ∧ w'.cell? ⟨w.heap.size, 2, none⟩ = some (.slice B m d)) ∧ (w'.cell? ⟨w.heap.size + 1, 0, none⟩ = some (.bool s') ∧ w'.cell? ⟨w.heap.size + 1, 1, none⟩ = some (.slice A' n' c') ∧ w'.cell? ⟨w.heap.size + 1, 2, none⟩ = some (.slice B' m' d') ∧ w'.cell? ⟨w.heap.size + 1, 3, none⟩ = some (.bool t') ∧ w'.cell? ⟨w.heap.size + 1, 4, none⟩ = some (.slice C' i' e') ∧ w'.cell? ⟨w.heap.size + 1, 5, none⟩ = some (.slice D' j' f')) ∧ (w'.cell? ⟨w.heap.size + 1 + 1, 0, none⟩ = some (cellD w' (w.heap.size + 1 + 1) 0) ∧ w'.cell? ⟨w.heap.size + 1 + 1, 1, none⟩ = some (cellD w' (w.heap.size + 1 + 1) 1) ∧ w'.cell? ⟨w.heap.size + 1 + 1, 2, none⟩ = some (cellD w' (w.heap.size + 1 + 1) 2) ∧ w'.cell? ⟨w.heap.size + 1 + 1, 3, none⟩ = some (cellD w' (w.heap.size + 1 + 1) 3) ∧ w'.cell? ⟨w.heap.size + 1 + 1, 4, none⟩ = some (cellD w' (w.heap.size + 1 + 1) 4) ∧ w'.cell? ⟨w.heap.size + 1 + 1, 5, none⟩ = some (cellD w' (w.heap.size + 1 + 1) 5)) ∧ w'.frozen? ⟨w.heap.size + 1 + 1, 0, none⟩ = false ∧ w'.frozen? ⟨w.heap.size + 1 + 1, 1, none⟩ = false ∧ w'.frozen? ⟨w.heap.size + 1 + 1, 2, none⟩ = false ∧ w'.frozen? ⟨w.heap.size + 1 + 1, 3, none⟩ = false ∧ w'.frozen? ⟨w.heap.size + 1 + 1, 4, none⟩ = false ∧ w'.frozen? ⟨w.heap.size + 1 + 1, 5, none⟩ = false) (first | exact ⟨bx3 (T := 29) bts, bx6 (T := 31) bts, Wk.out6 (T := 31) bts⟩) (first | (go_at_call 49; with_reducible refine (RatMul_any _ (h.bl slc) (h'.bl slc)).mono ?_; rintro en w2 ⟨s2, A2, n2, c2, B2, m2, d2, rfl, hR2, hb2⟩) | (go_at_call 49; with_reducible refine (RatMul_any _ (h.bl slc) (k'.bl slc)).mono ?_; rintro en w3 ⟨s3, A3, n3, c3, B3, m3, d3, rfl, hR3, hb3⟩) | (go_at_call 77; refine (ifPoint_any (p := ⟨mulR r p'.x, mulR r p'.y⟩) _ (OwP.two hR2 hR3 hb3 (Bl.size hb2))).mono ?_; rintro en w4 ⟨s1, A1, n1, c1, B1, m1, d1, t1, C1, i1, e1, D1, j1, f1, rfl, hX, hb4⟩))
  have hz : w.heap.size + 1 + 1 + 1 ≤ W.heap.size := hr.lt
  have hr := (show Wk 6 31 (w.heap.size + 1 + 1) w4 from bts)
  have hbW : Bl w w4 := slc
  have hX := hX.low (show w.heap.size + 1 + 1 + 1 ≤ W.drew.heap.size from hz)
  obtain ⟨v0, x0⟩ := hr.val_ (i := 0) (by omega)
  obtain ⟨v1, x1⟩ := hr.val_ (i := 1) (by omega)
  obtain ⟨v2, x2⟩ := hr.val_ (i := 2) (by omega)
  obtain ⟨v3, x3⟩ := hr.val_ (i := 3) (by omega)
  obtain ⟨v4, x4⟩ := hr.val_ (i := 4) (by omega)
  obtain ⟨v5, x5⟩ := hr.val_ (i := 5) (by omega)
  have hg := hr.lt
  obtain ⟨cs4, hB4, hc4⟩ := hr
  have hf0 := hB4.frozen 0
  have hf1 := hB4.frozen 1
  have hf2 := hB4.frozen 2
  have hf3 := hB4.frozen 3
  have hf4 := hB4.frozen 4
  have hf5 := hB4.frozen 5
  go_wp2_with fail
  exact bodyPost_ret (v := .agg #[.bool s1, .slice A1 n1 c1, .slice B1 m1 d1, .bool t1, .slice C1 i1 e1, .slice D1 j1 f1]) (by simp [results, Tryz.results19, go_sem, x0, x1, x2, x3, x4, x5]) rfl ⟨_, _, _, _, _, _, _, _, _, _, _, _, _, _, rfl, ((((((hX.far (by simp) _).far (by simp) _).far (by simp) _).far (by simp) _).far (by simp) _).far (by simp) _).low (by omega), slc⟩

noncomputable def midP (p q : PtD) : PtD := sclP (ofFrac 1 2) (addP p q)
set_option maxRecDepth 100000 in
set_option maxHeartbeats 8000000 in
theorem Middle_any (w : World) {s : Bool} {A : Option Addr} {n c : Nat} {B : Option Addr} {m d : Nat} {t : Bool} {C : Option Addr} {i e : Nat} {D : Option Addr} {j f : Nat} {p : PtD} {s' : Bool} {A' : Option Addr} {n' c' : Nat} {B' : Option Addr} {m' d' : Nat} {t' : Bool} {C' : Option Addr} {i' e' : Nat} {D' : Option Addr} {j' f' : Nat} {p' : PtD} (h : RdR w s A n c B m d p.x) (k : RdR w t C i e D j f p.y) (h' : RdR w s' A' n' c' B' m' d' p'.x) (k' : RdR w t' C' i' e' D' j' f' p'.y) :
    Calls Tryz.prog 26 #[.agg #[.bool s, .slice A n c, .slice B m d, .bool t, .slice C i e, .slice D j f], .agg #[.bool s', .slice A' n' c', .slice B' m' d', .bool t', .slice C' i' e', .slice D' j' f']] w fun en w' => ∃ s1 A1 n1 c1 B1 m1 d1 t1 C1 i1 e1 D1 j1 f1, en = .returned (.agg #[.bool s1, .slice A1 n1 c1, .slice B1 m1 d1, .bool t1, .slice C1 i1 e1, .slice D1 j1 f1]) ∧ OwP 3 w.heap.size w' s1 A1 n1 c1 B1 m1 d1 t1 C1 i1 e1 D1 j1 f1 (midP p p') ∧ Bl w w' := by
  go_enter Tryz.func26, Tryz.ntmps26
  go_wp2_with fail
  refine wp_gen (fun W => Bl w W ∧ Blk W (w.heap.size) 31 #[.bool s, .slice A n c, .slice B m d, .bool t, .slice C i e, .slice D j f] ∧ Blk W (w.heap.size + 1) 31 #[.bool s', .slice A' n' c', .slice B' m' d', .bool t', .slice C' i' e', .slice D' j' f'] ∧ Wk 6 31 (w.heap.size + 1 + 1) W) ⟨slc, bts, bts, bts⟩ ?_
  rintro W ⟨hbW, hx, hx', hr⟩
  go_region_held3 (fun w' => (w'.cell? ⟨w.heap.size, 0, none⟩ = some (.bool s) ∧ w'.cell? ⟨w.heap.size, 1, none⟩ = some (.slice A n c) ∧ w'.cell? ⟨w.heap.size, 2, none⟩ = some (.slice B m d) ∧ w'.cell? ⟨w.heap.size, 3, none⟩ = some (.bool t) ∧ w'.cell? ⟨w.heap.size, 4, none⟩ = some (.slice C i e) ∧ w'.cell? ⟨w.heap.size, 5, none⟩ = some (.slice D j f)) ∧ (w'.cell? ⟨w.heap.size + 1, 0, none⟩ = some (.bool s') ∧ w'.cell? ⟨w.heap.size + 1, 1, none⟩ = some (.slice A' n' c') ∧ w'.cell? ⟨w.heap.size + 1, 2, none⟩ = some (.slice B' m' d') ∧ w'.cell? ⟨w.heap.size + 1, 3, none⟩ = some (.bool t') ∧ w'.cell? ⟨w.heap.size + 1, 4, none⟩ = some (.slice C' i' e') ∧ w'.cell? ⟨w.heap.size + 1, 5, none⟩ = some (.slice D' j' f')) ∧ (w'.cell? ⟨w.heap.size + 1 + 1, 0, none⟩ = some (cellD w' (w.heap.size + 1 + 1) 0) ∧ w'.cell? ⟨w.heap.size + 1 + 1, 1, none⟩ = some (cellD w' (w.heap.size + 1 + 1) 1) ∧ w'.cell? ⟨w.heap.size + 1 + 1, 2, none⟩ = some (cellD w' (w.heap.size + 1 + 1) 2) ∧ w'.cell? ⟨w.heap.size + 1 + 1, 3, none⟩ = some (cellD w' (w.heap.size + 1 + 1) 3) ∧ w'.cell? ⟨w.heap.size + 1 + 1, 4, none⟩ = some (cellD w' (w.heap.size + 1 + 1) 4) ∧ w'.cell? ⟨w.heap.size + 1 + 1, 5, none⟩ = some (cellD w' (w.heap.size + 1 + 1) 5)) ∧ w'.frozen? ⟨w.heap.size + 1 + 1, 0, none⟩ = false ∧ w'.frozen? ⟨w.heap.size + 1 + 1, 1, none⟩ = false ∧ w'.frozen? ⟨w.heap.size + 1 + 1, 2, none⟩ = false ∧ w'.frozen? ⟨w.heap.size + 1 + 1, 3, none⟩ = false ∧ w'.frozen? ⟨w.heap.size + 1 + 1, 4, none⟩ = false ∧ w'.frozen? ⟨w.heap.size + 1 + 1, 5, none⟩ = false) (first | exact ⟨bx6 (T := 31) bts, bx6 (T := 31) bts, Wk.out6 (T := 31) bts⟩) (first | (go_at_call 50; with_reducible refine (RatOf_any _ 1 2 (by omega) (by omega) (by omega) (by omega)).mono ?_; rintro en w2 ⟨s2, A2, n2, c2, B2, m2, d2, rfl, hR2, hb2⟩) | (go_at_call 18; with_reducible refine (AddPoints_any _ (h.bl slc) (k.bl slc) (h'.bl slc) (k'.bl slc)).mono ?_; rintro en w3 ⟨s3, A3, n3, c3, B3, m3, d3, t3, C3, i3, e3, D3, j3, f3, rfl, hP3, hb3⟩) | (go_at_call 19; refine (ScalePoint_any _ (hR2.rd.bl slc) (hP3.rx.bl slc) (hP3.ry.bl slc)).mono ?_; rintro en w4 ⟨s1, A1, n1, c1, B1, m1, d1, t1, C1, i1, e1, D1, j1, f1, rfl, hX, hb4⟩; replace hX := hX.low (show W.drew.heap.size ≤ _ from Bl.size (by exact slc))))
  have hz : w.heap.size + 1 + 1 + 1 ≤ W.heap.size := hr.lt
  have hr := (show Wk 6 31 (w.heap.size + 1 + 1) w4 from bts)
  have hbW : Bl w w4 := slc
  have hX := hX.low (show w.heap.size + 1 + 1 + 1 ≤ W.drew.heap.size from hz)
  obtain ⟨v0, x0⟩ := hr.val_ (i := 0) (by omega)
  obtain ⟨v1, x1⟩ := hr.val_ (i := 1) (by omega)
  obtain ⟨v2, x2⟩ := hr.val_ (i := 2) (by omega)
  obtain ⟨v3, x3⟩ := hr.val_ (i := 3) (by omega)
  obtain ⟨v4, x4⟩ := hr.val_ (i := 4) (by omega)
  obtain ⟨v5, x5⟩ := hr.val_ (i := 5) (by omega)
  have hg := hr.lt
  obtain ⟨cs4, hB4, hc4⟩ := hr
  have hf0 := hB4.frozen 0
  have hf1 := hB4.frozen 1
  have hf2 := hB4.frozen 2
  have hf3 := hB4.frozen 3
  have hf4 := hB4.frozen 4
  have hf5 := hB4.frozen 5
  go_wp2_with fail
  exact bodyPost_ret (v := .agg #[.bool s1, .slice A1 n1 c1, .slice B1 m1 d1, .bool t1, .slice C1 i1 e1, .slice D1 j1 f1]) (by simp [results, Tryz.results26, go_sem, x0, x1, x2, x3, x4, x5]) rfl ⟨_, _, _, _, _, _, _, _, _, _, _, _, _, _, rfl, ((((((hX.far (by simp) _).far (by simp) _).far (by simp) _).far (by simp) _).far (by simp) _).far (by simp) _).low (by omega), slc⟩
end

section
open Go.RowKit

/-- Numerator and denominator are at most 10 ^ k. -/
def B10 (k : Nat) (q : Rat) : Prop := Bd (10 ^ k) q
theorem ten_lt {k : Nat} (hk : k < 216) : 10 ^ k < Bs ^ 24 := by
  have h1 : (10 : Nat) ^ k ≤ 10 ^ 215 := Nat.pow_le_pow_right (by omega) (by omega)
  exact Nat.lt_of_le_of_lt h1 (by decide)
section
variable {a b k : Nat} {p q : Rat}
theorem B10.fit (h : B10 k q) (hk : k < 216) : Fit q := Bd.fit h (ten_lt hk)
theorem B10.mono (h : B10 a q) (hk : a ≤ b) : B10 b q := Bd.mono h (Nat.pow_le_pow_right (by omega) hk)
theorem B10.of {N : Nat} (h : Bd N q) (hk : N ≤ 10 ^ k) : B10 k q := Bd.mono h hk
theorem B10.add (h : B10 a p) (k : B10 b q) : B10 (a + b + 1) (p + q) := (Bd.add h k).mono (by rw [Nat.pow_succ, Nat.pow_add]; omega)
theorem B10.sub (h : B10 a p) (k : B10 b q) : B10 (a + b + 1) (p - q) := (Bd.sub h k).mono (by rw [Nat.pow_succ, Nat.pow_add]; omega)
theorem B10.mul (h : B10 a p) (k : B10 b q) : B10 (a + b) (p * q) := (Bd.mul h k).mono (by rw [Nat.pow_add]; exact Nat.le_refl _)
theorem B10.neg (h : B10 a p) : B10 a (-p) := Bd.neg h
theorem addR_b (h : B10 a p) (k : B10 b q) (hk : a + b + 1 < 216) : addR (toR p) (toR q) = toR (p + q) := addR_toR (h.fit (by omega)) (k.fit (by omega)) ((h.add k).fit hk)
theorem mulR_b (h : B10 a p) (k : B10 b q) (hk : a + b < 216) : mulR (toR p) (toR q) = toR (p * q) := mulR_toR (h.fit (by omega)) (k.fit (by omega)) ((h.mul k).fit hk)
end
section
variable {a b c k : Nat} {x y u v p q : Rat}
theorem ifP_b (hx : B10 a x) (hy : B10 a y) (hk : a < 216) : ifP (toP x y) = toP x y := ifP_toP (hx.fit hk) (hy.fit hk)
theorem addP_b (hx : B10 a x) (hy : B10 a y) (hu : B10 b u) (hv : B10 b v) (hk : a + b + 1 < 216) : addP (toP x y) (toP u v) = toP (x + u) (y + v) := by
  show ifP ⟨addR (toR x) (toR u), addR (toR y) (toR v)⟩ = _
  rw [addR_b hx hu hk, addR_b hy hv hk]
  exact ifP_b (hx.add hu) (hy.add hv) hk
theorem sclP_b (hq : B10 b q) (hx : B10 a x) (hy : B10 a y) (hk : b + a < 216) : sclP (toR q) (toP x y) = toP (q * x) (q * y) := by
  show ifP ⟨mulR (toR q) (toR x), mulR (toR q) (toR y)⟩ = _
  rw [mulR_b hq hx hk, mulR_b hq hy hk]
  exact ifP_b (hq.mul hx) (hq.mul hy) hk
end
end

section
open Go.RowKit

section
variable {P : Program} {ops : Array Oper} {Q : Exit → Act → World → Prop} {md : Region.Mode} {S : World → Prop} {late : Nat → Bool}
/-- What has come up has all come up that it waits for. -/
def ClR (md : Region.Mode) (ops : Array Oper) (listed : Array Bool) : Prop := ∀ j oj, ops[j]? = some oj → listed.getD j false = true → ∀ e ∈ oj.after, Region.binds md e = true → listed.getD e.on false = true
theorem ClR.start (k : Nat) : ClR md ops (Array.replicate k false) := fun j _ _ h => by
  rcases Nat.lt_or_ge j k with hj | hj
  · simp [hj] at h
  · simp [hj] at h
theorem ClR.step {listed : Array Bool} {i : Nat} (h : ClR md ops listed) (hi : i ∈ Region.ready md ops listed) : ClR md ops (listed.setIfInBounds i true) := by
  intro j oj hj hl e he hb
  by_cases hji : j = i
  · subst hji
    obtain ⟨_, o, ho, hall⟩ := mem_ready.1 hi
    rw [hj] at ho
    cases ho
    exact getD_set_true (hall e he hb)
  · rw [getD_set_ne false (Ne.symm hji)] at hl
    exact getD_set_true (h j oj hj hl e he hb)
/-- Does j wait for i, in at most d steps? -/
def reachR (md : Region.Mode) (ops : Array Oper) : Nat → Nat → Nat → Bool
  | 0, _, _ => false
  | d + 1, j, i => match ops[j]? with
    | some oj => oj.after.any fun e => Region.binds md e && (e.on == i || reachR md ops d e.on i)
    | none => false
theorem reachR_listed {listed : Array Bool} {i : Nat} (hC : ClR md ops listed) : ∀ {d j : Nat} {oj : Oper}, ops[j]? = some oj → (∀ e ∈ oj.after, Region.binds md e = true → listed.getD e.on false = true) → reachR md ops d j i = true → listed.getD i false = true
  | 0, _, _, _, _, h => by cases h
  | d + 1, j, oj, hj, hall, h => by
    unfold reachR at h
    rw [hj] at h
    obtain ⟨k, hk, hx⟩ := Array.any_eq_true.1 h
    have h1 := Bool.and_eq_true_iff.1 hx
    have hl := hall _ (Array.getElem_mem hk) h1.1
    rcases Bool.or_eq_true_iff.1 h1.2 with h2 | h2
    · rw [← eq_of_beq h2]
      exact hl
    · cases ho : ops[(oj.after[k]'hk).on]? with
      | none =>
        cases d with
        | zero => cases h2
        | succ d =>
          unfold reachR at h2
          rw [ho] at h2
          cases h2
      | some o => exact reachR_listed hC ho (hC _ _ ho hl) h2
def wpAnyM (P : Program) (md : Region.Mode) (ops : Array Oper) (Q : Exit → Act → World → Prop) (S : World → Prop) (late : Nat → Bool) : Nat → Array Bool → Act → World → Prop
  | 0, listed, a, w => Region.ready md ops listed = [] ∧ Q .normal a w
  | fuel + 1, listed, a, w => (Region.ready md ops listed = [] → Q .normal a w) ∧
    (ClR md ops listed → ∀ i ∈ Region.ready md ops listed, wpOp P ops Q i (fun a' w' => (late i = false → S w') ∧ wpAnyM P md ops Q S late fuel (listed.setIfInBounds i true) a' w') a w)
theorem wpAny_of_M : ∀ (fuel : Nat) (listed : Array Bool) (a : Act) (w : World), ClR md ops listed → wpAnyM P md ops Q S late fuel listed a w → wpAny P md ops Q fuel listed a w
  | 0, _, _, _, _, h => h
  | fuel + 1, _, _, _, hC, h => ⟨h.1, fun i hi => wpOp_mono (fun a' w' h' => wpAny_of_M fuel _ a' w' (hC.step hi) h'.2) (h.2 hC i hi)⟩
theorem unlisted {listed : Array Bool} {i : Nat} (h0 : listed.getD i true = false) (h1 : listed.getD i false = true) : False := by
  rcases Nat.lt_or_ge i listed.size with h' | h'
  · simp [h'] at h0 h1
    rw [h0] at h1
    cases h1
  · simp [Array.getElem?_eq_none h'] at h1
theorem wpAnyM_first {i d : Nat} {oi : Oper} {v : Value} (hi : ops[i]? = some oi) (hsel : ∀ (j : Nat) (o : Oper) cs b, ops[j]? = some o → o.op ≠ .select cs b)
    (hQ : ∀ c a w, Q (.panic c) (a.put oi.dst v) w → Q (.panic c) a w) (hw : ∀ j, j < ops.size → late j = true → reachR md ops d j i = true) :
    ∀ (fuel : Nat) (listed : Array Bool) (a : Act) (w : World),
      (∀ j oj, ops[j]? = some oj → j ≠ i → listed.getD j true = false → (∀ e ∈ oj.after, Region.binds md e = true → e.on ≠ i) → oi.apart ops oj = true) →
      i ∈ Region.ready md ops listed → YieldsIf P ops S oi v a → S w →
      wpAnyM P md ops Q S late fuel (listed.setIfInBounds i true) (a.put oi.dst v) w → wpAnyM P md ops Q S late (fuel + 1) listed a w := by
  intro fuel
  induction fuel with
  | zero =>
    intro listed a w _ hr hy hS H
    refine ⟨fun h => (by rw [h] at hr; cases hr), fun hC j hj => ?_⟩
    by_cases hji : j = i
    · subst hji; exact hy.wpOp hi hS ⟨fun _ => hS, H⟩
    · have := ready_mono hj hji
      rw [H.1] at this
      cases this
  | succ fuel ih =>
    intro listed a w hfree hr hy hS H
    refine ⟨fun h => (by rw [h] at hr; cases hr), fun hC j hj => ?_⟩
    by_cases hji : j = i
    · subst hji; exact hy.wpOp hi hS ⟨fun _ => hS, H⟩
    · have h1 := H.2 (hC.step hr) j (ready_mono hj hji)
      obtain ⟨hjun, oj, hoj, hall⟩ := mem_ready.1 hj
      have hiu := (mem_ready.1 hr).1
      have hnot : ∀ e ∈ oj.after, Region.binds md e = true → e.on ≠ i := fun e he hb heq => by
        have h1 := hall e he hb
        rw [heq] at h1
        exact unlisted hiu h1
      have hjl : late j = false := by
        cases hl : late j with
        | false => rfl
        | true => exact (unlisted hiu (reachR_listed hC hoj hall (hw j (Array.getElem?_eq_some_iff.1 hoj).1 hl))).elim
      have h2 := wpOp_putIf hoj (hfree j oj hoj hji hjun hnot) (fun cs b => hsel i oi cs b hi) (fun cs b => hsel j oj cs b hoj) hQ hy h1
      have hfree' : ∀ k ok, ops[k]? = some ok → k ≠ i → (listed.setIfInBounds j true).getD k true = false →
          (∀ e ∈ ok.after, Region.binds md e = true → e.on ≠ i) → oi.apart ops ok = true := fun k ok hk hki hun hno => by
        refine hfree k ok hk hki ?_ hno
        by_cases hjk : j = k
        · subst hjk; exact hjun
        · rw [getD_set_ne true hjk] at hun; exact hun
      refine wpOp_mono (fun a' w' h3 => ⟨fun _ => h3.2.1 hjl, ih (listed.setIfInBounds j true) a' w' hfree' (ready_mono hr (Ne.symm hji)) h3.1 (h3.2.1 hjl) ?_⟩) h2
      rw [Array.setIfInBounds_comm _ _ hji]
      exact h3.2.2
def lateR (md : Region.Mode) (ops : Array Oper) (late : Nat → Bool) (i : Nat) : Bool := (List.range ops.size).all fun j => !late j || reachR md ops 6 j i
theorem wpAnyM_take {i : Nat} {oi : Oper} {v : Value} {fuel : Nat} {listed : Array Bool} {a : Act} {w : World} (hi : ops[i]? = some oi)
    (hs : Region.noSelect ops = true) (hf : Region.free md ops listed i = true) (hr : (Region.ready md ops listed).contains i = true) (hl : lateR md ops late i = true)
    (hQ : ∀ c a w, Q (.panic c) (a.put oi.dst v) w → Q (.panic c) a w) (hw : Region.wanted oi (yielded ops a.tmps) = true) (hy : ∀ w, S w → (execOp a.eval oi).run P w = .ok (.value v) w) (hS : S w)
    (h : wpAnyM P md ops Q S late fuel (listed.setIfInBounds i true) (a.put oi.dst v) w) : wpAnyM P md ops Q S late (fuel + 1) listed a w :=
  wpAnyM_first (d := 6) hi (Region.noSelect_spec hs) hQ (fun j hj hlj => by
    have h1 := List.all_eq_true.1 hl j (List.mem_range.2 hj)
    rw [hlj] at h1
    simpa using h1) fuel listed a w (Region.free_spec hi hf) (by simpa using hr) (.inl ⟨hw, hy⟩) hS h
theorem wpAnyM_step {i : Nat} {o : Oper} {fuel : Nat} {listed : Array Bool} {a : Act} {w : World} (ho : ops[i]? = some o) (hr : Region.ready md ops listed = [i])
    (h : ∀ K' : Act → World → Prop, Shut (∀ a w, (late i = false → S w) → wpAnyM P md ops Q S late fuel (listed.setIfInBounds i true) a w → K' a w) → if Region.wanted o (yielded ops a.tmps) = true then Oper.wp P o a w K' Q else K' (a.put o.dst undef) w) : wpAnyM P md ops Q S late (fuel + 1) listed a w := by
  refine ⟨fun h0 => (by rw [hr] at h0; cases h0), fun _ j hj => ?_⟩
  rw [hr] at hj
  obtain rfl : j = i := by simpa using hj
  exact wpOp_step ho (fun K' hK => h K' (fun a w hS hW => hK a w ⟨hS, hW⟩))
theorem wpAnyM_done {listed : Array Bool} {a : Act} {w : World} (hr : Region.ready md ops listed = []) (h : Q .normal a w) : wpAnyM P md ops Q S late 0 listed a w := ⟨hr, h⟩
theorem wp_region_M {id : Nat} {a : Act} {w : World} (late : Nat → Bool) (n : Nat) (S : World → Prop) (hn : ops.size = n) (hm : P.follows .mixedOrders = true)
    (h : wpAnyM P .any ops Q S late n (Array.replicate n false) a w.drew) : (Code.region id ops true).wp P Q a w := by
  subst hn
  exact wp_region_any hm (wpAny_of_M _ _ _ _ (ClR.start _) h)
end
end

section
open Go.RowKit

theorem tri_diff {x y : TriD} (h : ¬ x = y) : (x.a == y.a) = false ∨ ((x.a == y.a) = true ∧ (x.b == y.b) = false) ∨ ((x.a == y.a) = true ∧ (x.b == y.b) = true ∧ (x.c == y.c) = false) ∨
    ((x.a == y.a) = true ∧ (x.b == y.b) = true ∧ (x.c == y.c) = true ∧ (x.region == y.region) = false) ∨ ((x.a == y.a) = true ∧ (x.b == y.b) = true ∧ (x.c == y.c) = true ∧ (x.region == y.region) = true ∧ (x.level == y.level) = false) := by
  cases x; cases y
  simp only [TriD.mk.injEq, not_and] at h
  simp only [beq_iff_eq, beq_eq_false_iff_ne]
  grind

set_option maxHeartbeats 4000000 in
theorem EqualTri_any (w : World) {A B : Option Addr} {n m c d : Nat} {l l' : List TriD} (ha : RdTS w A n c l) (hb : RdTS w B m d l') :
    Calls Tryz.prog 110 #[.slice A n c, .slice B m d] w fun e w' => e = .returned (.bool (Same l l')) ∧ Bl w w' := by
  have hna := ha.small
  have hnb := hb.small
  by_cases hnm : n = m
  · subst hnm
    have hl := Lib.hid ha.len
    have hl' := Lib.hid hb.len
    go_enter Tryz.func110, Tryz.ntmps110
    go_wp2
    go_loopw [13] (fun i wr => ∃ k : Nat, k ≤ n ∧ i = .int .i64 (k : Int) ∧ Agree l l' k ∧ Bl w wr) (fun i _ => n - (intOf i).toNat)
    case atStart => exact ⟨0, Nat.zero_le _, rfl, Agree.zero _ _, Bl.refl _⟩
    case round =>
      obtain ⟨k, hk, rfl, hag, hbw⟩ := hrel
      by_cases hkn : k < n
      · obtain ⟨ad, rfl, hlta, hca⟩ := (ha.bl hbw).cells k hkn
        obtain ⟨bd, rfl, hltb, hcb⟩ := (hb.bl hbw).cells k hkn
        obtain ⟨g0, g1, g2, g3, g4⟩ := hca
        obtain ⟨p0, p1, p2, p3, p4⟩ := hcb
        have hki : (k : Int) < (n : Int) := by omega
        by_cases heq : pix l k = pix l' k
        · rw [← heq] at p0 p1 p2 p3 p4
          have heq' := Lib.hid heq
          clear heq
          go_wp2_with fail
          go_quiet (fail)
          go_wp2
          go_roundw
          case rel => exact ⟨k + 1, by omega, by go_num, hag.step heq'.out, slc⟩
          case measure => simp [intOf]; omega
        · have hs := Lib.hid (same_no (a := l) (b := l') (fun e => heq (by rw [e])))
          rcases tri_diff heq with f1 | ⟨f1, f2⟩ | ⟨f1, f2, f3⟩ | ⟨f1, f2, f3, f4⟩ | ⟨f1, f2, f3, f4, f5⟩
          all_goals
            clear heq
            go_wp2_with fail
            go_quiet (fail)
            go_wp2
            go_ret
            exact ⟨ret_bool hs.out.symm, slc⟩
      · have hs := Lib.hid (same_yes ((by obtain rfl : k = n := by omega
                                          exact hag.all hl.out hl'.out) : l = l'))
        go_wp2_with fail
        go_ret
        exact ⟨ret_bool hs.out.symm, hbw⟩
  · have hs := Lib.hid (same_no (a := l) (b := l') (fun e => hnm (by rw [← ha.len, ← hb.len, e])))
    have hne : ((n : Int) != (m : Int)) = true := by simp; omega
    go_enter Tryz.func110, Tryz.ntmps110
    go_wp2
    go_ret
    exact ⟨ret_bool hs.out.symm, Bl.refl _⟩

/-- The two meshes agree in all fields. -/
def sameM (a b : MeD) : Bool := Same a.points b.points && Same a.tris b.tris
theorem sameM_tris {a b : MeD} (h : Same a.points b.points = true) : sameM a b = Same a.tris b.tris := by unfold sameM; rw [h]; rfl
theorem sameM_points {a b : MeD} (h : Same a.points b.points = false) : sameM a b = false := by unfold sameM; rw [h]; rfl

set_option maxHeartbeats 4000000 in
theorem SameMesh_any (w : World) {A B A' B' : Option Addr} {n m c d n' m' c' d' : Nat} {x y : MeD} (h : RdPS w A n c x.points) (k : RdTS w B m d x.tris) (h' : RdPS w A' n' c' y.points) (k' : RdTS w B' m' d' y.tris) :
    Calls Tryz.prog 40 #[.agg #[.slice A n c, .slice B m d], .agg #[.slice A' n' c', .slice B' m' d']] w fun e w' => e = .returned (.bool (sameM x y)) ∧ Bl w w' := by
  by_cases e0 : Same x.points y.points = true
  · have hs := Lib.hid (sameM_tris e0)
    go_enter Tryz.func40, Tryz.ntmps40
    go_wp2_with fail
    refine (EqualFunc_any _ (h.bl slc) (h'.bl slc)).mono ?_
    rintro e w1 ⟨rfl, hb⟩
    obtain ⟨hc, hf⟩ := bcell hb
    have hb1 : Bl w w1 := slc
    go_wp2_with fail
    refine (EqualTri_any _ (k.bl hb1) (k'.bl hb1)).mono ?_
    rintro e w2 ⟨rfl, hb2⟩
    go_wp2_with fail
    go_ret
    exact ⟨ret_bool hs.out.symm, slc⟩
  · have e0 : Same x.points y.points = false := by simpa using e0
    have hs := Lib.hid (sameM_points e0)
    go_enter Tryz.func40, Tryz.ntmps40
    go_wp2_with fail
    refine (EqualFunc_any _ (h.bl slc) (h'.bl slc)).mono ?_
    rintro e w1 ⟨rfl, hb⟩
    have hb1 : Bl w w1 := slc
    go_wp2_with fail
    go_ret
    exact ⟨ret_bool hs.out.symm, slc⟩
end

section
open Go.RowKit
end

section
open Go.RowKit
end

section
open Go.RowKit

/-- None of the points is q. -/
def NoP (q : PtD) (l : List PtD) (k : Nat) : Prop := ∀ j, j < k → pix l j ≠ q
theorem NoP.step {q : PtD} {l : List PtD} {k : Nat} (h : NoP q l k) (h0 : pix l k ≠ q) : NoP q l (k + 1) := by
  intro j hj
  rcases Nat.lt_succ_iff_lt_or_eq.1 hj with hj | rfl
  · exact h j hj
  · exact h0
end

section
open Go.RowKit Go.ChangeShapes
open Go.Deep (open_slice open_slice1 choose_lt)
theorem cells_u8 : Tryz.prog.cellsOf 5 = 1 := by kernel_rfl
theorem open_by {H : Type} {enc : TypeId × Value → H} {w : World} {fuel : Nat} {cs : List Value} {x : DataW H × List MemPlace} {spare : Nat → Bool} {base : Nat} {held : Bool} (h : DataW.trod enc Tryz.prog w base spare held fuel 22 cs = some x) : ∃ A n c l, cs = [.slice A n c] ∧ RdB w A n c l := by
  rcases open_slice1 Tryz.underlying22 cells_u8 h with ⟨rfl, _⟩ | ⟨a, len, cap, m, k, V, D, Pl, rfl, hb, hl, hm, hmm, _, hx⟩
  · exact ⟨none, 0, 0, [], rfl, RdS.nil w _ _⟩
  · have hm' : cap ≤ 9223372036854775807 := by simpa [maxLen] using hm
    have hlm : len ≤ m := by rw [hmm]; split <;> omega
    refine ⟨some a, len, cap, (List.range len).map fun i => intOf (V i), rfl, by simp, hl, by omega, fun i hi => ?_⟩
    obtain ⟨hc, ht⟩ := hx i (by omega)
    obtain ⟨z, e, _, hwf⟩ := DataW.trod_int Tryz.underlying5 ht
    injection e with e
    have hlt : a.block < w.heap.size := by
      have := World.block_lt_of_cell? w _ hc
      rwa [block_add] at this
    have hz : 0 ≤ z ∧ z ≤ 255 := by
      have h1 : IntKind.u8.min = 0 := by decide
      have h2 : IntKind.u8.max = 255 := by decide
      simp only [Lit.wf, h1, h2, Bool.and_eq_true, decide_eq_true_eq] at hwf
      exact hwf
    refine ⟨a, rfl, hlt, ?_⟩
    have hpx : pix ((List.range len).map fun i => intOf (V i)) i = z := by simp [pix, hi, e, intOf]
    rw [hpx, Nat.mul_one]
    exact ⟨by rw [hc, e], hz⟩
end

end Go.Proofs.YtajlahjghapbkaaGreat
