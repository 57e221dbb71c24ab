import Derived.Test.YtebfacejgphmhaaRows
import Derived.Test.YtebfacejgphmhaaRs4
namespace Go.Proofs.Ytebfacejgphmhaa
open Go.RowKit

def szPr (x : PrD) : Nat := szM x.mesh + szL szR x.diff + szL szR x.src

set_option maxHeartbeats 1000000 in
theorem szProblem_any (w : World) {A B C D : Option Addr} {n c m d i e j f : Nat} {x : PrD} (h : RdPS w A n c x.mesh.points) (k : RdTS w B m d x.mesh.tris) (u : RdRS w C i e x.diff) (v : RdRS w D j f x.src) {left : Int} (h0 : 0 ≤ left) (h1 : left ≤ 1099511627776) :
    Calls Try.prog 18 #[.agg #[.slice A n c, .slice B m d, .slice C i e, .slice D j f], .int .i64 left] w fun e w' => e = .returned (.int .i64 (lft left (szPr x))) ∧ Bl w w' := by
  by_cases c0 : ((szM x.mesh : Nat) : Int) ≤ left
  · have e0 : lft (left) (szM x.mesh) = left - ((szM x.mesh : Nat) : Int) := lft_yes c0
    by_cases c1 : ((szL szR x.diff : Nat) : Int) ≤ left - ((szM x.mesh : Nat) : Int)
    · have e1 : lft (left - ((szM x.mesh : Nat) : Int)) (szL szR x.diff) = left - ((szM x.mesh : Nat) : Int) - ((szL szR x.diff : Nat) : Int) := lft_yes c1
      by_cases c2 : ((szL szR x.src : Nat) : Int) ≤ left - ((szM x.mesh : Nat) : Int) - ((szL szR x.diff : Nat) : Int)
      · have e2 : lft (left - ((szM x.mesh : Nat) : Int) - ((szL szR x.diff : Nat) : Int)) (szL szR x.src) = left - ((szM x.mesh : Nat) : Int) - ((szL szR x.diff : Nat) : Int) - ((szL szR x.src : Nat) : Int) := lft_yes c2
        have hs : Hid (lft left (szPr x) = left - ((szM x.mesh : Nat) : Int) - ((szL szR x.diff : Nat) : Int) - ((szL szR x.src : Nat) : Int)) := by show _ = _; unfold szPr; unfold lft; split <;> omega
        go_enter Try.func18, Try.ntmps18
        go_wp2_with fail
        refine (szMesh_any (x := x.mesh) _ (h.bl (by repeat (first | with_reducible assumption | with_reducible exact Bl.refl _ | (with_reducible refine Bl.set ?_ (by simp <;> omega) _) | (with_reducible refine Bl.drewN ?_ _) | (with_reducible refine Bl.drew ?_) | (with_reducible refine Bl.alloc ?_ _) | (with_reducible refine Bl.next ?_ ‹_›)))) (k.bl (by repeat (first | with_reducible assumption | with_reducible exact Bl.refl _ | (with_reducible refine Bl.set ?_ (by simp <;> omega) _) | (with_reducible refine Bl.drewN ?_ _) | (with_reducible refine Bl.drew ?_) | (with_reducible refine Bl.alloc ?_ _) | (with_reducible refine Bl.next ?_ ‹_›)))) (by omega) (by omega)).mono ?_
        rintro e w1 ⟨rfl, hb⟩
        rw [e0]
        have hb1 : Bl w w1 := (by repeat (first | with_reducible assumption | with_reducible exact Bl.refl _ | (with_reducible refine Bl.set ?_ (by simp <;> omega) _) | (with_reducible refine Bl.drewN ?_ _) | (with_reducible refine Bl.drew ?_) | (with_reducible refine Bl.alloc ?_ _) | (with_reducible refine Bl.next ?_ ‹_›)))
        obtain ⟨hc, hf⟩ := bcell hb
        have hz1 := hb.size
        simp only [World.size_alloc] at hz1
        have hz1_0 : w.heap.size < w1.heap.size := by omega
        clear hb
        go_wp2_with fail
        refine (szRatS_any _ (u.bl hb1) (by omega) (by omega)).mono ?_
        rintro e w2 ⟨rfl, hb⟩
        rw [e1]
        have hb2 : Bl w w2 := (by repeat (first | with_reducible assumption | with_reducible exact Bl.refl _ | (with_reducible refine Bl.set ?_ (by simp <;> omega) _) | (with_reducible refine Bl.drewN ?_ _) | (with_reducible refine Bl.drew ?_) | (with_reducible refine Bl.alloc ?_ _) | (with_reducible refine Bl.next ?_ ‹_›)))
        obtain ⟨hc, hf⟩ := bcell hb
        have hz2 := hb.size
        have hz2_0 : w.heap.size < w2.heap.size := by omega
        clear hb
        go_wp2_with fail
        refine (szRatS_any _ (v.bl hb2) (by omega) (by omega)).mono ?_
        rintro e w3 ⟨rfl, hb⟩
        rw [e2]
        have hb3 : Bl w w3 := (by repeat (first | with_reducible assumption | with_reducible exact Bl.refl _ | (with_reducible refine Bl.set ?_ (by simp <;> omega) _) | (with_reducible refine Bl.drewN ?_ _) | (with_reducible refine Bl.drew ?_) | (with_reducible refine Bl.alloc ?_ _) | (with_reducible refine Bl.next ?_ ‹_›)))
        obtain ⟨hc, hf⟩ := bcell hb
        have hz3 := hb.size
        have hz3_0 : w.heap.size < w3.heap.size := by omega
        clear hb
        go_wp2_with fail
        go_ret
        exact ⟨ret_int hs.out.symm, hb3⟩
      · have e2 : lft (left - ((szM x.mesh : Nat) : Int) - ((szL szR x.diff : Nat) : Int)) (szL szR x.src) = -1 := lft_no c2
        have hs : Hid (lft left (szPr x) = -1) := by show _ = _; unfold szPr; unfold lft; split <;> omega
        go_enter Try.func18, Try.ntmps18
        go_wp2_with fail
        refine (szMesh_any (x := x.mesh) _ (h.bl (by repeat (first | with_reducible assumption | with_reducible exact Bl.refl _ | (with_reducible refine Bl.set ?_ (by simp <;> omega) _) | (with_reducible refine Bl.drewN ?_ _) | (with_reducible refine Bl.drew ?_) | (with_reducible refine Bl.alloc ?_ _) | (with_reducible refine Bl.next ?_ ‹_›)))) (k.bl (by repeat (first | with_reducible assumption | with_reducible exact Bl.refl _ | (with_reducible refine Bl.set ?_ (by simp <;> omega) _) | (with_reducible refine Bl.drewN ?_ _) | (with_reducible refine Bl.drew ?_) | (with_reducible refine Bl.alloc ?_ _) | (with_reducible refine Bl.next ?_ ‹_›)))) (by omega) (by omega)).mono ?_
        rintro e w1 ⟨rfl, hb⟩
        rw [e0]
        have hb1 : Bl w w1 := (by repeat (first | with_reducible assumption | with_reducible exact Bl.refl _ | (with_reducible refine Bl.set ?_ (by simp <;> omega) _) | (with_reducible refine Bl.drewN ?_ _) | (with_reducible refine Bl.drew ?_) | (with_reducible refine Bl.alloc ?_ _) | (with_reducible refine Bl.next ?_ ‹_›)))
        obtain ⟨hc, hf⟩ := bcell hb
        have hz1 := hb.size
        simp only [World.size_alloc] at hz1
        have hz1_0 : w.heap.size < w1.heap.size := by omega
        clear hb
        go_wp2_with fail
        refine (szRatS_any _ (u.bl hb1) (by omega) (by omega)).mono ?_
        rintro e w2 ⟨rfl, hb⟩
        rw [e1]
        have hb2 : Bl w w2 := (by repeat (first | with_reducible assumption | with_reducible exact Bl.refl _ | (with_reducible refine Bl.set ?_ (by simp <;> omega) _) | (with_reducible refine Bl.drewN ?_ _) | (with_reducible refine Bl.drew ?_) | (with_reducible refine Bl.alloc ?_ _) | (with_reducible refine Bl.next ?_ ‹_›)))
        obtain ⟨hc, hf⟩ := bcell hb
        have hz2 := hb.size
        have hz2_0 : w.heap.size < w2.heap.size := by omega
        clear hb
        go_wp2_with fail
        refine (szRatS_any _ (v.bl hb2) (by omega) (by omega)).mono ?_
        rintro e w3 ⟨rfl, hb⟩
        rw [e2]
        have hb3 : Bl w w3 := (by repeat (first | with_reducible assumption | with_reducible exact Bl.refl _ | (with_reducible refine Bl.set ?_ (by simp <;> omega) _) | (with_reducible refine Bl.drewN ?_ _) | (with_reducible refine Bl.drew ?_) | (with_reducible refine Bl.alloc ?_ _) | (with_reducible refine Bl.next ?_ ‹_›)))
        obtain ⟨hc, hf⟩ := bcell hb
        have hz3 := hb.size
        have hz3_0 : w.heap.size < w3.heap.size := by omega
        clear hb
        go_wp2_with fail
        go_ret
        exact ⟨ret_int hs.out.symm, hb3⟩
    · have e1 : lft (left - ((szM x.mesh : Nat) : Int)) (szL szR x.diff) = -1 := lft_no c1
      have hs : Hid (lft left (szPr x) = -1) := by show _ = _; unfold szPr; unfold lft; split <;> omega
      go_enter Try.func18, Try.ntmps18
      go_wp2_with fail
      refine (szMesh_any (x := x.mesh) _ (h.bl (by repeat (first | with_reducible assumption | with_reducible exact Bl.refl _ | (with_reducible refine Bl.set ?_ (by simp <;> omega) _) | (with_reducible refine Bl.drewN ?_ _) | (with_reducible refine Bl.drew ?_) | (with_reducible refine Bl.alloc ?_ _) | (with_reducible refine Bl.next ?_ ‹_›)))) (k.bl (by repeat (first | with_reducible assumption | with_reducible exact Bl.refl _ | (with_reducible refine Bl.set ?_ (by simp <;> omega) _) | (with_reducible refine Bl.drewN ?_ _) | (with_reducible refine Bl.drew ?_) | (with_reducible refine Bl.alloc ?_ _) | (with_reducible refine Bl.next ?_ ‹_›)))) (by omega) (by omega)).mono ?_
      rintro e w1 ⟨rfl, hb⟩
      rw [e0]
      have hb1 : Bl w w1 := (by repeat (first | with_reducible assumption | with_reducible exact Bl.refl _ | (with_reducible refine Bl.set ?_ (by simp <;> omega) _) | (with_reducible refine Bl.drewN ?_ _) | (with_reducible refine Bl.drew ?_) | (with_reducible refine Bl.alloc ?_ _) | (with_reducible refine Bl.next ?_ ‹_›)))
      obtain ⟨hc, hf⟩ := bcell hb
      have hz1 := hb.size
      simp only [World.size_alloc] at hz1
      have hz1_0 : w.heap.size < w1.heap.size := by omega
      clear hb
      go_wp2_with fail
      refine (szRatS_any _ (u.bl hb1) (by omega) (by omega)).mono ?_
      rintro e w2 ⟨rfl, hb⟩
      rw [e1]
      have hb2 : Bl w w2 := (by repeat (first | with_reducible assumption | with_reducible exact Bl.refl _ | (with_reducible refine Bl.set ?_ (by simp <;> omega) _) | (with_reducible refine Bl.drewN ?_ _) | (with_reducible refine Bl.drew ?_) | (with_reducible refine Bl.alloc ?_ _) | (with_reducible refine Bl.next ?_ ‹_›)))
      obtain ⟨hc, hf⟩ := bcell hb
      have hz2 := hb.size
      have hz2_0 : w.heap.size < w2.heap.size := by omega
      clear hb
      go_wp2_with fail
      go_ret
      exact ⟨ret_int hs.out.symm, hb2⟩
  · have e0 : lft (left) (szM x.mesh) = -1 := lft_no c0
    have hs : Hid (lft left (szPr x) = -1) := by show _ = _; unfold szPr; unfold lft; split <;> omega
    go_enter Try.func18, Try.ntmps18
    go_wp2_with fail
    refine (szMesh_any (x := x.mesh) _ (h.bl (by repeat (first | with_reducible assumption | with_reducible exact Bl.refl _ | (with_reducible refine Bl.set ?_ (by simp <;> omega) _) | (with_reducible refine Bl.drewN ?_ _) | (with_reducible refine Bl.drew ?_) | (with_reducible refine Bl.alloc ?_ _) | (with_reducible refine Bl.next ?_ ‹_›)))) (k.bl (by repeat (first | with_reducible assumption | with_reducible exact Bl.refl _ | (with_reducible refine Bl.set ?_ (by simp <;> omega) _) | (with_reducible refine Bl.drewN ?_ _) | (with_reducible refine Bl.drew ?_) | (with_reducible refine Bl.alloc ?_ _) | (with_reducible refine Bl.next ?_ ‹_›)))) (by omega) (by omega)).mono ?_
    rintro e w1 ⟨rfl, hb⟩
    rw [e0]
    have hb1 : Bl w w1 := (by repeat (first | with_reducible assumption | with_reducible exact Bl.refl _ | (with_reducible refine Bl.set ?_ (by simp <;> omega) _) | (with_reducible refine Bl.drewN ?_ _) | (with_reducible refine Bl.drew ?_) | (with_reducible refine Bl.alloc ?_ _) | (with_reducible refine Bl.next ?_ ‹_›)))
    obtain ⟨hc, hf⟩ := bcell hb
    have hz1 := hb.size
    simp only [World.size_alloc] at hz1
    have hz1_0 : w.heap.size < w1.heap.size := by omega
    clear hb
    go_wp2_with fail
    go_ret
    exact ⟨ret_int hs.out.symm, hb1⟩

set_option maxHeartbeats 1000000 in
theorem eqProblem_any (w : World) {A B C D A' B' C' D' : Option Addr} {n c m d i e j f n' c' m' d' i' e' j' f' : Nat} {x : PrD} (h : RdPS w A n c x.mesh.points) (k : RdTS w B m d x.mesh.tris) (u : RdRS w C i e x.diff) (v : RdRS w D j f x.src) (h' : RdPS w A' n' c' x.mesh.points) (k' : RdTS w B' m' d' x.mesh.tris) (u' : RdRS w C' i' e' x.diff) (v' : RdRS w D' j' f' x.src) :
    Calls Try.prog 22 #[.agg #[.slice A n c, .slice B m d, .slice C i e, .slice D j f], .agg #[.slice A' n' c', .slice B' m' d', .slice C' i' e', .slice D' j' f']] w fun e w' => e = .returned (.bool true) ∧ Bl w w' := by
  obtain rfl := h.len.symm.trans h'.len
  obtain rfl := k.len.symm.trans k'.len
  obtain rfl := u.len.symm.trans u'.len
  obtain rfl := v.len.symm.trans v'.len
  go_enter Try.func22, Try.ntmps22
  go_wp2_with fail
  refine (eqMesh_any _ (x := x.mesh) (h.bl (by repeat (first | with_reducible assumption | with_reducible exact Bl.refl _ | (with_reducible refine Bl.set ?_ (by simp <;> omega) _) | (with_reducible refine Bl.drewN ?_ _) | (with_reducible refine Bl.drew ?_) | (with_reducible refine Bl.alloc ?_ _) | (with_reducible refine Bl.next ?_ ‹_›)))) (k.bl (by repeat (first | with_reducible assumption | with_reducible exact Bl.refl _ | (with_reducible refine Bl.set ?_ (by simp <;> omega) _) | (with_reducible refine Bl.drewN ?_ _) | (with_reducible refine Bl.drew ?_) | (with_reducible refine Bl.alloc ?_ _) | (with_reducible refine Bl.next ?_ ‹_›)))) (h'.bl (by repeat (first | with_reducible assumption | with_reducible exact Bl.refl _ | (with_reducible refine Bl.set ?_ (by simp <;> omega) _) | (with_reducible refine Bl.drewN ?_ _) | (with_reducible refine Bl.drew ?_) | (with_reducible refine Bl.alloc ?_ _) | (with_reducible refine Bl.next ?_ ‹_›)))) (k'.bl (by repeat (first | with_reducible assumption | with_reducible exact Bl.refl _ | (with_reducible refine Bl.set ?_ (by simp <;> omega) _) | (with_reducible refine Bl.drewN ?_ _) | (with_reducible refine Bl.drew ?_) | (with_reducible refine Bl.alloc ?_ _) | (with_reducible refine Bl.next ?_ ‹_›))))).mono ?_
  rintro e w1 ⟨rfl, hb⟩
  obtain ⟨hc, hf⟩ := bcell hb
  have hb1 : Bl w w1 := (by repeat (first | with_reducible assumption | with_reducible exact Bl.refl _ | (with_reducible refine Bl.set ?_ (by simp <;> omega) _) | (with_reducible refine Bl.drewN ?_ _) | (with_reducible refine Bl.drew ?_) | (with_reducible refine Bl.alloc ?_ _) | (with_reducible refine Bl.next ?_ ‹_›)))
  have hz := hb.size
  simp only [World.size_alloc] at hz
  have hz1_0 : w.heap.size < w1.heap.size := by omega
  have hz1_1 : w.heap.size + 1 < w1.heap.size := by omega
  clear hb
  go_wp2_with fail
  refine (eqRatS_any _ (u.bl hb1) (u'.bl hb1)).mono ?_
  rintro e w2 ⟨rfl, hb⟩
  obtain ⟨hc2, hf2⟩ := bcell hb
  have hb2 : Bl w w2 := (by repeat (first | with_reducible assumption | with_reducible exact Bl.refl _ | (with_reducible refine Bl.set ?_ (by simp <;> omega) _) | (with_reducible refine Bl.drewN ?_ _) | (with_reducible refine Bl.drew ?_) | (with_reducible refine Bl.alloc ?_ _) | (with_reducible refine Bl.next ?_ ‹_›)))
  clear hb
  go_wp2_with fail
  refine (eqRatS_any _ (v.bl hb2) (v'.bl hb2)).mono ?_
  rintro e w3 ⟨rfl, hb⟩
  have hb3 : Bl w w3 := (by repeat (first | with_reducible assumption | with_reducible exact Bl.refl _ | (with_reducible refine Bl.set ?_ (by simp <;> omega) _) | (with_reducible refine Bl.drewN ?_ _) | (with_reducible refine Bl.drew ?_) | (with_reducible refine Bl.alloc ?_ _) | (with_reducible refine Bl.next ?_ ‹_›)))
  clear hb
  go_wp2_with fail
  go_ret
  exact ⟨rfl, hb3⟩

/-- A problem in memory of its own from block b0 on. -/
structure OwPr (b0 : Nat) (w : World) (A : Option Addr) (n c : Nat) (B : Option Addr) (m d : Nat) (C : Option Addr) (i e : Nat) (D : Option Addr) (j f : Nat) (x : PrD) : Prop where
  mesh : OwM b0 w A n c B m d x.mesh
  diff : OwRS 3 57 b0 w C i e x.diff
  src : OwRS 3 57 b0 w D j f x.src
theorem OwM.rdP {b0 : Nat} {w : World} {A : Option Addr} {n c : Nat} {B : Option Addr} {m d : Nat} {x : MeD} (h : OwM b0 w A n c B m d x) : RdPS w A n c x.points := by
  obtain ⟨g, g', cs, cs', fs, rfl, rfl, h1, h2, h3, h4, h5, h6, h7, h8, h9, h10, h11, h12, h13, h14, h15⟩ := h
  exact h13.rd h9 h3 (by omega) h5
theorem OwM.rdT {b0 : Nat} {w : World} {A : Option Addr} {n c : Nat} {B : Option Addr} {m d : Nat} {x : MeD} (h : OwM b0 w A n c B m d x) : RdTS w B m d x.tris := by
  obtain ⟨g, g', cs, cs', fs, rfl, rfl, h1, h2, h3, h4, h5, h6, h7, h8, h9, h10, h11, h12, h13, h14, h15⟩ := h
  exact h14.rd h10 h4 (by omega) h6
theorem OwM.keep {b0 : Nat} {w W : World} {A : Option Addr} {n c : Nat} {B : Option Addr} {m d : Nat} {x : MeD} (h : OwM b0 w A n c B m d x) (hs : w.heap.size ≤ W.heap.size) (hk : ∀ b, b0 ≤ b → b < w.heap.size → W.heap[b]? = w.heap[b]?) : OwM b0 W A n c B m d x := by
  obtain ⟨g, g', cs, cs', fs, rfl, rfl, h1, h2, h3, h4, h5, h6, h7, h8, h9, h10, h11, h12, h13, h14, h15⟩ := h
  exact ⟨g, g', cs, cs', fs, rfl, rfl, h1, h2, h3, h4, h5, h6, h7, h8, (hk g h1 h9.lt).trans h9, (hk g' h2 h10.lt).trans h10, h11, h12,
    ⟨h13.1, fun i hi => (h13.2 i hi).keep (fun _ _ => rfl) hs fun b hm => by have := h15.2 b (mem_flatten_pix hm); exact hk b this.1 this.2⟩, h14, h15.mono (Nat.le_refl _) hs⟩
theorem OwM.bl {b0 : Nat} {w W : World} {A : Option Addr} {n c : Nat} {B : Option Addr} {m d : Nat} {x : MeD} (h : OwM b0 w A n c B m d x) (hb : Bl w W) : OwM b0 W A n c B m d x := h.keep hb.size fun b _ hlt => Below.block hb b hlt
theorem OwM.far {b0 : Nat} {w : World} {A : Option Addr} {n c : Nat} {B : Option Addr} {m d : Nat} {x : MeD} (h : OwM b0 w A n c B m d x) {p : Addr} (hp : p.block < b0) (u : Value) : OwM b0 (w.setCell p u) A n c B m d x :=
  h.keep (by simp) fun b h1 _ => Below.heap_setCell w p u b (by omega)
theorem OwM.low {b0 b1 : Nat} {w : World} {A : Option Addr} {n c : Nat} {B : Option Addr} {m d : Nat} {x : MeD} (h : OwM b1 w A n c B m d x) (hb : b0 ≤ b1) : OwM b0 w A n c B m d x := by
  obtain ⟨g, g', cs, cs', fs, rfl, rfl, h1, h2, h3, h4, h5, h6, h7, h8, h9, h10, h11, h12, h13, h14, h15⟩ := h
  exact ⟨g, g', cs, cs', fs, rfl, rfl, by omega, by omega, h3, h4, h5, h6, h7, h8, h9, h10, h11, h12, h13, h14, h15.mono hb (Nat.le_refl _)⟩
theorem OwRS.keep {TI TR : TypeId} {b0 : Nat} {w W : World} {A : Option Addr} {n c : Nat} {l : List RatD} (h : OwRS TI TR b0 w A n c l) (hs : w.heap.size ≤ W.heap.size) (hk : ∀ b, b0 ≤ b → b < w.heap.size → W.heap[b]? = w.heap[b]?) : OwRS TI TR b0 W A n c l := by
  obtain ⟨g, cs, fs, rfl, h1, h2, h3, h4, h5, h6, h7, h8⟩ := h
  exact ⟨g, cs, fs, rfl, h1, h2, h3, h4, (hk g h1 h5.lt).trans h5, h6, ⟨h7.1, fun i hi => (h7.2 i hi).keep (fun _ _ => rfl) hs fun b hm => by have := h8.2 b (mem_flatten_pix hm); exact hk b this.1 this.2⟩, h8.mono (Nat.le_refl _) hs⟩
theorem OwRS.far {TI TR : TypeId} {b0 : Nat} {w : World} {A : Option Addr} {n c : Nat} {l : List RatD} (h : OwRS TI TR b0 w A n c l) {p : Addr} (hp : p.block < b0) (u : Value) : OwRS TI TR b0 (w.setCell p u) A n c l :=
  h.keep (by simp) fun b h1 _ => Below.heap_setCell w p u b (by omega)
theorem OwRS.low {TI TR : TypeId} {b0 b1 : Nat} {w : World} {A : Option Addr} {n c : Nat} {l : List RatD} (h : OwRS TI TR b1 w A n c l) (hb : b0 ≤ b1) : OwRS TI TR b0 w A n c l := by
  obtain ⟨g, cs, fs, rfl, h1, h2, h3, h4, h5, h6, h7, h8⟩ := h
  exact ⟨g, cs, fs, rfl, by omega, h2, h3, h4, h5, h6, h7, h8.mono hb (Nat.le_refl _)⟩
theorem OwPr.bl {b0 : Nat} {w W : World} {A : Option Addr} {n c : Nat} {B : Option Addr} {m d : Nat} {C : Option Addr} {i e : Nat} {D : Option Addr} {j f : Nat} {x : PrD} (h : OwPr b0 w A n c B m d C i e D j f x) (hb : Bl w W) : OwPr b0 W A n c B m d C i e D j f x := ⟨h.mesh.bl hb, h.diff.bl hb, h.src.bl hb⟩

set_option maxHeartbeats 2000000 in
theorem toProblem_any (w : World) {A B C D : Option Addr} {n c m d i e j f : Nat} {x : PrD} (h : RdPS w A n c x.mesh.points) (k : RdTS w B m d x.mesh.tris) (u : RdRS w C i e x.diff) (v : RdRS w D j f x.src) (hn : szPr x ≤ 1048576) :
    Calls Try.prog 20 #[.agg #[.slice A n c, .slice B m d, .slice C i e, .slice D j f]] w fun en w' => ∃ A' B' C' D', en = .returned (.agg #[.slice A' n n, .slice B' m m, .slice C' i i, .slice D' j j]) ∧ OwPr w.heap.size w' A' n n B' m m C' i i D' j j x ∧ Bl w w' := by
  unfold szPr at hn
  go_enter Try.func20, Try.ntmps20
  go_wp2_with fail
  refine (toMesh_any _ (x := x.mesh) (h.bl (by repeat (first | with_reducible assumption | with_reducible exact Bl.refl _ | (with_reducible refine Bl.set ?_ (by simp <;> omega) _) | (with_reducible refine Bl.drewN ?_ _) | (with_reducible refine Bl.drew ?_) | (with_reducible refine Bl.alloc ?_ _) | (with_reducible refine Bl.next ?_ ‹_›)))) (k.bl (by repeat (first | with_reducible assumption | with_reducible exact Bl.refl _ | (with_reducible refine Bl.set ?_ (by simp <;> omega) _) | (with_reducible refine Bl.drewN ?_ _) | (with_reducible refine Bl.drew ?_) | (with_reducible refine Bl.alloc ?_ _) | (with_reducible refine Bl.next ?_ ‹_›)))) (by omega)).mono ?_
  rintro en w1 ⟨A', B', rfl, hO1, hb⟩
  obtain ⟨hc, hf⟩ := bcell hb
  have hb1 : Bl w w1 := (by repeat (first | with_reducible assumption | with_reducible exact Bl.refl _ | (with_reducible refine Bl.set ?_ (by simp <;> omega) _) | (with_reducible refine Bl.drewN ?_ _) | (with_reducible refine Bl.drew ?_) | (with_reducible refine Bl.alloc ?_ _) | (with_reducible refine Bl.next ?_ ‹_›)))
  have hz := hb.size
  simp only [World.size_alloc] at hz hO1
  have hz1_0 : w.heap.size < w1.heap.size := by omega
  have hz1_1 : w.heap.size + 1 < w1.heap.size := by omega
  have hz1_2 : w.heap.size + 1 + 1 < w1.heap.size := by omega
  clear hb
  go_wp2_with fail
  have hM1 : OwM (w.heap.size + 3) ((w1.setCell ⟨w.heap.size + 2, 0, none⟩ (.slice A' n n)).setCell ⟨w.heap.size + 2, 1, none⟩ (.slice B' m m)) A' n n B' m m x.mesh := (hO1.far (by simp) _).far (by simp) _
  have hbs1 : Bl w ((w1.setCell ⟨w.heap.size + 2, 0, none⟩ (.slice A' n n)).setCell ⟨w.heap.size + 2, 1, none⟩ (.slice B' m m)) := (by repeat (first | with_reducible assumption | with_reducible exact Bl.refl _ | (with_reducible refine Bl.set ?_ (by simp <;> omega) _) | (with_reducible refine Bl.drewN ?_ _) | (with_reducible refine Bl.drew ?_) | (with_reducible refine Bl.alloc ?_ _) | (with_reducible refine Bl.next ?_ ‹_›)))
  refine (toRatS_any _ (u.bl hbs1) (by omega)).mono ?_
  rintro en w2 ⟨C', rfl, hO2, hb⟩
  have hM2 := hM1.bl hb
  have hb2 : Bl w w2 := hbs1.next hb
  obtain ⟨hc2, hf2⟩ := bcell hb
  have hz2 := hb.size
  simp only [World.size_setCell] at hz2 hO2
  have hz2_0 : w.heap.size < w2.heap.size := by omega
  have hz2_1 : w.heap.size + 1 < w2.heap.size := by omega
  have hz2_2 : w.heap.size + 1 + 1 < w2.heap.size := by omega
  clear hb
  go_wp2_with fail
  have hM3 : OwM (w.heap.size + 3) (w2.setCell ⟨w.heap.size + 2, 2, none⟩ (.slice C' i i)) A' n n B' m m x.mesh := hM2.far (by simp) _
  have hD3 : OwRS 3 57 (w.heap.size + 3) (w2.setCell ⟨w.heap.size + 2, 2, none⟩ (.slice C' i i)) C' i i x.diff := (hO2.low (by omega)).far (by simp) _
  have hbs2 : Bl w (w2.setCell ⟨w.heap.size + 2, 2, none⟩ (.slice C' i i)) := (by repeat (first | with_reducible assumption | with_reducible exact Bl.refl _ | (with_reducible refine Bl.set ?_ (by simp <;> omega) _) | (with_reducible refine Bl.drewN ?_ _) | (with_reducible refine Bl.drew ?_) | (with_reducible refine Bl.alloc ?_ _) | (with_reducible refine Bl.next ?_ ‹_›)))
  refine (toRatS_any _ (v.bl hbs2) (by omega)).mono ?_
  rintro en w3 ⟨D', rfl, hO3, hb⟩
  have hM4 := hM3.bl hb
  have hD4 := hD3.bl hb
  have hb3 : Bl w w3 := hbs2.next hb
  obtain ⟨hc3, hf3⟩ := bcell hb
  have hz3 := hb.size
  simp only [World.size_setCell] at hz3 hO3
  have hz3_0 : w.heap.size < w3.heap.size := by omega
  have hz3_1 : w.heap.size + 1 < w3.heap.size := by omega
  have hz3_2 : w.heap.size + 1 + 1 < w3.heap.size := by omega
  clear hb
  go_wp2_with fail
  have hD5 := hO3.low (b0 := w.heap.size + 3) (by omega)
  refine bodyPost_ret (v := .agg #[.slice A' n n, .slice B' m m, .slice C' i i, .slice D' j j]) (by simp [results, Try.results20, go_sem, hc, hc2, hc3, hz1_1, hz2_1]) rfl ⟨_, _, _, _, rfl, ⟨?_, ?_, ?_⟩, (by repeat (first | with_reducible assumption | with_reducible exact Bl.refl _ | (with_reducible refine Bl.set ?_ (by simp <;> omega) _) | (with_reducible refine Bl.drewN ?_ _) | (with_reducible refine Bl.drew ?_) | (with_reducible refine Bl.alloc ?_ _) | (with_reducible refine Bl.next ?_ ‹_›)))⟩
  · exact (((((hM4.far (by simp) _).far (by simp) _).far (by simp) _).far (by simp) _).far (by simp) _).low (by omega)
  · exact (((((hD4.far (by simp) _).far (by simp) _).far (by simp) _).far (by simp) _).far (by simp) _).low (by omega)
  · exact (((((hD5.far (by simp) _).far (by simp) _).far (by simp) _).far (by simp) _).far (by simp) _).low (by omega)

end Go.Proofs.Ytebfacejgphmhaa
