import Derived.Test.YtebfacejgphmhaaRows
import Derived.Test.YtebfacejgphmhaaRs2
import Derived.Test.YtebfacejgphmhaaSm3
namespace Go.Proofs.Ytebfacejgphmhaa
open Go.RowKit

structure PrD where
  mesh : MeD
  diff : List RatD
  src : List RatD
  deriving DecidableEq
def sameP (a b : PrD) : Bool := sameM a.mesh b.mesh && Same a.diff b.diff && Same a.src b.src
theorem sameP_src {a b : PrD} (h : sameM a.mesh b.mesh = true) (h' : Same a.diff b.diff = true) : sameP a b = Same a.src b.src := by unfold sameP; rw [h, h']; rfl
theorem sameP_diff {a b : PrD} (h' : Same a.diff b.diff = false) : sameP a b = false := by unfold sameP; rw [h']; simp
theorem sameP_mesh {a b : PrD} (h : sameM a.mesh b.mesh = false) : sameP a b = false := by unfold sameP; rw [h]; rfl

set_option maxHeartbeats 1000000 in
theorem SameProblem_any (w : World) {A B C D A' B' C' D' : Option Addr} {n c m d i e j f n' c' m' d' i' e' j' f' : Nat} {x y : PrD} (h : RdPS w A n c x.mesh.points) (k : RdTS w B m d x.mesh.tris) (u : RdRS w C i e x.diff) (v : RdRS w D j f x.src) (h' : RdPS w A' n' c' y.mesh.points) (k' : RdTS w B' m' d' y.mesh.tris) (u' : RdRS w C' i' e' y.diff) (v' : RdRS w D' j' f' y.src) :
    Calls Try.prog 21 #[.agg #[.slice A n c, .slice B m d, .slice C i e, .slice D j f], .agg #[.slice A' n' c', .slice B' m' d', .slice C' i' e', .slice D' j' f']] w fun e w' => e = .returned (.bool (sameP x y)) ∧ Bl w w' := by
  by_cases e0 : sameM x.mesh y.mesh = true
  · by_cases e1 : Same x.diff y.diff = true
    · have hs := Lib.hid (sameP_src e0 e1)
      go_enter Try.func21, Try.ntmps21
      go_wp2_with fail
      refine (SameMesh_any _ (x := x.mesh) (y := y.mesh) (h.bl (by repeat (first | with_reducible assumption | with_reducible exact Bl.refl _ | (with_reducible refine Bl.set ?_ (by simp <;> omega) _) | (with_reducible refine Bl.drewN ?_ _) | (with_reducible refine Bl.drew ?_) | (with_reducible refine Bl.alloc ?_ _) | (with_reducible refine Bl.next ?_ ‹_›)))) (k.bl (by repeat (first | with_reducible assumption | with_reducible exact Bl.refl _ | (with_reducible refine Bl.set ?_ (by simp <;> omega) _) | (with_reducible refine Bl.drewN ?_ _) | (with_reducible refine Bl.drew ?_) | (with_reducible refine Bl.alloc ?_ _) | (with_reducible refine Bl.next ?_ ‹_›)))) (h'.bl (by repeat (first | with_reducible assumption | with_reducible exact Bl.refl _ | (with_reducible refine Bl.set ?_ (by simp <;> omega) _) | (with_reducible refine Bl.drewN ?_ _) | (with_reducible refine Bl.drew ?_) | (with_reducible refine Bl.alloc ?_ _) | (with_reducible refine Bl.next ?_ ‹_›)))) (k'.bl (by repeat (first | with_reducible assumption | with_reducible exact Bl.refl _ | (with_reducible refine Bl.set ?_ (by simp <;> omega) _) | (with_reducible refine Bl.drewN ?_ _) | (with_reducible refine Bl.drew ?_) | (with_reducible refine Bl.alloc ?_ _) | (with_reducible refine Bl.next ?_ ‹_›))))).mono ?_
      rintro e w1 ⟨rfl, hb⟩
      rw [e0]
      obtain ⟨hc, hf⟩ := bcell hb
      have hb1 : Bl w w1 := (by repeat (first | with_reducible assumption | with_reducible exact Bl.refl _ | (with_reducible refine Bl.set ?_ (by simp <;> omega) _) | (with_reducible refine Bl.drewN ?_ _) | (with_reducible refine Bl.drew ?_) | (with_reducible refine Bl.alloc ?_ _) | (with_reducible refine Bl.next ?_ ‹_›)))
      have hz := hb.size
      simp only [World.size_alloc] at hz
      have hz1_0 : w.heap.size < w1.heap.size := by omega
      have hz1_1 : w.heap.size + 1 < w1.heap.size := by omega
      clear hb
      go_wp2_with fail
      refine (sameVector_any _ (u.bl hb1) (u'.bl hb1)).mono ?_
      rintro e w2 ⟨rfl, hb⟩
      rw [e1]
      obtain ⟨hc2, hf2⟩ := bcell hb
      have hb2 : Bl w w2 := (by repeat (first | with_reducible assumption | with_reducible exact Bl.refl _ | (with_reducible refine Bl.set ?_ (by simp <;> omega) _) | (with_reducible refine Bl.drewN ?_ _) | (with_reducible refine Bl.drew ?_) | (with_reducible refine Bl.alloc ?_ _) | (with_reducible refine Bl.next ?_ ‹_›)))
      clear hb
      go_wp2_with fail
      refine (sameVector_any _ (v.bl hb2) (v'.bl hb2)).mono ?_
      rintro e w3 ⟨rfl, hb⟩
      have hb3 : Bl w w3 := (by repeat (first | with_reducible assumption | with_reducible exact Bl.refl _ | (with_reducible refine Bl.set ?_ (by simp <;> omega) _) | (with_reducible refine Bl.drewN ?_ _) | (with_reducible refine Bl.drew ?_) | (with_reducible refine Bl.alloc ?_ _) | (with_reducible refine Bl.next ?_ ‹_›)))
      clear hb
      go_wp2_with fail
      go_ret
      exact ⟨ret_bool hs.out.symm, hb3⟩
    · have e1 : Same x.diff y.diff = false := by simpa using e1
      have hs := Lib.hid (sameP_diff e1)
      go_enter Try.func21, Try.ntmps21
      go_wp2_with fail
      refine (SameMesh_any _ (x := x.mesh) (y := y.mesh) (h.bl (by repeat (first | with_reducible assumption | with_reducible exact Bl.refl _ | (with_reducible refine Bl.set ?_ (by simp <;> omega) _) | (with_reducible refine Bl.drewN ?_ _) | (with_reducible refine Bl.drew ?_) | (with_reducible refine Bl.alloc ?_ _) | (with_reducible refine Bl.next ?_ ‹_›)))) (k.bl (by repeat (first | with_reducible assumption | with_reducible exact Bl.refl _ | (with_reducible refine Bl.set ?_ (by simp <;> omega) _) | (with_reducible refine Bl.drewN ?_ _) | (with_reducible refine Bl.drew ?_) | (with_reducible refine Bl.alloc ?_ _) | (with_reducible refine Bl.next ?_ ‹_›)))) (h'.bl (by repeat (first | with_reducible assumption | with_reducible exact Bl.refl _ | (with_reducible refine Bl.set ?_ (by simp <;> omega) _) | (with_reducible refine Bl.drewN ?_ _) | (with_reducible refine Bl.drew ?_) | (with_reducible refine Bl.alloc ?_ _) | (with_reducible refine Bl.next ?_ ‹_›)))) (k'.bl (by repeat (first | with_reducible assumption | with_reducible exact Bl.refl _ | (with_reducible refine Bl.set ?_ (by simp <;> omega) _) | (with_reducible refine Bl.drewN ?_ _) | (with_reducible refine Bl.drew ?_) | (with_reducible refine Bl.alloc ?_ _) | (with_reducible refine Bl.next ?_ ‹_›))))).mono ?_
      rintro e w1 ⟨rfl, hb⟩
      rw [e0]
      obtain ⟨hc, hf⟩ := bcell hb
      have hb1 : Bl w w1 := (by repeat (first | with_reducible assumption | with_reducible exact Bl.refl _ | (with_reducible refine Bl.set ?_ (by simp <;> omega) _) | (with_reducible refine Bl.drewN ?_ _) | (with_reducible refine Bl.drew ?_) | (with_reducible refine Bl.alloc ?_ _) | (with_reducible refine Bl.next ?_ ‹_›)))
      have hz := hb.size
      simp only [World.size_alloc] at hz
      have hz1_0 : w.heap.size < w1.heap.size := by omega
      have hz1_1 : w.heap.size + 1 < w1.heap.size := by omega
      clear hb
      go_wp2_with fail
      refine (sameVector_any _ (u.bl hb1) (u'.bl hb1)).mono ?_
      rintro e w2 ⟨rfl, hb⟩
      rw [e1]
      obtain ⟨hc2, hf2⟩ := bcell hb
      have hb2 : Bl w w2 := (by repeat (first | with_reducible assumption | with_reducible exact Bl.refl _ | (with_reducible refine Bl.set ?_ (by simp <;> omega) _) | (with_reducible refine Bl.drewN ?_ _) | (with_reducible refine Bl.drew ?_) | (with_reducible refine Bl.alloc ?_ _) | (with_reducible refine Bl.next ?_ ‹_›)))
      clear hb
      go_wp2_with fail
      go_ret
      exact ⟨ret_bool hs.out.symm, hb2⟩
  · have e0 : sameM x.mesh y.mesh = false := by simpa using e0
    have hs := Lib.hid (sameP_mesh e0)
    go_enter Try.func21, Try.ntmps21
    go_wp2_with fail
    refine (SameMesh_any _ (x := x.mesh) (y := y.mesh) (h.bl (by repeat (first | with_reducible assumption | with_reducible exact Bl.refl _ | (with_reducible refine Bl.set ?_ (by simp <;> omega) _) | (with_reducible refine Bl.drewN ?_ _) | (with_reducible refine Bl.drew ?_) | (with_reducible refine Bl.alloc ?_ _) | (with_reducible refine Bl.next ?_ ‹_›)))) (k.bl (by repeat (first | with_reducible assumption | with_reducible exact Bl.refl _ | (with_reducible refine Bl.set ?_ (by simp <;> omega) _) | (with_reducible refine Bl.drewN ?_ _) | (with_reducible refine Bl.drew ?_) | (with_reducible refine Bl.alloc ?_ _) | (with_reducible refine Bl.next ?_ ‹_›)))) (h'.bl (by repeat (first | with_reducible assumption | with_reducible exact Bl.refl _ | (with_reducible refine Bl.set ?_ (by simp <;> omega) _) | (with_reducible refine Bl.drewN ?_ _) | (with_reducible refine Bl.drew ?_) | (with_reducible refine Bl.alloc ?_ _) | (with_reducible refine Bl.next ?_ ‹_›)))) (k'.bl (by repeat (first | with_reducible assumption | with_reducible exact Bl.refl _ | (with_reducible refine Bl.set ?_ (by simp <;> omega) _) | (with_reducible refine Bl.drewN ?_ _) | (with_reducible refine Bl.drew ?_) | (with_reducible refine Bl.alloc ?_ _) | (with_reducible refine Bl.next ?_ ‹_›))))).mono ?_
    rintro e w1 ⟨rfl, hb⟩
    rw [e0]
    obtain ⟨hc, hf⟩ := bcell hb
    have hb1 : Bl w w1 := (by repeat (first | with_reducible assumption | with_reducible exact Bl.refl _ | (with_reducible refine Bl.set ?_ (by simp <;> omega) _) | (with_reducible refine Bl.drewN ?_ _) | (with_reducible refine Bl.drew ?_) | (with_reducible refine Bl.alloc ?_ _) | (with_reducible refine Bl.next ?_ ‹_›)))
    have hz := hb.size
    simp only [World.size_alloc] at hz
    have hz1_0 : w.heap.size < w1.heap.size := by omega
    have hz1_1 : w.heap.size + 1 < w1.heap.size := by omega
    clear hb
    go_wp2_with fail
    go_ret
    exact ⟨ret_bool hs.out.symm, hb1⟩

set_option maxHeartbeats 1000000 in
theorem sSameProblem_any (w : World) {A B C D A' B' C' D' : Option Addr} {n c m d i e j f n' c' m' d' i' e' j' f' : Nat} {x y : PrD} (h : RdPS w A n c x.mesh.points) (k : RdTS w B m d x.mesh.tris) (u : RdRS w C i e x.diff) (v : RdRS w D j f x.src) (h' : RdPS w A' n' c' y.mesh.points) (k' : RdTS w B' m' d' y.mesh.tris) (u' : RdRS w C' i' e' y.diff) (v' : RdRS w D' j' f' y.src) :
    Calls Try.prog 19 #[.agg #[.slice A n c, .slice B m d, .slice C i e, .slice D j f], .agg #[.slice A' n' c', .slice B' m' d', .slice C' i' e', .slice D' j' f']] w fun e w' => e = .returned (.bool (sameP x y)) ∧ Bl w w' := by
  by_cases e0 : sameM x.mesh y.mesh = true
  · by_cases e1 : Same x.diff y.diff = true
    · have hs := Lib.hid (sameP_src e0 e1)
      go_enter Try.func19, Try.ntmps19
      go_wp2_with fail
      refine (sSameMesh_any _ (x := x.mesh) (y := y.mesh) (h.bl (by repeat (first | with_reducible assumption | with_reducible exact Bl.refl _ | (with_reducible refine Bl.set ?_ (by simp <;> omega) _) | (with_reducible refine Bl.drewN ?_ _) | (with_reducible refine Bl.drew ?_) | (with_reducible refine Bl.alloc ?_ _) | (with_reducible refine Bl.next ?_ ‹_›)))) (k.bl (by repeat (first | with_reducible assumption | with_reducible exact Bl.refl _ | (with_reducible refine Bl.set ?_ (by simp <;> omega) _) | (with_reducible refine Bl.drewN ?_ _) | (with_reducible refine Bl.drew ?_) | (with_reducible refine Bl.alloc ?_ _) | (with_reducible refine Bl.next ?_ ‹_›)))) (h'.bl (by repeat (first | with_reducible assumption | with_reducible exact Bl.refl _ | (with_reducible refine Bl.set ?_ (by simp <;> omega) _) | (with_reducible refine Bl.drewN ?_ _) | (with_reducible refine Bl.drew ?_) | (with_reducible refine Bl.alloc ?_ _) | (with_reducible refine Bl.next ?_ ‹_›)))) (k'.bl (by repeat (first | with_reducible assumption | with_reducible exact Bl.refl _ | (with_reducible refine Bl.set ?_ (by simp <;> omega) _) | (with_reducible refine Bl.drewN ?_ _) | (with_reducible refine Bl.drew ?_) | (with_reducible refine Bl.alloc ?_ _) | (with_reducible refine Bl.next ?_ ‹_›))))).mono ?_
      rintro e w1 ⟨rfl, hb⟩
      rw [e0]
      obtain ⟨hc, hf⟩ := bcell hb
      have hb1 : Bl w w1 := (by repeat (first | with_reducible assumption | with_reducible exact Bl.refl _ | (with_reducible refine Bl.set ?_ (by simp <;> omega) _) | (with_reducible refine Bl.drewN ?_ _) | (with_reducible refine Bl.drew ?_) | (with_reducible refine Bl.alloc ?_ _) | (with_reducible refine Bl.next ?_ ‹_›)))
      have hz := hb.size
      simp only [World.size_alloc] at hz
      have hz1_0 : w.heap.size < w1.heap.size := by omega
      have hz1_1 : w.heap.size + 1 < w1.heap.size := by omega
      clear hb
      go_wp2_with fail
      refine (l13Same_any _ (u.bl hb1) (u'.bl hb1)).mono ?_
      rintro e w2 ⟨rfl, hb⟩
      rw [e1]
      obtain ⟨hc2, hf2⟩ := bcell hb
      have hb2 : Bl w w2 := (by repeat (first | with_reducible assumption | with_reducible exact Bl.refl _ | (with_reducible refine Bl.set ?_ (by simp <;> omega) _) | (with_reducible refine Bl.drewN ?_ _) | (with_reducible refine Bl.drew ?_) | (with_reducible refine Bl.alloc ?_ _) | (with_reducible refine Bl.next ?_ ‹_›)))
      clear hb
      go_wp2_with fail
      refine (l13Same_any _ (v.bl hb2) (v'.bl hb2)).mono ?_
      rintro e w3 ⟨rfl, hb⟩
      have hb3 : Bl w w3 := (by repeat (first | with_reducible assumption | with_reducible exact Bl.refl _ | (with_reducible refine Bl.set ?_ (by simp <;> omega) _) | (with_reducible refine Bl.drewN ?_ _) | (with_reducible refine Bl.drew ?_) | (with_reducible refine Bl.alloc ?_ _) | (with_reducible refine Bl.next ?_ ‹_›)))
      clear hb
      go_wp2_with fail
      go_ret
      exact ⟨ret_bool hs.out.symm, hb3⟩
    · have e1 : Same x.diff y.diff = false := by simpa using e1
      have hs := Lib.hid (sameP_diff e1)
      go_enter Try.func19, Try.ntmps19
      go_wp2_with fail
      refine (sSameMesh_any _ (x := x.mesh) (y := y.mesh) (h.bl (by repeat (first | with_reducible assumption | with_reducible exact Bl.refl _ | (with_reducible refine Bl.set ?_ (by simp <;> omega) _) | (with_reducible refine Bl.drewN ?_ _) | (with_reducible refine Bl.drew ?_) | (with_reducible refine Bl.alloc ?_ _) | (with_reducible refine Bl.next ?_ ‹_›)))) (k.bl (by repeat (first | with_reducible assumption | with_reducible exact Bl.refl _ | (with_reducible refine Bl.set ?_ (by simp <;> omega) _) | (with_reducible refine Bl.drewN ?_ _) | (with_reducible refine Bl.drew ?_) | (with_reducible refine Bl.alloc ?_ _) | (with_reducible refine Bl.next ?_ ‹_›)))) (h'.bl (by repeat (first | with_reducible assumption | with_reducible exact Bl.refl _ | (with_reducible refine Bl.set ?_ (by simp <;> omega) _) | (with_reducible refine Bl.drewN ?_ _) | (with_reducible refine Bl.drew ?_) | (with_reducible refine Bl.alloc ?_ _) | (with_reducible refine Bl.next ?_ ‹_›)))) (k'.bl (by repeat (first | with_reducible assumption | with_reducible exact Bl.refl _ | (with_reducible refine Bl.set ?_ (by simp <;> omega) _) | (with_reducible refine Bl.drewN ?_ _) | (with_reducible refine Bl.drew ?_) | (with_reducible refine Bl.alloc ?_ _) | (with_reducible refine Bl.next ?_ ‹_›))))).mono ?_
      rintro e w1 ⟨rfl, hb⟩
      rw [e0]
      obtain ⟨hc, hf⟩ := bcell hb
      have hb1 : Bl w w1 := (by repeat (first | with_reducible assumption | with_reducible exact Bl.refl _ | (with_reducible refine Bl.set ?_ (by simp <;> omega) _) | (with_reducible refine Bl.drewN ?_ _) | (with_reducible refine Bl.drew ?_) | (with_reducible refine Bl.alloc ?_ _) | (with_reducible refine Bl.next ?_ ‹_›)))
      have hz := hb.size
      simp only [World.size_alloc] at hz
      have hz1_0 : w.heap.size < w1.heap.size := by omega
      have hz1_1 : w.heap.size + 1 < w1.heap.size := by omega
      clear hb
      go_wp2_with fail
      refine (l13Same_any _ (u.bl hb1) (u'.bl hb1)).mono ?_
      rintro e w2 ⟨rfl, hb⟩
      rw [e1]
      obtain ⟨hc2, hf2⟩ := bcell hb
      have hb2 : Bl w w2 := (by repeat (first | with_reducible assumption | with_reducible exact Bl.refl _ | (with_reducible refine Bl.set ?_ (by simp <;> omega) _) | (with_reducible refine Bl.drewN ?_ _) | (with_reducible refine Bl.drew ?_) | (with_reducible refine Bl.alloc ?_ _) | (with_reducible refine Bl.next ?_ ‹_›)))
      clear hb
      go_wp2_with fail
      go_ret
      exact ⟨ret_bool hs.out.symm, hb2⟩
  · have e0 : sameM x.mesh y.mesh = false := by simpa using e0
    have hs := Lib.hid (sameP_mesh e0)
    go_enter Try.func19, Try.ntmps19
    go_wp2_with fail
    refine (sSameMesh_any _ (x := x.mesh) (y := y.mesh) (h.bl (by repeat (first | with_reducible assumption | with_reducible exact Bl.refl _ | (with_reducible refine Bl.set ?_ (by simp <;> omega) _) | (with_reducible refine Bl.drewN ?_ _) | (with_reducible refine Bl.drew ?_) | (with_reducible refine Bl.alloc ?_ _) | (with_reducible refine Bl.next ?_ ‹_›)))) (k.bl (by repeat (first | with_reducible assumption | with_reducible exact Bl.refl _ | (with_reducible refine Bl.set ?_ (by simp <;> omega) _) | (with_reducible refine Bl.drewN ?_ _) | (with_reducible refine Bl.drew ?_) | (with_reducible refine Bl.alloc ?_ _) | (with_reducible refine Bl.next ?_ ‹_›)))) (h'.bl (by repeat (first | with_reducible assumption | with_reducible exact Bl.refl _ | (with_reducible refine Bl.set ?_ (by simp <;> omega) _) | (with_reducible refine Bl.drewN ?_ _) | (with_reducible refine Bl.drew ?_) | (with_reducible refine Bl.alloc ?_ _) | (with_reducible refine Bl.next ?_ ‹_›)))) (k'.bl (by repeat (first | with_reducible assumption | with_reducible exact Bl.refl _ | (with_reducible refine Bl.set ?_ (by simp <;> omega) _) | (with_reducible refine Bl.drewN ?_ _) | (with_reducible refine Bl.drew ?_) | (with_reducible refine Bl.alloc ?_ _) | (with_reducible refine Bl.next ?_ ‹_›))))).mono ?_
    rintro e w1 ⟨rfl, hb⟩
    rw [e0]
    obtain ⟨hc, hf⟩ := bcell hb
    have hb1 : Bl w w1 := (by repeat (first | with_reducible assumption | with_reducible exact Bl.refl _ | (with_reducible refine Bl.set ?_ (by simp <;> omega) _) | (with_reducible refine Bl.drewN ?_ _) | (with_reducible refine Bl.drew ?_) | (with_reducible refine Bl.alloc ?_ _) | (with_reducible refine Bl.next ?_ ‹_›)))
    have hz := hb.size
    simp only [World.size_alloc] at hz
    have hz1_0 : w.heap.size < w1.heap.size := by omega
    have hz1_1 : w.heap.size + 1 < w1.heap.size := by omega
    clear hb
    go_wp2_with fail
    go_ret
    exact ⟨ret_bool hs.out.symm, hb1⟩

end Go.Proofs.Ytebfacejgphmhaa
