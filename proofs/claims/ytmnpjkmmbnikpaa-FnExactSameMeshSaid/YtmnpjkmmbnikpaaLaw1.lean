import Derived.Test.YtmnpjkmmbnikpaaRows
import Derived.Test.YtmnpjkmmbnikpaaSm3
import Derived.Test.YtmnpjkmmbnikpaaEqL
import Derived.Test.YtmnpjkmmbnikpaaSz
import Derived.Test.YtmnpjkmmbnikpaaTo
namespace Go.Proofs.Ytmnpjkmmbnikpaa
open Go.RowKit

theorem OwM.rdP {b0 : Nat} {w : World} {A : Option Addr} {n c : Nat} {B : Option Addr} {m d : Nat} {x : MeD} (h : OwM b0 w A n c B m d x) : RdPS w A n c x.points := by
  obtain ⟨g, g', cs, cs', fs, rfl, rfl, h1, h2, h3, h4, h5, h6, h7, h8, h9, h10, h11, h12, h13, h14, h15⟩ := h
  exact h13.rd h9 h3 (by omega) h5
theorem OwM.rdT {b0 : Nat} {w : World} {A : Option Addr} {n c : Nat} {B : Option Addr} {m d : Nat} {x : MeD} (h : OwM b0 w A n c B m d x) : RdTS w B m d x.tris := by
  obtain ⟨g, g', cs, cs', fs, rfl, rfl, h1, h2, h3, h4, h5, h6, h7, h8, h9, h10, h11, h12, h13, h14, h15⟩ := h
  exact h14.rd h10 h4 (by omega) h6
theorem OwM.bl {b0 : Nat} {w W : World} {A : Option Addr} {n c : Nat} {B : Option Addr} {m d : Nat} {x : MeD} (h : OwM b0 w A n c B m d x) (hb : Bl w W) : OwM b0 W A n c B m d x := by
  obtain ⟨g, g', cs, cs', fs, rfl, rfl, h1, h2, h3, h4, h5, h6, h7, h8, h9, h10, h11, h12, h13, h14, h15⟩ := h
  exact ⟨g, g', cs, cs', fs, rfl, rfl, h1, h2, h3, h4, h5, h6, h7, h8, h9.bl hb, h10.bl hb, h11, h12, h13.bl hb (fun b hm => (h15.2 b hm).2), h14, h15.mono (Nat.le_refl _) hb.size⟩

theorem box22 {w W : World} {a b c d : Value} {T T' : TypeId} (h : Bl ((w.alloc (.cells #[a, b] T)).alloc (.cells #[c, d] T')) W) :
    W.cell? ⟨w.heap.size, 0, none⟩ = some a ∧ W.cell? ⟨w.heap.size, 1, none⟩ = some b ∧ W.cell? ⟨w.heap.size + 1, 0, none⟩ = some c ∧ W.cell? ⟨w.heap.size + 1, 1, none⟩ = some d := by
  refine ⟨?_, ?_, ?_, ?_⟩ <;> (rw [h.cellOf (by simp <;> omega)]; simp [go_sem])

theorem cells2 {W : World} {g : Nat} {T : TypeId} {a b : Value} (h : Blk W g T #[a, b]) : W.cell? ⟨g, 0, none⟩ = some a ∧ W.cell? ⟨g, 1, none⟩ = some b := ⟨h.cell 0, h.cell 1⟩

set_option maxRecDepth 100000 in
set_option maxHeartbeats 4000000 in
theorem FnExactSameMesh_any (w : World) {A B A' B' : Option Addr} {n m c d n' m' c' d' : Nat} {x y : MeD} (h : RdPS w A n c x.points) (k : RdTS w B m d x.tris) (h' : RdPS w A' n' c' y.points) (k' : RdTS w B' m' d' y.tris) :
    Calls Try.prog 3 #[.agg #[.slice A n c, .slice B m d], .agg #[.slice A' n' c', .slice B' m' d']] w fun e w' => e = .returned (.bool true) ∧ Bl w w' := by
  by_cases s1 : ((szM x : Nat) : Int) ≤ 1048576
  · have e1 := lft_yes s1
    by_cases s2 : ((szM y : Nat) : Int) ≤ 1048576 - ((szM x : Nat) : Int)
    · have e2 := lft_yes s2
      go_enter Try.func3, Try.ntmps3
      go_wp2_with fail
      refine (szMesh_any _ (h.bl (by repeat (first | with_reducible assumption | with_reducible exact Bl.refl _ | (with_reducible refine Bl.set ?_ (by simp <;> omega) _) | (with_reducible refine Bl.drewN ?_ _) | (with_reducible refine Bl.drew ?_) | (with_reducible refine Bl.alloc ?_ _) | (with_reducible refine Bl.next ?_ ‹_›)))) (k.bl (by repeat (first | with_reducible assumption | with_reducible exact Bl.refl _ | (with_reducible refine Bl.set ?_ (by simp <;> omega) _) | (with_reducible refine Bl.drewN ?_ _) | (with_reducible refine Bl.drew ?_) | (with_reducible refine Bl.alloc ?_ _) | (with_reducible refine Bl.next ?_ ‹_›)))) (by omega) (by omega)).mono ?_
      rintro e w1 ⟨rfl, hb⟩
      rw [e1]
      have hbb := Bl.next (Bl.refl ((w.alloc (.cells #[.slice A n c, .slice B m d] 25)).alloc (.cells #[.slice A' n' c', .slice B' m' d'] 25))) hb
      obtain ⟨hc, hf⟩ := bcell hbb
      have hz := hbb.size
      have hb1 : Bl w w1 := (by repeat (first | with_reducible assumption | with_reducible exact Bl.refl _ | (with_reducible refine Bl.set ?_ (by simp <;> omega) _) | (with_reducible refine Bl.drewN ?_ _) | (with_reducible refine Bl.drew ?_) | (with_reducible refine Bl.alloc ?_ _) | (with_reducible refine Bl.next ?_ ‹_›)))
      simp only [World.size_alloc] at hz
      have hz1_0 : w.heap.size < w1.heap.size := by omega
      have hz1_1 : w.heap.size + 1 < w1.heap.size := by omega
      clear hb
      go_wp2_with fail
      refine (szMesh_any _ (h'.bl hb1) (k'.bl hb1) (by omega) (by omega)).mono ?_
      rintro e w2 ⟨rfl, hb⟩
      rw [e2]
      have hbb2 := Bl.next hbb hb
      have hb2 : Bl w w2 := (by repeat (first | with_reducible assumption | with_reducible exact Bl.refl _ | (with_reducible refine Bl.set ?_ (by simp <;> omega) _) | (with_reducible refine Bl.drewN ?_ _) | (with_reducible refine Bl.drew ?_) | (with_reducible refine Bl.alloc ?_ _) | (with_reducible refine Bl.next ?_ ‹_›)))
      clear hc hf hb hbb
      obtain ⟨hc, hf⟩ := bcell hbb2
      have hz2 := hbb2.size
      simp only [World.size_alloc] at hz2
      have hz2_0 : w.heap.size < w2.heap.size := by omega
      have hz2_1 : w.heap.size + 1 < w2.heap.size := by omega
      go_wp2_with fail
      go_region_held3 (fun w' => w'.cell? ⟨w.heap.size, 0, none⟩ = some (.slice A n c) ∧ w'.cell? ⟨w.heap.size, 1, none⟩ = some (.slice B m d) ∧ w'.cell? ⟨w.heap.size + 1, 0, none⟩ = some (.slice A' n' c') ∧ w'.cell? ⟨w.heap.size + 1, 1, none⟩ = some (.slice B' m' d')) (first | exact box22 (by repeat (first | with_reducible assumption | with_reducible exact Bl.refl _ | (with_reducible refine Bl.set ?_ (by simp <;> omega) _) | (with_reducible refine Bl.drewN ?_ _) | (with_reducible refine Bl.drew ?_) | (with_reducible refine Bl.alloc ?_ _) | (with_reducible refine Bl.next ?_ ‹_›)))) (first | (go_at_call 8; with_reducible refine (toMesh_any _ (x := x) (h.bl (by repeat (first | with_reducible assumption | with_reducible exact Bl.refl _ | (with_reducible refine Bl.set ?_ (by simp <;> omega) _) | (with_reducible refine Bl.drewN ?_ _) | (with_reducible refine Bl.drew ?_) | (with_reducible refine Bl.alloc ?_ _) | (with_reducible refine Bl.next ?_ ‹_›)))) (k.bl (by repeat (first | with_reducible assumption | with_reducible exact Bl.refl _ | (with_reducible refine Bl.set ?_ (by simp <;> omega) _) | (with_reducible refine Bl.drewN ?_ _) | (with_reducible refine Bl.drew ?_) | (with_reducible refine Bl.alloc ?_ _) | (with_reducible refine Bl.next ?_ ‹_›)))) (by omega)).mono ?_; rintro e w3 ⟨P1, P2, rfl, hO1, hb3⟩) | (go_at_call 8; with_reducible refine (toMesh_any _ (x := y) (h'.bl (by repeat (first | with_reducible assumption | with_reducible exact Bl.refl _ | (with_reducible refine Bl.set ?_ (by simp <;> omega) _) | (with_reducible refine Bl.drewN ?_ _) | (with_reducible refine Bl.drew ?_) | (with_reducible refine Bl.alloc ?_ _) | (with_reducible refine Bl.next ?_ ‹_›)))) (k'.bl (by repeat (first | with_reducible assumption | with_reducible exact Bl.refl _ | (with_reducible refine Bl.set ?_ (by simp <;> omega) _) | (with_reducible refine Bl.drewN ?_ _) | (with_reducible refine Bl.drew ?_) | (with_reducible refine Bl.alloc ?_ _) | (with_reducible refine Bl.next ?_ ‹_›)))) (by omega)).mono ?_; rintro e w4 ⟨P3, P4, rfl, hO2, hb4⟩) | (go_at_call 7; with_reducible refine (sSameMesh_any _ (x := x) (y := y) (hO1.rdP.bl (by repeat (first | with_reducible assumption | with_reducible exact Bl.refl _ | (with_reducible refine Bl.set ?_ (by simp <;> omega) _) | (with_reducible refine Bl.drewN ?_ _) | (with_reducible refine Bl.drew ?_) | (with_reducible refine Bl.alloc ?_ _) | (with_reducible refine Bl.next ?_ ‹_›)))) (hO1.rdT.bl (by repeat (first | with_reducible assumption | with_reducible exact Bl.refl _ | (with_reducible refine Bl.set ?_ (by simp <;> omega) _) | (with_reducible refine Bl.drewN ?_ _) | (with_reducible refine Bl.drew ?_) | (with_reducible refine Bl.alloc ?_ _) | (with_reducible refine Bl.next ?_ ‹_›)))) (hO2.rdP.bl (by repeat (first | with_reducible assumption | with_reducible exact Bl.refl _ | (with_reducible refine Bl.set ?_ (by simp <;> omega) _) | (with_reducible refine Bl.drewN ?_ _) | (with_reducible refine Bl.drew ?_) | (with_reducible refine Bl.alloc ?_ _) | (with_reducible refine Bl.next ?_ ‹_›)))) (hO2.rdT.bl (by repeat (first | with_reducible assumption | with_reducible exact Bl.refl _ | (with_reducible refine Bl.set ?_ (by simp <;> omega) _) | (with_reducible refine Bl.drewN ?_ _) | (with_reducible refine Bl.drew ?_) | (with_reducible refine Bl.alloc ?_ _) | (with_reducible refine Bl.next ?_ ‹_›))))).mono ?_; rintro e w5 ⟨rfl, hb5⟩))
      have hbb5 : Bl ((w.alloc (.cells #[.slice A n c, .slice B m d] 25)).alloc (.cells #[.slice A' n' c', .slice B' m' d'] 25)) w5 := (by repeat (first | with_reducible assumption | with_reducible exact Bl.refl _ | (with_reducible refine Bl.set ?_ (by simp <;> omega) _) | (with_reducible refine Bl.drewN ?_ _) | (with_reducible refine Bl.drew ?_) | (with_reducible refine Bl.alloc ?_ _) | (with_reducible refine Bl.next ?_ ‹_›)))
      have hb5w : Bl w w5 := (by repeat (first | with_reducible assumption | with_reducible exact Bl.refl _ | (with_reducible refine Bl.set ?_ (by simp <;> omega) _) | (with_reducible refine Bl.drewN ?_ _) | (with_reducible refine Bl.drew ?_) | (with_reducible refine Bl.alloc ?_ _) | (with_reducible refine Bl.next ?_ ‹_›)))
      clear hc hf hz hz2 hz1_0 hz1_1 hz2_0 hz2_1 hb3 hb4 hb5 hO1 hO2
      obtain ⟨hc, hf⟩ := bcell hbb5
      have hz5 := hbb5.size
      simp only [World.size_alloc] at hz5
      have hz5_0 : w.heap.size < w5.heap.size := by omega
      have hz5_1 : w.heap.size + 1 < w5.heap.size := by omega
      go_wp2_with fail
      refine (toMesh_any _ (x := x) (h.bl hb5w) (k.bl hb5w) (by omega)).mono ?_
      rintro e w6 ⟨X1, X2, rfl, hO3, hb6⟩
      have hbb6 : Bl ((w.alloc (.cells #[.slice A n c, .slice B m d] 25)).alloc (.cells #[.slice A' n' c', .slice B' m' d'] 25)) w6 := (by repeat (first | with_reducible assumption | with_reducible exact Bl.refl _ | (with_reducible refine Bl.set ?_ (by simp <;> omega) _) | (with_reducible refine Bl.drewN ?_ _) | (with_reducible refine Bl.drew ?_) | (with_reducible refine Bl.alloc ?_ _) | (with_reducible refine Bl.next ?_ ‹_›)))
      have hb6w : Bl w w6 := (by repeat (first | with_reducible assumption | with_reducible exact Bl.refl _ | (with_reducible refine Bl.set ?_ (by simp <;> omega) _) | (with_reducible refine Bl.drewN ?_ _) | (with_reducible refine Bl.drew ?_) | (with_reducible refine Bl.alloc ?_ _) | (with_reducible refine Bl.next ?_ ‹_›)))
      clear hc hf hb6
      obtain ⟨hc, hf⟩ := bcell hbb6
      have hz6 := hbb6.size
      simp only [World.size_alloc] at hz6
      have hz6_0 : w.heap.size < w6.heap.size := by omega
      have hz6_1 : w.heap.size + 1 < w6.heap.size := by omega
      go_wp2_with fail
      refine (toMesh_any _ (x := y) (h'.bl (by repeat (first | with_reducible assumption | with_reducible exact Bl.refl _ | (with_reducible refine Bl.set ?_ (by simp <;> omega) _) | (with_reducible refine Bl.drewN ?_ _) | (with_reducible refine Bl.drew ?_) | (with_reducible refine Bl.alloc ?_ _) | (with_reducible refine Bl.next ?_ ‹_›)))) (k'.bl (by repeat (first | with_reducible assumption | with_reducible exact Bl.refl _ | (with_reducible refine Bl.set ?_ (by simp <;> omega) _) | (with_reducible refine Bl.drewN ?_ _) | (with_reducible refine Bl.drew ?_) | (with_reducible refine Bl.alloc ?_ _) | (with_reducible refine Bl.next ?_ ‹_›)))) (by omega)).mono ?_
      rintro e w7 ⟨Y1, Y2, rfl, hO4, hb7⟩
      have hb67 : Bl w6 w7 := Bl.next ((Bl.refl w6).alloc _) hb7
      have hO5 := hO3.bl hb67
      have hb7w : Bl w w7 := Bl.next hb6w hb67
      have hbb7 := Bl.next hbb6 hb67
      clear hc hf
      obtain ⟨hc7, hf7⟩ := bcell hb7
      have hz7 := hb7.size
      simp only [World.size_alloc] at hz7
      have hz7_6 : w6.heap.size < w7.heap.size := by omega
      go_wp2_with fail
      refine (SameMesh_any _ (x := x) (y := y) (hO5.rdP.bl ((Bl.refl w7).alloc _)) (hO5.rdT.bl ((Bl.refl w7).alloc _)) (hO4.rdP.bl ((Bl.refl w7).alloc _)) (hO4.rdT.bl ((Bl.refl w7).alloc _))).mono ?_
      rintro e w8 ⟨rfl, hb8⟩
      have hsame : ∀ b : Bool, (b != b) = false := by simp
      have hb78 : Bl w7 w8 := Bl.next ((Bl.refl w7).alloc _) hb8
      have hO6 := hO5.bl hb78
      have hO7 := hO4.bl hb78
      have hb8w : Bl w w8 := Bl.next hb7w hb78
      have hbb8 := Bl.next hbb7 hb78
      have hx0 : Blk w8 w6.heap.size 31 #[.slice X1 n n, .slice X2 m m] := ((Blk.new w6 _ _).bl hb7).bl hb78
      have hx1 : Blk w8 w7.heap.size 31 #[.slice Y1 n' n', .slice Y2 m' m'] := (Blk.new w7 _ _).bl hb8
      clear hc7 hf7 hb7 hb8 hz7 hz7_6
      go_wp2_with fail
      go_region_held3 (fun w' => (w'.cell? ⟨w.heap.size, 0, none⟩ = some (.slice A n c) ∧ w'.cell? ⟨w.heap.size, 1, none⟩ = some (.slice B m d) ∧ w'.cell? ⟨w.heap.size + 1, 0, none⟩ = some (.slice A' n' c') ∧ w'.cell? ⟨w.heap.size + 1, 1, none⟩ = some (.slice B' m' d')) ∧ (w'.cell? ⟨w6.heap.size, 0, none⟩ = some (.slice X1 n n) ∧ w'.cell? ⟨w6.heap.size, 1, none⟩ = some (.slice X2 m m)) ∧ (w'.cell? ⟨w7.heap.size, 0, none⟩ = some (.slice Y1 n' n') ∧ w'.cell? ⟨w7.heap.size, 1, none⟩ = some (.slice Y2 m' m'))) (first | exact ⟨box22 (by repeat (first | with_reducible assumption | with_reducible exact Bl.refl _ | (with_reducible refine Bl.set ?_ (by simp <;> omega) _) | (with_reducible refine Bl.drewN ?_ _) | (with_reducible refine Bl.drew ?_) | (with_reducible refine Bl.alloc ?_ _) | (with_reducible refine Bl.next ?_ ‹_›))), cells2 (hx0.bl (by repeat (first | with_reducible assumption | with_reducible exact Bl.refl _ | (with_reducible refine Bl.set ?_ (by simp <;> omega) _) | (with_reducible refine Bl.drewN ?_ _) | (with_reducible refine Bl.drew ?_) | (with_reducible refine Bl.alloc ?_ _) | (with_reducible refine Bl.next ?_ ‹_›)))), cells2 (hx1.bl (by repeat (first | with_reducible assumption | with_reducible exact Bl.refl _ | (with_reducible refine Bl.set ?_ (by simp <;> omega) _) | (with_reducible refine Bl.drewN ?_ _) | (with_reducible refine Bl.drew ?_) | (with_reducible refine Bl.alloc ?_ _) | (with_reducible refine Bl.next ?_ ‹_›))))⟩) (first | (go_at_call 8; with_reducible refine (toMesh_any _ (x := x) (h.bl (by repeat (first | with_reducible assumption | with_reducible exact Bl.refl _ | (with_reducible refine Bl.set ?_ (by simp <;> omega) _) | (with_reducible refine Bl.drewN ?_ _) | (with_reducible refine Bl.drew ?_) | (with_reducible refine Bl.alloc ?_ _) | (with_reducible refine Bl.next ?_ ‹_›)))) (k.bl (by repeat (first | with_reducible assumption | with_reducible exact Bl.refl _ | (with_reducible refine Bl.set ?_ (by simp <;> omega) _) | (with_reducible refine Bl.drewN ?_ _) | (with_reducible refine Bl.drew ?_) | (with_reducible refine Bl.alloc ?_ _) | (with_reducible refine Bl.next ?_ ‹_›)))) (by omega)).mono ?_; rintro e w9 ⟨P1, P2, rfl, hO8, hb9⟩) | (go_at_call 10; with_reducible refine (eqMesh_any _ (x := x) (hO6.rdP.bl (by repeat (first | with_reducible assumption | with_reducible exact Bl.refl _ | (with_reducible refine Bl.set ?_ (by simp <;> omega) _) | (with_reducible refine Bl.drewN ?_ _) | (with_reducible refine Bl.drew ?_) | (with_reducible refine Bl.alloc ?_ _) | (with_reducible refine Bl.next ?_ ‹_›)))) (hO6.rdT.bl (by repeat (first | with_reducible assumption | with_reducible exact Bl.refl _ | (with_reducible refine Bl.set ?_ (by simp <;> omega) _) | (with_reducible refine Bl.drewN ?_ _) | (with_reducible refine Bl.drew ?_) | (with_reducible refine Bl.alloc ?_ _) | (with_reducible refine Bl.next ?_ ‹_›)))) (hO8.rdP.bl (by repeat (first | with_reducible assumption | with_reducible exact Bl.refl _ | (with_reducible refine Bl.set ?_ (by simp <;> omega) _) | (with_reducible refine Bl.drewN ?_ _) | (with_reducible refine Bl.drew ?_) | (with_reducible refine Bl.alloc ?_ _) | (with_reducible refine Bl.next ?_ ‹_›)))) (hO8.rdT.bl (by repeat (first | with_reducible assumption | with_reducible exact Bl.refl _ | (with_reducible refine Bl.set ?_ (by simp <;> omega) _) | (with_reducible refine Bl.drewN ?_ _) | (with_reducible refine Bl.drew ?_) | (with_reducible refine Bl.alloc ?_ _) | (with_reducible refine Bl.next ?_ ‹_›))))).mono ?_; rintro e w10 ⟨rfl, hb10⟩))
      have hb8_10 : Bl w8 w10 := (by repeat (first | with_reducible assumption | with_reducible exact Bl.refl _ | (with_reducible refine Bl.set ?_ (by simp <;> omega) _) | (with_reducible refine Bl.drewN ?_ _) | (with_reducible refine Bl.drew ?_) | (with_reducible refine Bl.alloc ?_ _) | (with_reducible refine Bl.next ?_ ‹_›)))
      have hO9 := hO7.bl hb8_10
      have hbb10 := Bl.next hbb8 hb8_10
      have hb10w := Bl.next hb8w hb8_10
      have hx1' := hx1.bl hb8_10
      have hx0' := hx0.bl hb8_10
      clear hb9 hb10 hO8 hb8_10 hx0 hx1 hbb8
      go_wp2_with fail
      go_region_held3 (fun w' => (w'.cell? ⟨w.heap.size, 0, none⟩ = some (.slice A n c) ∧ w'.cell? ⟨w.heap.size, 1, none⟩ = some (.slice B m d) ∧ w'.cell? ⟨w.heap.size + 1, 0, none⟩ = some (.slice A' n' c') ∧ w'.cell? ⟨w.heap.size + 1, 1, none⟩ = some (.slice B' m' d')) ∧ (w'.cell? ⟨w6.heap.size, 0, none⟩ = some (.slice X1 n n) ∧ w'.cell? ⟨w6.heap.size, 1, none⟩ = some (.slice X2 m m)) ∧ (w'.cell? ⟨w7.heap.size, 0, none⟩ = some (.slice Y1 n' n') ∧ w'.cell? ⟨w7.heap.size, 1, none⟩ = some (.slice Y2 m' m'))) (first | exact ⟨box22 (by repeat (first | with_reducible assumption | with_reducible exact Bl.refl _ | (with_reducible refine Bl.set ?_ (by simp <;> omega) _) | (with_reducible refine Bl.drewN ?_ _) | (with_reducible refine Bl.drew ?_) | (with_reducible refine Bl.alloc ?_ _) | (with_reducible refine Bl.next ?_ ‹_›))), cells2 (hx0'.bl (by repeat (first | with_reducible assumption | with_reducible exact Bl.refl _ | (with_reducible refine Bl.set ?_ (by simp <;> omega) _) | (with_reducible refine Bl.drewN ?_ _) | (with_reducible refine Bl.drew ?_) | (with_reducible refine Bl.alloc ?_ _) | (with_reducible refine Bl.next ?_ ‹_›)))), cells2 (hx1'.bl (by repeat (first | with_reducible assumption | with_reducible exact Bl.refl _ | (with_reducible refine Bl.set ?_ (by simp <;> omega) _) | (with_reducible refine Bl.drewN ?_ _) | (with_reducible refine Bl.drew ?_) | (with_reducible refine Bl.alloc ?_ _) | (with_reducible refine Bl.next ?_ ‹_›))))⟩) (first | (go_at_call 8; with_reducible refine (toMesh_any _ (x := y) (h'.bl (by repeat (first | with_reducible assumption | with_reducible exact Bl.refl _ | (with_reducible refine Bl.set ?_ (by simp <;> omega) _) | (with_reducible refine Bl.drewN ?_ _) | (with_reducible refine Bl.drew ?_) | (with_reducible refine Bl.alloc ?_ _) | (with_reducible refine Bl.next ?_ ‹_›)))) (k'.bl (by repeat (first | with_reducible assumption | with_reducible exact Bl.refl _ | (with_reducible refine Bl.set ?_ (by simp <;> omega) _) | (with_reducible refine Bl.drewN ?_ _) | (with_reducible refine Bl.drew ?_) | (with_reducible refine Bl.alloc ?_ _) | (with_reducible refine Bl.next ?_ ‹_›)))) (by omega)).mono ?_; rintro e w11 ⟨P3, P4, rfl, hO10, hb11⟩) | (go_at_call 10; with_reducible refine (eqMesh_any _ (x := y) (hO9.rdP.bl (by repeat (first | with_reducible assumption | with_reducible exact Bl.refl _ | (with_reducible refine Bl.set ?_ (by simp <;> omega) _) | (with_reducible refine Bl.drewN ?_ _) | (with_reducible refine Bl.drew ?_) | (with_reducible refine Bl.alloc ?_ _) | (with_reducible refine Bl.next ?_ ‹_›)))) (hO9.rdT.bl (by repeat (first | with_reducible assumption | with_reducible exact Bl.refl _ | (with_reducible refine Bl.set ?_ (by simp <;> omega) _) | (with_reducible refine Bl.drewN ?_ _) | (with_reducible refine Bl.drew ?_) | (with_reducible refine Bl.alloc ?_ _) | (with_reducible refine Bl.next ?_ ‹_›)))) (hO10.rdP.bl (by repeat (first | with_reducible assumption | with_reducible exact Bl.refl _ | (with_reducible refine Bl.set ?_ (by simp <;> omega) _) | (with_reducible refine Bl.drewN ?_ _) | (with_reducible refine Bl.drew ?_) | (with_reducible refine Bl.alloc ?_ _) | (with_reducible refine Bl.next ?_ ‹_›)))) (hO10.rdT.bl (by repeat (first | with_reducible assumption | with_reducible exact Bl.refl _ | (with_reducible refine Bl.set ?_ (by simp <;> omega) _) | (with_reducible refine Bl.drewN ?_ _) | (with_reducible refine Bl.drew ?_) | (with_reducible refine Bl.alloc ?_ _) | (with_reducible refine Bl.next ?_ ‹_›))))).mono ?_; rintro e w12 ⟨rfl, hb12⟩))
      have hb12w : Bl w w12 := (by repeat (first | with_reducible assumption | with_reducible exact Bl.refl _ | (with_reducible refine Bl.set ?_ (by simp <;> omega) _) | (with_reducible refine Bl.drewN ?_ _) | (with_reducible refine Bl.drew ?_) | (with_reducible refine Bl.alloc ?_ _) | (with_reducible refine Bl.next ?_ ‹_›)))
      go_wp2_with fail
      go_ret
      exact ⟨rfl, hb12w⟩
    · have e2 := lft_no s2
      go_enter Try.func3, Try.ntmps3
      go_wp2_with fail
      refine (szMesh_any _ (h.bl (by repeat (first | with_reducible assumption | with_reducible exact Bl.refl _ | (with_reducible refine Bl.set ?_ (by simp <;> omega) _) | (with_reducible refine Bl.drewN ?_ _) | (with_reducible refine Bl.drew ?_) | (with_reducible refine Bl.alloc ?_ _) | (with_reducible refine Bl.next ?_ ‹_›)))) (k.bl (by repeat (first | with_reducible assumption | with_reducible exact Bl.refl _ | (with_reducible refine Bl.set ?_ (by simp <;> omega) _) | (with_reducible refine Bl.drewN ?_ _) | (with_reducible refine Bl.drew ?_) | (with_reducible refine Bl.alloc ?_ _) | (with_reducible refine Bl.next ?_ ‹_›)))) (by omega) (by omega)).mono ?_
      rintro e w1 ⟨rfl, hb⟩
      rw [e1]
      have hbb := Bl.next (Bl.refl ((w.alloc (.cells #[.slice A n c, .slice B m d] 25)).alloc (.cells #[.slice A' n' c', .slice B' m' d'] 25))) hb
      obtain ⟨hc, hf⟩ := bcell hbb
      have hz := hbb.size
      have hb1 : Bl w w1 := (by repeat (first | with_reducible assumption | with_reducible exact Bl.refl _ | (with_reducible refine Bl.set ?_ (by simp <;> omega) _) | (with_reducible refine Bl.drewN ?_ _) | (with_reducible refine Bl.drew ?_) | (with_reducible refine Bl.alloc ?_ _) | (with_reducible refine Bl.next ?_ ‹_›)))
      simp only [World.size_alloc] at hz
      have hz1_0 : w.heap.size < w1.heap.size := by omega
      have hz1_1 : w.heap.size + 1 < w1.heap.size := by omega
      clear hb
      go_wp2_with fail
      refine (szMesh_any _ (h'.bl hb1) (k'.bl hb1) (by omega) (by omega)).mono ?_
      rintro e w2 ⟨rfl, hb⟩
      rw [e2]
      have hb2 : Bl w w2 := (by repeat (first | with_reducible assumption | with_reducible exact Bl.refl _ | (with_reducible refine Bl.set ?_ (by simp <;> omega) _) | (with_reducible refine Bl.drewN ?_ _) | (with_reducible refine Bl.drew ?_) | (with_reducible refine Bl.alloc ?_ _) | (with_reducible refine Bl.next ?_ ‹_›)))
      go_wp2_with fail
      go_ret
      exact ⟨rfl, hb2⟩
  · have e1 := lft_no s1
    go_enter Try.func3, Try.ntmps3
    go_wp2_with fail
    refine (szMesh_any _ (h.bl (by repeat (first | with_reducible assumption | with_reducible exact Bl.refl _ | (with_reducible refine Bl.set ?_ (by simp <;> omega) _) | (with_reducible refine Bl.drewN ?_ _) | (with_reducible refine Bl.drew ?_) | (with_reducible refine Bl.alloc ?_ _) | (with_reducible refine Bl.next ?_ ‹_›)))) (k.bl (by repeat (first | with_reducible assumption | with_reducible exact Bl.refl _ | (with_reducible refine Bl.set ?_ (by simp <;> omega) _) | (with_reducible refine Bl.drewN ?_ _) | (with_reducible refine Bl.drew ?_) | (with_reducible refine Bl.alloc ?_ _) | (with_reducible refine Bl.next ?_ ‹_›)))) (by omega) (by omega)).mono ?_
    rintro e w1 ⟨rfl, hb⟩
    rw [e1]
    have hb1 : Bl w w1 := (by repeat (first | with_reducible assumption | with_reducible exact Bl.refl _ | (with_reducible refine Bl.set ?_ (by simp <;> omega) _) | (with_reducible refine Bl.drewN ?_ _) | (with_reducible refine Bl.drew ?_) | (with_reducible refine Bl.alloc ?_ _) | (with_reducible refine Bl.next ?_ ‹_›)))
    go_wp2_with fail
    go_ret
    exact ⟨rfl, hb1⟩

end Go.Proofs.Ytmnpjkmmbnikpaa
