import Derived.Test.YtggjdgjkdmgjnaaGreatRows
import Derived.Test.YtggjdgjkdmgjnaaGreatN6
namespace Go.Proofs.YtggjdgjkdmgjnaaGreat

open Go.RowKit

theorem box3 {w W : World} {a b c : Value} {T : TypeId} (h : Bl (w.alloc (.cells #[a, b, c] T)) W) :
    W.cell? ⟨w.heap.size, 0, none⟩ = some a ∧ W.cell? ⟨w.heap.size, 1, none⟩ = some b ∧ W.cell? ⟨w.heap.size, 2, none⟩ = some c := by
  refine ⟨?_, ?_, ?_⟩ <;> (rw [h.cellOf (by simp)]; simp [go_sem])
/-- Block g has three cells that may be written. -/
def Wr3 (T : TypeId) (g : Nat) (W : World) : Prop := ∃ cs, Blk W g T cs ∧ cs.size = 3
theorem Wr3.bl {T : TypeId} {g : Nat} {w W : World} (h : Wr3 T g w) (hb : Bl w W) : Wr3 T g W := by
  obtain ⟨cs, h1, h2⟩ := h
  exact ⟨cs, h1.bl hb, h2⟩
theorem Wr3.set {T : TypeId} {g : Nat} {w : World} (h : Wr3 T g w) (i : Nat) (u : Value) : Wr3 T g (w.setCell ⟨g, i, none⟩ u) := by
  obtain ⟨cs, h1, h2⟩ := h
  exact ⟨_, h1.set_ i u, by simp [h2]⟩
theorem Wr3.new (T : TypeId) (w : World) (a b c : Value) : Wr3 T w.heap.size (w.alloc (.cells #[a, b, c] T)) := ⟨_, Blk.new _ _ _, rfl⟩
theorem Wr3.new2 (T : TypeId) (w : World) (o : Obj) (a b c : Value) : Wr3 T (w.heap.size + 1) ((w.alloc o).alloc (.cells #[a, b, c] T)) := by
  have := Wr3.new T (w.alloc o) a b c
  rwa [World.size_alloc] at this
theorem Wr3.drew {T : TypeId} {g : Nat} {w : World} (h : Wr3 T g w) : Wr3 T g w.drew := h
/-- What a cell holds (a plain def: a fact of it is a rule that does not run away). -/
def cellD (w : World) (g i : Nat) : Value := (w.cell? ⟨g, i, none⟩).getD undef
theorem cellD_eq {w : World} {g i : Nat} (h : ∃ v, w.cell? ⟨g, i, none⟩ = some v) : w.cell? ⟨g, i, none⟩ = some (cellD w g i) := by
  obtain ⟨v, h⟩ := h
  unfold cellD
  rw [h]; rfl
theorem Wr3.out {T : TypeId} {g : Nat} {w : World} (h : Wr3 T g w) : (w.cell? ⟨g, 0, none⟩ = some (cellD w g 0) ∧ w.cell? ⟨g, 1, none⟩ = some (cellD w g 1) ∧ w.cell? ⟨g, 2, none⟩ = some (cellD w g 2)) ∧ w.frozen? ⟨g, 0, none⟩ = false ∧ w.frozen? ⟨g, 1, none⟩ = false ∧ w.frozen? ⟨g, 2, none⟩ = false := by
  obtain ⟨cs, h1, h2⟩ := h
  exact ⟨⟨cellD_eq (h1.some (by omega)), cellD_eq (h1.some (by omega)), cellD_eq (h1.some (by omega))⟩, h1.frozen 0, h1.frozen 1, h1.frozen 2⟩

theorem OwR.far {T : TypeId} {b0 : Nat} {w : World} {s : Bool} {A : Option Addr} {n c : Nat} {B : Option Addr} {m d : Nat} {r : RatD} (h : OwR T b0 w s A n c B m d r) {p : Addr} (hp : p.block < b0) (u : Value) : OwR T b0 (w.setCell p u) s A n c B m d r := by
  obtain ⟨bs, h, hf⟩ := h
  exact ⟨bs, h.keep (by simp) (fun b hb => Below.heap_setCell w p u b (by have := (hf.2 b hb).1; omega)), hf.mono (Nat.le_refl _) (by simp)⟩
theorem OwR.two' {T : TypeId} {b0 : Nat} {w w1 : World} {s : Bool} {A : Option Addr} {n c : Nat} {B : Option Addr} {m d : Nat} {r : RatD} (h : OwI T b0 w1 A n c r.mag) (k : OwI T w1.heap.size w B m d r.den) (hb : Bl w1 w) (h0 : b0 ≤ w1.heap.size) (hs : s = r.neg) : OwR T b0 w s A n c B m d r := by
  obtain ⟨_, _, _⟩ := r
  subst hs
  exact OwR.two h k hb h0
set_option maxRecDepth 100000 in
set_option maxHeartbeats 2000000 in
theorem copyRat_any (w : World) {s : Bool} {A : Option Addr} {n c : Nat} {B : Option Addr} {m d : Nat} {r : RatD} (h : RdR w s A n c B m d r) (hn : n ≤ 1048576) (hm : m ≤ 1048576) :
    Calls Tryz.prog 131 #[.agg #[.bool s, .slice A n c, .slice B m d]] w fun e w' => ∃ A' n' c' B' m' d', e = .returned (.agg #[.bool s, .slice A' n' c', .slice B' m' d']) ∧ OwR 3 w.heap.size w' s A' n' c' B' m' d' r ∧ Bl w w' := by
  go_enter Tryz.func131, Tryz.ntmps131
  go_wp2_with fail
  go_region_held3 (fun w' => (w'.cell? ⟨w.heap.size, 0, none⟩ = some (.bool s) ∧ w'.cell? ⟨w.heap.size, 1, none⟩ = some (.slice A n c) ∧ w'.cell? ⟨w.heap.size, 2, none⟩ = some (.slice B m d)) ∧ (w'.cell? ⟨w.heap.size + 1, 0, none⟩ = some (cellD w' (w.heap.size + 1) 0) ∧ w'.cell? ⟨w.heap.size + 1, 1, none⟩ = some (cellD w' (w.heap.size + 1) 1) ∧ w'.cell? ⟨w.heap.size + 1, 2, none⟩ = some (cellD w' (w.heap.size + 1) 2)) ∧ w'.frozen? ⟨w.heap.size + 1, 0, none⟩ = false ∧ w'.frozen? ⟨w.heap.size + 1, 1, none⟩ = false ∧ w'.frozen? ⟨w.heap.size + 1, 2, none⟩ = false) (first | exact ⟨box3 slc, Wr3.out (T := 34) (by repeat (first | with_reducible exact Wr3.new2 _ _ _ _ _ _ | (with_reducible refine Wr3.drew ?_) | (with_reducible refine Wr3.set ?_ _ _) | (with_reducible refine Wr3.bl ?_ ‹Bl _ _›)))⟩) (first | (go_at_call 156; with_reducible refine (Clone_any _ (h.mag.bl slc) hn).mono ?_; rintro e w3 ⟨A1, k1, c1, rfl, hO1, hb3⟩) | (go_at_call 156; with_reducible refine (Clone_any _ (h.den.bl slc) hm).mono ?_; rintro e w4 ⟨A2, k2, c2, rfl, hO2, hb4⟩))
  have hs := h.neg
  have hb1 : Bl w w4 := slc
  have hz3 := hb3.size
  have hz4 := hb4.size
  have hR : OwR 3 (w.heap.size + 2) w4 s A1 k1 c1 A2 k2 c2 r := (OwR.two' hO1 hO2 hb4 hz3 hs).mono (show w.heap.size + 2 ≤ ((w.alloc (.cells #[.bool s, .slice A n c, .slice B m d] 34)).alloc (.cells #[.bool false, .slice none 0 0, .slice none 0 0] 34)).heap.size by simp)
  have hg : w.heap.size + 1 < w4.heap.size := by
    have : w.heap.size + 2 ≤ ((w.alloc (.cells #[.bool s, .slice A n c, .slice B m d] 34)).alloc (.cells #[.bool false, .slice none 0 0, .slice none 0 0] 34)).heap.size := by simp
    exact Nat.lt_of_lt_of_le (show w.heap.size + 1 < w.heap.size + 2 by omega) (Nat.le_trans this (Nat.le_trans hz3 hz4))
  obtain ⟨cs3, hB3, hcs3⟩ : Wr3 34 (w.heap.size + 1) w4 := ((Wr3.new2 34 w _ _ _ _).drew.bl hb3).bl hb4
  obtain ⟨v0, x0⟩ := hB3.some (i := 0) (by omega)
  obtain ⟨v1, x1⟩ := hB3.some (i := 1) (by omega)
  obtain ⟨v2, x2⟩ := hB3.some (i := 2) (by omega)
  go_wp2_with fail
  refine bodyPost_ret (v := .agg #[.bool s, .slice A1 k1 c1, .slice A2 k2 c2]) (by simp [results, Tryz.results131, go_sem, x0, x1, x2]) rfl ⟨_, _, _, _, _, _, rfl, (((hR.far (by simp) _).far (by simp) _).far (by simp) _).mono (by omega), slc⟩

end Go.Proofs.YtggjdgjkdmgjnaaGreat
