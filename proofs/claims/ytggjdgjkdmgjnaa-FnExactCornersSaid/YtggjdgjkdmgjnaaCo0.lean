/- The corners of a triangle: plain words, copies. -/
import Derived.Test.YtggjdgjkdmgjnaaRows
import Derived.Test.YtggjdgjkdmgjnaaRw
import Derived.Test.YtggjdgjkdmgjnaaLc
import Derived.Test.YtggjdgjkdmgjnaaWi
namespace Go.Proofs.Ytggjdgjkdmgjnaa

open Go.RowKit

/-- The indices of a triangle's corners. -/
def triIx (t : TriD) : Nat → Int
  | 0 => t.a
  | 1 => t.b
  | _ + 2 => t.c
def OkIx (n : Nat) (t : TriD) (k : Nat) : Prop := ∀ j, j < k → 0 ≤ triIx t j ∧ triIx t j ≤ (n : Int) - 1
def cornTo (l : List PtD) (t : TriD) (k : Nat) : List PtD := (List.range k).map fun j => pix l (triIx t j).toNat
theorem cornTo_len (l : List PtD) (t : TriD) (k : Nat) : (cornTo l t k).length = k := by simp [cornTo]
theorem cornTo_succ (l : List PtD) (t : TriD) (k : Nat) : cornTo l t (k + 1) = cornTo l t k ++ [pix l (triIx t k).toNat] := by unfold cornTo; rw [List.range_succ, List.map_append]; rfl
theorem OkIx.step {n : Nat} {t : TriD} {k : Nat} (h : OkIx n t k) (h0 : 0 ≤ triIx t k ∧ triIx t k ≤ (n : Int) - 1) : OkIx n t (k + 1) := by
  intro j hj
  rcases Nat.lt_succ_iff_lt_or_eq.1 hj with hj | rfl
  · exact h j hj
  · exact h0
open Classical in
/-- The corners of triangle k of a mesh. -/
noncomputable def cornL (x : MeD) (k : Int) : List PtD :=
  if (0 ≤ k ∧ k ≤ (x.tris.length : Int) - 1) ∧ OkIx x.points.length (pix x.tris k.toNat) 3 then cornTo x.points (pix x.tris k.toNat) 3 else []
set_option maxHeartbeats 400000 in
theorem l07Tri_any (w : World) (a b c r v : Int) :
    Calls Try.prog 23 #[.agg #[.int .i64 a, .int .i64 b, .int .i64 c, .int .i64 r, .int .i64 v]] w fun e w' => ∃ g, e = .returned (.slice (some ⟨g, 0, none⟩) 3 3) ∧ w.heap.size ≤ g ∧ Blk w' g 3 #[.int .i64 a, .int .i64 b, .int .i64 c] ∧ Bl w w' := by
  go_enter Try.func23, Try.ntmps23
  go_wp2_with fail
  go_ret
  exact ⟨_, rfl, by omega, Blk.new1 _ _ _ _, slc⟩
theorem OwPN.far {T : TypeId} {b0 : Nat} {w : World} {s : Bool} {A : Option Addr} {n c : Nat} {B : Option Addr} {m d : Nat} {t : Bool} {C : Option Addr} {i e : Nat} {D : Option Addr} {j f : Nat} {p : PtD} (h : OwPN AnyN T b0 w s A n c B m d t C i e D j f p) {q : Addr} (hp : q.block < b0) (u : Value) : OwPN AnyN T b0 (w.setCell q u) s A n c B m d t C i e D j f p := by
  obtain ⟨b1, b2, h1, h2, hf, _⟩ := h
  exact ⟨b1, b2, h1.keep (by simp) (fun b hb => Below.heap_setCell w q u b (by have := (hf b (by simp [hb])).1; omega)), h2.keep (by simp) (fun b hb => Below.heap_setCell w q u b (by have := (hf b (by simp [hb])).1; omega)), fun b hb => by have := hf b hb; simpa using this, trivial⟩
theorem OwPN.low {N : List Nat → Prop} {T : TypeId} {b0 b1 : Nat} {w : World} {s : Bool} {A : Option Addr} {n c : Nat} {B : Option Addr} {m d : Nat} {t : Bool} {C : Option Addr} {i e : Nat} {D : Option Addr} {j f : Nat} {p : PtD} (h : OwPN N T b1 w s A n c B m d t C i e D j f p) (hb : b0 ≤ b1) : OwPN N T b0 w s A n c B m d t C i e D j f p := by
  obtain ⟨c1, c2, h1, h2, hf, hn⟩ := h
  exact ⟨c1, c2, h1, h2, fun b hm => ⟨Nat.le_trans hb (hf b hm).1, (hf b hm).2⟩, hn⟩
theorem OwPN.bl {N : List Nat → Prop} {T : TypeId} {b0 : Nat} {w W : World} {s : Bool} {A : Option Addr} {n c : Nat} {B : Option Addr} {m d : Nat} {t : Bool} {C : Option Addr} {i e : Nat} {D : Option Addr} {j f : Nat} {p : PtD} (h : OwPN N T b0 w s A n c B m d t C i e D j f p) (hb : Bl w W) : OwPN N T b0 W s A n c B m d t C i e D j f p := by
  obtain ⟨c1, c2, h1, h2, hf, hn⟩ := h
  exact ⟨c1, c2, h1.bl hb, h2.bl hb, fun b hm => ⟨(hf b hm).1, Nat.lt_of_lt_of_le (hf b hm).2 hb.size⟩, hn⟩
theorem OwPN.twoQ {T : TypeId} {b0 b1 : Nat} {w1 w : World} {s : Bool} {A : Option Addr} {n c : Nat} {B : Option Addr} {m d : Nat} {t : Bool} {C : Option Addr} {i e : Nat} {D : Option Addr} {j f : Nat} {p : PtD} (h : OwQ T b0 w1 s A n c B m d p.x) (k : OwQ T b1 w t C i e D j f p.y) (hb : Bl w1 w) (h1 : b0 ≤ b1) : OwPN AnyN T b0 w s A n c B m d t C i e D j f p := by
  obtain ⟨c1, f1, g1⟩ := h.bl hb
  obtain ⟨c2, f2, g2⟩ := k
  refine ⟨c1, c2, f1, f2, fun b hm => ?_, trivial⟩
  rcases List.mem_append.1 hm with hm | hm
  · exact g1 b hm
  · exact ⟨Nat.le_trans h1 (g2 b hm).1, (g2 b hm).2⟩
set_option maxRecDepth 100000 in
set_option maxHeartbeats 1000000 in
theorem l05Copy_any (w : World) {s : Bool} {A : Option Addr} {n c : Nat} {B : Option Addr} {m d : Nat} {t : Bool} {C : Option Addr} {i e : Nat} {D : Option Addr} {j f : Nat} {p : PtD} (h : RdR w s A n c B m d p.x) (k : RdR w t C i e D j f p.y) (hn : n ≤ 1048576) (hm : m ≤ 1048576) (hi : i ≤ 1048576) (hj : j ≤ 1048576) :
    Calls Try.prog 24 #[.agg #[.bool s, .slice A n c, .slice B m d, .bool t, .slice C i e, .slice D j f]] w fun en w' => ∃ s1 A1 n1 c1 B1 m1 d1 t1 C1 i1 e1 D1 j1 f1, en = .returned (.agg #[.bool s1, .slice A1 n1 c1, .slice B1 m1 d1, .bool t1, .slice C1 i1 e1, .slice D1 j1 f1]) ∧ OwPN AnyN 3 w.heap.size w' s1 A1 n1 c1 B1 m1 d1 t1 C1 i1 e1 D1 j1 f1 p ∧ Bl w w' := by
  go_enter Try.func24, Try.ntmps24
  go_wp2_with fail
  refine wp_gen (fun W => Bl w W ∧ Blk W (w.heap.size) 54 #[.bool s, .slice A n c, .slice B m d, .bool t, .slice C i e, .slice D j f] ∧ Wk 6 54 (w.heap.size + 1) W) ⟨slc, bts, bts⟩ ?_
  rintro W ⟨hbW, hx, hr⟩
  go_region_held3 (fun w' => (w'.cell? ⟨w.heap.size, 0, none⟩ = some (.bool s) ∧ w'.cell? ⟨w.heap.size, 1, none⟩ = some (.slice A n c) ∧ w'.cell? ⟨w.heap.size, 2, none⟩ = some (.slice B m d) ∧ w'.cell? ⟨w.heap.size, 3, none⟩ = some (.bool t) ∧ w'.cell? ⟨w.heap.size, 4, none⟩ = some (.slice C i e) ∧ w'.cell? ⟨w.heap.size, 5, none⟩ = some (.slice D j f)) ∧ (w'.cell? ⟨w.heap.size + 1, 0, none⟩ = some (cellD w' (w.heap.size + 1) 0) ∧ w'.cell? ⟨w.heap.size + 1, 1, none⟩ = some (cellD w' (w.heap.size + 1) 1) ∧ w'.cell? ⟨w.heap.size + 1, 2, none⟩ = some (cellD w' (w.heap.size + 1) 2) ∧ w'.cell? ⟨w.heap.size + 1, 3, none⟩ = some (cellD w' (w.heap.size + 1) 3) ∧ w'.cell? ⟨w.heap.size + 1, 4, none⟩ = some (cellD w' (w.heap.size + 1) 4) ∧ w'.cell? ⟨w.heap.size + 1, 5, none⟩ = some (cellD w' (w.heap.size + 1) 5)) ∧ w'.frozen? ⟨w.heap.size + 1, 0, none⟩ = false ∧ w'.frozen? ⟨w.heap.size + 1, 1, none⟩ = false ∧ w'.frozen? ⟨w.heap.size + 1, 2, none⟩ = false ∧ w'.frozen? ⟨w.heap.size + 1, 3, none⟩ = false ∧ w'.frozen? ⟨w.heap.size + 1, 4, none⟩ = false ∧ w'.frozen? ⟨w.heap.size + 1, 5, none⟩ = false) (first | exact ⟨bx6 (T := 54) bts, Wk.out6 (T := 54) bts⟩) (first | (go_at_call 41; with_reducible refine (l04Copy_any _ (h.bl slc) hn hm).mono ?_; rintro en w2 ⟨s1, A1, n1, c1, B1, m1, d1, rfl, hR1, hb2⟩) | (go_at_call 41; with_reducible refine (l04Copy_any _ (k.bl slc) hi hj).mono ?_; rintro en w3 ⟨t1, C1, i1, e1, D1, j1, f1, rfl, hR2, hb3⟩))
  have hz : w.heap.size + 1 + 1 ≤ W.heap.size := hr.lt
  have hz2 : W.heap.size ≤ w2.heap.size := (Bl.size hb2 : W.drew.heap.size ≤ _)
  have hr := (show Wk 6 54 (w.heap.size + 1) w3 from bts)
  have hbW : Bl w w3 := slc
  have hX := OwPN.low (OwPN.twoQ hR1 hR2 hb3 (Bl.size hb2)) (show w.heap.size + 1 + 1 ≤ W.drew.heap.size from hz)
  obtain ⟨v0, x0⟩ := hr.val_ (i := 0) (by omega)
  obtain ⟨v1, x1⟩ := hr.val_ (i := 1) (by omega)
  obtain ⟨v2, x2⟩ := hr.val_ (i := 2) (by omega)
  obtain ⟨v3, x3⟩ := hr.val_ (i := 3) (by omega)
  obtain ⟨v4, x4⟩ := hr.val_ (i := 4) (by omega)
  obtain ⟨v5, x5⟩ := hr.val_ (i := 5) (by omega)
  have hg := hr.lt
  obtain ⟨cs4, hB4, hc4⟩ := hr
  have hf0 := hB4.frozen 0
  have hf1 := hB4.frozen 1
  have hf2 := hB4.frozen 2
  have hf3 := hB4.frozen 3
  have hf4 := hB4.frozen 4
  have hf5 := hB4.frozen 5
  go_wp2_with fail
  exact bodyPost_ret (v := .agg #[.bool s1, .slice A1 n1 c1, .slice B1 m1 d1, .bool t1, .slice C1 i1 e1, .slice D1 j1 f1]) (by simp [results, Try.results24, go_sem, x0, x1, x2, x3, x4, x5]) rfl ⟨_, _, _, _, _, _, _, _, _, _, _, _, _, _, rfl, ((((((hX.far (by simp) _).far (by simp) _).far (by simp) _).far (by simp) _).far (by simp) _).far (by simp) _).low (by omega), slc⟩

end Go.Proofs.Ytggjdgjkdmgjnaa
