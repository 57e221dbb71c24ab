/- The mesh of an L-shaped domain: the reference's. -/
import Derived.Test.YtggjdgjkdmgjnaaRows
import Derived.Test.YtggjdgjkdmgjnaaCm1
namespace Go.Proofs.Ytggjdgjkdmgjnaa

open Go.RowKit

/-- The list of lists of numbers that the reference's mesh is made of. -/
def LitS (gm : Nat) (W : World) : Prop := Blk W (gm + 1 + 6) 45 #[.slice (some ⟨gm + 1 + 0, 0, none⟩) 3 3, .slice (some ⟨gm + 1 + 1, 0, none⟩) 3 3, .slice (some ⟨gm + 1 + 2, 0, none⟩) 3 3, .slice (some ⟨gm + 1 + 3, 0, none⟩) 3 3, .slice (some ⟨gm + 1 + 4, 0, none⟩) 3 3, .slice (some ⟨gm + 1 + 5, 0, none⟩) 3 3] ∧ ∀ k, k < 6 → Blk W (gm + 1 + k) 3 #[.int .i64 (cA k), .int .i64 (cB k), .int .i64 (cC k)]
theorem lits (gm k : Nat) (h : k < 6) : (#[.slice (some ⟨gm + 1 + 0, 0, none⟩) 3 3, .slice (some ⟨gm + 1 + 1, 0, none⟩) 3 3, .slice (some ⟨gm + 1 + 2, 0, none⟩) 3 3, .slice (some ⟨gm + 1 + 3, 0, none⟩) 3 3, .slice (some ⟨gm + 1 + 4, 0, none⟩) 3 3, .slice (some ⟨gm + 1 + 5, 0, none⟩) 3 3] : Array Value)[k]? = some (.slice (some ⟨gm + 1 + k, 0, none⟩) 3 3) := by
  rcases (show k = 0 ∨ k = 1 ∨ k = 2 ∨ k = 3 ∨ k = 4 ∨ k = 5 by omega) with rfl | rfl | rfl | rfl | rfl | rfl <;> rfl
theorem LitS.keep {gm : Nat} {w W : World} (h : LitS gm w) (hk : ∀ g, gm + 1 ≤ g → g ≤ gm + 1 + 6 → W.heap[g]? = w.heap[g]?) : LitS gm W :=
  ⟨(hk _ (by omega) (by omega)).trans h.1, fun k hk2 => (hk _ (by omega) (by omega)).trans (h.2 k hk2)⟩
theorem LitS.lt {gm : Nat} {w : World} (h : LitS gm w) : gm + 1 + 6 < w.heap.size := h.1.lt

theorem OwP.blQ {T : TypeId} {b0 : Nat} {w W : World} {s : Bool} {A : Option Addr} {n c : Nat} {B : Option Addr} {m d : Nat} {t : Bool} {C : Option Addr} {i e : Nat} {D : Option Addr} {j f : Nat} {p : PtD} (h : OwP T b0 w s A n c B m d t C i e D j f p) (hb : Bl w W) : RdR W s A n c B m d p.x ∧ RdR W t C i e D j f p.y := by
  obtain ⟨b1, b2, h1, h2, _⟩ := h
  exact ⟨h1.rd.bl hb, h2.rd.bl hb⟩
theorem Blk.newAt {w : World} {g : Nat} {T : TypeId} {cs : Array Value} (h : g = w.heap.size) : Blk (w.alloc (.cells cs T)) g T cs := by subst h; exact Blk.new _ _ _
/-- Points in a block, all of them from lo on. -/
def PtsX (lo : Nat) (w : World) (g : Nat) (l : List PtD) (n : Nat) : Prop :=
  ∃ cs fs, Blk w g 54 cs ∧ n * 6 ≤ cs.size ∧ PtsIn 3 w cs l n fs ∧ (∀ b ∈ fs.flatten, lo ≤ b ∧ b < w.heap.size) ∧ lo ≤ g
theorem PtsX.bl {lo : Nat} {w W : World} {g n : Nat} {l : List PtD} (h : PtsX lo w g l n) (hb : Bl w W) : PtsX lo W g l n := by
  obtain ⟨cs, fs, h1, h2, h3, h4, h5⟩ := h
  exact ⟨cs, fs, h1.bl hb, h2, h3.bl hb fun b hm => (h4 b hm).2, fun b hm => ⟨(h4 b hm).1, Nat.lt_of_lt_of_le (h4 b hm).2 hb.size⟩, h5⟩
theorem PtsX.set {lo : Nat} {w : World} {g n : Nat} {l : List PtD} (h : PtsX lo w g l n) {q : Addr} (hq : q.block < lo) (u : Value) : PtsX lo (w.setCell q u) g l n := by
  obtain ⟨cs, fs, h1, h2, h3, h4, h5⟩ := h
  exact ⟨cs, fs, h1.far (by omega) u, h2, ⟨h3.1, fun i hi => (h3.2 i hi).keep (fun _ _ => rfl) (by simp) fun b hb => Below.heap_setCell w q u b (by have := h4 b (mem_flatten_pix hb); omega)⟩, fun b hm => by have := h4 b hm; simpa using this, h5⟩
theorem PtsX.rd {lo : Nat} {w : World} {g n : Nat} {l : List PtD} (h : PtsX lo w g l n) (hl : l.length = n) (hn : n ≤ 1048576) : RdPS w (some ⟨g, 0, none⟩) n n l := by
  obtain ⟨cs, fs, h1, h2, h3, h4, h5⟩ := h
  exact h3.rd h1 hl (by omega) (Nat.le_refl _)
theorem RowT.set {lo : Nat} {w : World} {v : Value} {t : List TriD} (h : RowT lo w.heap.size w v t) {q : Addr} (hq : q.block < lo) (u : Value) : RowT lo (w.setCell q u).heap.size (w.setCell q u) v t := by
  have hs : (w.setCell q u).heap.size = w.heap.size := by simp
  rw [hs]
  exact RowG.keep trIn_keep h (by omega) fun b h1 _ => Below.heap_setCell w q u b (by omega)
theorem RowT.rd {lo hi : Nat} {w : World} {v : Value} {t : List TriD} (h : RowT lo hi w v t) (hl : t.length ≤ 1048576) : ∃ B d, v = .slice B t.length d ∧ RdTS w B t.length d t := by
  obtain ⟨cells', fs', s1, s2, s3, s4, s5, s6, s7⟩ := h
  rcases s1.2 with ⟨rfl, h0⟩ | ⟨g', cap', cur', rfl, hg', hh', hn', hcap', hcs', htk'⟩
  · refine ⟨none, 0, by rw [h0], ?_⟩
    rw [List.length_eq_zero_iff.1 h0]
    exact RdS.nil _ _ _
  · refine ⟨_, cap', rfl, TrsIn.rd (fun i hi => ?_) hh' rfl (by omega) hn'⟩
    have hc : ∀ j, j < 5 → cur'[i * 5 + j]? = cells'.toArray[i * 5 + j]? := by
      intro j hj
      rw [← htk']
      have : i * 5 + j < t.length * 5 := by omega
      simp [this]
    obtain ⟨g0, g1, g2, g3, g4⟩ := (s4 i hi).1
    exact ⟨(hc 0 (by omega)).trans g0, (hc 1 (by omega)).trans g1, (hc 2 (by omega)).trans g2, (hc 3 (by omega)).trans g3, (hc 4 (by omega)).trans g4⟩
set_option maxRecDepth 100000 in
set_option maxHeartbeats 4000000 in
theorem sCornerMesh_any (w : World) :
    Calls Try.prog 15 #[] w fun e w' => ∃ A n c B m d, e = .returned (.agg #[.slice A n c, .slice B m d]) ∧ RdPS w' A n c cMesh.points ∧ RdTS w' B m d cMesh.tris ∧ Bl w w' := by
  go_enter Try.func15, Try.ntmps15
  go_wp2_with fail
  refine calls_gen (fun W => Blk W w.heap.size 31 #[.slice none 0 0, .slice none 0 0] ∧ Bl w W) ⟨by exact bts, slc⟩ ?_
  rintro W1 ⟨h0, hbW⟩
  have hz01 := h0.lt
  refine (sPointAt_any _ 0 0 (by omega) (by omega) (by omega) (by omega)).mono ?_
  rintro e u0 ⟨s0, A0, n0, c0, B0, m0, d0, t0, C0, i0, e0, D0, j0, f0, rfl, hP0, hv0⟩
  go_wp2_with fail
  refine (sPointAt_any _ 1 0 (by omega) (by omega) (by omega) (by omega)).mono ?_
  rintro e u1 ⟨s1, A1, n1, c1, B1, m1, d1, t1, C1, i1, e1, D1, j1, f1, rfl, hP1, hv1⟩
  go_wp2_with fail
  refine (sPointAt_any _ 2 0 (by omega) (by omega) (by omega) (by omega)).mono ?_
  rintro e u2 ⟨s2, A2, n2, c2, B2, m2, d2, t2, C2, i2, e2, D2, j2, f2, rfl, hP2, hv2⟩
  go_wp2_with fail
  refine (sPointAt_any _ 2 1 (by omega) (by omega) (by omega) (by omega)).mono ?_
  rintro e u3 ⟨s3, A3, n3, c3, B3, m3, d3, t3, C3, i3, e3, D3, j3, f3, rfl, hP3, hv3⟩
  go_wp2_with fail
  refine (sPointAt_any _ 1 1 (by omega) (by omega) (by omega) (by omega)).mono ?_
  rintro e u4 ⟨s4, A4, n4, c4, B4, m4, d4, t4, C4, i4, e4, D4, j4, f4, rfl, hP4, hv4⟩
  go_wp2_with fail
  refine (sPointAt_any _ 1 2 (by omega) (by omega) (by omega) (by omega)).mono ?_
  rintro e u5 ⟨s5, A5, n5, c5, B5, m5, d5, t5, C5, i5, e5, D5, j5, f5, rfl, hP5, hv5⟩
  go_wp2_with fail
  refine (sPointAt_any _ 0 2 (by omega) (by omega) (by omega) (by omega)).mono ?_
  rintro e u6 ⟨s6, A6, n6, c6, B6, m6, d6, t6, C6, i6, e6, D6, j6, f6, rfl, hP6, hv6⟩
  go_wp2_with fail
  refine (sPointAt_any _ 0 1 (by omega) (by omega) (by omega) (by omega)).mono ?_
  rintro e u7 ⟨s7, A7, n7, c7, B7, m7, d7, t7, C7, i7, e7, D7, j7, f7, rfl, hP7, hv7⟩
  obtain ⟨a0, b0, fa0, fb0, hf0⟩ := hP0
  have fa0 := fa0.bl (show Bl u0 u7 from ((((((hv1.next hv2).next hv3).next hv4).next hv5).next hv6).next hv7))
  have fb0 := fb0.bl (show Bl u0 u7 from ((((((hv1.next hv2).next hv3).next hv4).next hv5).next hv6).next hv7))
  have ha0 : ∀ b ∈ a0 ++ b0, W1.heap.size ≤ b ∧ b < u7.heap.size := fun b hb => ⟨Nat.le_trans (Bl.size (show Bl W1 W1 from Bl.refl _)) (hf0.2 b hb).1, Nat.lt_of_lt_of_le (hf0.2 b hb).2 (Bl.size (show Bl u0 u7 from ((((((hv1.next hv2).next hv3).next hv4).next hv5).next hv6).next hv7)))⟩
  obtain ⟨a1, b1, fa1, fb1, hf1⟩ := hP1
  have fa1 := fa1.bl (show Bl u1 u7 from (((((hv2.next hv3).next hv4).next hv5).next hv6).next hv7))
  have fb1 := fb1.bl (show Bl u1 u7 from (((((hv2.next hv3).next hv4).next hv5).next hv6).next hv7))
  have ha1 : ∀ b ∈ a1 ++ b1, W1.heap.size ≤ b ∧ b < u7.heap.size := fun b hb => ⟨Nat.le_trans (Bl.size (show Bl W1 u0 from hv0)) (hf1.2 b hb).1, Nat.lt_of_lt_of_le (hf1.2 b hb).2 (Bl.size (show Bl u1 u7 from (((((hv2.next hv3).next hv4).next hv5).next hv6).next hv7)))⟩
  obtain ⟨a2, b2, fa2, fb2, hf2⟩ := hP2
  have fa2 := fa2.bl (show Bl u2 u7 from ((((hv3.next hv4).next hv5).next hv6).next hv7))
  have fb2 := fb2.bl (show Bl u2 u7 from ((((hv3.next hv4).next hv5).next hv6).next hv7))
  have ha2 : ∀ b ∈ a2 ++ b2, W1.heap.size ≤ b ∧ b < u7.heap.size := fun b hb => ⟨Nat.le_trans (Bl.size (show Bl W1 u1 from (hv0.next hv1))) (hf2.2 b hb).1, Nat.lt_of_lt_of_le (hf2.2 b hb).2 (Bl.size (show Bl u2 u7 from ((((hv3.next hv4).next hv5).next hv6).next hv7)))⟩
  obtain ⟨a3, b3, fa3, fb3, hf3⟩ := hP3
  have fa3 := fa3.bl (show Bl u3 u7 from (((hv4.next hv5).next hv6).next hv7))
  have fb3 := fb3.bl (show Bl u3 u7 from (((hv4.next hv5).next hv6).next hv7))
  have ha3 : ∀ b ∈ a3 ++ b3, W1.heap.size ≤ b ∧ b < u7.heap.size := fun b hb => ⟨Nat.le_trans (Bl.size (show Bl W1 u2 from ((hv0.next hv1).next hv2))) (hf3.2 b hb).1, Nat.lt_of_lt_of_le (hf3.2 b hb).2 (Bl.size (show Bl u3 u7 from (((hv4.next hv5).next hv6).next hv7)))⟩
  obtain ⟨a4, b4, fa4, fb4, hf4⟩ := hP4
  have fa4 := fa4.bl (show Bl u4 u7 from ((hv5.next hv6).next hv7))
  have fb4 := fb4.bl (show Bl u4 u7 from ((hv5.next hv6).next hv7))
  have ha4 : ∀ b ∈ a4 ++ b4, W1.heap.size ≤ b ∧ b < u7.heap.size := fun b hb => ⟨Nat.le_trans (Bl.size (show Bl W1 u3 from (((hv0.next hv1).next hv2).next hv3))) (hf4.2 b hb).1, Nat.lt_of_lt_of_le (hf4.2 b hb).2 (Bl.size (show Bl u4 u7 from ((hv5.next hv6).next hv7)))⟩
  obtain ⟨a5, b5, fa5, fb5, hf5⟩ := hP5
  have fa5 := fa5.bl (show Bl u5 u7 from (hv6.next hv7))
  have fb5 := fb5.bl (show Bl u5 u7 from (hv6.next hv7))
  have ha5 : ∀ b ∈ a5 ++ b5, W1.heap.size ≤ b ∧ b < u7.heap.size := fun b hb => ⟨Nat.le_trans (Bl.size (show Bl W1 u4 from ((((hv0.next hv1).next hv2).next hv3).next hv4))) (hf5.2 b hb).1, Nat.lt_of_lt_of_le (hf5.2 b hb).2 (Bl.size (show Bl u5 u7 from (hv6.next hv7)))⟩
  obtain ⟨a6, b6, fa6, fb6, hf6⟩ := hP6
  have fa6 := fa6.bl (show Bl u6 u7 from hv7)
  have fb6 := fb6.bl (show Bl u6 u7 from hv7)
  have ha6 : ∀ b ∈ a6 ++ b6, W1.heap.size ≤ b ∧ b < u7.heap.size := fun b hb => ⟨Nat.le_trans (Bl.size (show Bl W1 u5 from (((((hv0.next hv1).next hv2).next hv3).next hv4).next hv5))) (hf6.2 b hb).1, Nat.lt_of_lt_of_le (hf6.2 b hb).2 (Bl.size (show Bl u6 u7 from hv7))⟩
  obtain ⟨a7, b7, fa7, fb7, hf7⟩ := hP7
  have fa7 := fa7.bl (show Bl u7 u7 from Bl.refl _)
  have fb7 := fb7.bl (show Bl u7 u7 from Bl.refl _)
  have ha7 : ∀ b ∈ a7 ++ b7, W1.heap.size ≤ b ∧ b < u7.heap.size := fun b hb => ⟨Nat.le_trans (Bl.size (show Bl W1 u6 from ((((((hv0.next hv1).next hv2).next hv3).next hv4).next hv5).next hv6))) (hf7.2 b hb).1, Nat.lt_of_lt_of_le (hf7.2 b hb).2 (Bl.size (show Bl u7 u7 from Bl.refl _))⟩
  have hu7 : Bl w u7 := hbW.next ((((((((hv0.next hv1).next hv2).next hv3).next hv4).next hv5).next hv6).next hv7))
  have h0 := h0.bl ((((((((hv0.next hv1).next hv2).next hv3).next hv4).next hv5).next hv6).next hv7))
  have hz1 : w.heap.size < W1.heap.size := hz01
  have hz17 : W1.heap.size ≤ u7.heap.size := Bl.size ((((((((hv0.next hv1).next hv2).next hv3).next hv4).next hv5).next hv6).next hv7))
  clear hf0 hv0 hf1 hv1 hf2 hv2 hf3 hv3 hf4 hv4 hf5 hv5 hf6 hv6 hf7 hv7 hbW
  have hal : Bl u7 (u7.alloc (.cells #[.bool s0, .slice A0 n0 c0, .slice B0 m0 d0, .bool t0, .slice C0 i0 e0, .slice D0 j0 f0, .bool s1, .slice A1 n1 c1, .slice B1 m1 d1, .bool t1, .slice C1 i1 e1, .slice D1 j1 f1, .bool s2, .slice A2 n2 c2, .slice B2 m2 d2, .bool t2, .slice C2 i2 e2, .slice D2 j2 f2, .bool s3, .slice A3 n3 c3, .slice B3 m3 d3, .bool t3, .slice C3 i3 e3, .slice D3 j3 f3, .bool s4, .slice A4 n4 c4, .slice B4 m4 d4, .bool t4, .slice C4 i4 e4, .slice D4 j4 f4, .bool s5, .slice A5 n5 c5, .slice B5 m5 d5, .bool t5, .slice C5 i5 e5, .slice D5 j5 f5, .bool s6, .slice A6 n6 c6, .slice B6 m6 d6, .bool t6, .slice C6 i6 e6, .slice D6 j6 f6, .bool s7, .slice A7 n7 c7, .slice B7 m7 d7, .bool t7, .slice C7 i7 e7, .slice D7 j7 f7] 54)) := (Bl.refl u7).alloc _
  have hRP : PtsX W1.heap.size (u7.alloc (.cells #[.bool s0, .slice A0 n0 c0, .slice B0 m0 d0, .bool t0, .slice C0 i0 e0, .slice D0 j0 f0, .bool s1, .slice A1 n1 c1, .slice B1 m1 d1, .bool t1, .slice C1 i1 e1, .slice D1 j1 f1, .bool s2, .slice A2 n2 c2, .slice B2 m2 d2, .bool t2, .slice C2 i2 e2, .slice D2 j2 f2, .bool s3, .slice A3 n3 c3, .slice B3 m3 d3, .bool t3, .slice C3 i3 e3, .slice D3 j3 f3, .bool s4, .slice A4 n4 c4, .slice B4 m4 d4, .bool t4, .slice C4 i4 e4, .slice D4 j4 f4, .bool s5, .slice A5 n5 c5, .slice B5 m5 d5, .bool t5, .slice C5 i5 e5, .slice D5 j5 f5, .bool s6, .slice A6 n6 c6, .slice B6 m6 d6, .bool t6, .slice C6 i6 e6, .slice D6 j6 f6, .bool s7, .slice A7 n7 c7, .slice B7 m7 d7, .bool t7, .slice C7 i7 e7, .slice D7 j7 f7] 54)) u7.heap.size (cPts 8) 8 := by
    refine ⟨#[.bool s0, .slice A0 n0 c0, .slice B0 m0 d0, .bool t0, .slice C0 i0 e0, .slice D0 j0 f0, .bool s1, .slice A1 n1 c1, .slice B1 m1 d1, .bool t1, .slice C1 i1 e1, .slice D1 j1 f1, .bool s2, .slice A2 n2 c2, .slice B2 m2 d2, .bool t2, .slice C2 i2 e2, .slice D2 j2 f2, .bool s3, .slice A3 n3 c3, .slice B3 m3 d3, .bool t3, .slice C3 i3 e3, .slice D3 j3 f3, .bool s4, .slice A4 n4 c4, .slice B4 m4 d4, .bool t4, .slice C4 i4 e4, .slice D4 j4 f4, .bool s5, .slice A5 n5 c5, .slice B5 m5 d5, .bool t5, .slice C5 i5 e5, .slice D5 j5 f5, .bool s6, .slice A6 n6 c6, .slice B6 m6 d6, .bool t6, .slice C6 i6 e6, .slice D6 j6 f6, .bool s7, .slice A7 n7 c7, .slice B7 m7 d7, .bool t7, .slice C7 i7 e7, .slice D7 j7 f7], [a0 ++ b0, a1 ++ b1, a2 ++ b2, a3 ++ b3, a4 ++ b4, a5 ++ b5, a6 ++ b6, a7 ++ b7], Blk.new _ _ _, by simp, ⟨rfl, fun k hk => ?_⟩, fun b hb => ?_, hz17⟩
    · rcases (show k = 0 ∨ k = 1 ∨ k = 2 ∨ k = 3 ∨ k = 4 ∨ k = 5 ∨ k = 6 ∨ k = 7 by omega) with rfl | rfl | rfl | rfl | rfl | rfl | rfl | rfl
      · exact ⟨_, _, _, _, _, _, _, _, _, _, _, _, _, _, a0, b0, ⟨rfl, rfl, rfl, rfl, rfl, rfl⟩, fa0.bl hal, fb0.bl hal, rfl⟩
      · exact ⟨_, _, _, _, _, _, _, _, _, _, _, _, _, _, a1, b1, ⟨rfl, rfl, rfl, rfl, rfl, rfl⟩, fa1.bl hal, fb1.bl hal, rfl⟩
      · exact ⟨_, _, _, _, _, _, _, _, _, _, _, _, _, _, a2, b2, ⟨rfl, rfl, rfl, rfl, rfl, rfl⟩, fa2.bl hal, fb2.bl hal, rfl⟩
      · exact ⟨_, _, _, _, _, _, _, _, _, _, _, _, _, _, a3, b3, ⟨rfl, rfl, rfl, rfl, rfl, rfl⟩, fa3.bl hal, fb3.bl hal, rfl⟩
      · exact ⟨_, _, _, _, _, _, _, _, _, _, _, _, _, _, a4, b4, ⟨rfl, rfl, rfl, rfl, rfl, rfl⟩, fa4.bl hal, fb4.bl hal, rfl⟩
      · exact ⟨_, _, _, _, _, _, _, _, _, _, _, _, _, _, a5, b5, ⟨rfl, rfl, rfl, rfl, rfl, rfl⟩, fa5.bl hal, fb5.bl hal, rfl⟩
      · exact ⟨_, _, _, _, _, _, _, _, _, _, _, _, _, _, a6, b6, ⟨rfl, rfl, rfl, rfl, rfl, rfl⟩, fa6.bl hal, fb6.bl hal, rfl⟩
      · exact ⟨_, _, _, _, _, _, _, _, _, _, _, _, _, _, a7, b7, ⟨rfl, rfl, rfl, rfl, rfl, rfl⟩, fa7.bl hal, fb7.bl hal, rfl⟩
    · have hb2 : b ∈ a0 ++ b0 ∨ b ∈ a1 ++ b1 ∨ b ∈ a2 ++ b2 ∨ b ∈ a3 ++ b3 ∨ b ∈ a4 ++ b4 ∨ b ∈ a5 ++ b5 ∨ b ∈ a6 ++ b6 ∨ b ∈ a7 ++ b7 := by simpa [or_assoc] using hb
      have hs8 : (u7.alloc (.cells #[.bool s0, .slice A0 n0 c0, .slice B0 m0 d0, .bool t0, .slice C0 i0 e0, .slice D0 j0 f0, .bool s1, .slice A1 n1 c1, .slice B1 m1 d1, .bool t1, .slice C1 i1 e1, .slice D1 j1 f1, .bool s2, .slice A2 n2 c2, .slice B2 m2 d2, .bool t2, .slice C2 i2 e2, .slice D2 j2 f2, .bool s3, .slice A3 n3 c3, .slice B3 m3 d3, .bool t3, .slice C3 i3 e3, .slice D3 j3 f3, .bool s4, .slice A4 n4 c4, .slice B4 m4 d4, .bool t4, .slice C4 i4 e4, .slice D4 j4 f4, .bool s5, .slice A5 n5 c5, .slice B5 m5 d5, .bool t5, .slice C5 i5 e5, .slice D5 j5 f5, .bool s6, .slice A6 n6 c6, .slice B6 m6 d6, .bool t6, .slice C6 i6 e6, .slice D6 j6 f6, .bool s7, .slice A7 n7 c7, .slice B7 m7 d7, .bool t7, .slice C7 i7 e7, .slice D7 j7 f7] 54)).heap.size = u7.heap.size + 1 := by simp
      rw [hs8]
      rcases hb2 with hb2 | hb2 | hb2 | hb2 | hb2 | hb2 | hb2 | hb2
      · have := ha0 b hb2; omega
      · have := ha1 b hb2; omega
      · have := ha2 b hb2; omega
      · have := ha3 b hb2; omega
      · have := ha4 b hb2; omega
      · have := ha5 b hb2; omega
      · have := ha6 b hb2; omega
      · have := ha7 b hb2; omega
  clear fa0 fb0 ha0 fa1 fb1 ha1 fa2 fb2 ha2 fa3 fb3 ha3 fa4 fb4 ha4 fa5 fb5 ha5 fa6 fb6 ha6 fa7 fb7 ha7 hal
  go_wp2_with fail
  refine wp_gen (fun W => ∃ Wp gp gm, gm = Wp.heap.size ∧ gp = u7.heap.size ∧ PtsX W1.heap.size Wp gp (cPts 8) 8 ∧ Blk Wp w.heap.size 31 #[.slice none 0 0, .slice none 0 0] ∧ Bl w Wp ∧ Blk W gm 31 #[.slice (some ⟨gp, 0, none⟩) 8 8, .slice none 0 0] ∧ LitS gm W ∧ Bl Wp W ∧ gm = u7.heap.size + 1) ⟨u7.alloc (.cells #[.bool s0, .slice A0 n0 c0, .slice B0 m0 d0, .bool t0, .slice C0 i0 e0, .slice D0 j0 f0, .bool s1, .slice A1 n1 c1, .slice B1 m1 d1, .bool t1, .slice C1 i1 e1, .slice D1 j1 f1, .bool s2, .slice A2 n2 c2, .slice B2 m2 d2, .bool t2, .slice C2 i2 e2, .slice D2 j2 f2, .bool s3, .slice A3 n3 c3, .slice B3 m3 d3, .bool t3, .slice C3 i3 e3, .slice D3 j3 f3, .bool s4, .slice A4 n4 c4, .slice B4 m4 d4, .bool t4, .slice C4 i4 e4, .slice D4 j4 f4, .bool s5, .slice A5 n5 c5, .slice B5 m5 d5, .bool t5, .slice C5 i5 e5, .slice D5 j5 f5, .bool s6, .slice A6 n6 c6, .slice B6 m6 d6, .bool t6, .slice C6 i6 e6, .slice D6 j6 f6, .bool s7, .slice A7 n7 c7, .slice B7 m7 d7, .bool t7, .slice C7 i7 e7, .slice D7 j7 f7] 54), u7.heap.size, u7.heap.size + 1, by simp, rfl, hRP, h0.alloc _, hu7.alloc _, ?_, ?_, slc, rfl⟩ ?_
  · exact Blk.alloc (Blk.alloc (Blk.alloc (Blk.alloc (Blk.alloc (Blk.alloc (Blk.alloc (Blk.newAt (by simp)) _) _) _) _) _) _) _
  · refine ⟨Blk.newAt ?_, fun k hk => ?_⟩
    · simp
    rcases (show k = 0 ∨ k = 1 ∨ k = 2 ∨ k = 3 ∨ k = 4 ∨ k = 5 by omega) with rfl | rfl | rfl | rfl | rfl | rfl
    · exact Blk.alloc (Blk.alloc (Blk.alloc (Blk.alloc (Blk.alloc (Blk.alloc (Blk.newAt (by simp)) _) _) _) _) _) _
    · exact Blk.alloc (Blk.alloc (Blk.alloc (Blk.alloc (Blk.alloc (Blk.newAt (by simp)) _) _) _) _) _
    · exact Blk.alloc (Blk.alloc (Blk.alloc (Blk.alloc (Blk.newAt (by simp)) _) _) _) _
    · exact Blk.alloc (Blk.alloc (Blk.alloc (Blk.newAt (by simp)) _) _) _
    · exact Blk.alloc (Blk.alloc (Blk.newAt (by simp)) _) _
    · exact Blk.alloc (Blk.newAt (by simp)) _
  clear hRP h0 hu7
  rintro W ⟨Wp, gp, gm, hgm, hgp, hRP, h0, hbp, hm, hL, hbw, hg7⟩
  rw [← hg7, ← hgp]
  go_loopw [22] (fun i wr => ∃ (k : Nat) (vt : Value), k ≤ 6 ∧ i = .int .i64 (k : Int) ∧ Blk wr gm 31 #[.slice (some ⟨gp, 0, none⟩) 8 8, vt] ∧ RowT (gm + 1 + 6 + 1) wr.heap.size wr vt (cTrs k) ∧ LitS gm wr ∧ Bl Wp wr) (fun i _ => 6 - (intOf i).toNat)
  case atStart => exact ⟨0, .slice none 0 0, by omega, rfl, hm, RowG.nil appN_any _ (Nat.le_refl _), hL, hbw⟩
  case round =>
    clear hm hL hbw
    obtain ⟨k, vt, hk, rfl, hm, hrow, hL, hbw⟩ := hrel
    have hlp : Wp.heap.size ≤ gm + 1 + 6 + 1 := by omega
    have hgm' : Wp.heap.size ≤ gm := by omega
    clear hgm hgp hg7
    by_cases hk6 : k < 6
    · skip
      have hki : (k : Int) < 6 := by omega
      have y0 := (hL.1.cell k).trans (lits gm k hk6)
      have hLlt := hL.lt
      have hq := hL.2 k hk6
      have hlo : gm + 1 + 6 + 1 ≤ wr.heap.size := hL.lt
      have hrow4 := RowG.bl trIn_keep hrow (show Bl wr wr.drew from slc)
      have hbw4 : Bl Wp wr.drew := hbw.drew
      go_wp2_with fail
      have hHeld : (fun w' => (w'.cell? ⟨gm, 0, none⟩ = some (.slice (some ⟨gp, 0, none⟩) 8 8) ∧ w'.cell? ⟨gm, 1, none⟩ = some (vt)) ∧ (w'.cell? ⟨(gm + 1 + k), 0, none⟩ = some (.int .i64 (cA k)) ∧ w'.cell? ⟨(gm + 1 + k), 1, none⟩ = some (.int .i64 (cB k)) ∧ w'.cell? ⟨(gm + 1 + k), 2, none⟩ = some (.int .i64 (cC k)))) (wr.drew) := ⟨bx2 (T := 31) (hm.bl slc), bx3 (T := 3) (hq.bl slc)⟩
      refine wp_region_T 15 16 (fun w' => (w'.cell? ⟨gm, 0, none⟩ = some (.slice (some ⟨gp, 0, none⟩) 8 8) ∧ w'.cell? ⟨gm, 1, none⟩ = some (vt)) ∧ (w'.cell? ⟨(gm + 1 + k), 0, none⟩ = some (.int .i64 (cA k)) ∧ w'.cell? ⟨(gm + 1 + k), 1, none⟩ = some (.int .i64 (cB k)) ∧ w'.cell? ⟨(gm + 1 + k), 2, none⟩ = some (.int .i64 (cC k)))) rfl (by kernel_rfl) hHeld ?_
      refine wpAnyT_take (i := 0) (oi := _) (v := ?_) (fuel := 15) rfl (by kernel_rfl) (by kernel_rfl) (by kernel_rfl) (by kernel_rfl) (fun _ _ _ h => h) (by rfl) ?_ hHeld ?_
      rotate_left 1
      · (intro w' hSw; (try dsimp only at hSw); go_simp <;> with_reducible rfl)
      refine wpAnyT_take (i := 1) (oi := _) (v := ?_) (fuel := 14) rfl (by kernel_rfl) (by kernel_rfl) (by kernel_rfl) (by kernel_rfl) (fun _ _ _ h => h) (by rfl) ?_ hHeld ?_
      rotate_left 1
      · (intro w' hSw; (try dsimp only at hSw); go_simp <;> with_reducible rfl)
      refine wpAnyT_take (i := 2) (oi := _) (v := ?_) (fuel := 13) rfl (by kernel_rfl) (by kernel_rfl) (by kernel_rfl) (by kernel_rfl) (fun _ _ _ h => h) (by rfl) ?_ hHeld ?_
      rotate_left 1
      · (intro w' hSw; (try dsimp only at hSw); go_simp <;> with_reducible rfl)
      refine wpAnyT_take (i := 3) (oi := _) (v := ?_) (fuel := 12) rfl (by kernel_rfl) (by kernel_rfl) (by kernel_rfl) (by kernel_rfl) (fun _ _ _ h => h) (by rfl) ?_ hHeld ?_
      rotate_left 1
      · (intro w' hSw; (try dsimp only at hSw); go_simp <;> with_reducible rfl)
      refine wpAnyT_take (i := 4) (oi := _) (v := ?_) (fuel := 11) rfl (by kernel_rfl) (by kernel_rfl) (by kernel_rfl) (by kernel_rfl) (fun _ _ _ h => h) (by rfl) ?_ hHeld ?_
      rotate_left 1
      · (intro w' hSw; (try dsimp only at hSw); go_simp <;> with_reducible rfl)
      refine wpAnyT_take (i := 5) (oi := _) (v := ?_) (fuel := 10) rfl (by kernel_rfl) (by kernel_rfl) (by kernel_rfl) (by kernel_rfl) (fun _ _ _ h => h) (by rfl) ?_ hHeld ?_
      rotate_left 1
      · (intro w' hSw; (try dsimp only at hSw); go_simp <;> with_reducible rfl)
      refine wpAnyT_take (i := 6) (oi := _) (v := ?_) (fuel := 9) rfl (by kernel_rfl) (by kernel_rfl) (by kernel_rfl) (by kernel_rfl) (fun _ _ _ h => h) (by rfl) ?_ hHeld ?_
      rotate_left 1
      · (intro w' hSw; (try dsimp only at hSw); go_simp <;> with_reducible rfl)
      refine wpAnyT_take (i := 7) (oi := _) (v := ?_) (fuel := 8) rfl (by kernel_rfl) (by kernel_rfl) (by kernel_rfl) (by kernel_rfl) (fun _ _ _ h => h) (by rfl) ?_ hHeld ?_
      rotate_left 1
      · (intro w' hSw; (try dsimp only at hSw); go_simp <;> with_reducible rfl)
      refine wpAnyT_take (i := 8) (oi := _) (v := ?_) (fuel := 7) rfl (by kernel_rfl) (by kernel_rfl) (by kernel_rfl) (by kernel_rfl) (fun _ _ _ h => h) (by rfl) ?_ hHeld ?_
      rotate_left 1
      · (intro w' hSw; (try dsimp only at hSw); go_simp <;> with_reducible rfl)
      refine wpAnyT_take (i := 9) (oi := _) (v := ?_) (fuel := 6) rfl (by kernel_rfl) (by kernel_rfl) (by kernel_rfl) (by kernel_rfl) (fun _ _ _ h => h) (by rfl) ?_ hHeld ?_
      rotate_left 1
      · (intro w' hSw; (try dsimp only at hSw); go_simp <;> with_reducible rfl)
      refine wpAnyT_take (i := 10) (oi := _) (v := ?_) (fuel := 5) rfl (by kernel_rfl) (by kernel_rfl) (by kernel_rfl) (by kernel_rfl) (fun _ _ _ h => h) (by rfl) ?_ hHeld ?_
      rotate_left 1
      · (intro w' hSw; (try dsimp only at hSw); go_simp <;> with_reducible rfl)
      refine wpAnyT_take (i := 11) (oi := _) (v := ?_) (fuel := 4) rfl (by kernel_rfl) (by kernel_rfl) (by kernel_rfl) (by kernel_rfl) (fun _ _ _ h => h) (by rfl) ?_ hHeld ?_
      rotate_left 1
      · (intro w' hSw; (try dsimp only at hSw); go_simp <;> with_reducible rfl)
      clear hHeld
      simp only [Act.put, List.setIfInBounds_toArray]
      refine wpAnyT_step (i := 12) (o := _) (fuel := 3) rfl (by kernel_rfl) (fun K hK => ?_)
      go_simp
      refine hK.out _ _ (fun _ => ⟨bx2 (T := 31) (hm.bl slc), bx3 (T := 3) (hq.bl slc)⟩) ?_
      clear hK K
      try simp only [Act.put, List.setIfInBounds_toArray, List.set_cons_zero, List.set_cons_succ]
      refine wpAnyT_step (i := 13) (o := _) (fuel := 2) rfl (by kernel_rfl) (fun K hK => ?_)
      refine step_append_triS rfl (.tmp 27) (.tmp 38) rfl _ (by rfl) hrow4 hlo 1 (by rfl) (by rw [cTrs_len]; omega) Wp hbw4 hlp ?_
      intro v' w8 hrow' hb8' hoth
      obtain ⟨A8, n8, c8, rfl⟩ := RowG.shape hrow'
      have hL8 := hL.keep (W := w8) fun g h1 h2 => (hoth.2 g (by have := hL.lt; show g < wr.heap.size; omega) (fun e => by have := hrow.lo e; omega)).1
      have hm := hm.oth hoth.2 (fun e => by have := hrow.lo e; omega)
      have hq := hq.oth hoth.2 (fun e => by have := hrow.lo e; omega)
      refine hK.out _ _ (fun _ => ⟨bx2 (T := 31) (hm.bl slc), bx3 (T := 3) (hq.bl slc)⟩) ?_
      clear hK K
      try simp only [Act.put, List.setIfInBounds_toArray]
      refine wpAnyT_step (i := 14) (o := _) (fuel := 1) rfl (by kernel_rfl) (fun K hK => ?_)
      go_simp
      refine hK.out _ _ (fun _ => ⟨bx2 (T := 31) (hm.bl slc), bx3 (T := 3) (hq.bl slc)⟩) ?_
      clear hK K
      try simp only [Act.put, List.setIfInBounds_toArray, List.set_cons_zero, List.set_cons_succ]
      obtain ⟨z0', z1'⟩ := bx2 hm
      have zf := hm.frozen 1
      refine wpAnyT_step (i := 15) (o := _) (fuel := 0) rfl (by kernel_rfl) (fun K hK => ?_)
      go_simp
      refine hK.out _ _ (fun h => absurd rfl h) ?_
      clear hK K
      try simp only [Act.put, List.setIfInBounds_toArray]
      refine wpAnyT_done (by kernel_rfl) ?_
      go_wp2_with fail
      go_roundw
      case rel => exact ⟨k + 1, .slice A8 n8 c8, by omega, by go_num, by simpa using hm.set_ 1 (.slice A8 n8 c8), by rw [cTrs_succ]; exact RowT.set hrow' (by show gm < _; omega) _, hL8.keep fun g h1 h2 => Below.heap_setCell _ _ _ g (by show g ≠ gm; omega), Bl.set hb8' (by show _ ≤ gm; omega) _⟩
      case measure => simp [intOf]; omega
    · obtain rfl : k = 6 := by omega
      have e0 : ((6 : Nat) : Int) = 6 := rfl
      rw [e0]
      clear e0 hk hk6 hL
      obtain ⟨B, n8, d, rfl⟩ := RowG.shape hrow
      have hgl : gm < wr.heap.size := hm.lt
      have h0' := h0.bl hbw
      obtain ⟨i0, i1⟩ := bx2 hm
      obtain ⟨j0, j1⟩ := bx2 h0'
      have f0 := h0'.frozen 0
      have f1 := h0'.frozen 1
      have hlw : w.heap.size < Wp.heap.size := h0.lt
      have hlw2 : w.heap.size < wr.heap.size := h0'.lt
      have hnw : ¬ gm = w.heap.size := by omega
      have hP2 := ((hRP.bl hbw).set (q := ⟨w.heap.size, 0, none⟩) hz1 (.slice (some ⟨gp, 0, none⟩) 8 8)).set (q := ⟨w.heap.size, 1, none⟩) hz1 (.slice B n8 d)
      have hT2 := RowT.set (RowT.set hrow (q := ⟨w.heap.size, 0, none⟩) (by show w.heap.size < _; omega) (.slice (some ⟨gp, 0, none⟩) 8 8)) (q := ⟨w.heap.size, 1, none⟩) (by show w.heap.size < _; omega) (.slice B n8 d)
      obtain ⟨B2, d2, eT, hT3⟩ := RowT.rd hT2 (by rw [cTrs_len]; omega)
      injection eT with e1 e2 e3
      subst e1 e3
      rw [cTrs_len] at hT3 e2
      subst e2
      go_wp2_with fail
      exact bodyPost_ret (v := .agg #[.slice (some ⟨gp, 0, none⟩) 8 8, .slice B 6 d]) (by simp [results, Try.results15, go_sem, j0, j1]) rfl ⟨_, _, _, _, _, _, rfl, hP2.rd (cPts_len 8) (by omega), hT3, Bl.set (Bl.set (hbp.next hbw) (by show w.heap.size ≤ w.heap.size; omega) _) (by show w.heap.size ≤ w.heap.size; omega) _⟩

end Go.Proofs.Ytggjdgjkdmgjnaa
