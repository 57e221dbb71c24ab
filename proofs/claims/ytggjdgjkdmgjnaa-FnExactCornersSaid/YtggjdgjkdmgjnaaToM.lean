import Derived.Test.YtggjdgjkdmgjnaaRows
import Derived.Test.YtggjdgjkdmgjnaaEqL
namespace Go.Proofs.Ytggjdgjkdmgjnaa

open Go.RowKit

set_option maxHeartbeats 400000 in
theorem toTri_any (w : World) (a b c d e : Int) :
    Calls Try.prog 43 #[.agg #[.int .i64 a, .int .i64 b, .int .i64 c, .int .i64 d, .int .i64 e]] w fun en w' => en = .returned (.agg #[.int .i64 a, .int .i64 b, .int .i64 c, .int .i64 d, .int .i64 e]) ∧ Bl w w' := by
  go_enter Try.func43, Try.ntmps43
  go_wp2
  refine bodyPost_ret (v := .agg #[.int .i64 a, .int .i64 b, .int .i64 c, .int .i64 d, .int .i64 e]) (by simp [results, Try.results43, go_sem]) rfl ⟨rfl, slc⟩

theorem info_tri : (Try.prog.info? 48).map (fun i => (i.zero, i.size, i.bytes)) = some (some (.agg #[.int .i64 0, .int .i64 0, .int .i64 0, .int .i64 0, .int .i64 0]), 5, 40) := by kernel_rfl

set_option maxHeartbeats 1000000 in
theorem toTriS_any (w : World) {A : Option Addr} {n c : Nat} {l : List TriD} (h : RdTS w A n c l) (hn : n ≤ 1048576) :
    Calls Try.prog 26 #[.slice A n c] w fun e w' => ∃ g cs, e = .returned (.slice (some ⟨g, 0, none⟩) n n) ∧ w.heap.size ≤ g ∧ Blk w' g 48 cs ∧ cs.size = n * 5 ∧ TrsIn cs l n ∧ Bl w w' := by
  have hl := Lib.hid h.len
  have hmk := make_objs (P := Try.prog) Try.underlying29 info_tri (by omega) n n (Nat.le_refl _) (by omega)
  go_enter Try.func26, Try.ntmps26
  go_wp2_with fail
  clear hmk
  go_loopw [4] (fun i wr => ∃ k cs, k ≤ n ∧ i = .int .i64 (k : Int) ∧ Blk wr w.heap.size 48 cs ∧ cs.size = n * 5 ∧ TrsIn cs l k ∧ Bl w wr) (fun i _ => n - (intOf i).toNat)
  case atStart => exact ⟨0, _, Nat.zero_le _, rfl, Blk.mk w _ _ _ n, size_madeCells _ _, fun i hi => by omega, (Bl.refl w).alloc _⟩
  case round =>
    obtain ⟨k, cs, hk, rfl, hB, hcs, hP, hbw⟩ := hrel
    by_cases hkn : k < n
    · obtain ⟨ad, rfl, hlt, hat⟩ := h.cells k hkn
      obtain ⟨g0, g1, g2, g3, g4⟩ := hat.bl (by rw [block_add]; exact hlt) hbw
      have hki : (k : Int) < (n : Int) := by omega
      go_wp2_with fail
      refine (toTri_any _ _ _ _ _ _).mono ?_
      rintro e w1 ⟨rfl, hb⟩
      have hB1 := hB.bl hb
      have hb1 : Bl w w1 := slc
      have hfr := hB1.frozen
      obtain ⟨v0, x0⟩ := hB1.some (i := k * 5) (by omega)
      obtain ⟨v1, x1⟩ := hB1.some (i := k * 5 + 1) (by omega)
      obtain ⟨v2, x2⟩ := hB1.some (i := k * 5 + 2) (by omega)
      obtain ⟨v3, x3⟩ := hB1.some (i := k * 5 + 3) (by omega)
      obtain ⟨v4, x4⟩ := hB1.some (i := k * 5 + 4) (by omega)
      go_wp2_with fail
      go_roundw
      case rel => exact ⟨k + 1, _, by omega, by go_num, ((((hB1.set_ _ _).set_ _ _).set_ _ _).set_ _ _).set_ _ _, by simp [hcs], hP.step hcs hkn, slc⟩
      case measure => simp [intOf]; omega
    · obtain rfl : k = n := by omega
      go_wp2_with fail
      go_ret
      exact ⟨_, cs, rfl, Nat.le_refl _, hB, hcs, hP, hbw⟩

/-- A mesh in memory of its own from block b0 on. -/
def OwM (b0 : Nat) (w : World) (A : Option Addr) (n c : Nat) (B : Option Addr) (m d : Nat) (x : MeD) : Prop :=
  ∃ g g' cs cs' fs, A = some ⟨g, 0, none⟩ ∧ B = some ⟨g', 0, none⟩ ∧ b0 ≤ g ∧ b0 ≤ g' ∧ x.points.length = n ∧ x.tris.length = m ∧ n ≤ c ∧ m ≤ d ∧ n ≤ 1048576 ∧ m ≤ 1048576 ∧
    Blk w g 54 cs ∧ Blk w g' 48 cs' ∧ cs.size = n * 6 ∧ cs'.size = m * 5 ∧ PtsIn 3 w cs x.points n fs ∧ TrsIn cs' x.tris m ∧ Fp b0 w.heap.size fs.flatten ∧ g ∉ fs.flatten ∧ g' ∉ fs.flatten ∧ g ≠ g'

set_option maxHeartbeats 1000000 in
theorem toMesh_any (w : World) {A : Option Addr} {n c : Nat} {B : Option Addr} {m d : Nat} {x : MeD} (h : RdPS w A n c x.points) (k : RdTS w B m d x.tris) (hn : szM x ≤ 1048576) :
    Calls Try.prog 8 #[.agg #[.slice A n c, .slice B m d]] w fun e w' => ∃ A' B', e = .returned (.agg #[.slice A' n n, .slice B' m m]) ∧ OwM w.heap.size w' A' n n B' m m x ∧ Bl w w' := by
  have hl := Lib.hid h.len
  have hl' := Lib.hid k.len
  unfold szM at hn
  have hn1 : n ≤ 1048576 := by have := hl.out; unfold szL at hn; omega
  have hm1 : m ≤ 1048576 := by have := hl'.out; omega
  go_enter Try.func8, Try.ntmps8
  go_wp2_with fail
  refine (toPointS_any _ (h.bl slc) (by omega)).mono ?_
  rintro e w1 ⟨g, cs, fs, rfl, hg, hB, hcs, hP, hF, hb⟩
  obtain ⟨hc, hf⟩ := bcell hb
  have hb1 : Bl w w1 := slc
  have hz := hb.size
  have hgl := hB.lt
  simp only [World.size_alloc] at hz hg
  have hz1_0 : w.heap.size < w1.heap.size := by omega
  have hz1_1 : w.heap.size + 1 < w1.heap.size := by omega
  have hz1_2 : w.heap.size + 1 + 1 < w1.heap.size := by omega
  go_wp2_with fail
  refine (toTriS_any _ (k.bl slc) hm1).mono ?_
  rintro e w2 ⟨g', cs', rfl, hg', hB', hcs', hP', hb'⟩
  obtain ⟨hc2, hf2⟩ := bcell hb'
  have hz2 := hb'.size
  simp only [World.size_setCell] at hz2 hg'
  have hz2_0 : w.heap.size < w2.heap.size := by omega
  have hz2_1 : w.heap.size + 1 < w2.heap.size := by omega
  have hz2_2 : w.heap.size + 1 + 1 < w2.heap.size := by omega
  have hB1 : Blk w2 g 54 cs := Blk.bl (hB.far (by simp <;> omega) _) hb'
  have hP1 : PtsIn 3 w2 cs x.points n fs := PtsIn.bl (hP.far (fun b hb => by have := (hF.2 b hb).1; simp <;> omega) _) hb' (fun b hb => by simp; exact (hF.2 b hb).2)
  have hF1 : Fp (g + 1) w2.heap.size fs.flatten := hF.mono (Nat.le_refl _) hz2
  have hb2 : Bl w w2 := Bl.next slc hb'
  go_wp2_with fail
  refine bodyPost_ret (v := .agg #[.slice (some ⟨g, 0, none⟩) n n, .slice (some ⟨g', 0, none⟩) m m]) (by simp [results, Try.results8, go_sem, hc, hc2, hz1_1]) rfl ⟨_, _, rfl,
    ⟨g, g', cs, cs', fs, rfl, rfl, by omega, by omega, hl.out, hl'.out, Nat.le_refl _, Nat.le_refl _, hn1, hm1, ?_, ?_, hcs, hcs', ?_, hP', ?_, ?_, ?_, ?_⟩, slc⟩
  · exact (hB1.far (by simp <;> omega) _).far (by simp <;> omega) _ |>.far (by simp <;> omega) _
  · exact (hB'.far (by simp <;> omega) _).far (by simp <;> omega) _ |>.far (by simp <;> omega) _
  · exact (hP1.far (fun b hb => by have := (hF1.2 b hb).1; simp <;> omega) _).far (fun b hb => by have := (hF1.2 b hb).1; simp <;> omega) _ |>.far (fun b hb => by have := (hF1.2 b hb).1; simp <;> omega) _
  · exact hF1.mono (by omega) (by simp)
  · intro hb; have := (hF.2 _ hb).1; omega
  · intro hb; have := (hF.2 _ hb).2; omega
  · omega

end Go.Proofs.Ytggjdgjkdmgjnaa
