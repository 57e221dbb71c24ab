import Derived.Test.YthgielbhcjpikaaRows
import Derived.Test.YthgielbhcjpikaaBase
namespace Go.Proofs.Ythgielbhcjpikaa
open Go.RowKit



/-- The first k elements copied. -/
def copyTo (l : List Int) (k n : Nat) : List Int := (List.range n).map fun i => if i < k then ix l i else 0
theorem copyTo_zero (l : List Int) (n : Nat) : copyTo l 0 n = List.replicate n 0 := by
  unfold copyTo; simp [List.map_const']
theorem copyTo_succ (l : List Int) (k n : Nat) (_h : k < n) : (copyTo l k n).set k (ix l k) = copyTo l (k + 1) n := by
  unfold copyTo
  apply List.ext_getElem (by simp)
  intro i h1 h2
  simp only [List.getElem_set, List.getElem_map, List.getElem_range]
  split
  · next e => subst e; rw [if_pos (by omega)]
  · next e => by_cases h : i < k
              · rw [if_pos h, if_pos (by omega)]
              · rw [if_neg h, if_neg (by omega)]
theorem copyTo_all (l : List Int) (n : Nat) (h : l.length = n) : copyTo l n n = l := by
  unfold copyTo
  apply List.ext_getElem (by simp [h])
  intro i h1 h2
  simp [ix, h2]
  intro; omega
theorem copyTo_len (l : List Int) (k n : Nat) : (copyTo l k n).length = n := by simp [copyTo]

set_option maxHeartbeats 400000 in
theorem toIntS_any (w : World) {A : Option Addr} {n c : Nat} {l : List Int} (h : RdI w A n c l) (hn : n ≤ 1099511627776) :
    Calls Try.prog 89 #[.slice A n c] w fun e w' => ∃ g, e = .returned (.slice (some ⟨g, 0, none⟩) n n) ∧ w.heap.size ≤ g ∧ Ow 3 w' g l ∧ Bl w w' := by
  have hl := Lib.hid h.len
  have hmk := make_ints (P := Try.prog) Try.underlying44 info_int n n (Nat.le_refl _) hn
  go_enter Try.func89, Try.ntmps89
  go_wp2_with fail
  clear hmk
  go_loopw [4] (fun i wr => ∃ k : Nat, k ≤ n ∧ i = .int .i64 (k : Int) ∧ Ow 3 wr w.heap.size (copyTo l k n) ∧ Bl w wr) (fun i _ => n - (intOf i).toNat)
  case atStart => exact ⟨0, Nat.zero_le _, rfl, by rw [copyTo_zero]; exact Ow.mk w n, (Bl.refl w).alloc _⟩
  case round =>
    obtain ⟨k, hk, rfl, hO, hbw⟩ := hrel
    by_cases hkn : k < n
    · obtain ⟨ad, rfl, hlt, hca⟩ := (h.bl hbw).at_ hkn
      have hcell := hO.cell (k := k) (by rw [copyTo_len]; exact hkn)
      have hfr := hO.frozen k
      have hO1 := hO.set k (ix l k)
      rw [copyTo_succ l k n hkn] at hO1
      have hki : (k : Int) < (n : Int) := by omega
      go_wp2_with fail
      go_roundw
      case rel => exact ⟨k + 1, by omega, by go_num, hO1, hbw.set (Nat.le_refl _) _⟩
      case measure => simp [intOf]; omega
    · obtain rfl : k = n := by omega
      rw [copyTo_all l _ hl.out] at hO
      go_wp2_with fail
      go_ret
      exact ⟨_, rfl, Nat.le_refl _, hO, hbw⟩

set_option maxHeartbeats 400000 in
theorem toBigInt_any (w : World) {s : Bool} {A : Option Addr} {n c : Nat} {l : List Int} (h : RdI w A n c l) (hn : n ≤ 1099511627776) :
    Calls Try.prog 88 #[.agg #[.bool s, .slice A n c]] w fun e w' => ∃ g, e = .returned (.agg #[.bool s, .slice (some ⟨g, 0, none⟩) n n]) ∧ w.heap.size ≤ g ∧ Ow 3 w' g l ∧ Bl w w' := by
  go_enter Try.func88, Try.ntmps88
  go_wp2_with fail
  refine (toIntS_any _ (h.bl ((by repeat (first | with_reducible assumption | with_reducible exact Bl.refl _ | (with_reducible refine Bl.set ?_ (by simp <;> omega) _) | (with_reducible refine Bl.drewN ?_ _) | (with_reducible refine Bl.drew ?_) | (with_reducible refine Bl.alloc ?_ _) | (with_reducible refine Bl.next ?_ ‹_›))))) hn).mono ?_
  rintro e w1 ⟨g, rfl, hg, hO, hb⟩
  obtain ⟨hc, hf⟩ := bcell hb
  have hb1 : Bl w w1 := (by repeat (first | with_reducible assumption | with_reducible exact Bl.refl _ | (with_reducible refine Bl.set ?_ (by simp <;> omega) _) | (with_reducible refine Bl.drewN ?_ _) | (with_reducible refine Bl.drew ?_) | (with_reducible refine Bl.alloc ?_ _) | (with_reducible refine Bl.next ?_ ‹_›)))
  have hz := hb.size
  simp only [World.size_alloc] at hz hg
  go_wp2_with fail
  refine bodyPost_ret (v := .agg #[.bool s, .slice (some ⟨g, 0, none⟩) n n]) (by simp [results, Try.results88, go_sem, hc]) rfl ⟨g, rfl, by omega, ?_, ?_⟩
  · repeat (first | exact hO | refine Ow.setFar ?_ (by simp; omega) _)
  · repeat (first | assumption | refine Bl.set ?_ (by simp <;> omega) _)

set_option maxHeartbeats 1000000 in
theorem toRat_any (w : World) {s : Bool} {A : Option Addr} {n c : Nat} {B : Option Addr} {m d : Nat} {r : RatD} (h : RdR w s A n c B m d r) (hn : n ≤ 1099511627776) (hm : m ≤ 1099511627776) :
    Calls Try.prog 57 #[.agg #[.bool s, .slice A n c, .slice B m d]] w fun e w' => ∃ g g', e = .returned (.agg #[.bool s, .slice (some ⟨g, 0, none⟩) n n, .slice (some ⟨g', 0, none⟩) m m]) ∧ w.heap.size ≤ g ∧ g < g' ∧ Ow 3 w' g r.mag ∧ Ow 3 w' g' r.den ∧ Bl w w' := by
  go_enter Try.func57, Try.ntmps57
  go_wp2_with fail
  refine (toBigInt_any _ (h.mag.bl ((by repeat (first | with_reducible assumption | with_reducible exact Bl.refl _ | (with_reducible refine Bl.set ?_ (by simp <;> omega) _) | (with_reducible refine Bl.drewN ?_ _) | (with_reducible refine Bl.drew ?_) | (with_reducible refine Bl.alloc ?_ _) | (with_reducible refine Bl.next ?_ ‹_›))))) hn).mono ?_
  rintro e w1 ⟨g, rfl, hg, hO, hb⟩
  obtain ⟨hc, hf⟩ := bcell hb
  have hb1 : Bl w w1 := (by repeat (first | with_reducible assumption | with_reducible exact Bl.refl _ | (with_reducible refine Bl.set ?_ (by simp <;> omega) _) | (with_reducible refine Bl.drewN ?_ _) | (with_reducible refine Bl.drew ?_) | (with_reducible refine Bl.alloc ?_ _) | (with_reducible refine Bl.next ?_ ‹_›)))
  have hz := hb.size
  have hgl := hO.lt
  simp only [World.size_alloc] at hz hg
  have hz1_0 : w.heap.size < w1.heap.size := by omega
  have hz1_1 : w.heap.size + 1 < w1.heap.size := by omega
  have hz1_2 : w.heap.size + 1 + 1 < w1.heap.size := by omega
  go_wp2_with fail
  refine (toIntS_any _ (h.den.bl (by repeat (first | with_reducible assumption | with_reducible exact Bl.refl _ | (with_reducible refine Bl.set ?_ (by simp <;> omega) _) | (with_reducible refine Bl.drewN ?_ _) | (with_reducible refine Bl.drew ?_) | (with_reducible refine Bl.alloc ?_ _) | (with_reducible refine Bl.next ?_ ‹_›)))) hm).mono ?_
  rintro e w2 ⟨g', rfl, hg', hO', hb'⟩
  obtain ⟨hc2, hf2⟩ := bcell hb'
  have hz2 := hb'.size
  simp only [World.size_setCell] at hz2 hg'
  have hz2_0 : w.heap.size < w2.heap.size := by omega
  have hz2_1 : w.heap.size + 1 < w2.heap.size := by omega
  have hz2_2 : w.heap.size + 1 + 1 < w2.heap.size := by omega
  have hO1 : Ow 3 w2 g r.mag := Ow.bl (by repeat (first | with_reducible assumption | (with_reducible refine Ow.setFar ?_ (by simp <;> omega) _) | (with_reducible refine Ow.bl ?_ ‹Bl _ _›))) hb'
  have hb2 : Bl w w2 := Bl.next (by repeat (first | with_reducible assumption | with_reducible exact Bl.refl _ | (with_reducible refine Bl.set ?_ (by simp <;> omega) _) | (with_reducible refine Bl.drewN ?_ _) | (with_reducible refine Bl.drew ?_) | (with_reducible refine Bl.alloc ?_ _) | (with_reducible refine Bl.next ?_ ‹_›))) hb'
  go_wp2_with fail
  refine bodyPost_ret (v := .agg #[.bool s, .slice (some ⟨g, 0, none⟩) n n, .slice (some ⟨g', 0, none⟩) m m]) (by simp [results, Try.results57, go_sem, hc, hc2, hz1_1]) rfl ⟨g, g', rfl, by omega, by omega, (by repeat (first | with_reducible assumption | (with_reducible refine Ow.setFar ?_ (by simp <;> omega) _) | (with_reducible refine Ow.bl ?_ ‹Bl _ _›))), (by repeat (first | with_reducible assumption | (with_reducible refine Ow.setFar ?_ (by simp <;> omega) _) | (with_reducible refine Ow.bl ?_ ‹Bl _ _›))), (by repeat (first | with_reducible assumption | with_reducible exact Bl.refl _ | (with_reducible refine Bl.set ?_ (by simp <;> omega) _) | (with_reducible refine Bl.drewN ?_ _) | (with_reducible refine Bl.drew ?_) | (with_reducible refine Bl.alloc ?_ _) | (with_reducible refine Bl.next ?_ ‹_›)))⟩

set_option maxHeartbeats 1000000 in
theorem toPoint_any (w : World) {s : Bool} {A : Option Addr} {n c : Nat} {B : Option Addr} {m d : Nat} {t : Bool} {C : Option Addr} {i e : Nat} {D : Option Addr} {j f : Nat} {p : PtD} (h : RdR w s A n c B m d p.x) (k : RdR w t C i e D j f p.y)
    (hn : n ≤ 1099511627776) (hm : m ≤ 1099511627776) (hi : i ≤ 1099511627776) (hj : j ≤ 1099511627776) :
    Calls Try.prog 70 #[.agg #[.bool s, .slice A n c, .slice B m d, .bool t, .slice C i e, .slice D j f]] w fun e w' => ∃ g1 g2 g3 g4,
      e = .returned (.agg #[.bool s, .slice (some ⟨g1, 0, none⟩) n n, .slice (some ⟨g2, 0, none⟩) m m, .bool t, .slice (some ⟨g3, 0, none⟩) i i, .slice (some ⟨g4, 0, none⟩) j j]) ∧ (w.heap.size ≤ g1 ∧ g1 < g2 ∧ g2 < g3 ∧ g3 < g4) ∧
      (Ow 3 w' g1 p.x.mag ∧ Ow 3 w' g2 p.x.den ∧ Ow 3 w' g3 p.y.mag ∧ Ow 3 w' g4 p.y.den) ∧ Bl w w' := by
  go_enter Try.func70, Try.ntmps70
  go_wp2_with fail
  refine (toRat_any _ (h.bl ((by repeat (first | with_reducible assumption | with_reducible exact Bl.refl _ | (with_reducible refine Bl.set ?_ (by simp <;> omega) _) | (with_reducible refine Bl.drewN ?_ _) | (with_reducible refine Bl.drew ?_) | (with_reducible refine Bl.alloc ?_ _) | (with_reducible refine Bl.next ?_ ‹_›))))) hn hm).mono ?_
  rintro e w1 ⟨g1, g2, rfl, hg, hg12, hO1, hO2, hb⟩
  obtain ⟨hc, hf⟩ := bcell hb
  have hb1 : Bl w w1 := (by repeat (first | with_reducible assumption | with_reducible exact Bl.refl _ | (with_reducible refine Bl.set ?_ (by simp <;> omega) _) | (with_reducible refine Bl.drewN ?_ _) | (with_reducible refine Bl.drew ?_) | (with_reducible refine Bl.alloc ?_ _) | (with_reducible refine Bl.next ?_ ‹_›)))
  have hz := hb.size
  have hgl := hO2.lt
  simp only [World.size_alloc] at hz hg
  have hz1_0 : w.heap.size < w1.heap.size := by omega
  have hz1_1 : w.heap.size + 1 < w1.heap.size := by omega
  have hz1_2 : w.heap.size + 1 + 1 < w1.heap.size := by omega
  go_wp2_with fail
  refine (toRat_any _ (k.bl (by repeat (first | with_reducible assumption | with_reducible exact Bl.refl _ | (with_reducible refine Bl.set ?_ (by simp <;> omega) _) | (with_reducible refine Bl.drewN ?_ _) | (with_reducible refine Bl.drew ?_) | (with_reducible refine Bl.alloc ?_ _) | (with_reducible refine Bl.next ?_ ‹_›)))) hi hj).mono ?_
  rintro e w2 ⟨g3, g4, rfl, hg', hg34, hO3, hO4, hb'⟩
  obtain ⟨hc2, hf2⟩ := bcell hb'
  have hz2 := hb'.size
  simp only [World.size_setCell] at hz2 hg'
  have hz2_0 : w.heap.size < w2.heap.size := by omega
  have hz2_1 : w.heap.size + 1 < w2.heap.size := by omega
  have hz2_2 : w.heap.size + 1 + 1 < w2.heap.size := by omega
  have hO1' : Ow 3 w2 g1 p.x.mag := Ow.bl (by repeat (first | with_reducible assumption | (with_reducible refine Ow.setFar ?_ (by simp <;> omega) _) | (with_reducible refine Ow.bl ?_ ‹Bl _ _›))) hb'
  have hO2' : Ow 3 w2 g2 p.x.den := Ow.bl (by repeat (first | with_reducible assumption | (with_reducible refine Ow.setFar ?_ (by simp <;> omega) _) | (with_reducible refine Ow.bl ?_ ‹Bl _ _›))) hb'
  have hb2 : Bl w w2 := Bl.next (by repeat (first | with_reducible assumption | with_reducible exact Bl.refl _ | (with_reducible refine Bl.set ?_ (by simp <;> omega) _) | (with_reducible refine Bl.drewN ?_ _) | (with_reducible refine Bl.drew ?_) | (with_reducible refine Bl.alloc ?_ _) | (with_reducible refine Bl.next ?_ ‹_›))) hb'
  go_wp2_with fail
  refine bodyPost_ret (v := .agg #[.bool s, .slice (some ⟨g1, 0, none⟩) n n, .slice (some ⟨g2, 0, none⟩) m m, .bool t, .slice (some ⟨g3, 0, none⟩) i i, .slice (some ⟨g4, 0, none⟩) j j]) (by simp [results, Try.results70, go_sem, hc, hc2, hz1_1]) rfl
    ⟨g1, g2, g3, g4, rfl, ⟨by omega, by omega, by omega, by omega⟩, ⟨(by repeat (first | with_reducible assumption | (with_reducible refine Ow.setFar ?_ (by simp <;> omega) _) | (with_reducible refine Ow.bl ?_ ‹Bl _ _›))), (by repeat (first | with_reducible assumption | (with_reducible refine Ow.setFar ?_ (by simp <;> omega) _) | (with_reducible refine Ow.bl ?_ ‹Bl _ _›))), (by repeat (first | with_reducible assumption | (with_reducible refine Ow.setFar ?_ (by simp <;> omega) _) | (with_reducible refine Ow.bl ?_ ‹Bl _ _›))), (by repeat (first | with_reducible assumption | (with_reducible refine Ow.setFar ?_ (by simp <;> omega) _) | (with_reducible refine Ow.bl ?_ ‹Bl _ _›)))⟩, (by repeat (first | with_reducible assumption | with_reducible exact Bl.refl _ | (with_reducible refine Bl.set ?_ (by simp <;> omega) _) | (with_reducible refine Bl.drewN ?_ _) | (with_reducible refine Bl.drew ?_) | (with_reducible refine Bl.alloc ?_ _) | (with_reducible refine Bl.next ?_ ‹_›)))⟩

set_option maxHeartbeats 400000 in
theorem toTri_any (w : World) (a b c d e : Int) :
    Calls Try.prog 77 #[.agg #[.int .i64 a, .int .i64 b, .int .i64 c, .int .i64 d, .int .i64 e]] w fun en w' => en = .returned (.agg #[.int .i64 a, .int .i64 b, .int .i64 c, .int .i64 d, .int .i64 e]) ∧ Bl w w' := by
  go_enter Try.func77, Try.ntmps77
  go_wp2
  refine bodyPost_ret (v := .agg #[.int .i64 a, .int .i64 b, .int .i64 c, .int .i64 d, .int .i64 e]) (by simp [results, Try.results77, go_sem]) rfl ⟨rfl, (by repeat (first | with_reducible assumption | with_reducible exact Bl.refl _ | (with_reducible refine Bl.set ?_ (by simp <;> omega) _) | (with_reducible refine Bl.drewN ?_ _) | (with_reducible refine Bl.drew ?_) | (with_reducible refine Bl.alloc ?_ _) | (with_reducible refine Bl.next ?_ ‹_›)))⟩

theorem info_pt : (Try.prog.info? 67).map (fun i => (i.zero, i.size, i.bytes)) = some (some (.agg #[.bool false, .slice none 0 0, .slice none 0 0, .bool false, .slice none 0 0, .slice none 0 0]), 6, 112) := by kernel_rfl

set_option maxHeartbeats 1000000 in
theorem toPointS_any (w : World) {A : Option Addr} {n c : Nat} {l : List PtD} (h : RdPS w A n c l) (hn : szL szP l ≤ 1048576) :
    Calls Try.prog 33 #[.slice A n c] w fun e w' => ∃ g cs fs, e = .returned (.slice (some ⟨g, 0, none⟩) n n) ∧ w.heap.size ≤ g ∧ Blk w' g 67 cs ∧ cs.size = n * 6 ∧
      PtsIn 3 w' cs l n fs ∧ Fp (g + 1) w'.heap.size fs.flatten ∧ Bl w w' := by
  have hl := Lib.hid h.len
  have hn1 : n ≤ 1048576 := by have := hl.out; unfold szL at hn; omega
  have hmk := make_objs (P := Try.prog) Try.underlying27 info_pt (by omega) n n (Nat.le_refl _) (by omega)
  go_enter Try.func33, Try.ntmps33
  go_wp2_with fail
  clear hmk
  go_loopw [4] (fun i wr => ∃ k cs fs, k ≤ n ∧ i = .int .i64 (k : Int) ∧ Blk wr w.heap.size 67 cs ∧ cs.size = n * 6 ∧ PtsIn 3 wr cs l k fs ∧ Fp (w.heap.size + 1) wr.heap.size fs.flatten ∧ Bl w wr) (fun i _ => n - (intOf i).toNat)
  case atStart => exact ⟨0, _, [], Nat.zero_le _, rfl, Blk.mk w _ _ _ n, size_madeCells _ _, ⟨rfl, fun i hi => by omega⟩, Fp.nil _ _, (Bl.refl w).alloc _⟩
  case round =>
    obtain ⟨k, cs, fs, hk, rfl, hB, hcs, hP, hF, hbw⟩ := hrel
    by_cases hkn : k < n
    · obtain ⟨ad, rfl, hlt, hat⟩ := h.cells k hkn
      obtain ⟨s, A, n', c', B, m, d, t, C, i, e, D, j, f, ⟨g0, g1, g2, g3, g4, g5⟩, hx, hy⟩ := hat.bl (by rw [block_add]; exact hlt) hbw
      have hki : (k : Int) < (n : Int) := by omega
      go_wp2_with fail
      have hsz := szL_at szP l (k := k) (by rw [hl.out]; exact hkn)
      simp only [szP, szR] at hsz
      have lx := Lib.hid hx.mag.len
      have ly := Lib.hid hx.den.len
      have lz := Lib.hid hy.mag.len
      have lw := Lib.hid hy.den.len
      refine (toPoint_any _ hx hy (by have := lx.out; omega) (by have := ly.out; omega) (by have := lz.out; omega) (by have := lw.out; omega)).mono ?_
      rintro e w1 ⟨q1, q2, q3, q4, rfl, ⟨ho0, ho1, ho2, ho3⟩, ⟨hO1, hO2, hO3, hO4⟩, hb⟩
      have hB1 := hB.bl hb
      have hb1 : Bl w w1 := (by repeat (first | with_reducible assumption | with_reducible exact Bl.refl _ | (with_reducible refine Bl.set ?_ (by simp <;> omega) _) | (with_reducible refine Bl.drewN ?_ _) | (with_reducible refine Bl.drew ?_) | (with_reducible refine Bl.alloc ?_ _) | (with_reducible refine Bl.next ?_ ‹_›)))
      have hfr := hB1.frozen
      obtain ⟨v0, x0⟩ := hB1.some (i := k * 6) (by omega)
      obtain ⟨v1, x1⟩ := hB1.some (i := k * 6 + 1) (by omega)
      obtain ⟨v2, x2⟩ := hB1.some (i := k * 6 + 2) (by omega)
      obtain ⟨v3, x3⟩ := hB1.some (i := k * 6 + 3) (by omega)
      obtain ⟨v4, x4⟩ := hB1.some (i := k * 6 + 4) (by omega)
      obtain ⟨v5, x5⟩ := hB1.some (i := k * 6 + 5) (by omega)
      go_wp2_with fail
      have hbs : Bl w ((((((w1.setCell ⟨w.heap.size, k * 6, none⟩ (.bool s)).setCell ⟨w.heap.size, k * 6 + 1, none⟩ (.slice (some ⟨q1, 0, none⟩) n' n')).setCell ⟨w.heap.size, k * 6 + 2, none⟩ (.slice (some ⟨q2, 0, none⟩) m m)).setCell ⟨w.heap.size, k * 6 + 3, none⟩ (.bool t)).setCell ⟨w.heap.size, k * 6 + 4, none⟩ (.slice (some ⟨q3, 0, none⟩) i i)).setCell ⟨w.heap.size, k * 6 + 5, none⟩ (.slice (some ⟨q4, 0, none⟩) j j)) := (by repeat (first | with_reducible assumption | with_reducible exact Bl.refl _ | (with_reducible refine Bl.set ?_ (by simp <;> omega) _) | (with_reducible refine Bl.drewN ?_ _) | (with_reducible refine Bl.drew ?_) | (with_reducible refine Bl.alloc ?_ _) | (with_reducible refine Bl.next ?_ ‹_›)))
      obtain ⟨cs', fs', r1, r2, r3, r4⟩ := (hP.bl hb fun b hm => (hF.2 b hm).2).step hB1 hcs hkn hF (by have := hB.lt; omega) hb.size ho0 ho1 ho2 ho3 hx.neg hy.neg lx.out ly.out lz.out lw.out hx.mag.small hx.den.small hy.mag.small hy.den.small hO1 hO2 hO3 hO4 rfl
      go_roundw
      case rel => exact ⟨k + 1, cs', fs', by omega, by go_num, r1, r2, r3, r4, hbs⟩
      case measure => simp [intOf]; omega
    · obtain rfl : k = n := by omega
      go_wp2_with fail
      go_ret
      exact ⟨_, cs, fs, rfl, Nat.le_refl _, hB, hcs, hP, hF, hbw⟩

theorem info_tri : (Try.prog.info? 65).map (fun i => (i.zero, i.size, i.bytes)) = some (some (.agg #[.int .i64 0, .int .i64 0, .int .i64 0, .int .i64 0, .int .i64 0]), 5, 40) := by kernel_rfl

set_option maxHeartbeats 1000000 in
theorem toTriS_any (w : World) {A : Option Addr} {n c : Nat} {l : List TriD} (h : RdTS w A n c l) (hn : n ≤ 1048576) :
    Calls Try.prog 39 #[.slice A n c] w fun e w' => ∃ g cs, e = .returned (.slice (some ⟨g, 0, none⟩) n n) ∧ w.heap.size ≤ g ∧ Blk w' g 65 cs ∧ cs.size = n * 5 ∧ TrsIn cs l n ∧ Bl w w' := by
  have hl := Lib.hid h.len
  have hmk := make_objs (P := Try.prog) Try.underlying29 info_tri (by omega) n n (Nat.le_refl _) (by omega)
  go_enter Try.func39, Try.ntmps39
  go_wp2_with fail
  clear hmk
  go_loopw [4] (fun i wr => ∃ k cs, k ≤ n ∧ i = .int .i64 (k : Int) ∧ Blk wr w.heap.size 65 cs ∧ cs.size = n * 5 ∧ TrsIn cs l k ∧ Bl w wr) (fun i _ => n - (intOf i).toNat)
  case atStart => exact ⟨0, _, Nat.zero_le _, rfl, Blk.mk w _ _ _ n, size_madeCells _ _, fun i hi => by omega, (Bl.refl w).alloc _⟩
  case round =>
    obtain ⟨k, cs, hk, rfl, hB, hcs, hP, hbw⟩ := hrel
    by_cases hkn : k < n
    · obtain ⟨ad, rfl, hlt, hat⟩ := h.cells k hkn
      obtain ⟨g0, g1, g2, g3, g4⟩ := hat.bl (by rw [block_add]; exact hlt) hbw
      have hki : (k : Int) < (n : Int) := by omega
      go_wp2_with fail
      refine (toTri_any _ _ _ _ _ _).mono ?_
      rintro e w1 ⟨rfl, hb⟩
      have hB1 := hB.bl hb
      have hb1 : Bl w w1 := (by repeat (first | with_reducible assumption | with_reducible exact Bl.refl _ | (with_reducible refine Bl.set ?_ (by simp <;> omega) _) | (with_reducible refine Bl.drewN ?_ _) | (with_reducible refine Bl.drew ?_) | (with_reducible refine Bl.alloc ?_ _) | (with_reducible refine Bl.next ?_ ‹_›)))
      have hfr := hB1.frozen
      obtain ⟨v0, x0⟩ := hB1.some (i := k * 5) (by omega)
      obtain ⟨v1, x1⟩ := hB1.some (i := k * 5 + 1) (by omega)
      obtain ⟨v2, x2⟩ := hB1.some (i := k * 5 + 2) (by omega)
      obtain ⟨v3, x3⟩ := hB1.some (i := k * 5 + 3) (by omega)
      obtain ⟨v4, x4⟩ := hB1.some (i := k * 5 + 4) (by omega)
      go_wp2_with fail
      go_roundw
      case rel => exact ⟨k + 1, _, by omega, by go_num, ((((hB1.set_ _ _).set_ _ _).set_ _ _).set_ _ _).set_ _ _, by simp [hcs], hP.step hcs hkn, (by repeat (first | with_reducible assumption | with_reducible exact Bl.refl _ | (with_reducible refine Bl.set ?_ (by simp <;> omega) _) | (with_reducible refine Bl.drewN ?_ _) | (with_reducible refine Bl.drew ?_) | (with_reducible refine Bl.alloc ?_ _) | (with_reducible refine Bl.next ?_ ‹_›)))⟩
      case measure => simp [intOf]; omega
    · obtain rfl : k = n := by omega
      go_wp2_with fail
      go_ret
      exact ⟨_, cs, rfl, Nat.le_refl _, hB, hcs, hP, hbw⟩

/-- A mesh in memory of its own from block b0 on. -/
def OwM (b0 : Nat) (w : World) (A : Option Addr) (n c : Nat) (B : Option Addr) (m d : Nat) (x : MeD) : Prop :=
  ∃ g g' cs cs' fs, A = some ⟨g, 0, none⟩ ∧ B = some ⟨g', 0, none⟩ ∧ b0 ≤ g ∧ b0 ≤ g' ∧ x.points.length = n ∧ x.tris.length = m ∧ n ≤ c ∧ m ≤ d ∧ n ≤ 1048576 ∧ m ≤ 1048576 ∧
    Blk w g 67 cs ∧ Blk w g' 65 cs' ∧ cs.size = n * 6 ∧ cs'.size = m * 5 ∧ PtsIn 3 w cs x.points n fs ∧ TrsIn cs' x.tris m ∧ Fp b0 w.heap.size fs.flatten ∧ g ∉ fs.flatten ∧ g' ∉ fs.flatten ∧ g ≠ g'

set_option maxHeartbeats 1000000 in
theorem toMesh_any (w : World) {A : Option Addr} {n c : Nat} {B : Option Addr} {m d : Nat} {x : MeD} (h : RdPS w A n c x.points) (k : RdTS w B m d x.tris) (hn : szM x ≤ 1048576) :
    Calls Try.prog 10 #[.agg #[.slice A n c, .slice B m d]] w fun e w' => ∃ A' B', e = .returned (.agg #[.slice A' n n, .slice B' m m]) ∧ OwM w.heap.size w' A' n n B' m m x ∧ Bl w w' := by
  have hl := Lib.hid h.len
  have hl' := Lib.hid k.len
  unfold szM at hn
  have hn1 : n ≤ 1048576 := by have := hl.out; unfold szL at hn; omega
  have hm1 : m ≤ 1048576 := by have := hl'.out; omega
  go_enter Try.func10, Try.ntmps10
  go_wp2_with fail
  refine (toPointS_any _ (h.bl (by repeat (first | with_reducible assumption | with_reducible exact Bl.refl _ | (with_reducible refine Bl.set ?_ (by simp <;> omega) _) | (with_reducible refine Bl.drewN ?_ _) | (with_reducible refine Bl.drew ?_) | (with_reducible refine Bl.alloc ?_ _) | (with_reducible refine Bl.next ?_ ‹_›)))) (by omega)).mono ?_
  rintro e w1 ⟨g, cs, fs, rfl, hg, hB, hcs, hP, hF, hb⟩
  obtain ⟨hc, hf⟩ := bcell hb
  have hb1 : Bl w w1 := (by repeat (first | with_reducible assumption | with_reducible exact Bl.refl _ | (with_reducible refine Bl.set ?_ (by simp <;> omega) _) | (with_reducible refine Bl.drewN ?_ _) | (with_reducible refine Bl.drew ?_) | (with_reducible refine Bl.alloc ?_ _) | (with_reducible refine Bl.next ?_ ‹_›)))
  have hz := hb.size
  have hgl := hB.lt
  simp only [World.size_alloc] at hz hg
  have hz1_0 : w.heap.size < w1.heap.size := by omega
  have hz1_1 : w.heap.size + 1 < w1.heap.size := by omega
  have hz1_2 : w.heap.size + 1 + 1 < w1.heap.size := by omega
  go_wp2_with fail
  refine (toTriS_any _ (k.bl (by repeat (first | with_reducible assumption | with_reducible exact Bl.refl _ | (with_reducible refine Bl.set ?_ (by simp <;> omega) _) | (with_reducible refine Bl.drewN ?_ _) | (with_reducible refine Bl.drew ?_) | (with_reducible refine Bl.alloc ?_ _) | (with_reducible refine Bl.next ?_ ‹_›)))) hm1).mono ?_
  rintro e w2 ⟨g', cs', rfl, hg', hB', hcs', hP', hb'⟩
  obtain ⟨hc2, hf2⟩ := bcell hb'
  have hz2 := hb'.size
  simp only [World.size_setCell] at hz2 hg'
  have hz2_0 : w.heap.size < w2.heap.size := by omega
  have hz2_1 : w.heap.size + 1 < w2.heap.size := by omega
  have hz2_2 : w.heap.size + 1 + 1 < w2.heap.size := by omega
  have hB1 : Blk w2 g 67 cs := Blk.bl (hB.far (by simp <;> omega) _) hb'
  have hP1 : PtsIn 3 w2 cs x.points n fs := PtsIn.bl (hP.far (fun b hb => by have := (hF.2 b hb).1; simp <;> omega) _) hb' (fun b hb => by simp; exact (hF.2 b hb).2)
  have hF1 : Fp (g + 1) w2.heap.size fs.flatten := hF.mono (Nat.le_refl _) hz2
  have hb2 : Bl w w2 := Bl.next (by repeat (first | with_reducible assumption | with_reducible exact Bl.refl _ | (with_reducible refine Bl.set ?_ (by simp <;> omega) _) | (with_reducible refine Bl.drewN ?_ _) | (with_reducible refine Bl.drew ?_) | (with_reducible refine Bl.alloc ?_ _) | (with_reducible refine Bl.next ?_ ‹_›))) hb'
  go_wp2_with fail
  refine bodyPost_ret (v := .agg #[.slice (some ⟨g, 0, none⟩) n n, .slice (some ⟨g', 0, none⟩) m m]) (by simp [results, Try.results10, go_sem, hc, hc2, hz1_1]) rfl ⟨_, _, rfl,
    ⟨g, g', cs, cs', fs, rfl, rfl, by omega, by omega, hl.out, hl'.out, Nat.le_refl _, Nat.le_refl _, hn1, hm1, ?_, ?_, hcs, hcs', ?_, hP', ?_, ?_, ?_, ?_⟩, (by repeat (first | with_reducible assumption | with_reducible exact Bl.refl _ | (with_reducible refine Bl.set ?_ (by simp <;> omega) _) | (with_reducible refine Bl.drewN ?_ _) | (with_reducible refine Bl.drew ?_) | (with_reducible refine Bl.alloc ?_ _) | (with_reducible refine Bl.next ?_ ‹_›)))⟩
  · exact (hB1.far (by simp <;> omega) _).far (by simp <;> omega) _ |>.far (by simp <;> omega) _
  · exact (hB'.far (by simp <;> omega) _).far (by simp <;> omega) _ |>.far (by simp <;> omega) _
  · exact (hP1.far (fun b hb => by have := (hF1.2 b hb).1; simp <;> omega) _).far (fun b hb => by have := (hF1.2 b hb).1; simp <;> omega) _ |>.far (fun b hb => by have := (hF1.2 b hb).1; simp <;> omega) _
  · exact hF1.mono (by omega) (by simp)
  · intro hb; have := (hF.2 _ hb).1; omega
  · intro hb; have := (hF.2 _ hb).2; omega
  · omega

end Go.Proofs.Ythgielbhcjpikaa
