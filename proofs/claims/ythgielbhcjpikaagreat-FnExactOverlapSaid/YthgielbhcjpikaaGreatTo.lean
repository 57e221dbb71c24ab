import Derived.Test.YthgielbhcjpikaaGreatRows
import Derived.Test.YthgielbhcjpikaaGreatBase
namespace Go.Proofs.YthgielbhcjpikaaGreat
open Go.RowKit



/-- The first k elements copied. -/
def copyTo (l : List Int) (k n : Nat) : List Int := (List.range n).map fun i => if i < k then ix l i else 0
theorem copyTo_zero (l : List Int) (n : Nat) : copyTo l 0 n = List.replicate n 0 := by
  unfold copyTo; simp [List.map_const']
theorem copyTo_succ (l : List Int) (k n : Nat) (_h : k < n) : (copyTo l k n).set k (ix l k) = copyTo l (k + 1) n := by
  unfold copyTo
  apply List.ext_getElem (by simp)
  intro i h1 h2
  simp only [List.getElem_set, List.getElem_map, List.getElem_range]
  split
  · next e => subst e; rw [if_pos (by omega)]
  · next e => by_cases h : i < k
              · rw [if_pos h, if_pos (by omega)]
              · rw [if_neg h, if_neg (by omega)]
theorem copyTo_all (l : List Int) (n : Nat) (h : l.length = n) : copyTo l n n = l := by
  unfold copyTo
  apply List.ext_getElem (by simp [h])
  intro i h1 h2
  simp [ix, h2]
  intro; omega
theorem copyTo_len (l : List Int) (k n : Nat) : (copyTo l k n).length = n := by simp [copyTo]

set_option maxHeartbeats 400000 in
theorem toIntS_any (w : World) {A : Option Addr} {n c : Nat} {l : List Int} (h : RdI w A n c l) (hn : n ≤ 1099511627776) :
    Calls Tryz.prog 155 #[.slice A n c] w fun e w' => ∃ g, e = .returned (.slice (some ⟨g, 0, none⟩) n n) ∧ w.heap.size ≤ g ∧ Ow 3 w' g l ∧ Bl w w' := by
  have hl := Lib.hid h.len
  have hmk := make_ints (P := Tryz.prog) Tryz.underlying28 info_int n n (Nat.le_refl _) hn
  go_enter Tryz.func155, Tryz.ntmps155
  go_wp2_with fail
  clear hmk
  go_loopw [4] (fun i wr => ∃ k : Nat, k ≤ n ∧ i = .int .i64 (k : Int) ∧ Ow 3 wr w.heap.size (copyTo l k n) ∧ Bl w wr) (fun i _ => n - (intOf i).toNat)
  case atStart => exact ⟨0, Nat.zero_le _, rfl, by rw [copyTo_zero]; exact Ow.mk w n, (Bl.refl w).alloc _⟩
  case round =>
    obtain ⟨k, hk, rfl, hO, hbw⟩ := hrel
    by_cases hkn : k < n
    · obtain ⟨ad, rfl, hlt, hca⟩ := (h.bl hbw).at_ hkn
      have hcell := hO.cell (k := k) (by rw [copyTo_len]; exact hkn)
      have hfr := hO.frozen k
      have hO1 := hO.set k (ix l k)
      rw [copyTo_succ l k n hkn] at hO1
      have hki : (k : Int) < (n : Int) := by omega
      go_wp2_with fail
      go_roundw
      case rel => exact ⟨k + 1, by omega, by go_num, hO1, hbw.set (Nat.le_refl _) _⟩
      case measure => simp [intOf]; omega
    · obtain rfl : k = n := by omega
      rw [copyTo_all l _ hl.out] at hO
      go_wp2_with fail
      go_ret
      exact ⟨_, rfl, Nat.le_refl _, hO, hbw⟩

set_option maxHeartbeats 400000 in
theorem toBigInt_any (w : World) {s : Bool} {A : Option Addr} {n c : Nat} {l : List Int} (h : RdI w A n c l) (hn : n ≤ 1099511627776) :
    Calls Tryz.prog 154 #[.agg #[.bool s, .slice A n c]] w fun e w' => ∃ g, e = .returned (.agg #[.bool s, .slice (some ⟨g, 0, none⟩) n n]) ∧ w.heap.size ≤ g ∧ Ow 3 w' g l ∧ Bl w w' := by
  go_enter Tryz.func154, Tryz.ntmps154
  go_wp2_with fail
  refine (toIntS_any _ (h.bl (slc)) hn).mono ?_
  rintro e w1 ⟨g, rfl, hg, hO, hb⟩
  obtain ⟨hc, hf⟩ := bcell hb
  have hb1 : Bl w w1 := slc
  have hz := hb.size
  simp only [World.size_alloc] at hz hg
  go_wp2_with fail
  refine bodyPost_ret (v := .agg #[.bool s, .slice (some ⟨g, 0, none⟩) n n]) (by simp [results, Tryz.results154, go_sem, hc]) rfl ⟨g, rfl, by omega, ?_, ?_⟩
  · repeat (first | exact hO | refine Ow.setFar ?_ (by simp; omega) _)
  · repeat (first | assumption | refine Bl.set ?_ (by simp <;> omega) _)

set_option maxHeartbeats 1000000 in
theorem toRat_any (w : World) {s : Bool} {A : Option Addr} {n c : Nat} {B : Option Addr} {m d : Nat} {r : RatD} (h : RdR w s A n c B m d r) (hn : n ≤ 1099511627776) (hm : m ≤ 1099511627776) :
    Calls Tryz.prog 104 #[.agg #[.bool s, .slice A n c, .slice B m d]] w fun e w' => ∃ g g', e = .returned (.agg #[.bool s, .slice (some ⟨g, 0, none⟩) n n, .slice (some ⟨g', 0, none⟩) m m]) ∧ w.heap.size ≤ g ∧ g < g' ∧ Ow 3 w' g r.mag ∧ Ow 3 w' g' r.den ∧ Bl w w' := by
  go_enter Tryz.func104, Tryz.ntmps104
  go_wp2_with fail
  refine (toBigInt_any _ (h.mag.bl (slc)) hn).mono ?_
  rintro e w1 ⟨g, rfl, hg, hO, hb⟩
  obtain ⟨hc, hf⟩ := bcell hb
  have hb1 : Bl w w1 := slc
  have hz := hb.size
  have hgl := hO.lt
  simp only [World.size_alloc] at hz hg
  have hz1_0 : w.heap.size < w1.heap.size := by omega
  have hz1_1 : w.heap.size + 1 < w1.heap.size := by omega
  have hz1_2 : w.heap.size + 1 + 1 < w1.heap.size := by omega
  go_wp2_with fail
  refine (toIntS_any _ (h.den.bl slc) hm).mono ?_
  rintro e w2 ⟨g', rfl, hg', hO', hb'⟩
  obtain ⟨hc2, hf2⟩ := bcell hb'
  have hz2 := hb'.size
  simp only [World.size_setCell] at hz2 hg'
  have hz2_0 : w.heap.size < w2.heap.size := by omega
  have hz2_1 : w.heap.size + 1 < w2.heap.size := by omega
  have hz2_2 : w.heap.size + 1 + 1 < w2.heap.size := by omega
  have hO1 : Ow 3 w2 g r.mag := Ow.bl (by repeat (first | with_reducible assumption | (with_reducible refine Ow.setFar ?_ (by simp <;> omega) _) | (with_reducible refine Ow.bl ?_ ‹Bl _ _›))) hb'
  have hb2 : Bl w w2 := Bl.next slc hb'
  go_wp2_with fail
  refine bodyPost_ret (v := .agg #[.bool s, .slice (some ⟨g, 0, none⟩) n n, .slice (some ⟨g', 0, none⟩) m m]) (by simp [results, Tryz.results104, go_sem, hc, hc2, hz1_1]) rfl ⟨g, g', rfl, by omega, by omega, (by repeat (first | with_reducible assumption | (with_reducible refine Ow.setFar ?_ (by simp <;> omega) _) | (with_reducible refine Ow.bl ?_ ‹Bl _ _›))), (by repeat (first | with_reducible assumption | (with_reducible refine Ow.setFar ?_ (by simp <;> omega) _) | (with_reducible refine Ow.bl ?_ ‹Bl _ _›))), slc⟩

set_option maxHeartbeats 1000000 in
theorem toPoint_any (w : World) {s : Bool} {A : Option Addr} {n c : Nat} {B : Option Addr} {m d : Nat} {t : Bool} {C : Option Addr} {i e : Nat} {D : Option Addr} {j f : Nat} {p : PtD} (h : RdR w s A n c B m d p.x) (k : RdR w t C i e D j f p.y)
    (hn : n ≤ 1099511627776) (hm : m ≤ 1099511627776) (hi : i ≤ 1099511627776) (hj : j ≤ 1099511627776) :
    Calls Tryz.prog 48 #[.agg #[.bool s, .slice A n c, .slice B m d, .bool t, .slice C i e, .slice D j f]] w fun e w' => ∃ g1 g2 g3 g4,
      e = .returned (.agg #[.bool s, .slice (some ⟨g1, 0, none⟩) n n, .slice (some ⟨g2, 0, none⟩) m m, .bool t, .slice (some ⟨g3, 0, none⟩) i i, .slice (some ⟨g4, 0, none⟩) j j]) ∧ (w.heap.size ≤ g1 ∧ g1 < g2 ∧ g2 < g3 ∧ g3 < g4) ∧
      (Ow 3 w' g1 p.x.mag ∧ Ow 3 w' g2 p.x.den ∧ Ow 3 w' g3 p.y.mag ∧ Ow 3 w' g4 p.y.den) ∧ Bl w w' := by
  go_enter Tryz.func48, Tryz.ntmps48
  go_wp2_with fail
  refine (toRat_any _ (h.bl (slc)) hn hm).mono ?_
  rintro e w1 ⟨g1, g2, rfl, hg, hg12, hO1, hO2, hb⟩
  obtain ⟨hc, hf⟩ := bcell hb
  have hb1 : Bl w w1 := slc
  have hz := hb.size
  have hgl := hO2.lt
  simp only [World.size_alloc] at hz hg
  have hz1_0 : w.heap.size < w1.heap.size := by omega
  have hz1_1 : w.heap.size + 1 < w1.heap.size := by omega
  have hz1_2 : w.heap.size + 1 + 1 < w1.heap.size := by omega
  go_wp2_with fail
  refine (toRat_any _ (k.bl slc) hi hj).mono ?_
  rintro e w2 ⟨g3, g4, rfl, hg', hg34, hO3, hO4, hb'⟩
  obtain ⟨hc2, hf2⟩ := bcell hb'
  have hz2 := hb'.size
  simp only [World.size_setCell] at hz2 hg'
  have hz2_0 : w.heap.size < w2.heap.size := by omega
  have hz2_1 : w.heap.size + 1 < w2.heap.size := by omega
  have hz2_2 : w.heap.size + 1 + 1 < w2.heap.size := by omega
  have hO1' : Ow 3 w2 g1 p.x.mag := Ow.bl (by repeat (first | with_reducible assumption | (with_reducible refine Ow.setFar ?_ (by simp <;> omega) _) | (with_reducible refine Ow.bl ?_ ‹Bl _ _›))) hb'
  have hO2' : Ow 3 w2 g2 p.x.den := Ow.bl (by repeat (first | with_reducible assumption | (with_reducible refine Ow.setFar ?_ (by simp <;> omega) _) | (with_reducible refine Ow.bl ?_ ‹Bl _ _›))) hb'
  have hb2 : Bl w w2 := Bl.next slc hb'
  go_wp2_with fail
  refine bodyPost_ret (v := .agg #[.bool s, .slice (some ⟨g1, 0, none⟩) n n, .slice (some ⟨g2, 0, none⟩) m m, .bool t, .slice (some ⟨g3, 0, none⟩) i i, .slice (some ⟨g4, 0, none⟩) j j]) (by simp [results, Tryz.results48, go_sem, hc, hc2, hz1_1]) rfl
    ⟨g1, g2, g3, g4, rfl, ⟨by omega, by omega, by omega, by omega⟩, ⟨(by repeat (first | with_reducible assumption | (with_reducible refine Ow.setFar ?_ (by simp <;> omega) _) | (with_reducible refine Ow.bl ?_ ‹Bl _ _›))), (by repeat (first | with_reducible assumption | (with_reducible refine Ow.setFar ?_ (by simp <;> omega) _) | (with_reducible refine Ow.bl ?_ ‹Bl _ _›))), (by repeat (first | with_reducible assumption | (with_reducible refine Ow.setFar ?_ (by simp <;> omega) _) | (with_reducible refine Ow.bl ?_ ‹Bl _ _›))), (by repeat (first | with_reducible assumption | (with_reducible refine Ow.setFar ?_ (by simp <;> omega) _) | (with_reducible refine Ow.bl ?_ ‹Bl _ _›)))⟩, slc⟩

theorem info_pt : (Tryz.prog.info? 59).map (fun i => (i.zero, i.size, i.bytes)) = some (some (.agg #[.bool false, .slice none 0 0, .slice none 0 0, .bool false, .slice none 0 0, .slice none 0 0]), 6, 112) := by kernel_rfl

set_option maxHeartbeats 1000000 in
theorem toPointS_any (w : World) {A : Option Addr} {n c : Nat} {l : List PtD} (h : RdPS w A n c l) (hn : szL szP l ≤ 1048576) :
    Calls Tryz.prog 12 #[.slice A n c] w fun e w' => ∃ g cs fs, e = .returned (.slice (some ⟨g, 0, none⟩) n n) ∧ w.heap.size ≤ g ∧ Blk w' g 59 cs ∧ cs.size = n * 6 ∧
      PtsIn 3 w' cs l n fs ∧ Fp (g + 1) w'.heap.size fs.flatten ∧ Bl w w' := by
  have hl := Lib.hid h.len
  have hn1 : n ≤ 1048576 := by have := hl.out; unfold szL at hn; omega
  have hmk := make_objs (P := Tryz.prog) Tryz.underlying25 info_pt (by omega) n n (Nat.le_refl _) (by omega)
  go_enter Tryz.func12, Tryz.ntmps12
  go_wp2_with fail
  clear hmk
  go_loopw [4] (fun i wr => ∃ k cs fs, k ≤ n ∧ i = .int .i64 (k : Int) ∧ Blk wr w.heap.size 59 cs ∧ cs.size = n * 6 ∧ PtsIn 3 wr cs l k fs ∧ Fp (w.heap.size + 1) wr.heap.size fs.flatten ∧ Bl w wr) (fun i _ => n - (intOf i).toNat)
  case atStart => exact ⟨0, _, [], Nat.zero_le _, rfl, Blk.mk w _ _ _ n, size_madeCells _ _, ⟨rfl, fun i hi => by omega⟩, Fp.nil _ _, (Bl.refl w).alloc _⟩
  case round =>
    obtain ⟨k, cs, fs, hk, rfl, hB, hcs, hP, hF, hbw⟩ := hrel
    by_cases hkn : k < n
    · obtain ⟨ad, rfl, hlt, hat⟩ := h.cells k hkn
      obtain ⟨s, A, n', c', B, m, d, t, C, i, e, D, j, f, ⟨g0, g1, g2, g3, g4, g5⟩, hx, hy⟩ := hat.bl (by rw [block_add]; exact hlt) hbw
      have hki : (k : Int) < (n : Int) := by omega
      go_wp2_with fail
      have hsz := szL_at szP l (k := k) (by rw [hl.out]; exact hkn)
      simp only [szP, szR] at hsz
      have lx := Lib.hid hx.mag.len
      have ly := Lib.hid hx.den.len
      have lz := Lib.hid hy.mag.len
      have lw := Lib.hid hy.den.len
      refine (toPoint_any _ hx hy (by have := lx.out; omega) (by have := ly.out; omega) (by have := lz.out; omega) (by have := lw.out; omega)).mono ?_
      rintro e w1 ⟨q1, q2, q3, q4, rfl, ⟨ho0, ho1, ho2, ho3⟩, ⟨hO1, hO2, hO3, hO4⟩, hb⟩
      have hB1 := hB.bl hb
      have hb1 : Bl w w1 := slc
      have hfr := hB1.frozen
      obtain ⟨v0, x0⟩ := hB1.some (i := k * 6) (by omega)
      obtain ⟨v1, x1⟩ := hB1.some (i := k * 6 + 1) (by omega)
      obtain ⟨v2, x2⟩ := hB1.some (i := k * 6 + 2) (by omega)
      obtain ⟨v3, x3⟩ := hB1.some (i := k * 6 + 3) (by omega)
      obtain ⟨v4, x4⟩ := hB1.some (i := k * 6 + 4) (by omega)
      obtain ⟨v5, x5⟩ := hB1.some (i := k * 6 + 5) (by omega)
      go_wp2_with fail
      have hbs : Bl w ((((((w1.setCell ⟨w.heap.size, k * 6, none⟩ (.bool s)).setCell ⟨w.heap.size, k * 6 + 1, none⟩ (.slice (some ⟨q1, 0, none⟩) n' n')).setCell ⟨w.heap.size, k * 6 + 2, none⟩ (.slice (some ⟨q2, 0, none⟩) m m)).setCell ⟨w.heap.size, k * 6 + 3, none⟩ (.bool t)).setCell ⟨w.heap.size, k * 6 + 4, none⟩ (.slice (some ⟨q3, 0, none⟩) i i)).setCell ⟨w.heap.size, k * 6 + 5, none⟩ (.slice (some ⟨q4, 0, none⟩) j j)) := slc
      obtain ⟨cs', fs', r1, r2, r3, r4⟩ := (hP.bl hb fun b hm => (hF.2 b hm).2).step hB1 hcs hkn hF (by have := hB.lt; omega) hb.size ho0 ho1 ho2 ho3 hx.neg hy.neg lx.out ly.out lz.out lw.out hx.mag.small hx.den.small hy.mag.small hy.den.small hO1 hO2 hO3 hO4 rfl
      go_roundw
      case rel => exact ⟨k + 1, cs', fs', by omega, by go_num, r1, r2, r3, r4, hbs⟩
      case measure => simp [intOf]; omega
    · obtain rfl : k = n := by omega
      go_wp2_with fail
      go_ret
      exact ⟨_, cs, fs, rfl, Nat.le_refl _, hB, hcs, hP, hF, hbw⟩

end Go.Proofs.YthgielbhcjpikaaGreat
