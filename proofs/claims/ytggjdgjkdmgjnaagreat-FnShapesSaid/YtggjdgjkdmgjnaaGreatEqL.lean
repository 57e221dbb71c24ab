-- merged: To Sz EqL
import Derived.Test.YtggjdgjkdmgjnaaGreatRows
import Derived.Test.YtggjdgjkdmgjnaaGreatBase
namespace Go.Proofs.YtggjdgjkdmgjnaaGreat
open Go.RowKit
section




/-- The first k elements copied. -/
def copyTo (l : List Int) (k n : Nat) : List Int := (List.range n).map fun i => if i < k then ix l i else 0
theorem copyTo_zero (l : List Int) (n : Nat) : copyTo l 0 n = List.replicate n 0 := by
  unfold copyTo; simp [List.map_const']
theorem copyTo_succ (l : List Int) (k n : Nat) (_h : k < n) : (copyTo l k n).set k (ix l k) = copyTo l (k + 1) n := by
  unfold copyTo
  apply List.ext_getElem (by simp)
  intro i h1 h2
  simp only [List.getElem_set, List.getElem_map, List.getElem_range]
  split
  · next e => subst e; rw [if_pos (by omega)]
  · next e => by_cases h : i < k
              · rw [if_pos h, if_pos (by omega)]
              · rw [if_neg h, if_neg (by omega)]
theorem copyTo_all (l : List Int) (n : Nat) (h : l.length = n) : copyTo l n n = l := by
  unfold copyTo
  apply List.ext_getElem (by simp [h])
  intro i h1 h2
  simp [ix, h2]
  intro; omega
theorem copyTo_len (l : List Int) (k n : Nat) : (copyTo l k n).length = n := by simp [copyTo]

set_option maxHeartbeats 400000 in
theorem toIntS_any (w : World) {A : Option Addr} {n c : Nat} {l : List Int} (h : RdI w A n c l) (hn : n ≤ 1099511627776) :
    Calls Tryz.prog 173 #[.slice A n c] w fun e w' => ∃ g, e = .returned (.slice (some ⟨g, 0, none⟩) n n) ∧ w.heap.size ≤ g ∧ Ow 3 w' g l ∧ Bl w w' := by
  have hl := Lib.hid h.len
  have hmk := make_ints (P := Tryz.prog) Tryz.underlying30 info_int n n (Nat.le_refl _) hn
  go_enter Tryz.func173, Tryz.ntmps173
  go_wp2_with fail
  clear hmk
  go_loopw [4] (fun i wr => ∃ k : Nat, k ≤ n ∧ i = .int .i64 (k : Int) ∧ Ow 3 wr w.heap.size (copyTo l k n) ∧ Bl w wr) (fun i _ => n - (intOf i).toNat)
  case atStart => exact ⟨0, Nat.zero_le _, rfl, by rw [copyTo_zero]; exact Ow.mk w n, (Bl.refl w).alloc _⟩
  case round =>
    obtain ⟨k, hk, rfl, hO, hbw⟩ := hrel
    by_cases hkn : k < n
    · obtain ⟨ad, rfl, hlt, hca⟩ := (h.bl hbw).at_ hkn
      have hcell := hO.cell (k := k) (by rw [copyTo_len]; exact hkn)
      have hfr := hO.frozen k
      have hO1 := hO.set k (ix l k)
      rw [copyTo_succ l k n hkn] at hO1
      have hki : (k : Int) < (n : Int) := by omega
      go_wp2_with fail
      go_roundw
      case rel => exact ⟨k + 1, by omega, by go_num, hO1, hbw.set (Nat.le_refl _) _⟩
      case measure => simp [intOf]; omega
    · obtain rfl : k = n := by omega
      rw [copyTo_all l _ hl.out] at hO
      go_wp2_with fail
      go_ret
      exact ⟨_, rfl, Nat.le_refl _, hO, hbw⟩

set_option maxHeartbeats 400000 in
theorem toBigInt_any (w : World) {s : Bool} {A : Option Addr} {n c : Nat} {l : List Int} (h : RdI w A n c l) (hn : n ≤ 1099511627776) :
    Calls Tryz.prog 172 #[.agg #[.bool s, .slice A n c]] w fun e w' => ∃ g, e = .returned (.agg #[.bool s, .slice (some ⟨g, 0, none⟩) n n]) ∧ w.heap.size ≤ g ∧ Ow 3 w' g l ∧ Bl w w' := by
  go_enter Tryz.func172, Tryz.ntmps172
  go_wp2_with fail
  refine (toIntS_any _ (h.bl (slc)) hn).mono ?_
  rintro e w1 ⟨g, rfl, hg, hO, hb⟩
  obtain ⟨hc, hf⟩ := bcell hb
  have hb1 : Bl w w1 := slc
  have hz := hb.size
  simp only [World.size_alloc] at hz hg
  go_wp2_with fail
  refine bodyPost_ret (v := .agg #[.bool s, .slice (some ⟨g, 0, none⟩) n n]) (by simp [results, Tryz.results172, go_sem, hc]) rfl ⟨g, rfl, by omega, ?_, ?_⟩
  · repeat (first | exact hO | refine Ow.setFar ?_ (by simp; omega) _)
  · repeat (first | assumption | refine Bl.set ?_ (by simp <;> omega) _)

set_option maxHeartbeats 1000000 in
theorem toRat_any (w : World) {s : Bool} {A : Option Addr} {n c : Nat} {B : Option Addr} {m d : Nat} {r : RatD} (h : RdR w s A n c B m d r) (hn : n ≤ 1099511627776) (hm : m ≤ 1099511627776) :
    Calls Tryz.prog 124 #[.agg #[.bool s, .slice A n c, .slice B m d]] w fun e w' => ∃ g g', e = .returned (.agg #[.bool s, .slice (some ⟨g, 0, none⟩) n n, .slice (some ⟨g', 0, none⟩) m m]) ∧ w.heap.size ≤ g ∧ g < g' ∧ Ow 3 w' g r.mag ∧ Ow 3 w' g' r.den ∧ Bl w w' := by
  go_enter Tryz.func124, Tryz.ntmps124
  go_wp2_with fail
  refine (toBigInt_any _ (h.mag.bl (slc)) hn).mono ?_
  rintro e w1 ⟨g, rfl, hg, hO, hb⟩
  obtain ⟨hc, hf⟩ := bcell hb
  have hb1 : Bl w w1 := slc
  have hz := hb.size
  have hgl := hO.lt
  simp only [World.size_alloc] at hz hg
  have hz1_0 : w.heap.size < w1.heap.size := by omega
  have hz1_1 : w.heap.size + 1 < w1.heap.size := by omega
  have hz1_2 : w.heap.size + 1 + 1 < w1.heap.size := by omega
  go_wp2_with fail
  refine (toIntS_any _ (h.den.bl slc) hm).mono ?_
  rintro e w2 ⟨g', rfl, hg', hO', hb'⟩
  obtain ⟨hc2, hf2⟩ := bcell hb'
  have hz2 := hb'.size
  simp only [World.size_setCell] at hz2 hg'
  have hz2_0 : w.heap.size < w2.heap.size := by omega
  have hz2_1 : w.heap.size + 1 < w2.heap.size := by omega
  have hz2_2 : w.heap.size + 1 + 1 < w2.heap.size := by omega
  have hO1 : Ow 3 w2 g r.mag := Ow.bl (by repeat (first | with_reducible assumption | (with_reducible refine Ow.setFar ?_ (by simp <;> omega) _) | (with_reducible refine Ow.bl ?_ ‹Bl _ _›))) hb'
  have hb2 : Bl w w2 := Bl.next slc hb'
  go_wp2_with fail
  refine bodyPost_ret (v := .agg #[.bool s, .slice (some ⟨g, 0, none⟩) n n, .slice (some ⟨g', 0, none⟩) m m]) (by simp [results, Tryz.results124, go_sem, hc, hc2, hz1_1]) rfl ⟨g, g', rfl, by omega, by omega, (by repeat (first | with_reducible assumption | (with_reducible refine Ow.setFar ?_ (by simp <;> omega) _) | (with_reducible refine Ow.bl ?_ ‹Bl _ _›))), (by repeat (first | with_reducible assumption | (with_reducible refine Ow.setFar ?_ (by simp <;> omega) _) | (with_reducible refine Ow.bl ?_ ‹Bl _ _›))), slc⟩

set_option maxHeartbeats 1000000 in
theorem toPoint_any (w : World) {s : Bool} {A : Option Addr} {n c : Nat} {B : Option Addr} {m d : Nat} {t : Bool} {C : Option Addr} {i e : Nat} {D : Option Addr} {j f : Nat} {p : PtD} (h : RdR w s A n c B m d p.x) (k : RdR w t C i e D j f p.y)
    (hn : n ≤ 1099511627776) (hm : m ≤ 1099511627776) (hi : i ≤ 1099511627776) (hj : j ≤ 1099511627776) :
    Calls Tryz.prog 61 #[.agg #[.bool s, .slice A n c, .slice B m d, .bool t, .slice C i e, .slice D j f]] w fun e w' => ∃ g1 g2 g3 g4,
      e = .returned (.agg #[.bool s, .slice (some ⟨g1, 0, none⟩) n n, .slice (some ⟨g2, 0, none⟩) m m, .bool t, .slice (some ⟨g3, 0, none⟩) i i, .slice (some ⟨g4, 0, none⟩) j j]) ∧ (w.heap.size ≤ g1 ∧ g1 < g2 ∧ g2 < g3 ∧ g3 < g4) ∧
      (Ow 3 w' g1 p.x.mag ∧ Ow 3 w' g2 p.x.den ∧ Ow 3 w' g3 p.y.mag ∧ Ow 3 w' g4 p.y.den) ∧ Bl w w' := by
  go_enter Tryz.func61, Tryz.ntmps61
  go_wp2_with fail
  refine (toRat_any _ (h.bl (slc)) hn hm).mono ?_
  rintro e w1 ⟨g1, g2, rfl, hg, hg12, hO1, hO2, hb⟩
  obtain ⟨hc, hf⟩ := bcell hb
  have hb1 : Bl w w1 := slc
  have hz := hb.size
  have hgl := hO2.lt
  simp only [World.size_alloc] at hz hg
  have hz1_0 : w.heap.size < w1.heap.size := by omega
  have hz1_1 : w.heap.size + 1 < w1.heap.size := by omega
  have hz1_2 : w.heap.size + 1 + 1 < w1.heap.size := by omega
  go_wp2_with fail
  refine (toRat_any _ (k.bl slc) hi hj).mono ?_
  rintro e w2 ⟨g3, g4, rfl, hg', hg34, hO3, hO4, hb'⟩
  obtain ⟨hc2, hf2⟩ := bcell hb'
  have hz2 := hb'.size
  simp only [World.size_setCell] at hz2 hg'
  have hz2_0 : w.heap.size < w2.heap.size := by omega
  have hz2_1 : w.heap.size + 1 < w2.heap.size := by omega
  have hz2_2 : w.heap.size + 1 + 1 < w2.heap.size := by omega
  have hO1' : Ow 3 w2 g1 p.x.mag := Ow.bl (by repeat (first | with_reducible assumption | (with_reducible refine Ow.setFar ?_ (by simp <;> omega) _) | (with_reducible refine Ow.bl ?_ ‹Bl _ _›))) hb'
  have hO2' : Ow 3 w2 g2 p.x.den := Ow.bl (by repeat (first | with_reducible assumption | (with_reducible refine Ow.setFar ?_ (by simp <;> omega) _) | (with_reducible refine Ow.bl ?_ ‹Bl _ _›))) hb'
  have hb2 : Bl w w2 := Bl.next slc hb'
  go_wp2_with fail
  refine bodyPost_ret (v := .agg #[.bool s, .slice (some ⟨g1, 0, none⟩) n n, .slice (some ⟨g2, 0, none⟩) m m, .bool t, .slice (some ⟨g3, 0, none⟩) i i, .slice (some ⟨g4, 0, none⟩) j j]) (by simp [results, Tryz.results61, go_sem, hc, hc2, hz1_1]) rfl
    ⟨g1, g2, g3, g4, rfl, ⟨by omega, by omega, by omega, by omega⟩, ⟨(by repeat (first | with_reducible assumption | (with_reducible refine Ow.setFar ?_ (by simp <;> omega) _) | (with_reducible refine Ow.bl ?_ ‹Bl _ _›))), (by repeat (first | with_reducible assumption | (with_reducible refine Ow.setFar ?_ (by simp <;> omega) _) | (with_reducible refine Ow.bl ?_ ‹Bl _ _›))), (by repeat (first | with_reducible assumption | (with_reducible refine Ow.setFar ?_ (by simp <;> omega) _) | (with_reducible refine Ow.bl ?_ ‹Bl _ _›))), (by repeat (first | with_reducible assumption | (with_reducible refine Ow.setFar ?_ (by simp <;> omega) _) | (with_reducible refine Ow.bl ?_ ‹Bl _ _›)))⟩, slc⟩

theorem info_pt : (Tryz.prog.info? 45).map (fun i => (i.zero, i.size, i.bytes)) = some (some (.agg #[.bool false, .slice none 0 0, .slice none 0 0, .bool false, .slice none 0 0, .slice none 0 0]), 6, 112) := by kernel_rfl

set_option maxHeartbeats 1000000 in
theorem toPointS_any (w : World) {A : Option Addr} {n c : Nat} {l : List PtD} (h : RdPS w A n c l) (hn : szL szP l ≤ 1048576) :
    Calls Tryz.prog 13 #[.slice A n c] w fun e w' => ∃ g cs fs, e = .returned (.slice (some ⟨g, 0, none⟩) n n) ∧ w.heap.size ≤ g ∧ Blk w' g 45 cs ∧ cs.size = n * 6 ∧
      PtsIn 3 w' cs l n fs ∧ Fp (g + 1) w'.heap.size fs.flatten ∧ Bl w w' := by
  have hl := Lib.hid h.len
  have hn1 : n ≤ 1048576 := by have := hl.out; unfold szL at hn; omega
  have hmk := make_objs (P := Tryz.prog) Tryz.underlying24 info_pt (by omega) n n (Nat.le_refl _) (by omega)
  go_enter Tryz.func13, Tryz.ntmps13
  go_wp2_with fail
  clear hmk
  go_loopw [4] (fun i wr => ∃ k cs fs, k ≤ n ∧ i = .int .i64 (k : Int) ∧ Blk wr w.heap.size 45 cs ∧ cs.size = n * 6 ∧ PtsIn 3 wr cs l k fs ∧ Fp (w.heap.size + 1) wr.heap.size fs.flatten ∧ Bl w wr) (fun i _ => n - (intOf i).toNat)
  case atStart => exact ⟨0, _, [], Nat.zero_le _, rfl, Blk.mk w _ _ _ n, size_madeCells _ _, ⟨rfl, fun i hi => by omega⟩, Fp.nil _ _, (Bl.refl w).alloc _⟩
  case round =>
    obtain ⟨k, cs, fs, hk, rfl, hB, hcs, hP, hF, hbw⟩ := hrel
    by_cases hkn : k < n
    · obtain ⟨ad, rfl, hlt, hat⟩ := h.cells k hkn
      obtain ⟨s, A, n', c', B, m, d, t, C, i, e, D, j, f, ⟨g0, g1, g2, g3, g4, g5⟩, hx, hy⟩ := hat.bl (by rw [block_add]; exact hlt) hbw
      have hki : (k : Int) < (n : Int) := by omega
      go_wp2_with fail
      have hsz := szL_at szP l (k := k) (by rw [hl.out]; exact hkn)
      simp only [szP, szR] at hsz
      have lx := Lib.hid hx.mag.len
      have ly := Lib.hid hx.den.len
      have lz := Lib.hid hy.mag.len
      have lw := Lib.hid hy.den.len
      refine (toPoint_any _ hx hy (by have := lx.out; omega) (by have := ly.out; omega) (by have := lz.out; omega) (by have := lw.out; omega)).mono ?_
      rintro e w1 ⟨q1, q2, q3, q4, rfl, ⟨ho0, ho1, ho2, ho3⟩, ⟨hO1, hO2, hO3, hO4⟩, hb⟩
      have hB1 := hB.bl hb
      have hb1 : Bl w w1 := slc
      have hfr := hB1.frozen
      obtain ⟨v0, x0⟩ := hB1.some (i := k * 6) (by omega)
      obtain ⟨v1, x1⟩ := hB1.some (i := k * 6 + 1) (by omega)
      obtain ⟨v2, x2⟩ := hB1.some (i := k * 6 + 2) (by omega)
      obtain ⟨v3, x3⟩ := hB1.some (i := k * 6 + 3) (by omega)
      obtain ⟨v4, x4⟩ := hB1.some (i := k * 6 + 4) (by omega)
      obtain ⟨v5, x5⟩ := hB1.some (i := k * 6 + 5) (by omega)
      go_wp2_with fail
      have hbs : Bl w ((((((w1.setCell ⟨w.heap.size, k * 6, none⟩ (.bool s)).setCell ⟨w.heap.size, k * 6 + 1, none⟩ (.slice (some ⟨q1, 0, none⟩) n' n')).setCell ⟨w.heap.size, k * 6 + 2, none⟩ (.slice (some ⟨q2, 0, none⟩) m m)).setCell ⟨w.heap.size, k * 6 + 3, none⟩ (.bool t)).setCell ⟨w.heap.size, k * 6 + 4, none⟩ (.slice (some ⟨q3, 0, none⟩) i i)).setCell ⟨w.heap.size, k * 6 + 5, none⟩ (.slice (some ⟨q4, 0, none⟩) j j)) := slc
      obtain ⟨cs', fs', r1, r2, r3, r4⟩ := (hP.bl hb fun b hm => (hF.2 b hm).2).step hB1 hcs hkn hF (by have := hB.lt; omega) hb.size ho0 ho1 ho2 ho3 hx.neg hy.neg lx.out ly.out lz.out lw.out hx.mag.small hx.den.small hy.mag.small hy.den.small hO1 hO2 hO3 hO4 rfl
      go_roundw
      case rel => exact ⟨k + 1, cs', fs', by omega, by go_num, r1, r2, r3, r4, hbs⟩
      case measure => simp [intOf]; omega
    · obtain rfl : k = n := by omega
      go_wp2_with fail
      go_ret
      exact ⟨_, cs, fs, rfl, Nat.le_refl _, hB, hcs, hP, hF, hbw⟩


end

section


/-- What is left of a budget: -1 once it is spent. -/
def lft (left : Int) (t : Nat) : Int := if (t : Int) ≤ left then left - t else -1
theorem lft_yes {left : Int} {t : Nat} (h : (t : Int) ≤ left) : lft left t = left - t := if_pos h
theorem lft_no {left : Int} {t : Nat} (h : ¬ (t : Int) ≤ left) : lft left t = -1 := if_neg h
theorem lft_add {left : Int} {t u : Nat} (_h : (t : Int) ≤ left) : lft left (t + u) = lft (left - t) u := by
  unfold lft; split <;> split <;> omega
theorem lft_add_no {left : Int} {t u : Nat} (h : ¬ (t : Int) ≤ left) : lft left (t + u) = -1 := by
  unfold lft; rw [if_neg]; omega

set_option maxHeartbeats 400000 in
theorem szIntS_any (w : World) {A : Option Addr} {n c : Nat} {l : List Int} (h : RdI w A n c l) {left : Int} (h0 : 0 ≤ left) (h1 : left ≤ 1099511627776) :
    Calls Tryz.prog 163 #[.slice A n c, .int .i64 left] w fun e w' => e = .returned (.int .i64 (lft left l.length)) ∧ Bl w w' := by
  have hn := h.small
  have hl := Lib.hid h.len
  by_cases hc : (n : Int) ≤ left
  · have hs := Lib.hid (lft_yes hc)
    go_enter Tryz.func163, Tryz.ntmps163
    go_wp2
    go_ret
    exact ⟨ret_int (by rw [hl.out]; exact hs.out.symm), Bl.refl _⟩
  · have hs := Lib.hid (lft_no hc)
    go_enter Tryz.func163, Tryz.ntmps163
    go_wp2
    go_ret
    exact ⟨ret_int (by rw [hl.out]; exact hs.out.symm), Bl.refl _⟩


set_option maxHeartbeats 1000000 in
theorem szBigInt_any (w : World) {s : Bool} {A : Option Addr} {n c : Nat} {l : List Int} (h : RdI w A n c l) {left : Int} (h0 : 0 ≤ left) (h1 : left ≤ 1099511627776) :
    Calls Tryz.prog 162 #[.agg #[.bool s, .slice A n c], .int .i64 left] w fun e w' => e = .returned (.int .i64 (lft left (l.length))) ∧ Bl w w' := by
  by_cases c0 : ((l.length : Nat) : Int) ≤ left
  · have e0 : lft (left) (l.length) = left - ((l.length : Nat) : Int) := lft_yes c0
    have hs : Hid (lft left (l.length) = left - ((l.length : Nat) : Int)) := by show _ = _; skip; unfold lft; split <;> omega
    go_enter Tryz.func162, Tryz.ntmps162
    go_wp2_with fail
    refine (szIntS_any _ (h.alloc _) (by omega) (by omega)).mono ?_
    rintro e w1 ⟨rfl, hb⟩
    rw [e0]
    have hb1 : Bl w w1 := slc
    obtain ⟨hc, hf⟩ := bcell hb
    have hz1 := hb.size
    simp only [World.size_alloc] at hz1
    clear hb
    go_wp2_with fail
    go_ret
    exact ⟨ret_int hs.out.symm, hb1⟩
  · have e0 : lft (left) (l.length) = -1 := lft_no c0
    have hs : Hid (lft left (l.length) = -1) := by show _ = _; skip; unfold lft; split <;> omega
    go_enter Tryz.func162, Tryz.ntmps162
    go_wp2_with fail
    refine (szIntS_any _ (h.alloc _) (by omega) (by omega)).mono ?_
    rintro e w1 ⟨rfl, hb⟩
    rw [e0]
    have hb1 : Bl w w1 := slc
    obtain ⟨hc, hf⟩ := bcell hb
    have hz1 := hb.size
    simp only [World.size_alloc] at hz1
    clear hb
    go_wp2_with fail
    go_ret
    exact ⟨ret_int hs.out.symm, hb1⟩

set_option maxHeartbeats 1000000 in
theorem szRat_any (w : World) {s : Bool} {A : Option Addr} {n c : Nat} {B : Option Addr} {m d : Nat} {r : RatD} (h : RdR w s A n c B m d r) {left : Int} (h0 : 0 ≤ left) (h1 : left ≤ 1099511627776) :
    Calls Tryz.prog 116 #[.agg #[.bool s, .slice A n c, .slice B m d], .int .i64 left] w fun e w' => e = .returned (.int .i64 (lft left (szR r))) ∧ Bl w w' := by
  by_cases c0 : ((r.mag.length : Nat) : Int) ≤ left
  · have e0 : lft (left) (r.mag.length) = left - ((r.mag.length : Nat) : Int) := lft_yes c0
    by_cases c1 : ((r.den.length : Nat) : Int) ≤ left - ((r.mag.length : Nat) : Int)
    · have e1 : lft (left - ((r.mag.length : Nat) : Int)) (r.den.length) = left - ((r.mag.length : Nat) : Int) - ((r.den.length : Nat) : Int) := lft_yes c1
      have hs : Hid (lft left (szR r) = left - ((r.mag.length : Nat) : Int) - ((r.den.length : Nat) : Int)) := by show _ = _; unfold szR; unfold lft; split <;> omega
      go_enter Tryz.func116, Tryz.ntmps116
      go_wp2_with fail
      refine (szBigInt_any _ (h.mag.alloc _) (by omega) (by omega)).mono ?_
      rintro e w1 ⟨rfl, hb⟩
      rw [e0]
      have hb1 : Bl w w1 := slc
      obtain ⟨hc, hf⟩ := bcell hb
      have hz1 := hb.size
      simp only [World.size_alloc] at hz1
      clear hb
      go_wp2_with fail
      refine (szIntS_any _ (h.den.bl hb1) (by omega) (by omega)).mono ?_
      rintro e w2 ⟨rfl, hb⟩
      rw [e1]
      have hb2 : Bl w w2 := slc
      obtain ⟨hc, hf⟩ := bcell hb
      have hz2 := hb.size
      clear hb
      go_wp2_with fail
      go_ret
      exact ⟨ret_int hs.out.symm, hb2⟩
    · have e1 : lft (left - ((r.mag.length : Nat) : Int)) (r.den.length) = -1 := lft_no c1
      have hs : Hid (lft left (szR r) = -1) := by show _ = _; unfold szR; unfold lft; split <;> omega
      go_enter Tryz.func116, Tryz.ntmps116
      go_wp2_with fail
      refine (szBigInt_any _ (h.mag.alloc _) (by omega) (by omega)).mono ?_
      rintro e w1 ⟨rfl, hb⟩
      rw [e0]
      have hb1 : Bl w w1 := slc
      obtain ⟨hc, hf⟩ := bcell hb
      have hz1 := hb.size
      simp only [World.size_alloc] at hz1
      clear hb
      go_wp2_with fail
      refine (szIntS_any _ (h.den.bl hb1) (by omega) (by omega)).mono ?_
      rintro e w2 ⟨rfl, hb⟩
      rw [e1]
      have hb2 : Bl w w2 := slc
      obtain ⟨hc, hf⟩ := bcell hb
      have hz2 := hb.size
      clear hb
      go_wp2_with fail
      go_ret
      exact ⟨ret_int hs.out.symm, hb2⟩
  · have e0 : lft (left) (r.mag.length) = -1 := lft_no c0
    have hs : Hid (lft left (szR r) = -1) := by show _ = _; unfold szR; unfold lft; split <;> omega
    go_enter Tryz.func116, Tryz.ntmps116
    go_wp2_with fail
    refine (szBigInt_any _ (h.mag.alloc _) (by omega) (by omega)).mono ?_
    rintro e w1 ⟨rfl, hb⟩
    rw [e0]
    have hb1 : Bl w w1 := slc
    obtain ⟨hc, hf⟩ := bcell hb
    have hz1 := hb.size
    simp only [World.size_alloc] at hz1
    clear hb
    go_wp2_with fail
    go_ret
    exact ⟨ret_int hs.out.symm, hb1⟩

set_option maxHeartbeats 1000000 in
theorem szPoint_any (w : World) {s : Bool} {A : Option Addr} {n c : Nat} {B : Option Addr} {m d : Nat} {t : Bool} {C : Option Addr} {i e : Nat} {D : Option Addr} {j f : Nat} {p : PtD} (h : RdR w s A n c B m d p.x) (k : RdR w t C i e D j f p.y) {left : Int} (h0 : 0 ≤ left) (h1 : left ≤ 1099511627776) :
    Calls Tryz.prog 55 #[.agg #[.bool s, .slice A n c, .slice B m d, .bool t, .slice C i e, .slice D j f], .int .i64 left] w fun e w' => e = .returned (.int .i64 (lft left (szP p))) ∧ Bl w w' := by
  by_cases c0 : ((szR p.x : Nat) : Int) ≤ left
  · have e0 : lft (left) (szR p.x) = left - ((szR p.x : Nat) : Int) := lft_yes c0
    by_cases c1 : ((szR p.y : Nat) : Int) ≤ left - ((szR p.x : Nat) : Int)
    · have e1 : lft (left - ((szR p.x : Nat) : Int)) (szR p.y) = left - ((szR p.x : Nat) : Int) - ((szR p.y : Nat) : Int) := lft_yes c1
      have hs : Hid (lft left (szP p) = left - ((szR p.x : Nat) : Int) - ((szR p.y : Nat) : Int)) := by show _ = _; unfold szP; unfold lft; split <;> omega
      go_enter Tryz.func55, Tryz.ntmps55
      go_wp2_with fail
      refine (szRat_any _ (h.alloc _) (by omega) (by omega)).mono ?_
      rintro e w1 ⟨rfl, hb⟩
      rw [e0]
      have hb1 : Bl w w1 := slc
      obtain ⟨hc, hf⟩ := bcell hb
      have hz1 := hb.size
      simp only [World.size_alloc] at hz1
      clear hb
      go_wp2_with fail
      refine (szRat_any _ (k.bl hb1) (by omega) (by omega)).mono ?_
      rintro e w2 ⟨rfl, hb⟩
      rw [e1]
      have hb2 : Bl w w2 := slc
      obtain ⟨hc, hf⟩ := bcell hb
      have hz2 := hb.size
      clear hb
      go_wp2_with fail
      go_ret
      exact ⟨ret_int hs.out.symm, hb2⟩
    · have e1 : lft (left - ((szR p.x : Nat) : Int)) (szR p.y) = -1 := lft_no c1
      have hs : Hid (lft left (szP p) = -1) := by show _ = _; unfold szP; unfold lft; split <;> omega
      go_enter Tryz.func55, Tryz.ntmps55
      go_wp2_with fail
      refine (szRat_any _ (h.alloc _) (by omega) (by omega)).mono ?_
      rintro e w1 ⟨rfl, hb⟩
      rw [e0]
      have hb1 : Bl w w1 := slc
      obtain ⟨hc, hf⟩ := bcell hb
      have hz1 := hb.size
      simp only [World.size_alloc] at hz1
      clear hb
      go_wp2_with fail
      refine (szRat_any _ (k.bl hb1) (by omega) (by omega)).mono ?_
      rintro e w2 ⟨rfl, hb⟩
      rw [e1]
      have hb2 : Bl w w2 := slc
      obtain ⟨hc, hf⟩ := bcell hb
      have hz2 := hb.size
      clear hb
      go_wp2_with fail
      go_ret
      exact ⟨ret_int hs.out.symm, hb2⟩
  · have e0 : lft (left) (szR p.x) = -1 := lft_no c0
    have hs : Hid (lft left (szP p) = -1) := by show _ = _; unfold szP; unfold lft; split <;> omega
    go_enter Tryz.func55, Tryz.ntmps55
    go_wp2_with fail
    refine (szRat_any _ (h.alloc _) (by omega) (by omega)).mono ?_
    rintro e w1 ⟨rfl, hb⟩
    rw [e0]
    have hb1 : Bl w w1 := slc
    obtain ⟨hc, hf⟩ := bcell hb
    have hz1 := hb.size
    simp only [World.size_alloc] at hz1
    clear hb
    go_wp2_with fail
    go_ret
    exact ⟨ret_int hs.out.symm, hb1⟩

set_option maxHeartbeats 1000000 in
theorem szPointS_any (w : World) {A : Option Addr} {n c : Nat} {l : List PtD} (h : RdS 6 PtAt w A n c l) {left : Int} (h0 : 0 ≤ left) (h1 : left ≤ 1099511627776) :
    Calls Tryz.prog 11 #[.slice A n c, .int .i64 left] w fun e w' => e = .returned (.int .i64 (lft left (szL szP l))) ∧ Bl w w' := by
  have hn := h.small
  have hl := Lib.hid h.len
  by_cases hc : (n : Int) ≤ left
  · go_enter Tryz.func11, Tryz.ntmps11
    go_wp2
    go_loopw [1, 5] (fun v i wr => ∃ k : Nat, k ≤ n ∧ i = .int .i64 (k : Int) ∧ (((n + sumTo szP l k : Nat) : Int) ≤ left) ∧ v = .int .i64 (left - ((n + sumTo szP l k : Nat) : Int)) ∧ Bl w wr) (fun _ i _ => n - (intOf i).toNat)
    case atStart => exact ⟨0, Nat.zero_le _, rfl, by simp [sumTo]; omega, by simp [sumTo], Bl.refl _⟩
    case round =>
      obtain ⟨k, hk, rfl, hle, rfl, hbw⟩ := hrel
      have hin : 0 ≤ left - ((n + sumTo szP l k : Nat) : Int) := by omega
      have hin2 : left - ((n + sumTo szP l k : Nat) : Int) ≤ 1099511627776 := by omega
      generalize hGo : left - ((n + sumTo szP l k : Nat) : Int) = G at *
      have hG := Lib.hid hGo; clear hGo
      by_cases hkn : k < n
      · obtain ⟨ad, rfl, hlt, hat⟩ := (h.cells k hkn)
        obtain ⟨s, A, n', c', B, m, d, t, C, i, e, D, j, f, ⟨g0, g1, g2, g3, g4, g5⟩, hx, hy⟩ := hat.bl (by rw [block_add]; exact hlt) hbw
        have hms := sumTo_le szP l (show k + 1 ≤ n from hkn)
        by_cases hfit : ((szP (pix l k) : Nat) : Int) ≤ G
        · have he := lft_yes hfit
          go_wp2_with fail
          refine (szPoint_any _ hx hy (by omega) (by omega)).mono ?_
          rintro e w1 ⟨rfl, hb⟩
          rw [he]; clear he
          have hb1 : Bl w w1 := slc
          go_wp2_with fail
          go_roundw
          case rel => exact ⟨k + 1, by omega, by go_num, by have := hG.out; simp only [sumTo]; omega, by rw [show left - ((n + sumTo szP l (k + 1) : Nat) : Int) = G - ((szP (pix l k) : Nat) : Int) from by have := hG.out; simp only [sumTo]; omega], hb1⟩
          case measure => simp [intOf]; omega
        · have he := lft_no hfit
          have hs := Lib.hid (show lft left (szL szP l) = -1 from lft_no (by have := hG.out; simp only [sumTo] at hms; unfold szL; rw [hl.out]; omega))
          go_wp2_with fail
          refine (szPoint_any _ hx hy (by omega) (by omega)).mono ?_
          rintro e w1 ⟨rfl, hb⟩
          rw [he]; clear he
          have hb1 : Bl w w1 := slc
          go_wp2_with fail
          go_ret
          exact ⟨ret_int hs.out.symm, hb1⟩
      · have hs := Lib.hid (show lft left (szL szP l) = G by have := hG.out; rw [lft_yes (by unfold szL; rw [hl.out, show n = k from by omega]; rw [show n = k from by omega] at hle; exact hle), ← this]; unfold szL; rw [hl.out, show k = n from by omega])
        go_wp2_with fail
        go_ret
        exact ⟨ret_int hs.out.symm, hbw⟩
  · have hs := Lib.hid (show lft left (szL szP l) = -1 from lft_no (by unfold szL; rw [hl.out]; omega))
    go_enter Tryz.func11, Tryz.ntmps11
    go_wp2
    go_ret
    exact ⟨ret_int hs.out.symm, Bl.refl _⟩



end

section


set_option maxHeartbeats 400000 in
theorem eqIntS_any (w : World) {A B : Option Addr} {n c d : Nat} {xs : List Int} (ha : RdI w A n c xs) (hb : RdI w B n d xs) :
    Calls Tryz.prog 76 #[.slice A n c, .slice B n d] w fun e w' => e = .returned (.bool true) ∧ ∃ q, w' = w.drewN q := by
  have hna := ha.small
  go_enter Tryz.func76, Tryz.ntmps76
  go_wp2
  go_loopw [5] (fun i wr => ∃ k : Nat, k ≤ n ∧ i = .int .i64 (k : Int) ∧ ∃ q, wr = w.drewN q) (fun i _ => n - (intOf i).toNat)
  case atStart => exact ⟨0, Nat.zero_le _, rfl, (by first | exact ⟨_, rfl⟩ | exact ⟨0, rfl⟩ | exact q_drewN ⟨_, rfl⟩ | exact q_drewN (q_drewN ⟨_, rfl⟩))⟩
  case round =>
    obtain ⟨k, hk, rfl, q, rfl⟩ := hrel
    by_cases hkn : k < n
    · obtain ⟨ad, rfl, hlta, hca⟩ := ha.at_ hkn
      obtain ⟨bd, rfl, hltb, hcb⟩ := hb.at_ hkn
      have hki : (k : Int) < (n : Int) := by omega
      go_wp2
      go_quiet (fail)
      go_wp2
      go_roundw
      case rel => exact ⟨k + 1, by omega, by go_num, (by first | exact ⟨_, rfl⟩ | exact ⟨0, rfl⟩ | exact q_drewN ⟨_, rfl⟩ | exact q_drewN (q_drewN ⟨_, rfl⟩))⟩
      case measure => simp [intOf]; omega
    · go_wp2
      go_ret
      exact ⟨rfl, (by first | exact ⟨_, rfl⟩ | exact ⟨0, rfl⟩ | exact q_drewN ⟨_, rfl⟩ | exact q_drewN (q_drewN ⟨_, rfl⟩))⟩

set_option maxHeartbeats 1000000 in
theorem eqBigInt_any (w : World) {s : Bool} {A A' : Option Addr} {n c c' : Nat} {l : List Int} (h : RdI w A n c l) (h' : RdI w A' n c' l) :
    Calls Tryz.prog 75 #[.agg #[.bool s, .slice A n c], .agg #[.bool s, .slice A' n c']] w fun e w' => e = .returned (.bool true) ∧ Bl w w' := by
  have hse : (s != s) = false := by simp
  go_enter Tryz.func75, Tryz.ntmps75
  go_wp2_with fail
  refine (eqIntS_any _ (h.bl slc) (h'.bl slc)).mono ?_
  rintro e w1 ⟨rfl, hq⟩
  have hb : Bl _ w1 := q_bl hq
  clear hq
  have hb1 : Bl w w1 := slc
  clear hb
  go_wp2_with fail
  go_ret
  exact ⟨rfl, hb1⟩

set_option maxHeartbeats 1000000 in
theorem eqRat_any (w : World) {s s' : Bool} {A : Option Addr} {n c : Nat} {B : Option Addr} {m d : Nat} {A' : Option Addr} {n' c' : Nat} {B' : Option Addr} {m' d' : Nat} {r : RatD} (h : RdR w s A n c B m d r) (h' : RdR w s' A' n' c' B' m' d' r) :
    Calls Tryz.prog 20 #[.agg #[.bool s, .slice A n c, .slice B m d], .agg #[.bool s', .slice A' n' c', .slice B' m' d']] w fun e w' => e = .returned (.bool true) ∧ Bl w w' := by
  obtain rfl := h.neg.trans h'.neg.symm
  obtain rfl := h.mag.len.symm.trans h'.mag.len
  obtain rfl := h.den.len.symm.trans h'.den.len
  go_enter Tryz.func20, Tryz.ntmps20
  go_wp2_with fail
  refine (eqBigInt_any _ (h.mag.bl slc) (h'.mag.bl slc)).mono ?_
  rintro e w1 ⟨rfl, hb⟩
  have hb1 : Bl w w1 := slc
  obtain ⟨hc, hf⟩ := bcell hb
  clear hb
  go_wp2_with fail
  refine (eqIntS_any _ (h.den.bl slc) (h'.den.bl slc)).mono ?_
  rintro e w2 ⟨rfl, hq⟩
  have hb : Bl _ w2 := q_bl hq
  clear hq
  have hb2 : Bl w w2 := slc
  clear hb
  go_wp2_with fail
  go_ret
  exact ⟨rfl, hb2⟩

set_option maxHeartbeats 1000000 in
theorem eqPoint_any (w : World) {s s' : Bool} {A : Option Addr} {n c : Nat} {B : Option Addr} {m d : Nat} {A' : Option Addr} {n' c' : Nat} {B' : Option Addr} {m' d' : Nat} {t t' : Bool} {C : Option Addr} {i e : Nat} {D : Option Addr} {j f : Nat} {C' : Option Addr} {i' e' : Nat} {D' : Option Addr} {j' f' : Nat} {p : PtD} (h : RdR w s A n c B m d p.x) (k : RdR w t C i e D j f p.y) (h' : RdR w s' A' n' c' B' m' d' p.x) (k' : RdR w t' C' i' e' D' j' f' p.y) :
    Calls Tryz.prog 67 #[.agg #[.bool s, .slice A n c, .slice B m d, .bool t, .slice C i e, .slice D j f], .agg #[.bool s', .slice A' n' c', .slice B' m' d', .bool t', .slice C' i' e', .slice D' j' f']] w fun e w' => e = .returned (.bool true) ∧ Bl w w' := by
  go_enter Tryz.func67, Tryz.ntmps67
  go_wp2_with fail
  refine (eqRat_any _ (h.bl slc) (h'.bl slc)).mono ?_
  rintro e w1 ⟨rfl, hb⟩
  have hb1 : Bl w w1 := slc
  obtain ⟨hc, hf⟩ := bcell hb
  clear hb
  go_wp2_with fail
  refine (eqRat_any _ (k.bl slc) (k'.bl slc)).mono ?_
  rintro e w2 ⟨rfl, hb⟩
  have hb2 : Bl w w2 := slc
  clear hb
  go_wp2_with fail
  go_ret
  exact ⟨rfl, hb2⟩

set_option maxRecDepth 100000 in
set_option maxHeartbeats 1000000 in
theorem eqPointS_any (w : World) {A B : Option Addr} {n c d : Nat} {l : List PtD} (ha : RdPS w A n c l) (hb : RdPS w B n d l) :
    Calls Tryz.prog 15 #[.slice A n c, .slice B n d] w fun e w' => e = .returned (.bool true) ∧ Bl w w' := by
  have hna := ha.small
  go_enter Tryz.func15, Tryz.ntmps15
  go_wp2
  go_loopw [5] (fun i wr => ∃ k : Nat, k ≤ n ∧ i = .int .i64 (k : Int) ∧ Bl w wr) (fun i _ => n - (intOf i).toNat)
  case atStart => exact ⟨0, Nat.zero_le _, rfl, Bl.refl _⟩
  case round =>
    obtain ⟨k, hk, rfl, hbw⟩ := hrel
    by_cases hkn : k < n
    · obtain ⟨ad, rfl, hlta, hca⟩ := (ha.bl hbw).cells k hkn
      obtain ⟨bd, rfl, hltb, hcb⟩ := (hb.bl hbw).cells k hkn
      obtain ⟨s, A, n', c', B, m, d', t, C, i, e, D, j, f, ⟨g0, g1, g2, g3, g4, g5⟩, hx, hy⟩ := hca
      obtain ⟨s', A', n'', c'', B', m', d'', t', C', i', e', D', j', f', ⟨p0, p1, p2, p3, p4, p5⟩, hx', hy'⟩ := hcb
      have hki : (k : Int) < (n : Int) := by omega
      go_wp2
      go_still_tail 8, (by kernel_rfl)
      go_wp2_with fail
      refine (eqPoint_any _ hx.drew hy.drew hx'.drew hy'.drew).mono ?_
      rintro e w1 ⟨rfl, hb1⟩
      have hb2 : Bl w w1 := slc
      go_wp2_with fail
      go_roundw
      case rel => exact ⟨k + 1, by omega, by go_num, hb2⟩
      case measure => simp [intOf]; omega
    · go_wp2
      go_ret
      exact ⟨rfl, slc⟩



end

end Go.Proofs.YtggjdgjkdmgjnaaGreat
