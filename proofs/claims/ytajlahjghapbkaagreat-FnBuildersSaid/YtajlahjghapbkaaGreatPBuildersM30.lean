/- Lemmas. -/
import Derived.Test.YtajlahjghapbkaaGreatRows
import Derived.Test.YtajlahjghapbkaaGreatPBuildersM17
import Derived.Test.YtajlahjghapbkaaGreatPBuildersM25
import Derived.ProofKit
import Derived.Deep.Slices
namespace Go.Proofs.YtajlahjghapbkaaGreat
section
open Go.RowKit

theorem tri_diff {x y : TriD} (h : ¬ x = y) : (x.a == y.a) = false ∨ ((x.a == y.a) = true ∧ (x.b == y.b) = false) ∨ ((x.a == y.a) = true ∧ (x.b == y.b) = true ∧ (x.c == y.c) = false) ∨
    ((x.a == y.a) = true ∧ (x.b == y.b) = true ∧ (x.c == y.c) = true ∧ (x.region == y.region) = false) ∨ ((x.a == y.a) = true ∧ (x.b == y.b) = true ∧ (x.c == y.c) = true ∧ (x.region == y.region) = true ∧ (x.level == y.level) = false) := by
  cases x; cases y
  simp only [TriD.mk.injEq, not_and] at h
  simp only [beq_iff_eq, beq_eq_false_iff_ne]
  grind

set_option maxHeartbeats 4000000 in
theorem EqualTri_any (w : World) {A B : Option Addr} {n m c d : Nat} {l l' : List TriD} (ha : RdTS w A n c l) (hb : RdTS w B m d l') :
    Calls Tryz.prog 110 #[.slice A n c, .slice B m d] w fun e w' => e = .returned (.bool (Same l l')) ∧ Bl w w' := by
  have hna := ha.small
  have hnb := hb.small
  by_cases hnm : n = m
  · subst hnm
    have hl := Lib.hid ha.len
    have hl' := Lib.hid hb.len
    go_enter Tryz.func110, Tryz.ntmps110
    go_wp2
    go_loopw [13] (fun i wr => ∃ k : Nat, k ≤ n ∧ i = .int .i64 (k : Int) ∧ Agree l l' k ∧ Bl w wr) (fun i _ => n - (intOf i).toNat)
    case atStart => exact ⟨0, Nat.zero_le _, rfl, Agree.zero _ _, Bl.refl _⟩
    case round =>
      obtain ⟨k, hk, rfl, hag, hbw⟩ := hrel
      by_cases hkn : k < n
      · obtain ⟨ad, rfl, hlta, hca⟩ := (ha.bl hbw).cells k hkn
        obtain ⟨bd, rfl, hltb, hcb⟩ := (hb.bl hbw).cells k hkn
        obtain ⟨g0, g1, g2, g3, g4⟩ := hca
        obtain ⟨p0, p1, p2, p3, p4⟩ := hcb
        have hki : (k : Int) < (n : Int) := by omega
        by_cases heq : pix l k = pix l' k
        · rw [← heq] at p0 p1 p2 p3 p4
          have heq' := Lib.hid heq
          clear heq
          go_wp2_with fail
          go_quiet (fail)
          go_wp2
          go_roundw
          case rel => exact ⟨k + 1, by omega, by go_num, hag.step heq'.out, slc⟩
          case measure => simp [intOf]; omega
        · have hs := Lib.hid (same_no (a := l) (b := l') (fun e => heq (by rw [e])))
          rcases tri_diff heq with f1 | ⟨f1, f2⟩ | ⟨f1, f2, f3⟩ | ⟨f1, f2, f3, f4⟩ | ⟨f1, f2, f3, f4, f5⟩
          all_goals
            clear heq
            go_wp2_with fail
            go_quiet (fail)
            go_wp2
            go_ret
            exact ⟨ret_bool hs.out.symm, slc⟩
      · have hs := Lib.hid (same_yes ((by obtain rfl : k = n := by omega
                                          exact hag.all hl.out hl'.out) : l = l'))
        go_wp2_with fail
        go_ret
        exact ⟨ret_bool hs.out.symm, hbw⟩
  · have hs := Lib.hid (same_no (a := l) (b := l') (fun e => hnm (by rw [← ha.len, ← hb.len, e])))
    have hne : ((n : Int) != (m : Int)) = true := by simp; omega
    go_enter Tryz.func110, Tryz.ntmps110
    go_wp2
    go_ret
    exact ⟨ret_bool hs.out.symm, Bl.refl _⟩

/-- The two meshes agree in all fields. -/
def sameM (a b : MeD) : Bool := Same a.points b.points && Same a.tris b.tris
theorem sameM_tris {a b : MeD} (h : Same a.points b.points = true) : sameM a b = Same a.tris b.tris := by unfold sameM; rw [h]; rfl
theorem sameM_points {a b : MeD} (h : Same a.points b.points = false) : sameM a b = false := by unfold sameM; rw [h]; rfl

set_option maxHeartbeats 4000000 in
theorem SameMesh_any (w : World) {A B A' B' : Option Addr} {n m c d n' m' c' d' : Nat} {x y : MeD} (h : RdPS w A n c x.points) (k : RdTS w B m d x.tris) (h' : RdPS w A' n' c' y.points) (k' : RdTS w B' m' d' y.tris) :
    Calls Tryz.prog 40 #[.agg #[.slice A n c, .slice B m d], .agg #[.slice A' n' c', .slice B' m' d']] w fun e w' => e = .returned (.bool (sameM x y)) ∧ Bl w w' := by
  by_cases e0 : Same x.points y.points = true
  · have hs := Lib.hid (sameM_tris e0)
    go_enter Tryz.func40, Tryz.ntmps40
    go_wp2_with fail
    refine (EqualFunc_any _ (h.bl slc) (h'.bl slc)).mono ?_
    rintro e w1 ⟨rfl, hb⟩
    obtain ⟨hc, hf⟩ := bcell hb
    have hb1 : Bl w w1 := slc
    go_wp2_with fail
    refine (EqualTri_any _ (k.bl hb1) (k'.bl hb1)).mono ?_
    rintro e w2 ⟨rfl, hb2⟩
    go_wp2_with fail
    go_ret
    exact ⟨ret_bool hs.out.symm, slc⟩
  · have e0 : Same x.points y.points = false := by simpa using e0
    have hs := Lib.hid (sameM_points e0)
    go_enter Tryz.func40, Tryz.ntmps40
    go_wp2_with fail
    refine (EqualFunc_any _ (h.bl slc) (h'.bl slc)).mono ?_
    rintro e w1 ⟨rfl, hb⟩
    have hb1 : Bl w w1 := slc
    go_wp2_with fail
    go_ret
    exact ⟨ret_bool hs.out.symm, slc⟩
end

section
open Go.RowKit Go.ChangeShapes
open Go.Deep (open_slice open_slice1 choose_lt)
theorem cells_u8 : Tryz.prog.cellsOf 5 = 1 := by kernel_rfl
theorem open_by {H : Type} {enc : TypeId × Value → H} {w : World} {fuel : Nat} {cs : List Value} {x : DataW H × List MemPlace} {spare : Nat → Bool} {base : Nat} {held : Bool} (h : DataW.trod enc Tryz.prog w base spare held fuel 22 cs = some x) : ∃ A n c l, cs = [.slice A n c] ∧ RdB w A n c l := by
  rcases open_slice1 Tryz.underlying22 cells_u8 h with ⟨rfl, _⟩ | ⟨a, len, cap, m, k, V, D, Pl, rfl, hb, hl, hm, hmm, _, hx⟩
  · exact ⟨none, 0, 0, [], rfl, RdS.nil w _ _⟩
  · have hm' : cap ≤ 9223372036854775807 := by simpa [maxLen] using hm
    have hlm : len ≤ m := by rw [hmm]; split <;> omega
    refine ⟨some a, len, cap, (List.range len).map fun i => intOf (V i), rfl, by simp, hl, by omega, fun i hi => ?_⟩
    obtain ⟨hc, ht⟩ := hx i (by omega)
    obtain ⟨z, e, _, hwf⟩ := DataW.trod_int Tryz.underlying5 ht
    injection e with e
    have hlt : a.block < w.heap.size := by
      have := World.block_lt_of_cell? w _ hc
      rwa [block_add] at this
    have hz : 0 ≤ z ∧ z ≤ 255 := by
      have h1 : IntKind.u8.min = 0 := by decide
      have h2 : IntKind.u8.max = 255 := by decide
      simp only [Lit.wf, h1, h2, Bool.and_eq_true, decide_eq_true_eq] at hwf
      exact hwf
    refine ⟨a, rfl, hlt, ?_⟩
    have hpx : pix ((List.range len).map fun i => intOf (V i)) i = z := by simp [pix, hi, e, intOf]
    rw [hpx, Nat.mul_one]
    exact ⟨by rw [hc, e], hz⟩
end

end Go.Proofs.YtajlahjghapbkaaGreat
