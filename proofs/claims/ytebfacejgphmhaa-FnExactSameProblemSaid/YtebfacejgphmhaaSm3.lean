import Derived.Test.YtebfacejgphmhaaRows
import Derived.Test.YtebfacejgphmhaaSm2
namespace Go.Proofs.Ytebfacejgphmhaa
open Go.RowKit

theorem sameM_len {x y : MeD} (h : ¬ (x.points.length = y.points.length ∧ x.tris.length = y.tris.length)) : sameM x y = false := by
  unfold sameM
  by_cases e : x.points = y.points
  · rw [Bool.and_eq_false_iff]
    right
    exact same_no fun e' => h ⟨by rw [e], by rw [e']⟩
  · rw [same_no e]; rfl

set_option maxRecDepth 100000 in
set_option maxHeartbeats 2000000 in
theorem sSameMesh_any (w : World) {A B A' B' : Option Addr} {n m c d n' m' c' d' : Nat} {x y : MeD} (h : RdPS w A n c x.points) (k : RdTS w B m d x.tris) (h' : RdPS w A' n' c' y.points) (k' : RdTS w B' m' d' y.tris) :
    Calls Try.prog 54 #[.agg #[.slice A n c, .slice B m d], .agg #[.slice A' n' c', .slice B' m' d']] w fun e w' => e = .returned (.bool (sameM x y)) ∧ Bl w w' := by
  have hn := h.small
  have hm := k.small
  have hn' := h'.small
  have hm' := k'.small
  have hl := Lib.hid h.len
  have hl' := Lib.hid h'.len
  have ht := Lib.hid k.len
  have ht' := Lib.hid k'.len
  by_cases e0 : n = n'
  · by_cases e1 : m = m'
    · subst e0
      subst e1
      go_enter Try.func54, Try.ntmps54
      go_wp2_with fail
      go_loopw [28] (fun i wr => ∃ k : Nat, k ≤ n ∧ i = .int .i64 (k : Int) ∧ Agree x.points y.points k ∧ Bl ((w.alloc (.cells #[.slice A n c, .slice B m d] 31)).alloc (.cells #[.slice A' n c', .slice B' m d'] 31)) wr) (fun i _ => n - (intOf i).toNat)
      case atStart => exact ⟨0, Nat.zero_le _, rfl, Agree.zero _ _, Bl.refl _⟩
      case round =>
        obtain ⟨q, hq, rfl, hag, hbw0⟩ := hrel
        have hbw : Bl w wr := Bl.next (by repeat (first | with_reducible assumption | with_reducible exact Bl.refl _ | (with_reducible refine Bl.set ?_ (by simp <;> omega) _) | (with_reducible refine Bl.drewN ?_ _) | (with_reducible refine Bl.drew ?_) | (with_reducible refine Bl.alloc ?_ _) | (with_reducible refine Bl.next ?_ ‹_›))) hbw0
        obtain ⟨hc, hf⟩ := bcell hbw0
        have hz := hbw0.size
        simp only [World.size_alloc] at hz
        have hz0 : w.heap.size < wr.heap.size := by omega
        have hz1 : w.heap.size + 1 < wr.heap.size := by omega
        by_cases hkn : q < n
        · obtain ⟨ad, rfl, hlta, hca⟩ := (h.bl hbw).cells q hkn
          obtain ⟨bd, rfl, hltb, hcb⟩ := (h'.bl hbw).cells q hkn
          obtain ⟨s1, A1, n1, c1, B1, m1, d1, t1, C1, i1, e1, D1, j1, f1, ⟨g0, g1, g2, g3, g4, g5⟩, hx, hy⟩ := hca
          have hki : (q : Int) < (n : Int) := by omega
          by_cases heq : pix x.points q = pix y.points q
          · have heq' := Lib.hid heq
            have hans := eqP_iff.2 heq
            clear heq
            go_wp2_with fail
            refine wp_gen (fun W => Bl wr W ∧ Blk W wr.heap.size 75 #[.bool s1, .slice A1 n1 c1, .slice B1 m1 d1, .bool t1, .slice C1 i1 e1, .slice D1 j1 f1] ∧ W.heap.size = wr.heap.size + 1) ⟨(by repeat (first | with_reducible assumption | with_reducible exact Bl.refl _ | (with_reducible refine Bl.set ?_ (by simp <;> omega) _) | (with_reducible refine Bl.drewN ?_ _) | (with_reducible refine Bl.drew ?_) | (with_reducible refine Bl.alloc ?_ _) | (with_reducible refine Bl.next ?_ ‹_›))), Blk.new _ _ _, by simp⟩ ?_
            rintro W ⟨hbW, hBW, hzW⟩
            have hzW := Lib.hid hzW; rename_i hzo; clear hzo
            have hb2 : Bl w W := (by repeat (first | with_reducible assumption | with_reducible exact Bl.refl _ | (with_reducible refine Bl.set ?_ (by simp <;> omega) _) | (with_reducible refine Bl.drewN ?_ _) | (with_reducible refine Bl.drew ?_) | (with_reducible refine Bl.alloc ?_ _) | (with_reducible refine Bl.next ?_ ‹_›)))
            obtain ⟨hcW, hfW⟩ := bcell hbW
            have q0 := hBW.cell 0
            have q1 := hBW.cell 1
            have q2 := hBW.cell 2
            have q3 := hBW.cell 3
            have q4 := hBW.cell 4
            have q5 := hBW.cell 5
            have hcb1 := hcb.bl (by rw [block_add]; exact hltb) hbW
            obtain ⟨s2, A2, n2, c2, B2, m2, d2, t2, C2, i2, e2, D2, j2, f2, ⟨p0, p1, p2, p3, p4, p5⟩, hx', hy'⟩ := hcb1
            go_still_tail 6, (by kernel_rfl)
            go_wp2_with fail
            refine (sSamePoint_any _ (hx.bl hbW).drew (hy.bl hbW).drew hx'.drew hy'.drew).mono ?_
            rintro e w1 ⟨rfl, hb3⟩
            have hb4 : Bl w w1 := (by repeat (first | with_reducible assumption | with_reducible exact Bl.refl _ | (with_reducible refine Bl.set ?_ (by simp <;> omega) _) | (with_reducible refine Bl.drewN ?_ _) | (with_reducible refine Bl.drew ?_) | (with_reducible refine Bl.alloc ?_ _) | (with_reducible refine Bl.next ?_ ‹_›)))
            have hb5 := Bl.next (Bl.next hbw0 hbW).drew hb3
            clear hb3 hcW hfW q0 q1 q2 q3 q4 q5 p0 p1 p2 p3 p4 p5
            go_wp2_with fail
            go_roundw
            case rel => exact ⟨q + 1, by omega, by go_num, hag.step heq'.out, hb5⟩
            case measure => simp [intOf]; omega
          · have hs := Lib.hid (show sameM x y = false from sameM_points (same_no fun e => heq (by rw [e])))
            have hans := eqP_no heq
            clear heq
            go_wp2_with fail
            refine wp_gen (fun W => Bl wr W ∧ Blk W wr.heap.size 75 #[.bool s1, .slice A1 n1 c1, .slice B1 m1 d1, .bool t1, .slice C1 i1 e1, .slice D1 j1 f1] ∧ W.heap.size = wr.heap.size + 1) ⟨(by repeat (first | with_reducible assumption | with_reducible exact Bl.refl _ | (with_reducible refine Bl.set ?_ (by simp <;> omega) _) | (with_reducible refine Bl.drewN ?_ _) | (with_reducible refine Bl.drew ?_) | (with_reducible refine Bl.alloc ?_ _) | (with_reducible refine Bl.next ?_ ‹_›))), Blk.new _ _ _, by simp⟩ ?_
            rintro W ⟨hbW, hBW, hzW⟩
            have hzW := Lib.hid hzW; rename_i hzo; clear hzo
            have hb2 : Bl w W := (by repeat (first | with_reducible assumption | with_reducible exact Bl.refl _ | (with_reducible refine Bl.set ?_ (by simp <;> omega) _) | (with_reducible refine Bl.drewN ?_ _) | (with_reducible refine Bl.drew ?_) | (with_reducible refine Bl.alloc ?_ _) | (with_reducible refine Bl.next ?_ ‹_›)))
            obtain ⟨hcW, hfW⟩ := bcell hbW
            have q0 := hBW.cell 0
            have q1 := hBW.cell 1
            have q2 := hBW.cell 2
            have q3 := hBW.cell 3
            have q4 := hBW.cell 4
            have q5 := hBW.cell 5
            have hcb1 := hcb.bl (by rw [block_add]; exact hltb) hbW
            obtain ⟨s2, A2, n2, c2, B2, m2, d2, t2, C2, i2, e2, D2, j2, f2, ⟨p0, p1, p2, p3, p4, p5⟩, hx', hy'⟩ := hcb1
            go_still_tail 6, (by kernel_rfl)
            go_wp2_with fail
            refine (sSamePoint_any _ (hx.bl hbW).drew (hy.bl hbW).drew hx'.drew hy'.drew).mono ?_
            rintro e w1 ⟨rfl, hb3⟩
            have hb4 : Bl w w1 := (by repeat (first | with_reducible assumption | with_reducible exact Bl.refl _ | (with_reducible refine Bl.set ?_ (by simp <;> omega) _) | (with_reducible refine Bl.drewN ?_ _) | (with_reducible refine Bl.drew ?_) | (with_reducible refine Bl.alloc ?_ _) | (with_reducible refine Bl.next ?_ ‹_›)))
            have hb5 := Bl.next (Bl.next hbw0 hbW).drew hb3
            clear hb3 hcW hfW q0 q1 q2 q3 q4 q5 p0 p1 p2 p3 p4 p5
            go_wp2_with fail
            go_ret
            exact ⟨ret_bool hs.out.symm, hb4⟩
        · have hs1 := Lib.hid (show Same x.points y.points = true from same_yes (by
            obtain rfl : q = n := by omega
            exact hag.all hl.out hl'.out))
          clear hag
          go_wp2_with fail
          go_loopw [45] (fun i wr => ∃ k : Nat, k ≤ m ∧ i = .int .i64 (k : Int) ∧ Agree x.tris y.tris k ∧ Bl ((w.alloc (.cells #[.slice A n c, .slice B m d] 31)).alloc (.cells #[.slice A' n c', .slice B' m d'] 31)) wr) (fun i _ => m - (intOf i).toNat)
          case atStart => exact ⟨0, Nat.zero_le _, rfl, Agree.zero _ _, hbw0⟩
          case round =>
            clear hc hf hz hz0 hz1 hbw hbw0
            obtain ⟨z, hq, rfl, hag, hbw0⟩ := hrel
            have hbw : Bl w wr := Bl.next (by repeat (first | with_reducible assumption | with_reducible exact Bl.refl _ | (with_reducible refine Bl.set ?_ (by simp <;> omega) _) | (with_reducible refine Bl.drewN ?_ _) | (with_reducible refine Bl.drew ?_) | (with_reducible refine Bl.alloc ?_ _) | (with_reducible refine Bl.next ?_ ‹_›))) hbw0
            obtain ⟨hc, hf⟩ := bcell hbw0
            have hz := hbw0.size
            simp only [World.size_alloc] at hz
            have hz0 : w.heap.size < wr.heap.size := by omega
            have hz1 : w.heap.size + 1 < wr.heap.size := by omega
            by_cases hkz : z < m
            · obtain ⟨ad, rfl, hlta, hca⟩ := (k.bl hbw).cells z hkz
              obtain ⟨bd, rfl, hltb, hcb⟩ := (k'.bl hbw).cells z hkz
              obtain ⟨g0, g1, g2, g3, g4⟩ := hca
              have hki : (z : Int) < (m : Int) := by omega
              by_cases heq : pix x.tris z = pix y.tris z
              · have heq' := Lib.hid heq
                clear heq
                go_wp2_with fail
                refine wp_gen (fun W => Bl wr W ∧ Blk W wr.heap.size 73 #[.int .i64 (pix x.tris z).a, .int .i64 (pix x.tris z).b, .int .i64 (pix x.tris z).c, .int .i64 (pix x.tris z).region, .int .i64 (pix x.tris z).level] ∧ W.heap.size = wr.heap.size + 1) ⟨(by repeat (first | with_reducible assumption | with_reducible exact Bl.refl _ | (with_reducible refine Bl.set ?_ (by simp <;> omega) _) | (with_reducible refine Bl.drewN ?_ _) | (with_reducible refine Bl.drew ?_) | (with_reducible refine Bl.alloc ?_ _) | (with_reducible refine Bl.next ?_ ‹_›))), Blk.new _ _ _, by simp⟩ ?_
                rintro W ⟨hbW, hBW, hzW⟩
                clear hzW
                have hb2 : Bl w W := (by repeat (first | with_reducible assumption | with_reducible exact Bl.refl _ | (with_reducible refine Bl.set ?_ (by simp <;> omega) _) | (with_reducible refine Bl.drewN ?_ _) | (with_reducible refine Bl.drew ?_) | (with_reducible refine Bl.alloc ?_ _) | (with_reducible refine Bl.next ?_ ‹_›)))
                have hb5 := Bl.next hbw0 hbW
                obtain ⟨hcW, hfW⟩ := bcell hbW
                have q0 := hBW.cell 0
                have q1 := hBW.cell 1
                have q2 := hBW.cell 2
                have q3 := hBW.cell 3
                have q4 := hBW.cell 4
                have hcb1 := hcb.bl (by rw [block_add]; exact hltb) hbW
                obtain ⟨p0, p1, p2, p3, p4⟩ := hcb1
                rw [← heq'.out] at p0 p1 p2 p3 p4
                go_quiet (fail)
                go_wp2_with fail
                go_roundw
                case rel => exact ⟨z + 1, by omega, by go_num, hag.step heq'.out, hb5.drewN _⟩
                case measure => simp [intOf]; omega
              · have hs := Lib.hid (show sameM x y = false from (sameM_tris hs1.out).trans (same_no fun e => heq (by rw [e])))
                rcases tri_diff heq with f1 | ⟨f1, f2⟩ | ⟨f1, f2, f3⟩ | ⟨f1, f2, f3, f4⟩ | ⟨f1, f2, f3, f4, f5⟩
                all_goals
                  clear heq
                  go_wp2_with fail
                  refine wp_gen (fun W => Bl wr W ∧ Blk W wr.heap.size 73 #[.int .i64 (pix x.tris z).a, .int .i64 (pix x.tris z).b, .int .i64 (pix x.tris z).c, .int .i64 (pix x.tris z).region, .int .i64 (pix x.tris z).level] ∧ W.heap.size = wr.heap.size + 1) ⟨(by repeat (first | with_reducible assumption | with_reducible exact Bl.refl _ | (with_reducible refine Bl.set ?_ (by simp <;> omega) _) | (with_reducible refine Bl.drewN ?_ _) | (with_reducible refine Bl.drew ?_) | (with_reducible refine Bl.alloc ?_ _) | (with_reducible refine Bl.next ?_ ‹_›))), Blk.new _ _ _, by simp⟩ ?_
                  rintro W ⟨hbW, hBW, hzW⟩
                  clear hzW
                  have hb2 : Bl w W := (by repeat (first | with_reducible assumption | with_reducible exact Bl.refl _ | (with_reducible refine Bl.set ?_ (by simp <;> omega) _) | (with_reducible refine Bl.drewN ?_ _) | (with_reducible refine Bl.drew ?_) | (with_reducible refine Bl.alloc ?_ _) | (with_reducible refine Bl.next ?_ ‹_›)))
                  have hb5 := Bl.next hbw0 hbW
                  obtain ⟨hcW, hfW⟩ := bcell hbW
                  have q0 := hBW.cell 0
                  have q1 := hBW.cell 1
                  have q2 := hBW.cell 2
                  have q3 := hBW.cell 3
                  have q4 := hBW.cell 4
                  have hcb1 := hcb.bl (by rw [block_add]; exact hltb) hbW
                  obtain ⟨p0, p1, p2, p3, p4⟩ := hcb1
                  skip
                  go_quiet (fail)
                  go_wp2_with fail
                  go_ret
                  exact ⟨ret_bool hs.out.symm, hb2.drewN _⟩
            · have hs := Lib.hid (show sameM x y = true from (sameM_tris hs1.out).trans (same_yes (by
                obtain rfl : z = m := by omega
                exact hag.all ht.out ht'.out)))
              go_wp2_with fail
              go_ret
              exact ⟨ret_bool hs.out.symm, hbw⟩
    · have hs := Lib.hid (sameM_len (x := x) (y := y) (fun e => e1 (by rw [← ht.out, ← ht'.out, e.2])))
      subst e0
      have hne : ((m : Int) != (m' : Int)) = true := by simp; omega
      go_enter Try.func54, Try.ntmps54
      go_wp2_with fail
      go_ret
      exact ⟨ret_bool hs.out.symm, (by repeat (first | with_reducible assumption | with_reducible exact Bl.refl _ | (with_reducible refine Bl.set ?_ (by simp <;> omega) _) | (with_reducible refine Bl.drewN ?_ _) | (with_reducible refine Bl.drew ?_) | (with_reducible refine Bl.alloc ?_ _) | (with_reducible refine Bl.next ?_ ‹_›)))⟩
  · have hs := Lib.hid (sameM_len (x := x) (y := y) (fun e => e0 (by rw [← hl.out, ← hl'.out, e.1])))
    have hne : ((n : Int) != (n' : Int)) = true := by simp; omega
    go_enter Try.func54, Try.ntmps54
    go_wp2_with fail
    go_ret
    exact ⟨ret_bool hs.out.symm, (by repeat (first | with_reducible assumption | with_reducible exact Bl.refl _ | (with_reducible refine Bl.set ?_ (by simp <;> omega) _) | (with_reducible refine Bl.drewN ?_ _) | (with_reducible refine Bl.drew ?_) | (with_reducible refine Bl.alloc ?_ _) | (with_reducible refine Bl.next ?_ ‹_›)))⟩

end Go.Proofs.Ytebfacejgphmhaa
