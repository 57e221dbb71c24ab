import Derived.Test.YtebfacejgphmhaaRows
import Derived.Test.YtebfacejgphmhaaRs
namespace Go.Proofs.Ytebfacejgphmhaa
open Go.RowKit

theorem eqR_no {a b : RatD} (h : ¬ a = b) : eqR a b = false := by
  rw [← Bool.not_eq_true, eqR_iff]; exact h

set_option maxHeartbeats 1000000 in
theorem EqualRat_any (w : World) {A B : Option Addr} {n m c d : Nat} {l l' : List RatD} (ha : RdRS w A n c l) (hb : RdRS w B m d l') :
    Calls Try.prog 95 #[.slice A n c, .slice B m d, .func (.func 96) #[] #[]] w fun e w' => e = .returned (.bool (Same l l')) ∧ Bl w w' := by
  have hna := ha.small
  have hnb := hb.small
  by_cases hnm : n = m
  · subst hnm
    have hl := Lib.hid ha.len
    have hl' := Lib.hid hb.len
    go_enter Try.func95, Try.ntmps95
    go_wp2
    go_loopw [17] (fun i wr => ∃ k : Nat, k ≤ n ∧ i = .int .i64 (k : Int) ∧ Agree l l' k ∧ Bl w wr) (fun i _ => n - (intOf i).toNat)
    case atStart => exact ⟨0, Nat.zero_le _, rfl, Agree.zero _ _, Bl.refl _⟩
    case round =>
      obtain ⟨k, hk, rfl, hag, hbw⟩ := hrel
      by_cases hkn : k < n
      · obtain ⟨ad, rfl, hlta, hca⟩ := (ha.bl hbw).cells k hkn
        obtain ⟨bd, rfl, hltb, hcb⟩ := (hb.bl hbw).cells k hkn
        obtain ⟨s, A, n', c', B, m, d', ⟨g0, g1, g2⟩, hx⟩ := hca
        have hcb1 := hcb.bl (by rw [block_add]; exact hltb) ((by repeat (first | with_reducible assumption | with_reducible exact Bl.refl _ | (with_reducible refine Bl.set ?_ (by simp <;> omega) _) | (with_reducible refine Bl.drewN ?_ _) | (with_reducible refine Bl.drew ?_) | (with_reducible refine Bl.alloc ?_ _) | (with_reducible refine Bl.next ?_ ‹_›))) : Bl wr (wr.alloc (.cells #[.bool s, .slice A n' c', .slice B m d'] 57)))
        obtain ⟨s', A', n'', c'', B', m', d'', ⟨p0, p1, p2⟩, hx'⟩ := hcb1
        have hki : (k : Int) < (n : Int) := by omega
        by_cases heq : pix l k = pix l' k
        · have heq' := Lib.hid heq
          have hans := eqR_iff.2 heq
          clear heq
          go_wp2_with fail
          refine (RatEqual_any _ ((hx.alloc _).alloc _) (hx'.alloc _)).mono ?_
          rintro e w1 ⟨rfl, hb1⟩
          have hb2 : Bl w w1 := (by repeat (first | with_reducible assumption | with_reducible exact Bl.refl _ | (with_reducible refine Bl.set ?_ (by simp <;> omega) _) | (with_reducible refine Bl.drewN ?_ _) | (with_reducible refine Bl.drew ?_) | (with_reducible refine Bl.alloc ?_ _) | (with_reducible refine Bl.next ?_ ‹_›)))
          clear hb1
          go_wp2_with fail
          go_roundw
          case rel => exact ⟨k + 1, by omega, by go_num, hag.step heq'.out, hb2⟩
          case measure => simp [intOf]; omega
        · have hs := Lib.hid (same_no (a := l) (b := l') (fun e => heq (by rw [e])))
          have hans := eqR_no heq
          clear heq
          go_wp2_with fail
          refine (RatEqual_any _ ((hx.alloc _).alloc _) (hx'.alloc _)).mono ?_
          rintro e w1 ⟨rfl, hb1⟩
          have hb2 : Bl w w1 := (by repeat (first | with_reducible assumption | with_reducible exact Bl.refl _ | (with_reducible refine Bl.set ?_ (by simp <;> omega) _) | (with_reducible refine Bl.drewN ?_ _) | (with_reducible refine Bl.drew ?_) | (with_reducible refine Bl.alloc ?_ _) | (with_reducible refine Bl.next ?_ ‹_›)))
          clear hb1
          go_wp2_with fail
          go_ret
          exact ⟨ret_bool hs.out.symm, hb2⟩
      · have hs := Lib.hid (same_yes ((by obtain rfl : k = n := by omega
                                          exact hag.all hl.out hl'.out) : l = l'))
        go_wp2_with fail
        go_ret
        exact ⟨ret_bool hs.out.symm, hbw⟩
  · have hs := Lib.hid (same_no (a := l) (b := l') (fun e => hnm (by rw [← ha.len, ← hb.len, e])))
    have hne : ((n : Int) != (m : Int)) = true := by simp; omega
    go_enter Try.func95, Try.ntmps95
    go_wp2
    go_ret
    exact ⟨ret_bool hs.out.symm, Bl.refl _⟩

set_option maxHeartbeats 400000 in
theorem sameVector_any (w : World) {A B : Option Addr} {n m c d : Nat} {l l' : List RatD} (ha : RdRS w A n c l) (hb : RdRS w B m d l') :
    Calls Try.prog 57 #[.slice A n c, .slice B m d] w fun e w' => e = .returned (.bool (Same l l')) ∧ Bl w w' := by
  go_enter Try.func57, Try.ntmps57
  go_wp2_with fail
  refine (EqualRat_any _ ha hb).mono ?_
  rintro e w1 ⟨rfl, hb1⟩
  go_wp2_with fail
  go_ret
  exact ⟨rfl, hb1⟩

set_option maxRecDepth 100000 in
set_option maxHeartbeats 1000000 in
theorem l13Same_any (w : World) {A B : Option Addr} {n m c d : Nat} {l l' : List RatD} (ha : RdRS w A n c l) (hb : RdRS w B m d l') :
    Calls Try.prog 55 #[.slice A n c, .slice B m d] w fun e w' => e = .returned (.bool (Same l l')) ∧ Bl w w' := by
  have hna := ha.small
  have hnb := hb.small
  by_cases hnm : n = m
  · subst hnm
    have hl := Lib.hid ha.len
    have hl' := Lib.hid hb.len
    go_enter Try.func55, Try.ntmps55
    go_wp2
    go_loopw [14] (fun i wr => ∃ k : Nat, k ≤ n ∧ i = .int .i64 (k : Int) ∧ Agree l l' k ∧ Bl w wr) (fun i _ => n - (intOf i).toNat)
    case atStart => exact ⟨0, Nat.zero_le _, rfl, Agree.zero _ _, Bl.refl _⟩
    case round =>
      obtain ⟨k, hk, rfl, hag, hbw⟩ := hrel
      by_cases hkn : k < n
      · obtain ⟨ad, rfl, hlta, hca⟩ := (ha.bl hbw).cells k hkn
        obtain ⟨bd, rfl, hltb, hcb⟩ := (hb.bl hbw).cells k hkn
        obtain ⟨s1, A1, n1, c1, B1, m1, d1, ⟨g0, g1, g2⟩, hx⟩ := hca
        have hki : (k : Int) < (n : Int) := by omega
        by_cases heq : pix l k = pix l' k
        · have heq' := Lib.hid heq
          have hans := eqR_iff.2 heq
          clear heq
          go_wp2_with fail
          refine wp_gen (fun W => Bl wr W ∧ Blk W wr.heap.size 57 #[.bool s1, .slice A1 n1 c1, .slice B1 m1 d1] ∧ W.heap.size = wr.heap.size + 1) ⟨(by repeat (first | with_reducible assumption | with_reducible exact Bl.refl _ | (with_reducible refine Bl.set ?_ (by simp <;> omega) _) | (with_reducible refine Bl.drewN ?_ _) | (with_reducible refine Bl.drew ?_) | (with_reducible refine Bl.alloc ?_ _) | (with_reducible refine Bl.next ?_ ‹_›))), Blk.new _ _ _, by simp⟩ ?_
          rintro W ⟨hbW, hBW, hzW⟩
          have hzW := Lib.hid hzW; rename_i hzo; clear hzo
          obtain ⟨hcW, hfW⟩ := bcell hbW
          have q0 := hBW.cell 0
          have q1 := hBW.cell 1
          have q2 := hBW.cell 2
          have hcb1 := hcb.bl (by rw [block_add]; exact hltb) hbW
          obtain ⟨s2, A2, n2, c2, B2, m2, d2, ⟨p0, p1, p2⟩, hx'⟩ := hcb1
          go_still_tail 5, (by kernel_rfl)
          go_wp2_with fail
          refine (sRatEqual_any _ (hx.bl hbW).drew hx'.drew).mono ?_
          rintro e w1 ⟨rfl, hb3⟩
          have hb5 := Bl.next (Bl.next hbw hbW).drew hb3
          clear hb3 hcW hfW q0 q1 q2 p0 p1 p2
          go_wp2_with fail
          go_roundw
          case rel => exact ⟨k + 1, by omega, by go_num, hag.step heq'.out, hb5⟩
          case measure => simp [intOf]; omega
        · have hs := Lib.hid (same_no (a := l) (b := l') (fun e => heq (by rw [e])))
          have hans := eqR_no heq
          clear heq
          go_wp2_with fail
          refine wp_gen (fun W => Bl wr W ∧ Blk W wr.heap.size 57 #[.bool s1, .slice A1 n1 c1, .slice B1 m1 d1] ∧ W.heap.size = wr.heap.size + 1) ⟨(by repeat (first | with_reducible assumption | with_reducible exact Bl.refl _ | (with_reducible refine Bl.set ?_ (by simp <;> omega) _) | (with_reducible refine Bl.drewN ?_ _) | (with_reducible refine Bl.drew ?_) | (with_reducible refine Bl.alloc ?_ _) | (with_reducible refine Bl.next ?_ ‹_›))), Blk.new _ _ _, by simp⟩ ?_
          rintro W ⟨hbW, hBW, hzW⟩
          have hzW := Lib.hid hzW; rename_i hzo; clear hzo
          obtain ⟨hcW, hfW⟩ := bcell hbW
          have q0 := hBW.cell 0
          have q1 := hBW.cell 1
          have q2 := hBW.cell 2
          have hcb1 := hcb.bl (by rw [block_add]; exact hltb) hbW
          obtain ⟨s2, A2, n2, c2, B2, m2, d2, ⟨p0, p1, p2⟩, hx'⟩ := hcb1
          go_still_tail 5, (by kernel_rfl)
          go_wp2_with fail
          refine (sRatEqual_any _ (hx.bl hbW).drew hx'.drew).mono ?_
          rintro e w1 ⟨rfl, hb3⟩
          have hb5 := Bl.next (Bl.next hbw hbW).drew hb3
          clear hb3 hcW hfW q0 q1 q2 p0 p1 p2
          go_wp2_with fail
          go_ret
          exact ⟨ret_bool hs.out.symm, hb5⟩
      · have hs := Lib.hid (same_yes ((by obtain rfl : k = n := by omega
                                          exact hag.all hl.out hl'.out) : l = l'))
        go_wp2_with fail
        go_ret
        exact ⟨ret_bool hs.out.symm, hbw⟩
  · have hs := Lib.hid (same_no (a := l) (b := l') (fun e => hnm (by rw [← ha.len, ← hb.len, e])))
    have hne : ((n : Int) != (m : Int)) = true := by simp; omega
    go_enter Try.func55, Try.ntmps55
    go_wp2
    go_ret
    exact ⟨ret_bool hs.out.symm, Bl.refl _⟩

end Go.Proofs.Ytebfacejgphmhaa
