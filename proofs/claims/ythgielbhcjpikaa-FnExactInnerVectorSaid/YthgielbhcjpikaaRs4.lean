import Derived.Test.YthgielbhcjpikaaRows
import Derived.Test.YthgielbhcjpikaaRs
import Derived.Test.YthgielbhcjpikaaEqL
import Derived.Test.YthgielbhcjpikaaSz
import Derived.Test.YthgielbhcjpikaaTo
namespace Go.Proofs.Ythgielbhcjpikaa
open Go.RowKit

set_option maxRecDepth 100000 in
set_option maxHeartbeats 1000000 in
theorem eqRatS_any (w : World) {A B : Option Addr} {n c d : Nat} {l : List RatD} (ha : RdRS w A n c l) (hb : RdRS w B n d l) :
    Calls Try.prog 27 #[.slice A n c, .slice B n d] w fun e w' => e = .returned (.bool true) ∧ Bl w w' := by
  have hna := ha.small
  go_enter Try.func27, Try.ntmps27
  go_wp2
  go_loopw [5] (fun i wr => ∃ k : Nat, k ≤ n ∧ i = .int .i64 (k : Int) ∧ Bl w wr) (fun i _ => n - (intOf i).toNat)
  case atStart => exact ⟨0, Nat.zero_le _, rfl, Bl.refl _⟩
  case round =>
    obtain ⟨k, hk, rfl, hbw⟩ := hrel
    by_cases hkn : k < n
    · obtain ⟨ad, rfl, hlta, hca⟩ := (ha.bl hbw).cells k hkn
      obtain ⟨bd, rfl, hltb, hcb⟩ := (hb.bl hbw).cells k hkn
      obtain ⟨s, A, n', c', B, m, d', ⟨g0, g1, g2⟩, hx⟩ := hca
      obtain ⟨s', A', n'', c'', B', m', d'', ⟨p0, p1, p2⟩, hx'⟩ := hcb
      have hki : (k : Int) < (n : Int) := by omega
      go_wp2
      go_still_tail 8, (by kernel_rfl)
      go_wp2_with fail
      refine (eqRat_any _ hx.drew hx'.drew).mono ?_
      rintro e w1 ⟨rfl, hb1⟩
      have hb2 : Bl w w1 := (by repeat (first | with_reducible assumption | with_reducible exact Bl.refl _ | (with_reducible refine Bl.set ?_ (by simp <;> omega) _) | (with_reducible refine Bl.drewN ?_ _) | (with_reducible refine Bl.drew ?_) | (with_reducible refine Bl.alloc ?_ _) | (with_reducible refine Bl.next ?_ ‹_›)))
      go_wp2_with fail
      go_roundw
      case rel => exact ⟨k + 1, by omega, by go_num, hb2⟩
      case measure => simp [intOf]; omega
    · go_wp2
      go_ret
      exact ⟨rfl, (by repeat (first | with_reducible assumption | with_reducible exact Bl.refl _ | (with_reducible refine Bl.set ?_ (by simp <;> omega) _) | (with_reducible refine Bl.drewN ?_ _) | (with_reducible refine Bl.drew ?_) | (with_reducible refine Bl.alloc ?_ _) | (with_reducible refine Bl.next ?_ ‹_›)))⟩

set_option maxHeartbeats 1000000 in
theorem szRatS_any (w : World) {A : Option Addr} {n c : Nat} {l : List RatD} (h : RdS 3 RtAt w A n c l) {left : Int} (h0 : 0 ≤ left) (h1 : left ≤ 1099511627776) :
    Calls Try.prog 22 #[.slice A n c, .int .i64 left] w fun e w' => e = .returned (.int .i64 (lft left (szL szR l))) ∧ Bl w w' := by
  have hn := h.small
  have hl := Lib.hid h.len
  by_cases hc : (n : Int) ≤ left
  · go_enter Try.func22, Try.ntmps22
    go_wp2
    go_loopw [1, 5] (fun v i wr => ∃ k : Nat, k ≤ n ∧ i = .int .i64 (k : Int) ∧ (((n + sumTo szR l k : Nat) : Int) ≤ left) ∧ v = .int .i64 (left - ((n + sumTo szR l k : Nat) : Int)) ∧ Bl w wr) (fun _ i _ => n - (intOf i).toNat)
    case atStart => exact ⟨0, Nat.zero_le _, rfl, by simp [sumTo]; omega, by simp [sumTo], Bl.refl _⟩
    case round =>
      obtain ⟨k, hk, rfl, hle, rfl, hbw⟩ := hrel
      have hin : 0 ≤ left - ((n + sumTo szR l k : Nat) : Int) := by omega
      have hin2 : left - ((n + sumTo szR l k : Nat) : Int) ≤ 1099511627776 := by omega
      generalize hGo : left - ((n + sumTo szR l k : Nat) : Int) = G at *
      have hG := Lib.hid hGo; clear hGo
      by_cases hkn : k < n
      · obtain ⟨ad, rfl, hlt, hat⟩ := (h.cells k hkn)
        obtain ⟨s, A, n', c', B, m, d, ⟨g0, g1, g2⟩, hx⟩ := hat.bl (by rw [block_add]; exact hlt) hbw
        have hms := sumTo_le szR l (show k + 1 ≤ n from hkn)
        by_cases hfit : ((szR (pix l k) : Nat) : Int) ≤ G
        · have he := lft_yes hfit
          go_wp2_with fail
          refine (szRat_any _ hx (by omega) (by omega)).mono ?_
          rintro e w1 ⟨rfl, hb⟩
          rw [he]; clear he
          have hb1 : Bl w w1 := (by repeat (first | with_reducible assumption | with_reducible exact Bl.refl _ | (with_reducible refine Bl.set ?_ (by simp <;> omega) _) | (with_reducible refine Bl.drewN ?_ _) | (with_reducible refine Bl.drew ?_) | (with_reducible refine Bl.alloc ?_ _) | (with_reducible refine Bl.next ?_ ‹_›)))
          go_wp2_with fail
          go_roundw
          case rel => exact ⟨k + 1, by omega, by go_num, by have := hG.out; simp only [sumTo]; omega, by rw [show left - ((n + sumTo szR l (k + 1) : Nat) : Int) = G - ((szR (pix l k) : Nat) : Int) from by have := hG.out; simp only [sumTo]; omega], hb1⟩
          case measure => simp [intOf]; omega
        · have he := lft_no hfit
          have hs := Lib.hid (show lft left (szL szR l) = -1 from lft_no (by have := hG.out; simp only [sumTo] at hms; unfold szL; rw [hl.out]; omega))
          go_wp2_with fail
          refine (szRat_any _ hx (by omega) (by omega)).mono ?_
          rintro e w1 ⟨rfl, hb⟩
          rw [he]; clear he
          have hb1 : Bl w w1 := (by repeat (first | with_reducible assumption | with_reducible exact Bl.refl _ | (with_reducible refine Bl.set ?_ (by simp <;> omega) _) | (with_reducible refine Bl.drewN ?_ _) | (with_reducible refine Bl.drew ?_) | (with_reducible refine Bl.alloc ?_ _) | (with_reducible refine Bl.next ?_ ‹_›)))
          go_wp2_with fail
          go_ret
          exact ⟨ret_int hs.out.symm, hb1⟩
      · have hs := Lib.hid (show lft left (szL szR l) = G by have := hG.out; rw [lft_yes (by unfold szL; rw [hl.out, show n = k from by omega]; rw [show n = k from by omega] at hle; exact hle), ← this]; unfold szL; rw [hl.out, show k = n from by omega])
        go_wp2_with fail
        go_ret
        exact ⟨ret_int hs.out.symm, hbw⟩
  · have hs := Lib.hid (show lft left (szL szR l) = -1 from lft_no (by unfold szL; rw [hl.out]; omega))
    go_enter Try.func22, Try.ntmps22
    go_wp2
    go_ret
    exact ⟨ret_int hs.out.symm, Bl.refl _⟩

theorem info_rat : (Try.prog.info? 48).map (fun i => (i.zero, i.size, i.bytes)) = some (some (.agg #[.bool false, .slice none 0 0, .slice none 0 0]), 3, 56) := by kernel_rfl
set_option maxHeartbeats 1000000 in
theorem toRatS_any (w : World) {A : Option Addr} {n c : Nat} {l : List RatD} (h : RdRS w A n c l) (hn : szL szR l ≤ 1048576) :
    Calls Try.prog 24 #[.slice A n c] w fun e w' => ∃ A', e = .returned (.slice A' n n) ∧ OwRS 3 48 w.heap.size w' A' n n l ∧ Bl w w' := by
  have hl := Lib.hid h.len
  have hn1 : n ≤ 1048576 := by have := hl.out; unfold szL at hn; omega
  have hmk := make_objs (P := Try.prog) Try.underlying50 info_rat (by omega) n n (Nat.le_refl _) (by omega)
  go_enter Try.func24, Try.ntmps24
  go_wp2_with fail
  clear hmk
  go_loopw [4] (fun i wr => ∃ k cs fs, k ≤ n ∧ i = .int .i64 (k : Int) ∧ Blk wr w.heap.size 48 cs ∧ cs.size = n * 3 ∧ RtsIn 3 wr cs l k fs ∧ Fp (w.heap.size + 1) wr.heap.size fs.flatten ∧ Bl w wr) (fun i _ => n - (intOf i).toNat)
  case atStart => exact ⟨0, _, [], Nat.zero_le _, rfl, Blk.mk w _ _ _ n, size_madeCells _ _, ⟨rfl, fun i hi => by omega⟩, Fp.nil _ _, (Bl.refl w).alloc _⟩
  case round =>
    obtain ⟨k, cs, fs, hk, rfl, hB, hcs, hP, hF, hbw⟩ := hrel
    by_cases hkn : k < n
    · obtain ⟨ad, rfl, hlt, hat⟩ := h.cells k hkn
      obtain ⟨s, A, n', c', B, m, d, ⟨g0, g1, g2⟩, hx⟩ := hat.bl (by rw [block_add]; exact hlt) hbw
      have hki : (k : Int) < (n : Int) := by omega
      go_wp2_with fail
      have hsz := szL_at szR l (k := k) (by rw [hl.out]; exact hkn)
      simp only [szR] at hsz
      have lx := Lib.hid hx.mag.len
      have ly := Lib.hid hx.den.len
      refine (toRat_any _ hx (by have := lx.out; omega) (by have := ly.out; omega)).mono ?_
      rintro e w1 ⟨q1, q2, rfl, ho0, ho1, hO1, hO2, hb⟩
      have hB1 := hB.bl hb
      have hb1 : Bl w w1 := (by repeat (first | with_reducible assumption | with_reducible exact Bl.refl _ | (with_reducible refine Bl.set ?_ (by simp <;> omega) _) | (with_reducible refine Bl.drewN ?_ _) | (with_reducible refine Bl.drew ?_) | (with_reducible refine Bl.alloc ?_ _) | (with_reducible refine Bl.next ?_ ‹_›)))
      have hfr := hB1.frozen
      obtain ⟨v0, x0⟩ := hB1.some (i := k * 3) (by omega)
      obtain ⟨v1, x1⟩ := hB1.some (i := k * 3 + 1) (by omega)
      obtain ⟨v2, x2⟩ := hB1.some (i := k * 3 + 2) (by omega)
      go_wp2_with fail
      have hbs : Bl w (((w1.setCell ⟨w.heap.size, k * 3, none⟩ (.bool s)).setCell ⟨w.heap.size, k * 3 + 1, none⟩ (.slice (some ⟨q1, 0, none⟩) n' n')).setCell ⟨w.heap.size, k * 3 + 2, none⟩ (.slice (some ⟨q2, 0, none⟩) m m)) := (by repeat (first | with_reducible assumption | with_reducible exact Bl.refl _ | (with_reducible refine Bl.set ?_ (by simp <;> omega) _) | (with_reducible refine Bl.drewN ?_ _) | (with_reducible refine Bl.drew ?_) | (with_reducible refine Bl.alloc ?_ _) | (with_reducible refine Bl.next ?_ ‹_›)))
      obtain ⟨cs', fs', r1, r2, r3, r4⟩ := (hP.bl hb fun b hm => (hF.2 b hm).2).step hB1 hcs hkn hF (by have := hB.lt; omega) ho0 ho1 hx.neg lx.out ly.out hx.mag.small hx.den.small hO1 hO2 rfl
      go_roundw
      case rel => exact ⟨k + 1, cs', fs', by omega, by go_num, r1, r2, r3, r4, hbs⟩
      case measure => simp [intOf]; omega
    · obtain rfl : k = n := by omega
      go_wp2_with fail
      go_ret
      exact ⟨_, rfl, ⟨_, cs, fs, rfl, Nat.le_refl _, hl.out, Nat.le_refl _, hn1, hB, hcs, hP, hF.mono (by omega) (Nat.le_refl _)⟩, hbw⟩

end Go.Proofs.Ythgielbhcjpikaa
