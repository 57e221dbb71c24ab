import Derived.Test.YthgielbhcjpikaaGreatRows
import Derived.Test.YthgielbhcjpikaaGreatBase
namespace Go.Proofs.YthgielbhcjpikaaGreat
open Go.RowKit

/-- What is left of a budget: -1 once it is spent. -/
def lft (left : Int) (t : Nat) : Int := if (t : Int) ≤ left then left - t else -1
theorem lft_yes {left : Int} {t : Nat} (h : (t : Int) ≤ left) : lft left t = left - t := if_pos h
theorem lft_no {left : Int} {t : Nat} (h : ¬ (t : Int) ≤ left) : lft left t = -1 := if_neg h
theorem lft_add {left : Int} {t u : Nat} (_h : (t : Int) ≤ left) : lft left (t + u) = lft (left - t) u := by
  unfold lft; split <;> split <;> omega
theorem lft_add_no {left : Int} {t u : Nat} (h : ¬ (t : Int) ≤ left) : lft left (t + u) = -1 := by
  unfold lft; rw [if_neg]; omega

set_option maxHeartbeats 400000 in
theorem szIntS_any (w : World) {A : Option Addr} {n c : Nat} {l : List Int} (h : RdI w A n c l) {left : Int} (h0 : 0 ≤ left) (h1 : left ≤ 1099511627776) :
    Calls Tryz.prog 149 #[.slice A n c, .int .i64 left] w fun e w' => e = .returned (.int .i64 (lft left l.length)) ∧ Bl w w' := by
  have hn := h.small
  have hl := Lib.hid h.len
  by_cases hc : (n : Int) ≤ left
  · have hs := Lib.hid (lft_yes hc)
    go_enter Tryz.func149, Tryz.ntmps149
    go_wp2
    go_ret
    exact ⟨ret_int (by rw [hl.out]; exact hs.out.symm), Bl.refl _⟩
  · have hs := Lib.hid (lft_no hc)
    go_enter Tryz.func149, Tryz.ntmps149
    go_wp2
    go_ret
    exact ⟨ret_int (by rw [hl.out]; exact hs.out.symm), Bl.refl _⟩


set_option maxHeartbeats 1000000 in
theorem szBigInt_any (w : World) {s : Bool} {A : Option Addr} {n c : Nat} {l : List Int} (h : RdI w A n c l) {left : Int} (h0 : 0 ≤ left) (h1 : left ≤ 1099511627776) :
    Calls Tryz.prog 148 #[.agg #[.bool s, .slice A n c], .int .i64 left] w fun e w' => e = .returned (.int .i64 (lft left (l.length))) ∧ Bl w w' := by
  by_cases c0 : ((l.length : Nat) : Int) ≤ left
  · have e0 : lft (left) (l.length) = left - ((l.length : Nat) : Int) := lft_yes c0
    have hs : Hid (lft left (l.length) = left - ((l.length : Nat) : Int)) := by show _ = _; skip; unfold lft; split <;> omega
    go_enter Tryz.func148, Tryz.ntmps148
    go_wp2_with fail
    refine (szIntS_any _ (h.alloc _) (by omega) (by omega)).mono ?_
    rintro e w1 ⟨rfl, hb⟩
    rw [e0]
    have hb1 : Bl w w1 := slc
    obtain ⟨hc, hf⟩ := bcell hb
    have hz1 := hb.size
    simp only [World.size_alloc] at hz1
    clear hb
    go_wp2_with fail
    go_ret
    exact ⟨ret_int hs.out.symm, hb1⟩
  · have e0 : lft (left) (l.length) = -1 := lft_no c0
    have hs : Hid (lft left (l.length) = -1) := by show _ = _; skip; unfold lft; split <;> omega
    go_enter Tryz.func148, Tryz.ntmps148
    go_wp2_with fail
    refine (szIntS_any _ (h.alloc _) (by omega) (by omega)).mono ?_
    rintro e w1 ⟨rfl, hb⟩
    rw [e0]
    have hb1 : Bl w w1 := slc
    obtain ⟨hc, hf⟩ := bcell hb
    have hz1 := hb.size
    simp only [World.size_alloc] at hz1
    clear hb
    go_wp2_with fail
    go_ret
    exact ⟨ret_int hs.out.symm, hb1⟩

set_option maxHeartbeats 1000000 in
theorem szRat_any (w : World) {s : Bool} {A : Option Addr} {n c : Nat} {B : Option Addr} {m d : Nat} {r : RatD} (h : RdR w s A n c B m d r) {left : Int} (h0 : 0 ≤ left) (h1 : left ≤ 1099511627776) :
    Calls Tryz.prog 101 #[.agg #[.bool s, .slice A n c, .slice B m d], .int .i64 left] w fun e w' => e = .returned (.int .i64 (lft left (szR r))) ∧ Bl w w' := by
  by_cases c0 : ((r.mag.length : Nat) : Int) ≤ left
  · have e0 : lft (left) (r.mag.length) = left - ((r.mag.length : Nat) : Int) := lft_yes c0
    by_cases c1 : ((r.den.length : Nat) : Int) ≤ left - ((r.mag.length : Nat) : Int)
    · have e1 : lft (left - ((r.mag.length : Nat) : Int)) (r.den.length) = left - ((r.mag.length : Nat) : Int) - ((r.den.length : Nat) : Int) := lft_yes c1
      have hs : Hid (lft left (szR r) = left - ((r.mag.length : Nat) : Int) - ((r.den.length : Nat) : Int)) := by show _ = _; unfold szR; unfold lft; split <;> omega
      go_enter Tryz.func101, Tryz.ntmps101
      go_wp2_with fail
      refine (szBigInt_any _ (h.mag.alloc _) (by omega) (by omega)).mono ?_
      rintro e w1 ⟨rfl, hb⟩
      rw [e0]
      have hb1 : Bl w w1 := slc
      obtain ⟨hc, hf⟩ := bcell hb
      have hz1 := hb.size
      simp only [World.size_alloc] at hz1
      clear hb
      go_wp2_with fail
      refine (szIntS_any _ (h.den.bl hb1) (by omega) (by omega)).mono ?_
      rintro e w2 ⟨rfl, hb⟩
      rw [e1]
      have hb2 : Bl w w2 := slc
      obtain ⟨hc, hf⟩ := bcell hb
      have hz2 := hb.size
      clear hb
      go_wp2_with fail
      go_ret
      exact ⟨ret_int hs.out.symm, hb2⟩
    · have e1 : lft (left - ((r.mag.length : Nat) : Int)) (r.den.length) = -1 := lft_no c1
      have hs : Hid (lft left (szR r) = -1) := by show _ = _; unfold szR; unfold lft; split <;> omega
      go_enter Tryz.func101, Tryz.ntmps101
      go_wp2_with fail
      refine (szBigInt_any _ (h.mag.alloc _) (by omega) (by omega)).mono ?_
      rintro e w1 ⟨rfl, hb⟩
      rw [e0]
      have hb1 : Bl w w1 := slc
      obtain ⟨hc, hf⟩ := bcell hb
      have hz1 := hb.size
      simp only [World.size_alloc] at hz1
      clear hb
      go_wp2_with fail
      refine (szIntS_any _ (h.den.bl hb1) (by omega) (by omega)).mono ?_
      rintro e w2 ⟨rfl, hb⟩
      rw [e1]
      have hb2 : Bl w w2 := slc
      obtain ⟨hc, hf⟩ := bcell hb
      have hz2 := hb.size
      clear hb
      go_wp2_with fail
      go_ret
      exact ⟨ret_int hs.out.symm, hb2⟩
  · have e0 : lft (left) (r.mag.length) = -1 := lft_no c0
    have hs : Hid (lft left (szR r) = -1) := by show _ = _; unfold szR; unfold lft; split <;> omega
    go_enter Tryz.func101, Tryz.ntmps101
    go_wp2_with fail
    refine (szBigInt_any _ (h.mag.alloc _) (by omega) (by omega)).mono ?_
    rintro e w1 ⟨rfl, hb⟩
    rw [e0]
    have hb1 : Bl w w1 := slc
    obtain ⟨hc, hf⟩ := bcell hb
    have hz1 := hb.size
    simp only [World.size_alloc] at hz1
    clear hb
    go_wp2_with fail
    go_ret
    exact ⟨ret_int hs.out.symm, hb1⟩

set_option maxHeartbeats 1000000 in
theorem szPoint_any (w : World) {s : Bool} {A : Option Addr} {n c : Nat} {B : Option Addr} {m d : Nat} {t : Bool} {C : Option Addr} {i e : Nat} {D : Option Addr} {j f : Nat} {p : PtD} (h : RdR w s A n c B m d p.x) (k : RdR w t C i e D j f p.y) {left : Int} (h0 : 0 ≤ left) (h1 : left ≤ 1099511627776) :
    Calls Tryz.prog 45 #[.agg #[.bool s, .slice A n c, .slice B m d, .bool t, .slice C i e, .slice D j f], .int .i64 left] w fun e w' => e = .returned (.int .i64 (lft left (szP p))) ∧ Bl w w' := by
  by_cases c0 : ((szR p.x : Nat) : Int) ≤ left
  · have e0 : lft (left) (szR p.x) = left - ((szR p.x : Nat) : Int) := lft_yes c0
    by_cases c1 : ((szR p.y : Nat) : Int) ≤ left - ((szR p.x : Nat) : Int)
    · have e1 : lft (left - ((szR p.x : Nat) : Int)) (szR p.y) = left - ((szR p.x : Nat) : Int) - ((szR p.y : Nat) : Int) := lft_yes c1
      have hs : Hid (lft left (szP p) = left - ((szR p.x : Nat) : Int) - ((szR p.y : Nat) : Int)) := by show _ = _; unfold szP; unfold lft; split <;> omega
      go_enter Tryz.func45, Tryz.ntmps45
      go_wp2_with fail
      refine (szRat_any _ (h.alloc _) (by omega) (by omega)).mono ?_
      rintro e w1 ⟨rfl, hb⟩
      rw [e0]
      have hb1 : Bl w w1 := slc
      obtain ⟨hc, hf⟩ := bcell hb
      have hz1 := hb.size
      simp only [World.size_alloc] at hz1
      clear hb
      go_wp2_with fail
      refine (szRat_any _ (k.bl hb1) (by omega) (by omega)).mono ?_
      rintro e w2 ⟨rfl, hb⟩
      rw [e1]
      have hb2 : Bl w w2 := slc
      obtain ⟨hc, hf⟩ := bcell hb
      have hz2 := hb.size
      clear hb
      go_wp2_with fail
      go_ret
      exact ⟨ret_int hs.out.symm, hb2⟩
    · have e1 : lft (left - ((szR p.x : Nat) : Int)) (szR p.y) = -1 := lft_no c1
      have hs : Hid (lft left (szP p) = -1) := by show _ = _; unfold szP; unfold lft; split <;> omega
      go_enter Tryz.func45, Tryz.ntmps45
      go_wp2_with fail
      refine (szRat_any _ (h.alloc _) (by omega) (by omega)).mono ?_
      rintro e w1 ⟨rfl, hb⟩
      rw [e0]
      have hb1 : Bl w w1 := slc
      obtain ⟨hc, hf⟩ := bcell hb
      have hz1 := hb.size
      simp only [World.size_alloc] at hz1
      clear hb
      go_wp2_with fail
      refine (szRat_any _ (k.bl hb1) (by omega) (by omega)).mono ?_
      rintro e w2 ⟨rfl, hb⟩
      rw [e1]
      have hb2 : Bl w w2 := slc
      obtain ⟨hc, hf⟩ := bcell hb
      have hz2 := hb.size
      clear hb
      go_wp2_with fail
      go_ret
      exact ⟨ret_int hs.out.symm, hb2⟩
  · have e0 : lft (left) (szR p.x) = -1 := lft_no c0
    have hs : Hid (lft left (szP p) = -1) := by show _ = _; unfold szP; unfold lft; split <;> omega
    go_enter Tryz.func45, Tryz.ntmps45
    go_wp2_with fail
    refine (szRat_any _ (h.alloc _) (by omega) (by omega)).mono ?_
    rintro e w1 ⟨rfl, hb⟩
    rw [e0]
    have hb1 : Bl w w1 := slc
    obtain ⟨hc, hf⟩ := bcell hb
    have hz1 := hb.size
    simp only [World.size_alloc] at hz1
    clear hb
    go_wp2_with fail
    go_ret
    exact ⟨ret_int hs.out.symm, hb1⟩

set_option maxHeartbeats 1000000 in
theorem szPointS_any (w : World) {A : Option Addr} {n c : Nat} {l : List PtD} (h : RdS 6 PtAt w A n c l) {left : Int} (h0 : 0 ≤ left) (h1 : left ≤ 1099511627776) :
    Calls Tryz.prog 10 #[.slice A n c, .int .i64 left] w fun e w' => e = .returned (.int .i64 (lft left (szL szP l))) ∧ Bl w w' := by
  have hn := h.small
  have hl := Lib.hid h.len
  by_cases hc : (n : Int) ≤ left
  · go_enter Tryz.func10, Tryz.ntmps10
    go_wp2
    go_loopw [1, 5] (fun v i wr => ∃ k : Nat, k ≤ n ∧ i = .int .i64 (k : Int) ∧ (((n + sumTo szP l k : Nat) : Int) ≤ left) ∧ v = .int .i64 (left - ((n + sumTo szP l k : Nat) : Int)) ∧ Bl w wr) (fun _ i _ => n - (intOf i).toNat)
    case atStart => exact ⟨0, Nat.zero_le _, rfl, by simp [sumTo]; omega, by simp [sumTo], Bl.refl _⟩
    case round =>
      obtain ⟨k, hk, rfl, hle, rfl, hbw⟩ := hrel
      have hin : 0 ≤ left - ((n + sumTo szP l k : Nat) : Int) := by omega
      have hin2 : left - ((n + sumTo szP l k : Nat) : Int) ≤ 1099511627776 := by omega
      generalize hGo : left - ((n + sumTo szP l k : Nat) : Int) = G at *
      have hG := Lib.hid hGo; clear hGo
      by_cases hkn : k < n
      · obtain ⟨ad, rfl, hlt, hat⟩ := (h.cells k hkn)
        obtain ⟨s, A, n', c', B, m, d, t, C, i, e, D, j, f, ⟨g0, g1, g2, g3, g4, g5⟩, hx, hy⟩ := hat.bl (by rw [block_add]; exact hlt) hbw
        have hms := sumTo_le szP l (show k + 1 ≤ n from hkn)
        by_cases hfit : ((szP (pix l k) : Nat) : Int) ≤ G
        · have he := lft_yes hfit
          go_wp2_with fail
          refine (szPoint_any _ hx hy (by omega) (by omega)).mono ?_
          rintro e w1 ⟨rfl, hb⟩
          rw [he]; clear he
          have hb1 : Bl w w1 := slc
          go_wp2_with fail
          go_roundw
          case rel => exact ⟨k + 1, by omega, by go_num, by have := hG.out; simp only [sumTo]; omega, by rw [show left - ((n + sumTo szP l (k + 1) : Nat) : Int) = G - ((szP (pix l k) : Nat) : Int) from by have := hG.out; simp only [sumTo]; omega], hb1⟩
          case measure => simp [intOf]; omega
        · have he := lft_no hfit
          have hs := Lib.hid (show lft left (szL szP l) = -1 from lft_no (by have := hG.out; simp only [sumTo] at hms; unfold szL; rw [hl.out]; omega))
          go_wp2_with fail
          refine (szPoint_any _ hx hy (by omega) (by omega)).mono ?_
          rintro e w1 ⟨rfl, hb⟩
          rw [he]; clear he
          have hb1 : Bl w w1 := slc
          go_wp2_with fail
          go_ret
          exact ⟨ret_int hs.out.symm, hb1⟩
      · have hs := Lib.hid (show lft left (szL szP l) = G by have := hG.out; rw [lft_yes (by unfold szL; rw [hl.out, show n = k from by omega]; rw [show n = k from by omega] at hle; exact hle), ← this]; unfold szL; rw [hl.out, show k = n from by omega])
        go_wp2_with fail
        go_ret
        exact ⟨ret_int hs.out.symm, hbw⟩
  · have hs := Lib.hid (show lft left (szL szP l) = -1 from lft_no (by unfold szL; rw [hl.out]; omega))
    go_enter Tryz.func10, Tryz.ntmps10
    go_wp2
    go_ret
    exact ⟨ret_int hs.out.symm, Bl.refl _⟩


end Go.Proofs.YthgielbhcjpikaaGreat
