import Derived.Test.YtggjdgjkdmgjnaaRows
import Derived.Test.YtggjdgjkdmgjnaaEqL
namespace Go.Proofs.Ytggjdgjkdmgjnaa

open Go.RowKit

set_option maxHeartbeats 400000 in
theorem szTriS_any (w : World) {A : Option Addr} {n c : Nat} {l : List TriD} (h : RdTS w A n c l) {left : Int} (h0 : 0 ≤ left) (h1 : left ≤ 1099511627776) :
    Calls Try.prog 21 #[.slice A n c, .int .i64 left] w fun e w' => e = .returned (.int .i64 (lft left l.length)) ∧ Bl w w' := by
  have hn := h.small
  have hl := Lib.hid h.len
  by_cases hc : (n : Int) ≤ left
  · have hs := Lib.hid (lft_yes hc)
    go_enter Try.func21, Try.ntmps21
    go_wp2
    go_ret
    exact ⟨ret_int (by rw [hl.out]; exact hs.out.symm), Bl.refl _⟩
  · have hs := Lib.hid (lft_no hc)
    go_enter Try.func21, Try.ntmps21
    go_wp2
    go_ret
    exact ⟨ret_int (by rw [hl.out]; exact hs.out.symm), Bl.refl _⟩

set_option maxHeartbeats 1000000 in
theorem szMesh_any (w : World) {A B : Option Addr} {n c m d : Nat} {x : MeD} (h : RdPS w A n c x.points) (k : RdTS w B m d x.tris) {left : Int} (h0 : 0 ≤ left) (h1 : left ≤ 1099511627776) :
    Calls Try.prog 6 #[.agg #[.slice A n c, .slice B m d], .int .i64 left] w fun e w' => e = .returned (.int .i64 (lft left (szM x))) ∧ Bl w w' := by
  by_cases c0 : ((szL szP x.points : Nat) : Int) ≤ left
  · have e0 : lft (left) (szL szP x.points) = left - ((szL szP x.points : Nat) : Int) := lft_yes c0
    by_cases c1 : ((x.tris.length : Nat) : Int) ≤ left - ((szL szP x.points : Nat) : Int)
    · have e1 : lft (left - ((szL szP x.points : Nat) : Int)) (x.tris.length) = left - ((szL szP x.points : Nat) : Int) - ((x.tris.length : Nat) : Int) := lft_yes c1
      have hs : Hid (lft left (szM x) = left - ((szL szP x.points : Nat) : Int) - ((x.tris.length : Nat) : Int)) := by show _ = _; unfold szM; unfold lft; split <;> omega
      go_enter Try.func6, Try.ntmps6
      go_wp2_with fail
      refine (szPointS_any _ (h.bl slc) (by omega) (by omega)).mono ?_
      rintro e w1 ⟨rfl, hb⟩
      rw [e0]
      have hb1 : Bl w w1 := slc
      obtain ⟨hc, hf⟩ := bcell hb
      have hz1 := hb.size
      simp only [World.size_alloc] at hz1
      clear hb
      go_wp2_with fail
      refine (szTriS_any _ (k.bl hb1) (by omega) (by omega)).mono ?_
      rintro e w2 ⟨rfl, hb⟩
      rw [e1]
      have hb2 : Bl w w2 := slc
      obtain ⟨hc, hf⟩ := bcell hb
      have hz2 := hb.size
      clear hb
      go_wp2_with fail
      go_ret
      exact ⟨ret_int hs.out.symm, hb2⟩
    · have e1 : lft (left - ((szL szP x.points : Nat) : Int)) (x.tris.length) = -1 := lft_no c1
      have hs : Hid (lft left (szM x) = -1) := by show _ = _; unfold szM; unfold lft; split <;> omega
      go_enter Try.func6, Try.ntmps6
      go_wp2_with fail
      refine (szPointS_any _ (h.bl slc) (by omega) (by omega)).mono ?_
      rintro e w1 ⟨rfl, hb⟩
      rw [e0]
      have hb1 : Bl w w1 := slc
      obtain ⟨hc, hf⟩ := bcell hb
      have hz1 := hb.size
      simp only [World.size_alloc] at hz1
      clear hb
      go_wp2_with fail
      refine (szTriS_any _ (k.bl hb1) (by omega) (by omega)).mono ?_
      rintro e w2 ⟨rfl, hb⟩
      rw [e1]
      have hb2 : Bl w w2 := slc
      obtain ⟨hc, hf⟩ := bcell hb
      have hz2 := hb.size
      clear hb
      go_wp2_with fail
      go_ret
      exact ⟨ret_int hs.out.symm, hb2⟩
  · have e0 : lft (left) (szL szP x.points) = -1 := lft_no c0
    have hs : Hid (lft left (szM x) = -1) := by show _ = _; unfold szM; unfold lft; split <;> omega
    go_enter Try.func6, Try.ntmps6
    go_wp2_with fail
    refine (szPointS_any _ (h.bl slc) (by omega) (by omega)).mono ?_
    rintro e w1 ⟨rfl, hb⟩
    rw [e0]
    have hb1 : Bl w w1 := slc
    obtain ⟨hc, hf⟩ := bcell hb
    have hz1 := hb.size
    simp only [World.size_alloc] at hz1
    clear hb
    go_wp2_with fail
    go_ret
    exact ⟨ret_int hs.out.symm, hb1⟩

end Go.Proofs.Ytggjdgjkdmgjnaa
