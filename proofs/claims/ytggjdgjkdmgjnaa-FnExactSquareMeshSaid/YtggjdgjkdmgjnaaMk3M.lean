import Derived.Test.YtggjdgjkdmgjnaaRows
import Derived.Test.YtggjdgjkdmgjnaaMk3
namespace Go.Proofs.Ytggjdgjkdmgjnaa

open Go.RowKit

def mkT (k : Int) : TriD := ⟨k, k + 1, k + 1 + 1, k + 1 + 1 + 1, k + 1 + 1 + 1 + 1⟩
def mkTL (k : Int) (n : Nat) : List TriD := (List.range n).map fun i : Nat => mkT (k + 5 * (i : Int))
theorem pix_mkTL (k : Int) {n i : Nat} (h : i < n) : pix (mkTL k n) i = mkT (k + 5 * (i : Int)) := by simp [pix, mkTL, h]
set_option maxHeartbeats 1000000 in
theorem markTriS_any {TT : TypeId} (w : World) {g n c : Nat} {cs : Array Value} {k0 : Int} (hB : Blk w g TT cs) (hcs : cs.size = n * 5) (hn : n ≤ 1048576) (h0 : 0 ≤ k0) (h1 : k0 ≤ 1099511627776) :
    Calls Try.prog 32 #[.slice (some ⟨g, 0, none⟩) n c, .int .i64 k0] w fun e w' => e = .returned (.int .i64 (k0 + 5 * (n : Int))) ∧ ∃ cs', Blk w' g TT cs' ∧ cs'.size = n * 5 ∧ TrsIn cs' (mkTL k0 n) n ∧ Ob [g] w w' := by
  go_enter Try.func32, Try.ntmps32
  go_wp2_with fail
  go_loopw [1, 5] (fun v i wr => ∃ (k : Nat) (cs' : Array Value), k ≤ n ∧ i = .int .i64 (k : Int) ∧ v = .int .i64 (k0 + 5 * (k : Int)) ∧ Blk wr g TT cs' ∧ cs'.size = n * 5 ∧ TrsIn cs' (mkTL k0 n) k ∧ Ob [g] w wr) (fun _ i _ => n - (intOf i).toNat)
  case atStart => exact ⟨0, cs, Nat.zero_le _, rfl, by simp, hB, hcs, fun i hi => by omega, Ob.refl _ _⟩
  case round =>
    clear hB hcs
    obtain ⟨k, cs', hk, rfl, rfl, hB, hs, hM, hO⟩ := hrel
    have hs := Lib.hid hs; rename_i h_; clear h_
    by_cases hkn : k < n
    · have hki : (k : Int) < (n : Int) := by omega
      have hfr := hB.frozen
      have hlt := hB.lt
      obtain ⟨v0, x0⟩ := hB.some (i := k * 5) (by have := hs.out; omega)
      obtain ⟨v1, x1⟩ := hB.some (i := k * 5 + 1) (by have := hs.out; omega)
      obtain ⟨v2, x2⟩ := hB.some (i := k * 5 + 2) (by have := hs.out; omega)
      obtain ⟨v3, x3⟩ := hB.some (i := k * 5 + 3) (by have := hs.out; omega)
      obtain ⟨v4, x4⟩ := hB.some (i := k * 5 + 4) (by have := hs.out; omega)
      have hst := hM.step (n := n) hs.out hkn
      rw [pix_mkTL _ hkn] at hst
      have hnx : Hid (k0 + 5 * (k : Int) + 1 + 1 + 1 + 1 + 1 = k0 + 5 * ((k + 1 : Nat) : Int)) := by unfold Hid; omega
      have hkb : k0 + 5 * (k : Int) ≤ 1099521627776 := by omega
      have hk0 : 0 ≤ k0 + 5 * (k : Int) := by omega
      generalize k0 + 5 * (k : Int) = ks at *
      have hst := Lib.hid hst; rename_i h_; clear h_
      have hM := Lib.hid hM; rename_i h_; clear h_
      go_wp2_with fail
      go_roundw
      case rel => exact ⟨k + 1, _, by omega, by go_num, by rw [hnx.out], ((((hB.set_ _ _).set_ _ _).set_ _ _).set_ _ _).set_ _ _, by simp [hs.out], hst.out, ((((hO.set (by simp) _ _).set (by simp) _ _).set (by simp) _ _).set (by simp) _ _).set (by simp) _ _⟩
      case measure => simp [intOf]; omega
    · obtain rfl : k = n := by omega
      go_wp2_with fail
      go_ret
      exact ⟨rfl, cs', hB, hs.out, hM, hO⟩

end Go.Proofs.Ytggjdgjkdmgjnaa
