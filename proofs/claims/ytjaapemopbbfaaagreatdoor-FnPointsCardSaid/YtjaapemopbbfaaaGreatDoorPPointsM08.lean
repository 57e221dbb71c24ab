/- Lemmas. -/
import Derived.Test.YtjaapemopbbfaaaGreatDoorRows
import Derived.Test.YtjaapemopbbfaaaGreatDoorPPointsM06
import Derived.Test.YtjaapemopbbfaaaGreatDoorPPointsM07
namespace Go.Proofs.YtjaapemopbbfaaaGreatDoor
section
open Go.RowKit

def DivPost (T : TypeId) (w : World) (N M : Nat) (e : Ending) (w' : World) : Prop :=
  ∃ A1 n1 c1 A2 n2 c2, e = .returned (.tuple #[.slice A1 n1 c1, .slice A2 n2 c2]) ∧ OwI T w.heap.size w' A1 n1 c1 (ints (dig (N / M))) ∧ OwI T w.heap.size w' A2 n2 c2 (ints (dig (N % M))) ∧ Bl w w'

theorem OwI.mono0 {T : TypeId} {w : World} {b0 b1 : Nat} {A : Option Addr} {n c : Nat} {l : List Int} (h : OwI T b1 w A n c l) (hb : b0 ≤ b1) : OwI T b0 w A n c l :=
  ⟨h.1, h.2.imp id fun ⟨g, cs, e, hg, r⟩ => ⟨g, cs, e, by omega, r⟩⟩

theorem dig_one {M : Nat} (h : (dig M).length = 1) : dx (dig M) 0 = M ∧ M < 1000000000 ∧ 0 < M := by
  have h1 : vf (dx (dig M)) 1 = M := by rw [val_vf (by omega), val_dig]
  simp only [vf, Nat.pow_zero, Nat.mul_one, Nat.zero_add] at h1
  have h2 := dx_lt (digs_dig M) 0
  have h3 := dig_len_pos (n := M)
  rw [Bs_eq] at h2
  omega

set_option maxRecDepth 100000 in
set_option maxHeartbeats 8000000 in
theorem natDiv_less (w : World) {A B : Option Addr} {n m c d N M : Nat} (ha : IsN w A n c N) (hb : IsN w B m d M) (hn : n ≤ 1048576) (hm : m ≤ 1048576) (hlt : N < M) :
    Calls Tryz.prog 153 #[.slice A n c, .slice B m d] w (DivPost 3 w N M) := by
  have hq : Hid (N / M = 0 ∧ N % M = N) := ⟨Nat.div_eq_of_lt hlt, Nat.mod_eq_of_lt hlt⟩
  have hc : cmpI N M = -1 := cmpI_lt (by omega)
  clear hlt
  go_enter Tryz.func153, Tryz.ntmps153
  go_wp2_with fail
  refine (natCmp_any _ ha hb (by omega) (by omega)).mono ?_
  rw [hc]
  rintro e w1 ⟨rfl, q, rfl⟩
  go_wp2_with fail
  refine (Clone_any _ ((ha.drewN q).alloc _) hn).mono ?_
  rintro e w2 ⟨A', n', c', rfl, hO, hb2⟩
  have hO2 : OwI 3 w.heap.size w2 A' n' c' (ints (dig N)) := hO.mono0 (by simp)
  have hb2 : Bl w w2 := Bl.next (((Bl.refl w).drewN q).alloc _) hb2
  go_wp2_with fail
  go_ret2
  exact ⟨_, 0, 0, _, _, _, rfl, by rw [hq.out.1, dig_zero]; exact OwI.nil _ _ _ _, by rw [hq.out.2]; exact hO2, hb2⟩

set_option maxRecDepth 100000 in
set_option maxHeartbeats 8000000 in
theorem natDiv_one (w : World) {A B : Option Addr} {n c d N M : Nat} (ha : IsN w A n c N) (hb : IsN w B 1 d M) (hn : n ≤ 1048576) (hle : M ≤ N) :
    Calls Tryz.prog 153 #[.slice A n c, .slice B 1 d] w (DivPost 3 w N M) := by
  obtain ⟨h0, hM, hM0⟩ := dig_one hb.lenN
  have hc : 0 ≤ cmpI N M := by unfold cmpI; split <;> (try split) <;> omega
  clear hle
  generalize hcc : cmpI N M = cc at hc
  obtain ⟨bd, rfl, hltb, hcb⟩ := hb.atN (k := 0) (by omega)
  rw [h0] at hcb
  have hcb : w.cell? bd = some (.int .i64 (M : Int)) := by rw [← hcb, Addr.add_zero']
  clear h0
  go_enter Tryz.func153, Tryz.ntmps153
  go_wp2_with fail
  refine (natCmp_any _ ha hb (by omega) (by omega)).mono ?_
  rw [hcc]
  rintro e w1 ⟨rfl, q, rfl⟩
  clear hcc
  go_wp2_with fail
  refine (divSmall_any _ (ha.drewN q) hn hM0 hM).mono ?_
  rintro e w2 ⟨A', n', c', rfl, hO, hb2⟩
  have hO2 : OwI 3 w.heap.size w2 A' n' c' (ints (dig (N / M))) := hO.mono0 (by simp)
  have hb2 : Bl w w2 := Bl.next ((Bl.refl w).drewN q) hb2
  have hr0 := Nat.mod_lt N hM0
  generalize hrr : N % M = r at *
  go_wp2_with fail
  refine (natOf_any _ r (by omega)).mono ?_
  rintro e w3 ⟨A2, n2, c2, rfl, hO3, hb3⟩
  go_wp2_with fail
  go_ret2
  exact ⟨_, _, _, _, _, _, rfl, hO2.bl hb3, by rw [hrr]; exact hO3.mono0 hb2.size, hb2.next hb3⟩
end

end Go.Proofs.YtjaapemopbbfaaaGreatDoor
