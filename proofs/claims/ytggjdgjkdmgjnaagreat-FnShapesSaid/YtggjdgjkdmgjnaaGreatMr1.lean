import Derived.Test.YtggjdgjkdmgjnaaGreatRows
import Derived.Test.YtggjdgjkdmgjnaaGreatMk3
import Derived.Test.YtggjdgjkdmgjnaaGreatBx
namespace Go.Proofs.YtggjdgjkdmgjnaaGreat

open Go.RowKit

set_option maxHeartbeats 400000 in
theorem markBigInt_any {T : TypeId} (w : World) {s : Bool} {A : Option Addr} {n c : Nat} {l : List Int} {bs : List Nat} {k0 : Int} (h : FtI T w A n c l bs) (hn : n ≤ 1048576) (h0 : 0 ≤ k0) (h1 : k0 ≤ 1099511627776) :
    Calls Tryz.prog 77 #[.agg #[.bool s, .slice A n c], .int .i64 k0] w fun e w' => e = .returned (.int .i64 (k0 + (n : Int))) ∧ FtI T w' A n c (marks k0 n) bs ∧ Ob bs w w' := by
  go_enter Tryz.func77, Tryz.ntmps77
  go_wp2_with fail
  have hbl := (Bl.refl w).alloc (.cells #[.bool s, .slice A n c] 32)
  refine (markIntS_any _ (h.bl hbl) hn h0 h1).mono ?_
  rintro e w1 ⟨rfl, hF, hO⟩
  go_wp2_with fail
  go_ret
  exact ⟨rfl, hF, (Ob.of_bl hbl _).trans hO⟩
set_option maxHeartbeats 400000 in
theorem heldBigInt_any (w : World) {s : Bool} {A : Option Addr} {n c : Nat} {k0 : Int} (h : RdI w A n c (marks k0 n)) (hn : n ≤ 1048576) (h0 : 0 ≤ k0) (h1 : k0 ≤ 1099511627776) :
    Calls Tryz.prog 78 #[.agg #[.bool s, .slice A n c], .int .i64 k0] w fun e w' => e = .returned (.int .i64 (k0 + (n : Int))) ∧ Bl w w' := by
  go_enter Tryz.func78, Tryz.ntmps78
  go_wp2_with fail
  refine (heldIntS_any _ (h.alloc _) hn h0 h1).mono ?_
  rintro e w1 ⟨rfl, q, rfl⟩
  have hp : ¬ k0 + (n : Int) < 0 := by omega
  go_wp2_with fail
  go_ret
  exact ⟨rfl, slc⟩
set_option maxHeartbeats 1000000 in
theorem markRat_any {T : TypeId} (w : World) {s : Bool} {A : Option Addr} {n c : Nat} {B : Option Addr} {m d : Nat} {r : RatD} {bs : List Nat} {k0 : Int} (h : FtR T w s A n c B m d r bs) (hnd : bs.Nodup) (hn : n ≤ 1048576) (hm : m ≤ 1048576) (h0 : 0 ≤ k0) (h1 : k0 ≤ 1073741824) :
    Calls Tryz.prog 21 #[.agg #[.bool s, .slice A n c, .slice B m d], .int .i64 k0] w fun e w' => e = .returned (.int .i64 (k0 + (n : Int) + (m : Int))) ∧ RdI w' A n c (marks k0 n) ∧ RdI w' B m d (marks (k0 + (n : Int)) m) ∧ Ob bs w w' := by
  obtain ⟨hs, b1, b2, hA, hB, rfl⟩ := h
  have hd := List.nodup_append.1 hnd
  have hs := Lib.hid hs; rename_i h_; clear h_
  go_enter Tryz.func21, Tryz.ntmps21
  go_wp2_with fail
  have hbl := (Bl.refl w).alloc (.cells #[.bool s, .slice A n c, .slice B m d] 34)
  refine (markBigInt_any _ (hA.bl hbl) hn h0 (by omega)).mono ?_
  rintro e w1 ⟨rfl, hF, hO⟩
  have hB1 := (hB.bl hbl).ob hO (fun b hb hm' => hd.2.2 b hm' b hb rfl)
  have hx : Blk w1 w.heap.size 34 #[.bool s, .slice A n c, .slice B m d] := (Blk.new w _ _).ob hO (fun hm' => by have := hA.lt _ hm'; omega)
  obtain ⟨i0, i1, i2⟩ := bx3 hx
  go_wp2_with fail
  refine (markIntS_any _ hB1 hm (by omega) (by omega)).mono ?_
  rintro e w2 ⟨rfl, hF2, hO2⟩
  have hF3 := hF.ob hO2 (fun b hb hm' => hd.2.2 b hb b hm' rfl)
  go_wp2_with fail
  go_ret
  exact ⟨rfl, hF3.1, hF2.1, (Ob.of_bl hbl _).trans ((hO.mono (fun b hb => by simp [hb])).trans (hO2.mono (fun b hb => by simp [hb])))⟩
set_option maxHeartbeats 1000000 in
theorem heldRat_any (w : World) {s : Bool} {A : Option Addr} {n c : Nat} {B : Option Addr} {m d : Nat} {k0 : Int} (h : RdI w A n c (marks k0 n)) (k : RdI w B m d (marks (k0 + (n : Int)) m)) (hn : n ≤ 1048576) (hm : m ≤ 1048576) (h0 : 0 ≤ k0) (h1 : k0 ≤ 1073741824) :
    Calls Tryz.prog 22 #[.agg #[.bool s, .slice A n c, .slice B m d], .int .i64 k0] w fun e w' => e = .returned (.int .i64 (k0 + (n : Int) + (m : Int))) ∧ Bl w w' := by
  have hp1 : ¬ k0 + (n : Int) < 0 := by omega
  have hp2 : ¬ k0 + (n : Int) + (m : Int) < 0 := by omega
  go_enter Tryz.func22, Tryz.ntmps22
  go_wp2_with fail
  refine (heldBigInt_any _ (h.alloc _) hn h0 (by omega)).mono ?_
  rintro e w1 ⟨rfl, hb1⟩
  obtain ⟨i0, i1, i2⟩ := box3 hb1
  have hb1 : Bl w w1 := slc
  go_wp2_with fail
  refine (heldIntS_any _ (k.bl hb1) hm (by omega) (by omega)).mono ?_
  rintro e w2 ⟨rfl, q, rfl⟩
  go_wp2_with fail
  go_ret
  exact ⟨rfl, slc⟩

end Go.Proofs.YtggjdgjkdmgjnaaGreat
