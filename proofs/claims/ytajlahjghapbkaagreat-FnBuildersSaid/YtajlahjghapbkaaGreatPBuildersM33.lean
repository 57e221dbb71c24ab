/- Lemmas. -/
import Derived.Test.YtajlahjghapbkaaGreatRows
import Derived.Test.YtajlahjghapbkaaGreatPBuildersM32
import Derived.Test.YtajlahjghapbkaaGreatPBuildersM16
import Derived.Test.YtajlahjghapbkaaGreatPBuildersM17
namespace Go.Proofs.YtajlahjghapbkaaGreat
section
open Go.RowKit

theorem pts_lit {w : World} {g n c : Nat} {l : List PtD} (h : RdPS w (some ⟨g, 0, none⟩) n c l) {k : Nat} (hk : k < n) : PtAt w ⟨g, k * 6, none⟩ (pix l k) := by
  obtain ⟨_, e, _, hc⟩ := h.cells k hk
  cases e
  rw [Addr.add_lit, Nat.zero_add] at hc
  exact hc
/-- Points that are valid and different. -/
def PtsOk (l : List PtD) : Prop := ∀ k, k < l.length → OkP (pix l k) ∧ ∀ j, j < k → eqP (pix l k) (pix l j) = false

set_option maxRecDepth 100000 in
set_option maxHeartbeats 16000000 in
theorem arePointsF_any (w : World) {s1 : Bool} {A1 : Option Addr} {n1 c1 : Nat} {B1 : Option Addr} {m1 d1 : Nat} {t1 : Bool} {C1 : Option Addr} {i1 e1 : Nat} {D1 : Option Addr} {j1 f1 : Nat} {q : PtD} {gb : Nat} (qb : Blk w gb 31 #[.bool s1, .slice A1 n1 c1, .slice B1 m1 d1, .bool t1, .slice C1 i1 e1, .slice D1 j1 f1]) (hx1 : RdR w s1 A1 n1 c1 B1 m1 d1 q.x) (hy1 : RdR w t1 C1 i1 e1 D1 j1 f1 q.y) {s2 : Bool} {A2 : Option Addr} {n2 c2 : Nat} {B2 : Option Addr} {m2 d2 : Nat} {t2 : Bool} {C2 : Option Addr} {i2 e2 : Nat} {D2 : Option Addr} {j2 f2 : Nat} {p : PtD} (hx : RdR w s2 A2 n2 c2 B2 m2 d2 p.x) (hy : RdR w t2 C2 i2 e2 D2 j2 f2 p.y) :
    Calls Tryz.prog 162 #[.agg #[.bool s2, .slice A2 n2 c2, .slice B2 m2 d2, .bool t2, .slice C2 i2 e2, .slice D2 j2 f2], .pointer (some ⟨gb, 0, none⟩)] w fun en w' => en = .returned (.bool (eqP q p)) ∧ Bl w w' := by
  go_enter Tryz.func162, Tryz.ntmps162
  have eb := qb.alloc (.cells #[.bool s2, .slice A2 n2 c2, .slice B2 m2 d2, .bool t2, .slice C2 i2 e2, .slice D2 j2 f2] 31)
  obtain ⟨j0, j1, j2, j3, j4, j5⟩ := bx6 eb
  go_wp2_with fail
  refine (SamePoint_any _ (hx1.bl slc) (hy1.bl slc) (hx.bl slc) (hy.bl slc)).mono ?_
  rintro e w1 ⟨rfl, hb1⟩
  go_wp2_with fail
  go_ret
  exact ⟨rfl, slc⟩
def NoEq (q : PtD) (l : List PtD) : Prop := ∀ k, k < l.length → eqP q (pix l k) = false
set_option maxRecDepth 100000 in
set_option maxHeartbeats 4000000 in
theorem IndexEq_no (w : World) {s1 : Bool} {A1 : Option Addr} {n1 c1 : Nat} {B1 : Option Addr} {m1 d1 : Nat} {t1 : Bool} {C1 : Option Addr} {i1 e1 : Nat} {D1 : Option Addr} {j1 f1 : Nat} {q : PtD} {gb : Nat} (qb : Blk w gb 31 #[.bool s1, .slice A1 n1 c1, .slice B1 m1 d1, .bool t1, .slice C1 i1 e1, .slice D1 j1 f1]) (hx1 : RdR w s1 A1 n1 c1 B1 m1 d1 q.x) (hy1 : RdR w t1 C1 i1 e1 D1 j1 f1 q.y) {g9 n9 c9 : Nat} {l : List PtD} (hl9 : RdPS w (some ⟨g9, 0, none⟩) n9 c9 l) (hno : NoEq q l) :
    Calls Tryz.prog 150 #[.slice (some ⟨g9, 0, none⟩) n9 c9, .func (.func 162) #[] #[.pointer (some ⟨gb, 0, none⟩)]] w fun e w' => e = .returned (.int .i64 (-1)) ∧ Bl w w' := by
  have hn := hl9.small
  have hl := Lib.hid hl9.len
  have hno := Lib.hid hno; rename_i h_; clear h_
  go_enter Tryz.func150, Tryz.ntmps150
  go_wp2_with fail
  go_loopw [8] (fun i wr => ∃ k : Nat, k ≤ n9 ∧ i = .int .i64 (k : Int) ∧ Bl w wr) (fun i _ => n9 - (intOf i).toNat)
  case atStart => exact ⟨0, Nat.zero_le _, rfl, Bl.refl _⟩
  case round =>
    obtain ⟨k9, hk, rfl, hbw⟩ := hrel
    by_cases hkn : k9 < n9
    · have hki : (k9 : Int) < (n9 : Int) := by omega
      obtain ⟨s2, A2, n2, c2, B2, m2, d2, t2, C2, i2, e2, D2, j2, f2, ⟨y0, y1, y2, y3, y4, y5⟩, hx, hy⟩ := pts_lit (RdPS.bl hl9 hbw) hkn
      have ho := Lib.hid (hno.out k9 (by rw [hl.out]; exact hkn))
      go_wp2_with fail
      refine (arePointsF_any _ (qb.bl hbw) (hx1.bl hbw) (hy1.bl hbw) hx hy).mono ?_
      rw [ho.out]
      rintro e w1 ⟨rfl, hb1⟩
      have hb2 : Bl w w1 := slc
      clear hb1
      go_wp2_with fail
      go_roundw
      case rel => exact ⟨k9 + 1, by omega, by go_num, hb2⟩
      case measure => simp [intOf]; omega
    · obtain rfl : k9 = n9 := by omega
      have hkm2 : ¬ (k9 : Int) < (k9 : Int) := by omega
      go_wp2_with fail
      go_ret
      exact ⟨rfl, hbw⟩
theorem ContainsEq_no (w : World) {s1 : Bool} {A1 : Option Addr} {n1 c1 : Nat} {B1 : Option Addr} {m1 d1 : Nat} {t1 : Bool} {C1 : Option Addr} {i1 e1 : Nat} {D1 : Option Addr} {j1 f1 : Nat} {q : PtD} {gb : Nat} (qb : Blk w gb 31 #[.bool s1, .slice A1 n1 c1, .slice B1 m1 d1, .bool t1, .slice C1 i1 e1, .slice D1 j1 f1]) (hx1 : RdR w s1 A1 n1 c1 B1 m1 d1 q.x) (hy1 : RdR w t1 C1 i1 e1 D1 j1 f1 q.y) {g9 n9 c9 : Nat} {l : List PtD} (hl9 : RdPS w (some ⟨g9, 0, none⟩) n9 c9 l) (hno : NoEq q l) :
    Calls Tryz.prog 79 #[.slice (some ⟨g9, 0, none⟩) n9 c9, .func (.func 162) #[] #[.pointer (some ⟨gb, 0, none⟩)]] w fun e w' => e = .returned (.bool false) ∧ Bl w w' := by
  have hno := Lib.hid hno; rename_i h_; clear h_
  go_enter Tryz.func79, Tryz.ntmps79
  go_wp2_with fail
  refine (IndexEq_no _ qb hx1 hy1 hl9 hno.out).mono ?_
  rintro e w1 ⟨rfl, hb⟩
  go_wp2_with fail
  go_ret
  exact ⟨rfl, hb⟩
/-- The first elements of a slice of points. -/
theorem pts_take {w : World} {g n c : Nat} {l : List PtD} (h : RdPS w (some ⟨g, 0, none⟩) n c l) {k : Nat} (hk : k ≤ n) : RdPS w (some ⟨g, 0, none⟩) k c (l.take k) := by
  refine ⟨?_, Nat.le_trans hk h.cap, Nat.le_trans hk h.small, fun j hj => ?_⟩
  · rw [List.length_take, h.len]; omega
  · obtain ⟨ad, e, hlt, hc⟩ := h.cells j (by omega)
    refine ⟨ad, e, hlt, ?_⟩
    have : pix (l.take k) j = pix l j := by unfold pix; rw [List.getD_eq_getElem?_getD, List.getD_eq_getElem?_getD, List.getElem?_take_of_lt hj]
    rw [this]
    exact hc
set_option maxRecDepth 100000 in
set_option maxHeartbeats 16000000 in
theorem arePoints_yes (w : World) {g9 n9 c9 : Nat} {l : List PtD} (hl9 : RdPS w (some ⟨g9, 0, none⟩) n9 c9 l) (hok : PtsOk l) (h3 : 3 ≤ n9) (h40 : n9 ≤ 40) :
    Calls Tryz.prog 101 #[.slice (some ⟨g9, 0, none⟩) n9 c9] w fun e w' => e = .returned (.bool true) ∧ Bl w w' := by
  have hl := Lib.hid hl9.len
  have hcap := hl9.cap
  have hok := Lib.hid hok; rename_i h_; clear h_
  go_enter Tryz.func101, Tryz.ntmps101
  go_wp2_with fail
  go_loopw [7] (fun i wr => ∃ k : Nat, k ≤ n9 ∧ i = .int .i64 (k : Int) ∧ Bl w wr) (fun i _ => n9 - (intOf i).toNat)
  case atStart => exact ⟨0, Nat.zero_le _, rfl, Bl.refl _⟩
  case round =>
    obtain ⟨k, hk, rfl, hbw⟩ := hrel
    obtain ⟨wo, rfl⟩ : ∃ wo : World, wo = wr := ⟨_, rfl⟩
    by_cases hkn : k < n9
    · have hki : (k : Int) < (n9 : Int) := by omega
      obtain ⟨s1, A1, n1, c1, B1, m1, d1, t1, C1, i1, e1, D1, j1, f1, ⟨y0, y1, y2, y3, y4, y5⟩, hx1, hy1⟩ := pts_lit (RdPS.bl hl9 hbw) hkn
      have hop := Lib.hid (hok.out k (by rw [hl.out]; exact hkn)).1
      have hne : NoEq (pix l k) (l.take k) := by
        intro j hj
        rw [List.length_take] at hj
        have : pix (l.take k) j = pix l j := by unfold pix; rw [List.getD_eq_getElem?_getD, List.getD_eq_getElem?_getD, List.getElem?_take_of_lt (by omega)]
        rw [this]
        exact (hok.out k (by rw [hl.out]; exact hkn)).2 j (by omega)
      have hne := Lib.hid hne; rename_i h_; clear h_
      go_wp2_with fail
      refine calls_gen (fun W2 => Bl wo W2 ∧ Blk W2 wo.heap.size 31 #[.bool s1, .slice A1 n1 c1, .slice B1 m1 d1, .bool t1, .slice C1 i1 e1, .slice D1 j1 f1]) ⟨slc, bts⟩ ?_
      rintro W2 ⟨hb2, qb⟩
      clear y0 y1 y2 y3 y4 y5
      refine (IsValidPoint_yes _ (hx1.bl hb2) (hy1.bl hb2) hop.out).mono ?_
      rintro e w3 ⟨rfl, hb3⟩
      have qb := qb.bl hb3
      have hb4 := hb2.next hb3
      obtain ⟨j0, j1, j2, j3, j4, j5⟩ := bx6 qb
      go_wp2_with fail
      refine (ContainsEq_no _ (by exact qb) (hx1.bl hb4) (hy1.bl hb4) (pts_take (RdPS.bl hl9 (hbw.next hb4)) (by omega)) hne.out).mono ?_
      rintro e w5 ⟨rfl, hb5⟩
      go_wp2_with fail
      go_roundw
      case rel => exact ⟨k + 1, by omega, by go_num, (hbw.next hb4).next hb5⟩
      case measure => simp [intOf]; omega
    · obtain rfl : k = n9 := by omega
      have hkm2 : ¬ (k : Int) < (k : Int) := by omega
      go_wp2_with fail
      refine (within_yes _ (show (3 : Int) ≤ (k : Int) by omega) (show (k : Int) ≤ 40 by omega)).mono ?_
      rintro e w1 ⟨rfl, q1, rfl⟩
      go_wp2_with fail
      go_ret
      exact ⟨rfl, by exact slc⟩
end

end Go.Proofs.YtajlahjghapbkaaGreat
