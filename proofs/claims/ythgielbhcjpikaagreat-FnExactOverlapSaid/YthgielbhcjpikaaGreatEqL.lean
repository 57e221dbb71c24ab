import Derived.Test.YthgielbhcjpikaaGreatRows
import Derived.Test.YthgielbhcjpikaaGreatBase
namespace Go.Proofs.YthgielbhcjpikaaGreat
open Go.RowKit

set_option maxHeartbeats 400000 in
theorem eqIntS_any (w : World) {A B : Option Addr} {n c d : Nat} {xs : List Int} (ha : RdI w A n c xs) (hb : RdI w B n d xs) :
    Calls Tryz.prog 57 #[.slice A n c, .slice B n d] w fun e w' => e = .returned (.bool true) ∧ ∃ q, w' = w.drewN q := by
  have hna := ha.small
  go_enter Tryz.func57, Tryz.ntmps57
  go_wp2
  go_loopw [5] (fun i wr => ∃ k : Nat, k ≤ n ∧ i = .int .i64 (k : Int) ∧ ∃ q, wr = w.drewN q) (fun i _ => n - (intOf i).toNat)
  case atStart => exact ⟨0, Nat.zero_le _, rfl, (by first | exact ⟨_, rfl⟩ | exact ⟨0, rfl⟩ | exact q_drewN ⟨_, rfl⟩ | exact q_drewN (q_drewN ⟨_, rfl⟩))⟩
  case round =>
    obtain ⟨k, hk, rfl, q, rfl⟩ := hrel
    by_cases hkn : k < n
    · obtain ⟨ad, rfl, hlta, hca⟩ := ha.at_ hkn
      obtain ⟨bd, rfl, hltb, hcb⟩ := hb.at_ hkn
      have hki : (k : Int) < (n : Int) := by omega
      go_wp2
      go_quiet (fail)
      go_wp2
      go_roundw
      case rel => exact ⟨k + 1, by omega, by go_num, (by first | exact ⟨_, rfl⟩ | exact ⟨0, rfl⟩ | exact q_drewN ⟨_, rfl⟩ | exact q_drewN (q_drewN ⟨_, rfl⟩))⟩
      case measure => simp [intOf]; omega
    · go_wp2
      go_ret
      exact ⟨rfl, (by first | exact ⟨_, rfl⟩ | exact ⟨0, rfl⟩ | exact q_drewN ⟨_, rfl⟩ | exact q_drewN (q_drewN ⟨_, rfl⟩))⟩

set_option maxHeartbeats 1000000 in
theorem eqBigInt_any (w : World) {s : Bool} {A A' : Option Addr} {n c c' : Nat} {l : List Int} (h : RdI w A n c l) (h' : RdI w A' n c' l) :
    Calls Tryz.prog 56 #[.agg #[.bool s, .slice A n c], .agg #[.bool s, .slice A' n c']] w fun e w' => e = .returned (.bool true) ∧ Bl w w' := by
  have hse : (s != s) = false := by simp
  go_enter Tryz.func56, Tryz.ntmps56
  go_wp2_with fail
  refine (eqIntS_any _ (h.bl slc) (h'.bl slc)).mono ?_
  rintro e w1 ⟨rfl, hq⟩
  have hb : Bl _ w1 := q_bl hq
  clear hq
  have hb1 : Bl w w1 := slc
  clear hb
  go_wp2_with fail
  go_ret
  exact ⟨rfl, hb1⟩

set_option maxHeartbeats 1000000 in
theorem eqRat_any (w : World) {s s' : Bool} {A : Option Addr} {n c : Nat} {B : Option Addr} {m d : Nat} {A' : Option Addr} {n' c' : Nat} {B' : Option Addr} {m' d' : Nat} {r : RatD} (h : RdR w s A n c B m d r) (h' : RdR w s' A' n' c' B' m' d' r) :
    Calls Tryz.prog 17 #[.agg #[.bool s, .slice A n c, .slice B m d], .agg #[.bool s', .slice A' n' c', .slice B' m' d']] w fun e w' => e = .returned (.bool true) ∧ Bl w w' := by
  obtain rfl := h.neg.trans h'.neg.symm
  obtain rfl := h.mag.len.symm.trans h'.mag.len
  obtain rfl := h.den.len.symm.trans h'.den.len
  go_enter Tryz.func17, Tryz.ntmps17
  go_wp2_with fail
  refine (eqBigInt_any _ (h.mag.bl slc) (h'.mag.bl slc)).mono ?_
  rintro e w1 ⟨rfl, hb⟩
  have hb1 : Bl w w1 := slc
  obtain ⟨hc, hf⟩ := bcell hb
  clear hb
  go_wp2_with fail
  refine (eqIntS_any _ (h.den.bl slc) (h'.den.bl slc)).mono ?_
  rintro e w2 ⟨rfl, hq⟩
  have hb : Bl _ w2 := q_bl hq
  clear hq
  have hb2 : Bl w w2 := slc
  clear hb
  go_wp2_with fail
  go_ret
  exact ⟨rfl, hb2⟩

set_option maxHeartbeats 1000000 in
theorem eqPoint_any (w : World) {s s' : Bool} {A : Option Addr} {n c : Nat} {B : Option Addr} {m d : Nat} {A' : Option Addr} {n' c' : Nat} {B' : Option Addr} {m' d' : Nat} {t t' : Bool} {C : Option Addr} {i e : Nat} {D : Option Addr} {j f : Nat} {C' : Option Addr} {i' e' : Nat} {D' : Option Addr} {j' f' : Nat} {p : PtD} (h : RdR w s A n c B m d p.x) (k : RdR w t C i e D j f p.y) (h' : RdR w s' A' n' c' B' m' d' p.x) (k' : RdR w t' C' i' e' D' j' f' p.y) :
    Calls Tryz.prog 51 #[.agg #[.bool s, .slice A n c, .slice B m d, .bool t, .slice C i e, .slice D j f], .agg #[.bool s', .slice A' n' c', .slice B' m' d', .bool t', .slice C' i' e', .slice D' j' f']] w fun e w' => e = .returned (.bool true) ∧ Bl w w' := by
  go_enter Tryz.func51, Tryz.ntmps51
  go_wp2_with fail
  refine (eqRat_any _ (h.bl slc) (h'.bl slc)).mono ?_
  rintro e w1 ⟨rfl, hb⟩
  have hb1 : Bl w w1 := slc
  obtain ⟨hc, hf⟩ := bcell hb
  clear hb
  go_wp2_with fail
  refine (eqRat_any _ (k.bl slc) (k'.bl slc)).mono ?_
  rintro e w2 ⟨rfl, hb⟩
  have hb2 : Bl w w2 := slc
  clear hb
  go_wp2_with fail
  go_ret
  exact ⟨rfl, hb2⟩

set_option maxRecDepth 100000 in
set_option maxHeartbeats 1000000 in
theorem eqPointS_any (w : World) {A B : Option Addr} {n c d : Nat} {l : List PtD} (ha : RdPS w A n c l) (hb : RdPS w B n d l) :
    Calls Tryz.prog 14 #[.slice A n c, .slice B n d] w fun e w' => e = .returned (.bool true) ∧ Bl w w' := by
  have hna := ha.small
  go_enter Tryz.func14, Tryz.ntmps14
  go_wp2
  go_loopw [5] (fun i wr => ∃ k : Nat, k ≤ n ∧ i = .int .i64 (k : Int) ∧ Bl w wr) (fun i _ => n - (intOf i).toNat)
  case atStart => exact ⟨0, Nat.zero_le _, rfl, Bl.refl _⟩
  case round =>
    obtain ⟨k, hk, rfl, hbw⟩ := hrel
    by_cases hkn : k < n
    · obtain ⟨ad, rfl, hlta, hca⟩ := (ha.bl hbw).cells k hkn
      obtain ⟨bd, rfl, hltb, hcb⟩ := (hb.bl hbw).cells k hkn
      obtain ⟨s, A, n', c', B, m, d', t, C, i, e, D, j, f, ⟨g0, g1, g2, g3, g4, g5⟩, hx, hy⟩ := hca
      obtain ⟨s', A', n'', c'', B', m', d'', t', C', i', e', D', j', f', ⟨p0, p1, p2, p3, p4, p5⟩, hx', hy'⟩ := hcb
      have hki : (k : Int) < (n : Int) := by omega
      go_wp2
      go_still_tail 8, (by kernel_rfl)
      go_wp2_with fail
      refine (eqPoint_any _ hx.drew hy.drew hx'.drew hy'.drew).mono ?_
      rintro e w1 ⟨rfl, hb1⟩
      have hb2 : Bl w w1 := slc
      go_wp2_with fail
      go_roundw
      case rel => exact ⟨k + 1, by omega, by go_num, hb2⟩
      case measure => simp [intOf]; omega
    · go_wp2
      go_ret
      exact ⟨rfl, slc⟩


end Go.Proofs.YthgielbhcjpikaaGreat
