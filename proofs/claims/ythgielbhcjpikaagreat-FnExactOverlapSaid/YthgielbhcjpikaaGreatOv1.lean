import Derived.Test.YthgielbhcjpikaaGreatRows
import Derived.Test.YthgielbhcjpikaaGreatSp14
namespace Go.Proofs.YthgielbhcjpikaaGreat
open Go.RowKit

set_option maxRecDepth 100000 in
set_option maxHeartbeats 1000000 in
theorem separatesF_any (w : World) {ga gb : Nat} {s : Bool} {A : Option Addr} {n c : Nat} {B : Option Addr} {m d : Nat} {t : Bool} {C : Option Addr} {i e : Nat} {D : Option Addr} {j f : Nat} {p : PtD} {s' : Bool} {A' : Option Addr} {n' c' : Nat} {B' : Option Addr} {m' d' : Nat} {t' : Bool} {C' : Option Addr} {i' e' : Nat} {D' : Option Addr} {j' f' : Nat} {p' : PtD} (qa : Blk w ga 59 #[.bool s, .slice A n c, .slice B m d, .bool t, .slice C i e, .slice D j f]) (qb : Blk w gb 59 #[.bool s', .slice A' n' c', .slice B' m' d', .bool t', .slice C' i' e', .slice D' j' f']) (h : RdR w s A n c B m d p.x) (k : RdR w t C i e D j f p.y) (h' : RdR w s' A' n' c' B' m' d' p'.x) (k' : RdR w t' C' i' e' D' j' f' p'.y) {s2 : Bool} {A2 : Option Addr} {n2 c2 : Nat} {B2 : Option Addr} {m2 d2 : Nat} {t2 : Bool} {C2 : Option Addr} {i2 e2 : Nat} {D2 : Option Addr} {j2 f2 : Nat} {p2 : PtD} (h2 : RdR w s2 A2 n2 c2 B2 m2 d2 p2.x) (k2 : RdR w t2 C2 i2 e2 D2 j2 f2 p2.y) :
    Calls Tryz.prog 109 #[.agg #[.bool s2, .slice A2 n2 c2, .slice B2 m2 d2, .bool t2, .slice C2 i2 e2, .slice D2 j2 f2], .pointer (some ⟨ga, 0, none⟩), .pointer (some ⟨gb, 0, none⟩)] w fun e w' => e = .returned (.bool (decide (0 < sgnR (dblA p p' p2)))) ∧ Bl w w' := by
  go_enter Tryz.func109, Tryz.ntmps109
  have ea := qa.alloc (.cells #[.bool s2, .slice A2 n2 c2, .slice B2 m2 d2, .bool t2, .slice C2 i2 e2, .slice D2 j2 f2] 59)
  have eb := qb.alloc (.cells #[.bool s2, .slice A2 n2 c2, .slice B2 m2 d2, .bool t2, .slice C2 i2 e2, .slice D2 j2 f2] 59)
  obtain ⟨i0, i1, i2, i3, i4, i5⟩ := bx6 ea
  obtain ⟨j0, j1, j2, j3, j4, j5⟩ := bx6 eb
  go_wp2_with fail
  refine (DoubleArea_any _ (h.bl slc) (k.bl slc) (h'.bl slc) (k'.bl slc) (h2.bl slc) (k2.bl slc)).mono ?_
  rintro e w1 ⟨s3, A3, n3, c3, B3, m3, d3, rfl, hR, hb1⟩
  go_wp2_with fail
  refine (RatSign_any _ hR.rd).mono ?_
  rintro e w2 ⟨rfl, hb2⟩
  go_wp2_with fail
  go_ret
  exact ⟨rfl, slc⟩
/-- No point of a list lies to the left of the line from a to b. -/
def NoPos (a b : PtD) (l : List PtD) : Prop := ∀ k, k < l.length → ¬ 0 < sgnR (dblA a b (pix l k))
def NoTo (a b : PtD) (l : List PtD) (k : Nat) : Prop := ∀ j, j < k → ¬ 0 < sgnR (dblA a b (pix l j))
theorem NoTo.zero (a b : PtD) (l : List PtD) : NoTo a b l 0 := fun j hj => by omega
theorem NoTo.step {a b : PtD} {l : List PtD} {k : Nat} (h : NoTo a b l k) (h0 : ¬ 0 < sgnR (dblA a b (pix l k))) : NoTo a b l (k + 1) := by
  intro j hj
  rcases Nat.lt_succ_iff_lt_or_eq.1 hj with hj | rfl
  · exact h j hj
  · exact h0
set_option maxRecDepth 100000 in
set_option maxHeartbeats 1000000 in
theorem IndexSep_any (w : World) {ga gb : Nat} {s : Bool} {A : Option Addr} {n c : Nat} {B : Option Addr} {m d : Nat} {t : Bool} {C : Option Addr} {i e : Nat} {D : Option Addr} {j f : Nat} {p : PtD} {s' : Bool} {A' : Option Addr} {n' c' : Nat} {B' : Option Addr} {m' d' : Nat} {t' : Bool} {C' : Option Addr} {i' e' : Nat} {D' : Option Addr} {j' f' : Nat} {p' : PtD} (qa : Blk w ga 59 #[.bool s, .slice A n c, .slice B m d, .bool t, .slice C i e, .slice D j f]) (qb : Blk w gb 59 #[.bool s', .slice A' n' c', .slice B' m' d', .bool t', .slice C' i' e', .slice D' j' f']) (h : RdR w s A n c B m d p.x) (k : RdR w t C i e D j f p.y) (h' : RdR w s' A' n' c' B' m' d' p'.x) (k' : RdR w t' C' i' e' D' j' f' p'.y) {A9 : Option Addr} {n9 c9 : Nat} {l : List PtD} (hl9 : RdPS w A9 n9 c9 l) :
    Calls Tryz.prog 156 #[.slice A9 n9 c9, .func (.func 109) #[] #[.pointer (some ⟨ga, 0, none⟩), .pointer (some ⟨gb, 0, none⟩)]] w (IdxPostB (NoPos p p' l) w) := by
  have hn := hl9.small
  have hl := Lib.hid hl9.len
  go_enter Tryz.func156, Tryz.ntmps156
  go_wp2_with fail
  go_loopw [8] (fun i wr => ∃ k : Nat, k ≤ n9 ∧ i = .int .i64 (k : Int) ∧ NoTo p p' l k ∧ Bl w wr) (fun i _ => n9 - (intOf i).toNat)
  case atStart => exact ⟨0, Nat.zero_le _, rfl, NoTo.zero _ _ _, Bl.refl _⟩
  case round =>
    obtain ⟨k9, hk, rfl, hin, hbw⟩ := hrel
    by_cases hkn : k9 < n9
    · have hki : (k9 : Int) < (n9 : Int) := by omega
      obtain ⟨ad, rfl, hlta, hca⟩ := (RdPS.bl hl9 hbw).cells k9 hkn
      obtain ⟨s2, A2, n2, c2, B2, m2, d2, t2, C2, i2, e2, D2, j2, f2, ⟨g0, g1, g2, g3, g4, g5⟩, hx, hy⟩ := hca
      by_cases ho : 0 < sgnR (dblA p p' (pix l k9))
      · have hno : ¬ NoPos p p' l := fun ha => ha k9 (by rw [hl.out]; exact hkn) ho
        have hno := Lib.hid hno; rename_i h_; clear h_
        have ho := Lib.hid (decide_eq_true ho); rename_i h_; clear h_
        clear hin
        go_wp2_with fail
        refine (separatesF_any _ (qa.bl hbw) (qb.bl hbw) (h.bl hbw) (k.bl hbw) (h'.bl hbw) (k'.bl hbw) hx hy).mono ?_
        rw [ho.out]
        rintro e w1 ⟨rfl, hb1⟩
        have hb2 : Bl w w1 := slc
        clear hb1
        go_wp2_with fail
        go_ret
        exact ⟨_, rfl, fun ha => absurd ha hno.out, fun _ => by omega, hb2⟩
      · have hin' := hin.step ho
        have ho := Lib.hid (decide_eq_false ho); rename_i h_; clear h_
        clear hin
        go_wp2_with fail
        refine (separatesF_any _ (qa.bl hbw) (qb.bl hbw) (h.bl hbw) (k.bl hbw) (h'.bl hbw) (k'.bl hbw) hx hy).mono ?_
        rw [ho.out]
        rintro e w1 ⟨rfl, hb1⟩
        have hb2 : Bl w w1 := slc
        clear hb1
        go_wp2_with fail
        go_roundw
        case rel => exact ⟨k9 + 1, by omega, by go_num, hin', hb2⟩
        case measure => simp [intOf]; omega
    · have hall : NoPos p p' l := fun j hj => hin j (by rw [hl.out] at hj; omega)
      have hall := Lib.hid hall; rename_i h_; clear h_
      go_wp2_with fail
      go_ret
      exact ⟨_, rfl, fun _ => rfl, fun hno => absurd hall.out hno, hbw⟩
theorem ContainsSep_yes (w : World) {ga gb : Nat} {s : Bool} {A : Option Addr} {n c : Nat} {B : Option Addr} {m d : Nat} {t : Bool} {C : Option Addr} {i e : Nat} {D : Option Addr} {j f : Nat} {p : PtD} {s' : Bool} {A' : Option Addr} {n' c' : Nat} {B' : Option Addr} {m' d' : Nat} {t' : Bool} {C' : Option Addr} {i' e' : Nat} {D' : Option Addr} {j' f' : Nat} {p' : PtD} (qa : Blk w ga 59 #[.bool s, .slice A n c, .slice B m d, .bool t, .slice C i e, .slice D j f]) (qb : Blk w gb 59 #[.bool s', .slice A' n' c', .slice B' m' d', .bool t', .slice C' i' e', .slice D' j' f']) (h : RdR w s A n c B m d p.x) (k : RdR w t C i e D j f p.y) (h' : RdR w s' A' n' c' B' m' d' p'.x) (k' : RdR w t' C' i' e' D' j' f' p'.y) {A9 : Option Addr} {n9 c9 : Nat} {l : List PtD} (hl9 : RdPS w A9 n9 c9 l) (hp : NoPos p p' l) :
    Calls Tryz.prog 105 #[.slice A9 n9 c9, .func (.func 109) #[] #[.pointer (some ⟨ga, 0, none⟩), .pointer (some ⟨gb, 0, none⟩)]] w fun e w' => e = .returned (.bool false) ∧ Bl w w' := by
  have hp := Lib.hid hp; rename_i h_; clear h_
  go_enter Tryz.func105, Tryz.ntmps105
  go_wp2_with fail
  refine (IndexSep_any _ qa qb h k h' k' hl9).mono ?_
  rintro e w1 ⟨i9, rfl, h1, _, hb⟩
  have h1 := h1 hp.out
  subst h1
  go_wp2_with fail
  go_ret
  exact ⟨rfl, hb⟩
theorem ContainsSep_no (w : World) {ga gb : Nat} {s : Bool} {A : Option Addr} {n c : Nat} {B : Option Addr} {m d : Nat} {t : Bool} {C : Option Addr} {i e : Nat} {D : Option Addr} {j f : Nat} {p : PtD} {s' : Bool} {A' : Option Addr} {n' c' : Nat} {B' : Option Addr} {m' d' : Nat} {t' : Bool} {C' : Option Addr} {i' e' : Nat} {D' : Option Addr} {j' f' : Nat} {p' : PtD} (qa : Blk w ga 59 #[.bool s, .slice A n c, .slice B m d, .bool t, .slice C i e, .slice D j f]) (qb : Blk w gb 59 #[.bool s', .slice A' n' c', .slice B' m' d', .bool t', .slice C' i' e', .slice D' j' f']) (h : RdR w s A n c B m d p.x) (k : RdR w t C i e D j f p.y) (h' : RdR w s' A' n' c' B' m' d' p'.x) (k' : RdR w t' C' i' e' D' j' f' p'.y) {A9 : Option Addr} {n9 c9 : Nat} {l : List PtD} (hl9 : RdPS w A9 n9 c9 l) (hp : ¬ NoPos p p' l) :
    Calls Tryz.prog 105 #[.slice A9 n9 c9, .func (.func 109) #[] #[.pointer (some ⟨ga, 0, none⟩), .pointer (some ⟨gb, 0, none⟩)]] w fun e w' => e = .returned (.bool true) ∧ Bl w w' := by
  have hp := Lib.hid hp; rename_i h_; clear h_
  go_enter Tryz.func105, Tryz.ntmps105
  go_wp2_with fail
  refine (IndexSep_any _ qa qb h k h' k' hl9).mono ?_
  rintro e w1 ⟨i9, rfl, _, h1, hb⟩
  have h1 := h1 hp.out
  go_wp2_with fail
  go_ret
  exact ⟨rfl, hb⟩

end Go.Proofs.YthgielbhcjpikaaGreat
