import Derived.Test.YtebfacejgphmhaaRows
import Derived.Test.YtebfacejgphmhaaEq
namespace Go.Proofs.Ytebfacejgphmhaa
open Go.RowKit

def eqR (a b : RatD) : Bool := a.neg == b.neg && eqL a.mag b.mag && eqL a.den b.den
theorem eqR_den {r r' : RatD} {s s' : Bool} (h : s = r.neg) (h' : s' = r'.neg) (e0 : (s == s') = true) (e1 : eqL r.mag r'.mag = true) : eqR r r' = eqL r.den r'.den := by
  unfold eqR; rw [← h, ← h', e0, e1]; rfl
theorem eqR_mag {r r' : RatD} (e1 : eqL r.mag r'.mag = false) : eqR r r' = false := by
  unfold eqR; rw [e1]; simp
theorem eqR_neg {r r' : RatD} {s s' : Bool} (h : s = r.neg) (h' : s' = r'.neg) (e0 : (s == s') = false) : eqR r r' = false := by
  unfold eqR; rw [← h, ← h', e0]; rfl
def eqP (a b : PtD) : Bool := eqR a.x b.x && eqR a.y b.y
theorem eqP_y {p q : PtD} (e0 : eqR p.x q.x = true) : eqP p q = eqR p.y q.y := by unfold eqP; rw [e0]; rfl
theorem eqP_x {p q : PtD} (e0 : eqR p.x q.x = false) : eqP p q = false := by unfold eqP; rw [e0]; rfl

set_option maxHeartbeats 400000 in
theorem RatEqual_any (w : World) {A B A' B' : Option Addr} {n m n' m' c d c' d' : Nat} {s s' : Bool} {r r' : RatD} (h : RdR w s A n c B m d r) (h' : RdR w s' A' n' c' B' m' d' r') :
    Calls Try.prog 96 #[.agg #[.bool s, .slice A n c, .slice B m d], .agg #[.bool s', .slice A' n' c', .slice B' m' d']] w fun e w' => e = .returned (.bool (eqR r r')) ∧ Bl w w' := by
  by_cases e0 : (s == s') = true
  · by_cases e1 : eqL r.mag r'.mag = true
    · have hs := Lib.hid (eqR_den h.neg h'.neg e0 e1)
      go_enter Try.func96, Try.ntmps96
      go_wp2_with fail
      refine (Equal_int _ ((h.mag.alloc _).alloc _) ((h'.mag.alloc _).alloc _)).mono ?_
      rintro e w' ⟨rfl, q, rfl⟩
      go_wp2_with fail
      refine (Equal_int _ (((h.den.alloc _).alloc _).drewN _) (((h'.den.alloc _).alloc _).drewN _)).mono ?_
      rintro e w' ⟨rfl, q', rfl⟩
      go_wp2_with fail
      go_ret
      exact ⟨ret_bool hs.out.symm, (by repeat (first | with_reducible assumption | with_reducible exact Bl.refl _ | (with_reducible refine Bl.set ?_ (by simp <;> omega) _) | (with_reducible refine Bl.drewN ?_ _) | (with_reducible refine Bl.drew ?_) | (with_reducible refine Bl.alloc ?_ _) | (with_reducible refine Bl.next ?_ ‹_›)))⟩
    · have e1 : eqL r.mag r'.mag = false := by simpa using e1
      have hs := Lib.hid (eqR_mag e1)
      go_enter Try.func96, Try.ntmps96
      go_wp2_with fail
      refine (Equal_int _ ((h.mag.alloc _).alloc _) ((h'.mag.alloc _).alloc _)).mono ?_
      rintro e w' ⟨rfl, q, rfl⟩
      go_wp2_with fail
      go_ret
      exact ⟨ret_bool hs.out.symm, (by repeat (first | with_reducible assumption | with_reducible exact Bl.refl _ | (with_reducible refine Bl.set ?_ (by simp <;> omega) _) | (with_reducible refine Bl.drewN ?_ _) | (with_reducible refine Bl.drew ?_) | (with_reducible refine Bl.alloc ?_ _) | (with_reducible refine Bl.next ?_ ‹_›)))⟩
  · have e0 : (s == s') = false := by simpa using e0
    have hs := Lib.hid (eqR_neg h.neg h'.neg e0)
    go_enter Try.func96, Try.ntmps96
    go_wp2_with fail
    go_ret
    exact ⟨ret_bool hs.out.symm, (by repeat (first | with_reducible assumption | with_reducible exact Bl.refl _ | (with_reducible refine Bl.set ?_ (by simp <;> omega) _) | (with_reducible refine Bl.drewN ?_ _) | (with_reducible refine Bl.drew ?_) | (with_reducible refine Bl.alloc ?_ _) | (with_reducible refine Bl.next ?_ ‹_›)))⟩

set_option maxHeartbeats 400000 in
theorem sRatEqual_any (w : World) {A B A' B' : Option Addr} {n m n' m' c d c' d' : Nat} {s s' : Bool} {r r' : RatD} (h : RdR w s A n c B m d r) (h' : RdR w s' A' n' c' B' m' d' r') :
    Calls Try.prog 91 #[.agg #[.bool s, .slice A n c, .slice B m d], .agg #[.bool s', .slice A' n' c', .slice B' m' d']] w fun e w' => e = .returned (.bool (eqR r r')) ∧ Bl w w' := by
  by_cases e0 : (s == s') = true
  · by_cases e1 : eqL r.mag r'.mag = true
    · have hs := Lib.hid (eqR_den h.neg h'.neg e0 e1)
      go_enter Try.func91, Try.ntmps91
      go_wp2_with fail
      refine (l04List_any _ ((h.mag.alloc _).alloc _) ((h'.mag.alloc _).alloc _)).mono ?_
      rintro e w' ⟨rfl, q, rfl⟩
      go_wp2_with fail
      refine (l04List_any _ (((h.den.alloc _).alloc _).drewN _) (((h'.den.alloc _).alloc _).drewN _)).mono ?_
      rintro e w' ⟨rfl, q', rfl⟩
      go_wp2_with fail
      go_ret
      exact ⟨ret_bool hs.out.symm, (by repeat (first | with_reducible assumption | with_reducible exact Bl.refl _ | (with_reducible refine Bl.set ?_ (by simp <;> omega) _) | (with_reducible refine Bl.drewN ?_ _) | (with_reducible refine Bl.drew ?_) | (with_reducible refine Bl.alloc ?_ _) | (with_reducible refine Bl.next ?_ ‹_›)))⟩
    · have e1 : eqL r.mag r'.mag = false := by simpa using e1
      have hs := Lib.hid (eqR_mag e1)
      go_enter Try.func91, Try.ntmps91
      go_wp2_with fail
      refine (l04List_any _ ((h.mag.alloc _).alloc _) ((h'.mag.alloc _).alloc _)).mono ?_
      rintro e w' ⟨rfl, q, rfl⟩
      go_wp2_with fail
      go_ret
      exact ⟨ret_bool hs.out.symm, (by repeat (first | with_reducible assumption | with_reducible exact Bl.refl _ | (with_reducible refine Bl.set ?_ (by simp <;> omega) _) | (with_reducible refine Bl.drewN ?_ _) | (with_reducible refine Bl.drew ?_) | (with_reducible refine Bl.alloc ?_ _) | (with_reducible refine Bl.next ?_ ‹_›)))⟩
  · have e0 : (s == s') = false := by simpa using e0
    have hs := Lib.hid (eqR_neg h.neg h'.neg e0)
    go_enter Try.func91, Try.ntmps91
    go_wp2_with fail
    go_ret
    exact ⟨ret_bool hs.out.symm, (by repeat (first | with_reducible assumption | with_reducible exact Bl.refl _ | (with_reducible refine Bl.set ?_ (by simp <;> omega) _) | (with_reducible refine Bl.drewN ?_ _) | (with_reducible refine Bl.drew ?_) | (with_reducible refine Bl.alloc ?_ _) | (with_reducible refine Bl.next ?_ ‹_›)))⟩

set_option maxHeartbeats 400000 in
theorem SamePoint_any (w : World) {A B A' B' : Option Addr} {n m n' m' c d c' d' : Nat} {s s' : Bool} {C D C' D' : Option Addr} {i j i' j' e f e' f' : Nat} {t t' : Bool} {p q : PtD}
    (h : RdR w s A n c B m d p.x) (k : RdR w t C i e D j f p.y) (h' : RdR w s' A' n' c' B' m' d' q.x) (k' : RdR w t' C' i' e' D' j' f' q.y) :
    Calls Try.prog 93 #[.agg #[.bool s, .slice A n c, .slice B m d, .bool t, .slice C i e, .slice D j f], .agg #[.bool s', .slice A' n' c', .slice B' m' d', .bool t', .slice C' i' e', .slice D' j' f']] w fun e w' => e = .returned (.bool (eqP p q)) ∧ Bl w w' := by
  by_cases e0 : eqR p.x q.x = true
  · have hs := Lib.hid (eqP_y e0)
    go_enter Try.func93, Try.ntmps93
    go_wp2_with fail
    refine (RatEqual_any _ ((h.alloc _).alloc _) ((h'.alloc _).alloc _)).mono ?_
    rintro e w1 ⟨rfl, hb⟩
    obtain ⟨hc, hf⟩ := bcell hb
    have hb1 : Bl w w1 := (by repeat (first | with_reducible assumption | with_reducible exact Bl.refl _ | (with_reducible refine Bl.set ?_ (by simp <;> omega) _) | (with_reducible refine Bl.drewN ?_ _) | (with_reducible refine Bl.drew ?_) | (with_reducible refine Bl.alloc ?_ _) | (with_reducible refine Bl.next ?_ ‹_›)))
    go_wp2_with fail
    refine (RatEqual_any _ (k.bl hb1) (k'.bl hb1)).mono ?_
    rintro e w2 ⟨rfl, hb2⟩
    go_wp2_with fail
    go_ret
    exact ⟨ret_bool hs.out.symm, (by repeat (first | with_reducible assumption | with_reducible exact Bl.refl _ | (with_reducible refine Bl.set ?_ (by simp <;> omega) _) | (with_reducible refine Bl.drewN ?_ _) | (with_reducible refine Bl.drew ?_) | (with_reducible refine Bl.alloc ?_ _) | (with_reducible refine Bl.next ?_ ‹_›)))⟩
  · have e0 : eqR p.x q.x = false := by simpa using e0
    have hs := Lib.hid (eqP_x e0)
    go_enter Try.func93, Try.ntmps93
    go_wp2_with fail
    refine (RatEqual_any _ ((h.alloc _).alloc _) ((h'.alloc _).alloc _)).mono ?_
    rintro e w1 ⟨rfl, hb⟩
    go_wp2_with fail
    go_ret
    exact ⟨ret_bool hs.out.symm, (by repeat (first | with_reducible assumption | with_reducible exact Bl.refl _ | (with_reducible refine Bl.set ?_ (by simp <;> omega) _) | (with_reducible refine Bl.drewN ?_ _) | (with_reducible refine Bl.drew ?_) | (with_reducible refine Bl.alloc ?_ _) | (with_reducible refine Bl.next ?_ ‹_›)))⟩

set_option maxHeartbeats 400000 in
theorem sSamePoint_any (w : World) {A B A' B' : Option Addr} {n m n' m' c d c' d' : Nat} {s s' : Bool} {C D C' D' : Option Addr} {i j i' j' e f e' f' : Nat} {t t' : Bool} {p q : PtD}
    (h : RdR w s A n c B m d p.x) (k : RdR w t C i e D j f p.y) (h' : RdR w s' A' n' c' B' m' d' q.x) (k' : RdR w t' C' i' e' D' j' f' q.y) :
    Calls Try.prog 90 #[.agg #[.bool s, .slice A n c, .slice B m d, .bool t, .slice C i e, .slice D j f], .agg #[.bool s', .slice A' n' c', .slice B' m' d', .bool t', .slice C' i' e', .slice D' j' f']] w fun e w' => e = .returned (.bool (eqP p q)) ∧ Bl w w' := by
  by_cases e0 : eqR p.x q.x = true
  · have hs := Lib.hid (eqP_y e0)
    go_enter Try.func90, Try.ntmps90
    go_wp2_with fail
    refine (sRatEqual_any _ ((h.alloc _).alloc _) ((h'.alloc _).alloc _)).mono ?_
    rintro e w1 ⟨rfl, hb⟩
    obtain ⟨hc, hf⟩ := bcell hb
    have hb1 : Bl w w1 := (by repeat (first | with_reducible assumption | with_reducible exact Bl.refl _ | (with_reducible refine Bl.set ?_ (by simp <;> omega) _) | (with_reducible refine Bl.drewN ?_ _) | (with_reducible refine Bl.drew ?_) | (with_reducible refine Bl.alloc ?_ _) | (with_reducible refine Bl.next ?_ ‹_›)))
    go_wp2_with fail
    refine (sRatEqual_any _ (k.bl hb1) (k'.bl hb1)).mono ?_
    rintro e w2 ⟨rfl, hb2⟩
    go_wp2_with fail
    go_ret
    exact ⟨ret_bool hs.out.symm, (by repeat (first | with_reducible assumption | with_reducible exact Bl.refl _ | (with_reducible refine Bl.set ?_ (by simp <;> omega) _) | (with_reducible refine Bl.drewN ?_ _) | (with_reducible refine Bl.drew ?_) | (with_reducible refine Bl.alloc ?_ _) | (with_reducible refine Bl.next ?_ ‹_›)))⟩
  · have e0 : eqR p.x q.x = false := by simpa using e0
    have hs := Lib.hid (eqP_x e0)
    go_enter Try.func90, Try.ntmps90
    go_wp2_with fail
    refine (sRatEqual_any _ ((h.alloc _).alloc _) ((h'.alloc _).alloc _)).mono ?_
    rintro e w1 ⟨rfl, hb⟩
    go_wp2_with fail
    go_ret
    exact ⟨ret_bool hs.out.symm, (by repeat (first | with_reducible assumption | with_reducible exact Bl.refl _ | (with_reducible refine Bl.set ?_ (by simp <;> omega) _) | (with_reducible refine Bl.drewN ?_ _) | (with_reducible refine Bl.drew ?_) | (with_reducible refine Bl.alloc ?_ _) | (with_reducible refine Bl.next ?_ ‹_›)))⟩

theorem eqR_iff {a b : RatD} : eqR a b = true ↔ a = b := by
  cases a; cases b
  simp [eqR, eqL, and_assoc]
theorem eqP_iff {a b : PtD} : eqP a b = true ↔ a = b := by
  cases a; cases b
  simp [eqP, eqR_iff]
theorem eqP_no {a b : PtD} (h : ¬ a = b) : eqP a b = false := by
  rw [← Bool.not_eq_true, eqP_iff]; exact h

def Same {α : Type} [DecidableEq α] (a b : α) : Bool := decide (a = b)
theorem same_yes {α : Type} [DecidableEq α] {a b : α} (h : a = b) : Same a b = true := decide_eq_true h
theorem same_no {α : Type} [DecidableEq α] {a b : α} (h : ¬ a = b) : Same a b = false := decide_eq_false h
/-- The first k elements agree. -/
def Agree {α : Type} [Inhabited α] (l l' : List α) (k : Nat) : Prop := ∀ i, i < k → pix l i = pix l' i
theorem Agree.zero {α : Type} [Inhabited α] (l l' : List α) : Agree l l' 0 := fun i hi => by omega
theorem Agree.step {α : Type} [Inhabited α] {l l' : List α} {k : Nat} (h : Agree l l' k) (e : pix l k = pix l' k) : Agree l l' (k + 1) := by
  intro i hi
  rcases Nat.lt_succ_iff_lt_or_eq.1 hi with hi | rfl
  · exact h i hi
  · exact e
theorem Agree.all {α : Type} [Inhabited α] {l l' : List α} {n : Nat} (h : Agree l l' n) (hl : l.length = n) (hl' : l'.length = n) : l = l' := list_eq_of_pix hl hl' h

set_option maxHeartbeats 1000000 in
theorem EqualFunc_any (w : World) {A B : Option Addr} {n m c d : Nat} {l l' : List PtD} (ha : RdPS w A n c l) (hb : RdPS w B m d l') :
    Calls Try.prog 92 #[.slice A n c, .slice B m d, .func (.func 93) #[] #[]] w fun e w' => e = .returned (.bool (Same l l')) ∧ Bl w w' := by
  have hna := ha.small
  have hnb := hb.small
  by_cases hnm : n = m
  · subst hnm
    have hl := Lib.hid ha.len
    have hl' := Lib.hid hb.len
    go_enter Try.func92, Try.ntmps92
    go_wp2
    go_loopw [17] (fun i wr => ∃ k : Nat, k ≤ n ∧ i = .int .i64 (k : Int) ∧ Agree l l' k ∧ Bl w wr) (fun i _ => n - (intOf i).toNat)
    case atStart => exact ⟨0, Nat.zero_le _, rfl, Agree.zero _ _, Bl.refl _⟩
    case round =>
      obtain ⟨k, hk, rfl, hag, hbw⟩ := hrel
      by_cases hkn : k < n
      · obtain ⟨ad, rfl, hlta, hca⟩ := (ha.bl hbw).cells k hkn
        obtain ⟨bd, rfl, hltb, hcb⟩ := (hb.bl hbw).cells k hkn
        obtain ⟨s, A, n', c', B, m, d', t, C, i, e, D, j, f, ⟨g0, g1, g2, g3, g4, g5⟩, hx, hy⟩ := hca
        have hcb1 := hcb.bl (by rw [block_add]; exact hltb) ((by repeat (first | with_reducible assumption | with_reducible exact Bl.refl _ | (with_reducible refine Bl.set ?_ (by simp <;> omega) _) | (with_reducible refine Bl.drewN ?_ _) | (with_reducible refine Bl.drew ?_) | (with_reducible refine Bl.alloc ?_ _) | (with_reducible refine Bl.next ?_ ‹_›))) : Bl wr (wr.alloc (.cells #[.bool s, .slice A n' c', .slice B m d', .bool t, .slice C i e, .slice D j f] 75)))
        obtain ⟨s', A', n'', c'', B', m', d'', t', C', i', e', D', j', f', ⟨p0, p1, p2, p3, p4, p5⟩, hx', hy'⟩ := hcb1
        have hki : (k : Int) < (n : Int) := by omega
        by_cases heq : pix l k = pix l' k
        · have heq' := Lib.hid heq
          have hans := eqP_iff.2 heq
          clear heq
          go_wp2_with fail
          refine (SamePoint_any _ ((hx.alloc _).alloc _) ((hy.alloc _).alloc _) (hx'.alloc _) (hy'.alloc _)).mono ?_
          rintro e w1 ⟨rfl, hb1⟩
          have hb2 : Bl w w1 := (by repeat (first | with_reducible assumption | with_reducible exact Bl.refl _ | (with_reducible refine Bl.set ?_ (by simp <;> omega) _) | (with_reducible refine Bl.drewN ?_ _) | (with_reducible refine Bl.drew ?_) | (with_reducible refine Bl.alloc ?_ _) | (with_reducible refine Bl.next ?_ ‹_›)))
          clear hb1
          go_wp2_with fail
          go_roundw
          case rel => exact ⟨k + 1, by omega, by go_num, hag.step heq'.out, hb2⟩
          case measure => simp [intOf]; omega
        · have hs := Lib.hid (same_no (a := l) (b := l') (fun e => heq (by rw [e])))
          have hans := eqP_no heq
          clear heq
          go_wp2_with fail
          refine (SamePoint_any _ ((hx.alloc _).alloc _) ((hy.alloc _).alloc _) (hx'.alloc _) (hy'.alloc _)).mono ?_
          rintro e w1 ⟨rfl, hb1⟩
          have hb2 : Bl w w1 := (by repeat (first | with_reducible assumption | with_reducible exact Bl.refl _ | (with_reducible refine Bl.set ?_ (by simp <;> omega) _) | (with_reducible refine Bl.drewN ?_ _) | (with_reducible refine Bl.drew ?_) | (with_reducible refine Bl.alloc ?_ _) | (with_reducible refine Bl.next ?_ ‹_›)))
          clear hb1
          go_wp2_with fail
          go_ret
          exact ⟨ret_bool hs.out.symm, hb2⟩
      · have hs := Lib.hid (same_yes ((by obtain rfl : k = n := by omega
                                          exact hag.all hl.out hl'.out) : l = l'))
        go_wp2_with fail
        go_ret
        exact ⟨ret_bool hs.out.symm, hbw⟩
  · have hs := Lib.hid (same_no (a := l) (b := l') (fun e => hnm (by rw [← ha.len, ← hb.len, e])))
    have hne : ((n : Int) != (m : Int)) = true := by simp; omega
    go_enter Try.func92, Try.ntmps92
    go_wp2
    go_ret
    exact ⟨ret_bool hs.out.symm, Bl.refl _⟩

end Go.Proofs.Ytebfacejgphmhaa
