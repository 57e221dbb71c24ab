/- Lemmas. -/
import Derived.Test.YtajlahjghapbkaaGreatRows
import Derived.Test.YtajlahjghapbkaaGreatPRefineM15
import Derived.Test.YtajlahjghapbkaaGreatPRefineM02
import Derived.Test.YtajlahjghapbkaaGreatPRefineM11
namespace Go.Proofs.YtajlahjghapbkaaGreat
section
open Go.RowKit

set_option maxRecDepth 100000 in
set_option maxHeartbeats 8000000 in
theorem Cross_any (w : World) {s : Bool} {A : Option Addr} {n c : Nat} {B : Option Addr} {m d : Nat} {t : Bool} {C : Option Addr} {i e : Nat} {D : Option Addr} {j f : Nat} {p : PtD} {s' : Bool} {A' : Option Addr} {n' c' : Nat} {B' : Option Addr} {m' d' : Nat} {t' : Bool} {C' : Option Addr} {i' e' : Nat} {D' : Option Addr} {j' f' : Nat} {p' : PtD} (h : RdR w s A n c B m d p.x) (k : RdR w t C i e D j f p.y) (h' : RdR w s' A' n' c' B' m' d' p'.x) (k' : RdR w t' C' i' e' D' j' f' p'.y) :
    Calls Tryz.prog 146 #[.agg #[.bool s, .slice A n c, .slice B m d, .bool t, .slice C i e, .slice D j f], .agg #[.bool s', .slice A' n' c', .slice B' m' d', .bool t', .slice C' i' e', .slice D' j' f']] w fun en w' => ∃ s1 A1 n1 c1 B1 m1 d1, en = .returned (.agg #[.bool s1, .slice A1 n1 c1, .slice B1 m1 d1]) ∧ OwR 3 w.heap.size w' s1 A1 n1 c1 B1 m1 d1 (crossP p p') ∧ Bl w w' := by
  go_enter Tryz.func146, Tryz.ntmps146
  go_wp2_with fail
  refine wp_gen (fun W => Bl w W ∧ Blk W (w.heap.size) 31 #[.bool s, .slice A n c, .slice B m d, .bool t, .slice C i e, .slice D j f] ∧ Blk W (w.heap.size + 1) 31 #[.bool s', .slice A' n' c', .slice B' m' d', .bool t', .slice C' i' e', .slice D' j' f'] ∧ Wk 3 29 (w.heap.size + 1 + 1) W) ⟨slc, bts, bts, bts⟩ ?_
  rintro W ⟨hbW, hx, hx', hr⟩
  go_region_held3 (fun w' => (w'.cell? ⟨w.heap.size, 0, none⟩ = some (.bool s) ∧ w'.cell? ⟨w.heap.size, 1, none⟩ = some (.slice A n c) ∧ w'.cell? ⟨w.heap.size, 2, none⟩ = some (.slice B m d) ∧ w'.cell? ⟨w.heap.size, 3, none⟩ = some (.bool t) ∧ w'.cell? ⟨w.heap.size, 4, none⟩ = some (.slice C i e) ∧ w'.cell? ⟨w.heap.size, 5, none⟩ = some (.slice D j f)) ∧ (w'.cell? ⟨w.heap.size + 1, 0, none⟩ = some (.bool s') ∧ w'.cell? ⟨w.heap.size + 1, 1, none⟩ = some (.slice A' n' c') ∧ w'.cell? ⟨w.heap.size + 1, 2, none⟩ = some (.slice B' m' d') ∧ w'.cell? ⟨w.heap.size + 1, 3, none⟩ = some (.bool t') ∧ w'.cell? ⟨w.heap.size + 1, 4, none⟩ = some (.slice C' i' e') ∧ w'.cell? ⟨w.heap.size + 1, 5, none⟩ = some (.slice D' j' f')) ∧ (w'.cell? ⟨w.heap.size + 1 + 1, 0, none⟩ = some (cellD w' (w.heap.size + 1 + 1) 0) ∧ w'.cell? ⟨w.heap.size + 1 + 1, 1, none⟩ = some (cellD w' (w.heap.size + 1 + 1) 1) ∧ w'.cell? ⟨w.heap.size + 1 + 1, 2, none⟩ = some (cellD w' (w.heap.size + 1 + 1) 2)) ∧ w'.frozen? ⟨w.heap.size + 1 + 1, 0, none⟩ = false ∧ w'.frozen? ⟨w.heap.size + 1 + 1, 1, none⟩ = false ∧ w'.frozen? ⟨w.heap.size + 1 + 1, 2, none⟩ = false) (first | exact ⟨bx6 (T := 31) bts, bx6 (T := 31) bts, Wk.out3 (T := 29) bts⟩) (first | (go_at_call 49; with_reducible refine (RatMul_any _ (h.bl slc) (k'.bl slc)).mono ?_; rintro en w2 ⟨s2, A2, n2, c2, B2, m2, d2, rfl, hR2, hb2⟩) | (go_at_call 49; with_reducible refine (RatMul_any _ (k.bl slc) (h'.bl slc)).mono ?_; rintro en w3 ⟨s3, A3, n3, c3, B3, m3, d3, rfl, hR3, hb3⟩) | (go_at_call 78; refine (RatSub_any _ (hR2.rd.bl hb3) hR3.rd).mono ?_; rintro en w4 ⟨s1, A1, n1, c1, B1, m1, d1, rfl, hR, hb4⟩))
  have hz : w.heap.size + 1 + 1 + 1 ≤ W.heap.size := hr.lt
  have hz2 : W.heap.size ≤ w2.heap.size := (Bl.size hb2 : W.drew.heap.size ≤ _)
  have hz3 : w2.heap.size ≤ w3.heap.size := Bl.size hb3
  have hr := (show Wk 3 29 (w.heap.size + 1 + 1) w4 from bts)
  have hbW : Bl w w4 := slc
  have hR := hR.mono (show w.heap.size + 1 + 1 + 1 ≤ w3.heap.size by omega)
  obtain ⟨v0, x0⟩ := hr.val_ (i := 0) (by omega)
  obtain ⟨v1, x1⟩ := hr.val_ (i := 1) (by omega)
  obtain ⟨v2, x2⟩ := hr.val_ (i := 2) (by omega)
  have hg := hr.lt
  obtain ⟨cs4, hB4, hc4⟩ := hr
  have hf0 := hB4.frozen 0
  have hf1 := hB4.frozen 1
  have hf2 := hB4.frozen 2
  go_wp2_with fail
  exact bodyPost_ret (v := .agg #[.bool s1, .slice A1 n1 c1, .slice B1 m1 d1]) (by simp [results, Tryz.results146, go_sem, x0, x1, x2]) rfl ⟨_, _, _, _, _, _, _, rfl, (((hR.far (by simp) _).far (by simp) _).far (by simp) _).mono (by omega), slc⟩


set_option maxRecDepth 100000 in
set_option maxHeartbeats 8000000 in
theorem DoubleArea_any (w : World) {s : Bool} {A : Option Addr} {n c : Nat} {B : Option Addr} {m d : Nat} {t : Bool} {C : Option Addr} {i e : Nat} {D : Option Addr} {j f : Nat} {p : PtD} {s' : Bool} {A' : Option Addr} {n' c' : Nat} {B' : Option Addr} {m' d' : Nat} {t' : Bool} {C' : Option Addr} {i' e' : Nat} {D' : Option Addr} {j' f' : Nat} {p' : PtD} {s2 : Bool} {A2 : Option Addr} {n2 c2 : Nat} {B2 : Option Addr} {m2 d2 : Nat} {t2 : Bool} {C2 : Option Addr} {i2 e2 : Nat} {D2 : Option Addr} {j2 f2 : Nat} {p2 : PtD} (h : RdR w s A n c B m d p.x) (k : RdR w t C i e D j f p.y) (h' : RdR w s' A' n' c' B' m' d' p'.x) (k' : RdR w t' C' i' e' D' j' f' p'.y) (h2 : RdR w s2 A2 n2 c2 B2 m2 d2 p2.x) (k2 : RdR w t2 C2 i2 e2 D2 j2 f2 p2.y) :
    Calls Tryz.prog 73 #[.agg #[.bool s, .slice A n c, .slice B m d, .bool t, .slice C i e, .slice D j f], .agg #[.bool s', .slice A' n' c', .slice B' m' d', .bool t', .slice C' i' e', .slice D' j' f'], .agg #[.bool s2, .slice A2 n2 c2, .slice B2 m2 d2, .bool t2, .slice C2 i2 e2, .slice D2 j2 f2]] w fun en w' => ∃ s1 A1 n1 c1 B1 m1 d1, en = .returned (.agg #[.bool s1, .slice A1 n1 c1, .slice B1 m1 d1]) ∧ OwR 3 w.heap.size w' s1 A1 n1 c1 B1 m1 d1 (dblA p p' p2) ∧ Bl w w' := by
  go_enter Tryz.func73, Tryz.ntmps73
  go_wp2_with fail
  refine wp_gen (fun W => Bl w W ∧ Blk W (w.heap.size) 31 #[.bool s, .slice A n c, .slice B m d, .bool t, .slice C i e, .slice D j f] ∧ Blk W (w.heap.size + 1) 31 #[.bool s', .slice A' n' c', .slice B' m' d', .bool t', .slice C' i' e', .slice D' j' f'] ∧ Blk W (w.heap.size + 1 + 1) 31 #[.bool s2, .slice A2 n2 c2, .slice B2 m2 d2, .bool t2, .slice C2 i2 e2, .slice D2 j2 f2] ∧ Wk 3 29 (w.heap.size + 1 + 1 + 1) W) ⟨slc, bts, bts, bts, bts⟩ ?_
  rintro W ⟨hbW, hx, hx', hx2, hr⟩
  go_region_held3 (fun w' => (w'.cell? ⟨w.heap.size, 0, none⟩ = some (.bool s) ∧ w'.cell? ⟨w.heap.size, 1, none⟩ = some (.slice A n c) ∧ w'.cell? ⟨w.heap.size, 2, none⟩ = some (.slice B m d) ∧ w'.cell? ⟨w.heap.size, 3, none⟩ = some (.bool t) ∧ w'.cell? ⟨w.heap.size, 4, none⟩ = some (.slice C i e) ∧ w'.cell? ⟨w.heap.size, 5, none⟩ = some (.slice D j f)) ∧ (w'.cell? ⟨w.heap.size + 1, 0, none⟩ = some (.bool s') ∧ w'.cell? ⟨w.heap.size + 1, 1, none⟩ = some (.slice A' n' c') ∧ w'.cell? ⟨w.heap.size + 1, 2, none⟩ = some (.slice B' m' d') ∧ w'.cell? ⟨w.heap.size + 1, 3, none⟩ = some (.bool t') ∧ w'.cell? ⟨w.heap.size + 1, 4, none⟩ = some (.slice C' i' e') ∧ w'.cell? ⟨w.heap.size + 1, 5, none⟩ = some (.slice D' j' f')) ∧ (w'.cell? ⟨w.heap.size + 1 + 1, 0, none⟩ = some (.bool s2) ∧ w'.cell? ⟨w.heap.size + 1 + 1, 1, none⟩ = some (.slice A2 n2 c2) ∧ w'.cell? ⟨w.heap.size + 1 + 1, 2, none⟩ = some (.slice B2 m2 d2) ∧ w'.cell? ⟨w.heap.size + 1 + 1, 3, none⟩ = some (.bool t2) ∧ w'.cell? ⟨w.heap.size + 1 + 1, 4, none⟩ = some (.slice C2 i2 e2) ∧ w'.cell? ⟨w.heap.size + 1 + 1, 5, none⟩ = some (.slice D2 j2 f2)) ∧ (w'.cell? ⟨w.heap.size + 1 + 1 + 1, 0, none⟩ = some (cellD w' (w.heap.size + 1 + 1 + 1) 0) ∧ w'.cell? ⟨w.heap.size + 1 + 1 + 1, 1, none⟩ = some (cellD w' (w.heap.size + 1 + 1 + 1) 1) ∧ w'.cell? ⟨w.heap.size + 1 + 1 + 1, 2, none⟩ = some (cellD w' (w.heap.size + 1 + 1 + 1) 2)) ∧ w'.frozen? ⟨w.heap.size + 1 + 1 + 1, 0, none⟩ = false ∧ w'.frozen? ⟨w.heap.size + 1 + 1 + 1, 1, none⟩ = false ∧ w'.frozen? ⟨w.heap.size + 1 + 1 + 1, 2, none⟩ = false) (first | exact ⟨bx6 (T := 31) bts, bx6 (T := 31) bts, bx6 (T := 31) bts, Wk.out3 (T := 29) bts⟩) (first | (go_at_call 147; with_reducible refine (SubtractPoints_any _ (h'.bl slc) (k'.bl slc) (h.bl slc) (k.bl slc)).mono ?_; rintro en w2 ⟨s3, A3, n3, c3, B3, m3, d3, t3, C3, i3, e3, D3, j3, f3, rfl, hP2, hb2⟩) | (go_at_call 147; with_reducible refine (SubtractPoints_any _ (h2.bl slc) (k2.bl slc) (h.bl slc) (k.bl slc)).mono ?_; rintro en w3 ⟨s4, A4, n4, c4, B4, m4, d4, t4, C4, i4, e4, D4, j4, f4, rfl, hP3, hb3⟩) | (go_at_call 146; refine (Cross_any _ (hP2.rx.bl hb3) (hP2.ry.bl hb3) hP3.rx hP3.ry).mono ?_; rintro en w4 ⟨s1, A1, n1, c1, B1, m1, d1, rfl, hR, hb4⟩))
  have hz : w.heap.size + 1 + 1 + 1 + 1 ≤ W.heap.size := hr.lt
  have hz2 : W.heap.size ≤ w2.heap.size := (Bl.size hb2 : W.drew.heap.size ≤ _)
  have hz3 : w2.heap.size ≤ w3.heap.size := Bl.size hb3
  have hr := (show Wk 3 29 (w.heap.size + 1 + 1 + 1) w4 from bts)
  have hbW : Bl w w4 := slc
  have hR := hR.mono (show w.heap.size + 1 + 1 + 1 + 1 ≤ w3.heap.size by omega)
  obtain ⟨v0, x0⟩ := hr.val_ (i := 0) (by omega)
  obtain ⟨v1, x1⟩ := hr.val_ (i := 1) (by omega)
  obtain ⟨v2, x2⟩ := hr.val_ (i := 2) (by omega)
  have hg := hr.lt
  obtain ⟨cs4, hB4, hc4⟩ := hr
  have hf0 := hB4.frozen 0
  have hf1 := hB4.frozen 1
  have hf2 := hB4.frozen 2
  go_wp2_with fail
  exact bodyPost_ret (v := .agg #[.bool s1, .slice A1 n1 c1, .slice B1 m1 d1]) (by simp [results, Tryz.results73, go_sem, x0, x1, x2]) rfl ⟨_, _, _, _, _, _, _, rfl, (((hR.far (by simp) _).far (by simp) _).far (by simp) _).mono (by omega), slc⟩


set_option maxRecDepth 100000 in
theorem IsValidPoint_yes (w : World) {s : Bool} {A : Option Addr} {n c : Nat} {B : Option Addr} {m d : Nat} {t : Bool} {C : Option Addr} {i e : Nat} {D : Option Addr} {j f : Nat} {p : PtD} (h : RdR w s A n c B m d p.x) (k : RdR w t C i e D j f p.y) (ho : OkP p) :
    Calls Tryz.prog 72 #[.agg #[.bool s, .slice A n c, .slice B m d, .bool t, .slice C i e, .slice D j f]] w fun en w' => en = .returned (.bool true) ∧ Bl w w' := by
  have hall := Lib.hid (allOk_two.2 ho)
  clear ho
  go_enter Tryz.func72, Tryz.ntmps72
  go_wp2_with fail
  refine (areRats_yes _ (RdRS.two (Blk.new1 _ _ _ _) (h.bl slc) (k.bl slc)) hall.out).mono ?_
  rintro e w1 ⟨rfl, hb1⟩
  go_wp2_with fail
  go_ret
  exact ⟨rfl, slc⟩
def PTo (l : List PtD) (k : Nat) : Prop := ∀ j, j < k → OkP (pix l j)
theorem PTo.zero (l : List PtD) : PTo l 0 := fun j hj => by omega
theorem PTo.step {l : List PtD} {k : Nat} (h : PTo l k) (h0 : OkP (pix l k)) : PTo l (k + 1) := by
  intro j hj
  rcases Nat.lt_succ_iff_lt_or_eq.1 hj with hj | rfl
  · exact h j hj
  · exact h0
end

section
open Go.RowKit

/-- Two lists are equal up to place k. -/
def eqTo (a b : List Int) : Nat → Bool
  | 0 => true
  | k + 1 => eqTo a b k && (ix a k == ix b k)
def eqL (a b : List Int) : Bool := a == b

theorem eqTo_step {xs ys : List Int} {k : Nat} (h : eqTo xs ys k = true) (he : ix xs k = ix ys k) : eqTo xs ys (k + 1) = true := by simp [eqTo, h, he]
theorem eqTo_iff {xs ys : List Int} {k : Nat} : eqTo xs ys k = true ↔ ∀ i, i < k → ix xs i = ix ys i := by
  induction k with
  | zero => simp [eqTo]
  | succ k ih =>
    simp only [eqTo, Bool.and_eq_true, ih, beq_iff_eq]
    constructor
    · rintro ⟨h1, h2⟩ i hi
      rcases Nat.lt_succ_iff_lt_or_eq.1 hi with h | rfl
      · exact h1 i h
      · exact h2
    · intro h
      exact ⟨fun i hi => h i (by omega), h k (by omega)⟩
theorem eqL_same {xs ys : List Int} (h : xs.length = ys.length) : eqL xs ys = eqTo xs ys xs.length := by
  rw [Bool.eq_iff_iff, eqTo_iff]
  unfold eqL
  rw [beq_iff_eq]
  constructor
  · rintro rfl i _; rfl
  · intro hh
    apply List.ext_getElem h
    intro i h1 h2
    have := hh i h1
    simpa [ix, h1, h2] using this
theorem eqL_no {xs ys : List Int} {k : Nat} (_h : xs.length = ys.length) (_hk : k < xs.length) (he : ¬ ix xs k = ix ys k) : eqL xs ys = false := by
  unfold eqL
  rw [beq_eq_false_iff_ne]
  rintro rfl
  exact he rfl
theorem eqL_len {xs ys : List Int} (h : ¬ xs.length = ys.length) : eqL xs ys = false := by
  unfold eqL
  rw [beq_eq_false_iff_ne]
  rintro rfl
  exact h rfl

set_option maxHeartbeats 1600000 in
theorem Equal_int (w : World) {A B : Option Addr} {n m c d : Nat} {xs ys : List Int} (ha : RdI w A n c xs) (hb : RdI w B m d ys) :
    Calls Tryz.prog 81 #[.slice A n c, .slice B m d] w fun e w' => e = .returned (.bool (eqL xs ys)) ∧ ∃ q, w' = w.drewN q := by
  have hna := ha.small
  have hnb := hb.small
  by_cases hnm : n = m
  · subst hnm
    have heq := Lib.hid (eqL_same (ha.len.trans hb.len.symm)); rw [ha.len] at heq
    go_enter Tryz.func81, Tryz.ntmps81
    go_wp2
    go_loopw [13] (fun i wr => ∃ k : Nat, k ≤ n ∧ i = .int .i64 (k : Int) ∧ Hid (eqTo xs ys k = true) ∧ ∃ q, wr = w.drewN q) (fun i _ => n - (intOf i).toNat)
    case atStart => exact ⟨0, Nat.zero_le _, rfl, rfl, (by first | exact ⟨_, rfl⟩ | exact ⟨0, rfl⟩ | exact q_drewN ⟨_, rfl⟩ | exact q_drewN (q_drewN ⟨_, rfl⟩))⟩
    case round =>
      obtain ⟨k, hk, rfl, hto, q, rfl⟩ := hrel
      by_cases hkn : k < n
      · obtain ⟨ad, rfl, hlta, hca⟩ := ha.at_ hkn
        obtain ⟨bd, rfl, hltb, hcb⟩ := hb.at_ hkn
        have hki : (k : Int) < (n : Int) := by omega
        by_cases he : ix xs k = ix ys k
        · have hs := Lib.hid (eqTo_step hto.out he); clear hto
          have hbeq : (ix xs k != ix ys k) = false := by simp [he]
          clear he
          go_wp2
          go_quiet (fail)
          go_wp2
          go_roundw
          case rel => exact ⟨k + 1, by omega, by go_num, hs, (by first | exact ⟨_, rfl⟩ | exact ⟨0, rfl⟩ | exact q_drewN ⟨_, rfl⟩ | exact q_drewN (q_drewN ⟨_, rfl⟩))⟩
          case measure => simp [intOf]; omega
        · have hs := Lib.hid (eqL_no (by rw [ha.len, hb.len]) (by rw [ha.len]; exact hkn) he); clear hto heq
          have hbeq : (ix xs k != ix ys k) = true := by simp [he]
          clear he
          go_wp2
          go_quiet (fail)
          go_wp2
          go_ret
          exact ⟨ret_bool hs.out.symm, (by first | exact ⟨_, rfl⟩ | exact ⟨0, rfl⟩ | exact q_drewN ⟨_, rfl⟩ | exact q_drewN (q_drewN ⟨_, rfl⟩))⟩
      · have hkk : k = n := by omega
        have hs := Lib.hid (heq.out.trans (hkk ▸ hto.out)); clear hto heq hkk
        go_wp2
        go_ret
        exact ⟨ret_bool hs.out.symm, (by first | exact ⟨_, rfl⟩ | exact ⟨0, rfl⟩ | exact q_drewN ⟨_, rfl⟩ | exact q_drewN (q_drewN ⟨_, rfl⟩))⟩
  · have hs := Lib.hid (eqL_len (xs := xs) (ys := ys) (by rw [ha.len, hb.len]; exact hnm))
    have hne : ((n : Int) != (m : Int)) = true := by simp; omega
    go_enter Tryz.func81, Tryz.ntmps81
    go_wp2
    go_ret
    exact ⟨ret_bool hs.out.symm, (by first | exact ⟨_, rfl⟩ | exact ⟨0, rfl⟩ | exact q_drewN ⟨_, rfl⟩ | exact q_drewN (q_drewN ⟨_, rfl⟩))⟩
end

section
open Go.RowKit

def eqR (a b : RatD) : Bool := a.neg == b.neg && eqL a.mag b.mag && eqL a.den b.den
theorem eqR_den {r r' : RatD} {s s' : Bool} (h : s = r.neg) (h' : s' = r'.neg) (e0 : (s == s') = true) (e1 : eqL r.mag r'.mag = true) : eqR r r' = eqL r.den r'.den := by
  unfold eqR; rw [← h, ← h', e0, e1]; rfl
theorem eqR_mag {r r' : RatD} (e1 : eqL r.mag r'.mag = false) : eqR r r' = false := by
  unfold eqR; rw [e1]; simp
theorem eqR_neg {r r' : RatD} {s s' : Bool} (h : s = r.neg) (h' : s' = r'.neg) (e0 : (s == s') = false) : eqR r r' = false := by
  unfold eqR; rw [← h, ← h', e0]; rfl
def eqP (a b : PtD) : Bool := eqR a.x b.x && eqR a.y b.y
theorem eqP_y {p q : PtD} (e0 : eqR p.x q.x = true) : eqP p q = eqR p.y q.y := by unfold eqP; rw [e0]; rfl
theorem eqP_x {p q : PtD} (e0 : eqR p.x q.x = false) : eqP p q = false := by unfold eqP; rw [e0]; rfl

set_option maxHeartbeats 1600000 in
theorem RatEqual_any (w : World) {A B A' B' : Option Addr} {n m n' m' c d c' d' : Nat} {s s' : Bool} {r r' : RatD} (h : RdR w s A n c B m d r) (h' : RdR w s' A' n' c' B' m' d' r') :
    Calls Tryz.prog 21 #[.agg #[.bool s, .slice A n c, .slice B m d], .agg #[.bool s', .slice A' n' c', .slice B' m' d']] w fun e w' => e = .returned (.bool (eqR r r')) ∧ Bl w w' := by
  by_cases e0 : (s == s') = true
  · by_cases e1 : eqL r.mag r'.mag = true
    · have hs := Lib.hid (eqR_den h.neg h'.neg e0 e1)
      go_enter Tryz.func21, Tryz.ntmps21
      go_wp2_with fail
      refine (Equal_int _ ((h.mag.alloc _).alloc _) ((h'.mag.alloc _).alloc _)).mono ?_
      rintro e w' ⟨rfl, q, rfl⟩
      go_wp2_with fail
      refine (Equal_int _ (((h.den.alloc _).alloc _).drewN _) (((h'.den.alloc _).alloc _).drewN _)).mono ?_
      rintro e w' ⟨rfl, q', rfl⟩
      go_wp2_with fail
      go_ret
      exact ⟨ret_bool hs.out.symm, slc⟩
    · have e1 : eqL r.mag r'.mag = false := by simpa using e1
      have hs := Lib.hid (eqR_mag e1)
      go_enter Tryz.func21, Tryz.ntmps21
      go_wp2_with fail
      refine (Equal_int _ ((h.mag.alloc _).alloc _) ((h'.mag.alloc _).alloc _)).mono ?_
      rintro e w' ⟨rfl, q, rfl⟩
      go_wp2_with fail
      go_ret
      exact ⟨ret_bool hs.out.symm, slc⟩
  · have e0 : (s == s') = false := by simpa using e0
    have hs := Lib.hid (eqR_neg h.neg h'.neg e0)
    go_enter Tryz.func21, Tryz.ntmps21
    go_wp2_with fail
    go_ret
    exact ⟨ret_bool hs.out.symm, slc⟩

set_option maxHeartbeats 1600000 in
theorem SamePoint_any (w : World) {A B A' B' : Option Addr} {n m n' m' c d c' d' : Nat} {s s' : Bool} {C D C' D' : Option Addr} {i j i' j' e f e' f' : Nat} {t t' : Bool} {p q : PtD}
    (h : RdR w s A n c B m d p.x) (k : RdR w t C i e D j f p.y) (h' : RdR w s' A' n' c' B' m' d' q.x) (k' : RdR w t' C' i' e' D' j' f' q.y) :
    Calls Tryz.prog 20 #[.agg #[.bool s, .slice A n c, .slice B m d, .bool t, .slice C i e, .slice D j f], .agg #[.bool s', .slice A' n' c', .slice B' m' d', .bool t', .slice C' i' e', .slice D' j' f']] w fun e w' => e = .returned (.bool (eqP p q)) ∧ Bl w w' := by
  by_cases e0 : eqR p.x q.x = true
  · have hs := Lib.hid (eqP_y e0)
    go_enter Tryz.func20, Tryz.ntmps20
    go_wp2_with fail
    refine (RatEqual_any _ ((h.alloc _).alloc _) ((h'.alloc _).alloc _)).mono ?_
    rintro e w1 ⟨rfl, hb⟩
    obtain ⟨hc, hf⟩ := bcell hb
    have hb1 : Bl w w1 := slc
    go_wp2_with fail
    refine (RatEqual_any _ (k.bl hb1) (k'.bl hb1)).mono ?_
    rintro e w2 ⟨rfl, hb2⟩
    go_wp2_with fail
    go_ret
    exact ⟨ret_bool hs.out.symm, slc⟩
  · have e0 : eqR p.x q.x = false := by simpa using e0
    have hs := Lib.hid (eqP_x e0)
    go_enter Tryz.func20, Tryz.ntmps20
    go_wp2_with fail
    refine (RatEqual_any _ ((h.alloc _).alloc _) ((h'.alloc _).alloc _)).mono ?_
    rintro e w1 ⟨rfl, hb⟩
    go_wp2_with fail
    go_ret
    exact ⟨ret_bool hs.out.symm, slc⟩

theorem eqR_iff {a b : RatD} : eqR a b = true ↔ a = b := by
  cases a; cases b
  simp [eqR, eqL, and_assoc]
theorem eqP_iff {a b : PtD} : eqP a b = true ↔ a = b := by
  cases a; cases b
  simp [eqP, eqR_iff]
theorem eqP_no {a b : PtD} (h : ¬ a = b) : eqP a b = false := by
  rw [← Bool.not_eq_true, eqP_iff]; exact h

/-- The first k elements agree. -/
def Agree {α : Type} [Inhabited α] (l l' : List α) (k : Nat) : Prop := ∀ i, i < k → pix l i = pix l' i
theorem Agree.zero {α : Type} [Inhabited α] (l l' : List α) : Agree l l' 0 := fun i hi => by omega
theorem Agree.step {α : Type} [Inhabited α] {l l' : List α} {k : Nat} (h : Agree l l' k) (e : pix l k = pix l' k) : Agree l l' (k + 1) := by
  intro i hi
  rcases Nat.lt_succ_iff_lt_or_eq.1 hi with hi | rfl
  · exact h i hi
  · exact e
theorem Agree.all {α : Type} [Inhabited α] {l l' : List α} {n : Nat} (h : Agree l l' n) (hl : l.length = n) (hl' : l'.length = n) : l = l' := list_eq_of_pix hl hl' h
end

section
open Go.RowKit

/-- Only the blocks of bs, and what is new, may have turned. -/
structure Ob (bs : List Nat) (w W : World) : Prop where
  os : W.os = w.os
  tape : W.tape = w.tape
  output : W.output = w.output
  size : w.heap.size ≤ W.heap.size
  block : ∀ k, k < w.heap.size → k ∉ bs → W.heap[k]? = w.heap[k]?
section
variable {T : TypeId} {bs cs : List Nat} {w W W2 w0 : World}
theorem Ob.refl (bs : List Nat) (w : World) : Ob bs w w := ⟨rfl, rfl, rfl, Nat.le_refl _, fun _ _ _ => rfl⟩
theorem Ob.trans (h : Ob bs w W) (k : Ob bs W W2) : Ob bs w W2 :=
  ⟨k.os.trans h.os, k.tape.trans h.tape, k.output.trans h.output, Nat.le_trans h.size k.size, fun b hb hn => (k.block b (Nat.lt_of_lt_of_le hb h.size) hn).trans (h.block b hb hn)⟩
theorem Ob.mono (h : Ob bs w W) (hs : ∀ b ∈ bs, b ∈ cs) : Ob cs w W := ⟨h.os, h.tape, h.output, h.size, fun b hb hn => h.block b hb fun hm => hn (hs b hm)⟩
theorem Ob.set (h : Ob bs w W) {g : Nat} (hg : g ∈ bs) (off : Nat) (u : Value) : Ob bs w (W.setCell ⟨g, off, none⟩ u) :=
  ⟨h.os, h.tape, h.output, by simpa [World.setCell] using h.size, fun k hk hn => (Below.heap_setCell W _ u k (by intro e; exact hn (by rw [e]; exact hg))).trans (h.block k hk hn)⟩
theorem Ob.drewN (h : Ob bs w W) (q : Nat) : Ob bs w (W.drewN q) := ⟨h.os, h.tape, h.output, h.size, h.block⟩
theorem Ob.of_bl (h : Bl w W) (bs : List Nat) : Ob bs w W := ⟨h.os, h.tape, h.output, h.size, fun k hk _ => h.block k hk⟩
theorem Bl.ob (h : Bl w0 w) (ho : Ob bs w W) (hb : ∀ b ∈ bs, w0.heap.size ≤ b) : Bl w0 W :=
  ⟨ho.os.trans h.os, ho.tape.trans h.tape, ho.output.trans h.output, Nat.le_trans h.size ho.size, fun k hk => (ho.block k (Nat.lt_of_lt_of_le hk h.size) fun hm => by have := hb k hm; omega).trans (h.block k hk)⟩
theorem Blk.ob {g : Nat} {xs : Array Value} (h : Blk w g T xs) (ho : Ob bs w W) (hg : g ∉ bs) : Blk W g T xs := (ho.block g h.lt hg).trans h
theorem FtI.ob {A : Option Addr} {n c : Nat} {l : List Int} (h : FtI T w A n c l cs) (ho : Ob bs w W) (hd : ∀ b ∈ cs, b ∉ bs) : FtI T W A n c l cs := by
  refine h.keep ho.size fun b hm => ho.block b ?_ (hd b hm)
  rcases h.2 with ⟨_, e⟩ | ⟨g, xs, _, _, hh, _, e⟩
  · rw [e] at hm; cases hm
  · rw [e] at hm; simp at hm; subst hm; exact heap_lt hh
end
/-- The n marks from k on. -/
def marks (k : Int) (n : Nat) : List Int := (List.range n).map fun i : Nat => k + (i : Int)
/-- The first i cells hold marks. -/
def Mkd (k : Int) (i : Nat) (cs : Array Value) : Prop := ∀ j, j < i → cs[j]? = some (.int .i64 (k + (j : Int)))
theorem Mkd.step {k : Int} {i : Nat} {cs : Array Value} (h : Mkd k i cs) (hi : i < cs.size) : Mkd k (i + 1) (cs.setIfInBounds i (.int .i64 (k + (i : Int)))) := by
  intro j hj
  rcases Nat.lt_succ_iff_lt_or_eq.1 hj with hj | rfl
  · rw [Array.getElem?_setIfInBounds_ne (by omega)]; exact h j hj
  · simp [hi]
end

section
open Go.RowKit

theorem FtI.lt {T : TypeId} {w : World} {A : Option Addr} {n c : Nat} {l : List Int} {bs : List Nat} (h : FtI T w A n c l bs) : ∀ b ∈ bs, b < w.heap.size := by
  intro b hm
  rcases h.2 with ⟨_, e⟩ | ⟨g, xs, _, _, hh, _, e⟩
  · rw [e] at hm; cases hm
  · rw [e] at hm; simp at hm; subst hm; exact heap_lt hh
theorem FtR.lt {T : TypeId} {w : World} {s : Bool} {A : Option Addr} {n c : Nat} {B : Option Addr} {m d : Nat} {r : RatD} {bs : List Nat} (h : FtR T w s A n c B m d r bs) : ∀ b ∈ bs, b < w.heap.size := by
  obtain ⟨_, b1, b2, h1, h2, rfl⟩ := h
  intro b hb
  rcases List.mem_append.1 hb with hb | hb
  · exact h1.lt b hb
  · exact h2.lt b hb
theorem PtIn.lt {T : TypeId} {w : World} {cs : Array Value} {i : Nat} {p : PtD} {bs : List Nat} (h : PtIn T w cs i p bs) : ∀ b ∈ bs, b < w.heap.size := by
  obtain ⟨s, A, n, c, B, m, d, t, C, j, e, D, k, f, b1, b2, _, h1, h2, rfl⟩ := h
  intro b hb
  rcases List.mem_append.1 hb with hb | hb
  · exact h1.lt b hb
  · exact h2.lt b hb
end

section
open Go.RowKit
end

section
open Go.RowKit

theorem Ob.cellOf {bs : List Nat} {w W : World} (h : Ob bs w W) {b o : Nat} (hb : b < w.heap.size) (hn : b ∉ bs) : W.cell? ⟨b, o, none⟩ = w.cell? ⟨b, o, none⟩ := World.cell?_of_block (w := w) (h.block b hb hn)
end

section
open Go.RowKit



theorem info_pt : (Tryz.prog.info? 31).map (fun i => (i.zero, i.size, i.bytes)) = some (some (.agg #[.bool false, .slice none 0 0, .slice none 0 0, .bool false, .slice none 0 0, .slice none 0 0]), 6, 112) := by kernel_rfl
end

section
open Go.RowKit
end

section
open Go.RowKit
/-- A fraction in the blocks from lo to hi. -/
def OwX (T : TypeId) (lo hi : Nat) (w : World) (s : Bool) (A : Option Addr) (n c : Nat) (B : Option Addr) (m d : Nat) (r : RatD) : Prop :=
  ∃ bs, FtR T w s A n c B m d r bs ∧ Fp lo hi bs
section
variable {T : TypeId} {lo hi b0 : Nat} {w W : World} {s : Bool} {A : Option Addr} {n c : Nat} {B : Option Addr} {m d : Nat} {r : RatD} {bs : List Nat}
theorem OwX.of (h : OwR T b0 w s A n c B m d r) : OwX T b0 w.heap.size w s A n c B m d r := h
theorem OwX.rd (h : OwX T lo hi w s A n c B m d r) : RdR w s A n c B m d r := by
  obtain ⟨bs, h, _⟩ := h
  exact h.rd
theorem OwX.bl (h : OwX T lo hi w s A n c B m d r) (hb : Bl w W) : OwX T lo hi W s A n c B m d r := by
  obtain ⟨bs, h, hf⟩ := h
  exact ⟨bs, h.bl hb, hf⟩
theorem OwX.ob (h : OwX T lo hi w s A n c B m d r) (ho : Ob bs w W) (hd : ∀ b ∈ bs, b < lo ∨ hi ≤ b) : OwX T lo hi W s A n c B m d r := by
  obtain ⟨cs, h, hf⟩ := h
  refine ⟨cs, h.keep ho.size fun b hb => ho.block b (h.lt b hb) fun hm => ?_, hf⟩
  have h1 := hf.2 b hb
  have h2 := hd b hm
  omega
end

/-- A list of points in the blocks from lo to hi. -/
def OwPZ (TI TP : TypeId) (lo hi : Nat) (w : World) (A : Option Addr) (n c : Nat) (l : List PtD) : Prop :=
  l.length = n ∧ n ≤ c ∧ n ≤ 1048576 ∧ (n = 0 ∨ ∃ g cs fs, A = some ⟨g, 0, none⟩ ∧ Blk w g TP cs ∧ n * 6 ≤ cs.size ∧ PtsIn TI w cs l n fs ∧ Fp lo hi (g :: fs.flatten))
section
variable {TI TP : TypeId} {lo hi lo' hi' : Nat} {w W : World} {A : Option Addr} {n c : Nat} {l : List PtD} {bs : List Nat}
theorem OwPZ.rd (h : OwPZ TI TP lo hi w A n c l) : RdPS w A n c l := by
  obtain ⟨h1, h2, h3, h4⟩ := h
  rcases h4 with h4 | ⟨g, cs, fs, rfl, hB, hc, hP, hF⟩
  · subst h4
    obtain rfl := List.length_eq_zero_iff.1 h1
    exact RdS.nil _ _ _
  · exact hP.rd hB h1 (by omega) h2
theorem OwPZ.keep (h : OwPZ TI TP lo hi w A n c l) (hs : w.heap.size ≤ W.heap.size) (hk : ∀ b, lo ≤ b → b < hi → b < w.heap.size → W.heap[b]? = w.heap[b]?) : OwPZ TI TP lo hi W A n c l := by
  obtain ⟨h1, h2, h3, h4⟩ := h
  refine ⟨h1, h2, h3, ?_⟩
  rcases h4 with h4 | ⟨g, cs, fs, rfl, hB, hc, hP, hF⟩
  · exact .inl h4
  · have hg := hF.2 g (by simp)
    refine .inr ⟨g, cs, fs, rfl, (hk g hg.1 hg.2 hB.lt).trans hB, hc, ⟨hP.1, fun i hi => (hP.2 i hi).keep (fun _ _ => rfl) hs fun b hb => ?_⟩, hF⟩
    have hm := hF.2 b (List.mem_cons_of_mem _ (mem_flatten_pix hb))
    exact hk b hm.1 hm.2 ((hP.2 i hi).lt b hb)
theorem OwPZ.bl (h : OwPZ TI TP lo hi w A n c l) (hb : Bl w W) : OwPZ TI TP lo hi W A n c l := h.keep hb.size fun b _ _ hl => Below.block hb b hl
theorem OwPZ.ob (h : OwPZ TI TP lo hi w A n c l) (ho : Ob bs w W) (hd : ∀ b ∈ bs, b < lo ∨ hi ≤ b) : OwPZ TI TP lo hi W A n c l :=
  h.keep ho.size fun b h1 h2 hl => ho.block b hl fun hm => by have := hd b hm; omega
theorem OwPZ.low (h : OwPZ TI TP lo hi w A n c l) (h1 : lo' ≤ lo) (h2 : hi ≤ hi') : OwPZ TI TP lo' hi' w A n c l := by
  obtain ⟨a1, a2, a3, a4⟩ := h
  refine ⟨a1, a2, a3, ?_⟩
  rcases a4 with h4 | ⟨g, cs, fs, rfl, hB, hc, hP, hF⟩
  · exact .inl h4
  · exact .inr ⟨g, cs, fs, rfl, hB, hc, hP, hF.mono h1 h2⟩
end
end

section
open Go.RowKit
/-- A mesh in the blocks from lo to hi; its slices may have room to spare; or an empty one. -/
def OwMZ (lo hi : Nat) (w : World) (A : Option Addr) (n c : Nat) (B : Option Addr) (m d : Nat) (x : MeD) : Prop :=
  x.points.length = n ∧ x.tris.length = m ∧ n ≤ c ∧ m ≤ d ∧ n ≤ 1048576 ∧ m ≤ 1048576 ∧ ((n = 0 ∧ m = 0) ∨
    ∃ g g' cs cs' fs, A = some ⟨g, 0, none⟩ ∧ B = some ⟨g', 0, none⟩ ∧ Blk w g 31 cs ∧ Blk w g' 73 cs' ∧ n * 6 ≤ cs.size ∧ m * 5 ≤ cs'.size ∧ PtsIn 3 w cs x.points n fs ∧ TrsIn cs' x.tris m ∧ Fp lo hi (g :: g' :: fs.flatten))
section
variable {lo hi : Nat} {w W : World} {A : Option Addr} {n c : Nat} {B : Option Addr} {m d : Nat} {x : MeD}
theorem OwMZ.bl (h : OwMZ lo hi w A n c B m d x) (hb : Bl w W) : OwMZ lo hi W A n c B m d x := by
  obtain ⟨h1, h2, h3, h4, h5, h6, h7⟩ := h
  refine ⟨h1, h2, h3, h4, h5, h6, ?_⟩
  rcases h7 with h7 | ⟨g, g', cs, cs', fs, rfl, rfl, a1, a2, a3, a4, a5, a6, a7⟩
  · exact .inl h7
  · refine .inr ⟨g, g', cs, cs', fs, rfl, rfl, a1.bl hb, a2.bl hb, a3, a4, a5.bl hb fun b hm => ?_, a6, a7⟩
    obtain ⟨l, hl', hb'⟩ := List.mem_flatten.1 hm
    obtain ⟨i, hi, rfl⟩ := List.getElem_of_mem hl'
    exact (a5.2 i (by rw [← a5.1]; exact hi)).lt b (by simpa [pix, hi] using hb')
theorem OwMZ.low {lo' hi' : Nat} (h : OwMZ lo hi w A n c B m d x) (h1 : lo' ≤ lo) (h2 : hi ≤ hi') : OwMZ lo' hi' w A n c B m d x := by
  obtain ⟨b1, b2, b3, b4, b5, b6, h7⟩ := h
  refine ⟨b1, b2, b3, b4, b5, b6, ?_⟩
  rcases h7 with h7 | ⟨g, g', cs, cs', fs, rfl, rfl, a1, a2, a3, a4, a5, a6, a7⟩
  · exact .inl h7
  · exact .inr ⟨g, g', cs, cs', fs, rfl, rfl, a1, a2, a3, a4, a5, a6, a7.mono h1 h2⟩
theorem OwMZ.keep (h : OwMZ lo hi w A n c B m d x) (hs : w.heap.size ≤ W.heap.size) (hk : ∀ b, lo ≤ b → b < hi → b < w.heap.size → W.heap[b]? = w.heap[b]?) : OwMZ lo hi W A n c B m d x := by
  obtain ⟨b1, b2, b3, b4, b5, b6, h7⟩ := h
  refine ⟨b1, b2, b3, b4, b5, b6, ?_⟩
  rcases h7 with h7 | ⟨g, g', cs, cs', fs, rfl, rfl, a1, a2, a3, a4, a5, a6, a7⟩
  · exact .inl h7
  · have hg := a7.2 g (by simp)
    have hg' := a7.2 g' (by simp)
    refine .inr ⟨g, g', cs, cs', fs, rfl, rfl, (hk g hg.1 hg.2 a1.lt).trans a1, (hk g' hg'.1 hg'.2 a2.lt).trans a2, a3, a4, ⟨a5.1, fun i hi => (a5.2 i hi).keep (fun _ _ => rfl) hs fun b hb => ?_⟩, a6, a7⟩
    have hm := a7.2 b (List.mem_cons_of_mem _ (List.mem_cons_of_mem _ (mem_flatten_pix hb)))
    exact hk b hm.1 hm.2 ((a5.2 i hi).lt b hb)
theorem OwMZ.set (h : OwMZ lo hi w A n c B m d x) {q : Addr} (hq : q.block < lo ∨ hi ≤ q.block) (u : Value) : OwMZ lo hi (w.setCell q u) A n c B m d x :=
  h.keep (by simp) fun b h1 h2 _ => Below.heap_setCell w q u b (by omega)
end
end

end Go.Proofs.YtajlahjghapbkaaGreat
