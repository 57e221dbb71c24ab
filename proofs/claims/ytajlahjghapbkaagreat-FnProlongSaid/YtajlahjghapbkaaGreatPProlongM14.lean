/- Lemmas. -/
import Derived.Test.YtajlahjghapbkaaGreatRows
import Derived.Test.YtajlahjghapbkaaGreatPProlongM13
import Derived.Test.YtajlahjghapbkaaGreatPProlongM02
import Derived.Test.YtajlahjghapbkaaGreatPProlongM09
namespace Go.Proofs.YtajlahjghapbkaaGreat
section
open Go.RowKit

/-- The zero point: what is not valid. -/
def zP : PtD := ⟨zR, zR⟩
def ifP (p : PtD) : PtD := if p.x.den.length = 0 ∨ p.y.den.length = 0 then zP else p
noncomputable def subP (p q : PtD) : PtD := ifP ⟨subR p.x q.x, subR p.y q.y⟩
noncomputable def crossP (p q : PtD) : RatD := subR (mulR p.x q.y) (mulR p.y q.x)
noncomputable def dblA (a b c : PtD) : RatD := crossP (subP b a) (subP c a)
def OkP (p : PtD) : Prop := OkR p.x ∧ OkR p.y
theorem RdR.zero (w : World) : RdR w false none 0 0 none 0 0 zR := ⟨rfl, RdI.nil _ _ _, RdI.nil _ _ _⟩
theorem isRat_yes (w : World) {s : Bool} {A : Option Addr} {n c : Nat} {B : Option Addr} {m d : Nat} (hm : 0 < m) :
    Calls Tryz.prog 76 #[.agg #[.bool s, .slice A n c, .slice B m d]] w fun e w' => e = .returned (.bool true) ∧ Bl w w' := by
  go_enter Tryz.func76, Tryz.ntmps76
  go_wp2_with fail
  go_ret
  exact ⟨rfl, slc⟩
theorem isRat_no (w : World) {s : Bool} {A : Option Addr} {n c : Nat} {B : Option Addr} {m d : Nat} (hm : m = 0) :
    Calls Tryz.prog 76 #[.agg #[.bool s, .slice A n c, .slice B m d]] w fun e w' => e = .returned (.bool false) ∧ Bl w w' := by
  subst hm
  go_enter Tryz.func76, Tryz.ntmps76
  go_wp2_with fail
  go_ret
  exact ⟨rfl, slc⟩

set_option maxRecDepth 100000 in
set_option maxHeartbeats 4000000 in
theorem ifPoint_yes (w : World) {s : Bool} {A : Option Addr} {n c : Nat} {B : Option Addr} {m d : Nat} {t : Bool} {C : Option Addr} {i e : Nat} {D : Option Addr} {j f : Nat} (hm : 0 < m) (hj : 0 < j) :
    Calls Tryz.prog 77 #[.agg #[.bool s, .slice A n c, .slice B m d, .bool t, .slice C i e, .slice D j f]] w fun en w' => en = .returned (.agg #[.bool s, .slice A n c, .slice B m d, .bool t, .slice C i e, .slice D j f]) ∧ Bl w w' := by
  go_enter Tryz.func77, Tryz.ntmps77
  go_wp2_with fail
  refine calls_gen (fun W => Bl w W ∧ Blk W (w.heap.size) 31 #[.bool s, .slice A n c, .slice B m d, .bool t, .slice C i e, .slice D j f] ∧ Wk 6 31 (w.heap.size + 1) W) ⟨slc, bts, bts⟩ ?_
  rintro W ⟨hbW, hx, hr⟩
  refine (isRat_yes _ hm).mono ?_
  rintro e1 w1 ⟨rfl, hb1⟩
  have hx := hx.bl hb1
  have hr := hr.bl hb1
  have hbW := hbW.next hb1
  clear hb1
  obtain ⟨i0, i1, i2, i3, i4, i5⟩ := bx6 hx
  go_wp2_with fail
  refine (isRat_yes _ hj).mono ?_
  rintro e2 w2 ⟨rfl, hb2⟩
  have hx := hx.bl hb2
  have hr := hr.bl hb2
  have hbW := hbW.next hb2
  clear hb2
  obtain ⟨i0, i1, i2, i3, i4, i5⟩ := bx6 hx
  obtain ⟨v0, x0⟩ := hr.val_ (i := 0) (by omega)
  obtain ⟨v1, x1⟩ := hr.val_ (i := 1) (by omega)
  obtain ⟨v2, x2⟩ := hr.val_ (i := 2) (by omega)
  obtain ⟨v3, x3⟩ := hr.val_ (i := 3) (by omega)
  obtain ⟨v4, x4⟩ := hr.val_ (i := 4) (by omega)
  obtain ⟨v5, x5⟩ := hr.val_ (i := 5) (by omega)
  have hg := hr.lt
  obtain ⟨cs4, hB4, hc4⟩ := hr
  have hf0 := hB4.frozen 0
  have hf1 := hB4.frozen 1
  have hf2 := hB4.frozen 2
  have hf3 := hB4.frozen 3
  have hf4 := hB4.frozen 4
  have hf5 := hB4.frozen 5
  go_wp2_with fail
  exact bodyPost_ret (v := .agg #[.bool s, .slice A n c, .slice B m d, .bool t, .slice C i e, .slice D j f]) (by simp [results, Tryz.results77, go_sem, x0, x1, x2, x3, x4, x5]) rfl ⟨rfl, slc⟩
set_option maxRecDepth 100000 in
set_option maxHeartbeats 4000000 in
theorem ifPoint_no (w : World) {s : Bool} {A : Option Addr} {n c : Nat} {B : Option Addr} {m d : Nat} {t : Bool} {C : Option Addr} {i e : Nat} {D : Option Addr} {j f : Nat} (hmj : m = 0 ∨ j = 0) :
    Calls Tryz.prog 77 #[.agg #[.bool s, .slice A n c, .slice B m d, .bool t, .slice C i e, .slice D j f]] w fun en w' => en = .returned (.agg #[.bool false, .slice none 0 0, .slice none 0 0, .bool false, .slice none 0 0, .slice none 0 0]) ∧ Bl w w' := by
  rcases Nat.eq_zero_or_pos m with h0 | h0
  · clear hmj
    have h0 := Lib.hid h0; rename_i h_; clear h_
    go_enter Tryz.func77, Tryz.ntmps77
    go_wp2_with fail
    refine calls_gen (fun W => Bl w W ∧ Blk W (w.heap.size) 31 #[.bool s, .slice A n c, .slice B m d, .bool t, .slice C i e, .slice D j f] ∧ Wk 6 31 (w.heap.size + 1) W) ⟨slc, bts, bts⟩ ?_
    rintro W ⟨hbW, hx, hr⟩
    refine (isRat_no _ h0.out).mono ?_
    rintro e1 w1 ⟨rfl, hb1⟩
    have hx := hx.bl hb1
    have hr := hr.bl hb1
    have hbW := hbW.next hb1
    clear hb1
    obtain ⟨i0, i1, i2, i3, i4, i5⟩ := bx6 hx
    obtain ⟨v0, x0⟩ := hr.val_ (i := 0) (by omega)
    obtain ⟨v1, x1⟩ := hr.val_ (i := 1) (by omega)
    obtain ⟨v2, x2⟩ := hr.val_ (i := 2) (by omega)
    obtain ⟨v3, x3⟩ := hr.val_ (i := 3) (by omega)
    obtain ⟨v4, x4⟩ := hr.val_ (i := 4) (by omega)
    obtain ⟨v5, x5⟩ := hr.val_ (i := 5) (by omega)
    have hg := hr.lt
    obtain ⟨cs4, hB4, hc4⟩ := hr
    have hf0 := hB4.frozen 0
    have hf1 := hB4.frozen 1
    have hf2 := hB4.frozen 2
    have hf3 := hB4.frozen 3
    have hf4 := hB4.frozen 4
    have hf5 := hB4.frozen 5
    go_wp2_with fail
    exact bodyPost_ret (v := .agg #[.bool false, .slice none 0 0, .slice none 0 0, .bool false, .slice none 0 0, .slice none 0 0]) (by simp [results, Tryz.results77, go_sem, x0, x1, x2, x3, x4, x5]) rfl ⟨rfl, slc⟩
  · have h1 : j = 0 := by omega
    clear hmj
    have h1 := Lib.hid h1; rename_i h_; clear h_
    go_enter Tryz.func77, Tryz.ntmps77
    go_wp2_with fail
    refine calls_gen (fun W => Bl w W ∧ Blk W (w.heap.size) 31 #[.bool s, .slice A n c, .slice B m d, .bool t, .slice C i e, .slice D j f] ∧ Wk 6 31 (w.heap.size + 1) W) ⟨slc, bts, bts⟩ ?_
    rintro W ⟨hbW, hx, hr⟩
    refine (isRat_yes _ h0).mono ?_
    rintro e1 w1 ⟨rfl, hb1⟩
    have hx := hx.bl hb1
    have hr := hr.bl hb1
    have hbW := hbW.next hb1
    clear hb1
    obtain ⟨i0, i1, i2, i3, i4, i5⟩ := bx6 hx
    go_wp2_with fail
    refine (isRat_no _ h1.out).mono ?_
    rintro e2 w2 ⟨rfl, hb2⟩
    have hx := hx.bl hb2
    have hr := hr.bl hb2
    have hbW := hbW.next hb2
    clear hb2
    obtain ⟨i0, i1, i2, i3, i4, i5⟩ := bx6 hx
    obtain ⟨v0, x0⟩ := hr.val_ (i := 0) (by omega)
    obtain ⟨v1, x1⟩ := hr.val_ (i := 1) (by omega)
    obtain ⟨v2, x2⟩ := hr.val_ (i := 2) (by omega)
    obtain ⟨v3, x3⟩ := hr.val_ (i := 3) (by omega)
    obtain ⟨v4, x4⟩ := hr.val_ (i := 4) (by omega)
    obtain ⟨v5, x5⟩ := hr.val_ (i := 5) (by omega)
    have hg := hr.lt
    obtain ⟨cs4, hB4, hc4⟩ := hr
    have hf0 := hB4.frozen 0
    have hf1 := hB4.frozen 1
    have hf2 := hB4.frozen 2
    have hf3 := hB4.frozen 3
    have hf4 := hB4.frozen 4
    have hf5 := hB4.frozen 5
    go_wp2_with fail
    exact bodyPost_ret (v := .agg #[.bool false, .slice none 0 0, .slice none 0 0, .bool false, .slice none 0 0, .slice none 0 0]) (by simp [results, Tryz.results77, go_sem, x0, x1, x2, x3, x4, x5]) rfl ⟨rfl, slc⟩
theorem OwP.zero (T : TypeId) (b0 : Nat) (w : World) : OwP T b0 w false none 0 0 none 0 0 false none 0 0 none 0 0 zP :=
  ⟨[], [], ⟨rfl, [], [], ⟨RdI.nil _ _ _, .inl ⟨rfl, rfl⟩⟩, ⟨RdI.nil _ _ _, .inl ⟨rfl, rfl⟩⟩, rfl⟩, ⟨rfl, [], [], ⟨RdI.nil _ _ _, .inl ⟨rfl, rfl⟩⟩, ⟨RdI.nil _ _ _, .inl ⟨rfl, rfl⟩⟩, rfl⟩, Fp.nil _ _⟩
section
variable {T : TypeId} {b0 : Nat} {w W : World} {s : Bool} {A : Option Addr} {n c : Nat} {B : Option Addr} {m d : Nat} {t : Bool} {C : Option Addr} {i e : Nat} {D : Option Addr} {j f : Nat} {p : PtD}
theorem OwP.bl (h : OwP T b0 w s A n c B m d t C i e D j f p) (hb : Bl w W) : OwP T b0 W s A n c B m d t C i e D j f p := by
  obtain ⟨b1, b2, h1, h2, hf⟩ := h
  exact ⟨b1, b2, h1.bl hb, h2.bl hb, hf.mono (Nat.le_refl _) hb.size⟩
theorem OwP.rx (h : OwP T b0 w s A n c B m d t C i e D j f p) : RdR w s A n c B m d p.x := by
  obtain ⟨b1, b2, h1, h2, hf⟩ := h
  exact h1.rd
theorem OwP.ry (h : OwP T b0 w s A n c B m d t C i e D j f p) : RdR w t C i e D j f p.y := by
  obtain ⟨b1, b2, h1, h2, hf⟩ := h
  exact h2.rd
end
theorem ifPoint_any (w : World) {b0 : Nat} {s : Bool} {A : Option Addr} {n c : Nat} {B : Option Addr} {m d : Nat} {t : Bool} {C : Option Addr} {i e : Nat} {D : Option Addr} {j f : Nat} {p : PtD} (h : OwP 3 b0 w s A n c B m d t C i e D j f p) :
    Calls Tryz.prog 77 #[.agg #[.bool s, .slice A n c, .slice B m d, .bool t, .slice C i e, .slice D j f]] w fun en w' => ∃ s1 A1 n1 c1 B1 m1 d1 t1 C1 i1 e1 D1 j1 f1, en = .returned (.agg #[.bool s1, .slice A1 n1 c1, .slice B1 m1 d1, .bool t1, .slice C1 i1 e1, .slice D1 j1 f1]) ∧ OwP 3 b0 w' s1 A1 n1 c1 B1 m1 d1 t1 C1 i1 e1 D1 j1 f1 (ifP p) ∧ Bl w w' := by
  have l1 := h.rx.den.len
  have l2 := h.ry.den.len
  by_cases hz : m = 0 ∨ j = 0
  · have e : ifP p = zP := by unfold ifP; rw [l1, l2, if_pos hz]
    rw [e]
    refine (ifPoint_no w hz).mono ?_
    rintro en w' ⟨rfl, hb⟩
    exact ⟨_, _, _, _, _, _, _, _, _, _, _, _, _, _, rfl, OwP.zero _ _ _, hb⟩
  · have e : ifP p = p := by unfold ifP; rw [l1, l2, if_neg hz]
    rw [e]
    refine (ifPoint_yes w (by omega) (by omega)).mono ?_
    rintro en w' ⟨rfl, hb⟩
    exact ⟨_, _, _, _, _, _, _, _, _, _, _, _, _, _, rfl, h.bl hb, hb⟩
end

section
open Go.RowKit

set_option maxRecDepth 100000 in
theorem IsValidPoint_yes (w : World) {s : Bool} {A : Option Addr} {n c : Nat} {B : Option Addr} {m d : Nat} {t : Bool} {C : Option Addr} {i e : Nat} {D : Option Addr} {j f : Nat} {p : PtD} (h : RdR w s A n c B m d p.x) (k : RdR w t C i e D j f p.y) (ho : OkP p) :
    Calls Tryz.prog 72 #[.agg #[.bool s, .slice A n c, .slice B m d, .bool t, .slice C i e, .slice D j f]] w fun en w' => en = .returned (.bool true) ∧ Bl w w' := by
  have hall := Lib.hid (allOk_two.2 ho)
  clear ho
  go_enter Tryz.func72, Tryz.ntmps72
  go_wp2_with fail
  refine (areRats_yes _ (RdRS.two (Blk.new1 _ _ _ _) (h.bl slc) (k.bl slc)) hall.out).mono ?_
  rintro e w1 ⟨rfl, hb1⟩
  go_wp2_with fail
  go_ret
  exact ⟨rfl, slc⟩
def PTo (l : List PtD) (k : Nat) : Prop := ∀ j, j < k → OkP (pix l j)
theorem PTo.zero (l : List PtD) : PTo l 0 := fun j hj => by omega
theorem PTo.step {l : List PtD} {k : Nat} (h : PTo l k) (h0 : OkP (pix l k)) : PTo l (k + 1) := by
  intro j hj
  rcases Nat.lt_succ_iff_lt_or_eq.1 hj with hj | rfl
  · exact h j hj
  · exact h0
end

section
open Go.RowKit

/-- Two lists are equal up to place k. -/
def eqTo (a b : List Int) : Nat → Bool
  | 0 => true
  | k + 1 => eqTo a b k && (ix a k == ix b k)
def eqL (a b : List Int) : Bool := a == b

theorem eqTo_step {xs ys : List Int} {k : Nat} (h : eqTo xs ys k = true) (he : ix xs k = ix ys k) : eqTo xs ys (k + 1) = true := by simp [eqTo, h, he]
theorem eqTo_iff {xs ys : List Int} {k : Nat} : eqTo xs ys k = true ↔ ∀ i, i < k → ix xs i = ix ys i := by
  induction k with
  | zero => simp [eqTo]
  | succ k ih =>
    simp only [eqTo, Bool.and_eq_true, ih, beq_iff_eq]
    constructor
    · rintro ⟨h1, h2⟩ i hi
      rcases Nat.lt_succ_iff_lt_or_eq.1 hi with h | rfl
      · exact h1 i h
      · exact h2
    · intro h
      exact ⟨fun i hi => h i (by omega), h k (by omega)⟩
theorem eqL_same {xs ys : List Int} (h : xs.length = ys.length) : eqL xs ys = eqTo xs ys xs.length := by
  rw [Bool.eq_iff_iff, eqTo_iff]
  unfold eqL
  rw [beq_iff_eq]
  constructor
  · rintro rfl i _; rfl
  · intro hh
    apply List.ext_getElem h
    intro i h1 h2
    have := hh i h1
    simpa [ix, h1, h2] using this
theorem eqL_no {xs ys : List Int} {k : Nat} (_h : xs.length = ys.length) (_hk : k < xs.length) (he : ¬ ix xs k = ix ys k) : eqL xs ys = false := by
  unfold eqL
  rw [beq_eq_false_iff_ne]
  rintro rfl
  exact he rfl
theorem eqL_len {xs ys : List Int} (h : ¬ xs.length = ys.length) : eqL xs ys = false := by
  unfold eqL
  rw [beq_eq_false_iff_ne]
  rintro rfl
  exact h rfl

set_option maxHeartbeats 1600000 in
theorem Equal_int (w : World) {A B : Option Addr} {n m c d : Nat} {xs ys : List Int} (ha : RdI w A n c xs) (hb : RdI w B m d ys) :
    Calls Tryz.prog 81 #[.slice A n c, .slice B m d] w fun e w' => e = .returned (.bool (eqL xs ys)) ∧ ∃ q, w' = w.drewN q := by
  have hna := ha.small
  have hnb := hb.small
  by_cases hnm : n = m
  · subst hnm
    have heq := Lib.hid (eqL_same (ha.len.trans hb.len.symm)); rw [ha.len] at heq
    go_enter Tryz.func81, Tryz.ntmps81
    go_wp2
    go_loopw [13] (fun i wr => ∃ k : Nat, k ≤ n ∧ i = .int .i64 (k : Int) ∧ Hid (eqTo xs ys k = true) ∧ ∃ q, wr = w.drewN q) (fun i _ => n - (intOf i).toNat)
    case atStart => exact ⟨0, Nat.zero_le _, rfl, rfl, (by first | exact ⟨_, rfl⟩ | exact ⟨0, rfl⟩ | exact q_drewN ⟨_, rfl⟩ | exact q_drewN (q_drewN ⟨_, rfl⟩))⟩
    case round =>
      obtain ⟨k, hk, rfl, hto, q, rfl⟩ := hrel
      by_cases hkn : k < n
      · obtain ⟨ad, rfl, hlta, hca⟩ := ha.at_ hkn
        obtain ⟨bd, rfl, hltb, hcb⟩ := hb.at_ hkn
        have hki : (k : Int) < (n : Int) := by omega
        by_cases he : ix xs k = ix ys k
        · have hs := Lib.hid (eqTo_step hto.out he); clear hto
          have hbeq : (ix xs k != ix ys k) = false := by simp [he]
          clear he
          go_wp2
          go_quiet (fail)
          go_wp2
          go_roundw
          case rel => exact ⟨k + 1, by omega, by go_num, hs, (by first | exact ⟨_, rfl⟩ | exact ⟨0, rfl⟩ | exact q_drewN ⟨_, rfl⟩ | exact q_drewN (q_drewN ⟨_, rfl⟩))⟩
          case measure => simp [intOf]; omega
        · have hs := Lib.hid (eqL_no (by rw [ha.len, hb.len]) (by rw [ha.len]; exact hkn) he); clear hto heq
          have hbeq : (ix xs k != ix ys k) = true := by simp [he]
          clear he
          go_wp2
          go_quiet (fail)
          go_wp2
          go_ret
          exact ⟨ret_bool hs.out.symm, (by first | exact ⟨_, rfl⟩ | exact ⟨0, rfl⟩ | exact q_drewN ⟨_, rfl⟩ | exact q_drewN (q_drewN ⟨_, rfl⟩))⟩
      · have hkk : k = n := by omega
        have hs := Lib.hid (heq.out.trans (hkk ▸ hto.out)); clear hto heq hkk
        go_wp2
        go_ret
        exact ⟨ret_bool hs.out.symm, (by first | exact ⟨_, rfl⟩ | exact ⟨0, rfl⟩ | exact q_drewN ⟨_, rfl⟩ | exact q_drewN (q_drewN ⟨_, rfl⟩))⟩
  · have hs := Lib.hid (eqL_len (xs := xs) (ys := ys) (by rw [ha.len, hb.len]; exact hnm))
    have hne : ((n : Int) != (m : Int)) = true := by simp; omega
    go_enter Tryz.func81, Tryz.ntmps81
    go_wp2
    go_ret
    exact ⟨ret_bool hs.out.symm, (by first | exact ⟨_, rfl⟩ | exact ⟨0, rfl⟩ | exact q_drewN ⟨_, rfl⟩ | exact q_drewN (q_drewN ⟨_, rfl⟩))⟩
end

section
open Go.RowKit

def eqR (a b : RatD) : Bool := a.neg == b.neg && eqL a.mag b.mag && eqL a.den b.den
theorem eqR_den {r r' : RatD} {s s' : Bool} (h : s = r.neg) (h' : s' = r'.neg) (e0 : (s == s') = true) (e1 : eqL r.mag r'.mag = true) : eqR r r' = eqL r.den r'.den := by
  unfold eqR; rw [← h, ← h', e0, e1]; rfl
theorem eqR_mag {r r' : RatD} (e1 : eqL r.mag r'.mag = false) : eqR r r' = false := by
  unfold eqR; rw [e1]; simp
theorem eqR_neg {r r' : RatD} {s s' : Bool} (h : s = r.neg) (h' : s' = r'.neg) (e0 : (s == s') = false) : eqR r r' = false := by
  unfold eqR; rw [← h, ← h', e0]; rfl
def eqP (a b : PtD) : Bool := eqR a.x b.x && eqR a.y b.y
theorem eqP_y {p q : PtD} (e0 : eqR p.x q.x = true) : eqP p q = eqR p.y q.y := by unfold eqP; rw [e0]; rfl
theorem eqP_x {p q : PtD} (e0 : eqR p.x q.x = false) : eqP p q = false := by unfold eqP; rw [e0]; rfl

set_option maxHeartbeats 1600000 in
theorem RatEqual_any (w : World) {A B A' B' : Option Addr} {n m n' m' c d c' d' : Nat} {s s' : Bool} {r r' : RatD} (h : RdR w s A n c B m d r) (h' : RdR w s' A' n' c' B' m' d' r') :
    Calls Tryz.prog 21 #[.agg #[.bool s, .slice A n c, .slice B m d], .agg #[.bool s', .slice A' n' c', .slice B' m' d']] w fun e w' => e = .returned (.bool (eqR r r')) ∧ Bl w w' := by
  by_cases e0 : (s == s') = true
  · by_cases e1 : eqL r.mag r'.mag = true
    · have hs := Lib.hid (eqR_den h.neg h'.neg e0 e1)
      go_enter Tryz.func21, Tryz.ntmps21
      go_wp2_with fail
      refine (Equal_int _ ((h.mag.alloc _).alloc _) ((h'.mag.alloc _).alloc _)).mono ?_
      rintro e w' ⟨rfl, q, rfl⟩
      go_wp2_with fail
      refine (Equal_int _ (((h.den.alloc _).alloc _).drewN _) (((h'.den.alloc _).alloc _).drewN _)).mono ?_
      rintro e w' ⟨rfl, q', rfl⟩
      go_wp2_with fail
      go_ret
      exact ⟨ret_bool hs.out.symm, slc⟩
    · have e1 : eqL r.mag r'.mag = false := by simpa using e1
      have hs := Lib.hid (eqR_mag e1)
      go_enter Tryz.func21, Tryz.ntmps21
      go_wp2_with fail
      refine (Equal_int _ ((h.mag.alloc _).alloc _) ((h'.mag.alloc _).alloc _)).mono ?_
      rintro e w' ⟨rfl, q, rfl⟩
      go_wp2_with fail
      go_ret
      exact ⟨ret_bool hs.out.symm, slc⟩
  · have e0 : (s == s') = false := by simpa using e0
    have hs := Lib.hid (eqR_neg h.neg h'.neg e0)
    go_enter Tryz.func21, Tryz.ntmps21
    go_wp2_with fail
    go_ret
    exact ⟨ret_bool hs.out.symm, slc⟩

set_option maxHeartbeats 1600000 in
theorem SamePoint_any (w : World) {A B A' B' : Option Addr} {n m n' m' c d c' d' : Nat} {s s' : Bool} {C D C' D' : Option Addr} {i j i' j' e f e' f' : Nat} {t t' : Bool} {p q : PtD}
    (h : RdR w s A n c B m d p.x) (k : RdR w t C i e D j f p.y) (h' : RdR w s' A' n' c' B' m' d' q.x) (k' : RdR w t' C' i' e' D' j' f' q.y) :
    Calls Tryz.prog 20 #[.agg #[.bool s, .slice A n c, .slice B m d, .bool t, .slice C i e, .slice D j f], .agg #[.bool s', .slice A' n' c', .slice B' m' d', .bool t', .slice C' i' e', .slice D' j' f']] w fun e w' => e = .returned (.bool (eqP p q)) ∧ Bl w w' := by
  by_cases e0 : eqR p.x q.x = true
  · have hs := Lib.hid (eqP_y e0)
    go_enter Tryz.func20, Tryz.ntmps20
    go_wp2_with fail
    refine (RatEqual_any _ ((h.alloc _).alloc _) ((h'.alloc _).alloc _)).mono ?_
    rintro e w1 ⟨rfl, hb⟩
    obtain ⟨hc, hf⟩ := bcell hb
    have hb1 : Bl w w1 := slc
    go_wp2_with fail
    refine (RatEqual_any _ (k.bl hb1) (k'.bl hb1)).mono ?_
    rintro e w2 ⟨rfl, hb2⟩
    go_wp2_with fail
    go_ret
    exact ⟨ret_bool hs.out.symm, slc⟩
  · have e0 : eqR p.x q.x = false := by simpa using e0
    have hs := Lib.hid (eqP_x e0)
    go_enter Tryz.func20, Tryz.ntmps20
    go_wp2_with fail
    refine (RatEqual_any _ ((h.alloc _).alloc _) ((h'.alloc _).alloc _)).mono ?_
    rintro e w1 ⟨rfl, hb⟩
    go_wp2_with fail
    go_ret
    exact ⟨ret_bool hs.out.symm, slc⟩

theorem eqR_iff {a b : RatD} : eqR a b = true ↔ a = b := by
  cases a; cases b
  simp [eqR, eqL, and_assoc]
theorem eqP_iff {a b : PtD} : eqP a b = true ↔ a = b := by
  cases a; cases b
  simp [eqP, eqR_iff]
theorem eqP_no {a b : PtD} (h : ¬ a = b) : eqP a b = false := by
  rw [← Bool.not_eq_true, eqP_iff]; exact h

def Same {α : Type} [DecidableEq α] (a b : α) : Bool := decide (a = b)
theorem same_yes {α : Type} [DecidableEq α] {a b : α} (h : a = b) : Same a b = true := decide_eq_true h
theorem same_no {α : Type} [DecidableEq α] {a b : α} (h : ¬ a = b) : Same a b = false := decide_eq_false h
/-- The first k elements agree. -/
def Agree {α : Type} [Inhabited α] (l l' : List α) (k : Nat) : Prop := ∀ i, i < k → pix l i = pix l' i
theorem Agree.zero {α : Type} [Inhabited α] (l l' : List α) : Agree l l' 0 := fun i hi => by omega
theorem Agree.step {α : Type} [Inhabited α] {l l' : List α} {k : Nat} (h : Agree l l' k) (e : pix l k = pix l' k) : Agree l l' (k + 1) := by
  intro i hi
  rcases Nat.lt_succ_iff_lt_or_eq.1 hi with hi | rfl
  · exact h i hi
  · exact e
theorem Agree.all {α : Type} [Inhabited α] {l l' : List α} {n : Nat} (h : Agree l l' n) (hl : l.length = n) (hl' : l'.length = n) : l = l' := list_eq_of_pix hl hl' h

set_option maxHeartbeats 4000000 in
theorem EqualFunc_any (w : World) {A B : Option Addr} {n m c d : Nat} {l l' : List PtD} (ha : RdPS w A n c l) (hb : RdPS w B m d l') :
    Calls Tryz.prog 109 #[.slice A n c, .slice B m d, .func (.func 20) #[] #[]] w fun e w' => e = .returned (.bool (Same l l')) ∧ Bl w w' := by
  have hna := ha.small
  have hnb := hb.small
  by_cases hnm : n = m
  · subst hnm
    have hl := Lib.hid ha.len
    have hl' := Lib.hid hb.len
    go_enter Tryz.func109, Tryz.ntmps109
    go_wp2
    go_loopw [17] (fun i wr => ∃ k : Nat, k ≤ n ∧ i = .int .i64 (k : Int) ∧ Agree l l' k ∧ Bl w wr) (fun i _ => n - (intOf i).toNat)
    case atStart => exact ⟨0, Nat.zero_le _, rfl, Agree.zero _ _, Bl.refl _⟩
    case round =>
      obtain ⟨k, hk, rfl, hag, hbw⟩ := hrel
      by_cases hkn : k < n
      · obtain ⟨ad, rfl, hlta, hca⟩ := (ha.bl hbw).cells k hkn
        obtain ⟨bd, rfl, hltb, hcb⟩ := (hb.bl hbw).cells k hkn
        obtain ⟨s, A, n', c', B, m, d', t, C, i, e, D, j, f, ⟨g0, g1, g2, g3, g4, g5⟩, hx, hy⟩ := hca
        have hcb1 := hcb.bl (by rw [block_add]; exact hltb) (slc : Bl wr (wr.alloc (.cells #[.bool s, .slice A n' c', .slice B m d', .bool t, .slice C i e, .slice D j f] 31)))
        obtain ⟨s', A', n'', c'', B', m', d'', t', C', i', e', D', j', f', ⟨p0, p1, p2, p3, p4, p5⟩, hx', hy'⟩ := hcb1
        have hki : (k : Int) < (n : Int) := by omega
        by_cases heq : pix l k = pix l' k
        · have heq' := Lib.hid heq
          have hans := eqP_iff.2 heq
          clear heq
          go_wp2_with fail
          refine (SamePoint_any _ ((hx.alloc _).alloc _) ((hy.alloc _).alloc _) (hx'.alloc _) (hy'.alloc _)).mono ?_
          rintro e w1 ⟨rfl, hb1⟩
          have hb2 : Bl w w1 := slc
          clear hb1
          go_wp2_with fail
          go_roundw
          case rel => exact ⟨k + 1, by omega, by go_num, hag.step heq'.out, hb2⟩
          case measure => simp [intOf]; omega
        · have hs := Lib.hid (same_no (a := l) (b := l') (fun e => heq (by rw [e])))
          have hans := eqP_no heq
          clear heq
          go_wp2_with fail
          refine (SamePoint_any _ ((hx.alloc _).alloc _) ((hy.alloc _).alloc _) (hx'.alloc _) (hy'.alloc _)).mono ?_
          rintro e w1 ⟨rfl, hb1⟩
          have hb2 : Bl w w1 := slc
          clear hb1
          go_wp2_with fail
          go_ret
          exact ⟨ret_bool hs.out.symm, hb2⟩
      · have hs := Lib.hid (same_yes ((by obtain rfl : k = n := by omega
                                          exact hag.all hl.out hl'.out) : l = l'))
        go_wp2_with fail
        go_ret
        exact ⟨ret_bool hs.out.symm, hbw⟩
  · have hs := Lib.hid (same_no (a := l) (b := l') (fun e => hnm (by rw [← ha.len, ← hb.len, e])))
    have hne : ((n : Int) != (m : Int)) = true := by simp; omega
    go_enter Tryz.func109, Tryz.ntmps109
    go_wp2
    go_ret
    exact ⟨ret_bool hs.out.symm, Bl.refl _⟩
end

section
open Go.RowKit

/-- Only the blocks of bs, and what is new, may have turned. -/
structure Ob (bs : List Nat) (w W : World) : Prop where
  os : W.os = w.os
  tape : W.tape = w.tape
  output : W.output = w.output
  size : w.heap.size ≤ W.heap.size
  block : ∀ k, k < w.heap.size → k ∉ bs → W.heap[k]? = w.heap[k]?
section
variable {T : TypeId} {bs cs : List Nat} {w W W2 w0 : World}
theorem Ob.refl (bs : List Nat) (w : World) : Ob bs w w := ⟨rfl, rfl, rfl, Nat.le_refl _, fun _ _ _ => rfl⟩
theorem Ob.trans (h : Ob bs w W) (k : Ob bs W W2) : Ob bs w W2 :=
  ⟨k.os.trans h.os, k.tape.trans h.tape, k.output.trans h.output, Nat.le_trans h.size k.size, fun b hb hn => (k.block b (Nat.lt_of_lt_of_le hb h.size) hn).trans (h.block b hb hn)⟩
theorem Ob.mono (h : Ob bs w W) (hs : ∀ b ∈ bs, b ∈ cs) : Ob cs w W := ⟨h.os, h.tape, h.output, h.size, fun b hb hn => h.block b hb fun hm => hn (hs b hm)⟩
theorem Ob.set (h : Ob bs w W) {g : Nat} (hg : g ∈ bs) (off : Nat) (u : Value) : Ob bs w (W.setCell ⟨g, off, none⟩ u) :=
  ⟨h.os, h.tape, h.output, by simpa [World.setCell] using h.size, fun k hk hn => (Below.heap_setCell W _ u k (by intro e; exact hn (by rw [e]; exact hg))).trans (h.block k hk hn)⟩
theorem Ob.drewN (h : Ob bs w W) (q : Nat) : Ob bs w (W.drewN q) := ⟨h.os, h.tape, h.output, h.size, h.block⟩
theorem Ob.of_bl (h : Bl w W) (bs : List Nat) : Ob bs w W := ⟨h.os, h.tape, h.output, h.size, fun k hk _ => h.block k hk⟩
theorem Bl.ob (h : Bl w0 w) (ho : Ob bs w W) (hb : ∀ b ∈ bs, w0.heap.size ≤ b) : Bl w0 W :=
  ⟨ho.os.trans h.os, ho.tape.trans h.tape, ho.output.trans h.output, Nat.le_trans h.size ho.size, fun k hk => (ho.block k (Nat.lt_of_lt_of_le hk h.size) fun hm => by have := hb k hm; omega).trans (h.block k hk)⟩
theorem Blk.ob {g : Nat} {xs : Array Value} (h : Blk w g T xs) (ho : Ob bs w W) (hg : g ∉ bs) : Blk W g T xs := (ho.block g h.lt hg).trans h
theorem FtI.ob {A : Option Addr} {n c : Nat} {l : List Int} (h : FtI T w A n c l cs) (ho : Ob bs w W) (hd : ∀ b ∈ cs, b ∉ bs) : FtI T W A n c l cs := by
  refine h.keep ho.size fun b hm => ho.block b ?_ (hd b hm)
  rcases h.2 with ⟨_, e⟩ | ⟨g, xs, _, _, hh, _, e⟩
  · rw [e] at hm; cases hm
  · rw [e] at hm; simp at hm; subst hm; exact heap_lt hh
end
/-- The n marks from k on. -/
def marks (k : Int) (n : Nat) : List Int := (List.range n).map fun i : Nat => k + (i : Int)
/-- The first i cells hold marks. -/
def Mkd (k : Int) (i : Nat) (cs : Array Value) : Prop := ∀ j, j < i → cs[j]? = some (.int .i64 (k + (j : Int)))
theorem Mkd.step {k : Int} {i : Nat} {cs : Array Value} (h : Mkd k i cs) (hi : i < cs.size) : Mkd k (i + 1) (cs.setIfInBounds i (.int .i64 (k + (i : Int)))) := by
  intro j hj
  rcases Nat.lt_succ_iff_lt_or_eq.1 hj with hj | rfl
  · rw [Array.getElem?_setIfInBounds_ne (by omega)]; exact h j hj
  · simp [hi]
end

section
open Go.RowKit

theorem FtI.lt {T : TypeId} {w : World} {A : Option Addr} {n c : Nat} {l : List Int} {bs : List Nat} (h : FtI T w A n c l bs) : ∀ b ∈ bs, b < w.heap.size := by
  intro b hm
  rcases h.2 with ⟨_, e⟩ | ⟨g, xs, _, _, hh, _, e⟩
  · rw [e] at hm; cases hm
  · rw [e] at hm; simp at hm; subst hm; exact heap_lt hh
theorem FtR.lt {T : TypeId} {w : World} {s : Bool} {A : Option Addr} {n c : Nat} {B : Option Addr} {m d : Nat} {r : RatD} {bs : List Nat} (h : FtR T w s A n c B m d r bs) : ∀ b ∈ bs, b < w.heap.size := by
  obtain ⟨_, b1, b2, h1, h2, rfl⟩ := h
  intro b hb
  rcases List.mem_append.1 hb with hb | hb
  · exact h1.lt b hb
  · exact h2.lt b hb
theorem PtIn.lt {T : TypeId} {w : World} {cs : Array Value} {i : Nat} {p : PtD} {bs : List Nat} (h : PtIn T w cs i p bs) : ∀ b ∈ bs, b < w.heap.size := by
  obtain ⟨s, A, n, c, B, m, d, t, C, j, e, D, k, f, b1, b2, _, h1, h2, rfl⟩ := h
  intro b hb
  rcases List.mem_append.1 hb with hb | hb
  · exact h1.lt b hb
  · exact h2.lt b hb
end

section
open Go.RowKit
end

section
open Go.RowKit

theorem Ob.cellOf {bs : List Nat} {w W : World} (h : Ob bs w W) {b o : Nat} (hb : b < w.heap.size) (hn : b ∉ bs) : W.cell? ⟨b, o, none⟩ = w.cell? ⟨b, o, none⟩ := World.cell?_of_block (w := w) (h.block b hb hn)
end

section
open Go.RowKit



theorem info_pt : (Tryz.prog.info? 31).map (fun i => (i.zero, i.size, i.bytes)) = some (some (.agg #[.bool false, .slice none 0 0, .slice none 0 0, .bool false, .slice none 0 0, .slice none 0 0]), 6, 112) := by kernel_rfl
end

section
open Go.RowKit
end

section
open Go.RowKit
/-- A fraction in the blocks from lo to hi. -/
def OwX (T : TypeId) (lo hi : Nat) (w : World) (s : Bool) (A : Option Addr) (n c : Nat) (B : Option Addr) (m d : Nat) (r : RatD) : Prop :=
  ∃ bs, FtR T w s A n c B m d r bs ∧ Fp lo hi bs
section
variable {T : TypeId} {lo hi b0 : Nat} {w W : World} {s : Bool} {A : Option Addr} {n c : Nat} {B : Option Addr} {m d : Nat} {r : RatD} {bs : List Nat}
theorem OwX.of (h : OwR T b0 w s A n c B m d r) : OwX T b0 w.heap.size w s A n c B m d r := h
theorem OwX.rd (h : OwX T lo hi w s A n c B m d r) : RdR w s A n c B m d r := by
  obtain ⟨bs, h, _⟩ := h
  exact h.rd
theorem OwX.bl (h : OwX T lo hi w s A n c B m d r) (hb : Bl w W) : OwX T lo hi W s A n c B m d r := by
  obtain ⟨bs, h, hf⟩ := h
  exact ⟨bs, h.bl hb, hf⟩
theorem OwX.ob (h : OwX T lo hi w s A n c B m d r) (ho : Ob bs w W) (hd : ∀ b ∈ bs, b < lo ∨ hi ≤ b) : OwX T lo hi W s A n c B m d r := by
  obtain ⟨cs, h, hf⟩ := h
  refine ⟨cs, h.keep ho.size fun b hb => ho.block b (h.lt b hb) fun hm => ?_, hf⟩
  have h1 := hf.2 b hb
  have h2 := hd b hm
  omega
end

/-- A list of points in the blocks from lo to hi. -/
def OwPZ (TI TP : TypeId) (lo hi : Nat) (w : World) (A : Option Addr) (n c : Nat) (l : List PtD) : Prop :=
  l.length = n ∧ n ≤ c ∧ n ≤ 1048576 ∧ (n = 0 ∨ ∃ g cs fs, A = some ⟨g, 0, none⟩ ∧ Blk w g TP cs ∧ n * 6 ≤ cs.size ∧ PtsIn TI w cs l n fs ∧ Fp lo hi (g :: fs.flatten))
section
variable {TI TP : TypeId} {lo hi lo' hi' : Nat} {w W : World} {A : Option Addr} {n c : Nat} {l : List PtD} {bs : List Nat}
theorem OwPZ.rd (h : OwPZ TI TP lo hi w A n c l) : RdPS w A n c l := by
  obtain ⟨h1, h2, h3, h4⟩ := h
  rcases h4 with h4 | ⟨g, cs, fs, rfl, hB, hc, hP, hF⟩
  · subst h4
    obtain rfl := List.length_eq_zero_iff.1 h1
    exact RdS.nil _ _ _
  · exact hP.rd hB h1 (by omega) h2
theorem OwPZ.keep (h : OwPZ TI TP lo hi w A n c l) (hs : w.heap.size ≤ W.heap.size) (hk : ∀ b, lo ≤ b → b < hi → b < w.heap.size → W.heap[b]? = w.heap[b]?) : OwPZ TI TP lo hi W A n c l := by
  obtain ⟨h1, h2, h3, h4⟩ := h
  refine ⟨h1, h2, h3, ?_⟩
  rcases h4 with h4 | ⟨g, cs, fs, rfl, hB, hc, hP, hF⟩
  · exact .inl h4
  · have hg := hF.2 g (by simp)
    refine .inr ⟨g, cs, fs, rfl, (hk g hg.1 hg.2 hB.lt).trans hB, hc, ⟨hP.1, fun i hi => (hP.2 i hi).keep (fun _ _ => rfl) hs fun b hb => ?_⟩, hF⟩
    have hm := hF.2 b (List.mem_cons_of_mem _ (mem_flatten_pix hb))
    exact hk b hm.1 hm.2 ((hP.2 i hi).lt b hb)
theorem OwPZ.bl (h : OwPZ TI TP lo hi w A n c l) (hb : Bl w W) : OwPZ TI TP lo hi W A n c l := h.keep hb.size fun b _ _ hl => Below.block hb b hl
theorem OwPZ.ob (h : OwPZ TI TP lo hi w A n c l) (ho : Ob bs w W) (hd : ∀ b ∈ bs, b < lo ∨ hi ≤ b) : OwPZ TI TP lo hi W A n c l :=
  h.keep ho.size fun b h1 h2 hl => ho.block b hl fun hm => by have := hd b hm; omega
theorem OwPZ.low (h : OwPZ TI TP lo hi w A n c l) (h1 : lo' ≤ lo) (h2 : hi ≤ hi') : OwPZ TI TP lo' hi' w A n c l := by
  obtain ⟨a1, a2, a3, a4⟩ := h
  refine ⟨a1, a2, a3, ?_⟩
  rcases a4 with h4 | ⟨g, cs, fs, rfl, hB, hc, hP, hF⟩
  · exact .inl h4
  · exact .inr ⟨g, cs, fs, rfl, hB, hc, hP, hF.mono h1 h2⟩
end
end

section
open Go.RowKit
/-- A mesh in the blocks from lo to hi; its slices may have room to spare; or an empty one. -/
def OwMZ (lo hi : Nat) (w : World) (A : Option Addr) (n c : Nat) (B : Option Addr) (m d : Nat) (x : MeD) : Prop :=
  x.points.length = n ∧ x.tris.length = m ∧ n ≤ c ∧ m ≤ d ∧ n ≤ 1048576 ∧ m ≤ 1048576 ∧ ((n = 0 ∧ m = 0) ∨
    ∃ g g' cs cs' fs, A = some ⟨g, 0, none⟩ ∧ B = some ⟨g', 0, none⟩ ∧ Blk w g 31 cs ∧ Blk w g' 73 cs' ∧ n * 6 ≤ cs.size ∧ m * 5 ≤ cs'.size ∧ PtsIn 3 w cs x.points n fs ∧ TrsIn cs' x.tris m ∧ Fp lo hi (g :: g' :: fs.flatten))
section
variable {lo hi : Nat} {w W : World} {A : Option Addr} {n c : Nat} {B : Option Addr} {m d : Nat} {x : MeD}
theorem OwMZ.bl (h : OwMZ lo hi w A n c B m d x) (hb : Bl w W) : OwMZ lo hi W A n c B m d x := by
  obtain ⟨h1, h2, h3, h4, h5, h6, h7⟩ := h
  refine ⟨h1, h2, h3, h4, h5, h6, ?_⟩
  rcases h7 with h7 | ⟨g, g', cs, cs', fs, rfl, rfl, a1, a2, a3, a4, a5, a6, a7⟩
  · exact .inl h7
  · refine .inr ⟨g, g', cs, cs', fs, rfl, rfl, a1.bl hb, a2.bl hb, a3, a4, a5.bl hb fun b hm => ?_, a6, a7⟩
    obtain ⟨l, hl', hb'⟩ := List.mem_flatten.1 hm
    obtain ⟨i, hi, rfl⟩ := List.getElem_of_mem hl'
    exact (a5.2 i (by rw [← a5.1]; exact hi)).lt b (by simpa [pix, hi] using hb')
theorem OwMZ.low {lo' hi' : Nat} (h : OwMZ lo hi w A n c B m d x) (h1 : lo' ≤ lo) (h2 : hi ≤ hi') : OwMZ lo' hi' w A n c B m d x := by
  obtain ⟨b1, b2, b3, b4, b5, b6, h7⟩ := h
  refine ⟨b1, b2, b3, b4, b5, b6, ?_⟩
  rcases h7 with h7 | ⟨g, g', cs, cs', fs, rfl, rfl, a1, a2, a3, a4, a5, a6, a7⟩
  · exact .inl h7
  · exact .inr ⟨g, g', cs, cs', fs, rfl, rfl, a1, a2, a3, a4, a5, a6, a7.mono h1 h2⟩
theorem OwMZ.keep (h : OwMZ lo hi w A n c B m d x) (hs : w.heap.size ≤ W.heap.size) (hk : ∀ b, lo ≤ b → b < hi → b < w.heap.size → W.heap[b]? = w.heap[b]?) : OwMZ lo hi W A n c B m d x := by
  obtain ⟨b1, b2, b3, b4, b5, b6, h7⟩ := h
  refine ⟨b1, b2, b3, b4, b5, b6, ?_⟩
  rcases h7 with h7 | ⟨g, g', cs, cs', fs, rfl, rfl, a1, a2, a3, a4, a5, a6, a7⟩
  · exact .inl h7
  · have hg := a7.2 g (by simp)
    have hg' := a7.2 g' (by simp)
    refine .inr ⟨g, g', cs, cs', fs, rfl, rfl, (hk g hg.1 hg.2 a1.lt).trans a1, (hk g' hg'.1 hg'.2 a2.lt).trans a2, a3, a4, ⟨a5.1, fun i hi => (a5.2 i hi).keep (fun _ _ => rfl) hs fun b hb => ?_⟩, a6, a7⟩
    have hm := a7.2 b (List.mem_cons_of_mem _ (List.mem_cons_of_mem _ (mem_flatten_pix hb)))
    exact hk b hm.1 hm.2 ((a5.2 i hi).lt b hb)
theorem OwMZ.set (h : OwMZ lo hi w A n c B m d x) {q : Addr} (hq : q.block < lo ∨ hi ≤ q.block) (u : Value) : OwMZ lo hi (w.setCell q u) A n c B m d x :=
  h.keep (by simp) fun b h1 h2 _ => Below.heap_setCell w q u b (by omega)
end
end

end Go.Proofs.YtajlahjghapbkaaGreat
