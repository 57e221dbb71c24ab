/- Lemmas. -/
import Derived.Test.YtjaapemopbbfaaaGreatDoorRows
import Derived.Test.YtjaapemopbbfaaaGreatDoorPPointsM09
import Derived.Test.YtjaapemopbbfaaaGreatDoorPPointsM03
namespace Go.Proofs.YtjaapemopbbfaaaGreatDoor
section
open Go.RowKit

theorem natDiv_any (w : World) {A B : Option Addr} {n m c d N M : Nat} (ha : IsN w A n c N) (hb : IsN w B m d M) (hn : n ≤ 1048576) (hm : m ≤ 1048576) (h0 : 0 < M) :
    Calls Tryz.prog 153 #[.slice A n c, .slice B m d] w (DivPost 3 w N M) := by
  rcases Nat.lt_or_ge N M with hlt | hle
  · exact natDiv_less w ha hb hn hm hlt
  · have hm0 := dig_len_pos.2 h0
    have hnm := dig_len_mono hle
    rw [hb.lenN] at hm0 hnm
    rw [ha.lenN] at hnm
    by_cases h1 : m = 1
    · subst h1
      exact natDiv_one w ha hb hn hle
    · exact natDiv_long w (p := m - 2) (t := n - m) ha hb hn hle (by omega) (by omega)

theorem RdI.inj {w : World} {A : Option Addr} {n c : Nat} {l l' : List Int} (h : RdI w A n c l) (h' : RdI w A n c l') : l = l' := by
  apply List.ext_getElem (by rw [h.len, h'.len])
  intro i h1 h2
  obtain ⟨ad, e, _, hc⟩ := h.at_ (k := i) (by rw [← h.len]; exact h1)
  obtain ⟨ad', e', _, hc'⟩ := h'.at_ (k := i) (by rw [← h'.len]; exact h2)
  rw [e] at e'
  injection e' with e'
  subst e'
  rw [hc] at hc'
  have : ix l i = ix l' i := by simpa using hc'
  simpa [ix, h1, h2] using this
theorem IsN.inj {w : World} {A : Option Addr} {n c N M : Nat} (h : IsN w A n c N) (h' : IsN w A n c M) : N = M := by
  have := ints_inj (RdI.inj h h')
  rw [← val_dig N, this, val_dig]
open Classical in
/-- The number that a slice reads as. -/
noncomputable def numAt (w : World) (v : Value) : Nat := if h : ∃ N, match v with | .slice A n c => IsN w A n c N | _ => False then h.choose else 0
theorem numAt_eq {w : World} {A : Option Addr} {n c N : Nat} (h : IsN w A n c N) : numAt w (.slice A n c) = N := by
  have hx : ∃ M, IsN w A n c M := ⟨N, h⟩
  unfold numAt
  simp only []
  rw [dif_pos hx]
  exact IsN.inj hx.choose_spec h

set_option maxHeartbeats 4000000 in
theorem natGcd_any (w : World) {A B : Option Addr} {n m c d N M : Nat} (ha : IsN w A n c N) (hb : IsN w B m d M) (hn : n ≤ 1048576) (hm : m ≤ 1048576) :
    Calls Tryz.prog 107 #[.slice A n c, .slice B m d] w fun e w' => ∃ A' n' c', e = .returned (.slice A' n' c') ∧ OwI 3 w.heap.size w' A' n' c' (ints (dig (Nat.gcd N M))) ∧ Bl w w' := by
  go_enter Tryz.func107, Tryz.ntmps107
  go_wp2_with fail
  go_loopw [0, 1] (fun x y wr => ∃ (A1 B1 : Option Addr) (n1 c1 m1 d1 N1 M1 : Nat), x = .slice A1 n1 c1 ∧ y = .slice B1 m1 d1 ∧ IsN wr A1 n1 c1 N1 ∧ IsN wr B1 m1 d1 M1 ∧ n1 ≤ 1048576 ∧ m1 ≤ 1048576 ∧ Hid (Nat.gcd N1 M1 = Nat.gcd N M) ∧ Bl w wr) (fun _ y wr => numAt wr y)
  case atStart => exact ⟨A, B, n, c, m, d, N, M, rfl, rfl, ha, hb, hn, hm, rfl, Bl.refl w⟩
  case round =>
    obtain ⟨A1, B1, n1, c1, m1, d1, N1, M1, rfl, rfl, ha1, hb1, hn1, hm1, hg, hbw⟩ := hrel
    have hml := Lib.hid hb1.lenN
    by_cases h0 : m1 = 0
    · subst h0
      have hM : M1 = 0 := by
        have := dig_len_pos (n := M1)
        rw [hml.out] at this
        omega
      have hN : Hid (N1 = Nat.gcd N M) := by unfold Hid; rw [← hg.out, hM, Nat.gcd_zero_right]
      clear hM
      go_wp2_with fail
      refine (Clone_any _ ha1 hn1).mono ?_
      rintro e w2 ⟨A', n', c', rfl, hO, hb2⟩
      rw [hN.out] at hO
      have hb3 := hbw.next hb2
      have hO := hO.mono0 (show w.heap.size ≤ _ from hbw.size)
      go_wp2_with fail
      go_ret
      exact ⟨_, _, _, rfl, hO, hb3⟩
    · have hM : 0 < M1 := by
        have := dig_len_pos (n := M1)
        rw [hml.out] at this
        omega
      have h0i : 0 < (m1 : Int) := by omega
      have hgn : Hid (Nat.gcd M1 (N1 % M1) = Nat.gcd N M) := by unfold Hid; rw [← hg.out, Nat.gcd_comm N1 M1, Nat.gcd_rec M1 N1, Nat.gcd_comm]
      have hmd := Nat.mod_lt N1 hM
      have hnm := numAt_eq hb1
      go_wp2_with fail
      refine (natDiv_any _ ha1 hb1 hn1 hm1 hM).mono ?_
      rintro e w2 ⟨A2, n2, c2, A3, n3, c3, rfl, hO2, hO3, hb2⟩
      have hb3 := hbw.next hb2
      have hn3 : n3 ≤ 1048576 := by
        have h1 := dig_len_mono (Nat.le_of_lt hmd)
        rw [hO3.rd.lenN, hml.out] at h1
        omega
      have hnm3 := numAt_eq hO3.rd
      have hb1' := hb1.bl hb2
      go_wp2_with fail
      go_roundw
      case rel => exact ⟨_, _, _, _, _, _, _, _, rfl, rfl, hb1', hO3.rd, hm1, hn3, hgn, hb3⟩
      case measure => rw [hnm, hnm3]; exact hmd
end

section
open Go.RowKit

/-- All limbs lie in their bounds. -/
def AllIn (l : List Int) : Prop := ∀ k, k < l.length → 0 ≤ ix l k ∧ ix l k ≤ 999999999
def InTo (l : List Int) (k : Nat) : Prop := ∀ j, j < k → 0 ≤ ix l j ∧ ix l j ≤ 999999999
theorem InTo.zero (l : List Int) : InTo l 0 := fun j hj => by omega
theorem InTo.step {l : List Int} {k : Nat} (h : InTo l k) (h0 : 0 ≤ ix l k) (h1 : ix l k ≤ 999999999) : InTo l (k + 1) := by
  intro j hj
  rcases Nat.lt_succ_iff_lt_or_eq.1 hj with hj | rfl
  · exact h j hj
  · exact ⟨h0, h1⟩

set_option maxHeartbeats 1600000 in
theorem NatOkF_any (w : World) (x : Int) :
    Calls Tryz.prog 152 #[.int .i64 x] w fun e w' => e = .returned (.bool (!(decide (0 ≤ x) && decide (x ≤ 999999999)))) ∧ ∃ q, w' = w.drewN q := by
  go_enter Tryz.func152, Tryz.ntmps152
  go_wp2_with fail
  refine (within_any _ _ _ _).mono ?_
  rintro e w1 ⟨rfl, hq⟩
  go_wp2_with fail
  go_ret
  exact ⟨ret_bool (by rw [Bool.not_and]), hq⟩
/-- The index is -1 just where P holds. -/
def IdxPost (P : Prop) (w : World) (e : Ending) (w' : World) : Prop := ∃ i : Int, e = .returned (.int .i64 i) ∧ (P → i = -1) ∧ (¬ P → 0 ≤ i) ∧ ∃ q, w' = w.drewN q
set_option maxHeartbeats 1600000 in
theorem IndexInt_any (w : World) {A : Option Addr} {n c : Nat} {l : List Int} (h : RdI w A n c l) :
    Calls Tryz.prog 195 #[.slice A n c, .func (.func 152) #[] #[]] w (IdxPost (AllIn l) w) := by
  have hn := h.small
  have hl := Lib.hid h.len
  go_enter Tryz.func195, Tryz.ntmps195
  go_wp2_with fail
  go_loopw [8] (fun i wr => ∃ k : Nat, k ≤ n ∧ i = .int .i64 (k : Int) ∧ InTo l k ∧ ∃ q, wr = w.drewN q) (fun i _ => n - (intOf i).toNat)
  case atStart => exact ⟨0, Nat.zero_le _, rfl, InTo.zero _, 0, rfl⟩
  case round =>
    obtain ⟨k, hk, rfl, hin, q, rfl⟩ := hrel
    by_cases hkn : k < n
    · have hki : (k : Int) < (n : Int) := by omega
      obtain ⟨ad, rfl, hlt, hc⟩ := h.at_ hkn
      by_cases hx : 0 ≤ ix l k ∧ ix l k ≤ 999999999
      · have hin' := hin.step hx.1 hx.2
        have hb : (!(decide (0 ≤ ix l k) && decide (ix l k ≤ 999999999))) = false := by simp [hx.1, hx.2]
        clear hin hx
        go_wp2_with fail
        refine (NatOkF_any _ _).mono ?_
        rw [hb]
        clear hb
        rintro e w1 ⟨rfl, q1, rfl⟩
        go_wp2_with fail
        go_roundw
        case rel => exact ⟨k + 1, by omega, by go_num, hin', (by first | exact ⟨_, rfl⟩ | exact ⟨0, rfl⟩ | exact q_drewN ⟨_, rfl⟩ | exact q_drewN (q_drewN ⟨_, rfl⟩))⟩
        case measure => simp [intOf]; omega
      · have hno : ¬ AllIn l := fun ha => hx (ha k (by rw [hl.out]; exact hkn))
        have hno := Lib.hid hno; rename_i h_; clear h_
        have hb : (!(decide (0 ≤ ix l k) && decide (ix l k ≤ 999999999))) = true := by
          rw [← Bool.decide_and, decide_eq_false hx]; rfl
        clear hin hx
        go_wp2_with fail
        refine (NatOkF_any _ _).mono ?_
        rw [hb]
        clear hb
        rintro e w1 ⟨rfl, q1, rfl⟩
        go_wp2_with fail
        go_ret
        exact ⟨_, rfl, fun ha => absurd ha hno.out, fun _ => by omega, (by first | exact ⟨_, rfl⟩ | exact ⟨0, rfl⟩ | exact q_drewN ⟨_, rfl⟩ | exact q_drewN (q_drewN ⟨_, rfl⟩))⟩
    · have hall : AllIn l := fun j hj => hin j (by rw [hl.out] at hj; omega)
      have hall := Lib.hid hall; rename_i h_; clear h_
      go_wp2_with fail
      go_ret
      exact ⟨_, rfl, fun _ => rfl, fun hno => absurd hall.out hno, (by first | exact ⟨_, rfl⟩ | exact ⟨0, rfl⟩ | exact q_drewN ⟨_, rfl⟩ | exact q_drewN (q_drewN ⟨_, rfl⟩))⟩
theorem ContainsInt_yes (w : World) {A : Option Addr} {n c : Nat} {l : List Int} (h : RdI w A n c l) (hp : AllIn l) :
    Calls Tryz.prog 151 #[.slice A n c, .func (.func 152) #[] #[]] w fun e w' => e = .returned (.bool false) ∧ ∃ q, w' = w.drewN q := by
  have hp := Lib.hid hp; rename_i h_; clear h_
  go_enter Tryz.func151, Tryz.ntmps151
  go_wp2_with fail
  refine (IndexInt_any _ h).mono ?_
  rintro e w1 ⟨i, rfl, h1, _, q, rfl⟩
  have h1 := h1 hp.out
  subst h1
  go_wp2_with fail
  go_ret
  exact ⟨rfl, q, rfl⟩
theorem ContainsInt_no (w : World) {A : Option Addr} {n c : Nat} {l : List Int} (h : RdI w A n c l) (hp : ¬ AllIn l) :
    Calls Tryz.prog 151 #[.slice A n c, .func (.func 152) #[] #[]] w fun e w' => e = .returned (.bool true) ∧ ∃ q, w' = w.drewN q := by
  have hp := Lib.hid hp; rename_i h_; clear h_
  go_enter Tryz.func151, Tryz.ntmps151
  go_wp2_with fail
  refine (IndexInt_any _ h).mono ?_
  rintro e w1 ⟨i, rfl, _, h1, q, rfl⟩
  have h1 := h1 hp.out
  go_wp2_with fail
  go_ret
  exact ⟨rfl, q, rfl⟩

theorem okN_of {l : List Int} (h : OkN l) : okN l = true := okN_true.2 h
theorem okN_no {l : List Int} (h : ¬ OkN l) : okN l = false := okN_false.2 h
set_option maxHeartbeats 1600000 in
theorem NatOk_any (w : World) {A : Option Addr} {n c : Nat} {l : List Int} (h : RdI w A n c l) :
    Calls Tryz.prog 103 #[.slice A n c] w fun e w' => e = .returned (.bool (okN l)) ∧ ∃ q, w' = w.drewN q := by
  have hl := h.len
  have hsm := h.small
  have hiff := okN_iff l
  rw [hl] at hiff
  by_cases h60 : n ≤ 60
  · have d60 : decide ((n : Int) ≤ 60) = true := by simp; omega
    have body : ∀ (hz : n = 0 ∨ ix l (n - 1) ≠ 0), Calls Tryz.prog 103 #[.slice A n c] w fun e w' => e = .returned (.bool (okN l)) ∧ ∃ q, w' = w.drewN q := by
      intro hz
      by_cases hall : AllIn l
      · have hok := okN_of (hiff.2 ⟨h60, hz, fun k hk => hall k (by omega)⟩)
        rw [hok]
        clear hiff hok
        rcases Nat.eq_zero_or_pos n with h0 | h0
        · subst h0
          clear hz
          go_enter Tryz.func103, Tryz.ntmps103
          go_wp2_with (go_at_call 151; refine (ContainsInt_yes _ h hall).mono ?_; rintro e w1 ⟨rfl, q, rfl⟩)
          go_ret
          exact ⟨rfl, q, rfl⟩
        · have hz := hz.resolve_left (by omega)
          have hne : ((n : Int) == 0) = false := by simp; omega
          have hnz : ((ix l (n - 1)) != 0) = true := by simpa using hz
          have hki : (n : Int) - 1 = ((n - 1 : Nat) : Int) := by omega
          obtain ⟨ad, rfl, hlt, hc⟩ := h.at_ (k := n - 1) (by omega)
          clear hz
          have hl := Lib.hid hl; rename_i h_; clear h_
          go_enter Tryz.func103, Tryz.ntmps103
          go_wp2_with (go_at_call 151; refine (ContainsInt_yes _ h hall).mono ?_; rintro e w1 ⟨rfl, q, rfl⟩)
          go_ret
          exact ⟨rfl, q, rfl⟩
      · have hok := okN_no (fun hk => hall fun k hkl => (hiff.1 hk).2.2 k (by omega))
        rw [hok]
        clear hiff hok
        rcases Nat.eq_zero_or_pos n with h0 | h0
        · exact absurd (fun k hk => by omega) hall
        · have hz := hz.resolve_left (by omega)
          have hne : ((n : Int) == 0) = false := by simp; omega
          have hnz : ((ix l (n - 1)) != 0) = true := by simpa using hz
          have hki : (n : Int) - 1 = ((n - 1 : Nat) : Int) := by omega
          obtain ⟨ad, rfl, hlt, hc⟩ := h.at_ (k := n - 1) (by omega)
          clear hz
          have hl := Lib.hid hl; rename_i h_; clear h_
          have hall := Lib.hid hall; rename_i h_; clear h_
          go_enter Tryz.func103, Tryz.ntmps103
          go_wp2_with (go_at_call 151; refine (ContainsInt_no _ h hall.out).mono ?_; rintro e w1 ⟨rfl, q, rfl⟩)
          go_ret
          exact ⟨rfl, q, rfl⟩
    by_cases hz : n = 0 ∨ ix l (n - 1) ≠ 0
    · exact body hz
    · have hok := okN_no (fun hk => hz (hiff.1 hk).2.1)
      rw [hok]
      have hz2 : ix l (n - 1) = 0 := by
        by_cases e : ix l (n - 1) = 0
        · exact e
        · exact absurd (.inr e) hz
      have hn0 : 0 < n := by
        rcases Nat.eq_zero_or_pos n with e | e
        · exact absurd (.inl e) hz
        · exact e
      have hne : ((n : Int) == 0) = false := by simp; omega
      have hki : (n : Int) - 1 = ((n - 1 : Nat) : Int) := by omega
      obtain ⟨ad, rfl, hlt, hc⟩ := h.at_ (k := n - 1) (by omega)
      rw [hz2] at hc
      clear hiff hok hz hz2 body
      have hl := Lib.hid hl; rename_i h_; clear h_
      go_enter Tryz.func103, Tryz.ntmps103
      go_wp2_with fail
      go_ret
      exact ⟨rfl, 0, rfl⟩
  · have hok := okN_no (fun hk => h60 (hiff.1 hk).1)
    rw [hok]
    have d60 : decide ((n : Int) ≤ 60) = false := by simp; omega
    clear hiff hok
    have hl := Lib.hid hl; rename_i h_; clear h_
    go_enter Tryz.func103, Tryz.ntmps103
    go_wp2_with fail
    go_ret
    exact ⟨rfl, 0, rfl⟩



/-- A valid integer over limbs. -/
def OkB (s : Bool) (l : List Int) : Prop := OkN l ∧ (s = true → 0 < l.length)
open Classical in
noncomputable def okB (s : Bool) (l : List Int) : Bool := decide (OkB s l)
theorem okB_yes {s : Bool} {l : List Int} (h : OkB s l) : okB s l = true := by unfold okB; simp [h]
theorem okB_no {s : Bool} {l : List Int} (h : ¬ OkB s l) : okB s l = false := by unfold okB; simp [h]
set_option maxHeartbeats 1600000 in
theorem BigIntOk_any (w : World) {s : Bool} {A : Option Addr} {n c : Nat} {l : List Int} (h : RdI w A n c l) :
    Calls Tryz.prog 102 #[.agg #[.bool s, .slice A n c]] w fun e w' => e = .returned (.bool (okB s l)) ∧ Bl w w' := by
  have hl := h.len
  have hsm := h.small
  by_cases hN : OkN l
  · have h1 := okN_of hN
    rcases s with _ | _
    · have h2 := okB_yes (s := false) ⟨hN, fun e => by cases e⟩
      rw [h2]
      clear h2 hN hl
      go_enter Tryz.func102, Tryz.ntmps102
      go_wp2_with (go_at_call 103; refine (NatOk_any _ (h.alloc _)).mono ?_; rw [h1]; rintro e w1 ⟨rfl, q, rfl⟩)
      go_ret
      exact ⟨rfl, slc⟩
    · rcases Nat.eq_zero_or_pos n with h0 | h0
      · subst h0
        have h2 := okB_no (s := true) (l := l) (fun hk => by have := hk.2 rfl; omega)
        rw [h2]
        clear h2 hN hl
        go_enter Tryz.func102, Tryz.ntmps102
        go_wp2_with (go_at_call 103; refine (NatOk_any _ (h.alloc _)).mono ?_; rw [h1]; rintro e w1 ⟨rfl, q, rfl⟩)
        go_ret
        exact ⟨rfl, slc⟩
      · have h2 := okB_yes (s := true) ⟨hN, fun _ => by omega⟩
        rw [h2]
        have hi : 0 < (n : Int) := by omega
        clear h2 hN hl
        go_enter Tryz.func102, Tryz.ntmps102
        go_wp2_with (go_at_call 103; refine (NatOk_any _ (h.alloc _)).mono ?_; rw [h1]; rintro e w1 ⟨rfl, q, rfl⟩)
        go_ret
        exact ⟨rfl, slc⟩
  · have h1 := okN_no hN
    have h2 := okB_no (s := s) (fun hk => hN hk.1)
    rw [h2]
    clear h2 hl
    have hN := Lib.hid hN; rename_i h_; clear h_
    go_enter Tryz.func102, Tryz.ntmps102
    go_wp2_with (go_at_call 103; refine (NatOk_any _ (h.alloc _)).mono ?_; rw [h1]; rintro e w1 ⟨rfl, q, rfl⟩)
    go_ret
    exact ⟨rfl, slc⟩

/-- A fraction in memory. -/
abbrev IsR (w : World) (s : Bool) (A : Option Addr) (n c : Nat) (B : Option Addr) (m d : Nat) (x : Int) (D : Nat) : Prop := RdR w s A n c B m d (raw x D)
theorem IsR.num {w : World} {s : Bool} {A : Option Addr} {n c : Nat} {B : Option Addr} {m d : Nat} {x : Int} {D : Nat} (h : IsR w s A n c B m d x D) : IsN w A n c x.natAbs := h.mag
theorem IsR.dn {w : World} {s : Bool} {A : Option Addr} {n c : Nat} {B : Option Addr} {m d : Nat} {x : Int} {D : Nat} (h : IsR w s A n c B m d x D) : IsN w B m d D := h.den
theorem IsR.sgn {w : World} {s : Bool} {A : Option Addr} {n c : Nat} {B : Option Addr} {m d : Nat} {x : Int} {D : Nat} (h : IsR w s A n c B m d x D) : s = decide (x < 0) := h.neg
theorem IsR.out {w : World} {s : Bool} {A : Option Addr} {n c : Nat} {B : Option Addr} {m d : Nat} {r : RatD} (h : RdR w s A n c B m d r) (ho : OkR r) : IsR w s A n c B m d (rn r) (rd r) := by
  have := ho.get.1
  rw [this] at h
  exact h

theorem isSmall_yes (w : World) {s : Bool} {A : Option Addr} {n c : Nat} {B : Option Addr} {m d : Nat} (hn : n ≤ 1) (hm : m = 1) :
    Calls Tryz.prog 104 #[.agg #[.bool s, .slice A n c, .slice B m d]] w fun e w' => e = .returned (.bool true) ∧ Bl w w' := by
  subst hm
  have hi : decide ((n : Int) ≤ 1) = true := by simp; omega
  clear hn
  go_enter Tryz.func104, Tryz.ntmps104
  go_wp2_with fail
  go_ret
  exact ⟨rfl, slc⟩
theorem isSmall_no (w : World) {s : Bool} {A : Option Addr} {n c : Nat} {B : Option Addr} {m d : Nat} (h : ¬ (n ≤ 1 ∧ m = 1)) :
    Calls Tryz.prog 104 #[.agg #[.bool s, .slice A n c, .slice B m d]] w fun e w' => e = .returned (.bool false) ∧ Bl w w' := by
  by_cases h1 : n ≤ 1
  · have hi : decide ((n : Int) ≤ 1) = true := by simp; omega
    have hj : ((m : Int) == 1) = false := by simp; omega
    clear h1 h
    go_enter Tryz.func104, Tryz.ntmps104
    go_wp2_with fail
    go_ret
    exact ⟨rfl, slc⟩
  · have hi : decide ((n : Int) ≤ 1) = false := by simp; omega
    clear h1 h
    go_enter Tryz.func104, Tryz.ntmps104
    go_wp2_with fail
    go_ret
    exact ⟨rfl, slc⟩
theorem one_limb {N : Nat} (h : (dig N).length = 1) : dx (dig N) 0 = N ∧ N < 1000000000 ∧ 0 < N := dig_one h
theorem small_le {N : Nat} (h : (dig N).length ≤ 1) : N < 1000000000 := by
  have := dig_len_le.1 h
  rw [Bs_eq] at this
  omega
set_option maxHeartbeats 1600000 in
theorem small_any (w : World) {s : Bool} {A : Option Addr} {n c : Nat} {B : Option Addr} {d : Nat} {x : Int} {D : Nat} (h : IsR w s A n c B 1 d x D) (hn : n ≤ 1) :
    Calls Tryz.prog 105 #[.agg #[.bool s, .slice A n c, .slice B 1 d]] w fun e w' => e = .returned (.tuple #[.int .i64 x, .int .i64 (D : Int)]) ∧ Bl w w' := by
  obtain ⟨bd, rfl, hltb, hcb⟩ := h.dn.atN (k := 0) (by omega)
  have hD := one_limb h.dn.lenN
  rw [hD.1] at hcb
  have hcb : w.cell? bd = some (.int .i64 (D : Int)) := by rw [← hcb, Addr.add_zero']
  obtain ⟨_, hD1, hD2⟩ := hD
  have hsg := h.sgn
  rcases Nat.eq_zero_or_pos n with h0 | h0
  · subst h0
    have hx : x = 0 := by
      have := h.num.lenN
      have := dig_nil.1 (List.length_eq_zero_iff.1 this)
      omega
    subst hx
    obtain rfl : s = false := by rw [hsg]; rfl
    clear hsg
    go_enter Tryz.func105, Tryz.ntmps105
    go_wp2_with fail
    go_quiet (fail)
    go_wp2_with fail
    go_ret2
    exact ⟨rfl, slc⟩
  · obtain rfl : n = 1 := by omega
    obtain ⟨ad, rfl, hlt, hc⟩ := h.num.atN (k := 0) (by omega)
    have hx := one_limb h.num.lenN
    rw [hx.1] at hc
    have hc : w.cell? ad = some (.int .i64 (x.natAbs : Int)) := by rw [← hc, Addr.add_zero']
    obtain ⟨_, hx1, hx2⟩ := hx
    rcases Int.lt_or_le x 0 with hx0 | hx0
    · obtain rfl : s = true := by rw [hsg]; simp [hx0]
      have e : (x.natAbs : Int) = -x := by omega
      rw [e] at hc
      have hb1 : 0 ≤ -x := by omega
      have hb2 : -x ≤ 1000000000 := by omega
      have e2 : -(-x) = x := by omega
      clear hsg e hx1 hx2
      go_enter Tryz.func105, Tryz.ntmps105
      go_wp2_with fail
      go_quiet (fail)
      go_wp2_with fail
      go_ret2
      exact ⟨rfl, slc⟩
    · obtain rfl : s = false := by rw [hsg]; simp; omega
      have e : (x.natAbs : Int) = x := by omega
      rw [e] at hc
      clear hsg e hx1 hx2
      go_enter Tryz.func105, Tryz.ntmps105
      go_wp2_with fail
      go_quiet (fail)
      go_wp2_with fail
      go_ret2
      exact ⟨rfl, slc⟩

set_option maxHeartbeats 1600000 in
theorem gcd_any (w : World) (a b : Nat) (ha : a ≤ 9223372036854775807) (hb : b ≤ 9223372036854775807) :
    Calls Tryz.prog 106 #[.int .i64 (a : Int), .int .i64 (b : Int)] w fun e w' => e = .returned (.int .i64 ((Nat.gcd a b : Nat) : Int)) ∧ ∃ q, w' = w.drewN q := by
  go_enter Tryz.func106, Tryz.ntmps106
  go_wp2_with fail
  go_loopw [0, 1] (fun u v wr => ∃ x y : Nat, u = .int .i64 (x : Int) ∧ v = .int .i64 (y : Int) ∧ x ≤ 9223372036854775807 ∧ y ≤ 9223372036854775807 ∧ Hid (Nat.gcd x y = Nat.gcd a b) ∧ ∃ q, wr = w.drewN q) (fun _ v _ => (intOf v).toNat)
  case atStart => exact ⟨a, b, rfl, rfl, ha, hb, rfl, 0, rfl⟩
  case round =>
    obtain ⟨x, y, rfl, rfl, hx, hy, hg, q, rfl⟩ := hrel
    rcases Nat.eq_zero_or_pos y with h0 | h0
    · subst h0
      have hfin : Hid ((x : Int) = ((Nat.gcd a b : Nat) : Int)) := by unfold Hid; rw [← hg.out, Nat.gcd_zero_right]
      go_wp2_with fail
      go_ret
      exact ⟨ret_int hfin.out, q, rfl⟩
    · have hyi : 0 < (y : Int) := by omega
      have hne : ((y : Int) == 0) = false := by simp; omega
      have hne2 : (y : Int) ≠ 0 := by omega
      have hml := Nat.mod_lt x h0
      have hmi := Int.emod_nonneg (x : Int) hne2
      have hg' : Hid (Nat.gcd y (x % y) = Nat.gcd a b) := by unfold Hid; rw [← hg.out, Nat.gcd_comm x y, Nat.gcd_rec y x, Nat.gcd_comm]
      clear hg
      go_wp2_with fail
      go_quiet (fail)
      go_wp2_with fail
      go_roundw
      case rel => exact ⟨y, x % y, rfl, by rw [Int.natCast_emod], hy, by omega, hg', (by first | exact ⟨_, rfl⟩ | exact ⟨0, rfl⟩ | exact q_drewN ⟨_, rfl⟩ | exact q_drewN (q_drewN ⟨_, rfl⟩))⟩
      case measure => simp [intOf]; omega

theorem gcd_int (w : World) {u : Int} (a b : Nat) (hu : u = (a : Int)) (ha : a ≤ 9223372036854775807) (hb : b ≤ 9223372036854775807) :
    Calls Tryz.prog 106 #[.int .i64 u, .int .i64 (b : Int)] w fun e w' => e = .returned (.int .i64 ((Nat.gcd a b : Nat) : Int)) ∧ ∃ q, w' = w.drewN q := by
  subst hu
  exact gcd_any w a b ha hb

set_option maxHeartbeats 1600000 in
theorem isOne_yes (w : World) {A : Option Addr} {n c : Nat} (h : IsN w A n c 1) :
    Calls Tryz.prog 97 #[.slice A n c] w fun e w' => e = .returned (.bool true) ∧ ∃ q, w' = w.drewN q := by
  have hd : dig 1 = [1] := by rw [dig_pos (by omega), show 1 / Bs = 0 from by rw [Bs_eq], dig_zero]; rfl
  obtain rfl : n = 1 := by have := h.lenN; rw [hd] at this; exact this.symm
  obtain ⟨ad, rfl, hlt, hc⟩ := h.atN (k := 0) (by omega)
  rw [hd] at hc
  have hc : w.cell? ad = some (.int .i64 1) := by rw [← Addr.add_zero' ad]; exact hc
  clear hd h
  go_enter Tryz.func97, Tryz.ntmps97
  go_wp2_with fail
  go_ret
  exact ⟨rfl, 0, rfl⟩
set_option maxHeartbeats 1600000 in
theorem isOne_no (w : World) {A : Option Addr} {n c N : Nat} (h : IsN w A n c N) (hN : N ≠ 1) :
    Calls Tryz.prog 97 #[.slice A n c] w fun e w' => e = .returned (.bool false) ∧ ∃ q, w' = w.drewN q := by
  have hsm := h.small
  by_cases h1 : n = 1
  · subst h1
    obtain ⟨ad, rfl, hlt, hc⟩ := h.atN (k := 0) (by omega)
    rw [(one_limb h.lenN).1] at hc
    have hc : w.cell? ad = some (.int .i64 (N : Int)) := by rw [← hc, Addr.add_zero']
    have hne : ((N : Int) == 1) = false := by simp; omega
    clear h hN
    go_enter Tryz.func97, Tryz.ntmps97
    go_wp2_with fail
    go_ret
    exact ⟨rfl, 0, rfl⟩
  · have hne : ((n : Int) == 1) = false := by simp; omega
    clear h hN h1
    go_enter Tryz.func97, Tryz.ntmps97
    go_wp2_with fail
    go_ret
    exact ⟨rfl, 0, rfl⟩
end

end Go.Proofs.YtjaapemopbbfaaaGreatDoor
