/- Lemmas. -/
import Derived.Test.YtjaapemopbbfaaaGreatDoorRows
import Derived.Test.YtjaapemopbbfaaaGreatDoorPPointsM01
import Derived.Test.YtjaapemopbbfaaaGreatDoorPPointsM03
import Derived.Test.YtjaapemopbbfaaaGreatDoorPPointsM04
import Derived.Test.YtjaapemopbbfaaaGreatDoorPPointsM13
import Derived.Laws.AppendOwn
namespace Go.Proofs.YtjaapemopbbfaaaGreatDoor
section
open Go.RowKit

/-- Two lists are equal up to place k. -/
def eqTo (a b : List Int) : Nat → Bool
  | 0 => true
  | k + 1 => eqTo a b k && (ix a k == ix b k)
def eqL (a b : List Int) : Bool := a == b

theorem eqTo_step {xs ys : List Int} {k : Nat} (h : eqTo xs ys k = true) (he : ix xs k = ix ys k) : eqTo xs ys (k + 1) = true := by simp [eqTo, h, he]
theorem eqTo_iff {xs ys : List Int} {k : Nat} : eqTo xs ys k = true ↔ ∀ i, i < k → ix xs i = ix ys i := by
  induction k with
  | zero => simp [eqTo]
  | succ k ih =>
    simp only [eqTo, Bool.and_eq_true, ih, beq_iff_eq]
    constructor
    · rintro ⟨h1, h2⟩ i hi
      rcases Nat.lt_succ_iff_lt_or_eq.1 hi with h | rfl
      · exact h1 i h
      · exact h2
    · intro h
      exact ⟨fun i hi => h i (by omega), h k (by omega)⟩
theorem eqL_same {xs ys : List Int} (h : xs.length = ys.length) : eqL xs ys = eqTo xs ys xs.length := by
  rw [Bool.eq_iff_iff, eqTo_iff]
  unfold eqL
  rw [beq_iff_eq]
  constructor
  · rintro rfl i _; rfl
  · intro hh
    apply List.ext_getElem h
    intro i h1 h2
    have := hh i h1
    simpa [ix, h1, h2] using this
theorem eqL_no {xs ys : List Int} {k : Nat} (_h : xs.length = ys.length) (_hk : k < xs.length) (he : ¬ ix xs k = ix ys k) : eqL xs ys = false := by
  unfold eqL
  rw [beq_eq_false_iff_ne]
  rintro rfl
  exact he rfl
theorem eqL_len {xs ys : List Int} (h : ¬ xs.length = ys.length) : eqL xs ys = false := by
  unfold eqL
  rw [beq_eq_false_iff_ne]
  rintro rfl
  exact h rfl

set_option maxHeartbeats 1600000 in
theorem Equal_int (w : World) {A B : Option Addr} {n m c d : Nat} {xs ys : List Int} (ha : RdI w A n c xs) (hb : RdI w B m d ys) :
    Calls Tryz.prog 47 #[.slice A n c, .slice B m d] w fun e w' => e = .returned (.bool (eqL xs ys)) ∧ ∃ q, w' = w.drewN q := by
  have hna := ha.small
  have hnb := hb.small
  by_cases hnm : n = m
  · subst hnm
    have heq := Lib.hid (eqL_same (ha.len.trans hb.len.symm)); rw [ha.len] at heq
    go_enter Tryz.func47, Tryz.ntmps47
    go_wp2
    go_loopw [13] (fun i wr => ∃ k : Nat, k ≤ n ∧ i = .int .i64 (k : Int) ∧ Hid (eqTo xs ys k = true) ∧ ∃ q, wr = w.drewN q) (fun i _ => n - (intOf i).toNat)
    case atStart => exact ⟨0, Nat.zero_le _, rfl, rfl, (by first | exact ⟨_, rfl⟩ | exact ⟨0, rfl⟩ | exact q_drewN ⟨_, rfl⟩ | exact q_drewN (q_drewN ⟨_, rfl⟩))⟩
    case round =>
      obtain ⟨k, hk, rfl, hto, q, rfl⟩ := hrel
      by_cases hkn : k < n
      · obtain ⟨ad, rfl, hlta, hca⟩ := ha.at_ hkn
        obtain ⟨bd, rfl, hltb, hcb⟩ := hb.at_ hkn
        have hki : (k : Int) < (n : Int) := by omega
        by_cases he : ix xs k = ix ys k
        · have hs := Lib.hid (eqTo_step hto.out he); clear hto
          have hbeq : (ix xs k != ix ys k) = false := by simp [he]
          clear he
          go_wp2
          go_quiet (fail)
          go_wp2
          go_roundw
          case rel => exact ⟨k + 1, by omega, by go_num, hs, (by first | exact ⟨_, rfl⟩ | exact ⟨0, rfl⟩ | exact q_drewN ⟨_, rfl⟩ | exact q_drewN (q_drewN ⟨_, rfl⟩))⟩
          case measure => simp [intOf]; omega
        · have hs := Lib.hid (eqL_no (by rw [ha.len, hb.len]) (by rw [ha.len]; exact hkn) he); clear hto heq
          have hbeq : (ix xs k != ix ys k) = true := by simp [he]
          clear he
          go_wp2
          go_quiet (fail)
          go_wp2
          go_ret
          exact ⟨ret_bool hs.out.symm, (by first | exact ⟨_, rfl⟩ | exact ⟨0, rfl⟩ | exact q_drewN ⟨_, rfl⟩ | exact q_drewN (q_drewN ⟨_, rfl⟩))⟩
      · have hkk : k = n := by omega
        have hs := Lib.hid (heq.out.trans (hkk ▸ hto.out)); clear hto heq hkk
        go_wp2
        go_ret
        exact ⟨ret_bool hs.out.symm, (by first | exact ⟨_, rfl⟩ | exact ⟨0, rfl⟩ | exact q_drewN ⟨_, rfl⟩ | exact q_drewN (q_drewN ⟨_, rfl⟩))⟩
  · have hs := Lib.hid (eqL_len (xs := xs) (ys := ys) (by rw [ha.len, hb.len]; exact hnm))
    have hne : ((n : Int) != (m : Int)) = true := by simp; omega
    go_enter Tryz.func47, Tryz.ntmps47
    go_wp2
    go_ret
    exact ⟨ret_bool hs.out.symm, (by first | exact ⟨_, rfl⟩ | exact ⟨0, rfl⟩ | exact q_drewN ⟨_, rfl⟩ | exact q_drewN (q_drewN ⟨_, rfl⟩))⟩
end

section
open Go.RowKit

def eqR (a b : RatD) : Bool := a.neg == b.neg && eqL a.mag b.mag && eqL a.den b.den
theorem eqR_den {r r' : RatD} {s s' : Bool} (h : s = r.neg) (h' : s' = r'.neg) (e0 : (s == s') = true) (e1 : eqL r.mag r'.mag = true) : eqR r r' = eqL r.den r'.den := by
  unfold eqR; rw [← h, ← h', e0, e1]; rfl
theorem eqR_mag {r r' : RatD} (e1 : eqL r.mag r'.mag = false) : eqR r r' = false := by
  unfold eqR; rw [e1]; simp
theorem eqR_neg {r r' : RatD} {s s' : Bool} (h : s = r.neg) (h' : s' = r'.neg) (e0 : (s == s') = false) : eqR r r' = false := by
  unfold eqR; rw [← h, ← h', e0]; rfl
def eqP (a b : PtD) : Bool := eqR a.x b.x && eqR a.y b.y
theorem eqP_y {p q : PtD} (e0 : eqR p.x q.x = true) : eqP p q = eqR p.y q.y := by unfold eqP; rw [e0]; rfl
theorem eqP_x {p q : PtD} (e0 : eqR p.x q.x = false) : eqP p q = false := by unfold eqP; rw [e0]; rfl

set_option maxHeartbeats 1600000 in
theorem RatEqual_any (w : World) {A B A' B' : Option Addr} {n m n' m' c d c' d' : Nat} {s s' : Bool} {r r' : RatD} (h : RdR w s A n c B m d r) (h' : RdR w s' A' n' c' B' m' d' r') :
    Calls Tryz.prog 16 #[.agg #[.bool s, .slice A n c, .slice B m d], .agg #[.bool s', .slice A' n' c', .slice B' m' d']] w fun e w' => e = .returned (.bool (eqR r r')) ∧ Bl w w' := by
  by_cases e0 : (s == s') = true
  · by_cases e1 : eqL r.mag r'.mag = true
    · have hs := Lib.hid (eqR_den h.neg h'.neg e0 e1)
      go_enter Tryz.func16, Tryz.ntmps16
      go_wp2_with fail
      refine (Equal_int _ ((h.mag.alloc _).alloc _) ((h'.mag.alloc _).alloc _)).mono ?_
      rintro e w' ⟨rfl, q, rfl⟩
      go_wp2_with fail
      refine (Equal_int _ (((h.den.alloc _).alloc _).drewN _) (((h'.den.alloc _).alloc _).drewN _)).mono ?_
      rintro e w' ⟨rfl, q', rfl⟩
      go_wp2_with fail
      go_ret
      exact ⟨ret_bool hs.out.symm, slc⟩
    · have e1 : eqL r.mag r'.mag = false := by simpa using e1
      have hs := Lib.hid (eqR_mag e1)
      go_enter Tryz.func16, Tryz.ntmps16
      go_wp2_with fail
      refine (Equal_int _ ((h.mag.alloc _).alloc _) ((h'.mag.alloc _).alloc _)).mono ?_
      rintro e w' ⟨rfl, q, rfl⟩
      go_wp2_with fail
      go_ret
      exact ⟨ret_bool hs.out.symm, slc⟩
  · have e0 : (s == s') = false := by simpa using e0
    have hs := Lib.hid (eqR_neg h.neg h'.neg e0)
    go_enter Tryz.func16, Tryz.ntmps16
    go_wp2_with fail
    go_ret
    exact ⟨ret_bool hs.out.symm, slc⟩

set_option maxHeartbeats 1600000 in
theorem SamePoint_any (w : World) {A B A' B' : Option Addr} {n m n' m' c d c' d' : Nat} {s s' : Bool} {C D C' D' : Option Addr} {i j i' j' e f e' f' : Nat} {t t' : Bool} {p q : PtD}
    (h : RdR w s A n c B m d p.x) (k : RdR w t C i e D j f p.y) (h' : RdR w s' A' n' c' B' m' d' q.x) (k' : RdR w t' C' i' e' D' j' f' q.y) :
    Calls Tryz.prog 15 #[.agg #[.bool s, .slice A n c, .slice B m d, .bool t, .slice C i e, .slice D j f], .agg #[.bool s', .slice A' n' c', .slice B' m' d', .bool t', .slice C' i' e', .slice D' j' f']] w fun e w' => e = .returned (.bool (eqP p q)) ∧ Bl w w' := by
  by_cases e0 : eqR p.x q.x = true
  · have hs := Lib.hid (eqP_y e0)
    go_enter Tryz.func15, Tryz.ntmps15
    go_wp2_with fail
    refine (RatEqual_any _ ((h.alloc _).alloc _) ((h'.alloc _).alloc _)).mono ?_
    rintro e w1 ⟨rfl, hb⟩
    obtain ⟨hc, hf⟩ := bcell hb
    have hb1 : Bl w w1 := slc
    go_wp2_with fail
    refine (RatEqual_any _ (k.bl hb1) (k'.bl hb1)).mono ?_
    rintro e w2 ⟨rfl, hb2⟩
    go_wp2_with fail
    go_ret
    exact ⟨ret_bool hs.out.symm, slc⟩
  · have e0 : eqR p.x q.x = false := by simpa using e0
    have hs := Lib.hid (eqP_x e0)
    go_enter Tryz.func15, Tryz.ntmps15
    go_wp2_with fail
    refine (RatEqual_any _ ((h.alloc _).alloc _) ((h'.alloc _).alloc _)).mono ?_
    rintro e w1 ⟨rfl, hb⟩
    go_wp2_with fail
    go_ret
    exact ⟨ret_bool hs.out.symm, slc⟩

/-- The first k elements agree. -/
def Agree {α : Type} [Inhabited α] (l l' : List α) (k : Nat) : Prop := ∀ i, i < k → pix l i = pix l' i
theorem Agree.zero {α : Type} [Inhabited α] (l l' : List α) : Agree l l' 0 := fun i hi => by omega
theorem Agree.step {α : Type} [Inhabited α] {l l' : List α} {k : Nat} (h : Agree l l' k) (e : pix l k = pix l' k) : Agree l l' (k + 1) := by
  intro i hi
  rcases Nat.lt_succ_iff_lt_or_eq.1 hi with hi | rfl
  · exact h i hi
  · exact e
theorem Agree.all {α : Type} [Inhabited α] {l l' : List α} {n : Nat} (h : Agree l l' n) (hl : l.length = n) (hl' : l'.length = n) : l = l' := list_eq_of_pix hl hl' h
end

section
open Go.RowKit

/-- The part from a to b. -/
def sg (l : List UInt8) (a b : Nat) : List UInt8 := (l.take b).drop a
theorem sg_nil (l : List UInt8) (a : Nat) : sg l a a = [] := by unfold sg; rw [List.drop_eq_nil_iff]; simp; omega
theorem sg_snoc {l : List UInt8} {a b : Nat} (h : a ≤ b) (hb : b < l.length) : sg l a (b + 1) = sg l a b ++ [l.getD b 0] := by
  unfold sg
  rw [List.take_add_one, List.getElem?_eq_getElem hb, List.drop_append_of_le_length (by rw [List.length_take]; omega), List.getD_eq_getElem?_getD, List.getElem?_eq_getElem hb]
  rfl
theorem sg_len {l : List UInt8} {a b : Nat} (hb : b ≤ l.length) : (sg l a b).length = b - a := by unfold sg; rw [List.length_drop, List.length_take]; omega
theorem take_sg {l : List UInt8} {a b : Nat} (h : a ≤ b) : l.take b = l.take a ++ sg l a b := by
  unfold sg
  have := List.take_append_drop a (l.take b)
  rw [List.take_take, Nat.min_eq_left h] at this
  exact this.symm
theorem vD_app (a b : List UInt8) : vD (a ++ b) = vD a * 10 ^ b.length + vD b := by
  induction b using snoc_ind with
  | h0 => simp [vD_nil]
  | h1 l x ih => rw [← List.append_assoc, vD_snoc, vD_snoc, ih, List.length_append, List.length_singleton, Nat.pow_succ, show vD a * (10 ^ l.length * 10) = 10 * (vD a * 10 ^ l.length) by rw [← Nat.mul_assoc, Nat.mul_comm]]; omega
theorem all_sg {l : List UInt8} (h : l.all isDg = true) (a b : Nat) : (sg l a b).all isDg = true := by
  rw [List.all_eq_true] at h ⊢
  intro x hx
  exact h x (List.mem_of_mem_take (List.mem_of_mem_drop hx))
theorem vD_sg_lt {l : List UInt8} (h : l.all isDg = true) {a b : Nat} (hb : b ≤ l.length) (h9 : b ≤ a + 9) : vD (sg l a b) < 1000000000 := by
  have h1 := vD_lt _ (all_sg h a b)
  rw [sg_len hb] at h1
  have h2 : 10 ^ (b - a) ≤ 10 ^ 9 := Nat.pow_le_pow_right (by decide) (by omega)
  omega
/-- The limbs that are parsed when the digits behind E are. -/
structure PRel (l : List UInt8) (E : Int) (d : List Nat) : Prop where
  lo : -9 < E
  len : 9 * (d.length : Int) + E = l.length
  digs : Digs d
  eq : vD l = vD (l.take E.toNat) * Bs ^ d.length + val d
theorem PRel.start (l : List UInt8) : PRel l (l.length : Int) [] := ⟨by omega, by simp, (fun x hx => by cases hx), by simp [val]⟩
theorem PRel.step {l : List UInt8} {e : Nat} {d : List Nat} (h : PRel l (e : Int) d) (h0 : 0 < e) (ha : l.all isDg = true) {f : Nat} (hf : f = e - 9) : PRel l ((e : Int) - 9) (d ++ [vD (sg l f e)]) := by
  have hl := h.len
  have hel : e ≤ l.length := by omega
  have hlt : vD (sg l f e) < Bs := by rw [Bs_eq]; exact vD_sg_lt ha hel (by omega)
  refine ⟨by omega, by rw [List.length_append, List.length_singleton]; omega, digs_snoc h.digs hlt, ?_⟩
  have heq := h.eq
  rw [Int.toNat_natCast, take_sg (show f ≤ e by omega), vD_app, sg_len hel] at heq
  rw [val_snoc, List.length_append, List.length_singleton, Nat.pow_succ, heq, show (((e : Int) - 9)).toNat = f by omega]
  rcases Nat.lt_or_ge e 9 with h9 | h9
  · obtain rfl : f = 0 := by omega
    simp [vD_nil]
    omega
  · rw [show e - f = 9 by omega, show (10 : Nat) ^ 9 = Bs from rfl, Nat.add_mul, Nat.mul_assoc, Nat.mul_comm Bs]
    omega
theorem PRel.stop {l : List UInt8} {E : Int} {d : List Nat} (h : PRel l E d) (h0 : E ≤ 0) : vD l = val d := by
  have := h.eq
  rw [show E.toNat = 0 by omega] at this
  simpa [vD_nil] using this
theorem PRel.short {l : List UInt8} {E : Int} {d : List Nat} (h : PRel l E d) (hl : l.length ≤ 540) : d.length ≤ 60 := by
  have := h.len
  have := h.lo
  omega
theorem isDgs_all {l : List UInt8} (h : isDgs l = true) : l.all isDg = true := by unfold isDgs at h; simp only [Bool.and_eq_true] at h; exact h.2
theorem isDgs_pos {s : ByteArray} (h : isDgs (bl s) = true) : 0 < s.size := ((isDgs_iff s).1 h).1
theorem bl_head {s : ByteArray} (h : 0 < s.size) : (bl s).head? = some (bt s 0) := by
  unfold bt
  rw [← bl_len] at h
  cases hb : bl s with
  | nil => rw [hb] at h; cases h
  | cons a t => rfl
theorem bt_digit {s : ByteArray} (h : (bl s).all isDg = true) {i : Nat} (hi : i < s.size) : 48 ≤ (bt s i).toNat ∧ (bt s i).toNat ≤ 57 := by
  have h1 := List.all_eq_true.1 h (bt s i) (by
    unfold bt
    rw [List.getD_eq_getElem?_getD, List.getElem?_eq_getElem (by rw [bl_len]; exact hi)]
    exact List.getElem_mem _)
  unfold isDg at h1
  simpa using h1
theorem vD_sg_step {s : ByteArray} {f i : Nat} (h : f ≤ i) (hi : i < s.size) : vD (sg (bl s) f (i + 1)) = 10 * vD (sg (bl s) f i) + ((bt s i).toNat - 48) := by
  rw [sg_snoc h (by rw [bl_len]; exact hi), vD_snoc]
  rfl
/-- What both parsers return. -/
def NatRes (w : World) (s : ByteArray) (e : Ending) (w' : World) : Prop :=
  ((goodN (bl s) = true ∧ ∃ A n c, e = .returned (.tuple #[.slice A n c, .bool true]) ∧ OwI 3 w.heap.size w' A n c (ints (dig (vD (bl s))))) ∨ (goodN (bl s) = false ∧ e = .returned (.tuple #[.slice none 0 0, .bool false]))) ∧ Bl w w'
end

section
open Go.RowKit

/-- A slice of strings of one's own, while it grows. -/
def OwS (base : Nat) (w : World) (v : Value) (l : List (List UInt8)) : Prop := w.ownsRow base 9 1 v l.length (l.map fun x => Value.string (sb x))
theorem OwS.alloc {base : Nat} {w : World} {v : Value} {l : List (List UInt8)} (h : OwS base w v l) (o : Obj) : OwS base (w.alloc o) v l := World.ownsRow.alloc h o
theorem OwS.drewN {base : Nat} {w : World} {v : Value} {l : List (List UInt8)} (h : OwS base w v l) (q : Nat) : OwS base (w.drewN q) v l := h
theorem OwS.blockLe {base : Nat} {w : World} {v : Value} {l : List (List UInt8)} (h : OwS base w v l) : ∀ k, v.ownBlock = some k → base ≤ k := fun k hk => (World.ownsRow.lt h k hk).1
/-- A slice that reads as strings. -/
def RdSt (w : World) (A : Option Addr) (n : Nat) (l : List (List UInt8)) : Prop := l.length = n ∧ ∀ k, k < n → ∃ ad, A = some ad ∧ ad.block < w.heap.size ∧ w.cell? (ad.add k) = some (.string (sb (l.getD k [])))
theorem OwS.rd {base : Nat} {w : World} {v : Value} {l : List (List UInt8)} (h : OwS base w v l) : ∃ A c, v = .slice A l.length c ∧ RdSt w A l.length l := by
  rcases h.2 with ⟨rfl, h0⟩ | ⟨g, cap, cur, rfl, hg, hh, hn, hm, hs, ht⟩
  · exact ⟨none, 0, by rw [h0], rfl, fun k hk => by omega⟩
  · refine ⟨some ⟨g, 0, none⟩, cap, rfl, rfl, fun k hk => ⟨_, rfl, heap_lt hh, ?_⟩⟩
    exact World.ownsRow.cells h (g := g) rfl k (.string (sb (l.getD k []))) (by simp [List.getD_eq_getElem?_getD, hk])
theorem RdSt.bl {w W : World} {A : Option Addr} {n : Nat} {l : List (List UInt8)} (h : RdSt w A n l) (hb : Bl w W) : RdSt W A n l :=
  ⟨h.1, fun k hk => by
    obtain ⟨ad, e, hlt, hc⟩ := h.2 k hk
    exact ⟨ad, e, Nat.lt_of_lt_of_le hlt hb.size, (Bl.cellOf hb (p := ad.add k) (by rw [block_add]; exact hlt)).trans hc⟩⟩
/-- What is cut when the place i is come to: the pieces d, the last one from f on. -/
structure SpRel (c : UInt8) (l : List UInt8) (i f : Nat) (d : List (List UInt8)) : Prop where
  le : f ≤ i
  small : d.length ≤ i
  no : c ∉ sg l f i
  eq : pcs c l = d ++ pcs c (l.drop f)
theorem SpRel.start (c : UInt8) (l : List UInt8) : SpRel c l 0 0 [] := ⟨by omega, by simp, by rw [sg_nil]; simp, by simp⟩
theorem SpRel.other {c : UInt8} {l : List UInt8} {i f : Nat} {d : List (List UInt8)} (h : SpRel c l i f d) (hi : i < l.length) (hc : l.getD i 0 ≠ c) : SpRel c l (i + 1) f d :=
  ⟨by have := h.le; omega, by have := h.small; omega, by
    rw [sg_snoc h.le hi]
    simp only [List.mem_append, List.mem_singleton, not_or]
    exact ⟨h.no, fun e => hc e.symm⟩, h.eq⟩
theorem drop_sg {l : List UInt8} {i f : Nat} (h : f ≤ i) : l.drop f = sg l f i ++ l.drop i := by
  unfold sg
  have e : l = l.take i ++ l.drop i := (List.take_append_drop i l).symm
  rcases Nat.lt_or_ge i l.length with hi | hi
  · conv => lhs; rw [e]
    rw [List.drop_append_of_le_length (by rw [List.length_take]; omega)]
  · rw [List.take_of_length_le hi, List.drop_eq_nil_of_le hi, List.append_nil]
theorem SpRel.cut {c : UInt8} {l : List UInt8} {i f : Nat} {d : List (List UInt8)} (h : SpRel c l i f d) (hi : i < l.length) (hc : l.getD i 0 = c) : SpRel c l (i + 1) (i + 1) (d ++ [sg l f i]) := by
  refine ⟨by omega, by rw [List.length_append, List.length_singleton]; have := h.small; omega, by rw [sg_nil]; simp, ?_⟩
  have e : l.drop i = c :: l.drop (i + 1) := by
    rw [List.drop_eq_getElem_cons hi, ← hc, List.getD_eq_getElem?_getD, List.getElem?_eq_getElem hi]
    rfl
  rw [h.eq, drop_sg h.le, e, pcs_app h.no, List.append_assoc]
  rfl
theorem SpRel.stop {c : UInt8} {l : List UInt8} {f : Nat} {d : List (List UInt8)} (h : SpRel c l l.length f d) : pcs c l = d ++ [l.drop f] := by
  have e : l.drop f = sg l f l.length := by rw [drop_sg h.le, List.drop_length, List.append_nil]
  rw [h.eq, pcs_no (by rw [e]; exact h.no)]
end

end Go.Proofs.YtjaapemopbbfaaaGreatDoor
