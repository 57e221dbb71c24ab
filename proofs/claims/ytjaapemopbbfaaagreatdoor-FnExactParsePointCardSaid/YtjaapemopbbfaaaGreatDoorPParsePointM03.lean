/- Lemmas. -/
import Derived.Test.YtjaapemopbbfaaaGreatDoorPParsePointM02
import Derived.Test.YtjaapemopbbfaaaGreatDoorRows
import Derived.Test.YtjaapemopbbfaaaGreatDoorPParsePointM01
import Derived.Lib.Strings
import Derived.Lib.Hide
import Derived.Laws.BytesArg
import Derived.Laws.Concat
namespace Go.Proofs.YtjaapemopbbfaaaGreatDoor
section
/-! ### Cutting -/
def cutA (c : UInt8) (l : List UInt8) : List UInt8 := l.takeWhile (· != c)
def cutB (c : UInt8) (l : List UInt8) : List UInt8 := (l.dropWhile (· != c)).drop 1
theorem cut_none {c : UInt8} : ∀ {l : List UInt8}, c ∉ l → cutA c l = l ∧ cutB c l = []
  | [], _ => ⟨rfl, rfl⟩
  | b :: t, h => by
    simp only [List.mem_cons, not_or] at h
    have hb : (b != c) = true := by simp only [bne_iff_ne, ne_eq]; exact fun e => h.1 e.symm
    have ih := cut_none h.2
    unfold cutA cutB at ih ⊢
    rw [List.takeWhile_cons, List.dropWhile_cons, if_pos hb, if_pos hb]
    exact ⟨by rw [ih.1], ih.2⟩
theorem cut_app {c : UInt8} : ∀ {a b : List UInt8}, c ∉ a → cutA c (a ++ c :: b) = a ∧ cutB c (a ++ c :: b) = b
  | [], b, _ => by simp [cutA, cutB]
  | x :: t, b, h => by
    simp only [List.mem_cons, not_or] at h
    have hb : (x != c) = true := by simp only [bne_iff_ne, ne_eq]; exact fun e => h.1 e.symm
    have ih := cut_app (b := b) h.2
    unfold cutA cutB at ih ⊢
    rw [List.cons_append, List.takeWhile_cons, List.dropWhile_cons, if_pos hb, if_pos hb]
    exact ⟨by rw [ih.1], ih.2⟩
theorem cut_join {c : UInt8} : ∀ {l : List UInt8}, c ∈ l → l = cutA c l ++ c :: cutB c l
  | [], h => by cases h
  | x :: t, h => by
    by_cases hx : x = c
    · subst hx; simp [cutA, cutB]
    · have hb : (x != c) = true := by simpa using hx
      have ih := cut_join (l := t) (c := c) (by
        rcases List.mem_cons.1 h with e | e
        · exact absurd e.symm hx
        · exact e)
      unfold cutA cutB at ih ⊢
      rw [List.takeWhile_cons, List.dropWhile_cons, if_pos hb, if_pos hb, List.cons_append, ← ih]
theorem cutB_len {c : UInt8} {l : List UInt8} (h : c ∈ l) : (cutB c l).length < l.length := by
  have := congrArg List.length (cut_join h)
  rw [List.length_append, List.length_cons] at this
  omega
/-- The pieces. -/
def pcs (c : UInt8) (l : List UInt8) : List (List UInt8) := if _h : c ∈ l then cutA c l :: pcs c (cutB c l) else [l]
termination_by l.length
decreasing_by exact cutB_len ‹_›
theorem pcs_no {c : UInt8} {l : List UInt8} (h : c ∉ l) : pcs c l = [l] := by rw [pcs, dif_neg h]
theorem pcs_yes {c : UInt8} {l : List UInt8} (h : c ∈ l) : pcs c l = cutA c l :: pcs c (cutB c l) := by rw [pcs, dif_pos h]
theorem pcs_app {c : UInt8} {a b : List UInt8} (h : c ∉ a) : pcs c (a ++ c :: b) = a :: pcs c b := by
  rw [pcs_yes (by simp), (cut_app h).1, (cut_app h).2]
theorem pcs_ne (c : UInt8) (l : List UInt8) : pcs c l ≠ [] := by
  by_cases h : c ∈ l
  · rw [pcs_yes h]; simp
  · rw [pcs_no h]; simp
theorem pcs_one {c : UInt8} {l : List UInt8} : (pcs c l).length = 1 ↔ c ∉ l := by
  constructor
  · intro h hc
    rw [pcs_yes hc] at h
    have := List.length_pos_iff.2 (pcs_ne c (cutB c l))
    rw [List.length_cons] at h
    omega
  · intro h; rw [pcs_no h]; rfl
theorem pcs_two {c : UInt8} {l : List UInt8} (h : (pcs c l).length = 2) : c ∈ l ∧ pcs c l = [cutA c l, cutB c l] := by
  by_cases hc : c ∈ l
  · refine ⟨hc, ?_⟩
    rw [pcs_yes hc, List.length_cons] at h
    rw [pcs_yes hc, pcs_no (pcs_one.1 (by omega))]
  · rw [pcs_no hc] at h; simp at h

/-! ### Natural numbers -/
/-- A number's text, of at most 540 digits. -/
def NTx (l : List UInt8) (N : Nat) : Prop := dD N = l ∧ l.length ≤ 540
/-- What both parsers ask. -/
def goodN (l : List UInt8) : Bool := isDgs l && decide (l.length ≤ 540) && (decide (l.length = 1) || decide (l.head? ≠ some 48))
theorem goodN_iff {l : List UInt8} : goodN l = true ↔ NTx l (vD l) := by
  unfold goodN NTx
  constructor
  · intro h
    simp only [Bool.and_eq_true, Bool.or_eq_true, decide_eq_true_eq] at h
    exact ⟨dD_vD l h.1.1 h.2, h.1.2⟩
  · rintro ⟨h1, h2⟩
    have h3 : isDgs l = true := by rw [← h1]; exact isDgs_dD _
    simp only [Bool.and_eq_true, Bool.or_eq_true, decide_eq_true_eq]
    exact ⟨⟨h3, h2⟩, (dD_vD_iff l h3).1 h1⟩
theorem NTx.val {l : List UInt8} {N : Nat} (h : NTx l N) : vD l = N := by rw [← h.1, vD_dD]
theorem NTx.good {l : List UInt8} {N : Nat} (h : NTx l N) : goodN l = true := goodN_iff.2 (by rw [h.val]; exact h)
theorem isDgs_not {l : List UInt8} (h : isDgs l = true) {c : UInt8} (hc : isDg c = false) : c ∉ l := by
  intro hm
  unfold isDgs at h
  simp only [Bool.and_eq_true, List.all_eq_true] at h
  rw [h.2 c hm] at hc
  cases hc
theorem dD_not (N : Nat) {c : UInt8} (hc : isDg c = false) : c ∉ dD N := isDgs_not (isDgs_dD N) hc

/-! ### Integers -/
def itx (x : Int) : List UInt8 := if x < 0 then 45 :: dD x.natAbs else dD x.natAbs
theorem itx_not (x : Int) {c : UInt8} (hc : isDg c = false) (h45 : c ≠ 45) : c ∉ itx x := by
  unfold itx
  split
  · simp only [List.mem_cons, not_or]; exact ⟨h45, dD_not _ hc⟩
  · exact dD_not _ hc
theorem dD_head45 (N : Nat) : (dD N).head? ≠ some 45 := by
  intro h
  have : (45 : UInt8) ∈ dD N := by
    cases hd : dD N with
    | nil => rw [hd] at h; cases h
    | cons a t => rw [hd] at h; simp at h; rw [h]; simp
  exact dD_not N (by rfl) this
theorem itx_head {x : Int} : (itx x).head? = some 45 ↔ x < 0 := by
  unfold itx
  by_cases h : x < 0
  · simp [h]
  · rw [if_neg h]
    exact ⟨fun e => absurd e (dD_head45 _), fun e => absurd e h⟩
/-- The digits behind the sign. -/
def mag (l : List UInt8) : List UInt8 := if l.head? = some 45 then l.drop 1 else l
theorem mag_itx (x : Int) : mag (itx x) = dD x.natAbs := by
  unfold mag
  by_cases h : x < 0
  · rw [if_pos (itx_head.2 h)]; unfold itx; rw [if_pos h]; rfl
  · rw [if_neg (fun e => h (itx_head.1 e))]; unfold itx; rw [if_neg h]
/-- An integer's text. -/
def goodI (l : List UInt8) : Bool := goodN (mag l) && (decide (l.head? ≠ some 45) || decide (vD (mag l) ≠ 0))
def vI (l : List UInt8) : Int := if l.head? = some 45 then -(vD (mag l) : Int) else (vD (mag l) : Int)
theorem vI_abs (l : List UInt8) : (vI l).natAbs = vD (mag l) := by unfold vI; split <;> simp
theorem goodI_iff {l : List UInt8} : goodI l = true ↔ itx (vI l) = l ∧ (mag l).length ≤ 540 := by
  unfold goodI
  simp only [Bool.and_eq_true, Bool.or_eq_true, decide_eq_true_eq]
  rw [goodN_iff]
  by_cases h : l.head? = some 45
  · have hl : l = 45 :: mag l := by
      unfold mag; rw [if_pos h]
      cases l with
      | nil => cases h
      | cons a t => simp at h; rw [h]; rfl
    constructor
    · rintro ⟨⟨h1, h2⟩, h3 | h3⟩
      · exact absurd h h3
      · have e : vI l < 0 := by unfold vI; rw [if_pos h]; omega
        refine ⟨?_, h2⟩
        unfold itx; rw [if_pos e, vI_abs, h1, ← hl]
    · rintro ⟨h1, h2⟩
      have hx : vI l < 0 := by rw [← itx_head, h1]; exact h
      have h3 := vI_abs l
      refine ⟨⟨?_, h2⟩, .inr (by omega)⟩
      have := congrArg mag h1
      rw [mag_itx, vI_abs] at this
      exact this
  · have hm : mag l = l := by unfold mag; rw [if_neg h]
    have hv : vI l = (vD l : Int) := by unfold vI; rw [if_neg h, hm]
    rw [hm, hv]
    have e : itx (vD l : Int) = dD (vD l) := by unfold itx; rw [if_neg (by omega)]; simp
    rw [e]
    exact ⟨fun hh => hh.1, fun hh => ⟨hh, .inl h⟩⟩
theorem vI_itx (x : Int) : vI (itx x) = x := by
  unfold vI
  rw [mag_itx, vD_dD]
  by_cases h : x < 0
  · rw [if_pos (itx_head.2 h)]; omega
  · rw [if_neg (fun e => h (itx_head.1 e))]; omega
theorem goodI_itx {x : Int} (h : (dD x.natAbs).length ≤ 540) : goodI (itx x) = true := goodI_iff.2 ⟨by rw [vI_itx], by rw [mag_itx]; exact h⟩

/-! ### Fractions -/
def ftx (x : Int) (D : Nat) : List UInt8 := if D = 1 then itx x else itx x ++ 47 :: dD D
theorem ftx_not (x : Int) (D : Nat) {c : UInt8} (hc : isDg c = false) (h45 : c ≠ 45) (h47 : c ≠ 47) : c ∉ ftx x D := by
  unfold ftx
  split
  · exact itx_not x hc h45
  · simp only [List.mem_append, List.mem_cons, not_or]
    exact ⟨itx_not x hc h45, h47, dD_not _ hc⟩
theorem itx_not47 (x : Int) : (47 : UInt8) ∉ itx x := itx_not x rfl (by decide)
theorem ftx_has {x : Int} {D : Nat} : 47 ∈ ftx x D ↔ D ≠ 1 := by
  unfold ftx
  by_cases h : D = 1
  · rw [if_pos h]; exact ⟨fun e => absurd e (itx_not47 x), fun e => absurd h e⟩
  · rw [if_neg h]; simp [h]
theorem ftx_one {x : Int} {D : Nat} (h : 47 ∉ ftx x D) : D = 1 ∧ ftx x D = itx x := by
  have h1 : D = 1 := Classical.byContradiction fun e => h (ftx_has.2 e)
  exact ⟨h1, by unfold ftx; rw [if_pos h1]⟩
theorem ftx_cut {x : Int} {D : Nat} (h : 47 ∈ ftx x D) : cutA 47 (ftx x D) = itx x ∧ cutB 47 (ftx x D) = dD D := by
  unfold ftx
  rw [if_neg (ftx_has.1 h)]
  exact cut_app (itx_not47 x)
/-- The denominator's text. -/
def denT (l : List UInt8) : List UInt8 := if 47 ∈ l then cutB 47 l else [49]
theorem dD_1 : dD 1 = [49] := by rw [dD_small (by omega)]; rfl
theorem ftx_parts (x : Int) (D : Nat) : cutA 47 (ftx x D) = itx x ∧ denT (ftx x D) = dD D := by
  by_cases h : 47 ∈ ftx x D
  · refine ⟨(ftx_cut h).1, ?_⟩
    unfold denT; rw [if_pos h]; exact (ftx_cut h).2
  · obtain ⟨h1, h2⟩ := ftx_one h
    refine ⟨by rw [(cut_none h).1, h2], ?_⟩
    unfold denT; rw [if_neg h, h1, dD_1]
/-- Two slashes: no fraction's text. -/
theorem ftx_slash {x : Int} {D : Nat} {l : List UInt8} (h : ftx x D = l) (h1 : 47 ∈ l) : 47 ∉ cutB 47 l := by
  subst h
  rw [(ftx_cut h1).2]
  exact dD_not D rfl
end

section
open Go.RowKit

/-- The bytes of a string; a string of bytes. -/
abbrev bl (s : ByteArray) : List UInt8 := s.data.toList
def sb (l : List UInt8) : ByteArray := ⟨l.toArray⟩
theorem bl_sb (l : List UInt8) : bl (sb l) = l := rfl
theorem sb_bl (s : ByteArray) : sb (bl s) = s := Lib.mk_data s
theorem bl_len (s : ByteArray) : (bl s).length = s.size := (Lib.size_eq s).symm
theorem sb_size (l : List UInt8) : (sb l).size = l.length := by rw [Lib.size_eq]; rfl
theorem bl_inj {s t : ByteArray} (h : bl s = bl t) : s = t := by rw [← sb_bl s, h, sb_bl]
theorem bl_get (s : ByteArray) (i : Nat) (h : i < s.size) : (bl s)[i]'(by rw [bl_len]; exact h) = s[i] := by
  obtain ⟨⟨l⟩⟩ := s
  rfl
/-- The byte at place i. -/
def bt (s : ByteArray) (i : Nat) : UInt8 := (bl s).getD i 0
theorem bt_eq (s : ByteArray) (i : Nat) (h : i < s.size) : s[i] = bt s i := by
  unfold bt
  rw [List.getD_eq_getElem?_getD, List.getElem?_eq_getElem (by rw [bl_len]; exact h), ← bl_get s i h]
  rfl
theorem bl_toList (s : ByteArray) : s.toList = bl s := ByteArray.toList_eq s
theorem isDgs_iff (s : ByteArray) : isDgs (bl s) = true ↔ 0 < s.size ∧ ∀ i, i < s.size → isDg (bt s i) = true := by
  unfold isDgs
  rw [← bl_len]
  simp only [Bool.and_eq_true, List.all_eq_true]
  constructor
  · rintro ⟨h1, h2⟩
    refine ⟨?_, fun i hi => ?_⟩
    · cases h : bl s with
      | nil => rw [h] at h1; simp at h1
      | cons a t => simp
    · unfold bt
      rw [List.getD_eq_getElem?_getD, List.getElem?_eq_getElem hi]
      exact h2 _ (List.getElem_mem hi)
  · rintro ⟨h1, h2⟩
    refine ⟨?_, fun x hx => ?_⟩
    · cases h : bl s with
      | nil => rw [h] at h1; simp at h1
      | cons a t => simp
    · obtain ⟨i, hi, rfl⟩ := List.getElem_of_mem hx
      have := h2 i hi
      unfold bt at this
      rw [List.getD_eq_getElem?_getD, List.getElem?_eq_getElem hi] at this
      exact this
theorem isDg_eq (x : UInt8) : isDg x = (decide ((48 : Int) ≤ (x.toNat : Int)) && decide ((x.toNat : Int) ≤ 57)) := by
  unfold isDg
  congr 1 <;> exact decide_eq_decide.2 (by omega)
/-- The walk's index. -/
theorem run_idx {P : Program} {t : TypeId} (w : World) (s : ByteArray) (i : Nat) (h : i < s.size) (ht : P.underlying t = some .string) : (Instr.index t (.string s) (.int .i64 (i : Int))).run P w = .ok (.int .u8 ((bt s i).toNat : Int)) w := by
  rw [run_index_string w t s .i64 (i : Int) ht, dif_pos ⟨by omega, by omega⟩]
  have := bt_eq s i h
  simp only [Int.toNat_natCast, this]

set_option maxHeartbeats 1600000 in
theorem sIsDigits_any (w : World) (s : ByteArray) (hs : s.size ≤ 9223372036854775807) :
    Calls Tryz.prog 133 #[.string s] w fun e w' => e = .returned (.bool (isDgs (bl s))) ∧ ∃ q, w' = w.drewN q := by
  have hidx := fun (W : World) (i : Nat) (h : i < s.size) => run_idx (P := Tryz.prog) (t := 9) W s i h Tryz.underlying9
  go_enter Tryz.func133, Tryz.ntmps133
  go_wp2_with fail
  go_loopw [3] (fun v wr => ∃ i : Nat, v = .int .i64 (i : Int) ∧ i ≤ s.size ∧ Hid (∀ j, j < i → isDg (bt s j) = true) ∧ ∃ q, wr = w.drewN q) (fun v _ => s.size - (intOf v).toNat)
  case atStart => exact ⟨0, rfl, by omega, fun j hj => by omega, 0, rfl⟩
  case round =>
    obtain ⟨i, rfl, hi, hz, q, rfl⟩ := hrel
    rcases Nat.lt_or_ge i s.size with hlt | hge
    · have h1 := fun W => hidx W i hlt
      have hci : (i : Int) < (s.size : Int) := by omega
      have hb := (bt s i).toNat_lt
      by_cases hd : isDg (bt s i) = true
      · have hz' : Hid (∀ j, j < i + 1 → isDg (bt s j) = true) := Lib.hid fun j hj => by
          rcases Nat.lt_succ_iff_lt_or_eq.1 hj with h | h
          · exact hz.out j h
          · rw [h]; exact hd
        have h48 : ¬ ((bt s i).toNat : Int) < 48 := by unfold isDg at hd; simp at hd; omega
        have h57 : ¬ (57 : Int) < ((bt s i).toNat : Int) := by unfold isDg at hd; simp at hd; omega
        clear hidx hd
        go_wp2_with fail
        go_roundw
        case rel => exact ⟨i + 1, by go_num, by omega, hz'.out, (by first | exact ⟨_, rfl⟩ | exact ⟨0, rfl⟩ | exact q_drewN ⟨_, rfl⟩ | exact q_drewN (q_drewN ⟨_, rfl⟩))⟩
        case measure => simp [intOf]; omega
      · have hfin : isDgs (bl s) = false := Bool.eq_false_iff.2 fun e => hd (((isDgs_iff s).1 e).2 i hlt)
        by_cases h48 : ((bt s i).toNat : Int) < 48
        · clear hidx hd
          go_wp2_with fail
          go_ret
          exact ⟨by first | rfl | (rw [hfin]; rfl), (by first | exact ⟨_, rfl⟩ | exact ⟨0, rfl⟩ | exact q_drewN ⟨_, rfl⟩ | exact q_drewN (q_drewN ⟨_, rfl⟩))⟩
        · have h57 : (57 : Int) < ((bt s i).toNat : Int) := by unfold isDg at hd; simp at hd; omega
          clear hidx hd
          go_wp2_with fail
          go_ret
          exact ⟨by first | rfl | (rw [hfin]; rfl), (by first | exact ⟨_, rfl⟩ | exact ⟨0, rfl⟩ | exact q_drewN ⟨_, rfl⟩ | exact q_drewN (q_drewN ⟨_, rfl⟩))⟩
    · obtain rfl : i = s.size := by omega
      have hfin : isDgs (bl s) = decide (0 < s.size) := by
        rw [Bool.eq_iff_iff, isDgs_iff]
        simp only [decide_eq_true_eq]
        exact ⟨fun h => by omega, fun h => ⟨by omega, hz.out⟩⟩
      clear hidx
      go_wp2_with fail
      go_ret
      exact ⟨by first | rfl | (rw [hfin]; rfl), (by first | exact ⟨_, rfl⟩ | exact ⟨0, rfl⟩ | exact q_drewN ⟨_, rfl⟩ | exact q_drewN (q_drewN ⟨_, rfl⟩))⟩

/-- One byte of one's own, as a string. -/
theorem conv_byte (w : World) (x : Nat) (_h : x < 256) : (convert 34 9 (.slice (some ⟨w.heap.size, 0, none⟩) 1 1)).run Tryz.prog (w.alloc (.cells #[.int .u8 (x : Int)] 5)) = .ok (.string (sb [UInt8.ofNat x])) (w.alloc (.cells #[.int .u8 (x : Int)] 5)) := by
  refine (run_convert_bytes_arg (P := Tryz.prog) (w.alloc (.cells #[.int .u8 (x : Int)] 5)) 34 5 Tryz.underlying34 Tryz.underlying5 w.heap.size 0 1 1 [(x : Int)] rfl (fun i hi => ?_) 9 Tryz.underlying9).trans ?_
  · obtain rfl : i = 0 := by simpa using hi
    rw [World.cell?_alloc_new]
    rfl
  · simp [sb, strOfNums]

theorem conv_dg (w : World) (k : Nat) (x : Int) (hx : x = ((48 + k : Nat) : Int)) (hk : k < 10) : (convert 34 9 (.slice (some ⟨w.heap.size, 0, none⟩) 1 1)).run Tryz.prog (w.alloc (.cells #[.int .u8 x] 5)) = .ok (.string (sb [dgb k])) (w.alloc (.cells #[.int .u8 x] 5)) := by
  subst hx
  exact conv_byte w (48 + k) (by omega)
theorem sb_app (a b : List UInt8) : sb a ++ sb b = sb (a ++ b) := by
  apply bl_inj
  simp [sb]
theorem add_str {P : Program} (w : World) (a b : List UInt8) (ha : a.length ≤ 1050000) (hb : b.length ≤ 1050000) : (Op.stringOp .add (sb a) (sb b)).run P w = .ok (.string (sb (a ++ b))) w := by
  rw [run_string_add_sum w (sb a) (sb b) (by rw [sb_size, sb_size]; omega), sb_app]
theorem dD_len19 {N : Nat} (h : N ≤ 9223372036854775807) : (dD N).length ≤ 19 := dD_len_le (by decide) (by omega)

set_option maxHeartbeats 3200000 in
set_option maxRecDepth 100000 in
/-- FormatInt of a number that is not negative. -/
theorem sFormatInt_any (w : World) (N : Nat) (hN : N ≤ 9223372036854775807) :
    Calls Tryz.prog 180 #[.int .i64 (N : Int)] w fun e w' => e = .returned (.string (sb (dD N))) ∧ Bl w w' := by
  go_enter Tryz.func180, Tryz.ntmps180
  go_wp2_with fail
  go_loopw [0, 3] (fun n s wr => ∃ (m : Nat) (t : List UInt8), n = .int .i64 (m : Int) ∧ s = .string (sb t) ∧ m ≤ N ∧ Hid (dD N = dD m ++ t) ∧ Bl w wr) (fun n _ _ => (intOf n).toNat)
  case atStart => exact ⟨N, [], rfl, rfl, by omega, by simp [Hid], slc⟩
  case round =>
    obtain ⟨m, t, rfl, rfl, hm, he, hb⟩ := hrel
    have ht : t.length ≤ 1050000 := by
      have h1 := congrArg List.length he.out
      have h2 := dD_len19 hN
      rw [List.length_append] at h1
      omega
    rcases Nat.lt_or_ge 9 m with h9 | h9
    · have hpos : (9 : Int) < (m : Int) := by omega
      have hm10 : m % 10 < 10 := Nat.mod_lt _ (by decide)
      have hcv := conv_dg wr (m % 10) (48 + (m : Int) % 10) (by omega) hm10
      have hadd := fun W => add_str (P := Tryz.prog) W [dgb (m % 10)] t (by simp) ht
      have he2 : Hid (dD N = dD (m / 10) ++ (dgb (m % 10) :: t)) := Lib.hid (by rw [he.out, dD_big (by omega), List.append_assoc]; rfl)
      clear he
      go_wp2_with fail
      go_roundw
      case rel => exact ⟨m / 10, dgb (m % 10) :: t, by go_num, rfl, by omega, he2, slc⟩
      case measure => simp [intOf]; omega
    · have hpos : ¬ (9 : Int) < (m : Int) := by omega
      have hcv := conv_dg wr m (48 + (m : Int)) (by omega) (by omega)
      have hadd := fun W => add_str (P := Tryz.prog) W [dgb m] t (by simp) ht
      have he2 : Hid (dD N = [dgb m] ++ t) := Lib.hid (by rw [he.out, dD_small (by omega)])
      clear he
      go_wp2_with fail
      go_ret
      exact ⟨by rw [he2.out]; rfl, slc⟩

set_option maxHeartbeats 1600000 in
set_option maxRecDepth 100000 in
theorem sPadZeros_any (w : World) (l : List UInt8) (k : Nat) (hl : l.length ≤ 1048576) (hk : k ≤ 2000) :
    Calls Tryz.prog 181 #[.string (sb l), .int .i64 (k : Int)] w fun e w' => e = .returned (.string (sb (padZ l k))) ∧ ∃ q, w' = w.drewN q := by
  go_enter Tryz.func181, Tryz.ntmps181
  have hsz : ∀ t : List UInt8, (sb t).size = t.length := sb_size
  go_wp2_with fail
  go_loopw [0] (fun s wr => ∃ t : List UInt8, s = .string (sb t) ∧ t.length ≤ 1050000 ∧ Hid (padZ l k = padZ t k) ∧ ∃ q, wr = w.drewN q) (fun s _ => match s with | .string t => k - t.size | _ => 0)
  case atStart => exact ⟨l, rfl, by omega, Lib.hid rfl, 0, rfl⟩
  case round =>
    obtain ⟨t, rfl, ht, he, q, rfl⟩ := hrel
    have hs := hsz t
    rcases Nat.lt_or_ge t.length k with h | h
    · have hlt : ((sb t).size : Int) < (k : Int) := by omega
      have hadd := fun W => add_str (P := Tryz.prog) W [48] t (by simp) (by omega)
      have hlen : (48 :: t).length ≤ 1050000 := by rw [List.length_cons]; omega
      have he2 : Hid (padZ l k = padZ (48 :: t) k) := Lib.hid (by
        rw [he.out]
        unfold padZ
        rw [List.length_cons, show k - t.length = (k - (t.length + 1)) + 1 by omega, List.replicate_succ', List.append_assoc]
        rfl)
      have hmeas : Hid (k - (sb (48 :: t)).size < k - (sb t).size) := Lib.hid (by rw [sb_size, sb_size, List.length_cons]; omega)
      clear he hsz
      go_wp2_with fail
      go_roundw
      case rel => exact ⟨48 :: t, rfl, hlen, he2, (by first | exact ⟨_, rfl⟩ | exact ⟨0, rfl⟩ | exact q_drewN ⟨_, rfl⟩ | exact q_drewN (q_drewN ⟨_, rfl⟩))⟩
      case measure => exact hmeas.out
    · have hlt : ¬ ((sb t).size : Int) < (k : Int) := by omega
      have he2 : Hid (padZ l k = t) := Lib.hid (by
        rw [he.out]
        unfold padZ
        rw [show k - t.length = 0 by omega]
        rfl)
      clear he hsz
      go_wp2_with fail
      go_ret
      exact ⟨by rw [he2.out]; rfl, (by first | exact ⟨_, rfl⟩ | exact ⟨0, rfl⟩ | exact q_drewN ⟨_, rfl⟩ | exact q_drewN (q_drewN ⟨_, rfl⟩))⟩
end

end Go.Proofs.YtjaapemopbbfaaaGreatDoor
