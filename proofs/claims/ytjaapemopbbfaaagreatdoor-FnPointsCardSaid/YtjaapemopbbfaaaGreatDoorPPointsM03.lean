/- Lemmas. -/
import Derived.Test.YtjaapemopbbfaaaGreatDoorPPointsM02
import Derived.Test.YtjaapemopbbfaaaGreatDoorRows
import Derived.Test.YtjaapemopbbfaaaGreatDoorPPointsM01
import Derived.Lib.Strings
import Derived.Lib.Hide
import Derived.Laws.BytesArg
import Derived.Laws.Concat
namespace Go.Proofs.YtjaapemopbbfaaaGreatDoor
section
/-! ### Cutting -/
def cutA (c : UInt8) (l : List UInt8) : List UInt8 := l.takeWhile (· != c)
def cutB (c : UInt8) (l : List UInt8) : List UInt8 := (l.dropWhile (· != c)).drop 1
theorem cut_none {c : UInt8} : ∀ {l : List UInt8}, c ∉ l → cutA c l = l ∧ cutB c l = []
  | [], _ => ⟨rfl, rfl⟩
  | b :: t, h => by
    simp only [List.mem_cons, not_or] at h
    have hb : (b != c) = true := by simp only [bne_iff_ne, ne_eq]; exact fun e => h.1 e.symm
    have ih := cut_none h.2
    unfold cutA cutB at ih ⊢
    rw [List.takeWhile_cons, List.dropWhile_cons, if_pos hb, if_pos hb]
    exact ⟨by rw [ih.1], ih.2⟩
theorem cut_app {c : UInt8} : ∀ {a b : List UInt8}, c ∉ a → cutA c (a ++ c :: b) = a ∧ cutB c (a ++ c :: b) = b
  | [], b, _ => by simp [cutA, cutB]
  | x :: t, b, h => by
    simp only [List.mem_cons, not_or] at h
    have hb : (x != c) = true := by simp only [bne_iff_ne, ne_eq]; exact fun e => h.1 e.symm
    have ih := cut_app (b := b) h.2
    unfold cutA cutB at ih ⊢
    rw [List.cons_append, List.takeWhile_cons, List.dropWhile_cons, if_pos hb, if_pos hb]
    exact ⟨by rw [ih.1], ih.2⟩
theorem cut_join {c : UInt8} : ∀ {l : List UInt8}, c ∈ l → l = cutA c l ++ c :: cutB c l
  | [], h => by cases h
  | x :: t, h => by
    by_cases hx : x = c
    · subst hx; simp [cutA, cutB]
    · have hb : (x != c) = true := by simpa using hx
      have ih := cut_join (l := t) (c := c) (by
        rcases List.mem_cons.1 h with e | e
        · exact absurd e.symm hx
        · exact e)
      unfold cutA cutB at ih ⊢
      rw [List.takeWhile_cons, List.dropWhile_cons, if_pos hb, if_pos hb, List.cons_append, ← ih]
theorem cutB_len {c : UInt8} {l : List UInt8} (h : c ∈ l) : (cutB c l).length < l.length := by
  have := congrArg List.length (cut_join h)
  rw [List.length_append, List.length_cons] at this
  omega
/-- The pieces. -/
def pcs (c : UInt8) (l : List UInt8) : List (List UInt8) := if _h : c ∈ l then cutA c l :: pcs c (cutB c l) else [l]
termination_by l.length
decreasing_by exact cutB_len ‹_›
theorem pcs_no {c : UInt8} {l : List UInt8} (h : c ∉ l) : pcs c l = [l] := by rw [pcs, dif_neg h]
theorem pcs_yes {c : UInt8} {l : List UInt8} (h : c ∈ l) : pcs c l = cutA c l :: pcs c (cutB c l) := by rw [pcs, dif_pos h]
theorem pcs_app {c : UInt8} {a b : List UInt8} (h : c ∉ a) : pcs c (a ++ c :: b) = a :: pcs c b := by
  rw [pcs_yes (by simp), (cut_app h).1, (cut_app h).2]
theorem pcs_ne (c : UInt8) (l : List UInt8) : pcs c l ≠ [] := by
  by_cases h : c ∈ l
  · rw [pcs_yes h]; simp
  · rw [pcs_no h]; simp
theorem pcs_one {c : UInt8} {l : List UInt8} : (pcs c l).length = 1 ↔ c ∉ l := by
  constructor
  · intro h hc
    rw [pcs_yes hc] at h
    have := List.length_pos_iff.2 (pcs_ne c (cutB c l))
    rw [List.length_cons] at h
    omega
  · intro h; rw [pcs_no h]; rfl
/-! ### Natural numbers -/
/-- A number's text, of at most 540 digits. -/
def NTx (l : List UInt8) (N : Nat) : Prop := dD N = l ∧ l.length ≤ 540
/-- What both parsers ask. -/
def goodN (l : List UInt8) : Bool := isDgs l && decide (l.length ≤ 540) && (decide (l.length = 1) || decide (l.head? ≠ some 48))
theorem goodN_iff {l : List UInt8} : goodN l = true ↔ NTx l (vD l) := by
  unfold goodN NTx
  constructor
  · intro h
    simp only [Bool.and_eq_true, Bool.or_eq_true, decide_eq_true_eq] at h
    exact ⟨dD_vD l h.1.1 h.2, h.1.2⟩
  · rintro ⟨h1, h2⟩
    have h3 : isDgs l = true := by rw [← h1]; exact isDgs_dD _
    simp only [Bool.and_eq_true, Bool.or_eq_true, decide_eq_true_eq]
    exact ⟨⟨h3, h2⟩, (dD_vD_iff l h3).1 h1⟩
theorem NTx.val {l : List UInt8} {N : Nat} (h : NTx l N) : vD l = N := by rw [← h.1, vD_dD]
theorem NTx.good {l : List UInt8} {N : Nat} (h : NTx l N) : goodN l = true := goodN_iff.2 (by rw [h.val]; exact h)
theorem isDgs_not {l : List UInt8} (h : isDgs l = true) {c : UInt8} (hc : isDg c = false) : c ∉ l := by
  intro hm
  unfold isDgs at h
  simp only [Bool.and_eq_true, List.all_eq_true] at h
  rw [h.2 c hm] at hc
  cases hc
theorem dD_not (N : Nat) {c : UInt8} (hc : isDg c = false) : c ∉ dD N := isDgs_not (isDgs_dD N) hc

/-! ### Integers -/
def itx (x : Int) : List UInt8 := if x < 0 then 45 :: dD x.natAbs else dD x.natAbs
theorem itx_not (x : Int) {c : UInt8} (hc : isDg c = false) (h45 : c ≠ 45) : c ∉ itx x := by
  unfold itx
  split
  · simp only [List.mem_cons, not_or]; exact ⟨h45, dD_not _ hc⟩
  · exact dD_not _ hc
theorem dD_head45 (N : Nat) : (dD N).head? ≠ some 45 := by
  intro h
  have : (45 : UInt8) ∈ dD N := by
    cases hd : dD N with
    | nil => rw [hd] at h; cases h
    | cons a t => rw [hd] at h; simp at h; rw [h]; simp
  exact dD_not N (by rfl) this
theorem itx_head {x : Int} : (itx x).head? = some 45 ↔ x < 0 := by
  unfold itx
  by_cases h : x < 0
  · simp [h]
  · rw [if_neg h]
    exact ⟨fun e => absurd e (dD_head45 _), fun e => absurd e h⟩
/-- The digits behind the sign. -/
def mag (l : List UInt8) : List UInt8 := if l.head? = some 45 then l.drop 1 else l
theorem mag_itx (x : Int) : mag (itx x) = dD x.natAbs := by
  unfold mag
  by_cases h : x < 0
  · rw [if_pos (itx_head.2 h)]; unfold itx; rw [if_pos h]; rfl
  · rw [if_neg (fun e => h (itx_head.1 e))]; unfold itx; rw [if_neg h]
/-- An integer's text. -/
def goodI (l : List UInt8) : Bool := goodN (mag l) && (decide (l.head? ≠ some 45) || decide (vD (mag l) ≠ 0))
def vI (l : List UInt8) : Int := if l.head? = some 45 then -(vD (mag l) : Int) else (vD (mag l) : Int)
theorem vI_abs (l : List UInt8) : (vI l).natAbs = vD (mag l) := by unfold vI; split <;> simp
theorem goodI_iff {l : List UInt8} : goodI l = true ↔ itx (vI l) = l ∧ (mag l).length ≤ 540 := by
  unfold goodI
  simp only [Bool.and_eq_true, Bool.or_eq_true, decide_eq_true_eq]
  rw [goodN_iff]
  by_cases h : l.head? = some 45
  · have hl : l = 45 :: mag l := by
      unfold mag; rw [if_pos h]
      cases l with
      | nil => cases h
      | cons a t => simp at h; rw [h]; rfl
    constructor
    · rintro ⟨⟨h1, h2⟩, h3 | h3⟩
      · exact absurd h h3
      · have e : vI l < 0 := by unfold vI; rw [if_pos h]; omega
        refine ⟨?_, h2⟩
        unfold itx; rw [if_pos e, vI_abs, h1, ← hl]
    · rintro ⟨h1, h2⟩
      have hx : vI l < 0 := by rw [← itx_head, h1]; exact h
      have h3 := vI_abs l
      refine ⟨⟨?_, h2⟩, .inr (by omega)⟩
      have := congrArg mag h1
      rw [mag_itx, vI_abs] at this
      exact this
  · have hm : mag l = l := by unfold mag; rw [if_neg h]
    have hv : vI l = (vD l : Int) := by unfold vI; rw [if_neg h, hm]
    rw [hm, hv]
    have e : itx (vD l : Int) = dD (vD l) := by unfold itx; rw [if_neg (by omega)]; simp
    rw [e]
    exact ⟨fun hh => hh.1, fun hh => ⟨hh, .inl h⟩⟩
theorem vI_itx (x : Int) : vI (itx x) = x := by
  unfold vI
  rw [mag_itx, vD_dD]
  by_cases h : x < 0
  · rw [if_pos (itx_head.2 h)]; omega
  · rw [if_neg (fun e => h (itx_head.1 e))]; omega
theorem goodI_itx {x : Int} (h : (dD x.natAbs).length ≤ 540) : goodI (itx x) = true := goodI_iff.2 ⟨by rw [vI_itx], by rw [mag_itx]; exact h⟩

/-! ### Fractions -/
def ftx (x : Int) (D : Nat) : List UInt8 := if D = 1 then itx x else itx x ++ 47 :: dD D
theorem ftx_not (x : Int) (D : Nat) {c : UInt8} (hc : isDg c = false) (h45 : c ≠ 45) (h47 : c ≠ 47) : c ∉ ftx x D := by
  unfold ftx
  split
  · exact itx_not x hc h45
  · simp only [List.mem_append, List.mem_cons, not_or]
    exact ⟨itx_not x hc h45, h47, dD_not _ hc⟩
theorem itx_not47 (x : Int) : (47 : UInt8) ∉ itx x := itx_not x rfl (by decide)
theorem ftx_has {x : Int} {D : Nat} : 47 ∈ ftx x D ↔ D ≠ 1 := by
  unfold ftx
  by_cases h : D = 1
  · rw [if_pos h]; exact ⟨fun e => absurd e (itx_not47 x), fun e => absurd h e⟩
  · rw [if_neg h]; simp [h]
theorem ftx_one {x : Int} {D : Nat} (h : 47 ∉ ftx x D) : D = 1 ∧ ftx x D = itx x := by
  have h1 : D = 1 := Classical.byContradiction fun e => h (ftx_has.2 e)
  exact ⟨h1, by unfold ftx; rw [if_pos h1]⟩
theorem ftx_cut {x : Int} {D : Nat} (h : 47 ∈ ftx x D) : cutA 47 (ftx x D) = itx x ∧ cutB 47 (ftx x D) = dD D := by
  unfold ftx
  rw [if_neg (ftx_has.1 h)]
  exact cut_app (itx_not47 x)
/-- The denominator's text. -/
def denT (l : List UInt8) : List UInt8 := if 47 ∈ l then cutB 47 l else [49]
theorem dD_1 : dD 1 = [49] := by rw [dD_small (by omega)]; rfl
theorem ftx_parts (x : Int) (D : Nat) : cutA 47 (ftx x D) = itx x ∧ denT (ftx x D) = dD D := by
  by_cases h : 47 ∈ ftx x D
  · refine ⟨(ftx_cut h).1, ?_⟩
    unfold denT; rw [if_pos h]; exact (ftx_cut h).2
  · obtain ⟨h1, h2⟩ := ftx_one h
    refine ⟨by rw [(cut_none h).1, h2], ?_⟩
    unfold denT; rw [if_neg h, h1, dD_1]
/-- Two slashes: no fraction's text. -/
theorem ftx_slash {x : Int} {D : Nat} {l : List UInt8} (h : ftx x D = l) (h1 : 47 ∈ l) : 47 ∉ cutB 47 l := by
  subst h
  rw [(ftx_cut h1).2]
  exact dD_not D rfl
end

section
open Go.RowKit

/-- The bytes of a string; a string of bytes. -/
abbrev bl (s : ByteArray) : List UInt8 := s.data.toList
def sb (l : List UInt8) : ByteArray := ⟨l.toArray⟩
theorem bl_sb (l : List UInt8) : bl (sb l) = l := rfl
theorem sb_bl (s : ByteArray) : sb (bl s) = s := Lib.mk_data s
theorem bl_len (s : ByteArray) : (bl s).length = s.size := (Lib.size_eq s).symm
theorem sb_size (l : List UInt8) : (sb l).size = l.length := by rw [Lib.size_eq]; rfl
theorem bl_inj {s t : ByteArray} (h : bl s = bl t) : s = t := by rw [← sb_bl s, h, sb_bl]
theorem bl_get (s : ByteArray) (i : Nat) (h : i < s.size) : (bl s)[i]'(by rw [bl_len]; exact h) = s[i] := by
  obtain ⟨⟨l⟩⟩ := s
  rfl
/-- The byte at place i. -/
def bt (s : ByteArray) (i : Nat) : UInt8 := (bl s).getD i 0
theorem bt_eq (s : ByteArray) (i : Nat) (h : i < s.size) : s[i] = bt s i := by
  unfold bt
  rw [List.getD_eq_getElem?_getD, List.getElem?_eq_getElem (by rw [bl_len]; exact h), ← bl_get s i h]
  rfl
theorem bl_toList (s : ByteArray) : s.toList = bl s := ByteArray.toList_eq s
theorem isDgs_iff (s : ByteArray) : isDgs (bl s) = true ↔ 0 < s.size ∧ ∀ i, i < s.size → isDg (bt s i) = true := by
  unfold isDgs
  rw [← bl_len]
  simp only [Bool.and_eq_true, List.all_eq_true]
  constructor
  · rintro ⟨h1, h2⟩
    refine ⟨?_, fun i hi => ?_⟩
    · cases h : bl s with
      | nil => rw [h] at h1; simp at h1
      | cons a t => simp
    · unfold bt
      rw [List.getD_eq_getElem?_getD, List.getElem?_eq_getElem hi]
      exact h2 _ (List.getElem_mem hi)
  · rintro ⟨h1, h2⟩
    refine ⟨?_, fun x hx => ?_⟩
    · cases h : bl s with
      | nil => rw [h] at h1; simp at h1
      | cons a t => simp
    · obtain ⟨i, hi, rfl⟩ := List.getElem_of_mem hx
      have := h2 i hi
      unfold bt at this
      rw [List.getD_eq_getElem?_getD, List.getElem?_eq_getElem hi] at this
      exact this
theorem isDg_eq (x : UInt8) : isDg x = (decide ((48 : Int) ≤ (x.toNat : Int)) && decide ((x.toNat : Int) ≤ 57)) := by
  unfold isDg
  congr 1 <;> exact decide_eq_decide.2 (by omega)
/-- The walk's index. -/
theorem run_idx {P : Program} {t : TypeId} (w : World) (s : ByteArray) (i : Nat) (h : i < s.size) (ht : P.underlying t = some .string) : (Instr.index t (.string s) (.int .i64 (i : Int))).run P w = .ok (.int .u8 ((bt s i).toNat : Int)) w := by
  rw [run_index_string w t s .i64 (i : Int) ht, dif_pos ⟨by omega, by omega⟩]
  have := bt_eq s i h
  simp only [Int.toNat_natCast, this]

theorem sb_app (a b : List UInt8) : sb a ++ sb b = sb (a ++ b) := by
  apply bl_inj
  simp [sb]
theorem add_str {P : Program} (w : World) (a b : List UInt8) (ha : a.length ≤ 1050000) (hb : b.length ≤ 1050000) : (Op.stringOp .add (sb a) (sb b)).run P w = .ok (.string (sb (a ++ b))) w := by
  rw [run_string_add_sum w (sb a) (sb b) (by rw [sb_size, sb_size]; omega), sb_app]
theorem dD_len19 {N : Nat} (h : N ≤ 9223372036854775807) : (dD N).length ≤ 19 := dD_len_le (by decide) (by omega)
end

section
open Go.RowKit

/-- The limbs read as a natural number. -/
def nv (l : List Int) : Nat := val (l.map Int.toNat)
theorem map_toNat_ints (l : List Nat) : (ints l).map Int.toNat = l := by
  unfold ints
  rw [List.map_map]
  have : (Int.toNat ∘ Int.ofNat) = (id : Nat → Nat) := by funext x; rfl
  rw [this, List.map_id]
theorem nv_ints (N : Nat) : nv (ints (dig N)) = N := by
  unfold nv; rw [map_toNat_ints, val_dig]
/-- Limbs of a natural number that is not too large. -/
def OkN (l : List Int) : Prop := ∃ N, l = ints (dig N) ∧ (dig N).length ≤ 60
theorem OkN.nv {l : List Int} (h : OkN l) : l = ints (dig (nv l)) ∧ l.length ≤ 60 := by
  obtain ⟨N, rfl, h⟩ := h
  rw [nv_ints]
  exact ⟨rfl, by rw [ints_len]; exact h⟩
theorem okN_iff (l : List Int) : OkN l ↔ l.length ≤ 60 ∧ (l.length = 0 ∨ ix l (l.length - 1) ≠ 0) ∧ ∀ k, k < l.length → 0 ≤ ix l k ∧ ix l k ≤ 999999999 := by
  constructor
  · rintro ⟨N, rfl, h⟩
    rw [ints_len]
    refine ⟨h, ?_, fun k hk => ?_⟩
    · rcases Nat.eq_zero_or_pos (dig N).length with h0 | h0
      · exact .inl h0
      · right
        have := canon_last (canon_dig N) (List.length_pos_iff.1 h0)
        unfold ix
        unfold dx at this
        unfold ints
        rw [List.getD_eq_getElem?_getD] at this
        rw [List.getD_eq_getElem?_getD, List.getElem?_map]
        rw [List.getElem?_eq_getElem (by omega)] at this ⊢
        simp at this ⊢
        omega
    · have := dx_lt (digs_dig N) k
      rw [Bs_eq] at this
      unfold ix
      unfold dx at this
      unfold ints
      rw [List.getD_eq_getElem?_getD] at this
      rw [List.getD_eq_getElem?_getD, List.getElem?_map]
      rw [List.getElem?_eq_getElem hk] at this ⊢
      simp at this ⊢
      omega
  · rintro ⟨h1, h2, h3⟩
    have hd : Digs (l.map Int.toNat) := by
      refine digs_of_dx fun k hk => ?_
      rw [List.length_map] at hk
      have := h3 k hk
      unfold ix at this
      unfold dx
      rw [List.getD_eq_getElem?_getD] at this ⊢
      rw [List.getElem?_map, List.getElem?_eq_getElem hk]
      rw [List.getElem?_eq_getElem hk] at this
      simp at this ⊢
      rw [Bs_eq]
      omega
    have hc : Canon (l.map Int.toNat) := by
      refine canon_of_last hd fun e => ?_
      have e0 : l.length ≠ 0 := by intro e0; apply e; rw [List.length_eq_zero_iff.1 e0]; rfl
      rcases h2 with h2 | h2
      · exact absurd h2 e0
      · have h4 := (h3 (l.length - 1) (by omega)).1
        rw [List.length_map]
        unfold dx
        unfold ix at h2 h4
        rw [List.getD_eq_getElem?_getD] at h2 h4 ⊢
        rw [List.getElem?_map]
        rw [List.getElem?_eq_getElem (by omega)] at h2 h4 ⊢
        simp at h2 h4 ⊢
        omega
    have he : l = ints (l.map Int.toNat) := by
      unfold ints
      rw [List.map_map]
      apply List.ext_getElem (by simp)
      intro i hi _
      have := h3 i hi
      unfold ix at this
      rw [List.getD_eq_getElem?_getD, List.getElem?_eq_getElem hi] at this
      simp at this ⊢
      omega
    refine ⟨val (l.map Int.toNat), ?_, ?_⟩
    · rw [dig_val hc]; exact he
    · rw [dig_val hc, List.length_map]; exact h1

/-- The fraction (sign, magnitude, denominator) over limbs. -/
def raw (x : Int) (D : Nat) : RatD := ⟨decide (x < 0), ints (dig x.natAbs), ints (dig D)⟩
/-- The zero value: what is not valid. -/
def zR : RatD := ⟨false, [], []⟩
/-- x / D in lowest terms; the zero value if it is too large. -/
def ofFrac (x : Int) (D : Nat) : RatD :=
  if (dig (x.natAbs / Nat.gcd x.natAbs D)).length ≤ 24 ∧ (dig (D / Nat.gcd x.natAbs D)).length ≤ 24 then raw (x / (Nat.gcd x.natAbs D : Int)) (D / Nat.gcd x.natAbs D) else zR
def rn (r : RatD) : Int := if r.neg = true then - (nv r.mag : Int) else (nv r.mag : Int)
def rd (r : RatD) : Nat := nv r.den
theorem rn_raw (x : Int) (D : Nat) : rn (raw x D) = x := by
  unfold rn raw
  simp only [nv_ints]
  by_cases h : x < 0
  · simp [h]; omega
  · simp [h]; omega
theorem rd_raw (x : Int) (D : Nat) : rd (raw x D) = D := by unfold rd raw; simp only [nv_ints]
/-- A valid fraction. -/
def OkR (r : RatD) : Prop := ∃ (x : Int) (D : Nat), r = raw x D ∧ 0 < D ∧ Nat.gcd x.natAbs D = 1 ∧ (dig x.natAbs).length ≤ 24 ∧ (dig D).length ≤ 24
theorem OkR.get {r : RatD} (h : OkR r) : r = raw (rn r) (rd r) ∧ 0 < rd r ∧ Nat.gcd (rn r).natAbs (rd r) = 1 ∧ (dig (rn r).natAbs).length ≤ 24 ∧ (dig (rd r)).length ≤ 24 := by
  obtain ⟨x, D, rfl, h⟩ := h
  rw [rn_raw, rd_raw]
  exact ⟨rfl, h⟩
theorem not_ok_zR : ¬ OkR zR := by
  rintro ⟨x, D, h, hD, _⟩
  have : (dig D).length = 0 := by
    have := congrArg RatD.den h
    simp only [zR, raw] at this
    rw [← ints_len, ← this]; rfl
  have := dig_len_pos.2 hD
  omega
open Classical in
/-- Whether it is valid (a plain def: the walk leaves it closed). -/
noncomputable def okR (r : RatD) : Bool := decide (OkR r)
open Classical in
noncomputable def okN (l : List Int) : Bool := decide (OkN l)
theorem okR_true {r : RatD} : okR r = true ↔ OkR r := by unfold okR; simp
theorem okR_false {r : RatD} : okR r = false ↔ ¬ OkR r := by unfold okR; simp
theorem okN_true {r : List Int} : okN r = true ↔ OkN r := by unfold okN; simp
theorem okN_false {r : List Int} : okN r = false ↔ ¬ OkN r := by unfold okN; simp

open Classical in
noncomputable def addR (r s : RatD) : RatD := if OkR r ∧ OkR s then ofFrac (rn r * rd s + rn s * rd r) (rd r * rd s) else zR
open Classical in
noncomputable def subR (r s : RatD) : RatD := if OkR r ∧ OkR s then ofFrac (rn r * rd s - rn s * rd r) (rd r * rd s) else zR
open Classical in
noncomputable def mulR (r s : RatD) : RatD := if OkR r ∧ OkR s then ofFrac (rn r * rn s) (rd r * rd s) else zR
open Classical in
noncomputable def divR (r s : RatD) : RatD := if OkR r ∧ OkR s ∧ rn s ≠ 0 then ofFrac (rn r * rd s * (if rn s < 0 then -1 else 1)) (rd r * (rn s).natAbs) else zR
/-- -1, 0, 1. -/
def cmpZ (a b : Int) : Int := if a < b then -1 else if b < a then 1 else 0
open Classical in
noncomputable def sgnR (r : RatD) : Int := if OkR r then cmpZ (rn r) 0 else 0
theorem gcd_pos_den {n D : Nat} (h : 0 < D) : 0 < Nat.gcd n D := Nat.gcd_pos_of_pos_right _ h
theorem natAbs_ediv_gcd (x : Int) (g : Nat) (hg : g ∣ x.natAbs) : (x / (g : Int)).natAbs = x.natAbs / g := by
  obtain ⟨k, hk⟩ := hg
  rcases Nat.eq_zero_or_pos g with h0 | h0
  · subst h0; simp
  · rw [hk, Nat.mul_div_cancel_left _ h0]
    rcases Int.natAbs_eq x with e | e
    · rw [e, hk]
      have : ((g * k : Nat) : Int) / (g : Int) = (k : Int) := by
        rw [Int.natCast_mul]; exact Int.mul_ediv_cancel_left _ (by omega)
      rw [this]; simp
    · rw [e, hk]
      have : (-((g * k : Nat) : Int)) / (g : Int) = -(k : Int) := by
        rw [Int.natCast_mul, ← Int.mul_neg]; exact Int.mul_ediv_cancel_left _ (by omega)
      rw [this]; simp
theorem ediv_neg_iff (x : Int) (g : Nat) (h0 : 0 < g) : x / (g : Int) < 0 ↔ x < 0 := by
  constructor
  · intro h
    rcases Int.lt_or_le x 0 with hx | hx
    · exact hx
    · have := Int.ediv_nonneg hx (show (0 : Int) ≤ g by omega)
      omega
  · intro h
    exact Int.ediv_neg_of_neg_of_pos h (by omega)
end

section
open Go.RowKit

set_option maxHeartbeats 1600000 in
theorem within_any (w : World) (a lo hi : Int) :
    Calls Tryz.prog 66 #[.int .i64 a, .int .i64 lo, .int .i64 hi] w fun e w' => e = .returned (.bool (decide (lo ≤ a) && decide (a ≤ hi))) ∧ ∃ q, w' = w.drewN q := by
  by_cases h1 : lo ≤ a
  · by_cases h2 : a ≤ hi
    · go_enter Tryz.func66, Tryz.ntmps66
      go_wp2
      go_ret
      exact ⟨by simp [*], (by first | exact ⟨_, rfl⟩ | exact ⟨0, rfl⟩ | exact q_drewN ⟨_, rfl⟩ | exact q_drewN (q_drewN ⟨_, rfl⟩))⟩
    · go_enter Tryz.func66, Tryz.ntmps66
      go_wp2
      go_ret
      exact ⟨by simp [*], (by first | exact ⟨_, rfl⟩ | exact ⟨0, rfl⟩ | exact q_drewN ⟨_, rfl⟩ | exact q_drewN (q_drewN ⟨_, rfl⟩))⟩
  · go_enter Tryz.func66, Tryz.ntmps66
    go_wp2
    go_ret
    exact ⟨by rw [decide_eq_false (show ¬ lo ≤ a by omega)]; rfl, (by first | exact ⟨_, rfl⟩ | exact ⟨0, rfl⟩ | exact q_drewN ⟨_, rfl⟩ | exact q_drewN (q_drewN ⟨_, rfl⟩))⟩

set_option maxHeartbeats 1600000 in
theorem l01In_any (w : World) (a lo hi : Int) :
    Calls Tryz.prog 161 #[.int .i64 a, .int .i64 lo, .int .i64 hi] w fun e w' => e = .returned (.bool (decide (lo ≤ a) && decide (a ≤ hi))) ∧ ∃ q, w' = w.drewN q := by
  by_cases h1 : lo ≤ a
  · by_cases h2 : a ≤ hi
    · go_enter Tryz.func161, Tryz.ntmps161
      go_wp2
      go_ret
      exact ⟨by simp [*], (by first | exact ⟨_, rfl⟩ | exact ⟨0, rfl⟩ | exact q_drewN ⟨_, rfl⟩ | exact q_drewN (q_drewN ⟨_, rfl⟩))⟩
    · go_enter Tryz.func161, Tryz.ntmps161
      go_wp2
      go_ret
      exact ⟨by simp [*], (by first | exact ⟨_, rfl⟩ | exact ⟨0, rfl⟩ | exact q_drewN ⟨_, rfl⟩ | exact q_drewN (q_drewN ⟨_, rfl⟩))⟩
  · go_enter Tryz.func161, Tryz.ntmps161
    go_wp2
    go_ret
    exact ⟨by rw [decide_eq_false (show ¬ lo ≤ a by omega)]; rfl, (by first | exact ⟨_, rfl⟩ | exact ⟨0, rfl⟩ | exact q_drewN ⟨_, rfl⟩ | exact q_drewN (q_drewN ⟨_, rfl⟩))⟩
end

end Go.Proofs.YtjaapemopbbfaaaGreatDoor
