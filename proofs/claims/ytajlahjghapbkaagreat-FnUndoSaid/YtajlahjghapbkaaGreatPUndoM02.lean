/- Lemmas. -/
import Derived.Test.YtajlahjghapbkaaGreatRows
import Derived.Test.YtajlahjghapbkaaGreatPUndoM01
import Init.Data.List
namespace Go.Proofs.YtajlahjghapbkaaGreat
section
open Go.RowKit

/-- Only the blocks of bs, and what is new, may have turned. -/
structure Ob (bs : List Nat) (w W : World) : Prop where
  os : W.os = w.os
  tape : W.tape = w.tape
  output : W.output = w.output
  size : w.heap.size ≤ W.heap.size
  block : ∀ k, k < w.heap.size → k ∉ bs → W.heap[k]? = w.heap[k]?
section
variable {T : TypeId} {bs cs : List Nat} {w W W2 w0 : World}
theorem Ob.refl (bs : List Nat) (w : World) : Ob bs w w := ⟨rfl, rfl, rfl, Nat.le_refl _, fun _ _ _ => rfl⟩
theorem Ob.trans (h : Ob bs w W) (k : Ob bs W W2) : Ob bs w W2 :=
  ⟨k.os.trans h.os, k.tape.trans h.tape, k.output.trans h.output, Nat.le_trans h.size k.size, fun b hb hn => (k.block b (Nat.lt_of_lt_of_le hb h.size) hn).trans (h.block b hb hn)⟩
theorem Ob.mono (h : Ob bs w W) (hs : ∀ b ∈ bs, b ∈ cs) : Ob cs w W := ⟨h.os, h.tape, h.output, h.size, fun b hb hn => h.block b hb fun hm => hn (hs b hm)⟩
theorem Ob.set (h : Ob bs w W) {g : Nat} (hg : g ∈ bs) (off : Nat) (u : Value) : Ob bs w (W.setCell ⟨g, off, none⟩ u) :=
  ⟨h.os, h.tape, h.output, by simpa [World.setCell] using h.size, fun k hk hn => (Below.heap_setCell W _ u k (by intro e; exact hn (by rw [e]; exact hg))).trans (h.block k hk hn)⟩
theorem Ob.drewN (h : Ob bs w W) (q : Nat) : Ob bs w (W.drewN q) := ⟨h.os, h.tape, h.output, h.size, h.block⟩
theorem Ob.of_bl (h : Bl w W) (bs : List Nat) : Ob bs w W := ⟨h.os, h.tape, h.output, h.size, fun k hk _ => h.block k hk⟩
theorem Bl.ob (h : Bl w0 w) (ho : Ob bs w W) (hb : ∀ b ∈ bs, w0.heap.size ≤ b) : Bl w0 W :=
  ⟨ho.os.trans h.os, ho.tape.trans h.tape, ho.output.trans h.output, Nat.le_trans h.size ho.size, fun k hk => (ho.block k (Nat.lt_of_lt_of_le hk h.size) fun hm => by have := hb k hm; omega).trans (h.block k hk)⟩
theorem Blk.ob {g : Nat} {xs : Array Value} (h : Blk w g T xs) (ho : Ob bs w W) (hg : g ∉ bs) : Blk W g T xs := (ho.block g h.lt hg).trans h
theorem FtI.ob {A : Option Addr} {n c : Nat} {l : List Int} (h : FtI T w A n c l cs) (ho : Ob bs w W) (hd : ∀ b ∈ cs, b ∉ bs) : FtI T W A n c l cs := by
  refine h.keep ho.size fun b hm => ho.block b ?_ (hd b hm)
  rcases h.2 with ⟨_, e⟩ | ⟨g, xs, _, _, hh, _, e⟩
  · rw [e] at hm; cases hm
  · rw [e] at hm; simp at hm; subst hm; exact heap_lt hh
end
/-- The n marks from k on. -/
def marks (k : Int) (n : Nat) : List Int := (List.range n).map fun i : Nat => k + (i : Int)
/-- The first i cells hold marks. -/
def Mkd (k : Int) (i : Nat) (cs : Array Value) : Prop := ∀ j, j < i → cs[j]? = some (.int .i64 (k + (j : Int)))
theorem Mkd.step {k : Int} {i : Nat} {cs : Array Value} (h : Mkd k i cs) (hi : i < cs.size) : Mkd k (i + 1) (cs.setIfInBounds i (.int .i64 (k + (i : Int)))) := by
  intro j hj
  rcases Nat.lt_succ_iff_lt_or_eq.1 hj with hj | rfl
  · rw [Array.getElem?_setIfInBounds_ne (by omega)]; exact h j hj
  · simp [hi]
end

section
/-- The base of the limbs. -/
def Bs : Nat := 1000000000
theorem Bs_eq : Bs = 1000000000 := rfl
theorem Bs_pos : 0 < Bs := by decide
/-- The value of limbs, the least first. -/
def val : List Nat → Nat
  | [] => 0
  | x :: xs => x + Bs * val xs
/-- Limb k (0 beyond the end). -/
def dx (l : List Nat) (k : Nat) : Nat := l.getD k 0
def Digs (l : List Nat) : Prop := ∀ d ∈ l, d < Bs
theorem dx_lt {l : List Nat} (h : Digs l) (k : Nat) : dx l k < Bs := by
  unfold dx
  rw [List.getD_eq_getElem?_getD]
  rcases Nat.lt_or_ge k l.length with hk | hk
  · rw [List.getElem?_eq_getElem hk]; exact h _ (List.getElem_mem hk)
  · rw [List.getElem?_eq_none hk]; exact Bs_pos
theorem dx_beyond {l : List Nat} {k : Nat} (h : l.length ≤ k) : dx l k = 0 := by
  unfold dx; rw [List.getD_eq_getElem?_getD, List.getElem?_eq_none h]; rfl
theorem dx_cons_succ (x : Nat) (l : List Nat) (k : Nat) : dx (x :: l) (k + 1) = dx l k := by simp [dx]
theorem dx_cons_zero (x : Nat) (l : List Nat) : dx (x :: l) 0 = x := by simp [dx]
theorem digs_of_dx {l : List Nat} (h : ∀ k, k < l.length → dx l k < Bs) : Digs l := by
  intro d hd
  obtain ⟨k, hk, rfl⟩ := List.mem_iff_getElem.1 hd
  have := h k hk
  unfold dx at this
  rwa [List.getD_eq_getElem?_getD, List.getElem?_eq_getElem hk] at this
/-- The value of the limbs below place k. -/
def vf (f : Nat → Nat) : Nat → Nat
  | 0 => 0
  | k + 1 => vf f k + f k * Bs ^ k
theorem vf_congr {f g : Nat → Nat} {k : Nat} (h : ∀ i, i < k → f i = g i) : vf f k = vf g k := by
  induction k with
  | zero => rfl
  | succ k ih => simp only [vf]; rw [ih fun i hi => h i (by omega), h k (by omega)]
theorem vf_shift (f : Nat → Nat) (k : Nat) : vf f (k + 1) = f 0 + Bs * vf (fun i => f (i + 1)) k := by
  induction k with
  | zero => simp [vf]
  | succ k ih =>
    rw [vf, ih]
    simp only [vf]
    rw [Nat.mul_add, Nat.pow_succ, Nat.add_assoc]
    congr 2
    rw [Nat.mul_comm Bs, Nat.mul_assoc]
theorem vf_lt {f : Nat → Nat} {k : Nat} (h : ∀ i, i < k → f i < Bs) : vf f k < Bs ^ k := by
  induction k with
  | zero => simp [vf]
  | succ k ih =>
    have h1 := ih fun i hi => h i (by omega)
    have h2 : f k + 1 ≤ Bs := h k (by omega)
    have h3 := Nat.mul_le_mul_right (Bs ^ k) h2
    rw [Nat.add_mul, Nat.one_mul] at h3
    simp only [vf, Nat.pow_succ]
    rw [Nat.mul_comm (Bs ^ k) Bs]
    omega
theorem vf_zero {f : Nat → Nat} {k m : Nat} (h : ∀ i, k ≤ i → i < m → f i = 0) (hk : k ≤ m) : vf f m = vf f k := by
  induction m with
  | zero => obtain rfl : k = 0 := by omega
            rfl
  | succ m ih =>
    rcases Nat.eq_or_lt_of_le hk with rfl | hlt
    · rfl
    · rw [vf, h m (by omega) (by omega), ih (fun i h1 h2 => h i h1 (by omega)) (by omega)]; omega
theorem val_eq_vf (l : List Nat) : val l = vf (dx l) l.length := by
  induction l with
  | nil => rfl
  | cons x l ih =>
    rw [List.length_cons, vf_shift, val, ih]
    congr 1
theorem val_vf {l : List Nat} {k : Nat} (h : l.length ≤ k) : vf (dx l) k = val l := by
  rw [val_eq_vf]
  exact vf_zero (fun i h1 _ => dx_beyond h1) h
theorem val_lt {l : List Nat} (h : Digs l) : val l < Bs ^ l.length := by
  rw [val_eq_vf]; exact vf_lt fun i _ => dx_lt h i
theorem val_snoc (l : List Nat) (x : Nat) : val (l ++ [x]) = val l + x * Bs ^ l.length := by
  induction l with
  | nil => simp [val]
  | cons y l ih =>
    simp only [List.cons_append, val, ih, List.length_cons, Nat.pow_succ, Nat.mul_add]
    rw [Nat.add_assoc]
    congr 2
    rw [Nat.mul_comm Bs, Nat.mul_assoc]
theorem val_take_succ (l : List Nat) (k : Nat) : val (l.take (k + 1)) = val (l.take k) + dx l k * Bs ^ k := by
  rcases Nat.lt_or_ge k l.length with h | h
  · rw [List.take_succ_eq_append_getElem h, val_snoc, List.length_take, Nat.min_eq_left (by omega)]
    congr 2
    unfold dx; rw [List.getD_eq_getElem?_getD, List.getElem?_eq_getElem h]; rfl
  · rw [List.take_of_length_le (by omega), List.take_of_length_le (by omega), dx_beyond h]; omega
theorem vf_take (l : List Nat) (k : Nat) : vf (dx l) k = val (l.take k) := by
  induction k with
  | zero => simp [vf, val]
  | succ k ih => rw [vf, ih, val_take_succ]
theorem val_replicate (n : Nat) : val (List.replicate n 0) = 0 := by
  induction n with
  | zero => rfl
  | succ n ih => rw [List.replicate_succ, val, ih]; rfl
theorem val_set {l : List Nat} {i : Nat} (h : i < l.length) (v : Nat) : val (l.set i v) + dx l i * Bs ^ i = val l + v * Bs ^ i := by
  induction l generalizing i with
  | nil => simp at h
  | cons y l ih =>
    cases i with
    | zero => simp [val, dx]; omega
    | succ i =>
      have := ih (i := i) (by simpa using h)
      simp only [List.set_cons_succ, val, dx_cons_succ, Nat.pow_succ]
      rw [← Nat.mul_assoc, ← Nat.mul_assoc, Nat.mul_comm _ Bs, Nat.mul_comm _ Bs]
      have h2 := congrArg (Bs * ·) this
      simp only [Nat.mul_add] at h2
      omega
theorem dx_set {l : List Nat} {i : Nat} (h : i < l.length) (v j : Nat) : dx (l.set i v) j = if j = i then v else dx l j := by
  unfold dx
  rw [List.getD_eq_getElem?_getD, List.getD_eq_getElem?_getD, List.getElem?_set]
  by_cases e : i = j
  · subst e; simp [h]
  · rw [if_neg e, if_neg (fun h => e h.symm)]
theorem digs_set {l : List Nat} (h : Digs l) {v : Nat} (hv : v < Bs) (i : Nat) : Digs (l.set i v) := by
  intro d hd
  rcases List.mem_or_eq_of_mem_set hd with h1 | h1
  · exact h d h1
  · subst h1; exact hv
theorem digs_replicate (n : Nat) : Digs (List.replicate n 0) := by
  intro d hd
  rw [List.mem_replicate] at hd
  rw [hd.2]; exact Bs_pos
theorem digs_take {l : List Nat} (h : Digs l) (k : Nat) : Digs (l.take k) := fun d hd => h d (List.mem_of_mem_take hd)
theorem digs_snoc {l : List Nat} (h : Digs l) {v : Nat} (hv : v < Bs) : Digs (l ++ [v]) := by
  intro d hd
  rcases List.mem_append.1 hd with h1 | h1
  · exact h d h1
  · simp at h1; subst h1; exact hv

/-- The limbs of a number. -/
def dig (n : Nat) : List Nat := if _h : n = 0 then [] else (n % Bs) :: dig (n / Bs)
termination_by n
decreasing_by exact Nat.div_lt_self (by omega) (by decide)
theorem dig_zero : dig 0 = [] := by unfold dig; simp
theorem dig_pos {n : Nat} (h : n ≠ 0) : dig n = (n % Bs) :: dig (n / Bs) := by rw [dig]; simp [h]
theorem val_dig (n : Nat) : val (dig n) = n := by
  induction n using Nat.strongRecOn with
  | ind n ih =>
    by_cases h : n = 0
    · subst h; rw [dig_zero]; rfl
    · rw [dig_pos h, val, ih _ (Nat.div_lt_self (by omega) (by decide))]
      exact Nat.mod_add_div n Bs
theorem digs_dig (n : Nat) : Digs (dig n) := by
  induction n using Nat.strongRecOn with
  | ind n ih =>
    by_cases h : n = 0
    · subst h; rw [dig_zero]; intro d hd; cases hd
    · rw [dig_pos h]
      intro d hd
      rcases List.mem_cons.1 hd with rfl | hd
      · exact Nat.mod_lt _ Bs_pos
      · exact ih _ (Nat.div_lt_self (by omega) (by decide)) d hd
/-- Limbs without a zero at the end. -/
def Canon : List Nat → Prop
  | [] => True
  | x :: xs => x < Bs ∧ Canon xs ∧ (xs = [] → x ≠ 0)
theorem canon_dig (n : Nat) : Canon (dig n) := by
  induction n using Nat.strongRecOn with
  | ind n ih =>
    by_cases h : n = 0
    · subst h; rw [dig_zero]; trivial
    · rw [dig_pos h]
      refine ⟨Nat.mod_lt _ Bs_pos, ih _ (Nat.div_lt_self (by omega) (by decide)), fun e => ?_⟩
      have h2 : n / Bs = 0 := by rw [← val_dig (n / Bs), e]; rfl
      have := Nat.mod_add_div n Bs
      rw [h2] at this
      omega
theorem canon_val_pos {l : List Nat} (h : Canon l) (hl : l ≠ []) : 0 < val l := by
  induction l with
  | nil => exact absurd rfl hl
  | cons x xs ih =>
    simp only [val]
    by_cases e : xs = []
    · have := h.2.2 e; omega
    · have := ih h.2.1 e
      have := Nat.mul_lt_mul_of_pos_left this Bs_pos
      omega
theorem dig_val {l : List Nat} (h : Canon l) : dig (val l) = l := by
  induction l with
  | nil => exact dig_zero
  | cons x xs ih =>
    have hp := canon_val_pos h (by simp)
    rw [dig_pos (by omega)]
    simp only [val]
    rw [Nat.add_mul_mod_self_left, Nat.mod_eq_of_lt h.1, Nat.add_mul_div_left _ _ Bs_pos, Nat.div_eq_of_lt h.1, Nat.zero_add, ih h.2.1]
theorem canon_of_last {l : List Nat} (h : Digs l) (hl : l ≠ [] → dx l (l.length - 1) ≠ 0) : Canon l := by
  induction l with
  | nil => trivial
  | cons x xs ih =>
    refine ⟨h x (by simp), ih (fun d hd => h d (by simp [hd])) (fun e => ?_), fun e => ?_⟩
    · have := hl (by simp)
      obtain ⟨m, hm⟩ : ∃ m, xs.length = m + 1 := ⟨xs.length - 1, by have := List.length_pos_iff.2 e; omega⟩
      rw [List.length_cons, hm] at this
      rw [hm]
      simpa [dx_cons_succ] using this
    · subst e
      have := hl (by simp)
      simpa [dx] using this
theorem canon_last {l : List Nat} (h : Canon l) (hl : l ≠ []) : dx l (l.length - 1) ≠ 0 := by
  induction l with
  | nil => exact absurd rfl hl
  | cons x xs ih =>
    by_cases e : xs = []
    · subst e; simpa [dx] using h.2.2 rfl
    · obtain ⟨m, hm⟩ : ∃ m, xs.length = m + 1 := ⟨xs.length - 1, by have := List.length_pos_iff.2 e; omega⟩
      have := ih h.2.1 e
      rw [hm] at this
      rw [List.length_cons, hm]
      simpa [dx_cons_succ] using this
theorem canon_lower {l : List Nat} (h : Canon l) (hl : l ≠ []) : Bs ^ (l.length - 1) ≤ val l := by
  rw [val_eq_vf]
  obtain ⟨m, hm⟩ : ∃ m, l.length = m + 1 := ⟨l.length - 1, by have := List.length_pos_iff.2 hl; omega⟩
  have h1 := canon_last h hl
  rw [hm] at h1 ⊢
  simp only [Nat.add_sub_cancel] at h1 ⊢
  rw [vf]
  have := Nat.mul_le_mul_right (Bs ^ m) (Nat.one_le_iff_ne_zero.2 h1)
  omega
theorem canon_of_lower {l : List Nat} (h : Digs l) (hl : l ≠ [] → Bs ^ (l.length - 1) ≤ val l) : Canon l := by
  refine canon_of_last h fun e h0 => ?_
  have h1 := hl e
  obtain ⟨m, hm⟩ : ∃ m, l.length = m + 1 := ⟨l.length - 1, by have := List.length_pos_iff.2 e; omega⟩
  rw [val_eq_vf, hm] at h1
  rw [hm] at h0
  simp only [Nat.add_sub_cancel] at h0 h1
  rw [vf, h0] at h1
  have := vf_lt (f := dx l) (k := m) fun i _ => dx_lt h i
  omega
theorem dig_len_le {n k : Nat} : (dig n).length ≤ k ↔ n < Bs ^ k := by
  constructor
  · intro h
    have := val_lt (digs_dig n)
    rw [val_dig] at this
    exact Nat.lt_of_lt_of_le this (Nat.pow_le_pow_right Bs_pos h)
  · intro h
    rcases Nat.lt_or_ge k (dig n).length with hl | hl
    · have hne : dig n ≠ [] := fun e => by rw [e] at hl; simp at hl
      have h1 := canon_lower (canon_dig n) hne
      rw [val_dig] at h1
      have h2 := Nat.pow_le_pow_right (n := Bs) Bs_pos (show k ≤ (dig n).length - 1 by omega)
      omega
    · exact hl
theorem dig_nil {n : Nat} : dig n = [] ↔ n = 0 := by
  constructor
  · intro h; rw [← val_dig n, h]; rfl
  · rintro rfl; exact dig_zero
theorem dig_len_pos {n : Nat} : 0 < (dig n).length ↔ 0 < n := by
  rw [List.length_pos_iff, Ne, dig_nil]; omega
/-- Limbs that are cut where the rest is zero. -/
theorem trim_val {l : List Nat} {m : Nat} (h : ∀ j, m ≤ j → dx l j = 0) : val (l.take m) = val l := by
  rw [← vf_take]
  rcases Nat.lt_or_ge m l.length with hm | hm
  · rw [val_eq_vf]; exact (vf_zero (fun i h1 _ => h i h1) (by omega)).symm
  · exact val_vf hm
theorem dx_take {l : List Nat} {m k : Nat} (h : k < m) : dx (l.take m) k = dx l k := by
  unfold dx
  rw [List.getD_eq_getElem?_getD, List.getD_eq_getElem?_getD, List.getElem?_take, if_pos h]
theorem trim_dig {l : List Nat} {m : Nat} (hd : Digs l) (hm : m ≤ l.length) (h : ∀ j, m ≤ j → dx l j = 0) (h0 : m = 0 ∨ dx l (m - 1) ≠ 0) : l.take m = dig (val l) := by
  rw [← trim_val h]
  refine (dig_val (canon_of_last (digs_take hd m) fun e => ?_)).symm
  have hl : (l.take m).length = m := by rw [List.length_take]; omega
  rw [hl]
  have hpos : 0 < m := by
    rw [← hl]; exact List.length_pos_iff.2 e
  rw [dx_take (by omega)]
  rcases h0 with h0 | h0
  · omega
  · exact h0

/-- Limbs as ints. -/
def ints (l : List Nat) : List Int := l.map Int.ofNat
theorem ints_len (l : List Nat) : (ints l).length = l.length := by simp [ints]
theorem ints_append (a b : List Nat) : ints (a ++ b) = ints a ++ ints b := by simp [ints]
theorem ints_set (a : List Nat) (k x : Nat) : ints (a.set k x) = (ints a).set k (x : Int) := by simp [ints]
theorem ints_replicate (n : Nat) : ints (List.replicate n 0) = List.replicate n 0 := by simp [ints]
theorem ints_inj {a b : List Nat} (h : ints a = ints b) : a = b := by
  unfold ints at h
  exact (List.map_inj_right (fun x y h => Int.ofNat.inj h)).1 h
end

section
open Go.RowKit

/-- The limbs read as a natural number. -/
def nv (l : List Int) : Nat := val (l.map Int.toNat)
theorem map_toNat_ints (l : List Nat) : (ints l).map Int.toNat = l := by
  unfold ints
  rw [List.map_map]
  have : (Int.toNat ∘ Int.ofNat) = (id : Nat → Nat) := by funext x; rfl
  rw [this, List.map_id]
theorem nv_ints (N : Nat) : nv (ints (dig N)) = N := by
  unfold nv; rw [map_toNat_ints, val_dig]
/-- Limbs of a natural number that is not too large. -/
def OkN (l : List Int) : Prop := ∃ N, l = ints (dig N) ∧ (dig N).length ≤ 60
theorem OkN.nv {l : List Int} (h : OkN l) : l = ints (dig (nv l)) ∧ l.length ≤ 60 := by
  obtain ⟨N, rfl, h⟩ := h
  rw [nv_ints]
  exact ⟨rfl, by rw [ints_len]; exact h⟩
theorem okN_iff (l : List Int) : OkN l ↔ l.length ≤ 60 ∧ (l.length = 0 ∨ ix l (l.length - 1) ≠ 0) ∧ ∀ k, k < l.length → 0 ≤ ix l k ∧ ix l k ≤ 999999999 := by
  constructor
  · rintro ⟨N, rfl, h⟩
    rw [ints_len]
    refine ⟨h, ?_, fun k hk => ?_⟩
    · rcases Nat.eq_zero_or_pos (dig N).length with h0 | h0
      · exact .inl h0
      · right
        have := canon_last (canon_dig N) (List.length_pos_iff.1 h0)
        unfold ix
        unfold dx at this
        unfold ints
        rw [List.getD_eq_getElem?_getD] at this
        rw [List.getD_eq_getElem?_getD, List.getElem?_map]
        rw [List.getElem?_eq_getElem (by omega)] at this ⊢
        simp at this ⊢
        omega
    · have := dx_lt (digs_dig N) k
      rw [Bs_eq] at this
      unfold ix
      unfold dx at this
      unfold ints
      rw [List.getD_eq_getElem?_getD] at this
      rw [List.getD_eq_getElem?_getD, List.getElem?_map]
      rw [List.getElem?_eq_getElem hk] at this ⊢
      simp at this ⊢
      omega
  · rintro ⟨h1, h2, h3⟩
    have hd : Digs (l.map Int.toNat) := by
      refine digs_of_dx fun k hk => ?_
      rw [List.length_map] at hk
      have := h3 k hk
      unfold ix at this
      unfold dx
      rw [List.getD_eq_getElem?_getD] at this ⊢
      rw [List.getElem?_map, List.getElem?_eq_getElem hk]
      rw [List.getElem?_eq_getElem hk] at this
      simp at this ⊢
      rw [Bs_eq]
      omega
    have hc : Canon (l.map Int.toNat) := by
      refine canon_of_last hd fun e => ?_
      have e0 : l.length ≠ 0 := by intro e0; apply e; rw [List.length_eq_zero_iff.1 e0]; rfl
      rcases h2 with h2 | h2
      · exact absurd h2 e0
      · have h4 := (h3 (l.length - 1) (by omega)).1
        rw [List.length_map]
        unfold dx
        unfold ix at h2 h4
        rw [List.getD_eq_getElem?_getD] at h2 h4 ⊢
        rw [List.getElem?_map]
        rw [List.getElem?_eq_getElem (by omega)] at h2 h4 ⊢
        simp at h2 h4 ⊢
        omega
    have he : l = ints (l.map Int.toNat) := by
      unfold ints
      rw [List.map_map]
      apply List.ext_getElem (by simp)
      intro i hi _
      have := h3 i hi
      unfold ix at this
      rw [List.getD_eq_getElem?_getD, List.getElem?_eq_getElem hi] at this
      simp at this ⊢
      omega
    refine ⟨val (l.map Int.toNat), ?_, ?_⟩
    · rw [dig_val hc]; exact he
    · rw [dig_val hc, List.length_map]; exact h1

/-- The fraction (sign, magnitude, denominator) over limbs. -/
def raw (x : Int) (D : Nat) : RatD := ⟨decide (x < 0), ints (dig x.natAbs), ints (dig D)⟩
/-- The zero value: what is not valid. -/
def zR : RatD := ⟨false, [], []⟩
/-- x / D in lowest terms; the zero value if it is too large. -/
def ofFrac (x : Int) (D : Nat) : RatD :=
  if (dig (x.natAbs / Nat.gcd x.natAbs D)).length ≤ 24 ∧ (dig (D / Nat.gcd x.natAbs D)).length ≤ 24 then raw (x / (Nat.gcd x.natAbs D : Int)) (D / Nat.gcd x.natAbs D) else zR
def rn (r : RatD) : Int := if r.neg = true then - (nv r.mag : Int) else (nv r.mag : Int)
def rd (r : RatD) : Nat := nv r.den
theorem rn_raw (x : Int) (D : Nat) : rn (raw x D) = x := by
  unfold rn raw
  simp only [nv_ints]
  by_cases h : x < 0
  · simp [h]; omega
  · simp [h]; omega
theorem rd_raw (x : Int) (D : Nat) : rd (raw x D) = D := by unfold rd raw; simp only [nv_ints]
/-- A valid fraction. -/
def OkR (r : RatD) : Prop := ∃ (x : Int) (D : Nat), r = raw x D ∧ 0 < D ∧ Nat.gcd x.natAbs D = 1 ∧ (dig x.natAbs).length ≤ 24 ∧ (dig D).length ≤ 24
theorem OkR.get {r : RatD} (h : OkR r) : r = raw (rn r) (rd r) ∧ 0 < rd r ∧ Nat.gcd (rn r).natAbs (rd r) = 1 ∧ (dig (rn r).natAbs).length ≤ 24 ∧ (dig (rd r)).length ≤ 24 := by
  obtain ⟨x, D, rfl, h⟩ := h
  rw [rn_raw, rd_raw]
  exact ⟨rfl, h⟩
theorem not_ok_zR : ¬ OkR zR := by
  rintro ⟨x, D, h, hD, _⟩
  have : (dig D).length = 0 := by
    have := congrArg RatD.den h
    simp only [zR, raw] at this
    rw [← ints_len, ← this]; rfl
  have := dig_len_pos.2 hD
  omega
open Classical in
/-- Whether it is valid (a plain def: the walk leaves it closed). -/
noncomputable def okR (r : RatD) : Bool := decide (OkR r)
open Classical in
noncomputable def okN (l : List Int) : Bool := decide (OkN l)
theorem okR_true {r : RatD} : okR r = true ↔ OkR r := by unfold okR; simp
theorem okR_false {r : RatD} : okR r = false ↔ ¬ OkR r := by unfold okR; simp
theorem okN_true {r : List Int} : okN r = true ↔ OkN r := by unfold okN; simp
theorem okN_false {r : List Int} : okN r = false ↔ ¬ OkN r := by unfold okN; simp

open Classical in
noncomputable def addR (r s : RatD) : RatD := if OkR r ∧ OkR s then ofFrac (rn r * rd s + rn s * rd r) (rd r * rd s) else zR
open Classical in
noncomputable def subR (r s : RatD) : RatD := if OkR r ∧ OkR s then ofFrac (rn r * rd s - rn s * rd r) (rd r * rd s) else zR
open Classical in
noncomputable def mulR (r s : RatD) : RatD := if OkR r ∧ OkR s then ofFrac (rn r * rn s) (rd r * rd s) else zR
open Classical in
noncomputable def divR (r s : RatD) : RatD := if OkR r ∧ OkR s ∧ rn s ≠ 0 then ofFrac (rn r * rd s * (if rn s < 0 then -1 else 1)) (rd r * (rn s).natAbs) else zR
/-- -1, 0, 1. -/
def cmpZ (a b : Int) : Int := if a < b then -1 else if b < a then 1 else 0
theorem gcd_pos_den {n D : Nat} (h : 0 < D) : 0 < Nat.gcd n D := Nat.gcd_pos_of_pos_right _ h
theorem natAbs_ediv_gcd (x : Int) (g : Nat) (hg : g ∣ x.natAbs) : (x / (g : Int)).natAbs = x.natAbs / g := by
  obtain ⟨k, hk⟩ := hg
  rcases Nat.eq_zero_or_pos g with h0 | h0
  · subst h0; simp
  · rw [hk, Nat.mul_div_cancel_left _ h0]
    rcases Int.natAbs_eq x with e | e
    · rw [e, hk]
      have : ((g * k : Nat) : Int) / (g : Int) = (k : Int) := by
        rw [Int.natCast_mul]; exact Int.mul_ediv_cancel_left _ (by omega)
      rw [this]; simp
    · rw [e, hk]
      have : (-((g * k : Nat) : Int)) / (g : Int) = -(k : Int) := by
        rw [Int.natCast_mul, ← Int.mul_neg]; exact Int.mul_ediv_cancel_left _ (by omega)
      rw [this]; simp
theorem ediv_neg_iff (x : Int) (g : Nat) (h0 : 0 < g) : x / (g : Int) < 0 ↔ x < 0 := by
  constructor
  · intro h
    rcases Int.lt_or_le x 0 with hx | hx
    · exact hx
    · have := Int.ediv_nonneg hx (show (0 : Int) ≤ g by omega)
      omega
  · intro h
    exact Int.ediv_neg_of_neg_of_pos h (by omega)
end

section
open Go.RowKit

set_option maxHeartbeats 1600000 in
theorem within_any (w : World) (a lo hi : Int) :
    Calls Tryz.prog 99 #[.int .i64 a, .int .i64 lo, .int .i64 hi] w fun e w' => e = .returned (.bool (decide (lo ≤ a) && decide (a ≤ hi))) ∧ ∃ q, w' = w.drewN q := by
  by_cases h1 : lo ≤ a
  · by_cases h2 : a ≤ hi
    · go_enter Tryz.func99, Tryz.ntmps99
      go_wp2
      go_ret
      exact ⟨by simp [*], (by first | exact ⟨_, rfl⟩ | exact ⟨0, rfl⟩ | exact q_drewN ⟨_, rfl⟩ | exact q_drewN (q_drewN ⟨_, rfl⟩))⟩
    · go_enter Tryz.func99, Tryz.ntmps99
      go_wp2
      go_ret
      exact ⟨by simp [*], (by first | exact ⟨_, rfl⟩ | exact ⟨0, rfl⟩ | exact q_drewN ⟨_, rfl⟩ | exact q_drewN (q_drewN ⟨_, rfl⟩))⟩
  · go_enter Tryz.func99, Tryz.ntmps99
    go_wp2
    go_ret
    exact ⟨by rw [decide_eq_false (show ¬ lo ≤ a by omega)]; rfl, (by first | exact ⟨_, rfl⟩ | exact ⟨0, rfl⟩ | exact q_drewN ⟨_, rfl⟩ | exact q_drewN (q_drewN ⟨_, rfl⟩))⟩

set_option maxHeartbeats 1600000 in
theorem corners_any (w : World) (t : TriD) :
    Calls Tryz.prog 104 #[.agg #[.int .i64 t.a, .int .i64 t.b, .int .i64 t.c, .int .i64 t.region, .int .i64 t.level]] w fun e w' => e = .returned (.agg #[.int .i64 t.a, .int .i64 t.b, .int .i64 t.c]) ∧ Bl w w' := by
  go_enter Tryz.func104, Tryz.ntmps104
  go_wp2
  refine bodyPost_ret (v := .agg #[.int .i64 t.a, .int .i64 t.b, .int .i64 t.c]) (by simp [results, Tryz.results104, go_sem]) rfl ⟨rfl, slc⟩
end

section
open Go.RowKit

theorem ix_ints (l : List Nat) (k : Nat) : ix (ints l) k = (dx l k : Int) := by
  unfold ix ints dx
  rw [List.getD_eq_getElem?_getD, List.getD_eq_getElem?_getD, List.getElem?_map]
  cases l[k]? <;> rfl
/-- The slice reads as the limbs of N. -/
abbrev IsN (w : World) (A : Option Addr) (n c N : Nat) : Prop := RdI w A n c (ints (dig N))
theorem RdI.atN {w : World} {A : Option Addr} {n c : Nat} {l : List Nat} (h : RdI w A n c (ints l)) {k : Nat} (hk : k < n) :
    ∃ ad, A = some ad ∧ ad.block < w.heap.size ∧ w.cell? (ad.add k) = some (.int .i64 ((dx l k : Nat) : Int)) := by
  obtain ⟨ad, e, hlt, hc⟩ := h.at_ hk
  exact ⟨ad, e, hlt, by rw [hc, ix_ints]⟩
theorem RdI.lenN {w : World} {A : Option Addr} {n c : Nat} {l : List Nat} (h : RdI w A n c (ints l)) : l.length = n := by
  have := h.len
  rwa [ints_len] at this
theorem RdI.cut {w : World} {A : Option Addr} {n c m : Nat} {l : List Nat} (h : RdI w A n c (ints l)) (hm : m ≤ n) : RdI w A m c (ints (l.take m)) :=
  ⟨by rw [ints_len, List.length_take, h.lenN]; omega, Nat.le_trans hm h.cap, Nat.le_trans hm h.small, fun k hk => by
    obtain ⟨ad, e, hlt, hc⟩ := h.atN (k := k) (by omega)
    exact ⟨ad, e, hlt, by rw [hc, ix_ints, dx_take hk]⟩⟩

theorem RdI.of_ow {T : TypeId} {w : World} {g n c : Nat} {l : List Int} (h : Ow T w g l) (hl : l.length = n) (hn : n ≤ 9223372036854775807) (hc : n ≤ c := by omega) : RdI w (some ⟨g, 0, none⟩) n c l := by
  subst hl
  exact h.rd hn hc
/-- A block of limbs, cut behind its last limb that is not 0. -/
theorem OwI.of_ow {T : TypeId} {w : World} {b0 g n c m N : Nat} {l : List Nat} (h : Ow T w g (ints l)) (hg : b0 ≤ g) (hl : (ints l).length = n) (hn : n ≤ 9223372036854775807) (hm : m ≤ n) (ht : l.take m = dig N) (hc : n ≤ c := by omega) : OwI T b0 w (some ⟨g, 0, none⟩) m c (ints (dig N)) := by
  have hr := (RdI.of_ow (c := c) h hl hn hc).cut hm
  rw [ht] at hr
  exact ⟨hr, .inr ⟨g, _, rfl, hg, h, by simp; omega⟩⟩
theorem OwI.q {T : TypeId} {w w' : World} {b0 : Nat} {A : Option Addr} {n c : Nat} {l : List Int} (h : OwI T b0 w A n c l) (hq : ∃ q, w' = w.drewN q) : OwI T b0 w' A n c l := h.bl (q_bl hq)

/-- Block g begins with the ints l, none frozen. -/
def Pre (T : TypeId) (w : World) (g : Nat) (l : List Int) : Prop := ∃ r : List Value, w.heap[g]? = some (.cells (l.map (Value.int .i64) ++ r).toArray T (0, 0))
section
variable {T : TypeId} {w W : World} {g : Nat} {l : List Int}
theorem Ow.pre (h : Ow T w g l) : Pre T w g l := ⟨[], by rw [List.append_nil]; exact h⟩
theorem Pre.lt (h : Pre T w g l) : g < w.heap.size := by
  obtain ⟨r, h⟩ := h
  exact heap_lt h
theorem Pre.cell (h : Pre T w g l) {k : Nat} (hk : k < l.length) : w.cell? ⟨g, k, none⟩ = some (.int .i64 (ix l k)) := by
  obtain ⟨r, h⟩ := h
  rw [cell_of_row w g k _ T (0, 0) h]
  simp [ix, hk, List.getElem?_append]
theorem Pre.frozen (h : Pre T w g l) (k : Nat) : w.frozen? ⟨g, k, none⟩ = false := by
  obtain ⟨r, h⟩ := h
  simp [World.frozen?, h]
theorem Pre.set_ (h : Pre T w g l) {k : Nat} (hk : k < l.length) (x : Int) : Pre T (w.setCell ⟨g, k, none⟩ (.int .i64 x)) g (l.set k x) := by
  obtain ⟨r, h⟩ := h
  refine ⟨r, ?_⟩
  simp only [World.setCell, Array.getElem?_modify, h]
  simp [hk, List.map_set]
theorem Pre.far (h : Pre T w g l) {p : Addr} (hp : g ≠ p.block) (u : Value) : Pre T (w.setCell p u) g l := by
  obtain ⟨r, h⟩ := h
  exact ⟨r, (Below.heap_setCell w p u g hp).trans h⟩
theorem Pre.bl (h : Pre T w g l) (hb : Bl w W) : Pre T W g l := by
  obtain ⟨r, h⟩ := h
  exact ⟨r, (Below.block hb g (heap_lt h)).trans h⟩
theorem Pre.rd (h : Pre T w g l) {n c : Nat} (hl : l.length = n) (hn : n ≤ 9223372036854775807) (hc : n ≤ c) : RdI w (some ⟨g, 0, none⟩) n c l :=
  ⟨hl, hc, hn, fun k hk => ⟨⟨g, 0, none⟩, rfl, h.lt, by
    rw [Addr.add_lit, Nat.zero_add]
    exact h.cell (by rw [hl]; exact hk)⟩⟩
theorem Pre.cutN {n c m b0 N : Nat} {l : List Nat} (h : Pre T w g (ints l)) (hg : b0 ≤ g) (hl : l.length = n) (hn : n ≤ 9223372036854775807) (hc : n ≤ c) (hm : m ≤ n) (ht : l.take m = dig N) : OwI T b0 w (some ⟨g, 0, none⟩) m c (ints (dig N)) := by
  have hr := (h.rd (c := c) (by rw [ints_len]; exact hl) hn hc).cut hm
  rw [ht] at hr
  obtain ⟨r, h⟩ := h
  exact ⟨hr, .inr ⟨g, _, rfl, hg, h, by simp [ints_len]; omega⟩⟩
theorem OwI.pre {b0 : Nat} {A : Option Addr} {n c : Nat} (h : OwI T b0 w A n c l) (h0 : 0 < n) : ∃ g, A = some ⟨g, 0, none⟩ ∧ b0 ≤ g ∧ Pre T w g l := by
  obtain ⟨hr, h2⟩ := h
  rcases h2 with h2 | ⟨g, cs, rfl, hg, hh, hn⟩
  · omega
  · refine ⟨g, rfl, hg, cs.toList.drop n, ?_⟩
    rw [hh]
    congr 2
    apply Array.toList_inj.1
    simp only []
    apply List.ext_getElem?
    intro i
    rcases Nat.lt_or_ge i n with hi | hi
    · rw [List.getElem?_append_left (by simp [hr.len, hi])]
      obtain ⟨ad, e, _, hc⟩ := hr.at_ hi
      injection e with e
      subst e
      rw [Addr.add_lit, Nat.zero_add, cell_of_row w g i cs T (0, 0) hh] at hc
      rw [Array.getElem?_toList, hc]
      simp [ix, hr.len, hi]
    · rw [List.getElem?_append_right (by simp [hr.len, hi])]
      simp [hr.len, hi]
end

theorem zero_step {l : List Nat} {m : Nat} (h : ∀ j, m + 1 ≤ j → dx l j = 0) (h0 : dx l m = 0) : ∀ j, m ≤ j → dx l j = 0 := by
  intro j hj
  rcases Nat.eq_or_lt_of_le hj with rfl | hlt
  · exact h0
  · exact h j hlt

set_option maxHeartbeats 1600000 in
theorem trimmed_any (w : World) {A : Option Addr} {n c : Nat} {l : List Nat} (h : RdI w A n c (ints l)) (hd : Digs l) :
    Calls Tryz.prog 172 #[.slice A n c] w fun e w' => ∃ m, e = .returned (.slice A m c) ∧ m ≤ n ∧ l.take m = dig (val l) ∧ ∃ q, w' = w.drewN q := by
  have hn := h.small
  have hcap := h.cap
  have hl := Lib.hid h.lenN
  go_enter Tryz.func172, Tryz.ntmps172
  go_wp2
  go_loop [0] (fun v => ∃ m, v = .slice A m c ∧ m ≤ n ∧ ∀ j, m ≤ j → dx l j = 0) (fun v => match v with | .slice _ m _ => m | _ => 0)
  case atStart => exact ⟨n, rfl, Nat.le_refl _, fun j hj => dx_beyond (by rw [hl.out]; exact hj)⟩
  case round =>
    obtain ⟨m, rfl, hm, hz⟩ := hrel
    have hz := Lib.hid hz; rename_i hzo; clear hzo
    rcases m with _ | m
    · have hfin := Lib.hid (trim_dig hd (Nat.zero_le _) hz.out (.inl rfl))
      go_wp2
      go_ret
      exact ⟨0, rfl, Nat.zero_le _, hfin.out, 0, rfl⟩
    · obtain ⟨ad, rfl, hlt, hc⟩ := h.atN (k := m) (by omega)
      have hki : ((m + 1 : Nat) : Int) - 1 = (m : Int) := by omega
      have hmc : m ≤ c := by omega
      by_cases h0 : dx l m = 0
      · have hz' := Lib.hid (zero_step hz.out h0)
        rw [h0] at hc
        have h0' := Lib.hid h0; clear h0
        go_wp2
        go_round
        case rel => exact ⟨m, rfl, by omega, hz'.out⟩
        case measure => simp
      · have hfin := Lib.hid (trim_dig hd (by rw [hl.out]; exact hm) hz.out (.inr h0))
        have hbeq : (((dx l m : Nat) : Int) == 0) = false := by simp; omega
        clear h0
        go_wp2
        go_ret
        exact ⟨m + 1, rfl, hm, hfin.out, 0, rfl⟩
end

end Go.Proofs.YtajlahjghapbkaaGreat
