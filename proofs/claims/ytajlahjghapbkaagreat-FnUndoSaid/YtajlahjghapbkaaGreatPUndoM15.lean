/- Lemmas. -/
import Derived.Test.YtajlahjghapbkaaGreatRows
import Derived.Test.YtajlahjghapbkaaGreatPUndoM12
import Derived.Test.YtajlahjghapbkaaGreatPUndoM14
import Derived.Deep.Cut
import Derived.Test.YtajlahjghapbkaaGreatPUndoM09
namespace Go.Proofs.YtajlahjghapbkaaGreat
section
open Go.RowKit

/-- What holds when the limbs from place k on have been divided. -/
structure DvRel (N V n k R : Nat) (o : List Nat) : Prop where
  len : o.length = n
  digs : Digs o
  zero : ∀ j, j < k → dx o j = 0
  quo : val o = N / Bs ^ k / V * Bs ^ k
  rest : R = N / Bs ^ k % V
theorem DvRel.start {N V n : Nat} (h : (dig N).length = n) : DvRel N V n n 0 (List.replicate n 0) := by
  have h1 : N / Bs ^ n = 0 := Nat.div_eq_of_lt (dig_len_le.1 (Nat.le_of_eq h))
  exact ⟨by simp, digs_replicate _, fun j _ => dx_replicate _ _, by rw [val_replicate, h1]; simp, by rw [h1]; simp⟩
theorem DvRel.digit {N V n k R : Nat} {o : List Nat} (h : DvRel N V n (k + 1) R o) (hV : 0 < V) : dx (dig N) k + Bs * R < Bs * V ∧ (dx (dig N) k + Bs * R) / V < Bs := by
  have h1 := dx_lt (digs_dig N) k
  have h2 : R < V := by rw [h.rest]; exact Nat.mod_lt _ hV
  have h3 : dx (dig N) k + Bs * R < Bs * V := by
    have : Bs * (R + 1) ≤ Bs * V := Nat.mul_le_mul_left _ h2
    rw [Nat.mul_add] at this
    omega
  exact ⟨h3, (Nat.div_lt_iff_lt_mul hV).2 h3⟩
theorem DvRel.step {N V n k R : Nat} {o : List Nat} (h : DvRel N V n (k + 1) R o) (hk : k < n) (hV : 0 < V) : DvRel N V n k ((dx (dig N) k + Bs * R) % V) (o.set k ((dx (dig N) k + Bs * R) / V)) := by
  have hi : k < o.length := by rw [h.len]; exact hk
  have hd := (h.digit hV).2
  have hT : N / Bs ^ k = dx (dig N) k + Bs * (N / Bs ^ (k + 1)) := by
    rw [dx_dig, Nat.pow_succ, ← Nat.div_div_eq_div_mul]
    exact (Nat.mod_add_div _ _).symm
  have hS := Nat.mod_add_div (N / Bs ^ (k + 1)) V
  rw [← h.rest] at hS
  have hT2 : N / Bs ^ k = (dx (dig N) k + Bs * R) + V * (Bs * (N / Bs ^ (k + 1) / V)) := by
    rw [hT]
    conv => lhs; rw [← hS]
    grind
  refine ⟨by rw [List.length_set]; exact h.len, digs_set h.digs hd _, fun j hj => ?_, ?_, ?_⟩
  · rw [dx_set hi, if_neg (by omega)]
    exact h.zero j (by omega)
  · have h0 := val_set hi ((dx (dig N) k + Bs * R) / V)
    rw [h.zero k (by omega), Nat.zero_mul, Nat.add_zero, h.quo] at h0
    rw [h0, hT2, Nat.add_mul_div_left _ _ hV, Nat.pow_succ]
    grind
  · rw [hT2, Nat.add_mul_mod_self_left]
theorem DvRel.skip {N V n k R : Nat} {o : List Nat} (h : DvRel N V n (k + 1) R o) (hk : k < n) (hV : 0 < V) (hlt : dx (dig N) k + Bs * R < V) : DvRel N V n k (dx (dig N) k + Bs * R) o := by
  have := h.step hk hV
  rw [Nat.div_eq_of_lt hlt, Nat.mod_eq_of_lt hlt] at this
  have e : o.set k 0 = o := by
    apply List.ext_getElem (by simp)
    intro i h1 h2
    rw [List.getElem_set]
    split
    · rename_i he
      subst he
      have := h.zero k (by omega)
      unfold dx at this
      rw [List.getD_eq_getElem?_getD, List.getElem?_eq_getElem h2] at this
      exact this.symm
    · rfl
  rwa [e] at this
theorem DvRel.stop {N V n R : Nat} {o : List Nat} (h : DvRel N V n 0 R o) : val o = N / V ∧ R = N % V := by
  have h1 := h.quo
  have h2 := h.rest
  simp only [Nat.pow_zero, Nat.div_one, Nat.mul_one] at h1 h2
  exact ⟨h1, h2⟩
end

section
open Go.RowKit

set_option maxHeartbeats 4000000 in
theorem l03Make_any (w : World) (s : Bool) {A : Option Addr} {n c N : Nat} (h : IsN w A n c N) (h60 : n ≤ 60) :
    Calls Tryz.prog 231 #[.bool s, .slice A n c] w fun e w' => ∃ s' A' n' c', e = .returned (.agg #[.bool s', .slice A' n' c']) ∧ Hid (s' = (s && decide (0 < N))) ∧ OwI 3 w.heap.size w' A' n' c' (ints (dig N)) ∧ Bl w w' := by
  have hl := h.lenN
  have hl1 : Hid ((([] : List Int) ++ ints (dig N)).length = n) := by have := RdI.len h; unfold Hid; simpa using this
  have hp := dig_len_pos (n := N)
  rw [hl] at hp
  clear hl
  rcases s with _ | _
  · have hs := Lib.hid (show false = (false && decide (0 < N)) from rfl)
    clear hp
    go_enter Tryz.func231, Tryz.ntmps231
    go_wp2_with fail
    refine (l02Cap_num _ (RdI.alloc h _) h60).mono ?_
    rintro e w1 ⟨rfl, q, rfl⟩
    have hbW : Bl w ((w.alloc (.cells #[.bool false, .slice none 0 0] 27)).drewN q) := slc
    have hr : Wk 2 27 w.heap.size ((w.alloc (.cells #[.bool false, .slice none 0 0] 27)).drewN q) := bts
    generalize (w.alloc (.cells #[.bool false, .slice none 0 0] 27)).drewN q = W at *
    have hz := hr.lt
    go_wp2_with (at_builtin; go_must (refine wpList_append_x (w0 := W) info_int Tryz.underlying25 rfl (.tmp 14) (.tmp 15) rfl _ [] rfl (OwL.empty W (Nat.le_refl _) (by simp)) ((Bl.refl W).alloc _) A n c rfl (ints (dig N)) (RdI.alloc (RdI.bl h hbW) _) (by simp) (by omega) ?_); intro v1 w2 hown2 hb2; obtain ⟨A1, c1, hv1, ho1⟩ := hown2.own (by rw [hl1.out]; omega); rw [hl1.out] at hv1 ho1; subst hv1; obtain ⟨⟨x0, x1⟩, hf0, hf1⟩ := (hr.bl hb2).out2)
    have hg := (hr.bl hb2).lt
    have ho1 : OwI 3 (w.heap.size + 1) w2 A1 n c1 (ints (dig N)) := ho1.mono hz
    exact bodyPost_ret (v := .agg #[.bool false, .slice A1 n c1]) (by simp [results, Tryz.results231, go_sem, x0, x1]) rfl ⟨_, _, _, _, rfl, hs, ((ho1.far (by simp) _).far (by simp) _).mono (by omega), slc⟩
  · rcases Nat.eq_zero_or_pos n with h0 | h0
    · have hN : N = 0 := by omega
      have hs := Lib.hid (show false = (true && decide (0 < N)) by simp [hN])
      subst h0
      clear hp hN
      go_enter Tryz.func231, Tryz.ntmps231
      go_wp2_with fail
      refine (l02Cap_num _ (RdI.alloc h _) h60).mono ?_
      rintro e w1 ⟨rfl, q, rfl⟩
      have hbW : Bl w ((w.alloc (.cells #[.bool false, .slice none 0 0] 27)).drewN q) := slc
      have hr : Wk 2 27 w.heap.size ((w.alloc (.cells #[.bool false, .slice none 0 0] 27)).drewN q) := bts
      generalize (w.alloc (.cells #[.bool false, .slice none 0 0] 27)).drewN q = W at *
      have hz := hr.lt
      go_wp2_with (at_builtin; go_must (refine wpList_append_x (w0 := W) info_int Tryz.underlying25 rfl (.tmp 14) (.tmp 15) rfl _ [] rfl (OwL.empty W (Nat.le_refl _) (by simp)) ((Bl.refl W).alloc _) A 0 c rfl (ints (dig N)) (RdI.alloc (RdI.bl h hbW) _) (by simp) (by omega) ?_); intro v1 w2 hown2 hb2; obtain ⟨A1, c1, hv1, ho1⟩ := hown2.own (by rw [hl1.out]; omega); rw [hl1.out] at hv1 ho1; subst hv1; obtain ⟨⟨x0, x1⟩, hf0, hf1⟩ := (hr.bl hb2).out2)
      have hg := (hr.bl hb2).lt
      have ho1 : OwI 3 (w.heap.size + 1) w2 A1 0 c1 (ints (dig N)) := ho1.mono hz
      exact bodyPost_ret (v := .agg #[.bool false, .slice A1 0 c1]) (by simp [results, Tryz.results231, go_sem, x0, x1]) rfl ⟨_, _, _, _, rfl, hs, ((ho1.far (by simp) _).far (by simp) _).mono (by omega), slc⟩
    · have hs := Lib.hid (show true = (true && decide (0 < N)) by simp; omega)
      have h0i : 0 < (n : Int) := by omega
      clear hp
      go_enter Tryz.func231, Tryz.ntmps231
      go_wp2_with fail
      refine (l02Cap_num _ (RdI.alloc h _) h60).mono ?_
      rintro e w1 ⟨rfl, q, rfl⟩
      have hbW : Bl w ((w.alloc (.cells #[.bool false, .slice none 0 0] 27)).drewN q) := slc
      have hr : Wk 2 27 w.heap.size ((w.alloc (.cells #[.bool false, .slice none 0 0] 27)).drewN q) := bts
      generalize (w.alloc (.cells #[.bool false, .slice none 0 0] 27)).drewN q = W at *
      have hz := hr.lt
      go_wp2_with (at_builtin; go_must (refine wpList_append_x (w0 := W) info_int Tryz.underlying25 rfl (.tmp 14) (.tmp 15) rfl _ [] rfl (OwL.empty W (Nat.le_refl _) (by simp)) ((Bl.refl W).alloc _) A n c rfl (ints (dig N)) (RdI.alloc (RdI.bl h hbW) _) (by simp) (by omega) ?_); intro v1 w2 hown2 hb2; obtain ⟨A1, c1, hv1, ho1⟩ := hown2.own (by rw [hl1.out]; omega); rw [hl1.out] at hv1 ho1; subst hv1; obtain ⟨⟨x0, x1⟩, hf0, hf1⟩ := (hr.bl hb2).out2)
      have hg := (hr.bl hb2).lt
      have ho1 : OwI 3 (w.heap.size + 1) w2 A1 n c1 (ints (dig N)) := ho1.mono hz
      exact bodyPost_ret (v := .agg #[.bool true, .slice A1 n c1]) (by simp [results, Tryz.results231, go_sem, x0, x1]) rfl ⟨_, _, _, _, rfl, hs, ((ho1.far (by simp) _).far (by simp) _).mono (by omega), slc⟩
end

section
open Go.RowKit

/-- The signed number of a sign and a magnitude. -/
def sx (s : Bool) (N : Nat) : Int := if s = true then -(N : Int) else (N : Int)
theorem sx_abs (s : Bool) (N : Nat) : (sx s N).natAbs = N := by unfold sx; split <;> omega
theorem sx_neg (s : Bool) (N : Nat) : decide (sx s N < 0) = (s && decide (0 < N)) := by
  unfold sx
  rcases s with _ | _
  · simp
  · simp
def lowS (s : Bool) (N D : Nat) : RatD := if D = 0 then zR else ofFrac (sx s N) D
end

section
open Go.RowKit

theorem OkR.lens {w : World} {s : Bool} {A : Option Addr} {n c : Nat} {B : Option Addr} {m d : Nat} {r : RatD} (h : RdR w s A n c B m d r) (ho : OkR r) : n ≤ 24 ∧ m ≤ 24 ∧ 0 < rd r := by
  have hI := IsR.out h ho
  have g := ho.get
  have l1 := hI.num.lenN
  have l2 := hI.dn.lenN
  omega

set_option maxRecDepth 100000 in
set_option maxHeartbeats 4000000 in
theorem RatAdd_any (w : World) {s : Bool} {A : Option Addr} {n c : Nat} {B : Option Addr} {m d : Nat} {r : RatD} {s' : Bool} {A' : Option Addr} {n' c' : Nat} {B' : Option Addr} {m' d' : Nat} {r' : RatD} (h : RdR w s A n c B m d r) (k : RdR w s' A' n' c' B' m' d' r') :
    Calls Tryz.prog 22 #[.agg #[.bool s, .slice A n c, .slice B m d], .agg #[.bool s', .slice A' n' c', .slice B' m' d']] w fun e w' => ∃ s1 A1 n1 c1 B1 m1 d1, e = .returned (.agg #[.bool s1, .slice A1 n1 c1, .slice B1 m1 d1]) ∧ OwR 3 w.heap.size w' s1 A1 n1 c1 B1 m1 d1 (addR r r') ∧ Bl w w' := by
  by_cases ho : OkR r ∧ OkR r'
  · have hall := Lib.hid (allOk_two.2 ho)
    have hI := IsR.out h ho.1
    have hI' := IsR.out k ho.2
    have hL := OkR.lens h ho.1
    have hL' := OkR.lens k ho.2
    have hval := Lib.hid (show addR r r' = ofFrac (rn r * rd r' + rn r' * rd r) (rd r * rd r') by unfold addR; rw [if_pos ho])
    clear ho
    go_enter Tryz.func22, Tryz.ntmps22
    go_wp2_with fail
    refine calls_gen (fun W => Bl w W ∧ Blk W (w.heap.size) 29 #[.bool s, .slice A n c, .slice B m d] ∧ Blk W (w.heap.size + 1) 29 #[.bool s', .slice A' n' c', .slice B' m' d'] ∧ Wk 3 29 (w.heap.size + 1 + 1) W ∧ Blk W (w.heap.size + 1 + 1 + 1) 29 #[.bool s, .slice A n c, .slice B m d, .bool s', .slice A' n' c', .slice B' m' d']) ⟨slc, bts, bts, bts, Blk.new3 _ _ _ _ _ _⟩ ?_
    rintro W ⟨hbW, hx, hx', hr, hy⟩
    refine (areRats_yes _ (RdRS.two hy (h.bl hbW) (k.bl hbW)) hall.out).mono ?_
    rintro e w1 ⟨rfl, hb1⟩
    clear hy
    have hx := hx.bl hb1
    have hx' := hx'.bl hb1
    have hr := hr.bl hb1
    have hbW := hbW.next hb1
    clear hb1
    obtain ⟨i0, i1, i2⟩ := bx3 hx
    obtain ⟨j0, j1, j2⟩ := bx3 hx'
    go_wp2_with fail
    refine (plus_any _ (RdR.bl hI hbW) (RdR.bl hI' hbW) (by omega) (by omega) (by omega) (by omega) hL.2.2 hL'.2.2).mono ?_
    rintro e w2 ⟨s1, A1, n1, c1, B1, m1, d1, rfl, hR, hb2⟩
    have hR := hR.mono (show w.heap.size + 1 + 1 + 1 ≤ w1.heap.size from hr.lt)
    rw [← hval.out] at hR
    have hx := hx.bl hb2
    have hx' := hx'.bl hb2
    have hr := hr.bl hb2
    have hbW := hbW.next hb2
    clear hb2
    obtain ⟨i0, i1, i2⟩ := bx3 hx
    obtain ⟨j0, j1, j2⟩ := bx3 hx'
    obtain ⟨v0, x0⟩ := hr.val_ (i := 0) (by omega)
    obtain ⟨v1, x1⟩ := hr.val_ (i := 1) (by omega)
    obtain ⟨v2, x2⟩ := hr.val_ (i := 2) (by omega)
    have hg := hr.lt
    obtain ⟨cs4, hB4, hc4⟩ := hr
    have hf0 := hB4.frozen 0
    have hf1 := hB4.frozen 1
    have hf2 := hB4.frozen 2
    go_wp2_with fail
    exact bodyPost_ret (v := .agg #[.bool s1, .slice A1 n1 c1, .slice B1 m1 d1]) (by simp [results, Tryz.results22, go_sem, x0, x1, x2]) rfl ⟨_, _, _, _, _, _, _, rfl, (((hR.far (by simp) _).far (by simp) _).far (by simp) _).mono (by omega), slc⟩
  · have hall := Lib.hid (fun hk => ho (allOk_two.1 hk) : ¬ AllOk [r, r'])
    have hval := Lib.hid (show addR r r' = zR by unfold addR; rw [if_neg ho])
    have ho := Lib.hid ho; rename_i h_; clear h_
    go_enter Tryz.func22, Tryz.ntmps22
    go_wp2_with fail
    refine calls_gen (fun W => Bl w W ∧ Blk W (w.heap.size) 29 #[.bool s, .slice A n c, .slice B m d] ∧ Blk W (w.heap.size + 1) 29 #[.bool s', .slice A' n' c', .slice B' m' d'] ∧ Wk 3 29 (w.heap.size + 1 + 1) W ∧ Blk W (w.heap.size + 1 + 1 + 1) 29 #[.bool s, .slice A n c, .slice B m d, .bool s', .slice A' n' c', .slice B' m' d']) ⟨slc, bts, bts, bts, Blk.new3 _ _ _ _ _ _⟩ ?_
    rintro W ⟨hbW, hx, hx', hr, hy⟩
    refine (areRats_no _ (RdRS.two hy (h.bl hbW) (k.bl hbW)) hall.out).mono ?_
    rintro e w1 ⟨rfl, hb1⟩
    clear hy
    have hx := hx.bl hb1
    have hx' := hx'.bl hb1
    have hr := hr.bl hb1
    have hbW := hbW.next hb1
    clear hb1
    obtain ⟨i0, i1, i2⟩ := bx3 hx
    obtain ⟨j0, j1, j2⟩ := bx3 hx'
    obtain ⟨v0, x0⟩ := hr.val_ (i := 0) (by omega)
    obtain ⟨v1, x1⟩ := hr.val_ (i := 1) (by omega)
    obtain ⟨v2, x2⟩ := hr.val_ (i := 2) (by omega)
    have hg := hr.lt
    obtain ⟨cs4, hB4, hc4⟩ := hr
    have hf0 := hB4.frozen 0
    have hf1 := hB4.frozen 1
    have hf2 := hB4.frozen 2
    go_wp2_with fail
    exact bodyPost_ret (v := .agg #[.bool false, .slice none 0 0, .slice none 0 0]) (by simp [results, Tryz.results22, go_sem, x0, x1, x2]) rfl ⟨_, _, _, _, _, _, _, rfl, by rw [hval.out]; exact OwR.zero _ _ _, slc⟩
end

section
open Go.RowKit

section
variable (w : World) {s : Bool} {A : Option Addr} {n c : Nat} {B : Option Addr} {m d : Nat} {r : RatD}
end

theorem OwI.grown {T : TypeId} {b0 : Nat} {w w' : World} {A : Option Addr} {n c : Nat} {l : List Int} {row : Option Nat} (h : OwI T b0 w A n c l) (hg : w.grownBy w' row) (hr : ∀ k, row = some k → k < b0) : OwI T b0 w' A n c l := by
  obtain ⟨bs, h1, hf⟩ := FtI.of_own h
  have h2 : FtI T w' A n c l bs := h1.keep hg.size (fun b hb => hg.block b (hf.2 b hb).2 (by intro e; have := hr b e.symm; have := (hf.2 b hb).1; omega))
  refine ⟨h2.1, ?_⟩
  rcases h2.2 with ⟨h0, _⟩ | ⟨g, cs, _, e, hh, hn, e2⟩
  · exact .inl h0
  · exact .inr ⟨g, cs, e, (hf.2 g (by rw [e2]; simp)).1, hh, hn⟩
end

section
open Go.RowKit
end

section
open Go.RowKit

theorem lowS_self {x : Int} {s : Bool} {D : Nat} (hD : 0 < D) (hs : s = decide (x < 0)) : lowS s x.natAbs D = ofFrac x D := by
  unfold lowS
  rw [if_neg (by omega)]
  congr 1
  unfold sx
  rw [hs]
  by_cases h : x < 0
  · simp [h]; omega
  · simp [h]; omega
end

section
open Go.RowKit
end

section
open Go.RowKit
end

section
open Go.RowKit
end

section
open Go.RowKit

theorem cell_al {w : World} {o : Obj} {a : Addr} (h : a.block < w.heap.size) : (w.alloc o).cell? a = w.cell? a := Bl.cellOf ((Bl.refl w).alloc o) h
theorem okB_of {w : World} {s : Bool} {A : Option Addr} {n c : Nat} {x : Int} (h : IsB w s A n c x) (hn : n ≤ 60) : okB s (ints (dig x.natAbs)) = true := by
  refine okB_yes ⟨⟨_, rfl, by rw [h.len]; exact hn⟩, fun hs => ?_⟩
  rw [ints_len]
  rw [h.1] at hs
  have : x < 0 := by simpa using hs
  exact dig_len_pos.2 (by omega)
set_option maxRecDepth 100000 in
set_option maxHeartbeats 8000000 in
theorem RatMake_any (w : World) {s : Bool} {A : Option Addr} {n c : Nat} {x : Int} {t : Bool} {B : Option Addr} {m d : Nat} {y : Int} (h : IsB w s A n c x) (k : IsB w t B m d y) (hn : n ≤ 60) (hm : m ≤ 60) (hy : y ≠ 0) :
    Calls Tryz.prog 123 #[.agg #[.bool s, .slice A n c], .agg #[.bool t, .slice B m d]] w fun e w' => ∃ s1 A1 n1 c1 B1 m1 d1, e = .returned (.agg #[.bool s1, .slice A1 n1 c1, .slice B1 m1 d1]) ∧ OwR 3 w.heap.size w' s1 A1 n1 c1 B1 m1 d1 (lowS (s != t) x.natAbs y.natAbs) ∧ Bl w w' := by
  have hB := okB_of h hn
  have hB' := okB_of k hm
  have hy0 : 0 < y.natAbs := by omega
  have hm0 : 0 < m := by rw [← k.len]; exact dig_len_pos.2 hy0
  have hne : ((m : Int) == 0) = false := by simp; omega
  have hlow := Lib.hid (show lowS (s != t) x.natAbs y.natAbs = ofFrac (sx (s != t) x.natAbs) y.natAbs by unfold lowS; rw [if_neg (by omega)])
  clear hy
  go_enter Tryz.func123, Tryz.ntmps123
  go_wp2_with fail
  refine calls_gen (fun W => Bl w W ∧ Blk W (w.heap.size) 27 #[.bool s, .slice A n c] ∧ Blk W (w.heap.size + 1) 27 #[.bool t, .slice B m d] ∧ Wk 3 29 (w.heap.size + 1 + 1) W) ⟨slc, bts, bts, bts⟩ ?_
  rintro W ⟨hbW, hx, hx', hr⟩
  refine (BigIntOk_any _ (RdI.bl h.mg hbW)).mono ?_
  rw [hB]
  rintro e w1 ⟨rfl, hb1⟩
  have hx := hx.bl hb1
  have hx' := hx'.bl hb1
  have hr := hr.bl hb1
  have hbW := hbW.next hb1
  clear hb1
  obtain ⟨i0, i1⟩ := bx2 hx
  obtain ⟨j0, j1⟩ := bx2 hx'
  go_wp2_with fail
  refine (BigIntOk_any _ (RdI.bl k.mg hbW)).mono ?_
  rw [hB']
  rintro e w2 ⟨rfl, hb2⟩
  have hx := hx.bl hb2
  have hx' := hx'.bl hb2
  have hr := hr.bl hb2
  have hbW := hbW.next hb2
  clear hb2
  obtain ⟨i0, i1⟩ := bx2 hx
  obtain ⟨j0, j1⟩ := bx2 hx'
  have hz2 := hr.lt
  go_wp2_with fail
  go_region_held3 (fun w' => (w'.cell? ⟨w.heap.size, 0, none⟩ = some (.bool s) ∧ w'.cell? ⟨w.heap.size, 1, none⟩ = some (.slice A n c)) ∧ (w'.cell? ⟨w.heap.size + 1, 0, none⟩ = some (.bool t) ∧ w'.cell? ⟨w.heap.size + 1, 1, none⟩ = some (.slice B m d)) ∧ (w'.cell? ⟨w.heap.size + 1 + 1, 0, none⟩ = some (cellD w' (w.heap.size + 1 + 1) 0) ∧ w'.cell? ⟨w.heap.size + 1 + 1, 1, none⟩ = some (cellD w' (w.heap.size + 1 + 1) 1) ∧ w'.cell? ⟨w.heap.size + 1 + 1, 2, none⟩ = some (cellD w' (w.heap.size + 1 + 1) 2)) ∧ w'.frozen? ⟨w.heap.size + 1 + 1, 0, none⟩ = false ∧ w'.frozen? ⟨w.heap.size + 1 + 1, 1, none⟩ = false ∧ w'.frozen? ⟨w.heap.size + 1 + 1, 2, none⟩ = false) (first | exact ⟨bx2 (T := 27) bts, bx2 (T := 27) bts, Wk.out3 (T := 29) bts⟩) (first | (go_at_call 158; (with_reducible refine (Clone_any _ (RdI.bl h.mg slc) (by omega)).mono ?_); rintro e w3 ⟨A3, n3, c3, rfl, hO3, hb3⟩; (have hO3 : OwI 3 (w.heap.size + 1 + 1 + 1) w3 A3 n3 c3 _ := hO3.mono hz2)) | (go_at_call 171; refine (signed_any _ _ hO3.rd).mono ?_; rintro e w4 ⟨s4, rfl, hs4, hb4⟩) | (go_at_call 158; (with_reducible refine (Clone_any _ (RdI.bl k.mg slc) (by omega)).mono ?_); rintro e w5 ⟨A5, n5, c5, rfl, hO5, hb5⟩; (have hz4 : w.heap.size + 1 + 1 + 1 ≤ w4.heap.size := Wk.lt (k := 3) (T := 29) bts); (have hR5 : OwR 3 (w.heap.size + 1 + 1 + 1) w5 s4 A3 n3 c3 A5 n5 c5 (raw (sx (s != t) x.natAbs) y.natAbs) := OwR.two' (by show OwI _ _ _ _ _ _ (ints (dig (sx (s != t) x.natAbs).natAbs)); rw [sx_abs]; exact hO3.bl hb4) hO5 hb5 hz4 (by rw [hs4.out]; exact (sx_neg _ _).symm)); (have hz5 : w.heap.size + 1 + 1 + 1 ≤ w5.heap.size := Wk.lt (k := 3) (T := 29) bts); (have hl3 : n3 ≤ 60 := by rw [← hO3.rd.lenN, h.len]; exact hn); (have hl5 : n5 ≤ 60 := by rw [← hO5.rd.lenN, k.len]; exact hm)) | (go_at_call 120; refine (reduced_any _ hR5 hz5 (by omega) (by omega) hy0).mono ?_; rintro e w6 ⟨s1, A1, n1, c1, B1, m1, d1, rfl, hR, hb6⟩))
  have hr := (show Wk 3 29 (w.heap.size + 1 + 1) w6 from bts)
  have hbW : Bl w w6 := slc
  rw [← hlow.out] at hR
  obtain ⟨v0, x0⟩ := hr.val_ (i := 0) (by omega)
  obtain ⟨v1, x1⟩ := hr.val_ (i := 1) (by omega)
  obtain ⟨v2, x2⟩ := hr.val_ (i := 2) (by omega)
  have hg := hr.lt
  obtain ⟨cs4, hB4, hc4⟩ := hr
  have hf0 := hB4.frozen 0
  have hf1 := hB4.frozen 1
  have hf2 := hB4.frozen 2
  go_wp2_with fail
  exact bodyPost_ret (v := .agg #[.bool s1, .slice A1 n1 c1, .slice B1 m1 d1]) (by simp [results, Tryz.results123, go_sem, x0, x1, x2]) rfl ⟨_, _, _, _, _, _, _, rfl, (((hR.far (by simp) _).far (by simp) _).far (by simp) _).mono (by omega), slc⟩

theorem int_len {x : Int} (h1 : -9223372036854775808 ≤ x) (h2 : x ≤ 9223372036854775807) : (dig x.natAbs).length ≤ 3 := dig_len_le.2 (by rw [Bs_eq]; omega)
set_option maxRecDepth 100000 in
set_option maxHeartbeats 4000000 in
theorem RatOf_any (w : World) (x y : Int) (h1 : -9223372036854775808 ≤ x) (h2 : x ≤ 9223372036854775807) (g1 : 0 < y) (g2 : y ≤ 9223372036854775807) :
    Calls Tryz.prog 50 #[.int .i64 x, .int .i64 y] w fun e w' => ∃ s1 A1 n1 c1 B1 m1 d1, e = .returned (.agg #[.bool s1, .slice A1 n1 c1, .slice B1 m1 d1]) ∧ OwR 3 w.heap.size w' s1 A1 n1 c1 B1 m1 d1 (ofFrac x y.natAbs) ∧ Bl w w' := by
  have hv := Lib.hid (show lowS (decide (x < 0) != decide (y < 0)) x.natAbs y.natAbs = ofFrac x y.natAbs by
    rw [decide_eq_false (show ¬ y < 0 by omega), Bool.bne_false]
    exact lowS_self (by omega) rfl)
  have hlx := int_len h1 h2
  have hly := int_len (x := y) (by omega) g2
  go_enter Tryz.func50, Tryz.ntmps50
  go_wp2_with fail
  refine calls_gen (fun W => Bl w W ∧ Wk 3 29 (w.heap.size) W) ⟨slc, bts⟩ ?_
  rintro W ⟨hbW, hr⟩
  refine (BigIntOf_any _ x h1 h2).mono ?_
  rintro e w1 ⟨s1, A1, n1, c1, rfl, hO1, hb1⟩
  have hl1 : n1 ≤ 3 := by rw [← hO1.len]; exact hlx
  go_wp2_with fail
  refine (BigIntOf_any _ y (by omega) g2).mono ?_
  rintro e w2 ⟨s2, A2, n2, c2, rfl, hO2, hb2⟩
  have hl2 : n2 ≤ 3 := by rw [← hO2.len]; exact hly
  have hB1 := hO1.rd.bl hb2
  have q1 := Lib.hid hB1.1
  have q2 := Lib.hid hO2.1
  go_wp2_with fail
  refine (RatMake_any _ hB1 hO2.rd (by omega) (by omega) (by omega)).mono ?_
  rintro e w3 ⟨s3, A3, n3, c3, B3, m3, d3, rfl, hR, hb3⟩
  rw [q1.out, q2.out, hv.out] at hR
  have hr2 := (hr.bl hb1).bl hb2
  have hR := hR.mono (show w.heap.size + 1 ≤ w2.heap.size from hr2.lt)
  have hr := hr2.bl hb3
  have hbW := ((hbW.next hb1).next hb2).next hb3
  obtain ⟨v0, x0⟩ := hr.val_ (i := 0) (by omega)
  obtain ⟨v1, x1⟩ := hr.val_ (i := 1) (by omega)
  obtain ⟨v2, x2⟩ := hr.val_ (i := 2) (by omega)
  have hg := hr.lt
  obtain ⟨cs4, hB4, hc4⟩ := hr
  have hf0 := hB4.frozen 0
  have hf1 := hB4.frozen 1
  have hf2 := hB4.frozen 2
  go_wp2_with fail
  exact bodyPost_ret (v := .agg #[.bool s3, .slice A3 n3 c3, .slice B3 m3 d3]) (by simp [results, Tryz.results50, go_sem, x0, x1, x2]) rfl ⟨_, _, _, _, _, _, _, rfl, (((hR.far (by simp) _).far (by simp) _).far (by simp) _).mono (by omega), slc⟩

set_option maxRecDepth 100000 in
set_option maxHeartbeats 4000000 in
theorem sBigIntOf_any (w : World) (x : Int) (h1 : -9223372036854775808 < x) (h2 : x ≤ 9223372036854775807) :
    Calls Tryz.prog 195 #[.int .i64 x] w fun e w' => ∃ s' A' n' c', e = .returned (.agg #[.bool s', .slice A' n' c']) ∧ OwB 3 w.heap.size w' s' A' n' c' x ∧ Bl w w' := by
  have hlx := int_len (x := x) (by omega) h2
  have hne : (x == -9223372036854775808) = false := by simp; omega
  rcases Int.lt_or_le x 0 with hx | hx
  · skip
    have hu : Hid (-x = ((x.natAbs : Nat) : Int)) := by unfold Hid; omega
    go_enter Tryz.func195, Tryz.ntmps195
    go_wp2_with fail
    refine calls_gen (fun W => Bl w W ∧ Wk 2 27 (w.heap.size) W) ⟨slc, bts⟩ ?_
    rintro W ⟨hbW, hr⟩
    rw [hu.out]
    refine (sNatOf_any _ x.natAbs (by omega)).mono ?_
    rintro e w3 ⟨A1, k1, c1, rfl, hO, hb3⟩
    have hl : k1 ≤ 60 := by rw [← hO.rd.lenN]; omega
    go_wp2_with fail
    refine (l03Make_any _ true hO.rd hl).mono ?_
    rintro e w4 ⟨s4, A4, n4, c4, rfl, hs4, hO4, hb4⟩
    have hr3 := hr.bl hb3
    have hO5 : OwB 3 (w.heap.size + 1) w4 s4 A4 n4 c4 x := ⟨by rw [hs4.out]; exact signed_neg rfl (fun _ => (decide_eq_true hx).symm), hO4.mono (show w.heap.size + 1 ≤ w3.heap.size from hr3.lt)⟩
    have hr := hr3.bl hb4
    have hbW := (hbW.next hb3).next hb4
    obtain ⟨⟨x0, x1⟩, hf0, hf1⟩ := hr.out2
    have hg := hr.lt
    go_wp2_with fail
    exact bodyPost_ret (v := .agg #[.bool s4, .slice A4 n4 c4]) (by simp [results, Tryz.results195, go_sem, x0, x1]) rfl ⟨_, _, _, _, rfl, ((hO5.far (by simp) _).far (by simp) _).mono (by omega), slc⟩
  · skip
    have hu : Hid (x = ((x.natAbs : Nat) : Int)) := by unfold Hid; omega
    go_enter Tryz.func195, Tryz.ntmps195
    go_wp2_with fail
    refine calls_gen (fun W => Bl w W ∧ Wk 2 27 (w.heap.size) W) ⟨slc, bts⟩ ?_
    rintro W ⟨hbW, hr⟩
    rw [hu.out]
    refine (sNatOf_any _ x.natAbs (by omega)).mono ?_
    rintro e w3 ⟨A1, k1, c1, rfl, hO, hb3⟩
    have hl : k1 ≤ 60 := by rw [← hO.rd.lenN]; omega
    go_wp2_with fail
    refine (l03Make_any _ false hO.rd hl).mono ?_
    rintro e w4 ⟨s4, A4, n4, c4, rfl, hs4, hO4, hb4⟩
    have hr3 := hr.bl hb3
    have hO5 : OwB 3 (w.heap.size + 1) w4 s4 A4 n4 c4 x := ⟨by rw [hs4.out]; exact signed_neg rfl (fun _ => (decide_eq_false (by omega)).symm), hO4.mono (show w.heap.size + 1 ≤ w3.heap.size from hr3.lt)⟩
    have hr := hr3.bl hb4
    have hbW := (hbW.next hb3).next hb4
    obtain ⟨⟨x0, x1⟩, hf0, hf1⟩ := hr.out2
    have hg := hr.lt
    go_wp2_with fail
    exact bodyPost_ret (v := .agg #[.bool s4, .slice A4 n4 c4]) (by simp [results, Tryz.results195, go_sem, x0, x1]) rfl ⟨_, _, _, _, rfl, ((hO5.far (by simp) _).far (by simp) _).mono (by omega), slc⟩

theorem ofFrac_int {x : Int} (h1 : -9223372036854775808 ≤ x) (h2 : x ≤ 9223372036854775807) : ofFrac x 1 = raw x 1 := by
  have hb : (dig 1).length ≤ 24 := dig_len_le.2 (by decide)
  have ha : (dig x.natAbs).length ≤ 24 := Nat.le_trans (int_len h1 h2) (by omega)
  rw [ofFrac_one (Nat.gcd_one_right _), if_pos ⟨ha, hb⟩]
end

section
open Go.RowKit

set_option maxRecDepth 100000 in
set_option maxHeartbeats 4000000 in
theorem sRatFromInt_any (w : World) (x : Int) (h1 : -9223372036854775808 < x) (h2 : x ≤ 9223372036854775807) :
    Calls Tryz.prog 192 #[.int .i64 x] w fun e w' => ∃ s1 A1 n1 c1 B1 m1 d1, e = .returned (.agg #[.bool s1, .slice A1 n1 c1, .slice B1 m1 d1]) ∧ OwR 3 w.heap.size w' s1 A1 n1 c1 B1 m1 d1 (ofFrac x 1) ∧ Bl w w' := by
  have hd : dig 1 = [1] := by rw [dig_pos (by omega), show 1 / Bs = 0 from by rw [Bs_eq], dig_zero]; rfl
  have hd := Lib.hid hd; rename_i h_; clear h_
  have hv := Lib.hid (ofFrac_int (x := x) (by omega) h2)
  go_enter Tryz.func192, Tryz.ntmps192
  go_wp2_with fail
  refine calls_gen (fun W => Bl w W ∧ Wk 3 29 (w.heap.size) W) ⟨slc, bts⟩ ?_
  rintro W ⟨hbW, hr⟩
  refine (sBigIntOf_any _ x h1 h2).mono ?_
  rintro e w3 ⟨s3, A3, n3, c3, rfl, hO3, hb3⟩
  have hr3 := hr.bl hb3
  have hbW := hbW.next hb3
  obtain ⟨⟨x0, x1, x2⟩, hf0, hf1, hf2⟩ := hr3.out3
  have hg := hr3.lt
  have hO3 := hO3.mono (show w.heap.size + 1 ≤ W.heap.size from hr.lt)
  have key : ∀ V : World, V.heap.size = w3.heap.size → OwB 3 (w.heap.size + 1) V s3 A3 n3 c3 x → OwR 3 (w.heap.size + 1) (V.alloc (.cells #[.int .i64 1] 3)) s3 A3 n3 c3 (some ⟨w3.heap.size, 0, none⟩) 1 1 (ofFrac x 1) := by
    intro V hV hO
    have hB : Ow 3 (V.alloc (.cells #[.int .i64 1] 3)) V.heap.size [1] := heap_alloc_new _ _
    have hB : OwI 3 V.heap.size (V.alloc (.cells #[.int .i64 1] 3)) (some ⟨V.heap.size, 0, none⟩) 1 1 (ints (dig 1)) := by
      rw [hd.out]
      exact hB.own (c := 1) (by decide) (Nat.le_refl _) (by decide)
    rw [hv.out, ← hV]
    exact OwR.two' hO.2 hB ((Bl.refl V).alloc _) (by rw [hV]; exact hg) hO.1
  go_wp2_with fail
  exact bodyPost_ret (v := .agg #[.bool s3, .slice A3 n3 c3, .slice (some ⟨w3.heap.size, 0, none⟩) 1 1]) (by simp [results, Tryz.results192, go_sem, x0, x1, x2, cell_al, hg]) rfl ⟨_, _, _, _, _, _, _, rfl, (key _ (by simp) (((hO3.far (by simp) _).far (by simp) _).far (by simp) _)).mono (by omega), slc⟩
end

section
open Go.RowKit

set_option maxRecDepth 100000 in
set_option maxHeartbeats 4000000 in
theorem sPointAt_any (w : World) (x y : Int) (hx1 : -1000000 < x) (hx2 : x ≤ 1000000) (hy1 : -1000000 < y) (hy2 : y ≤ 1000000) :
    Calls Tryz.prog 142 #[.int .i64 x, .int .i64 y] w fun en w' => ∃ s1 A1 n1 c1 B1 m1 d1 t1 C1 i1 e1 D1 j1 f1, en = .returned (.agg #[.bool s1, .slice A1 n1 c1, .slice B1 m1 d1, .bool t1, .slice C1 i1 e1, .slice D1 j1 f1]) ∧ OwP 3 w.heap.size w' s1 A1 n1 c1 B1 m1 d1 t1 C1 i1 e1 D1 j1 f1 ⟨ofFrac x 1, ofFrac y 1⟩ ∧ Bl w w' := by
  go_enter Tryz.func142, Tryz.ntmps142
  go_wp2_with fail
  refine calls_gen (fun W => Bl w W ∧ Wk 6 31 w.heap.size W) ⟨slc, bts⟩ ?_
  rintro W ⟨hbW, hr⟩
  refine (sRatFromInt_any _ x (by omega) (by omega)).mono ?_
  rintro e w2 ⟨s1, A1, n1, c1, B1, m1, d1, rfl, hR1, hb2⟩
  go_wp2_with fail
  refine (sRatFromInt_any _ y (by omega) (by omega)).mono ?_
  rintro e w3 ⟨t1, C1, i1, e1, D1, j1, f1, rfl, hR2, hb3⟩
  have hz : w.heap.size + 1 ≤ W.heap.size := hr.lt
  have hz2 : W.heap.size ≤ w2.heap.size := Bl.size hb2
  have hr := (hr.bl hb2).bl hb3
  have hbW : Bl w w3 := slc
  have hX : OwP 3 W.heap.size w3 s1 A1 n1 c1 B1 m1 d1 t1 C1 i1 e1 D1 j1 f1 ⟨ofFrac x 1, ofFrac y 1⟩ := OwP.two hR1 hR2 hb3 hz2
  have hX := OwP.low hX hz
  obtain ⟨v0, x0⟩ := hr.val_ (i := 0) (by omega)
  obtain ⟨v1, x1⟩ := hr.val_ (i := 1) (by omega)
  obtain ⟨v2, x2⟩ := hr.val_ (i := 2) (by omega)
  obtain ⟨v3, x3⟩ := hr.val_ (i := 3) (by omega)
  obtain ⟨v4, x4⟩ := hr.val_ (i := 4) (by omega)
  obtain ⟨v5, x5⟩ := hr.val_ (i := 5) (by omega)
  have hg := hr.lt
  obtain ⟨cs4, hB4, hc4⟩ := hr
  have hf0 := hB4.frozen 0
  have hf1 := hB4.frozen 1
  have hf2 := hB4.frozen 2
  have hf3 := hB4.frozen 3
  have hf4 := hB4.frozen 4
  have hf5 := hB4.frozen 5
  go_wp2_with fail
  exact bodyPost_ret (v := .agg #[.bool s1, .slice A1 n1 c1, .slice B1 m1 d1, .bool t1, .slice C1 i1 e1, .slice D1 j1 f1]) (by simp [results, Tryz.results142, go_sem, x0, x1, x2, x3, x4, x5]) rfl ⟨_, _, _, _, _, _, _, _, _, _, _, _, _, _, rfl, ((((((hX.far (by simp) _).far (by simp) _).far (by simp) _).far (by simp) _).far (by simp) _).far (by simp) _).low (by omega), slc⟩
end

section
open Go.RowKit
end

end Go.Proofs.YtajlahjghapbkaaGreat
