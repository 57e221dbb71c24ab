/- Lemmas. -/
import Derived.Test.YtajlahjghapbkaaGreatRows
import Derived.Test.YtajlahjghapbkaaGreatPAnglesM09
import Derived.Test.YtajlahjghapbkaaGreatPAnglesM11
import Derived.Deep.Cut
namespace Go.Proofs.YtajlahjghapbkaaGreat
section
open Go.RowKit

/-- What holds when the limbs from place k on have been divided. -/
structure DvRel (N V n k R : Nat) (o : List Nat) : Prop where
  len : o.length = n
  digs : Digs o
  zero : ∀ j, j < k → dx o j = 0
  quo : val o = N / Bs ^ k / V * Bs ^ k
  rest : R = N / Bs ^ k % V
theorem DvRel.start {N V n : Nat} (h : (dig N).length = n) : DvRel N V n n 0 (List.replicate n 0) := by
  have h1 : N / Bs ^ n = 0 := Nat.div_eq_of_lt (dig_len_le.1 (Nat.le_of_eq h))
  exact ⟨by simp, digs_replicate _, fun j _ => dx_replicate _ _, by rw [val_replicate, h1]; simp, by rw [h1]; simp⟩
theorem DvRel.digit {N V n k R : Nat} {o : List Nat} (h : DvRel N V n (k + 1) R o) (hV : 0 < V) : dx (dig N) k + Bs * R < Bs * V ∧ (dx (dig N) k + Bs * R) / V < Bs := by
  have h1 := dx_lt (digs_dig N) k
  have h2 : R < V := by rw [h.rest]; exact Nat.mod_lt _ hV
  have h3 : dx (dig N) k + Bs * R < Bs * V := by
    have : Bs * (R + 1) ≤ Bs * V := Nat.mul_le_mul_left _ h2
    rw [Nat.mul_add] at this
    omega
  exact ⟨h3, (Nat.div_lt_iff_lt_mul hV).2 h3⟩
theorem DvRel.step {N V n k R : Nat} {o : List Nat} (h : DvRel N V n (k + 1) R o) (hk : k < n) (hV : 0 < V) : DvRel N V n k ((dx (dig N) k + Bs * R) % V) (o.set k ((dx (dig N) k + Bs * R) / V)) := by
  have hi : k < o.length := by rw [h.len]; exact hk
  have hd := (h.digit hV).2
  have hT : N / Bs ^ k = dx (dig N) k + Bs * (N / Bs ^ (k + 1)) := by
    rw [dx_dig, Nat.pow_succ, ← Nat.div_div_eq_div_mul]
    exact (Nat.mod_add_div _ _).symm
  have hS := Nat.mod_add_div (N / Bs ^ (k + 1)) V
  rw [← h.rest] at hS
  have hT2 : N / Bs ^ k = (dx (dig N) k + Bs * R) + V * (Bs * (N / Bs ^ (k + 1) / V)) := by
    rw [hT]
    conv => lhs; rw [← hS]
    grind
  refine ⟨by rw [List.length_set]; exact h.len, digs_set h.digs hd _, fun j hj => ?_, ?_, ?_⟩
  · rw [dx_set hi, if_neg (by omega)]
    exact h.zero j (by omega)
  · have h0 := val_set hi ((dx (dig N) k + Bs * R) / V)
    rw [h.zero k (by omega), Nat.zero_mul, Nat.add_zero, h.quo] at h0
    rw [h0, hT2, Nat.add_mul_div_left _ _ hV, Nat.pow_succ]
    grind
  · rw [hT2, Nat.add_mul_mod_self_left]
theorem DvRel.skip {N V n k R : Nat} {o : List Nat} (h : DvRel N V n (k + 1) R o) (hk : k < n) (hV : 0 < V) (hlt : dx (dig N) k + Bs * R < V) : DvRel N V n k (dx (dig N) k + Bs * R) o := by
  have := h.step hk hV
  rw [Nat.div_eq_of_lt hlt, Nat.mod_eq_of_lt hlt] at this
  have e : o.set k 0 = o := by
    apply List.ext_getElem (by simp)
    intro i h1 h2
    rw [List.getElem_set]
    split
    · rename_i he
      subst he
      have := h.zero k (by omega)
      unfold dx at this
      rw [List.getD_eq_getElem?_getD, List.getElem?_eq_getElem h2] at this
      exact this.symm
    · rfl
  rwa [e] at this
theorem DvRel.stop {N V n R : Nat} {o : List Nat} (h : DvRel N V n 0 R o) : val o = N / V ∧ R = N % V := by
  have h1 := h.quo
  have h2 := h.rest
  simp only [Nat.pow_zero, Nat.div_one, Nat.mul_one] at h1 h2
  exact ⟨h1, h2⟩
end

section
open Go.RowKit

set_option maxHeartbeats 4000000 in
theorem l03Make_any (w : World) (s : Bool) {A : Option Addr} {n c N : Nat} (h : IsN w A n c N) (h60 : n ≤ 60) :
    Calls Tryz.prog 231 #[.bool s, .slice A n c] w fun e w' => ∃ s' A' n' c', e = .returned (.agg #[.bool s', .slice A' n' c']) ∧ Hid (s' = (s && decide (0 < N))) ∧ OwI 3 w.heap.size w' A' n' c' (ints (dig N)) ∧ Bl w w' := by
  have hl := h.lenN
  have hl1 : Hid ((([] : List Int) ++ ints (dig N)).length = n) := by have := RdI.len h; unfold Hid; simpa using this
  have hp := dig_len_pos (n := N)
  rw [hl] at hp
  clear hl
  rcases s with _ | _
  · have hs := Lib.hid (show false = (false && decide (0 < N)) from rfl)
    clear hp
    go_enter Tryz.func231, Tryz.ntmps231
    go_wp2_with fail
    refine (l02Cap_num _ (RdI.alloc h _) h60).mono ?_
    rintro e w1 ⟨rfl, q, rfl⟩
    have hbW : Bl w ((w.alloc (.cells #[.bool false, .slice none 0 0] 27)).drewN q) := slc
    have hr : Wk 2 27 w.heap.size ((w.alloc (.cells #[.bool false, .slice none 0 0] 27)).drewN q) := bts
    generalize (w.alloc (.cells #[.bool false, .slice none 0 0] 27)).drewN q = W at *
    have hz := hr.lt
    go_wp2_with (at_builtin; go_must (refine wpList_append_x (w0 := W) info_int Tryz.underlying25 rfl (.tmp 14) (.tmp 15) rfl _ [] rfl (OwL.empty W (Nat.le_refl _) (by simp)) ((Bl.refl W).alloc _) A n c rfl (ints (dig N)) (RdI.alloc (RdI.bl h hbW) _) (by simp) (by omega) ?_); intro v1 w2 hown2 hb2; obtain ⟨A1, c1, hv1, ho1⟩ := hown2.own (by rw [hl1.out]; omega); rw [hl1.out] at hv1 ho1; subst hv1; obtain ⟨⟨x0, x1⟩, hf0, hf1⟩ := (hr.bl hb2).out2)
    have hg := (hr.bl hb2).lt
    have ho1 : OwI 3 (w.heap.size + 1) w2 A1 n c1 (ints (dig N)) := ho1.mono hz
    exact bodyPost_ret (v := .agg #[.bool false, .slice A1 n c1]) (by simp [results, Tryz.results231, go_sem, x0, x1]) rfl ⟨_, _, _, _, rfl, hs, ((ho1.far (by simp) _).far (by simp) _).mono (by omega), slc⟩
  · rcases Nat.eq_zero_or_pos n with h0 | h0
    · have hN : N = 0 := by omega
      have hs := Lib.hid (show false = (true && decide (0 < N)) by simp [hN])
      subst h0
      clear hp hN
      go_enter Tryz.func231, Tryz.ntmps231
      go_wp2_with fail
      refine (l02Cap_num _ (RdI.alloc h _) h60).mono ?_
      rintro e w1 ⟨rfl, q, rfl⟩
      have hbW : Bl w ((w.alloc (.cells #[.bool false, .slice none 0 0] 27)).drewN q) := slc
      have hr : Wk 2 27 w.heap.size ((w.alloc (.cells #[.bool false, .slice none 0 0] 27)).drewN q) := bts
      generalize (w.alloc (.cells #[.bool false, .slice none 0 0] 27)).drewN q = W at *
      have hz := hr.lt
      go_wp2_with (at_builtin; go_must (refine wpList_append_x (w0 := W) info_int Tryz.underlying25 rfl (.tmp 14) (.tmp 15) rfl _ [] rfl (OwL.empty W (Nat.le_refl _) (by simp)) ((Bl.refl W).alloc _) A 0 c rfl (ints (dig N)) (RdI.alloc (RdI.bl h hbW) _) (by simp) (by omega) ?_); intro v1 w2 hown2 hb2; obtain ⟨A1, c1, hv1, ho1⟩ := hown2.own (by rw [hl1.out]; omega); rw [hl1.out] at hv1 ho1; subst hv1; obtain ⟨⟨x0, x1⟩, hf0, hf1⟩ := (hr.bl hb2).out2)
      have hg := (hr.bl hb2).lt
      have ho1 : OwI 3 (w.heap.size + 1) w2 A1 0 c1 (ints (dig N)) := ho1.mono hz
      exact bodyPost_ret (v := .agg #[.bool false, .slice A1 0 c1]) (by simp [results, Tryz.results231, go_sem, x0, x1]) rfl ⟨_, _, _, _, rfl, hs, ((ho1.far (by simp) _).far (by simp) _).mono (by omega), slc⟩
    · have hs := Lib.hid (show true = (true && decide (0 < N)) by simp; omega)
      have h0i : 0 < (n : Int) := by omega
      clear hp
      go_enter Tryz.func231, Tryz.ntmps231
      go_wp2_with fail
      refine (l02Cap_num _ (RdI.alloc h _) h60).mono ?_
      rintro e w1 ⟨rfl, q, rfl⟩
      have hbW : Bl w ((w.alloc (.cells #[.bool false, .slice none 0 0] 27)).drewN q) := slc
      have hr : Wk 2 27 w.heap.size ((w.alloc (.cells #[.bool false, .slice none 0 0] 27)).drewN q) := bts
      generalize (w.alloc (.cells #[.bool false, .slice none 0 0] 27)).drewN q = W at *
      have hz := hr.lt
      go_wp2_with (at_builtin; go_must (refine wpList_append_x (w0 := W) info_int Tryz.underlying25 rfl (.tmp 14) (.tmp 15) rfl _ [] rfl (OwL.empty W (Nat.le_refl _) (by simp)) ((Bl.refl W).alloc _) A n c rfl (ints (dig N)) (RdI.alloc (RdI.bl h hbW) _) (by simp) (by omega) ?_); intro v1 w2 hown2 hb2; obtain ⟨A1, c1, hv1, ho1⟩ := hown2.own (by rw [hl1.out]; omega); rw [hl1.out] at hv1 ho1; subst hv1; obtain ⟨⟨x0, x1⟩, hf0, hf1⟩ := (hr.bl hb2).out2)
      have hg := (hr.bl hb2).lt
      have ho1 : OwI 3 (w.heap.size + 1) w2 A1 n c1 (ints (dig N)) := ho1.mono hz
      exact bodyPost_ret (v := .agg #[.bool true, .slice A1 n c1]) (by simp [results, Tryz.results231, go_sem, x0, x1]) rfl ⟨_, _, _, _, rfl, hs, ((ho1.far (by simp) _).far (by simp) _).mono (by omega), slc⟩
end

section
open Go.RowKit

/-- The signed number of a sign and a magnitude. -/
def sx (s : Bool) (N : Nat) : Int := if s = true then -(N : Int) else (N : Int)
theorem sx_abs (s : Bool) (N : Nat) : (sx s N).natAbs = N := by unfold sx; split <;> omega
theorem sx_neg (s : Bool) (N : Nat) : decide (sx s N < 0) = (s && decide (0 < N)) := by
  unfold sx
  rcases s with _ | _
  · simp
  · simp
def lowS (s : Bool) (N D : Nat) : RatD := if D = 0 then zR else ofFrac (sx s N) D
end

section
open Go.RowKit

set_option maxRecDepth 100000 in
set_option maxHeartbeats 4000000 in
theorem negative_any (w : World) {s : Bool} {A : Option Addr} {n c : Nat} {B : Option Addr} {m d : Nat} {x : Int} {D : Nat} (h : IsR w s A n c B m d x D) :
    Calls Tryz.prog 149 #[.agg #[.bool s, .slice A n c, .slice B m d]] w fun e w' => ∃ s1, e = .returned (.agg #[.bool s1, .slice A n c, .slice B m d]) ∧ IsR w' s1 A n c B m d (-x) D ∧ Bl w w' := by
  have hs := Lib.hid h.sgn
  go_enter Tryz.func149, Tryz.ntmps149
  go_wp2_with fail
  refine wp_gen (fun W => Bl w W ∧ Blk W (w.heap.size) 29 #[.bool s, .slice A n c, .slice B m d] ∧ Wk 3 29 (w.heap.size + 1) W) ⟨slc, bts, bts⟩ ?_
  rintro W ⟨hbW, hx, hr⟩
  go_region_held3 (fun w' => (w'.cell? ⟨w.heap.size, 0, none⟩ = some (.bool s) ∧ w'.cell? ⟨w.heap.size, 1, none⟩ = some (.slice A n c) ∧ w'.cell? ⟨w.heap.size, 2, none⟩ = some (.slice B m d)) ∧ (w'.cell? ⟨w.heap.size + 1, 0, none⟩ = some (cellD w' (w.heap.size + 1) 0) ∧ w'.cell? ⟨w.heap.size + 1, 1, none⟩ = some (cellD w' (w.heap.size + 1) 1) ∧ w'.cell? ⟨w.heap.size + 1, 2, none⟩ = some (cellD w' (w.heap.size + 1) 2)) ∧ w'.frozen? ⟨w.heap.size + 1, 0, none⟩ = false ∧ w'.frozen? ⟨w.heap.size + 1, 1, none⟩ = false ∧ w'.frozen? ⟨w.heap.size + 1, 2, none⟩ = false) (first | exact ⟨bx3 (T := 29) bts, Wk.out3 (T := 29) bts⟩) (first | (go_at_call 171; refine (signed_any _ _ (h.num.bl slc)).mono ?_; rintro e w4 ⟨s1, rfl, hs1, hb4⟩))
  have hr := (show Wk 3 29 (w.heap.size + 1) w4 from bts)
  have hbW : Bl w w4 := slc
  obtain ⟨v0, x0⟩ := hr.val_ (i := 0) (by omega)
  obtain ⟨v1, x1⟩ := hr.val_ (i := 1) (by omega)
  obtain ⟨v2, x2⟩ := hr.val_ (i := 2) (by omega)
  have hg := hr.lt
  obtain ⟨cs4, hB4, hc4⟩ := hr
  have hf0 := hB4.frozen 0
  have hf1 := hB4.frozen 1
  have hf2 := hB4.frozen 2
  go_wp2_with fail
  refine bodyPost_ret (v := .agg #[.bool s1, .slice A n c, .slice B m d]) (by simp [results, Tryz.results149, go_sem, x0, x1, x2]) rfl ⟨_, rfl, ⟨?_, ?_, ?_⟩, slc⟩
  · rw [hs1.out]
    refine signed_neg (x := -x) (by omega) fun h0 => ?_
    rw [hs.out]
    by_cases hx0 : x < 0
    · simp [hx0]; omega
    · simp [hx0]; omega
  · show RdI _ A n c (ints (dig (-x).natAbs))
    rw [Int.natAbs_neg]
    exact h.num.bl slc
  · exact h.dn.bl slc
set_option maxHeartbeats 1600000 in
theorem sign_any (w : World) {s : Bool} {A : Option Addr} {n c : Nat} {B : Option Addr} {m d : Nat} {x : Int} {D : Nat} (h : IsR w s A n c B m d x D) :
    Calls Tryz.prog 127 #[.agg #[.bool s, .slice A n c, .slice B m d]] w fun e w' => e = .returned (.int .i64 (cmpZ x 0)) ∧ Bl w w' := by
  have hl := h.num.lenN
  have hs := h.sgn
  rcases Nat.eq_zero_or_pos n with h0 | h0
  · have hx : cmpZ x 0 = 0 := by
      have := dig_nil.1 (List.length_eq_zero_iff.1 (hl.trans h0))
      unfold cmpZ
      rw [if_neg (by omega), if_neg (by omega)]
    rw [hx]
    subst h0
    clear hx hl hs
    go_enter Tryz.func127, Tryz.ntmps127
    go_wp2_with fail
    go_ret
    exact ⟨rfl, slc⟩
  · have hne : ((n : Int) == 0) = false := by simp; omega
    have hpos : 0 < x.natAbs := dig_len_pos.1 (by omega)
    rcases Int.lt_or_le x 0 with hx | hx
    · have hc : cmpZ x 0 = -1 := by unfold cmpZ; rw [if_pos hx]
      rw [hc]
      obtain rfl : s = true := by rw [hs]; simp [hx]
      clear hc hl hs hpos h0
      go_enter Tryz.func127, Tryz.ntmps127
      go_wp2_with fail
      go_ret
      exact ⟨rfl, slc⟩
    · have hc : cmpZ x 0 = 1 := by unfold cmpZ; rw [if_neg (by omega), if_pos (by omega)]
      rw [hc]
      obtain rfl : s = false := by rw [hs]; simp; omega
      clear hc hl hs hpos h0
      go_enter Tryz.func127, Tryz.ntmps127
      go_wp2_with fail
      go_ret
      exact ⟨rfl, slc⟩
theorem RatSign_any (w : World) {s : Bool} {A : Option Addr} {n c : Nat} {B : Option Addr} {m d : Nat} {r : RatD} (h : RdR w s A n c B m d r) :
    Calls Tryz.prog 53 #[.agg #[.bool s, .slice A n c, .slice B m d]] w fun e w' => e = .returned (.int .i64 (sgnR r)) ∧ Bl w w' := by
  by_cases ho : OkR r
  · have hok := okR_of ho
    have hv : sgnR r = cmpZ (rn r) 0 := by unfold sgnR; rw [if_pos ho]
    rw [hv]
    have hI := IsR.out h ho
    clear hv ho
    go_enter Tryz.func53, Tryz.ntmps53
    go_wp2_with fail
    refine (RatOk_any _ (h.alloc _)).mono ?_
    rw [hok]
    rintro e w1 ⟨rfl, hb1⟩
    obtain ⟨i0, i1, i2⟩ := box3 hb1
    have hb1 : Bl w w1 := slc
    go_wp2_with fail
    refine (sign_any _ (RdR.bl hI hb1)).mono ?_
    rintro e w2 ⟨rfl, hb2⟩
    go_wp2_with fail
    go_ret
    exact ⟨rfl, slc⟩
  · have hok := okR_no ho
    have hv : sgnR r = 0 := by unfold sgnR; rw [if_neg ho]
    rw [hv]
    clear hv
    have ho := Lib.hid ho; rename_i h_; clear h_
    go_enter Tryz.func53, Tryz.ntmps53
    go_wp2_with fail
    refine (RatOk_any _ (h.alloc _)).mono ?_
    rw [hok]
    rintro e w1 ⟨rfl, hb1⟩
    go_wp2_with fail
    go_ret
    exact ⟨rfl, slc⟩

theorem OkR.lens {w : World} {s : Bool} {A : Option Addr} {n c : Nat} {B : Option Addr} {m d : Nat} {r : RatD} (h : RdR w s A n c B m d r) (ho : OkR r) : n ≤ 24 ∧ m ≤ 24 ∧ 0 < rd r := by
  have hI := IsR.out h ho
  have g := ho.get
  have l1 := hI.num.lenN
  have l2 := hI.dn.lenN
  omega

set_option maxRecDepth 100000 in
set_option maxHeartbeats 4000000 in
theorem RatAdd_any (w : World) {s : Bool} {A : Option Addr} {n c : Nat} {B : Option Addr} {m d : Nat} {r : RatD} {s' : Bool} {A' : Option Addr} {n' c' : Nat} {B' : Option Addr} {m' d' : Nat} {r' : RatD} (h : RdR w s A n c B m d r) (k : RdR w s' A' n' c' B' m' d' r') :
    Calls Tryz.prog 22 #[.agg #[.bool s, .slice A n c, .slice B m d], .agg #[.bool s', .slice A' n' c', .slice B' m' d']] w fun e w' => ∃ s1 A1 n1 c1 B1 m1 d1, e = .returned (.agg #[.bool s1, .slice A1 n1 c1, .slice B1 m1 d1]) ∧ OwR 3 w.heap.size w' s1 A1 n1 c1 B1 m1 d1 (addR r r') ∧ Bl w w' := by
  by_cases ho : OkR r ∧ OkR r'
  · have hall := Lib.hid (allOk_two.2 ho)
    have hI := IsR.out h ho.1
    have hI' := IsR.out k ho.2
    have hL := OkR.lens h ho.1
    have hL' := OkR.lens k ho.2
    have hval := Lib.hid (show addR r r' = ofFrac (rn r * rd r' + rn r' * rd r) (rd r * rd r') by unfold addR; rw [if_pos ho])
    clear ho
    go_enter Tryz.func22, Tryz.ntmps22
    go_wp2_with fail
    refine calls_gen (fun W => Bl w W ∧ Blk W (w.heap.size) 29 #[.bool s, .slice A n c, .slice B m d] ∧ Blk W (w.heap.size + 1) 29 #[.bool s', .slice A' n' c', .slice B' m' d'] ∧ Wk 3 29 (w.heap.size + 1 + 1) W ∧ Blk W (w.heap.size + 1 + 1 + 1) 29 #[.bool s, .slice A n c, .slice B m d, .bool s', .slice A' n' c', .slice B' m' d']) ⟨slc, bts, bts, bts, Blk.new3 _ _ _ _ _ _⟩ ?_
    rintro W ⟨hbW, hx, hx', hr, hy⟩
    refine (areRats_yes _ (RdRS.two hy (h.bl hbW) (k.bl hbW)) hall.out).mono ?_
    rintro e w1 ⟨rfl, hb1⟩
    clear hy
    have hx := hx.bl hb1
    have hx' := hx'.bl hb1
    have hr := hr.bl hb1
    have hbW := hbW.next hb1
    clear hb1
    obtain ⟨i0, i1, i2⟩ := bx3 hx
    obtain ⟨j0, j1, j2⟩ := bx3 hx'
    go_wp2_with fail
    refine (plus_any _ (RdR.bl hI hbW) (RdR.bl hI' hbW) (by omega) (by omega) (by omega) (by omega) hL.2.2 hL'.2.2).mono ?_
    rintro e w2 ⟨s1, A1, n1, c1, B1, m1, d1, rfl, hR, hb2⟩
    have hR := hR.mono (show w.heap.size + 1 + 1 + 1 ≤ w1.heap.size from hr.lt)
    rw [← hval.out] at hR
    have hx := hx.bl hb2
    have hx' := hx'.bl hb2
    have hr := hr.bl hb2
    have hbW := hbW.next hb2
    clear hb2
    obtain ⟨i0, i1, i2⟩ := bx3 hx
    obtain ⟨j0, j1, j2⟩ := bx3 hx'
    obtain ⟨v0, x0⟩ := hr.val_ (i := 0) (by omega)
    obtain ⟨v1, x1⟩ := hr.val_ (i := 1) (by omega)
    obtain ⟨v2, x2⟩ := hr.val_ (i := 2) (by omega)
    have hg := hr.lt
    obtain ⟨cs4, hB4, hc4⟩ := hr
    have hf0 := hB4.frozen 0
    have hf1 := hB4.frozen 1
    have hf2 := hB4.frozen 2
    go_wp2_with fail
    exact bodyPost_ret (v := .agg #[.bool s1, .slice A1 n1 c1, .slice B1 m1 d1]) (by simp [results, Tryz.results22, go_sem, x0, x1, x2]) rfl ⟨_, _, _, _, _, _, _, rfl, (((hR.far (by simp) _).far (by simp) _).far (by simp) _).mono (by omega), slc⟩
  · have hall := Lib.hid (fun hk => ho (allOk_two.1 hk) : ¬ AllOk [r, r'])
    have hval := Lib.hid (show addR r r' = zR by unfold addR; rw [if_neg ho])
    have ho := Lib.hid ho; rename_i h_; clear h_
    go_enter Tryz.func22, Tryz.ntmps22
    go_wp2_with fail
    refine calls_gen (fun W => Bl w W ∧ Blk W (w.heap.size) 29 #[.bool s, .slice A n c, .slice B m d] ∧ Blk W (w.heap.size + 1) 29 #[.bool s', .slice A' n' c', .slice B' m' d'] ∧ Wk 3 29 (w.heap.size + 1 + 1) W ∧ Blk W (w.heap.size + 1 + 1 + 1) 29 #[.bool s, .slice A n c, .slice B m d, .bool s', .slice A' n' c', .slice B' m' d']) ⟨slc, bts, bts, bts, Blk.new3 _ _ _ _ _ _⟩ ?_
    rintro W ⟨hbW, hx, hx', hr, hy⟩
    refine (areRats_no _ (RdRS.two hy (h.bl hbW) (k.bl hbW)) hall.out).mono ?_
    rintro e w1 ⟨rfl, hb1⟩
    clear hy
    have hx := hx.bl hb1
    have hx' := hx'.bl hb1
    have hr := hr.bl hb1
    have hbW := hbW.next hb1
    clear hb1
    obtain ⟨i0, i1, i2⟩ := bx3 hx
    obtain ⟨j0, j1, j2⟩ := bx3 hx'
    obtain ⟨v0, x0⟩ := hr.val_ (i := 0) (by omega)
    obtain ⟨v1, x1⟩ := hr.val_ (i := 1) (by omega)
    obtain ⟨v2, x2⟩ := hr.val_ (i := 2) (by omega)
    have hg := hr.lt
    obtain ⟨cs4, hB4, hc4⟩ := hr
    have hf0 := hB4.frozen 0
    have hf1 := hB4.frozen 1
    have hf2 := hB4.frozen 2
    go_wp2_with fail
    exact bodyPost_ret (v := .agg #[.bool false, .slice none 0 0, .slice none 0 0]) (by simp [results, Tryz.results22, go_sem, x0, x1, x2]) rfl ⟨_, _, _, _, _, _, _, rfl, by rw [hval.out]; exact OwR.zero _ _ _, slc⟩

set_option maxRecDepth 100000 in
set_option maxHeartbeats 4000000 in
theorem RatSub_any (w : World) {s : Bool} {A : Option Addr} {n c : Nat} {B : Option Addr} {m d : Nat} {r : RatD} {s' : Bool} {A' : Option Addr} {n' c' : Nat} {B' : Option Addr} {m' d' : Nat} {r' : RatD} (h : RdR w s A n c B m d r) (k : RdR w s' A' n' c' B' m' d' r') :
    Calls Tryz.prog 78 #[.agg #[.bool s, .slice A n c, .slice B m d], .agg #[.bool s', .slice A' n' c', .slice B' m' d']] w fun e w' => ∃ s1 A1 n1 c1 B1 m1 d1, e = .returned (.agg #[.bool s1, .slice A1 n1 c1, .slice B1 m1 d1]) ∧ OwR 3 w.heap.size w' s1 A1 n1 c1 B1 m1 d1 (subR r r') ∧ Bl w w' := by
  by_cases ho : OkR r ∧ OkR r'
  · have hall := Lib.hid (allOk_two.2 ho)
    have hI := IsR.out h ho.1
    have hI' := IsR.out k ho.2
    have hL := OkR.lens h ho.1
    have hL' := OkR.lens k ho.2
    have hval := Lib.hid (show subR r r' = ofFrac (rn r * rd r' - rn r' * rd r) (rd r * rd r') by unfold subR; rw [if_pos ho])
    clear ho
    go_enter Tryz.func78, Tryz.ntmps78
    go_wp2_with fail
    refine calls_gen (fun W => Bl w W ∧ Blk W (w.heap.size) 29 #[.bool s, .slice A n c, .slice B m d] ∧ Blk W (w.heap.size + 1) 29 #[.bool s', .slice A' n' c', .slice B' m' d'] ∧ Wk 3 29 (w.heap.size + 1 + 1) W ∧ Blk W (w.heap.size + 1 + 1 + 1) 29 #[.bool s, .slice A n c, .slice B m d, .bool s', .slice A' n' c', .slice B' m' d']) ⟨slc, bts, bts, bts, Blk.new3 _ _ _ _ _ _⟩ ?_
    rintro W ⟨hbW, hx, hx', hr, hy⟩
    refine (areRats_yes _ (RdRS.two hy (h.bl hbW) (k.bl hbW)) hall.out).mono ?_
    rintro e w1 ⟨rfl, hb1⟩
    clear hy
    have hx := hx.bl hb1
    have hx' := hx'.bl hb1
    have hr := hr.bl hb1
    have hbW := hbW.next hb1
    clear hb1
    obtain ⟨i0, i1, i2⟩ := bx3 hx
    obtain ⟨j0, j1, j2⟩ := bx3 hx'
    go_wp2_with fail
    have hz1 := hr.lt
    go_region_held3 (fun w' => (w'.cell? ⟨w.heap.size, 0, none⟩ = some (.bool s) ∧ w'.cell? ⟨w.heap.size, 1, none⟩ = some (.slice A n c) ∧ w'.cell? ⟨w.heap.size, 2, none⟩ = some (.slice B m d)) ∧ (w'.cell? ⟨w.heap.size + 1, 0, none⟩ = some (.bool s') ∧ w'.cell? ⟨w.heap.size + 1, 1, none⟩ = some (.slice A' n' c') ∧ w'.cell? ⟨w.heap.size + 1, 2, none⟩ = some (.slice B' m' d')) ∧ (w'.cell? ⟨w.heap.size + 1 + 1, 0, none⟩ = some (cellD w' (w.heap.size + 1 + 1) 0) ∧ w'.cell? ⟨w.heap.size + 1 + 1, 1, none⟩ = some (cellD w' (w.heap.size + 1 + 1) 1) ∧ w'.cell? ⟨w.heap.size + 1 + 1, 2, none⟩ = some (cellD w' (w.heap.size + 1 + 1) 2)) ∧ w'.frozen? ⟨w.heap.size + 1 + 1, 0, none⟩ = false ∧ w'.frozen? ⟨w.heap.size + 1 + 1, 1, none⟩ = false ∧ w'.frozen? ⟨w.heap.size + 1 + 1, 2, none⟩ = false) (first | exact ⟨bx3 (T := 29) bts, bx3 (T := 29) bts, Wk.out3 (T := 29) bts⟩) (first | (go_at_call 149; refine (negative_any _ (RdR.bl hI' slc)).mono ?_; rintro e w2 ⟨s2, rfl, hN, hb2⟩) | (go_at_call 83; refine (plus_any _ (RdR.bl hI slc) (RdR.bl hN slc) (by omega) (by omega) (by omega) (by omega) hL.2.2 hL'.2.2).mono ?_; rintro e w3 ⟨s1, A1, n1, c1, B1, m1, d1, rfl, hR, hb3⟩))
    have hz2 : w1.heap.size ≤ w2.heap.size := (Bl.size hb2 : w1.drew.heap.size ≤ _)
    have hR := hR.mono (show w.heap.size + 1 + 1 + 1 ≤ w2.heap.size from Nat.le_trans hz1 hz2)
    rw [show rn r * rd r' + -rn r' * rd r = rn r * rd r' - rn r' * rd r by rw [Int.neg_mul]; omega, ← hval.out] at hR
    have hr := (show Wk 3 29 (w.heap.size + 1 + 1) w3 from bts)
    have hbW : Bl w w3 := slc
    obtain ⟨v0, x0⟩ := hr.val_ (i := 0) (by omega)
    obtain ⟨v1, x1⟩ := hr.val_ (i := 1) (by omega)
    obtain ⟨v2, x2⟩ := hr.val_ (i := 2) (by omega)
    have hg := hr.lt
    obtain ⟨cs4, hB4, hc4⟩ := hr
    have hf0 := hB4.frozen 0
    have hf1 := hB4.frozen 1
    have hf2 := hB4.frozen 2
    go_wp2_with fail
    exact bodyPost_ret (v := .agg #[.bool s1, .slice A1 n1 c1, .slice B1 m1 d1]) (by simp [results, Tryz.results78, go_sem, x0, x1, x2]) rfl ⟨_, _, _, _, _, _, _, rfl, (((hR.far (by simp) _).far (by simp) _).far (by simp) _).mono (by omega), slc⟩
  · have hall := Lib.hid (fun hk => ho (allOk_two.1 hk) : ¬ AllOk [r, r'])
    have hval := Lib.hid (show subR r r' = zR by unfold subR; rw [if_neg ho])
    have ho := Lib.hid ho; rename_i h_; clear h_
    go_enter Tryz.func78, Tryz.ntmps78
    go_wp2_with fail
    refine calls_gen (fun W => Bl w W ∧ Blk W (w.heap.size) 29 #[.bool s, .slice A n c, .slice B m d] ∧ Blk W (w.heap.size + 1) 29 #[.bool s', .slice A' n' c', .slice B' m' d'] ∧ Wk 3 29 (w.heap.size + 1 + 1) W ∧ Blk W (w.heap.size + 1 + 1 + 1) 29 #[.bool s, .slice A n c, .slice B m d, .bool s', .slice A' n' c', .slice B' m' d']) ⟨slc, bts, bts, bts, Blk.new3 _ _ _ _ _ _⟩ ?_
    rintro W ⟨hbW, hx, hx', hr, hy⟩
    refine (areRats_no _ (RdRS.two hy (h.bl hbW) (k.bl hbW)) hall.out).mono ?_
    rintro e w1 ⟨rfl, hb1⟩
    clear hy
    have hx := hx.bl hb1
    have hx' := hx'.bl hb1
    have hr := hr.bl hb1
    have hbW := hbW.next hb1
    clear hb1
    obtain ⟨i0, i1, i2⟩ := bx3 hx
    obtain ⟨j0, j1, j2⟩ := bx3 hx'
    obtain ⟨v0, x0⟩ := hr.val_ (i := 0) (by omega)
    obtain ⟨v1, x1⟩ := hr.val_ (i := 1) (by omega)
    obtain ⟨v2, x2⟩ := hr.val_ (i := 2) (by omega)
    have hg := hr.lt
    obtain ⟨cs4, hB4, hc4⟩ := hr
    have hf0 := hB4.frozen 0
    have hf1 := hB4.frozen 1
    have hf2 := hB4.frozen 2
    go_wp2_with fail
    exact bodyPost_ret (v := .agg #[.bool false, .slice none 0 0, .slice none 0 0]) (by simp [results, Tryz.results78, go_sem, x0, x1, x2]) rfl ⟨_, _, _, _, _, _, _, rfl, by rw [hval.out]; exact OwR.zero _ _ _, slc⟩
end

section
open Go.RowKit

section
variable (w : World) {s : Bool} {A : Option Addr} {n c : Nat} {B : Option Addr} {m d : Nat} {r : RatD}
end

theorem OwI.grown {T : TypeId} {b0 : Nat} {w w' : World} {A : Option Addr} {n c : Nat} {l : List Int} {row : Option Nat} (h : OwI T b0 w A n c l) (hg : w.grownBy w' row) (hr : ∀ k, row = some k → k < b0) : OwI T b0 w' A n c l := by
  obtain ⟨bs, h1, hf⟩ := FtI.of_own h
  have h2 : FtI T w' A n c l bs := h1.keep hg.size (fun b hb => hg.block b (hf.2 b hb).2 (by intro e; have := hr b e.symm; have := (hf.2 b hb).1; omega))
  refine ⟨h2.1, ?_⟩
  rcases h2.2 with ⟨h0, _⟩ | ⟨g, cs, _, e, hh, hn, e2⟩
  · exact .inl h0
  · exact .inr ⟨g, cs, e, (hf.2 g (by rw [e2]; simp)).1, hh, hn⟩
end

section
open Go.RowKit
end

section
open Go.RowKit

theorem lowS_self {x : Int} {s : Bool} {D : Nat} (hD : 0 < D) (hs : s = decide (x < 0)) : lowS s x.natAbs D = ofFrac x D := by
  unfold lowS
  rw [if_neg (by omega)]
  congr 1
  unfold sx
  rw [hs]
  by_cases h : x < 0
  · simp [h]; omega
  · simp [h]; omega
end

section
open Go.RowKit
end

section
open Go.RowKit
end

section
open Go.RowKit
end

end Go.Proofs.YtajlahjghapbkaaGreat
