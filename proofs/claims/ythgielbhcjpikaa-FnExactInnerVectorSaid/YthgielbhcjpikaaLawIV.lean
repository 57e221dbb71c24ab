import Derived.Test.YthgielbhcjpikaaRows
import Derived.Test.YthgielbhcjpikaaIv1
import Derived.Test.YthgielbhcjpikaaMr2
import Derived.Test.YthgielbhcjpikaaEqL
namespace Go.Proofs.Ythgielbhcjpikaa
open Go.RowKit

theorem len24_ofFrac (x : Int) (D : Nat) : (ofFrac x D).mag.length ≤ 24 ∧ (ofFrac x D).den.length ≤ 24 := by
  unfold ofFrac
  split
  · rename_i h
    refine ⟨?_, by show (ints _).length ≤ 24; rw [ints_len]; exact h.2⟩
    show (ints (dig (x / ((Nat.gcd x.natAbs D : Nat) : Int)).natAbs)).length ≤ 24
    rw [ints_len]
    have e : (x / ((Nat.gcd x.natAbs D : Nat) : Int)).natAbs = x.natAbs / Nat.gcd x.natAbs D := by
      rw [Int.natAbs_ediv_of_dvd (Int.ofNat_dvd_left.2 (Nat.gcd_dvd_left _ _))]
      rfl
    rw [e]
    exact h.1
  · exact ⟨by decide, by decide⟩
theorem len24_zR : zR.mag.length ≤ 24 ∧ zR.den.length ≤ 24 := ⟨by decide, by decide⟩
theorem len24_addR (r s : RatD) : (addR r s).mag.length ≤ 24 ∧ (addR r s).den.length ≤ 24 := by
  unfold addR
  split
  · exact len24_ofFrac _ _
  · exact len24_zR
theorem len24_accR (l l' : List RatD) : ∀ k, (accR l l' k).mag.length ≤ 24 ∧ (accR l l' k).den.length ≤ 24
  | 0 => len24_ofFrac _ _
  | _ + 1 => len24_addR _ _
theorem len24_innR (l l' : List RatD) : (innR l l').mag.length ≤ 24 ∧ (innR l l').den.length ≤ 24 := by
  unfold innR
  split
  · exact len24_accR _ _ _
  · exact len24_zR
/-- A fraction in the blocks from lo to hi. -/
def OwX (T : TypeId) (lo hi : Nat) (w : World) (s : Bool) (A : Option Addr) (n c : Nat) (B : Option Addr) (m d : Nat) (r : RatD) : Prop :=
  ∃ bs, FtR T w s A n c B m d r bs ∧ Fp lo hi bs
section
variable {T : TypeId} {lo hi b0 : Nat} {w W : World} {s : Bool} {A : Option Addr} {n c : Nat} {B : Option Addr} {m d : Nat} {r : RatD} {bs : List Nat}
theorem OwX.of (h : OwR T b0 w s A n c B m d r) : OwX T b0 w.heap.size w s A n c B m d r := h
theorem OwX.rd (h : OwX T lo hi w s A n c B m d r) : RdR w s A n c B m d r := by
  obtain ⟨bs, h, _⟩ := h
  exact h.rd
theorem OwX.bl (h : OwX T lo hi w s A n c B m d r) (hb : Bl w W) : OwX T lo hi W s A n c B m d r := by
  obtain ⟨bs, h, hf⟩ := h
  exact ⟨bs, h.bl hb, hf⟩
theorem OwX.ob (h : OwX T lo hi w s A n c B m d r) (ho : Ob bs w W) (hd : ∀ b ∈ bs, b < lo ∨ hi ≤ b) : OwX T lo hi W s A n c B m d r := by
  obtain ⟨cs, h, hf⟩ := h
  refine ⟨cs, h.keep ho.size fun b hb => ho.block b (h.lt b hb) fun hm => ?_, hf⟩
  have h1 := hf.2 b hb
  have h2 := hd b hm
  omega
end
/-- A list of fractions in the blocks from lo to hi. -/
def OwRY (TI TR : TypeId) (lo hi : Nat) (w : World) (A : Option Addr) (n c : Nat) (l : List RatD) : Prop :=
  ∃ g cs fs, A = some ⟨g, 0, none⟩ ∧ lo ≤ g ∧ l.length = n ∧ n ≤ c ∧ n ≤ 1048576 ∧ Blk w g TR cs ∧ cs.size = n * 3 ∧ RtsIn TI w cs l n fs ∧ Fp (g + 1) hi fs.flatten ∧ g < hi
section
variable {TI TR : TypeId} {lo lo' hi : Nat} {w W : World} {A : Option Addr} {n c : Nat} {l : List RatD} {bs : List Nat}
theorem OwRX.y (h : OwRX TI TR lo w A n c l) (hl : lo' ≤ lo) : OwRY TI TR lo' w.heap.size w A n c l := by
  obtain ⟨g, cs, fs, rfl, h1, h2, h3, h4, h5, h6, h7, h8⟩ := h
  exact ⟨g, cs, fs, rfl, Nat.le_trans hl h1, h2, h3, h4, h5, h6, h7, h8, h5.lt⟩
theorem OwRY.rd (h : OwRY TI TR lo hi w A n c l) : RdRS w A n c l := by
  obtain ⟨g, cs, fs, rfl, h1, h2, h3, h4, h5, h6, h7, h8, _⟩ := h
  exact h7.rd h5 h2 (by omega) h3
theorem OwRY.keep (h : OwRY TI TR lo hi w A n c l) (hs : w.heap.size ≤ W.heap.size) (hk : ∀ b, lo ≤ b → b < hi → b < w.heap.size → W.heap[b]? = w.heap[b]?) : OwRY TI TR lo hi W A n c l := by
  obtain ⟨g, cs, fs, rfl, h1, h2, h3, h4, h5, h6, h7, h8, h9⟩ := h
  refine ⟨g, cs, fs, rfl, h1, h2, h3, h4, (hk g h1 h9 h5.lt).trans h5, h6, ⟨h7.1, fun i hi => (h7.2 i hi).keep (fun _ _ => rfl) hs fun b hb => ?_⟩, h8, h9⟩
  have hm := h8.2 b (mem_flatten_pix hb)
  exact hk b (by omega) hm.2 ((h7.2 i hi).lt b hb)
theorem OwRY.bl (h : OwRY TI TR lo hi w A n c l) (hb : Bl w W) : OwRY TI TR lo hi W A n c l := h.keep hb.size fun b _ _ hl => Below.block hb b hl
theorem OwRY.ob (h : OwRY TI TR lo hi w A n c l) (ho : Ob bs w W) (hd : ∀ b ∈ bs, b < lo ∨ hi ≤ b) : OwRY TI TR lo hi W A n c l :=
  h.keep ho.size fun b h1 h2 hl => ho.block b hl fun hm => by have := hd b hm; omega
end
theorem markRatS_y {T TP : TypeId} (w : World) {lo hi n c : Nat} {A : Option Addr} {l : List RatD} {k0 : Int} (h : OwRY T TP lo hi w A n c l) (hsz : szL szR l ≤ 1048576) (h0 : 0 ≤ k0) (h1 : k0 ≤ 1073741824) :
    Calls Try.prog 28 #[.slice A n c, .int .i64 k0] w fun e w' => ∃ K, e = .returned (.int .i64 K) ∧ k0 ≤ K ∧ K ≤ k0 + 2097152 ∧ ∃ bs, (∀ b ∈ bs, lo ≤ b ∧ b < hi) ∧ Ob bs w w' := by
  obtain ⟨g, cs, fs, rfl, hb0, hl, hnc, hn, hB, hcs, hP, hF, hgh⟩ := h
  refine (markRatS_any w hB (by omega) hP hl ?_ hF.1 hn hsz h0 h1).mono ?_
  · exact fun hm => by have := hF.2 g hm; omega
  · rintro e w' ⟨rfl, cs', _, _, _, hO⟩
    refine ⟨_, rfl, by omega, ?_, _, ?_, hO⟩
    · have a1 := sumTo_advR l n
      have a2 : sumTo szR l n ≤ szL szR l := by unfold szL; rw [hl]; omega
      omega
    · intro b hb
      rcases List.mem_cons.1 hb with rfl | hb
      · exact ⟨hb0, hgh⟩
      · have := hF.2 b hb; exact ⟨by omega, this.2⟩

set_option maxRecDepth 100000 in
set_option maxHeartbeats 4000000 in
theorem FnExactInnerVector_any (w : World) {A B : Option Addr} {n c m d : Nat} {l l' : List RatD} (ha : RdRS w A n c l) (hb : RdRS w B m d l') :
    Calls Try.prog 6 #[.slice A n c, .slice B m d] w fun e w' => e = .returned (.bool true) ∧ Bl w w' := by
  by_cases s1 : ((szL szR l : Nat) : Int) ≤ 1048576
  · have e1 := lft_yes s1
    have p1 : ¬ 1048576 - ((szL szR l : Nat) : Int) < 0 := by omega
    have hsz : szL szR l ≤ 1048576 := by omega
    by_cases s2 : ((szL szR l' : Nat) : Int) ≤ 1048576 - ((szL szR l : Nat) : Int)
    · have e2 := lft_yes s2
      have p2 : ¬ 1048576 - ((szL szR l : Nat) : Int) - ((szL szR l' : Nat) : Int) < 0 := by omega
      have hsz' : szL szR l' ≤ 1048576 := by omega
      have e1 := Lib.hid e1; rename_i h_; clear h_
      have e2 := Lib.hid e2; rename_i h_; clear h_
      go_enter Try.func6, Try.ntmps6
      go_wp2_with fail
      refine (szRatS_any _ ha (by omega) (by omega)).mono ?_
      rw [e1.out]
      rintro e w1 ⟨rfl, hb1⟩
      have hbb := hb1
      go_wp2_with fail
      refine (szRatS_any _ (RdRS.bl hb hbb) (by omega) (by omega)).mono ?_
      rw [e2.out]
      rintro e w2 ⟨rfl, hb2⟩
      replace hbb := hbb.next hb2
      go_wp2_with fail
      have z2 := hbb.size
      refine (toRatS_own _ (RdRS.bl ha hbb) hsz).mono ?_
      rintro e w3 ⟨A3, rfl, hO3, hb3⟩
      have z3 := hb3.size
      replace hO3 := OwRX.y hO3 (Nat.le_refl _)
      replace hbb := hbb.next hb3
      go_wp2_with fail
      refine (toRatS_own _ (RdRS.bl hb hbb) hsz').mono ?_
      rintro e w4 ⟨A4, rfl, hO4, hb4⟩
      have z4 := hb4.size
      replace hO4 := OwRX.y hO4 (Nat.le_refl _)
      replace hO3 := hO3.bl hb4
      replace hbb := hbb.next hb4
      go_wp2_with fail
      refine (sInnerVector_any _ hO3.rd hO4.rd).mono ?_
      rintro e w5 ⟨s5, A5, n5, c5, B5, m5, d5, rfl, hR5, hb5⟩
      have z5 := hb5.size
      replace hR5 := OwX.of hR5
      replace hO3 := hO3.bl hb5
      replace hO4 := hO4.bl hb5
      replace hbb := hbb.next hb5
      clear hO3
      clear hO4
      go_wp2_with fail
      refine (toRatS_own _ (RdRS.bl ha (hbb.alloc _)) hsz).mono ?_
      rintro e w6 ⟨A6, rfl, hO6, hb6⟩
      have hx5 : Blk w6 w5.heap.size 48 #[.bool s5, .slice A5 n5 c5, .slice B5 m5 d5] := (Blk.new _ _ _).bl hb6
      replace hb6 := ((Bl.refl w5).alloc _).next hb6
      replace hR5 := hR5.bl hb6
      replace hbb := hbb.next hb6
      have z6 : w5.heap.size + 1 ≤ w6.heap.size := hx5.lt
      replace hO6 := OwRX.y (lo' := w5.heap.size + 1) hO6 (by simp)
      go_wp2_with fail
      refine (toRatS_own _ (RdRS.bl hb hbb) hsz').mono ?_
      rintro e w7 ⟨A7, rfl, hO7, hb7⟩
      have z7 := hb7.size
      replace hO7 := OwRX.y hO7 (Nat.le_refl _)
      replace hR5 := hR5.bl hb7
      replace hx5 := hx5.bl hb7
      replace hO6 := hO6.bl hb7
      replace hbb := hbb.next hb7
      go_wp2_with fail
      refine (InnerVector_any _ hO6.rd hO7.rd).mono ?_
      rintro e w8 ⟨s8, A8, n8, c8, B8, m8, d8, rfl, hR8, hb8⟩
      have z8 := hb8.size
      replace hR8 := OwX.of hR8
      replace hR5 := hR5.bl hb8
      replace hx5 := hx5.bl hb8
      replace hO6 := hO6.bl hb8
      replace hO7 := hO7.bl hb8
      replace hbb := hbb.next hb8
      have e5 := hx5.alloc (.cells #[.bool s8, .slice A8 n8 c8, .slice B8 m8 d8] 48)
      obtain ⟨i50, i51, i52⟩ := bx3 e5
      go_wp2_with fail
      refine (eqRat_any _ (hR8.rd.alloc _) (hR5.rd.alloc _)).mono ?_
      rintro e w9 ⟨rfl, hb9⟩
      have hx8 : Blk w9 w8.heap.size 48 #[.bool s8, .slice A8 n8 c8, .slice B8 m8 d8] := (Blk.new _ _ _).bl hb9
      replace hb9 := ((Bl.refl w8).alloc _).next hb9
      replace hR5 := hR5.bl hb9
      replace hx5 := hx5.bl hb9
      replace hO6 := hO6.bl hb9
      replace hO7 := hO7.bl hb9
      replace hR8 := hR8.bl hb9
      replace hbb := hbb.next hb9
      clear e5 i50 i51 i52
      have z9 : w8.heap.size + 1 ≤ w9.heap.size := hx8.lt
      go_wp2_with fail
      refine (toRatS_own _ (RdRS.bl ha hbb) hsz).mono ?_
      rintro e w10 ⟨A10, rfl, hO10, hb10⟩
      have z10 := hb10.size
      replace hO10 := OwRX.y hO10 (Nat.le_refl _)
      replace hR5 := hR5.bl hb10
      replace hx5 := hx5.bl hb10
      replace hO6 := hO6.bl hb10
      replace hO7 := hO7.bl hb10
      replace hR8 := hR8.bl hb10
      replace hx8 := hx8.bl hb10
      replace hbb := hbb.next hb10
      go_wp2_with fail
      refine (eqRatS_any _ hO6.rd hO10.rd).mono ?_
      rintro e w11 ⟨rfl, hb11⟩
      clear hO10
      replace hR5 := hR5.bl hb11
      replace hx5 := hx5.bl hb11
      replace hO6 := hO6.bl hb11
      replace hO7 := hO7.bl hb11
      replace hR8 := hR8.bl hb11
      replace hx8 := hx8.bl hb11
      replace hbb := hbb.next hb11
      go_wp2_with fail
      refine (toRatS_own _ (RdRS.bl hb hbb) hsz').mono ?_
      rintro e w12 ⟨A12, rfl, hO12, hb12⟩
      have z12 := hb12.size
      replace hO12 := OwRX.y hO12 (Nat.le_refl _)
      replace hR5 := hR5.bl hb12
      replace hx5 := hx5.bl hb12
      replace hO6 := hO6.bl hb12
      replace hO7 := hO7.bl hb12
      replace hR8 := hR8.bl hb12
      replace hx8 := hx8.bl hb12
      replace hbb := hbb.next hb12
      go_wp2_with fail
      refine (eqRatS_any _ hO7.rd hO12.rd).mono ?_
      rintro e w13 ⟨rfl, hb13⟩
      clear hO12
      replace hR5 := hR5.bl hb13
      replace hx5 := hx5.bl hb13
      replace hO6 := hO6.bl hb13
      replace hO7 := hO7.bl hb13
      replace hR8 := hR8.bl hb13
      replace hx8 := hx8.bl hb13
      replace hbb := hbb.next hb13
      go_wp2_with fail
      refine (markRatS_y _ hO6 hsz (by omega) (by omega)).mono ?_
      rintro e w14 ⟨K1, rfl, ka, kb, bs1, hs1, hO14⟩
      clear hO6
      replace hR5 := hR5.ob hO14 (fun b hm => by have := hs1 b hm; omega)
      replace hx5 := hx5.ob hO14 (fun hm => by have := hs1 _ hm; omega)
      replace hO7 := hO7.ob hO14 (fun b hm => by have := hs1 b hm; omega)
      replace hR8 := hR8.ob hO14 (fun b hm => by have := hs1 b hm; omega)
      replace hx8 := hx8.ob hO14 (fun hm => by have := hs1 _ hm; omega)
      replace hbb := hbb.ob hO14 (fun b hm => by have := hs1 b hm; omega)
      clear hs1 hO14
      go_wp2_with fail
      refine (markRatS_y _ hO7 hsz' (by omega) (by omega)).mono ?_
      rintro e w15 ⟨K2, rfl, kc, kd, bs2, hs2, hO15⟩
      clear hO7
      replace hR5 := hR5.ob hO15 (fun b hm => by have := hs2 b hm; omega)
      replace hx5 := hx5.ob hO15 (fun hm => by have := hs2 _ hm; omega)
      replace hR8 := hR8.ob hO15 (fun b hm => by have := hs2 b hm; omega)
      replace hx8 := hx8.ob hO15 (fun hm => by have := hs2 _ hm; omega)
      replace hbb := hbb.ob hO15 (fun b hm => by have := hs2 b hm; omega)
      clear hs2 hO15
      have hK : ¬ K2 < 0 := by omega
      obtain ⟨i50, i51, i52⟩ := bx3 hx5
      obtain ⟨i80, i81, i82⟩ := bx3 hx8
      go_wp2_with fail
      refine (eqRat_any _ hR8.rd hR5.rd).mono ?_
      rintro e w16 ⟨rfl, hb16⟩
      clear i50 i51 i52
      clear i80 i81 i82
      replace hR5 := hR5.bl hb16
      replace hx5 := hx5.bl hb16
      replace hR8 := hR8.bl hb16
      replace hx8 := hx8.bl hb16
      replace hbb := hbb.next hb16
      obtain ⟨bs3, hF8, hf8⟩ := hR8
      have h24 := len24_innR l l'
      have l8 := Lib.hid hF8.rd.mag.len
      have l8' := Lib.hid hF8.rd.den.len
      have hn8 : n8 ≤ 1048576 := by rw [← l8.out]; omega
      have hm8 : m8 ≤ 1048576 := by rw [← l8'.out]; omega
      obtain ⟨i80, i81, i82⟩ := bx3 hx8
      go_wp2_with fail
      refine (markRat_any _ hF8 hf8.1 hn8 hm8 (by omega) (by omega)).mono ?_
      rintro e w17 ⟨rfl, hA17, hB17, hO17⟩
      clear i80 i81 i82
      have hs3 := hf8.2
      replace hR5 := hR5.ob hO17 (fun b hm => by have := hs3 b hm; omega)
      replace hx5 := hx5.ob hO17 (fun hm => by have := hs3 _ hm; omega)
      replace hx8 := hx8.ob hO17 (fun hm => by have := hs3 _ hm; omega)
      replace hbb := hbb.ob hO17 (fun b hm => by have := hs3 b hm; omega)
      clear hs3 hO17 hF8
      have hq : ¬ 1 + (n8 : Int) + (m8 : Int) < 0 := by omega
      obtain ⟨i80, i81, i82⟩ := bx3 hx8
      go_wp2_with fail
      refine (heldRat_any _ hA17 hB17 hn8 hm8 (by omega) (by omega)).mono ?_
      rintro e w18 ⟨rfl, hb18⟩
      clear i80 i81 i82
      replace hR5 := hR5.bl hb18
      replace hx5 := hx5.bl hb18
      replace hx8 := hx8.bl hb18
      replace hA17 := hA17.bl hb18
      replace hB17 := hB17.bl hb18
      replace hbb := hbb.next hb18
      go_wp2_with fail
      refine (toRatS_own _ (RdRS.bl ha hbb) hsz).mono ?_
      rintro e w19 ⟨A19, rfl, hO19, hb19⟩
      have z19 := hb19.size
      replace hO19 := OwRX.y hO19 (Nat.le_refl _)
      replace hR5 := hR5.bl hb19
      replace hx5 := hx5.bl hb19
      replace hx8 := hx8.bl hb19
      replace hA17 := hA17.bl hb19
      replace hB17 := hB17.bl hb19
      replace hbb := hbb.next hb19
      go_wp2_with fail
      refine (toRatS_own _ (RdRS.bl hb hbb) hsz').mono ?_
      rintro e w20 ⟨A20, rfl, hO20, hb20⟩
      have z20 := hb20.size
      replace hO20 := OwRX.y hO20 (Nat.le_refl _)
      replace hR5 := hR5.bl hb20
      replace hx5 := hx5.bl hb20
      replace hx8 := hx8.bl hb20
      replace hA17 := hA17.bl hb20
      replace hB17 := hB17.bl hb20
      replace hO19 := hO19.bl hb20
      replace hbb := hbb.next hb20
      go_wp2_with fail
      refine (InnerVector_any _ hO19.rd hO20.rd).mono ?_
      rintro e w21 ⟨s21, A21, n21, c21, B21, m21, d21, rfl, hR21, hb21⟩
      have z21 := hb21.size
      replace hR21 := OwX.of hR21
      replace hR5 := hR5.bl hb21
      replace hx5 := hx5.bl hb21
      replace hx8 := hx8.bl hb21
      replace hA17 := hA17.bl hb21
      replace hB17 := hB17.bl hb21
      replace hO19 := hO19.bl hb21
      replace hO20 := hO20.bl hb21
      replace hbb := hbb.next hb21
      clear hO19
      clear hO20
      have e5 := hx5.alloc (.cells #[.bool s21, .slice A21 n21 c21, .slice B21 m21 d21] 48)
      obtain ⟨i50, i51, i52⟩ := bx3 e5
      go_wp2_with fail
      refine (eqRat_any _ (hR21.rd.alloc _) (hR5.rd.alloc _)).mono ?_
      rintro e w22 ⟨rfl, hb22⟩
      replace hb22 := ((Bl.refl w21).alloc _).next hb22
      clear e5 i50 i51 i52
      replace hR5 := hR5.bl hb22
      replace hx5 := hx5.bl hb22
      replace hx8 := hx8.bl hb22
      replace hA17 := hA17.bl hb22
      replace hB17 := hB17.bl hb22
      replace hR21 := hR21.bl hb22
      replace hbb := hbb.next hb22
      obtain ⟨i80, i81, i82⟩ := bx3 hx8
      go_wp2_with fail
      refine (heldRat_any _ hA17 hB17 hn8 hm8 (by omega) (by omega)).mono ?_
      rintro e w23 ⟨rfl, hb23⟩
      replace hbb := hbb.next hb23
      clear i80 i81 i82
      go_wp2_with fail
      go_ret
      exact ⟨rfl, hbb⟩

    · have e2 := lft_no s2
      go_enter Try.func6, Try.ntmps6
      go_wp2_with fail
      refine (szRatS_any _ ha (by omega) (by omega)).mono ?_
      rw [e1]
      rintro e w1 ⟨rfl, hb1⟩
      go_wp2_with fail
      refine (szRatS_any _ (RdRS.bl hb hb1) (by omega) (by omega)).mono ?_
      rw [e2]
      rintro e w2 ⟨rfl, hb2⟩
      go_wp2_with fail
      go_ret
      exact ⟨rfl, hb1.next hb2⟩
  · have e1 := lft_no s1
    go_enter Try.func6, Try.ntmps6
    go_wp2_with fail
    refine (szRatS_any _ ha (by omega) (by omega)).mono ?_
    rw [e1]
    rintro e w1 ⟨rfl, hb1⟩
    go_wp2_with fail
    go_ret
    exact ⟨rfl, hb1⟩

end Go.Proofs.Ythgielbhcjpikaa
