import Derived.Test.YtggjdgjkdmgjnaaGreatRows
import Derived.Test.YtggjdgjkdmgjnaaGreatMr1
import Derived.Test.YtggjdgjkdmgjnaaGreatRs4
namespace Go.Proofs.YtggjdgjkdmgjnaaGreat

open Go.RowKit

def advR (r : RatD) : Nat := 1 + szR r
def mkAtR (l : List RatD) (k : Int) (i : Nat) : RatD := mkR (k + (sumTo advR l i : Int)) (pix l i)
def mkLR (l : List RatD) (k : Int) : List RatD := (List.range l.length).map (mkAtR l k)
theorem mkLR_len (l : List RatD) (k : Int) : (mkLR l k).length = l.length := by simp [mkLR]
theorem pix_mkLR (l : List RatD) (k : Int) {i : Nat} (h : i < l.length) : pix (mkLR l k) i = mkAtR l k i := by simp [pix, mkLR, h]
theorem sumTo_advR (l : List RatD) (k : Nat) : sumTo advR l k = k + sumTo szR l k := by
  induction k with
  | zero => rfl
  | succ k ih => simp only [sumTo, ih, advR]; omega
theorem RtIn.lt {T : TypeId} {w : World} {cs : Array Value} {i : Nat} {r : RatD} {bs : List Nat} (h : RtIn T w cs i r bs) : ∀ b ∈ bs, b < w.heap.size := by
  obtain ⟨s, A, n, c, B, m, d, _, h⟩ := h
  exact h.lt

set_option maxHeartbeats 1000000 in
theorem markRatS_any {T TP : TypeId} (w : World) {g n c : Nat} {l : List RatD} {cs : Array Value} {fs : List (List Nat)} {k0 : Int} (hB : Blk w g TP cs) (hcs : n * 3 ≤ cs.size) (hP : RtsIn T w cs l n fs) (hl : l.length = n)
    (hg : g ∉ fs.flatten) (hnd : fs.flatten.Nodup) (hn : n ≤ 1048576) (hsz : szL szR l ≤ 1048576) (h0 : 0 ≤ k0) (h1 : k0 ≤ 1073741824) :
    Calls Tryz.prog 86 #[.slice (some ⟨g, 0, none⟩) n c, .int .i64 k0] w fun e w' => e = .returned (.int .i64 (k0 + (sumTo advR l n : Int))) ∧ ∃ cs', Blk w' g TP cs' ∧ cs'.size = cs.size ∧ RtsIn T w' cs' (mkLR l k0) n fs ∧ Ob (g :: fs.flatten) w w' := by
  have hl := Lib.hid hl; rename_i h_; clear h_
  go_enter Tryz.func86, Tryz.ntmps86
  go_wp2_with fail
  go_loopw [1, 5] (fun v i wr => ∃ (k : Nat) (cs' : Array Value), k ≤ n ∧ i = .int .i64 (k : Int) ∧ v = .int .i64 (k0 + (sumTo advR l k : Int)) ∧ Blk wr g TP cs' ∧ cs'.size = cs.size ∧ (∀ j, j < n → RtIn T wr cs' (j * 3) (if j < k then mkAtR l k0 j else pix l j) (pix fs j)) ∧ Ob (g :: fs.flatten) w wr) (fun _ i _ => n - (intOf i).toNat)
  case atStart => exact ⟨0, cs, Nat.zero_le _, rfl, by simp [sumTo], hB, rfl, fun j hj => by simpa using hP.2 j hj, Ob.refl _ _⟩
  case round =>
    clear hB
    obtain ⟨k, cs', hk, rfl, rfl, hB, hs, hM, hO⟩ := hrel
    have hs := Lib.hid hs; rename_i h_; clear h_
    by_cases hkn : k < n
    · have hki : (k : Int) < (n : Int) := by omega
      have hPk := hM k hkn
      rw [if_neg (by omega)] at hPk
      have hMk : Hid (k0 + (sumTo advR l (k + 1) : Int) = k0 + (sumTo advR l k : Int) + (advR (pix l k) : Int)) := by unfold Hid; simp only [sumTo]; omega
      have hat : Hid (mkAtR l k0 k = mkR (k0 + (sumTo advR l k : Int)) (pix l k)) := rfl
      have hks : (0 : Int) ≤ k0 + (sumTo advR l k : Int) := by omega
      have hkb : k0 + (sumTo advR l k : Int) ≤ 1099511627776 - 100000000 := by have a1 := sumTo_advR l k; have a2 := sumTo_le szR l hk; have a3 := hl.out; unfold szL at hsz; rw [a3] at hsz; omega
      generalize k0 + (sumTo advR l k : Int) = ks at *
      have hpz := szL_at szR l (k := k) (by rw [hl.out]; exact hkn)
      generalize pix l k = p at *
      obtain ⟨s, A, n1, c1, B, m1, d1, ⟨x0, x1, x2⟩, e1, b11, b12, hX1, hX2, r1⟩ := hPk
      have y0 := (hB.cell (k * 3)).trans x0
      have y1 := (hB.cell (k * 3 + 1)).trans x1
      have y2 := (hB.cell (k * 3 + 2)).trans x2
      have f0 := hB.frozen (k * 3)
      have hfl := hP.1
      have hnp := nodup_pix hnd (k := k) (by rw [hfl]; exact hkn)
      have hgk : ∀ b ∈ pix fs k, b ≠ g := fun b hb e => hg (by rw [← e]; exact mem_flatten_pix hb)
      have hdj : ∀ j, j < n → j ≠ k → ∀ b ∈ pix fs j, b ∉ pix fs k := fun j hj hne => disj_pix hnd (by rw [hfl]; exact hj) (by rw [hfl]; exact hkn) hne
      rw [r1] at hnp hgk
      have hd := List.nodup_append.1 hnp
      have q1 : ∀ b ∈ b12, b ∉ b11 := fun b hb hm' => hd.2.2 b hm' b hb rfl
      have q7 : ∀ b ∈ b11, b ∉ b12 := fun b hb hm' => hd.2.2 b hb b hm' rfl
      have gb1 : ∀ b ∈ b11, b ∉ [g] := fun b hb => by have := hgk b (by simp [hb]); simpa using this
      have gb2 : ∀ b ∈ b12, b ∉ [g] := fun b hb => by have := hgk b (by simp [hb]); simpa using this
      have gg1 : g ∉ b11 := fun hb => hgk g (by simp [hb]) rfl
      have gg2 : g ∉ b12 := fun hb => hgk g (by simp [hb]) rfl
      have lX1 := Lib.hid hX1.1.len
      have lX2 := Lib.hid hX2.1.len
      have hb1 : n1 + m1 ≤ 1048576 := by have a1 := lX1.out; have a2 := lX2.out; simp only [szR] at hpz; omega
      have hM := Lib.hid hM; rename_i h_; clear h_
      have hdj := Lib.hid hdj; rename_i h_; clear h_
      have hMk := Lib.hid hMk.out; rename_i h_; clear h_
      have hnp := Lib.hid hnp; rename_i h_; clear h_
      have hgk := Lib.hid hgk; rename_i h_; clear h_
      have r1 := Lib.hid r1; rename_i h_; clear h_
      have e1 := Lib.hid e1; rename_i h_; clear h_
      have hfl := Lib.hid hfl; rename_i h_; clear h_
      clear hd
      go_wp2_with fail
      have o1 : Ob [g] wr (wr.setCell ⟨g, k * 3, none⟩ (.bool (ks % 3 == 0))) := (Ob.refl _ _).set (by simp) _ _
      have hB1 := hB.set_ (k * 3) (.bool (ks % 3 == 0))
      refine (markIntS_any _ (hX1.ob o1 gb1) (by omega) (by omega) (by omega)).mono ?_
      rintro e w2 ⟨rfl, hX1, p1⟩
      have hB2 := hB1.ob p1 gg1
      have hX2 := (hX2.ob o1 gb2).ob p1 q1
      have z2 := (hB2.cell (k * 3 + 2)).trans ((Array.getElem?_setIfInBounds_ne (by omega)).trans x2)
      go_wp2_with fail
      refine (markIntS_any _ hX2 (by omega) (by omega) (by omega)).mono ?_
      rintro e w3 ⟨rfl, hX2, p2⟩
      have hB3 := hB2.ob p2 gg2
      have hX1 := hX1.ob p2 q7
      have oall : Ob (g :: pix fs k) wr w3 := by
        rw [r1.out]
        exact ((o1.mono (by simp)).trans (p1.mono (by intro b hb; simp [hb]))).trans (p2.mono (by intro b hb; simp [hb]))
      have hs6 : k * 3 + 2 < cs'.size := by have := hs.out; omega
      have hPk : RtIn T w3 (cs'.setIfInBounds (k * 3) (.bool (ks % 3 == 0))) (k * 3) (mkR ks p) (pix fs k) := by
        refine ⟨ks % 3 == 0, A, n1, c1, B, m1, d1, ⟨?_, ?_, ?_⟩, rfl, b11, b12, ?_, ?_, r1.out⟩
        · simp [Array.getElem?_setIfInBounds] <;> omega
        · rw [Array.getElem?_setIfInBounds_ne (by omega)]; exact x1
        · rw [Array.getElem?_setIfInBounds_ne (by omega)]; exact x2
        · rw [mkR_m lX1.out]; exact hX1
        · rw [mkR_d lX1.out lX2.out]; exact hX2
      have hall : ∀ j, j < n → RtIn T w3 (cs'.setIfInBounds (k * 3) (.bool (ks % 3 == 0))) (j * 3) (if j < k + 1 then mkAtR l k0 j else pix l j) (pix fs j) := by
        intro j hj
        by_cases hjk : j = k
        · subst hjk
          rw [if_pos (by omega), hat.out]
          exact hPk
        · have hold := hM.out j hj
          rw [show (if j < k + 1 then mkAtR l k0 j else pix l j) = (if j < k then mkAtR l k0 j else pix l j) from by
            by_cases h : j < k
            · rw [if_pos h, if_pos (by omega)]
            · rw [if_neg h, if_neg (by omega)]]
          refine hold.keep (fun q hq => ?_) oall.size fun b hb => oall.block b (hold.lt b hb) ?_
          · rw [Array.getElem?_setIfInBounds_ne (by omega)]
          · intro hm
            rcases List.mem_cons.1 hm with rfl | hm
            · exact hg (mem_flatten_pix hb)
            · exact hdj.out j hj hjk b hb hm
      have hnext : Hid (ks + 1 + (n1 : Int) + (m1 : Int) = k0 + (sumTo advR l (k + 1) : Int)) := by
        unfold Hid
        rw [hMk.out]
        have a1 := lX1.out; have a2 := lX2.out
        simp only [advR, szR]
        omega
      have hO5 := hO.trans (oall.mono (cs := g :: fs.flatten) (by
        intro b hb
        rcases List.mem_cons.1 hb with rfl | hb
        · simp
        · exact List.mem_cons_of_mem _ (mem_flatten_pix hb)))
      clear hPk hM
      have hall := Lib.hid hall; rename_i h_; clear h_
      go_wp2_with fail
      go_roundw
      case rel => exact ⟨k + 1, _, by omega, by go_num, by rw [hnext.out], hB3, by simp [hs.out], hall.out, hO5⟩
      case measure => simp [intOf]; omega
    · obtain rfl : k = n := by omega
      have hM := Lib.hid hM; rename_i h_; clear h_
      go_wp2_with fail
      go_ret
      refine ⟨rfl, cs', hB, hs.out, ⟨hP.1, fun i hi => ?_⟩, hO⟩
      have := hM.out i hi
      rw [if_pos hi] at this
      rw [pix_mkLR _ _ (by rw [hl.out]; exact hi)]
      exact this

/-- A list of fractions in memory of one's own, its limbs behind its cells. -/
def OwRX (TI TR : TypeId) (b0 : Nat) (w : World) (A : Option Addr) (n c : Nat) (l : List RatD) : Prop :=
  ∃ g cs fs, A = some ⟨g, 0, none⟩ ∧ b0 ≤ g ∧ l.length = n ∧ n ≤ c ∧ n ≤ 1048576 ∧ Blk w g TR cs ∧ cs.size = n * 3 ∧ RtsIn TI w cs l n fs ∧ Fp (g + 1) w.heap.size fs.flatten
theorem OwRX.rd {TI TR : TypeId} {b0 : Nat} {w : World} {A : Option Addr} {n c : Nat} {l : List RatD} (h : OwRX TI TR b0 w A n c l) : RdRS w A n c l := by
  obtain ⟨g, cs, fs, rfl, h1, h2, h3, h4, h5, h6, h7, h8⟩ := h
  exact h7.rd h5 h2 (by omega) h3
theorem OwRX.bl {TI TR : TypeId} {b0 : Nat} {w W : World} {A : Option Addr} {n c : Nat} {l : List RatD} (h : OwRX TI TR b0 w A n c l) (hb : Bl w W) : OwRX TI TR b0 W A n c l := by
  obtain ⟨g, cs, fs, rfl, h1, h2, h3, h4, h5, h6, h7, h8⟩ := h
  exact ⟨g, cs, fs, rfl, h1, h2, h3, h4, h5.bl hb, h6, h7.bl hb (fun b hm => (h8.2 b hm).2), h8.mono (Nat.le_refl _) hb.size⟩
theorem OwRX.ob {TI TR : TypeId} {b0 : Nat} {w W : World} {A : Option Addr} {n c : Nat} {l : List RatD} {bs : List Nat} (h : OwRX TI TR b0 w A n c l) (ho : Ob bs w W) (hd : ∀ b ∈ bs, b < b0) : OwRX TI TR b0 W A n c l := by
  obtain ⟨g, cs, fs, rfl, h1, h2, h3, h4, h5, h6, h7, h8⟩ := h
  refine ⟨g, cs, fs, rfl, h1, h2, h3, h4, h5.ob ho (fun hm => by have := hd g hm; omega), h6, ⟨h7.1, fun i hi => (h7.2 i hi).keep (fun _ _ => rfl) ho.size fun b hb => ?_⟩, h8.mono (Nat.le_refl _) ho.size⟩
  have hm := h8.2 b (mem_flatten_pix hb)
  exact ho.block b hm.2 fun hx => by have := hd b hx; omega
/-- A list of fractions in memory of one's own: the marks turn nothing but it. -/
theorem markRatS_own {T TP : TypeId} (w : World) {b0 n c : Nat} {A : Option Addr} {l : List RatD} {k0 : Int} (h : OwRX T TP b0 w A n c l) (hsz : szL szR l ≤ 1048576) (h0 : 0 ≤ k0) (h1 : k0 ≤ 1073741824) :
    Calls Tryz.prog 86 #[.slice A n c, .int .i64 k0] w fun e w' => ∃ K, e = .returned (.int .i64 K) ∧ k0 ≤ K ∧ K ≤ k0 + 2097152 ∧ ∃ bs, (∀ b ∈ bs, b0 ≤ b ∧ b < w.heap.size) ∧ Ob bs w w' := by
  obtain ⟨g, cs, fs, rfl, hb0, hl, hnc, hn, hB, hcs, hP, hF⟩ := h
  refine (markRatS_any w hB (by omega) hP hl ?_ ?_ hn hsz h0 h1).mono ?_
  rotate_left 2
  · rintro e w' ⟨rfl, cs', _, _, _, hO⟩
    refine ⟨_, rfl, by omega, ?_, _, ?_, hO⟩
    · have a1 := sumTo_advR l n
      have a2 : sumTo szR l n ≤ szL szR l := by unfold szL; rw [hl]; omega
      omega
    · intro b hb
      rcases List.mem_cons.1 hb with rfl | hb
      · exact ⟨hb0, hB.lt⟩
      · have := hF.2 b hb; exact ⟨by omega, this.2⟩
  · exact fun hm => by have := hF.2 g hm; omega
  · exact hF.1

end Go.Proofs.YtggjdgjkdmgjnaaGreat
