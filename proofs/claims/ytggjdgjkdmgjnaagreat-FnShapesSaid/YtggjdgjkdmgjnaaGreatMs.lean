/- Lists of lists of fractions: how they read, their marks. -/
import Derived.Test.YtggjdgjkdmgjnaaGreatRows
import Derived.Test.YtggjdgjkdmgjnaaGreatMr2
import Derived.Test.YtggjdgjkdmgjnaaGreatMz
namespace Go.Proofs.YtggjdgjkdmgjnaaGreat

open Go.RowKit

set_option maxHeartbeats 1000000 in
theorem heldRatS_any (w : World) {A : Option Addr} {n c : Nat} {l : List RatD} {k0 : Int} (h : RdRS w A n c (mkLR l k0)) (hl : l.length = n) (hn : n ≤ 1048576) (hsz : szL szR l ≤ 1048576) (h0 : 0 ≤ k0) (h1 : k0 ≤ 1073741824) :
    Calls Tryz.prog 87 #[.slice A n c, .int .i64 k0] w fun e w' => e = .returned (.int .i64 (k0 + (sumTo advR l n : Int))) ∧ ∃ q, w' = w.drewN q := by
  have hl := Lib.hid hl; rename_i h_; clear h_
  have hb2 : ∀ z : Bool, (z != z) = false := by simp
  go_enter Tryz.func87, Tryz.ntmps87
  go_wp2_with fail
  go_loopw [1, 5] (fun v i wr => ∃ k : Nat, k ≤ n ∧ i = .int .i64 (k : Int) ∧ v = .int .i64 (k0 + (sumTo advR l k : Int)) ∧ ∃ q, wr = w.drewN q) (fun _ i _ => n - (intOf i).toNat)
  case atStart => exact ⟨0, Nat.zero_le _, rfl, by simp [sumTo], 0, rfl⟩
  case round =>
    obtain ⟨k, hk, rfl, rfl, q, rfl⟩ := hrel
    by_cases hkn : k < n
    · have hki : (k : Int) < (n : Int) := by omega
      have hMk : Hid (k0 + (sumTo advR l (k + 1) : Int) = k0 + (sumTo advR l k : Int) + (advR (pix l k) : Int)) := by unfold Hid; simp only [sumTo]; omega
      obtain ⟨ad, rfl, hlt, hat⟩ := h.cells k hkn
      have hpz := szL_at szR l (k := k) (by rw [hl.out]; exact hkn)
      rw [pix_mkLR _ _ (by rw [hl.out]; exact hkn)] at hat
      unfold mkAtR at hat
      have hks : (0 : Int) ≤ k0 + (sumTo advR l k : Int) := by omega
      have hkb : k0 + (sumTo advR l k : Int) ≤ 1099511627776 - 100000000 := by have a1 := sumTo_advR l k; have a2 := sumTo_le szR l hk; have a3 := hl.out; unfold szL at hsz; rw [a3] at hsz; omega
      generalize k0 + (sumTo advR l k : Int) = ks at *
      generalize pix l k = p at *
      obtain ⟨s, A, n1, c1, B, m1, d1, ⟨x0, x1, x2⟩, hx⟩ := hat
      have lX1 := Lib.hid (show p.mag.length = n1 by have := hx.mag.len; rwa [mkR_m rfl, marks_len] at this)
      have lX2 := Lib.hid (show p.den.length = m1 by have := hx.den.len; rwa [mkR_d rfl rfl, marks_len] at this)
      have hb1 : n1 + m1 ≤ 1048576 := by have a1 := lX1.out; have a2 := lX2.out; simp only [szR] at hpz; omega
      have vX1 := hx.mag
      have vX2 := hx.den
      have es := hx.neg
      rw [mkR_m lX1.out] at vX1
      rw [mkR_d lX1.out lX2.out] at vX2
      obtain rfl : s = (ks % 3 == 0) := es
      clear hx hpz
      go_wp2_with fail
      refine (heldIntS_any _ (vX1.drewN _) (by omega) (by omega) (by omega)).mono ?_
      rintro e w2 ⟨rfl, qa, rfl⟩
      go_wp2_with fail
      refine (heldIntS_any _ (vX2.drewN _) (by omega) (by omega) (by omega)).mono ?_
      rintro e w3 ⟨rfl, qb, rfl⟩
      have hnext : Hid (ks + 1 + (n1 : Int) + (m1 : Int) = k0 + (sumTo advR l (k + 1) : Int)) := by
        unfold Hid
        rw [hMk.out]
        have a1 := lX1.out; have a2 := lX2.out
        simp only [advR, szR]
        omega
      go_wp2_with fail
      go_roundw
      case rel => exact ⟨k + 1, by omega, by go_num, by rw [hnext.out], _, rfl⟩
      case measure => simp [intOf]; omega
    · obtain rfl : k = n := by omega
      go_wp2_with fail
      go_ret
      exact ⟨rfl, ⟨_, rfl⟩⟩
/-- A list of fractions with its footprint. -/
def FtRS (TI TR : TypeId) (w : World) (A : Option Addr) (n c : Nat) (l : List RatD) (bs : List Nat) : Prop :=
  l.length = n ∧ n ≤ c ∧ n ≤ 1048576 ∧ ((n = 0 ∧ bs = []) ∨ ∃ g cs fs, A = some ⟨g, 0, none⟩ ∧ Blk w g TR cs ∧ n * 3 ≤ cs.size ∧ RtsIn TI w cs l n fs ∧ bs = g :: fs.flatten)
/-- One cell that holds a list of fractions. -/
def RsAt (w : World) (p : Addr) (l : List RatD) : Prop := ∃ A n c, w.cell? p = some (.slice A n c) ∧ RdRS w A n c l
theorem RsAt.bl {w W : World} {p : Addr} {l : List RatD} (h : RsAt w p l) (hp : p.block < w.heap.size) (hb : Bl w W) : RsAt W p l := by
  obtain ⟨A, n, c, h0, h1⟩ := h
  exact ⟨A, n, c, by rw [hb.cellOf hp]; exact h0, h1.bl hb⟩
abbrev RdRSS := RdS 1 RsAt
theorem RdRSS.bl {w W : World} {A : Option Addr} {n c : Nat} {l : List (List RatD)} (h : RdRSS w A n c l) (hb : Bl w W) : RdRSS W A n c l := RdS.bl (fun h hp hb => h.bl hp hb) h hb
/-- The cell i of a block holds a list of fractions. -/
def RsIn (TI TR : TypeId) (w : World) (cs : Array Value) (i : Nat) (l : List RatD) (bs : List Nat) : Prop :=
  ∃ A n c, cs[i]? = some (.slice A n c) ∧ FtRS TI TR w A n c l bs
theorem flat_pix {fs : List (List Nat)} {b : Nat} (h : b ∈ fs.flatten) : ∃ k, k < fs.length ∧ b ∈ pix fs k := by
  obtain ⟨l, hl, hb⟩ := List.mem_flatten.1 h
  obtain ⟨k, hk, rfl⟩ := List.getElem_of_mem hl
  exact ⟨k, hk, by simpa [pix, hk] using hb⟩
section
variable {TI TR TS : TypeId} {w W : World} {A : Option Addr} {n c i lo hi lo' hi' : Nat} {cs cs' : Array Value} {l : List RatD} {L : List (List RatD)} {bs xs : List Nat}
theorem FtRS.rd (h : FtRS TI TR w A n c l bs) : RdRS w A n c l := by
  obtain ⟨h1, h2, h3, h4⟩ := h
  rcases h4 with ⟨h4, _⟩ | ⟨g, cs, fs, rfl, hB, hc, hP, _⟩
  · subst h4
    obtain rfl := List.length_eq_zero_iff.1 h1
    exact RdS.nil _ _ _
  · exact hP.rd hB h1 (by omega) h2
theorem FtRS.lt (h : FtRS TI TR w A n c l bs) : ∀ b ∈ bs, b < w.heap.size := by
  obtain ⟨h1, h2, h3, h4⟩ := h
  rcases h4 with ⟨_, rfl⟩ | ⟨g, cs, fs, rfl, hB, hc, hP, rfl⟩
  · intro b hb; cases hb
  · intro b hb
    rcases List.mem_cons.1 hb with rfl | hb
    · exact hB.lt
    · obtain ⟨k, hk, hm⟩ := flat_pix hb
      exact (hP.2 k (by rw [← hP.1]; exact hk)).lt b hm
theorem FtRS.keep (h : FtRS TI TR w A n c l bs) (hs : w.heap.size ≤ W.heap.size) (hk : ∀ b ∈ bs, W.heap[b]? = w.heap[b]?) : FtRS TI TR W A n c l bs := by
  obtain ⟨h1, h2, h3, h4⟩ := h
  refine ⟨h1, h2, h3, ?_⟩
  rcases h4 with h4 | ⟨g, cs, fs, rfl, hB, hc, hP, rfl⟩
  · exact .inl h4
  · exact .inr ⟨g, cs, fs, rfl, (hk g (by simp)).trans hB, hc, ⟨hP.1, fun i hi => (hP.2 i hi).keep (fun _ _ => rfl) hs fun b hb => hk b (List.mem_cons_of_mem _ (mem_flatten_pix hb))⟩, rfl⟩
theorem RsIn.lt (h : RsIn TI TR w cs i l bs) : ∀ b ∈ bs, b < w.heap.size := by
  obtain ⟨A, n, c, _, h⟩ := h
  exact h.lt
theorem RsIn.keep (h : RsIn TI TR w cs i l bs) (hc : cs'[i]? = cs[i]?) (hs : w.heap.size ≤ W.heap.size) (hk : ∀ b ∈ bs, W.heap[b]? = w.heap[b]?) : RsIn TI TR W cs' i l bs := by
  obtain ⟨A, n, c, h0, h⟩ := h
  exact ⟨A, n, c, hc.trans h0, h.keep hs hk⟩
/-- A list of lists of fractions in the blocks from lo to hi. -/
def OwSZ (TI TR TS : TypeId) (lo hi : Nat) (w : World) (A : Option Addr) (n c : Nat) (L : List (List RatD)) : Prop :=
  L.length = n ∧ n ≤ c ∧ n ≤ 1048576 ∧ (n = 0 ∨ ∃ g cs fs, A = some ⟨g, 0, none⟩ ∧ Blk w g TS cs ∧ n ≤ cs.size ∧ fs.length = n ∧ (∀ i, i < n → RsIn TI TR w cs i (pix L i) (pix fs i)) ∧ Fp lo hi (g :: fs.flatten))
theorem rss_rd {g : Nat} {fs : List (List Nat)} (hB : Blk w g TS cs) (hl : L.length = n) (hn : n ≤ c) (h3 : n ≤ 1048576) (hP : ∀ i, i < n → RsIn TI TR w cs i (pix L i) (pix fs i)) : RdRSS w (some ⟨g, 0, none⟩) n c L := by
  refine ⟨hl, hn, by omega, fun k hk => ⟨_, rfl, hB.lt, ?_⟩⟩
  obtain ⟨A, n', c', h0, h1⟩ := hP k hk
  refine ⟨A, n', c', ?_, h1.rd⟩
  rw [Nat.mul_one, Addr.add_lit, Nat.zero_add]
  exact (hB.cell k).trans h0
theorem OwSZ.rd (h : OwSZ TI TR TS lo hi w A n c L) : RdRSS w A n c L := by
  obtain ⟨h1, h2, h3, h4⟩ := h
  rcases h4 with h4 | ⟨g, cs, fs, rfl, hB, hc, hf, hP, hF⟩
  · subst h4
    obtain rfl := List.length_eq_zero_iff.1 h1
    exact RdS.nil _ _ _
  · exact rss_rd hB h1 h2 h3 hP
theorem OwSZ.keep (h : OwSZ TI TR TS lo hi w A n c L) (hs : w.heap.size ≤ W.heap.size) (hk : ∀ b, lo ≤ b → b < hi → b < w.heap.size → W.heap[b]? = w.heap[b]?) : OwSZ TI TR TS lo hi W A n c L := by
  obtain ⟨h1, h2, h3, h4⟩ := h
  refine ⟨h1, h2, h3, ?_⟩
  rcases h4 with h4 | ⟨g, cs, fs, rfl, hB, hc, hf, hP, hF⟩
  · exact .inl h4
  · have hg := hF.2 g (by simp)
    refine .inr ⟨g, cs, fs, rfl, (hk g hg.1 hg.2 hB.lt).trans hB, hc, hf, fun i hi => (hP i hi).keep rfl hs fun b hb => ?_, hF⟩
    have hm := hF.2 b (List.mem_cons_of_mem _ (mem_flatten_pix hb))
    exact hk b hm.1 hm.2 ((hP i hi).lt b hb)
theorem OwSZ.bl (h : OwSZ TI TR TS lo hi w A n c L) (hb : Bl w W) : OwSZ TI TR TS lo hi W A n c L := h.keep hb.size fun b _ _ hl => Below.block hb b hl
theorem OwSZ.ob (h : OwSZ TI TR TS lo hi w A n c L) (ho : Ob bs w W) (hd : ∀ b ∈ bs, b < lo ∨ hi ≤ b) : OwSZ TI TR TS lo hi W A n c L :=
  h.keep ho.size fun b h1 h2 hl => ho.block b hl fun hm => by have := hd b hm; omega
theorem OwSZ.low (h : OwSZ TI TR TS lo hi w A n c L) (h1 : lo' ≤ lo) (h2 : hi ≤ hi') : OwSZ TI TR TS lo' hi' w A n c L := by
  obtain ⟨a1, a2, a3, a4⟩ := h
  refine ⟨a1, a2, a3, ?_⟩
  rcases a4 with h4 | ⟨g, cs, fs, rfl, hB, hc, hf, hP, hF⟩
  · exact .inl h4
  · exact .inr ⟨g, cs, fs, rfl, hB, hc, hf, hP, hF.mono h1 h2⟩
end
def advL (l : List RatD) : Nat := sumTo advR l l.length
def mkSS (L : List (List RatD)) (k : Int) : List (List RatD) := (List.range L.length).map fun i => mkLR (pix L i) (k + (sumTo advL L i : Int))
theorem mkSS_len (L : List (List RatD)) (k : Int) : (mkSS L k).length = L.length := by simp [mkSS]
theorem pix_mkSS (L : List (List RatD)) (k : Int) {i : Nat} (h : i < L.length) : pix (mkSS L k) i = mkLR (pix L i) (k + (sumTo advL L i : Int)) := by simp [pix, mkSS, h]
theorem advL_le {l : List RatD} (h : szL szR l ≤ 1048576) : advL l ≤ 1048576 := by
  have a1 := sumTo_advR l l.length
  unfold advL
  unfold szL at h
  omega
theorem sumTo_advL {L : List (List RatD)} {n : Nat} (hsz : ∀ i, i < n → szL szR (pix L i) ≤ 1048576) : ∀ k, k ≤ n → sumTo advL L k ≤ k * 1048576 := by
  intro k
  induction k with
  | zero => intro _; exact Nat.le_refl _
  | succ k ih =>
    intro hk
    have := ih (by omega)
    have := advL_le (hsz k (by omega))
    simp only [sumTo]
    omega
/-- A list of fractions with its footprint, marked. -/
theorem markRatS_ft {TI TR : TypeId} (w : World) {n c : Nat} {A : Option Addr} {l : List RatD} {bs : List Nat} {k0 : Int} (h : FtRS TI TR w A n c l bs) (hnd : bs.Nodup) (hsz : szL szR l ≤ 1048576) (h0 : 0 ≤ k0) (h1 : k0 ≤ 1073741824) :
    Calls Tryz.prog 86 #[.slice A n c, .int .i64 k0] w fun e w' => e = .returned (.int .i64 (k0 + (advL l : Int))) ∧ FtRS TI TR w' A n c (mkLR l k0) bs ∧ Ob bs w w' := by
  obtain ⟨a1, a2, a3, a4⟩ := h
  rcases a4 with ⟨rfl, rfl⟩ | ⟨g, cs, fs, rfl, hB, hc, hP, rfl⟩
  · obtain rfl := List.length_eq_zero_iff.1 a1
    clear a1 a2 a3 hsz hnd
    go_enter Tryz.func86, Tryz.ntmps86
    go_wp2_with fail
    go_loopw [1, 5] (fun v i wr => v = .int .i64 k0 ∧ i = .int .i64 0 ∧ wr = w) (fun _ _ _ => 0)
    case atStart => exact ⟨rfl, rfl, rfl⟩
    case round =>
      obtain ⟨rfl, rfl, rfl⟩ := hrel
      go_wp2_with fail
      go_ret
      exact ⟨by simp [advL, sumTo], ⟨rfl, Nat.zero_le _, Nat.zero_le _, .inl ⟨rfl, rfl⟩⟩, Ob.refl _ _⟩
  · have hnd := List.nodup_cons.1 hnd
    refine (markRatS_any w hB hc hP a1 hnd.1 hnd.2 a3 hsz h0 h1).mono ?_
    rintro e w' ⟨rfl, cs', hB', hc', hP', hO⟩
    exact ⟨by unfold advL; rw [a1], ⟨by rw [mkLR_len]; exact a1, a2, a3, .inr ⟨g, cs', fs, rfl, hB', by omega, hP', rfl⟩⟩, hO⟩

set_option maxHeartbeats 1000000 in
theorem markRatSS_any {TI TR TS : TypeId} (w : World) {g n c : Nat} {L : List (List RatD)} {cs : Array Value} {fs : List (List Nat)} {k0 : Int} (hB : Blk w g TS cs) (hf : fs.length = n) (hP : ∀ i, i < n → RsIn TI TR w cs i (pix L i) (pix fs i)) (hl : L.length = n)
    (hg : g ∉ fs.flatten) (hnd : fs.flatten.Nodup) (hn : n ≤ 8) (hsz : ∀ i, i < n → szL szR (pix L i) ≤ 1048576) (h0 : 0 ≤ k0) (h1 : k0 ≤ 536870912) :
    Calls Tryz.prog 26 #[.slice (some ⟨g, 0, none⟩) n c, .int .i64 k0] w fun e w' => e = .returned (.int .i64 (k0 + (sumTo advL L n : Int))) ∧ Blk w' g TS cs ∧ (∀ i, i < n → RsIn TI TR w' cs i (pix (mkSS L k0) i) (pix fs i)) ∧ Ob (g :: fs.flatten) w w' := by
  have hl := Lib.hid hl; rename_i h_; clear h_
  have hf := Lib.hid hf; rename_i h_; clear h_
  go_enter Tryz.func26, Tryz.ntmps26
  go_wp2_with fail
  go_loopw [1, 5] (fun v i wr => ∃ k : Nat, k ≤ n ∧ i = .int .i64 (k : Int) ∧ v = .int .i64 (k0 + (sumTo advL L k : Int)) ∧ Blk wr g TS cs ∧ (∀ j, j < n → RsIn TI TR wr cs j (if j < k then mkLR (pix L j) (k0 + (sumTo advL L j : Int)) else pix L j) (pix fs j)) ∧ Ob (g :: fs.flatten) w wr) (fun _ i _ => n - (intOf i).toNat)
  case atStart => exact ⟨0, Nat.zero_le _, rfl, by simp [sumTo], hB, fun j hj => by simpa using hP j hj, Ob.refl _ _⟩
  case round =>
    clear hB
    obtain ⟨k, hk, rfl, rfl, hB, hM, hO⟩ := hrel
    have hM := Lib.hid hM; rename_i h_; clear h_
    by_cases hkn : k < n
    · have hki : (k : Int) < (n : Int) := by omega
      have hPk := hM.out k hkn
      rw [if_neg (by omega)] at hPk
      have hMk : Hid (k0 + (sumTo advL L (k + 1) : Int) = k0 + (sumTo advL L k : Int) + (advL (pix L k) : Int)) := by unfold Hid; simp only [sumTo]; omega
      have hks : (0 : Int) ≤ k0 + (sumTo advL L k : Int) := by omega
      have hkb : k0 + (sumTo advL L k : Int) ≤ 1073741824 := by have := sumTo_advL hsz k hk; omega
      have hszk := hsz k hkn
      have hnp := nodup_pix hnd (k := k) (by rw [hf.out]; exact hkn)
      have hdj : ∀ j, j < n → j ≠ k → ∀ b ∈ pix fs j, b ∉ pix fs k := fun j hj hne => disj_pix hnd (by rw [hf.out]; exact hj) (by rw [hf.out]; exact hkn) hne
      have hgk : g ∉ pix fs k := fun hm => hg (mem_flatten_pix hm)
      obtain ⟨A, n1, c1, hc, hX⟩ := hPk
      have x0 := (hB.cell k).trans hc
      have hdj := Lib.hid hdj; rename_i h_; clear h_
      have hMk := Lib.hid hMk.out; rename_i h_; clear h_
      have hsz := Lib.hid hsz; rename_i h_; clear h_
      go_wp2_with fail
      refine (markRatS_ft _ hX hnp hszk hks hkb).mono ?_
      rintro e w2 ⟨rfl, hX2, p1⟩
      have hB2 := hB.ob p1 hgk
      have hall : ∀ j, j < n → RsIn TI TR w2 cs j (if j < k + 1 then mkLR (pix L j) (k0 + (sumTo advL L j : Int)) else pix L j) (pix fs j) := by
        intro j hj
        by_cases hjk : j = k
        · subst hjk
          rw [if_pos (by omega)]
          exact ⟨A, n1, c1, hc, hX2⟩
        · have hold := hM.out j hj
          rw [show (if j < k + 1 then mkLR (pix L j) (k0 + (sumTo advL L j : Int)) else pix L j) = (if j < k then mkLR (pix L j) (k0 + (sumTo advL L j : Int)) else pix L j) from by
            by_cases h : j < k
            · rw [if_pos h, if_pos (by omega)]
            · rw [if_neg h, if_neg (by omega)]]
          exact hold.keep rfl p1.size fun b hb => p1.block b (hold.lt b hb) (hdj.out j hj hjk b hb)
      have hO5 := hO.trans (p1.mono (cs := g :: fs.flatten) (fun b hb => List.mem_cons_of_mem _ (mem_flatten_pix hb)))
      have hall := Lib.hid hall; rename_i h_; clear h_
      clear hM hX hX2
      go_wp2_with fail
      go_roundw
      case rel => exact ⟨k + 1, by omega, by go_num, by rw [hMk.out], hB2, hall.out, hO5⟩
      case measure => simp [intOf]; omega
    · obtain rfl : k = n := by omega
      go_wp2_with fail
      go_ret
      refine ⟨rfl, hB, fun i hi => ?_, hO⟩
      have := hM.out i hi
      rw [if_pos hi] at this
      rw [pix_mkSS _ _ (by rw [hl.out]; exact hi)]
      exact this

set_option maxHeartbeats 1000000 in
theorem heldRatSS_any (w : World) {A : Option Addr} {n c : Nat} {L : List (List RatD)} {k0 : Int} (h : RdRSS w A n c (mkSS L k0)) (hl : L.length = n) (hn : n ≤ 8) (hsz : ∀ i, i < n → szL szR (pix L i) ≤ 1048576) (h0 : 0 ≤ k0) (h1 : k0 ≤ 536870912) :
    Calls Tryz.prog 27 #[.slice A n c, .int .i64 k0] w fun e w' => e = .returned (.int .i64 (k0 + (sumTo advL L n : Int))) ∧ ∃ q, w' = w.drewN q := by
  have hl := Lib.hid hl; rename_i h_; clear h_
  go_enter Tryz.func27, Tryz.ntmps27
  go_wp2_with fail
  go_loopw [1, 5] (fun v i wr => ∃ k : Nat, k ≤ n ∧ i = .int .i64 (k : Int) ∧ v = .int .i64 (k0 + (sumTo advL L k : Int)) ∧ ∃ q, wr = w.drewN q) (fun _ i _ => n - (intOf i).toNat)
  case atStart => exact ⟨0, Nat.zero_le _, rfl, by simp [sumTo], 0, rfl⟩
  case round =>
    obtain ⟨k, hk, rfl, rfl, q, rfl⟩ := hrel
    by_cases hkn : k < n
    · have hki : (k : Int) < (n : Int) := by omega
      have hMk : Hid (k0 + (sumTo advL L (k + 1) : Int) = k0 + (sumTo advL L k : Int) + (advL (pix L k) : Int)) := by unfold Hid; simp only [sumTo]; omega
      obtain ⟨ad, rfl, hlt, hat⟩ := h.cells k hkn
      rw [pix_mkSS _ _ (by rw [hl.out]; exact hkn)] at hat
      have hks : (0 : Int) ≤ k0 + (sumTo advL L k : Int) := by omega
      have hkb : k0 + (sumTo advL L k : Int) ≤ 1073741824 := by have := sumTo_advL hsz k hk; omega
      have hszk := hsz k hkn
      have hal := advL_le hszk
      obtain ⟨A1, n1, c1, x0, hX⟩ := hat
      have hln : (pix L k).length = n1 := by have := hX.len; rwa [mkLR_len] at this
      have hav : Hid (advL (pix L k) = sumTo advR (pix L k) n1) := by unfold Hid advL; rw [hln]
      have hn1 : n1 ≤ 1048576 := by unfold szL at hszk; omega
      have hln := Lib.hid hln; rename_i h_; clear h_
      have hsz := Lib.hid hsz; rename_i h_; clear h_
      rw [Nat.mul_one] at x0
      go_wp2_with fail
      refine (heldRatS_any _ (hX.bl ((Bl.refl w).drewN _)) hln.out hn1 hszk hks hkb).mono ?_
      rw [← hav.out]
      rintro e w2 ⟨rfl, qa, rfl⟩
      go_wp2_with fail
      go_roundw
      case rel => exact ⟨k + 1, by omega, by go_num, by rw [hMk.out], _, rfl⟩
      case measure => simp [intOf]; omega
    · obtain rfl : k = n := by omega
      go_wp2_with fail
      go_ret
      exact ⟨rfl, ⟨_, rfl⟩⟩

set_option maxRecDepth 100000 in
set_option maxHeartbeats 1000000 in
theorem eqRatSS_any (w : World) {A B : Option Addr} {n c d : Nat} {l : List (List RatD)} (ha : RdRSS w A n c l) (hb : RdRSS w B n d l) :
    Calls Tryz.prog 25 #[.slice A n c, .slice B n d] w fun e w' => e = .returned (.bool true) ∧ Bl w w' := by
  have hna := ha.small
  go_enter Tryz.func25, Tryz.ntmps25
  go_wp2
  go_loopw [5] (fun i wr => ∃ k : Nat, k ≤ n ∧ i = .int .i64 (k : Int) ∧ Bl w wr) (fun i _ => n - (intOf i).toNat)
  case atStart => exact ⟨0, Nat.zero_le _, rfl, Bl.refl _⟩
  case round =>
    obtain ⟨k, hk, rfl, hbw⟩ := hrel
    by_cases hkn : k < n
    · obtain ⟨ad, rfl, hlta, hca⟩ := (ha.bl hbw).cells k hkn
      obtain ⟨bd, rfl, hltb, hcb⟩ := (hb.bl hbw).cells k hkn
      obtain ⟨A', n', c', g0, hx⟩ := hca
      obtain ⟨B', n'', c'', p0, hx'⟩ := hcb
      have q1 := Lib.hid hx.len
      have q2 := Lib.hid hx'.len
      obtain rfl : n' = n'' := q1.out.symm.trans q2.out
      clear q1 q2
      rw [Nat.mul_one] at g0 p0
      have hki : (k : Int) < (n : Int) := by omega
      go_wp2
      go_still_tail 8, (by kernel_rfl)
      go_wp2_with fail
      refine (eqRatS_any _ (hx.bl slc) (hx'.bl slc)).mono ?_
      rintro e w1 ⟨rfl, hb1⟩
      have hb2 : Bl w w1 := slc
      go_wp2_with fail
      go_roundw
      case rel => exact ⟨k + 1, by omega, by go_num, hb2⟩
      case measure => simp [intOf]; omega
    · go_wp2
      go_ret
      exact ⟨rfl, slc⟩
/-- A list of lists in memory of one's own: the marks turn nothing but it. -/
theorem markRatSS_z {TI TR TS : TypeId} (w : World) {lo hi n c : Nat} {A : Option Addr} {L : List (List RatD)} {k0 : Int} (h : OwSZ TI TR TS lo hi w A n c L) (hn : n ≤ 8) (hsz : ∀ i, i < n → szL szR (pix L i) ≤ 1048576) (h0 : 0 ≤ k0) (h1 : k0 ≤ 536870912) :
    Calls Tryz.prog 26 #[.slice A n c, .int .i64 k0] w fun e w' => e = .returned (.int .i64 (k0 + (sumTo advL L n : Int))) ∧ RdRSS w' A n c (mkSS L k0) ∧ ∃ bs, (∀ b ∈ bs, lo ≤ b ∧ b < hi) ∧ Ob bs w w' := by
  obtain ⟨a1, a2, a3, a4⟩ := h
  rcases a4 with rfl | ⟨g, cs, fs, rfl, hB, hc, hf, hP, hF⟩
  · obtain rfl := List.length_eq_zero_iff.1 a1
    clear a1 a2 a3 hsz hn
    go_enter Tryz.func26, Tryz.ntmps26
    go_wp2_with fail
    go_loopw [1, 5] (fun v i wr => v = .int .i64 k0 ∧ i = .int .i64 0 ∧ wr = w) (fun _ _ _ => 0)
    case atStart => exact ⟨rfl, rfl, rfl⟩
    case round =>
      obtain ⟨rfl, rfl, rfl⟩ := hrel
      go_wp2_with fail
      go_ret
      exact ⟨by simp [sumTo], RdS.nil _ _ _, [], (fun b hb => by cases hb), Ob.refl _ _⟩
  · have hnd := List.nodup_cons.1 hF.1
    refine (markRatSS_any w hB hf hP a1 hnd.1 hnd.2 hn hsz h0 h1).mono ?_
    rintro e w' ⟨rfl, hB', hP', hO⟩
    exact ⟨rfl, rss_rd hB' (by rw [mkSS_len]; exact a1) a2 a3 hP', _, hF.2, hO⟩

end Go.Proofs.YtggjdgjkdmgjnaaGreat
