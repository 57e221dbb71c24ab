-- merged: Mk Mk2 Mk3
import Derived.Test.YtggjdgjkdmgjnaaGreatRows
import Derived.Test.YtggjdgjkdmgjnaaGreatBase
namespace Go.Proofs.YtggjdgjkdmgjnaaGreat
open Go.RowKit
section


/-- Only the blocks of bs, and what is new, may have turned. -/
structure Ob (bs : List Nat) (w W : World) : Prop where
  os : W.os = w.os
  tape : W.tape = w.tape
  output : W.output = w.output
  size : w.heap.size ≤ W.heap.size
  block : ∀ k, k < w.heap.size → k ∉ bs → W.heap[k]? = w.heap[k]?
section
variable {T : TypeId} {bs cs : List Nat} {w W W2 w0 : World}
theorem Ob.refl (bs : List Nat) (w : World) : Ob bs w w := ⟨rfl, rfl, rfl, Nat.le_refl _, fun _ _ _ => rfl⟩
theorem Ob.trans (h : Ob bs w W) (k : Ob bs W W2) : Ob bs w W2 :=
  ⟨k.os.trans h.os, k.tape.trans h.tape, k.output.trans h.output, Nat.le_trans h.size k.size, fun b hb hn => (k.block b (Nat.lt_of_lt_of_le hb h.size) hn).trans (h.block b hb hn)⟩
theorem Ob.mono (h : Ob bs w W) (hs : ∀ b ∈ bs, b ∈ cs) : Ob cs w W := ⟨h.os, h.tape, h.output, h.size, fun b hb hn => h.block b hb fun hm => hn (hs b hm)⟩
theorem Ob.set (h : Ob bs w W) {g : Nat} (hg : g ∈ bs) (off : Nat) (u : Value) : Ob bs w (W.setCell ⟨g, off, none⟩ u) :=
  ⟨h.os, h.tape, h.output, by simpa [World.setCell] using h.size, fun k hk hn => (Below.heap_setCell W _ u k (by intro e; exact hn (by rw [e]; exact hg))).trans (h.block k hk hn)⟩
theorem Ob.drewN (h : Ob bs w W) (q : Nat) : Ob bs w (W.drewN q) := ⟨h.os, h.tape, h.output, h.size, h.block⟩
theorem Ob.of_bl (h : Bl w W) (bs : List Nat) : Ob bs w W := ⟨h.os, h.tape, h.output, h.size, fun k hk _ => h.block k hk⟩
theorem Bl.ob (h : Bl w0 w) (ho : Ob bs w W) (hb : ∀ b ∈ bs, w0.heap.size ≤ b) : Bl w0 W :=
  ⟨ho.os.trans h.os, ho.tape.trans h.tape, ho.output.trans h.output, Nat.le_trans h.size ho.size, fun k hk => (ho.block k (Nat.lt_of_lt_of_le hk h.size) fun hm => by have := hb k hm; omega).trans (h.block k hk)⟩
theorem Blk.ob {g : Nat} {xs : Array Value} (h : Blk w g T xs) (ho : Ob bs w W) (hg : g ∉ bs) : Blk W g T xs := (ho.block g h.lt hg).trans h
theorem FtI.ob {A : Option Addr} {n c : Nat} {l : List Int} (h : FtI T w A n c l cs) (ho : Ob bs w W) (hd : ∀ b ∈ cs, b ∉ bs) : FtI T W A n c l cs := by
  refine h.keep ho.size fun b hm => ho.block b ?_ (hd b hm)
  rcases h.2 with ⟨_, e⟩ | ⟨g, xs, _, _, hh, _, e⟩
  · rw [e] at hm; cases hm
  · rw [e] at hm; simp at hm; subst hm; exact heap_lt hh
end
/-- The n marks from k on. -/
def marks (k : Int) (n : Nat) : List Int := (List.range n).map fun i : Nat => k + (i : Int)
theorem marks_len (k : Int) (n : Nat) : (marks k n).length = n := by simp [marks]
theorem ix_marks (k : Int) {n i : Nat} (h : i < n) : ix (marks k n) i = k + (i : Int) := by simp [ix, marks, h]
/-- The first i cells hold marks. -/
def Mkd (k : Int) (i : Nat) (cs : Array Value) : Prop := ∀ j, j < i → cs[j]? = some (.int .i64 (k + (j : Int)))
theorem Mkd.step {k : Int} {i : Nat} {cs : Array Value} (h : Mkd k i cs) (hi : i < cs.size) : Mkd k (i + 1) (cs.setIfInBounds i (.int .i64 (k + (i : Int)))) := by
  intro j hj
  rcases Nat.lt_succ_iff_lt_or_eq.1 hj with hj | rfl
  · rw [Array.getElem?_setIfInBounds_ne (by omega)]; exact h j hj
  · simp [hi]

set_option maxHeartbeats 400000 in
theorem markIntS_any {T : TypeId} (w : World) {A : Option Addr} {n c : Nat} {l : List Int} {bs : List Nat} {k0 : Int} (h : FtI T w A n c l bs) (hn : n ≤ 1048576) (h0 : 0 ≤ k0) (h1 : k0 ≤ 1099511627776) :
    Calls Tryz.prog 68 #[.slice A n c, .int .i64 k0] w fun e w' => e = .returned (.int .i64 (k0 + (n : Int))) ∧ FtI T w' A n c (marks k0 n) bs ∧ Ob bs w w' := by
  obtain ⟨hr, hft⟩ := h
  have hcap := hr.cap
  rcases hft with ⟨rfl, rfl⟩ | ⟨g, cs, hn0, rfl, hh, hsz, rfl⟩
  · go_enter Tryz.func68, Tryz.ntmps68
    go_wp2_with fail
    go_loopw [1, 5] (fun v i wr => v = .int .i64 k0 ∧ i = .int .i64 0 ∧ wr = w) (fun _ _ _ => 0)
    case atStart => exact ⟨rfl, rfl, rfl⟩
    case round =>
      obtain ⟨rfl, rfl, rfl⟩ := hrel
      go_wp2_with fail
      go_ret
      exact ⟨by simp, ⟨RdI.nil _ _ _, .inl ⟨rfl, rfl⟩⟩, Ob.refl _ _⟩
  · have hB0 : Blk w g T cs := hh
    clear hh hr
    go_enter Tryz.func68, Tryz.ntmps68
    go_wp2_with fail
    go_loopw [1, 5] (fun v i wr => ∃ (k : Nat) (cs' : Array Value), k ≤ n ∧ i = .int .i64 (k : Int) ∧ v = .int .i64 (k0 + (k : Int)) ∧ Blk wr g T cs' ∧ cs'.size = cs.size ∧ Mkd k0 k cs' ∧ Ob [g] w wr) (fun _ i _ => n - (intOf i).toNat)
    case atStart => exact ⟨0, cs, Nat.zero_le _, rfl, by simp, hB0, rfl, fun j hj => by omega, Ob.refl _ _⟩
    case round =>
      obtain ⟨k, cs', hk, rfl, rfl, hB, hs, hM, hO⟩ := hrel
      have hs := Lib.hid hs; rename_i h_; clear h_
      by_cases hkn : k < n
      · have hki : (k : Int) < (n : Int) := by omega
        obtain ⟨v0, x0⟩ := hB.some (i := k) (by have := hs.out; omega)
        have hfr := hB.frozen k
        go_wp2_with fail
        go_roundw
        case rel => exact ⟨k + 1, _, by omega, by go_num, by go_num, hB.set_ _ _, by simp [hs.out], hM.step (by have := hs.out; omega), hO.set (by simp) _ _⟩
        case measure => simp [intOf]; omega
      · obtain rfl : k = n := by omega
        have hB2 := hB
        go_wp2_with fail
        go_ret
        refine ⟨rfl, ⟨⟨marks_len _ _, hcap, by omega, fun j hj => ⟨_, rfl, hB2.lt, ?_⟩⟩, ?_⟩, hO⟩
        · rw [Addr.add_lit, Nat.zero_add, hB2.cell j, hM j hj, ix_marks k0 hj]
        · exact .inr ⟨g, cs', hn0, rfl, hB2, by have := hs.out; omega, rfl⟩

set_option maxHeartbeats 400000 in
theorem heldIntS_any (w : World) {A : Option Addr} {n c : Nat} {k0 : Int} (h : RdI w A n c (marks k0 n)) (hn : n ≤ 1048576) (h0 : 0 ≤ k0) (h1 : k0 ≤ 1099511627776) :
    Calls Tryz.prog 69 #[.slice A n c, .int .i64 k0] w fun e w' => e = .returned (.int .i64 (k0 + (n : Int))) ∧ ∃ q, w' = w.drewN q := by
  go_enter Tryz.func69, Tryz.ntmps69
  go_wp2_with fail
  go_loopw [1, 5] (fun v i wr => ∃ k : Nat, k ≤ n ∧ i = .int .i64 (k : Int) ∧ v = .int .i64 (k0 + (k : Int)) ∧ ∃ q, wr = w.drewN q) (fun _ i _ => n - (intOf i).toNat)
  case atStart => exact ⟨0, Nat.zero_le _, rfl, by simp, 0, rfl⟩
  case round =>
    obtain ⟨k, hk, rfl, rfl, q, rfl⟩ := hrel
    by_cases hkn : k < n
    · have hki : (k : Int) < (n : Int) := by omega
      obtain ⟨ad, rfl, hlt, hc⟩ := h.at_ hkn
      rw [ix_marks k0 hkn] at hc
      have hne : ((k0 + (k : Int)) != (k0 + (k : Int))) = false := by simp
      go_wp2_with fail
      go_roundw
      case rel => exact ⟨k + 1, by omega, by go_num, by go_num, (by first | exact ⟨_, rfl⟩ | exact ⟨0, rfl⟩ | exact q_drewN ⟨_, rfl⟩ | exact q_drewN (q_drewN ⟨_, rfl⟩))⟩
      case measure => simp [intOf]; omega
    · obtain rfl : k = n := by omega
      go_wp2_with fail
      go_ret
      exact ⟨rfl, (by first | exact ⟨_, rfl⟩ | exact ⟨0, rfl⟩ | exact q_drewN ⟨_, rfl⟩ | exact q_drewN (q_drewN ⟨_, rfl⟩))⟩


end

section


def mkR (k : Int) (r : RatD) : RatD := ⟨k % 3 == 0, marks (k + 1) r.mag.length, marks (k + 1 + (r.mag.length : Int)) r.den.length⟩
def mkP (k : Int) (p : PtD) : PtD := ⟨mkR k p.x, mkR (k + 1 + (szR p.x : Int)) p.y⟩
def adv (p : PtD) : Nat := 2 + szP p
def mkAt (l : List PtD) (k : Int) (i : Nat) : PtD := mkP (k + (sumTo adv l i : Int)) (pix l i)
def mkL (l : List PtD) (k : Int) : List PtD := (List.range l.length).map (mkAt l k)
theorem mkL_len (l : List PtD) (k : Int) : (mkL l k).length = l.length := by simp [mkL]
theorem pix_mkL (l : List PtD) (k : Int) {i : Nat} (h : i < l.length) : pix (mkL l k) i = mkAt l k i := by simp [pix, mkL, h]

theorem nodup_pix {fs : List (List Nat)} (h : fs.flatten.Nodup) {k : Nat} (hk : k < fs.length) : (pix fs k).Nodup := by
  have e : pix fs k = fs[k] := by simp [pix, hk]
  rw [e]
  exact (List.pairwise_flatten.1 h).1 _ (List.getElem_mem hk)
theorem disj_pix {fs : List (List Nat)} (h : fs.flatten.Nodup) {j k : Nat} (hj : j < fs.length) (hk : k < fs.length) (hne : j ≠ k) : ∀ b ∈ pix fs j, b ∉ pix fs k := by
  have ej : pix fs j = fs[j] := by simp [pix, hj]
  have ek : pix fs k = fs[k] := by simp [pix, hk]
  rw [ej, ek]
  intro b hb hb'
  have hp := List.pairwise_iff_getElem.1 (List.pairwise_flatten.1 h).2
  rcases Nat.lt_or_ge j k with hlt | hge
  · exact hp j k hj hk hlt b hb b hb' rfl
  · exact hp k j hk hj (by omega) b hb' b hb rfl
theorem nodup4 {a b c d : List Nat} (h : ((a ++ b) ++ (c ++ d)).Nodup) : (∀ x ∈ b, x ∉ a) ∧ (∀ x ∈ c, x ∉ a) ∧ (∀ x ∈ d, x ∉ a) ∧ (∀ x ∈ c, x ∉ b) ∧ (∀ x ∈ d, x ∉ b) ∧ (∀ x ∈ d, x ∉ c) ∧ (∀ x ∈ a, x ∉ b) ∧ (∀ x ∈ a, x ∉ c) ∧ (∀ x ∈ a, x ∉ d) ∧ (∀ x ∈ b, x ∉ c) ∧ (∀ x ∈ b, x ∉ d) ∧ (∀ x ∈ c, x ∉ d) := by
  obtain ⟨h1, h2, h3⟩ := List.nodup_append.1 h
  obtain ⟨_, _, h4⟩ := List.nodup_append.1 h1
  obtain ⟨_, _, h5⟩ := List.nodup_append.1 h2
  refine ⟨fun x m m' => h4 x m' x m rfl, fun x m m' => h3 x (by simp [m']) x (by simp [m]) rfl, fun x m m' => h3 x (by simp [m']) x (by simp [m]) rfl, fun x m m' => h3 x (by simp [m']) x (by simp [m]) rfl, fun x m m' => h3 x (by simp [m']) x (by simp [m]) rfl, fun x m m' => h5 x m' x m rfl,
    fun x m m' => h4 x m x m' rfl, fun x m m' => h3 x (by simp [m]) x (by simp [m']) rfl, fun x m m' => h3 x (by simp [m]) x (by simp [m']) rfl, fun x m m' => h3 x (by simp [m]) x (by simp [m']) rfl, fun x m m' => h3 x (by simp [m]) x (by simp [m']) rfl, fun x m m' => h5 x m x m' rfl⟩

theorem FtI.lt {T : TypeId} {w : World} {A : Option Addr} {n c : Nat} {l : List Int} {bs : List Nat} (h : FtI T w A n c l bs) : ∀ b ∈ bs, b < w.heap.size := by
  intro b hm
  rcases h.2 with ⟨_, e⟩ | ⟨g, xs, _, _, hh, _, e⟩
  · rw [e] at hm; cases hm
  · rw [e] at hm; simp at hm; subst hm; exact heap_lt hh
theorem FtR.lt {T : TypeId} {w : World} {s : Bool} {A : Option Addr} {n c : Nat} {B : Option Addr} {m d : Nat} {r : RatD} {bs : List Nat} (h : FtR T w s A n c B m d r bs) : ∀ b ∈ bs, b < w.heap.size := by
  obtain ⟨_, b1, b2, h1, h2, rfl⟩ := h
  intro b hb
  rcases List.mem_append.1 hb with hb | hb
  · exact h1.lt b hb
  · exact h2.lt b hb
theorem PtIn.lt {T : TypeId} {w : World} {cs : Array Value} {i : Nat} {p : PtD} {bs : List Nat} (h : PtIn T w cs i p bs) : ∀ b ∈ bs, b < w.heap.size := by
  obtain ⟨s, A, n, c, B, m, d, t, C, j, e, D, k, f, b1, b2, _, h1, h2, rfl⟩ := h
  intro b hb
  rcases List.mem_append.1 hb with hb | hb
  · exact h1.lt b hb
  · exact h2.lt b hb
theorem sumTo_adv (l : List PtD) (k : Nat) : sumTo adv l k = 2 * k + sumTo szP l k := by
  induction k with
  | zero => rfl
  | succ k ih => simp only [sumTo, ih, adv]; omega
theorem mkP_xm {ks : Int} {p : PtD} {n : Nat} (h : p.x.mag.length = n) : (mkP ks p).x.mag = marks (ks + 1) n := by subst h; rfl
theorem mkP_xd {ks : Int} {p : PtD} {n m : Nat} (h : p.x.mag.length = n) (h' : p.x.den.length = m) : (mkP ks p).x.den = marks (ks + 1 + (n : Int)) m := by subst h; subst h'; rfl
theorem mkP_y {ks z : Int} {p : PtD} {n m : Nat} (h : p.x.mag.length = n) (h' : p.x.den.length = m) (hz : z = ks + 1 + (n : Int) + (m : Int)) : (mkP ks p).y = mkR z p.y := by
  subst h; subst h'; subst hz
  show mkR (ks + 1 + (szR p.x : Int)) p.y = _
  congr 1
  unfold szR; omega
theorem mkR_m {z : Int} {r : RatD} {n : Nat} (h : r.mag.length = n) : (mkR z r).mag = marks (z + 1) n := by subst h; rfl
theorem mkR_d {z : Int} {r : RatD} {n m : Nat} (h : r.mag.length = n) (h' : r.den.length = m) : (mkR z r).den = marks (z + 1 + (n : Int)) m := by subst h; subst h'; rfl

set_option maxHeartbeats 1000000 in
theorem markPointS_big {T TP : TypeId} (w : World) {g n c : Nat} {l : List PtD} {cs : Array Value} {fs : List (List Nat)} {k0 : Int} (hB : Blk w g TP cs) (hcs : n * 6 ≤ cs.size) (hP : PtsIn T w cs l n fs) (hl : l.length = n)
    (hg : g ∉ fs.flatten) (hnd : fs.flatten.Nodup) (hn : n ≤ 1048576) (hsz : szL szP l ≤ 4194304) (hpz1 : ∀ k, k < l.length → szP (pix l k) ≤ 1048576) (h0 : 0 ≤ k0) (h1 : k0 ≤ 1073741824) :
    Calls Tryz.prog 16 #[.slice (some ⟨g, 0, none⟩) n c, .int .i64 k0] w fun e w' => e = .returned (.int .i64 (k0 + (sumTo adv l n : Int))) ∧ ∃ cs', Blk w' g TP cs' ∧ cs'.size = cs.size ∧ PtsIn T w' cs' (mkL l k0) n fs ∧ Ob (g :: fs.flatten) w w' := by
  have hl := Lib.hid hl; rename_i h_; clear h_
  go_enter Tryz.func16, Tryz.ntmps16
  go_wp2_with fail
  go_loopw [1, 5] (fun v i wr => ∃ (k : Nat) (cs' : Array Value), k ≤ n ∧ i = .int .i64 (k : Int) ∧ v = .int .i64 (k0 + (sumTo adv l k : Int)) ∧ Blk wr g TP cs' ∧ cs'.size = cs.size ∧ (∀ j, j < n → PtIn T wr cs' (j * 6) (if j < k then mkAt l k0 j else pix l j) (pix fs j)) ∧ Ob (g :: fs.flatten) w wr) (fun _ i _ => n - (intOf i).toNat)
  case atStart => exact ⟨0, cs, Nat.zero_le _, rfl, by simp [sumTo], hB, rfl, fun j hj => by simpa using hP.2 j hj, Ob.refl _ _⟩
  case round =>
    clear hB
    obtain ⟨k, cs', hk, rfl, rfl, hB, hs, hM, hO⟩ := hrel
    have hs := Lib.hid hs; rename_i h_; clear h_
    by_cases hkn : k < n
    · have hki : (k : Int) < (n : Int) := by omega
      have hPk := hM k hkn
      rw [if_neg (by omega)] at hPk
      have hMk : Hid (k0 + (sumTo adv l (k + 1) : Int) = k0 + (sumTo adv l k : Int) + (adv (pix l k) : Int)) := by unfold Hid; simp only [sumTo]; omega
      have hat : Hid (mkAt l k0 k = mkP (k0 + (sumTo adv l k : Int)) (pix l k)) := rfl
      have hks : (0 : Int) ≤ k0 + (sumTo adv l k : Int) := by omega
      have hkb : k0 + (sumTo adv l k : Int) ≤ 1099511627776 - 100000000 := by have a1 := sumTo_adv l k; have a2 := sumTo_le szP l hk; have a3 := hl.out; unfold szL at hsz; rw [a3] at hsz; omega
      generalize k0 + (sumTo adv l k : Int) = ks at *
      have hpz := hpz1 k (by rw [hl.out]; exact hkn)
      generalize pix l k = p at *
      obtain ⟨s, A, n1, c1, B, m1, d1, t, C, n2, c2, D, m2, d2, b1, b2, ⟨x0, x1, x2, x3, x4, x5⟩, ⟨e1, b11, b12, hX1, hX2, r1⟩, ⟨e2, b21, b22, hY1, hY2, r2⟩, hfs⟩ := hPk
      have y0 := (hB.cell (k * 6)).trans x0
      have y1 := (hB.cell (k * 6 + 1)).trans x1
      have y2 := (hB.cell (k * 6 + 2)).trans x2
      have y3 := (hB.cell (k * 6 + 3)).trans x3
      have y4 := (hB.cell (k * 6 + 4)).trans x4
      have y5 := (hB.cell (k * 6 + 5)).trans x5
      have f0 := hB.frozen (k * 6)
      have hs := hs
      have hfl := hP.1
      have hnp := nodup_pix hnd (k := k) (by rw [hfl]; exact hkn)
      have hgk : ∀ b ∈ pix fs k, b ≠ g := fun b hb e => hg (by rw [← e]; exact mem_flatten_pix hb)
      have hsub : ∀ b ∈ pix fs k, b ∈ fs.flatten := fun b hb => mem_flatten_pix hb
      have hdj : ∀ j, j < n → j ≠ k → ∀ b ∈ pix fs j, b ∉ pix fs k := fun j hj hne => disj_pix hnd (by rw [hfl]; exact hj) (by rw [hfl]; exact hkn) hne
      rw [hfs, r1, r2] at hnp hgk hsub
      obtain ⟨q1, q2, q3, q4, q5, q6, q7, q8, q9, q10, q11, q12⟩ := nodup4 hnp
      have gb1 : ∀ b ∈ b11, b ∉ [g] := fun b hb => by have := hgk b (by simp [hb]); simpa using this
      have gb2 : ∀ b ∈ b12, b ∉ [g] := fun b hb => by have := hgk b (by simp [hb]); simpa using this
      have gb3 : ∀ b ∈ b21, b ∉ [g] := fun b hb => by have := hgk b (by simp [hb]); simpa using this
      have gb4 : ∀ b ∈ b22, b ∉ [g] := fun b hb => by have := hgk b (by simp [hb]); simpa using this
      have gg1 : g ∉ b11 := fun hb => hgk g (by simp [hb]) rfl
      have gg2 : g ∉ b12 := fun hb => hgk g (by simp [hb]) rfl
      have gg3 : g ∉ b21 := fun hb => hgk g (by simp [hb]) rfl
      have gg4 : g ∉ b22 := fun hb => hgk g (by simp [hb]) rfl
      have lX1 := Lib.hid hX1.1.len
      have lX2 := Lib.hid hX2.1.len
      have lY1 := Lib.hid hY1.1.len
      have lY2 := Lib.hid hY2.1.len
      have hb1 : n1 + m1 + n2 + m2 ≤ 1048576 := by have a1 := lX1.out; have a2 := lX2.out; have a3 := lY1.out; have a4 := lY2.out; simp only [szP, szR] at hpz; omega
      have hM := Lib.hid hM; rename_i h_; clear h_
      have hdj := Lib.hid hdj; rename_i h_; clear h_
      have hMk := Lib.hid hMk.out; rename_i h_; clear h_
      have hnp := Lib.hid hnp; rename_i h_; clear h_
      have hgk := Lib.hid hgk; rename_i h_; clear h_
      have hsub := Lib.hid hsub; rename_i h_; clear h_
      have hfs := Lib.hid hfs; rename_i h_; clear h_
      have r1 := Lib.hid r1; rename_i h_; clear h_
      have r2 := Lib.hid r2; rename_i h_; clear h_
      have e1 := Lib.hid e1; rename_i h_; clear h_
      have e2 := Lib.hid e2; rename_i h_; clear h_
      have hfl := Lib.hid hfl; rename_i h_; clear h_
      go_wp2_with fail
      have o1 : Ob [g] wr (wr.setCell ⟨g, k * 6, none⟩ (.bool (ks % 3 == 0))) := (Ob.refl _ _).set (by simp) _ _
      have hB1 := hB.set_ (k * 6) (.bool (ks % 3 == 0))
      refine (markIntS_any _ (hX1.ob o1 gb1) (by omega) (by omega) (by omega)).mono ?_
      rintro e w2 ⟨rfl, hX1, p1⟩
      have hB2 := hB1.ob p1 gg1
      have hX2 := (hX2.ob o1 gb2).ob p1 q1
      have hY1 := (hY1.ob o1 gb3).ob p1 q2
      have hY2 := (hY2.ob o1 gb4).ob p1 q3
      have z2 := (hB2.cell (k * 6 + 2)).trans ((Array.getElem?_setIfInBounds_ne (by omega)).trans x2)
      go_wp2_with fail
      refine (markIntS_any _ hX2 (by omega) (by omega) (by omega)).mono ?_
      rintro e w3 ⟨rfl, hX2, p2⟩
      have hB3 := hB2.ob p2 gg2
      have hX1 := hX1.ob p2 q7
      have hY1 := hY1.ob p2 q4
      have hY2 := hY2.ob p2 q5
      have z3 := (hB3.cell (k * 6 + 3)).trans ((Array.getElem?_setIfInBounds_ne (by omega)).trans x3)
      have z4 := (hB3.cell (k * 6 + 4)).trans ((Array.getElem?_setIfInBounds_ne (by omega)).trans x4)
      have f3 := hB3.frozen (k * 6 + 3)
      go_wp2_with fail
      generalize hks3 : ks + 1 + (n1 : Int) + (m1 : Int) = ks3 at *
      have hks3 := Lib.hid hks3; rename_i h_; clear h_
      have o3 : Ob [g] w3 (w3.setCell ⟨g, k * 6 + 3, none⟩ (.bool (ks3 % 3 == 0))) := (Ob.refl _ _).set (by simp) _ _
      have hB4 := hB3.set_ (k * 6 + 3) (.bool (ks3 % 3 == 0))
      have hX1 := hX1.ob o3 gb1
      have hX2 := hX2.ob o3 gb2
      refine (markIntS_any _ (hY1.ob o3 gb3) (by omega) (by have := hks3.out; omega) (by have := hks3.out; omega)).mono ?_
      rintro e w4 ⟨rfl, hY1, p3⟩
      have hB5 := hB4.ob p3 gg3
      have hX1 := hX1.ob p3 q8
      have hX2 := hX2.ob p3 q10
      have hY2 := (hY2.ob o3 gb4).ob p3 q6
      have z5 := (hB5.cell (k * 6 + 5)).trans ((Array.getElem?_setIfInBounds_ne (by omega)).trans ((Array.getElem?_setIfInBounds_ne (by omega)).trans x5))
      have hk3b : ks3 ≤ 1099511627776 - 90000000 := by have := hks3.out; omega
      have hk30 : 0 ≤ ks3 := by have := hks3.out; omega
      go_wp2_with fail
      refine (markIntS_any _ hY2 (by omega) (by omega) (by omega)).mono ?_
      rintro e w5 ⟨rfl, hY2, p4⟩
      have hB6 := hB5.ob p4 gg4
      have hX1 := hX1.ob p4 q9
      have hX2 := hX2.ob p4 q11
      have hY1 := hY1.ob p4 q12
      have oall : Ob (g :: pix fs k) wr w5 := by
        rw [hfs.out, r1.out, r2.out]
        exact (((((o1.mono (by simp)).trans (p1.mono (by intro b hb; simp [hb]))).trans (p2.mono (by intro b hb; simp [hb]))).trans (o3.mono (by simp))).trans (p3.mono (by intro b hb; simp [hb]))).trans (p4.mono (by intro b hb; simp [hb]))
      have hsz2 := hB.lt
      have hs6 : k * 6 + 5 < cs'.size := by have := hs.out; omega
      have hPk : PtIn T w5 ((cs'.setIfInBounds (k * 6) (.bool (ks % 3 == 0))).setIfInBounds (k * 6 + 3) (.bool (ks3 % 3 == 0))) (k * 6) (mkP ks p) (pix fs k) := by
        refine ⟨ks % 3 == 0, A, n1, c1, B, m1, d1, ks3 % 3 == 0, C, n2, c2, D, m2, d2, b11 ++ b12, b21 ++ b22, ⟨?_, ?_, ?_, ?_, ?_, ?_⟩, ⟨rfl, b11, b12, ?_, ?_, rfl⟩, ⟨?_, b21, b22, ?_, ?_, rfl⟩, ?_⟩
        · rw [Array.getElem?_setIfInBounds_ne (by omega)]; simp [Array.getElem?_setIfInBounds] <;> omega
        · rw [Array.getElem?_setIfInBounds_ne (by omega), Array.getElem?_setIfInBounds_ne (by omega)]; exact x1
        · rw [Array.getElem?_setIfInBounds_ne (by omega), Array.getElem?_setIfInBounds_ne (by omega)]; exact x2
        · simp [Array.getElem?_setIfInBounds] <;> omega
        · rw [Array.getElem?_setIfInBounds_ne (by omega), Array.getElem?_setIfInBounds_ne (by omega)]; exact x4
        · rw [Array.getElem?_setIfInBounds_ne (by omega), Array.getElem?_setIfInBounds_ne (by omega)]; exact x5
        · rw [mkP_xm lX1.out]; exact hX1
        · rw [mkP_xd lX1.out lX2.out]; exact hX2
        · rw [mkP_y lX1.out lX2.out hks3.out.symm]; rfl
        · rw [mkP_y lX1.out lX2.out hks3.out.symm, mkR_m lY1.out]; exact hY1
        · rw [mkP_y lX1.out lX2.out hks3.out.symm, mkR_d lY1.out lY2.out]; exact hY2
        · rw [hfs.out, r1.out, r2.out]
      have hall : ∀ j, j < n → PtIn T w5 ((cs'.setIfInBounds (k * 6) (.bool (ks % 3 == 0))).setIfInBounds (k * 6 + 3) (.bool (ks3 % 3 == 0))) (j * 6) (if j < k + 1 then mkAt l k0 j else pix l j) (pix fs j) := by
        intro j hj
        by_cases hjk : j = k
        · subst hjk
          rw [if_pos (by omega), hat.out]
          exact hPk
        · have hold := hM.out j hj
          rw [show (if j < k + 1 then mkAt l k0 j else pix l j) = (if j < k then mkAt l k0 j else pix l j) from by
            by_cases h : j < k
            · rw [if_pos h, if_pos (by omega)]
            · rw [if_neg h, if_neg (by omega)]]
          refine hold.keep (fun q hq => ?_) oall.size fun b hb => oall.block b (hold.lt b hb) ?_
          · rw [Array.getElem?_setIfInBounds_ne (by omega), Array.getElem?_setIfInBounds_ne (by omega)]
          · intro hm
            rcases List.mem_cons.1 hm with rfl | hm
            · exact hg (mem_flatten_pix hb)
            · exact hdj.out j hj hjk b hb hm
      have hnext : Hid (ks3 + 1 + (n2 : Int) + (m2 : Int) = k0 + (sumTo adv l (k + 1) : Int)) := by
        unfold Hid
        rw [hMk.out]
        have a1 := lX1.out; have a2 := lX2.out; have a3 := lY1.out; have a4 := lY2.out; have a5 := hks3.out
        simp only [adv, szP, szR]
        omega
      have hO5 := hO.trans (oall.mono (cs := g :: fs.flatten) (by
        intro b hb
        rcases List.mem_cons.1 hb with rfl | hb
        · simp
        · exact List.mem_cons_of_mem _ (mem_flatten_pix hb)))
      clear hPk hM
      have hall := Lib.hid hall; rename_i h_; clear h_
      go_wp2_with fail
      go_roundw
      case rel => exact ⟨k + 1, _, by omega, by go_num, by rw [hnext.out], hB6, by simp [hs.out], hall.out, hO5⟩
      case measure => simp [intOf]; omega
    · obtain rfl : k = n := by omega
      have hM := Lib.hid hM; rename_i h_; clear h_
      go_wp2_with fail
      go_ret
      refine ⟨rfl, cs', hB, hs.out, ⟨hP.1, fun i hi => ?_⟩, hO⟩
      have := hM.out i hi
      rw [if_pos hi] at this
      rw [pix_mkL _ _ (by rw [hl.out]; exact hi)]
      exact this
theorem markPointS_any {T TP : TypeId} (w : World) {g n c : Nat} {l : List PtD} {cs : Array Value} {fs : List (List Nat)} {k0 : Int} (hB : Blk w g TP cs) (hcs : n * 6 ≤ cs.size) (hP : PtsIn T w cs l n fs) (hl : l.length = n)
    (hg : g ∉ fs.flatten) (hnd : fs.flatten.Nodup) (hn : n ≤ 1048576) (hsz : szL szP l ≤ 1048576) (h0 : 0 ≤ k0) (h1 : k0 ≤ 1073741824) :
    Calls Tryz.prog 16 #[.slice (some ⟨g, 0, none⟩) n c, .int .i64 k0] w fun e w' => e = .returned (.int .i64 (k0 + (sumTo adv l n : Int))) ∧ ∃ cs', Blk w' g TP cs' ∧ cs'.size = cs.size ∧ PtsIn T w' cs' (mkL l k0) n fs ∧ Ob (g :: fs.flatten) w w' :=
  markPointS_big w hB hcs hP hl hg hnd hn (by omega) (fun k hk => Nat.le_trans (szL_at szP l hk) hsz) h0 h1


end

section


set_option maxHeartbeats 1000000 in
theorem heldPointS_big (w : World) {A : Option Addr} {n c : Nat} {l : List PtD} {k0 : Int} (h : RdPS w A n c (mkL l k0)) (hl : l.length = n) (hn : n ≤ 1048576) (hsz : szL szP l ≤ 4194304) (hpz1 : ∀ k, k < l.length → szP (pix l k) ≤ 1048576) (h0 : 0 ≤ k0) (h1 : k0 ≤ 1073741824) :
    Calls Tryz.prog 17 #[.slice A n c, .int .i64 k0] w fun e w' => e = .returned (.int .i64 (k0 + (sumTo adv l n : Int))) ∧ ∃ q, w' = w.drewN q := by
  have hl := Lib.hid hl; rename_i h_; clear h_
  have hb2 : ∀ z : Bool, (z != z) = false := by simp
  go_enter Tryz.func17, Tryz.ntmps17
  go_wp2_with fail
  go_loopw [1, 5] (fun v i wr => ∃ k : Nat, k ≤ n ∧ i = .int .i64 (k : Int) ∧ v = .int .i64 (k0 + (sumTo adv l k : Int)) ∧ ∃ q, wr = w.drewN q) (fun _ i _ => n - (intOf i).toNat)
  case atStart => exact ⟨0, Nat.zero_le _, rfl, by simp [sumTo], 0, rfl⟩
  case round =>
    obtain ⟨k, hk, rfl, rfl, q, rfl⟩ := hrel
    by_cases hkn : k < n
    · have hki : (k : Int) < (n : Int) := by omega
      have hMk : Hid (k0 + (sumTo adv l (k + 1) : Int) = k0 + (sumTo adv l k : Int) + (adv (pix l k) : Int)) := by unfold Hid; simp only [sumTo]; omega
      obtain ⟨ad, rfl, hlt, hat⟩ := h.cells k hkn
      have hpz := hpz1 k (by rw [hl.out]; exact hkn)
      rw [pix_mkL _ _ (by rw [hl.out]; exact hkn)] at hat
      unfold mkAt at hat
      have hks : (0 : Int) ≤ k0 + (sumTo adv l k : Int) := by omega
      have hkb : k0 + (sumTo adv l k : Int) ≤ 1099511627776 - 100000000 := by have a1 := sumTo_adv l k; have a2 := sumTo_le szP l hk; have a3 := hl.out; unfold szL at hsz; rw [a3] at hsz; omega
      generalize k0 + (sumTo adv l k : Int) = ks at *
      generalize pix l k = p at *
      obtain ⟨s, A, n1, c1, B, m1, d1, t, C, n2, c2, D, m2, d2, ⟨x0, x1, x2, x3, x4, x5⟩, hx, hy⟩ := hat
      have lX1 := Lib.hid (show p.x.mag.length = n1 by have := hx.mag.len; rwa [mkP_xm rfl, marks_len] at this)
      have lX2 := Lib.hid (show p.x.den.length = m1 by have := hx.den.len; rwa [mkP_xd rfl rfl, marks_len] at this)
      have lY1 := Lib.hid (show p.y.mag.length = n2 by have := hy.mag.len; rwa [mkP_y rfl rfl rfl, mkR_m rfl, marks_len] at this)
      have lY2 := Lib.hid (show p.y.den.length = m2 by have := hy.den.len; rwa [mkP_y rfl rfl rfl, mkR_d rfl rfl, marks_len] at this)
      have hb1 : n1 + m1 + n2 + m2 ≤ 1048576 := by have a1 := lX1.out; have a2 := lX2.out; have a3 := lY1.out; have a4 := lY2.out; simp only [szP, szR] at hpz; omega
      have vX1 := hx.mag
      have vX2 := hx.den
      have vY1 := hy.mag
      have vY2 := hy.den
      have es := hx.neg
      have et := hy.neg
      rw [mkP_xm lX1.out] at vX1
      rw [mkP_xd lX1.out lX2.out] at vX2
      rw [mkP_y lX1.out lX2.out rfl, mkR_m lY1.out] at vY1
      rw [mkP_y lX1.out lX2.out rfl, mkR_d lY1.out lY2.out] at vY2
      rw [mkP_y lX1.out lX2.out rfl] at et
      obtain rfl : s = (ks % 3 == 0) := es
      obtain rfl : t = ((ks + 1 + (n1 : Int) + (m1 : Int)) % 3 == 0) := et
      clear hx hy hpz
      go_wp2_with fail
      refine (heldIntS_any _ (vX1.drewN _) (by omega) (by omega) (by omega)).mono ?_
      rintro e w2 ⟨rfl, qa, rfl⟩
      go_wp2_with fail
      refine (heldIntS_any _ (vX2.drewN _) (by omega) (by omega) (by omega)).mono ?_
      rintro e w3 ⟨rfl, qb, rfl⟩
      generalize hks3 : ks + 1 + (n1 : Int) + (m1 : Int) = ks3 at *
      have hks3 := Lib.hid hks3; rename_i h_; clear h_
      have hk3b : ks3 ≤ 1099511627776 - 90000000 := by have := hks3.out; omega
      have hk30 : 0 ≤ ks3 := by have := hks3.out; omega
      go_wp2_with fail
      refine (heldIntS_any _ (vY1.drewN _) (by omega) (by omega) (by omega)).mono ?_
      rintro e w4 ⟨rfl, qc, rfl⟩
      go_wp2_with fail
      refine (heldIntS_any _ (vY2.drewN _) (by omega) (by omega) (by omega)).mono ?_
      rintro e w5 ⟨rfl, qd, rfl⟩
      have hnext : Hid (ks3 + 1 + (n2 : Int) + (m2 : Int) = k0 + (sumTo adv l (k + 1) : Int)) := by
        unfold Hid
        rw [hMk.out]
        have a1 := lX1.out; have a2 := lX2.out; have a3 := lY1.out; have a4 := lY2.out; have a5 := hks3.out
        simp only [adv, szP, szR]
        omega
      go_wp2_with fail
      go_roundw
      case rel => exact ⟨k + 1, by omega, by go_num, by rw [hnext.out], _, rfl⟩
      case measure => simp [intOf]; omega
    · obtain rfl : k = n := by omega
      go_wp2_with fail
      go_ret
      exact ⟨rfl, ⟨_, rfl⟩⟩
theorem heldPointS_any (w : World) {A : Option Addr} {n c : Nat} {l : List PtD} {k0 : Int} (h : RdPS w A n c (mkL l k0)) (hl : l.length = n) (hn : n ≤ 1048576) (hsz : szL szP l ≤ 1048576) (h0 : 0 ≤ k0) (h1 : k0 ≤ 1073741824) :
    Calls Tryz.prog 17 #[.slice A n c, .int .i64 k0] w fun e w' => e = .returned (.int .i64 (k0 + (sumTo adv l n : Int))) ∧ ∃ q, w' = w.drewN q :=
  heldPointS_big w h hl hn (by omega) (fun k hk => Nat.le_trans (szL_at szP l hk) hsz) h0 h1

end

end Go.Proofs.YtggjdgjkdmgjnaaGreat
