/- Marks of meshes whose slices have room to spare. -/
import Derived.Test.YtggjdgjkdmgjnaaRows
import Derived.Test.YtggjdgjkdmgjnaaMk4
import Derived.Test.YtggjdgjkdmgjnaaMz
import Derived.Test.YtggjdgjkdmgjnaaBx
namespace Go.Proofs.Ytggjdgjkdmgjnaa

open Go.RowKit
theorem TrsIn.step' {cs : Array Value} {l : List TriD} {k : Nat} (h : TrsIn cs l k) (hcs : k * 5 + 5 ≤ cs.size) :
    TrsIn (((((cs.setIfInBounds (k * 5) (.int .i64 (pix l k).a)).setIfInBounds (k * 5 + 1) (.int .i64 (pix l k).b)).setIfInBounds (k * 5 + 2) (.int .i64 (pix l k).c)).setIfInBounds (k * 5 + 3) (.int .i64 (pix l k).region)).setIfInBounds (k * 5 + 4) (.int .i64 (pix l k).level)) l (k + 1) := by
  intro i hi
  rcases Nat.lt_succ_iff_lt_or_eq.1 hi with hi | rfl
  · have far : ∀ q, q < k * 5 → (((((cs.setIfInBounds (k * 5) (.int .i64 (pix l k).a)).setIfInBounds (k * 5 + 1) (.int .i64 (pix l k).b)).setIfInBounds (k * 5 + 2) (.int .i64 (pix l k).c)).setIfInBounds (k * 5 + 3) (.int .i64 (pix l k).region)).setIfInBounds (k * 5 + 4) (.int .i64 (pix l k).level))[q]? = cs[q]? := by
      intro q hq
      rw [Array.getElem?_setIfInBounds_ne (by omega), Array.getElem?_setIfInBounds_ne (by omega), Array.getElem?_setIfInBounds_ne (by omega), Array.getElem?_setIfInBounds_ne (by omega), Array.getElem?_setIfInBounds_ne (by omega)]
    obtain ⟨h0, h1, h2, h3, h4⟩ := h i hi
    exact ⟨(far _ (by omega)).trans h0, (far _ (by omega)).trans h1, (far _ (by omega)).trans h2, (far _ (by omega)).trans h3, (far _ (by omega)).trans h4⟩
  · unfold TrIn
    refine ⟨?_, ?_, ?_, ?_, ?_⟩ <;> simp [Array.getElem?_setIfInBounds] <;> omega

set_option maxHeartbeats 1000000 in
theorem markTriS_sp {TT : TypeId} (w : World) {g n c : Nat} {cs : Array Value} {k0 : Int} (hB : Blk w g TT cs) (hcs : n * 5 ≤ cs.size) (hn : n ≤ 1048576) (h0 : 0 ≤ k0) (h1 : k0 ≤ 1099511627776) :
    Calls Try.prog 32 #[.slice (some ⟨g, 0, none⟩) n c, .int .i64 k0] w fun e w' => e = .returned (.int .i64 (k0 + 5 * (n : Int))) ∧ ∃ cs', Blk w' g TT cs' ∧ n * 5 ≤ cs'.size ∧ TrsIn cs' (mkTL k0 n) n ∧ Ob [g] w w' := by
  go_enter Try.func32, Try.ntmps32
  go_wp2_with fail
  go_loopw [1, 5] (fun v i wr => ∃ (k : Nat) (cs' : Array Value), k ≤ n ∧ i = .int .i64 (k : Int) ∧ v = .int .i64 (k0 + 5 * (k : Int)) ∧ Blk wr g TT cs' ∧ n * 5 ≤ cs'.size ∧ TrsIn cs' (mkTL k0 n) k ∧ Ob [g] w wr) (fun _ i _ => n - (intOf i).toNat)
  case atStart => exact ⟨0, cs, Nat.zero_le _, rfl, by simp, hB, hcs, fun i hi => by omega, Ob.refl _ _⟩
  case round =>
    clear hB hcs
    obtain ⟨k, cs', hk, rfl, rfl, hB, hs, hM, hO⟩ := hrel
    have hs := Lib.hid hs; rename_i h_; clear h_
    by_cases hkn : k < n
    · have hki : (k : Int) < (n : Int) := by omega
      have hfr := hB.frozen
      have hlt := hB.lt
      obtain ⟨v0, x0⟩ := hB.some (i := k * 5) (by have := hs.out; omega)
      obtain ⟨v1, x1⟩ := hB.some (i := k * 5 + 1) (by have := hs.out; omega)
      obtain ⟨v2, x2⟩ := hB.some (i := k * 5 + 2) (by have := hs.out; omega)
      obtain ⟨v3, x3⟩ := hB.some (i := k * 5 + 3) (by have := hs.out; omega)
      obtain ⟨v4, x4⟩ := hB.some (i := k * 5 + 4) (by have := hs.out; omega)
      have hst := hM.step' (by have := hs.out; omega)
      rw [pix_mkTL _ hkn] at hst
      have hnx : Hid (k0 + 5 * (k : Int) + 1 + 1 + 1 + 1 + 1 = k0 + 5 * ((k + 1 : Nat) : Int)) := by unfold Hid; omega
      have hkb : k0 + 5 * (k : Int) ≤ 1099521627776 := by omega
      have hk0 : 0 ≤ k0 + 5 * (k : Int) := by omega
      generalize k0 + 5 * (k : Int) = ks at *
      have hst := Lib.hid hst; rename_i h_; clear h_
      have hM := Lib.hid hM; rename_i h_; clear h_
      go_wp2_with fail
      go_roundw
      case rel => exact ⟨k + 1, _, by omega, by go_num, by rw [hnx.out], ((((hB.set_ _ _).set_ _ _).set_ _ _).set_ _ _).set_ _ _, by simpa using hs.out, hst.out, ((((hO.set (by simp) _ _).set (by simp) _ _).set (by simp) _ _).set (by simp) _ _).set (by simp) _ _⟩
      case measure => simp [intOf]; omega
    · obtain rfl : k = n := by omega
      go_wp2_with fail
      go_ret
      exact ⟨rfl, cs', hB, hs.out, hM, hO⟩


set_option maxHeartbeats 1000000 in
theorem heldTriS_any (w : World) {A : Option Addr} {n c : Nat} {k0 : Int} (h : RdTS w A n c (mkTL k0 n)) (hn : n ≤ 1048576) (h0 : 0 ≤ k0) (h1 : k0 ≤ 1099511627776) :
    Calls Try.prog 37 #[.slice A n c, .int .i64 k0] w fun e w' => e = .returned (.int .i64 (k0 + 5 * (n : Int))) ∧ Bl w w' := by
  go_enter Try.func37, Try.ntmps37
  go_wp2_with fail
  go_loopw [1, 5] (fun v i wr => ∃ k : Nat, k ≤ n ∧ i = .int .i64 (k : Int) ∧ v = .int .i64 (k0 + 5 * (k : Int)) ∧ Bl w wr) (fun _ i _ => n - (intOf i).toNat)
  case atStart => exact ⟨0, Nat.zero_le _, rfl, by simp, Bl.refl _⟩
  case round =>
    obtain ⟨k, hk, rfl, rfl, hbw⟩ := hrel
    by_cases hkn : k < n
    · have hki : (k : Int) < (n : Int) := by omega
      obtain ⟨ad, rfl, hlt, hat⟩ := (RdTS.bl h hbw).cells k hkn
      rw [pix_mkTL _ hkn] at hat
      have hnx : Hid (k0 + 5 * (k : Int) + 1 + 1 + 1 + 1 + 1 = k0 + 5 * ((k + 1 : Nat) : Int)) := by unfold Hid; omega
      have hkb : k0 + 5 * (k : Int) ≤ 1099521627776 := by omega
      have hk0 : 0 ≤ k0 + 5 * (k : Int) := by omega
      generalize k0 + 5 * (k : Int) = ks at *
      obtain ⟨x0, x1, x2, x3, x4⟩ := hat
      simp only [mkT] at x0 x1 x2 x3 x4
      go_wp2_with fail
      go_roundw
      case rel => exact ⟨k + 1, by omega, by go_num, by rw [hnx.out], slc⟩
      case measure => simp [intOf]; omega
    · obtain rfl : k = n := by omega
      go_wp2_with fail
      go_ret
      exact ⟨rfl, hbw⟩
/-- A mesh in the blocks from lo to hi; its slices may have room to spare; or an empty one. -/
def OwMZ (lo hi : Nat) (w : World) (A : Option Addr) (n c : Nat) (B : Option Addr) (m d : Nat) (x : MeD) : Prop :=
  x.points.length = n ∧ x.tris.length = m ∧ n ≤ c ∧ m ≤ d ∧ n ≤ 1048576 ∧ m ≤ 1048576 ∧ ((n = 0 ∧ m = 0) ∨
    ∃ g g' cs cs' fs, A = some ⟨g, 0, none⟩ ∧ B = some ⟨g', 0, none⟩ ∧ Blk w g 54 cs ∧ Blk w g' 48 cs' ∧ n * 6 ≤ cs.size ∧ m * 5 ≤ cs'.size ∧ PtsIn 3 w cs x.points n fs ∧ TrsIn cs' x.tris m ∧ Fp lo hi (g :: g' :: fs.flatten))
section
variable {lo hi : Nat} {w W : World} {A : Option Addr} {n c : Nat} {B : Option Addr} {m d : Nat} {x : MeD}
theorem OwMZ.rdP (h : OwMZ lo hi w A n c B m d x) : RdPS w A n c x.points := by
  obtain ⟨h1, h2, h3, h4, h5, h6, h7⟩ := h
  rcases h7 with ⟨rfl, rfl⟩ | ⟨g, g', cs, cs', fs, rfl, rfl, a1, a2, a3, a4, a5, a6, a7⟩
  · rw [List.length_eq_zero_iff.1 h1]; exact RdS.nil _ _ _
  · exact a5.rd a1 h1 (by omega) h3
theorem OwMZ.rdT (h : OwMZ lo hi w A n c B m d x) : RdTS w B m d x.tris := by
  obtain ⟨h1, h2, h3, h4, h5, h6, h7⟩ := h
  rcases h7 with ⟨rfl, rfl⟩ | ⟨g, g', cs, cs', fs, rfl, rfl, a1, a2, a3, a4, a5, a6, a7⟩
  · rw [List.length_eq_zero_iff.1 h2]; exact RdS.nil _ _ _
  · exact a6.rd a2 h2 (by omega) h4
theorem OwMZ.bl (h : OwMZ lo hi w A n c B m d x) (hb : Bl w W) : OwMZ lo hi W A n c B m d x := by
  obtain ⟨h1, h2, h3, h4, h5, h6, h7⟩ := h
  refine ⟨h1, h2, h3, h4, h5, h6, ?_⟩
  rcases h7 with h7 | ⟨g, g', cs, cs', fs, rfl, rfl, a1, a2, a3, a4, a5, a6, a7⟩
  · exact .inl h7
  · refine .inr ⟨g, g', cs, cs', fs, rfl, rfl, a1.bl hb, a2.bl hb, a3, a4, a5.bl hb fun b hm => ?_, a6, a7⟩
    obtain ⟨l, hl', hb'⟩ := List.mem_flatten.1 hm
    obtain ⟨i, hi, rfl⟩ := List.getElem_of_mem hl'
    exact (a5.2 i (by rw [← a5.1]; exact hi)).lt b (by simpa [pix, hi] using hb')
theorem OwMZ.low {lo' hi' : Nat} (h : OwMZ lo hi w A n c B m d x) (h1 : lo' ≤ lo) (h2 : hi ≤ hi') : OwMZ lo' hi' w A n c B m d x := by
  obtain ⟨b1, b2, b3, b4, b5, b6, h7⟩ := h
  refine ⟨b1, b2, b3, b4, b5, b6, ?_⟩
  rcases h7 with h7 | ⟨g, g', cs, cs', fs, rfl, rfl, a1, a2, a3, a4, a5, a6, a7⟩
  · exact .inl h7
  · exact .inr ⟨g, g', cs, cs', fs, rfl, rfl, a1, a2, a3, a4, a5, a6, a7.mono h1 h2⟩
theorem OwMZ.keep (h : OwMZ lo hi w A n c B m d x) (hs : w.heap.size ≤ W.heap.size) (hk : ∀ b, lo ≤ b → b < hi → b < w.heap.size → W.heap[b]? = w.heap[b]?) : OwMZ lo hi W A n c B m d x := by
  obtain ⟨b1, b2, b3, b4, b5, b6, h7⟩ := h
  refine ⟨b1, b2, b3, b4, b5, b6, ?_⟩
  rcases h7 with h7 | ⟨g, g', cs, cs', fs, rfl, rfl, a1, a2, a3, a4, a5, a6, a7⟩
  · exact .inl h7
  · have hg := a7.2 g (by simp)
    have hg' := a7.2 g' (by simp)
    refine .inr ⟨g, g', cs, cs', fs, rfl, rfl, (hk g hg.1 hg.2 a1.lt).trans a1, (hk g' hg'.1 hg'.2 a2.lt).trans a2, a3, a4, ⟨a5.1, fun i hi => (a5.2 i hi).keep (fun _ _ => rfl) hs fun b hb => ?_⟩, a6, a7⟩
    have hm := a7.2 b (List.mem_cons_of_mem _ (List.mem_cons_of_mem _ (mem_flatten_pix hb)))
    exact hk b hm.1 hm.2 ((a5.2 i hi).lt b hb)
theorem OwMZ.set (h : OwMZ lo hi w A n c B m d x) {q : Addr} (hq : q.block < lo ∨ hi ≤ q.block) (u : Value) : OwMZ lo hi (w.setCell q u) A n c B m d x :=
  h.keep (by simp) fun b h1 h2 _ => Below.heap_setCell w q u b (by omega)
end
set_option maxHeartbeats 1000000 in
theorem markPointS_nil (w : World) {A : Option Addr} {c : Nat} {k0 : Int} (_h0 : 0 ≤ k0) :
    Calls Try.prog 13 #[.slice A 0 c, .int .i64 k0] w fun e w' => e = .returned (.int .i64 k0) ∧ Bl w w' := by
  go_enter Try.func13, Try.ntmps13
  go_wp2_with fail
  go_loopw [1, 5] (fun v i wr => v = .int .i64 k0 ∧ i = .int .i64 0 ∧ wr = w) (fun _ _ _ => 0)
  case atStart => exact ⟨rfl, rfl, rfl⟩
  case round =>
    obtain ⟨rfl, rfl, rfl⟩ := hrel
    go_wp2_with fail
    go_ret
    exact ⟨rfl, Bl.refl _⟩
set_option maxHeartbeats 1000000 in
theorem markTriS_nil (w : World) {A : Option Addr} {c : Nat} {k0 : Int} (_h0 : 0 ≤ k0) :
    Calls Try.prog 32 #[.slice A 0 c, .int .i64 k0] w fun e w' => e = .returned (.int .i64 k0) ∧ Bl w w' := by
  go_enter Try.func32, Try.ntmps32
  go_wp2_with fail
  go_loopw [1, 5] (fun v i wr => v = .int .i64 k0 ∧ i = .int .i64 0 ∧ wr = w) (fun _ _ _ => 0)
  case atStart => exact ⟨rfl, rfl, rfl⟩
  case round =>
    obtain ⟨rfl, rfl, rfl⟩ := hrel
    go_wp2_with fail
    go_ret
    exact ⟨rfl, Bl.refl _⟩
set_option maxHeartbeats 1000000 in
theorem markMesh_x (w : World) {lo hi : Nat} {A : Option Addr} {n c : Nat} {B : Option Addr} {m d : Nat} {x : MeD} {k0 : Int} (h : OwMZ lo hi w A n c B m d x) (hsz : szL szP x.points ≤ 1048576) (h0 : 0 ≤ k0) (h1 : k0 ≤ 1073741824) :
    Calls Try.prog 12 #[.agg #[.slice A n c, .slice B m d], .int .i64 k0] w fun e w' => e = .returned (.int .i64 (k0 + (sumTo adv x.points n : Int) + 5 * (m : Int))) ∧ RdPS w' A n c (mkL x.points k0) ∧ RdTS w' B m d (mkTL (k0 + (sumTo adv x.points n : Int)) m) ∧ ∃ bs, (∀ b ∈ bs, lo ≤ b ∧ b < hi) ∧ Ob bs w w' := by
  obtain ⟨b1, b2, b3, b4, b5, b6, h7⟩ := h
  have hadv := adv_le b1 hsz
  rcases h7 with ⟨rfl, rfl⟩ | ⟨g, g', cs, cs', fs, rfl, rfl, a1, a2, a3, a4, a5, a6, a7⟩
  · have hP : OwPZ 3 54 lo hi w A 0 c x.points := ⟨b1, b3, b5, .inl rfl⟩
    have hl0 : Hid (x.points = []) := List.length_eq_zero_iff.1 b1
    clear b1 b2 hadv
    go_enter Try.func12, Try.ntmps12
    go_wp2_with fail
    have hbl := (Bl.refl w).alloc (.cells #[.slice A 0 c, .slice B 0 d] 31)
    refine (markPointS_nil _ h0).mono ?_
    rintro e w2 ⟨rfl, hb2⟩
    have hx : Blk w2 w.heap.size 31 #[.slice A 0 c, .slice B 0 d] := (Blk.new _ _ _).bl hb2
    have hbw : Bl w w2 := hbl.next hb2
    obtain ⟨i0, i1⟩ := bx2 hx
    go_wp2_with fail
    refine (markTriS_nil _ h0).mono ?_
    rintro e w3 ⟨rfl, hb3⟩
    go_wp2_with fail
    go_ret
    rw [hl0.out]
    exact ⟨by simp [sumTo], RdS.nil _ _ _, RdS.nil _ _ _, [], fun b hb => by simp at hb, Ob.of_bl (hbw.next hb3) _⟩
  · have hnd := List.nodup_cons.1 a7.1
    have hnd2 := List.nodup_cons.1 hnd.2
    have hg : g ∉ fs.flatten := fun hm => hnd.1 (List.mem_cons_of_mem _ hm)
    have hgg : g' ≠ g := fun e => hnd.1 (by rw [e]; simp)
    have hgl := a1.lt
    have hgl' := a2.lt
    have hfl : ∀ b ∈ fs.flatten, b < w.heap.size := by
      intro b hm
      obtain ⟨l, hl', hb'⟩ := List.mem_flatten.1 hm
      obtain ⟨i, hi, rfl⟩ := List.getElem_of_mem hl'
      exact (a5.2 i (by rw [← a5.1]; exact hi)).lt b (by simpa [pix, hi] using hb')
    have hb1 := Lib.hid b1; clear b1
    have hk : Hid (k0 + (sumTo adv x.points n : Int) ≤ 1099511627776) := by unfold Hid; omega
    have hk0 : Hid (0 ≤ k0 + (sumTo adv x.points n : Int)) := by unfold Hid; omega
    go_enter Try.func12, Try.ntmps12
    go_wp2_with fail
    have hbl := (Bl.refl w).alloc (.cells #[.slice (some ⟨g, 0, none⟩) n c, .slice (some ⟨g', 0, none⟩) m d] 31)
    refine (markPointS_any _ (a1.bl hbl) a3 (a5.bl hbl hfl) hb1.out hg hnd2.2 b5 hsz h0 h1).mono ?_
    rintro e w2 ⟨rfl, cs2, hB2, hc2, hP2, ho2⟩
    have hnb : w.heap.size ∉ g :: fs.flatten := by
      intro hm
      rcases List.mem_cons.1 hm with e | hm
      · omega
      · have := hfl _ hm; omega
    have q0 := ho2.cellOf (o := 0) (show w.heap.size < _ by simp) hnb
    have q1 := ho2.cellOf (o := 1) (show w.heap.size < _ by simp) hnb
    have hB3 := (a2.bl hbl).ob ho2 (by
      intro hm
      rcases List.mem_cons.1 hm with e | hm
      · exact hgg e
      · exact hnd2.1 hm)
    have hR2 := hP2.rd hB2 (by rw [mkL_len]; exact hb1.out) (by omega) b3
    clear hc2 a1 a5
    go_wp2_with fail
    refine (markTriS_sp _ hB3 a4 b6 hk0.out hk.out).mono ?_
    rintro e w3 ⟨rfl, cs3, hB4, hc3, hT, ho3⟩
    have hB2' := hB2.ob ho3 (by simpa using fun e : g = g' => hgg e.symm)
    have hP3 : PtsIn 3 w3 cs2 (mkL x.points k0) n fs := ⟨hP2.1, fun i hi => (hP2.2 i hi).keep (fun _ _ => rfl) ho3.size fun b hb => ho3.block b ((hP2.2 i hi).lt b hb) fun hm => by
      have : b = g' := by simpa using hm
      subst this
      exact hnd2.1 (mem_flatten_pix hb)⟩
    go_wp2_with fail
    go_ret
    refine ⟨rfl, hP3.rd hB2' (by rw [mkL_len]; exact hb1.out) (by omega) b3, hT.rd hB4 (by simp [mkTL]) (by omega) b4, g :: g' :: fs.flatten, a7.2, ?_⟩
    exact (Ob.of_bl hbl _).trans ((ho2.mono (by intro b hb; rcases List.mem_cons.1 hb with rfl | hb <;> simp [*])).trans (ho3.mono (by simp)))
set_option maxHeartbeats 1000000 in
theorem heldMesh_any (w : World) {A : Option Addr} {n c : Nat} {B : Option Addr} {m d : Nat} {l : List PtD} {k0 : Int} (h : RdPS w A n c (mkL l k0)) (k : RdTS w B m d (mkTL (k0 + (sumTo adv l n : Int)) m)) (hl : l.length = n) (hn : n ≤ 1048576) (hm : m ≤ 1048576) (hsz : szL szP l ≤ 1048576) (h0 : 0 ≤ k0) (h1 : k0 ≤ 1073741824) :
    Calls Try.prog 17 #[.agg #[.slice A n c, .slice B m d], .int .i64 k0] w fun e w' => e = .returned (.int .i64 (k0 + (sumTo adv l n : Int) + 5 * (m : Int))) ∧ Bl w w' := by
  have hadv := adv_le hl hsz
  have hl := Lib.hid hl; rename_i h_; clear h_
  go_enter Try.func17, Try.ntmps17
  go_wp2_with fail
  refine (heldPointS_any _ (RdPS.bl h slc) hl.out hn hsz h0 h1).mono ?_
  rintro e w2 ⟨rfl, hq⟩
  have hx : Blk w2 w.heap.size 31 #[.slice A n c, .slice B m d] := by obtain ⟨q, rfl⟩ := hq; exact (Blk.new _ _ _).bl ((Bl.refl _).drewN q)
  have hb2 : Bl w w2 := by obtain ⟨q, rfl⟩ := hq; exact ((Bl.refl w).alloc _).drewN q
  clear hq
  have hp : ¬ k0 + (sumTo adv l n : Int) < 0 := by omega
  have hp2 : k0 + (sumTo adv l n : Int) ≤ 1099511627776 := by omega
  have hp3 : 0 ≤ k0 + (sumTo adv l n : Int) := by omega
  obtain ⟨i0, i1⟩ := bx2 hx
  go_wp2_with fail
  refine (heldTriS_any _ (RdTS.bl k hb2) hm hp3 hp2).mono ?_
  rintro e w3 ⟨rfl, hb3⟩
  have hp4 : ¬ k0 + (sumTo adv l n : Int) + 5 * (m : Int) < 0 := by omega
  go_wp2_with fail
  go_ret
  exact ⟨rfl, hb2.next hb3⟩

end Go.Proofs.Ytggjdgjkdmgjnaa
