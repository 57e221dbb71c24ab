/- What the laws about lists of points and fractions share: memory between two block numbers, and its marks. -/
import Derived.Test.YtggjdgjkdmgjnaaGreatRows
import Derived.Test.YtggjdgjkdmgjnaaGreatMk3
import Derived.Test.YtggjdgjkdmgjnaaGreatMr1
import Derived.Test.YtggjdgjkdmgjnaaGreatEqL
namespace Go.Proofs.YtggjdgjkdmgjnaaGreat

open Go.RowKit
theorem len24_ofFrac (x : Int) (D : Nat) : (ofFrac x D).mag.length ≤ 24 ∧ (ofFrac x D).den.length ≤ 24 := by
  unfold ofFrac
  split
  · rename_i h
    refine ⟨?_, by show (ints _).length ≤ 24; rw [ints_len]; exact h.2⟩
    show (ints (dig (x / ((Nat.gcd x.natAbs D : Nat) : Int)).natAbs)).length ≤ 24
    rw [ints_len]
    have e : (x / ((Nat.gcd x.natAbs D : Nat) : Int)).natAbs = x.natAbs / Nat.gcd x.natAbs D := by
      rw [Int.natAbs_ediv_of_dvd (Int.ofNat_dvd_left.2 (Nat.gcd_dvd_left _ _))]
      rfl
    rw [e]
    exact h.1
  · exact ⟨by decide, by decide⟩
theorem len24_zR : zR.mag.length ≤ 24 ∧ zR.den.length ≤ 24 := ⟨by decide, by decide⟩
theorem len24_addR (r s : RatD) : (addR r s).mag.length ≤ 24 ∧ (addR r s).den.length ≤ 24 := by
  unfold addR
  split
  · exact len24_ofFrac _ _
  · exact len24_zR
/-- A fraction in the blocks from lo to hi. -/
def OwX (T : TypeId) (lo hi : Nat) (w : World) (s : Bool) (A : Option Addr) (n c : Nat) (B : Option Addr) (m d : Nat) (r : RatD) : Prop :=
  ∃ bs, FtR T w s A n c B m d r bs ∧ Fp lo hi bs
section
variable {T : TypeId} {lo hi b0 : Nat} {w W : World} {s : Bool} {A : Option Addr} {n c : Nat} {B : Option Addr} {m d : Nat} {r : RatD} {bs : List Nat}
theorem OwX.of (h : OwR T b0 w s A n c B m d r) : OwX T b0 w.heap.size w s A n c B m d r := h
theorem OwX.rd (h : OwX T lo hi w s A n c B m d r) : RdR w s A n c B m d r := by
  obtain ⟨bs, h, _⟩ := h
  exact h.rd
theorem OwX.bl (h : OwX T lo hi w s A n c B m d r) (hb : Bl w W) : OwX T lo hi W s A n c B m d r := by
  obtain ⟨bs, h, hf⟩ := h
  exact ⟨bs, h.bl hb, hf⟩
theorem OwX.ob (h : OwX T lo hi w s A n c B m d r) (ho : Ob bs w W) (hd : ∀ b ∈ bs, b < lo ∨ hi ≤ b) : OwX T lo hi W s A n c B m d r := by
  obtain ⟨cs, h, hf⟩ := h
  refine ⟨cs, h.keep ho.size fun b hb => ho.block b (h.lt b hb) fun hm => ?_, hf⟩
  have h1 := hf.2 b hb
  have h2 := hd b hm
  omega
end

/-- A list of points in the blocks from lo to hi. -/
def OwPZ (TI TP : TypeId) (lo hi : Nat) (w : World) (A : Option Addr) (n c : Nat) (l : List PtD) : Prop :=
  l.length = n ∧ n ≤ c ∧ n ≤ 1048576 ∧ (n = 0 ∨ ∃ g cs fs, A = some ⟨g, 0, none⟩ ∧ Blk w g TP cs ∧ n * 6 ≤ cs.size ∧ PtsIn TI w cs l n fs ∧ Fp lo hi (g :: fs.flatten))
section
variable {TI TP : TypeId} {lo hi lo' hi' : Nat} {w W : World} {A : Option Addr} {n c : Nat} {l : List PtD} {bs : List Nat}
theorem OwPZ.rd (h : OwPZ TI TP lo hi w A n c l) : RdPS w A n c l := by
  obtain ⟨h1, h2, h3, h4⟩ := h
  rcases h4 with h4 | ⟨g, cs, fs, rfl, hB, hc, hP, hF⟩
  · subst h4
    obtain rfl := List.length_eq_zero_iff.1 h1
    exact RdS.nil _ _ _
  · exact hP.rd hB h1 (by omega) h2
theorem OwPZ.keep (h : OwPZ TI TP lo hi w A n c l) (hs : w.heap.size ≤ W.heap.size) (hk : ∀ b, lo ≤ b → b < hi → b < w.heap.size → W.heap[b]? = w.heap[b]?) : OwPZ TI TP lo hi W A n c l := by
  obtain ⟨h1, h2, h3, h4⟩ := h
  refine ⟨h1, h2, h3, ?_⟩
  rcases h4 with h4 | ⟨g, cs, fs, rfl, hB, hc, hP, hF⟩
  · exact .inl h4
  · have hg := hF.2 g (by simp)
    refine .inr ⟨g, cs, fs, rfl, (hk g hg.1 hg.2 hB.lt).trans hB, hc, ⟨hP.1, fun i hi => (hP.2 i hi).keep (fun _ _ => rfl) hs fun b hb => ?_⟩, hF⟩
    have hm := hF.2 b (List.mem_cons_of_mem _ (mem_flatten_pix hb))
    exact hk b hm.1 hm.2 ((hP.2 i hi).lt b hb)
theorem OwPZ.bl (h : OwPZ TI TP lo hi w A n c l) (hb : Bl w W) : OwPZ TI TP lo hi W A n c l := h.keep hb.size fun b _ _ hl => Below.block hb b hl
theorem OwPZ.ob (h : OwPZ TI TP lo hi w A n c l) (ho : Ob bs w W) (hd : ∀ b ∈ bs, b < lo ∨ hi ≤ b) : OwPZ TI TP lo hi W A n c l :=
  h.keep ho.size fun b h1 h2 hl => ho.block b hl fun hm => by have := hd b hm; omega
theorem OwPZ.low (h : OwPZ TI TP lo hi w A n c l) (h1 : lo' ≤ lo) (h2 : hi ≤ hi') : OwPZ TI TP lo' hi' w A n c l := by
  obtain ⟨a1, a2, a3, a4⟩ := h
  refine ⟨a1, a2, a3, ?_⟩
  rcases a4 with h4 | ⟨g, cs, fs, rfl, hB, hc, hP, hF⟩
  · exact .inl h4
  · exact .inr ⟨g, cs, fs, rfl, hB, hc, hP, hF.mono h1 h2⟩
end
theorem toPointS_z (w : World) {A : Option Addr} {n c : Nat} {l : List PtD} (h : RdPS w A n c l) (hn : szL szP l ≤ 1048576) :
    Calls Tryz.prog 13 #[.slice A n c] w fun e w' => ∃ g, e = .returned (.slice (some ⟨g, 0, none⟩) n n) ∧ OwPZ 3 45 w.heap.size w'.heap.size w' (some ⟨g, 0, none⟩) n n l ∧ Bl w w' := by
  refine (toPointS_any w h hn).mono ?_
  rintro e w' ⟨g, cs, fs, rfl, hg, hB, hc, hP, hF, hb⟩
  refine ⟨g, rfl, ⟨h.len, Nat.le_refl _, ?_, .inr ⟨g, cs, fs, rfl, hB, by omega, hP, ?_⟩⟩, hb⟩
  · have := h.len
    unfold szL at hn
    omega
  · have := hB.lt
    refine ⟨List.nodup_cons.2 ⟨fun hm => by have := hF.2 g hm; omega, hF.1⟩, fun b hm => ?_⟩
    rcases List.mem_cons.1 hm with rfl | hm
    · omega
    · have := hF.2 b hm; omega
theorem adv_le {l : List PtD} {n : Nat} (h : l.length = n) (hsz : szL szP l ≤ 1048576) : sumTo adv l n ≤ 4194304 := by
  have a1 := sumTo_adv l n
  unfold szL at hsz
  rw [h] at hsz
  omega
set_option maxHeartbeats 400000 in
theorem markPointS_z {TI TP : TypeId} (w : World) {lo hi n c : Nat} {A : Option Addr} {l : List PtD} {k0 : Int} (h : OwPZ TI TP lo hi w A n c l) (hsz : szL szP l ≤ 1048576) (h0 : 0 ≤ k0) (h1 : k0 ≤ 1073741824) :
    Calls Tryz.prog 16 #[.slice A n c, .int .i64 k0] w fun e w' => e = .returned (.int .i64 (k0 + (sumTo adv l n : Int))) ∧ RdPS w' A n c (mkL l k0) ∧ ∃ bs, (∀ b ∈ bs, lo ≤ b ∧ b < hi) ∧ Ob bs w w' := by
  obtain ⟨a1, a2, a3, a4⟩ := h
  rcases a4 with rfl | ⟨g, cs, fs, rfl, hB, hc, hP, hF⟩
  · obtain rfl := List.length_eq_zero_iff.1 a1
    clear a1 a2 a3 hsz
    go_enter Tryz.func16, Tryz.ntmps16
    go_wp2_with fail
    go_loopw [1, 5] (fun v i wr => v = .int .i64 k0 ∧ i = .int .i64 0 ∧ wr = w) (fun _ _ _ => 0)
    case atStart => exact ⟨rfl, rfl, rfl⟩
    case round =>
      obtain ⟨rfl, rfl, rfl⟩ := hrel
      go_wp2_with fail
      go_ret
      exact ⟨by simp [sumTo], RdS.nil _ _ _, [], (fun b hb => by cases hb), Ob.refl _ _⟩
  · have hnd := List.nodup_cons.1 hF.1
    refine (markPointS_any w hB hc hP a1 hnd.1 hnd.2 a3 hsz h0 h1).mono ?_
    rintro e w' ⟨rfl, cs', hB', hc', hP', hO⟩
    exact ⟨rfl, hP'.rd hB' (by rw [mkL_len]; exact a1) (by omega) a2, _, hF.2, hO⟩
set_option maxHeartbeats 400000 in
theorem markPointS_zb {TI TP : TypeId} (w : World) {lo hi n c : Nat} {A : Option Addr} {l : List PtD} {k0 : Int} (h : OwPZ TI TP lo hi w A n c l) (hsz : szL szP l ≤ 4194304) (hpz1 : ∀ k, k < l.length → szP (pix l k) ≤ 1048576) (h0 : 0 ≤ k0) (h1 : k0 ≤ 1073741824) :
    Calls Tryz.prog 16 #[.slice A n c, .int .i64 k0] w fun e w' => e = .returned (.int .i64 (k0 + (sumTo adv l n : Int))) ∧ RdPS w' A n c (mkL l k0) ∧ ∃ bs, (∀ b ∈ bs, lo ≤ b ∧ b < hi) ∧ Ob bs w w' := by
  obtain ⟨a1, a2, a3, a4⟩ := h
  rcases a4 with rfl | ⟨g, cs, fs, rfl, hB, hc, hP, hF⟩
  · obtain rfl := List.length_eq_zero_iff.1 a1
    clear a1 a2 a3 hsz hpz1
    go_enter Tryz.func16, Tryz.ntmps16
    go_wp2_with fail
    go_loopw [1, 5] (fun v i wr => v = .int .i64 k0 ∧ i = .int .i64 0 ∧ wr = w) (fun _ _ _ => 0)
    case atStart => exact ⟨rfl, rfl, rfl⟩
    case round =>
      obtain ⟨rfl, rfl, rfl⟩ := hrel
      go_wp2_with fail
      go_ret
      exact ⟨by simp [sumTo], RdS.nil _ _ _, [], (fun b hb => by cases hb), Ob.refl _ _⟩
  · have hnd := List.nodup_cons.1 hF.1
    refine (markPointS_big w hB hc hP a1 hnd.1 hnd.2 a3 hsz hpz1 h0 h1).mono ?_
    rintro e w' ⟨rfl, cs', hB', hc', hP', hO⟩
    exact ⟨rfl, hP'.rd hB' (by rw [mkL_len]; exact a1) (by omega) a2, _, hF.2, hO⟩
end Go.Proofs.YtggjdgjkdmgjnaaGreat
