/- The law about Corners, walked. -/
import Derived.Test.YtggjdgjkdmgjnaaRows
import Derived.Test.YtggjdgjkdmgjnaaCo1
import Derived.Test.YtggjdgjkdmgjnaaMk4
import Derived.Test.YtggjdgjkdmgjnaaSzM
import Derived.Test.YtggjdgjkdmgjnaaEqM
import Derived.Test.YtggjdgjkdmgjnaaToM
import Derived.Test.YtggjdgjkdmgjnaaMz
namespace Go.Proofs.Ytggjdgjkdmgjnaa

open Go.RowKit

theorem OwM.low {b0 b1 : Nat} {w : World} {A : Option Addr} {n c : Nat} {B : Option Addr} {m d : Nat} {x : MeD} (h : OwM b1 w A n c B m d x) (hb : b0 ≤ b1) : OwM b0 w A n c B m d x := by
  obtain ⟨g, g', cs, cs', fs, e1, e2, h1, h2, h3, h4, h5, h6, h7, h8, h9, h10, h11, h12, h13, h14, h15, h16⟩ := h
  exact ⟨g, g', cs, cs', fs, e1, e2, by omega, by omega, h3, h4, h5, h6, h7, h8, h9, h10, h11, h12, h13, h14, h15.mono hb (Nat.le_refl _), h16⟩
theorem OwM.rdP {b0 : Nat} {w : World} {A : Option Addr} {n c : Nat} {B : Option Addr} {m d : Nat} {x : MeD} (h : OwM b0 w A n c B m d x) : RdPS w A n c x.points := by
  obtain ⟨g, g', cs, cs', fs, rfl, rfl, h1, h2, h3, h4, h5, h6, h7, h8, h9, h10, h11, h12, h13, h14, h15, h16⟩ := h
  exact h13.rd h9 h3 (by omega) h5
theorem OwM.rdT {b0 : Nat} {w : World} {A : Option Addr} {n c : Nat} {B : Option Addr} {m d : Nat} {x : MeD} (h : OwM b0 w A n c B m d x) : RdTS w B m d x.tris := by
  obtain ⟨g, g', cs, cs', fs, rfl, rfl, h1, h2, h3, h4, h5, h6, h7, h8, h9, h10, h11, h12, h13, h14, h15, h16⟩ := h
  exact h14.rd h10 h4 (by omega) h6
/-- A mesh between two block numbers. -/
def OwMX (lo hi : Nat) (w : World) (A : Option Addr) (n c : Nat) (B : Option Addr) (m d : Nat) (x : MeD) : Prop :=
  ∃ g g' cs cs' fs, A = some ⟨g, 0, none⟩ ∧ B = some ⟨g', 0, none⟩ ∧ lo ≤ g ∧ lo ≤ g' ∧ g < hi ∧ g' < hi ∧ x.points.length = n ∧ x.tris.length = m ∧ n ≤ c ∧ m ≤ d ∧ n ≤ 1048576 ∧ m ≤ 1048576 ∧
    Blk w g 54 cs ∧ Blk w g' 48 cs' ∧ cs.size = n * 6 ∧ cs'.size = m * 5 ∧ PtsIn 3 w cs x.points n fs ∧ TrsIn cs' x.tris m ∧ Fp lo hi fs.flatten ∧ g ∉ fs.flatten ∧ g' ∉ fs.flatten ∧ g ≠ g'
section
variable {lo hi : Nat} {w W : World} {A : Option Addr} {n c : Nat} {B : Option Addr} {m d : Nat} {x : MeD}
theorem OwMX.of (h : OwM lo w A n c B m d x) : OwMX lo w.heap.size w A n c B m d x := by
  obtain ⟨g, g', cs, cs', fs, e1, e2, h1, h2, h3, h4, h5, h6, h7, h8, h9, h10, h11, h12, h13, h14, h15, h16⟩ := h
  exact ⟨g, g', cs, cs', fs, e1, e2, h1, h2, h9.lt, h10.lt, h3, h4, h5, h6, h7, h8, h9, h10, h11, h12, h13, h14, h15, h16⟩
theorem OwMX.ow (h : OwMX lo hi w A n c B m d x) (hh : hi ≤ w.heap.size) : OwM lo w A n c B m d x := by
  obtain ⟨g, g', cs, cs', fs, e1, e2, h1, h2, _, _, h3, h4, h5, h6, h7, h8, h9, h10, h11, h12, h13, h14, h15, h16⟩ := h
  exact ⟨g, g', cs, cs', fs, e1, e2, h1, h2, h3, h4, h5, h6, h7, h8, h9, h10, h11, h12, h13, h14, h15.mono (Nat.le_refl _) hh, h16⟩
theorem OwMX.rdP (h : OwMX lo hi w A n c B m d x) : RdPS w A n c x.points := by
  obtain ⟨g, g', cs, cs', fs, rfl, rfl, h1, h2, _, _, h3, h4, h5, h6, h7, h8, h9, h10, h11, h12, h13, h14, h15, h16⟩ := h
  exact h13.rd h9 h3 (by omega) h5
theorem OwMX.rdT (h : OwMX lo hi w A n c B m d x) : RdTS w B m d x.tris := by
  obtain ⟨g, g', cs, cs', fs, rfl, rfl, h1, h2, _, _, h3, h4, h5, h6, h7, h8, h9, h10, h11, h12, h13, h14, h15, h16⟩ := h
  exact h14.rd h10 h4 (by omega) h6
theorem OwMX.bl (h : OwMX lo hi w A n c B m d x) (hb : Bl w W) : OwMX lo hi W A n c B m d x := by
  obtain ⟨g, g', cs, cs', fs, e1, e2, h1, h2, h1', h2', h3, h4, h5, h6, h7, h8, h9, h10, h11, h12, h13, h14, h15, h16⟩ := h
  refine ⟨g, g', cs, cs', fs, e1, e2, h1, h2, h1', h2', h3, h4, h5, h6, h7, h8, h9.bl hb, h10.bl hb, h11, h12, h13.bl hb (fun b hm => ?_), h14, h15, h16⟩
  obtain ⟨l, hl', hb'⟩ := List.mem_flatten.1 hm
  obtain ⟨i, hi, rfl⟩ := List.getElem_of_mem hl'
  exact (h13.2 i (by rw [← h13.1]; exact hi)).lt b (by simpa [pix, hi] using hb')
end
theorem markMesh_z (w : World) {lo hi n c m d : Nat} {A B : Option Addr} {x : MeD} {k0 : Int} (h : OwMX lo hi w A n c B m d x) (hsz : szL szP x.points ≤ 1048576) (hm : m ≤ 1048576) (h0 : 0 ≤ k0) (h1 : k0 ≤ 1073741824) :
    Calls Try.prog 12 #[.agg #[.slice A n c, .slice B m d], .int .i64 k0] w fun e w' => ∃ K : Int, e = .returned (.int .i64 K) ∧ 0 ≤ K ∧ ∃ bs, (∀ b ∈ bs, lo ≤ b ∧ b < hi) ∧ Ob bs w w' := by
  obtain ⟨g, g', cs, cs', fs, rfl, rfl, h1', h2', a1, a2, h3, h4, h5, h6, h7, h8, h9, h10, h11, h12, h13, h14, h15, h16, h17, h18⟩ := h
  refine (markMesh_any w h9 h11 h13 h10 h12 h3 h16 h17 h18 h15.1 h7 hm hsz h0 h1).mono ?_
  rintro e w' ⟨K, rfl, hK, hO⟩
  refine ⟨K, rfl, hK, _, fun b hb => ?_, hO⟩
  rcases List.mem_cons.1 hb with rfl | hb
  · exact ⟨h1', a1⟩
  · rcases List.mem_cons.1 hb with rfl | hb
    · exact ⟨h2', a2⟩
    · exact h15.2 b hb
theorem cornL_pz {x : MeD} {k : Int} (h : szL szP x.points ≤ 1048576) : ∀ i, i < (cornL x k).length → szP (pix (cornL x k) i) ≤ 1048576 := by
  unfold cornL
  split
  · rename_i hh
    intro i hi
    rw [cornTo_len] at hi
    have e : pix (cornTo x.points (pix x.tris k.toNat) 3) i = pix x.points (triIx (pix x.tris k.toNat) i).toNat := by simp [pix, cornTo, hi]
    rw [e]
    have h1 := hh.2 i hi
    exact Nat.le_trans (szL_at szP x.points (by omega)) h
  · intro i hi
    simp at hi
theorem cornL_len (x : MeD) (k : Int) : (cornL x k).length ≤ 3 := by
  unfold cornL
  split
  · rw [cornTo_len]; omega
  · simp
theorem cornL_sz {x : MeD} {k : Int} (h : szL szP x.points ≤ 1048576) : szL szP (cornL x k) ≤ 4194304 := by
  have hp := cornL_pz (k := k) h
  have hl := cornL_len x k
  generalize cornL x k = l at hp hl
  rcases l with _ | ⟨a, _ | ⟨b, _ | ⟨c, _ | ⟨d, l⟩⟩⟩⟩
  · simp [szL, sumTo]
  · have h0 := hp 0 (by simp)
    simp [pix] at h0
    simp [szL, sumTo, pix]; omega
  · have h0 := hp 0 (by simp)
    have h1 := hp 1 (by simp)
    simp [pix] at h0 h1
    simp [szL, sumTo, pix]; omega
  · have h0 := hp 0 (by simp)
    have h1 := hp 1 (by simp)
    have h2 := hp 2 (by simp)
    simp [pix] at h0 h1 h2
    simp [szL, sumTo, pix]; omega
  · simp at hl
theorem adv_le_b {l : List PtD} {n : Nat} (h : l.length = n) (hsz : szL szP l ≤ 4194304) : sumTo adv l n ≤ 16777216 := by
  have a1 := sumTo_adv l n
  unfold szL at hsz
  rw [h] at hsz
  omega
set_option maxRecDepth 100000 in
set_option maxHeartbeats 4000000 in
theorem FnExactCorners_any (w : World) {A : Option Addr} {n c : Nat} {B : Option Addr} {m d : Nat} {x : MeD} (k : Int) (ha : RdPS w A n c x.points) (hk : RdTS w B m d x.tris) :
    Calls Try.prog 3 #[.agg #[.slice A n c, .slice B m d], .int .i64 k] w fun e w' => e = .returned (.bool true) ∧ Bl w w' := by
  by_cases s1 : ((szM x : Nat) : Int) ≤ 1048576
  · have e1 := lft_yes s1
    have p1 : ¬ 1048576 - ((szM x : Nat) : Int) < 0 := by omega
    have hsz : szM x ≤ 1048576 := by omega
    have hsp : szL szP x.points ≤ 1048576 := by unfold szM at hsz; omega
    have hm8 : m ≤ 1048576 := by have := hk.len; unfold szM at hsz; omega
    have e1 := Lib.hid e1; rename_i h_; clear h_
    go_enter Try.func3, Try.ntmps3
    go_wp2_with fail
    refine (szMesh_any _ (RdPS.bl ha slc) (RdTS.bl hk slc) (by omega) (by omega)).mono ?_
    rw [e1.out]
    rintro e w1 ⟨rfl, hb1⟩
    have hx0 : Blk w1 w.heap.size 25 #[.slice A n c, .slice B m d] := (Blk.new w _ _).bl hb1
    have hbb : Bl w w1 := ((Bl.refl w).alloc _).next hb1
    clear hb1
    obtain ⟨j0, j1⟩ := bx2 hx0
    go_wp2_with fail
    refine (toMesh_any _ (x := x) (RdPS.bl ha hbb) (RdTS.bl hk hbb) hsz).mono ?_
    rintro e w2 ⟨P2, Q2, rfl, hO2, hb2⟩
    clear j0 j1
    replace hx0 := hx0.bl hb2
    replace hbb := hbb.next hb2
    go_wp2_with fail
    refine (sCorners_any _ k hO2.rdP hO2.rdT hsp).mono ?_
    rintro e w3 ⟨A3, n3, c3, rfl, hR3, hb3⟩
    clear hO2
    replace hx0 := hx0.bl hb3
    replace hbb := hbb.next hb3
    obtain ⟨j0, j1⟩ := bx2 hx0
    go_wp2_with fail
    have z3 := hbb.size
    have z30 := hx0.lt
    refine (toMesh_any _ (x := x) (RdPS.bl ha hbb) (RdTS.bl hk hbb) hsz).mono ?_
    rintro e w4 ⟨P4, Q4, rfl, hO4, hb4⟩
    clear j0 j1
    have hs : Bl w3 w4 := hb4
    replace hx0 := hx0.bl hb4
    replace hbb := hbb.next hb4
    have z4 : w3.heap.size ≤ w4.heap.size := hs.size
    replace hO4 := OwMX.of hO4
    go_wp2_with fail
    refine calls_gen (fun W => Blk W w4.heap.size 31 #[.slice P4 n n, .slice Q4 m m] ∧ Bl w4 W) ⟨Blk.new _ _ _, slc⟩ ?_
    rintro W ⟨hxX, hb4'⟩
    replace hx0 := hx0.bl hb4'
    replace hO4 := hO4.bl hb4'
    replace hbb := hbb.next hb4'
    replace hs := hs.next hb4'
    refine (Corners_any _ k hO4.rdP hO4.rdT hsp).mono ?_
    rintro e w5 ⟨A5, n5, c5, rfl, hR5, hb5⟩
    have z5 := hb5.size
    have zW : w4.heap.size < W.heap.size := hxX.lt
    replace hx0 := hx0.bl hb5
    replace hO4 := hO4.bl hb5
    replace hxX := hxX.bl hb5
    replace hbb := hbb.next hb5
    replace hs := hs.next hb5
    have q3 := Lib.hid hR3.len
    have q5 := Lib.hid hR5.rd.len
    obtain rfl : n5 = n3 := q5.out.symm.trans q3.out
    clear q3 q5
    go_wp2_with fail
    refine (eqPointS_any _ hR5.rd (RdPS.bl hR3 hs)).mono ?_
    rintro e w6 ⟨rfl, hb6⟩
    have z6 := hb6.size
    replace hx0 := hx0.bl hb6
    replace hO4 := hO4.bl hb6
    replace hxX := hxX.bl hb6
    replace hR5 := hR5.bl hb6
    replace hbb := hbb.next hb6
    replace hs := hs.next hb6
    go_wp2_with fail
    go_region_held3 (fun w' => (w'.cell? ⟨w.heap.size, 0, none⟩ = some (.slice A n c) ∧ w'.cell? ⟨w.heap.size, 1, none⟩ = some (.slice B m d)) ∧ (w'.cell? ⟨w4.heap.size, 0, none⟩ = some (.slice P4 n n) ∧ w'.cell? ⟨w4.heap.size, 1, none⟩ = some (.slice Q4 m m))) (first | exact ⟨bx2 (T := 25) (hx0.bl slc), bx2 (T := 31) (hxX.bl slc)⟩) (first | (go_at_call 8; (with_reducible refine (toMesh_any _ (x := x) (RdPS.bl ha (hbb.next slc)) (RdTS.bl hk (hbb.next slc)) hsz).mono ?_); rintro e w7 ⟨P7, Q7, rfl, hO7, hb7⟩) | (go_at_call 11; (with_reducible refine (eqMesh_any _ (x := x) (RdPS.bl hO4.rdP slc) (RdTS.bl hO4.rdT slc) (hO7.rdP.bl slc) (hO7.rdT.bl slc)).mono ?_); rintro e w8 ⟨rfl, hb8⟩))
    have hb68 : Bl w6 w8 := slc
    have z8 := hb68.size
    clear hO7 hb7 hb8
    replace hx0 := hx0.bl hb68
    replace hO4 := hO4.bl hb68
    replace hxX := hxX.bl hb68
    replace hR5 := hR5.bl hb68
    replace hbb := hbb.next hb68
    replace hs := hs.next hb68
    obtain ⟨i0, i1⟩ := bx2 hxX
    go_wp2_with fail
    refine (markMesh_z _ hO4 hsp (by omega) (by omega) (by omega)).mono ?_
    rintro e w9 ⟨K9, rfl, hK9, bs9, hs9, hO9⟩
    clear i0 i1
    clear hO4
    clear hxX
    replace hx0 := hx0.ob hO9 (fun hm => by have := hs9 _ hm; omega)
    replace hR5 := hR5.ob hO9 (fun b hm => by have := hs9 b hm; omega)
    replace hbb := hbb.ob hO9 (fun b hm => by have := hs9 b hm; omega)
    replace hs := hs.ob hO9 (fun b hm => by have := hs9 b hm; simp; omega)
    clear hs9 hO9
    have hK : ¬ K9 < 0 := by omega
    go_wp2_with fail
    refine (eqPointS_any _ hR5.rd (RdPS.bl hR3 hs)).mono ?_
    rintro e w10 ⟨rfl, hb10⟩
    replace hx0 := hx0.bl hb10
    replace hR5 := hR5.bl hb10
    replace hbb := hbb.next hb10
    replace hs := hs.next hb10
    have hszr : szL szP (cornL x k) ≤ 4194304 := cornL_sz hsp
    have hpzr := cornL_pz (k := k) hsp
    have hKr := adv_le_b hR5.1 hszr
    have hn5 := hR5.2.2.1
    have hl5 := Lib.hid hR5.1
    go_wp2_with fail
    refine (markPointS_zb _ hR5 hszr hpzr (by omega) (by omega)).mono ?_
    rintro e w11 ⟨rfl, hA11, bs11, hs11, hO11⟩
    clear hR5
    replace hx0 := hx0.ob hO11 (fun hm => by have := hs11 _ hm; omega)
    replace hbb := hbb.ob hO11 (fun b hm => by have := hs11 b hm; omega)
    replace hs := hs.ob hO11 (fun b hm => by have := hs11 b hm; simp; omega)
    clear hs11 hO11
    have hq : ¬ 1 + (sumTo adv (cornL x k) n5 : Int) < 0 := by omega
    go_wp2_with fail
    refine (heldPointS_big _ hA11 hl5.out hn5 hszr hpzr (by omega) (by omega)).mono ?_
    rintro e w12 ⟨rfl, q12, rfl⟩
    replace hA11 := RdPS.bl hA11 ((Bl.refl _).drewN q12)
    replace hbb := hbb.drewN q12
    replace hs := hs.drewN q12
    replace hx0 := hx0.bl ((Bl.refl _).drewN q12)
    obtain ⟨j0, j1⟩ := bx2 hx0
    go_wp2_with fail
    refine (toMesh_any _ (x := x) (RdPS.bl ha hbb) (RdTS.bl hk hbb) hsz).mono ?_
    rintro e w13 ⟨P13, Q13, rfl, hO13, hb13⟩
    have z13 := hb13.size
    replace hA11 := RdPS.bl hA11 hb13
    clear j0 j1
    replace hx0 := hx0.bl hb13
    replace hbb := hbb.next hb13
    replace hs := hs.next hb13
    go_wp2_with fail
    refine (Corners_any _ k hO13.rdP hO13.rdT hsp).mono ?_
    rintro e w14 ⟨A14, n14, c14, rfl, hR14, hb14⟩
    have z14 := hb14.size
    replace hR14 := hR14.rd
    clear hO13
    replace hA11 := RdPS.bl hA11 hb14
    replace hx0 := hx0.bl hb14
    replace hbb := hbb.next hb14
    replace hs := hs.next hb14
    have q3 := Lib.hid hR3.len
    have q14 := Lib.hid hR14.len
    obtain rfl : n14 = n5 := q14.out.symm.trans q3.out
    clear q3 q14
    go_wp2_with fail
    refine (eqPointS_any _ hR14 (RdPS.bl hR3 hs)).mono ?_
    rintro e w15 ⟨rfl, hb15⟩
    replace hA11 := RdPS.bl hA11 hb15
    replace hx0 := hx0.bl hb15
    replace hbb := hbb.next hb15
    replace hs := hs.next hb15
    go_wp2_with fail
    refine (heldPointS_big _ hA11 hl5.out hn5 hszr hpzr (by omega) (by omega)).mono ?_
    rintro e w16 ⟨rfl, q16, rfl⟩
    replace hbb := hbb.drewN q16
    go_wp2_with fail
    go_ret
    exact ⟨rfl, hbb⟩
  · have e1 := lft_no s1
    go_enter Try.func3, Try.ntmps3
    go_wp2_with fail
    refine (szMesh_any _ (RdPS.bl ha slc) (RdTS.bl hk slc) (by omega) (by omega)).mono ?_
    rw [e1]
    rintro e w1 ⟨rfl, hb1⟩
    have hbb : Bl w w1 := ((Bl.refl w).alloc _).next hb1
    go_wp2_with fail
    go_ret
    exact ⟨rfl, hbb⟩

end Go.Proofs.Ytggjdgjkdmgjnaa
