import Derived.Test.YtggjdgjkdmgjnaaRows
import Derived.Test.YtggjdgjkdmgjnaaMk3M
namespace Go.Proofs.Ytggjdgjkdmgjnaa

open Go.RowKit

theorem Ob.cellOf {bs : List Nat} {w W : World} (h : Ob bs w W) {b o : Nat} (hb : b < w.heap.size) (hn : b ∉ bs) : W.cell? ⟨b, o, none⟩ = w.cell? ⟨b, o, none⟩ := World.cell?_of_block (w := w) (h.block b hb hn)

set_option maxHeartbeats 1000000 in
theorem markMesh_any {T TP TT : TypeId} (w : World) {g g' n c m d : Nat} {x : MeD} {cs cs' : Array Value} {fs : List (List Nat)} {k0 : Int} (hB : Blk w g TP cs) (hcs : cs.size = n * 6) (hP : PtsIn T w cs x.points n fs) (hB' : Blk w g' TT cs') (hcs' : cs'.size = m * 5)
    (hl : x.points.length = n) (hg : g ∉ fs.flatten) (hg' : g' ∉ fs.flatten) (hne : g ≠ g') (hnd : fs.flatten.Nodup) (hn : n ≤ 1048576) (hm : m ≤ 1048576) (hsz : szL szP x.points ≤ 1048576) (h0 : 0 ≤ k0) (h1 : k0 ≤ 1073741824) :
    Calls Try.prog 12 #[.agg #[.slice (some ⟨g, 0, none⟩) n c, .slice (some ⟨g', 0, none⟩) m d], .int .i64 k0] w fun e w' => ∃ K : Int, e = .returned (.int .i64 K) ∧ 0 ≤ K ∧ Ob (g :: g' :: fs.flatten) w w' := by
  have hgl := hB.lt
  have hgl' := hB'.lt
  have hfl : ∀ b ∈ fs.flatten, b < w.heap.size := by
    intro b hb
    obtain ⟨l, hl', hb'⟩ := List.mem_flatten.1 hb
    obtain ⟨i, hi, rfl⟩ := List.getElem_of_mem hl'
    have := (hP.2 i (by rw [← hP.1]; exact hi)).lt b (by simpa [pix, hi] using hb')
    exact this
  have hsum := sumTo_adv x.points n
  have hsz2 : sumTo szP x.points n ≤ 1048576 := by unfold szL at hsz; rw [hl] at hsz; omega
  have hl := Lib.hid hl; rename_i h_; clear h_
  have hk : Hid (k0 + (sumTo adv x.points n : Int) ≤ 1099511627776) := by unfold Hid; omega
  have hk0 : Hid (0 ≤ k0 + (sumTo adv x.points n : Int)) := by unfold Hid; omega
  clear hsum hsz2
  go_enter Try.func12, Try.ntmps12
  go_wp2_with fail
  have hbl := (Bl.refl w).alloc (.cells #[.slice (some ⟨g, 0, none⟩) n c, .slice (some ⟨g', 0, none⟩) m d] 31)
  refine (markPointS_any _ (hB.bl hbl) (by omega) (hP.bl hbl hfl) hl.out hg hnd hn hsz h0 h1).mono ?_
  rintro e w2 ⟨rfl, cs2, hB2, hc2, hP2, ho2⟩
  have hnb : w.heap.size ∉ g :: fs.flatten := by
    intro hm
    rcases List.mem_cons.1 hm with e | hm
    · omega
    · have := hfl _ hm; omega
  have q0 := ho2.cellOf (o := 0) (show w.heap.size < _ by simp) hnb
  have q1 := ho2.cellOf (o := 1) (show w.heap.size < _ by simp) hnb
  have hB3 := (hB'.bl hbl).ob ho2 (by
    intro hm
    rcases List.mem_cons.1 hm with e | hm
    · exact hne e.symm
    · exact hg' hm)
  clear hB2 hc2 hP2 hB hP
  go_wp2_with fail
  refine (markTriS_any _ hB3 hcs' hm hk0.out hk.out).mono ?_
  rintro e w3 ⟨rfl, cs3, hB4, hc3, hT, ho3⟩
  go_wp2_with fail
  go_ret
  refine ⟨_, rfl, by have := hk0.out; omega, ?_⟩
  exact (Ob.of_bl hbl _).trans ((ho2.mono (by intro b hb; rcases List.mem_cons.1 hb with rfl | hb <;> simp [*])).trans (ho3.mono (by simp)))

end Go.Proofs.Ytggjdgjkdmgjnaa
