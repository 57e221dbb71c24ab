import Derived.Test.YtggjdgjkdmgjnaaGreatRows
import Derived.Test.YtggjdgjkdmgjnaaGreatFi1
namespace Go.Proofs.YtggjdgjkdmgjnaaGreat

open Go.RowKit

set_option maxRecDepth 100000 in
set_option maxHeartbeats 1000000 in
theorem sRatFromInt_any (w : World) (x : Int) (h1 : -9223372036854775808 < x) (h2 : x ≤ 9223372036854775807) :
    Calls Tryz.prog 180 #[.int .i64 x] w fun e w' => ∃ s1 A1 n1 c1 B1 m1 d1, e = .returned (.agg #[.bool s1, .slice A1 n1 c1, .slice B1 m1 d1]) ∧ OwR 3 w.heap.size w' s1 A1 n1 c1 B1 m1 d1 (ofFrac x 1) ∧ Bl w w' := by
  have hd : dig 1 = [1] := by rw [dig_pos (by omega), show 1 / Bs = 0 from by rw [Bs_eq], dig_zero]; rfl
  have hd := Lib.hid hd; rename_i h_; clear h_
  have hv := Lib.hid (ofFrac_int (x := x) (by omega) h2)
  go_enter Tryz.func180, Tryz.ntmps180
  go_wp2_with fail
  refine calls_gen (fun W => Bl w W ∧ Wk 3 34 (w.heap.size) W) ⟨slc, bts⟩ ?_
  rintro W ⟨hbW, hr⟩
  refine (sBigIntOf_any _ x h1 h2).mono ?_
  rintro e w3 ⟨s3, A3, n3, c3, rfl, hO3, hb3⟩
  have hr3 := hr.bl hb3
  have hbW := hbW.next hb3
  obtain ⟨⟨x0, x1, x2⟩, hf0, hf1, hf2⟩ := hr3.out3
  have hg := hr3.lt
  have hO3 := hO3.mono (show w.heap.size + 1 ≤ W.heap.size from hr.lt)
  have key : ∀ V : World, V.heap.size = w3.heap.size → OwB 3 (w.heap.size + 1) V s3 A3 n3 c3 x → OwR 3 (w.heap.size + 1) (V.alloc (.cells #[.int .i64 1] 3)) s3 A3 n3 c3 (some ⟨w3.heap.size, 0, none⟩) 1 1 (ofFrac x 1) := by
    intro V hV hO
    have hB : Ow 3 (V.alloc (.cells #[.int .i64 1] 3)) V.heap.size [1] := heap_alloc_new _ _
    have hB : OwI 3 V.heap.size (V.alloc (.cells #[.int .i64 1] 3)) (some ⟨V.heap.size, 0, none⟩) 1 1 (ints (dig 1)) := by
      rw [hd.out]
      exact hB.own (c := 1) (by decide) (Nat.le_refl _) (by decide)
    rw [hv.out, ← hV]
    exact OwR.two' hO.2 hB ((Bl.refl V).alloc _) (by rw [hV]; exact hg) hO.1
  go_wp2_with fail
  exact bodyPost_ret (v := .agg #[.bool s3, .slice A3 n3 c3, .slice (some ⟨w3.heap.size, 0, none⟩) 1 1]) (by simp [results, Tryz.results180, go_sem, x0, x1, x2, cell_al, hg]) rfl ⟨_, _, _, _, _, _, _, rfl, (key _ (by simp) (((hO3.far (by simp) _).far (by simp) _).far (by simp) _)).mono (by omega), slc⟩


end Go.Proofs.YtggjdgjkdmgjnaaGreat
