/- Lemmas. -/
import Derived.Test.YtajlahjghapbkaaGreatRows
import Derived.Test.YtajlahjghapbkaaGreatPUndoM27
import Derived.Test.YtajlahjghapbkaaGreatPUndoM30
import Derived.Deep.Cut
import Derived.Deep.DeepCutAuto
import Derived.Test.YtajlahjghapbkaaGreatPUndoM10
namespace Go.Proofs.YtajlahjghapbkaaGreat
section
open Go.RowKit

def okM (m : MeQ) : Bool :=
  decide ((3 ≤ m.pts.length ∧ m.pts.length ≤ 40) ∧ 1 ≤ m.tris.length ∧ m.tris.length ≤ 48) && (okP m.pts && (decide (PlB m.pts.length (plXs m.pts m.pts.length) (plYs m.pts m.pts.length)) && okT m.pts.length (plXs m.pts m.pts.length) (plYs m.pts m.pts.length) m.tris))
theorem okM_ok {m : MeQ} (h : okM m = true) : MeshOk m := by
  unfold okM at h
  simp only [Bool.and_eq_true, decide_eq_true_eq] at h
  obtain ⟨h1, h2, h3, h4⟩ := h
  exact MeshOk.of m.pts.length _ _ rfl rfl rfl h1 h2 h3 h4
/-- All lists of n flags. -/
def allB : Nat → List (List Bool)
  | 0 => [[]]
  | n + 1 => (allB n).flatMap fun l => [false :: l, true :: l]
theorem mem_allB : ∀ bl : List Bool, bl ∈ allB bl.length
  | [] => by simp [allB]
  | b :: bl => by
    have h := mem_allB bl
    unfold allB
    exact List.mem_flatMap.2 ⟨bl, h, by cases b <;> simp⟩
def csQ0 (r : Int) : MeQ := ⟨[(0, 0), (2, 0), (2, 2), (0, 2), (1, 1)], [⟨4, 0, 1, 0, 0⟩, ⟨4, 1, 2, 0, 0⟩, ⟨4, 2, 3, 1, 0⟩, ⟨4, 3, 0, r, 0⟩]⟩
def csQ1 (r : Int) : MeQ := ⟨[(0, 0), (2, 0), (2, 1), (0, 2)], [⟨1, 2, 0, 0, 0⟩, ⟨3, 0, 2, r, 0⟩]⟩
def csQ2 : MeQ := ⟨[(0, 0), (1, 0), (2, 0), (2, 1), (1, 1), (1, 2), (0, 2), (0, 1)], [⟨1, 4, 0, 0, 0⟩, ⟨7, 0, 4, 0, 0⟩, ⟨3, 4, 2, 0, 0⟩, ⟨1, 2, 4, 1, 0⟩, ⟨7, 4, 6, 0, 0⟩, ⟨5, 6, 4, 2, 0⟩]⟩
def csL : List MeQ := [csQ0 0, csQ0 1, csQ1 0, csQ1 1, csQ1 2, csQ2]
/-- The area of a coarse mesh. -/
def csA (m : MeQ) : Rat := sumQ (aqK m) m.tris.length
/-- The mesh that results where the flagged triangles are bisected. -/
def rfM (m : MeQ) (bl : List Bool) : MeQ := bisM m (lsA (emB m.tris bl))
def alM (m : MeQ) : MeQ := bisM m ((List.range (edL m.tris).length).map fun i : Nat => (i : Int))
instance (ts : List TriD) (L : List EdD) : Decidable (EdHas ts L) := by unfold EdHas; infer_instance
/-- What makes a mesh fit to be bisected. -/
def okF (m : MeQ) : Bool := okM m && (decide (EdHas m.tris (edL m.tris)) && decide (∀ k, k < m.pts.length → Sm2 (pix m.pts k)))
def rfB (m : MeQ) (bl : List Bool) : Bool := okF (rfM m bl) && (okA (rfM m bl) (csA m) && (List.range m.tris.length).all fun k => !bgt bl k || !((rfM m bl).tris.contains (pix m.tris k)))
def alB (m : MeQ) : Bool := okF (alM m) && (decide ((alM m).tris.length = 4 * m.tris.length) && decide ((alM m).pts.length = m.pts.length + (edL m.tris).length))
end

section
open Go.RowKit

/-- A mesh that the program calls valid and can bisect. -/
structure FitM (m : MeQ) : Prop where
  ok : MeshOk m
  has : EdHas m.tris (edL m.tris)
  sm : ∀ k, k < m.pts.length → Sm2 (pix m.pts k)
theorem fit_of {m : MeQ} (h : okF m = true) : FitM m := by
  unfold okF at h
  simp only [Bool.and_eq_true, decide_eq_true_eq] at h
  exact ⟨okM_ok h.1, h.2.1, h.2.2⟩
def MeRT (w : World) (mq : MeQ) (e : Ending) (w' : World) : Prop := ∃ v2, e = .returned (.tuple #[v2, .bool true]) ∧ MeOw w.heap.size w' v2 mq ∧ Bl w w'

def EdsRes (w : World) (L : List EdD) (e : Ending) (w' : World) : Prop := ∃ g n c, e = .returned (.slice (some ⟨g, 0, none⟩) n c) ∧ RdES w' (some ⟨g, 0, none⟩) n c L ∧ Bl w w'
set_option maxRecDepth 100000 in
set_option maxHeartbeats 8000000 in
theorem EdgesOf_yes (w : World) {v : Value} {mq : MeQ} (h : MeAt w v mq) (hf : MeshOk mq) :
    Calls Tryz.prog 48 #[v] w (EdsRes w (edL mq.tris)) := by
  obtain ⟨gp, n, cp, gt, m, ct, rfl, hp, ht⟩ := h
  have hf := Lib.hid hf; rename_i h_; clear h_
  have hm48 : m ≤ 10000 := by have := hf.out.t48; rw [ht.len] at this; omega
  go_enter Tryz.func48, Tryz.ntmps48
  go_wp2_with fail
  refine calls_gen (fun W => Bl w W ∧ Blk W w.heap.size 57 #[.slice (some ⟨gp, 0, none⟩) n cp, .slice (some ⟨gt, 0, none⟩) m ct]) ⟨slc, bts⟩ ?_
  rintro W ⟨hbW, hM⟩
  refine (IsMesh_yes _ (RdPS.bl hp hbW) (RdTS.bl ht hbW) hf.out).mono ?_
  rintro e w1 ⟨rfl, hb1⟩
  have hM := hM.bl hb1
  have hbW := hbW.next hb1
  clear hb1
  obtain ⟨r0, r1⟩ := bx2 hM
  go_wp2_with fail
  refine (edges_any _ (RdTS.bl ht hbW) hm48).mono ?_
  rintro e w2 ⟨ge, k, c, rfl, hR, _, hb2⟩
  go_wp2_with fail
  go_ret
  exact ⟨ge, k, c, rfl, hR, hbW.next hb2⟩
set_option maxRecDepth 100000 in
set_option maxHeartbeats 16000000 in
theorem BisectEdges_yes (w : World) {v : Value} {mq : MeQ} (h : MeAt w v mq) (hf : FitM mq) {B : Option Addr} {kl dl : Nat} {list : List Int} (hl : RdI w B kl dl list) (hk : kl ≤ 1048576) (ho : MeshOk (bisM mq list)) :
    Calls Tryz.prog 67 #[v, .slice B kl dl] w (MeRT w (bisM mq list)) := by
  obtain ⟨gp, n, cp, gt, m, ct, rfl, hp, ht⟩ := h
  have hf := Lib.hid hf; rename_i h_; clear h_
  have ho := Lib.hid ho; rename_i h_; clear h_
  go_enter Tryz.func67, Tryz.ntmps67
  go_wp2_with fail
  refine calls_gen (fun W => Bl w W ∧ Blk W w.heap.size 57 #[.slice (some ⟨gp, 0, none⟩) n cp, .slice (some ⟨gt, 0, none⟩) m ct] ∧ Wk 2 57 (w.heap.size + 1) W) ⟨slc, bts, bts⟩ ?_
  rintro W ⟨hbW, hM, hr⟩
  refine (IsMesh_yes _ (RdPS.bl hp hbW) (RdTS.bl ht hbW) hf.out.ok).mono ?_
  rintro e w1 ⟨rfl, hb1⟩
  have hM := hM.bl hb1
  have hr := hr.bl hb1
  have hbW := hbW.next hb1
  clear hb1
  obtain ⟨r0, r1⟩ := bx2 hM
  go_wp2_with fail
  clear r0 r1
  refine (bisect_any _ (RdPS.bl hp hbW) (RdTS.bl ht hbW) hf.out.ok hf.out.has hf.out.sm (hl.bl hbW) hk).mono ?_
  rintro e w2 ⟨_, rfl, hO, hb2⟩
  obtain ⟨gp2, n2, cp2, gt2, m2, ct2, rfl, hP2, hT2⟩ := hO.1
  have hlt : w.heap.size + 1 < w1.heap.size := hr.lt
  have hr := hr.bl hb2
  have hbW := hbW.next hb2
  clear hM hb2
  go_upto_region 4 with (fail)
  refine wp_gen (fun W => Bl w2 W ∧ Blk W w2.heap.size 57 #[.slice (some ⟨gp2, 0, none⟩) n2 cp2, .slice (some ⟨gt2, 0, none⟩) m2 ct2]) ⟨slc, by exact bts⟩ ?_
  rintro W3 ⟨hb3, hM⟩
  have hr := hr.bl hb3
  have hbW := hbW.next hb3
  have hP2 := RdPS.bl hP2 hb3
  have hT2 := RdTS.bl hT2 hb3
  have hO := hO.bl hb3
  clear hb3
  obtain ⟨r0, r1⟩ := bx2 hM
  go_wp2_with fail
  clear r0 r1
  refine (IsMesh_yes _ hP2 hT2 ho.out).mono ?_
  rintro e w4 ⟨rfl, hb4⟩
  have hM := hM.bl hb4
  have hr := hr.bl hb4
  have hbW := hbW.next hb4
  have hO := hO.bl hb4
  clear hb4
  obtain ⟨r0, r1⟩ := bx2 hM
  obtain ⟨v0, x0⟩ := hr.val_ (i := 0) (by omega)
  obtain ⟨v1, x1⟩ := hr.val_ (i := 1) (by omega)
  have hg := hr.lt
  obtain ⟨cs4, hB4, hc4⟩ := hr
  have hf0 := hB4.frozen 0
  have hf1 := hB4.frozen 1
  go_wp2_with fail
  exact bodyPost_ret (v := .tuple #[.agg #[.slice (some ⟨gp2, 0, none⟩) n2 cp2, .slice (some ⟨gt2, 0, none⟩) m2 ct2], .bool true]) (by simp [results, Tryz.results67, go_sem, x0, x1]) rfl ⟨_, rfl, MeOw.low (MeOw.setLow (MeOw.setLow hO (q := ⟨w.heap.size + 1, 0, none⟩) hlt _) (q := ⟨w.heap.size + 1, 1, none⟩) hlt _) (by omega), slc⟩
/-- The numbers of k edges. -/
def rgI (k : Nat) : List Int := (List.range k).map fun i : Nat => (i : Int)
theorem rgI_succ (k : Nat) : rgI (k + 1) = rgI k ++ [(k : Int)] := by unfold rgI; rw [List.range_succ, List.map_append]; rfl
theorem rgI_len (k : Nat) : (rgI k).length = k := by simp [rgI]
set_option maxRecDepth 100000 in
set_option maxHeartbeats 16000000 in
theorem RefineAll_yes (w : World) {v : Value} {mq : MeQ} (h : MeAt w v mq) (hf : FitM mq) (ho : MeshOk (alM mq)) :
    Calls Tryz.prog 44 #[v] w (MeRT w (alM mq)) := by
  have hMe := h
  obtain ⟨gp, n, cp, gt, m, ct, rfl, hp, ht⟩ := h
  have hal := Lib.hid (show alM mq = bisM mq (rgI (edL mq.tris).length) from rfl)
  have hlE : (edL mq.tris).length ≤ 200 := by have h1 := edTo_len mq.tris mq.tris.length; have h2 := hf.ok.t48; have h3 : (edL mq.tris).length ≤ 3 * mq.tris.length := h1; omega
  have hf := Lib.hid hf; rename_i h_; clear h_
  have ho := Lib.hid ho; rename_i h_; clear h_
  go_enter Tryz.func44, Tryz.ntmps44
  go_upto_region 1 with (fail)
  refine wp_gen (fun W => Bl w W ∧ Blk W w.heap.size 57 #[.slice (some ⟨gp, 0, none⟩) n cp, .slice (some ⟨gt, 0, none⟩) m ct] ∧ Wk 2 57 (w.heap.size + 1) W) ⟨slc, bts, bts⟩ ?_
  rintro W0 ⟨hbW, hM, hr⟩
  have hM0 := hM
  have hr0 := hr
  have hbW0 := hbW
  go_upto_region 2 with (fail)
  refine wp_gen (fun W => Bl W0 W ∧ ∃ v0 c, OwL 3 W0.heap.size W v0 (rgI 0) ∧ v0 = .slice (some ⟨W0.heap.size, 0, none⟩) 0 c ∧ c = 0) ⟨slc, _, 0, OwL.empty W0 (Nat.le_refl _) (by decide), rfl, rfl⟩ ?_
  rintro W ⟨hb0, v0, c, hX, hv0, rfl⟩
  rw [← hv0]
  have hM := hM.bl hb0
  have hr := hr.bl hb0
  have hbW := hbW.next hb0
  clear hv0
  obtain ⟨r0, r1⟩ := bx2 hM
  go_wp2_with fail
  clear r0 r1
  refine (EdgesOf_yes _ (MeAt.bl hMe hbW) hf.out.ok).mono ?_
  rintro e w1 ⟨ge, ne, ce, rfl, hes, hb1⟩
  have hX := hX.bl hb1
  have hM := hM.bl hb1
  have hr := hr.bl hb1
  have hbW := hbW.next hb1
  have hb0 := hb0.next hb1
  have hne := Lib.hid hes.len
  have hnl : ne ≤ 200 := by rw [← hes.len]; exact hlE
  have hlt := hr.lt
  clear hb1 hlE
  go_wp2_with fail
  go_loopw [4, 10] (fun s v wr => ∃ (i : Nat) (o : Value), i ≤ ne ∧ v = .int .i64 (i : Int) ∧ o = s ∧ OwL 3 W0.heap.size wr o (rgI i) ∧ Bl W0 wr) (fun _ v _ => ne - (intOf v).toNat)
  case atStart => exact ⟨0, v0, by omega, rfl, rfl, hX, hb0⟩
  case round =>
    clear hX hb0
    obtain ⟨i, o, hi, rfl, rfl, hX, hbi⟩ := hrel
    obtain ⟨wj, rfl⟩ : ∃ wj : World, wj = wr := ⟨_, rfl⟩
    by_cases hin : i < ne
    · have hii : (i : Int) < (ne : Int) := by omega
      have hrl := rgI_len i
      have hS2 := Lib.hid (rgI_succ i)
      go_wp2_with ((refine wpList_append_intX (w0 := W0) info_int Tryz.underlying25 rfl (.tmp 13) (.tmp 15) rfl _ (rgI i) (by rfl) hX hbi 1 (by rfl) (by omega) ?_); intro vx7 w7 hX7 hb7 hoth)
      rw [← hS2.out] at hX7
      go_roundw
      case rel => exact ⟨i + 1, vx7, by omega, by go_num, rfl, hX7, hb7⟩
      case measure => simp [intOf]; omega
    · obtain rfl : i = ne := by omega
      have hkm3 : ¬ (i : Int) < (i : Int) := by omega
      have hrl := rgI_len i
      obtain ⟨B, cb, rfl, hR⟩ := hX.own (by omega)
      rw [hrl] at hR ⊢
      have hal2 := Lib.hid (show alM mq = bisM mq (rgI i) by rw [hal.out, hne.out])
      have ho2 := Lib.hid (show MeshOk (bisM mq (rgI i)) by rw [← hal2.out]; exact ho.out)
      have hr := hr0.bl hbi
      have hlt : w.heap.size + 1 < wj.heap.size := hr.lt
      obtain ⟨r0, r1⟩ := bx2 (hM0.bl hbi)
      go_wp2_with fail
      clear r0 r1
      refine (BisectEdges_yes _ (MeAt.bl hMe (hbW0.next hbi)) hf.out hR.rd (by omega) ho2.out).mono ?_
      rw [← hal2.out]
      rintro e w4 ⟨_, rfl, hO, hb4⟩
      obtain ⟨gp2, n2, cp2, gt2, m2, ct2, rfl, hP2, hT2⟩ := hO.1
      have hr := hr.bl hb4
      have hbW := (hbW0.next hbi).next hb4
      obtain ⟨v0, x0⟩ := hr.val_ (i := 0) (by omega)
      obtain ⟨v1, x1⟩ := hr.val_ (i := 1) (by omega)
      have hg := hr.lt
      obtain ⟨cs4, hB4, hc4⟩ := hr
      have hf0 := hB4.frozen 0
      have hf1 := hB4.frozen 1
      go_wp2_with fail
      exact bodyPost_ret (v := .tuple #[.agg #[.slice (some ⟨gp2, 0, none⟩) n2 cp2, .slice (some ⟨gt2, 0, none⟩) m2 ct2], .bool true]) (by simp [results, Tryz.results44, go_sem, x0, x1]) rfl ⟨_, rfl, MeOw.low (MeOw.setLow (MeOw.setLow hO (q := ⟨w.heap.size + 1, 0, none⟩) hlt _) (q := ⟨w.heap.size + 1, 1, none⟩) hlt _) (by omega), slc⟩
end

section
open Go.RowKit
instance : Inhabited MeQ := ⟨⟨[], []⟩⟩

theorem cs_ok : ∀ m ∈ csL, okF m = true ∧ okA m (csA m) = true := by decide +kernel
theorem al_ok : ∀ m ∈ csL, alB m = true := by decide +kernel
theorem rf_ok0 : ∀ bl ∈ allB (pix csL 0).tris.length, rfB (pix csL 0) bl = true := by decide +kernel
theorem rf_ok1 : ∀ bl ∈ allB (pix csL 1).tris.length, rfB (pix csL 1) bl = true := by decide +kernel
theorem rf_ok2 : ∀ bl ∈ allB (pix csL 2).tris.length, rfB (pix csL 2) bl = true := by decide +kernel
theorem rf_ok3 : ∀ bl ∈ allB (pix csL 3).tris.length, rfB (pix csL 3) bl = true := by decide +kernel
theorem rf_ok4 : ∀ bl ∈ allB (pix csL 4).tris.length, rfB (pix csL 4) bl = true := by decide +kernel
theorem rf_ok5 : ∀ bl ∈ allB (pix csL 5).tris.length, rfB (pix csL 5) bl = true := by decide +kernel
end

section
open Go.RowKit

theorem bgt_set_same {bl : List Bool} {i : Nat} (h : i < bl.length) (x : Bool) : bgt (bl.set i x) i = x := by rw [← bgt_set rfl x i h, if_pos rfl]
theorem bgt_set_true {bl : List Bool} {i k : Nat} (h : i < bl.length) (hb : bgt bl i = true) : bgt (bl.set k true) i = true := by
  rw [← bgt_set rfl true i h]
  split
  · rfl
  · exact hb
theorem mkTo_keep {l : List Int} {n i : Nat} (hi : i < n) : ∀ {k d : Nat}, bgt (mkTo l n k) i = true → bgt (mkTo l n (k + d)) i = true
  | k, 0, h => h
  | k, d + 1, h => by
    have h1 := mkTo_keep hi (d := d) h
    show bgt (mkTo l n (k + d + 1)) i = true
    unfold mkTo
    split
    · exact bgt_set_true (by rw [mkTo_len]; exact hi) h1
    · exact h1
theorem mkA_mem {l : List Int} {n k : Nat} (hk : k < l.length) (h0 : 0 ≤ ix l k) (h1 : ix l k < n) : bgt (mkA l n) (ix l k).toNat = true := by
  have h2 : bgt (mkTo l n (k + 1)) (ix l k).toNat = true := by
    unfold mkTo
    rw [if_pos ⟨h0, by omega⟩]
    exact bgt_set_same (by rw [mkTo_len]; omega) true
  have h3 := mkTo_keep (l := l) (n := n) (i := (ix l k).toNat) (by omega) (d := l.length - (k + 1)) h2
  rwa [show k + 1 + (l.length - (k + 1)) = l.length by omega] at h3
theorem cs_ix {m : MeQ} (h : m ∈ csL) : ∃ i, i < 6 ∧ m = pix csL i := by
  obtain ⟨i, hi, rfl⟩ := List.getElem_of_mem h
  refine ⟨i, hi, ?_⟩
  unfold pix
  rw [List.getD_eq_getElem?_getD, List.getElem?_eq_getElem hi]
  rfl
theorem rf_ok {m : MeQ} (h : m ∈ csL) (l : List Int) : rfB m (mkA l m.tris.length) = true := by
  obtain ⟨i, hi, rfl⟩ := cs_ix h
  have hmem : mkA l (pix csL i).tris.length ∈ allB (pix csL i).tris.length := by
    have h1 := mem_allB (mkA l (pix csL i).tris.length)
    rwa [mkA_len] at h1
  rcases (show i = 0 ∨ i = 1 ∨ i = 2 ∨ i = 3 ∨ i = 4 ∨ i = 5 by omega) with rfl | rfl | rfl | rfl | rfl | rfl
  · exact rf_ok0 _ hmem
  · exact rf_ok1 _ hmem
  · exact rf_ok2 _ hmem
  · exact rf_ok3 _ hmem
  · exact rf_ok4 _ hmem
  · exact rf_ok5 _ hmem
/-- What a refinement of a coarse mesh is. -/
structure RefOk (m : MeQ) (l : List Int) : Prop where
  fit : FitM m
  fitX : FitM (bisM m (emA m.tris l))
  area : areaM (bisM m (emA m.tris l)) = areaM m
  new : ∀ k, k < l.length → 0 ≤ ix l k → ix l k < m.tris.length → ∀ j, j < (bisM m (emA m.tris l)).tris.length → pix (bisM m (emA m.tris l)).tris j ≠ pix m.tris (ix l k).toNat
theorem ref_ok {m : MeQ} (h : m ∈ csL) (l : List Int) : RefOk m l := by
  obtain ⟨h1, h2⟩ := cs_ok m h
  have h3 := rf_ok h l
  unfold rfB at h3
  simp only [Bool.and_eq_true] at h3
  obtain ⟨h4, h5, h6⟩ := h3
  refine ⟨fit_of h1, fit_of h4, (areaM_toR h5).trans (areaM_toR h2).symm, fun k hk h0 h7 j hj e => ?_⟩
  have h8 := List.all_eq_true.1 h6 (ix l k).toNat (List.mem_range.2 (by omega))
  rw [mkA_mem hk h0 h7, Bool.not_true, Bool.false_or, Bool.not_eq_true'] at h8
  have h9 : (rfM m (mkA l m.tris.length)).tris.contains (pix m.tris (ix l k).toNat) = true := by
    rw [List.contains_iff_mem, ← e]
    unfold pix
    rw [List.getD_eq_getElem?_getD, List.getElem?_eq_getElem hj]
    exact List.getElem_mem hj
  rw [h9] at h8
  cases h8
theorem al_fit {m : MeQ} (h : m ∈ csL) : FitM (alM m) ∧ (alM m).tris.length = 4 * m.tris.length ∧ (alM m).pts.length = m.pts.length + (edL m.tris).length := by
  have h1 := al_ok m h
  unfold alB at h1
  simp only [Bool.and_eq_true, decide_eq_true_eq] at h1
  exact ⟨fit_of h1.1, h1.2.1, h1.2.2⟩
end

section
open Go.RowKit

def hasP (t : TriD) (p : Int) : Bool := decide (t.a = p) || (decide (t.b = p) || decide (t.c = p))
/-- The triangles at a point, among the first k. -/
def atTo (ts : List TriD) (p : Int) (k : Nat) : List Int := ((List.range k).filter fun i => hasP (pix ts i) p).map fun i : Nat => (i : Int)
def atA (ts : List TriD) (p : Int) : List Int := atTo ts p ts.length
theorem atTo_yes {ts : List TriD} {p : Int} {k : Nat} (h : hasP (pix ts k) p = true) : atTo ts p (k + 1) = atTo ts p k ++ [(k : Int)] := by
  unfold atTo
  rw [List.range_succ, List.filter_append, List.map_append]
  simp [h]
theorem atTo_no {ts : List TriD} {p : Int} {k : Nat} (h : hasP (pix ts k) p = false) : atTo ts p (k + 1) = atTo ts p k := by
  unfold atTo
  rw [List.range_succ, List.filter_append, List.map_append]
  simp [h]
theorem atTo_len (ts : List TriD) (p : Int) (k : Nat) : (atTo ts p k).length ≤ k := by
  unfold atTo
  rw [List.length_map]
  exact Nat.le_trans (List.length_filter_le _ _) (by simp)
theorem atTo_mem {ts : List TriD} {p : Int} {k : Nat} {x : Int} (h : x ∈ atTo ts p k) : 0 ≤ x ∧ x < k := by
  unfold atTo at h
  obtain ⟨i, hi, rfl⟩ := List.mem_map.1 h
  have := List.mem_range.1 (List.mem_filter.1 hi).1
  omega
/-- The triangle that was bisected into s and t. -/
def prT (s t : TriD) : TriD := ⟨s.b, s.c, t.b, s.region, s.level - 1⟩
def prB (m : MeQ) (k l : Int) : Bool :=
  decide (l = k + 1) && (decide (0 < (pix m.tris k.toNat).level) && (decide (hvA (prT (pix m.tris k.toNat) (pix m.tris l.toNat)) (pix m.tris k.toNat).a = pix m.tris k.toNat) && (decide (hvB (prT (pix m.tris k.toNat) (pix m.tris l.toNat)) (pix m.tris k.toNat).a = pix m.tris l.toNat) &&
    decide (midQ (mc m (pix m.tris k.toNat).c) (mc m (pix m.tris l.toNat).b) = mc m (pix m.tris k.toNat).a))))
/-- Are the first k pairs of a list results of bisections? -/
def prsB (m : MeQ) (l : List Int) : Nat → Bool
  | 0 => true
  | k + 1 => prsB m l k && prB m (ix l (2 * k)) (ix l (2 * k + 1))
def remB (m : MeQ) (p : Int) : Bool :=
  (decide ((atA m.tris p).length = 2) || decide ((atA m.tris p).length = 4)) && (((atA m.tris p).all fun k => decide ((pix m.tris k.toNat).a = p)) && prsB m (atA m.tris p) ((atA m.tris p).length / 2))
def lwI (i p : Int) : Int := if p < i then i - 1 else i
def lwT (t : TriD) (p : Int) : TriD := ⟨lwI t.a p, lwI t.b p, lwI t.c p, t.region, t.level⟩
/-- The triangles behind the removal of a point; is the next one at the point the first of a pair? -/
def rvS (ts : List TriD) (p : Int) (k : Nat) : List TriD × Bool → List TriD × Bool
  | (o, f) => if (pix ts k).a = p then (if f = true then (o ++ [lwT (prT (pix ts k) (pix ts (k + 1))) p], false) else (o, true)) else (o ++ [lwT (pix ts k) p], f)
def rvTo (ts : List TriD) (p : Int) : Nat → List TriD × Bool
  | 0 => ([], true)
  | k + 1 => rvS ts p k (rvTo ts p k)
theorem rvS_eq (ts : List TriD) (p : Int) (k : Nat) : ∀ x, rvS ts p k x = if (pix ts k).a = p then (if x.2 = true then (x.1 ++ [lwT (prT (pix ts k) (pix ts (k + 1))) p], false) else (x.1, true)) else (x.1 ++ [lwT (pix ts k) p], x.2)
  | (_, _) => rfl
theorem rvS_len (ts : List TriD) (p : Int) (k : Nat) (x : List TriD × Bool) : (rvS ts p k x).1.length ≤ x.1.length + 1 := by
  rw [rvS_eq]
  split
  · split
    · simp
    · exact Nat.le_succ _
  · simp
theorem rvTo_len (ts : List TriD) (p : Int) : ∀ k, (rvTo ts p k).1.length ≤ k
  | 0 => Nat.le_refl _
  | k + 1 => Nat.le_trans (rvS_len ts p k _) (Nat.succ_le_succ (rvTo_len ts p k))
theorem rvTo_far {ts : List TriD} {p : Int} {k : Nat} (h : (pix ts k).a ≠ p) : rvTo ts p (k + 1) = ((rvTo ts p k).1 ++ [lwT (pix ts k) p], (rvTo ts p k).2) := by
  show rvS ts p k (rvTo ts p k) = _
  rw [rvS_eq]
  rw [if_neg h]
theorem rvTo_one {ts : List TriD} {p : Int} {k : Nat} (h : (pix ts k).a = p) (hf : (rvTo ts p k).2 = true) : rvTo ts p (k + 1) = ((rvTo ts p k).1 ++ [lwT (prT (pix ts k) (pix ts (k + 1))) p], false) := by
  show rvS ts p k (rvTo ts p k) = _
  rw [rvS_eq]
  rw [if_pos h, if_pos hf]
theorem rvTo_two {ts : List TriD} {p : Int} {k : Nat} (h : (pix ts k).a = p) (hf : (rvTo ts p k).2 = false) : rvTo ts p (k + 1) = ((rvTo ts p k).1, true) := by
  show rvS ts p k (rvTo ts p k) = _
  rw [rvS_eq]
  rw [if_pos h, if_neg (by rw [hf]; decide)]
def rmM (m : MeQ) (p : Int) : MeQ := ⟨m.pts.eraseIdx p.toNat, (rvTo m.tris p m.tris.length).1⟩
/-- Wherever the first of a pair stands, another triangle stands behind it. -/
def rvC (m : MeQ) (p : Int) : Bool := (List.range m.tris.length).all fun k => !(decide ((pix m.tris k).a = p) && (rvTo m.tris p k).2) || decide (k + 1 < m.tris.length)
theorem rvC_at {m : MeQ} {p : Int} (h : rvC m p = true) {k : Nat} (hk : k < m.tris.length) (ha : (pix m.tris k).a = p) (hf : (rvTo m.tris p k).2 = true) : k + 1 < m.tris.length := by
  have h1 := List.all_eq_true.1 h k (List.mem_range.2 hk)
  simpa [ha, hf] using h1
def crS (x : MeQ × Nat) (p : Int) : MeQ × Nat := if remB x.1 p = true then (rmM x.1 p, x.2 + 1) else x
def okS (m : MeQ) (p : Int) : Bool := (decide (0 ≤ p) && decide (p < m.pts.length)) && (!remB m p || (okF (rmM m p) && rvC m p))
def crC : MeQ × Nat → List Int → Bool
  | _, [] => true
  | x, p :: ps => okS x.1 p && crC (crS x p) ps
def crL (m : MeQ) (l : List Int) : List Int := (lsA (mkA l m.pts.length)).reverse
/-- CoarsenMesh: the mesh, and how many points were removed. -/
def crA (m : MeQ) (l : List Int) : MeQ × Nat := (crL m l).foldl crS (m, 0)
theorem crC_at : ∀ {pre : List Int} {x : MeQ × Nat} {p : Int} {ps : List Int}, crC x (pre ++ p :: ps) = true → okS (pre.foldl crS x).1 p = true
  | [], x, p, ps, h => by
    have h : (okS x.1 p && crC (crS x p) ps) = true := h
    rw [Bool.and_eq_true] at h
    exact h.1
  | q :: pre, x, p, ps, h => by
    have h : (okS x.1 q && crC (crS x q) (pre ++ p :: ps)) = true := h
    rw [Bool.and_eq_true] at h
    exact crC_at (pre := pre) h.2
theorem okS_fit {x : MeQ × Nat} {p : Int} (hx : FitM x.1) (h : okS x.1 p = true) : FitM (crS x p).1 := by
  unfold okS at h
  unfold crS
  rw [Bool.and_eq_true] at h
  by_cases hr : remB x.1 p = true
  · rw [hr] at h ⊢
    simp only [Bool.not_true, Bool.false_or, Bool.and_eq_true] at h
    rw [if_pos rfl]
    exact fit_of h.2.1
  · rw [if_neg hr]
    exact hx
theorem crC_fit : ∀ {l : List Int} {x : MeQ × Nat}, FitM x.1 → crC x l = true → ∀ {pre suf : List Int}, l = pre ++ suf → FitM (pre.foldl crS x).1
  | l, x, hx, h, [], suf, e => hx
  | l, x, hx, h, q :: pre, suf, e => by
    subst e
    have h : (okS x.1 q && crC (crS x q) (pre ++ suf)) = true := h
    rw [Bool.and_eq_true] at h
    exact crC_fit (okS_fit hx h.1) h.2 (pre := pre) rfl
/-- The points that were added. -/
def udL (m y : MeQ) : List Int := (List.range (y.pts.length - m.pts.length)).map fun i : Nat => ((m.pts.length + i : Nat) : Int)
def udS (m y : MeQ) : MeQ × Nat := crA y (udL m y)
def udO (m y : MeQ) : Bool := crC (y, 0) (crL y (udL m y))
def udC (m : MeQ) : Nat → MeQ → Bool
  | 0, y => decide (y = m)
  | k + 1, y => udO m y && (if (udS m y).2 = 0 then decide (y = m) else udC m k (udS m y).1)
def udB (m : MeQ) : Bool := udO m (alM m) && (decide (0 < (udS m (alM m)).2) && udC m 4 (udS m (alM m)).1)
end

section
open Go.RowKit

theorem hasP_iff {t : TriD} {p : Int} : hasP t p = true ↔ t.a = p ∨ t.b = p ∨ t.c = p := by
  unfold hasP
  simp only [Bool.or_eq_true, decide_eq_true_eq]
set_option maxRecDepth 100000 in
set_option maxHeartbeats 16000000 in
theorem trianglesAt_any (w : World) {gp n cp gt m ct : Nat} {mq : MeQ} (ht : RdTS w (some ⟨gt, 0, none⟩) m ct mq.tris) (hm : m ≤ 1048576) (p : Int) :
    Calls Tryz.prog 133 #[.agg #[.slice (some ⟨gp, 0, none⟩) n cp, .slice (some ⟨gt, 0, none⟩) m ct], .int .i64 p] w (IntsOw w (atA mq.tris p)) := by
  have hlm := Lib.hid ht.len
  go_enter Tryz.func133, Tryz.ntmps133
  go_upto_region 1 with (fail)
  refine wp_gen (fun W => Bl w W ∧ Blk W w.heap.size 57 #[.slice (some ⟨gp, 0, none⟩) n cp, .slice (some ⟨gt, 0, none⟩) m ct]) ⟨slc, by exact bts⟩ ?_
  rintro W1 ⟨hb1, h2⟩
  go_upto_region 2 with (fail)
  refine wp_gen (fun W3 => Bl W1 W3 ∧ ∃ v c, OwL 3 w.heap.size W3 v (atTo mq.tris p 0) ∧ v = .slice (some ⟨W1.heap.size, 0, none⟩) 0 c ∧ c = 0) ⟨by exact slc, _, 0, OwL.empty W1 hb1.size (by decide), rfl, rfl⟩ ?_
  rintro W3 ⟨hb3, v0, c0, hX, hv0, rfl⟩
  rw [← hv0]
  have h2 := h2.bl hb3
  have hbw := hb1.next hb3
  clear hv0 hb1 hb3
  obtain ⟨r0, r1⟩ := bx2 h2
  go_wp2_with fail
  clear r0 r1 h2
  go_loopw [5, 12] (fun s v wr => ∃ (i : Nat) (o : Value), i ≤ m ∧ v = .int .i64 (i : Int) ∧ o = s ∧ OwL 3 w.heap.size wr o (atTo mq.tris p i) ∧ Bl w wr) (fun _ v _ => m - (intOf v).toNat)
  case atStart => exact ⟨0, v0, by omega, rfl, rfl, hX, hbw⟩
  case round =>
    clear hX hbw
    obtain ⟨i, o, hi, rfl, rfl, hX, hbi⟩ := hrel
    obtain ⟨wj, rfl⟩ : ∃ wj : World, wj = wr := ⟨_, rfl⟩
    have hSl := atTo_len mq.tris p i
    by_cases hin : i < m
    · have hii : (i : Int) < (m : Int) := by omega
      obtain ⟨y0, y1, y2, y3, y4⟩ := trs_lit (RdTS.bl ht hbi) hin
      obtain ⟨t, ht_⟩ : ∃ t, pix mq.tris i = t := ⟨_, rfl⟩
      rw [ht_] at y0 y1 y2 y3 y4
      go_upto_region 5 with (fail)
      refine wp_gen (fun W => Bl wj W ∧ Blk W wj.heap.size 73 #[.int .i64 t.a, .int .i64 t.b, .int .i64 t.c, .int .i64 t.region, .int .i64 t.level]) ⟨slc, by exact bts⟩ ?_
      rintro W ⟨hbq, h7⟩
      have hX := hX.bl hbq
      have hbW := hbi.next hbq
      clear y0 y1 y2 y3 y4
      obtain ⟨z0, z1, z2, z3, z4⟩ := bx5 h7
      by_cases ha : t.a = p
      · have hS2 := Lib.hid (atTo_yes (ts := mq.tris) (p := p) (k := i) (by rw [ht_, hasP_iff]; exact .inl ha))
        have hb0 : (t.a == p) = true := by simpa using ha
        go_wp2_with ((refine wpList_append_intX (w0 := w) info_int Tryz.underlying25 rfl (.tmp 33) (.tmp 35) rfl _ (atTo mq.tris p i) (by rfl) hX hbW 1 (by rfl) (by omega) ?_); intro vx7 w7 hX7 hb7 hoth)
        rw [← hS2.out] at hX7
        go_roundw
        case rel => exact ⟨i + 1, vx7, by omega, by go_num, rfl, hX7, hb7⟩
        case measure => simp [intOf]; omega
      · have hb0 : (t.a == p) = false := by simpa using ha
        by_cases hb : t.b = p
        · have hS2 := Lib.hid (atTo_yes (ts := mq.tris) (p := p) (k := i) (by rw [ht_, hasP_iff]; exact .inr (.inl hb)))
          have hb1 : (t.b == p) = true := by simpa using hb
          go_wp2_with ((refine wpList_append_intX (w0 := w) info_int Tryz.underlying25 rfl (.tmp 33) (.tmp 35) rfl _ (atTo mq.tris p i) (by rfl) hX hbW 1 (by rfl) (by omega) ?_); intro vx7 w7 hX7 hb7 hoth)
          rw [← hS2.out] at hX7
          go_roundw
          case rel => exact ⟨i + 1, vx7, by omega, by go_num, rfl, hX7, hb7⟩
          case measure => simp [intOf]; omega
        · have hb1 : (t.b == p) = false := by simpa using hb
          by_cases hc : t.c = p
          · have hS2 := Lib.hid (atTo_yes (ts := mq.tris) (p := p) (k := i) (by rw [ht_, hasP_iff]; exact .inr (.inr hc)))
            have hb2 : (t.c == p) = true := by simpa using hc
            go_wp2_with ((refine wpList_append_intX (w0 := w) info_int Tryz.underlying25 rfl (.tmp 33) (.tmp 35) rfl _ (atTo mq.tris p i) (by rfl) hX hbW 1 (by rfl) (by omega) ?_); intro vx7 w7 hX7 hb7 hoth)
            rw [← hS2.out] at hX7
            go_roundw
            case rel => exact ⟨i + 1, vx7, by omega, by go_num, rfl, hX7, hb7⟩
            case measure => simp [intOf]; omega
          · have hb2 : (t.c == p) = false := by simpa using hc
            have hS2 := Lib.hid (atTo_no (ts := mq.tris) (p := p) (k := i) (by rw [ht_]; cases hh : hasP t p with | false => rfl | true => rcases hasP_iff.1 hh with h | h | h <;> contradiction))
            go_wp2_with fail
            go_roundw
            case rel => exact ⟨i + 1, o, by omega, by go_num, rfl, by rw [hS2.out]; exact hX, hbW⟩
            case measure => simp [intOf]; omega
    · obtain rfl : m = i := by omega
      have hkm3 : ¬ (m : Int) < (m : Int) := by omega
      obtain ⟨B, c, rfl, hR⟩ := hX.own (by omega)
      go_wp2_with fail
      go_ret
      exact ⟨B, _, c, rfl, by unfold atA; rw [hlm.out]; exact hR, hbi⟩
theorem lwI_yes {i p : Int} (h : p < i) : lwI i p = i - 1 := if_pos h
theorem lwI_no {i p : Int} (h : ¬ p < i) : lwI i p = i := if_neg h
set_option maxHeartbeats 4000000 in
theorem lowered_any (w : World) (i p : Int) (h0 : -1000000 ≤ i) (h1 : i ≤ 1000000) :
    Calls Tryz.prog 132 #[.int .i64 i, .int .i64 p] w fun e w' => e = .returned (.int .i64 (lwI i p)) ∧ Bl w w' := by
  by_cases h : p < i
  · have ee := Lib.hid (lwI_yes h)
    go_enter Tryz.func132, Tryz.ntmps132
    go_wp2_with fail
    go_ret
    exact ⟨by rw [ee.out]; go_num, slc⟩
  · have ee := Lib.hid (lwI_no h)
    go_enter Tryz.func132, Tryz.ntmps132
    go_wp2_with fail
    go_ret
    exact ⟨by rw [ee.out]; rfl, slc⟩
end

section
open Go.RowKit
end

section
open Go.RowKit

theorem tp_inj {p q : Rat × Rat} (h : tp p = tp q) : p = q := by
  have h1 := toR_inj (congrArg PtD.x h)
  have h2 := toR_inj (congrArg PtD.y h)
  exact Prod.ext h1 h2
end

end Go.Proofs.YtajlahjghapbkaaGreat
