/- Lemmas. -/
import Derived.Test.YtajlahjghapbkaaGreatRows
import Derived.Test.YtajlahjghapbkaaGreatPProlongM30
import Derived.Test.YtajlahjghapbkaaGreatPProlongM34
import Derived.Test.YtajlahjghapbkaaGreatPProlongM03
import Derived.Test.YtajlahjghapbkaaGreatPProlongM19
import Derived.Test.YtajlahjghapbkaaGreatPProlongM27
namespace Go.Proofs.YtajlahjghapbkaaGreat
section
open Go.RowKit

def okM (m : MeQ) : Bool :=
  decide ((3 ≤ m.pts.length ∧ m.pts.length ≤ 40) ∧ 1 ≤ m.tris.length ∧ m.tris.length ≤ 48) && (okP m.pts && (decide (PlB m.pts.length (plXs m.pts m.pts.length) (plYs m.pts m.pts.length)) && okT m.pts.length (plXs m.pts m.pts.length) (plYs m.pts m.pts.length) m.tris))
theorem okM_ok {m : MeQ} (h : okM m = true) : MeshOk m := by
  unfold okM at h
  simp only [Bool.and_eq_true, decide_eq_true_eq] at h
  obtain ⟨h1, h2, h3, h4⟩ := h
  exact MeshOk.of m.pts.length _ _ rfl rfl rfl h1 h2 h3 h4
/-- All lists of n flags. -/
def allB : Nat → List (List Bool)
  | 0 => [[]]
  | n + 1 => (allB n).flatMap fun l => [false :: l, true :: l]
theorem mem_allB : ∀ bl : List Bool, bl ∈ allB bl.length
  | [] => by simp [allB]
  | b :: bl => by
    have h := mem_allB bl
    unfold allB
    exact List.mem_flatMap.2 ⟨bl, h, by cases b <;> simp⟩
def csQ0 (r : Int) : MeQ := ⟨[(0, 0), (2, 0), (2, 2), (0, 2), (1, 1)], [⟨4, 0, 1, 0, 0⟩, ⟨4, 1, 2, 0, 0⟩, ⟨4, 2, 3, 1, 0⟩, ⟨4, 3, 0, r, 0⟩]⟩
def csQ1 (r : Int) : MeQ := ⟨[(0, 0), (2, 0), (2, 1), (0, 2)], [⟨1, 2, 0, 0, 0⟩, ⟨3, 0, 2, r, 0⟩]⟩
def csQ2 : MeQ := ⟨[(0, 0), (1, 0), (2, 0), (2, 1), (1, 1), (1, 2), (0, 2), (0, 1)], [⟨1, 4, 0, 0, 0⟩, ⟨7, 0, 4, 0, 0⟩, ⟨3, 4, 2, 0, 0⟩, ⟨1, 2, 4, 1, 0⟩, ⟨7, 4, 6, 0, 0⟩, ⟨5, 6, 4, 2, 0⟩]⟩
def csL : List MeQ := [csQ0 0, csQ0 1, csQ1 0, csQ1 1, csQ1 2, csQ2]
/-- The area of a coarse mesh. -/
def csA (m : MeQ) : Rat := sumQ (aqK m) m.tris.length
/-- The mesh that results where the flagged triangles are bisected. -/
def rfM (m : MeQ) (bl : List Bool) : MeQ := bisM m (lsA (emB m.tris bl))
instance (ts : List TriD) (L : List EdD) : Decidable (EdHas ts L) := by unfold EdHas; infer_instance
/-- What makes a mesh fit to be bisected. -/
def okF (m : MeQ) : Bool := okM m && (decide (EdHas m.tris (edL m.tris)) && decide (∀ k, k < m.pts.length → Sm2 (pix m.pts k)))
def rfB (m : MeQ) (bl : List Bool) : Bool := okF (rfM m bl) && (okA (rfM m bl) (csA m) && (List.range m.tris.length).all fun k => !bgt bl k || !((rfM m bl).tris.contains (pix m.tris k)))
end

section
open Go.RowKit

/-- A mesh that the program calls valid and can bisect. -/
structure FitM (m : MeQ) : Prop where
  ok : MeshOk m
  has : EdHas m.tris (edL m.tris)
  sm : ∀ k, k < m.pts.length → Sm2 (pix m.pts k)
theorem fit_of {m : MeQ} (h : okF m = true) : FitM m := by
  unfold okF at h
  simp only [Bool.and_eq_true, decide_eq_true_eq] at h
  exact ⟨okM_ok h.1, h.2.1, h.2.2⟩
theorem emA_len {ts : List TriD} (l : List Int) (h : ts.length ≤ 48) : (emA ts l).length ≤ 200 := by
  have h1 := lsTo_len (emB ts (mkA l ts.length)) (emB ts (mkA l ts.length)).length
  have h2 : (emB ts (mkA l ts.length)).length = (edL ts).length := emTo_len _ _ _ _
  have h3 := edTo_len ts ts.length
  show (lsTo (emB ts (mkA l ts.length)) (emB ts (mkA l ts.length)).length).length ≤ 200
  have h4 : (edL ts).length ≤ 3 * ts.length := h3
  omega
def MeRT (w : World) (mq : MeQ) (e : Ending) (w' : World) : Prop := ∃ v2, e = .returned (.tuple #[v2, .bool true]) ∧ MeOw w.heap.size w' v2 mq ∧ Bl w w'

set_option maxRecDepth 100000 in
set_option maxHeartbeats 8000000 in
theorem EdgeMarks_yes (w : World) {v : Value} {mq : MeQ} (h : MeAt w v mq) (hf : FitM mq) {B : Option Addr} {kl dl : Nat} {list : List Int} (hl : RdI w B kl dl list) (hk : kl ≤ 1048576) :
    Calls Tryz.prog 64 #[v, .slice B kl dl] w (IntsOw w (emA mq.tris list)) := by
  obtain ⟨gp, n, cp, gt, m, ct, rfl, hp, ht⟩ := h
  have hf := Lib.hid hf; rename_i h_; clear h_
  have hm48 : m ≤ 10000 := by have := hf.out.ok.t48; rw [ht.len] at this; omega
  go_enter Tryz.func64, Tryz.ntmps64
  go_wp2_with fail
  refine calls_gen (fun W => Bl w W ∧ Blk W w.heap.size 57 #[.slice (some ⟨gp, 0, none⟩) n cp, .slice (some ⟨gt, 0, none⟩) m ct]) ⟨slc, bts⟩ ?_
  rintro W ⟨hbW, hM⟩
  refine (IsMesh_yes _ (RdPS.bl hp hbW) (RdTS.bl ht hbW) hf.out.ok).mono ?_
  rintro e w1 ⟨rfl, hb1⟩
  have hM := hM.bl hb1
  have hbW := hbW.next hb1
  clear hb1
  obtain ⟨r0, r1⟩ := bx2 hM
  go_wp2_with fail
  refine (edgeMarks_any _ (RdTS.bl ht hbW) hm48 (hl.bl hbW) hk hf.out.has).mono ?_
  rintro e w2 ⟨A, k, c, rfl, hR, hb2⟩
  go_wp2_with fail
  go_ret
  exact ⟨A, k, c, rfl, hR.mono hbW.size, hbW.next hb2⟩
set_option maxRecDepth 100000 in
set_option maxHeartbeats 16000000 in
theorem BisectEdges_yes (w : World) {v : Value} {mq : MeQ} (h : MeAt w v mq) (hf : FitM mq) {B : Option Addr} {kl dl : Nat} {list : List Int} (hl : RdI w B kl dl list) (hk : kl ≤ 1048576) (ho : MeshOk (bisM mq list)) :
    Calls Tryz.prog 67 #[v, .slice B kl dl] w (MeRT w (bisM mq list)) := by
  obtain ⟨gp, n, cp, gt, m, ct, rfl, hp, ht⟩ := h
  have hf := Lib.hid hf; rename_i h_; clear h_
  have ho := Lib.hid ho; rename_i h_; clear h_
  go_enter Tryz.func67, Tryz.ntmps67
  go_wp2_with fail
  refine calls_gen (fun W => Bl w W ∧ Blk W w.heap.size 57 #[.slice (some ⟨gp, 0, none⟩) n cp, .slice (some ⟨gt, 0, none⟩) m ct] ∧ Wk 2 57 (w.heap.size + 1) W) ⟨slc, bts, bts⟩ ?_
  rintro W ⟨hbW, hM, hr⟩
  refine (IsMesh_yes _ (RdPS.bl hp hbW) (RdTS.bl ht hbW) hf.out.ok).mono ?_
  rintro e w1 ⟨rfl, hb1⟩
  have hM := hM.bl hb1
  have hr := hr.bl hb1
  have hbW := hbW.next hb1
  clear hb1
  obtain ⟨r0, r1⟩ := bx2 hM
  go_wp2_with fail
  clear r0 r1
  refine (bisect_any _ (RdPS.bl hp hbW) (RdTS.bl ht hbW) hf.out.ok hf.out.has hf.out.sm (hl.bl hbW) hk).mono ?_
  rintro e w2 ⟨_, rfl, hO, hb2⟩
  obtain ⟨gp2, n2, cp2, gt2, m2, ct2, rfl, hP2, hT2⟩ := hO.1
  have hlt : w.heap.size + 1 < w1.heap.size := hr.lt
  have hr := hr.bl hb2
  have hbW := hbW.next hb2
  clear hM hb2
  go_upto_region 4 with (fail)
  refine wp_gen (fun W => Bl w2 W ∧ Blk W w2.heap.size 57 #[.slice (some ⟨gp2, 0, none⟩) n2 cp2, .slice (some ⟨gt2, 0, none⟩) m2 ct2]) ⟨slc, by exact bts⟩ ?_
  rintro W3 ⟨hb3, hM⟩
  have hr := hr.bl hb3
  have hbW := hbW.next hb3
  have hP2 := RdPS.bl hP2 hb3
  have hT2 := RdTS.bl hT2 hb3
  have hO := hO.bl hb3
  clear hb3
  obtain ⟨r0, r1⟩ := bx2 hM
  go_wp2_with fail
  clear r0 r1
  refine (IsMesh_yes _ hP2 hT2 ho.out).mono ?_
  rintro e w4 ⟨rfl, hb4⟩
  have hM := hM.bl hb4
  have hr := hr.bl hb4
  have hbW := hbW.next hb4
  have hO := hO.bl hb4
  clear hb4
  obtain ⟨r0, r1⟩ := bx2 hM
  obtain ⟨v0, x0⟩ := hr.val_ (i := 0) (by omega)
  obtain ⟨v1, x1⟩ := hr.val_ (i := 1) (by omega)
  have hg := hr.lt
  obtain ⟨cs4, hB4, hc4⟩ := hr
  have hf0 := hB4.frozen 0
  have hf1 := hB4.frozen 1
  go_wp2_with fail
  exact bodyPost_ret (v := .tuple #[.agg #[.slice (some ⟨gp2, 0, none⟩) n2 cp2, .slice (some ⟨gt2, 0, none⟩) m2 ct2], .bool true]) (by simp [results, Tryz.results67, go_sem, x0, x1]) rfl ⟨_, rfl, MeOw.low (MeOw.setLow (MeOw.setLow hO (q := ⟨w.heap.size + 1, 0, none⟩) hlt _) (q := ⟨w.heap.size + 1, 1, none⟩) hlt _) (by omega), slc⟩
set_option maxRecDepth 100000 in
set_option maxHeartbeats 16000000 in
theorem RefineMesh_yes (w : World) {v : Value} {mq : MeQ} (h : MeAt w v mq) (hf : FitM mq) {B : Option Addr} {kl dl : Nat} {list : List Int} (hl : RdI w B kl dl list) (hk : kl ≤ 1048576) (ho : MeshOk (bisM mq (emA mq.tris list))) :
    Calls Tryz.prog 47 #[v, .slice B kl dl] w (MeRT w (bisM mq (emA mq.tris list))) := by
  have hMe := h
  obtain ⟨gp, n, cp, gt, m, ct, rfl, hp, ht⟩ := h
  have hem := emA_len (ts := mq.tris) list hf.ok.t48
  have hf := Lib.hid hf; rename_i h_; clear h_
  have ho := Lib.hid ho; rename_i h_; clear h_
  go_enter Tryz.func47, Tryz.ntmps47
  go_wp2_with fail
  refine wp_gen (fun W => Bl w W ∧ Blk W w.heap.size 57 #[.slice (some ⟨gp, 0, none⟩) n cp, .slice (some ⟨gt, 0, none⟩) m ct] ∧ Wk 2 57 (w.heap.size + 1) W) ⟨slc, bts, bts⟩ ?_
  rintro W ⟨hbW, hM, hr⟩
  have hlt := hr.lt
  go_region_held3 (fun w' => (w'.cell? ⟨w.heap.size, 0, none⟩ = some (.slice (some ⟨gp, 0, none⟩) n cp) ∧ w'.cell? ⟨w.heap.size, 1, none⟩ = some (.slice (some ⟨gt, 0, none⟩) m ct)) ∧ (w'.cell? ⟨w.heap.size + 1, 0, none⟩ = some (cellD w' (w.heap.size + 1) 0) ∧ w'.cell? ⟨w.heap.size + 1, 1, none⟩ = some (cellD w' (w.heap.size + 1) 1)) ∧ w'.frozen? ⟨w.heap.size + 1, 0, none⟩ = false ∧ w'.frozen? ⟨w.heap.size + 1, 1, none⟩ = false) (first | exact ⟨bx2 (T := 57) bts, Wk.out2 (T := 57) bts⟩) (first | (go_at_call 64; refine (EdgeMarks_yes _ (MeAt.bl hMe slc) hf.out (RdI.bl hl slc) hk).mono ?_; rintro e w3 ⟨A3, n3, c3, rfl, hR3, hb3⟩) | (go_at_call 67; refine (BisectEdges_yes _ (MeAt.bl hMe slc) hf.out (RdI.bl hR3.rd slc) (by have h := hR3.rd.len; omega) ho.out).mono ?_; rintro e w4 ⟨_, rfl, hO, hb4⟩; (obtain ⟨gp2, n2, cp2, gt2, m2, ct2, rfl, hP2, hT2⟩ := hO.1)))
  have hz3 : W.heap.size ≤ w3.heap.size := Bl.size (show Bl W w3 from slc)
  have hlt3 : w.heap.size + 1 < w3.heap.size := by omega
  have hr := (show Wk 2 57 (w.heap.size + 1) w4 from bts)
  have hbW : Bl w w4 := slc
  obtain ⟨v0, x0⟩ := hr.val_ (i := 0) (by omega)
  obtain ⟨v1, x1⟩ := hr.val_ (i := 1) (by omega)
  have hg := hr.lt
  obtain ⟨cs4, hB4, hc4⟩ := hr
  have hf0 := hB4.frozen 0
  have hf1 := hB4.frozen 1
  go_wp2_with fail
  exact bodyPost_ret (v := .tuple #[.agg #[.slice (some ⟨gp2, 0, none⟩) n2 cp2, .slice (some ⟨gt2, 0, none⟩) m2 ct2], .bool true]) (by simp [results, Tryz.results47, go_sem, x0, x1]) rfl ⟨_, rfl, MeOw.low (MeOw.setLow (MeOw.setLow hO (q := ⟨w.heap.size + 1, 0, none⟩) hlt3 _) (q := ⟨w.heap.size + 1, 1, none⟩) hlt3 _) (by omega), slc⟩
end

section
open Go.RowKit
instance : Inhabited MeQ := ⟨⟨[], []⟩⟩

theorem cs_ok : ∀ m ∈ csL, okF m = true ∧ okA m (csA m) = true := by decide +kernel
theorem rf_ok0 : ∀ bl ∈ allB (pix csL 0).tris.length, rfB (pix csL 0) bl = true := by decide +kernel
theorem rf_ok1 : ∀ bl ∈ allB (pix csL 1).tris.length, rfB (pix csL 1) bl = true := by decide +kernel
theorem rf_ok2 : ∀ bl ∈ allB (pix csL 2).tris.length, rfB (pix csL 2) bl = true := by decide +kernel
theorem rf_ok3 : ∀ bl ∈ allB (pix csL 3).tris.length, rfB (pix csL 3) bl = true := by decide +kernel
theorem rf_ok4 : ∀ bl ∈ allB (pix csL 4).tris.length, rfB (pix csL 4) bl = true := by decide +kernel
theorem rf_ok5 : ∀ bl ∈ allB (pix csL 5).tris.length, rfB (pix csL 5) bl = true := by decide +kernel
end

section
open Go.RowKit

theorem bgt_set_same {bl : List Bool} {i : Nat} (h : i < bl.length) (x : Bool) : bgt (bl.set i x) i = x := by rw [← bgt_set rfl x i h, if_pos rfl]
theorem bgt_set_true {bl : List Bool} {i k : Nat} (h : i < bl.length) (hb : bgt bl i = true) : bgt (bl.set k true) i = true := by
  rw [← bgt_set rfl true i h]
  split
  · rfl
  · exact hb
theorem mkTo_keep {l : List Int} {n i : Nat} (hi : i < n) : ∀ {k d : Nat}, bgt (mkTo l n k) i = true → bgt (mkTo l n (k + d)) i = true
  | k, 0, h => h
  | k, d + 1, h => by
    have h1 := mkTo_keep hi (d := d) h
    show bgt (mkTo l n (k + d + 1)) i = true
    unfold mkTo
    split
    · exact bgt_set_true (by rw [mkTo_len]; exact hi) h1
    · exact h1
theorem mkA_mem {l : List Int} {n k : Nat} (hk : k < l.length) (h0 : 0 ≤ ix l k) (h1 : ix l k < n) : bgt (mkA l n) (ix l k).toNat = true := by
  have h2 : bgt (mkTo l n (k + 1)) (ix l k).toNat = true := by
    unfold mkTo
    rw [if_pos ⟨h0, by omega⟩]
    exact bgt_set_same (by rw [mkTo_len]; omega) true
  have h3 := mkTo_keep (l := l) (n := n) (i := (ix l k).toNat) (by omega) (d := l.length - (k + 1)) h2
  rwa [show k + 1 + (l.length - (k + 1)) = l.length by omega] at h3
theorem cs_ix {m : MeQ} (h : m ∈ csL) : ∃ i, i < 6 ∧ m = pix csL i := by
  obtain ⟨i, hi, rfl⟩ := List.getElem_of_mem h
  refine ⟨i, hi, ?_⟩
  unfold pix
  rw [List.getD_eq_getElem?_getD, List.getElem?_eq_getElem hi]
  rfl
theorem rf_ok {m : MeQ} (h : m ∈ csL) (l : List Int) : rfB m (mkA l m.tris.length) = true := by
  obtain ⟨i, hi, rfl⟩ := cs_ix h
  have hmem : mkA l (pix csL i).tris.length ∈ allB (pix csL i).tris.length := by
    have h1 := mem_allB (mkA l (pix csL i).tris.length)
    rwa [mkA_len] at h1
  rcases (show i = 0 ∨ i = 1 ∨ i = 2 ∨ i = 3 ∨ i = 4 ∨ i = 5 by omega) with rfl | rfl | rfl | rfl | rfl | rfl
  · exact rf_ok0 _ hmem
  · exact rf_ok1 _ hmem
  · exact rf_ok2 _ hmem
  · exact rf_ok3 _ hmem
  · exact rf_ok4 _ hmem
  · exact rf_ok5 _ hmem
/-- What a refinement of a coarse mesh is. -/
structure RefOk (m : MeQ) (l : List Int) : Prop where
  fit : FitM m
  fitX : FitM (bisM m (emA m.tris l))
  area : areaM (bisM m (emA m.tris l)) = areaM m
  new : ∀ k, k < l.length → 0 ≤ ix l k → ix l k < m.tris.length → ∀ j, j < (bisM m (emA m.tris l)).tris.length → pix (bisM m (emA m.tris l)).tris j ≠ pix m.tris (ix l k).toNat
theorem ref_ok {m : MeQ} (h : m ∈ csL) (l : List Int) : RefOk m l := by
  obtain ⟨h1, h2⟩ := cs_ok m h
  have h3 := rf_ok h l
  unfold rfB at h3
  simp only [Bool.and_eq_true] at h3
  obtain ⟨h4, h5, h6⟩ := h3
  refine ⟨fit_of h1, fit_of h4, (areaM_toR h5).trans (areaM_toR h2).symm, fun k hk h0 h7 j hj e => ?_⟩
  have h8 := List.all_eq_true.1 h6 (ix l k).toNat (List.mem_range.2 (by omega))
  rw [mkA_mem hk h0 h7, Bool.not_true, Bool.false_or, Bool.not_eq_true'] at h8
  have h9 : (rfM m (mkA l m.tris.length)).tris.contains (pix m.tris (ix l k).toNat) = true := by
    rw [List.contains_iff_mem, ← e]
    unfold pix
    rw [List.getD_eq_getElem?_getD, List.getElem?_eq_getElem hj]
    exact List.getElem_mem hj
  rw [h9] at h8
  cases h8
end

section
open Go.RowKit

/-- Which edges of a mesh have their middle among the points of another. -/
def inB (m x : MeQ) : List Bool := (List.range (edL m.tris).length).map fun k : Nat => x.pts.contains (mdP m (edL m.tris) (k : Int))
def rmL (m x : MeQ) : List Int := lsTo (inB m x) (edL m.tris).length
def rmB (m x : MeQ) (l : List Int) : Bool := decide (bisM m l = x) && decide (x.pts = m.pts ++ l.map (mdP m (edL m.tris)))
def rmC (m : MeQ) (bl : List Bool) : Bool := rmB m (rfM m bl) (rmL m (rfM m bl))
theorem rm_ok0 : ∀ bl ∈ allB (pix csL 0).tris.length, rmC (pix csL 0) bl = true := by decide +kernel
theorem rm_ok1 : ∀ bl ∈ allB (pix csL 1).tris.length, rmC (pix csL 1) bl = true := by decide +kernel
theorem rm_ok2 : ∀ bl ∈ allB (pix csL 2).tris.length, rmC (pix csL 2) bl = true := by decide +kernel
theorem rm_ok3 : ∀ bl ∈ allB (pix csL 3).tris.length, rmC (pix csL 3) bl = true := by decide +kernel
theorem rm_ok4 : ∀ bl ∈ allB (pix csL 4).tris.length, rmC (pix csL 4) bl = true := by decide +kernel
theorem rm_ok5 : ∀ bl ∈ allB (pix csL 5).tris.length, rmC (pix csL 5) bl = true := by decide +kernel
end

section
open Go.RowKit

/-- The numbers of the marked edges are found again in the refinement. -/
structure RmOk (m x : MeQ) : Prop where
  eq : bisM m (rmL m x) = x
  pts : x.pts = m.pts ++ (rmL m x).map (mdP m (edL m.tris))
theorem rm_ok {m : MeQ} (h : m ∈ csL) (l : List Int) : RmOk m (bisM m (emA m.tris l)) := by
  have h3 : rmC m (mkA l m.tris.length) = true := by
    obtain ⟨i, hi, rfl⟩ := cs_ix h
    have hmem : mkA l (pix csL i).tris.length ∈ allB (pix csL i).tris.length := by
      have h1 := mem_allB (mkA l (pix csL i).tris.length)
      rwa [mkA_len] at h1
    rcases (show i = 0 ∨ i = 1 ∨ i = 2 ∨ i = 3 ∨ i = 4 ∨ i = 5 by omega) with rfl | rfl | rfl | rfl | rfl | rfl
    · exact rm_ok0 _ hmem
    · exact rm_ok1 _ hmem
    · exact rm_ok2 _ hmem
    · exact rm_ok3 _ hmem
    · exact rm_ok4 _ hmem
    · exact rm_ok5 _ hmem
  unfold rmC rmB at h3
  simp only [Bool.and_eq_true, decide_eq_true_eq] at h3
  exact ⟨h3.1, h3.2⟩
theorem bgt_inB {m x : MeQ} {k : Nat} (h : k < (edL m.tris).length) : bgt (inB m x) k = x.pts.contains (mdP m (edL m.tris) (k : Int)) := by
  unfold bgt inB
  rw [List.getD_eq_getElem?_getD, List.getElem?_map, List.getElem?_range h]
  rfl
/-- The parents of the points. -/
def paL (m : MeQ) (l : List Int) : List (List Int) := (List.range m.pts.length).map (fun i : Nat => [(i : Int)]) ++ l.map fun k => [(pix (edL m.tris) k.toNat).a, (pix (edL m.tris) k.toNat).b]
theorem tp_inj {p q : Rat × Rat} (h : tp p = tp q) : p = q := by
  have h1 := toR_inj (congrArg PtD.x h)
  have h2 := toR_inj (congrArg PtD.y h)
  exact Prod.ext h1 h2
end

section
open Go.RowKit

theorem info_is : (Tryz.prog.info? 25).map (fun i => (i.zero, i.size, i.bytes)) = some (some (.slice none 0 0), 1, 24) := by kernel_rfl
/-- The cell i of a block holds a list of numbers. -/
def IsIn (T : TypeId) (w : World) (cs : Array Value) (i : Nat) (l : List Int) (bs : List Nat) : Prop := ∃ g n c, cs[i]? = some (.slice (some ⟨g, 0, none⟩) n c) ∧ FtI T w (some ⟨g, 0, none⟩) n c l bs
theorem isIn_keep (T : TypeId) : KeepE 1 (IsIn T) := by
  intro w W cs cs' i i' x bs h hc hs hb
  obtain ⟨A, n, c, h0, h1⟩ := h
  exact ⟨A, n, c, (hc 0 (by omega)).trans h0, h1.keep hs hb⟩
/-- One cell that holds a list of numbers. -/
def IsAt (w : World) (p : Addr) (l : List Int) : Prop := ∃ g n c, w.cell? p = some (.slice (some ⟨g, 0, none⟩) n c) ∧ RdI w (some ⟨g, 0, none⟩) n c l
theorem IsAt.bl {w W : World} {p : Addr} {l : List Int} (h : IsAt w p l) (hp : p.block < w.heap.size) (hb : Bl w W) : IsAt W p l := by
  obtain ⟨A, n, c, h0, h1⟩ := h
  exact ⟨A, n, c, by rw [hb.cellOf hp]; exact h0, h1.bl hb⟩
abbrev RdII := RdS 1 IsAt
theorem RdII.bl {w W : World} {A : Option Addr} {n c : Nat} {l : List (List Int)} (h : RdII w A n c l) (hb : Bl w W) : RdII W A n c l := RdS.bl (fun h hp hb => h.bl hp hb) h hb
/-- A row of rows of numbers. -/
abbrev RowI (N : List Nat → Prop) (lo hi : Nat) (w : World) (v : Value) (l : List (List Int)) : Prop := RowG N 25 1 (IsIn 3) lo hi w v l
theorem RowI.rd {N : List Nat → Prop} {lo hi : Nat} {w : World} {v : Value} {l : List (List Int)} (h : RowI N lo hi w v l) (hl : l.length ≤ 1048576) (hl0 : 0 < l.length) : ∃ g c, v = .slice (some ⟨g, 0, none⟩) l.length c ∧ RdII w (some ⟨g, 0, none⟩) l.length c l := by
  obtain ⟨cells, fs, r1, r2, r3, r4, r5, r6, r7⟩ := h
  rcases r1.2 with ⟨rfl, h0⟩ | ⟨g, cap, cur, rfl, hg, hh, hn, hcap, hcs, ht⟩
  · omega
  · refine ⟨_, cap, rfl, rfl, hn, by omega, fun k hk => ⟨_, rfl, heap_lt hh, ?_⟩⟩
    obtain ⟨A, n, c, h0, h1⟩ := r4 k hk
    refine ⟨A, n, c, ?_, h1.1⟩
    rw [Nat.mul_one, Addr.add_lit, Nat.zero_add]
    rw [Nat.mul_one] at h0
    refine (show World.cell? w ⟨g, k, none⟩ = cur[k]? from Blk.cell (T := 25) hh k).trans ?_
    rw [← h0, ← ht]
    simp [hk]
/-- The parents of points and the marks of edges, while they are being built. -/
def PM (lo : Nat) (w : World) (vp vm : Value) (L : List (List Int)) (M : List Int) : Prop :=
  RowI (Sep vm) lo w.heap.size w vp L ∧ OwL 3 lo w vm M ∧ ∀ g, vm.ownBlock = Option.some g → vp.ownBlock ≠ Option.some g
section
variable {lo : Nat} {w W w' : World} {vp vm vp' vm' : Value} {L L' : List (List Int)} {M M' : List Int}
theorem PM.start (w : World) (h : lo ≤ w.heap.size) : PM lo ((w.alloc (.cells #[] 3)).alloc (.cells #[] 25)) (.slice (some ⟨w.heap.size + 1, 0, none⟩) 0 0) (.slice (some ⟨w.heap.size, 0, none⟩) 0 0) [] [] := by
  refine ⟨?_, ?_, ?_⟩
  · have h1 := RowG.empty (α := List Int) (N := Sep (.slice (some ⟨w.heap.size, 0, none⟩) 0 0)) (TP := 25) (size := 1) (lo := lo) (El := IsIn 3) (appN_sep _) (w.alloc (.cells #[] 3)) (by simp; omega)
    have e : (w.alloc (.cells #[] 3)).heap.size = w.heap.size + 1 := by simp
    have e2 : ((w.alloc (.cells #[] 3)).alloc (.cells #[] 25)).heap.size = w.heap.size + 1 + 1 := by simp
    rw [e2]
    rw [e] at h1
    exact h1
  · exact OwL.alloc (OwL.empty w h (Nat.zero_le _)) _
  · intro g e e2
    have a : w.heap.size = g := by injection e
    have b : w.heap.size + 1 = g := by injection e2
    omega
theorem PM.bl (h : PM lo w vp vm L M) (hb : Bl w W) : PM lo W vp vm L M :=
  ⟨(RowG.bl (isIn_keep 3) h.1 hb).up hb.size (Nat.le_refl _), h.2.1.bl hb, h.2.2⟩
theorem PM.afterM (h : PM lo w vp vm L M) (h1 : OwL 3 lo w' vm' M') (ho : ∀ g, g < w.heap.size → vm.ownBlock ≠ Option.some g → w'.heap[g]? = w.heap[g]? ∧ vm'.ownBlock ≠ Option.some g) (hs : w.heap.size ≤ w'.heap.size) : PM lo w' vp vm' L M' :=
  ⟨(RowG.keepX (isIn_keep 3) h.1 hs (fun g e => (ho g (h.1.lo e).2 fun e2 => h.2.2 g e2 e).1) fun _ hn hb => ⟨fun b hm => (ho b (hb b hm).2 fun e => hn.2 b e hm).1, hn.1, fun g e hm => (ho g (hb g hm).2 fun e2 => hn.2 g e2 hm).2 e⟩).up hs (Nat.le_refl _), h1, fun g e e2 => (ho g (h.1.lo e2).2 fun e3 => h.2.2 g e3 e2).2 e⟩
theorem PM.afterP (h : PM lo w vp vm L M) (h1 : RowI (Sep vm) lo w'.heap.size w' vp' L') (ho : ∀ g, g < w.heap.size → vp.ownBlock ≠ Option.some g → w'.heap[g]? = w.heap[g]? ∧ vp'.ownBlock ≠ Option.some g) : PM lo w' vp' vm L' M :=
  ⟨h1, h.2.1.keepX fun g e => (ho g (h.2.1.blk e).2 (h.2.2 g e)).1, fun g e => (ho g (h.2.1.blk e).2 (h.2.2 g e)).2⟩
end
theorem wpList_append_pmM {w0 W : World} {x0 : Int} {vp vm : Value} {L : List (List Int)} {M : List Int} {ops : Array Oper} {rest : List Oper} {o : Oper} {a : Act} {Q : Exit → Act → World → Prop} (hgd : o.guard = none) (s x : Operand)
    (ho : o.op = .call { callee := .builtin .append, args := #[s, x], argTypes := #[25, 25] }) (hs : a.eval s = vm) (hpm : PM w0.heap.size W vp vm L M) (hb : Bl w0 W)
    (c : Nat) (hx : a.eval x = .slice (some ⟨W.heap.size, 0, none⟩) 1 c) (hlen : M.length ≤ 1099511627776)
    (h : ∀ vm' w', PM w0.heap.size w' vp vm' L (M ++ [x0]) → Bl w0 w' → (W.heap.size ≤ w'.heap.size ∧ ∀ g, g < W.heap.size → vm.ownBlock ≠ Option.some g → w'.heap[g]? = W.heap[g]? ∧ vm'.ownBlock ≠ Option.some g) → wpList Tryz.prog ops Q rest (a.put o.dst vm') w') : wpList Tryz.prog ops Q (o :: rest) a (W.alloc (.cells #[.int .i64 x0] 3)) := by
  obtain ⟨i0, hi, hz0, hz1, hz2⟩ := info_parts info_int
  have ho' := hpm.2.1.alloc (.cells #[.int .i64 x0] 3)
  have hbs : w0.heap.size ≤ (W.alloc (.cells #[.int .i64 x0] 3)).heap.size := by have := hb.size; simp; omega
  have hsz2 : (W.alloc (.cells #[.int .i64 x0] 3)).heap.size = W.heap.size + 1 := by simp
  refine wpList_append_own_at _ hgd s x 25 ho w0.heap.size 3 i0 (.int .i64 0) 1 8 Tryz.underlying25 hi hz0 hz1 hz2 rfl (by omega) vm M.length (M.map (Value.int .i64)) hs ho' ⟨W.heap.size, 0, none⟩ 1 c [.int .i64 x0] hx rfl (cell_one_new _ _ _) (by intro u hu; simp at hu; subst hu; rfl) (by simp only [maxLen]; omega) (by omega) hbs ?_
  intro v' w' g1 g2 _ g4
  have hown' : ∀ b, v'.ownBlock = Option.some b → (vm.ownBlock = Option.some b ∨ b = W.heap.size + 1) := by
    intro b e
    rcases g4 with g4 | g4
    · exact .inl (by rw [← g4]; exact e)
    · rw [g4] at e; injection e with e; right; omega
  have hsz3 := g2.size
  have hoth : ∀ g, g < W.heap.size → vm.ownBlock ≠ Option.some g → w'.heap[g]? = W.heap[g]? ∧ v'.ownBlock ≠ Option.some g := fun g hg hn => ⟨(g2.block g (by omega) (fun e => hn e.symm)).trans (Below.heap_alloc W _ g hg), fun e => by rcases hown' g e with e | e; exact hn e; omega⟩
  have hO : OwL 3 w0.heap.size w' v' (M ++ [x0]) := by
    unfold OwL
    simpa using g1
  exact h v' w' (PM.afterM hpm hO hoth (by omega)) ((hb.alloc _).grown g2 ho'.blockLe) ⟨by omega, hoth⟩
theorem wpList_append_pmP {w0 W0 : World} (p : List Int) (k : Nat) (hk : p.length = k) (hk0 : 0 < k) (hk9 : k ≤ 1000) {vp vm : Value} {L : List (List Int)} {M : List Int} {ops : Array Oper} {rest : List Oper} {o : Oper} {a : Act} {Q : Exit → Act → World → Prop} (hgd : o.guard = none) (s x : Operand)
    (ho : o.op = .call { callee := .builtin .append, args := #[s, x], argTypes := #[83, 83] }) (hs : a.eval s = vp) (hpm : PM w0.heap.size W0 vp vm L M) (hb : Bl w0 W0)
    (c : Nat) (hx : a.eval x = .slice (some ⟨W0.heap.size + 1, 0, none⟩) 1 c) (hlen : L.length ≤ 1048576)
    (h : ∀ vp' w', PM w0.heap.size w' vp' vm (L ++ [p]) M → Bl w0 w' → (W0.heap.size ≤ w'.heap.size ∧ ∀ g, g < W0.heap.size → vp.ownBlock ≠ Option.some g → w'.heap[g]? = W0.heap[g]? ∧ vp'.ownBlock ≠ Option.some g) → wpList Tryz.prog ops Q rest (a.put o.dst vp') w') : wpList Tryz.prog ops Q (o :: rest) a ((W0.alloc (.cells (p.map (Value.int .i64)).toArray 3)).alloc (.cells #[.slice (some ⟨W0.heap.size, 0, none⟩) k k] 25)) := by
  obtain ⟨W, hW⟩ : ∃ W, W0.alloc (.cells (p.map (Value.int .i64)).toArray 3) = W := ⟨_, rfl⟩
  have hOw : Ow 3 W W0.heap.size p := by rw [← hW]; exact heap_alloc_new W0 _
  have hsz : W.heap.size = W0.heap.size + 1 := by rw [← hW]; simp
  have hbW : Bl W0 W := by rw [← hW]; exact (Bl.refl W0).alloc _
  have hft : FtI 3 W (some ⟨W0.heap.size, 0, none⟩) k k p [W0.heap.size] := by
    subst hk
    exact ⟨hOw.rd (by omega) (Nat.le_refl _), .inr ⟨_, _, hk0, rfl, hOw, by simp, rfl⟩⟩
  rw [hW]
  have hvm : ∀ g, vm.ownBlock = Option.some g → g < W0.heap.size := fun g e => (hpm.2.1.blk e).2
  refine wpList_append_rowS (appN_sep vm) (isIn_keep 3) info_is (by rfl) (by omega) (by omega) Tryz.underlying83 hgd s x ho vp hs (RowG.bl (isIn_keep 3) hpm.1 hbW) (p := p) (bs := [W0.heap.size]) ⟨_, _, _, rfl, hft⟩ rfl (by simp [Value.oneCell']) (fun b hm => by simp at hm; omega) ⟨by simp, fun g e hm => by simp at hm; have := hvm g e; omega⟩ hb.size c (by rw [hsz]; exact hx) hlen w0 (hb.next hbW) (Nat.le_refl _) ?_
  intro v' w' h1 h2 _ h4
  have hoth : ∀ g, g < W0.heap.size → vp.ownBlock ≠ Option.some g → w'.heap[g]? = W0.heap[g]? ∧ v'.ownBlock ≠ Option.some g := fun g hg hn => ⟨(h4.2 g (by omega) hn).1.trans (Below.block hbW g hg), (h4.2 g (by omega) hn).2⟩
  exact h v' w' (PM.afterP hpm h1 hoth) h2 ⟨by omega, hoth⟩
end

end Go.Proofs.YtajlahjghapbkaaGreat
