/- Lemmas. -/
import Derived.Test.YtajlahjghapbkaaGreatRows
import Derived.Test.YtajlahjghapbkaaGreatPRefineM33
import Derived.Test.YtajlahjghapbkaaGreatPRefineM37
import Derived.Test.YtajlahjghapbkaaGreatPRefineM36
import Derived.Test.YtajlahjghapbkaaGreatPRefineM24
namespace Go.Proofs.YtajlahjghapbkaaGreat
section
open Go.RowKit

def okM (m : MeQ) : Bool :=
  decide ((3 ≤ m.pts.length ∧ m.pts.length ≤ 40) ∧ 1 ≤ m.tris.length ∧ m.tris.length ≤ 48) && (okP m.pts && (decide (PlB m.pts.length (plXs m.pts m.pts.length) (plYs m.pts m.pts.length)) && okT m.pts.length (plXs m.pts m.pts.length) (plYs m.pts m.pts.length) m.tris))
theorem okM_ok {m : MeQ} (h : okM m = true) : MeshOk m := by
  unfold okM at h
  simp only [Bool.and_eq_true, decide_eq_true_eq] at h
  obtain ⟨h1, h2, h3, h4⟩ := h
  exact MeshOk.of m.pts.length _ _ rfl rfl rfl h1 h2 h3 h4
/-- All lists of n flags. -/
def allB : Nat → List (List Bool)
  | 0 => [[]]
  | n + 1 => (allB n).flatMap fun l => [false :: l, true :: l]
theorem mem_allB : ∀ bl : List Bool, bl ∈ allB bl.length
  | [] => by simp [allB]
  | b :: bl => by
    have h := mem_allB bl
    unfold allB
    exact List.mem_flatMap.2 ⟨bl, h, by cases b <;> simp⟩
def csQ0 (r : Int) : MeQ := ⟨[(0, 0), (2, 0), (2, 2), (0, 2), (1, 1)], [⟨4, 0, 1, 0, 0⟩, ⟨4, 1, 2, 0, 0⟩, ⟨4, 2, 3, 1, 0⟩, ⟨4, 3, 0, r, 0⟩]⟩
def csQ1 (r : Int) : MeQ := ⟨[(0, 0), (2, 0), (2, 1), (0, 2)], [⟨1, 2, 0, 0, 0⟩, ⟨3, 0, 2, r, 0⟩]⟩
def csQ2 : MeQ := ⟨[(0, 0), (1, 0), (2, 0), (2, 1), (1, 1), (1, 2), (0, 2), (0, 1)], [⟨1, 4, 0, 0, 0⟩, ⟨7, 0, 4, 0, 0⟩, ⟨3, 4, 2, 0, 0⟩, ⟨1, 2, 4, 1, 0⟩, ⟨7, 4, 6, 0, 0⟩, ⟨5, 6, 4, 2, 0⟩]⟩
def csL : List MeQ := [csQ0 0, csQ0 1, csQ1 0, csQ1 1, csQ1 2, csQ2]
/-- The area of a coarse mesh. -/
def csA (m : MeQ) : Rat := sumQ (aqK m) m.tris.length
/-- The mesh that results where the flagged triangles are bisected. -/
def rfM (m : MeQ) (bl : List Bool) : MeQ := bisM m (lsA (emB m.tris bl))
def alM (m : MeQ) : MeQ := bisM m ((List.range (edL m.tris).length).map fun i : Nat => (i : Int))
instance (ts : List TriD) (L : List EdD) : Decidable (EdHas ts L) := by unfold EdHas; infer_instance
/-- What makes a mesh fit to be bisected. -/
def okF (m : MeQ) : Bool := okM m && (decide (EdHas m.tris (edL m.tris)) && decide (∀ k, k < m.pts.length → Sm2 (pix m.pts k)))
def rfB (m : MeQ) (bl : List Bool) : Bool := okF (rfM m bl) && (okA (rfM m bl) (csA m) && (List.range m.tris.length).all fun k => !bgt bl k || !((rfM m bl).tris.contains (pix m.tris k)))
def alB (m : MeQ) : Bool := okF (alM m) && (decide ((alM m).tris.length = 4 * m.tris.length) && decide ((alM m).pts.length = m.pts.length + (edL m.tris).length))
end

section
open Go.RowKit

/-- A mesh that the program calls valid and can bisect. -/
structure FitM (m : MeQ) : Prop where
  ok : MeshOk m
  has : EdHas m.tris (edL m.tris)
  sm : ∀ k, k < m.pts.length → Sm2 (pix m.pts k)
theorem fit_of {m : MeQ} (h : okF m = true) : FitM m := by
  unfold okF at h
  simp only [Bool.and_eq_true, decide_eq_true_eq] at h
  exact ⟨okM_ok h.1, h.2.1, h.2.2⟩
theorem emA_len {ts : List TriD} (l : List Int) (h : ts.length ≤ 48) : (emA ts l).length ≤ 200 := by
  have h1 := lsTo_len (emB ts (mkA l ts.length)) (emB ts (mkA l ts.length)).length
  have h2 : (emB ts (mkA l ts.length)).length = (edL ts).length := emTo_len _ _ _ _
  have h3 := edTo_len ts ts.length
  show (lsTo (emB ts (mkA l ts.length)) (emB ts (mkA l ts.length)).length).length ≤ 200
  have h4 : (edL ts).length ≤ 3 * ts.length := h3
  omega
def MeRT (w : World) (mq : MeQ) (e : Ending) (w' : World) : Prop := ∃ v2, e = .returned (.tuple #[v2, .bool true]) ∧ MeOw w.heap.size w' v2 mq ∧ Bl w w'

set_option maxRecDepth 100000 in
set_option maxHeartbeats 8000000 in
theorem EdgeMarks_yes (w : World) {v : Value} {mq : MeQ} (h : MeAt w v mq) (hf : FitM mq) {B : Option Addr} {kl dl : Nat} {list : List Int} (hl : RdI w B kl dl list) (hk : kl ≤ 1048576) :
    Calls Tryz.prog 64 #[v, .slice B kl dl] w (IntsOw w (emA mq.tris list)) := by
  obtain ⟨gp, n, cp, gt, m, ct, rfl, hp, ht⟩ := h
  have hf := Lib.hid hf; rename_i h_; clear h_
  have hm48 : m ≤ 10000 := by have := hf.out.ok.t48; rw [ht.len] at this; omega
  go_enter Tryz.func64, Tryz.ntmps64
  go_wp2_with fail
  refine calls_gen (fun W => Bl w W ∧ Blk W w.heap.size 57 #[.slice (some ⟨gp, 0, none⟩) n cp, .slice (some ⟨gt, 0, none⟩) m ct]) ⟨slc, bts⟩ ?_
  rintro W ⟨hbW, hM⟩
  refine (IsMesh_yes _ (RdPS.bl hp hbW) (RdTS.bl ht hbW) hf.out.ok).mono ?_
  rintro e w1 ⟨rfl, hb1⟩
  have hM := hM.bl hb1
  have hbW := hbW.next hb1
  clear hb1
  obtain ⟨r0, r1⟩ := bx2 hM
  go_wp2_with fail
  refine (edgeMarks_any _ (RdTS.bl ht hbW) hm48 (hl.bl hbW) hk hf.out.has).mono ?_
  rintro e w2 ⟨A, k, c, rfl, hR, hb2⟩
  go_wp2_with fail
  go_ret
  exact ⟨A, k, c, rfl, hR.mono hbW.size, hbW.next hb2⟩
def EdsRes (w : World) (L : List EdD) (e : Ending) (w' : World) : Prop := ∃ g n c, e = .returned (.slice (some ⟨g, 0, none⟩) n c) ∧ RdES w' (some ⟨g, 0, none⟩) n c L ∧ Bl w w'
set_option maxRecDepth 100000 in
set_option maxHeartbeats 8000000 in
theorem EdgesOf_yes (w : World) {v : Value} {mq : MeQ} (h : MeAt w v mq) (hf : MeshOk mq) :
    Calls Tryz.prog 48 #[v] w (EdsRes w (edL mq.tris)) := by
  obtain ⟨gp, n, cp, gt, m, ct, rfl, hp, ht⟩ := h
  have hf := Lib.hid hf; rename_i h_; clear h_
  have hm48 : m ≤ 10000 := by have := hf.out.t48; rw [ht.len] at this; omega
  go_enter Tryz.func48, Tryz.ntmps48
  go_wp2_with fail
  refine calls_gen (fun W => Bl w W ∧ Blk W w.heap.size 57 #[.slice (some ⟨gp, 0, none⟩) n cp, .slice (some ⟨gt, 0, none⟩) m ct]) ⟨slc, bts⟩ ?_
  rintro W ⟨hbW, hM⟩
  refine (IsMesh_yes _ (RdPS.bl hp hbW) (RdTS.bl ht hbW) hf.out).mono ?_
  rintro e w1 ⟨rfl, hb1⟩
  have hM := hM.bl hb1
  have hbW := hbW.next hb1
  clear hb1
  obtain ⟨r0, r1⟩ := bx2 hM
  go_wp2_with fail
  refine (edges_any _ (RdTS.bl ht hbW) hm48).mono ?_
  rintro e w2 ⟨ge, k, c, rfl, hR, _, hb2⟩
  go_wp2_with fail
  go_ret
  exact ⟨ge, k, c, rfl, hR, hbW.next hb2⟩
set_option maxRecDepth 100000 in
set_option maxHeartbeats 16000000 in
theorem BisectEdges_yes (w : World) {v : Value} {mq : MeQ} (h : MeAt w v mq) (hf : FitM mq) {B : Option Addr} {kl dl : Nat} {list : List Int} (hl : RdI w B kl dl list) (hk : kl ≤ 1048576) (ho : MeshOk (bisM mq list)) :
    Calls Tryz.prog 67 #[v, .slice B kl dl] w (MeRT w (bisM mq list)) := by
  obtain ⟨gp, n, cp, gt, m, ct, rfl, hp, ht⟩ := h
  have hf := Lib.hid hf; rename_i h_; clear h_
  have ho := Lib.hid ho; rename_i h_; clear h_
  go_enter Tryz.func67, Tryz.ntmps67
  go_wp2_with fail
  refine calls_gen (fun W => Bl w W ∧ Blk W w.heap.size 57 #[.slice (some ⟨gp, 0, none⟩) n cp, .slice (some ⟨gt, 0, none⟩) m ct] ∧ Wk 2 57 (w.heap.size + 1) W) ⟨slc, bts, bts⟩ ?_
  rintro W ⟨hbW, hM, hr⟩
  refine (IsMesh_yes _ (RdPS.bl hp hbW) (RdTS.bl ht hbW) hf.out.ok).mono ?_
  rintro e w1 ⟨rfl, hb1⟩
  have hM := hM.bl hb1
  have hr := hr.bl hb1
  have hbW := hbW.next hb1
  clear hb1
  obtain ⟨r0, r1⟩ := bx2 hM
  go_wp2_with fail
  clear r0 r1
  refine (bisect_any _ (RdPS.bl hp hbW) (RdTS.bl ht hbW) hf.out.ok hf.out.has hf.out.sm (hl.bl hbW) hk).mono ?_
  rintro e w2 ⟨_, rfl, hO, hb2⟩
  obtain ⟨gp2, n2, cp2, gt2, m2, ct2, rfl, hP2, hT2⟩ := hO.1
  have hlt : w.heap.size + 1 < w1.heap.size := hr.lt
  have hr := hr.bl hb2
  have hbW := hbW.next hb2
  clear hM hb2
  go_upto_region 4 with (fail)
  refine wp_gen (fun W => Bl w2 W ∧ Blk W w2.heap.size 57 #[.slice (some ⟨gp2, 0, none⟩) n2 cp2, .slice (some ⟨gt2, 0, none⟩) m2 ct2]) ⟨slc, by exact bts⟩ ?_
  rintro W3 ⟨hb3, hM⟩
  have hr := hr.bl hb3
  have hbW := hbW.next hb3
  have hP2 := RdPS.bl hP2 hb3
  have hT2 := RdTS.bl hT2 hb3
  have hO := hO.bl hb3
  clear hb3
  obtain ⟨r0, r1⟩ := bx2 hM
  go_wp2_with fail
  clear r0 r1
  refine (IsMesh_yes _ hP2 hT2 ho.out).mono ?_
  rintro e w4 ⟨rfl, hb4⟩
  have hM := hM.bl hb4
  have hr := hr.bl hb4
  have hbW := hbW.next hb4
  have hO := hO.bl hb4
  clear hb4
  obtain ⟨r0, r1⟩ := bx2 hM
  obtain ⟨v0, x0⟩ := hr.val_ (i := 0) (by omega)
  obtain ⟨v1, x1⟩ := hr.val_ (i := 1) (by omega)
  have hg := hr.lt
  obtain ⟨cs4, hB4, hc4⟩ := hr
  have hf0 := hB4.frozen 0
  have hf1 := hB4.frozen 1
  go_wp2_with fail
  exact bodyPost_ret (v := .tuple #[.agg #[.slice (some ⟨gp2, 0, none⟩) n2 cp2, .slice (some ⟨gt2, 0, none⟩) m2 ct2], .bool true]) (by simp [results, Tryz.results67, go_sem, x0, x1]) rfl ⟨_, rfl, MeOw.low (MeOw.setLow (MeOw.setLow hO (q := ⟨w.heap.size + 1, 0, none⟩) hlt _) (q := ⟨w.heap.size + 1, 1, none⟩) hlt _) (by omega), slc⟩
set_option maxRecDepth 100000 in
set_option maxHeartbeats 16000000 in
theorem RefineMesh_yes (w : World) {v : Value} {mq : MeQ} (h : MeAt w v mq) (hf : FitM mq) {B : Option Addr} {kl dl : Nat} {list : List Int} (hl : RdI w B kl dl list) (hk : kl ≤ 1048576) (ho : MeshOk (bisM mq (emA mq.tris list))) :
    Calls Tryz.prog 47 #[v, .slice B kl dl] w (MeRT w (bisM mq (emA mq.tris list))) := by
  have hMe := h
  obtain ⟨gp, n, cp, gt, m, ct, rfl, hp, ht⟩ := h
  have hem := emA_len (ts := mq.tris) list hf.ok.t48
  have hf := Lib.hid hf; rename_i h_; clear h_
  have ho := Lib.hid ho; rename_i h_; clear h_
  go_enter Tryz.func47, Tryz.ntmps47
  go_wp2_with fail
  refine wp_gen (fun W => Bl w W ∧ Blk W w.heap.size 57 #[.slice (some ⟨gp, 0, none⟩) n cp, .slice (some ⟨gt, 0, none⟩) m ct] ∧ Wk 2 57 (w.heap.size + 1) W) ⟨slc, bts, bts⟩ ?_
  rintro W ⟨hbW, hM, hr⟩
  have hlt := hr.lt
  go_region_held3 (fun w' => (w'.cell? ⟨w.heap.size, 0, none⟩ = some (.slice (some ⟨gp, 0, none⟩) n cp) ∧ w'.cell? ⟨w.heap.size, 1, none⟩ = some (.slice (some ⟨gt, 0, none⟩) m ct)) ∧ (w'.cell? ⟨w.heap.size + 1, 0, none⟩ = some (cellD w' (w.heap.size + 1) 0) ∧ w'.cell? ⟨w.heap.size + 1, 1, none⟩ = some (cellD w' (w.heap.size + 1) 1)) ∧ w'.frozen? ⟨w.heap.size + 1, 0, none⟩ = false ∧ w'.frozen? ⟨w.heap.size + 1, 1, none⟩ = false) (first | exact ⟨bx2 (T := 57) bts, Wk.out2 (T := 57) bts⟩) (first | (go_at_call 64; refine (EdgeMarks_yes _ (MeAt.bl hMe slc) hf.out (RdI.bl hl slc) hk).mono ?_; rintro e w3 ⟨A3, n3, c3, rfl, hR3, hb3⟩) | (go_at_call 67; refine (BisectEdges_yes _ (MeAt.bl hMe slc) hf.out (RdI.bl hR3.rd slc) (by have h := hR3.rd.len; omega) ho.out).mono ?_; rintro e w4 ⟨_, rfl, hO, hb4⟩; (obtain ⟨gp2, n2, cp2, gt2, m2, ct2, rfl, hP2, hT2⟩ := hO.1)))
  have hz3 : W.heap.size ≤ w3.heap.size := Bl.size (show Bl W w3 from slc)
  have hlt3 : w.heap.size + 1 < w3.heap.size := by omega
  have hr := (show Wk 2 57 (w.heap.size + 1) w4 from bts)
  have hbW : Bl w w4 := slc
  obtain ⟨v0, x0⟩ := hr.val_ (i := 0) (by omega)
  obtain ⟨v1, x1⟩ := hr.val_ (i := 1) (by omega)
  have hg := hr.lt
  obtain ⟨cs4, hB4, hc4⟩ := hr
  have hf0 := hB4.frozen 0
  have hf1 := hB4.frozen 1
  go_wp2_with fail
  exact bodyPost_ret (v := .tuple #[.agg #[.slice (some ⟨gp2, 0, none⟩) n2 cp2, .slice (some ⟨gt2, 0, none⟩) m2 ct2], .bool true]) (by simp [results, Tryz.results47, go_sem, x0, x1]) rfl ⟨_, rfl, MeOw.low (MeOw.setLow (MeOw.setLow hO (q := ⟨w.heap.size + 1, 0, none⟩) hlt3 _) (q := ⟨w.heap.size + 1, 1, none⟩) hlt3 _) (by omega), slc⟩
/-- The numbers of k edges. -/
def rgI (k : Nat) : List Int := (List.range k).map fun i : Nat => (i : Int)
theorem rgI_succ (k : Nat) : rgI (k + 1) = rgI k ++ [(k : Int)] := by unfold rgI; rw [List.range_succ, List.map_append]; rfl
theorem rgI_len (k : Nat) : (rgI k).length = k := by simp [rgI]
set_option maxRecDepth 100000 in
set_option maxHeartbeats 16000000 in
theorem RefineAll_yes (w : World) {v : Value} {mq : MeQ} (h : MeAt w v mq) (hf : FitM mq) (ho : MeshOk (alM mq)) :
    Calls Tryz.prog 44 #[v] w (MeRT w (alM mq)) := by
  have hMe := h
  obtain ⟨gp, n, cp, gt, m, ct, rfl, hp, ht⟩ := h
  have hal := Lib.hid (show alM mq = bisM mq (rgI (edL mq.tris).length) from rfl)
  have hlE : (edL mq.tris).length ≤ 200 := by have h1 := edTo_len mq.tris mq.tris.length; have h2 := hf.ok.t48; have h3 : (edL mq.tris).length ≤ 3 * mq.tris.length := h1; omega
  have hf := Lib.hid hf; rename_i h_; clear h_
  have ho := Lib.hid ho; rename_i h_; clear h_
  go_enter Tryz.func44, Tryz.ntmps44
  go_upto_region 1 with (fail)
  refine wp_gen (fun W => Bl w W ∧ Blk W w.heap.size 57 #[.slice (some ⟨gp, 0, none⟩) n cp, .slice (some ⟨gt, 0, none⟩) m ct] ∧ Wk 2 57 (w.heap.size + 1) W) ⟨slc, bts, bts⟩ ?_
  rintro W0 ⟨hbW, hM, hr⟩
  have hM0 := hM
  have hr0 := hr
  have hbW0 := hbW
  go_upto_region 2 with (fail)
  refine wp_gen (fun W => Bl W0 W ∧ ∃ v0 c, OwL 3 W0.heap.size W v0 (rgI 0) ∧ v0 = .slice (some ⟨W0.heap.size, 0, none⟩) 0 c ∧ c = 0) ⟨slc, _, 0, OwL.empty W0 (Nat.le_refl _) (by decide), rfl, rfl⟩ ?_
  rintro W ⟨hb0, v0, c, hX, hv0, rfl⟩
  rw [← hv0]
  have hM := hM.bl hb0
  have hr := hr.bl hb0
  have hbW := hbW.next hb0
  clear hv0
  obtain ⟨r0, r1⟩ := bx2 hM
  go_wp2_with fail
  clear r0 r1
  refine (EdgesOf_yes _ (MeAt.bl hMe hbW) hf.out.ok).mono ?_
  rintro e w1 ⟨ge, ne, ce, rfl, hes, hb1⟩
  have hX := hX.bl hb1
  have hM := hM.bl hb1
  have hr := hr.bl hb1
  have hbW := hbW.next hb1
  have hb0 := hb0.next hb1
  have hne := Lib.hid hes.len
  have hnl : ne ≤ 200 := by rw [← hes.len]; exact hlE
  have hlt := hr.lt
  clear hb1 hlE
  go_wp2_with fail
  go_loopw [4, 10] (fun s v wr => ∃ (i : Nat) (o : Value), i ≤ ne ∧ v = .int .i64 (i : Int) ∧ o = s ∧ OwL 3 W0.heap.size wr o (rgI i) ∧ Bl W0 wr) (fun _ v _ => ne - (intOf v).toNat)
  case atStart => exact ⟨0, v0, by omega, rfl, rfl, hX, hb0⟩
  case round =>
    clear hX hb0
    obtain ⟨i, o, hi, rfl, rfl, hX, hbi⟩ := hrel
    obtain ⟨wj, rfl⟩ : ∃ wj : World, wj = wr := ⟨_, rfl⟩
    by_cases hin : i < ne
    · have hii : (i : Int) < (ne : Int) := by omega
      have hrl := rgI_len i
      have hS2 := Lib.hid (rgI_succ i)
      go_wp2_with ((refine wpList_append_intX (w0 := W0) info_int Tryz.underlying25 rfl (.tmp 13) (.tmp 15) rfl _ (rgI i) (by rfl) hX hbi 1 (by rfl) (by omega) ?_); intro vx7 w7 hX7 hb7 hoth)
      rw [← hS2.out] at hX7
      go_roundw
      case rel => exact ⟨i + 1, vx7, by omega, by go_num, rfl, hX7, hb7⟩
      case measure => simp [intOf]; omega
    · obtain rfl : i = ne := by omega
      have hkm3 : ¬ (i : Int) < (i : Int) := by omega
      have hrl := rgI_len i
      obtain ⟨B, cb, rfl, hR⟩ := hX.own (by omega)
      rw [hrl] at hR ⊢
      have hal2 := Lib.hid (show alM mq = bisM mq (rgI i) by rw [hal.out, hne.out])
      have ho2 := Lib.hid (show MeshOk (bisM mq (rgI i)) by rw [← hal2.out]; exact ho.out)
      have hr := hr0.bl hbi
      have hlt : w.heap.size + 1 < wj.heap.size := hr.lt
      obtain ⟨r0, r1⟩ := bx2 (hM0.bl hbi)
      go_wp2_with fail
      clear r0 r1
      refine (BisectEdges_yes _ (MeAt.bl hMe (hbW0.next hbi)) hf.out hR.rd (by omega) ho2.out).mono ?_
      rw [← hal2.out]
      rintro e w4 ⟨_, rfl, hO, hb4⟩
      obtain ⟨gp2, n2, cp2, gt2, m2, ct2, rfl, hP2, hT2⟩ := hO.1
      have hr := hr.bl hb4
      have hbW := (hbW0.next hbi).next hb4
      obtain ⟨v0, x0⟩ := hr.val_ (i := 0) (by omega)
      obtain ⟨v1, x1⟩ := hr.val_ (i := 1) (by omega)
      have hg := hr.lt
      obtain ⟨cs4, hB4, hc4⟩ := hr
      have hf0 := hB4.frozen 0
      have hf1 := hB4.frozen 1
      go_wp2_with fail
      exact bodyPost_ret (v := .tuple #[.agg #[.slice (some ⟨gp2, 0, none⟩) n2 cp2, .slice (some ⟨gt2, 0, none⟩) m2 ct2], .bool true]) (by simp [results, Tryz.results44, go_sem, x0, x1]) rfl ⟨_, rfl, MeOw.low (MeOw.setLow (MeOw.setLow hO (q := ⟨w.heap.size + 1, 0, none⟩) hlt _) (q := ⟨w.heap.size + 1, 1, none⟩) hlt _) (by omega), slc⟩
end

section
open Go.RowKit
instance : Inhabited MeQ := ⟨⟨[], []⟩⟩

theorem cs_ok : ∀ m ∈ csL, okF m = true ∧ okA m (csA m) = true := by decide +kernel
theorem al_ok : ∀ m ∈ csL, alB m = true := by decide +kernel
theorem rf_ok0 : ∀ bl ∈ allB (pix csL 0).tris.length, rfB (pix csL 0) bl = true := by decide +kernel
theorem rf_ok1 : ∀ bl ∈ allB (pix csL 1).tris.length, rfB (pix csL 1) bl = true := by decide +kernel
theorem rf_ok2 : ∀ bl ∈ allB (pix csL 2).tris.length, rfB (pix csL 2) bl = true := by decide +kernel
theorem rf_ok3 : ∀ bl ∈ allB (pix csL 3).tris.length, rfB (pix csL 3) bl = true := by decide +kernel
theorem rf_ok4 : ∀ bl ∈ allB (pix csL 4).tris.length, rfB (pix csL 4) bl = true := by decide +kernel
theorem rf_ok5 : ∀ bl ∈ allB (pix csL 5).tris.length, rfB (pix csL 5) bl = true := by decide +kernel
end

section
open Go.RowKit

theorem bgt_set_same {bl : List Bool} {i : Nat} (h : i < bl.length) (x : Bool) : bgt (bl.set i x) i = x := by rw [← bgt_set rfl x i h, if_pos rfl]
theorem bgt_set_true {bl : List Bool} {i k : Nat} (h : i < bl.length) (hb : bgt bl i = true) : bgt (bl.set k true) i = true := by
  rw [← bgt_set rfl true i h]
  split
  · rfl
  · exact hb
theorem mkTo_keep {l : List Int} {n i : Nat} (hi : i < n) : ∀ {k d : Nat}, bgt (mkTo l n k) i = true → bgt (mkTo l n (k + d)) i = true
  | k, 0, h => h
  | k, d + 1, h => by
    have h1 := mkTo_keep hi (d := d) h
    show bgt (mkTo l n (k + d + 1)) i = true
    unfold mkTo
    split
    · exact bgt_set_true (by rw [mkTo_len]; exact hi) h1
    · exact h1
theorem mkA_mem {l : List Int} {n k : Nat} (hk : k < l.length) (h0 : 0 ≤ ix l k) (h1 : ix l k < n) : bgt (mkA l n) (ix l k).toNat = true := by
  have h2 : bgt (mkTo l n (k + 1)) (ix l k).toNat = true := by
    unfold mkTo
    rw [if_pos ⟨h0, by omega⟩]
    exact bgt_set_same (by rw [mkTo_len]; omega) true
  have h3 := mkTo_keep (l := l) (n := n) (i := (ix l k).toNat) (by omega) (d := l.length - (k + 1)) h2
  rwa [show k + 1 + (l.length - (k + 1)) = l.length by omega] at h3
theorem cs_ix {m : MeQ} (h : m ∈ csL) : ∃ i, i < 6 ∧ m = pix csL i := by
  obtain ⟨i, hi, rfl⟩ := List.getElem_of_mem h
  refine ⟨i, hi, ?_⟩
  unfold pix
  rw [List.getD_eq_getElem?_getD, List.getElem?_eq_getElem hi]
  rfl
theorem rf_ok {m : MeQ} (h : m ∈ csL) (l : List Int) : rfB m (mkA l m.tris.length) = true := by
  obtain ⟨i, hi, rfl⟩ := cs_ix h
  have hmem : mkA l (pix csL i).tris.length ∈ allB (pix csL i).tris.length := by
    have h1 := mem_allB (mkA l (pix csL i).tris.length)
    rwa [mkA_len] at h1
  rcases (show i = 0 ∨ i = 1 ∨ i = 2 ∨ i = 3 ∨ i = 4 ∨ i = 5 by omega) with rfl | rfl | rfl | rfl | rfl | rfl
  · exact rf_ok0 _ hmem
  · exact rf_ok1 _ hmem
  · exact rf_ok2 _ hmem
  · exact rf_ok3 _ hmem
  · exact rf_ok4 _ hmem
  · exact rf_ok5 _ hmem
/-- What a refinement of a coarse mesh is. -/
structure RefOk (m : MeQ) (l : List Int) : Prop where
  fit : FitM m
  fitX : FitM (bisM m (emA m.tris l))
  area : areaM (bisM m (emA m.tris l)) = areaM m
  new : ∀ k, k < l.length → 0 ≤ ix l k → ix l k < m.tris.length → ∀ j, j < (bisM m (emA m.tris l)).tris.length → pix (bisM m (emA m.tris l)).tris j ≠ pix m.tris (ix l k).toNat
theorem ref_ok {m : MeQ} (h : m ∈ csL) (l : List Int) : RefOk m l := by
  obtain ⟨h1, h2⟩ := cs_ok m h
  have h3 := rf_ok h l
  unfold rfB at h3
  simp only [Bool.and_eq_true] at h3
  obtain ⟨h4, h5, h6⟩ := h3
  refine ⟨fit_of h1, fit_of h4, (areaM_toR h5).trans (areaM_toR h2).symm, fun k hk h0 h7 j hj e => ?_⟩
  have h8 := List.all_eq_true.1 h6 (ix l k).toNat (List.mem_range.2 (by omega))
  rw [mkA_mem hk h0 h7, Bool.not_true, Bool.false_or, Bool.not_eq_true'] at h8
  have h9 : (rfM m (mkA l m.tris.length)).tris.contains (pix m.tris (ix l k).toNat) = true := by
    rw [List.contains_iff_mem, ← e]
    unfold pix
    rw [List.getD_eq_getElem?_getD, List.getElem?_eq_getElem hj]
    exact List.getElem_mem hj
  rw [h9] at h8
  cases h8
theorem al_fit {m : MeQ} (h : m ∈ csL) : FitM (alM m) ∧ (alM m).tris.length = 4 * m.tris.length ∧ (alM m).pts.length = m.pts.length + (edL m.tris).length := by
  have h1 := al_ok m h
  unfold alB at h1
  simp only [Bool.and_eq_true, decide_eq_true_eq] at h1
  exact ⟨fit_of h1.1, h1.2.1, h1.2.2⟩
end

section
open Go.RowKit

/-- The cells of a block are points with memory of their own since b0. -/
def PtsB (b0 : Nat) (w : World) (cs : Array Value) (ps : List PtD) : Prop := ∀ k, k < ps.length → ∃ s A n c B m d t C i e D j f, (cs[k * 6]? = some (.bool s) ∧ cs[k * 6 + 1]? = some (.slice A n c) ∧ cs[k * 6 + 2]? = some (.slice B m d) ∧ cs[k * 6 + 3]? = some (.bool t) ∧ cs[k * 6 + 4]? = some (.slice C i e) ∧ cs[k * 6 + 5]? = some (.slice D j f)) ∧ OwPN AnyN 3 b0 w s A n c B m d t C i e D j f (pix ps k)
def TrsB (cs : Array Value) (ts : List TriD) : Prop := ∀ k, k < ts.length → cs[k * 5]? = some (.int .i64 (pix ts k).a) ∧ cs[k * 5 + 1]? = some (.int .i64 (pix ts k).b) ∧ cs[k * 5 + 2]? = some (.int .i64 (pix ts k).c) ∧ cs[k * 5 + 3]? = some (.int .i64 (pix ts k).region) ∧ cs[k * 5 + 4]? = some (.int .i64 (pix ts k).level)
theorem OwPN.keepB {T : TypeId} {b0 : Nat} {w W : World} {s : Bool} {A : Option Addr} {n c : Nat} {B : Option Addr} {m d : Nat} {t : Bool} {C : Option Addr} {i e : Nat} {D : Option Addr} {j f : Nat} {p : PtD} (h : OwPN AnyN T b0 w s A n c B m d t C i e D j f p) (hs : w.heap.size ≤ W.heap.size) (hk : ∀ b, b0 ≤ b → b < w.heap.size → W.heap[b]? = w.heap[b]?) : OwPN AnyN T b0 W s A n c B m d t C i e D j f p := by
  obtain ⟨c1, c2, h1, h2, hf, hn⟩ := h
  exact ⟨c1, c2, h1.keep hs fun b hb => hk b (hf b (by simp [hb])).1 (hf b (by simp [hb])).2, h2.keep hs fun b hb => hk b (hf b (by simp [hb])).1 (hf b (by simp [hb])).2, fun b hm => ⟨(hf b hm).1, Nat.lt_of_lt_of_le (hf b hm).2 hs⟩, hn⟩
theorem PtsB.rd {b0 : Nat} {w : World} {cs : Array Value} {ps : List PtD} (h : PtsB b0 w cs ps) {g c : Nat} (hB : Blk w g 31 cs) (hc : ps.length ≤ c) (hl : ps.length ≤ 1048576) : RdPS w (some ⟨g, 0, none⟩) ps.length c ps := by
  refine ⟨rfl, hc, by omega, fun k hk => ⟨_, rfl, hB.lt, ?_⟩⟩
  obtain ⟨s, A, n, c, B, m, d, t, C, i, e, D, j, f, ⟨h0, h1, h2, h3, h4, h5⟩, hP⟩ := h k hk
  rw [Addr.add_lit, Nat.zero_add]
  exact ⟨_, _, _, _, _, _, _, _, _, _, _, _, _, _, ⟨(hB.cell _).trans h0, (hB.cell _).trans h1, (hB.cell _).trans h2, (hB.cell _).trans h3, (hB.cell _).trans h4, (hB.cell _).trans h5⟩, hP.rdx.1, hP.rdx.2⟩
theorem TrsB.rd {w : World} {cs : Array Value} {ts : List TriD} (h : TrsB cs ts) {g c : Nat} (hB : Blk w g 73 cs) (hc : ts.length ≤ c) (hl : ts.length ≤ 1048576) : RdTS w (some ⟨g, 0, none⟩) ts.length c ts := by
  refine ⟨rfl, hc, by omega, fun k hk => ⟨_, rfl, hB.lt, ?_⟩⟩
  obtain ⟨h0, h1, h2, h3, h4⟩ := h k hk
  rw [Addr.add_lit, Nat.zero_add]
  exact ⟨(hB.cell _).trans h0, (hB.cell _).trans h1, (hB.cell _).trans h2, (hB.cell _).trans h3, (hB.cell _).trans h4⟩
theorem MeOw.ofB {b0 : Nat} {w : World} {gP gT nP nT : Nat} {cs cs2 : Array Value} {mq : MeQ} (hB : Blk w gP 31 cs) (hB2 : Blk w gT 73 cs2) (hP : PtsB b0 w cs (mq.pts.map tp)) (hT : TrsB cs2 mq.tris) (h1 : b0 ≤ gP) (h2 : b0 ≤ gT) (hn : (mq.pts.map tp).length = nP) (hm : mq.tris.length = nT) (hn2 : nP ≤ 1048576) (hm2 : nT ≤ 1048576) :
    MeOw b0 w (.agg #[.slice (some ⟨gP, 0, none⟩) nP nP, .slice (some ⟨gT, 0, none⟩) nT nT]) mq := by
  subst hn hm
  have key : ∀ w', w.heap.size ≤ w'.heap.size → (∀ b, b0 ≤ b → b < w.heap.size → w'.heap[b]? = w.heap[b]?) → MeAt w' (.agg #[.slice (some ⟨gP, 0, none⟩) (mq.pts.map tp).length (mq.pts.map tp).length, .slice (some ⟨gT, 0, none⟩) mq.tris.length mq.tris.length]) mq := fun w' hs hk => by
    have hP' : PtsB b0 w' cs (mq.pts.map tp) := fun k hk2 => by
      obtain ⟨s, A, n, c, B, m, d, t, C, i, e, D, j, f, hc, ho⟩ := hP k hk2
      exact ⟨_, _, _, _, _, _, _, _, _, _, _, _, _, _, hc, ho.keepB hs hk⟩
    exact ⟨gP, _, _, gT, _, _, rfl, hP'.rd ((hk gP h1 hB.lt).trans hB) (Nat.le_refl _) hn2, hT.rd ((hk gT h2 hB2.lt).trans hB2) (Nat.le_refl _) hm2⟩
  exact ⟨key w (Nat.le_refl _) fun _ _ _ => rfl, key⟩
theorem push_modify {α : Type} (a : Array α) (o : α) (f : α → α) {g : Nat} (hg : g < a.size) : (a.modify g f).push o = (a.push o).modify g f := by
  refine Array.ext_getElem? fun i => ?_
  rw [Array.getElem?_push, Array.getElem?_modify, Array.getElem?_modify, Array.getElem?_push, Array.size_modify]
  by_cases h : i = a.size
  · subst h
    rw [if_pos rfl, if_neg (by omega), if_pos rfl]
  · rw [if_neg h, if_neg h]
theorem setCell_alloc {W : World} {g i : Nat} (hg : g < W.heap.size) (o : Obj) (u : Value) : (W.setCell ⟨g, i, none⟩ u).alloc o = (W.alloc o).setCell ⟨g, i, none⟩ u := by
  unfold World.alloc World.setCell
  simp only
  rw [push_modify _ _ _ hg]
theorem MeOw.ob {b0 g : Nat} {w W : World} {v : Value} {mq : MeQ} (h : MeOw b0 w v mq) (ho : Ob [g] w W) (hg : g < b0) : MeOw b0 W v mq :=
  ⟨h.2 _ ho.size fun b h1 h2 => ho.block b h2 (by simp; omega), fun w' hs hk => h.2 w' (Nat.le_trans ho.size hs) fun b h1 h2 => (hk b h1 (Nat.lt_of_lt_of_le h2 ho.size)).trans (ho.block b h2 (by simp; omega))⟩
theorem cp_00 : (⟨ofFrac 0 1, ofFrac 0 1⟩ : PtD) = tp (0, 0) := (gpt_tp 0 0 (by omega) (by omega)).trans (congrArg tp (show qp1 0 0 = (0, 0) by decide +kernel))
theorem cp_01 : (⟨ofFrac 0 1, ofFrac 1 1⟩ : PtD) = tp (0, 1) := (gpt_tp 0 1 (by omega) (by omega)).trans (congrArg tp (show qp1 0 1 = (0, 1) by decide +kernel))
theorem cp_02 : (⟨ofFrac 0 1, ofFrac 2 1⟩ : PtD) = tp (0, 2) := (gpt_tp 0 2 (by omega) (by omega)).trans (congrArg tp (show qp1 0 2 = (0, 2) by decide +kernel))
theorem cp_10 : (⟨ofFrac 1 1, ofFrac 0 1⟩ : PtD) = tp (1, 0) := (gpt_tp 1 0 (by omega) (by omega)).trans (congrArg tp (show qp1 1 0 = (1, 0) by decide +kernel))
theorem cp_11 : (⟨ofFrac 1 1, ofFrac 1 1⟩ : PtD) = tp (1, 1) := (gpt_tp 1 1 (by omega) (by omega)).trans (congrArg tp (show qp1 1 1 = (1, 1) by decide +kernel))
theorem cp_12 : (⟨ofFrac 1 1, ofFrac 2 1⟩ : PtD) = tp (1, 2) := (gpt_tp 1 2 (by omega) (by omega)).trans (congrArg tp (show qp1 1 2 = (1, 2) by decide +kernel))
theorem cp_20 : (⟨ofFrac 2 1, ofFrac 0 1⟩ : PtD) = tp (2, 0) := (gpt_tp 2 0 (by omega) (by omega)).trans (congrArg tp (show qp1 2 0 = (2, 0) by decide +kernel))
theorem cp_21 : (⟨ofFrac 2 1, ofFrac 1 1⟩ : PtD) = tp (2, 1) := (gpt_tp 2 1 (by omega) (by omega)).trans (congrArg tp (show qp1 2 1 = (2, 1) by decide +kernel))
theorem cp_22 : (⟨ofFrac 2 1, ofFrac 2 1⟩ : PtD) = tp (2, 2) := (gpt_tp 2 2 (by omega) (by omega)).trans (congrArg tp (show qp1 2 2 = (2, 2) by decide +kernel))
end

end Go.Proofs.YtajlahjghapbkaaGreat
