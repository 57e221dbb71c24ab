/- Lemmas. -/
import Derived.Test.YtajlahjghapbkaaGreatRows
import Derived.Test.YtajlahjghapbkaaGreatPAnglesM35
import Derived.Test.YtajlahjghapbkaaGreatPAnglesM31
import Derived.Test.YtajlahjghapbkaaGreatPAnglesM32
import Derived.Test.YtajlahjghapbkaaGreatPAnglesM17
import Derived.Test.YtajlahjghapbkaaGreatPAnglesM25
import Derived.Lib.MinMax
import Derived.Test.YtajlahjghapbkaaGreatPAnglesM21
import Derived.Test.YtajlahjghapbkaaGreatPAnglesM24
import Derived.Test.YtajlahjghapbkaaGreatPAnglesM22
import Derived.Test.YtajlahjghapbkaaGreatPAnglesM18
import Derived.Test.YtajlahjghapbkaaGreatPAnglesM30
namespace Go.Proofs.YtajlahjghapbkaaGreat
section
open Go.RowKit

/-- A mesh that the program calls valid and can bisect. -/
structure FitM (m : MeQ) : Prop where
  ok : MeshOk m
  has : EdHas m.tris (edL m.tris)
  sm : ∀ k, k < m.pts.length → Sm2 (pix m.pts k)
theorem fit_of {m : MeQ} (h : okF m = true) : FitM m := by
  unfold okF at h
  simp only [Bool.and_eq_true, decide_eq_true_eq] at h
  exact ⟨okM_ok h.1, h.2.1, h.2.2⟩
theorem emA_len {ts : List TriD} (l : List Int) (h : ts.length ≤ 48) : (emA ts l).length ≤ 200 := by
  have h1 := lsTo_len (emB ts (mkA l ts.length)) (emB ts (mkA l ts.length)).length
  have h2 : (emB ts (mkA l ts.length)).length = (edL ts).length := emTo_len _ _ _ _
  have h3 := edTo_len ts ts.length
  show (lsTo (emB ts (mkA l ts.length)) (emB ts (mkA l ts.length)).length).length ≤ 200
  have h4 : (edL ts).length ≤ 3 * ts.length := h3
  omega
def MeRT (w : World) (mq : MeQ) (e : Ending) (w' : World) : Prop := ∃ v2, e = .returned (.tuple #[v2, .bool true]) ∧ MeOw w.heap.size w' v2 mq ∧ Bl w w'

set_option maxRecDepth 100000 in
set_option maxHeartbeats 8000000 in
theorem EdgeMarks_yes (w : World) {v : Value} {mq : MeQ} (h : MeAt w v mq) (hf : FitM mq) {B : Option Addr} {kl dl : Nat} {list : List Int} (hl : RdI w B kl dl list) (hk : kl ≤ 1048576) :
    Calls Tryz.prog 64 #[v, .slice B kl dl] w (IntsOw w (emA mq.tris list)) := by
  obtain ⟨gp, n, cp, gt, m, ct, rfl, hp, ht⟩ := h
  have hf := Lib.hid hf; rename_i h_; clear h_
  have hm48 : m ≤ 10000 := by have := hf.out.ok.t48; rw [ht.len] at this; omega
  go_enter Tryz.func64, Tryz.ntmps64
  go_wp2_with fail
  refine calls_gen (fun W => Bl w W ∧ Blk W w.heap.size 57 #[.slice (some ⟨gp, 0, none⟩) n cp, .slice (some ⟨gt, 0, none⟩) m ct]) ⟨slc, bts⟩ ?_
  rintro W ⟨hbW, hM⟩
  refine (IsMesh_yes _ (RdPS.bl hp hbW) (RdTS.bl ht hbW) hf.out.ok).mono ?_
  rintro e w1 ⟨rfl, hb1⟩
  have hM := hM.bl hb1
  have hbW := hbW.next hb1
  clear hb1
  obtain ⟨r0, r1⟩ := bx2 hM
  go_wp2_with fail
  refine (edgeMarks_any _ (RdTS.bl ht hbW) hm48 (hl.bl hbW) hk hf.out.has).mono ?_
  rintro e w2 ⟨A, k, c, rfl, hR, hb2⟩
  go_wp2_with fail
  go_ret
  exact ⟨A, k, c, rfl, hR.mono hbW.size, hbW.next hb2⟩
set_option maxRecDepth 100000 in
set_option maxHeartbeats 16000000 in
theorem BisectEdges_yes (w : World) {v : Value} {mq : MeQ} (h : MeAt w v mq) (hf : FitM mq) {B : Option Addr} {kl dl : Nat} {list : List Int} (hl : RdI w B kl dl list) (hk : kl ≤ 1048576) (ho : MeshOk (bisM mq list)) :
    Calls Tryz.prog 67 #[v, .slice B kl dl] w (MeRT w (bisM mq list)) := by
  obtain ⟨gp, n, cp, gt, m, ct, rfl, hp, ht⟩ := h
  have hf := Lib.hid hf; rename_i h_; clear h_
  have ho := Lib.hid ho; rename_i h_; clear h_
  go_enter Tryz.func67, Tryz.ntmps67
  go_wp2_with fail
  refine calls_gen (fun W => Bl w W ∧ Blk W w.heap.size 57 #[.slice (some ⟨gp, 0, none⟩) n cp, .slice (some ⟨gt, 0, none⟩) m ct] ∧ Wk 2 57 (w.heap.size + 1) W) ⟨slc, bts, bts⟩ ?_
  rintro W ⟨hbW, hM, hr⟩
  refine (IsMesh_yes _ (RdPS.bl hp hbW) (RdTS.bl ht hbW) hf.out.ok).mono ?_
  rintro e w1 ⟨rfl, hb1⟩
  have hM := hM.bl hb1
  have hr := hr.bl hb1
  have hbW := hbW.next hb1
  clear hb1
  obtain ⟨r0, r1⟩ := bx2 hM
  go_wp2_with fail
  clear r0 r1
  refine (bisect_any _ (RdPS.bl hp hbW) (RdTS.bl ht hbW) hf.out.ok hf.out.has hf.out.sm (hl.bl hbW) hk).mono ?_
  rintro e w2 ⟨_, rfl, hO, hb2⟩
  obtain ⟨gp2, n2, cp2, gt2, m2, ct2, rfl, hP2, hT2⟩ := hO.1
  have hlt : w.heap.size + 1 < w1.heap.size := hr.lt
  have hr := hr.bl hb2
  have hbW := hbW.next hb2
  clear hM hb2
  go_upto_region 4 with (fail)
  refine wp_gen (fun W => Bl w2 W ∧ Blk W w2.heap.size 57 #[.slice (some ⟨gp2, 0, none⟩) n2 cp2, .slice (some ⟨gt2, 0, none⟩) m2 ct2]) ⟨slc, by exact bts⟩ ?_
  rintro W3 ⟨hb3, hM⟩
  have hr := hr.bl hb3
  have hbW := hbW.next hb3
  have hP2 := RdPS.bl hP2 hb3
  have hT2 := RdTS.bl hT2 hb3
  have hO := hO.bl hb3
  clear hb3
  obtain ⟨r0, r1⟩ := bx2 hM
  go_wp2_with fail
  clear r0 r1
  refine (IsMesh_yes _ hP2 hT2 ho.out).mono ?_
  rintro e w4 ⟨rfl, hb4⟩
  have hM := hM.bl hb4
  have hr := hr.bl hb4
  have hbW := hbW.next hb4
  have hO := hO.bl hb4
  clear hb4
  obtain ⟨r0, r1⟩ := bx2 hM
  obtain ⟨v0, x0⟩ := hr.val_ (i := 0) (by omega)
  obtain ⟨v1, x1⟩ := hr.val_ (i := 1) (by omega)
  have hg := hr.lt
  obtain ⟨cs4, hB4, hc4⟩ := hr
  have hf0 := hB4.frozen 0
  have hf1 := hB4.frozen 1
  go_wp2_with fail
  exact bodyPost_ret (v := .tuple #[.agg #[.slice (some ⟨gp2, 0, none⟩) n2 cp2, .slice (some ⟨gt2, 0, none⟩) m2 ct2], .bool true]) (by simp [results, Tryz.results67, go_sem, x0, x1]) rfl ⟨_, rfl, MeOw.low (MeOw.setLow (MeOw.setLow hO (q := ⟨w.heap.size + 1, 0, none⟩) hlt _) (q := ⟨w.heap.size + 1, 1, none⟩) hlt _) (by omega), slc⟩
set_option maxRecDepth 100000 in
set_option maxHeartbeats 16000000 in
theorem RefineMesh_yes (w : World) {v : Value} {mq : MeQ} (h : MeAt w v mq) (hf : FitM mq) {B : Option Addr} {kl dl : Nat} {list : List Int} (hl : RdI w B kl dl list) (hk : kl ≤ 1048576) (ho : MeshOk (bisM mq (emA mq.tris list))) :
    Calls Tryz.prog 47 #[v, .slice B kl dl] w (MeRT w (bisM mq (emA mq.tris list))) := by
  have hMe := h
  obtain ⟨gp, n, cp, gt, m, ct, rfl, hp, ht⟩ := h
  have hem := emA_len (ts := mq.tris) list hf.ok.t48
  have hf := Lib.hid hf; rename_i h_; clear h_
  have ho := Lib.hid ho; rename_i h_; clear h_
  go_enter Tryz.func47, Tryz.ntmps47
  go_wp2_with fail
  refine wp_gen (fun W => Bl w W ∧ Blk W w.heap.size 57 #[.slice (some ⟨gp, 0, none⟩) n cp, .slice (some ⟨gt, 0, none⟩) m ct] ∧ Wk 2 57 (w.heap.size + 1) W) ⟨slc, bts, bts⟩ ?_
  rintro W ⟨hbW, hM, hr⟩
  have hlt := hr.lt
  go_region_held3 (fun w' => (w'.cell? ⟨w.heap.size, 0, none⟩ = some (.slice (some ⟨gp, 0, none⟩) n cp) ∧ w'.cell? ⟨w.heap.size, 1, none⟩ = some (.slice (some ⟨gt, 0, none⟩) m ct)) ∧ (w'.cell? ⟨w.heap.size + 1, 0, none⟩ = some (cellD w' (w.heap.size + 1) 0) ∧ w'.cell? ⟨w.heap.size + 1, 1, none⟩ = some (cellD w' (w.heap.size + 1) 1)) ∧ w'.frozen? ⟨w.heap.size + 1, 0, none⟩ = false ∧ w'.frozen? ⟨w.heap.size + 1, 1, none⟩ = false) (first | exact ⟨bx2 (T := 57) bts, Wk.out2 (T := 57) bts⟩) (first | (go_at_call 64; refine (EdgeMarks_yes _ (MeAt.bl hMe slc) hf.out (RdI.bl hl slc) hk).mono ?_; rintro e w3 ⟨A3, n3, c3, rfl, hR3, hb3⟩) | (go_at_call 67; refine (BisectEdges_yes _ (MeAt.bl hMe slc) hf.out (RdI.bl hR3.rd slc) (by have h := hR3.rd.len; omega) ho.out).mono ?_; rintro e w4 ⟨_, rfl, hO, hb4⟩; (obtain ⟨gp2, n2, cp2, gt2, m2, ct2, rfl, hP2, hT2⟩ := hO.1)))
  have hz3 : W.heap.size ≤ w3.heap.size := Bl.size (show Bl W w3 from slc)
  have hlt3 : w.heap.size + 1 < w3.heap.size := by omega
  have hr := (show Wk 2 57 (w.heap.size + 1) w4 from bts)
  have hbW : Bl w w4 := slc
  obtain ⟨v0, x0⟩ := hr.val_ (i := 0) (by omega)
  obtain ⟨v1, x1⟩ := hr.val_ (i := 1) (by omega)
  have hg := hr.lt
  obtain ⟨cs4, hB4, hc4⟩ := hr
  have hf0 := hB4.frozen 0
  have hf1 := hB4.frozen 1
  go_wp2_with fail
  exact bodyPost_ret (v := .tuple #[.agg #[.slice (some ⟨gp2, 0, none⟩) n2 cp2, .slice (some ⟨gt2, 0, none⟩) m2 ct2], .bool true]) (by simp [results, Tryz.results47, go_sem, x0, x1]) rfl ⟨_, rfl, MeOw.low (MeOw.setLow (MeOw.setLow hO (q := ⟨w.heap.size + 1, 0, none⟩) hlt3 _) (q := ⟨w.heap.size + 1, 1, none⟩) hlt3 _) (by omega), slc⟩
end

section
open Go.RowKit

theorem bgt_set_same {bl : List Bool} {i : Nat} (h : i < bl.length) (x : Bool) : bgt (bl.set i x) i = x := by rw [← bgt_set rfl x i h, if_pos rfl]
theorem bgt_set_true {bl : List Bool} {i k : Nat} (h : i < bl.length) (hb : bgt bl i = true) : bgt (bl.set k true) i = true := by
  rw [← bgt_set rfl true i h]
  split
  · rfl
  · exact hb
theorem mkTo_keep {l : List Int} {n i : Nat} (hi : i < n) : ∀ {k d : Nat}, bgt (mkTo l n k) i = true → bgt (mkTo l n (k + d)) i = true
  | k, 0, h => h
  | k, d + 1, h => by
    have h1 := mkTo_keep hi (d := d) h
    show bgt (mkTo l n (k + d + 1)) i = true
    unfold mkTo
    split
    · exact bgt_set_true (by rw [mkTo_len]; exact hi) h1
    · exact h1
theorem mkA_mem {l : List Int} {n k : Nat} (hk : k < l.length) (h0 : 0 ≤ ix l k) (h1 : ix l k < n) : bgt (mkA l n) (ix l k).toNat = true := by
  have h2 : bgt (mkTo l n (k + 1)) (ix l k).toNat = true := by
    unfold mkTo
    rw [if_pos ⟨h0, by omega⟩]
    exact bgt_set_same (by rw [mkTo_len]; omega) true
  have h3 := mkTo_keep (l := l) (n := n) (i := (ix l k).toNat) (by omega) (d := l.length - (k + 1)) h2
  rwa [show k + 1 + (l.length - (k + 1)) = l.length by omega] at h3
theorem cs_ix {m : MeQ} (h : m ∈ csL) : ∃ i, i < 6 ∧ m = pix csL i := by
  obtain ⟨i, hi, rfl⟩ := List.getElem_of_mem h
  refine ⟨i, hi, ?_⟩
  unfold pix
  rw [List.getD_eq_getElem?_getD, List.getElem?_eq_getElem hi]
  rfl
theorem rf_ok {m : MeQ} (h : m ∈ csL) (l : List Int) : rfB m (mkA l m.tris.length) = true := by
  obtain ⟨i, hi, rfl⟩ := cs_ix h
  have hmem : mkA l (pix csL i).tris.length ∈ allB (pix csL i).tris.length := by
    have h1 := mem_allB (mkA l (pix csL i).tris.length)
    rwa [mkA_len] at h1
  rcases (show i = 0 ∨ i = 1 ∨ i = 2 ∨ i = 3 ∨ i = 4 ∨ i = 5 by omega) with rfl | rfl | rfl | rfl | rfl | rfl
  · exact rf_ok0 _ hmem
  · exact rf_ok1 _ hmem
  · exact rf_ok2 _ hmem
  · exact rf_ok3 _ hmem
  · exact rf_ok4 _ hmem
  · exact rf_ok5 _ hmem
/-- What a refinement of a coarse mesh is. -/
structure RefOk (m : MeQ) (l : List Int) : Prop where
  fit : FitM m
  fitX : FitM (bisM m (emA m.tris l))
  area : areaM (bisM m (emA m.tris l)) = areaM m
  new : ∀ k, k < l.length → 0 ≤ ix l k → ix l k < m.tris.length → ∀ j, j < (bisM m (emA m.tris l)).tris.length → pix (bisM m (emA m.tris l)).tris j ≠ pix m.tris (ix l k).toNat
theorem ref_ok {m : MeQ} (h : m ∈ csL) (l : List Int) : RefOk m l := by
  obtain ⟨h1, h2⟩ := cs_ok m h
  have h3 := rf_ok h l
  unfold rfB at h3
  simp only [Bool.and_eq_true] at h3
  obtain ⟨h4, h5, h6⟩ := h3
  refine ⟨fit_of h1, fit_of h4, (areaM_toR h5).trans (areaM_toR h2).symm, fun k hk h0 h7 j hj e => ?_⟩
  have h8 := List.all_eq_true.1 h6 (ix l k).toNat (List.mem_range.2 (by omega))
  rw [mkA_mem hk h0 h7, Bool.not_true, Bool.false_or, Bool.not_eq_true'] at h8
  have h9 : (rfM m (mkA l m.tris.length)).tris.contains (pix m.tris (ix l k).toNat) = true := by
    rw [List.contains_iff_mem, ← e]
    unfold pix
    rw [List.getD_eq_getElem?_getD, List.getElem?_eq_getElem hj]
    exact List.getElem_mem hj
  rw [h9] at h8
  cases h8
end

section
open Go.RowKit

theorem an_ok {m : MeQ} (h : m ∈ csL) (l : List Int) : angB m (mkA l m.tris.length) = true := by
  obtain ⟨i, hi, rfl⟩ := cs_ix h
  have hmem : mkA l (pix csL i).tris.length ∈ allB (pix csL i).tris.length := by
    have h1 := mem_allB (mkA l (pix csL i).tris.length)
    rwa [mkA_len] at h1
  rcases (show i = 0 ∨ i = 1 ∨ i = 2 ∨ i = 3 ∨ i = 4 ∨ i = 5 by omega) with rfl | rfl | rfl | rfl | rfl | rfl
  · exact an_ok0 _ hmem
  · exact an_ok1 _ hmem
  · exact an_ok2 _ hmem
  · exact an_ok3 _ hmem
  · exact an_ok4 _ hmem
  · exact an_ok5 _ hmem
/-- What FnAngles asks of a refinement X of a coarse mesh. -/
structure AngOk (m X : MeQ) : Prop where
  fitX : FitM X
  fitY : FitM (angY X)
  shX : ShT X
  shY : ShT (angY X)
  le1 : mkRat 1 4 * wsM m ≤ wsM X
  le2 : mkRat 1 4 * wsM m ≤ wsM (angY X)
theorem ang_ok {m : MeQ} (h : m ∈ csL) (l : List Int) : AngOk m (bisM m (emA m.tris l)) := by
  have h1 := an_ok h l
  unfold angB at h1
  simp only [Bool.and_eq_true, decide_eq_true_eq] at h1
  obtain ⟨h2, h3, h4, h5, h6⟩ := h1
  exact ⟨(ref_ok h l).fitX, fit_of h2, h3, h4, h5, h6⟩
/-- What FnAngles asks of a coarse mesh. -/
structure AngM (m : MeQ) : Prop where
  fit : FitM m
  sh : ShT m
  pos : 0 < mkRat 1 4 * wsM m
  bd : Bd 49829060480682873324544 (mkRat 1 4 * wsM m)
theorem ang_m {m : MeQ} (h : m ∈ csL) : AngM m := by
  have h1 := ac_ok m h
  unfold angC at h1
  simp only [Bool.and_eq_true, decide_eq_true_eq] at h1
  exact ⟨(ref_ok h []).fit, h1.1, h1.2.1, h1.2.2⟩
theorem ShT.wsb {m : MeQ} (h : ShT m) (hf : FitM m) : Bd 49829060480682873324544 (wsM m) := h.ws (by have := hf.ok.t1; omega) (Nat.le_refl _)
theorem AngM.mul {m : MeQ} (h : AngM m) : mulR (ofFrac 1 4) (toR (wsM m)) = toR (mkRat 1 4 * wsM m) := by
  obtain ⟨e, b⟩ := ofFrac_sm 1 4 (by omega) (by omega) (by omega)
  rw [e]
  exact mulR_toR (b.fit (by decide)) ((h.sh.wsb h.fit).fit (by decide)) (h.bd.fit (by decide))
theorem AngM.sgn {m : MeQ} (h : AngM m) : sgnR (toR (mkRat 1 4 * wsM m)) = 1 := by
  have h0 := h.pos
  rw [sgnR_toR (h.bd.fit (by decide)), if_neg (by grind), if_pos h0]
theorem cmp_ge {p q : Rat} {N : Nat} (hp : Bd N p) (hq : Bd N q) (hN : N < Bs ^ 24) (h : q ≤ p) : 0 ≤ cmpR (toR p) (toR q) ∧ cmpR (toR p) (toR q) ≤ 1 := by
  rw [cmpR_toR (hp.fit hN) (hq.fit hN), if_neg (by grind)]
  split <;> omega
/-- The sum of the first k. -/
def suI (u : List Int) : Nat → Int
  | 0 => 0
  | k + 1 => suI u k + ix u k
theorem suI_cons (x : Int) (u : List Int) : ∀ k, suI (x :: u) (k + 1) = x + suI u k
  | 0 => by simp [suI, ix]
  | k + 1 => by
    show suI (x :: u) (k + 1) + ix (x :: u) (k + 1) = x + (suI u k + ix u k)
    rw [suI_cons x u k]
    have : ix (x :: u) (k + 1) = ix u k := by simp [ix]
    rw [this]
    omega
theorem suI_all : ∀ u : List Int, suI u u.length = u.sum
  | [] => rfl
  | x :: u => by rw [List.length_cons, suI_cons, suI_all u, List.sum_cons]
theorem suI_bd {u : List Int} {N : Int} (hN : 0 ≤ N) (h : ∀ x ∈ u, 0 ≤ x ∧ x ≤ N) : ∀ k, k ≤ u.length → 0 ≤ suI u k ∧ suI u k ≤ N * k
  | 0, _ => ⟨by simp [suI], by simp [suI]⟩
  | k + 1, hk => by
    obtain ⟨h1, h2⟩ := suI_bd hN h k (by omega)
    obtain ⟨h3, h4⟩ := h _ (ix_mem (l := u) (k := k) (by omega))
    show 0 ≤ suI u k + ix u k ∧ suI u k + ix u k ≤ N * ((k + 1 : Nat) : Int)
    have h5 : N * ((k + 1 : Nat) : Int) = N * (k : Int) + N := by rw [Int.natCast_add, Int.mul_add]; simp
    omega
end

section
open Go.RowKit
set_option maxRecDepth 100000 in
set_option maxHeartbeats 4000000 in
theorem RatMin_any (w : World) {s : Bool} {A : Option Addr} {n c : Nat} {B : Option Addr} {m d : Nat} {r : RatD} {s' : Bool} {A' : Option Addr} {n' c' : Nat} {B' : Option Addr} {m' d' : Nat} {r' : RatD} (h : RdR w s A n c B m d r) (k : RdR w s' A' n' c' B' m' d' r') :
    Calls Tryz.prog 126 #[.agg #[.bool s, .slice A n c, .slice B m d], .agg #[.bool s', .slice A' n' c', .slice B' m' d']] w fun e w' => ∃ s1 A1 n1 c1 B1 m1 d1, e = .returned (.agg #[.bool s1, .slice A1 n1 c1, .slice B1 m1 d1]) ∧ OwR 3 w.heap.size w' s1 A1 n1 c1 B1 m1 d1 (minR r r') ∧ Bl w w' := by
  by_cases ho : OkR r ∧ OkR r'
  · have hall := Lib.hid (allOk_two.2 ho)
    have hI := IsR.out h ho.1
    have hI' := IsR.out k ho.2
    have hL := OkR.lens h ho.1
    have hL' := OkR.lens k ho.2
    have hval := minR_val ho
    clear ho
    generalize hcz : cmpZ (rn r * (rd r' : Int)) (rn r' * (rd r : Int)) = cz at *
    have hcz := Lib.hid hcz; rename_i h_; clear h_
    by_cases hge : cz ≤ 0
    · rw [if_pos hge] at hval
      have hval := Lib.hid hval; rename_i h_; clear h_
      go_enter Tryz.func126, Tryz.ntmps126
      go_wp2_with fail
      refine calls_gen (fun W => Bl w W ∧ Blk W (w.heap.size) 29 #[.bool s, .slice A n c, .slice B m d] ∧ Blk W (w.heap.size + 1) 29 #[.bool s', .slice A' n' c', .slice B' m' d'] ∧ Wk 3 29 (w.heap.size + 1 + 1) W ∧ Blk W (w.heap.size + 1 + 1 + 1) 29 #[.bool s, .slice A n c, .slice B m d, .bool s', .slice A' n' c', .slice B' m' d']) ⟨slc, bts, bts, bts, Blk.new3 _ _ _ _ _ _⟩ ?_
      rintro W ⟨hbW, hx, hx', hr, hy⟩
      refine (areRats_yes _ (RdRS.two hy (h.bl hbW) (k.bl hbW)) hall.out).mono ?_
      rintro e w1 ⟨rfl, hb1⟩
      clear hy
      have hx := hx.bl hb1
      have hx' := hx'.bl hb1
      have hr := hr.bl hb1
      have hbW := hbW.next hb1
      clear hb1
      obtain ⟨i0, i1, i2⟩ := bx3 hx
      obtain ⟨j0, j1, j2⟩ := bx3 hx'
      go_wp2_with fail
      refine (rcompare_any _ (RdR.bl hI hbW) (RdR.bl hI' hbW) (by omega) (by omega) (by omega) (by omega)).mono ?_
      rw [hcz.out]
      rintro e w2 ⟨rfl, hb2⟩
      have hx := hx.bl hb2
      have hx' := hx'.bl hb2
      have hr := hr.bl hb2
      have hbW := hbW.next hb2
      clear hb2
      obtain ⟨i0, i1, i2⟩ := bx3 hx
      obtain ⟨j0, j1, j2⟩ := bx3 hx'
      go_wp2_with fail
      refine (copyRat_any _ (h.bl hbW) (by omega) (by omega)).mono ?_
      rintro e w3 ⟨A1, n1, c1, B1, m1, d1, rfl, hR, hb3⟩
      have hR := hR.mono (show w.heap.size + 1 + 1 + 1 ≤ w2.heap.size from hr.lt)
      rw [← hval.out] at hR
      have hx := hx.bl hb3
      have hx' := hx'.bl hb3
      have hr := hr.bl hb3
      have hbW := hbW.next hb3
      clear hb3
      obtain ⟨i0, i1, i2⟩ := bx3 hx
      obtain ⟨j0, j1, j2⟩ := bx3 hx'
      obtain ⟨v0, x0⟩ := hr.val_ (i := 0) (by omega)
      obtain ⟨v1, x1⟩ := hr.val_ (i := 1) (by omega)
      obtain ⟨v2, x2⟩ := hr.val_ (i := 2) (by omega)
      have hg := hr.lt
      obtain ⟨cs4, hB4, hc4⟩ := hr
      have hf0 := hB4.frozen 0
      have hf1 := hB4.frozen 1
      have hf2 := hB4.frozen 2
      go_wp2_with fail
      exact bodyPost_ret (v := .agg #[.bool s, .slice A1 n1 c1, .slice B1 m1 d1]) (by simp [results, Tryz.results126, go_sem, x0, x1, x2]) rfl ⟨_, _, _, _, _, _, _, rfl, (((hR.far (by simp) _).far (by simp) _).far (by simp) _).mono (by omega), slc⟩
    · rw [if_neg hge] at hval
      have hval := Lib.hid hval; rename_i h_; clear h_
      have hge : 0 < cz := by omega
      go_enter Tryz.func126, Tryz.ntmps126
      go_wp2_with fail
      refine calls_gen (fun W => Bl w W ∧ Blk W (w.heap.size) 29 #[.bool s, .slice A n c, .slice B m d] ∧ Blk W (w.heap.size + 1) 29 #[.bool s', .slice A' n' c', .slice B' m' d'] ∧ Wk 3 29 (w.heap.size + 1 + 1) W ∧ Blk W (w.heap.size + 1 + 1 + 1) 29 #[.bool s, .slice A n c, .slice B m d, .bool s', .slice A' n' c', .slice B' m' d']) ⟨slc, bts, bts, bts, Blk.new3 _ _ _ _ _ _⟩ ?_
      rintro W ⟨hbW, hx, hx', hr, hy⟩
      refine (areRats_yes _ (RdRS.two hy (h.bl hbW) (k.bl hbW)) hall.out).mono ?_
      rintro e w1 ⟨rfl, hb1⟩
      clear hy
      have hx := hx.bl hb1
      have hx' := hx'.bl hb1
      have hr := hr.bl hb1
      have hbW := hbW.next hb1
      clear hb1
      obtain ⟨i0, i1, i2⟩ := bx3 hx
      obtain ⟨j0, j1, j2⟩ := bx3 hx'
      go_wp2_with fail
      refine (rcompare_any _ (RdR.bl hI hbW) (RdR.bl hI' hbW) (by omega) (by omega) (by omega) (by omega)).mono ?_
      rw [hcz.out]
      rintro e w2 ⟨rfl, hb2⟩
      have hx := hx.bl hb2
      have hx' := hx'.bl hb2
      have hr := hr.bl hb2
      have hbW := hbW.next hb2
      clear hb2
      obtain ⟨i0, i1, i2⟩ := bx3 hx
      obtain ⟨j0, j1, j2⟩ := bx3 hx'
      go_wp2_with fail
      refine (copyRat_any _ (k.bl hbW) (by omega) (by omega)).mono ?_
      rintro e w3 ⟨A1, n1, c1, B1, m1, d1, rfl, hR, hb3⟩
      have hR := hR.mono (show w.heap.size + 1 + 1 + 1 ≤ w2.heap.size from hr.lt)
      rw [← hval.out] at hR
      have hx := hx.bl hb3
      have hx' := hx'.bl hb3
      have hr := hr.bl hb3
      have hbW := hbW.next hb3
      clear hb3
      obtain ⟨i0, i1, i2⟩ := bx3 hx
      obtain ⟨j0, j1, j2⟩ := bx3 hx'
      obtain ⟨v0, x0⟩ := hr.val_ (i := 0) (by omega)
      obtain ⟨v1, x1⟩ := hr.val_ (i := 1) (by omega)
      obtain ⟨v2, x2⟩ := hr.val_ (i := 2) (by omega)
      have hg := hr.lt
      obtain ⟨cs4, hB4, hc4⟩ := hr
      have hf0 := hB4.frozen 0
      have hf1 := hB4.frozen 1
      have hf2 := hB4.frozen 2
      go_wp2_with fail
      exact bodyPost_ret (v := .agg #[.bool s', .slice A1 n1 c1, .slice B1 m1 d1]) (by simp [results, Tryz.results126, go_sem, x0, x1, x2]) rfl ⟨_, _, _, _, _, _, _, rfl, (((hR.far (by simp) _).far (by simp) _).far (by simp) _).mono (by omega), slc⟩
  · have hall := Lib.hid (fun hk => ho (allOk_two.1 hk) : ¬ AllOk [r, r'])
    have hval := Lib.hid (show minR r r' = zR by unfold minR; rw [if_neg ho])
    have ho := Lib.hid ho; rename_i h_; clear h_
    go_enter Tryz.func126, Tryz.ntmps126
    go_wp2_with fail
    refine calls_gen (fun W => Bl w W ∧ Blk W (w.heap.size) 29 #[.bool s, .slice A n c, .slice B m d] ∧ Blk W (w.heap.size + 1) 29 #[.bool s', .slice A' n' c', .slice B' m' d'] ∧ Wk 3 29 (w.heap.size + 1 + 1) W ∧ Blk W (w.heap.size + 1 + 1 + 1) 29 #[.bool s, .slice A n c, .slice B m d, .bool s', .slice A' n' c', .slice B' m' d']) ⟨slc, bts, bts, bts, Blk.new3 _ _ _ _ _ _⟩ ?_
    rintro W ⟨hbW, hx, hx', hr, hy⟩
    refine (areRats_no _ (RdRS.two hy (h.bl hbW) (k.bl hbW)) hall.out).mono ?_
    rintro e w1 ⟨rfl, hb1⟩
    clear hy
    have hx := hx.bl hb1
    have hx' := hx'.bl hb1
    have hr := hr.bl hb1
    have hbW := hbW.next hb1
    clear hb1
    obtain ⟨i0, i1, i2⟩ := bx3 hx
    obtain ⟨j0, j1, j2⟩ := bx3 hx'
    obtain ⟨v0, x0⟩ := hr.val_ (i := 0) (by omega)
    obtain ⟨v1, x1⟩ := hr.val_ (i := 1) (by omega)
    obtain ⟨v2, x2⟩ := hr.val_ (i := 2) (by omega)
    have hg := hr.lt
    obtain ⟨cs4, hB4, hc4⟩ := hr
    have hf0 := hB4.frozen 0
    have hf1 := hB4.frozen 1
    have hf2 := hB4.frozen 2
    go_wp2_with fail
    exact bodyPost_ret (v := .agg #[.bool false, .slice none 0 0, .slice none 0 0]) (by simp [results, Tryz.results126, go_sem, x0, x1, x2]) rfl ⟨_, _, _, _, _, _, _, rfl, by rw [hval.out]; exact OwR.zero _ _ _, slc⟩
end

section
open Go.RowKit
end

section
open Go.RowKit

section
variable {x0 y0 x1 y1 x2 y2 u v : Rat}
theorem B10.pt (h : Bd 17 u) : B10 2 u := B10.of h (by decide)
end
end

section
open Go.RowKit

section
variable {x0 y0 x1 y1 x2 y2 : Rat}
end
end

section
open Go.RowKit
end

section
open Go.RowKit

theorem OwSZ.row {T1 T2 T3 : TypeId} {lo hi g5 n c : Nat} {w : World} {L : List (List RatD)} (h : OwSZ T1 T2 T3 lo hi w (some ⟨g5, 0, none⟩) n c L) {i : Nat} (hi' : i < n) (hl : 0 < (pix L i).length) :
    ∃ gr cr bs, w.cell? ⟨g5, i, none⟩ = some (.slice (some ⟨gr, 0, none⟩) (pix L i).length cr) ∧ FtRS T1 T2 w (some ⟨gr, 0, none⟩) (pix L i).length cr (pix L i) bs ∧ ∀ b ∈ bs, lo ≤ b := by
  obtain ⟨h1, h2, h3, h4⟩ := h
  rcases h4 with h4 | ⟨g, cs, fs, e, hB, hc, hf, hP, hF⟩
  · omega
  · injection e with e
    injection e with e
    subst e
    obtain ⟨A, n', c', h0, hft⟩ := hP i hi'
    have hb : ∀ b ∈ pix fs i, lo ≤ b := fun b hb => (hF.2 b (List.mem_cons_of_mem _ (mem_flatten_pix hb))).1
    have e1 := hft.1
    rcases hft.2.2.2 with ⟨h0', _⟩ | ⟨gr, cs2, fs2, e2, _⟩
    · omega
    · subst e2
      subst e1
      exact ⟨gr, c', pix fs i, (hB.cell i).trans h0, hft, hb⟩
theorem FtRS.ob {T1 T2 : TypeId} {w W : World} {A : Option Addr} {n c g : Nat} {l : List RatD} {bs : List Nat} (h : FtRS T1 T2 w A n c l bs) (ho : Ob [g] w W) (hb : ∀ b ∈ bs, b ≠ g) : FtRS T1 T2 W A n c l bs :=
  h.keep ho.size fun b hm => ho.block b (h.lt b hm) (by simpa using hb b hm)
end

section
open Go.RowKit

def RatRS (w : World) (r : RatD) (e : Ending) (w' : World) : Prop := ∃ s1 A1 n1 c1 B1 m1 d1, e = .returned (.agg #[.bool s1, .slice A1 n1 c1, .slice B1 m1 d1]) ∧ RdR w' s1 A1 n1 c1 B1 m1 d1 r ∧ Bl w w'
set_option maxRecDepth 100000 in
set_option maxHeartbeats 32000000 in
theorem WorstShape_yes (w : World) {v : Value} {mq : MeQ} (h : MeAt w v mq) (hok : MeshOk mq) (hsh : ShT mq) :
    Calls Tryz.prog 51 #[v] w (RatRS w (toR (wsM mq))) := by
  obtain ⟨gp, n, cp, gt, m, ct, rfl, hp, ht⟩ := h
  have hm48 : m ≤ 48 := by have := hok.t48; rw [ht.len] at this; exact this
  have hm0 : 1 ≤ m := by have := hok.t1; rw [ht.len] at this; exact this
  have hn := Lib.hid (show mq.pts.length = n by rw [← hp.len, List.length_map])
  have hm := Lib.hid ht.len
  have hok := Lib.hid hok; rename_i h_; clear h_
  have hsh := Lib.hid hsh; rename_i h_; clear h_
  have hcp := ht.cap
  go_enter Tryz.func51, Tryz.ntmps51
  go_wp2_with fail
  refine calls_gen (fun W => Bl w W ∧ Blk W w.heap.size 57 #[.slice (some ⟨gp, 0, none⟩) n cp, .slice (some ⟨gt, 0, none⟩) m ct] ∧ Wk 3 29 (w.heap.size + 1) W) ⟨slc, bts, bts⟩ ?_
  rintro W ⟨hbW, h1, hr⟩
  refine (IsMesh_yes _ (RdPS.bl hp hbW) (RdTS.bl ht hbW) hok.out).mono ?_
  rintro e w1 ⟨rfl, hb1⟩
  have h1 := h1.bl hb1
  have hr := hr.bl hb1
  have hbW := hbW.next hb1
  clear hb1
  obtain ⟨r0, r1⟩ := bx2 h1
  go_wp2_with fail
  refine (Corners_any (x := ⟨mq.pts.map tp, mq.tris⟩) _ 0 (RdPS.bl hp hbW) (RdTS.bl ht hbW) hok.out.sz).mono ?_
  rw [show cornL ⟨mq.pts.map tp, mq.tris⟩ 0 = [tp (mc mq (pix mq.tris 0).a), tp (mc mq (pix mq.tris 0).b), tp (mc mq (pix mq.tris 0).c)] from cornL_me (k := 0) hok.out.ixs (by rw [hm.out]; omega)]
  rintro e w3 ⟨A3, n3, c3, rfl, hO3, hb3⟩
  obtain ⟨g3', rfl, rfl⟩ := hO3.lit3
  clear r0 r1
  go_wp2_with fail
  refine (ShapeOf_any _ hO3.rd).mono ?_
  rw [(hsh.out.shape (show 0 < mq.tris.length by rw [hm.out]; omega)).1]
  rintro e w4 ⟨s4, A4, n4, c4, B4, m4, d4, rfl, hR4, hb4⟩
  have h1 := h1.bl (hb3.next hb4)
  have hr := hr.bl (hb3.next hb4)
  have hbW := hbW.next (hb3.next hb4)
  have hrl := hr.lt
  clear hb3 hb4 hO3
  go_upto_region 4 with (fail)
  refine wp_gen (fun W => Bl w4 W ∧ ∃ g3, Blk W g3 29 #[.bool s4, .slice A4 n4 c4, .slice B4 m4 d4] ∧ g3 = w4.heap.size) ⟨by exact slc, _, by exact bts, rfl⟩ ?_
  rintro W4 ⟨hb4, g3, h3, hg3⟩
  rw [← hg3]
  have hgl : w.heap.size + 1 < g3 := by omega
  have h1 := h1.bl hb4
  have hr := hr.bl hb4
  have hbW := hbW.next hb4
  have hF3 : OwR 3 0 W4 s4 A4 n4 c4 B4 m4 d4 (toR (wsTo mq 0)) := (hR4.bl hb4).mono (Nat.zero_le _)
  clear hg3 hb4 hR4 hrl
  obtain ⟨r0, r1⟩ := bx2 h1
  go_wp2_with fail
  clear r0 r1
  go_loopw [15] (fun x wr => ∃ (k : Nat) (s7 : Bool) (A7 : Option Addr) (n7 c7 : Nat) (B7 : Option Addr) (m7 d7 : Nat), k ≤ m ∧ x = .int .i64 (k : Int) ∧ Blk wr g3 29 #[.bool s7, .slice A7 n7 c7, .slice B7 m7 d7] ∧ OwR 3 0 wr s7 A7 n7 c7 B7 m7 d7 (toR (wsTo mq k)) ∧ Ob [g3] W4 wr) (fun x _ => m - (intOf x).toNat)
  case atStart => exact ⟨0, _, _, _, _, _, _, _, by omega, rfl, h3, hF3, Ob.refl _ _⟩
  case round =>
    clear h3 hF3
    obtain ⟨k, s7, A7, n7, c7, B7, m7, d7, hk, rfl, h3, hF3, hO⟩ := hrel
    obtain ⟨wi, rfl⟩ : ∃ wi : World, wi = wr := ⟨_, rfl⟩
    have hbj : Bl w wi := hbW.ob hO (fun b hb => by simp at hb; omega)
    have h1 := h1.ob hO (by simp; omega)
    by_cases hkm : k < m
    · have hki : (k : Int) < (m : Int) := by omega
      have hkl : k < mq.tris.length := by rw [hm.out]; exact hkm
      have hcK := Lib.hid (cornL_me (k := k) hok.out.ixs hkl)
      have hsK := Lib.hid (hsh.out.shape hkl).1
      have hmn := Lib.hid (show minR (toR (wsTo mq k)) (toR (shK mq k)) = toR (wsTo mq (k + 1)) from minR_toR ((hsh.out.ws (by omega) (show k ≤ mq.tris.length by omega)).fit (by decide)) ((hsh.out.shape hkl).2.fit (by decide)))
      clear hkl
      go_upto_region 7 with (fail)
      have hHeld : (fun w' => (w'.cell? ⟨g3, 0, none⟩ = some (.bool s7) ∧ w'.cell? ⟨g3, 1, none⟩ = some (.slice A7 n7 c7) ∧ w'.cell? ⟨g3, 2, none⟩ = some (.slice B7 m7 d7)) ∧ (w'.cell? ⟨w.heap.size, 0, none⟩ = some (.slice (some ⟨gp, 0, none⟩) n cp) ∧ w'.cell? ⟨w.heap.size, 1, none⟩ = some (.slice (some ⟨gt, 0, none⟩) m ct))) (wi.drew) := ⟨bx3 (T := 29) (h3.bl slc), bx2 (T := 57) (h1.bl slc)⟩
      refine wp_region_T 6 7 (fun w' => (w'.cell? ⟨g3, 0, none⟩ = some (.bool s7) ∧ w'.cell? ⟨g3, 1, none⟩ = some (.slice A7 n7 c7) ∧ w'.cell? ⟨g3, 2, none⟩ = some (.slice B7 m7 d7)) ∧ (w'.cell? ⟨w.heap.size, 0, none⟩ = some (.slice (some ⟨gp, 0, none⟩) n cp) ∧ w'.cell? ⟨w.heap.size, 1, none⟩ = some (.slice (some ⟨gt, 0, none⟩) m ct))) rfl (by kernel_rfl) hHeld ?_
      refine wpAnyT_take (i := 0) (oi := _) (v := ?_) (fuel := 6) rfl (by kernel_rfl) (by kernel_rfl) (by kernel_rfl) (by kernel_rfl) (fun _ _ _ h => h) (by rfl) ?_ hHeld ?_
      rotate_left 1
      · (intro w' hSw; (try dsimp only at hSw); go_simp <;> with_reducible rfl)
      refine wpAnyT_take (i := 1) (oi := _) (v := ?_) (fuel := 5) rfl (by kernel_rfl) (by kernel_rfl) (by kernel_rfl) (by kernel_rfl) (fun _ _ _ h => h) (by rfl) ?_ hHeld ?_
      rotate_left 1
      · (intro w' hSw; (try dsimp only at hSw); go_simp <;> with_reducible rfl)
      refine wpAnyT_take (i := 2) (oi := _) (v := ?_) (fuel := 4) rfl (by kernel_rfl) (by kernel_rfl) (by kernel_rfl) (by kernel_rfl) (fun _ _ _ h => h) (by rfl) ?_ hHeld ?_
      rotate_left 1
      · (intro w' hSw; (try dsimp only at hSw); go_simp <;> with_reducible rfl)
      clear hHeld
      simp only [Act.put, List.setIfInBounds_toArray]
      refine wpAnyT_step (i := 3) (o := _) (fuel := 3) rfl (by kernel_rfl) (fun K hK => ?_)
      go_simp
      refine (Corners_any (x := ⟨mq.pts.map tp, mq.tris⟩) _ (k : Int) (RdPS.bl hp (hbj.next (show Bl wi _ from slc))) (RdTS.bl ht (hbj.next (show Bl wi _ from slc))) hok.out.sz).mono ?_
      rw [hcK.out]
      rintro e w5 ⟨A5, n5, c5, rfl, hO5, hb5⟩
      obtain ⟨g5, rfl, rfl⟩ := hO5.lit3
      have hb5 : Bl wi w5 := (Bl.drew (Bl.refl wi)).next hb5
      refine hK.out _ _ (fun _ => ⟨bx3 (T := 29) (h3.bl slc), bx2 (T := 57) (h1.bl slc)⟩) ?_
      clear hK K
      try simp only [Act.put, List.setIfInBounds_toArray, List.set_cons_zero, List.set_cons_succ]
      refine wpAnyT_step (i := 4) (o := _) (fuel := 2) rfl (by kernel_rfl) (fun K hK => ?_)
      go_simp
      refine (ShapeOf_any _ hO5.rd).mono ?_
      rw [hsK.out]
      rintro e w6 ⟨s6, A6, n6, c6, B6, m6, d6, rfl, hR6, hb6⟩
      have hb6 : Bl wi w6 := hb5.next hb6
      refine hK.out _ _ (fun _ => ⟨bx3 (T := 29) (h3.bl slc), bx2 (T := 57) (h1.bl slc)⟩) ?_
      clear hK K
      try simp only [Act.put, List.setIfInBounds_toArray, List.set_cons_zero, List.set_cons_succ]
      refine wpAnyT_step (i := 5) (o := _) (fuel := 1) rfl (by kernel_rfl) (fun K hK => ?_)
      go_simp
      refine (RatMin_any _ (hF3.rd.bl slc) hR6.rd).mono ?_
      rw [hmn.out]
      rintro e w7 ⟨s8, A8, n8, c8, B8, m8, d8, rfl, hRn, hb7⟩
      have hb7 : Bl wi w7 := hb6.next hb7
      refine hK.out _ _ (fun _ => ⟨bx3 (T := 29) (h3.bl slc), bx2 (T := 57) (h1.bl slc)⟩) ?_
      clear hK K
      try simp only [Act.put, List.setIfInBounds_toArray, List.set_cons_zero, List.set_cons_succ]
      have h3 := h3.bl hb7
      obtain ⟨z0', z1', z2'⟩ := bx3 h3
      have zf0 := h3.frozen 0
      have zf1 := h3.frozen 1
      have zf2 := h3.frozen 2
      refine wpAnyT_step (i := 6) (o := _) (fuel := 0) rfl (by kernel_rfl) (fun K hK => ?_)
      go_simp
      refine hK.out _ _ (fun h => absurd rfl h) ?_
      clear hK K
      try simp only [Act.put, List.setIfInBounds_toArray]
      refine wpAnyT_done (by kernel_rfl) ?_
      have hk : Wk 3 29 g3 w7 := Wk.of h3 rfl
      have hF3 := OwR.put3 (hRn.mono (Nat.zero_le _)) hk ne_ir (.bool s8) (.slice A8 n8 c8) (.slice B8 m8 d8)
      have h3 : Blk (((w7.setCell ⟨g3, 0, none⟩ (.bool s8)).setCell ⟨g3, 1, none⟩ (.slice A8 n8 c8)).setCell ⟨g3, 2, none⟩ (.slice B8 m8 d8)) g3 29 #[.bool s8, .slice A8 n8 c8, .slice B8 m8 d8] := by simpa using ((h3.set_ 0 (.bool s8)).set_ 1 (.slice A8 n8 c8)).set_ 2 (.slice B8 m8 d8)
      have hOz : Ob [g3] W4 (((w7.setCell ⟨g3, 0, none⟩ (.bool s8)).setCell ⟨g3, 1, none⟩ (.slice A8 n8 c8)).setCell ⟨g3, 2, none⟩ (.slice B8 m8 d8)) := (((hO.trans (Ob.of_bl hb7 _)).set (by simp) 0 _).set (by simp) 1 _).set (by simp) 2 _
      generalize (((w7.setCell ⟨g3, 0, none⟩ (.bool s8)).setCell ⟨g3, 1, none⟩ (.slice A8 n8 c8)).setCell ⟨g3, 2, none⟩ (.slice B8 m8 d8)) = wz at hF3 h3 hOz ⊢
      clear hk hRn hb7
      go_wp2_with fail
      go_roundw
      case rel => exact ⟨k + 1, _, _, _, _, _, _, _, by omega, by go_num, h3, hF3, hOz⟩
      case measure => simp [intOf]; omega
    · obtain rfl : k = m := by omega
      have hkm2 : ¬ (k : Int) < (k : Int) := by omega
      have hr := hr.ob hO (by simp; omega)
      have hF := OwR.put3 hF3 hr ne_ir (.bool s7) (.slice A7 n7 c7) (.slice B7 m7 d7)
      have hws := Lib.hid (show wsM mq = wsTo mq k by unfold wsM; rw [hm.out])
      obtain ⟨i0, i1, i2⟩ := bx3 h3
      obtain ⟨v0, x0⟩ := hr.val_ (i := 0) (by omega)
      obtain ⟨v1, x1⟩ := hr.val_ (i := 1) (by omega)
      obtain ⟨v2, x2⟩ := hr.val_ (i := 2) (by omega)
      have hg := hr.lt
      obtain ⟨cs4, hB4, hc4⟩ := hr
      have hf0 := hB4.frozen 0
      have hf1 := hB4.frozen 1
      have hf2 := hB4.frozen 2
      go_wp2_with fail
      exact bodyPost_ret (v := .agg #[.bool s7, .slice A7 n7 c7, .slice B7 m7 d7]) (by simp [results, Tryz.results51, go_sem, x0, x1, x2]) rfl ⟨_, _, _, _, _, _, _, rfl, by rw [hws.out]; exact hF.rd, slc⟩
end

end Go.Proofs.YtajlahjghapbkaaGreat
