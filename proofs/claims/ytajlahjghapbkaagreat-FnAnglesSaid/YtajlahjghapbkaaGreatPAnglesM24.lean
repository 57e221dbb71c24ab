/- Lemmas. -/
import Derived.Test.YtajlahjghapbkaaGreatRows
import Derived.Test.YtajlahjghapbkaaGreatPAnglesM23
import Derived.Test.YtajlahjghapbkaaGreatPAnglesM14
import Derived.Test.YtajlahjghapbkaaGreatPAnglesM17
import Derived.Test.YtajlahjghapbkaaGreatPAnglesM02
import Derived.Deep.Cut
import Derived.Deep.DeepCutAuto
import Derived.Test.YtajlahjghapbkaaGreatPAnglesM22
import Derived.Test.YtajlahjghapbkaaGreatPAnglesM18
import Derived.Test.YtajlahjghapbkaaGreatPAnglesM21
namespace Go.Proofs.YtajlahjghapbkaaGreat
section
open Go.RowKit

theorem ins_list2 {row cs vs : List Value} {i n : Nat} (h2 : row.take (i * 4) = cs.take (i * 4)) (h3 : cs.length = n * 4) (hi : i < n) (hv : vs.length = 4) :
    ((row.take (i * 4) ++ vs ++ row.drop (i * 4 + vs.length)).take ((i + 1) * 4) ++ cs.drop (i * 4) ++ (row.take (i * 4) ++ vs ++ row.drop (i * 4 + vs.length)).drop ((i + 1) * 4 + (cs.drop (i * 4)).length)).take ((n + 1) * 4) = cs.take (i * 4) ++ (vs ++ cs.drop (i * 4)) := by
  have e1 : (row.take (i * 4) ++ vs ++ row.drop (i * 4 + vs.length)).take ((i + 1) * 4) = cs.take (i * 4) ++ vs := by
    have hl : (cs.take (i * 4) ++ vs).length = (i + 1) * 4 := by simp [h3, hv]; omega
    rw [h2, ← hl, List.take_left]
  rw [e1, List.append_assoc, List.append_assoc, ← List.append_assoc vs, ← List.append_assoc (cs.take (i * 4))]
  have hl : (cs.take (i * 4) ++ (vs ++ cs.drop (i * 4))).length = (n + 1) * 4 := by simp [h3, hv]; omega
  rw [← hl, List.take_left]
set_option maxRecDepth 100000 in
set_option maxHeartbeats 16000000 in
theorem Insert_grow (w : World) {base b c gv i : Nat} {l : List EdD} {e : EdD} (hown : OwEd base w (.slice (some ⟨b, 0, none⟩) l.length c) l) (hv : Blk w gv 175 #[.int .i64 e.a, .int .i64 e.b, .int .i64 e.l, .int .i64 e.r]) (hbase : base ≤ w.heap.size) (hlen : l.length ≤ 100000) (hi : i < l.length) (hroom : c < l.length + 1) :
    Calls Tryz.prog 169 #[.slice (some ⟨b, 0, none⟩) l.length c, .int .i64 (i : Int), .slice (some ⟨gv, 0, none⟩) 1 1] w (InsRes base w (.slice (some ⟨b, 0, none⟩) l.length c) (l.take i ++ e :: l.drop i)) := by
  obtain ⟨i0, hi0, hz0, hz1, hz2⟩ := info_parts info_edge
  have hsz4 : (Tryz.prog.info? 175).map (·.size) = some 4 := by rw [hi0]; simp [hz1]
  obtain ⟨hcl, ⟨h, _⟩ | ⟨g, cap, cur, h, hg, hh, hnc, hm, hcs, htk⟩⟩ := id hown
  · cases h
  injection h with q1 q2 q3
  injection q1 with q1
  injection q1 with q1
  subst q1 q3
  have hc63 : c ≤ 9223372036854775807 := by unfold maxLen at hm; omega
  obtain ⟨cs, hcse⟩ : ∃ cs, l.flatMap encE = cs := ⟨_, rfl⟩
  have hone := flat_one l
  have hft := flat_take l i
  have hfd := flat_drop l i
  have hbl := heap_lt hh
  rw [hcse] at hcl htk hone hft hfd
  obtain ⟨n, hn⟩ : ∃ n, l.length = n := ⟨_, rfl⟩
  have hn2 := Lib.hid hn
  rw [hn] at hlen hi hroom hcl hnc htk ⊢
  clear hn hown hcse
  obtain rfl : n = c := by omega
  have hdl : (cs.drop (i * 4)).length = (n - i) * 4 := by rw [List.length_drop, hcl]; omega
  have htl : (cs.take (i * 4)).length = i * 4 := by rw [List.length_take, hcl]; omega
  have hold : (Builtin.firstCells i0.size i (.slice (some ⟨b, 0, none⟩) i n)).run Tryz.prog w.drew = .ok (cs.take (i * 4)).toArray w.drew := by
    rw [hz1]
    exact run_firstCells_some w.drew 4 i ⟨b, 0, none⟩ i n (cs.take (i * 4)) htl (fun j u hj => by
      rw [Addr.add_lit, Nat.zero_add]
      rw [List.getElem?_take] at hj
      split at hj
      · exact row_cell (w := w.drew) hh htk hj
      · cases hj)
  have hik : i + (n + 1 - i) = n + 1 := by omega
  have hkk : (n : Int) + 1 - (i : Int) = ((n + 1 - i : Nat) : Int) := by omega
  have hrz : ∀ ty, (Builtin.append_ #[74, 3] ty #[.slice (some ⟨b, 0, none⟩) i n, .int .i64 ((n : Int) + 1 - (i : Int))]).run Tryz.prog w =
      .ok (.slice (some ⟨w.heap.size, 0, none⟩) (n + 1) (grownCap w (n + 1) n 175)) (w.drew.alloc (.cells ((cs.take (i * 4)).toArray ++ Builtin.zeroCells (.agg #[.int .i64 0, .int .i64 0, .int .i64 0, .int .i64 0] : Value).cells (n + 1 - i) ++ Builtin.zeroCells (.agg #[.int .i64 0, .int .i64 0, .int .i64 0, .int .i64 0] : Value).cells (grownCap w (n + 1) n 175 - (n + 1))) 175)) := fun ty => by
    have h := Go.Lib.run_append_grow_zeros w 74 3 ty 175 i0 _ .i64 .i64 Tryz.underlying74 Tryz.underlying3 hi0 hz0 (some ⟨b, 0, none⟩) i n (cs.take (i * 4)) hold (n + 1 - i) (by omega) (by omega) (by omega) (by omega) (by rw [hz2]; omega) (by rw [hz2, hik]; exact growslice_fits (by omega) (by omega))
    rw [hik] at h
    rw [hkk]
    exact h
  obtain ⟨G, hG⟩ : ∃ G, G = grownCap w (n + 1) n 175 := ⟨_, rfl⟩
  obtain ⟨ROW, hROW⟩ : ∃ ROW : Array Value, ROW = (cs.take (i * 4)).toArray ++ Builtin.zeroCells (.agg #[.int .i64 0, .int .i64 0, .int .i64 0, .int .i64 0] : Value).cells (n + 1 - i) ++ Builtin.zeroCells (.agg #[.int .i64 0, .int .i64 0, .int .i64 0, .int .i64 0] : Value).cells (G - (n + 1)) := ⟨_, rfl⟩
  rw [← hG] at hrz
  rw [← hROW] at hrz
  have hGn : n + 1 ≤ G := by rw [hG]; exact grownCap_ge w _ _ _
  have hGm : G ≤ maxLen := by rw [hG]; exact grownCap_le_maxLen w _ _ _ (by unfold maxLen; omega)
  have hG63 : G ≤ 9223372036854775807 := by unfold maxLen at hGm; omega
  have hrs : ROW.size = G * 4 := by
    rw [hROW]
    simp [Builtin.zeroCells, Value.cells, htl]
    omega
  have hrt : ROW.toList.take (i * 4) = cs.take (i * 4) := by
    rw [hROW, Array.append_assoc, Array.toList_append, ← htl]
    simp
  obtain ⟨cur1, hc1⟩ : ∃ cur1, (ROW.toList.take (i * 4) ++ encE e ++ ROW.toList.drop (i * 4 + (encE e).length)).toArray = cur1 := ⟨_, rfl⟩
  have hv4 : (encE e).length = 4 := rfl
  have hs1 : cur1.size = G * 4 := by rw [← hc1]; simp [hrs]; rw [hv4]; omega
  obtain ⟨cur2, hc2⟩ : ∃ cur2, (cur1.toList.take ((i + 1) * 4) ++ cs.drop (i * 4) ++ cur1.toList.drop ((i + 1) * 4 + (cs.drop (i * 4)).length)).toArray = cur2 := ⟨_, rfl⟩
  have hvl := hv.lt
  have hN : (w.alloc (.cells ROW 175)).heap[w.heap.size]? = some (.cells ROW 175 (0, 0)) := heap_alloc_new w _
  have hcell : ∀ (W X : World) (p : Addr), W.heap[p.block]? = X.heap[p.block]? → W.cell? p = X.cell? p := fun W X p h => by simp only [World.cell?, h]
  have hcpA : ∀ (W : World), W.heap = (w.alloc (.cells ROW 175)).heap → ∀ ty dc, (Builtin.copy_ #[74, 74] ty #[.slice (some ⟨w.heap.size, i * 4, none⟩) (n + 1 - i) dc, .slice (some ⟨gv, 0, none⟩) 1 1]).run Tryz.prog W = .ok (goInt ((1 : Nat) : Int)) (W.setRow w.heap.size cur1) := fun W hW ty dc => by
    rw [← hc1]
    exact run_copy_rowK W _ _ ty 175 w.heap.size (i * 4) (n + 1 - i) dc ⟨gv, 0, none⟩ 1 1 ROW 175 (encE e) 4 1 Tryz.underlying74 hsz4 (by rw [hW]; exact hN) (by simp only [Nat.min_def]; split <;> omega) rfl
      (fun j u hj => by
        rw [Addr.add_lit, hcell W w _ (by rw [hW]; exact Below.heap_alloc w _ gv hvl), Nat.zero_add, hv.cell j, ← hj, ← Array.getElem?_toList]
        rfl) (by rw [hrs]; show i * 4 + 4 ≤ G * 4; omega) (enc_one e)
  have hN1 : ((w.alloc (.cells ROW 175)).setRow w.heap.size cur1).heap[w.heap.size]? = some (.cells cur1 175 (0, 0)) := setRow_get hN
  have hcpB : ∀ (W : World), W.heap = ((w.alloc (.cells ROW 175)).setRow w.heap.size cur1).heap → ∀ ty dc sc, (Builtin.copy_ #[74, 74] ty #[.slice (some ⟨w.heap.size, (i + 1) * 4, none⟩) (n - i) dc, .slice (some ⟨b, i * 4, none⟩) (n - i) sc]).run Tryz.prog W = .ok (goInt ((n - i : Nat) : Int)) (W.setRow w.heap.size cur2) := fun W hW ty dc sc => by
    rw [← hc2]
    exact run_copy_rowK W _ _ ty 175 w.heap.size ((i + 1) * 4) (n - i) dc ⟨b, i * 4, none⟩ (n - i) sc cur1 175 (cs.drop (i * 4)) 4 (n - i) Tryz.underlying74 hsz4 (by rw [hW]; exact hN1) (by simp only [Nat.min_def]; split <;> omega) hdl
      (fun j u hj => by
        rw [Addr.add_lit, hcell W w _ (by rw [hW, setRow_other _ _ _ _ (show b ≠ w.heap.size by omega)]; exact Below.heap_alloc w _ b hbl)]
        rw [List.getElem?_drop] at hj
        exact row_cell hh htk hj) (by rw [hdl, hs1]; omega) (fun u hu => hone u (List.mem_of_mem_drop hu))
  have hz2 : ¬ ((i : Int) = (n : Int)) := by omega
  have hz3 : (n : Int) < (n : Int) + 1 := by omega
  have hb2 : ¬ (G = i + 1) := by omega
  have hb4 : ¬ (G = i) := by omega
  have hb6 : ¬ (n = i) := by omega
  have hw1 : IntKind.i64.wrap ((i : Int) + 1) = (i : Int) + 1 := by rw [IntKind.wrap_i64]; omega
  have hb1 : (0 : Int) ≤ (i : Int) + 1 := by omega
  have hin : i ≤ n := by omega
  have mixed : Tryz.prog.follows Departure.mixedOrders = true := by kernel_rfl
  have htn : ((i : Int) + 1).toNat = i + 1 := by omega
  have hb3 : (i : Int) ≤ (n : Int) := by omega
  have hcpB2 := hcpB (((w.alloc (.cells ROW 175)).drew.setRow w.heap.size cur1).drew) rfl
  clear hcpB
  have hc2h := Lib.hid hc2
  have hc1h := Lib.hid hc1
  clear hc1 hc2 hkk hik hold hROW hG
  go_enter Tryz.func169, Tryz.ntmps169
  go_wp2_with (first
    | (at_builtin; refine Go.Lib.wpList_append_run _ rfl _ _ _ _ rfl _ _ rfl rfl _ _ (hrz _) ?_)
    | (refine wpList_copy_runE _ rfl _ _ 74 74 rfl _ _ rfl rfl (hcpA ((w.alloc (.cells ROW 175)).drew) rfl _ _) ?_))
  go_region_law_o (refine step_copy_runE rfl _ _ 74 74 rfl (.slice (some ⟨w.heap.size, (i + 1) * 4, none⟩) (n - i) (G - (i + 1))) (.slice (some ⟨b, i * 4, none⟩) (n - i) (n - i)) (by simp [Act.eval, Act.put]) (by simp [Act.eval, Act.put]) (hcpB2 _ _ _) ?_)
  go_wp2
  go_ret
  have hc1 := hc1h.out
  have hc2 := hc2h.out
  have hlen2 : (l.take i ++ e :: l.drop i).length = n + 1 := by simp [hn2.out]; omega
  have hfl : (l.take i ++ e :: l.drop i).flatMap encE = cs.take (i * 4) ++ (encE e ++ cs.drop (i * 4)) := by rw [List.flatMap_append, List.flatMap_cons, hft, hfd]
  have hct : cur1.toList = ROW.toList.take (i * 4) ++ encE e ++ ROW.toList.drop (i * 4 + (encE e).length) := by rw [← hc1]
  have hh2 := setRow_get (cur' := cur2) hN1
  refine ⟨_, rfl, ?_, ?_, ?_, fun g hgs hn => ⟨?_, ?_⟩, fun e => by cases e⟩
  · unfold OwEd World.ownsRow
    rw [hlen2, hfl]
    refine ⟨?_, .inr ⟨w.heap.size, G, _, rfl, hbase, hh2, by omega, hGm, ?_, ?_⟩⟩
    · simp [hcl]; omega
    · rw [← hc2]; simp [hs1]; omega
    · rw [← hc2, hct]
      exact ins_list2 hrt hcl hi hv4
  · exact below_setRow (Below.drew (below_setRow (Below.drew (Below.alloc (Below.refl base w) hbase _)) hbase _)) hbase _
  · simp [World.setRow]
  · rw [setRow_other _ _ _ _ (show g ≠ w.heap.size by omega)]
    refine (setRow_other (w.alloc (.cells ROW 175)).drew w.heap.size g cur1 (show g ≠ w.heap.size by omega)).trans ?_
    exact Below.heap_alloc w _ g hgs
  · intro e
    injection e with e
    simp only at e
    omega
/-- An edge, put in at place i. -/
theorem Insert_edge (w : World) {base c gv i : Nat} {v : Value} {l : List EdD} {e : EdD} (hown : OwEd base w v l) (hnil : v ≠ .slice none 0 0) (hv : Blk w gv 175 #[.int .i64 e.a, .int .i64 e.b, .int .i64 e.l, .int .i64 e.r]) (hne : v.ownBlock ≠ Option.some gv) (hbase : base ≤ w.heap.size) (hlen : l.length ≤ 100000) (hi : i ≤ l.length) (hc : c = 1) :
    Calls Tryz.prog 169 #[v, .int .i64 (i : Int), .slice (some ⟨gv, 0, none⟩) 1 c] w (InsRes base w v (l.take i ++ e :: l.drop i)) := by
  subst hc
  obtain ⟨_, ⟨h, _⟩ | ⟨g, cap, cur, rfl, hg, hh, hnc, hm, hcs, htk⟩⟩ := id hown
  · exact absurd h hnil
  rcases Nat.lt_or_eq_of_le hi with hlt | rfl
  · by_cases hr : l.length + 1 ≤ cap
    · exact Insert_room w hown hv (fun e => hne (by rw [e]; rfl)) hlen hlt hr
    · exact Insert_grow w hown hv hbase hlen hlt (by omega)
  · have h := Insert_end w hown hv hbase hlen
    rw [List.take_length, List.drop_length]
    exact h
end

section
open Go.RowKit

/-- The indices of a triangle's corners. -/
def triIx (t : TriD) : Nat → Int
  | 0 => t.a
  | 1 => t.b
  | _ + 2 => t.c
def OkIx (n : Nat) (t : TriD) (k : Nat) : Prop := ∀ j, j < k → 0 ≤ triIx t j ∧ triIx t j ≤ (n : Int) - 1
def cornTo (l : List PtD) (t : TriD) (k : Nat) : List PtD := (List.range k).map fun j => pix l (triIx t j).toNat
theorem cornTo_len (l : List PtD) (t : TriD) (k : Nat) : (cornTo l t k).length = k := by simp [cornTo]
theorem cornTo_succ (l : List PtD) (t : TriD) (k : Nat) : cornTo l t (k + 1) = cornTo l t k ++ [pix l (triIx t k).toNat] := by unfold cornTo; rw [List.range_succ, List.map_append]; rfl
theorem OkIx.step {n : Nat} {t : TriD} {k : Nat} (h : OkIx n t k) (h0 : 0 ≤ triIx t k ∧ triIx t k ≤ (n : Int) - 1) : OkIx n t (k + 1) := by
  intro j hj
  rcases Nat.lt_succ_iff_lt_or_eq.1 hj with hj | rfl
  · exact h j hj
  · exact h0
open Classical in
/-- The corners of triangle k of a mesh. -/
noncomputable def cornL (x : MeD) (k : Int) : List PtD :=
  if (0 ≤ k ∧ k ≤ (x.tris.length : Int) - 1) ∧ OkIx x.points.length (pix x.tris k.toNat) 3 then cornTo x.points (pix x.tris k.toNat) 3 else []
theorem OwPN.far {T : TypeId} {b0 : Nat} {w : World} {s : Bool} {A : Option Addr} {n c : Nat} {B : Option Addr} {m d : Nat} {t : Bool} {C : Option Addr} {i e : Nat} {D : Option Addr} {j f : Nat} {p : PtD} (h : OwPN AnyN T b0 w s A n c B m d t C i e D j f p) {q : Addr} (hp : q.block < b0) (u : Value) : OwPN AnyN T b0 (w.setCell q u) s A n c B m d t C i e D j f p := by
  obtain ⟨b1, b2, h1, h2, hf, _⟩ := h
  exact ⟨b1, b2, h1.keep (by simp) (fun b hb => Below.heap_setCell w q u b (by have := (hf b (by simp [hb])).1; omega)), h2.keep (by simp) (fun b hb => Below.heap_setCell w q u b (by have := (hf b (by simp [hb])).1; omega)), fun b hb => by have := hf b hb; simpa using this, trivial⟩
theorem OwPN.low {N : List Nat → Prop} {T : TypeId} {b0 b1 : Nat} {w : World} {s : Bool} {A : Option Addr} {n c : Nat} {B : Option Addr} {m d : Nat} {t : Bool} {C : Option Addr} {i e : Nat} {D : Option Addr} {j f : Nat} {p : PtD} (h : OwPN N T b1 w s A n c B m d t C i e D j f p) (hb : b0 ≤ b1) : OwPN N T b0 w s A n c B m d t C i e D j f p := by
  obtain ⟨c1, c2, h1, h2, hf, hn⟩ := h
  exact ⟨c1, c2, h1, h2, fun b hm => ⟨Nat.le_trans hb (hf b hm).1, (hf b hm).2⟩, hn⟩
theorem OwPN.bl {N : List Nat → Prop} {T : TypeId} {b0 : Nat} {w W : World} {s : Bool} {A : Option Addr} {n c : Nat} {B : Option Addr} {m d : Nat} {t : Bool} {C : Option Addr} {i e : Nat} {D : Option Addr} {j f : Nat} {p : PtD} (h : OwPN N T b0 w s A n c B m d t C i e D j f p) (hb : Bl w W) : OwPN N T b0 W s A n c B m d t C i e D j f p := by
  obtain ⟨c1, c2, h1, h2, hf, hn⟩ := h
  exact ⟨c1, c2, h1.bl hb, h2.bl hb, fun b hm => ⟨(hf b hm).1, Nat.lt_of_lt_of_le (hf b hm).2 hb.size⟩, hn⟩
end

section
open Go.RowKit

set_option maxRecDepth 100000 in
set_option maxHeartbeats 16000000 in
theorem Corners_any (w : World) {A : Option Addr} {n c : Nat} {B : Option Addr} {m d : Nat} {x : MeD} (k : Int) (h : RdPS w A n c x.points) (ht : RdTS w B m d x.tris) (hsz : szL szP x.points ≤ 1048576) :
    Calls Tryz.prog 108 #[.agg #[.slice A n c, .slice B m d], .int .i64 k] w fun e w' => ∃ A1 n1 c1, e = .returned (.slice A1 n1 c1) ∧ OwPZ 3 31 w.heap.size w'.heap.size w' A1 n1 c1 (cornL x k) ∧ Bl w w' := by
  have hn := h.small
  have hm := ht.small
  go_enter Tryz.func108, Tryz.ntmps108
  go_wp2_with fail
  refine (within_any _ _ _ _).mono ?_
  by_cases hin : 0 ≤ k ∧ k ≤ (m : Int) - 1
  · skip
    rw [decide_eq_true hin.1, decide_eq_true hin.2]
    rintro e w1 ⟨rfl, hq1⟩
    have hb1 : Bl (w.alloc (.cells #[.slice A n c, .slice B m d] 57)) w1 := by obtain ⟨q1, rfl⟩ := hq1; exact (Bl.refl _).drewN q1
    clear hq1
    obtain ⟨kk, rfl⟩ := Int.eq_ofNat_of_zero_le hin.1
    have hkk : kk < m := by omega
    have hkk2 : (kk : Int) < (m : Int) := by omega
    clear hin
    have hx0 : Blk w1 w.heap.size 57 #[.slice A n c, .slice B m d] := bts
    have hbc : Bl w w1 := slc
    have hgw : w.heap.size < w1.heap.size := hx0.lt
    go_upto_region 4 with (fail)
    refine wp_gen (fun W => RowP List.Nodup w1.heap.size (w1.heap.size + 1) W (.slice (some ⟨w1.heap.size, 0, none⟩) 0 0) [] ∧ Bl w1 W) ⟨RowG.empty appN_nodup w1 (Nat.le_refl _), slc⟩ ?_
    rintro W ⟨hrow0, hbW⟩
    have hx1 := hx0.bl hbW
    have hgW := RowG.hiLe hrow0
    obtain ⟨i0, i1⟩ := bx2 hx1
    obtain ⟨ad, eB, hlt, hat⟩ := (RdTS.bl ht (hbc.next hbW)).cells kk hkk
    subst eB
    obtain ⟨ta, hta⟩ : ∃ y, y = (pix x.tris kk).a := ⟨_, rfl⟩
    obtain ⟨tb, htb⟩ : ∃ y, y = (pix x.tris kk).b := ⟨_, rfl⟩
    obtain ⟨tc, htc⟩ : ∃ y, y = (pix x.tris kk).c := ⟨_, rfl⟩
    obtain ⟨tr, htr⟩ : ∃ y, y = (pix x.tris kk).region := ⟨_, rfl⟩
    obtain ⟨tv, htv⟩ : ∃ y, y = (pix x.tris kk).level := ⟨_, rfl⟩
    have hst : Hid (pix x.tris kk = ⟨ta, tb, tc, tr, tv⟩) := by rw [hta, htb, htc, htr, htv]; exact rfl
    obtain ⟨f0, f1, f2, f3, f4⟩ := hat
    rw [← hta] at f0
    rw [← htb] at f1
    rw [← htc] at f2
    rw [← htr] at f3
    rw [← htv] at f4
    clear hta htb htc htr htv hb1 hx1
    go_wp2_with fail
    refine (corners_any _ ⟨ta, tb, tc, tr, tv⟩).mono ?_
    rintro e w2 ⟨rfl, hb2⟩
    clear f0 f1 f2 f3 f4 i0 i1 hlt
    go_wp2_with fail
    go_loopw [5, 22] (fun v i wr => ∃ (k hi : Nat), k ≤ 3 ∧ i = .int .i64 (k : Int) ∧ RowP List.Nodup w1.heap.size hi wr v (cornTo x.points ⟨ta, tb, tc, tr, tv⟩ k) ∧ OkIx n ⟨ta, tb, tc, tr, tv⟩ k ∧ Bl w1 wr ∧ w1.heap.size ≤ hi) (fun _ i _ => 3 - (intOf i).toNat)
    case atStart => exact ⟨0, w1.heap.size + 1, by omega, rfl, RowG.bl (ptIn_keep 3) hrow0 hb2, fun j hj => by omega, hbW.next hb2, by omega⟩
    case round =>
      clear hb2 hrow0 hgW hbW
      obtain ⟨k, hi, hk, rfl, hrow, hok, hbw, hlh⟩ := hrel
      rcases (show k = 0 ∨ k = 1 ∨ k = 2 ∨ k = 3 by omega) with rfl | rfl | rfl | rfl
      · skip
        have e0 : ((0 : Nat) : Int) = 0 := rfl
        rw [e0]
        clear e0 hk
        have hw : IntKind.i64.wrap 1 = 1 := by rfl
        have hhi0 := RowG.hiLe hrow
        have hzo := Bl.size hbw
        have hx := hx0.bl hbw
        obtain ⟨i0, i1⟩ := bx2 hx
        have hix : ∀ W : World, (Instr.index 119 (.agg #[.int .i64 ta, .int .i64 tb, .int .i64 tc]) (.int .i64 0)).run Tryz.prog W = .ok (.int .i64 ta) W := fun _ => by kernel_rfl
        go_wp2_with fail
        refine (within_any _ _ _ _).mono ?_
        by_cases hin : 0 ≤ ta ∧ ta ≤ (n : Int) - 1
        · skip
          rw [decide_eq_true hin.1, decide_eq_true hin.2]
          rintro e w2 ⟨rfl, hq2⟩
          have hb2 : Bl wr w2 := by obtain ⟨q2, rfl⟩ := hq2; exact slc
          clear hq2
          have hok' : OkIx n ⟨ta, tb, tc, tr, tv⟩ 1 := hok.step hin
          clear hok
          obtain ⟨ka, rfl⟩ := Int.eq_ofNat_of_zero_le hin.1
          have hka : ka < n := by omega
          clear hin
          have hok' := Lib.hid hok'; rename_i h_; clear h_
          have hka2 : (ka : Int) < (n : Int) := by omega
          have hX2 := hx.bl hb2
          have hrow2 := RowG.bl (ptIn_keep 3) hrow hb2
          clear hx hrow i0 i1 hix
          obtain ⟨i0, i1⟩ := bx2 hX2
          obtain ⟨ad, eA, hlt, hat⟩ := (RdPS.bl h ((hbc.next hbw).next hb2)).cells ka hka
          have hpz := szL_at szP x.points (k := ka) (by rw [h.len]; exact hka)
          have hcs := Lib.hid (cornTo_succ x.points ⟨(ka : Int), tb, tc, tr, tv⟩ 0)
          have hcs2 : pix x.points (triIx ⟨(ka : Int), tb, tc, tr, tv⟩ 0).toNat = pix x.points ka := rfl
          rw [hcs2] at hcs
          clear hcs2
          generalize pix x.points ka = pk at hcs hat hpz
          subst eA
          obtain ⟨s2, A2, n2, c2, B2, m2, d2, t2, C2, i2, e2, D2, j2, f2, ⟨g0, g1, g2, g3, g4, g5⟩, hX, hY⟩ := hat
          have l1 := Lib.hid hX.mag.len; have l2 := Lib.hid hX.den.len; have l3 := Lib.hid hY.mag.len; have l4 := Lib.hid hY.den.len
          have hsm : n2 ≤ 1048576 ∧ m2 ≤ 1048576 ∧ i2 ≤ 1048576 ∧ j2 ≤ 1048576 := by
            have a1 := l1.out; have a2 := l2.out; have a3 := l3.out; have a4 := l4.out
            simp only [szP, szR] at hpz
            omega
          clear hpz
          go_wp2_with fail
          refine (copyPoint_any _ hX hY hsm.1 hsm.2.1 hsm.2.2.1 hsm.2.2.2).mono ?_
          rintro e w3 ⟨A1, n1, c1, B1, m1, d1, C1, i1', e1, D1, j1, f1, rfl, hP, hb3⟩
          have hrow3 := RowG.bl (ptIn_keep 3) hrow2 hb3
          skip
          have hb4 := (hbw.next hb2).next hb3
          have hhi3 : hi ≤ w2.heap.size := Nat.le_trans hhi0 (Bl.size hb2)
          have hP := OwPN.of hP
          clear hrow2 hX2
          go_wp2_with ((refine wpList_append_ptX appN_nodup rfl (.tmp 32) (.tmp 39) rfl _ (by rfl) hrow3 hP hhi3 hlh 1 (by rfl) (by rw [cornTo_len]; omega) w1 hb4 (Nat.le_refl _) ?_; intro v' w8 hrow' hb8' hoth; clear hrow3 hP))
          have hz8 := hb8'.size
          rw [← hcs.out] at hrow'
          skip
          go_roundw
          case rel => exact ⟨1, _, by omega, rfl, hrow', hok'.out, hb8', hz8⟩
          case measure => simp [intOf]
        · skip
          have hnb : (decide (0 ≤ ta) && decide (ta ≤ (n : Int) - 1)) = false := by
            rw [Bool.and_eq_false_iff]
            rcases Decidable.not_and_iff_or_not.1 hin with h' | h'
            · exact .inl (decide_eq_false h')
            · exact .inr (decide_eq_false h')
          rw [hnb]
          clear hnb
          rintro e w2 ⟨rfl, hq2⟩
          have hb2 : Bl wr w2 := by obtain ⟨q2, rfl⟩ := hq2; exact slc
          clear hq2
          have hv := Lib.hid <| show cornL x ((kk : Nat) : Int) = [] from if_neg fun ha => hin (by have this : 0 ≤ triIx (pix x.tris kk) 0 ∧ triIx (pix x.tris kk) 0 ≤ (x.points.length : Int) - 1 := ha.2 0 (by omega); rw [hst.out, h.len] at this; exact this)
          have hin := Lib.hid hin; rename_i h_; clear h_
          clear hok
          go_wp2_with fail
          go_ret
          rw [hv.out]
          exact ⟨_, _, _, rfl, ⟨rfl, Nat.le_refl _, Nat.zero_le _, .inl rfl⟩, (hbc.next hbw).next hb2⟩
      · skip
        have e0 : ((1 : Nat) : Int) = 1 := rfl
        rw [e0]
        clear e0 hk
        have hw : IntKind.i64.wrap 2 = 2 := by rfl
        have hhi0 := RowG.hiLe hrow
        have hzo := Bl.size hbw
        have hx := hx0.bl hbw
        obtain ⟨i0, i1⟩ := bx2 hx
        have hix : ∀ W : World, (Instr.index 119 (.agg #[.int .i64 ta, .int .i64 tb, .int .i64 tc]) (.int .i64 1)).run Tryz.prog W = .ok (.int .i64 tb) W := fun _ => by kernel_rfl
        go_wp2_with fail
        refine (within_any _ _ _ _).mono ?_
        by_cases hin : 0 ≤ tb ∧ tb ≤ (n : Int) - 1
        · skip
          rw [decide_eq_true hin.1, decide_eq_true hin.2]
          rintro e w2 ⟨rfl, hq2⟩
          have hb2 : Bl wr w2 := by obtain ⟨q2, rfl⟩ := hq2; exact slc
          clear hq2
          have hok' : OkIx n ⟨ta, tb, tc, tr, tv⟩ 2 := hok.step hin
          clear hok
          obtain ⟨ka, rfl⟩ := Int.eq_ofNat_of_zero_le hin.1
          have hka : ka < n := by omega
          clear hin
          have hok' := Lib.hid hok'; rename_i h_; clear h_
          have hka2 : (ka : Int) < (n : Int) := by omega
          have hX2 := hx.bl hb2
          have hrow2 := RowG.bl (ptIn_keep 3) hrow hb2
          clear hx hrow i0 i1 hix
          obtain ⟨i0, i1⟩ := bx2 hX2
          obtain ⟨ad, eA, hlt, hat⟩ := (RdPS.bl h ((hbc.next hbw).next hb2)).cells ka hka
          have hpz := szL_at szP x.points (k := ka) (by rw [h.len]; exact hka)
          have hcs := Lib.hid (cornTo_succ x.points ⟨ta, (ka : Int), tc, tr, tv⟩ 1)
          have hcs2 : pix x.points (triIx ⟨ta, (ka : Int), tc, tr, tv⟩ 1).toNat = pix x.points ka := rfl
          rw [hcs2] at hcs
          clear hcs2
          generalize pix x.points ka = pk at hcs hat hpz
          subst eA
          obtain ⟨s2, A2, n2, c2, B2, m2, d2, t2, C2, i2, e2, D2, j2, f2, ⟨g0, g1, g2, g3, g4, g5⟩, hX, hY⟩ := hat
          have l1 := Lib.hid hX.mag.len; have l2 := Lib.hid hX.den.len; have l3 := Lib.hid hY.mag.len; have l4 := Lib.hid hY.den.len
          have hsm : n2 ≤ 1048576 ∧ m2 ≤ 1048576 ∧ i2 ≤ 1048576 ∧ j2 ≤ 1048576 := by
            have a1 := l1.out; have a2 := l2.out; have a3 := l3.out; have a4 := l4.out
            simp only [szP, szR] at hpz
            omega
          clear hpz
          go_wp2_with fail
          refine (copyPoint_any _ hX hY hsm.1 hsm.2.1 hsm.2.2.1 hsm.2.2.2).mono ?_
          rintro e w3 ⟨A1, n1, c1, B1, m1, d1, C1, i1', e1, D1, j1, f1, rfl, hP, hb3⟩
          have hrow3 := RowG.bl (ptIn_keep 3) hrow2 hb3
          skip
          have hb4 := (hbw.next hb2).next hb3
          have hhi3 : hi ≤ w2.heap.size := Nat.le_trans hhi0 (Bl.size hb2)
          have hP := OwPN.of hP
          clear hrow2 hX2
          go_wp2_with ((refine wpList_append_ptX appN_nodup rfl (.tmp 32) (.tmp 39) rfl _ (by rfl) hrow3 hP hhi3 hlh 1 (by rfl) (by rw [cornTo_len]; omega) w1 hb4 (Nat.le_refl _) ?_; intro v' w8 hrow' hb8' hoth; clear hrow3 hP))
          have hz8 := hb8'.size
          rw [← hcs.out] at hrow'
          skip
          go_roundw
          case rel => exact ⟨2, _, by omega, rfl, hrow', hok'.out, hb8', hz8⟩
          case measure => simp [intOf]
        · skip
          have hnb : (decide (0 ≤ tb) && decide (tb ≤ (n : Int) - 1)) = false := by
            rw [Bool.and_eq_false_iff]
            rcases Decidable.not_and_iff_or_not.1 hin with h' | h'
            · exact .inl (decide_eq_false h')
            · exact .inr (decide_eq_false h')
          rw [hnb]
          clear hnb
          rintro e w2 ⟨rfl, hq2⟩
          have hb2 : Bl wr w2 := by obtain ⟨q2, rfl⟩ := hq2; exact slc
          clear hq2
          have hv := Lib.hid <| show cornL x ((kk : Nat) : Int) = [] from if_neg fun ha => hin (by have this : 0 ≤ triIx (pix x.tris kk) 1 ∧ triIx (pix x.tris kk) 1 ≤ (x.points.length : Int) - 1 := ha.2 1 (by omega); rw [hst.out, h.len] at this; exact this)
          have hin := Lib.hid hin; rename_i h_; clear h_
          clear hok
          go_wp2_with fail
          go_ret
          rw [hv.out]
          exact ⟨_, _, _, rfl, ⟨rfl, Nat.le_refl _, Nat.zero_le _, .inl rfl⟩, (hbc.next hbw).next hb2⟩
      · skip
        have e0 : ((2 : Nat) : Int) = 2 := rfl
        rw [e0]
        clear e0 hk
        have hw : IntKind.i64.wrap 3 = 3 := by rfl
        have hhi0 := RowG.hiLe hrow
        have hzo := Bl.size hbw
        have hx := hx0.bl hbw
        obtain ⟨i0, i1⟩ := bx2 hx
        have hix : ∀ W : World, (Instr.index 119 (.agg #[.int .i64 ta, .int .i64 tb, .int .i64 tc]) (.int .i64 2)).run Tryz.prog W = .ok (.int .i64 tc) W := fun _ => by kernel_rfl
        go_wp2_with fail
        refine (within_any _ _ _ _).mono ?_
        by_cases hin : 0 ≤ tc ∧ tc ≤ (n : Int) - 1
        · skip
          rw [decide_eq_true hin.1, decide_eq_true hin.2]
          rintro e w2 ⟨rfl, hq2⟩
          have hb2 : Bl wr w2 := by obtain ⟨q2, rfl⟩ := hq2; exact slc
          clear hq2
          have hok' : OkIx n ⟨ta, tb, tc, tr, tv⟩ 3 := hok.step hin
          clear hok
          obtain ⟨ka, rfl⟩ := Int.eq_ofNat_of_zero_le hin.1
          have hka : ka < n := by omega
          clear hin
          have hok' := Lib.hid hok'; rename_i h_; clear h_
          have hka2 : (ka : Int) < (n : Int) := by omega
          have hX2 := hx.bl hb2
          have hrow2 := RowG.bl (ptIn_keep 3) hrow hb2
          clear hx hrow i0 i1 hix
          obtain ⟨i0, i1⟩ := bx2 hX2
          obtain ⟨ad, eA, hlt, hat⟩ := (RdPS.bl h ((hbc.next hbw).next hb2)).cells ka hka
          have hpz := szL_at szP x.points (k := ka) (by rw [h.len]; exact hka)
          have hcs := Lib.hid (cornTo_succ x.points ⟨ta, tb, (ka : Int), tr, tv⟩ 2)
          have hcs2 : pix x.points (triIx ⟨ta, tb, (ka : Int), tr, tv⟩ 2).toNat = pix x.points ka := rfl
          rw [hcs2] at hcs
          clear hcs2
          generalize pix x.points ka = pk at hcs hat hpz
          subst eA
          obtain ⟨s2, A2, n2, c2, B2, m2, d2, t2, C2, i2, e2, D2, j2, f2, ⟨g0, g1, g2, g3, g4, g5⟩, hX, hY⟩ := hat
          have l1 := Lib.hid hX.mag.len; have l2 := Lib.hid hX.den.len; have l3 := Lib.hid hY.mag.len; have l4 := Lib.hid hY.den.len
          have hsm : n2 ≤ 1048576 ∧ m2 ≤ 1048576 ∧ i2 ≤ 1048576 ∧ j2 ≤ 1048576 := by
            have a1 := l1.out; have a2 := l2.out; have a3 := l3.out; have a4 := l4.out
            simp only [szP, szR] at hpz
            omega
          clear hpz
          go_wp2_with fail
          refine (copyPoint_any _ hX hY hsm.1 hsm.2.1 hsm.2.2.1 hsm.2.2.2).mono ?_
          rintro e w3 ⟨A1, n1, c1, B1, m1, d1, C1, i1', e1, D1, j1, f1, rfl, hP, hb3⟩
          have hrow3 := RowG.bl (ptIn_keep 3) hrow2 hb3
          skip
          have hb4 := (hbw.next hb2).next hb3
          have hhi3 : hi ≤ w2.heap.size := Nat.le_trans hhi0 (Bl.size hb2)
          have hP := OwPN.of hP
          clear hrow2 hX2
          go_wp2_with ((refine wpList_append_ptX appN_nodup rfl (.tmp 32) (.tmp 39) rfl _ (by rfl) hrow3 hP hhi3 hlh 1 (by rfl) (by rw [cornTo_len]; omega) w1 hb4 (Nat.le_refl _) ?_; intro v' w8 hrow' hb8' hoth; clear hrow3 hP))
          have hz8 := hb8'.size
          rw [← hcs.out] at hrow'
          skip
          go_roundw
          case rel => exact ⟨3, _, by omega, rfl, hrow', hok'.out, hb8', hz8⟩
          case measure => simp [intOf]
        · skip
          have hnb : (decide (0 ≤ tc) && decide (tc ≤ (n : Int) - 1)) = false := by
            rw [Bool.and_eq_false_iff]
            rcases Decidable.not_and_iff_or_not.1 hin with h' | h'
            · exact .inl (decide_eq_false h')
            · exact .inr (decide_eq_false h')
          rw [hnb]
          clear hnb
          rintro e w2 ⟨rfl, hq2⟩
          have hb2 : Bl wr w2 := by obtain ⟨q2, rfl⟩ := hq2; exact slc
          clear hq2
          have hv := Lib.hid <| show cornL x ((kk : Nat) : Int) = [] from if_neg fun ha => hin (by have this : 0 ≤ triIx (pix x.tris kk) 2 ∧ triIx (pix x.tris kk) 2 ≤ (x.points.length : Int) - 1 := ha.2 2 (by omega); rw [hst.out, h.len] at this; exact this)
          have hin := Lib.hid hin; rename_i h_; clear h_
          clear hok
          go_wp2_with fail
          go_ret
          rw [hv.out]
          exact ⟨_, _, _, rfl, ⟨rfl, Nat.le_refl _, Nat.zero_le _, .inl rfl⟩, (hbc.next hbw).next hb2⟩
      · skip
        have e0 : ((3 : Nat) : Int) = 3 := rfl
        rw [e0]
        clear e0 hk
        have hv : cornL x ((kk : Nat) : Int) = cornTo x.points ⟨ta, tb, tc, tr, tv⟩ 3 := by
          unfold cornL
          rw [show ((kk : Nat) : Int).toNat = kk from rfl, hst.out, if_pos ⟨⟨by omega, by rw [ht.len]; omega⟩, by rw [h.len]; exact hok⟩]
        have hv := Lib.hid hv; rename_i h_; clear h_
        have hok := Lib.hid hok; rename_i h_; clear h_
        obtain ⟨A1, c1, rfl, hZ⟩ := RowP.own hrow (by rw [cornTo_len]; omega)
        have hhi0 := RowG.hiLe hrow
        rw [cornTo_len] at hZ ⊢
        clear hrow
        go_wp2_with fail
        go_ret
        rw [hv.out]
        exact ⟨_, _, _, rfl, hZ.low (Bl.size hbc) hhi0, hbc.next hbw⟩
  · skip
    have hnb : (decide (0 ≤ k) && decide (k ≤ (m : Int) - 1)) = false := by
      rw [Bool.and_eq_false_iff]
      rcases Decidable.not_and_iff_or_not.1 hin with h' | h'
      · exact .inl (decide_eq_false h')
      · exact .inr (decide_eq_false h')
    rw [hnb]
    clear hnb
    rintro e w1 ⟨rfl, hq1⟩
    have hb1 : Bl (w.alloc (.cells #[.slice A n c, .slice B m d] 57)) w1 := by obtain ⟨q1, rfl⟩ := hq1; exact (Bl.refl _).drewN q1
    clear hq1
    have hv := Lib.hid <| show cornL x k = [] from if_neg fun ha => hin (by have := ha.1; rw [ht.len] at this; exact this)
    have hin := Lib.hid hin; rename_i h_; clear h_
    go_wp2_with fail
    go_ret
    rw [hv.out]
    exact ⟨_, _, _, rfl, ⟨rfl, Nat.le_refl _, Nat.zero_le _, .inl rfl⟩, slc⟩
end

section
open Go.RowKit

def cA : Nat → Int
  | 0 => 1
  | 1 => 7
  | 2 => 3
  | 3 => 1
  | 4 => 7
  | _ => 5
def cB : Nat → Int
  | 0 => 4
  | 1 => 0
  | 2 => 4
  | 3 => 2
  | 4 => 4
  | _ => 6
def cC : Nat → Int
  | 0 => 0
  | 1 => 4
  | 2 => 2
  | 3 => 4
  | 4 => 6
  | _ => 4
theorem lit3 (k : Nat) (h : k < 6) : (#[.int .i64 1, .int .i64 4, .int .i64 0, .int .i64 7, .int .i64 0, .int .i64 4, .int .i64 3, .int .i64 4, .int .i64 2, .int .i64 1, .int .i64 2, .int .i64 4, .int .i64 7, .int .i64 4, .int .i64 6, .int .i64 5, .int .i64 6, .int .i64 4] : Array Value)[k * 3]? = some (.int .i64 (cA k)) ∧ (#[.int .i64 1, .int .i64 4, .int .i64 0, .int .i64 7, .int .i64 0, .int .i64 4, .int .i64 3, .int .i64 4, .int .i64 2, .int .i64 1, .int .i64 2, .int .i64 4, .int .i64 7, .int .i64 4, .int .i64 6, .int .i64 5, .int .i64 6, .int .i64 4] : Array Value)[k * 3 + 1]? = some (.int .i64 (cB k)) ∧ (#[.int .i64 1, .int .i64 4, .int .i64 0, .int .i64 7, .int .i64 0, .int .i64 4, .int .i64 3, .int .i64 4, .int .i64 2, .int .i64 1, .int .i64 2, .int .i64 4, .int .i64 7, .int .i64 4, .int .i64 6, .int .i64 5, .int .i64 6, .int .i64 4] : Array Value)[k * 3 + 2]? = some (.int .i64 (cC k)) := by
  rcases (show k = 0 ∨ k = 1 ∨ k = 2 ∨ k = 3 ∨ k = 4 ∨ k = 5 by omega) with rfl | rfl | rfl | rfl | rfl | rfl <;> exact ⟨rfl, rfl, rfl⟩
end

section
open Go.RowKit

section
variable {x0 y0 x1 y1 x2 y2 : Rat}
theorem zero_sm : ofFrac 0 1 = toR (mkRat 0 1) ∧ Bd 1 (mkRat 0 1) ∧ mkRat 0 1 = 0 := by
  have hb : Bd 1 (mkRat 0 1) := bd_mk (by omega) (by decide) (by omega)
  refine ⟨?_, hb, by decide +kernel⟩
  rw [ofFrac_toR 0 (by omega), if_pos (hb.fit (by decide))]
end
end

end Go.Proofs.YtajlahjghapbkaaGreat
