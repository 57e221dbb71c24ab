/- Lemmas. -/
import Derived.Test.YtajlahjghapbkaaGreatRows
import Derived.Test.YtajlahjghapbkaaGreatPUndoM11
import Derived.Test.YtajlahjghapbkaaGreatPUndoM09
import Derived.Test.YtajlahjghapbkaaGreatPUndoM08
import Derived.Test.YtajlahjghapbkaaGreatPUndoM07
namespace Go.Proofs.YtajlahjghapbkaaGreat
section
open Go.RowKit

theorem ins_list2 {row cs vs : List Value} {i n : Nat} (h2 : row.take (i * 4) = cs.take (i * 4)) (h3 : cs.length = n * 4) (hi : i < n) (hv : vs.length = 4) :
    ((row.take (i * 4) ++ vs ++ row.drop (i * 4 + vs.length)).take ((i + 1) * 4) ++ cs.drop (i * 4) ++ (row.take (i * 4) ++ vs ++ row.drop (i * 4 + vs.length)).drop ((i + 1) * 4 + (cs.drop (i * 4)).length)).take ((n + 1) * 4) = cs.take (i * 4) ++ (vs ++ cs.drop (i * 4)) := by
  have e1 : (row.take (i * 4) ++ vs ++ row.drop (i * 4 + vs.length)).take ((i + 1) * 4) = cs.take (i * 4) ++ vs := by
    have hl : (cs.take (i * 4) ++ vs).length = (i + 1) * 4 := by simp [h3, hv]; omega
    rw [h2, ← hl, List.take_left]
  rw [e1, List.append_assoc, List.append_assoc, ← List.append_assoc vs, ← List.append_assoc (cs.take (i * 4))]
  have hl : (cs.take (i * 4) ++ (vs ++ cs.drop (i * 4))).length = (n + 1) * 4 := by simp [h3, hv]; omega
  rw [← hl, List.take_left]
set_option maxRecDepth 100000 in
set_option maxHeartbeats 16000000 in
theorem Insert_grow (w : World) {base b c gv i : Nat} {l : List EdD} {e : EdD} (hown : OwEd base w (.slice (some ⟨b, 0, none⟩) l.length c) l) (hv : Blk w gv 175 #[.int .i64 e.a, .int .i64 e.b, .int .i64 e.l, .int .i64 e.r]) (hbase : base ≤ w.heap.size) (hlen : l.length ≤ 100000) (hi : i < l.length) (hroom : c < l.length + 1) :
    Calls Tryz.prog 169 #[.slice (some ⟨b, 0, none⟩) l.length c, .int .i64 (i : Int), .slice (some ⟨gv, 0, none⟩) 1 1] w (InsRes base w (.slice (some ⟨b, 0, none⟩) l.length c) (l.take i ++ e :: l.drop i)) := by
  obtain ⟨i0, hi0, hz0, hz1, hz2⟩ := info_parts info_edge
  have hsz4 : (Tryz.prog.info? 175).map (·.size) = some 4 := by rw [hi0]; simp [hz1]
  obtain ⟨hcl, ⟨h, _⟩ | ⟨g, cap, cur, h, hg, hh, hnc, hm, hcs, htk⟩⟩ := id hown
  · cases h
  injection h with q1 q2 q3
  injection q1 with q1
  injection q1 with q1
  subst q1 q3
  have hc63 : c ≤ 9223372036854775807 := by unfold maxLen at hm; omega
  obtain ⟨cs, hcse⟩ : ∃ cs, l.flatMap encE = cs := ⟨_, rfl⟩
  have hone := flat_one l
  have hft := flat_take l i
  have hfd := flat_drop l i
  have hbl := heap_lt hh
  rw [hcse] at hcl htk hone hft hfd
  obtain ⟨n, hn⟩ : ∃ n, l.length = n := ⟨_, rfl⟩
  have hn2 := Lib.hid hn
  rw [hn] at hlen hi hroom hcl hnc htk ⊢
  clear hn hown hcse
  obtain rfl : n = c := by omega
  have hdl : (cs.drop (i * 4)).length = (n - i) * 4 := by rw [List.length_drop, hcl]; omega
  have htl : (cs.take (i * 4)).length = i * 4 := by rw [List.length_take, hcl]; omega
  have hold : (Builtin.firstCells i0.size i (.slice (some ⟨b, 0, none⟩) i n)).run Tryz.prog w.drew = .ok (cs.take (i * 4)).toArray w.drew := by
    rw [hz1]
    exact run_firstCells_some w.drew 4 i ⟨b, 0, none⟩ i n (cs.take (i * 4)) htl (fun j u hj => by
      rw [Addr.add_lit, Nat.zero_add]
      rw [List.getElem?_take] at hj
      split at hj
      · exact row_cell (w := w.drew) hh htk hj
      · cases hj)
  have hik : i + (n + 1 - i) = n + 1 := by omega
  have hkk : (n : Int) + 1 - (i : Int) = ((n + 1 - i : Nat) : Int) := by omega
  have hrz : ∀ ty, (Builtin.append_ #[74, 3] ty #[.slice (some ⟨b, 0, none⟩) i n, .int .i64 ((n : Int) + 1 - (i : Int))]).run Tryz.prog w =
      .ok (.slice (some ⟨w.heap.size, 0, none⟩) (n + 1) (grownCap w (n + 1) n 175)) (w.drew.alloc (.cells ((cs.take (i * 4)).toArray ++ Builtin.zeroCells (.agg #[.int .i64 0, .int .i64 0, .int .i64 0, .int .i64 0] : Value).cells (n + 1 - i) ++ Builtin.zeroCells (.agg #[.int .i64 0, .int .i64 0, .int .i64 0, .int .i64 0] : Value).cells (grownCap w (n + 1) n 175 - (n + 1))) 175)) := fun ty => by
    have h := Go.Lib.run_append_grow_zeros w 74 3 ty 175 i0 _ .i64 .i64 Tryz.underlying74 Tryz.underlying3 hi0 hz0 (some ⟨b, 0, none⟩) i n (cs.take (i * 4)) hold (n + 1 - i) (by omega) (by omega) (by omega) (by omega) (by rw [hz2]; omega) (by rw [hz2, hik]; exact growslice_fits (by omega) (by omega))
    rw [hik] at h
    rw [hkk]
    exact h
  obtain ⟨G, hG⟩ : ∃ G, G = grownCap w (n + 1) n 175 := ⟨_, rfl⟩
  obtain ⟨ROW, hROW⟩ : ∃ ROW : Array Value, ROW = (cs.take (i * 4)).toArray ++ Builtin.zeroCells (.agg #[.int .i64 0, .int .i64 0, .int .i64 0, .int .i64 0] : Value).cells (n + 1 - i) ++ Builtin.zeroCells (.agg #[.int .i64 0, .int .i64 0, .int .i64 0, .int .i64 0] : Value).cells (G - (n + 1)) := ⟨_, rfl⟩
  rw [← hG] at hrz
  rw [← hROW] at hrz
  have hGn : n + 1 ≤ G := by rw [hG]; exact grownCap_ge w _ _ _
  have hGm : G ≤ maxLen := by rw [hG]; exact grownCap_le_maxLen w _ _ _ (by unfold maxLen; omega)
  have hG63 : G ≤ 9223372036854775807 := by unfold maxLen at hGm; omega
  have hrs : ROW.size = G * 4 := by
    rw [hROW]
    simp [Builtin.zeroCells, Value.cells, htl]
    omega
  have hrt : ROW.toList.take (i * 4) = cs.take (i * 4) := by
    rw [hROW, Array.append_assoc, Array.toList_append, ← htl]
    simp
  obtain ⟨cur1, hc1⟩ : ∃ cur1, (ROW.toList.take (i * 4) ++ encE e ++ ROW.toList.drop (i * 4 + (encE e).length)).toArray = cur1 := ⟨_, rfl⟩
  have hv4 : (encE e).length = 4 := rfl
  have hs1 : cur1.size = G * 4 := by rw [← hc1]; simp [hrs]; rw [hv4]; omega
  obtain ⟨cur2, hc2⟩ : ∃ cur2, (cur1.toList.take ((i + 1) * 4) ++ cs.drop (i * 4) ++ cur1.toList.drop ((i + 1) * 4 + (cs.drop (i * 4)).length)).toArray = cur2 := ⟨_, rfl⟩
  have hvl := hv.lt
  have hN : (w.alloc (.cells ROW 175)).heap[w.heap.size]? = some (.cells ROW 175 (0, 0)) := heap_alloc_new w _
  have hcell : ∀ (W X : World) (p : Addr), W.heap[p.block]? = X.heap[p.block]? → W.cell? p = X.cell? p := fun W X p h => by simp only [World.cell?, h]
  have hcpA : ∀ (W : World), W.heap = (w.alloc (.cells ROW 175)).heap → ∀ ty dc, (Builtin.copy_ #[74, 74] ty #[.slice (some ⟨w.heap.size, i * 4, none⟩) (n + 1 - i) dc, .slice (some ⟨gv, 0, none⟩) 1 1]).run Tryz.prog W = .ok (goInt ((1 : Nat) : Int)) (W.setRow w.heap.size cur1) := fun W hW ty dc => by
    rw [← hc1]
    exact run_copy_rowK W _ _ ty 175 w.heap.size (i * 4) (n + 1 - i) dc ⟨gv, 0, none⟩ 1 1 ROW 175 (encE e) 4 1 Tryz.underlying74 hsz4 (by rw [hW]; exact hN) (by simp only [Nat.min_def]; split <;> omega) rfl
      (fun j u hj => by
        rw [Addr.add_lit, hcell W w _ (by rw [hW]; exact Below.heap_alloc w _ gv hvl), Nat.zero_add, hv.cell j, ← hj, ← Array.getElem?_toList]
        rfl) (by rw [hrs]; show i * 4 + 4 ≤ G * 4; omega) (enc_one e)
  have hN1 : ((w.alloc (.cells ROW 175)).setRow w.heap.size cur1).heap[w.heap.size]? = some (.cells cur1 175 (0, 0)) := setRow_get hN
  have hcpB : ∀ (W : World), W.heap = ((w.alloc (.cells ROW 175)).setRow w.heap.size cur1).heap → ∀ ty dc sc, (Builtin.copy_ #[74, 74] ty #[.slice (some ⟨w.heap.size, (i + 1) * 4, none⟩) (n - i) dc, .slice (some ⟨b, i * 4, none⟩) (n - i) sc]).run Tryz.prog W = .ok (goInt ((n - i : Nat) : Int)) (W.setRow w.heap.size cur2) := fun W hW ty dc sc => by
    rw [← hc2]
    exact run_copy_rowK W _ _ ty 175 w.heap.size ((i + 1) * 4) (n - i) dc ⟨b, i * 4, none⟩ (n - i) sc cur1 175 (cs.drop (i * 4)) 4 (n - i) Tryz.underlying74 hsz4 (by rw [hW]; exact hN1) (by simp only [Nat.min_def]; split <;> omega) hdl
      (fun j u hj => by
        rw [Addr.add_lit, hcell W w _ (by rw [hW, setRow_other _ _ _ _ (show b ≠ w.heap.size by omega)]; exact Below.heap_alloc w _ b hbl)]
        rw [List.getElem?_drop] at hj
        exact row_cell hh htk hj) (by rw [hdl, hs1]; omega) (fun u hu => hone u (List.mem_of_mem_drop hu))
  have hz2 : ¬ ((i : Int) = (n : Int)) := by omega
  have hz3 : (n : Int) < (n : Int) + 1 := by omega
  have hb2 : ¬ (G = i + 1) := by omega
  have hb4 : ¬ (G = i) := by omega
  have hb6 : ¬ (n = i) := by omega
  have hw1 : IntKind.i64.wrap ((i : Int) + 1) = (i : Int) + 1 := by rw [IntKind.wrap_i64]; omega
  have hb1 : (0 : Int) ≤ (i : Int) + 1 := by omega
  have hin : i ≤ n := by omega
  have mixed : Tryz.prog.follows Departure.mixedOrders = true := by kernel_rfl
  have htn : ((i : Int) + 1).toNat = i + 1 := by omega
  have hb3 : (i : Int) ≤ (n : Int) := by omega
  have hcpB2 := hcpB (((w.alloc (.cells ROW 175)).drew.setRow w.heap.size cur1).drew) rfl
  clear hcpB
  have hc2h := Lib.hid hc2
  have hc1h := Lib.hid hc1
  clear hc1 hc2 hkk hik hold hROW hG
  go_enter Tryz.func169, Tryz.ntmps169
  go_wp2_with (first
    | (at_builtin; refine Go.Lib.wpList_append_run _ rfl _ _ _ _ rfl _ _ rfl rfl _ _ (hrz _) ?_)
    | (refine wpList_copy_runE _ rfl _ _ 74 74 rfl _ _ rfl rfl (hcpA ((w.alloc (.cells ROW 175)).drew) rfl _ _) ?_))
  go_region_law_o (refine step_copy_runE rfl _ _ 74 74 rfl (.slice (some ⟨w.heap.size, (i + 1) * 4, none⟩) (n - i) (G - (i + 1))) (.slice (some ⟨b, i * 4, none⟩) (n - i) (n - i)) (by simp [Act.eval, Act.put]) (by simp [Act.eval, Act.put]) (hcpB2 _ _ _) ?_)
  go_wp2
  go_ret
  have hc1 := hc1h.out
  have hc2 := hc2h.out
  have hlen2 : (l.take i ++ e :: l.drop i).length = n + 1 := by simp [hn2.out]; omega
  have hfl : (l.take i ++ e :: l.drop i).flatMap encE = cs.take (i * 4) ++ (encE e ++ cs.drop (i * 4)) := by rw [List.flatMap_append, List.flatMap_cons, hft, hfd]
  have hct : cur1.toList = ROW.toList.take (i * 4) ++ encE e ++ ROW.toList.drop (i * 4 + (encE e).length) := by rw [← hc1]
  have hh2 := setRow_get (cur' := cur2) hN1
  refine ⟨_, rfl, ?_, ?_, ?_, fun g hgs hn => ⟨?_, ?_⟩, fun e => by cases e⟩
  · unfold OwEd World.ownsRow
    rw [hlen2, hfl]
    refine ⟨?_, .inr ⟨w.heap.size, G, _, rfl, hbase, hh2, by omega, hGm, ?_, ?_⟩⟩
    · simp [hcl]; omega
    · rw [← hc2]; simp [hs1]; omega
    · rw [← hc2, hct]
      exact ins_list2 hrt hcl hi hv4
  · exact below_setRow (Below.drew (below_setRow (Below.drew (Below.alloc (Below.refl base w) hbase _)) hbase _)) hbase _
  · simp [World.setRow]
  · rw [setRow_other _ _ _ _ (show g ≠ w.heap.size by omega)]
    refine (setRow_other (w.alloc (.cells ROW 175)).drew w.heap.size g cur1 (show g ≠ w.heap.size by omega)).trans ?_
    exact Below.heap_alloc w _ g hgs
  · intro e
    injection e with e
    simp only at e
    omega
/-- An edge, put in at place i. -/
theorem Insert_edge (w : World) {base c gv i : Nat} {v : Value} {l : List EdD} {e : EdD} (hown : OwEd base w v l) (hnil : v ≠ .slice none 0 0) (hv : Blk w gv 175 #[.int .i64 e.a, .int .i64 e.b, .int .i64 e.l, .int .i64 e.r]) (hne : v.ownBlock ≠ Option.some gv) (hbase : base ≤ w.heap.size) (hlen : l.length ≤ 100000) (hi : i ≤ l.length) (hc : c = 1) :
    Calls Tryz.prog 169 #[v, .int .i64 (i : Int), .slice (some ⟨gv, 0, none⟩) 1 c] w (InsRes base w v (l.take i ++ e :: l.drop i)) := by
  subst hc
  obtain ⟨_, ⟨h, _⟩ | ⟨g, cap, cur, rfl, hg, hh, hnc, hm, hcs, htk⟩⟩ := id hown
  · exact absurd h hnil
  rcases Nat.lt_or_eq_of_le hi with hlt | rfl
  · by_cases hr : l.length + 1 ≤ cap
    · exact Insert_room w hown hv (fun e => hne (by rw [e]; rfl)) hlen hlt hr
    · exact Insert_grow w hown hv hbase hlen hlt (by omega)
  · have h := Insert_end w hown hv hbase hlen
    rw [List.take_length, List.drop_length]
    exact h
end

section
open Go.RowKit
end

section
open Go.RowKit

theorem Ob.cellOf {bs : List Nat} {w W : World} (h : Ob bs w W) {b o : Nat} (hb : b < w.heap.size) (hn : b ∉ bs) : W.cell? ⟨b, o, none⟩ = w.cell? ⟨b, o, none⟩ := World.cell?_of_block (w := w) (h.block b hb hn)
end

section
open Go.RowKit
/-- A mesh in the blocks from lo to hi; its slices may have room to spare; or an empty one. -/
def OwMZ (lo hi : Nat) (w : World) (A : Option Addr) (n c : Nat) (B : Option Addr) (m d : Nat) (x : MeD) : Prop :=
  x.points.length = n ∧ x.tris.length = m ∧ n ≤ c ∧ m ≤ d ∧ n ≤ 1048576 ∧ m ≤ 1048576 ∧ ((n = 0 ∧ m = 0) ∨
    ∃ g g' cs cs' fs, A = some ⟨g, 0, none⟩ ∧ B = some ⟨g', 0, none⟩ ∧ Blk w g 31 cs ∧ Blk w g' 73 cs' ∧ n * 6 ≤ cs.size ∧ m * 5 ≤ cs'.size ∧ PtsIn 3 w cs x.points n fs ∧ TrsIn cs' x.tris m ∧ Fp lo hi (g :: g' :: fs.flatten))
section
variable {lo hi : Nat} {w W : World} {A : Option Addr} {n c : Nat} {B : Option Addr} {m d : Nat} {x : MeD}
theorem OwMZ.bl (h : OwMZ lo hi w A n c B m d x) (hb : Bl w W) : OwMZ lo hi W A n c B m d x := by
  obtain ⟨h1, h2, h3, h4, h5, h6, h7⟩ := h
  refine ⟨h1, h2, h3, h4, h5, h6, ?_⟩
  rcases h7 with h7 | ⟨g, g', cs, cs', fs, rfl, rfl, a1, a2, a3, a4, a5, a6, a7⟩
  · exact .inl h7
  · refine .inr ⟨g, g', cs, cs', fs, rfl, rfl, a1.bl hb, a2.bl hb, a3, a4, a5.bl hb fun b hm => ?_, a6, a7⟩
    obtain ⟨l, hl', hb'⟩ := List.mem_flatten.1 hm
    obtain ⟨i, hi, rfl⟩ := List.getElem_of_mem hl'
    exact (a5.2 i (by rw [← a5.1]; exact hi)).lt b (by simpa [pix, hi] using hb')
theorem OwMZ.low {lo' hi' : Nat} (h : OwMZ lo hi w A n c B m d x) (h1 : lo' ≤ lo) (h2 : hi ≤ hi') : OwMZ lo' hi' w A n c B m d x := by
  obtain ⟨b1, b2, b3, b4, b5, b6, h7⟩ := h
  refine ⟨b1, b2, b3, b4, b5, b6, ?_⟩
  rcases h7 with h7 | ⟨g, g', cs, cs', fs, rfl, rfl, a1, a2, a3, a4, a5, a6, a7⟩
  · exact .inl h7
  · exact .inr ⟨g, g', cs, cs', fs, rfl, rfl, a1, a2, a3, a4, a5, a6, a7.mono h1 h2⟩
theorem OwMZ.keep (h : OwMZ lo hi w A n c B m d x) (hs : w.heap.size ≤ W.heap.size) (hk : ∀ b, lo ≤ b → b < hi → b < w.heap.size → W.heap[b]? = w.heap[b]?) : OwMZ lo hi W A n c B m d x := by
  obtain ⟨b1, b2, b3, b4, b5, b6, h7⟩ := h
  refine ⟨b1, b2, b3, b4, b5, b6, ?_⟩
  rcases h7 with h7 | ⟨g, g', cs, cs', fs, rfl, rfl, a1, a2, a3, a4, a5, a6, a7⟩
  · exact .inl h7
  · have hg := a7.2 g (by simp)
    have hg' := a7.2 g' (by simp)
    refine .inr ⟨g, g', cs, cs', fs, rfl, rfl, (hk g hg.1 hg.2 a1.lt).trans a1, (hk g' hg'.1 hg'.2 a2.lt).trans a2, a3, a4, ⟨a5.1, fun i hi => (a5.2 i hi).keep (fun _ _ => rfl) hs fun b hb => ?_⟩, a6, a7⟩
    have hm := a7.2 b (List.mem_cons_of_mem _ (List.mem_cons_of_mem _ (mem_flatten_pix hb)))
    exact hk b hm.1 hm.2 ((a5.2 i hi).lt b hb)
theorem OwMZ.set (h : OwMZ lo hi w A n c B m d x) {q : Addr} (hq : q.block < lo ∨ hi ≤ q.block) (u : Value) : OwMZ lo hi (w.setCell q u) A n c B m d x :=
  h.keep (by simp) fun b h1 h2 _ => Below.heap_setCell w q u b (by omega)
end
end

section
open Go.RowKit

set_option maxHeartbeats 1600000 in
theorem l02Trim_any (w : World) {A : Option Addr} {n c : Nat} {l : List Nat} (h : RdI w A n c (ints l)) (hd : Digs l) :
    Calls Tryz.prog 257 #[.slice A n c] w fun e w' => ∃ m, e = .returned (.slice A m c) ∧ m ≤ n ∧ l.take m = dig (val l) ∧ ∃ q, w' = w.drewN q := by
  have hn := h.small
  have hcap := h.cap
  have hl := Lib.hid h.lenN
  go_enter Tryz.func257, Tryz.ntmps257
  go_wp2_with fail
  go_loopw [3] (fun v wr => ∃ m : Nat, v = .int .i64 (m : Int) ∧ m ≤ n ∧ Hid (∀ j, m ≤ j → dx l j = 0) ∧ ∃ q, wr = w.drewN q) (fun v _ => (intOf v).toNat)
  case atStart => exact ⟨n, rfl, Nat.le_refl _, fun j hj => dx_beyond (by rw [hl.out]; exact hj), 0, rfl⟩
  case round =>
    obtain ⟨m, rfl, hm, hz, q, rfl⟩ := hrel
    have hmc : m ≤ c := by omega
    have hmi : (m : Int) ≤ (c : Int) := by omega
    rcases m with _ | m
    · have hfin := Lib.hid (trim_dig hd (Nat.zero_le _) hz.out (.inl rfl))
      go_wp2_with fail
      go_ret
      exact ⟨0, rfl, Nat.zero_le _, hfin.out, (by first | exact ⟨_, rfl⟩ | exact ⟨0, rfl⟩ | exact q_drewN ⟨_, rfl⟩ | exact q_drewN (q_drewN ⟨_, rfl⟩))⟩
    · obtain ⟨ad, rfl, hlt, hc⟩ := h.atN (k := m) (by omega)
      have hki : ((m + 1 : Nat) : Int) - 1 = (m : Int) := by omega
      have hpos : (0 : Int) < ((m + 1 : Nat) : Int) := by omega
      have hmn : (m : Int) < (n : Int) := by omega
      by_cases h0 : dx l m = 0
      · have hz' := Lib.hid (zero_step hz.out h0)
        rw [h0] at hc
        have h0' := Lib.hid h0; clear h0
        go_wp2_with fail
        go_roundw
        case rel => exact ⟨m, rfl, by omega, hz'.out, (by first | exact ⟨_, rfl⟩ | exact ⟨0, rfl⟩ | exact q_drewN ⟨_, rfl⟩ | exact q_drewN (q_drewN ⟨_, rfl⟩))⟩
        case measure => simp [intOf]
      · have hfin := Lib.hid (trim_dig hd (by rw [hl.out]; exact hm) hz.out (.inr h0))
        have hbeq : (((dx l m : Nat) : Int) == 0) = false := by simp; omega
        clear h0
        go_wp2_with fail
        go_ret
        exact ⟨m + 1, rfl, hm, hfin.out, (by first | exact ⟨_, rfl⟩ | exact ⟨0, rfl⟩ | exact q_drewN ⟨_, rfl⟩ | exact q_drewN (q_drewN ⟨_, rfl⟩))⟩
set_option maxHeartbeats 1600000 in
theorem l02Cap_any (w : World) {A : Option Addr} {n c : Nat} {l : List Nat} (h : RdI w A n c (ints l)) (hd : Digs l) (h60 : (dig (val l)).length ≤ 60) :
    Calls Tryz.prog 258 #[.slice A n c] w fun e w' => ∃ m, e = .returned (.slice A m c) ∧ m ≤ n ∧ l.take m = dig (val l) ∧ ∃ q, w' = w.drewN q := by
  have hl := Lib.hid h.lenN
  go_enter Tryz.func258, Tryz.ntmps258
  go_wp2_with fail
  refine (l02Trim_any _ h hd).mono ?_
  rintro e w1 ⟨m, rfl, hm, ht, q, rfl⟩
  have hm60 : m ≤ 60 := by
    have := congrArg List.length ht
    rw [List.length_take, hl.out] at this
    omega
  have hi : ¬ (60 : Int) < (m : Int) := by omega
  have ht := Lib.hid ht; rename_i h_; clear h_
  go_wp2_with fail
  go_ret
  exact ⟨m, rfl, hm, ht.out, q, rfl⟩
theorem l02Cap_num (w : World) {A : Option Addr} {n c N : Nat} (h : IsN w A n c N) (h60 : n ≤ 60) :
    Calls Tryz.prog 258 #[.slice A n c] w fun e w' => e = .returned (.slice A n c) ∧ ∃ q, w' = w.drewN q := by
  refine (l02Cap_any w h (digs_dig N) (by rw [val_dig, h.lenN]; exact h60)).mono ?_
  rintro e w1 ⟨m, rfl, hm, ht, hq⟩
  have := congrArg List.length ht
  rw [List.length_take, val_dig, h.lenN] at this
  obtain rfl : m = n := by omega
  exact ⟨rfl, hq⟩

set_option maxHeartbeats 1600000 in
theorem sNatOf_any (w : World) (N : Nat) (hN : N < 9223372036854775808) :
    Calls Tryz.prog 233 #[.int .i64 (N : Int)] w fun e w' => ∃ A n c, e = .returned (.slice A n c) ∧ OwI 3 w.heap.size w' A n c (ints (dig N)) ∧ Bl w w' := by
  go_enter Tryz.func233, Tryz.ntmps233
  go_wp2_with fail
  go_loopw [0, 3] (fun r v wr => ∃ (R : Nat) (d : List Nat), r = .int .i64 (R : Int) ∧ R ≤ N ∧ Hid (d ++ dig R = dig N) ∧ OwL 3 w.heap.size wr v (ints d) ∧ Bl w wr) (fun r _ _ => (intOf r).toNat)
  case atStart => exact ⟨N, [], rfl, Nat.le_refl _, rfl, OwL.empty w (Nat.le_refl _) (by simp), (Bl.refl w).alloc _⟩
  case round =>
    obtain ⟨R, d, rfl, hR, hd, hown, hbw⟩ := hrel
    by_cases h0 : 0 < R
    · have hnext := Lib.hid (natOf_step hd.out h0)
      have hlen : (ints d).length ≤ 1099511627776 := by
        have := congrArg List.length hd.out
        have h3 : (dig N).length ≤ 3 := dig_len_le.2 (by rw [Bs_eq]; omega)
        rw [List.length_append] at this
        rw [ints_len]; omega
      have hpos : (0 : Int) < (R : Int) := by omega
      have hdiv := Nat.div_lt_self h0 (show 1 < 1000000000 by omega)
      have hRi : (R : Int) ≤ 9223372036854775807 := by omega
      go_wp2_with (at_builtin; go_must (refine wpList_append_int (w0 := w) info_int Tryz.underlying25 rfl (.tmp 7) (.tmp 10) rfl _ (ints d) rfl hown hbw 1 rfl hlen ?_); intro v' w1 hown1 hbw1)
      go_roundw
      case rel => exact ⟨R / Bs, d ++ [R % Bs], by rw [Bs_eq]; go_num, Nat.le_trans (Nat.div_le_self _ _) hR, hnext.out, by rw [ints_append, Bs_eq]; exact hown1, hbw1⟩
      case measure => simp [intOf]; omega
    · obtain rfl : R = 0 := by omega
      have hfin := Lib.hid (show d = dig N by have := hd.out; rwa [dig_zero, List.append_nil] at this)
      have hlen : (ints d).length ≤ 9223372036854775807 := by
        have h3 : (dig N).length ≤ 3 := dig_len_le.2 (by rw [Bs_eq]; omega)
        rw [ints_len, hfin.out]; omega
      obtain ⟨A, c, hv, ho⟩ := hown.own hlen
      have hv := Lib.hid hv; rename_i hvo; clear hvo
      go_wp2_with fail
      go_ret
      exact ⟨A, _, c, congrArg Ending.returned hv.out, by rw [← hfin.out]; exact ho, hbw⟩

/-- The limbs collected behind all rounds are the sum's own. -/
theorem AddRel.fin {N M k : Nat} {o : List Nat} (h : AddRel N M k 0 o) (hn : (dig N).length ≤ k) (hm : (dig M).length ≤ k) (hlow : 0 < k → Bs ^ (k - 1) ≤ N + M) : o = dig (N + M) := by
  have hs := h.sum
  rw [val_vf hn, val_vf hm, val_dig, val_dig, Nat.zero_mul, Nat.add_zero] at hs
  rw [← hs]
  refine (dig_val (canon_of_lower h.digs fun e => ?_)).symm
  rw [hs, h.len]
  exact hlow (by rw [← h.len]; exact List.length_pos_iff.2 e)
theorem OwI.cutN {T : TypeId} {b0 : Nat} {w : World} {A : Option Addr} {n c m N : Nat} {l : List Nat} (h : OwI T b0 w A n c (ints l)) (hm : m ≤ n) (ht : l.take m = dig N) : OwI T b0 w A m c (ints (dig N)) := by
  refine ⟨by rw [← ht]; exact h.1.cut hm, ?_⟩
  rcases h.2 with h0 | ⟨g, cs, e, hg, hh, hsz⟩
  · exact .inl (by omega)
  · exact .inr ⟨g, cs, e, hg, hh, by omega⟩
/-- What holds behind k rounds of a subtraction that collects. -/
structure SubA (N M k br : Nat) (o : List Nat) : Prop where
  len : o.length = k
  digs : Digs o
  small : br ≤ 1
  diff : val o + vf (dx (dig M)) k = vf (dx (dig N)) k + br * Bs ^ k
theorem SubA.step {N M k br d br' : Nat} {o : List Nat} (h : SubA N M k br o) (hd : d < Bs) (hb : br' ≤ 1) (he : d + br + dx (dig M) k = dx (dig N) k + br' * Bs) : SubA N M (k + 1) br' (o ++ [d]) := by
  refine ⟨by simp [h.len], digs_snoc h.digs hd, hb, ?_⟩
  have h2 := h.diff
  simp only [vf]
  rw [val_snoc, h.len, Nat.pow_succ]
  have h3 : (d + br + dx (dig M) k) * Bs ^ k = (dx (dig N) k + br' * Bs) * Bs ^ k := by rw [he]
  grind
theorem SubA.stop {N M n br : Nat} {o : List Nat} (h : SubA N M n br o) (hn : (dig N).length = n) (hm : (dig M).length ≤ n) (hle : M ≤ N) : val o = N - M := by
  have h1 := h.diff
  rw [val_vf hm, val_vf (by omega), val_dig, val_dig] at h1
  have h2 := val_lt h.digs
  rw [h.len] at h2
  have h3 := h.small
  rcases Nat.eq_zero_or_pos br with h0 | h0
  · subst h0; omega
  · obtain rfl : br = 1 := by omega
    omega

theorem run_append_nil' {P : Program} (w : World) (base : Nat) {t ty e : TypeId} {i : TypeInfo} {size : Nat} (ht : P.underlying t = some (.slice e)) (hi : P.info? e = some i)
    {v : Value} {n : Nat} {xs : List Value} (hown : w.ownsRow base e size v n xs) (c : Nat) : (Builtin.append_ #[t, t] ty #[v, .slice none 0 c]).run P w = .ok v w := by
  rcases hown.2 with ⟨rfl, rfl⟩ | ⟨g, cap, cur, rfl, _, _, hnc, _⟩
  · simp [Builtin.append_, run_underlying ht, sizeOf, typeInfo, hi, Builtin.lenOf, Builtin.firstCells]
  · simp [Builtin.append_, run_underlying ht, sizeOf, typeInfo, hi, Builtin.lenOf, Builtin.firstCells, hnc, storeCells]
/-- append of a whole slice that reads as ys, nil or not. -/
theorem wpList_append_x {P : Program} {E t : TypeId} (hinfo : (P.info? E).map (fun i => (i.zero, i.size, i.bytes)) = some (some (.int .i64 0), 1, 8)) (ht : P.underlying t = some (.slice E))
    {w0 W : World} {ops : Array Oper} {rest : List Oper} {o : Oper} {a : Act} {Q : Exit → Act → World → Prop} (hgd : o.guard = none) (s x : Operand)
    (ho : o.op = .call { callee := .builtin .append, args := #[s, x], argTypes := #[t, t] }) (v : Value) (l : List Int) (hs : a.eval s = v) (hown : OwL E w0.heap.size W v l) (hb : Bl w0 W)
    (A : Option Addr) (m c : Nat) (hx : a.eval x = .slice A m c) (ys : List Int) (hr : RdI W A m c ys) (hlen : l.length ≤ 1099511627776) (hm : m ≤ 1099511627776)
    (h : ∀ v' w', OwL E w0.heap.size w' v' (l ++ ys) → Bl w0 w' → wpList P ops Q rest (a.put o.dst v') w') : wpList P ops Q (o :: rest) a W := by
  rcases A with _ | ad
  · have hm0 : m = 0 := by
      rcases Nat.eq_zero_or_pos m with h0 | h0
      · exact h0
      · obtain ⟨_, e, _⟩ := hr.at_ h0
        cases e
    subst hm0
    have hy : ys = [] := List.length_eq_zero_iff.1 hr.len
    subst hy
    obtain ⟨i0, hi, hz0, hz1, hz2⟩ := info_parts hinfo
    refine wpList_plain hgd fun K hK => ?_
    have hrun := run_append_nil' (P := P) W w0.heap.size (ty := o.type) ht hi hown c
    unfold Oper.wp
    simp [execOp, ho, resolve, invoke, builtin, hs, hx, hrun, Result.andThen]
    exact hK _ _ (h v W (by rw [List.append_nil]; exact hown) hb)
  · exact wpList_append_all hinfo ht hgd s x ho v l hs hown hb ad m c hx ys hr hlen hm h
theorem OwL.one {E : TypeId} {base : Nat} (w : World) (x : Int) (hb : base ≤ w.heap.size) : OwL E base (w.alloc (.cells #[.int .i64 x] E)) (.slice (some ⟨w.heap.size, 0, none⟩) 1 1) [x] :=
  World.ownsRow_lit w #[.int .i64 x] 1 hb (by decide) rfl

theorem dx_dig (N k : Nat) : dx (dig N) k = N / Bs ^ k % Bs := by
  induction k generalizing N with
  | zero =>
    rw [Nat.pow_zero, Nat.div_one]
    by_cases h : N = 0
    · subst h; rw [dig_zero]; rfl
    · rw [dig_pos h, dx_cons_zero]
  | succ k ih =>
    by_cases h : N = 0
    · subst h; rw [dig_zero, Nat.zero_div]; rfl
    · rw [dig_pos h, dx_cons_succ, ih, Nat.div_div_eq_div_mul, Nat.pow_succ, Nat.mul_comm]
end

end Go.Proofs.YtajlahjghapbkaaGreat
