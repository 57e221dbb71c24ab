/- Lemmas. -/
import Derived.Test.YtajlahjghapbkaaGreatRows
import Derived.Test.YtajlahjghapbkaaGreatPProlongM21
import Derived.Test.YtajlahjghapbkaaGreatPProlongM18
import Derived.Test.YtajlahjghapbkaaGreatPProlongM15
import Derived.Test.YtajlahjghapbkaaGreatPProlongM03
import Derived.Deep.Cut
import Derived.Deep.DeepCutAuto
import Derived.Test.YtajlahjghapbkaaGreatPProlongM19
import Derived.Test.YtajlahjghapbkaaGreatPProlongM14
import Derived.Test.YtajlahjghapbkaaGreatPProlongM09
import Derived.Test.YtajlahjghapbkaaGreatPProlongM13
namespace Go.Proofs.YtajlahjghapbkaaGreat
section
open Go.RowKit

theorem ins_list2 {row cs vs : List Value} {i n : Nat} (h2 : row.take (i * 4) = cs.take (i * 4)) (h3 : cs.length = n * 4) (hi : i < n) (hv : vs.length = 4) :
    ((row.take (i * 4) ++ vs ++ row.drop (i * 4 + vs.length)).take ((i + 1) * 4) ++ cs.drop (i * 4) ++ (row.take (i * 4) ++ vs ++ row.drop (i * 4 + vs.length)).drop ((i + 1) * 4 + (cs.drop (i * 4)).length)).take ((n + 1) * 4) = cs.take (i * 4) ++ (vs ++ cs.drop (i * 4)) := by
  have e1 : (row.take (i * 4) ++ vs ++ row.drop (i * 4 + vs.length)).take ((i + 1) * 4) = cs.take (i * 4) ++ vs := by
    have hl : (cs.take (i * 4) ++ vs).length = (i + 1) * 4 := by simp [h3, hv]; omega
    rw [h2, ← hl, List.take_left]
  rw [e1, List.append_assoc, List.append_assoc, ← List.append_assoc vs, ← List.append_assoc (cs.take (i * 4))]
  have hl : (cs.take (i * 4) ++ (vs ++ cs.drop (i * 4))).length = (n + 1) * 4 := by simp [h3, hv]; omega
  rw [← hl, List.take_left]
set_option maxRecDepth 100000 in
set_option maxHeartbeats 16000000 in
theorem Insert_grow (w : World) {base b c gv i : Nat} {l : List EdD} {e : EdD} (hown : OwEd base w (.slice (some ⟨b, 0, none⟩) l.length c) l) (hv : Blk w gv 175 #[.int .i64 e.a, .int .i64 e.b, .int .i64 e.l, .int .i64 e.r]) (hbase : base ≤ w.heap.size) (hlen : l.length ≤ 100000) (hi : i < l.length) (hroom : c < l.length + 1) :
    Calls Tryz.prog 169 #[.slice (some ⟨b, 0, none⟩) l.length c, .int .i64 (i : Int), .slice (some ⟨gv, 0, none⟩) 1 1] w (InsRes base w (.slice (some ⟨b, 0, none⟩) l.length c) (l.take i ++ e :: l.drop i)) := by
  obtain ⟨i0, hi0, hz0, hz1, hz2⟩ := info_parts info_edge
  have hsz4 : (Tryz.prog.info? 175).map (·.size) = some 4 := by rw [hi0]; simp [hz1]
  obtain ⟨hcl, ⟨h, _⟩ | ⟨g, cap, cur, h, hg, hh, hnc, hm, hcs, htk⟩⟩ := id hown
  · cases h
  injection h with q1 q2 q3
  injection q1 with q1
  injection q1 with q1
  subst q1 q3
  have hc63 : c ≤ 9223372036854775807 := by unfold maxLen at hm; omega
  obtain ⟨cs, hcse⟩ : ∃ cs, l.flatMap encE = cs := ⟨_, rfl⟩
  have hone := flat_one l
  have hft := flat_take l i
  have hfd := flat_drop l i
  have hbl := heap_lt hh
  rw [hcse] at hcl htk hone hft hfd
  obtain ⟨n, hn⟩ : ∃ n, l.length = n := ⟨_, rfl⟩
  have hn2 := Lib.hid hn
  rw [hn] at hlen hi hroom hcl hnc htk ⊢
  clear hn hown hcse
  obtain rfl : n = c := by omega
  have hdl : (cs.drop (i * 4)).length = (n - i) * 4 := by rw [List.length_drop, hcl]; omega
  have htl : (cs.take (i * 4)).length = i * 4 := by rw [List.length_take, hcl]; omega
  have hold : (Builtin.firstCells i0.size i (.slice (some ⟨b, 0, none⟩) i n)).run Tryz.prog w.drew = .ok (cs.take (i * 4)).toArray w.drew := by
    rw [hz1]
    exact run_firstCells_some w.drew 4 i ⟨b, 0, none⟩ i n (cs.take (i * 4)) htl (fun j u hj => by
      rw [Addr.add_lit, Nat.zero_add]
      rw [List.getElem?_take] at hj
      split at hj
      · exact row_cell (w := w.drew) hh htk hj
      · cases hj)
  have hik : i + (n + 1 - i) = n + 1 := by omega
  have hkk : (n : Int) + 1 - (i : Int) = ((n + 1 - i : Nat) : Int) := by omega
  have hrz : ∀ ty, (Builtin.append_ #[74, 3] ty #[.slice (some ⟨b, 0, none⟩) i n, .int .i64 ((n : Int) + 1 - (i : Int))]).run Tryz.prog w =
      .ok (.slice (some ⟨w.heap.size, 0, none⟩) (n + 1) (grownCap w (n + 1) n 175)) (w.drew.alloc (.cells ((cs.take (i * 4)).toArray ++ Builtin.zeroCells (.agg #[.int .i64 0, .int .i64 0, .int .i64 0, .int .i64 0] : Value).cells (n + 1 - i) ++ Builtin.zeroCells (.agg #[.int .i64 0, .int .i64 0, .int .i64 0, .int .i64 0] : Value).cells (grownCap w (n + 1) n 175 - (n + 1))) 175)) := fun ty => by
    have h := Go.Lib.run_append_grow_zeros w 74 3 ty 175 i0 _ .i64 .i64 Tryz.underlying74 Tryz.underlying3 hi0 hz0 (some ⟨b, 0, none⟩) i n (cs.take (i * 4)) hold (n + 1 - i) (by omega) (by omega) (by omega) (by omega) (by rw [hz2]; omega) (by rw [hz2, hik]; exact growslice_fits (by omega) (by omega))
    rw [hik] at h
    rw [hkk]
    exact h
  obtain ⟨G, hG⟩ : ∃ G, G = grownCap w (n + 1) n 175 := ⟨_, rfl⟩
  obtain ⟨ROW, hROW⟩ : ∃ ROW : Array Value, ROW = (cs.take (i * 4)).toArray ++ Builtin.zeroCells (.agg #[.int .i64 0, .int .i64 0, .int .i64 0, .int .i64 0] : Value).cells (n + 1 - i) ++ Builtin.zeroCells (.agg #[.int .i64 0, .int .i64 0, .int .i64 0, .int .i64 0] : Value).cells (G - (n + 1)) := ⟨_, rfl⟩
  rw [← hG] at hrz
  rw [← hROW] at hrz
  have hGn : n + 1 ≤ G := by rw [hG]; exact grownCap_ge w _ _ _
  have hGm : G ≤ maxLen := by rw [hG]; exact grownCap_le_maxLen w _ _ _ (by unfold maxLen; omega)
  have hG63 : G ≤ 9223372036854775807 := by unfold maxLen at hGm; omega
  have hrs : ROW.size = G * 4 := by
    rw [hROW]
    simp [Builtin.zeroCells, Value.cells, htl]
    omega
  have hrt : ROW.toList.take (i * 4) = cs.take (i * 4) := by
    rw [hROW, Array.append_assoc, Array.toList_append, ← htl]
    simp
  obtain ⟨cur1, hc1⟩ : ∃ cur1, (ROW.toList.take (i * 4) ++ encE e ++ ROW.toList.drop (i * 4 + (encE e).length)).toArray = cur1 := ⟨_, rfl⟩
  have hv4 : (encE e).length = 4 := rfl
  have hs1 : cur1.size = G * 4 := by rw [← hc1]; simp [hrs]; rw [hv4]; omega
  obtain ⟨cur2, hc2⟩ : ∃ cur2, (cur1.toList.take ((i + 1) * 4) ++ cs.drop (i * 4) ++ cur1.toList.drop ((i + 1) * 4 + (cs.drop (i * 4)).length)).toArray = cur2 := ⟨_, rfl⟩
  have hvl := hv.lt
  have hN : (w.alloc (.cells ROW 175)).heap[w.heap.size]? = some (.cells ROW 175 (0, 0)) := heap_alloc_new w _
  have hcell : ∀ (W X : World) (p : Addr), W.heap[p.block]? = X.heap[p.block]? → W.cell? p = X.cell? p := fun W X p h => by simp only [World.cell?, h]
  have hcpA : ∀ (W : World), W.heap = (w.alloc (.cells ROW 175)).heap → ∀ ty dc, (Builtin.copy_ #[74, 74] ty #[.slice (some ⟨w.heap.size, i * 4, none⟩) (n + 1 - i) dc, .slice (some ⟨gv, 0, none⟩) 1 1]).run Tryz.prog W = .ok (goInt ((1 : Nat) : Int)) (W.setRow w.heap.size cur1) := fun W hW ty dc => by
    rw [← hc1]
    exact run_copy_rowK W _ _ ty 175 w.heap.size (i * 4) (n + 1 - i) dc ⟨gv, 0, none⟩ 1 1 ROW 175 (encE e) 4 1 Tryz.underlying74 hsz4 (by rw [hW]; exact hN) (by simp only [Nat.min_def]; split <;> omega) rfl
      (fun j u hj => by
        rw [Addr.add_lit, hcell W w _ (by rw [hW]; exact Below.heap_alloc w _ gv hvl), Nat.zero_add, hv.cell j, ← hj, ← Array.getElem?_toList]
        rfl) (by rw [hrs]; show i * 4 + 4 ≤ G * 4; omega) (enc_one e)
  have hN1 : ((w.alloc (.cells ROW 175)).setRow w.heap.size cur1).heap[w.heap.size]? = some (.cells cur1 175 (0, 0)) := setRow_get hN
  have hcpB : ∀ (W : World), W.heap = ((w.alloc (.cells ROW 175)).setRow w.heap.size cur1).heap → ∀ ty dc sc, (Builtin.copy_ #[74, 74] ty #[.slice (some ⟨w.heap.size, (i + 1) * 4, none⟩) (n - i) dc, .slice (some ⟨b, i * 4, none⟩) (n - i) sc]).run Tryz.prog W = .ok (goInt ((n - i : Nat) : Int)) (W.setRow w.heap.size cur2) := fun W hW ty dc sc => by
    rw [← hc2]
    exact run_copy_rowK W _ _ ty 175 w.heap.size ((i + 1) * 4) (n - i) dc ⟨b, i * 4, none⟩ (n - i) sc cur1 175 (cs.drop (i * 4)) 4 (n - i) Tryz.underlying74 hsz4 (by rw [hW]; exact hN1) (by simp only [Nat.min_def]; split <;> omega) hdl
      (fun j u hj => by
        rw [Addr.add_lit, hcell W w _ (by rw [hW, setRow_other _ _ _ _ (show b ≠ w.heap.size by omega)]; exact Below.heap_alloc w _ b hbl)]
        rw [List.getElem?_drop] at hj
        exact row_cell hh htk hj) (by rw [hdl, hs1]; omega) (fun u hu => hone u (List.mem_of_mem_drop hu))
  have hz2 : ¬ ((i : Int) = (n : Int)) := by omega
  have hz3 : (n : Int) < (n : Int) + 1 := by omega
  have hb2 : ¬ (G = i + 1) := by omega
  have hb4 : ¬ (G = i) := by omega
  have hb6 : ¬ (n = i) := by omega
  have hw1 : IntKind.i64.wrap ((i : Int) + 1) = (i : Int) + 1 := by rw [IntKind.wrap_i64]; omega
  have hb1 : (0 : Int) ≤ (i : Int) + 1 := by omega
  have hin : i ≤ n := by omega
  have mixed : Tryz.prog.follows Departure.mixedOrders = true := by kernel_rfl
  have htn : ((i : Int) + 1).toNat = i + 1 := by omega
  have hb3 : (i : Int) ≤ (n : Int) := by omega
  have hcpB2 := hcpB (((w.alloc (.cells ROW 175)).drew.setRow w.heap.size cur1).drew) rfl
  clear hcpB
  have hc2h := Lib.hid hc2
  have hc1h := Lib.hid hc1
  clear hc1 hc2 hkk hik hold hROW hG
  go_enter Tryz.func169, Tryz.ntmps169
  go_wp2_with (first
    | (at_builtin; refine Go.Lib.wpList_append_run _ rfl _ _ _ _ rfl _ _ rfl rfl _ _ (hrz _) ?_)
    | (refine wpList_copy_runE _ rfl _ _ 74 74 rfl _ _ rfl rfl (hcpA ((w.alloc (.cells ROW 175)).drew) rfl _ _) ?_))
  go_region_law_o (refine step_copy_runE rfl _ _ 74 74 rfl (.slice (some ⟨w.heap.size, (i + 1) * 4, none⟩) (n - i) (G - (i + 1))) (.slice (some ⟨b, i * 4, none⟩) (n - i) (n - i)) (by simp [Act.eval, Act.put]) (by simp [Act.eval, Act.put]) (hcpB2 _ _ _) ?_)
  go_wp2
  go_ret
  have hc1 := hc1h.out
  have hc2 := hc2h.out
  have hlen2 : (l.take i ++ e :: l.drop i).length = n + 1 := by simp [hn2.out]; omega
  have hfl : (l.take i ++ e :: l.drop i).flatMap encE = cs.take (i * 4) ++ (encE e ++ cs.drop (i * 4)) := by rw [List.flatMap_append, List.flatMap_cons, hft, hfd]
  have hct : cur1.toList = ROW.toList.take (i * 4) ++ encE e ++ ROW.toList.drop (i * 4 + (encE e).length) := by rw [← hc1]
  have hh2 := setRow_get (cur' := cur2) hN1
  refine ⟨_, rfl, ?_, ?_, ?_, fun g hgs hn => ⟨?_, ?_⟩, fun e => by cases e⟩
  · unfold OwEd World.ownsRow
    rw [hlen2, hfl]
    refine ⟨?_, .inr ⟨w.heap.size, G, _, rfl, hbase, hh2, by omega, hGm, ?_, ?_⟩⟩
    · simp [hcl]; omega
    · rw [← hc2]; simp [hs1]; omega
    · rw [← hc2, hct]
      exact ins_list2 hrt hcl hi hv4
  · exact below_setRow (Below.drew (below_setRow (Below.drew (Below.alloc (Below.refl base w) hbase _)) hbase _)) hbase _
  · simp [World.setRow]
  · rw [setRow_other _ _ _ _ (show g ≠ w.heap.size by omega)]
    refine (setRow_other (w.alloc (.cells ROW 175)).drew w.heap.size g cur1 (show g ≠ w.heap.size by omega)).trans ?_
    exact Below.heap_alloc w _ g hgs
  · intro e
    injection e with e
    simp only at e
    omega
/-- An edge, put in at place i. -/
theorem Insert_edge (w : World) {base c gv i : Nat} {v : Value} {l : List EdD} {e : EdD} (hown : OwEd base w v l) (hnil : v ≠ .slice none 0 0) (hv : Blk w gv 175 #[.int .i64 e.a, .int .i64 e.b, .int .i64 e.l, .int .i64 e.r]) (hne : v.ownBlock ≠ Option.some gv) (hbase : base ≤ w.heap.size) (hlen : l.length ≤ 100000) (hi : i ≤ l.length) (hc : c = 1) :
    Calls Tryz.prog 169 #[v, .int .i64 (i : Int), .slice (some ⟨gv, 0, none⟩) 1 c] w (InsRes base w v (l.take i ++ e :: l.drop i)) := by
  subst hc
  obtain ⟨_, ⟨h, _⟩ | ⟨g, cap, cur, rfl, hg, hh, hnc, hm, hcs, htk⟩⟩ := id hown
  · exact absurd h hnil
  rcases Nat.lt_or_eq_of_le hi with hlt | rfl
  · by_cases hr : l.length + 1 ≤ cap
    · exact Insert_room w hown hv (fun e => hne (by rw [e]; rfl)) hlen hlt hr
    · exact Insert_grow w hown hv hbase hlen hlt (by omega)
  · have h := Insert_end w hown hv hbase hlen
    rw [List.take_length, List.drop_length]
    exact h
end

section
open Go.RowKit

theorem OwL.grown {E : TypeId} {base : Nat} {w w' : World} {v : Value} {l : List Int} {row : Option Nat} (h : OwL E base w v l) (hg : w.grownBy w' row) (hr : ∀ k, row = some k → v.ownBlock ≠ some k) : OwL E base w' v l := by
  refine ⟨h.1, ?_⟩
  rcases h.2 with h2 | ⟨g, cap, cur, hv, hgb, hh, r⟩
  · exact .inl h2
  · exact .inr ⟨g, cap, cur, hv, hgb, (hg.block g (heap_lt hh) (by intro e; exact hr g e.symm (by rw [hv]; rfl))).trans hh, r⟩
/-- A fraction in memory of its own (its two slices may share it). -/
def OwQ (T : TypeId) (b0 : Nat) (w : World) (s : Bool) (A : Option Addr) (n c : Nat) (B : Option Addr) (m d : Nat) (r : RatD) : Prop :=
  ∃ bs, FtR T w s A n c B m d r bs ∧ ∀ b ∈ bs, b0 ≤ b ∧ b < w.heap.size
section
variable {T : TypeId} {b0 b1 : Nat} {w W : World} {s : Bool} {A : Option Addr} {n c : Nat} {B : Option Addr} {m d : Nat} {r : RatD}
theorem OwQ.of (h : OwR T b0 w s A n c B m d r) : OwQ T b0 w s A n c B m d r := by
  obtain ⟨bs, h, hf⟩ := h
  exact ⟨bs, h, hf.2⟩
theorem OwQ.rd (h : OwQ T b0 w s A n c B m d r) : RdR w s A n c B m d r := by
  obtain ⟨bs, h, _⟩ := h
  exact h.rd
theorem OwQ.two (hs : s = r.neg) (h : OwI T b0 w A n c r.mag) (k : OwI T b0 w B m d r.den) : OwQ T b0 w s A n c B m d r := by
  obtain ⟨b1, h1, f1⟩ := FtI.of_own h
  obtain ⟨b2, h2, f2⟩ := FtI.of_own k
  refine ⟨b1 ++ b2, ⟨hs, b1, b2, h1, h2, rfl⟩, fun b hb => ?_⟩
  rcases List.mem_append.1 hb with hb | hb
  · exact f1.2 b hb
  · exact f2.2 b hb
theorem OwQ.bl (h : OwQ T b0 w s A n c B m d r) (hb : Bl w W) : OwQ T b0 W s A n c B m d r := by
  obtain ⟨bs, h, hf⟩ := h
  exact ⟨bs, h.bl hb, fun b hm => ⟨(hf b hm).1, Nat.lt_of_lt_of_le (hf b hm).2 hb.size⟩⟩
theorem OwQ.mono (h : OwQ T b1 w s A n c B m d r) (hb : b0 ≤ b1) : OwQ T b0 w s A n c B m d r := by
  obtain ⟨bs, h, hf⟩ := h
  exact ⟨bs, h, fun b hm => ⟨Nat.le_trans hb (hf b hm).1, (hf b hm).2⟩⟩
theorem OwQ.far (h : OwQ T b0 w s A n c B m d r) {q : Addr} (hp : q.block < b0) (u : Value) : OwQ T b0 (w.setCell q u) s A n c B m d r := by
  obtain ⟨bs, h, hf⟩ := h
  refine ⟨bs, h.keep (by simp) (fun b hb => Below.heap_setCell w q u b (by have := (hf b hb).1; omega)), fun b hm => ?_⟩
  have := hf b hm
  simpa using this
end
end

section
open Go.RowKit

/-- The indices of a triangle's corners. -/
def triIx (t : TriD) : Nat → Int
  | 0 => t.a
  | 1 => t.b
  | _ + 2 => t.c
def OkIx (n : Nat) (t : TriD) (k : Nat) : Prop := ∀ j, j < k → 0 ≤ triIx t j ∧ triIx t j ≤ (n : Int) - 1
theorem OkIx.step {n : Nat} {t : TriD} {k : Nat} (h : OkIx n t k) (h0 : 0 ≤ triIx t k ∧ triIx t k ≤ (n : Int) - 1) : OkIx n t (k + 1) := by
  intro j hj
  rcases Nat.lt_succ_iff_lt_or_eq.1 hj with hj | rfl
  · exact h j hj
  · exact h0
theorem OwPN.far {T : TypeId} {b0 : Nat} {w : World} {s : Bool} {A : Option Addr} {n c : Nat} {B : Option Addr} {m d : Nat} {t : Bool} {C : Option Addr} {i e : Nat} {D : Option Addr} {j f : Nat} {p : PtD} (h : OwPN AnyN T b0 w s A n c B m d t C i e D j f p) {q : Addr} (hp : q.block < b0) (u : Value) : OwPN AnyN T b0 (w.setCell q u) s A n c B m d t C i e D j f p := by
  obtain ⟨b1, b2, h1, h2, hf, _⟩ := h
  exact ⟨b1, b2, h1.keep (by simp) (fun b hb => Below.heap_setCell w q u b (by have := (hf b (by simp [hb])).1; omega)), h2.keep (by simp) (fun b hb => Below.heap_setCell w q u b (by have := (hf b (by simp [hb])).1; omega)), fun b hb => by have := hf b hb; simpa using this, trivial⟩
theorem OwPN.low {N : List Nat → Prop} {T : TypeId} {b0 b1 : Nat} {w : World} {s : Bool} {A : Option Addr} {n c : Nat} {B : Option Addr} {m d : Nat} {t : Bool} {C : Option Addr} {i e : Nat} {D : Option Addr} {j f : Nat} {p : PtD} (h : OwPN N T b1 w s A n c B m d t C i e D j f p) (hb : b0 ≤ b1) : OwPN N T b0 w s A n c B m d t C i e D j f p := by
  obtain ⟨c1, c2, h1, h2, hf, hn⟩ := h
  exact ⟨c1, c2, h1, h2, fun b hm => ⟨Nat.le_trans hb (hf b hm).1, (hf b hm).2⟩, hn⟩
theorem OwPN.bl {N : List Nat → Prop} {T : TypeId} {b0 : Nat} {w W : World} {s : Bool} {A : Option Addr} {n c : Nat} {B : Option Addr} {m d : Nat} {t : Bool} {C : Option Addr} {i e : Nat} {D : Option Addr} {j f : Nat} {p : PtD} (h : OwPN N T b0 w s A n c B m d t C i e D j f p) (hb : Bl w W) : OwPN N T b0 W s A n c B m d t C i e D j f p := by
  obtain ⟨c1, c2, h1, h2, hf, hn⟩ := h
  exact ⟨c1, c2, h1.bl hb, h2.bl hb, fun b hm => ⟨(hf b hm).1, Nat.lt_of_lt_of_le (hf b hm).2 hb.size⟩, hn⟩
end

section
open Go.RowKit
end

section
open Go.RowKit

def cA : Nat → Int
  | 0 => 1
  | 1 => 7
  | 2 => 3
  | 3 => 1
  | 4 => 7
  | _ => 5
def cB : Nat → Int
  | 0 => 4
  | 1 => 0
  | 2 => 4
  | 3 => 2
  | 4 => 4
  | _ => 6
end

section
open Go.RowKit

theorem and255 (x : Int) : 0 ≤ bits .and .i64 x 255 ∧ bits .and .i64 x 255 ≤ 255 := by
  rw [bits.eq_1]
  have h : (BitVec.ofInt IntKind.i64.bits x &&& BitVec.ofInt IntKind.i64.bits 255).toNat ≤ 255 := by
    rw [BitVec.toNat_and]
    exact Nat.le_trans Nat.and_le_right (by decide)
  rw [IntKind.wrap_i64]
  omega
/-- A byte of the code. -/
def ByteAt (w : World) (p : Addr) (x : Int) : Prop := w.cell? p = some (.int .u8 x) ∧ 0 ≤ x ∧ x ≤ 255
abbrev RdB := RdS 1 ByteAt
theorem RdB.bl {w W : World} {A : Option Addr} {n c : Nat} {l : List Int} (h : RdB w A n c l) (hb : Bl w W) : RdB W A n c l := RdS.bl (fun h hp hb => ⟨by rw [hb.cellOf hp]; exact h.1, h.2⟩) h hb
theorem RdB.ob {w W : World} {A : Option Addr} {n c g : Nat} {l : List Int} (h : RdB w A n c l) (hg : ∀ ad, A = Option.some ad → 0 < n → ad.block ≠ g) (hb : Ob [g] w W) : RdB W A n c l :=
  ⟨h.len, h.cap, h.small, fun k hk => by
    obtain ⟨ad, e, hlt, hc, hx⟩ := h.cells k hk
    refine ⟨ad, e, Nat.lt_of_lt_of_le hlt hb.size, ?_, hx⟩
    exact (World.cell?_of_block (w := w) (hb.block (ad.add (k * 1)).block (by rw [block_add]; exact hlt) (by rw [block_add]; simpa using hg ad e (by omega)))).trans hc⟩
/-- A cursor in block g. -/
def Cur (g : Nat) (w : World) (A : Option Addr) (n c : Nat) (l : List Int) : Prop :=
  ∃ i h : Int, Blk w g 169 #[.slice A n c, .int .i64 i, .int .i64 h] ∧ 0 ≤ i ∧ i ≤ n ∧ RdB w A n c l ∧ ∀ ad, A = Option.some ad → 0 < n → ad.block ≠ g
theorem Cur.bl {g n c : Nat} {w W : World} {A : Option Addr} {l : List Int} (h : Cur g w A n c l) (hb : Bl w W) : Cur g W A n c l := by
  obtain ⟨i, k, h1, h2, h3, h4, h5⟩ := h
  exact ⟨i, k, h1.bl hb, h2, h3, h4.bl hb, h5⟩
theorem Cur.lt {g n c : Nat} {w : World} {A : Option Addr} {l : List Int} (h : Cur g w A n c l) : g < w.heap.size := by
  obtain ⟨i, k, h1, _⟩ := h
  exact h1.lt
set_option maxRecDepth 100000 in
set_option maxHeartbeats 4000000 in
theorem l01Byte_any (w : World) {g n c : Nat} {A : Option Addr} {l : List Int} (hC : Cur g w A n c l) :
    Calls Tryz.prog 98 #[.pointer (some ⟨g, 0, none⟩)] w fun e w' => ∃ x : Int, e = .returned (.int .i64 x) ∧ 0 ≤ x ∧ x ≤ 255 ∧ Cur g w' A n c l ∧ Ob [g] w w' := by
  obtain ⟨i, h, hB, hi0, hin, hR, hne⟩ := hC
  have hs := hR.small
  obtain ⟨x0, x1, x2⟩ := bx3 hB
  have f1 := hB.frozen 1
  have f2 := hB.frozen 2
  have hg := hB.lt
  by_cases hlt : i < (n : Int)
  · obtain ⟨k, rfl⟩ := Int.eq_ofNat_of_zero_le hi0
    have hkn : k < n := by omega
    obtain ⟨ad, rfl, _⟩ := hR.cells k hkn
    have hna := hne ad rfl (by omega)
    go_enter Tryz.func98, Tryz.ntmps98
    go_wp2_with fail
    refine wp_gen (fun W => ∃ h', Blk W g 169 #[.slice (some ad) n c, .int .i64 (k : Int), .int .i64 h'] ∧ Ob [g] w W) ⟨_, by simpa using hB.set_ 2 _, (Ob.refl _ w).set (by simp) _ _⟩ ?_
    clear x0 x1 x2 f1 f2 hB
    rintro W ⟨h', hB, hO⟩
    have hR := hR.ob hne hO
    go_region_held3 (fun w' => (w'.cell? ⟨g, 0, none⟩ = some (.slice (some ad) n c) ∧ w'.cell? ⟨g, 1, none⟩ = some (.int .i64 (k : Int)) ∧ w'.cell? ⟨g, 2, none⟩ = some (.int .i64 h'))) (first | exact bx3 (T := 169) (hB.bl slc)) (fail)
    obtain ⟨hx0, hx1⟩ := and255 (bits .xor .i64 (h' / 8589934592) (h' / 35184372088832))
    generalize bits .and .i64 (bits .xor .i64 (h' / 8589934592) (h' / 35184372088832)) 255 = x at *
    go_wp2_with fail
    go_region_held3 (fun w' => (w'.cell? ⟨g, 0, none⟩ = some (.slice (some ad) n c) ∧ w'.cell? ⟨g, 1, none⟩ = some (.int .i64 (k : Int)) ∧ w'.cell? ⟨g, 2, none⟩ = some (.int .i64 h'))) (first | exact bx3 (T := 169) (hB.bl slc)) (fail)
    obtain ⟨_, e, hlt2, hc, hb0, hb1⟩ := hR.cells k hkn
    cases e
    rw [Nat.mul_one] at hc
    generalize pix l k = y at hc hb0 hb1
    have hlt3 : (ad.add k).block < W.heap.size := by rw [block_add]; exact hlt2
    go_wp2_with fail
    go_region_held3 (fun w' => (w'.cell? ⟨g, 0, none⟩ = some (.slice (some ad) n c) ∧ w'.cell? ⟨g, 1, none⟩ = some (.int .i64 (k : Int)) ∧ w'.cell? ⟨g, 2, none⟩ = some (.int .i64 h')) ∧ w'.cell? (ad.add k) = some (.int .u8 y)) (first | exact ⟨bx3 (T := 169) (hB.bl slc), (Bl.cellOf (w := W) (p := ad.add k) slc hlt3).trans hc⟩) (fail)
    obtain ⟨hz0, hz1⟩ := and255 (IntKind.i64.wrap (x + IntKind.i64.wrap y))
    generalize bits .and .i64 (IntKind.i64.wrap (x + IntKind.i64.wrap y)) 255 = z at *
    obtain ⟨x0, x1, x2⟩ := bx3 hB
    have f1 := hB.frozen 1
    go_wp2_with fail
    go_ret
    have hC2 : Cur g (W.setCell ⟨g, 1, none⟩ (.int .i64 ((k : Int) + 1))) (some ad) n c l := ⟨(k : Int) + 1, h', by simpa using hB.set_ 1 (.int .i64 ((k : Int) + 1)), by omega, by omega, hR.ob hne ((Ob.refl [g] W).set (by simp) _ _), hne⟩
    have hO2 := hO.set (g := g) (by simp) 1 (.int .i64 ((k : Int) + 1))
    exact ⟨z, rfl, hz0, hz1, hC2.bl slc, hO2.trans (Ob.of_bl slc _)⟩
  · have hnlt : ¬ i < (n : Int) := hlt
    go_enter Tryz.func98, Tryz.ntmps98
    go_wp2_with fail
    refine wp_gen (fun W => ∃ h', Blk W g 169 #[.slice A n c, .int .i64 i, .int .i64 h'] ∧ Ob [g] w W) ⟨_, by simpa using hB.set_ 2 _, (Ob.refl _ w).set (by simp) _ _⟩ ?_
    clear x0 x1 x2 f1 f2 hB
    rintro W ⟨h', hB, hO⟩
    have hR := hR.ob hne hO
    go_region_held3 (fun w' => (w'.cell? ⟨g, 0, none⟩ = some (.slice A n c) ∧ w'.cell? ⟨g, 1, none⟩ = some (.int .i64 i) ∧ w'.cell? ⟨g, 2, none⟩ = some (.int .i64 h'))) (first | exact bx3 (T := 169) (hB.bl slc)) (fail)
    obtain ⟨hx0, hx1⟩ := and255 (bits .xor .i64 (h' / 8589934592) (h' / 35184372088832))
    generalize bits .and .i64 (bits .xor .i64 (h' / 8589934592) (h' / 35184372088832)) 255 = x at *
    go_wp2_with fail
    go_region_held3 (fun w' => (w'.cell? ⟨g, 0, none⟩ = some (.slice A n c) ∧ w'.cell? ⟨g, 1, none⟩ = some (.int .i64 i) ∧ w'.cell? ⟨g, 2, none⟩ = some (.int .i64 h'))) (first | exact bx3 (T := 169) (hB.bl slc)) (fail)
    go_wp2_with fail
    go_ret
    exact ⟨x, rfl, hx0, hx1, (show Cur g W A n c l from ⟨i, h', hB, hi0, hin, hR, hne⟩).bl slc, hO.trans (Ob.of_bl slc _)⟩
set_option maxHeartbeats 4000000 in
theorem l01Below_any (w : World) {g n c : Nat} {A : Option Addr} {l : List Int} (m : Int) (hm0 : 0 < m) (hm1 : m ≤ 256) (hC : Cur g w A n c l) :
    Calls Tryz.prog 117 #[.pointer (some ⟨g, 0, none⟩), .int .i64 m] w fun e w' => ∃ x : Int, e = .returned (.int .i64 x) ∧ 0 ≤ x ∧ x < m ∧ Cur g w' A n c l ∧ Ob [g] w w' := by
  have hm2 : ¬ m ≤ 0 := by omega
  have hm3 : ¬ m = 0 := by omega
  go_enter Tryz.func117, Tryz.ntmps117
  go_wp2_with fail
  refine (l01Byte_any _ hC).mono ?_
  rintro e w1 ⟨x, rfl, hx0, hx1, hC1, hO⟩
  have ht : x.tmod m = x % m := by rw [Int.tmod_eq_emod_of_nonneg hx0]
  have hx2 := Int.emod_nonneg x (show m ≠ 0 by omega)
  have hx3 := Int.emod_lt_of_pos x hm0
  go_wp2_with fail
  go_ret
  exact ⟨x % m, rfl, hx2, hx3, hC1, hO⟩
set_option maxHeartbeats 4000000 in
theorem l01New_any (w : World) {A : Option Addr} {n c : Nat} {l : List Int} (h : RdB w A n c l) :
    Calls Tryz.prog 113 #[.slice A n c] w fun e w' => ∃ g, e = .returned (.pointer (some ⟨g, 0, none⟩)) ∧ w.heap.size ≤ g ∧ Cur g w' A n c l ∧ Bl w w' := by
  have hn := h.small
  go_enter Tryz.func113, Tryz.ntmps113
  go_wp2_with fail
  go_loopw [3, 4] (fun v i wr => ∃ (k : Nat) (z : Int), k ≤ n ∧ k ≤ 4000 ∧ i = .int .i64 (k : Int) ∧ v = .int .i64 z ∧ Bl w wr) (fun _ i _ => n - (intOf i).toNat)
  case atStart => exact ⟨0, _, Nat.zero_le _, Nat.zero_le _, rfl, rfl, Bl.refl _⟩
  case round =>
    obtain ⟨k, z, hk, hk4, rfl, rfl, hbw⟩ := hrel
    by_cases hkn : k < n
    · have hki : (k : Int) < (n : Int) := by omega
      by_cases hk5 : k < 4000
      · have hki2 : (k : Int) < 4000 := by omega
        obtain ⟨ad, rfl, hlt, hc, hb0, hb1⟩ := (RdB.bl h hbw).cells k hkn
        rw [Nat.mul_one] at hc
        go_wp2_with fail
        go_roundw
        case rel => exact ⟨k + 1, _, by omega, by omega, by go_num, rfl, slc⟩
        case measure => simp [intOf]; omega
      · have hd1 : decide ((k : Int) < 4000) = false := by simp; omega
        go_wp2_with fail
        go_ret
        exact ⟨wr.heap.size, rfl, hbw.size, ⟨0, z, Blk.new _ _ _, by omega, by omega, RdB.bl h (hbw.alloc _), fun ad e hn0 => by subst e; obtain ⟨_, e, hl, _⟩ := h.cells 0 hn0; cases e; have := hbw.size; omega⟩, slc⟩
    · have hd2 : decide ((k : Int) < (n : Int)) = false := by simp; omega
      go_wp2_with fail
      go_ret
      exact ⟨wr.heap.size, rfl, hbw.size, ⟨0, z, Blk.new _ _ _, by omega, by omega, RdB.bl h (hbw.alloc _), fun ad e hn0 => by subst e; obtain ⟨_, e, hl, _⟩ := h.cells 0 hn0; cases e; have := hbw.size; omega⟩, slc⟩
set_option maxHeartbeats 4000000 in
theorem l31New_any (w : World) {A : Option Addr} {n c : Nat} {l : List Int} (m : Nat) (hm : m ≤ 1000) (h : RdB w A n c l) :
    Calls Tryz.prog 70 #[.slice A n c, .int .i64 (m : Int)] w fun e w' => ∃ g, e = .returned (.pointer (some ⟨g, 0, none⟩)) ∧ w.heap.size ≤ g ∧ Cur g w' A n c l ∧ Bl w w' := by
  go_enter Tryz.func70, Tryz.ntmps70
  go_wp2_with fail
  refine (l01New_any _ h).mono ?_
  rintro e w1 ⟨g, rfl, hg, hC, hb1⟩
  go_wp2_with fail
  go_loopw [6] (fun i wr => ∃ k : Nat, k ≤ m ∧ i = .int .i64 (k : Int) ∧ Cur g wr A n c l ∧ Bl w wr) (fun i _ => m - (intOf i).toNat)
  case atStart => exact ⟨0, Nat.zero_le _, rfl, hC, hb1⟩
  case round =>
    clear hC hb1
    obtain ⟨k, hk, rfl, hC, hbw⟩ := hrel
    by_cases hkm : k < m
    · have hki : (k : Int) < (m : Int) := by omega
      go_wp2_with fail
      refine (l01Byte_any _ hC).mono ?_
      rintro e w2 ⟨x, rfl, -, -, hC2, hO⟩
      have hb2 := hbw.ob hO (fun b hb => by simp at hb; omega)
      go_wp2_with fail
      go_roundw
      case rel => exact ⟨k + 1, by omega, by go_num, hC2, hb2⟩
      case measure => simp [intOf]; omega
    · obtain rfl : k = m := by omega
      go_wp2_with fail
      go_ret
      exact ⟨g, rfl, hg, hC, hbw⟩
end

section
open Go.RowKit
end

section
open Go.RowKit
end

section
open Go.RowKit
end

section
open Go.RowKit

/-- A fraction, none of it in block g. -/
def OwE (T : TypeId) (g : Nat) (w : World) (s : Bool) (A : Option Addr) (n c : Nat) (B : Option Addr) (m d : Nat) (r : RatD) : Prop :=
  ∃ bs, FtR T w s A n c B m d r bs ∧ ∀ b ∈ bs, b ≠ g
section
variable {T : TypeId} {b0 g : Nat} {w W : World} {s : Bool} {A : Option Addr} {n c : Nat} {B : Option Addr} {m d : Nat} {r : RatD}
theorem OwE.rd (h : OwE T g w s A n c B m d r) : RdR w s A n c B m d r := by
  obtain ⟨bs, h, _⟩ := h
  exact h.rd
theorem OwE.bl (h : OwE T g w s A n c B m d r) (hb : Bl w W) : OwE T g W s A n c B m d r := by
  obtain ⟨bs, h, hf⟩ := h
  exact ⟨bs, h.bl hb, hf⟩
theorem OwE.set (h : OwE T g w s A n c B m d r) (i : Nat) (u : Value) : OwE T g (w.setCell ⟨g, i, none⟩ u) s A n c B m d r := by
  obtain ⟨bs, h, hf⟩ := h
  exact ⟨bs, h.keep (by simp) (fun b hb => Below.heap_setCell w _ u b (hf b hb)), hf⟩
theorem OwQ.exc (h : OwQ T b0 w s A n c B m d r) (hb : Bl w W) : OwE T w.heap.size W s A n c B m d r := by
  obtain ⟨bs, h, hf⟩ := h
  exact ⟨bs, h.bl hb, fun b hm => by have := (hf _ hm).2; omega⟩
theorem OwQ.exc2 (h : OwQ T b0 w s A n c B m d r) (hg : g < b0) : OwE T g w s A n c B m d r := by
  obtain ⟨bs, h, hf⟩ := h
  exact ⟨bs, h, fun b hm => by have := (hf _ hm).1; omega⟩
theorem Blk.fz3 {a b c : Value} {T : TypeId} (h : Blk W g T #[a, b, c]) : W.frozen? ⟨g, 0, none⟩ = false ∧ W.frozen? ⟨g, 1, none⟩ = false ∧ W.frozen? ⟨g, 2, none⟩ = false := ⟨h.frozen 0, h.frozen 1, h.frozen 2⟩
end
theorem Wk.put6 {W : World} {g : Nat} {T : TypeId} (h : Wk 6 T g W) (a b c a' b' c' : Value) : Blk ((((((W.setCell ⟨g, 0, none⟩ a).setCell ⟨g, 1, none⟩ b).setCell ⟨g, 2, none⟩ c).setCell ⟨g, 3, none⟩ a').setCell ⟨g, 4, none⟩ b').setCell ⟨g, 5, none⟩ c') g T #[a, b, c, a', b', c'] := by
  obtain ⟨⟨l⟩, h1, h2⟩ := h
  have h3 := (((((h1.set_ 0 a).set_ 1 b).set_ 2 c).set_ 3 a').set_ 4 b').set_ 5 c'
  rcases l with _ | ⟨u, _ | ⟨v, _ | ⟨x, _ | ⟨y, _ | ⟨z, _ | ⟨t, _ | ⟨q, l⟩⟩⟩⟩⟩⟩⟩ <;> simp at h2
  exact h3
end

section
open Go.RowKit

theorem FtI.neT {T TP : TypeId} {w : World} {A : Option Addr} {n c k g : Nat} {l : List Int} {bs : List Nat} (h : FtI T w A n c l bs) (hk : Wk k TP g w) (hne : T ≠ TP) : ∀ b ∈ bs, b ≠ g := by
  intro b hm e
  subst e
  obtain ⟨cs', h1, _⟩ := hk
  rcases h.2 with ⟨_, e2⟩ | ⟨g', cs, _, _, hh, _, e2⟩
  · rw [e2] at hm; cases hm
  · rw [e2] at hm
    simp at hm
    subst hm
    have h3 : w.heap[b]? = some (.cells cs' TP (0, 0)) := h1
    rw [hh] at h3
    injection h3 with h3
    injection h3 with _ h3
    exact hne h3
theorem FtR.neT {T TP : TypeId} {w : World} {s : Bool} {A : Option Addr} {n c : Nat} {B : Option Addr} {m d k g : Nat} {r : RatD} {bs : List Nat} (h : FtR T w s A n c B m d r bs) (hk : Wk k TP g w) (hne : T ≠ TP) : ∀ b ∈ bs, b ≠ g := by
  obtain ⟨_, b1, b2, h1, h2, rfl⟩ := h
  intro b hb
  rcases List.mem_append.1 hb with hb | hb
  · exact h1.neT hk hne b hb
  · exact h2.neT hk hne b hb
theorem OwP.setT {T TP : TypeId} {b0 g k : Nat} {w : World} {s : Bool} {A : Option Addr} {n c : Nat} {B : Option Addr} {m d : Nat} {t : Bool} {C : Option Addr} {i e : Nat} {D : Option Addr} {j f : Nat} {p : PtD} (h : OwP T b0 w s A n c B m d t C i e D j f p) (hk : Wk k TP g w) (hne : T ≠ TP) (i0 : Nat) (u : Value) : OwP T b0 (w.setCell ⟨g, i0, none⟩ u) s A n c B m d t C i e D j f p := by
  obtain ⟨c1, c2, h1, h2, hf⟩ := h
  exact ⟨c1, c2, h1.keep (by simp) (fun b hb => Below.heap_setCell w _ u b (h1.neT hk hne b hb)), h2.keep (by simp) (fun b hb => Below.heap_setCell w _ u b (h2.neT hk hne b hb)), hf.mono (Nat.le_refl _) (by simp)⟩
theorem OwP.put6 {T TP : TypeId} {b0 g k : Nat} {w : World} {s : Bool} {A : Option Addr} {n c : Nat} {B : Option Addr} {m d : Nat} {t : Bool} {C : Option Addr} {i e : Nat} {D : Option Addr} {j f : Nat} {p : PtD} (h : OwP T b0 w s A n c B m d t C i e D j f p) (hk : Wk k TP g w) (hne : T ≠ TP) (u0 u1 u2 u3 u4 u5 : Value) :
    OwP T b0 ((((((w.setCell ⟨g, 0, none⟩ u0).setCell ⟨g, 1, none⟩ u1).setCell ⟨g, 2, none⟩ u2).setCell ⟨g, 3, none⟩ u3).setCell ⟨g, 4, none⟩ u4).setCell ⟨g, 5, none⟩ u5) s A n c B m d t C i e D j f p :=
  (((((h.setT hk hne 0 u0).setT (hk.set 0 u0) hne 1 u1).setT ((hk.set 0 u0).set 1 u1) hne 2 u2).setT (((hk.set 0 u0).set 1 u1).set 2 u2) hne 3 u3).setT ((((hk.set 0 u0).set 1 u1).set 2 u2).set 3 u3) hne 4 u4).setT (((((hk.set 0 u0).set 1 u1).set 2 u2).set 3 u3).set 4 u4) hne 5 u5
theorem ne_ip : (3 : TypeId) ≠ 31 := by decide
/-- The gradient that belongs to a corner, where j and k are the two others, and D is twice the area. -/
noncomputable def gradR (D : RatD) (j k : PtD) : PtD := ⟨divR (subR j.y k.y) D, divR (subR k.x j.x) D⟩
noncomputable def grad3 (p0 p1 p2 : PtD) : Nat → PtD
  | 0 => gradR (dblA p0 p1 p2) p1 p2
  | 1 => gradR (dblA p0 p1 p2) p2 p0
  | _ + 2 => gradR (dblA p0 p1 p2) p0 p1
def GradOk (p0 p1 p2 : PtD) (k : Nat) : Prop := ∀ j, j < k → OkP (grad3 p0 p1 p2 j)
theorem GradOk.step {p0 p1 p2 : PtD} {k : Nat} (h : GradOk p0 p1 p2 k) (h0 : OkP (grad3 p0 p1 p2 k)) : GradOk p0 p1 p2 (k + 1) := by
  intro j hj
  rcases Nat.lt_succ_iff_lt_or_eq.1 hj with hj | rfl
  · exact h j hj
  · exact h0
end

end Go.Proofs.YtajlahjghapbkaaGreat
