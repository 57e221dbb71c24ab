/- Lemmas. -/
import Derived.Test.YtajlahjghapbkaaGreatRows
import Derived.Test.YtajlahjghapbkaaGreatPTrianglesM32
import Derived.Test.YtajlahjghapbkaaGreatPTrianglesM31
namespace Go.Proofs.YtajlahjghapbkaaGreat
section
open Go.RowKit
theorem step_append_rowX {P : Program} {α : Type} [Inhabited α] {N : List Nat → Prop} (hN : AppN N) {size bytes : Nat} {El : World → Array Value → Nat → α → List Nat → Prop} (hk : KeepE size El) {TP t : TypeId} {z : Value}
    (hinfo : (P.info? TP).map (fun i => (i.zero, i.size, i.bytes)) = some (some z, size, bytes)) (hzs : z.cells.size = size) (hsz : 0 < size) (hby : bytes ≤ 4096) (ht : P.underlying t = some (.slice TP))
    {W : World} {news : Array Value} {p : α} {bs : List Nat} {lo hi : Nat} {l : List α} {ops : Array Oper} {o : Oper} {a : Act} {K : Act → World → Prop} {Q : Exit → Act → World → Prop} {F : Prop} (hgd : o.guard = none) (s x : Operand)
    (ho : o.op = .call { callee := .builtin .append, args := #[s, x], argTypes := #[t, t] }) (v : Value) (hs : a.eval s = v) (hrow : RowG N TP size El lo hi W v l)
    (hel : El W news 0 p bs) (hnl : news.size = size) (h1 : ∀ u ∈ news.toList, u.oneCell' = true) (hbs : ∀ b ∈ bs, hi ≤ b ∧ b < W.heap.size) (hNb : N bs) (hlh : lo ≤ hi)
    (c : Nat) (hx : a.eval x = .slice (some ⟨W.heap.size, 0, none⟩) 1 c) (hlen : l.length ≤ 1048576) (w0 : World) (hb : Bl w0 W) (h0 : w0.heap.size ≤ lo)
    (h : ∀ v' w', RowG N TP size El lo w'.heap.size w' v' (l ++ [p]) → Bl w0 w' → (v' = .slice none 0 0 → False) → (∀ g, g < W.heap.size → v.ownBlock ≠ some g → w'.heap[g]? = W.heap[g]? ∧ v'.ownBlock ≠ some g) → K (a.put o.dst v') w') : if Region.wanted o (yielded ops a.tmps) = true then Oper.wp P o a (W.alloc (.cells news TP)) K Q else F := by
  have hw : Region.wanted o (yielded ops a.tmps) = true := by simp [Region.wanted, hgd]
  rw [if_pos hw]
  obtain ⟨i0, hi0, hz0, hz1, hz2⟩ := info_parts hinfo
  obtain ⟨cells, fs, r1, r2, r3, r4, r5, r6, r7⟩ := hrow
  have ro := World.ownsRow.alloc r1 (.cells news TP)
  have hnew : (W.alloc (.cells news TP)).heap[W.heap.size]? = some (.cells news TP (0, 0)) := heap_alloc_new W _
  have hsz2 : (W.alloc (.cells news TP)).heap.size = W.heap.size + 1 := by simp
  have hm : (l.length + 1) * bytes ≤ 140737488355328 := Nat.le_trans (Nat.mul_le_mul (show l.length + 1 ≤ 1048577 by omega) hby) (by omega)
  obtain ⟨v', w', hrun, g1, g2, g3, g4⟩ := run_append_own_at (P := P) (W.alloc (.cells news TP)) lo t o.type TP i0 z size bytes ht hi0 hz0 hz1 hz2 hzs hsz v l.length cells ro ⟨W.heap.size, 0, none⟩ 1 c news.toList (by simpa using hnl) (World.news_of_block hnew) h1 (by unfold maxLen; omega) hm (by omega)
  unfold Oper.wp execOp
  simp only [ho, resolve, invoke, builtin, Sem.run_bind, Sem.run_pure, Result.andThen_ok, List.map_toArray, List.map_cons, List.map_nil, hs, hx, hrun]
  have hne : v' ≠ .slice none 0 0 := fun e => by have := (g3.1 e).2; omega
  have hws := g2.size
  have hold : ∀ b, b < W.heap.size → v.ownBlock ≠ some b → w'.heap[b]? = W.heap[b]? := fun b hb1 hb2 => (g2.block b (by omega) (fun e => hb2 e.symm)).trans (Below.heap_alloc W _ b hb1)
  have hown : ∀ b, v'.ownBlock = some b → (v.ownBlock = some b ∨ b = W.heap.size + 1) := by
    intro b e
    rcases g4 with g4 | g4
    · exact .inl (by rw [← g4]; exact e)
    · rw [g4] at e; injection e with e; right; omega
  have hvl : ∀ b, v'.ownBlock = some b → lo ≤ b ∧ b < w'.heap.size := fun b e => by have := World.ownsRow.lt g1 b e; exact this
  refine h v' w' ⟨cells ++ news.toList, fs ++ [bs], by simpa using g1, fun g e => (hvl g e).2, by simp [r3], fun i hi' => ?_, fun b hm' => ?_, ?_, Nat.le_refl _⟩ ((hb.alloc _).grown g2 (fun k e => by have := (World.ownsRow.lt r1 k e).1; omega)) hne (fun g hg hn => ⟨hold g hg hn, fun e => by rcases hown g e with e | e; exact hn e; omega⟩)
  · have hcl := r1.1
    rw [List.length_append, List.length_singleton] at hi'
    rcases Nat.lt_succ_iff_lt_or_eq.1 hi' with hi' | rfl
    · rw [pix_append_left hi', pix_append_left (by rw [r3]; exact hi')]
      refine hk _ _ _ _ _ _ _ _ (r4 i hi') (fun j hj => ?_) (by omega) fun b hb' => ?_
      · have : i * size + j < cells.length := by
          rw [hcl]
          have : (i + 1) * size ≤ l.length * size := Nat.mul_le_mul_right _ hi'
          rw [Nat.succ_mul] at this
          omega
        simp [List.getElem?_append_left this]
      · have := r5 b (mem_flatten_pix hb')
        exact hold b (by omega) this.2.2
    · rw [pix_append_last, pixs_last r3]
      refine hk _ _ _ _ _ _ _ _ hel (fun j hj => ?_) (by omega) fun b hb' => ?_
      · have : (cells ++ news.toList)[l.length * size + j]? = news.toList[j]? := by
          rw [List.getElem?_append_right (by rw [hcl]; omega), hcl]
          congr 1; omega
        simpa using this
      · have := hbs b hb'
        exact hold b this.2 fun e => by have := r2 b e; omega
  · rw [List.flatten_append, List.mem_append] at hm'
    rcases hm' with hm' | hm'
    · have := r5 b hm'
      refine ⟨this.1, by omega, fun e => ?_⟩
      rcases hown b e with e | e
      · exact this.2.2 e
      · omega
    · have := hbs b (by simpa using hm')
      refine ⟨by omega, by omega, fun e => ?_⟩
      rcases hown b e with e | e
      · have := r2 b e; omega
      · omega
  · rw [List.flatten_append]
    refine hN.2 _ _ r6 (by simpa using hNb) fun x hx' y hy e => ?_
    have a1 := r5 x hx'
    have a2 := hbs y (by simpa using hy)
    omega
theorem step_append_ratX {W : World} {s : Bool} {A : Option Addr} {n c : Nat} {B : Option Addr} {m d : Nat} {p : RatD} {lo hi b0 : Nat} {l : List RatD} {ops : Array Oper} {o : Oper} {a : Act} {K : Act → World → Prop} {Q : Exit → Act → World → Prop} {F : Prop} (hgd : o.guard = none) (s1 x1 : Operand)
    (ho : o.op = .call { callee := .builtin .append, args := #[s1, x1], argTypes := #[33, 33] }) (v : Value) (hs : a.eval s1 = v) (hrow : RowR List.Nodup lo hi W v l)
    (hpt : OwR 3 b0 W s A n c B m d p) (hb0 : hi ≤ b0) (hlh : lo ≤ hi) (c1 : Nat) (hx : a.eval x1 = .slice (some ⟨W.heap.size, 0, none⟩) 1 c1) (hlen : l.length ≤ 1048576) (w0 : World) (hb : Bl w0 W) (h0 : w0.heap.size ≤ lo)
    (h : ∀ v' w', RowR List.Nodup lo w'.heap.size w' v' (l ++ [p]) → Bl w0 w' → (∀ g, g < W.heap.size → v.ownBlock ≠ some g → w'.heap[g]? = W.heap[g]? ∧ v'.ownBlock ≠ some g) → K (a.put o.dst v') w') : if Region.wanted o (yielded ops a.tmps) = true then Oper.wp Tryz.prog o a (W.alloc (.cells #[.bool s, .slice A n c, .slice B m d] 29)) K Q else F := by
  obtain ⟨bs, f1, f2⟩ := hpt
  exact step_append_rowX appN_nodup (rtIn_keep 3) info_rat (by rfl) (by omega) (by omega) Tryz.underlying33 hgd s1 x1 ho v hs hrow (p := p) (bs := bs) ⟨_, _, _, _, _, _, _, ⟨rfl, rfl, rfl⟩, f1⟩ rfl (by simp [Value.oneCell']) (fun b hm => ⟨Nat.le_trans hb0 (f2.2 b hm).1, (f2.2 b hm).2⟩) f2.1 hlh c1 hx hlen w0 hb h0 fun v' w' g1 g2 _ g4 => h v' w' g1 g2 g4
theorem step_append_ptX {N : List Nat → Prop} (hN : AppN N) {W : World} {s : Bool} {A : Option Addr} {n c : Nat} {B : Option Addr} {m d : Nat} {t : Bool} {C : Option Addr} {i e : Nat} {D : Option Addr} {j f : Nat} {p : PtD} {lo hi b0 : Nat} {l : List PtD} {ops : Array Oper} {o : Oper} {a : Act} {K : Act → World → Prop} {Q : Exit → Act → World → Prop} {F : Prop} (hgd : o.guard = none) (s1 x1 : Operand)
    (ho : o.op = .call { callee := .builtin .append, args := #[s1, x1], argTypes := #[23, 23] }) (v : Value) (hs : a.eval s1 = v) (hrow : RowP N lo hi W v l)
    (hpt : OwPN N 3 b0 W s A n c B m d t C i e D j f p) (hb0 : hi ≤ b0) (hlh : lo ≤ hi) (c1 : Nat) (hx : a.eval x1 = .slice (some ⟨W.heap.size, 0, none⟩) 1 c1) (hlen : l.length ≤ 1048576) (w0 : World) (hb : Bl w0 W) (h0 : w0.heap.size ≤ lo)
    (h : ∀ v' w', RowP N lo w'.heap.size w' v' (l ++ [p]) → Bl w0 w' → (∀ g, g < W.heap.size → v.ownBlock ≠ some g → w'.heap[g]? = W.heap[g]? ∧ v'.ownBlock ≠ some g) → K (a.put o.dst v') w') : if Region.wanted o (yielded ops a.tmps) = true then Oper.wp Tryz.prog o a (W.alloc (.cells #[.bool s, .slice A n c, .slice B m d, .bool t, .slice C i e, .slice D j f] 31)) K Q else F := by
  obtain ⟨b1, b2, f1, f2, f3, f4⟩ := hpt
  refine step_append_rowX hN (ptIn_keep 3) info_pt (by rfl) (by omega) (by omega) Tryz.underlying23 hgd s1 x1 ho v hs hrow (p := p) (bs := b1 ++ b2) ⟨_, _, _, _, _, _, _, _, _, _, _, _, _, _, b1, b2, ⟨rfl, rfl, rfl, rfl, rfl, rfl⟩, f1, f2, rfl⟩ rfl (by simp [Value.oneCell']) (fun b hm => ⟨Nat.le_trans hb0 (f3 b hm).1, (f3 b hm).2⟩) f4 hlh c1 hx hlen w0 hb h0 fun v' w' g1 g2 _ g4 => h v' w' g1 g2 g4

def TrsE (_ : World) (cs : Array Value) (i : Nat) (t : TriD) (bs : List Nat) : Prop := TrIn cs i t ∧ bs = []
theorem trIn_keep : KeepE 5 TrsE := by
  intro w W cs cs' i i' x bs h hc hs hb
  obtain ⟨⟨h0, h1, h2, h3, h4⟩, e⟩ := h
  exact ⟨⟨(hc 0 (by omega)).trans h0, (hc 1 (by omega)).trans h1, (hc 2 (by omega)).trans h2, (hc 3 (by omega)).trans h3, (hc 4 (by omega)).trans h4⟩, e⟩
abbrev RowT (lo hi : Nat) (w : World) (v : Value) (l : List TriD) : Prop := RowG AnyN 73 5 TrsE lo hi w v l
theorem info_tri' : (Tryz.prog.info? 73).map (fun i => (i.zero, i.size, i.bytes)) = some (some (.agg #[.int .i64 0, .int .i64 0, .int .i64 0, .int .i64 0, .int .i64 0]), 5, 40) := by kernel_rfl
theorem step_append_triX {W : World} {ta tb tc tr tv : Int} {lo hi : Nat} {l : List TriD} {ops : Array Oper} {o : Oper} {a : Act} {K : Act → World → Prop} {Q : Exit → Act → World → Prop} {F : Prop} (hgd : o.guard = none) (s1 x1 : Operand)
    (ho : o.op = .call { callee := .builtin .append, args := #[s1, x1], argTypes := #[55, 55] }) (v : Value) (hs : a.eval s1 = v) (hrow : RowT lo hi W v l)
    (hlh : lo ≤ hi) (c1 : Nat) (hx : a.eval x1 = .slice (some ⟨W.heap.size, 0, none⟩) 1 c1) (hlen : l.length ≤ 1048576) (w0 : World) (hb : Bl w0 W) (h0 : w0.heap.size ≤ lo)
    (h : ∀ v' w', RowT lo w'.heap.size w' v' (l ++ [⟨ta, tb, tc, tr, tv⟩]) → Bl w0 w' → (∀ g, g < W.heap.size → v.ownBlock ≠ some g → w'.heap[g]? = W.heap[g]? ∧ v'.ownBlock ≠ some g) → K (a.put o.dst v') w') : if Region.wanted o (yielded ops a.tmps) = true then Oper.wp Tryz.prog o a (W.alloc (.cells #[.int .i64 ta, .int .i64 tb, .int .i64 tc, .int .i64 tr, .int .i64 tv] 73)) K Q else F :=
  step_append_rowX appN_any trIn_keep info_tri' (by rfl) (by omega) (by omega) Tryz.underlying55 hgd s1 x1 ho v hs hrow (p := ⟨ta, tb, tc, tr, tv⟩) (bs := []) ⟨⟨rfl, rfl, rfl, rfl, rfl⟩, rfl⟩ rfl (by simp [Value.oneCell']) (fun b hm => by cases hm) trivial hlh c1 hx hlen w0 hb h0 fun v' w' g1 g2 _ g4 => h v' w' g1 g2 g4
theorem wpList_append_triX {W : World} {ta tb tc tr tv : Int} {lo hi : Nat} {l : List TriD} {ops : Array Oper} {rest : List Oper} {o : Oper} {a : Act} {Q : Exit → Act → World → Prop} (hgd : o.guard = none) (s1 x1 : Operand)
    (ho : o.op = .call { callee := .builtin .append, args := #[s1, x1], argTypes := #[55, 55] }) (v : Value) (hs : a.eval s1 = v) (hrow : RowT lo hi W v l)
    (hlh : lo ≤ hi) (c1 : Nat) (hx : a.eval x1 = .slice (some ⟨W.heap.size, 0, none⟩) 1 c1) (hlen : l.length ≤ 1048576) (w0 : World) (hb : Bl w0 W) (h0 : w0.heap.size ≤ lo)
    (h : ∀ v' w', RowT lo w'.heap.size w' v' (l ++ [⟨ta, tb, tc, tr, tv⟩]) → Bl w0 w' → (∀ g, g < W.heap.size → v.ownBlock ≠ some g → w'.heap[g]? = W.heap[g]? ∧ v'.ownBlock ≠ some g) → wpList Tryz.prog ops Q rest (a.put o.dst v') w') : wpList Tryz.prog ops Q (o :: rest) a (W.alloc (.cells #[.int .i64 ta, .int .i64 tb, .int .i64 tc, .int .i64 tr, .int .i64 tv] 73)) :=
  wpList_append_rowX appN_any trIn_keep info_tri' (by rfl) (by omega) (by omega) Tryz.underlying55 hgd s1 x1 ho v hs hrow (p := ⟨ta, tb, tc, tr, tv⟩) (bs := []) ⟨⟨rfl, rfl, rfl, rfl, rfl⟩, rfl⟩ rfl (by simp [Value.oneCell']) (fun b hm => by cases hm) trivial hlh c1 hx hlen w0 hb h0 fun v' w' g1 g2 _ g4 => h v' w' g1 g2 g4
/-- A row's block differs from all blocks from hi on. -/
theorem RowG.ne {α : Type} [Inhabited α] {N : List Nat → Prop} {TP : TypeId} {size lo hi : Nat} {El : World → Array Value → Nat → α → List Nat → Prop} {w : World} {v : Value} {l : List α} (h : RowG N TP size El lo hi w v l) {g : Nat} (hg : hi ≤ g) : v.ownBlock ≠ Option.some g := by
  obtain ⟨_, _, _, h2, _⟩ := h
  intro e
  have := h2 g e
  omega
theorem Blk.oth {g : Nat} {T : TypeId} {cs : Array Value} {v v' : Value} {W w' : World} (h : Blk W g T cs) (ho : ∀ g, g < W.heap.size → v.ownBlock ≠ Option.some g → w'.heap[g]? = W.heap[g]? ∧ v'.ownBlock ≠ Option.some g) (hv : v.ownBlock ≠ Option.some g) : Blk w' g T cs :=
  (ho g h.lt hv).1.trans h
end

section
open Go.RowKit

theorem mulR_z (r s : RatD) : mulR r s = zR ∨ OkR (mulR r s) := by
  unfold mulR
  split
  · rename_i h
    exact ofFrac_ok (Nat.mul_pos h.1.get.2.1 h.2.get.2.1)
  · exact .inl rfl
theorem mulR_24 (r s : RatD) : (mulR r s).mag.length ≤ 24 ∧ (mulR r s).den.length ≤ 24 := by
  unfold mulR
  split
  · exact len24_ofFrac _ _
  · exact len24_zR
noncomputable def stifV (D : RatD) (G : List PtD) (i j : Nat) : RatD := mulR D (innP (pix G i) (pix G j))
noncomputable def stifRow (D : RatD) (G : List PtD) (i k : Nat) : List RatD := (List.range k).map (stifV D G i)
noncomputable def stifTo (D : RatD) (G : List PtD) (k : Nat) : List (List RatD) := (List.range k).map fun i => stifRow D G i 3
open Classical in
/-- The stiffness matrix of a proper corner list. -/
noncomputable def stifP (p0 p1 p2 : PtD) : List (List RatD) := if GradOk p0 p1 p2 3 then sqIf (stifTo (areaR p0 p1 p2) (gradTo p0 p1 p2 3) 3) else []
noncomputable def stifL (l : List PtD) : List (List RatD) := if propB l = true then stifP (pix l 0) (pix l 1) (pix l 2) else []
theorem stifRow_succ (D : RatD) (G : List PtD) (i k : Nat) : stifRow D G i (k + 1) = stifRow D G i k ++ [stifV D G i k] := by unfold stifRow; rw [List.range_succ, List.map_append]; rfl
theorem stifRow_len (D : RatD) (G : List PtD) (i k : Nat) : (stifRow D G i k).length = k := by simp [stifRow]
theorem stifTo_succ (D : RatD) (G : List PtD) (k : Nat) : stifTo D G (k + 1) = stifTo D G k ++ [stifRow D G k 3] := by unfold stifTo; rw [List.range_succ, List.map_append]; rfl
theorem stifTo_len (D : RatD) (G : List PtD) (k : Nat) : (stifTo D G k).length = k := by simp [stifTo]
theorem stifTo_z (D : RatD) (G : List PtD) : ZOk (stifTo D G 3) := by
  intro i hi
  rw [stifTo_len] at hi
  have e : pix (stifTo D G 3) i = stifRow D G i 3 := by simp [pix, stifTo, hi]
  rw [e, stifRow_len]
  refine ⟨by omega, fun j hj => ?_⟩
  have e2 : pix (stifRow D G i 3) j = stifV D G i j := by simp [pix, stifRow, hj]
  rw [e2]
  exact mulR_z _ _
theorem stifL_sz (l : List PtD) : (stifL l).length ≤ 8 ∧ ∀ i, i < (stifL l).length → szL szR (pix (stifL l) i) ≤ 1048576 := by
  have h0 : (([] : List (List RatD)).length ≤ 8 ∧ ∀ i, i < ([] : List (List RatD)).length → szL szR (pix ([] : List (List RatD)) i) ≤ 1048576) := ⟨Nat.zero_le _, fun i hi => by simp at hi⟩
  have h1 : ∀ D G, (stifTo D G 3).length ≤ 8 ∧ ∀ i, i < (stifTo D G 3).length → szL szR (pix (stifTo D G 3) i) ≤ 1048576 := by
    intro D G
    rw [stifTo_len]
    refine ⟨by omega, fun i hi => ?_⟩
    have e : pix (stifTo D G 3) i = stifRow D G i 3 := by simp [pix, stifTo, hi]
    rw [e]
    refine szL_24 (by rw [stifRow_len]; omega) fun j hj => ?_
    rw [stifRow_len] at hj
    have e2 : pix (stifRow D G i 3) j = stifV D G i j := by simp [pix, stifRow, hj]
    rw [e2]
    exact mulR_24 _ _
  unfold stifL stifP sqIf
  split
  · split
    · split
      · exact h1 _ _
      · exact h0
    · exact h0
  · exact h0
end

section
open Go.RowKit

section
variable {x0 y0 x1 y1 x2 y2 : Rat}
/-- Six small coordinates. -/
def Sm6 (x0 y0 x1 y1 x2 y2 : Rat) : Prop := Bd 17 x0 ∧ Bd 17 y0 ∧ Bd 17 x1 ∧ Bd 17 y1 ∧ Bd 17 x2 ∧ Bd 17 y2
def gX (x0 y0 x1 y1 x2 y2 : Rat) : Nat → Rat
  | 0 => (y1 - y2) / detQ x0 y0 x1 y1 x2 y2
  | 1 => (y2 - y0) / detQ x0 y0 x1 y1 x2 y2
  | _ => (y0 - y1) / detQ x0 y0 x1 y1 x2 y2
def gY (x0 y0 x1 y1 x2 y2 : Rat) : Nat → Rat
  | 0 => (x2 - x1) / detQ x0 y0 x1 y1 x2 y2
  | 1 => (x0 - x2) / detQ x0 y0 x1 y1 x2 y2
  | _ => (x1 - x0) / detQ x0 y0 x1 y1 x2 y2
def arQ (x0 y0 x1 y1 x2 y2 : Rat) : Rat := mkRat 1 2 * detQ x0 y0 x1 y1 x2 y2
def kQ (x0 y0 x1 y1 x2 y2 : Rat) (i j : Nat) : Rat := arQ x0 y0 x1 y1 x2 y2 * (gX x0 y0 x1 y1 x2 y2 i * gX x0 y0 x1 y1 x2 y2 j + gY x0 y0 x1 y1 x2 y2 i * gY x0 y0 x1 y1 x2 y2 j)
theorem half_sm : ofFrac 1 2 = toR (mkRat 1 2) ∧ Bd 2 (mkRat 1 2) := by
  have hb : Bd 2 (mkRat 1 2) := bd_mk (by omega) (by decide) (by omega)
  refine ⟨?_, hb⟩
  rw [ofFrac_toR 1 (by omega), if_pos (hb.fit (by decide))]
theorem area_toP (h : Sm6 x0 y0 x1 y1 x2 y2) : areaR (toP x0 y0) (toP x1 y1) (toP x2 y2) = toR (arQ x0 y0 x1 y1 x2 y2) ∧ Bd 446448476224 (arQ x0 y0 x1 y1 x2 y2) := by
  obtain ⟨a0, b0, a1, b1, a2, b2⟩ := h
  obtain ⟨e, hd⟩ := dblA_toP a0 b0 a1 b1 a2 b2
  obtain ⟨e2, hh⟩ := half_sm
  have ha : Bd 446448476224 (arQ x0 y0 x1 y1 x2 y2) := (hh.mul hd).mono (by decide)
  refine ⟨?_, ha⟩
  unfold areaR
  rw [e, e2, mulR_toR (hh.fit (by decide)) (hd.fit (by decide)) (ha.fit (by decide))]
  rfl
theorem det_pos (h : Sm6 x0 y0 x1 y1 x2 y2) (hp : propB [toP x0 y0, toP x1 y1, toP x2 y2] = true) : 0 < detQ x0 y0 x1 y1 x2 y2 := by
  obtain ⟨a0, b0, a1, b1, a2, b2⟩ := h
  obtain ⟨_, a, b, c, e, hs⟩ := propB_out hp
  injection e with q1 e
  injection e with q2 e
  injection e with q3 e
  subst q1 q2 q3
  obtain ⟨e, hd⟩ := dblA_toP a0 b0 a1 b1 a2 b2
  rw [e, sgnR_toR (hd.fit (by decide))] at hs
  by_cases h1 : detQ x0 y0 x1 y1 x2 y2 < 0
  · rw [if_pos h1] at hs; omega
  · rw [if_neg h1] at hs
    by_cases h2 : 0 < detQ x0 y0 x1 y1 x2 y2
    · exact h2
    · rw [if_neg h2] at hs; omega
theorem gX_bd (h : Sm6 x0 y0 x1 y1 x2 y2) (i : Nat) : Bd 129023609628736 (gX x0 y0 x1 y1 x2 y2 i) := by
  obtain ⟨a0, b0, a1, b1, a2, b2⟩ := h
  have hd := (dblA_toP a0 b0 a1 b1 a2 b2).2
  unfold gX
  split
  · exact ((b1.sub b2).div hd).mono (by decide)
  · exact ((b2.sub b0).div hd).mono (by decide)
  · exact ((b0.sub b1).div hd).mono (by decide)
theorem gY_bd (h : Sm6 x0 y0 x1 y1 x2 y2) (i : Nat) : Bd 129023609628736 (gY x0 y0 x1 y1 x2 y2 i) := by
  obtain ⟨a0, b0, a1, b1, a2, b2⟩ := h
  have hd := (dblA_toP a0 b0 a1 b1 a2 b2).2
  unfold gY
  split
  · exact ((a2.sub a1).div hd).mono (by decide)
  · exact ((a0.sub a2).div hd).mono (by decide)
  · exact ((a1.sub a0).div hd).mono (by decide)
theorem kQ_bd (h : Sm6 x0 y0 x1 y1 x2 y2) (i j : Nat) : Bd 247444663316207752276429486686767784207440241737649251473746053562368 (kQ x0 y0 x1 y1 x2 y2 i j) :=
  ((area_toP h).2.mul (((gX_bd h i).mul (gX_bd h j)).add ((gY_bd h i).mul (gY_bd h j)))).mono (by decide)
theorem gradR_toP {a b c d e f : Rat} (h1 : Bd 17 a) (h2 : Bd 17 b) (h3 : Bd 17 c) (h4 : Bd 17 d) (hd : Bd 223224238112 e) (h0 : e ≠ 0) (hf : f = e) : gradR (toR f) (toP a b) (toP c d) = toP ((b - d) / e) ((c - a) / e) := by
  subst hf
  have s1 : Bd 578 (b - d) := (h2.sub h4).mono (by decide)
  have s2 : Bd 578 (c - a) := (h3.sub h1).mono (by decide)
  have t1 : Bd 129023609628736 ((b - d) / f) := (s1.div hd).mono (by decide)
  have t2 : Bd 129023609628736 ((c - a) / f) := (s2.div hd).mono (by decide)
  unfold gradR
  rw [show (toP a b).x = toR a from rfl, show (toP a b).y = toR b from rfl, show (toP c d).x = toR c from rfl, show (toP c d).y = toR d from rfl,
    subR_toR (h2.fit (by decide)) (h4.fit (by decide)) (s1.fit (by decide)), subR_toR (h3.fit (by decide)) (h1.fit (by decide)) (s2.fit (by decide)),
    divR_toR (s1.fit (by decide)) (hd.fit (by decide)) h0 (t1.fit (by decide)), divR_toR (s2.fit (by decide)) (hd.fit (by decide)) h0 (t2.fit (by decide))]
  rfl
theorem grad3_toP (h : Sm6 x0 y0 x1 y1 x2 y2) (hp : 0 < detQ x0 y0 x1 y1 x2 y2) (i : Nat) : grad3 (toP x0 y0) (toP x1 y1) (toP x2 y2) i = toP (gX x0 y0 x1 y1 x2 y2 i) (gY x0 y0 x1 y1 x2 y2 i) := by
  have h' := h
  obtain ⟨a0, b0, a1, b1, a2, b2⟩ := h'
  obtain ⟨e, hd⟩ := dblA_toP a0 b0 a1 b1 a2 b2
  have h0 : detQ x0 y0 x1 y1 x2 y2 ≠ 0 := by grind
  rcases i with _ | _ | i
  · unfold grad3 gX gY
    rw [e]
    exact gradR_toP a1 b1 a2 b2 hd h0 rfl
  · unfold grad3 gX gY
    rw [e]
    exact gradR_toP a2 b2 a0 b0 hd h0 rfl
  · unfold grad3 gX gY
    rw [e]
    exact gradR_toP a0 b0 a1 b1 hd h0 rfl
theorem gradOk_toP (h : Sm6 x0 y0 x1 y1 x2 y2) (hp : 0 < detQ x0 y0 x1 y1 x2 y2) (k : Nat) : GradOk (toP x0 y0) (toP x1 y1) (toP x2 y2) k := by
  intro j _
  rw [grad3_toP h hp]
  exact ⟨((gX_bd h j).fit (by decide)).ok, ((gY_bd h j).fit (by decide)).ok⟩
theorem pix_gradTo (p q r : PtD) {k i : Nat} (h : i < k) : pix (gradTo p q r k) i = grad3 p q r i := by simp [pix, gradTo, h]
theorem stifV_toP (h : Sm6 x0 y0 x1 y1 x2 y2) (hp : 0 < detQ x0 y0 x1 y1 x2 y2) {i j : Nat} (hi : i < 3) (hj : j < 3) :
    stifV (areaR (toP x0 y0) (toP x1 y1) (toP x2 y2)) (gradTo (toP x0 y0) (toP x1 y1) (toP x2 y2) 3) i j = toR (kQ x0 y0 x1 y1 x2 y2 i j) := by
  obtain ⟨e, ha⟩ := area_toP h
  have m1 : Bd 16647091841628457051756957696 (gX x0 y0 x1 y1 x2 y2 i * gX x0 y0 x1 y1 x2 y2 j) := ((gX_bd h i).mul (gX_bd h j)).mono (by decide)
  have m2 : Bd 16647091841628457051756957696 (gY x0 y0 x1 y1 x2 y2 i * gY x0 y0 x1 y1 x2 y2 j) := ((gY_bd h i).mul (gY_bd h j)).mono (by decide)
  have m3 : Bd 554251333567225467597678577236061128152585627891067256832 (gX x0 y0 x1 y1 x2 y2 i * gX x0 y0 x1 y1 x2 y2 j + gY x0 y0 x1 y1 x2 y2 i * gY x0 y0 x1 y1 x2 y2 j) := (m1.add m2).mono (by decide)
  unfold stifV
  rw [pix_gradTo _ _ _ hi, pix_gradTo _ _ _ hj, grad3_toP h hp, grad3_toP h hp, e]
  unfold innP
  rw [show ∀ a b : Rat, (toP a b).x = toR a from fun _ _ => rfl, show ∀ a b : Rat, (toP a b).y = toR b from fun _ _ => rfl, show ∀ a b : Rat, (toP a b).x = toR a from fun _ _ => rfl, show ∀ a b : Rat, (toP a b).y = toR b from fun _ _ => rfl,
    mulR_toR ((gX_bd h i).fit (by decide)) ((gX_bd h j).fit (by decide)) (m1.fit (by decide)), mulR_toR ((gY_bd h i).fit (by decide)) ((gY_bd h j).fit (by decide)) (m2.fit (by decide)), addR_toR (m1.fit (by decide)) (m2.fit (by decide)) (m3.fit (by decide)), mulR_toR (ha.fit (by decide)) (m3.fit (by decide)) ((kQ_bd h i j).fit (by decide))]
  rfl
theorem kQ_sym (i j : Nat) : kQ x0 y0 x1 y1 x2 y2 i j = kQ x0 y0 x1 y1 x2 y2 j i := by unfold kQ; grind
theorem kQ_sum (i : Nat) : kQ x0 y0 x1 y1 x2 y2 i 0 + kQ x0 y0 x1 y1 x2 y2 i 1 + kQ x0 y0 x1 y1 x2 y2 i 2 = 0 := by
  have e1 : gX x0 y0 x1 y1 x2 y2 0 + gX x0 y0 x1 y1 x2 y2 1 + gX x0 y0 x1 y1 x2 y2 2 = 0 := by simp only [gX]; grind
  have e2 : gY x0 y0 x1 y1 x2 y2 0 + gY x0 y0 x1 y1 x2 y2 1 + gY x0 y0 x1 y1 x2 y2 2 = 0 := by simp only [gY]; grind
  unfold kQ
  generalize gX x0 y0 x1 y1 x2 y2 0 = u0 at *
  generalize gX x0 y0 x1 y1 x2 y2 1 = u1 at *
  generalize gX x0 y0 x1 y1 x2 y2 2 = u2 at *
  generalize gY x0 y0 x1 y1 x2 y2 0 = v0 at *
  generalize gY x0 y0 x1 y1 x2 y2 1 = v1 at *
  generalize gY x0 y0 x1 y1 x2 y2 2 = v2 at *
  generalize gX x0 y0 x1 y1 x2 y2 i = u at *
  generalize gY x0 y0 x1 y1 x2 y2 i = v at *
  have : arQ x0 y0 x1 y1 x2 y2 * (u * u0 + v * v0) + arQ x0 y0 x1 y1 x2 y2 * (u * u1 + v * v1) + arQ x0 y0 x1 y1 x2 y2 * (u * u2 + v * v2) = arQ x0 y0 x1 y1 x2 y2 * (u * (u0 + u1 + u2) + v * (v0 + v1 + v2)) := by grind
  rw [this, e1, e2]
  grind
end
end

end Go.Proofs.YtajlahjghapbkaaGreat
