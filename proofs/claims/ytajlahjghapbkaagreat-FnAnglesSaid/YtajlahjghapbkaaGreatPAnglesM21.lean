/- Lemmas. -/
import Derived.Test.YtajlahjghapbkaaGreatRows
import Derived.Test.YtajlahjghapbkaaGreatPAnglesM20
import Derived.Test.YtajlahjghapbkaaGreatPAnglesM13
import Derived.Test.YtajlahjghapbkaaGreatPAnglesM02
import Derived.Test.YtajlahjghapbkaaGreatPAnglesM08
import Derived.Test.YtajlahjghapbkaaGreatPAnglesM01
import Derived.Test.YtajlahjghapbkaaGreatPAnglesM14
namespace Go.Proofs.YtajlahjghapbkaaGreat
section
open Go.RowKit
theorem step_append_rowX {P : Program} {α : Type} [Inhabited α] {N : List Nat → Prop} (hN : AppN N) {size bytes : Nat} {El : World → Array Value → Nat → α → List Nat → Prop} (hk : KeepE size El) {TP t : TypeId} {z : Value}
    (hinfo : (P.info? TP).map (fun i => (i.zero, i.size, i.bytes)) = some (some z, size, bytes)) (hzs : z.cells.size = size) (hsz : 0 < size) (hby : bytes ≤ 4096) (ht : P.underlying t = some (.slice TP))
    {W : World} {news : Array Value} {p : α} {bs : List Nat} {lo hi : Nat} {l : List α} {ops : Array Oper} {o : Oper} {a : Act} {K : Act → World → Prop} {Q : Exit → Act → World → Prop} {F : Prop} (hgd : o.guard = none) (s x : Operand)
    (ho : o.op = .call { callee := .builtin .append, args := #[s, x], argTypes := #[t, t] }) (v : Value) (hs : a.eval s = v) (hrow : RowG N TP size El lo hi W v l)
    (hel : El W news 0 p bs) (hnl : news.size = size) (h1 : ∀ u ∈ news.toList, u.oneCell' = true) (hbs : ∀ b ∈ bs, hi ≤ b ∧ b < W.heap.size) (hNb : N bs) (hlh : lo ≤ hi)
    (c : Nat) (hx : a.eval x = .slice (some ⟨W.heap.size, 0, none⟩) 1 c) (hlen : l.length ≤ 1048576) (w0 : World) (hb : Bl w0 W) (h0 : w0.heap.size ≤ lo)
    (h : ∀ v' w', RowG N TP size El lo w'.heap.size w' v' (l ++ [p]) → Bl w0 w' → (v' = .slice none 0 0 → False) → (∀ g, g < W.heap.size → v.ownBlock ≠ some g → w'.heap[g]? = W.heap[g]? ∧ v'.ownBlock ≠ some g) → K (a.put o.dst v') w') : if Region.wanted o (yielded ops a.tmps) = true then Oper.wp P o a (W.alloc (.cells news TP)) K Q else F := by
  have hw : Region.wanted o (yielded ops a.tmps) = true := by simp [Region.wanted, hgd]
  rw [if_pos hw]
  obtain ⟨i0, hi0, hz0, hz1, hz2⟩ := info_parts hinfo
  obtain ⟨cells, fs, r1, r2, r3, r4, r5, r6, r7⟩ := hrow
  have ro := World.ownsRow.alloc r1 (.cells news TP)
  have hnew : (W.alloc (.cells news TP)).heap[W.heap.size]? = some (.cells news TP (0, 0)) := heap_alloc_new W _
  have hsz2 : (W.alloc (.cells news TP)).heap.size = W.heap.size + 1 := by simp
  have hm : (l.length + 1) * bytes ≤ 140737488355328 := Nat.le_trans (Nat.mul_le_mul (show l.length + 1 ≤ 1048577 by omega) hby) (by omega)
  obtain ⟨v', w', hrun, g1, g2, g3, g4⟩ := run_append_own_at (P := P) (W.alloc (.cells news TP)) lo t o.type TP i0 z size bytes ht hi0 hz0 hz1 hz2 hzs hsz v l.length cells ro ⟨W.heap.size, 0, none⟩ 1 c news.toList (by simpa using hnl) (World.news_of_block hnew) h1 (by unfold maxLen; omega) hm (by omega)
  unfold Oper.wp execOp
  simp only [ho, resolve, invoke, builtin, Sem.run_bind, Sem.run_pure, Result.andThen_ok, List.map_toArray, List.map_cons, List.map_nil, hs, hx, hrun]
  have hne : v' ≠ .slice none 0 0 := fun e => by have := (g3.1 e).2; omega
  have hws := g2.size
  have hold : ∀ b, b < W.heap.size → v.ownBlock ≠ some b → w'.heap[b]? = W.heap[b]? := fun b hb1 hb2 => (g2.block b (by omega) (fun e => hb2 e.symm)).trans (Below.heap_alloc W _ b hb1)
  have hown : ∀ b, v'.ownBlock = some b → (v.ownBlock = some b ∨ b = W.heap.size + 1) := by
    intro b e
    rcases g4 with g4 | g4
    · exact .inl (by rw [← g4]; exact e)
    · rw [g4] at e; injection e with e; right; omega
  have hvl : ∀ b, v'.ownBlock = some b → lo ≤ b ∧ b < w'.heap.size := fun b e => by have := World.ownsRow.lt g1 b e; exact this
  refine h v' w' ⟨cells ++ news.toList, fs ++ [bs], by simpa using g1, fun g e => (hvl g e).2, by simp [r3], fun i hi' => ?_, fun b hm' => ?_, ?_, Nat.le_refl _⟩ ((hb.alloc _).grown g2 (fun k e => by have := (World.ownsRow.lt r1 k e).1; omega)) hne (fun g hg hn => ⟨hold g hg hn, fun e => by rcases hown g e with e | e; exact hn e; omega⟩)
  · have hcl := r1.1
    rw [List.length_append, List.length_singleton] at hi'
    rcases Nat.lt_succ_iff_lt_or_eq.1 hi' with hi' | rfl
    · rw [pix_append_left hi', pix_append_left (by rw [r3]; exact hi')]
      refine hk _ _ _ _ _ _ _ _ (r4 i hi') (fun j hj => ?_) (by omega) fun b hb' => ?_
      · have : i * size + j < cells.length := by
          rw [hcl]
          have : (i + 1) * size ≤ l.length * size := Nat.mul_le_mul_right _ hi'
          rw [Nat.succ_mul] at this
          omega
        simp [List.getElem?_append_left this]
      · have := r5 b (mem_flatten_pix hb')
        exact hold b (by omega) this.2.2
    · rw [pix_append_last, pixs_last r3]
      refine hk _ _ _ _ _ _ _ _ hel (fun j hj => ?_) (by omega) fun b hb' => ?_
      · have : (cells ++ news.toList)[l.length * size + j]? = news.toList[j]? := by
          rw [List.getElem?_append_right (by rw [hcl]; omega), hcl]
          congr 1; omega
        simpa using this
      · have := hbs b hb'
        exact hold b this.2 fun e => by have := r2 b e; omega
  · rw [List.flatten_append, List.mem_append] at hm'
    rcases hm' with hm' | hm'
    · have := r5 b hm'
      refine ⟨this.1, by omega, fun e => ?_⟩
      rcases hown b e with e | e
      · exact this.2.2 e
      · omega
    · have := hbs b (by simpa using hm')
      refine ⟨by omega, by omega, fun e => ?_⟩
      rcases hown b e with e | e
      · have := r2 b e; omega
      · omega
  · rw [List.flatten_append]
    refine hN.2 _ _ r6 (by simpa using hNb) fun x hx' y hy e => ?_
    have a1 := r5 x hx'
    have a2 := hbs y (by simpa using hy)
    omega
theorem step_append_ptX {N : List Nat → Prop} (hN : AppN N) {W : World} {s : Bool} {A : Option Addr} {n c : Nat} {B : Option Addr} {m d : Nat} {t : Bool} {C : Option Addr} {i e : Nat} {D : Option Addr} {j f : Nat} {p : PtD} {lo hi b0 : Nat} {l : List PtD} {ops : Array Oper} {o : Oper} {a : Act} {K : Act → World → Prop} {Q : Exit → Act → World → Prop} {F : Prop} (hgd : o.guard = none) (s1 x1 : Operand)
    (ho : o.op = .call { callee := .builtin .append, args := #[s1, x1], argTypes := #[23, 23] }) (v : Value) (hs : a.eval s1 = v) (hrow : RowP N lo hi W v l)
    (hpt : OwPN N 3 b0 W s A n c B m d t C i e D j f p) (hb0 : hi ≤ b0) (hlh : lo ≤ hi) (c1 : Nat) (hx : a.eval x1 = .slice (some ⟨W.heap.size, 0, none⟩) 1 c1) (hlen : l.length ≤ 1048576) (w0 : World) (hb : Bl w0 W) (h0 : w0.heap.size ≤ lo)
    (h : ∀ v' w', RowP N lo w'.heap.size w' v' (l ++ [p]) → Bl w0 w' → (∀ g, g < W.heap.size → v.ownBlock ≠ some g → w'.heap[g]? = W.heap[g]? ∧ v'.ownBlock ≠ some g) → K (a.put o.dst v') w') : if Region.wanted o (yielded ops a.tmps) = true then Oper.wp Tryz.prog o a (W.alloc (.cells #[.bool s, .slice A n c, .slice B m d, .bool t, .slice C i e, .slice D j f] 31)) K Q else F := by
  obtain ⟨b1, b2, f1, f2, f3, f4⟩ := hpt
  refine step_append_rowX hN (ptIn_keep 3) info_pt (by rfl) (by omega) (by omega) Tryz.underlying23 hgd s1 x1 ho v hs hrow (p := p) (bs := b1 ++ b2) ⟨_, _, _, _, _, _, _, _, _, _, _, _, _, _, b1, b2, ⟨rfl, rfl, rfl, rfl, rfl, rfl⟩, f1, f2, rfl⟩ rfl (by simp [Value.oneCell']) (fun b hm => ⟨Nat.le_trans hb0 (f3 b hm).1, (f3 b hm).2⟩) f4 hlh c1 hx hlen w0 hb h0 fun v' w' g1 g2 _ g4 => h v' w' g1 g2 g4

def TrsE (_ : World) (cs : Array Value) (i : Nat) (t : TriD) (bs : List Nat) : Prop := TrIn cs i t ∧ bs = []
theorem trIn_keep : KeepE 5 TrsE := by
  intro w W cs cs' i i' x bs h hc hs hb
  obtain ⟨⟨h0, h1, h2, h3, h4⟩, e⟩ := h
  exact ⟨⟨(hc 0 (by omega)).trans h0, (hc 1 (by omega)).trans h1, (hc 2 (by omega)).trans h2, (hc 3 (by omega)).trans h3, (hc 4 (by omega)).trans h4⟩, e⟩
abbrev RowT (lo hi : Nat) (w : World) (v : Value) (l : List TriD) : Prop := RowG AnyN 73 5 TrsE lo hi w v l
theorem info_tri' : (Tryz.prog.info? 73).map (fun i => (i.zero, i.size, i.bytes)) = some (some (.agg #[.int .i64 0, .int .i64 0, .int .i64 0, .int .i64 0, .int .i64 0]), 5, 40) := by kernel_rfl
/-- A row's block differs from all blocks from hi on. -/
theorem RowG.ne {α : Type} [Inhabited α] {N : List Nat → Prop} {TP : TypeId} {size lo hi : Nat} {El : World → Array Value → Nat → α → List Nat → Prop} {w : World} {v : Value} {l : List α} (h : RowG N TP size El lo hi w v l) {g : Nat} (hg : hi ≤ g) : v.ownBlock ≠ Option.some g := by
  obtain ⟨_, _, _, h2, _⟩ := h
  intro e
  have := h2 g e
  omega
theorem Blk.oth {g : Nat} {T : TypeId} {cs : Array Value} {v v' : Value} {W w' : World} (h : Blk W g T cs) (ho : ∀ g, g < W.heap.size → v.ownBlock ≠ Option.some g → w'.heap[g]? = W.heap[g]? ∧ v'.ownBlock ≠ Option.some g) (hv : v.ownBlock ≠ Option.some g) : Blk w' g T cs :=
  (ho g h.lt hv).1.trans h
end

section
open Go.RowKit
end

section
open Go.RowKit

section
variable {x0 y0 x1 y1 x2 y2 : Rat}
/-- Six small coordinates. -/
def Sm6 (x0 y0 x1 y1 x2 y2 : Rat) : Prop := Bd 17 x0 ∧ Bd 17 y0 ∧ Bd 17 x1 ∧ Bd 17 y1 ∧ Bd 17 x2 ∧ Bd 17 y2
def arQ (x0 y0 x1 y1 x2 y2 : Rat) : Rat := mkRat 1 2 * detQ x0 y0 x1 y1 x2 y2
theorem half_sm : ofFrac 1 2 = toR (mkRat 1 2) ∧ Bd 2 (mkRat 1 2) := by
  have hb : Bd 2 (mkRat 1 2) := bd_mk (by omega) (by decide) (by omega)
  refine ⟨?_, hb⟩
  rw [ofFrac_toR 1 (by omega), if_pos (hb.fit (by decide))]
theorem area_toP (h : Sm6 x0 y0 x1 y1 x2 y2) : areaR (toP x0 y0) (toP x1 y1) (toP x2 y2) = toR (arQ x0 y0 x1 y1 x2 y2) ∧ Bd 446448476224 (arQ x0 y0 x1 y1 x2 y2) := by
  obtain ⟨a0, b0, a1, b1, a2, b2⟩ := h
  obtain ⟨e, hd⟩ := dblA_toP a0 b0 a1 b1 a2 b2
  obtain ⟨e2, hh⟩ := half_sm
  have ha : Bd 446448476224 (arQ x0 y0 x1 y1 x2 y2) := (hh.mul hd).mono (by decide)
  refine ⟨?_, ha⟩
  unfold areaR
  rw [e, e2, mulR_toR (hh.fit (by decide)) (hd.fit (by decide)) (ha.fit (by decide))]
  rfl
end
end

section
open Go.RowKit

section
variable {x0 y0 x1 y1 x2 y2 : Rat}
/-- Differences of points that are not so small. -/
theorem subP_gen {x y u v : Rat} (hx : Bd 19652 x) (hy : Bd 19652 y) (hu : Bd 19652 u) (hv : Bd 19652 v) : subP (toP x y) (toP u v) = toP (x - u) (y - v) ∧ Bd 772402208 (x - u) ∧ Bd 772402208 (y - v) := by
  have h1 : Bd 772402208 (x - u) := (hx.sub hu).mono (by decide)
  have h2 : Bd 772402208 (y - v) := (hy.sub hv).mono (by decide)
  refine ⟨?_, h1, h2⟩
  unfold subP
  rw [show (toP x y).x = toR x from rfl, show (toP u v).x = toR u from rfl, show (toP x y).y = toR y from rfl, show (toP u v).y = toR v from rfl,
    subR_toR (hx.fit (by decide)) (hu.fit (by decide)) (h1.fit (by decide)), subR_toR (hy.fit (by decide)) (hv.fit (by decide)) (h2.fit (by decide))]
  exact ifP_toP (h1.fit (by decide)) (h2.fit (by decide))
theorem dblA_gen {x0 y0 x1 y1 x2 y2 : Rat} (a0 : Bd 19652 x0) (b0 : Bd 19652 y0) (a1 : Bd 19652 x1) (b1 : Bd 19652 y1) (a2 : Bd 19652 x2) (b2 : Bd 19652 y2) :
    dblA (toP x0 y0) (toP x1 y1) (toP x2 y2) = toR (detQ x0 y0 x1 y1 x2 y2) ∧ Bd 711875459944780985046933946228539392 (detQ x0 y0 x1 y1 x2 y2) := by
  obtain ⟨e1, h1, h2⟩ := subP_gen a1 b1 a0 b0
  obtain ⟨e2, h3, h4⟩ := subP_gen a2 b2 a0 b0
  have m1 : Bd 596605170923275264 ((x1 - x0) * (y2 - y0)) := (h1.mul h4).mono (by decide)
  have m2 : Bd 596605170923275264 ((y1 - y0) * (x2 - x0)) := (h2.mul h3).mono (by decide)
  have m3 : Bd 711875459944780985046933946228539392 (detQ x0 y0 x1 y1 x2 y2) := (m1.sub m2).mono (by decide)
  refine ⟨?_, m3⟩
  unfold dblA
  rw [e1, e2]
  unfold crossP
  rw [show (toP (x1 - x0) (y1 - y0)).x = toR (x1 - x0) from rfl, show (toP (x1 - x0) (y1 - y0)).y = toR (y1 - y0) from rfl, show (toP (x2 - x0) (y2 - y0)).x = toR (x2 - x0) from rfl, show (toP (x2 - x0) (y2 - y0)).y = toR (y2 - y0) from rfl,
    mulR_toR (h1.fit (by decide)) (h4.fit (by decide)) (m1.fit (by decide)), mulR_toR (h2.fit (by decide)) (h3.fit (by decide)) (m2.fit (by decide)), subR_toR (m1.fit (by decide)) (m2.fit (by decide)) (m3.fit (by decide))]
  rfl
theorem sgn_toR {N : Nat} {q : Rat} (h : Bd N q) (hN : N < Bs ^ 24) : (0 < sgnR (toR q)) ↔ 0 < q := by
  rw [sgnR_toR (h.fit hN)]
  by_cases h1 : q < 0
  · rw [if_pos h1]
    constructor
    · intro h; omega
    · intro h; exfalso; grind
  · rw [if_neg h1]
    by_cases h2 : 0 < q
    · rw [if_pos h2]; exact ⟨fun _ => h2, fun _ => by omega⟩
    · rw [if_neg h2]; exact ⟨fun h => by omega, fun h => absurd h h2⟩
theorem okP_toP {N : Nat} {x y : Rat} (hx : Bd N x) (hy : Bd N y) (hN : N < Bs ^ 24) : OkP (toP x y) := ⟨(hx.fit hN).ok, (hy.fit hN).ok⟩
theorem propB_gen {x0 y0 x1 y1 x2 y2 : Rat} (a0 : Bd 19652 x0) (b0 : Bd 19652 y0) (a1 : Bd 19652 x1) (b1 : Bd 19652 y1) (a2 : Bd 19652 x2) (b2 : Bd 19652 y2) (h : 0 < detQ x0 y0 x1 y1 x2 y2) : propB [toP x0 y0, toP x1 y1, toP x2 y2] = true := by
  obtain ⟨e, hd⟩ := dblA_gen a0 b0 a1 b1 a2 b2
  refine propB_yes ⟨?_, _, _, _, rfl, by rw [e]; exact (sgn_toR hd (by decide)).2 h⟩
  intro k hk
  simp only [List.length_cons, List.length_nil] at hk
  rcases (show k = 0 ∨ k = 1 ∨ k = 2 by omega) with rfl | rfl | rfl
  · exact okP_toP a0 b0 (by decide)
  · exact okP_toP a1 b1 (by decide)
  · exact okP_toP a2 b2 (by decide)
theorem sq_nn (x : Rat) : 0 ≤ x * x := by
  rcases Rat.le_total (a := 0) (b := x) with h | h
  · exact Rat.mul_nonneg h h
  · have h1 : 0 ≤ -x := by grind
    have h2 := Rat.mul_nonneg h1 h1
    grind
theorem sq_zero {x : Rat} (h : x * x ≤ 0) : x = 0 := by
  have h1 := sq_nn x
  have h2 : x * x = 0 := by grind
  rcases Rat.mul_eq_zero.1 h2 with h | h <;> exact h
/-- The longest side of a triangle is greater than twice its area. -/
theorem long_gt {a b c e L : Rat} (hd : 0 < a * e - b * c) (h1 : a * a + b * b ≤ L) (h2 : c * c + e * e ≤ L) (h3 : (c - a) * (c - a) + (e - b) * (e - b) ≤ L) : a * e - b * c < L := by
  have hX := sq_nn (a - e)
  have hY := sq_nn (b + c)
  rcases Rat.le_total (a := L) (b := a * e - b * c) with h | h
  · exfalso
    have s : (a - e) * (a - e) + (b + c) * (b + c) = (a * a + b * b) + (c * c + e * e) - 2 * (a * e - b * c) := by grind
    have x0 := sq_zero (x := a - e) (by grind)
    have y0 := sq_zero (x := b + c) (by grind)
    have q1 : a = e := by grind
    have q2 : c = -b := by grind
    subst q1 q2
    grind
  · rcases Rat.le_iff_lt_or_eq.1 h with h | h
    · exact h
    · exfalso
      have s : (a - e) * (a - e) + (b + c) * (b + c) = (a * a + b * b) + (c * c + e * e) - 2 * (a * e - b * c) := by grind
      have x0 := sq_zero (x := a - e) (by grind)
      have y0 := sq_zero (x := b + c) (by grind)
      have q1 : a = e := by grind
      have q2 : c = -b := by grind
      subst q1 q2
      grind
def sdQ (x0 y0 x1 y1 : Rat) : Rat := (x1 - x0) * (x1 - x0) + (y1 - y0) * (y1 - y0)
theorem side_toP {x0 y0 x1 y1 : Rat} (a0 : Bd 17 x0) (b0 : Bd 17 y0) (a1 : Bd 17 x1) (b1 : Bd 17 y1) : sideR (toP x0 y0) (toP x1 y1) = toR (sdQ x0 y0 x1 y1) ∧ Bd 223224238112 (sdQ x0 y0 x1 y1) := by
  obtain ⟨e1, h1, h2⟩ := subP_toP a1 b1 a0 b0
  have m1 : Bd 334084 ((x1 - x0) * (x1 - x0)) := (h1.mul h1).mono (by decide)
  have m2 : Bd 334084 ((y1 - y0) * (y1 - y0)) := (h2.mul h2).mono (by decide)
  have m3 : Bd 223224238112 (sdQ x0 y0 x1 y1) := (m1.add m2).mono (by decide)
  refine ⟨?_, m3⟩
  unfold sideR innP
  rw [e1, show (toP (x1 - x0) (y1 - y0)).x = toR (x1 - x0) from rfl, show (toP (x1 - x0) (y1 - y0)).y = toR (y1 - y0) from rfl,
    mulR_toR (h1.fit (by decide)) (h1.fit (by decide)) (m1.fit (by decide)), mulR_toR (h2.fit (by decide)) (h2.fit (by decide)) (m2.fit (by decide)), addR_toR (m1.fit (by decide)) (m2.fit (by decide)) (m3.fit (by decide))]
  rfl
end
end

section
open Go.RowKit

instance : Inhabited (Rat × Rat) := ⟨(0, 0)⟩
def tp (p : Rat × Rat) : PtD := ⟨toR p.1, toR p.2⟩
theorem pix_map {l : List (Rat × Rat)} {k : Nat} (h : k < l.length) : pix (l.map tp) k = tp (pix l k) := by simp [pix, h]
/-- A fraction of one limb. -/
def SmQ (q : Rat) : Prop := q.num.natAbs < 1000000000 ∧ q.den < 1000000000
instance (q : Rat) : Decidable (SmQ q) := by unfold SmQ; infer_instance
theorem SmQ.mag {q : Rat} (h : SmQ q) : (toR q).mag.length ≤ 1 := by
  show (ints (dig q.num.natAbs)).length ≤ 1
  rw [ints_len]
  exact dig_len_le.2 (by simpa [Bs] using h.1)
theorem SmQ.den {q : Rat} (h : SmQ q) : (toR q).den.length = 1 := by
  show (ints (dig q.den)).length = 1
  rw [ints_len]
  have h1 : (dig q.den).length ≤ 1 := dig_len_le.2 (by simpa [Bs] using h.2)
  have h2 : 0 < (dig q.den).length := dig_len_pos.2 q.den_pos
  omega
theorem SmQ.fit {q : Rat} (h : SmQ q) : Fit q := ⟨Nat.lt_trans h.1 (by decide), Nat.lt_trans h.2 (by decide)⟩
/-- The sign of a turn. -/
def trn (xs ys : List Int) (a b c : Int) : Int :=
  cmpZ ((ix xs b.toNat - ix xs a.toNat) * (ix ys c.toNat - ix ys a.toNat) - (ix ys b.toNat - ix ys a.toNat) * (ix xs c.toNat - ix xs a.toNat)) 0
def PlB (n : Nat) (xs ys : List Int) : Prop := ∀ k, k < n → -536870912 ≤ ix xs k ∧ ix xs k ≤ 536870912 ∧ -536870912 ≤ ix ys k ∧ ix ys k ≤ 536870912
theorem mul_bd {a b : Int} (h1 : -1073741824 ≤ a) (h2 : a ≤ 1073741824) (h3 : -1073741824 ≤ b) (h4 : b ≤ 1073741824) : -1152921504606846976 ≤ a * b ∧ a * b ≤ 1152921504606846976 := by
  have h : (a * b).natAbs ≤ 1073741824 * 1073741824 := by
    rw [Int.natAbs_mul]
    exact Nat.mul_le_mul (by omega) (by omega)
  omega
theorem rdi_lit {w : World} {g n c : Nat} {l : List Int} (h : RdI w (some ⟨g, 0, none⟩) n c l) {k : Nat} (hk : k < n) : w.cell? ⟨g, k, none⟩ = some (.int .i64 (ix l k)) := by
  obtain ⟨_, e, _, hc⟩ := h.cells k hk
  cases e
  rw [Addr.add_lit, Nat.zero_add] at hc
  exact hc
theorem bx5 {W : World} {g : Nat} {T : TypeId} {a b c d e : Value} (h : Blk W g T #[a, b, c, d, e]) : W.cell? ⟨g, 0, none⟩ = some a ∧ W.cell? ⟨g, 1, none⟩ = some b ∧ W.cell? ⟨g, 2, none⟩ = some c ∧ W.cell? ⟨g, 3, none⟩ = some d ∧ W.cell? ⟨g, 4, none⟩ = some e := ⟨h.cell 0, h.cell 1, h.cell 2, h.cell 3, h.cell 4⟩
end

section
open Go.RowKit

/-- Two lists are equal up to place k. -/
def eqTo (a b : List Int) : Nat → Bool
  | 0 => true
  | k + 1 => eqTo a b k && (ix a k == ix b k)
def eqL (a b : List Int) : Bool := a == b

theorem eqTo_step {xs ys : List Int} {k : Nat} (h : eqTo xs ys k = true) (he : ix xs k = ix ys k) : eqTo xs ys (k + 1) = true := by simp [eqTo, h, he]
theorem eqTo_iff {xs ys : List Int} {k : Nat} : eqTo xs ys k = true ↔ ∀ i, i < k → ix xs i = ix ys i := by
  induction k with
  | zero => simp [eqTo]
  | succ k ih =>
    simp only [eqTo, Bool.and_eq_true, ih, beq_iff_eq]
    constructor
    · rintro ⟨h1, h2⟩ i hi
      rcases Nat.lt_succ_iff_lt_or_eq.1 hi with h | rfl
      · exact h1 i h
      · exact h2
    · intro h
      exact ⟨fun i hi => h i (by omega), h k (by omega)⟩
theorem eqL_same {xs ys : List Int} (h : xs.length = ys.length) : eqL xs ys = eqTo xs ys xs.length := by
  rw [Bool.eq_iff_iff, eqTo_iff]
  unfold eqL
  rw [beq_iff_eq]
  constructor
  · rintro rfl i _; rfl
  · intro hh
    apply List.ext_getElem h
    intro i h1 h2
    have := hh i h1
    simpa [ix, h1, h2] using this
theorem eqL_no {xs ys : List Int} {k : Nat} (_h : xs.length = ys.length) (_hk : k < xs.length) (he : ¬ ix xs k = ix ys k) : eqL xs ys = false := by
  unfold eqL
  rw [beq_eq_false_iff_ne]
  rintro rfl
  exact he rfl
theorem eqL_len {xs ys : List Int} (h : ¬ xs.length = ys.length) : eqL xs ys = false := by
  unfold eqL
  rw [beq_eq_false_iff_ne]
  rintro rfl
  exact h rfl

set_option maxHeartbeats 1600000 in
theorem Equal_int (w : World) {A B : Option Addr} {n m c d : Nat} {xs ys : List Int} (ha : RdI w A n c xs) (hb : RdI w B m d ys) :
    Calls Tryz.prog 81 #[.slice A n c, .slice B m d] w fun e w' => e = .returned (.bool (eqL xs ys)) ∧ ∃ q, w' = w.drewN q := by
  have hna := ha.small
  have hnb := hb.small
  by_cases hnm : n = m
  · subst hnm
    have heq := Lib.hid (eqL_same (ha.len.trans hb.len.symm)); rw [ha.len] at heq
    go_enter Tryz.func81, Tryz.ntmps81
    go_wp2
    go_loopw [13] (fun i wr => ∃ k : Nat, k ≤ n ∧ i = .int .i64 (k : Int) ∧ Hid (eqTo xs ys k = true) ∧ ∃ q, wr = w.drewN q) (fun i _ => n - (intOf i).toNat)
    case atStart => exact ⟨0, Nat.zero_le _, rfl, rfl, (by first | exact ⟨_, rfl⟩ | exact ⟨0, rfl⟩ | exact q_drewN ⟨_, rfl⟩ | exact q_drewN (q_drewN ⟨_, rfl⟩))⟩
    case round =>
      obtain ⟨k, hk, rfl, hto, q, rfl⟩ := hrel
      by_cases hkn : k < n
      · obtain ⟨ad, rfl, hlta, hca⟩ := ha.at_ hkn
        obtain ⟨bd, rfl, hltb, hcb⟩ := hb.at_ hkn
        have hki : (k : Int) < (n : Int) := by omega
        by_cases he : ix xs k = ix ys k
        · have hs := Lib.hid (eqTo_step hto.out he); clear hto
          have hbeq : (ix xs k != ix ys k) = false := by simp [he]
          clear he
          go_wp2
          go_quiet (fail)
          go_wp2
          go_roundw
          case rel => exact ⟨k + 1, by omega, by go_num, hs, (by first | exact ⟨_, rfl⟩ | exact ⟨0, rfl⟩ | exact q_drewN ⟨_, rfl⟩ | exact q_drewN (q_drewN ⟨_, rfl⟩))⟩
          case measure => simp [intOf]; omega
        · have hs := Lib.hid (eqL_no (by rw [ha.len, hb.len]) (by rw [ha.len]; exact hkn) he); clear hto heq
          have hbeq : (ix xs k != ix ys k) = true := by simp [he]
          clear he
          go_wp2
          go_quiet (fail)
          go_wp2
          go_ret
          exact ⟨ret_bool hs.out.symm, (by first | exact ⟨_, rfl⟩ | exact ⟨0, rfl⟩ | exact q_drewN ⟨_, rfl⟩ | exact q_drewN (q_drewN ⟨_, rfl⟩))⟩
      · have hkk : k = n := by omega
        have hs := Lib.hid (heq.out.trans (hkk ▸ hto.out)); clear hto heq hkk
        go_wp2
        go_ret
        exact ⟨ret_bool hs.out.symm, (by first | exact ⟨_, rfl⟩ | exact ⟨0, rfl⟩ | exact q_drewN ⟨_, rfl⟩ | exact q_drewN (q_drewN ⟨_, rfl⟩))⟩
  · have hs := Lib.hid (eqL_len (xs := xs) (ys := ys) (by rw [ha.len, hb.len]; exact hnm))
    have hne : ((n : Int) != (m : Int)) = true := by simp; omega
    go_enter Tryz.func81, Tryz.ntmps81
    go_wp2
    go_ret
    exact ⟨ret_bool hs.out.symm, (by first | exact ⟨_, rfl⟩ | exact ⟨0, rfl⟩ | exact q_drewN ⟨_, rfl⟩ | exact q_drewN (q_drewN ⟨_, rfl⟩))⟩
end

section
open Go.RowKit

def eqR (a b : RatD) : Bool := a.neg == b.neg && eqL a.mag b.mag && eqL a.den b.den
theorem eqR_den {r r' : RatD} {s s' : Bool} (h : s = r.neg) (h' : s' = r'.neg) (e0 : (s == s') = true) (e1 : eqL r.mag r'.mag = true) : eqR r r' = eqL r.den r'.den := by
  unfold eqR; rw [← h, ← h', e0, e1]; rfl
theorem eqR_mag {r r' : RatD} (e1 : eqL r.mag r'.mag = false) : eqR r r' = false := by
  unfold eqR; rw [e1]; simp
theorem eqR_neg {r r' : RatD} {s s' : Bool} (h : s = r.neg) (h' : s' = r'.neg) (e0 : (s == s') = false) : eqR r r' = false := by
  unfold eqR; rw [← h, ← h', e0]; rfl
def eqP (a b : PtD) : Bool := eqR a.x b.x && eqR a.y b.y
theorem eqP_y {p q : PtD} (e0 : eqR p.x q.x = true) : eqP p q = eqR p.y q.y := by unfold eqP; rw [e0]; rfl
theorem eqP_x {p q : PtD} (e0 : eqR p.x q.x = false) : eqP p q = false := by unfold eqP; rw [e0]; rfl

set_option maxHeartbeats 1600000 in
theorem RatEqual_any (w : World) {A B A' B' : Option Addr} {n m n' m' c d c' d' : Nat} {s s' : Bool} {r r' : RatD} (h : RdR w s A n c B m d r) (h' : RdR w s' A' n' c' B' m' d' r') :
    Calls Tryz.prog 21 #[.agg #[.bool s, .slice A n c, .slice B m d], .agg #[.bool s', .slice A' n' c', .slice B' m' d']] w fun e w' => e = .returned (.bool (eqR r r')) ∧ Bl w w' := by
  by_cases e0 : (s == s') = true
  · by_cases e1 : eqL r.mag r'.mag = true
    · have hs := Lib.hid (eqR_den h.neg h'.neg e0 e1)
      go_enter Tryz.func21, Tryz.ntmps21
      go_wp2_with fail
      refine (Equal_int _ ((h.mag.alloc _).alloc _) ((h'.mag.alloc _).alloc _)).mono ?_
      rintro e w' ⟨rfl, q, rfl⟩
      go_wp2_with fail
      refine (Equal_int _ (((h.den.alloc _).alloc _).drewN _) (((h'.den.alloc _).alloc _).drewN _)).mono ?_
      rintro e w' ⟨rfl, q', rfl⟩
      go_wp2_with fail
      go_ret
      exact ⟨ret_bool hs.out.symm, slc⟩
    · have e1 : eqL r.mag r'.mag = false := by simpa using e1
      have hs := Lib.hid (eqR_mag e1)
      go_enter Tryz.func21, Tryz.ntmps21
      go_wp2_with fail
      refine (Equal_int _ ((h.mag.alloc _).alloc _) ((h'.mag.alloc _).alloc _)).mono ?_
      rintro e w' ⟨rfl, q, rfl⟩
      go_wp2_with fail
      go_ret
      exact ⟨ret_bool hs.out.symm, slc⟩
  · have e0 : (s == s') = false := by simpa using e0
    have hs := Lib.hid (eqR_neg h.neg h'.neg e0)
    go_enter Tryz.func21, Tryz.ntmps21
    go_wp2_with fail
    go_ret
    exact ⟨ret_bool hs.out.symm, slc⟩

set_option maxHeartbeats 1600000 in
theorem SamePoint_any (w : World) {A B A' B' : Option Addr} {n m n' m' c d c' d' : Nat} {s s' : Bool} {C D C' D' : Option Addr} {i j i' j' e f e' f' : Nat} {t t' : Bool} {p q : PtD}
    (h : RdR w s A n c B m d p.x) (k : RdR w t C i e D j f p.y) (h' : RdR w s' A' n' c' B' m' d' q.x) (k' : RdR w t' C' i' e' D' j' f' q.y) :
    Calls Tryz.prog 20 #[.agg #[.bool s, .slice A n c, .slice B m d, .bool t, .slice C i e, .slice D j f], .agg #[.bool s', .slice A' n' c', .slice B' m' d', .bool t', .slice C' i' e', .slice D' j' f']] w fun e w' => e = .returned (.bool (eqP p q)) ∧ Bl w w' := by
  by_cases e0 : eqR p.x q.x = true
  · have hs := Lib.hid (eqP_y e0)
    go_enter Tryz.func20, Tryz.ntmps20
    go_wp2_with fail
    refine (RatEqual_any _ ((h.alloc _).alloc _) ((h'.alloc _).alloc _)).mono ?_
    rintro e w1 ⟨rfl, hb⟩
    obtain ⟨hc, hf⟩ := bcell hb
    have hb1 : Bl w w1 := slc
    go_wp2_with fail
    refine (RatEqual_any _ (k.bl hb1) (k'.bl hb1)).mono ?_
    rintro e w2 ⟨rfl, hb2⟩
    go_wp2_with fail
    go_ret
    exact ⟨ret_bool hs.out.symm, slc⟩
  · have e0 : eqR p.x q.x = false := by simpa using e0
    have hs := Lib.hid (eqP_x e0)
    go_enter Tryz.func20, Tryz.ntmps20
    go_wp2_with fail
    refine (RatEqual_any _ ((h.alloc _).alloc _) ((h'.alloc _).alloc _)).mono ?_
    rintro e w1 ⟨rfl, hb⟩
    go_wp2_with fail
    go_ret
    exact ⟨ret_bool hs.out.symm, slc⟩

theorem eqR_iff {a b : RatD} : eqR a b = true ↔ a = b := by
  cases a; cases b
  simp [eqR, eqL, and_assoc]
theorem eqP_iff {a b : PtD} : eqP a b = true ↔ a = b := by
  cases a; cases b
  simp [eqP, eqR_iff]
theorem eqP_no {a b : PtD} (h : ¬ a = b) : eqP a b = false := by
  rw [← Bool.not_eq_true, eqP_iff]; exact h

/-- The first k elements agree. -/
def Agree {α : Type} [Inhabited α] (l l' : List α) (k : Nat) : Prop := ∀ i, i < k → pix l i = pix l' i
theorem Agree.zero {α : Type} [Inhabited α] (l l' : List α) : Agree l l' 0 := fun i hi => by omega
theorem Agree.step {α : Type} [Inhabited α] {l l' : List α} {k : Nat} (h : Agree l l' k) (e : pix l k = pix l' k) : Agree l l' (k + 1) := by
  intro i hi
  rcases Nat.lt_succ_iff_lt_or_eq.1 hi with hi | rfl
  · exact h i hi
  · exact e
theorem Agree.all {α : Type} [Inhabited α] {l l' : List α} {n : Nat} (h : Agree l l' n) (hl : l.length = n) (hl' : l'.length = n) : l = l' := list_eq_of_pix hl hl' h
end

section
open Go.RowKit
end

section
open Go.RowKit

theorem Ob.cellOf {bs : List Nat} {w W : World} (h : Ob bs w W) {b o : Nat} (hb : b < w.heap.size) (hn : b ∉ bs) : W.cell? ⟨b, o, none⟩ = w.cell? ⟨b, o, none⟩ := World.cell?_of_block (w := w) (h.block b hb hn)
end

section
open Go.RowKit
/-- A mesh in the blocks from lo to hi; its slices may have room to spare; or an empty one. -/
def OwMZ (lo hi : Nat) (w : World) (A : Option Addr) (n c : Nat) (B : Option Addr) (m d : Nat) (x : MeD) : Prop :=
  x.points.length = n ∧ x.tris.length = m ∧ n ≤ c ∧ m ≤ d ∧ n ≤ 1048576 ∧ m ≤ 1048576 ∧ ((n = 0 ∧ m = 0) ∨
    ∃ g g' cs cs' fs, A = some ⟨g, 0, none⟩ ∧ B = some ⟨g', 0, none⟩ ∧ Blk w g 31 cs ∧ Blk w g' 73 cs' ∧ n * 6 ≤ cs.size ∧ m * 5 ≤ cs'.size ∧ PtsIn 3 w cs x.points n fs ∧ TrsIn cs' x.tris m ∧ Fp lo hi (g :: g' :: fs.flatten))
section
variable {lo hi : Nat} {w W : World} {A : Option Addr} {n c : Nat} {B : Option Addr} {m d : Nat} {x : MeD}
theorem OwMZ.bl (h : OwMZ lo hi w A n c B m d x) (hb : Bl w W) : OwMZ lo hi W A n c B m d x := by
  obtain ⟨h1, h2, h3, h4, h5, h6, h7⟩ := h
  refine ⟨h1, h2, h3, h4, h5, h6, ?_⟩
  rcases h7 with h7 | ⟨g, g', cs, cs', fs, rfl, rfl, a1, a2, a3, a4, a5, a6, a7⟩
  · exact .inl h7
  · refine .inr ⟨g, g', cs, cs', fs, rfl, rfl, a1.bl hb, a2.bl hb, a3, a4, a5.bl hb fun b hm => ?_, a6, a7⟩
    obtain ⟨l, hl', hb'⟩ := List.mem_flatten.1 hm
    obtain ⟨i, hi, rfl⟩ := List.getElem_of_mem hl'
    exact (a5.2 i (by rw [← a5.1]; exact hi)).lt b (by simpa [pix, hi] using hb')
theorem OwMZ.low {lo' hi' : Nat} (h : OwMZ lo hi w A n c B m d x) (h1 : lo' ≤ lo) (h2 : hi ≤ hi') : OwMZ lo' hi' w A n c B m d x := by
  obtain ⟨b1, b2, b3, b4, b5, b6, h7⟩ := h
  refine ⟨b1, b2, b3, b4, b5, b6, ?_⟩
  rcases h7 with h7 | ⟨g, g', cs, cs', fs, rfl, rfl, a1, a2, a3, a4, a5, a6, a7⟩
  · exact .inl h7
  · exact .inr ⟨g, g', cs, cs', fs, rfl, rfl, a1, a2, a3, a4, a5, a6, a7.mono h1 h2⟩
theorem OwMZ.keep (h : OwMZ lo hi w A n c B m d x) (hs : w.heap.size ≤ W.heap.size) (hk : ∀ b, lo ≤ b → b < hi → b < w.heap.size → W.heap[b]? = w.heap[b]?) : OwMZ lo hi W A n c B m d x := by
  obtain ⟨b1, b2, b3, b4, b5, b6, h7⟩ := h
  refine ⟨b1, b2, b3, b4, b5, b6, ?_⟩
  rcases h7 with h7 | ⟨g, g', cs, cs', fs, rfl, rfl, a1, a2, a3, a4, a5, a6, a7⟩
  · exact .inl h7
  · have hg := a7.2 g (by simp)
    have hg' := a7.2 g' (by simp)
    refine .inr ⟨g, g', cs, cs', fs, rfl, rfl, (hk g hg.1 hg.2 a1.lt).trans a1, (hk g' hg'.1 hg'.2 a2.lt).trans a2, a3, a4, ⟨a5.1, fun i hi => (a5.2 i hi).keep (fun _ _ => rfl) hs fun b hb => ?_⟩, a6, a7⟩
    have hm := a7.2 b (List.mem_cons_of_mem _ (List.mem_cons_of_mem _ (mem_flatten_pix hb)))
    exact hk b hm.1 hm.2 ((a5.2 i hi).lt b hb)
theorem OwMZ.set (h : OwMZ lo hi w A n c B m d x) {q : Addr} (hq : q.block < lo ∨ hi ≤ q.block) (u : Value) : OwMZ lo hi (w.setCell q u) A n c B m d x :=
  h.keep (by simp) fun b h1 h2 _ => Below.heap_setCell w q u b (by omega)
end
end

section
open Go.RowKit
end

end Go.Proofs.YtajlahjghapbkaaGreat
