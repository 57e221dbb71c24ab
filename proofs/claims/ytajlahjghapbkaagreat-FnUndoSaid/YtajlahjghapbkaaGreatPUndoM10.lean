/- Lemmas. -/
import Derived.Test.YtajlahjghapbkaaGreatRows
import Derived.Test.YtajlahjghapbkaaGreatPUndoM09
import Derived.Test.YtajlahjghapbkaaGreatPUndoM02
import Derived.Test.YtajlahjghapbkaaGreatPUndoM08
namespace Go.Proofs.YtajlahjghapbkaaGreat
section
open Go.RowKit
theorem step_append_rowX {P : Program} {α : Type} [Inhabited α] {N : List Nat → Prop} (hN : AppN N) {size bytes : Nat} {El : World → Array Value → Nat → α → List Nat → Prop} (hk : KeepE size El) {TP t : TypeId} {z : Value}
    (hinfo : (P.info? TP).map (fun i => (i.zero, i.size, i.bytes)) = some (some z, size, bytes)) (hzs : z.cells.size = size) (hsz : 0 < size) (hby : bytes ≤ 4096) (ht : P.underlying t = some (.slice TP))
    {W : World} {news : Array Value} {p : α} {bs : List Nat} {lo hi : Nat} {l : List α} {ops : Array Oper} {o : Oper} {a : Act} {K : Act → World → Prop} {Q : Exit → Act → World → Prop} {F : Prop} (hgd : o.guard = none) (s x : Operand)
    (ho : o.op = .call { callee := .builtin .append, args := #[s, x], argTypes := #[t, t] }) (v : Value) (hs : a.eval s = v) (hrow : RowG N TP size El lo hi W v l)
    (hel : El W news 0 p bs) (hnl : news.size = size) (h1 : ∀ u ∈ news.toList, u.oneCell' = true) (hbs : ∀ b ∈ bs, hi ≤ b ∧ b < W.heap.size) (hNb : N bs) (hlh : lo ≤ hi)
    (c : Nat) (hx : a.eval x = .slice (some ⟨W.heap.size, 0, none⟩) 1 c) (hlen : l.length ≤ 1048576) (w0 : World) (hb : Bl w0 W) (h0 : w0.heap.size ≤ lo)
    (h : ∀ v' w', RowG N TP size El lo w'.heap.size w' v' (l ++ [p]) → Bl w0 w' → (v' = .slice none 0 0 → False) → (∀ g, g < W.heap.size → v.ownBlock ≠ some g → w'.heap[g]? = W.heap[g]? ∧ v'.ownBlock ≠ some g) → K (a.put o.dst v') w') : if Region.wanted o (yielded ops a.tmps) = true then Oper.wp P o a (W.alloc (.cells news TP)) K Q else F := by
  have hw : Region.wanted o (yielded ops a.tmps) = true := by simp [Region.wanted, hgd]
  rw [if_pos hw]
  obtain ⟨i0, hi0, hz0, hz1, hz2⟩ := info_parts hinfo
  obtain ⟨cells, fs, r1, r2, r3, r4, r5, r6, r7⟩ := hrow
  have ro := World.ownsRow.alloc r1 (.cells news TP)
  have hnew : (W.alloc (.cells news TP)).heap[W.heap.size]? = some (.cells news TP (0, 0)) := heap_alloc_new W _
  have hsz2 : (W.alloc (.cells news TP)).heap.size = W.heap.size + 1 := by simp
  have hm : (l.length + 1) * bytes ≤ 140737488355328 := Nat.le_trans (Nat.mul_le_mul (show l.length + 1 ≤ 1048577 by omega) hby) (by omega)
  obtain ⟨v', w', hrun, g1, g2, g3, g4⟩ := run_append_own_at (P := P) (W.alloc (.cells news TP)) lo t o.type TP i0 z size bytes ht hi0 hz0 hz1 hz2 hzs hsz v l.length cells ro ⟨W.heap.size, 0, none⟩ 1 c news.toList (by simpa using hnl) (World.news_of_block hnew) h1 (by unfold maxLen; omega) hm (by omega)
  unfold Oper.wp execOp
  simp only [ho, resolve, invoke, builtin, Sem.run_bind, Sem.run_pure, Result.andThen_ok, List.map_toArray, List.map_cons, List.map_nil, hs, hx, hrun]
  have hne : v' ≠ .slice none 0 0 := fun e => by have := (g3.1 e).2; omega
  have hws := g2.size
  have hold : ∀ b, b < W.heap.size → v.ownBlock ≠ some b → w'.heap[b]? = W.heap[b]? := fun b hb1 hb2 => (g2.block b (by omega) (fun e => hb2 e.symm)).trans (Below.heap_alloc W _ b hb1)
  have hown : ∀ b, v'.ownBlock = some b → (v.ownBlock = some b ∨ b = W.heap.size + 1) := by
    intro b e
    rcases g4 with g4 | g4
    · exact .inl (by rw [← g4]; exact e)
    · rw [g4] at e; injection e with e; right; omega
  have hvl : ∀ b, v'.ownBlock = some b → lo ≤ b ∧ b < w'.heap.size := fun b e => by have := World.ownsRow.lt g1 b e; exact this
  refine h v' w' ⟨cells ++ news.toList, fs ++ [bs], by simpa using g1, fun g e => (hvl g e).2, by simp [r3], fun i hi' => ?_, fun b hm' => ?_, ?_, Nat.le_refl _⟩ ((hb.alloc _).grown g2 (fun k e => by have := (World.ownsRow.lt r1 k e).1; omega)) hne (fun g hg hn => ⟨hold g hg hn, fun e => by rcases hown g e with e | e; exact hn e; omega⟩)
  · have hcl := r1.1
    rw [List.length_append, List.length_singleton] at hi'
    rcases Nat.lt_succ_iff_lt_or_eq.1 hi' with hi' | rfl
    · rw [pix_append_left hi', pix_append_left (by rw [r3]; exact hi')]
      refine hk _ _ _ _ _ _ _ _ (r4 i hi') (fun j hj => ?_) (by omega) fun b hb' => ?_
      · have : i * size + j < cells.length := by
          rw [hcl]
          have : (i + 1) * size ≤ l.length * size := Nat.mul_le_mul_right _ hi'
          rw [Nat.succ_mul] at this
          omega
        simp [List.getElem?_append_left this]
      · have := r5 b (mem_flatten_pix hb')
        exact hold b (by omega) this.2.2
    · rw [pix_append_last, pixs_last r3]
      refine hk _ _ _ _ _ _ _ _ hel (fun j hj => ?_) (by omega) fun b hb' => ?_
      · have : (cells ++ news.toList)[l.length * size + j]? = news.toList[j]? := by
          rw [List.getElem?_append_right (by rw [hcl]; omega), hcl]
          congr 1; omega
        simpa using this
      · have := hbs b hb'
        exact hold b this.2 fun e => by have := r2 b e; omega
  · rw [List.flatten_append, List.mem_append] at hm'
    rcases hm' with hm' | hm'
    · have := r5 b hm'
      refine ⟨this.1, by omega, fun e => ?_⟩
      rcases hown b e with e | e
      · exact this.2.2 e
      · omega
    · have := hbs b (by simpa using hm')
      refine ⟨by omega, by omega, fun e => ?_⟩
      rcases hown b e with e | e
      · have := r2 b e; omega
      · omega
  · rw [List.flatten_append]
    refine hN.2 _ _ r6 (by simpa using hNb) fun x hx' y hy e => ?_
    have a1 := r5 x hx'
    have a2 := hbs y (by simpa using hy)
    omega
theorem step_append_ptX {N : List Nat → Prop} (hN : AppN N) {W : World} {s : Bool} {A : Option Addr} {n c : Nat} {B : Option Addr} {m d : Nat} {t : Bool} {C : Option Addr} {i e : Nat} {D : Option Addr} {j f : Nat} {p : PtD} {lo hi b0 : Nat} {l : List PtD} {ops : Array Oper} {o : Oper} {a : Act} {K : Act → World → Prop} {Q : Exit → Act → World → Prop} {F : Prop} (hgd : o.guard = none) (s1 x1 : Operand)
    (ho : o.op = .call { callee := .builtin .append, args := #[s1, x1], argTypes := #[23, 23] }) (v : Value) (hs : a.eval s1 = v) (hrow : RowP N lo hi W v l)
    (hpt : OwPN N 3 b0 W s A n c B m d t C i e D j f p) (hb0 : hi ≤ b0) (hlh : lo ≤ hi) (c1 : Nat) (hx : a.eval x1 = .slice (some ⟨W.heap.size, 0, none⟩) 1 c1) (hlen : l.length ≤ 1048576) (w0 : World) (hb : Bl w0 W) (h0 : w0.heap.size ≤ lo)
    (h : ∀ v' w', RowP N lo w'.heap.size w' v' (l ++ [p]) → Bl w0 w' → (∀ g, g < W.heap.size → v.ownBlock ≠ some g → w'.heap[g]? = W.heap[g]? ∧ v'.ownBlock ≠ some g) → K (a.put o.dst v') w') : if Region.wanted o (yielded ops a.tmps) = true then Oper.wp Tryz.prog o a (W.alloc (.cells #[.bool s, .slice A n c, .slice B m d, .bool t, .slice C i e, .slice D j f] 31)) K Q else F := by
  obtain ⟨b1, b2, f1, f2, f3, f4⟩ := hpt
  refine step_append_rowX hN (ptIn_keep 3) info_pt (by rfl) (by omega) (by omega) Tryz.underlying23 hgd s1 x1 ho v hs hrow (p := p) (bs := b1 ++ b2) ⟨_, _, _, _, _, _, _, _, _, _, _, _, _, _, b1, b2, ⟨rfl, rfl, rfl, rfl, rfl, rfl⟩, f1, f2, rfl⟩ rfl (by simp [Value.oneCell']) (fun b hm => ⟨Nat.le_trans hb0 (f3 b hm).1, (f3 b hm).2⟩) f4 hlh c1 hx hlen w0 hb h0 fun v' w' g1 g2 _ g4 => h v' w' g1 g2 g4

def TrsE (_ : World) (cs : Array Value) (i : Nat) (t : TriD) (bs : List Nat) : Prop := TrIn cs i t ∧ bs = []
theorem trIn_keep : KeepE 5 TrsE := by
  intro w W cs cs' i i' x bs h hc hs hb
  obtain ⟨⟨h0, h1, h2, h3, h4⟩, e⟩ := h
  exact ⟨⟨(hc 0 (by omega)).trans h0, (hc 1 (by omega)).trans h1, (hc 2 (by omega)).trans h2, (hc 3 (by omega)).trans h3, (hc 4 (by omega)).trans h4⟩, e⟩
abbrev RowT (lo hi : Nat) (w : World) (v : Value) (l : List TriD) : Prop := RowG AnyN 73 5 TrsE lo hi w v l
theorem info_tri' : (Tryz.prog.info? 73).map (fun i => (i.zero, i.size, i.bytes)) = some (some (.agg #[.int .i64 0, .int .i64 0, .int .i64 0, .int .i64 0, .int .i64 0]), 5, 40) := by kernel_rfl
/-- A row's block differs from all blocks from hi on. -/
theorem RowG.ne {α : Type} [Inhabited α] {N : List Nat → Prop} {TP : TypeId} {size lo hi : Nat} {El : World → Array Value → Nat → α → List Nat → Prop} {w : World} {v : Value} {l : List α} (h : RowG N TP size El lo hi w v l) {g : Nat} (hg : hi ≤ g) : v.ownBlock ≠ Option.some g := by
  obtain ⟨_, _, _, h2, _⟩ := h
  intro e
  have := h2 g e
  omega
theorem Blk.oth {g : Nat} {T : TypeId} {cs : Array Value} {v v' : Value} {W w' : World} (h : Blk W g T cs) (ho : ∀ g, g < W.heap.size → v.ownBlock ≠ Option.some g → w'.heap[g]? = W.heap[g]? ∧ v'.ownBlock ≠ Option.some g) (hv : v.ownBlock ≠ Option.some g) : Blk w' g T cs :=
  (ho g h.lt hv).1.trans h
end

section
open Go.RowKit

/-- The fraction that stands for a rational number. -/
def toR (q : Rat) : RatD := raw q.num q.den
/-- It is not too large. -/
def Fit (q : Rat) : Prop := q.num.natAbs < Bs ^ 24 ∧ q.den < Bs ^ 24
theorem Fit.ok {q : Rat} (h : Fit q) : OkR (toR q) := ⟨q.num, q.den, rfl, q.den_pos, q.reduced, dig_len_le.2 h.1, dig_len_le.2 h.2⟩
theorem rn_toR (q : Rat) : rn (toR q) = q.num := rn_raw _ _
theorem rd_toR (q : Rat) : rd (toR q) = q.den := rd_raw _ _
/-- The number of a fraction. -/
def vR (r : RatD) : Rat := mkRat (rn r) (rd r)
theorem OkR.toR {r : RatD} (h : OkR r) : r = toR (vR r) ∧ Fit (vR r) := by
  obtain ⟨h1, h2, h3, h4, h5⟩ := h.get
  have e : vR r = ⟨rn r, rd r, by omega, h3⟩ := (Rat.mk_eq_mkRat (rn r) (rd r) (by omega) h3).symm
  rw [e]
  exact ⟨h1, dig_len_le.1 h4, dig_len_le.1 h5⟩
theorem toR_inj {p q : Rat} (h : toR p = toR q) : p = q := by
  refine Rat.ext ?_ ?_
  · rw [← rn_toR, h, rn_toR]
  · rw [← rd_toR, h, rd_toR]
open Classical in
theorem ofFrac_toR (x : Int) {D : Nat} (hD : 0 < D) : ofFrac x D = if Fit (mkRat x D) then toR (mkRat x D) else zR := by
  have h1 : (mkRat x D).num = x / (Nat.gcd x.natAbs D : Int) := by
    rw [Rat.num_mkRat, if_neg (by omega), Nat.gcd_comm]
  have h2 : (mkRat x D).den = D / Nat.gcd x.natAbs D := by
    rw [Rat.den_mkRat, if_neg (by omega), Nat.gcd_comm]
  have h3 : (mkRat x D).num.natAbs = x.natAbs / Nat.gcd x.natAbs D := by
    rw [h1, natAbs_ediv_gcd _ _ (Nat.gcd_dvd_left _ _)]
  unfold ofFrac Fit toR
  rw [h3, h2, h1]
  by_cases h : x.natAbs / Nat.gcd x.natAbs D < Bs ^ 24 ∧ D / Nat.gcd x.natAbs D < Bs ^ 24
  · rw [if_pos h, if_pos ⟨dig_len_le.2 h.1, dig_len_le.2 h.2⟩]
  · rw [if_neg h, if_neg (fun hk => h ⟨dig_len_le.1 hk.1, dig_len_le.1 hk.2⟩)]
theorem addR_toR {p q : Rat} (hp : Fit p) (hq : Fit q) (h : Fit (p + q)) : addR (toR p) (toR q) = toR (p + q) := by
  unfold addR
  rw [if_pos ⟨hp.ok, hq.ok⟩, rn_toR, rn_toR, rd_toR, rd_toR, ofFrac_toR _ (Nat.mul_pos p.den_pos q.den_pos), ← Rat.add_def', if_pos h]
theorem subR_toR {p q : Rat} (hp : Fit p) (hq : Fit q) (h : Fit (p - q)) : subR (toR p) (toR q) = toR (p - q) := by
  unfold subR
  rw [if_pos ⟨hp.ok, hq.ok⟩, rn_toR, rn_toR, rd_toR, rd_toR, ofFrac_toR _ (Nat.mul_pos p.den_pos q.den_pos), ← Rat.sub_def', if_pos h]
theorem mulR_toR {p q : Rat} (hp : Fit p) (hq : Fit q) (h : Fit (p * q)) : mulR (toR p) (toR q) = toR (p * q) := by
  unfold mulR
  rw [if_pos ⟨hp.ok, hq.ok⟩, rn_toR, rn_toR, rd_toR, rd_toR, ofFrac_toR _ (Nat.mul_pos p.den_pos q.den_pos), ← Rat.mul_def', if_pos h]
/-- Numerator and denominator are at most N. -/
def Bd (N : Nat) (q : Rat) : Prop := q.num.natAbs ≤ N ∧ q.den ≤ N
theorem Bd.fit {N : Nat} {q : Rat} (h : Bd N q) (hN : N < Bs ^ 24) : Fit q := ⟨Nat.lt_of_le_of_lt h.1 hN, Nat.lt_of_le_of_lt h.2 hN⟩
theorem Bd.pos {N : Nat} {q : Rat} (h : Bd N q) : 1 ≤ N := Nat.le_trans q.den_pos h.2
theorem Bd.mono {M N : Nat} {q : Rat} (h : Bd M q) (hN : M ≤ N) : Bd N q := ⟨Nat.le_trans h.1 hN, Nat.le_trans h.2 hN⟩
theorem bd_mk {x : Int} {D N : Nat} (hD : 0 < D) (hx : x.natAbs ≤ N) (hn : D ≤ N) : Bd N (mkRat x D) := by
  refine ⟨?_, ?_⟩
  · rw [Rat.num_mkRat, if_neg (by omega), Nat.gcd_comm, natAbs_ediv_gcd _ _ (Nat.gcd_dvd_left _ _)]
    exact Nat.le_trans (Nat.div_le_self _ _) hx
  · rw [Rat.den_mkRat, if_neg (by omega)]
    exact Nat.le_trans (Nat.div_le_self _ _) hn
section
variable {M N : Nat} {p q : Rat}
theorem natAbs_mul_le {a b : Int} (ha : a.natAbs ≤ M) (hb : b.natAbs ≤ N) : (a * b).natAbs ≤ M * N := by
  rw [Int.natAbs_mul]; exact Nat.mul_le_mul ha hb
theorem Bd.add (h : Bd M p) (k : Bd N q) : Bd (2 * (M * N)) (p + q) := by
  rw [Rat.add_def']
  refine bd_mk (Nat.mul_pos p.den_pos q.den_pos) ?_ (Nat.le_trans (Nat.mul_le_mul h.2 k.2) (by omega))
  have h1 : (p.num * (q.den : Int)).natAbs ≤ M * N := natAbs_mul_le h.1 k.2
  have h2 : (q.num * (p.den : Int)).natAbs ≤ N * M := natAbs_mul_le k.1 h.2
  rw [Nat.mul_comm N M] at h2
  omega
theorem Bd.sub (h : Bd M p) (k : Bd N q) : Bd (2 * (M * N)) (p - q) := by
  rw [Rat.sub_def']
  refine bd_mk (Nat.mul_pos p.den_pos q.den_pos) ?_ (Nat.le_trans (Nat.mul_le_mul h.2 k.2) (by omega))
  have h1 : (p.num * (q.den : Int)).natAbs ≤ M * N := natAbs_mul_le h.1 k.2
  have h2 : (q.num * (p.den : Int)).natAbs ≤ N * M := natAbs_mul_le k.1 h.2
  rw [Nat.mul_comm N M] at h2
  omega
theorem Bd.mul (h : Bd M p) (k : Bd N q) : Bd (M * N) (p * q) := by
  rw [Rat.mul_def']
  exact bd_mk (Nat.mul_pos p.den_pos q.den_pos) (natAbs_mul_le h.1 k.1) (Nat.mul_le_mul h.2 k.2)
theorem Bd.neg (h : Bd M p) : Bd M (-p) := ⟨by simpa using h.1, by simpa using h.2⟩
end
end

section
open Go.RowKit

instance : Inhabited (Rat × Rat) := ⟨(0, 0)⟩
def tp (p : Rat × Rat) : PtD := ⟨toR p.1, toR p.2⟩
theorem pix_map {l : List (Rat × Rat)} {k : Nat} (h : k < l.length) : pix (l.map tp) k = tp (pix l k) := by simp [pix, h]
/-- A fraction of one limb. -/
def SmQ (q : Rat) : Prop := q.num.natAbs < 1000000000 ∧ q.den < 1000000000
instance (q : Rat) : Decidable (SmQ q) := by unfold SmQ; infer_instance
theorem SmQ.mag {q : Rat} (h : SmQ q) : (toR q).mag.length ≤ 1 := by
  show (ints (dig q.num.natAbs)).length ≤ 1
  rw [ints_len]
  exact dig_len_le.2 (by simpa [Bs] using h.1)
theorem SmQ.den {q : Rat} (h : SmQ q) : (toR q).den.length = 1 := by
  show (ints (dig q.den)).length = 1
  rw [ints_len]
  have h1 : (dig q.den).length ≤ 1 := dig_len_le.2 (by simpa [Bs] using h.2)
  have h2 : 0 < (dig q.den).length := dig_len_pos.2 q.den_pos
  omega
theorem SmQ.fit {q : Rat} (h : SmQ q) : Fit q := ⟨Nat.lt_trans h.1 (by decide), Nat.lt_trans h.2 (by decide)⟩
/-- The sign of a turn. -/
def trn (xs ys : List Int) (a b c : Int) : Int :=
  cmpZ ((ix xs b.toNat - ix xs a.toNat) * (ix ys c.toNat - ix ys a.toNat) - (ix ys b.toNat - ix ys a.toNat) * (ix xs c.toNat - ix xs a.toNat)) 0
def PlB (n : Nat) (xs ys : List Int) : Prop := ∀ k, k < n → -536870912 ≤ ix xs k ∧ ix xs k ≤ 536870912 ∧ -536870912 ≤ ix ys k ∧ ix ys k ≤ 536870912
theorem mul_bd {a b : Int} (h1 : -1073741824 ≤ a) (h2 : a ≤ 1073741824) (h3 : -1073741824 ≤ b) (h4 : b ≤ 1073741824) : -1152921504606846976 ≤ a * b ∧ a * b ≤ 1152921504606846976 := by
  have h : (a * b).natAbs ≤ 1073741824 * 1073741824 := by
    rw [Int.natAbs_mul]
    exact Nat.mul_le_mul (by omega) (by omega)
  omega
theorem rdi_lit {w : World} {g n c : Nat} {l : List Int} (h : RdI w (some ⟨g, 0, none⟩) n c l) {k : Nat} (hk : k < n) : w.cell? ⟨g, k, none⟩ = some (.int .i64 (ix l k)) := by
  obtain ⟨_, e, _, hc⟩ := h.cells k hk
  cases e
  rw [Addr.add_lit, Nat.zero_add] at hc
  exact hc
theorem bx5 {W : World} {g : Nat} {T : TypeId} {a b c d e : Value} (h : Blk W g T #[a, b, c, d, e]) : W.cell? ⟨g, 0, none⟩ = some a ∧ W.cell? ⟨g, 1, none⟩ = some b ∧ W.cell? ⟨g, 2, none⟩ = some c ∧ W.cell? ⟨g, 3, none⟩ = some d ∧ W.cell? ⟨g, 4, none⟩ = some e := ⟨h.cell 0, h.cell 1, h.cell 2, h.cell 3, h.cell 4⟩
end

section
open Go.RowKit

structure EdD where
  a : Int
  b : Int
  l : Int
  r : Int
  deriving DecidableEq, Inhabited
def cmpE (x y : EdD) : Int := if cmpZ x.a y.a = 0 then cmpZ x.b y.b else cmpZ x.a y.a
def ltE (x y : EdD) : Bool := decide (cmpE x y < 0)
theorem ltE_iff {x y : EdD} : ltE x y = true ↔ x.a < y.a ∨ (x.a = y.a ∧ x.b < y.b) := by
  unfold ltE cmpE cmpZ
  rw [decide_eq_true_iff]
  by_cases h1 : x.a < y.a
  · simp [h1]
  · by_cases h2 : y.a < x.a
    · simp [h1, h2]; omega
    · have h3 : x.a = y.a := by omega
      simp only [h3, Int.lt_irrefl, if_false, if_true, true_and, false_or]
      by_cases h4 : x.b < y.b
      · simp [h4]
      · by_cases h5 : y.b < x.b <;> simp [h4, h5]
theorem cmpE_zero {x y : EdD} : cmpE x y = 0 ↔ x.a = y.a ∧ x.b = y.b := by
  unfold cmpE cmpZ
  by_cases h1 : x.a < y.a
  · simp [h1]; omega
  · by_cases h2 : y.a < x.a
    · simp [h1, h2]; omega
    · have h3 : x.a = y.a := by omega
      simp only [h3, Int.lt_irrefl, if_false, if_true, true_and]
      by_cases h4 : x.b < y.b
      · simp [h4]; omega
      · by_cases h5 : y.b < x.b
        · simp [h4, h5]; omega
        · simp [h4, h5]; omega
/-- How many edges stand ahead of the place of e. -/
def posE (e : EdD) : List EdD → Nat
  | [] => 0
  | x :: xs => if ltE x e then posE e xs + 1 else 0
theorem posE_le (e : EdD) : ∀ l : List EdD, posE e l ≤ l.length
  | [] => Nat.le_refl _
  | x :: xs => by
    unfold posE
    split
    · have := posE_le e xs; simp; omega
    · simp
theorem pix_zero {α : Type} [Inhabited α] (x : α) (xs : List α) : pix (x :: xs) 0 = x := rfl
theorem pix_succ {α : Type} [Inhabited α] (x : α) (xs : List α) (k : Nat) : pix (x :: xs) (k + 1) = pix xs k := by simp [pix]
theorem posE_lt (e : EdD) : ∀ (l : List EdD) {k : Nat}, k < posE e l → ltE (pix l k) e = true
  | [], k, h => by simp [posE] at h
  | x :: xs, k, h => by
    unfold posE at h
    by_cases hx : ltE x e = true
    · rw [if_pos hx] at h
      rcases k with _ | k
      · exact hx
      · rw [pix_succ]; exact posE_lt e xs (by omega)
    · rw [if_neg hx] at h; omega
theorem posE_at (e : EdD) : ∀ (l : List EdD), posE e l < l.length → ltE (pix l (posE e l)) e = false
  | [], h => by simp at h
  | x :: xs, h => by
    unfold posE at h ⊢
    by_cases hx : ltE x e = true
    · rw [if_pos hx] at h ⊢
      rw [pix_succ]
      exact posE_at e xs (by simpa using h)
    · rw [if_neg hx]
      exact Bool.eq_false_iff.2 hx
/-- Sorted, none twice. -/
def SrtE (l : List EdD) : Prop := ∀ i j, i < j → j < l.length → ltE (pix l i) (pix l j) = true
theorem ltE_trans {x y z : EdD} (h : ltE x y = true) (k : ltE y z = true) : ltE x z = true := by
  rw [ltE_iff] at *
  omega
theorem posE_ge {e : EdD} {l : List EdD} (hs : SrtE l) {k : Nat} (h : posE e l ≤ k) (hk : k < l.length) : ltE (pix l k) e = false := by
  have h0 := posE_at e l (by omega)
  rcases Nat.lt_or_eq_of_le h with h | h
  · have h1 := hs _ _ h hk
    rw [Bool.eq_false_iff] at h0 ⊢
    exact fun h2 => h0 (ltE_trans h1 h2)
  · rw [← h]; exact h0
theorem posE_of {e : EdD} {l : List EdD} (hs : SrtE l) {i : Nat} (hi : i ≤ l.length) (h1 : ∀ k, k < i → ltE (pix l k) e = true) (h2 : ∀ k, i ≤ k → k < l.length → ltE (pix l k) e = false) : i = posE e l := by
  have h0 := posE_le e l
  rcases Nat.lt_trichotomy i (posE e l) with h | h | h
  · have a := posE_lt e l h
    have b := h2 i (Nat.le_refl _) (by omega)
    rw [a] at b; cases b
  · exact h
  · have a := h1 _ h
    have b := posE_ge hs (Nat.le_refl _) (show posE e l < l.length by omega)
    rw [a] at b; cases b
def fndE (e : EdD) (l : List EdD) : Bool := decide (posE e l < l.length) && decide (cmpE (pix l (posE e l)) e = 0)
def insE (e : EdD) (l : List EdD) : List EdD := l.take (posE e l) ++ e :: l.drop (posE e l)
theorem insE_len (e : EdD) (l : List EdD) : (insE e l).length = l.length + 1 := by
  have := posE_le e l
  unfold insE
  simp
  omega
theorem pix_insE {e : EdD} {l : List EdD} {k : Nat} : pix (insE e l) k = if k < posE e l then pix l k else if k = posE e l then e else pix l (k - 1) := by
  have h0 := posE_le e l
  unfold insE
  by_cases h1 : k < posE e l
  · rw [if_pos h1, pix_append_left (by simp; omega)]
    unfold pix
    rw [List.getD_eq_getElem?_getD, List.getD_eq_getElem?_getD, List.getElem?_take_of_lt h1]
  · rw [if_neg h1]
    unfold pix
    rw [List.getD_eq_getElem?_getD, List.getElem?_append_right (by simp; omega), List.length_take, Nat.min_eq_left h0]
    by_cases h2 : k = posE e l
    · rw [if_pos h2, h2, Nat.sub_self]; rfl
    · rw [if_neg h2, List.getD_eq_getElem?_getD]
      obtain ⟨j, rfl⟩ : ∃ j, k = posE e l + j + 1 := ⟨k - posE e l - 1, by omega⟩
      rw [show posE e l + j + 1 - posE e l = j + 1 by omega, show posE e l + j + 1 - 1 = posE e l + j by omega, List.getElem?_cons_succ, List.getElem?_drop]
theorem insE_srt {e : EdD} {l : List EdD} (hs : SrtE l) (hn : fndE e l = false) : SrtE (insE e l) := by
  intro i j hij hj
  rw [insE_len] at hj
  have h0 := posE_le e l
  have hgt : ∀ k, posE e l ≤ k → k < l.length → ltE e (pix l k) = true := by
    intro k hk hk2
    have h1 := posE_at e l (by omega)
    have h2 : ¬ cmpE (pix l (posE e l)) e = 0 := by
      intro h3
      unfold fndE at hn
      rw [decide_eq_true (show posE e l < l.length by omega), decide_eq_true h3] at hn
      cases hn
    have h3 : ltE e (pix l (posE e l)) = true := by
      rw [cmpE_zero] at h2
      rw [Bool.eq_false_iff, Ne, ltE_iff] at h1
      rw [ltE_iff]
      omega
    rcases Nat.lt_or_eq_of_le hk with h | h
    · exact ltE_trans h3 (hs _ _ h hk2)
    · rw [← h]; exact h3
  rw [pix_insE, pix_insE]
  by_cases h1 : j < posE e l
  · rw [if_pos h1, if_pos (by omega)]
    exact hs _ _ hij (by omega)
  · rw [if_neg h1]
    by_cases h2 : j = posE e l
    · rw [if_pos h2, if_pos (by omega)]
      exact posE_lt e l (by omega)
    · rw [if_neg h2]
      by_cases h3 : i < posE e l
      · rw [if_pos h3]
        exact hs _ _ (by omega) (by omega)
      · rw [if_neg h3]
        by_cases h4 : i = posE e l
        · rw [if_pos h4]
          exact hgt _ (by omega) (by omega)
        · rw [if_neg h4]
          exact hs _ _ (by omega) (by omega)
def setLR (a b k : Int) (e : EdD) : EdD := if a < b then ⟨e.a, e.b, k, e.r⟩ else ⟨e.a, e.b, e.l, k⟩
def newE (a b : Int) : EdD := ⟨min a b, max a b, -1, -1⟩
/-- The edge from a to b, of triangle k, is put into the list. -/
def putE (l : List EdD) (a b k : Int) : List EdD :=
  (if fndE (newE a b) l then l else insE (newE a b) l).modify (posE (newE a b) l) (setLR a b k)
def putTri (l : List EdD) (t : TriD) (k : Int) : Nat → List EdD
  | 0 => l
  | 1 => putE l t.a t.b k
  | 2 => putE (putE l t.a t.b k) t.b t.c k
  | _ => putE (putE (putE l t.a t.b k) t.b t.c k) t.c t.a k
def edTo (ts : List TriD) : Nat → List EdD
  | 0 => []
  | k + 1 => putTri (edTo ts k) (pix ts k) k 3
def edL (ts : List TriD) : List EdD := edTo ts ts.length
theorem setLR_lt (a b k : Int) (e x : EdD) : ltE (setLR a b k e) x = ltE e x ∧ ltE x (setLR a b k e) = ltE x e := by
  unfold setLR
  split <;> exact ⟨rfl, rfl⟩
theorem pix_modify {l : List EdD} {f : EdD → EdD} {p k : Nat} (hk : k < l.length) : pix (l.modify p f) k = if k = p then f (pix l k) else pix l k := by
  unfold pix
  rw [List.getD_eq_getElem?_getD, List.getD_eq_getElem?_getD, List.getElem?_modify]
  by_cases h : p = k
  · rw [if_pos h.symm]; simp [h, hk]
  · rw [if_neg (fun e => h e.symm)]; simp [h]
theorem modify_srt {l : List EdD} {a b k : Int} {p : Nat} (hs : SrtE l) : SrtE (l.modify p (setLR a b k)) := by
  intro i j hij hj
  rw [List.length_modify] at hj
  have h := hs i j hij hj
  rw [pix_modify (by omega), pix_modify hj]
  by_cases h1 : i = p <;> by_cases h2 : j = p
  · omega
  · rw [if_pos h1, if_neg h2, (setLR_lt a b k _ _).1]; exact h
  · rw [if_neg h1, if_pos h2, (setLR_lt a b k _ _).2]; exact h
  · rw [if_neg h1, if_neg h2]; exact h
theorem putE_srt {l : List EdD} {a b k : Int} (hs : SrtE l) : SrtE (putE l a b k) := by
  unfold putE
  refine modify_srt ?_
  by_cases h : fndE (newE a b) l = true
  · rw [if_pos h]; exact hs
  · rw [if_neg h]; exact insE_srt hs (Bool.eq_false_iff.2 h)
theorem putE_len (l : List EdD) (a b k : Int) : l.length ≤ (putE l a b k).length ∧ (putE l a b k).length ≤ l.length + 1 := by
  unfold putE
  rw [List.length_modify]
  split
  · omega
  · rw [insE_len]; omega
theorem putTri_srt {l : List EdD} {t : TriD} {k : Int} (hs : SrtE l) (i : Nat) : SrtE (putTri l t k i) := by
  unfold putTri
  split
  · exact hs
  · exact putE_srt hs
  · exact putE_srt (putE_srt hs)
  · exact putE_srt (putE_srt (putE_srt hs))
theorem putTri_len {l : List EdD} {t : TriD} {k : Int} (i : Nat) : l.length ≤ (putTri l t k i).length ∧ (putTri l t k i).length ≤ l.length + 3 := by
  unfold putTri
  have h1 := putE_len l t.a t.b k
  have h2 := putE_len (putE l t.a t.b k) t.b t.c k
  have h3 := putE_len (putE (putE l t.a t.b k) t.b t.c k) t.c t.a k
  split <;> omega
theorem edTo_srt (ts : List TriD) : ∀ k, SrtE (edTo ts k)
  | 0 => fun i j _ hj => by simp [edTo] at hj
  | k + 1 => putTri_srt (edTo_srt ts k) 3
theorem edTo_len (ts : List TriD) : ∀ k, (edTo ts k).length ≤ 3 * k
  | 0 => by simp [edTo]
  | k + 1 => by
    have h1 := edTo_len ts k
    have h2 := putTri_len (l := edTo ts k) (t := pix ts k) (k := (k : Int)) 3
    show (putTri (edTo ts k) (pix ts k) k 3).length ≤ _
    omega
def EdAt (w : World) (p : Addr) (e : EdD) : Prop :=
  w.cell? p = some (.int .i64 e.a) ∧ w.cell? ⟨p.block, p.off + 1, none⟩ = some (.int .i64 e.b) ∧ w.cell? ⟨p.block, p.off + 2, none⟩ = some (.int .i64 e.l) ∧ w.cell? ⟨p.block, p.off + 3, none⟩ = some (.int .i64 e.r)
theorem EdAt.bl {w W : World} {p : Addr} {e : EdD} (h : EdAt w p e) (hp : p.block < w.heap.size) (hb : Bl w W) : EdAt W p e := by
  obtain ⟨h0, h1, h2, h3⟩ := h
  refine ⟨?_, ?_, ?_, ?_⟩
  · rw [hb.cellOf hp]; exact h0
  · rw [hb.cellOf (p := ⟨p.block, p.off + 1, none⟩) hp]; exact h1
  · rw [hb.cellOf (p := ⟨p.block, p.off + 2, none⟩) hp]; exact h2
  · rw [hb.cellOf (p := ⟨p.block, p.off + 3, none⟩) hp]; exact h3
abbrev RdES := RdS 4 EdAt
theorem RdES.bl {w W : World} {A : Option Addr} {n c : Nat} {l : List EdD} (h : RdES w A n c l) (hb : Bl w W) : RdES W A n c l := RdS.bl (fun h hp hb => h.bl hp hb) h hb
theorem eds_lit {w : World} {g n c : Nat} {l : List EdD} (h : RdES w (some ⟨g, 0, none⟩) n c l) {k : Nat} (hk : k < n) :
    w.cell? ⟨g, k * 4, none⟩ = some (.int .i64 (pix l k).a) ∧ w.cell? ⟨g, k * 4 + 1, none⟩ = some (.int .i64 (pix l k).b) ∧ w.cell? ⟨g, k * 4 + 2, none⟩ = some (.int .i64 (pix l k).l) ∧ w.cell? ⟨g, k * 4 + 3, none⟩ = some (.int .i64 (pix l k).r) := by
  obtain ⟨_, e, _, hc⟩ := h.cells k hk
  cases e
  rw [Addr.add_lit, Nat.zero_add] at hc
  exact hc
theorem bx4 {W : World} {g : Nat} {T : TypeId} {a b c d : Value} (h : Blk W g T #[a, b, c, d]) : W.cell? ⟨g, 0, none⟩ = some a ∧ W.cell? ⟨g, 1, none⟩ = some b ∧ W.cell? ⟨g, 2, none⟩ = some c ∧ W.cell? ⟨g, 3, none⟩ = some d := ⟨h.cell 0, h.cell 1, h.cell 2, h.cell 3⟩
end

section
open Go.RowKit

theorem isNaN_q (w : World) (x : Int) : Calls Tryz.prog 234 #[.int .i64 x] w fun e w' => e = .returned (.bool false) ∧ w' = w := by
  go_enter Tryz.func234, Tryz.ntmps234
  go_wp2_with fail
  go_ret
  exact ⟨rfl, rfl⟩
theorem Compare_q (w : World) (x y : Int) : Calls Tryz.prog 207 #[.int .i64 x, .int .i64 y] w fun e w' => e = .returned (.int .i64 (cmpZ x y)) ∧ w' = w := by
  rcases Int.lt_trichotomy x y with h | h | h
  · have hv := Lib.hid (show cmpZ x y = -1 by unfold cmpZ; rw [if_pos h])
    have h2 : ¬ y < x := by omega
    go_enter Tryz.func207, Tryz.ntmps207
    go_wp2_with (go_at_call 234; refine (isNaN_q _ _).mono ?_; rintro e w' ⟨rfl, rfl⟩)
    go_ret
    exact ⟨ret_int hv.out.symm, rfl⟩
  · have hv := Lib.hid (show cmpZ x y = 0 by unfold cmpZ; rw [if_neg (by omega), if_neg (by omega)])
    have h1 : ¬ x < y := by omega
    have h2 : ¬ y < x := by omega
    have h := Lib.hid h; rename_i h_; clear h_
    go_enter Tryz.func207, Tryz.ntmps207
    go_wp2_with (go_at_call 234; refine (isNaN_q _ _).mono ?_; rintro e w' ⟨rfl, rfl⟩)
    go_ret
    exact ⟨ret_int hv.out.symm, rfl⟩
  · have hv := Lib.hid (show cmpZ x y = 1 by unfold cmpZ; rw [if_neg (by omega), if_pos h])
    have h2 : ¬ x < y := by omega
    go_enter Tryz.func207, Tryz.ntmps207
    go_wp2_with (go_at_call 234; refine (isNaN_q _ _).mono ?_; rintro e w' ⟨rfl, rfl⟩)
    go_ret
    exact ⟨ret_int hv.out.symm, rfl⟩
def orZ (x y : Int) : Int := if x = 0 then y else x
theorem Or_q (w : World) {g c : Nat} {x y : Int} (h0 : w.cell? ⟨g, 0, none⟩ = some (.int .i64 x)) (h1 : w.cell? ⟨g, 1, none⟩ = some (.int .i64 y)) :
    Calls Tryz.prog 206 #[.slice (some ⟨g, 0, none⟩) 2 c] w fun e w' => e = .returned (.int .i64 (orZ x y)) ∧ w' = w := by
  unfold orZ
  by_cases hx : x = 0
  · subst hx
    rw [if_pos rfl]
    by_cases hy : y = 0
    · subst hy
      go_enter Tryz.func206, Tryz.ntmps206
      go_wp2_with fail
      go_loop [8] (fun i => ∃ k : Nat, k ≤ 2 ∧ i = .int .i64 (k : Int)) (fun i => 2 - (intOf i).toNat)
      case atStart => exact ⟨0, by omega, rfl⟩
      case round =>
        obtain ⟨k, hk, rfl⟩ := hrel
        rcases (show k = 0 ∨ k = 1 ∨ k = 2 by omega) with rfl | rfl | rfl
        · have e0 : ((0 : Nat) : Int) = 0 := rfl
          rw [e0]
          clear e0 hk
          go_wp2_with fail
          go_round
          case rel => exact ⟨1, by omega, rfl⟩
          case measure => simp [intOf]
        · have e0 : ((1 : Nat) : Int) = 1 := rfl
          rw [e0]
          clear e0 hk
          go_wp2_with fail
          go_round
          case rel => exact ⟨2, by omega, rfl⟩
          case measure => simp [intOf]
        · have e0 : ((2 : Nat) : Int) = 2 := rfl
          rw [e0]
          clear e0 hk
          go_wp2_with fail
          go_ret
          exact ⟨rfl, rfl⟩
    · have hd : decide (y = 0) = false := decide_eq_false hy
      go_enter Tryz.func206, Tryz.ntmps206
      go_wp2_with fail
      go_loop [8] (fun i => ∃ k : Nat, k ≤ 1 ∧ i = .int .i64 (k : Int)) (fun i => 2 - (intOf i).toNat)
      case atStart => exact ⟨0, by omega, rfl⟩
      case round =>
        obtain ⟨k, hk, rfl⟩ := hrel
        rcases (show k = 0 ∨ k = 1 by omega) with rfl | rfl
        · have e0 : ((0 : Nat) : Int) = 0 := rfl
          rw [e0]
          clear e0 hk
          go_wp2_with fail
          go_round
          case rel => exact ⟨1, by omega, rfl⟩
          case measure => simp [intOf]
        · have e0 : ((1 : Nat) : Int) = 1 := rfl
          rw [e0]
          clear e0 hk
          go_wp2_with fail
          go_ret
          exact ⟨rfl, rfl⟩
  · rw [if_neg hx]
    have hd : decide (x = 0) = false := decide_eq_false hx
    go_enter Tryz.func206, Tryz.ntmps206
    go_wp2_with fail
    go_loop [8] (fun i => i = .int .i64 0) (fun i => 2 - (intOf i).toNat)
    case atStart => rfl
    case round =>
      subst hrel
      go_wp2_with fail
      go_ret
      exact ⟨rfl, rfl⟩
set_option maxRecDepth 100000 in
set_option maxHeartbeats 16000000 in
theorem compareEdges_any (w : World) (x y : EdD) :
    Calls Tryz.prog 168 #[.agg #[.int .i64 x.a, .int .i64 x.b, .int .i64 x.l, .int .i64 x.r], .agg #[.int .i64 y.a, .int .i64 y.b, .int .i64 y.l, .int .i64 y.r]] w fun e w' => e = .returned (.int .i64 (cmpE x y)) ∧ Bl w w' := by
  go_enter Tryz.func168, Tryz.ntmps168
  go_wp2_with fail
  refine wp_gen (fun W => Bl w W ∧ Blk W w.heap.size 175 #[.int .i64 x.a, .int .i64 x.b, .int .i64 x.l, .int .i64 x.r] ∧ Blk W (w.heap.size + 1) 175 #[.int .i64 y.a, .int .i64 y.b, .int .i64 y.l, .int .i64 y.r]) ⟨slc, bts, bts⟩ ?_
  rintro W ⟨hbW, h1, h2⟩
  go_region_held3 (fun w' => (w'.cell? ⟨w.heap.size, 0, none⟩ = some (.int .i64 x.a) ∧ w'.cell? ⟨w.heap.size, 1, none⟩ = some (.int .i64 x.b) ∧ w'.cell? ⟨w.heap.size, 2, none⟩ = some (.int .i64 x.l) ∧ w'.cell? ⟨w.heap.size, 3, none⟩ = some (.int .i64 x.r)) ∧ (w'.cell? ⟨(w.heap.size + 1), 0, none⟩ = some (.int .i64 y.a) ∧ w'.cell? ⟨(w.heap.size + 1), 1, none⟩ = some (.int .i64 y.b) ∧ w'.cell? ⟨(w.heap.size + 1), 2, none⟩ = some (.int .i64 y.l) ∧ w'.cell? ⟨(w.heap.size + 1), 3, none⟩ = some (.int .i64 y.r))) (first | exact ⟨bx4 (T := 175) (h1.bl slc), bx4 (T := 175) (h2.bl slc)⟩) (first | (go_at_call 207; (with_reducible refine (Compare_q _ x.a y.a).mono ?_); rintro e w1 ⟨rfl, rfl⟩) | (go_at_call 207; (with_reducible refine (Compare_q _ x.b y.b).mono ?_); rintro e w1 ⟨rfl, rfl⟩) | (go_at_call 206; (refine (Or_q (x := cmpZ x.a y.a) (y := cmpZ x.b y.b) _ (by exact ((Blk.new _ _ _).cell 0).trans rfl) (by exact ((Blk.new _ _ _).cell 1).trans rfl)).mono ?_); rintro e w1 ⟨rfl, rfl⟩))
  go_wp2_with fail
  go_ret
  exact ⟨ret_int rfl, slc⟩
end

end Go.Proofs.YtajlahjghapbkaaGreat
