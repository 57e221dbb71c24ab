/- Lemmas. -/
import Derived.Test.YtajlahjghapbkaaGreatRows
import Derived.Test.YtajlahjghapbkaaGreatPBuildersM18
import Derived.Test.YtajlahjghapbkaaGreatPBuildersM11
import Derived.Test.YtajlahjghapbkaaGreatPBuildersM09
import Derived.Test.YtajlahjghapbkaaGreatPBuildersM13
import Derived.Test.YtajlahjghapbkaaGreatPBuildersM14
import Derived.Deep.Cut
import Derived.Test.YtajlahjghapbkaaGreatPBuildersM15
namespace Go.Proofs.YtajlahjghapbkaaGreat
section
open Go.RowKit
theorem step_append_rowX {P : Program} {α : Type} [Inhabited α] {N : List Nat → Prop} (hN : AppN N) {size bytes : Nat} {El : World → Array Value → Nat → α → List Nat → Prop} (hk : KeepE size El) {TP t : TypeId} {z : Value}
    (hinfo : (P.info? TP).map (fun i => (i.zero, i.size, i.bytes)) = some (some z, size, bytes)) (hzs : z.cells.size = size) (hsz : 0 < size) (hby : bytes ≤ 4096) (ht : P.underlying t = some (.slice TP))
    {W : World} {news : Array Value} {p : α} {bs : List Nat} {lo hi : Nat} {l : List α} {ops : Array Oper} {o : Oper} {a : Act} {K : Act → World → Prop} {Q : Exit → Act → World → Prop} {F : Prop} (hgd : o.guard = none) (s x : Operand)
    (ho : o.op = .call { callee := .builtin .append, args := #[s, x], argTypes := #[t, t] }) (v : Value) (hs : a.eval s = v) (hrow : RowG N TP size El lo hi W v l)
    (hel : El W news 0 p bs) (hnl : news.size = size) (h1 : ∀ u ∈ news.toList, u.oneCell' = true) (hbs : ∀ b ∈ bs, hi ≤ b ∧ b < W.heap.size) (hNb : N bs) (hlh : lo ≤ hi)
    (c : Nat) (hx : a.eval x = .slice (some ⟨W.heap.size, 0, none⟩) 1 c) (hlen : l.length ≤ 1048576) (w0 : World) (hb : Bl w0 W) (h0 : w0.heap.size ≤ lo)
    (h : ∀ v' w', RowG N TP size El lo w'.heap.size w' v' (l ++ [p]) → Bl w0 w' → (v' = .slice none 0 0 → False) → (∀ g, g < W.heap.size → v.ownBlock ≠ some g → w'.heap[g]? = W.heap[g]? ∧ v'.ownBlock ≠ some g) → K (a.put o.dst v') w') : if Region.wanted o (yielded ops a.tmps) = true then Oper.wp P o a (W.alloc (.cells news TP)) K Q else F := by
  have hw : Region.wanted o (yielded ops a.tmps) = true := by simp [Region.wanted, hgd]
  rw [if_pos hw]
  obtain ⟨i0, hi0, hz0, hz1, hz2⟩ := info_parts hinfo
  obtain ⟨cells, fs, r1, r2, r3, r4, r5, r6, r7⟩ := hrow
  have ro := World.ownsRow.alloc r1 (.cells news TP)
  have hnew : (W.alloc (.cells news TP)).heap[W.heap.size]? = some (.cells news TP (0, 0)) := heap_alloc_new W _
  have hsz2 : (W.alloc (.cells news TP)).heap.size = W.heap.size + 1 := by simp
  have hm : (l.length + 1) * bytes ≤ 140737488355328 := Nat.le_trans (Nat.mul_le_mul (show l.length + 1 ≤ 1048577 by omega) hby) (by omega)
  obtain ⟨v', w', hrun, g1, g2, g3, g4⟩ := run_append_own_at (P := P) (W.alloc (.cells news TP)) lo t o.type TP i0 z size bytes ht hi0 hz0 hz1 hz2 hzs hsz v l.length cells ro ⟨W.heap.size, 0, none⟩ 1 c news.toList (by simpa using hnl) (World.news_of_block hnew) h1 (by unfold maxLen; omega) hm (by omega)
  unfold Oper.wp execOp
  simp only [ho, resolve, invoke, builtin, Sem.run_bind, Sem.run_pure, Result.andThen_ok, List.map_toArray, List.map_cons, List.map_nil, hs, hx, hrun]
  have hne : v' ≠ .slice none 0 0 := fun e => by have := (g3.1 e).2; omega
  have hws := g2.size
  have hold : ∀ b, b < W.heap.size → v.ownBlock ≠ some b → w'.heap[b]? = W.heap[b]? := fun b hb1 hb2 => (g2.block b (by omega) (fun e => hb2 e.symm)).trans (Below.heap_alloc W _ b hb1)
  have hown : ∀ b, v'.ownBlock = some b → (v.ownBlock = some b ∨ b = W.heap.size + 1) := by
    intro b e
    rcases g4 with g4 | g4
    · exact .inl (by rw [← g4]; exact e)
    · rw [g4] at e; injection e with e; right; omega
  have hvl : ∀ b, v'.ownBlock = some b → lo ≤ b ∧ b < w'.heap.size := fun b e => by have := World.ownsRow.lt g1 b e; exact this
  refine h v' w' ⟨cells ++ news.toList, fs ++ [bs], by simpa using g1, fun g e => (hvl g e).2, by simp [r3], fun i hi' => ?_, fun b hm' => ?_, ?_, Nat.le_refl _⟩ ((hb.alloc _).grown g2 (fun k e => by have := (World.ownsRow.lt r1 k e).1; omega)) hne (fun g hg hn => ⟨hold g hg hn, fun e => by rcases hown g e with e | e; exact hn e; omega⟩)
  · have hcl := r1.1
    rw [List.length_append, List.length_singleton] at hi'
    rcases Nat.lt_succ_iff_lt_or_eq.1 hi' with hi' | rfl
    · rw [pix_append_left hi', pix_append_left (by rw [r3]; exact hi')]
      refine hk _ _ _ _ _ _ _ _ (r4 i hi') (fun j hj => ?_) (by omega) fun b hb' => ?_
      · have : i * size + j < cells.length := by
          rw [hcl]
          have : (i + 1) * size ≤ l.length * size := Nat.mul_le_mul_right _ hi'
          rw [Nat.succ_mul] at this
          omega
        simp [List.getElem?_append_left this]
      · have := r5 b (mem_flatten_pix hb')
        exact hold b (by omega) this.2.2
    · rw [pix_append_last, pixs_last r3]
      refine hk _ _ _ _ _ _ _ _ hel (fun j hj => ?_) (by omega) fun b hb' => ?_
      · have : (cells ++ news.toList)[l.length * size + j]? = news.toList[j]? := by
          rw [List.getElem?_append_right (by rw [hcl]; omega), hcl]
          congr 1; omega
        simpa using this
      · have := hbs b hb'
        exact hold b this.2 fun e => by have := r2 b e; omega
  · rw [List.flatten_append, List.mem_append] at hm'
    rcases hm' with hm' | hm'
    · have := r5 b hm'
      refine ⟨this.1, by omega, fun e => ?_⟩
      rcases hown b e with e | e
      · exact this.2.2 e
      · omega
    · have := hbs b (by simpa using hm')
      refine ⟨by omega, by omega, fun e => ?_⟩
      rcases hown b e with e | e
      · have := r2 b e; omega
      · omega
  · rw [List.flatten_append]
    refine hN.2 _ _ r6 (by simpa using hNb) fun x hx' y hy e => ?_
    have a1 := r5 x hx'
    have a2 := hbs y (by simpa using hy)
    omega
theorem step_append_ptX {N : List Nat → Prop} (hN : AppN N) {W : World} {s : Bool} {A : Option Addr} {n c : Nat} {B : Option Addr} {m d : Nat} {t : Bool} {C : Option Addr} {i e : Nat} {D : Option Addr} {j f : Nat} {p : PtD} {lo hi b0 : Nat} {l : List PtD} {ops : Array Oper} {o : Oper} {a : Act} {K : Act → World → Prop} {Q : Exit → Act → World → Prop} {F : Prop} (hgd : o.guard = none) (s1 x1 : Operand)
    (ho : o.op = .call { callee := .builtin .append, args := #[s1, x1], argTypes := #[23, 23] }) (v : Value) (hs : a.eval s1 = v) (hrow : RowP N lo hi W v l)
    (hpt : OwPN N 3 b0 W s A n c B m d t C i e D j f p) (hb0 : hi ≤ b0) (hlh : lo ≤ hi) (c1 : Nat) (hx : a.eval x1 = .slice (some ⟨W.heap.size, 0, none⟩) 1 c1) (hlen : l.length ≤ 1048576) (w0 : World) (hb : Bl w0 W) (h0 : w0.heap.size ≤ lo)
    (h : ∀ v' w', RowP N lo w'.heap.size w' v' (l ++ [p]) → Bl w0 w' → (∀ g, g < W.heap.size → v.ownBlock ≠ some g → w'.heap[g]? = W.heap[g]? ∧ v'.ownBlock ≠ some g) → K (a.put o.dst v') w') : if Region.wanted o (yielded ops a.tmps) = true then Oper.wp Tryz.prog o a (W.alloc (.cells #[.bool s, .slice A n c, .slice B m d, .bool t, .slice C i e, .slice D j f] 31)) K Q else F := by
  obtain ⟨b1, b2, f1, f2, f3, f4⟩ := hpt
  refine step_append_rowX hN (ptIn_keep 3) info_pt (by rfl) (by omega) (by omega) Tryz.underlying23 hgd s1 x1 ho v hs hrow (p := p) (bs := b1 ++ b2) ⟨_, _, _, _, _, _, _, _, _, _, _, _, _, _, b1, b2, ⟨rfl, rfl, rfl, rfl, rfl, rfl⟩, f1, f2, rfl⟩ rfl (by simp [Value.oneCell']) (fun b hm => ⟨Nat.le_trans hb0 (f3 b hm).1, (f3 b hm).2⟩) f4 hlh c1 hx hlen w0 hb h0 fun v' w' g1 g2 _ g4 => h v' w' g1 g2 g4

def TrsE (_ : World) (cs : Array Value) (i : Nat) (t : TriD) (bs : List Nat) : Prop := TrIn cs i t ∧ bs = []
theorem trIn_keep : KeepE 5 TrsE := by
  intro w W cs cs' i i' x bs h hc hs hb
  obtain ⟨⟨h0, h1, h2, h3, h4⟩, e⟩ := h
  exact ⟨⟨(hc 0 (by omega)).trans h0, (hc 1 (by omega)).trans h1, (hc 2 (by omega)).trans h2, (hc 3 (by omega)).trans h3, (hc 4 (by omega)).trans h4⟩, e⟩
abbrev RowT (lo hi : Nat) (w : World) (v : Value) (l : List TriD) : Prop := RowG AnyN 73 5 TrsE lo hi w v l
theorem info_tri' : (Tryz.prog.info? 73).map (fun i => (i.zero, i.size, i.bytes)) = some (some (.agg #[.int .i64 0, .int .i64 0, .int .i64 0, .int .i64 0, .int .i64 0]), 5, 40) := by kernel_rfl
/-- A row's block differs from all blocks from hi on. -/
theorem RowG.ne {α : Type} [Inhabited α] {N : List Nat → Prop} {TP : TypeId} {size lo hi : Nat} {El : World → Array Value → Nat → α → List Nat → Prop} {w : World} {v : Value} {l : List α} (h : RowG N TP size El lo hi w v l) {g : Nat} (hg : hi ≤ g) : v.ownBlock ≠ Option.some g := by
  obtain ⟨_, _, _, h2, _⟩ := h
  intro e
  have := h2 g e
  omega
theorem Blk.oth {g : Nat} {T : TypeId} {cs : Array Value} {v v' : Value} {W w' : World} (h : Blk W g T cs) (ho : ∀ g, g < W.heap.size → v.ownBlock ≠ Option.some g → w'.heap[g]? = W.heap[g]? ∧ v'.ownBlock ≠ Option.some g) (hv : v.ownBlock ≠ Option.some g) : Blk w' g T cs :=
  (ho g h.lt hv).1.trans h
end

section
open Go.RowKit

theorem OwI.cutN {T : TypeId} {b0 : Nat} {w : World} {A : Option Addr} {n c m N : Nat} {l : List Nat} (h : OwI T b0 w A n c (ints l)) (hm : m ≤ n) (ht : l.take m = dig N) : OwI T b0 w A m c (ints (dig N)) := by
  refine ⟨by rw [← ht]; exact h.1.cut hm, ?_⟩
  rcases h.2 with h0 | ⟨g, cs, e, hg, hh, hsz⟩
  · exact .inl (by omega)
  · exact .inr ⟨g, cs, e, hg, hh, by omega⟩
/-- What holds behind k rounds of a subtraction that collects. -/
structure SubA (N M k br : Nat) (o : List Nat) : Prop where
  len : o.length = k
  digs : Digs o
  small : br ≤ 1
  diff : val o + vf (dx (dig M)) k = vf (dx (dig N)) k + br * Bs ^ k
theorem SubA.step {N M k br d br' : Nat} {o : List Nat} (h : SubA N M k br o) (hd : d < Bs) (hb : br' ≤ 1) (he : d + br + dx (dig M) k = dx (dig N) k + br' * Bs) : SubA N M (k + 1) br' (o ++ [d]) := by
  refine ⟨by simp [h.len], digs_snoc h.digs hd, hb, ?_⟩
  have h2 := h.diff
  simp only [vf]
  rw [val_snoc, h.len, Nat.pow_succ]
  have h3 : (d + br + dx (dig M) k) * Bs ^ k = (dx (dig N) k + br' * Bs) * Bs ^ k := by rw [he]
  grind
theorem SubA.stop {N M n br : Nat} {o : List Nat} (h : SubA N M n br o) (hn : (dig N).length = n) (hm : (dig M).length ≤ n) (hle : M ≤ N) : val o = N - M := by
  have h1 := h.diff
  rw [val_vf hm, val_vf (by omega), val_dig, val_dig] at h1
  have h2 := val_lt h.digs
  rw [h.len] at h2
  have h3 := h.small
  rcases Nat.eq_zero_or_pos br with h0 | h0
  · subst h0; omega
  · obtain rfl : br = 1 := by omega
    omega

theorem OwL.one {E : TypeId} {base : Nat} (w : World) (x : Int) (hb : base ≤ w.heap.size) : OwL E base (w.alloc (.cells #[.int .i64 x] E)) (.slice (some ⟨w.heap.size, 0, none⟩) 1 1) [x] :=
  World.ownsRow_lit w #[.int .i64 x] 1 hb (by decide) rfl

theorem dx_dig (N k : Nat) : dx (dig N) k = N / Bs ^ k % Bs := by
  induction k generalizing N with
  | zero =>
    rw [Nat.pow_zero, Nat.div_one]
    by_cases h : N = 0
    · subst h; rw [dig_zero]; rfl
    · rw [dig_pos h, dx_cons_zero]
  | succ k ih =>
    by_cases h : N = 0
    · subst h; rw [dig_zero, Nat.zero_div]; rfl
    · rw [dig_pos h, dx_cons_succ, ih, Nat.div_div_eq_div_mul, Nat.pow_succ, Nat.mul_comm]
end

section
open Go.RowKit

/-- What holds when the limbs from place k on have been divided. -/
structure DvRel (N V n k R : Nat) (o : List Nat) : Prop where
  len : o.length = n
  digs : Digs o
  zero : ∀ j, j < k → dx o j = 0
  quo : val o = N / Bs ^ k / V * Bs ^ k
  rest : R = N / Bs ^ k % V
theorem DvRel.start {N V n : Nat} (h : (dig N).length = n) : DvRel N V n n 0 (List.replicate n 0) := by
  have h1 : N / Bs ^ n = 0 := Nat.div_eq_of_lt (dig_len_le.1 (Nat.le_of_eq h))
  exact ⟨by simp, digs_replicate _, fun j _ => dx_replicate _ _, by rw [val_replicate, h1]; simp, by rw [h1]; simp⟩
theorem DvRel.digit {N V n k R : Nat} {o : List Nat} (h : DvRel N V n (k + 1) R o) (hV : 0 < V) : dx (dig N) k + Bs * R < Bs * V ∧ (dx (dig N) k + Bs * R) / V < Bs := by
  have h1 := dx_lt (digs_dig N) k
  have h2 : R < V := by rw [h.rest]; exact Nat.mod_lt _ hV
  have h3 : dx (dig N) k + Bs * R < Bs * V := by
    have : Bs * (R + 1) ≤ Bs * V := Nat.mul_le_mul_left _ h2
    rw [Nat.mul_add] at this
    omega
  exact ⟨h3, (Nat.div_lt_iff_lt_mul hV).2 h3⟩
theorem DvRel.step {N V n k R : Nat} {o : List Nat} (h : DvRel N V n (k + 1) R o) (hk : k < n) (hV : 0 < V) : DvRel N V n k ((dx (dig N) k + Bs * R) % V) (o.set k ((dx (dig N) k + Bs * R) / V)) := by
  have hi : k < o.length := by rw [h.len]; exact hk
  have hd := (h.digit hV).2
  have hT : N / Bs ^ k = dx (dig N) k + Bs * (N / Bs ^ (k + 1)) := by
    rw [dx_dig, Nat.pow_succ, ← Nat.div_div_eq_div_mul]
    exact (Nat.mod_add_div _ _).symm
  have hS := Nat.mod_add_div (N / Bs ^ (k + 1)) V
  rw [← h.rest] at hS
  have hT2 : N / Bs ^ k = (dx (dig N) k + Bs * R) + V * (Bs * (N / Bs ^ (k + 1) / V)) := by
    rw [hT]
    conv => lhs; rw [← hS]
    grind
  refine ⟨by rw [List.length_set]; exact h.len, digs_set h.digs hd _, fun j hj => ?_, ?_, ?_⟩
  · rw [dx_set hi, if_neg (by omega)]
    exact h.zero j (by omega)
  · have h0 := val_set hi ((dx (dig N) k + Bs * R) / V)
    rw [h.zero k (by omega), Nat.zero_mul, Nat.add_zero, h.quo] at h0
    rw [h0, hT2, Nat.add_mul_div_left _ _ hV, Nat.pow_succ]
    grind
  · rw [hT2, Nat.add_mul_mod_self_left]
theorem DvRel.skip {N V n k R : Nat} {o : List Nat} (h : DvRel N V n (k + 1) R o) (hk : k < n) (hV : 0 < V) (hlt : dx (dig N) k + Bs * R < V) : DvRel N V n k (dx (dig N) k + Bs * R) o := by
  have := h.step hk hV
  rw [Nat.div_eq_of_lt hlt, Nat.mod_eq_of_lt hlt] at this
  have e : o.set k 0 = o := by
    apply List.ext_getElem (by simp)
    intro i h1 h2
    rw [List.getElem_set]
    split
    · rename_i he
      subst he
      have := h.zero k (by omega)
      unfold dx at this
      rw [List.getD_eq_getElem?_getD, List.getElem?_eq_getElem h2] at this
      exact this.symm
    · rfl
  rwa [e] at this
theorem DvRel.stop {N V n R : Nat} {o : List Nat} (h : DvRel N V n 0 R o) : val o = N / V ∧ R = N % V := by
  have h1 := h.quo
  have h2 := h.rest
  simp only [Nat.pow_zero, Nat.div_one, Nat.mul_one] at h1 h2
  exact ⟨h1, h2⟩
end

section
open Go.RowKit
end

section
open Go.RowKit

/-- The signed number of a sign and a magnitude. -/
def sx (s : Bool) (N : Nat) : Int := if s = true then -(N : Int) else (N : Int)
theorem sx_abs (s : Bool) (N : Nat) : (sx s N).natAbs = N := by unfold sx; split <;> omega
theorem sx_neg (s : Bool) (N : Nat) : decide (sx s N < 0) = (s && decide (0 < N)) := by
  unfold sx
  rcases s with _ | _
  · simp
  · simp
def lowS (s : Bool) (N D : Nat) : RatD := if D = 0 then zR else ofFrac (sx s N) D
end

section
open Go.RowKit

section
variable (w : World) {s : Bool} {A : Option Addr} {n c : Nat} {B : Option Addr} {m d : Nat} {r : RatD}
end

theorem OwI.grown {T : TypeId} {b0 : Nat} {w w' : World} {A : Option Addr} {n c : Nat} {l : List Int} {row : Option Nat} (h : OwI T b0 w A n c l) (hg : w.grownBy w' row) (hr : ∀ k, row = some k → k < b0) : OwI T b0 w' A n c l := by
  obtain ⟨bs, h1, hf⟩ := FtI.of_own h
  have h2 : FtI T w' A n c l bs := h1.keep hg.size (fun b hb => hg.block b (hf.2 b hb).2 (by intro e; have := hr b e.symm; have := (hf.2 b hb).1; omega))
  refine ⟨h2.1, ?_⟩
  rcases h2.2 with ⟨h0, _⟩ | ⟨g, cs, _, e, hh, hn, e2⟩
  · exact .inl h0
  · exact .inr ⟨g, cs, e, (hf.2 g (by rw [e2]; simp)).1, hh, hn⟩
end

section
open Go.RowKit
end

section
open Go.RowKit

theorem lowS_self {x : Int} {s : Bool} {D : Nat} (hD : 0 < D) (hs : s = decide (x < 0)) : lowS s x.natAbs D = ofFrac x D := by
  unfold lowS
  rw [if_neg (by omega)]
  congr 1
  unfold sx
  rw [hs]
  by_cases h : x < 0
  · simp [h]; omega
  · simp [h]; omega
end

section
open Go.RowKit
end

section
open Go.RowKit
end

section
open Go.RowKit
end

section
open Go.RowKit

theorem okB_of {w : World} {s : Bool} {A : Option Addr} {n c : Nat} {x : Int} (h : IsB w s A n c x) (hn : n ≤ 60) : okB s (ints (dig x.natAbs)) = true := by
  refine okB_yes ⟨⟨_, rfl, by rw [h.len]; exact hn⟩, fun hs => ?_⟩
  rw [ints_len]
  rw [h.1] at hs
  have : x < 0 := by simpa using hs
  exact dig_len_pos.2 (by omega)
set_option maxRecDepth 100000 in
set_option maxHeartbeats 8000000 in
theorem RatMake_any (w : World) {s : Bool} {A : Option Addr} {n c : Nat} {x : Int} {t : Bool} {B : Option Addr} {m d : Nat} {y : Int} (h : IsB w s A n c x) (k : IsB w t B m d y) (hn : n ≤ 60) (hm : m ≤ 60) (hy : y ≠ 0) :
    Calls Tryz.prog 123 #[.agg #[.bool s, .slice A n c], .agg #[.bool t, .slice B m d]] w fun e w' => ∃ s1 A1 n1 c1 B1 m1 d1, e = .returned (.agg #[.bool s1, .slice A1 n1 c1, .slice B1 m1 d1]) ∧ OwR 3 w.heap.size w' s1 A1 n1 c1 B1 m1 d1 (lowS (s != t) x.natAbs y.natAbs) ∧ Bl w w' := by
  have hB := okB_of h hn
  have hB' := okB_of k hm
  have hy0 : 0 < y.natAbs := by omega
  have hm0 : 0 < m := by rw [← k.len]; exact dig_len_pos.2 hy0
  have hne : ((m : Int) == 0) = false := by simp; omega
  have hlow := Lib.hid (show lowS (s != t) x.natAbs y.natAbs = ofFrac (sx (s != t) x.natAbs) y.natAbs by unfold lowS; rw [if_neg (by omega)])
  clear hy
  go_enter Tryz.func123, Tryz.ntmps123
  go_wp2_with fail
  refine calls_gen (fun W => Bl w W ∧ Blk W (w.heap.size) 27 #[.bool s, .slice A n c] ∧ Blk W (w.heap.size + 1) 27 #[.bool t, .slice B m d] ∧ Wk 3 29 (w.heap.size + 1 + 1) W) ⟨slc, bts, bts, bts⟩ ?_
  rintro W ⟨hbW, hx, hx', hr⟩
  refine (BigIntOk_any _ (RdI.bl h.mg hbW)).mono ?_
  rw [hB]
  rintro e w1 ⟨rfl, hb1⟩
  have hx := hx.bl hb1
  have hx' := hx'.bl hb1
  have hr := hr.bl hb1
  have hbW := hbW.next hb1
  clear hb1
  obtain ⟨i0, i1⟩ := bx2 hx
  obtain ⟨j0, j1⟩ := bx2 hx'
  go_wp2_with fail
  refine (BigIntOk_any _ (RdI.bl k.mg hbW)).mono ?_
  rw [hB']
  rintro e w2 ⟨rfl, hb2⟩
  have hx := hx.bl hb2
  have hx' := hx'.bl hb2
  have hr := hr.bl hb2
  have hbW := hbW.next hb2
  clear hb2
  obtain ⟨i0, i1⟩ := bx2 hx
  obtain ⟨j0, j1⟩ := bx2 hx'
  have hz2 := hr.lt
  go_wp2_with fail
  go_region_held3 (fun w' => (w'.cell? ⟨w.heap.size, 0, none⟩ = some (.bool s) ∧ w'.cell? ⟨w.heap.size, 1, none⟩ = some (.slice A n c)) ∧ (w'.cell? ⟨w.heap.size + 1, 0, none⟩ = some (.bool t) ∧ w'.cell? ⟨w.heap.size + 1, 1, none⟩ = some (.slice B m d)) ∧ (w'.cell? ⟨w.heap.size + 1 + 1, 0, none⟩ = some (cellD w' (w.heap.size + 1 + 1) 0) ∧ w'.cell? ⟨w.heap.size + 1 + 1, 1, none⟩ = some (cellD w' (w.heap.size + 1 + 1) 1) ∧ w'.cell? ⟨w.heap.size + 1 + 1, 2, none⟩ = some (cellD w' (w.heap.size + 1 + 1) 2)) ∧ w'.frozen? ⟨w.heap.size + 1 + 1, 0, none⟩ = false ∧ w'.frozen? ⟨w.heap.size + 1 + 1, 1, none⟩ = false ∧ w'.frozen? ⟨w.heap.size + 1 + 1, 2, none⟩ = false) (first | exact ⟨bx2 (T := 27) bts, bx2 (T := 27) bts, Wk.out3 (T := 29) bts⟩) (first | (go_at_call 158; (with_reducible refine (Clone_any _ (RdI.bl h.mg slc) (by omega)).mono ?_); rintro e w3 ⟨A3, n3, c3, rfl, hO3, hb3⟩; (have hO3 : OwI 3 (w.heap.size + 1 + 1 + 1) w3 A3 n3 c3 _ := hO3.mono hz2)) | (go_at_call 171; refine (signed_any _ _ hO3.rd).mono ?_; rintro e w4 ⟨s4, rfl, hs4, hb4⟩) | (go_at_call 158; (with_reducible refine (Clone_any _ (RdI.bl k.mg slc) (by omega)).mono ?_); rintro e w5 ⟨A5, n5, c5, rfl, hO5, hb5⟩; (have hz4 : w.heap.size + 1 + 1 + 1 ≤ w4.heap.size := Wk.lt (k := 3) (T := 29) bts); (have hR5 : OwR 3 (w.heap.size + 1 + 1 + 1) w5 s4 A3 n3 c3 A5 n5 c5 (raw (sx (s != t) x.natAbs) y.natAbs) := OwR.two' (by show OwI _ _ _ _ _ _ (ints (dig (sx (s != t) x.natAbs).natAbs)); rw [sx_abs]; exact hO3.bl hb4) hO5 hb5 hz4 (by rw [hs4.out]; exact (sx_neg _ _).symm)); (have hz5 : w.heap.size + 1 + 1 + 1 ≤ w5.heap.size := Wk.lt (k := 3) (T := 29) bts); (have hl3 : n3 ≤ 60 := by rw [← hO3.rd.lenN, h.len]; exact hn); (have hl5 : n5 ≤ 60 := by rw [← hO5.rd.lenN, k.len]; exact hm)) | (go_at_call 120; refine (reduced_any _ hR5 hz5 (by omega) (by omega) hy0).mono ?_; rintro e w6 ⟨s1, A1, n1, c1, B1, m1, d1, rfl, hR, hb6⟩))
  have hr := (show Wk 3 29 (w.heap.size + 1 + 1) w6 from bts)
  have hbW : Bl w w6 := slc
  rw [← hlow.out] at hR
  obtain ⟨v0, x0⟩ := hr.val_ (i := 0) (by omega)
  obtain ⟨v1, x1⟩ := hr.val_ (i := 1) (by omega)
  obtain ⟨v2, x2⟩ := hr.val_ (i := 2) (by omega)
  have hg := hr.lt
  obtain ⟨cs4, hB4, hc4⟩ := hr
  have hf0 := hB4.frozen 0
  have hf1 := hB4.frozen 1
  have hf2 := hB4.frozen 2
  go_wp2_with fail
  exact bodyPost_ret (v := .agg #[.bool s1, .slice A1 n1 c1, .slice B1 m1 d1]) (by simp [results, Tryz.results123, go_sem, x0, x1, x2]) rfl ⟨_, _, _, _, _, _, _, rfl, (((hR.far (by simp) _).far (by simp) _).far (by simp) _).mono (by omega), slc⟩

theorem int_len {x : Int} (h1 : -9223372036854775808 ≤ x) (h2 : x ≤ 9223372036854775807) : (dig x.natAbs).length ≤ 3 := dig_len_le.2 (by rw [Bs_eq]; omega)
set_option maxRecDepth 100000 in
set_option maxHeartbeats 4000000 in
theorem RatOf_any (w : World) (x y : Int) (h1 : -9223372036854775808 ≤ x) (h2 : x ≤ 9223372036854775807) (g1 : 0 < y) (g2 : y ≤ 9223372036854775807) :
    Calls Tryz.prog 50 #[.int .i64 x, .int .i64 y] w fun e w' => ∃ s1 A1 n1 c1 B1 m1 d1, e = .returned (.agg #[.bool s1, .slice A1 n1 c1, .slice B1 m1 d1]) ∧ OwR 3 w.heap.size w' s1 A1 n1 c1 B1 m1 d1 (ofFrac x y.natAbs) ∧ Bl w w' := by
  have hv := Lib.hid (show lowS (decide (x < 0) != decide (y < 0)) x.natAbs y.natAbs = ofFrac x y.natAbs by
    rw [decide_eq_false (show ¬ y < 0 by omega), Bool.bne_false]
    exact lowS_self (by omega) rfl)
  have hlx := int_len h1 h2
  have hly := int_len (x := y) (by omega) g2
  go_enter Tryz.func50, Tryz.ntmps50
  go_wp2_with fail
  refine calls_gen (fun W => Bl w W ∧ Wk 3 29 (w.heap.size) W) ⟨slc, bts⟩ ?_
  rintro W ⟨hbW, hr⟩
  refine (BigIntOf_any _ x h1 h2).mono ?_
  rintro e w1 ⟨s1, A1, n1, c1, rfl, hO1, hb1⟩
  have hl1 : n1 ≤ 3 := by rw [← hO1.len]; exact hlx
  go_wp2_with fail
  refine (BigIntOf_any _ y (by omega) g2).mono ?_
  rintro e w2 ⟨s2, A2, n2, c2, rfl, hO2, hb2⟩
  have hl2 : n2 ≤ 3 := by rw [← hO2.len]; exact hly
  have hB1 := hO1.rd.bl hb2
  have q1 := Lib.hid hB1.1
  have q2 := Lib.hid hO2.1
  go_wp2_with fail
  refine (RatMake_any _ hB1 hO2.rd (by omega) (by omega) (by omega)).mono ?_
  rintro e w3 ⟨s3, A3, n3, c3, B3, m3, d3, rfl, hR, hb3⟩
  rw [q1.out, q2.out, hv.out] at hR
  have hr2 := (hr.bl hb1).bl hb2
  have hR := hR.mono (show w.heap.size + 1 ≤ w2.heap.size from hr2.lt)
  have hr := hr2.bl hb3
  have hbW := ((hbW.next hb1).next hb2).next hb3
  obtain ⟨v0, x0⟩ := hr.val_ (i := 0) (by omega)
  obtain ⟨v1, x1⟩ := hr.val_ (i := 1) (by omega)
  obtain ⟨v2, x2⟩ := hr.val_ (i := 2) (by omega)
  have hg := hr.lt
  obtain ⟨cs4, hB4, hc4⟩ := hr
  have hf0 := hB4.frozen 0
  have hf1 := hB4.frozen 1
  have hf2 := hB4.frozen 2
  go_wp2_with fail
  exact bodyPost_ret (v := .agg #[.bool s3, .slice A3 n3 c3, .slice B3 m3 d3]) (by simp [results, Tryz.results50, go_sem, x0, x1, x2]) rfl ⟨_, _, _, _, _, _, _, rfl, (((hR.far (by simp) _).far (by simp) _).far (by simp) _).mono (by omega), slc⟩

set_option maxHeartbeats 4000000 in
theorem RatFromInt_any (w : World) (x : Int) (h1 : -9223372036854775808 ≤ x) (h2 : x ≤ 9223372036854775807) :
    Calls Tryz.prog 23 #[.int .i64 x] w fun e w' => ∃ s1 A1 n1 c1 B1 m1 d1, e = .returned (.agg #[.bool s1, .slice A1 n1 c1, .slice B1 m1 d1]) ∧ OwR 3 w.heap.size w' s1 A1 n1 c1 B1 m1 d1 (ofFrac x 1) ∧ Bl w w' := by
  go_enter Tryz.func23, Tryz.ntmps23
  go_wp2_with fail
  refine calls_gen (fun W => Bl w W ∧ Wk 3 29 (w.heap.size) W) ⟨slc, bts⟩ ?_
  rintro W ⟨hbW, hr⟩
  refine (RatOf_any _ x 1 h1 h2 (by omega) (by omega)).mono ?_
  rintro e w3 ⟨s3, A3, n3, c3, B3, m3, d3, rfl, hR, hb3⟩
  have hR : OwR 3 (w.heap.size + 1) w3 s3 A3 n3 c3 B3 m3 d3 (ofFrac x 1) := hR.mono (show w.heap.size + 1 ≤ W.heap.size from hr.lt)
  have hr := hr.bl hb3
  have hbW := hbW.next hb3
  obtain ⟨v0, x0⟩ := hr.val_ (i := 0) (by omega)
  obtain ⟨v1, x1⟩ := hr.val_ (i := 1) (by omega)
  obtain ⟨v2, x2⟩ := hr.val_ (i := 2) (by omega)
  have hg := hr.lt
  obtain ⟨cs4, hB4, hc4⟩ := hr
  have hf0 := hB4.frozen 0
  have hf1 := hB4.frozen 1
  have hf2 := hB4.frozen 2
  go_wp2_with fail
  exact bodyPost_ret (v := .agg #[.bool s3, .slice A3 n3 c3, .slice B3 m3 d3]) (by simp [results, Tryz.results23, go_sem, x0, x1, x2]) rfl ⟨_, _, _, _, _, _, _, rfl, (((hR.far (by simp) _).far (by simp) _).far (by simp) _).mono (by omega), slc⟩
end

section
open Go.RowKit
end

section
open Go.RowKit
end

section
open Go.RowKit

set_option maxRecDepth 100000 in
set_option maxHeartbeats 4000000 in
theorem PointAt_any (w : World) (x y : Int) (hx1 : -1000000 < x) (hx2 : x ≤ 1000000) (hy1 : -1000000 < y) (hy2 : y ≤ 1000000) :
    Calls Tryz.prog 17 #[.int .i64 x, .int .i64 y] w fun en w' => ∃ s1 A1 n1 c1 B1 m1 d1 t1 C1 i1 e1 D1 j1 f1, en = .returned (.agg #[.bool s1, .slice A1 n1 c1, .slice B1 m1 d1, .bool t1, .slice C1 i1 e1, .slice D1 j1 f1]) ∧ OwP 3 w.heap.size w' s1 A1 n1 c1 B1 m1 d1 t1 C1 i1 e1 D1 j1 f1 ⟨ofFrac x 1, ofFrac y 1⟩ ∧ Bl w w' := by
  go_enter Tryz.func17, Tryz.ntmps17
  go_wp2_with fail
  refine calls_gen (fun W => Bl w W ∧ Wk 6 31 w.heap.size W) ⟨slc, bts⟩ ?_
  rintro W ⟨hbW, hr⟩
  refine (RatFromInt_any _ x (by omega) (by omega)).mono ?_
  rintro e w2 ⟨s1, A1, n1, c1, B1, m1, d1, rfl, hR1, hb2⟩
  go_wp2_with fail
  refine (RatFromInt_any _ y (by omega) (by omega)).mono ?_
  rintro e w3 ⟨t1, C1, i1, e1, D1, j1, f1, rfl, hR2, hb3⟩
  have hz : w.heap.size + 1 ≤ W.heap.size := hr.lt
  have hz2 : W.heap.size ≤ w2.heap.size := Bl.size hb2
  have hr := (hr.bl hb2).bl hb3
  have hbW : Bl w w3 := slc
  have hX : OwP 3 W.heap.size w3 s1 A1 n1 c1 B1 m1 d1 t1 C1 i1 e1 D1 j1 f1 ⟨ofFrac x 1, ofFrac y 1⟩ := OwP.two hR1 hR2 hb3 hz2
  have hX := OwP.low hX hz
  obtain ⟨v0, x0⟩ := hr.val_ (i := 0) (by omega)
  obtain ⟨v1, x1⟩ := hr.val_ (i := 1) (by omega)
  obtain ⟨v2, x2⟩ := hr.val_ (i := 2) (by omega)
  obtain ⟨v3, x3⟩ := hr.val_ (i := 3) (by omega)
  obtain ⟨v4, x4⟩ := hr.val_ (i := 4) (by omega)
  obtain ⟨v5, x5⟩ := hr.val_ (i := 5) (by omega)
  have hg := hr.lt
  obtain ⟨cs4, hB4, hc4⟩ := hr
  have hf0 := hB4.frozen 0
  have hf1 := hB4.frozen 1
  have hf2 := hB4.frozen 2
  have hf3 := hB4.frozen 3
  have hf4 := hB4.frozen 4
  have hf5 := hB4.frozen 5
  go_wp2_with fail
  exact bodyPost_ret (v := .agg #[.bool s1, .slice A1 n1 c1, .slice B1 m1 d1, .bool t1, .slice C1 i1 e1, .slice D1 j1 f1]) (by simp [results, Tryz.results17, go_sem, x0, x1, x2, x3, x4, x5]) rfl ⟨_, _, _, _, _, _, _, _, _, _, _, _, _, _, rfl, ((((((hX.far (by simp) _).far (by simp) _).far (by simp) _).far (by simp) _).far (by simp) _).far (by simp) _).low (by omega), slc⟩
end

end Go.Proofs.YtajlahjghapbkaaGreat
