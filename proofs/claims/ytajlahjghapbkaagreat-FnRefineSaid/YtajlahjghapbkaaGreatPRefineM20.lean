/- Lemmas. -/
import Derived.Test.YtajlahjghapbkaaGreatRows
import Derived.Test.YtajlahjghapbkaaGreatPRefineM18
import Derived.Test.YtajlahjghapbkaaGreatPRefineM02
import Derived.Test.YtajlahjghapbkaaGreatPRefineM19
import Derived.Test.YtajlahjghapbkaaGreatPRefineM03
import Derived.Test.YtajlahjghapbkaaGreatPRefineM14
namespace Go.Proofs.YtajlahjghapbkaaGreat
section
open Go.RowKit
theorem step_append_rowS {P : Program} {α : Type} [Inhabited α] {N : List Nat → Prop} (hN : AppN N) {size bytes : Nat} {El : World → Array Value → Nat → α → List Nat → Prop} (hk : KeepE size El) {TP t : TypeId} {z : Value}
    (hinfo : (P.info? TP).map (fun i => (i.zero, i.size, i.bytes)) = some (some z, size, bytes)) (hzs : z.cells.size = size) (hsz : 0 < size) (hby : bytes ≤ 4096) (ht : P.underlying t = some (.slice TP))
    {W : World} {news : Array Value} {p : α} {bs : List Nat} {lo hi : Nat} {l : List α} {ops : Array Oper} {o : Oper} {a : Act} {K : Act → World → Prop} {Q : Exit → Act → World → Prop} {F : Prop} (hgd : o.guard = none) (s x : Operand)
    (ho : o.op = .call { callee := .builtin .append, args := #[s, x], argTypes := #[t, t] }) (v : Value) (hs : a.eval s = v) (hrow : RowG N TP size El lo hi W v l)
    (hel : El W news 0 p bs) (hnl : news.size = size) (h1 : ∀ u ∈ news.toList, u.oneCell' = true) (hbs : ∀ b ∈ bs, hi ≤ b ∧ b < W.heap.size) (hNb : N bs) (hlh : lo ≤ hi)
    (c : Nat) (hx : a.eval x = .slice (some ⟨W.heap.size, 0, none⟩) 1 c) (hlen : l.length ≤ 1048576) (w0 : World) (hb : Bl w0 W) (h0 : w0.heap.size ≤ lo)
    (h : ∀ v' w', RowG N TP size El lo w'.heap.size w' v' (l ++ [p]) → Bl w0 w' → (v' = .slice none 0 0 → False) → (W.heap.size ≤ w'.heap.size ∧ ∀ g, g < W.heap.size → v.ownBlock ≠ some g → w'.heap[g]? = W.heap[g]? ∧ v'.ownBlock ≠ some g) → K (a.put o.dst v') w') : if Region.wanted o (yielded ops a.tmps) = true then Oper.wp P o a (W.alloc (.cells news TP)) K Q else F := by
  have hw : Region.wanted o (yielded ops a.tmps) = true := by simp [Region.wanted, hgd]
  rw [if_pos hw]
  obtain ⟨i0, hi0, hz0, hz1, hz2⟩ := info_parts hinfo
  obtain ⟨cells, fs, r1, r2, r3, r4, r5, r6, r7⟩ := hrow
  have ro := World.ownsRow.alloc r1 (.cells news TP)
  have hnew : (W.alloc (.cells news TP)).heap[W.heap.size]? = some (.cells news TP (0, 0)) := heap_alloc_new W _
  have hsz2 : (W.alloc (.cells news TP)).heap.size = W.heap.size + 1 := by simp
  have hm : (l.length + 1) * bytes ≤ 140737488355328 := Nat.le_trans (Nat.mul_le_mul (show l.length + 1 ≤ 1048577 by omega) hby) (by omega)
  obtain ⟨v', w', hrun, g1, g2, g3, g4⟩ := run_append_own_at (P := P) (W.alloc (.cells news TP)) lo t o.type TP i0 z size bytes ht hi0 hz0 hz1 hz2 hzs hsz v l.length cells ro ⟨W.heap.size, 0, none⟩ 1 c news.toList (by simpa using hnl) (World.news_of_block hnew) h1 (by unfold maxLen; omega) hm (by omega)
  unfold Oper.wp execOp
  simp only [ho, resolve, invoke, builtin, Sem.run_bind, Sem.run_pure, Result.andThen_ok, List.map_toArray, List.map_cons, List.map_nil, hs, hx, hrun]
  have hne : v' ≠ .slice none 0 0 := fun e => by have := (g3.1 e).2; omega
  have hws := g2.size
  have hold : ∀ b, b < W.heap.size → v.ownBlock ≠ some b → w'.heap[b]? = W.heap[b]? := fun b hb1 hb2 => (g2.block b (by omega) (fun e => hb2 e.symm)).trans (Below.heap_alloc W _ b hb1)
  have hown : ∀ b, v'.ownBlock = some b → (v.ownBlock = some b ∨ b = W.heap.size + 1) := by
    intro b e
    rcases g4 with g4 | g4
    · exact .inl (by rw [← g4]; exact e)
    · rw [g4] at e; injection e with e; right; omega
  have hvl : ∀ b, v'.ownBlock = some b → lo ≤ b ∧ b < w'.heap.size := fun b e => by have := World.ownsRow.lt g1 b e; exact this
  refine h v' w' ⟨cells ++ news.toList, fs ++ [bs], by simpa using g1, fun g e => (hvl g e).2, by simp [r3], fun i hi' => ?_, fun b hm' => ?_, ?_, Nat.le_refl _⟩ ((hb.alloc _).grown g2 (fun k e => by have := (World.ownsRow.lt r1 k e).1; omega)) hne ⟨by omega, fun g hg hn => ⟨hold g hg hn, fun e => by rcases hown g e with e | e; exact hn e; omega⟩⟩
  · have hcl := r1.1
    rw [List.length_append, List.length_singleton] at hi'
    rcases Nat.lt_succ_iff_lt_or_eq.1 hi' with hi' | rfl
    · rw [pix_append_left hi', pix_append_left (by rw [r3]; exact hi')]
      refine hk _ _ _ _ _ _ _ _ (r4 i hi') (fun j hj => ?_) (by omega) fun b hb' => ?_
      · have : i * size + j < cells.length := by
          rw [hcl]
          have : (i + 1) * size ≤ l.length * size := Nat.mul_le_mul_right _ hi'
          rw [Nat.succ_mul] at this
          omega
        simp [List.getElem?_append_left this]
      · have := r5 b (mem_flatten_pix hb')
        exact hold b (by omega) this.2.2
    · rw [pix_append_last, pixs_last r3]
      refine hk _ _ _ _ _ _ _ _ hel (fun j hj => ?_) (by omega) fun b hb' => ?_
      · have : (cells ++ news.toList)[l.length * size + j]? = news.toList[j]? := by
          rw [List.getElem?_append_right (by rw [hcl]; omega), hcl]
          congr 1; omega
        simpa using this
      · have := hbs b hb'
        exact hold b this.2 fun e => by have := r2 b e; omega
  · rw [List.flatten_append, List.mem_append] at hm'
    rcases hm' with hm' | hm'
    · have := r5 b hm'
      refine ⟨this.1, by omega, fun e => ?_⟩
      rcases hown b e with e | e
      · exact this.2.2 e
      · omega
    · have := hbs b (by simpa using hm')
      refine ⟨by omega, by omega, fun e => ?_⟩
      rcases hown b e with e | e
      · have := r2 b e; omega
      · omega
  · rw [List.flatten_append]
    refine hN.2 _ _ r6 (by simpa using hNb) fun x hx' y hy e => ?_
    have a1 := r5 x hx'
    have a2 := hbs y (by simpa using hy)
    omega
theorem step_append_ptS {N : List Nat → Prop} (hN : AppN N) {W : World} {s : Bool} {A : Option Addr} {n c : Nat} {B : Option Addr} {m d : Nat} {t : Bool} {C : Option Addr} {i e : Nat} {D : Option Addr} {j f : Nat} {p : PtD} {lo hi b0 : Nat} {l : List PtD} {ops : Array Oper} {o : Oper} {a : Act} {K : Act → World → Prop} {Q : Exit → Act → World → Prop} {F : Prop} (hgd : o.guard = none) (s1 x1 : Operand)
    (ho : o.op = .call { callee := .builtin .append, args := #[s1, x1], argTypes := #[23, 23] }) (v : Value) (hs : a.eval s1 = v) (hrow : RowP N lo hi W v l)
    (hpt : OwPN N 3 b0 W s A n c B m d t C i e D j f p) (hb0 : hi ≤ b0) (hlh : lo ≤ hi) (c1 : Nat) (hx : a.eval x1 = .slice (some ⟨W.heap.size, 0, none⟩) 1 c1) (hlen : l.length ≤ 1048576) (w0 : World) (hb : Bl w0 W) (h0 : w0.heap.size ≤ lo)
    (h : ∀ v' w', RowP N lo w'.heap.size w' v' (l ++ [p]) → Bl w0 w' → (W.heap.size ≤ w'.heap.size ∧ ∀ g, g < W.heap.size → v.ownBlock ≠ some g → w'.heap[g]? = W.heap[g]? ∧ v'.ownBlock ≠ some g) → K (a.put o.dst v') w') : if Region.wanted o (yielded ops a.tmps) = true then Oper.wp Tryz.prog o a (W.alloc (.cells #[.bool s, .slice A n c, .slice B m d, .bool t, .slice C i e, .slice D j f] 31)) K Q else F := by
  obtain ⟨b1, b2, f1, f2, f3, f4⟩ := hpt
  refine step_append_rowS hN (ptIn_keep 3) info_pt (by rfl) (by omega) (by omega) Tryz.underlying23 hgd s1 x1 ho v hs hrow (p := p) (bs := b1 ++ b2) ⟨_, _, _, _, _, _, _, _, _, _, _, _, _, _, b1, b2, ⟨rfl, rfl, rfl, rfl, rfl, rfl⟩, f1, f2, rfl⟩ rfl (by simp [Value.oneCell']) (fun b hm => ⟨Nat.le_trans hb0 (f3 b hm).1, (f3 b hm).2⟩) f4 hlh c1 hx hlen w0 hb h0 fun v' w' g1 g2 _ g4 => h v' w' g1 g2 g4
end

section
open Go.RowKit

/- A region that draws its order and ends in a store that waits for all the rest: S need not hold behind that store. (The form of the proof is the library's own wpAnyH_first.) -/
section
variable {P : Program} {ops : Array Oper} {Q : Exit → Act → World → Prop} {md : Region.Mode} {S : World → Prop} {last : Nat}
def wpAnyT (P : Program) (md : Region.Mode) (ops : Array Oper) (Q : Exit → Act → World → Prop) (S : World → Prop) (last : Nat) : Nat → Array Bool → Act → World → Prop
  | 0, listed, a, w => Region.ready md ops listed = [] ∧ Q .normal a w
  | fuel + 1, listed, a, w =>
    (Region.ready md ops listed = [] → Q .normal a w) ∧
    ∀ i ∈ Region.ready md ops listed, wpOp P ops Q i (fun a' w' => (i ≠ last → S w') ∧ wpAnyT P md ops Q S last fuel (listed.setIfInBounds i true) a' w') a w
theorem wpAny_of_T : ∀ (fuel : Nat) (listed : Array Bool) (a : Act) (w : World), wpAnyT P md ops Q S last fuel listed a w → wpAny P md ops Q fuel listed a w
  | 0, _, _, _, h => h
  | fuel + 1, _, _, _, h => ⟨h.1, fun i hi => wpOp_mono (fun a' w' h' => wpAny_of_T fuel _ a' w' h'.2) (h.2 i hi)⟩
def waits (md : Region.Mode) (ops : Array Oper) (last i : Nat) : Bool :=
  match ops[last]? with
  | some ol => ol.after.any (fun e => Region.binds md e && e.on == i)
  | none => false
theorem waits_spec {i : Nat} (h : waits md ops last i = true) : ∀ oj, ops[last]? = some oj → ¬ ∀ e ∈ oj.after, Region.binds md e = true → e.on ≠ i := by
  intro oj hj hno
  unfold waits at h
  rw [hj] at h
  obtain ⟨k, hk, hx⟩ := Array.any_eq_true.1 h
  have h1 := Bool.and_eq_true_iff.1 hx
  exact hno _ (Array.getElem_mem hk) h1.1 (by simpa using h1.2)
theorem wpAnyT_first {i : Nat} {oi : Oper} {v : Value} (hi : ops[i]? = some oi) (hsel : ∀ (j : Nat) (o : Oper) cs b, ops[j]? = some o → o.op ≠ .select cs b)
    (hQ : ∀ c a w, Q (.panic c) (a.put oi.dst v) w → Q (.panic c) a w) (hw : waits md ops last i = true) :
    ∀ (fuel : Nat) (listed : Array Bool) (a : Act) (w : World),
      (∀ j oj, ops[j]? = some oj → j ≠ i → listed.getD j true = false → (∀ e ∈ oj.after, Region.binds md e = true → e.on ≠ i) → oi.apart ops oj = true) →
      i ∈ Region.ready md ops listed → YieldsIf P ops S oi v a → S w →
      wpAnyT P md ops Q S last fuel (listed.setIfInBounds i true) (a.put oi.dst v) w → wpAnyT P md ops Q S last (fuel + 1) listed a w := by
  intro fuel
  induction fuel with
  | zero =>
    intro listed a w _ hr hy hS H
    refine ⟨fun h => (by rw [h] at hr; cases hr), fun j hj => ?_⟩
    by_cases hji : j = i
    · subst hji; exact hy.wpOp hi hS ⟨fun _ => hS, H⟩
    · have := ready_mono hj hji
      rw [H.1] at this
      cases this
  | succ fuel ih =>
    intro listed a w hfree hr hy hS H
    refine ⟨fun h => (by rw [h] at hr; cases hr), fun j hj => ?_⟩
    by_cases hji : j = i
    · subst hji; exact hy.wpOp hi hS ⟨fun _ => hS, H⟩
    · have h1 := H.2 j (ready_mono hj hji)
      obtain ⟨hjun, oj, hoj, hall⟩ := mem_ready.1 hj
      have hnot : ∀ e ∈ oj.after, Region.binds md e = true → e.on ≠ i := fun e he hb heq => by
        have h1 := hall e he hb
        have h0 := (mem_ready.1 hr).1
        rw [heq] at h1
        rcases Nat.lt_or_ge i listed.size with h' | h'
        · simp [h'] at h0 h1; rw [h0] at h1; cases h1
        · simp [Array.getElem?_eq_none h'] at h1
      have hjl : j ≠ last := fun e => by subst e; exact waits_spec hw oj hoj hnot
      have h2 := wpOp_putIf hoj (hfree j oj hoj hji hjun hnot) (fun cs b => hsel i oi cs b hi) (fun cs b => hsel j oj cs b hoj) hQ hy h1
      have hfree' : ∀ k ok, ops[k]? = some ok → k ≠ i → (listed.setIfInBounds j true).getD k true = false →
          (∀ e ∈ ok.after, Region.binds md e = true → e.on ≠ i) → oi.apart ops ok = true := fun k ok hk hki hun hno => by
        refine hfree k ok hk hki ?_ hno
        by_cases hjk : j = k
        · subst hjk; exact hjun
        · rw [getD_set_ne true hjk] at hun; exact hun
      refine wpOp_mono (fun a' w' h3 => ⟨fun _ => h3.2.1 hjl, ih (listed.setIfInBounds j true) a' w' hfree' (ready_mono hr (Ne.symm hji)) h3.1 (h3.2.1 hjl) ?_⟩) h2
      rw [Array.setIfInBounds_comm _ _ hji]
      exact h3.2.2
theorem wpAnyT_take {i : Nat} {oi : Oper} {v : Value} {fuel : Nat} {listed : Array Bool} {a : Act} {w : World} (hi : ops[i]? = some oi)
    (hs : Region.noSelect ops = true) (hf : Region.free md ops listed i = true) (hr : (Region.ready md ops listed).contains i = true) (hl : waits md ops last i = true)
    (hQ : ∀ c a w, Q (.panic c) (a.put oi.dst v) w → Q (.panic c) a w) (hw : Region.wanted oi (yielded ops a.tmps) = true) (hy : ∀ w, S w → (execOp a.eval oi).run P w = .ok (.value v) w) (hS : S w)
    (h : wpAnyT P md ops Q S last fuel (listed.setIfInBounds i true) (a.put oi.dst v) w) : wpAnyT P md ops Q S last (fuel + 1) listed a w :=
  wpAnyT_first hi (Region.noSelect_spec hs) hQ hl fuel listed a w (Region.free_spec hi hf) (by simpa using hr) (.inl ⟨hw, hy⟩) hS h
theorem wpAnyT_step {i : Nat} {o : Oper} {fuel : Nat} {listed : Array Bool} {a : Act} {w : World} (ho : ops[i]? = some o) (hr : Region.ready md ops listed = [i])
    (h : ∀ K' : Act → World → Prop, Shut (∀ a w, (i ≠ last → S w) → wpAnyT P md ops Q S last fuel (listed.setIfInBounds i true) a w → K' a w) → if Region.wanted o (yielded ops a.tmps) = true then Oper.wp P o a w K' Q else K' (a.put o.dst undef) w) : wpAnyT P md ops Q S last (fuel + 1) listed a w := by
  refine ⟨fun h0 => (by rw [hr] at h0; cases h0), fun j hj => ?_⟩
  rw [hr] at hj
  obtain rfl : j = i := by simpa using hj
  exact wpOp_step ho (fun K' hK => h K' (fun a w hS hW => hK a w ⟨hS, hW⟩))
theorem wpAnyT_done {listed : Array Bool} {a : Act} {w : World} (hr : Region.ready md ops listed = []) (h : Q .normal a w) : wpAnyT P md ops Q S last 0 listed a w := ⟨hr, h⟩
theorem wp_region_T {id : Nat} {a : Act} {w : World} (last n : Nat) (S : World → Prop) (hn : ops.size = n) (hm : P.follows .mixedOrders = true) (_hS : S w.drew)
    (h : wpAnyT P .any ops Q S last n (Array.replicate n false) a w.drew) : (Code.region id ops true).wp P Q a w := by
  subst hn
  exact wp_region_any hm (wpAny_of_T _ _ _ _ h)
end
end

section
open Go.RowKit
def rg (a y x : Nat) : Nat → Int
  | 0 => (y : Int) * ((a : Int) + 1) + x
  | 1 => (y : Int) * ((a : Int) + 1) + x + 1
  | 2 => (y : Int) * ((a : Int) + 1) + x + a + 2
  | 3 => (y : Int) * ((a : Int) + 1) + x + a + 1
  | _ => (y : Int) * ((a : Int) + 1) + x
noncomputable def gpt (x y : Nat) : PtD := ⟨ofFrac (x : Int) 1, ofFrac (y : Int) 1⟩
noncomputable def hpt (x y : Nat) : PtD := ⟨ofFrac (2 * (x : Int) + 1) 2, ofFrac (2 * (y : Int) + 1) 2⟩
theorem RowG.shapeN {α : Type} [Inhabited α] {N : List Nat → Prop} {TP : TypeId} {size lo hi : Nat} {El : World → Array Value → Nat → α → List Nat → Prop} {w : World} {v : Value} {l : List α} (h : RowG N TP size El lo hi w v l) : ∃ A c, v = .slice A l.length c := by
  obtain ⟨_, _, h1, _⟩ := h
  rcases h1.2 with ⟨rfl, h0⟩ | ⟨g, cap, cur, rfl, _⟩
  · exact ⟨_, _, by rw [h0]⟩
  · exact ⟨_, _, rfl⟩
theorem OwMZ.nil (lo hi : Nat) (w : World) : OwMZ lo hi w none 0 0 none 0 0 ⟨[], []⟩ := ⟨rfl, rfl, Nat.le_refl _, Nat.le_refl _, Nat.zero_le _, Nat.zero_le _, .inl ⟨rfl, rfl⟩⟩
/-- The four pairs of the reference's list. -/
def pairsA (gr : Nat) : Array Value := #[.slice (some ⟨gr + 0, 0, none⟩) 2 2, .slice (some ⟨gr + 1, 0, none⟩) 2 2, .slice (some ⟨gr + 2, 0, none⟩) 2 2, .slice (some ⟨gr + 3, 0, none⟩) 2 2]
def LitQ (a y x gr : Nat) (W : World) : Prop := Blk W (gr + 4) 25 (pairsA gr) ∧ ∀ k, k < 4 → Blk W (gr + k) 3 #[.int .i64 (rg a y x k), .int .i64 (rg a y x (k + 1))]
theorem LitQ.keep {a y x gr : Nat} {w W : World} (h : LitQ a y x gr w) (hk : ∀ g, gr ≤ g → g ≤ gr + 4 → W.heap[g]? = w.heap[g]?) : LitQ a y x gr W :=
  ⟨(hk _ (by omega) (by omega)).trans h.1, fun k hk2 => (hk _ (by omega) (by omega)).trans (h.2 k hk2)⟩
end

section
open Go.RowKit

/-- A fraction in memory of its own from block b0 on, none of it in block g. -/
def OwG (T : TypeId) (b0 g : Nat) (w : World) (s : Bool) (A : Option Addr) (n c : Nat) (B : Option Addr) (m d : Nat) (r : RatD) : Prop :=
  ∃ bs, FtR T w s A n c B m d r bs ∧ Fp b0 w.heap.size bs ∧ g ∉ bs
section
variable {T : TypeId} {b0 b1 g : Nat} {w W : World} {s : Bool} {A : Option Addr} {n c : Nat} {B : Option Addr} {m d : Nat} {r : RatD}
theorem OwG.rd (h : OwG T b0 g w s A n c B m d r) : RdR w s A n c B m d r := by
  obtain ⟨bs, h, _⟩ := h
  exact h.rd
theorem OwG.ow (h : OwG T b0 g w s A n c B m d r) : OwR T b0 w s A n c B m d r := by
  obtain ⟨bs, h, hf, _⟩ := h
  exact ⟨bs, h, hf⟩
theorem OwG.set (h : OwG T b0 g w s A n c B m d r) (i : Nat) (u : Value) : OwG T b0 g (w.setCell ⟨g, i, none⟩ u) s A n c B m d r := by
  obtain ⟨bs, h, hf, hg⟩ := h
  exact ⟨bs, h.keep (by simp) (fun b hb => Below.heap_setCell w _ u b (by intro e; exact hg ((show b = g from e) ▸ hb))), hf.mono (Nat.le_refl _) (by simp), hg⟩
theorem OwR.exc (h : OwR T b0 w s A n c B m d r) (hb : Bl w W) : OwG T b0 w.heap.size W s A n c B m d r := by
  obtain ⟨bs, h, hf⟩ := h
  exact ⟨bs, h.bl hb, hf.mono (Nat.le_refl _) hb.size, fun hm => by have := (hf.2 _ hm).2; omega⟩
theorem OwR.exc2 (h : OwR T b1 w s A n c B m d r) (hg : g < b1) (hb : b0 ≤ b1) : OwG T b0 g w s A n c B m d r := by
  obtain ⟨bs, h, hf⟩ := h
  exact ⟨bs, h, hf.mono hb (Nat.le_refl _), fun hm => by have := (hf.2 _ hm).1; omega⟩
theorem fz3 {a b c : Value} (h : Blk W g T #[a, b, c]) : W.frozen? ⟨g, 0, none⟩ = false ∧ W.frozen? ⟨g, 1, none⟩ = false ∧ W.frozen? ⟨g, 2, none⟩ = false := ⟨h.frozen 0, h.frozen 1, h.frozen 2⟩
end
end

section
open Go.RowKit

noncomputable def accS (l : List RatD) : Nat → RatD
  | 0 => ofFrac 0 1
  | k + 1 => addR (accS l k) (pix l k)
noncomputable def sumS (l : List RatD) : RatD := accS l l.length
set_option maxRecDepth 100000 in
set_option maxHeartbeats 8000000 in
theorem sumOf_any (w : World) {A : Option Addr} {n c : Nat} {l : List RatD} (ha : RdRS w A n c l) :
    Calls Tryz.prog 88 #[.slice A n c] w fun e w' => ∃ s1 A1 n1 c1 B1 m1 d1, e = .returned (.agg #[.bool s1, .slice A1 n1 c1, .slice B1 m1 d1]) ∧ OwR 3 w.heap.size w' s1 A1 n1 c1 B1 m1 d1 (sumS l) ∧ Bl w w' := by
  have hna := ha.small
  have hv := Lib.hid (show sumS l = accS l n by unfold sumS; rw [ha.len])
  go_enter Tryz.func88, Tryz.ntmps88
  go_wp2_with fail
  refine calls_gen (fun W => Bl w W ∧ Wk 3 29 (w.heap.size) W) ⟨slc, bts⟩ ?_
  rintro W ⟨hbW, hr⟩
  refine (RatFromInt_any _ 0 (by omega) (by omega)).mono ?_
  rintro e w1 ⟨s0, A0, n0, c0, B0, m0, d0, rfl, hR0, hb1⟩
  have hz := hr.lt
  have hr := hr.bl hb1
  have hbW := hbW.next hb1
  have hR0 := hR0.mono (show w.heap.size + 1 ≤ W.heap.size from hz)
  have hz1 : w.heap.size < w1.heap.size := hr.lt
  clear hb1
  go_wp2_with fail
  go_loopw [9] (fun i wr => ∃ (k : Nat) (s : Bool) (A1 : Option Addr) (n1 c1 : Nat) (B1 : Option Addr) (m1 d1 : Nat), k ≤ n ∧ i = .int .i64 (k : Int) ∧ Blk wr w1.heap.size 29 #[.bool s, .slice A1 n1 c1, .slice B1 m1 d1] ∧ OwG 3 (w.heap.size + 1) w1.heap.size wr s A1 n1 c1 B1 m1 d1 (accS l k) ∧ Wk 3 29 w.heap.size wr ∧ Bl w wr) (fun i _ => n - (intOf i).toNat)
  case atStart => exact ⟨0, s0, A0, n0, c0, B0, m0, d0, Nat.zero_le _, rfl, Blk.new _ _ _, hR0.exc ((Bl.refl w1).alloc _), hr.alloc _, hbW.alloc _⟩
  case round =>
    clear hr hbW hR0 hz
    obtain ⟨k, s, A1, n1, c1, B1, m1, d1, hk, rfl, hx, hO, hr, hbw⟩ := hrel
    by_cases hkn : k < n
    · have hki : (k : Int) < (n : Int) := by omega
      obtain ⟨ad, rfl, hlta, hca⟩ := ha.cells k hkn
      obtain ⟨s3, A3, n3, c3, B3, m3, d3, ⟨g0, g1, g2⟩, hu⟩ := hca.bl (by rw [block_add]; exact hlta) hbw
      have hgl := hx.lt
      have hacc := hO.rd
      clear hO
      go_upto_region 5 with (fail)
      refine wp_gen (fun W => Bl w W ∧ wr.heap.size < W.heap.size ∧ Blk W w1.heap.size 29 #[.bool s, .slice A1 n1 c1, .slice B1 m1 d1] ∧ Blk W wr.heap.size 29 #[.bool s3, .slice A3 n3 c3, .slice B3 m3 d3] ∧ Wk 3 29 w.heap.size W ∧ RdR W s A1 n1 c1 B1 m1 d1 (accS l k) ∧ RdR W s3 A3 n3 c3 B3 m3 d3 (pix l k)) ⟨slc, by simp, hx.alloc _, Blk.new _ _ _, hr.alloc _, hacc.alloc _, hu.alloc _⟩ ?_
      clear g0 g1 g2 hacc hu hr hx hbw
      rintro W ⟨hbr, hgw, hx2, hx3, hr2, hacc, hu2⟩
      obtain ⟨y0, y1, y2⟩ := bx3 hx2
      obtain ⟨u0, u1, u2⟩ := bx3 hx3
      go_wp2_with fail
      refine (RatAdd_any _ hacc hu2).mono ?_
      rintro e w3 ⟨s5, A5, n5, c5, B5, m5, d5, rfl, hR5, hb3⟩
      have hx4 := hx2.bl hb3
      have hr4 := hr2.bl hb3
      have hb23 := hbr.next hb3
      have hz3 : w1.heap.size < W.heap.size := hx2.lt
      have hz4 : w.heap.size < W.heap.size := hr2.lt
      have hG := OwR.exc2 hR5 hz3 (show w.heap.size + 1 ≤ W.heap.size by omega)
      clear y0 y1 y2 u0 u1 u2
      obtain ⟨y0, y1, y2⟩ := bx3 hx4
      obtain ⟨z0, z1, z2⟩ := fz3 hx4
      go_wp2_with fail
      go_roundw
      case rel => exact ⟨k + 1, s5, A5, n5, c5, B5, m5, d5, by omega, by go_num, (Wk.of hx4 rfl).put3 _ _ _, ((hG.set _ _).set _ _).set _ _, ((hr4.far (by simp; omega) _).far (by simp; omega) _).far (by simp; omega) _, slc⟩
      case measure => simp [intOf]; omega
    · obtain rfl : k = n := by omega
      obtain ⟨i0, i1, i2⟩ := bx3 hx
      rw [← hv.out] at hO
      have hR := hO.ow
      have hbW := hbw
      obtain ⟨v0, x0⟩ := hr.val_ (i := 0) (by omega)
      obtain ⟨v1, x1⟩ := hr.val_ (i := 1) (by omega)
      obtain ⟨v2, x2⟩ := hr.val_ (i := 2) (by omega)
      have hg := hr.lt
      obtain ⟨cs4, hB4, hc4⟩ := hr
      have hf0 := hB4.frozen 0
      have hf1 := hB4.frozen 1
      have hf2 := hB4.frozen 2
      go_wp2_with fail
      exact bodyPost_ret (v := .agg #[.bool s, .slice A1 n1 c1, .slice B1 m1 d1]) (by simp [results, Tryz.results88, go_sem, x0, x1, x2]) rfl ⟨_, _, _, _, _, _, _, rfl, (((hR.far (by simp) _).far (by simp) _).far (by simp) _).mono (by omega), slc⟩
end

end Go.Proofs.YtajlahjghapbkaaGreat
