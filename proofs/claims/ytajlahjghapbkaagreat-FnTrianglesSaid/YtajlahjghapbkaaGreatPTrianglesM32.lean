/- Lemmas. -/
import Derived.Test.YtajlahjghapbkaaGreatRows
import Derived.Test.YtajlahjghapbkaaGreatPTrianglesM29
import Derived.Test.YtajlahjghapbkaaGreatPTrianglesM08
import Derived.Test.YtajlahjghapbkaaGreatPTrianglesM01
import Derived.Test.YtajlahjghapbkaaGreatPTrianglesM20
import Derived.Test.YtajlahjghapbkaaGreatPTrianglesM02
import Derived.Test.YtajlahjghapbkaaGreatPTrianglesM25
import Derived.Test.YtajlahjghapbkaaGreatPTrianglesM26
namespace Go.Proofs.YtajlahjghapbkaaGreat
section
open Go.RowKit

set_option maxRecDepth 100000 in
set_option maxHeartbeats 1000000 in
theorem Gradients_any (w : World) {g n c0 : Nat} {l : List PtD} (h : RdPS w (some ⟨g, 0, none⟩) n c0 l) :
    Calls Tryz.prog 15 #[.slice (some ⟨g, 0, none⟩) n c0] w fun e w' => ∃ A1 n1 c1, e = .returned (.slice A1 n1 c1) ∧ OwPZ 3 31 w.heap.size w'.heap.size w' A1 n1 c1 (gradL l) ∧ (n1 = 0 → A1 = none ∧ c1 = 0) ∧ Bl w w' := by
  by_cases hp : propB l = true
  · obtain ⟨_, p0, p1, p2, e, _⟩ := propB_out hp
    subst e
    obtain rfl : 3 = n := h.len
    have hv : gradL [p0, p1, p2] = gradP p0 p1 p2 := by unfold gradL; rw [if_pos hp]; rfl
    rw [hv]
    exact Gradients_three _ h (Lib.hid hp)
  · have hval := Lib.hid (show gradL l = [] by unfold gradL; rw [if_neg hp])
    have hp := Lib.hid (Bool.eq_false_iff.2 hp); rename_i h_; clear h_
    go_enter Tryz.func15, Tryz.ntmps15
    go_wp2_with fail
    refine (IsProper_any _ h).mono ?_
    rw [hp.out]
    rintro e w1 ⟨rfl, hb1⟩
    go_wp2_with fail
    go_ret
    refine ⟨_, _, _, rfl, ?_, fun _ => ⟨rfl, rfl⟩, hb1⟩
    rw [hval.out]
    exact ⟨rfl, Nat.le_refl _, Nat.zero_le _, .inl rfl⟩
theorem Gradients_z (w : World) {g n c0 : Nat} {l : List PtD} (h : RdPS w (some ⟨g, 0, none⟩) n c0 l) :
    Calls Tryz.prog 15 #[.slice (some ⟨g, 0, none⟩) n c0] w fun e w' => ∃ A1 n1 c1, e = .returned (.slice A1 n1 c1) ∧ OwPZ 3 31 w.heap.size w'.heap.size w' A1 n1 c1 (gradL l) ∧ Bl w w' := by
  refine (Gradients_any w h).mono ?_
  rintro e w' ⟨A1, n1, c1, h1, h2, _, h3⟩
  exact ⟨A1, n1, c1, h1, h2, h3⟩

theorem len24_divR' (r s : RatD) : (divR r s).mag.length ≤ 24 ∧ (divR r s).den.length ≤ 24 := by
  unfold divR
  split
  · exact len24_ofFrac _ _
  · exact len24_zR

theorem gradR_sz (D : RatD) (j k : PtD) : szP (gradR D j k) ≤ 96 := by
  have h1 := len24_divR' (subR j.y k.y) D
  have h2 := len24_divR' (subR k.x j.x) D
  show szR (divR _ _) + szR (divR _ _) ≤ 96
  simp only [szR]
  omega
theorem gradL_sz (l : List PtD) : szL szP (gradL l) ≤ 1048576 := by
  unfold gradL gradP
  split
  · split
    · have e0 : pix (gradTo (pix l 0) (pix l 1) (pix l 2) 3) 0 = gradR (dblA (pix l 0) (pix l 1) (pix l 2)) (pix l 1) (pix l 2) := rfl
      have e1 : pix (gradTo (pix l 0) (pix l 1) (pix l 2) 3) 1 = gradR (dblA (pix l 0) (pix l 1) (pix l 2)) (pix l 2) (pix l 0) := rfl
      have e2 : pix (gradTo (pix l 0) (pix l 1) (pix l 2) 3) 2 = gradR (dblA (pix l 0) (pix l 1) (pix l 2)) (pix l 0) (pix l 1) := rfl
      have h0 := gradR_sz (dblA (pix l 0) (pix l 1) (pix l 2)) (pix l 1) (pix l 2)
      have h1 := gradR_sz (dblA (pix l 0) (pix l 1) (pix l 2)) (pix l 2) (pix l 0)
      have h2 := gradR_sz (dblA (pix l 0) (pix l 1) (pix l 2)) (pix l 0) (pix l 1)
      have hl := gradTo_len (pix l 0) (pix l 1) (pix l 2) 3
      unfold szL
      rw [hl]
      simp only [sumTo, e0, e1, e2]
      omega
    · simp [szL, sumTo]
  · simp [szL, sumTo]
end

section
open Go.RowKit

theorem info_rat : (Tryz.prog.info? 29).map (fun i => (i.zero, i.size, i.bytes)) = some (some (.agg #[.bool false, .slice none 0 0, .slice none 0 0]), 3, 56) := by kernel_rfl
end

section
open Go.RowKit

def advR (r : RatD) : Nat := 1 + szR r
def mkAtR (l : List RatD) (k : Int) (i : Nat) : RatD := mkR (k + (sumTo advR l i : Int)) (pix l i)
def mkLR (l : List RatD) (k : Int) : List RatD := (List.range l.length).map (mkAtR l k)
theorem mkLR_len (l : List RatD) (k : Int) : (mkLR l k).length = l.length := by simp [mkLR]
theorem pix_mkLR (l : List RatD) (k : Int) {i : Nat} (h : i < l.length) : pix (mkLR l k) i = mkAtR l k i := by simp [pix, mkLR, h]
theorem sumTo_advR (l : List RatD) (k : Nat) : sumTo advR l k = k + sumTo szR l k := by
  induction k with
  | zero => rfl
  | succ k ih => simp only [sumTo, ih, advR]; omega
theorem RtIn.lt {T : TypeId} {w : World} {cs : Array Value} {i : Nat} {r : RatD} {bs : List Nat} (h : RtIn T w cs i r bs) : ∀ b ∈ bs, b < w.heap.size := by
  obtain ⟨s, A, n, c, B, m, d, _, h⟩ := h
  exact h.lt

/-- A list of fractions in memory of one's own, its limbs behind its cells. -/
def OwRX (TI TR : TypeId) (b0 : Nat) (w : World) (A : Option Addr) (n c : Nat) (l : List RatD) : Prop :=
  ∃ g cs fs, A = some ⟨g, 0, none⟩ ∧ b0 ≤ g ∧ l.length = n ∧ n ≤ c ∧ n ≤ 1048576 ∧ Blk w g TR cs ∧ cs.size = n * 3 ∧ RtsIn TI w cs l n fs ∧ Fp (g + 1) w.heap.size fs.flatten
theorem OwRX.rd {TI TR : TypeId} {b0 : Nat} {w : World} {A : Option Addr} {n c : Nat} {l : List RatD} (h : OwRX TI TR b0 w A n c l) : RdRS w A n c l := by
  obtain ⟨g, cs, fs, rfl, h1, h2, h3, h4, h5, h6, h7, h8⟩ := h
  exact h7.rd h5 h2 (by omega) h3
theorem OwRX.bl {TI TR : TypeId} {b0 : Nat} {w W : World} {A : Option Addr} {n c : Nat} {l : List RatD} (h : OwRX TI TR b0 w A n c l) (hb : Bl w W) : OwRX TI TR b0 W A n c l := by
  obtain ⟨g, cs, fs, rfl, h1, h2, h3, h4, h5, h6, h7, h8⟩ := h
  exact ⟨g, cs, fs, rfl, h1, h2, h3, h4, h5.bl hb, h6, h7.bl hb (fun b hm => (h8.2 b hm).2), h8.mono (Nat.le_refl _) hb.size⟩
theorem OwRX.ob {TI TR : TypeId} {b0 : Nat} {w W : World} {A : Option Addr} {n c : Nat} {l : List RatD} {bs : List Nat} (h : OwRX TI TR b0 w A n c l) (ho : Ob bs w W) (hd : ∀ b ∈ bs, b < b0) : OwRX TI TR b0 W A n c l := by
  obtain ⟨g, cs, fs, rfl, h1, h2, h3, h4, h5, h6, h7, h8⟩ := h
  refine ⟨g, cs, fs, rfl, h1, h2, h3, h4, h5.ob ho (fun hm => by have := hd g hm; omega), h6, ⟨h7.1, fun i hi => (h7.2 i hi).keep (fun _ _ => rfl) ho.size fun b hb => ?_⟩, h8.mono (Nat.le_refl _) ho.size⟩
  have hm := h8.2 b (mem_flatten_pix hb)
  exact ho.block b hm.2 fun hx => by have := hd b hx; omega
end

section
open Go.RowKit

/-- A list of fractions with its footprint. -/
def FtRS (TI TR : TypeId) (w : World) (A : Option Addr) (n c : Nat) (l : List RatD) (bs : List Nat) : Prop :=
  l.length = n ∧ n ≤ c ∧ n ≤ 1048576 ∧ ((n = 0 ∧ bs = []) ∨ ∃ g cs fs, A = some ⟨g, 0, none⟩ ∧ Blk w g TR cs ∧ n * 3 ≤ cs.size ∧ RtsIn TI w cs l n fs ∧ bs = g :: fs.flatten)
/-- One cell that holds a list of fractions. -/
def RsAt (w : World) (p : Addr) (l : List RatD) : Prop := ∃ A n c, w.cell? p = some (.slice A n c) ∧ RdRS w A n c l
theorem RsAt.bl {w W : World} {p : Addr} {l : List RatD} (h : RsAt w p l) (hp : p.block < w.heap.size) (hb : Bl w W) : RsAt W p l := by
  obtain ⟨A, n, c, h0, h1⟩ := h
  exact ⟨A, n, c, by rw [hb.cellOf hp]; exact h0, h1.bl hb⟩
abbrev RdRSS := RdS 1 RsAt
theorem RdRSS.bl {w W : World} {A : Option Addr} {n c : Nat} {l : List (List RatD)} (h : RdRSS w A n c l) (hb : Bl w W) : RdRSS W A n c l := RdS.bl (fun h hp hb => h.bl hp hb) h hb
/-- The cell i of a block holds a list of fractions. -/
def RsIn (TI TR : TypeId) (w : World) (cs : Array Value) (i : Nat) (l : List RatD) (bs : List Nat) : Prop :=
  ∃ A n c, cs[i]? = some (.slice A n c) ∧ FtRS TI TR w A n c l bs
theorem flat_pix {fs : List (List Nat)} {b : Nat} (h : b ∈ fs.flatten) : ∃ k, k < fs.length ∧ b ∈ pix fs k := by
  obtain ⟨l, hl, hb⟩ := List.mem_flatten.1 h
  obtain ⟨k, hk, rfl⟩ := List.getElem_of_mem hl
  exact ⟨k, hk, by simpa [pix, hk] using hb⟩
section
variable {TI TR TS : TypeId} {w W : World} {A : Option Addr} {n c i lo hi lo' hi' : Nat} {cs cs' : Array Value} {l : List RatD} {L : List (List RatD)} {bs xs : List Nat}
theorem FtRS.rd (h : FtRS TI TR w A n c l bs) : RdRS w A n c l := by
  obtain ⟨h1, h2, h3, h4⟩ := h
  rcases h4 with ⟨h4, _⟩ | ⟨g, cs, fs, rfl, hB, hc, hP, _⟩
  · subst h4
    obtain rfl := List.length_eq_zero_iff.1 h1
    exact RdS.nil _ _ _
  · exact hP.rd hB h1 (by omega) h2
theorem FtRS.lt (h : FtRS TI TR w A n c l bs) : ∀ b ∈ bs, b < w.heap.size := by
  obtain ⟨h1, h2, h3, h4⟩ := h
  rcases h4 with ⟨_, rfl⟩ | ⟨g, cs, fs, rfl, hB, hc, hP, rfl⟩
  · intro b hb; cases hb
  · intro b hb
    rcases List.mem_cons.1 hb with rfl | hb
    · exact hB.lt
    · obtain ⟨k, hk, hm⟩ := flat_pix hb
      exact (hP.2 k (by rw [← hP.1]; exact hk)).lt b hm
theorem FtRS.keep (h : FtRS TI TR w A n c l bs) (hs : w.heap.size ≤ W.heap.size) (hk : ∀ b ∈ bs, W.heap[b]? = w.heap[b]?) : FtRS TI TR W A n c l bs := by
  obtain ⟨h1, h2, h3, h4⟩ := h
  refine ⟨h1, h2, h3, ?_⟩
  rcases h4 with h4 | ⟨g, cs, fs, rfl, hB, hc, hP, rfl⟩
  · exact .inl h4
  · exact .inr ⟨g, cs, fs, rfl, (hk g (by simp)).trans hB, hc, ⟨hP.1, fun i hi => (hP.2 i hi).keep (fun _ _ => rfl) hs fun b hb => hk b (List.mem_cons_of_mem _ (mem_flatten_pix hb))⟩, rfl⟩
theorem RsIn.lt (h : RsIn TI TR w cs i l bs) : ∀ b ∈ bs, b < w.heap.size := by
  obtain ⟨A, n, c, _, h⟩ := h
  exact h.lt
theorem RsIn.keep (h : RsIn TI TR w cs i l bs) (hc : cs'[i]? = cs[i]?) (hs : w.heap.size ≤ W.heap.size) (hk : ∀ b ∈ bs, W.heap[b]? = w.heap[b]?) : RsIn TI TR W cs' i l bs := by
  obtain ⟨A, n, c, h0, h⟩ := h
  exact ⟨A, n, c, hc.trans h0, h.keep hs hk⟩
/-- A list of lists of fractions in the blocks from lo to hi. -/
def OwSZ (TI TR TS : TypeId) (lo hi : Nat) (w : World) (A : Option Addr) (n c : Nat) (L : List (List RatD)) : Prop :=
  L.length = n ∧ n ≤ c ∧ n ≤ 1048576 ∧ (n = 0 ∨ ∃ g cs fs, A = some ⟨g, 0, none⟩ ∧ Blk w g TS cs ∧ n ≤ cs.size ∧ fs.length = n ∧ (∀ i, i < n → RsIn TI TR w cs i (pix L i) (pix fs i)) ∧ Fp lo hi (g :: fs.flatten))
theorem rss_rd {g : Nat} {fs : List (List Nat)} (hB : Blk w g TS cs) (hl : L.length = n) (hn : n ≤ c) (h3 : n ≤ 1048576) (hP : ∀ i, i < n → RsIn TI TR w cs i (pix L i) (pix fs i)) : RdRSS w (some ⟨g, 0, none⟩) n c L := by
  refine ⟨hl, hn, by omega, fun k hk => ⟨_, rfl, hB.lt, ?_⟩⟩
  obtain ⟨A, n', c', h0, h1⟩ := hP k hk
  refine ⟨A, n', c', ?_, h1.rd⟩
  rw [Nat.mul_one, Addr.add_lit, Nat.zero_add]
  exact (hB.cell k).trans h0
theorem OwSZ.rd (h : OwSZ TI TR TS lo hi w A n c L) : RdRSS w A n c L := by
  obtain ⟨h1, h2, h3, h4⟩ := h
  rcases h4 with h4 | ⟨g, cs, fs, rfl, hB, hc, hf, hP, hF⟩
  · subst h4
    obtain rfl := List.length_eq_zero_iff.1 h1
    exact RdS.nil _ _ _
  · exact rss_rd hB h1 h2 h3 hP
theorem OwSZ.keep (h : OwSZ TI TR TS lo hi w A n c L) (hs : w.heap.size ≤ W.heap.size) (hk : ∀ b, lo ≤ b → b < hi → b < w.heap.size → W.heap[b]? = w.heap[b]?) : OwSZ TI TR TS lo hi W A n c L := by
  obtain ⟨h1, h2, h3, h4⟩ := h
  refine ⟨h1, h2, h3, ?_⟩
  rcases h4 with h4 | ⟨g, cs, fs, rfl, hB, hc, hf, hP, hF⟩
  · exact .inl h4
  · have hg := hF.2 g (by simp)
    refine .inr ⟨g, cs, fs, rfl, (hk g hg.1 hg.2 hB.lt).trans hB, hc, hf, fun i hi => (hP i hi).keep rfl hs fun b hb => ?_, hF⟩
    have hm := hF.2 b (List.mem_cons_of_mem _ (mem_flatten_pix hb))
    exact hk b hm.1 hm.2 ((hP i hi).lt b hb)
theorem OwSZ.bl (h : OwSZ TI TR TS lo hi w A n c L) (hb : Bl w W) : OwSZ TI TR TS lo hi W A n c L := h.keep hb.size fun b _ _ hl => Below.block hb b hl
theorem OwSZ.ob (h : OwSZ TI TR TS lo hi w A n c L) (ho : Ob bs w W) (hd : ∀ b ∈ bs, b < lo ∨ hi ≤ b) : OwSZ TI TR TS lo hi W A n c L :=
  h.keep ho.size fun b h1 h2 hl => ho.block b hl fun hm => by have := hd b hm; omega
theorem OwSZ.low (h : OwSZ TI TR TS lo hi w A n c L) (h1 : lo' ≤ lo) (h2 : hi ≤ hi') : OwSZ TI TR TS lo' hi' w A n c L := by
  obtain ⟨a1, a2, a3, a4⟩ := h
  refine ⟨a1, a2, a3, ?_⟩
  rcases a4 with h4 | ⟨g, cs, fs, rfl, hB, hc, hf, hP, hF⟩
  · exact .inl h4
  · exact .inr ⟨g, cs, fs, rfl, hB, hc, hf, hP, hF.mono h1 h2⟩
end
def advL (l : List RatD) : Nat := sumTo advR l l.length
def mkSS (L : List (List RatD)) (k : Int) : List (List RatD) := (List.range L.length).map fun i => mkLR (pix L i) (k + (sumTo advL L i : Int))
theorem mkSS_len (L : List (List RatD)) (k : Int) : (mkSS L k).length = L.length := by simp [mkSS]
theorem pix_mkSS (L : List (List RatD)) (k : Int) {i : Nat} (h : i < L.length) : pix (mkSS L k) i = mkLR (pix L i) (k + (sumTo advL L i : Int)) := by simp [pix, mkSS, h]
theorem advL_le {l : List RatD} (h : szL szR l ≤ 1048576) : advL l ≤ 1048576 := by
  have a1 := sumTo_advR l l.length
  unfold advL
  unfold szL at h
  omega
theorem sumTo_advL {L : List (List RatD)} {n : Nat} (hsz : ∀ i, i < n → szL szR (pix L i) ≤ 1048576) : ∀ k, k ≤ n → sumTo advL L k ≤ k * 1048576 := by
  intro k
  induction k with
  | zero => intro _; exact Nat.le_refl _
  | succ k ih =>
    intro hk
    have := ih (by omega)
    have := advL_le (hsz k (by omega))
    simp only [sumTo]
    omega
end

section
open Go.RowKit
/-- append of one element, laid by the call itself, in a region that draws its order. -/
theorem step_append_row {P : Program} {α : Type} [Inhabited α] {N : List Nat → Prop} (hN : AppN N) {size bytes : Nat} {El : World → Array Value → Nat → α → List Nat → Prop} (hk : KeepE size El) {TP t : TypeId} {z : Value}
    (hinfo : (P.info? TP).map (fun i => (i.zero, i.size, i.bytes)) = some (some z, size, bytes)) (hzs : z.cells.size = size) (hsz : 0 < size) (hby : bytes ≤ 4096) (ht : P.underlying t = some (.slice TP))
    {W : World} {news : Array Value} {p : α} {bs : List Nat} {lo hi : Nat} {l : List α} {ops : Array Oper} {o : Oper} {a : Act} {K : Act → World → Prop} {Q : Exit → Act → World → Prop} {F : Prop} (hgd : o.guard = none) (s x : Operand)
    (ho : o.op = .call { callee := .builtin .append, args := #[s, x], argTypes := #[t, t] }) (v : Value) (hs : a.eval s = v) (hrow : RowG N TP size El lo hi W v l)
    (hel : El W news 0 p bs) (hnl : news.size = size) (h1 : ∀ u ∈ news.toList, u.oneCell' = true) (hbs : ∀ b ∈ bs, hi ≤ b ∧ b < W.heap.size) (hNb : N bs) (hlh : lo ≤ hi)
    (c : Nat) (hx : a.eval x = .slice (some ⟨W.heap.size, 0, none⟩) 1 c) (hlen : l.length ≤ 1048576) (w0 : World) (hb : Bl w0 W) (h0 : w0.heap.size ≤ lo)
    (h : ∀ v' w', RowG N TP size El lo w'.heap.size w' v' (l ++ [p]) → Bl w0 w' → (v' = .slice none 0 0 → False) → K (a.put o.dst v') w') : if Region.wanted o (yielded ops a.tmps) = true then Oper.wp P o a (W.alloc (.cells news TP)) K Q else F := by
  have hw : Region.wanted o (yielded ops a.tmps) = true := by simp [Region.wanted, hgd]
  rw [if_pos hw]
  obtain ⟨i0, hi0, hz0, hz1, hz2⟩ := info_parts hinfo
  obtain ⟨cells, fs, r1, r2, r3, r4, r5, r6, r7⟩ := hrow
  have ro := World.ownsRow.alloc r1 (.cells news TP)
  have hnew : (W.alloc (.cells news TP)).heap[W.heap.size]? = some (.cells news TP (0, 0)) := heap_alloc_new W _
  have hsz2 : (W.alloc (.cells news TP)).heap.size = W.heap.size + 1 := by simp
  have hm : (l.length + 1) * bytes ≤ 140737488355328 := Nat.le_trans (Nat.mul_le_mul (show l.length + 1 ≤ 1048577 by omega) hby) (by omega)
  obtain ⟨v', w', hrun, g1, g2, g3, g4⟩ := run_append_own_at (P := P) (W.alloc (.cells news TP)) lo t o.type TP i0 z size bytes ht hi0 hz0 hz1 hz2 hzs hsz v l.length cells ro ⟨W.heap.size, 0, none⟩ 1 c news.toList (by simpa using hnl) (World.news_of_block hnew) h1 (by unfold maxLen; omega) hm (by omega)
  unfold Oper.wp execOp
  simp only [ho, resolve, invoke, builtin, Sem.run_bind, Sem.run_pure, Result.andThen_ok, List.map_toArray, List.map_cons, List.map_nil, hs, hx, hrun]
  have hne : v' ≠ .slice none 0 0 := fun e => by have := (g3.1 e).2; omega
  have hws := g2.size
  have hold : ∀ b, b < W.heap.size → v.ownBlock ≠ some b → w'.heap[b]? = W.heap[b]? := fun b hb1 hb2 => (g2.block b (by omega) (fun e => hb2 e.symm)).trans (Below.heap_alloc W _ b hb1)
  have hown : ∀ b, v'.ownBlock = some b → (v.ownBlock = some b ∨ b = W.heap.size + 1) := by
    intro b e
    rcases g4 with g4 | g4
    · exact .inl (by rw [← g4]; exact e)
    · rw [g4] at e; injection e with e; right; omega
  have hvl : ∀ b, v'.ownBlock = some b → lo ≤ b ∧ b < w'.heap.size := fun b e => by have := World.ownsRow.lt g1 b e; exact this
  refine h v' w' ⟨cells ++ news.toList, fs ++ [bs], by simpa using g1, fun g e => (hvl g e).2, by simp [r3], fun i hi' => ?_, fun b hm' => ?_, ?_, Nat.le_refl _⟩ ((hb.alloc _).grown g2 (fun k e => by have := (World.ownsRow.lt r1 k e).1; omega)) hne
  · have hcl := r1.1
    rw [List.length_append, List.length_singleton] at hi'
    rcases Nat.lt_succ_iff_lt_or_eq.1 hi' with hi' | rfl
    · rw [pix_append_left hi', pix_append_left (by rw [r3]; exact hi')]
      refine hk _ _ _ _ _ _ _ _ (r4 i hi') (fun j hj => ?_) (by omega) fun b hb' => ?_
      · have : i * size + j < cells.length := by
          rw [hcl]
          have : (i + 1) * size ≤ l.length * size := Nat.mul_le_mul_right _ hi'
          rw [Nat.succ_mul] at this
          omega
        simp [List.getElem?_append_left this]
      · have := r5 b (mem_flatten_pix hb')
        exact hold b (by omega) this.2.2
    · rw [pix_append_last, pixs_last r3]
      refine hk _ _ _ _ _ _ _ _ hel (fun j hj => ?_) (by omega) fun b hb' => ?_
      · have : (cells ++ news.toList)[l.length * size + j]? = news.toList[j]? := by
          rw [List.getElem?_append_right (by rw [hcl]; omega), hcl]
          congr 1; omega
        simpa using this
      · have := hbs b hb'
        exact hold b this.2 fun e => by have := r2 b e; omega
  · rw [List.flatten_append, List.mem_append] at hm'
    rcases hm' with hm' | hm'
    · have := r5 b hm'
      refine ⟨this.1, by omega, fun e => ?_⟩
      rcases hown b e with e | e
      · exact this.2.2 e
      · omega
    · have := hbs b (by simpa using hm')
      refine ⟨by omega, by omega, fun e => ?_⟩
      rcases hown b e with e | e
      · have := r2 b e; omega
      · omega
  · rw [List.flatten_append]
    refine hN.2 _ _ r6 (by simpa using hNb) fun x hx' y hy e => ?_
    have a1 := r5 x hx'
    have a2 := hbs y (by simpa using hy)
    omega

theorem rsIn_keep (T TR : TypeId) : KeepE 1 (RsIn T TR) := by
  intro w W cs cs' i i' x bs h hc hs hb
  exact RsIn.keep (i := i') (cs := cs') (by obtain ⟨A, n, c, h0, h1⟩ := h; exact ⟨A, n, c, (hc 0 (by omega)).trans h0, h1⟩) rfl hs hb
/-- A row of fractions; a row of such rows. -/
abbrev RowR (N : List Nat → Prop) (lo hi : Nat) (w : World) (v : Value) (l : List RatD) : Prop := RowG N 29 3 (RtIn 3) lo hi w v l
abbrev RowS (N : List Nat → Prop) (lo hi : Nat) (w : World) (v : Value) (l : List (List RatD)) : Prop := RowG N 33 1 (RsIn 3 29) lo hi w v l
section
variable {N : List Nat → Prop} {lo hi : Nat} {w W : World} {v : Value} {l : List RatD} {L : List (List RatD)}
theorem RowR.ft (h : RowR List.Nodup lo hi w v l) (hl : l.length ≤ 1048576) : ∃ A c bs, v = .slice A l.length c ∧ FtRS 3 29 w A l.length c l bs ∧ bs.Nodup ∧ ∀ b ∈ bs, lo ≤ b ∧ b < hi := by
  obtain ⟨cells, fs, r1, r2, r3, r4, r5, r6, r7⟩ := h
  rcases r1.2 with ⟨rfl, h0⟩ | ⟨g, cap, cur, rfl, hg, hh, hn, hcap, hcs, ht⟩
  · exact ⟨none, 0, [], by rw [h0], ⟨rfl, by rw [h0]; exact Nat.le_refl _, hl, .inl ⟨h0, rfl⟩⟩, List.nodup_nil, fun b hb => by cases hb⟩
  · have hlen : l.length * 3 ≤ cur.size := by rw [hcs]; exact Nat.mul_le_mul_right _ hn
    have hgm : g ∉ fs.flatten := fun hm => (r5 g hm).2.2 rfl
    refine ⟨_, cap, g :: fs.flatten, rfl, ⟨rfl, hn, hl, .inr ⟨g, cur, fs, rfl, hh, hlen, ⟨r3, fun i hi => ?_⟩, rfl⟩⟩, List.nodup_cons.2 ⟨hgm, r6⟩, fun b hb => ?_⟩
    · refine rtIn_keep _ _ _ _ _ _ _ _ _ (r4 i hi) (fun j hj => ?_) (Nat.le_refl _) fun _ _ => rfl
      rw [← ht]
      have : i * 3 + j < l.length * 3 := by omega
      simp [this]
    · rcases List.mem_cons.1 hb with rfl | hb
      · exact ⟨hg, r2 _ rfl⟩
      · exact ⟨(r5 b hb).1, (r5 b hb).2.1⟩
theorem RowS.own (h : RowS List.Nodup lo hi w v L) (hl : L.length ≤ 1048576) : ∃ A c, v = .slice A L.length c ∧ OwSZ 3 29 33 lo hi w A L.length c L := by
  obtain ⟨cells, fs, r1, r2, r3, r4, r5, r6, r7⟩ := h
  rcases r1.2 with ⟨rfl, h0⟩ | ⟨g, cap, cur, rfl, hg, hh, hn, hcap, hcs, ht⟩
  · exact ⟨none, 0, by rw [h0], rfl, by rw [h0]; exact Nat.le_refl _, hl, .inl h0⟩
  · have hlen : L.length ≤ cur.size := by rw [hcs]; omega
    have hgm : g ∉ fs.flatten := fun hm => (r5 g hm).2.2 rfl
    refine ⟨_, cap, rfl, rfl, hn, hl, .inr ⟨g, cur, fs, rfl, hh, hlen, r3, fun i hi => ?_, List.nodup_cons.2 ⟨hgm, r6⟩, fun b hb => ?_⟩⟩
    · have h1 := r4 i hi
      rw [Nat.mul_one] at h1
      refine h1.keep ?_ (Nat.le_refl _) fun _ _ => rfl
      rw [← ht]
      simp [hi]
    · rcases List.mem_cons.1 hb with rfl | hb
      · exact ⟨hg, r2 _ rfl⟩
      · exact ⟨(r5 b hb).1, (r5 b hb).2.1⟩
end
theorem step_append_rat {W : World} {s : Bool} {A : Option Addr} {n c : Nat} {B : Option Addr} {m d : Nat} {p : RatD} {lo hi b0 : Nat} {l : List RatD} {ops : Array Oper} {o : Oper} {a : Act} {K : Act → World → Prop} {Q : Exit → Act → World → Prop} {F : Prop} (hgd : o.guard = none) (s1 x1 : Operand)
    (ho : o.op = .call { callee := .builtin .append, args := #[s1, x1], argTypes := #[33, 33] }) (v : Value) (hs : a.eval s1 = v) (hrow : RowR List.Nodup lo hi W v l)
    (hpt : OwR 3 b0 W s A n c B m d p) (hb0 : hi ≤ b0) (hlh : lo ≤ hi) (c1 : Nat) (hx : a.eval x1 = .slice (some ⟨W.heap.size, 0, none⟩) 1 c1) (hlen : l.length ≤ 1048576) (w0 : World) (hb : Bl w0 W) (h0 : w0.heap.size ≤ lo)
    (h : ∀ v' w', RowR List.Nodup lo w'.heap.size w' v' (l ++ [p]) → Bl w0 w' → K (a.put o.dst v') w') : if Region.wanted o (yielded ops a.tmps) = true then Oper.wp Tryz.prog o a (W.alloc (.cells #[.bool s, .slice A n c, .slice B m d] 29)) K Q else F := by
  obtain ⟨bs, f1, f2⟩ := hpt
  exact step_append_row appN_nodup (rtIn_keep 3) info_rat (by rfl) (by omega) (by omega) Tryz.underlying33 hgd s1 x1 ho v hs hrow (p := p) (bs := bs) ⟨_, _, _, _, _, _, _, ⟨rfl, rfl, rfl⟩, f1⟩ rfl (by simp [Value.oneCell']) (fun b hm => ⟨Nat.le_trans hb0 (f2.2 b hm).1, (f2.2 b hm).2⟩) f2.1 hlh c1 hx hlen w0 hb h0 fun v' w' g1 g2 _ => h v' w' g1 g2
theorem wpList_append_rat {W : World} {s : Bool} {A : Option Addr} {n c : Nat} {B : Option Addr} {m d : Nat} {p : RatD} {lo hi b0 : Nat} {l : List RatD} {ops : Array Oper} {rest : List Oper} {o : Oper} {a : Act} {Q : Exit → Act → World → Prop} (hgd : o.guard = none) (s1 x1 : Operand)
    (ho : o.op = .call { callee := .builtin .append, args := #[s1, x1], argTypes := #[33, 33] }) (v : Value) (hs : a.eval s1 = v) (hrow : RowR List.Nodup lo hi W v l)
    (hpt : OwR 3 b0 W s A n c B m d p) (hb0 : hi ≤ b0) (hlh : lo ≤ hi) (c1 : Nat) (hx : a.eval x1 = .slice (some ⟨W.heap.size, 0, none⟩) 1 c1) (hlen : l.length ≤ 1048576) (w0 : World) (hb : Bl w0 W) (h0 : w0.heap.size ≤ lo)
    (h : ∀ v' w', RowR List.Nodup lo w'.heap.size w' v' (l ++ [p]) → Bl w0 w' → wpList Tryz.prog ops Q rest (a.put o.dst v') w') : wpList Tryz.prog ops Q (o :: rest) a (W.alloc (.cells #[.bool s, .slice A n c, .slice B m d] 29)) := by
  obtain ⟨bs, f1, f2⟩ := hpt
  exact wpList_append_row appN_nodup (rtIn_keep 3) info_rat (by rfl) (by omega) (by omega) Tryz.underlying33 hgd s1 x1 ho v hs hrow (p := p) (bs := bs) ⟨_, _, _, _, _, _, _, ⟨rfl, rfl, rfl⟩, f1⟩ rfl (by simp [Value.oneCell']) (fun b hm => ⟨Nat.le_trans hb0 (f2.2 b hm).1, (f2.2 b hm).2⟩) f2.1 hlh c1 hx hlen w0 hb h0 fun v' w' g1 g2 _ => h v' w' g1 g2
theorem info_rats : (Tryz.prog.info? 33).map (fun i => (i.zero, i.size, i.bytes)) = some (some (.slice none 0 0), 1, 24) := by kernel_rfl
theorem wpList_append_rats {W : World} {A : Option Addr} {n c : Nat} {p : List RatD} {bs : List Nat} {lo hi : Nat} {l : List (List RatD)} {ops : Array Oper} {rest : List Oper} {o : Oper} {a : Act} {Q : Exit → Act → World → Prop} (hgd : o.guard = none) (s1 x1 : Operand)
    (ho : o.op = .call { callee := .builtin .append, args := #[s1, x1], argTypes := #[113, 113] }) (v : Value) (hs : a.eval s1 = v) (hrow : RowS List.Nodup lo hi W v l)
    (hpt : FtRS 3 29 W A n c p bs) (hnd : bs.Nodup) (hbs : ∀ b ∈ bs, hi ≤ b ∧ b < W.heap.size) (hlh : lo ≤ hi) (c1 : Nat) (hx : a.eval x1 = .slice (some ⟨W.heap.size, 0, none⟩) 1 c1) (hlen : l.length ≤ 1048576) (w0 : World) (hb : Bl w0 W) (h0 : w0.heap.size ≤ lo)
    (h : ∀ v' w', RowS List.Nodup lo w'.heap.size w' v' (l ++ [p]) → Bl w0 w' → wpList Tryz.prog ops Q rest (a.put o.dst v') w') : wpList Tryz.prog ops Q (o :: rest) a (W.alloc (.cells #[.slice A n c] 33)) :=
  wpList_append_row appN_nodup (rsIn_keep 3 29) info_rats (by rfl) (by omega) (by omega) Tryz.underlying113 hgd s1 x1 ho v hs hrow (p := p) (bs := bs) ⟨A, n, c, rfl, hpt⟩ rfl (by simp [Value.oneCell']) hbs hnd hlh c1 hx hlen w0 hb h0 fun v' w' g1 g2 _ => h v' w' g1 g2
end

section
open Go.RowKit

/-- All fractions of a list of lists are valid. -/
def SqOk (L : List (List RatD)) : Prop := ∀ i, i < L.length → ∀ j, j < (pix L i).length → OkR (pix (pix L i) j)
open Classical in
noncomputable def sqIf (L : List (List RatD)) : List (List RatD) := if SqOk L then L else []
noncomputable def massV (D : RatD) (i j : Nat) : RatD := divR D (ofFrac (if i = j then 6 else 12) 1)
noncomputable def massRow (D : RatD) (i k : Nat) : List RatD := (List.range k).map (massV D i)
noncomputable def massTo (D : RatD) (k : Nat) : List (List RatD) := (List.range k).map fun i => massRow D i 3
noncomputable def massL (l : List PtD) : List (List RatD) := if propB l = true then sqIf (massTo (areaR (pix l 0) (pix l 1) (pix l 2)) 3) else []
theorem massRow_succ (D : RatD) (i k : Nat) : massRow D i (k + 1) = massRow D i k ++ [massV D i k] := by unfold massRow; rw [List.range_succ, List.map_append]; rfl
theorem massRow_len (D : RatD) (i k : Nat) : (massRow D i k).length = k := by simp [massRow]
theorem massTo_succ (D : RatD) (k : Nat) : massTo D (k + 1) = massTo D k ++ [massRow D k 3] := by unfold massTo; rw [List.range_succ, List.map_append]; rfl
theorem massTo_len (D : RatD) (k : Nat) : (massTo D k).length = k := by simp [massTo]
/-- Lists whose fractions are computed ones. -/
def ZOk (L : List (List RatD)) : Prop := ∀ i, i < L.length → 0 < (pix L i).length ∧ ∀ j, j < (pix L i).length → pix (pix L i) j = zR ∨ OkR (pix (pix L i) j)
theorem divR_z (r s : RatD) : divR r s = zR ∨ OkR (divR r s) := by
  unfold divR
  split
  · rename_i h
    exact ofFrac_ok (Nat.mul_pos h.1.get.2.1 (by have := h.2.2; omega))
  · exact .inl rfl
theorem divR_24 (r s : RatD) : (divR r s).mag.length ≤ 24 ∧ (divR r s).den.length ≤ 24 := by
  unfold divR
  split
  · exact len24_ofFrac _ _
  · exact len24_zR
theorem massTo_z (D : RatD) : ZOk (massTo D 3) := by
  intro i hi
  rw [massTo_len] at hi
  have e : pix (massTo D 3) i = massRow D i 3 := by simp [pix, massTo, hi]
  rw [e, massRow_len]
  refine ⟨by omega, fun j hj => ?_⟩
  have e2 : pix (massRow D i 3) j = massV D i j := by simp [pix, massRow, hj]
  rw [e2]
  exact divR_z _ _
theorem szL_24 {l : List RatD} (hl : l.length ≤ 3) (h : ∀ j, j < l.length → (pix l j).mag.length ≤ 24 ∧ (pix l j).den.length ≤ 24) : szL szR l ≤ 1048576 := by
  rcases l with _ | ⟨a, _ | ⟨b, _ | ⟨c, _ | ⟨d, l⟩⟩⟩⟩
  · simp [szL, sumTo]
  · have h0 := h 0 (by simp)
    simp [pix] at h0
    simp [szL, sumTo, szR, pix]; omega
  · have h0 := h 0 (by simp)
    have h1 := h 1 (by simp)
    simp [pix] at h0 h1
    simp [szL, sumTo, szR, pix]; omega
  · have h0 := h 0 (by simp)
    have h1 := h 1 (by simp)
    have h2 := h 2 (by simp)
    simp [pix] at h0 h1 h2
    simp [szL, sumTo, szR, pix]; omega
  · simp at hl
theorem massL_sz (l : List PtD) : (massL l).length ≤ 8 ∧ ∀ i, i < (massL l).length → szL szR (pix (massL l) i) ≤ 1048576 := by
  have h0 : (([] : List (List RatD)).length ≤ 8 ∧ ∀ i, i < ([] : List (List RatD)).length → szL szR (pix ([] : List (List RatD)) i) ≤ 1048576) := ⟨Nat.zero_le _, fun i hi => by simp at hi⟩
  unfold massL sqIf
  split
  · split
    · rw [massTo_len]
      refine ⟨by omega, fun i hi => ?_⟩
      have e : pix (massTo (areaR (pix l 0) (pix l 1) (pix l 2)) 3) i = massRow (areaR (pix l 0) (pix l 1) (pix l 2)) i 3 := by simp [pix, massTo, hi]
      rw [e]
      refine szL_24 (by rw [massRow_len]; omega) fun j hj => ?_
      rw [massRow_len] at hj
      have e2 : pix (massRow (areaR (pix l 0) (pix l 1) (pix l 2)) i 3) j = massV (areaR (pix l 0) (pix l 1) (pix l 2)) i j := by simp [pix, massRow, hj]
      rw [e2]
      exact divR_24 _ _
    · exact h0
  · exact h0

def ZTo (l : List RatD) : Prop := ∀ j, j < l.length → pix l j = zR ∨ OkR (pix l j)
set_option maxHeartbeats 400000 in
theorem ifVectorF_any (w : World) {s : Bool} {A : Option Addr} {n c : Nat} {B : Option Addr} {m d : Nat} {r : RatD} {b : Bool} (h : RdR w s A n c B m d r) (hz : r = zR ∨ OkR r) (hb : okR r = b) :
    Calls Tryz.prog 182 #[.agg #[.bool s, .slice A n c, .slice B m d]] w fun e w' => e = .returned (.bool (!b)) ∧ Bl w w' := by
  have hd := okR_den hz
  rw [h.den.len, ← okR_true] at hd
  cases b with
  | true =>
    have hm : 0 < m := by have := hd.2 hb; omega
    clear hd hz h hb
    go_enter Tryz.func182, Tryz.ntmps182
    go_wp2_with fail
    refine (isRat_yes _ hm).mono ?_
    rintro e w1 ⟨rfl, hb1⟩
    go_wp2_with fail
    go_ret
    exact ⟨rfl, slc⟩
  | false =>
    obtain rfl : m = 0 := by
      rcases Nat.eq_zero_or_pos m with h0 | h0
      · exact h0
      · rw [hd.1 (by omega)] at hb; cases hb
    clear hd hz h hb
    go_enter Tryz.func182, Tryz.ntmps182
    go_wp2_with fail
    refine (isRat_no _ rfl).mono ?_
    rintro e w1 ⟨rfl, hb1⟩
    go_wp2_with fail
    go_ret
    exact ⟨rfl, slc⟩
set_option maxHeartbeats 400000 in
theorem IndexRatV_any (w : World) {A : Option Addr} {n c : Nat} {l : List RatD} (h : RdRS w A n c l) (hz : ZTo l) :
    Calls Tryz.prog 196 #[.slice A n c, .func (.func 182) #[] #[]] w (IdxPostB (AllOk l) w) := by
  have hn := h.small
  have hl := Lib.hid h.len
  go_enter Tryz.func196, Tryz.ntmps196
  go_wp2_with fail
  go_loopw [8] (fun i wr => ∃ k : Nat, k ≤ n ∧ i = .int .i64 (k : Int) ∧ OkTo l k ∧ Bl w wr) (fun i _ => n - (intOf i).toNat)
  case atStart => exact ⟨0, Nat.zero_le _, rfl, OkTo.zero _, Bl.refl _⟩
  case round =>
    obtain ⟨k, hk, rfl, hin, hbw⟩ := hrel
    by_cases hkn : k < n
    · have hki : (k : Int) < (n : Int) := by omega
      obtain ⟨ad, rfl, hlta, hca⟩ := (h.bl hbw).cells k hkn
      obtain ⟨s, A, n', c', B, m, d', ⟨g0, g1, g2⟩, hx⟩ := hca
      by_cases ho : OkR (pix l k)
      · have hin' := hin.step ho
        have hok := okR_of ho
        clear hin ho
        go_wp2_with fail
        refine (ifVectorF_any _ hx (hz k (by rw [hl.out]; exact hkn)) hok).mono ?_
        rintro e w1 ⟨rfl, hb1⟩
        have hb2 : Bl w w1 := slc
        clear hb1
        go_wp2_with fail
        go_roundw
        case rel => exact ⟨k + 1, by omega, by go_num, hin', hb2⟩
        case measure => simp [intOf]; omega
      · have hno : ¬ AllOk l := fun ha => ho (ha k (by rw [hl.out]; exact hkn))
        have hno := Lib.hid hno; rename_i h_; clear h_
        have hok := okR_no ho
        clear hin ho
        go_wp2_with fail
        refine (ifVectorF_any _ hx (hz k (by rw [hl.out]; exact hkn)) hok).mono ?_
        rintro e w1 ⟨rfl, hb1⟩
        have hb2 : Bl w w1 := slc
        clear hb1
        go_wp2_with fail
        go_ret
        exact ⟨_, rfl, fun ha => absurd ha hno.out, fun _ => by omega, hb2⟩
    · have hall : AllOk l := fun j hj => hin j (by rw [hl.out] at hj; omega)
      have hall := Lib.hid hall; rename_i h_; clear h_
      go_wp2_with fail
      go_ret
      exact ⟨_, rfl, fun _ => rfl, fun hno => absurd hall.out hno, hbw⟩
theorem ContainsRatV_yes (w : World) {A : Option Addr} {n c : Nat} {l : List RatD} (h : RdRS w A n c l) (hz : ZTo l) (hp : AllOk l) :
    Calls Tryz.prog 151 #[.slice A n c, .func (.func 182) #[] #[]] w fun e w' => e = .returned (.bool false) ∧ Bl w w' := by
  have hp := Lib.hid hp; rename_i h_; clear h_
  go_enter Tryz.func151, Tryz.ntmps151
  go_wp2_with fail
  refine (IndexRatV_any _ h hz).mono ?_
  rintro e w1 ⟨i, rfl, h1, _, hb⟩
  have h1 := h1 hp.out
  subst h1
  go_wp2_with fail
  go_ret
  exact ⟨rfl, hb⟩
theorem ContainsRatV_no (w : World) {A : Option Addr} {n c : Nat} {l : List RatD} (h : RdRS w A n c l) (hz : ZTo l) (hp : ¬ AllOk l) :
    Calls Tryz.prog 151 #[.slice A n c, .func (.func 182) #[] #[]] w fun e w' => e = .returned (.bool true) ∧ Bl w w' := by
  have hp := Lib.hid hp; rename_i h_; clear h_
  go_enter Tryz.func151, Tryz.ntmps151
  go_wp2_with fail
  refine (IndexRatV_any _ h hz).mono ?_
  rintro e w1 ⟨i, rfl, _, h1, hb⟩
  have h1 := h1 hp.out
  go_wp2_with fail
  go_ret
  exact ⟨rfl, hb⟩

theorem ifVector_yes (w : World) {A : Option Addr} {n c : Nat} {l : List RatD} (h : RdRS w A n c l) (hz : ZTo l) (hp : AllOk l) :
    Calls Tryz.prog 135 #[.slice A n c] w fun e w' => e = .returned (.slice A n c) ∧ Bl w w' := by
  have hp := Lib.hid hp; rename_i h_; clear h_
  go_enter Tryz.func135, Tryz.ntmps135
  go_wp2_with fail
  refine (ContainsRatV_yes _ h hz hp.out).mono ?_
  rintro e w1 ⟨rfl, hb⟩
  go_wp2_with fail
  go_ret
  exact ⟨rfl, hb⟩
theorem ifVector_no (w : World) {A : Option Addr} {n c : Nat} {l : List RatD} (h : RdRS w A n c l) (hz : ZTo l) (hp : ¬ AllOk l) :
    Calls Tryz.prog 135 #[.slice A n c] w fun e w' => e = .returned (.slice none 0 0) ∧ Bl w w' := by
  have hp := Lib.hid hp; rename_i h_; clear h_
  go_enter Tryz.func135, Tryz.ntmps135
  go_wp2_with fail
  refine (ContainsRatV_no _ h hz hp.out).mono ?_
  rintro e w1 ⟨rfl, hb⟩
  go_wp2_with fail
  go_ret
  exact ⟨rfl, hb⟩
def SqTo (L : List (List RatD)) (k : Nat) : Prop := ∀ i, i < k → AllOk (pix L i)
theorem SqTo.step {L : List (List RatD)} {k : Nat} (h : SqTo L k) (h0 : AllOk (pix L k)) : SqTo L (k + 1) := by
  intro j hj
  rcases Nat.lt_succ_iff_lt_or_eq.1 hj with hj | rfl
  · exact h j hj
  · exact h0
set_option maxHeartbeats 1000000 in
theorem ifSquare_any (w : World) {A : Option Addr} {n c : Nat} {L : List (List RatD)} (h : RdRSS w A n c L) (hz : ZOk L) :
    Calls Tryz.prog 159 #[.slice A n c] w fun e w' => ((SqOk L ∧ e = .returned (.slice A n c)) ∨ (¬ SqOk L ∧ e = .returned (.slice none 0 0))) ∧ Bl w w' := by
  have hn := h.small
  have hl := Lib.hid h.len
  go_enter Tryz.func159, Tryz.ntmps159
  go_wp2_with fail
  go_loopw [7] (fun i wr => ∃ k : Nat, k ≤ n ∧ i = .int .i64 (k : Int) ∧ SqTo L k ∧ Bl w wr) (fun i _ => n - (intOf i).toNat)
  case atStart => exact ⟨0, Nat.zero_le _, rfl, fun j hj => by omega, Bl.refl _⟩
  case round =>
    obtain ⟨k, hk, rfl, hin, hbw⟩ := hrel
    by_cases hkn : k < n
    · have hki : (k : Int) < (n : Int) := by omega
      obtain ⟨ad, rfl, hlta, hca⟩ := (RdRSS.bl h hbw).cells k hkn
      obtain ⟨A', n', c', g0, hx⟩ := hca
      rw [Nat.mul_one] at g0
      have hzk := hz k (by rw [hl.out]; exact hkn)
      have hn' : 0 < n' := by rw [← hx.len]; exact hzk.1
      by_cases ho : AllOk (pix L k)
      · have hin' := hin.step ho
        have ho := Lib.hid ho; rename_i h_; clear h_
        clear hin
        go_wp2_with fail
        refine (ifVector_yes _ hx hzk.2 ho.out).mono ?_
        rintro e w1 ⟨rfl, hb1⟩
        have hb2 : Bl w w1 := slc
        clear hb1
        go_wp2_with fail
        go_roundw
        case rel => exact ⟨k + 1, by omega, by go_num, hin', hb2⟩
        case measure => simp [intOf]; omega
      · have hno : ¬ SqOk L := fun ha => ho fun j hj => ha k (by rw [hl.out]; exact hkn) j hj
        have hno := Lib.hid hno; rename_i h_; clear h_
        have ho := Lib.hid ho; rename_i h_; clear h_
        clear hin
        go_wp2_with fail
        refine (ifVector_no _ hx hzk.2 ho.out).mono ?_
        rintro e w1 ⟨rfl, hb1⟩
        have hb2 : Bl w w1 := slc
        clear hb1
        go_wp2_with fail
        go_ret
        exact ⟨.inr ⟨hno.out, rfl⟩, hb2⟩
    · have hall : SqOk L := fun j hj i hi => hin j (by rw [hl.out] at hj; omega) i hi
      have hall := Lib.hid hall; rename_i h_; clear h_
      go_wp2_with fail
      go_ret
      exact ⟨.inl ⟨hall.out, rfl⟩, hbw⟩
end

end Go.Proofs.YtajlahjghapbkaaGreat
