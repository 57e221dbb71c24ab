/- Lemmas. -/
import Derived.Test.YtajlahjghapbkaaGreatRows
import Derived.Test.YtajlahjghapbkaaGreatPIntegralsM19
import Derived.Test.YtajlahjghapbkaaGreatPIntegralsM02
import Derived.Test.YtajlahjghapbkaaGreatPIntegralsM01
import Derived.Test.YtajlahjghapbkaaGreatPIntegralsM08
namespace Go.Proofs.YtajlahjghapbkaaGreat
section
open Go.RowKit

set_option maxRecDepth 100000 in
set_option maxHeartbeats 4000000 in
theorem sPointAt_any (w : World) (x y : Int) (hx1 : -1000000 < x) (hx2 : x ≤ 1000000) (hy1 : -1000000 < y) (hy2 : y ≤ 1000000) :
    Calls Tryz.prog 142 #[.int .i64 x, .int .i64 y] w fun en w' => ∃ s1 A1 n1 c1 B1 m1 d1 t1 C1 i1 e1 D1 j1 f1, en = .returned (.agg #[.bool s1, .slice A1 n1 c1, .slice B1 m1 d1, .bool t1, .slice C1 i1 e1, .slice D1 j1 f1]) ∧ OwP 3 w.heap.size w' s1 A1 n1 c1 B1 m1 d1 t1 C1 i1 e1 D1 j1 f1 ⟨ofFrac x 1, ofFrac y 1⟩ ∧ Bl w w' := by
  go_enter Tryz.func142, Tryz.ntmps142
  go_wp2_with fail
  refine calls_gen (fun W => Bl w W ∧ Wk 6 31 w.heap.size W) ⟨slc, bts⟩ ?_
  rintro W ⟨hbW, hr⟩
  refine (sRatFromInt_any _ x (by omega) (by omega)).mono ?_
  rintro e w2 ⟨s1, A1, n1, c1, B1, m1, d1, rfl, hR1, hb2⟩
  go_wp2_with fail
  refine (sRatFromInt_any _ y (by omega) (by omega)).mono ?_
  rintro e w3 ⟨t1, C1, i1, e1, D1, j1, f1, rfl, hR2, hb3⟩
  have hz : w.heap.size + 1 ≤ W.heap.size := hr.lt
  have hz2 : W.heap.size ≤ w2.heap.size := Bl.size hb2
  have hr := (hr.bl hb2).bl hb3
  have hbW : Bl w w3 := slc
  have hX : OwP 3 W.heap.size w3 s1 A1 n1 c1 B1 m1 d1 t1 C1 i1 e1 D1 j1 f1 ⟨ofFrac x 1, ofFrac y 1⟩ := OwP.two hR1 hR2 hb3 hz2
  have hX := OwP.low hX hz
  obtain ⟨v0, x0⟩ := hr.val_ (i := 0) (by omega)
  obtain ⟨v1, x1⟩ := hr.val_ (i := 1) (by omega)
  obtain ⟨v2, x2⟩ := hr.val_ (i := 2) (by omega)
  obtain ⟨v3, x3⟩ := hr.val_ (i := 3) (by omega)
  obtain ⟨v4, x4⟩ := hr.val_ (i := 4) (by omega)
  obtain ⟨v5, x5⟩ := hr.val_ (i := 5) (by omega)
  have hg := hr.lt
  obtain ⟨cs4, hB4, hc4⟩ := hr
  have hf0 := hB4.frozen 0
  have hf1 := hB4.frozen 1
  have hf2 := hB4.frozen 2
  have hf3 := hB4.frozen 3
  have hf4 := hB4.frozen 4
  have hf5 := hB4.frozen 5
  go_wp2_with fail
  exact bodyPost_ret (v := .agg #[.bool s1, .slice A1 n1 c1, .slice B1 m1 d1, .bool t1, .slice C1 i1 e1, .slice D1 j1 f1]) (by simp [results, Tryz.results142, go_sem, x0, x1, x2, x3, x4, x5]) rfl ⟨_, _, _, _, _, _, _, _, _, _, _, _, _, _, rfl, ((((((hX.far (by simp) _).far (by simp) _).far (by simp) _).far (by simp) _).far (by simp) _).far (by simp) _).low (by omega), slc⟩
end

section
open Go.RowKit

/-- The fraction that stands for a rational number. -/
def toR (q : Rat) : RatD := raw q.num q.den
/-- It is not too large. -/
def Fit (q : Rat) : Prop := q.num.natAbs < Bs ^ 24 ∧ q.den < Bs ^ 24
theorem Fit.ok {q : Rat} (h : Fit q) : OkR (toR q) := ⟨q.num, q.den, rfl, q.den_pos, q.reduced, dig_len_le.2 h.1, dig_len_le.2 h.2⟩
theorem rn_toR (q : Rat) : rn (toR q) = q.num := rn_raw _ _
theorem rd_toR (q : Rat) : rd (toR q) = q.den := rd_raw _ _
/-- The number of a fraction. -/
def vR (r : RatD) : Rat := mkRat (rn r) (rd r)
theorem OkR.toR {r : RatD} (h : OkR r) : r = toR (vR r) ∧ Fit (vR r) := by
  obtain ⟨h1, h2, h3, h4, h5⟩ := h.get
  have e : vR r = ⟨rn r, rd r, by omega, h3⟩ := (Rat.mk_eq_mkRat (rn r) (rd r) (by omega) h3).symm
  rw [e]
  exact ⟨h1, dig_len_le.1 h4, dig_len_le.1 h5⟩
open Classical in
theorem ofFrac_toR (x : Int) {D : Nat} (hD : 0 < D) : ofFrac x D = if Fit (mkRat x D) then toR (mkRat x D) else zR := by
  have h1 : (mkRat x D).num = x / (Nat.gcd x.natAbs D : Int) := by
    rw [Rat.num_mkRat, if_neg (by omega), Nat.gcd_comm]
  have h2 : (mkRat x D).den = D / Nat.gcd x.natAbs D := by
    rw [Rat.den_mkRat, if_neg (by omega), Nat.gcd_comm]
  have h3 : (mkRat x D).num.natAbs = x.natAbs / Nat.gcd x.natAbs D := by
    rw [h1, natAbs_ediv_gcd _ _ (Nat.gcd_dvd_left _ _)]
  unfold ofFrac Fit toR
  rw [h3, h2, h1]
  by_cases h : x.natAbs / Nat.gcd x.natAbs D < Bs ^ 24 ∧ D / Nat.gcd x.natAbs D < Bs ^ 24
  · rw [if_pos h, if_pos ⟨dig_len_le.2 h.1, dig_len_le.2 h.2⟩]
  · rw [if_neg h, if_neg (fun hk => h ⟨dig_len_le.1 hk.1, dig_len_le.1 hk.2⟩)]
theorem addR_toR {p q : Rat} (hp : Fit p) (hq : Fit q) (h : Fit (p + q)) : addR (toR p) (toR q) = toR (p + q) := by
  unfold addR
  rw [if_pos ⟨hp.ok, hq.ok⟩, rn_toR, rn_toR, rd_toR, rd_toR, ofFrac_toR _ (Nat.mul_pos p.den_pos q.den_pos), ← Rat.add_def', if_pos h]
theorem subR_toR {p q : Rat} (hp : Fit p) (hq : Fit q) (h : Fit (p - q)) : subR (toR p) (toR q) = toR (p - q) := by
  unfold subR
  rw [if_pos ⟨hp.ok, hq.ok⟩, rn_toR, rn_toR, rd_toR, rd_toR, ofFrac_toR _ (Nat.mul_pos p.den_pos q.den_pos), ← Rat.sub_def', if_pos h]
theorem mulR_toR {p q : Rat} (hp : Fit p) (hq : Fit q) (h : Fit (p * q)) : mulR (toR p) (toR q) = toR (p * q) := by
  unfold mulR
  rw [if_pos ⟨hp.ok, hq.ok⟩, rn_toR, rn_toR, rd_toR, rd_toR, ofFrac_toR _ (Nat.mul_pos p.den_pos q.den_pos), ← Rat.mul_def', if_pos h]
theorem div_mkRat (p q : Rat) (h0 : q ≠ 0) : mkRat (p.num * q.den * (if q.num < 0 then -1 else 1)) (p.den * q.num.natAbs) = p / q := by
  have hn : q.num ≠ 0 := fun h => h0 (Rat.num_eq_zero.1 h)
  have e : p / q = Rat.divInt (p.num * q.den) (p.den * q.num) := by
    rw [Rat.div_def, Rat.inv_def]
    conv => lhs; rw [← Rat.num_divInt_den p]
    rw [Rat.divInt_mul_divInt]
  rw [e]
  by_cases hq : q.num < 0
  · have hq2 : ((q.num.natAbs : Nat) : Int) = -q.num := by omega
    rw [if_pos hq, ← Rat.divInt_ofNat, ← Rat.neg_divInt_neg (p.num * q.den), Int.mul_neg_one, Int.natCast_mul, hq2, Int.mul_neg]
  · have hq2 : ((q.num.natAbs : Nat) : Int) = q.num := by omega
    rw [if_neg hq, ← Rat.divInt_ofNat, Int.mul_one, Int.natCast_mul, hq2]
theorem divR_toR {p q : Rat} (hp : Fit p) (hq : Fit q) (h0 : q ≠ 0) (h : Fit (p / q)) : divR (toR p) (toR q) = toR (p / q) := by
  have hn : q.num ≠ 0 := fun h => h0 (Rat.num_eq_zero.1 h)
  unfold divR
  rw [if_pos ⟨hp.ok, hq.ok, by rw [rn_toR]; exact hn⟩, rn_toR, rn_toR, rd_toR, rd_toR, ofFrac_toR _ (Nat.mul_pos p.den_pos (by omega)), div_mkRat p q h0, if_pos h]
theorem sgnR_toR {p : Rat} (hp : Fit p) : sgnR (toR p) = if p < 0 then -1 else if 0 < p then 1 else 0 := by
  unfold sgnR cmpZ
  rw [if_pos hp.ok, rn_toR]
  simp [Rat.lt_iff]
/-- Numerator and denominator are at most N. -/
def Bd (N : Nat) (q : Rat) : Prop := q.num.natAbs ≤ N ∧ q.den ≤ N
theorem Bd.fit {N : Nat} {q : Rat} (h : Bd N q) (hN : N < Bs ^ 24) : Fit q := ⟨Nat.lt_of_le_of_lt h.1 hN, Nat.lt_of_le_of_lt h.2 hN⟩
theorem Bd.pos {N : Nat} {q : Rat} (h : Bd N q) : 1 ≤ N := Nat.le_trans q.den_pos h.2
theorem Bd.mono {M N : Nat} {q : Rat} (h : Bd M q) (hN : M ≤ N) : Bd N q := ⟨Nat.le_trans h.1 hN, Nat.le_trans h.2 hN⟩
theorem bd_mk {x : Int} {D N : Nat} (hD : 0 < D) (hx : x.natAbs ≤ N) (hn : D ≤ N) : Bd N (mkRat x D) := by
  refine ⟨?_, ?_⟩
  · rw [Rat.num_mkRat, if_neg (by omega), Nat.gcd_comm, natAbs_ediv_gcd _ _ (Nat.gcd_dvd_left _ _)]
    exact Nat.le_trans (Nat.div_le_self _ _) hx
  · rw [Rat.den_mkRat, if_neg (by omega)]
    exact Nat.le_trans (Nat.div_le_self _ _) hn
section
variable {M N : Nat} {p q : Rat}
theorem natAbs_mul_le {a b : Int} (ha : a.natAbs ≤ M) (hb : b.natAbs ≤ N) : (a * b).natAbs ≤ M * N := by
  rw [Int.natAbs_mul]; exact Nat.mul_le_mul ha hb
theorem Bd.add (h : Bd M p) (k : Bd N q) : Bd (2 * (M * N)) (p + q) := by
  rw [Rat.add_def']
  refine bd_mk (Nat.mul_pos p.den_pos q.den_pos) ?_ (Nat.le_trans (Nat.mul_le_mul h.2 k.2) (by omega))
  have h1 : (p.num * (q.den : Int)).natAbs ≤ M * N := natAbs_mul_le h.1 k.2
  have h2 : (q.num * (p.den : Int)).natAbs ≤ N * M := natAbs_mul_le k.1 h.2
  rw [Nat.mul_comm N M] at h2
  omega
theorem Bd.sub (h : Bd M p) (k : Bd N q) : Bd (2 * (M * N)) (p - q) := by
  rw [Rat.sub_def']
  refine bd_mk (Nat.mul_pos p.den_pos q.den_pos) ?_ (Nat.le_trans (Nat.mul_le_mul h.2 k.2) (by omega))
  have h1 : (p.num * (q.den : Int)).natAbs ≤ M * N := natAbs_mul_le h.1 k.2
  have h2 : (q.num * (p.den : Int)).natAbs ≤ N * M := natAbs_mul_le k.1 h.2
  rw [Nat.mul_comm N M] at h2
  omega
theorem Bd.mul (h : Bd M p) (k : Bd N q) : Bd (M * N) (p * q) := by
  rw [Rat.mul_def']
  exact bd_mk (Nat.mul_pos p.den_pos q.den_pos) (natAbs_mul_le h.1 k.1) (Nat.mul_le_mul h.2 k.2)
theorem Bd.neg (h : Bd M p) : Bd M (-p) := ⟨by simpa using h.1, by simpa using h.2⟩
theorem Bd.inv (h : Bd M p) : Bd M p⁻¹ := by
  have h0 := h.pos
  refine ⟨?_, ?_⟩
  · rw [Rat.num_inv]
    have : (p.num.sign * (p.den : Int)).natAbs ≤ 1 * M := natAbs_mul_le (by rcases Int.lt_trichotomy p.num 0 with h | h | h <;> simp [Int.sign_eq_neg_one_of_neg, Int.sign_eq_one_of_pos, h]) h.2
    omega
  · rw [Rat.den_inv]
    split
    · exact h0
    · exact h.1
theorem Bd.div (h : Bd M p) (k : Bd N q) : Bd (M * N) (p / q) := by
  rw [Rat.div_def]
  exact h.mul k.inv
end
end

section
open Go.RowKit



theorem info_pt : (Tryz.prog.info? 31).map (fun i => (i.zero, i.size, i.bytes)) = some (some (.agg #[.bool false, .slice none 0 0, .slice none 0 0, .bool false, .slice none 0 0, .slice none 0 0]), 6, 112) := by kernel_rfl
end

section
open Go.RowKit
end

section
open Go.RowKit
/-- A fraction in the blocks from lo to hi. -/
def OwX (T : TypeId) (lo hi : Nat) (w : World) (s : Bool) (A : Option Addr) (n c : Nat) (B : Option Addr) (m d : Nat) (r : RatD) : Prop :=
  ∃ bs, FtR T w s A n c B m d r bs ∧ Fp lo hi bs
section
variable {T : TypeId} {lo hi b0 : Nat} {w W : World} {s : Bool} {A : Option Addr} {n c : Nat} {B : Option Addr} {m d : Nat} {r : RatD} {bs : List Nat}
theorem OwX.of (h : OwR T b0 w s A n c B m d r) : OwX T b0 w.heap.size w s A n c B m d r := h
theorem OwX.rd (h : OwX T lo hi w s A n c B m d r) : RdR w s A n c B m d r := by
  obtain ⟨bs, h, _⟩ := h
  exact h.rd
theorem OwX.bl (h : OwX T lo hi w s A n c B m d r) (hb : Bl w W) : OwX T lo hi W s A n c B m d r := by
  obtain ⟨bs, h, hf⟩ := h
  exact ⟨bs, h.bl hb, hf⟩
theorem OwX.ob (h : OwX T lo hi w s A n c B m d r) (ho : Ob bs w W) (hd : ∀ b ∈ bs, b < lo ∨ hi ≤ b) : OwX T lo hi W s A n c B m d r := by
  obtain ⟨cs, h, hf⟩ := h
  refine ⟨cs, h.keep ho.size fun b hb => ho.block b (h.lt b hb) fun hm => ?_, hf⟩
  have h1 := hf.2 b hb
  have h2 := hd b hm
  omega
end

/-- A list of points in the blocks from lo to hi. -/
def OwPZ (TI TP : TypeId) (lo hi : Nat) (w : World) (A : Option Addr) (n c : Nat) (l : List PtD) : Prop :=
  l.length = n ∧ n ≤ c ∧ n ≤ 1048576 ∧ (n = 0 ∨ ∃ g cs fs, A = some ⟨g, 0, none⟩ ∧ Blk w g TP cs ∧ n * 6 ≤ cs.size ∧ PtsIn TI w cs l n fs ∧ Fp lo hi (g :: fs.flatten))
section
variable {TI TP : TypeId} {lo hi lo' hi' : Nat} {w W : World} {A : Option Addr} {n c : Nat} {l : List PtD} {bs : List Nat}
theorem OwPZ.rd (h : OwPZ TI TP lo hi w A n c l) : RdPS w A n c l := by
  obtain ⟨h1, h2, h3, h4⟩ := h
  rcases h4 with h4 | ⟨g, cs, fs, rfl, hB, hc, hP, hF⟩
  · subst h4
    obtain rfl := List.length_eq_zero_iff.1 h1
    exact RdS.nil _ _ _
  · exact hP.rd hB h1 (by omega) h2
theorem OwPZ.keep (h : OwPZ TI TP lo hi w A n c l) (hs : w.heap.size ≤ W.heap.size) (hk : ∀ b, lo ≤ b → b < hi → b < w.heap.size → W.heap[b]? = w.heap[b]?) : OwPZ TI TP lo hi W A n c l := by
  obtain ⟨h1, h2, h3, h4⟩ := h
  refine ⟨h1, h2, h3, ?_⟩
  rcases h4 with h4 | ⟨g, cs, fs, rfl, hB, hc, hP, hF⟩
  · exact .inl h4
  · have hg := hF.2 g (by simp)
    refine .inr ⟨g, cs, fs, rfl, (hk g hg.1 hg.2 hB.lt).trans hB, hc, ⟨hP.1, fun i hi => (hP.2 i hi).keep (fun _ _ => rfl) hs fun b hb => ?_⟩, hF⟩
    have hm := hF.2 b (List.mem_cons_of_mem _ (mem_flatten_pix hb))
    exact hk b hm.1 hm.2 ((hP.2 i hi).lt b hb)
theorem OwPZ.bl (h : OwPZ TI TP lo hi w A n c l) (hb : Bl w W) : OwPZ TI TP lo hi W A n c l := h.keep hb.size fun b _ _ hl => Below.block hb b hl
theorem OwPZ.ob (h : OwPZ TI TP lo hi w A n c l) (ho : Ob bs w W) (hd : ∀ b ∈ bs, b < lo ∨ hi ≤ b) : OwPZ TI TP lo hi W A n c l :=
  h.keep ho.size fun b h1 h2 hl => ho.block b hl fun hm => by have := hd b hm; omega
theorem OwPZ.low (h : OwPZ TI TP lo hi w A n c l) (h1 : lo' ≤ lo) (h2 : hi ≤ hi') : OwPZ TI TP lo' hi' w A n c l := by
  obtain ⟨a1, a2, a3, a4⟩ := h
  refine ⟨a1, a2, a3, ?_⟩
  rcases a4 with h4 | ⟨g, cs, fs, rfl, hB, hc, hP, hF⟩
  · exact .inl h4
  · exact .inr ⟨g, cs, fs, rfl, hB, hc, hP, hF.mono h1 h2⟩
end
end

section
open Go.RowKit

/-- What is kept where the cells and the blocks of the footprint are the same. -/
def KeepE {α : Type} (size : Nat) (El : World → Array Value → Nat → α → List Nat → Prop) : Prop :=
  ∀ (w W : World) (cs cs' : Array Value) (i i' : Nat) (x : α) (bs : List Nat), El w cs i x bs → (∀ j, j < size → cs'[i' + j]? = cs[i + j]?) → w.heap.size ≤ W.heap.size → (∀ b ∈ bs, W.heap[b]? = w.heap[b]?) → El W cs' i' x bs
/-- A property of footprints that holds of two that have no block in common, if it holds of each. -/
def AppN (N : List Nat → Prop) : Prop := N [] ∧ ∀ a b, N a → N b → (∀ x ∈ a, ∀ y ∈ b, x ≠ y) → N (a ++ b)
theorem appN_nodup : AppN List.Nodup := ⟨List.nodup_nil, fun _ _ h k d => List.nodup_append.2 ⟨h, k, d⟩⟩
def AnyN (_ : List Nat) : Prop := True
theorem appN_any : AppN AnyN := ⟨trivial, fun _ _ _ _ _ => trivial⟩
/-- The slice value v is the call's own; its elements read as l; all its blocks lie from lo to hi; N holds of the elements' blocks. -/
def RowG {α : Type} [Inhabited α] (N : List Nat → Prop) (TP : TypeId) (size : Nat) (El : World → Array Value → Nat → α → List Nat → Prop) (lo hi : Nat) (w : World) (v : Value) (l : List α) : Prop :=
  ∃ cells fs, w.ownsRow lo TP size v l.length cells ∧ (∀ g, v.ownBlock = some g → g < hi) ∧ fs.length = l.length ∧ (∀ i, i < l.length → El w cells.toArray (i * size) (pix l i) (pix fs i)) ∧
    (∀ b ∈ fs.flatten, lo ≤ b ∧ b < hi ∧ v.ownBlock ≠ some b) ∧ N fs.flatten ∧ hi ≤ w.heap.size
section
variable {α : Type} [Inhabited α] {N : List Nat → Prop} {TP : TypeId} {size lo hi : Nat} {El : World → Array Value → Nat → α → List Nat → Prop} {w W : World} {v : Value} {l : List α}
theorem RowG.nil (hN : AppN N) (w : World) (h2 : hi ≤ w.heap.size) : RowG N TP size El lo hi w (.slice none 0 0) ([] : List α) :=
  ⟨[], [], World.ownsRow_nil _ _ _ _, (fun g h => by cases h), rfl, (fun i hi => by simp at hi), (fun b hb => by simp at hb), hN.1, h2⟩
theorem RowG.empty (hN : AppN N) (w : World) (h1 : lo ≤ w.heap.size) : RowG N TP size El lo (w.heap.size + 1) (w.alloc (.cells #[] TP)) (.slice (some ⟨w.heap.size, 0, none⟩) 0 0) ([] : List α) :=
  ⟨[], [], World.ownsRow_made w #[] 0 h1 (Nat.zero_le _) (by simp), (fun g h => by injection h with h; simp only at h; omega), rfl, (fun i hi => by simp at hi), (fun b hb => by simp at hb), hN.1, by simp⟩
theorem RowG.keep (hk : KeepE size El) (h : RowG N TP size El lo hi w v l) (hs : w.heap.size ≤ W.heap.size) (hb : ∀ b, lo ≤ b → b < hi → W.heap[b]? = w.heap[b]?) : RowG N TP size El lo hi W v l := by
  obtain ⟨cells, fs, h1, h2, h3, h4, h5, h6, h7⟩ := h
  refine ⟨cells, fs, ⟨h1.1, ?_⟩, h2, h3, fun i hi => hk _ _ _ _ _ _ _ _ (h4 i hi) (fun _ _ => rfl) hs fun b hm => ?_, h5, h6, Nat.le_trans h7 hs⟩
  · rcases h1.2 with h | ⟨g, cap, cur, rfl, hg, hh, r⟩
    · exact .inl h
    · exact .inr ⟨g, cap, cur, rfl, hg, (hb g hg (h2 g rfl)).trans hh, r⟩
  · have := h5 b (mem_flatten_pix hm)
    exact hb b this.1 this.2.1
theorem RowG.bl (hk : KeepE size El) (h : RowG N TP size El lo hi w v l) (hb : Bl w W) : RowG N TP size El lo hi W v l :=
  h.keep hk hb.size fun b _ h2 => Below.block hb b (Nat.lt_of_lt_of_le h2 (by obtain ⟨_, _, _, _, _, _, _, _, h7⟩ := h; exact h7))
theorem RowG.hiLe (h : RowG N TP size El lo hi w v l) : hi ≤ w.heap.size := by
  obtain ⟨_, _, _, _, _, _, _, _, h7⟩ := h
  exact h7
end
theorem pixs_last {fs : List (List Nat)} {bs : List Nat} {n : Nat} (h : fs.length = n) : pix (fs ++ [bs]) n = bs := by subst h; exact pix_append_last
/-- append of one element, laid by the call itself. -/
theorem wpList_append_rowX {P : Program} {α : Type} [Inhabited α] {N : List Nat → Prop} (hN : AppN N) {size bytes : Nat} {El : World → Array Value → Nat → α → List Nat → Prop} (hk : KeepE size El) {TP t : TypeId} {z : Value}
    (hinfo : (P.info? TP).map (fun i => (i.zero, i.size, i.bytes)) = some (some z, size, bytes)) (hzs : z.cells.size = size) (hsz : 0 < size) (hby : bytes ≤ 4096) (ht : P.underlying t = some (.slice TP))
    {W : World} {news : Array Value} {p : α} {bs : List Nat} {lo hi : Nat} {l : List α} {ops : Array Oper} {rest : List Oper} {o : Oper} {a : Act} {Q : Exit → Act → World → Prop} (hgd : o.guard = none) (s x : Operand)
    (ho : o.op = .call { callee := .builtin .append, args := #[s, x], argTypes := #[t, t] }) (v : Value) (hs : a.eval s = v) (hrow : RowG N TP size El lo hi W v l)
    (hel : El W news 0 p bs) (hnl : news.size = size) (h1 : ∀ u ∈ news.toList, u.oneCell' = true) (hbs : ∀ b ∈ bs, hi ≤ b ∧ b < W.heap.size) (hNb : N bs) (hlh : lo ≤ hi)
    (c : Nat) (hx : a.eval x = .slice (some ⟨W.heap.size, 0, none⟩) 1 c) (hlen : l.length ≤ 1048576) (w0 : World) (hb : Bl w0 W) (h0 : w0.heap.size ≤ lo)
    (h : ∀ v' w', RowG N TP size El lo w'.heap.size w' v' (l ++ [p]) → Bl w0 w' → (v' = .slice none 0 0 → False) → (∀ g, g < W.heap.size → v.ownBlock ≠ some g → w'.heap[g]? = W.heap[g]? ∧ v'.ownBlock ≠ some g) → wpList P ops Q rest (a.put o.dst v') w') : wpList P ops Q (o :: rest) a (W.alloc (.cells news TP)) := by
  obtain ⟨i0, hi0, hz0, hz1, hz2⟩ := info_parts hinfo
  obtain ⟨cells, fs, r1, r2, r3, r4, r5, r6, r7⟩ := hrow
  have ro := World.ownsRow.alloc r1 (.cells news TP)
  have hnew : (W.alloc (.cells news TP)).heap[W.heap.size]? = some (.cells news TP (0, 0)) := heap_alloc_new W _
  have hsz2 : (W.alloc (.cells news TP)).heap.size = W.heap.size + 1 := by simp
  have hm : (l.length + 1) * bytes ≤ 140737488355328 := Nat.le_trans (Nat.mul_le_mul (show l.length + 1 ≤ 1048577 by omega) hby) (by omega)
  refine wpList_append_own_at _ hgd s x t ho lo TP i0 z size bytes ht hi0 hz0 hz1 hz2 hzs hsz v l.length cells hs ro ⟨W.heap.size, 0, none⟩ 1 c news.toList hx (by simpa using hnl) (World.news_of_block hnew) h1 (by unfold maxLen; omega) hm (by omega) ?_
  intro v' w' g1 g2 g3 g4
  have hne : v' ≠ .slice none 0 0 := fun e => by have := (g3.1 e).2; omega
  have hws := g2.size
  have hold : ∀ b, b < W.heap.size → v.ownBlock ≠ some b → w'.heap[b]? = W.heap[b]? := fun b hb1 hb2 => (g2.block b (by omega) (fun e => hb2 e.symm)).trans (Below.heap_alloc W _ b hb1)
  have hown : ∀ b, v'.ownBlock = some b → (v.ownBlock = some b ∨ b = W.heap.size + 1) := by
    intro b e
    rcases g4 with g4 | g4
    · exact .inl (by rw [← g4]; exact e)
    · rw [g4] at e; injection e with e; right; omega
  have hvl : ∀ b, v'.ownBlock = some b → lo ≤ b ∧ b < w'.heap.size := fun b e => by have := World.ownsRow.lt g1 b e; exact this
  refine h v' w' ⟨cells ++ news.toList, fs ++ [bs], by simpa using g1, fun g e => (hvl g e).2, by simp [r3], fun i hi' => ?_, fun b hm' => ?_, ?_, Nat.le_refl _⟩ ((hb.alloc _).grown g2 (fun k e => by have := (World.ownsRow.lt r1 k e).1; omega)) hne (fun g hg hn => ⟨hold g hg hn, fun e => by rcases hown g e with e | e; exact hn e; omega⟩)
  · have hcl := r1.1
    rw [List.length_append, List.length_singleton] at hi'
    rcases Nat.lt_succ_iff_lt_or_eq.1 hi' with hi' | rfl
    · rw [pix_append_left hi', pix_append_left (by rw [r3]; exact hi')]
      refine hk _ _ _ _ _ _ _ _ (r4 i hi') (fun j hj => ?_) (by omega) fun b hb' => ?_
      · have : i * size + j < cells.length := by
          rw [hcl]
          have : (i + 1) * size ≤ l.length * size := Nat.mul_le_mul_right _ hi'
          rw [Nat.succ_mul] at this
          omega
        simp [List.getElem?_append_left this]
      · have := r5 b (mem_flatten_pix hb')
        exact hold b (by omega) this.2.2
    · rw [pix_append_last, pixs_last r3]
      refine hk _ _ _ _ _ _ _ _ hel (fun j hj => ?_) (by omega) fun b hb' => ?_
      · have : (cells ++ news.toList)[l.length * size + j]? = news.toList[j]? := by
          rw [List.getElem?_append_right (by rw [hcl]; omega), hcl]
          congr 1; omega
        simpa using this
      · have := hbs b hb'
        exact hold b this.2 fun e => by have := r2 b e; omega
  · rw [List.flatten_append, List.mem_append] at hm'
    rcases hm' with hm' | hm'
    · have := r5 b hm'
      refine ⟨this.1, by omega, fun e => ?_⟩
      rcases hown b e with e | e
      · exact this.2.2 e
      · omega
    · have := hbs b (by simpa using hm')
      refine ⟨by omega, by omega, fun e => ?_⟩
      rcases hown b e with e | e
      · have := r2 b e; omega
      · omega
  · rw [List.flatten_append]
    refine hN.2 _ _ r6 (by simpa using hNb) fun x hx' y hy e => ?_
    have a1 := r5 x hx'
    have a2 := hbs y (by simpa using hy)
    omega
/-- append of one element, laid by the call itself. -/
theorem wpList_append_row {P : Program} {α : Type} [Inhabited α] {N : List Nat → Prop} (hN : AppN N) {size bytes : Nat} {El : World → Array Value → Nat → α → List Nat → Prop} (hk : KeepE size El) {TP t : TypeId} {z : Value}
    (hinfo : (P.info? TP).map (fun i => (i.zero, i.size, i.bytes)) = some (some z, size, bytes)) (hzs : z.cells.size = size) (hsz : 0 < size) (hby : bytes ≤ 4096) (ht : P.underlying t = some (.slice TP))
    {W : World} {news : Array Value} {p : α} {bs : List Nat} {lo hi : Nat} {l : List α} {ops : Array Oper} {rest : List Oper} {o : Oper} {a : Act} {Q : Exit → Act → World → Prop} (hgd : o.guard = none) (s x : Operand)
    (ho : o.op = .call { callee := .builtin .append, args := #[s, x], argTypes := #[t, t] }) (v : Value) (hs : a.eval s = v) (hrow : RowG N TP size El lo hi W v l)
    (hel : El W news 0 p bs) (hnl : news.size = size) (h1 : ∀ u ∈ news.toList, u.oneCell' = true) (hbs : ∀ b ∈ bs, hi ≤ b ∧ b < W.heap.size) (hNb : N bs) (hlh : lo ≤ hi)
    (c : Nat) (hx : a.eval x = .slice (some ⟨W.heap.size, 0, none⟩) 1 c) (hlen : l.length ≤ 1048576) (w0 : World) (hb : Bl w0 W) (h0 : w0.heap.size ≤ lo)
    (h : ∀ v' w', RowG N TP size El lo w'.heap.size w' v' (l ++ [p]) → Bl w0 w' → (v' = .slice none 0 0 → False) → wpList P ops Q rest (a.put o.dst v') w') : wpList P ops Q (o :: rest) a (W.alloc (.cells news TP)) :=
  wpList_append_rowX hN hk hinfo hzs hsz hby ht hgd s x ho v hs hrow hel hnl h1 hbs hNb hlh c hx hlen w0 hb h0 fun v' w' g1 g2 g3 _ => h v' w' g1 g2 g3
theorem ptIn_keep (T : TypeId) : KeepE 6 (PtIn T) := by
  intro w W cs cs' i i' x bs h hc hs hb
  obtain ⟨s, A, n, c, B, m, d, t, C, j, e, D, k, f, b1, b2, ⟨h0, h1, h2, h3, h4, h5⟩, hx, hy, rfl⟩ := h
  refine ⟨s, A, n, c, B, m, d, t, C, j, e, D, k, f, b1, b2, ⟨?_, ?_, ?_, ?_, ?_, ?_⟩, hx.keep hs fun b hm => hb b (by simp [hm]), hy.keep hs fun b hm => hb b (by simp [hm]), rfl⟩
  · rw [← h0]; exact hc 0 (by omega)
  · rw [← h1]; exact hc 1 (by omega)
  · rw [← h2]; exact hc 2 (by omega)
  · rw [← h3]; exact hc 3 (by omega)
  · rw [← h4]; exact hc 4 (by omega)
  · rw [← h5]; exact hc 5 (by omega)
theorem rtIn_keep (T : TypeId) : KeepE 3 (RtIn T) := by
  intro w W cs cs' i i' x bs h hc hs hb
  obtain ⟨s, A, n, c, B, m, d, ⟨h0, h1, h2⟩, hx⟩ := h
  refine ⟨s, A, n, c, B, m, d, ⟨?_, ?_, ?_⟩, hx.keep hs hb⟩
  · rw [← h0]; exact hc 0 (by omega)
  · rw [← h1]; exact hc 1 (by omega)
  · rw [← h2]; exact hc 2 (by omega)
/-- A row of points. -/
abbrev RowP (N : List Nat → Prop) (lo hi : Nat) (w : World) (v : Value) (l : List PtD) : Prop := RowG N 31 6 (PtIn 3) lo hi w v l
section
variable {N : List Nat → Prop} {lo hi : Nat} {w W : World} {v : Value} {l : List PtD}
theorem RowP.out (h : RowP N lo hi w v l) : (v = .slice none 0 0 ∧ l = []) ∨ ∃ g c cs fs, v = .slice (some ⟨g, 0, none⟩) l.length c ∧ l.length ≤ c ∧ Blk w g 31 cs ∧ l.length * 6 ≤ cs.size ∧ PtsIn 3 w cs l l.length fs ∧ (∀ b ∈ g :: fs.flatten, lo ≤ b ∧ b < hi) ∧ g ∉ fs.flatten ∧ N fs.flatten := by
  obtain ⟨cells, fs, r1, r2, r3, r4, r5, r6, r7⟩ := h
  rcases r1.2 with ⟨rfl, h0⟩ | ⟨g, cap, cur, rfl, hg, hh, hn, hcap, hcs, ht⟩
  · exact .inl ⟨rfl, List.length_eq_zero_iff.1 h0⟩
  · have hlen : l.length * 6 ≤ cur.size := by rw [hcs]; exact Nat.mul_le_mul_right _ hn
    refine .inr ⟨g, cap, cur, fs, rfl, hn, hh, hlen, ⟨r3, fun i hi => ?_⟩, fun b hb => ?_, fun hm => (r5 g hm).2.2 rfl, r6⟩
    · refine ptIn_keep _ _ _ _ _ _ _ _ _ (r4 i hi) (fun j hj => ?_) (Nat.le_refl _) fun _ _ => rfl
      rw [← ht]
      have : i * 6 + j < l.length * 6 := by omega
      simp [this]
    · rcases List.mem_cons.1 hb with rfl | hb
      · exact ⟨hg, r2 _ rfl⟩
      · exact ⟨(r5 b hb).1, (r5 b hb).2.1⟩
theorem RowP.rd (h : RowP N lo hi w v l) (hl : l.length ≤ 1048576) : ∃ A c, v = .slice A l.length c ∧ RdPS w A l.length c l := by
  rcases RowP.out h with ⟨rfl, rfl⟩ | ⟨g, c, cs, fs, rfl, h1, h2, h3, h4, _⟩
  · exact ⟨none, 0, rfl, RdS.nil _ _ _⟩
  · exact ⟨_, c, rfl, h4.rd h2 rfl (by omega) h1⟩
theorem RowP.own (h : RowP List.Nodup lo hi w v l) (hl : l.length ≤ 1048576) : ∃ A c, v = .slice A l.length c ∧ OwPZ 3 31 lo hi w A l.length c l := by
  rcases RowP.out h with ⟨rfl, rfl⟩ | ⟨g, c, cs, fs, rfl, h1, h2, h3, h4, h5, h6, h7⟩
  · exact ⟨none, 0, rfl, rfl, Nat.le_refl _, Nat.zero_le _, .inl rfl⟩
  · exact ⟨_, c, rfl, rfl, h1, hl, .inr ⟨g, cs, fs, rfl, h2, h3, h4, List.nodup_cons.2 ⟨h6, h7⟩, h5⟩⟩
end
/-- A point by value, in memory of its own. -/
def OwPN (N : List Nat → Prop) (T : TypeId) (b0 : Nat) (w : World) (s : Bool) (A : Option Addr) (n c : Nat) (B : Option Addr) (m d : Nat) (t : Bool) (C : Option Addr) (i e : Nat) (D : Option Addr) (j f : Nat) (p : PtD) : Prop :=
  ∃ b1 b2, FtR T w s A n c B m d p.x b1 ∧ FtR T w t C i e D j f p.y b2 ∧ (∀ b ∈ b1 ++ b2, b0 ≤ b ∧ b < w.heap.size) ∧ N (b1 ++ b2)
theorem OwPN.of {T : TypeId} {b0 : Nat} {w : World} {s : Bool} {A : Option Addr} {n c : Nat} {B : Option Addr} {m d : Nat} {t : Bool} {C : Option Addr} {i e : Nat} {D : Option Addr} {j f : Nat} {p : PtD} (h : OwP T b0 w s A n c B m d t C i e D j f p) : OwPN List.Nodup T b0 w s A n c B m d t C i e D j f p := by
  obtain ⟨b1, b2, h1, h2, hf⟩ := h
  exact ⟨b1, b2, h1, h2, hf.2, hf.1⟩
theorem OwPN.q {T : TypeId} {b0 : Nat} {w : World} {s : Bool} {A : Option Addr} {n c : Nat} {B : Option Addr} {m d : Nat} {t : Bool} {C : Option Addr} {i e : Nat} {D : Option Addr} {j f : Nat} {p : PtD} (h : OwP T b0 w s A n c B m d t C i e D j f p) : OwPN AnyN T b0 w s A n c B m d t C i e D j f p := by
  obtain ⟨b1, b2, h1, h2, hf⟩ := h
  exact ⟨b1, b2, h1, h2, hf.2, trivial⟩
theorem wpList_append_ptX {N : List Nat → Prop} (hN : AppN N) {W : World} {s : Bool} {A : Option Addr} {n c : Nat} {B : Option Addr} {m d : Nat} {t : Bool} {C : Option Addr} {i e : Nat} {D : Option Addr} {j f : Nat} {p : PtD} {lo hi b0 : Nat} {l : List PtD} {ops : Array Oper} {rest : List Oper} {o : Oper} {a : Act} {Q : Exit → Act → World → Prop} (hgd : o.guard = none) (s1 x1 : Operand)
    (ho : o.op = .call { callee := .builtin .append, args := #[s1, x1], argTypes := #[23, 23] }) (v : Value) (hs : a.eval s1 = v) (hrow : RowP N lo hi W v l)
    (hpt : OwPN N 3 b0 W s A n c B m d t C i e D j f p) (hb0 : hi ≤ b0) (hlh : lo ≤ hi) (c1 : Nat) (hx : a.eval x1 = .slice (some ⟨W.heap.size, 0, none⟩) 1 c1) (hlen : l.length ≤ 1048576) (w0 : World) (hb : Bl w0 W) (h0 : w0.heap.size ≤ lo)
    (h : ∀ v' w', RowP N lo w'.heap.size w' v' (l ++ [p]) → Bl w0 w' → (∀ g, g < W.heap.size → v.ownBlock ≠ some g → w'.heap[g]? = W.heap[g]? ∧ v'.ownBlock ≠ some g) → wpList Tryz.prog ops Q rest (a.put o.dst v') w') : wpList Tryz.prog ops Q (o :: rest) a (W.alloc (.cells #[.bool s, .slice A n c, .slice B m d, .bool t, .slice C i e, .slice D j f] 31)) := by
  obtain ⟨b1, b2, f1, f2, f3, f4⟩ := hpt
  refine wpList_append_rowX hN (ptIn_keep 3) info_pt (by rfl) (by omega) (by omega) Tryz.underlying23 hgd s1 x1 ho v hs hrow (p := p) (bs := b1 ++ b2) ⟨_, _, _, _, _, _, _, _, _, _, _, _, _, _, b1, b2, ⟨rfl, rfl, rfl, rfl, rfl, rfl⟩, f1, f2, rfl⟩ rfl (by simp [Value.oneCell']) (fun b hm => ⟨Nat.le_trans hb0 (f3 b hm).1, (f3 b hm).2⟩) f4 hlh c1 hx hlen w0 hb h0 fun v' w' g1 g2 _ g4 => h v' w' g1 g2 g4
theorem wpList_append_pt {N : List Nat → Prop} (hN : AppN N) {W : World} {s : Bool} {A : Option Addr} {n c : Nat} {B : Option Addr} {m d : Nat} {t : Bool} {C : Option Addr} {i e : Nat} {D : Option Addr} {j f : Nat} {p : PtD} {lo hi b0 : Nat} {l : List PtD} {ops : Array Oper} {rest : List Oper} {o : Oper} {a : Act} {Q : Exit → Act → World → Prop} (hgd : o.guard = none) (s1 x1 : Operand)
    (ho : o.op = .call { callee := .builtin .append, args := #[s1, x1], argTypes := #[23, 23] }) (v : Value) (hs : a.eval s1 = v) (hrow : RowP N lo hi W v l)
    (hpt : OwPN N 3 b0 W s A n c B m d t C i e D j f p) (hb0 : hi ≤ b0) (hlh : lo ≤ hi) (c1 : Nat) (hx : a.eval x1 = .slice (some ⟨W.heap.size, 0, none⟩) 1 c1) (hlen : l.length ≤ 1048576) (w0 : World) (hb : Bl w0 W) (h0 : w0.heap.size ≤ lo)
    (h : ∀ v' w', RowP N lo w'.heap.size w' v' (l ++ [p]) → Bl w0 w' → wpList Tryz.prog ops Q rest (a.put o.dst v') w') : wpList Tryz.prog ops Q (o :: rest) a (W.alloc (.cells #[.bool s, .slice A n c, .slice B m d, .bool t, .slice C i e, .slice D j f] 31)) :=
  wpList_append_ptX hN hgd s1 x1 ho v hs hrow hpt hb0 hlh c1 hx hlen w0 hb h0 fun v' w' g1 g2 _ => h v' w' g1 g2
end

end Go.Proofs.YtajlahjghapbkaaGreat
