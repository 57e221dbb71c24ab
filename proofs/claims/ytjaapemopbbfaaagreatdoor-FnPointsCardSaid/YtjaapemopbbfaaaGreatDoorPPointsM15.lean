/- Lemmas. -/
import Derived.Test.YtjaapemopbbfaaaGreatDoorRows
import Derived.Test.YtjaapemopbbfaaaGreatDoorPPointsM01
import Derived.Test.YtjaapemopbbfaaaGreatDoorPPointsM03
import Derived.Test.YtjaapemopbbfaaaGreatDoorPPointsM14
import Derived.RangeFuncOwn
import Derived.Lib.Builder
import Derived.Lib.AppendStr
import Derived.Lib.UnsafeStr
import Derived.Laws.Externs
import Derived.Test.YtjaapemopbbfaaaGreatDoorPPointsM12
import Derived.Test.YtjaapemopbbfaaaGreatDoorPPointsM11
namespace Go.Proofs.YtjaapemopbbfaaaGreatDoor
section
open Go.RowKit

/-- The builder's block, and its bytes. -/
abbrev IsBd (B b : Nat) (l : List UInt8) (w : World) : Prop := Lib.IsBuilder 145 5 B b (Lib.byteCells l) w
set_option maxHeartbeats 4000000 in
set_option maxRecDepth 100000 in
theorem copyCheck_used (b : Nat) (w : World) (h0 : w.cell? ⟨b, 0, none⟩ = some (.pointer (some ⟨b, 0, none⟩))) :
    Calls Tryz.prog 168 #[.pointer (some ⟨b, 0, none⟩)] w fun e w' => e = .returned (.tuple #[]) ∧ w' = w := by
  obtain ⟨j, hj, _⟩ := Option.map_eq_some_iff.1 Tryz.Builder_Extra_169.sizeBuilder
  go_enter Tryz.func168, Tryz.ntmps168
  go_wp2
  rw [Lib.run_neq_ptr_same w _ Tryz.underlying143 hj]
  go_wp2
  go_end0
  exact ⟨rfl, rfl⟩

set_option maxHeartbeats 4000000 in
set_option maxRecDepth 100000 in
theorem copyCheck_fresh (b : Nat) (w : World) (h0 : w.cell? ⟨b, 0, none⟩ = some (.pointer none)) (hsh : w.shape? b = some (145, 2)) (hfz : w.frozen? ⟨b, 0, none⟩ = false) :
    Calls Tryz.prog 168 #[.pointer (some ⟨b, 0, none⟩)] w fun e w' => e = .returned (.tuple #[]) ∧ w' = w.setCell ⟨b, 0, none⟩ (.pointer (some ⟨b, 0, none⟩)) := by
  obtain ⟨j, hj, hjs⟩ := Option.map_eq_some_iff.1 Tryz.Builder_Extra_169.sizeBuilder
  go_enter Tryz.func168, Tryz.ntmps168
  go_wp2_with fail
  rw [Lib.run_to_unsafe w ⟨b, 0, none⟩ Tryz.underlying143 Tryz.underlying213 hj (by rw [hjs]; decide) hsh (Nat.zero_lt_succ 1)]
  simp only [Result.andThen]
  rw [Oper.upon_value]
  go_wp2_with fail
  rw [run_callFunc_extern Tryz.func221 (by kernel_rfl) (by kernel_rfl) (by kernel_rfl) (e := Extern.AbiNoEscape.same) (by kernel_rfl)]
  rw [Lib.run_noEscape]
  simp only [Result.andThen]
  rw [Oper.upon_value]
  go_wp2_with fail
  rw [Lib.run_from_unsafe w ⟨b, 0, none⟩ Tryz.underlying213 Tryz.underlying143 hj hsh Tryz.Builder_Extra_169.liesBuilder]
  simp only [Result.andThen]
  rw [Oper.upon_value]
  go_wp2_with fail
  go_end0
  exact ⟨rfl, rfl⟩

theorem strCells_sb (l : List UInt8) : Lib.strCells (sb l) = Lib.byteCells l := rfl
theorem byteCells_app (a b : List UInt8) : Lib.byteCells (a ++ b) = Lib.byteCells a ++ Lib.byteCells b := List.map_append
theorem byteCells_len (a : List UInt8) : (Lib.byteCells a).length = a.length := List.length_map _

/-- A builder in block b that holds the bytes l; neither it nor its buffer lies in the blocks xs. -/
def BdX (B b : Nat) (l : List UInt8) (xs : List Nat) (w : World) : Prop :=
  ∃ p v, (p = .pointer none ∨ p = .pointer (some ⟨b, 0, none⟩)) ∧ B ≤ b ∧ w.heap[b]? = some (.cells #[p, v] 145 (0, 0)) ∧ w.ownsRow B 5 1 v l.length (Lib.byteCells l) ∧ v.ownBlock ≠ some b ∧ b ∉ xs ∧ ∀ k, v.ownBlock = some k → k ∉ xs
theorem BdX.is {B b : Nat} {l : List UInt8} {xs : List Nat} {w : World} (h : BdX B b l xs w) : IsBd B b l w := by
  obtain ⟨p, v, hp, hB, hb, ho, hn, _⟩ := h
  have ho : w.ownsRow B 5 1 v (Lib.byteCells l).length (Lib.byteCells l) := by rw [byteCells_len]; exact ho
  rcases hp with rfl | rfl
  · exact .inl ⟨hB, v, hb, ho, hn⟩
  · exact .inr ⟨hB, v, hb, ho, hn⟩
theorem ownsRow_of {w W : World} {B : Nat} {e : TypeId} {v : Value} {n : Nat} {cs : List Value} (h : w.ownsRow B e 1 v n cs) (hk : ∀ k, v.ownBlock = some k → W.heap[k]? = w.heap[k]?) : W.ownsRow B e 1 v n cs := by
  obtain ⟨h1, h2⟩ := h
  refine ⟨h1, ?_⟩
  rcases h2 with h2 | ⟨g, cap, cur, rfl, h3, h4, h5⟩
  · exact .inl h2
  · exact .inr ⟨g, cap, cur, rfl, h3, (hk g rfl).trans h4, h5⟩
theorem BdX.lt {B b : Nat} {l : List UInt8} {xs : List Nat} {w : World} (h : BdX B b l xs w) : b < w.heap.size := by
  obtain ⟨p, v, _, _, hb, _⟩ := h
  exact heap_lt hb
theorem BdX.le {B b : Nat} {l : List UInt8} {xs : List Nat} {w : World} (h : BdX B b l xs w) : B ≤ b := by
  obtain ⟨p, v, _, hB, _⟩ := h
  exact hB
theorem BdX.ob {B b : Nat} {l : List UInt8} {xs : List Nat} {w W : World} (h : BdX B b l xs w) (ho : Ob xs w W) : BdX B b l xs W := by
  obtain ⟨p, v, hp, hB, hb, hw, hn, hx, hk⟩ := h
  exact ⟨p, v, hp, hB, (ho.block b (heap_lt hb) hx).trans hb, ownsRow_of hw fun k e => ho.block k (hw.lt k e).2 (hk k e), hn, hx, hk⟩
theorem BdX.bl {B b : Nat} {l : List UInt8} {xs : List Nat} {w W : World} (h : BdX B b l xs w) (hb : Bl w W) : BdX B b l xs W := h.ob (Ob.of_bl hb _)
theorem BdX.sub {B b : Nat} {l : List UInt8} {xs ys : List Nat} {w : World} (h : BdX B b l xs w) (hy : ∀ y ∈ ys, y ∈ xs ∨ w.heap.size ≤ y) : BdX B b l ys w := by
  obtain ⟨p, v, hp, hB, hb, hw, hn, hx, hk⟩ := h
  refine ⟨p, v, hp, hB, hb, hw, hn, fun m => ?_, fun k e m => ?_⟩
  · rcases hy b m with q | q
    · exact hx q
    · exact absurd (heap_lt hb) (by omega)
  · rcases hy k m with q | q
    · exact hk k e q
    · have := (hw.lt k e).2
      omega
theorem BdX.fresh (w : World) (xs : List Nat) (hx : w.heap.size ∉ xs) : BdX w.heap.size w.heap.size [] xs (w.alloc (.cells #[.pointer none, .slice none 0 0] 145)) :=
  ⟨_, _, .inl rfl, Nat.le_refl _, heap_alloc_new w _, World.ownsRow_nil _ _ _ _, by simp [Value.ownBlock], hx, by simp [Value.ownBlock]⟩
/-- Where the appended row lies: where it lay, or in a new block. -/
theorem append_where {P : Program} (w : World) (base : Nat) (t u ty e : TypeId) (i : TypeInfo) (ht : P.underlying t = some (.slice e)) (hu : P.underlying u = some .string) (hi : P.info? e = some i) (hz : i.zero = some (.int .u8 0))
    (hsize : i.size = 1) (hby : i.bytes = 1) (v : Value) (n : Nat) (xs : List Value) (hown : w.ownsRow base e 1 v n xs) (s : ByteArray)
    (h63 : n + s.size ≤ maxLen) (hbytes : n + s.size ≤ 140737488355328) (hbase : base ≤ w.heap.size) :
    ∃ v' w', (Builtin.append_ #[t, u] ty #[v, .string s]).run P w = .ok v' w' ∧ w'.ownsRow base e 1 v' (n + s.size) (xs ++ Lib.strCells s) ∧ w.grownBy w' v.ownBlock ∧ ∀ k, v'.ownBlock = some k → v.ownBlock = some k ∨ w.heap.size ≤ k := by
  obtain ⟨v', w', hr, h1, h2, h3⟩ := Lib.run_append_own_string (P := P) w base t u ty e i ht hu hi hz hsize hby v n xs hown s h63 hbytes hbase
  refine ⟨v', w', hr, h1, h2, ?_⟩
  have h64 : n + s.size ≤ 9223372036854775807 := by unfold maxLen at h63; omega
  rcases hown.2 with ⟨rfl, rfl⟩ | ⟨g, cap, cur, rfl, hbg, hg, hnc, hcm, hcs, htake⟩
  · obtain ⟨v2, w2, hr2, h4, _⟩ := Lib.run_append_own_string (P := P) w w.heap.size t u ty e i ht hu hi hz hsize hby (.slice none 0 0) 0 xs (by obtain ⟨hl, _⟩ := hown; exact ⟨hl, .inl ⟨rfl, rfl⟩⟩) s h63 hbytes (Nat.le_refl _)
    rw [hr] at hr2
    cases hr2
    exact fun k e => .inr (h4.lt k e).1
  · by_cases hroom : n + s.size ≤ cap
    · have hcs' : cur.size = cap := by simpa using hcs
      have hr2 := Lib.run_append_room_string (P := P) w t u ty e i ht hu hi hsize g n cap cur hg s hroom (by omega)
      rw [hr] at hr2
      cases hr2
      exact fun k e => .inl e
    · have hxl : xs.length = n := by simpa using hown.1
      have hr2 := Lib.run_append_grow_string (P := P) w t u ty e i (.int .u8 0) ht hu hi hz ⟨g, 0, none⟩ n cap xs (by rw [hsize]; simpa using hxl) (hown.cells (g := g) rfl) s (by omega) (by omega) (by rw [hby]; exact growslice_fits (by omega) (by omega))
      rw [hr] at hr2
      cases hr2
      intro k e
      injection e with e
      exact .inr (by rw [← e]; exact Nat.le_refl _)
theorem wpList_append_where {P : Program} {ops : Array Oper} {rest : List Oper} {o : Oper} {a : Act} {w : World} {Q : Exit → Act → World → Prop} (hgd : o.guard = none) (sl x : Operand) (t u : TypeId)
    (ho : o.op = .call { callee := .builtin .append, args := #[sl, x], argTypes := #[t, u] })
    (base : Nat) (e : TypeId) (i : TypeInfo) (ht : P.underlying t = some (.slice e)) (hu : P.underlying u = some .string) (hi : P.info? e = some i) (hz : i.zero = some (.int .u8 0))
    (hsize : i.size = 1) (hby : i.bytes = 1)
    (v : Value) (n : Nat) (xs : List Value) (hs : a.eval sl = v) (hown : w.ownsRow base e 1 v n xs) (s : ByteArray) (hx : a.eval x = .string s)
    (h63 : n + s.size ≤ maxLen) (hbytes : n + s.size ≤ 140737488355328) (hbase : base ≤ w.heap.size)
    (h : ∀ v' w', w'.ownsRow base e 1 v' (n + s.size) (xs ++ Lib.strCells s) → w.grownBy w' v.ownBlock → (∀ k, v'.ownBlock = some k → v.ownBlock = some k ∨ w.heap.size ≤ k) → wpList P ops Q rest (a.put o.dst v') w') : wpList P ops Q (o :: rest) a w := by
  refine wpList_plain hgd fun K hK => ?_
  obtain ⟨v', w', hr, h2, h3, h4⟩ := append_where (P := P) w base t u o.type e i ht hu hi hz hsize hby v n xs hown s h63 hbytes hbase
  unfold Oper.wp execOp
  simp only [ho, resolve, invoke, builtin, Sem.run_bind, Sem.run_pure, Result.andThen_ok, List.map_toArray, List.map_cons, List.map_nil, hs, hx, hr]
  exact hK _ _ (h v' w' h2 h3 h4)

set_option maxHeartbeats 8000000 in
set_option maxRecDepth 100000 in
theorem WriteString_any (B b : Nat) (l t : List UInt8) (xs : List Nat) (w : World) (h : BdX B b l xs w) (hlen : l.length + t.length ≤ 140737488355328) (hBw : B ≤ w.heap.size) (hxs : ∀ x ∈ xs, x < w.heap.size) :
    Calls Tryz.prog 121 #[.pointer (some ⟨b, 0, none⟩), .string (sb t)] w fun e w' => e = .returned (.tuple #[.int .i64 (sb t).size, .nilIface]) ∧ BdX B b (l ++ t) xs w' ∧ Below B w w' ∧ KeepsOthers w w' ∧ ∀ x ∈ xs, w'.heap[x]? = w.heap[x]? := by
  obtain ⟨i0, hi, hz0, hz1, hz2⟩ := info_parts Tryz.Builder_Extra_169.infoByte
  have hss := sb_size t
  obtain ⟨p, v, hp, hB, hbk, hown, hne, hbx, hkx⟩ := h
  have hlt := heap_lt hbk
  have hcc : Calls Tryz.prog 168 #[.pointer (some ⟨b, 0, none⟩)] w fun e w' => e = .returned (.tuple #[]) ∧ w'.heap[b]? = some (.cells #[.pointer (some ⟨b, 0, none⟩), v] 145 (0, 0)) ∧ Ob [b] w w' := by
    rcases hp with rfl | rfl
    · refine (copyCheck_fresh b w (by rw [Lib.cell_of_heap hbk]; rfl) (by simp [World.shape?, hbk]) (Lib.frozen_of_heap hbk 0)).mono ?_
      rintro e w' ⟨rfl, rfl⟩
      exact ⟨rfl, by simp [World.setCell, Array.getElem?_modify, hbk], Ob.set (Ob.refl _ _) (by simp) _ _⟩
    · refine (copyCheck_used b w (by rw [Lib.cell_of_heap hbk]; rfl)).mono ?_
      rintro e w' ⟨rfl, rfl⟩
      exact ⟨rfl, hbk, Ob.refl _ _⟩
  go_enter Tryz.func121, Tryz.ntmps121
  go_wp2_with (go_at_call 168; refine hcc.mono ?_)
  rintro e w1 ⟨rfl, hbk1, hob⟩
  have hown1 := ownsRow_of (W := w1) hown fun k e => hob.block k (hown.lt k e).2 (by simp; intro q; exact hne (by rw [e, q]))
  have c0 : w1.cell? ⟨b, 0, none⟩ = some (.pointer (some ⟨b, 0, none⟩)) := by rw [Lib.cell_of_heap hbk1]; rfl
  have c1 : w1.cell? ⟨b, 1, none⟩ = some v := by rw [Lib.cell_of_heap hbk1]; rfl
  have hs1 := hob.size
  go_wp2_with (at_builtin; refine wpList_append_where rfl _ _ 34 9 rfl B 5 i0 Tryz.underlying34 Tryz.underlying9 hi hz0 hz1 hz2 _ _ _ rfl hown1 (sb t) rfl ?c3 ?c4 ?c5 ?_)
  case c3 => unfold maxLen; omega
  case c4 => omega
  case c5 => omega
  intro v' w2 hown2 hgrow hwh
  have hb2 : w2.heap[b]? = some (.cells #[.pointer (some ⟨b, 0, none⟩), v] 145 (0, 0)) := by
    rw [hgrow.block b (by omega) (fun e => hne e.symm)]
    exact hbk1
  have d0 : w2.cell? ⟨b, 0, none⟩ = some (.pointer (some ⟨b, 0, none⟩)) := by rw [Lib.cell_of_heap hb2]; rfl
  have d1 : w2.cell? ⟨b, 1, none⟩ = some v := by rw [Lib.cell_of_heap hb2]; rfl
  have f1 : w2.frozen? ⟨b, 1, none⟩ = false := Lib.frozen_of_heap hb2 1
  have hs2 := hgrow.size
  obtain ⟨ao, n', cap, rfl⟩ : ∃ ao n' cap, v' = .slice ao n' cap := by
    rcases hown2.2 with ⟨hv, _⟩ | ⟨g, cap, cur, hv, _⟩
    · exact ⟨_, _, _, hv⟩
    · exact ⟨_, _, _, hv⟩
  have hneb := Lib.ownBlock_ne hown2 hb2 Tryz.Builder_Extra_169.neB5
  have hset : ∀ k, k ≠ b → (w2.setCell ⟨b, 1, none⟩ (.slice ao n' cap)).heap[k]? = w2.heap[k]? := fun k hk => Below.heap_setCell _ _ _ _ hk
  have hkeep : ∀ k, k < w.heap.size → k ≠ b → v.ownBlock ≠ some k → (w2.setCell ⟨b, 1, none⟩ (.slice ao n' cap)).heap[k]? = w.heap[k]? := fun k h1 h2 h3 =>
    (hset k h2).trans ((hgrow.block k (by omega) (fun e => h3 e.symm)).trans (hob.block k h1 (by simpa using h2)))
  go_wp2_with fail
  go_ret2
  refine ⟨rfl, ⟨_, _, .inr rfl, hB, by simp [World.setCell, Array.getElem?_modify, hb2], ?_, hneb, hbx, fun k e => ?_⟩, ⟨hgrow.os.trans hob.os, hgrow.tape.trans hob.tape, hgrow.output.trans hob.output, by simp [World.setCell]; omega, fun k hk => ?_⟩, ⟨by simp [World.setCell]; omega, fun k o hk ho => ?_⟩, fun x hx => ?_⟩
  · rw [byteCells_app, List.length_append, ← strCells_sb t, ← sb_size t]
    exact ownsRow_of hown2 fun k e => hset k fun q => hneb (by rw [e, q])
  · rcases hwh k e with q | q
    · exact hkx k q
    · exact fun m => absurd (hxs k m) (by omega)
  · exact hkeep k (by omega) (by omega) (fun e => by have := (hown.lt k e).1; omega)
  · refine (hkeep k (heap_lt hk) (fun q => ?_) (fun e => ?_)).trans hk
    · rw [q, hbk] at hk
      cases hk
      cases ho
    · rcases hown.2 with ⟨rfl, _⟩ | ⟨g, cap, cur, rfl, _, hg, _⟩
      · cases e
      · injection e with e
        subst e
        rw [show (⟨g, 0, none⟩ : Addr).block = g from rfl, hg] at hk
        cases hk
        cases ho
  · exact hkeep x (hxs x hx) (fun q => hbx (q ▸ hx)) (fun e => hkx x e hx)
end

section
open Go.RowKit

theorem FtI.lt {T : TypeId} {w : World} {A : Option Addr} {n c : Nat} {l : List Int} {bs : List Nat} (h : FtI T w A n c l bs) : ∀ b ∈ bs, b < w.heap.size := by
  intro b hm
  rcases h.2 with ⟨_, e⟩ | ⟨g, xs, _, _, hh, _, e⟩
  · rw [e] at hm; cases hm
  · rw [e] at hm; simp at hm; subst hm; exact heap_lt hh
theorem FtR.lt {T : TypeId} {w : World} {s : Bool} {A : Option Addr} {n c : Nat} {B : Option Addr} {m d : Nat} {r : RatD} {bs : List Nat} (h : FtR T w s A n c B m d r bs) : ∀ b ∈ bs, b < w.heap.size := by
  obtain ⟨_, b1, b2, h1, h2, rfl⟩ := h
  intro b hb
  rcases List.mem_append.1 hb with hb | hb
  · exact h1.lt b hb
  · exact h2.lt b hb
theorem PtIn.lt {T : TypeId} {w : World} {cs : Array Value} {i : Nat} {p : PtD} {bs : List Nat} (h : PtIn T w cs i p bs) : ∀ b ∈ bs, b < w.heap.size := by
  obtain ⟨s, A, n, c, B, m, d, t, C, j, e, D, k, f, b1, b2, _, h1, h2, rfl⟩ := h
  intro b hb
  rcases List.mem_append.1 hb with hb | hb
  · exact h1.lt b hb
  · exact h2.lt b hb
end

section
open Go.RowKit
end

section
open Go.RowKit
end

section
open Go.RowKit
end

section
open Go.RowKit
end

section
open Go.RowKit
/-- A fraction in the blocks from lo to hi. -/
def OwX (T : TypeId) (lo hi : Nat) (w : World) (s : Bool) (A : Option Addr) (n c : Nat) (B : Option Addr) (m d : Nat) (r : RatD) : Prop :=
  ∃ bs, FtR T w s A n c B m d r bs ∧ Fp lo hi bs
section
variable {T : TypeId} {lo hi b0 : Nat} {w W : World} {s : Bool} {A : Option Addr} {n c : Nat} {B : Option Addr} {m d : Nat} {r : RatD} {bs : List Nat}
theorem OwX.of (h : OwR T b0 w s A n c B m d r) : OwX T b0 w.heap.size w s A n c B m d r := h
theorem OwX.rd (h : OwX T lo hi w s A n c B m d r) : RdR w s A n c B m d r := by
  obtain ⟨bs, h, _⟩ := h
  exact h.rd
theorem OwX.bl (h : OwX T lo hi w s A n c B m d r) (hb : Bl w W) : OwX T lo hi W s A n c B m d r := by
  obtain ⟨bs, h, hf⟩ := h
  exact ⟨bs, h.bl hb, hf⟩
theorem OwX.ob (h : OwX T lo hi w s A n c B m d r) (ho : Ob bs w W) (hd : ∀ b ∈ bs, b < lo ∨ hi ≤ b) : OwX T lo hi W s A n c B m d r := by
  obtain ⟨cs, h, hf⟩ := h
  refine ⟨cs, h.keep ho.size fun b hb => ho.block b (h.lt b hb) fun hm => ?_, hf⟩
  have h1 := hf.2 b hb
  have h2 := hd b hm
  omega
end

/-- A list of points in the blocks from lo to hi. -/
def OwPZ (TI TP : TypeId) (lo hi : Nat) (w : World) (A : Option Addr) (n c : Nat) (l : List PtD) : Prop :=
  l.length = n ∧ n ≤ c ∧ n ≤ 1048576 ∧ (n = 0 ∨ ∃ g cs fs, A = some ⟨g, 0, none⟩ ∧ Blk w g TP cs ∧ n * 6 ≤ cs.size ∧ PtsIn TI w cs l n fs ∧ Fp lo hi (g :: fs.flatten))
section
variable {TI TP : TypeId} {lo hi lo' hi' : Nat} {w W : World} {A : Option Addr} {n c : Nat} {l : List PtD} {bs : List Nat}
theorem OwPZ.rd (h : OwPZ TI TP lo hi w A n c l) : RdPS w A n c l := by
  obtain ⟨h1, h2, h3, h4⟩ := h
  rcases h4 with h4 | ⟨g, cs, fs, rfl, hB, hc, hP, hF⟩
  · subst h4
    obtain rfl := List.length_eq_zero_iff.1 h1
    exact RdS.nil _ _ _
  · exact hP.rd hB h1 (by omega) h2
theorem OwPZ.keep (h : OwPZ TI TP lo hi w A n c l) (hs : w.heap.size ≤ W.heap.size) (hk : ∀ b, lo ≤ b → b < hi → b < w.heap.size → W.heap[b]? = w.heap[b]?) : OwPZ TI TP lo hi W A n c l := by
  obtain ⟨h1, h2, h3, h4⟩ := h
  refine ⟨h1, h2, h3, ?_⟩
  rcases h4 with h4 | ⟨g, cs, fs, rfl, hB, hc, hP, hF⟩
  · exact .inl h4
  · have hg := hF.2 g (by simp)
    refine .inr ⟨g, cs, fs, rfl, (hk g hg.1 hg.2 hB.lt).trans hB, hc, ⟨hP.1, fun i hi => (hP.2 i hi).keep (fun _ _ => rfl) hs fun b hb => ?_⟩, hF⟩
    have hm := hF.2 b (List.mem_cons_of_mem _ (mem_flatten_pix hb))
    exact hk b hm.1 hm.2 ((hP.2 i hi).lt b hb)
theorem OwPZ.bl (h : OwPZ TI TP lo hi w A n c l) (hb : Bl w W) : OwPZ TI TP lo hi W A n c l := h.keep hb.size fun b _ _ hl => Below.block hb b hl
theorem OwPZ.ob (h : OwPZ TI TP lo hi w A n c l) (ho : Ob bs w W) (hd : ∀ b ∈ bs, b < lo ∨ hi ≤ b) : OwPZ TI TP lo hi W A n c l :=
  h.keep ho.size fun b h1 h2 hl => ho.block b hl fun hm => by have := hd b hm; omega
theorem OwPZ.low (h : OwPZ TI TP lo hi w A n c l) (h1 : lo' ≤ lo) (h2 : hi ≤ hi') : OwPZ TI TP lo' hi' w A n c l := by
  obtain ⟨a1, a2, a3, a4⟩ := h
  refine ⟨a1, a2, a3, ?_⟩
  rcases a4 with h4 | ⟨g, cs, fs, rfl, hB, hc, hP, hF⟩
  · exact .inl h4
  · exact .inr ⟨g, cs, fs, rfl, hB, hc, hP, hF.mono h1 h2⟩
end
end

section
open Go.RowKit

/-- Block g has six cells that may be written. -/
def Wr6 (T : TypeId) (g : Nat) (W : World) : Prop := ∃ cs, Blk W g T cs ∧ cs.size = 6
theorem Wr6.bl {T : TypeId} {g : Nat} {w W : World} (h : Wr6 T g w) (hb : Bl w W) : Wr6 T g W := by
  obtain ⟨cs, h1, h2⟩ := h
  exact ⟨cs, h1.bl hb, h2⟩
theorem Wr6.set {T : TypeId} {g : Nat} {w : World} (h : Wr6 T g w) (i : Nat) (u : Value) : Wr6 T g (w.setCell ⟨g, i, none⟩ u) := by
  obtain ⟨cs, h1, h2⟩ := h
  exact ⟨_, h1.set_ i u, by simp [h2]⟩
theorem Wr6.new2 (T : TypeId) (w : World) (o : Obj) (a b c a' b' c' : Value) : Wr6 T (w.heap.size + 1) ((w.alloc o).alloc (.cells #[a, b, c, a', b', c'] T)) := by
  have : Wr6 T (w.alloc o).heap.size ((w.alloc o).alloc (.cells #[a, b, c, a', b', c'] T)) := ⟨_, Blk.new _ _ _, rfl⟩
  rwa [World.size_alloc] at this
theorem Wr6.drew {T : TypeId} {g : Nat} {w : World} (h : Wr6 T g w) : Wr6 T g w.drew := h
theorem Wr6.out {T : TypeId} {g : Nat} {w : World} (h : Wr6 T g w) : (w.cell? ⟨g, 0, none⟩ = some (cellD w g 0) ∧ w.cell? ⟨g, 1, none⟩ = some (cellD w g 1) ∧ w.cell? ⟨g, 2, none⟩ = some (cellD w g 2) ∧ w.cell? ⟨g, 3, none⟩ = some (cellD w g 3) ∧ w.cell? ⟨g, 4, none⟩ = some (cellD w g 4) ∧ w.cell? ⟨g, 5, none⟩ = some (cellD w g 5)) ∧
    w.frozen? ⟨g, 0, none⟩ = false ∧ w.frozen? ⟨g, 1, none⟩ = false ∧ w.frozen? ⟨g, 2, none⟩ = false ∧ w.frozen? ⟨g, 3, none⟩ = false ∧ w.frozen? ⟨g, 4, none⟩ = false ∧ w.frozen? ⟨g, 5, none⟩ = false := by
  obtain ⟨cs, h1, h2⟩ := h
  exact ⟨⟨cellD_eq (h1.some (by omega)), cellD_eq (h1.some (by omega)), cellD_eq (h1.some (by omega)), cellD_eq (h1.some (by omega)), cellD_eq (h1.some (by omega)), cellD_eq (h1.some (by omega))⟩, h1.frozen 0, h1.frozen 1, h1.frozen 2, h1.frozen 3, h1.frozen 4, h1.frozen 5⟩
/-- A point in memory of its own from block b0 on. -/
def OwP (T : TypeId) (b0 : Nat) (w : World) (s : Bool) (A : Option Addr) (n c : Nat) (B : Option Addr) (m d : Nat) (t : Bool) (C : Option Addr) (i e : Nat) (D : Option Addr) (j f : Nat) (p : PtD) : Prop :=
  ∃ b1 b2, FtR T w s A n c B m d p.x b1 ∧ FtR T w t C i e D j f p.y b2 ∧ Fp b0 w.heap.size (b1 ++ b2)
section
variable {T : TypeId} {b0 b1 : Nat} {w w1 W : World} {s : Bool} {A : Option Addr} {n c : Nat} {B : Option Addr} {m d : Nat} {t : Bool} {C : Option Addr} {i e : Nat} {D : Option Addr} {j f : Nat} {p : PtD}
theorem OwP.two (h : OwR T b0 w1 s A n c B m d p.x) (k : OwR T w1.heap.size w t C i e D j f p.y) (hb : Bl w1 w) (h0 : b0 ≤ w1.heap.size) : OwP T b0 w s A n c B m d t C i e D j f p := by
  obtain ⟨c1, h1, f1⟩ := h
  obtain ⟨c2, h2, f2⟩ := k
  exact ⟨c1, c2, h1.bl hb, h2, f1.app f2 (Nat.le_refl _) h0 hb.size⟩
theorem OwP.far (h : OwP T b0 w s A n c B m d t C i e D j f p) {q : Addr} (hp : q.block < b0) (u : Value) : OwP T b0 (w.setCell q u) s A n c B m d t C i e D j f p := by
  obtain ⟨c1, c2, h1, h2, hf⟩ := h
  exact ⟨c1, c2, h1.keep (by simp) (fun b hb => Below.heap_setCell w q u b (by have := (hf.2 b (by simp [hb])).1; omega)), h2.keep (by simp) (fun b hb => Below.heap_setCell w q u b (by have := (hf.2 b (by simp [hb])).1; omega)), hf.mono (Nat.le_refl _) (by simp)⟩
theorem OwP.low (h : OwP T b1 w s A n c B m d t C i e D j f p) (hb : b0 ≤ b1) : OwP T b0 w s A n c B m d t C i e D j f p := by
  obtain ⟨c1, c2, h1, h2, hf⟩ := h
  exact ⟨c1, c2, h1, h2, hf.mono hb (Nat.le_refl _)⟩
end
end

end Go.Proofs.YtjaapemopbbfaaaGreatDoor
