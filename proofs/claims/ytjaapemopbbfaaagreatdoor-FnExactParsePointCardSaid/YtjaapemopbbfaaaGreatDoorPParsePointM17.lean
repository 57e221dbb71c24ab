/- Lemmas. -/
import Derived.Test.YtjaapemopbbfaaaGreatDoorRows
import Derived.Test.YtjaapemopbbfaaaGreatDoorPParsePointM01
import Derived.Test.YtjaapemopbbfaaaGreatDoorPParsePointM03
import Derived.Test.YtjaapemopbbfaaaGreatDoorPParsePointM15
import Derived.Test.YtjaapemopbbfaaaGreatDoorPParsePointM16
import Derived.RangeFuncOwn
import Derived.Lib.Builder
import Derived.Lib.AppendStr
import Derived.Lib.UnsafeStr
import Derived.Laws.Externs
import Derived.Test.YtjaapemopbbfaaaGreatDoorPParsePointM13
namespace Go.Proofs.YtjaapemopbbfaaaGreatDoor
section
open Go.RowKit

/-- The builder's block, and its bytes. -/
abbrev IsBd (B b : Nat) (l : List UInt8) (w : World) : Prop := Lib.IsBuilder 145 5 B b (Lib.byteCells l) w
set_option maxHeartbeats 4000000 in
set_option maxRecDepth 100000 in
theorem copyCheck_used (b : Nat) (w : World) (h0 : w.cell? ⟨b, 0, none⟩ = some (.pointer (some ⟨b, 0, none⟩))) :
    Calls Tryz.prog 168 #[.pointer (some ⟨b, 0, none⟩)] w fun e w' => e = .returned (.tuple #[]) ∧ w' = w := by
  obtain ⟨j, hj, _⟩ := Option.map_eq_some_iff.1 Tryz.Builder_Extra_169.sizeBuilder
  go_enter Tryz.func168, Tryz.ntmps168
  go_wp2
  rw [Lib.run_neq_ptr_same w _ Tryz.underlying143 hj]
  go_wp2
  go_end0
  exact ⟨rfl, rfl⟩

set_option maxHeartbeats 4000000 in
set_option maxRecDepth 100000 in
theorem copyCheck_fresh (b : Nat) (w : World) (h0 : w.cell? ⟨b, 0, none⟩ = some (.pointer none)) (hsh : w.shape? b = some (145, 2)) (hfz : w.frozen? ⟨b, 0, none⟩ = false) :
    Calls Tryz.prog 168 #[.pointer (some ⟨b, 0, none⟩)] w fun e w' => e = .returned (.tuple #[]) ∧ w' = w.setCell ⟨b, 0, none⟩ (.pointer (some ⟨b, 0, none⟩)) := by
  obtain ⟨j, hj, hjs⟩ := Option.map_eq_some_iff.1 Tryz.Builder_Extra_169.sizeBuilder
  go_enter Tryz.func168, Tryz.ntmps168
  go_wp2_with fail
  rw [Lib.run_to_unsafe w ⟨b, 0, none⟩ Tryz.underlying143 Tryz.underlying213 hj (by rw [hjs]; decide) hsh (Nat.zero_lt_succ 1)]
  simp only [Result.andThen]
  rw [Oper.upon_value]
  go_wp2_with fail
  rw [run_callFunc_extern Tryz.func221 (by kernel_rfl) (by kernel_rfl) (by kernel_rfl) (e := Extern.AbiNoEscape.same) (by kernel_rfl)]
  rw [Lib.run_noEscape]
  simp only [Result.andThen]
  rw [Oper.upon_value]
  go_wp2_with fail
  rw [Lib.run_from_unsafe w ⟨b, 0, none⟩ Tryz.underlying213 Tryz.underlying143 hj hsh Tryz.Builder_Extra_169.liesBuilder]
  simp only [Result.andThen]
  rw [Oper.upon_value]
  go_wp2_with fail
  go_end0
  exact ⟨rfl, rfl⟩

theorem strCells_sb (l : List UInt8) : Lib.strCells (sb l) = Lib.byteCells l := rfl
theorem byteCells_app (a b : List UInt8) : Lib.byteCells (a ++ b) = Lib.byteCells a ++ Lib.byteCells b := List.map_append
theorem byteCells_len (a : List UInt8) : (Lib.byteCells a).length = a.length := List.length_map _

/-- A builder in block b that holds the bytes l; neither it nor its buffer lies in the blocks xs. -/
def BdX (B b : Nat) (l : List UInt8) (xs : List Nat) (w : World) : Prop :=
  ∃ p v, (p = .pointer none ∨ p = .pointer (some ⟨b, 0, none⟩)) ∧ B ≤ b ∧ w.heap[b]? = some (.cells #[p, v] 145 (0, 0)) ∧ w.ownsRow B 5 1 v l.length (Lib.byteCells l) ∧ v.ownBlock ≠ some b ∧ b ∉ xs ∧ ∀ k, v.ownBlock = some k → k ∉ xs
theorem BdX.is {B b : Nat} {l : List UInt8} {xs : List Nat} {w : World} (h : BdX B b l xs w) : IsBd B b l w := by
  obtain ⟨p, v, hp, hB, hb, ho, hn, _⟩ := h
  have ho : w.ownsRow B 5 1 v (Lib.byteCells l).length (Lib.byteCells l) := by rw [byteCells_len]; exact ho
  rcases hp with rfl | rfl
  · exact .inl ⟨hB, v, hb, ho, hn⟩
  · exact .inr ⟨hB, v, hb, ho, hn⟩
theorem ownsRow_of {w W : World} {B : Nat} {e : TypeId} {v : Value} {n : Nat} {cs : List Value} (h : w.ownsRow B e 1 v n cs) (hk : ∀ k, v.ownBlock = some k → W.heap[k]? = w.heap[k]?) : W.ownsRow B e 1 v n cs := by
  obtain ⟨h1, h2⟩ := h
  refine ⟨h1, ?_⟩
  rcases h2 with h2 | ⟨g, cap, cur, rfl, h3, h4, h5⟩
  · exact .inl h2
  · exact .inr ⟨g, cap, cur, rfl, h3, (hk g rfl).trans h4, h5⟩
theorem BdX.lt {B b : Nat} {l : List UInt8} {xs : List Nat} {w : World} (h : BdX B b l xs w) : b < w.heap.size := by
  obtain ⟨p, v, _, _, hb, _⟩ := h
  exact heap_lt hb
theorem BdX.le {B b : Nat} {l : List UInt8} {xs : List Nat} {w : World} (h : BdX B b l xs w) : B ≤ b := by
  obtain ⟨p, v, _, hB, _⟩ := h
  exact hB
theorem BdX.ob {B b : Nat} {l : List UInt8} {xs : List Nat} {w W : World} (h : BdX B b l xs w) (ho : Ob xs w W) : BdX B b l xs W := by
  obtain ⟨p, v, hp, hB, hb, hw, hn, hx, hk⟩ := h
  exact ⟨p, v, hp, hB, (ho.block b (heap_lt hb) hx).trans hb, ownsRow_of hw fun k e => ho.block k (hw.lt k e).2 (hk k e), hn, hx, hk⟩
theorem BdX.bl {B b : Nat} {l : List UInt8} {xs : List Nat} {w W : World} (h : BdX B b l xs w) (hb : Bl w W) : BdX B b l xs W := h.ob (Ob.of_bl hb _)
theorem BdX.sub {B b : Nat} {l : List UInt8} {xs ys : List Nat} {w : World} (h : BdX B b l xs w) (hy : ∀ y ∈ ys, y ∈ xs ∨ w.heap.size ≤ y) : BdX B b l ys w := by
  obtain ⟨p, v, hp, hB, hb, hw, hn, hx, hk⟩ := h
  refine ⟨p, v, hp, hB, hb, hw, hn, fun m => ?_, fun k e m => ?_⟩
  · rcases hy b m with q | q
    · exact hx q
    · exact absurd (heap_lt hb) (by omega)
  · rcases hy k m with q | q
    · exact hk k e q
    · have := (hw.lt k e).2
      omega
theorem BdX.fresh (w : World) (xs : List Nat) (hx : w.heap.size ∉ xs) : BdX w.heap.size w.heap.size [] xs (w.alloc (.cells #[.pointer none, .slice none 0 0] 145)) :=
  ⟨_, _, .inl rfl, Nat.le_refl _, heap_alloc_new w _, World.ownsRow_nil _ _ _ _, by simp [Value.ownBlock], hx, by simp [Value.ownBlock]⟩
/-- Where the appended row lies: where it lay, or in a new block. -/
theorem append_where {P : Program} (w : World) (base : Nat) (t u ty e : TypeId) (i : TypeInfo) (ht : P.underlying t = some (.slice e)) (hu : P.underlying u = some .string) (hi : P.info? e = some i) (hz : i.zero = some (.int .u8 0))
    (hsize : i.size = 1) (hby : i.bytes = 1) (v : Value) (n : Nat) (xs : List Value) (hown : w.ownsRow base e 1 v n xs) (s : ByteArray)
    (h63 : n + s.size ≤ maxLen) (hbytes : n + s.size ≤ 140737488355328) (hbase : base ≤ w.heap.size) :
    ∃ v' w', (Builtin.append_ #[t, u] ty #[v, .string s]).run P w = .ok v' w' ∧ w'.ownsRow base e 1 v' (n + s.size) (xs ++ Lib.strCells s) ∧ w.grownBy w' v.ownBlock ∧ ∀ k, v'.ownBlock = some k → v.ownBlock = some k ∨ w.heap.size ≤ k := by
  obtain ⟨v', w', hr, h1, h2, h3⟩ := Lib.run_append_own_string (P := P) w base t u ty e i ht hu hi hz hsize hby v n xs hown s h63 hbytes hbase
  refine ⟨v', w', hr, h1, h2, ?_⟩
  have h64 : n + s.size ≤ 9223372036854775807 := by unfold maxLen at h63; omega
  rcases hown.2 with ⟨rfl, rfl⟩ | ⟨g, cap, cur, rfl, hbg, hg, hnc, hcm, hcs, htake⟩
  · obtain ⟨v2, w2, hr2, h4, _⟩ := Lib.run_append_own_string (P := P) w w.heap.size t u ty e i ht hu hi hz hsize hby (.slice none 0 0) 0 xs (by obtain ⟨hl, _⟩ := hown; exact ⟨hl, .inl ⟨rfl, rfl⟩⟩) s h63 hbytes (Nat.le_refl _)
    rw [hr] at hr2
    cases hr2
    exact fun k e => .inr (h4.lt k e).1
  · by_cases hroom : n + s.size ≤ cap
    · have hcs' : cur.size = cap := by simpa using hcs
      have hr2 := Lib.run_append_room_string (P := P) w t u ty e i ht hu hi hsize g n cap cur hg s hroom (by omega)
      rw [hr] at hr2
      cases hr2
      exact fun k e => .inl e
    · have hxl : xs.length = n := by simpa using hown.1
      have hr2 := Lib.run_append_grow_string (P := P) w t u ty e i (.int .u8 0) ht hu hi hz ⟨g, 0, none⟩ n cap xs (by rw [hsize]; simpa using hxl) (hown.cells (g := g) rfl) s (by omega) (by omega) (by rw [hby]; exact growslice_fits (by omega) (by omega))
      rw [hr] at hr2
      cases hr2
      intro k e
      injection e with e
      exact .inr (by rw [← e]; exact Nat.le_refl _)
theorem wpList_append_where {P : Program} {ops : Array Oper} {rest : List Oper} {o : Oper} {a : Act} {w : World} {Q : Exit → Act → World → Prop} (hgd : o.guard = none) (sl x : Operand) (t u : TypeId)
    (ho : o.op = .call { callee := .builtin .append, args := #[sl, x], argTypes := #[t, u] })
    (base : Nat) (e : TypeId) (i : TypeInfo) (ht : P.underlying t = some (.slice e)) (hu : P.underlying u = some .string) (hi : P.info? e = some i) (hz : i.zero = some (.int .u8 0))
    (hsize : i.size = 1) (hby : i.bytes = 1)
    (v : Value) (n : Nat) (xs : List Value) (hs : a.eval sl = v) (hown : w.ownsRow base e 1 v n xs) (s : ByteArray) (hx : a.eval x = .string s)
    (h63 : n + s.size ≤ maxLen) (hbytes : n + s.size ≤ 140737488355328) (hbase : base ≤ w.heap.size)
    (h : ∀ v' w', w'.ownsRow base e 1 v' (n + s.size) (xs ++ Lib.strCells s) → w.grownBy w' v.ownBlock → (∀ k, v'.ownBlock = some k → v.ownBlock = some k ∨ w.heap.size ≤ k) → wpList P ops Q rest (a.put o.dst v') w') : wpList P ops Q (o :: rest) a w := by
  refine wpList_plain hgd fun K hK => ?_
  obtain ⟨v', w', hr, h2, h3, h4⟩ := append_where (P := P) w base t u o.type e i ht hu hi hz hsize hby v n xs hown s h63 hbytes hbase
  unfold Oper.wp execOp
  simp only [ho, resolve, invoke, builtin, Sem.run_bind, Sem.run_pure, Result.andThen_ok, List.map_toArray, List.map_cons, List.map_nil, hs, hx, hr]
  exact hK _ _ (h v' w' h2 h3 h4)

set_option maxHeartbeats 8000000 in
set_option maxRecDepth 100000 in
theorem WriteString_any (B b : Nat) (l t : List UInt8) (xs : List Nat) (w : World) (h : BdX B b l xs w) (hlen : l.length + t.length ≤ 140737488355328) (hBw : B ≤ w.heap.size) (hxs : ∀ x ∈ xs, x < w.heap.size) :
    Calls Tryz.prog 121 #[.pointer (some ⟨b, 0, none⟩), .string (sb t)] w fun e w' => e = .returned (.tuple #[.int .i64 (sb t).size, .nilIface]) ∧ BdX B b (l ++ t) xs w' ∧ Below B w w' ∧ KeepsOthers w w' ∧ ∀ x ∈ xs, w'.heap[x]? = w.heap[x]? := by
  obtain ⟨i0, hi, hz0, hz1, hz2⟩ := info_parts Tryz.Builder_Extra_169.infoByte
  have hss := sb_size t
  obtain ⟨p, v, hp, hB, hbk, hown, hne, hbx, hkx⟩ := h
  have hlt := heap_lt hbk
  have hcc : Calls Tryz.prog 168 #[.pointer (some ⟨b, 0, none⟩)] w fun e w' => e = .returned (.tuple #[]) ∧ w'.heap[b]? = some (.cells #[.pointer (some ⟨b, 0, none⟩), v] 145 (0, 0)) ∧ Ob [b] w w' := by
    rcases hp with rfl | rfl
    · refine (copyCheck_fresh b w (by rw [Lib.cell_of_heap hbk]; rfl) (by simp [World.shape?, hbk]) (Lib.frozen_of_heap hbk 0)).mono ?_
      rintro e w' ⟨rfl, rfl⟩
      exact ⟨rfl, by simp [World.setCell, Array.getElem?_modify, hbk], Ob.set (Ob.refl _ _) (by simp) _ _⟩
    · refine (copyCheck_used b w (by rw [Lib.cell_of_heap hbk]; rfl)).mono ?_
      rintro e w' ⟨rfl, rfl⟩
      exact ⟨rfl, hbk, Ob.refl _ _⟩
  go_enter Tryz.func121, Tryz.ntmps121
  go_wp2_with (go_at_call 168; refine hcc.mono ?_)
  rintro e w1 ⟨rfl, hbk1, hob⟩
  have hown1 := ownsRow_of (W := w1) hown fun k e => hob.block k (hown.lt k e).2 (by simp; intro q; exact hne (by rw [e, q]))
  have c0 : w1.cell? ⟨b, 0, none⟩ = some (.pointer (some ⟨b, 0, none⟩)) := by rw [Lib.cell_of_heap hbk1]; rfl
  have c1 : w1.cell? ⟨b, 1, none⟩ = some v := by rw [Lib.cell_of_heap hbk1]; rfl
  have hs1 := hob.size
  go_wp2_with (at_builtin; refine wpList_append_where rfl _ _ 34 9 rfl B 5 i0 Tryz.underlying34 Tryz.underlying9 hi hz0 hz1 hz2 _ _ _ rfl hown1 (sb t) rfl ?c3 ?c4 ?c5 ?_)
  case c3 => unfold maxLen; omega
  case c4 => omega
  case c5 => omega
  intro v' w2 hown2 hgrow hwh
  have hb2 : w2.heap[b]? = some (.cells #[.pointer (some ⟨b, 0, none⟩), v] 145 (0, 0)) := by
    rw [hgrow.block b (by omega) (fun e => hne e.symm)]
    exact hbk1
  have d0 : w2.cell? ⟨b, 0, none⟩ = some (.pointer (some ⟨b, 0, none⟩)) := by rw [Lib.cell_of_heap hb2]; rfl
  have d1 : w2.cell? ⟨b, 1, none⟩ = some v := by rw [Lib.cell_of_heap hb2]; rfl
  have f1 : w2.frozen? ⟨b, 1, none⟩ = false := Lib.frozen_of_heap hb2 1
  have hs2 := hgrow.size
  obtain ⟨ao, n', cap, rfl⟩ : ∃ ao n' cap, v' = .slice ao n' cap := by
    rcases hown2.2 with ⟨hv, _⟩ | ⟨g, cap, cur, hv, _⟩
    · exact ⟨_, _, _, hv⟩
    · exact ⟨_, _, _, hv⟩
  have hneb := Lib.ownBlock_ne hown2 hb2 Tryz.Builder_Extra_169.neB5
  have hset : ∀ k, k ≠ b → (w2.setCell ⟨b, 1, none⟩ (.slice ao n' cap)).heap[k]? = w2.heap[k]? := fun k hk => Below.heap_setCell _ _ _ _ hk
  have hkeep : ∀ k, k < w.heap.size → k ≠ b → v.ownBlock ≠ some k → (w2.setCell ⟨b, 1, none⟩ (.slice ao n' cap)).heap[k]? = w.heap[k]? := fun k h1 h2 h3 =>
    (hset k h2).trans ((hgrow.block k (by omega) (fun e => h3 e.symm)).trans (hob.block k h1 (by simpa using h2)))
  go_wp2_with fail
  go_ret2
  refine ⟨rfl, ⟨_, _, .inr rfl, hB, by simp [World.setCell, Array.getElem?_modify, hb2], ?_, hneb, hbx, fun k e => ?_⟩, ⟨hgrow.os.trans hob.os, hgrow.tape.trans hob.tape, hgrow.output.trans hob.output, by simp [World.setCell]; omega, fun k hk => ?_⟩, ⟨by simp [World.setCell]; omega, fun k o hk ho => ?_⟩, fun x hx => ?_⟩
  · rw [byteCells_app, List.length_append, ← strCells_sb t, ← sb_size t]
    exact ownsRow_of hown2 fun k e => hset k fun q => hneb (by rw [e, q])
  · rcases hwh k e with q | q
    · exact hkx k q
    · exact fun m => absurd (hxs k m) (by omega)
  · exact hkeep k (by omega) (by omega) (fun e => by have := (hown.lt k e).1; omega)
  · refine (hkeep k (heap_lt hk) (fun q => ?_) (fun e => ?_)).trans hk
    · rw [q, hbk] at hk
      cases hk
      cases ho
    · rcases hown.2 with ⟨rfl, _⟩ | ⟨g, cap, cur, rfl, _, hg, _⟩
      · cases e
      · injection e with e
        subst e
        rw [show (⟨g, 0, none⟩ : Addr).block = g from rfl, hg] at hk
        cases hk
        cases ho
  · exact hkeep x (hxs x hx) (fun q => hbx (q ▸ hx)) (fun e => hkx x e hx)
end

section
open Go.RowKit

theorem FtI.lt {T : TypeId} {w : World} {A : Option Addr} {n c : Nat} {l : List Int} {bs : List Nat} (h : FtI T w A n c l bs) : ∀ b ∈ bs, b < w.heap.size := by
  intro b hm
  rcases h.2 with ⟨_, e⟩ | ⟨g, xs, _, _, hh, _, e⟩
  · rw [e] at hm; cases hm
  · rw [e] at hm; simp at hm; subst hm; exact heap_lt hh
theorem FtR.lt {T : TypeId} {w : World} {s : Bool} {A : Option Addr} {n c : Nat} {B : Option Addr} {m d : Nat} {r : RatD} {bs : List Nat} (h : FtR T w s A n c B m d r bs) : ∀ b ∈ bs, b < w.heap.size := by
  obtain ⟨_, b1, b2, h1, h2, rfl⟩ := h
  intro b hb
  rcases List.mem_append.1 hb with hb | hb
  · exact h1.lt b hb
  · exact h2.lt b hb
theorem PtIn.lt {T : TypeId} {w : World} {cs : Array Value} {i : Nat} {p : PtD} {bs : List Nat} (h : PtIn T w cs i p bs) : ∀ b ∈ bs, b < w.heap.size := by
  obtain ⟨s, A, n, c, B, m, d, t, C, j, e, D, k, f, b1, b2, _, h1, h2, rfl⟩ := h
  intro b hb
  rcases List.mem_append.1 hb with hb | hb
  · exact h1.lt b hb
  · exact h2.lt b hb
end

section
open Go.RowKit

set_option maxHeartbeats 1600000 in
theorem markBigInt_any {T : TypeId} (w : World) {s : Bool} {A : Option Addr} {n c : Nat} {l : List Int} {bs : List Nat} {k0 : Int} (h : FtI T w A n c l bs) (hn : n ≤ 1048576) (h0 : 0 ≤ k0) (h1 : k0 ≤ 1099511627776) :
    Calls Tryz.prog 86 #[.agg #[.bool s, .slice A n c], .int .i64 k0] w fun e w' => e = .returned (.int .i64 (k0 + (n : Int))) ∧ FtI T w' A n c (marks k0 n) bs ∧ Ob bs w w' := by
  go_enter Tryz.func86, Tryz.ntmps86
  go_wp2_with fail
  have hbl := (Bl.refl w).alloc (.cells #[.bool s, .slice A n c] 24)
  refine (markIntS_any _ (h.bl hbl) hn h0 h1).mono ?_
  rintro e w1 ⟨rfl, hF, hO⟩
  go_wp2_with fail
  go_ret
  exact ⟨rfl, hF, (Ob.of_bl hbl _).trans hO⟩
set_option maxHeartbeats 1600000 in
theorem heldBigInt_any (w : World) {s : Bool} {A : Option Addr} {n c : Nat} {k0 : Int} (h : RdI w A n c (marks k0 n)) (hn : n ≤ 1048576) (h0 : 0 ≤ k0) (h1 : k0 ≤ 1099511627776) :
    Calls Tryz.prog 88 #[.agg #[.bool s, .slice A n c], .int .i64 k0] w fun e w' => e = .returned (.int .i64 (k0 + (n : Int))) ∧ Bl w w' := by
  go_enter Tryz.func88, Tryz.ntmps88
  go_wp2_with fail
  refine (heldIntS_any _ (h.alloc _) hn h0 h1).mono ?_
  rintro e w1 ⟨rfl, q, rfl⟩
  have hp : ¬ k0 + (n : Int) < 0 := by omega
  go_wp2_with fail
  go_ret
  exact ⟨rfl, slc⟩
set_option maxHeartbeats 4000000 in
theorem markRat_any {T : TypeId} (w : World) {s : Bool} {A : Option Addr} {n c : Nat} {B : Option Addr} {m d : Nat} {r : RatD} {bs : List Nat} {k0 : Int} (h : FtR T w s A n c B m d r bs) (hnd : bs.Nodup) (hn : n ≤ 1048576) (hm : m ≤ 1048576) (h0 : 0 ≤ k0) (h1 : k0 ≤ 1073741824) :
    Calls Tryz.prog 40 #[.agg #[.bool s, .slice A n c, .slice B m d], .int .i64 k0] w fun e w' => e = .returned (.int .i64 (k0 + (n : Int) + (m : Int))) ∧ RdI w' A n c (marks k0 n) ∧ RdI w' B m d (marks (k0 + (n : Int)) m) ∧ Ob bs w w' := by
  obtain ⟨hs, b1, b2, hA, hB, rfl⟩ := h
  have hd := List.nodup_append.1 hnd
  have hs := Lib.hid hs; rename_i h_; clear h_
  go_enter Tryz.func40, Tryz.ntmps40
  go_wp2_with fail
  have hbl := (Bl.refl w).alloc (.cells #[.bool s, .slice A n c, .slice B m d] 26)
  refine (markBigInt_any _ (hA.bl hbl) hn h0 (by omega)).mono ?_
  rintro e w1 ⟨rfl, hF, hO⟩
  have hB1 := (hB.bl hbl).ob hO (fun b hb hm' => hd.2.2 b hm' b hb rfl)
  have hx : Blk w1 w.heap.size 26 #[.bool s, .slice A n c, .slice B m d] := (Blk.new w _ _).ob hO (fun hm' => by have := hA.lt _ hm'; omega)
  obtain ⟨i0, i1, i2⟩ := bx3 hx
  go_wp2_with fail
  refine (markIntS_any _ hB1 hm (by omega) (by omega)).mono ?_
  rintro e w2 ⟨rfl, hF2, hO2⟩
  have hF3 := hF.ob hO2 (fun b hb hm' => hd.2.2 b hb b hm' rfl)
  go_wp2_with fail
  go_ret
  exact ⟨rfl, hF3.1, hF2.1, (Ob.of_bl hbl _).trans ((hO.mono (fun b hb => by simp [hb])).trans (hO2.mono (fun b hb => by simp [hb])))⟩
set_option maxHeartbeats 4000000 in
theorem heldRat_any (w : World) {s : Bool} {A : Option Addr} {n c : Nat} {B : Option Addr} {m d : Nat} {k0 : Int} (h : RdI w A n c (marks k0 n)) (k : RdI w B m d (marks (k0 + (n : Int)) m)) (hn : n ≤ 1048576) (hm : m ≤ 1048576) (h0 : 0 ≤ k0) (h1 : k0 ≤ 1073741824) :
    Calls Tryz.prog 41 #[.agg #[.bool s, .slice A n c, .slice B m d], .int .i64 k0] w fun e w' => e = .returned (.int .i64 (k0 + (n : Int) + (m : Int))) ∧ Bl w w' := by
  have hp1 : ¬ k0 + (n : Int) < 0 := by omega
  have hp2 : ¬ k0 + (n : Int) + (m : Int) < 0 := by omega
  go_enter Tryz.func41, Tryz.ntmps41
  go_wp2_with fail
  refine (heldBigInt_any _ (h.alloc _) hn h0 (by omega)).mono ?_
  rintro e w1 ⟨rfl, hb1⟩
  obtain ⟨i0, i1, i2⟩ := box3 hb1
  have hb1 : Bl w w1 := slc
  go_wp2_with fail
  refine (heldIntS_any _ (k.bl hb1) hm (by omega) (by omega)).mono ?_
  rintro e w2 ⟨rfl, q, rfl⟩
  go_wp2_with fail
  go_ret
  exact ⟨rfl, slc⟩
end

section
open Go.RowKit
end

section
open Go.RowKit
end

end Go.Proofs.YtjaapemopbbfaaaGreatDoor
