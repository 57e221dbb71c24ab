/- Lemmas. -/
import Derived.Test.YtajlahjghapbkaaGreatRows
import Derived.Test.YtajlahjghapbkaaGreatPUndoM10
import Derived.Lib.AppendZerosOnto
import Derived.Lib.Overlaps
import Derived.Laws.CopyRow
import Derived.Laws.NewBlocks
import Derived.Laws.Externs
import Derived.Laws.CopyOwn
import Derived.Shelf.RegionOpenPlain
namespace Go.Proofs.YtajlahjghapbkaaGreat
section
open Go.RowKit

theorem lowE {l : List EdD} {x : EdD} {m : Nat} (hs : SrtE l) (hm : m < l.length) (hc : ltE (pix l m) x = true) : ∀ k, k < m + 1 → ltE (pix l k) x = true := by
  intro k hk
  rcases Nat.lt_succ_iff_lt_or_eq.1 hk with hk | rfl
  · exact ltE_trans (hs k m hk hm) hc
  · exact hc
theorem highE {l : List EdD} {x : EdD} {m : Nat} (hs : SrtE l) (hc : ltE (pix l m) x = false) : ∀ k, m ≤ k → k < l.length → ltE (pix l k) x = false := by
  intro k hk hkl
  rcases Nat.lt_or_eq_of_le hk with hk | rfl
  · rw [Bool.eq_false_iff] at hc ⊢
    exact fun e => hc (ltE_trans (hs m k hk hkl) e)
  · exact hc
theorem cmpE_lt {x y : EdD} : (cmpE x y < 0) ↔ ltE x y = true := by unfold ltE; rw [decide_eq_true_iff]
set_option maxRecDepth 100000 in
set_option maxHeartbeats 16000000 in
theorem BSearch_any (w : World) {g n c : Nat} {l : List EdD} (h : RdES w (some ⟨g, 0, none⟩) n c l) (hs : SrtE l) (x : EdD) (hn : n ≤ 1048576) :
    Calls Tryz.prog 167 #[.slice (some ⟨g, 0, none⟩) n c, .agg #[.int .i64 x.a, .int .i64 x.b, .int .i64 x.l, .int .i64 x.r], .func (.func 168) #[] #[]] w fun e w' => e = .returned (.tuple #[.int .i64 (posE x l : Int), .bool (fndE x l)]) ∧ Bl w w' := by
  have hl := Lib.hid h.len
  have hs := Lib.hid hs; rename_i h_; clear h_
  go_enter Tryz.func167, Tryz.ntmps167
  go_wp2_with fail
  refine wp_gen (fun W => Bl w W ∧ Blk W w.heap.size 175 #[.int .i64 x.a, .int .i64 x.b, .int .i64 x.l, .int .i64 x.r]) ⟨slc, bts⟩ ?_
  rintro W ⟨hbW, hX⟩
  go_loopw [9, 10] (fun a b wr => ∃ i j : Nat, i ≤ j ∧ j ≤ n ∧ a = .int .i64 (i : Int) ∧ b = .int .i64 (j : Int) ∧ Hid (∀ k, k < i → ltE (pix l k) x = true) ∧ Hid (∀ k, j ≤ k → k < n → ltE (pix l k) x = false) ∧ Bl W wr) (fun a b _ => (intOf b).toNat - (intOf a).toNat)
  case atStart => exact ⟨0, n, by omega, by omega, rfl, rfl, Lib.hid (fun k hk => by omega), Lib.hid (fun k h1 h2 => by omega), Bl.refl _⟩
  case round =>
    obtain ⟨i, j, hij, hj, rfl, rfl, hA, hZ, hbw⟩ := hrel
    obtain ⟨wo, rfl⟩ : ∃ wo : World, wo = wr := ⟨_, rfl⟩
    have hX := hX.bl hbw
    have hXl := hX.lt
    obtain ⟨u0, u1, u2, u3⟩ := bx4 hX
    by_cases hlt : i < j
    · have hli : (i : Int) < (j : Int) := by omega
      obtain ⟨m, hm⟩ : ∃ m : Nat, (i + j) / 2 = m := ⟨_, rfl⟩
      have hm1 : i ≤ m := by omega
      have hm2 : m < j := by omega
      have hmi0 : (0 : Int) ≤ (m : Int) := by omega
      have hmi1 : (m : Int) < (n : Int) := by omega
      have hm3 : ((i : Int) + (j : Int)) / 2 = (m : Int) := by omega
      have hm := Lib.hid hm; rename_i h_; clear h_
      obtain ⟨y0, y1, y2, y3⟩ := eds_lit (RdES.bl h (hbW.next hbw)) (show m < n by omega)
      go_wp2_with fail
      clear y0 y1 y2 y3 u0 u1 u2 u3
      by_cases hc : ltE (pix l m) x = true
      · have hd : decide (cmpE (pix l m) x < 0) = true := decide_eq_true (cmpE_lt.2 hc)
        have hA2 := Lib.hid (lowE hs.out (by rw [hl.out]; omega) hc)
        have hc := Lib.hid hc; rename_i h_; clear h_
        go_region_held3 (fun w' => (w'.cell? ⟨g, m * 4, none⟩ = some (.int .i64 (pix l m).a) ∧ w'.cell? ⟨g, m * 4 + 1, none⟩ = some (.int .i64 (pix l m).b) ∧ w'.cell? ⟨g, m * 4 + 2, none⟩ = some (.int .i64 (pix l m).l) ∧ w'.cell? ⟨g, m * 4 + 3, none⟩ = some (.int .i64 (pix l m).r)) ∧ (w'.cell? ⟨w.heap.size, 0, none⟩ = some (.int .i64 x.a) ∧ w'.cell? ⟨w.heap.size, 1, none⟩ = some (.int .i64 x.b) ∧ w'.cell? ⟨w.heap.size, 2, none⟩ = some (.int .i64 x.l) ∧ w'.cell? ⟨w.heap.size, 3, none⟩ = some (.int .i64 x.r))) (first | exact ⟨eds_lit (RdES.bl h ((hbW.next hbw).next slc)) (show m < n by omega), bx4 (T := 175) (hX.bl slc)⟩) ((go_at_call 168; (with_reducible refine (compareEdges_any _ (pix l m) x).mono ?_); rintro e w2 ⟨rfl, hb2⟩))
        have hb3 : Bl wo w2 := slc
        go_wp2_with fail
        go_roundw
        case rel => exact ⟨m + 1, j, by omega, hj, by go_num, rfl, hA2, hZ, hbw.next hb3⟩
        case measure => simp [intOf]; omega
      · have hd : decide (cmpE (pix l m) x < 0) = false := decide_eq_false (fun h => hc (cmpE_lt.1 h))
        have hZ2 := Lib.hid (fun k (h1 : m ≤ k) (h2 : k < n) => highE hs.out (Bool.eq_false_iff.2 hc) k h1 (by rw [hl.out]; exact h2))
        have hc := Lib.hid hc; rename_i h_; clear h_
        go_region_held3 (fun w' => (w'.cell? ⟨g, m * 4, none⟩ = some (.int .i64 (pix l m).a) ∧ w'.cell? ⟨g, m * 4 + 1, none⟩ = some (.int .i64 (pix l m).b) ∧ w'.cell? ⟨g, m * 4 + 2, none⟩ = some (.int .i64 (pix l m).l) ∧ w'.cell? ⟨g, m * 4 + 3, none⟩ = some (.int .i64 (pix l m).r)) ∧ (w'.cell? ⟨w.heap.size, 0, none⟩ = some (.int .i64 x.a) ∧ w'.cell? ⟨w.heap.size, 1, none⟩ = some (.int .i64 x.b) ∧ w'.cell? ⟨w.heap.size, 2, none⟩ = some (.int .i64 x.l) ∧ w'.cell? ⟨w.heap.size, 3, none⟩ = some (.int .i64 x.r))) (first | exact ⟨eds_lit (RdES.bl h ((hbW.next hbw).next slc)) (show m < n by omega), bx4 (T := 175) (hX.bl slc)⟩) ((go_at_call 168; (with_reducible refine (compareEdges_any _ (pix l m) x).mono ?_); rintro e w2 ⟨rfl, hb2⟩))
        have hb3 : Bl wo w2 := slc
        go_wp2_with fail
        go_roundw
        case rel => exact ⟨i, m, by omega, by omega, rfl, rfl, hA, hZ2, hbw.next hb3⟩
        case measure => simp [intOf]; omega
    · obtain rfl : i = j := by omega
      have hkm2 : ¬ (i : Int) < (i : Int) := by omega
      have hpos : i = posE x l := posE_of hs.out (by rw [hl.out]; exact hj) hA.out (fun k h1 h2 => hZ.out k h1 (by rw [hl.out] at h2; exact h2))
      by_cases hin : i < n
      · have hii : (i : Int) < (n : Int) := by omega
        have hfe : fndE x l = decide (cmpE (pix l i) x = 0) := by unfold fndE; rw [← hpos, hl.out, decide_eq_true hin, Bool.true_and]
        have hpos := Lib.hid hpos; rename_i h_; clear h_
        have hfe := Lib.hid hfe; rename_i h_; clear h_
        go_wp2_with fail
        clear u0 u1 u2 u3
        go_region_held3 (fun w' => (w'.cell? ⟨g, i * 4, none⟩ = some (.int .i64 (pix l i).a) ∧ w'.cell? ⟨g, i * 4 + 1, none⟩ = some (.int .i64 (pix l i).b) ∧ w'.cell? ⟨g, i * 4 + 2, none⟩ = some (.int .i64 (pix l i).l) ∧ w'.cell? ⟨g, i * 4 + 3, none⟩ = some (.int .i64 (pix l i).r)) ∧ (w'.cell? ⟨w.heap.size, 0, none⟩ = some (.int .i64 x.a) ∧ w'.cell? ⟨w.heap.size, 1, none⟩ = some (.int .i64 x.b) ∧ w'.cell? ⟨w.heap.size, 2, none⟩ = some (.int .i64 x.l) ∧ w'.cell? ⟨w.heap.size, 3, none⟩ = some (.int .i64 x.r))) (first | exact ⟨eds_lit (RdES.bl h ((hbW.next hbw).next slc)) (show i < n by omega), bx4 (T := 175) (hX.bl slc)⟩) ((go_at_call 168; (with_reducible refine (compareEdges_any _ (pix l i) x).mono ?_); rintro e w2 ⟨rfl, hb2⟩))
        have hb3 : Bl wo w2 := slc
        go_wp2_with fail
        go_ret2
        exact ⟨by rw [← hpos.out, hfe.out]; rfl, by exact slc⟩
      · have hii : ¬ (i : Int) < (n : Int) := by omega
        have hfe : fndE x l = false := by unfold fndE; rw [← hpos, hl.out, decide_eq_false hin, Bool.false_and]
        have hpos := Lib.hid hpos; rename_i h_; clear h_
        have hfe := Lib.hid hfe; rename_i h_; clear h_
        go_wp2_with fail
        go_quiet (fail)
        go_wp2_with fail
        go_ret2
        exact ⟨by rw [← hpos.out, hfe.out]; rfl, by exact slc⟩
end

section
open Go.RowKit

theorem run_copy_rowK {P : Program} (w : World) (dT sT ty elem : TypeId) (g o dLen dCap : Nat) (a : Addr) (sLen sCap : Nat) (cur : Array Value) (t : TypeId) (cs : List Value) (K k : Nat)
    (hu : P.underlying dT = some (.slice elem)) (hs : (P.info? elem).map (·.size) = some K) (hg : w.heap[g]? = some (.cells cur t (0, 0))) (hk : k = Nat.min sLen dLen) (hn : cs.length = k * K)
    (hsrc : ∀ j v, cs[j]? = some v → w.cell? (a.add j) = some v) (hfit : o + cs.length ≤ cur.size) (h1 : ∀ v ∈ cs, v.oneCell' = true) :
    (Builtin.copy_ #[dT, sT] ty #[.slice (some ⟨g, o, none⟩) dLen dCap, .slice (some a) sLen sCap]).run P w =
      .ok (goInt k) (w.setRow g (cur.toList.take o ++ cs ++ cur.toList.drop (o + cs.length)).toArray) := by
  have hl := run_loadCells_list (P := P) w a cs hsrc
  have hst := run_storeCells_at P g o t cs 0 cur w hg (by simpa using hfit) h1
  cases hq : P.info? elem with
  | none => simp [hq] at hs
  | some i =>
    have hi : i.size = K := by simpa [hq] using hs
    simp [Builtin.copy_, run_underlying hu, Builtin.lenOf, Builtin.firstCells, sizeOf, typeInfo, hq, hi, ← hk, ← hn, hl, hst]
theorem wp_copy_runE {P : Program} (w : World) {o : Oper} {a : Act} {K : Act → World → Prop} {Q : Exit → Act → World → Prop} (d s : Operand) (t t' : TypeId)
    (ho : o.op = .call { callee := .builtin .copy, args := #[d, s], argTypes := #[t, t'] }) (v u : Value) (hd : a.eval d = v) (hs : a.eval s = u) {v' : Value} {w' : World}
    (hr : (Builtin.copy_ #[t, t'] o.type #[v, u]).run P w = .ok v' w') (h : K (a.put o.dst v') w') : o.wp P a w K Q := by
  unfold Oper.wp execOp
  simp only [ho, resolve, invoke, builtin, Sem.run_bind, Sem.run_pure, Result.andThen_ok, List.map_toArray, List.map_cons, List.map_nil, hd, hs, hr]
  exact h
theorem wpList_copy_runE {P : Program} (w : World) {ops : Array Oper} {rest : List Oper} {o : Oper} {a : Act} {Q : Exit → Act → World → Prop} (hgd : o.guard = none) (d s : Operand) (t t' : TypeId)
    (ho : o.op = .call { callee := .builtin .copy, args := #[d, s], argTypes := #[t, t'] }) (v u : Value) (hd : a.eval d = v) (hs : a.eval s = u) {v' : Value} {w' : World}
    (hr : (Builtin.copy_ #[t, t'] o.type #[v, u]).run P w = .ok v' w') (h : wpList P ops Q rest (a.put o.dst v') w') : wpList P ops Q (o :: rest) a w :=
  wpList_plain hgd fun _ hK => wp_copy_runE w d s t t' ho v u hd hs hr (hK _ _ h)
theorem step_copy_runE {P : Program} {ops : Array Oper} {o : Oper} {a : Act} {w : World} {K : Act → World → Prop} {Q : Exit → Act → World → Prop} {E : Prop}
    (hg : o.guard = none) (d x : Operand) (dT sT : TypeId) (hop : o.op = Op.call { callee := Callee.builtin Builtin.copy, args := #[d, x], argTypes := #[dT, sT] })
    (v u : Value) (hd : a.eval d = v) (hx : a.eval x = u) {v' : Value} {w' : World} (hr : (Builtin.copy_ #[dT, sT] o.type #[v, u]).run P w = .ok v' w') (hK : K (a.put o.dst v') w') :
    if Region.wanted o (yielded ops a.tmps) = true then Oper.wp P o a w K Q else E := by
  have hw : Region.wanted o (yielded ops a.tmps) = true := by simp [Region.wanted, hg]
  rw [if_pos hw]
  unfold Oper.wp
  simp [execOp, hop, resolve, invoke, builtin, hd, hx, hr, Result.andThen]
  exact hK
def encE (e : EdD) : List Value := [.int .i64 e.a, .int .i64 e.b, .int .i64 e.l, .int .i64 e.r]
theorem info_edge : (Tryz.prog.info? 175).map (fun i => (i.zero, i.size, i.bytes)) = some (some (.agg #[.int .i64 0, .int .i64 0, .int .i64 0, .int .i64 0]), 4, 32) := by kernel_rfl
def OwEd (base : Nat) (w : World) (v : Value) (l : List EdD) : Prop := w.ownsRow base 175 4 v l.length (l.flatMap encE)
/-- What slices.Insert leaves of the world: other rows than v's own are as they were. -/
def InsW (base : Nat) (w : World) (v v' : Value) (w' : World) : Prop :=
  Below base w w' ∧ w.heap.size ≤ w'.heap.size ∧ (∀ g, g < w.heap.size → v.ownBlock ≠ Option.some g → w'.heap[g]? = w.heap[g]? ∧ v'.ownBlock ≠ Option.some g) ∧ v' ≠ .slice none 0 0
def InsRes (base : Nat) (w : World) (v : Value) (l : List EdD) (en : Ending) (w' : World) : Prop := ∃ v', en = .returned v' ∧ OwEd base w' v' l ∧ InsW base w v v' w'
theorem enc_one (e : EdD) : ∀ u ∈ encE e, u.oneCell' = true := by
  intro u hu
  simp [encE] at hu
  rcases hu with rfl | rfl | rfl | rfl <;> rfl
theorem insW_of {base n : Nat} {w w' : World} {v v' : Value} {xs : List Value} (hown : w.ownsRow base 175 4 v n xs) (hbase : base ≤ w.heap.size) (g2 : w.grownBy w' v.ownBlock) (h3 : v' ≠ .slice none 0 0) (g4 : v'.ownBlock = v.ownBlock ∨ v'.ownBlock = some w.heap.size) : InsW base w v v' w' := by
  refine ⟨Below.grown (Below.refl base w) g2 hbase (fun k e => (World.ownsRow.lt hown k e).1), g2.size, fun g hg hn => ⟨g2.block g hg (fun e => hn e.symm), fun e => ?_⟩, h3⟩
  rcases g4 with g4 | g4
  · exact hn (by rw [← g4]; exact e)
  · rw [g4] at e
    injection e with e
    omega
theorem owE_app {base n : Nat} {w : World} {v : Value} {l : List EdD} {e : EdD} (hn : l.length = n) (h : w.ownsRow base 175 4 v (n + 1) (l.flatMap encE ++ encE e)) : OwEd base w v (l ++ [e]) := by
  unfold OwEd
  rw [List.length_append, List.flatMap_append, hn]
  simpa using h
set_option maxRecDepth 100000 in
set_option maxHeartbeats 16000000 in
theorem Insert_end (w : World) {base b c gv : Nat} {l : List EdD} {e : EdD} (hown : OwEd base w (.slice (some ⟨b, 0, none⟩) l.length c) l) (hv : Blk w gv 175 #[.int .i64 e.a, .int .i64 e.b, .int .i64 e.l, .int .i64 e.r]) (hbase : base ≤ w.heap.size) (hlen : l.length ≤ 100000) :
    Calls Tryz.prog 169 #[.slice (some ⟨b, 0, none⟩) l.length c, .int .i64 (l.length : Int), .slice (some ⟨gv, 0, none⟩) 1 1] w (InsRes base w (.slice (some ⟨b, 0, none⟩) l.length c) (l ++ [e])) := by
  obtain ⟨i0, hi0, hz0, hz1, hz2⟩ := info_parts info_edge
  have hcap : l.length ≤ c := by
    rcases hown.2 with ⟨h, _⟩ | ⟨g, cap, cur, h, _, _, hn, _⟩
    · cases h
    · injection h with _ _ h; omega
  have hc63 : c ≤ 9223372036854775807 := by
    rcases hown.2 with ⟨h, _⟩ | ⟨g, cap, cur, h, _, _, hn, hm, _⟩
    · cases h
    · injection h with _ _ h; unfold maxLen at hm; omega
  obtain ⟨n, hn⟩ : ∃ n, l.length = n := ⟨_, rfl⟩
  have hn2 := Lib.hid hn
  rw [hn] at hown hlen hcap ⊢
  have hown : w.ownsRow base 175 4 (.slice (some ⟨b, 0, none⟩) n c) n (l.flatMap encE) := by have h := hown; unfold OwEd at h; rw [hn] at h; exact h
  clear hn
  have hci : (n : Int) ≤ (c : Int) := by omega
  by_cases hcn : c = n
  · obtain rfl : n = c := hcn.symm
    go_enter Tryz.func169, Tryz.ntmps169
    go_wp2_with (refine wpList_append_own_at _ rfl (.tmp 23) (.tmp 24) 74 rfl base 175 i0 _ 4 32 Tryz.underlying74 hi0 hz0 hz1 hz2 (by rfl) (by omega) _ n (l.flatMap encE) (by rfl) hown ⟨gv, 0, none⟩ 1 1 (encE e) (by rfl) rfl (World.news_of_block hv) (enc_one e) (by unfold maxLen; omega) (by omega) hbase ?_; intro v' w' g1 g2 g3 g4)
    go_ret
    exact ⟨v', rfl, owE_app hn2.out g1, insW_of hown hbase g2 (fun e => by have := (g3.1 e).2; omega) g4⟩
  · go_enter Tryz.func169, Tryz.ntmps169
    go_wp2_with (refine wpList_append_own_at _ rfl (.tmp 23) (.tmp 24) 74 rfl base 175 i0 _ 4 32 Tryz.underlying74 hi0 hz0 hz1 hz2 (by rfl) (by omega) _ n (l.flatMap encE) (by rfl) hown ⟨gv, 0, none⟩ 1 1 (encE e) (by rfl) rfl (World.news_of_block hv) (enc_one e) (by unfold maxLen; omega) (by omega) hbase ?_; intro v' w' g1 g2 g3 g4)
    go_ret
    exact ⟨v', rfl, owE_app hn2.out g1, insW_of hown hbase g2 (fun e => by have := (g3.1 e).2; omega) g4⟩
end

section
open Go.RowKit

theorem flat_take (l : List EdD) : ∀ i, (l.take i).flatMap encE = (l.flatMap encE).take (i * 4) := by
  induction l with
  | nil => intro i; simp
  | cons x xs ih =>
    intro i
    rcases i with _ | i
    · simp
    · rw [List.take_succ_cons, List.flatMap_cons, List.flatMap_cons, ih i]
      have h4 : (encE x).length = 4 := rfl
      rw [List.take_append, List.take_of_length_le (l := encE x) (by omega), h4, show (i + 1) * 4 - 4 = i * 4 by omega]
theorem flat_drop (l : List EdD) : ∀ i, (l.drop i).flatMap encE = (l.flatMap encE).drop (i * 4) := by
  induction l with
  | nil => intro i; simp
  | cons x xs ih =>
    intro i
    rcases i with _ | i
    · simp
    · rw [List.drop_succ_cons, List.flatMap_cons, ih i]
      have h4 : (encE x).length = 4 := rfl
      rw [List.drop_append, List.drop_of_length_le (l := encE x) (by omega), h4, show (i + 1) * 4 - 4 = i * 4 by omega, List.nil_append]
theorem flat_one (l : List EdD) : ∀ u ∈ l.flatMap encE, u.oneCell' = true := by
  intro u hu
  obtain ⟨x, _, hx⟩ := List.mem_flatMap.1 hu
  exact enc_one x u hx
theorem row_cell {w : World} {b : Nat} {cur : Array Value} {T : TypeId} {cs : List Value} {k : Nat} (hg : w.heap[b]? = some (.cells cur T (0, 0))) (ht : cur.toList.take k = cs) {j : Nat} {u : Value} (h : cs[j]? = some u) : w.cell? ⟨b, j, none⟩ = some u := by
  rw [cell_of_row w b j cur T (0, 0) hg]
  rw [← ht, List.getElem?_take] at h
  split at h
  · rw [← Array.getElem?_toList]; exact h
  · cases h
theorem setRow_get {w : World} {b : Nat} {cur cur' : Array Value} {T : TypeId} (hg : w.heap[b]? = some (.cells cur T (0, 0))) : (w.setRow b cur').heap[b]? = some (.cells cur' T (0, 0)) := setRow_heap w b _ _ T _ hg
theorem ins_list {cur cs vs : List Value} {i n c : Nat} (h1 : cur.length = c * 4) (h2 : cur.take (n * 4) = cs) (h3 : cs.length = n * 4) (hi : i < n) (hc : n + 1 ≤ c) (hv : vs.length = 4) :
    ((cur.take ((i + 1) * 4) ++ cs.drop (i * 4) ++ cur.drop ((i + 1) * 4 + (cs.drop (i * 4)).length)).take (i * 4) ++ vs ++ (cur.take ((i + 1) * 4) ++ cs.drop (i * 4) ++ cur.drop ((i + 1) * 4 + (cs.drop (i * 4)).length)).drop (i * 4 + vs.length)).take ((n + 1) * 4) = cs.take (i * 4) ++ (vs ++ cs.drop (i * 4)) := by
  have e1 : (cur.take ((i + 1) * 4) ++ cs.drop (i * 4) ++ cur.drop ((i + 1) * 4 + (cs.drop (i * 4)).length)).take (i * 4) = cs.take (i * 4) := by
    rw [List.append_assoc, List.take_append_of_le_length (by rw [List.length_take]; omega), List.take_take, ← h2, List.take_take]
    congr 1
    omega
  have e2 : (cur.take ((i + 1) * 4) ++ cs.drop (i * 4) ++ cur.drop ((i + 1) * 4 + (cs.drop (i * 4)).length)).drop (i * 4 + vs.length) = cs.drop (i * 4) ++ cur.drop ((i + 1) * 4 + (cs.drop (i * 4)).length) := by
    rw [List.append_assoc]
    have hl : (cur.take ((i + 1) * 4)).length = i * 4 + vs.length := by rw [List.length_take]; omega
    rw [← hl, List.drop_left]
  rw [e1, e2, List.append_assoc, ← List.append_assoc vs, ← List.append_assoc (cs.take (i * 4))]
  have hl : (cs.take (i * 4) ++ (vs ++ cs.drop (i * 4))).length = (n + 1) * 4 := by simp [h3, hv]; omega
  rw [← hl, List.take_left]
set_option maxRecDepth 100000 in
set_option maxHeartbeats 16000000 in
theorem Insert_room (w : World) {base b c gv i : Nat} {l : List EdD} {e : EdD} (hown : OwEd base w (.slice (some ⟨b, 0, none⟩) l.length c) l) (hv : Blk w gv 175 #[.int .i64 e.a, .int .i64 e.b, .int .i64 e.l, .int .i64 e.r]) (hne : gv ≠ b) (hlen : l.length ≤ 100000) (hi : i < l.length) (hroom : l.length + 1 ≤ c) :
    Calls Tryz.prog 169 #[.slice (some ⟨b, 0, none⟩) l.length c, .int .i64 (i : Int), .slice (some ⟨gv, 0, none⟩) 1 1] w (InsRes base w (.slice (some ⟨b, 0, none⟩) l.length c) (l.take i ++ e :: l.drop i)) := by
  have hsz4 : (Tryz.prog.info? 175).map (·.size) = some 4 := by
    obtain ⟨i0, hi0, hz0, hz1, hz2⟩ := info_parts info_edge
    rw [hi0]; simp [hz1]
  obtain ⟨hcl, ⟨h, _⟩ | ⟨g, cap, cur, h, hg, hh, hnc, hm, hcs, htk⟩⟩ := id hown
  · cases h
  injection h with q1 q2 q3
  injection q1 with q1
  injection q1 with q1
  subst q1 q3
  have hc63 : c ≤ 9223372036854775807 := by unfold maxLen at hm; omega
  obtain ⟨cs, hcse⟩ : ∃ cs, l.flatMap encE = cs := ⟨_, rfl⟩
  have hone := flat_one l
  have hft := flat_take l i
  have hfd := flat_drop l i
  have hbl := heap_lt hh
  rw [hcse] at hcl htk hone hft hfd
  obtain ⟨n, hn⟩ : ∃ n, l.length = n := ⟨_, rfl⟩
  have hn2 := Lib.hid hn
  rw [hn] at hlen hi hroom hcl hnc htk ⊢
  clear hn hown hcse
  have hdl : (cs.drop (i * 4)).length = (n - i) * 4 := by rw [List.length_drop, hcl]; omega
  have hov : ∀ lb cb, (callFunc 208 #[.slice (some ⟨gv, 0, none⟩) 1 1, .slice (some ⟨b, (i + 1) * 4, none⟩) lb cb]).run Tryz.prog w = .ok (.value (.bool false)) w := fun lb cb => by
    rw [run_callFunc_extern Tryz.func208 (by kernel_rfl) (by kernel_rfl) (by kernel_rfl) (e := Extern.SlicesOverlaps.overlaps #[74, 74] #[4]) (by kernel_rfl),
      Go.Lib.run_overlaps_apart w 74 4 175 Tryz.underlying74 4 Tryz.sizeOf175 ⟨gv, 0, none⟩ ⟨b, (i + 1) * 4, none⟩ 1 1 lb cb hne 175 175 4 (c * 4) (by rw [World.shape?, hv]; rfl) (by rw [World.shape?, hh]; show some (_, cur.size) = _; rw [hcs]) (by omega) (by rw [World.frozen?, hv]; rfl) (by rw [World.frozen?, hv]; rfl)]
    rfl
  have hcu1 : cur.toList.length = c * 4 := by simp [hcs]
  have hcp1 : ∀ ty dc sc, (Builtin.copy_ #[74, 74] ty #[.slice (some ⟨b, (i + 1) * 4, none⟩) (n - i) dc, .slice (some ⟨b, i * 4, none⟩) (n + 1 - i) sc]).run Tryz.prog w.drew = .ok (goInt ((n - i : Nat) : Int)) (w.drew.setRow b (cur.toList.take ((i + 1) * 4) ++ cs.drop (i * 4) ++ cur.toList.drop ((i + 1) * 4 + (cs.drop (i * 4)).length)).toArray) := fun ty dc sc =>
    run_copy_rowK w.drew _ _ ty 175 b ((i + 1) * 4) (n - i) dc ⟨b, i * 4, none⟩ (n + 1 - i) sc cur 175 (cs.drop (i * 4)) 4 (n - i) Tryz.underlying74 hsz4 hh (by simp only [Nat.min_def]; split <;> omega) hdl
      (fun j u hj => by rw [Addr.add_lit]; rw [List.getElem?_drop] at hj; exact row_cell (w := w.drew) hh htk hj) (by rw [hdl, hcs]; omega) (fun u hu => hone u (List.mem_of_mem_drop hu))
  have hb2 : ¬ (c = i + 1) := by omega
  have hb4 : ¬ (c = i) := by omega
  have hz2 : ¬ ((i : Int) = (n : Int)) := by omega
  have hb5 : (n : Int) + 1 ≤ (c : Int) := by omega
  have hii : (i : Int) < (n : Int) := by omega
  have hw1 : IntKind.i64.wrap ((i : Int) + 1) = (i : Int) + 1 := by rw [IntKind.wrap_i64]; omega
  have hb1 : (0 : Int) ≤ (i : Int) + 1 := by omega
  have hin : i ≤ n := by omega
  have mixed : Tryz.prog.follows Departure.mixedOrders = true := by kernel_rfl
  have htn : ((i : Int) + 1).toNat = i + 1 := by omega
  have hb3 : (i : Int) ≤ (n : Int) + 1 := by omega
  obtain ⟨cur1, hc1⟩ : ∃ cur1, (cur.toList.take ((i + 1) * 4) ++ cs.drop (i * 4) ++ cur.toList.drop ((i + 1) * 4 + (cs.drop (i * 4)).length)).toArray = cur1 := ⟨_, rfl⟩
  rw [hc1] at hcp1
  have hs1 : cur1.size = c * 4 := by rw [← hc1]; simp [hcu1, hdl]; omega
  have hh1 : (w.drew.setRow b cur1).heap[b]? = some (.cells cur1 175 (0, 0)) := setRow_get (w := w.drew) hh
  have hvv : ∀ j u, (encE e)[j]? = some u → (w.drew.setRow b cur1).cell? ⟨gv, 0 + j, none⟩ = some u := by
    intro j u hj
    have hv2 : Blk (w.drew.setRow b cur1) gv 175 #[.int .i64 e.a, .int .i64 e.b, .int .i64 e.l, .int .i64 e.r] := (setRow_other w.drew b gv cur1 hne).trans hv
    rw [Nat.zero_add, hv2.cell j, ← hj, ← Array.getElem?_toList]
    rfl
  obtain ⟨cur2, hc2⟩ : ∃ cur2, (cur1.toList.take (i * 4) ++ encE e ++ cur1.toList.drop (i * 4 + (encE e).length)).toArray = cur2 := ⟨_, rfl⟩
  have hcp2 : ∀ ty dc, (Builtin.copy_ #[74, 74] ty #[.slice (some ⟨b, i * 4, none⟩) (n + 1 - i) dc, .slice (some ⟨gv, 0, none⟩) 1 1]).run Tryz.prog (w.drew.setRow b cur1) = .ok (goInt ((1 : Nat) : Int)) ((w.drew.setRow b cur1).setRow b cur2) := fun ty dc => by
    rw [← hc2]
    exact run_copy_rowK (w.drew.setRow b cur1) _ _ ty 175 b (i * 4) (n + 1 - i) dc ⟨gv, 0, none⟩ 1 1 cur1 175 (encE e) 4 1 Tryz.underlying74 hsz4 hh1 (by simp only [Nat.min_def]; split <;> omega) rfl
      (fun j u hj => by rw [Addr.add_lit]; exact hvv j u hj) (by rw [hs1]; show i * 4 + 4 ≤ c * 4; omega) (enc_one e)
  have hc2h := Lib.hid hc2
  have hc1h := Lib.hid hc1
  clear hc1 hc2
  go_enter Tryz.func169, Tryz.ntmps169
  go_wp2_with (simp only [hov])
  clear hov
  go_region_law_o (refine step_copy_runE rfl _ _ 74 74 rfl _ _ (by simp [Act.eval, Act.put]) (by simp [Act.eval, Act.put]) (hcp1 _ _ _) ?_)
  go_wp2_with (at_builtin; refine wpList_copy_runE _ rfl _ _ 74 74 rfl _ _ rfl rfl (hcp2 _ _) ?_)
  go_ret
  have hc1 := hc1h.out
  have hc2 := hc2h.out
  have hv4 : (encE e).length = 4 := rfl
  have hlen2 : (l.take i ++ e :: l.drop i).length = n + 1 := by simp [hn2.out]; omega
  have hfl : (l.take i ++ e :: l.drop i).flatMap encE = cs.take (i * 4) ++ (encE e ++ cs.drop (i * 4)) := by rw [List.flatMap_append, List.flatMap_cons, hft, hfd]
  have hct : cur1.toList = cur.toList.take ((i + 1) * 4) ++ cs.drop (i * 4) ++ cur.toList.drop ((i + 1) * 4 + (cs.drop (i * 4)).length) := by rw [← hc1]
  have hh2 := setRow_get (cur' := cur2) hh1
  refine ⟨_, rfl, ?_, ?_, ?_, fun g hgs hn => ⟨?_, ?_⟩, fun e => by cases e⟩
  · unfold OwEd World.ownsRow
    rw [hlen2, hfl]
    refine ⟨?_, .inr ⟨b, c, _, rfl, hg, hh2, by omega, hm, ?_, ?_⟩⟩
    · simp [hcl]; omega
    · rw [← hc2]; simp [hs1]; omega
    · rw [← hc2, hct]
      exact ins_list hcu1 htk hcl hi hroom hv4
  · exact below_setRow (below_setRow (Below.drew (Below.refl base w)) hg _) hg _
  · simp [World.setRow]
  · have hgb : g ≠ b := fun e => hn (by rw [e]; rfl)
    rw [setRow_other _ _ _ _ hgb, setRow_other _ _ _ _ hgb]
    rfl
  · intro e
    exact hn e
end

end Go.Proofs.YtajlahjghapbkaaGreat
