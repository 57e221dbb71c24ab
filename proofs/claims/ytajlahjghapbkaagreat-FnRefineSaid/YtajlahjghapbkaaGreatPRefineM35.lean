/- Lemmas. -/
import Derived.Test.YtajlahjghapbkaaGreatRows
import Derived.Test.YtajlahjghapbkaaGreatPRefineM34
import Derived.Deep.Cut
import Derived.Deep.DeepCutAuto
import Derived.Test.YtajlahjghapbkaaGreatPRefineM32
namespace Go.Proofs.YtajlahjghapbkaaGreat
section
open Go.RowKit

def trV (t : TriD) : Value := .agg #[.int .i64 t.a, .int .i64 t.b, .int .i64 t.c, .int .i64 t.region, .int .i64 t.level]
set_option maxRecDepth 100000 in
set_option maxHeartbeats 32000000 in
theorem halves_any (w : World) (t : TriD) (m : Int) (h0 : -1000000 ≤ t.level) (h1 : t.level ≤ 1000000) :
    Calls Tryz.prog 220 #[.agg #[.int .i64 t.a, .int .i64 t.b, .int .i64 t.c, .int .i64 t.region, .int .i64 t.level], .int .i64 m] w fun e w' => e = .returned (.tuple #[trV (hvA t m), trV (hvB t m)]) ∧ Bl w w' := by
  go_enter Tryz.func220, Tryz.ntmps220
  go_upto_region 1 with (fail)
  refine wp_gen (fun W => Bl w W ∧ Blk W w.heap.size 73 #[.int .i64 t.a, .int .i64 t.b, .int .i64 t.c, .int .i64 t.region, .int .i64 t.level] ∧ Wk 5 73 (w.heap.size + 1) W ∧ Wk 5 73 (w.heap.size + 1 + 1) W) ⟨slc, bts, bts, bts⟩ ?_
  rintro W ⟨hbW, h2, h4, h5⟩
  have hz5 := h5.lt
  go_cut [6, 7] (fun s6 s7 wx => ∃ g6 g7 : Nat, s6 = .pointer (some ⟨g6, 0, none⟩) ∧ s7 = .pointer (some ⟨g7, 0, none⟩) ∧ Blk wx g6 73 #[.int .i64 t.a, .int .i64 t.b, .int .i64 t.c, .int .i64 t.region, .int .i64 t.level] ∧ Blk wx g7 73 #[.int .i64 t.a, .int .i64 t.b, .int .i64 t.c, .int .i64 t.region, .int .i64 t.level] ∧ g6 ≠ g7 ∧ W.heap.size ≤ g6 ∧ W.heap.size ≤ g7 ∧ Bl W wx)
  case first =>
    go_region_held3 (fun w' => (w'.cell? ⟨w.heap.size, 0, none⟩ = some (.int .i64 t.a) ∧ w'.cell? ⟨w.heap.size, 1, none⟩ = some (.int .i64 t.b) ∧ w'.cell? ⟨w.heap.size, 2, none⟩ = some (.int .i64 t.c) ∧ w'.cell? ⟨w.heap.size, 3, none⟩ = some (.int .i64 t.region) ∧ w'.cell? ⟨w.heap.size, 4, none⟩ = some (.int .i64 t.level))) (first | exact (bx5 (T := 73) (h2.bl slc))) (fail)
    · go_wp2_with fail
      go_meet
      exact ⟨W.heap.size, W.heap.size + 1, rfl, rfl, by exact bts, by exact bts, by omega, by omega, by omega, slc⟩
    · go_wp2_with fail
      go_meet
      exact ⟨W.heap.size + 1, W.heap.size, rfl, rfl, by exact bts, by exact bts, by omega, by omega, by omega, slc⟩
  case rest =>
    obtain ⟨g6, g7, rfl, rfl, q6, q7, h67, hg6, hg7, hb8⟩ := hcut
    obtain ⟨wp, rfl⟩ : ∃ wp : World, wp = wc := ⟨_, rfl⟩
    have h2 := h2.bl hb8
    have h4 := h4.bl hb8
    have h5 := h5.bl hb8
    have hbW := hbW.next hb8
    clear hb8
    obtain ⟨y0, y1, y2, y3, y4⟩ := bx5 h2
    obtain ⟨z0, z1, z2, z3, z4⟩ := bx5 q6
    have zf0 := q6.frozen 0
    have zf1 := q6.frozen 1
    have zf2 := q6.frozen 2
    have zf3 := q6.frozen 3
    have zf4 := q6.frozen 4
    go_upto_region 2 with (fail)
    go_cut [] (fun wx => (∃ cs, Blk wx g6 73 cs ∧ cs = #[.int .i64 m, .int .i64 t.a, .int .i64 t.b, .int .i64 t.region, .int .i64 (t.level + 1)]) ∧ Blk wx g7 73 #[.int .i64 t.a, .int .i64 t.b, .int .i64 t.c, .int .i64 t.region, .int .i64 t.level] ∧ Blk wx w.heap.size 73 #[.int .i64 t.a, .int .i64 t.b, .int .i64 t.c, .int .i64 t.region, .int .i64 t.level] ∧ Wk 5 73 (w.heap.size + 1) wx ∧ Wk 5 73 (w.heap.size + 1 + 1) wx ∧ Bl w wx)
    case first =>
      go_region
      all_goals go_wp2_with fail
      all_goals go_meet
      all_goals exact ⟨⟨_, Blk.set_ (Blk.set_ (Blk.set_ (Blk.set_ (q6.bl (by exact slc)) _ _) _ _) _ _) _ _, by simp⟩, by exact bts, by exact bts, by exact bts, by exact bts, slc⟩
    case rest =>
      obtain ⟨⟨cs, q6, rfl⟩, q7, h2, h4, h5, hbW⟩ := hcut
      obtain ⟨wp, rfl⟩ : ∃ wp : World, wp = wc := ⟨_, rfl⟩
      obtain ⟨y0, y1, y2, y3, y4⟩ := bx5 h2
      obtain ⟨z0, z1, z2, z3, z4⟩ := bx5 q7
      have zf0 := q7.frozen 0
      have zf1 := q7.frozen 1
      have zf2 := q7.frozen 2
      have zf3 := q7.frozen 3
      have zf4 := q7.frozen 4
      go_upto_region 3 with (fail)
      go_cut [] (fun wx => Blk wx g6 73 #[.int .i64 m, .int .i64 t.a, .int .i64 t.b, .int .i64 t.region, .int .i64 (t.level + 1)] ∧ (∃ cs, Blk wx g7 73 cs ∧ cs = #[.int .i64 m, .int .i64 t.c, .int .i64 t.a, .int .i64 t.region, .int .i64 (t.level + 1)]) ∧ Wk 5 73 (w.heap.size + 1) wx ∧ Wk 5 73 (w.heap.size + 1 + 1) wx ∧ Bl w wx)
      case first =>
        go_region
        all_goals go_wp2_with fail
        all_goals go_meet
        all_goals exact ⟨by exact bts, ⟨_, Blk.set_ (Blk.set_ (Blk.set_ (Blk.set_ (q7.bl (by exact slc)) _ _) _ _) _ _) _ _, by simp⟩, by exact bts, by exact bts, slc⟩
      case rest =>
        obtain ⟨q6, ⟨cs, q7, rfl⟩, h4, h5, hbW⟩ := hcut
        obtain ⟨wp, rfl⟩ : ∃ wp : World, wp = wc := ⟨_, rfl⟩
        obtain ⟨y0, y1, y2, y3, y4⟩ := bx5 q6
        obtain ⟨z0, z1, z2, z3, z4⟩ := bx5 q7
        obtain ⟨v0, x0⟩ := h4.val_ (i := 0) (by omega)
        obtain ⟨v1, x1⟩ := h4.val_ (i := 1) (by omega)
        obtain ⟨v2, x2⟩ := h4.val_ (i := 2) (by omega)
        obtain ⟨v3, x3⟩ := h4.val_ (i := 3) (by omega)
        obtain ⟨v4, x4⟩ := h4.val_ (i := 4) (by omega)
        obtain ⟨u0, r0⟩ := h5.val_ (i := 0) (by omega)
        obtain ⟨u1, r1⟩ := h5.val_ (i := 1) (by omega)
        obtain ⟨u2, r2⟩ := h5.val_ (i := 2) (by omega)
        obtain ⟨u3, r3⟩ := h5.val_ (i := 3) (by omega)
        obtain ⟨u4, r4⟩ := h5.val_ (i := 4) (by omega)
        obtain ⟨cs4, hB4, hc4⟩ := h4
        obtain ⟨cs5, hB5, hc5⟩ := h5
        have hf0 := hB4.frozen 0
        have hf1 := hB4.frozen 1
        have hf2 := hB4.frozen 2
        have hf3 := hB4.frozen 3
        have hf4 := hB4.frozen 4
        have kf0 := hB5.frozen 0
        have kf1 := hB5.frozen 1
        have kf2 := hB5.frozen 2
        have kf3 := hB5.frozen 3
        have kf4 := hB5.frozen 4
        go_upto_region 4 with (fail)
        go_region
        all_goals go_wp2_with fail
        all_goals exact bodyPost_ret (v := .tuple #[.agg #[.int .i64 m, .int .i64 t.a, .int .i64 t.b, .int .i64 t.region, .int .i64 (t.level + 1)], .agg #[.int .i64 m, .int .i64 t.c, .int .i64 t.a, .int .i64 t.region, .int .i64 (t.level + 1)]]) (by simp [results, Tryz.results220, go_sem, x0, x1, x2, x3, x4, r0, r1, r2, r3, r4]) rfl ⟨rfl, slc⟩
end

section
open Go.RowKit

theorem step_append_tris {W : World} {ops : Array Oper} {o : Oper} {a : Act} {K : Act → World → Prop} {Q : Exit → Act → World → Prop} {F : Prop} (hgd : o.guard = none) (s x : Operand)
    (ho : o.op = .call { callee := .builtin .append, args := #[s, x], argTypes := #[55, 55] }) (v : Value) (l : List TriD) (hs : a.eval s = v) {base : Nat} (hown : OwT base W v l) (hbase : base ≤ W.heap.size) (w0 : World) (hb : Bl w0 W) (h0 : w0.heap.size ≤ base)
    (g m c : Nat) (hx : a.eval x = .slice (some ⟨g, 0, none⟩) m c) (ys : List TriD) (hr : RdTS W (some ⟨g, 0, none⟩) m c ys) (hlen : l.length ≤ 1048576) (hm : m ≤ 1048576)
    (h : ∀ v' w', OwT base w' v' (l ++ ys) → (v' = .slice none 0 0 ↔ v = .slice none 0 0 ∧ m = 0) → Bl w0 w' → (W.heap.size ≤ w'.heap.size ∧ ∀ g, g < W.heap.size → v.ownBlock ≠ some g → w'.heap[g]? = W.heap[g]? ∧ v'.ownBlock ≠ some g) → K (a.put o.dst v') w') : if Region.wanted o (yielded ops a.tmps) = true then Oper.wp Tryz.prog o a W K Q else F := by
  have hw : Region.wanted o (yielded ops a.tmps) = true := by simp [Region.wanted, hgd]
  rw [if_pos hw]
  obtain ⟨i0, hi, hz0, hz1, hz2⟩ := info_parts info_tri'
  obtain ⟨v', w', hrun, g1, g2, g3, g4⟩ := run_append_own_at (P := Tryz.prog) W base 55 o.type 73 i0 _ 5 40 Tryz.underlying55 hi hz0 hz1 hz2 rfl (by omega) v l.length (l.flatMap encT) hown ⟨g, 0, none⟩ m c (ys.flatMap encT) (by rw [flatT_len, hr.len]) (by
    intro j u hu
    have hj : j < ys.length * 5 := by
      rcases Nat.lt_or_ge j (ys.length * 5) with h | h
      · exact h
      · rw [List.getElem?_eq_none (by rw [flatT_len]; exact h)] at hu; simp at hu
    have hl := hr.len
    have hk : j / 5 < ys.length := by omega
    have e : j = j / 5 * 5 + j % 5 := by omega
    rw [e, flatT_get ys hk (Nat.mod_lt _ (by omega))] at hu
    obtain ⟨c0, c1, c2, c3, c4⟩ := trs_lit hr (show j / 5 < m by omega)
    rw [Addr.add_lit, Nat.zero_add, e]
    have h5 : j % 5 < 5 := Nat.mod_lt _ (by omega)
    generalize j % 5 = q at hu h5 ⊢
    rcases (show q = 0 ∨ q = 1 ∨ q = 2 ∨ q = 3 ∨ q = 4 by omega) with rfl | rfl | rfl | rfl | rfl
    · exact c0.trans hu
    · exact c1.trans hu
    · exact c2.trans hu
    · exact c3.trans hu
    · exact c4.trans hu) (by
    intro u hu
    obtain ⟨t, _, ht⟩ := List.mem_flatMap.1 hu
    exact encT_one ht) (by simp only [maxLen]; omega) (by omega) hbase
  unfold Oper.wp execOp
  simp only [ho, resolve, invoke, builtin, Sem.run_bind, Sem.run_pure, Result.andThen_ok, List.map_toArray, List.map_cons, List.map_nil, hs, hx, hrun]
  have hws := g2.size
  refine h v' w' ?_ g3 (hb.grown g2 fun k hk => by have := (hown.blk hk).1; omega) ⟨hws, fun b hb1 hb2 => ⟨g2.block b hb1 (fun e => hb2 e.symm), fun e => ?_⟩⟩
  · unfold OwT
    rw [List.length_append, hr.len, List.flatMap_append]
    exact g1
  · rcases g4 with g4 | g4
    · rw [g4] at e; exact hb2 e
    · rw [g4] at e; injection e with e; omega
theorem OwT.one {base : Nat} (w : World) (t : TriD) (hb : base ≤ w.heap.size) : OwT base (w.alloc (.cells #[.int .i64 t.a, .int .i64 t.b, .int .i64 t.c, .int .i64 t.region, .int .i64 t.level] 73)) (.slice (some ⟨w.heap.size, 0, none⟩) 1 1) [t] :=
  ⟨rfl, .inr ⟨w.heap.size, 1, #[.int .i64 t.a, .int .i64 t.b, .int .i64 t.c, .int .i64 t.region, .int .i64 t.level], rfl, hb, heap_alloc_new w _, Nat.le_refl _, by unfold maxLen; omega, rfl, rfl⟩⟩
theorem OwT.low' {base b1 : Nat} {w : World} {v : Value} {l : List TriD} (h : OwT b1 w v l) (hb : base ≤ b1) : OwT base w v l := by
  refine ⟨h.1, ?_⟩
  rcases h.2 with h2 | ⟨g, cap, cur, hv, hg, r⟩
  · exact .inl h2
  · exact .inr ⟨g, cap, cur, hv, Nat.le_trans hb hg, r⟩
/-- What the function that tells midpoints has captured. -/
def MidAt (w : World) (g5 g8 : Nat) (L : List EdD) (md : List Int) : Prop := ∃ ge ne ce gm cm, w.cell? ⟨g5, 0, none⟩ = some (.slice (some ⟨ge, 0, none⟩) ne ce) ∧ w.cell? ⟨g8, 0, none⟩ = some (.slice (some ⟨gm, 0, none⟩) ne cm) ∧ g5 < w.heap.size ∧ g8 < w.heap.size ∧ RdES w (some ⟨ge, 0, none⟩) ne ce L ∧ RdI w (some ⟨gm, 0, none⟩) ne cm md ∧ ne ≤ 1048576
theorem MidAt.bl {w W : World} {g5 g8 : Nat} {L : List EdD} {md : List Int} (h : MidAt w g5 g8 L md) (hb : Bl w W) : MidAt W g5 g8 L md := by
  obtain ⟨ge, ne, ce, gm, cm, h1, h2, h3, h4, h5, h6, h7⟩ := h
  exact ⟨ge, ne, ce, gm, cm, (hb.cellOf (p := ⟨g5, 0, none⟩) h3).trans h1, (hb.cellOf (p := ⟨g8, 0, none⟩) h4).trans h2, Nat.lt_of_lt_of_le h3 hb.size, Nat.lt_of_lt_of_le h4 hb.size, h5.bl hb, h6.bl hb, h7⟩
set_option maxRecDepth 100000 in
set_option maxHeartbeats 16000000 in
theorem mid_any (w : World) {g5 g8 : Nat} {L : List EdD} {md : List Int} (h : MidAt w g5 g8 L md) (hs : SrtE L) (a b : Int) :
    Calls Tryz.prog 186 #[.int .i64 a, .int .i64 b, .pointer (some ⟨g5, 0, none⟩), .pointer (some ⟨g8, 0, none⟩)] w fun e w' => e = .returned (.int .i64 (midF L md a b)) ∧ Bl w w' := by
  obtain ⟨ge, ne, ce, gm, cm, x0, x1, hl5, hl8, hes, hmd, hnl⟩ := h
  have hs := Lib.hid hs; rename_i h_; clear h_
  by_cases hf : fndE (newE a b) L = true
  · obtain ⟨P, hP⟩ : ∃ P, posE (newE a b) L = P := ⟨_, rfl⟩
    have hPn : P < ne := by rw [← hP, ← hes.len]; exact fndE_lt hf
    have hPi : (P : Int) < (ne : Int) := by omega
    have hv := Lib.hid (show midF L md a b = ix md P by unfold midF; rw [if_pos hf, hP])
    have hf := Lib.hid hf; rename_i h_; clear h_
    have hP := Lib.hid hP; rename_i h_; clear h_
    go_enter Tryz.func186, Tryz.ntmps186
    go_wp2_with fail
    refine (edgeIndex_yes _ hes hs.out hnl a b hf.out).mono ?_
    rw [hP.out]
    rintro e w1 ⟨rfl, hb1⟩
    have x1 : w1.cell? ⟨g8, 0, none⟩ = some (.slice (some ⟨gm, 0, none⟩) ne cm) := (hb1.cellOf (p := ⟨g8, 0, none⟩) hl8).trans x1
    obtain ⟨_, ee, hlt, hc⟩ := (RdI.bl hmd hb1).cells P hPn
    cases ee
    rw [Addr.add_lit, Nat.zero_add] at hc
    have hP0 : (0 : Int) ≤ (P : Int) := by omega
    clear x0
    go_wp2_with fail
    go_ret
    rw [hv.out]
    exact ⟨rfl, hb1⟩
  · have hf := Bool.eq_false_iff.2 hf
    have hv := Lib.hid (show midF L md a b = -1 by unfold midF; rw [hf]; rfl)
    have hf := Lib.hid hf; rename_i h_; clear h_
    go_enter Tryz.func186, Tryz.ntmps186
    go_wp2_with fail
    refine (edgeIndex_no _ hes hs.out hnl a b hf.out).mono ?_
    rintro e w1 ⟨rfl, hb1⟩
    clear x0 x1
    go_wp2_with fail
    go_ret
    rw [hv.out]
    exact ⟨rfl, hb1⟩
/-- A row of triangles in memory of one's own. -/
def TrisOw (w : World) (l : List TriD) (e : Ending) (w' : World) : Prop := ∃ g c, e = .returned (.slice (some ⟨g, 0, none⟩) l.length c) ∧ OwT w.heap.size w' (.slice (some ⟨g, 0, none⟩) l.length c) l ∧ Bl w w'
theorem bsT_no {mid : Int → Int → Int} {d : Nat} {t : TriD} (h : mid t.b t.c < 0) : bsT mid d t = [t] := by
  rcases d with _ | d
  · rfl
  · unfold bsT; rw [if_pos h]
theorem bsT_yes {mid : Int → Int → Int} {d : Nat} {t : TriD} {x : Int} (e : mid t.b t.c = x) (h : ¬ x < 0) : bsT mid (d + 1) t = bsT mid d (hvA t x) ++ bsT mid d (hvB t x) := by
  conv => lhs; unfold bsT
  rw [e, if_neg h]
end

section
open Go.RowKit

set_option maxRecDepth 100000 in
set_option maxHeartbeats 32000000 in
theorem bisected_any {g5 g8 : Nat} {L : List EdD} {md : List Int} (hs : SrtE L) : ∀ (d : Nat), d ≤ 10 → ∀ (w : World) (t : TriD), MidAt w g5 g8 L md → (-1000 ≤ t.level ∧ t.level ≤ 1000 - d) →
    Calls Tryz.prog 187 #[.agg #[.int .i64 t.a, .int .i64 t.b, .int .i64 t.c, .int .i64 t.region, .int .i64 t.level], .func (.func 186) #[] #[.pointer (some ⟨g5, 0, none⟩), .pointer (some ⟨g8, 0, none⟩)], .int .i64 (d : Int)] w (TrisOw w (bsT (midF L md) d t)) := by
  intro d
  induction d with
  | zero =>
    intro hd w t hM hl
    have hv := Lib.hid (show bsT (midF L md) 0 t = [t] from rfl)
    have e0 : ((0 : Nat) : Int) = 0 := rfl
    rw [e0]
    clear e0
    go_enter Tryz.func187, Tryz.ntmps187
    go_wp2_with fail
    refine calls_gen (fun W => Bl w W ∧ Blk W w.heap.size 73 #[.int .i64 t.a, .int .i64 t.b, .int .i64 t.c, .int .i64 t.region, .int .i64 t.level]) ⟨slc, bts⟩ ?_
    rintro W ⟨hbw, h3⟩
    refine (mid_any _ (hM.bl hbw) hs t.b t.c).mono ?_
    rintro e w1 ⟨rfl, hb1⟩
    have h3 := h3.bl hb1
    have hbw := hbw.next hb1
    obtain ⟨x, hx⟩ : ∃ x, midF L md t.b t.c = x := ⟨_, rfl⟩
    rw [hx]
    clear hx hb1
    by_cases hx0 : x < 0
    · skip
      clear hM
      obtain ⟨y0, y1, y2, y3, y4⟩ := bx5 h3
      go_wp2_with fail
      go_ret
      rw [hv.out]
      exact ⟨w1.heap.size, 1, rfl, OwT.one w1 t hbw.size, slc⟩
    · skip
      clear hM
      obtain ⟨y0, y1, y2, y3, y4⟩ := bx5 h3
      go_wp2_with fail
      go_ret
      rw [hv.out]
      exact ⟨w1.heap.size, 1, rfl, OwT.one w1 t hbw.size, slc⟩
  | succ d ih =>
    intro hd w t hM hl
    have ih := ih (by omega)
    obtain ⟨mid, hmid⟩ : ∃ mid, midF L md = mid := ⟨_, rfl⟩
    rw [hmid] at ih ⊢
    have hmid := Lib.hid hmid; rename_i h_; clear h_
    have hd0 : ((d + 1 : Nat) : Int) ≠ 0 := by omega
    have hd1 : ((d + 1 : Nat) : Int) - 1 = (d : Int) := by omega
    obtain ⟨z, hz⟩ : ∃ z : Int, ((d + 1 : Nat) : Int) = z := ⟨_, rfl⟩
    rw [hz] at hd0 hd1 hl ⊢
    have hz2 : z ≤ 100 := by omega
    have hz3 : 0 < z := by omega
    clear hz
    go_enter Tryz.func187, Tryz.ntmps187
    go_wp2_with fail
    refine calls_gen (fun W => Bl w W ∧ Blk W w.heap.size 73 #[.int .i64 t.a, .int .i64 t.b, .int .i64 t.c, .int .i64 t.region, .int .i64 t.level]) ⟨slc, bts⟩ ?_
    rintro W ⟨hbw, h3⟩
    refine (mid_any _ (hM.bl hbw) hs t.b t.c).mono ?_
    rintro e w1 ⟨rfl, hb1⟩
    have h3 := h3.bl hb1
    have hM := hM.bl (hbw.next hb1)
    have hbw := hbw.next hb1
    obtain ⟨x, hx⟩ : ∃ x, midF L md t.b t.c = x := ⟨_, rfl⟩
    rw [hx]
    rw [hmid.out] at hx
    clear hb1
    by_cases hx0 : x < 0
    · have hv := Lib.hid (bsT_no (d := d + 1) (show mid t.b t.c < 0 by rw [hx]; exact hx0))
      clear hx
      clear hM
      obtain ⟨y0, y1, y2, y3, y4⟩ := bx5 h3
      go_wp2_with fail
      go_ret
      rw [hv.out]
      exact ⟨w1.heap.size, 1, rfl, OwT.one w1 t hbw.size, slc⟩
    · have hv := Lib.hid (bsT_yes (d := d) hx hx0)
      clear hx
      have hdx : decide (x < 0) = false := by simp; omega
      have hzb : (z == 0) = false := by simp; omega
      obtain ⟨y0, y1, y2, y3, y4⟩ := bx5 h3
      go_wp2_with fail
      clear hdx hzb
      refine (halves_any _ t x (by omega) (by omega)).mono ?_
      rintro e w3 ⟨rfl, hb3⟩
      have hM := hM.bl hb3
      have hbw := hbw.next hb3
      clear y0 y1 y2 y3 y4 h3 hb3
      obtain ⟨tA, htA⟩ : ∃ tA, hvA t x = tA := ⟨_, rfl⟩
      obtain ⟨tB, htB⟩ : ∃ tB, hvB t x = tB := ⟨_, rfl⟩
      have hlA : -1000 ≤ tA.level ∧ tA.level ≤ 1000 - (d : Int) := by rw [← htA]; exact (show -1000 ≤ t.level + 1 ∧ t.level + 1 ≤ 1000 - (d : Int) by omega)
      have hlB : -1000 ≤ tB.level ∧ tB.level ≤ 1000 - (d : Int) := by rw [← htB]; exact (show -1000 ≤ t.level + 1 ∧ t.level + 1 ≤ 1000 - (d : Int) by omega)
      rw [htA, htB] at hv ⊢
      clear htA htB
      unfold trV
      go_upto_region 5 with (fail)
      refine wp_gen (fun W2 => Bl w3 W2 ∧ ∃ g8 g9, Blk W2 g8 73 #[.int .i64 tA.a, .int .i64 tA.b, .int .i64 tA.c, .int .i64 tA.region, .int .i64 tA.level] ∧ Blk W2 g9 73 #[.int .i64 tB.a, .int .i64 tB.b, .int .i64 tB.c, .int .i64 tB.region, .int .i64 tB.level] ∧ g8 < W2.heap.size ∧ g9 < W2.heap.size ∧ g8 = w3.heap.size ∧ g9 = w3.heap.size + 1) ⟨by exact slc, _, _, by exact bts, by exact bts, by simp; omega, by simp, rfl, rfl⟩ ?_
      rintro W2 ⟨hb2, g8', g9, q8, q9, hl8, hl9, hg8, hg9⟩
      rw [← hg9, ← hg8]
      have hM := hM.bl hb2
      have hbw := hbw.next hb2
      have hsA := bsT_len mid d tA
      have hsB := bsT_len mid d tB
      have hp : 2 ^ d ≤ 1024 := Nat.pow_le_pow_right (by omega) (show d ≤ 10 by omega)
      have hwd : IntKind.i64.wrap (d : Int) = (d : Int) := IntWalk.i64_in _ (by omega)
      clear hg8 hg9 hb2
      have hHeld : (fun w' => (w'.cell? ⟨g8', 0, none⟩ = some (.int .i64 tA.a) ∧ w'.cell? ⟨g8', 1, none⟩ = some (.int .i64 tA.b) ∧ w'.cell? ⟨g8', 2, none⟩ = some (.int .i64 tA.c) ∧ w'.cell? ⟨g8', 3, none⟩ = some (.int .i64 tA.region) ∧ w'.cell? ⟨g8', 4, none⟩ = some (.int .i64 tA.level)) ∧ (w'.cell? ⟨g9, 0, none⟩ = some (.int .i64 tB.a) ∧ w'.cell? ⟨g9, 1, none⟩ = some (.int .i64 tB.b) ∧ w'.cell? ⟨g9, 2, none⟩ = some (.int .i64 tB.c) ∧ w'.cell? ⟨g9, 3, none⟩ = some (.int .i64 tB.region) ∧ w'.cell? ⟨g9, 4, none⟩ = some (.int .i64 tB.level))) (W2.drew) := ⟨bx5 (T := 73) (q8.bl slc), bx5 (T := 73) (q9.bl slc)⟩
      refine wp_region_T 11 12 (fun w' => (w'.cell? ⟨g8', 0, none⟩ = some (.int .i64 tA.a) ∧ w'.cell? ⟨g8', 1, none⟩ = some (.int .i64 tA.b) ∧ w'.cell? ⟨g8', 2, none⟩ = some (.int .i64 tA.c) ∧ w'.cell? ⟨g8', 3, none⟩ = some (.int .i64 tA.region) ∧ w'.cell? ⟨g8', 4, none⟩ = some (.int .i64 tA.level)) ∧ (w'.cell? ⟨g9, 0, none⟩ = some (.int .i64 tB.a) ∧ w'.cell? ⟨g9, 1, none⟩ = some (.int .i64 tB.b) ∧ w'.cell? ⟨g9, 2, none⟩ = some (.int .i64 tB.c) ∧ w'.cell? ⟨g9, 3, none⟩ = some (.int .i64 tB.region) ∧ w'.cell? ⟨g9, 4, none⟩ = some (.int .i64 tB.level))) rfl (by kernel_rfl) hHeld ?_
      refine wpAnyT_take (i := 0) (oi := _) (v := ?_) (fuel := 11) rfl (by kernel_rfl) (by kernel_rfl) (by kernel_rfl) (by kernel_rfl) (fun _ _ _ h => h) (by rfl) ?_ hHeld ?_
      rotate_left 1
      · (intro w' hSw; (try dsimp only at hSw); go_simp <;> with_reducible rfl)
      refine wpAnyT_take (i := 1) (oi := _) (v := ?_) (fuel := 10) rfl (by kernel_rfl) (by kernel_rfl) (by kernel_rfl) (by kernel_rfl) (fun _ _ _ h => h) (by rfl) ?_ hHeld ?_
      rotate_left 1
      · (intro w' hSw; (try dsimp only at hSw); go_simp <;> with_reducible rfl)
      refine wpAnyT_take (i := 2) (oi := _) (v := ?_) (fuel := 9) rfl (by kernel_rfl) (by kernel_rfl) (by kernel_rfl) (by kernel_rfl) (fun _ _ _ h => h) (by rfl) ?_ hHeld ?_
      rotate_left 1
      · (intro w' hSw; (try dsimp only at hSw); go_simp <;> with_reducible rfl)
      refine wpAnyT_take (i := 3) (oi := _) (v := ?_) (fuel := 8) rfl (by kernel_rfl) (by kernel_rfl) (by kernel_rfl) (by kernel_rfl) (fun _ _ _ h => h) (by rfl) ?_ hHeld ?_
      rotate_left 1
      · (intro w' hSw; (try dsimp only at hSw); go_simp <;> with_reducible rfl)
      refine wpAnyT_take (i := 5) (oi := _) (v := ?_) (fuel := 7) rfl (by kernel_rfl) (by kernel_rfl) (by kernel_rfl) (by kernel_rfl) (fun _ _ _ h => h) (by rfl) ?_ hHeld ?_
      rotate_left 1
      · (intro w' hSw; (try dsimp only at hSw); go_simp <;> with_reducible rfl)
      refine wpAnyT_take (i := 6) (oi := _) (v := ?_) (fuel := 6) rfl (by kernel_rfl) (by kernel_rfl) (by kernel_rfl) (by kernel_rfl) (fun _ _ _ h => h) (by rfl) ?_ hHeld ?_
      rotate_left 1
      · (intro w' hSw; (try dsimp only at hSw); go_simp <;> with_reducible rfl)
      refine wpAnyT_take (i := 7) (oi := _) (v := ?_) (fuel := 5) rfl (by kernel_rfl) (by kernel_rfl) (by kernel_rfl) (by kernel_rfl) (fun _ _ _ h => h) (by rfl) ?_ hHeld ?_
      rotate_left 1
      · (intro w' hSw; (try dsimp only at hSw); go_simp <;> with_reducible rfl)
      refine wpAnyT_take (i := 8) (oi := _) (v := ?_) (fuel := 4) rfl (by kernel_rfl) (by kernel_rfl) (by kernel_rfl) (by kernel_rfl) (fun _ _ _ h => h) (by rfl) ?_ hHeld ?_
      rotate_left 1
      · (intro w' hSw; (try dsimp only at hSw); go_simp <;> with_reducible rfl)
      clear hHeld
      simp only [Act.put, List.setIfInBounds_toArray]
      refine wpAnyT_step (i := 4) (o := _) (fuel := 3) rfl (by kernel_rfl) (fun K hK => ?_)
      go_simp
      refine (ih _ tA (hM.bl slc) hlA).mono ?_
      rintro e wA ⟨gA, cA, rfl, hA, hbA⟩
      have hbA : Bl W2 wA := (show Bl W2 W2.drew from slc).next hbA
      refine hK.out _ _ (fun _ => ⟨bx5 (T := 73) (q8.bl slc), bx5 (T := 73) (q9.bl slc)⟩) ?_
      clear hK K
      try simp only [Act.put, List.setIfInBounds_toArray, List.set_cons_zero, List.set_cons_succ]
      refine wpAnyT_step (i := 9) (o := _) (fuel := 2) rfl (by kernel_rfl) (fun K hK => ?_)
      go_simp
      refine (ih _ tB (hM.bl slc) hlB).mono ?_
      rintro e wB ⟨gB, cB, rfl, hB, hbB⟩
      have hbB : Bl W2 wB := hbA.next hbB
      have hA := hA.bl (show Bl wA wB from slc)
      obtain ⟨gB', cB', eB, _, hrB, _, _⟩ := hB.lit (fun e => by cases e)
      cases eB
      have hzA : W2.heap.size ≤ wB.heap.size := hbB.size
      have hbW := hbw.next hbB
      refine hK.out _ _ (fun _ => ⟨bx5 (T := 73) (q8.bl slc), bx5 (T := 73) (q9.bl slc)⟩) ?_
      clear hK K
      try simp only [Act.put, List.setIfInBounds_toArray, List.set_cons_zero, List.set_cons_succ]
      refine wpAnyT_step (i := 10) (o := _) (fuel := 1) rfl (by kernel_rfl) (fun K hK => ?_)
      refine step_append_tris rfl (.tmp 34) (.tmp 39) rfl _ (bsT mid d tA) (by rfl) hA hzA w hbW (by exact hbw.size) gB _ cB (by rfl) (bsT mid d tB) hrB (by omega) (by omega) ?_
      intro v' w8 hO hnil hb8' hoth
      have hvn : v' ≠ .slice none 0 0 := fun e => by have := (hnil.1 e).1; cases this
      obtain ⟨g', c', rfl, hg', _, _, _⟩ := hO.lit hvn
      have hq8 := q8.bl hbB
      have hq9 := q9.bl hbB
      have q8 : Blk w8 g8' 73 _ := ((hoth.2 g8' hq8.lt (fun e => by have h1 : W2.heap.size ≤ _ := (hA.blk e).1; omega)).1).trans hq8
      have q9 : Blk w8 g9 73 _ := ((hoth.2 g9 hq9.lt (fun e => by have h1 : W2.heap.size ≤ _ := (hA.blk e).1; omega)).1).trans hq9
      refine hK.out _ _ (fun _ => ⟨bx5 (T := 73) (q8.bl slc), bx5 (T := 73) (q9.bl slc)⟩) ?_
      clear hK K
      try simp only [Act.put, List.setIfInBounds_toArray]
      refine wpAnyT_step (i := 11) (o := _) (fuel := 0) rfl (by kernel_rfl) (fun K hK => ?_)
      go_simp
      refine hK.out _ _ (fun h => absurd rfl h) ?_
      clear hK K
      try simp only [Act.put, List.setIfInBounds_toArray]
      refine wpAnyT_done (by kernel_rfl) ?_
      go_wp2_with fail
      go_ret
      rw [hv.out]
      refine ⟨g', c', ?_, hO.low' hbw.size, hb8'⟩
      rw [List.length_append]
      rfl
end

end Go.Proofs.YtajlahjghapbkaaGreat
