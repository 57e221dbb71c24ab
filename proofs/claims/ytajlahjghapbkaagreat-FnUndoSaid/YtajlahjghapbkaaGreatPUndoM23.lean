/- Lemmas. -/
import Derived.Test.YtajlahjghapbkaaGreatRows
import Derived.Test.YtajlahjghapbkaaGreatPUndoM03
import Derived.Test.YtajlahjghapbkaaGreatPUndoM10
import Derived.Test.YtajlahjghapbkaaGreatPUndoM22
import Derived.Test.YtajlahjghapbkaaGreatPUndoM21
import Derived.Test.YtajlahjghapbkaaGreatPUndoM17
import Derived.Test.YtajlahjghapbkaaGreatPUndoM16
namespace Go.Proofs.YtajlahjghapbkaaGreat
section
open Go.RowKit

def encT (t : TriD) : List Value := [.int .i64 t.a, .int .i64 t.b, .int .i64 t.c, .int .i64 t.region, .int .i64 t.level]
theorem flatT_len : ∀ (l : List TriD), (l.flatMap encT).length = l.length * 5
  | [] => rfl
  | x :: xs => by
    have h5 : (encT x).length = 5 := rfl
    rw [List.flatMap_cons, List.length_append, flatT_len xs, h5, List.length_cons]
    omega
theorem flatT_get : ∀ (l : List TriD) {k j : Nat}, k < l.length → j < 5 → (l.flatMap encT)[k * 5 + j]? = (encT (pix l k))[j]?
  | [], k, j, hk, _ => by simp at hk
  | x :: xs, k, j, hk, hj => by
    have h4 : (encT x).length = 5 := rfl
    rw [List.flatMap_cons]
    rcases k with _ | k
    · rw [List.getElem?_append_left (by omega), pix_zero]
      congr 1
      omega
    · rw [List.getElem?_append_right (by omega), h4, pix_succ, show (k + 1) * 5 + j - 5 = k * 5 + j by omega]
      exact flatT_get xs (by simpa using hk) hj
theorem encT_one {t : TriD} {u : Value} (h : u ∈ encT t) : u.oneCell' = true := by
  unfold encT at h
  simp at h
  rcases h with rfl | rfl | rfl | rfl | rfl <;> rfl
/-- A row of triangles in memory of one's own. -/
def OwT (base : Nat) (w : World) (v : Value) (l : List TriD) : Prop := w.ownsRow base 73 5 v l.length (l.flatMap encT)
section
variable {base : Nat} {w W : World} {v : Value} {l : List TriD}
theorem OwT.empty (w : World) (hb : base ≤ w.heap.size) : OwT base (w.alloc (.cells #[] 73)) (.slice (some ⟨w.heap.size, 0, none⟩) 0 0) [] := World.ownsRow_made w #[] 0 hb (Nat.zero_le _) (by simp)
theorem OwT.keep (h : OwT base w v l) (h1 : ∀ g, v.ownBlock = Option.some g → W.heap[g]? = w.heap[g]?) : OwT base W v l := by
  refine ⟨h.1, ?_⟩
  rcases h.2 with h2 | ⟨g, cap, cur, hv, hg, hh, r⟩
  · exact .inl h2
  · exact .inr ⟨g, cap, cur, hv, hg, (h1 g (by rw [hv]; rfl)).trans hh, r⟩
theorem OwT.blk (h : OwT base w v l) {g : Nat} (hg : v.ownBlock = Option.some g) : base ≤ g ∧ g < w.heap.size := World.ownsRow.lt h g hg
theorem OwT.bl (h : OwT base w v l) (hb : Bl w W) : OwT base W v l := h.keep fun g e => Below.block hb g (h.blk e).2
/-- The row, opened. -/
theorem OwT.lit (h : OwT base w v l) (hnil : v ≠ .slice none 0 0) : ∃ g c, v = .slice (some ⟨g, 0, none⟩) l.length c ∧ base ≤ g ∧ RdTS w (some ⟨g, 0, none⟩) l.length c l ∧ g < w.heap.size ∧ (∀ o, w.frozen? ⟨g, o, none⟩ = false) := by
  obtain ⟨hcl, ⟨h, _⟩ | ⟨g, cap, cur, rfl, hg, hh, hnc, hm, hcs, htk⟩⟩ := id h
  · exact absurd h hnil
  have hc : ∀ k j u, k < l.length → j < 5 → (encT (pix l k))[j]? = some u → w.cell? ⟨g, k * 5 + j, none⟩ = some u := fun k j u hk hj hu => row_cell hh htk (by rw [flatT_get l hk hj]; exact hu)
  refine ⟨g, cap, rfl, hg, ⟨rfl, hnc, by unfold maxLen at hm; omega, fun k hk => ⟨_, rfl, heap_lt hh, ?_⟩⟩, heap_lt hh, fun o => by simp [World.frozen?, hh]⟩
  rw [Addr.add_lit, Nat.zero_add]
  exact ⟨hc k 0 _ hk (by omega) rfl, hc k 1 _ hk (by omega) rfl, hc k 2 _ hk (by omega) rfl, hc k 3 _ hk (by omega) rfl, hc k 4 _ hk (by omega) rfl⟩
end

theorem wpList_append_tris {w0 W : World} {ops : Array Oper} {rest : List Oper} {o : Oper} {a : Act} {Q : Exit → Act → World → Prop} (hgd : o.guard = none) (s x : Operand)
    (ho : o.op = .call { callee := .builtin .append, args := #[s, x], argTypes := #[55, 55] }) (v : Value) (l : List TriD) (hs : a.eval s = v) (hown : OwT w0.heap.size W v l) (hnil : v ≠ .slice none 0 0) (hb : Bl w0 W)
    (g m c : Nat) (hx : a.eval x = .slice (some ⟨g, 0, none⟩) m c) (ys : List TriD) (hr : RdTS W (some ⟨g, 0, none⟩) m c ys) (hlen : l.length ≤ 1048576) (hm : m ≤ 1048576)
    (h : ∀ v' w', OwT w0.heap.size w' v' (l ++ ys) → v' ≠ .slice none 0 0 → Bl w0 w' → wpList Tryz.prog ops Q rest (a.put o.dst v') w') : wpList Tryz.prog ops Q (o :: rest) a W := by
  obtain ⟨i0, hi, hz0, hz1, hz2⟩ := info_parts info_tri'
  refine wpList_append_own _ hgd s x 55 ho w0.heap.size 73 i0 _ 5 40 Tryz.underlying55 hi hz0 hz1 hz2 rfl (by omega) v l.length (l.flatMap encT) hs hown ⟨g, 0, none⟩ m c (ys.flatMap encT) hx (by rw [flatT_len, hr.len]) ?_ ?_ (by simp only [maxLen]; omega) (by omega) hb.size ?_
  · intro j u hu
    have hj : j < ys.length * 5 := by
      rcases Nat.lt_or_ge j (ys.length * 5) with h | h
      · exact h
      · rw [List.getElem?_eq_none (by rw [flatT_len]; exact h)] at hu; simp at hu
    have hl := hr.len
    have hk : j / 5 < ys.length := by omega
    have e : j = j / 5 * 5 + j % 5 := by omega
    rw [e, flatT_get ys hk (Nat.mod_lt _ (by omega))] at hu
    obtain ⟨c0, c1, c2, c3, c4⟩ := trs_lit hr (show j / 5 < m by omega)
    rw [Addr.add_lit, Nat.zero_add, e]
    have h5 : j % 5 < 5 := Nat.mod_lt _ (by omega)
    generalize j % 5 = q at hu h5 ⊢
    rcases (show q = 0 ∨ q = 1 ∨ q = 2 ∨ q = 3 ∨ q = 4 by omega) with rfl | rfl | rfl | rfl | rfl
    · exact c0.trans hu
    · exact c1.trans hu
    · exact c2.trans hu
    · exact c3.trans hu
    · exact c4.trans hu
  · intro u hu
    obtain ⟨t, _, ht⟩ := List.mem_flatMap.1 hu
    exact encT_one ht
  · intro v' w' h1 h2 h3
    refine h v' w' ?_ (fun e => hnil (h3.1 e).1) (hb.grown h2 fun k hk => (hown.blk hk).1)
    unfold OwT
    rw [List.length_append, hr.len, List.flatMap_append]
    exact h1
set_option maxHeartbeats 1600000 in
theorem CloneTri_any (w : World) {g n c : Nat} {l : List TriD} (h : RdTS w (some ⟨g, 0, none⟩) n c l) (hn : n ≤ 1048576) :
    Calls Tryz.prog 160 #[.slice (some ⟨g, 0, none⟩) n c] w fun e w' => ∃ g' c', e = .returned (.slice (some ⟨g', 0, none⟩) n c') ∧ OwT w.heap.size w' (.slice (some ⟨g', 0, none⟩) n c') l ∧ Bl w w' := by
  have he : ∀ W a n c, (binOp .eql 55 (.slice a n c) (.slice none 0 0)).run Tryz.prog W = .ok (.bool a.isNone) W := fun W a n c => Lib.run_eql_slice_nil W 55 73 a n c 0 0 Tryz.underlying55
  have hl := Lib.hid h.len
  go_enter Tryz.func160, Tryz.ntmps160
  go_wp2_with (at_builtin; go_must (refine wpList_append_tris (w0 := w) rfl (.tmp 5) (.tmp 6) rfl _ [] rfl (OwT.empty w (Nat.le_refl _)) (fun e => by cases e) ((Bl.refl w).alloc _) g n c rfl l (RdTS.bl h ((Bl.refl w).alloc _)) (by simp) (by omega) ?_); intro v' w1 hown1 hnil1 hbw1)
  rw [List.nil_append] at hown1
  obtain ⟨g', c', hv, _, _, _, _⟩ := hown1.lit hnil1
  rw [hl.out] at hv
  subst hv
  go_ret
  exact ⟨g', c', rfl, hown1, hbw1⟩
end

section
open Go.RowKit

theorem pts_lit {w : World} {g n c : Nat} {l : List PtD} (h : RdPS w (some ⟨g, 0, none⟩) n c l) {k : Nat} (hk : k < n) : PtAt w ⟨g, k * 6, none⟩ (pix l k) := by
  obtain ⟨_, e, _, hc⟩ := h.cells k hk
  cases e
  rw [Addr.add_lit, Nat.zero_add] at hc
  exact hc
/-- Points that are valid and different. -/
def PtsOk (l : List PtD) : Prop := ∀ k, k < l.length → OkP (pix l k) ∧ ∀ j, j < k → eqP (pix l k) (pix l j) = false

set_option maxRecDepth 100000 in
set_option maxHeartbeats 16000000 in
theorem arePointsF_any (w : World) {s1 : Bool} {A1 : Option Addr} {n1 c1 : Nat} {B1 : Option Addr} {m1 d1 : Nat} {t1 : Bool} {C1 : Option Addr} {i1 e1 : Nat} {D1 : Option Addr} {j1 f1 : Nat} {q : PtD} {gb : Nat} (qb : Blk w gb 31 #[.bool s1, .slice A1 n1 c1, .slice B1 m1 d1, .bool t1, .slice C1 i1 e1, .slice D1 j1 f1]) (hx1 : RdR w s1 A1 n1 c1 B1 m1 d1 q.x) (hy1 : RdR w t1 C1 i1 e1 D1 j1 f1 q.y) {s2 : Bool} {A2 : Option Addr} {n2 c2 : Nat} {B2 : Option Addr} {m2 d2 : Nat} {t2 : Bool} {C2 : Option Addr} {i2 e2 : Nat} {D2 : Option Addr} {j2 f2 : Nat} {p : PtD} (hx : RdR w s2 A2 n2 c2 B2 m2 d2 p.x) (hy : RdR w t2 C2 i2 e2 D2 j2 f2 p.y) :
    Calls Tryz.prog 162 #[.agg #[.bool s2, .slice A2 n2 c2, .slice B2 m2 d2, .bool t2, .slice C2 i2 e2, .slice D2 j2 f2], .pointer (some ⟨gb, 0, none⟩)] w fun en w' => en = .returned (.bool (eqP q p)) ∧ Bl w w' := by
  go_enter Tryz.func162, Tryz.ntmps162
  have eb := qb.alloc (.cells #[.bool s2, .slice A2 n2 c2, .slice B2 m2 d2, .bool t2, .slice C2 i2 e2, .slice D2 j2 f2] 31)
  obtain ⟨j0, j1, j2, j3, j4, j5⟩ := bx6 eb
  go_wp2_with fail
  refine (SamePoint_any _ (hx1.bl slc) (hy1.bl slc) (hx.bl slc) (hy.bl slc)).mono ?_
  rintro e w1 ⟨rfl, hb1⟩
  go_wp2_with fail
  go_ret
  exact ⟨rfl, slc⟩
def NoEq (q : PtD) (l : List PtD) : Prop := ∀ k, k < l.length → eqP q (pix l k) = false
set_option maxRecDepth 100000 in
set_option maxHeartbeats 4000000 in
theorem IndexEq_no (w : World) {s1 : Bool} {A1 : Option Addr} {n1 c1 : Nat} {B1 : Option Addr} {m1 d1 : Nat} {t1 : Bool} {C1 : Option Addr} {i1 e1 : Nat} {D1 : Option Addr} {j1 f1 : Nat} {q : PtD} {gb : Nat} (qb : Blk w gb 31 #[.bool s1, .slice A1 n1 c1, .slice B1 m1 d1, .bool t1, .slice C1 i1 e1, .slice D1 j1 f1]) (hx1 : RdR w s1 A1 n1 c1 B1 m1 d1 q.x) (hy1 : RdR w t1 C1 i1 e1 D1 j1 f1 q.y) {g9 n9 c9 : Nat} {l : List PtD} (hl9 : RdPS w (some ⟨g9, 0, none⟩) n9 c9 l) (hno : NoEq q l) :
    Calls Tryz.prog 150 #[.slice (some ⟨g9, 0, none⟩) n9 c9, .func (.func 162) #[] #[.pointer (some ⟨gb, 0, none⟩)]] w fun e w' => e = .returned (.int .i64 (-1)) ∧ Bl w w' := by
  have hn := hl9.small
  have hl := Lib.hid hl9.len
  have hno := Lib.hid hno; rename_i h_; clear h_
  go_enter Tryz.func150, Tryz.ntmps150
  go_wp2_with fail
  go_loopw [8] (fun i wr => ∃ k : Nat, k ≤ n9 ∧ i = .int .i64 (k : Int) ∧ Bl w wr) (fun i _ => n9 - (intOf i).toNat)
  case atStart => exact ⟨0, Nat.zero_le _, rfl, Bl.refl _⟩
  case round =>
    obtain ⟨k9, hk, rfl, hbw⟩ := hrel
    by_cases hkn : k9 < n9
    · have hki : (k9 : Int) < (n9 : Int) := by omega
      obtain ⟨s2, A2, n2, c2, B2, m2, d2, t2, C2, i2, e2, D2, j2, f2, ⟨y0, y1, y2, y3, y4, y5⟩, hx, hy⟩ := pts_lit (RdPS.bl hl9 hbw) hkn
      have ho := Lib.hid (hno.out k9 (by rw [hl.out]; exact hkn))
      go_wp2_with fail
      refine (arePointsF_any _ (qb.bl hbw) (hx1.bl hbw) (hy1.bl hbw) hx hy).mono ?_
      rw [ho.out]
      rintro e w1 ⟨rfl, hb1⟩
      have hb2 : Bl w w1 := slc
      clear hb1
      go_wp2_with fail
      go_roundw
      case rel => exact ⟨k9 + 1, by omega, by go_num, hb2⟩
      case measure => simp [intOf]; omega
    · obtain rfl : k9 = n9 := by omega
      have hkm2 : ¬ (k9 : Int) < (k9 : Int) := by omega
      go_wp2_with fail
      go_ret
      exact ⟨rfl, hbw⟩
theorem ContainsEq_no (w : World) {s1 : Bool} {A1 : Option Addr} {n1 c1 : Nat} {B1 : Option Addr} {m1 d1 : Nat} {t1 : Bool} {C1 : Option Addr} {i1 e1 : Nat} {D1 : Option Addr} {j1 f1 : Nat} {q : PtD} {gb : Nat} (qb : Blk w gb 31 #[.bool s1, .slice A1 n1 c1, .slice B1 m1 d1, .bool t1, .slice C1 i1 e1, .slice D1 j1 f1]) (hx1 : RdR w s1 A1 n1 c1 B1 m1 d1 q.x) (hy1 : RdR w t1 C1 i1 e1 D1 j1 f1 q.y) {g9 n9 c9 : Nat} {l : List PtD} (hl9 : RdPS w (some ⟨g9, 0, none⟩) n9 c9 l) (hno : NoEq q l) :
    Calls Tryz.prog 79 #[.slice (some ⟨g9, 0, none⟩) n9 c9, .func (.func 162) #[] #[.pointer (some ⟨gb, 0, none⟩)]] w fun e w' => e = .returned (.bool false) ∧ Bl w w' := by
  have hno := Lib.hid hno; rename_i h_; clear h_
  go_enter Tryz.func79, Tryz.ntmps79
  go_wp2_with fail
  refine (IndexEq_no _ qb hx1 hy1 hl9 hno.out).mono ?_
  rintro e w1 ⟨rfl, hb⟩
  go_wp2_with fail
  go_ret
  exact ⟨rfl, hb⟩
/-- The first elements of a slice of points. -/
theorem pts_take {w : World} {g n c : Nat} {l : List PtD} (h : RdPS w (some ⟨g, 0, none⟩) n c l) {k : Nat} (hk : k ≤ n) : RdPS w (some ⟨g, 0, none⟩) k c (l.take k) := by
  refine ⟨?_, Nat.le_trans hk h.cap, Nat.le_trans hk h.small, fun j hj => ?_⟩
  · rw [List.length_take, h.len]; omega
  · obtain ⟨ad, e, hlt, hc⟩ := h.cells j (by omega)
    refine ⟨ad, e, hlt, ?_⟩
    have : pix (l.take k) j = pix l j := by unfold pix; rw [List.getD_eq_getElem?_getD, List.getD_eq_getElem?_getD, List.getElem?_take_of_lt hj]
    rw [this]
    exact hc
set_option maxRecDepth 100000 in
set_option maxHeartbeats 16000000 in
theorem arePoints_yes (w : World) {g9 n9 c9 : Nat} {l : List PtD} (hl9 : RdPS w (some ⟨g9, 0, none⟩) n9 c9 l) (hok : PtsOk l) (h3 : 3 ≤ n9) (h40 : n9 ≤ 40) :
    Calls Tryz.prog 101 #[.slice (some ⟨g9, 0, none⟩) n9 c9] w fun e w' => e = .returned (.bool true) ∧ Bl w w' := by
  have hl := Lib.hid hl9.len
  have hcap := hl9.cap
  have hok := Lib.hid hok; rename_i h_; clear h_
  go_enter Tryz.func101, Tryz.ntmps101
  go_wp2_with fail
  go_loopw [7] (fun i wr => ∃ k : Nat, k ≤ n9 ∧ i = .int .i64 (k : Int) ∧ Bl w wr) (fun i _ => n9 - (intOf i).toNat)
  case atStart => exact ⟨0, Nat.zero_le _, rfl, Bl.refl _⟩
  case round =>
    obtain ⟨k, hk, rfl, hbw⟩ := hrel
    obtain ⟨wo, rfl⟩ : ∃ wo : World, wo = wr := ⟨_, rfl⟩
    by_cases hkn : k < n9
    · have hki : (k : Int) < (n9 : Int) := by omega
      obtain ⟨s1, A1, n1, c1, B1, m1, d1, t1, C1, i1, e1, D1, j1, f1, ⟨y0, y1, y2, y3, y4, y5⟩, hx1, hy1⟩ := pts_lit (RdPS.bl hl9 hbw) hkn
      have hop := Lib.hid (hok.out k (by rw [hl.out]; exact hkn)).1
      have hne : NoEq (pix l k) (l.take k) := by
        intro j hj
        rw [List.length_take] at hj
        have : pix (l.take k) j = pix l j := by unfold pix; rw [List.getD_eq_getElem?_getD, List.getD_eq_getElem?_getD, List.getElem?_take_of_lt (by omega)]
        rw [this]
        exact (hok.out k (by rw [hl.out]; exact hkn)).2 j (by omega)
      have hne := Lib.hid hne; rename_i h_; clear h_
      go_wp2_with fail
      refine calls_gen (fun W2 => Bl wo W2 ∧ Blk W2 wo.heap.size 31 #[.bool s1, .slice A1 n1 c1, .slice B1 m1 d1, .bool t1, .slice C1 i1 e1, .slice D1 j1 f1]) ⟨slc, bts⟩ ?_
      rintro W2 ⟨hb2, qb⟩
      clear y0 y1 y2 y3 y4 y5
      refine (IsValidPoint_yes _ (hx1.bl hb2) (hy1.bl hb2) hop.out).mono ?_
      rintro e w3 ⟨rfl, hb3⟩
      have qb := qb.bl hb3
      have hb4 := hb2.next hb3
      obtain ⟨j0, j1, j2, j3, j4, j5⟩ := bx6 qb
      go_wp2_with fail
      refine (ContainsEq_no _ (by exact qb) (hx1.bl hb4) (hy1.bl hb4) (pts_take (RdPS.bl hl9 (hbw.next hb4)) (by omega)) hne.out).mono ?_
      rintro e w5 ⟨rfl, hb5⟩
      go_wp2_with fail
      go_roundw
      case rel => exact ⟨k + 1, by omega, by go_num, (hbw.next hb4).next hb5⟩
      case measure => simp [intOf]; omega
    · obtain rfl : k = n9 := by omega
      have hkm2 : ¬ (k : Int) < (k : Int) := by omega
      go_wp2_with fail
      refine (within_yes _ (show (3 : Int) ≤ (k : Int) by omega) (show (k : Int) ≤ 40 by omega)).mono ?_
      rintro e w1 ⟨rfl, q1, rfl⟩
      go_wp2_with fail
      go_ret
      exact ⟨rfl, by exact slc⟩
end

section
open Go.RowKit

theorem RowP.setLow {N : List Nat → Prop} {lo : Nat} {w : World} {v : Value} {l : List PtD} (h : RowP N lo w.heap.size w v l) {q : Addr} (hq : q.block < lo) (u : Value) : RowP N lo (w.setCell q u).heap.size (w.setCell q u) v l := by
  have hs : (w.setCell q u).heap.size = w.heap.size := by simp
  rw [hs]
  exact RowG.keep (ptIn_keep 3) h (by omega) fun b h1 _ => Below.heap_setCell w q u b (by omega)
theorem RowP.shape3 {N : List Nat → Prop} {lo hi : Nat} {w : World} {v : Value} {l : List PtD} (h : RowP N lo hi w v l) : ∃ A n c, v = .slice A n c := by
  obtain ⟨_, _, h1, _⟩ := h
  rcases h1.2 with ⟨rfl, _⟩ | ⟨g, cap, cur, rfl, _⟩
  · exact ⟨_, _, _, rfl⟩
  · exact ⟨_, _, _, rfl⟩
theorem RowP.up2 {N : List Nat → Prop} {lo : Nat} {w W : World} {v : Value} {l : List PtD} (h : RowP N lo w.heap.size w v l) (hb : Bl w W) : RowP N lo W.heap.size W v l := (RowG.bl (ptIn_keep 3) h hb).up hb.size (Nat.le_refl _)
theorem RowP.lit {N : List Nat → Prop} {lo hi : Nat} {w : World} {v : Value} {l : List PtD} (h : RowP N lo hi w v l) (hl : 0 < l.length) (hl2 : l.length ≤ 1048576) : ∃ g c, v = .slice (some ⟨g, 0, none⟩) l.length c ∧ lo ≤ g ∧ RdPS w (some ⟨g, 0, none⟩) l.length c l := by
  obtain ⟨A, c, e, hr⟩ := RowP.rd h hl2
  obtain ⟨cells, fs, h1, _⟩ := h
  rcases h1.2 with ⟨rfl, h0⟩ | ⟨g, cap, cur, rfl, hg, _⟩
  · omega
  · injection e with e1 e2 e3
    subst e1 e3
    exact ⟨g, cap, rfl, hg, hr⟩
def cpTo (l : List PtD) (k : Nat) : List PtD := (List.range k).map (pix l)
theorem cpTo_len (l : List PtD) (k : Nat) : (cpTo l k).length = k := by simp [cpTo]
theorem cpTo_succ (l : List PtD) (k : Nat) : cpTo l (k + 1) = cpTo l k ++ [pix l k] := by unfold cpTo; rw [List.range_succ, List.map_append]; rfl
theorem cpTo_all {l : List PtD} : cpTo l l.length = l := by
  refine List.ext_getElem (by simp [cpTo]) fun i h1 h2 => ?_
  simp [cpTo, pix, h2]
theorem OwT.low {base b1 : Nat} {w : World} {v : Value} {l : List TriD} (h : OwT b1 w v l) (hb : base ≤ b1) : OwT base w v l := by
  refine ⟨h.1, ?_⟩
  rcases h.2 with h2 | ⟨g, cap, cur, hv, hg, r⟩
  · exact .inl h2
  · exact .inr ⟨g, cap, cur, hv, Nat.le_trans hb hg, r⟩
/-- A mesh in memory of one's own; its triangles lie apart from its points. -/
def CmRes (w : World) (l : List PtD) (ts : List TriD) (en : Ending) (w' : World) : Prop :=
  ∃ lo gp n cp gt m ct, en = .returned (.agg #[.slice (some ⟨gp, 0, none⟩) n cp, .slice (some ⟨gt, 0, none⟩) m ct]) ∧ n = l.length ∧ m = ts.length ∧ RowP List.Nodup lo w'.heap.size w' (.slice (some ⟨gp, 0, none⟩) n cp) l ∧ OwT w.heap.size w' (.slice (some ⟨gt, 0, none⟩) m ct) ts ∧ gt < lo ∧ w.heap.size ≤ lo ∧ Bl w w'

set_option maxRecDepth 100000 in
set_option maxHeartbeats 16000000 in
theorem copyMesh_any (w : World) {gp n cp gt m ct : Nat} {l : List PtD} {ts : List TriD} (hp : RdPS w (some ⟨gp, 0, none⟩) n cp l) (ht : RdTS w (some ⟨gt, 0, none⟩) m ct ts) (hn : 0 < n) (hn2 : n ≤ 1048576) (hm2 : m ≤ 1048576)
    (hsz : ∀ k, k < n → ((pix l k).x.mag.length ≤ 1048576 ∧ (pix l k).x.den.length ≤ 1048576) ∧ (pix l k).y.mag.length ≤ 1048576 ∧ (pix l k).y.den.length ≤ 1048576) :
    Calls Tryz.prog 100 #[.agg #[.slice (some ⟨gp, 0, none⟩) n cp, .slice (some ⟨gt, 0, none⟩) m ct]] w (CmRes w l ts) := by
  have hln := Lib.hid hp.len
  have hlm := Lib.hid ht.len
  have hsz := Lib.hid hsz; rename_i h_; clear h_
  go_enter Tryz.func100, Tryz.ntmps100
  go_wp2_with fail
  refine calls_gen (fun W => Bl w W ∧ Blk W w.heap.size 57 #[.slice (some ⟨gp, 0, none⟩) n cp, .slice (some ⟨gt, 0, none⟩) m ct] ∧ Wk 2 57 (w.heap.size + 1) W) ⟨slc, bts, bts⟩ ?_
  rintro W ⟨hbW, hA, hr⟩
  refine (CloneTri_any _ (RdTS.bl ht hbW) hm2).mono ?_
  rintro e w1 ⟨gt', ct', rfl, hT, hb1⟩
  have hz0 := hr.lt
  have hA := hA.bl hb1
  have hr := hr.bl hb1
  have hbW := hbW.next hb1
  have hgt := hT.blk (g := gt') rfl
  have hz1 := hr.lt
  clear hb1
  obtain ⟨r0, r1⟩ := bx2 hA
  go_upto_region 2 with (fail)
  refine wp_gen (fun W2 => Bl w1 W2 ∧ Blk W2 w1.heap.size 57 #[.slice none 0 0, .slice (some ⟨gt', 0, none⟩) m ct']) ⟨slc, by exact bts⟩ ?_
  rintro W2 ⟨hb2, hm⟩
  have hA := hA.bl hb2
  have hT := hT.bl hb2
  have hr := hr.bl hb2
  have hbW := hbW.next hb2
  clear r0 r1
  obtain ⟨r0, r1⟩ := bx2 hA
  go_wp2_with fail
  clear r0 r1 hA
  go_loopw [13] (fun i wr => ∃ (k : Nat) (vp : Value), k ≤ n ∧ i = .int .i64 (k : Int) ∧ Blk wr w1.heap.size 57 #[vp, .slice (some ⟨gt', 0, none⟩) m ct'] ∧ RowP List.Nodup (w1.heap.size + 1) wr.heap.size wr vp (cpTo l k) ∧ OwT W.heap.size wr (.slice (some ⟨gt', 0, none⟩) m ct') ts ∧ Wk 2 57 (w.heap.size + 1) wr ∧ Bl w wr) (fun i _ => n - (intOf i).toNat)
  case atStart => exact ⟨0, .slice none 0 0, by omega, rfl, hm, RowG.nil appN_nodup _ (Nat.le_refl _), hT, hr, hbW⟩
  case round =>
    clear hm hT hr hbW hb2
    obtain ⟨k, vp, hk, rfl, hm, hrow, hT, hr, hbw⟩ := hrel
    by_cases hkn : k < n
    · have hki : (k : Int) < (n : Int) := by omega
      obtain ⟨sq, Aq, nq, cq, Bq, mq_, dq, tq, Cq, iq, eq, Dq, jq, fq, ⟨y0, y1, y2, y3, y4, y5⟩, hR1, hR2⟩ := pts_lit (RdPS.bl hp hbw) hkn
      obtain ⟨⟨sz1, sz2⟩, sz3, sz4⟩ := hsz.out k hkn
      have hn1 : nq ≤ 1048576 := by rw [← hR1.mag.len]; exact sz1
      have hn3 : mq_ ≤ 1048576 := by rw [← hR1.den.len]; exact sz2
      have hn4 : iq ≤ 1048576 := by rw [← hR2.mag.len]; exact sz3
      have hn5 : jq ≤ 1048576 := by rw [← hR2.den.len]; exact sz4
      clear sz1 sz2 sz3 sz4
      have hml := hm.lt
      have hvq := hrow.ne (Nat.le_refl wr.heap.size)
      go_upto_region 5 with (fail)
      refine wp_gen (fun W => Bl wr W ∧ wr.heap.size < W.heap.size ∧ Blk W wr.heap.size 31 #[.bool sq, .slice Aq nq cq, .slice Bq mq_ dq, .bool tq, .slice Cq iq eq, .slice Dq jq fq]) ⟨slc, by simp, by exact bts⟩ ?_
      rintro W ⟨hbq, hgw, hq⟩
      have hm := hm.bl hbq
      have hrow := RowP.up2 hrow hbq
      have hT := hT.bl hbq
      have hr := hr.bl hbq
      have hbW := hbw.next hbq
      have hlo : (w1.heap.size + 1) ≤ W.heap.size := by omega
      clear y0 y1 y2 y3 y4 y5
      replace hR1 := hR1.bl hbq
      replace hR2 := hR2.bl hbq
      have hHeld : (fun w' => (w'.cell? ⟨w1.heap.size, 0, none⟩ = some (vp) ∧ w'.cell? ⟨w1.heap.size, 1, none⟩ = some (.slice (some ⟨gt', 0, none⟩) m ct')) ∧ (w'.cell? ⟨wr.heap.size, 0, none⟩ = some (.bool sq) ∧ w'.cell? ⟨wr.heap.size, 1, none⟩ = some (.slice Aq nq cq) ∧ w'.cell? ⟨wr.heap.size, 2, none⟩ = some (.slice Bq mq_ dq) ∧ w'.cell? ⟨wr.heap.size, 3, none⟩ = some (.bool tq) ∧ w'.cell? ⟨wr.heap.size, 4, none⟩ = some (.slice Cq iq eq) ∧ w'.cell? ⟨wr.heap.size, 5, none⟩ = some (.slice Dq jq fq))) (W.drew) := ⟨bx2 (T := 57) (hm.bl slc), bx6 (T := 31) (hq.bl slc)⟩
      refine wp_region_T 7 8 (fun w' => (w'.cell? ⟨w1.heap.size, 0, none⟩ = some (vp) ∧ w'.cell? ⟨w1.heap.size, 1, none⟩ = some (.slice (some ⟨gt', 0, none⟩) m ct')) ∧ (w'.cell? ⟨wr.heap.size, 0, none⟩ = some (.bool sq) ∧ w'.cell? ⟨wr.heap.size, 1, none⟩ = some (.slice Aq nq cq) ∧ w'.cell? ⟨wr.heap.size, 2, none⟩ = some (.slice Bq mq_ dq) ∧ w'.cell? ⟨wr.heap.size, 3, none⟩ = some (.bool tq) ∧ w'.cell? ⟨wr.heap.size, 4, none⟩ = some (.slice Cq iq eq) ∧ w'.cell? ⟨wr.heap.size, 5, none⟩ = some (.slice Dq jq fq))) rfl (by kernel_rfl) hHeld ?_
      refine wpAnyT_take (i := 0) (oi := _) (v := ?_) (fuel := 7) rfl (by kernel_rfl) (by kernel_rfl) (by kernel_rfl) (by kernel_rfl) (fun _ _ _ h => h) (by rfl) ?_ hHeld ?_
      rotate_left 1
      · (intro w' hSw; (try dsimp only at hSw); go_simp <;> with_reducible rfl)
      refine wpAnyT_take (i := 1) (oi := _) (v := ?_) (fuel := 6) rfl (by kernel_rfl) (by kernel_rfl) (by kernel_rfl) (by kernel_rfl) (fun _ _ _ h => h) (by rfl) ?_ hHeld ?_
      rotate_left 1
      · (intro w' hSw; (try dsimp only at hSw); go_simp <;> with_reducible rfl)
      refine wpAnyT_take (i := 2) (oi := _) (v := ?_) (fuel := 5) rfl (by kernel_rfl) (by kernel_rfl) (by kernel_rfl) (by kernel_rfl) (fun _ _ _ h => h) (by rfl) ?_ hHeld ?_
      rotate_left 1
      · (intro w' hSw; (try dsimp only at hSw); go_simp <;> with_reducible rfl)
      clear hHeld
      simp only [Act.put, List.setIfInBounds_toArray]
      refine wpAnyT_step (i := 3) (o := _) (fuel := 4) rfl (by kernel_rfl) (fun K hK => ?_)
      go_simp
      refine (copyPoint_any _ (RdR.bl hR1 slc) (RdR.bl hR2 slc) (by omega) (by omega) (by omega) (by omega)).mono ?_
      rintro e w2 ⟨A1, n1, c1, B1, m1, d1, C1, i1', e1, D1, j1, f1, rfl, hP, hb2⟩
      have hrow4 := RowG.bl (ptIn_keep 3) hrow (show Bl W w2 from slc)
      have hP4 := OwPN.of hP
      have hm := hm.bl (show Bl W w2 from slc)
      have hq := hq.bl (show Bl W w2 from slc)
      have hT4 := hT.bl (show Bl W w2 from slc)
      have hr4 := hr.bl (show Bl W w2 from slc)
      have hbw4 : Bl w w2 := hbW.next (show Bl W w2 from slc)
      refine hK.out _ _ (fun _ => ⟨bx2 (T := 57) (hm.bl slc), bx6 (T := 31) (hq.bl slc)⟩) ?_
      clear hK K
      try simp only [Act.put, List.setIfInBounds_toArray, List.set_cons_zero, List.set_cons_succ]
      refine wpAnyT_step (i := 4) (o := _) (fuel := 3) rfl (by kernel_rfl) (fun K hK => ?_)
      go_simp
      refine hK.out _ _ (fun _ => ⟨bx2 (T := 57) (hm.bl slc), bx6 (T := 31) (hq.bl slc)⟩) ?_
      clear hK K
      try simp only [Act.put, List.setIfInBounds_toArray, List.set_cons_zero, List.set_cons_succ]
      refine wpAnyT_step (i := 5) (o := _) (fuel := 2) rfl (by kernel_rfl) (fun K hK => ?_)
      refine step_append_ptX appN_nodup rfl (.tmp 18) (.tmp 21) rfl _ (by rfl) hrow4 hP4 (Nat.le_refl _) hlo 1 (by rfl) (by rw [cpTo_len]; omega) w hbw4 (by omega) ?_
      intro v' w8 hrow' hb8' hoth
      obtain ⟨A8, n8, c8, rfl⟩ := RowP.shape3 hrow'
      have hm := hm.oth hoth (fun e => by have := hrow.lo e; omega)
      have hq := hq.oth hoth hvq
      have hT8 := hT4.keep (fun g e => (hoth g (hT4.blk e).2 (fun e2 => by have h1 := hrow.lo e2; injection e with e; simp only at e; omega)).1)
      obtain ⟨cs5, hB5, hc5⟩ := hr4
      have hr8 : Wk 2 57 (w.heap.size + 1) w8 := ⟨cs5, hB5.oth hoth (fun e => by have := hrow.lo e; omega), hc5⟩
      refine hK.out _ _ (fun _ => ⟨bx2 (T := 57) (hm.bl slc), bx6 (T := 31) (hq.bl slc)⟩) ?_
      clear hK K
      try simp only [Act.put, List.setIfInBounds_toArray]
      refine wpAnyT_step (i := 6) (o := _) (fuel := 1) rfl (by kernel_rfl) (fun K hK => ?_)
      go_simp
      refine hK.out _ _ (fun _ => ⟨bx2 (T := 57) (hm.bl slc), bx6 (T := 31) (hq.bl slc)⟩) ?_
      clear hK K
      try simp only [Act.put, List.setIfInBounds_toArray, List.set_cons_zero, List.set_cons_succ]
      obtain ⟨z0', z1'⟩ := bx2 hm
      have zf := hm.frozen 0
      refine wpAnyT_step (i := 7) (o := _) (fuel := 0) rfl (by kernel_rfl) (fun K hK => ?_)
      go_simp
      refine hK.out _ _ (fun h => absurd rfl h) ?_
      clear hK K
      try simp only [Act.put, List.setIfInBounds_toArray]
      refine wpAnyT_done (by kernel_rfl) ?_
      go_wp2_with fail
      go_roundw
      case rel => exact ⟨k + 1, _, by omega, by go_num, by simpa using hm.set_ 0 _, by rw [cpTo_succ]; exact RowP.setLow hrow' (by simp) _, hT8.keep (fun g e => Below.heap_setCell _ _ _ g (by injection e with e; simp only at e ⊢; omega)), hr8.far (by simp; omega) _, Bl.set hb8' (by simp; omega) _⟩
      case measure => simp [intOf]; omega
    · obtain rfl : k = n := by omega
      have hkm2 : ¬ (k : Int) < (k : Int) := by omega
      rw [show cpTo l k = l by rw [← hln.out]; exact cpTo_all] at hrow
      obtain ⟨gp', cp', rfl, hgp, hRd⟩ := hrow.lit (by rw [hln.out]; exact hn) (by rw [hln.out]; exact hn2)
      obtain ⟨v0, x0⟩ := hr.val_ (i := 0) (by omega)
      obtain ⟨v1, x1⟩ := hr.val_ (i := 1) (by omega)
      have hg := hr.lt
      obtain ⟨cs4, hB4, hc4⟩ := hr
      have hf0 := hB4.frozen 0
      have hf1 := hB4.frozen 1
      rw [hln.out] at hm hrow hRd
      obtain ⟨i0, i1⟩ := bx2 hm
      go_wp2_with fail
      exact bodyPost_ret (v := .agg #[.slice (some ⟨gp', 0, none⟩) k cp', .slice (some ⟨gt', 0, none⟩) m ct']) (by simp [results, Tryz.results100, go_sem, x0, x1]) rfl ⟨(w1.heap.size + 1), gp', _, cp', gt', _, ct', rfl, hln.out.symm, hlm.out.symm, RowP.setLow (RowP.setLow hrow (by simp; omega) _) (by simp; omega) _, (hT.keep (fun g e => (Below.heap_setCell _ _ _ g (by injection e with e; simp only at e ⊢; omega)).trans (Below.heap_setCell _ _ _ g (by injection e with e; simp only at e ⊢; omega)))).low (by omega), by omega, by omega, slc⟩
end

end Go.Proofs.YtajlahjghapbkaaGreat
