/- Lemmas. -/
import Derived.Test.YtajlahjghapbkaaGreatRows
import Derived.Test.YtajlahjghapbkaaGreatPAnglesM36
import Derived.Test.YtajlahjghapbkaaGreatPAnglesM28
import Derived.Test.YtajlahjghapbkaaGreatPAnglesM34
import Derived.Test.YtajlahjghapbkaaGreatPAnglesM31
import Derived.Test.YtajlahjghapbkaaGreatPAnglesM20
namespace Go.Proofs.YtajlahjghapbkaaGreat
section
open Go.RowKit

section
variable {E : TypeId} {base : Nat} {w W : World} {l : List Int}
theorem OwL.setK {g n c : Nat} (h : OwL E base w (.slice (some ⟨g, 0, none⟩) n c) l) (j : Nat) (x : Int) : OwL E base (w.setCell ⟨g, j, none⟩ (.int .i64 x)) (.slice (some ⟨g, 0, none⟩) n c) (l.set j x) := by
  obtain ⟨hcl, ⟨h, _⟩ | ⟨g', cap, cur, h, hg, hh, hnc, hm, hcs, htk⟩⟩ := id h
  · cases h
  injection h with q1 q2 q3
  injection q1 with q1
  injection q1 with q1
  subst q1
  unfold OwL World.ownsRow
  rw [List.length_set, List.map_set]
  refine ⟨by simp, .inr ⟨g, cap, _, by rw [q2, q3], hg, Blk.set_ (T := E) hh j (.int .i64 x), hnc, hm, by simpa using hcs, ?_⟩⟩
  rw [Array.toList_setIfInBounds, List.take_set, htk]
theorem OwL.fz {g n c : Nat} (h : OwL E base w (.slice (some ⟨g, 0, none⟩) n c) l) (j : Nat) : w.frozen? ⟨g, j, none⟩ = false := by
  obtain ⟨_, ⟨h, _⟩ | ⟨g', cap, cur, h, hg, hh, _⟩⟩ := id h
  · cases h
  injection h with q1 q2 q3
  injection q1 with q1
  injection q1 with q1
  subst q1
  exact Blk.frozen (T := E) hh j
end
theorem sum_set {l : List Int} {j : Nat} (h : j < l.length) (x : Int) : (l.set j x).sum = l.sum - ix l j + x := by
  induction l generalizing j with
  | nil => simp at h
  | cons y ys ih =>
    rcases j with _ | j
    · simp [ix]; omega
    · have := ih (j := j) (by simpa using h)
      simp [ix] at this ⊢
      omega
/-- How many triangles have each level: what the law asks. -/
def LvOk (u : List Int) (i : Nat) : Prop := u.sum = i ∧ u.length ≤ 61 ∧ ∀ x ∈ u, 0 ≤ x ∧ x ≤ i
theorem LvOk.grow {u : List Int} {i : Nat} (h : LvOk u i) (hl : u.length < 61) : LvOk (u ++ [0]) i :=
  ⟨by rw [List.sum_append]; simpa using h.1, by rw [List.length_append, List.length_singleton]; omega, fun x hx => by rcases List.mem_append.1 hx with hx | hx; exact h.2.2 x hx; rw [List.mem_singleton] at hx; subst hx; omega⟩
theorem LvOk.inc {u : List Int} {i j : Nat} (h : LvOk u i) (hj : j < u.length) : LvOk (u.set j (ix u j + 1)) (i + 1) := by
  have hx := h.2.2 _ (ix_mem hj)
  refine ⟨by rw [sum_set hj, h.1]; omega, by rw [List.length_set]; exact h.2.1, fun x hx2 => ?_⟩
  rcases List.mem_or_eq_of_mem_set hx2 with h2 | h2
  · have := h.2.2 x h2; omega
  · omega
def sLn : Value → Nat
  | .slice _ n _ => n
  | _ => 0
def LvRes (w : World) (k : Nat) (e : Ending) (w' : World) : Prop := ∃ A n c u, e = .returned (.slice A n c) ∧ RdI w' A n c u ∧ LvOk u k ∧ Bl w w'
set_option maxRecDepth 100000 in
set_option maxHeartbeats 32000000 in
theorem CountLevels_yes (w : World) {v : Value} {mq : MeQ} (h : MeAt w v mq) (hok : MeshOk mq) :
    Calls Tryz.prog 52 #[v] w (LvRes w mq.tris.length) := by
  obtain ⟨gp, n, cp, gt, m, ct, rfl, hp, ht⟩ := h
  have hm48 : m ≤ 48 := by have := hok.t48; rw [ht.len] at this; exact this
  have hm := Lib.hid ht.len
  have hok := Lib.hid hok; rename_i h_; clear h_
  have hcp := ht.cap
  go_enter Tryz.func52, Tryz.ntmps52
  go_wp2_with fail
  refine calls_gen (fun W => Bl w W ∧ Blk W w.heap.size 57 #[.slice (some ⟨gp, 0, none⟩) n cp, .slice (some ⟨gt, 0, none⟩) m ct]) ⟨slc, bts⟩ ?_
  rintro W ⟨hbW, h1⟩
  refine (IsMesh_yes _ (RdPS.bl hp hbW) (RdTS.bl ht hbW) hok.out).mono ?_
  rintro e w1 ⟨rfl, hb1⟩
  have h1 := h1.bl hb1
  have hbW := hbW.next hb1
  clear hb1
  go_upto_region 4 with (fail)
  refine wp_gen (fun W => Bl w1 W ∧ ∃ v0 c, OwL 3 w1.heap.size W v0 [] ∧ v0 = .slice (some ⟨w1.heap.size, 0, none⟩) 0 c ∧ c = 0) ⟨slc, _, 0, OwL.empty w1 (Nat.le_refl _) (by decide), rfl, rfl⟩ ?_
  rintro W1 ⟨hb1, v0, c0, hX, hv0, rfl⟩
  have hnil0 : v0 ≠ .slice none 0 0 := by rw [hv0]; intro e; cases e
  rw [← hv0]
  clear hv0
  obtain ⟨r0, r1⟩ := bx2 (h1.bl hb1)
  go_wp2_with fail
  clear r0 r1
  go_loopw [3, 13] (fun s v wr => ∃ (i : Nat) (u : List Int) (o : Value), i ≤ m ∧ v = .int .i64 (i : Int) ∧ o = s ∧ OwL 3 w1.heap.size wr o u ∧ Hid (LvOk u i) ∧ Bl w1 wr) (fun _ v _ => m - (intOf v).toNat)
  case atStart => exact ⟨0, [], v0, by omega, rfl, rfl, hX, Lib.hid ⟨rfl, by simp, fun x hx => by cases hx⟩, hb1⟩
  case round =>
    clear hX hb1 hnil0
    obtain ⟨i, u, o, hi, rfl, rfl, hX, hu, hbi⟩ := hrel
    obtain ⟨wi, rfl⟩ : ∃ wi : World, wi = wr := ⟨_, rfl⟩
    by_cases him : i < m
    · have hii : (i : Int) < (m : Int) := by omega
      obtain ⟨y0, y1, y2, y3, y4⟩ := trs_lit (RdTS.bl ht (hbW.next hbi)) him
      have hlv := (hok.out.reg i (by rw [hm.out]; exact him)).2
      obtain ⟨t, ht_⟩ : ∃ t, pix mq.tris i = t := ⟨_, rfl⟩
      rw [ht_] at y0 y1 y2 y3 y4 hlv
      clear ht_
      obtain ⟨lv, hlv2⟩ : ∃ lv : Nat, t.level = (lv : Int) := ⟨t.level.toNat, by omega⟩
      rw [hlv2] at y4 hlv
      have hlv60 : lv ≤ 60 := by omega
      clear hlv hlv2
      have hns : ∀ b, o.ownBlock = some b → b < wi.heap.size := fun b e => (hX.blk e).2
      go_wp2_with fail
      refine wp_gen (fun W => Bl wi W ∧ ∃ g5, Blk W g5 73 #[.int .i64 t.a, .int .i64 t.b, .int .i64 t.c, .int .i64 t.region, .int .i64 (lv : Int)] ∧ g5 = wi.heap.size) ⟨by exact slc, _, by exact bts, rfl⟩ ?_
      rintro W2 ⟨hb2, g5, h5, hg5⟩
      rw [← hg5]
      have hX := hX.bl hb2
      have hns := Lib.hid (show o.ownBlock ≠ some g5 from fun e => by have := hns g5 e; omega)
      have hg5l : w1.heap.size ≤ g5 := by have := hbi.size; omega
      have hbi := hbi.next hb2
      clear y0 y1 y2 y3 y4 hg5 hb2
      go_loopw [3] (fun s wr => ∃ (u : List Int) (o : Value), o = s ∧ OwL 3 w1.heap.size wr o u ∧ Hid (LvOk u i) ∧ Bl w1 wr ∧ Blk wr g5 73 #[.int .i64 t.a, .int .i64 t.b, .int .i64 t.c, .int .i64 t.region, .int .i64 (lv : Int)] ∧ Hid (o.ownBlock ≠ some g5)) (fun s _ => lv + 1 - sLn s)
      case atStart => exact ⟨u, o, rfl, hX, hu, hbi, h5, hns⟩
      case round =>
        clear hX hu hbi h5 hns
        obtain ⟨u, o, rfl, hX, hu, hbi, h5, hns⟩ := hrel
        obtain ⟨wj, rfl⟩ : ∃ wj : World, wj = wr := ⟨_, rfl⟩
        have hul := hu.out.2.1
        obtain ⟨A5, c5, rfl, hR⟩ := hX.any (by omega)
        obtain ⟨x0, x1, x2, x3, x4⟩ := bx5 h5
        obtain ⟨nu, hnu⟩ : ∃ nu, u.length = nu := ⟨_, rfl⟩
        rw [hnu] at hX hR hul hns ⊢
        by_cases hle : nu ≤ lv
        · have hlei : (nu : Int) ≤ (lv : Int) := by omega
          have hgr := Lib.hid (hu.out.grow (by omega))
          have hnu := Lib.hid hnu; rename_i h_; clear h_
          have h5l := h5.lt
          go_wp2_with ((refine wpList_append_intX (w0 := w1) info_int Tryz.underlying25 rfl (.tmp 22) (.tmp 23) rfl _ u (by rfl) hX hbi 1 (by rfl) (by rw [hnu.out]; omega) ?_); intro vx7 w7 hX7 hb7 hoth)
          obtain ⟨A7, c7, rfl, _⟩ := hX7.any (by rw [List.length_append, List.length_singleton, hnu.out]; omega)
          go_roundw
          case rel => exact ⟨u ++ [0], _, rfl, hX7, hgr, hb7, (hoth g5 h5l hns.out).1.trans h5, Lib.hid (hoth g5 h5l hns.out).2⟩
          case measure => simp [sLn, hnu.out]; omega
        · have hlei : ¬ (nu : Int) ≤ (lv : Int) := by omega
          have hlt : lv < u.length := by omega
          have hlvi : (lv : Int) < (nu : Int) := by omega
          have hinc := Lib.hid (hu.out.inc hlt)
          have hxb := (hu.out.2.2 _ (ix_mem hlt))
          obtain ⟨g9, rfl⟩ : ∃ g9, A5 = some ⟨g9, 0, none⟩ := by
            obtain ⟨g, c, e, _⟩ := hX.lit (by omega) (by omega)
            injection e with e
            exact ⟨g, e⟩
          obtain ⟨_, ee, hlt9, hc9⟩ := hR.cells lv (by omega)
          cases ee
          rw [Addr.add_lit, Nat.zero_add] at hc9
          have hf9 := hX.fz lv
          obtain ⟨x, hx⟩ : ∃ x, ix u lv = x := ⟨_, rfl⟩
          rw [hx] at hc9 hinc hxb
          have hg9 : w1.heap.size ≤ g9 := (hX.blk rfl).1
          have hcp5 := hR.cap
          have hnu := Lib.hid hnu; rename_i h_; clear h_
          clear hx
          go_wp2_with fail
          go_roundw
          case rel => exact ⟨i + 1, _, _, by omega, by go_num, rfl, hX.setK lv (x + 1), hinc, Bl.set hbi (show w1.heap.size ≤ g9 by omega) _⟩
          case measure => simp [intOf]; omega
    · obtain rfl : i = m := by omega
      have hkm2 : ¬ (i : Int) < (i : Int) := by omega
      have hul := hu.out.2.1
      obtain ⟨A5, c5, rfl, hR⟩ := hX.any (by omega)
      go_wp2_with fail
      go_ret
      exact ⟨A5, _, c5, u, rfl, hR, by rw [hm.out]; exact hu.out, hbW.next hbi⟩
end

section
open Go.RowKit

/-- The cells of a block are points with memory of their own since b0. -/
def PtsB (b0 : Nat) (w : World) (cs : Array Value) (ps : List PtD) : Prop := ∀ k, k < ps.length → ∃ s A n c B m d t C i e D j f, (cs[k * 6]? = some (.bool s) ∧ cs[k * 6 + 1]? = some (.slice A n c) ∧ cs[k * 6 + 2]? = some (.slice B m d) ∧ cs[k * 6 + 3]? = some (.bool t) ∧ cs[k * 6 + 4]? = some (.slice C i e) ∧ cs[k * 6 + 5]? = some (.slice D j f)) ∧ OwPN AnyN 3 b0 w s A n c B m d t C i e D j f (pix ps k)
def TrsB (cs : Array Value) (ts : List TriD) : Prop := ∀ k, k < ts.length → cs[k * 5]? = some (.int .i64 (pix ts k).a) ∧ cs[k * 5 + 1]? = some (.int .i64 (pix ts k).b) ∧ cs[k * 5 + 2]? = some (.int .i64 (pix ts k).c) ∧ cs[k * 5 + 3]? = some (.int .i64 (pix ts k).region) ∧ cs[k * 5 + 4]? = some (.int .i64 (pix ts k).level)
theorem OwPN.keepB {T : TypeId} {b0 : Nat} {w W : World} {s : Bool} {A : Option Addr} {n c : Nat} {B : Option Addr} {m d : Nat} {t : Bool} {C : Option Addr} {i e : Nat} {D : Option Addr} {j f : Nat} {p : PtD} (h : OwPN AnyN T b0 w s A n c B m d t C i e D j f p) (hs : w.heap.size ≤ W.heap.size) (hk : ∀ b, b0 ≤ b → b < w.heap.size → W.heap[b]? = w.heap[b]?) : OwPN AnyN T b0 W s A n c B m d t C i e D j f p := by
  obtain ⟨c1, c2, h1, h2, hf, hn⟩ := h
  exact ⟨c1, c2, h1.keep hs fun b hb => hk b (hf b (by simp [hb])).1 (hf b (by simp [hb])).2, h2.keep hs fun b hb => hk b (hf b (by simp [hb])).1 (hf b (by simp [hb])).2, fun b hm => ⟨(hf b hm).1, Nat.lt_of_lt_of_le (hf b hm).2 hs⟩, hn⟩
theorem PtsB.rd {b0 : Nat} {w : World} {cs : Array Value} {ps : List PtD} (h : PtsB b0 w cs ps) {g c : Nat} (hB : Blk w g 31 cs) (hc : ps.length ≤ c) (hl : ps.length ≤ 1048576) : RdPS w (some ⟨g, 0, none⟩) ps.length c ps := by
  refine ⟨rfl, hc, by omega, fun k hk => ⟨_, rfl, hB.lt, ?_⟩⟩
  obtain ⟨s, A, n, c, B, m, d, t, C, i, e, D, j, f, ⟨h0, h1, h2, h3, h4, h5⟩, hP⟩ := h k hk
  rw [Addr.add_lit, Nat.zero_add]
  exact ⟨_, _, _, _, _, _, _, _, _, _, _, _, _, _, ⟨(hB.cell _).trans h0, (hB.cell _).trans h1, (hB.cell _).trans h2, (hB.cell _).trans h3, (hB.cell _).trans h4, (hB.cell _).trans h5⟩, hP.rdx.1, hP.rdx.2⟩
theorem TrsB.rd {w : World} {cs : Array Value} {ts : List TriD} (h : TrsB cs ts) {g c : Nat} (hB : Blk w g 73 cs) (hc : ts.length ≤ c) (hl : ts.length ≤ 1048576) : RdTS w (some ⟨g, 0, none⟩) ts.length c ts := by
  refine ⟨rfl, hc, by omega, fun k hk => ⟨_, rfl, hB.lt, ?_⟩⟩
  obtain ⟨h0, h1, h2, h3, h4⟩ := h k hk
  rw [Addr.add_lit, Nat.zero_add]
  exact ⟨(hB.cell _).trans h0, (hB.cell _).trans h1, (hB.cell _).trans h2, (hB.cell _).trans h3, (hB.cell _).trans h4⟩
theorem MeOw.ofB {b0 : Nat} {w : World} {gP gT nP nT : Nat} {cs cs2 : Array Value} {mq : MeQ} (hB : Blk w gP 31 cs) (hB2 : Blk w gT 73 cs2) (hP : PtsB b0 w cs (mq.pts.map tp)) (hT : TrsB cs2 mq.tris) (h1 : b0 ≤ gP) (h2 : b0 ≤ gT) (hn : (mq.pts.map tp).length = nP) (hm : mq.tris.length = nT) (hn2 : nP ≤ 1048576) (hm2 : nT ≤ 1048576) :
    MeOw b0 w (.agg #[.slice (some ⟨gP, 0, none⟩) nP nP, .slice (some ⟨gT, 0, none⟩) nT nT]) mq := by
  subst hn hm
  have key : ∀ w', w.heap.size ≤ w'.heap.size → (∀ b, b0 ≤ b → b < w.heap.size → w'.heap[b]? = w.heap[b]?) → MeAt w' (.agg #[.slice (some ⟨gP, 0, none⟩) (mq.pts.map tp).length (mq.pts.map tp).length, .slice (some ⟨gT, 0, none⟩) mq.tris.length mq.tris.length]) mq := fun w' hs hk => by
    have hP' : PtsB b0 w' cs (mq.pts.map tp) := fun k hk2 => by
      obtain ⟨s, A, n, c, B, m, d, t, C, i, e, D, j, f, hc, ho⟩ := hP k hk2
      exact ⟨_, _, _, _, _, _, _, _, _, _, _, _, _, _, hc, ho.keepB hs hk⟩
    exact ⟨gP, _, _, gT, _, _, rfl, hP'.rd ((hk gP h1 hB.lt).trans hB) (Nat.le_refl _) hn2, hT.rd ((hk gT h2 hB2.lt).trans hB2) (Nat.le_refl _) hm2⟩
  exact ⟨key w (Nat.le_refl _) fun _ _ _ => rfl, key⟩
theorem push_modify {α : Type} (a : Array α) (o : α) (f : α → α) {g : Nat} (hg : g < a.size) : (a.modify g f).push o = (a.push o).modify g f := by
  refine Array.ext_getElem? fun i => ?_
  rw [Array.getElem?_push, Array.getElem?_modify, Array.getElem?_modify, Array.getElem?_push, Array.size_modify]
  by_cases h : i = a.size
  · subst h
    rw [if_pos rfl, if_neg (by omega), if_pos rfl]
  · rw [if_neg h, if_neg h]
theorem setCell_alloc {W : World} {g i : Nat} (hg : g < W.heap.size) (o : Obj) (u : Value) : (W.setCell ⟨g, i, none⟩ u).alloc o = (W.alloc o).setCell ⟨g, i, none⟩ u := by
  unfold World.alloc World.setCell
  simp only
  rw [push_modify _ _ _ hg]
theorem MeOw.ob {b0 g : Nat} {w W : World} {v : Value} {mq : MeQ} (h : MeOw b0 w v mq) (ho : Ob [g] w W) (hg : g < b0) : MeOw b0 W v mq :=
  ⟨h.2 _ ho.size fun b h1 h2 => ho.block b h2 (by simp; omega), fun w' hs hk => h.2 w' (Nat.le_trans ho.size hs) fun b h1 h2 => (hk b h1 (Nat.lt_of_lt_of_le h2 ho.size)).trans (ho.block b h2 (by simp; omega))⟩
theorem cp_00 : (⟨ofFrac 0 1, ofFrac 0 1⟩ : PtD) = tp (0, 0) := (gpt_tp 0 0 (by omega) (by omega)).trans (congrArg tp (show qp1 0 0 = (0, 0) by decide +kernel))
theorem cp_01 : (⟨ofFrac 0 1, ofFrac 1 1⟩ : PtD) = tp (0, 1) := (gpt_tp 0 1 (by omega) (by omega)).trans (congrArg tp (show qp1 0 1 = (0, 1) by decide +kernel))
theorem cp_02 : (⟨ofFrac 0 1, ofFrac 2 1⟩ : PtD) = tp (0, 2) := (gpt_tp 0 2 (by omega) (by omega)).trans (congrArg tp (show qp1 0 2 = (0, 2) by decide +kernel))
theorem cp_10 : (⟨ofFrac 1 1, ofFrac 0 1⟩ : PtD) = tp (1, 0) := (gpt_tp 1 0 (by omega) (by omega)).trans (congrArg tp (show qp1 1 0 = (1, 0) by decide +kernel))
theorem cp_11 : (⟨ofFrac 1 1, ofFrac 1 1⟩ : PtD) = tp (1, 1) := (gpt_tp 1 1 (by omega) (by omega)).trans (congrArg tp (show qp1 1 1 = (1, 1) by decide +kernel))
theorem cp_12 : (⟨ofFrac 1 1, ofFrac 2 1⟩ : PtD) = tp (1, 2) := (gpt_tp 1 2 (by omega) (by omega)).trans (congrArg tp (show qp1 1 2 = (1, 2) by decide +kernel))
theorem cp_20 : (⟨ofFrac 2 1, ofFrac 0 1⟩ : PtD) = tp (2, 0) := (gpt_tp 2 0 (by omega) (by omega)).trans (congrArg tp (show qp1 2 0 = (2, 0) by decide +kernel))
theorem cp_21 : (⟨ofFrac 2 1, ofFrac 1 1⟩ : PtD) = tp (2, 1) := (gpt_tp 2 1 (by omega) (by omega)).trans (congrArg tp (show qp1 2 1 = (2, 1) by decide +kernel))
theorem cp_22 : (⟨ofFrac 2 1, ofFrac 2 1⟩ : PtD) = tp (2, 2) := (gpt_tp 2 2 (by omega) (by omega)).trans (congrArg tp (show qp1 2 2 = (2, 2) by decide +kernel))
end

end Go.Proofs.YtajlahjghapbkaaGreat
