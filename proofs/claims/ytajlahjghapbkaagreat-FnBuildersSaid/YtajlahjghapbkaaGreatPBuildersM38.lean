/- Lemmas. -/
import Derived.Test.YtajlahjghapbkaaGreatRows
import Derived.Test.YtajlahjghapbkaaGreatPBuildersM36
import Derived.Test.YtajlahjghapbkaaGreatPBuildersM37
import Derived.Test.YtajlahjghapbkaaGreatPBuildersM22
import Derived.Test.YtajlahjghapbkaaGreatPBuildersM24
import Derived.Test.YtajlahjghapbkaaGreatPBuildersM20
import Derived.Test.YtajlahjghapbkaaGreatPBuildersM18
import Derived.Test.YtajlahjghapbkaaGreatPBuildersM04
import Derived.Test.YtajlahjghapbkaaGreatPBuildersM19
import Derived.Test.YtajlahjghapbkaaGreatPBuildersM32
namespace Go.Proofs.YtajlahjghapbkaaGreat
section
open Go.RowKit

def EdIx (n : Nat) (l : List EdD) : Prop := ∀ e ∈ l, (0 ≤ e.a ∧ e.a < n) ∧ 0 ≤ e.b ∧ e.b < n
theorem mem_modify {f : EdD → EdD} : ∀ {l : List EdD} {p : Nat} {e : EdD}, e ∈ l.modify p f → e ∈ l ∨ ∃ x, x ∈ l ∧ e = f x
  | [], p, e, h => by simp at h
  | y :: ys, 0, e, h => by
    rw [List.modify_zero_cons, List.mem_cons] at h
    rcases h with h | h
    · exact .inr ⟨y, by simp, h⟩
    · exact .inl (by simp [h])
  | y :: ys, p + 1, e, h => by
    rw [List.modify_succ_cons, List.mem_cons] at h
    rcases h with h | h
    · exact .inl (by simp [h])
    · rcases mem_modify h with h | ⟨x, h1, h2⟩
      · exact .inl (by simp [h])
      · exact .inr ⟨x, by simp [h1], h2⟩
theorem EdIx.put {n : Nat} {l : List EdD} {a b k : Int} (h : EdIx n l) (ha : 0 ≤ a ∧ a < n) (hb : 0 ≤ b ∧ b < n) : EdIx n (putE l a b k) := by
  have hn : ((0 : Int) ≤ (newE a b).a ∧ (newE a b).a < (n : Int)) ∧ (0 : Int) ≤ (newE a b).b ∧ (newE a b).b < (n : Int) := by
    show ((0 : Int) ≤ min a b ∧ min a b < (n : Int)) ∧ (0 : Int) ≤ max a b ∧ max a b < (n : Int)
    omega
  have h2 : EdIx n (if fndE (newE a b) l then l else insE (newE a b) l) := by
    by_cases hf : fndE (newE a b) l = true
    · rw [if_pos hf]; exact h
    · rw [if_neg hf]
      intro e he
      unfold insE at he
      rw [List.mem_append, List.mem_cons] at he
      rcases he with he | rfl | he
      · exact h e (List.mem_of_mem_take he)
      · exact hn
      · exact h e (List.mem_of_mem_drop he)
  intro e he
  rcases mem_modify he with he | ⟨x, hx, rfl⟩
  · exact h2 e he
  · have := h2 x hx
    unfold setLR
    split <;> exact this
theorem edTo_ix {n : Nat} {ts : List TriD} (h : TrsIx n ts) : ∀ {k : Nat}, k ≤ ts.length → EdIx n (edTo ts k)
  | 0, _ => fun e he => by simp [edTo] at he
  | k + 1, hk => by
    obtain ⟨h1, h2, h3⟩ := h k (by omega)
    exact ((EdIx.put (edTo_ix h (by omega)) h1 h2).put h2 h3).put h3 h1
theorem EdIx.at_ {n : Nat} {l : List EdD} (h : EdIx n l) {k : Nat} (hk : k < l.length) : (0 ≤ (pix l k).a ∧ (pix l k).a < n) ∧ 0 ≤ (pix l k).b ∧ (pix l k).b < n := by
  refine h _ ?_
  unfold pix
  rw [List.getD_eq_getElem?_getD, List.getElem?_eq_getElem hk]
  exact List.getElem_mem hk
/-- On the boundary: one side has no triangle. -/
def bdE (e : EdD) : Bool := decide (e.l < 0) || decide (e.r < 0)
def onTo (l : List EdD) : Nat → Nat → Bool
  | 0, _ => false
  | k + 1, i => onTo l k i || (bdE (pix l k) && (decide ((pix l k).a = i) || decide ((pix l k).b = i)))
theorem onTo_no {l : List EdD} {k : Nat} {e : EdD} (he : pix l k = e) (h : bdE e = false) (i : Nat) : onTo l k i = onTo l (k + 1) i := by
  show _ = (onTo l k i || (bdE (pix l k) && _))
  rw [he, h, Bool.false_and, Bool.or_false]
theorem onTo_yes {l : List EdD} {k : Nat} {e : EdD} (he : pix l k = e) (h : bdE e = true) (ha : 0 ≤ e.a) (hb : 0 ≤ e.b) (i : Nat) : (if i = e.b.toNat then true else if i = e.a.toNat then true else onTo l k i) = onTo l (k + 1) i := by
  show _ = (onTo l k i || (bdE (pix l k) && (decide ((pix l k).a = i) || decide ((pix l k).b = i))))
  rw [he, h, Bool.true_and]
  by_cases h1 : i = e.b.toNat
  · rw [if_pos h1, decide_eq_true (show e.b = (i : Int) by omega), Bool.or_true, Bool.or_true]
  · rw [if_neg h1, decide_eq_false (show ¬ e.b = (i : Int) by omega), Bool.or_false]
    by_cases h2 : i = e.a.toNat
    · rw [if_pos h2, decide_eq_true (show e.a = (i : Int) by omega), Bool.or_true]
    · rw [if_neg h2, decide_eq_false (show ¬ e.a = (i : Int) by omega), Bool.or_false]
/-- The points up to k that are on the boundary (b), or are not. -/
def onPts (l : List EdD) (b : Bool) (k : Nat) : List Int := ((List.range k).filter (fun i => onTo l l.length i == b)).map (fun i : Nat => (i : Int))
theorem onPts_succ (l : List EdD) (b : Bool) (k : Nat) : onPts l b (k + 1) = if onTo l l.length k == b then onPts l b k ++ [(k : Int)] else onPts l b k := by
  unfold onPts
  rw [List.range_succ, List.filter_append, List.map_append]
  by_cases h : (onTo l l.length k == b) = true
  · rw [if_pos h, List.filter_cons_of_pos (by simpa using h)]; rfl
  · rw [if_neg h, List.filter_cons_of_neg (by simpa using h)]; simp
theorem onPts_len (l : List EdD) (b : Bool) (k : Nat) : (onPts l b k).length ≤ k := by
  unfold onPts
  rw [List.length_map]
  exact Nat.le_trans (List.length_filter_le _ _) (by simp)
theorem OwL.any {E : TypeId} {base : Nat} {w : World} {v : Value} {l : List Int} (h : OwL E base w v l) (hl : l.length ≤ 9223372036854775807) : ∃ A c, v = .slice A l.length c ∧ RdI w A l.length c l := by
  obtain ⟨A, c, e, ho⟩ := h.own hl
  exact ⟨A, c, e, ho.rd⟩

def IntsRes (w : World) (l : List Int) (en : Ending) (w' : World) : Prop := ∃ A n c, en = .returned (.slice A n c) ∧ RdI w' A n c l ∧ Bl w w'
set_option maxRecDepth 100000 in
set_option maxHeartbeats 32000000 in
theorem pointsOf_any (w : World) {A : Option Addr} {n cp gt m ct : Nat} {ts : List TriD} (b : Bool) (ht : RdTS w (some ⟨gt, 0, none⟩) m ct ts) (hm : m ≤ 10000) (hn : n ≤ 1048576) (hix : TrsIx n ts) :
    Calls Tryz.prog 111 #[.agg #[.slice A n cp, .slice (some ⟨gt, 0, none⟩) m ct], .bool b] w (IntsRes w (onPts (edL ts) b n)) := by
  have hE := Lib.hid (show EdIx n (edL ts) from edTo_ix hix (Nat.le_refl _))
  have hlE : (edL ts).length ≤ 30000 := by have h := edTo_len ts ts.length; rw [ht.len] at h; unfold edL; rw [ht.len]; omega
  have hix := Lib.hid hix; rename_i h_; clear h_
  go_enter Tryz.func111, Tryz.ntmps111
  have hmk := fun W : World => make_bools n (by omega) W
  go_wp2_with fail
  refine calls_gen (fun W => Bl w W ∧ ∃ gu, OwU W gu n (onTo (edL ts) 0) ∧ gu = w.heap.size + 1) ⟨by exact slc, _, by have := OwU.made (w.alloc (.cells #[.slice A n cp, .slice (some ⟨gt, 0, none⟩) m ct] 57)) n (onTo (edL ts) 0) (fun _ => rfl); rw [World.size_alloc] at this; exact this, rfl⟩ ?_
  rintro W ⟨hbW, gu, hU, hgu⟩
  rw [← hgu]
  have hgu0 : w.heap.size ≤ gu := by omega
  clear hgu hmk
  refine (edges_any _ (RdTS.bl ht hbW) hm).mono ?_
  rintro e w1 ⟨ge, ne, ce, rfl, hes, hge, hb1⟩
  have hgeu : ge ≠ gu := by have := hU.lt; omega
  have hU := hU.bl hb1
  have hbW := hbW.next hb1
  clear hb1
  have hne := Lib.hid hes.len
  have hnl : ne ≤ 30000 := by rw [← hes.len]; exact hlE
  have hcape := hes.cap
  obtain ⟨L, hL⟩ : ∃ L, edL ts = L := ⟨_, rfl⟩
  rw [hL] at hU hes hne hE ⊢
  have hLe := Lib.hid hL
  clear hL hlE
  go_wp2_with fail
  go_loopw [18] (fun v wr => ∃ k : Nat, k ≤ ne ∧ v = .int .i64 (k : Int) ∧ OwU wr gu n (onTo L k) ∧ RdES wr (some ⟨ge, 0, none⟩) ne ce L ∧ Bl w wr) (fun v _ => ne - (intOf v).toNat)
  case atStart => exact ⟨0, by omega, rfl, hU, hes, hbW⟩
  case round =>
    clear hU hes hbW hge
    obtain ⟨k, hk, rfl, hU, hes, hbw⟩ := hrel
    obtain ⟨wo, rfl⟩ : ∃ wo : World, wo = wr := ⟨_, rfl⟩
    by_cases hkn : k < ne
    · have hki : (k : Int) < (ne : Int) := by omega
      obtain ⟨c0, c1, c2, c3⟩ := eds_lit hes hkn
      obtain ⟨⟨ha0, ha1⟩, hb0, hb1⟩ := hE.out.at_ (k := k) (by rw [hne.out]; exact hkn)
      obtain ⟨ed, hed⟩ : ∃ ed, pix L k = ed := ⟨_, rfl⟩
      rw [hed] at c0 c1 c2 c3 ha0 ha1 hb0 hb1
      have hed := Lib.hid hed; rename_i h_; clear h_
      go_upto_region 5 with (fail)
      refine wp_gen (fun W2 => Bl wo W2 ∧ ∃ g7, Blk W2 g7 175 #[.int .i64 ed.a, .int .i64 ed.b, .int .i64 ed.l, .int .i64 ed.r] ∧ g7 = wo.heap.size) ⟨by exact slc, _, by exact bts, rfl⟩ ?_
      rintro W2 ⟨hb2, g7, h7, hg7⟩
      rw [← hg7]
      have hg7u : gu ≠ g7 := by have := hU.lt; omega
      have hU := hU.bl hb2
      have hes := hes.bl hb2
      have hbw := hbw.next hb2
      clear c0 c1 c2 c3 hg7 hb2
      obtain ⟨y0, y1, y2, y3⟩ := bx4 h7
      have h7l := h7.lt
      have ux := hU.cell (i := ed.a.toNat) (by omega)
      have uf := hU.frozen ed.a.toNat
      have vx := hU.cell (i := ed.b.toNat) (by omega)
      have vf_ := hU.frozen ed.b.toNat
      have vx2 := (hU.set ed.a.toNat true).cell (i := ed.b.toNat) (by omega)
      have vf2 := (hU.set ed.a.toNat true).frozen ed.b.toNat
      have ux2 := (hU.set ed.b.toNat true).cell (i := ed.a.toNat) (by omega)
      have uf2 := (hU.set ed.b.toNat true).frozen ed.a.toNat
      obtain ⟨q1, hq1⟩ : ∃ q, (if ed.b.toNat = ed.a.toNat then true else onTo L k ed.b.toNat) = q := ⟨_, rfl⟩
      obtain ⟨q2, hq2⟩ : ∃ q, (if ed.a.toNat = ed.b.toNat then true else onTo L k ed.a.toNat) = q := ⟨_, rfl⟩
      rw [hq1] at vx2
      rw [hq2] at ux2
      clear hq1 hq2
      obtain ⟨ya0, ya1, ya2, ya3⟩ := bx4 (h7.far (p := ⟨gu, ed.a.toNat, none⟩) (Ne.symm hg7u) (.bool true))
      obtain ⟨yb0, yb1, yb2, yb3⟩ := bx4 (h7.far (p := ⟨gu, ed.b.toNat, none⟩) (Ne.symm hg7u) (.bool true))
      by_cases hl : ed.l < 0
      · have hbd : bdE ed = true := by unfold bdE; rw [decide_eq_true hl, Bool.true_or]
        have hbd := Lib.hid hbd; rename_i h_; clear h_
        go_wp2_with fail
        go_region
        all_goals go_wp2_with fail
        all_goals go_roundw
        case rel => exact ⟨k + 1, by omega, by go_num, (((hU.set _ true).set _ true).congr (fun i _ => onTo_yes hed.out hbd.out ha0 hb0 i)).bl (Bl.refl _).drew, ((hes.setLit hgeu _).setLit hgeu _).bl (Bl.refl _).drew, (Bl.set (Bl.set hbw hgu0 _) hgu0 _).drew⟩
        case measure => simp [intOf]; omega
      · by_cases hr : ed.r < 0
        · have hbd : bdE ed = true := by unfold bdE; rw [decide_eq_true hr, Bool.or_true]
          have hbd := Lib.hid hbd; rename_i h_; clear h_
          go_wp2_with fail
          go_region
          all_goals go_wp2_with fail
          all_goals go_roundw
          case rel => exact ⟨k + 1, by omega, by go_num, (((hU.set _ true).set _ true).congr (fun i _ => onTo_yes hed.out hbd.out ha0 hb0 i)).bl (Bl.refl _).drew, ((hes.setLit hgeu _).setLit hgeu _).bl (Bl.refl _).drew, (Bl.set (Bl.set hbw hgu0 _) hgu0 _).drew⟩
          case measure => simp [intOf]; omega
        · have hbd : bdE ed = false := by unfold bdE; rw [decide_eq_false hr, decide_eq_false hl]; rfl
          have hbd := Lib.hid hbd; rename_i h_; clear h_
          go_wp2_with fail
          go_roundw
          case rel => exact ⟨k + 1, by omega, by go_num, hU.congr (fun i _ => onTo_no hed.out hbd.out i), hes, hbw⟩
          case measure => simp [intOf]; omega
    · obtain rfl : k = ne := by omega
      have hkm2 : ¬ (k : Int) < (k : Int) := by omega
      have hon : ∀ i, i < n → wo.cell? ⟨gu, i, none⟩ = some (.bool (onTo L L.length i)) := by
        intro i hi
        rw [hU.cell hi, hne.out]
      have hon := Lib.hid hon; rename_i h_; clear h_
      have hgu2 := hU.lt
      go_wp2_with fail
      refine wp_gen (fun W3 => Bl wo W3 ∧ ∃ v c, OwL 3 wo.heap.size W3 v (onPts L b 0) ∧ v = .slice (some ⟨wo.heap.size, 0, none⟩) 0 c ∧ c = 0) ⟨by exact slc, _, 0, OwL.empty wo (Nat.le_refl _) (by decide), rfl, rfl⟩ ?_
      rintro W3 ⟨hb3, v0, c, hX, hv0, rfl⟩
      rw [← hv0]
      clear hv0
      go_loopw [8, 42] (fun s v wr => ∃ (i : Nat) (o : Value), i ≤ n ∧ v = .int .i64 (i : Int) ∧ o = s ∧ OwL 3 wo.heap.size wr o (onPts L b i) ∧ Bl wo wr) (fun _ v _ => n - (intOf v).toNat)
      case atStart => exact ⟨0, v0, by omega, rfl, rfl, hX, hb3⟩
      case round =>
        clear hX hb3
        obtain ⟨i, o, hi, rfl, rfl, hX, hbi⟩ := hrel
        obtain ⟨wj, rfl⟩ : ∃ wj : World, wj = wr := ⟨_, rfl⟩
        by_cases hin : i < n
        · have hii : (i : Int) < (n : Int) := by omega
          have x0 : wj.cell? ⟨gu, i, none⟩ = some (.bool (onTo L L.length i)) := by rw [hbi.cellOf (p := ⟨gu, i, none⟩) hgu2]; exact hon.out i hin
          have hS := onPts_succ L b i
          have hSl := onPts_len L b i
          obtain ⟨q, hq⟩ : ∃ q, onTo L L.length i = q := ⟨_, rfl⟩
          rw [hq] at x0 hS
          clear hq
          by_cases hqb : q = b
          · have hS1 : onPts L b (i + 1) = onPts L b i ++ [(i : Int)] := by rw [hS, if_pos (by simpa using hqb)]
            have hS2 := Lib.hid hS1
            clear hS hS1
            subst hqb
            go_wp2_with ((refine wpList_append_intX (w0 := wo) info_int Tryz.underlying25 rfl (.tmp 50) (.tmp 52) rfl _ (onPts L q i) (by rfl) hX hbi 1 (by rfl) (by omega) ?_); intro vx7 w7 hX7 hb7 hoth)
            rw [← hS2.out] at hX7
            go_roundw
            case rel => exact ⟨i + 1, vx7, by omega, by go_num, rfl, hX7, hb7⟩
            case measure => simp [intOf]; omega
          · have hS1 : onPts L b (i + 1) = onPts L b i := by rw [hS, if_neg (by simpa using hqb)]
            have hS2 := Lib.hid hS1
            clear hS hS1
            rcases (show (q = true ∧ b = false) ∨ (q = false ∧ b = true) by cases q <;> cases b <;> simp at hqb ⊢) with ⟨rfl, rfl⟩ | ⟨rfl, rfl⟩
            · go_wp2_with fail
              go_roundw
              case rel => exact ⟨i + 1, o, by omega, by go_num, rfl, by rw [hS2.out]; exact hX, hbi⟩
              case measure => simp [intOf]; omega
            · go_wp2_with fail
              go_roundw
              case rel => exact ⟨i + 1, o, by omega, by go_num, rfl, by rw [hS2.out]; exact hX, hbi⟩
              case measure => simp [intOf]; omega
        · obtain rfl : i = n := by omega
          have hkm3 : ¬ (i : Int) < (i : Int) := by omega
          have hSl := onPts_len L b i
          obtain ⟨B, c, rfl, hR⟩ := hX.any (by omega)
          go_wp2_with fail
          go_ret
          exact ⟨B, _, c, rfl, by rw [hLe.out]; exact hR, hbw.next hbi⟩

/-- A mesh in memory. -/
def MeAt (w : World) (v : Value) (mq : MeQ) : Prop := ∃ gp n cp gt m ct, v = .agg #[.slice (some ⟨gp, 0, none⟩) n cp, .slice (some ⟨gt, 0, none⟩) m ct] ∧ RdPS w (some ⟨gp, 0, none⟩) n cp (mq.pts.map tp) ∧ RdTS w (some ⟨gt, 0, none⟩) m ct mq.tris
theorem MeAt.bl {w W : World} {v : Value} {mq : MeQ} (h : MeAt w v mq) (hb : Bl w W) : MeAt W v mq := by
  obtain ⟨gp, n, cp, gt, m, ct, e, hp, ht⟩ := h
  exact ⟨gp, n, cp, gt, m, ct, e, RdPS.bl hp hb, RdTS.bl ht hb⟩
def inPts (mq : MeQ) : List Int := onPts (edL mq.tris) false mq.pts.length
theorem InteriorPoints_yes (w : World) {v : Value} {mq : MeQ} (h : MeAt w v mq) (hok : MeshOk mq) :
    Calls Tryz.prog 41 #[v] w (IntsRes w (inPts mq)) := by
  obtain ⟨gp, n, cp, gt, m, ct, rfl, hp, ht⟩ := h
  have hok := Lib.hid hok; rename_i h_; clear h_
  go_enter Tryz.func41, Tryz.ntmps41
  go_wp2_with fail
  refine calls_gen (fun W => Bl w W ∧ Blk W w.heap.size 57 #[.slice (some ⟨gp, 0, none⟩) n cp, .slice (some ⟨gt, 0, none⟩) m ct]) ⟨slc, bts⟩ ?_
  rintro W ⟨hbW, hM⟩
  refine (IsMesh_yes _ (RdPS.bl hp hbW) (RdTS.bl ht hbW) hok.out).mono ?_
  rintro e w1 ⟨rfl, hb1⟩
  have hM := hM.bl hb1
  have hbW := hbW.next hb1
  clear hb1
  obtain ⟨r0, r1⟩ := bx2 hM
  have hn := Lib.hid (show mq.pts.length = n by rw [← hp.len, List.length_map])
  have hn40 : n ≤ 1048576 := by have := hok.out.n40; rw [hn.out] at this; omega
  have hm48 : m ≤ 10000 := by have := hok.out.t48; rw [ht.len] at this; omega
  go_wp2_with fail
  refine (pointsOf_any _ false (RdTS.bl ht hbW) hm48 hn40 (by have := hok.out.ixs; rw [hn.out] at this; exact this)).mono ?_
  rintro e w2 ⟨A, k, c, rfl, hR, hb2⟩
  rw [show onPts (edL mq.tris) false n = inPts mq by unfold inPts; rw [hn.out]] at hR
  go_wp2_with fail
  go_ret
  exact ⟨A, k, c, rfl, hR, hbW.next hb2⟩
end

section
open Go.RowKit

theorem sumTo_bd {α : Type} [Inhabited α] {f : α → Nat} {l : List α} {b : Nat} : ∀ {k : Nat}, (∀ i, i < k → f (pix l i) ≤ b) → sumTo f l k ≤ k * b
  | 0, _ => by simp [sumTo]
  | k + 1, h => by
    have h1 := sumTo_bd (k := k) (fun i hi => h i (by omega))
    have h2 := h k (by omega)
    have h3 : (k + 1) * b = k * b + b := Nat.succ_mul k b
    show sumTo f l k + f (pix l k) ≤ _
    omega
theorem MeshOk.sz {mq : MeQ} (h : MeshOk mq) : szL szP (mq.pts.map tp) ≤ 1048576 := by
  have h1 : ∀ i, i < (mq.pts.map tp).length → szP (pix (mq.pts.map tp) i) ≤ 4 := by
    intro i hi
    rw [List.length_map] at hi
    rw [pix_map hi]
    obtain ⟨s1, s2⟩ := h.place.1 i hi
    have a1 := s1.mag
    have a2 := s1.den
    have a3 := s2.mag
    have a4 := s2.den
    show ((toR (pix mq.pts i).1).mag.length + (toR (pix mq.pts i).1).den.length) + ((toR (pix mq.pts i).2).mag.length + (toR (pix mq.pts i).2).den.length) ≤ 4
    omega
  have h2 := sumTo_bd h1
  have h3 := h.n40
  unfold szL
  rw [List.length_map] at *
  omega
/-- The corners of triangle k. -/
def mc (mq : MeQ) (x : Int) : Rat × Rat := pix mq.pts x.toNat
theorem cornL_me {mq : MeQ} (h : TrsIx mq.pts.length mq.tris) {k : Nat} (hk : k < mq.tris.length) : cornL ⟨mq.pts.map tp, mq.tris⟩ (k : Int) = [tp (mc mq (pix mq.tris k).a), tp (mc mq (pix mq.tris k).b), tp (mc mq (pix mq.tris k).c)] := by
  obtain ⟨⟨a0, a1⟩, ⟨b0, b1⟩, c0, c1⟩ := h k hk
  unfold cornL
  rw [if_pos]
  · show [pix (mq.pts.map tp) _, pix (mq.pts.map tp) _, pix (mq.pts.map tp) _] = _
    rw [Int.toNat_natCast]
    show [pix (mq.pts.map tp) (pix mq.tris k).a.toNat, pix (mq.pts.map tp) (pix mq.tris k).b.toNat, pix (mq.pts.map tp) (pix mq.tris k).c.toNat] = _
    rw [pix_map (by omega), pix_map (by omega), pix_map (by omega)]
    rfl
  · refine ⟨⟨by omega, by show (k : Int) ≤ (mq.tris.length : Int) - 1; omega⟩, fun j hj => ?_⟩
    rw [Int.toNat_natCast]
    show 0 ≤ triIx (pix mq.tris k) j ∧ triIx (pix mq.tris k) j ≤ ((mq.pts.map tp).length : Int) - 1
    rw [List.length_map]
    rcases (show j = 0 ∨ j = 1 ∨ j = 2 by omega) with rfl | rfl | rfl
    · show 0 ≤ (pix mq.tris k).a ∧ (pix mq.tris k).a ≤ _; omega
    · show 0 ≤ (pix mq.tris k).b ∧ (pix mq.tris k).b ≤ _; omega
    · show 0 ≤ (pix mq.tris k).c ∧ (pix mq.tris k).c ≤ _; omega
noncomputable def arK (mq : MeQ) (k : Nat) : RatD := areaR (tp (mc mq (pix mq.tris k).a)) (tp (mc mq (pix mq.tris k).b)) (tp (mc mq (pix mq.tris k).c))
noncomputable def arTo (mq : MeQ) (k : Nat) : List RatD := (List.range k).map (arK mq)
theorem arTo_succ (mq : MeQ) (k : Nat) : arTo mq (k + 1) = arTo mq k ++ [arK mq k] := by unfold arTo; rw [List.range_succ, List.map_append]; rfl
theorem arTo_len (mq : MeQ) (k : Nat) : (arTo mq k).length = k := by simp [arTo]
/-- The area of a mesh. -/
noncomputable def areaM (mq : MeQ) : RatD := sumS (arTo mq mq.tris.length)
theorem OwPZ.lit3 {TI TP : TypeId} {lo hi : Nat} {w : World} {A : Option Addr} {n c : Nat} {p q r : PtD} (h : OwPZ TI TP lo hi w A n c [p, q, r]) : ∃ g, A = some ⟨g, 0, none⟩ ∧ n = 3 := by
  obtain ⟨h1, h2, h3, h4⟩ := h
  rcases h4 with h4 | ⟨g, cs, fs, rfl, _⟩
  · subst h4; cases h1
  · exact ⟨g, rfl, h1.symm⟩

set_option maxRecDepth 100000 in
set_option maxHeartbeats 16000000 in
theorem MeshArea_yes (w : World) {v : Value} {mq : MeQ} (h : MeAt w v mq) (hok : MeshOk mq) :
    Calls Tryz.prog 39 #[v] w fun e w' => ∃ s1 A1 n1 c1 B1 m1 d1, e = .returned (.agg #[.bool s1, .slice A1 n1 c1, .slice B1 m1 d1]) ∧ OwR 3 w.heap.size w' s1 A1 n1 c1 B1 m1 d1 (areaM mq) ∧ Bl w w' := by
  obtain ⟨gp, n, cp, gt, m, ct, rfl, hp, ht⟩ := h
  have hm48 : m ≤ 48 := by have := hok.t48; rw [ht.len] at this; exact this
  have hn := Lib.hid (show mq.pts.length = n by rw [← hp.len, List.length_map])
  have hm := Lib.hid ht.len
  have hok := Lib.hid hok; rename_i h_; clear h_
  go_enter Tryz.func39, Tryz.ntmps39
  go_wp2_with fail
  refine calls_gen (fun W => Bl w W ∧ Blk W w.heap.size 57 #[.slice (some ⟨gp, 0, none⟩) n cp, .slice (some ⟨gt, 0, none⟩) m ct] ∧ Wk 3 29 (w.heap.size + 1) W) ⟨slc, bts, bts⟩ ?_
  rintro W ⟨hbW, hM, hr⟩
  refine (IsMesh_yes _ (RdPS.bl hp hbW) (RdTS.bl ht hbW) hok.out).mono ?_
  rintro e w1 ⟨rfl, hb1⟩
  have hM := hM.bl hb1
  have hr := hr.bl hb1
  have hbW := hbW.next hb1
  clear hb1
  obtain ⟨r0, r1⟩ := bx2 hM
  have hMl := hM.lt
  go_wp2_with fail
  refine wp_gen (fun W2 => Bl w1 W2 ∧ ∃ v0 c0 hi, RowR List.Nodup w1.heap.size hi W2 v0 (arTo mq 0) ∧ w1.heap.size ≤ hi ∧ hi ≤ W2.heap.size ∧ v0 = .slice (some ⟨w1.heap.size, 0, none⟩) 0 c0 ∧ c0 = 0) ⟨by exact slc, _, 0, _, RowG.empty appN_nodup w1 (Nat.le_refl _), by omega, by simp, rfl, rfl⟩ ?_
  rintro W2 ⟨hb2, v0, c0, hi, hX, hlo, hhi, hv0, rfl⟩
  rw [← hv0]
  clear hv0 r0 r1
  go_loopw [3, 13] (fun s v wr => ∃ (k : Nat) (o : Value) (hi : Nat), k ≤ m ∧ v = .int .i64 (k : Int) ∧ o = s ∧ RowR List.Nodup w1.heap.size hi wr o (arTo mq k) ∧ w1.heap.size ≤ hi ∧ hi ≤ wr.heap.size ∧ Bl w1 wr) (fun _ v _ => m - (intOf v).toNat)
  case atStart => exact ⟨0, v0, hi, by omega, rfl, rfl, hX, hlo, hhi, hb2⟩
  case round =>
    clear hX hlo hhi hb2
    obtain ⟨k, o, hi, hk, rfl, rfl, hX, hlo, hhi, hbi⟩ := hrel
    obtain ⟨wj, rfl⟩ : ∃ wj : World, wj = wr := ⟨_, rfl⟩
    have hMj := hM.bl hbi
    have hbj := hbW.next hbi
    by_cases hkm : k < m
    · have hki : (k : Int) < (m : Int) := by omega
      have hS := Lib.hid (arTo_succ mq k)
      obtain ⟨r0, r1⟩ := bx2 hMj
      go_wp2_with fail
      refine (Corners_any (x := ⟨mq.pts.map tp, mq.tris⟩) _ (k : Int) (RdPS.bl hp hbj) (RdTS.bl ht hbj) hok.out.sz).mono ?_
      rw [cornL_me hok.out.ixs (by rw [hm.out]; exact hkm)]
      rintro e w3 ⟨A3, n3, c3, rfl, hO3, hb3⟩
      obtain ⟨g3, rfl, rfl⟩ := hO3.lit3
      clear r0 r1
      go_wp2_with fail
      refine (area_any _ hO3.rd).mono ?_
      rintro e w4 ⟨s4, A4, n4, c4, B4, m4, d4, rfl, hR4, hb4⟩
      have hb34 := hb3.next hb4
      have hX4 := hX.bl (rtIn_keep 3) hb34
      have hsz3 := hb3.size
      have hb14 := hbi.next hb34
      go_wp2_with ((refine wpList_append_rat rfl (.tmp 16) (.tmp 21) rfl _ (by rfl) hX4 hR4 (by omega) (by omega) 1 (by rfl) (by rw [arTo_len]; omega) w1 hb14 (Nat.le_refl _) ?_); intro v7 w7 hX7 hb7)
      go_roundw
      case rel => exact ⟨k + 1, v7, _, by omega, by go_num, rfl, by rw [hS.out]; exact hX7, hb7.size, Nat.le_refl _, hb7⟩
      case measure => simp [intOf]; omega
    · obtain rfl : k = m := by omega
      have hkm2 : ¬ (k : Int) < (k : Int) := by omega
      have hr := hr.bl hbi
      obtain ⟨A5, c5, bs5, rfl, hF5, _⟩ := hX.ft (by rw [arTo_len]; omega)
      go_wp2_with fail
      refine (sumOf_any _ hF5.rd).mono ?_
      rw [show sumS (arTo mq k) = areaM mq by unfold areaM; rw [hm.out]]
      rintro e w6 ⟨s1, A1, n1, c1, B1, m1, d1, rfl, hR, hb6⟩
      have hz := hr.lt
      have hr := hr.bl hb6
      have hbW := hbj.next hb6
      obtain ⟨v0, x0⟩ := hr.val_ (i := 0) (by omega)
      obtain ⟨v1, x1⟩ := hr.val_ (i := 1) (by omega)
      obtain ⟨v2, x2⟩ := hr.val_ (i := 2) (by omega)
      have hg := hr.lt
      obtain ⟨cs4, hB4, hc4⟩ := hr
      have hf0 := hB4.frozen 0
      have hf1 := hB4.frozen 1
      have hf2 := hB4.frozen 2
      go_wp2_with fail
      exact bodyPost_ret (v := .agg #[.bool s1, .slice A1 n1 c1, .slice B1 m1 d1]) (by simp [results, Tryz.results39, go_sem, x0, x1, x2]) rfl ⟨_, _, _, _, _, _, _, rfl, (((hR.far (by show _ < _; omega) _).far (by show _ < _; omega) _).far (by show _ < _; omega) _).mono (by omega), slc⟩
end

section
open Go.RowKit

def encT (t : TriD) : List Value := [.int .i64 t.a, .int .i64 t.b, .int .i64 t.c, .int .i64 t.region, .int .i64 t.level]
theorem flatT_len : ∀ (l : List TriD), (l.flatMap encT).length = l.length * 5
  | [] => rfl
  | x :: xs => by
    have h5 : (encT x).length = 5 := rfl
    rw [List.flatMap_cons, List.length_append, flatT_len xs, h5, List.length_cons]
    omega
theorem flatT_get : ∀ (l : List TriD) {k j : Nat}, k < l.length → j < 5 → (l.flatMap encT)[k * 5 + j]? = (encT (pix l k))[j]?
  | [], k, j, hk, _ => by simp at hk
  | x :: xs, k, j, hk, hj => by
    have h4 : (encT x).length = 5 := rfl
    rw [List.flatMap_cons]
    rcases k with _ | k
    · rw [List.getElem?_append_left (by omega), pix_zero]
      congr 1
      omega
    · rw [List.getElem?_append_right (by omega), h4, pix_succ, show (k + 1) * 5 + j - 5 = k * 5 + j by omega]
      exact flatT_get xs (by simpa using hk) hj
theorem encT_one {t : TriD} {u : Value} (h : u ∈ encT t) : u.oneCell' = true := by
  unfold encT at h
  simp at h
  rcases h with rfl | rfl | rfl | rfl | rfl <;> rfl
/-- A row of triangles in memory of one's own. -/
def OwT (base : Nat) (w : World) (v : Value) (l : List TriD) : Prop := w.ownsRow base 73 5 v l.length (l.flatMap encT)
section
variable {base : Nat} {w W : World} {v : Value} {l : List TriD}
theorem OwT.empty (w : World) (hb : base ≤ w.heap.size) : OwT base (w.alloc (.cells #[] 73)) (.slice (some ⟨w.heap.size, 0, none⟩) 0 0) [] := World.ownsRow_made w #[] 0 hb (Nat.zero_le _) (by simp)
theorem OwT.keep (h : OwT base w v l) (h1 : ∀ g, v.ownBlock = Option.some g → W.heap[g]? = w.heap[g]?) : OwT base W v l := by
  refine ⟨h.1, ?_⟩
  rcases h.2 with h2 | ⟨g, cap, cur, hv, hg, hh, r⟩
  · exact .inl h2
  · exact .inr ⟨g, cap, cur, hv, hg, (h1 g (by rw [hv]; rfl)).trans hh, r⟩
theorem OwT.blk (h : OwT base w v l) {g : Nat} (hg : v.ownBlock = Option.some g) : base ≤ g ∧ g < w.heap.size := World.ownsRow.lt h g hg
theorem OwT.bl (h : OwT base w v l) (hb : Bl w W) : OwT base W v l := h.keep fun g e => Below.block hb g (h.blk e).2
/-- The row, opened. -/
theorem OwT.lit (h : OwT base w v l) (hnil : v ≠ .slice none 0 0) : ∃ g c, v = .slice (some ⟨g, 0, none⟩) l.length c ∧ base ≤ g ∧ RdTS w (some ⟨g, 0, none⟩) l.length c l ∧ g < w.heap.size ∧ (∀ o, w.frozen? ⟨g, o, none⟩ = false) := by
  obtain ⟨hcl, ⟨h, _⟩ | ⟨g, cap, cur, rfl, hg, hh, hnc, hm, hcs, htk⟩⟩ := id h
  · exact absurd h hnil
  have hc : ∀ k j u, k < l.length → j < 5 → (encT (pix l k))[j]? = some u → w.cell? ⟨g, k * 5 + j, none⟩ = some u := fun k j u hk hj hu => row_cell hh htk (by rw [flatT_get l hk hj]; exact hu)
  refine ⟨g, cap, rfl, hg, ⟨rfl, hnc, by unfold maxLen at hm; omega, fun k hk => ⟨_, rfl, heap_lt hh, ?_⟩⟩, heap_lt hh, fun o => by simp [World.frozen?, hh]⟩
  rw [Addr.add_lit, Nat.zero_add]
  exact ⟨hc k 0 _ hk (by omega) rfl, hc k 1 _ hk (by omega) rfl, hc k 2 _ hk (by omega) rfl, hc k 3 _ hk (by omega) rfl, hc k 4 _ hk (by omega) rfl⟩
end

theorem wpList_append_tris {w0 W : World} {ops : Array Oper} {rest : List Oper} {o : Oper} {a : Act} {Q : Exit → Act → World → Prop} (hgd : o.guard = none) (s x : Operand)
    (ho : o.op = .call { callee := .builtin .append, args := #[s, x], argTypes := #[55, 55] }) (v : Value) (l : List TriD) (hs : a.eval s = v) (hown : OwT w0.heap.size W v l) (hnil : v ≠ .slice none 0 0) (hb : Bl w0 W)
    (g m c : Nat) (hx : a.eval x = .slice (some ⟨g, 0, none⟩) m c) (ys : List TriD) (hr : RdTS W (some ⟨g, 0, none⟩) m c ys) (hlen : l.length ≤ 1048576) (hm : m ≤ 1048576)
    (h : ∀ v' w', OwT w0.heap.size w' v' (l ++ ys) → v' ≠ .slice none 0 0 → Bl w0 w' → wpList Tryz.prog ops Q rest (a.put o.dst v') w') : wpList Tryz.prog ops Q (o :: rest) a W := by
  obtain ⟨i0, hi, hz0, hz1, hz2⟩ := info_parts info_tri'
  refine wpList_append_own _ hgd s x 55 ho w0.heap.size 73 i0 _ 5 40 Tryz.underlying55 hi hz0 hz1 hz2 rfl (by omega) v l.length (l.flatMap encT) hs hown ⟨g, 0, none⟩ m c (ys.flatMap encT) hx (by rw [flatT_len, hr.len]) ?_ ?_ (by simp only [maxLen]; omega) (by omega) hb.size ?_
  · intro j u hu
    have hj : j < ys.length * 5 := by
      rcases Nat.lt_or_ge j (ys.length * 5) with h | h
      · exact h
      · rw [List.getElem?_eq_none (by rw [flatT_len]; exact h)] at hu; simp at hu
    have hl := hr.len
    have hk : j / 5 < ys.length := by omega
    have e : j = j / 5 * 5 + j % 5 := by omega
    rw [e, flatT_get ys hk (Nat.mod_lt _ (by omega))] at hu
    obtain ⟨c0, c1, c2, c3, c4⟩ := trs_lit hr (show j / 5 < m by omega)
    rw [Addr.add_lit, Nat.zero_add, e]
    have h5 : j % 5 < 5 := Nat.mod_lt _ (by omega)
    generalize j % 5 = q at hu h5 ⊢
    rcases (show q = 0 ∨ q = 1 ∨ q = 2 ∨ q = 3 ∨ q = 4 by omega) with rfl | rfl | rfl | rfl | rfl
    · exact c0.trans hu
    · exact c1.trans hu
    · exact c2.trans hu
    · exact c3.trans hu
    · exact c4.trans hu
  · intro u hu
    obtain ⟨t, _, ht⟩ := List.mem_flatMap.1 hu
    exact encT_one ht
  · intro v' w' h1 h2 h3
    refine h v' w' ?_ (fun e => hnil (h3.1 e).1) (hb.grown h2 fun k hk => (hown.blk hk).1)
    unfold OwT
    rw [List.length_append, hr.len, List.flatMap_append]
    exact h1
set_option maxHeartbeats 1600000 in
theorem CloneTri_any (w : World) {g n c : Nat} {l : List TriD} (h : RdTS w (some ⟨g, 0, none⟩) n c l) (hn : n ≤ 1048576) :
    Calls Tryz.prog 160 #[.slice (some ⟨g, 0, none⟩) n c] w fun e w' => ∃ g' c', e = .returned (.slice (some ⟨g', 0, none⟩) n c') ∧ OwT w.heap.size w' (.slice (some ⟨g', 0, none⟩) n c') l ∧ Bl w w' := by
  have he : ∀ W a n c, (binOp .eql 55 (.slice a n c) (.slice none 0 0)).run Tryz.prog W = .ok (.bool a.isNone) W := fun W a n c => Lib.run_eql_slice_nil W 55 73 a n c 0 0 Tryz.underlying55
  have hl := Lib.hid h.len
  go_enter Tryz.func160, Tryz.ntmps160
  go_wp2_with (at_builtin; go_must (refine wpList_append_tris (w0 := w) rfl (.tmp 5) (.tmp 6) rfl _ [] rfl (OwT.empty w (Nat.le_refl _)) (fun e => by cases e) ((Bl.refl w).alloc _) g n c rfl l (RdTS.bl h ((Bl.refl w).alloc _)) (by simp) (by omega) ?_); intro v' w1 hown1 hnil1 hbw1)
  rw [List.nil_append] at hown1
  obtain ⟨g', c', hv, _, _, _, _⟩ := hown1.lit hnil1
  rw [hl.out] at hv
  subst hv
  go_ret
  exact ⟨g', c', rfl, hown1, hbw1⟩
end

end Go.Proofs.YtajlahjghapbkaaGreat
