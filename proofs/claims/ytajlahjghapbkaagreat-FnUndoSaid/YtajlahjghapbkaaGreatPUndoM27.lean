/- Lemmas. -/
import Derived.Test.YtajlahjghapbkaaGreatRows
import Derived.Test.YtajlahjghapbkaaGreatPUndoM26
import Derived.Test.YtajlahjghapbkaaGreatPUndoM19
import Derived.Lib.MinMax
import Derived.Test.YtajlahjghapbkaaGreatPUndoM16
import Derived.Deep.Cut
import Derived.Deep.DeepCutAuto
namespace Go.Proofs.YtajlahjghapbkaaGreat
section
open Go.RowKit

/-- Flag i of a list of flags. -/
def bgt (bl : List Bool) (i : Nat) : Bool := bl.getD i false
theorem bgt_set {bl : List Bool} {n k : Nat} (hl : bl.length = n) (x : Bool) (i : Nat) (hi : i < n) : (if i = k then x else bgt bl i) = bgt (bl.set k x) i := by
  unfold bgt
  rw [List.getD_eq_getElem?_getD, List.getD_eq_getElem?_getD, List.getElem?_set]
  by_cases e : i = k
  · subst e
    rw [if_pos rfl, if_pos rfl, if_pos (by omega)]
    rfl
  · rw [if_neg e, if_neg (fun h => e h.symm)]
theorem bgt_rep (n i : Nat) : bgt (List.replicate n false) i = false := by
  unfold bgt
  rw [List.getD_eq_getElem?_getD, List.getElem?_replicate]
  by_cases e : i < n
  · rw [if_pos e]; rfl
  · rw [if_neg e]; rfl
/-- The flags of the first k indices of a list. -/
def mkTo (l : List Int) (n : Nat) : Nat → List Bool
  | 0 => List.replicate n false
  | k + 1 => if 0 ≤ ix l k ∧ ix l k ≤ (n : Int) - 1 then (mkTo l n k).set (ix l k).toNat true else mkTo l n k
def mkA (l : List Int) (n : Nat) : List Bool := mkTo l n l.length
theorem mkTo_len (l : List Int) (n : Nat) : ∀ k, (mkTo l n k).length = n
  | 0 => by simp [mkTo]
  | k + 1 => by
    unfold mkTo
    split
    · rw [List.length_set, mkTo_len l n k]
    · exact mkTo_len l n k
theorem mkA_len (l : List Int) (n : Nat) : (mkA l n).length = n := mkTo_len l n _
/-- The marked indices among the first k. -/
def lsTo (bl : List Bool) (k : Nat) : List Int := ((List.range k).filter (bgt bl)).map (fun i : Nat => (i : Int))
def lsA (bl : List Bool) : List Int := lsTo bl bl.length
theorem lsTo_succ (bl : List Bool) (k : Nat) : lsTo bl (k + 1) = if bgt bl k = true then lsTo bl k ++ [(k : Int)] else lsTo bl k := by
  unfold lsTo
  rw [List.range_succ, List.filter_append, List.map_append]
  by_cases h : bgt bl k = true
  · rw [if_pos h]; simp [h]
  · rw [if_neg h]; simp [h]
theorem lsTo_len (bl : List Bool) (k : Nat) : (lsTo bl k).length ≤ k := by
  unfold lsTo
  rw [List.length_map]
  exact Nat.le_trans (List.length_filter_le _ _) (by simp)
theorem ix_mem {l : List Int} {k : Nat} (h : k < l.length) : ix l k ∈ l := by
  unfold ix
  rw [List.getD_eq_getElem?_getD, List.getElem?_eq_getElem h]
  exact List.getElem_mem h
/-- The refinement edges of the first k triangles of a list. -/
def emTo (ts : List TriD) (L : List EdD) (ks : List Int) : Nat → List Bool
  | 0 => List.replicate L.length false
  | k + 1 => (emTo ts L ks k).set (posE (newE (pix ts (ix ks k).toNat).b (pix ts (ix ks k).toNat).c) L) true
def emB (ts : List TriD) (bl : List Bool) : List Bool := emTo ts (edL ts) (lsA bl) (lsA bl).length
def emA (ts : List TriD) (l : List Int) : List Int := lsA (emB ts (mkA l ts.length))
/-- All edges of the triangles are among the edges. -/
def EdHas (ts : List TriD) (L : List EdD) : Prop := ∀ k, k < ts.length → fndE (newE (pix ts k).b (pix ts k).c) L = true ∧ fndE (newE (pix ts k).a (pix ts k).b) L = true ∧ fndE (newE (pix ts k).c (pix ts k).a) L = true
theorem fndE_lt {e : EdD} {L : List EdD} (h : fndE e L = true) : posE e L < L.length := by
  unfold fndE at h
  simp only [Bool.and_eq_true, decide_eq_true_eq] at h
  exact h.1
/-- One triangle of a round of the closure. -/
def clT (L : List EdD) (t : TriD) (x : List Bool × Bool) : List Bool × Bool :=
  if bgt x.1 (posE (newE t.b t.c) L) = false ∧ (bgt x.1 (posE (newE t.a t.b) L) = true ∨ bgt x.1 (posE (newE t.c t.a) L) = true) then (x.1.set (posE (newE t.b t.c) L) true, true) else x
def clTo (ts : List TriD) (L : List EdD) (bl : List Bool) : Nat → List Bool × Bool
  | 0 => (bl, false)
  | k + 1 => clT L (pix ts k) (clTo ts L bl k)
theorem clTo_len (ts : List TriD) (L : List EdD) (bl : List Bool) : ∀ k, (clTo ts L bl k).1.length = bl.length
  | 0 => rfl
  | k + 1 => by
    have h := clTo_len ts L bl k
    unfold clTo clT
    split
    · rw [List.length_set]; exact h
    · exact h
/-- How many flags are down. -/
def dnB (bl : List Bool) : Nat := bl.count false
theorem dnB_set {bl : List Bool} {k : Nat} (hk : k < bl.length) (h : bgt bl k = false) : dnB (bl.set k true) + 1 = dnB bl := by
  unfold dnB
  have e : bl[k] = false := by
    unfold bgt at h
    rwa [List.getD_eq_getElem?_getD, List.getElem?_eq_getElem hk] at h
  rw [List.count_set hk, e]
  have : 0 < bl.count false := List.count_pos_iff.2 (e ▸ List.getElem_mem hk)
  simp
  omega
theorem clTo_dn {ts : List TriD} {L : List EdD} {bl : List Bool} (hl : bl.length = L.length) (hE : EdHas ts L) : ∀ k, k ≤ ts.length → dnB (clTo ts L bl k).1 + (if (clTo ts L bl k).2 = true then 1 else 0) ≤ dnB bl
  | 0, _ => by simp [clTo]
  | k + 1, hk => by
    have h := clTo_dn hl hE k (by omega)
    have hlen := clTo_len ts L bl k
    unfold clTo clT
    split
    · rename_i hc
      have := dnB_set (bl := (clTo ts L bl k).1) (k := posE (newE (pix ts k).b (pix ts k).c) L) (by rw [hlen, hl]; exact fndE_lt (hE k (by omega)).1) hc.1
      show dnB ((clTo ts L bl k).1.set _ true) + 1 ≤ _
      omega
    · exact h
/-- The closure, with fuel. -/
def clF (ts : List TriD) (L : List EdD) : Nat → List Bool → List Bool
  | 0, bl => bl
  | f + 1, bl => if (clTo ts L bl ts.length).2 = true then clF ts L f (clTo ts L bl ts.length).1 else (clTo ts L bl ts.length).1
theorem clF_len (ts : List TriD) (L : List EdD) : ∀ f bl, (clF ts L f bl).length = bl.length
  | 0, _ => rfl
  | f + 1, bl => by
    unfold clF
    split
    · rw [clF_len ts L f, clTo_len]
    · rw [clTo_len]
def clA (ts : List TriD) (l : List Int) : List Bool := clF ts (edL ts) ((edL ts).length + 1) (mkA l (edL ts).length)
theorem dnB_le (bl : List Bool) : dnB bl ≤ bl.length := List.count_le_length
/-- The halves of a triangle. -/
def hvA (t : TriD) (m : Int) : TriD := ⟨m, t.a, t.b, t.region, t.level + 1⟩
def hvB (t : TriD) (m : Int) : TriD := ⟨m, t.c, t.a, t.region, t.level + 1⟩
def bsT (mid : Int → Int → Int) : Nat → TriD → List TriD
  | 0, t => [t]
  | d + 1, t => if mid t.b t.c < 0 then [t] else bsT mid d (hvA t (mid t.b t.c)) ++ bsT mid d (hvB t (mid t.b t.c))
theorem bsT_len (mid : Int → Int → Int) : ∀ d t, (bsT mid d t).length ≤ 2 ^ d
  | 0, t => by simp [bsT]
  | d + 1, t => by
    unfold bsT
    split
    · have := Nat.two_pow_pos (d + 1)
      simp
      omega
    · have h1 := bsT_len mid d (hvA t (mid t.b t.c))
      have h2 := bsT_len mid d (hvB t (mid t.b t.c))
      rw [List.length_append, Nat.pow_succ]
      omega
theorem bsT_pos (mid : Int → Int → Int) : ∀ d t, 1 ≤ (bsT mid d t).length
  | 0, t => by simp [bsT]
  | d + 1, t => by
    unfold bsT
    split
    · simp
    · have h1 := bsT_pos mid d (hvA t (mid t.b t.c))
      rw [List.length_append]
      omega
/-- The midpoints' numbers of the first k edges, where n points stand already. -/
def mdTo (bl : List Bool) (n : Nat) (k : Nat) : List Int := (List.range k).map fun i => if bgt bl i = true then ((n + (lsTo bl i).length : Nat) : Int) else -1
def midF (L : List EdD) (md : List Int) (a b : Int) : Int := if fndE (newE a b) L = true then ix md (posE (newE a b) L) else -1
theorem mdTo_len (bl : List Bool) (n k : Nat) : (mdTo bl n k).length = k := by simp [mdTo]
def midQ (p q : Rat × Rat) : Rat × Rat := (mkRat 1 2 * (p.1 + q.1), mkRat 1 2 * (p.2 + q.2))
theorem midP_tp {p q : Rat × Rat} (hp : Sm2 p) (hq : Sm2 q) : midP (tp p) (tp q) = tp (midQ p q) := by
  have h2 := half_sm
  have b2 : B10 1 (mkRat 1 2) := B10.of h2.2 (by decide)
  have a := B10.of (k := 2) hp.1 (by decide)
  have b := B10.of (k := 2) hp.2 (by decide)
  have c := B10.of (k := 2) hq.1 (by decide)
  have d := B10.of (k := 2) hq.2 (by decide)
  unfold midP
  rw [h2.1]
  show sclP (toR (mkRat 1 2)) (addP (toP p.1 p.2) (toP q.1 q.2)) = _
  rw [addP_b a b c d (by omega), sclP_b b2 (a.add c) (b.add d) (by omega)]
  rfl
def mdP (mq : MeQ) (L : List EdD) (i : Int) : Rat × Rat := midQ (mc mq (pix L i.toNat).a) (mc mq (pix L i.toNat).b)
/-- The points when the first k edges have been looked at. -/
def bpTo (mq : MeQ) (L : List EdD) (bl : List Bool) (k : Nat) : List (Rat × Rat) := mq.pts ++ (lsTo bl k).map (mdP mq L)
theorem bpTo_len (mq : MeQ) (L : List EdD) (bl : List Bool) (k : Nat) : (bpTo mq L bl k).length = mq.pts.length + (lsTo bl k).length := by unfold bpTo; rw [List.length_append, List.length_map]
theorem bpTo_yes (mq : MeQ) (L : List EdD) {bl : List Bool} {k : Nat} (h : bgt bl k = true) : bpTo mq L bl (k + 1) = bpTo mq L bl k ++ [mdP mq L (k : Int)] := by
  unfold bpTo
  rw [lsTo_succ, if_pos h, List.map_append, ← List.append_assoc]
  rfl
theorem bpTo_no (mq : MeQ) (L : List EdD) {bl : List Bool} {k : Nat} (h : bgt bl k = false) : bpTo mq L bl (k + 1) = bpTo mq L bl k := by
  unfold bpTo
  rw [lsTo_succ, if_neg (by rw [h]; decide)]
/-- The triangles when the first k have been looked at. -/
def btTo (ts : List TriD) (mid : Int → Int → Int) (k : Nat) : List TriD := (List.range k).flatMap fun i => bsT mid 2 (pix ts i)
theorem btTo_succ (ts : List TriD) (mid : Int → Int → Int) (k : Nat) : btTo ts mid (k + 1) = btTo ts mid k ++ bsT mid 2 (pix ts k) := by unfold btTo; rw [List.range_succ, List.flatMap_append]; simp
theorem btTo_len (ts : List TriD) (mid : Int → Int → Int) : ∀ k, (btTo ts mid k).length ≤ 4 * k
  | 0 => by simp [btTo]
  | k + 1 => by
    rw [btTo_succ, List.length_append]
    have h1 := btTo_len ts mid k
    have h2 := bsT_len mid 2 (pix ts k)
    omega
theorem btTo_pos (ts : List TriD) (mid : Int → Int → Int) : ∀ k, k ≤ (btTo ts mid k).length
  | 0 => by simp
  | k + 1 => by
    rw [btTo_succ, List.length_append]
    have h1 := btTo_pos ts mid k
    have h2 := bsT_pos mid 2 (pix ts k)
    omega
/-- The mesh in which the closure of marked edges is bisected. -/
def bisL (mq : MeQ) (L : List EdD) (bl : List Bool) : MeQ := ⟨bpTo mq L bl L.length, btTo mq.tris (midF L (mdTo bl mq.pts.length L.length)) mq.tris.length⟩
def bisM (mq : MeQ) (l : List Int) : MeQ := bisL mq (edL mq.tris) (clA mq.tris l)
end

section
open Go.RowKit

theorem mkTo_yes {l : List Int} {n k : Nat} (h1 : 0 ≤ ix l k) (h2 : ix l k ≤ (n : Int) - 1) : mkTo l n (k + 1) = (mkTo l n k).set (ix l k).toNat true := if_pos ⟨h1, h2⟩
theorem mkTo_no {l : List Int} {n k : Nat} (h : ¬ (0 ≤ ix l k ∧ ix l k ≤ (n : Int) - 1)) : mkTo l n (k + 1) = mkTo l n k := if_neg h
theorem lsTo_yes {bl : List Bool} {k : Nat} (h : bgt bl k = true) : lsTo bl (k + 1) = lsTo bl k ++ [(k : Int)] := by rw [lsTo_succ, if_pos h]
theorem lsTo_no {bl : List Bool} {k : Nat} (h : bgt bl k = false) : lsTo bl (k + 1) = lsTo bl k := by rw [lsTo_succ, if_neg (by rw [h]; decide)]
/-- The edge that is searched for. -/
def newZ (a b : Int) : EdD := ⟨min a b, max a b, 0, 0⟩
theorem posE_z (a b : Int) : ∀ l : List EdD, posE (newZ a b) l = posE (newE a b) l
  | [] => rfl
  | x :: xs => by
    have h := posE_z a b xs
    unfold posE
    rw [h]
    rfl
theorem fndE_z (a b : Int) (l : List EdD) : fndE (newZ a b) l = fndE (newE a b) l := by
  unfold fndE
  rw [posE_z]
  rfl
def IntsOw (w : World) (l : List Int) (en : Ending) (w' : World) : Prop := ∃ A n c, en = .returned (.slice A n c) ∧ OwI 3 w.heap.size w' A n c l ∧ Bl w w'

set_option maxRecDepth 100000 in
set_option maxHeartbeats 8000000 in
theorem markedOf_any (w : World) {A : Option Addr} {n c : Nat} {l : List Int} (h : RdI w A n c l) (hn : n ≤ 1048576) (N : Nat) (hN : N ≤ 1048576) :
    Calls Tryz.prog 116 #[.slice A n c, .int .i64 (N : Int)] w fun e w' => ∃ g, e = .returned (.slice (some ⟨g, 0, none⟩) N N) ∧ OwU w' g N (bgt (mkA l N)) ∧ w.heap.size ≤ g ∧ Bl w w' := by
  have hl := Lib.hid h.len
  obtain ⟨N1, hN1⟩ : ∃ z : Int, (N : Int) - 1 = z := ⟨_, rfl⟩
  have hb1 : -1 ≤ N1 := by omega
  have hb2 : N1 ≤ 1048576 := by omega
  go_enter Tryz.func116, Tryz.ntmps116
  have hmk := fun W : World => make_bools N hN W
  go_wp2_with fail
  refine wp_gen (fun W => Bl w W ∧ ∃ gu, OwU W gu N (bgt (mkTo l N 0)) ∧ gu = w.heap.size) ⟨by exact slc, _, OwU.made w N _ (fun i => bgt_rep N i), rfl⟩ ?_
  rintro W ⟨hbW, gu, hU, hgu⟩
  rw [← hgu]
  have hgu0 : w.heap.size ≤ gu := by omega
  clear hgu hmk
  go_loopw [12] (fun v wr => ∃ k : Nat, k ≤ n ∧ v = .int .i64 (k : Int) ∧ OwU wr gu N (bgt (mkTo l N k)) ∧ Bl w wr) (fun v _ => n - (intOf v).toNat)
  case atStart => exact ⟨0, by omega, rfl, hU, hbW⟩
  case round =>
    clear hU hbW
    obtain ⟨k, hk, rfl, hU, hbw⟩ := hrel
    obtain ⟨wo, rfl⟩ : ∃ wo : World, wo = wr := ⟨_, rfl⟩
    by_cases hkn : k < n
    · have hki : (k : Int) < (n : Int) := by omega
      obtain ⟨ad, rfl, hlta, hca⟩ := (h.bl hbw).cells k hkn
      obtain ⟨x, hx⟩ : ∃ x, ix l k = x := ⟨_, rfl⟩
      rw [hx] at hca
      by_cases hin : 0 ≤ x ∧ x ≤ N1
      · have hset := Lib.hid (mkTo_yes (l := l) (n := N) (k := k) (by omega) (by omega))
        rw [hx] at hset
        have hx := Lib.hid hx; rename_i h_; clear h_
        go_wp2_with fail
        refine (within_yes _ hin.1 hin.2).mono ?_
        rintro e w1 ⟨rfl, q1, rfl⟩
        have hb6 := (Bl.refl wo).drewN q1
        obtain ⟨w6, hw6⟩ : ∃ w6, wo.drewN q1 = w6 := ⟨_, rfl⟩
        rw [hw6] at hb6 ⊢
        clear hw6
        have hU := hU.bl hb6
        have ux := hU.cell (i := x.toNat) (by omega)
        have uf := hU.frozen x.toNat
        obtain ⟨hx1, hx2⟩ := hin
        have hxN : x < (N : Int) := by omega
        clear hN1
        go_wp2_with fail
        go_roundw
        case rel => exact ⟨k + 1, by omega, by go_num, (hU.set x.toNat true).congr (fun i hi => by rw [hset.out]; exact bgt_set (mkTo_len l N k) true i hi), Bl.set (hbw.next hb6) hgu0 _⟩
        case measure => simp [intOf]; omega
      · have hset := Lib.hid (mkTo_no (l := l) (n := N) (k := k) (by rw [hx]; omega))
        have hx := Lib.hid hx; rename_i h_; clear h_
        go_wp2_with fail
        refine (within_no _ hin).mono ?_
        rintro e w1 ⟨rfl, q1, rfl⟩
        have hb6 := (Bl.refl wo).drewN q1
        obtain ⟨w6, hw6⟩ : ∃ w6, wo.drewN q1 = w6 := ⟨_, rfl⟩
        rw [hw6] at hb6 ⊢
        clear hw6 hN1 hin
        go_wp2_with fail
        go_roundw
        case rel => exact ⟨k + 1, by omega, by go_num, by rw [hset.out]; exact hU.bl hb6, hbw.next hb6⟩
        case measure => simp [intOf]; omega
    · obtain rfl : k = n := by omega
      have hkm2 : ¬ (k : Int) < (k : Int) := by omega
      go_wp2_with fail
      go_ret
      exact ⟨gu, rfl, by unfold mkA; rw [hl.out]; exact hU, hgu0, hbw⟩
set_option maxRecDepth 100000 in
set_option maxHeartbeats 8000000 in
theorem listed_any (w : World) {g n c : Nat} {bl : List Bool} (hU : OwU w g n (bgt bl)) (hl : bl.length = n) (hn : n ≤ 1048576) :
    Calls Tryz.prog 115 #[.slice (some ⟨g, 0, none⟩) n c] w (IntsOw w (lsA bl)) := by
  have hl := Lib.hid hl; rename_i h_; clear h_
  go_enter Tryz.func115, Tryz.ntmps115
  go_wp2_with fail
  refine wp_gen (fun W3 => Bl w W3 ∧ ∃ v c, OwL 3 w.heap.size W3 v (lsTo bl 0) ∧ v = .slice (some ⟨w.heap.size, 0, none⟩) 0 c ∧ c = 0) ⟨by exact slc, _, 0, OwL.empty w (Nat.le_refl _) (by decide), rfl, rfl⟩ ?_
  rintro W3 ⟨hb3, v0, c0, hX, hv0, rfl⟩
  rw [← hv0]
  clear hv0
  go_loopw [3, 9] (fun s v wr => ∃ (i : Nat) (o : Value), i ≤ n ∧ v = .int .i64 (i : Int) ∧ o = s ∧ OwL 3 w.heap.size wr o (lsTo bl i) ∧ Bl w wr) (fun _ v _ => n - (intOf v).toNat)
  case atStart => exact ⟨0, v0, by omega, rfl, rfl, hX, hb3⟩
  case round =>
    clear hX hb3
    obtain ⟨i, o, hi, rfl, rfl, hX, hbi⟩ := hrel
    obtain ⟨wj, rfl⟩ : ∃ wj : World, wj = wr := ⟨_, rfl⟩
    by_cases hin : i < n
    · have hii : (i : Int) < (n : Int) := by omega
      have x0 := (hU.bl hbi).cell hin
      have hSl := lsTo_len bl i
      obtain ⟨q, hq⟩ : ∃ q, bgt bl i = q := ⟨_, rfl⟩
      rw [hq] at x0
      cases q
      · have hS2 := Lib.hid (lsTo_no hq)
        clear hq
        go_wp2_with fail
        go_roundw
        case rel => exact ⟨i + 1, o, by omega, by go_num, rfl, by rw [hS2.out]; exact hX, hbi⟩
        case measure => simp [intOf]; omega
      · have hS2 := Lib.hid (lsTo_yes hq)
        clear hq
        go_wp2_with ((refine wpList_append_intX (w0 := w) info_int Tryz.underlying25 rfl (.tmp 15) (.tmp 17) rfl _ (lsTo bl i) (by rfl) hX hbi 1 (by rfl) (by omega) ?_); intro vx7 w7 hX7 hb7 hoth)
        rw [← hS2.out] at hX7
        go_roundw
        case rel => exact ⟨i + 1, vx7, by omega, by go_num, rfl, hX7, hb7⟩
        case measure => simp [intOf]; omega
    · obtain rfl : i = n := by omega
      have hkm3 : ¬ (i : Int) < (i : Int) := by omega
      have hSl := lsTo_len bl i
      obtain ⟨B, c, rfl, hR⟩ := hX.own (by omega)
      go_wp2_with fail
      go_ret
      exact ⟨B, _, c, rfl, by unfold lsA; rw [hl.out]; exact hR, hbi⟩
set_option maxRecDepth 100000 in
set_option maxHeartbeats 8000000 in
theorem edgeIndex_yes (w : World) {g n c : Nat} {l : List EdD} (h : RdES w (some ⟨g, 0, none⟩) n c l) (hs : SrtE l) (hn : n ≤ 1048576) (a b : Int) (hf : fndE (newE a b) l = true) :
    Calls Tryz.prog 185 #[.slice (some ⟨g, 0, none⟩) n c, .int .i64 a, .int .i64 b] w fun e w' => e = .returned (.int .i64 (posE (newE a b) l : Int)) ∧ Bl w w' := by
  have hs := Lib.hid hs; rename_i h_; clear h_
  have hf := Lib.hid hf; rename_i h_; clear h_
  have hmn : min a b = (newZ a b).a := rfl
  have hmx : max a b = (newZ a b).b := rfl
  go_enter Tryz.func185, Tryz.ntmps185
  go_wp2_with fail
  refine (BSearch_any _ h hs.out (newZ a b) hn).mono ?_
  rw [fndE_z, posE_z, hf.out]
  rintro e w1 ⟨rfl, hb⟩
  clear hmn hmx
  go_wp2_with fail
  go_ret
  exact ⟨rfl, hb⟩
set_option maxRecDepth 100000 in
set_option maxHeartbeats 8000000 in
theorem edgeIndex_no (w : World) {g n c : Nat} {l : List EdD} (h : RdES w (some ⟨g, 0, none⟩) n c l) (hs : SrtE l) (hn : n ≤ 1048576) (a b : Int) (hf : fndE (newE a b) l = false) :
    Calls Tryz.prog 185 #[.slice (some ⟨g, 0, none⟩) n c, .int .i64 a, .int .i64 b] w fun e w' => e = .returned (.int .i64 (-1)) ∧ Bl w w' := by
  have hs := Lib.hid hs; rename_i h_; clear h_
  have hf := Lib.hid hf; rename_i h_; clear h_
  have hmn : min a b = (newZ a b).a := rfl
  have hmx : max a b = (newZ a b).b := rfl
  go_enter Tryz.func185, Tryz.ntmps185
  go_wp2_with fail
  refine (BSearch_any _ h hs.out (newZ a b) hn).mono ?_
  rw [fndE_z, posE_z, hf.out]
  rintro e w1 ⟨rfl, hb⟩
  clear hmn hmx
  go_wp2_with fail
  go_ret
  exact ⟨rfl, hb⟩
end

section
open Go.RowKit

theorem RdTS.setLit {w : World} {g n c : Nat} {l : List TriD} (h : RdTS w (some ⟨g, 0, none⟩) n c l) {p : Addr} (hp : g ≠ p.block) (u : Value) : RdTS (w.setCell p u) (some ⟨g, 0, none⟩) n c l := by
  refine ⟨h.len, h.cap, h.small, fun k hk => ?_⟩
  obtain ⟨ad, e, hlt, c0, c1, c2, c3, c4⟩ := h.cells k hk
  refine ⟨ad, e, by simpa using hlt, ?_⟩
  cases e
  rw [Addr.add_lit] at c0 c1 c2 c3 c4 ⊢
  have hne : ∀ o, p ≠ (⟨g, o, none⟩ : Addr) := fun o e => hp (by rw [e])
  exact ⟨by rw [World.cell?_setCell_other (h := hne _)]; exact c0, by rw [World.cell?_setCell_other (h := hne _)]; exact c1, by rw [World.cell?_setCell_other (h := hne _)]; exact c2, by rw [World.cell?_setCell_other (h := hne _)]; exact c3, by rw [World.cell?_setCell_other (h := hne _)]; exact c4⟩
end

end Go.Proofs.YtajlahjghapbkaaGreat
