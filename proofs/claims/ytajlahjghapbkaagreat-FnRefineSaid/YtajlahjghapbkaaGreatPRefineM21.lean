/- Lemmas. -/
import Derived.Test.YtajlahjghapbkaaGreatRows
import Derived.Test.YtajlahjghapbkaaGreatPRefineM11
namespace Go.Proofs.YtajlahjghapbkaaGreat
section
open Go.RowKit

structure EdD where
  a : Int
  b : Int
  l : Int
  r : Int
  deriving DecidableEq, Inhabited
def cmpE (x y : EdD) : Int := if cmpZ x.a y.a = 0 then cmpZ x.b y.b else cmpZ x.a y.a
def ltE (x y : EdD) : Bool := decide (cmpE x y < 0)
theorem ltE_iff {x y : EdD} : ltE x y = true ↔ x.a < y.a ∨ (x.a = y.a ∧ x.b < y.b) := by
  unfold ltE cmpE cmpZ
  rw [decide_eq_true_iff]
  by_cases h1 : x.a < y.a
  · simp [h1]
  · by_cases h2 : y.a < x.a
    · simp [h1, h2]; omega
    · have h3 : x.a = y.a := by omega
      simp only [h3, Int.lt_irrefl, if_false, if_true, true_and, false_or]
      by_cases h4 : x.b < y.b
      · simp [h4]
      · by_cases h5 : y.b < x.b <;> simp [h4, h5]
theorem cmpE_zero {x y : EdD} : cmpE x y = 0 ↔ x.a = y.a ∧ x.b = y.b := by
  unfold cmpE cmpZ
  by_cases h1 : x.a < y.a
  · simp [h1]; omega
  · by_cases h2 : y.a < x.a
    · simp [h1, h2]; omega
    · have h3 : x.a = y.a := by omega
      simp only [h3, Int.lt_irrefl, if_false, if_true, true_and]
      by_cases h4 : x.b < y.b
      · simp [h4]; omega
      · by_cases h5 : y.b < x.b
        · simp [h4, h5]; omega
        · simp [h4, h5]; omega
/-- How many edges stand ahead of the place of e. -/
def posE (e : EdD) : List EdD → Nat
  | [] => 0
  | x :: xs => if ltE x e then posE e xs + 1 else 0
theorem posE_le (e : EdD) : ∀ l : List EdD, posE e l ≤ l.length
  | [] => Nat.le_refl _
  | x :: xs => by
    unfold posE
    split
    · have := posE_le e xs; simp; omega
    · simp
theorem pix_zero {α : Type} [Inhabited α] (x : α) (xs : List α) : pix (x :: xs) 0 = x := rfl
theorem pix_succ {α : Type} [Inhabited α] (x : α) (xs : List α) (k : Nat) : pix (x :: xs) (k + 1) = pix xs k := by simp [pix]
theorem posE_lt (e : EdD) : ∀ (l : List EdD) {k : Nat}, k < posE e l → ltE (pix l k) e = true
  | [], k, h => by simp [posE] at h
  | x :: xs, k, h => by
    unfold posE at h
    by_cases hx : ltE x e = true
    · rw [if_pos hx] at h
      rcases k with _ | k
      · exact hx
      · rw [pix_succ]; exact posE_lt e xs (by omega)
    · rw [if_neg hx] at h; omega
theorem posE_at (e : EdD) : ∀ (l : List EdD), posE e l < l.length → ltE (pix l (posE e l)) e = false
  | [], h => by simp at h
  | x :: xs, h => by
    unfold posE at h ⊢
    by_cases hx : ltE x e = true
    · rw [if_pos hx] at h ⊢
      rw [pix_succ]
      exact posE_at e xs (by simpa using h)
    · rw [if_neg hx]
      exact Bool.eq_false_iff.2 hx
/-- Sorted, none twice. -/
def SrtE (l : List EdD) : Prop := ∀ i j, i < j → j < l.length → ltE (pix l i) (pix l j) = true
theorem ltE_trans {x y z : EdD} (h : ltE x y = true) (k : ltE y z = true) : ltE x z = true := by
  rw [ltE_iff] at *
  omega
theorem posE_ge {e : EdD} {l : List EdD} (hs : SrtE l) {k : Nat} (h : posE e l ≤ k) (hk : k < l.length) : ltE (pix l k) e = false := by
  have h0 := posE_at e l (by omega)
  rcases Nat.lt_or_eq_of_le h with h | h
  · have h1 := hs _ _ h hk
    rw [Bool.eq_false_iff] at h0 ⊢
    exact fun h2 => h0 (ltE_trans h1 h2)
  · rw [← h]; exact h0
theorem posE_of {e : EdD} {l : List EdD} (hs : SrtE l) {i : Nat} (hi : i ≤ l.length) (h1 : ∀ k, k < i → ltE (pix l k) e = true) (h2 : ∀ k, i ≤ k → k < l.length → ltE (pix l k) e = false) : i = posE e l := by
  have h0 := posE_le e l
  rcases Nat.lt_trichotomy i (posE e l) with h | h | h
  · have a := posE_lt e l h
    have b := h2 i (Nat.le_refl _) (by omega)
    rw [a] at b; cases b
  · exact h
  · have a := h1 _ h
    have b := posE_ge hs (Nat.le_refl _) (show posE e l < l.length by omega)
    rw [a] at b; cases b
def fndE (e : EdD) (l : List EdD) : Bool := decide (posE e l < l.length) && decide (cmpE (pix l (posE e l)) e = 0)
def insE (e : EdD) (l : List EdD) : List EdD := l.take (posE e l) ++ e :: l.drop (posE e l)
theorem insE_len (e : EdD) (l : List EdD) : (insE e l).length = l.length + 1 := by
  have := posE_le e l
  unfold insE
  simp
  omega
theorem pix_insE {e : EdD} {l : List EdD} {k : Nat} : pix (insE e l) k = if k < posE e l then pix l k else if k = posE e l then e else pix l (k - 1) := by
  have h0 := posE_le e l
  unfold insE
  by_cases h1 : k < posE e l
  · rw [if_pos h1, pix_append_left (by simp; omega)]
    unfold pix
    rw [List.getD_eq_getElem?_getD, List.getD_eq_getElem?_getD, List.getElem?_take_of_lt h1]
  · rw [if_neg h1]
    unfold pix
    rw [List.getD_eq_getElem?_getD, List.getElem?_append_right (by simp; omega), List.length_take, Nat.min_eq_left h0]
    by_cases h2 : k = posE e l
    · rw [if_pos h2, h2, Nat.sub_self]; rfl
    · rw [if_neg h2, List.getD_eq_getElem?_getD]
      obtain ⟨j, rfl⟩ : ∃ j, k = posE e l + j + 1 := ⟨k - posE e l - 1, by omega⟩
      rw [show posE e l + j + 1 - posE e l = j + 1 by omega, show posE e l + j + 1 - 1 = posE e l + j by omega, List.getElem?_cons_succ, List.getElem?_drop]
theorem insE_srt {e : EdD} {l : List EdD} (hs : SrtE l) (hn : fndE e l = false) : SrtE (insE e l) := by
  intro i j hij hj
  rw [insE_len] at hj
  have h0 := posE_le e l
  have hgt : ∀ k, posE e l ≤ k → k < l.length → ltE e (pix l k) = true := by
    intro k hk hk2
    have h1 := posE_at e l (by omega)
    have h2 : ¬ cmpE (pix l (posE e l)) e = 0 := by
      intro h3
      unfold fndE at hn
      rw [decide_eq_true (show posE e l < l.length by omega), decide_eq_true h3] at hn
      cases hn
    have h3 : ltE e (pix l (posE e l)) = true := by
      rw [cmpE_zero] at h2
      rw [Bool.eq_false_iff, Ne, ltE_iff] at h1
      rw [ltE_iff]
      omega
    rcases Nat.lt_or_eq_of_le hk with h | h
    · exact ltE_trans h3 (hs _ _ h hk2)
    · rw [← h]; exact h3
  rw [pix_insE, pix_insE]
  by_cases h1 : j < posE e l
  · rw [if_pos h1, if_pos (by omega)]
    exact hs _ _ hij (by omega)
  · rw [if_neg h1]
    by_cases h2 : j = posE e l
    · rw [if_pos h2, if_pos (by omega)]
      exact posE_lt e l (by omega)
    · rw [if_neg h2]
      by_cases h3 : i < posE e l
      · rw [if_pos h3]
        exact hs _ _ (by omega) (by omega)
      · rw [if_neg h3]
        by_cases h4 : i = posE e l
        · rw [if_pos h4]
          exact hgt _ (by omega) (by omega)
        · rw [if_neg h4]
          exact hs _ _ (by omega) (by omega)
def setLR (a b k : Int) (e : EdD) : EdD := if a < b then ⟨e.a, e.b, k, e.r⟩ else ⟨e.a, e.b, e.l, k⟩
def newE (a b : Int) : EdD := ⟨min a b, max a b, -1, -1⟩
/-- The edge from a to b, of triangle k, is put into the list. -/
def putE (l : List EdD) (a b k : Int) : List EdD :=
  (if fndE (newE a b) l then l else insE (newE a b) l).modify (posE (newE a b) l) (setLR a b k)
def putTri (l : List EdD) (t : TriD) (k : Int) : Nat → List EdD
  | 0 => l
  | 1 => putE l t.a t.b k
  | 2 => putE (putE l t.a t.b k) t.b t.c k
  | _ => putE (putE (putE l t.a t.b k) t.b t.c k) t.c t.a k
def edTo (ts : List TriD) : Nat → List EdD
  | 0 => []
  | k + 1 => putTri (edTo ts k) (pix ts k) k 3
def edL (ts : List TriD) : List EdD := edTo ts ts.length
theorem setLR_lt (a b k : Int) (e x : EdD) : ltE (setLR a b k e) x = ltE e x ∧ ltE x (setLR a b k e) = ltE x e := by
  unfold setLR
  split <;> exact ⟨rfl, rfl⟩
theorem pix_modify {l : List EdD} {f : EdD → EdD} {p k : Nat} (hk : k < l.length) : pix (l.modify p f) k = if k = p then f (pix l k) else pix l k := by
  unfold pix
  rw [List.getD_eq_getElem?_getD, List.getD_eq_getElem?_getD, List.getElem?_modify]
  by_cases h : p = k
  · rw [if_pos h.symm]; simp [h, hk]
  · rw [if_neg (fun e => h e.symm)]; simp [h]
theorem modify_srt {l : List EdD} {a b k : Int} {p : Nat} (hs : SrtE l) : SrtE (l.modify p (setLR a b k)) := by
  intro i j hij hj
  rw [List.length_modify] at hj
  have h := hs i j hij hj
  rw [pix_modify (by omega), pix_modify hj]
  by_cases h1 : i = p <;> by_cases h2 : j = p
  · omega
  · rw [if_pos h1, if_neg h2, (setLR_lt a b k _ _).1]; exact h
  · rw [if_neg h1, if_pos h2, (setLR_lt a b k _ _).2]; exact h
  · rw [if_neg h1, if_neg h2]; exact h
theorem putE_srt {l : List EdD} {a b k : Int} (hs : SrtE l) : SrtE (putE l a b k) := by
  unfold putE
  refine modify_srt ?_
  by_cases h : fndE (newE a b) l = true
  · rw [if_pos h]; exact hs
  · rw [if_neg h]; exact insE_srt hs (Bool.eq_false_iff.2 h)
theorem putE_len (l : List EdD) (a b k : Int) : l.length ≤ (putE l a b k).length ∧ (putE l a b k).length ≤ l.length + 1 := by
  unfold putE
  rw [List.length_modify]
  split
  · omega
  · rw [insE_len]; omega
theorem putTri_srt {l : List EdD} {t : TriD} {k : Int} (hs : SrtE l) (i : Nat) : SrtE (putTri l t k i) := by
  unfold putTri
  split
  · exact hs
  · exact putE_srt hs
  · exact putE_srt (putE_srt hs)
  · exact putE_srt (putE_srt (putE_srt hs))
theorem putTri_len {l : List EdD} {t : TriD} {k : Int} (i : Nat) : l.length ≤ (putTri l t k i).length ∧ (putTri l t k i).length ≤ l.length + 3 := by
  unfold putTri
  have h1 := putE_len l t.a t.b k
  have h2 := putE_len (putE l t.a t.b k) t.b t.c k
  have h3 := putE_len (putE (putE l t.a t.b k) t.b t.c k) t.c t.a k
  split <;> omega
theorem edTo_srt (ts : List TriD) : ∀ k, SrtE (edTo ts k)
  | 0 => fun i j _ hj => by simp [edTo] at hj
  | k + 1 => putTri_srt (edTo_srt ts k) 3
theorem edTo_len (ts : List TriD) : ∀ k, (edTo ts k).length ≤ 3 * k
  | 0 => by simp [edTo]
  | k + 1 => by
    have h1 := edTo_len ts k
    have h2 := putTri_len (l := edTo ts k) (t := pix ts k) (k := (k : Int)) 3
    show (putTri (edTo ts k) (pix ts k) k 3).length ≤ _
    omega
def EdAt (w : World) (p : Addr) (e : EdD) : Prop :=
  w.cell? p = some (.int .i64 e.a) ∧ w.cell? ⟨p.block, p.off + 1, none⟩ = some (.int .i64 e.b) ∧ w.cell? ⟨p.block, p.off + 2, none⟩ = some (.int .i64 e.l) ∧ w.cell? ⟨p.block, p.off + 3, none⟩ = some (.int .i64 e.r)
theorem EdAt.bl {w W : World} {p : Addr} {e : EdD} (h : EdAt w p e) (hp : p.block < w.heap.size) (hb : Bl w W) : EdAt W p e := by
  obtain ⟨h0, h1, h2, h3⟩ := h
  refine ⟨?_, ?_, ?_, ?_⟩
  · rw [hb.cellOf hp]; exact h0
  · rw [hb.cellOf (p := ⟨p.block, p.off + 1, none⟩) hp]; exact h1
  · rw [hb.cellOf (p := ⟨p.block, p.off + 2, none⟩) hp]; exact h2
  · rw [hb.cellOf (p := ⟨p.block, p.off + 3, none⟩) hp]; exact h3
abbrev RdES := RdS 4 EdAt
theorem RdES.bl {w W : World} {A : Option Addr} {n c : Nat} {l : List EdD} (h : RdES w A n c l) (hb : Bl w W) : RdES W A n c l := RdS.bl (fun h hp hb => h.bl hp hb) h hb
theorem eds_lit {w : World} {g n c : Nat} {l : List EdD} (h : RdES w (some ⟨g, 0, none⟩) n c l) {k : Nat} (hk : k < n) :
    w.cell? ⟨g, k * 4, none⟩ = some (.int .i64 (pix l k).a) ∧ w.cell? ⟨g, k * 4 + 1, none⟩ = some (.int .i64 (pix l k).b) ∧ w.cell? ⟨g, k * 4 + 2, none⟩ = some (.int .i64 (pix l k).l) ∧ w.cell? ⟨g, k * 4 + 3, none⟩ = some (.int .i64 (pix l k).r) := by
  obtain ⟨_, e, _, hc⟩ := h.cells k hk
  cases e
  rw [Addr.add_lit, Nat.zero_add] at hc
  exact hc
theorem bx4 {W : World} {g : Nat} {T : TypeId} {a b c d : Value} (h : Blk W g T #[a, b, c, d]) : W.cell? ⟨g, 0, none⟩ = some a ∧ W.cell? ⟨g, 1, none⟩ = some b ∧ W.cell? ⟨g, 2, none⟩ = some c ∧ W.cell? ⟨g, 3, none⟩ = some d := ⟨h.cell 0, h.cell 1, h.cell 2, h.cell 3⟩
end

section
open Go.RowKit

theorem isNaN_q (w : World) (x : Int) : Calls Tryz.prog 234 #[.int .i64 x] w fun e w' => e = .returned (.bool false) ∧ w' = w := by
  go_enter Tryz.func234, Tryz.ntmps234
  go_wp2_with fail
  go_ret
  exact ⟨rfl, rfl⟩
theorem Compare_q (w : World) (x y : Int) : Calls Tryz.prog 207 #[.int .i64 x, .int .i64 y] w fun e w' => e = .returned (.int .i64 (cmpZ x y)) ∧ w' = w := by
  rcases Int.lt_trichotomy x y with h | h | h
  · have hv := Lib.hid (show cmpZ x y = -1 by unfold cmpZ; rw [if_pos h])
    have h2 : ¬ y < x := by omega
    go_enter Tryz.func207, Tryz.ntmps207
    go_wp2_with (go_at_call 234; refine (isNaN_q _ _).mono ?_; rintro e w' ⟨rfl, rfl⟩)
    go_ret
    exact ⟨ret_int hv.out.symm, rfl⟩
  · have hv := Lib.hid (show cmpZ x y = 0 by unfold cmpZ; rw [if_neg (by omega), if_neg (by omega)])
    have h1 : ¬ x < y := by omega
    have h2 : ¬ y < x := by omega
    have h := Lib.hid h; rename_i h_; clear h_
    go_enter Tryz.func207, Tryz.ntmps207
    go_wp2_with (go_at_call 234; refine (isNaN_q _ _).mono ?_; rintro e w' ⟨rfl, rfl⟩)
    go_ret
    exact ⟨ret_int hv.out.symm, rfl⟩
  · have hv := Lib.hid (show cmpZ x y = 1 by unfold cmpZ; rw [if_neg (by omega), if_pos h])
    have h2 : ¬ x < y := by omega
    go_enter Tryz.func207, Tryz.ntmps207
    go_wp2_with (go_at_call 234; refine (isNaN_q _ _).mono ?_; rintro e w' ⟨rfl, rfl⟩)
    go_ret
    exact ⟨ret_int hv.out.symm, rfl⟩
def orZ (x y : Int) : Int := if x = 0 then y else x
theorem Or_q (w : World) {g c : Nat} {x y : Int} (h0 : w.cell? ⟨g, 0, none⟩ = some (.int .i64 x)) (h1 : w.cell? ⟨g, 1, none⟩ = some (.int .i64 y)) :
    Calls Tryz.prog 206 #[.slice (some ⟨g, 0, none⟩) 2 c] w fun e w' => e = .returned (.int .i64 (orZ x y)) ∧ w' = w := by
  unfold orZ
  by_cases hx : x = 0
  · subst hx
    rw [if_pos rfl]
    by_cases hy : y = 0
    · subst hy
      go_enter Tryz.func206, Tryz.ntmps206
      go_wp2_with fail
      go_loop [8] (fun i => ∃ k : Nat, k ≤ 2 ∧ i = .int .i64 (k : Int)) (fun i => 2 - (intOf i).toNat)
      case atStart => exact ⟨0, by omega, rfl⟩
      case round =>
        obtain ⟨k, hk, rfl⟩ := hrel
        rcases (show k = 0 ∨ k = 1 ∨ k = 2 by omega) with rfl | rfl | rfl
        · have e0 : ((0 : Nat) : Int) = 0 := rfl
          rw [e0]
          clear e0 hk
          go_wp2_with fail
          go_round
          case rel => exact ⟨1, by omega, rfl⟩
          case measure => simp [intOf]
        · have e0 : ((1 : Nat) : Int) = 1 := rfl
          rw [e0]
          clear e0 hk
          go_wp2_with fail
          go_round
          case rel => exact ⟨2, by omega, rfl⟩
          case measure => simp [intOf]
        · have e0 : ((2 : Nat) : Int) = 2 := rfl
          rw [e0]
          clear e0 hk
          go_wp2_with fail
          go_ret
          exact ⟨rfl, rfl⟩
    · have hd : decide (y = 0) = false := decide_eq_false hy
      go_enter Tryz.func206, Tryz.ntmps206
      go_wp2_with fail
      go_loop [8] (fun i => ∃ k : Nat, k ≤ 1 ∧ i = .int .i64 (k : Int)) (fun i => 2 - (intOf i).toNat)
      case atStart => exact ⟨0, by omega, rfl⟩
      case round =>
        obtain ⟨k, hk, rfl⟩ := hrel
        rcases (show k = 0 ∨ k = 1 by omega) with rfl | rfl
        · have e0 : ((0 : Nat) : Int) = 0 := rfl
          rw [e0]
          clear e0 hk
          go_wp2_with fail
          go_round
          case rel => exact ⟨1, by omega, rfl⟩
          case measure => simp [intOf]
        · have e0 : ((1 : Nat) : Int) = 1 := rfl
          rw [e0]
          clear e0 hk
          go_wp2_with fail
          go_ret
          exact ⟨rfl, rfl⟩
  · rw [if_neg hx]
    have hd : decide (x = 0) = false := decide_eq_false hx
    go_enter Tryz.func206, Tryz.ntmps206
    go_wp2_with fail
    go_loop [8] (fun i => i = .int .i64 0) (fun i => 2 - (intOf i).toNat)
    case atStart => rfl
    case round =>
      subst hrel
      go_wp2_with fail
      go_ret
      exact ⟨rfl, rfl⟩
set_option maxRecDepth 100000 in
set_option maxHeartbeats 16000000 in
theorem compareEdges_any (w : World) (x y : EdD) :
    Calls Tryz.prog 168 #[.agg #[.int .i64 x.a, .int .i64 x.b, .int .i64 x.l, .int .i64 x.r], .agg #[.int .i64 y.a, .int .i64 y.b, .int .i64 y.l, .int .i64 y.r]] w fun e w' => e = .returned (.int .i64 (cmpE x y)) ∧ Bl w w' := by
  go_enter Tryz.func168, Tryz.ntmps168
  go_wp2_with fail
  refine wp_gen (fun W => Bl w W ∧ Blk W w.heap.size 175 #[.int .i64 x.a, .int .i64 x.b, .int .i64 x.l, .int .i64 x.r] ∧ Blk W (w.heap.size + 1) 175 #[.int .i64 y.a, .int .i64 y.b, .int .i64 y.l, .int .i64 y.r]) ⟨slc, bts, bts⟩ ?_
  rintro W ⟨hbW, h1, h2⟩
  go_region_held3 (fun w' => (w'.cell? ⟨w.heap.size, 0, none⟩ = some (.int .i64 x.a) ∧ w'.cell? ⟨w.heap.size, 1, none⟩ = some (.int .i64 x.b) ∧ w'.cell? ⟨w.heap.size, 2, none⟩ = some (.int .i64 x.l) ∧ w'.cell? ⟨w.heap.size, 3, none⟩ = some (.int .i64 x.r)) ∧ (w'.cell? ⟨(w.heap.size + 1), 0, none⟩ = some (.int .i64 y.a) ∧ w'.cell? ⟨(w.heap.size + 1), 1, none⟩ = some (.int .i64 y.b) ∧ w'.cell? ⟨(w.heap.size + 1), 2, none⟩ = some (.int .i64 y.l) ∧ w'.cell? ⟨(w.heap.size + 1), 3, none⟩ = some (.int .i64 y.r))) (first | exact ⟨bx4 (T := 175) (h1.bl slc), bx4 (T := 175) (h2.bl slc)⟩) (first | (go_at_call 207; (with_reducible refine (Compare_q _ x.a y.a).mono ?_); rintro e w1 ⟨rfl, rfl⟩) | (go_at_call 207; (with_reducible refine (Compare_q _ x.b y.b).mono ?_); rintro e w1 ⟨rfl, rfl⟩) | (go_at_call 206; (refine (Or_q (x := cmpZ x.a y.a) (y := cmpZ x.b y.b) _ (by exact ((Blk.new _ _ _).cell 0).trans rfl) (by exact ((Blk.new _ _ _).cell 1).trans rfl)).mono ?_); rintro e w1 ⟨rfl, rfl⟩))
  go_wp2_with fail
  go_ret
  exact ⟨ret_int rfl, slc⟩
end

section
open Go.RowKit

theorem lowE {l : List EdD} {x : EdD} {m : Nat} (hs : SrtE l) (hm : m < l.length) (hc : ltE (pix l m) x = true) : ∀ k, k < m + 1 → ltE (pix l k) x = true := by
  intro k hk
  rcases Nat.lt_succ_iff_lt_or_eq.1 hk with hk | rfl
  · exact ltE_trans (hs k m hk hm) hc
  · exact hc
theorem highE {l : List EdD} {x : EdD} {m : Nat} (hs : SrtE l) (hc : ltE (pix l m) x = false) : ∀ k, m ≤ k → k < l.length → ltE (pix l k) x = false := by
  intro k hk hkl
  rcases Nat.lt_or_eq_of_le hk with hk | rfl
  · rw [Bool.eq_false_iff] at hc ⊢
    exact fun e => hc (ltE_trans (hs m k hk hkl) e)
  · exact hc
theorem cmpE_lt {x y : EdD} : (cmpE x y < 0) ↔ ltE x y = true := by unfold ltE; rw [decide_eq_true_iff]
set_option maxRecDepth 100000 in
set_option maxHeartbeats 16000000 in
theorem BSearch_any (w : World) {g n c : Nat} {l : List EdD} (h : RdES w (some ⟨g, 0, none⟩) n c l) (hs : SrtE l) (x : EdD) (hn : n ≤ 1048576) :
    Calls Tryz.prog 167 #[.slice (some ⟨g, 0, none⟩) n c, .agg #[.int .i64 x.a, .int .i64 x.b, .int .i64 x.l, .int .i64 x.r], .func (.func 168) #[] #[]] w fun e w' => e = .returned (.tuple #[.int .i64 (posE x l : Int), .bool (fndE x l)]) ∧ Bl w w' := by
  have hl := Lib.hid h.len
  have hs := Lib.hid hs; rename_i h_; clear h_
  go_enter Tryz.func167, Tryz.ntmps167
  go_wp2_with fail
  refine wp_gen (fun W => Bl w W ∧ Blk W w.heap.size 175 #[.int .i64 x.a, .int .i64 x.b, .int .i64 x.l, .int .i64 x.r]) ⟨slc, bts⟩ ?_
  rintro W ⟨hbW, hX⟩
  go_loopw [9, 10] (fun a b wr => ∃ i j : Nat, i ≤ j ∧ j ≤ n ∧ a = .int .i64 (i : Int) ∧ b = .int .i64 (j : Int) ∧ Hid (∀ k, k < i → ltE (pix l k) x = true) ∧ Hid (∀ k, j ≤ k → k < n → ltE (pix l k) x = false) ∧ Bl W wr) (fun a b _ => (intOf b).toNat - (intOf a).toNat)
  case atStart => exact ⟨0, n, by omega, by omega, rfl, rfl, Lib.hid (fun k hk => by omega), Lib.hid (fun k h1 h2 => by omega), Bl.refl _⟩
  case round =>
    obtain ⟨i, j, hij, hj, rfl, rfl, hA, hZ, hbw⟩ := hrel
    obtain ⟨wo, rfl⟩ : ∃ wo : World, wo = wr := ⟨_, rfl⟩
    have hX := hX.bl hbw
    have hXl := hX.lt
    obtain ⟨u0, u1, u2, u3⟩ := bx4 hX
    by_cases hlt : i < j
    · have hli : (i : Int) < (j : Int) := by omega
      obtain ⟨m, hm⟩ : ∃ m : Nat, (i + j) / 2 = m := ⟨_, rfl⟩
      have hm1 : i ≤ m := by omega
      have hm2 : m < j := by omega
      have hmi0 : (0 : Int) ≤ (m : Int) := by omega
      have hmi1 : (m : Int) < (n : Int) := by omega
      have hm3 : ((i : Int) + (j : Int)) / 2 = (m : Int) := by omega
      have hm := Lib.hid hm; rename_i h_; clear h_
      obtain ⟨y0, y1, y2, y3⟩ := eds_lit (RdES.bl h (hbW.next hbw)) (show m < n by omega)
      go_wp2_with fail
      clear y0 y1 y2 y3 u0 u1 u2 u3
      by_cases hc : ltE (pix l m) x = true
      · have hd : decide (cmpE (pix l m) x < 0) = true := decide_eq_true (cmpE_lt.2 hc)
        have hA2 := Lib.hid (lowE hs.out (by rw [hl.out]; omega) hc)
        have hc := Lib.hid hc; rename_i h_; clear h_
        go_region_held3 (fun w' => (w'.cell? ⟨g, m * 4, none⟩ = some (.int .i64 (pix l m).a) ∧ w'.cell? ⟨g, m * 4 + 1, none⟩ = some (.int .i64 (pix l m).b) ∧ w'.cell? ⟨g, m * 4 + 2, none⟩ = some (.int .i64 (pix l m).l) ∧ w'.cell? ⟨g, m * 4 + 3, none⟩ = some (.int .i64 (pix l m).r)) ∧ (w'.cell? ⟨w.heap.size, 0, none⟩ = some (.int .i64 x.a) ∧ w'.cell? ⟨w.heap.size, 1, none⟩ = some (.int .i64 x.b) ∧ w'.cell? ⟨w.heap.size, 2, none⟩ = some (.int .i64 x.l) ∧ w'.cell? ⟨w.heap.size, 3, none⟩ = some (.int .i64 x.r))) (first | exact ⟨eds_lit (RdES.bl h ((hbW.next hbw).next slc)) (show m < n by omega), bx4 (T := 175) (hX.bl slc)⟩) ((go_at_call 168; (with_reducible refine (compareEdges_any _ (pix l m) x).mono ?_); rintro e w2 ⟨rfl, hb2⟩))
        have hb3 : Bl wo w2 := slc
        go_wp2_with fail
        go_roundw
        case rel => exact ⟨m + 1, j, by omega, hj, by go_num, rfl, hA2, hZ, hbw.next hb3⟩
        case measure => simp [intOf]; omega
      · have hd : decide (cmpE (pix l m) x < 0) = false := decide_eq_false (fun h => hc (cmpE_lt.1 h))
        have hZ2 := Lib.hid (fun k (h1 : m ≤ k) (h2 : k < n) => highE hs.out (Bool.eq_false_iff.2 hc) k h1 (by rw [hl.out]; exact h2))
        have hc := Lib.hid hc; rename_i h_; clear h_
        go_region_held3 (fun w' => (w'.cell? ⟨g, m * 4, none⟩ = some (.int .i64 (pix l m).a) ∧ w'.cell? ⟨g, m * 4 + 1, none⟩ = some (.int .i64 (pix l m).b) ∧ w'.cell? ⟨g, m * 4 + 2, none⟩ = some (.int .i64 (pix l m).l) ∧ w'.cell? ⟨g, m * 4 + 3, none⟩ = some (.int .i64 (pix l m).r)) ∧ (w'.cell? ⟨w.heap.size, 0, none⟩ = some (.int .i64 x.a) ∧ w'.cell? ⟨w.heap.size, 1, none⟩ = some (.int .i64 x.b) ∧ w'.cell? ⟨w.heap.size, 2, none⟩ = some (.int .i64 x.l) ∧ w'.cell? ⟨w.heap.size, 3, none⟩ = some (.int .i64 x.r))) (first | exact ⟨eds_lit (RdES.bl h ((hbW.next hbw).next slc)) (show m < n by omega), bx4 (T := 175) (hX.bl slc)⟩) ((go_at_call 168; (with_reducible refine (compareEdges_any _ (pix l m) x).mono ?_); rintro e w2 ⟨rfl, hb2⟩))
        have hb3 : Bl wo w2 := slc
        go_wp2_with fail
        go_roundw
        case rel => exact ⟨i, m, by omega, by omega, rfl, rfl, hA, hZ2, hbw.next hb3⟩
        case measure => simp [intOf]; omega
    · obtain rfl : i = j := by omega
      have hkm2 : ¬ (i : Int) < (i : Int) := by omega
      have hpos : i = posE x l := posE_of hs.out (by rw [hl.out]; exact hj) hA.out (fun k h1 h2 => hZ.out k h1 (by rw [hl.out] at h2; exact h2))
      by_cases hin : i < n
      · have hii : (i : Int) < (n : Int) := by omega
        have hfe : fndE x l = decide (cmpE (pix l i) x = 0) := by unfold fndE; rw [← hpos, hl.out, decide_eq_true hin, Bool.true_and]
        have hpos := Lib.hid hpos; rename_i h_; clear h_
        have hfe := Lib.hid hfe; rename_i h_; clear h_
        go_wp2_with fail
        clear u0 u1 u2 u3
        go_region_held3 (fun w' => (w'.cell? ⟨g, i * 4, none⟩ = some (.int .i64 (pix l i).a) ∧ w'.cell? ⟨g, i * 4 + 1, none⟩ = some (.int .i64 (pix l i).b) ∧ w'.cell? ⟨g, i * 4 + 2, none⟩ = some (.int .i64 (pix l i).l) ∧ w'.cell? ⟨g, i * 4 + 3, none⟩ = some (.int .i64 (pix l i).r)) ∧ (w'.cell? ⟨w.heap.size, 0, none⟩ = some (.int .i64 x.a) ∧ w'.cell? ⟨w.heap.size, 1, none⟩ = some (.int .i64 x.b) ∧ w'.cell? ⟨w.heap.size, 2, none⟩ = some (.int .i64 x.l) ∧ w'.cell? ⟨w.heap.size, 3, none⟩ = some (.int .i64 x.r))) (first | exact ⟨eds_lit (RdES.bl h ((hbW.next hbw).next slc)) (show i < n by omega), bx4 (T := 175) (hX.bl slc)⟩) ((go_at_call 168; (with_reducible refine (compareEdges_any _ (pix l i) x).mono ?_); rintro e w2 ⟨rfl, hb2⟩))
        have hb3 : Bl wo w2 := slc
        go_wp2_with fail
        go_ret2
        exact ⟨by rw [← hpos.out, hfe.out]; rfl, by exact slc⟩
      · have hii : ¬ (i : Int) < (n : Int) := by omega
        have hfe : fndE x l = false := by unfold fndE; rw [← hpos, hl.out, decide_eq_false hin, Bool.false_and]
        have hpos := Lib.hid hpos; rename_i h_; clear h_
        have hfe := Lib.hid hfe; rename_i h_; clear h_
        go_wp2_with fail
        go_quiet (fail)
        go_wp2_with fail
        go_ret2
        exact ⟨by rw [← hpos.out, hfe.out]; rfl, by exact slc⟩
end

end Go.Proofs.YtajlahjghapbkaaGreat
