/- Lemmas. -/
import Derived.Test.YtjaapemopbbfaaaGreatDoorRows
import Derived.Test.YtjaapemopbbfaaaGreatDoorPPointsM29
import Derived.Test.YtjaapemopbbfaaaGreatDoorPPointsM24
import Derived.Test.YtjaapemopbbfaaaGreatDoorPPointsM16
import Derived.Test.YtjaapemopbbfaaaGreatDoorPPointsM25
import Derived.Test.YtjaapemopbbfaaaGreatDoorPPointsM27
namespace Go.Proofs.YtjaapemopbbfaaaGreatDoor
section
open Go.RowKit

theorem Wk.ob {k g : Nat} {T : TypeId} {w W : World} {bs : List Nat} (h : Wk k T g w) (ho : Ob bs w W) (hg : g ∉ bs) : Wk k T g W := by
  obtain ⟨cs, h1, h2⟩ := h
  exact ⟨cs, h1.ob ho hg, h2⟩
theorem wrap_ok (n : Int) (h1 : -9223372036854775808 ≤ n) (h2 : n ≤ 9223372036854775807) : IntKind.i64.wrap n = n := by rw [IntKind.wrap_i64]; omega
/-- A point with small coordinates. -/
def PtS (p : PtD) : Prop := ∃ x y : Rat, p = ⟨toR x, toR y⟩ ∧ Bd 17 x ∧ Bd 17 y
theorem ofFrac_sm (x : Int) (D : Nat) (hD : 0 < D) (hx : x.natAbs ≤ 17) (hn : D ≤ 17) : ofFrac x D = toR (mkRat x D) ∧ Bd 17 (mkRat x D) := by
  have hb : Bd 17 (mkRat x D) := bd_mk hD hx hn
  rw [ofFrac_toR x hD, if_pos (hb.fit (by decide))]
  exact ⟨rfl, hb⟩
theorem ptS_at (a b : Int) (ha : a.natAbs ≤ 17) (hb : b.natAbs ≤ 17) : PtS ⟨ofFrac a 1, ofFrac b 1⟩ := by
  obtain ⟨e1, b1⟩ := ofFrac_sm a 1 (by omega) ha (by omega)
  obtain ⟨e2, b2⟩ := ofFrac_sm b 1 (by omega) hb (by omega)
  exact ⟨_, _, by rw [e1, e2], b1, b2⟩
theorem ptS_half (a b k : Int) (ha0 : -4 ≤ a) (ha1 : a ≤ 4) (hb : b.natAbs ≤ 17) (hk0 : 2 ≤ k) (hk1 : k ≤ 4) : PtS ⟨addR (ofFrac a 1) (ofFrac 1 k.natAbs), ofFrac b 1⟩ := by
  obtain ⟨e1, b1⟩ := ofFrac_sm a 1 (by omega) (by omega) (by omega)
  obtain ⟨e2, b2⟩ := ofFrac_sm b 1 (by omega) hb (by omega)
  obtain ⟨e3, b3⟩ := ofFrac_sm 1 k.natAbs (by omega) (by omega) (by omega)
  have e : mkRat a 1 + mkRat 1 k.natAbs = mkRat (a * k.natAbs + 1) k.natAbs := by
    rw [Rat.mkRat_add_mkRat _ _ (by omega) (by omega)]
    simp
  have hs : Bd 17 (mkRat a 1 + mkRat 1 k.natAbs) := by
    rw [e]
    refine bd_mk (by omega) ?_ (by omega)
    rcases (show k = 2 ∨ k = 3 ∨ k = 4 by omega) with rfl | rfl | rfl <;> simp <;> omega
  refine ⟨_, _, ?_, hs, b2⟩
  rw [e1, e2, e3, addR_toR (b1.fit (by decide)) (b3.fit (by decide)) (hs.fit (by decide))]
theorem OwPN.ob' {T : TypeId} {b0 g : Nat} {w W : World} {s : Bool} {A : Option Addr} {n c : Nat} {B : Option Addr} {m d : Nat} {t : Bool} {C : Option Addr} {i e : Nat} {D : Option Addr} {j f : Nat} {p : PtD} (h : OwPN AnyN T b0 w s A n c B m d t C i e D j f p) (ho : Ob [g] w W) (hg : g < b0) : OwPN AnyN T b0 W s A n c B m d t C i e D j f p := by
  obtain ⟨c1, c2, h1, h2, hf, hn⟩ := h
  refine ⟨c1, c2, h1.keep ho.size fun b hb => ho.block b (hf b (by simp [hb])).2 fun hm => ?_, h2.keep ho.size fun b hb => ho.block b (hf b (by simp [hb])).2 fun hm => ?_, fun b hb => ⟨(hf b hb).1, Nat.lt_of_lt_of_le (hf b hb).2 ho.size⟩, hn⟩
  · have := (hf b (by simp [hb])).1; simp at hm; omega
  · have := (hf b (by simp [hb])).1; simp at hm; omega
theorem OwPN.bl' {T : TypeId} {b0 : Nat} {w W : World} {s : Bool} {A : Option Addr} {n c : Nat} {B : Option Addr} {m d : Nat} {t : Bool} {C : Option Addr} {i e : Nat} {D : Option Addr} {j f : Nat} {p : PtD} (h : OwPN AnyN T b0 w s A n c B m d t C i e D j f p) (hb : Bl w W) : OwPN AnyN T b0 W s A n c B m d t C i e D j f p := by
  obtain ⟨c1, c2, h1, h2, hf, hn⟩ := h
  exact ⟨c1, c2, h1.bl hb, h2.bl hb, fun b hm => ⟨(hf b hm).1, Nat.lt_of_lt_of_le (hf b hm).2 hb.size⟩, hn⟩
theorem OwPN.rdx {T : TypeId} {b0 : Nat} {w : World} {s : Bool} {A : Option Addr} {n c : Nat} {B : Option Addr} {m d : Nat} {t : Bool} {C : Option Addr} {i e : Nat} {D : Option Addr} {j f : Nat} {p : PtD} (h : OwPN AnyN T b0 w s A n c B m d t C i e D j f p) : RdR w s A n c B m d p.x ∧ RdR w t C i e D j f p.y := by
  obtain ⟨c1, c2, h1, h2, hf, hn⟩ := h
  exact ⟨h1.rd, h2.rd⟩
theorem OwPN.low' {T : TypeId} {b0 b1 : Nat} {w : World} {s : Bool} {A : Option Addr} {n c : Nat} {B : Option Addr} {m d : Nat} {t : Bool} {C : Option Addr} {i e : Nat} {D : Option Addr} {j f : Nat} {p : PtD} (h : OwPN AnyN T b1 w s A n c B m d t C i e D j f p) (hb : b0 ≤ b1) : OwPN AnyN T b0 w s A n c B m d t C i e D j f p := by
  obtain ⟨c1, c2, h1, h2, hf, hn⟩ := h
  exact ⟨c1, c2, h1, h2, fun b hm => ⟨Nat.le_trans hb (hf b hm).1, (hf b hm).2⟩, hn⟩
theorem OwPN.setT {T TP : TypeId} {b0 g k : Nat} {w : World} {s : Bool} {A : Option Addr} {n c : Nat} {B : Option Addr} {m d : Nat} {t : Bool} {C : Option Addr} {i e : Nat} {D : Option Addr} {j f : Nat} {p : PtD} (h : OwPN AnyN T b0 w s A n c B m d t C i e D j f p) (hk : Wk k TP g w) (hne : T ≠ TP) (i0 : Nat) (u : Value) : OwPN AnyN T b0 (w.setCell ⟨g, i0, none⟩ u) s A n c B m d t C i e D j f p := by
  obtain ⟨c1, c2, h1, h2, hf, hn⟩ := h
  exact ⟨c1, c2, h1.keep (by simp) (fun b hb => Below.heap_setCell w _ u b (h1.neT hk hne b hb)), h2.keep (by simp) (fun b hb => Below.heap_setCell w _ u b (h2.neT hk hne b hb)), fun b hb => by simpa using hf b hb, hn⟩
theorem OwPN.mixX {T : TypeId} {b0 b1 : Nat} {w : World} {s : Bool} {A : Option Addr} {n c : Nat} {B : Option Addr} {m d : Nat} {t : Bool} {C : Option Addr} {i e : Nat} {D : Option Addr} {j f : Nat} {p : PtD} {s1 : Bool} {A1 : Option Addr} {n1 c1 : Nat} {B1 : Option Addr} {m1 d1 : Nat} {x : RatD} (h : OwPN AnyN T b0 w s A n c B m d t C i e D j f p) (k : OwR T b1 w s1 A1 n1 c1 B1 m1 d1 x) (hb : b0 ≤ b1) : OwPN AnyN T b0 w s1 A1 n1 c1 B1 m1 d1 t C i e D j f ⟨x, p.y⟩ := by
  obtain ⟨c1, c2, h1, h2, hf, hn⟩ := h
  obtain ⟨c3, h3, hf3⟩ := k
  refine ⟨c3, c2, h3, h2, fun b hm => ?_, trivial⟩
  rcases List.mem_append.1 hm with hm | hm
  · exact ⟨Nat.le_trans hb (hf3.2 b hm).1, (hf3.2 b hm).2⟩
  · exact hf b (by simp [hm])

theorem Cur.set {g n c : Nat} {w : World} {A : Option Addr} {l : List Int} (h : Cur g w A n c l) {b : Nat} (hq : b ≠ g) (hq2 : ∀ ad, A = Option.some ad → 0 < n → ad.block ≠ b) (o : Nat) (u : Value) : Cur g (w.setCell ⟨b, o, none⟩ u) A n c l := by
  obtain ⟨i, k, h1, h2, h3, h4, h5⟩ := h
  exact ⟨i, k, h1.far (Ne.symm hq) u, h2, h3, h4.ob (g := b) hq2 ((Ob.refl [b] w).set (by simp) _ _), h5⟩
theorem Ob.far {bs : List Nat} {w W : World} (h : Ob bs w W) {b : Nat} (hb : w.heap.size ≤ b) (o : Nat) (u : Value) : Ob bs w (W.setCell ⟨b, o, none⟩ u) := by
  have k := (h.mono (cs := b :: bs) (fun x hx => List.mem_cons_of_mem _ hx)).set (g := b) (by simp) o u
  exact ⟨k.os, k.tape, k.output, k.size, fun x hx hn => k.block x hx fun hm => by rcases List.mem_cons.1 hm with rfl | hm; omega; exact hn hm⟩
theorem OwPN.far' {T : TypeId} {b0 : Nat} {w : World} {s : Bool} {A : Option Addr} {n c : Nat} {B : Option Addr} {m d : Nat} {t : Bool} {C : Option Addr} {i e : Nat} {D : Option Addr} {j f : Nat} {p : PtD} (h : OwPN AnyN T b0 w s A n c B m d t C i e D j f p) {q : Addr} (hp : q.block < b0) (u : Value) : OwPN AnyN T b0 (w.setCell q u) s A n c B m d t C i e D j f p := by
  obtain ⟨b1, b2, h1, h2, hf, _⟩ := h
  exact ⟨b1, b2, h1.keep (by simp) (fun b hb => Below.heap_setCell w q u b (by have := (hf b (by simp [hb])).1; omega)), h2.keep (by simp) (fun b hb => Below.heap_setCell w q u b (by have := (hf b (by simp [hb])).1; omega)), fun b hb => by have := hf b hb; simpa using this, trivial⟩
def L05Res (w : World) (g : Nat) (A : Option Addr) (n c : Nat) (l : List Int) (en : Ending) (w' : World) : Prop := ∃ s1 A1 n1 c1 B1 m1 d1 t1 C1 i1 e1 D1 j1 f1 p, en = .returned (.agg #[.bool s1, .slice A1 n1 c1, .slice B1 m1 d1, .bool t1, .slice C1 i1 e1, .slice D1 j1 f1]) ∧ OwPN AnyN 3 w.heap.size w' s1 A1 n1 c1 B1 m1 d1 t1 C1 i1 e1 D1 j1 f1 p ∧ PtS p ∧ Cur g w' A n c l ∧ Ob [g] w w'
set_option maxRecDepth 100000 in
set_option maxHeartbeats 16000000 in
theorem l05Point_any (w : World) {g n c : Nat} {A : Option Addr} {l : List Int} (hC : Cur g w A n c l) :
    Calls Tryz.prog 42 #[.pointer (some ⟨g, 0, none⟩)] w (L05Res w g A n c l) := by
  have hgw := hC.lt
  have hwg : w.heap.size ≠ g := by omega
  have hAl : ∀ ad, A = Option.some ad → 0 < n → ad.block < w.heap.size := fun ad e h0 => by
    obtain ⟨_, _, _, _, _, hR, _⟩ := hC
    obtain ⟨_, e2, hl, _⟩ := hR.cells 0 h0
    rw [e] at e2
    cases e2
    exact hl
  have hwA : ∀ ad, A = Option.some ad → 0 < n → ad.block ≠ w.heap.size := fun ad e h0 => by have := hAl ad e h0; omega
  go_enter Tryz.func42, Tryz.ntmps42
  go_wp2_with fail
  refine calls_gen (fun W => Wk 6 28 w.heap.size W ∧ Bl w W) ⟨bts, slc⟩ ?_
  rintro W ⟨hr, hbW⟩
  have hC := hC.bl hbW
  have hz0 := hr.lt
  refine (l01Below_any _ 9 (by omega) (by omega) hC).mono ?_
  rintro e w2 ⟨a, rfl, ha0, ha1, hC2, hO2⟩
  go_wp2_with fail
  refine (l01Below_any _ 9 (by omega) (by omega) hC2).mono ?_
  rintro e w3 ⟨b, rfl, hb0, hb1, hC3, hO3⟩
  have hO := ((Ob.of_bl hbW [g]).trans hO2).trans hO3
  have hr := (hr.ob hO2 (fun hm => by simp at hm; omega)).ob hO3 (fun hm => by simp at hm; omega)
  have hz3 := hr.lt
  clear hC2 hO2 hO3 hC hbW
  go_wp2_with fail
  refine (sPointAt_any _ (a - 4) (b - 4) (by omega) (by omega) (by omega) (by omega)).mono ?_
  rintro e w4 ⟨s1, A1, n1, c1, B1, m1, d1, t1, C1, i1, e1, D1, j1, f1, rfl, hP, hb4⟩
  have hC4 := hC3.bl hb4
  have hr := hr.bl hb4
  have hO := hO.trans (Ob.of_bl hb4 _)
  have hP := OwPN.q hP
  have hz4 := Bl.size hb4
  clear hC3 hb4
  go_wp2_with fail
  refine calls_gen (fun W => Blk W w4.heap.size 28 #[.bool s1, .slice A1 n1 c1, .slice B1 m1 d1, .bool t1, .slice C1 i1 e1, .slice D1 j1 f1] ∧ Bl w4 W) ⟨Blk.new _ _ _, slc⟩ ?_
  rintro W5 ⟨hp, hb5⟩
  have hgW : g < w3.heap.size := by omega
  refine (l01Once_any _ 3 (by omega) (by omega) (hC4.bl hb5)).mono ?_
  rintro e w6 ⟨bb, rfl, hC6, hO6⟩
  have hP6 := OwPN.ob' (OwPN.bl' hP hb5) hO6 hgW
  have hp := hp.ob hO6 (fun hm => by simp at hm; omega)
  have hr6 := (hr.bl hb5).ob hO6 (fun hm => by simp at hm; omega)
  have hO := (hO.trans (Ob.of_bl hb5 _)).trans hO6
  clear hC4 hP hr hb5 hO6
  have hgp := hp.lt
  cases bb with
  | false =>
    have hr := hr6
    have hC := hC6
    have hP := hP6
    obtain ⟨y0, y1, y2, y3, y4, y5⟩ := bx6 hp
    obtain ⟨v0, x0⟩ := hr.val_ (i := 0) (by omega)
    obtain ⟨v1, x1⟩ := hr.val_ (i := 1) (by omega)
    obtain ⟨v2, x2⟩ := hr.val_ (i := 2) (by omega)
    obtain ⟨v3, x3⟩ := hr.val_ (i := 3) (by omega)
    obtain ⟨v4, x4⟩ := hr.val_ (i := 4) (by omega)
    obtain ⟨v5, x5⟩ := hr.val_ (i := 5) (by omega)
    have hgr := hr.lt
    obtain ⟨cs4, hB4, hc4⟩ := hr
    have hf0 := hB4.frozen 0
    have hf1 := hB4.frozen 1
    have hf2 := hB4.frozen 2
    have hf3 := hB4.frozen 3
    have hf4 := hB4.frozen 4
    have hf5 := hB4.frozen 5
    go_wp2_with fail
    exact bodyPost_ret (v := .agg #[.bool s1, .slice A1 n1 c1, .slice B1 m1 d1, .bool t1, .slice C1 i1 e1, .slice D1 j1 f1]) (by simp [results, Tryz.results42, go_sem, x0, x1, x2, x3, x4, x5]) rfl ⟨_, _, _, _, _, _, _, _, _, _, _, _, _, _, _, rfl, OwPN.low' (OwPN.far' (OwPN.far' (OwPN.far' (OwPN.far' (OwPN.far' (OwPN.far' hP (q := ⟨w.heap.size, 0, none⟩) hz3 _) (q := ⟨w.heap.size, 1, none⟩) hz3 _) (q := ⟨w.heap.size, 2, none⟩) hz3 _) (q := ⟨w.heap.size, 3, none⟩) hz3 _) (q := ⟨w.heap.size, 4, none⟩) hz3 _) (q := ⟨w.heap.size, 5, none⟩) hz3 _) (by omega), ptS_at _ _ (by omega) (by omega), (Cur.set (Cur.set (Cur.set (Cur.set (Cur.set (Cur.set hC hwg hwA 0 _) hwg hwA 1 _) hwg hwA 2 _) hwg hwA 3 _) hwg hwA 4 _) hwg hwA 5 _), (Ob.far (Ob.far (Ob.far (Ob.far (Ob.far (Ob.far hO (Nat.le_refl _) 0 _) (Nat.le_refl _) 1 _) (Nat.le_refl _) 2 _) (Nat.le_refl _) 3 _) (Nat.le_refl _) 4 _) (Nat.le_refl _) 5 _)⟩
  | true =>
    go_wp2_with fail
    have hHeld : (fun w' => (w'.cell? ⟨w4.heap.size, 0, none⟩ = some (.bool s1) ∧ w'.cell? ⟨w4.heap.size, 1, none⟩ = some (.slice A1 n1 c1) ∧ w'.cell? ⟨w4.heap.size, 2, none⟩ = some (.slice B1 m1 d1) ∧ w'.cell? ⟨w4.heap.size, 3, none⟩ = some (.bool t1) ∧ w'.cell? ⟨w4.heap.size, 4, none⟩ = some (.slice C1 i1 e1) ∧ w'.cell? ⟨w4.heap.size, 5, none⟩ = some (.slice D1 j1 f1))) (w6.drew) := bx6 (T := 28) (hp.bl slc)
    refine wp_region_T 8 9 (fun w' => (w'.cell? ⟨w4.heap.size, 0, none⟩ = some (.bool s1) ∧ w'.cell? ⟨w4.heap.size, 1, none⟩ = some (.slice A1 n1 c1) ∧ w'.cell? ⟨w4.heap.size, 2, none⟩ = some (.slice B1 m1 d1) ∧ w'.cell? ⟨w4.heap.size, 3, none⟩ = some (.bool t1) ∧ w'.cell? ⟨w4.heap.size, 4, none⟩ = some (.slice C1 i1 e1) ∧ w'.cell? ⟨w4.heap.size, 5, none⟩ = some (.slice D1 j1 f1))) rfl (by kernel_rfl) hHeld ?_
    refine wpAnyT_take (i := 0) (oi := _) (v := ?_) (fuel := 8) rfl (by kernel_rfl) (by kernel_rfl) (by kernel_rfl) (by kernel_rfl) (fun _ _ _ h => h) (by rfl) ?_ hHeld ?_
    rotate_left 1
    · (intro w' hSw; (try dsimp only at hSw); go_simp <;> with_reducible rfl)
    refine wpAnyT_take (i := 1) (oi := _) (v := ?_) (fuel := 7) rfl (by kernel_rfl) (by kernel_rfl) (by kernel_rfl) (by kernel_rfl) (fun _ _ _ h => h) (by rfl) ?_ hHeld ?_
    rotate_left 1
    · (intro w' hSw; (try dsimp only at hSw); go_simp <;> with_reducible rfl)
    refine wpAnyT_take (i := 2) (oi := _) (v := ?_) (fuel := 6) rfl (by kernel_rfl) (by kernel_rfl) (by kernel_rfl) (by kernel_rfl) (fun _ _ _ h => h) (by rfl) ?_ hHeld ?_
    rotate_left 1
    · (intro w' hSw; (try dsimp only at hSw); go_simp <;> with_reducible rfl)
    clear hHeld
    simp only [Act.put, List.setIfInBounds_toArray]
    refine wpAnyT_step (i := 3) (o := _) (fuel := 5) rfl (by kernel_rfl) (fun K hK => ?_)
    go_simp
    refine (l01Below_any _ 3 (by omega) (by omega) (hC6.bl slc)).mono ?_
    rintro e w7 ⟨d, rfl, hd0, hd1, hC7, hO7⟩
    have hwd : IntKind.i64.wrap (2 + d) = 2 + d := wrap_ok _ (by omega) (by omega)
    have hp := (hp.bl (show Bl w6 w6.drew from slc)).ob hO7 (fun hm => by simp at hm; omega)
    have hP7 := (OwPN.bl' hP6 (show Bl w6 w6.drew from slc)).ob' hO7 hgW
    have hr7 := (hr6.bl (show Bl w6 w6.drew from slc)).ob hO7 (fun hm => by simp at hm; omega)
    have hO67 := (hO.trans (Ob.of_bl (show Bl w6 w6.drew from slc) _)).trans hO7
    refine hK.out _ _ (fun _ => bx6 (T := 28) (hp.bl slc)) ?_
    clear hK K
    try simp only [Act.put, List.setIfInBounds_toArray, List.set_cons_zero, List.set_cons_succ]
    refine wpAnyT_step (i := 4) (o := _) (fuel := 4) rfl (by kernel_rfl) (fun K hK => ?_)
    go_simp
    refine hK.out _ _ (fun _ => bx6 (T := 28) (hp.bl slc)) ?_
    clear hK K
    try simp only [Act.put, List.setIfInBounds_toArray, List.set_cons_zero, List.set_cons_succ]
    refine wpAnyT_step (i := 5) (o := _) (fuel := 3) rfl (by kernel_rfl) (fun K hK => ?_)
    go_simp
    refine (sRatOf_any _ 1 (2 + d) (by omega) (by omega) (by omega) (by omega)).mono ?_
    rintro e w8 ⟨s8, A8, n8, c8, B8, m8, d8, rfl, hR8, hb8⟩
    have hp := hp.bl hb8
    refine hK.out _ _ (fun _ => bx6 (T := 28) (hp.bl slc)) ?_
    clear hK K
    try simp only [Act.put, List.setIfInBounds_toArray, List.set_cons_zero, List.set_cons_succ]
    refine wpAnyT_step (i := 6) (o := _) (fuel := 2) rfl (by kernel_rfl) (fun K hK => ?_)
    go_simp
    refine (sRatAdd_any _ (OwPN.bl' hP7 hb8).rdx.1 hR8.rd).mono ?_
    rintro e w9 ⟨s9, A9, n9, c9, B9, m9, d9, rfl, hR9, hb9⟩
    have hp := hp.bl hb9
    refine hK.out _ _ (fun _ => bx6 (T := 28) (hp.bl slc)) ?_
    clear hK K
    try simp only [Act.put, List.setIfInBounds_toArray, List.set_cons_zero, List.set_cons_succ]
    refine wpAnyT_step (i := 7) (o := _) (fuel := 1) rfl (by kernel_rfl) (fun K hK => ?_)
    go_simp
    refine hK.out _ _ (fun _ => bx6 (T := 28) (hp.bl slc)) ?_
    clear hK K
    try simp only [Act.put, List.setIfInBounds_toArray, List.set_cons_zero, List.set_cons_succ]
    obtain ⟨z0', z1', z2', z3', z4', z5'⟩ := bx6 hp
    have zf0 := hp.frozen 0
    have zf1 := hp.frozen 1
    have zf2 := hp.frozen 2
    refine wpAnyT_step (i := 8) (o := _) (fuel := 0) rfl (by kernel_rfl) (fun K hK => ?_)
    go_simp
    refine hK.out _ _ (fun h => absurd rfl h) ?_
    clear hK K
    try simp only [Act.put, List.setIfInBounds_toArray]
    refine wpAnyT_done (by kernel_rfl) ?_
    have hz8 : w3.heap.size ≤ w8.heap.size := by have := Bl.size hb8; have := hO7.size; simp at this; omega
    have hP9 := OwPN.mixX (OwPN.bl' (OwPN.bl' hP7 hb8) hb9) hR9 hz8
    have hk9 : Wk 6 28 w4.heap.size w9 := Wk.of hp rfl
    have hP := ((hP9.setT hk9 ne_ip 0 (.bool s9)).setT (hk9.set 0 _) ne_ip 1 (.slice A9 n9 c9)).setT ((hk9.set 0 _).set 1 _) ne_ip 2 (.slice B9 m9 d9)
    have hr := (((hr7.bl hb8).bl hb9).far (p := ⟨w4.heap.size, 0, none⟩) (by show w.heap.size ≠ w4.heap.size; omega) (.bool s9)).far (p := ⟨w4.heap.size, 1, none⟩) (by show w.heap.size ≠ w4.heap.size; omega) (.slice A9 n9 c9)
    have hr := hr.far (p := ⟨w4.heap.size, 2, none⟩) (by show w.heap.size ≠ w4.heap.size; omega) (.slice B9 m9 d9)
    have hpg : w4.heap.size ≠ g := by omega
    have hpA : ∀ ad, A = Option.some ad → 0 < n → ad.block ≠ w4.heap.size := fun ad e h0 => by have := hAl ad e h0; omega
    have hC := (((hC7.bl hb8).bl hb9).set hpg hpA 0 (.bool s9)).set hpg hpA 1 (.slice A9 n9 c9)
    have hC := hC.set hpg hpA 2 (.slice B9 m9 d9)
    have hO := (((hO67.trans (Ob.of_bl hb8 _)).trans (Ob.of_bl hb9 _)).far (b := w4.heap.size) (by omega) 0 (.bool s9)).far (b := w4.heap.size) (by omega) 1 (.slice A9 n9 c9)
    have hO := hO.far (b := w4.heap.size) (by omega) 2 (.slice B9 m9 d9)
    have hp : Blk (((w9.setCell ⟨w4.heap.size, 0, none⟩ (.bool s9)).setCell ⟨w4.heap.size, 1, none⟩ (.slice A9 n9 c9)).setCell ⟨w4.heap.size, 2, none⟩ (.slice B9 m9 d9)) w4.heap.size 28 #[.bool s9, .slice A9 n9 c9, .slice B9 m9 d9, .bool t1, .slice C1 i1 e1, .slice D1 j1 f1] := by simpa using ((hp.set_ 0 (.bool s9)).set_ 1 (.slice A9 n9 c9)).set_ 2 (.slice B9 m9 d9)
    generalize (((w9.setCell ⟨w4.heap.size, 0, none⟩ (.bool s9)).setCell ⟨w4.heap.size, 1, none⟩ (.slice A9 n9 c9)).setCell ⟨w4.heap.size, 2, none⟩ (.slice B9 m9 d9)) = wz at hP hr hC hO hp ⊢
    clear hP9 hP7 hR9 hR8 hk9 hC7 hO7 hO67 hr7 hb8 hb9 hP6 hr6 hC6
    obtain ⟨y0, y1, y2, y3, y4, y5⟩ := bx6 hp
    obtain ⟨v0, x0⟩ := hr.val_ (i := 0) (by omega)
    obtain ⟨v1, x1⟩ := hr.val_ (i := 1) (by omega)
    obtain ⟨v2, x2⟩ := hr.val_ (i := 2) (by omega)
    obtain ⟨v3, x3⟩ := hr.val_ (i := 3) (by omega)
    obtain ⟨v4, x4⟩ := hr.val_ (i := 4) (by omega)
    obtain ⟨v5, x5⟩ := hr.val_ (i := 5) (by omega)
    have hgr := hr.lt
    obtain ⟨cs4, hB4, hc4⟩ := hr
    have hf0 := hB4.frozen 0
    have hf1 := hB4.frozen 1
    have hf2 := hB4.frozen 2
    have hf3 := hB4.frozen 3
    have hf4 := hB4.frozen 4
    have hf5 := hB4.frozen 5
    go_wp2_with fail
    exact bodyPost_ret (v := .agg #[.bool s9, .slice A9 n9 c9, .slice B9 m9 d9, .bool t1, .slice C1 i1 e1, .slice D1 j1 f1]) (by simp [results, Tryz.results42, go_sem, x0, x1, x2, x3, x4, x5]) rfl ⟨_, _, _, _, _, _, _, _, _, _, _, _, _, _, _, rfl, OwPN.low' (OwPN.far' (OwPN.far' (OwPN.far' (OwPN.far' (OwPN.far' (OwPN.far' hP (q := ⟨w.heap.size, 0, none⟩) hz3 _) (q := ⟨w.heap.size, 1, none⟩) hz3 _) (q := ⟨w.heap.size, 2, none⟩) hz3 _) (q := ⟨w.heap.size, 3, none⟩) hz3 _) (q := ⟨w.heap.size, 4, none⟩) hz3 _) (q := ⟨w.heap.size, 5, none⟩) hz3 _) (by omega), ptS_half _ _ _ (by omega) (by omega) (by omega) (by omega) (by omega), (Cur.set (Cur.set (Cur.set (Cur.set (Cur.set (Cur.set hC hwg hwA 0 _) hwg hwA 1 _) hwg hwA 2 _) hwg hwA 3 _) hwg hwA 4 _) hwg hwA 5 _), (Ob.far (Ob.far (Ob.far (Ob.far (Ob.far (Ob.far hO (Nat.le_refl _) 0 _) (Nat.le_refl _) 1 _) (Nat.le_refl _) 2 _) (Nat.le_refl _) 3 _) (Nat.le_refl _) 4 _) (Nat.le_refl _) 5 _)⟩
end

section
open Go.RowKit

def toP (x y : Rat) : PtD := ⟨toR x, toR y⟩
theorem ifP_toP {x y : Rat} (hx : Fit x) (hy : Fit y) : ifP (toP x y) = toP x y := by
  have e1 := (okR_den (.inr hx.ok)).2 hx.ok
  have e2 := (okR_den (.inr hy.ok)).2 hy.ok
  unfold ifP
  rw [if_neg]
  rintro (h | h)
  · exact e1 h
  · exact e2 h
/-- Twice the area. -/
def detQ (x0 y0 x1 y1 x2 y2 : Rat) : Rat := (x1 - x0) * (y2 - y0) - (y1 - y0) * (x2 - x0)
end

section
open Go.RowKit

noncomputable def addP (p q : PtD) : PtD := ifP ⟨addR p.x q.x, addR p.y q.y⟩
set_option maxRecDepth 100000 in
set_option maxHeartbeats 8000000 in
theorem AddPoints_any (w : World) {s : Bool} {A : Option Addr} {n c : Nat} {B : Option Addr} {m d : Nat} {t : Bool} {C : Option Addr} {i e : Nat} {D : Option Addr} {j f : Nat} {p : PtD} {s' : Bool} {A' : Option Addr} {n' c' : Nat} {B' : Option Addr} {m' d' : Nat} {t' : Bool} {C' : Option Addr} {i' e' : Nat} {D' : Option Addr} {j' f' : Nat} {p' : PtD} (h : RdR w s A n c B m d p.x) (k : RdR w t C i e D j f p.y) (h' : RdR w s' A' n' c' B' m' d' p'.x) (k' : RdR w t' C' i' e' D' j' f' p'.y) :
    Calls Tryz.prog 19 #[.agg #[.bool s, .slice A n c, .slice B m d, .bool t, .slice C i e, .slice D j f], .agg #[.bool s', .slice A' n' c', .slice B' m' d', .bool t', .slice C' i' e', .slice D' j' f']] w fun en w' => ∃ s1 A1 n1 c1 B1 m1 d1 t1 C1 i1 e1 D1 j1 f1, en = .returned (.agg #[.bool s1, .slice A1 n1 c1, .slice B1 m1 d1, .bool t1, .slice C1 i1 e1, .slice D1 j1 f1]) ∧ OwP 3 w.heap.size w' s1 A1 n1 c1 B1 m1 d1 t1 C1 i1 e1 D1 j1 f1 (addP p p') ∧ Bl w w' := by
  go_enter Tryz.func19, Tryz.ntmps19
  go_wp2_with fail
  refine wp_gen (fun W => Bl w W ∧ Blk W (w.heap.size) 28 #[.bool s, .slice A n c, .slice B m d, .bool t, .slice C i e, .slice D j f] ∧ Blk W (w.heap.size + 1) 28 #[.bool s', .slice A' n' c', .slice B' m' d', .bool t', .slice C' i' e', .slice D' j' f'] ∧ Wk 6 28 (w.heap.size + 1 + 1) W) ⟨slc, bts, bts, bts⟩ ?_
  rintro W ⟨hbW, hx, hx', hr⟩
  go_region_held3 (fun w' => (w'.cell? ⟨w.heap.size, 0, none⟩ = some (.bool s) ∧ w'.cell? ⟨w.heap.size, 1, none⟩ = some (.slice A n c) ∧ w'.cell? ⟨w.heap.size, 2, none⟩ = some (.slice B m d) ∧ w'.cell? ⟨w.heap.size, 3, none⟩ = some (.bool t) ∧ w'.cell? ⟨w.heap.size, 4, none⟩ = some (.slice C i e) ∧ w'.cell? ⟨w.heap.size, 5, none⟩ = some (.slice D j f)) ∧ (w'.cell? ⟨w.heap.size + 1, 0, none⟩ = some (.bool s') ∧ w'.cell? ⟨w.heap.size + 1, 1, none⟩ = some (.slice A' n' c') ∧ w'.cell? ⟨w.heap.size + 1, 2, none⟩ = some (.slice B' m' d') ∧ w'.cell? ⟨w.heap.size + 1, 3, none⟩ = some (.bool t') ∧ w'.cell? ⟨w.heap.size + 1, 4, none⟩ = some (.slice C' i' e') ∧ w'.cell? ⟨w.heap.size + 1, 5, none⟩ = some (.slice D' j' f')) ∧ (w'.cell? ⟨w.heap.size + 1 + 1, 0, none⟩ = some (cellD w' (w.heap.size + 1 + 1) 0) ∧ w'.cell? ⟨w.heap.size + 1 + 1, 1, none⟩ = some (cellD w' (w.heap.size + 1 + 1) 1) ∧ w'.cell? ⟨w.heap.size + 1 + 1, 2, none⟩ = some (cellD w' (w.heap.size + 1 + 1) 2) ∧ w'.cell? ⟨w.heap.size + 1 + 1, 3, none⟩ = some (cellD w' (w.heap.size + 1 + 1) 3) ∧ w'.cell? ⟨w.heap.size + 1 + 1, 4, none⟩ = some (cellD w' (w.heap.size + 1 + 1) 4) ∧ w'.cell? ⟨w.heap.size + 1 + 1, 5, none⟩ = some (cellD w' (w.heap.size + 1 + 1) 5)) ∧ w'.frozen? ⟨w.heap.size + 1 + 1, 0, none⟩ = false ∧ w'.frozen? ⟨w.heap.size + 1 + 1, 1, none⟩ = false ∧ w'.frozen? ⟨w.heap.size + 1 + 1, 2, none⟩ = false ∧ w'.frozen? ⟨w.heap.size + 1 + 1, 3, none⟩ = false ∧ w'.frozen? ⟨w.heap.size + 1 + 1, 4, none⟩ = false ∧ w'.frozen? ⟨w.heap.size + 1 + 1, 5, none⟩ = false) (first | exact ⟨bx6 (T := 28) bts, bx6 (T := 28) bts, Wk.out6 (T := 28) bts⟩) (first | (go_at_call 53; with_reducible refine (RatAdd_any _ (h.bl slc) (h'.bl slc)).mono ?_; rintro en w2 ⟨s2, A2, n2, c2, B2, m2, d2, rfl, hR2, hb2⟩) | (go_at_call 53; with_reducible refine (RatAdd_any _ (k.bl slc) (k'.bl slc)).mono ?_; rintro en w3 ⟨s3, A3, n3, c3, B3, m3, d3, rfl, hR3, hb3⟩) | (go_at_call 51; refine (ifPoint_any (p := ⟨addR p.x p'.x, addR p.y p'.y⟩) _ (OwP.two hR2 hR3 hb3 (Bl.size hb2))).mono ?_; rintro en w4 ⟨s1, A1, n1, c1, B1, m1, d1, t1, C1, i1, e1, D1, j1, f1, rfl, hX, hb4⟩))
  have hz : w.heap.size + 1 + 1 + 1 ≤ W.heap.size := hr.lt
  have hr := (show Wk 6 28 (w.heap.size + 1 + 1) w4 from bts)
  have hbW : Bl w w4 := slc
  have hX := hX.low (show w.heap.size + 1 + 1 + 1 ≤ W.drew.heap.size from hz)
  obtain ⟨v0, x0⟩ := hr.val_ (i := 0) (by omega)
  obtain ⟨v1, x1⟩ := hr.val_ (i := 1) (by omega)
  obtain ⟨v2, x2⟩ := hr.val_ (i := 2) (by omega)
  obtain ⟨v3, x3⟩ := hr.val_ (i := 3) (by omega)
  obtain ⟨v4, x4⟩ := hr.val_ (i := 4) (by omega)
  obtain ⟨v5, x5⟩ := hr.val_ (i := 5) (by omega)
  have hg := hr.lt
  obtain ⟨cs4, hB4, hc4⟩ := hr
  have hf0 := hB4.frozen 0
  have hf1 := hB4.frozen 1
  have hf2 := hB4.frozen 2
  have hf3 := hB4.frozen 3
  have hf4 := hB4.frozen 4
  have hf5 := hB4.frozen 5
  go_wp2_with fail
  exact bodyPost_ret (v := .agg #[.bool s1, .slice A1 n1 c1, .slice B1 m1 d1, .bool t1, .slice C1 i1 e1, .slice D1 j1 f1]) (by simp [results, Tryz.results19, go_sem, x0, x1, x2, x3, x4, x5]) rfl ⟨_, _, _, _, _, _, _, _, _, _, _, _, _, _, rfl, ((((((hX.far (by simp) _).far (by simp) _).far (by simp) _).far (by simp) _).far (by simp) _).far (by simp) _).low (by omega), slc⟩
end

end Go.Proofs.YtjaapemopbbfaaaGreatDoor
