/- Lemmas. -/
import Derived.Test.YtajlahjghapbkaaGreatRows
import Derived.Test.YtajlahjghapbkaaGreatPTrianglesM36
import Derived.Test.YtajlahjghapbkaaGreatPTrianglesM37
import Derived.Deep.Cut
import Derived.Deep.DeepCutAuto
namespace Go.Proofs.YtajlahjghapbkaaGreat
section
open Go.RowKit

theorem OwPN.put6 {T TP : TypeId} {b0 g k : Nat} {w : World} {s : Bool} {A : Option Addr} {n c : Nat} {B : Option Addr} {m d : Nat} {t : Bool} {C : Option Addr} {i e : Nat} {D : Option Addr} {j f : Nat} {p : PtD} (h : OwPN AnyN T b0 w s A n c B m d t C i e D j f p) (hk : Wk k TP g w) (hne : T ≠ TP) (u0 u1 u2 u3 u4 u5 : Value) :
    OwPN AnyN T b0 ((((((w.setCell ⟨g, 0, none⟩ u0).setCell ⟨g, 1, none⟩ u1).setCell ⟨g, 2, none⟩ u2).setCell ⟨g, 3, none⟩ u3).setCell ⟨g, 4, none⟩ u4).setCell ⟨g, 5, none⟩ u5) s A n c B m d t C i e D j f p :=
  (((((h.setT hk hne 0 u0).setT (hk.set 0 u0) hne 1 u1).setT ((hk.set 0 u0).set 1 u1) hne 2 u2).setT (((hk.set 0 u0).set 1 u1).set 2 u2) hne 3 u3).setT ((((hk.set 0 u0).set 1 u1).set 2 u2).set 3 u3) hne 4 u4).setT (((((hk.set 0 u0).set 1 u1).set 2 u2).set 3 u3).set 4 u4) hne 5 u5
theorem eqR_self' (r : RatD) : eqR r r = true := by unfold eqR eqL; simp
def PtRes (w : World) (en : Ending) (w' : World) : Prop := ∃ s1 A1 n1 c1 B1 m1 d1 t1 C1 i1 e1 D1 j1 f1 p, en = .returned (.agg #[.bool s1, .slice A1 n1 c1, .slice B1 m1 d1, .bool t1, .slice C1 i1 e1, .slice D1 j1 f1]) ∧ RdR w' s1 A1 n1 c1 B1 m1 d1 p.x ∧ RdR w' t1 C1 i1 e1 D1 j1 f1 p.y ∧ PtS p ∧ Bl w w'
set_option maxRecDepth 100000 in
set_option maxHeartbeats 1000000 in
theorem MakePoint_any (w : World) {A : Option Addr} {n c : Nat} {l : List Int} (m : Nat) (hm : m ≤ 100) (h : RdB w A n c l) :
    Calls Tryz.prog 13 #[.slice A n c, .int .i64 (m : Int)] w (PtRes w) := by
  go_enter Tryz.func13, Tryz.ntmps13
  go_wp2_with fail
  refine calls_gen (fun W => Bl w W ∧ Wk 6 31 w.heap.size W) ⟨slc, bts⟩ ?_
  rintro W ⟨hbW, hr⟩
  refine (l31New_any _ (4 * m) (by omega) (h.bl hbW)).mono ?_
  rintro e w1 ⟨g, rfl, hg, hC, hb1⟩
  have hzW : w.heap.size < W.heap.size := hr.lt
  have hr := hr.bl hb1
  have hz := hr.lt
  go_wp2_with fail
  refine (l05Point_any _ hC).mono ?_
  rintro e w2 ⟨s1, A1, n1, c1, B1, m1, d1, t1, C1, i1, e1, D1, j1, f1, p, rfl, hP, hS, hC2, hO⟩
  have hz3 : w.heap.size < w1.heap.size := by omega
  have hr := hr.ob hO (by simp; omega)
  have hbx : Bl w w2 := (hbW.next hb1).ob hO (fun b hb => by simp at hb; omega)
  obtain ⟨v0, x0⟩ := hr.val_ (i := 0) (by omega)
  obtain ⟨v1, x1⟩ := hr.val_ (i := 1) (by omega)
  obtain ⟨v2, x2⟩ := hr.val_ (i := 2) (by omega)
  obtain ⟨v3, x3⟩ := hr.val_ (i := 3) (by omega)
  obtain ⟨v4, x4⟩ := hr.val_ (i := 4) (by omega)
  obtain ⟨v5, x5⟩ := hr.val_ (i := 5) (by omega)
  have hgr := hr.lt
  obtain ⟨cs4, hB4, hc4⟩ := hr
  have hf0 := hB4.frozen 0
  have hf1 := hB4.frozen 1
  have hf2 := hB4.frozen 2
  have hf3 := hB4.frozen 3
  have hf4 := hB4.frozen 4
  have hf5 := hB4.frozen 5
  go_wp2_with fail
  have hQ := OwPN.far' (OwPN.far' (OwPN.far' (OwPN.far' (OwPN.far' (OwPN.far' (hP) (q := ⟨w.heap.size, 0, none⟩) hz3 (.bool s1)) (q := ⟨w.heap.size, 1, none⟩) hz3 (.slice A1 n1 c1)) (q := ⟨w.heap.size, 2, none⟩) hz3 (.slice B1 m1 d1)) (q := ⟨w.heap.size, 3, none⟩) hz3 (.bool t1)) (q := ⟨w.heap.size, 4, none⟩) hz3 (.slice C1 i1 e1)) (q := ⟨w.heap.size, 5, none⟩) hz3 (.slice D1 j1 f1)
  exact bodyPost_ret (v := .agg #[.bool s1, .slice A1 n1 c1, .slice B1 m1 d1, .bool t1, .slice C1 i1 e1, .slice D1 j1 f1]) (by simp [results, Tryz.results13, go_sem, x0, x1, x2, x3, x4, x5]) rfl ⟨_, _, _, _, _, _, _, _, _, _, _, _, _, _, _, rfl, hQ.rdx.1, hQ.rdx.2, hS, slc⟩
/-- The sums of FnTriangles behind k rounds. -/
def cnr (p0 p1 p2 : PtD) : Nat → PtD
  | 0 => p0
  | 1 => p1
  | _ + 2 => p2
noncomputable def tsP (p0 p1 p2 q : PtD) : Nat → PtD
  | 0 => ⟨ofFrac 0 1, ofFrac 0 1⟩
  | k + 1 => addP (tsP p0 p1 p2 q k) (sclP (bar3 p0 p1 p2 q k) (cnr p0 p1 p2 k))
noncomputable def taP (p0 p1 p2 : PtD) : Nat → PtD
  | 0 => ⟨ofFrac 0 1, ofFrac 0 1⟩
  | k + 1 => addP (taP p0 p1 p2 k) (grad3 p0 p1 p2 k)
theorem pix_barTo (p0 p1 p2 q : PtD) {k i : Nat} (h : i < k) : pix (barTo p0 p1 p2 q k) i = bar3 p0 p1 p2 q i := by simp [pix, barTo, h]
theorem ts_succ (p0 p1 p2 q : PtD) {k : Nat} (h : k < 3) : addP (tsP p0 p1 p2 q k) (sclP (pix (barTo p0 p1 p2 q 3) k) (pix [p0, p1, p2] k)) = tsP p0 p1 p2 q (k + 1) := by
  rw [pix_barTo _ _ _ _ h]
  rcases (show k = 0 ∨ k = 1 ∨ k = 2 by omega) with rfl | rfl | rfl <;> rfl
theorem ta_succ (p0 p1 p2 : PtD) {k : Nat} (h : k < 3) : addP (taP p0 p1 p2 k) (pix (gradTo p0 p1 p2 3) k) = taP p0 p1 p2 (k + 1) := by
  rw [pix_gradTo _ _ _ h]
  rfl
theorem trP {p0 p1 p2 q : PtD} (h0 : PtS p0) (h1 : PtS p1) (h2 : PtS p2) (hq : PtS q) (hp : propB [p0, p1, p2] = true) : TrOk p0 p1 p2 q := by
  obtain ⟨x0, y0, rfl, a0, b0⟩ := h0
  obtain ⟨x1, y1, rfl, a1, b1⟩ := h1
  obtain ⟨x2, y2, rfl, a2, b2⟩ := h2
  obtain ⟨u, v, rfl, a3, b3⟩ := hq
  exact tr_ok ⟨a0, b0, a1, b1, a2, b2⟩ a3 b3 hp
set_option maxRecDepth 100000 in
set_option maxHeartbeats 8000000 in
theorem FnTriangles_any (w0 : World) {Ac : Option Addr} {nc cc : Nat} {lc : List Int} (hc : RdB w0 Ac nc cc lc) :
    Calls Tryz.prog 3 #[.slice Ac nc cc] w0 fun e w' => e = .returned (.bool true) ∧ Bl w0 w' := by
  have hn := hc.small
  by_cases hbig : (nc : Int) > 1048576
  · go_enter Tryz.func3, Tryz.ntmps3
    go_wp2_with fail
    go_ret
    exact ⟨rfl, slc⟩
  · have hsmall : ¬ 1048576 < (nc : Int) := hbig
    go_enter Tryz.func3, Tryz.ntmps3
    go_wp2_with fail
    refine (MakeTriangle_any _ 0 (by omega) hc).mono ?_
    rintro e w ⟨g, c0, p0, p1, p2, rfl, hl, hp0, hS0, hS1, hS2, hb0⟩
    have hp := Lib.hid hp0
    clear hp0
    go_wp2_with fail
    refine (MakePoint_any _ 9 (by omega) (hc.bl hb0)).mono ?_
    rintro e wq ⟨s3, A3, n3, c3, B3, m3, d3, t3, C3, i3, e3, D3, j3, f3, q, rfl, hqx, hqy, hSq, hbq⟩
    have hE0 := trP hS0 hS1 hS2 hSq hp.out
    have hEl := Lib.hid hE0.1.2.2
    have hEq := Lib.hid hE0.1.1
    have hEb := Lib.hid hE0.1.2.1
    have hE := Lib.hid hE0
    clear hE0
    clear hS0 hS1 hS2 hSq hc hn
    have hl := RdPS.bl hl hbq
    have hbw := hb0.next hbq
    clear hb0 hbq
    go_wp2_with fail
    refine calls_gen (fun W => ∃ gq, Bl wq W ∧ Blk W gq 31 #[.bool s3, .slice A3 n3 c3, .slice B3 m3 d3, .bool t3, .slice C3 i3 e3, .slice D3 j3 f3] ∧ gq = wq.heap.size) ⟨wq.heap.size, by exact slc, by exact bts, rfl⟩ ?_
    rintro W ⟨gq, hbW, hBq, hge⟩
    rw [← hge]
    clear hge
    have hl := RdPS.bl hl hbW
    have hqx := hqx.bl hbW
    have hqy := hqy.bl hbW
    have hbw := hbw.next hbW
    refine (Barycentric_yes _ hl hp hqx hqy hEq hEb).mono ?_
    rintro e w1 ⟨gb, cb, rfl, hBar, hb1⟩
    have hl := RdPS.bl hl hb1
    have hqx := hqx.bl hb1
    have hqy := hqy.bl hb1
    have hBq := hBq.bl hb1
    have hbw := hbw.next hb1
    clear hb1 hbW
    go_wp2_with fail
    refine (Gradients_any _ hl).mono ?_
    rw [hEl.out]
    clear hEl
    rintro e w2 ⟨Ag, ng, cg, rfl, hG, _, hb2⟩
    obtain rfl : ng = 3 := by rw [← hG.1, gradTo_len]
    obtain ⟨gg, rfl⟩ : ∃ gg, Ag = some ⟨gg, 0, none⟩ := by
      obtain ⟨_, _, _, h0 | ⟨gg, _, _, e, _⟩⟩ := id hG
      · omega
      · exact ⟨gg, e⟩
    have hG := hG.rd
    have hl := RdPS.bl hl hb2
    have hBar := RdRS.bl hBar hb2
    have hqx := hqx.bl hb2
    have hqy := hqy.bl hb2
    have hBq := hBq.bl hb2
    have hbw := hbw.next hb2
    clear hb2
    go_wp2_with fail
    refine (IsProper_any _ hl).mono ?_
    rw [hp.out]
    rintro e w3 ⟨rfl, hb3⟩
    have hl := RdPS.bl hl hb3
    have hG := RdPS.bl hG hb3
    have hBar := RdRS.bl hBar hb3
    have hqx := hqx.bl hb3
    have hqy := hqy.bl hb3
    have hBq := hBq.bl hb3
    have hbw3 := hbw.next hb3
    clear hbw hb3
    go_wp2_with fail
    refine (PointAt_any _ 0 0 (by omega) (by omega) (by omega) (by omega)).mono ?_
    rintro e w4 ⟨s7, A7, n7, c7, B7, m7, d7, t7, C7, i7, e7, D7, j7, f7, rfl, hP7, hb4⟩
    go_wp2_with fail
    refine calls_gen (fun W => ∃ g7, Bl w4 W ∧ Blk W g7 31 #[.bool s7, .slice A7 n7 c7, .slice B7 m7 d7, .bool t7, .slice C7 i7 e7, .slice D7 j7 f7] ∧ g7 = w4.heap.size) ⟨w4.heap.size, by exact slc, by exact bts, rfl⟩ ?_
    rintro W4 ⟨g7, hbW4, h7, hge⟩
    rw [← hge]
    have hg7 : w3.heap.size ≤ g7 := by have := Bl.size hb4; omega
    clear hge
    refine (PointAt_any _ 0 0 (by omega) (by omega) (by omega) (by omega)).mono ?_
    rintro e w5 ⟨s8, A8, n8, c8, B8, m8, d8, t8, C8, i8, e8, D8, j8, f8, rfl, hP8, hb5⟩
    go_wp2_with fail
    refine wp_gen (fun W => ∃ g8, Bl w5 W ∧ Blk W g8 31 #[.bool s8, .slice A8 n8 c8, .slice B8 m8 d8, .bool t8, .slice C8 i8 e8, .slice D8 j8 f8] ∧ g8 = w5.heap.size) ⟨w5.heap.size, by exact slc, by exact bts, rfl⟩ ?_
    rintro W5 ⟨g8, hbW5, h8, hge⟩
    rw [← hge]
    have hg78 : g7 < g8 := by have := h7.lt; have := Bl.size hb5; omega
    clear hge
    have hb45 : Bl w4 W5 := (hbW4.next hb5).next hbW5
    have h7 := h7.bl (hb5.next hbW5)
    have hF7 : OwPN AnyN 3 0 W5 s7 A7 n7 c7 B7 m7 d7 t7 C7 i7 e7 D7 j7 f7 (tsP p0 p1 p2 q 0) := OwPN.low' ((OwPN.q hP7).bl' hb45) (Nat.zero_le _)
    have hF8 : OwPN AnyN 3 0 W5 s8 A8 n8 c8 B8 m8 d8 t8 C8 i8 e8 D8 j8 f8 (taP p0 p1 p2 0) := OwPN.low' ((OwPN.q hP8).bl' hbW5) (Nat.zero_le _)
    have hb35 : Bl w3 W5 := hb4.next hb45
    clear hP7 hP8 hb4 hb5 hbW4 hbW5 hb45
    go_loopw [39] (fun v wr => ∃ (k : Nat) (s7 : Bool) (A7 : Option Addr) (n7 c7 : Nat) (B7 : Option Addr) (m7 d7 : Nat) (t7 : Bool) (C7 : Option Addr) (i7 e7 : Nat) (D7 : Option Addr) (j7 f7 : Nat) (s8 : Bool) (A8 : Option Addr) (n8 c8 : Nat) (B8 : Option Addr) (m8 d8 : Nat) (t8 : Bool) (C8 : Option Addr) (i8 e8 : Nat) (D8 : Option Addr) (j8 f8 : Nat), k ≤ 3 ∧ v = .int .i64 (k : Int) ∧ Blk wr g7 31 #[.bool s7, .slice A7 n7 c7, .slice B7 m7 d7, .bool t7, .slice C7 i7 e7, .slice D7 j7 f7] ∧ OwPN AnyN 3 0 wr s7 A7 n7 c7 B7 m7 d7 t7 C7 i7 e7 D7 j7 f7 (tsP p0 p1 p2 q k) ∧ Blk wr g8 31 #[.bool s8, .slice A8 n8 c8, .slice B8 m8 d8, .bool t8, .slice C8 i8 e8, .slice D8 j8 f8] ∧ OwPN AnyN 3 0 wr s8 A8 n8 c8 B8 m8 d8 t8 C8 i8 e8 D8 j8 f8 (taP p0 p1 p2 k) ∧ Bl w3 wr) (fun v _ => 3 - (intOf v).toNat)
    case atStart => exact ⟨0, _, _, _, _, _, _, _, _, _, _, _, _, _, _, _, _, _, _, _, _, _, _, _, _, _, _, _, _, by omega, rfl, h7, hF7, h8, hF8, hb35⟩
    case round =>
      clear h7 hF7 h8 hF8 hb35
      obtain ⟨k, s7, A7, n7, c7, B7, m7, d7, t7, C7, i7, e7, D7, j7, f7, s8, A8, n8, c8, B8, m8, d8, t8, C8, i8, e8, D8, j8, f8, hk, rfl, h7, hF7, h8, hF8, hbw⟩ := hrel
      by_cases hk3 : k < 3
      · skip
        have hki : (k : Int) < 3 := by omega
        have hlr := RdPS.bl hl hbw
        have hbr := RdRS.bl hBar hbw
        obtain ⟨_, ee, hlb, hcc⟩ := hbr.cells k hk3
        cases ee
        rw [Addr.add_lit, Nat.zero_add] at hcc
        obtain ⟨sb, Ab, nb, cb, Bb, mb, db, ⟨xb0, xb1, xb2⟩, hxb⟩ := (show RtAt wr ⟨gb, k * 3, none⟩ (pix (barTo p0 p1 p2 q 3) k) from hcc)
        clear hcc
        have xb0 : wr.cell? ⟨gb, k * 3, none⟩ = some (.bool sb) := xb0
        have xb1 : wr.cell? ⟨gb, k * 3 + 1, none⟩ = some (.slice Ab nb cb) := xb1
        have xb2 : wr.cell? ⟨gb, k * 3 + 2, none⟩ = some (.slice Bb mb db) := xb2
        obtain ⟨_, ee, hll, hcc⟩ := hlr.cells k hk3
        cases ee
        rw [Addr.add_lit, Nat.zero_add] at hcc
        obtain ⟨sk, Ak, nk, ck, Bk, mk, dk, tk, Ck, ik, ek, Dk, jk, fk, ⟨xl0, xl1, xl2, xl3, xl4, xl5⟩, hXl, hYl⟩ := (show PtAt wr ⟨g, (k * 6), none⟩ (pix [p0, p1, p2] k) from hcc)
        clear hcc
        have xl0 : wr.cell? ⟨g, (k * 6), none⟩ = some (.bool sk) := xl0
        have xl1 : wr.cell? ⟨g, (k * 6) + 1, none⟩ = some (.slice Ak nk ck) := xl1
        have xl2 : wr.cell? ⟨g, (k * 6) + 2, none⟩ = some (.slice Bk mk dk) := xl2
        have xl3 : wr.cell? ⟨g, (k * 6) + 3, none⟩ = some (.bool tk) := xl3
        have xl4 : wr.cell? ⟨g, (k * 6) + 4, none⟩ = some (.slice Ck ik ek) := xl4
        have xl5 : wr.cell? ⟨g, (k * 6) + 5, none⟩ = some (.slice Dk jk fk) := xl5
        go_wp2_with fail
        have hHeld : (fun w' => (w'.cell? ⟨g7, 0, none⟩ = some (.bool s7) ∧ w'.cell? ⟨g7, 1, none⟩ = some (.slice A7 n7 c7) ∧ w'.cell? ⟨g7, 2, none⟩ = some (.slice B7 m7 d7) ∧ w'.cell? ⟨g7, 3, none⟩ = some (.bool t7) ∧ w'.cell? ⟨g7, 4, none⟩ = some (.slice C7 i7 e7) ∧ w'.cell? ⟨g7, 5, none⟩ = some (.slice D7 j7 f7)) ∧ (w'.cell? ⟨gb, k * 3, none⟩ = some (.bool sb) ∧ w'.cell? ⟨gb, k * 3 + 1, none⟩ = some (.slice Ab nb cb) ∧ w'.cell? ⟨gb, k * 3 + 2, none⟩ = some (.slice Bb mb db)) ∧ (w'.cell? ⟨g, k * 6, none⟩ = some (.bool sk) ∧ w'.cell? ⟨g, k * 6 + 1, none⟩ = some (.slice Ak nk ck) ∧ w'.cell? ⟨g, k * 6 + 2, none⟩ = some (.slice Bk mk dk) ∧ w'.cell? ⟨g, k * 6 + 3, none⟩ = some (.bool tk) ∧ w'.cell? ⟨g, k * 6 + 4, none⟩ = some (.slice Ck ik ek) ∧ w'.cell? ⟨g, k * 6 + 5, none⟩ = some (.slice Dk jk fk))) (wr.drew) := ⟨bx6 (T := 31) (h7.bl slc), ⟨(Bl.cellOf (w := wr) (p := ⟨gb, k * 3, none⟩) slc hlb).trans xb0, (Bl.cellOf (w := wr) (p := ⟨gb, k * 3 + 1, none⟩) slc hlb).trans xb1, (Bl.cellOf (w := wr) (p := ⟨gb, k * 3 + 2, none⟩) slc hlb).trans xb2⟩, ⟨(Bl.cellOf (w := wr) (p := ⟨g, k * 6, none⟩) slc hll).trans xl0, (Bl.cellOf (w := wr) (p := ⟨g, k * 6 + 1, none⟩) slc hll).trans xl1, (Bl.cellOf (w := wr) (p := ⟨g, k * 6 + 2, none⟩) slc hll).trans xl2, (Bl.cellOf (w := wr) (p := ⟨g, k * 6 + 3, none⟩) slc hll).trans xl3, (Bl.cellOf (w := wr) (p := ⟨g, k * 6 + 4, none⟩) slc hll).trans xl4, (Bl.cellOf (w := wr) (p := ⟨g, k * 6 + 5, none⟩) slc hll).trans xl5⟩⟩
        refine wp_region_T 11 12 (fun w' => (w'.cell? ⟨g7, 0, none⟩ = some (.bool s7) ∧ w'.cell? ⟨g7, 1, none⟩ = some (.slice A7 n7 c7) ∧ w'.cell? ⟨g7, 2, none⟩ = some (.slice B7 m7 d7) ∧ w'.cell? ⟨g7, 3, none⟩ = some (.bool t7) ∧ w'.cell? ⟨g7, 4, none⟩ = some (.slice C7 i7 e7) ∧ w'.cell? ⟨g7, 5, none⟩ = some (.slice D7 j7 f7)) ∧ (w'.cell? ⟨gb, k * 3, none⟩ = some (.bool sb) ∧ w'.cell? ⟨gb, k * 3 + 1, none⟩ = some (.slice Ab nb cb) ∧ w'.cell? ⟨gb, k * 3 + 2, none⟩ = some (.slice Bb mb db)) ∧ (w'.cell? ⟨g, k * 6, none⟩ = some (.bool sk) ∧ w'.cell? ⟨g, k * 6 + 1, none⟩ = some (.slice Ak nk ck) ∧ w'.cell? ⟨g, k * 6 + 2, none⟩ = some (.slice Bk mk dk) ∧ w'.cell? ⟨g, k * 6 + 3, none⟩ = some (.bool tk) ∧ w'.cell? ⟨g, k * 6 + 4, none⟩ = some (.slice Ck ik ek) ∧ w'.cell? ⟨g, k * 6 + 5, none⟩ = some (.slice Dk jk fk))) rfl (by kernel_rfl) hHeld ?_
        refine wpAnyT_take (i := 0) (oi := _) (v := ?_) (fuel := 11) rfl (by kernel_rfl) (by kernel_rfl) (by kernel_rfl) (by kernel_rfl) (fun _ _ _ h => h) (by rfl) ?_ hHeld ?_
        rotate_left 1
        · (intro w' hSw; (try dsimp only at hSw); go_simp <;> with_reducible rfl)
        refine wpAnyT_take (i := 1) (oi := _) (v := ?_) (fuel := 10) rfl (by kernel_rfl) (by kernel_rfl) (by kernel_rfl) (by kernel_rfl) (fun _ _ _ h => h) (by rfl) ?_ hHeld ?_
        rotate_left 1
        · (intro w' hSw; (try dsimp only at hSw); go_simp <;> with_reducible rfl)
        refine wpAnyT_take (i := 2) (oi := _) (v := ?_) (fuel := 9) rfl (by kernel_rfl) (by kernel_rfl) (by kernel_rfl) (by kernel_rfl) (fun _ _ _ h => h) (by rfl) ?_ hHeld ?_
        rotate_left 1
        · (intro w' hSw; (try dsimp only at hSw); go_simp <;> with_reducible rfl)
        refine wpAnyT_take (i := 3) (oi := _) (v := ?_) (fuel := 8) rfl (by kernel_rfl) (by kernel_rfl) (by kernel_rfl) (by kernel_rfl) (fun _ _ _ h => h) (by rfl) ?_ hHeld ?_
        rotate_left 1
        · (intro w' hSw; (try dsimp only at hSw); go_simp <;> with_reducible rfl)
        refine wpAnyT_take (i := 4) (oi := _) (v := ?_) (fuel := 7) rfl (by kernel_rfl) (by kernel_rfl) (by kernel_rfl) (by kernel_rfl) (fun _ _ _ h => h) (by rfl) ?_ hHeld ?_
        rotate_left 1
        · (intro w' hSw; (try dsimp only at hSw); go_simp <;> with_reducible rfl)
        refine wpAnyT_take (i := 5) (oi := _) (v := ?_) (fuel := 6) rfl (by kernel_rfl) (by kernel_rfl) (by kernel_rfl) (by kernel_rfl) (fun _ _ _ h => h) (by rfl) ?_ hHeld ?_
        rotate_left 1
        · (intro w' hSw; (try dsimp only at hSw); go_simp <;> with_reducible rfl)
        refine wpAnyT_take (i := 6) (oi := _) (v := ?_) (fuel := 5) rfl (by kernel_rfl) (by kernel_rfl) (by kernel_rfl) (by kernel_rfl) (fun _ _ _ h => h) (by rfl) ?_ hHeld ?_
        rotate_left 1
        · (intro w' hSw; (try dsimp only at hSw); go_simp <;> with_reducible rfl)
        refine wpAnyT_take (i := 7) (oi := _) (v := ?_) (fuel := 4) rfl (by kernel_rfl) (by kernel_rfl) (by kernel_rfl) (by kernel_rfl) (fun _ _ _ h => h) (by rfl) ?_ hHeld ?_
        rotate_left 1
        · (intro w' hSw; (try dsimp only at hSw); go_simp <;> with_reducible rfl)
        refine wpAnyT_take (i := 8) (oi := _) (v := ?_) (fuel := 3) rfl (by kernel_rfl) (by kernel_rfl) (by kernel_rfl) (by kernel_rfl) (fun _ _ _ h => h) (by rfl) ?_ hHeld ?_
        rotate_left 1
        · (intro w' hSw; (try dsimp only at hSw); go_simp <;> with_reducible rfl)
        clear hHeld
        simp only [Act.put, List.setIfInBounds_toArray]
        refine wpAnyT_step (i := 9) (o := _) (fuel := 2) rfl (by kernel_rfl) (fun K hK => ?_)
        go_simp
        refine (ScalePoint_any _ (hxb.bl slc) (hXl.bl slc) (hYl.bl slc)).mono ?_
        rintro e w6 ⟨s5, A5, n5, c5, B5, m5, d5, t5, C5, i5, e5, D5, j5, f5, rfl, hR5, hb6⟩
        have hb6 : Bl wr w6 := (show Bl wr wr.drew from slc).next hb6
        refine hK.out _ _ (fun _ => ⟨bx6 (T := 31) (h7.bl slc), ⟨(Bl.cellOf (w := wr) (p := ⟨gb, k * 3, none⟩) slc hlb).trans xb0, (Bl.cellOf (w := wr) (p := ⟨gb, k * 3 + 1, none⟩) slc hlb).trans xb1, (Bl.cellOf (w := wr) (p := ⟨gb, k * 3 + 2, none⟩) slc hlb).trans xb2⟩, ⟨(Bl.cellOf (w := wr) (p := ⟨g, k * 6, none⟩) slc hll).trans xl0, (Bl.cellOf (w := wr) (p := ⟨g, k * 6 + 1, none⟩) slc hll).trans xl1, (Bl.cellOf (w := wr) (p := ⟨g, k * 6 + 2, none⟩) slc hll).trans xl2, (Bl.cellOf (w := wr) (p := ⟨g, k * 6 + 3, none⟩) slc hll).trans xl3, (Bl.cellOf (w := wr) (p := ⟨g, k * 6 + 4, none⟩) slc hll).trans xl4, (Bl.cellOf (w := wr) (p := ⟨g, k * 6 + 5, none⟩) slc hll).trans xl5⟩⟩) ?_
        clear hK K
        try simp only [Act.put, List.setIfInBounds_toArray, List.set_cons_zero, List.set_cons_succ]
        refine wpAnyT_step (i := 10) (o := _) (fuel := 1) rfl (by kernel_rfl) (fun K hK => ?_)
        go_simp
        refine (AddPoints_any _ (hF7.rdx.1.bl slc) (hF7.rdx.2.bl slc) (hR5.rx.bl slc) (hR5.ry.bl slc)).mono ?_
        rintro e w7 ⟨s6, A6, n6, c6, B6, m6, d6, t6, C6, i6, e6, D6, j6, f6, rfl, hRn, hbn⟩
        have hbn : Bl wr w7 := hb6.next hbn
        refine hK.out _ _ (fun _ => ⟨bx6 (T := 31) (h7.bl slc), ⟨(Bl.cellOf (w := wr) (p := ⟨gb, k * 3, none⟩) slc hlb).trans xb0, (Bl.cellOf (w := wr) (p := ⟨gb, k * 3 + 1, none⟩) slc hlb).trans xb1, (Bl.cellOf (w := wr) (p := ⟨gb, k * 3 + 2, none⟩) slc hlb).trans xb2⟩, ⟨(Bl.cellOf (w := wr) (p := ⟨g, k * 6, none⟩) slc hll).trans xl0, (Bl.cellOf (w := wr) (p := ⟨g, k * 6 + 1, none⟩) slc hll).trans xl1, (Bl.cellOf (w := wr) (p := ⟨g, k * 6 + 2, none⟩) slc hll).trans xl2, (Bl.cellOf (w := wr) (p := ⟨g, k * 6 + 3, none⟩) slc hll).trans xl3, (Bl.cellOf (w := wr) (p := ⟨g, k * 6 + 4, none⟩) slc hll).trans xl4, (Bl.cellOf (w := wr) (p := ⟨g, k * 6 + 5, none⟩) slc hll).trans xl5⟩⟩) ?_
        clear hK K
        try simp only [Act.put, List.setIfInBounds_toArray, List.set_cons_zero, List.set_cons_succ]
        have h7 := h7.bl hbn
        obtain ⟨z0', z1', z2', z3', z4', z5'⟩ := bx6 h7
        have zf0 := h7.frozen 0
        have zf1 := h7.frozen 1
        have zf2 := h7.frozen 2
        have zf3 := h7.frozen 3
        have zf4 := h7.frozen 4
        have zf5 := h7.frozen 5
        refine wpAnyT_step (i := 11) (o := _) (fuel := 0) rfl (by kernel_rfl) (fun K hK => ?_)
        go_simp
        refine hK.out _ _ (fun h => absurd rfl h) ?_
        clear hK K
        try simp only [Act.put, List.setIfInBounds_toArray]
        refine wpAnyT_done (by kernel_rfl) ?_
        have hk : Wk 6 31 g7 w7 := Wk.of h7 rfl
        have hF7 := OwPN.put6 (OwPN.low' (OwPN.q hRn) (Nat.zero_le _)) hk ne_ip (.bool s6) (.slice A6 n6 c6) (.slice B6 m6 d6) (.bool t6) (.slice C6 i6 e6) (.slice D6 j6 f6)
        have hF8 := OwPN.put6 (hF8.bl' hbn) hk ne_ip (.bool s6) (.slice A6 n6 c6) (.slice B6 m6 d6) (.bool t6) (.slice C6 i6 e6) (.slice D6 j6 f6)
        have h8 := (((((h8.bl hbn).far (p := ⟨g7, 0, none⟩) (show g8 ≠ g7 by omega) (.bool s6)).far (p := ⟨g7, 1, none⟩) (show g8 ≠ g7 by omega) (.slice A6 n6 c6)).far (p := ⟨g7, 2, none⟩) (show g8 ≠ g7 by omega) (.slice B6 m6 d6)).far (p := ⟨g7, 3, none⟩) (show g8 ≠ g7 by omega) (.bool t6)).far (p := ⟨g7, 4, none⟩) (show g8 ≠ g7 by omega) (.slice C6 i6 e6)
        have h8 := h8.far (p := ⟨g7, 5, none⟩) (show g8 ≠ g7 by omega) (.slice D6 j6 f6)
        have h7 : Blk (((((((w7.setCell ⟨g7, 0, none⟩ (.bool s6)).setCell ⟨g7, 1, none⟩ (.slice A6 n6 c6)).setCell ⟨g7, 2, none⟩ (.slice B6 m6 d6)).setCell ⟨g7, 3, none⟩ (.bool t6)).setCell ⟨g7, 4, none⟩ (.slice C6 i6 e6)).setCell ⟨g7, 5, none⟩ (.slice D6 j6 f6))) g7 31 #[.bool s6, .slice A6 n6 c6, .slice B6 m6 d6, .bool t6, .slice C6 i6 e6, .slice D6 j6 f6] := by simpa using (((((h7.set_ 0 (.bool s6)).set_ 1 (.slice A6 n6 c6)).set_ 2 (.slice B6 m6 d6)).set_ 3 (.bool t6)).set_ 4 (.slice C6 i6 e6)).set_ 5 (.slice D6 j6 f6)
        have hba : Bl w3 (((((((w7.setCell ⟨g7, 0, none⟩ (.bool s6)).setCell ⟨g7, 1, none⟩ (.slice A6 n6 c6)).setCell ⟨g7, 2, none⟩ (.slice B6 m6 d6)).setCell ⟨g7, 3, none⟩ (.bool t6)).setCell ⟨g7, 4, none⟩ (.slice C6 i6 e6)).setCell ⟨g7, 5, none⟩ (.slice D6 j6 f6))) := Bl.set (Bl.set (Bl.set (Bl.set (Bl.set (Bl.set (hbw.next hbn) (show w3.heap.size ≤ g7 by omega) _) (show w3.heap.size ≤ g7 by omega) _) (show w3.heap.size ≤ g7 by omega) _) (show w3.heap.size ≤ g7 by omega) _) (show w3.heap.size ≤ g7 by omega) _) (show w3.heap.size ≤ g7 by omega) _
        generalize ((((((w7.setCell ⟨g7, 0, none⟩ (.bool s6)).setCell ⟨g7, 1, none⟩ (.slice A6 n6 c6)).setCell ⟨g7, 2, none⟩ (.slice B6 m6 d6)).setCell ⟨g7, 3, none⟩ (.bool t6)).setCell ⟨g7, 4, none⟩ (.slice C6 i6 e6)).setCell ⟨g7, 5, none⟩ (.slice D6 j6 f6)) = wa at hF7 hF8 h7 h8 hba ⊢
        clear hk hRn hbn
        rw [show addP (tsP p0 p1 p2 q k) (sclP (pix (barTo p0 p1 p2 q 3) k) (pix [p0, p1, p2] k)) = tsP p0 p1 p2 q (k + 1) from ts_succ p0 p1 p2 q hk3] at hF7
        clear xb0 xb1 xb2 hxb hlb xl0 xl1 xl2 xl3 xl4 xl5 hXl hYl hll hlr hbr
        have hgr := RdPS.bl hG hba
        obtain ⟨_, ee, hlg, hcc⟩ := hgr.cells k hk3
        cases ee
        rw [Addr.add_lit, Nat.zero_add] at hcc
        obtain ⟨sg, Ag, ng, cg, Bg, mg, dg, tg, Cg, ig, eg, Dg, jg, fg, ⟨xg0, xg1, xg2, xg3, xg4, xg5⟩, hXg, hYg⟩ := (show PtAt wa ⟨gg, (k * 6), none⟩ (pix (gradTo p0 p1 p2 3) k) from hcc)
        clear hcc
        have xg0 : wa.cell? ⟨gg, (k * 6), none⟩ = some (.bool sg) := xg0
        have xg1 : wa.cell? ⟨gg, (k * 6) + 1, none⟩ = some (.slice Ag ng cg) := xg1
        have xg2 : wa.cell? ⟨gg, (k * 6) + 2, none⟩ = some (.slice Bg mg dg) := xg2
        have xg3 : wa.cell? ⟨gg, (k * 6) + 3, none⟩ = some (.bool tg) := xg3
        have xg4 : wa.cell? ⟨gg, (k * 6) + 4, none⟩ = some (.slice Cg ig eg) := xg4
        have xg5 : wa.cell? ⟨gg, (k * 6) + 5, none⟩ = some (.slice Dg jg fg) := xg5
        go_wp2_with fail
        have hHeld : (fun w' => (w'.cell? ⟨g8, 0, none⟩ = some (.bool s8) ∧ w'.cell? ⟨g8, 1, none⟩ = some (.slice A8 n8 c8) ∧ w'.cell? ⟨g8, 2, none⟩ = some (.slice B8 m8 d8) ∧ w'.cell? ⟨g8, 3, none⟩ = some (.bool t8) ∧ w'.cell? ⟨g8, 4, none⟩ = some (.slice C8 i8 e8) ∧ w'.cell? ⟨g8, 5, none⟩ = some (.slice D8 j8 f8)) ∧ (w'.cell? ⟨gg, k * 6, none⟩ = some (.bool sg) ∧ w'.cell? ⟨gg, k * 6 + 1, none⟩ = some (.slice Ag ng cg) ∧ w'.cell? ⟨gg, k * 6 + 2, none⟩ = some (.slice Bg mg dg) ∧ w'.cell? ⟨gg, k * 6 + 3, none⟩ = some (.bool tg) ∧ w'.cell? ⟨gg, k * 6 + 4, none⟩ = some (.slice Cg ig eg) ∧ w'.cell? ⟨gg, k * 6 + 5, none⟩ = some (.slice Dg jg fg))) (wa.drew) := ⟨bx6 (T := 31) (h8.bl slc), ⟨(Bl.cellOf (w := wa) (p := ⟨gg, k * 6, none⟩) slc hlg).trans xg0, (Bl.cellOf (w := wa) (p := ⟨gg, k * 6 + 1, none⟩) slc hlg).trans xg1, (Bl.cellOf (w := wa) (p := ⟨gg, k * 6 + 2, none⟩) slc hlg).trans xg2, (Bl.cellOf (w := wa) (p := ⟨gg, k * 6 + 3, none⟩) slc hlg).trans xg3, (Bl.cellOf (w := wa) (p := ⟨gg, k * 6 + 4, none⟩) slc hlg).trans xg4, (Bl.cellOf (w := wa) (p := ⟨gg, k * 6 + 5, none⟩) slc hlg).trans xg5⟩⟩
        refine wp_region_T 6 7 (fun w' => (w'.cell? ⟨g8, 0, none⟩ = some (.bool s8) ∧ w'.cell? ⟨g8, 1, none⟩ = some (.slice A8 n8 c8) ∧ w'.cell? ⟨g8, 2, none⟩ = some (.slice B8 m8 d8) ∧ w'.cell? ⟨g8, 3, none⟩ = some (.bool t8) ∧ w'.cell? ⟨g8, 4, none⟩ = some (.slice C8 i8 e8) ∧ w'.cell? ⟨g8, 5, none⟩ = some (.slice D8 j8 f8)) ∧ (w'.cell? ⟨gg, k * 6, none⟩ = some (.bool sg) ∧ w'.cell? ⟨gg, k * 6 + 1, none⟩ = some (.slice Ag ng cg) ∧ w'.cell? ⟨gg, k * 6 + 2, none⟩ = some (.slice Bg mg dg) ∧ w'.cell? ⟨gg, k * 6 + 3, none⟩ = some (.bool tg) ∧ w'.cell? ⟨gg, k * 6 + 4, none⟩ = some (.slice Cg ig eg) ∧ w'.cell? ⟨gg, k * 6 + 5, none⟩ = some (.slice Dg jg fg))) rfl (by kernel_rfl) hHeld ?_
        refine wpAnyT_take (i := 0) (oi := _) (v := ?_) (fuel := 6) rfl (by kernel_rfl) (by kernel_rfl) (by kernel_rfl) (by kernel_rfl) (fun _ _ _ h => h) (by rfl) ?_ hHeld ?_
        rotate_left 1
        · (intro w' hSw; (try dsimp only at hSw); go_simp <;> with_reducible rfl)
        refine wpAnyT_take (i := 1) (oi := _) (v := ?_) (fuel := 5) rfl (by kernel_rfl) (by kernel_rfl) (by kernel_rfl) (by kernel_rfl) (fun _ _ _ h => h) (by rfl) ?_ hHeld ?_
        rotate_left 1
        · (intro w' hSw; (try dsimp only at hSw); go_simp <;> with_reducible rfl)
        refine wpAnyT_take (i := 2) (oi := _) (v := ?_) (fuel := 4) rfl (by kernel_rfl) (by kernel_rfl) (by kernel_rfl) (by kernel_rfl) (fun _ _ _ h => h) (by rfl) ?_ hHeld ?_
        rotate_left 1
        · (intro w' hSw; (try dsimp only at hSw); go_simp <;> with_reducible rfl)
        refine wpAnyT_take (i := 3) (oi := _) (v := ?_) (fuel := 3) rfl (by kernel_rfl) (by kernel_rfl) (by kernel_rfl) (by kernel_rfl) (fun _ _ _ h => h) (by rfl) ?_ hHeld ?_
        rotate_left 1
        · (intro w' hSw; (try dsimp only at hSw); go_simp <;> with_reducible rfl)
        refine wpAnyT_take (i := 4) (oi := _) (v := ?_) (fuel := 2) rfl (by kernel_rfl) (by kernel_rfl) (by kernel_rfl) (by kernel_rfl) (fun _ _ _ h => h) (by rfl) ?_ hHeld ?_
        rotate_left 1
        · (intro w' hSw; (try dsimp only at hSw); go_simp <;> with_reducible rfl)
        clear hHeld
        simp only [Act.put, List.setIfInBounds_toArray]
        refine wpAnyT_step (i := 5) (o := _) (fuel := 1) rfl (by kernel_rfl) (fun K hK => ?_)
        go_simp
        refine (AddPoints_any _ (hF8.rdx.1.bl slc) (hF8.rdx.2.bl slc) (hXg.bl slc) (hYg.bl slc)).mono ?_
        rintro e w8 ⟨s6, A6, n6, c6, B6, m6, d6, t6, C6, i6, e6, D6, j6, f6, rfl, hRn, hbn⟩
        have hbn : Bl wa w8 := (show Bl wa wa.drew from slc).next hbn
        refine hK.out _ _ (fun _ => ⟨bx6 (T := 31) (h8.bl slc), ⟨(Bl.cellOf (w := wa) (p := ⟨gg, k * 6, none⟩) slc hlg).trans xg0, (Bl.cellOf (w := wa) (p := ⟨gg, k * 6 + 1, none⟩) slc hlg).trans xg1, (Bl.cellOf (w := wa) (p := ⟨gg, k * 6 + 2, none⟩) slc hlg).trans xg2, (Bl.cellOf (w := wa) (p := ⟨gg, k * 6 + 3, none⟩) slc hlg).trans xg3, (Bl.cellOf (w := wa) (p := ⟨gg, k * 6 + 4, none⟩) slc hlg).trans xg4, (Bl.cellOf (w := wa) (p := ⟨gg, k * 6 + 5, none⟩) slc hlg).trans xg5⟩⟩) ?_
        clear hK K
        try simp only [Act.put, List.setIfInBounds_toArray, List.set_cons_zero, List.set_cons_succ]
        have h8 := h8.bl hbn
        obtain ⟨z0', z1', z2', z3', z4', z5'⟩ := bx6 h8
        have zf0 := h8.frozen 0
        have zf1 := h8.frozen 1
        have zf2 := h8.frozen 2
        have zf3 := h8.frozen 3
        have zf4 := h8.frozen 4
        have zf5 := h8.frozen 5
        refine wpAnyT_step (i := 6) (o := _) (fuel := 0) rfl (by kernel_rfl) (fun K hK => ?_)
        go_simp
        refine hK.out _ _ (fun h => absurd rfl h) ?_
        clear hK K
        try simp only [Act.put, List.setIfInBounds_toArray]
        refine wpAnyT_done (by kernel_rfl) ?_
        have hk : Wk 6 31 g8 w8 := Wk.of h8 rfl
        have hF8 := OwPN.put6 (OwPN.low' (OwPN.q hRn) (Nat.zero_le _)) hk ne_ip (.bool s6) (.slice A6 n6 c6) (.slice B6 m6 d6) (.bool t6) (.slice C6 i6 e6) (.slice D6 j6 f6)
        have hF7 := OwPN.put6 (hF7.bl' hbn) hk ne_ip (.bool s6) (.slice A6 n6 c6) (.slice B6 m6 d6) (.bool t6) (.slice C6 i6 e6) (.slice D6 j6 f6)
        have h7 := (((((h7.bl hbn).far (p := ⟨g8, 0, none⟩) (show g7 ≠ g8 by omega) (.bool s6)).far (p := ⟨g8, 1, none⟩) (show g7 ≠ g8 by omega) (.slice A6 n6 c6)).far (p := ⟨g8, 2, none⟩) (show g7 ≠ g8 by omega) (.slice B6 m6 d6)).far (p := ⟨g8, 3, none⟩) (show g7 ≠ g8 by omega) (.bool t6)).far (p := ⟨g8, 4, none⟩) (show g7 ≠ g8 by omega) (.slice C6 i6 e6)
        have h7 := h7.far (p := ⟨g8, 5, none⟩) (show g7 ≠ g8 by omega) (.slice D6 j6 f6)
        have h8 : Blk (((((((w8.setCell ⟨g8, 0, none⟩ (.bool s6)).setCell ⟨g8, 1, none⟩ (.slice A6 n6 c6)).setCell ⟨g8, 2, none⟩ (.slice B6 m6 d6)).setCell ⟨g8, 3, none⟩ (.bool t6)).setCell ⟨g8, 4, none⟩ (.slice C6 i6 e6)).setCell ⟨g8, 5, none⟩ (.slice D6 j6 f6))) g8 31 #[.bool s6, .slice A6 n6 c6, .slice B6 m6 d6, .bool t6, .slice C6 i6 e6, .slice D6 j6 f6] := by simpa using (((((h8.set_ 0 (.bool s6)).set_ 1 (.slice A6 n6 c6)).set_ 2 (.slice B6 m6 d6)).set_ 3 (.bool t6)).set_ 4 (.slice C6 i6 e6)).set_ 5 (.slice D6 j6 f6)
        have hbb : Bl w3 (((((((w8.setCell ⟨g8, 0, none⟩ (.bool s6)).setCell ⟨g8, 1, none⟩ (.slice A6 n6 c6)).setCell ⟨g8, 2, none⟩ (.slice B6 m6 d6)).setCell ⟨g8, 3, none⟩ (.bool t6)).setCell ⟨g8, 4, none⟩ (.slice C6 i6 e6)).setCell ⟨g8, 5, none⟩ (.slice D6 j6 f6))) := Bl.set (Bl.set (Bl.set (Bl.set (Bl.set (Bl.set (hba.next hbn) (show w3.heap.size ≤ g8 by omega) _) (show w3.heap.size ≤ g8 by omega) _) (show w3.heap.size ≤ g8 by omega) _) (show w3.heap.size ≤ g8 by omega) _) (show w3.heap.size ≤ g8 by omega) _) (show w3.heap.size ≤ g8 by omega) _
        generalize ((((((w8.setCell ⟨g8, 0, none⟩ (.bool s6)).setCell ⟨g8, 1, none⟩ (.slice A6 n6 c6)).setCell ⟨g8, 2, none⟩ (.slice B6 m6 d6)).setCell ⟨g8, 3, none⟩ (.bool t6)).setCell ⟨g8, 4, none⟩ (.slice C6 i6 e6)).setCell ⟨g8, 5, none⟩ (.slice D6 j6 f6)) = wb at hF8 hF7 h8 h7 hbb ⊢
        clear hk hRn hbn
        rw [show addP (taP p0 p1 p2 k) (pix (gradTo p0 p1 p2 3) k) = taP p0 p1 p2 (k + 1) from ta_succ p0 p1 p2 hk3] at hF8
        go_wp2_with fail
        go_roundw
        case rel => exact ⟨k + 1, _, _, _, _, _, _, _, _, _, _, _, _, _, _, _, _, _, _, _, _, _, _, _, _, _, _, _, _, by omega, by go_num, h7, hF7, h8, hF8, hbb⟩
        case measure => simp [intOf]; omega
      · obtain rfl : k = 3 := by omega
        have e0 : ((3 : Nat) : Int) = 3 := rfl
        rw [e0]
        clear e0 hk hk3
        have hlr := RdPS.bl hl hbw
        have hbr := RdRS.bl hBar hbw
        have hBq := hBq.bl hbw
        obtain ⟨_, ee, hlb0, hcc⟩ := hbr.cells 0 (by omega)
        cases ee
        rw [Addr.add_lit, Nat.zero_add] at hcc
        obtain ⟨sb0, Ab0, nb0, cb0, Bb0, mb0, db0, ⟨xb00, xb01, xb02⟩, hxb0⟩ := (show RtAt wr ⟨gb, 0, none⟩ (bar3 p0 p1 p2 q 0) from hcc)
        clear hcc
        have xb00 : wr.cell? ⟨gb, 0, none⟩ = some (.bool sb0) := xb00
        have xb01 : wr.cell? ⟨gb, 1, none⟩ = some (.slice Ab0 nb0 cb0) := xb01
        have xb02 : wr.cell? ⟨gb, 2, none⟩ = some (.slice Bb0 mb0 db0) := xb02
        obtain ⟨_, ee, hlb1, hcc⟩ := hbr.cells 1 (by omega)
        cases ee
        rw [Addr.add_lit, Nat.zero_add] at hcc
        obtain ⟨sb1, Ab1, nb1, cb1, Bb1, mb1, db1, ⟨xb10, xb11, xb12⟩, hxb1⟩ := (show RtAt wr ⟨gb, 3, none⟩ (bar3 p0 p1 p2 q 1) from hcc)
        clear hcc
        have xb10 : wr.cell? ⟨gb, 3, none⟩ = some (.bool sb1) := xb10
        have xb11 : wr.cell? ⟨gb, 4, none⟩ = some (.slice Ab1 nb1 cb1) := xb11
        have xb12 : wr.cell? ⟨gb, 5, none⟩ = some (.slice Bb1 mb1 db1) := xb12
        obtain ⟨_, ee, hlb2, hcc⟩ := hbr.cells 2 (by omega)
        cases ee
        rw [Addr.add_lit, Nat.zero_add] at hcc
        obtain ⟨sb2, Ab2, nb2, cb2, Bb2, mb2, db2, ⟨xb20, xb21, xb22⟩, hxb2⟩ := (show RtAt wr ⟨gb, 6, none⟩ (bar3 p0 p1 p2 q 2) from hcc)
        clear hcc
        have xb20 : wr.cell? ⟨gb, 6, none⟩ = some (.bool sb2) := xb20
        have xb21 : wr.cell? ⟨gb, 7, none⟩ = some (.slice Ab2 nb2 cb2) := xb21
        have xb22 : wr.cell? ⟨gb, 8, none⟩ = some (.slice Bb2 mb2 db2) := xb22
        obtain ⟨_, ee, hll0, hcc⟩ := hlr.cells 0 (by omega)
        cases ee
        rw [Addr.add_lit, Nat.zero_add] at hcc
        obtain ⟨sk0, Ak0, nk0, ck0, Bk0, mk0, dk0, tk0, Ck0, ik0, ek0, Dk0, jk0, fk0, ⟨xl00, xl01, xl02, xl03, xl04, xl05⟩, hXl0, hYl0⟩ := (show PtAt wr ⟨g, 0, none⟩ (p0) from hcc)
        clear hcc
        have xl00 : wr.cell? ⟨g, 0, none⟩ = some (.bool sk0) := xl00
        have xl01 : wr.cell? ⟨g, 1, none⟩ = some (.slice Ak0 nk0 ck0) := xl01
        have xl02 : wr.cell? ⟨g, 2, none⟩ = some (.slice Bk0 mk0 dk0) := xl02
        have xl03 : wr.cell? ⟨g, 3, none⟩ = some (.bool tk0) := xl03
        have xl04 : wr.cell? ⟨g, 4, none⟩ = some (.slice Ck0 ik0 ek0) := xl04
        have xl05 : wr.cell? ⟨g, 5, none⟩ = some (.slice Dk0 jk0 fk0) := xl05
        obtain ⟨_, ee, hll1, hcc⟩ := hlr.cells 1 (by omega)
        cases ee
        rw [Addr.add_lit, Nat.zero_add] at hcc
        obtain ⟨sk1, Ak1, nk1, ck1, Bk1, mk1, dk1, tk1, Ck1, ik1, ek1, Dk1, jk1, fk1, ⟨xl10, xl11, xl12, xl13, xl14, xl15⟩, hXl1, hYl1⟩ := (show PtAt wr ⟨g, 6, none⟩ (p1) from hcc)
        clear hcc
        have xl10 : wr.cell? ⟨g, 6, none⟩ = some (.bool sk1) := xl10
        have xl11 : wr.cell? ⟨g, 7, none⟩ = some (.slice Ak1 nk1 ck1) := xl11
        have xl12 : wr.cell? ⟨g, 8, none⟩ = some (.slice Bk1 mk1 dk1) := xl12
        have xl13 : wr.cell? ⟨g, 9, none⟩ = some (.bool tk1) := xl13
        have xl14 : wr.cell? ⟨g, 10, none⟩ = some (.slice Ck1 ik1 ek1) := xl14
        have xl15 : wr.cell? ⟨g, 11, none⟩ = some (.slice Dk1 jk1 fk1) := xl15
        obtain ⟨_, ee, hll2, hcc⟩ := hlr.cells 2 (by omega)
        cases ee
        rw [Addr.add_lit, Nat.zero_add] at hcc
        obtain ⟨sk2, Ak2, nk2, ck2, Bk2, mk2, dk2, tk2, Ck2, ik2, ek2, Dk2, jk2, fk2, ⟨xl20, xl21, xl22, xl23, xl24, xl25⟩, hXl2, hYl2⟩ := (show PtAt wr ⟨g, 12, none⟩ (p2) from hcc)
        clear hcc
        have xl20 : wr.cell? ⟨g, 12, none⟩ = some (.bool sk2) := xl20
        have xl21 : wr.cell? ⟨g, 13, none⟩ = some (.slice Ak2 nk2 ck2) := xl21
        have xl22 : wr.cell? ⟨g, 14, none⟩ = some (.slice Bk2 mk2 dk2) := xl22
        have xl23 : wr.cell? ⟨g, 15, none⟩ = some (.bool tk2) := xl23
        have xl24 : wr.cell? ⟨g, 16, none⟩ = some (.slice Ck2 ik2 ek2) := xl24
        have xl25 : wr.cell? ⟨g, 17, none⟩ = some (.slice Dk2 jk2 fk2) := xl25
        have hqx := hqx.bl hbw
        have hqy := hqy.bl hbw
        have hE1 := Lib.hid (show eqP (tsP p0 p1 p2 q 3) q = true from eqP_iff.2 hE.out.2.1)
        have hE2 := Lib.hid (show eqP (taP p0 p1 p2 3) ⟨ofFrac 0 1, ofFrac 0 1⟩ = true from eqP_iff.2 hE.out.2.2.1)
        have hE := hE.out
        unfold TrOk at hE
        have hO1 := Lib.hid hE.2.2.2.2.1.1
        have hO2 := Lib.hid hE.2.2.2.2.2.1.1
        have hO3 := Lib.hid hE.2.2.2.2.2.2.1
        go_wp2_with fail
        go_region_held3 (fun w' => (w'.cell? ⟨g7, 0, none⟩ = some (.bool s7) ∧ w'.cell? ⟨g7, 1, none⟩ = some (.slice A7 n7 c7) ∧ w'.cell? ⟨g7, 2, none⟩ = some (.slice B7 m7 d7) ∧ w'.cell? ⟨g7, 3, none⟩ = some (.bool t7) ∧ w'.cell? ⟨g7, 4, none⟩ = some (.slice C7 i7 e7) ∧ w'.cell? ⟨g7, 5, none⟩ = some (.slice D7 j7 f7)) ∧ (w'.cell? ⟨g8, 0, none⟩ = some (.bool s8) ∧ w'.cell? ⟨g8, 1, none⟩ = some (.slice A8 n8 c8) ∧ w'.cell? ⟨g8, 2, none⟩ = some (.slice B8 m8 d8) ∧ w'.cell? ⟨g8, 3, none⟩ = some (.bool t8) ∧ w'.cell? ⟨g8, 4, none⟩ = some (.slice C8 i8 e8) ∧ w'.cell? ⟨g8, 5, none⟩ = some (.slice D8 j8 f8)) ∧ (w'.cell? ⟨gq, 0, none⟩ = some (.bool s3) ∧ w'.cell? ⟨gq, 1, none⟩ = some (.slice A3 n3 c3) ∧ w'.cell? ⟨gq, 2, none⟩ = some (.slice B3 m3 d3) ∧ w'.cell? ⟨gq, 3, none⟩ = some (.bool t3) ∧ w'.cell? ⟨gq, 4, none⟩ = some (.slice C3 i3 e3) ∧ w'.cell? ⟨gq, 5, none⟩ = some (.slice D3 j3 f3)) ∧ (w'.cell? ⟨gb, 0, none⟩ = some (.bool sb0) ∧ w'.cell? ⟨gb, 1, none⟩ = some (.slice Ab0 nb0 cb0) ∧ w'.cell? ⟨gb, 2, none⟩ = some (.slice Bb0 mb0 db0)) ∧ (w'.cell? ⟨gb, 3, none⟩ = some (.bool sb1) ∧ w'.cell? ⟨gb, 4, none⟩ = some (.slice Ab1 nb1 cb1) ∧ w'.cell? ⟨gb, 5, none⟩ = some (.slice Bb1 mb1 db1)) ∧ (w'.cell? ⟨gb, 6, none⟩ = some (.bool sb2) ∧ w'.cell? ⟨gb, 7, none⟩ = some (.slice Ab2 nb2 cb2) ∧ w'.cell? ⟨gb, 8, none⟩ = some (.slice Bb2 mb2 db2)) ∧ (w'.cell? ⟨g, 0, none⟩ = some (.bool sk0) ∧ w'.cell? ⟨g, 1, none⟩ = some (.slice Ak0 nk0 ck0) ∧ w'.cell? ⟨g, 2, none⟩ = some (.slice Bk0 mk0 dk0) ∧ w'.cell? ⟨g, 3, none⟩ = some (.bool tk0) ∧ w'.cell? ⟨g, 4, none⟩ = some (.slice Ck0 ik0 ek0) ∧ w'.cell? ⟨g, 5, none⟩ = some (.slice Dk0 jk0 fk0)) ∧ (w'.cell? ⟨g, 6, none⟩ = some (.bool sk1) ∧ w'.cell? ⟨g, 7, none⟩ = some (.slice Ak1 nk1 ck1) ∧ w'.cell? ⟨g, 8, none⟩ = some (.slice Bk1 mk1 dk1) ∧ w'.cell? ⟨g, 9, none⟩ = some (.bool tk1) ∧ w'.cell? ⟨g, 10, none⟩ = some (.slice Ck1 ik1 ek1) ∧ w'.cell? ⟨g, 11, none⟩ = some (.slice Dk1 jk1 fk1)) ∧ (w'.cell? ⟨g, 12, none⟩ = some (.bool sk2) ∧ w'.cell? ⟨g, 13, none⟩ = some (.slice Ak2 nk2 ck2) ∧ w'.cell? ⟨g, 14, none⟩ = some (.slice Bk2 mk2 dk2) ∧ w'.cell? ⟨g, 15, none⟩ = some (.bool tk2) ∧ w'.cell? ⟨g, 16, none⟩ = some (.slice Ck2 ik2 ek2) ∧ w'.cell? ⟨g, 17, none⟩ = some (.slice Dk2 jk2 fk2))) (first | exact ⟨bx6 (T := 31) (h7.bl slc), bx6 (T := 31) (h8.bl slc), bx6 (T := 31) (hBq.bl slc), ⟨(Bl.cellOf (w := wr) (p := ⟨gb, 0, none⟩) slc hlb0).trans xb00, (Bl.cellOf (w := wr) (p := ⟨gb, 1, none⟩) slc hlb0).trans xb01, (Bl.cellOf (w := wr) (p := ⟨gb, 2, none⟩) slc hlb0).trans xb02⟩, ⟨(Bl.cellOf (w := wr) (p := ⟨gb, 3, none⟩) slc hlb1).trans xb10, (Bl.cellOf (w := wr) (p := ⟨gb, 4, none⟩) slc hlb1).trans xb11, (Bl.cellOf (w := wr) (p := ⟨gb, 5, none⟩) slc hlb1).trans xb12⟩, ⟨(Bl.cellOf (w := wr) (p := ⟨gb, 6, none⟩) slc hlb2).trans xb20, (Bl.cellOf (w := wr) (p := ⟨gb, 7, none⟩) slc hlb2).trans xb21, (Bl.cellOf (w := wr) (p := ⟨gb, 8, none⟩) slc hlb2).trans xb22⟩, ⟨(Bl.cellOf (w := wr) (p := ⟨g, 0, none⟩) slc hll0).trans xl00, (Bl.cellOf (w := wr) (p := ⟨g, 1, none⟩) slc hll0).trans xl01, (Bl.cellOf (w := wr) (p := ⟨g, 2, none⟩) slc hll0).trans xl02, (Bl.cellOf (w := wr) (p := ⟨g, 3, none⟩) slc hll0).trans xl03, (Bl.cellOf (w := wr) (p := ⟨g, 4, none⟩) slc hll0).trans xl04, (Bl.cellOf (w := wr) (p := ⟨g, 5, none⟩) slc hll0).trans xl05⟩, ⟨(Bl.cellOf (w := wr) (p := ⟨g, 6, none⟩) slc hll1).trans xl10, (Bl.cellOf (w := wr) (p := ⟨g, 7, none⟩) slc hll1).trans xl11, (Bl.cellOf (w := wr) (p := ⟨g, 8, none⟩) slc hll1).trans xl12, (Bl.cellOf (w := wr) (p := ⟨g, 9, none⟩) slc hll1).trans xl13, (Bl.cellOf (w := wr) (p := ⟨g, 10, none⟩) slc hll1).trans xl14, (Bl.cellOf (w := wr) (p := ⟨g, 11, none⟩) slc hll1).trans xl15⟩, ⟨(Bl.cellOf (w := wr) (p := ⟨g, 12, none⟩) slc hll2).trans xl20, (Bl.cellOf (w := wr) (p := ⟨g, 13, none⟩) slc hll2).trans xl21, (Bl.cellOf (w := wr) (p := ⟨g, 14, none⟩) slc hll2).trans xl22, (Bl.cellOf (w := wr) (p := ⟨g, 15, none⟩) slc hll2).trans xl23, (Bl.cellOf (w := wr) (p := ⟨g, 16, none⟩) slc hll2).trans xl24, (Bl.cellOf (w := wr) (p := ⟨g, 17, none⟩) slc hll2).trans xl25⟩⟩) (first | (go_at_call 20; (with_reducible refine (SamePoint_any _ (hF7.rdx.1.bl slc) (hF7.rdx.2.bl slc) (hqx.bl slc) (hqy.bl slc)).mono ?_); rw [hE1.out]; rintro e v1 ⟨rfl, hv1⟩) | (go_at_call 17; (with_reducible refine (PointAt_any _ 0 0 (by omega) (by omega) (by omega) (by omega)).mono ?_); rintro e v2 ⟨sz, Az, nz, cz, Bz, mz, dz, tz, Cz, iz, ez, Dz, jz, fz, rfl, hPz, hv2⟩) | (go_at_call 20; (with_reducible refine (SamePoint_any _ (hF8.rdx.1.bl slc) (hF8.rdx.2.bl slc) (hPz.rx.bl slc) (hPz.ry.bl slc)).mono ?_); rw [hE2.out]; rintro e v3 ⟨rfl, hv3⟩) | (go_at_call 22; (with_reducible refine (RatAdd_any _ (hxb1.bl slc) (hxb2.bl slc)).mono ?_); rintro e v4 ⟨sx, Ax, nx, cx, Bx, mx, dx, rfl, hRx, hv4⟩) | (go_at_call 22; (with_reducible refine (RatAdd_any _ (hxb0.bl slc) (hRx.rd.bl slc)).mono ?_); rintro e v5 ⟨sy, Ay, ny, cy, By, my, dy, rfl, hRy, hv5⟩) | (go_at_call 23; (with_reducible refine (RatFromInt_any _ 1 (by omega) (by omega)).mono ?_); rintro e v6 ⟨su, Au, nu, cu, Bu, mu, du, rfl, hRu, hv6⟩) | (go_at_call 21; (with_reducible refine (RatEqual_any _ (hRy.rd.bl slc) (hRu.rd.bl slc)).mono ?_); rw [hE.2.2.2.1, eqR_self']; rintro e v7 ⟨rfl, hv7⟩) | (go_at_call 25; (with_reducible refine (Centroid_yes _ (RdPS.bl hl (hbw.next slc)) hp).mono ?_); rintro e v8 ⟨sc, Ac, nc, cc, Bc, mc, dc, tc, Cc, ic, ec, Dc, jc, fc, rfl, hPc, hv8⟩) | (go_at_call 24; (with_reducible refine (SideOf_yes _ (RdPS.bl hl (hbw.next slc)) hp (hPc.rx.bl slc) (hPc.ry.bl slc) hO1).mono ?_); rw [hE.2.2.2.2.1.2]; rintro e v9 ⟨rfl, hv9⟩) | (go_at_call 26; (with_reducible refine (Middle_any _ (hXl0.bl slc) (hYl0.bl slc) (hXl1.bl slc) (hYl1.bl slc)).mono ?_); rintro e v10 ⟨sm, Am, nm, cm, Bm, mm, dm, tm, Cm, im, em, Dm, jm, fm, rfl, hPm, hv10⟩) | (go_at_call 24; (with_reducible refine (SideOf_yes _ (RdPS.bl hl (hbw.next slc)) hp (hPm.rx.bl slc) (hPm.ry.bl slc) hO2).mono ?_); rw [hE.2.2.2.2.2.1.2]; rintro e v11 ⟨rfl, hv11⟩) | (go_at_call 24; (with_reducible refine (SideOf_yes _ (RdPS.bl hl (hbw.next slc)) hp (hXl2.bl slc) (hYl2.bl slc) hO3).mono ?_); rw [hE.2.2.2.2.2.2.2]; rintro e v12 ⟨rfl, hv12⟩))
        have hbz : Bl wr v12 := slc
        go_wp2_with fail
        go_ret
        exact ⟨rfl, (hbw3.next hbw).next hbz⟩
end

end Go.Proofs.YtajlahjghapbkaaGreat
