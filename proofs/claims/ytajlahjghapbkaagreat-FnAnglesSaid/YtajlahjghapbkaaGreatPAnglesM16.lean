/- Lemmas. -/
import Derived.Test.YtajlahjghapbkaaGreatRows
import Derived.Test.YtajlahjghapbkaaGreatPAnglesM15
import Derived.Test.YtajlahjghapbkaaGreatPAnglesM12
import Derived.Deep.Cut
import Derived.Test.YtajlahjghapbkaaGreatPAnglesM13
namespace Go.Proofs.YtajlahjghapbkaaGreat
section
open Go.RowKit

set_option maxRecDepth 100000 in
set_option maxHeartbeats 8000000 in
theorem Cross_any (w : World) {s : Bool} {A : Option Addr} {n c : Nat} {B : Option Addr} {m d : Nat} {t : Bool} {C : Option Addr} {i e : Nat} {D : Option Addr} {j f : Nat} {p : PtD} {s' : Bool} {A' : Option Addr} {n' c' : Nat} {B' : Option Addr} {m' d' : Nat} {t' : Bool} {C' : Option Addr} {i' e' : Nat} {D' : Option Addr} {j' f' : Nat} {p' : PtD} (h : RdR w s A n c B m d p.x) (k : RdR w t C i e D j f p.y) (h' : RdR w s' A' n' c' B' m' d' p'.x) (k' : RdR w t' C' i' e' D' j' f' p'.y) :
    Calls Tryz.prog 146 #[.agg #[.bool s, .slice A n c, .slice B m d, .bool t, .slice C i e, .slice D j f], .agg #[.bool s', .slice A' n' c', .slice B' m' d', .bool t', .slice C' i' e', .slice D' j' f']] w fun en w' => ∃ s1 A1 n1 c1 B1 m1 d1, en = .returned (.agg #[.bool s1, .slice A1 n1 c1, .slice B1 m1 d1]) ∧ OwR 3 w.heap.size w' s1 A1 n1 c1 B1 m1 d1 (crossP p p') ∧ Bl w w' := by
  go_enter Tryz.func146, Tryz.ntmps146
  go_wp2_with fail
  refine wp_gen (fun W => Bl w W ∧ Blk W (w.heap.size) 31 #[.bool s, .slice A n c, .slice B m d, .bool t, .slice C i e, .slice D j f] ∧ Blk W (w.heap.size + 1) 31 #[.bool s', .slice A' n' c', .slice B' m' d', .bool t', .slice C' i' e', .slice D' j' f'] ∧ Wk 3 29 (w.heap.size + 1 + 1) W) ⟨slc, bts, bts, bts⟩ ?_
  rintro W ⟨hbW, hx, hx', hr⟩
  go_region_held3 (fun w' => (w'.cell? ⟨w.heap.size, 0, none⟩ = some (.bool s) ∧ w'.cell? ⟨w.heap.size, 1, none⟩ = some (.slice A n c) ∧ w'.cell? ⟨w.heap.size, 2, none⟩ = some (.slice B m d) ∧ w'.cell? ⟨w.heap.size, 3, none⟩ = some (.bool t) ∧ w'.cell? ⟨w.heap.size, 4, none⟩ = some (.slice C i e) ∧ w'.cell? ⟨w.heap.size, 5, none⟩ = some (.slice D j f)) ∧ (w'.cell? ⟨w.heap.size + 1, 0, none⟩ = some (.bool s') ∧ w'.cell? ⟨w.heap.size + 1, 1, none⟩ = some (.slice A' n' c') ∧ w'.cell? ⟨w.heap.size + 1, 2, none⟩ = some (.slice B' m' d') ∧ w'.cell? ⟨w.heap.size + 1, 3, none⟩ = some (.bool t') ∧ w'.cell? ⟨w.heap.size + 1, 4, none⟩ = some (.slice C' i' e') ∧ w'.cell? ⟨w.heap.size + 1, 5, none⟩ = some (.slice D' j' f')) ∧ (w'.cell? ⟨w.heap.size + 1 + 1, 0, none⟩ = some (cellD w' (w.heap.size + 1 + 1) 0) ∧ w'.cell? ⟨w.heap.size + 1 + 1, 1, none⟩ = some (cellD w' (w.heap.size + 1 + 1) 1) ∧ w'.cell? ⟨w.heap.size + 1 + 1, 2, none⟩ = some (cellD w' (w.heap.size + 1 + 1) 2)) ∧ w'.frozen? ⟨w.heap.size + 1 + 1, 0, none⟩ = false ∧ w'.frozen? ⟨w.heap.size + 1 + 1, 1, none⟩ = false ∧ w'.frozen? ⟨w.heap.size + 1 + 1, 2, none⟩ = false) (first | exact ⟨bx6 (T := 31) bts, bx6 (T := 31) bts, Wk.out3 (T := 29) bts⟩) (first | (go_at_call 49; with_reducible refine (RatMul_any _ (h.bl slc) (k'.bl slc)).mono ?_; rintro en w2 ⟨s2, A2, n2, c2, B2, m2, d2, rfl, hR2, hb2⟩) | (go_at_call 49; with_reducible refine (RatMul_any _ (k.bl slc) (h'.bl slc)).mono ?_; rintro en w3 ⟨s3, A3, n3, c3, B3, m3, d3, rfl, hR3, hb3⟩) | (go_at_call 78; refine (RatSub_any _ (hR2.rd.bl hb3) hR3.rd).mono ?_; rintro en w4 ⟨s1, A1, n1, c1, B1, m1, d1, rfl, hR, hb4⟩))
  have hz : w.heap.size + 1 + 1 + 1 ≤ W.heap.size := hr.lt
  have hz2 : W.heap.size ≤ w2.heap.size := (Bl.size hb2 : W.drew.heap.size ≤ _)
  have hz3 : w2.heap.size ≤ w3.heap.size := Bl.size hb3
  have hr := (show Wk 3 29 (w.heap.size + 1 + 1) w4 from bts)
  have hbW : Bl w w4 := slc
  have hR := hR.mono (show w.heap.size + 1 + 1 + 1 ≤ w3.heap.size by omega)
  obtain ⟨v0, x0⟩ := hr.val_ (i := 0) (by omega)
  obtain ⟨v1, x1⟩ := hr.val_ (i := 1) (by omega)
  obtain ⟨v2, x2⟩ := hr.val_ (i := 2) (by omega)
  have hg := hr.lt
  obtain ⟨cs4, hB4, hc4⟩ := hr
  have hf0 := hB4.frozen 0
  have hf1 := hB4.frozen 1
  have hf2 := hB4.frozen 2
  go_wp2_with fail
  exact bodyPost_ret (v := .agg #[.bool s1, .slice A1 n1 c1, .slice B1 m1 d1]) (by simp [results, Tryz.results146, go_sem, x0, x1, x2]) rfl ⟨_, _, _, _, _, _, _, rfl, (((hR.far (by simp) _).far (by simp) _).far (by simp) _).mono (by omega), slc⟩


set_option maxRecDepth 100000 in
set_option maxHeartbeats 8000000 in
theorem DoubleArea_any (w : World) {s : Bool} {A : Option Addr} {n c : Nat} {B : Option Addr} {m d : Nat} {t : Bool} {C : Option Addr} {i e : Nat} {D : Option Addr} {j f : Nat} {p : PtD} {s' : Bool} {A' : Option Addr} {n' c' : Nat} {B' : Option Addr} {m' d' : Nat} {t' : Bool} {C' : Option Addr} {i' e' : Nat} {D' : Option Addr} {j' f' : Nat} {p' : PtD} {s2 : Bool} {A2 : Option Addr} {n2 c2 : Nat} {B2 : Option Addr} {m2 d2 : Nat} {t2 : Bool} {C2 : Option Addr} {i2 e2 : Nat} {D2 : Option Addr} {j2 f2 : Nat} {p2 : PtD} (h : RdR w s A n c B m d p.x) (k : RdR w t C i e D j f p.y) (h' : RdR w s' A' n' c' B' m' d' p'.x) (k' : RdR w t' C' i' e' D' j' f' p'.y) (h2 : RdR w s2 A2 n2 c2 B2 m2 d2 p2.x) (k2 : RdR w t2 C2 i2 e2 D2 j2 f2 p2.y) :
    Calls Tryz.prog 73 #[.agg #[.bool s, .slice A n c, .slice B m d, .bool t, .slice C i e, .slice D j f], .agg #[.bool s', .slice A' n' c', .slice B' m' d', .bool t', .slice C' i' e', .slice D' j' f'], .agg #[.bool s2, .slice A2 n2 c2, .slice B2 m2 d2, .bool t2, .slice C2 i2 e2, .slice D2 j2 f2]] w fun en w' => ∃ s1 A1 n1 c1 B1 m1 d1, en = .returned (.agg #[.bool s1, .slice A1 n1 c1, .slice B1 m1 d1]) ∧ OwR 3 w.heap.size w' s1 A1 n1 c1 B1 m1 d1 (dblA p p' p2) ∧ Bl w w' := by
  go_enter Tryz.func73, Tryz.ntmps73
  go_wp2_with fail
  refine wp_gen (fun W => Bl w W ∧ Blk W (w.heap.size) 31 #[.bool s, .slice A n c, .slice B m d, .bool t, .slice C i e, .slice D j f] ∧ Blk W (w.heap.size + 1) 31 #[.bool s', .slice A' n' c', .slice B' m' d', .bool t', .slice C' i' e', .slice D' j' f'] ∧ Blk W (w.heap.size + 1 + 1) 31 #[.bool s2, .slice A2 n2 c2, .slice B2 m2 d2, .bool t2, .slice C2 i2 e2, .slice D2 j2 f2] ∧ Wk 3 29 (w.heap.size + 1 + 1 + 1) W) ⟨slc, bts, bts, bts, bts⟩ ?_
  rintro W ⟨hbW, hx, hx', hx2, hr⟩
  go_region_held3 (fun w' => (w'.cell? ⟨w.heap.size, 0, none⟩ = some (.bool s) ∧ w'.cell? ⟨w.heap.size, 1, none⟩ = some (.slice A n c) ∧ w'.cell? ⟨w.heap.size, 2, none⟩ = some (.slice B m d) ∧ w'.cell? ⟨w.heap.size, 3, none⟩ = some (.bool t) ∧ w'.cell? ⟨w.heap.size, 4, none⟩ = some (.slice C i e) ∧ w'.cell? ⟨w.heap.size, 5, none⟩ = some (.slice D j f)) ∧ (w'.cell? ⟨w.heap.size + 1, 0, none⟩ = some (.bool s') ∧ w'.cell? ⟨w.heap.size + 1, 1, none⟩ = some (.slice A' n' c') ∧ w'.cell? ⟨w.heap.size + 1, 2, none⟩ = some (.slice B' m' d') ∧ w'.cell? ⟨w.heap.size + 1, 3, none⟩ = some (.bool t') ∧ w'.cell? ⟨w.heap.size + 1, 4, none⟩ = some (.slice C' i' e') ∧ w'.cell? ⟨w.heap.size + 1, 5, none⟩ = some (.slice D' j' f')) ∧ (w'.cell? ⟨w.heap.size + 1 + 1, 0, none⟩ = some (.bool s2) ∧ w'.cell? ⟨w.heap.size + 1 + 1, 1, none⟩ = some (.slice A2 n2 c2) ∧ w'.cell? ⟨w.heap.size + 1 + 1, 2, none⟩ = some (.slice B2 m2 d2) ∧ w'.cell? ⟨w.heap.size + 1 + 1, 3, none⟩ = some (.bool t2) ∧ w'.cell? ⟨w.heap.size + 1 + 1, 4, none⟩ = some (.slice C2 i2 e2) ∧ w'.cell? ⟨w.heap.size + 1 + 1, 5, none⟩ = some (.slice D2 j2 f2)) ∧ (w'.cell? ⟨w.heap.size + 1 + 1 + 1, 0, none⟩ = some (cellD w' (w.heap.size + 1 + 1 + 1) 0) ∧ w'.cell? ⟨w.heap.size + 1 + 1 + 1, 1, none⟩ = some (cellD w' (w.heap.size + 1 + 1 + 1) 1) ∧ w'.cell? ⟨w.heap.size + 1 + 1 + 1, 2, none⟩ = some (cellD w' (w.heap.size + 1 + 1 + 1) 2)) ∧ w'.frozen? ⟨w.heap.size + 1 + 1 + 1, 0, none⟩ = false ∧ w'.frozen? ⟨w.heap.size + 1 + 1 + 1, 1, none⟩ = false ∧ w'.frozen? ⟨w.heap.size + 1 + 1 + 1, 2, none⟩ = false) (first | exact ⟨bx6 (T := 31) bts, bx6 (T := 31) bts, bx6 (T := 31) bts, Wk.out3 (T := 29) bts⟩) (first | (go_at_call 147; with_reducible refine (SubtractPoints_any _ (h'.bl slc) (k'.bl slc) (h.bl slc) (k.bl slc)).mono ?_; rintro en w2 ⟨s3, A3, n3, c3, B3, m3, d3, t3, C3, i3, e3, D3, j3, f3, rfl, hP2, hb2⟩) | (go_at_call 147; with_reducible refine (SubtractPoints_any _ (h2.bl slc) (k2.bl slc) (h.bl slc) (k.bl slc)).mono ?_; rintro en w3 ⟨s4, A4, n4, c4, B4, m4, d4, t4, C4, i4, e4, D4, j4, f4, rfl, hP3, hb3⟩) | (go_at_call 146; refine (Cross_any _ (hP2.rx.bl hb3) (hP2.ry.bl hb3) hP3.rx hP3.ry).mono ?_; rintro en w4 ⟨s1, A1, n1, c1, B1, m1, d1, rfl, hR, hb4⟩))
  have hz : w.heap.size + 1 + 1 + 1 + 1 ≤ W.heap.size := hr.lt
  have hz2 : W.heap.size ≤ w2.heap.size := (Bl.size hb2 : W.drew.heap.size ≤ _)
  have hz3 : w2.heap.size ≤ w3.heap.size := Bl.size hb3
  have hr := (show Wk 3 29 (w.heap.size + 1 + 1 + 1) w4 from bts)
  have hbW : Bl w w4 := slc
  have hR := hR.mono (show w.heap.size + 1 + 1 + 1 + 1 ≤ w3.heap.size by omega)
  obtain ⟨v0, x0⟩ := hr.val_ (i := 0) (by omega)
  obtain ⟨v1, x1⟩ := hr.val_ (i := 1) (by omega)
  obtain ⟨v2, x2⟩ := hr.val_ (i := 2) (by omega)
  have hg := hr.lt
  obtain ⟨cs4, hB4, hc4⟩ := hr
  have hf0 := hB4.frozen 0
  have hf1 := hB4.frozen 1
  have hf2 := hB4.frozen 2
  go_wp2_with fail
  exact bodyPost_ret (v := .agg #[.bool s1, .slice A1 n1 c1, .slice B1 m1 d1]) (by simp [results, Tryz.results73, go_sem, x0, x1, x2]) rfl ⟨_, _, _, _, _, _, _, rfl, (((hR.far (by simp) _).far (by simp) _).far (by simp) _).mono (by omega), slc⟩


set_option maxRecDepth 100000 in
theorem IsValidPoint_yes (w : World) {s : Bool} {A : Option Addr} {n c : Nat} {B : Option Addr} {m d : Nat} {t : Bool} {C : Option Addr} {i e : Nat} {D : Option Addr} {j f : Nat} {p : PtD} (h : RdR w s A n c B m d p.x) (k : RdR w t C i e D j f p.y) (ho : OkP p) :
    Calls Tryz.prog 72 #[.agg #[.bool s, .slice A n c, .slice B m d, .bool t, .slice C i e, .slice D j f]] w fun en w' => en = .returned (.bool true) ∧ Bl w w' := by
  have hall := Lib.hid (allOk_two.2 ho)
  clear ho
  go_enter Tryz.func72, Tryz.ntmps72
  go_wp2_with fail
  refine (areRats_yes _ (RdRS.two (Blk.new1 _ _ _ _) (h.bl slc) (k.bl slc)) hall.out).mono ?_
  rintro e w1 ⟨rfl, hb1⟩
  go_wp2_with fail
  go_ret
  exact ⟨rfl, slc⟩
theorem IsProperF_yes (w : World) {s : Bool} {A : Option Addr} {n c : Nat} {B : Option Addr} {m d : Nat} {t : Bool} {C : Option Addr} {i e : Nat} {D : Option Addr} {j f : Nat} {p : PtD} (h : RdR w s A n c B m d p.x) (k : RdR w t C i e D j f p.y) (ho : OkP p) :
    Calls Tryz.prog 80 #[.agg #[.bool s, .slice A n c, .slice B m d, .bool t, .slice C i e, .slice D j f]] w fun en w' => en = .returned (.bool false) ∧ Bl w w' := by
  have ho := Lib.hid ho; rename_i h_; clear h_
  go_enter Tryz.func80, Tryz.ntmps80
  go_wp2_with fail
  refine (IsValidPoint_yes _ (h.bl slc) (k.bl slc) ho.out).mono ?_
  rintro e w1 ⟨rfl, hb1⟩
  go_wp2_with fail
  go_ret
  exact ⟨rfl, slc⟩

set_option maxRecDepth 100000 in
theorem IsValidPoint_no (w : World) {s : Bool} {A : Option Addr} {n c : Nat} {B : Option Addr} {m d : Nat} {t : Bool} {C : Option Addr} {i e : Nat} {D : Option Addr} {j f : Nat} {p : PtD} (h : RdR w s A n c B m d p.x) (k : RdR w t C i e D j f p.y) (ho : ¬ OkP p) :
    Calls Tryz.prog 72 #[.agg #[.bool s, .slice A n c, .slice B m d, .bool t, .slice C i e, .slice D j f]] w fun en w' => en = .returned (.bool false) ∧ Bl w w' := by
  have hall := Lib.hid (fun hk => ho (allOk_two.1 hk) : ¬ AllOk [p.x, p.y])
  clear ho
  go_enter Tryz.func72, Tryz.ntmps72
  go_wp2_with fail
  refine (areRats_no _ (RdRS.two (Blk.new1 _ _ _ _) (h.bl slc) (k.bl slc)) hall.out).mono ?_
  rintro e w1 ⟨rfl, hb1⟩
  go_wp2_with fail
  go_ret
  exact ⟨rfl, slc⟩
theorem IsProperF_no (w : World) {s : Bool} {A : Option Addr} {n c : Nat} {B : Option Addr} {m d : Nat} {t : Bool} {C : Option Addr} {i e : Nat} {D : Option Addr} {j f : Nat} {p : PtD} (h : RdR w s A n c B m d p.x) (k : RdR w t C i e D j f p.y) (ho : ¬ OkP p) :
    Calls Tryz.prog 80 #[.agg #[.bool s, .slice A n c, .slice B m d, .bool t, .slice C i e, .slice D j f]] w fun en w' => en = .returned (.bool true) ∧ Bl w w' := by
  have ho := Lib.hid ho; rename_i h_; clear h_
  go_enter Tryz.func80, Tryz.ntmps80
  go_wp2_with fail
  refine (IsValidPoint_no _ (h.bl slc) (k.bl slc) ho.out).mono ?_
  rintro e w1 ⟨rfl, hb1⟩
  go_wp2_with fail
  go_ret
  exact ⟨rfl, slc⟩

def AllP (l : List PtD) : Prop := ∀ k, k < l.length → OkP (pix l k)
def PTo (l : List PtD) (k : Nat) : Prop := ∀ j, j < k → OkP (pix l j)
theorem PTo.zero (l : List PtD) : PTo l 0 := fun j hj => by omega
theorem PTo.step {l : List PtD} {k : Nat} (h : PTo l k) (h0 : OkP (pix l k)) : PTo l (k + 1) := by
  intro j hj
  rcases Nat.lt_succ_iff_lt_or_eq.1 hj with hj | rfl
  · exact h j hj
  · exact h0
set_option maxRecDepth 100000 in
set_option maxHeartbeats 4000000 in
theorem IndexPt_any (w : World) {A : Option Addr} {n c : Nat} {l : List PtD} (h : RdPS w A n c l) :
    Calls Tryz.prog 150 #[.slice A n c, .func (.func 80) #[] #[]] w (IdxPostB (AllP l) w) := by
  have hn := h.small
  have hl := Lib.hid h.len
  go_enter Tryz.func150, Tryz.ntmps150
  go_wp2_with fail
  go_loopw [8] (fun i wr => ∃ k : Nat, k ≤ n ∧ i = .int .i64 (k : Int) ∧ PTo l k ∧ Bl w wr) (fun i _ => n - (intOf i).toNat)
  case atStart => exact ⟨0, Nat.zero_le _, rfl, PTo.zero _, Bl.refl _⟩
  case round =>
    obtain ⟨k, hk, rfl, hin, hbw⟩ := hrel
    by_cases hkn : k < n
    · have hki : (k : Int) < (n : Int) := by omega
      obtain ⟨ad, rfl, hlta, hca⟩ := (RdPS.bl h hbw).cells k hkn
      obtain ⟨s, A, n', c', B, m, d', t, C, i, e, D, j, f, ⟨g0, g1, g2, g3, g4, g5⟩, hx, hy⟩ := hca
      by_cases ho : OkP (pix l k)
      · have hin' := hin.step ho
        have ho := Lib.hid ho; rename_i h_; clear h_
        clear hin
        go_wp2_with fail
        refine (IsProperF_yes _ hx hy ho.out).mono ?_
        rintro e w1 ⟨rfl, hb1⟩
        have hb2 : Bl w w1 := slc
        clear hb1
        go_wp2_with fail
        go_roundw
        case rel => exact ⟨k + 1, by omega, by go_num, hin', hb2⟩
        case measure => simp [intOf]; omega
      · have hno : ¬ AllP l := fun ha => ho (ha k (by rw [hl.out]; exact hkn))
        have hno := Lib.hid hno; rename_i h_; clear h_
        have ho := Lib.hid ho; rename_i h_; clear h_
        clear hin
        go_wp2_with fail
        refine (IsProperF_no _ hx hy ho.out).mono ?_
        rintro e w1 ⟨rfl, hb1⟩
        have hb2 : Bl w w1 := slc
        clear hb1
        go_wp2_with fail
        go_ret
        exact ⟨_, rfl, fun ha => absurd ha hno.out, fun _ => by omega, hb2⟩
    · have hall : AllP l := fun j hj => hin j (by rw [hl.out] at hj; omega)
      have hall := Lib.hid hall; rename_i h_; clear h_
      go_wp2_with fail
      go_ret
      exact ⟨_, rfl, fun _ => rfl, fun hno => absurd hall.out hno, hbw⟩
theorem ContainsPt_yes (w : World) {A : Option Addr} {n c : Nat} {l : List PtD} (h : RdPS w A n c l) (hp : AllP l) :
    Calls Tryz.prog 79 #[.slice A n c, .func (.func 80) #[] #[]] w fun e w' => e = .returned (.bool false) ∧ Bl w w' := by
  have hp := Lib.hid hp; rename_i h_; clear h_
  go_enter Tryz.func79, Tryz.ntmps79
  go_wp2_with fail
  refine (IndexPt_any _ h).mono ?_
  rintro e w1 ⟨i, rfl, h1, _, hb⟩
  have h1 := h1 hp.out
  subst h1
  go_wp2_with fail
  go_ret
  exact ⟨rfl, hb⟩
theorem ContainsPt_no (w : World) {A : Option Addr} {n c : Nat} {l : List PtD} (h : RdPS w A n c l) (hp : ¬ AllP l) :
    Calls Tryz.prog 79 #[.slice A n c, .func (.func 80) #[] #[]] w fun e w' => e = .returned (.bool true) ∧ Bl w w' := by
  have hp := Lib.hid hp; rename_i h_; clear h_
  go_enter Tryz.func79, Tryz.ntmps79
  go_wp2_with fail
  refine (IndexPt_any _ h).mono ?_
  rintro e w1 ⟨i, rfl, _, h1, hb⟩
  have h1 := h1 hp.out
  go_wp2_with fail
  go_ret
  exact ⟨rfl, hb⟩
end

section
open Go.RowKit

/-- A region that draws its order, whose operations yield one value each in every world that has grown: one walk serves. -/
theorem wp_region_bl {P : Program} {id : Nat} {Q : Exit → Act → World → Prop} {a : Act} {w0 w : World} {l : List Oper} (hm : P.follows .mixedOrders = true) (hB : Region.lexB .any l.toArray = true) (hw : Bl w0 w)
    (h : wpQuiet P l.toArray (fun w' => Bl w0 w') (fun a' => ∀ w', Bl w0 w' → Q .normal a' w') l a) : (Code.region id l.toArray true).wp P Q a w :=
  wp_region_quiet (C := fun w' => Bl w0 w') hm hB hw.drew (by simpa using h)
/-- Three valid points with a positive area. -/
def Prop3 (l : List PtD) : Prop := AllP l ∧ ∃ a b c, l = [a, b, c] ∧ 0 < sgnR (dblA a b c)
open Classical in
noncomputable def propB (l : List PtD) : Bool := decide (Prop3 l)
theorem propB_yes {l : List PtD} (h : Prop3 l) : propB l = true := by unfold propB; simp [h]
theorem propB_no {l : List PtD} (h : ¬ Prop3 l) : propB l = false := by unfold propB; simp [h]
theorem len3 {α : Type} {cs : List α} (h : cs.length = 3) : ∃ a0 a1 a2, cs = [a0, a1, a2] := by
  match cs, h with
  | [a, b, c], _ => exact ⟨a, b, c, rfl⟩
set_option maxRecDepth 100000 in
set_option maxHeartbeats 4000000 in
theorem IsProper_any (w : World) {g n c0 : Nat} {l : List PtD} (h : RdPS w (some ⟨g, 0, none⟩) n c0 l) :
    Calls Tryz.prog 16 #[.slice (some ⟨g, 0, none⟩) n c0] w fun e w' => e = .returned (.bool (propB l)) ∧ Bl w w' := by
  have hl := h.len
  have hsm := h.small
  by_cases h3 : n = 3
  · subst h3
    by_cases hall : AllP l
    · obtain ⟨p0, p1, p2, rfl⟩ := len3 hl
      obtain ⟨_, e0, hg, hc0⟩ := h.cells 0 (by omega)
      cases e0
      rw [Addr.add_lit] at hc0
      obtain ⟨s, A, n, c, B, m, d, t, C, i, e, D, j, f, ⟨x0, x1, x2, x3, x4, x5⟩, hX0, hY0⟩ := (show PtAt w ⟨g, 0, none⟩ p0 from hc0)
      have x0 : w.cell? ⟨g, 0, none⟩ = some (.bool s) := x0
      have x1 : w.cell? ⟨g, 1, none⟩ = some (.slice A n c) := x1
      have x2 : w.cell? ⟨g, 2, none⟩ = some (.slice B m d) := x2
      have x3 : w.cell? ⟨g, 3, none⟩ = some (.bool t) := x3
      have x4 : w.cell? ⟨g, 4, none⟩ = some (.slice C i e) := x4
      have x5 : w.cell? ⟨g, 5, none⟩ = some (.slice D j f) := x5
      obtain ⟨_, e0, hg, hc1⟩ := h.cells 1 (by omega)
      cases e0
      rw [Addr.add_lit] at hc1
      obtain ⟨s', A', n', c', B', m', d', t', C', i', e', D', j', f', ⟨y0, y1, y2, y3, y4, y5⟩, hX1, hY1⟩ := (show PtAt w ⟨g, 6, none⟩ p1 from hc1)
      have y0 : w.cell? ⟨g, 6, none⟩ = some (.bool s') := y0
      have y1 : w.cell? ⟨g, 7, none⟩ = some (.slice A' n' c') := y1
      have y2 : w.cell? ⟨g, 8, none⟩ = some (.slice B' m' d') := y2
      have y3 : w.cell? ⟨g, 9, none⟩ = some (.bool t') := y3
      have y4 : w.cell? ⟨g, 10, none⟩ = some (.slice C' i' e') := y4
      have y5 : w.cell? ⟨g, 11, none⟩ = some (.slice D' j' f') := y5
      obtain ⟨_, e0, hg, hc2⟩ := h.cells 2 (by omega)
      cases e0
      rw [Addr.add_lit] at hc2
      obtain ⟨s2, A2, n2, c2, B2, m2, d2, t2, C2, i2, e2, D2, j2, f2, ⟨z0, z1, z2, z3, z4, z5⟩, hX2, hY2⟩ := (show PtAt w ⟨g, 12, none⟩ p2 from hc2)
      have z0 : w.cell? ⟨g, 12, none⟩ = some (.bool s2) := z0
      have z1 : w.cell? ⟨g, 13, none⟩ = some (.slice A2 n2 c2) := z1
      have z2 : w.cell? ⟨g, 14, none⟩ = some (.slice B2 m2 d2) := z2
      have z3 : w.cell? ⟨g, 15, none⟩ = some (.bool t2) := z3
      have z4 : w.cell? ⟨g, 16, none⟩ = some (.slice C2 i2 e2) := z4
      have z5 : w.cell? ⟨g, 17, none⟩ = some (.slice D2 j2 f2) := z5
      clear hc0 hc1 hc2
      have hv : propB [p0, p1, p2] = decide (0 < sgnR (dblA p0 p1 p2)) := by
        by_cases hs : 0 < sgnR (dblA p0 p1 p2)
        · rw [propB_yes ⟨hall, _, _, _, rfl, hs⟩]; simp [hs]
        · rw [propB_no (fun hk => by
            obtain ⟨_, a, b, c, e, hs'⟩ := hk
            injection e with e1 e
            injection e with e2 e
            injection e with e3 e
            subst e1 e2 e3
            exact hs hs')]
          simp [hs]
      have hv := Lib.hid hv; rename_i h_; clear h_
      have hall := Lib.hid hall; rename_i h_; clear h_
      go_enter Tryz.func16, Tryz.ntmps16
      go_wp2_with fail
      go_region_held3 (fun w' => (w'.cell? ⟨g, 0, none⟩ = some (.bool s) ∧ w'.cell? ⟨g, 1, none⟩ = some (.slice A n c) ∧ w'.cell? ⟨g, 2, none⟩ = some (.slice B m d) ∧ w'.cell? ⟨g, 3, none⟩ = some (.bool t) ∧ w'.cell? ⟨g, 4, none⟩ = some (.slice C i e) ∧ w'.cell? ⟨g, 5, none⟩ = some (.slice D j f)) ∧ (w'.cell? ⟨g, 6, none⟩ = some (.bool s') ∧ w'.cell? ⟨g, 7, none⟩ = some (.slice A' n' c') ∧ w'.cell? ⟨g, 8, none⟩ = some (.slice B' m' d') ∧ w'.cell? ⟨g, 9, none⟩ = some (.bool t') ∧ w'.cell? ⟨g, 10, none⟩ = some (.slice C' i' e') ∧ w'.cell? ⟨g, 11, none⟩ = some (.slice D' j' f')) ∧ (w'.cell? ⟨g, 12, none⟩ = some (.bool s2) ∧ w'.cell? ⟨g, 13, none⟩ = some (.slice A2 n2 c2) ∧ w'.cell? ⟨g, 14, none⟩ = some (.slice B2 m2 d2) ∧ w'.cell? ⟨g, 15, none⟩ = some (.bool t2) ∧ w'.cell? ⟨g, 16, none⟩ = some (.slice C2 i2 e2) ∧ w'.cell? ⟨g, 17, none⟩ = some (.slice D2 j2 f2))) (first | exact ⟨⟨(Bl.cellOf (w := w) (p := ⟨g, 0, none⟩) slc hg).trans x0, (Bl.cellOf (w := w) (p := ⟨g, 1, none⟩) slc hg).trans x1, (Bl.cellOf (w := w) (p := ⟨g, 2, none⟩) slc hg).trans x2, (Bl.cellOf (w := w) (p := ⟨g, 3, none⟩) slc hg).trans x3, (Bl.cellOf (w := w) (p := ⟨g, 4, none⟩) slc hg).trans x4, (Bl.cellOf (w := w) (p := ⟨g, 5, none⟩) slc hg).trans x5⟩, ⟨(Bl.cellOf (w := w) (p := ⟨g, 6, none⟩) slc hg).trans y0, (Bl.cellOf (w := w) (p := ⟨g, 7, none⟩) slc hg).trans y1, (Bl.cellOf (w := w) (p := ⟨g, 8, none⟩) slc hg).trans y2, (Bl.cellOf (w := w) (p := ⟨g, 9, none⟩) slc hg).trans y3, (Bl.cellOf (w := w) (p := ⟨g, 10, none⟩) slc hg).trans y4, (Bl.cellOf (w := w) (p := ⟨g, 11, none⟩) slc hg).trans y5⟩, ⟨(Bl.cellOf (w := w) (p := ⟨g, 12, none⟩) slc hg).trans z0, (Bl.cellOf (w := w) (p := ⟨g, 13, none⟩) slc hg).trans z1, (Bl.cellOf (w := w) (p := ⟨g, 14, none⟩) slc hg).trans z2, (Bl.cellOf (w := w) (p := ⟨g, 15, none⟩) slc hg).trans z3, (Bl.cellOf (w := w) (p := ⟨g, 16, none⟩) slc hg).trans z4, (Bl.cellOf (w := w) (p := ⟨g, 17, none⟩) slc hg).trans z5⟩⟩) (first | (go_at_call 79; refine (ContainsPt_yes _ (RdPS.bl h slc) hall.out).mono ?_; rintro en w1 ⟨rfl, hb1⟩) | (go_at_call 73; refine (DoubleArea_any _ (hX0.bl slc) (hY0.bl slc) (hX1.bl slc) (hY1.bl slc) (hX2.bl slc) (hY2.bl slc)).mono ?_; rintro en w2 ⟨s3, A3, n3, c3, B3, m3, d3, rfl, hR, hb2⟩) | (go_at_call 53; refine (RatSign_any _ hR.rd).mono ?_; rintro en w3 ⟨rfl, hb3⟩))
      go_wp2_with fail
      go_ret
      exact ⟨ret_bool hv.out.symm, slc⟩
    · have hv := Lib.hid (propB_no (fun hk => hall hk.1))
      have hall := Lib.hid hall; rename_i h_; clear h_
      go_enter Tryz.func16, Tryz.ntmps16
      go_wp2_with fail
      refine wp_region_bl (w0 := w) (by kernel_rfl) (by kernel_rfl) (Bl.refl w) ?_
      iterate 5 (quiet_step ((intro _; with_reducible rfl)))
      quiet_step ((intro hbz; go_at_call 79; refine (ContainsPt_no _ (RdPS.bl h hbz) hall.out).mono ?_; (rintro en w1 ⟨rfl, hb1⟩); exact ⟨rfl, hbz.next hb1⟩))
      iterate 3 (quiet_step ((intro _; with_reducible rfl)))
      repeat (first | go_big_quiet_skip | (go_big_quiet_want; go_big_quiet_op; go_big_quiet_on) | quiet_step ((intro _; with_reducible rfl)))
      refine wpQuiet_nil ?_
      intro w1 hb1
      go_wp2_with fail
      go_ret
      exact ⟨ret_bool hv.out.symm, hb1⟩
  · have hv := Lib.hid (propB_no (l := l) (fun hk => by
      obtain ⟨_, a, b, c, e, _⟩ := hk
      rw [e] at hl
      exact h3 hl.symm))
    have hi : ((n : Int) == 3) = false := by simp; omega
    have hl := Lib.hid hl; rename_i h_; clear h_
    go_enter Tryz.func16, Tryz.ntmps16
    go_wp2_with fail
    go_quiet (fail)
    go_wp2_with fail
    go_ret
    exact ⟨ret_bool hv.out.symm, slc⟩
end

section
open Go.RowKit

theorem okR_den {r : RatD} (h : r = zR ∨ OkR r) : (¬ r.den.length = 0) ↔ OkR r := by
  rcases h with h | h
  · subst h
    exact ⟨fun h => absurd rfl h, fun h => absurd h not_ok_zR⟩
  · refine ⟨fun _ => h, fun _ => ?_⟩
    have g := h.get
    rw [g.1]
    unfold raw
    simp only
    rw [ints_len]
    have := dig_len_pos.2 g.2.1
    omega
end

section
open Go.RowKit
end

section
open Go.RowKit

/-- The area of three points; of a list of points. -/
noncomputable def areaR (a b c : PtD) : RatD := mulR (ofFrac 1 2) (dblA a b c)
theorem propB_out {l : List PtD} (h : propB l = true) : Prop3 l := by
  unfold propB at h
  simpa using h
end

end Go.Proofs.YtajlahjghapbkaaGreat
