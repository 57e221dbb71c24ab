/- Lemmas. -/
import Derived.Test.YtajlahjghapbkaaGreatRows
import Derived.Test.YtajlahjghapbkaaGreatPUndoM20
namespace Go.Proofs.YtajlahjghapbkaaGreat
section
open Go.RowKit

theorem within_yes (w : World) {a lo hi : Int} (h1 : lo ≤ a) (h2 : a ≤ hi) :
    Calls Tryz.prog 99 #[.int .i64 a, .int .i64 lo, .int .i64 hi] w fun e w' => e = .returned (.bool true) ∧ ∃ q, w' = w.drewN q := by
  refine (within_any w a lo hi).mono ?_
  rw [decide_eq_true h1, decide_eq_true h2]
  exact fun _ _ h => h
theorem within_no (w : World) {a lo hi : Int} (h : ¬ (lo ≤ a ∧ a ≤ hi)) :
    Calls Tryz.prog 99 #[.int .i64 a, .int .i64 lo, .int .i64 hi] w fun e w' => e = .returned (.bool false) ∧ ∃ q, w' = w.drewN q := by
  refine (within_any w a lo hi).mono ?_
  have e : (decide (lo ≤ a) && decide (a ≤ hi)) = false := by
    by_cases h1 : lo ≤ a
    · rw [decide_eq_false (fun h2 : a ≤ hi => h ⟨h1, h2⟩), Bool.and_false]
    · rw [decide_eq_false h1, Bool.false_and]
  rw [e]
  exact fun _ _ h => h
/-- c lies inside the edge from a to b. -/
def insI (xs ys : List Int) (a b c : Int) : Prop :=
  trn xs ys a b c = 0 ∧ (min (ix xs a.toNat) (ix xs b.toNat) ≤ ix xs c.toNat ∧ ix xs c.toNat ≤ max (ix xs a.toNat) (ix xs b.toNat)) ∧ min (ix ys a.toNat) (ix ys b.toNat) ≤ ix ys c.toNat ∧ ix ys c.toNat ≤ max (ix ys a.toNat) (ix ys b.toNat)
instance (xs ys : List Int) (a b c : Int) : Decidable (insI xs ys a b c) := by unfold insI; infer_instance

set_option maxRecDepth 100000 in
set_option maxHeartbeats 16000000 in
theorem isInside_no (w : World) {gp gx gy n cp cx cy : Nat} {xs ys : List Int} (hx : RdI w (some ⟨gx, 0, none⟩) n cx xs) (hy : RdI w (some ⟨gy, 0, none⟩) n cy ys) (hB : PlB n xs ys) (a b c : Int) (ha : 0 ≤ a) (ha2 : a < n) (hb : 0 ≤ b) (hb2 : b < n) (hc : 0 ≤ c) (hc2 : c < n) (hno : ¬ insI xs ys a b c) :
    Calls Tryz.prog 165 #[.agg #[.slice (some ⟨gp, 0, none⟩) n cp, .slice (some ⟨gx, 0, none⟩) n cx, .slice (some ⟨gy, 0, none⟩) n cy], .int .i64 a, .int .i64 b, .int .i64 c] w fun e w' => e = .returned (.bool false) ∧ Bl w w' := by
  have hns := hx.small
  have hno := Lib.hid hno; rename_i h_; clear h_
  by_cases h0 : trn xs ys a b c = 0
  · have h0 := Lib.hid h0; rename_i h_; clear h_
    go_enter Tryz.func165, Tryz.ntmps165
    go_wp2_with fail
    refine calls_gen (fun W => Bl w W ∧ Blk W w.heap.size 122 #[.slice (some ⟨gp, 0, none⟩) n cp, .slice (some ⟨gx, 0, none⟩) n cx, .slice (some ⟨gy, 0, none⟩) n cy]) ⟨slc, bts⟩ ?_
    rintro W ⟨hbW, hBx⟩
    refine (turn_any _ (hx.bl hbW) (hy.bl hbW) hB a b c ha ha2 hb hb2 hc hc2).mono ?_
    rw [h0.out]
    rintro e v0 ⟨rfl, hv0⟩
    have hbW := hbW.next hv0
    have hBx := hBx.bl hv0
    have xa := rdi_lit (hx.bl hbW) (k := a.toNat) (by omega)
    have ya := rdi_lit (hy.bl hbW) (k := a.toNat) (by omega)
    have xb := rdi_lit (hx.bl hbW) (k := b.toNat) (by omega)
    have yb := rdi_lit (hy.bl hbW) (k := b.toNat) (by omega)
    have xc := rdi_lit (hx.bl hbW) (k := c.toNat) (by omega)
    have yc := rdi_lit (hy.bl hbW) (k := c.toNat) (by omega)
    obtain ⟨z0, z1, z2⟩ := bx3 hBx
    clear hB hx hy
    go_wp2_with fail
    have hy9 : ¬ ((min (ix xs a.toNat) (ix xs b.toNat) ≤ ix xs c.toNat ∧ ix xs c.toNat ≤ max (ix xs a.toNat) (ix xs b.toNat)) ∧ min (ix ys a.toNat) (ix ys b.toNat) ≤ ix ys c.toNat ∧ ix ys c.toNat ≤ max (ix ys a.toNat) (ix ys b.toNat)) := fun h => hno.out ⟨h0.out, h⟩
    by_cases hxr : min (ix xs a.toNat) (ix xs b.toNat) ≤ ix xs c.toNat ∧ ix xs c.toNat ≤ max (ix xs a.toNat) (ix xs b.toNat)
    · have hyr : ¬ (min (ix ys a.toNat) (ix ys b.toNat) ≤ ix ys c.toNat ∧ ix ys c.toNat ≤ max (ix ys a.toNat) (ix ys b.toNat)) := fun h => hy9 ⟨hxr, h⟩
      have hxr := Lib.hid hxr; rename_i h_; clear h_
      have hyr := Lib.hid hyr; rename_i h_; clear h_
      clear hy9
      go_quiet ((first | (go_at_call 99; with_reducible exact Calls.quiet_of (within_yes _ hxr.out.1 hxr.out.2)) | (go_at_call 99; with_reducible exact Calls.quiet_of (within_no _ hyr.out))))
      go_wp2_with fail
      go_ret
      exact ⟨rfl, slc⟩
    · have hxr := Lib.hid hxr; rename_i h_; clear h_
      clear hy9
      go_quiet (((go_at_call 99; with_reducible exact Calls.quiet_of (within_no _ hxr.out))))
      go_wp2_with fail
      go_ret
      exact ⟨rfl, slc⟩
  · have hd : decide (trn xs ys a b c = 0) = false := decide_eq_false h0
    go_enter Tryz.func165, Tryz.ntmps165
    go_wp2_with fail
    refine calls_gen (fun W => Bl w W ∧ Blk W w.heap.size 122 #[.slice (some ⟨gp, 0, none⟩) n cp, .slice (some ⟨gx, 0, none⟩) n cx, .slice (some ⟨gy, 0, none⟩) n cy]) ⟨slc, bts⟩ ?_
    rintro W ⟨hbW, hBx⟩
    refine (turn_any _ (hx.bl hbW) (hy.bl hbW) hB a b c ha ha2 hb hb2 hc hc2).mono ?_
    rintro e v0 ⟨rfl, hv0⟩
    go_wp2_with fail
    go_ret
    exact ⟨rfl, hbW.next hv0⟩

set_option maxRecDepth 100000 in
set_option maxHeartbeats 16000000 in
theorem triangleOk_yes (w : World) {gp gx gy n cp cx cy : Nat} {xs ys : List Int} (hx : RdI w (some ⟨gx, 0, none⟩) n cx xs) (hy : RdI w (some ⟨gy, 0, none⟩) n cy ys) (hB : PlB n xs ys) (t : TriD) (ht : TrIx n t) (hr0 : 0 ≤ t.region) (hr1 : t.region ≤ 2) (hl0 : 0 ≤ t.level) (hl1 : t.level ≤ 60) (hpos : 0 < trn xs ys t.a t.b t.c) :
    Calls Tryz.prog 103 #[.agg #[.slice (some ⟨gp, 0, none⟩) n cp, .slice (some ⟨gx, 0, none⟩) n cx, .slice (some ⟨gy, 0, none⟩) n cy], .agg #[.int .i64 t.a, .int .i64 t.b, .int .i64 t.c, .int .i64 t.region, .int .i64 t.level]] w fun e w' => e = .returned (.bool true) ∧ Bl w w' := by
  have hns := hx.small
  obtain ⟨⟨ta0, ta1⟩, ⟨tb0, tb1⟩, tc0, tc1⟩ := ht
  go_enter Tryz.func103, Tryz.ntmps103
  go_wp2_with fail
  refine calls_gen (fun W => Bl w W ∧ Blk W w.heap.size 122 #[.slice (some ⟨gp, 0, none⟩) n cp, .slice (some ⟨gx, 0, none⟩) n cx, .slice (some ⟨gy, 0, none⟩) n cy] ∧ Blk W (w.heap.size + 1) 73 #[.int .i64 t.a, .int .i64 t.b, .int .i64 t.c, .int .i64 t.region, .int .i64 t.level]) ⟨slc, bts, bts⟩ ?_
  rintro W ⟨hbW, hBx, hBt⟩
  refine (corners_any _ t).mono ?_
  rintro e wa ⟨rfl, hv0⟩
  have hbW := hbW.next hv0
  have hBx := hBx.bl hv0
  have hBt := hBt.bl hv0
  clear hv0
  have hix0 : ∀ W : World, (Instr.index 119 (.agg #[.int .i64 t.a, .int .i64 t.b, .int .i64 t.c]) (.int .i64 0)).run Tryz.prog W = .ok (.int .i64 t.a) W := fun _ => by kernel_rfl
  have hix1 : ∀ W : World, (Instr.index 119 (.agg #[.int .i64 t.a, .int .i64 t.b, .int .i64 t.c]) (.int .i64 1)).run Tryz.prog W = .ok (.int .i64 t.b) W := fun _ => by kernel_rfl
  have hix2 : ∀ W : World, (Instr.index 119 (.agg #[.int .i64 t.a, .int .i64 t.b, .int .i64 t.c]) (.int .i64 2)).run Tryz.prog W = .ok (.int .i64 t.c) W := fun _ => by kernel_rfl
  go_wp2_with fail
  go_loopw [9] (fun v wr => ∃ k : Nat, k ≤ 3 ∧ v = .int .i64 (k : Int) ∧ Bl wa wr) (fun v _ => 3 - (intOf v).toNat)
  case atStart => exact ⟨0, by omega, rfl, Bl.refl _⟩
  case round =>
    obtain ⟨k, hk, rfl, hbw⟩ := hrel
    obtain ⟨wo, rfl⟩ : ∃ wo : World, wo = wr := ⟨_, rfl⟩
    rcases (show k = 0 ∨ k = 1 ∨ k = 2 ∨ k = 3 by omega) with rfl | rfl | rfl | rfl
    · have e0 : ((0 : Nat) : Int) = 0 := rfl
      rw [e0]
      clear e0 hk
      obtain ⟨r0, r1, r2⟩ := bx3 (hBx.bl hbw)
      go_wp2_with ((go_at_call 99; (with_reducible refine (within_yes _ (show 0 ≤ t.a by omega) (show t.a ≤ (n : Int) - 1 by omega)).mono ?_); rintro e v0 ⟨rfl, q0, rfl⟩))
      go_roundw
      case rel => exact ⟨1, by omega, rfl, by exact slc⟩
      case measure => simp [intOf]
    · have e0 : ((1 : Nat) : Int) = 1 := rfl
      rw [e0]
      clear e0 hk
      obtain ⟨r0, r1, r2⟩ := bx3 (hBx.bl hbw)
      go_wp2_with ((go_at_call 99; (with_reducible refine (within_yes _ (show 0 ≤ t.b by omega) (show t.b ≤ (n : Int) - 1 by omega)).mono ?_); rintro e v0 ⟨rfl, q0, rfl⟩))
      go_roundw
      case rel => exact ⟨2, by omega, rfl, by exact slc⟩
      case measure => simp [intOf]
    · have e0 : ((2 : Nat) : Int) = 2 := rfl
      rw [e0]
      clear e0 hk
      obtain ⟨r0, r1, r2⟩ := bx3 (hBx.bl hbw)
      go_wp2_with ((go_at_call 99; (with_reducible refine (within_yes _ (show 0 ≤ t.c by omega) (show t.c ≤ (n : Int) - 1 by omega)).mono ?_); rintro e v0 ⟨rfl, q0, rfl⟩))
      go_roundw
      case rel => exact ⟨3, by omega, rfl, by exact slc⟩
      case measure => simp [intOf]
    · have e0 : ((3 : Nat) : Int) = 3 := rfl
      rw [e0]
      clear e0 hk
      obtain ⟨r0, r1, r2⟩ := bx3 (hBx.bl hbw)
      obtain ⟨y0, y1, y2, y3, y4⟩ := bx5 (hBt.bl hbw)
      have hbw0 := hbW.next hbw
      go_wp2_with (first | (go_at_call 99; (with_reducible refine (within_yes _ hr0 hr1).mono ?_); rintro e v0 ⟨rfl, q0, rfl⟩) | (go_at_call 99; (with_reducible refine (within_yes _ hl0 hl1).mono ?_); rintro e v1 ⟨rfl, q1, rfl⟩) | (go_at_call 163; (with_reducible refine (turn_any _ (hx.bl slc) (hy.bl slc) hB t.a t.b t.c ta0 ta1 tb0 tb1 tc0 tc1).mono ?_); rintro e v2 ⟨rfl, hv2⟩))
      go_ret
      exact ⟨rfl, by exact slc⟩
end

section
open Go.RowKit

def TrsIx (n : Nat) (ts : List TriD) : Prop := ∀ k, k < ts.length → TrIx n (pix ts k)
instance (n : Nat) (ts : List TriD) : Decidable (TrsIx n ts) := by unfold TrsIx; infer_instance
/-- No point lies inside the edge from a to b. -/
def NoIn1 (n : Nat) (xs ys : List Int) (a b : Int) : Prop := ∀ c : Nat, c < n → (c : Int) ≠ a → (c : Int) ≠ b → ¬ insI xs ys a b c
instance (n : Nat) (xs ys : List Int) (a b : Int) : Decidable (NoIn1 n xs ys a b) := by unfold NoIn1; infer_instance
def NoIn (n : Nat) (xs ys : List Int) (ts : List TriD) : Prop := ∀ k, k < ts.length → NoIn1 n xs ys (pix ts k).a (pix ts k).b ∧ NoIn1 n xs ys (pix ts k).b (pix ts k).c ∧ NoIn1 n xs ys (pix ts k).c (pix ts k).a
instance (n : Nat) (xs ys : List Int) (ts : List TriD) : Decidable (NoIn n xs ys ts) := by unfold NoIn; infer_instance
theorem trs_lit {w : World} {g n c : Nat} {l : List TriD} (h : RdTS w (some ⟨g, 0, none⟩) n c l) {k : Nat} (hk : k < n) :
    w.cell? ⟨g, k * 5, none⟩ = some (.int .i64 (pix l k).a) ∧ w.cell? ⟨g, k * 5 + 1, none⟩ = some (.int .i64 (pix l k).b) ∧ w.cell? ⟨g, k * 5 + 2, none⟩ = some (.int .i64 (pix l k).c) ∧
      w.cell? ⟨g, k * 5 + 3, none⟩ = some (.int .i64 (pix l k).region) ∧ w.cell? ⟨g, k * 5 + 4, none⟩ = some (.int .i64 (pix l k).level) := by
  obtain ⟨_, e, _, hc⟩ := h.cells k hk
  cases e
  rw [Addr.add_lit, Nat.zero_add] at hc
  exact hc

set_option maxRecDepth 100000 in
set_option maxHeartbeats 16000000 in
theorem hasInside_no (w : World) {gp gx gy n cp cx cy : Nat} {xs ys : List Int} (hx : RdI w (some ⟨gx, 0, none⟩) n cx xs) (hy : RdI w (some ⟨gy, 0, none⟩) n cy ys) (hB : PlB n xs ys) {gt m ct : Nat} {ts : List TriD} (ht : RdTS w (some ⟨gt, 0, none⟩) m ct ts) (hix0 : TrsIx n ts) (hno : NoIn n xs ys ts) (hn40 : n ≤ 1048576) :
    Calls Tryz.prog 107 #[.agg #[.slice (some ⟨gp, 0, none⟩) n cp, .slice (some ⟨gx, 0, none⟩) n cx, .slice (some ⟨gy, 0, none⟩) n cy], .slice (some ⟨gt, 0, none⟩) m ct] w fun e w' => e = .returned (.bool false) ∧ Bl w w' := by
  have hns := hx.small
  have hms := ht.small
  have hlen := Lib.hid ht.len
  have hix0 := Lib.hid hix0; rename_i h_; clear h_
  have hno := Lib.hid hno; rename_i h_; clear h_
  go_enter Tryz.func107, Tryz.ntmps107
  go_wp2_with fail
  refine wp_gen (fun W => Bl w W ∧ Blk W w.heap.size 122 #[.slice (some ⟨gp, 0, none⟩) n cp, .slice (some ⟨gx, 0, none⟩) n cx, .slice (some ⟨gy, 0, none⟩) n cy]) ⟨slc, bts⟩ ?_
  rintro W ⟨hbW, hBx⟩
  go_loopw [14] (fun v wr => ∃ k : Nat, k ≤ m ∧ v = .int .i64 (k : Int) ∧ Bl W wr) (fun v _ => m - (intOf v).toNat)
  case atStart => exact ⟨0, by omega, rfl, Bl.refl _⟩
  case round =>
    obtain ⟨k, hk, rfl, hbw⟩ := hrel
    obtain ⟨wo, rfl⟩ : ∃ wo : World, wo = wr := ⟨_, rfl⟩
    by_cases hkm : k < m
    · have hki : (k : Int) < (m : Int) := by omega
      obtain ⟨c0, c1, c2, c3, c4⟩ := trs_lit (RdTS.bl ht (hbW.next hbw)) hkm
      obtain ⟨⟨ta0, ta1⟩, ⟨tb0, tb1⟩, tc0, tc1⟩ := hix0.out k (by rw [hlen.out]; exact hkm)
      obtain ⟨n1, n2, n3⟩ := hno.out k (by rw [hlen.out]; exact hkm)
      have h1 := Lib.hid n1
      have h2 := Lib.hid n2
      have h3 := Lib.hid n3
      clear n1 n2 n3
      obtain ⟨t, hte⟩ : ∃ t, pix ts k = t := ⟨_, rfl⟩
      rw [hte] at c0 c1 c2 c3 c4 ta0 ta1 tb0 tb1 tc0 tc1 h1 h2 h3
      clear hte
      go_wp2_with fail
      refine calls_gen (fun W2 => Bl wo W2) slc ?_
      intro W2 hb2
      clear c0 c1 c2 c3 c4
      refine (corners_eq _ t).mono ?_
      rintro e w4 ⟨rfl, rfl⟩
      go_wp2_with fail
      refine wp_gen (fun W3 => Bl W2 W3 ∧ ∃ g7, Blk W3 g7 119 #[.int .i64 t.a, .int .i64 t.b, .int .i64 t.c] ∧ g7 = W2.heap.size + 1 + 1) ⟨by exact slc, _, by exact bts, rfl⟩ ?_
      rintro W3 ⟨hb3, g7, h7, hg7⟩
      rw [← hg7]
      clear hg7
      have hbq : Bl wo W3 := hb2.next hb3
      have hBx := hBx.bl (hbw.next hbq)
      go_loopw [21] (fun v wi => ∃ i : Nat, i ≤ 3 ∧ v = .int .i64 (i : Int) ∧ Bl W3 wi) (fun v _ => 3 - (intOf v).toNat)
      case atStart => exact ⟨0, by omega, rfl, Bl.refl _⟩
      case round =>
        obtain ⟨i, hi, rfl, hbi⟩ := hrel
        rcases (show i = 0 ∨ i = 1 ∨ i = 2 ∨ i = 3 by omega) with rfl | rfl | rfl | rfl
        · skip
          have e0 : ((0 : Nat) : Int) = 0 := rfl
          rw [e0]
          clear e0 hi
          obtain ⟨wj, rfl⟩ : ∃ wj : World, wj = wr := ⟨_, rfl⟩
          have hix : ∀ W : World, (Instr.index 119 (.agg #[.int .i64 t.a, .int .i64 t.b, .int .i64 t.c]) (.int .i64 0)).run Tryz.prog W = .ok (.int .i64 t.a) W := fun _ => by kernel_rfl
          have hBx2 := hBx.bl hbi
          obtain ⟨r0, r1, r2⟩ := bx3 hBx2
          obtain ⟨y0, y1, y2⟩ := bx3 (h7.bl hbi)
          have hin := Lib.hid h1.out
          have hb00 := (hbW.next hbw).next hbq
          have hb0 := hb00.next hbi
          go_wp2_with fail
          go_loopw [33] (fun v wr => ∃ c : Nat, c ≤ n ∧ v = .int .i64 (c : Int) ∧ Bl wj wr) (fun v _ => n - (intOf v).toNat)
          case atStart => exact ⟨0, by omega, rfl, Bl.refl _⟩
          case round =>
            clear r0 r1 r2 y0 y1 y2
            obtain ⟨c, hc, rfl, hbc⟩ := hrel
            obtain ⟨wp, rfl⟩ : ∃ wp : World, wp = wr := ⟨_, rfl⟩
            obtain ⟨r0, r1, r2⟩ := bx3 (hBx2.bl hbc)
            by_cases hcn : c < n
            · have hci : (c : Int) < (n : Int) := by omega
              by_cases hca : (c : Int) = t.a
              · have hda : decide ((c : Int) = t.a) = true := by simp [hca]
                have hca := Lib.hid hca; rename_i h_; clear h_
                go_wp2_with fail
                go_roundw
                case rel => exact ⟨c + 1, by omega, by go_num, hbc⟩
                case measure => simp [intOf]; omega
              · have hda : decide ((c : Int) = t.a) = false := by simp [hca]
                by_cases hcb : (c : Int) = t.b
                · have hdb : decide ((c : Int) = t.b) = true := by simp [hcb]
                  have hca := Lib.hid hca; rename_i h_; clear h_
                  have hcb := Lib.hid hcb; rename_i h_; clear h_
                  go_wp2_with fail
                  go_roundw
                  case rel => exact ⟨c + 1, by omega, by go_num, hbc⟩
                  case measure => simp [intOf]; omega
                · have hdb : decide ((c : Int) = t.b) = false := by simp [hcb]
                  have hbb := hb0.next hbc
                  have hno1 := Lib.hid (hin.out c hcn hca hcb)
                  go_wp2_with (go_at_call 165; (with_reducible refine (isInside_no _ (hx.bl slc) (hy.bl slc) hB t.a t.b (c : Int) ta0 ta1 tb0 tb1 (by omega) (by omega) hno1.out).mono ?_); rintro e v0 ⟨rfl, hv0⟩)
                  go_roundw
                  case rel => exact ⟨c + 1, by omega, by go_num, hbc.next hv0⟩
                  case measure => simp [intOf]; omega
            · obtain rfl : c = n := by omega
              have hcn2 : ¬ (c : Int) < (c : Int) := by omega
              go_wp2_with fail
              go_roundw
              case rel => exact ⟨1, by omega, rfl, hbi.next hbc⟩
              case measure => simp [intOf]
        · skip
          have e0 : ((1 : Nat) : Int) = 1 := rfl
          rw [e0]
          clear e0 hi
          obtain ⟨wj, rfl⟩ : ∃ wj : World, wj = wr := ⟨_, rfl⟩
          have hix : ∀ W : World, (Instr.index 119 (.agg #[.int .i64 t.a, .int .i64 t.b, .int .i64 t.c]) (.int .i64 1)).run Tryz.prog W = .ok (.int .i64 t.b) W := fun _ => by kernel_rfl
          have hBx2 := hBx.bl hbi
          obtain ⟨r0, r1, r2⟩ := bx3 hBx2
          obtain ⟨y0, y1, y2⟩ := bx3 (h7.bl hbi)
          have hin := Lib.hid h2.out
          have hb00 := (hbW.next hbw).next hbq
          have hb0 := hb00.next hbi
          go_wp2_with fail
          go_loopw [33] (fun v wr => ∃ c : Nat, c ≤ n ∧ v = .int .i64 (c : Int) ∧ Bl wj wr) (fun v _ => n - (intOf v).toNat)
          case atStart => exact ⟨0, by omega, rfl, Bl.refl _⟩
          case round =>
            clear r0 r1 r2 y0 y1 y2
            obtain ⟨c, hc, rfl, hbc⟩ := hrel
            obtain ⟨wp, rfl⟩ : ∃ wp : World, wp = wr := ⟨_, rfl⟩
            obtain ⟨r0, r1, r2⟩ := bx3 (hBx2.bl hbc)
            by_cases hcn : c < n
            · have hci : (c : Int) < (n : Int) := by omega
              by_cases hca : (c : Int) = t.b
              · have hda : decide ((c : Int) = t.b) = true := by simp [hca]
                have hca := Lib.hid hca; rename_i h_; clear h_
                go_wp2_with fail
                go_roundw
                case rel => exact ⟨c + 1, by omega, by go_num, hbc⟩
                case measure => simp [intOf]; omega
              · have hda : decide ((c : Int) = t.b) = false := by simp [hca]
                by_cases hcb : (c : Int) = t.c
                · have hdb : decide ((c : Int) = t.c) = true := by simp [hcb]
                  have hca := Lib.hid hca; rename_i h_; clear h_
                  have hcb := Lib.hid hcb; rename_i h_; clear h_
                  go_wp2_with fail
                  go_roundw
                  case rel => exact ⟨c + 1, by omega, by go_num, hbc⟩
                  case measure => simp [intOf]; omega
                · have hdb : decide ((c : Int) = t.c) = false := by simp [hcb]
                  have hbb := hb0.next hbc
                  have hno1 := Lib.hid (hin.out c hcn hca hcb)
                  go_wp2_with (go_at_call 165; (with_reducible refine (isInside_no _ (hx.bl slc) (hy.bl slc) hB t.b t.c (c : Int) tb0 tb1 tc0 tc1 (by omega) (by omega) hno1.out).mono ?_); rintro e v0 ⟨rfl, hv0⟩)
                  go_roundw
                  case rel => exact ⟨c + 1, by omega, by go_num, hbc.next hv0⟩
                  case measure => simp [intOf]; omega
            · obtain rfl : c = n := by omega
              have hcn2 : ¬ (c : Int) < (c : Int) := by omega
              go_wp2_with fail
              go_roundw
              case rel => exact ⟨2, by omega, rfl, hbi.next hbc⟩
              case measure => simp [intOf]
        · skip
          have e0 : ((2 : Nat) : Int) = 2 := rfl
          rw [e0]
          clear e0 hi
          obtain ⟨wj, rfl⟩ : ∃ wj : World, wj = wr := ⟨_, rfl⟩
          have hix : ∀ W : World, (Instr.index 119 (.agg #[.int .i64 t.a, .int .i64 t.b, .int .i64 t.c]) (.int .i64 2)).run Tryz.prog W = .ok (.int .i64 t.c) W := fun _ => by kernel_rfl
          have hBx2 := hBx.bl hbi
          obtain ⟨r0, r1, r2⟩ := bx3 hBx2
          obtain ⟨y0, y1, y2⟩ := bx3 (h7.bl hbi)
          have hin := Lib.hid h3.out
          have hb00 := (hbW.next hbw).next hbq
          have hb0 := hb00.next hbi
          go_wp2_with fail
          go_loopw [33] (fun v wr => ∃ c : Nat, c ≤ n ∧ v = .int .i64 (c : Int) ∧ Bl wj wr) (fun v _ => n - (intOf v).toNat)
          case atStart => exact ⟨0, by omega, rfl, Bl.refl _⟩
          case round =>
            clear r0 r1 r2 y0 y1 y2
            obtain ⟨c, hc, rfl, hbc⟩ := hrel
            obtain ⟨wp, rfl⟩ : ∃ wp : World, wp = wr := ⟨_, rfl⟩
            obtain ⟨r0, r1, r2⟩ := bx3 (hBx2.bl hbc)
            by_cases hcn : c < n
            · have hci : (c : Int) < (n : Int) := by omega
              by_cases hca : (c : Int) = t.c
              · have hda : decide ((c : Int) = t.c) = true := by simp [hca]
                have hca := Lib.hid hca; rename_i h_; clear h_
                go_wp2_with fail
                go_roundw
                case rel => exact ⟨c + 1, by omega, by go_num, hbc⟩
                case measure => simp [intOf]; omega
              · have hda : decide ((c : Int) = t.c) = false := by simp [hca]
                by_cases hcb : (c : Int) = t.a
                · have hdb : decide ((c : Int) = t.a) = true := by simp [hcb]
                  have hca := Lib.hid hca; rename_i h_; clear h_
                  have hcb := Lib.hid hcb; rename_i h_; clear h_
                  go_wp2_with fail
                  go_roundw
                  case rel => exact ⟨c + 1, by omega, by go_num, hbc⟩
                  case measure => simp [intOf]; omega
                · have hdb : decide ((c : Int) = t.a) = false := by simp [hcb]
                  have hbb := hb0.next hbc
                  have hno1 := Lib.hid (hin.out c hcn hca hcb)
                  go_wp2_with (go_at_call 165; (with_reducible refine (isInside_no _ (hx.bl slc) (hy.bl slc) hB t.c t.a (c : Int) tc0 tc1 ta0 ta1 (by omega) (by omega) hno1.out).mono ?_); rintro e v0 ⟨rfl, hv0⟩)
                  go_roundw
                  case rel => exact ⟨c + 1, by omega, by go_num, hbc.next hv0⟩
                  case measure => simp [intOf]; omega
            · obtain rfl : c = n := by omega
              have hcn2 : ¬ (c : Int) < (c : Int) := by omega
              go_wp2_with fail
              go_roundw
              case rel => exact ⟨3, by omega, rfl, hbi.next hbc⟩
              case measure => simp [intOf]
        · have e0 : ((3 : Nat) : Int) = 3 := rfl
          rw [e0]
          clear e0 hi
          go_wp2_with fail
          go_roundw
          case rel => exact ⟨k + 1, by omega, by go_num, (hbw.next hbq).next hbi⟩
          case measure => simp [intOf]; omega
    · obtain rfl : k = m := by omega
      have hkm2 : ¬ (k : Int) < (k : Int) := by omega
      go_wp2_with fail
      go_ret
      exact ⟨rfl, hbW.next hbw⟩
end

end Go.Proofs.YtajlahjghapbkaaGreat
