import Derived.Test.YthgielbhcjpikaaRows
import Derived.Test.YthgielbhcjpikaaFi1
import Derived.Test.YthgielbhcjpikaaBg7
import Derived.Test.YthgielbhcjpikaaHt
namespace Go.Proofs.Ythgielbhcjpikaa
open Go.RowKit

noncomputable def accR (l l' : List RatD) : Nat → RatD
  | 0 => ofFrac 0 1
  | k + 1 => addR (accR l l' k) (mulR (pix l k) (pix l' k))
noncomputable def innR (l l' : List RatD) : RatD := if l.length = l'.length then accR l l' l.length else zR
/-- A fraction in memory of its own from block b0 on, none of it in block g. -/
def OwG (T : TypeId) (b0 g : Nat) (w : World) (s : Bool) (A : Option Addr) (n c : Nat) (B : Option Addr) (m d : Nat) (r : RatD) : Prop :=
  ∃ bs, FtR T w s A n c B m d r bs ∧ Fp b0 w.heap.size bs ∧ g ∉ bs
section
variable {T : TypeId} {b0 b1 g : Nat} {w W : World} {s : Bool} {A : Option Addr} {n c : Nat} {B : Option Addr} {m d : Nat} {r : RatD}
theorem OwG.rd (h : OwG T b0 g w s A n c B m d r) : RdR w s A n c B m d r := by
  obtain ⟨bs, h, _⟩ := h
  exact h.rd
theorem OwG.ow (h : OwG T b0 g w s A n c B m d r) : OwR T b0 w s A n c B m d r := by
  obtain ⟨bs, h, hf, _⟩ := h
  exact ⟨bs, h, hf⟩
theorem OwG.set (h : OwG T b0 g w s A n c B m d r) (i : Nat) (u : Value) : OwG T b0 g (w.setCell ⟨g, i, none⟩ u) s A n c B m d r := by
  obtain ⟨bs, h, hf, hg⟩ := h
  exact ⟨bs, h.keep (by simp) (fun b hb => Below.heap_setCell w _ u b (by intro e; exact hg ((show b = g from e) ▸ hb))), hf.mono (Nat.le_refl _) (by simp), hg⟩
theorem OwR.exc (h : OwR T b0 w s A n c B m d r) (hb : Bl w W) : OwG T b0 w.heap.size W s A n c B m d r := by
  obtain ⟨bs, h, hf⟩ := h
  exact ⟨bs, h.bl hb, hf.mono (Nat.le_refl _) hb.size, fun hm => by have := (hf.2 _ hm).2; omega⟩
theorem OwR.exc2 (h : OwR T b1 w s A n c B m d r) (hg : g < b1) (hb : b0 ≤ b1) : OwG T b0 g w s A n c B m d r := by
  obtain ⟨bs, h, hf⟩ := h
  exact ⟨bs, h, hf.mono hb (Nat.le_refl _), fun hm => by have := (hf.2 _ hm).1; omega⟩
theorem cellD_val {i : Nat} {v : Value} (h : w.cell? ⟨g, i, none⟩ = some v) : cellD w g i = v := by unfold cellD; rw [h]; rfl
theorem fz3 {a b c : Value} (h : Blk W g T #[a, b, c]) : W.frozen? ⟨g, 0, none⟩ = false ∧ W.frozen? ⟨g, 1, none⟩ = false ∧ W.frozen? ⟨g, 2, none⟩ = false := ⟨h.frozen 0, h.frozen 1, h.frozen 2⟩
end

set_option maxRecDepth 100000 in
set_option maxHeartbeats 2000000 in
theorem InnerVector_any (w : World) {A B : Option Addr} {n c m d : Nat} {l l' : List RatD} (ha : RdRS w A n c l) (hb : RdRS w B m d l') :
    Calls Try.prog 25 #[.slice A n c, .slice B m d] w fun e w' => ∃ s1 A1 n1 c1 B1 m1 d1, e = .returned (.agg #[.bool s1, .slice A1 n1 c1, .slice B1 m1 d1]) ∧ OwR 3 w.heap.size w' s1 A1 n1 c1 B1 m1 d1 (innR l l') ∧ Bl w w' := by
  have hna := ha.small
  have hnb := hb.small
  by_cases hnm : n = m
  · subst hnm
    have hl := ha.len
    have hv := Lib.hid (show innR l l' = accR l l' n by unfold innR; rw [if_pos (by rw [ha.len, hb.len]), hl])
    clear hl
    go_enter Try.func25, Try.ntmps25
    go_wp2_with fail
    refine calls_gen (fun W => Bl w W ∧ Wk 3 48 (w.heap.size) W) ⟨(by repeat (first | with_reducible assumption | with_reducible exact Bl.refl _ | (with_reducible refine Bl.set ?_ (by simp <;> omega) _) | (with_reducible refine Bl.drewN ?_ _) | (with_reducible refine Bl.drew ?_) | (with_reducible refine Bl.alloc ?_ _) | (with_reducible refine Bl.next ?_ ‹_›))), (by repeat (first | with_reducible assumption | with_reducible exact Blk.new _ _ _ | with_reducible exact Blk.new1 _ _ _ _ | with_reducible exact Blk.new2 _ _ _ _ _ | with_reducible exact Wk.of (Blk.new _ _ _) rfl | with_reducible exact Wk.of (Blk.new1 _ _ _ _) rfl | with_reducible exact Wk.of (Blk.new2 _ _ _ _ _) rfl | (with_reducible refine Blk.drew ?_) | (with_reducible refine Blk.drewN ?_ _) | (with_reducible refine Wk.drew ?_) | (with_reducible refine Wk.drewN ?_ _) | (with_reducible refine Blk.alloc ?_ _) | (with_reducible refine Wk.alloc ?_ _) | (with_reducible refine Wk.set ?_ _ _) | (with_reducible refine Blk.far ?_ (by simp <;> omega) _) | (with_reducible refine Wk.far ?_ (by simp <;> omega) _) | (with_reducible refine Blk.bl ?_ ‹Bl _ _›) | (with_reducible refine Wk.bl ?_ ‹Bl _ _›)))⟩ ?_
    rintro W ⟨hbW, hr⟩
    refine (RatFromInt_any _ 0 (by omega) (by omega)).mono ?_
    rintro e w1 ⟨s0, A0, n0, c0, B0, m0, d0, rfl, hR0, hb1⟩
    have hz := hr.lt
    have hr := hr.bl hb1
    have hbW := hbW.next hb1
    have hR0 := hR0.mono (show w.heap.size + 1 ≤ W.heap.size from hz)
    have hz1 : w.heap.size < w1.heap.size := hr.lt
    clear hb1
    go_wp2_with fail
    go_loopw [17] (fun i wr => ∃ (k : Nat) (s : Bool) (A1 : Option Addr) (n1 c1 : Nat) (B1 : Option Addr) (m1 d1 : Nat), k ≤ n ∧ i = .int .i64 (k : Int) ∧ Blk wr w1.heap.size 48 #[.bool s, .slice A1 n1 c1, .slice B1 m1 d1] ∧ OwG 3 (w.heap.size + 1) w1.heap.size wr s A1 n1 c1 B1 m1 d1 (accR l l' k) ∧ Wk 3 48 w.heap.size wr ∧ Bl w wr) (fun i _ => n - (intOf i).toNat)
    case atStart => exact ⟨0, s0, A0, n0, c0, B0, m0, d0, Nat.zero_le _, rfl, Blk.new _ _ _, hR0.exc ((Bl.refl w1).alloc _), hr.alloc _, hbW.alloc _⟩
    case round =>
      clear hr hbW hR0 hz
      obtain ⟨k, s, A1, n1, c1, B1, m1, d1, hk, rfl, hx, hO, hr, hbw⟩ := hrel
      by_cases hkn : k < n
      · have hki : (k : Int) < (n : Int) := by omega
        obtain ⟨ad, rfl, hlta, hca⟩ := ha.cells k hkn
        obtain ⟨bd, rfl, hltb, hcb⟩ := hb.cells k hkn
        obtain ⟨s3, A3, n3, c3, B3, m3, d3, ⟨g0, g1, g2⟩, hu⟩ := hca.bl (by rw [block_add]; exact hlta) hbw
        obtain ⟨s2, A2, n2, c2, B2, m2, d2, ⟨p0, p1, p2⟩, hvv⟩ := hcb
        have hgl := hx.lt
        have hvlt : (bd.add (k * 3)).block < w.heap.size := by rw [block_add]; exact hltb
        replace p0 := Lib.hid p0
        replace p1 := Lib.hid p1
        replace p2 := Lib.hid p2
        have hacc := hO.rd
        clear hO
        go_wp2_with fail
        refine wp_gen (fun W => Bl w W ∧ wr.heap.size < W.heap.size ∧ Blk W w1.heap.size 48 #[.bool s, .slice A1 n1 c1, .slice B1 m1 d1] ∧ Blk W wr.heap.size 48 #[.bool s3, .slice A3 n3 c3, .slice B3 m3 d3] ∧ Wk 3 48 w.heap.size W ∧ RdR W s A1 n1 c1 B1 m1 d1 (accR l l' k) ∧ RdR W s3 A3 n3 c3 B3 m3 d3 (pix l k)) ⟨(by repeat (first | with_reducible assumption | with_reducible exact Bl.refl _ | (with_reducible refine Bl.set ?_ (by simp <;> omega) _) | (with_reducible refine Bl.drewN ?_ _) | (with_reducible refine Bl.drew ?_) | (with_reducible refine Bl.alloc ?_ _) | (with_reducible refine Bl.next ?_ ‹_›))), by simp, hx.alloc _, Blk.new _ _ _, hr.alloc _, hacc.alloc _, hu.alloc _⟩ ?_
        clear g0 g1 g2 hacc hu hr hx hbw
        rintro W ⟨hbr, hgw, hx2, hx3, hr2, hacc, hu2⟩
        replace p0 := p0.out
        replace p1 := p1.out
        replace p2 := p2.out
        have hHeld : (fun w' => (w'.cell? ⟨w1.heap.size, 0, none⟩ = some (.bool s) ∧ w'.cell? ⟨w1.heap.size, 1, none⟩ = some (.slice A1 n1 c1) ∧ w'.cell? ⟨w1.heap.size, 2, none⟩ = some (.slice B1 m1 d1)) ∧ (w'.cell? ⟨wr.heap.size, 0, none⟩ = some (.bool s3) ∧ w'.cell? ⟨wr.heap.size, 1, none⟩ = some (.slice A3 n3 c3) ∧ w'.cell? ⟨wr.heap.size, 2, none⟩ = some (.slice B3 m3 d3)) ∧ (w'.cell? (bd.add (k * 3)) = some (.bool s2) ∧ w'.cell? ⟨(bd.add (k * 3)).block, (bd.add (k * 3)).off + 1, none⟩ = some (.slice A2 n2 c2) ∧ w'.cell? ⟨(bd.add (k * 3)).block, (bd.add (k * 3)).off + 2, none⟩ = some (.slice B2 m2 d2))) (W.drew) := ⟨bx3 (T := 48) (by repeat (first | with_reducible assumption | with_reducible exact Blk.new _ _ _ | with_reducible exact Blk.new1 _ _ _ _ | with_reducible exact Blk.new2 _ _ _ _ _ | with_reducible exact Wk.of (Blk.new _ _ _) rfl | with_reducible exact Wk.of (Blk.new1 _ _ _ _) rfl | with_reducible exact Wk.of (Blk.new2 _ _ _ _ _) rfl | (with_reducible refine Blk.drew ?_) | (with_reducible refine Blk.drewN ?_ _) | (with_reducible refine Wk.drew ?_) | (with_reducible refine Wk.drewN ?_ _) | (with_reducible refine Blk.alloc ?_ _) | (with_reducible refine Wk.alloc ?_ _) | (with_reducible refine Wk.set ?_ _ _) | (with_reducible refine Blk.far ?_ (by simp <;> omega) _) | (with_reducible refine Wk.far ?_ (by simp <;> omega) _) | (with_reducible refine Blk.bl ?_ ‹Bl _ _›) | (with_reducible refine Wk.bl ?_ ‹Bl _ _›))), bx3 (T := 48) (by repeat (first | with_reducible assumption | with_reducible exact Blk.new _ _ _ | with_reducible exact Blk.new1 _ _ _ _ | with_reducible exact Blk.new2 _ _ _ _ _ | with_reducible exact Wk.of (Blk.new _ _ _) rfl | with_reducible exact Wk.of (Blk.new1 _ _ _ _) rfl | with_reducible exact Wk.of (Blk.new2 _ _ _ _ _) rfl | (with_reducible refine Blk.drew ?_) | (with_reducible refine Blk.drewN ?_ _) | (with_reducible refine Wk.drew ?_) | (with_reducible refine Wk.drewN ?_ _) | (with_reducible refine Blk.alloc ?_ _) | (with_reducible refine Wk.alloc ?_ _) | (with_reducible refine Wk.set ?_ _ _) | (with_reducible refine Blk.far ?_ (by simp <;> omega) _) | (with_reducible refine Wk.far ?_ (by simp <;> omega) _) | (with_reducible refine Blk.bl ?_ ‹Bl _ _›) | (with_reducible refine Wk.bl ?_ ‹Bl _ _›))), ⟨(Bl.cellOf (w := w) (by repeat (first | with_reducible assumption | with_reducible exact Bl.refl _ | (with_reducible refine Bl.set ?_ (by simp <;> omega) _) | (with_reducible refine Bl.drewN ?_ _) | (with_reducible refine Bl.drew ?_) | (with_reducible refine Bl.alloc ?_ _) | (with_reducible refine Bl.next ?_ ‹_›))) hvlt).trans p0, (Bl.cellOf (w := w) (p := ⟨(bd.add (k * 3)).block, (bd.add (k * 3)).off + 1, none⟩) (by repeat (first | with_reducible assumption | with_reducible exact Bl.refl _ | (with_reducible refine Bl.set ?_ (by simp <;> omega) _) | (with_reducible refine Bl.drewN ?_ _) | (with_reducible refine Bl.drew ?_) | (with_reducible refine Bl.alloc ?_ _) | (with_reducible refine Bl.next ?_ ‹_›))) hvlt).trans p1, (Bl.cellOf (w := w) (p := ⟨(bd.add (k * 3)).block, (bd.add (k * 3)).off + 2, none⟩) (by repeat (first | with_reducible assumption | with_reducible exact Bl.refl _ | (with_reducible refine Bl.set ?_ (by simp <;> omega) _) | (with_reducible refine Bl.drewN ?_ _) | (with_reducible refine Bl.drew ?_) | (with_reducible refine Bl.alloc ?_ _) | (with_reducible refine Bl.next ?_ ‹_›))) hvlt).trans p2⟩⟩
        refine wp_region_T 8 9 (fun w' => (w'.cell? ⟨w1.heap.size, 0, none⟩ = some (.bool s) ∧ w'.cell? ⟨w1.heap.size, 1, none⟩ = some (.slice A1 n1 c1) ∧ w'.cell? ⟨w1.heap.size, 2, none⟩ = some (.slice B1 m1 d1)) ∧ (w'.cell? ⟨wr.heap.size, 0, none⟩ = some (.bool s3) ∧ w'.cell? ⟨wr.heap.size, 1, none⟩ = some (.slice A3 n3 c3) ∧ w'.cell? ⟨wr.heap.size, 2, none⟩ = some (.slice B3 m3 d3)) ∧ (w'.cell? (bd.add (k * 3)) = some (.bool s2) ∧ w'.cell? ⟨(bd.add (k * 3)).block, (bd.add (k * 3)).off + 1, none⟩ = some (.slice A2 n2 c2) ∧ w'.cell? ⟨(bd.add (k * 3)).block, (bd.add (k * 3)).off + 2, none⟩ = some (.slice B2 m2 d2))) rfl (by kernel_rfl) hHeld ?_
        refine wpAnyT_take (i := 0) (oi := _) (v := ?_) (fuel := 8) rfl (by kernel_rfl) (by kernel_rfl) (by kernel_rfl) (by kernel_rfl) (fun _ _ _ h => h) (by rfl) ?_ hHeld ?_
        rotate_left 1
        · (intro w' hSw; (try dsimp only at hSw); go_simp <;> with_reducible rfl)
        refine wpAnyT_take (i := 1) (oi := _) (v := ?_) (fuel := 7) rfl (by kernel_rfl) (by kernel_rfl) (by kernel_rfl) (by kernel_rfl) (fun _ _ _ h => h) (by rfl) ?_ hHeld ?_
        rotate_left 1
        · (intro w' hSw; (try dsimp only at hSw); go_simp <;> with_reducible rfl)
        refine wpAnyT_take (i := 2) (oi := _) (v := ?_) (fuel := 6) rfl (by kernel_rfl) (by kernel_rfl) (by kernel_rfl) (by kernel_rfl) (fun _ _ _ h => h) (by rfl) ?_ hHeld ?_
        rotate_left 1
        · (intro w' hSw; (try dsimp only at hSw); go_simp <;> with_reducible rfl)
        refine wpAnyT_take (i := 3) (oi := _) (v := ?_) (fuel := 5) rfl (by kernel_rfl) (by kernel_rfl) (by kernel_rfl) (by kernel_rfl) (fun _ _ _ h => h) (by rfl) ?_ hHeld ?_
        rotate_left 1
        · (intro w' hSw; (try dsimp only at hSw); go_simp <;> with_reducible rfl)
        refine wpAnyT_take (i := 4) (oi := _) (v := ?_) (fuel := 4) rfl (by kernel_rfl) (by kernel_rfl) (by kernel_rfl) (by kernel_rfl) (fun _ _ _ h => h) (by rfl) ?_ hHeld ?_
        rotate_left 1
        · (intro w' hSw; (try dsimp only at hSw); go_simp <;> with_reducible rfl)
        refine wpAnyT_take (i := 5) (oi := _) (v := ?_) (fuel := 3) rfl (by kernel_rfl) (by kernel_rfl) (by kernel_rfl) (by kernel_rfl) (fun _ _ _ h => h) (by rfl) ?_ hHeld ?_
        rotate_left 1
        · (intro w' hSw; (try dsimp only at hSw); go_simp <;> with_reducible rfl)
        clear hHeld
        simp only [Act.put, List.setIfInBounds_toArray]
        refine wpAnyT_step (i := 6) (o := _) (fuel := 2) rfl (by kernel_rfl) (fun K hK => ?_)
        go_simp
        refine (RatMul_any _ (hu2.bl (by repeat (first | with_reducible assumption | with_reducible exact Bl.refl _ | (with_reducible refine Bl.set ?_ (by simp <;> omega) _) | (with_reducible refine Bl.drewN ?_ _) | (with_reducible refine Bl.drew ?_) | (with_reducible refine Bl.alloc ?_ _) | (with_reducible refine Bl.next ?_ ‹_›)))) (hvv.bl (by repeat (first | with_reducible assumption | with_reducible exact Bl.refl _ | (with_reducible refine Bl.set ?_ (by simp <;> omega) _) | (with_reducible refine Bl.drewN ?_ _) | (with_reducible refine Bl.drew ?_) | (with_reducible refine Bl.alloc ?_ _) | (with_reducible refine Bl.next ?_ ‹_›))))).mono ?_
        rintro e w2 ⟨s4, A4, n4, c4, B4, m4, d4, rfl, hR4, hb2⟩
        refine hK.out _ _ (fun _ => ⟨bx3 (T := 48) (by repeat (first | with_reducible assumption | with_reducible exact Blk.new _ _ _ | with_reducible exact Blk.new1 _ _ _ _ | with_reducible exact Blk.new2 _ _ _ _ _ | with_reducible exact Wk.of (Blk.new _ _ _) rfl | with_reducible exact Wk.of (Blk.new1 _ _ _ _) rfl | with_reducible exact Wk.of (Blk.new2 _ _ _ _ _) rfl | (with_reducible refine Blk.drew ?_) | (with_reducible refine Blk.drewN ?_ _) | (with_reducible refine Wk.drew ?_) | (with_reducible refine Wk.drewN ?_ _) | (with_reducible refine Blk.alloc ?_ _) | (with_reducible refine Wk.alloc ?_ _) | (with_reducible refine Wk.set ?_ _ _) | (with_reducible refine Blk.far ?_ (by simp <;> omega) _) | (with_reducible refine Wk.far ?_ (by simp <;> omega) _) | (with_reducible refine Blk.bl ?_ ‹Bl _ _›) | (with_reducible refine Wk.bl ?_ ‹Bl _ _›))), bx3 (T := 48) (by repeat (first | with_reducible assumption | with_reducible exact Blk.new _ _ _ | with_reducible exact Blk.new1 _ _ _ _ | with_reducible exact Blk.new2 _ _ _ _ _ | with_reducible exact Wk.of (Blk.new _ _ _) rfl | with_reducible exact Wk.of (Blk.new1 _ _ _ _) rfl | with_reducible exact Wk.of (Blk.new2 _ _ _ _ _) rfl | (with_reducible refine Blk.drew ?_) | (with_reducible refine Blk.drewN ?_ _) | (with_reducible refine Wk.drew ?_) | (with_reducible refine Wk.drewN ?_ _) | (with_reducible refine Blk.alloc ?_ _) | (with_reducible refine Wk.alloc ?_ _) | (with_reducible refine Wk.set ?_ _ _) | (with_reducible refine Blk.far ?_ (by simp <;> omega) _) | (with_reducible refine Wk.far ?_ (by simp <;> omega) _) | (with_reducible refine Blk.bl ?_ ‹Bl _ _›) | (with_reducible refine Wk.bl ?_ ‹Bl _ _›))), ⟨(Bl.cellOf (w := w) (by repeat (first | with_reducible assumption | with_reducible exact Bl.refl _ | (with_reducible refine Bl.set ?_ (by simp <;> omega) _) | (with_reducible refine Bl.drewN ?_ _) | (with_reducible refine Bl.drew ?_) | (with_reducible refine Bl.alloc ?_ _) | (with_reducible refine Bl.next ?_ ‹_›))) hvlt).trans p0, (Bl.cellOf (w := w) (p := ⟨(bd.add (k * 3)).block, (bd.add (k * 3)).off + 1, none⟩) (by repeat (first | with_reducible assumption | with_reducible exact Bl.refl _ | (with_reducible refine Bl.set ?_ (by simp <;> omega) _) | (with_reducible refine Bl.drewN ?_ _) | (with_reducible refine Bl.drew ?_) | (with_reducible refine Bl.alloc ?_ _) | (with_reducible refine Bl.next ?_ ‹_›))) hvlt).trans p1, (Bl.cellOf (w := w) (p := ⟨(bd.add (k * 3)).block, (bd.add (k * 3)).off + 2, none⟩) (by repeat (first | with_reducible assumption | with_reducible exact Bl.refl _ | (with_reducible refine Bl.set ?_ (by simp <;> omega) _) | (with_reducible refine Bl.drewN ?_ _) | (with_reducible refine Bl.drew ?_) | (with_reducible refine Bl.alloc ?_ _) | (with_reducible refine Bl.next ?_ ‹_›))) hvlt).trans p2⟩⟩) ?_
        clear hK K
        try simp only [Act.put, List.setIfInBounds_toArray, List.set_cons_zero, List.set_cons_succ]
        refine wpAnyT_step (i := 7) (o := _) (fuel := 1) rfl (by kernel_rfl) (fun K hK => ?_)
        go_simp
        refine (RatAdd_any _ (hacc.bl (by repeat (first | with_reducible assumption | with_reducible exact Bl.refl _ | (with_reducible refine Bl.set ?_ (by simp <;> omega) _) | (with_reducible refine Bl.drewN ?_ _) | (with_reducible refine Bl.drew ?_) | (with_reducible refine Bl.alloc ?_ _) | (with_reducible refine Bl.next ?_ ‹_›)))) hR4.rd).mono ?_
        rintro e w3 ⟨s5, A5, n5, c5, B5, m5, d5, rfl, hR5, hb3⟩
        refine hK.out _ _ (fun _ => ⟨bx3 (T := 48) (by repeat (first | with_reducible assumption | with_reducible exact Blk.new _ _ _ | with_reducible exact Blk.new1 _ _ _ _ | with_reducible exact Blk.new2 _ _ _ _ _ | with_reducible exact Wk.of (Blk.new _ _ _) rfl | with_reducible exact Wk.of (Blk.new1 _ _ _ _) rfl | with_reducible exact Wk.of (Blk.new2 _ _ _ _ _) rfl | (with_reducible refine Blk.drew ?_) | (with_reducible refine Blk.drewN ?_ _) | (with_reducible refine Wk.drew ?_) | (with_reducible refine Wk.drewN ?_ _) | (with_reducible refine Blk.alloc ?_ _) | (with_reducible refine Wk.alloc ?_ _) | (with_reducible refine Wk.set ?_ _ _) | (with_reducible refine Blk.far ?_ (by simp <;> omega) _) | (with_reducible refine Wk.far ?_ (by simp <;> omega) _) | (with_reducible refine Blk.bl ?_ ‹Bl _ _›) | (with_reducible refine Wk.bl ?_ ‹Bl _ _›))), bx3 (T := 48) (by repeat (first | with_reducible assumption | with_reducible exact Blk.new _ _ _ | with_reducible exact Blk.new1 _ _ _ _ | with_reducible exact Blk.new2 _ _ _ _ _ | with_reducible exact Wk.of (Blk.new _ _ _) rfl | with_reducible exact Wk.of (Blk.new1 _ _ _ _) rfl | with_reducible exact Wk.of (Blk.new2 _ _ _ _ _) rfl | (with_reducible refine Blk.drew ?_) | (with_reducible refine Blk.drewN ?_ _) | (with_reducible refine Wk.drew ?_) | (with_reducible refine Wk.drewN ?_ _) | (with_reducible refine Blk.alloc ?_ _) | (with_reducible refine Wk.alloc ?_ _) | (with_reducible refine Wk.set ?_ _ _) | (with_reducible refine Blk.far ?_ (by simp <;> omega) _) | (with_reducible refine Wk.far ?_ (by simp <;> omega) _) | (with_reducible refine Blk.bl ?_ ‹Bl _ _›) | (with_reducible refine Wk.bl ?_ ‹Bl _ _›))), ⟨(Bl.cellOf (w := w) (by repeat (first | with_reducible assumption | with_reducible exact Bl.refl _ | (with_reducible refine Bl.set ?_ (by simp <;> omega) _) | (with_reducible refine Bl.drewN ?_ _) | (with_reducible refine Bl.drew ?_) | (with_reducible refine Bl.alloc ?_ _) | (with_reducible refine Bl.next ?_ ‹_›))) hvlt).trans p0, (Bl.cellOf (w := w) (p := ⟨(bd.add (k * 3)).block, (bd.add (k * 3)).off + 1, none⟩) (by repeat (first | with_reducible assumption | with_reducible exact Bl.refl _ | (with_reducible refine Bl.set ?_ (by simp <;> omega) _) | (with_reducible refine Bl.drewN ?_ _) | (with_reducible refine Bl.drew ?_) | (with_reducible refine Bl.alloc ?_ _) | (with_reducible refine Bl.next ?_ ‹_›))) hvlt).trans p1, (Bl.cellOf (w := w) (p := ⟨(bd.add (k * 3)).block, (bd.add (k * 3)).off + 2, none⟩) (by repeat (first | with_reducible assumption | with_reducible exact Bl.refl _ | (with_reducible refine Bl.set ?_ (by simp <;> omega) _) | (with_reducible refine Bl.drewN ?_ _) | (with_reducible refine Bl.drew ?_) | (with_reducible refine Bl.alloc ?_ _) | (with_reducible refine Bl.next ?_ ‹_›))) hvlt).trans p2⟩⟩) ?_
        clear hK K
        try simp only [Act.put, List.setIfInBounds_toArray, List.set_cons_zero, List.set_cons_succ]
        have hx4 := (hx2.drew.bl hb2).bl hb3
        obtain ⟨z0, z1, z2⟩ := bx3 hx4
        obtain ⟨y0, y1, y2⟩ := fz3 hx4
        refine wpAnyT_step (i := 8) (o := _) (fuel := 0) rfl (by kernel_rfl) (fun K hK => ?_)
        go_simp
        refine hK.out _ _ (fun h => absurd rfl h) ?_
        clear hK K
        try simp only [Act.put, List.setIfInBounds_toArray, List.set_cons_zero, List.set_cons_succ]
        refine wpAnyT_done (by kernel_rfl) ?_
        have hb23 : Bl w w3 := (by repeat (first | with_reducible assumption | with_reducible exact Bl.refl _ | (with_reducible refine Bl.set ?_ (by simp <;> omega) _) | (with_reducible refine Bl.drewN ?_ _) | (with_reducible refine Bl.drew ?_) | (with_reducible refine Bl.alloc ?_ _) | (with_reducible refine Bl.next ?_ ‹_›)))
        have hr4 := (hr2.drew.bl hb2).bl hb3
        have hz3 : w1.heap.size < w2.heap.size := Nat.lt_of_lt_of_le hx2.drew.lt (Bl.size hb2)
        have hG := OwR.exc2 hR5 hz3 (show w.heap.size + 1 ≤ w2.heap.size by omega)
        go_wp2_with fail
        go_roundw
        case rel => exact ⟨k + 1, s5, A5, n5, c5, B5, m5, d5, by omega, by go_num, (Wk.of hx4 rfl).put3 _ _ _, ((hG.set _ _).set _ _).set _ _, ((hr4.far (by simp; omega) _).far (by simp; omega) _).far (by simp; omega) _, (by repeat (first | with_reducible assumption | with_reducible exact Bl.refl _ | (with_reducible refine Bl.set ?_ (by simp <;> omega) _) | (with_reducible refine Bl.drewN ?_ _) | (with_reducible refine Bl.drew ?_) | (with_reducible refine Bl.alloc ?_ _) | (with_reducible refine Bl.next ?_ ‹_›)))⟩
        case measure => simp [intOf]; omega
      · obtain rfl : k = n := by omega
        obtain ⟨i0, i1, i2⟩ := bx3 hx
        rw [← hv.out] at hO
        have hR := hO.ow
        have hbW := hbw
        obtain ⟨v0, x0⟩ := hr.val_ (i := 0) (by omega)
        obtain ⟨v1, x1⟩ := hr.val_ (i := 1) (by omega)
        obtain ⟨v2, x2⟩ := hr.val_ (i := 2) (by omega)
        have hg := hr.lt
        obtain ⟨cs4, hB4, hc4⟩ := hr
        have hf0 := hB4.frozen 0
        have hf1 := hB4.frozen 1
        have hf2 := hB4.frozen 2
        go_wp2_with fail
        exact bodyPost_ret (v := .agg #[.bool s, .slice A1 n1 c1, .slice B1 m1 d1]) (by simp [results, Try.results25, go_sem, x0, x1, x2]) rfl ⟨_, _, _, _, _, _, _, rfl, (((hR.far (by simp) _).far (by simp) _).far (by simp) _).mono (by omega), (by repeat (first | with_reducible assumption | with_reducible exact Bl.refl _ | (with_reducible refine Bl.set ?_ (by simp <;> omega) _) | (with_reducible refine Bl.drewN ?_ _) | (with_reducible refine Bl.drew ?_) | (with_reducible refine Bl.alloc ?_ _) | (with_reducible refine Bl.next ?_ ‹_›)))⟩
  · have hl : ¬ l.length = l'.length := by rw [ha.len, hb.len]; exact hnm
    have hval := Lib.hid (show innR l l' = zR by unfold innR; rw [if_neg hl])
    have hne : ((n : Int) != (m : Int)) = true := by simp; omega
    clear hl hnm
    go_enter Try.func25, Try.ntmps25
    go_wp2_with fail
    exact bodyPost_ret (v := .agg #[.bool false, .slice none 0 0, .slice none 0 0]) (by simp [results, Try.results25, go_sem]) rfl ⟨_, _, _, _, _, _, _, rfl, by rw [hval.out]; exact OwR.zero _ _ _, (by repeat (first | with_reducible assumption | with_reducible exact Bl.refl _ | (with_reducible refine Bl.set ?_ (by simp <;> omega) _) | (with_reducible refine Bl.drewN ?_ _) | (with_reducible refine Bl.drew ?_) | (with_reducible refine Bl.alloc ?_ _) | (with_reducible refine Bl.next ?_ ‹_›)))⟩

set_option maxRecDepth 100000 in
set_option maxHeartbeats 2000000 in
theorem sInnerVector_any (w : World) {A B : Option Addr} {n c m d : Nat} {l l' : List RatD} (ha : RdRS w A n c l) (hb : RdRS w B m d l') :
    Calls Try.prog 23 #[.slice A n c, .slice B m d] w fun e w' => ∃ s1 A1 n1 c1 B1 m1 d1, e = .returned (.agg #[.bool s1, .slice A1 n1 c1, .slice B1 m1 d1]) ∧ OwR 3 w.heap.size w' s1 A1 n1 c1 B1 m1 d1 (innR l l') ∧ Bl w w' := by
  have hna := ha.small
  have hnb := hb.small
  by_cases hnm : n = m
  · subst hnm
    have hl := ha.len
    have hv := Lib.hid (show innR l l' = accR l l' n by unfold innR; rw [if_pos (by rw [ha.len, hb.len]), hl])
    clear hl
    go_enter Try.func23, Try.ntmps23
    go_wp2_with fail
    refine calls_gen (fun W => Bl w W ∧ Wk 3 48 (w.heap.size) W) ⟨(by repeat (first | with_reducible assumption | with_reducible exact Bl.refl _ | (with_reducible refine Bl.set ?_ (by simp <;> omega) _) | (with_reducible refine Bl.drewN ?_ _) | (with_reducible refine Bl.drew ?_) | (with_reducible refine Bl.alloc ?_ _) | (with_reducible refine Bl.next ?_ ‹_›))), (by repeat (first | with_reducible assumption | with_reducible exact Blk.new _ _ _ | with_reducible exact Blk.new1 _ _ _ _ | with_reducible exact Blk.new2 _ _ _ _ _ | with_reducible exact Wk.of (Blk.new _ _ _) rfl | with_reducible exact Wk.of (Blk.new1 _ _ _ _) rfl | with_reducible exact Wk.of (Blk.new2 _ _ _ _ _) rfl | (with_reducible refine Blk.drew ?_) | (with_reducible refine Blk.drewN ?_ _) | (with_reducible refine Wk.drew ?_) | (with_reducible refine Wk.drewN ?_ _) | (with_reducible refine Blk.alloc ?_ _) | (with_reducible refine Wk.alloc ?_ _) | (with_reducible refine Wk.set ?_ _ _) | (with_reducible refine Blk.far ?_ (by simp <;> omega) _) | (with_reducible refine Wk.far ?_ (by simp <;> omega) _) | (with_reducible refine Blk.bl ?_ ‹Bl _ _›) | (with_reducible refine Wk.bl ?_ ‹Bl _ _›)))⟩ ?_
    rintro W ⟨hbW, hr⟩
    refine (sRatFromInt_any _ 0 (by omega) (by omega)).mono ?_
    rintro e w1 ⟨s0, A0, n0, c0, B0, m0, d0, rfl, hR0, hb1⟩
    have hz := hr.lt
    have hr := hr.bl hb1
    have hbW := hbW.next hb1
    have hR0 := hR0.mono (show w.heap.size + 1 ≤ W.heap.size from hz)
    have hz1 : w.heap.size < w1.heap.size := hr.lt
    clear hb1
    go_wp2_with fail
    go_loopw [17] (fun i wr => ∃ (k : Nat) (s : Bool) (A1 : Option Addr) (n1 c1 : Nat) (B1 : Option Addr) (m1 d1 : Nat), k ≤ n ∧ i = .int .i64 (k : Int) ∧ Blk wr w1.heap.size 48 #[.bool s, .slice A1 n1 c1, .slice B1 m1 d1] ∧ OwG 3 (w.heap.size + 1) w1.heap.size wr s A1 n1 c1 B1 m1 d1 (accR l l' k) ∧ Wk 3 48 w.heap.size wr ∧ Bl w wr) (fun i _ => n - (intOf i).toNat)
    case atStart => exact ⟨0, s0, A0, n0, c0, B0, m0, d0, Nat.zero_le _, rfl, Blk.new _ _ _, hR0.exc ((Bl.refl w1).alloc _), hr.alloc _, hbW.alloc _⟩
    case round =>
      clear hr hbW hR0 hz
      obtain ⟨k, s, A1, n1, c1, B1, m1, d1, hk, rfl, hx, hO, hr, hbw⟩ := hrel
      by_cases hkn : k < n
      · have hki : (k : Int) < (n : Int) := by omega
        obtain ⟨ad, rfl, hlta, hca⟩ := ha.cells k hkn
        obtain ⟨bd, rfl, hltb, hcb⟩ := hb.cells k hkn
        obtain ⟨s3, A3, n3, c3, B3, m3, d3, ⟨g0, g1, g2⟩, hu⟩ := hca.bl (by rw [block_add]; exact hlta) hbw
        obtain ⟨s2, A2, n2, c2, B2, m2, d2, ⟨p0, p1, p2⟩, hvv⟩ := hcb
        have hgl := hx.lt
        have hvlt : (bd.add (k * 3)).block < w.heap.size := by rw [block_add]; exact hltb
        replace p0 := Lib.hid p0
        replace p1 := Lib.hid p1
        replace p2 := Lib.hid p2
        have hacc := hO.rd
        clear hO
        go_wp2_with fail
        refine wp_gen (fun W => Bl w W ∧ wr.heap.size < W.heap.size ∧ Blk W w1.heap.size 48 #[.bool s, .slice A1 n1 c1, .slice B1 m1 d1] ∧ Blk W wr.heap.size 48 #[.bool s3, .slice A3 n3 c3, .slice B3 m3 d3] ∧ Wk 3 48 w.heap.size W ∧ RdR W s A1 n1 c1 B1 m1 d1 (accR l l' k) ∧ RdR W s3 A3 n3 c3 B3 m3 d3 (pix l k)) ⟨(by repeat (first | with_reducible assumption | with_reducible exact Bl.refl _ | (with_reducible refine Bl.set ?_ (by simp <;> omega) _) | (with_reducible refine Bl.drewN ?_ _) | (with_reducible refine Bl.drew ?_) | (with_reducible refine Bl.alloc ?_ _) | (with_reducible refine Bl.next ?_ ‹_›))), by simp, hx.alloc _, Blk.new _ _ _, hr.alloc _, hacc.alloc _, hu.alloc _⟩ ?_
        clear g0 g1 g2 hacc hu hr hx hbw
        rintro W ⟨hbr, hgw, hx2, hx3, hr2, hacc, hu2⟩
        replace p0 := p0.out
        replace p1 := p1.out
        replace p2 := p2.out
        have hHeld : (fun w' => (w'.cell? ⟨w1.heap.size, 0, none⟩ = some (.bool s) ∧ w'.cell? ⟨w1.heap.size, 1, none⟩ = some (.slice A1 n1 c1) ∧ w'.cell? ⟨w1.heap.size, 2, none⟩ = some (.slice B1 m1 d1)) ∧ (w'.cell? ⟨wr.heap.size, 0, none⟩ = some (.bool s3) ∧ w'.cell? ⟨wr.heap.size, 1, none⟩ = some (.slice A3 n3 c3) ∧ w'.cell? ⟨wr.heap.size, 2, none⟩ = some (.slice B3 m3 d3)) ∧ (w'.cell? (bd.add (k * 3)) = some (.bool s2) ∧ w'.cell? ⟨(bd.add (k * 3)).block, (bd.add (k * 3)).off + 1, none⟩ = some (.slice A2 n2 c2) ∧ w'.cell? ⟨(bd.add (k * 3)).block, (bd.add (k * 3)).off + 2, none⟩ = some (.slice B2 m2 d2))) (W.drew) := ⟨bx3 (T := 48) (by repeat (first | with_reducible assumption | with_reducible exact Blk.new _ _ _ | with_reducible exact Blk.new1 _ _ _ _ | with_reducible exact Blk.new2 _ _ _ _ _ | with_reducible exact Wk.of (Blk.new _ _ _) rfl | with_reducible exact Wk.of (Blk.new1 _ _ _ _) rfl | with_reducible exact Wk.of (Blk.new2 _ _ _ _ _) rfl | (with_reducible refine Blk.drew ?_) | (with_reducible refine Blk.drewN ?_ _) | (with_reducible refine Wk.drew ?_) | (with_reducible refine Wk.drewN ?_ _) | (with_reducible refine Blk.alloc ?_ _) | (with_reducible refine Wk.alloc ?_ _) | (with_reducible refine Wk.set ?_ _ _) | (with_reducible refine Blk.far ?_ (by simp <;> omega) _) | (with_reducible refine Wk.far ?_ (by simp <;> omega) _) | (with_reducible refine Blk.bl ?_ ‹Bl _ _›) | (with_reducible refine Wk.bl ?_ ‹Bl _ _›))), bx3 (T := 48) (by repeat (first | with_reducible assumption | with_reducible exact Blk.new _ _ _ | with_reducible exact Blk.new1 _ _ _ _ | with_reducible exact Blk.new2 _ _ _ _ _ | with_reducible exact Wk.of (Blk.new _ _ _) rfl | with_reducible exact Wk.of (Blk.new1 _ _ _ _) rfl | with_reducible exact Wk.of (Blk.new2 _ _ _ _ _) rfl | (with_reducible refine Blk.drew ?_) | (with_reducible refine Blk.drewN ?_ _) | (with_reducible refine Wk.drew ?_) | (with_reducible refine Wk.drewN ?_ _) | (with_reducible refine Blk.alloc ?_ _) | (with_reducible refine Wk.alloc ?_ _) | (with_reducible refine Wk.set ?_ _ _) | (with_reducible refine Blk.far ?_ (by simp <;> omega) _) | (with_reducible refine Wk.far ?_ (by simp <;> omega) _) | (with_reducible refine Blk.bl ?_ ‹Bl _ _›) | (with_reducible refine Wk.bl ?_ ‹Bl _ _›))), ⟨(Bl.cellOf (w := w) (by repeat (first | with_reducible assumption | with_reducible exact Bl.refl _ | (with_reducible refine Bl.set ?_ (by simp <;> omega) _) | (with_reducible refine Bl.drewN ?_ _) | (with_reducible refine Bl.drew ?_) | (with_reducible refine Bl.alloc ?_ _) | (with_reducible refine Bl.next ?_ ‹_›))) hvlt).trans p0, (Bl.cellOf (w := w) (p := ⟨(bd.add (k * 3)).block, (bd.add (k * 3)).off + 1, none⟩) (by repeat (first | with_reducible assumption | with_reducible exact Bl.refl _ | (with_reducible refine Bl.set ?_ (by simp <;> omega) _) | (with_reducible refine Bl.drewN ?_ _) | (with_reducible refine Bl.drew ?_) | (with_reducible refine Bl.alloc ?_ _) | (with_reducible refine Bl.next ?_ ‹_›))) hvlt).trans p1, (Bl.cellOf (w := w) (p := ⟨(bd.add (k * 3)).block, (bd.add (k * 3)).off + 2, none⟩) (by repeat (first | with_reducible assumption | with_reducible exact Bl.refl _ | (with_reducible refine Bl.set ?_ (by simp <;> omega) _) | (with_reducible refine Bl.drewN ?_ _) | (with_reducible refine Bl.drew ?_) | (with_reducible refine Bl.alloc ?_ _) | (with_reducible refine Bl.next ?_ ‹_›))) hvlt).trans p2⟩⟩
        refine wp_region_T 8 9 (fun w' => (w'.cell? ⟨w1.heap.size, 0, none⟩ = some (.bool s) ∧ w'.cell? ⟨w1.heap.size, 1, none⟩ = some (.slice A1 n1 c1) ∧ w'.cell? ⟨w1.heap.size, 2, none⟩ = some (.slice B1 m1 d1)) ∧ (w'.cell? ⟨wr.heap.size, 0, none⟩ = some (.bool s3) ∧ w'.cell? ⟨wr.heap.size, 1, none⟩ = some (.slice A3 n3 c3) ∧ w'.cell? ⟨wr.heap.size, 2, none⟩ = some (.slice B3 m3 d3)) ∧ (w'.cell? (bd.add (k * 3)) = some (.bool s2) ∧ w'.cell? ⟨(bd.add (k * 3)).block, (bd.add (k * 3)).off + 1, none⟩ = some (.slice A2 n2 c2) ∧ w'.cell? ⟨(bd.add (k * 3)).block, (bd.add (k * 3)).off + 2, none⟩ = some (.slice B2 m2 d2))) rfl (by kernel_rfl) hHeld ?_
        refine wpAnyT_take (i := 0) (oi := _) (v := ?_) (fuel := 8) rfl (by kernel_rfl) (by kernel_rfl) (by kernel_rfl) (by kernel_rfl) (fun _ _ _ h => h) (by rfl) ?_ hHeld ?_
        rotate_left 1
        · (intro w' hSw; (try dsimp only at hSw); go_simp <;> with_reducible rfl)
        refine wpAnyT_take (i := 1) (oi := _) (v := ?_) (fuel := 7) rfl (by kernel_rfl) (by kernel_rfl) (by kernel_rfl) (by kernel_rfl) (fun _ _ _ h => h) (by rfl) ?_ hHeld ?_
        rotate_left 1
        · (intro w' hSw; (try dsimp only at hSw); go_simp <;> with_reducible rfl)
        refine wpAnyT_take (i := 2) (oi := _) (v := ?_) (fuel := 6) rfl (by kernel_rfl) (by kernel_rfl) (by kernel_rfl) (by kernel_rfl) (fun _ _ _ h => h) (by rfl) ?_ hHeld ?_
        rotate_left 1
        · (intro w' hSw; (try dsimp only at hSw); go_simp <;> with_reducible rfl)
        refine wpAnyT_take (i := 3) (oi := _) (v := ?_) (fuel := 5) rfl (by kernel_rfl) (by kernel_rfl) (by kernel_rfl) (by kernel_rfl) (fun _ _ _ h => h) (by rfl) ?_ hHeld ?_
        rotate_left 1
        · (intro w' hSw; (try dsimp only at hSw); go_simp <;> with_reducible rfl)
        refine wpAnyT_take (i := 4) (oi := _) (v := ?_) (fuel := 4) rfl (by kernel_rfl) (by kernel_rfl) (by kernel_rfl) (by kernel_rfl) (fun _ _ _ h => h) (by rfl) ?_ hHeld ?_
        rotate_left 1
        · (intro w' hSw; (try dsimp only at hSw); go_simp <;> with_reducible rfl)
        refine wpAnyT_take (i := 5) (oi := _) (v := ?_) (fuel := 3) rfl (by kernel_rfl) (by kernel_rfl) (by kernel_rfl) (by kernel_rfl) (fun _ _ _ h => h) (by rfl) ?_ hHeld ?_
        rotate_left 1
        · (intro w' hSw; (try dsimp only at hSw); go_simp <;> with_reducible rfl)
        clear hHeld
        simp only [Act.put, List.setIfInBounds_toArray]
        refine wpAnyT_step (i := 6) (o := _) (fuel := 2) rfl (by kernel_rfl) (fun K hK => ?_)
        go_simp
        refine (sRatMul_any _ (hu2.bl (by repeat (first | with_reducible assumption | with_reducible exact Bl.refl _ | (with_reducible refine Bl.set ?_ (by simp <;> omega) _) | (with_reducible refine Bl.drewN ?_ _) | (with_reducible refine Bl.drew ?_) | (with_reducible refine Bl.alloc ?_ _) | (with_reducible refine Bl.next ?_ ‹_›)))) (hvv.bl (by repeat (first | with_reducible assumption | with_reducible exact Bl.refl _ | (with_reducible refine Bl.set ?_ (by simp <;> omega) _) | (with_reducible refine Bl.drewN ?_ _) | (with_reducible refine Bl.drew ?_) | (with_reducible refine Bl.alloc ?_ _) | (with_reducible refine Bl.next ?_ ‹_›))))).mono ?_
        rintro e w2 ⟨s4, A4, n4, c4, B4, m4, d4, rfl, hR4, hb2⟩
        refine hK.out _ _ (fun _ => ⟨bx3 (T := 48) (by repeat (first | with_reducible assumption | with_reducible exact Blk.new _ _ _ | with_reducible exact Blk.new1 _ _ _ _ | with_reducible exact Blk.new2 _ _ _ _ _ | with_reducible exact Wk.of (Blk.new _ _ _) rfl | with_reducible exact Wk.of (Blk.new1 _ _ _ _) rfl | with_reducible exact Wk.of (Blk.new2 _ _ _ _ _) rfl | (with_reducible refine Blk.drew ?_) | (with_reducible refine Blk.drewN ?_ _) | (with_reducible refine Wk.drew ?_) | (with_reducible refine Wk.drewN ?_ _) | (with_reducible refine Blk.alloc ?_ _) | (with_reducible refine Wk.alloc ?_ _) | (with_reducible refine Wk.set ?_ _ _) | (with_reducible refine Blk.far ?_ (by simp <;> omega) _) | (with_reducible refine Wk.far ?_ (by simp <;> omega) _) | (with_reducible refine Blk.bl ?_ ‹Bl _ _›) | (with_reducible refine Wk.bl ?_ ‹Bl _ _›))), bx3 (T := 48) (by repeat (first | with_reducible assumption | with_reducible exact Blk.new _ _ _ | with_reducible exact Blk.new1 _ _ _ _ | with_reducible exact Blk.new2 _ _ _ _ _ | with_reducible exact Wk.of (Blk.new _ _ _) rfl | with_reducible exact Wk.of (Blk.new1 _ _ _ _) rfl | with_reducible exact Wk.of (Blk.new2 _ _ _ _ _) rfl | (with_reducible refine Blk.drew ?_) | (with_reducible refine Blk.drewN ?_ _) | (with_reducible refine Wk.drew ?_) | (with_reducible refine Wk.drewN ?_ _) | (with_reducible refine Blk.alloc ?_ _) | (with_reducible refine Wk.alloc ?_ _) | (with_reducible refine Wk.set ?_ _ _) | (with_reducible refine Blk.far ?_ (by simp <;> omega) _) | (with_reducible refine Wk.far ?_ (by simp <;> omega) _) | (with_reducible refine Blk.bl ?_ ‹Bl _ _›) | (with_reducible refine Wk.bl ?_ ‹Bl _ _›))), ⟨(Bl.cellOf (w := w) (by repeat (first | with_reducible assumption | with_reducible exact Bl.refl _ | (with_reducible refine Bl.set ?_ (by simp <;> omega) _) | (with_reducible refine Bl.drewN ?_ _) | (with_reducible refine Bl.drew ?_) | (with_reducible refine Bl.alloc ?_ _) | (with_reducible refine Bl.next ?_ ‹_›))) hvlt).trans p0, (Bl.cellOf (w := w) (p := ⟨(bd.add (k * 3)).block, (bd.add (k * 3)).off + 1, none⟩) (by repeat (first | with_reducible assumption | with_reducible exact Bl.refl _ | (with_reducible refine Bl.set ?_ (by simp <;> omega) _) | (with_reducible refine Bl.drewN ?_ _) | (with_reducible refine Bl.drew ?_) | (with_reducible refine Bl.alloc ?_ _) | (with_reducible refine Bl.next ?_ ‹_›))) hvlt).trans p1, (Bl.cellOf (w := w) (p := ⟨(bd.add (k * 3)).block, (bd.add (k * 3)).off + 2, none⟩) (by repeat (first | with_reducible assumption | with_reducible exact Bl.refl _ | (with_reducible refine Bl.set ?_ (by simp <;> omega) _) | (with_reducible refine Bl.drewN ?_ _) | (with_reducible refine Bl.drew ?_) | (with_reducible refine Bl.alloc ?_ _) | (with_reducible refine Bl.next ?_ ‹_›))) hvlt).trans p2⟩⟩) ?_
        clear hK K
        try simp only [Act.put, List.setIfInBounds_toArray, List.set_cons_zero, List.set_cons_succ]
        refine wpAnyT_step (i := 7) (o := _) (fuel := 1) rfl (by kernel_rfl) (fun K hK => ?_)
        go_simp
        refine (sRatAdd_any _ (hacc.bl (by repeat (first | with_reducible assumption | with_reducible exact Bl.refl _ | (with_reducible refine Bl.set ?_ (by simp <;> omega) _) | (with_reducible refine Bl.drewN ?_ _) | (with_reducible refine Bl.drew ?_) | (with_reducible refine Bl.alloc ?_ _) | (with_reducible refine Bl.next ?_ ‹_›)))) hR4.rd).mono ?_
        rintro e w3 ⟨s5, A5, n5, c5, B5, m5, d5, rfl, hR5, hb3⟩
        refine hK.out _ _ (fun _ => ⟨bx3 (T := 48) (by repeat (first | with_reducible assumption | with_reducible exact Blk.new _ _ _ | with_reducible exact Blk.new1 _ _ _ _ | with_reducible exact Blk.new2 _ _ _ _ _ | with_reducible exact Wk.of (Blk.new _ _ _) rfl | with_reducible exact Wk.of (Blk.new1 _ _ _ _) rfl | with_reducible exact Wk.of (Blk.new2 _ _ _ _ _) rfl | (with_reducible refine Blk.drew ?_) | (with_reducible refine Blk.drewN ?_ _) | (with_reducible refine Wk.drew ?_) | (with_reducible refine Wk.drewN ?_ _) | (with_reducible refine Blk.alloc ?_ _) | (with_reducible refine Wk.alloc ?_ _) | (with_reducible refine Wk.set ?_ _ _) | (with_reducible refine Blk.far ?_ (by simp <;> omega) _) | (with_reducible refine Wk.far ?_ (by simp <;> omega) _) | (with_reducible refine Blk.bl ?_ ‹Bl _ _›) | (with_reducible refine Wk.bl ?_ ‹Bl _ _›))), bx3 (T := 48) (by repeat (first | with_reducible assumption | with_reducible exact Blk.new _ _ _ | with_reducible exact Blk.new1 _ _ _ _ | with_reducible exact Blk.new2 _ _ _ _ _ | with_reducible exact Wk.of (Blk.new _ _ _) rfl | with_reducible exact Wk.of (Blk.new1 _ _ _ _) rfl | with_reducible exact Wk.of (Blk.new2 _ _ _ _ _) rfl | (with_reducible refine Blk.drew ?_) | (with_reducible refine Blk.drewN ?_ _) | (with_reducible refine Wk.drew ?_) | (with_reducible refine Wk.drewN ?_ _) | (with_reducible refine Blk.alloc ?_ _) | (with_reducible refine Wk.alloc ?_ _) | (with_reducible refine Wk.set ?_ _ _) | (with_reducible refine Blk.far ?_ (by simp <;> omega) _) | (with_reducible refine Wk.far ?_ (by simp <;> omega) _) | (with_reducible refine Blk.bl ?_ ‹Bl _ _›) | (with_reducible refine Wk.bl ?_ ‹Bl _ _›))), ⟨(Bl.cellOf (w := w) (by repeat (first | with_reducible assumption | with_reducible exact Bl.refl _ | (with_reducible refine Bl.set ?_ (by simp <;> omega) _) | (with_reducible refine Bl.drewN ?_ _) | (with_reducible refine Bl.drew ?_) | (with_reducible refine Bl.alloc ?_ _) | (with_reducible refine Bl.next ?_ ‹_›))) hvlt).trans p0, (Bl.cellOf (w := w) (p := ⟨(bd.add (k * 3)).block, (bd.add (k * 3)).off + 1, none⟩) (by repeat (first | with_reducible assumption | with_reducible exact Bl.refl _ | (with_reducible refine Bl.set ?_ (by simp <;> omega) _) | (with_reducible refine Bl.drewN ?_ _) | (with_reducible refine Bl.drew ?_) | (with_reducible refine Bl.alloc ?_ _) | (with_reducible refine Bl.next ?_ ‹_›))) hvlt).trans p1, (Bl.cellOf (w := w) (p := ⟨(bd.add (k * 3)).block, (bd.add (k * 3)).off + 2, none⟩) (by repeat (first | with_reducible assumption | with_reducible exact Bl.refl _ | (with_reducible refine Bl.set ?_ (by simp <;> omega) _) | (with_reducible refine Bl.drewN ?_ _) | (with_reducible refine Bl.drew ?_) | (with_reducible refine Bl.alloc ?_ _) | (with_reducible refine Bl.next ?_ ‹_›))) hvlt).trans p2⟩⟩) ?_
        clear hK K
        try simp only [Act.put, List.setIfInBounds_toArray, List.set_cons_zero, List.set_cons_succ]
        have hx4 := (hx2.drew.bl hb2).bl hb3
        obtain ⟨z0, z1, z2⟩ := bx3 hx4
        obtain ⟨y0, y1, y2⟩ := fz3 hx4
        refine wpAnyT_step (i := 8) (o := _) (fuel := 0) rfl (by kernel_rfl) (fun K hK => ?_)
        go_simp
        refine hK.out _ _ (fun h => absurd rfl h) ?_
        clear hK K
        try simp only [Act.put, List.setIfInBounds_toArray, List.set_cons_zero, List.set_cons_succ]
        refine wpAnyT_done (by kernel_rfl) ?_
        have hb23 : Bl w w3 := (by repeat (first | with_reducible assumption | with_reducible exact Bl.refl _ | (with_reducible refine Bl.set ?_ (by simp <;> omega) _) | (with_reducible refine Bl.drewN ?_ _) | (with_reducible refine Bl.drew ?_) | (with_reducible refine Bl.alloc ?_ _) | (with_reducible refine Bl.next ?_ ‹_›)))
        have hr4 := (hr2.drew.bl hb2).bl hb3
        have hz3 : w1.heap.size < w2.heap.size := Nat.lt_of_lt_of_le hx2.drew.lt (Bl.size hb2)
        have hG := OwR.exc2 hR5 hz3 (show w.heap.size + 1 ≤ w2.heap.size by omega)
        go_wp2_with fail
        go_roundw
        case rel => exact ⟨k + 1, s5, A5, n5, c5, B5, m5, d5, by omega, by go_num, (Wk.of hx4 rfl).put3 _ _ _, ((hG.set _ _).set _ _).set _ _, ((hr4.far (by simp; omega) _).far (by simp; omega) _).far (by simp; omega) _, (by repeat (first | with_reducible assumption | with_reducible exact Bl.refl _ | (with_reducible refine Bl.set ?_ (by simp <;> omega) _) | (with_reducible refine Bl.drewN ?_ _) | (with_reducible refine Bl.drew ?_) | (with_reducible refine Bl.alloc ?_ _) | (with_reducible refine Bl.next ?_ ‹_›)))⟩
        case measure => simp [intOf]; omega
      · obtain rfl : k = n := by omega
        obtain ⟨i0, i1, i2⟩ := bx3 hx
        rw [← hv.out] at hO
        have hR := hO.ow
        have hbW := hbw
        obtain ⟨v0, x0⟩ := hr.val_ (i := 0) (by omega)
        obtain ⟨v1, x1⟩ := hr.val_ (i := 1) (by omega)
        obtain ⟨v2, x2⟩ := hr.val_ (i := 2) (by omega)
        have hg := hr.lt
        obtain ⟨cs4, hB4, hc4⟩ := hr
        have hf0 := hB4.frozen 0
        have hf1 := hB4.frozen 1
        have hf2 := hB4.frozen 2
        go_wp2_with fail
        exact bodyPost_ret (v := .agg #[.bool s, .slice A1 n1 c1, .slice B1 m1 d1]) (by simp [results, Try.results23, go_sem, x0, x1, x2]) rfl ⟨_, _, _, _, _, _, _, rfl, (((hR.far (by simp) _).far (by simp) _).far (by simp) _).mono (by omega), (by repeat (first | with_reducible assumption | with_reducible exact Bl.refl _ | (with_reducible refine Bl.set ?_ (by simp <;> omega) _) | (with_reducible refine Bl.drewN ?_ _) | (with_reducible refine Bl.drew ?_) | (with_reducible refine Bl.alloc ?_ _) | (with_reducible refine Bl.next ?_ ‹_›)))⟩
  · have hl : ¬ l.length = l'.length := by rw [ha.len, hb.len]; exact hnm
    have hval := Lib.hid (show innR l l' = zR by unfold innR; rw [if_neg hl])
    have hne : ((n : Int) != (m : Int)) = true := by simp; omega
    clear hl hnm
    go_enter Try.func23, Try.ntmps23
    go_wp2_with fail
    exact bodyPost_ret (v := .agg #[.bool false, .slice none 0 0, .slice none 0 0]) (by simp [results, Try.results23, go_sem]) rfl ⟨_, _, _, _, _, _, _, rfl, by rw [hval.out]; exact OwR.zero _ _ _, (by repeat (first | with_reducible assumption | with_reducible exact Bl.refl _ | (with_reducible refine Bl.set ?_ (by simp <;> omega) _) | (with_reducible refine Bl.drewN ?_ _) | (with_reducible refine Bl.drew ?_) | (with_reducible refine Bl.alloc ?_ _) | (with_reducible refine Bl.next ?_ ‹_›)))⟩

end Go.Proofs.Ythgielbhcjpikaa
