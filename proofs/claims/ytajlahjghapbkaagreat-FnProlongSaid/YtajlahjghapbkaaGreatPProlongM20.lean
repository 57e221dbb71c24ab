/- Lemmas. -/
import Derived.Test.YtajlahjghapbkaaGreatRows
import Derived.Test.YtajlahjghapbkaaGreatPProlongM19
import Derived.Test.YtajlahjghapbkaaGreatPProlongM03
import Derived.Test.YtajlahjghapbkaaGreatPProlongM18
import Derived.Test.YtajlahjghapbkaaGreatPProlongM13
import Derived.Test.YtajlahjghapbkaaGreatPProlongM10
namespace Go.Proofs.YtajlahjghapbkaaGreat
section
open Go.RowKit
def rg (a y x : Nat) : Nat → Int
  | 0 => (y : Int) * ((a : Int) + 1) + x
  | 1 => (y : Int) * ((a : Int) + 1) + x + 1
  | 2 => (y : Int) * ((a : Int) + 1) + x + a + 2
  | 3 => (y : Int) * ((a : Int) + 1) + x + a + 1
  | _ => (y : Int) * ((a : Int) + 1) + x
noncomputable def gpt (x y : Nat) : PtD := ⟨ofFrac (x : Int) 1, ofFrac (y : Int) 1⟩
noncomputable def hpt (x y : Nat) : PtD := ⟨ofFrac (2 * (x : Int) + 1) 2, ofFrac (2 * (y : Int) + 1) 2⟩
theorem RowG.shapeN {α : Type} [Inhabited α] {N : List Nat → Prop} {TP : TypeId} {size lo hi : Nat} {El : World → Array Value → Nat → α → List Nat → Prop} {w : World} {v : Value} {l : List α} (h : RowG N TP size El lo hi w v l) : ∃ A c, v = .slice A l.length c := by
  obtain ⟨_, _, h1, _⟩ := h
  rcases h1.2 with ⟨rfl, h0⟩ | ⟨g, cap, cur, rfl, _⟩
  · exact ⟨_, _, by rw [h0]⟩
  · exact ⟨_, _, rfl⟩
theorem OwMZ.nil (lo hi : Nat) (w : World) : OwMZ lo hi w none 0 0 none 0 0 ⟨[], []⟩ := ⟨rfl, rfl, Nat.le_refl _, Nat.le_refl _, Nat.zero_le _, Nat.zero_le _, .inl ⟨rfl, rfl⟩⟩
/-- The four pairs of the reference's list. -/
def pairsA (gr : Nat) : Array Value := #[.slice (some ⟨gr + 0, 0, none⟩) 2 2, .slice (some ⟨gr + 1, 0, none⟩) 2 2, .slice (some ⟨gr + 2, 0, none⟩) 2 2, .slice (some ⟨gr + 3, 0, none⟩) 2 2]
def LitQ (a y x gr : Nat) (W : World) : Prop := Blk W (gr + 4) 25 (pairsA gr) ∧ ∀ k, k < 4 → Blk W (gr + k) 3 #[.int .i64 (rg a y x k), .int .i64 (rg a y x (k + 1))]
theorem LitQ.keep {a y x gr : Nat} {w W : World} (h : LitQ a y x gr w) (hk : ∀ g, gr ≤ g → g ≤ gr + 4 → W.heap[g]? = w.heap[g]?) : LitQ a y x gr W :=
  ⟨(hk _ (by omega) (by omega)).trans h.1, fun k hk2 => (hk _ (by omega) (by omega)).trans (h.2 k hk2)⟩
end

section
open Go.RowKit

noncomputable def accR (l l' : List RatD) : Nat → RatD
  | 0 => ofFrac 0 1
  | k + 1 => addR (accR l l' k) (mulR (pix l k) (pix l' k))
noncomputable def innR (l l' : List RatD) : RatD := if l.length = l'.length then accR l l' l.length else zR
/-- A fraction in memory of its own from block b0 on, none of it in block g. -/
def OwG (T : TypeId) (b0 g : Nat) (w : World) (s : Bool) (A : Option Addr) (n c : Nat) (B : Option Addr) (m d : Nat) (r : RatD) : Prop :=
  ∃ bs, FtR T w s A n c B m d r bs ∧ Fp b0 w.heap.size bs ∧ g ∉ bs
section
variable {T : TypeId} {b0 b1 g : Nat} {w W : World} {s : Bool} {A : Option Addr} {n c : Nat} {B : Option Addr} {m d : Nat} {r : RatD}
theorem OwG.rd (h : OwG T b0 g w s A n c B m d r) : RdR w s A n c B m d r := by
  obtain ⟨bs, h, _⟩ := h
  exact h.rd
theorem OwG.ow (h : OwG T b0 g w s A n c B m d r) : OwR T b0 w s A n c B m d r := by
  obtain ⟨bs, h, hf, _⟩ := h
  exact ⟨bs, h, hf⟩
theorem OwG.set (h : OwG T b0 g w s A n c B m d r) (i : Nat) (u : Value) : OwG T b0 g (w.setCell ⟨g, i, none⟩ u) s A n c B m d r := by
  obtain ⟨bs, h, hf, hg⟩ := h
  exact ⟨bs, h.keep (by simp) (fun b hb => Below.heap_setCell w _ u b (by intro e; exact hg ((show b = g from e) ▸ hb))), hf.mono (Nat.le_refl _) (by simp), hg⟩
theorem OwR.exc (h : OwR T b0 w s A n c B m d r) (hb : Bl w W) : OwG T b0 w.heap.size W s A n c B m d r := by
  obtain ⟨bs, h, hf⟩ := h
  exact ⟨bs, h.bl hb, hf.mono (Nat.le_refl _) hb.size, fun hm => by have := (hf.2 _ hm).2; omega⟩
theorem OwR.exc2 (h : OwR T b1 w s A n c B m d r) (hg : g < b1) (hb : b0 ≤ b1) : OwG T b0 g w s A n c B m d r := by
  obtain ⟨bs, h, hf⟩ := h
  exact ⟨bs, h, hf.mono hb (Nat.le_refl _), fun hm => by have := (hf.2 _ hm).1; omega⟩
theorem fz3 {a b c : Value} (h : Blk W g T #[a, b, c]) : W.frozen? ⟨g, 0, none⟩ = false ∧ W.frozen? ⟨g, 1, none⟩ = false ∧ W.frozen? ⟨g, 2, none⟩ = false := ⟨h.frozen 0, h.frozen 1, h.frozen 2⟩
end

set_option maxRecDepth 100000 in
set_option maxHeartbeats 8000000 in
theorem InnerVector_any (w : World) {A B : Option Addr} {n c m d : Nat} {l l' : List RatD} (ha : RdRS w A n c l) (hb : RdRS w B m d l') :
    Calls Tryz.prog 62 #[.slice A n c, .slice B m d] w fun e w' => ∃ s1 A1 n1 c1 B1 m1 d1, e = .returned (.agg #[.bool s1, .slice A1 n1 c1, .slice B1 m1 d1]) ∧ OwR 3 w.heap.size w' s1 A1 n1 c1 B1 m1 d1 (innR l l') ∧ Bl w w' := by
  have hna := ha.small
  have hnb := hb.small
  by_cases hnm : n = m
  · subst hnm
    have hl := ha.len
    have hv := Lib.hid (show innR l l' = accR l l' n by unfold innR; rw [if_pos (by rw [ha.len, hb.len]), hl])
    clear hl
    go_enter Tryz.func62, Tryz.ntmps62
    go_wp2_with fail
    refine calls_gen (fun W => Bl w W ∧ Wk 3 29 (w.heap.size) W) ⟨slc, bts⟩ ?_
    rintro W ⟨hbW, hr⟩
    refine (RatFromInt_any _ 0 (by omega) (by omega)).mono ?_
    rintro e w1 ⟨s0, A0, n0, c0, B0, m0, d0, rfl, hR0, hb1⟩
    have hz := hr.lt
    have hr := hr.bl hb1
    have hbW := hbW.next hb1
    have hR0 := hR0.mono (show w.heap.size + 1 ≤ W.heap.size from hz)
    have hz1 : w.heap.size < w1.heap.size := hr.lt
    clear hb1
    go_wp2_with fail
    go_loopw [17] (fun i wr => ∃ (k : Nat) (s : Bool) (A1 : Option Addr) (n1 c1 : Nat) (B1 : Option Addr) (m1 d1 : Nat), k ≤ n ∧ i = .int .i64 (k : Int) ∧ Blk wr w1.heap.size 29 #[.bool s, .slice A1 n1 c1, .slice B1 m1 d1] ∧ OwG 3 (w.heap.size + 1) w1.heap.size wr s A1 n1 c1 B1 m1 d1 (accR l l' k) ∧ Wk 3 29 w.heap.size wr ∧ Bl w wr) (fun i _ => n - (intOf i).toNat)
    case atStart => exact ⟨0, s0, A0, n0, c0, B0, m0, d0, Nat.zero_le _, rfl, Blk.new _ _ _, hR0.exc ((Bl.refl w1).alloc _), hr.alloc _, hbW.alloc _⟩
    case round =>
      clear hr hbW hR0 hz
      obtain ⟨k, s, A1, n1, c1, B1, m1, d1, hk, rfl, hx, hO, hr, hbw⟩ := hrel
      by_cases hkn : k < n
      · have hki : (k : Int) < (n : Int) := by omega
        obtain ⟨ad, rfl, hlta, hca⟩ := ha.cells k hkn
        obtain ⟨bd, rfl, hltb, hcb⟩ := hb.cells k hkn
        obtain ⟨s3, A3, n3, c3, B3, m3, d3, ⟨g0, g1, g2⟩, hu⟩ := hca.bl (by rw [block_add]; exact hlta) hbw
        obtain ⟨s2, A2, n2, c2, B2, m2, d2, ⟨p0, p1, p2⟩, hvv⟩ := hcb
        have hgl := hx.lt
        have hvlt : (bd.add (k * 3)).block < w.heap.size := by rw [block_add]; exact hltb
        replace p0 := Lib.hid p0
        replace p1 := Lib.hid p1
        replace p2 := Lib.hid p2
        have hacc := hO.rd
        clear hO
        go_wp2_with fail
        refine wp_gen (fun W => Bl w W ∧ wr.heap.size < W.heap.size ∧ Blk W w1.heap.size 29 #[.bool s, .slice A1 n1 c1, .slice B1 m1 d1] ∧ Blk W wr.heap.size 29 #[.bool s3, .slice A3 n3 c3, .slice B3 m3 d3] ∧ Wk 3 29 w.heap.size W ∧ RdR W s A1 n1 c1 B1 m1 d1 (accR l l' k) ∧ RdR W s3 A3 n3 c3 B3 m3 d3 (pix l k)) ⟨slc, by simp, hx.alloc _, Blk.new _ _ _, hr.alloc _, hacc.alloc _, hu.alloc _⟩ ?_
        clear g0 g1 g2 hacc hu hr hx hbw
        rintro W ⟨hbr, hgw, hx2, hx3, hr2, hacc, hu2⟩
        replace p0 := p0.out
        replace p1 := p1.out
        replace p2 := p2.out
        have hHeld : (fun w' => (w'.cell? ⟨w1.heap.size, 0, none⟩ = some (.bool s) ∧ w'.cell? ⟨w1.heap.size, 1, none⟩ = some (.slice A1 n1 c1) ∧ w'.cell? ⟨w1.heap.size, 2, none⟩ = some (.slice B1 m1 d1)) ∧ (w'.cell? ⟨wr.heap.size, 0, none⟩ = some (.bool s3) ∧ w'.cell? ⟨wr.heap.size, 1, none⟩ = some (.slice A3 n3 c3) ∧ w'.cell? ⟨wr.heap.size, 2, none⟩ = some (.slice B3 m3 d3)) ∧ (w'.cell? (bd.add (k * 3)) = some (.bool s2) ∧ w'.cell? ⟨(bd.add (k * 3)).block, (bd.add (k * 3)).off + 1, none⟩ = some (.slice A2 n2 c2) ∧ w'.cell? ⟨(bd.add (k * 3)).block, (bd.add (k * 3)).off + 2, none⟩ = some (.slice B2 m2 d2))) (W.drew) := ⟨bx3 (T := 29) bts, bx3 (T := 29) bts, ⟨(Bl.cellOf (w := w) slc hvlt).trans p0, (Bl.cellOf (w := w) (p := ⟨(bd.add (k * 3)).block, (bd.add (k * 3)).off + 1, none⟩) slc hvlt).trans p1, (Bl.cellOf (w := w) (p := ⟨(bd.add (k * 3)).block, (bd.add (k * 3)).off + 2, none⟩) slc hvlt).trans p2⟩⟩
        refine wp_region_T 8 9 (fun w' => (w'.cell? ⟨w1.heap.size, 0, none⟩ = some (.bool s) ∧ w'.cell? ⟨w1.heap.size, 1, none⟩ = some (.slice A1 n1 c1) ∧ w'.cell? ⟨w1.heap.size, 2, none⟩ = some (.slice B1 m1 d1)) ∧ (w'.cell? ⟨wr.heap.size, 0, none⟩ = some (.bool s3) ∧ w'.cell? ⟨wr.heap.size, 1, none⟩ = some (.slice A3 n3 c3) ∧ w'.cell? ⟨wr.heap.size, 2, none⟩ = some (.slice B3 m3 d3)) ∧ (w'.cell? (bd.add (k * 3)) = some (.bool s2) ∧ w'.cell? ⟨(bd.add (k * 3)).block, (bd.add (k * 3)).off + 1, none⟩ = some (.slice A2 n2 c2) ∧ w'.cell? ⟨(bd.add (k * 3)).block, (bd.add (k * 3)).off + 2, none⟩ = some (.slice B2 m2 d2))) rfl (by kernel_rfl) hHeld ?_
        refine wpAnyT_take (i := 0) (oi := _) (v := ?_) (fuel := 8) rfl (by kernel_rfl) (by kernel_rfl) (by kernel_rfl) (by kernel_rfl) (fun _ _ _ h => h) (by rfl) ?_ hHeld ?_
        rotate_left 1
        · (intro w' hSw; (try dsimp only at hSw); go_simp <;> with_reducible rfl)
        refine wpAnyT_take (i := 1) (oi := _) (v := ?_) (fuel := 7) rfl (by kernel_rfl) (by kernel_rfl) (by kernel_rfl) (by kernel_rfl) (fun _ _ _ h => h) (by rfl) ?_ hHeld ?_
        rotate_left 1
        · (intro w' hSw; (try dsimp only at hSw); go_simp <;> with_reducible rfl)
        refine wpAnyT_take (i := 2) (oi := _) (v := ?_) (fuel := 6) rfl (by kernel_rfl) (by kernel_rfl) (by kernel_rfl) (by kernel_rfl) (fun _ _ _ h => h) (by rfl) ?_ hHeld ?_
        rotate_left 1
        · (intro w' hSw; (try dsimp only at hSw); go_simp <;> with_reducible rfl)
        refine wpAnyT_take (i := 3) (oi := _) (v := ?_) (fuel := 5) rfl (by kernel_rfl) (by kernel_rfl) (by kernel_rfl) (by kernel_rfl) (fun _ _ _ h => h) (by rfl) ?_ hHeld ?_
        rotate_left 1
        · (intro w' hSw; (try dsimp only at hSw); go_simp <;> with_reducible rfl)
        refine wpAnyT_take (i := 4) (oi := _) (v := ?_) (fuel := 4) rfl (by kernel_rfl) (by kernel_rfl) (by kernel_rfl) (by kernel_rfl) (fun _ _ _ h => h) (by rfl) ?_ hHeld ?_
        rotate_left 1
        · (intro w' hSw; (try dsimp only at hSw); go_simp <;> with_reducible rfl)
        refine wpAnyT_take (i := 5) (oi := _) (v := ?_) (fuel := 3) rfl (by kernel_rfl) (by kernel_rfl) (by kernel_rfl) (by kernel_rfl) (fun _ _ _ h => h) (by rfl) ?_ hHeld ?_
        rotate_left 1
        · (intro w' hSw; (try dsimp only at hSw); go_simp <;> with_reducible rfl)
        clear hHeld
        simp only [Act.put, List.setIfInBounds_toArray]
        refine wpAnyT_step (i := 6) (o := _) (fuel := 2) rfl (by kernel_rfl) (fun K hK => ?_)
        go_simp
        refine (RatMul_any _ (hu2.bl slc) (hvv.bl slc)).mono ?_
        rintro e w2 ⟨s4, A4, n4, c4, B4, m4, d4, rfl, hR4, hb2⟩
        refine hK.out _ _ (fun _ => ⟨bx3 (T := 29) bts, bx3 (T := 29) bts, ⟨(Bl.cellOf (w := w) slc hvlt).trans p0, (Bl.cellOf (w := w) (p := ⟨(bd.add (k * 3)).block, (bd.add (k * 3)).off + 1, none⟩) slc hvlt).trans p1, (Bl.cellOf (w := w) (p := ⟨(bd.add (k * 3)).block, (bd.add (k * 3)).off + 2, none⟩) slc hvlt).trans p2⟩⟩) ?_
        clear hK K
        try simp only [Act.put, List.setIfInBounds_toArray, List.set_cons_zero, List.set_cons_succ]
        refine wpAnyT_step (i := 7) (o := _) (fuel := 1) rfl (by kernel_rfl) (fun K hK => ?_)
        go_simp
        refine (RatAdd_any _ (hacc.bl slc) hR4.rd).mono ?_
        rintro e w3 ⟨s5, A5, n5, c5, B5, m5, d5, rfl, hR5, hb3⟩
        refine hK.out _ _ (fun _ => ⟨bx3 (T := 29) bts, bx3 (T := 29) bts, ⟨(Bl.cellOf (w := w) slc hvlt).trans p0, (Bl.cellOf (w := w) (p := ⟨(bd.add (k * 3)).block, (bd.add (k * 3)).off + 1, none⟩) slc hvlt).trans p1, (Bl.cellOf (w := w) (p := ⟨(bd.add (k * 3)).block, (bd.add (k * 3)).off + 2, none⟩) slc hvlt).trans p2⟩⟩) ?_
        clear hK K
        try simp only [Act.put, List.setIfInBounds_toArray, List.set_cons_zero, List.set_cons_succ]
        have hx4 := (hx2.drew.bl hb2).bl hb3
        obtain ⟨z0, z1, z2⟩ := bx3 hx4
        obtain ⟨y0, y1, y2⟩ := fz3 hx4
        refine wpAnyT_step (i := 8) (o := _) (fuel := 0) rfl (by kernel_rfl) (fun K hK => ?_)
        go_simp
        refine hK.out _ _ (fun h => absurd rfl h) ?_
        clear hK K
        try simp only [Act.put, List.setIfInBounds_toArray, List.set_cons_zero, List.set_cons_succ]
        refine wpAnyT_done (by kernel_rfl) ?_
        have hb23 : Bl w w3 := slc
        have hr4 := (hr2.drew.bl hb2).bl hb3
        have hz3 : w1.heap.size < w2.heap.size := Nat.lt_of_lt_of_le hx2.drew.lt (Bl.size hb2)
        have hG := OwR.exc2 hR5 hz3 (show w.heap.size + 1 ≤ w2.heap.size by omega)
        go_wp2_with fail
        go_roundw
        case rel => exact ⟨k + 1, s5, A5, n5, c5, B5, m5, d5, by omega, by go_num, (Wk.of hx4 rfl).put3 _ _ _, ((hG.set _ _).set _ _).set _ _, ((hr4.far (by simp; omega) _).far (by simp; omega) _).far (by simp; omega) _, slc⟩
        case measure => simp [intOf]; omega
      · obtain rfl : k = n := by omega
        obtain ⟨i0, i1, i2⟩ := bx3 hx
        rw [← hv.out] at hO
        have hR := hO.ow
        have hbW := hbw
        obtain ⟨v0, x0⟩ := hr.val_ (i := 0) (by omega)
        obtain ⟨v1, x1⟩ := hr.val_ (i := 1) (by omega)
        obtain ⟨v2, x2⟩ := hr.val_ (i := 2) (by omega)
        have hg := hr.lt
        obtain ⟨cs4, hB4, hc4⟩ := hr
        have hf0 := hB4.frozen 0
        have hf1 := hB4.frozen 1
        have hf2 := hB4.frozen 2
        go_wp2_with fail
        exact bodyPost_ret (v := .agg #[.bool s, .slice A1 n1 c1, .slice B1 m1 d1]) (by simp [results, Tryz.results62, go_sem, x0, x1, x2]) rfl ⟨_, _, _, _, _, _, _, rfl, (((hR.far (by simp) _).far (by simp) _).far (by simp) _).mono (by omega), slc⟩
  · have hl : ¬ l.length = l'.length := by rw [ha.len, hb.len]; exact hnm
    have hval := Lib.hid (show innR l l' = zR by unfold innR; rw [if_neg hl])
    have hne : ((n : Int) != (m : Int)) = true := by simp; omega
    clear hl hnm
    go_enter Tryz.func62, Tryz.ntmps62
    go_wp2_with fail
    exact bodyPost_ret (v := .agg #[.bool false, .slice none 0 0, .slice none 0 0]) (by simp [results, Tryz.results62, go_sem]) rfl ⟨_, _, _, _, _, _, _, rfl, by rw [hval.out]; exact OwR.zero _ _ _, slc⟩
end

section
open Go.RowKit

noncomputable def accS (l : List RatD) : Nat → RatD
  | 0 => ofFrac 0 1
  | k + 1 => addR (accS l k) (pix l k)
noncomputable def sumS (l : List RatD) : RatD := accS l l.length
end

section
open Go.RowKit

structure EdD where
  a : Int
  b : Int
  l : Int
  r : Int
  deriving DecidableEq, Inhabited
def cmpE (x y : EdD) : Int := if cmpZ x.a y.a = 0 then cmpZ x.b y.b else cmpZ x.a y.a
def ltE (x y : EdD) : Bool := decide (cmpE x y < 0)
theorem ltE_iff {x y : EdD} : ltE x y = true ↔ x.a < y.a ∨ (x.a = y.a ∧ x.b < y.b) := by
  unfold ltE cmpE cmpZ
  rw [decide_eq_true_iff]
  by_cases h1 : x.a < y.a
  · simp [h1]
  · by_cases h2 : y.a < x.a
    · simp [h1, h2]; omega
    · have h3 : x.a = y.a := by omega
      simp only [h3, Int.lt_irrefl, if_false, if_true, true_and, false_or]
      by_cases h4 : x.b < y.b
      · simp [h4]
      · by_cases h5 : y.b < x.b <;> simp [h4, h5]
theorem cmpE_zero {x y : EdD} : cmpE x y = 0 ↔ x.a = y.a ∧ x.b = y.b := by
  unfold cmpE cmpZ
  by_cases h1 : x.a < y.a
  · simp [h1]; omega
  · by_cases h2 : y.a < x.a
    · simp [h1, h2]; omega
    · have h3 : x.a = y.a := by omega
      simp only [h3, Int.lt_irrefl, if_false, if_true, true_and]
      by_cases h4 : x.b < y.b
      · simp [h4]; omega
      · by_cases h5 : y.b < x.b
        · simp [h4, h5]; omega
        · simp [h4, h5]; omega
/-- How many edges stand ahead of the place of e. -/
def posE (e : EdD) : List EdD → Nat
  | [] => 0
  | x :: xs => if ltE x e then posE e xs + 1 else 0
theorem posE_le (e : EdD) : ∀ l : List EdD, posE e l ≤ l.length
  | [] => Nat.le_refl _
  | x :: xs => by
    unfold posE
    split
    · have := posE_le e xs; simp; omega
    · simp
theorem pix_zero {α : Type} [Inhabited α] (x : α) (xs : List α) : pix (x :: xs) 0 = x := rfl
theorem pix_succ {α : Type} [Inhabited α] (x : α) (xs : List α) (k : Nat) : pix (x :: xs) (k + 1) = pix xs k := by simp [pix]
theorem posE_lt (e : EdD) : ∀ (l : List EdD) {k : Nat}, k < posE e l → ltE (pix l k) e = true
  | [], k, h => by simp [posE] at h
  | x :: xs, k, h => by
    unfold posE at h
    by_cases hx : ltE x e = true
    · rw [if_pos hx] at h
      rcases k with _ | k
      · exact hx
      · rw [pix_succ]; exact posE_lt e xs (by omega)
    · rw [if_neg hx] at h; omega
theorem posE_at (e : EdD) : ∀ (l : List EdD), posE e l < l.length → ltE (pix l (posE e l)) e = false
  | [], h => by simp at h
  | x :: xs, h => by
    unfold posE at h ⊢
    by_cases hx : ltE x e = true
    · rw [if_pos hx] at h ⊢
      rw [pix_succ]
      exact posE_at e xs (by simpa using h)
    · rw [if_neg hx]
      exact Bool.eq_false_iff.2 hx
/-- Sorted, none twice. -/
def SrtE (l : List EdD) : Prop := ∀ i j, i < j → j < l.length → ltE (pix l i) (pix l j) = true
theorem ltE_trans {x y z : EdD} (h : ltE x y = true) (k : ltE y z = true) : ltE x z = true := by
  rw [ltE_iff] at *
  omega
theorem posE_ge {e : EdD} {l : List EdD} (hs : SrtE l) {k : Nat} (h : posE e l ≤ k) (hk : k < l.length) : ltE (pix l k) e = false := by
  have h0 := posE_at e l (by omega)
  rcases Nat.lt_or_eq_of_le h with h | h
  · have h1 := hs _ _ h hk
    rw [Bool.eq_false_iff] at h0 ⊢
    exact fun h2 => h0 (ltE_trans h1 h2)
  · rw [← h]; exact h0
theorem posE_of {e : EdD} {l : List EdD} (hs : SrtE l) {i : Nat} (hi : i ≤ l.length) (h1 : ∀ k, k < i → ltE (pix l k) e = true) (h2 : ∀ k, i ≤ k → k < l.length → ltE (pix l k) e = false) : i = posE e l := by
  have h0 := posE_le e l
  rcases Nat.lt_trichotomy i (posE e l) with h | h | h
  · have a := posE_lt e l h
    have b := h2 i (Nat.le_refl _) (by omega)
    rw [a] at b; cases b
  · exact h
  · have a := h1 _ h
    have b := posE_ge hs (Nat.le_refl _) (show posE e l < l.length by omega)
    rw [a] at b; cases b
def fndE (e : EdD) (l : List EdD) : Bool := decide (posE e l < l.length) && decide (cmpE (pix l (posE e l)) e = 0)
def insE (e : EdD) (l : List EdD) : List EdD := l.take (posE e l) ++ e :: l.drop (posE e l)
theorem insE_len (e : EdD) (l : List EdD) : (insE e l).length = l.length + 1 := by
  have := posE_le e l
  unfold insE
  simp
  omega
theorem pix_insE {e : EdD} {l : List EdD} {k : Nat} : pix (insE e l) k = if k < posE e l then pix l k else if k = posE e l then e else pix l (k - 1) := by
  have h0 := posE_le e l
  unfold insE
  by_cases h1 : k < posE e l
  · rw [if_pos h1, pix_append_left (by simp; omega)]
    unfold pix
    rw [List.getD_eq_getElem?_getD, List.getD_eq_getElem?_getD, List.getElem?_take_of_lt h1]
  · rw [if_neg h1]
    unfold pix
    rw [List.getD_eq_getElem?_getD, List.getElem?_append_right (by simp; omega), List.length_take, Nat.min_eq_left h0]
    by_cases h2 : k = posE e l
    · rw [if_pos h2, h2, Nat.sub_self]; rfl
    · rw [if_neg h2, List.getD_eq_getElem?_getD]
      obtain ⟨j, rfl⟩ : ∃ j, k = posE e l + j + 1 := ⟨k - posE e l - 1, by omega⟩
      rw [show posE e l + j + 1 - posE e l = j + 1 by omega, show posE e l + j + 1 - 1 = posE e l + j by omega, List.getElem?_cons_succ, List.getElem?_drop]
theorem insE_srt {e : EdD} {l : List EdD} (hs : SrtE l) (hn : fndE e l = false) : SrtE (insE e l) := by
  intro i j hij hj
  rw [insE_len] at hj
  have h0 := posE_le e l
  have hgt : ∀ k, posE e l ≤ k → k < l.length → ltE e (pix l k) = true := by
    intro k hk hk2
    have h1 := posE_at e l (by omega)
    have h2 : ¬ cmpE (pix l (posE e l)) e = 0 := by
      intro h3
      unfold fndE at hn
      rw [decide_eq_true (show posE e l < l.length by omega), decide_eq_true h3] at hn
      cases hn
    have h3 : ltE e (pix l (posE e l)) = true := by
      rw [cmpE_zero] at h2
      rw [Bool.eq_false_iff, Ne, ltE_iff] at h1
      rw [ltE_iff]
      omega
    rcases Nat.lt_or_eq_of_le hk with h | h
    · exact ltE_trans h3 (hs _ _ h hk2)
    · rw [← h]; exact h3
  rw [pix_insE, pix_insE]
  by_cases h1 : j < posE e l
  · rw [if_pos h1, if_pos (by omega)]
    exact hs _ _ hij (by omega)
  · rw [if_neg h1]
    by_cases h2 : j = posE e l
    · rw [if_pos h2, if_pos (by omega)]
      exact posE_lt e l (by omega)
    · rw [if_neg h2]
      by_cases h3 : i < posE e l
      · rw [if_pos h3]
        exact hs _ _ (by omega) (by omega)
      · rw [if_neg h3]
        by_cases h4 : i = posE e l
        · rw [if_pos h4]
          exact hgt _ (by omega) (by omega)
        · rw [if_neg h4]
          exact hs _ _ (by omega) (by omega)
def setLR (a b k : Int) (e : EdD) : EdD := if a < b then ⟨e.a, e.b, k, e.r⟩ else ⟨e.a, e.b, e.l, k⟩
def newE (a b : Int) : EdD := ⟨min a b, max a b, -1, -1⟩
/-- The edge from a to b, of triangle k, is put into the list. -/
def putE (l : List EdD) (a b k : Int) : List EdD :=
  (if fndE (newE a b) l then l else insE (newE a b) l).modify (posE (newE a b) l) (setLR a b k)
def putTri (l : List EdD) (t : TriD) (k : Int) : Nat → List EdD
  | 0 => l
  | 1 => putE l t.a t.b k
  | 2 => putE (putE l t.a t.b k) t.b t.c k
  | _ => putE (putE (putE l t.a t.b k) t.b t.c k) t.c t.a k
def edTo (ts : List TriD) : Nat → List EdD
  | 0 => []
  | k + 1 => putTri (edTo ts k) (pix ts k) k 3
def edL (ts : List TriD) : List EdD := edTo ts ts.length
theorem setLR_lt (a b k : Int) (e x : EdD) : ltE (setLR a b k e) x = ltE e x ∧ ltE x (setLR a b k e) = ltE x e := by
  unfold setLR
  split <;> exact ⟨rfl, rfl⟩
theorem pix_modify {l : List EdD} {f : EdD → EdD} {p k : Nat} (hk : k < l.length) : pix (l.modify p f) k = if k = p then f (pix l k) else pix l k := by
  unfold pix
  rw [List.getD_eq_getElem?_getD, List.getD_eq_getElem?_getD, List.getElem?_modify]
  by_cases h : p = k
  · rw [if_pos h.symm]; simp [h, hk]
  · rw [if_neg (fun e => h e.symm)]; simp [h]
theorem modify_srt {l : List EdD} {a b k : Int} {p : Nat} (hs : SrtE l) : SrtE (l.modify p (setLR a b k)) := by
  intro i j hij hj
  rw [List.length_modify] at hj
  have h := hs i j hij hj
  rw [pix_modify (by omega), pix_modify hj]
  by_cases h1 : i = p <;> by_cases h2 : j = p
  · omega
  · rw [if_pos h1, if_neg h2, (setLR_lt a b k _ _).1]; exact h
  · rw [if_neg h1, if_pos h2, (setLR_lt a b k _ _).2]; exact h
  · rw [if_neg h1, if_neg h2]; exact h
theorem putE_srt {l : List EdD} {a b k : Int} (hs : SrtE l) : SrtE (putE l a b k) := by
  unfold putE
  refine modify_srt ?_
  by_cases h : fndE (newE a b) l = true
  · rw [if_pos h]; exact hs
  · rw [if_neg h]; exact insE_srt hs (Bool.eq_false_iff.2 h)
theorem putE_len (l : List EdD) (a b k : Int) : l.length ≤ (putE l a b k).length ∧ (putE l a b k).length ≤ l.length + 1 := by
  unfold putE
  rw [List.length_modify]
  split
  · omega
  · rw [insE_len]; omega
theorem putTri_srt {l : List EdD} {t : TriD} {k : Int} (hs : SrtE l) (i : Nat) : SrtE (putTri l t k i) := by
  unfold putTri
  split
  · exact hs
  · exact putE_srt hs
  · exact putE_srt (putE_srt hs)
  · exact putE_srt (putE_srt (putE_srt hs))
theorem putTri_len {l : List EdD} {t : TriD} {k : Int} (i : Nat) : l.length ≤ (putTri l t k i).length ∧ (putTri l t k i).length ≤ l.length + 3 := by
  unfold putTri
  have h1 := putE_len l t.a t.b k
  have h2 := putE_len (putE l t.a t.b k) t.b t.c k
  have h3 := putE_len (putE (putE l t.a t.b k) t.b t.c k) t.c t.a k
  split <;> omega
theorem edTo_srt (ts : List TriD) : ∀ k, SrtE (edTo ts k)
  | 0 => fun i j _ hj => by simp [edTo] at hj
  | k + 1 => putTri_srt (edTo_srt ts k) 3
theorem edTo_len (ts : List TriD) : ∀ k, (edTo ts k).length ≤ 3 * k
  | 0 => by simp [edTo]
  | k + 1 => by
    have h1 := edTo_len ts k
    have h2 := putTri_len (l := edTo ts k) (t := pix ts k) (k := (k : Int)) 3
    show (putTri (edTo ts k) (pix ts k) k 3).length ≤ _
    omega
def EdAt (w : World) (p : Addr) (e : EdD) : Prop :=
  w.cell? p = some (.int .i64 e.a) ∧ w.cell? ⟨p.block, p.off + 1, none⟩ = some (.int .i64 e.b) ∧ w.cell? ⟨p.block, p.off + 2, none⟩ = some (.int .i64 e.l) ∧ w.cell? ⟨p.block, p.off + 3, none⟩ = some (.int .i64 e.r)
theorem EdAt.bl {w W : World} {p : Addr} {e : EdD} (h : EdAt w p e) (hp : p.block < w.heap.size) (hb : Bl w W) : EdAt W p e := by
  obtain ⟨h0, h1, h2, h3⟩ := h
  refine ⟨?_, ?_, ?_, ?_⟩
  · rw [hb.cellOf hp]; exact h0
  · rw [hb.cellOf (p := ⟨p.block, p.off + 1, none⟩) hp]; exact h1
  · rw [hb.cellOf (p := ⟨p.block, p.off + 2, none⟩) hp]; exact h2
  · rw [hb.cellOf (p := ⟨p.block, p.off + 3, none⟩) hp]; exact h3
abbrev RdES := RdS 4 EdAt
theorem RdES.bl {w W : World} {A : Option Addr} {n c : Nat} {l : List EdD} (h : RdES w A n c l) (hb : Bl w W) : RdES W A n c l := RdS.bl (fun h hp hb => h.bl hp hb) h hb
theorem eds_lit {w : World} {g n c : Nat} {l : List EdD} (h : RdES w (some ⟨g, 0, none⟩) n c l) {k : Nat} (hk : k < n) :
    w.cell? ⟨g, k * 4, none⟩ = some (.int .i64 (pix l k).a) ∧ w.cell? ⟨g, k * 4 + 1, none⟩ = some (.int .i64 (pix l k).b) ∧ w.cell? ⟨g, k * 4 + 2, none⟩ = some (.int .i64 (pix l k).l) ∧ w.cell? ⟨g, k * 4 + 3, none⟩ = some (.int .i64 (pix l k).r) := by
  obtain ⟨_, e, _, hc⟩ := h.cells k hk
  cases e
  rw [Addr.add_lit, Nat.zero_add] at hc
  exact hc
theorem bx4 {W : World} {g : Nat} {T : TypeId} {a b c d : Value} (h : Blk W g T #[a, b, c, d]) : W.cell? ⟨g, 0, none⟩ = some a ∧ W.cell? ⟨g, 1, none⟩ = some b ∧ W.cell? ⟨g, 2, none⟩ = some c ∧ W.cell? ⟨g, 3, none⟩ = some d := ⟨h.cell 0, h.cell 1, h.cell 2, h.cell 3⟩
end

section
open Go.RowKit

theorem isNaN_q (w : World) (x : Int) : Calls Tryz.prog 234 #[.int .i64 x] w fun e w' => e = .returned (.bool false) ∧ w' = w := by
  go_enter Tryz.func234, Tryz.ntmps234
  go_wp2_with fail
  go_ret
  exact ⟨rfl, rfl⟩
theorem Compare_q (w : World) (x y : Int) : Calls Tryz.prog 207 #[.int .i64 x, .int .i64 y] w fun e w' => e = .returned (.int .i64 (cmpZ x y)) ∧ w' = w := by
  rcases Int.lt_trichotomy x y with h | h | h
  · have hv := Lib.hid (show cmpZ x y = -1 by unfold cmpZ; rw [if_pos h])
    have h2 : ¬ y < x := by omega
    go_enter Tryz.func207, Tryz.ntmps207
    go_wp2_with (go_at_call 234; refine (isNaN_q _ _).mono ?_; rintro e w' ⟨rfl, rfl⟩)
    go_ret
    exact ⟨ret_int hv.out.symm, rfl⟩
  · have hv := Lib.hid (show cmpZ x y = 0 by unfold cmpZ; rw [if_neg (by omega), if_neg (by omega)])
    have h1 : ¬ x < y := by omega
    have h2 : ¬ y < x := by omega
    have h := Lib.hid h; rename_i h_; clear h_
    go_enter Tryz.func207, Tryz.ntmps207
    go_wp2_with (go_at_call 234; refine (isNaN_q _ _).mono ?_; rintro e w' ⟨rfl, rfl⟩)
    go_ret
    exact ⟨ret_int hv.out.symm, rfl⟩
  · have hv := Lib.hid (show cmpZ x y = 1 by unfold cmpZ; rw [if_neg (by omega), if_pos h])
    have h2 : ¬ x < y := by omega
    go_enter Tryz.func207, Tryz.ntmps207
    go_wp2_with (go_at_call 234; refine (isNaN_q _ _).mono ?_; rintro e w' ⟨rfl, rfl⟩)
    go_ret
    exact ⟨ret_int hv.out.symm, rfl⟩
def orZ (x y : Int) : Int := if x = 0 then y else x
theorem Or_q (w : World) {g c : Nat} {x y : Int} (h0 : w.cell? ⟨g, 0, none⟩ = some (.int .i64 x)) (h1 : w.cell? ⟨g, 1, none⟩ = some (.int .i64 y)) :
    Calls Tryz.prog 206 #[.slice (some ⟨g, 0, none⟩) 2 c] w fun e w' => e = .returned (.int .i64 (orZ x y)) ∧ w' = w := by
  unfold orZ
  by_cases hx : x = 0
  · subst hx
    rw [if_pos rfl]
    by_cases hy : y = 0
    · subst hy
      go_enter Tryz.func206, Tryz.ntmps206
      go_wp2_with fail
      go_loop [8] (fun i => ∃ k : Nat, k ≤ 2 ∧ i = .int .i64 (k : Int)) (fun i => 2 - (intOf i).toNat)
      case atStart => exact ⟨0, by omega, rfl⟩
      case round =>
        obtain ⟨k, hk, rfl⟩ := hrel
        rcases (show k = 0 ∨ k = 1 ∨ k = 2 by omega) with rfl | rfl | rfl
        · have e0 : ((0 : Nat) : Int) = 0 := rfl
          rw [e0]
          clear e0 hk
          go_wp2_with fail
          go_round
          case rel => exact ⟨1, by omega, rfl⟩
          case measure => simp [intOf]
        · have e0 : ((1 : Nat) : Int) = 1 := rfl
          rw [e0]
          clear e0 hk
          go_wp2_with fail
          go_round
          case rel => exact ⟨2, by omega, rfl⟩
          case measure => simp [intOf]
        · have e0 : ((2 : Nat) : Int) = 2 := rfl
          rw [e0]
          clear e0 hk
          go_wp2_with fail
          go_ret
          exact ⟨rfl, rfl⟩
    · have hd : decide (y = 0) = false := decide_eq_false hy
      go_enter Tryz.func206, Tryz.ntmps206
      go_wp2_with fail
      go_loop [8] (fun i => ∃ k : Nat, k ≤ 1 ∧ i = .int .i64 (k : Int)) (fun i => 2 - (intOf i).toNat)
      case atStart => exact ⟨0, by omega, rfl⟩
      case round =>
        obtain ⟨k, hk, rfl⟩ := hrel
        rcases (show k = 0 ∨ k = 1 by omega) with rfl | rfl
        · have e0 : ((0 : Nat) : Int) = 0 := rfl
          rw [e0]
          clear e0 hk
          go_wp2_with fail
          go_round
          case rel => exact ⟨1, by omega, rfl⟩
          case measure => simp [intOf]
        · have e0 : ((1 : Nat) : Int) = 1 := rfl
          rw [e0]
          clear e0 hk
          go_wp2_with fail
          go_ret
          exact ⟨rfl, rfl⟩
  · rw [if_neg hx]
    have hd : decide (x = 0) = false := decide_eq_false hx
    go_enter Tryz.func206, Tryz.ntmps206
    go_wp2_with fail
    go_loop [8] (fun i => i = .int .i64 0) (fun i => 2 - (intOf i).toNat)
    case atStart => rfl
    case round =>
      subst hrel
      go_wp2_with fail
      go_ret
      exact ⟨rfl, rfl⟩
set_option maxRecDepth 100000 in
set_option maxHeartbeats 16000000 in
theorem compareEdges_any (w : World) (x y : EdD) :
    Calls Tryz.prog 168 #[.agg #[.int .i64 x.a, .int .i64 x.b, .int .i64 x.l, .int .i64 x.r], .agg #[.int .i64 y.a, .int .i64 y.b, .int .i64 y.l, .int .i64 y.r]] w fun e w' => e = .returned (.int .i64 (cmpE x y)) ∧ Bl w w' := by
  go_enter Tryz.func168, Tryz.ntmps168
  go_wp2_with fail
  refine wp_gen (fun W => Bl w W ∧ Blk W w.heap.size 175 #[.int .i64 x.a, .int .i64 x.b, .int .i64 x.l, .int .i64 x.r] ∧ Blk W (w.heap.size + 1) 175 #[.int .i64 y.a, .int .i64 y.b, .int .i64 y.l, .int .i64 y.r]) ⟨slc, bts, bts⟩ ?_
  rintro W ⟨hbW, h1, h2⟩
  go_region_held3 (fun w' => (w'.cell? ⟨w.heap.size, 0, none⟩ = some (.int .i64 x.a) ∧ w'.cell? ⟨w.heap.size, 1, none⟩ = some (.int .i64 x.b) ∧ w'.cell? ⟨w.heap.size, 2, none⟩ = some (.int .i64 x.l) ∧ w'.cell? ⟨w.heap.size, 3, none⟩ = some (.int .i64 x.r)) ∧ (w'.cell? ⟨(w.heap.size + 1), 0, none⟩ = some (.int .i64 y.a) ∧ w'.cell? ⟨(w.heap.size + 1), 1, none⟩ = some (.int .i64 y.b) ∧ w'.cell? ⟨(w.heap.size + 1), 2, none⟩ = some (.int .i64 y.l) ∧ w'.cell? ⟨(w.heap.size + 1), 3, none⟩ = some (.int .i64 y.r))) (first | exact ⟨bx4 (T := 175) (h1.bl slc), bx4 (T := 175) (h2.bl slc)⟩) (first | (go_at_call 207; (with_reducible refine (Compare_q _ x.a y.a).mono ?_); rintro e w1 ⟨rfl, rfl⟩) | (go_at_call 207; (with_reducible refine (Compare_q _ x.b y.b).mono ?_); rintro e w1 ⟨rfl, rfl⟩) | (go_at_call 206; (refine (Or_q (x := cmpZ x.a y.a) (y := cmpZ x.b y.b) _ (by exact ((Blk.new _ _ _).cell 0).trans rfl) (by exact ((Blk.new _ _ _).cell 1).trans rfl)).mono ?_); rintro e w1 ⟨rfl, rfl⟩))
  go_wp2_with fail
  go_ret
  exact ⟨ret_int rfl, slc⟩
end

end Go.Proofs.YtajlahjghapbkaaGreat
