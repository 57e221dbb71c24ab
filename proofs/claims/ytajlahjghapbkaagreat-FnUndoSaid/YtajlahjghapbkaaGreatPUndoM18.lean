/- Lemmas. -/
import Derived.Test.YtajlahjghapbkaaGreatRows
import Derived.Test.YtajlahjghapbkaaGreatPUndoM15
import Derived.Test.YtajlahjghapbkaaGreatPUndoM16
import Derived.Test.YtajlahjghapbkaaGreatPUndoM09
import Derived.Test.YtajlahjghapbkaaGreatPUndoM02
import Derived.Deep.Cut
import Derived.Deep.DeepCutAuto
import Derived.Test.YtajlahjghapbkaaGreatPUndoM17
import Derived.Test.YtajlahjghapbkaaGreatPUndoM08
import Derived.Test.YtajlahjghapbkaaGreatPUndoM10
namespace Go.Proofs.YtajlahjghapbkaaGreat
section
open Go.RowKit

/-- A fraction in memory of its own from block b0 on, none of it in block g. -/
def OwG (T : TypeId) (b0 g : Nat) (w : World) (s : Bool) (A : Option Addr) (n c : Nat) (B : Option Addr) (m d : Nat) (r : RatD) : Prop :=
  ∃ bs, FtR T w s A n c B m d r bs ∧ Fp b0 w.heap.size bs ∧ g ∉ bs
section
variable {T : TypeId} {b0 b1 g : Nat} {w W : World} {s : Bool} {A : Option Addr} {n c : Nat} {B : Option Addr} {m d : Nat} {r : RatD}
theorem OwG.rd (h : OwG T b0 g w s A n c B m d r) : RdR w s A n c B m d r := by
  obtain ⟨bs, h, _⟩ := h
  exact h.rd
theorem OwG.ow (h : OwG T b0 g w s A n c B m d r) : OwR T b0 w s A n c B m d r := by
  obtain ⟨bs, h, hf, _⟩ := h
  exact ⟨bs, h, hf⟩
theorem OwG.set (h : OwG T b0 g w s A n c B m d r) (i : Nat) (u : Value) : OwG T b0 g (w.setCell ⟨g, i, none⟩ u) s A n c B m d r := by
  obtain ⟨bs, h, hf, hg⟩ := h
  exact ⟨bs, h.keep (by simp) (fun b hb => Below.heap_setCell w _ u b (by intro e; exact hg ((show b = g from e) ▸ hb))), hf.mono (Nat.le_refl _) (by simp), hg⟩
end
end

section
open Go.RowKit

noncomputable def accS (l : List RatD) : Nat → RatD
  | 0 => ofFrac 0 1
  | k + 1 => addR (accS l k) (pix l k)
noncomputable def sumS (l : List RatD) : RatD := accS l l.length
end

section
open Go.RowKit

theorem OwL.grown {E : TypeId} {base : Nat} {w w' : World} {v : Value} {l : List Int} {row : Option Nat} (h : OwL E base w v l) (hg : w.grownBy w' row) (hr : ∀ k, row = some k → v.ownBlock ≠ some k) : OwL E base w' v l := by
  refine ⟨h.1, ?_⟩
  rcases h.2 with h2 | ⟨g, cap, cur, hv, hgb, hh, r⟩
  · exact .inl h2
  · exact .inr ⟨g, cap, cur, hv, hgb, (hg.block g (heap_lt hh) (by intro e; exact hr g e.symm (by rw [hv]; rfl))).trans hh, r⟩
/-- A fraction in memory of its own (its two slices may share it). -/
def OwQ (T : TypeId) (b0 : Nat) (w : World) (s : Bool) (A : Option Addr) (n c : Nat) (B : Option Addr) (m d : Nat) (r : RatD) : Prop :=
  ∃ bs, FtR T w s A n c B m d r bs ∧ ∀ b ∈ bs, b0 ≤ b ∧ b < w.heap.size
section
variable {T : TypeId} {b0 b1 : Nat} {w W : World} {s : Bool} {A : Option Addr} {n c : Nat} {B : Option Addr} {m d : Nat} {r : RatD}
theorem OwQ.of (h : OwR T b0 w s A n c B m d r) : OwQ T b0 w s A n c B m d r := by
  obtain ⟨bs, h, hf⟩ := h
  exact ⟨bs, h, hf.2⟩
theorem OwQ.rd (h : OwQ T b0 w s A n c B m d r) : RdR w s A n c B m d r := by
  obtain ⟨bs, h, _⟩ := h
  exact h.rd
theorem OwQ.two (hs : s = r.neg) (h : OwI T b0 w A n c r.mag) (k : OwI T b0 w B m d r.den) : OwQ T b0 w s A n c B m d r := by
  obtain ⟨b1, h1, f1⟩ := FtI.of_own h
  obtain ⟨b2, h2, f2⟩ := FtI.of_own k
  refine ⟨b1 ++ b2, ⟨hs, b1, b2, h1, h2, rfl⟩, fun b hb => ?_⟩
  rcases List.mem_append.1 hb with hb | hb
  · exact f1.2 b hb
  · exact f2.2 b hb
theorem OwQ.bl (h : OwQ T b0 w s A n c B m d r) (hb : Bl w W) : OwQ T b0 W s A n c B m d r := by
  obtain ⟨bs, h, hf⟩ := h
  exact ⟨bs, h.bl hb, fun b hm => ⟨(hf b hm).1, Nat.lt_of_lt_of_le (hf b hm).2 hb.size⟩⟩
theorem OwQ.mono (h : OwQ T b1 w s A n c B m d r) (hb : b0 ≤ b1) : OwQ T b0 w s A n c B m d r := by
  obtain ⟨bs, h, hf⟩ := h
  exact ⟨bs, h, fun b hm => ⟨Nat.le_trans hb (hf b hm).1, (hf b hm).2⟩⟩
theorem OwQ.far (h : OwQ T b0 w s A n c B m d r) {q : Addr} (hp : q.block < b0) (u : Value) : OwQ T b0 (w.setCell q u) s A n c B m d r := by
  obtain ⟨bs, h, hf⟩ := h
  refine ⟨bs, h.keep (by simp) (fun b hb => Below.heap_setCell w q u b (by have := (hf b hb).1; omega)), fun b hm => ?_⟩
  have := hf b hm
  simpa using this
end
end

section
open Go.RowKit

/-- The indices of a triangle's corners. -/
def triIx (t : TriD) : Nat → Int
  | 0 => t.a
  | 1 => t.b
  | _ + 2 => t.c
def OkIx (n : Nat) (t : TriD) (k : Nat) : Prop := ∀ j, j < k → 0 ≤ triIx t j ∧ triIx t j ≤ (n : Int) - 1
theorem OkIx.step {n : Nat} {t : TriD} {k : Nat} (h : OkIx n t k) (h0 : 0 ≤ triIx t k ∧ triIx t k ≤ (n : Int) - 1) : OkIx n t (k + 1) := by
  intro j hj
  rcases Nat.lt_succ_iff_lt_or_eq.1 hj with hj | rfl
  · exact h j hj
  · exact h0
theorem OwPN.far {T : TypeId} {b0 : Nat} {w : World} {s : Bool} {A : Option Addr} {n c : Nat} {B : Option Addr} {m d : Nat} {t : Bool} {C : Option Addr} {i e : Nat} {D : Option Addr} {j f : Nat} {p : PtD} (h : OwPN AnyN T b0 w s A n c B m d t C i e D j f p) {q : Addr} (hp : q.block < b0) (u : Value) : OwPN AnyN T b0 (w.setCell q u) s A n c B m d t C i e D j f p := by
  obtain ⟨b1, b2, h1, h2, hf, _⟩ := h
  exact ⟨b1, b2, h1.keep (by simp) (fun b hb => Below.heap_setCell w q u b (by have := (hf b (by simp [hb])).1; omega)), h2.keep (by simp) (fun b hb => Below.heap_setCell w q u b (by have := (hf b (by simp [hb])).1; omega)), fun b hb => by have := hf b hb; simpa using this, trivial⟩
theorem OwPN.low {N : List Nat → Prop} {T : TypeId} {b0 b1 : Nat} {w : World} {s : Bool} {A : Option Addr} {n c : Nat} {B : Option Addr} {m d : Nat} {t : Bool} {C : Option Addr} {i e : Nat} {D : Option Addr} {j f : Nat} {p : PtD} (h : OwPN N T b1 w s A n c B m d t C i e D j f p) (hb : b0 ≤ b1) : OwPN N T b0 w s A n c B m d t C i e D j f p := by
  obtain ⟨c1, c2, h1, h2, hf, hn⟩ := h
  exact ⟨c1, c2, h1, h2, fun b hm => ⟨Nat.le_trans hb (hf b hm).1, (hf b hm).2⟩, hn⟩
theorem OwPN.bl {N : List Nat → Prop} {T : TypeId} {b0 : Nat} {w W : World} {s : Bool} {A : Option Addr} {n c : Nat} {B : Option Addr} {m d : Nat} {t : Bool} {C : Option Addr} {i e : Nat} {D : Option Addr} {j f : Nat} {p : PtD} (h : OwPN N T b0 w s A n c B m d t C i e D j f p) (hb : Bl w W) : OwPN N T b0 W s A n c B m d t C i e D j f p := by
  obtain ⟨c1, c2, h1, h2, hf, hn⟩ := h
  exact ⟨c1, c2, h1.bl hb, h2.bl hb, fun b hm => ⟨(hf b hm).1, Nat.lt_of_lt_of_le (hf b hm).2 hb.size⟩, hn⟩
end

section
open Go.RowKit
end

section
open Go.RowKit

def cA : Nat → Int
  | 0 => 1
  | 1 => 7
  | 2 => 3
  | 3 => 1
  | 4 => 7
  | _ => 5
def cB : Nat → Int
  | 0 => 4
  | 1 => 0
  | 2 => 4
  | 3 => 2
  | 4 => 4
  | _ => 6
end

section
open Go.RowKit

theorem and255 (x : Int) : 0 ≤ bits .and .i64 x 255 ∧ bits .and .i64 x 255 ≤ 255 := by
  rw [bits.eq_1]
  have h : (BitVec.ofInt IntKind.i64.bits x &&& BitVec.ofInt IntKind.i64.bits 255).toNat ≤ 255 := by
    rw [BitVec.toNat_and]
    exact Nat.le_trans Nat.and_le_right (by decide)
  rw [IntKind.wrap_i64]
  omega
/-- A byte of the code. -/
def ByteAt (w : World) (p : Addr) (x : Int) : Prop := w.cell? p = some (.int .u8 x) ∧ 0 ≤ x ∧ x ≤ 255
abbrev RdB := RdS 1 ByteAt
theorem RdB.bl {w W : World} {A : Option Addr} {n c : Nat} {l : List Int} (h : RdB w A n c l) (hb : Bl w W) : RdB W A n c l := RdS.bl (fun h hp hb => ⟨by rw [hb.cellOf hp]; exact h.1, h.2⟩) h hb
theorem RdB.ob {w W : World} {A : Option Addr} {n c g : Nat} {l : List Int} (h : RdB w A n c l) (hg : ∀ ad, A = Option.some ad → 0 < n → ad.block ≠ g) (hb : Ob [g] w W) : RdB W A n c l :=
  ⟨h.len, h.cap, h.small, fun k hk => by
    obtain ⟨ad, e, hlt, hc, hx⟩ := h.cells k hk
    refine ⟨ad, e, Nat.lt_of_lt_of_le hlt hb.size, ?_, hx⟩
    exact (World.cell?_of_block (w := w) (hb.block (ad.add (k * 1)).block (by rw [block_add]; exact hlt) (by rw [block_add]; simpa using hg ad e (by omega)))).trans hc⟩
/-- A cursor in block g. -/
def Cur (g : Nat) (w : World) (A : Option Addr) (n c : Nat) (l : List Int) : Prop :=
  ∃ i h : Int, Blk w g 169 #[.slice A n c, .int .i64 i, .int .i64 h] ∧ 0 ≤ i ∧ i ≤ n ∧ RdB w A n c l ∧ ∀ ad, A = Option.some ad → 0 < n → ad.block ≠ g
theorem Cur.bl {g n c : Nat} {w W : World} {A : Option Addr} {l : List Int} (h : Cur g w A n c l) (hb : Bl w W) : Cur g W A n c l := by
  obtain ⟨i, k, h1, h2, h3, h4, h5⟩ := h
  exact ⟨i, k, h1.bl hb, h2, h3, h4.bl hb, h5⟩
theorem Cur.lt {g n c : Nat} {w : World} {A : Option Addr} {l : List Int} (h : Cur g w A n c l) : g < w.heap.size := by
  obtain ⟨i, k, h1, _⟩ := h
  exact h1.lt
set_option maxRecDepth 100000 in
set_option maxHeartbeats 4000000 in
theorem l01Byte_any (w : World) {g n c : Nat} {A : Option Addr} {l : List Int} (hC : Cur g w A n c l) :
    Calls Tryz.prog 98 #[.pointer (some ⟨g, 0, none⟩)] w fun e w' => ∃ x : Int, e = .returned (.int .i64 x) ∧ 0 ≤ x ∧ x ≤ 255 ∧ Cur g w' A n c l ∧ Ob [g] w w' := by
  obtain ⟨i, h, hB, hi0, hin, hR, hne⟩ := hC
  have hs := hR.small
  obtain ⟨x0, x1, x2⟩ := bx3 hB
  have f1 := hB.frozen 1
  have f2 := hB.frozen 2
  have hg := hB.lt
  by_cases hlt : i < (n : Int)
  · obtain ⟨k, rfl⟩ := Int.eq_ofNat_of_zero_le hi0
    have hkn : k < n := by omega
    obtain ⟨ad, rfl, _⟩ := hR.cells k hkn
    have hna := hne ad rfl (by omega)
    go_enter Tryz.func98, Tryz.ntmps98
    go_wp2_with fail
    refine wp_gen (fun W => ∃ h', Blk W g 169 #[.slice (some ad) n c, .int .i64 (k : Int), .int .i64 h'] ∧ Ob [g] w W) ⟨_, by simpa using hB.set_ 2 _, (Ob.refl _ w).set (by simp) _ _⟩ ?_
    clear x0 x1 x2 f1 f2 hB
    rintro W ⟨h', hB, hO⟩
    have hR := hR.ob hne hO
    go_region_held3 (fun w' => (w'.cell? ⟨g, 0, none⟩ = some (.slice (some ad) n c) ∧ w'.cell? ⟨g, 1, none⟩ = some (.int .i64 (k : Int)) ∧ w'.cell? ⟨g, 2, none⟩ = some (.int .i64 h'))) (first | exact bx3 (T := 169) (hB.bl slc)) (fail)
    obtain ⟨hx0, hx1⟩ := and255 (bits .xor .i64 (h' / 8589934592) (h' / 35184372088832))
    generalize bits .and .i64 (bits .xor .i64 (h' / 8589934592) (h' / 35184372088832)) 255 = x at *
    go_wp2_with fail
    go_region_held3 (fun w' => (w'.cell? ⟨g, 0, none⟩ = some (.slice (some ad) n c) ∧ w'.cell? ⟨g, 1, none⟩ = some (.int .i64 (k : Int)) ∧ w'.cell? ⟨g, 2, none⟩ = some (.int .i64 h'))) (first | exact bx3 (T := 169) (hB.bl slc)) (fail)
    obtain ⟨_, e, hlt2, hc, hb0, hb1⟩ := hR.cells k hkn
    cases e
    rw [Nat.mul_one] at hc
    generalize pix l k = y at hc hb0 hb1
    have hlt3 : (ad.add k).block < W.heap.size := by rw [block_add]; exact hlt2
    go_wp2_with fail
    go_region_held3 (fun w' => (w'.cell? ⟨g, 0, none⟩ = some (.slice (some ad) n c) ∧ w'.cell? ⟨g, 1, none⟩ = some (.int .i64 (k : Int)) ∧ w'.cell? ⟨g, 2, none⟩ = some (.int .i64 h')) ∧ w'.cell? (ad.add k) = some (.int .u8 y)) (first | exact ⟨bx3 (T := 169) (hB.bl slc), (Bl.cellOf (w := W) (p := ad.add k) slc hlt3).trans hc⟩) (fail)
    obtain ⟨hz0, hz1⟩ := and255 (IntKind.i64.wrap (x + IntKind.i64.wrap y))
    generalize bits .and .i64 (IntKind.i64.wrap (x + IntKind.i64.wrap y)) 255 = z at *
    obtain ⟨x0, x1, x2⟩ := bx3 hB
    have f1 := hB.frozen 1
    go_wp2_with fail
    go_ret
    have hC2 : Cur g (W.setCell ⟨g, 1, none⟩ (.int .i64 ((k : Int) + 1))) (some ad) n c l := ⟨(k : Int) + 1, h', by simpa using hB.set_ 1 (.int .i64 ((k : Int) + 1)), by omega, by omega, hR.ob hne ((Ob.refl [g] W).set (by simp) _ _), hne⟩
    have hO2 := hO.set (g := g) (by simp) 1 (.int .i64 ((k : Int) + 1))
    exact ⟨z, rfl, hz0, hz1, hC2.bl slc, hO2.trans (Ob.of_bl slc _)⟩
  · have hnlt : ¬ i < (n : Int) := hlt
    go_enter Tryz.func98, Tryz.ntmps98
    go_wp2_with fail
    refine wp_gen (fun W => ∃ h', Blk W g 169 #[.slice A n c, .int .i64 i, .int .i64 h'] ∧ Ob [g] w W) ⟨_, by simpa using hB.set_ 2 _, (Ob.refl _ w).set (by simp) _ _⟩ ?_
    clear x0 x1 x2 f1 f2 hB
    rintro W ⟨h', hB, hO⟩
    have hR := hR.ob hne hO
    go_region_held3 (fun w' => (w'.cell? ⟨g, 0, none⟩ = some (.slice A n c) ∧ w'.cell? ⟨g, 1, none⟩ = some (.int .i64 i) ∧ w'.cell? ⟨g, 2, none⟩ = some (.int .i64 h'))) (first | exact bx3 (T := 169) (hB.bl slc)) (fail)
    obtain ⟨hx0, hx1⟩ := and255 (bits .xor .i64 (h' / 8589934592) (h' / 35184372088832))
    generalize bits .and .i64 (bits .xor .i64 (h' / 8589934592) (h' / 35184372088832)) 255 = x at *
    go_wp2_with fail
    go_region_held3 (fun w' => (w'.cell? ⟨g, 0, none⟩ = some (.slice A n c) ∧ w'.cell? ⟨g, 1, none⟩ = some (.int .i64 i) ∧ w'.cell? ⟨g, 2, none⟩ = some (.int .i64 h'))) (first | exact bx3 (T := 169) (hB.bl slc)) (fail)
    go_wp2_with fail
    go_ret
    exact ⟨x, rfl, hx0, hx1, (show Cur g W A n c l from ⟨i, h', hB, hi0, hin, hR, hne⟩).bl slc, hO.trans (Ob.of_bl slc _)⟩
set_option maxHeartbeats 4000000 in
theorem l01Below_any (w : World) {g n c : Nat} {A : Option Addr} {l : List Int} (m : Int) (hm0 : 0 < m) (hm1 : m ≤ 256) (hC : Cur g w A n c l) :
    Calls Tryz.prog 117 #[.pointer (some ⟨g, 0, none⟩), .int .i64 m] w fun e w' => ∃ x : Int, e = .returned (.int .i64 x) ∧ 0 ≤ x ∧ x < m ∧ Cur g w' A n c l ∧ Ob [g] w w' := by
  have hm2 : ¬ m ≤ 0 := by omega
  have hm3 : ¬ m = 0 := by omega
  go_enter Tryz.func117, Tryz.ntmps117
  go_wp2_with fail
  refine (l01Byte_any _ hC).mono ?_
  rintro e w1 ⟨x, rfl, hx0, hx1, hC1, hO⟩
  have ht : x.tmod m = x % m := by rw [Int.tmod_eq_emod_of_nonneg hx0]
  have hx2 := Int.emod_nonneg x (show m ≠ 0 by omega)
  have hx3 := Int.emod_lt_of_pos x hm0
  go_wp2_with fail
  go_ret
  exact ⟨x % m, rfl, hx2, hx3, hC1, hO⟩
set_option maxHeartbeats 4000000 in
theorem l01New_any (w : World) {A : Option Addr} {n c : Nat} {l : List Int} (h : RdB w A n c l) :
    Calls Tryz.prog 113 #[.slice A n c] w fun e w' => ∃ g, e = .returned (.pointer (some ⟨g, 0, none⟩)) ∧ w.heap.size ≤ g ∧ Cur g w' A n c l ∧ Bl w w' := by
  have hn := h.small
  go_enter Tryz.func113, Tryz.ntmps113
  go_wp2_with fail
  go_loopw [3, 4] (fun v i wr => ∃ (k : Nat) (z : Int), k ≤ n ∧ k ≤ 4000 ∧ i = .int .i64 (k : Int) ∧ v = .int .i64 z ∧ Bl w wr) (fun _ i _ => n - (intOf i).toNat)
  case atStart => exact ⟨0, _, Nat.zero_le _, Nat.zero_le _, rfl, rfl, Bl.refl _⟩
  case round =>
    obtain ⟨k, z, hk, hk4, rfl, rfl, hbw⟩ := hrel
    by_cases hkn : k < n
    · have hki : (k : Int) < (n : Int) := by omega
      by_cases hk5 : k < 4000
      · have hki2 : (k : Int) < 4000 := by omega
        obtain ⟨ad, rfl, hlt, hc, hb0, hb1⟩ := (RdB.bl h hbw).cells k hkn
        rw [Nat.mul_one] at hc
        go_wp2_with fail
        go_roundw
        case rel => exact ⟨k + 1, _, by omega, by omega, by go_num, rfl, slc⟩
        case measure => simp [intOf]; omega
      · have hd1 : decide ((k : Int) < 4000) = false := by simp; omega
        go_wp2_with fail
        go_ret
        exact ⟨wr.heap.size, rfl, hbw.size, ⟨0, z, Blk.new _ _ _, by omega, by omega, RdB.bl h (hbw.alloc _), fun ad e hn0 => by subst e; obtain ⟨_, e, hl, _⟩ := h.cells 0 hn0; cases e; have := hbw.size; omega⟩, slc⟩
    · have hd2 : decide ((k : Int) < (n : Int)) = false := by simp; omega
      go_wp2_with fail
      go_ret
      exact ⟨wr.heap.size, rfl, hbw.size, ⟨0, z, Blk.new _ _ _, by omega, by omega, RdB.bl h (hbw.alloc _), fun ad e hn0 => by subst e; obtain ⟨_, e, hl, _⟩ := h.cells 0 hn0; cases e; have := hbw.size; omega⟩, slc⟩
end

section
open Go.RowKit
end

section
open Go.RowKit
end

section
open Go.RowKit
end

section
open Go.RowKit

/-- A fraction, none of it in block g. -/
def OwE (T : TypeId) (g : Nat) (w : World) (s : Bool) (A : Option Addr) (n c : Nat) (B : Option Addr) (m d : Nat) (r : RatD) : Prop :=
  ∃ bs, FtR T w s A n c B m d r bs ∧ ∀ b ∈ bs, b ≠ g
section
variable {T : TypeId} {b0 g : Nat} {w W : World} {s : Bool} {A : Option Addr} {n c : Nat} {B : Option Addr} {m d : Nat} {r : RatD}
theorem OwE.rd (h : OwE T g w s A n c B m d r) : RdR w s A n c B m d r := by
  obtain ⟨bs, h, _⟩ := h
  exact h.rd
theorem OwE.bl (h : OwE T g w s A n c B m d r) (hb : Bl w W) : OwE T g W s A n c B m d r := by
  obtain ⟨bs, h, hf⟩ := h
  exact ⟨bs, h.bl hb, hf⟩
theorem OwE.set (h : OwE T g w s A n c B m d r) (i : Nat) (u : Value) : OwE T g (w.setCell ⟨g, i, none⟩ u) s A n c B m d r := by
  obtain ⟨bs, h, hf⟩ := h
  exact ⟨bs, h.keep (by simp) (fun b hb => Below.heap_setCell w _ u b (hf b hb)), hf⟩
end
end

section
open Go.RowKit

/-- The gradient that belongs to a corner, where j and k are the two others, and D is twice the area. -/
noncomputable def gradR (D : RatD) (j k : PtD) : PtD := ⟨divR (subR j.y k.y) D, divR (subR k.x j.x) D⟩
noncomputable def grad3 (p0 p1 p2 : PtD) : Nat → PtD
  | 0 => gradR (dblA p0 p1 p2) p1 p2
  | 1 => gradR (dblA p0 p1 p2) p2 p0
  | _ + 2 => gradR (dblA p0 p1 p2) p0 p1
def GradOk (p0 p1 p2 : PtD) (k : Nat) : Prop := ∀ j, j < k → OkP (grad3 p0 p1 p2 j)
theorem GradOk.step {p0 p1 p2 : PtD} {k : Nat} (h : GradOk p0 p1 p2 k) (h0 : OkP (grad3 p0 p1 p2 k)) : GradOk p0 p1 p2 (k + 1) := by
  intro j hj
  rcases Nat.lt_succ_iff_lt_or_eq.1 hj with hj | rfl
  · exact h j hj
  · exact h0
end

section
open Go.RowKit

theorem Wk.ob {k g : Nat} {T : TypeId} {w W : World} {bs : List Nat} (h : Wk k T g w) (ho : Ob bs w W) (hg : g ∉ bs) : Wk k T g W := by
  obtain ⟨cs, h1, h2⟩ := h
  exact ⟨cs, h1.ob ho hg, h2⟩
theorem ofFrac_sm (x : Int) (D : Nat) (hD : 0 < D) (hx : x.natAbs ≤ 17) (hn : D ≤ 17) : ofFrac x D = toR (mkRat x D) ∧ Bd 17 (mkRat x D) := by
  have hb : Bd 17 (mkRat x D) := bd_mk hD hx hn
  rw [ofFrac_toR x hD, if_pos (hb.fit (by decide))]
  exact ⟨rfl, hb⟩
theorem OwPN.ob' {T : TypeId} {b0 g : Nat} {w W : World} {s : Bool} {A : Option Addr} {n c : Nat} {B : Option Addr} {m d : Nat} {t : Bool} {C : Option Addr} {i e : Nat} {D : Option Addr} {j f : Nat} {p : PtD} (h : OwPN AnyN T b0 w s A n c B m d t C i e D j f p) (ho : Ob [g] w W) (hg : g < b0) : OwPN AnyN T b0 W s A n c B m d t C i e D j f p := by
  obtain ⟨c1, c2, h1, h2, hf, hn⟩ := h
  refine ⟨c1, c2, h1.keep ho.size fun b hb => ho.block b (hf b (by simp [hb])).2 fun hm => ?_, h2.keep ho.size fun b hb => ho.block b (hf b (by simp [hb])).2 fun hm => ?_, fun b hb => ⟨(hf b hb).1, Nat.lt_of_lt_of_le (hf b hb).2 ho.size⟩, hn⟩
  · have := (hf b (by simp [hb])).1; simp at hm; omega
  · have := (hf b (by simp [hb])).1; simp at hm; omega
theorem OwPN.bl' {T : TypeId} {b0 : Nat} {w W : World} {s : Bool} {A : Option Addr} {n c : Nat} {B : Option Addr} {m d : Nat} {t : Bool} {C : Option Addr} {i e : Nat} {D : Option Addr} {j f : Nat} {p : PtD} (h : OwPN AnyN T b0 w s A n c B m d t C i e D j f p) (hb : Bl w W) : OwPN AnyN T b0 W s A n c B m d t C i e D j f p := by
  obtain ⟨c1, c2, h1, h2, hf, hn⟩ := h
  exact ⟨c1, c2, h1.bl hb, h2.bl hb, fun b hm => ⟨(hf b hm).1, Nat.lt_of_lt_of_le (hf b hm).2 hb.size⟩, hn⟩
theorem OwPN.rdx {T : TypeId} {b0 : Nat} {w : World} {s : Bool} {A : Option Addr} {n c : Nat} {B : Option Addr} {m d : Nat} {t : Bool} {C : Option Addr} {i e : Nat} {D : Option Addr} {j f : Nat} {p : PtD} (h : OwPN AnyN T b0 w s A n c B m d t C i e D j f p) : RdR w s A n c B m d p.x ∧ RdR w t C i e D j f p.y := by
  obtain ⟨c1, c2, h1, h2, hf, hn⟩ := h
  exact ⟨h1.rd, h2.rd⟩
theorem OwPN.low' {T : TypeId} {b0 b1 : Nat} {w : World} {s : Bool} {A : Option Addr} {n c : Nat} {B : Option Addr} {m d : Nat} {t : Bool} {C : Option Addr} {i e : Nat} {D : Option Addr} {j f : Nat} {p : PtD} (h : OwPN AnyN T b1 w s A n c B m d t C i e D j f p) (hb : b0 ≤ b1) : OwPN AnyN T b0 w s A n c B m d t C i e D j f p := by
  obtain ⟨c1, c2, h1, h2, hf, hn⟩ := h
  exact ⟨c1, c2, h1, h2, fun b hm => ⟨Nat.le_trans hb (hf b hm).1, (hf b hm).2⟩, hn⟩
theorem Cur.set {g n c : Nat} {w : World} {A : Option Addr} {l : List Int} (h : Cur g w A n c l) {b : Nat} (hq : b ≠ g) (hq2 : ∀ ad, A = Option.some ad → 0 < n → ad.block ≠ b) (o : Nat) (u : Value) : Cur g (w.setCell ⟨b, o, none⟩ u) A n c l := by
  obtain ⟨i, k, h1, h2, h3, h4, h5⟩ := h
  exact ⟨i, k, h1.far (Ne.symm hq) u, h2, h3, h4.ob (g := b) hq2 ((Ob.refl [b] w).set (by simp) _ _), h5⟩
theorem Ob.far {bs : List Nat} {w W : World} (h : Ob bs w W) {b : Nat} (hb : w.heap.size ≤ b) (o : Nat) (u : Value) : Ob bs w (W.setCell ⟨b, o, none⟩ u) := by
  have k := (h.mono (cs := b :: bs) (fun x hx => List.mem_cons_of_mem _ hx)).set (g := b) (by simp) o u
  exact ⟨k.os, k.tape, k.output, k.size, fun x hx hn => k.block x hx fun hm => by rcases List.mem_cons.1 hm with rfl | hm; omega; exact hn hm⟩
end

section
open Go.RowKit

def toP (x y : Rat) : PtD := ⟨toR x, toR y⟩
theorem ifP_toP {x y : Rat} (hx : Fit x) (hy : Fit y) : ifP (toP x y) = toP x y := by
  have e1 := (okR_den (.inr hx.ok)).2 hx.ok
  have e2 := (okR_den (.inr hy.ok)).2 hy.ok
  unfold ifP
  rw [if_neg]
  rintro (h | h)
  · exact e1 h
  · exact e2 h
theorem subP_toP {x y u v : Rat} (hx : Bd 17 x) (hy : Bd 17 y) (hu : Bd 17 u) (hv : Bd 17 v) : subP (toP x y) (toP u v) = toP (x - u) (y - v) ∧ Bd 578 (x - u) ∧ Bd 578 (y - v) := by
  have h1 : Bd 578 (x - u) := (hx.sub hu).mono (by decide)
  have h2 : Bd 578 (y - v) := (hy.sub hv).mono (by decide)
  refine ⟨?_, h1, h2⟩
  unfold subP
  rw [show (toP x y).x = toR x from rfl, show (toP u v).x = toR u from rfl, show (toP x y).y = toR y from rfl, show (toP u v).y = toR v from rfl,
    subR_toR (hx.fit (by decide)) (hu.fit (by decide)) (h1.fit (by decide)), subR_toR (hy.fit (by decide)) (hv.fit (by decide)) (h2.fit (by decide))]
  exact ifP_toP (h1.fit (by decide)) (h2.fit (by decide))
/-- Twice the area. -/
def detQ (x0 y0 x1 y1 x2 y2 : Rat) : Rat := (x1 - x0) * (y2 - y0) - (y1 - y0) * (x2 - x0)
theorem dblA_toP {x0 y0 x1 y1 x2 y2 : Rat} (a0 : Bd 17 x0) (b0 : Bd 17 y0) (a1 : Bd 17 x1) (b1 : Bd 17 y1) (a2 : Bd 17 x2) (b2 : Bd 17 y2) :
    dblA (toP x0 y0) (toP x1 y1) (toP x2 y2) = toR (detQ x0 y0 x1 y1 x2 y2) ∧ Bd 223224238112 (detQ x0 y0 x1 y1 x2 y2) := by
  obtain ⟨e1, h1, h2⟩ := subP_toP a1 b1 a0 b0
  obtain ⟨e2, h3, h4⟩ := subP_toP a2 b2 a0 b0
  have m1 : Bd 334084 ((x1 - x0) * (y2 - y0)) := (h1.mul h4).mono (by decide)
  have m2 : Bd 334084 ((y1 - y0) * (x2 - x0)) := (h2.mul h3).mono (by decide)
  have m3 : Bd 223224238112 (detQ x0 y0 x1 y1 x2 y2) := (m1.sub m2).mono (by decide)
  refine ⟨?_, m3⟩
  unfold dblA
  rw [e1, e2]
  unfold crossP
  rw [show (toP (x1 - x0) (y1 - y0)).x = toR (x1 - x0) from rfl, show (toP (x1 - x0) (y1 - y0)).y = toR (y1 - y0) from rfl, show (toP (x2 - x0) (y2 - y0)).x = toR (x2 - x0) from rfl, show (toP (x2 - x0) (y2 - y0)).y = toR (y2 - y0) from rfl,
    mulR_toR (h1.fit (by decide)) (h4.fit (by decide)) (m1.fit (by decide)), mulR_toR (h2.fit (by decide)) (h3.fit (by decide)) (m2.fit (by decide)), subR_toR (m1.fit (by decide)) (m2.fit (by decide)) (m3.fit (by decide))]
  rfl
end

section
open Go.RowKit

theorem Ob.bl {bs : List Nat} {w W W2 : World} (h : Ob bs w W) (hb : Bl W W2) : Ob bs w W2 := h.trans (Ob.of_bl hb _)
end

section
open Go.RowKit
end

section
open Go.RowKit

def SqTo (L : List (List RatD)) (k : Nat) : Prop := ∀ i, i < k → AllOk (pix L i)
theorem SqTo.step {L : List (List RatD)} {k : Nat} (h : SqTo L k) (h0 : AllOk (pix L k)) : SqTo L (k + 1) := by
  intro j hj
  rcases Nat.lt_succ_iff_lt_or_eq.1 hj with hj | rfl
  · exact h j hj
  · exact h0
end

section
open Go.RowKit
end

section
open Go.RowKit

section
variable {x0 y0 x1 y1 x2 y2 : Rat}
/-- Six small coordinates. -/
def Sm6 (x0 y0 x1 y1 x2 y2 : Rat) : Prop := Bd 17 x0 ∧ Bd 17 y0 ∧ Bd 17 x1 ∧ Bd 17 y1 ∧ Bd 17 x2 ∧ Bd 17 y2
def arQ (x0 y0 x1 y1 x2 y2 : Rat) : Rat := mkRat 1 2 * detQ x0 y0 x1 y1 x2 y2
theorem half_sm : ofFrac 1 2 = toR (mkRat 1 2) ∧ Bd 2 (mkRat 1 2) := by
  have hb : Bd 2 (mkRat 1 2) := bd_mk (by omega) (by decide) (by omega)
  refine ⟨?_, hb⟩
  rw [ofFrac_toR 1 (by omega), if_pos (hb.fit (by decide))]
theorem area_toP (h : Sm6 x0 y0 x1 y1 x2 y2) : areaR (toP x0 y0) (toP x1 y1) (toP x2 y2) = toR (arQ x0 y0 x1 y1 x2 y2) ∧ Bd 446448476224 (arQ x0 y0 x1 y1 x2 y2) := by
  obtain ⟨a0, b0, a1, b1, a2, b2⟩ := h
  obtain ⟨e, hd⟩ := dblA_toP a0 b0 a1 b1 a2 b2
  obtain ⟨e2, hh⟩ := half_sm
  have ha : Bd 446448476224 (arQ x0 y0 x1 y1 x2 y2) := (hh.mul hd).mono (by decide)
  refine ⟨?_, ha⟩
  unfold areaR
  rw [e, e2, mulR_toR (hh.fit (by decide)) (hd.fit (by decide)) (ha.fit (by decide))]
  rfl
end
end

section
open Go.RowKit

section
variable {x0 y0 x1 y1 x2 y2 : Rat}
theorem zero_sm : ofFrac 0 1 = toR (mkRat 0 1) ∧ Bd 1 (mkRat 0 1) ∧ mkRat 0 1 = 0 := by
  have hb : Bd 1 (mkRat 0 1) := bd_mk (by omega) (by decide) (by omega)
  refine ⟨?_, hb, by decide +kernel⟩
  rw [ofFrac_toR 0 (by omega), if_pos (hb.fit (by decide))]
end
end

section
open Go.RowKit

noncomputable def addP (p q : PtD) : PtD := ifP ⟨addR p.x q.x, addR p.y q.y⟩
set_option maxRecDepth 100000 in
set_option maxHeartbeats 8000000 in
theorem AddPoints_any (w : World) {s : Bool} {A : Option Addr} {n c : Nat} {B : Option Addr} {m d : Nat} {t : Bool} {C : Option Addr} {i e : Nat} {D : Option Addr} {j f : Nat} {p : PtD} {s' : Bool} {A' : Option Addr} {n' c' : Nat} {B' : Option Addr} {m' d' : Nat} {t' : Bool} {C' : Option Addr} {i' e' : Nat} {D' : Option Addr} {j' f' : Nat} {p' : PtD} (h : RdR w s A n c B m d p.x) (k : RdR w t C i e D j f p.y) (h' : RdR w s' A' n' c' B' m' d' p'.x) (k' : RdR w t' C' i' e' D' j' f' p'.y) :
    Calls Tryz.prog 18 #[.agg #[.bool s, .slice A n c, .slice B m d, .bool t, .slice C i e, .slice D j f], .agg #[.bool s', .slice A' n' c', .slice B' m' d', .bool t', .slice C' i' e', .slice D' j' f']] w fun en w' => ∃ s1 A1 n1 c1 B1 m1 d1 t1 C1 i1 e1 D1 j1 f1, en = .returned (.agg #[.bool s1, .slice A1 n1 c1, .slice B1 m1 d1, .bool t1, .slice C1 i1 e1, .slice D1 j1 f1]) ∧ OwP 3 w.heap.size w' s1 A1 n1 c1 B1 m1 d1 t1 C1 i1 e1 D1 j1 f1 (addP p p') ∧ Bl w w' := by
  go_enter Tryz.func18, Tryz.ntmps18
  go_wp2_with fail
  refine wp_gen (fun W => Bl w W ∧ Blk W (w.heap.size) 31 #[.bool s, .slice A n c, .slice B m d, .bool t, .slice C i e, .slice D j f] ∧ Blk W (w.heap.size + 1) 31 #[.bool s', .slice A' n' c', .slice B' m' d', .bool t', .slice C' i' e', .slice D' j' f'] ∧ Wk 6 31 (w.heap.size + 1 + 1) W) ⟨slc, bts, bts, bts⟩ ?_
  rintro W ⟨hbW, hx, hx', hr⟩
  go_region_held3 (fun w' => (w'.cell? ⟨w.heap.size, 0, none⟩ = some (.bool s) ∧ w'.cell? ⟨w.heap.size, 1, none⟩ = some (.slice A n c) ∧ w'.cell? ⟨w.heap.size, 2, none⟩ = some (.slice B m d) ∧ w'.cell? ⟨w.heap.size, 3, none⟩ = some (.bool t) ∧ w'.cell? ⟨w.heap.size, 4, none⟩ = some (.slice C i e) ∧ w'.cell? ⟨w.heap.size, 5, none⟩ = some (.slice D j f)) ∧ (w'.cell? ⟨w.heap.size + 1, 0, none⟩ = some (.bool s') ∧ w'.cell? ⟨w.heap.size + 1, 1, none⟩ = some (.slice A' n' c') ∧ w'.cell? ⟨w.heap.size + 1, 2, none⟩ = some (.slice B' m' d') ∧ w'.cell? ⟨w.heap.size + 1, 3, none⟩ = some (.bool t') ∧ w'.cell? ⟨w.heap.size + 1, 4, none⟩ = some (.slice C' i' e') ∧ w'.cell? ⟨w.heap.size + 1, 5, none⟩ = some (.slice D' j' f')) ∧ (w'.cell? ⟨w.heap.size + 1 + 1, 0, none⟩ = some (cellD w' (w.heap.size + 1 + 1) 0) ∧ w'.cell? ⟨w.heap.size + 1 + 1, 1, none⟩ = some (cellD w' (w.heap.size + 1 + 1) 1) ∧ w'.cell? ⟨w.heap.size + 1 + 1, 2, none⟩ = some (cellD w' (w.heap.size + 1 + 1) 2) ∧ w'.cell? ⟨w.heap.size + 1 + 1, 3, none⟩ = some (cellD w' (w.heap.size + 1 + 1) 3) ∧ w'.cell? ⟨w.heap.size + 1 + 1, 4, none⟩ = some (cellD w' (w.heap.size + 1 + 1) 4) ∧ w'.cell? ⟨w.heap.size + 1 + 1, 5, none⟩ = some (cellD w' (w.heap.size + 1 + 1) 5)) ∧ w'.frozen? ⟨w.heap.size + 1 + 1, 0, none⟩ = false ∧ w'.frozen? ⟨w.heap.size + 1 + 1, 1, none⟩ = false ∧ w'.frozen? ⟨w.heap.size + 1 + 1, 2, none⟩ = false ∧ w'.frozen? ⟨w.heap.size + 1 + 1, 3, none⟩ = false ∧ w'.frozen? ⟨w.heap.size + 1 + 1, 4, none⟩ = false ∧ w'.frozen? ⟨w.heap.size + 1 + 1, 5, none⟩ = false) (first | exact ⟨bx6 (T := 31) bts, bx6 (T := 31) bts, Wk.out6 (T := 31) bts⟩) (first | (go_at_call 22; with_reducible refine (RatAdd_any _ (h.bl slc) (h'.bl slc)).mono ?_; rintro en w2 ⟨s2, A2, n2, c2, B2, m2, d2, rfl, hR2, hb2⟩) | (go_at_call 22; with_reducible refine (RatAdd_any _ (k.bl slc) (k'.bl slc)).mono ?_; rintro en w3 ⟨s3, A3, n3, c3, B3, m3, d3, rfl, hR3, hb3⟩) | (go_at_call 77; refine (ifPoint_any (p := ⟨addR p.x p'.x, addR p.y p'.y⟩) _ (OwP.two hR2 hR3 hb3 (Bl.size hb2))).mono ?_; rintro en w4 ⟨s1, A1, n1, c1, B1, m1, d1, t1, C1, i1, e1, D1, j1, f1, rfl, hX, hb4⟩))
  have hz : w.heap.size + 1 + 1 + 1 ≤ W.heap.size := hr.lt
  have hr := (show Wk 6 31 (w.heap.size + 1 + 1) w4 from bts)
  have hbW : Bl w w4 := slc
  have hX := hX.low (show w.heap.size + 1 + 1 + 1 ≤ W.drew.heap.size from hz)
  obtain ⟨v0, x0⟩ := hr.val_ (i := 0) (by omega)
  obtain ⟨v1, x1⟩ := hr.val_ (i := 1) (by omega)
  obtain ⟨v2, x2⟩ := hr.val_ (i := 2) (by omega)
  obtain ⟨v3, x3⟩ := hr.val_ (i := 3) (by omega)
  obtain ⟨v4, x4⟩ := hr.val_ (i := 4) (by omega)
  obtain ⟨v5, x5⟩ := hr.val_ (i := 5) (by omega)
  have hg := hr.lt
  obtain ⟨cs4, hB4, hc4⟩ := hr
  have hf0 := hB4.frozen 0
  have hf1 := hB4.frozen 1
  have hf2 := hB4.frozen 2
  have hf3 := hB4.frozen 3
  have hf4 := hB4.frozen 4
  have hf5 := hB4.frozen 5
  go_wp2_with fail
  exact bodyPost_ret (v := .agg #[.bool s1, .slice A1 n1 c1, .slice B1 m1 d1, .bool t1, .slice C1 i1 e1, .slice D1 j1 f1]) (by simp [results, Tryz.results18, go_sem, x0, x1, x2, x3, x4, x5]) rfl ⟨_, _, _, _, _, _, _, _, _, _, _, _, _, _, rfl, ((((((hX.far (by simp) _).far (by simp) _).far (by simp) _).far (by simp) _).far (by simp) _).far (by simp) _).low (by omega), slc⟩
end

end Go.Proofs.YtajlahjghapbkaaGreat
