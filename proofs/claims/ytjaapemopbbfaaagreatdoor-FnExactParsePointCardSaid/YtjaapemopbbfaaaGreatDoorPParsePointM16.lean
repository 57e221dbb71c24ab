/- Lemmas. -/
import Derived.Test.YtjaapemopbbfaaaGreatDoorRows
import Derived.Test.YtjaapemopbbfaaaGreatDoorPParsePointM01
import Derived.Test.YtjaapemopbbfaaaGreatDoorPParsePointM03
import Derived.Test.YtjaapemopbbfaaaGreatDoorPParsePointM15
namespace Go.Proofs.YtjaapemopbbfaaaGreatDoor
section
open Go.RowKit

/-- What the library's tables hold: nothing here writes them. -/
def Env (w : World) : Prop := Lib.TabIs Tryz.prog w "internal/strconv.uint64pow10" .u64 Lib.pow10Tab ∧ ∃ m : Int, w.cell? ⟨0, 0, none⟩ = some (.int .i64 m)
theorem tab_bl {w W : World} {k : IntKind} {zs : List Int} {n : String} (h : Lib.TabIs Tryz.prog w n k zs) (hb : Bl w W) : Lib.TabIs Tryz.prog W n k zs := by
  unfold Lib.TabIs World.var? at *
  cases hg : Tryz.prog.globalNamed n with
  | none => simp [hg] at h
  | some g =>
    simp only [hg, Option.bind_some] at h ⊢
    have hlt : g < w.heap.size := by
      rcases Nat.lt_or_ge g w.heap.size with h' | h'
      · exact h'
      · rw [Array.getElem?_eq_none h'] at h; simp at h
    rw [Below.block hb g hlt]
    exact h
theorem cell_lt {w : World} {p : Addr} {v : Value} (h : w.cell? p = some v) : p.block < w.heap.size := by
  rcases Nat.lt_or_ge p.block w.heap.size with h' | h'
  · exact h'
  · unfold World.cell? at h
    rw [Array.getElem?_eq_none h'] at h
    simp at h
theorem Env.bl {w W : World} (h : Env w) (hb : Bl w W) : Env W := by
  obtain ⟨h1, m, h2⟩ := h
  exact ⟨tab_bl h1 hb, m, (Bl.cellOf hb (cell_lt h2)).trans h2⟩
theorem grow_bl (w : World) (k : Nat) (os : Array Obj) : Bl w (Sort.grow (w.drewN k) os) := by
  refine ⟨rfl, rfl, rfl, by simp [Sort.grow], fun b hb => ?_⟩
  simp only [Sort.grow]
  exact Array.getElem?_append_left hb

set_option maxHeartbeats 1600000 in
theorem isDigit_any (w : World) (x : UInt8) :
    Calls Tryz.prog 186 #[.int .u8 (x.toNat : Int)] w fun e w' => e = .returned (.bool (isDg x)) ∧ ∃ q, w' = w.drewN q := by
  have hx := x.toNat_lt
  rw [isDg_eq]
  by_cases h1 : (48 : Int) ≤ (x.toNat : Int)
  · by_cases h2 : (x.toNat : Int) ≤ 57
    · go_enter Tryz.func186, Tryz.ntmps186
      go_wp2
      go_ret
      exact ⟨by simp [*], (by first | exact ⟨_, rfl⟩ | exact ⟨0, rfl⟩ | exact q_drewN ⟨_, rfl⟩ | exact q_drewN (q_drewN ⟨_, rfl⟩))⟩
    · go_enter Tryz.func186, Tryz.ntmps186
      go_wp2
      go_ret
      exact ⟨by simp [*], (by first | exact ⟨_, rfl⟩ | exact ⟨0, rfl⟩ | exact q_drewN ⟨_, rfl⟩ | exact q_drewN (q_drewN ⟨_, rfl⟩))⟩
  · go_enter Tryz.func186, Tryz.ntmps186
    go_wp2
    go_ret
    exact ⟨by rw [decide_eq_false (show ¬ (48 : Int) ≤ (x.toNat : Int) by omega)]; rfl, (by first | exact ⟨_, rfl⟩ | exact ⟨0, rfl⟩ | exact q_drewN ⟨_, rfl⟩ | exact q_drewN (q_drewN ⟨_, rfl⟩))⟩

set_option maxHeartbeats 1600000 in
theorem IsDigits_any (w : World) (s : ByteArray) (hs : s.size ≤ 9223372036854775807) :
    Calls Tryz.prog 140 #[.string s] w fun e w' => e = .returned (.bool (isDgs (bl s))) ∧ ∃ q, w' = w.drewN q := by
  have hidx := fun (W : World) (i : Nat) (h : i < s.size) => run_idx (P := Tryz.prog) (t := 9) W s i h Tryz.underlying9
  go_enter Tryz.func140, Tryz.ntmps140
  go_wp2_with fail
  go_loopw [6] (fun v wr => ∃ i : Nat, v = .int .i64 (i : Int) ∧ i ≤ s.size ∧ Hid (∀ j, j < i → isDg (bt s j) = true) ∧ ∃ q, wr = w.drewN q) (fun v _ => s.size - (intOf v).toNat)
  case atStart => exact ⟨0, rfl, by omega, fun j hj => by omega, 0, rfl⟩
  case round =>
    obtain ⟨i, rfl, hi, hz, q, rfl⟩ := hrel
    rcases Nat.lt_or_ge i s.size with hlt | hge
    · have h1 := fun W => hidx W i hlt
      have hci : (i : Int) < (s.size : Int) := by omega
      clear hidx
      by_cases hd : isDg (bt s i) = true
      · have hz' : Hid (∀ j, j < i + 1 → isDg (bt s j) = true) := Lib.hid fun j hj => by
          rcases Nat.lt_succ_iff_lt_or_eq.1 hj with h | h
          · exact hz.out j h
          · rw [h]; exact hd
        go_wp2_with (go_at_call 186; refine (isDigit_any _ _).mono ?_; rw [hd]; rintro e w1 ⟨rfl, q1, rfl⟩)
        go_roundw
        case rel => exact ⟨i + 1, by go_num, by omega, hz', (by first | exact ⟨_, rfl⟩ | exact ⟨0, rfl⟩ | exact q_drewN ⟨_, rfl⟩ | exact q_drewN (q_drewN ⟨_, rfl⟩))⟩
        case measure => simp [intOf]; omega
      · have hfin : isDgs (bl s) = false := Bool.eq_false_iff.2 fun e => hd (((isDgs_iff s).1 e).2 i hlt)
        have hd := Bool.eq_false_iff.2 hd
        go_wp2_with (go_at_call 186; refine (isDigit_any _ _).mono ?_; rw [hd]; rintro e w1 ⟨rfl, q1, rfl⟩)
        go_ret
        exact ⟨by first | rfl | (rw [hfin]; rfl), (by first | exact ⟨_, rfl⟩ | exact ⟨0, rfl⟩ | exact q_drewN ⟨_, rfl⟩ | exact q_drewN (q_drewN ⟨_, rfl⟩))⟩
    · obtain rfl : i = s.size := by omega
      have hfin : isDgs (bl s) = !s.toList.isEmpty := by
        rw [Bool.eq_iff_iff, isDgs_iff, bl_toList, ← bl_len]
        simp only [Bool.not_eq_true', List.isEmpty_eq_false_iff, ne_eq]
        exact ⟨fun h e => by rw [e] at h; exact absurd h.1 (by simp), fun h => ⟨List.length_pos_iff.2 h, by rw [bl_len]; exact hz.out⟩⟩
      clear hidx
      go_wp2_with fail
      go_ret
      exact ⟨by first | rfl | (rw [hfin]; rfl), (by first | exact ⟨_, rfl⟩ | exact ⟨0, rfl⟩ | exact q_drewN ⟨_, rfl⟩ | exact q_drewN (q_drewN ⟨_, rfl⟩))⟩

set_option maxHeartbeats 1600000 in
/-- FormatInt of a number that is not negative. -/
theorem FormatInt_any (w : World) (N : Nat) (hN : N ≤ 9223372036854775807) (he : Env w) :
    Calls Tryz.prog 77 #[.int .i64 (N : Int)] w fun e w' => e = .returned (.string (sb (dD N))) ∧ Bl w w' := by
  have h1 : Lib.itoa (N : Int) = dD N := by unfold Lib.itoa; rw [if_neg (by omega)]; rfl
  have htab := Lib.hid he.1
  clear he
  go_enter Tryz.func77, Tryz.ntmps77
  go_wp2_with (go_at_call 132; refine (Tryz.strconv_Itoa (N : Int) (by omega) (by omega) _ htab.out).mono ?_; rw [h1]; rintro e w1 ⟨rfl, k, os, rfl⟩)
  go_ret
  exact ⟨rfl, grow_bl w k os⟩

set_option maxHeartbeats 1600000 in
theorem PadZeros_any (w : World) (l : List UInt8) (k : Nat) (hl : l.length ≤ 1048576) (hk : k ≤ 2000) :
    Calls Tryz.prog 149 #[.string (sb l), .int .i64 (k : Int)] w fun e w' => e = .returned (.string (sb (padZ l k))) ∧ Bl w w' := by
  have hs := sb_size l
  have hk2 : ¬ (2000 : Int) < (k : Int) := by omega
  rcases Nat.lt_or_ge l.length k with h | h
  · have hlt : ¬ (k : Int) ≤ ((sb l).size : Int) := by omega
    have hsub : (k : Int) - ((sb l).size : Int) = ((k - l.length : Nat) : Int) := by omega
    have hrep : Lib.repeatL [48] (k - l.length) = List.replicate (k - l.length) 48 := by
      generalize k - l.length = n
      induction n with
      | zero => rfl
      | succ n ih => rw [List.replicate_succ, ← ih]; rfl
    have hadd := fun W => add_str (P := Tryz.prog) W (List.replicate (k - l.length) 48) l (by rw [List.length_replicate]; omega) (by omega)
    clear hs
    go_enter Tryz.func149, Tryz.ntmps149
    go_wp2_with (go_at_call 194; refine (Tryz.strings_Repeat (sb [48]) (k - l.length) _ (by omega) (by rw [sb_size]; simp; omega)).mono ?_; rw [show (sb [48]).data.toList = [48] from rfl, hrep]; rintro e w1 ⟨rfl, hb1⟩)
    go_ret
    exact ⟨rfl, hb1⟩
  · have hlt : (k : Int) ≤ ((sb l).size : Int) := by omega
    have hfin : padZ l k = l := by unfold padZ; rw [show k - l.length = 0 by omega]; rfl
    clear hs
    go_enter Tryz.func149, Tryz.ntmps149
    go_wp2
    go_ret
    exact ⟨by first | rfl | (rw [hfin]; rfl), slc⟩
end

section
open Go.RowKit

/-- Only the blocks of bs, and what is new, may have turned. -/
structure Ob (bs : List Nat) (w W : World) : Prop where
  os : W.os = w.os
  tape : W.tape = w.tape
  output : W.output = w.output
  size : w.heap.size ≤ W.heap.size
  block : ∀ k, k < w.heap.size → k ∉ bs → W.heap[k]? = w.heap[k]?
section
variable {T : TypeId} {bs cs : List Nat} {w W W2 w0 : World}
theorem Ob.refl (bs : List Nat) (w : World) : Ob bs w w := ⟨rfl, rfl, rfl, Nat.le_refl _, fun _ _ _ => rfl⟩
theorem Ob.trans (h : Ob bs w W) (k : Ob bs W W2) : Ob bs w W2 :=
  ⟨k.os.trans h.os, k.tape.trans h.tape, k.output.trans h.output, Nat.le_trans h.size k.size, fun b hb hn => (k.block b (Nat.lt_of_lt_of_le hb h.size) hn).trans (h.block b hb hn)⟩
theorem Ob.mono (h : Ob bs w W) (hs : ∀ b ∈ bs, b ∈ cs) : Ob cs w W := ⟨h.os, h.tape, h.output, h.size, fun b hb hn => h.block b hb fun hm => hn (hs b hm)⟩
theorem Ob.set (h : Ob bs w W) {g : Nat} (hg : g ∈ bs) (off : Nat) (u : Value) : Ob bs w (W.setCell ⟨g, off, none⟩ u) :=
  ⟨h.os, h.tape, h.output, by simpa [World.setCell] using h.size, fun k hk hn => (Below.heap_setCell W _ u k (by intro e; exact hn (by rw [e]; exact hg))).trans (h.block k hk hn)⟩
theorem Ob.drewN (h : Ob bs w W) (q : Nat) : Ob bs w (W.drewN q) := ⟨h.os, h.tape, h.output, h.size, h.block⟩
theorem Ob.of_bl (h : Bl w W) (bs : List Nat) : Ob bs w W := ⟨h.os, h.tape, h.output, h.size, fun k hk _ => h.block k hk⟩
theorem Bl.ob (h : Bl w0 w) (ho : Ob bs w W) (hb : ∀ b ∈ bs, w0.heap.size ≤ b) : Bl w0 W :=
  ⟨ho.os.trans h.os, ho.tape.trans h.tape, ho.output.trans h.output, Nat.le_trans h.size ho.size, fun k hk => (ho.block k (Nat.lt_of_lt_of_le hk h.size) fun hm => by have := hb k hm; omega).trans (h.block k hk)⟩
theorem Blk.ob {g : Nat} {xs : Array Value} (h : Blk w g T xs) (ho : Ob bs w W) (hg : g ∉ bs) : Blk W g T xs := (ho.block g h.lt hg).trans h
theorem FtI.ob {A : Option Addr} {n c : Nat} {l : List Int} (h : FtI T w A n c l cs) (ho : Ob bs w W) (hd : ∀ b ∈ cs, b ∉ bs) : FtI T W A n c l cs := by
  refine h.keep ho.size fun b hm => ho.block b ?_ (hd b hm)
  rcases h.2 with ⟨_, e⟩ | ⟨g, xs, _, _, hh, _, e⟩
  · rw [e] at hm; cases hm
  · rw [e] at hm; simp at hm; subst hm; exact heap_lt hh
end
/-- The n marks from k on. -/
def marks (k : Int) (n : Nat) : List Int := (List.range n).map fun i : Nat => k + (i : Int)
theorem marks_len (k : Int) (n : Nat) : (marks k n).length = n := by simp [marks]
theorem ix_marks (k : Int) {n i : Nat} (h : i < n) : ix (marks k n) i = k + (i : Int) := by simp [ix, marks, h]
/-- The first i cells hold marks. -/
def Mkd (k : Int) (i : Nat) (cs : Array Value) : Prop := ∀ j, j < i → cs[j]? = some (.int .i64 (k + (j : Int)))
theorem Mkd.step {k : Int} {i : Nat} {cs : Array Value} (h : Mkd k i cs) (hi : i < cs.size) : Mkd k (i + 1) (cs.setIfInBounds i (.int .i64 (k + (i : Int)))) := by
  intro j hj
  rcases Nat.lt_succ_iff_lt_or_eq.1 hj with hj | rfl
  · rw [Array.getElem?_setIfInBounds_ne (by omega)]; exact h j hj
  · simp [hi]

set_option maxHeartbeats 1600000 in
theorem markIntS_any {T : TypeId} (w : World) {A : Option Addr} {n c : Nat} {l : List Int} {bs : List Nat} {k0 : Int} (h : FtI T w A n c l bs) (hn : n ≤ 1048576) (h0 : 0 ≤ k0) (h1 : k0 ≤ 1099511627776) :
    Calls Tryz.prog 87 #[.slice A n c, .int .i64 k0] w fun e w' => e = .returned (.int .i64 (k0 + (n : Int))) ∧ FtI T w' A n c (marks k0 n) bs ∧ Ob bs w w' := by
  obtain ⟨hr, hft⟩ := h
  have hcap := hr.cap
  rcases hft with ⟨rfl, rfl⟩ | ⟨g, cs, hn0, rfl, hh, hsz, rfl⟩
  · go_enter Tryz.func87, Tryz.ntmps87
    go_wp2_with fail
    go_loopw [1, 5] (fun v i wr => v = .int .i64 k0 ∧ i = .int .i64 0 ∧ wr = w) (fun _ _ _ => 0)
    case atStart => exact ⟨rfl, rfl, rfl⟩
    case round =>
      obtain ⟨rfl, rfl, rfl⟩ := hrel
      go_wp2_with fail
      go_ret
      exact ⟨by simp, ⟨RdI.nil _ _ _, .inl ⟨rfl, rfl⟩⟩, Ob.refl _ _⟩
  · have hB0 : Blk w g T cs := hh
    clear hh hr
    go_enter Tryz.func87, Tryz.ntmps87
    go_wp2_with fail
    go_loopw [1, 5] (fun v i wr => ∃ (k : Nat) (cs' : Array Value), k ≤ n ∧ i = .int .i64 (k : Int) ∧ v = .int .i64 (k0 + (k : Int)) ∧ Blk wr g T cs' ∧ cs'.size = cs.size ∧ Mkd k0 k cs' ∧ Ob [g] w wr) (fun _ i _ => n - (intOf i).toNat)
    case atStart => exact ⟨0, cs, Nat.zero_le _, rfl, by simp, hB0, rfl, fun j hj => by omega, Ob.refl _ _⟩
    case round =>
      obtain ⟨k, cs', hk, rfl, rfl, hB, hs, hM, hO⟩ := hrel
      have hs := Lib.hid hs; rename_i h_; clear h_
      by_cases hkn : k < n
      · have hki : (k : Int) < (n : Int) := by omega
        obtain ⟨v0, x0⟩ := hB.some (i := k) (by have := hs.out; omega)
        have hfr := hB.frozen k
        go_wp2_with fail
        go_roundw
        case rel => exact ⟨k + 1, _, by omega, by go_num, by go_num, hB.set_ _ _, by simp [hs.out], hM.step (by have := hs.out; omega), hO.set (by simp) _ _⟩
        case measure => simp [intOf]; omega
      · obtain rfl : k = n := by omega
        have hB2 := hB
        go_wp2_with fail
        go_ret
        refine ⟨rfl, ⟨⟨marks_len _ _, hcap, by omega, fun j hj => ⟨_, rfl, hB2.lt, ?_⟩⟩, ?_⟩, hO⟩
        · rw [Addr.add_lit, Nat.zero_add, hB2.cell j, hM j hj, ix_marks k0 hj]
        · exact .inr ⟨g, cs', hn0, rfl, hB2, by have := hs.out; omega, rfl⟩

set_option maxHeartbeats 1600000 in
theorem heldIntS_any (w : World) {A : Option Addr} {n c : Nat} {k0 : Int} (h : RdI w A n c (marks k0 n)) (hn : n ≤ 1048576) (h0 : 0 ≤ k0) (h1 : k0 ≤ 1099511627776) :
    Calls Tryz.prog 89 #[.slice A n c, .int .i64 k0] w fun e w' => e = .returned (.int .i64 (k0 + (n : Int))) ∧ ∃ q, w' = w.drewN q := by
  go_enter Tryz.func89, Tryz.ntmps89
  go_wp2_with fail
  go_loopw [1, 5] (fun v i wr => ∃ k : Nat, k ≤ n ∧ i = .int .i64 (k : Int) ∧ v = .int .i64 (k0 + (k : Int)) ∧ ∃ q, wr = w.drewN q) (fun _ i _ => n - (intOf i).toNat)
  case atStart => exact ⟨0, Nat.zero_le _, rfl, by simp, 0, rfl⟩
  case round =>
    obtain ⟨k, hk, rfl, rfl, q, rfl⟩ := hrel
    by_cases hkn : k < n
    · have hki : (k : Int) < (n : Int) := by omega
      obtain ⟨ad, rfl, hlt, hc⟩ := h.at_ hkn
      rw [ix_marks k0 hkn] at hc
      have hne : ((k0 + (k : Int)) != (k0 + (k : Int))) = false := by simp
      go_wp2_with fail
      go_roundw
      case rel => exact ⟨k + 1, by omega, by go_num, by go_num, (by first | exact ⟨_, rfl⟩ | exact ⟨0, rfl⟩ | exact q_drewN ⟨_, rfl⟩ | exact q_drewN (q_drewN ⟨_, rfl⟩))⟩
      case measure => simp [intOf]; omega
    · obtain rfl : k = n := by omega
      go_wp2_with fail
      go_ret
      exact ⟨rfl, (by first | exact ⟨_, rfl⟩ | exact ⟨0, rfl⟩ | exact q_drewN ⟨_, rfl⟩ | exact q_drewN (q_drewN ⟨_, rfl⟩))⟩
end

end Go.Proofs.YtjaapemopbbfaaaGreatDoor
