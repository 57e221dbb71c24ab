/- Lemmas. -/
import Derived.Test.YtjaapemopbbfaaaGreatDoorRows
import Derived.Test.YtjaapemopbbfaaaGreatDoorPParsePointM03
import Derived.Test.YtjaapemopbbfaaaGreatDoorPParsePointM04
import Derived.Test.YtjaapemopbbfaaaGreatDoorPParsePointM14
namespace Go.Proofs.YtjaapemopbbfaaaGreatDoor
section
open Go.RowKit

/-- The part from a to b. -/
def sg (l : List UInt8) (a b : Nat) : List UInt8 := (l.take b).drop a
theorem sg_nil (l : List UInt8) (a : Nat) : sg l a a = [] := by unfold sg; rw [List.drop_eq_nil_iff]; simp; omega
theorem sg_snoc {l : List UInt8} {a b : Nat} (h : a ≤ b) (hb : b < l.length) : sg l a (b + 1) = sg l a b ++ [l.getD b 0] := by
  unfold sg
  rw [List.take_add_one, List.getElem?_eq_getElem hb, List.drop_append_of_le_length (by rw [List.length_take]; omega), List.getD_eq_getElem?_getD, List.getElem?_eq_getElem hb]
  rfl
theorem sg_len {l : List UInt8} {a b : Nat} (hb : b ≤ l.length) : (sg l a b).length = b - a := by unfold sg; rw [List.length_drop, List.length_take]; omega
theorem take_sg {l : List UInt8} {a b : Nat} (h : a ≤ b) : l.take b = l.take a ++ sg l a b := by
  unfold sg
  have := List.take_append_drop a (l.take b)
  rw [List.take_take, Nat.min_eq_left h] at this
  exact this.symm
theorem vD_app (a b : List UInt8) : vD (a ++ b) = vD a * 10 ^ b.length + vD b := by
  induction b using snoc_ind with
  | h0 => simp [vD_nil]
  | h1 l x ih => rw [← List.append_assoc, vD_snoc, vD_snoc, ih, List.length_append, List.length_singleton, Nat.pow_succ, show vD a * (10 ^ l.length * 10) = 10 * (vD a * 10 ^ l.length) by rw [← Nat.mul_assoc, Nat.mul_comm]]; omega
theorem all_sg {l : List UInt8} (h : l.all isDg = true) (a b : Nat) : (sg l a b).all isDg = true := by
  rw [List.all_eq_true] at h ⊢
  intro x hx
  exact h x (List.mem_of_mem_take (List.mem_of_mem_drop hx))
theorem vD_sg_lt {l : List UInt8} (h : l.all isDg = true) {a b : Nat} (hb : b ≤ l.length) (h9 : b ≤ a + 9) : vD (sg l a b) < 1000000000 := by
  have h1 := vD_lt _ (all_sg h a b)
  rw [sg_len hb] at h1
  have h2 : 10 ^ (b - a) ≤ 10 ^ 9 := Nat.pow_le_pow_right (by decide) (by omega)
  omega
/-- The limbs that are parsed when the digits behind E are. -/
structure PRel (l : List UInt8) (E : Int) (d : List Nat) : Prop where
  lo : -9 < E
  len : 9 * (d.length : Int) + E = l.length
  digs : Digs d
  eq : vD l = vD (l.take E.toNat) * Bs ^ d.length + val d
theorem PRel.start (l : List UInt8) : PRel l (l.length : Int) [] := ⟨by omega, by simp, (fun x hx => by cases hx), by simp [val]⟩
theorem PRel.step {l : List UInt8} {e : Nat} {d : List Nat} (h : PRel l (e : Int) d) (h0 : 0 < e) (ha : l.all isDg = true) {f : Nat} (hf : f = e - 9) : PRel l ((e : Int) - 9) (d ++ [vD (sg l f e)]) := by
  have hl := h.len
  have hel : e ≤ l.length := by omega
  have hlt : vD (sg l f e) < Bs := by rw [Bs_eq]; exact vD_sg_lt ha hel (by omega)
  refine ⟨by omega, by rw [List.length_append, List.length_singleton]; omega, digs_snoc h.digs hlt, ?_⟩
  have heq := h.eq
  rw [Int.toNat_natCast, take_sg (show f ≤ e by omega), vD_app, sg_len hel] at heq
  rw [val_snoc, List.length_append, List.length_singleton, Nat.pow_succ, heq, show (((e : Int) - 9)).toNat = f by omega]
  rcases Nat.lt_or_ge e 9 with h9 | h9
  · obtain rfl : f = 0 := by omega
    simp [vD_nil]
    omega
  · rw [show e - f = 9 by omega, show (10 : Nat) ^ 9 = Bs from rfl, Nat.add_mul, Nat.mul_assoc, Nat.mul_comm Bs]
    omega
theorem PRel.stop {l : List UInt8} {E : Int} {d : List Nat} (h : PRel l E d) (h0 : E ≤ 0) : vD l = val d := by
  have := h.eq
  rw [show E.toNat = 0 by omega] at this
  simpa [vD_nil] using this
theorem PRel.short {l : List UInt8} {E : Int} {d : List Nat} (h : PRel l E d) (hl : l.length ≤ 540) : d.length ≤ 60 := by
  have := h.len
  have := h.lo
  omega
theorem isDgs_all {l : List UInt8} (h : isDgs l = true) : l.all isDg = true := by unfold isDgs at h; simp only [Bool.and_eq_true] at h; exact h.2
theorem isDgs_pos {s : ByteArray} (h : isDgs (bl s) = true) : 0 < s.size := ((isDgs_iff s).1 h).1
theorem bl_head {s : ByteArray} (h : 0 < s.size) : (bl s).head? = some (bt s 0) := by
  unfold bt
  rw [← bl_len] at h
  cases hb : bl s with
  | nil => rw [hb] at h; cases h
  | cons a t => rfl
theorem goodN_bt {s : ByteArray} (hd : isDgs (bl s) = true) : goodN (bl s) = (decide (s.size ≤ 540) && (decide (s.size = 1) || decide (bt s 0 ≠ 48))) := by
  unfold goodN
  rw [hd, bl_len, bl_head (isDgs_pos hd)]
  simp
theorem bt_digit {s : ByteArray} (h : (bl s).all isDg = true) {i : Nat} (hi : i < s.size) : 48 ≤ (bt s i).toNat ∧ (bt s i).toNat ≤ 57 := by
  have h1 := List.all_eq_true.1 h (bt s i) (by
    unfold bt
    rw [List.getD_eq_getElem?_getD, List.getElem?_eq_getElem (by rw [bl_len]; exact hi)]
    exact List.getElem_mem _)
  unfold isDg at h1
  simpa using h1
theorem vD_sg_step {s : ByteArray} {f i : Nat} (h : f ≤ i) (hi : i < s.size) : vD (sg (bl s) f (i + 1)) = 10 * vD (sg (bl s) f i) + ((bt s i).toNat - 48) := by
  rw [sg_snoc h (by rw [bl_len]; exact hi), vD_snoc]
  rfl
/-- What both parsers return. -/
def NatRes (w : World) (s : ByteArray) (e : Ending) (w' : World) : Prop :=
  ((goodN (bl s) = true ∧ ∃ A n c, e = .returned (.tuple #[.slice A n c, .bool true]) ∧ OwI 3 w.heap.size w' A n c (ints (dig (vD (bl s))))) ∨ (goodN (bl s) = false ∧ e = .returned (.tuple #[.slice none 0 0, .bool false]))) ∧ Bl w w'

set_option maxHeartbeats 12800000 in
set_option maxRecDepth 100000 in
theorem sParseNat_any (w : World) (s : ByteArray) (hs : s.size ≤ 1048576) :
    Calls Tryz.prog 79 #[.string s] w (NatRes w s) := by
  have hidx := fun (W : World) (i : Nat) (h : i < s.size) => run_idx (P := Tryz.prog) (t := 9) W s i h Tryz.underlying9
  have hb0 := (bt s 0).toNat_lt
  cases hd : isDgs (bl s) with
  | false =>
    have hg : Hid (goodN (bl s) = false) := Lib.hid (by unfold goodN; rw [hd]; rfl)
    go_enter Tryz.func79, Tryz.ntmps79
    go_wp2_with (go_at_call 133; refine (sIsDigits_any _ _ (by omega)).mono ?_; rw [hd]; rintro e w1 ⟨rfl, q1, rfl⟩)
    go_ret2
    exact ⟨.inr ⟨hg.out, rfl⟩, slc⟩
  | true =>
    have hgd := goodN_bt hd
    have hpos := isDgs_pos hd
    have hall := Lib.hid (isDgs_all hd)
    by_cases h540 : s.size ≤ 540
    · have h5 : ¬ (540 : Int) < (s.size : Int) := by omega
      by_cases h1 : 1 < s.size
      · have h1i : (1 : Int) < (s.size : Int) := by omega
        have hx0 : ∀ W, (Instr.index 9 (.string s) (.int .i64 0)).run Tryz.prog W = .ok (.int .u8 ((bt s 0).toNat : Int)) W := fun W => hidx W 0 (by omega)
        by_cases hz : bt s 0 = 48
        · have hg : Hid (goodN (bl s) = false) := Lib.hid (by rw [hgd, hz]; simp; omega)
          have hz2 : ((bt s 0).toNat : Int) = 48 := by rw [hz]; rfl
          clear hz hgd hidx
          go_enter Tryz.func79, Tryz.ntmps79
          go_wp2_with (go_at_call 133; refine (sIsDigits_any _ _ (by omega)).mono ?_; rw [hd]; rintro e w1 ⟨rfl, q1, rfl⟩)
          go_ret2
          exact ⟨.inr ⟨hg.out, rfl⟩, slc⟩
        · have hg : Hid (goodN (bl s) = true) := Lib.hid (by rw [hgd]; simp [hz, h540])
          have hz2 : ((((bt s 0).toNat : Int)) == 48) = false := by
            simp only [beq_eq_false_iff_ne, ne_eq]
            intro e
            exact hz (UInt8.toNat_inj.1 (by show (bt s 0).toNat = 48; omega))
          clear hz hgd
          go_enter Tryz.func79, Tryz.ntmps79
          go_wp2_with (go_at_call 133; refine (sIsDigits_any _ _ (by omega)).mono ?_; rw [hd]; rintro e w1 ⟨rfl, q1, rfl⟩)
          go_loopw [4, 5] (fun v E wr => ∃ (E' : Int) (d : List Nat), E = .int .i64 E' ∧ PRel (bl s) E' d ∧ OwL 3 w.heap.size wr v (ints d) ∧ Bl w wr) (fun _ E _ => (intOf E).toNat)
          case atStart => exact ⟨_, [], rfl, by have := PRel.start (bl s); rw [bl_len] at this; exact this, OwL.empty (cur := #[]) (w.drewN q1) (Nat.le_refl _) (Nat.zero_le _), slc⟩
          case round =>
            obtain ⟨E', d, rfl, hP, hown, hb⟩ := hrel
            have hlo := hP.lo
            have hle := hP.len
            rw [bl_len] at hle
            have hdl := hP.short (by rw [bl_len]; exact h540)
            have hlen : (ints d).length ≤ 1099511627776 := by rw [ints_len]; omega
            rcases Int.lt_or_le 0 E' with hE | hE
            · obtain ⟨e, rfl⟩ : ∃ e : Nat, E' = (e : Int) := ⟨E'.toNat, by omega⟩
              have he0 : 0 < e := by omega
              have hes : e ≤ s.size := by omega
              have hbls := bl_len s
              obtain ⟨wo, hwo⟩ : ∃ wo : World, wo = wr := ⟨_, rfl⟩
              subst hwo
              by_cases h9 : 9 ≤ e
              · obtain ⟨f, hf⟩ : ∃ f, e = f + 9 := ⟨e - 9, by omega⟩
                have hef : (e : Int) - 9 = (f : Int) := by omega
                have hstep := hP.step he0 hall.out (f := f) (by omega)
                have hP := Lib.hid hP; rename_i hP_; clear hP_
                have hf := Lib.hid hf; rename_i hf_; clear hf_
                have hfe := hf.out
                clear hfe
                go_wp2_with fail
                go_loopw [7, 8] (fun n i w2 => ∃ k : Nat, n = .int .i64 ((vD (sg (bl s) f k) : Nat) : Int) ∧ i = .int .i64 (k : Int) ∧ f ≤ k ∧ k ≤ e ∧ w2 = wo) (fun _ i _ => e - (intOf i).toNat)
                case atStart => exact ⟨f, by rw [sg_nil]; rfl, rfl, by have := hf.out; omega, by have := hf.out; omega, rfl⟩
                case round =>
                  obtain ⟨k, rfl, rfl, hfk, hke, rfl⟩ := hrel
                  have hn9 := vD_sg_lt hall.out (l := bl s) (a := f) (b := k) (by have := hf.out; omega) (by have := hf.out; omega)
                  rcases Nat.lt_or_ge k e with hk | hk
                  · have hkI : (k : Int) < (e : Int) := by have := hf.out; omega
                    have hks : k < s.size := by have := hf.out; omega
                    have hix := fun W => hidx W k hks
                    have hdg := bt_digit hall.out hks
                    have hst := vD_sg_step (s := s) hfk hks
                    obtain ⟨x, hx⟩ : ∃ x : Nat, (bt s k).toNat = x := ⟨_, rfl⟩
                    obtain ⟨y, hy⟩ : ∃ y : Nat, vD (sg (bl s) f k) = y := ⟨_, rfl⟩
                    obtain ⟨z, hz3⟩ : ∃ z : Nat, vD (sg (bl s) f (k + 1)) = z := ⟨_, rfl⟩
                    rw [hx] at hix hdg hst
                    rw [hy] at hst hn9 ⊢
                    rw [hz3] at hst
                    have hz4 := Lib.hid hz3
                    have hst := Lib.hid hst
                    clear hx hy hz3 hidx
                    rename_i hst_ hst
                    clear hst_
                    go_wp2_with fail
                    go_roundw
                    case rel => exact ⟨k + 1, by rw [hz4.out]; have := hst.out; go_num, by go_num, by have := hf.out; omega, by have := hf.out; omega, by simp⟩
                    case measure => simp [intOf]; omega
                  · obtain rfl : k = e := by have := hf.out; omega
                    obtain ⟨y, hy⟩ : ∃ y : Nat, vD (sg (bl s) f k) = y := ⟨_, rfl⟩
                    rw [hy] at hstep hn9 ⊢
                    clear hy hidx
                    go_wp2_with (at_builtin; go_must (refine wpList_append_int (w0 := w) info_int Tryz.underlying22 rfl (.tmp 52) (.tmp 54) rfl _ (ints d) rfl hown hb 1 rfl hlen ?_); intro v' w1 hown1 hb1)
                    go_roundw
                    case rel => exact ⟨(k : Int) - 9, d ++ [y], by first | rfl | rw [hef], hstep, by rw [ints_append]; exact hown1, hb1⟩
                    case measure => simp [intOf]; omega
              · have hef : (e : Int) - 9 < 0 := by omega
                have hstep := hP.step he0 hall.out (f := 0) (by omega)
                have hP := Lib.hid hP; rename_i hP_; clear hP_
                go_wp2_with fail
                go_loopw [7, 8] (fun n i w2 => ∃ k : Nat, n = .int .i64 ((vD (sg (bl s) 0 k) : Nat) : Int) ∧ i = .int .i64 (k : Int) ∧ 0 ≤ k ∧ k ≤ e ∧ w2 = wo) (fun _ i _ => e - (intOf i).toNat)
                case atStart => exact ⟨0, by rw [sg_nil]; rfl, rfl, by omega, by omega, rfl⟩
                case round =>
                  obtain ⟨k, rfl, rfl, hfk, hke, rfl⟩ := hrel
                  have hn9 := vD_sg_lt hall.out (l := bl s) (a := 0) (b := k) (by omega) (by omega)
                  rcases Nat.lt_or_ge k e with hk | hk
                  · have hkI : (k : Int) < (e : Int) := by omega
                    have hks : k < s.size := by omega
                    have hix := fun W => hidx W k hks
                    have hdg := bt_digit hall.out hks
                    have hst := vD_sg_step (s := s) hfk hks
                    obtain ⟨x, hx⟩ : ∃ x : Nat, (bt s k).toNat = x := ⟨_, rfl⟩
                    obtain ⟨y, hy⟩ : ∃ y : Nat, vD (sg (bl s) 0 k) = y := ⟨_, rfl⟩
                    obtain ⟨z, hz3⟩ : ∃ z : Nat, vD (sg (bl s) 0 (k + 1)) = z := ⟨_, rfl⟩
                    rw [hx] at hix hdg hst
                    rw [hy] at hst hn9 ⊢
                    rw [hz3] at hst
                    have hz4 := Lib.hid hz3
                    have hst := Lib.hid hst
                    clear hx hy hz3 hidx
                    rename_i hst_ hst
                    clear hst_
                    go_wp2_with fail
                    go_roundw
                    case rel => exact ⟨k + 1, by rw [hz4.out]; have := hst.out; go_num, by go_num, by omega, by omega, by simp⟩
                    case measure => simp [intOf]; omega
                  · obtain rfl : k = e := by omega
                    obtain ⟨y, hy⟩ : ∃ y : Nat, vD (sg (bl s) 0 k) = y := ⟨_, rfl⟩
                    rw [hy] at hstep hn9 ⊢
                    clear hy hidx
                    go_wp2_with (at_builtin; go_must (refine wpList_append_int (w0 := w) info_int Tryz.underlying22 rfl (.tmp 52) (.tmp 54) rfl _ (ints d) rfl hown hb 1 rfl hlen ?_); intro v' w1 hown1 hb1)
                    go_roundw
                    case rel => exact ⟨(k : Int) - 9, d ++ [y], by first | rfl | rw [hef], hstep, by rw [ints_append]; exact hown1, hb1⟩
                    case measure => simp [intOf]; omega
            · have hv := Lib.hid (hP.stop hE)
              have hE0 : ¬ (0 : Int) < E' := by omega
              obtain ⟨A, c, hvv, ho⟩ := hown.own (by rw [ints_len]; omega)
              subst hvv
              have hdg := hP.digs
              clear hP hidx
              go_wp2_with (go_at_call 134; refine (l02Trim_any _ (OwI.rd ho) hdg).mono ?_; rintro e w1 ⟨m, rfl, hm, ht, q, rfl⟩)
              go_ret2
              exact ⟨.inl ⟨hg.out, _, _, _, rfl, by rw [hv.out]; exact (OwI.q ho ⟨q, rfl⟩).cutN hm ht⟩, slc⟩
      · have h1i : ¬ (1 : Int) < (s.size : Int) := by omega
        have hg : Hid (goodN (bl s) = true) := Lib.hid (by rw [hgd]; simp [show s.size = 1 by omega])
        clear hgd
        go_enter Tryz.func79, Tryz.ntmps79
        go_wp2_with (go_at_call 133; refine (sIsDigits_any _ _ (by omega)).mono ?_; rw [hd]; rintro e w1 ⟨rfl, q1, rfl⟩)
        go_loopw [4, 5] (fun v E wr => ∃ (E' : Int) (d : List Nat), E = .int .i64 E' ∧ PRel (bl s) E' d ∧ OwL 3 w.heap.size wr v (ints d) ∧ Bl w wr) (fun _ E _ => (intOf E).toNat)
        case atStart => exact ⟨_, [], rfl, by have := PRel.start (bl s); rw [bl_len] at this; exact this, OwL.empty (cur := #[]) (w.drewN q1) (Nat.le_refl _) (Nat.zero_le _), slc⟩
        case round =>
          obtain ⟨E', d, rfl, hP, hown, hb⟩ := hrel
          have hlo := hP.lo
          have hle := hP.len
          rw [bl_len] at hle
          have hdl := hP.short (by rw [bl_len]; exact h540)
          have hlen : (ints d).length ≤ 1099511627776 := by rw [ints_len]; omega
          rcases Int.lt_or_le 0 E' with hE | hE
          · obtain ⟨e, rfl⟩ : ∃ e : Nat, E' = (e : Int) := ⟨E'.toNat, by omega⟩
            have he0 : 0 < e := by omega
            have hes : e ≤ s.size := by omega
            have hbls := bl_len s
            obtain ⟨wo, hwo⟩ : ∃ wo : World, wo = wr := ⟨_, rfl⟩
            subst hwo
            by_cases h9 : 9 ≤ e
            · omega
            · have hef : (e : Int) - 9 < 0 := by omega
              have hstep := hP.step he0 hall.out (f := 0) (by omega)
              have hP := Lib.hid hP; rename_i hP_; clear hP_
              go_wp2_with fail
              go_loopw [7, 8] (fun n i w2 => ∃ k : Nat, n = .int .i64 ((vD (sg (bl s) 0 k) : Nat) : Int) ∧ i = .int .i64 (k : Int) ∧ 0 ≤ k ∧ k ≤ e ∧ w2 = wo) (fun _ i _ => e - (intOf i).toNat)
              case atStart => exact ⟨0, by rw [sg_nil]; rfl, rfl, by omega, by omega, rfl⟩
              case round =>
                obtain ⟨k, rfl, rfl, hfk, hke, rfl⟩ := hrel
                have hn9 := vD_sg_lt hall.out (l := bl s) (a := 0) (b := k) (by omega) (by omega)
                rcases Nat.lt_or_ge k e with hk | hk
                · have hkI : (k : Int) < (e : Int) := by omega
                  have hks : k < s.size := by omega
                  have hix := fun W => hidx W k hks
                  have hdg := bt_digit hall.out hks
                  have hst := vD_sg_step (s := s) hfk hks
                  obtain ⟨x, hx⟩ : ∃ x : Nat, (bt s k).toNat = x := ⟨_, rfl⟩
                  obtain ⟨y, hy⟩ : ∃ y : Nat, vD (sg (bl s) 0 k) = y := ⟨_, rfl⟩
                  obtain ⟨z, hz3⟩ : ∃ z : Nat, vD (sg (bl s) 0 (k + 1)) = z := ⟨_, rfl⟩
                  rw [hx] at hix hdg hst
                  rw [hy] at hst hn9 ⊢
                  rw [hz3] at hst
                  have hz4 := Lib.hid hz3
                  have hst := Lib.hid hst
                  clear hx hy hz3 hidx
                  rename_i hst_ hst
                  clear hst_
                  go_wp2_with fail
                  go_roundw
                  case rel => exact ⟨k + 1, by rw [hz4.out]; have := hst.out; go_num, by go_num, by omega, by omega, by simp⟩
                  case measure => simp [intOf]; omega
                · obtain rfl : k = e := by omega
                  obtain ⟨y, hy⟩ : ∃ y : Nat, vD (sg (bl s) 0 k) = y := ⟨_, rfl⟩
                  rw [hy] at hstep hn9 ⊢
                  clear hy hidx
                  go_wp2_with (at_builtin; go_must (refine wpList_append_int (w0 := w) info_int Tryz.underlying22 rfl (.tmp 52) (.tmp 54) rfl _ (ints d) rfl hown hb 1 rfl hlen ?_); intro v' w1 hown1 hb1)
                  go_roundw
                  case rel => exact ⟨(k : Int) - 9, d ++ [y], by first | rfl | rw [hef], hstep, by rw [ints_append]; exact hown1, hb1⟩
                  case measure => simp [intOf]; omega
          · have hv := Lib.hid (hP.stop hE)
            have hE0 : ¬ (0 : Int) < E' := by omega
            obtain ⟨A, c, hvv, ho⟩ := hown.own (by rw [ints_len]; omega)
            subst hvv
            have hdg := hP.digs
            clear hP hidx
            go_wp2_with (go_at_call 134; refine (l02Trim_any _ (OwI.rd ho) hdg).mono ?_; rintro e w1 ⟨m, rfl, hm, ht, q, rfl⟩)
            go_ret2
            exact ⟨.inl ⟨hg.out, _, _, _, rfl, by rw [hv.out]; exact (OwI.q ho ⟨q, rfl⟩).cutN hm ht⟩, slc⟩
    · have hg : Hid (goodN (bl s) = false) := Lib.hid (by rw [hgd]; simp [h540])
      have h5 : (540 : Int) < (s.size : Int) := by omega
      clear hgd hidx
      go_enter Tryz.func79, Tryz.ntmps79
      go_wp2_with (go_at_call 133; refine (sIsDigits_any _ _ (by omega)).mono ?_; rw [hd]; rintro e w1 ⟨rfl, q1, rfl⟩)
      go_ret2
      exact ⟨.inr ⟨hg.out, rfl⟩, slc⟩
end

end Go.Proofs.YtjaapemopbbfaaaGreatDoor
