/- Lemmas. -/
import Derived.Test.YtjaapemopbbfaaaGreatDoorRows
import Derived.Test.YtjaapemopbbfaaaGreatDoorPParsePointM26
import Derived.Test.YtjaapemopbbfaaaGreatDoorPParsePointM23
import Derived.Lib.ConvBytes
namespace Go.Proofs.YtjaapemopbbfaaaGreatDoor
section
open Go.RowKit

set_option maxRecDepth 100000 in
/-- The bytes of a part of a string, in memory. -/
theorem conv_part (w : World) (s : ByteArray) {f e : Nat} (hfe : f ≤ e) (hes : e ≤ s.size) :
    ∃ (cap : Nat) (W : World), (convert 9 34 (.string (s.extract f e))).run Tryz.prog w = .ok (.slice (some ⟨w.heap.size, 0, none⟩) (e - f) cap) W ∧ Bl w W ∧ w.heap.size < W.heap.size ∧ ∀ j, j < e - f → W.cell? ⟨w.heap.size, j, none⟩ = some (.int .u8 ((bt s (f + j)).toNat : Int)) := by
  have hsz : (s.extract f e).size = e - f := by rw [ByteArray.size_extract]; omega
  have hr := Lib.run_convert_string_bytes (P := Tryz.prog) w 9 34 5 (s.extract f e) Tryz.underlying9 Tryz.underlying34 Tryz.underlying5
  rw [hsz] at hr
  refine ⟨_, _, hr, ⟨rfl, rfl, rfl, by rw [Lib.bytesWorld_size]; omega, fun k hk => Lib.bytesWorld_at_old w 5 _ k hk⟩, by rw [Lib.bytesWorld_size]; omega, fun j hj => ?_⟩
  rw [Lib.bytesWorld_cell w 5 _ j (by rw [hsz]; exact hj), Lib.extract_data]
  congr 3
  unfold bt
  rw [List.getD_eq_getElem?_getD, List.getD_eq_getElem?_getD, List.getElem?_take, if_pos hj, List.getElem?_drop]
theorem vD_sg_stepk {s : ByteArray} {f k : Nat} (hi : f + k < s.size) : vD (sg (bl s) f (f + (k + 1))) = 10 * vD (sg (bl s) f (f + k)) + ((bt s (f + k)).toNat - 48) := vD_sg_step (s := s) (f := f) (i := f + k) (Nat.le_add_right _ _) hi

set_option maxHeartbeats 12800000 in
set_option maxRecDepth 100000 in
theorem ParseNat_any (w : World) (s : ByteArray) (hs : s.size ≤ 1048576) (hE : Env w) :
    Calls Tryz.prog 83 #[.string s] w (NatRes w s) := by
  have hE := Lib.hid hE; rename_i hE_; clear hE_
  cases hd : isDgs (bl s) with
  | false =>
    have hg : Hid (goodN (bl s) = false) := Lib.hid (by unfold goodN; rw [hd]; rfl)
    go_enter Tryz.func83, Tryz.ntmps83
    go_wp2_with (go_at_call 140; refine (IsDigits_any _ _ (by omega)).mono ?_; rw [hd]; rintro e w1 ⟨rfl, q1, rfl⟩)
    go_ret2
    exact ⟨.inr ⟨hg.out, rfl⟩, slc⟩
  | true =>
    have hpos := isDgs_pos hd
    have hall := Lib.hid (isDgs_all hd)
    by_cases h540 : s.size ≤ 540
    · have h5 : ¬ (540 : Int) < (s.size : Int) := by omega
      go_enter Tryz.func83, Tryz.ntmps83
      go_wp2_with (go_at_call 140; refine (IsDigits_any _ _ (by omega)).mono ?_; rw [hd]; rintro e w1 ⟨rfl, hq1⟩; have hb1 : Bl w w1 := q_bl hq1; clear hq1)
      go_loopw [4, 5] (fun v E wr => ∃ (E' : Int) (d : List Nat), E = .int .i64 E' ∧ PRel (bl s) E' d ∧ OwL 3 w.heap.size wr v (ints d) ∧ Bl w wr) (fun _ E _ => (intOf E).toNat)
      case atStart => exact ⟨_, [], rfl, by have := PRel.start (bl s); rw [bl_len] at this; exact this, OwL.empty (cur := #[]) w1 hb1.size (Nat.zero_le _), slc⟩
      case round =>
        obtain ⟨E', d, rfl, hP, hown, hb⟩ := hrel
        have hlo := hP.lo
        have hle := hP.len
        rw [bl_len] at hle
        have hdl := hP.short (by rw [bl_len]; exact h540)
        have hlen : (ints d).length ≤ 1099511627776 := by rw [ints_len]; omega
        rcases Int.lt_or_le 0 E' with hE' | hE'
        · obtain ⟨e, rfl⟩ : ∃ e : Nat, E' = (e : Int) := ⟨E'.toNat, by omega⟩
          have he0 : 0 < e := by omega
          have hes : e ≤ s.size := by omega
          have hbls := bl_len s
          obtain ⟨f, hf⟩ : ∃ f, f = e - 9 := ⟨_, rfl⟩
          have hmax : max (0 : Int) ((e : Int) - 9) = (f : Int) := by omega
          have hfe : (f : Int) ≤ (e : Int) := by omega
          have hei : (e : Int) ≤ (s.size : Int) := by omega
          have hstep := hP.step he0 hall.out (f := f) (by omega)
          have hf := Lib.hid hf; rename_i hf_; clear hf_
          clear hP
          obtain ⟨cap, Wc, hcv, hbc, hgc, hcc⟩ := conv_part wr s (f := f) (e := e) (by omega) hes
          have hbW := hb.next hbc
          have hownc := hown.bl hbc
          obtain ⟨g, hg⟩ : ∃ g, wr.heap.size = g := ⟨_, rfl⟩
          rw [hg] at hcv hcc hgc
          obtain ⟨n, hn⟩ : ∃ n, e - f = n := ⟨_, rfl⟩
          rw [hn] at hcv hcc
          have hn9 : n ≤ 9 := by have := hf.out; omega
          have hfn : f + n = e := by omega
          obtain ⟨wo, hwo⟩ : ∃ wo : World, wo = Wc := ⟨_, rfl⟩
          subst hwo
          clear hg hn hown
          go_wp2_with fail
          clear hcv
          go_loopw [6, 32] (fun x i w2 => ∃ k : Nat, x = .int .i64 ((vD (sg (bl s) f (f + k)) : Nat) : Int) ∧ i = .int .i64 (k : Int) ∧ k ≤ n ∧ w2 = wo) (fun _ i _ => n - (intOf i).toNat)
          case atStart => exact ⟨0, by rw [Nat.add_zero, sg_nil]; rfl, rfl, by omega, rfl⟩
          case round =>
            obtain ⟨k, rfl, rfl, hkn, rfl⟩ := hrel
            have hx9 := vD_sg_lt hall.out (l := bl s) (a := f) (b := f + k) (by omega) (by omega)
            rcases Nat.lt_or_ge k n with hk | hk
            · have hkI : (k : Int) < (n : Int) := by omega
              have hck := hcc k hk
              have hdg := bt_digit (i := f + k) hall.out (by omega)
              have hst := vD_sg_stepk (s := s) (f := f) (k := k) (by omega)
              obtain ⟨x, hx⟩ : ∃ x : Nat, (bt s (f + k)).toNat = x := ⟨_, rfl⟩
              obtain ⟨y, hy⟩ : ∃ y : Nat, vD (sg (bl s) f (f + k)) = y := ⟨_, rfl⟩
              obtain ⟨z, hz3⟩ : ∃ z : Nat, vD (sg (bl s) f (f + (k + 1))) = z := ⟨_, rfl⟩
              rw [hx] at hck hdg hst
              rw [hy] at hst hx9 ⊢
              rw [hz3] at hst
              have hz4 := Lib.hid hz3
              have hst2 := Lib.hid hst
              clear hx hy hz3 hst hcc
              go_wp2_with fail
              go_roundw
              case rel => exact ⟨k + 1, by rw [hz4.out]; have := hst2.out; go_num, by go_num, by omega, by simp⟩
              case measure => simp [intOf]; omega
            · obtain rfl : k = n := by omega
              obtain ⟨y, hy⟩ : ∃ y : Nat, vD (sg (bl s) f e) = y := ⟨_, rfl⟩
              have hfn2 := Lib.hid hfn
              rw [hfn, hy]
              rw [hfn, hy] at hx9
              rw [hy] at hstep
              clear hy hfn hcc
              go_wp2_with (at_builtin; go_must (refine wpList_append_int (w0 := w) info_int Tryz.underlying22 rfl (.tmp 43) (.tmp 45) rfl _ (ints d) rfl hownc hbW 1 rfl hlen ?_); intro v' w1 hown1 hb1)
              go_roundw
              case rel => exact ⟨(e : Int) - 9, d ++ [y], by first | rfl | go_num, hstep, by rw [ints_append]; exact hown1, hb1⟩
              case measure => simp [intOf]; omega
        · have hv := Lib.hid (hP.stop hE')
          have hE0 : ¬ (0 : Int) < E' := by omega
          obtain ⟨A, c, hvv, ho⟩ := hown.own (by rw [ints_len]; omega)
          subst hvv
          have hdg := hP.digs
          clear hP
          have hcmp : ((sb (dD (vD (bl s)))).toList == s.toList) = goodN (bl s) := by
            rw [Bool.eq_iff_iff, goodN_iff, bl_toList, bl_toList, bl_sb, beq_iff_eq]
            exact ⟨fun h => ⟨h, by rw [bl_len]; exact h540⟩, fun h => h.1⟩
          cases hg : goodN (bl s) with
          | true =>
            rw [hg] at hcmp
            have hg := Lib.hid hg; rename_i hg_; clear hg_
            go_wp2_with (first | (go_at_call 141; refine (trimmed_any _ (OwI.rd ho) hdg).mono ?_; rintro e w1 ⟨m, rfl, hm, ht, hq⟩; have ho1 : OwI 3 w.heap.size w1 A m c (ints (dig (vD (bl s)))) := by { rw [hv.out]; exact (OwI.q ho hq).cutN hm ht }; have hbt := hb.next (q_bl hq); clear hq) | (go_at_call 99; refine (FormatNat_any _ ho1.rd (by rw [ints_len] at hm; omega) (hE.out.bl hbt)).mono ?_; rintro e w2 ⟨rfl, hb2⟩))
            go_ret2
            exact ⟨.inl ⟨hg.out, _, _, _, rfl, ho1.bl hb2⟩, hbt.next hb2⟩
          | false =>
            rw [hg] at hcmp
            have hg := Lib.hid hg; rename_i hg_; clear hg_
            go_wp2_with (first | (go_at_call 141; refine (trimmed_any _ (OwI.rd ho) hdg).mono ?_; rintro e w1 ⟨m, rfl, hm, ht, hq⟩; have ho1 : OwI 3 w.heap.size w1 A m c (ints (dig (vD (bl s)))) := by { rw [hv.out]; exact (OwI.q ho hq).cutN hm ht }; have hbt := hb.next (q_bl hq); clear hq) | (go_at_call 99; refine (FormatNat_any _ ho1.rd (by rw [ints_len] at hm; omega) (hE.out.bl hbt)).mono ?_; rintro e w2 ⟨rfl, hb2⟩))
            go_ret2
            exact ⟨.inr ⟨hg.out, rfl⟩, hbt.next hb2⟩
    · have hg : Hid (goodN (bl s) = false) := Lib.hid (by unfold goodN; rw [hd, bl_len]; simp [h540])
      have h5 : (540 : Int) < (s.size : Int) := by omega
      go_enter Tryz.func83, Tryz.ntmps83
      go_wp2_with (go_at_call 140; refine (IsDigits_any _ _ (by omega)).mono ?_; rw [hd]; rintro e w1 ⟨rfl, q1, rfl⟩)
      go_ret2
      exact ⟨.inr ⟨hg.out, rfl⟩, slc⟩
end

end Go.Proofs.YtjaapemopbbfaaaGreatDoor
