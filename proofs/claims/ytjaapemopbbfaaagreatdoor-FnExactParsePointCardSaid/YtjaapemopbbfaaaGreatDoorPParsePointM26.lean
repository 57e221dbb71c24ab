/- Lemmas. -/
import Derived.Test.YtjaapemopbbfaaaGreatDoorRows
import Derived.Test.YtjaapemopbbfaaaGreatDoorPParsePointM15
import Derived.Test.YtjaapemopbbfaaaGreatDoorPParsePointM16
import Derived.Test.YtjaapemopbbfaaaGreatDoorPParsePointM17
import Derived.Test.YtjaapemopbbfaaaGreatDoorPParsePointM25
import Derived.OwnWalkIn
import Derived.TacticsInMore
import Derived.LoopIn
namespace Go.Proofs.YtjaapemopbbfaaaGreatDoor
section
open Go.RowKit

attribute [local go_sem] Oper.semAt_some

set_option maxRecDepth 100000 in
set_option maxHeartbeats 16000000 in
theorem Backward1_gen (n : Nat) (hn : 1 ≤ n) {Bx b len cap : Nat} {a : Option Addr} {zs : List Int} {w : World} (h : RdI w a len cap zs) (hb : ∀ ad, a = some ad → ad.block = b) (hBs : Bx < w.heap.size) (hlen : len ≤ 1000000) (hB : w.cell? ⟨Bx, 0, none⟩ = some (.slice a len cap)) :
    CntSeq n Tryz.prog 193 #[.pointer (some ⟨Bx, 0, none⟩)] (fun k => #[.int .i64 ((len - 1 - k : Nat) : Int), .int .i64 (ix zs (len - 1 - k))]) [Bx, b] len w := fun l J Jx W hW hA hY h0 => by
  have hB := (hW.cell (p := ⟨Bx, 0, none⟩) hBs).trans hB
  have h := h.bl hW
  refine callsIn_of_wp Tryz.func193 rfl trivial ?_ rfl
  simp only [Tryz.ntmps193, List.size_toArray, List.length_cons, List.length_nil, Nat.reduceAdd, Nat.reduceSub, Array.replicate_succ, Array.replicate_zero, List.push_toArray, List.append_toArray, List.nil_append, List.cons_append]
  gi_wp2
  gi_loopw [3] (fun i wr => ∃ k j : Nat, k + j = len ∧ i = .int .i64 ((j : Int) - 1) ∧ J k wr ∧ Kps [Bx, b] W wr) (fun i _ => (intOf i + 1).toNat)
  case atStart => exact ⟨0, len, by omega, rfl, h0, Kps.refl _ _⟩
  case round =>
    obtain ⟨k, j, hkj, rfl, hJ, hnx⟩ := hrel
    have hB := (hnx.cell (p := ⟨Bx, 0, none⟩) (by simp)).trans hB
    rcases Nat.eq_zero_or_pos j with rfl | hj
    · have hm1 : ¬ (0 : Int) ≤ ((0 : Nat) : Int) - 1 := by omega
      gi_wp2
      go_end0
      exact ⟨⟨_, rfl⟩, .inl (by rw [← hkj]; exact hJ)⟩
    · obtain ⟨i, rfl⟩ : ∃ i, j = i + 1 := ⟨j - 1, by omega⟩
      obtain ⟨ad, rfl, _, hc⟩ := h.at_ (k := i) (by omega)
      have hci := (hnx.cell (p := ad.add i) (by rw [block_add, hb ad rfl]; simp)).trans hc
      obtain ⟨fn, tmps, assign, body, hy, hR⟩ := hY k wr hJ (by omega)
      rw [show len - 1 - k = i by omega] at hy
      rw [show (((i + 1 : Nat) : Int) - 1) = (i : Int) by omega]
      have hi0 : (0 : Int) ≤ (i : Int) := by omega
      have hil : (i : Int) < (len : Int) := by omega
      gi_wp2
      refine hR.mono ?_
      rintro e W3 (⟨rfl, hJ3, hk3⟩ | ⟨rfl, hJx3⟩)
      · gi_wp2
        go_roundw
        case rel => exact ⟨k + 1, i, by omega, by go_num, hJ3, hnx.trans hk3⟩
        case measure => simp [intOf]
      · gi_wp2
        refine bodyPost_ret (results_none rfl _ _ _) rfl ?_
        exact ⟨⟨_, rfl⟩, .inr ⟨_, hJx3⟩⟩

set_option maxRecDepth 100000 in
set_option maxHeartbeats 32000000 in
theorem FormatNat_any (w : World) {A : Option Addr} {n c N : Nat} (h : IsN w A n c N) (hn : n ≤ 60) (hE : Env w) :
    Calls Tryz.prog 99 #[.slice A n c] w fun e w' => e = .returned (.string (sb (dD N))) ∧ Bl w w' := by
  have hl := h.lenN
  have hlH := Lib.hid hl
  have hok := okN_dig (N := N) (by rw [hl]; exact hn)
  have hcap := h.cap
  have h540 := Lib.hid (dD_len540 (N := N) (by rw [hl]; exact hn))
  have hE := Lib.hid hE; rename_i hE_; clear hE_
  rcases Nat.eq_zero_or_pos n with rfl | hpos
  · obtain rfl : N = 0 := dig_nil.1 (List.length_eq_zero_iff.1 hl)
    have h0 : Hid (dD 0 = [48]) := Lib.hid (by rw [dD_small (by omega)]; rfl)
    clear hl
    go_enter Tryz.func99, Tryz.ntmps99
    go_wp2_with (go_at_call 103; refine (NatOk_any _ h).mono ?_; rw [hok]; rintro e w1 ⟨rfl, q1, rfl⟩)
    go_ret
    exact ⟨by rw [h0.out]; rfl, slc⟩
  · have hN0 : 0 < N := dig_len_pos.1 (by rw [hl]; exact hpos)
    have hjoin : Hid (dD N = dD (dx (dig N) (n - 1)) ++ lowD ((dig N).take (n - 1))) := Lib.hid (by rw [← hl]; exact dD_dig hN0)
    clear hl
    obtain ⟨ad, rfl, hlt, hc⟩ := h.atN (k := n - 1) (by omega)
    have hx := dx_dig_lt N (n - 1)
    obtain ⟨m, rfl⟩ : ∃ m, n = m + 1 := ⟨n - 1, by omega⟩
    have hn0 : ¬ ((m + 1 : Nat) : Int) = 0 := by omega
    have e1 : ((m + 1 : Nat) : Int) - 1 = (m : Int) := by omega
    rw [Nat.add_sub_cancel] at hc hx hjoin
    have hmm : (m : Int) < ((m + 1 : Nat) : Int) := by omega
    have hmc : (m : Int) ≤ (c : Int) := by omega
    have hmle : m ≤ c := by omega
    refine (callsIn_wide (n := 5)).1 ?_
    refine callsIn_of_wp_marks Tryz.func99 rfl trivial ?_ rfl
    simp only [Tryz.ntmps99, List.size_toArray, List.length_cons, List.length_nil, Nat.reduceAdd, Nat.reduceSub, Array.replicate_succ, Array.replicate_zero, List.push_toArray, List.append_toArray, List.nil_append, List.cons_append]
    refine wpIn_wide.2 ?_
    go_upto_region 6 with (go_at_call 103; refine (NatOk_any _ h).mono ?_; rw [hok]; rintro e w1 ⟨rfl, hq1⟩; have hb1 : Bl w w1 := q_bl hq1; clear hq1)
    have hsz1 := hb1.size
    refine wp_gen (fun W => Bl w W ∧ ∃ b, BdX w1.heap.size b [] [] W ∧ b = w1.heap.size) ⟨slc, _, BdX.fresh w1 [] (by simp), rfl⟩ ?_
    rintro W0 ⟨hb0, b, hBd, hbe⟩
    rw [← hbe]
    have hbw : w.heap.size ≤ b := by omega
    clear hbe
    have hc0 := (Bl.cellOf hb0 (p := ad.add m) (by rw [block_add]; exact hlt)).trans hc
    have hdl := dD_len19 (N := dx (dig N) m) (by omega)
    have hsz0 := hb0.size
    have hsz01 : w1.heap.size ≤ W0.heap.size := by have := hBd.lt; have := hBd.le; omega
    go_upto_region 8 with (first | (go_at_call 77; refine (FormatInt_any _ (dx (dig N) m) (by omega) (hE.out.bl hb0)).mono ?_; rintro e w2 ⟨rfl, hb2⟩; have hbW := hb0.next hb2; have hBd2 := hBd.bl hb2) | (go_at_call 121; refine (WriteString_any w1.heap.size b [] (dD (dx (dig N) m)) [] _ hBd2 (by simp; omega) (Nat.le_trans hsz01 hb2.size) (by simp)).mono ?_; rintro e w3 ⟨rfl, hBd3, hB3, _, _⟩; have hb3 : Bl w w3 := Below.trans hbW (hB3.mono hsz1)))
    clear hc0 hBd hBd2 hB3
    have hmr : (m : Int) ≤ ((m + 1 : Nat) : Int) := by omega
    go_wp2_with (go_at_call 148; refine (Backward_any _ _ _ _).mono ?_; rintro e w6 ⟨rfl, hb6, hBox⟩)
    have hb36 := hb3.next hb6
    have hsz3 := hb3.size
    have hsz6 := hb6.size
    have hbx6 := hBox.lt
    have hRd := (h.cut (m := m) (by omega)).bl hb36
    have hBd6 : BdX w1.heap.size b (dD (dx (dig N) m)) [w3.heap.size, w6.heap.size, w6.heap.size + 1] w6 := (hBd3.sub fun y hy => by simp at hy; omega).bl hb6
    have hb1le := hBd6.le
    have hblt := hBd3.lt
    have hm60 : m ≤ 60 := by omega
    have htop : Hid (dD N = dD (dx (dig N) m) ++ lowD ((dig N).take (m - 0))) := by rw [Nat.sub_zero]; exact hjoin
    refine (wpIn_wide (n := 5)).1 ?_
    refine wp_rangeCnt (by omega) (gf := 193) (lb := #[.pointer (some ⟨w3.heap.size, 0, none⟩)]) rfl (enters_of Tryz.func193 (by kernel_rfl) rfl)
      (Backward1_gen 4 (by omega) hRd (b := ad.block) (fun ad' e => by cases e; rfl) hbx6 (by omega) (hBox.cell 0)) (by simp; omega) (fun _ => rfl)
      (fun k W => ∃ t, Hid (dD N = t ++ lowD ((dig N).take (m - k))) ∧ BdX w1.heap.size b t [w3.heap.size, w6.heap.size, w6.heap.size + 1] W ∧ Bl w W) (fun _ _ _ => False)
      (fun k A B hs ho => by
        obtain ⟨t, h1, h2, h3⟩ := hs
        exact ⟨t, h1, h2.ob (ho.mono (by intro b hb; simp at hb ⊢; omega)), Bl.ob h3 ho (by intro b hb; simp at hb; omega)⟩) (fun _ _ _ _ h _ => h)
      ⟨_, htop, hBd6, hb36⟩ (fun k a => { tmps := ((a.tmps.setIfInBounds 27 (.int .i64 ((m - 1 - k : Nat) : Int))).setIfInBounds 28 (.int .i64 (ix (ints ((dig N).take m)) (m - 1 - k)))).setIfInBounds 6 (.int .i64 (ix (ints ((dig N).take m)) (m - 1 - k))), defers := [] }) ?assign ?body ?done ?stop
    case assign =>
      intro l k W K hK
      gi_wp2
      exact hK
    case body =>
      rintro l k W hWs ⟨t, he, hB, hbW⟩ hk
      have htl : t.length ≤ 540 := by
        have h1 := congrArg List.length he.out
        have h2 := h540.out
        rw [List.length_append] at h1
        omega
      obtain ⟨j, hj⟩ : ∃ j, m - k = j + 1 := ⟨m - k - 1, by omega⟩
      have hxk := dx_dig_lt N j
      have hpl : (padZ (dD (dx (dig N) j)) 9).length ≤ 100 := by
        have := dD_len19 (N := dx (dig N) j) (by omega)
        unfold padZ; rw [List.length_append, List.length_replicate]; omega
      have hdl2 := dD_len19 (N := dx (dig N) j) (by omega)
      have he2 : Hid (dD N = (t ++ padZ (dD (dx (dig N) j)) 9) ++ lowD ((dig N).take (m - (k + 1)))) := Lib.hid (by rw [he.out, hj, lowD_take (by rw [hlH.out]; omega), List.append_assoc, show m - (k + 1) = j by omega])
      have hx0 : ix (ints ((dig N).take m)) (m - 1 - k) = ((dx (dig N) j : Nat) : Int) := by rw [ix_ints, show m - 1 - k = j by omega, dx_take (by omega)]
      rw [hx0]
      have hzW := hbW.size
      clear he hj hx0
      gi_wp2_with (first
        | (refine ⟨trivial, ?_⟩; gi_at_call 77; refine (CallsIn.inRound l (callsIn_wide.2 (FormatInt_any W (dx (dig N) j) (by omega) (hE.out.bl hbW)))).mono ?_; rintro e w7 ⟨rfl, hb7⟩; have hB7 := hB.bl hb7)
        | (refine ⟨trivial, ?_⟩; gi_at_call 149; refine (CallsIn.inRound l (callsIn_wide.2 (PadZeros_any w7 (dD (dx (dig N) j)) 9 (by omega) (by omega)))).mono ?_; rintro e w8 ⟨rfl, hb8⟩; have hB8 := hB7.bl hb8)
        | (refine ⟨trivial, ?_⟩; gi_at_call 121; refine (CallsIn.inRound l (callsIn_wide.2 (WriteString_any w1.heap.size b t (padZ (dD (dx (dig N) j)) 9) [w3.heap.size, w6.heap.size, w6.heap.size + 1] w8 hB8 (by omega) (by have := hb7.size; have := hb8.size; omega) (fun x hx => by simp at hx; have := hb7.size; have := hb8.size; omega)))).mono ?_; rintro e w9 ⟨rfl, hB9, hbl9, hko9, hkp9⟩))
      have h78 : Bl W w8 := hb7.next hb8
      have hs8 := h78.size
      refine ⟨(Bl.others h78).trans hko9, ?_, ⟨_, he2, hB9, Below.trans (hbW.next h78) (hbl9.mono hsz1)⟩⟩
      intro x hx
      simp only [List.mem_cons, List.not_mem_nil, or_false] at hx
      rcases hx with rfl | rfl
      · exact (hkp9 _ (by simp)).trans (h78.block _ (by omega))
      · exact (hbl9.block _ (by omega)).trans (h78.block _ (by omega))
    case done =>
      rintro D W hD ⟨t, he, hB, hbW⟩ hK
      subst hD
      rw [Nat.sub_self, List.take_zero, lowD, List.append_nil] at he
      have hBz : w1.heap.size ≤ W.heap.size := by have := hB.le; have := hB.lt; omega
      have hbD : b ≠ w6.heap.size := by omega
      go_wp2_with (go_at_call 122; refine (Tryz.Builder_String_any_k w1.heap.size b t _ (Lib.IsBuilderF.of hB.is) hBz).mono ?_; rintro e w9 ⟨rfl, _, hbl9, hO9⟩)
      have hK9 := hO9 _ _ hK (by intro e; cases e; exact hbD rfl) (by intro c fz e; cases e)
      refine ⟨by simp, .inl ⟨_, _, rfl, run_takeDeferred hK9, ?_⟩⟩
      have hbw9 : Bl w w9 := Below.trans hbW (hbl9.mono hsz1)
      have hO : Ob [w6.heap.size] w9 (w9.putObj w6.heap.size (.deferred none)) := ⟨rfl, rfl, rfl, by simp, fun k _ hn => World.putObj_heap_other (fun e => hn (by rw [e]; simp))⟩
      exact ⟨.string (sb (dD N)), by rw [he.out]; simp [results, Tryz.results99, go_sem, sb], ⟨rfl, Bl.ob hbw9 hO (by intro b hb; simp at hb; omega)⟩⟩
    case stop =>
      rintro D c k W _ h _
      exact h.elim
end

end Go.Proofs.YtjaapemopbbfaaaGreatDoor
