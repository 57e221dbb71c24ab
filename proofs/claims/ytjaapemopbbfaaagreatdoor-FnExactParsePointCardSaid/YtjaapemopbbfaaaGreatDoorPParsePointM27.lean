/- Lemmas. -/
import Derived.Test.YtjaapemopbbfaaaGreatDoorRows
import Derived.Test.YtjaapemopbbfaaaGreatDoorPParsePointM26
import Derived.Test.YtjaapemopbbfaaaGreatDoorPParsePointM12
import Derived.Test.YtjaapemopbbfaaaGreatDoorPParsePointM21
namespace Go.Proofs.YtjaapemopbbfaaaGreatDoor
section
open Go.RowKit

theorem okB_dig {s : Bool} {x : Int} (hs : s = decide (x < 0)) (h : (dig x.natAbs).length ≤ 60) : okB s (ints (dig x.natAbs)) = true := by
  refine okB_yes ⟨⟨_, rfl, h⟩, fun e => ?_⟩
  rw [ints_len]
  rw [hs] at e
  exact dig_len_pos.2 (by have := of_decide_eq_true e; omega)
theorem itx_len {x : Int} (h : (dig x.natAbs).length ≤ 60) : (itx x).length ≤ 541 := by
  have := dD_len540 h
  unfold itx
  split
  · rw [List.length_cons]; omega
  · omega
open Classical in
/-- The text of what reads as x / D: empty, if that is not valid. -/
noncomputable def rtx (x : Int) (D : Nat) : List UInt8 := if okR (raw x D) = true then ftx x D else []

set_option maxHeartbeats 6400000 in
set_option maxRecDepth 100000 in
theorem FormatBigInt_any (w : World) {s : Bool} {A : Option Addr} {n c : Nat} {x : Int} (h : IsB w s A n c x) (hn : n ≤ 60) (hE : Env w) :
    Calls Tryz.prog 98 #[.agg #[.bool s, .slice A n c]] w fun e w' => e = .returned (.string (sb (itx x))) ∧ Bl w w' := by
  have hE := Lib.hid hE; rename_i hE_; clear hE_
  have hl := h.2.lenN
  have h60 : (dig x.natAbs).length ≤ 60 := by rw [hl]; exact hn
  have hok := okB_dig h.1 h60
  have hsz := Lib.hid (dD_len540 h60)
  clear hl h60
  rcases Int.lt_or_le x 0 with hx | hx
  · obtain rfl : s = true := by rw [h.1]; exact decide_eq_true hx
    have hi : Hid (itx x = [45] ++ dD x.natAbs) := Lib.hid (by unfold itx; rw [if_pos hx]; rfl)
    have hadd : ∀ W, (Op.stringOp .add ⟨#[45]⟩ (sb (dD x.natAbs))).run Tryz.prog W = .ok (.string (sb ([45] ++ dD x.natAbs))) W := fun W => add_str (P := Tryz.prog) W [45] (dD x.natAbs) (by simp) (by have := hsz.out; omega)
    go_enter Tryz.func98, Tryz.ntmps98
    go_upto_region 1 with (fail)
    refine wp_gen (fun W => Bl w W ∧ ∃ g, Blk W g 24 #[.bool true, .slice A n c] ∧ g = w.heap.size) ⟨slc, _, by exact bts, rfl⟩ ?_
    rintro W0 ⟨hb0, g, hg, hge⟩
    rw [← hge]
    clear hge
    obtain ⟨r0, r1⟩ := bx2 hg
    go_wp2_with (first
      | (go_at_call 102; refine (BigIntOk_any _ (h.2.bl hb0)).mono ?_; rw [hok]; rintro e w1 ⟨rfl, hb1⟩; obtain ⟨y0, y1⟩ := bx2 (hg.bl hb1); have hbw1 := hb0.next hb1)
      | (go_at_call 99; refine (FormatNat_any _ (h.2.bl hbw1) hn (hE.out.bl hbw1)).mono ?_; rintro e w2 ⟨rfl, hb2⟩))
    go_ret
    exact ⟨by rw [hi.out]; rfl, slc⟩
  · obtain rfl : s = false := by rw [h.1]; exact decide_eq_false (by omega)
    have hi : Hid (itx x = dD x.natAbs) := Lib.hid (by unfold itx; rw [if_neg (by omega)])
    go_enter Tryz.func98, Tryz.ntmps98
    go_upto_region 1 with (fail)
    refine wp_gen (fun W => Bl w W ∧ ∃ g, Blk W g 24 #[.bool false, .slice A n c] ∧ g = w.heap.size) ⟨slc, _, by exact bts, rfl⟩ ?_
    rintro W0 ⟨hb0, g, hg, hge⟩
    rw [← hge]
    clear hge
    obtain ⟨r0, r1⟩ := bx2 hg
    go_wp2_with (first
      | (go_at_call 102; refine (BigIntOk_any _ (h.2.bl hb0)).mono ?_; rw [hok]; rintro e w1 ⟨rfl, hb1⟩; obtain ⟨y0, y1⟩ := bx2 (hg.bl hb1); have hbw1 := hb0.next hb1)
      | (go_at_call 99; refine (FormatNat_any _ (h.2.bl hbw1) hn (hE.out.bl hbw1)).mono ?_; rintro e w2 ⟨rfl, hb2⟩))
    go_ret
    exact ⟨by rw [hi.out]; rfl, slc⟩

set_option maxHeartbeats 6400000 in
set_option maxRecDepth 100000 in
theorem FormatRat_any (w : World) {s : Bool} {A : Option Addr} {n c : Nat} {B : Option Addr} {m d : Nat} {x : Int} {D : Nat} (h : IsR w s A n c B m d x D) (hn : n ≤ 60) (hm : m ≤ 60) (hE : Env w) :
    Calls Tryz.prog 45 #[.agg #[.bool s, .slice A n c, .slice B m d]] w fun e w' => e = .returned (.string (sb (rtx x D))) ∧ Bl w w' := by
  have hE := Lib.hid hE; rename_i hE_; clear hE_
  cases hok : okR (raw x D) with
  | false =>
    have hr : Hid (rtx x D = []) := Lib.hid (by unfold rtx; rw [if_neg (by rw [hok]; decide)])
    go_enter Tryz.func45, Tryz.ntmps45
    go_upto_region 1 with (fail)
    refine wp_gen (fun W => Bl w W ∧ ∃ g, Blk W g 26 #[.bool s, .slice A n c, .slice B m d] ∧ g = w.heap.size) ⟨slc, _, by exact bts, rfl⟩ ?_
    rintro W0 ⟨hb0, g, hg, hge⟩
    rw [← hge]
    clear hge
    obtain ⟨r0, r1, r2⟩ := bx3 hg
    go_wp2_with (go_at_call 48; refine (RatOk_any (r := raw x D) _ (RdR.bl h hb0)).mono ?_; rw [hok]; rintro e w1 ⟨rfl, hb1⟩)
    go_ret
    exact ⟨by rw [hr.out]; rfl, slc⟩
  | true =>
    by_cases hD : D = 1
    · have hr : Hid (rtx x D = itx x) := Lib.hid (by unfold rtx; rw [if_pos hok]; unfold ftx; rw [if_pos hD])
      subst hD
      go_enter Tryz.func45, Tryz.ntmps45
      go_upto_region 1 with (fail)
      refine wp_gen (fun W => Bl w W ∧ ∃ g, Blk W g 26 #[.bool s, .slice A n c, .slice B m d] ∧ g = w.heap.size) ⟨slc, _, by exact bts, rfl⟩ ?_
      rintro W0 ⟨hb0, g, hg, hge⟩
      rw [← hge]
      clear hge
      obtain ⟨r0, r1, r2⟩ := bx3 hg
      go_wp2_with (first
        | (go_at_call 48; refine (RatOk_any (r := raw x 1) _ (RdR.bl h hb0)).mono ?_; rw [hok]; rintro e w1 ⟨rfl, hb1⟩; have hg1 := hg.bl hb1; obtain ⟨y0, y1, y2⟩ := bx3 hg1; have hbw1 := hb0.next hb1)
        | (go_at_call 97; refine (isOne_yes _ (RdI.bl h.den hbw1)).mono ?_; rintro e w2 ⟨rfl, hq2⟩; have hb2 := q_bl hq2; clear hq2; obtain ⟨z0, z1, z2⟩ := bx3 (hg1.bl hb2); have hbw2 := hbw1.next hb2)
        | (go_at_call 98; refine (FormatBigInt_any _ (IsB.bl (IsR.b h) hbw2) hn (hE.out.bl hbw2)).mono ?_; rintro e w3 ⟨rfl, hb3⟩))
      go_ret
      exact ⟨by rw [hr.out]; rfl, slc⟩
    · have hr : Hid (rtx x D = itx x ++ 47 :: dD D) := Lib.hid (by unfold rtx; rw [if_pos hok]; unfold ftx; rw [if_neg hD])
      have hlen1 := itx_len (x := x) (by have := h.num.lenN; omega)
      have hlen2 := dD_len540 (N := D) (by have := h.dn.lenN; omega)
      have hadd1 : ∀ W, (Op.stringOp .add (sb (itx x)) ⟨#[47]⟩).run Tryz.prog W = .ok (.string (sb (itx x ++ [47]))) W := fun W => add_str (P := Tryz.prog) W (itx x) [47] (by omega) (by simp)
      have hadd2 := fun W => add_str (P := Tryz.prog) W (itx x ++ [47]) (dD D) (by rw [List.length_append, List.length_singleton]; omega) (by omega)
      go_enter Tryz.func45, Tryz.ntmps45
      go_upto_region 1 with (fail)
      refine wp_gen (fun W => Bl w W ∧ ∃ g, Blk W g 26 #[.bool s, .slice A n c, .slice B m d] ∧ g = w.heap.size) ⟨slc, _, by exact bts, rfl⟩ ?_
      rintro W0 ⟨hb0, g, hg, hge⟩
      rw [← hge]
      clear hge
      obtain ⟨r0, r1, r2⟩ := bx3 hg
      go_wp2_with (first
        | (go_at_call 48; refine (RatOk_any (r := raw x D) _ (RdR.bl h hb0)).mono ?_; rw [hok]; rintro e w1 ⟨rfl, hb1⟩; have hg1 := hg.bl hb1; obtain ⟨y0, y1, y2⟩ := bx3 hg1; have hbw1 := hb0.next hb1)
        | (go_at_call 97; refine (isOne_no _ (RdI.bl h.den hbw1) hD).mono ?_; rintro e w2 ⟨rfl, hq2⟩; have hb2 := q_bl hq2; clear hq2))
      have hg := hg1.bl hb2
      have hbw2 := hbw1.next hb2
      clear r0 r1 r2 y0 y1 y2 hg1 hb0 hb1 hb2 hbw1 hD hok
      go_region_held3 (fun w' => (w'.cell? ⟨g, 0, none⟩ = some (.bool s) ∧ w'.cell? ⟨g, 1, none⟩ = some (.slice A n c) ∧ w'.cell? ⟨g, 2, none⟩ = some (.slice B m d))) (first | exact (bx3 (T := 26) bts)) (first | (go_at_call 98; refine (FormatBigInt_any _ (IsB.bl (IsR.b h) (show Bl w _ from slc)) hn (hE.out.bl (show Bl w _ from slc))).mono ?_; rintro e w3 ⟨rfl, hb3⟩) | (go_at_call 99; refine (FormatNat_any _ (RdI.bl h.den (show Bl w _ from slc)) hm (hE.out.bl (show Bl w _ from slc))).mono ?_; rintro e w4 ⟨rfl, hb4⟩))
      all_goals (go_wp2_with fail)
      all_goals go_ret
      all_goals exact ⟨by rw [hr.out]; rfl, slc⟩

set_option maxHeartbeats 6400000 in
set_option maxRecDepth 100000 in
theorem sFormatBigInt_any (w : World) {s : Bool} {A : Option Addr} {n c : Nat} {x : Int} (h : IsB w s A n c x) (hn : n ≤ 60) :
    Calls Tryz.prog 137 #[.agg #[.bool s, .slice A n c]] w fun e w' => e = .returned (.string (sb (itx x))) ∧ Bl w w' := by
  have hl := h.2.lenN
  have h60 : (dig x.natAbs).length ≤ 60 := by rw [hl]; exact hn
  have hok := okB_dig h.1 h60
  have hsz := Lib.hid (dD_len540 h60)
  clear hl h60
  rcases Int.lt_or_le x 0 with hx | hx
  · obtain rfl : s = true := by rw [h.1]; exact decide_eq_true hx
    have hi : Hid (itx x = [45] ++ dD x.natAbs) := Lib.hid (by unfold itx; rw [if_pos hx]; rfl)
    have hadd : ∀ W, (Op.stringOp .add ⟨#[45]⟩ (sb (dD x.natAbs))).run Tryz.prog W = .ok (.string (sb ([45] ++ dD x.natAbs))) W := fun W => add_str (P := Tryz.prog) W [45] (dD x.natAbs) (by simp) (by have := hsz.out; omega)
    go_enter Tryz.func137, Tryz.ntmps137
    go_upto_region 1 with (fail)
    refine wp_gen (fun W => Bl w W ∧ ∃ g, Blk W g 24 #[.bool true, .slice A n c] ∧ g = w.heap.size) ⟨slc, _, by exact bts, rfl⟩ ?_
    rintro W0 ⟨hb0, g, hg, hge⟩
    rw [← hge]
    clear hge
    obtain ⟨r0, r1⟩ := bx2 hg
    go_wp2_with (first
      | (go_at_call 177; refine (sBigIntOk_any _ (h.2.bl hb0)).mono ?_; rw [hok]; rintro e w1 ⟨rfl, hb1⟩; obtain ⟨y0, y1⟩ := bx2 (hg.bl hb1); have hbw1 := hb0.next hb1)
      | (go_at_call 138; refine (sFormatNat_any _ (h.2.bl hbw1) hn).mono ?_; rintro e w2 ⟨rfl, hb2⟩))
    go_ret
    exact ⟨by rw [hi.out]; rfl, slc⟩
  · obtain rfl : s = false := by rw [h.1]; exact decide_eq_false (by omega)
    have hi : Hid (itx x = dD x.natAbs) := Lib.hid (by unfold itx; rw [if_neg (by omega)])
    go_enter Tryz.func137, Tryz.ntmps137
    go_upto_region 1 with (fail)
    refine wp_gen (fun W => Bl w W ∧ ∃ g, Blk W g 24 #[.bool false, .slice A n c] ∧ g = w.heap.size) ⟨slc, _, by exact bts, rfl⟩ ?_
    rintro W0 ⟨hb0, g, hg, hge⟩
    rw [← hge]
    clear hge
    obtain ⟨r0, r1⟩ := bx2 hg
    go_wp2_with (first
      | (go_at_call 177; refine (sBigIntOk_any _ (h.2.bl hb0)).mono ?_; rw [hok]; rintro e w1 ⟨rfl, hb1⟩; obtain ⟨y0, y1⟩ := bx2 (hg.bl hb1); have hbw1 := hb0.next hb1)
      | (go_at_call 138; refine (sFormatNat_any _ (h.2.bl hbw1) hn).mono ?_; rintro e w2 ⟨rfl, hb2⟩))
    go_ret
    exact ⟨by rw [hi.out]; rfl, slc⟩

set_option maxHeartbeats 6400000 in
set_option maxRecDepth 100000 in
theorem sFormatRat_any (w : World) {s : Bool} {A : Option Addr} {n c : Nat} {B : Option Addr} {m d : Nat} {x : Int} {D : Nat} (h : IsR w s A n c B m d x D) (hn : n ≤ 60) (hm : m ≤ 60) :
    Calls Tryz.prog 80 #[.agg #[.bool s, .slice A n c, .slice B m d]] w fun e w' => e = .returned (.string (sb (rtx x D))) ∧ Bl w w' := by
  cases hok : okR (raw x D) with
  | false =>
    have hr : Hid (rtx x D = []) := Lib.hid (by unfold rtx; rw [if_neg (by rw [hok]; decide)])
    go_enter Tryz.func80, Tryz.ntmps80
    go_upto_region 1 with (fail)
    refine wp_gen (fun W => Bl w W ∧ ∃ g, Blk W g 26 #[.bool s, .slice A n c, .slice B m d] ∧ g = w.heap.size) ⟨slc, _, by exact bts, rfl⟩ ?_
    rintro W0 ⟨hb0, g, hg, hge⟩
    rw [← hge]
    clear hge
    obtain ⟨r0, r1, r2⟩ := bx3 hg
    go_wp2_with (go_at_call 135; refine (sRatOk_any (r := raw x D) _ (RdR.bl h hb0)).mono ?_; rw [hok]; rintro e w1 ⟨rfl, hb1⟩)
    go_ret
    exact ⟨by rw [hr.out]; rfl, slc⟩
  | true =>
    by_cases hD : D = 1
    · have hr : Hid (rtx x D = itx x) := Lib.hid (by unfold rtx; rw [if_pos hok]; unfold ftx; rw [if_pos hD])
      subst hD
      go_enter Tryz.func80, Tryz.ntmps80
      go_upto_region 1 with (fail)
      refine wp_gen (fun W => Bl w W ∧ ∃ g, Blk W g 26 #[.bool s, .slice A n c, .slice B m d] ∧ g = w.heap.size) ⟨slc, _, by exact bts, rfl⟩ ?_
      rintro W0 ⟨hb0, g, hg, hge⟩
      rw [← hge]
      clear hge
      obtain ⟨r0, r1, r2⟩ := bx3 hg
      go_wp2_with (first
        | (go_at_call 135; refine (sRatOk_any (r := raw x 1) _ (RdR.bl h hb0)).mono ?_; rw [hok]; rintro e w1 ⟨rfl, hb1⟩; have hg1 := hg.bl hb1; obtain ⟨y0, y1, y2⟩ := bx3 hg1; have hbw1 := hb0.next hb1)
        | (go_at_call 136; refine (l04One_yes _ (RdI.bl h.den hbw1)).mono ?_; rintro e w2 ⟨rfl, hq2⟩; have hb2 := q_bl hq2; clear hq2; obtain ⟨z0, z1, z2⟩ := bx3 (hg1.bl hb2); have hbw2 := hbw1.next hb2)
        | (go_at_call 137; refine (sFormatBigInt_any _ (IsB.bl (IsR.b h) hbw2) hn).mono ?_; rintro e w3 ⟨rfl, hb3⟩))
      go_ret
      exact ⟨by rw [hr.out]; rfl, slc⟩
    · have hr : Hid (rtx x D = itx x ++ 47 :: dD D) := Lib.hid (by unfold rtx; rw [if_pos hok]; unfold ftx; rw [if_neg hD])
      have hlen1 := itx_len (x := x) (by have := h.num.lenN; omega)
      have hlen2 := dD_len540 (N := D) (by have := h.dn.lenN; omega)
      have hadd1 : ∀ W, (Op.stringOp .add (sb (itx x)) ⟨#[47]⟩).run Tryz.prog W = .ok (.string (sb (itx x ++ [47]))) W := fun W => add_str (P := Tryz.prog) W (itx x) [47] (by omega) (by simp)
      have hadd2 := fun W => add_str (P := Tryz.prog) W (itx x ++ [47]) (dD D) (by rw [List.length_append, List.length_singleton]; omega) (by omega)
      go_enter Tryz.func80, Tryz.ntmps80
      go_upto_region 1 with (fail)
      refine wp_gen (fun W => Bl w W ∧ ∃ g, Blk W g 26 #[.bool s, .slice A n c, .slice B m d] ∧ g = w.heap.size) ⟨slc, _, by exact bts, rfl⟩ ?_
      rintro W0 ⟨hb0, g, hg, hge⟩
      rw [← hge]
      clear hge
      obtain ⟨r0, r1, r2⟩ := bx3 hg
      go_wp2_with (first
        | (go_at_call 135; refine (sRatOk_any (r := raw x D) _ (RdR.bl h hb0)).mono ?_; rw [hok]; rintro e w1 ⟨rfl, hb1⟩; have hg1 := hg.bl hb1; obtain ⟨y0, y1, y2⟩ := bx3 hg1; have hbw1 := hb0.next hb1)
        | (go_at_call 136; refine (l04One_no _ (RdI.bl h.den hbw1) hD).mono ?_; rintro e w2 ⟨rfl, hq2⟩; have hb2 := q_bl hq2; clear hq2))
      have hg := hg1.bl hb2
      have hbw2 := hbw1.next hb2
      clear r0 r1 r2 y0 y1 y2 hg1 hb0 hb1 hb2 hbw1 hD hok
      go_region_held3 (fun w' => (w'.cell? ⟨g, 0, none⟩ = some (.bool s) ∧ w'.cell? ⟨g, 1, none⟩ = some (.slice A n c) ∧ w'.cell? ⟨g, 2, none⟩ = some (.slice B m d))) (first | exact (bx3 (T := 26) bts)) (first | (go_at_call 137; refine (sFormatBigInt_any _ (IsB.bl (IsR.b h) (show Bl w _ from slc)) hn).mono ?_; rintro e w3 ⟨rfl, hb3⟩) | (go_at_call 138; refine (sFormatNat_any _ (RdI.bl h.den (show Bl w _ from slc)) hm).mono ?_; rintro e w4 ⟨rfl, hb4⟩))
      all_goals (go_wp2_with fail)
      all_goals go_ret
      all_goals exact ⟨by rw [hr.out]; rfl, slc⟩
end

end Go.Proofs.YtjaapemopbbfaaaGreatDoor
