/- Lemmas. -/
import Derived.Test.YtjaapemopbbfaaaGreatDoorRows
import Derived.Test.YtjaapemopbbfaaaGreatDoorPParsePointM28
import Derived.Test.YtjaapemopbbfaaaGreatDoorPParsePointM11
import Derived.Test.YtjaapemopbbfaaaGreatDoorPParsePointM13
namespace Go.Proofs.YtjaapemopbbfaaaGreatDoor
section
open Go.RowKit

theorem bl_drop1 (s : ByteArray) : bl (s.extract 1 s.size) = (bl s).drop 1 := by
  unfold bl
  rw [Lib.extract_data, List.take_of_length_le (by rw [List.length_drop]; have := bl_len s; unfold bl at this; omega)]
theorem mag_neg {s : ByteArray} (h : 0 < s.size) (h45 : bt s 0 = 45) : mag (bl s) = bl (s.extract 1 s.size) ∧ (bl s).head? = some 45 := by
  have hh := bl_head h
  rw [h45] at hh
  refine ⟨?_, hh⟩
  unfold mag
  rw [if_pos hh, bl_drop1]
theorem mag_pos {s : ByteArray} (h : s.size = 0 ∨ bt s 0 ≠ 45) : mag (bl s) = bl s ∧ (bl s).head? ≠ some 45 := by
  have hh : (bl s).head? ≠ some 45 := by
    rcases Nat.eq_zero_or_pos s.size with h0 | h0
    · have : bl s = [] := List.length_eq_zero_iff.1 (by rw [bl_len]; exact h0)
      rw [this]
      decide
    · rw [bl_head h0]
      intro e
      injection e with e
      rcases h with h | h
      · omega
      · exact h e
  exact ⟨by unfold mag; rw [if_neg hh], hh⟩
/-- What both parsers return. -/
def BigRes (w : World) (s : ByteArray) (e : Ending) (w' : World) : Prop :=
  ((goodI (bl s) = true ∧ ∃ A n c, e = .returned (.tuple #[.agg #[.bool (decide (vI (bl s) < 0)), .slice A n c], .bool true]) ∧ OwI 3 w.heap.size w' A n c (ints (dig (vI (bl s)).natAbs))) ∨ (goodI (bl s) = false ∧ e = .returned (.tuple #[.agg #[.bool false, .slice none 0 0], .bool false]))) ∧ Bl w w'
theorem Wk.blk {k : Nat} {T : TypeId} {g : Nat} {W : World} (h : Wk k T g W) : Blk W g T h.choose := h.choose_spec.1
theorem goodI_neg {l d : List UInt8} (h : mag l = d) (hh : l.head? = some 45) : goodI l = (goodN d && decide (vD d ≠ 0)) ∧ (vI l).natAbs = vD d ∧ (vD d ≠ 0 → vI l < 0) := by
  refine ⟨by unfold goodI; rw [h, hh]; simp, by rw [vI_abs, h], fun h0 => ?_⟩
  unfold vI
  rw [if_pos hh, h]
  omega
theorem goodI_pos {l d : List UInt8} (h : mag l = d) (hh : l.head? ≠ some 45) : goodI l = goodN d ∧ (vI l).natAbs = vD d ∧ ¬ vI l < 0 := by
  refine ⟨by unfold goodI; rw [h]; simp [hh], by rw [vI_abs, h], ?_⟩
  unfold vI
  rw [if_neg hh]
  omega
theorem okB_num {s : Bool} {N : Nat} (h60 : (dig N).length ≤ 60) (h : s = true → N ≠ 0) : okB s (ints (dig N)) = true :=
  okB_yes ⟨⟨N, rfl, h60⟩, fun e => by rw [ints_len]; exact dig_len_pos.2 (by have := h e; omega)⟩
theorem okB_zero : okB true (ints (dig 0)) = false := okB_no fun h => by have := h.2 rfl; rw [dig_zero] at this; simp [ints] at this
theorem good_len60 {l : List UInt8} (h : goodN l = true) : (dig (vD l)).length ≤ 60 := by
  obtain ⟨h1, h2⟩ := goodN_iff.1 h
  have h3 : vD l < 10 ^ l.length := vD_lt l (by rw [← h1]; exact all_dD _)
  have hk : ∀ k, k = 60 → (dig (vD l)).length ≤ k := fun k hk => dig_len_le.2 (by rw [Bs_pow]; exact Nat.lt_of_lt_of_le h3 (Nat.pow_le_pow_right (by decide) (by rw [hk]; exact h2)))
  exact hk 60 rfl

set_option maxHeartbeats 6400000 in
set_option maxRecDepth 100000 in
theorem ParseBigInt_any (w : World) (s : ByteArray) (hs : s.size ≤ 1048576) (hE : Env w) :
    Calls Tryz.prog 82 #[.string s] w (BigRes w s) := by
  have hE := Lib.hid hE; rename_i hE_; clear hE_
  have hbl := bl_toList s
  have hlen := bl_len s
  rcases Nat.eq_zero_or_pos s.size with h0 | h0
  · have he : s.toList.isEmpty = true := by
      have hnil : bl s = [] := List.length_eq_zero_iff.1 (by rw [hlen]; exact h0)
      rw [hbl, hnil]
      rfl
    obtain ⟨hm, hh⟩ := mag_pos (s := s) (.inl h0)
    have hgi := Lib.hid (goodI_pos hm hh)
    have h0i : ¬ (0 : Int) < (s.size : Int) := by omega
    clear hbl hlen hm hh
    go_enter Tryz.func82, Tryz.ntmps82
    go_upto_region 1 with (fail)
    refine wp_gen (fun W => Bl w W ∧ ∃ r, Wk 2 24 r W ∧ r = w.heap.size) ⟨slc, _, by exact bts, rfl⟩ ?_
    rintro W0 ⟨hbW, r, hr, hre⟩
    rw [← hre]
    have hrw : w.heap.size ≤ r := by omega
    clear hre
    go_wp2_with (go_at_call 83; refine (ParseNat_any _ s (by omega) (hE.out.bl hbW)).mono ?_)
    rintro e w1 ⟨(⟨hg, A, n, c, rfl, hO⟩ | ⟨hg, rfl⟩), hb1⟩
    · have hl60 := good_len60 hg
      have hI : Hid (goodI (bl s) = true) := Lib.hid (by rw [hgi.out.1]; exact hg)
      have hneg : Hid (decide (vI (bl s) < 0) = false) := Lib.hid (decide_eq_false (by have := hgi.out.2.2; omega))
      have hab := Lib.hid hgi.out.2.1
      clear hg
      have hok := okB_num (s := false) hl60 (fun e => by cases e)
      go_upto_region 7 with (fail)
      refine wp_gen (fun W => Bl w1 W ∧ ∃ g, Blk W g 24 #[.bool false, .slice A n c] ∧ g = w1.heap.size) ⟨slc, _, by exact bts, rfl⟩ ?_
      rintro W1 ⟨hb2, g, hgx, hge⟩
      rw [← hge]
      have hg1 : w1.heap.size ≤ g := by omega
      clear hge
      obtain ⟨y0, y1⟩ := bx2 hgx
      go_wp2_with (go_at_call 102; refine (BigIntOk_any _ ((hO.rd.bl hb2))).mono ?_; rw [hok]; rintro e w2 ⟨rfl, hb3⟩; have hgx2 := hgx.bl hb3; obtain ⟨z0, z1⟩ := bx2 hgx2; have hbw2 := (hbW.next hb1).next (hb2.next hb3); have hr2 := hr.bl (hb1.next (hb2.next hb3)); obtain ⟨v0, x0⟩ := hr2.val_ (i := 0) (by omega); obtain ⟨v1, x1⟩ := hr2.val_ (i := 1) (by omega); have hgr := hr2.lt; have hB := hr2.blk; have hf0 := hB.frozen 0; have hf1 := hB.frozen 1; have hO2 := hO.bl (hb2.next hb3); have hrg : r ≠ g := by { have h1 := hr.lt; have h2 := hb1.size; omega })
      refine bodyPost_ret (v := .tuple #[.agg #[.bool false, .slice A n c], .bool true]) (by simp [results, Tryz.results82, go_sem, x0, x1]) rfl (⟨.inl ⟨hI.out, _, _, _, by rw [hneg.out], by rw [hab.out]; exact ((((hO2).far (p := ⟨r, 0, none⟩) (show r < W0.heap.size from hr.lt) _).far (p := ⟨r, 1, none⟩) (show r < W0.heap.size from hr.lt) _).mono hbW.size)⟩, slc⟩)
    · have hI : Hid (goodI (bl s) = false) := Lib.hid (by rw [hgi.out.1]; exact hg)
      clear hg
      go_upto_region 7 with (fail)
      refine wp_gen (fun W => Bl w1 W) slc ?_
      rintro W1 hb2
      have hrl := hr.bl (hb1.next hb2)
      obtain ⟨v0, x0⟩ := hrl.val_ (i := 0) (by omega)
      obtain ⟨v1, x1⟩ := hrl.val_ (i := 1) (by omega)
      have hgr := hrl.lt
      obtain ⟨cs, hB, hcs⟩ := hrl
      have hf0 := hB.frozen 0
      have hf1 := hB.frozen 1
      go_wp2_with fail
      refine bodyPost_ret (v := .tuple #[.agg #[.bool false, .slice none 0 0], .bool false]) (by simp [results, Tryz.results82, go_sem, x0, x1]) rfl (⟨.inr ⟨hI.out, rfl⟩, slc⟩)
  · have he : s.toList.isEmpty = false := by
      rw [hbl]
      cases hb : bl s with
      | nil => rw [hb] at hlen; simp at hlen; omega
      | cons a t => rfl
    have h0i : (0 : Int) < (s.size : Int) := by omega
    have hx0 : ∀ W, (Instr.index 9 (.string s) (.int .i64 0)).run Tryz.prog W = .ok (.int .u8 ((bt s 0).toNat : Int)) W := fun W => run_idx (P := Tryz.prog) (t := 9) W s 0 h0 Tryz.underlying9
    by_cases hz : bt s 0 = 45
    · obtain ⟨hm, hh⟩ := mag_neg h0 hz
      have hgi := Lib.hid (goodI_neg hm hh)
      have hz2 : ((bt s 0).toNat : Int) = 45 := by rw [hz]; rfl
      have h1i : (1 : Int) ≤ (s.size : Int) := by omega
      clear hbl hlen hm hh hz
      go_enter Tryz.func82, Tryz.ntmps82
      go_upto_region 1 with (fail)
      refine wp_gen (fun W => Bl w W ∧ ∃ r, Wk 2 24 r W ∧ r = w.heap.size) ⟨slc, _, by exact bts, rfl⟩ ?_
      rintro W0 ⟨hbW, r, hr, hre⟩
      rw [← hre]
      have hrw : w.heap.size ≤ r := by omega
      clear hre
      go_wp2_with (go_at_call 83; refine (ParseNat_any _ (s.extract 1 s.size) (by rw [ByteArray.size_extract]; omega) (hE.out.bl hbW)).mono ?_)
      rintro e w1 ⟨(⟨hg, A, n, c, rfl, hO⟩ | ⟨hg, rfl⟩), hb1⟩
      · have hl60 := good_len60 hg
        by_cases hN : vD (bl (s.extract 1 s.size)) = 0
        · have hI : Hid (goodI (bl s) = false) := Lib.hid (by rw [hgi.out.1, hN]; simp)
          clear hg
          have hok : okB true (ints (dig (vD (bl (s.extract 1 s.size))))) = false := by rw [hN]; exact okB_zero
          go_upto_region 7 with (fail)
          refine wp_gen (fun W => Bl w1 W ∧ ∃ g, Blk W g 24 #[.bool true, .slice A n c] ∧ g = w1.heap.size) ⟨slc, _, by exact bts, rfl⟩ ?_
          rintro W1 ⟨hb2, g, hgx, hge⟩
          rw [← hge]
          have hg1 : w1.heap.size ≤ g := by omega
          clear hge
          obtain ⟨y0, y1⟩ := bx2 hgx
          go_wp2_with (go_at_call 102; refine (BigIntOk_any _ ((hO.rd.bl hb2))).mono ?_; rw [hok]; rintro e w2 ⟨rfl, hb3⟩; have hgx2 := hgx.bl hb3; obtain ⟨z0, z1⟩ := bx2 hgx2; have hbw2 := (hbW.next hb1).next (hb2.next hb3); have hr2 := hr.bl (hb1.next (hb2.next hb3)); obtain ⟨v0, x0⟩ := hr2.val_ (i := 0) (by omega); obtain ⟨v1, x1⟩ := hr2.val_ (i := 1) (by omega); have hgr := hr2.lt; have hB := hr2.blk; have hf0 := hB.frozen 0; have hf1 := hB.frozen 1; have hO2 := hO.bl (hb2.next hb3); have hrg : r ≠ g := by { have h1 := hr.lt; have h2 := hb1.size; omega })
          refine bodyPost_ret (v := .tuple #[.agg #[.bool false, .slice none 0 0], .bool false]) (by simp [results, Tryz.results82, go_sem, x0, x1]) rfl (⟨.inr ⟨hI.out, rfl⟩, slc⟩)
        · have hI : Hid (goodI (bl s) = true) := Lib.hid (by rw [hgi.out.1, hg]; simp [hN])
          have hneg : Hid (decide (vI (bl s) < 0) = true) := Lib.hid (decide_eq_true (hgi.out.2.2 hN))
          have hab := Lib.hid hgi.out.2.1
          clear hg
          have hok := okB_num (s := true) hl60 (fun _ => hN)
          go_upto_region 7 with (fail)
          refine wp_gen (fun W => Bl w1 W ∧ ∃ g, Blk W g 24 #[.bool true, .slice A n c] ∧ g = w1.heap.size) ⟨slc, _, by exact bts, rfl⟩ ?_
          rintro W1 ⟨hb2, g, hgx, hge⟩
          rw [← hge]
          have hg1 : w1.heap.size ≤ g := by omega
          clear hge
          obtain ⟨y0, y1⟩ := bx2 hgx
          go_wp2_with (go_at_call 102; refine (BigIntOk_any _ ((hO.rd.bl hb2))).mono ?_; rw [hok]; rintro e w2 ⟨rfl, hb3⟩; have hgx2 := hgx.bl hb3; obtain ⟨z0, z1⟩ := bx2 hgx2; have hbw2 := (hbW.next hb1).next (hb2.next hb3); have hr2 := hr.bl (hb1.next (hb2.next hb3)); obtain ⟨v0, x0⟩ := hr2.val_ (i := 0) (by omega); obtain ⟨v1, x1⟩ := hr2.val_ (i := 1) (by omega); have hgr := hr2.lt; have hB := hr2.blk; have hf0 := hB.frozen 0; have hf1 := hB.frozen 1; have hO2 := hO.bl (hb2.next hb3); have hrg : r ≠ g := by { have h1 := hr.lt; have h2 := hb1.size; omega })
          refine bodyPost_ret (v := .tuple #[.agg #[.bool true, .slice A n c], .bool true]) (by simp [results, Tryz.results82, go_sem, x0, x1]) rfl (⟨.inl ⟨hI.out, _, _, _, by rw [hneg.out], by rw [hab.out]; exact ((((hO2).far (p := ⟨r, 0, none⟩) (show r < W0.heap.size from hr.lt) _).far (p := ⟨r, 1, none⟩) (show r < W0.heap.size from hr.lt) _).mono hbW.size)⟩, slc⟩)
      · have hI : Hid (goodI (bl s) = false) := Lib.hid (by rw [hgi.out.1, hg]; rfl)
        clear hg
        go_upto_region 7 with (fail)
        refine wp_gen (fun W => Bl w1 W) slc ?_
        rintro W1 hb2
        have hrl := hr.bl (hb1.next hb2)
        obtain ⟨v0, x0⟩ := hrl.val_ (i := 0) (by omega)
        obtain ⟨v1, x1⟩ := hrl.val_ (i := 1) (by omega)
        have hgr := hrl.lt
        obtain ⟨cs, hB, hcs⟩ := hrl
        have hf0 := hB.frozen 0
        have hf1 := hB.frozen 1
        go_wp2_with fail
        refine bodyPost_ret (v := .tuple #[.agg #[.bool false, .slice none 0 0], .bool false]) (by simp [results, Tryz.results82, go_sem, x0, x1]) rfl (⟨.inr ⟨hI.out, rfl⟩, slc⟩)
    · obtain ⟨hm, hh⟩ := mag_pos (s := s) (.inr hz)
      have hgi := Lib.hid (goodI_pos hm hh)
      have hz2 : ((((bt s 0).toNat : Int)) == 45) = false := by
        simp only [beq_eq_false_iff_ne, ne_eq]
        intro e
        exact hz (UInt8.toNat_inj.1 (by show (bt s 0).toNat = 45; omega))
      clear hbl hlen hm hh hz
      go_enter Tryz.func82, Tryz.ntmps82
      go_upto_region 1 with (fail)
      refine wp_gen (fun W => Bl w W ∧ ∃ r, Wk 2 24 r W ∧ r = w.heap.size) ⟨slc, _, by exact bts, rfl⟩ ?_
      rintro W0 ⟨hbW, r, hr, hre⟩
      rw [← hre]
      have hrw : w.heap.size ≤ r := by omega
      clear hre
      go_wp2_with (go_at_call 83; refine (ParseNat_any _ s (by omega) (hE.out.bl hbW)).mono ?_)
      rintro e w1 ⟨(⟨hg, A, n, c, rfl, hO⟩ | ⟨hg, rfl⟩), hb1⟩
      · have hl60 := good_len60 hg
        have hI : Hid (goodI (bl s) = true) := Lib.hid (by rw [hgi.out.1]; exact hg)
        have hneg : Hid (decide (vI (bl s) < 0) = false) := Lib.hid (decide_eq_false (by have := hgi.out.2.2; omega))
        have hab := Lib.hid hgi.out.2.1
        clear hg
        have hok := okB_num (s := false) hl60 (fun e => by cases e)
        go_upto_region 7 with (fail)
        refine wp_gen (fun W => Bl w1 W ∧ ∃ g, Blk W g 24 #[.bool false, .slice A n c] ∧ g = w1.heap.size) ⟨slc, _, by exact bts, rfl⟩ ?_
        rintro W1 ⟨hb2, g, hgx, hge⟩
        rw [← hge]
        have hg1 : w1.heap.size ≤ g := by omega
        clear hge
        obtain ⟨y0, y1⟩ := bx2 hgx
        go_wp2_with (go_at_call 102; refine (BigIntOk_any _ ((hO.rd.bl hb2))).mono ?_; rw [hok]; rintro e w2 ⟨rfl, hb3⟩; have hgx2 := hgx.bl hb3; obtain ⟨z0, z1⟩ := bx2 hgx2; have hbw2 := (hbW.next hb1).next (hb2.next hb3); have hr2 := hr.bl (hb1.next (hb2.next hb3)); obtain ⟨v0, x0⟩ := hr2.val_ (i := 0) (by omega); obtain ⟨v1, x1⟩ := hr2.val_ (i := 1) (by omega); have hgr := hr2.lt; have hB := hr2.blk; have hf0 := hB.frozen 0; have hf1 := hB.frozen 1; have hO2 := hO.bl (hb2.next hb3); have hrg : r ≠ g := by { have h1 := hr.lt; have h2 := hb1.size; omega })
        refine bodyPost_ret (v := .tuple #[.agg #[.bool false, .slice A n c], .bool true]) (by simp [results, Tryz.results82, go_sem, x0, x1]) rfl (⟨.inl ⟨hI.out, _, _, _, by rw [hneg.out], by rw [hab.out]; exact ((((hO2).far (p := ⟨r, 0, none⟩) (show r < W0.heap.size from hr.lt) _).far (p := ⟨r, 1, none⟩) (show r < W0.heap.size from hr.lt) _).mono hbW.size)⟩, slc⟩)
      · have hI : Hid (goodI (bl s) = false) := Lib.hid (by rw [hgi.out.1]; exact hg)
        clear hg
        go_upto_region 7 with (fail)
        refine wp_gen (fun W => Bl w1 W) slc ?_
        rintro W1 hb2
        have hrl := hr.bl (hb1.next hb2)
        obtain ⟨v0, x0⟩ := hrl.val_ (i := 0) (by omega)
        obtain ⟨v1, x1⟩ := hrl.val_ (i := 1) (by omega)
        have hgr := hrl.lt
        obtain ⟨cs, hB, hcs⟩ := hrl
        have hf0 := hB.frozen 0
        have hf1 := hB.frozen 1
        go_wp2_with fail
        refine bodyPost_ret (v := .tuple #[.agg #[.bool false, .slice none 0 0], .bool false]) (by simp [results, Tryz.results82, go_sem, x0, x1]) rfl (⟨.inr ⟨hI.out, rfl⟩, slc⟩)

set_option maxHeartbeats 6400000 in
set_option maxRecDepth 100000 in
theorem sParseBigInt_any (w : World) (s : ByteArray) (hs : s.size ≤ 1048576) :
    Calls Tryz.prog 78 #[.string s] w (BigRes w s) := by
  have hbl := bl_toList s
  have hlen := bl_len s
  rcases Nat.eq_zero_or_pos s.size with h0 | h0
  · have he : s.toList.isEmpty = true := by
      have hnil : bl s = [] := List.length_eq_zero_iff.1 (by rw [hlen]; exact h0)
      rw [hbl, hnil]
      rfl
    obtain ⟨hm, hh⟩ := mag_pos (s := s) (.inl h0)
    have hgi := Lib.hid (goodI_pos hm hh)
    have h0i : ¬ (0 : Int) < (s.size : Int) := by omega
    clear hbl hlen hm hh
    go_enter Tryz.func78, Tryz.ntmps78
    go_upto_region 1 with (fail)
    refine wp_gen (fun W => Bl w W ∧ ∃ r, Wk 2 24 r W ∧ r = w.heap.size) ⟨slc, _, by exact bts, rfl⟩ ?_
    rintro W0 ⟨hbW, r, hr, hre⟩
    rw [← hre]
    have hrw : w.heap.size ≤ r := by omega
    clear hre
    go_wp2_with (go_at_call 79; refine (sParseNat_any _ s (by omega) ).mono ?_)
    rintro e w1 ⟨(⟨hg, A, n, c, rfl, hO⟩ | ⟨hg, rfl⟩), hb1⟩
    · have hl60 := good_len60 hg
      have hI : Hid (goodI (bl s) = true) := Lib.hid (by rw [hgi.out.1]; exact hg)
      have hneg : Hid (decide (vI (bl s) < 0) = false) := Lib.hid (decide_eq_false (by have := hgi.out.2.2; omega))
      have hab := Lib.hid hgi.out.2.1
      clear hg
      have hO2 := hO
      have hrl := hr.bl hb1
      obtain ⟨v0, x0⟩ := hrl.val_ (i := 0) (by omega)
      obtain ⟨v1, x1⟩ := hrl.val_ (i := 1) (by omega)
      have hgr := hrl.lt
      obtain ⟨cs, hB, hcs⟩ := hrl
      have hf0 := hB.frozen 0
      have hf1 := hB.frozen 1
      go_wp2_with fail
      refine bodyPost_ret (v := .tuple #[.agg #[.bool false, .slice A n c], .bool true]) (by simp [results, Tryz.results78, go_sem, x0, x1]) rfl (⟨.inl ⟨hI.out, _, _, _, by rw [hneg.out], by rw [hab.out]; exact ((((hO2).far (p := ⟨r, 0, none⟩) (show r < W0.heap.size from hr.lt) _).far (p := ⟨r, 1, none⟩) (show r < W0.heap.size from hr.lt) _).mono hbW.size)⟩, slc⟩)
    · have hI : Hid (goodI (bl s) = false) := Lib.hid (by rw [hgi.out.1]; exact hg)
      clear hg
      have hrl := hr.bl hb1
      obtain ⟨v0, x0⟩ := hrl.val_ (i := 0) (by omega)
      obtain ⟨v1, x1⟩ := hrl.val_ (i := 1) (by omega)
      have hgr := hrl.lt
      obtain ⟨cs, hB, hcs⟩ := hrl
      have hf0 := hB.frozen 0
      have hf1 := hB.frozen 1
      go_wp2_with fail
      refine bodyPost_ret (v := .tuple #[.agg #[.bool false, .slice none 0 0], .bool false]) (by simp [results, Tryz.results78, go_sem, x0, x1]) rfl (⟨.inr ⟨hI.out, rfl⟩, slc⟩)
  · have he : s.toList.isEmpty = false := by
      rw [hbl]
      cases hb : bl s with
      | nil => rw [hb] at hlen; simp at hlen; omega
      | cons a t => rfl
    have h0i : (0 : Int) < (s.size : Int) := by omega
    have hx0 : ∀ W, (Instr.index 9 (.string s) (.int .i64 0)).run Tryz.prog W = .ok (.int .u8 ((bt s 0).toNat : Int)) W := fun W => run_idx (P := Tryz.prog) (t := 9) W s 0 h0 Tryz.underlying9
    by_cases hz : bt s 0 = 45
    · obtain ⟨hm, hh⟩ := mag_neg h0 hz
      have hgi := Lib.hid (goodI_neg hm hh)
      have hz2 : ((bt s 0).toNat : Int) = 45 := by rw [hz]; rfl
      have h1i : (1 : Int) ≤ (s.size : Int) := by omega
      clear hbl hlen hm hh hz
      go_enter Tryz.func78, Tryz.ntmps78
      go_upto_region 1 with (fail)
      refine wp_gen (fun W => Bl w W ∧ ∃ r, Wk 2 24 r W ∧ r = w.heap.size) ⟨slc, _, by exact bts, rfl⟩ ?_
      rintro W0 ⟨hbW, r, hr, hre⟩
      rw [← hre]
      have hrw : w.heap.size ≤ r := by omega
      clear hre
      go_wp2_with (go_at_call 79; refine (sParseNat_any _ (s.extract 1 s.size) (by rw [ByteArray.size_extract]; omega) ).mono ?_)
      rintro e w1 ⟨(⟨hg, A, n, c, rfl, hO⟩ | ⟨hg, rfl⟩), hb1⟩
      · have hl60 := good_len60 hg
        by_cases hN : vD (bl (s.extract 1 s.size)) = 0
        · have hI : Hid (goodI (bl s) = false) := Lib.hid (by rw [hgi.out.1, hN]; simp)
          clear hg
          have hn0 : n = 0 := by have := hO.rd.lenN; rw [hN, dig_zero] at this; exact this.symm
          subst hn0
          have hrl := hr.bl hb1
          obtain ⟨v0, x0⟩ := hrl.val_ (i := 0) (by omega)
          obtain ⟨v1, x1⟩ := hrl.val_ (i := 1) (by omega)
          have hgr := hrl.lt
          obtain ⟨cs, hB, hcs⟩ := hrl
          have hf0 := hB.frozen 0
          have hf1 := hB.frozen 1
          go_wp2_with fail
          refine bodyPost_ret (v := .tuple #[.agg #[.bool false, .slice none 0 0], .bool false]) (by simp [results, Tryz.results78, go_sem, x0, x1]) rfl (⟨.inr ⟨hI.out, rfl⟩, slc⟩)
        · have hI : Hid (goodI (bl s) = true) := Lib.hid (by rw [hgi.out.1, hg]; simp [hN])
          have hneg : Hid (decide (vI (bl s) < 0) = true) := Lib.hid (decide_eq_true (hgi.out.2.2 hN))
          have hab := Lib.hid hgi.out.2.1
          clear hg
          have hn0 : ((n : Int) == 0) = false := by have := hO.rd.lenN; have h2 := dig_len_pos.2 (Nat.pos_of_ne_zero hN); simp; omega
          have hO2 := hO
          have hrl := hr.bl hb1
          obtain ⟨v0, x0⟩ := hrl.val_ (i := 0) (by omega)
          obtain ⟨v1, x1⟩ := hrl.val_ (i := 1) (by omega)
          have hgr := hrl.lt
          obtain ⟨cs, hB, hcs⟩ := hrl
          have hf0 := hB.frozen 0
          have hf1 := hB.frozen 1
          go_wp2_with fail
          refine bodyPost_ret (v := .tuple #[.agg #[.bool true, .slice A n c], .bool true]) (by simp [results, Tryz.results78, go_sem, x0, x1]) rfl (⟨.inl ⟨hI.out, _, _, _, by rw [hneg.out], by rw [hab.out]; exact ((((hO2).far (p := ⟨r, 0, none⟩) (show r < W0.heap.size from hr.lt) _).far (p := ⟨r, 1, none⟩) (show r < W0.heap.size from hr.lt) _).mono hbW.size)⟩, slc⟩)
      · have hI : Hid (goodI (bl s) = false) := Lib.hid (by rw [hgi.out.1, hg]; rfl)
        clear hg
        have hrl := hr.bl hb1
        obtain ⟨v0, x0⟩ := hrl.val_ (i := 0) (by omega)
        obtain ⟨v1, x1⟩ := hrl.val_ (i := 1) (by omega)
        have hgr := hrl.lt
        obtain ⟨cs, hB, hcs⟩ := hrl
        have hf0 := hB.frozen 0
        have hf1 := hB.frozen 1
        go_wp2_with fail
        refine bodyPost_ret (v := .tuple #[.agg #[.bool false, .slice none 0 0], .bool false]) (by simp [results, Tryz.results78, go_sem, x0, x1]) rfl (⟨.inr ⟨hI.out, rfl⟩, slc⟩)
    · obtain ⟨hm, hh⟩ := mag_pos (s := s) (.inr hz)
      have hgi := Lib.hid (goodI_pos hm hh)
      have hz2 : ((((bt s 0).toNat : Int)) == 45) = false := by
        simp only [beq_eq_false_iff_ne, ne_eq]
        intro e
        exact hz (UInt8.toNat_inj.1 (by show (bt s 0).toNat = 45; omega))
      clear hbl hlen hm hh hz
      go_enter Tryz.func78, Tryz.ntmps78
      go_upto_region 1 with (fail)
      refine wp_gen (fun W => Bl w W ∧ ∃ r, Wk 2 24 r W ∧ r = w.heap.size) ⟨slc, _, by exact bts, rfl⟩ ?_
      rintro W0 ⟨hbW, r, hr, hre⟩
      rw [← hre]
      have hrw : w.heap.size ≤ r := by omega
      clear hre
      go_wp2_with (go_at_call 79; refine (sParseNat_any _ s (by omega) ).mono ?_)
      rintro e w1 ⟨(⟨hg, A, n, c, rfl, hO⟩ | ⟨hg, rfl⟩), hb1⟩
      · have hl60 := good_len60 hg
        have hI : Hid (goodI (bl s) = true) := Lib.hid (by rw [hgi.out.1]; exact hg)
        have hneg : Hid (decide (vI (bl s) < 0) = false) := Lib.hid (decide_eq_false (by have := hgi.out.2.2; omega))
        have hab := Lib.hid hgi.out.2.1
        clear hg
        have hO2 := hO
        have hrl := hr.bl hb1
        obtain ⟨v0, x0⟩ := hrl.val_ (i := 0) (by omega)
        obtain ⟨v1, x1⟩ := hrl.val_ (i := 1) (by omega)
        have hgr := hrl.lt
        obtain ⟨cs, hB, hcs⟩ := hrl
        have hf0 := hB.frozen 0
        have hf1 := hB.frozen 1
        go_wp2_with fail
        refine bodyPost_ret (v := .tuple #[.agg #[.bool false, .slice A n c], .bool true]) (by simp [results, Tryz.results78, go_sem, x0, x1]) rfl (⟨.inl ⟨hI.out, _, _, _, by rw [hneg.out], by rw [hab.out]; exact ((((hO2).far (p := ⟨r, 0, none⟩) (show r < W0.heap.size from hr.lt) _).far (p := ⟨r, 1, none⟩) (show r < W0.heap.size from hr.lt) _).mono hbW.size)⟩, slc⟩)
      · have hI : Hid (goodI (bl s) = false) := Lib.hid (by rw [hgi.out.1]; exact hg)
        clear hg
        have hrl := hr.bl hb1
        obtain ⟨v0, x0⟩ := hrl.val_ (i := 0) (by omega)
        obtain ⟨v1, x1⟩ := hrl.val_ (i := 1) (by omega)
        have hgr := hrl.lt
        obtain ⟨cs, hB, hcs⟩ := hrl
        have hf0 := hB.frozen 0
        have hf1 := hB.frozen 1
        go_wp2_with fail
        refine bodyPost_ret (v := .tuple #[.agg #[.bool false, .slice none 0 0], .bool false]) (by simp [results, Tryz.results78, go_sem, x0, x1]) rfl (⟨.inr ⟨hI.out, rfl⟩, slc⟩)
end

end Go.Proofs.YtjaapemopbbfaaaGreatDoor
