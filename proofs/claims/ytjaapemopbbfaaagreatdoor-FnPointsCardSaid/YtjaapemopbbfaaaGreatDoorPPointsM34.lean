/- Lemmas. -/
import Derived.Test.YtjaapemopbbfaaaGreatDoorRows
import Derived.Test.YtjaapemopbbfaaaGreatDoorPPointsM33
import Derived.Test.YtjaapemopbbfaaaGreatDoorPPointsM10
import Derived.Test.YtjaapemopbbfaaaGreatDoorPPointsM12
import Derived.Test.YtjaapemopbbfaaaGreatDoorPPointsM28
import Derived.Lib.IndexMore
namespace Go.Proofs.YtjaapemopbbfaaaGreatDoor
section
open Go.RowKit

theorem bl_drop1 (s : ByteArray) : bl (s.extract 1 s.size) = (bl s).drop 1 := by
  unfold bl
  rw [Lib.extract_data, List.take_of_length_le (by rw [List.length_drop]; have := bl_len s; unfold bl at this; omega)]
theorem mag_neg {s : ByteArray} (h : 0 < s.size) (h45 : bt s 0 = 45) : mag (bl s) = bl (s.extract 1 s.size) ∧ (bl s).head? = some 45 := by
  have hh := bl_head h
  rw [h45] at hh
  refine ⟨?_, hh⟩
  unfold mag
  rw [if_pos hh, bl_drop1]
theorem mag_pos {s : ByteArray} (h : s.size = 0 ∨ bt s 0 ≠ 45) : mag (bl s) = bl s ∧ (bl s).head? ≠ some 45 := by
  have hh : (bl s).head? ≠ some 45 := by
    rcases Nat.eq_zero_or_pos s.size with h0 | h0
    · have : bl s = [] := List.length_eq_zero_iff.1 (by rw [bl_len]; exact h0)
      rw [this]
      decide
    · rw [bl_head h0]
      intro e
      injection e with e
      rcases h with h | h
      · omega
      · exact h e
  exact ⟨by unfold mag; rw [if_neg hh], hh⟩
/-- What both parsers return. -/
def BigRes (w : World) (s : ByteArray) (e : Ending) (w' : World) : Prop :=
  ((goodI (bl s) = true ∧ ∃ A n c, e = .returned (.tuple #[.agg #[.bool (decide (vI (bl s) < 0)), .slice A n c], .bool true]) ∧ OwI 3 w.heap.size w' A n c (ints (dig (vI (bl s)).natAbs))) ∨ (goodI (bl s) = false ∧ e = .returned (.tuple #[.agg #[.bool false, .slice none 0 0], .bool false]))) ∧ Bl w w'
theorem Wk.blk {k : Nat} {T : TypeId} {g : Nat} {W : World} (h : Wk k T g W) : Blk W g T h.choose := h.choose_spec.1
theorem goodI_neg {l d : List UInt8} (h : mag l = d) (hh : l.head? = some 45) : goodI l = (goodN d && decide (vD d ≠ 0)) ∧ (vI l).natAbs = vD d ∧ (vD d ≠ 0 → vI l < 0) := by
  refine ⟨by unfold goodI; rw [h, hh]; simp, by rw [vI_abs, h], fun h0 => ?_⟩
  unfold vI
  rw [if_pos hh, h]
  omega
theorem goodI_pos {l d : List UInt8} (h : mag l = d) (hh : l.head? ≠ some 45) : goodI l = goodN d ∧ (vI l).natAbs = vD d ∧ ¬ vI l < 0 := by
  refine ⟨by unfold goodI; rw [h]; simp [hh], by rw [vI_abs, h], ?_⟩
  unfold vI
  rw [if_neg hh]
  omega
theorem okB_num {s : Bool} {N : Nat} (h60 : (dig N).length ≤ 60) (h : s = true → N ≠ 0) : okB s (ints (dig N)) = true :=
  okB_yes ⟨⟨N, rfl, h60⟩, fun e => by rw [ints_len]; exact dig_len_pos.2 (by have := h e; omega)⟩
theorem okB_zero : okB true (ints (dig 0)) = false := okB_no fun h => by have := h.2 rfl; rw [dig_zero] at this; simp [ints] at this
theorem good_len60 {l : List UInt8} (h : goodN l = true) : (dig (vD l)).length ≤ 60 := by
  obtain ⟨h1, h2⟩ := goodN_iff.1 h
  have h3 : vD l < 10 ^ l.length := vD_lt l (by rw [← h1]; exact all_dD _)
  have hk : ∀ k, k = 60 → (dig (vD l)).length ≤ k := fun k hk => dig_len_le.2 (by rw [Bs_pow]; exact Nat.lt_of_lt_of_le h3 (Nat.pow_le_pow_right (by decide) (by rw [hk]; exact h2)))
  exact hk 60 rfl

set_option maxHeartbeats 6400000 in
set_option maxRecDepth 100000 in
theorem ParseBigInt_any (w : World) (s : ByteArray) (hs : s.size ≤ 1048576) (hE : Env w) :
    Calls Tryz.prog 82 #[.string s] w (BigRes w s) := by
  have hE := Lib.hid hE; rename_i hE_; clear hE_
  have hbl := bl_toList s
  have hlen := bl_len s
  rcases Nat.eq_zero_or_pos s.size with h0 | h0
  · have he : s.toList.isEmpty = true := by
      have hnil : bl s = [] := List.length_eq_zero_iff.1 (by rw [hlen]; exact h0)
      rw [hbl, hnil]
      rfl
    obtain ⟨hm, hh⟩ := mag_pos (s := s) (.inl h0)
    have hgi := Lib.hid (goodI_pos hm hh)
    have h0i : ¬ (0 : Int) < (s.size : Int) := by omega
    clear hbl hlen hm hh
    go_enter Tryz.func82, Tryz.ntmps82
    go_upto_region 1 with (fail)
    refine wp_gen (fun W => Bl w W ∧ ∃ r, Wk 2 24 r W ∧ r = w.heap.size) ⟨slc, _, by exact bts, rfl⟩ ?_
    rintro W0 ⟨hbW, r, hr, hre⟩
    rw [← hre]
    have hrw : w.heap.size ≤ r := by omega
    clear hre
    go_wp2_with (go_at_call 83; refine (ParseNat_any _ s (by omega) (hE.out.bl hbW)).mono ?_)
    rintro e w1 ⟨(⟨hg, A, n, c, rfl, hO⟩ | ⟨hg, rfl⟩), hb1⟩
    · have hl60 := good_len60 hg
      have hI : Hid (goodI (bl s) = true) := Lib.hid (by rw [hgi.out.1]; exact hg)
      have hneg : Hid (decide (vI (bl s) < 0) = false) := Lib.hid (decide_eq_false (by have := hgi.out.2.2; omega))
      have hab := Lib.hid hgi.out.2.1
      clear hg
      have hok := okB_num (s := false) hl60 (fun e => by cases e)
      go_upto_region 7 with (fail)
      refine wp_gen (fun W => Bl w1 W ∧ ∃ g, Blk W g 24 #[.bool false, .slice A n c] ∧ g = w1.heap.size) ⟨slc, _, by exact bts, rfl⟩ ?_
      rintro W1 ⟨hb2, g, hgx, hge⟩
      rw [← hge]
      have hg1 : w1.heap.size ≤ g := by omega
      clear hge
      obtain ⟨y0, y1⟩ := bx2 hgx
      go_wp2_with (go_at_call 102; refine (BigIntOk_any _ ((hO.rd.bl hb2))).mono ?_; rw [hok]; rintro e w2 ⟨rfl, hb3⟩; have hgx2 := hgx.bl hb3; obtain ⟨z0, z1⟩ := bx2 hgx2; have hbw2 := (hbW.next hb1).next (hb2.next hb3); have hr2 := hr.bl (hb1.next (hb2.next hb3)); obtain ⟨v0, x0⟩ := hr2.val_ (i := 0) (by omega); obtain ⟨v1, x1⟩ := hr2.val_ (i := 1) (by omega); have hgr := hr2.lt; have hB := hr2.blk; have hf0 := hB.frozen 0; have hf1 := hB.frozen 1; have hO2 := hO.bl (hb2.next hb3); have hrg : r ≠ g := by { have h1 := hr.lt; have h2 := hb1.size; omega })
      refine bodyPost_ret (v := .tuple #[.agg #[.bool false, .slice A n c], .bool true]) (by simp [results, Tryz.results82, go_sem, x0, x1]) rfl (⟨.inl ⟨hI.out, _, _, _, by rw [hneg.out], by rw [hab.out]; exact ((((hO2).far (p := ⟨r, 0, none⟩) (show r < W0.heap.size from hr.lt) _).far (p := ⟨r, 1, none⟩) (show r < W0.heap.size from hr.lt) _).mono hbW.size)⟩, slc⟩)
    · have hI : Hid (goodI (bl s) = false) := Lib.hid (by rw [hgi.out.1]; exact hg)
      clear hg
      go_upto_region 7 with (fail)
      refine wp_gen (fun W => Bl w1 W) slc ?_
      rintro W1 hb2
      have hrl := hr.bl (hb1.next hb2)
      obtain ⟨v0, x0⟩ := hrl.val_ (i := 0) (by omega)
      obtain ⟨v1, x1⟩ := hrl.val_ (i := 1) (by omega)
      have hgr := hrl.lt
      obtain ⟨cs, hB, hcs⟩ := hrl
      have hf0 := hB.frozen 0
      have hf1 := hB.frozen 1
      go_wp2_with fail
      refine bodyPost_ret (v := .tuple #[.agg #[.bool false, .slice none 0 0], .bool false]) (by simp [results, Tryz.results82, go_sem, x0, x1]) rfl (⟨.inr ⟨hI.out, rfl⟩, slc⟩)
  · have he : s.toList.isEmpty = false := by
      rw [hbl]
      cases hb : bl s with
      | nil => rw [hb] at hlen; simp at hlen; omega
      | cons a t => rfl
    have h0i : (0 : Int) < (s.size : Int) := by omega
    have hx0 : ∀ W, (Instr.index 9 (.string s) (.int .i64 0)).run Tryz.prog W = .ok (.int .u8 ((bt s 0).toNat : Int)) W := fun W => run_idx (P := Tryz.prog) (t := 9) W s 0 h0 Tryz.underlying9
    by_cases hz : bt s 0 = 45
    · obtain ⟨hm, hh⟩ := mag_neg h0 hz
      have hgi := Lib.hid (goodI_neg hm hh)
      have hz2 : ((bt s 0).toNat : Int) = 45 := by rw [hz]; rfl
      have h1i : (1 : Int) ≤ (s.size : Int) := by omega
      clear hbl hlen hm hh hz
      go_enter Tryz.func82, Tryz.ntmps82
      go_upto_region 1 with (fail)
      refine wp_gen (fun W => Bl w W ∧ ∃ r, Wk 2 24 r W ∧ r = w.heap.size) ⟨slc, _, by exact bts, rfl⟩ ?_
      rintro W0 ⟨hbW, r, hr, hre⟩
      rw [← hre]
      have hrw : w.heap.size ≤ r := by omega
      clear hre
      go_wp2_with (go_at_call 83; refine (ParseNat_any _ (s.extract 1 s.size) (by rw [ByteArray.size_extract]; omega) (hE.out.bl hbW)).mono ?_)
      rintro e w1 ⟨(⟨hg, A, n, c, rfl, hO⟩ | ⟨hg, rfl⟩), hb1⟩
      · have hl60 := good_len60 hg
        by_cases hN : vD (bl (s.extract 1 s.size)) = 0
        · have hI : Hid (goodI (bl s) = false) := Lib.hid (by rw [hgi.out.1, hN]; simp)
          clear hg
          have hok : okB true (ints (dig (vD (bl (s.extract 1 s.size))))) = false := by rw [hN]; exact okB_zero
          go_upto_region 7 with (fail)
          refine wp_gen (fun W => Bl w1 W ∧ ∃ g, Blk W g 24 #[.bool true, .slice A n c] ∧ g = w1.heap.size) ⟨slc, _, by exact bts, rfl⟩ ?_
          rintro W1 ⟨hb2, g, hgx, hge⟩
          rw [← hge]
          have hg1 : w1.heap.size ≤ g := by omega
          clear hge
          obtain ⟨y0, y1⟩ := bx2 hgx
          go_wp2_with (go_at_call 102; refine (BigIntOk_any _ ((hO.rd.bl hb2))).mono ?_; rw [hok]; rintro e w2 ⟨rfl, hb3⟩; have hgx2 := hgx.bl hb3; obtain ⟨z0, z1⟩ := bx2 hgx2; have hbw2 := (hbW.next hb1).next (hb2.next hb3); have hr2 := hr.bl (hb1.next (hb2.next hb3)); obtain ⟨v0, x0⟩ := hr2.val_ (i := 0) (by omega); obtain ⟨v1, x1⟩ := hr2.val_ (i := 1) (by omega); have hgr := hr2.lt; have hB := hr2.blk; have hf0 := hB.frozen 0; have hf1 := hB.frozen 1; have hO2 := hO.bl (hb2.next hb3); have hrg : r ≠ g := by { have h1 := hr.lt; have h2 := hb1.size; omega })
          refine bodyPost_ret (v := .tuple #[.agg #[.bool false, .slice none 0 0], .bool false]) (by simp [results, Tryz.results82, go_sem, x0, x1]) rfl (⟨.inr ⟨hI.out, rfl⟩, slc⟩)
        · have hI : Hid (goodI (bl s) = true) := Lib.hid (by rw [hgi.out.1, hg]; simp [hN])
          have hneg : Hid (decide (vI (bl s) < 0) = true) := Lib.hid (decide_eq_true (hgi.out.2.2 hN))
          have hab := Lib.hid hgi.out.2.1
          clear hg
          have hok := okB_num (s := true) hl60 (fun _ => hN)
          go_upto_region 7 with (fail)
          refine wp_gen (fun W => Bl w1 W ∧ ∃ g, Blk W g 24 #[.bool true, .slice A n c] ∧ g = w1.heap.size) ⟨slc, _, by exact bts, rfl⟩ ?_
          rintro W1 ⟨hb2, g, hgx, hge⟩
          rw [← hge]
          have hg1 : w1.heap.size ≤ g := by omega
          clear hge
          obtain ⟨y0, y1⟩ := bx2 hgx
          go_wp2_with (go_at_call 102; refine (BigIntOk_any _ ((hO.rd.bl hb2))).mono ?_; rw [hok]; rintro e w2 ⟨rfl, hb3⟩; have hgx2 := hgx.bl hb3; obtain ⟨z0, z1⟩ := bx2 hgx2; have hbw2 := (hbW.next hb1).next (hb2.next hb3); have hr2 := hr.bl (hb1.next (hb2.next hb3)); obtain ⟨v0, x0⟩ := hr2.val_ (i := 0) (by omega); obtain ⟨v1, x1⟩ := hr2.val_ (i := 1) (by omega); have hgr := hr2.lt; have hB := hr2.blk; have hf0 := hB.frozen 0; have hf1 := hB.frozen 1; have hO2 := hO.bl (hb2.next hb3); have hrg : r ≠ g := by { have h1 := hr.lt; have h2 := hb1.size; omega })
          refine bodyPost_ret (v := .tuple #[.agg #[.bool true, .slice A n c], .bool true]) (by simp [results, Tryz.results82, go_sem, x0, x1]) rfl (⟨.inl ⟨hI.out, _, _, _, by rw [hneg.out], by rw [hab.out]; exact ((((hO2).far (p := ⟨r, 0, none⟩) (show r < W0.heap.size from hr.lt) _).far (p := ⟨r, 1, none⟩) (show r < W0.heap.size from hr.lt) _).mono hbW.size)⟩, slc⟩)
      · have hI : Hid (goodI (bl s) = false) := Lib.hid (by rw [hgi.out.1, hg]; rfl)
        clear hg
        go_upto_region 7 with (fail)
        refine wp_gen (fun W => Bl w1 W) slc ?_
        rintro W1 hb2
        have hrl := hr.bl (hb1.next hb2)
        obtain ⟨v0, x0⟩ := hrl.val_ (i := 0) (by omega)
        obtain ⟨v1, x1⟩ := hrl.val_ (i := 1) (by omega)
        have hgr := hrl.lt
        obtain ⟨cs, hB, hcs⟩ := hrl
        have hf0 := hB.frozen 0
        have hf1 := hB.frozen 1
        go_wp2_with fail
        refine bodyPost_ret (v := .tuple #[.agg #[.bool false, .slice none 0 0], .bool false]) (by simp [results, Tryz.results82, go_sem, x0, x1]) rfl (⟨.inr ⟨hI.out, rfl⟩, slc⟩)
    · obtain ⟨hm, hh⟩ := mag_pos (s := s) (.inr hz)
      have hgi := Lib.hid (goodI_pos hm hh)
      have hz2 : ((((bt s 0).toNat : Int)) == 45) = false := by
        simp only [beq_eq_false_iff_ne, ne_eq]
        intro e
        exact hz (UInt8.toNat_inj.1 (by show (bt s 0).toNat = 45; omega))
      clear hbl hlen hm hh hz
      go_enter Tryz.func82, Tryz.ntmps82
      go_upto_region 1 with (fail)
      refine wp_gen (fun W => Bl w W ∧ ∃ r, Wk 2 24 r W ∧ r = w.heap.size) ⟨slc, _, by exact bts, rfl⟩ ?_
      rintro W0 ⟨hbW, r, hr, hre⟩
      rw [← hre]
      have hrw : w.heap.size ≤ r := by omega
      clear hre
      go_wp2_with (go_at_call 83; refine (ParseNat_any _ s (by omega) (hE.out.bl hbW)).mono ?_)
      rintro e w1 ⟨(⟨hg, A, n, c, rfl, hO⟩ | ⟨hg, rfl⟩), hb1⟩
      · have hl60 := good_len60 hg
        have hI : Hid (goodI (bl s) = true) := Lib.hid (by rw [hgi.out.1]; exact hg)
        have hneg : Hid (decide (vI (bl s) < 0) = false) := Lib.hid (decide_eq_false (by have := hgi.out.2.2; omega))
        have hab := Lib.hid hgi.out.2.1
        clear hg
        have hok := okB_num (s := false) hl60 (fun e => by cases e)
        go_upto_region 7 with (fail)
        refine wp_gen (fun W => Bl w1 W ∧ ∃ g, Blk W g 24 #[.bool false, .slice A n c] ∧ g = w1.heap.size) ⟨slc, _, by exact bts, rfl⟩ ?_
        rintro W1 ⟨hb2, g, hgx, hge⟩
        rw [← hge]
        have hg1 : w1.heap.size ≤ g := by omega
        clear hge
        obtain ⟨y0, y1⟩ := bx2 hgx
        go_wp2_with (go_at_call 102; refine (BigIntOk_any _ ((hO.rd.bl hb2))).mono ?_; rw [hok]; rintro e w2 ⟨rfl, hb3⟩; have hgx2 := hgx.bl hb3; obtain ⟨z0, z1⟩ := bx2 hgx2; have hbw2 := (hbW.next hb1).next (hb2.next hb3); have hr2 := hr.bl (hb1.next (hb2.next hb3)); obtain ⟨v0, x0⟩ := hr2.val_ (i := 0) (by omega); obtain ⟨v1, x1⟩ := hr2.val_ (i := 1) (by omega); have hgr := hr2.lt; have hB := hr2.blk; have hf0 := hB.frozen 0; have hf1 := hB.frozen 1; have hO2 := hO.bl (hb2.next hb3); have hrg : r ≠ g := by { have h1 := hr.lt; have h2 := hb1.size; omega })
        refine bodyPost_ret (v := .tuple #[.agg #[.bool false, .slice A n c], .bool true]) (by simp [results, Tryz.results82, go_sem, x0, x1]) rfl (⟨.inl ⟨hI.out, _, _, _, by rw [hneg.out], by rw [hab.out]; exact ((((hO2).far (p := ⟨r, 0, none⟩) (show r < W0.heap.size from hr.lt) _).far (p := ⟨r, 1, none⟩) (show r < W0.heap.size from hr.lt) _).mono hbW.size)⟩, slc⟩)
      · have hI : Hid (goodI (bl s) = false) := Lib.hid (by rw [hgi.out.1]; exact hg)
        clear hg
        go_upto_region 7 with (fail)
        refine wp_gen (fun W => Bl w1 W) slc ?_
        rintro W1 hb2
        have hrl := hr.bl (hb1.next hb2)
        obtain ⟨v0, x0⟩ := hrl.val_ (i := 0) (by omega)
        obtain ⟨v1, x1⟩ := hrl.val_ (i := 1) (by omega)
        have hgr := hrl.lt
        obtain ⟨cs, hB, hcs⟩ := hrl
        have hf0 := hB.frozen 0
        have hf1 := hB.frozen 1
        go_wp2_with fail
        refine bodyPost_ret (v := .tuple #[.agg #[.bool false, .slice none 0 0], .bool false]) (by simp [results, Tryz.results82, go_sem, x0, x1]) rfl (⟨.inr ⟨hI.out, rfl⟩, slc⟩)
end

section
open Go.RowKit

theorem index_cut {c : UInt8} : ∀ (l : List UInt8), (c ∈ l → Lib.index l [c] = ((cutA c l).length : Int)) ∧ (c ∉ l → Lib.index l [c] = -1)
  | [] => ⟨fun h => (by cases h), fun _ => rfl⟩
  | b :: t => by
    have ih := index_cut (c := c) t
    by_cases hb : b = c
    · subst hb
      refine ⟨fun _ => ?_, fun h => absurd (List.mem_cons_self) h⟩
      have : cutA b (b :: t) = [] := by simp [cutA]
      rw [this]
      unfold Lib.index
      simp
    · have hp : ([c] : List UInt8).isPrefixOf (b :: t) = false := by
        have : (c == b) = false := by rw [beq_eq_false_iff_ne]; exact fun e => hb e.symm
        simp [List.isPrefixOf, this]
      have hA : cutA c (b :: t) = b :: cutA c t := by unfold cutA; rw [List.takeWhile_cons, if_pos (by rw [bne_iff_ne]; exact hb)]
      have hm : c ∈ b :: t ↔ c ∈ t := by simp only [List.mem_cons]; exact ⟨fun h => h.resolve_left (fun e => hb e.symm), .inr⟩
      unfold Lib.index
      rw [hp, hA, hm]
      refine ⟨fun h => ?_, fun h => ?_⟩
      · rw [ih.1 h]
        have : (((cutA c t).length : Int) == -1) = false := by rw [beq_eq_false_iff_ne]; omega
        simp [this]
      · rw [ih.2 h]
        simp
theorem cut_one (c : UInt8) (l : List UInt8) : Lib.cut l [c] = if c ∈ l then (cutA c l, cutB c l, true) else (l, [], false) := by
  unfold Lib.cut
  by_cases h : c ∈ l
  · have hj := cut_join h
    rw [(index_cut l).1 h, if_pos h, if_pos (by omega)]
    simp only [Int.toNat_natCast, List.length_singleton]
    have e1 : l.take (cutA c l).length = cutA c l := by
      have := congrArg (List.take (cutA c l).length) hj
      rw [List.take_left] at this
      exact this
    have e2 : l.drop ((cutA c l).length + 1) = cutB c l := by
      have := congrArg (List.drop ((cutA c l).length + 1)) hj
      rw [this, ← List.drop_drop, List.drop_left]
      rfl
    rw [e1, e2]
  · rw [(index_cut l).2 h, if_neg h, if_neg (by omega)]
/-- The text of a valid fraction. -/
def OkT (l : List UInt8) : Prop := ∃ x D, okR (raw x D) = true ∧ ftx x D = l
/-- The fraction that is spelled. -/
def qv (l : List UInt8) : RatD := raw (vI (cutA 47 l)) (vD (denT l))
/-- The denominator's text, as the reference takes it. -/
def denS (l : List UInt8) : List UInt8 := if 47 ∈ l then cutA 47 (cutB 47 l) else [49]
theorem len540 {N : Nat} (h : (dig N).length ≤ 24) : (dD N).length ≤ 540 := dD_len540 (by omega)
theorem NTx_dD {N : Nat} (h : (dig N).length ≤ 24) : NTx (dD N) N := ⟨rfl, len540 h⟩
theorem OkT.parts {l : List UInt8} (h : OkT l) : goodI (cutA 47 l) = true ∧ goodN (denT l) = true ∧ denS l = denT l ∧ okR (qv l) = true ∧ rtx (vI (cutA 47 l)) (vD (denT l)) = l := by
  obtain ⟨x, D, ho, rfl⟩ := h
  obtain ⟨h1, h2⟩ := ftx_parts x D
  obtain ⟨_, _, _, h5, h6⟩ := (okR_true.1 ho).get
  rw [rn_raw] at h5
  rw [rd_raw] at h6
  have e1 : vI (cutA 47 (ftx x D)) = x := by rw [h1, vI_itx]
  have e2 : vD (denT (ftx x D)) = D := by rw [h2, vD_dD]
  refine ⟨by rw [h1]; exact goodI_itx (len540 h5), by rw [h2]; exact (NTx_dD h6).good, ?_, by unfold qv; rw [e1, e2]; exact ho, ?_⟩
  · unfold denS denT
    by_cases hm : 47 ∈ ftx x D
    · rw [if_pos hm, if_pos hm, (cut_none (ftx_slash rfl hm)).1]
    · rw [if_neg hm, if_neg hm]
  · rw [e1, e2]
    unfold rtx
    rw [if_pos ho]
theorem OkT.of {l : List UInt8} {x : Int} {D : Nat} (hg : goodI (cutA 47 l) = true) (h : rtx x D = l) : OkT l := by
  have hl : l ≠ [] := by
    intro e
    rw [e] at hg
    exact absurd hg (by decide)
  unfold rtx at h
  by_cases ho : okR (raw x D) = true
  · rw [if_pos ho] at h
    exact ⟨x, D, ho, h⟩
  · rw [if_neg ho] at h
    exact absurd h.symm hl
theorem cutA_id {c : UInt8} {l : List UInt8} (h : c ∉ l) : cutA c l = l := (cut_none h).1
theorem cutA_le (c : UInt8) (l : List UInt8) : (cutA c l).length ≤ l.length := (List.takeWhile_sublist _).length_le
theorem cutB_le (c : UInt8) (l : List UInt8) : (cutB c l).length ≤ l.length := by unfold cutB; rw [List.length_drop]; have := (List.dropWhile_sublist (l := l) (fun b => b != c)).length_le; omega
theorem cutA_bl (s : ByteArray) (c : UInt8) : (sb (cutA c (bl s))).size ≤ s.size := by rw [sb_size, ← bl_len]; exact cutA_le _ _
theorem sb_toList (l : List UInt8) : (sb l).toList = l := by rw [bl_toList, bl_sb]
end

end Go.Proofs.YtjaapemopbbfaaaGreatDoor
