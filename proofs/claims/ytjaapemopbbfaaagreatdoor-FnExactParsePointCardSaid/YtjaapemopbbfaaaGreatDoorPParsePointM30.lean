/- Lemmas. -/
import Derived.Test.YtjaapemopbbfaaaGreatDoorRows
import Derived.Test.YtjaapemopbbfaaaGreatDoorPParsePointM27
import Derived.Test.YtjaapemopbbfaaaGreatDoorPParsePointM29
import Derived.Test.YtjaapemopbbfaaaGreatDoorPParsePointM24
import Derived.Lib.IndexMore
namespace Go.Proofs.YtjaapemopbbfaaaGreatDoor
section
open Go.RowKit

theorem index_cut {c : UInt8} : ∀ (l : List UInt8), (c ∈ l → Lib.index l [c] = ((cutA c l).length : Int)) ∧ (c ∉ l → Lib.index l [c] = -1)
  | [] => ⟨fun h => (by cases h), fun _ => rfl⟩
  | b :: t => by
    have ih := index_cut (c := c) t
    by_cases hb : b = c
    · subst hb
      refine ⟨fun _ => ?_, fun h => absurd (List.mem_cons_self) h⟩
      have : cutA b (b :: t) = [] := by simp [cutA]
      rw [this]
      unfold Lib.index
      simp
    · have hp : ([c] : List UInt8).isPrefixOf (b :: t) = false := by
        have : (c == b) = false := by rw [beq_eq_false_iff_ne]; exact fun e => hb e.symm
        simp [List.isPrefixOf, this]
      have hA : cutA c (b :: t) = b :: cutA c t := by unfold cutA; rw [List.takeWhile_cons, if_pos (by rw [bne_iff_ne]; exact hb)]
      have hm : c ∈ b :: t ↔ c ∈ t := by simp only [List.mem_cons]; exact ⟨fun h => h.resolve_left (fun e => hb e.symm), .inr⟩
      unfold Lib.index
      rw [hp, hA, hm]
      refine ⟨fun h => ?_, fun h => ?_⟩
      · rw [ih.1 h]
        have : (((cutA c t).length : Int) == -1) = false := by rw [beq_eq_false_iff_ne]; omega
        simp [this]
      · rw [ih.2 h]
        simp
theorem cut_one (c : UInt8) (l : List UInt8) : Lib.cut l [c] = if c ∈ l then (cutA c l, cutB c l, true) else (l, [], false) := by
  unfold Lib.cut
  by_cases h : c ∈ l
  · have hj := cut_join h
    rw [(index_cut l).1 h, if_pos h, if_pos (by omega)]
    simp only [Int.toNat_natCast, List.length_singleton]
    have e1 : l.take (cutA c l).length = cutA c l := by
      have := congrArg (List.take (cutA c l).length) hj
      rw [List.take_left] at this
      exact this
    have e2 : l.drop ((cutA c l).length + 1) = cutB c l := by
      have := congrArg (List.drop ((cutA c l).length + 1)) hj
      rw [this, ← List.drop_drop, List.drop_left]
      rfl
    rw [e1, e2]
  · rw [(index_cut l).2 h, if_neg h, if_neg (by omega)]
/-- The text of a valid fraction. -/
def OkT (l : List UInt8) : Prop := ∃ x D, okR (raw x D) = true ∧ ftx x D = l
/-- The fraction that is spelled. -/
def qv (l : List UInt8) : RatD := raw (vI (cutA 47 l)) (vD (denT l))
/-- The denominator's text, as the reference takes it. -/
def denS (l : List UInt8) : List UInt8 := if 47 ∈ l then cutA 47 (cutB 47 l) else [49]
theorem len540 {N : Nat} (h : (dig N).length ≤ 24) : (dD N).length ≤ 540 := dD_len540 (by omega)
theorem NTx_dD {N : Nat} (h : (dig N).length ≤ 24) : NTx (dD N) N := ⟨rfl, len540 h⟩
theorem OkT.parts {l : List UInt8} (h : OkT l) : goodI (cutA 47 l) = true ∧ goodN (denT l) = true ∧ denS l = denT l ∧ okR (qv l) = true ∧ rtx (vI (cutA 47 l)) (vD (denT l)) = l := by
  obtain ⟨x, D, ho, rfl⟩ := h
  obtain ⟨h1, h2⟩ := ftx_parts x D
  obtain ⟨_, _, _, h5, h6⟩ := (okR_true.1 ho).get
  rw [rn_raw] at h5
  rw [rd_raw] at h6
  have e1 : vI (cutA 47 (ftx x D)) = x := by rw [h1, vI_itx]
  have e2 : vD (denT (ftx x D)) = D := by rw [h2, vD_dD]
  refine ⟨by rw [h1]; exact goodI_itx (len540 h5), by rw [h2]; exact (NTx_dD h6).good, ?_, by unfold qv; rw [e1, e2]; exact ho, ?_⟩
  · unfold denS denT
    by_cases hm : 47 ∈ ftx x D
    · rw [if_pos hm, if_pos hm, (cut_none (ftx_slash rfl hm)).1]
    · rw [if_neg hm, if_neg hm]
  · rw [e1, e2]
    unfold rtx
    rw [if_pos ho]
theorem OkT.of {l : List UInt8} {x : Int} {D : Nat} (hg : goodI (cutA 47 l) = true) (h : rtx x D = l) : OkT l := by
  have hl : l ≠ [] := by
    intro e
    rw [e] at hg
    exact absurd hg (by decide)
  unfold rtx at h
  by_cases ho : okR (raw x D) = true
  · rw [if_pos ho] at h
    exact ⟨x, D, ho, h⟩
  · rw [if_neg ho] at h
    exact absurd h.symm hl
theorem cutA_id {c : UInt8} {l : List UInt8} (h : c ∉ l) : cutA c l = l := (cut_none h).1
theorem pcs_head (c : UInt8) (l : List UInt8) : (pcs c l).getD 0 [] = cutA c l := by
  by_cases h : c ∈ l
  · rw [pcs_yes h]; rfl
  · rw [pcs_no h, cutA_id h]; rfl
theorem pcs_snd {c : UInt8} {l : List UInt8} (h : c ∈ l) : (pcs c l).getD 1 [] = cutA c (cutB c l) := by
  rw [pcs_yes h, ← pcs_head c (cutB c l)]
  rfl
theorem pcs_len {c : UInt8} {l : List UInt8} : 1 < (pcs c l).length ↔ c ∈ l := by
  constructor
  · intro h
    exact Classical.byContradiction fun e => by have := pcs_one.2 e; omega
  · intro h
    rw [pcs_yes h, List.length_cons]
    have := List.length_pos_iff.2 (pcs_ne c (cutB c l))
    omega
theorem cutA_le (c : UInt8) (l : List UInt8) : (cutA c l).length ≤ l.length := (List.takeWhile_sublist _).length_le
theorem cutB_le (c : UInt8) (l : List UInt8) : (cutB c l).length ≤ l.length := by unfold cutB; rw [List.length_drop]; have := (List.dropWhile_sublist (l := l) (fun b => b != c)).length_le; omega
theorem cutA_bl (s : ByteArray) (c : UInt8) : (sb (cutA c (bl s))).size ≤ s.size := by rw [sb_size, ← bl_len]; exact cutA_le _ _
theorem sb_toList (l : List UInt8) : (sb l).toList = l := by rw [bl_toList, bl_sb]
end

end Go.Proofs.YtjaapemopbbfaaaGreatDoor
