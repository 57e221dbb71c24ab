/- Lemmas. -/
import Derived.Test.YtajlahjghapbkaaGreatRows
import Derived.Test.YtajlahjghapbkaaGreatPProlongM03
import Derived.Test.YtajlahjghapbkaaGreatPProlongM09
namespace Go.Proofs.YtajlahjghapbkaaGreat
section
open Go.RowKit

instance : Inhabited (Rat × Rat) := ⟨(0, 0)⟩
def tp (p : Rat × Rat) : PtD := ⟨toR p.1, toR p.2⟩
theorem pix_map {l : List (Rat × Rat)} {k : Nat} (h : k < l.length) : pix (l.map tp) k = tp (pix l k) := by simp [pix, h]
/-- A fraction of one limb. -/
def SmQ (q : Rat) : Prop := q.num.natAbs < 1000000000 ∧ q.den < 1000000000
instance (q : Rat) : Decidable (SmQ q) := by unfold SmQ; infer_instance
theorem SmQ.mag {q : Rat} (h : SmQ q) : (toR q).mag.length ≤ 1 := by
  show (ints (dig q.num.natAbs)).length ≤ 1
  rw [ints_len]
  exact dig_len_le.2 (by simpa [Bs] using h.1)
theorem SmQ.den {q : Rat} (h : SmQ q) : (toR q).den.length = 1 := by
  show (ints (dig q.den)).length = 1
  rw [ints_len]
  have h1 : (dig q.den).length ≤ 1 := dig_len_le.2 (by simpa [Bs] using h.2)
  have h2 : 0 < (dig q.den).length := dig_len_pos.2 q.den_pos
  omega
theorem SmQ.fit {q : Rat} (h : SmQ q) : Fit q := ⟨Nat.lt_trans h.1 (by decide), Nat.lt_trans h.2 (by decide)⟩
/-- The sign of a turn. -/
def trn (xs ys : List Int) (a b c : Int) : Int :=
  cmpZ ((ix xs b.toNat - ix xs a.toNat) * (ix ys c.toNat - ix ys a.toNat) - (ix ys b.toNat - ix ys a.toNat) * (ix xs c.toNat - ix xs a.toNat)) 0
def PlB (n : Nat) (xs ys : List Int) : Prop := ∀ k, k < n → -536870912 ≤ ix xs k ∧ ix xs k ≤ 536870912 ∧ -536870912 ≤ ix ys k ∧ ix ys k ≤ 536870912
theorem mul_bd {a b : Int} (h1 : -1073741824 ≤ a) (h2 : a ≤ 1073741824) (h3 : -1073741824 ≤ b) (h4 : b ≤ 1073741824) : -1152921504606846976 ≤ a * b ∧ a * b ≤ 1152921504606846976 := by
  have h : (a * b).natAbs ≤ 1073741824 * 1073741824 := by
    rw [Int.natAbs_mul]
    exact Nat.mul_le_mul (by omega) (by omega)
  omega
theorem rdi_lit {w : World} {g n c : Nat} {l : List Int} (h : RdI w (some ⟨g, 0, none⟩) n c l) {k : Nat} (hk : k < n) : w.cell? ⟨g, k, none⟩ = some (.int .i64 (ix l k)) := by
  obtain ⟨_, e, _, hc⟩ := h.cells k hk
  cases e
  rw [Addr.add_lit, Nat.zero_add] at hc
  exact hc
theorem bx5 {W : World} {g : Nat} {T : TypeId} {a b c d e : Value} (h : Blk W g T #[a, b, c, d, e]) : W.cell? ⟨g, 0, none⟩ = some a ∧ W.cell? ⟨g, 1, none⟩ = some b ∧ W.cell? ⟨g, 2, none⟩ = some c ∧ W.cell? ⟨g, 3, none⟩ = some d ∧ W.cell? ⟨g, 4, none⟩ = some e := ⟨h.cell 0, h.cell 1, h.cell 2, h.cell 3, h.cell 4⟩
end

end Go.Proofs.YtajlahjghapbkaaGreat
