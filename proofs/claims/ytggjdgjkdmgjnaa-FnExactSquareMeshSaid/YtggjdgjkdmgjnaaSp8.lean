import Derived.Test.YtggjdgjkdmgjnaaRows
import Derived.Test.YtggjdgjkdmgjnaaSp7
import Derived.Test.YtggjdgjkdmgjnaaBg6
namespace Go.Proofs.Ytggjdgjkdmgjnaa

open Go.RowKit

section
variable (w : World) {s : Bool} {A : Option Addr} {n c : Nat} {B : Option Addr} {m d : Nat} {r : RatD}
end

theorem sx_mul {x y : Int} {s t : Bool} (hs : s = decide (x < 0)) (ht : t = decide (y < 0)) : sx (s != t) (x.natAbs * y.natAbs) = x * y := by
  have hn : ((x.natAbs * y.natAbs : Nat) : Int) = (x.natAbs : Int) * (y.natAbs : Int) := Int.natCast_mul _ _
  unfold sx
  rw [hn]
  rcases Int.lt_or_le x 0 with hx | hx <;> rcases Int.lt_or_le y 0 with hy | hy
  · have e1 : (x.natAbs : Int) = -x := by omega
    have e2 : (y.natAbs : Int) = -y := by omega
    rw [hs, ht, e1, e2]; simp [hx, hy, Int.neg_mul, Int.mul_neg]
  · have e1 : (x.natAbs : Int) = -x := by omega
    have e2 : (y.natAbs : Int) = y := by omega
    rw [hs, ht, e1, e2]; simp [hx, show ¬ y < 0 by omega, Int.neg_mul]
  · have e1 : (x.natAbs : Int) = x := by omega
    have e2 : (y.natAbs : Int) = -y := by omega
    rw [hs, ht, e1, e2]; simp [hy, show ¬ x < 0 by omega, Int.mul_neg]
  · have e1 : (x.natAbs : Int) = x := by omega
    have e2 : (y.natAbs : Int) = y := by omega
    rw [hs, ht, e1, e2]; simp [show ¬ x < 0 by omega, show ¬ y < 0 by omega]
theorem OwI.grown {T : TypeId} {b0 : Nat} {w w' : World} {A : Option Addr} {n c : Nat} {l : List Int} {row : Option Nat} (h : OwI T b0 w A n c l) (hg : w.grownBy w' row) (hr : ∀ k, row = some k → k < b0) : OwI T b0 w' A n c l := by
  obtain ⟨bs, h1, hf⟩ := FtI.of_own h
  have h2 : FtI T w' A n c l bs := h1.keep hg.size (fun b hb => hg.block b (hf.2 b hb).2 (by intro e; have := hr b e.symm; have := (hf.2 b hb).1; omega))
  refine ⟨h2.1, ?_⟩
  rcases h2.2 with ⟨h0, _⟩ | ⟨g, cs, _, e, hh, hn, e2⟩
  · exact .inl h0
  · exact .inr ⟨g, cs, e, (hf.2 g (by rw [e2]; simp)).1, hh, hn⟩
/-- append of a whole slice that reads as ys, as one step of a region that draws its order. -/
theorem step_append_x {P : Program} {E t : TypeId} (hinfo : (P.info? E).map (fun i => (i.zero, i.size, i.bytes)) = some (some (.int .i64 0), 1, 8)) (ht : P.underlying t = some (.slice E))
    {w0 W : World} {ops : Array Oper} {o : Oper} {a : Act} {K : Act → World → Prop} {Q : Exit → Act → World → Prop} {F : Prop} (hgd : o.guard = none) (s x : Operand)
    (ho : o.op = .call { callee := .builtin .append, args := #[s, x], argTypes := #[t, t] }) (v : Value) (l : List Int) (hs : a.eval s = v) (hown : OwL E w0.heap.size W v l) (hb : Bl w0 W)
    (A : Option Addr) (m c : Nat) (hx : a.eval x = .slice A m c) (ys : List Int) (hr : RdI W A m c ys) (hlen : l.length ≤ 1099511627776) (hm : m ≤ 1099511627776)
    (h : ∀ v' w', OwL E w0.heap.size w' v' (l ++ ys) → Bl w0 w' → W.grownBy w' v.ownBlock → K (a.put o.dst v') w') : if Region.wanted o (yielded ops a.tmps) = true then Oper.wp P o a W K Q else F := by
  have hw : Region.wanted o (yielded ops a.tmps) = true := by simp [Region.wanted, hgd]
  rw [if_pos hw]
  obtain ⟨i0, hi, hz0, hz1, hz2⟩ := info_parts hinfo
  rcases A with _ | ad
  · have hm0 : m = 0 := by
      rcases Nat.eq_zero_or_pos m with h0 | h0
      · exact h0
      · obtain ⟨_, e, _⟩ := hr.at_ h0
        cases e
    subst hm0
    have hy : ys = [] := List.length_eq_zero_iff.1 hr.len
    subst hy
    have hrun := run_append_nil' (P := P) W w0.heap.size (ty := o.type) ht hi hown c
    unfold Oper.wp execOp
    simp only [ho, resolve, invoke, builtin, Sem.run_bind, Sem.run_pure, Result.andThen_ok, List.map_toArray, List.map_cons, List.map_nil, hs, hx, hrun]
    exact h v W (by rw [List.append_nil]; exact hown) hb (World.grownBy.refl W _)
  · obtain ⟨v', w', hrun, h2, h3, _⟩ := run_append_own_at (P := P) W w0.heap.size t o.type E i0 (.int .i64 0) 1 8 ht hi hz0 hz1 hz2 rfl (by omega) v l.length (l.map (Value.int .i64)) hown ad m c (ys.map (Value.int .i64)) (by simp [hr.len]) (by
      intro j u hu
      rw [List.getElem?_map] at hu
      have hj : j < m := by
        rcases Nat.lt_or_ge j ys.length with h | h
        · rw [hr.len] at h; exact h
        · rw [List.getElem?_eq_none h] at hu; simp at hu
      obtain ⟨ad', e, _, hc⟩ := hr.at_ hj
      injection e with e
      subst e
      rw [hc]
      rw [List.getElem?_eq_getElem (by rw [hr.len]; exact hj)] at hu
      simp at hu
      rw [← hu]
      simp [ix, hr.len, hj]) (by intro u hu; simp at hu; obtain ⟨z, _, rfl⟩ := hu; rfl) (by simp only [maxLen]; omega) (by omega) hb.size
    unfold Oper.wp execOp
    simp only [ho, resolve, invoke, builtin, Sem.run_bind, Sem.run_pure, Result.andThen_ok, List.map_toArray, List.map_cons, List.map_nil, hs, hx, hrun]
    refine h v' w' ?_ (hb.grown h3 hown.blockLe) h3
    unfold OwL
    rw [List.length_append, hr.len]
    simpa using h2

end Go.Proofs.Ytggjdgjkdmgjnaa
