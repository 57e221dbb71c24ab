import Derived.Test.YthgielbhcjpikaaGreatRows
import Derived.Test.YthgielbhcjpikaaGreatBase
namespace Go.Proofs.YthgielbhcjpikaaGreat
open Go.RowKit

theorem wpList_append_all {P : Program} {E t : TypeId} (hinfo : (P.info? E).map (fun i => (i.zero, i.size, i.bytes)) = some (some (.int .i64 0), 1, 8)) (ht : P.underlying t = some (.slice E))
    {w0 W : World} {ops : Array Oper} {rest : List Oper} {o : Oper} {a : Act} {Q : Exit → Act → World → Prop} (hgd : o.guard = none) (s x : Operand)
    (ho : o.op = .call { callee := .builtin .append, args := #[s, x], argTypes := #[t, t] }) (v : Value) (l : List Int) (hs : a.eval s = v) (hown : OwL E w0.heap.size W v l) (hb : Bl w0 W)
    (ad : Addr) (m c : Nat) (hx : a.eval x = .slice (some ad) m c) (ys : List Int) (hr : RdI W (some ad) m c ys) (hlen : l.length ≤ 1099511627776) (hm : m ≤ 1099511627776)
    (h : ∀ v' w', OwL E w0.heap.size w' v' (l ++ ys) → Bl w0 w' → wpList P ops Q rest (a.put o.dst v') w') : wpList P ops Q (o :: rest) a W := by
  obtain ⟨i0, hi, hz0, hz1, hz2⟩ := info_parts hinfo
  refine wpList_append_own _ hgd s x t ho w0.heap.size E i0 (.int .i64 0) 1 8 ht hi hz0 hz1 hz2 rfl (by omega) v l.length (l.map (Value.int .i64)) hs hown ad m c (ys.map (Value.int .i64)) hx (by simp [hr.len]) ?_ (by intro u hu; simp at hu; obtain ⟨z, _, rfl⟩ := hu; rfl) (by simp only [maxLen]; omega) (by omega) hb.size ?_
  · intro j u hu
    rw [List.getElem?_map] at hu
    have hj : j < m := by
      rcases Nat.lt_or_ge j ys.length with h | h
      · rw [hr.len] at h; exact h
      · rw [List.getElem?_eq_none h] at hu; simp at hu
    obtain ⟨ad', e, _, hc⟩ := hr.at_ hj
    injection e with e
    subst e
    rw [hc]
    rw [List.getElem?_eq_getElem (by rw [hr.len]; exact hj)] at hu
    simp at hu
    rw [← hu]
    simp [ix, hr.len, hj]
  · intro v' w' h1 h2 _
    refine h v' w' ?_ (hb.grown h2 hown.blockLe)
    unfold OwL
    rw [List.length_append, hr.len]
    simpa using h1

set_option maxHeartbeats 400000 in
theorem Clone_any (w : World) {A : Option Addr} {n c : Nat} {l : List Int} (h : RdI w A n c l) (hn : n ≤ 1048576) :
    Calls Tryz.prog 171 #[.slice A n c] w fun e w' => ∃ A' n' c', e = .returned (.slice A' n' c') ∧ OwI 3 w.heap.size w' A' n' c' l ∧ Bl w w' := by
  have he : ∀ W a n c, (binOp .eql 28 (.slice a n c) (.slice none 0 0)).run Tryz.prog W = .ok (.bool a.isNone) W := fun W a n c => Lib.run_eql_slice_nil W 28 3 a n c 0 0 Tryz.underlying28
  have hl := Lib.hid h.len
  rcases A with _ | ad
  · have hn0 : n = 0 := by
      rcases Nat.eq_zero_or_pos n with h0 | h0
      · exact h0
      · obtain ⟨_, e, _⟩ := h.at_ h0
        cases e
    subst hn0
    have hl0 : l = [] := List.length_eq_zero_iff.1 hl.out
    subst hl0
    go_enter Tryz.func171, Tryz.ntmps171
    go_wp2
    go_ret
    exact ⟨none, 0, 0, rfl, OwI.nil _ _ _ _, Bl.refl _⟩
  · go_enter Tryz.func171, Tryz.ntmps171
    go_wp2_with (at_builtin; go_must (refine wpList_append_all (w0 := w) info_int Tryz.underlying28 rfl (.tmp 5) (.tmp 6) rfl _ [] rfl (OwL.empty w (Nat.le_refl _) (by simp)) ((Bl.refl w).alloc _) ad n c rfl l (h.alloc _) (by simp) (by omega) ?_); intro v' w1 hown1 hbw1)
    obtain ⟨A', c', hv, ho⟩ := hown1.own (by have := hl.out; simp; omega)
    go_ret
    exact ⟨A', _, c', congrArg Ending.returned hv, ho, hbw1⟩

end Go.Proofs.YthgielbhcjpikaaGreat
