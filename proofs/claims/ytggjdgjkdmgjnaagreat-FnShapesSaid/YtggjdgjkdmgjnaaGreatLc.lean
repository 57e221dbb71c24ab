import Derived.Test.YtggjdgjkdmgjnaaGreatRows
import Derived.Test.YtggjdgjkdmgjnaaGreatSp8
namespace Go.Proofs.YtggjdgjkdmgjnaaGreat

open Go.RowKit

theorem OwL.grown {E : TypeId} {base : Nat} {w w' : World} {v : Value} {l : List Int} {row : Option Nat} (h : OwL E base w v l) (hg : w.grownBy w' row) (hr : ∀ k, row = some k → v.ownBlock ≠ some k) : OwL E base w' v l := by
  refine ⟨h.1, ?_⟩
  rcases h.2 with h2 | ⟨g, cap, cur, hv, hgb, hh, r⟩
  · exact .inl h2
  · exact .inr ⟨g, cap, cur, hv, hgb, (hg.block g (heap_lt hh) (by intro e; exact hr g e.symm (by rw [hv]; rfl))).trans hh, r⟩
theorem OwI.past {T E : TypeId} {b0 k : Nat} {w w' : World} {A : Option Addr} {n c : Nat} {l : List Int} (h : OwI T b0 w A n c l) (hg : w.grownBy w' (some k)) (hk : w.heap[k]? = some (.cells #[] E)) : OwI T b0 w' A n c l := by
  obtain ⟨bs, h1, hf⟩ := FtI.of_own h
  have h2 : FtI T w' A n c l bs := h1.keep hg.size (fun b hb => hg.block b (hf.2 b hb).2 (by
    intro e
    injection e with e
    subst e
    rcases h1.2 with ⟨_, e2⟩ | ⟨g, cs, h0, _, hh, hn, e2⟩
    · rw [e2] at hb; cases hb
    · rw [e2] at hb
      simp at hb
      subst hb
      rw [hk] at hh
      injection hh with hh
      injection hh with hh
      subst hh
      simp at hn
      omega))
  refine ⟨h2.1, ?_⟩
  rcases h2.2 with ⟨h0, _⟩ | ⟨g, cs, _, e, hh, hn, e2⟩
  · exact .inl h0
  · exact .inr ⟨g, cs, e, (hf.2 g (by rw [e2]; simp)).1, hh, hn⟩
theorem OwL.empty1 {E : TypeId} {base : Nat} (W : World) (o : Obj) {cur : Array Value} (hb : base ≤ W.heap.size + 1) (hm : cur.size ≤ maxLen) : OwL E base ((W.alloc o).alloc (.cells cur E)) (.slice (some ⟨W.heap.size + 1, 0, none⟩) 0 cur.size) [] := by
  have h := OwL.empty (E := E) (base := base) (W.alloc o) (cur := cur) (by rw [World.size_alloc]; exact hb) hm
  rwa [World.size_alloc] at h
/-- A fraction in memory of its own (its two slices may share it). -/
def OwQ (T : TypeId) (b0 : Nat) (w : World) (s : Bool) (A : Option Addr) (n c : Nat) (B : Option Addr) (m d : Nat) (r : RatD) : Prop :=
  ∃ bs, FtR T w s A n c B m d r bs ∧ ∀ b ∈ bs, b0 ≤ b ∧ b < w.heap.size
section
variable {T : TypeId} {b0 b1 : Nat} {w W : World} {s : Bool} {A : Option Addr} {n c : Nat} {B : Option Addr} {m d : Nat} {r : RatD}
theorem OwQ.of (h : OwR T b0 w s A n c B m d r) : OwQ T b0 w s A n c B m d r := by
  obtain ⟨bs, h, hf⟩ := h
  exact ⟨bs, h, hf.2⟩
theorem OwQ.rd (h : OwQ T b0 w s A n c B m d r) : RdR w s A n c B m d r := by
  obtain ⟨bs, h, _⟩ := h
  exact h.rd
theorem OwQ.two (hs : s = r.neg) (h : OwI T b0 w A n c r.mag) (k : OwI T b0 w B m d r.den) : OwQ T b0 w s A n c B m d r := by
  obtain ⟨b1, h1, f1⟩ := FtI.of_own h
  obtain ⟨b2, h2, f2⟩ := FtI.of_own k
  refine ⟨b1 ++ b2, ⟨hs, b1, b2, h1, h2, rfl⟩, fun b hb => ?_⟩
  rcases List.mem_append.1 hb with hb | hb
  · exact f1.2 b hb
  · exact f2.2 b hb
theorem OwQ.bl (h : OwQ T b0 w s A n c B m d r) (hb : Bl w W) : OwQ T b0 W s A n c B m d r := by
  obtain ⟨bs, h, hf⟩ := h
  exact ⟨bs, h.bl hb, fun b hm => ⟨(hf b hm).1, Nat.lt_of_lt_of_le (hf b hm).2 hb.size⟩⟩
theorem OwQ.mono (h : OwQ T b1 w s A n c B m d r) (hb : b0 ≤ b1) : OwQ T b0 w s A n c B m d r := by
  obtain ⟨bs, h, hf⟩ := h
  exact ⟨bs, h, fun b hm => ⟨Nat.le_trans hb (hf b hm).1, (hf b hm).2⟩⟩
theorem OwQ.far (h : OwQ T b0 w s A n c B m d r) {q : Addr} (hp : q.block < b0) (u : Value) : OwQ T b0 (w.setCell q u) s A n c B m d r := by
  obtain ⟨bs, h, hf⟩ := h
  refine ⟨bs, h.keep (by simp) (fun b hb => Below.heap_setCell w q u b (by have := (hf b hb).1; omega)), fun b hm => ?_⟩
  have := hf b hm
  simpa using this
end

set_option maxRecDepth 100000 in
set_option maxHeartbeats 2000000 in
theorem l04Copy_any (w : World) {s : Bool} {A : Option Addr} {n c : Nat} {B : Option Addr} {m d : Nat} {r : RatD} (h : RdR w s A n c B m d r) (hn : n ≤ 1048576) (hm : m ≤ 1048576) :
    Calls Tryz.prog 130 #[.agg #[.bool s, .slice A n c, .slice B m d]] w fun e w' => ∃ s1 A1 n1 c1 B1 m1 d1, e = .returned (.agg #[.bool s1, .slice A1 n1 c1, .slice B1 m1 d1]) ∧ OwQ 3 w.heap.size w' s1 A1 n1 c1 B1 m1 d1 r ∧ Bl w w' := by
  have hs := Lib.hid h.neg
  have hl1 : Hid ((([] : List Int) ++ r.mag).length = n) := by have := RdI.len h.mag; unfold Hid; simpa using this
  have hl2 : Hid ((([] : List Int) ++ r.den).length = m) := by have := RdI.len h.den; unfold Hid; simpa using this
  go_enter Tryz.func130, Tryz.ntmps130
  go_wp2_with fail
  refine wp_gen (fun W => Bl w W ∧ Blk W (w.heap.size) 34 #[.bool s, .slice A n c, .slice B m d] ∧ Wk 3 34 (w.heap.size + 1) W) ⟨slc, bts, bts⟩ ?_
  rintro W ⟨hbW, hx, hr⟩
  have hzW := hr.lt
  go_region_held3 (fun w' => (w'.cell? ⟨w.heap.size, 0, none⟩ = some (.bool s) ∧ w'.cell? ⟨w.heap.size, 1, none⟩ = some (.slice A n c) ∧ w'.cell? ⟨w.heap.size, 2, none⟩ = some (.slice B m d)) ∧ (w'.cell? ⟨w.heap.size + 1, 0, none⟩ = some (cellD w' (w.heap.size + 1) 0) ∧ w'.cell? ⟨w.heap.size + 1, 1, none⟩ = some (cellD w' (w.heap.size + 1) 1) ∧ w'.cell? ⟨w.heap.size + 1, 2, none⟩ = some (cellD w' (w.heap.size + 1) 2)) ∧ w'.frozen? ⟨w.heap.size + 1, 0, none⟩ = false ∧ w'.frozen? ⟨w.heap.size + 1, 1, none⟩ = false ∧ w'.frozen? ⟨w.heap.size + 1, 2, none⟩ = false) (first | exact ⟨bx3 (T := 34) bts, Wk.out3 (T := 34) bts⟩) (first | (refine step_append_x (w0 := W) info_int Tryz.underlying30 rfl (.tmp 6) (.tmp 9) rfl _ [] (by rfl) (OwL.empty W.drew (Nat.le_refl _) (by simp)) slc A n c (by rfl) r.mag (h.mag.bl slc) (by simp) (by omega) ?_; intro v1 w5 hown hb5 hg5; (obtain ⟨A1, c1, hv, ho1⟩ := hown.own (by rw [hl1.out]; omega)); rw [hl1.out] at hv ho1; subst hv; rw [List.nil_append] at ho1) | (refine step_append_x (w0 := W) info_int Tryz.underlying30 rfl (.tmp 6) (.tmp 9) rfl _ [] (by rfl) ((OwL.empty W.drew (Nat.le_refl _) (by simp)).alloc _) slc A n c (by rfl) r.mag (h.mag.bl slc) (by simp) (by omega) ?_; intro v1 w5 hown hb5 hg5; (obtain ⟨A1, c1, hv, ho1⟩ := hown.own (by rw [hl1.out]; omega)); rw [hl1.out] at hv ho1; subst hv; rw [List.nil_append] at ho1) | (refine step_append_x (w0 := W) info_int Tryz.underlying30 rfl (.tmp 6) (.tmp 9) rfl _ [] (by rfl) (OwL.empty1 W.drew _ (Nat.le_succ _) (by simp)) slc A n c (by rfl) r.mag (h.mag.bl slc) (by simp) (by omega) ?_; intro v1 w5 hown hb5 hg5; (obtain ⟨A1, c1, hv, ho1⟩ := hown.own (by rw [hl1.out]; omega)); rw [hl1.out] at hv ho1; subst hv; rw [List.nil_append] at ho1) | (refine step_append_x (w0 := w5) info_int Tryz.underlying30 rfl (.tmp 12) (.tmp 14) rfl _ [] (by rfl) (OwL.empty w5 (Nat.le_refl _) (by simp)) slc B m d (by rfl) r.den (h.den.bl slc) (by simp) (by omega) ?_; intro v2 w6 hown hb6 hg6; (obtain ⟨B1, d1, hv, ho2⟩ := hown.own (by rw [hl2.out]; omega)); rw [hl2.out] at hv ho2; subst hv; rw [List.nil_append] at ho2) | (refine step_append_x (w0 := W) info_int Tryz.underlying30 rfl (.tmp 12) (.tmp 14) rfl _ [] (by rfl) (((OwL.empty1 (base := W.heap.size) W _ (Nat.le_succ _) (by simp)).drew).grown hg5 (by intro k hk; simp [Value.ownBlock] at hk ⊢; omega)) slc B m d (by rfl) r.den (h.den.bl slc) (by simp) (by omega) ?_; intro v2 w6 hown hb6 hg6; (obtain ⟨B1, d1, hv, ho2⟩ := hown.own (by rw [hl2.out]; omega)); rw [hl2.out] at hv ho2; subst hv; rw [List.nil_append] at ho2) | (refine step_append_x (w0 := W) info_int Tryz.underlying30 rfl (.tmp 12) (.tmp 14) rfl _ [] (by rfl) ((((OwL.empty (base := W.heap.size) W (Nat.le_refl _) (by simp)).alloc _).drew).grown hg5 (by intro k hk; simp [Value.ownBlock] at hk ⊢; omega)) slc B m d (by rfl) r.den (h.den.bl slc) (by simp) (by omega) ?_; intro v2 w6 hown hb6 hg6; (obtain ⟨B1, d1, hv, ho2⟩ := hown.own (by rw [hl2.out]; omega)); rw [hl2.out] at hv ho2; subst hv; rw [List.nil_append] at ho2))
  · have hz5 := hb5.size
    have hbW : Bl w w6 := (hbW.next hb5).next hb6
    have hr := (hr.bl hb5).bl hb6
    have hA := ho1.bl hb6
    have hB := ho2
    obtain ⟨v0, x0⟩ := hr.val_ (i := 0) (by omega)
    obtain ⟨v1, x1⟩ := hr.val_ (i := 1) (by omega)
    obtain ⟨v2, x2⟩ := hr.val_ (i := 2) (by omega)
    have hg := hr.lt
    obtain ⟨cs4, hB4, hc4⟩ := hr
    have hf0 := hB4.frozen 0
    have hf1 := hB4.frozen 1
    have hf2 := hB4.frozen 2
    go_wp2_with fail
    refine bodyPost_ret (v := .agg #[.bool s, .slice A1 n c1, .slice B1 m d1]) (by simp [results, Tryz.results130, go_sem, x0, x1, x2]) rfl ⟨_, _, _, _, _, _, _, rfl, OwQ.two hs.out ?_ ?_, slc⟩
    · exact (((hA.far (by simp; omega) _).far (by simp; omega) _).far (by simp; omega) _).mono (by omega)
    · exact (((hB.far (by simp; omega) _).far (by simp; omega) _).far (by simp; omega) _).mono (by omega)
  · have hbW := hbW.next hb6
    have hr := hr.bl hb6
    have hA := ho1.past (E := 3) (k := W.heap.size + 1) hg6 ((hg5.block _ (by simp) (by simp [Value.ownBlock])).trans (by have := heap_alloc_new (W.alloc (.cells #[] 3)) (.cells #[] 3); rwa [World.size_alloc] at this))
    have hB := ho2
    obtain ⟨v0, x0⟩ := hr.val_ (i := 0) (by omega)
    obtain ⟨v1, x1⟩ := hr.val_ (i := 1) (by omega)
    obtain ⟨v2, x2⟩ := hr.val_ (i := 2) (by omega)
    have hg := hr.lt
    obtain ⟨cs4, hB4, hc4⟩ := hr
    have hf0 := hB4.frozen 0
    have hf1 := hB4.frozen 1
    have hf2 := hB4.frozen 2
    go_wp2_with fail
    refine bodyPost_ret (v := .agg #[.bool s, .slice A1 n c1, .slice B1 m d1]) (by simp [results, Tryz.results130, go_sem, x0, x1, x2]) rfl ⟨_, _, _, _, _, _, _, rfl, OwQ.two hs.out ?_ ?_, slc⟩
    · exact (((hA.far (by simp; omega) _).far (by simp; omega) _).far (by simp; omega) _).mono (by omega)
    · exact (((hB.far (by simp; omega) _).far (by simp; omega) _).far (by simp; omega) _).mono (by omega)
  · have hbW := hbW.next hb6
    have hr := hr.bl hb6
    have hA := ho1.past (E := 3) (k := W.heap.size) hg6 ((hg5.block _ (by simp; omega) (by simp [Value.ownBlock])).trans (Blk.alloc (Blk.new W 3 #[]) _))
    have hB := ho2
    obtain ⟨v0, x0⟩ := hr.val_ (i := 0) (by omega)
    obtain ⟨v1, x1⟩ := hr.val_ (i := 1) (by omega)
    obtain ⟨v2, x2⟩ := hr.val_ (i := 2) (by omega)
    have hg := hr.lt
    obtain ⟨cs4, hB4, hc4⟩ := hr
    have hf0 := hB4.frozen 0
    have hf1 := hB4.frozen 1
    have hf2 := hB4.frozen 2
    go_wp2_with fail
    refine bodyPost_ret (v := .agg #[.bool s, .slice A1 n c1, .slice B1 m d1]) (by simp [results, Tryz.results130, go_sem, x0, x1, x2]) rfl ⟨_, _, _, _, _, _, _, rfl, OwQ.two hs.out ?_ ?_, slc⟩
    · exact (((hA.far (by simp; omega) _).far (by simp; omega) _).far (by simp; omega) _).mono (by omega)
    · exact (((hB.far (by simp; omega) _).far (by simp; omega) _).far (by simp; omega) _).mono (by omega)

end Go.Proofs.YtggjdgjkdmgjnaaGreat
