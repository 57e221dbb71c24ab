/- Lemmas. -/
import Derived.Test.YtajlahjghapbkaaGreatRows
import Derived.Test.YtajlahjghapbkaaGreatPTrianglesM16
import Derived.Test.YtajlahjghapbkaaGreatPTrianglesM26
import Derived.Test.YtajlahjghapbkaaGreatPTrianglesM22
import Derived.Test.YtajlahjghapbkaaGreatPTrianglesM19
import Derived.Test.YtajlahjghapbkaaGreatPTrianglesM01
namespace Go.Proofs.YtajlahjghapbkaaGreat
section
open Go.RowKit

theorem OwL.grown {E : TypeId} {base : Nat} {w w' : World} {v : Value} {l : List Int} {row : Option Nat} (h : OwL E base w v l) (hg : w.grownBy w' row) (hr : ∀ k, row = some k → v.ownBlock ≠ some k) : OwL E base w' v l := by
  refine ⟨h.1, ?_⟩
  rcases h.2 with h2 | ⟨g, cap, cur, hv, hgb, hh, r⟩
  · exact .inl h2
  · exact .inr ⟨g, cap, cur, hv, hgb, (hg.block g (heap_lt hh) (by intro e; exact hr g e.symm (by rw [hv]; rfl))).trans hh, r⟩
theorem OwI.past {T E : TypeId} {b0 k : Nat} {w w' : World} {A : Option Addr} {n c : Nat} {l : List Int} (h : OwI T b0 w A n c l) (hg : w.grownBy w' (some k)) (hk : w.heap[k]? = some (.cells #[] E)) : OwI T b0 w' A n c l := by
  obtain ⟨bs, h1, hf⟩ := FtI.of_own h
  have h2 : FtI T w' A n c l bs := h1.keep hg.size (fun b hb => hg.block b (hf.2 b hb).2 (by
    intro e
    injection e with e
    subst e
    rcases h1.2 with ⟨_, e2⟩ | ⟨g, cs, h0, _, hh, hn, e2⟩
    · rw [e2] at hb; cases hb
    · rw [e2] at hb
      simp at hb
      subst hb
      rw [hk] at hh
      injection hh with hh
      injection hh with hh
      subst hh
      simp at hn
      omega))
  refine ⟨h2.1, ?_⟩
  rcases h2.2 with ⟨h0, _⟩ | ⟨g, cs, _, e, hh, hn, e2⟩
  · exact .inl h0
  · exact .inr ⟨g, cs, e, (hf.2 g (by rw [e2]; simp)).1, hh, hn⟩
theorem OwL.empty1 {E : TypeId} {base : Nat} (W : World) (o : Obj) {cur : Array Value} (hb : base ≤ W.heap.size + 1) (hm : cur.size ≤ maxLen) : OwL E base ((W.alloc o).alloc (.cells cur E)) (.slice (some ⟨W.heap.size + 1, 0, none⟩) 0 cur.size) [] := by
  have h := OwL.empty (E := E) (base := base) (W.alloc o) (cur := cur) (by rw [World.size_alloc]; exact hb) hm
  rwa [World.size_alloc] at h
/-- A fraction in memory of its own (its two slices may share it). -/
def OwQ (T : TypeId) (b0 : Nat) (w : World) (s : Bool) (A : Option Addr) (n c : Nat) (B : Option Addr) (m d : Nat) (r : RatD) : Prop :=
  ∃ bs, FtR T w s A n c B m d r bs ∧ ∀ b ∈ bs, b0 ≤ b ∧ b < w.heap.size
section
variable {T : TypeId} {b0 b1 : Nat} {w W : World} {s : Bool} {A : Option Addr} {n c : Nat} {B : Option Addr} {m d : Nat} {r : RatD}
theorem OwQ.of (h : OwR T b0 w s A n c B m d r) : OwQ T b0 w s A n c B m d r := by
  obtain ⟨bs, h, hf⟩ := h
  exact ⟨bs, h, hf.2⟩
theorem OwQ.rd (h : OwQ T b0 w s A n c B m d r) : RdR w s A n c B m d r := by
  obtain ⟨bs, h, _⟩ := h
  exact h.rd
theorem OwQ.two (hs : s = r.neg) (h : OwI T b0 w A n c r.mag) (k : OwI T b0 w B m d r.den) : OwQ T b0 w s A n c B m d r := by
  obtain ⟨b1, h1, f1⟩ := FtI.of_own h
  obtain ⟨b2, h2, f2⟩ := FtI.of_own k
  refine ⟨b1 ++ b2, ⟨hs, b1, b2, h1, h2, rfl⟩, fun b hb => ?_⟩
  rcases List.mem_append.1 hb with hb | hb
  · exact f1.2 b hb
  · exact f2.2 b hb
theorem OwQ.bl (h : OwQ T b0 w s A n c B m d r) (hb : Bl w W) : OwQ T b0 W s A n c B m d r := by
  obtain ⟨bs, h, hf⟩ := h
  exact ⟨bs, h.bl hb, fun b hm => ⟨(hf b hm).1, Nat.lt_of_lt_of_le (hf b hm).2 hb.size⟩⟩
theorem OwQ.mono (h : OwQ T b1 w s A n c B m d r) (hb : b0 ≤ b1) : OwQ T b0 w s A n c B m d r := by
  obtain ⟨bs, h, hf⟩ := h
  exact ⟨bs, h, fun b hm => ⟨Nat.le_trans hb (hf b hm).1, (hf b hm).2⟩⟩
theorem OwQ.far (h : OwQ T b0 w s A n c B m d r) {q : Addr} (hp : q.block < b0) (u : Value) : OwQ T b0 (w.setCell q u) s A n c B m d r := by
  obtain ⟨bs, h, hf⟩ := h
  refine ⟨bs, h.keep (by simp) (fun b hb => Below.heap_setCell w q u b (by have := (hf b hb).1; omega)), fun b hm => ?_⟩
  have := hf b hm
  simpa using this
end

set_option maxRecDepth 100000 in
set_option maxHeartbeats 2000000 in
theorem l04Copy_any (w : World) {s : Bool} {A : Option Addr} {n c : Nat} {B : Option Addr} {m d : Nat} {r : RatD} (h : RdR w s A n c B m d r) (hn : n ≤ 1048576) (hm : m ≤ 1048576) :
    Calls Tryz.prog 260 #[.agg #[.bool s, .slice A n c, .slice B m d]] w fun e w' => ∃ s1 A1 n1 c1 B1 m1 d1, e = .returned (.agg #[.bool s1, .slice A1 n1 c1, .slice B1 m1 d1]) ∧ OwQ 3 w.heap.size w' s1 A1 n1 c1 B1 m1 d1 r ∧ Bl w w' := by
  have hs := Lib.hid h.neg
  have hl1 : Hid ((([] : List Int) ++ r.mag).length = n) := by have := RdI.len h.mag; unfold Hid; simpa using this
  have hl2 : Hid ((([] : List Int) ++ r.den).length = m) := by have := RdI.len h.den; unfold Hid; simpa using this
  go_enter Tryz.func260, Tryz.ntmps260
  go_wp2_with fail
  refine wp_gen (fun W => Bl w W ∧ Blk W (w.heap.size) 29 #[.bool s, .slice A n c, .slice B m d] ∧ Wk 3 29 (w.heap.size + 1) W) ⟨slc, bts, bts⟩ ?_
  rintro W ⟨hbW, hx, hr⟩
  have hzW := hr.lt
  go_region_held3 (fun w' => (w'.cell? ⟨w.heap.size, 0, none⟩ = some (.bool s) ∧ w'.cell? ⟨w.heap.size, 1, none⟩ = some (.slice A n c) ∧ w'.cell? ⟨w.heap.size, 2, none⟩ = some (.slice B m d)) ∧ (w'.cell? ⟨w.heap.size + 1, 0, none⟩ = some (cellD w' (w.heap.size + 1) 0) ∧ w'.cell? ⟨w.heap.size + 1, 1, none⟩ = some (cellD w' (w.heap.size + 1) 1) ∧ w'.cell? ⟨w.heap.size + 1, 2, none⟩ = some (cellD w' (w.heap.size + 1) 2)) ∧ w'.frozen? ⟨w.heap.size + 1, 0, none⟩ = false ∧ w'.frozen? ⟨w.heap.size + 1, 1, none⟩ = false ∧ w'.frozen? ⟨w.heap.size + 1, 2, none⟩ = false) (first | exact ⟨bx3 (T := 29) bts, Wk.out3 (T := 29) bts⟩) (first | (refine step_append_x (w0 := W) info_int Tryz.underlying25 rfl (.tmp 6) (.tmp 9) rfl _ [] (by rfl) (OwL.empty W.drew (Nat.le_refl _) (by simp)) slc A n c (by rfl) r.mag (h.mag.bl slc) (by simp) (by omega) ?_; intro v1 w5 hown hb5 hg5; (obtain ⟨A1, c1, hv, ho1⟩ := hown.own (by rw [hl1.out]; omega)); rw [hl1.out] at hv ho1; subst hv; rw [List.nil_append] at ho1) | (refine step_append_x (w0 := W) info_int Tryz.underlying25 rfl (.tmp 6) (.tmp 9) rfl _ [] (by rfl) ((OwL.empty W.drew (Nat.le_refl _) (by simp)).alloc _) slc A n c (by rfl) r.mag (h.mag.bl slc) (by simp) (by omega) ?_; intro v1 w5 hown hb5 hg5; (obtain ⟨A1, c1, hv, ho1⟩ := hown.own (by rw [hl1.out]; omega)); rw [hl1.out] at hv ho1; subst hv; rw [List.nil_append] at ho1) | (refine step_append_x (w0 := W) info_int Tryz.underlying25 rfl (.tmp 6) (.tmp 9) rfl _ [] (by rfl) (OwL.empty1 W.drew _ (Nat.le_succ _) (by simp)) slc A n c (by rfl) r.mag (h.mag.bl slc) (by simp) (by omega) ?_; intro v1 w5 hown hb5 hg5; (obtain ⟨A1, c1, hv, ho1⟩ := hown.own (by rw [hl1.out]; omega)); rw [hl1.out] at hv ho1; subst hv; rw [List.nil_append] at ho1) | (refine step_append_x (w0 := w5) info_int Tryz.underlying25 rfl (.tmp 12) (.tmp 14) rfl _ [] (by rfl) (OwL.empty w5 (Nat.le_refl _) (by simp)) slc B m d (by rfl) r.den (h.den.bl slc) (by simp) (by omega) ?_; intro v2 w6 hown hb6 hg6; (obtain ⟨B1, d1, hv, ho2⟩ := hown.own (by rw [hl2.out]; omega)); rw [hl2.out] at hv ho2; subst hv; rw [List.nil_append] at ho2) | (refine step_append_x (w0 := W) info_int Tryz.underlying25 rfl (.tmp 12) (.tmp 14) rfl _ [] (by rfl) (((OwL.empty1 (base := W.heap.size) W _ (Nat.le_succ _) (by simp)).drew).grown hg5 (by intro k hk; simp [Value.ownBlock] at hk ⊢; omega)) slc B m d (by rfl) r.den (h.den.bl slc) (by simp) (by omega) ?_; intro v2 w6 hown hb6 hg6; (obtain ⟨B1, d1, hv, ho2⟩ := hown.own (by rw [hl2.out]; omega)); rw [hl2.out] at hv ho2; subst hv; rw [List.nil_append] at ho2) | (refine step_append_x (w0 := W) info_int Tryz.underlying25 rfl (.tmp 12) (.tmp 14) rfl _ [] (by rfl) ((((OwL.empty (base := W.heap.size) W (Nat.le_refl _) (by simp)).alloc _).drew).grown hg5 (by intro k hk; simp [Value.ownBlock] at hk ⊢; omega)) slc B m d (by rfl) r.den (h.den.bl slc) (by simp) (by omega) ?_; intro v2 w6 hown hb6 hg6; (obtain ⟨B1, d1, hv, ho2⟩ := hown.own (by rw [hl2.out]; omega)); rw [hl2.out] at hv ho2; subst hv; rw [List.nil_append] at ho2))
  · have hz5 := hb5.size
    have hbW : Bl w w6 := (hbW.next hb5).next hb6
    have hr := (hr.bl hb5).bl hb6
    have hA := ho1.bl hb6
    have hB := ho2
    obtain ⟨v0, x0⟩ := hr.val_ (i := 0) (by omega)
    obtain ⟨v1, x1⟩ := hr.val_ (i := 1) (by omega)
    obtain ⟨v2, x2⟩ := hr.val_ (i := 2) (by omega)
    have hg := hr.lt
    obtain ⟨cs4, hB4, hc4⟩ := hr
    have hf0 := hB4.frozen 0
    have hf1 := hB4.frozen 1
    have hf2 := hB4.frozen 2
    go_wp2_with fail
    refine bodyPost_ret (v := .agg #[.bool s, .slice A1 n c1, .slice B1 m d1]) (by simp [results, Tryz.results260, go_sem, x0, x1, x2]) rfl ⟨_, _, _, _, _, _, _, rfl, OwQ.two hs.out ?_ ?_, slc⟩
    · exact (((hA.far (by simp; omega) _).far (by simp; omega) _).far (by simp; omega) _).mono (by omega)
    · exact (((hB.far (by simp; omega) _).far (by simp; omega) _).far (by simp; omega) _).mono (by omega)
  · have hbW := hbW.next hb6
    have hr := hr.bl hb6
    have hA := ho1.past (E := 3) (k := W.heap.size + 1) hg6 ((hg5.block _ (by simp) (by simp [Value.ownBlock])).trans (by have := heap_alloc_new (W.alloc (.cells #[] 3)) (.cells #[] 3); rwa [World.size_alloc] at this))
    have hB := ho2
    obtain ⟨v0, x0⟩ := hr.val_ (i := 0) (by omega)
    obtain ⟨v1, x1⟩ := hr.val_ (i := 1) (by omega)
    obtain ⟨v2, x2⟩ := hr.val_ (i := 2) (by omega)
    have hg := hr.lt
    obtain ⟨cs4, hB4, hc4⟩ := hr
    have hf0 := hB4.frozen 0
    have hf1 := hB4.frozen 1
    have hf2 := hB4.frozen 2
    go_wp2_with fail
    refine bodyPost_ret (v := .agg #[.bool s, .slice A1 n c1, .slice B1 m d1]) (by simp [results, Tryz.results260, go_sem, x0, x1, x2]) rfl ⟨_, _, _, _, _, _, _, rfl, OwQ.two hs.out ?_ ?_, slc⟩
    · exact (((hA.far (by simp; omega) _).far (by simp; omega) _).far (by simp; omega) _).mono (by omega)
    · exact (((hB.far (by simp; omega) _).far (by simp; omega) _).far (by simp; omega) _).mono (by omega)
  · have hbW := hbW.next hb6
    have hr := hr.bl hb6
    have hA := ho1.past (E := 3) (k := W.heap.size) hg6 ((hg5.block _ (by simp; omega) (by simp [Value.ownBlock])).trans (Blk.alloc (Blk.new W 3 #[]) _))
    have hB := ho2
    obtain ⟨v0, x0⟩ := hr.val_ (i := 0) (by omega)
    obtain ⟨v1, x1⟩ := hr.val_ (i := 1) (by omega)
    obtain ⟨v2, x2⟩ := hr.val_ (i := 2) (by omega)
    have hg := hr.lt
    obtain ⟨cs4, hB4, hc4⟩ := hr
    have hf0 := hB4.frozen 0
    have hf1 := hB4.frozen 1
    have hf2 := hB4.frozen 2
    go_wp2_with fail
    refine bodyPost_ret (v := .agg #[.bool s, .slice A1 n c1, .slice B1 m d1]) (by simp [results, Tryz.results260, go_sem, x0, x1, x2]) rfl ⟨_, _, _, _, _, _, _, rfl, OwQ.two hs.out ?_ ?_, slc⟩
    · exact (((hA.far (by simp; omega) _).far (by simp; omega) _).far (by simp; omega) _).mono (by omega)
    · exact (((hB.far (by simp; omega) _).far (by simp; omega) _).far (by simp; omega) _).mono (by omega)
end

section
open Go.RowKit

set_option maxRecDepth 100000 in
set_option maxHeartbeats 1000000 in
theorem l03Cmp_any (w : World) {s : Bool} {A : Option Addr} {n c : Nat} {x : Int} {t : Bool} {B : Option Addr} {m d : Nat} {y : Int} (h : IsB w s A n c x) (k : IsB w t B m d y) (hn : n ≤ 2097152) (hm : m ≤ 2097152) :
    Calls Tryz.prog 273 #[.agg #[.bool s, .slice A n c], .agg #[.bool t, .slice B m d]] w fun e w' => e = .returned (.int .i64 (cmpZ x y)) ∧ Bl w w' := by
  have hs := h.1
  have ht := k.1
  cases s <;> cases t
  · have hx : 0 ≤ x := by have := hs.symm; simp at this; omega
    have hy : 0 ≤ y := by have := ht.symm; simp at this; omega
    have hv := Lib.hid (show cmpZ x y = cmpI (x.natAbs : Int) (y.natAbs : Int) by unfold cmpZ cmpI; split <;> (try split) <;> (try split) <;> (try split) <;> omega)
    clear hs ht hx hy
    go_enter Tryz.func273, Tryz.ntmps273
    go_wp2_with fail
    refine (l02Cmp_any _ (RdI.bl h.mg slc) (RdI.bl k.mg slc) hn hm).mono ?_
    rintro e w1 ⟨rfl, q1, rfl⟩
    go_wp2_with fail
    go_ret
    exact ⟨ret_int hv.out.symm, slc⟩
  · have hx : 0 ≤ x := by have := hs.symm; simp at this; omega
    have hy : y < 0 := by have := ht.symm; simpa using this
    have hv := Lib.hid (show cmpZ x y = 1 by unfold cmpZ; split <;> (try split) <;> (try split) <;> (try split) <;> omega)
    clear hs ht hx hy
    go_enter Tryz.func273, Tryz.ntmps273
    go_wp2_with fail
    go_ret
    exact ⟨ret_int hv.out.symm, slc⟩
  · have hx : x < 0 := by have := hs.symm; simpa using this
    have hy : 0 ≤ y := by have := ht.symm; simp at this; omega
    have hv := Lib.hid (show cmpZ x y = -1 by unfold cmpZ; split <;> (try split) <;> (try split) <;> (try split) <;> omega)
    clear hs ht hx hy
    go_enter Tryz.func273, Tryz.ntmps273
    go_wp2_with fail
    go_ret
    exact ⟨ret_int hv.out.symm, slc⟩
  · have hx : x < 0 := by have := hs.symm; simpa using this
    have hy : y < 0 := by have := ht.symm; simpa using this
    have hv := Lib.hid (show cmpZ x y = cmpI (y.natAbs : Int) (x.natAbs : Int) by unfold cmpZ cmpI; split <;> (try split) <;> (try split) <;> (try split) <;> omega)
    clear hs ht hx hy
    go_enter Tryz.func273, Tryz.ntmps273
    go_wp2_with fail
    refine (l02Cmp_any _ (RdI.bl k.mg slc) (RdI.bl h.mg slc) hm hn).mono ?_
    rintro e w1 ⟨rfl, q1, rfl⟩
    go_wp2_with fail
    go_ret
    exact ⟨ret_int hv.out.symm, slc⟩

set_option maxRecDepth 100000 in
set_option maxHeartbeats 2000000 in
theorem l04Cmp_any (w : World) {s : Bool} {A : Option Addr} {n c : Nat} {B : Option Addr} {m d : Nat} {x : Int} {D : Nat} {s' : Bool} {A' : Option Addr} {n' c' : Nat} {B' : Option Addr} {m' d' : Nat} {x' : Int} {D' : Nat} (h : IsR w s A n c B m d x D) (k : IsR w s' A' n' c' B' m' d' x' D') (hn : n ≤ 24) (hm : m ≤ 24) (hn' : n' ≤ 24) (hm' : m' ≤ 24) (hD : 0 < D) (hD' : 0 < D') :
    Calls Tryz.prog 271 #[.agg #[.bool s, .slice A n c, .slice B m d], .agg #[.bool s', .slice A' n' c', .slice B' m' d']] w fun e w' => e = .returned (.int .i64 (cmpZ (x * (D' : Int)) (x' * (D : Int)))) ∧ Bl w w' := by
  have hm1 : (dig (x.natAbs * D')).length ≤ 59 := Nat.le_trans (dig_mul_len (Nat.le_of_eq h.num.lenN) (Nat.le_of_eq k.dn.lenN)) (by omega)
  have hm2 : (dig (x'.natAbs * D)).length ≤ 59 := Nat.le_trans (dig_mul_len (Nat.le_of_eq k.num.lenN) (Nat.le_of_eq h.dn.lenN)) (by omega)
  go_enter Tryz.func271, Tryz.ntmps271
  go_wp2_with fail
  refine wp_gen (fun W => Bl w W ∧ Blk W (w.heap.size) 29 #[.bool s, .slice A n c, .slice B m d] ∧ Blk W (w.heap.size + 1) 29 #[.bool s', .slice A' n' c', .slice B' m' d']) ⟨slc, bts, bts⟩ ?_
  rintro W ⟨hbW, hx, hx'⟩
  go_region_held3 (fun w' => (w'.cell? ⟨w.heap.size, 0, none⟩ = some (.bool s) ∧ w'.cell? ⟨w.heap.size, 1, none⟩ = some (.slice A n c) ∧ w'.cell? ⟨w.heap.size, 2, none⟩ = some (.slice B m d)) ∧ (w'.cell? ⟨w.heap.size + 1, 0, none⟩ = some (.bool s') ∧ w'.cell? ⟨w.heap.size + 1, 1, none⟩ = some (.slice A' n' c') ∧ w'.cell? ⟨w.heap.size + 1, 2, none⟩ = some (.slice B' m' d'))) (first | exact ⟨bx3 (T := 29) bts, bx3 (T := 29) bts⟩) (first | (go_at_call 232; with_reducible refine (l02Mul_any _ (h.num.bl slc) (k.dn.bl slc) (by omega) (by omega)).mono ?_; rintro e w4 ⟨A4, n4, c4, rfl, hO4, hb4⟩; (have hl4 : n4 ≤ 59 := by rw [← hO4.rd.lenN]; exact hm1); (have hN4 : IsN w4 A4 n4 c4 (x.natAbs * D') := hO4.rd)) | (go_at_call 231; (with_reducible refine (l03Make_any _ _ hN4 (by omega)).mono ?_); rintro e w5 ⟨s5, A5, n5, c5, rfl, hs5, hO5, hb5⟩; (have hB5 : IsB w5 s5 A5 n5 c5 (x * (D' : Int)) := ⟨by rw [hs5.out]; exact mk_sign h.sgn hD', by rw [Int.natAbs_mul, Int.natAbs_natCast]; exact hO5.rd⟩)) | (go_at_call 232; with_reducible refine (l02Mul_any _ (k.num.bl slc) (h.dn.bl slc) (by omega) (by omega)).mono ?_; rintro e w6 ⟨A6, n6, c6, rfl, hO6, hb6⟩; (have hl6 : n6 ≤ 59 := by rw [← hO6.rd.lenN]; exact hm2); (have hN6 : IsN w6 A6 n6 c6 (x'.natAbs * D) := hO6.rd)) | (go_at_call 231; (with_reducible refine (l03Make_any _ _ hN6 (by omega)).mono ?_); rintro e w7 ⟨s7, A7, n7, c7, rfl, hs7, hO7, hb7⟩; (have hB7 : IsB w7 s7 A7 n7 c7 (x' * (D : Int)) := ⟨by rw [hs7.out]; exact mk_sign k.sgn hD, by rw [Int.natAbs_mul, Int.natAbs_natCast]; exact hO7.rd⟩); (have hl5 : n5 ≤ 2097152 := by rw [← hO5.rd.lenN]; exact Nat.le_trans hm1 (by omega)); (have hl7 : n7 ≤ 2097152 := by rw [← hO7.rd.lenN]; exact Nat.le_trans hm2 (by omega))) | (go_at_call 273; refine (l03Cmp_any _ (hB5.bl slc) hB7 hl5 hl7).mono ?_; rintro e w8 ⟨rfl, hb8⟩))
  go_wp2_with fail
  go_ret
  exact ⟨rfl, slc⟩

theorem lowS_div {x x' : Int} {D D' : Nat} {s s' : Bool} (hs : s = decide (x < 0)) (hs' : s' = decide (x' < 0)) (hD : 0 < D) (hD' : 0 < D') (hx : x' ≠ 0) :
    lowS (s != s') (x.natAbs * D') (D * x'.natAbs) = ofFrac (x * D' * (if x' < 0 then -1 else 1)) (D * x'.natAbs) := by
  have h0 := Nat.mul_pos hD (show 0 < x'.natAbs by omega)
  unfold lowS
  rw [if_neg (by omega)]
  congr 1
  have e : x'.natAbs * (D' : Nat) = x'.natAbs * D' := rfl
  have hy : sx (s != s') (x.natAbs * ((D' : Int) * (if x' < 0 then -1 else 1)).natAbs) = x * ((D' : Int) * (if x' < 0 then -1 else 1)) := by
    refine sx_mul hs ?_
    rw [hs', decide_eq_decide]
    split <;> omega
  have e2 : ((D' : Int) * (if x' < 0 then -1 else 1)).natAbs = D' := by split <;> omega
  rw [e2] at hy
  rw [hy, Int.mul_assoc]
end

section
open Go.RowKit

noncomputable def innP (p q : PtD) : RatD := addR (mulR p.x q.x) (mulR p.y q.y)
set_option maxRecDepth 100000 in
set_option maxHeartbeats 2000000 in
theorem Inner_any (w : World) {s : Bool} {A : Option Addr} {n c : Nat} {B : Option Addr} {m d : Nat} {t : Bool} {C : Option Addr} {i e : Nat} {D : Option Addr} {j f : Nat} {p : PtD} {s' : Bool} {A' : Option Addr} {n' c' : Nat} {B' : Option Addr} {m' d' : Nat} {t' : Bool} {C' : Option Addr} {i' e' : Nat} {D' : Option Addr} {j' f' : Nat} {p' : PtD} (h : RdR w s A n c B m d p.x) (k : RdR w t C i e D j f p.y) (h' : RdR w s' A' n' c' B' m' d' p'.x) (k' : RdR w t' C' i' e' D' j' f' p'.y) :
    Calls Tryz.prog 174 #[.agg #[.bool s, .slice A n c, .slice B m d, .bool t, .slice C i e, .slice D j f], .agg #[.bool s', .slice A' n' c', .slice B' m' d', .bool t', .slice C' i' e', .slice D' j' f']] w fun en w' => ∃ s1 A1 n1 c1 B1 m1 d1, en = .returned (.agg #[.bool s1, .slice A1 n1 c1, .slice B1 m1 d1]) ∧ OwR 3 w.heap.size w' s1 A1 n1 c1 B1 m1 d1 (innP p p') ∧ Bl w w' := by
  go_enter Tryz.func174, Tryz.ntmps174
  go_wp2_with fail
  refine wp_gen (fun W => Bl w W ∧ Blk W (w.heap.size) 31 #[.bool s, .slice A n c, .slice B m d, .bool t, .slice C i e, .slice D j f] ∧ Blk W (w.heap.size + 1) 31 #[.bool s', .slice A' n' c', .slice B' m' d', .bool t', .slice C' i' e', .slice D' j' f'] ∧ Wk 3 29 (w.heap.size + 1 + 1) W) ⟨slc, bts, bts, bts⟩ ?_
  rintro W ⟨hbW, hx, hx', hr⟩
  go_region_held3 (fun w' => (w'.cell? ⟨w.heap.size, 0, none⟩ = some (.bool s) ∧ w'.cell? ⟨w.heap.size, 1, none⟩ = some (.slice A n c) ∧ w'.cell? ⟨w.heap.size, 2, none⟩ = some (.slice B m d) ∧ w'.cell? ⟨w.heap.size, 3, none⟩ = some (.bool t) ∧ w'.cell? ⟨w.heap.size, 4, none⟩ = some (.slice C i e) ∧ w'.cell? ⟨w.heap.size, 5, none⟩ = some (.slice D j f)) ∧ (w'.cell? ⟨w.heap.size + 1, 0, none⟩ = some (.bool s') ∧ w'.cell? ⟨w.heap.size + 1, 1, none⟩ = some (.slice A' n' c') ∧ w'.cell? ⟨w.heap.size + 1, 2, none⟩ = some (.slice B' m' d') ∧ w'.cell? ⟨w.heap.size + 1, 3, none⟩ = some (.bool t') ∧ w'.cell? ⟨w.heap.size + 1, 4, none⟩ = some (.slice C' i' e') ∧ w'.cell? ⟨w.heap.size + 1, 5, none⟩ = some (.slice D' j' f')) ∧ (w'.cell? ⟨w.heap.size + 1 + 1, 0, none⟩ = some (cellD w' (w.heap.size + 1 + 1) 0) ∧ w'.cell? ⟨w.heap.size + 1 + 1, 1, none⟩ = some (cellD w' (w.heap.size + 1 + 1) 1) ∧ w'.cell? ⟨w.heap.size + 1 + 1, 2, none⟩ = some (cellD w' (w.heap.size + 1 + 1) 2)) ∧ w'.frozen? ⟨w.heap.size + 1 + 1, 0, none⟩ = false ∧ w'.frozen? ⟨w.heap.size + 1 + 1, 1, none⟩ = false ∧ w'.frozen? ⟨w.heap.size + 1 + 1, 2, none⟩ = false) (first | exact ⟨bx6 (T := 31) bts, bx6 (T := 31) bts, Wk.out3 (T := 29) bts⟩) (first | (go_at_call 49; with_reducible refine (RatMul_any _ (h.bl slc) (h'.bl slc)).mono ?_; rintro en w2 ⟨s2, A2, n2, c2, B2, m2, d2, rfl, hR2, hb2⟩) | (go_at_call 49; with_reducible refine (RatMul_any _ (k.bl slc) (k'.bl slc)).mono ?_; rintro en w3 ⟨s3, A3, n3, c3, B3, m3, d3, rfl, hR3, hb3⟩) | (go_at_call 22; refine (RatAdd_any _ (hR2.rd.bl hb3) hR3.rd).mono ?_; rintro en w4 ⟨s1, A1, n1, c1, B1, m1, d1, rfl, hR, hb4⟩))
  have hz : w.heap.size + 1 + 1 + 1 ≤ W.heap.size := hr.lt
  have hz2 : W.heap.size ≤ w2.heap.size := (Bl.size hb2 : W.drew.heap.size ≤ _)
  have hz3 : w2.heap.size ≤ w3.heap.size := Bl.size hb3
  have hr := (show Wk 3 29 (w.heap.size + 1 + 1) w4 from bts)
  have hbW : Bl w w4 := slc
  have hR := hR.mono (show w.heap.size + 1 + 1 + 1 ≤ w3.heap.size by omega)
  obtain ⟨v0, x0⟩ := hr.val_ (i := 0) (by omega)
  obtain ⟨v1, x1⟩ := hr.val_ (i := 1) (by omega)
  obtain ⟨v2, x2⟩ := hr.val_ (i := 2) (by omega)
  have hg := hr.lt
  obtain ⟨cs4, hB4, hc4⟩ := hr
  have hf0 := hB4.frozen 0
  have hf1 := hB4.frozen 1
  have hf2 := hB4.frozen 2
  go_wp2_with fail
  exact bodyPost_ret (v := .agg #[.bool s1, .slice A1 n1 c1, .slice B1 m1 d1]) (by simp [results, Tryz.results174, go_sem, x0, x1, x2]) rfl ⟨_, _, _, _, _, _, _, rfl, (((hR.far (by simp) _).far (by simp) _).far (by simp) _).mono (by omega), slc⟩
set_option maxRecDepth 100000 in
set_option maxHeartbeats 2000000 in
theorem sInner_any (w : World) {s : Bool} {A : Option Addr} {n c : Nat} {B : Option Addr} {m d : Nat} {t : Bool} {C : Option Addr} {i e : Nat} {D : Option Addr} {j f : Nat} {p : PtD} {s' : Bool} {A' : Option Addr} {n' c' : Nat} {B' : Option Addr} {m' d' : Nat} {t' : Bool} {C' : Option Addr} {i' e' : Nat} {D' : Option Addr} {j' f' : Nat} {p' : PtD} (h : RdR w s A n c B m d p.x) (k : RdR w t C i e D j f p.y) (h' : RdR w s' A' n' c' B' m' d' p'.x) (k' : RdR w t' C' i' e' D' j' f' p'.y) :
    Calls Tryz.prog 265 #[.agg #[.bool s, .slice A n c, .slice B m d, .bool t, .slice C i e, .slice D j f], .agg #[.bool s', .slice A' n' c', .slice B' m' d', .bool t', .slice C' i' e', .slice D' j' f']] w fun en w' => ∃ s1 A1 n1 c1 B1 m1 d1, en = .returned (.agg #[.bool s1, .slice A1 n1 c1, .slice B1 m1 d1]) ∧ OwR 3 w.heap.size w' s1 A1 n1 c1 B1 m1 d1 (innP p p') ∧ Bl w w' := by
  go_enter Tryz.func265, Tryz.ntmps265
  go_wp2_with fail
  refine wp_gen (fun W => Bl w W ∧ Blk W (w.heap.size) 31 #[.bool s, .slice A n c, .slice B m d, .bool t, .slice C i e, .slice D j f] ∧ Blk W (w.heap.size + 1) 31 #[.bool s', .slice A' n' c', .slice B' m' d', .bool t', .slice C' i' e', .slice D' j' f'] ∧ Wk 3 29 (w.heap.size + 1 + 1) W) ⟨slc, bts, bts, bts⟩ ?_
  rintro W ⟨hbW, hx, hx', hr⟩
  go_region_held3 (fun w' => (w'.cell? ⟨w.heap.size, 0, none⟩ = some (.bool s) ∧ w'.cell? ⟨w.heap.size, 1, none⟩ = some (.slice A n c) ∧ w'.cell? ⟨w.heap.size, 2, none⟩ = some (.slice B m d) ∧ w'.cell? ⟨w.heap.size, 3, none⟩ = some (.bool t) ∧ w'.cell? ⟨w.heap.size, 4, none⟩ = some (.slice C i e) ∧ w'.cell? ⟨w.heap.size, 5, none⟩ = some (.slice D j f)) ∧ (w'.cell? ⟨w.heap.size + 1, 0, none⟩ = some (.bool s') ∧ w'.cell? ⟨w.heap.size + 1, 1, none⟩ = some (.slice A' n' c') ∧ w'.cell? ⟨w.heap.size + 1, 2, none⟩ = some (.slice B' m' d') ∧ w'.cell? ⟨w.heap.size + 1, 3, none⟩ = some (.bool t') ∧ w'.cell? ⟨w.heap.size + 1, 4, none⟩ = some (.slice C' i' e') ∧ w'.cell? ⟨w.heap.size + 1, 5, none⟩ = some (.slice D' j' f')) ∧ (w'.cell? ⟨w.heap.size + 1 + 1, 0, none⟩ = some (cellD w' (w.heap.size + 1 + 1) 0) ∧ w'.cell? ⟨w.heap.size + 1 + 1, 1, none⟩ = some (cellD w' (w.heap.size + 1 + 1) 1) ∧ w'.cell? ⟨w.heap.size + 1 + 1, 2, none⟩ = some (cellD w' (w.heap.size + 1 + 1) 2)) ∧ w'.frozen? ⟨w.heap.size + 1 + 1, 0, none⟩ = false ∧ w'.frozen? ⟨w.heap.size + 1 + 1, 1, none⟩ = false ∧ w'.frozen? ⟨w.heap.size + 1 + 1, 2, none⟩ = false) (first | exact ⟨bx6 (T := 31) bts, bx6 (T := 31) bts, Wk.out3 (T := 29) bts⟩) (first | (go_at_call 249; with_reducible refine (sRatMul_any _ (h.bl slc) (h'.bl slc)).mono ?_; rintro en w2 ⟨s2, A2, n2, c2, B2, m2, d2, rfl, hR2, hb2⟩) | (go_at_call 249; with_reducible refine (sRatMul_any _ (k.bl slc) (k'.bl slc)).mono ?_; rintro en w3 ⟨s3, A3, n3, c3, B3, m3, d3, rfl, hR3, hb3⟩) | (go_at_call 144; refine (sRatAdd_any _ (hR2.rd.bl hb3) hR3.rd).mono ?_; rintro en w4 ⟨s1, A1, n1, c1, B1, m1, d1, rfl, hR, hb4⟩))
  have hz : w.heap.size + 1 + 1 + 1 ≤ W.heap.size := hr.lt
  have hz2 : W.heap.size ≤ w2.heap.size := (Bl.size hb2 : W.drew.heap.size ≤ _)
  have hz3 : w2.heap.size ≤ w3.heap.size := Bl.size hb3
  have hr := (show Wk 3 29 (w.heap.size + 1 + 1) w4 from bts)
  have hbW : Bl w w4 := slc
  have hR := hR.mono (show w.heap.size + 1 + 1 + 1 ≤ w3.heap.size by omega)
  obtain ⟨v0, x0⟩ := hr.val_ (i := 0) (by omega)
  obtain ⟨v1, x1⟩ := hr.val_ (i := 1) (by omega)
  obtain ⟨v2, x2⟩ := hr.val_ (i := 2) (by omega)
  have hg := hr.lt
  obtain ⟨cs4, hB4, hc4⟩ := hr
  have hf0 := hB4.frozen 0
  have hf1 := hB4.frozen 1
  have hf2 := hB4.frozen 2
  go_wp2_with fail
  exact bodyPost_ret (v := .agg #[.bool s1, .slice A1 n1 c1, .slice B1 m1 d1]) (by simp [results, Tryz.results265, go_sem, x0, x1, x2]) rfl ⟨_, _, _, _, _, _, _, rfl, (((hR.far (by simp) _).far (by simp) _).far (by simp) _).mono (by omega), slc⟩
end

section
open Go.RowKit

/- A region that draws its order and ends in a store that waits for all the rest: S need not hold behind that store. (The form of the proof is the library's own wpAnyH_first.) -/
section
variable {P : Program} {ops : Array Oper} {Q : Exit → Act → World → Prop} {md : Region.Mode} {S : World → Prop} {last : Nat}
def wpAnyT (P : Program) (md : Region.Mode) (ops : Array Oper) (Q : Exit → Act → World → Prop) (S : World → Prop) (last : Nat) : Nat → Array Bool → Act → World → Prop
  | 0, listed, a, w => Region.ready md ops listed = [] ∧ Q .normal a w
  | fuel + 1, listed, a, w =>
    (Region.ready md ops listed = [] → Q .normal a w) ∧
    ∀ i ∈ Region.ready md ops listed, wpOp P ops Q i (fun a' w' => (i ≠ last → S w') ∧ wpAnyT P md ops Q S last fuel (listed.setIfInBounds i true) a' w') a w
theorem wpAny_of_T : ∀ (fuel : Nat) (listed : Array Bool) (a : Act) (w : World), wpAnyT P md ops Q S last fuel listed a w → wpAny P md ops Q fuel listed a w
  | 0, _, _, _, h => h
  | fuel + 1, _, _, _, h => ⟨h.1, fun i hi => wpOp_mono (fun a' w' h' => wpAny_of_T fuel _ a' w' h'.2) (h.2 i hi)⟩
def waits (md : Region.Mode) (ops : Array Oper) (last i : Nat) : Bool :=
  match ops[last]? with
  | some ol => ol.after.any (fun e => Region.binds md e && e.on == i)
  | none => false
theorem waits_spec {i : Nat} (h : waits md ops last i = true) : ∀ oj, ops[last]? = some oj → ¬ ∀ e ∈ oj.after, Region.binds md e = true → e.on ≠ i := by
  intro oj hj hno
  unfold waits at h
  rw [hj] at h
  obtain ⟨k, hk, hx⟩ := Array.any_eq_true.1 h
  have h1 := Bool.and_eq_true_iff.1 hx
  exact hno _ (Array.getElem_mem hk) h1.1 (by simpa using h1.2)
theorem wpAnyT_first {i : Nat} {oi : Oper} {v : Value} (hi : ops[i]? = some oi) (hsel : ∀ (j : Nat) (o : Oper) cs b, ops[j]? = some o → o.op ≠ .select cs b)
    (hQ : ∀ c a w, Q (.panic c) (a.put oi.dst v) w → Q (.panic c) a w) (hw : waits md ops last i = true) :
    ∀ (fuel : Nat) (listed : Array Bool) (a : Act) (w : World),
      (∀ j oj, ops[j]? = some oj → j ≠ i → listed.getD j true = false → (∀ e ∈ oj.after, Region.binds md e = true → e.on ≠ i) → oi.apart ops oj = true) →
      i ∈ Region.ready md ops listed → YieldsIf P ops S oi v a → S w →
      wpAnyT P md ops Q S last fuel (listed.setIfInBounds i true) (a.put oi.dst v) w → wpAnyT P md ops Q S last (fuel + 1) listed a w := by
  intro fuel
  induction fuel with
  | zero =>
    intro listed a w _ hr hy hS H
    refine ⟨fun h => (by rw [h] at hr; cases hr), fun j hj => ?_⟩
    by_cases hji : j = i
    · subst hji; exact hy.wpOp hi hS ⟨fun _ => hS, H⟩
    · have := ready_mono hj hji
      rw [H.1] at this
      cases this
  | succ fuel ih =>
    intro listed a w hfree hr hy hS H
    refine ⟨fun h => (by rw [h] at hr; cases hr), fun j hj => ?_⟩
    by_cases hji : j = i
    · subst hji; exact hy.wpOp hi hS ⟨fun _ => hS, H⟩
    · have h1 := H.2 j (ready_mono hj hji)
      obtain ⟨hjun, oj, hoj, hall⟩ := mem_ready.1 hj
      have hnot : ∀ e ∈ oj.after, Region.binds md e = true → e.on ≠ i := fun e he hb heq => by
        have h1 := hall e he hb
        have h0 := (mem_ready.1 hr).1
        rw [heq] at h1
        rcases Nat.lt_or_ge i listed.size with h' | h'
        · simp [h'] at h0 h1; rw [h0] at h1; cases h1
        · simp [Array.getElem?_eq_none h'] at h1
      have hjl : j ≠ last := fun e => by subst e; exact waits_spec hw oj hoj hnot
      have h2 := wpOp_putIf hoj (hfree j oj hoj hji hjun hnot) (fun cs b => hsel i oi cs b hi) (fun cs b => hsel j oj cs b hoj) hQ hy h1
      have hfree' : ∀ k ok, ops[k]? = some ok → k ≠ i → (listed.setIfInBounds j true).getD k true = false →
          (∀ e ∈ ok.after, Region.binds md e = true → e.on ≠ i) → oi.apart ops ok = true := fun k ok hk hki hun hno => by
        refine hfree k ok hk hki ?_ hno
        by_cases hjk : j = k
        · subst hjk; exact hjun
        · rw [getD_set_ne true hjk] at hun; exact hun
      refine wpOp_mono (fun a' w' h3 => ⟨fun _ => h3.2.1 hjl, ih (listed.setIfInBounds j true) a' w' hfree' (ready_mono hr (Ne.symm hji)) h3.1 (h3.2.1 hjl) ?_⟩) h2
      rw [Array.setIfInBounds_comm _ _ hji]
      exact h3.2.2
theorem wpAnyT_take {i : Nat} {oi : Oper} {v : Value} {fuel : Nat} {listed : Array Bool} {a : Act} {w : World} (hi : ops[i]? = some oi)
    (hs : Region.noSelect ops = true) (hf : Region.free md ops listed i = true) (hr : (Region.ready md ops listed).contains i = true) (hl : waits md ops last i = true)
    (hQ : ∀ c a w, Q (.panic c) (a.put oi.dst v) w → Q (.panic c) a w) (hw : Region.wanted oi (yielded ops a.tmps) = true) (hy : ∀ w, S w → (execOp a.eval oi).run P w = .ok (.value v) w) (hS : S w)
    (h : wpAnyT P md ops Q S last fuel (listed.setIfInBounds i true) (a.put oi.dst v) w) : wpAnyT P md ops Q S last (fuel + 1) listed a w :=
  wpAnyT_first hi (Region.noSelect_spec hs) hQ hl fuel listed a w (Region.free_spec hi hf) (by simpa using hr) (.inl ⟨hw, hy⟩) hS h
theorem wpAnyT_step {i : Nat} {o : Oper} {fuel : Nat} {listed : Array Bool} {a : Act} {w : World} (ho : ops[i]? = some o) (hr : Region.ready md ops listed = [i])
    (h : ∀ K' : Act → World → Prop, Shut (∀ a w, (i ≠ last → S w) → wpAnyT P md ops Q S last fuel (listed.setIfInBounds i true) a w → K' a w) → if Region.wanted o (yielded ops a.tmps) = true then Oper.wp P o a w K' Q else K' (a.put o.dst undef) w) : wpAnyT P md ops Q S last (fuel + 1) listed a w := by
  refine ⟨fun h0 => (by rw [hr] at h0; cases h0), fun j hj => ?_⟩
  rw [hr] at hj
  obtain rfl : j = i := by simpa using hj
  exact wpOp_step ho (fun K' hK => h K' (fun a w hS hW => hK a w ⟨hS, hW⟩))
theorem wpAnyT_done {listed : Array Bool} {a : Act} {w : World} (hr : Region.ready md ops listed = []) (h : Q .normal a w) : wpAnyT P md ops Q S last 0 listed a w := ⟨hr, h⟩
theorem wp_region_T {id : Nat} {a : Act} {w : World} (last n : Nat) (S : World → Prop) (hn : ops.size = n) (hm : P.follows .mixedOrders = true) (_hS : S w.drew)
    (h : wpAnyT P .any ops Q S last n (Array.replicate n false) a w.drew) : (Code.region id ops true).wp P Q a w := by
  subst hn
  exact wp_region_any hm (wpAny_of_T _ _ _ _ h)
end
end

end Go.Proofs.YtajlahjghapbkaaGreat
