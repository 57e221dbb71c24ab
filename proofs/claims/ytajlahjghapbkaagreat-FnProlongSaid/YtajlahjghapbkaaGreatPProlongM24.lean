/- Lemmas. -/
import Derived.Test.YtajlahjghapbkaaGreatRows
import Derived.Test.YtajlahjghapbkaaGreatPProlongM14
import Derived.Deep.Cut
import Derived.Deep.DeepCutAuto
import Derived.Test.YtajlahjghapbkaaGreatPProlongM15
import Derived.Test.YtajlahjghapbkaaGreatPProlongM22
import Derived.Test.YtajlahjghapbkaaGreatPProlongM23
import Derived.Test.YtajlahjghapbkaaGreatPProlongM02
import Derived.Lib.Mul64
import Derived.Laws.Bits64b
import Derived.Test.YtajlahjghapbkaaGreatPProlongM21
import Derived.Laws.CopyOwn
import Derived.ProofKit
import Derived.Deep.Slices
namespace Go.Proofs.YtajlahjghapbkaaGreat
section
open Go.RowKit

set_option maxRecDepth 100000 in
theorem refF_any (w : World) {g12 : Nat} {s1 : Bool} {A1 : Option Addr} {n1 c1 : Nat} {B1 : Option Addr} {m1 d1 : Nat} {t1 : Bool} {C1 : Option Addr} {i1 e1 : Nat} {D1 : Option Addr} {j1 f1 : Nat} {s2 : Bool} {A2 : Option Addr} {n2 c2 : Nat} {B2 : Option Addr} {m2 d2 : Nat} {t2 : Bool} {C2 : Option Addr} {i2 e2 : Nat} {D2 : Option Addr} {j2 f2 : Nat} {p q : PtD} (h12 : Blk w g12 31 #[.bool s2, .slice A2 n2 c2, .slice B2 m2 d2, .bool t2, .slice C2 i2 e2, .slice D2 j2 f2]) (hqx : RdR w s2 A2 n2 c2 B2 m2 d2 q.x) (hqy : RdR w t2 C2 i2 e2 D2 j2 f2 q.y) (hx : RdR w s1 A1 n1 c1 B1 m1 d1 p.x) (hy : RdR w t1 C1 i1 e1 D1 j1 f1 p.y) :
    Calls Tryz.prog 183 #[.agg #[.bool s1, .slice A1 n1 c1, .slice B1 m1 d1, .bool t1, .slice C1 i1 e1, .slice D1 j1 f1], .pointer (some ⟨g12, 0, none⟩)] w fun en w' => en = .returned (.bool (eqP p q)) ∧ Bl w w' := by
  go_enter Tryz.func183, Tryz.ntmps183
  go_upto_region 1 with (fail)
  refine wp_gen (fun W => Bl w W ∧ ∃ g, Blk W g 31 #[.bool s1, .slice A1 n1 c1, .slice B1 m1 d1, .bool t1, .slice C1 i1 e1, .slice D1 j1 f1] ∧ g = w.heap.size) ⟨by exact slc, _, by exact bts, rfl⟩ ?_
  rintro W ⟨hbW, g, h1, hg⟩
  rw [← hg]
  clear hg
  obtain ⟨x0, x1, x2, x3, x4, x5⟩ := bx6 h1
  obtain ⟨y0, y1, y2, y3, y4, y5⟩ := bx6 (h12.bl hbW)
  go_wp2_with fail
  refine (SamePoint_any _ (hx.bl slc) (hy.bl slc) (hqx.bl slc) (hqy.bl slc)).mono ?_
  rintro e w1 ⟨rfl, hb1⟩
  go_wp2_with fail
  go_ret
  exact ⟨rfl, slc⟩
/-- None of the points is q. -/
def NoP (q : PtD) (l : List PtD) (k : Nat) : Prop := ∀ j, j < k → pix l j ≠ q
theorem NoP.step {q : PtD} {l : List PtD} {k : Nat} (h : NoP q l k) (h0 : pix l k ≠ q) : NoP q l (k + 1) := by
  intro j hj
  rcases Nat.lt_succ_iff_lt_or_eq.1 hj with hj | rfl
  · exact h j hj
  · exact h0
set_option maxRecDepth 100000 in
set_option maxHeartbeats 4000000 in
theorem IndexRf_any (w : World) {A0 : Option Addr} {n0 c0 : Nat} {l : List PtD} (h : RdPS w A0 n0 c0 l) {g12 : Nat} {s2 : Bool} {A2 : Option Addr} {n2 c2 : Nat} {B2 : Option Addr} {m2 d2 : Nat} {t2 : Bool} {C2 : Option Addr} {i2 e2 : Nat} {D2 : Option Addr} {j2 f2 : Nat} {q : PtD} (h12 : Blk w g12 31 #[.bool s2, .slice A2 n2 c2, .slice B2 m2 d2, .bool t2, .slice C2 i2 e2, .slice D2 j2 f2]) (hqx : RdR w s2 A2 n2 c2 B2 m2 d2 q.x) (hqy : RdR w t2 C2 i2 e2 D2 j2 f2 q.y) :
    Calls Tryz.prog 150 #[.slice A0 n0 c0, .func (.func 183) #[] #[.pointer (some ⟨g12, 0, none⟩)]] w (IdxPostB (NoP q l l.length) w) := by
  have hn := h.small
  have hl := Lib.hid h.len
  go_enter Tryz.func150, Tryz.ntmps150
  go_wp2_with fail
  go_loopw [8] (fun i wr => ∃ k : Nat, k ≤ n0 ∧ i = .int .i64 (k : Int) ∧ NoP q l k ∧ Bl w wr) (fun i _ => n0 - (intOf i).toNat)
  case atStart => exact ⟨0, Nat.zero_le _, rfl, fun j hj => by omega, Bl.refl _⟩
  case round =>
    obtain ⟨k, hk, rfl, hin, hbw⟩ := hrel
    by_cases hkn : k < n0
    · have hki : (k : Int) < (n0 : Int) := by omega
      obtain ⟨ad, rfl, hlta, hca⟩ := (RdPS.bl h hbw).cells k hkn
      obtain ⟨s1, A1, n1, c1, B1, m1, d1, t1, C1, i1, e1, D1, j1, f1, ⟨z0, z1, z2, z3, z4, z5⟩, hx, hy⟩ := hca
      by_cases ho : pix l k = q
      · have hno : ¬ NoP q l l.length := fun ha => ha k (by rw [hl.out]; exact hkn) ho
        have hno2 := Lib.hid hno
        have he := Lib.hid (eqP_iff.2 ho)
        clear hno ho hin
        go_wp2_with fail
        refine (refF_any _ (h12.bl hbw) (hqx.bl hbw) (hqy.bl hbw) hx hy).mono ?_
        rw [he.out]
        rintro e w1 ⟨rfl, hb1⟩
        have hb2 : Bl w w1 := hbw.next hb1
        clear hb1
        go_wp2_with fail
        go_ret
        exact ⟨_, rfl, fun ha => absurd ha hno2.out, fun _ => by omega, hb2⟩
      · have hin' := Lib.hid (hin.step ho)
        have he := Lib.hid (eqP_no ho)
        clear hin ho
        go_wp2_with fail
        refine (refF_any _ (h12.bl hbw) (hqx.bl hbw) (hqy.bl hbw) hx hy).mono ?_
        rw [he.out]
        rintro e w1 ⟨rfl, hb1⟩
        have hb2 : Bl w w1 := hbw.next hb1
        clear hb1
        go_wp2_with fail
        go_roundw
        case rel => exact ⟨k + 1, by omega, by go_num, hin'.out, hb2⟩
        case measure => simp [intOf]; omega
    · have hall : NoP q l l.length := fun j hj => hin j (by rw [hl.out] at hj; omega)
      have hall2 := Lib.hid hall
      clear hall
      go_wp2_with fail
      go_ret
      exact ⟨_, rfl, fun _ => rfl, fun hno => absurd hall2.out hno, hbw⟩
theorem ContainsRf_any (w : World) {A0 : Option Addr} {n0 c0 : Nat} {l : List PtD} (h : RdPS w A0 n0 c0 l) {g12 : Nat} {s2 : Bool} {A2 : Option Addr} {n2 c2 : Nat} {B2 : Option Addr} {m2 d2 : Nat} {t2 : Bool} {C2 : Option Addr} {i2 e2 : Nat} {D2 : Option Addr} {j2 f2 : Nat} {q : PtD} (h12 : Blk w g12 31 #[.bool s2, .slice A2 n2 c2, .slice B2 m2 d2, .bool t2, .slice C2 i2 e2, .slice D2 j2 f2]) (hqx : RdR w s2 A2 n2 c2 B2 m2 d2 q.x) (hqy : RdR w t2 C2 i2 e2 D2 j2 f2 q.y) {b : Bool} (hb : l.contains q = b) :
    Calls Tryz.prog 79 #[.slice A0 n0 c0, .func (.func 183) #[] #[.pointer (some ⟨g12, 0, none⟩)]] w fun e w' => e = .returned (.bool b) ∧ Bl w w' := by
  have hP : NoP q l l.length ↔ b = false := by
    rw [← hb, ← Bool.not_eq_true, List.contains_iff_mem]
    constructor
    · intro h1 hm
      obtain ⟨i, hi, e⟩ := List.getElem_of_mem hm
      exact h1 i hi (by unfold pix; rw [List.getD_eq_getElem?_getD, List.getElem?_eq_getElem hi]; exact e)
    · intro h1 j hj e
      refine h1 ?_
      rw [← e]
      unfold pix
      rw [List.getD_eq_getElem?_getD, List.getElem?_eq_getElem hj]
      exact List.getElem_mem hj
  cases b with
  | true =>
    have hP2 := Lib.hid (show ¬ NoP q l l.length by rw [hP]; simp)
    clear hP hb
    go_enter Tryz.func79, Tryz.ntmps79
    go_wp2_with fail
    refine (IndexRf_any _ h h12 hqx hqy).mono ?_
    rintro e w1 ⟨i, rfl, _, h1, hb⟩
    have h1 := h1 hP2.out
    go_wp2_with fail
    go_ret
    exact ⟨rfl, hb⟩
  | false =>
    have hP2 := Lib.hid (hP.2 rfl)
    clear hP hb
    go_enter Tryz.func79, Tryz.ntmps79
    go_wp2_with fail
    refine (IndexRf_any _ h h12 hqx hqy).mono ?_
    rintro e w1 ⟨i, rfl, h1, _, hb⟩
    have h1 := h1 hP2.out
    subst h1
    go_wp2_with fail
    go_ret
    exact ⟨rfl, hb⟩
end

section
open Go.RowKit

theorem tri_diff {x y : TriD} (h : ¬ x = y) : (x.a == y.a) = false ∨ ((x.a == y.a) = true ∧ (x.b == y.b) = false) ∨ ((x.a == y.a) = true ∧ (x.b == y.b) = true ∧ (x.c == y.c) = false) ∨
    ((x.a == y.a) = true ∧ (x.b == y.b) = true ∧ (x.c == y.c) = true ∧ (x.region == y.region) = false) ∨ ((x.a == y.a) = true ∧ (x.b == y.b) = true ∧ (x.c == y.c) = true ∧ (x.region == y.region) = true ∧ (x.level == y.level) = false) := by
  cases x; cases y
  simp only [TriD.mk.injEq, not_and] at h
  simp only [beq_iff_eq, beq_eq_false_iff_ne]
  grind

set_option maxHeartbeats 4000000 in
theorem EqualTri_any (w : World) {A B : Option Addr} {n m c d : Nat} {l l' : List TriD} (ha : RdTS w A n c l) (hb : RdTS w B m d l') :
    Calls Tryz.prog 110 #[.slice A n c, .slice B m d] w fun e w' => e = .returned (.bool (Same l l')) ∧ Bl w w' := by
  have hna := ha.small
  have hnb := hb.small
  by_cases hnm : n = m
  · subst hnm
    have hl := Lib.hid ha.len
    have hl' := Lib.hid hb.len
    go_enter Tryz.func110, Tryz.ntmps110
    go_wp2
    go_loopw [13] (fun i wr => ∃ k : Nat, k ≤ n ∧ i = .int .i64 (k : Int) ∧ Agree l l' k ∧ Bl w wr) (fun i _ => n - (intOf i).toNat)
    case atStart => exact ⟨0, Nat.zero_le _, rfl, Agree.zero _ _, Bl.refl _⟩
    case round =>
      obtain ⟨k, hk, rfl, hag, hbw⟩ := hrel
      by_cases hkn : k < n
      · obtain ⟨ad, rfl, hlta, hca⟩ := (ha.bl hbw).cells k hkn
        obtain ⟨bd, rfl, hltb, hcb⟩ := (hb.bl hbw).cells k hkn
        obtain ⟨g0, g1, g2, g3, g4⟩ := hca
        obtain ⟨p0, p1, p2, p3, p4⟩ := hcb
        have hki : (k : Int) < (n : Int) := by omega
        by_cases heq : pix l k = pix l' k
        · rw [← heq] at p0 p1 p2 p3 p4
          have heq' := Lib.hid heq
          clear heq
          go_wp2_with fail
          go_quiet (fail)
          go_wp2
          go_roundw
          case rel => exact ⟨k + 1, by omega, by go_num, hag.step heq'.out, slc⟩
          case measure => simp [intOf]; omega
        · have hs := Lib.hid (same_no (a := l) (b := l') (fun e => heq (by rw [e])))
          rcases tri_diff heq with f1 | ⟨f1, f2⟩ | ⟨f1, f2, f3⟩ | ⟨f1, f2, f3, f4⟩ | ⟨f1, f2, f3, f4, f5⟩
          all_goals
            clear heq
            go_wp2_with fail
            go_quiet (fail)
            go_wp2
            go_ret
            exact ⟨ret_bool hs.out.symm, slc⟩
      · have hs := Lib.hid (same_yes ((by obtain rfl : k = n := by omega
                                          exact hag.all hl.out hl'.out) : l = l'))
        go_wp2_with fail
        go_ret
        exact ⟨ret_bool hs.out.symm, hbw⟩
  · have hs := Lib.hid (same_no (a := l) (b := l') (fun e => hnm (by rw [← ha.len, ← hb.len, e])))
    have hne : ((n : Int) != (m : Int)) = true := by simp; omega
    go_enter Tryz.func110, Tryz.ntmps110
    go_wp2
    go_ret
    exact ⟨ret_bool hs.out.symm, Bl.refl _⟩

/-- The two meshes agree in all fields. -/
def sameM (a b : MeD) : Bool := Same a.points b.points && Same a.tris b.tris
theorem sameM_tris {a b : MeD} (h : Same a.points b.points = true) : sameM a b = Same a.tris b.tris := by unfold sameM; rw [h]; rfl
theorem sameM_points {a b : MeD} (h : Same a.points b.points = false) : sameM a b = false := by unfold sameM; rw [h]; rfl

set_option maxHeartbeats 4000000 in
theorem SameMesh_any (w : World) {A B A' B' : Option Addr} {n m c d n' m' c' d' : Nat} {x y : MeD} (h : RdPS w A n c x.points) (k : RdTS w B m d x.tris) (h' : RdPS w A' n' c' y.points) (k' : RdTS w B' m' d' y.tris) :
    Calls Tryz.prog 40 #[.agg #[.slice A n c, .slice B m d], .agg #[.slice A' n' c', .slice B' m' d']] w fun e w' => e = .returned (.bool (sameM x y)) ∧ Bl w w' := by
  by_cases e0 : Same x.points y.points = true
  · have hs := Lib.hid (sameM_tris e0)
    go_enter Tryz.func40, Tryz.ntmps40
    go_wp2_with fail
    refine (EqualFunc_any _ (h.bl slc) (h'.bl slc)).mono ?_
    rintro e w1 ⟨rfl, hb⟩
    obtain ⟨hc, hf⟩ := bcell hb
    have hb1 : Bl w w1 := slc
    go_wp2_with fail
    refine (EqualTri_any _ (k.bl hb1) (k'.bl hb1)).mono ?_
    rintro e w2 ⟨rfl, hb2⟩
    go_wp2_with fail
    go_ret
    exact ⟨ret_bool hs.out.symm, slc⟩
  · have e0 : Same x.points y.points = false := by simpa using e0
    have hs := Lib.hid (sameM_points e0)
    go_enter Tryz.func40, Tryz.ntmps40
    go_wp2_with fail
    refine (EqualFunc_any _ (h.bl slc) (h'.bl slc)).mono ?_
    rintro e w1 ⟨rfl, hb⟩
    have hb1 : Bl w w1 := slc
    go_wp2_with fail
    go_ret
    exact ⟨ret_bool hs.out.symm, slc⟩
end

section
open Go.RowKit
end

section
open Go.RowKit

theorem OwR.setT {T TP : TypeId} {b0 g k : Nat} {w : World} {s : Bool} {A : Option Addr} {n c : Nat} {B : Option Addr} {m d : Nat} {r : RatD} (h : OwR T b0 w s A n c B m d r) (hk : Wk k TP g w) (hne : T ≠ TP) (i0 : Nat) (u : Value) : OwR T b0 (w.setCell ⟨g, i0, none⟩ u) s A n c B m d r := by
  obtain ⟨bs, h1, hf⟩ := h
  exact ⟨bs, h1.keep (by simp) (fun b hb => Below.heap_setCell w _ u b (h1.neT hk hne b hb)), hf.mono (Nat.le_refl _) (by simp)⟩
theorem OwR.put3 {T TP : TypeId} {b0 g k : Nat} {w : World} {s : Bool} {A : Option Addr} {n c : Nat} {B : Option Addr} {m d : Nat} {r : RatD} (h : OwR T b0 w s A n c B m d r) (hk : Wk k TP g w) (hne : T ≠ TP) (u0 u1 u2 : Value) :
    OwR T b0 (((w.setCell ⟨g, 0, none⟩ u0).setCell ⟨g, 1, none⟩ u1).setCell ⟨g, 2, none⟩ u2) s A n c B m d r :=
  ((h.setT hk hne 0 u0).setT (hk.set 0 u0) hne 1 u1).setT ((hk.set 0 u0).set 1 u1) hne 2 u2
theorem ne_ir : (3 : TypeId) ≠ 29 := by decide
end

section
open Go.RowKit
end

section
open Go.RowKit

namespace MulW
theorem maskN (a : Nat) (ha : a < 18446744073709551616) : bits .and .u64 (a : Int) 4294967295 = ((a % 4294967296 : Nat) : Int) := by
  have h := bits_and_u64_nat a 4294967295 ha (by omega)
  have e : a &&& 4294967295 = a % 4294967296 := Nat.and_two_pow_sub_one_eq_mod a 32
  rw [e] at h
  exact h
theorem divN (a : Nat) : (a : Int) / 4294967296 = ((a / 4294967296 : Nat) : Int) := by omega
theorem mulN (a b : Nat) : (a : Int) * (b : Int) = ((a * b : Nat) : Int) := (Int.natCast_mul a b).symm
theorem addN (a b : Nat) : (a : Int) + (b : Int) = ((a + b : Nat) : Int) := (Int.natCast_add a b).symm
theorem wrapN (a : Nat) (ha : a < 18446744073709551616) : IntKind.u64.wrap (a : Int) = (a : Int) := by rw [IntKind.wrap_u64]; omega
theorem wrapM (a : Nat) : IntKind.u64.wrap (a : Int) = ((a % 18446744073709551616 : Nat) : Int) := by rw [IntKind.wrap_u64]; omega
end MulW
def MulPost (x y : Nat) (w : World) (e : Ending) (w' : World) : Prop := e = .returned (.tuple #[.int .u64 ((x * y / 18446744073709551616 : Nat) : Int), .int .u64 ((x * y % 18446744073709551616 : Nat) : Int)]) ∧ Bl w w'
set_option maxHeartbeats 16000000 in
theorem Mul64_any (x y : Nat) (hx : x < 18446744073709551616) (hy : y < 18446744073709551616) (w : World) :
    Calls Tryz.prog 222 #[.int .u64 (x : Int), .int .u64 (y : Int)] w (MulPost x y w) := by
  obtain ⟨bd, bt, bw, hhi⟩ := Lib.mul64_hi x y hx hy
  have ba := Lib.half_mul_le (a := x / 4294967296) (b := y / 4294967296) (by omega) (by omega)
  have bb := Lib.half_mul_le (a := x / 4294967296) (b := y % 4294967296) (by omega) (by omega)
  have bc := Lib.half_mul_le (a := x % 4294967296) (b := y / 4294967296) (by omega) (by omega)
  have ba' : x / 4294967296 * (y / 4294967296) < 18446744073709551616 := by omega
  have bb' : x / 4294967296 * (y % 4294967296) < 18446744073709551616 := by omega
  have bc' : x % 4294967296 * (y / 4294967296) < 18446744073709551616 := by omega
  have bh1 : x / 4294967296 * (y / 4294967296) + (x / 4294967296 * (y % 4294967296) + x % 4294967296 * (y % 4294967296) / 4294967296) / 4294967296 < 18446744073709551616 := by omega
  have bh : x / 4294967296 * (y / 4294967296) + (x / 4294967296 * (y % 4294967296) + x % 4294967296 * (y % 4294967296) / 4294967296) / 4294967296 + ((x / 4294967296 * (y % 4294967296) + x % 4294967296 * (y % 4294967296) / 4294967296) % 4294967296 + x % 4294967296 * (y / 4294967296)) / 4294967296 < 18446744073709551616 := by omega
  go_enter Tryz.func222, Tryz.ntmps222
  go_wp2
  simp only [MulW.maskN x hx, MulW.maskN y hy, MulW.divN, MulW.mulN, MulW.addN, MulW.wrapN _ bd, MulW.wrapN _ bb', MulW.wrapN _ bt, MulW.maskN _ bt, MulW.wrapN _ bc', MulW.wrapN _ bw, MulW.wrapN _ ba', MulW.wrapN _ bh1, MulW.wrapN _ bh, MulW.wrapM (x * y)]
  rw [hhi]
  go_ret2
  exact ⟨rfl, slc⟩
theorem Mul_any (x y : Nat) (hx : x < 18446744073709551616) (hy : y < 18446744073709551616) (w : World) :
    Calls Tryz.prog 184 #[.int .u64 (x : Int), .int .u64 (y : Int)] w (MulPost x y w) := by
  go_enter Tryz.func184, Tryz.ntmps184
  go_wp2_with fail
  refine (Mul64_any x y hx hy _).mono ?_
  rintro e w1 ⟨rfl, hb1⟩
  go_wp2_with fail
  go_ret2
  exact ⟨rfl, slc⟩
end

section
open Go.RowKit

theorem Mul_one (N : Nat) (hN : N ≤ 1000) (w : World) : Calls Tryz.prog 184 #[.int .u64 1, .int .u64 (N : Int)] w fun e w' => e = .returned (.tuple #[.int .u64 0, .int .u64 (N : Int)]) ∧ Bl w w' := by
  have h := Mul_any 1 N (by omega) (by omega) w
  unfold MulPost at h
  rw [Nat.one_mul, Nat.div_eq_of_lt (by omega : N < 18446744073709551616), Nat.mod_eq_of_lt (by omega : N < 18446744073709551616)] at h
  exact h
/-- The first k elements of a block are one and the same fraction. -/
def RepC (cs : Array Value) (k : Nat) (v0 v1 v2 : Value) : Prop := ∀ i, i < k → cs[i * 3]? = some v0 ∧ cs[i * 3 + 1]? = some v1 ∧ cs[i * 3 + 2]? = some v2
theorem RepC.first {cs : Array Value} {v0 v1 v2 : Value} : RepC (cs.toList.take 0 ++ [v0, v1, v2] ++ cs.toList.drop (0 + [v0, v1, v2].length)).toArray 1 v0 v1 v2 := by
  intro i hi
  obtain rfl : i = 0 := by omega
  simp
theorem RepC.step {cs : Array Value} {k q N : Nat} {v0 v1 v2 : Value} (h : RepC cs k v0 v1 v2) (hs : cs.size = N * 3) (hq : q ≤ k) (hk : k + q ≤ N) : RepC (cs.toList.take (k * 3) ++ cs.toList.take (q * 3) ++ cs.toList.drop (k * 3 + (cs.toList.take (q * 3)).length)).toArray (k + q) v0 v1 v2 := by
  have hl1 : (cs.toList.take (k * 3)).length = k * 3 := by rw [List.length_take, Array.length_toList]; omega
  have hl2 : (cs.toList.take (q * 3)).length = q * 3 := by rw [List.length_take, Array.length_toList]; omega
  have key : ∀ i r, i < k + q → r < 3 → ((cs.toList.take (k * 3) ++ cs.toList.take (q * 3) ++ cs.toList.drop (k * 3 + (cs.toList.take (q * 3)).length)).toArray)[i * 3 + r]? = cs[(if i < k then i else i - k) * 3 + r]? := by
    intro i r hi hr
    rw [List.getElem?_toArray, List.getElem?_append_left (by rw [List.length_append, hl1, hl2]; omega)]
    by_cases hik : i < k
    · rw [List.getElem?_append_left (by rw [hl1]; omega), List.getElem?_take_of_lt (by omega), if_pos hik, Array.getElem?_toList]
    · rw [List.getElem?_append_right (by rw [hl1]; omega), hl1, List.getElem?_take_of_lt (by omega), if_neg hik, Array.getElem?_toList]
      congr 1
      omega
  intro i hi
  have hj : (if i < k then i else i - k) < k := by split <;> omega
  obtain ⟨a, b, c⟩ := h _ hj
  have h0 := key i 0 hi (by omega)
  rw [Nat.add_zero, Nat.add_zero] at h0
  exact ⟨h0.trans a, (key i 1 hi (by omega)).trans b, (key i 2 hi (by omega)).trans c⟩
theorem RepC.one {cs : Array Value} {k q : Nat} {v0 v1 v2 : Value} (h : RepC cs k v0 v1 v2) (hq : q ≤ k) (h0 : v0.oneCell' = true) (h1 : v1.oneCell' = true) (h2 : v2.oneCell' = true) : ∀ u ∈ cs.toList.take (q * 3), u.oneCell' = true := by
  intro u hu
  obtain ⟨j, hj, rfl⟩ := List.getElem_of_mem hu
  have hj3 : j < q * 3 := by rw [List.length_take] at hj; omega
  have hjs : j < cs.size := by rw [List.length_take, Array.length_toList] at hj; omega
  obtain ⟨a, b, c⟩ := h (j / 3) (by omega)
  have e : cs[j]? = some (cs.toList.take (q * 3))[j] := by rw [List.getElem_take, Array.getElem_toList, Array.getElem?_eq_getElem hjs]
  rcases (show j = j / 3 * 3 ∨ j = j / 3 * 3 + 1 ∨ j = j / 3 * 3 + 2 by omega) with h3 | h3 | h3
  · rw [← h3, e] at a; injection a with a; rw [a]; exact h0
  · rw [← h3, e] at b; injection b with b; rw [b]; exact h1
  · rw [← h3, e] at c; injection c with c; rw [c]; exact h2
theorem hsz3 : (Tryz.prog.info? 29).map (·.size) = some 3 := by kernel_rfl
set_option maxRecDepth 100000 in
set_option maxHeartbeats 32000000 in
theorem Repeat_any (w : World) {gx cx : Nat} {s : Bool} {A : Option Addr} {n c : Nat} {B : Option Addr} {m d : Nat} (hx : Blk w gx 29 #[.bool s, .slice A n c, .slice B m d]) (N : Nat) (hN1 : 1 ≤ N) (hN : N ≤ 1000) :
    Calls Tryz.prog 137 #[.slice (some ⟨gx, 0, none⟩) 1 cx, .int .i64 (N : Int)] w fun e w' => ∃ g cs, e = .returned (.slice (some ⟨g, 0, none⟩) N N) ∧ Blk w' g 29 cs ∧ cs.size = N * 3 ∧ RepC cs N (.bool s) (.slice A n c) (.slice B m d) ∧ w.heap.size ≤ g ∧ Bl w w' := by
  have hwu : IntKind.u64.wrap (N : Int) = (N : Int) := by rw [IntKind.wrap_u64]; omega
  have hwi : IntKind.i64.wrap (N : Int) = (N : Int) := by rw [IntKind.wrap_i64]; omega
  have hn0 : ¬ (N : Int) < 0 := by omega
  have hnb : ¬ (N : Int) > 9223372036854775807 := by omega
  have hmk := make_objs (P := Tryz.prog) Tryz.underlying33 info_rat (by omega) N N (Nat.le_refl _) (by omega)
  go_enter Tryz.func137, Tryz.ntmps137
  go_wp2_with fail
  refine (Mul_one N hN _).mono ?_
  rintro e w1 ⟨rfl, hb1⟩
  go_upto_region 7 with (fail)
  refine wp_gen (fun W => Bl w W ∧ ∃ g cs, Blk W g 29 cs ∧ cs.size = N * 3 ∧ g = w1.heap.size) ⟨by exact slc, _, _, Blk.mk w1 _ _ _ N, size_madeCells _ _, rfl⟩ ?_
  rintro W ⟨hbW, g, cs, hg, hcs, hgw⟩
  rw [← hgw]
  have hgx := hx.bl hbW
  have hgl : w.heap.size ≤ g := by rw [hgw]; exact hb1.size
  clear hmk hgw hb1 hwu hn0 hnb
  obtain ⟨cur1, hc1⟩ : ∃ cur1, (cs.toList.take 0 ++ [Value.bool s, Value.slice A n c, Value.slice B m d] ++ cs.toList.drop (0 + [Value.bool s, Value.slice A n c, Value.slice B m d].length)).toArray = cur1 := ⟨_, rfl⟩
  have hcp1 : ∀ ty, (Builtin.copy_ #[33, 33] ty #[.slice (some ⟨g, 0, none⟩) N N, .slice (some ⟨gx, 0, none⟩) 1 cx]).run Tryz.prog W = .ok (goInt ((1 : Nat) : Int)) (W.setRow g cur1) := fun ty => by
    rw [← hc1]
    exact run_copy_rowK W _ _ ty 29 g 0 N N ⟨gx, 0, none⟩ 1 cx cs 29 [.bool s, .slice A n c, .slice B m d] 3 1 Tryz.underlying33 hsz3 hg (by simp only [Nat.min_def]; split <;> omega) rfl
      (fun j u hj => by rw [Addr.add_lit, Nat.zero_add, hgx.cell j, ← hj, ← Array.getElem?_toList]) (by rw [hcs]; show 0 + 3 ≤ N * 3; omega) (fun u hu => by simp at hu; rcases hu with rfl | rfl | rfl <;> rfl)
  have hR1 : RepC cur1 1 (.bool s) (.slice A n c) (.slice B m d) := by rw [← hc1]; exact RepC.first
  have hs1 : cur1.size = N * 3 := by rw [← hc1]; simp [hcs]; omega
  clear hc1
  have hB1 : Blk (W.setRow g cur1) g 29 cur1 := setRow_get hg
  have hbW1 : Bl w (W.setRow g cur1) := below_setRow hbW hgl cur1
  have hgH := Lib.hid hgl
  go_wp2_with (refine wpList_copy_runE _ rfl _ _ 33 33 rfl _ _ rfl rfl (hcp1 _) ?_)
  clear hcp1 hgx hbW hg hcs
  generalize W.setRow g cur1 = W1 at hB1 hbW1 ⊢
  go_loopw [8] (fun x wr => ∃ (k : Nat) (cs : Array Value), 1 ≤ k ∧ k ≤ N ∧ x = .int .i64 (k : Int) ∧ Blk wr g 29 cs ∧ cs.size = N * 3 ∧ RepC cs k (.bool s) (.slice A n c) (.slice B m d) ∧ Bl w wr) (fun x _ => N - (intOf x).toNat)
  case atStart => exact ⟨1, cur1, by omega, by omega, rfl, hB1, hs1, hR1, hbW1⟩
  case round =>
    clear hB1 hs1 hR1 hbW1
    obtain ⟨k, cs, hk1, hk, rfl, hB, hs, hR, hbw⟩ := hrel
    obtain ⟨wi, rfl⟩ : ∃ wi : World, wi = wr := ⟨_, rfl⟩
    by_cases hkN : k < N
    · have hki : (k : Int) < (N : Int) := by omega
      obtain ⟨q, hq⟩ : ∃ q, Nat.min k (N - k) = q := ⟨_, rfl⟩
      have hq1 : q ≤ k := by rw [← hq]; exact Nat.min_le_left _ _
      have hq2 : k + q ≤ N := by have h : q ≤ N - k := by rw [← hq]; exact Nat.min_le_right _ _
                                 omega
      have hq0 : 0 < q := by rw [← hq]; exact Nat.lt_min.2 ⟨by omega, by omega⟩
      have hlen : (cs.toList.take (q * 3)).length = q * 3 := by rw [List.length_take, Array.length_toList]; omega
      obtain ⟨cur2, hc2⟩ : ∃ cur2, (cs.toList.take (k * 3) ++ cs.toList.take (q * 3) ++ cs.toList.drop (k * 3 + (cs.toList.take (q * 3)).length)).toArray = cur2 := ⟨_, rfl⟩
      have hcp2 : ∀ ty dc sc, (Builtin.copy_ #[33, 33] ty #[.slice (some ⟨g, k * 3, none⟩) (N - k) dc, .slice (some ⟨g, 0, none⟩) k sc]).run Tryz.prog wi.drew = .ok (.int .i64 (q : Int)) (wi.drew.setRow g cur2) := fun ty dc sc => by
        rw [← hc2]
        exact run_copy_rowK wi.drew _ _ ty 29 g (k * 3) (N - k) dc ⟨g, 0, none⟩ k sc cs 29 (cs.toList.take (q * 3)) 3 q Tryz.underlying33 hsz3 hB hq.symm hlen
          (fun j u hj => by
            rw [Addr.add_lit, Nat.zero_add]
            refine (show World.cell? wi.drew ⟨g, j, none⟩ = cs[j]? from Blk.cell (T := 29) hB j).trans ?_
            have hj3 : j < q * 3 := by
              rcases Nat.lt_or_ge j (q * 3) with h | h
              · exact h
              · rw [List.getElem?_eq_none (by rw [hlen]; exact h)] at hj; cases hj
            rw [List.getElem?_take_of_lt hj3, Array.getElem?_toList] at hj
            exact hj) (by rw [hlen, hs]; omega) (RepC.one hR hq1 rfl rfl rfl)
      have hR2 : RepC cur2 (k + q) (.bool s) (.slice A n c) (.slice B m d) := by rw [← hc2]; exact RepC.step hR hs hq1 hq2
      have hs2 : cur2.size = N * 3 := by rw [← hc2]; simp [hs]; omega
      have hB2 : Blk (wi.drew.setRow g cur2) g 29 cur2 := setRow_get (w := wi.drew) hB
      have hbw2 : Bl w (wi.drew.setRow g cur2) := below_setRow (w := wi.drew) (show Bl w wi.drew from slc) hgH.out cur2
      clear hc2 hR hs hlen hq
      have hb2 : ¬ (N = k) := by omega
      have hb5 : (k : Int) ≤ (N : Int) := by omega
      have hkn2 : k ≤ N := by omega
      have hk0 : (0 : Int) ≤ (k : Int) := by omega
      have hk9 : ¬ (k = 0) := by omega
      have hw : IntKind.i64.wrap ((k : Int) + (q : Int)) = ((k + q : Nat) : Int) := by rw [IntKind.wrap_i64]; omega
      have mixed : Tryz.prog.follows Departure.mixedOrders = true := by kernel_rfl
      go_upto_region 9 with (fail)
      go_region_law_o (refine step_copy_runE rfl _ _ 33 33 rfl _ _ (by simp [Act.eval, Act.put]) (by simp [Act.eval, Act.put]) (hcp2 _ _ _) ?_)
      generalize wi.drew.setRow g cur2 = wz at hB2 hbw2 ⊢
      simp only [List.getElem_toArray, List.getElem_cons_succ, List.getElem_cons_zero, Act.put, List.setIfInBounds_toArray, List.set_cons_zero, List.set_cons_succ]
      rw [← Int.natCast_add]
      go_roundw
      case rel => exact ⟨_, _, _, _, _, _, _, _, _, _, _, _, _, _, ⟨k + q, cur2, by omega, hq2, rfl, hB2, hs2, hR2, hbw2⟩, rfl⟩
      case measure => simp [intOf]; omega
    · obtain rfl : k = N := by omega
      go_wp2_with fail
      go_ret
      exact ⟨g, cs, rfl, hB, hs, hR, hgH.out, hbw⟩
end

section
open Go.RowKit

/-- A block of fractions that the call may write. -/
def OutV (w : World) (g : Nat) (l : List RatD) : Prop :=
  ∃ cs, Blk w g 29 cs ∧ cs.size = l.length * 3 ∧ ∀ i, i < l.length → ∃ s A n c B m d, (cs[i * 3]? = some (.bool s) ∧ cs[i * 3 + 1]? = some (.slice A n c) ∧ cs[i * 3 + 2]? = some (.slice B m d)) ∧ OwR 3 0 w s A n c B m d (pix l i)
section
variable {w W : World} {g : Nat} {l : List RatD}
theorem OutV.bl (h : OutV w g l) (hb : Bl w W) : OutV W g l := by
  obtain ⟨cs, h1, h2, h3⟩ := h
  refine ⟨cs, h1.bl hb, h2, fun i hi => ?_⟩
  obtain ⟨s, A, n, c, B, m, d, h4, h5⟩ := h3 i hi
  exact ⟨s, A, n, c, B, m, d, h4, h5.bl hb⟩
theorem OutV.lt (h : OutV w g l) : g < w.heap.size := by
  obtain ⟨cs, h1, _⟩ := h
  exact h1.lt
theorem OutV.wk (h : OutV w g l) : Wk (l.length * 3) 29 g w := by
  obtain ⟨cs, h1, h2, _⟩ := h
  exact Wk.of h1 h2
theorem OutV.rep {s : Bool} {A : Option Addr} {n c : Nat} {B : Option Addr} {m d : Nat} {r : RatD} {N : Nat} {cs : Array Value} (hB : Blk w g 29 cs) (hs : cs.size = N * 3) (hR : RepC cs N (.bool s) (.slice A n c) (.slice B m d)) (hr : OwR 3 0 w s A n c B m d r) : OutV w g (List.replicate N r) := by
  refine ⟨cs, hB, by simpa using hs, fun i hi => ?_⟩
  rw [List.length_replicate] at hi
  refine ⟨s, A, n, c, B, m, d, hR i hi, ?_⟩
  rw [show pix (List.replicate N r) i = r by simp [pix, hi]]
  exact hr
theorem OutV.at_ (h : OutV w g l) {i : Nat} (hi : i < l.length) : ∃ s A n c B m d, (w.cell? ⟨g, i * 3, none⟩ = some (.bool s) ∧ w.cell? ⟨g, i * 3 + 1, none⟩ = some (.slice A n c) ∧ w.cell? ⟨g, i * 3 + 2, none⟩ = some (.slice B m d)) ∧ OwR 3 0 w s A n c B m d (pix l i) := by
  obtain ⟨cs, h1, h2, h3⟩ := h
  obtain ⟨s, A, n, c, B, m, d, ⟨a0, a1, a2⟩, h5⟩ := h3 i hi
  exact ⟨s, A, n, c, B, m, d, ⟨(h1.cell _).trans a0, (h1.cell _).trans a1, (h1.cell _).trans a2⟩, h5⟩
theorem OutV.fz (h : OutV w g l) (i : Nat) : w.frozen? ⟨g, i, none⟩ = false := by
  obtain ⟨cs, h1, _⟩ := h
  exact h1.frozen i
theorem OutV.rd (h : OutV w g l) (hl : l.length ≤ 1048576) : RdRS w (some ⟨g, 0, none⟩) l.length l.length l := by
  refine ⟨rfl, Nat.le_refl _, by omega, fun k hk => ⟨_, rfl, h.lt, ?_⟩⟩
  obtain ⟨s, A, n, c, B, m, d, h4, h5⟩ := h.at_ hk
  rw [Addr.add_lit, Nat.zero_add]
  exact ⟨s, A, n, c, B, m, d, h4, h5.rd⟩
theorem pix_set {l : List RatD} {k i : Nat} {r : RatD} (hk : k < l.length) : pix (l.set k r) i = if i = k then r else pix l i := by
  unfold pix
  rw [List.getD_eq_getElem?_getD, List.getD_eq_getElem?_getD, List.getElem?_set]
  by_cases h : k = i
  · subst h
    simp [hk]
  · rw [if_neg h, if_neg (fun e => h e.symm)]
theorem OutV.keepR (h : OutV w g l) (i0 i1 i2 : Nat) (u0 u1 u2 : Value) {s : Bool} {A : Option Addr} {n c : Nat} {B : Option Addr} {m d : Nat} {q : RatD} (hq : OwR 3 0 w s A n c B m d q) : OwR 3 0 (((w.setCell ⟨g, i0, none⟩ u0).setCell ⟨g, i1, none⟩ u1).setCell ⟨g, i2, none⟩ u2) s A n c B m d q :=
  ((hq.setT h.wk ne_ir _ u0).setT (h.wk.set _ u0) ne_ir _ u1).setT ((h.wk.set _ u0).set _ u1) ne_ir _ u2
theorem OutV.put (h : OutV w g l) {k : Nat} (hk : k < l.length) {s : Bool} {A : Option Addr} {n c : Nat} {B : Option Addr} {m d : Nat} {r : RatD} (hR : OwR 3 0 w s A n c B m d r) : OutV (((w.setCell ⟨g, k * 3, none⟩ (.bool s)).setCell ⟨g, k * 3 + 1, none⟩ (.slice A n c)).setCell ⟨g, k * 3 + 2, none⟩ (.slice B m d)) g (l.set k r) := by
  have hw := h.wk
  obtain ⟨cs, h1, h2, h3⟩ := h
  have keep : ∀ {s : Bool} {A : Option Addr} {n c : Nat} {B : Option Addr} {m d : Nat} {q : RatD} (u0 u1 u2 : Value), OwR 3 0 w s A n c B m d q → OwR 3 0 (((w.setCell ⟨g, k * 3, none⟩ u0).setCell ⟨g, k * 3 + 1, none⟩ u1).setCell ⟨g, k * 3 + 2, none⟩ u2) s A n c B m d q := fun u0 u1 u2 hq =>
    ((hq.setT hw ne_ir _ u0).setT (hw.set _ u0) ne_ir _ u1).setT ((hw.set _ u0).set _ u1) ne_ir _ u2
  refine ⟨_, ((h1.set_ (k * 3) (.bool s)).set_ (k * 3 + 1) (.slice A n c)).set_ (k * 3 + 2) (.slice B m d), by simp [h2], fun i hi => ?_⟩
  rw [List.length_set] at hi
  rw [pix_set hk]
  by_cases hik : i = k
  · subst hik
    rw [if_pos rfl]
    refine ⟨s, A, n, c, B, m, d, ⟨?_, ?_, ?_⟩, keep _ _ _ hR⟩ <;> simp [Array.getElem?_setIfInBounds, h2] <;> omega
  · rw [if_neg hik]
    obtain ⟨s', A', n', c', B', m', d', ⟨a0, a1, a2⟩, h5⟩ := h3 i hi
    refine ⟨s', A', n', c', B', m', d', ⟨?_, ?_, ?_⟩, keep _ _ _ h5⟩
    · rw [← a0, Array.getElem?_setIfInBounds_ne (by omega), Array.getElem?_setIfInBounds_ne (by omega), Array.getElem?_setIfInBounds_ne (by omega)]
    · rw [← a1, Array.getElem?_setIfInBounds_ne (by omega), Array.getElem?_setIfInBounds_ne (by omega), Array.getElem?_setIfInBounds_ne (by omega)]
    · rw [← a2, Array.getElem?_setIfInBounds_ne (by omega), Array.getElem?_setIfInBounds_ne (by omega), Array.getElem?_setIfInBounds_ne (by omega)]
end
/-- What Gather makes: the first j entries of a row, the first i rows. -/
noncomputable def gaR (r : RatD) (row : List Int) (l : List RatD) : Nat → List RatD
  | 0 => l
  | j + 1 => (gaR r row l j).set (ix row j).toNat (addR (pix (gaR r row l j) (ix row j).toNat) r)
theorem gaR_len (r : RatD) (row : List Int) (l : List RatD) : ∀ j, (gaR r row l j).length = l.length
  | 0 => rfl
  | j + 1 => by unfold gaR; rw [List.length_set, gaR_len r row l j]
noncomputable def gaT (P : List (List Int)) (z : List RatD) (N : Nat) : Nat → List RatD
  | 0 => List.replicate N (ofFrac 0 1)
  | i + 1 => gaR (mulR (ofFrac 1 (pix P i).length) (pix z i)) (pix P i) (gaT P z N i) (pix P i).length
theorem gaT_len (P : List (List Int)) (z : List RatD) (N : Nat) : ∀ i, (gaT P z N i).length = N
  | 0 => by simp [gaT]
  | i + 1 => by unfold gaT; rw [gaR_len, gaT_len P z N i]
end

section
open Go.RowKit Go.ChangeShapes
open Go.Deep (open_slice open_slice1 choose_lt)
theorem cells_u8 : Tryz.prog.cellsOf 5 = 1 := by kernel_rfl
theorem open_by {H : Type} {enc : TypeId × Value → H} {w : World} {fuel : Nat} {cs : List Value} {x : DataW H × List MemPlace} {spare : Nat → Bool} {base : Nat} {held : Bool} (h : DataW.trod enc Tryz.prog w base spare held fuel 22 cs = some x) : ∃ A n c l, cs = [.slice A n c] ∧ RdB w A n c l := by
  rcases open_slice1 Tryz.underlying22 cells_u8 h with ⟨rfl, _⟩ | ⟨a, len, cap, m, k, V, D, Pl, rfl, hb, hl, hm, hmm, _, hx⟩
  · exact ⟨none, 0, 0, [], rfl, RdS.nil w _ _⟩
  · have hm' : cap ≤ 9223372036854775807 := by simpa [maxLen] using hm
    have hlm : len ≤ m := by rw [hmm]; split <;> omega
    refine ⟨some a, len, cap, (List.range len).map fun i => intOf (V i), rfl, by simp, hl, by omega, fun i hi => ?_⟩
    obtain ⟨hc, ht⟩ := hx i (by omega)
    obtain ⟨z, e, _, hwf⟩ := DataW.trod_int Tryz.underlying5 ht
    injection e with e
    have hlt : a.block < w.heap.size := by
      have := World.block_lt_of_cell? w _ hc
      rwa [block_add] at this
    have hz : 0 ≤ z ∧ z ≤ 255 := by
      have h1 : IntKind.u8.min = 0 := by decide
      have h2 : IntKind.u8.max = 255 := by decide
      simp only [Lit.wf, h1, h2, Bool.and_eq_true, decide_eq_true_eq] at hwf
      exact hwf
    refine ⟨a, rfl, hlt, ?_⟩
    have hpx : pix ((List.range len).map fun i => intOf (V i)) i = z := by simp [pix, hi, e, intOf]
    rw [hpx, Nat.mul_one]
    exact ⟨by rw [hc, e], hz⟩
end

end Go.Proofs.YtajlahjghapbkaaGreat
