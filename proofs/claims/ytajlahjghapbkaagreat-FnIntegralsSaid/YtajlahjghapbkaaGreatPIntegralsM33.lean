/- Lemmas. -/
import Derived.Test.YtajlahjghapbkaaGreatRows
import Derived.Test.YtajlahjghapbkaaGreatPIntegralsM32
import Derived.Test.YtajlahjghapbkaaGreatPIntegralsM25
import Derived.Test.YtajlahjghapbkaaGreatPIntegralsM02
import Derived.Test.YtajlahjghapbkaaGreatPIntegralsM29
import Derived.Test.YtajlahjghapbkaaGreatPIntegralsM01
import Derived.Test.YtajlahjghapbkaaGreatPIntegralsM09
import Derived.ProofKit
import Derived.Deep.Slices
namespace Go.Proofs.YtajlahjghapbkaaGreat
section
open Go.RowKit
def rg (a y x : Nat) : Nat → Int
  | 0 => (y : Int) * ((a : Int) + 1) + x
  | 1 => (y : Int) * ((a : Int) + 1) + x + 1
  | 2 => (y : Int) * ((a : Int) + 1) + x + a + 2
  | 3 => (y : Int) * ((a : Int) + 1) + x + a + 1
  | _ => (y : Int) * ((a : Int) + 1) + x
noncomputable def hpt (x y : Nat) : PtD := ⟨ofFrac (2 * (x : Int) + 1) 2, ofFrac (2 * (y : Int) + 1) 2⟩
theorem RowG.shapeN {α : Type} [Inhabited α] {N : List Nat → Prop} {TP : TypeId} {size lo hi : Nat} {El : World → Array Value → Nat → α → List Nat → Prop} {w : World} {v : Value} {l : List α} (h : RowG N TP size El lo hi w v l) : ∃ A c, v = .slice A l.length c := by
  obtain ⟨_, _, h1, _⟩ := h
  rcases h1.2 with ⟨rfl, h0⟩ | ⟨g, cap, cur, rfl, _⟩
  · exact ⟨_, _, by rw [h0]⟩
  · exact ⟨_, _, rfl⟩
theorem OwMZ.nil (lo hi : Nat) (w : World) : OwMZ lo hi w none 0 0 none 0 0 ⟨[], []⟩ := ⟨rfl, rfl, Nat.le_refl _, Nat.le_refl _, Nat.zero_le _, Nat.zero_le _, .inl ⟨rfl, rfl⟩⟩
/-- The four pairs of the reference's list. -/
def pairsA (gr : Nat) : Array Value := #[.slice (some ⟨gr + 0, 0, none⟩) 2 2, .slice (some ⟨gr + 1, 0, none⟩) 2 2, .slice (some ⟨gr + 2, 0, none⟩) 2 2, .slice (some ⟨gr + 3, 0, none⟩) 2 2]
def LitQ (a y x gr : Nat) (W : World) : Prop := Blk W (gr + 4) 25 (pairsA gr) ∧ ∀ k, k < 4 → Blk W (gr + k) 3 #[.int .i64 (rg a y x k), .int .i64 (rg a y x (k + 1))]
theorem LitQ.keep {a y x gr : Nat} {w W : World} (h : LitQ a y x gr w) (hk : ∀ g, gr ≤ g → g ≤ gr + 4 → W.heap[g]? = w.heap[g]?) : LitQ a y x gr W :=
  ⟨(hk _ (by omega) (by omega)).trans h.1, fun k hk2 => (hk _ (by omega) (by omega)).trans (h.2 k hk2)⟩
end

section
open Go.RowKit

set_option maxRecDepth 100000 in
set_option maxHeartbeats 32000000 in
theorem LocalMass_any (w : World) {g n c0 : Nat} {l : List PtD} (h : RdPS w (some ⟨g, 0, none⟩) n c0 l) :
    Calls Tryz.prog 97 #[.slice (some ⟨g, 0, none⟩) n c0] w fun e w' => ∃ A1 n1 c1, e = .returned (.slice A1 n1 c1) ∧ OwSZ 3 29 33 w.heap.size w'.heap.size w' A1 n1 c1 (massL l) ∧ Bl w w' := by
  by_cases hp : propB l = true
  · obtain ⟨_, p0, p1, p2, e, _⟩ := propB_out hp
    subst e
    obtain rfl : 3 = n := h.len
    have hv : massL [p0, p1, p2] = sqIf (massTo (areaR p0 p1 p2) 3) := by unfold massL; rw [if_pos hp]; rfl
    have hv2 := Lib.hid (show areaL [p0, p1, p2] = (areaR p0 p1 p2) by unfold areaL; rw [if_pos hp]; rfl)
    rw [hv]
    clear hv
    have hp := Lib.hid hp; rename_i h_; clear h_
    go_enter Tryz.func97, Tryz.ntmps97
    go_wp2_with fail
    refine (IsProper_any _ h).mono ?_
    rw [hp.out]
    rintro e w1 ⟨rfl, hb1⟩
    go_wp2_with fail
    go_loopw [3, 12] (fun v i wr => ∃ (k hi : Nat), k ≤ 3 ∧ i = .int .i64 (k : Int) ∧ RowS List.Nodup w1.heap.size hi wr v (massTo (areaR p0 p1 p2) k) ∧ Bl w1 wr ∧ w1.heap.size ≤ hi) (fun _ i _ => 3 - (intOf i).toNat)
    case atStart => exact ⟨0, w1.heap.size + 1, by omega, rfl, RowG.empty appN_nodup w1 (Nat.le_refl _), (Bl.refl _).alloc _, by omega⟩
    case round =>
      obtain ⟨k, hi, hk, rfl, hrow, hbw, hlh⟩ := hrel
      have hhi0 := RowG.hiLe hrow
      have hbz := Bl.size hbw
      obtain ⟨wo, rfl⟩ : ∃ wo : World, wo = wr := ⟨_, rfl⟩
      by_cases hk3 : k < 3
      · have hki : (k : Int) < 3 := by omega
        go_wp2_with fail
        go_loopw [5, 16] (fun v2 j wr => ∃ (m hi2 : Nat), m ≤ 3 ∧ j = .int .i64 (m : Int) ∧ RowR List.Nodup wo.heap.size hi2 wr v2 (massRow (areaR p0 p1 p2) k m) ∧ Bl wo wr ∧ wo.heap.size ≤ hi2) (fun _ j _ => 3 - (intOf j).toNat)
        case atStart => exact ⟨0, _, by omega, rfl, RowG.empty appN_nodup wo (Nat.le_refl _), (Bl.refl _).alloc _, by omega⟩
        case round =>
          obtain ⟨m, hi2, hm, rfl, hrow2, hbw2, hlh2⟩ := hrel
          have hhi2 := RowG.hiLe hrow2
          have hbz2 := Bl.size hbw2
          by_cases hm3 : m < 3
          · have hmi : (m : Int) < 3 := by omega
            by_cases hkm : k = m
            · have hV : Hid (massV (areaR p0 p1 p2) k m = divR (areaR p0 p1 p2) (ofFrac 6 1)) := by unfold Hid massV; rw [if_pos hkm]
              have hkd : ((k : Int) == (m : Int)) = true := by simp [hkm]
              have hkm := Lib.hid hkm; rename_i h_; clear h_
              go_wp2_with fail
              refine (area_any _ (RdPS.bl h (hb1.next (hbw.next hbw2)))).mono ?_
              rintro e w2 ⟨s2, A2, n2, c2, B2, m2, d2, rfl, hR2, hb2⟩
              go_wp2_with fail
              refine (RatFromInt_any _ 6 (by omega) (by omega)).mono ?_
              rintro e w3 ⟨s3, A3, n3, c3, B3, m3, d3, rfl, hR3, hb3⟩
              have hz2 := Bl.size hb2
              have hz3 := Bl.size hb3
              go_wp2_with fail
              refine (RatDiv_any _ (hR2.rd.bl hb3) hR3.rd).mono ?_
              rintro e w4 ⟨s4, A4, n4, c4, B4, m4, d4, rfl, hR4, hb4⟩
              have hb5 := ((hbw2.next hb2).next hb3).next hb4
              have hrow4 := RowG.bl (rtIn_keep 3) (RowG.bl (rtIn_keep 3) (RowG.bl (rtIn_keep 3) hrow2 hb2) hb3) hb4
              clear hrow2
              rw [← hV.out] at hR4
              go_wp2_with ((refine wpList_append_rat rfl (.tmp 22) (.tmp 28) rfl _ (by rfl) hrow4 hR4 (by omega) hlh2 1 (by rfl) (by rw [massRow_len]; omega) wo hb5 (Nat.le_refl _) ?_; intro v' w8 hrow' hb8'; clear hrow4 hR4))
              have hz8 := hb8'.size
              rw [← massRow_succ] at hrow'
              go_roundw
              case rel => exact ⟨m + 1, _, by omega, by go_num, hrow', hb8', hz8⟩
              case measure => simp [intOf]; omega
            · have hV : Hid (massV (areaR p0 p1 p2) k m = divR (areaR p0 p1 p2) (ofFrac 12 1)) := by unfold Hid massV; rw [if_neg hkm]
              have hkd : ((k : Int) == (m : Int)) = false := by simp; omega
              have hkm := Lib.hid hkm; rename_i h_; clear h_
              go_wp2_with fail
              refine (area_any _ (RdPS.bl h (hb1.next (hbw.next hbw2)))).mono ?_
              rintro e w2 ⟨s2, A2, n2, c2, B2, m2, d2, rfl, hR2, hb2⟩
              go_wp2_with fail
              refine (RatFromInt_any _ 12 (by omega) (by omega)).mono ?_
              rintro e w3 ⟨s3, A3, n3, c3, B3, m3, d3, rfl, hR3, hb3⟩
              have hz2 := Bl.size hb2
              have hz3 := Bl.size hb3
              go_wp2_with fail
              refine (RatDiv_any _ (hR2.rd.bl hb3) hR3.rd).mono ?_
              rintro e w4 ⟨s4, A4, n4, c4, B4, m4, d4, rfl, hR4, hb4⟩
              have hb5 := ((hbw2.next hb2).next hb3).next hb4
              have hrow4 := RowG.bl (rtIn_keep 3) (RowG.bl (rtIn_keep 3) (RowG.bl (rtIn_keep 3) hrow2 hb2) hb3) hb4
              clear hrow2
              rw [← hV.out] at hR4
              go_wp2_with ((refine wpList_append_rat rfl (.tmp 22) (.tmp 28) rfl _ (by rfl) hrow4 hR4 (by omega) hlh2 1 (by rfl) (by rw [massRow_len]; omega) wo hb5 (Nat.le_refl _) ?_; intro v' w8 hrow' hb8'; clear hrow4 hR4))
              have hz8 := hb8'.size
              rw [← massRow_succ] at hrow'
              go_roundw
              case rel => exact ⟨m + 1, _, by omega, by go_num, hrow', hb8', hz8⟩
              case measure => simp [intOf]; omega
          · obtain rfl : m = 3 := by omega
            obtain ⟨A7, c7, bs7, rfl, hft, hnd, hbs⟩ := RowR.ft hrow2 (by rw [massRow_len]; omega)
            have hrow := RowG.bl (rsIn_keep 3 29) hrow hbw2
            have hb6 := hbw.next hbw2
            go_wp2_with ((refine wpList_append_rats rfl (.tmp 31) (.tmp 33) rfl _ (by rfl) hrow hft hnd (fun b hb => ⟨by have := (hbs b hb).1; omega, Nat.lt_of_lt_of_le (hbs b hb).2 hhi2⟩) hlh 1 (by rfl) (by rw [massTo_len]; omega) w1 hb6 (Nat.le_refl _) ?_; intro v' w8 hrow' hb8'; clear hrow hft))
            have hz8 := hb8'.size
            rw [← massTo_succ] at hrow'
            go_roundw
            case rel => exact ⟨k + 1, _, by omega, by go_num, hrow', hb8', hz8⟩
            case measure => simp [intOf]; omega
      · obtain rfl : k = 3 := by omega
        obtain ⟨A1, c1, rfl, hZ⟩ := RowS.own hrow (by rw [massTo_len]; omega)
        rw [massTo_len] at hZ ⊢
        have hbf := hb1.next hbw
        have hhi3 := RowG.hiLe hrow
        go_wp2_with fail
        refine (ifSquare_any _ hZ.rd (massTo_z _)).mono ?_
        rintro e w7 ⟨⟨hs, rfl⟩ | ⟨hs, rfl⟩, hb7⟩
        · have hv := Lib.hid (show sqIf (massTo (areaR p0 p1 p2) 3) = massTo (areaR p0 p1 p2) 3 from if_pos hs)
          have hs := Lib.hid hs; rename_i h_; clear h_
          go_wp2_with fail
          go_ret
          rw [hv.out]
          exact ⟨_, _, _, rfl, (OwSZ.bl hZ hb7).low (Bl.size hb1) (Nat.le_trans hhi3 (Bl.size hb7)), hbf.next hb7⟩
        · have hv := Lib.hid (show sqIf (massTo (areaR p0 p1 p2) 3) = [] from if_neg hs)
          have hs := Lib.hid hs; rename_i h_; clear h_
          go_wp2_with fail
          go_ret
          rw [hv.out]
          exact ⟨_, _, _, rfl, ⟨rfl, Nat.le_refl _, Nat.zero_le _, .inl rfl⟩, hbf.next hb7⟩
  · have hval := Lib.hid (show massL l = [] by unfold massL; rw [if_neg hp])
    have hp := Lib.hid (Bool.eq_false_iff.2 hp); rename_i h_; clear h_
    go_enter Tryz.func97, Tryz.ntmps97
    go_wp2_with fail
    refine (IsProper_any _ h).mono ?_
    rw [hp.out]
    rintro e w1 ⟨rfl, hb1⟩
    go_wp2_with fail
    go_ret
    rw [hval.out]
    exact ⟨_, _, _, rfl, ⟨rfl, Nat.le_refl _, Nat.zero_le _, .inl rfl⟩, hb1⟩
end

section
open Go.RowKit

/-- Two lists are equal up to place k. -/
def eqTo (a b : List Int) : Nat → Bool
  | 0 => true
  | k + 1 => eqTo a b k && (ix a k == ix b k)
def eqL (a b : List Int) : Bool := a == b

theorem eqTo_step {xs ys : List Int} {k : Nat} (h : eqTo xs ys k = true) (he : ix xs k = ix ys k) : eqTo xs ys (k + 1) = true := by simp [eqTo, h, he]
theorem eqTo_iff {xs ys : List Int} {k : Nat} : eqTo xs ys k = true ↔ ∀ i, i < k → ix xs i = ix ys i := by
  induction k with
  | zero => simp [eqTo]
  | succ k ih =>
    simp only [eqTo, Bool.and_eq_true, ih, beq_iff_eq]
    constructor
    · rintro ⟨h1, h2⟩ i hi
      rcases Nat.lt_succ_iff_lt_or_eq.1 hi with h | rfl
      · exact h1 i h
      · exact h2
    · intro h
      exact ⟨fun i hi => h i (by omega), h k (by omega)⟩
theorem eqL_same {xs ys : List Int} (h : xs.length = ys.length) : eqL xs ys = eqTo xs ys xs.length := by
  rw [Bool.eq_iff_iff, eqTo_iff]
  unfold eqL
  rw [beq_iff_eq]
  constructor
  · rintro rfl i _; rfl
  · intro hh
    apply List.ext_getElem h
    intro i h1 h2
    have := hh i h1
    simpa [ix, h1, h2] using this
theorem eqL_no {xs ys : List Int} {k : Nat} (_h : xs.length = ys.length) (_hk : k < xs.length) (he : ¬ ix xs k = ix ys k) : eqL xs ys = false := by
  unfold eqL
  rw [beq_eq_false_iff_ne]
  rintro rfl
  exact he rfl
theorem eqL_len {xs ys : List Int} (h : ¬ xs.length = ys.length) : eqL xs ys = false := by
  unfold eqL
  rw [beq_eq_false_iff_ne]
  rintro rfl
  exact h rfl

set_option maxHeartbeats 1600000 in
theorem Equal_int (w : World) {A B : Option Addr} {n m c d : Nat} {xs ys : List Int} (ha : RdI w A n c xs) (hb : RdI w B m d ys) :
    Calls Tryz.prog 81 #[.slice A n c, .slice B m d] w fun e w' => e = .returned (.bool (eqL xs ys)) ∧ ∃ q, w' = w.drewN q := by
  have hna := ha.small
  have hnb := hb.small
  by_cases hnm : n = m
  · subst hnm
    have heq := Lib.hid (eqL_same (ha.len.trans hb.len.symm)); rw [ha.len] at heq
    go_enter Tryz.func81, Tryz.ntmps81
    go_wp2
    go_loopw [13] (fun i wr => ∃ k : Nat, k ≤ n ∧ i = .int .i64 (k : Int) ∧ Hid (eqTo xs ys k = true) ∧ ∃ q, wr = w.drewN q) (fun i _ => n - (intOf i).toNat)
    case atStart => exact ⟨0, Nat.zero_le _, rfl, rfl, (by first | exact ⟨_, rfl⟩ | exact ⟨0, rfl⟩ | exact q_drewN ⟨_, rfl⟩ | exact q_drewN (q_drewN ⟨_, rfl⟩))⟩
    case round =>
      obtain ⟨k, hk, rfl, hto, q, rfl⟩ := hrel
      by_cases hkn : k < n
      · obtain ⟨ad, rfl, hlta, hca⟩ := ha.at_ hkn
        obtain ⟨bd, rfl, hltb, hcb⟩ := hb.at_ hkn
        have hki : (k : Int) < (n : Int) := by omega
        by_cases he : ix xs k = ix ys k
        · have hs := Lib.hid (eqTo_step hto.out he); clear hto
          have hbeq : (ix xs k != ix ys k) = false := by simp [he]
          clear he
          go_wp2
          go_quiet (fail)
          go_wp2
          go_roundw
          case rel => exact ⟨k + 1, by omega, by go_num, hs, (by first | exact ⟨_, rfl⟩ | exact ⟨0, rfl⟩ | exact q_drewN ⟨_, rfl⟩ | exact q_drewN (q_drewN ⟨_, rfl⟩))⟩
          case measure => simp [intOf]; omega
        · have hs := Lib.hid (eqL_no (by rw [ha.len, hb.len]) (by rw [ha.len]; exact hkn) he); clear hto heq
          have hbeq : (ix xs k != ix ys k) = true := by simp [he]
          clear he
          go_wp2
          go_quiet (fail)
          go_wp2
          go_ret
          exact ⟨ret_bool hs.out.symm, (by first | exact ⟨_, rfl⟩ | exact ⟨0, rfl⟩ | exact q_drewN ⟨_, rfl⟩ | exact q_drewN (q_drewN ⟨_, rfl⟩))⟩
      · have hkk : k = n := by omega
        have hs := Lib.hid (heq.out.trans (hkk ▸ hto.out)); clear hto heq hkk
        go_wp2
        go_ret
        exact ⟨ret_bool hs.out.symm, (by first | exact ⟨_, rfl⟩ | exact ⟨0, rfl⟩ | exact q_drewN ⟨_, rfl⟩ | exact q_drewN (q_drewN ⟨_, rfl⟩))⟩
  · have hs := Lib.hid (eqL_len (xs := xs) (ys := ys) (by rw [ha.len, hb.len]; exact hnm))
    have hne : ((n : Int) != (m : Int)) = true := by simp; omega
    go_enter Tryz.func81, Tryz.ntmps81
    go_wp2
    go_ret
    exact ⟨ret_bool hs.out.symm, (by first | exact ⟨_, rfl⟩ | exact ⟨0, rfl⟩ | exact q_drewN ⟨_, rfl⟩ | exact q_drewN (q_drewN ⟨_, rfl⟩))⟩
end

section
open Go.RowKit

def eqR (a b : RatD) : Bool := a.neg == b.neg && eqL a.mag b.mag && eqL a.den b.den
theorem eqR_den {r r' : RatD} {s s' : Bool} (h : s = r.neg) (h' : s' = r'.neg) (e0 : (s == s') = true) (e1 : eqL r.mag r'.mag = true) : eqR r r' = eqL r.den r'.den := by
  unfold eqR; rw [← h, ← h', e0, e1]; rfl
theorem eqR_mag {r r' : RatD} (e1 : eqL r.mag r'.mag = false) : eqR r r' = false := by
  unfold eqR; rw [e1]; simp
theorem eqR_neg {r r' : RatD} {s s' : Bool} (h : s = r.neg) (h' : s' = r'.neg) (e0 : (s == s') = false) : eqR r r' = false := by
  unfold eqR; rw [← h, ← h', e0]; rfl
def eqP (a b : PtD) : Bool := eqR a.x b.x && eqR a.y b.y
theorem eqP_y {p q : PtD} (e0 : eqR p.x q.x = true) : eqP p q = eqR p.y q.y := by unfold eqP; rw [e0]; rfl
theorem eqP_x {p q : PtD} (e0 : eqR p.x q.x = false) : eqP p q = false := by unfold eqP; rw [e0]; rfl

set_option maxHeartbeats 1600000 in
theorem RatEqual_any (w : World) {A B A' B' : Option Addr} {n m n' m' c d c' d' : Nat} {s s' : Bool} {r r' : RatD} (h : RdR w s A n c B m d r) (h' : RdR w s' A' n' c' B' m' d' r') :
    Calls Tryz.prog 21 #[.agg #[.bool s, .slice A n c, .slice B m d], .agg #[.bool s', .slice A' n' c', .slice B' m' d']] w fun e w' => e = .returned (.bool (eqR r r')) ∧ Bl w w' := by
  by_cases e0 : (s == s') = true
  · by_cases e1 : eqL r.mag r'.mag = true
    · have hs := Lib.hid (eqR_den h.neg h'.neg e0 e1)
      go_enter Tryz.func21, Tryz.ntmps21
      go_wp2_with fail
      refine (Equal_int _ ((h.mag.alloc _).alloc _) ((h'.mag.alloc _).alloc _)).mono ?_
      rintro e w' ⟨rfl, q, rfl⟩
      go_wp2_with fail
      refine (Equal_int _ (((h.den.alloc _).alloc _).drewN _) (((h'.den.alloc _).alloc _).drewN _)).mono ?_
      rintro e w' ⟨rfl, q', rfl⟩
      go_wp2_with fail
      go_ret
      exact ⟨ret_bool hs.out.symm, slc⟩
    · have e1 : eqL r.mag r'.mag = false := by simpa using e1
      have hs := Lib.hid (eqR_mag e1)
      go_enter Tryz.func21, Tryz.ntmps21
      go_wp2_with fail
      refine (Equal_int _ ((h.mag.alloc _).alloc _) ((h'.mag.alloc _).alloc _)).mono ?_
      rintro e w' ⟨rfl, q, rfl⟩
      go_wp2_with fail
      go_ret
      exact ⟨ret_bool hs.out.symm, slc⟩
  · have e0 : (s == s') = false := by simpa using e0
    have hs := Lib.hid (eqR_neg h.neg h'.neg e0)
    go_enter Tryz.func21, Tryz.ntmps21
    go_wp2_with fail
    go_ret
    exact ⟨ret_bool hs.out.symm, slc⟩

set_option maxHeartbeats 1600000 in
theorem SamePoint_any (w : World) {A B A' B' : Option Addr} {n m n' m' c d c' d' : Nat} {s s' : Bool} {C D C' D' : Option Addr} {i j i' j' e f e' f' : Nat} {t t' : Bool} {p q : PtD}
    (h : RdR w s A n c B m d p.x) (k : RdR w t C i e D j f p.y) (h' : RdR w s' A' n' c' B' m' d' q.x) (k' : RdR w t' C' i' e' D' j' f' q.y) :
    Calls Tryz.prog 20 #[.agg #[.bool s, .slice A n c, .slice B m d, .bool t, .slice C i e, .slice D j f], .agg #[.bool s', .slice A' n' c', .slice B' m' d', .bool t', .slice C' i' e', .slice D' j' f']] w fun e w' => e = .returned (.bool (eqP p q)) ∧ Bl w w' := by
  by_cases e0 : eqR p.x q.x = true
  · have hs := Lib.hid (eqP_y e0)
    go_enter Tryz.func20, Tryz.ntmps20
    go_wp2_with fail
    refine (RatEqual_any _ ((h.alloc _).alloc _) ((h'.alloc _).alloc _)).mono ?_
    rintro e w1 ⟨rfl, hb⟩
    obtain ⟨hc, hf⟩ := bcell hb
    have hb1 : Bl w w1 := slc
    go_wp2_with fail
    refine (RatEqual_any _ (k.bl hb1) (k'.bl hb1)).mono ?_
    rintro e w2 ⟨rfl, hb2⟩
    go_wp2_with fail
    go_ret
    exact ⟨ret_bool hs.out.symm, slc⟩
  · have e0 : eqR p.x q.x = false := by simpa using e0
    have hs := Lib.hid (eqP_x e0)
    go_enter Tryz.func20, Tryz.ntmps20
    go_wp2_with fail
    refine (RatEqual_any _ ((h.alloc _).alloc _) ((h'.alloc _).alloc _)).mono ?_
    rintro e w1 ⟨rfl, hb⟩
    go_wp2_with fail
    go_ret
    exact ⟨ret_bool hs.out.symm, slc⟩

theorem eqR_iff {a b : RatD} : eqR a b = true ↔ a = b := by
  cases a; cases b
  simp [eqR, eqL, and_assoc]
theorem eqP_iff {a b : PtD} : eqP a b = true ↔ a = b := by
  cases a; cases b
  simp [eqP, eqR_iff]
/-- The first k elements agree. -/
def Agree {α : Type} [Inhabited α] (l l' : List α) (k : Nat) : Prop := ∀ i, i < k → pix l i = pix l' i
theorem Agree.zero {α : Type} [Inhabited α] (l l' : List α) : Agree l l' 0 := fun i hi => by omega
theorem Agree.step {α : Type} [Inhabited α] {l l' : List α} {k : Nat} (h : Agree l l' k) (e : pix l k = pix l' k) : Agree l l' (k + 1) := by
  intro i hi
  rcases Nat.lt_succ_iff_lt_or_eq.1 hi with hi | rfl
  · exact h i hi
  · exact e
theorem Agree.all {α : Type} [Inhabited α] {l l' : List α} {n : Nat} (h : Agree l l' n) (hl : l.length = n) (hl' : l'.length = n) : l = l' := list_eq_of_pix hl hl' h
end

section
open Go.RowKit Go.ChangeShapes
open Go.Deep (open_slice open_slice1 choose_lt)
theorem cells_u8 : Tryz.prog.cellsOf 5 = 1 := by kernel_rfl
theorem open_by {H : Type} {enc : TypeId × Value → H} {w : World} {fuel : Nat} {cs : List Value} {x : DataW H × List MemPlace} {spare : Nat → Bool} {base : Nat} {held : Bool} (h : DataW.trod enc Tryz.prog w base spare held fuel 22 cs = some x) : ∃ A n c l, cs = [.slice A n c] ∧ RdB w A n c l := by
  rcases open_slice1 Tryz.underlying22 cells_u8 h with ⟨rfl, _⟩ | ⟨a, len, cap, m, k, V, D, Pl, rfl, hb, hl, hm, hmm, _, hx⟩
  · exact ⟨none, 0, 0, [], rfl, RdS.nil w _ _⟩
  · have hm' : cap ≤ 9223372036854775807 := by simpa [maxLen] using hm
    have hlm : len ≤ m := by rw [hmm]; split <;> omega
    refine ⟨some a, len, cap, (List.range len).map fun i => intOf (V i), rfl, by simp, hl, by omega, fun i hi => ?_⟩
    obtain ⟨hc, ht⟩ := hx i (by omega)
    obtain ⟨z, e, _, hwf⟩ := DataW.trod_int Tryz.underlying5 ht
    injection e with e
    have hlt : a.block < w.heap.size := by
      have := World.block_lt_of_cell? w _ hc
      rwa [block_add] at this
    have hz : 0 ≤ z ∧ z ≤ 255 := by
      have h1 : IntKind.u8.min = 0 := by decide
      have h2 : IntKind.u8.max = 255 := by decide
      simp only [Lit.wf, h1, h2, Bool.and_eq_true, decide_eq_true_eq] at hwf
      exact hwf
    refine ⟨a, rfl, hlt, ?_⟩
    have hpx : pix ((List.range len).map fun i => intOf (V i)) i = z := by simp [pix, hi, e, intOf]
    rw [hpx, Nat.mul_one]
    exact ⟨by rw [hc, e], hz⟩
end

end Go.Proofs.YtajlahjghapbkaaGreat
