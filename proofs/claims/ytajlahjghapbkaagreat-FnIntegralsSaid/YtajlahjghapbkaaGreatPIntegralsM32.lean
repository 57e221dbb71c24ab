/- Lemmas. -/
import Derived.Test.YtajlahjghapbkaaGreatRows
import Derived.Test.YtajlahjghapbkaaGreatPIntegralsM29
import Derived.Test.YtajlahjghapbkaaGreatPIntegralsM19
import Derived.Test.YtajlahjghapbkaaGreatPIntegralsM21
import Derived.Test.YtajlahjghapbkaaGreatPIntegralsM25
import Derived.Test.YtajlahjghapbkaaGreatPIntegralsM02
import Derived.Test.YtajlahjghapbkaaGreatPIntegralsM20
import Derived.Test.YtajlahjghapbkaaGreatPIntegralsM08
namespace Go.Proofs.YtajlahjghapbkaaGreat
section
open Go.RowKit

section
variable {x0 y0 x1 y1 x2 y2 : Rat}
def mQ (x0 y0 x1 y1 x2 y2 : Rat) (i j : Nat) : Rat := arQ x0 y0 x1 y1 x2 y2 / mkRat (if i = j then 6 else 12) 1
theorem mQ_bd (h : Sm6 x0 y0 x1 y1 x2 y2) (i j : Nat) : Bd 5357381714688 (mQ x0 y0 x1 y1 x2 y2 i j) := by
  have h1 : Bd 12 (mkRat (if i = j then 6 else 12) 1) := bd_mk (by omega) (by split <;> decide) (by omega)
  exact ((area_toP h).2.div h1).mono (by decide)
theorem massV_toP (h : Sm6 x0 y0 x1 y1 x2 y2) (i j : Nat) : massV (areaR (toP x0 y0) (toP x1 y1) (toP x2 y2)) i j = toR (mQ x0 y0 x1 y1 x2 y2 i j) := by
  obtain ⟨e, ha⟩ := area_toP h
  have h1 : Bd 12 (mkRat (if i = j then 6 else 12) 1) := bd_mk (by omega) (by split <;> decide) (by omega)
  have h2 : ofFrac (if i = j then 6 else 12) 1 = toR (mkRat (if i = j then 6 else 12) 1) := by
    rw [ofFrac_toR _ (by omega), if_pos (h1.fit (by decide))]
  unfold massV
  rw [e, h2, divR_toR (ha.fit (by decide)) (h1.fit (by decide)) (by split <;> decide +kernel) ((mQ_bd h i j).fit (by decide))]
  rfl
theorem massL_toP (h : Sm6 x0 y0 x1 y1 x2 y2) (hp : propB [toP x0 y0, toP x1 y1, toP x2 y2] = true) : massL [toP x0 y0, toP x1 y1, toP x2 y2] = massTo (areaR (toP x0 y0) (toP x1 y1) (toP x2 y2)) 3 := by
  unfold massL
  rw [if_pos hp]
  show sqIf (massTo (areaR (toP x0 y0) (toP x1 y1) (toP x2 y2)) 3) = _
  unfold sqIf
  rw [if_pos]
  intro i hi j hj
  rw [massTo_len] at hi
  have e : pix (massTo (areaR (toP x0 y0) (toP x1 y1) (toP x2 y2)) 3) i = massRow (areaR (toP x0 y0) (toP x1 y1) (toP x2 y2)) i 3 := by simp [pix, massTo, hi]
  rw [e] at hj ⊢
  rw [massRow_len] at hj
  have e2 : pix (massRow (areaR (toP x0 y0) (toP x1 y1) (toP x2 y2)) i 3) j = massV (areaR (toP x0 y0) (toP x1 y1) (toP x2 y2)) i j := by simp [pix, massRow, hj]
  rw [e2, massV_toP h]
  exact ((mQ_bd h i j).fit (by decide)).ok
end
end

section
open Go.RowKit

noncomputable def accR (l l' : List RatD) : Nat → RatD
  | 0 => ofFrac 0 1
  | k + 1 => addR (accR l l' k) (mulR (pix l k) (pix l' k))
noncomputable def innR (l l' : List RatD) : RatD := if l.length = l'.length then accR l l' l.length else zR
/-- A fraction in memory of its own from block b0 on, none of it in block g. -/
def OwG (T : TypeId) (b0 g : Nat) (w : World) (s : Bool) (A : Option Addr) (n c : Nat) (B : Option Addr) (m d : Nat) (r : RatD) : Prop :=
  ∃ bs, FtR T w s A n c B m d r bs ∧ Fp b0 w.heap.size bs ∧ g ∉ bs
section
variable {T : TypeId} {b0 b1 g : Nat} {w W : World} {s : Bool} {A : Option Addr} {n c : Nat} {B : Option Addr} {m d : Nat} {r : RatD}
theorem OwG.rd (h : OwG T b0 g w s A n c B m d r) : RdR w s A n c B m d r := by
  obtain ⟨bs, h, _⟩ := h
  exact h.rd
theorem OwG.ow (h : OwG T b0 g w s A n c B m d r) : OwR T b0 w s A n c B m d r := by
  obtain ⟨bs, h, hf, _⟩ := h
  exact ⟨bs, h, hf⟩
theorem OwG.set (h : OwG T b0 g w s A n c B m d r) (i : Nat) (u : Value) : OwG T b0 g (w.setCell ⟨g, i, none⟩ u) s A n c B m d r := by
  obtain ⟨bs, h, hf, hg⟩ := h
  exact ⟨bs, h.keep (by simp) (fun b hb => Below.heap_setCell w _ u b (by intro e; exact hg ((show b = g from e) ▸ hb))), hf.mono (Nat.le_refl _) (by simp), hg⟩
theorem OwR.exc (h : OwR T b0 w s A n c B m d r) (hb : Bl w W) : OwG T b0 w.heap.size W s A n c B m d r := by
  obtain ⟨bs, h, hf⟩ := h
  exact ⟨bs, h.bl hb, hf.mono (Nat.le_refl _) hb.size, fun hm => by have := (hf.2 _ hm).2; omega⟩
theorem OwR.exc2 (h : OwR T b1 w s A n c B m d r) (hg : g < b1) (hb : b0 ≤ b1) : OwG T b0 g w s A n c B m d r := by
  obtain ⟨bs, h, hf⟩ := h
  exact ⟨bs, h, hf.mono hb (Nat.le_refl _), fun hm => by have := (hf.2 _ hm).1; omega⟩
theorem fz3 {a b c : Value} (h : Blk W g T #[a, b, c]) : W.frozen? ⟨g, 0, none⟩ = false ∧ W.frozen? ⟨g, 1, none⟩ = false ∧ W.frozen? ⟨g, 2, none⟩ = false := ⟨h.frozen 0, h.frozen 1, h.frozen 2⟩
end

set_option maxRecDepth 100000 in
set_option maxHeartbeats 8000000 in
theorem InnerVector_any (w : World) {A B : Option Addr} {n c m d : Nat} {l l' : List RatD} (ha : RdRS w A n c l) (hb : RdRS w B m d l') :
    Calls Tryz.prog 62 #[.slice A n c, .slice B m d] w fun e w' => ∃ s1 A1 n1 c1 B1 m1 d1, e = .returned (.agg #[.bool s1, .slice A1 n1 c1, .slice B1 m1 d1]) ∧ OwR 3 w.heap.size w' s1 A1 n1 c1 B1 m1 d1 (innR l l') ∧ Bl w w' := by
  have hna := ha.small
  have hnb := hb.small
  by_cases hnm : n = m
  · subst hnm
    have hl := ha.len
    have hv := Lib.hid (show innR l l' = accR l l' n by unfold innR; rw [if_pos (by rw [ha.len, hb.len]), hl])
    clear hl
    go_enter Tryz.func62, Tryz.ntmps62
    go_wp2_with fail
    refine calls_gen (fun W => Bl w W ∧ Wk 3 29 (w.heap.size) W) ⟨slc, bts⟩ ?_
    rintro W ⟨hbW, hr⟩
    refine (RatFromInt_any _ 0 (by omega) (by omega)).mono ?_
    rintro e w1 ⟨s0, A0, n0, c0, B0, m0, d0, rfl, hR0, hb1⟩
    have hz := hr.lt
    have hr := hr.bl hb1
    have hbW := hbW.next hb1
    have hR0 := hR0.mono (show w.heap.size + 1 ≤ W.heap.size from hz)
    have hz1 : w.heap.size < w1.heap.size := hr.lt
    clear hb1
    go_wp2_with fail
    go_loopw [17] (fun i wr => ∃ (k : Nat) (s : Bool) (A1 : Option Addr) (n1 c1 : Nat) (B1 : Option Addr) (m1 d1 : Nat), k ≤ n ∧ i = .int .i64 (k : Int) ∧ Blk wr w1.heap.size 29 #[.bool s, .slice A1 n1 c1, .slice B1 m1 d1] ∧ OwG 3 (w.heap.size + 1) w1.heap.size wr s A1 n1 c1 B1 m1 d1 (accR l l' k) ∧ Wk 3 29 w.heap.size wr ∧ Bl w wr) (fun i _ => n - (intOf i).toNat)
    case atStart => exact ⟨0, s0, A0, n0, c0, B0, m0, d0, Nat.zero_le _, rfl, Blk.new _ _ _, hR0.exc ((Bl.refl w1).alloc _), hr.alloc _, hbW.alloc _⟩
    case round =>
      clear hr hbW hR0 hz
      obtain ⟨k, s, A1, n1, c1, B1, m1, d1, hk, rfl, hx, hO, hr, hbw⟩ := hrel
      by_cases hkn : k < n
      · have hki : (k : Int) < (n : Int) := by omega
        obtain ⟨ad, rfl, hlta, hca⟩ := ha.cells k hkn
        obtain ⟨bd, rfl, hltb, hcb⟩ := hb.cells k hkn
        obtain ⟨s3, A3, n3, c3, B3, m3, d3, ⟨g0, g1, g2⟩, hu⟩ := hca.bl (by rw [block_add]; exact hlta) hbw
        obtain ⟨s2, A2, n2, c2, B2, m2, d2, ⟨p0, p1, p2⟩, hvv⟩ := hcb
        have hgl := hx.lt
        have hvlt : (bd.add (k * 3)).block < w.heap.size := by rw [block_add]; exact hltb
        replace p0 := Lib.hid p0
        replace p1 := Lib.hid p1
        replace p2 := Lib.hid p2
        have hacc := hO.rd
        clear hO
        go_wp2_with fail
        refine wp_gen (fun W => Bl w W ∧ wr.heap.size < W.heap.size ∧ Blk W w1.heap.size 29 #[.bool s, .slice A1 n1 c1, .slice B1 m1 d1] ∧ Blk W wr.heap.size 29 #[.bool s3, .slice A3 n3 c3, .slice B3 m3 d3] ∧ Wk 3 29 w.heap.size W ∧ RdR W s A1 n1 c1 B1 m1 d1 (accR l l' k) ∧ RdR W s3 A3 n3 c3 B3 m3 d3 (pix l k)) ⟨slc, by simp, hx.alloc _, Blk.new _ _ _, hr.alloc _, hacc.alloc _, hu.alloc _⟩ ?_
        clear g0 g1 g2 hacc hu hr hx hbw
        rintro W ⟨hbr, hgw, hx2, hx3, hr2, hacc, hu2⟩
        replace p0 := p0.out
        replace p1 := p1.out
        replace p2 := p2.out
        have hHeld : (fun w' => (w'.cell? ⟨w1.heap.size, 0, none⟩ = some (.bool s) ∧ w'.cell? ⟨w1.heap.size, 1, none⟩ = some (.slice A1 n1 c1) ∧ w'.cell? ⟨w1.heap.size, 2, none⟩ = some (.slice B1 m1 d1)) ∧ (w'.cell? ⟨wr.heap.size, 0, none⟩ = some (.bool s3) ∧ w'.cell? ⟨wr.heap.size, 1, none⟩ = some (.slice A3 n3 c3) ∧ w'.cell? ⟨wr.heap.size, 2, none⟩ = some (.slice B3 m3 d3)) ∧ (w'.cell? (bd.add (k * 3)) = some (.bool s2) ∧ w'.cell? ⟨(bd.add (k * 3)).block, (bd.add (k * 3)).off + 1, none⟩ = some (.slice A2 n2 c2) ∧ w'.cell? ⟨(bd.add (k * 3)).block, (bd.add (k * 3)).off + 2, none⟩ = some (.slice B2 m2 d2))) (W.drew) := ⟨bx3 (T := 29) bts, bx3 (T := 29) bts, ⟨(Bl.cellOf (w := w) slc hvlt).trans p0, (Bl.cellOf (w := w) (p := ⟨(bd.add (k * 3)).block, (bd.add (k * 3)).off + 1, none⟩) slc hvlt).trans p1, (Bl.cellOf (w := w) (p := ⟨(bd.add (k * 3)).block, (bd.add (k * 3)).off + 2, none⟩) slc hvlt).trans p2⟩⟩
        refine wp_region_T 8 9 (fun w' => (w'.cell? ⟨w1.heap.size, 0, none⟩ = some (.bool s) ∧ w'.cell? ⟨w1.heap.size, 1, none⟩ = some (.slice A1 n1 c1) ∧ w'.cell? ⟨w1.heap.size, 2, none⟩ = some (.slice B1 m1 d1)) ∧ (w'.cell? ⟨wr.heap.size, 0, none⟩ = some (.bool s3) ∧ w'.cell? ⟨wr.heap.size, 1, none⟩ = some (.slice A3 n3 c3) ∧ w'.cell? ⟨wr.heap.size, 2, none⟩ = some (.slice B3 m3 d3)) ∧ (w'.cell? (bd.add (k * 3)) = some (.bool s2) ∧ w'.cell? ⟨(bd.add (k * 3)).block, (bd.add (k * 3)).off + 1, none⟩ = some (.slice A2 n2 c2) ∧ w'.cell? ⟨(bd.add (k * 3)).block, (bd.add (k * 3)).off + 2, none⟩ = some (.slice B2 m2 d2))) rfl (by kernel_rfl) hHeld ?_
        refine wpAnyT_take (i := 0) (oi := _) (v := ?_) (fuel := 8) rfl (by kernel_rfl) (by kernel_rfl) (by kernel_rfl) (by kernel_rfl) (fun _ _ _ h => h) (by rfl) ?_ hHeld ?_
        rotate_left 1
        · (intro w' hSw; (try dsimp only at hSw); go_simp <;> with_reducible rfl)
        refine wpAnyT_take (i := 1) (oi := _) (v := ?_) (fuel := 7) rfl (by kernel_rfl) (by kernel_rfl) (by kernel_rfl) (by kernel_rfl) (fun _ _ _ h => h) (by rfl) ?_ hHeld ?_
        rotate_left 1
        · (intro w' hSw; (try dsimp only at hSw); go_simp <;> with_reducible rfl)
        refine wpAnyT_take (i := 2) (oi := _) (v := ?_) (fuel := 6) rfl (by kernel_rfl) (by kernel_rfl) (by kernel_rfl) (by kernel_rfl) (fun _ _ _ h => h) (by rfl) ?_ hHeld ?_
        rotate_left 1
        · (intro w' hSw; (try dsimp only at hSw); go_simp <;> with_reducible rfl)
        refine wpAnyT_take (i := 3) (oi := _) (v := ?_) (fuel := 5) rfl (by kernel_rfl) (by kernel_rfl) (by kernel_rfl) (by kernel_rfl) (fun _ _ _ h => h) (by rfl) ?_ hHeld ?_
        rotate_left 1
        · (intro w' hSw; (try dsimp only at hSw); go_simp <;> with_reducible rfl)
        refine wpAnyT_take (i := 4) (oi := _) (v := ?_) (fuel := 4) rfl (by kernel_rfl) (by kernel_rfl) (by kernel_rfl) (by kernel_rfl) (fun _ _ _ h => h) (by rfl) ?_ hHeld ?_
        rotate_left 1
        · (intro w' hSw; (try dsimp only at hSw); go_simp <;> with_reducible rfl)
        refine wpAnyT_take (i := 5) (oi := _) (v := ?_) (fuel := 3) rfl (by kernel_rfl) (by kernel_rfl) (by kernel_rfl) (by kernel_rfl) (fun _ _ _ h => h) (by rfl) ?_ hHeld ?_
        rotate_left 1
        · (intro w' hSw; (try dsimp only at hSw); go_simp <;> with_reducible rfl)
        clear hHeld
        simp only [Act.put, List.setIfInBounds_toArray]
        refine wpAnyT_step (i := 6) (o := _) (fuel := 2) rfl (by kernel_rfl) (fun K hK => ?_)
        go_simp
        refine (RatMul_any _ (hu2.bl slc) (hvv.bl slc)).mono ?_
        rintro e w2 ⟨s4, A4, n4, c4, B4, m4, d4, rfl, hR4, hb2⟩
        refine hK.out _ _ (fun _ => ⟨bx3 (T := 29) bts, bx3 (T := 29) bts, ⟨(Bl.cellOf (w := w) slc hvlt).trans p0, (Bl.cellOf (w := w) (p := ⟨(bd.add (k * 3)).block, (bd.add (k * 3)).off + 1, none⟩) slc hvlt).trans p1, (Bl.cellOf (w := w) (p := ⟨(bd.add (k * 3)).block, (bd.add (k * 3)).off + 2, none⟩) slc hvlt).trans p2⟩⟩) ?_
        clear hK K
        try simp only [Act.put, List.setIfInBounds_toArray, List.set_cons_zero, List.set_cons_succ]
        refine wpAnyT_step (i := 7) (o := _) (fuel := 1) rfl (by kernel_rfl) (fun K hK => ?_)
        go_simp
        refine (RatAdd_any _ (hacc.bl slc) hR4.rd).mono ?_
        rintro e w3 ⟨s5, A5, n5, c5, B5, m5, d5, rfl, hR5, hb3⟩
        refine hK.out _ _ (fun _ => ⟨bx3 (T := 29) bts, bx3 (T := 29) bts, ⟨(Bl.cellOf (w := w) slc hvlt).trans p0, (Bl.cellOf (w := w) (p := ⟨(bd.add (k * 3)).block, (bd.add (k * 3)).off + 1, none⟩) slc hvlt).trans p1, (Bl.cellOf (w := w) (p := ⟨(bd.add (k * 3)).block, (bd.add (k * 3)).off + 2, none⟩) slc hvlt).trans p2⟩⟩) ?_
        clear hK K
        try simp only [Act.put, List.setIfInBounds_toArray, List.set_cons_zero, List.set_cons_succ]
        have hx4 := (hx2.drew.bl hb2).bl hb3
        obtain ⟨z0, z1, z2⟩ := bx3 hx4
        obtain ⟨y0, y1, y2⟩ := fz3 hx4
        refine wpAnyT_step (i := 8) (o := _) (fuel := 0) rfl (by kernel_rfl) (fun K hK => ?_)
        go_simp
        refine hK.out _ _ (fun h => absurd rfl h) ?_
        clear hK K
        try simp only [Act.put, List.setIfInBounds_toArray, List.set_cons_zero, List.set_cons_succ]
        refine wpAnyT_done (by kernel_rfl) ?_
        have hb23 : Bl w w3 := slc
        have hr4 := (hr2.drew.bl hb2).bl hb3
        have hz3 : w1.heap.size < w2.heap.size := Nat.lt_of_lt_of_le hx2.drew.lt (Bl.size hb2)
        have hG := OwR.exc2 hR5 hz3 (show w.heap.size + 1 ≤ w2.heap.size by omega)
        go_wp2_with fail
        go_roundw
        case rel => exact ⟨k + 1, s5, A5, n5, c5, B5, m5, d5, by omega, by go_num, (Wk.of hx4 rfl).put3 _ _ _, ((hG.set _ _).set _ _).set _ _, ((hr4.far (by simp; omega) _).far (by simp; omega) _).far (by simp; omega) _, slc⟩
        case measure => simp [intOf]; omega
      · obtain rfl : k = n := by omega
        obtain ⟨i0, i1, i2⟩ := bx3 hx
        rw [← hv.out] at hO
        have hR := hO.ow
        have hbW := hbw
        obtain ⟨v0, x0⟩ := hr.val_ (i := 0) (by omega)
        obtain ⟨v1, x1⟩ := hr.val_ (i := 1) (by omega)
        obtain ⟨v2, x2⟩ := hr.val_ (i := 2) (by omega)
        have hg := hr.lt
        obtain ⟨cs4, hB4, hc4⟩ := hr
        have hf0 := hB4.frozen 0
        have hf1 := hB4.frozen 1
        have hf2 := hB4.frozen 2
        go_wp2_with fail
        exact bodyPost_ret (v := .agg #[.bool s, .slice A1 n1 c1, .slice B1 m1 d1]) (by simp [results, Tryz.results62, go_sem, x0, x1, x2]) rfl ⟨_, _, _, _, _, _, _, rfl, (((hR.far (by simp) _).far (by simp) _).far (by simp) _).mono (by omega), slc⟩
  · have hl : ¬ l.length = l'.length := by rw [ha.len, hb.len]; exact hnm
    have hval := Lib.hid (show innR l l' = zR by unfold innR; rw [if_neg hl])
    have hne : ((n : Int) != (m : Int)) = true := by simp; omega
    clear hl hnm
    go_enter Tryz.func62, Tryz.ntmps62
    go_wp2_with fail
    exact bodyPost_ret (v := .agg #[.bool false, .slice none 0 0, .slice none 0 0]) (by simp [results, Tryz.results62, go_sem]) rfl ⟨_, _, _, _, _, _, _, rfl, by rw [hval.out]; exact OwR.zero _ _ _, slc⟩
end

section
open Go.RowKit
theorem wpList_append_rowS {P : Program} {α : Type} [Inhabited α] {N : List Nat → Prop} (hN : AppN N) {size bytes : Nat} {El : World → Array Value → Nat → α → List Nat → Prop} (hk : KeepE size El) {TP t : TypeId} {z : Value}
    (hinfo : (P.info? TP).map (fun i => (i.zero, i.size, i.bytes)) = some (some z, size, bytes)) (hzs : z.cells.size = size) (hsz : 0 < size) (hby : bytes ≤ 4096) (ht : P.underlying t = some (.slice TP))
    {W : World} {news : Array Value} {p : α} {bs : List Nat} {lo hi : Nat} {l : List α} {ops : Array Oper} {rest : List Oper} {o : Oper} {a : Act} {Q : Exit → Act → World → Prop} (hgd : o.guard = none) (s x : Operand)
    (ho : o.op = .call { callee := .builtin .append, args := #[s, x], argTypes := #[t, t] }) (v : Value) (hs : a.eval s = v) (hrow : RowG N TP size El lo hi W v l)
    (hel : El W news 0 p bs) (hnl : news.size = size) (h1 : ∀ u ∈ news.toList, u.oneCell' = true) (hbs : ∀ b ∈ bs, hi ≤ b ∧ b < W.heap.size) (hNb : N bs) (hlh : lo ≤ hi)
    (c : Nat) (hx : a.eval x = .slice (some ⟨W.heap.size, 0, none⟩) 1 c) (hlen : l.length ≤ 1048576) (w0 : World) (hb : Bl w0 W) (h0 : w0.heap.size ≤ lo)
    (h : ∀ v' w', RowG N TP size El lo w'.heap.size w' v' (l ++ [p]) → Bl w0 w' → (v' = .slice none 0 0 → False) → (W.heap.size ≤ w'.heap.size ∧ ∀ g, g < W.heap.size → v.ownBlock ≠ some g → w'.heap[g]? = W.heap[g]? ∧ v'.ownBlock ≠ some g) → wpList P ops Q rest (a.put o.dst v') w') : wpList P ops Q (o :: rest) a (W.alloc (.cells news TP)) := by
  obtain ⟨i0, hi0, hz0, hz1, hz2⟩ := info_parts hinfo
  obtain ⟨cells, fs, r1, r2, r3, r4, r5, r6, r7⟩ := hrow
  have ro := World.ownsRow.alloc r1 (.cells news TP)
  have hnew : (W.alloc (.cells news TP)).heap[W.heap.size]? = some (.cells news TP (0, 0)) := heap_alloc_new W _
  have hsz2 : (W.alloc (.cells news TP)).heap.size = W.heap.size + 1 := by simp
  have hm : (l.length + 1) * bytes ≤ 140737488355328 := Nat.le_trans (Nat.mul_le_mul (show l.length + 1 ≤ 1048577 by omega) hby) (by omega)
  refine wpList_append_own_at _ hgd s x t ho lo TP i0 z size bytes ht hi0 hz0 hz1 hz2 hzs hsz v l.length cells hs ro ⟨W.heap.size, 0, none⟩ 1 c news.toList hx (by simpa using hnl) (World.news_of_block hnew) h1 (by unfold maxLen; omega) hm (by omega) ?_
  intro v' w' g1 g2 g3 g4
  have hne : v' ≠ .slice none 0 0 := fun e => by have := (g3.1 e).2; omega
  have hws := g2.size
  have hold : ∀ b, b < W.heap.size → v.ownBlock ≠ some b → w'.heap[b]? = W.heap[b]? := fun b hb1 hb2 => (g2.block b (by omega) (fun e => hb2 e.symm)).trans (Below.heap_alloc W _ b hb1)
  have hown : ∀ b, v'.ownBlock = some b → (v.ownBlock = some b ∨ b = W.heap.size + 1) := by
    intro b e
    rcases g4 with g4 | g4
    · exact .inl (by rw [← g4]; exact e)
    · rw [g4] at e; injection e with e; right; omega
  have hvl : ∀ b, v'.ownBlock = some b → lo ≤ b ∧ b < w'.heap.size := fun b e => by have := World.ownsRow.lt g1 b e; exact this
  refine h v' w' ⟨cells ++ news.toList, fs ++ [bs], by simpa using g1, fun g e => (hvl g e).2, by simp [r3], fun i hi' => ?_, fun b hm' => ?_, ?_, Nat.le_refl _⟩ ((hb.alloc _).grown g2 (fun k e => by have := (World.ownsRow.lt r1 k e).1; omega)) hne ⟨by omega, fun g hg hn => ⟨hold g hg hn, fun e => by rcases hown g e with e | e; exact hn e; omega⟩⟩
  · have hcl := r1.1
    rw [List.length_append, List.length_singleton] at hi'
    rcases Nat.lt_succ_iff_lt_or_eq.1 hi' with hi' | rfl
    · rw [pix_append_left hi', pix_append_left (by rw [r3]; exact hi')]
      refine hk _ _ _ _ _ _ _ _ (r4 i hi') (fun j hj => ?_) (by omega) fun b hb' => ?_
      · have : i * size + j < cells.length := by
          rw [hcl]
          have : (i + 1) * size ≤ l.length * size := Nat.mul_le_mul_right _ hi'
          rw [Nat.succ_mul] at this
          omega
        simp [List.getElem?_append_left this]
      · have := r5 b (mem_flatten_pix hb')
        exact hold b (by omega) this.2.2
    · rw [pix_append_last, pixs_last r3]
      refine hk _ _ _ _ _ _ _ _ hel (fun j hj => ?_) (by omega) fun b hb' => ?_
      · have : (cells ++ news.toList)[l.length * size + j]? = news.toList[j]? := by
          rw [List.getElem?_append_right (by rw [hcl]; omega), hcl]
          congr 1; omega
        simpa using this
      · have := hbs b hb'
        exact hold b this.2 fun e => by have := r2 b e; omega
  · rw [List.flatten_append, List.mem_append] at hm'
    rcases hm' with hm' | hm'
    · have := r5 b hm'
      refine ⟨this.1, by omega, fun e => ?_⟩
      rcases hown b e with e | e
      · exact this.2.2 e
      · omega
    · have := hbs b (by simpa using hm')
      refine ⟨by omega, by omega, fun e => ?_⟩
      rcases hown b e with e | e
      · have := r2 b e; omega
      · omega
  · rw [List.flatten_append]
    refine hN.2 _ _ r6 (by simpa using hNb) fun x hx' y hy e => ?_
    have a1 := r5 x hx'
    have a2 := hbs y (by simpa using hy)
    omega
end

section
open Go.RowKit

noncomputable def accS (l : List RatD) : Nat → RatD
  | 0 => ofFrac 0 1
  | k + 1 => addR (accS l k) (pix l k)
noncomputable def sumS (l : List RatD) : RatD := accS l l.length
set_option maxRecDepth 100000 in
set_option maxHeartbeats 8000000 in
theorem sumOf_any (w : World) {A : Option Addr} {n c : Nat} {l : List RatD} (ha : RdRS w A n c l) :
    Calls Tryz.prog 88 #[.slice A n c] w fun e w' => ∃ s1 A1 n1 c1 B1 m1 d1, e = .returned (.agg #[.bool s1, .slice A1 n1 c1, .slice B1 m1 d1]) ∧ OwR 3 w.heap.size w' s1 A1 n1 c1 B1 m1 d1 (sumS l) ∧ Bl w w' := by
  have hna := ha.small
  have hv := Lib.hid (show sumS l = accS l n by unfold sumS; rw [ha.len])
  go_enter Tryz.func88, Tryz.ntmps88
  go_wp2_with fail
  refine calls_gen (fun W => Bl w W ∧ Wk 3 29 (w.heap.size) W) ⟨slc, bts⟩ ?_
  rintro W ⟨hbW, hr⟩
  refine (RatFromInt_any _ 0 (by omega) (by omega)).mono ?_
  rintro e w1 ⟨s0, A0, n0, c0, B0, m0, d0, rfl, hR0, hb1⟩
  have hz := hr.lt
  have hr := hr.bl hb1
  have hbW := hbW.next hb1
  have hR0 := hR0.mono (show w.heap.size + 1 ≤ W.heap.size from hz)
  have hz1 : w.heap.size < w1.heap.size := hr.lt
  clear hb1
  go_wp2_with fail
  go_loopw [9] (fun i wr => ∃ (k : Nat) (s : Bool) (A1 : Option Addr) (n1 c1 : Nat) (B1 : Option Addr) (m1 d1 : Nat), k ≤ n ∧ i = .int .i64 (k : Int) ∧ Blk wr w1.heap.size 29 #[.bool s, .slice A1 n1 c1, .slice B1 m1 d1] ∧ OwG 3 (w.heap.size + 1) w1.heap.size wr s A1 n1 c1 B1 m1 d1 (accS l k) ∧ Wk 3 29 w.heap.size wr ∧ Bl w wr) (fun i _ => n - (intOf i).toNat)
  case atStart => exact ⟨0, s0, A0, n0, c0, B0, m0, d0, Nat.zero_le _, rfl, Blk.new _ _ _, hR0.exc ((Bl.refl w1).alloc _), hr.alloc _, hbW.alloc _⟩
  case round =>
    clear hr hbW hR0 hz
    obtain ⟨k, s, A1, n1, c1, B1, m1, d1, hk, rfl, hx, hO, hr, hbw⟩ := hrel
    by_cases hkn : k < n
    · have hki : (k : Int) < (n : Int) := by omega
      obtain ⟨ad, rfl, hlta, hca⟩ := ha.cells k hkn
      obtain ⟨s3, A3, n3, c3, B3, m3, d3, ⟨g0, g1, g2⟩, hu⟩ := hca.bl (by rw [block_add]; exact hlta) hbw
      have hgl := hx.lt
      have hacc := hO.rd
      clear hO
      go_upto_region 5 with (fail)
      refine wp_gen (fun W => Bl w W ∧ wr.heap.size < W.heap.size ∧ Blk W w1.heap.size 29 #[.bool s, .slice A1 n1 c1, .slice B1 m1 d1] ∧ Blk W wr.heap.size 29 #[.bool s3, .slice A3 n3 c3, .slice B3 m3 d3] ∧ Wk 3 29 w.heap.size W ∧ RdR W s A1 n1 c1 B1 m1 d1 (accS l k) ∧ RdR W s3 A3 n3 c3 B3 m3 d3 (pix l k)) ⟨slc, by simp, hx.alloc _, Blk.new _ _ _, hr.alloc _, hacc.alloc _, hu.alloc _⟩ ?_
      clear g0 g1 g2 hacc hu hr hx hbw
      rintro W ⟨hbr, hgw, hx2, hx3, hr2, hacc, hu2⟩
      obtain ⟨y0, y1, y2⟩ := bx3 hx2
      obtain ⟨u0, u1, u2⟩ := bx3 hx3
      go_wp2_with fail
      refine (RatAdd_any _ hacc hu2).mono ?_
      rintro e w3 ⟨s5, A5, n5, c5, B5, m5, d5, rfl, hR5, hb3⟩
      have hx4 := hx2.bl hb3
      have hr4 := hr2.bl hb3
      have hb23 := hbr.next hb3
      have hz3 : w1.heap.size < W.heap.size := hx2.lt
      have hz4 : w.heap.size < W.heap.size := hr2.lt
      have hG := OwR.exc2 hR5 hz3 (show w.heap.size + 1 ≤ W.heap.size by omega)
      clear y0 y1 y2 u0 u1 u2
      obtain ⟨y0, y1, y2⟩ := bx3 hx4
      obtain ⟨z0, z1, z2⟩ := fz3 hx4
      go_wp2_with fail
      go_roundw
      case rel => exact ⟨k + 1, s5, A5, n5, c5, B5, m5, d5, by omega, by go_num, (Wk.of hx4 rfl).put3 _ _ _, ((hG.set _ _).set _ _).set _ _, ((hr4.far (by simp; omega) _).far (by simp; omega) _).far (by simp; omega) _, slc⟩
      case measure => simp [intOf]; omega
    · obtain rfl : k = n := by omega
      obtain ⟨i0, i1, i2⟩ := bx3 hx
      rw [← hv.out] at hO
      have hR := hO.ow
      have hbW := hbw
      obtain ⟨v0, x0⟩ := hr.val_ (i := 0) (by omega)
      obtain ⟨v1, x1⟩ := hr.val_ (i := 1) (by omega)
      obtain ⟨v2, x2⟩ := hr.val_ (i := 2) (by omega)
      have hg := hr.lt
      obtain ⟨cs4, hB4, hc4⟩ := hr
      have hf0 := hB4.frozen 0
      have hf1 := hB4.frozen 1
      have hf2 := hB4.frozen 2
      go_wp2_with fail
      exact bodyPost_ret (v := .agg #[.bool s, .slice A1 n1 c1, .slice B1 m1 d1]) (by simp [results, Tryz.results88, go_sem, x0, x1, x2]) rfl ⟨_, _, _, _, _, _, _, rfl, (((hR.far (by simp) _).far (by simp) _).far (by simp) _).mono (by omega), slc⟩
end

section
open Go.RowKit
end

section
open Go.RowKit

theorem Ob.cellOf {bs : List Nat} {w W : World} (h : Ob bs w W) {b o : Nat} (hb : b < w.heap.size) (hn : b ∉ bs) : W.cell? ⟨b, o, none⟩ = w.cell? ⟨b, o, none⟩ := World.cell?_of_block (w := w) (h.block b hb hn)
end

section
open Go.RowKit
/-- A mesh in the blocks from lo to hi; its slices may have room to spare; or an empty one. -/
def OwMZ (lo hi : Nat) (w : World) (A : Option Addr) (n c : Nat) (B : Option Addr) (m d : Nat) (x : MeD) : Prop :=
  x.points.length = n ∧ x.tris.length = m ∧ n ≤ c ∧ m ≤ d ∧ n ≤ 1048576 ∧ m ≤ 1048576 ∧ ((n = 0 ∧ m = 0) ∨
    ∃ g g' cs cs' fs, A = some ⟨g, 0, none⟩ ∧ B = some ⟨g', 0, none⟩ ∧ Blk w g 31 cs ∧ Blk w g' 73 cs' ∧ n * 6 ≤ cs.size ∧ m * 5 ≤ cs'.size ∧ PtsIn 3 w cs x.points n fs ∧ TrsIn cs' x.tris m ∧ Fp lo hi (g :: g' :: fs.flatten))
section
variable {lo hi : Nat} {w W : World} {A : Option Addr} {n c : Nat} {B : Option Addr} {m d : Nat} {x : MeD}
theorem OwMZ.bl (h : OwMZ lo hi w A n c B m d x) (hb : Bl w W) : OwMZ lo hi W A n c B m d x := by
  obtain ⟨h1, h2, h3, h4, h5, h6, h7⟩ := h
  refine ⟨h1, h2, h3, h4, h5, h6, ?_⟩
  rcases h7 with h7 | ⟨g, g', cs, cs', fs, rfl, rfl, a1, a2, a3, a4, a5, a6, a7⟩
  · exact .inl h7
  · refine .inr ⟨g, g', cs, cs', fs, rfl, rfl, a1.bl hb, a2.bl hb, a3, a4, a5.bl hb fun b hm => ?_, a6, a7⟩
    obtain ⟨l, hl', hb'⟩ := List.mem_flatten.1 hm
    obtain ⟨i, hi, rfl⟩ := List.getElem_of_mem hl'
    exact (a5.2 i (by rw [← a5.1]; exact hi)).lt b (by simpa [pix, hi] using hb')
theorem OwMZ.low {lo' hi' : Nat} (h : OwMZ lo hi w A n c B m d x) (h1 : lo' ≤ lo) (h2 : hi ≤ hi') : OwMZ lo' hi' w A n c B m d x := by
  obtain ⟨b1, b2, b3, b4, b5, b6, h7⟩ := h
  refine ⟨b1, b2, b3, b4, b5, b6, ?_⟩
  rcases h7 with h7 | ⟨g, g', cs, cs', fs, rfl, rfl, a1, a2, a3, a4, a5, a6, a7⟩
  · exact .inl h7
  · exact .inr ⟨g, g', cs, cs', fs, rfl, rfl, a1, a2, a3, a4, a5, a6, a7.mono h1 h2⟩
theorem OwMZ.keep (h : OwMZ lo hi w A n c B m d x) (hs : w.heap.size ≤ W.heap.size) (hk : ∀ b, lo ≤ b → b < hi → b < w.heap.size → W.heap[b]? = w.heap[b]?) : OwMZ lo hi W A n c B m d x := by
  obtain ⟨b1, b2, b3, b4, b5, b6, h7⟩ := h
  refine ⟨b1, b2, b3, b4, b5, b6, ?_⟩
  rcases h7 with h7 | ⟨g, g', cs, cs', fs, rfl, rfl, a1, a2, a3, a4, a5, a6, a7⟩
  · exact .inl h7
  · have hg := a7.2 g (by simp)
    have hg' := a7.2 g' (by simp)
    refine .inr ⟨g, g', cs, cs', fs, rfl, rfl, (hk g hg.1 hg.2 a1.lt).trans a1, (hk g' hg'.1 hg'.2 a2.lt).trans a2, a3, a4, ⟨a5.1, fun i hi => (a5.2 i hi).keep (fun _ _ => rfl) hs fun b hb => ?_⟩, a6, a7⟩
    have hm := a7.2 b (List.mem_cons_of_mem _ (List.mem_cons_of_mem _ (mem_flatten_pix hb)))
    exact hk b hm.1 hm.2 ((a5.2 i hi).lt b hb)
theorem OwMZ.set (h : OwMZ lo hi w A n c B m d x) {q : Addr} (hq : q.block < lo ∨ hi ≤ q.block) (u : Value) : OwMZ lo hi (w.setCell q u) A n c B m d x :=
  h.keep (by simp) fun b h1 h2 _ => Below.heap_setCell w q u b (by omega)
end
end

section
open Go.RowKit

set_option maxRecDepth 100000 in
set_option maxHeartbeats 4000000 in
theorem PointAt_any (w : World) (x y : Int) (hx1 : -1000000 < x) (hx2 : x ≤ 1000000) (hy1 : -1000000 < y) (hy2 : y ≤ 1000000) :
    Calls Tryz.prog 17 #[.int .i64 x, .int .i64 y] w fun en w' => ∃ s1 A1 n1 c1 B1 m1 d1 t1 C1 i1 e1 D1 j1 f1, en = .returned (.agg #[.bool s1, .slice A1 n1 c1, .slice B1 m1 d1, .bool t1, .slice C1 i1 e1, .slice D1 j1 f1]) ∧ OwP 3 w.heap.size w' s1 A1 n1 c1 B1 m1 d1 t1 C1 i1 e1 D1 j1 f1 ⟨ofFrac x 1, ofFrac y 1⟩ ∧ Bl w w' := by
  go_enter Tryz.func17, Tryz.ntmps17
  go_wp2_with fail
  refine calls_gen (fun W => Bl w W ∧ Wk 6 31 w.heap.size W) ⟨slc, bts⟩ ?_
  rintro W ⟨hbW, hr⟩
  refine (RatFromInt_any _ x (by omega) (by omega)).mono ?_
  rintro e w2 ⟨s1, A1, n1, c1, B1, m1, d1, rfl, hR1, hb2⟩
  go_wp2_with fail
  refine (RatFromInt_any _ y (by omega) (by omega)).mono ?_
  rintro e w3 ⟨t1, C1, i1, e1, D1, j1, f1, rfl, hR2, hb3⟩
  have hz : w.heap.size + 1 ≤ W.heap.size := hr.lt
  have hz2 : W.heap.size ≤ w2.heap.size := Bl.size hb2
  have hr := (hr.bl hb2).bl hb3
  have hbW : Bl w w3 := slc
  have hX : OwP 3 W.heap.size w3 s1 A1 n1 c1 B1 m1 d1 t1 C1 i1 e1 D1 j1 f1 ⟨ofFrac x 1, ofFrac y 1⟩ := OwP.two hR1 hR2 hb3 hz2
  have hX := OwP.low hX hz
  obtain ⟨v0, x0⟩ := hr.val_ (i := 0) (by omega)
  obtain ⟨v1, x1⟩ := hr.val_ (i := 1) (by omega)
  obtain ⟨v2, x2⟩ := hr.val_ (i := 2) (by omega)
  obtain ⟨v3, x3⟩ := hr.val_ (i := 3) (by omega)
  obtain ⟨v4, x4⟩ := hr.val_ (i := 4) (by omega)
  obtain ⟨v5, x5⟩ := hr.val_ (i := 5) (by omega)
  have hg := hr.lt
  obtain ⟨cs4, hB4, hc4⟩ := hr
  have hf0 := hB4.frozen 0
  have hf1 := hB4.frozen 1
  have hf2 := hB4.frozen 2
  have hf3 := hB4.frozen 3
  have hf4 := hB4.frozen 4
  have hf5 := hB4.frozen 5
  go_wp2_with fail
  exact bodyPost_ret (v := .agg #[.bool s1, .slice A1 n1 c1, .slice B1 m1 d1, .bool t1, .slice C1 i1 e1, .slice D1 j1 f1]) (by simp [results, Tryz.results17, go_sem, x0, x1, x2, x3, x4, x5]) rfl ⟨_, _, _, _, _, _, _, _, _, _, _, _, _, _, rfl, ((((((hX.far (by simp) _).far (by simp) _).far (by simp) _).far (by simp) _).far (by simp) _).far (by simp) _).low (by omega), slc⟩
end

section
open Go.RowKit

/-- Blocks that all differ, and differ from the block of a row. -/
def Sep (vt : Value) (bs : List Nat) : Prop := bs.Nodup ∧ ∀ g, vt.ownBlock = Option.some g → g ∉ bs
theorem appN_sep (vt : Value) : AppN (Sep vt) :=
  ⟨⟨List.nodup_nil, fun g _ => by simp⟩, fun a b ha hb hd => ⟨List.nodup_append.2 ⟨ha.1, hb.1, hd⟩, fun g e hm => by rcases List.mem_append.1 hm with h | h; exact ha.2 g e h; exact hb.2 g e h⟩⟩
theorem RowG.lo {α : Type} [Inhabited α] {N : List Nat → Prop} {TP : TypeId} {size lo hi : Nat} {El : World → Array Value → Nat → α → List Nat → Prop} {w : World} {v : Value} {l : List α} (h : RowG N TP size El lo hi w v l) {g : Nat} (hg : v.ownBlock = Option.some g) : lo ≤ g ∧ g < hi := by
  obtain ⟨_, _, h1, h2, _⟩ := h
  exact ⟨(World.ownsRow.lt h1 g hg).1, h2 g hg⟩
theorem RowG.up {α : Type} [Inhabited α] {N : List Nat → Prop} {TP : TypeId} {size lo hi hi' : Nat} {El : World → Array Value → Nat → α → List Nat → Prop} {w : World} {v : Value} {l : List α} (h : RowG N TP size El lo hi w v l) (h1 : hi ≤ hi') (h2 : hi' ≤ w.heap.size) : RowG N TP size El lo hi' w v l := by
  obtain ⟨cells, fs, r1, r2, r3, r4, r5, r6, r7⟩ := h
  exact ⟨cells, fs, r1, fun g e => Nat.lt_of_lt_of_le (r2 g e) h1, r3, r4, fun b hm => ⟨(r5 b hm).1, Nat.lt_of_lt_of_le (r5 b hm).2.1 h1, (r5 b hm).2.2⟩, r6, h2⟩
theorem RowT.keep {lo hi : Nat} {w W : World} {v : Value} {l : List TriD} (h : RowT lo hi w v l) (hs : w.heap.size ≤ W.heap.size) (h1 : ∀ g, v.ownBlock = Option.some g → W.heap[g]? = w.heap[g]?) : RowT lo hi W v l := by
  obtain ⟨cells, fs, r1, r2, r3, r4, r5, r6, r7⟩ := h
  refine ⟨cells, fs, ⟨r1.1, ?_⟩, r2, r3, fun i hi => r4 i hi, r5, r6, Nat.le_trans r7 hs⟩
  rcases r1.2 with h | ⟨g, cap, cur, rfl, hg, hh, r⟩
  · exact .inl h
  · exact .inr ⟨g, cap, cur, rfl, hg, (h1 g rfl).trans hh, r⟩
/-- The points and the triangles of a mesh that is being built. -/
def MR (lo : Nat) (w : World) (vp vt : Value) (l : List PtD) (t : List TriD) : Prop :=
  RowP (Sep vt) lo w.heap.size w vp l ∧ RowT lo w.heap.size w vt t ∧ ∀ g, vt.ownBlock = Option.some g → vp.ownBlock ≠ Option.some g
section
variable {lo : Nat} {w W w' : World} {vp vt vp' vt' : Value} {l l' : List PtD} {t t' : List TriD}
theorem MR.nil (w : World) : MR lo w (.slice none 0 0) (.slice none 0 0) [] [] :=
  ⟨RowG.nil (appN_sep _) w (Nat.le_refl _), RowG.nil appN_any w (Nat.le_refl _), fun g e => by cases e⟩
theorem MR.bl (h : MR lo w vp vt l t) (hb : Bl w W) : MR lo W vp vt l t :=
  ⟨(RowG.bl (ptIn_keep 3) h.1 hb).up hb.size (Nat.le_refl _), (RowG.bl trIn_keep h.2.1 hb).up hb.size (Nat.le_refl _), h.2.2⟩
theorem MR.set (h : MR lo w vp vt l t) {q : Addr} (hq : q.block < lo) (u : Value) : MR lo (w.setCell q u) vp vt l t := by
  have hs : (w.setCell q u).heap.size = w.heap.size := by simp
  refine ⟨?_, ?_, h.2.2⟩
  · rw [hs]
    exact RowG.keep (ptIn_keep 3) h.1 (by omega) fun b h1 _ => Below.heap_setCell w q u b (by omega)
  · rw [hs]
    exact RowG.keep trIn_keep h.2.1 (by omega) fun b h1 _ => Below.heap_setCell w q u b (by omega)
theorem MR.out (h : MR lo w vp vt l t) (hl : 0 < l.length) (ht : 0 < t.length) (hl2 : l.length ≤ 1048576) (ht2 : t.length ≤ 1048576) : ∃ A c B d, vp = .slice A l.length c ∧ vt = .slice B t.length d ∧ OwMZ lo w.heap.size w A l.length c B t.length d ⟨l, t⟩ := by
  obtain ⟨h1, h2, h3⟩ := h
  obtain ⟨cells, fs, r1, r2, r3, r4, r5, r6, r7⟩ := h1
  obtain ⟨cells', fs', s1, s2, s3, s4, s5, s6, s7⟩ := h2
  rcases r1.2 with ⟨rfl, h0⟩ | ⟨g, cap, cur, rfl, hg, hh, hn, hcap, hcs, htk⟩
  · omega
  rcases s1.2 with ⟨rfl, h0⟩ | ⟨g', cap', cur', rfl, hg', hh', hn', hcap', hcs', htk'⟩
  · omega
  have hlen : l.length * 6 ≤ cur.size := by rw [hcs]; exact Nat.mul_le_mul_right _ hn
  have hlen' : t.length * 5 ≤ cur'.size := by rw [hcs']; exact Nat.mul_le_mul_right _ hn'
  have hgm : g ∉ fs.flatten := fun hm => (r5 g hm).2.2 rfl
  have hgm' : g' ∉ fs.flatten := r6.2 g' rfl
  have hne : g ≠ g' := fun e => h3 g' rfl (by rw [e]; rfl)
  refine ⟨_, cap, _, cap', rfl, rfl, rfl, rfl, hn, hn', hl2, ht2, .inr ⟨g, g', cur, cur', fs, rfl, rfl, hh, hh', hlen, hlen', ⟨r3, fun i hi => ?_⟩, fun i hi => ?_, List.nodup_cons.2 ⟨?_, List.nodup_cons.2 ⟨hgm', r6.1⟩⟩, fun b hb => ?_⟩⟩
  · refine ptIn_keep _ _ _ _ _ _ _ _ _ (r4 i hi) (fun j hj => ?_) (Nat.le_refl _) fun _ _ => rfl
    rw [← htk]
    have : i * 6 + j < l.length * 6 := by omega
    simp [this]
  · have h5 := (s4 i hi).1
    have hc : ∀ j, j < 5 → cur'[i * 5 + j]? = cells'.toArray[i * 5 + j]? := by
      intro j hj
      rw [← htk']
      have : i * 5 + j < t.length * 5 := by omega
      simp [this]
    obtain ⟨g0, g1, g2, g3, g4⟩ := h5
    exact ⟨(hc 0 (by omega)).trans g0, (hc 1 (by omega)).trans g1, (hc 2 (by omega)).trans g2, (hc 3 (by omega)).trans g3, (hc 4 (by omega)).trans g4⟩
  · intro hm
    rcases List.mem_cons.1 hm with e | hm
    · exact hne e
    · exact hgm hm
  · rcases List.mem_cons.1 hb with rfl | hb
    · exact ⟨hg, r2 _ rfl⟩
    · rcases List.mem_cons.1 hb with rfl | hb
      · exact ⟨hg', s2 _ rfl⟩
      · exact ⟨(r5 b hb).1, (r5 b hb).2.1⟩
end
end

section
open Go.RowKit
end

end Go.Proofs.YtajlahjghapbkaaGreat
