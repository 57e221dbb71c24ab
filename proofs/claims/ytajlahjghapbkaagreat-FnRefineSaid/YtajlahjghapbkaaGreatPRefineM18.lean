/- Lemmas. -/
import Derived.Test.YtajlahjghapbkaaGreatRows
import Derived.Test.YtajlahjghapbkaaGreatPRefineM17
import Derived.Test.YtajlahjghapbkaaGreatPRefineM11
import Derived.Test.YtajlahjghapbkaaGreatPRefineM09
import Derived.Test.YtajlahjghapbkaaGreatPRefineM13
import Derived.Test.YtajlahjghapbkaaGreatPRefineM14
import Derived.Deep.Cut
namespace Go.Proofs.YtajlahjghapbkaaGreat
section
open Go.RowKit
theorem step_append_rowX {P : Program} {α : Type} [Inhabited α] {N : List Nat → Prop} (hN : AppN N) {size bytes : Nat} {El : World → Array Value → Nat → α → List Nat → Prop} (hk : KeepE size El) {TP t : TypeId} {z : Value}
    (hinfo : (P.info? TP).map (fun i => (i.zero, i.size, i.bytes)) = some (some z, size, bytes)) (hzs : z.cells.size = size) (hsz : 0 < size) (hby : bytes ≤ 4096) (ht : P.underlying t = some (.slice TP))
    {W : World} {news : Array Value} {p : α} {bs : List Nat} {lo hi : Nat} {l : List α} {ops : Array Oper} {o : Oper} {a : Act} {K : Act → World → Prop} {Q : Exit → Act → World → Prop} {F : Prop} (hgd : o.guard = none) (s x : Operand)
    (ho : o.op = .call { callee := .builtin .append, args := #[s, x], argTypes := #[t, t] }) (v : Value) (hs : a.eval s = v) (hrow : RowG N TP size El lo hi W v l)
    (hel : El W news 0 p bs) (hnl : news.size = size) (h1 : ∀ u ∈ news.toList, u.oneCell' = true) (hbs : ∀ b ∈ bs, hi ≤ b ∧ b < W.heap.size) (hNb : N bs) (hlh : lo ≤ hi)
    (c : Nat) (hx : a.eval x = .slice (some ⟨W.heap.size, 0, none⟩) 1 c) (hlen : l.length ≤ 1048576) (w0 : World) (hb : Bl w0 W) (h0 : w0.heap.size ≤ lo)
    (h : ∀ v' w', RowG N TP size El lo w'.heap.size w' v' (l ++ [p]) → Bl w0 w' → (v' = .slice none 0 0 → False) → (∀ g, g < W.heap.size → v.ownBlock ≠ some g → w'.heap[g]? = W.heap[g]? ∧ v'.ownBlock ≠ some g) → K (a.put o.dst v') w') : if Region.wanted o (yielded ops a.tmps) = true then Oper.wp P o a (W.alloc (.cells news TP)) K Q else F := by
  have hw : Region.wanted o (yielded ops a.tmps) = true := by simp [Region.wanted, hgd]
  rw [if_pos hw]
  obtain ⟨i0, hi0, hz0, hz1, hz2⟩ := info_parts hinfo
  obtain ⟨cells, fs, r1, r2, r3, r4, r5, r6, r7⟩ := hrow
  have ro := World.ownsRow.alloc r1 (.cells news TP)
  have hnew : (W.alloc (.cells news TP)).heap[W.heap.size]? = some (.cells news TP (0, 0)) := heap_alloc_new W _
  have hsz2 : (W.alloc (.cells news TP)).heap.size = W.heap.size + 1 := by simp
  have hm : (l.length + 1) * bytes ≤ 140737488355328 := Nat.le_trans (Nat.mul_le_mul (show l.length + 1 ≤ 1048577 by omega) hby) (by omega)
  obtain ⟨v', w', hrun, g1, g2, g3, g4⟩ := run_append_own_at (P := P) (W.alloc (.cells news TP)) lo t o.type TP i0 z size bytes ht hi0 hz0 hz1 hz2 hzs hsz v l.length cells ro ⟨W.heap.size, 0, none⟩ 1 c news.toList (by simpa using hnl) (World.news_of_block hnew) h1 (by unfold maxLen; omega) hm (by omega)
  unfold Oper.wp execOp
  simp only [ho, resolve, invoke, builtin, Sem.run_bind, Sem.run_pure, Result.andThen_ok, List.map_toArray, List.map_cons, List.map_nil, hs, hx, hrun]
  have hne : v' ≠ .slice none 0 0 := fun e => by have := (g3.1 e).2; omega
  have hws := g2.size
  have hold : ∀ b, b < W.heap.size → v.ownBlock ≠ some b → w'.heap[b]? = W.heap[b]? := fun b hb1 hb2 => (g2.block b (by omega) (fun e => hb2 e.symm)).trans (Below.heap_alloc W _ b hb1)
  have hown : ∀ b, v'.ownBlock = some b → (v.ownBlock = some b ∨ b = W.heap.size + 1) := by
    intro b e
    rcases g4 with g4 | g4
    · exact .inl (by rw [← g4]; exact e)
    · rw [g4] at e; injection e with e; right; omega
  have hvl : ∀ b, v'.ownBlock = some b → lo ≤ b ∧ b < w'.heap.size := fun b e => by have := World.ownsRow.lt g1 b e; exact this
  refine h v' w' ⟨cells ++ news.toList, fs ++ [bs], by simpa using g1, fun g e => (hvl g e).2, by simp [r3], fun i hi' => ?_, fun b hm' => ?_, ?_, Nat.le_refl _⟩ ((hb.alloc _).grown g2 (fun k e => by have := (World.ownsRow.lt r1 k e).1; omega)) hne (fun g hg hn => ⟨hold g hg hn, fun e => by rcases hown g e with e | e; exact hn e; omega⟩)
  · have hcl := r1.1
    rw [List.length_append, List.length_singleton] at hi'
    rcases Nat.lt_succ_iff_lt_or_eq.1 hi' with hi' | rfl
    · rw [pix_append_left hi', pix_append_left (by rw [r3]; exact hi')]
      refine hk _ _ _ _ _ _ _ _ (r4 i hi') (fun j hj => ?_) (by omega) fun b hb' => ?_
      · have : i * size + j < cells.length := by
          rw [hcl]
          have : (i + 1) * size ≤ l.length * size := Nat.mul_le_mul_right _ hi'
          rw [Nat.succ_mul] at this
          omega
        simp [List.getElem?_append_left this]
      · have := r5 b (mem_flatten_pix hb')
        exact hold b (by omega) this.2.2
    · rw [pix_append_last, pixs_last r3]
      refine hk _ _ _ _ _ _ _ _ hel (fun j hj => ?_) (by omega) fun b hb' => ?_
      · have : (cells ++ news.toList)[l.length * size + j]? = news.toList[j]? := by
          rw [List.getElem?_append_right (by rw [hcl]; omega), hcl]
          congr 1; omega
        simpa using this
      · have := hbs b hb'
        exact hold b this.2 fun e => by have := r2 b e; omega
  · rw [List.flatten_append, List.mem_append] at hm'
    rcases hm' with hm' | hm'
    · have := r5 b hm'
      refine ⟨this.1, by omega, fun e => ?_⟩
      rcases hown b e with e | e
      · exact this.2.2 e
      · omega
    · have := hbs b (by simpa using hm')
      refine ⟨by omega, by omega, fun e => ?_⟩
      rcases hown b e with e | e
      · have := r2 b e; omega
      · omega
  · rw [List.flatten_append]
    refine hN.2 _ _ r6 (by simpa using hNb) fun x hx' y hy e => ?_
    have a1 := r5 x hx'
    have a2 := hbs y (by simpa using hy)
    omega
theorem step_append_ptX {N : List Nat → Prop} (hN : AppN N) {W : World} {s : Bool} {A : Option Addr} {n c : Nat} {B : Option Addr} {m d : Nat} {t : Bool} {C : Option Addr} {i e : Nat} {D : Option Addr} {j f : Nat} {p : PtD} {lo hi b0 : Nat} {l : List PtD} {ops : Array Oper} {o : Oper} {a : Act} {K : Act → World → Prop} {Q : Exit → Act → World → Prop} {F : Prop} (hgd : o.guard = none) (s1 x1 : Operand)
    (ho : o.op = .call { callee := .builtin .append, args := #[s1, x1], argTypes := #[23, 23] }) (v : Value) (hs : a.eval s1 = v) (hrow : RowP N lo hi W v l)
    (hpt : OwPN N 3 b0 W s A n c B m d t C i e D j f p) (hb0 : hi ≤ b0) (hlh : lo ≤ hi) (c1 : Nat) (hx : a.eval x1 = .slice (some ⟨W.heap.size, 0, none⟩) 1 c1) (hlen : l.length ≤ 1048576) (w0 : World) (hb : Bl w0 W) (h0 : w0.heap.size ≤ lo)
    (h : ∀ v' w', RowP N lo w'.heap.size w' v' (l ++ [p]) → Bl w0 w' → (∀ g, g < W.heap.size → v.ownBlock ≠ some g → w'.heap[g]? = W.heap[g]? ∧ v'.ownBlock ≠ some g) → K (a.put o.dst v') w') : if Region.wanted o (yielded ops a.tmps) = true then Oper.wp Tryz.prog o a (W.alloc (.cells #[.bool s, .slice A n c, .slice B m d, .bool t, .slice C i e, .slice D j f] 31)) K Q else F := by
  obtain ⟨b1, b2, f1, f2, f3, f4⟩ := hpt
  refine step_append_rowX hN (ptIn_keep 3) info_pt (by rfl) (by omega) (by omega) Tryz.underlying23 hgd s1 x1 ho v hs hrow (p := p) (bs := b1 ++ b2) ⟨_, _, _, _, _, _, _, _, _, _, _, _, _, _, b1, b2, ⟨rfl, rfl, rfl, rfl, rfl, rfl⟩, f1, f2, rfl⟩ rfl (by simp [Value.oneCell']) (fun b hm => ⟨Nat.le_trans hb0 (f3 b hm).1, (f3 b hm).2⟩) f4 hlh c1 hx hlen w0 hb h0 fun v' w' g1 g2 _ g4 => h v' w' g1 g2 g4

def TrsE (_ : World) (cs : Array Value) (i : Nat) (t : TriD) (bs : List Nat) : Prop := TrIn cs i t ∧ bs = []
theorem trIn_keep : KeepE 5 TrsE := by
  intro w W cs cs' i i' x bs h hc hs hb
  obtain ⟨⟨h0, h1, h2, h3, h4⟩, e⟩ := h
  exact ⟨⟨(hc 0 (by omega)).trans h0, (hc 1 (by omega)).trans h1, (hc 2 (by omega)).trans h2, (hc 3 (by omega)).trans h3, (hc 4 (by omega)).trans h4⟩, e⟩
abbrev RowT (lo hi : Nat) (w : World) (v : Value) (l : List TriD) : Prop := RowG AnyN 73 5 TrsE lo hi w v l
theorem info_tri' : (Tryz.prog.info? 73).map (fun i => (i.zero, i.size, i.bytes)) = some (some (.agg #[.int .i64 0, .int .i64 0, .int .i64 0, .int .i64 0, .int .i64 0]), 5, 40) := by kernel_rfl
/-- A row's block differs from all blocks from hi on. -/
theorem RowG.ne {α : Type} [Inhabited α] {N : List Nat → Prop} {TP : TypeId} {size lo hi : Nat} {El : World → Array Value → Nat → α → List Nat → Prop} {w : World} {v : Value} {l : List α} (h : RowG N TP size El lo hi w v l) {g : Nat} (hg : hi ≤ g) : v.ownBlock ≠ Option.some g := by
  obtain ⟨_, _, _, h2, _⟩ := h
  intro e
  have := h2 g e
  omega
theorem Blk.oth {g : Nat} {T : TypeId} {cs : Array Value} {v v' : Value} {W w' : World} (h : Blk W g T cs) (ho : ∀ g, g < W.heap.size → v.ownBlock ≠ Option.some g → w'.heap[g]? = W.heap[g]? ∧ v'.ownBlock ≠ Option.some g) (hv : v.ownBlock ≠ Option.some g) : Blk w' g T cs :=
  (ho g h.lt hv).1.trans h
end

section
open Go.RowKit

set_option maxHeartbeats 1600000 in
theorem l02Trim_any (w : World) {A : Option Addr} {n c : Nat} {l : List Nat} (h : RdI w A n c (ints l)) (hd : Digs l) :
    Calls Tryz.prog 257 #[.slice A n c] w fun e w' => ∃ m, e = .returned (.slice A m c) ∧ m ≤ n ∧ l.take m = dig (val l) ∧ ∃ q, w' = w.drewN q := by
  have hn := h.small
  have hcap := h.cap
  have hl := Lib.hid h.lenN
  go_enter Tryz.func257, Tryz.ntmps257
  go_wp2_with fail
  go_loopw [3] (fun v wr => ∃ m : Nat, v = .int .i64 (m : Int) ∧ m ≤ n ∧ Hid (∀ j, m ≤ j → dx l j = 0) ∧ ∃ q, wr = w.drewN q) (fun v _ => (intOf v).toNat)
  case atStart => exact ⟨n, rfl, Nat.le_refl _, fun j hj => dx_beyond (by rw [hl.out]; exact hj), 0, rfl⟩
  case round =>
    obtain ⟨m, rfl, hm, hz, q, rfl⟩ := hrel
    have hmc : m ≤ c := by omega
    have hmi : (m : Int) ≤ (c : Int) := by omega
    rcases m with _ | m
    · have hfin := Lib.hid (trim_dig hd (Nat.zero_le _) hz.out (.inl rfl))
      go_wp2_with fail
      go_ret
      exact ⟨0, rfl, Nat.zero_le _, hfin.out, (by first | exact ⟨_, rfl⟩ | exact ⟨0, rfl⟩ | exact q_drewN ⟨_, rfl⟩ | exact q_drewN (q_drewN ⟨_, rfl⟩))⟩
    · obtain ⟨ad, rfl, hlt, hc⟩ := h.atN (k := m) (by omega)
      have hki : ((m + 1 : Nat) : Int) - 1 = (m : Int) := by omega
      have hpos : (0 : Int) < ((m + 1 : Nat) : Int) := by omega
      have hmn : (m : Int) < (n : Int) := by omega
      by_cases h0 : dx l m = 0
      · have hz' := Lib.hid (zero_step hz.out h0)
        rw [h0] at hc
        have h0' := Lib.hid h0; clear h0
        go_wp2_with fail
        go_roundw
        case rel => exact ⟨m, rfl, by omega, hz'.out, (by first | exact ⟨_, rfl⟩ | exact ⟨0, rfl⟩ | exact q_drewN ⟨_, rfl⟩ | exact q_drewN (q_drewN ⟨_, rfl⟩))⟩
        case measure => simp [intOf]
      · have hfin := Lib.hid (trim_dig hd (by rw [hl.out]; exact hm) hz.out (.inr h0))
        have hbeq : (((dx l m : Nat) : Int) == 0) = false := by simp; omega
        clear h0
        go_wp2_with fail
        go_ret
        exact ⟨m + 1, rfl, hm, hfin.out, (by first | exact ⟨_, rfl⟩ | exact ⟨0, rfl⟩ | exact q_drewN ⟨_, rfl⟩ | exact q_drewN (q_drewN ⟨_, rfl⟩))⟩
set_option maxHeartbeats 1600000 in
theorem l02Cap_any (w : World) {A : Option Addr} {n c : Nat} {l : List Nat} (h : RdI w A n c (ints l)) (hd : Digs l) (h60 : (dig (val l)).length ≤ 60) :
    Calls Tryz.prog 258 #[.slice A n c] w fun e w' => ∃ m, e = .returned (.slice A m c) ∧ m ≤ n ∧ l.take m = dig (val l) ∧ ∃ q, w' = w.drewN q := by
  have hl := Lib.hid h.lenN
  go_enter Tryz.func258, Tryz.ntmps258
  go_wp2_with fail
  refine (l02Trim_any _ h hd).mono ?_
  rintro e w1 ⟨m, rfl, hm, ht, q, rfl⟩
  have hm60 : m ≤ 60 := by
    have := congrArg List.length ht
    rw [List.length_take, hl.out] at this
    omega
  have hi : ¬ (60 : Int) < (m : Int) := by omega
  have ht := Lib.hid ht; rename_i h_; clear h_
  go_wp2_with fail
  go_ret
  exact ⟨m, rfl, hm, ht.out, q, rfl⟩
theorem l02Cap_num (w : World) {A : Option Addr} {n c N : Nat} (h : IsN w A n c N) (h60 : n ≤ 60) :
    Calls Tryz.prog 258 #[.slice A n c] w fun e w' => e = .returned (.slice A n c) ∧ ∃ q, w' = w.drewN q := by
  refine (l02Cap_any w h (digs_dig N) (by rw [val_dig, h.lenN]; exact h60)).mono ?_
  rintro e w1 ⟨m, rfl, hm, ht, hq⟩
  have := congrArg List.length ht
  rw [List.length_take, val_dig, h.lenN] at this
  obtain rfl : m = n := by omega
  exact ⟨rfl, hq⟩

set_option maxHeartbeats 1600000 in
theorem sNatOf_any (w : World) (N : Nat) (hN : N < 9223372036854775808) :
    Calls Tryz.prog 233 #[.int .i64 (N : Int)] w fun e w' => ∃ A n c, e = .returned (.slice A n c) ∧ OwI 3 w.heap.size w' A n c (ints (dig N)) ∧ Bl w w' := by
  go_enter Tryz.func233, Tryz.ntmps233
  go_wp2_with fail
  go_loopw [0, 3] (fun r v wr => ∃ (R : Nat) (d : List Nat), r = .int .i64 (R : Int) ∧ R ≤ N ∧ Hid (d ++ dig R = dig N) ∧ OwL 3 w.heap.size wr v (ints d) ∧ Bl w wr) (fun r _ _ => (intOf r).toNat)
  case atStart => exact ⟨N, [], rfl, Nat.le_refl _, rfl, OwL.empty w (Nat.le_refl _) (by simp), (Bl.refl w).alloc _⟩
  case round =>
    obtain ⟨R, d, rfl, hR, hd, hown, hbw⟩ := hrel
    by_cases h0 : 0 < R
    · have hnext := Lib.hid (natOf_step hd.out h0)
      have hlen : (ints d).length ≤ 1099511627776 := by
        have := congrArg List.length hd.out
        have h3 : (dig N).length ≤ 3 := dig_len_le.2 (by rw [Bs_eq]; omega)
        rw [List.length_append] at this
        rw [ints_len]; omega
      have hpos : (0 : Int) < (R : Int) := by omega
      have hdiv := Nat.div_lt_self h0 (show 1 < 1000000000 by omega)
      have hRi : (R : Int) ≤ 9223372036854775807 := by omega
      go_wp2_with (at_builtin; go_must (refine wpList_append_int (w0 := w) info_int Tryz.underlying25 rfl (.tmp 7) (.tmp 10) rfl _ (ints d) rfl hown hbw 1 rfl hlen ?_); intro v' w1 hown1 hbw1)
      go_roundw
      case rel => exact ⟨R / Bs, d ++ [R % Bs], by rw [Bs_eq]; go_num, Nat.le_trans (Nat.div_le_self _ _) hR, hnext.out, by rw [ints_append, Bs_eq]; exact hown1, hbw1⟩
      case measure => simp [intOf]; omega
    · obtain rfl : R = 0 := by omega
      have hfin := Lib.hid (show d = dig N by have := hd.out; rwa [dig_zero, List.append_nil] at this)
      have hlen : (ints d).length ≤ 9223372036854775807 := by
        have h3 : (dig N).length ≤ 3 := dig_len_le.2 (by rw [Bs_eq]; omega)
        rw [ints_len, hfin.out]; omega
      obtain ⟨A, c, hv, ho⟩ := hown.own hlen
      have hv := Lib.hid hv; rename_i hvo; clear hvo
      go_wp2_with fail
      go_ret
      exact ⟨A, _, c, congrArg Ending.returned hv.out, by rw [← hfin.out]; exact ho, hbw⟩

theorem OwI.cutN {T : TypeId} {b0 : Nat} {w : World} {A : Option Addr} {n c m N : Nat} {l : List Nat} (h : OwI T b0 w A n c (ints l)) (hm : m ≤ n) (ht : l.take m = dig N) : OwI T b0 w A m c (ints (dig N)) := by
  refine ⟨by rw [← ht]; exact h.1.cut hm, ?_⟩
  rcases h.2 with h0 | ⟨g, cs, e, hg, hh, hsz⟩
  · exact .inl (by omega)
  · exact .inr ⟨g, cs, e, hg, hh, by omega⟩
/-- What holds behind k rounds of a subtraction that collects. -/
structure SubA (N M k br : Nat) (o : List Nat) : Prop where
  len : o.length = k
  digs : Digs o
  small : br ≤ 1
  diff : val o + vf (dx (dig M)) k = vf (dx (dig N)) k + br * Bs ^ k
theorem SubA.step {N M k br d br' : Nat} {o : List Nat} (h : SubA N M k br o) (hd : d < Bs) (hb : br' ≤ 1) (he : d + br + dx (dig M) k = dx (dig N) k + br' * Bs) : SubA N M (k + 1) br' (o ++ [d]) := by
  refine ⟨by simp [h.len], digs_snoc h.digs hd, hb, ?_⟩
  have h2 := h.diff
  simp only [vf]
  rw [val_snoc, h.len, Nat.pow_succ]
  have h3 : (d + br + dx (dig M) k) * Bs ^ k = (dx (dig N) k + br' * Bs) * Bs ^ k := by rw [he]
  grind
theorem SubA.stop {N M n br : Nat} {o : List Nat} (h : SubA N M n br o) (hn : (dig N).length = n) (hm : (dig M).length ≤ n) (hle : M ≤ N) : val o = N - M := by
  have h1 := h.diff
  rw [val_vf hm, val_vf (by omega), val_dig, val_dig] at h1
  have h2 := val_lt h.digs
  rw [h.len] at h2
  have h3 := h.small
  rcases Nat.eq_zero_or_pos br with h0 | h0
  · subst h0; omega
  · obtain rfl : br = 1 := by omega
    omega

theorem run_append_nil' {P : Program} (w : World) (base : Nat) {t ty e : TypeId} {i : TypeInfo} {size : Nat} (ht : P.underlying t = some (.slice e)) (hi : P.info? e = some i)
    {v : Value} {n : Nat} {xs : List Value} (hown : w.ownsRow base e size v n xs) (c : Nat) : (Builtin.append_ #[t, t] ty #[v, .slice none 0 c]).run P w = .ok v w := by
  rcases hown.2 with ⟨rfl, rfl⟩ | ⟨g, cap, cur, rfl, _, _, hnc, _⟩
  · simp [Builtin.append_, run_underlying ht, sizeOf, typeInfo, hi, Builtin.lenOf, Builtin.firstCells]
  · simp [Builtin.append_, run_underlying ht, sizeOf, typeInfo, hi, Builtin.lenOf, Builtin.firstCells, hnc, storeCells]
/-- append of a whole slice that reads as ys, nil or not. -/
theorem wpList_append_x {P : Program} {E t : TypeId} (hinfo : (P.info? E).map (fun i => (i.zero, i.size, i.bytes)) = some (some (.int .i64 0), 1, 8)) (ht : P.underlying t = some (.slice E))
    {w0 W : World} {ops : Array Oper} {rest : List Oper} {o : Oper} {a : Act} {Q : Exit → Act → World → Prop} (hgd : o.guard = none) (s x : Operand)
    (ho : o.op = .call { callee := .builtin .append, args := #[s, x], argTypes := #[t, t] }) (v : Value) (l : List Int) (hs : a.eval s = v) (hown : OwL E w0.heap.size W v l) (hb : Bl w0 W)
    (A : Option Addr) (m c : Nat) (hx : a.eval x = .slice A m c) (ys : List Int) (hr : RdI W A m c ys) (hlen : l.length ≤ 1099511627776) (hm : m ≤ 1099511627776)
    (h : ∀ v' w', OwL E w0.heap.size w' v' (l ++ ys) → Bl w0 w' → wpList P ops Q rest (a.put o.dst v') w') : wpList P ops Q (o :: rest) a W := by
  rcases A with _ | ad
  · have hm0 : m = 0 := by
      rcases Nat.eq_zero_or_pos m with h0 | h0
      · exact h0
      · obtain ⟨_, e, _⟩ := hr.at_ h0
        cases e
    subst hm0
    have hy : ys = [] := List.length_eq_zero_iff.1 hr.len
    subst hy
    obtain ⟨i0, hi, hz0, hz1, hz2⟩ := info_parts hinfo
    refine wpList_plain hgd fun K hK => ?_
    have hrun := run_append_nil' (P := P) W w0.heap.size (ty := o.type) ht hi hown c
    unfold Oper.wp
    simp [execOp, ho, resolve, invoke, builtin, hs, hx, hrun, Result.andThen]
    exact hK _ _ (h v W (by rw [List.append_nil]; exact hown) hb)
  · exact wpList_append_all hinfo ht hgd s x ho v l hs hown hb ad m c hx ys hr hlen hm h
theorem OwL.one {E : TypeId} {base : Nat} (w : World) (x : Int) (hb : base ≤ w.heap.size) : OwL E base (w.alloc (.cells #[.int .i64 x] E)) (.slice (some ⟨w.heap.size, 0, none⟩) 1 1) [x] :=
  World.ownsRow_lit w #[.int .i64 x] 1 hb (by decide) rfl

theorem dx_dig (N k : Nat) : dx (dig N) k = N / Bs ^ k % Bs := by
  induction k generalizing N with
  | zero =>
    rw [Nat.pow_zero, Nat.div_one]
    by_cases h : N = 0
    · subst h; rw [dig_zero]; rfl
    · rw [dig_pos h, dx_cons_zero]
  | succ k ih =>
    by_cases h : N = 0
    · subst h; rw [dig_zero, Nat.zero_div]; rfl
    · rw [dig_pos h, dx_cons_succ, ih, Nat.div_div_eq_div_mul, Nat.pow_succ, Nat.mul_comm]
end

section
open Go.RowKit

/-- What holds when the limbs from place k on have been divided. -/
structure DvRel (N V n k R : Nat) (o : List Nat) : Prop where
  len : o.length = n
  digs : Digs o
  zero : ∀ j, j < k → dx o j = 0
  quo : val o = N / Bs ^ k / V * Bs ^ k
  rest : R = N / Bs ^ k % V
theorem DvRel.start {N V n : Nat} (h : (dig N).length = n) : DvRel N V n n 0 (List.replicate n 0) := by
  have h1 : N / Bs ^ n = 0 := Nat.div_eq_of_lt (dig_len_le.1 (Nat.le_of_eq h))
  exact ⟨by simp, digs_replicate _, fun j _ => dx_replicate _ _, by rw [val_replicate, h1]; simp, by rw [h1]; simp⟩
theorem DvRel.digit {N V n k R : Nat} {o : List Nat} (h : DvRel N V n (k + 1) R o) (hV : 0 < V) : dx (dig N) k + Bs * R < Bs * V ∧ (dx (dig N) k + Bs * R) / V < Bs := by
  have h1 := dx_lt (digs_dig N) k
  have h2 : R < V := by rw [h.rest]; exact Nat.mod_lt _ hV
  have h3 : dx (dig N) k + Bs * R < Bs * V := by
    have : Bs * (R + 1) ≤ Bs * V := Nat.mul_le_mul_left _ h2
    rw [Nat.mul_add] at this
    omega
  exact ⟨h3, (Nat.div_lt_iff_lt_mul hV).2 h3⟩
theorem DvRel.step {N V n k R : Nat} {o : List Nat} (h : DvRel N V n (k + 1) R o) (hk : k < n) (hV : 0 < V) : DvRel N V n k ((dx (dig N) k + Bs * R) % V) (o.set k ((dx (dig N) k + Bs * R) / V)) := by
  have hi : k < o.length := by rw [h.len]; exact hk
  have hd := (h.digit hV).2
  have hT : N / Bs ^ k = dx (dig N) k + Bs * (N / Bs ^ (k + 1)) := by
    rw [dx_dig, Nat.pow_succ, ← Nat.div_div_eq_div_mul]
    exact (Nat.mod_add_div _ _).symm
  have hS := Nat.mod_add_div (N / Bs ^ (k + 1)) V
  rw [← h.rest] at hS
  have hT2 : N / Bs ^ k = (dx (dig N) k + Bs * R) + V * (Bs * (N / Bs ^ (k + 1) / V)) := by
    rw [hT]
    conv => lhs; rw [← hS]
    grind
  refine ⟨by rw [List.length_set]; exact h.len, digs_set h.digs hd _, fun j hj => ?_, ?_, ?_⟩
  · rw [dx_set hi, if_neg (by omega)]
    exact h.zero j (by omega)
  · have h0 := val_set hi ((dx (dig N) k + Bs * R) / V)
    rw [h.zero k (by omega), Nat.zero_mul, Nat.add_zero, h.quo] at h0
    rw [h0, hT2, Nat.add_mul_div_left _ _ hV, Nat.pow_succ]
    grind
  · rw [hT2, Nat.add_mul_mod_self_left]
theorem DvRel.skip {N V n k R : Nat} {o : List Nat} (h : DvRel N V n (k + 1) R o) (hk : k < n) (hV : 0 < V) (hlt : dx (dig N) k + Bs * R < V) : DvRel N V n k (dx (dig N) k + Bs * R) o := by
  have := h.step hk hV
  rw [Nat.div_eq_of_lt hlt, Nat.mod_eq_of_lt hlt] at this
  have e : o.set k 0 = o := by
    apply List.ext_getElem (by simp)
    intro i h1 h2
    rw [List.getElem_set]
    split
    · rename_i he
      subst he
      have := h.zero k (by omega)
      unfold dx at this
      rw [List.getD_eq_getElem?_getD, List.getElem?_eq_getElem h2] at this
      exact this.symm
    · rfl
  rwa [e] at this
theorem DvRel.stop {N V n R : Nat} {o : List Nat} (h : DvRel N V n 0 R o) : val o = N / V ∧ R = N % V := by
  have h1 := h.quo
  have h2 := h.rest
  simp only [Nat.pow_zero, Nat.div_one, Nat.mul_one] at h1 h2
  exact ⟨h1, h2⟩
end

section
open Go.RowKit

set_option maxHeartbeats 4000000 in
theorem l03Make_any (w : World) (s : Bool) {A : Option Addr} {n c N : Nat} (h : IsN w A n c N) (h60 : n ≤ 60) :
    Calls Tryz.prog 231 #[.bool s, .slice A n c] w fun e w' => ∃ s' A' n' c', e = .returned (.agg #[.bool s', .slice A' n' c']) ∧ Hid (s' = (s && decide (0 < N))) ∧ OwI 3 w.heap.size w' A' n' c' (ints (dig N)) ∧ Bl w w' := by
  have hl := h.lenN
  have hl1 : Hid ((([] : List Int) ++ ints (dig N)).length = n) := by have := RdI.len h; unfold Hid; simpa using this
  have hp := dig_len_pos (n := N)
  rw [hl] at hp
  clear hl
  rcases s with _ | _
  · have hs := Lib.hid (show false = (false && decide (0 < N)) from rfl)
    clear hp
    go_enter Tryz.func231, Tryz.ntmps231
    go_wp2_with fail
    refine (l02Cap_num _ (RdI.alloc h _) h60).mono ?_
    rintro e w1 ⟨rfl, q, rfl⟩
    have hbW : Bl w ((w.alloc (.cells #[.bool false, .slice none 0 0] 27)).drewN q) := slc
    have hr : Wk 2 27 w.heap.size ((w.alloc (.cells #[.bool false, .slice none 0 0] 27)).drewN q) := bts
    generalize (w.alloc (.cells #[.bool false, .slice none 0 0] 27)).drewN q = W at *
    have hz := hr.lt
    go_wp2_with (at_builtin; go_must (refine wpList_append_x (w0 := W) info_int Tryz.underlying25 rfl (.tmp 14) (.tmp 15) rfl _ [] rfl (OwL.empty W (Nat.le_refl _) (by simp)) ((Bl.refl W).alloc _) A n c rfl (ints (dig N)) (RdI.alloc (RdI.bl h hbW) _) (by simp) (by omega) ?_); intro v1 w2 hown2 hb2; obtain ⟨A1, c1, hv1, ho1⟩ := hown2.own (by rw [hl1.out]; omega); rw [hl1.out] at hv1 ho1; subst hv1; obtain ⟨⟨x0, x1⟩, hf0, hf1⟩ := (hr.bl hb2).out2)
    have hg := (hr.bl hb2).lt
    have ho1 : OwI 3 (w.heap.size + 1) w2 A1 n c1 (ints (dig N)) := ho1.mono hz
    exact bodyPost_ret (v := .agg #[.bool false, .slice A1 n c1]) (by simp [results, Tryz.results231, go_sem, x0, x1]) rfl ⟨_, _, _, _, rfl, hs, ((ho1.far (by simp) _).far (by simp) _).mono (by omega), slc⟩
  · rcases Nat.eq_zero_or_pos n with h0 | h0
    · have hN : N = 0 := by omega
      have hs := Lib.hid (show false = (true && decide (0 < N)) by simp [hN])
      subst h0
      clear hp hN
      go_enter Tryz.func231, Tryz.ntmps231
      go_wp2_with fail
      refine (l02Cap_num _ (RdI.alloc h _) h60).mono ?_
      rintro e w1 ⟨rfl, q, rfl⟩
      have hbW : Bl w ((w.alloc (.cells #[.bool false, .slice none 0 0] 27)).drewN q) := slc
      have hr : Wk 2 27 w.heap.size ((w.alloc (.cells #[.bool false, .slice none 0 0] 27)).drewN q) := bts
      generalize (w.alloc (.cells #[.bool false, .slice none 0 0] 27)).drewN q = W at *
      have hz := hr.lt
      go_wp2_with (at_builtin; go_must (refine wpList_append_x (w0 := W) info_int Tryz.underlying25 rfl (.tmp 14) (.tmp 15) rfl _ [] rfl (OwL.empty W (Nat.le_refl _) (by simp)) ((Bl.refl W).alloc _) A 0 c rfl (ints (dig N)) (RdI.alloc (RdI.bl h hbW) _) (by simp) (by omega) ?_); intro v1 w2 hown2 hb2; obtain ⟨A1, c1, hv1, ho1⟩ := hown2.own (by rw [hl1.out]; omega); rw [hl1.out] at hv1 ho1; subst hv1; obtain ⟨⟨x0, x1⟩, hf0, hf1⟩ := (hr.bl hb2).out2)
      have hg := (hr.bl hb2).lt
      have ho1 : OwI 3 (w.heap.size + 1) w2 A1 0 c1 (ints (dig N)) := ho1.mono hz
      exact bodyPost_ret (v := .agg #[.bool false, .slice A1 0 c1]) (by simp [results, Tryz.results231, go_sem, x0, x1]) rfl ⟨_, _, _, _, rfl, hs, ((ho1.far (by simp) _).far (by simp) _).mono (by omega), slc⟩
    · have hs := Lib.hid (show true = (true && decide (0 < N)) by simp; omega)
      have h0i : 0 < (n : Int) := by omega
      clear hp
      go_enter Tryz.func231, Tryz.ntmps231
      go_wp2_with fail
      refine (l02Cap_num _ (RdI.alloc h _) h60).mono ?_
      rintro e w1 ⟨rfl, q, rfl⟩
      have hbW : Bl w ((w.alloc (.cells #[.bool false, .slice none 0 0] 27)).drewN q) := slc
      have hr : Wk 2 27 w.heap.size ((w.alloc (.cells #[.bool false, .slice none 0 0] 27)).drewN q) := bts
      generalize (w.alloc (.cells #[.bool false, .slice none 0 0] 27)).drewN q = W at *
      have hz := hr.lt
      go_wp2_with (at_builtin; go_must (refine wpList_append_x (w0 := W) info_int Tryz.underlying25 rfl (.tmp 14) (.tmp 15) rfl _ [] rfl (OwL.empty W (Nat.le_refl _) (by simp)) ((Bl.refl W).alloc _) A n c rfl (ints (dig N)) (RdI.alloc (RdI.bl h hbW) _) (by simp) (by omega) ?_); intro v1 w2 hown2 hb2; obtain ⟨A1, c1, hv1, ho1⟩ := hown2.own (by rw [hl1.out]; omega); rw [hl1.out] at hv1 ho1; subst hv1; obtain ⟨⟨x0, x1⟩, hf0, hf1⟩ := (hr.bl hb2).out2)
      have hg := (hr.bl hb2).lt
      have ho1 : OwI 3 (w.heap.size + 1) w2 A1 n c1 (ints (dig N)) := ho1.mono hz
      exact bodyPost_ret (v := .agg #[.bool true, .slice A1 n c1]) (by simp [results, Tryz.results231, go_sem, x0, x1]) rfl ⟨_, _, _, _, rfl, hs, ((ho1.far (by simp) _).far (by simp) _).mono (by omega), slc⟩
end

section
open Go.RowKit

/-- The signed number of a sign and a magnitude. -/
def sx (s : Bool) (N : Nat) : Int := if s = true then -(N : Int) else (N : Int)
theorem sx_abs (s : Bool) (N : Nat) : (sx s N).natAbs = N := by unfold sx; split <;> omega
theorem sx_neg (s : Bool) (N : Nat) : decide (sx s N < 0) = (s && decide (0 < N)) := by
  unfold sx
  rcases s with _ | _
  · simp
  · simp
def lowS (s : Bool) (N D : Nat) : RatD := if D = 0 then zR else ofFrac (sx s N) D
end

section
open Go.RowKit

section
variable (w : World) {s : Bool} {A : Option Addr} {n c : Nat} {B : Option Addr} {m d : Nat} {r : RatD}
end

theorem OwI.grown {T : TypeId} {b0 : Nat} {w w' : World} {A : Option Addr} {n c : Nat} {l : List Int} {row : Option Nat} (h : OwI T b0 w A n c l) (hg : w.grownBy w' row) (hr : ∀ k, row = some k → k < b0) : OwI T b0 w' A n c l := by
  obtain ⟨bs, h1, hf⟩ := FtI.of_own h
  have h2 : FtI T w' A n c l bs := h1.keep hg.size (fun b hb => hg.block b (hf.2 b hb).2 (by intro e; have := hr b e.symm; have := (hf.2 b hb).1; omega))
  refine ⟨h2.1, ?_⟩
  rcases h2.2 with ⟨h0, _⟩ | ⟨g, cs, _, e, hh, hn, e2⟩
  · exact .inl h0
  · exact .inr ⟨g, cs, e, (hf.2 g (by rw [e2]; simp)).1, hh, hn⟩
end

section
open Go.RowKit
end

section
open Go.RowKit

theorem lowS_self {x : Int} {s : Bool} {D : Nat} (hD : 0 < D) (hs : s = decide (x < 0)) : lowS s x.natAbs D = ofFrac x D := by
  unfold lowS
  rw [if_neg (by omega)]
  congr 1
  unfold sx
  rw [hs]
  by_cases h : x < 0
  · simp [h]; omega
  · simp [h]; omega
end

section
open Go.RowKit
end

section
open Go.RowKit
end

section
open Go.RowKit
end

end Go.Proofs.YtajlahjghapbkaaGreat
