/- Lemmas. -/
import Derived.Test.YtjaapemopbbfaaaGreatDoorRows
import Derived.Test.YtjaapemopbbfaaaGreatDoorPParsePointM23
import Derived.Laws.AppendOwn
import Derived.Test.YtjaapemopbbfaaaGreatDoorPParsePointM16
import Derived.ProofKit
import Derived.HandedShaped
import Derived.LaidMore
import Derived.OpenShut
import Derived.Stop.Joined
import Derived.Shelf.Vars
import Derived.Lib.LaidTab
namespace Go.Proofs.YtjaapemopbbfaaaGreatDoor
section
open Go.RowKit

/-- A slice of strings of one's own, while it grows. -/
def OwS (base : Nat) (w : World) (v : Value) (l : List (List UInt8)) : Prop := w.ownsRow base 9 1 v l.length (l.map fun x => Value.string (sb x))
theorem info_str : (Tryz.prog.info? 9).map (fun i => (i.zero, i.size, i.bytes)) = some (some (.string ByteArray.empty), 1, 16) := by kernel_rfl
theorem OwS.alloc {base : Nat} {w : World} {v : Value} {l : List (List UInt8)} (h : OwS base w v l) (o : Obj) : OwS base (w.alloc o) v l := World.ownsRow.alloc h o
theorem OwS.drewN {base : Nat} {w : World} {v : Value} {l : List (List UInt8)} (h : OwS base w v l) (q : Nat) : OwS base (w.drewN q) v l := h
theorem OwS.blockLe {base : Nat} {w : World} {v : Value} {l : List (List UInt8)} (h : OwS base w v l) : ∀ k, v.ownBlock = some k → base ≤ k := fun k hk => (World.ownsRow.lt h k hk).1
theorem wpList_append_str {P : Program} {t : TypeId} (hinfo : (P.info? 9).map (fun i => (i.zero, i.size, i.bytes)) = some (some (.string ByteArray.empty), 1, 16)) (ht : P.underlying t = some (.slice 9))
    {w0 W : World} {x0 : List UInt8} {ops : Array Oper} {rest : List Oper} {o : Oper} {a : Act} {Q : Exit → Act → World → Prop} (hgd : o.guard = none) (s x : Operand)
    (ho : o.op = .call { callee := .builtin .append, args := #[s, x], argTypes := #[t, t] }) (v : Value) (l : List (List UInt8)) (hs : a.eval s = v) (hown : OwS w0.heap.size W v l) (hb : Bl w0 W)
    (c : Nat) (hx : a.eval x = .slice (some ⟨W.heap.size, 0, none⟩) 1 c) (hlen : l.length ≤ 1099511627776) (u0 : ByteArray) (hu0 : u0 = sb x0)
    (h : ∀ v' w', OwS w0.heap.size w' v' (l ++ [x0]) → Bl w0 w' → wpList P ops Q rest (a.put o.dst v') w') : wpList P ops Q (o :: rest) a (W.alloc (.cells #[.string u0] 9)) := by
  subst hu0
  obtain ⟨i0, hi, hz0, hz1, hz2⟩ := info_parts hinfo
  have ho' := hown.alloc (.cells #[.string (sb x0)] 9)
  have hbs : w0.heap.size ≤ (W.alloc (.cells #[.string (sb x0)] 9)).heap.size := by have := hb.size; simp; omega
  refine wpList_append_own _ hgd s x t ho w0.heap.size 9 i0 (.string ByteArray.empty) 1 16 ht hi hz0 hz1 hz2 rfl (by omega) v l.length (l.map fun x => Value.string (sb x)) hs ho' ⟨W.heap.size, 0, none⟩ 1 c [.string (sb x0)] hx rfl (cell_one_new _ _ _) (by intro u hu; simp at hu; subst hu; rfl) (by simp only [maxLen]; omega) (by omega) hbs ?_
  intro v' w' h1 h2 _
  refine h v' w' ?_ ((hb.alloc _).grown h2 ho'.blockLe)
  unfold OwS
  simpa using h1
/-- A slice that reads as strings. -/
def RdSt (w : World) (A : Option Addr) (n : Nat) (l : List (List UInt8)) : Prop := l.length = n ∧ ∀ k, k < n → ∃ ad, A = some ad ∧ ad.block < w.heap.size ∧ w.cell? (ad.add k) = some (.string (sb (l.getD k [])))
theorem OwS.rd {base : Nat} {w : World} {v : Value} {l : List (List UInt8)} (h : OwS base w v l) : ∃ A c, v = .slice A l.length c ∧ RdSt w A l.length l := by
  rcases h.2 with ⟨rfl, h0⟩ | ⟨g, cap, cur, rfl, hg, hh, hn, hm, hs, ht⟩
  · exact ⟨none, 0, by rw [h0], rfl, fun k hk => by omega⟩
  · refine ⟨some ⟨g, 0, none⟩, cap, rfl, rfl, fun k hk => ⟨_, rfl, heap_lt hh, ?_⟩⟩
    exact World.ownsRow.cells h (g := g) rfl k (.string (sb (l.getD k []))) (by simp [List.getD_eq_getElem?_getD, hk])
theorem RdSt.bl {w W : World} {A : Option Addr} {n : Nat} {l : List (List UInt8)} (h : RdSt w A n l) (hb : Bl w W) : RdSt W A n l :=
  ⟨h.1, fun k hk => by
    obtain ⟨ad, e, hlt, hc⟩ := h.2 k hk
    exact ⟨ad, e, Nat.lt_of_lt_of_le hlt hb.size, (Bl.cellOf hb (p := ad.add k) (by rw [block_add]; exact hlt)).trans hc⟩⟩
/-- What is cut when the place i is come to: the pieces d, the last one from f on. -/
structure SpRel (c : UInt8) (l : List UInt8) (i f : Nat) (d : List (List UInt8)) : Prop where
  le : f ≤ i
  small : d.length ≤ i
  no : c ∉ sg l f i
  eq : pcs c l = d ++ pcs c (l.drop f)
theorem SpRel.start (c : UInt8) (l : List UInt8) : SpRel c l 0 0 [] := ⟨by omega, by simp, by rw [sg_nil]; simp, by simp⟩
theorem SpRel.other {c : UInt8} {l : List UInt8} {i f : Nat} {d : List (List UInt8)} (h : SpRel c l i f d) (hi : i < l.length) (hc : l.getD i 0 ≠ c) : SpRel c l (i + 1) f d :=
  ⟨by have := h.le; omega, by have := h.small; omega, by
    rw [sg_snoc h.le hi]
    simp only [List.mem_append, List.mem_singleton, not_or]
    exact ⟨h.no, fun e => hc e.symm⟩, h.eq⟩
theorem drop_sg {l : List UInt8} {i f : Nat} (h : f ≤ i) : l.drop f = sg l f i ++ l.drop i := by
  unfold sg
  have e : l = l.take i ++ l.drop i := (List.take_append_drop i l).symm
  rcases Nat.lt_or_ge i l.length with hi | hi
  · conv => lhs; rw [e]
    rw [List.drop_append_of_le_length (by rw [List.length_take]; omega)]
  · rw [List.take_of_length_le hi, List.drop_eq_nil_of_le hi, List.append_nil]
theorem SpRel.cut {c : UInt8} {l : List UInt8} {i f : Nat} {d : List (List UInt8)} (h : SpRel c l i f d) (hi : i < l.length) (hc : l.getD i 0 = c) : SpRel c l (i + 1) (i + 1) (d ++ [sg l f i]) := by
  refine ⟨by omega, by rw [List.length_append, List.length_singleton]; have := h.small; omega, by rw [sg_nil]; simp, ?_⟩
  have e : l.drop i = c :: l.drop (i + 1) := by
    rw [List.drop_eq_getElem_cons hi, ← hc, List.getD_eq_getElem?_getD, List.getElem?_eq_getElem hi]
    rfl
  rw [h.eq, drop_sg h.le, e, pcs_app h.no, List.append_assoc]
  rfl
theorem SpRel.stop {c : UInt8} {l : List UInt8} {f : Nat} {d : List (List UInt8)} (h : SpRel c l l.length f d) : pcs c l = d ++ [l.drop f] := by
  have e : l.drop f = sg l f l.length := by rw [drop_sg h.le, List.drop_length, List.append_nil]
  rw [h.eq, pcs_no (by rw [e]; exact h.no)]
theorem ext_sg (s : ByteArray) (a b : Nat) : s.extract a b = sb (sg (bl s) a b) := by
  apply bl_inj
  rw [bl_sb]
  unfold bl sg
  rw [Lib.extract_data, List.take_drop]
  rcases Nat.lt_or_ge b a with h | h
  · rw [show a + (b - a) = a by omega, List.drop_eq_nil_of_le (by rw [List.length_take]; omega), List.drop_eq_nil_of_le (by rw [List.length_take]; omega)]
  · rw [show a + (b - a) = b by omega]

set_option maxHeartbeats 12800000 in
set_option maxRecDepth 100000 in
theorem sSplitAny_any (w : World) (s : ByteArray) (c : UInt8) (hs : s.size ≤ 1048576) :
    Calls Tryz.prog 35 #[.string s, .string (sb [c])] w fun e w' => ∃ A cap, e = .returned (.slice A (pcs c (bl s)).length cap) ∧ RdSt w' A (pcs c (bl s)).length (pcs c (bl s)) ∧ Bl w w' := by
  have hbl := bl_len s
  have hc1 : (sb [c]).size = 1 := rfl
  have hcx : ∀ W, (Instr.index 9 (.string (sb [c])) (.int .i64 0)).run Tryz.prog W = .ok (.int .u8 (c.toNat : Int)) W := fun W => run_idx (P := Tryz.prog) (t := 9) W (sb [c]) 0 (by rw [hc1]; omega) Tryz.underlying9
  have hcb := c.toNat_lt
  go_enter Tryz.func35, Tryz.ntmps35
  go_wp2_with fail
  go_loopw [5, 6, 7] (fun v f i wr => ∃ (F I : Nat) (d : List (List UInt8)), f = .int .i64 (F : Int) ∧ i = .int .i64 (I : Int) ∧ I ≤ s.size ∧ SpRel c (bl s) I F d ∧ OwS w.heap.size wr v d ∧ Bl w wr) (fun _ _ i _ => s.size - (intOf i).toNat)
  case atStart => exact ⟨0, 0, [], rfl, rfl, by omega, SpRel.start _ _, World.ownsRow_made w #[] 0 (Nat.le_refl _) (Nat.zero_le _) rfl, slc⟩
  case round =>
    obtain ⟨F, I, d, rfl, rfl, hI, hR, hown, hb⟩ := hrel
    have hfI := hR.le
    have hds := hR.small
    have hFI : (F : Int) ≤ (I : Int) := by omega
    have hIs : (I : Int) ≤ (s.size : Int) := by omega
    have hlen : d.length ≤ 1099511627776 := by omega
    rcases Nat.lt_or_ge I s.size with hlt | hge
    · have hlI : (I : Int) < (s.size : Int) := by omega
      have hix := fun W => run_idx (P := Tryz.prog) (t := 9) W s I hlt Tryz.underlying9
      have hbI := (bt s I).toNat_lt
      by_cases hx : bt s I = c
      · have hR2 := hR.cut (by rw [hbl]; exact hlt) hx
        have hxe : ((bt s I).toNat : Int) = (c.toNat : Int) := by rw [hx]
        have hext := ext_sg s F I
        clear hx hR
        go_wp2_with fail
        go_loopw [5, 6, 8] (fun v f k w2 => k = .int .i64 0 ∧ f = .int .i64 (F : Int) ∧ OwS w.heap.size w2 v d ∧ Bl w w2) (fun _ _ k _ => 1 - (intOf k).toNat)
        case atStart => exact ⟨rfl, rfl, hown, hb⟩
        case round =>
          clear hown hb
          obtain ⟨rfl, rfl, hown, hb⟩ := hrel
          go_wp2_with fail
          go_region
          go_wp2_with (at_builtin; go_must (refine wpList_append_str (w0 := w) (x0 := sg (bl s) F I) info_str Tryz.underlying60 rfl (.tmp 29) (.tmp 34) rfl _ d rfl (hown.drewN 1) (hb.drewN 1) 1 rfl hlen _ (by first | rfl | exact hext) ?_); intro v' w1 hown1 hb1)
          go_roundw
          case rel => exact ⟨I + 1, I + 1, _, by go_num, by go_num, by omega, hR2, hown1, hb1⟩
          case measure => simp [intOf]; omega
      · have hR2 := hR.other (by rw [hbl]; exact hlt) hx
        have hxe : (((bt s I).toNat : Int) == (c.toNat : Int)) = false := by
          simp only [beq_eq_false_iff_ne, ne_eq]
          intro e
          exact hx (UInt8.toNat_inj.1 (by omega))
        clear hx hR
        go_wp2_with fail
        go_loopw [5, 6, 8] (fun v f k w2 => ∃ k' : Nat, k = .int .i64 (k' : Int) ∧ k' ≤ 1 ∧ f = .int .i64 (F : Int) ∧ OwS w.heap.size w2 v d ∧ Bl w w2) (fun _ _ k _ => 1 - (intOf k).toNat)
        case atStart => exact ⟨0, rfl, by omega, rfl, hown, hb⟩
        case round =>
          clear hown hb
          obtain ⟨k', rfl, hk', rfl, hown, hb⟩ := hrel
          rcases k' with _ | k'
          · go_wp2_with fail
            go_region
            go_wp2_with fail
            go_roundw
            case rel => exact ⟨1, by go_num, by omega, rfl, hown.drewN 1, hb.drewN 1⟩
            case measure => simp [intOf]
          · obtain rfl : k' = 0 := by omega
            go_wp2_with fail
            go_roundw
            case rel => exact ⟨F, I + 1, d, rfl, by go_num, by omega, hR2, hown, hb⟩
            case measure => simp [intOf]; omega
    · obtain rfl : I = s.size := by omega
      have hR := hR
      rw [← hbl] at hR
      have hstop := Lib.hid hR.stop
      have hext := ext_sg s F s.size
      have hsg : sg (bl s) F s.size = (bl s).drop F := by unfold sg; rw [List.take_of_length_le (by rw [hbl]; exact Nat.le_refl _)]
      rw [hsg] at hext
      clear hR hsg
      go_wp2_with (at_builtin; go_must (refine wpList_append_str (w0 := w) (x0 := (bl s).drop F) info_str Tryz.underlying60 rfl (.tmp 38) (.tmp 42) rfl _ d rfl hown hb 1 rfl hlen _ (by first | rfl | exact hext) ?_); intro v' w1 hown1 hb1)
      rw [← hstop.out] at hown1
      obtain ⟨A, cap, hv, hrd⟩ := hown1.rd
      have hv := Lib.hid hv; rename_i hv_; clear hv_
      go_ret
      exact ⟨A, cap, congrArg Ending.returned hv.out, hrd, hb1⟩
end

section
open Go.ChangeShapes Go.WideShapes Go.ChangeAt Go.RowKit
open Go.ChangeMaps (open_string shut_string)

theorem Tryz.own : ownKnob Tryz.prog.godebug = none := by kernel_rfl
/-- The wrap that hands on both the listed tables and the world's shape. -/
theorem handed_both {H : Type} {enc : TypeId × Value → H} {a : Assume} {C : Checked} {os : Os} {f : FuncId} {fn : Func} {s : ChangeSpec} {conds : List PathCond} {apart fresh handsOn again : Bool} {X : World → Array Value → Prop}
    (hX : ∀ (w w' : World) (args : Array Value), w.heap = w'.heap → X w args → X w' args)
    (own : ownKnob C.prog.godebug = none) (started : os.Started) (noInit : C.prog.inits.idxOf? f = none) (hfn : C.prog.funcs[f]? = some fn)
    (witness : ∃ (w : World) (tape : Tape) (i : Input), w.os = os ∧ (w.forCall tape i).Shaped C.prog ∧ i.vars = [] ∧ Input.okWide C.prog (w.forCall tape i) .any w.heap.size f i ∧
      ((s.pre enc C.prog fn conds apart (w.forCall tape i).memory i.args ∧ X (w.forCall tape i).memory i.args) ∧ sizedMet enc C.prog fn (OpenSpec.ofChange s) apart (w.forCall tape i).memory i.args) ∧ a.holds C.prog (lone (Frame.enter C.prog f i.args .normal) [] (w.forCall tape i)))
    (contract : ∀ (W : World) (base : Nat) (args : Array Value) (ds gs : List (DataW H)) (before : List MemPlace),
      (∀ (j : Nat) t v, fn.params[j]? = some t → args[j]? = some v → Value.okWide C.prog W .any base t v) →
      DataW.Whole enc C.prog fn.params.toList s.vars apart W args.toList ds gs before → X W args → W.ShapedOpen C.prog →
      Calls C.prog f args W fun e W' => ∃ v, e = .returned v ∧ s.post enc C.prog fn apart fresh handsOn again W args v W') :
    ReturnsInHanded a C os f .any (fun w args => (s.pre enc C.prog fn conds apart w args ∧ X w args) ∧ sizedMet enc C.prog fn (OpenSpec.ofChange s) apart w args) (s.post enc C.prog fn apart fresh handsOn again) := by
  refine returnsInHanded_of_calls own started noInit witness ?_
  intro w tape i _ hsh _ hok hpre _
  obtain ⟨_, _, _, fn', hfn', _, _, _, _, hval⟩ := hok
  have e : fn' = fn := Option.some.inj (hfn'.symm.trans hfn)
  subst e
  obtain ⟨⟨⟨ds, gs, before, hw, _⟩, hx⟩, _⟩ := hpre
  have hw' := DataW.Whole.of_heap (w' := w.forCall tape i) (by rfl) hw
  refine (contract (w.forCall tape i) w.heap.size i.args ds gs before hval hw' (hX _ _ _ (by rfl) hx) hsh).mono fun e W' ⟨v, he, hp⟩ => ?_
  subst he
  exact ChangeSpec.post_blind hp
/-- What the three smaller tables read as. -/
def lay3 : List (String × DataW Unit) := Rows.fnExactParsePointRow.laid
theorem door_met (os : Os) (args : Array Value) : laidMetH Tryz.prog lay3 ((World.doorLaid Tryz.prog 400 os).forCall (fun _ _ => 0) ⟨#[], args, []⟩).memory :=
  laidMetH_of_parts3 (fuel := 8) (laidMet_of_run' 8 (by kernel_rfl) (by kernel_rfl)) (by kernel_rfl) (by kernel_rfl)
theorem Env.of {W : World} (h : laidMetH Tryz.prog lay3 W) (hsh : W.ShapedOpen Tryz.prog) : Env W := by
  rw [MakeChecks.laidMetH_plain _ _ _ (by kernel_rfl)] at h
  obtain ⟨ps, ⟨g0, t0, cs0, f0, p0, q0, _, _, _, _, ⟨g1, t1, cs1, f1, p1, q1, _, _, _, _, ⟨g2, t2, cs2, f2, p2, q2, hg2, ht2, hv2, hd2, _, _⟩, _⟩, _⟩, _, _⟩ := h
  refine ⟨?_, cell_of_shapedOpen_int (zero := #[.int .i64 0]) (t := 3) hsh (of_decide_eq_true (by kernel_rfl)) (by kernel_rfl) rfl (by kernel_rfl) (by kernel_rfl) Tryz.underlying3⟩
  have e2 : Tryz.prog.globalNamed "internal/strconv.uint64pow10" = some 5 := by kernel_rfl
  obtain rfl := Option.some.inj (e2.symm.trans hg2)
  have et : (Tryz.prog.globals[5]?).map (·.type) = some 254 := by kernel_rfl
  obtain rfl := Option.some.inj (et.symm.trans ht2)
  unfold Lib.TabIs
  rw [hv2]
  have hc : cs2.toList = Lib.pow10Tab.map fun z => Value.int .u64 z := Lib.cells_of_tab (n := 20) (e := 167) Tryz.underlying254 Tryz.underlying167 (by kernel_rfl) (by kernel_rfl) (show DataW.trod _ Tryz.prog W 0 _ false f2 254 cs2.toList = some (Lib.tabData .u64 Lib.pow10Tab, p2) from hd2)
  rw [← hc]
end

end Go.Proofs.YtjaapemopbbfaaaGreatDoor
