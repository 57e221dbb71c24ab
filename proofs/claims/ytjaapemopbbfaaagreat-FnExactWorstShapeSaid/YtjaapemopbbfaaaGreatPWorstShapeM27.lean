/- Lemmas. -/
import Derived.Test.YtjaapemopbbfaaaGreatRows
import Derived.Test.YtjaapemopbbfaaaGreatPWorstShapeM26
import Derived.Test.YtjaapemopbbfaaaGreatPWorstShapeM19
import Derived.OrdersHeld
import Derived.Deep.RegionHeld
import Derived.Deep.Cut
import Derived.Deep.DeepCutAuto
import Derived.Test.YtjaapemopbbfaaaGreatPWorstShapeM21
namespace Go.Proofs.YtjaapemopbbfaaaGreat
section
open Go.RowKit

def btQ (p q r:Rat):Bool:=decide ((p≤r∨q≤r)∧(r≤p∨r≤q))
theorem compare_ok (w:World) {s3:Bool}{A3:Option Addr}{n3 c3:Nat}{B3:Option Addr}{m3 d3:Nat}{r:RatD}{s4:Bool}{A4:Option Addr}{n4 c4:Nat}{B4:Option Addr}{m4 d4:Nat}{r':RatD}(h:RdR w s3 A3 n3 c3 B3 m3 d3 r) (k:RdR w s4 A4 n4 c4 B4 m4 d4 r') (ho:OkR r∧OkR r') :
    Calls Tryz.prog 72 #[.agg #[.bool s3,.slice A3 n3 c3,.slice B3 m3 d3],.agg #[.bool s4,.slice A4 n4 c4,.slice B4 m4 d4]] w fun e w'=> e=.returned (.int .i64 (cmpR r r'))∧Bl w w':=by
  have hL:=OkR.lens h ho.1
  have hL':=OkR.lens k ho.2
  rw[show cmpR r r'=cmpZ (rn r * (rd r':Int)) (rn r' * (rd r:Int)) from if_pos ho]
  exact rcompare_any _ (IsR.out h ho.1) (IsR.out k ho.2) (by omega) (by omega) (by omega) (by omega)
theorem mnQ_le (p q r:Rat):(mnQ p q≤r)↔(p≤r∨q≤r):=by
  unfold mnQ
  split <;> grind
set_option maxRecDepth 100000 in
set_option maxHeartbeats 16000000 in
theorem between_any (w:World) {s3:Bool}{A3:Option Addr}{n3 c3:Nat}{B3:Option Addr}{m3 d3:Nat}{p:Rat}{s4:Bool}{A4:Option Addr}{n4 c4:Nat}{B4:Option Addr}{m4 d4:Nat}{q:Rat}{s5:Bool}{A5:Option Addr}{n5 c5:Nat}{B5:Option Addr}{m5 d5:Nat}{r:Rat}(hR3:RdR w s3 A3 n3 c3 B3 m3 d3 (toR p)) (hR4:RdR w s4 A4 n4 c4 B4 m4 d4 (toR q)) (hR5:RdR w s5 A5 n5 c5 B5 m5 d5 (toR r)) (hp:Fit p) (hq:Fit q) (hr:Fit r) :
    Calls Tryz.prog 138 #[.agg #[.bool s3,.slice A3 n3 c3,.slice B3 m3 d3],.agg #[.bool s4,.slice A4 n4 c4,.slice B4 m4 d4],.agg #[.bool s5,.slice A5 n5 c5,.slice B5 m5 d5]] w fun e w'=> e=.returned (.bool (btQ p q r))∧Bl w w':=by
  have hmn:=Lib.hid (minR_toR hp hq)
  have hmx:=Lib.hid (maxR_toR hp hq)
  have hfm:Fit (mnQ p q):=by unfold mnQ;split;exact hq;exact hp
  have hfx:Fit (if p < q then q else p):=by split;exact hq;exact hp
  have hok1:=Lib.hid (⟨hr.ok,hfm.ok⟩:OkR (toR r)∧OkR (toR (mnQ p q)))
  have hok2:=Lib.hid (⟨hr.ok,hfx.ok⟩:OkR (toR r)∧OkR (toR (if p < q then q else p)))
  have hlo:0≤cmpR (toR r) (toR (mnQ p q))↔(p≤r∨q≤r):=by
    rw[cmpR_toR hr hfm,← mnQ_le]
    by_cases h1:r < mnQ p q
    · rw[if_pos h1];exact⟨fun h=> by omega,fun h=> by grind⟩
    · rw[if_neg h1];refine⟨fun _=> by grind,fun _=> by split <;> omega⟩
  have hhi:cmpR (toR r) (toR (if p < q then q else p))≤0↔(r≤p∨r≤q):=by
    rw[cmpR_toR hr hfx]
    obtain⟨x,hx⟩:∃ x,(if p < q then q else p)=x:=⟨_,rfl⟩
    have hx2:(r≤x)↔(r≤p∨r≤q):=by rw[← hx];split <;> grind
    rw[hx,← hx2]
    by_cases h1:x < r
    · rw[if_neg (by grind),if_pos h1];exact⟨fun h=> by omega,fun h=> by grind⟩
    · refine⟨fun _=> by grind,fun _=> by rw[if_neg h1];split <;> omega⟩
  have hres:btQ p q r=(decide (0≤cmpR (toR r) (toR (mnQ p q))) && decide (cmpR (toR r) (toR (if p < q then q else p))≤0)):=by
    unfold btQ
    rw[Bool.decide_and,decide_eq_decide.2 hlo,decide_eq_decide.2 hhi]
  clear hlo hhi hfm hfx hp hq hr
  rw[hres]
  clear hres
  obtain⟨z1,hz1⟩:∃ z,cmpR (toR r) (toR (mnQ p q))=z:=⟨_,rfl⟩
  obtain⟨z2,hz2⟩:∃ z,cmpR (toR r) (toR (if p < q then q else p))=z:=⟨_,rfl⟩
  rw[hz1,hz2]
  have hz1:=Lib.hid hz1;rename_i h_;clear h_
  have hz2:=Lib.hid hz2;rename_i h_;clear h_
  go_enter Tryz.func138,Tryz.ntmps138
  go_upto_region 1 with (fail)
  refine wp_gen (fun W=> Bl w W∧∃ g3 g4 g5,Blk W g3 31 #[.bool s3,.slice A3 n3 c3,.slice B3 m3 d3]∧Blk W g4 31 #[.bool s4,.slice A4 n4 c4,.slice B4 m4 d4]∧Blk W g5 31 #[.bool s5,.slice A5 n5 c5,.slice B5 m5 d5]∧g3=w.heap.size∧g4=w.heap.size+1∧g5=w.heap.size+1+1) ⟨slc,_,_,_,by exact bts,by exact bts,by exact bts,rfl,rfl,rfl⟩ ?_
  rintro W ⟨hbW,g3,g4,g5,h3,h4,h5,hg3,hg4,hg5⟩
  rw[← hg5,← hg4,← hg3]
  clear hg3 hg4 hg5
  have hR3:=hR3.bl hbW
  have hR4:=hR4.bl hbW
  have hR5:=hR5.bl hbW
  by_cases hc:0≤z1
  · go_region_held3 (fun w' =>(w'.cell? ⟨g3,0,none⟩=some (.bool s3)∧w'.cell? ⟨g3,1,none⟩=some (.slice A3 n3 c3)∧w'.cell? ⟨g3,2,none⟩=some (.slice B3 m3 d3))∧(w'.cell? ⟨g4,0,none⟩=some (.bool s4)∧w'.cell? ⟨g4,1,none⟩=some (.slice A4 n4 c4)∧w'.cell? ⟨g4,2,none⟩=some (.slice B4 m4 d4))∧(w'.cell? ⟨g5,0,none⟩=some (.bool s5)∧w'.cell? ⟨g5,1,none⟩=some (.slice A5 n5 c5)∧w'.cell? ⟨g5,2,none⟩=some (.slice B5 m5 d5))) (first | exact⟨bx3 (T:=31) (h3.bl slc),bx3 (T:=31) (h4.bl slc),bx3 (T:=31) (h5.bl slc)⟩) (first |(go_at_call 24;with_reducible refine(RatMin_any _ (hR3.bl slc) (hR4.bl slc)).mono ?_;rintro e v1 ⟨s1,A1,n1,c1,B1,m1,d1,rfl,hRa,hv1⟩;rw[hmn.out] at hRa) |(go_at_call 72;with_reducible refine(compare_ok _ (hR5.bl slc) hRa.rd hok1.out).mono ?_;rw[hz1.out];rintro e v2 ⟨rfl,hv2⟩) |(go_at_call 66;with_reducible refine(RatMax_any _ (hR3.bl slc) (hR4.bl slc)).mono ?_;rintro e v3 ⟨s2,A2,n2,c2,B2,m2,d2,rfl,hRb,hv3⟩;rw[hmx.out] at hRb) |(go_at_call 72;with_reducible refine(compare_ok _ (hR5.bl slc) hRb.rd hok2.out).mono ?_;rw[hz2.out];rintro e v4 ⟨rfl,hv4⟩))
    all_goals (go_wp2_with fail)
    all_goals go_ret
    all_goals exact⟨ret_bool (by rw[decide_eq_true hc,Bool.true_and]),hbW.next slc⟩
  · have hc2:z1 < 0:=by omega
    refine wp_region_held_drew (S:=fun w' =>(w'.cell? ⟨g3,0,none⟩=some (.bool s3)∧w'.cell? ⟨g3,1,none⟩=some (.slice A3 n3 c3)∧w'.cell? ⟨g3,2,none⟩=some (.slice B3 m3 d3))∧(w'.cell? ⟨g4,0,none⟩=some (.bool s4)∧w'.cell? ⟨g4,1,none⟩=some (.slice A4 n4 c4)∧w'.cell? ⟨g4,2,none⟩=some (.slice B4 m4 d4))∧(w'.cell? ⟨g5,0,none⟩=some (.bool s5)∧w'.cell? ⟨g5,1,none⟩=some (.slice A5 n5 c5)∧w'.cell? ⟨g5,2,none⟩=some (.slice B5 m5 d5))) (by kernel_rfl) (by first | exact⟨bx3 (T:=31) (h3.bl slc),bx3 (T:=31) (h4.bl slc),bx3 (T:=31) (h5.bl slc)⟩) (fun hHeld=> ?_)
    refine wpAnyH_take (i:=0) (oi:=_) (v:=?_) (fuel:=14) rfl (by kernel_rfl) (by kernel_rfl) (by kernel_rfl) (fun _ _ _ h=> h) (Or.inl ⟨by rfl,?_⟩) hHeld ?_
    rotate_left 1
    · (intro w' hSw;(try dsimp only at hSw);go_simp <;> with_reducible rfl)
    simp only[Act.put,List.getElem_toArray,List.getElem_cons_zero,List.setIfInBounds_toArray,List.set_cons_zero,List.set_cons_succ]
    refine wpAnyH_take (i:=1) (oi:=_) (v:=?_) (fuel:=13) rfl (by kernel_rfl) (by kernel_rfl) (by kernel_rfl) (fun _ _ _ h=> h) (Or.inl ⟨by rfl,?_⟩) hHeld ?_
    rotate_left 1
    · (intro w' hSw;(try dsimp only at hSw);go_simp <;> with_reducible rfl)
    simp only[Act.put,List.getElem_toArray,List.getElem_cons_succ,List.getElem_cons_zero,List.setIfInBounds_toArray,List.set_cons_zero,List.set_cons_succ]
    refine wpAnyH_take (i:=2) (oi:=_) (v:=?_) (fuel:=12) rfl (by kernel_rfl) (by kernel_rfl) (by kernel_rfl) (fun _ _ _ h=> h) (Or.inl ⟨by rfl,?_⟩) hHeld ?_
    rotate_left 1
    · (intro w' hSw;(try dsimp only at hSw);go_simp <;> with_reducible rfl)
    simp only[Act.put,List.getElem_toArray,List.getElem_cons_succ,List.getElem_cons_zero,List.setIfInBounds_toArray,List.set_cons_zero,List.set_cons_succ]
    refine wpAnyH_ready (fuel:=11) (rs:=[3]) (by kernel_rfl) (by simp) ?_
    refine AllReadyH.cons (o:=_) rfl (fun K hK=> ?_) AllReadyH.nil
    go_simp
    with_reducible refine(RatMin_any _ (hR3.bl slc) (hR4.bl slc)).mono ?_
    rintro e v1 ⟨s1,A1,n1,c1,B1,m1,d1,rfl,hRa,hv1⟩
    rw[hmn.out] at hRa
    refine hK.out _ _ (by first | exact⟨bx3 (T:=31) (h3.bl slc),bx3 (T:=31) (h4.bl slc),bx3 (T:=31) (h5.bl slc)⟩) (fun hHeld=> ?_)
    clear hK K
    try simp only[Act.put,List.setIfInBounds_toArray,List.set_cons_zero,List.set_cons_succ]
    refine wpAnyH_ready (fuel:=10) (rs:=[4]) (by kernel_rfl) (by simp) ?_
    refine AllReadyH.cons (o:=_) rfl (fun K hK=> ?_) AllReadyH.nil
    go_simp
    with_reducible refine(compare_ok _ (hR5.bl slc) hRa.rd hok1.out).mono ?_
    rw[hz1.out]
    rintro e v2 ⟨rfl,hv2⟩
    refine hK.out _ _ (by first | exact⟨bx3 (T:=31) (h3.bl slc),bx3 (T:=31) (h4.bl slc),bx3 (T:=31) (h5.bl slc)⟩) (fun hHeld=> ?_)
    clear hK K
    try simp only[Act.put,List.setIfInBounds_toArray,List.set_cons_zero,List.set_cons_succ]
    refine wpAnyH_take (i:=5) (oi:=_) (v:=?_) (fuel:=9) rfl (by kernel_rfl) (by kernel_rfl) (by kernel_rfl) (fun _ _ _ h=> h) (Or.inl ⟨by rfl,?_⟩) hHeld ?_
    rotate_left 1
    · (intro w' hSw;(try dsimp only at hSw);go_simp <;> with_reducible rfl)
    simp only[Act.put,List.getElem_toArray,List.getElem_cons_succ,List.getElem_cons_zero,List.setIfInBounds_toArray,List.set_cons_zero,List.set_cons_succ]
    refine wpAnyH_take (i:=6) (oi:=_) (v:=?_) (fuel:=8) rfl (by kernel_rfl) (by kernel_rfl) (by kernel_rfl) (fun _ _ _ h=> h) (Or.inl ⟨by rfl,?_⟩) hHeld ?_
    rotate_left 1
    · (intro w' hSw;(try dsimp only at hSw);go_simp <;> with_reducible rfl)
    simp only[Act.put,List.getElem_toArray,List.getElem_cons_succ,List.getElem_cons_zero,List.setIfInBounds_toArray,List.set_cons_zero,List.set_cons_succ]
    refine wpAnyH_take (i:=7) (oi:=_) (v:=undef) (fuel:=7) rfl (by kernel_rfl) (by kernel_rfl) (by kernel_rfl) (fun _ _ _ h=> h) (Or.inr ⟨by rfl,rfl⟩) hHeld ?_
    simp only[Act.put,List.getElem_toArray,List.getElem_cons_succ,List.getElem_cons_zero,List.setIfInBounds_toArray,List.set_cons_zero,List.set_cons_succ]
    refine wpAnyH_take (i:=8) (oi:=_) (v:=undef) (fuel:=6) rfl (by kernel_rfl) (by kernel_rfl) (by kernel_rfl) (fun _ _ _ h=> h) (Or.inr ⟨by rfl,rfl⟩) hHeld ?_
    simp only[Act.put,List.getElem_toArray,List.getElem_cons_succ,List.getElem_cons_zero,List.setIfInBounds_toArray,List.set_cons_zero,List.set_cons_succ]
    refine wpAnyH_take (i:=9) (oi:=_) (v:=undef) (fuel:=5) rfl (by kernel_rfl) (by kernel_rfl) (by kernel_rfl) (fun _ _ _ h=> h) (Or.inr ⟨by rfl,rfl⟩) hHeld ?_
    simp only[Act.put,List.getElem_toArray,List.getElem_cons_succ,List.getElem_cons_zero,List.setIfInBounds_toArray,List.set_cons_zero,List.set_cons_succ]
    refine wpAnyH_take (i:=10) (oi:=_) (v:=undef) (fuel:=4) rfl (by kernel_rfl) (by kernel_rfl) (by kernel_rfl) (fun _ _ _ h=> h) (Or.inr ⟨by rfl,rfl⟩) hHeld ?_
    simp only[Act.put,List.getElem_toArray,List.getElem_cons_succ,List.getElem_cons_zero,List.setIfInBounds_toArray,List.set_cons_zero,List.set_cons_succ]
    refine wpAnyH_take (i:=11) (oi:=_) (v:=undef) (fuel:=3) rfl (by kernel_rfl) (by kernel_rfl) (by kernel_rfl) (fun _ _ _ h=> h) (Or.inr ⟨by rfl,rfl⟩) hHeld ?_
    simp only[Act.put,List.getElem_toArray,List.getElem_cons_succ,List.getElem_cons_zero,List.setIfInBounds_toArray,List.set_cons_zero,List.set_cons_succ]
    refine wpAnyH_take (i:=12) (oi:=_) (v:=undef) (fuel:=2) rfl (by kernel_rfl) (by kernel_rfl) (by kernel_rfl) (fun _ _ _ h=> h) (Or.inr ⟨by rfl,rfl⟩) hHeld ?_
    simp only[Act.put,List.getElem_toArray,List.getElem_cons_succ,List.getElem_cons_zero,List.setIfInBounds_toArray,List.set_cons_zero,List.set_cons_succ]
    refine wpAnyH_take (i:=13) (oi:=_) (v:=?_) (fuel:=1) rfl (by kernel_rfl) (by kernel_rfl) (by kernel_rfl) (fun _ _ _ h=> h) (Or.inl ⟨by rfl,?_⟩) hHeld ?_
    rotate_left 1
    · (intro w' hSw;(try dsimp only at hSw);go_simp <;> with_reducible rfl)
    simp only[Act.put,List.getElem_toArray,List.getElem_cons_succ,List.getElem_cons_zero,List.setIfInBounds_toArray,List.set_cons_zero,List.set_cons_succ]
    refine wpAnyH_take (i:=14) (oi:=_) (v:=?_) (fuel:=0) rfl (by kernel_rfl) (by kernel_rfl) (by kernel_rfl) (fun _ _ _ h=> h) (Or.inl ⟨by rfl,?_⟩) hHeld ?_
    rotate_left 1
    · (intro w' hSw;(try dsimp only at hSw);go_simp <;> with_reducible rfl)
    simp only[Act.put,List.getElem_toArray,List.getElem_cons_succ,List.getElem_cons_zero,List.setIfInBounds_toArray,List.set_cons_zero,List.set_cons_succ]
    clear hHeld
    refine wpAnyH_done (by kernel_rfl) ?_ _
    go_wp2_with fail
    go_ret
    exact⟨ret_bool (by rw[decide_eq_false (Int.not_le.2 hc2),Bool.false_and]),hbW.next slc⟩
end

section
open Go.RowKit

/-- A region that draws its order, whose operations yield one value each in every world that has grown: one walk serves. -/
theorem wp_region_bl {P:Program}{id:Nat}{Q:Exit→Act→World→Prop}{a:Act}{w0 w:World}{l:List Oper}(hm:P.follows .mixedOrders=true) (hB:Region.lexB .any l.toArray=true) (hw:Bl w0 w)
    (h:wpQuiet P l.toArray (fun w'=> Bl w0 w') (fun a'=> ∀ w',Bl w0 w'→Q .normal a' w') l a):(Code.region id l.toArray true).wp P Q a w :=
  wp_region_quiet (C:=fun w'=> Bl w0 w') hm hB hw.drew (by simpa using h)
/-- Three valid points with a positive area. -/
def Prop3 (l:List PtD):Prop:=AllP l∧∃ a b c,l=[a,b,c]∧0 < sgnR (dblA a b c)
open Classical in
noncomputable def propB (l:List PtD):Bool:=decide (Prop3 l)
theorem propB_yes {l:List PtD}(h:Prop3 l):propB l=true:=by unfold propB;simp[h]
theorem propB_no {l:List PtD}(h:¬ Prop3 l):propB l=false:=by unfold propB;simp[h]
theorem len3 {α:Type}{cs:List α}(h:cs.length=3):∃ a0 a1 a2,cs=[a0,a1,a2]:=by
  match cs,h with
  | [a,b,c],_=> exact⟨a,b,c,rfl⟩
set_option maxRecDepth 100000 in
set_option maxHeartbeats 4000000 in
theorem IsProper_any (w:World) {g n c0:Nat}{l:List PtD}(h:RdPS w (some ⟨g,0,none⟩) n c0 l) :
    Calls Tryz.prog 63 #[.slice (some ⟨g,0,none⟩) n c0] w fun e w'=> e=.returned (.bool (propB l))∧Bl w w':=by
  have hl:=h.len
  have hsm:=h.small
  by_cases h3:n=3
  · subst h3
    by_cases hall:AllP l
    · obtain⟨p0,p1,p2,rfl⟩:=len3 hl
      obtain⟨_,e0,hg,hc0⟩:=h.cells 0 (by omega)
      cases e0
      rw[Addr.add_lit] at hc0
      obtain⟨s,A,n,c,B,m,d,t,C,i,e,D,j,f,⟨x0,x1,x2,x3,x4,x5⟩,hX0,hY0⟩:=(show PtAt w ⟨g,0,none⟩ p0 from hc0)
      have x0:w.cell? ⟨g,0,none⟩=some (.bool s):=x0
      have x1:w.cell? ⟨g,1,none⟩=some (.slice A n c):=x1
      have x2:w.cell? ⟨g,2,none⟩=some (.slice B m d):=x2
      have x3:w.cell? ⟨g,3,none⟩=some (.bool t):=x3
      have x4:w.cell? ⟨g,4,none⟩=some (.slice C i e):=x4
      have x5:w.cell? ⟨g,5,none⟩=some (.slice D j f):=x5
      obtain⟨_,e0,hg,hc1⟩:=h.cells 1 (by omega)
      cases e0
      rw[Addr.add_lit] at hc1
      obtain⟨s',A',n',c',B',m',d',t',C',i',e',D',j',f',⟨y0,y1,y2,y3,y4,y5⟩,hX1,hY1⟩:=(show PtAt w ⟨g,6,none⟩ p1 from hc1)
      have y0:w.cell? ⟨g,6,none⟩=some (.bool s'):=y0
      have y1:w.cell? ⟨g,7,none⟩=some (.slice A' n' c'):=y1
      have y2:w.cell? ⟨g,8,none⟩=some (.slice B' m' d'):=y2
      have y3:w.cell? ⟨g,9,none⟩=some (.bool t'):=y3
      have y4:w.cell? ⟨g,10,none⟩=some (.slice C' i' e'):=y4
      have y5:w.cell? ⟨g,11,none⟩=some (.slice D' j' f'):=y5
      obtain⟨_,e0,hg,hc2⟩:=h.cells 2 (by omega)
      cases e0
      rw[Addr.add_lit] at hc2
      obtain⟨s2,A2,n2,c2,B2,m2,d2,t2,C2,i2,e2,D2,j2,f2,⟨z0,z1,z2,z3,z4,z5⟩,hX2,hY2⟩:=(show PtAt w ⟨g,12,none⟩ p2 from hc2)
      have z0:w.cell? ⟨g,12,none⟩=some (.bool s2):=z0
      have z1:w.cell? ⟨g,13,none⟩=some (.slice A2 n2 c2):=z1
      have z2:w.cell? ⟨g,14,none⟩=some (.slice B2 m2 d2):=z2
      have z3:w.cell? ⟨g,15,none⟩=some (.bool t2):=z3
      have z4:w.cell? ⟨g,16,none⟩=some (.slice C2 i2 e2):=z4
      have z5:w.cell? ⟨g,17,none⟩=some (.slice D2 j2 f2):=z5
      clear hc0 hc1 hc2
      have hv:propB [p0,p1,p2]=decide (0 < sgnR (dblA p0 p1 p2)):=by
        by_cases hs:0 < sgnR (dblA p0 p1 p2)
        · rw[propB_yes ⟨hall,_,_,_,rfl,hs⟩];simp[hs]
        · rw[propB_no (fun hk=> by
            obtain⟨_,a,b,c,e,hs'⟩:=hk
            injection e with e1 e
            injection e with e2 e
            injection e with e3 e
            subst e1 e2 e3
            exact hs hs')]
          simp[hs]
      have hv:=Lib.hid hv;rename_i h_;clear h_
      have hall:=Lib.hid hall;rename_i h_;clear h_
      go_enter Tryz.func63,Tryz.ntmps63
      go_wp2_with fail
      go_region_held3 (fun w' =>(w'.cell? ⟨g,0,none⟩=some (.bool s)∧w'.cell? ⟨g,1,none⟩=some (.slice A n c)∧w'.cell? ⟨g,2,none⟩=some (.slice B m d)∧w'.cell? ⟨g,3,none⟩=some (.bool t)∧w'.cell? ⟨g,4,none⟩=some (.slice C i e)∧w'.cell? ⟨g,5,none⟩=some (.slice D j f))∧(w'.cell? ⟨g,6,none⟩=some (.bool s')∧w'.cell? ⟨g,7,none⟩=some (.slice A' n' c')∧w'.cell? ⟨g,8,none⟩=some (.slice B' m' d')∧w'.cell? ⟨g,9,none⟩=some (.bool t')∧w'.cell? ⟨g,10,none⟩=some (.slice C' i' e')∧w'.cell? ⟨g,11,none⟩=some (.slice D' j' f'))∧(w'.cell? ⟨g,12,none⟩=some (.bool s2)∧w'.cell? ⟨g,13,none⟩=some (.slice A2 n2 c2)∧w'.cell? ⟨g,14,none⟩=some (.slice B2 m2 d2)∧w'.cell? ⟨g,15,none⟩=some (.bool t2)∧w'.cell? ⟨g,16,none⟩=some (.slice C2 i2 e2)∧w'.cell? ⟨g,17,none⟩=some (.slice D2 j2 f2))) (first | exact⟨⟨(Bl.cellOf (w:=w) (p:=⟨g,0,none⟩) slc hg).trans x0,(Bl.cellOf (w:=w) (p:=⟨g,1,none⟩) slc hg).trans x1,(Bl.cellOf (w:=w) (p:=⟨g,2,none⟩) slc hg).trans x2,(Bl.cellOf (w:=w) (p:=⟨g,3,none⟩) slc hg).trans x3,(Bl.cellOf (w:=w) (p:=⟨g,4,none⟩) slc hg).trans x4,(Bl.cellOf (w:=w) (p:=⟨g,5,none⟩) slc hg).trans x5⟩,⟨(Bl.cellOf (w:=w) (p:=⟨g,6,none⟩) slc hg).trans y0,(Bl.cellOf (w:=w) (p:=⟨g,7,none⟩) slc hg).trans y1,(Bl.cellOf (w:=w) (p:=⟨g,8,none⟩) slc hg).trans y2,(Bl.cellOf (w:=w) (p:=⟨g,9,none⟩) slc hg).trans y3,(Bl.cellOf (w:=w) (p:=⟨g,10,none⟩) slc hg).trans y4,(Bl.cellOf (w:=w) (p:=⟨g,11,none⟩) slc hg).trans y5⟩,⟨(Bl.cellOf (w:=w) (p:=⟨g,12,none⟩) slc hg).trans z0,(Bl.cellOf (w:=w) (p:=⟨g,13,none⟩) slc hg).trans z1,(Bl.cellOf (w:=w) (p:=⟨g,14,none⟩) slc hg).trans z2,(Bl.cellOf (w:=w) (p:=⟨g,15,none⟩) slc hg).trans z3,(Bl.cellOf (w:=w) (p:=⟨g,16,none⟩) slc hg).trans z4,(Bl.cellOf (w:=w) (p:=⟨g,17,none⟩) slc hg).trans z5⟩⟩) (first |(go_at_call 98;refine(ContainsPt_yes _ (RdPS.bl h slc) hall.out).mono ?_;rintro en w1 ⟨rfl,hb1⟩) |(go_at_call 69;refine(DoubleArea_any _ (hX0.bl slc) (hY0.bl slc) (hX1.bl slc) (hY1.bl slc) (hX2.bl slc) (hY2.bl slc)).mono ?_;rintro en w2 ⟨s3,A3,n3,c3,B3,m3,d3,rfl,hR,hb2⟩) |(go_at_call 108;refine(RatSign_any _ hR.rd).mono ?_;rintro en w3 ⟨rfl,hb3⟩))
      go_wp2_with fail
      go_ret
      exact⟨ret_bool hv.out.symm,slc⟩
    · have hv:=Lib.hid (propB_no (fun hk=> hall hk.1))
      have hall:=Lib.hid hall;rename_i h_;clear h_
      go_enter Tryz.func63,Tryz.ntmps63
      go_wp2_with fail
      refine wp_region_bl (w0:=w) (by kernel_rfl) (by kernel_rfl) (Bl.refl w) ?_
      iterate 5 (quiet_step ((intro _;with_reducible rfl)))
      quiet_step ((intro hbz;go_at_call 98;refine(ContainsPt_no _ (RdPS.bl h hbz) hall.out).mono ?_;(rintro en w1 ⟨rfl,hb1⟩);exact⟨rfl,hbz.next hb1⟩))
      iterate 3 (quiet_step ((intro _;with_reducible rfl)))
      repeat (first | go_big_quiet_skip |(go_big_quiet_want;go_big_quiet_op;go_big_quiet_on) | quiet_step ((intro _;with_reducible rfl)))
      refine wpQuiet_nil ?_
      intro w1 hb1
      go_wp2_with fail
      go_ret
      exact⟨ret_bool hv.out.symm,hb1⟩
  · have hv:=Lib.hid (propB_no (l:=l) (fun hk=> by
      obtain⟨_,a,b,c,e,_⟩:=hk
      rw[e] at hl
      exact h3 hl.symm))
    have hi:((n:Int) == 3)=false:=by simp;omega
    have hl:=Lib.hid hl;rename_i h_;clear h_
    go_enter Tryz.func63,Tryz.ntmps63
    go_wp2_with fail
    go_quiet (fail)
    go_wp2_with fail
    go_ret
    exact⟨ret_bool hv.out.symm,slc⟩
end

end Go.Proofs.YtjaapemopbbfaaaGreat
