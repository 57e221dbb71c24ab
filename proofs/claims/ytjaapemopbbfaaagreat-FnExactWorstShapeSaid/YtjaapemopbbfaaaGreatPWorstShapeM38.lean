/- Lemmas. -/
import Derived.Test.YtjaapemopbbfaaaGreatRows
import Derived.Test.YtjaapemopbbfaaaGreatPWorstShapeM37
import Derived.Test.YtjaapemopbbfaaaGreatPWorstShapeM27
import Derived.Test.YtjaapemopbbfaaaGreatPWorstShapeM20
namespace Go.Proofs.YtjaapemopbbfaaaGreat
section
open Go.RowKit

/-- Does p lie inside the edge of a and b? -/
noncomputable def insB (a b p:Rat × Rat):Bool:=decide (sgW a b p=0) && (btQ a.1 b.1 p.1 && btQ a.2 b.2 p.2)
theorem insB_iff (a b p:Rat × Rat):insB a b p=true↔insG a b p:=by
  unfold insB insG inBx btQ
  simp only[Bool.and_eq_true,decide_eq_true_eq]
set_option maxRecDepth 100000 in
set_option maxHeartbeats 32000000 in
theorem isInside_nil (w:World) {gp n cp:Nat}{pts:List (Rat × Rat)}(hp:RdPS w (some ⟨gp,0,none⟩) n cp (pts.map tp)) (hft:∀ k,k < pts.length→FtP (pix pts k)) (a b c:Nat) (ha:a < n) (hb:b < n) (hc:c < n) :
    Calls Tryz.prog 106 #[.agg #[.slice (some ⟨gp,0,none⟩) n cp,.slice none 0 0,.slice none 0 0],.int .i64 (a:Int),.int .i64 (b:Int),.int .i64 (c:Int)] w fun e w'=> e=.returned (.bool (insB (pix pts a) (pix pts b) (pix pts c)))∧Bl w w':=by
  have hns:=hp.small
  have hln:pts.length=n:=by rw[← hp.len,List.length_map]
  have hpa:=pix_map (l:=pts) (k:=a) (by omega)
  have hpb:=pix_map (l:=pts) (k:=b) (by omega)
  have hpc:=pix_map (l:=pts) (k:=c) (by omega)
  have hfa1:=Lib.hid (hft a (by omega)).1
  have hfa2:=Lib.hid (hft a (by omega)).2
  have hfb1:=Lib.hid (hft b (by omega)).1
  have hfb2:=Lib.hid (hft b (by omega)).2
  have hfc1:=Lib.hid (hft c (by omega)).1
  have hfc2:=Lib.hid (hft c (by omega)).2
  have hsg:sgnR (dblA (pix (pts.map tp) a) (pix (pts.map tp) b) (pix (pts.map tp) c))=sgW (pix pts a) (pix pts b) (pix pts c):=by rw[hpa,hpb,hpc];rfl
  obtain⟨z,hz⟩:∃ z,sgW (pix pts a) (pix pts b) (pix pts c)=z:=⟨_,rfl⟩
  obtain⟨b1,hb1⟩:∃ x,btQ (pix pts a).1 (pix pts b).1 (pix pts c).1=x:=⟨_,rfl⟩
  obtain⟨b2,hb2⟩:∃ x,btQ (pix pts a).2 (pix pts b).2 (pix pts c).2=x:=⟨_,rfl⟩
  have hres:insB (pix pts a) (pix pts b) (pix pts c)=(decide (z=0) && (b1 && b2)):=by unfold insB;rw[hz,hb1,hb2]
  rw[hres]
  rw[hz] at hsg
  have hai:(a:Int) < (n:Int):=by omega
  have hbi:(b:Int) < (n:Int):=by omega
  have hci:(c:Int) < (n:Int):=by omega
  have hsg:=Lib.hid hsg;rename_i h_;clear h_
  have hb1:=Lib.hid hb1;rename_i h_;clear h_
  have hb2:=Lib.hid hb2;rename_i h_;clear h_
  have hpa:=Lib.hid hpa
  have hpb:=Lib.hid hpb
  have hpc:=Lib.hid hpc
  clear hres hz hln hft
  go_enter Tryz.func106,Tryz.ntmps106
  go_upto_region 1 with (fail)
  refine wp_gen (fun W=> Bl w W∧∃ gb,Blk W gb 90 #[.slice (some ⟨gp,0,none⟩) n cp,.slice none 0 0,.slice none 0 0]∧gb=w.heap.size) ⟨slc,_,by exact bts,rfl⟩ ?_
  rintro W ⟨hbW,gb,hBx,hgb⟩
  rw[← hgb]
  clear hgb
  obtain⟨z0,z1,z2⟩:=bx3 hBx
  go_wp2_with fail
  refine(turn_nil _ (RdPS.bl hp hbW) a b c ha hb hc).mono ?_
  rw[hsg.out]
  rintro e W1 ⟨rfl,hb1W⟩
  have hBx:=hBx.bl hb1W
  have hbW:=hbW.next hb1W
  clear hb1W z0 z1 z2
  obtain⟨z0,z1,z2⟩:=bx3 hBx
  by_cases hz0:z=0
  · subst hz0
    go_upto_region 6 with (fail)
    refine wp_gen (fun W2=> Bl w W2) (by exact slc) ?_
    intro W2 hbW2
    clear z0 z1 z2 hBx hbW
    have hp:=RdPS.bl hp hbW2
    have hgp2:gp < W2.heap.size:=by
      obtain⟨_,e,h,_⟩:=hp.cells a ha
      cases e
      exact h
    obtain⟨s7,A7,n7,c7,B7,m7,d7,t7,C7,i7,e7,D7,j7,f7,⟨x0,x1,x2,x3,x4,x5⟩,hX7,hY7⟩:=pts_lit hp ha
    obtain⟨s8,A8,n8,c8,B8,m8,d8,t8,C8,i8,e8,D8,j8,f8,⟨y0,y1,y2,y3,y4,y5⟩,hX8,hY8⟩:=pts_lit hp hb
    obtain⟨s9,A9,n9,c9,B9,m9,d9,t9,C9,i9,e9,D9,j9,f9,⟨z0,z1,z2,z3,z4,z5⟩,hX9,hY9⟩:=pts_lit hp hc
    rw[hpa.out] at hX7 hY7
    rw[hpb.out] at hX8 hY8
    rw[hpc.out] at hX9 hY9
    replace hX7:RdR W2 s7 A7 n7 c7 B7 m7 d7 (toR (pix pts a).1):=hX7
    replace hY7:RdR W2 t7 C7 i7 e7 D7 j7 f7 (toR (pix pts a).2):=hY7
    replace hX8:RdR W2 s8 A8 n8 c8 B8 m8 d8 (toR (pix pts b).1):=hX8
    replace hY8:RdR W2 t8 C8 i8 e8 D8 j8 f8 (toR (pix pts b).2):=hY8
    replace hX9:RdR W2 s9 A9 n9 c9 B9 m9 d9 (toR (pix pts c).1):=hX9
    replace hY9:RdR W2 t9 C9 i9 e9 D9 j9 f9 (toR (pix pts c).2):=hY9
    cases b1
    · skip
      refine wp_region_held_drew (S:=fun w' =>(w'.cell? ⟨gp,a * 6,none⟩=some (.bool s7)∧w'.cell? ⟨gp,a * 6+1,none⟩=some (.slice A7 n7 c7)∧w'.cell? ⟨gp,a * 6+2,none⟩=some (.slice B7 m7 d7)∧w'.cell? ⟨gp,a * 6+3,none⟩=some (.bool t7)∧w'.cell? ⟨gp,a * 6+4,none⟩=some (.slice C7 i7 e7)∧w'.cell? ⟨gp,a * 6+5,none⟩=some (.slice D7 j7 f7))∧(w'.cell? ⟨gp,b * 6,none⟩=some (.bool s8)∧w'.cell? ⟨gp,b * 6+1,none⟩=some (.slice A8 n8 c8)∧w'.cell? ⟨gp,b * 6+2,none⟩=some (.slice B8 m8 d8)∧w'.cell? ⟨gp,b * 6+3,none⟩=some (.bool t8)∧w'.cell? ⟨gp,b * 6+4,none⟩=some (.slice C8 i8 e8)∧w'.cell? ⟨gp,b * 6+5,none⟩=some (.slice D8 j8 f8))∧(w'.cell? ⟨gp,c * 6,none⟩=some (.bool s9)∧w'.cell? ⟨gp,c * 6+1,none⟩=some (.slice A9 n9 c9)∧w'.cell? ⟨gp,c * 6+2,none⟩=some (.slice B9 m9 d9)∧w'.cell? ⟨gp,c * 6+3,none⟩=some (.bool t9)∧w'.cell? ⟨gp,c * 6+4,none⟩=some (.slice C9 i9 e9)∧w'.cell? ⟨gp,c * 6+5,none⟩=some (.slice D9 j9 f9))) (by kernel_rfl) (by first | exact⟨⟨(Bl.cellOf (w:=W2) (p:=⟨gp,a * 6,none⟩) slc hgp2).trans x0,(Bl.cellOf (w:=W2) (p:=⟨gp,a * 6+1,none⟩) slc hgp2).trans x1,(Bl.cellOf (w:=W2) (p:=⟨gp,a * 6+2,none⟩) slc hgp2).trans x2,(Bl.cellOf (w:=W2) (p:=⟨gp,a * 6+3,none⟩) slc hgp2).trans x3,(Bl.cellOf (w:=W2) (p:=⟨gp,a * 6+4,none⟩) slc hgp2).trans x4,(Bl.cellOf (w:=W2) (p:=⟨gp,a * 6+5,none⟩) slc hgp2).trans x5⟩,⟨(Bl.cellOf (w:=W2) (p:=⟨gp,b * 6,none⟩) slc hgp2).trans y0,(Bl.cellOf (w:=W2) (p:=⟨gp,b * 6+1,none⟩) slc hgp2).trans y1,(Bl.cellOf (w:=W2) (p:=⟨gp,b * 6+2,none⟩) slc hgp2).trans y2,(Bl.cellOf (w:=W2) (p:=⟨gp,b * 6+3,none⟩) slc hgp2).trans y3,(Bl.cellOf (w:=W2) (p:=⟨gp,b * 6+4,none⟩) slc hgp2).trans y4,(Bl.cellOf (w:=W2) (p:=⟨gp,b * 6+5,none⟩) slc hgp2).trans y5⟩,⟨(Bl.cellOf (w:=W2) (p:=⟨gp,c * 6,none⟩) slc hgp2).trans z0,(Bl.cellOf (w:=W2) (p:=⟨gp,c * 6+1,none⟩) slc hgp2).trans z1,(Bl.cellOf (w:=W2) (p:=⟨gp,c * 6+2,none⟩) slc hgp2).trans z2,(Bl.cellOf (w:=W2) (p:=⟨gp,c * 6+3,none⟩) slc hgp2).trans z3,(Bl.cellOf (w:=W2) (p:=⟨gp,c * 6+4,none⟩) slc hgp2).trans z4,(Bl.cellOf (w:=W2) (p:=⟨gp,c * 6+5,none⟩) slc hgp2).trans z5⟩⟩) (fun hHeld=> ?_)
      refine wpAnyH_take (i:=0) (oi:=_) (v:=?_) (fuel:=34) rfl (by kernel_rfl) (by kernel_rfl) (by kernel_rfl) (fun _ _ _ h=> h) (Or.inl ⟨by rfl,?_⟩) hHeld ?_
      rotate_left 1
      · (intro w' hSw;(try dsimp only at hSw);go_simp <;> with_reducible rfl)
      simp only[Act.put,List.getElem_toArray,List.getElem_cons_zero,List.setIfInBounds_toArray,List.set_cons_zero,List.set_cons_succ]
      refine wpAnyH_take (i:=1) (oi:=_) (v:=?_) (fuel:=33) rfl (by kernel_rfl) (by kernel_rfl) (by kernel_rfl) (fun _ _ _ h=> h) (Or.inl ⟨by rfl,?_⟩) hHeld ?_
      rotate_left 1
      · (intro w' hSw;(try dsimp only at hSw);go_simp <;> with_reducible rfl)
      simp only[Act.put,List.getElem_toArray,List.getElem_cons_succ,List.getElem_cons_zero,List.setIfInBounds_toArray,List.set_cons_zero,List.set_cons_succ]
      refine wpAnyH_take (i:=2) (oi:=_) (v:=?_) (fuel:=32) rfl (by kernel_rfl) (by kernel_rfl) (by kernel_rfl) (fun _ _ _ h=> h) (Or.inl ⟨by rfl,?_⟩) hHeld ?_
      rotate_left 1
      · (intro w' hSw;(try dsimp only at hSw);go_simp <;> with_reducible rfl)
      simp only[Act.put,List.getElem_toArray,List.getElem_cons_succ,List.getElem_cons_zero,List.setIfInBounds_toArray,List.set_cons_zero,List.set_cons_succ]
      refine wpAnyH_take (i:=3) (oi:=_) (v:=?_) (fuel:=31) rfl (by kernel_rfl) (by kernel_rfl) (by kernel_rfl) (fun _ _ _ h=> h) (Or.inl ⟨by rfl,?_⟩) hHeld ?_
      rotate_left 1
      · (intro w' hSw;(try dsimp only at hSw);go_simp <;> with_reducible rfl)
      simp only[Act.put,List.getElem_toArray,List.getElem_cons_succ,List.getElem_cons_zero,List.setIfInBounds_toArray,List.set_cons_zero,List.set_cons_succ]
      refine wpAnyH_take (i:=4) (oi:=_) (v:=?_) (fuel:=30) rfl (by kernel_rfl) (by kernel_rfl) (by kernel_rfl) (fun _ _ _ h=> h) (Or.inl ⟨by rfl,?_⟩) hHeld ?_
      rotate_left 1
      · (intro w' hSw;(try dsimp only at hSw);go_simp <;> with_reducible rfl)
      simp only[Act.put,List.getElem_toArray,List.getElem_cons_succ,List.getElem_cons_zero,List.setIfInBounds_toArray,List.set_cons_zero,List.set_cons_succ]
      refine wpAnyH_take (i:=5) (oi:=_) (v:=?_) (fuel:=29) rfl (by kernel_rfl) (by kernel_rfl) (by kernel_rfl) (fun _ _ _ h=> h) (Or.inl ⟨by rfl,?_⟩) hHeld ?_
      rotate_left 1
      · (intro w' hSw;(try dsimp only at hSw);go_simp <;> with_reducible rfl)
      simp only[Act.put,List.getElem_toArray,List.getElem_cons_succ,List.getElem_cons_zero,List.setIfInBounds_toArray,List.set_cons_zero,List.set_cons_succ]
      refine wpAnyH_take (i:=6) (oi:=_) (v:=?_) (fuel:=28) rfl (by kernel_rfl) (by kernel_rfl) (by kernel_rfl) (fun _ _ _ h=> h) (Or.inl ⟨by rfl,?_⟩) hHeld ?_
      rotate_left 1
      · (intro w' hSw;(try dsimp only at hSw);go_simp <;> with_reducible rfl)
      simp only[Act.put,List.getElem_toArray,List.getElem_cons_succ,List.getElem_cons_zero,List.setIfInBounds_toArray,List.set_cons_zero,List.set_cons_succ]
      refine wpAnyH_take (i:=7) (oi:=_) (v:=?_) (fuel:=27) rfl (by kernel_rfl) (by kernel_rfl) (by kernel_rfl) (fun _ _ _ h=> h) (Or.inl ⟨by rfl,?_⟩) hHeld ?_
      rotate_left 1
      · (intro w' hSw;(try dsimp only at hSw);go_simp <;> with_reducible rfl)
      simp only[Act.put,List.getElem_toArray,List.getElem_cons_succ,List.getElem_cons_zero,List.setIfInBounds_toArray,List.set_cons_zero,List.set_cons_succ]
      refine wpAnyH_take (i:=8) (oi:=_) (v:=?_) (fuel:=26) rfl (by kernel_rfl) (by kernel_rfl) (by kernel_rfl) (fun _ _ _ h=> h) (Or.inl ⟨by rfl,?_⟩) hHeld ?_
      rotate_left 1
      · (intro w' hSw;(try dsimp only at hSw);go_simp <;> with_reducible rfl)
      simp only[Act.put,List.getElem_toArray,List.getElem_cons_succ,List.getElem_cons_zero,List.setIfInBounds_toArray,List.set_cons_zero,List.set_cons_succ]
      refine wpAnyH_take (i:=9) (oi:=_) (v:=?_) (fuel:=25) rfl (by kernel_rfl) (by kernel_rfl) (by kernel_rfl) (fun _ _ _ h=> h) (Or.inl ⟨by rfl,?_⟩) hHeld ?_
      rotate_left 1
      · (intro w' hSw;(try dsimp only at hSw);go_simp <;> with_reducible rfl)
      simp only[Act.put,List.getElem_toArray,List.getElem_cons_succ,List.getElem_cons_zero,List.setIfInBounds_toArray,List.set_cons_zero,List.set_cons_succ]
      refine wpAnyH_take (i:=10) (oi:=_) (v:=?_) (fuel:=24) rfl (by kernel_rfl) (by kernel_rfl) (by kernel_rfl) (fun _ _ _ h=> h) (Or.inl ⟨by rfl,?_⟩) hHeld ?_
      rotate_left 1
      · (intro w' hSw;(try dsimp only at hSw);go_simp <;> with_reducible rfl)
      simp only[Act.put,List.getElem_toArray,List.getElem_cons_succ,List.getElem_cons_zero,List.setIfInBounds_toArray,List.set_cons_zero,List.set_cons_succ]
      refine wpAnyH_take (i:=11) (oi:=_) (v:=?_) (fuel:=23) rfl (by kernel_rfl) (by kernel_rfl) (by kernel_rfl) (fun _ _ _ h=> h) (Or.inl ⟨by rfl,?_⟩) hHeld ?_
      rotate_left 1
      · (intro w' hSw;(try dsimp only at hSw);go_simp <;> with_reducible rfl)
      simp only[Act.put,List.getElem_toArray,List.getElem_cons_succ,List.getElem_cons_zero,List.setIfInBounds_toArray,List.set_cons_zero,List.set_cons_succ]
      refine wpAnyH_take (i:=12) (oi:=_) (v:=?_) (fuel:=22) rfl (by kernel_rfl) (by kernel_rfl) (by kernel_rfl) (fun _ _ _ h=> h) (Or.inl ⟨by rfl,?_⟩) hHeld ?_
      rotate_left 1
      · (intro w' hSw;(try dsimp only at hSw);go_simp <;> with_reducible rfl)
      simp only[Act.put,List.getElem_toArray,List.getElem_cons_succ,List.getElem_cons_zero,List.setIfInBounds_toArray,List.set_cons_zero,List.set_cons_succ]
      refine wpAnyH_take (i:=13) (oi:=_) (v:=?_) (fuel:=21) rfl (by kernel_rfl) (by kernel_rfl) (by kernel_rfl) (fun _ _ _ h=> h) (Or.inl ⟨by rfl,?_⟩) hHeld ?_
      rotate_left 1
      · (intro w' hSw;(try dsimp only at hSw);go_simp <;> with_reducible rfl)
      simp only[Act.put,List.getElem_toArray,List.getElem_cons_succ,List.getElem_cons_zero,List.setIfInBounds_toArray,List.set_cons_zero,List.set_cons_succ]
      refine wpAnyH_take (i:=14) (oi:=_) (v:=?_) (fuel:=20) rfl (by kernel_rfl) (by kernel_rfl) (by kernel_rfl) (fun _ _ _ h=> h) (Or.inl ⟨by rfl,?_⟩) hHeld ?_
      rotate_left 1
      · (intro w' hSw;(try dsimp only at hSw);go_simp <;> with_reducible rfl)
      simp only[Act.put,List.getElem_toArray,List.getElem_cons_succ,List.getElem_cons_zero,List.setIfInBounds_toArray,List.set_cons_zero,List.set_cons_succ]
      refine wpAnyH_ready (fuel:=19) (rs:=[15]) (by kernel_rfl) (by simp) ?_
      refine AllReadyH.cons (o:=_) rfl (fun K hK=> ?_) AllReadyH.nil
      go_simp
      with_reducible refine(between_any _ (hX7.bl slc) (hX8.bl slc) (hX9.bl slc) hfa1.out hfb1.out hfc1.out).mono ?_
      rw[hb1.out]
      rintro e v1 ⟨rfl,hv1⟩
      refine hK.out _ _ (by first | exact⟨⟨(Bl.cellOf (w:=W2) (p:=⟨gp,a * 6,none⟩) slc hgp2).trans x0,(Bl.cellOf (w:=W2) (p:=⟨gp,a * 6+1,none⟩) slc hgp2).trans x1,(Bl.cellOf (w:=W2) (p:=⟨gp,a * 6+2,none⟩) slc hgp2).trans x2,(Bl.cellOf (w:=W2) (p:=⟨gp,a * 6+3,none⟩) slc hgp2).trans x3,(Bl.cellOf (w:=W2) (p:=⟨gp,a * 6+4,none⟩) slc hgp2).trans x4,(Bl.cellOf (w:=W2) (p:=⟨gp,a * 6+5,none⟩) slc hgp2).trans x5⟩,⟨(Bl.cellOf (w:=W2) (p:=⟨gp,b * 6,none⟩) slc hgp2).trans y0,(Bl.cellOf (w:=W2) (p:=⟨gp,b * 6+1,none⟩) slc hgp2).trans y1,(Bl.cellOf (w:=W2) (p:=⟨gp,b * 6+2,none⟩) slc hgp2).trans y2,(Bl.cellOf (w:=W2) (p:=⟨gp,b * 6+3,none⟩) slc hgp2).trans y3,(Bl.cellOf (w:=W2) (p:=⟨gp,b * 6+4,none⟩) slc hgp2).trans y4,(Bl.cellOf (w:=W2) (p:=⟨gp,b * 6+5,none⟩) slc hgp2).trans y5⟩,⟨(Bl.cellOf (w:=W2) (p:=⟨gp,c * 6,none⟩) slc hgp2).trans z0,(Bl.cellOf (w:=W2) (p:=⟨gp,c * 6+1,none⟩) slc hgp2).trans z1,(Bl.cellOf (w:=W2) (p:=⟨gp,c * 6+2,none⟩) slc hgp2).trans z2,(Bl.cellOf (w:=W2) (p:=⟨gp,c * 6+3,none⟩) slc hgp2).trans z3,(Bl.cellOf (w:=W2) (p:=⟨gp,c * 6+4,none⟩) slc hgp2).trans z4,(Bl.cellOf (w:=W2) (p:=⟨gp,c * 6+5,none⟩) slc hgp2).trans z5⟩⟩) (fun hHeld=> ?_)
      clear hK K
      try simp only[Act.put,List.setIfInBounds_toArray,List.set_cons_zero,List.set_cons_succ]
      refine wpAnyH_take (i:=16) (oi:=_) (v:=?_) (fuel:=18) rfl (by kernel_rfl) (by kernel_rfl) (by kernel_rfl) (fun _ _ _ h=> h) (Or.inl ⟨by rfl,?_⟩) hHeld ?_
      rotate_left 1
      · (intro w' hSw;(try dsimp only at hSw);go_simp <;> with_reducible rfl)
      simp only[Act.put,List.getElem_toArray,List.getElem_cons_succ,List.getElem_cons_zero,List.setIfInBounds_toArray,List.set_cons_zero,List.set_cons_succ]
      refine wpAnyH_take (i:=17) (oi:=_) (v:=undef) (fuel:=17) rfl (by kernel_rfl) (by kernel_rfl) (by kernel_rfl) (fun _ _ _ h=> h) (Or.inr ⟨by rfl,rfl⟩) hHeld ?_
      simp only[Act.put,List.getElem_toArray,List.getElem_cons_succ,List.getElem_cons_zero,List.setIfInBounds_toArray,List.set_cons_zero,List.set_cons_succ]
      refine wpAnyH_take (i:=18) (oi:=_) (v:=undef) (fuel:=16) rfl (by kernel_rfl) (by kernel_rfl) (by kernel_rfl) (fun _ _ _ h=> h) (Or.inr ⟨by rfl,rfl⟩) hHeld ?_
      simp only[Act.put,List.getElem_toArray,List.getElem_cons_succ,List.getElem_cons_zero,List.setIfInBounds_toArray,List.set_cons_zero,List.set_cons_succ]
      refine wpAnyH_take (i:=19) (oi:=_) (v:=undef) (fuel:=15) rfl (by kernel_rfl) (by kernel_rfl) (by kernel_rfl) (fun _ _ _ h=> h) (Or.inr ⟨by rfl,rfl⟩) hHeld ?_
      simp only[Act.put,List.getElem_toArray,List.getElem_cons_succ,List.getElem_cons_zero,List.setIfInBounds_toArray,List.set_cons_zero,List.set_cons_succ]
      refine wpAnyH_take (i:=20) (oi:=_) (v:=undef) (fuel:=14) rfl (by kernel_rfl) (by kernel_rfl) (by kernel_rfl) (fun _ _ _ h=> h) (Or.inr ⟨by rfl,rfl⟩) hHeld ?_
      simp only[Act.put,List.getElem_toArray,List.getElem_cons_succ,List.getElem_cons_zero,List.setIfInBounds_toArray,List.set_cons_zero,List.set_cons_succ]
      refine wpAnyH_take (i:=21) (oi:=_) (v:=undef) (fuel:=13) rfl (by kernel_rfl) (by kernel_rfl) (by kernel_rfl) (fun _ _ _ h=> h) (Or.inr ⟨by rfl,rfl⟩) hHeld ?_
      simp only[Act.put,List.getElem_toArray,List.getElem_cons_succ,List.getElem_cons_zero,List.setIfInBounds_toArray,List.set_cons_zero,List.set_cons_succ]
      refine wpAnyH_take (i:=22) (oi:=_) (v:=undef) (fuel:=12) rfl (by kernel_rfl) (by kernel_rfl) (by kernel_rfl) (fun _ _ _ h=> h) (Or.inr ⟨by rfl,rfl⟩) hHeld ?_
      simp only[Act.put,List.getElem_toArray,List.getElem_cons_succ,List.getElem_cons_zero,List.setIfInBounds_toArray,List.set_cons_zero,List.set_cons_succ]
      refine wpAnyH_take (i:=23) (oi:=_) (v:=undef) (fuel:=11) rfl (by kernel_rfl) (by kernel_rfl) (by kernel_rfl) (fun _ _ _ h=> h) (Or.inr ⟨by rfl,rfl⟩) hHeld ?_
      simp only[Act.put,List.getElem_toArray,List.getElem_cons_succ,List.getElem_cons_zero,List.setIfInBounds_toArray,List.set_cons_zero,List.set_cons_succ]
      refine wpAnyH_take (i:=24) (oi:=_) (v:=undef) (fuel:=10) rfl (by kernel_rfl) (by kernel_rfl) (by kernel_rfl) (fun _ _ _ h=> h) (Or.inr ⟨by rfl,rfl⟩) hHeld ?_
      simp only[Act.put,List.getElem_toArray,List.getElem_cons_succ,List.getElem_cons_zero,List.setIfInBounds_toArray,List.set_cons_zero,List.set_cons_succ]
      refine wpAnyH_take (i:=25) (oi:=_) (v:=undef) (fuel:=9) rfl (by kernel_rfl) (by kernel_rfl) (by kernel_rfl) (fun _ _ _ h=> h) (Or.inr ⟨by rfl,rfl⟩) hHeld ?_
      simp only[Act.put,List.getElem_toArray,List.getElem_cons_succ,List.getElem_cons_zero,List.setIfInBounds_toArray,List.set_cons_zero,List.set_cons_succ]
      refine wpAnyH_take (i:=26) (oi:=_) (v:=undef) (fuel:=8) rfl (by kernel_rfl) (by kernel_rfl) (by kernel_rfl) (fun _ _ _ h=> h) (Or.inr ⟨by rfl,rfl⟩) hHeld ?_
      simp only[Act.put,List.getElem_toArray,List.getElem_cons_succ,List.getElem_cons_zero,List.setIfInBounds_toArray,List.set_cons_zero,List.set_cons_succ]
      refine wpAnyH_take (i:=27) (oi:=_) (v:=undef) (fuel:=7) rfl (by kernel_rfl) (by kernel_rfl) (by kernel_rfl) (fun _ _ _ h=> h) (Or.inr ⟨by rfl,rfl⟩) hHeld ?_
      simp only[Act.put,List.getElem_toArray,List.getElem_cons_succ,List.getElem_cons_zero,List.setIfInBounds_toArray,List.set_cons_zero,List.set_cons_succ]
      refine wpAnyH_take (i:=28) (oi:=_) (v:=undef) (fuel:=6) rfl (by kernel_rfl) (by kernel_rfl) (by kernel_rfl) (fun _ _ _ h=> h) (Or.inr ⟨by rfl,rfl⟩) hHeld ?_
      simp only[Act.put,List.getElem_toArray,List.getElem_cons_succ,List.getElem_cons_zero,List.setIfInBounds_toArray,List.set_cons_zero,List.set_cons_succ]
      refine wpAnyH_take (i:=29) (oi:=_) (v:=undef) (fuel:=5) rfl (by kernel_rfl) (by kernel_rfl) (by kernel_rfl) (fun _ _ _ h=> h) (Or.inr ⟨by rfl,rfl⟩) hHeld ?_
      simp only[Act.put,List.getElem_toArray,List.getElem_cons_succ,List.getElem_cons_zero,List.setIfInBounds_toArray,List.set_cons_zero,List.set_cons_succ]
      refine wpAnyH_take (i:=30) (oi:=_) (v:=undef) (fuel:=4) rfl (by kernel_rfl) (by kernel_rfl) (by kernel_rfl) (fun _ _ _ h=> h) (Or.inr ⟨by rfl,rfl⟩) hHeld ?_
      simp only[Act.put,List.getElem_toArray,List.getElem_cons_succ,List.getElem_cons_zero,List.setIfInBounds_toArray,List.set_cons_zero,List.set_cons_succ]
      refine wpAnyH_take (i:=31) (oi:=_) (v:=undef) (fuel:=3) rfl (by kernel_rfl) (by kernel_rfl) (by kernel_rfl) (fun _ _ _ h=> h) (Or.inr ⟨by rfl,rfl⟩) hHeld ?_
      simp only[Act.put,List.getElem_toArray,List.getElem_cons_succ,List.getElem_cons_zero,List.setIfInBounds_toArray,List.set_cons_zero,List.set_cons_succ]
      refine wpAnyH_take (i:=32) (oi:=_) (v:=undef) (fuel:=2) rfl (by kernel_rfl) (by kernel_rfl) (by kernel_rfl) (fun _ _ _ h=> h) (Or.inr ⟨by rfl,rfl⟩) hHeld ?_
      simp only[Act.put,List.getElem_toArray,List.getElem_cons_succ,List.getElem_cons_zero,List.setIfInBounds_toArray,List.set_cons_zero,List.set_cons_succ]
      refine wpAnyH_take (i:=33) (oi:=_) (v:=?_) (fuel:=1) rfl (by kernel_rfl) (by kernel_rfl) (by kernel_rfl) (fun _ _ _ h=> h) (Or.inl ⟨by rfl,?_⟩) hHeld ?_
      rotate_left 1
      · (intro w' hSw;(try dsimp only at hSw);go_simp <;> with_reducible rfl)
      simp only[Act.put,List.getElem_toArray,List.getElem_cons_succ,List.getElem_cons_zero,List.setIfInBounds_toArray,List.set_cons_zero,List.set_cons_succ]
      refine wpAnyH_take (i:=34) (oi:=_) (v:=?_) (fuel:=0) rfl (by kernel_rfl) (by kernel_rfl) (by kernel_rfl) (fun _ _ _ h=> h) (Or.inl ⟨by rfl,?_⟩) hHeld ?_
      rotate_left 1
      · (intro w' hSw;(try dsimp only at hSw);go_simp <;> with_reducible rfl)
      simp only[Act.put,List.getElem_toArray,List.getElem_cons_succ,List.getElem_cons_zero,List.setIfInBounds_toArray,List.set_cons_zero,List.set_cons_succ]
      clear hHeld
      refine wpAnyH_done (by kernel_rfl) ?_ _
      go_wp2_with fail
      go_ret
      exact⟨ret_bool (by simp),hbW2.next slc⟩
    · go_region_held3 (fun w' =>(w'.cell? ⟨gp,a * 6,none⟩=some (.bool s7)∧w'.cell? ⟨gp,a * 6+1,none⟩=some (.slice A7 n7 c7)∧w'.cell? ⟨gp,a * 6+2,none⟩=some (.slice B7 m7 d7)∧w'.cell? ⟨gp,a * 6+3,none⟩=some (.bool t7)∧w'.cell? ⟨gp,a * 6+4,none⟩=some (.slice C7 i7 e7)∧w'.cell? ⟨gp,a * 6+5,none⟩=some (.slice D7 j7 f7))∧(w'.cell? ⟨gp,b * 6,none⟩=some (.bool s8)∧w'.cell? ⟨gp,b * 6+1,none⟩=some (.slice A8 n8 c8)∧w'.cell? ⟨gp,b * 6+2,none⟩=some (.slice B8 m8 d8)∧w'.cell? ⟨gp,b * 6+3,none⟩=some (.bool t8)∧w'.cell? ⟨gp,b * 6+4,none⟩=some (.slice C8 i8 e8)∧w'.cell? ⟨gp,b * 6+5,none⟩=some (.slice D8 j8 f8))∧(w'.cell? ⟨gp,c * 6,none⟩=some (.bool s9)∧w'.cell? ⟨gp,c * 6+1,none⟩=some (.slice A9 n9 c9)∧w'.cell? ⟨gp,c * 6+2,none⟩=some (.slice B9 m9 d9)∧w'.cell? ⟨gp,c * 6+3,none⟩=some (.bool t9)∧w'.cell? ⟨gp,c * 6+4,none⟩=some (.slice C9 i9 e9)∧w'.cell? ⟨gp,c * 6+5,none⟩=some (.slice D9 j9 f9))) (first | exact⟨⟨(Bl.cellOf (w:=W2) (p:=⟨gp,a * 6,none⟩) slc hgp2).trans x0,(Bl.cellOf (w:=W2) (p:=⟨gp,a * 6+1,none⟩) slc hgp2).trans x1,(Bl.cellOf (w:=W2) (p:=⟨gp,a * 6+2,none⟩) slc hgp2).trans x2,(Bl.cellOf (w:=W2) (p:=⟨gp,a * 6+3,none⟩) slc hgp2).trans x3,(Bl.cellOf (w:=W2) (p:=⟨gp,a * 6+4,none⟩) slc hgp2).trans x4,(Bl.cellOf (w:=W2) (p:=⟨gp,a * 6+5,none⟩) slc hgp2).trans x5⟩,⟨(Bl.cellOf (w:=W2) (p:=⟨gp,b * 6,none⟩) slc hgp2).trans y0,(Bl.cellOf (w:=W2) (p:=⟨gp,b * 6+1,none⟩) slc hgp2).trans y1,(Bl.cellOf (w:=W2) (p:=⟨gp,b * 6+2,none⟩) slc hgp2).trans y2,(Bl.cellOf (w:=W2) (p:=⟨gp,b * 6+3,none⟩) slc hgp2).trans y3,(Bl.cellOf (w:=W2) (p:=⟨gp,b * 6+4,none⟩) slc hgp2).trans y4,(Bl.cellOf (w:=W2) (p:=⟨gp,b * 6+5,none⟩) slc hgp2).trans y5⟩,⟨(Bl.cellOf (w:=W2) (p:=⟨gp,c * 6,none⟩) slc hgp2).trans z0,(Bl.cellOf (w:=W2) (p:=⟨gp,c * 6+1,none⟩) slc hgp2).trans z1,(Bl.cellOf (w:=W2) (p:=⟨gp,c * 6+2,none⟩) slc hgp2).trans z2,(Bl.cellOf (w:=W2) (p:=⟨gp,c * 6+3,none⟩) slc hgp2).trans z3,(Bl.cellOf (w:=W2) (p:=⟨gp,c * 6+4,none⟩) slc hgp2).trans z4,(Bl.cellOf (w:=W2) (p:=⟨gp,c * 6+5,none⟩) slc hgp2).trans z5⟩⟩) (first |(go_at_call 138;with_reducible refine(between_any _ (hX7.bl slc) (hX8.bl slc) (hX9.bl slc) hfa1.out hfb1.out hfc1.out).mono ?_;rw[hb1.out];rintro e v1 ⟨rfl,hv1⟩) |(go_at_call 138;with_reducible refine(between_any _ (hY7.bl slc) (hY8.bl slc) (hY9.bl slc) hfa2.out hfb2.out hfc2.out).mono ?_;rw[hb2.out];rintro e v2 ⟨rfl,hv2⟩))
      all_goals (go_wp2_with fail)
      all_goals go_ret
      all_goals exact⟨ret_bool (by simp),hbW2.next slc⟩
  · have hzd:decide (z=0)=false:=decide_eq_false hz0
    go_wp2_with fail
    go_ret
    exact⟨ret_bool (by rw[decide_eq_false hz0];rfl),hbW⟩
end

end Go.Proofs.YtjaapemopbbfaaaGreat
