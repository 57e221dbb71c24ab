import Derived.Test.YtjaapemopbbfaaaGreatDoorPMeshesM37
namespace Go.Proofs.YtjaapemopbbfaaaGreatDoor
open Go.RowKit
set_option maxRecDepth 100000
set_option maxHeartbeats 32000000
theorem Jo.set {g n c b:Nat}{w:World}{A:Option Addr}{l:List Int}{s:Int × Int}(h:Jo g w A n c l s) (hb:b≠g) (hA:∀ad,A=Option.some ad->0<n->ad.block≠b) (o:Nat) (u:Value):Jo g (w.setCell ⟨b,o,none⟩ u) A n c l s:=by
 obtain⟨h1,h2,h3,h4,h5⟩:=h
 exact⟨h1.far (λe=>hb e.symm) u,h2,h3,h4.ob hA ((Ob.refl [b] w).set (by simp) o u),h5⟩
def coF (l:List Int) (s:Int × Int):MeQ × (Int × Int) :=
 if (beF l s 3).1=0 then (qa6 (beF l (beF l s 3).2 2).1,(beF l (beF l s 3).2 2).2)else if (beF l s 3).1=1 then (K7 (beF l (beF l s 3).2 3).1,(beF l (beF l s 3).2 3).2)else (qbl,(beF l s 3).2)
def Ud (w:World) (g:Nat) (A:Option Addr) (n c:Nat) (l:List Int) (s:Int × Int) (e:Ending) (w':World):Prop:=∃v,e=.returned v/\(coF l s).1∈csL/\Qo w.heap.size w' v (coF l s).1/\Jo g w' A n c l (coF l s).2/\Ob [g] w w'
def coM (l:List Int):MeQ:=(coF l (nwS l)).1
theorem UO (w:World) {g n c:Nat}{A:Option Addr}{l:List Int}{s:Int × Int}(hC:Jo g w A n c l s) :
  Calls Tryz.prog 116 #[.pointer (some ⟨g,0,none⟩)] w (Ud w g A n c l s):=by
 have hgw:=hC.lt
 have hwg:w.heap.size≠g:=by omega
 have hAl:∀ad,A=Option.some ad->0<n->ad.block<w.heap.size:=λad e h0=>by
  obtain⟨_,_,_,hR,_⟩:=hC
  obtain⟨_,e2,hl,_⟩:=hR.cells 0 h0
  rw[e]at e2
  cases e2
  exact hl
 have hwA:∀ad,A=Option.some ad->0<n->ad.block≠w.heap.size:=λad e h0=>by have:=hAl ad e h0;omega
 replace hwA:=Lib.hid hwA
 clear hAl
 go_enter Tryz.func116,Tryz.ntmps116
 go_wp2_with fail
 refine qd (λW=>Wk 2 49 w.heap.size W/\Bl w W) ⟨bts,slc⟩ ?_
 rintro W ⟨hr,hbW⟩
 have hC:=hC.bl hbW
 refine(yM _ 3 (by omega) (by omega) hC).mono ?_
 rintro e W1 ⟨rfl,hx0,hx1,hC,hO1⟩
 have hv:coF l s=(if (beF l s 3).1=0 then (qa6 (beF l (beF l s 3).2 2).1,(beF l (beF l s 3).2 2).2)else if (beF l s 3).1=1 then (K7 (beF l (beF l s 3).2 3).1,(beF l (beF l s 3).2 3).2)else (qbl,(beF l s 3).2)):=rfl
 obtain⟨bb,hbb⟩:∃bb,beF l s 3=bb:=⟨_,rfl⟩
 rw[hbb]at hx0 hx1 hC hv ⊢
 obtain⟨x,s1⟩:=bb
 dsimp only at hx0 hx1 hC hv ⊢
 clear hbb
 replace hv:=Lib.hid hv
 have hr:=hr.ob hO1 (by simp;omega)
 have hO:=(Ob.of_bl hbW [g]).trans hO1
 clear hO1 hbW
 rcases(show x=0\/x=1\/x=2 by omega)with rfl|rfl|rfl
 ·clear hx0 hx1
  go_wp2_with fail
  refine(qA _ 0 0 (by omega) (by omega) (by omega) (by omega)).mono ?_
  rintro e u0 ⟨s0_,A0_,n0_,c0_,B0_,m0_,d0_,t0_,C0_,i0_,e0_,D0_,j0_,f0_,rfl,hP0,hb0⟩
  rw[qcw]at hP0
  have hP0:=zw.low' (zw.q hP0) (show w.heap.size+1<=_ by have:=hr.lt;omega)
  have hr:=hr.bl hb0
  have hC:=hC.bl hb0
  have hO:=hO.trans (Ob.of_bl hb0 _)
  clear hb0
  go_wp2_with fail
  refine(qA _ 2 0 (by omega) (by omega) (by omega) (by omega)).mono ?_
  rintro e u1 ⟨s1_,A1_,n1_,c1_,B1_,m1_,d1_,t1_,C1_,i1_,e1_,D1_,j1_,f1_,rfl,hP1,hb1⟩
  rw[qcD]at hP1
  have hP1:=zw.low' (zw.q hP1) (show w.heap.size+1<=_ by have:=hr.lt;omega)
  have hr:=hr.bl hb1
  have hC:=hC.bl hb1
  have hO:=hO.trans (Ob.of_bl hb1 _)
  have hP0:=hP0.bl' hb1
  clear hb1
  go_wp2_with fail
  refine(qA _ 2 2 (by omega) (by omega) (by omega) (by omega)).mono ?_
  rintro e u2 ⟨s2_,A2_,n2_,c2_,B2_,m2_,d2_,t2_,C2_,i2_,e2_,D2_,j2_,f2_,rfl,hP2,hb2⟩
  rw[qeq]at hP2
  have hP2:=zw.low' (zw.q hP2) (show w.heap.size+1<=_ by have:=hr.lt;omega)
  have hr:=hr.bl hb2
  have hC:=hC.bl hb2
  have hO:=hO.trans (Ob.of_bl hb2 _)
  have hP0:=hP0.bl' hb2
  have hP1:=hP1.bl' hb2
  clear hb2
  go_wp2_with fail
  refine(qA _ 0 2 (by omega) (by omega) (by omega) (by omega)).mono ?_
  rintro e u3 ⟨s3_,A3_,n3_,c3_,B3_,m3_,d3_,t3_,C3_,i3_,e3_,D3_,j3_,f3_,rfl,hP3,hb3⟩
  rw[qb2]at hP3
  have hP3:=zw.low' (zw.q hP3) (show w.heap.size+1<=_ by have:=hr.lt;omega)
  have hr:=hr.bl hb3
  have hC:=hC.bl hb3
  have hO:=hO.trans (Ob.of_bl hb3 _)
  have hP0:=hP0.bl' hb3
  have hP1:=hP1.bl' hb3
  have hP2:=hP2.bl' hb3
  clear hb3
  go_wp2_with fail
  refine(qA _ 1 1 (by omega) (by omega) (by omega) (by omega)).mono ?_
  rintro e u4 ⟨s4_,A4_,n4_,c4_,B4_,m4_,d4_,t4_,C4_,i4_,e4_,D4_,j4_,f4_,rfl,hP4,hb4⟩
  rw[qdH]at hP4
  have hP4:=zw.low' (zw.q hP4) (show w.heap.size+1<=_ by have:=hr.lt;omega)
  have hr:=hr.bl hb4
  have hC:=hC.bl hb4
  have hO:=hO.trans (Ob.of_bl hb4 _)
  have hP0:=hP0.bl' hb4
  have hP1:=hP1.bl' hb4
  have hP2:=hP2.bl' hb4
  have hP3:=hP3.bl' hb4
  clear hb4
  go_wp2_with fail
  refine qd (λW2=>Bl u4 W2/\∃gP,Blk W2 gP 28 #[.bool s0_,.slice A0_ n0_ c0_,.slice B0_ m0_ d0_,.bool t0_,.slice C0_ i0_ e0_,.slice D0_ j0_ f0_,.bool s1_,.slice A1_ n1_ c1_,.slice B1_ m1_ d1_,.bool t1_,.slice C1_ i1_ e1_,.slice D1_ j1_ f1_,.bool s2_,.slice A2_ n2_ c2_,.slice B2_ m2_ d2_,.bool t2_,.slice C2_ i2_ e2_,.slice D2_ j2_ f2_,.bool s3_,.slice A3_ n3_ c3_,.slice B3_ m3_ d3_,.bool t3_,.slice C3_ i3_ e3_,.slice D3_ j3_ f3_,.bool s4_,.slice A4_ n4_ c4_,.slice B4_ m4_ d4_,.bool t4_,.slice C4_ i4_ e4_,.slice D4_ j4_ f4_]/\gP=u4.heap.size) ⟨by exact slc,_,by exact bts,rfl⟩ ?_
  rintro W2 ⟨hb2,gP,hBP,hgP⟩
  rw[<-hgP]
  have hgP2:w.heap.size+1<=gP:=by have:=hr.lt;omega
  have hr:=hr.bl hb2
  have hC:=hC.bl hb2
  have hO:=hO.trans (Ob.of_bl hb2 _)
  have hP0:=hP0.bl' hb2
  have hP1:=hP1.bl' hb2
  have hP2:=hP2.bl' hb2
  have hP3:=hP3.bl' hb2
  have hP4:=hP4.bl' hb2
  clear hb2 hgP
  have hv:=(hv.out.trans (by simp):coF l s=(qa6 (beF l s1 2).1,(beF l s1 2).2))
  refine(yM _ 2 (by omega) (by omega) hC).mono ?_
  rintro e W3 ⟨rfl,hr0,hr1,hC,hO3⟩
  obtain⟨bb,hbb⟩:∃bb,beF l s1 2=bb:=⟨_,rfl⟩
  rw[hbb]at hr0 hr1 hC hv ⊢
  obtain⟨r,s2⟩:=bb
  dsimp only at hr0 hr1 hC hv ⊢
  clear hbb
  replace hv:=Lib.hid hv
  have hBP:=hBP.ob hO3 (by simp;omega)
  have hr:=hr.ob hO3 (by simp;omega)
  have hO:=hO.trans hO3
  have hP0:=hP0.ob' hO3 (show g<w.heap.size+1 by omega)
  have hP1:=hP1.ob' hO3 (show g<w.heap.size+1 by omega)
  have hP2:=hP2.ob' hO3 (show g<w.heap.size+1 by omega)
  have hP3:=hP3.ob' hO3 (show g<w.heap.size+1 by omega)
  have hP4:=hP4.ob' hO3 (show g<w.heap.size+1 by omega)
  clear hO3
  obtain⟨v0,x0⟩:=hr.val_ (i:=0) (by omega)
  obtain⟨v1,x1⟩:=hr.val_ (i:=1) (by omega)
  have hgr:=hr.lt
  have hr2:=hr
  obtain⟨cs4,hB4,hc4⟩:=hr2
  have hf0:=hB4.frozen 0
  have hf1:=hB4.frozen 1
  go_wp2_with fail
  have hbz:Bl W3 (W3.alloc (.cells #[.int .i64 4,.int .i64 0,.int .i64 1,.int .i64 0,.int .i64 0,.int .i64 4,.int .i64 1,.int .i64 2,.int .i64 0,.int .i64 0,.int .i64 4,.int .i64 2,.int .i64 3,.int .i64 1,.int .i64 0,.int .i64 4,.int .i64 3,.int .i64 0,.int .i64 r,.int .i64 0] 83)):=slc
  have hM:Qo (w.heap.size+1) (W3.alloc (.cells #[.int .i64 4,.int .i64 0,.int .i64 1,.int .i64 0,.int .i64 0,.int .i64 4,.int .i64 1,.int .i64 2,.int .i64 0,.int .i64 0,.int .i64 4,.int .i64 2,.int .i64 3,.int .i64 1,.int .i64 0,.int .i64 4,.int .i64 3,.int .i64 0,.int .i64 r,.int .i64 0] 83)) (.agg #[.slice (some ⟨gP,0,none⟩) 5 5,.slice (some ⟨W3.heap.size,0,none⟩) 4 4]) (qa6 r):=by
   refine Qo.ofB (hBP.bl hbz) (Blk.new _ _ _) ?_ ?_ hgP2 (by omega) rfl rfl (by omega) (by omega)
   ·intro k hk
    rcases(show k=0\/k=1\/k=2\/k=3\/k=4 by simp[qa6]at hk;omega)with rfl|rfl|rfl|rfl|rfl
    ·exact⟨_,_,_,_,_,_,_,_,_,_,_,_,_,_,⟨rfl,rfl,rfl,rfl,rfl,rfl⟩,hP0.bl' hbz⟩
    ·exact⟨_,_,_,_,_,_,_,_,_,_,_,_,_,_,⟨rfl,rfl,rfl,rfl,rfl,rfl⟩,hP1.bl' hbz⟩
    ·exact⟨_,_,_,_,_,_,_,_,_,_,_,_,_,_,⟨rfl,rfl,rfl,rfl,rfl,rfl⟩,hP2.bl' hbz⟩
    ·exact⟨_,_,_,_,_,_,_,_,_,_,_,_,_,_,⟨rfl,rfl,rfl,rfl,rfl,rfl⟩,hP3.bl' hbz⟩
    ·exact⟨_,_,_,_,_,_,_,_,_,_,_,_,_,_,⟨rfl,rfl,rfl,rfl,rfl,rfl⟩,hP4.bl' hbz⟩
   ·intro k hk
    rcases(show k=0\/k=1\/k=2\/k=3 by simp[qa6]at hk;omega)with rfl|rfl|rfl|rfl <;> exact⟨rfl,rfl,rfl,rfl,rfl⟩
  rw[zd (W:=W3.setCell ⟨w.heap.size,0,none⟩ _) (by simpa using hgr),zd (W:=W3) hgr]
  have hC:=hC.bl hbz
  have hO:=hO.trans (Ob.of_bl hbz _)
  replace x0:=(hbz.qeV (p:=⟨w.heap.size,0,none⟩) hgr).trans x0
  replace x1:=(hbz.qeV (p:=⟨w.heap.size,1,none⟩) hgr).trans x1
  clear hbz
  generalize (W3.alloc (.cells #[.int .i64 4,.int .i64 0,.int .i64 1,.int .i64 0,.int .i64 0,.int .i64 4,.int .i64 1,.int .i64 2,.int .i64 0,.int .i64 0,.int .i64 4,.int .i64 2,.int .i64 3,.int .i64 1,.int .i64 0,.int .i64 4,.int .i64 3,.int .i64 0,.int .i64 r,.int .i64 0] 83))=Wz at hM hC hO x0 x1 ⊢
  unfold Ud
  rw[hv.out]
  exact bodyPost_ret (v:=.agg #[.slice (some ⟨gP,0,none⟩) 5 5,.slice (some ⟨W3.heap.size,0,none⟩) 4 4]) (by simp[results,Tryz.results116,go_sem,x0,x1]) rfl ⟨_,rfl,KP hr0 hr1,Qo.low (Qo.setLow (Qo.setLow hM (q:=⟨w.heap.size,0,none⟩) (show w.heap.size<w.heap.size+1 by omega) _) (q:=⟨w.heap.size,1,none⟩) (show w.heap.size<w.heap.size+1 by omega) _) (by omega),Jo.set (Jo.set hC hwg hwA.out 0 _) hwg hwA.out 1 _,Ob.far (Ob.far hO (Nat.le_refl _) 0 _) (Nat.le_refl _) 1 _⟩
 ·clear hx0 hx1
  go_wp2_with fail
  refine(qA _ 0 0 (by omega) (by omega) (by omega) (by omega)).mono ?_
  rintro e u0 ⟨s0_,A0_,n0_,c0_,B0_,m0_,d0_,t0_,C0_,i0_,e0_,D0_,j0_,f0_,rfl,hP0,hb0⟩
  rw[qcw]at hP0
  have hP0:=zw.low' (zw.q hP0) (show w.heap.size+1<=_ by have:=hr.lt;omega)
  have hr:=hr.bl hb0
  have hC:=hC.bl hb0
  have hO:=hO.trans (Ob.of_bl hb0 _)
  clear hb0
  go_wp2_with fail
  refine(qA _ 2 0 (by omega) (by omega) (by omega) (by omega)).mono ?_
  rintro e u1 ⟨s1_,A1_,n1_,c1_,B1_,m1_,d1_,t1_,C1_,i1_,e1_,D1_,j1_,f1_,rfl,hP1,hb1⟩
  rw[qcD]at hP1
  have hP1:=zw.low' (zw.q hP1) (show w.heap.size+1<=_ by have:=hr.lt;omega)
  have hr:=hr.bl hb1
  have hC:=hC.bl hb1
  have hO:=hO.trans (Ob.of_bl hb1 _)
  have hP0:=hP0.bl' hb1
  clear hb1
  go_wp2_with fail
  refine(qA _ 2 1 (by omega) (by omega) (by omega) (by omega)).mono ?_
  rintro e u2 ⟨s2_,A2_,n2_,c2_,B2_,m2_,d2_,t2_,C2_,i2_,e2_,D2_,j2_,f2_,rfl,hP2,hb2⟩
  rw[qdN]at hP2
  have hP2:=zw.low' (zw.q hP2) (show w.heap.size+1<=_ by have:=hr.lt;omega)
  have hr:=hr.bl hb2
  have hC:=hC.bl hb2
  have hO:=hO.trans (Ob.of_bl hb2 _)
  have hP0:=hP0.bl' hb2
  have hP1:=hP1.bl' hb2
  clear hb2
  go_wp2_with fail
  refine(qA _ 0 2 (by omega) (by omega) (by omega) (by omega)).mono ?_
  rintro e u3 ⟨s3_,A3_,n3_,c3_,B3_,m3_,d3_,t3_,C3_,i3_,e3_,D3_,j3_,f3_,rfl,hP3,hb3⟩
  rw[qb2]at hP3
  have hP3:=zw.low' (zw.q hP3) (show w.heap.size+1<=_ by have:=hr.lt;omega)
  have hr:=hr.bl hb3
  have hC:=hC.bl hb3
  have hO:=hO.trans (Ob.of_bl hb3 _)
  have hP0:=hP0.bl' hb3
  have hP1:=hP1.bl' hb3
  have hP2:=hP2.bl' hb3
  clear hb3
  go_wp2_with fail
  refine qd (λW2=>Bl u3 W2/\∃gP,Blk W2 gP 28 #[.bool s0_,.slice A0_ n0_ c0_,.slice B0_ m0_ d0_,.bool t0_,.slice C0_ i0_ e0_,.slice D0_ j0_ f0_,.bool s1_,.slice A1_ n1_ c1_,.slice B1_ m1_ d1_,.bool t1_,.slice C1_ i1_ e1_,.slice D1_ j1_ f1_,.bool s2_,.slice A2_ n2_ c2_,.slice B2_ m2_ d2_,.bool t2_,.slice C2_ i2_ e2_,.slice D2_ j2_ f2_,.bool s3_,.slice A3_ n3_ c3_,.slice B3_ m3_ d3_,.bool t3_,.slice C3_ i3_ e3_,.slice D3_ j3_ f3_]/\gP=u3.heap.size) ⟨by exact slc,_,by exact bts,rfl⟩ ?_
  rintro W2 ⟨hb2,gP,hBP,hgP⟩
  rw[<-hgP]
  have hgP2:w.heap.size+1<=gP:=by have:=hr.lt;omega
  have hr:=hr.bl hb2
  have hC:=hC.bl hb2
  have hO:=hO.trans (Ob.of_bl hb2 _)
  have hP0:=hP0.bl' hb2
  have hP1:=hP1.bl' hb2
  have hP2:=hP2.bl' hb2
  have hP3:=hP3.bl' hb2
  clear hb2 hgP
  have hv:=(hv.out.trans (by simp):coF l s=(K7 (beF l s1 3).1,(beF l s1 3).2))
  refine(yM _ 3 (by omega) (by omega) hC).mono ?_
  rintro e W3 ⟨rfl,hr0,hr1,hC,hO3⟩
  obtain⟨bb,hbb⟩:∃bb,beF l s1 3=bb:=⟨_,rfl⟩
  rw[hbb]at hr0 hr1 hC hv ⊢
  obtain⟨r,s2⟩:=bb
  dsimp only at hr0 hr1 hC hv ⊢
  clear hbb
  replace hv:=Lib.hid hv
  have hBP:=hBP.ob hO3 (by simp;omega)
  have hr:=hr.ob hO3 (by simp;omega)
  have hO:=hO.trans hO3
  have hP0:=hP0.ob' hO3 (show g<w.heap.size+1 by omega)
  have hP1:=hP1.ob' hO3 (show g<w.heap.size+1 by omega)
  have hP2:=hP2.ob' hO3 (show g<w.heap.size+1 by omega)
  have hP3:=hP3.ob' hO3 (show g<w.heap.size+1 by omega)
  clear hO3
  obtain⟨v0,x0⟩:=hr.val_ (i:=0) (by omega)
  obtain⟨v1,x1⟩:=hr.val_ (i:=1) (by omega)
  have hgr:=hr.lt
  have hr2:=hr
  obtain⟨cs4,hB4,hc4⟩:=hr2
  have hf0:=hB4.frozen 0
  have hf1:=hB4.frozen 1
  go_wp2_with fail
  have hbz:Bl W3 (W3.alloc (.cells #[.int .i64 1,.int .i64 2,.int .i64 0,.int .i64 0,.int .i64 0,.int .i64 3,.int .i64 0,.int .i64 2,.int .i64 r,.int .i64 0] 83)):=slc
  have hM:Qo (w.heap.size+1) (W3.alloc (.cells #[.int .i64 1,.int .i64 2,.int .i64 0,.int .i64 0,.int .i64 0,.int .i64 3,.int .i64 0,.int .i64 2,.int .i64 r,.int .i64 0] 83)) (.agg #[.slice (some ⟨gP,0,none⟩) 4 4,.slice (some ⟨W3.heap.size,0,none⟩) 2 2]) (K7 r):=by
   refine Qo.ofB (hBP.bl hbz) (Blk.new _ _ _) ?_ ?_ hgP2 (by omega) rfl rfl (by omega) (by omega)
   ·intro k hk
    rcases(show k=0\/k=1\/k=2\/k=3 by simp[K7]at hk;omega)with rfl|rfl|rfl|rfl
    ·exact⟨_,_,_,_,_,_,_,_,_,_,_,_,_,_,⟨rfl,rfl,rfl,rfl,rfl,rfl⟩,hP0.bl' hbz⟩
    ·exact⟨_,_,_,_,_,_,_,_,_,_,_,_,_,_,⟨rfl,rfl,rfl,rfl,rfl,rfl⟩,hP1.bl' hbz⟩
    ·exact⟨_,_,_,_,_,_,_,_,_,_,_,_,_,_,⟨rfl,rfl,rfl,rfl,rfl,rfl⟩,hP2.bl' hbz⟩
    ·exact⟨_,_,_,_,_,_,_,_,_,_,_,_,_,_,⟨rfl,rfl,rfl,rfl,rfl,rfl⟩,hP3.bl' hbz⟩
   ·intro k hk
    rcases(show k=0\/k=1 by simp[K7]at hk;omega)with rfl|rfl <;> exact⟨rfl,rfl,rfl,rfl,rfl⟩
  rw[zd (W:=W3.setCell ⟨w.heap.size,0,none⟩ _) (by simpa using hgr),zd (W:=W3) hgr]
  have hC:=hC.bl hbz
  have hO:=hO.trans (Ob.of_bl hbz _)
  replace x0:=(hbz.qeV (p:=⟨w.heap.size,0,none⟩) hgr).trans x0
  replace x1:=(hbz.qeV (p:=⟨w.heap.size,1,none⟩) hgr).trans x1
  clear hbz
  generalize (W3.alloc (.cells #[.int .i64 1,.int .i64 2,.int .i64 0,.int .i64 0,.int .i64 0,.int .i64 3,.int .i64 0,.int .i64 2,.int .i64 r,.int .i64 0] 83))=Wz at hM hC hO x0 x1 ⊢
  unfold Ud
  rw[hv.out]
  exact bodyPost_ret (v:=.agg #[.slice (some ⟨gP,0,none⟩) 4 4,.slice (some ⟨W3.heap.size,0,none⟩) 2 2]) (by simp[results,Tryz.results116,go_sem,x0,x1]) rfl ⟨_,rfl,KN hr0 hr1,Qo.low (Qo.setLow (Qo.setLow hM (q:=⟨w.heap.size,0,none⟩) (show w.heap.size<w.heap.size+1 by omega) _) (q:=⟨w.heap.size,1,none⟩) (show w.heap.size<w.heap.size+1 by omega) _) (by omega),Jo.set (Jo.set hC hwg hwA.out 0 _) hwg hwA.out 1 _,Ob.far (Ob.far hO (Nat.le_refl _) 0 _) (Nat.le_refl _) 1 _⟩
 ·clear hx0 hx1
  go_wp2_with fail
  refine(qA _ 0 0 (by omega) (by omega) (by omega) (by omega)).mono ?_
  rintro e u0 ⟨s0_,A0_,n0_,c0_,B0_,m0_,d0_,t0_,C0_,i0_,e0_,D0_,j0_,f0_,rfl,hP0,hb0⟩
  rw[qcw]at hP0
  have hP0:=zw.low' (zw.q hP0) (show w.heap.size+1<=_ by have:=hr.lt;omega)
  have hr:=hr.bl hb0
  have hC:=hC.bl hb0
  have hO:=hO.trans (Ob.of_bl hb0 _)
  clear hb0
  go_wp2_with fail
  refine(qA _ 1 0 (by omega) (by omega) (by omega) (by omega)).mono ?_
  rintro e u1 ⟨s1_,A1_,n1_,c1_,B1_,m1_,d1_,t1_,C1_,i1_,e1_,D1_,j1_,f1_,rfl,hP1,hb1⟩
  rw[qey]at hP1
  have hP1:=zw.low' (zw.q hP1) (show w.heap.size+1<=_ by have:=hr.lt;omega)
  have hr:=hr.bl hb1
  have hC:=hC.bl hb1
  have hO:=hO.trans (Ob.of_bl hb1 _)
  have hP0:=hP0.bl' hb1
  clear hb1
  go_wp2_with fail
  refine(qA _ 2 0 (by omega) (by omega) (by omega) (by omega)).mono ?_
  rintro e u2 ⟨s2_,A2_,n2_,c2_,B2_,m2_,d2_,t2_,C2_,i2_,e2_,D2_,j2_,f2_,rfl,hP2,hb2⟩
  rw[qcD]at hP2
  have hP2:=zw.low' (zw.q hP2) (show w.heap.size+1<=_ by have:=hr.lt;omega)
  have hr:=hr.bl hb2
  have hC:=hC.bl hb2
  have hO:=hO.trans (Ob.of_bl hb2 _)
  have hP0:=hP0.bl' hb2
  have hP1:=hP1.bl' hb2
  clear hb2
  go_wp2_with fail
  refine(qA _ 2 1 (by omega) (by omega) (by omega) (by omega)).mono ?_
  rintro e u3 ⟨s3_,A3_,n3_,c3_,B3_,m3_,d3_,t3_,C3_,i3_,e3_,D3_,j3_,f3_,rfl,hP3,hb3⟩
  rw[qdN]at hP3
  have hP3:=zw.low' (zw.q hP3) (show w.heap.size+1<=_ by have:=hr.lt;omega)
  have hr:=hr.bl hb3
  have hC:=hC.bl hb3
  have hO:=hO.trans (Ob.of_bl hb3 _)
  have hP0:=hP0.bl' hb3
  have hP1:=hP1.bl' hb3
  have hP2:=hP2.bl' hb3
  clear hb3
  go_wp2_with fail
  refine(qA _ 1 1 (by omega) (by omega) (by omega) (by omega)).mono ?_
  rintro e u4 ⟨s4_,A4_,n4_,c4_,B4_,m4_,d4_,t4_,C4_,i4_,e4_,D4_,j4_,f4_,rfl,hP4,hb4⟩
  rw[qdH]at hP4
  have hP4:=zw.low' (zw.q hP4) (show w.heap.size+1<=_ by have:=hr.lt;omega)
  have hr:=hr.bl hb4
  have hC:=hC.bl hb4
  have hO:=hO.trans (Ob.of_bl hb4 _)
  have hP0:=hP0.bl' hb4
  have hP1:=hP1.bl' hb4
  have hP2:=hP2.bl' hb4
  have hP3:=hP3.bl' hb4
  clear hb4
  go_wp2_with fail
  refine(qA _ 1 2 (by omega) (by omega) (by omega) (by omega)).mono ?_
  rintro e u5 ⟨s5_,A5_,n5_,c5_,B5_,m5_,d5_,t5_,C5_,i5_,e5_,D5_,j5_,f5_,rfl,hP5,hb5⟩
  rw[qeA]at hP5
  have hP5:=zw.low' (zw.q hP5) (show w.heap.size+1<=_ by have:=hr.lt;omega)
  have hr:=hr.bl hb5
  have hC:=hC.bl hb5
  have hO:=hO.trans (Ob.of_bl hb5 _)
  have hP0:=hP0.bl' hb5
  have hP1:=hP1.bl' hb5
  have hP2:=hP2.bl' hb5
  have hP3:=hP3.bl' hb5
  have hP4:=hP4.bl' hb5
  clear hb5
  go_wp2_with fail
  refine(qA _ 0 2 (by omega) (by omega) (by omega) (by omega)).mono ?_
  rintro e u6 ⟨s6_,A6_,n6_,c6_,B6_,m6_,d6_,t6_,C6_,i6_,e6_,D6_,j6_,f6_,rfl,hP6,hb6⟩
  rw[qb2]at hP6
  have hP6:=zw.low' (zw.q hP6) (show w.heap.size+1<=_ by have:=hr.lt;omega)
  have hr:=hr.bl hb6
  have hC:=hC.bl hb6
  have hO:=hO.trans (Ob.of_bl hb6 _)
  have hP0:=hP0.bl' hb6
  have hP1:=hP1.bl' hb6
  have hP2:=hP2.bl' hb6
  have hP3:=hP3.bl' hb6
  have hP4:=hP4.bl' hb6
  have hP5:=hP5.bl' hb6
  clear hb6
  go_wp2_with fail
  refine(qA _ 0 1 (by omega) (by omega) (by omega) (by omega)).mono ?_
  rintro e u7 ⟨s7_,A7_,n7_,c7_,B7_,m7_,d7_,t7_,C7_,i7_,e7_,D7_,j7_,f7_,rfl,hP7,hb7⟩
  rw[qew]at hP7
  have hP7:=zw.low' (zw.q hP7) (show w.heap.size+1<=_ by have:=hr.lt;omega)
  have hr:=hr.bl hb7
  have hC:=hC.bl hb7
  have hO:=hO.trans (Ob.of_bl hb7 _)
  have hP0:=hP0.bl' hb7
  have hP1:=hP1.bl' hb7
  have hP2:=hP2.bl' hb7
  have hP3:=hP3.bl' hb7
  have hP4:=hP4.bl' hb7
  have hP5:=hP5.bl' hb7
  have hP6:=hP6.bl' hb7
  clear hb7
  obtain⟨v0,x0⟩:=hr.val_ (i:=0) (by omega)
  obtain⟨v1,x1⟩:=hr.val_ (i:=1) (by omega)
  have hgr:=hr.lt
  have hr2:=hr
  obtain⟨cs4,hB4,hc4⟩:=hr2
  have hf0:=hB4.frozen 0
  have hf1:=hB4.frozen 1
  go_wp2_with fail
  have hbz:Bl u7 ((u7.alloc (.cells #[.bool s0_,.slice A0_ n0_ c0_,.slice B0_ m0_ d0_,.bool t0_,.slice C0_ i0_ e0_,.slice D0_ j0_ f0_,.bool s1_,.slice A1_ n1_ c1_,.slice B1_ m1_ d1_,.bool t1_,.slice C1_ i1_ e1_,.slice D1_ j1_ f1_,.bool s2_,.slice A2_ n2_ c2_,.slice B2_ m2_ d2_,.bool t2_,.slice C2_ i2_ e2_,.slice D2_ j2_ f2_,.bool s3_,.slice A3_ n3_ c3_,.slice B3_ m3_ d3_,.bool t3_,.slice C3_ i3_ e3_,.slice D3_ j3_ f3_,.bool s4_,.slice A4_ n4_ c4_,.slice B4_ m4_ d4_,.bool t4_,.slice C4_ i4_ e4_,.slice D4_ j4_ f4_,.bool s5_,.slice A5_ n5_ c5_,.slice B5_ m5_ d5_,.bool t5_,.slice C5_ i5_ e5_,.slice D5_ j5_ f5_,.bool s6_,.slice A6_ n6_ c6_,.slice B6_ m6_ d6_,.bool t6_,.slice C6_ i6_ e6_,.slice D6_ j6_ f6_,.bool s7_,.slice A7_ n7_ c7_,.slice B7_ m7_ d7_,.bool t7_,.slice C7_ i7_ e7_,.slice D7_ j7_ f7_] 28)).alloc (.cells #[.int .i64 1,.int .i64 4,.int .i64 0,.int .i64 0,.int .i64 0,.int .i64 7,.int .i64 0,.int .i64 4,.int .i64 0,.int .i64 0,.int .i64 3,.int .i64 4,.int .i64 2,.int .i64 0,.int .i64 0,.int .i64 1,.int .i64 2,.int .i64 4,.int .i64 1,.int .i64 0,.int .i64 7,.int .i64 4,.int .i64 6,.int .i64 0,.int .i64 0,.int .i64 5,.int .i64 6,.int .i64 4,.int .i64 2,.int .i64 0] 83)):=slc
  have hM:Qo (w.heap.size+1) ((u7.alloc (.cells #[.bool s0_,.slice A0_ n0_ c0_,.slice B0_ m0_ d0_,.bool t0_,.slice C0_ i0_ e0_,.slice D0_ j0_ f0_,.bool s1_,.slice A1_ n1_ c1_,.slice B1_ m1_ d1_,.bool t1_,.slice C1_ i1_ e1_,.slice D1_ j1_ f1_,.bool s2_,.slice A2_ n2_ c2_,.slice B2_ m2_ d2_,.bool t2_,.slice C2_ i2_ e2_,.slice D2_ j2_ f2_,.bool s3_,.slice A3_ n3_ c3_,.slice B3_ m3_ d3_,.bool t3_,.slice C3_ i3_ e3_,.slice D3_ j3_ f3_,.bool s4_,.slice A4_ n4_ c4_,.slice B4_ m4_ d4_,.bool t4_,.slice C4_ i4_ e4_,.slice D4_ j4_ f4_,.bool s5_,.slice A5_ n5_ c5_,.slice B5_ m5_ d5_,.bool t5_,.slice C5_ i5_ e5_,.slice D5_ j5_ f5_,.bool s6_,.slice A6_ n6_ c6_,.slice B6_ m6_ d6_,.bool t6_,.slice C6_ i6_ e6_,.slice D6_ j6_ f6_,.bool s7_,.slice A7_ n7_ c7_,.slice B7_ m7_ d7_,.bool t7_,.slice C7_ i7_ e7_,.slice D7_ j7_ f7_] 28)).alloc (.cells #[.int .i64 1,.int .i64 4,.int .i64 0,.int .i64 0,.int .i64 0,.int .i64 7,.int .i64 0,.int .i64 4,.int .i64 0,.int .i64 0,.int .i64 3,.int .i64 4,.int .i64 2,.int .i64 0,.int .i64 0,.int .i64 1,.int .i64 2,.int .i64 4,.int .i64 1,.int .i64 0,.int .i64 7,.int .i64 4,.int .i64 6,.int .i64 0,.int .i64 0,.int .i64 5,.int .i64 6,.int .i64 4,.int .i64 2,.int .i64 0] 83)) (.agg #[.slice (some ⟨u7.heap.size,0,none⟩) 8 8,.slice (some ⟨u7.heap.size+1,0,none⟩) 6 6]) (qbl):=by
   refine Qo.ofB (Blk.alloc (Blk.new _ _ _) _) (Blk.new1 _ _ _ _) ?_ ?_ (by omega) (by omega) rfl rfl (by omega) (by omega)
   ·intro k hk
    rcases(show k=0\/k=1\/k=2\/k=3\/k=4\/k=5\/k=6\/k=7 by simp[qbl]at hk;omega)with rfl|rfl|rfl|rfl|rfl|rfl|rfl|rfl
    ·exact⟨_,_,_,_,_,_,_,_,_,_,_,_,_,_,⟨rfl,rfl,rfl,rfl,rfl,rfl⟩,hP0.bl' hbz⟩
    ·exact⟨_,_,_,_,_,_,_,_,_,_,_,_,_,_,⟨rfl,rfl,rfl,rfl,rfl,rfl⟩,hP1.bl' hbz⟩
    ·exact⟨_,_,_,_,_,_,_,_,_,_,_,_,_,_,⟨rfl,rfl,rfl,rfl,rfl,rfl⟩,hP2.bl' hbz⟩
    ·exact⟨_,_,_,_,_,_,_,_,_,_,_,_,_,_,⟨rfl,rfl,rfl,rfl,rfl,rfl⟩,hP3.bl' hbz⟩
    ·exact⟨_,_,_,_,_,_,_,_,_,_,_,_,_,_,⟨rfl,rfl,rfl,rfl,rfl,rfl⟩,hP4.bl' hbz⟩
    ·exact⟨_,_,_,_,_,_,_,_,_,_,_,_,_,_,⟨rfl,rfl,rfl,rfl,rfl,rfl⟩,hP5.bl' hbz⟩
    ·exact⟨_,_,_,_,_,_,_,_,_,_,_,_,_,_,⟨rfl,rfl,rfl,rfl,rfl,rfl⟩,hP6.bl' hbz⟩
    ·exact⟨_,_,_,_,_,_,_,_,_,_,_,_,_,_,⟨rfl,rfl,rfl,rfl,rfl,rfl⟩,hP7.bl' hbz⟩
   ·intro k hk
    rcases(show k=0\/k=1\/k=2\/k=3\/k=4\/k=5 by simp[qbl]at hk;omega)with rfl|rfl|rfl|rfl|rfl|rfl <;> exact⟨rfl,rfl,rfl,rfl,rfl⟩
  rw[zd (W:=u7.setCell ⟨w.heap.size,0,none⟩ _) (by simpa using hgr),zd (W:=u7) hgr,zd (W:=(u7.alloc _).setCell ⟨w.heap.size,0,none⟩ _) (by simp;omega),zd (W:=u7.alloc _) (by simp;omega)]
  have hC:=hC.bl hbz
  have hO:=hO.trans (Ob.of_bl hbz _)
  replace x0:=(hbz.qeV (p:=⟨w.heap.size,0,none⟩) hgr).trans x0
  replace x1:=(hbz.qeV (p:=⟨w.heap.size,1,none⟩) hgr).trans x1
  clear hbz
  generalize ((u7.alloc (.cells #[.bool s0_,.slice A0_ n0_ c0_,.slice B0_ m0_ d0_,.bool t0_,.slice C0_ i0_ e0_,.slice D0_ j0_ f0_,.bool s1_,.slice A1_ n1_ c1_,.slice B1_ m1_ d1_,.bool t1_,.slice C1_ i1_ e1_,.slice D1_ j1_ f1_,.bool s2_,.slice A2_ n2_ c2_,.slice B2_ m2_ d2_,.bool t2_,.slice C2_ i2_ e2_,.slice D2_ j2_ f2_,.bool s3_,.slice A3_ n3_ c3_,.slice B3_ m3_ d3_,.bool t3_,.slice C3_ i3_ e3_,.slice D3_ j3_ f3_,.bool s4_,.slice A4_ n4_ c4_,.slice B4_ m4_ d4_,.bool t4_,.slice C4_ i4_ e4_,.slice D4_ j4_ f4_,.bool s5_,.slice A5_ n5_ c5_,.slice B5_ m5_ d5_,.bool t5_,.slice C5_ i5_ e5_,.slice D5_ j5_ f5_,.bool s6_,.slice A6_ n6_ c6_,.slice B6_ m6_ d6_,.bool t6_,.slice C6_ i6_ e6_,.slice D6_ j6_ f6_,.bool s7_,.slice A7_ n7_ c7_,.slice B7_ m7_ d7_,.bool t7_,.slice C7_ i7_ e7_,.slice D7_ j7_ f7_] 28)).alloc (.cells #[.int .i64 1,.int .i64 4,.int .i64 0,.int .i64 0,.int .i64 0,.int .i64 7,.int .i64 0,.int .i64 4,.int .i64 0,.int .i64 0,.int .i64 3,.int .i64 4,.int .i64 2,.int .i64 0,.int .i64 0,.int .i64 1,.int .i64 2,.int .i64 4,.int .i64 1,.int .i64 0,.int .i64 7,.int .i64 4,.int .i64 6,.int .i64 0,.int .i64 0,.int .i64 5,.int .i64 6,.int .i64 4,.int .i64 2,.int .i64 0] 83))=Wz at hM hC hO x0 x1 ⊢
  have hv:=Lib.hid (hv.out.trans (by simp):coF l s=(qbl,s1))
  unfold Ud
  rw[hv.out]
  exact bodyPost_ret (v:=.agg #[.slice (some ⟨u7.heap.size,0,none⟩) 8 8,.slice (some ⟨u7.heap.size+1,0,none⟩) 6 6]) (by simp[results,Tryz.results116,go_sem,x0,x1]) rfl ⟨_,rfl,Ki,Qo.low (Qo.setLow (Qo.setLow hM (q:=⟨w.heap.size,0,none⟩) (show w.heap.size<w.heap.size+1 by omega) _) (q:=⟨w.heap.size,1,none⟩) (show w.heap.size<w.heap.size+1 by omega) _) (by omega),Jo.set (Jo.set hC hwg hwA.out 0 _) hwg hwA.out 1 _,Ob.far (Ob.far hO (Nat.le_refl _) 0 _) (Nat.le_refl _) 1 _⟩
theorem qaw {α:Type} [Inhabited α] {l:List α}{k:Nat}(h:k<l.length):l.take (k+1)=l.take k++[pix l k]:=by
 have e:l[k]=pix l k:=by simp[pix,h]
 rw[List.take_succ_eq_append_getElem h,e]
def NX (v:Value) (xs:List Nat) (bs:List Nat):Prop:=(∀g,v.ownBlock=Option.some g->g∉bs)/\∀b∈bs,b∉xs
theorem qbE (v:Value) (xs:List Nat):uP (NX v xs) :=
 ⟨⟨λ_ _ h=>(by cases h),λ_ h=>(by cases h)⟩,λ_ _ h k _=>⟨λg e hm=>(List.mem_append.1 hm).elim (h.1 g e) (k.1 g e),λb hm=>(List.mem_append.1 hm).elim (h.2 b) (k.2 b)⟩⟩
structure PB (lo:Nat) (xs:List Nat) (w:World) (vp vm:Value) (P:List PtD) (M:List Int):Prop where
 row:jK (NX vm xs) lo w.heap.size w vp P
 nums:OwL 3 lo w vm M
 apart:∀g,vp.ownBlock=Option.some g->vm.ownBlock≠Option.some g
 px:∀x∈xs,vp.ownBlock≠Option.some x
 mx:∀x∈xs,vm.ownBlock≠Option.some x
section
variable {lo:Nat}{xs:List Nat}{w W:World}{vp vm:Value}{P:List PtD}{M:List Int}
theorem PB.bl (h:PB lo xs w vp vm P M) (hb:Bl w W):PB lo xs W vp vm P M :=
 ⟨qO.up (qO.keepX (qx 3) h.row hb.size (λg e=>Below.block hb g (qO.lo h.row e).2) (λ_ hN hm=>⟨λb hb'=>Below.block hb b (hm b hb').2,hN⟩)) hb.size (Nat.le_refl _),h.nums.bl hb,h.apart,h.px,h.mx⟩
theorem PB.set (h:PB lo xs w vp vm P M) {q:Addr}(hq:q.block∈xs) (u:Value):PB lo xs (w.setCell q u) vp vm P M:=by
 have hs:(w.setCell q u).heap.size=w.heap.size:=by simp
 refine⟨?_,h.nums.keepX λg e=>Below.heap_setCell w q u g λe2=>h.mx _ hq (by rw[e,e2]),h.apart,h.px,h.mx⟩
 rw[hs]
 exact qO.keepX (qx 3) h.row (by simp) (λg e=>Below.heap_setCell w q u g λe2=>h.px _ hq (by rw[e,e2])) (λbs hN _=>⟨λb hb=>Below.heap_setCell w q u b λe2=>hN.2 b hb (by rw[e2];exact hq),hN⟩)
theorem PB.pt {vp':Value}{P':List PtD}(h:PB lo xs w vp vm P M) (hx:∀x∈xs,x<w.heap.size) (hr:jK (NX vm xs) lo W.heap.size W vp' P') (ho:w.heap.size<=W.heap.size/\∀g,g<w.heap.size->vp.ownBlock≠Option.some g->W.heap[g]?=w.heap[g]?/\vp'.ownBlock≠Option.some g):PB lo xs W vp' vm P' M :=
 ⟨hr,h.nums.keepX λg e=>(ho.2 g (h.nums.blk e).2 λe2=>h.apart g e2 e).1,λg e e2=>(ho.2 g (h.nums.blk e2).2 λe3=>h.apart g e3 e2).2 e,λx hm=>(ho.2 x (hx x hm) (h.px x hm)).2,h.mx⟩
theorem PB.num {vm':Value}{M':List Int}(h:PB lo xs w vp vm P M) (hx:∀x∈xs,x<w.heap.size) (hr:OwL 3 lo W vm' M') (hs:w.heap.size<=W.heap.size) (ho:∀g,g<w.heap.size->vm.ownBlock≠Option.some g->W.heap[g]?=w.heap[g]?/\vm'.ownBlock≠Option.some g):PB lo xs W vp vm' P M' :=
 ⟨qO.up (qO.keepX (qx 3) h.row hs (λg e=>(ho g (qO.lo h.row e).2 (h.apart g e)).1) (λ_ hN hm=>⟨λb hb=>(ho b (hm b hb).2 λe=>hN.1 b e hb).1,λg e hb=>(ho g (hm g hb).2 λe2=>hN.1 g e2 hb).2 e,hN.2⟩)) hs (Nat.le_refl _),hr,λg e=>(ho g (qO.lo h.row e).2 (h.apart g e)).2,h.px,λx hm=>(ho x (hx x hm) (h.mx x hm)).2⟩
theorem zw.nx {b0:Nat}{s:Bool}{A:Option Addr}{n c:Nat}{B:Option Addr}{m d:Nat}{t:Bool}{C:Option Addr}{i e:Nat}{D:Option Addr}{j f:Nat}{p:PtD}(h:OwP 3 b0 W s A n c B m d t C i e D j f p) (hx:∀b∈xs,b<b0) (hv:∀g,vm.ownBlock=Option.some g->g<b0):zw (NX vm xs) 3 b0 W s A n c B m d t C i e D j f p:=by
 obtain⟨c1,c2,h1,h2,hf,_⟩:=zw.q h
 exact⟨c1,c2,h1,h2,hf,λg e hm=>by have:=(hf g hm).1;have:=hv g e;omega,λb hb hm=>by have:=(hf b hb).1;have:=hx b hm;omega⟩
end
theorem yA {P:Program}{E t:TypeId}(hinfo:(P.info? E).map (λi=>(i.zero,i.size,i.bytes))=some (some (.int .i64 0),1,8)) (ht:P.underlying t=some (.slice E))
  {W:World}{x0:Int}{ops:Array Oper}{rest:List Oper}{o:Oper}{a:Act}{Q:Exit->Act->World->Prop}(hgd:o.guard=none) (s x:Operand)
  (ho:o.op=.call { callee:=.builtin .append,args:=#[s,x],argTypes:=#[t,t] }) (v:Value) (l:List Int) (hs:a.eval s=v) {base:Nat}(hown:OwL E base W v l) (hbase:base<=W.heap.size) (w0:World) (hb:Bl w0 W) (h0:w0.heap.size<=base)
  (c:Nat) (hx:a.eval x=.slice (some ⟨W.heap.size,0,none⟩) 1 c) (hlen:l.length<=1099511627776)
  (h:∀v' w',OwL E base w' v' (l++[x0])->Bl w0 w'->W.heap.size<=w'.heap.size->(∀g,g<W.heap.size->v.ownBlock≠Option.some g->w'.heap[g]?=W.heap[g]?/\v'.ownBlock≠Option.some g)->wpList P ops Q rest (a.put o.dst v') w'):wpList P ops Q (o::rest) a (W.alloc (.cells #[.int .i64 x0] E)):=by
 obtain⟨i0,hi,hz0,hz1,hz2⟩:=info_parts hinfo
 have ho':=hown.alloc (.cells #[.int .i64 x0] E)
 have hsz2:(W.alloc (.cells #[.int .i64 x0] E)).heap.size=W.heap.size+1:=by simp
 refine wpList_append_own_at _ hgd s x t ho base E i0 (.int .i64 0) 1 8 ht hi hz0 hz1 hz2 rfl (by omega) v l.length (l.map (Value.int .i64)) hs ho' ⟨W.heap.size,0,none⟩ 1 c [.int .i64 x0] hx rfl (cell_one_new _ _ _) (by intro u hu;simp at hu;subst hu;rfl) (by simp only[maxLen];omega) (by omega) (by omega) ?_
 intro v' w' g1 g2 _ g4
 have hown':∀ b,v'.ownBlock=Option.some b->(v.ownBlock=Option.some b\/b=W.heap.size+1):=by
  intro b e
  rcases g4 with g4|g4
  ·exact .inl (by rw[<-g4];exact e)
  ·rw[g4]at e;injection e with e;right;omega
 refine h v' w' ?_ ((hb.alloc _).grown g2 (λk e=>by have:=ho'.blockLe k e;omega)) (by have:=g2.size;omega) (λg hg hn=>⟨(g2.block g (by omega) (λe=>hn e.symm)).trans (Below.heap_alloc W _ g hg),λe=>by rcases hown' g e with e|e;exact hn e;omega⟩)
 unfold OwL
 simpa using g1
theorem UQ (w:World) {A:Option Addr}{n c:Nat}{l:List PtD}(h:qR w A n c l) (hn2:n<=1048576)
  (hsz:∀k,k<n->((pix l k).x.mag.length<=1048576/\(pix l k).x.den.length<=1048576)/\(pix l k).y.mag.length<=1048576/\(pix l k).y.den.length<=1048576) :
  Calls Tryz.prog 156 #[.slice A n c] w λe w'=>∃v,e=.returned v/\jK YQ w.heap.size w'.heap.size w' v l/\Bl w w':=by
 have hln:=Lib.hid h.len
 replace hsz:=Lib.hid hsz
 go_enter Tryz.func156,Tryz.ntmps156
 go_upto_region 2 with (fail)
 refine qe (λW=>jK YQ w.heap.size (w.heap.size+1) W (.slice (some ⟨w.heap.size,0,none⟩) 0 0) []/\Bl w W) ⟨qO.empty yr w (Nat.le_refl _),slc⟩ ?_
 rintro W ⟨hrow0,hbW⟩
 have hgW:=qO.hiLe hrow0
 go_wp2_with fail
 go_loopw [3,9] (λv i wr=>∃(k hi:Nat),k<=n/\i=.int .i64 (k:Int)/\jK YQ w.heap.size hi wr v (l.take k)/\Bl w wr/\w.heap.size<=hi) (λ_ i _=>n-(intOf i).toNat)
 case atStart=>exact⟨0,w.heap.size+1,by omega,rfl,hrow0,hbW,by omega⟩
 case round=>
  clear hrow0 hgW hbW
  obtain⟨k,hi,hk,rfl,hrow,hbw,hlh⟩:=hrel
  obtain⟨wo,rfl⟩:∃wo:World,wo=wr:=⟨_,rfl⟩
  by_cases hkn:k<n
  ·have hki:(k:Int)<(n:Int):=by omega
   obtain⟨ad,eA,hlt,hat⟩:=(qR.bl h hbw).cells k hkn
   have hpz:=hsz.out k hkn
   have hcs:=Lib.hid (qaw (l:=l) (k:=k) (by rw[hln.out];exact hkn))
   have hlk:=Lib.hid (show (l.take k).length=k by rw[List.length_take,hln.out];omega)
   generalize pix l k=pk at hcs hat hpz
   subst eA
   obtain⟨s7,A7,n7,c7,B7,m7,d7,t7,C7,i7,e7,D7,j7,f7,⟨y0,y1,y2,y3,y4,y5⟩,hX,hY⟩:=hat
   have hsm:n7<=1048576/\m7<=1048576/\i7<=1048576/\j7<=1048576:=⟨by rw[<-hX.mag.len];exact hpz.1.1,by rw[<-hX.den.len];exact hpz.1.2,by rw[<-hY.mag.len];exact hpz.2.1,by rw[<-hY.den.len];exact hpz.2.2⟩
   clear hpz hlt
   go_upto_region 5 with (fail)
   refine qe (λW2=>Bl wo W2/\∃g5,Blk W2 g5 28 #[.bool s7,.slice A7 n7 c7,.slice B7 m7 d7,.bool t7,.slice C7 i7 e7,.slice D7 j7 f7]/\g5=wo.heap.size) ⟨by exact slc,_,by exact bts,rfl⟩ ?_
   rintro W2 ⟨hb2,g5,h5,hg5⟩
   rw[<-hg5]
   clear y0 y1 y2 y3 y4 y5 hg5
   obtain⟨y0,y1,y2,y3,y4,y5⟩:=bx6 h5
   have hhi:=qO.hiLe hrow
   go_wp2_with fail
   refine(Qh _ (hX.bl hb2) (hY.bl hb2) hsm.1 hsm.2.1 hsm.2.2.1 hsm.2.2.2).mono ?_
   rintro e w3 ⟨s1,A1,n1,c1,B1,m1,d1,t1,C1,i1,e1,D1,j1,f1,rfl,hP,hb3⟩
   have hrow3:=qO.bl (qx 3) (qO.bl (qx 3) hrow hb2) hb3
   have hb4:=(hbw.next hb2).next hb3
   have hhi3:hi<=W2.heap.size:=Nat.le_trans hhi hb2.size
   clear hrow y0 y1 y2 y3 y4 y5 h5
   go_wp2_with ((refine qT yr rfl (.tmp 13) (.tmp 16) rfl _ (by rfl) hrow3 hP hhi3 hlh 1 (by rfl) (by rw[hlk.out];omega) w hb4 (Nat.le_refl _) ?_;intro v' w8 hrow' hb8' hoth;clear hrow3 hP))
   have hz8:=hb8'.size
   rw[<-hcs.out]at hrow'
   go_roundw
   case rel=>exact⟨k+1,_,by omega,by go_num,hrow',hb8',hz8⟩
   case measure=>simp[intOf];omega
  ·obtain rfl:k=n:=by omega
   have hkm2:¬(k:Int)<(k:Int):=by omega
   have hfull:=Lib.hid (show l.take k=l by rw[<-hln.out,List.take_length])
   rw[hfull.out]at hrow
   go_wp2_with fail
   go_ret
   exact⟨_,rfl,qO.up hrow (qO.hiLe hrow) (Nat.le_refl _),hbw⟩
theorem jK.nx {N:List Nat->Prop}{lo:Nat}{w W:World}{v vm:Value}{xs:List Nat}{l:List PtD}(h:jK N lo w.heap.size w v l) (hb:Bl w W) (hx:∀b∈xs,w.heap.size<=b) (hv:∀g,vm.ownBlock=Option.some g->w.heap.size<=g):jK (NX vm xs) lo W.heap.size W v l :=
 qO.up (qO.keepX (qx 3) h hb.size (λg e=>Below.block hb g (qO.lo h e).2) (λ_ _ hm=>⟨λb hb'=>Below.block hb b (hm b hb').2,⟨λg e hm2=>by have:=(hm g hm2).2;have:=hv g e;omega,λb hb' hc=>by have:=(hm b hb').2;have:=hx b hc;omega⟩⟩)) hb.size (Nat.le_refl _)
theorem PB.ob {lo:Nat}{xs:List Nat}{w W:World}{vp vm:Value}{P:List PtD}{M:List Int}{g:Nat}(h:PB lo xs w vp vm P M) (ho:Ob [g] w W) (hg:g∈xs):PB lo xs W vp vm P M :=
 ⟨qO.up (qO.keepX (qx 3) h.row ho.size (λb e=>ho.block b (qO.lo h.row e).2 (by simp;rintro rfl;exact h.px _ hg e)) (λbs hN hm=>⟨λb hb=>ho.block b (hm b hb).2 (by simp;rintro rfl;exact hN.2 b hb hg),hN⟩)) ho.size (Nat.le_refl _),h.nums.keepX λb e=>ho.block b (h.nums.blk e).2 (by simp;rintro rfl;exact h.mx _ hg e),h.apart,h.px,h.mx⟩
theorem OwU.mv {w W:World}{g n:Nat}{b:Nat->Bool}(h:OwU w g n b) (e:W.heap[g]?=w.heap[g]?):OwU W g n b:=by
 obtain⟨cs,h1,h2⟩:=h
 exact⟨cs,e.trans h1,h2⟩
theorem xi (bl:List Bool) (n k:Nat):vo bl n (k+1)=vo bl n k++[if bgt bl k=true then ((n+(JJ bl k).length:Nat):Int)else -1]:=by unfold vo;rw[List.range_succ,List.map_append];rfl
theorem qbC {bl:List Bool}{n k:Nat}(h:bgt bl k=false):vo bl n k++[(-1:Int)]=vo bl n (k+1):=by rw[xi,if_neg (by rw[h];decide)]
theorem qaZ {bl:List Bool}{n k:Nat}(h:bgt bl k=true):vo bl n k++[((n+(JJ bl k).length:Nat):Int)]=vo bl n (k+1):=by rw[xi,if_pos h]
theorem Bl.ofOb1 {g i:Nat}{T:TypeId}{cs:Array Value}{u:Value}{w W:World}(ho:Ob [g] w W) (h1:Blk (w.setCell ⟨g,i,none⟩ u) g T cs) (h2:Blk W g T cs):Bl (w.setCell ⟨g,i,none⟩ u) W:=by
 have hs:(w.setCell ⟨g,i,none⟩ u).heap.size=w.heap.size:=by simp
 have h0:=Below.setCell (Below.refl 0 w) (p:=⟨g,i,none⟩) (Nat.zero_le _) u
 refine⟨ho.os.trans h0.os.symm,ho.tape.trans h0.tape.symm,ho.output.trans h0.output.symm,by rw[hs];exact ho.size,λb hb=>?_⟩
 rw[hs]at hb
 by_cases e:b=g
 ·subst e
  exact h2.trans h1.symm
 ·exact(ho.block b hb (by simpa using e)).trans (Below.heap_setCell w ⟨g,i,none⟩ u b e).symm
theorem Ob.split {g i:Nat}{u:Value}{w W w8:World}(ho:Ob [g] w W) (h8:Bl (w.setCell ⟨g,i,none⟩ u) w8) (hs:W.heap.size<=w8.heap.size) (hB:∀b,b<w.heap.size->w8.heap[b]?=W.heap[b]?):Ob [g] w w8:=by
 have h0:=Below.setCell (Below.refl 0 w) (p:=⟨g,i,none⟩) (Nat.zero_le _) u
 exact⟨h8.os.trans h0.os,h8.tape.trans h0.tape,h8.output.trans h0.output,Nat.le_trans ho.size hs,λb hb hn=>(hB b hb).trans (ho.block b hb hn)⟩
theorem OwL.rdLit {E:TypeId}{base:Nat}{w:World}{g n c:Nat}{l:List Int}(h:OwL E base w (.slice (some ⟨g,0,none⟩) n c) l) (h0:0<l.length) (hl:l.length<=9223372036854775807):RdI w (some ⟨g,0,none⟩) n c l:=by
 obtain⟨g',c',e,hr⟩:=h.lit h0 hl
 injection e with e1 e2 e3
 injection e1 with e1
 injection e1 with e1
 subst e1 e3
 rw[e2]
 exact hr
end Go.Proofs.YtjaapemopbbfaaaGreatDoor
