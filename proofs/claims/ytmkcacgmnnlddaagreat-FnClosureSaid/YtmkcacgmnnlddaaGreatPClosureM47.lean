import Derived.Test.YtmkcacgmnnlddaaGreatRows
import Derived.Test.YtmkcacgmnnlddaaGreatPClosureM35
import Derived.Test.YtmkcacgmnnlddaaGreatPClosureM42
import Derived.Test.YtmkcacgmnnlddaaGreatPClosureM26
import Derived.Test.YtmkcacgmnnlddaaGreatPClosureM34
import Derived.Test.YtmkcacgmnnlddaaGreatPClosureM23
import Derived.Deep.Cut
import Derived.Deep.DeepCutAuto
import Derived.OrdersHeld
import Derived.RegionTactic
import Derived.OrdersIn
import Derived.RangeFuncNested
import Derived.RangeFuncBound
import Derived.RangeFuncCalls
import Derived.RangeFuncLeaves
import Derived.Shelf.Abstract
import Derived.Shelf.RegionOpen
import Derived.WalkKit
import Derived.OwnWalkIn
import Derived.TacticsInMore
import Derived.LoopNIn
import Derived.LoopIn
import Derived.Test.YtmkcacgmnnlddaaGreatPClosureM12
import Derived.Test.YtmkcacgmnnlddaaGreatPClosureM08
import Derived.Test.YtmkcacgmnnlddaaGreatPClosureM31
import Derived.Lib.MinMax
import Derived.Test.YtmkcacgmnnlddaaGreatPClosureM24
import Derived.Test.YtmkcacgmnnlddaaGreatPClosureM32
import Derived.Test.YtmkcacgmnnlddaaGreatPClosureM38
import Derived.Lib.SliceRun
import Derived.Deep.RegionLaw
import Derived.Test.YtmkcacgmnnlddaaGreatPClosureM33
import Derived.Test.YtmkcacgmnnlddaaGreatPClosureM45
import Derived.Test.YtmkcacgmnnlddaaGreatPClosureM21
import Derived.Test.YtmkcacgmnnlddaaGreatPClosureM28
import Derived.Test.YtmkcacgmnnlddaaGreatPClosureM46
namespace Go.Proofs.YtmkcacgmnnlddaaGreat
set_option maxRecDepth 100000
set_option maxHeartbeats 32000000
section
open Go.RowKit
theorem contains_tp {l:List (Rat × Rat)}{p:Rat × Rat}:(l.map tp).contains (tp p)=l.contains p:=by
 rw[Bool.eq_iff_iff,List.contains_iff_mem,List.contains_iff_mem,List.mem_map]
 constructor
 ·rintro ⟨q,hq,e⟩
  rw[←tp_inj e]
  exact hq
 ·intro h
  exact⟨p,h,rfl⟩
def sgL (n:Nat):List (List Int):=(List.range n).map fun j:Nat=>[(j:Int)]
theorem sgL_len (n:Nat):(sgL n).length=n:=by simp[sgL]
theorem sgL_succ (n:Nat):sgL (n+1)=sgL n++[[(n:Int)]]:=by simp[sgL,List.range_succ]
def prE (L:List EdD) (k:Int):List Int:=[(pix L k.toNat).a,(pix L k.toNat).b]
theorem paL_eq (m:MeQ) (l:List Int):paL m l=sgL m.pts.length++l.map (prE (edL m.tris)):=rfl
theorem sameM_refl {x:MeD}:sameM x x=true:=by simp[sameM,Same]
def RefRes (w:World) (m x:MeQ) (e:Ending) (w':World):Prop:=∃A n c g k d,e=.returned (.tuple #[.slice A n c,.slice (some ⟨g,0,none⟩) k d,.bool true])∧RdI w' A n c (rmL m x)∧RdII w' (some ⟨g,0,none⟩) k d (paL m (rmL m x))∧Bl w w'
theorem refinement_yes (w:World) {v v':Value}{m x:MeQ}(h:MeAt w v m) (h':MeAt w v' x) (hf:FitM m) (hx:MeshOk x) (hr:RmOk m x) :
  Calls Tryz.prog 47 #[v,v'] w (RefRes w m x):=by
 obtain⟨gp1,n1,cp1,gt1,m1,ct1,rfl,hp,ht⟩:=h
 obtain⟨gp2,n2,cp2,gt2,m2,ct2,rfl,hp',ht'⟩:=h'
 have hn:=Lib.hid (show m.pts.length=n1 by rw[←hp.len,List.length_map])
 have hn40:n1≤40:=by have:=hf.ok.n40;rw[hn.out]at this;exact this
 have hn3:3≤n1:=by have:=hf.ok.n3;rw[hn.out]at this;exact this
 have hm48:m1≤48:=by have:=hf.ok.t48;rw[ht.len]at this;exact this
 have hfH:=Lib.hid hf
 have hxH:=Lib.hid hx
 have hrH:=Lib.hid hr
 clear hf hx hr
 go_enter Tryz.func47,Tryz.ntmps47
 go_upto_region 1 with (fail)
 refine wp_gen (fun W=>Bl w W∧∃g2 g3,Blk W g2 26 #[.slice (some ⟨gp1,0,none⟩) n1 cp1,.slice (some ⟨gt1,0,none⟩) m1 ct1]∧Blk W g3 26 #[.slice (some ⟨gp2,0,none⟩) n2 cp2,.slice (some ⟨gt2,0,none⟩) m2 ct2]∧g2=w.heap.size∧g3=w.heap.size+1) ⟨by exact slc,_,_,by exact bts,by exact bts,rfl,rfl⟩ ?_
 rintro W0 ⟨hb0,g2,g3,h2,h3,hg2,hg3⟩
 rw[←hg3,←hg2]
 clear hg2 hg3
 obtain⟨r0,r1⟩:=bx2 h2
 go_wp2_with fail
 refine(IsMesh_yes _ (RdPS.bl hp hb0) (RdTS.bl ht hb0) hfH.out.ok).mono ?_
 rintro e w1 ⟨rfl,hb1⟩
 clear r0 r1
 have hbw:=hb0.next hb1
 have h2:=h2.bl hb1
 have h3:=h3.bl hb1
 clear hb0 hb1
 obtain⟨r0,r1⟩:=bx2 h3
 go_wp2_with fail
 refine(IsMesh_yes _ (RdPS.bl hp' hbw) (RdTS.bl ht' hbw) hxH.out).mono ?_
 rintro e w2 ⟨rfl,hb2⟩
 clear r0 r1
 have hbw:=hbw.next hb2
 have h2:=h2.bl hb2
 have h3:=h3.bl hb2
 have hp2:=RdPS.bl hp hbw
 have ht2:=RdTS.bl ht hbw
 have hp2':=RdPS.bl hp' hbw
 have ht2':=RdTS.bl ht' hbw
 clear hb2 hp ht hp' ht'
 go_upto_region 5 with (fail)
 refine wp_gen (fun W=>Bl w2 W∧∃vm vp,PM w2.heap.size W vp vm [] []∧vp=.slice (some ⟨w2.heap.size+1,0,none⟩) 0 0∧vm=.slice (some ⟨w2.heap.size,0,none⟩) 0 0) ⟨by exact slc,_,_,PM.start w2 (Nat.le_refl _),rfl,rfl⟩ ?_
 rintro W1 ⟨hbW,vm,vp,hPM,hvp,hvm⟩
 rw[←hvp,←hvm]
 clear hvp hvm
 obtain⟨r0,r1⟩:=bx2 (h2.bl hbW)
 go_wp2_with fail
 clear r0 r1
 go_loopw [8,26] (fun sp si wr=>∃(k:Nat) (vp:Value),k≤n1∧si=.int .i64 (k:Int)∧vp=sp∧PM w2.heap.size wr vp vm (sgL k) []∧Bl w2 wr) (fun _ si _=>n1-(intOf si).toNat)
 case atStart=>exact⟨0,vp,by omega,rfl,rfl,hPM,hbW⟩
 case round=>
  clear hPM hbW
  obtain⟨k,vq,hk,rfl,rfl,hPM,hbk⟩:=hrel
  obtain⟨wi,rfl⟩:∃wi:World,wi=wr:=⟨_,rfl⟩
  by_cases hkn:k<n1
  ·have hki:(k:Int)<(n1:Int):=by omega
   go_wp2_with ((refine wpList_append_pmP (w0:=w2) [(k:Int)] 1 rfl (by omega) (by omega) rfl (.tmp 29) (.tmp 32) rfl (by rfl) hPM hbk 1 (by rfl) (by rw[sgL_len];omega) ?_);intro vp7 w7 hPM7 hb7 hoth)
   go_roundw
   case rel=>exact⟨k+1,vp7,by omega,by go_num,rfl,by rw[sgL_succ];exact hPM7,hb7⟩
   case measure=>simp[intOf];omega
  ·obtain rfl:n1=k:=by omega
   clear hkn hk
   obtain⟨r0,r1⟩:=bx2 (h2.bl hbk)
   go_wp2_with fail
   clear r0 r1
   refine(edges_any _ (RdTS.bl ht2 hbk) (by omega)).mono ?_
   rintro e w3 ⟨ge,ne,ce,rfl,hes,hge,hb3⟩
   have hne:=Lib.hid hes.len
   have hne0:0<ne:=by have h1:=fndE_lt (hfH.out.has 0 (by have:=hfH.out.ok.t1;omega)).1;rw[hne.out]at h1;omega
   have hge3:ge < w3.heap.size:=by
    obtain⟨_,e2,hl,_⟩:=hes.cells 0 hne0
    injection e2 with e2
    rw[←e2]at hl
    exact hl
   have hEI:=Lib.hid (show EdIx n1 (edL m.tris)from edTo_ix (by have:=hfH.out.ok.ixs;rw[hn.out]at this;exact this) (Nat.le_refl _))
   have hne144:ne≤144:=by have h1:=edTo_len m.tris m.tris.length;have h2:(edL m.tris).length≤3*m.tris.length:=h1;rw[hne.out,ht2.len]at h2;omega
   have hPM3:=hPM.bl hb3
   have hown:=Lib.hid (show vq.ownBlock≠some ge∧vm.ownBlock≠some ge from ⟨fun e=>by have:=(hPM.1.lo e).2;omega,fun e=>by have:=(hPM.2.1.blk e).2;omega⟩)
   have hbk3:=hbk.next hb3
   obtain⟨bl,hbl⟩:∃bl,inB m x=bl:=⟨_,rfl⟩
   have hblH:=Lib.hid hbl
   clear hbl hPM hbk hb3
   go_wp2_with fail
   go_loopw [7,8,38] (fun sm sp si wr=>∃(j:Nat) (um up:Value),j≤ne∧si=.int .i64 (j:Int)∧um=sm∧up=sp∧PM w2.heap.size wr up um (sgL n1++(lsTo bl j).map (prE (edL m.tris))) (lsTo bl j)∧Hid (up.ownBlock≠some ge∧um.ownBlock≠some ge)∧wr.heap[ge]?=w3.heap[ge]?∧w3.heap.size≤wr.heap.size∧Bl w2 wr) (fun _ _ si _=>ne-(intOf si).toNat)
   case atStart=>exact⟨0,vm,vq,by omega,rfl,rfl,rfl,by simpa [lsTo]using hPM3,hown,rfl,Nat.le_refl _,hbk3⟩
   case round=>
    clear hPM3 hown hbk3
    obtain⟨j,um,up,hj,rfl,rfl,rfl,hPM,hown,hheap,hsz3,hbj⟩:=hrel
    obtain⟨wj,rfl⟩:∃wj:World,wj=wr:=⟨_,rfl⟩
    by_cases hjn:j<ne
    ·have hji:(j:Int)<(ne:Int):=by omega
     obtain⟨xe0,xe1,xe2,xe3⟩:=eds_lit hes hjn
     have xe0:=(World.cell?_of_block (a:=⟨ge,j*4,none⟩) hheap).trans xe0
     have xe1:=(World.cell?_of_block (a:=⟨ge,j*4+1,none⟩) hheap).trans xe1
     have xe2:=(World.cell?_of_block (a:=⟨ge,j*4+2,none⟩) hheap).trans xe2
     have xe3:=(World.cell?_of_block (a:=⟨ge,j*4+3,none⟩) hheap).trans xe3
     obtain⟨⟨ha0,ha1⟩,hb0,hb1⟩:=hEI.out.at_ (k:=j) (by rw[hne.out];exact hjn)
     have hmd:mdP m (edL m.tris) (j:Int)=midQ (pix m.pts (pix (edL m.tris) j).a.toNat) (pix m.pts (pix (edL m.tris) j).b.toNat):=rfl
     have hpr:prE (edL m.tris) (j:Int)=[(pix (edL m.tris) j).a,(pix (edL m.tris) j).b]:=rfl
     obtain⟨ed,hed⟩:∃ed,pix (edL m.tris) j=ed:=⟨_,rfl⟩
     rw[hed]at xe0 xe1 xe2 xe3 ha0 ha1 hb0 hb1 hmd hpr
     clear hed
     obtain⟨ua,hea⟩:∃ua:Nat,ed.a=(ua:Int):=⟨ed.a.toNat,by omega⟩
     obtain⟨ub,heb⟩:∃ub:Nat,ed.b=(ub:Int):=⟨ed.b.toNat,by omega⟩
     rw[hea]at xe0 ha0 ha1 hmd hpr
     rw[heb]at xe1 hb0 hb1 hmd hpr
     rw[Int.toNat_natCast,Int.toNat_natCast]at hmd
     have hean:ua<n1:=by omega
     have hebn:ub<n1:=by omega
     have heai:(ua:Int)<(n1:Int):=by omega
     have hebi:(ub:Int)<(n1:Int):=by omega
     obtain⟨qm,hqm⟩:∃qm,mdP m (edL m.tris) (j:Int)=qm:=⟨_,rfl⟩
     have hmid:=Lib.hid (show midP (tp (pix m.pts ua)) (tp (pix m.pts ub))=tp qm by rw[←hqm,hmd];exact midP_tp (hfH.out.sm ua (by rw[hn.out];exact hean)) (hfH.out.sm ub (by rw[hn.out];exact hebn)))
     have hin:=Lib.hid (show bgt bl j=x.pts.contains qm by rw[←hblH.out,←hqm];exact bgt_inB (by rw[hne.out];exact hjn))
     have hprH:=Lib.hid hpr
     clear hea heb hmd ha0 ha1 hb0 hb1 hpr hqm
     go_upto_region 13 with (fail)
     refine wp_gen (fun W=>Bl wj W∧∃g11,Blk W g11 114 #[.int .i64 (ua:Int),.int .i64 (ub:Int),.int .i64 ed.l,.int .i64 ed.r]∧g11=wj.heap.size) ⟨by exact slc,_,by exact bts,rfl⟩ ?_
     rintro W ⟨hbjW,g11,h11,hg11⟩
     rw[←hg11]
     clear xe0 xe1 xe2 xe3
     have hbW2:=hbj.next hbjW
     have hPMW:=hPM.bl hbjW
     have hheapW:W.heap[ge]?=w3.heap[ge]?:=(Below.block hbjW ge (by omega)).trans hheap
     have hn11:=Lib.hid (show up.ownBlock≠some g11∧um.ownBlock≠some g11 from ⟨fun e=>by have:=(hPM.1.lo e).2;omega,fun e=>by have:=(hPM.2.1.blk e).2;omega⟩)
     have hszW:w3.heap.size≤W.heap.size:=by have:=hbjW.size;omega
     clear hPM hheap hg11 hbjW hsz3 hbj
     have h2W:=h2.bl hbW2
     have hpW:=RdPS.bl hp2 hbW2
     have hgpW:gp1<W.heap.size:=by obtain⟨_,e2,hl,_⟩:=hpW.cells 0 (by omega);injection e2 with e2;rw[←e2]at hl;exact hl
     obtain⟨s7,A7,n7,c7,B7,m7,d7,t7,C7,i7,e7,D7,j7,f7,⟨xa0,xa1,xa2,xa3,xa4,xa5⟩,hXa,hYa⟩:=pts_lit hpW hean
     rw[pix_map (by rw[hn.out];omega)]at hXa hYa
     obtain⟨s8,A8,n8,c8,B8,m8,d8,t8,C8,i8,e8,D8,j8,f8,⟨xb0,xb1,xb2,xb3,xb4,xb5⟩,hXb,hYb⟩:=pts_lit hpW hebn
     rw[pix_map (by rw[hn.out];omega)]at hXb hYb
     go_cut [12] (fun sl12 wx=>∃(g12:Nat) (s5:Bool) (A5:Option Addr) (n5:Nat) (c5:Nat) (B5:Option Addr) (m5:Nat) (d5:Nat) (t5:Bool) (C5:Option Addr) (i5:Nat) (e5:Nat) (D5:Option Addr) (j5:Nat) (f5:Nat),sl12=.pointer (some ⟨g12,0,none⟩)∧Blk wx g12 56 #[.bool s5,.slice A5 n5 c5,.slice B5 m5 d5,.bool t5,.slice C5 i5 e5,.slice D5 j5 f5]∧RdR wx s5 A5 n5 c5 B5 m5 d5 (tp qm).x∧RdR wx t5 C5 i5 e5 D5 j5 f5 (tp qm).y∧Bl W wx)
     case first=>
      go_region_held3 (fun w'=>(w'.cell? ⟨g2,0,none⟩=some (.slice (some ⟨gp1,0,none⟩) n1 cp1)∧w'.cell? ⟨g2,1,none⟩=some (.slice (some ⟨gt1,0,none⟩) m1 ct1))∧(w'.cell? ⟨g11,0,none⟩=some (.int .i64 (ua:Int))∧w'.cell? ⟨g11,1,none⟩=some (.int .i64 (ub:Int)))∧(w'.cell? ⟨gp1,ua*6,none⟩=some (.bool s7)∧w'.cell? ⟨gp1,ua*6+1,none⟩=some (.slice A7 n7 c7)∧w'.cell? ⟨gp1,ua*6+2,none⟩=some (.slice B7 m7 d7)∧w'.cell? ⟨gp1,ua*6+3,none⟩=some (.bool t7)∧w'.cell? ⟨gp1,ua*6+4,none⟩=some (.slice C7 i7 e7)∧w'.cell? ⟨gp1,ua*6+5,none⟩=some (.slice D7 j7 f7))∧(w'.cell? ⟨gp1,ub*6,none⟩=some (.bool s8)∧w'.cell? ⟨gp1,ub*6+1,none⟩=some (.slice A8 n8 c8)∧w'.cell? ⟨gp1,ub*6+2,none⟩=some (.slice B8 m8 d8)∧w'.cell? ⟨gp1,ub*6+3,none⟩=some (.bool t8)∧w'.cell? ⟨gp1,ub*6+4,none⟩=some (.slice C8 i8 e8)∧w'.cell? ⟨gp1,ub*6+5,none⟩=some (.slice D8 j8 f8))) (first|exact⟨bx2 (T:=26) (h2W.bl slc),⟨(h11.bl (show Bl W _ from slc)).cell 0,(h11.bl (show Bl W _ from slc)).cell 1⟩,⟨(Bl.cellOf (w:=W) (p:=⟨gp1,ua*6,none⟩) slc hgpW).trans xa0,(Bl.cellOf (w:=W) (p:=⟨gp1,ua*6+1,none⟩) slc hgpW).trans xa1,(Bl.cellOf (w:=W) (p:=⟨gp1,ua*6+2,none⟩) slc hgpW).trans xa2,(Bl.cellOf (w:=W) (p:=⟨gp1,ua*6+3,none⟩) slc hgpW).trans xa3,(Bl.cellOf (w:=W) (p:=⟨gp1,ua*6+4,none⟩) slc hgpW).trans xa4,(Bl.cellOf (w:=W) (p:=⟨gp1,ua*6+5,none⟩) slc hgpW).trans xa5⟩,⟨(Bl.cellOf (w:=W) (p:=⟨gp1,ub*6,none⟩) slc hgpW).trans xb0,(Bl.cellOf (w:=W) (p:=⟨gp1,ub*6+1,none⟩) slc hgpW).trans xb1,(Bl.cellOf (w:=W) (p:=⟨gp1,ub*6+2,none⟩) slc hgpW).trans xb2,(Bl.cellOf (w:=W) (p:=⟨gp1,ub*6+3,none⟩) slc hgpW).trans xb3,(Bl.cellOf (w:=W) (p:=⟨gp1,ub*6+4,none⟩) slc hgpW).trans xb4,(Bl.cellOf (w:=W) (p:=⟨gp1,ub*6+5,none⟩) slc hgpW).trans xb5⟩⟩) (first |(go_at_call 74;(with_reducible refine(Middle_any _ (hXa.bl slc) (hYa.bl slc) (hXb.bl slc) (hYb.bl slc)).mono ?_);rintro e w6 ⟨s5,A5,n5,c5,B5,m5,d5,t5,C5,i5,e5,D5,j5,f5,rfl,hP6,hb6⟩;(have hz6:W.heap.size≤w6.heap.size:=Bl.size (by exact slc));(first|have hq:Wk 6 56 _ _:=wk_newd hb6|have hq:Wk 6 56 _ _:=wk_new hb6|have hq:Wk 6 56 _ _:=Wk.bl hq hb6|skip);(try obtain⟨⟨q0,q1,q2,q3,q4,q5⟩,fz0,fz1,fz2,fz3,fz4,fz5⟩:=hq.out6)))
      ·go_wp2_with fail
       go_meet
       exact⟨w6.heap.size,_,_,_,_,_,_,_,_,_,_,_,_,_,_,rfl,Blk.new _ _ _,by rw[←hmid.out];exact hP6.rx.bl slc,by rw[←hmid.out];exact hP6.ry.bl slc,slc⟩
      ·go_wp2_with fail
       go_meet
       exact⟨W.heap.size,_,_,_,_,_,_,_,_,_,_,_,_,_,_,rfl,Wk.put6 hq _ _ _ _ _ _,by rw[←hmid.out];exact(hP6.put6 hq ne_ip _ _ _ _ _ _).rx,by rw[←hmid.out];exact(hP6.put6 hq ne_ip _ _ _ _ _ _).ry,slc⟩
     case rest=>
      obtain⟨g12,s5,A5,n5,c5,B5,m5,d5,t5,C5,i5,e5,D5,j5,f5,rfl,h12,hXq,hYq,hbc⟩:=hcut
      obtain⟨V,rfl⟩:∃V:World,V=wc:=⟨_,rfl⟩
      have hbV:=hbW2.next hbc
      obtain⟨r0,r1⟩:=bx2 (h3.bl hbV)
      go_wp2_with fail
      clear r0 r1
      refine(ContainsRf_any _ (RdPS.bl hp2' hbV) h12 hXq hYq contains_tp).mono ?_
      rw[←hin.out]
      rintro e w8 ⟨rfl,hb8⟩
      have hPM8:=(hPMW.bl hbc).bl hb8
      have h118:=(h11.bl hbc).bl hb8
      have hg11:=h118.lt
      have hz8:w3.heap.size≤w8.heap.size:=by have:=hbc.size;have:=hb8.size;omega
      have hheap8:w8.heap[ge]?=w3.heap[ge]?:=((Below.block hb8 ge (by have:=hbc.size;omega)).trans (Below.block hbc ge (by omega))).trans hheapW
      have hb28:=hbV.next hb8
      clear hb8 hbc hbV hPMW hheapW hbW2 h12 hXq hYq hXa hYa hXb hYb xa0 xa1 xa2 xa3 xa4 xa5 xb0 xb1 xb2 xb3 xb4 xb5 h11 h2W hpW hgpW hszW
      obtain⟨q,hq⟩:∃q,bgt bl j=q:=⟨_,rfl⟩
      rw[hq]
      cases q
      ·have hl:=Lib.hid (show lsTo bl (j+1)=lsTo bl j by rw[lsTo_succ,if_neg (by rw[hq];decide)])
       clear hq
       go_wp2_with fail
       go_roundw
       case rel=>exact⟨j+1,um,up,by omega,by go_num,rfl,rfl,by rw[hl.out];exact hPM8,hown,hheap8,hz8,hb28⟩
       case measure=>simp[intOf];omega
      ·have hl:=Lib.hid (show lsTo bl (j+1)=lsTo bl j++[(j:Int)]by rw[lsTo_succ,if_pos hq])
       have hlj:=lsTo_len bl j
       clear hq
       go_upto_region 16 with ((refine wpList_append_pmM (w0:=w2) rfl (.tmp 60) (.tmp 62) rfl (by rfl) hPM8 hb28 1 (by rfl) (by omega) ?_);intro um9 w9 hPM9 hb9 hoth)
       have h119:Blk w9 g11 114 #[.int .i64 (ua:Int),.int .i64 (ub:Int),.int .i64 ed.l,.int .i64 ed.r]:=(hoth.2 g11 hg11 hn11.out.2).1.trans h118
       have hum9:=(hoth.2 ge (by omega) hown.out.2).2
       have hheap9:=(hoth.2 ge (by omega) hown.out.2).1.trans hheap8
       have hz9:w3.heap.size≤w9.heap.size:=by have:=hoth.1;omega
       clear hoth hPM8 hb28 h118 hheap8 hz8
       obtain⟨x0,x1,_,_⟩:=bx4 h119
       go_wp2_with ((refine wpList_append_pmP (w0:=w2) [(ua:Int),(ub:Int)] 2 rfl (by omega) (by omega) rfl (.tmp 64) (.tmp 70) rfl (by rfl) hPM9 hb9 1 (by rfl) (by rw[List.length_append,sgL_len,List.length_map];omega) ?_);intro up7 w7 hPM7 hb7 hoth)
       have hL:sgL n1++(lsTo bl (j+1)).map (prE (edL m.tris))=(sgL n1++(lsTo bl j).map (prE (edL m.tris)))++[[(ua:Int),(ub:Int)]]:=by rw[hl.out,List.map_append,List.append_assoc,List.map_singleton,hprH.out]
       have hLH:=Lib.hid hL
       clear hL
       go_roundw
       case rel=>exact⟨j+1,um9,up7,by omega,by go_num,rfl,rfl,by rw[hLH.out,hl.out];exact hPM7,Lib.hid ⟨(hoth.2 ge (by omega) hown.out.1).2,hum9⟩,(hoth.2 ge (by omega) hown.out.1).1.trans hheap9,by have:=hoth.1;omega,hb7⟩
       case measure=>simp[intOf];omega
    ·obtain rfl:ne=j:=by omega
     have hrm:=Lib.hid (show rmL m x=lsTo bl ne by unfold rmL;rw[hblH.out,hne.out])
     have hbe:=Lib.hid (show bisM m (lsTo bl ne)=x by rw[←hrm.out];exact hrH.out.eq)
     have hlj:=lsTo_len bl ne
     obtain⟨A7,c7,rfl,hR7⟩:=hPM.2.1.any (by omega)
     obtain⟨g8,c8,rfl,hR8⟩:=RowI.rd hPM.1 (by rw[List.length_append,sgL_len,List.length_map];omega) (by rw[List.length_append,sgL_len];omega)
     obtain⟨k7,hk7⟩:∃k7,(lsTo bl ne).length=k7:=⟨_,rfl⟩
     obtain⟨k8,hk8⟩:∃k8,(sgL n1++(lsTo bl ne).map (prE (edL m.tris))).length=k8:=⟨_,rfl⟩
     rw[hk7]at hR7 hlj
     rw[hk8]at hR8
     rw[hk7,hk8]
     clear hPM hown hheap hsz3 hes hk7 hk8
     go_upto_region 18 with (fail)
     go_region_held3 (fun w'=>(w'.cell? ⟨g2,0,none⟩=some (.slice (some ⟨gp1,0,none⟩) n1 cp1)∧w'.cell? ⟨g2,1,none⟩=some (.slice (some ⟨gt1,0,none⟩) m1 ct1))∧(w'.cell? ⟨g3,0,none⟩=some (.slice (some ⟨gp2,0,none⟩) n2 cp2)∧w'.cell? ⟨g3,1,none⟩=some (.slice (some ⟨gt2,0,none⟩) m2 ct2))) (first|exact⟨bx2 (T:=26) (h2.bl slc),bx2 (T:=26) (h3.bl slc)⟩) (first |(go_at_call 46;(with_reducible refine(bisect_any _ (RdPS.bl hp2 slc) (RdTS.bl ht2 slc) hfH.out.ok hfH.out.has hfH.out.sm (RdI.bl hR7 slc) (by omega)).mono ?_);rw[hbe.out];rintro e w8 ⟨_,rfl,hO8,hb8⟩;obtain⟨gp3,n3,cp3,gt3,m3,ct3,rfl,hP8,hT8⟩:=hO8.1) |(go_at_call 11;(refine(SameMesh_any (x:=⟨x.pts.map tp,x.tris⟩) (y:=⟨x.pts.map tp,x.tris⟩) _ (RdPS.bl hP8 slc) (RdTS.bl hT8 slc) (RdPS.bl hp2' slc) (RdTS.bl ht2' slc)).mono ?_);rw[sameM_refl];rintro e w9 ⟨rfl,hb9⟩))
     all_goals (go_wp2_with fail)
     all_goals exact bodyPost_ret (v:=.tuple #[.slice A7 k7 c7,.slice (some ⟨g8,0,none⟩) k8 c8,.bool true]) (by simp[results,Tryz.results47,go_sem]) rfl ⟨_,_,_,_,_,_,rfl,by rw[hrm.out];exact RdI.bl hR7 slc,by rw[hrm.out,paL_eq,hn.out];exact RdII.bl hR8 slc,slc⟩
end
section
open Go.RowKit
attribute [local go_sem] Oper.semAt_some
theorem Bl.others {w w':World}(h:Bl w w'):KeepsOthers w w':=⟨h.size,fun k _ hk _=>(h.block k (heap_lt hk)).trans hk⟩
def Kps (ys:List Nat) (A B:World):Prop:=∀x∈ys,B.heap[x]?=A.heap[x]?
theorem Kps.refl (ys:List Nat) (A:World):Kps ys A A:=fun _ _=>rfl
theorem Kps.trans {ys:List Nat}{A B C:World}(h:Kps ys A B) (k:Kps ys B C):Kps ys A C:=fun x hx=>(k x hx).trans (h x hx)
theorem Kps.cell {ys:List Nat}{A B:World}(h:Kps ys A B) {p:Addr}(hx:p.block∈ys):B.cell? p=A.cell? p:=World.cell?_of_block (h _ hx)
section
variable {P:Program}{ops:Array Oper}{Q:Exit→Act→World→Prop}{md:Region.Mode}{S:World→Prop}
end
end
section
open Go.RowKit
theorem SmQ.of {q:Rat}{k:Nat}(h:B10 k q) (hk:k≤8):SmQ q :=
 have h1:10 ^ k≤10 ^ 8:=Nat.pow_le_pow_right (by omega) hk
 ⟨Nat.lt_of_le_of_lt (Nat.le_trans h.1 h1) (by decide),Nat.lt_of_le_of_lt (Nat.le_trans h.2 h1) (by decide)⟩
theorem Sm2.q {u:Rat × Rat}(h:Sm2 u):SmQ u.1∧SmQ u.2:=⟨SmQ.of (k:=2) (B10.of h.1 (by decide)) (by omega),SmQ.of (k:=2) (B10.of h.2 (by decide)) (by omega)⟩
end
section
open Go.RowKit
def AtA (ts:List TriD) (p:Int) (l:List Int) (k:Nat):Prop:=∀j,j<k→(pix ts (ix l j).toNat).a=p
theorem AtA.step {ts:List TriD}{p:Int}{l:List Int}{k:Nat}(h:AtA ts p l k) (h0:(pix ts (ix l k).toNat).a=p):AtA ts p l (k+1):=by
 intro j hj
 rcases Nat.lt_succ_iff_lt_or_eq.1 hj with hj|rfl
 ·exact h j hj
 ·exact h0
end
section
open Go.RowKit
attribute [local go_sem] Oper.semAt_some
end
section
open Go.RowKit
attribute [local go_sem] Oper.semAt_some
def MeOff (xs:List Nat) (b0:Nat) (W:World) (v:Value) (m:MeQ):Prop:=∀X,W.heap.size≤X.heap.size→(∀b,b0≤b→b<W.heap.size→b∉xs→X.heap[b]?=W.heap[b]?)→MeAt X v m
section
variable {xs:List Nat}{b0 b1:Nat}{W X W1:World}{v:Value}{m:MeQ}
theorem MeOff.at (h:MeOff xs b0 W v m):MeAt W v m:=h W (Nat.le_refl _) fun _ _ _ _=>rfl
theorem MeOff.ob (h:MeOff xs b0 W v m) (ho:Ob xs W X):MeOff xs b0 X v m :=
 fun Y hs hy=>h Y (Nat.le_trans ho.size hs) fun b h1 h2 h3=>(hy b h1 (Nat.lt_of_lt_of_le h2 ho.size) h3).trans (ho.block b h2 h3)
theorem MeOff.of_ow (h:MeOw b1 W1 v m) (hb:Bl W1 W) (h0:b0≤b1) (hx:∀x∈xs,x<b1∨W1.heap.size≤x):MeOff xs b0 W v m :=
 fun Y hs hy=>h.2 Y (Nat.le_trans hb.size hs) fun b h1 h2=>(hy b (Nat.le_trans h0 h1) (Nat.lt_of_lt_of_le h2 hb.size) (fun hm=>by have:=hx b hm;omega)).trans (Below.block hb b h2)
theorem MeOff.ow (h:MeOff xs b0 W v m) (ho:Ob xs W X):MeOw b0 X v m :=
 ⟨(h.ob ho).at,fun Y hs hy=>h.ob ho Y hs fun b h1 h2 _=>hy b h1 h2⟩
end
end
section
open Go.RowKit
theorem CloseMarks_yes (w:World) {v:Value}{mq:MeQ}(h:MeAt w v mq) (hf:FitM mq) {B:Option Addr}{kl dl:Nat}{list:List Int}(hl:RdI w B kl dl list) (hk:kl≤1048576) :
  Calls Tryz.prog 15 #[v,.slice B kl dl] w (IntsOw w (lsA (clA mq.tris list))):=by
 obtain⟨gp,n,cp,gt,m,ct,rfl,hp,ht⟩:=h
 have hm48:m≤10000:=by have:=hf.ok.t48;rw[ht.len]at this;omega
 have hfH:=Lib.hid hf
 have hkr := Lib.hid (fun k (h : (edL mq.tris).length = k) => (by
  have h1:(edL mq.tris).length≤3*mq.tris.length:=edTo_len mq.tris mq.tris.length
  have h2:=hf.ok.t48
  omega:k≤1048576))
 have hcl := Lib.hid (fun k (h : (edL mq.tris).length = k) => (by
  rw[←h]
  exact clA_len mq.tris list:(clF mq.tris (edL mq.tris) ((edL mq.tris).length+1) (mkA list (edL mq.tris).length)).length=k))
 have hsrt:Hid (SrtE (edL mq.tris)):=Lib.hid (edTo_srt mq.tris mq.tris.length)
 clear hf
 go_enter Tryz.func15,Tryz.ntmps15
 go_wp2_with fail
 refine calls_gen (fun W=>Bl w W∧∃g2,Blk W g2 26 #[.slice (some ⟨gp,0,none⟩) n cp,.slice (some ⟨gt,0,none⟩) m ct]∧g2=w.heap.size) ⟨slc,_,bts,rfl⟩ ?_
 rintro W ⟨hbW,g2,h2,hg2⟩
 rw[←hg2]
 clear hg2
 refine(IsMesh_yes _ (RdPS.bl hp hbW) (RdTS.bl ht hbW) hfH.out.ok).mono ?_
 rintro e w1 ⟨rfl,hb1⟩
 have h2:=h2.bl hb1
 have hbW:=hbW.next hb1
 have ht1:=RdTS.bl ht hbW
 have hl1:=RdI.bl hl hbW
 clear hb1
 go_upto_region 3 with (fail)
 first |(go_region_held3 (fun w'=>(w'.cell? ⟨g2,0,none⟩=some (.slice (some ⟨gp,0,none⟩) n cp)∧w'.cell? ⟨g2,1,none⟩=some (.slice (some ⟨gt,0,none⟩) m ct))) (first|exact bx2 (T:=26) (h2.bl (show Bl w1 _ from slc))) (first |(go_at_call 45;refine(edges_any _ (RdTS.bl ht1 (show Bl w1 _ from slc)) hm48).mono ?_;rintro e w3 ⟨ge,ne,ce,rfl,hR,hge,hb3⟩;have hne:ne≤1048576:=hkr.out ne hR.len) |(go_at_call 44;refine(closed_any _ (RdTS.bl ht1 (show Bl w1 _ from slc)) hm48 (RdES.bl hR slc) hsrt.out hne (RdI.bl hl1 (show Bl w1 _ from slc)) hk hfH.out.has).mono ?_;rintro e w4 ⟨gb,rfl,hU,hgb,hb4⟩) |(go_at_call 43;refine(listed_any _ (OwU.bl hU slc) (hcl.out ne hR.len) hne).mono ?_;rintro e w5 ⟨A5,n5,c5,rfl,hO5,hb5⟩;have hz5:w.heap.size≤w4.heap.size:=(show Bl w w4 from slc).size)))|fail
 all_goals (go_wp2_with fail)
 all_goals go_ret
 all_goals exact⟨A5,n5,c5,rfl,hO5.mono hz5,slc⟩
def ReRes (w:World) (m x:MeQ) (e:Ending) (w':World):Prop:=∃A n c,e=.returned (.tuple #[.slice A n c,.bool true])∧RdI w' A n c (rmL m x)∧Bl w w'
theorem RefinedEdges_yes (w:World) {v v':Value}{m x:MeQ}(h:MeAt w v m) (h':MeAt w v' x) (hf:FitM m) (hx:MeshOk x) (hr:RmOk m x) :
  Calls Tryz.prog 19 #[v,v'] w (ReRes w m x):=by
 have hMe:=h
 have hMe':=h'
 obtain⟨gp1,n1,cp1,gt1,m1,ct1,rfl,hp,ht⟩:=h
 obtain⟨gp2,n2,cp2,gt2,m2,ct2,rfl,hp',ht'⟩:=h'
 have hfH:=Lib.hid hf
 have hxH:=Lib.hid hx
 have hrH:=Lib.hid hr
 clear hf hx hr hp ht hp' ht'
 go_enter Tryz.func19,Tryz.ntmps19
 go_upto_region 1 with (fail)
 refine wp_gen (fun W=>Bl w W∧∃g2 g3,Blk W g2 26 #[.slice (some ⟨gp1,0,none⟩) n1 cp1,.slice (some ⟨gt1,0,none⟩) m1 ct1]∧Blk W g3 26 #[.slice (some ⟨gp2,0,none⟩) n2 cp2,.slice (some ⟨gt2,0,none⟩) m2 ct2]∧g2=w.heap.size∧g3=w.heap.size+1) ⟨by exact slc,_,_,by exact bts,by exact bts,rfl,rfl⟩ ?_
 rintro W0 ⟨hb0,g2,g3,h2,h3,hg2,hg3⟩
 rw[←hg3,←hg2]
 clear hg2 hg3
 obtain⟨r0,r1⟩:=bx2 h2
 obtain⟨s0,s1⟩:=bx2 h3
 go_wp2_with fail
 refine(refinement_yes _ (MeAt.bl hMe slc) (MeAt.bl hMe' slc) hfH.out hxH.out hrH.out).mono ?_
 rintro e w1 ⟨A,n,c,g,k,d,rfl,hA,_,hb1⟩
 go_wp2_with fail
 exact bodyPost_ret (v:=.tuple #[.slice A n c,.bool true]) (by simp[results,Tryz.results19,go_sem]) rfl ⟨A,n,c,rfl,hA,slc⟩
theorem has_yes (w:World) {A:Option Addr}{n c:Nat}{l:List Int}(h:RdI w A n c l) (hn:n≤1048576) {x:Int}(hx:x∈l) :
  Calls Tryz.prog 16 #[.slice A n c,.int .i64 x] w fun e w'=>e=.returned (.bool true)∧Bl w w':=by
 obtain⟨j,hj,hjx⟩:=mem_ix hx
 rw[h.len]at hj
 replace hjx:=Lib.hid hjx
 go_enter Tryz.func16,Tryz.ntmps16
 go_wp2_with fail
 go_loop [9] (fun v=>∃k:Nat,k≤j∧v=.int .i64 (k:Int)) (fun v=>n-(intOf v).toNat)
 case atStart=>exact⟨0,by omega,rfl⟩
 case round=>
  obtain⟨k,hk,rfl⟩:=hrel
  have hki:(k:Int)<(n:Int):=by omega
  obtain⟨ad,rfl,hlt,hc⟩:=h.cells k (by omega)
  by_cases e:ix l k=x
  ·rw[e]at hc
   go_wp2_with fail
   go_ret
   exact⟨rfl,slc⟩
  ·have hkj:k < j:=by
    rcases(show k<j∨k=j by omega)with h1|rfl
    ·exact h1
    ·exact absurd hjx.out e
   have hd:decide (ix l k=x)=false:=decide_eq_false e
   go_wp2_with fail
   go_round
   case rel=>exact⟨k+1,by omega,by go_num⟩
   case measure=>simp[intOf];omega
end
section
open Go.RowKit
theorem Cur.keepG {g n c:Nat}{w W w':World}{A:Option Addr}{l:List Int}(h:Cur g W A n c l) (hg:w'.heap[g]?=W.heap[g]?) (hbW:Bl w W) (hb:Bl w w') (hA:∀ad,A=Option.some ad→0<n→ad.block<w.heap.size):Cur g w' A n c l:=by
 obtain⟨i,k,h1,h2,h3,h4,h5⟩:=h
 refine⟨i,k,hg.trans h1,h2,h3,⟨h4.len,h4.cap,h4.small,fun j hj=>?_⟩,h5⟩
 obtain⟨ad,e,hlt,hc,hx⟩:=h4.cells j hj
 have hl:=hA ad e (by omega)
 refine⟨ad,e,Nat.lt_of_lt_of_le hl hb.size,?_,hx⟩
 have h6:(ad.add (j*1)).block<w.heap.size:=by rw[block_add];exact hl
 exact(hb.cellOf h6).trans ((hbW.cellOf h6).symm.trans hc)
def SomeI (l:List Int):Prop:=l.length≤3∧∀x∈l,0≤x∧x<8
def SoRes (w:World) (e:Ending) (w':World):Prop:=∃A n c l,e=.returned (.slice A n c)∧RdI w' A n c l∧SomeI l∧Bl w w'
theorem MakeSome_any (w:World) {A:Option Addr}{n c:Nat}{l:List Int}(m:Nat) (hm:m≤100) (h:RdB w A n c l) :
  Calls Tryz.prog 14 #[.slice A n c,.int .i64 (m:Int)] w (SoRes w):=by
 have hAl:∀ad,A=Option.some ad→0<n→ad.block<w.heap.size:=fun ad e h0=>by
  obtain⟨_,e2,hl,_⟩:=h.cells 0 h0
  rw[e]at e2
  cases e2
  exact hl
 replace hAl:=Lib.hid hAl
 go_enter Tryz.func14,Tryz.ntmps14
 go_wp2_with fail
 refine(l31New_any _ m (by omega) h).mono ?_
 rintro e w1 ⟨g,rfl,hg,hC,hb1⟩
 have hgl:=hC.lt
 go_upto_region 3 with (fail)
 refine wp_gen (fun W=>Bl w1 W∧∃v0 c,OwL 3 w.heap.size W v0 []∧v0=.slice (some ⟨w1.heap.size,0,none⟩) 0 c∧c=0) ⟨slc,_,0,OwL.empty w1 hb1.size (by decide),rfl,rfl⟩ ?_
 rintro W ⟨hbW,v0,c0,hX,hv0,rfl⟩
 have hvg:v0.ownBlock≠some g:=by rw[hv0];intro e;injection e with e;simp only at e;omega
 rw[←hv0]
 have hgW:g<W.heap.size:=Nat.lt_of_lt_of_le hgl hbW.size
 have hC:=hC.bl hbW
 have hb1:=hb1.next hbW
 clear hv0 hbW
 go_wp2_with fail
 refine(l01Below_any _ 3 (by omega) (by omega) hC).mono ?_
 rintro e w2 ⟨x,rfl,hx0,hx1,hC,hO⟩
 have hX:=hX.keepX (fun b e=>hO.block b (hX.blk e).2 (by simp;rintro rfl;exact hvg e))
 have hb2:Bl w w2:=hb1.ob hO (fun b hb=>by simp at hb;omega)
 have hg2:=hC.lt
 obtain⟨k0,hk0,hk1⟩:∃k0:Nat,1+x=(k0:Int)∧k0≤3:=⟨(1+x).toNat,by omega,by omega⟩
 clear hO hx0 hx1 hgl hgW hb1
 go_wp2_with fail
 clear hk0
 replace hvg:=Lib.hid hvg
 go_loopw [6,7] (fun s v wr=>∃(k:Nat) (u:List Int),k≤3∧v=.int .i64 (k:Int)∧OwL 3 w.heap.size wr s u∧Hid (u.length+k≤3∧∀x∈u,0≤x∧x<8)∧Hid (s.ownBlock≠some g)∧Cur g wr A n c l∧Bl w wr) (fun _ v _=>(intOf v).toNat)
 case atStart=>exact⟨k0,[],hk1,rfl,hX,Lib.hid ⟨by simpa using hk1,fun x hx=>by cases hx⟩,hvg,hC,hb2⟩
 case round=>
  clear hX hvg hC hb2 hg2
  obtain⟨k,u,hk,rfl,hX,hu,hvg,hC,hbw⟩:=hrel
  obtain⟨wr2,rfl⟩:∃wr2:World,wr2=wr:=⟨_,rfl⟩
  by_cases hk0:0<k
  ·have hki:(0:Int)<(k:Int):=by omega
   obtain⟨k',rfl⟩:∃k',k=k'+1:=⟨k-1,by omega⟩
   have hk2:((k'+1:Nat):Int)-1=(k':Int):=by omega
   obtain⟨z,hz⟩:∃z:Int,((k'+1:Nat):Int)=z:=⟨_,rfl⟩
   rw[hz]at hki hk2 ⊢
   have hz3:z≤3:=by omega
   go_wp2_with fail
   refine(l01Below_any _ 8 (by omega) (by omega) hC).mono ?_
   rintro e w3 ⟨y,rfl,hy0,hy1,hC,hO⟩
   have hX:=hX.keepX (fun b e=>hO.block b (hX.blk e).2 (by simp;rintro rfl;exact hvg.out e))
   have hb3:Bl w w3:=hbw.ob hO (fun b hb=>by simp at hb;omega)
   have hg3:=hC.lt
   have hul:=hu.out.1
   clear hO
   go_wp2_with ((refine wpList_append_intX (w0:=w) info_int Tryz.underlying28 rfl (.tmp 19) (.tmp 22) rfl _ u (by rfl) hX hb3 1 (by rfl) (by omega) ?_);intro vx7 w7 hX7 hb7 hoth)
   have hC7:=hC.keepG (hoth g hg3 hvg.out).1 hb3 hb7 hAl.out
   have hv7:=Lib.hid (hoth g hg3 hvg.out).2
   go_roundw
   case rel=>exact⟨k',u++[y],by omega,rfl,hX7,Lib.hid ⟨by rw[List.length_append,List.length_singleton];omega,fun x hx=>by rcases List.mem_append.1 hx with hx|hx;exact hu.out.2 x hx;rw[List.mem_singleton]at hx;subst hx;exact⟨hy0,hy1⟩⟩,hv7,hC7,hb7⟩
   case measure=>rw[←hz];simp[intOf]
  ·obtain rfl:k=0:=by omega
   have e0:((0:Nat):Int)=0:=rfl
   rw[e0]
   clear e0
   have hul:=hu.out.1
   obtain⟨B,cb,rfl,hR⟩:=hX.own (by omega)
   go_wp2_with fail
   go_ret
   exact⟨B,_,cb,u,rfl,hR.rd,⟨by omega,hu.out.2⟩,hbw⟩
end
section
open Go.RowKit
theorem coM_mem (l:List Int):coM l∈csL:=by
 have h2:∀s,0≤(beF l s 2).1∧(beF l s 2).1<2:=fun s=>⟨Int.emod_nonneg _ (by decide),Int.emod_lt_of_pos _ (by decide)⟩
 have h3:∀s,0≤(beF l s 3).1∧(beF l s 3).1<3:=fun s=>⟨Int.emod_nonneg _ (by decide),Int.emod_lt_of_pos _ (by decide)⟩
 unfold coM coF
 split
 ·exact cs0_mem (h2 _).1 (h2 _).2
 ·split
  ·exact cs1_mem (h3 _).1 (h3 _).2
  ·exact cs2_mem
structure ClsF (m:MeQ) (M cL:List Int):Prop where
 has:∀x∈M,x∈cL
 idem:lsA (clA m.tris cL)=cL
 pre:MeshPre (bisM m M)
 rm:RmOk m (bisM m M)
 rml:rmL m (bisM m M)=cL
 len:(bisM m M).pts.length=m.pts.length+cL.length
 lM:M.length≤1000
 lc:cL.length≤1000
theorem ClOk.cls {m:MeQ}(h:ClOk m) (l:List Int):ClsF m (emA m.tris l) (lsA (clA m.tris (emA m.tris l))):=by
 have e:lsA (clA m.tris (emA m.tris l))=lsTo (clA m.tris (emA m.tris l)) (edL m.tris).length:=by
  unfold lsA
  rw[clA_len]
 have hE:=h.fit.has
 have h1:=lsTo_len (clA m.tris (emA m.tris l)) (edL m.tris).length
 have h2:=h.n40
 rw[e]
 refine⟨fun x hx=>?_,?_,h.pre (clA_len _ _),rm_gen h.nod hE _,rmL_eq h.nod (clA_len _ _),bpTo_len _ _ _ _,?_,?_⟩
 ·obtain⟨x0,x1⟩:=lsTo_mem (show x∈lsTo (emB m.tris (mkA l m.tris.length)) _ from hx)
  have hlen:(emB m.tris (mkA l m.tris.length)).length=(edL m.tris).length:=emTo_len _ _ _ _
  obtain⟨i,rfl⟩:∃i:Nat,x=(i:Int):=⟨x.toNat,by omega⟩
  have hi:i<(edL m.tris).length:=by omega
  exact mem_lsTo.2 ⟨hi,clA_has hi hx⟩
 ·rw[clA_idem hE]
  exact e
 ·have:=emA_len (ts:=m.tris) l h.fit.ok.t48
  omega
 ·omega
theorem ClOk.e0 {m:MeQ}(h:ClOk m):0<(edL m.tris).length:=by
 have h1:=fndE_lt (h.fit.has 0 (by have:=h.fit.ok.t1;omega)).1
 omega
theorem FnClosure_any (w0:World) {Ac:Option Addr}{nc cc:Nat}{lc:List Int}(hc:RdB w0 Ac nc cc lc) :
  Calls Tryz.prog 4 #[.slice Ac nc cc] w0 fun e w'=>e=.returned (.bool true)∧Bl w0 w':=by
 have hn:=hc.small
 by_cases hbig:(nc:Int)>1048576
 ·go_enter Tryz.func4,Tryz.ntmps4
  go_wp2_with fail
  go_ret
  exact⟨rfl,slc⟩
 ·have hsmall:¬1048576<(nc:Int):=hbig
  go_enter Tryz.func4,Tryz.ntmps4
  go_wp2_with fail
  refine(MakeMesh_x _ hc (fun i hi m hm=>mk_step (coM_mem lc) hi hm)).mono ?_
  rintro e w1 ⟨_,i1,mq,rfl,hi1,hm1,hO1,hb1⟩
  have hcl:=Lib.hid (mk_cl (coM_mem lc) hi1 hm1)
  have hE0:=Lib.hid hcl.out.e0
  obtain⟨gp1,n1,cp1,gt1,m1,ct1,rfl,hP1,hT1⟩:=hO1.1
  clear hO1 hm1 hi1
  go_upto_region 4 with (fail)
  refine wp_gen (fun W=>Bl w1 W∧∃g3,Blk W g3 26 #[.slice (some ⟨gp1,0,none⟩) n1 cp1,.slice (some ⟨gt1,0,none⟩) m1 ct1]∧g3=w1.heap.size) ⟨slc,_,by exact bts,rfl⟩ ?_
  rintro W1 ⟨hbW,g3,h3,hg3⟩
  rw[←hg3]
  have hP1:=RdPS.bl hP1 hbW
  have hT1:=RdTS.bl hT1 hbW
  have hM1:MeAt W1 (.agg #[.slice (some ⟨gp1,0,none⟩) n1 cp1,.slice (some ⟨gt1,0,none⟩) m1 ct1]) mq:=⟨gp1,n1,cp1,gt1,m1,ct1,rfl,hP1,hT1⟩
  have hn1:=Lib.hid (show mq.pts.length=n1 by rw[←hP1.len,List.length_map])
  have hbw:=hb1.next hbW
  clear hg3 hbW hb1
  go_cut [4] (fun s4 wx=>∃(A5:Option Addr) (k5 c5:Nat) (M:List Int),s4=.slice A5 k5 c5∧Hid (ClsF mq M (lsA (clA mq.tris M)))∧RdI wx A5 k5 c5 M∧Bl W1 wx)
  case first=>
   first |(go_region_held3 (fun w'=>(w'.cell? ⟨g3,0,none⟩=some (.slice (some ⟨gp1,0,none⟩) n1 cp1)∧w'.cell? ⟨g3,1,none⟩=some (.slice (some ⟨gt1,0,none⟩) m1 ct1))) (first|exact bx2 (T:=26) (h3.bl (show Bl W1 _ from slc))) (first |(go_at_call 14;refine(MakeSome_any _ 5 (by omega) (RdB.bl hc (hbw.next (show Bl W1 _ from slc)))).mono ?_;rintro e w2 ⟨A2,n2,c2,l,rfl,hl,hSo,hb2⟩;have hk2:n2≤1048576:=(by have h1:=hSo.1;have h2:=hl.len;omega)) |(go_at_call 13;refine(EdgeMarks_yes _ (MeAt.bl hM1 (show Bl W1 _ from slc)) hcl.out.fit (RdI.bl hl slc) hk2).mono ?_;rintro e w3 ⟨A5,k5,c5,rfl,hO5,hb3⟩)))|fail
   all_goals (go_wp2_with fail)
   all_goals go_meet
   all_goals exact⟨A5,k5,c5,_,rfl,Lib.hid (hcl.out.cls l),RdI.bl hO5.rd slc,slc⟩
  case rest=>
   obtain⟨A5,k5,c5,M,rfl,hF,hRM,hbc⟩:=hcut
   obtain⟨W2,rfl⟩:∃W2:World,W2=wc:=⟨_,rfl⟩
   have hk5:k5≤1000:=by rw[←hRM.len];exact hF.out.lM
   have hlM:=Lib.hid hRM.len
   have h3:=h3.bl hbc
   have hM1:=hM1.bl hbc
   have hP1:=RdPS.bl hP1 hbc
   have hT1:=RdTS.bl hT1 hbc
   have hbw:=hbw.next hbc
   clear hbc
   obtain⟨r0,r1⟩:=bx2 h3
   go_wp2_with fail
   refine(CloseMarks_yes _ hM1 hcl.out.fit hRM (by omega)).mono ?_
   obtain⟨cL,hcL⟩:∃cL,lsA (clA mq.tris M)=cL:=⟨_,rfl⟩
   rw[hcL]at hF ⊢
   clear hcL
   rintro e w3 ⟨A6,n6,c6,rfl,hC6,hb3⟩
   have hR6:=hC6.rd
   have hn6:n6≤1000:=by rw[←hR6.len];exact hF.out.lc
   have hl6:=Lib.hid hR6.len
   have h3:=h3.bl hb3
   have hM1:=hM1.bl hb3
   have hP1:=RdPS.bl hP1 hb3
   have hT1:=RdTS.bl hT1 hb3
   have hRM:=RdI.bl hRM hb3
   have hbw:=hbw.next hb3
   clear r0 r1 hC6 hb3
   obtain⟨r0,r1⟩:=bx2 h3
   go_wp2_with fail
   refine(CloseMarks_yes _ hM1 hcl.out.fit hR6 (by omega)).mono ?_
   rw[hF.out.idem]
   rintro e w4 ⟨A7,n7,c7,rfl,hC7,hb4⟩
   obtain rfl:n7=n6:=by rw[←hC7.rd.len,←hl6.out]
   have h3:=h3.bl hb4
   have hM1:=hM1.bl hb4
   have hP1:=RdPS.bl hP1 hb4
   have hT1:=RdTS.bl hT1 hb4
   have hRM:=RdI.bl hRM hb4
   have hR6:=RdI.bl hR6 hb4
   have hbw:=hbw.next hb4
   clear r0 r1 hC7 hb4
   go_wp2_with fail
   go_loopw [30] (fun v wr=>∃i:Nat,i≤k5∧v=.int .i64 (i:Int)∧Bl w4 wr) (fun v _=>k5-(intOf v).toNat)
   case atStart=>exact⟨0,by omega,rfl,Bl.refl _⟩
   case round=>
    obtain⟨i,hi,rfl,hbi⟩:=hrel
    obtain⟨wi,rfl⟩:∃wi:World,wi=wr:=⟨_,rfl⟩
    by_cases hik:i<k5
    ·have hii:(i:Int)<(k5:Int):=by omega
     obtain⟨ad,rfl,hlta,hca⟩:=(RdI.bl hRM hbi).cells i hik
     have hmem:=Lib.hid (hF.out.has _ (ix_mem (l:=M) (k:=i) (by rw[hlM.out];exact hik)))
     go_wp2_with fail
     refine(has_yes _ (RdI.bl hR6 hbi) (by omega) hmem.out).mono ?_
     rintro e w5 ⟨rfl,hb5⟩
     have hbi:=hbi.next hb5
     go_wp2_with fail
     go_roundw
     case rel=>exact⟨i+1,by omega,by go_num,hbi⟩
     case measure=>simp[intOf];omega
    ·obtain rfl:i=k5:=by omega
     have hkm2:¬(i:Int)<(i:Int):=by omega
     have h3:=h3.bl hbi
     have hM1:=hM1.bl hbi
     have hP1:=RdPS.bl hP1 hbi
     have hT1:=RdTS.bl hT1 hbi
     have hRM:=RdI.bl hRM hbi
     have hbi:=hbw.next hbi
     obtain⟨r0,r1⟩:=bx2 h3
     go_wp2_with fail
     refine(BisectEdges_q _ hM1 hcl.out.fit hRM (by omega) hF.out.pre).mono ?_
     rintro e w6 (⟨v2,rfl,hokx,hOx,hb6⟩ |⟨v2,rfl,hOx,hb6⟩)
     ·skip
      obtain⟨gp2,n2,cp2,gt2,m2,ct2,rfl,hP2,hT2⟩:=hOx.1
      replace hokx:=Lib.hid hokx
      have h3:=h3.bl hb6
      have hM1:=hM1.bl hb6
      have hbi:=hbi.next hb6
      clear r0 r1 hOx hb6
      go_upto_region 14 with (fail)
      refine wp_gen (fun W=>Bl w6 W∧∃g9,Blk W g9 26 #[.slice (some ⟨gp2,0,none⟩) n2 cp2,.slice (some ⟨gt2,0,none⟩) m2 ct2]∧g9=w6.heap.size) ⟨slc,_,by exact bts,rfl⟩ ?_
      rintro W6 ⟨hbW,g9,h9,hg9⟩
      rw[←hg9]
      have h3:=h3.bl hbW
      have hM1:=hM1.bl hbW
      have hP2:=RdPS.bl hP2 hbW
      have hT2:=RdTS.bl hT2 hbW
      have hbi:=hbi.next hbW
      clear hg9 hbW
      obtain⟨r0,r1⟩:=bx2 h3
      obtain⟨q0,q1⟩:=bx2 h9
      go_wp2_with fail
      refine(EdgesOf_yes _ hM1 hcl.out.fit.ok).mono ?_
      rintro e w7 ⟨ge,ne,ce,rfl,hE7,hb7⟩
      have hne1:0<ne:=by rw[←hE7.len];exact hE0.out
      have hne0:((ne:Int) == 0)=false:=by simp;omega
      have hne2:¬(ne:Int)=0:=by omega
      have hne3:¬ne=0:=by omega
      have h3:=h3.bl hb7
      have h9:=h9.bl hb7
      have hM1:=hM1.bl hb7
      have hP2:=RdPS.bl hP2 hb7
      have hT2:=RdTS.bl hT2 hb7
      have hbi:=hbi.next hb7
      clear r0 r1 q0 q1 hb7 hE7
      obtain⟨r0,r1⟩:=bx2 h3
      obtain⟨q0,q1⟩:=bx2 h9
      go_wp2_with fail
      refine(RefinedEdges_yes _ hM1 (show MeAt w7 (.agg #[.slice (some ⟨gp2,0,none⟩) n2 cp2,.slice (some ⟨gt2,0,none⟩) m2 ct2]) (bisM mq M)from ⟨gp2,n2,cp2,gt2,m2,ct2,rfl,hP2,hT2⟩) hcl.out.fit hokx.out hF.out.rm).mono ?_
      unfold ReRes
      rw[hF.out.rml]
      rintro e w8 ⟨A8,n8,c8,rfl,hR8,hb8⟩
      obtain rfl:n8=n7:=by rw[←hR8.len,←hl6.out]
      have hn2:n2=n1+n8:=by
       have h1:(bisM mq M).pts.length=n2:=by rw[←hP2.len,List.length_map]
       have h2:=hF.out.len
       rw[h1,hn1.out,hl6.out]at h2
       exact h2
      have hn40:n2≤40:=by
       have h1:(bisM mq M).pts.length=n2:=by rw[←hP2.len,List.length_map]
       rw[←h1]
       exact hF.out.pre.n40
      subst hn2
      have hw1:IntKind.i64.wrap ((n1:Int)+(n8:Int))=(n1:Int)+(n8:Int):=IntWalk.i64_in _ (by omega)
      have hcast:((n1+n8:Nat):Int)=(n1:Int)+(n8:Int):=by omega
      clear r0 r1 q0 q1
      obtain⟨r0,r1⟩:=bx2 (h3.bl hb8)
      obtain⟨q0,q1⟩:=bx2 (h9.bl hb8)
      go_wp2_with fail
      go_ret
      exact⟨rfl,hbi.next hb8⟩
     ·skip
      obtain⟨gp2,n2,cp2,gt2,m2,ct2,rfl,hP2,hT2⟩:=hOx.1
      skip
      have h3:=h3.bl hb6
      have hM1:=hM1.bl hb6
      have hP1:=RdPS.bl hP1 hb6
      have hT1:=RdTS.bl hT1 hb6
      have hbi:=hbi.next hb6
      clear r0 r1 hOx hb6
      go_upto_region 14 with (fail)
      refine wp_gen (fun W=>Bl w6 W∧∃g9,Blk W g9 26 #[.slice (some ⟨gp2,0,none⟩) n2 cp2,.slice (some ⟨gt2,0,none⟩) m2 ct2]∧g9=w6.heap.size) ⟨slc,_,by exact bts,rfl⟩ ?_
      rintro W6 ⟨hbW,g9,h9,hg9⟩
      rw[←hg9]
      have h3:=h3.bl hbW
      have hM1:=hM1.bl hbW
      have hP1:=RdPS.bl hP1 hbW
      have hT1:=RdTS.bl hT1 hbW
      have hP2:=RdPS.bl hP2 hbW
      have hT2:=RdTS.bl hT2 hbW
      have hbi:=hbi.next hbW
      clear hg9 hbW
      obtain⟨r0,r1⟩:=bx2 h3
      obtain⟨q0,q1⟩:=bx2 h9
      go_wp2_with fail
      refine(EdgesOf_yes _ hM1 hcl.out.fit.ok).mono ?_
      rintro e w7 ⟨ge,ne,ce,rfl,hE7,hb7⟩
      have hne1:0<ne:=by rw[←hE7.len];exact hE0.out
      have hne0:((ne:Int) == 0)=false:=by simp;omega
      have hne2:¬(ne:Int)=0:=by omega
      have hne3:¬ne=0:=by omega
      have h3:=h3.bl hb7
      have h9:=h9.bl hb7
      have hM1:=hM1.bl hb7
      have hP1:=RdPS.bl hP1 hb7
      have hT1:=RdTS.bl hT1 hb7
      have hP2:=RdPS.bl hP2 hb7
      have hT2:=RdTS.bl hT2 hb7
      have hbi:=hbi.next hb7
      clear r0 r1 q0 q1 hb7 hE7
      obtain⟨r0,r1⟩:=bx2 h3
      obtain⟨q0,q1⟩:=bx2 h9
      go_wp2_with fail
      have hsm:=SameMesh_any w7 (x:=⟨mq.pts.map tp,mq.tris⟩) (y:=⟨mq.pts.map tp,mq.tris⟩) hP2 hT2 hP1 hT1
      rw[sameM_refl]at hsm
      refine hsm.mono ?_
      rintro e w8 ⟨rfl,hb8⟩
      go_wp2_with fail
      go_ret
      exact⟨rfl,hbi.next hb8⟩
end
end Go.Proofs.YtmkcacgmnnlddaaGreat
