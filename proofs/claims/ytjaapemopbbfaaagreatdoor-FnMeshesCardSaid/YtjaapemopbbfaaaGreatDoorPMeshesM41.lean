import Derived.Test.YtjaapemopbbfaaaGreatDoorPMeshesM38
import Derived.Test.YtjaapemopbbfaaaGreatDoorPMeshesM40
import Derived.Test.YtjaapemopbbfaaaGreatDoorPMeshesM25
namespace Go.Proofs.YtjaapemopbbfaaaGreatDoor
open Go.RowKit
set_option maxRecDepth 100000
set_option maxHeartbeats 32000000
theorem Vw (w:World) {gp n cp gt m ct:Nat}{mq:MeQ}(hp:qR w (some ⟨gp,0,none⟩) n cp (mq.pts.map tp)) (ht:zx w (some ⟨gt,0,none⟩) m ct mq.tris) (hf:KY mq) (hd:∀k,k<mq.tris.length->(pix mq.tris k).a≠(pix mq.tris k).b/\(pix mq.tris k).b≠(pix mq.tris k).c/\(pix mq.tris k).c≠(pix mq.tris k).a) {B:Option Addr}{kl dl:Nat}{list:List Int}(hl:RdI w B kl dl list) (hk:kl<=1048576) (hsp:∀k,k<mq.tris.length->qbw (J2 (edL mq.tris) (vo (clA mq.tris list) mq.pts.length (edL mq.tris).length)) 2 (pix mq.tris k)) :
  Calls Tryz.prog 117 #[.agg #[.slice (some ⟨gp,0,none⟩) n cp,.slice (some ⟨gt,0,none⟩) m ct],.slice B kl dl] w (qet w (qdW mq list)):=by
 have hm48:m<=48:=by have:=hf.ok.t48;rw[ht.len]at this;exact this
 have hm0:1<=m:=by have:=hf.ok.t1;rw[ht.len]at this;exact this
 have hn0:mq.pts.length=n:=by rw[<-hp.len,List.length_map]
 have hn3:3<=n:=by have:=hf.ok.n3;rw[hn0]at this;exact this
 have hn40:n<=40:=by have:=hf.ok.n40;rw[hn0]at this;exact this
 have hn:=Lib.hid hn0
 have hm:=Lib.hid ht.len
 have hEI:=Lib.hid (show K6 n (edL mq.tris)from ul (by have:=hf.ok.ixs;rw[hn0]at this;exact this) (Nat.le_refl _))
 have hne1:1<=(edL mq.tris).length:=by have:=Qp (hf.has 0 (by rw[ht.len];omega)).1;omega
 have hok:=Lib.hid hf.ok
 have hE:=Lib.hid hf.has
 have hS:=Lib.hid hf.sm
 have hlE:(edL mq.tris).length<=200:=by have h:=jh mq.tris mq.tris.length;rw[hm.out]at h;unfold edL;rw[hm.out];omega
 have hsrt:=Lib.hid (show Zr (edL mq.tris)from jQ mq.tris _)
 have hnrm:=Lib.hid (show Xj (edL mq.tris)from Vc mq.tris _)
 have hres:=Lib.hid (show qdW mq list=qed mq (edL mq.tris) (clF mq.tris (edL mq.tris) ((edL mq.tris).length+1) (mkA list (edL mq.tris).length))from rfl)
 unfold clA at hsp
 rw[hn0]at hsp
 replace hsp:=Lib.hid hsp
 replace hd:=Lib.hid hd
 have hcp:=hp.cap
 have hct:=ht.cap
 clear hn0 hf
 go_enter Tryz.func117,Tryz.ntmps117
 go_wp2_with fail
 refine qd (λW=>Bl w W/\Blk W w.heap.size 49 #[.slice (some ⟨gp,0,none⟩) n cp,.slice (some ⟨gt,0,none⟩) m ct]/\Wk 2 49 (w.heap.size+1) W) ⟨slc,bts,bts⟩ ?_
 rintro W ⟨hbW,h2,hr⟩
 refine(Ju _ (zx.bl ht hbW) (by omega) hd.out).mono ?_
 rintro e w1 ⟨ge,ne,ce,rfl,hes,hge,hb1⟩
 have h2:=h2.bl hb1
 have hr:=hr.bl hb1
 have hbW:=hbW.next hb1
 clear hb1 hge
 have hne:=Lib.hid hes.len
 have hnl:ne<=200:=by rw[<-hes.len];exact hlE
 have hnp:1<=ne:=by rw[<-hes.len];exact hne1
 have hce:=hes.cap
 obtain⟨L,hL⟩:∃L,edL mq.tris=L:=⟨_,rfl⟩
 rw[hL]at hes hne hE hsrt hEI hres hnrm hsp
 clear hL hlE hne1
 have hp1:=qR.bl hp hbW
 have ht1:=zx.bl ht hbW
 have hle:ge < w1.heap.size:=by
  obtain⟨ad,e,hlt,_⟩:=hes.cells 0 (by omega)
  injection e with e
  rw[<-e]at hlt
  exact hlt
 have hlp:gp < w1.heap.size:=by
  obtain⟨ad,e,hlt,_⟩:=hp1.cells 0 (by omega)
  injection e with e
  rw[<-e]at hlt
  exact hlt
 have h2l:=h2.lt
 have hrl:=hr.lt
 obtain⟨r0,r1⟩:=bx2 h2
 go_wp2_with fail
 clear r0 r1
 refine(UQ _ hp1 (by omega) (λi hi=>by rw[zv (by rw[hn.out];exact hi)];exact⟨qdD (hok.out.place.1 i (by rw[hn.out];exact hi)).1,qdD (hok.out.place.1 i (by rw[hn.out];exact hi)).2⟩)).mono ?_
 rintro e w2 ⟨vp0,rfl,hrow,hb2⟩
 obtain⟨gpc,cpc,rfl,hgpc,_⟩:=jK.lit hrow (by rw[List.length_map,hn.out];omega) (by rw[List.length_map,hn.out];omega)
 rw[List.length_map,hn.out]at hrow ⊢
 have hgpl:gpc<w2.heap.size:=(qO.lo hrow (g:=gpc) rfl).2
 have hz2:=hb2.size
 go_upto_region 3 with (fail)
 refine qe (λW3=>Bl w2 W3/\∃g6,Blk W3 g6 49 #[.slice (some ⟨gpc,0,none⟩) n cpc,.slice none 0 0]/\g6=w2.heap.size) ⟨by exact slc,_,by exact bts,rfl⟩ ?_
 rintro W3 ⟨hb3,g6,h6,hg6⟩
 rw[<-hg6]
 have h6l:=h6.lt
 go_upto_region 4 with (fail)
 refine qe (λW4=>Bl W3 W4/\∃gm0,OwL 3 w1.heap.size W4 (.slice (some ⟨gm0,0,none⟩) 0 0) []/\gm0=W3.heap.size) ⟨by exact slc,_,OwL.empty (cur:=#[]) W3 (by have:=hb3.size;omega) (by decide),rfl⟩ ?_
 rintro W4 ⟨hb4,gm0,hM,hgm0⟩
 rw[<-hgm0]
 have h24:=h2.bl ((hb2.next hb3).next hb4)
 obtain⟨r0,r1⟩:=bx2 h24
 have hgml:gm0<W4.heap.size:=(hM.blk (g:=gm0) rfl).2
 have hgm3:W3.heap.size<=gm0:=by omega
 clear hgm0
 go_wp2_with fail
 clear r0 r1 h24
 have hb14:=(hb2.next hb3).next hb4
 refine(Xg _ (zx.bl ht1 hb14) (by omega) (hes.bl hb14) hsrt.out hnrm.out (by omega) (hl.bl (hbW.next hb14)) hk hE.out).mono ?_
 rintro e W5 ⟨gU,rfl,hU,hgU,hb5⟩
 obtain⟨bl,hbl⟩:∃bl,clF mq.tris L (L.length+1) (mkA list L.length)=bl:=⟨_,rfl⟩
 have hbll:=Lib.hid (show bl.length=ne by rw[<-hbl,kA,Xn];exact hne.out)
 rw[hbl]at hU hres hsp
 clear hbl
 have hUl:=hU.lt
 have hb25:=(hb3.next hb4).next hb5
 have hb15:=hb2.next hb25
 have h6:=(h6.bl hb4).bl hb5
 have hPB:PB w1.heap.size [g6,gU] W5 (.slice (some ⟨gpc,0,none⟩) n cpc) (.slice (some ⟨gm0,0,none⟩) 0 0) ((vc mq L bl 0).map tp) (vo bl n 0):=by
  refine⟨?_,hM.bl hb5,λg e e2=>?_,λx hx e=>?_,λx hx e=>?_⟩
  ·rw[show vc mq L bl 0=mq.pts by simp[vc,JJ]]
   exact jK.nx hrow hb25 (λb hb=>by simp at hb;omega) (λg e=>by injection e with e;simp only at e;omega)
  ·injection e with e
   injection e2 with e2
   simp only at e e2
   omega
  ·injection e with e
   simp at hx
   simp only at e
   omega
  ·injection e with e
   simp at hx
   simp only at e
   omega
 have hg6w:w1.heap.size<=g6:=by omega
 have hgUw:g6<gU:=by omega
 clear hrow hM hb2 hb3 hb4 hb5 hb14 hb25 hgpc hgpl hg6 hgm3 hgml hgU
 go_wp2_with fail
 go_loopw [7,25] (λs v wr=>∃(k:Nat) (vp vm:Value),k<=ne/\v=.int .i64 (k:Int)/\vm=s/\Blk wr g6 49 #[vp,.slice none 0 0]/\PB w1.heap.size [g6,gU] wr vp vm ((vc mq L bl k).map tp) (vo bl n k)/\OwU wr gU ne (bgt bl)/\Bl w1 wr/\w1.heap.size<=wr.heap.size) (λ_ v _=>ne-(intOf v).toNat)
 case atStart=>exact⟨0,_,_,by omega,rfl,rfl,h6,hPB,hU,hb15,hb15.size⟩
 case round=>
  clear h6 hPB hU hb15
  obtain⟨k,vp,vm,hk2,rfl,rfl,h6,hPB,hU,hbw,hzr⟩:=hrel
  obtain⟨wo,rfl⟩:∃wo:World,wo=wr:=⟨_,rfl⟩
  have hx6:=h6.lt
  have hxU:=hU.lt
  have hxl:∀b∈[g6,gU],b<wo.heap.size:=by intro b hb;simp at hb;omega
  by_cases hkn:k<ne
  ·have hki:(k:Int)<(ne:Int):=by omega
   have x0:=hU.cell hkn
   obtain⟨q,hq⟩:∃q,bgt bl k=q:=⟨_,rfl⟩
   rw[hq]at x0
   cases q
   ·have hM:=Lib.hid (qbC (n:=n) hq)
    have hP:=Lib.hid (qcu mq L hq)
    clear hq
    go_wp2_with ((refine yA qn Tryz.underlying22 rfl (.tmp 58) (.tmp 60) rfl _ (vo bl n k) (by rfl) hPB.nums hzr w1 hbw (Nat.le_refl _) 1 (by rfl) (by rw[vY];omega) ?_);intro vm9 w9 hM9 hb9 hz9 hoth9)
    rw[hM.out]at hM9
    go_roundw
    case rel=>exact⟨k+1,vp,vm9,by omega,by go_num,rfl,(hoth9 g6 h6.lt (hPB.mx g6 (by simp))).1.trans h6,by rw[hP.out];exact hPB.num hxl hM9 hz9 hoth9,hU.mv (hoth9 gU hU.lt (hPB.mx gU (by simp))).1,hb9,hb9.size⟩
    case measure=>simp[intOf];omega
   ·have hM:=Lib.hid (qaZ (n:=n) hq)
    have hPm:=Lib.hid (qch mq L hq)
    clear hq
    obtain⟨Ap,cpv,rfl⟩:=qO.shapeN hPB.row
    have hlen:((vc mq L bl k).map tp).length=n+(JJ bl k).length:=by rw[List.length_map,Vz,hn.out]
    have hlsl:=Q0 bl k
    obtain⟨np,hnp⟩:∃np,n+(JJ bl k).length=np:=⟨_,rfl⟩
    rw[hnp]at hlen hM
    rw[hlen]at h6 hPB
    have hnp2:np<=300:=by omega
    clear hlen hnp
    obtain⟨r0,r1⟩:=bx2 h6
    go_upto_region 10 with (fail)
    refine qe (λW=>Bl wo W) (by exact slc) ?_
    intro W hb0W
    clear r0 r1 x0
    have h6:=h6.bl hb0W
    have hPB:=hPB.bl hb0W
    have hU:=hU.bl hb0W
    have hbW:=hbw.next hb0W
    have hloW:w1.heap.size<=W.heap.size:=hbW.size
    have hxl:∀b∈[g6,gU],b<W.heap.size:=by intro b hb;have:=hxl b hb;have:=hb0W.size;omega
    clear hb0W hbw hzr hx6 hxU
    obtain⟨xe0,xe1,_,_⟩:=zX hes hkn
    obtain⟨⟨ha0,ha1⟩,hb0,hb1⟩:=hEI.out.at_ (k:=k) (by rw[hne.out];exact hkn)
    have hmd:mdP mq L (k:Int)=qd6 (pix mq.pts (pix L k).a.toNat) (pix mq.pts (pix L k).b.toNat):=rfl
    obtain⟨ed,hed⟩:∃ed,pix L k=ed:=⟨_,rfl⟩
    rw[hed]at xe0 xe1 ha0 ha1 hb0 hb1 hmd
    clear hed
    obtain⟨ua,hea⟩:∃ua:Nat,ed.a=(ua:Int):=⟨ed.a.toNat,by omega⟩
    obtain⟨ub,heb⟩:∃ub:Nat,ed.b=(ub:Int):=⟨ed.b.toNat,by omega⟩
    rw[hea]at xe0 ha0 ha1 hmd
    rw[heb]at xe1 hb0 hb1 hmd
    rw[Int.toNat_natCast,Int.toNat_natCast]at hmd
    have hean:ua<n:=by omega
    have hebn:ub<n:=by omega
    have heai:(ua:Int)<(n:Int):=by omega
    have hebi:(ub:Int)<(n:Int):=by omega
    have hmid:=Lib.hid (show qdX (tp (pix mq.pts ua)) (tp (pix mq.pts ub))=tp (mdP mq L (k:Int))by rw[hmd];exact qca (hS.out ua (by rw[hn.out];exact hean)) (hS.out ub (by rw[hn.out];exact hebn)))
    clear hea heb hmd ha0 ha1 hb0 hb1
    obtain⟨sa,Aa,na,ca,Ba,ma,da,ta,Ca,ia,ea,Da,ja,fa,⟨xa0,xa1,xa2,xa3,xa4,xa5⟩,hXa,hYa⟩:=zC hp1 (show ua<n by omega)
    rw[zv (by rw[hn.out];omega)]at hXa hYa
    obtain⟨sb,Ab,nb,cb,Bb,mb,db,tb,Cb,ib,eb,Db,jb,fb,⟨xb0,xb1,xb2,xb3,xb4,xb5⟩,hXb,hYb⟩:=zC hp1 (show ub<n by omega)
    rw[zv (by rw[hn.out];omega)]at hXb hYb
    have hHeld:(λw'=>(w'.cell? ⟨g6,0,none⟩=some (.slice Ap np cpv)/\w'.cell? ⟨g6,1,none⟩=some (.slice none 0 0))/\(w'.cell? ⟨w.heap.size,0,none⟩=some (.slice (some ⟨gp,0,none⟩) n cp)/\w'.cell? ⟨w.heap.size,1,none⟩=some (.slice (some ⟨gt,0,none⟩) m ct))/\w'.cell? ⟨ge,k*4,none⟩=some (.int .i64 (ua:Int))/\w'.cell? ⟨ge,k*4+1,none⟩=some (.int .i64 (ub:Int))/\(w'.cell? ⟨gp,ua*6,none⟩=some (.bool sa)/\w'.cell? ⟨gp,ua*6+1,none⟩=some (.slice Aa na ca)/\w'.cell? ⟨gp,ua*6+2,none⟩=some (.slice Ba ma da)/\w'.cell? ⟨gp,ua*6+3,none⟩=some (.bool ta)/\w'.cell? ⟨gp,ua*6+4,none⟩=some (.slice Ca ia ea)/\w'.cell? ⟨gp,ua*6+5,none⟩=some (.slice Da ja fa))/\(w'.cell? ⟨gp,ub*6,none⟩=some (.bool sb)/\w'.cell? ⟨gp,ub*6+1,none⟩=some (.slice Ab nb cb)/\w'.cell? ⟨gp,ub*6+2,none⟩=some (.slice Bb mb db)/\w'.cell? ⟨gp,ub*6+3,none⟩=some (.bool tb)/\w'.cell? ⟨gp,ub*6+4,none⟩=some (.slice Cb ib eb)/\w'.cell? ⟨gp,ub*6+5,none⟩=some (.slice Db jb fb))) (W.drew):=⟨bx2 (T:=49) (h6.bl slc),bx2 (T:=49) (h2.bl (show Bl w1 _ from slc)),(Bl.qeV (w:=w1) (p:=⟨ge,k*4,none⟩) slc hle).trans xe0,(Bl.qeV (w:=w1) (p:=⟨ge,k*4+1,none⟩) slc hle).trans xe1,⟨(Bl.qeV (w:=w1) (p:=⟨gp,ua*6,none⟩) slc hlp).trans xa0,(Bl.qeV (w:=w1) (p:=⟨gp,ua*6+1,none⟩) slc hlp).trans xa1,(Bl.qeV (w:=w1) (p:=⟨gp,ua*6+2,none⟩) slc hlp).trans xa2,(Bl.qeV (w:=w1) (p:=⟨gp,ua*6+3,none⟩) slc hlp).trans xa3,(Bl.qeV (w:=w1) (p:=⟨gp,ua*6+4,none⟩) slc hlp).trans xa4,(Bl.qeV (w:=w1) (p:=⟨gp,ua*6+5,none⟩) slc hlp).trans xa5⟩,⟨(Bl.qeV (w:=w1) (p:=⟨gp,ub*6,none⟩) slc hlp).trans xb0,(Bl.qeV (w:=w1) (p:=⟨gp,ub*6+1,none⟩) slc hlp).trans xb1,(Bl.qeV (w:=w1) (p:=⟨gp,ub*6+2,none⟩) slc hlp).trans xb2,(Bl.qeV (w:=w1) (p:=⟨gp,ub*6+3,none⟩) slc hlp).trans xb3,(Bl.qeV (w:=w1) (p:=⟨gp,ub*6+4,none⟩) slc hlp).trans xb4,(Bl.qeV (w:=w1) (p:=⟨gp,ub*6+5,none⟩) slc hlp).trans xb5⟩⟩
    refine yp 24 25 (λw'=>(w'.cell? ⟨g6,0,none⟩=some (.slice Ap np cpv)/\w'.cell? ⟨g6,1,none⟩=some (.slice none 0 0))/\(w'.cell? ⟨w.heap.size,0,none⟩=some (.slice (some ⟨gp,0,none⟩) n cp)/\w'.cell? ⟨w.heap.size,1,none⟩=some (.slice (some ⟨gt,0,none⟩) m ct))/\w'.cell? ⟨ge,k*4,none⟩=some (.int .i64 (ua:Int))/\w'.cell? ⟨ge,k*4+1,none⟩=some (.int .i64 (ub:Int))/\(w'.cell? ⟨gp,ua*6,none⟩=some (.bool sa)/\w'.cell? ⟨gp,ua*6+1,none⟩=some (.slice Aa na ca)/\w'.cell? ⟨gp,ua*6+2,none⟩=some (.slice Ba ma da)/\w'.cell? ⟨gp,ua*6+3,none⟩=some (.bool ta)/\w'.cell? ⟨gp,ua*6+4,none⟩=some (.slice Ca ia ea)/\w'.cell? ⟨gp,ua*6+5,none⟩=some (.slice Da ja fa))/\(w'.cell? ⟨gp,ub*6,none⟩=some (.bool sb)/\w'.cell? ⟨gp,ub*6+1,none⟩=some (.slice Ab nb cb)/\w'.cell? ⟨gp,ub*6+2,none⟩=some (.slice Bb mb db)/\w'.cell? ⟨gp,ub*6+3,none⟩=some (.bool tb)/\w'.cell? ⟨gp,ub*6+4,none⟩=some (.slice Cb ib eb)/\w'.cell? ⟨gp,ub*6+5,none⟩=some (.slice Db jb fb))) rfl (by kernel_rfl) hHeld ?_
    refine qc (i:=0) (oi:=_) (v:=?_) (fuel:=24) rfl (by kernel_rfl) (by kernel_rfl) (by kernel_rfl) (by kernel_rfl) (λ_ _ _ h=>h) (by rfl) ?_ hHeld ?_
    rotate_left 1
    ·(intro w' hSw;(try dsimp only at hSw);go_simp <;> with_reducible rfl)
    refine qc (i:=1) (oi:=_) (v:=?_) (fuel:=23) rfl (by kernel_rfl) (by kernel_rfl) (by kernel_rfl) (by kernel_rfl) (λ_ _ _ h=>h) (by rfl) ?_ hHeld ?_
    rotate_left 1
    ·(intro w' hSw;(try dsimp only at hSw);go_simp <;> with_reducible rfl)
    refine qc (i:=2) (oi:=_) (v:=?_) (fuel:=22) rfl (by kernel_rfl) (by kernel_rfl) (by kernel_rfl) (by kernel_rfl) (λ_ _ _ h=>h) (by rfl) ?_ hHeld ?_
    rotate_left 1
    ·(intro w' hSw;(try dsimp only at hSw);go_simp <;> with_reducible rfl)
    refine qc (i:=3) (oi:=_) (v:=?_) (fuel:=21) rfl (by kernel_rfl) (by kernel_rfl) (by kernel_rfl) (by kernel_rfl) (λ_ _ _ h=>h) (by rfl) ?_ hHeld ?_
    rotate_left 1
    ·(intro w' hSw;(try dsimp only at hSw);go_simp <;> with_reducible rfl)
    refine qc (i:=4) (oi:=_) (v:=?_) (fuel:=20) rfl (by kernel_rfl) (by kernel_rfl) (by kernel_rfl) (by kernel_rfl) (λ_ _ _ h=>h) (by rfl) ?_ hHeld ?_
    rotate_left 1
    ·(intro w' hSw;(try dsimp only at hSw);go_simp <;> with_reducible rfl)
    refine qc (i:=5) (oi:=_) (v:=?_) (fuel:=19) rfl (by kernel_rfl) (by kernel_rfl) (by kernel_rfl) (by kernel_rfl) (λ_ _ _ h=>h) (by rfl) ?_ hHeld ?_
    rotate_left 1
    ·(intro w' hSw;(try dsimp only at hSw);go_simp <;> with_reducible rfl)
    refine qc (i:=6) (oi:=_) (v:=?_) (fuel:=18) rfl (by kernel_rfl) (by kernel_rfl) (by kernel_rfl) (by kernel_rfl) (λ_ _ _ h=>h) (by rfl) ?_ hHeld ?_
    rotate_left 1
    ·(intro w' hSw;(try dsimp only at hSw);go_simp <;> with_reducible rfl)
    refine qc (i:=7) (oi:=_) (v:=?_) (fuel:=17) rfl (by kernel_rfl) (by kernel_rfl) (by kernel_rfl) (by kernel_rfl) (λ_ _ _ h=>h) (by rfl) ?_ hHeld ?_
    rotate_left 1
    ·(intro w' hSw;(try dsimp only at hSw);go_simp <;> with_reducible rfl)
    refine qc (i:=8) (oi:=_) (v:=?_) (fuel:=16) rfl (by kernel_rfl) (by kernel_rfl) (by kernel_rfl) (by kernel_rfl) (λ_ _ _ h=>h) (by rfl) ?_ hHeld ?_
    rotate_left 1
    ·(intro w' hSw;(try dsimp only at hSw);go_simp <;> with_reducible rfl)
    refine qc (i:=9) (oi:=_) (v:=?_) (fuel:=15) rfl (by kernel_rfl) (by kernel_rfl) (by kernel_rfl) (by kernel_rfl) (λ_ _ _ h=>h) (by rfl) ?_ hHeld ?_
    rotate_left 1
    ·(intro w' hSw;(try dsimp only at hSw);go_simp <;> with_reducible rfl)
    refine qc (i:=10) (oi:=_) (v:=?_) (fuel:=14) rfl (by kernel_rfl) (by kernel_rfl) (by kernel_rfl) (by kernel_rfl) (λ_ _ _ h=>h) (by rfl) ?_ hHeld ?_
    rotate_left 1
    ·(intro w' hSw;(try dsimp only at hSw);go_simp <;> with_reducible rfl)
    refine qc (i:=11) (oi:=_) (v:=?_) (fuel:=13) rfl (by kernel_rfl) (by kernel_rfl) (by kernel_rfl) (by kernel_rfl) (λ_ _ _ h=>h) (by rfl) ?_ hHeld ?_
    rotate_left 1
    ·(intro w' hSw;(try dsimp only at hSw);go_simp <;> with_reducible rfl)
    refine qc (i:=12) (oi:=_) (v:=?_) (fuel:=12) rfl (by kernel_rfl) (by kernel_rfl) (by kernel_rfl) (by kernel_rfl) (λ_ _ _ h=>h) (by rfl) ?_ hHeld ?_
    rotate_left 1
    ·(intro w' hSw;(try dsimp only at hSw);go_simp <;> with_reducible rfl)
    refine qc (i:=13) (oi:=_) (v:=?_) (fuel:=11) rfl (by kernel_rfl) (by kernel_rfl) (by kernel_rfl) (by kernel_rfl) (λ_ _ _ h=>h) (by rfl) ?_ hHeld ?_
    rotate_left 1
    ·(intro w' hSw;(try dsimp only at hSw);go_simp <;> with_reducible rfl)
    refine qc (i:=14) (oi:=_) (v:=?_) (fuel:=10) rfl (by kernel_rfl) (by kernel_rfl) (by kernel_rfl) (by kernel_rfl) (λ_ _ _ h=>h) (by rfl) ?_ hHeld ?_
    rotate_left 1
    ·(intro w' hSw;(try dsimp only at hSw);go_simp <;> with_reducible rfl)
    refine qc (i:=15) (oi:=_) (v:=?_) (fuel:=9) rfl (by kernel_rfl) (by kernel_rfl) (by kernel_rfl) (by kernel_rfl) (λ_ _ _ h=>h) (by rfl) ?_ hHeld ?_
    rotate_left 1
    ·(intro w' hSw;(try dsimp only at hSw);go_simp <;> with_reducible rfl)
    refine qc (i:=16) (oi:=_) (v:=?_) (fuel:=8) rfl (by kernel_rfl) (by kernel_rfl) (by kernel_rfl) (by kernel_rfl) (λ_ _ _ h=>h) (by rfl) ?_ hHeld ?_
    rotate_left 1
    ·(intro w' hSw;(try dsimp only at hSw);go_simp <;> with_reducible rfl)
    refine qc (i:=17) (oi:=_) (v:=?_) (fuel:=7) rfl (by kernel_rfl) (by kernel_rfl) (by kernel_rfl) (by kernel_rfl) (λ_ _ _ h=>h) (by rfl) ?_ hHeld ?_
    rotate_left 1
    ·(intro w' hSw;(try dsimp only at hSw);go_simp <;> with_reducible rfl)
    refine qc (i:=18) (oi:=_) (v:=?_) (fuel:=6) rfl (by kernel_rfl) (by kernel_rfl) (by kernel_rfl) (by kernel_rfl) (λ_ _ _ h=>h) (by rfl) ?_ hHeld ?_
    rotate_left 1
    ·(intro w' hSw;(try dsimp only at hSw);go_simp <;> with_reducible rfl)
    refine qc (i:=19) (oi:=_) (v:=?_) (fuel:=5) rfl (by kernel_rfl) (by kernel_rfl) (by kernel_rfl) (by kernel_rfl) (λ_ _ _ h=>h) (by rfl) ?_ hHeld ?_
    rotate_left 1
    ·(intro w' hSw;(try dsimp only at hSw);go_simp <;> with_reducible rfl)
    clear hHeld
    simp only[Act.put,List.setIfInBounds_toArray]
    refine qG (i:=20) (o:=_) (fuel:=4) rfl (by kernel_rfl) (λK hK=>?_)
    go_simp
    refine(XO _ (hXa.bl slc) (hYa.bl slc) (hXb.bl slc) (hYb.bl slc)).mono ?_
    rintro e w6 ⟨s1,A1,n1,c1,B1,m1,d1,t1,C1,i1,e1,D1,j1,f1,rfl,hP,hb6⟩
    have hb6:Bl W w6:=(Bl.drew (Bl.refl W)).next hb6
    have hz6:W.heap.size<=w6.heap.size:=Bl.size hb6
    have hPB6:=hPB.bl hb6
    have hrow6:=qO.bl (qx 3) hPB.row hb6
    have hP6:zw (NX vm [g6,gU]) 3 W.heap.size w6 s1 A1 n1 c1 B1 m1 d1 t1 C1 i1 e1 D1 j1 f1 _:=zw.nx hP hxl (λg e=>(hPB.nums.blk e).2)
    have h6:=h6.bl hb6
    have hU:=hU.bl hb6
    have hb36:Bl w1 w6:=hbW.next hb6
    refine hK.out _ _ (λ_=>⟨bx2 (T:=49) (h6.bl slc),bx2 (T:=49) (h2.bl (show Bl w1 _ from slc)),(Bl.qeV (w:=w1) (p:=⟨ge,k*4,none⟩) slc hle).trans xe0,(Bl.qeV (w:=w1) (p:=⟨ge,k*4+1,none⟩) slc hle).trans xe1,⟨(Bl.qeV (w:=w1) (p:=⟨gp,ua*6,none⟩) slc hlp).trans xa0,(Bl.qeV (w:=w1) (p:=⟨gp,ua*6+1,none⟩) slc hlp).trans xa1,(Bl.qeV (w:=w1) (p:=⟨gp,ua*6+2,none⟩) slc hlp).trans xa2,(Bl.qeV (w:=w1) (p:=⟨gp,ua*6+3,none⟩) slc hlp).trans xa3,(Bl.qeV (w:=w1) (p:=⟨gp,ua*6+4,none⟩) slc hlp).trans xa4,(Bl.qeV (w:=w1) (p:=⟨gp,ua*6+5,none⟩) slc hlp).trans xa5⟩,⟨(Bl.qeV (w:=w1) (p:=⟨gp,ub*6,none⟩) slc hlp).trans xb0,(Bl.qeV (w:=w1) (p:=⟨gp,ub*6+1,none⟩) slc hlp).trans xb1,(Bl.qeV (w:=w1) (p:=⟨gp,ub*6+2,none⟩) slc hlp).trans xb2,(Bl.qeV (w:=w1) (p:=⟨gp,ub*6+3,none⟩) slc hlp).trans xb3,(Bl.qeV (w:=w1) (p:=⟨gp,ub*6+4,none⟩) slc hlp).trans xb4,(Bl.qeV (w:=w1) (p:=⟨gp,ub*6+5,none⟩) slc hlp).trans xb5⟩⟩) ?_
    clear hK K
    try simp only[Act.put,List.setIfInBounds_toArray,List.set_cons_zero,List.set_cons_succ]
    refine qG (i:=21) (o:=_) (fuel:=3) rfl (by kernel_rfl) (λK hK=>?_)
    go_simp
    refine hK.out _ _ (λ_=>⟨bx2 (T:=49) (h6.bl slc),bx2 (T:=49) (h2.bl (show Bl w1 _ from slc)),(Bl.qeV (w:=w1) (p:=⟨ge,k*4,none⟩) slc hle).trans xe0,(Bl.qeV (w:=w1) (p:=⟨ge,k*4+1,none⟩) slc hle).trans xe1,⟨(Bl.qeV (w:=w1) (p:=⟨gp,ua*6,none⟩) slc hlp).trans xa0,(Bl.qeV (w:=w1) (p:=⟨gp,ua*6+1,none⟩) slc hlp).trans xa1,(Bl.qeV (w:=w1) (p:=⟨gp,ua*6+2,none⟩) slc hlp).trans xa2,(Bl.qeV (w:=w1) (p:=⟨gp,ua*6+3,none⟩) slc hlp).trans xa3,(Bl.qeV (w:=w1) (p:=⟨gp,ua*6+4,none⟩) slc hlp).trans xa4,(Bl.qeV (w:=w1) (p:=⟨gp,ua*6+5,none⟩) slc hlp).trans xa5⟩,⟨(Bl.qeV (w:=w1) (p:=⟨gp,ub*6,none⟩) slc hlp).trans xb0,(Bl.qeV (w:=w1) (p:=⟨gp,ub*6+1,none⟩) slc hlp).trans xb1,(Bl.qeV (w:=w1) (p:=⟨gp,ub*6+2,none⟩) slc hlp).trans xb2,(Bl.qeV (w:=w1) (p:=⟨gp,ub*6+3,none⟩) slc hlp).trans xb3,(Bl.qeV (w:=w1) (p:=⟨gp,ub*6+4,none⟩) slc hlp).trans xb4,(Bl.qeV (w:=w1) (p:=⟨gp,ub*6+5,none⟩) slc hlp).trans xb5⟩⟩) ?_
    clear hK K
    try simp only[Act.put,List.setIfInBounds_toArray,List.set_cons_zero,List.set_cons_succ]
    refine qG (i:=22) (o:=_) (fuel:=2) rfl (by kernel_rfl) (λK hK=>?_)
    refine Yz (qbE vm [g6,gU]) rfl (.tmp 35) (.tmp 55) rfl _ (by rfl) hrow6 hP6 (Nat.le_refl _) hloW 1 (by rfl) (by rw[List.length_map,Vz];have:=Q0 bl k;have:=hn.out;omega) w1 hb36 (Nat.le_refl _) ?_
    intro v' w8 hrow' hb8' hoth
    obtain⟨A8,n8,c8,rfl⟩:=jK.shape3 hrow'
    have hPB8:=hPB6.pt (λx hx=>Nat.lt_of_lt_of_le (hxl x hx) hz6) hrow' hoth
    have h6:Blk w8 g6 49 _:=(hoth.2 g6 h6.lt (hPB6.px g6 (by simp))).1.trans h6
    have hU8:=hU.mv (hoth.2 gU hU.lt (hPB6.px gU (by simp))).1
    have hz8:=hoth.1
    refine hK.out _ _ (λ_=>⟨bx2 (T:=49) (h6.bl slc),bx2 (T:=49) (h2.bl (show Bl w1 _ from slc)),(Bl.qeV (w:=w1) (p:=⟨ge,k*4,none⟩) slc hle).trans xe0,(Bl.qeV (w:=w1) (p:=⟨ge,k*4+1,none⟩) slc hle).trans xe1,⟨(Bl.qeV (w:=w1) (p:=⟨gp,ua*6,none⟩) slc hlp).trans xa0,(Bl.qeV (w:=w1) (p:=⟨gp,ua*6+1,none⟩) slc hlp).trans xa1,(Bl.qeV (w:=w1) (p:=⟨gp,ua*6+2,none⟩) slc hlp).trans xa2,(Bl.qeV (w:=w1) (p:=⟨gp,ua*6+3,none⟩) slc hlp).trans xa3,(Bl.qeV (w:=w1) (p:=⟨gp,ua*6+4,none⟩) slc hlp).trans xa4,(Bl.qeV (w:=w1) (p:=⟨gp,ua*6+5,none⟩) slc hlp).trans xa5⟩,⟨(Bl.qeV (w:=w1) (p:=⟨gp,ub*6,none⟩) slc hlp).trans xb0,(Bl.qeV (w:=w1) (p:=⟨gp,ub*6+1,none⟩) slc hlp).trans xb1,(Bl.qeV (w:=w1) (p:=⟨gp,ub*6+2,none⟩) slc hlp).trans xb2,(Bl.qeV (w:=w1) (p:=⟨gp,ub*6+3,none⟩) slc hlp).trans xb3,(Bl.qeV (w:=w1) (p:=⟨gp,ub*6+4,none⟩) slc hlp).trans xb4,(Bl.qeV (w:=w1) (p:=⟨gp,ub*6+5,none⟩) slc hlp).trans xb5⟩⟩) ?_
    clear hK K
    try simp only[Act.put,List.setIfInBounds_toArray]
    refine qG (i:=23) (o:=_) (fuel:=1) rfl (by kernel_rfl) (λK hK=>?_)
    go_simp
    refine hK.out _ _ (λ_=>⟨bx2 (T:=49) (h6.bl slc),bx2 (T:=49) (h2.bl (show Bl w1 _ from slc)),(Bl.qeV (w:=w1) (p:=⟨ge,k*4,none⟩) slc hle).trans xe0,(Bl.qeV (w:=w1) (p:=⟨ge,k*4+1,none⟩) slc hle).trans xe1,⟨(Bl.qeV (w:=w1) (p:=⟨gp,ua*6,none⟩) slc hlp).trans xa0,(Bl.qeV (w:=w1) (p:=⟨gp,ua*6+1,none⟩) slc hlp).trans xa1,(Bl.qeV (w:=w1) (p:=⟨gp,ua*6+2,none⟩) slc hlp).trans xa2,(Bl.qeV (w:=w1) (p:=⟨gp,ua*6+3,none⟩) slc hlp).trans xa3,(Bl.qeV (w:=w1) (p:=⟨gp,ua*6+4,none⟩) slc hlp).trans xa4,(Bl.qeV (w:=w1) (p:=⟨gp,ua*6+5,none⟩) slc hlp).trans xa5⟩,⟨(Bl.qeV (w:=w1) (p:=⟨gp,ub*6,none⟩) slc hlp).trans xb0,(Bl.qeV (w:=w1) (p:=⟨gp,ub*6+1,none⟩) slc hlp).trans xb1,(Bl.qeV (w:=w1) (p:=⟨gp,ub*6+2,none⟩) slc hlp).trans xb2,(Bl.qeV (w:=w1) (p:=⟨gp,ub*6+3,none⟩) slc hlp).trans xb3,(Bl.qeV (w:=w1) (p:=⟨gp,ub*6+4,none⟩) slc hlp).trans xb4,(Bl.qeV (w:=w1) (p:=⟨gp,ub*6+5,none⟩) slc hlp).trans xb5⟩⟩) ?_
    clear hK K
    try simp only[Act.put,List.setIfInBounds_toArray,List.set_cons_zero,List.set_cons_succ]
    obtain⟨z0',z1'⟩:=bx2 h6
    have zf:=h6.frozen 0
    refine qG (i:=24) (o:=_) (fuel:=0) rfl (by kernel_rfl) (λK hK=>?_)
    go_simp
    refine hK.out _ _ (λh=>absurd rfl h) ?_
    clear hK K
    try simp only[Act.put,List.setIfInBounds_toArray]
    refine ym (by kernel_rfl) ?_
    rw[hmid.out,hPm.out]at hPB8
    have hPBs:=hPB8.set (q:=⟨g6,0,none⟩) (by simp) (.slice A8 n8 c8)
    have h6s:Blk (w8.setCell ⟨g6,0,none⟩ (.slice A8 n8 c8)) g6 49 #[.slice A8 n8 c8,.slice none 0 0]:=by simpa using h6.set_ 0 (.slice A8 n8 c8)
    have hUs:=hU8.mv (Below.heap_setCell w8 ⟨g6,0,none⟩ (.slice A8 n8 c8) gU (by simp;omega))
    have hbs:Bl w1 (w8.setCell ⟨g6,0,none⟩ (.slice A8 n8 c8)):=Bl.set hb8' hg6w _
    go_upto_region 11 with (fail)
    refine qe (λY=>PB w1.heap.size [g6,gU] Y (.slice A8 n8 c8) vm ((vc mq L bl (k+1)).map tp) (vo bl n k)/\Blk Y g6 49 #[.slice A8 n8 c8,.slice none 0 0]/\OwU Y gU ne (bgt bl)/\Bl w1 Y) ⟨hPBs,h6s,hUs,hbs⟩ ?_
    clear hPBs h6s hUs hbs hPB8 hU8 hb8' hoth hz8 hrow' h6 hPB hU hbW hloW hxl z0' z1' zf hP hP6 hPB6 hrow6 hb6 hz6 hb36
    rintro Y ⟨hPB,h6,hU,hbY⟩
    have hxl:∀b∈[g6,gU],b<Y.heap.size:=by have:=h6.lt;have:=hU.lt;intro b hb;simp at hb;omega
    go_wp2_with ((refine yA qn Tryz.underlying22 rfl (.tmp 58) (.tmp 60) rfl _ (vo bl n k) (by rfl) hPB.nums hbY.size w1 hbY (Nat.le_refl _) 1 (by rfl) (by rw[vY];omega) ?_);intro vm9 w9 hM9 hb9 hz9 hoth9)
    rw[hM.out]at hM9
    go_roundw
    case rel=>exact⟨k+1,_,vm9,by omega,by go_num,rfl,(hoth9 g6 h6.lt (hPB.mx g6 (by simp))).1.trans h6,hPB.num hxl hM9 hz9 hoth9,hU.mv (hoth9 gU hU.lt (hPB.mx gU (by simp))).1,hb9,hb9.size⟩
    case measure=>simp[intOf];omega
  ·obtain rfl:k=ne:=by omega
   have hkm2:¬(k:Int)<(k:Int):=by omega
   have hres2:=Lib.hid (show qdW mq list=⟨vc mq L bl k,Up mq.tris (J2 L (vo bl n k)) m⟩by rw[hres.out];unfold qed;rw[hne.out,hn.out,hm.out])
   have hsp2:=Lib.hid (show ∀j,j<mq.tris.length->qbw (J2 L (vo bl n k)) 2 (pix mq.tris j)by have h:=hsp.out;rw[hne.out]at h;exact h)
   have hbp:=Vz mq L bl k
   have hlsl:=Q0 bl k
   rw[hn.out]at hbp
   obtain⟨gpo,cpo,rfl,hgpo,_⟩:=jK.lit hPB.row (by rw[List.length_map];omega) (by rw[List.length_map];omega)
   obtain⟨np,hnp⟩:∃np,((vc mq L bl k).map tp).length=np:=⟨_,rfl⟩
   have hnp2:np<=300:=by rw[<-hnp,List.length_map];omega
   rw[hnp]at h6 hPB
   replace hnp:=Lib.hid hnp
   have hmdl:=Lib.hid (vY bl n k)
   obtain⟨md,hmd⟩:∃md,vo bl n k=md:=⟨_,rfl⟩
   rw[hmd]at hPB hres2 hmdl hsp2
   clear hmd hbp hlsl hgpo hres hsp
   obtain⟨gm,dm,rfl,_⟩:=hPB.nums.lit (by rw[hmdl.out];omega) (by rw[hmdl.out];omega)
   rw[hmdl.out]at hPB ⊢
   obtain⟨W7,rfl⟩:∃W7:World,W7=wo:=⟨_,rfl⟩
   have h2w:=h2.bl hbw
   obtain⟨r0,r1⟩:=bx2 h2w
   have hzW7:=hbw.size
   have hzt:w.heap.size+1<W7.heap.size:=by omega
   go_wp2_with fail
   clear r0 r1 h2w
   go_loopw [66] (λv wr=>∃(j:Nat) (vt:Value),j<=m/\v=.int .i64 (j:Int)/\Blk wr g6 49 #[.slice (some ⟨gpo,0,none⟩) np cpo,vt]/\OwT W7.heap.size wr vt (Up mq.tris (J2 L md) j)/\Ob [g6] W7 wr) (λv _=>m-(intOf v).toNat)
   case atStart=>exact⟨0,.slice none 0 0,by omega,rfl,h6,World.ownsRow_nil _ _ _ _,Ob.refl _ _⟩
   case round=>
    have h67:=h6
    clear h6
    obtain⟨j,vt,hj,rfl,h6,hT,hO⟩:=hrel
    obtain⟨wi,rfl⟩:∃wi:World,wi=wr:=⟨_,rfl⟩
    have hb1i:Bl w1 wi:=hbw.ob hO (λb hb=>by simp at hb;omega)
    by_cases hjm:j<m
    ·have hji:(j:Int)<(m:Int):=by omega
     obtain⟨y0,y1,y2,y3,y4⟩:=jO (zx.bl ht1 hb1i) hjm
     have hlv : -1000<=(pix mq.tris j).level/\(pix mq.tris j).level<=1000-((2:Nat):Int):=by have:=(hok.out.reg j (by rw[hm.out];exact hjm)).2;omega
     have hbs:=Lib.hid (Yw mq.tris (J2 L md) j)
     have hsj:=hsp2.out j (by rw[hm.out];exact hjm)
     obtain⟨t,ht_⟩:∃t,pix mq.tris j=t:=⟨_,rfl⟩
     rw[ht_]at y0 y1 y2 y3 y4 hlv hbs hsj
     clear ht_
     go_upto_region 16 with (fail)
     refine qe (λW=>Bl wi W/\∃g12,Blk W g12 83 #[.int .i64 t.a,.int .i64 t.b,.int .i64 t.c,.int .i64 t.region,.int .i64 t.level]/\g12=wi.heap.size) ⟨by exact slc,_,by exact bts,rfl⟩ ?_
     rintro W ⟨hbi,g12,h12,hg12⟩
     rw[<-hg12]
     have h6:=h6.bl hbi
     have hT:=hT.bl hbi
     have hO:=hO.trans (Ob.of_bl hbi _)
     clear y0 y1 y2 y3 y4 hg12 hbi hb1i
     obtain⟨i0,i1⟩:=bx2 h6
     obtain⟨y0,y1,y2,y3,y4⟩:=bx5 h12
     have hb0:Bl (W7.setCell ⟨g6,1,none⟩ vt) W:=Bl.ofOb1 hO (by simpa using h67.set_ 1 vt) h6
     have hs0:(W7.setCell ⟨g6,1,none⟩ vt).heap.size=W7.heap.size:=by simp
     have hes0:Yn (W7.setCell ⟨g6,1,none⟩ vt) (some ⟨ge,0,none⟩) k ce L:=(hes.bl hbw).setLit (show ge≠g6 by omega) _
     have hmd0:RdI (W7.setCell ⟨g6,1,none⟩ vt) (some ⟨gm,0,none⟩) k dm md:=OwL.rdLit (hPB.set (q:=⟨g6,1,none⟩) (by simp) vt).nums (by rw[hmdl.out];omega) (by rw[hmdl.out];omega)
     have hz7:W7.heap.size<=W.heap.size:=hO.size
     have hlb:(Up mq.tris (J2 L md) j).length+2 ^ 2<=10000:=by have:=uz mq.tris (J2 L md) j;omega
     go_wp2_with fail
     refine(xo hes0 hmd0 hsrt.out hnrm.out (by omega) (base:=W7.heap.size) (by omega) 2 (by omega) W t vt _ hsj hlv hT hlb hz7 hb0).mono ?_
     rintro e w8 ⟨v8,rfl,hT8,hnil8,hb8,hz8,hB8⟩
     have hnt:∀b,b<W7.heap.size->vt.ownBlock≠some b:=λb hb e=>by have:=(hT.blk e).1;omega
     have h68:Blk w8 g6 49 _:=(hB8 g6 h6.lt (hnt g6 h67.lt)).1.trans h6
     have hO8:=Ob.split hO hb8 hz8 (λb hb=>(hB8 b (by omega) (hnt b hb)).1)
     obtain⟨g8,c8,rfl,_,_,_,_⟩:=hT8.lit hnil8
     obtain⟨z0,z1⟩:=bx2 h68
     have zf:=h68.frozen 1
     clear i0 i1 y0 y1 y2 y3 y4
     rw[<-hbs.out]at hT8 ⊢
     go_wp2_with fail
     go_roundw
     case rel=>exact⟨j+1,_,by omega,by go_num,by simpa using h68.set_ 1 _,hT8.keep (λb e=>Below.heap_setCell _ ⟨g6,1,none⟩ _ b (show b≠g6 by have:=(hT8.blk e).1;have:=h67.lt;omega)),hO8.set (by simp) 1 _⟩
     case measure=>simp[intOf];omega
    ·obtain rfl:j=m:=by omega
     have hkm3:¬(j:Int)<(j:Int):=by omega
     have hbpos:=uN mq.tris (J2 L md) j
     obtain⟨gto,cto,rfl,hgto,_,_,_⟩:=hT.lit (λe=>by subst e;have h0:=OwT.nil0 hT;rw[h0]at hbpos;simp at hbpos;omega)
     have hrowF:=(hPB.ob hO (by simp)).row
     have hr:=hr.bl hb1i
     obtain⟨i0,i1⟩:=bx2 h6
     obtain⟨v0,x0⟩:=hr.val_ (i:=0) (by omega)
     obtain⟨v1,x1⟩:=hr.val_ (i:=1) (by omega)
     have hg:=hr.lt
     obtain⟨cs4,hB4,hc4⟩:=hr
     have hf0:=hB4.frozen 0
     have hf1:=hB4.frozen 1
     have hlow:w.heap.size+1<w1.heap.size:=hrl
     clear hkm2
     go_wp2_with fail
     rw[hres2.out]
     have hTf:=(hT.keep (λb e=>Below.heap_setCell _ ⟨w.heap.size+1,0,none⟩ (.slice (some ⟨gpo,0,none⟩) np cpo) b (by have:=(hT.blk e).1;simp;omega)))
     have hTf:=(hTf.keep (λb e=>Below.heap_setCell _ ⟨w.heap.size+1,1,none⟩ (.slice (some ⟨gto,0,none⟩) (Up mq.tris (J2 L md) j).length cto) b (by have:=(hTf.blk e).1;simp;omega)))
     exact bodyPost_ret (v:=.agg #[.slice (some ⟨gpo,0,none⟩) np cpo,.slice (some ⟨gto,0,none⟩) (Up mq.tris (J2 L md) j).length cto]) (by simp[results,Tryz.results117,go_sem,x0,x1]) rfl ⟨_,rfl,Qo.of (mq:=⟨vc mq L bl k,Up mq.tris (J2 L md) j⟩) (jK.setLow (jK.setLow hrowF (q:=⟨w.heap.size+1,0,none⟩) hlow _) (q:=⟨w.heap.size+1,1,none⟩) hlow _) hTf (by omega) (by omega) (by have h:=hnp.out;rw[List.length_map]at h;exact(show (vc mq L bl k).length<=1048576 by omega)),Bl.set (Bl.set (hbW.next hb1i) (show w.heap.size<=w.heap.size+1 by omega) _) (show w.heap.size<=w.heap.size+1 by omega) _⟩
section
variable {lo:Nat}{w W w':World}{vp vm vp' vm':Value}{L L':List (List Int)}{M M':List Int}
end
end Go.Proofs.YtjaapemopbbfaaaGreatDoor
