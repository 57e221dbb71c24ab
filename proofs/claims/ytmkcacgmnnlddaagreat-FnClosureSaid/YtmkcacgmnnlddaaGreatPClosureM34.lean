import Derived.Test.YtmkcacgmnnlddaaGreatRows
import Derived.Test.YtmkcacgmnnlddaaGreatPClosureM33
import Derived.Test.YtmkcacgmnnlddaaGreatPClosureM31
namespace Go.Proofs.YtmkcacgmnnlddaaGreat
set_option maxRecDepth 100000
set_option maxHeartbeats 32000000
section
open Go.RowKit
theorem bisect_any (w:World) {gp n cp gt m ct:Nat}{mq:MeQ}(hp:RdPS w (some ⟨gp,0,none⟩) n cp (mq.pts.map tp)) (ht:RdTS w (some ⟨gt,0,none⟩) m ct mq.tris) (hok:MeshOk mq) (hE:EdHas mq.tris (edL mq.tris)) (hS:∀k,k<mq.pts.length→Sm2 (pix mq.pts k)) {B:Option Addr}{kl dl:Nat}{list:List Int}(hl:RdI w B kl dl list) (hk:kl≤1048576) :
  Calls Tryz.prog 46 #[.agg #[.slice (some ⟨gp,0,none⟩) n cp,.slice (some ⟨gt,0,none⟩) m ct],.slice B kl dl] w (MeRes w (bisM mq list)):=by
 have hm48:m≤48:=by have:=hok.t48;rw[ht.len]at this;exact this
 have hm0:1≤m:=by have:=hok.t1;rw[ht.len]at this;exact this
 have hn0:mq.pts.length=n:=by rw[←hp.len,List.length_map]
 have hn3:3≤n:=by have:=hok.n3;rw[hn0]at this;exact this
 have hn40:n≤40:=by have:=hok.n40;rw[hn0]at this;exact this
 have hn:=Lib.hid hn0
 have hm:=Lib.hid ht.len
 have hEI:=Lib.hid (show EdIx n (edL mq.tris)from edTo_ix (by have:=hok.ixs;rw[hn0]at this;exact this) (Nat.le_refl _))
 replace hok:=Lib.hid hok
 replace hE:=Lib.hid hE
 replace hS:=Lib.hid hS
 have hlE:(edL mq.tris).length≤200:=by have h:=edTo_len mq.tris mq.tris.length;rw[hm.out]at h;unfold edL;rw[hm.out];omega
 have hsrt:=Lib.hid (show SrtE (edL mq.tris)from edTo_srt mq.tris _)
 have hres:=Lib.hid (show bisM mq list=bisL mq (edL mq.tris) (clF mq.tris (edL mq.tris) ((edL mq.tris).length+1) (mkA list (edL mq.tris).length))from rfl)
 have hcp:=hp.cap
 have hct:=ht.cap
 clear hn0
 go_enter Tryz.func46,Tryz.ntmps46
 go_wp2_with fail
 refine calls_gen (fun W=>Bl w W∧Blk W w.heap.size 26 #[.slice (some ⟨gp,0,none⟩) n cp,.slice (some ⟨gt,0,none⟩) m ct]∧Wk 2 26 (w.heap.size+1) W) ⟨slc,bts,bts⟩ ?_
 rintro W ⟨hbW,h2,hr⟩
 refine(edges_any _ (RdTS.bl ht hbW) (by omega)).mono ?_
 rintro e w1 ⟨ge,ne,ce,rfl,hes,hge,hb1⟩
 have h2:=h2.bl hb1
 have hr:=hr.bl hb1
 have hbW:=hbW.next hb1
 clear hb1 hge
 have hne:=Lib.hid hes.len
 have hnl:ne≤200:=by rw[←hes.len];exact hlE
 have hce:=hes.cap
 obtain⟨L,hL⟩:∃L,edL mq.tris=L:=⟨_,rfl⟩
 rw[hL]at hes hne hE hsrt hEI hres
 clear hL hlE
 go_upto_region 2 with (fail)
 refine wp_gen (fun W=>Bl w1 W∧∃g5,Blk W g5 41 #[.slice (some ⟨ge,0,none⟩) ne ce]∧g5=w1.heap.size) ⟨by exact slc,_,by exact bts,rfl⟩ ?_
 rintro W2 ⟨hb2,g5,h5,hg5⟩
 rw[←hg5]
 have hg50:w.heap.size+1<g5:=by have:=hr.lt;omega
 have h2:=h2.bl hb2
 have hr:=hr.bl hb2
 have hes:=hes.bl hb2
 have hbW:=hbW.next hb2
 clear hb2 hg5
 obtain⟨r0,r1⟩:=bx2 h2
 have y5:W2.cell? ⟨g5,0,none⟩=some (.slice (some ⟨ge,0,none⟩) ne ce):=h5.cell 0
 go_wp2_with fail
 clear r0 r1 y5
 refine(closed_any _ (RdTS.bl ht hbW) (by omega) hes hsrt.out (by omega) (hl.bl hbW) hk hE.out).mono ?_
 rintro e W3 ⟨gb,rfl,hU,_,hb3⟩
 obtain⟨bl,hbl⟩:∃bl,clF mq.tris L (L.length+1) (mkA list L.length)=bl:=⟨_,rfl⟩
 have hbll:=Lib.hid (show bl.length=ne by rw[←hbl,clF_len,mkA_len];exact hne.out)
 rw[hbl]at hU hres
 clear hbl
 have h2:=h2.bl hb3
 have h5:=h5.bl hb3
 have hr:=hr.bl hb3
 have hes:=hes.bl hb3
 have hbW:=hbW.next hb3
 clear hb3
 obtain⟨r0,r1⟩:=bx2 h2
 go_wp2_with fail
 clear r0 r1
 have hp3:=RdPS.bl hp hbW
 have ht3:=RdTS.bl ht hbW
 refine(copyMesh_any _ hp3 ht3 (by omega) (by omega) (by omega) (fun i hi=>by rw[pix_map (by rw[hn.out];exact hi)];exact⟨sm_sz (hok.out.place.1 i (by rw[hn.out];exact hi)).1,sm_sz (hok.out.place.1 i (by rw[hn.out];exact hi)).2⟩)).mono ?_
 rintro e w4 ⟨lo,gpc,n',cpc,gtc,m',ctc,rfl,hn',hm',hrow,_,_,hlo,hb34⟩
 obtain rfl:n=n':=by rw[hn',List.length_map,hn.out]
 have hgpc:gpc<w4.heap.size:=(RowG.lo hrow (g:=gpc) rfl).2
 have hlow4:lo≤w4.heap.size:=by have:=(RowG.lo hrow (g:=gpc) rfl).1;omega
 have hle:0<ne→ge<W3.heap.size:=fun h=>by
  obtain⟨ad,e,hlt,_⟩:=hes.cells 0 h
  injection e with e
  rw[←e]at hlt
  exact hlt
 have hlp:gp < W3.heap.size:=by
  obtain⟨ad,e,hlt,_⟩:=hp3.cells 0 (by omega)
  injection e with e
  rw[←e]at hlt
  exact hlt
 have hg5l:=h5.lt
 have h2l:=h2.lt
 have hgbl:=hU.lt
 have hrl:=hr.lt
 clear hn' hm'
 have hmk:=make_ints (P:=Tryz.prog) Tryz.underlying28 info_int ne ne (Nat.le_refl _) (by omega)
 have y5:=(h5.bl hb34).cell 0
 replace y5:w4.cell? ⟨g5,0,none⟩=some (.slice (some ⟨ge,0,none⟩) ne ce):=y5
 have hg54:g5<w4.heap.size:=Nat.lt_of_lt_of_le hg5l hb34.size
 have hfd:∀W:World,(Instr.field 26 (.agg #[.slice (some ⟨gpc,0,none⟩) n cpc,.slice (some ⟨gtc,0,none⟩) m' ctc]) 0).run Tryz.prog W=.ok (.slice (some ⟨gpc,0,none⟩) n cpc) W:=fun _=>by kernel_rfl
 go_wp2_with fail
 clear hfd
 refine wp_gen (fun W5=>Bl w4 W5∧∃g7 gm g8,Blk W5 g7 26 #[.slice (some ⟨gpc,0,none⟩) n cpc,.slice none 0 0]∧Ow 3 W5 gm (List.replicate ne 0)∧Blk W5 g8 28 #[.slice (some ⟨gm,0,none⟩) ne ne]∧g7=w4.heap.size∧gm=w4.heap.size+1∧g8=w4.heap.size+1+1) ⟨by exact slc,_,_,_,by exact bts,by have h:=(Ow.mk (T:=3) (w4.alloc (.cells #[.slice (some ⟨gpc,0,none⟩) n cpc,.slice none 0 0] 26)) ne).alloc (.cells #[.slice (some ⟨w4.heap.size+1,0,none⟩) ne ne] 28);rw[World.size_alloc]at h;exact h,by exact bts,rfl,rfl,rfl⟩ ?_
 rintro W5 ⟨hb5,g7,gm,g8,h7,hV,h8,hg7,hgm,hg8⟩
 rw[←hg8,←hgm,←hg7]
 have hrow:RowP (NotIn [g7,gm,g8]) lo W5.heap.size W5 (.slice (some ⟨gpc,0,none⟩) n cpc) ((bpTo mq L bl 0).map tp):=by
  have h:=RowP.notIn (xs:=[g7,gm,g8]) hrow hb5 (fun b hb=>by simp at hb;omega)
  rw[show bpTo mq L bl 0=mq.pts by simp[bpTo,lsTo]]
  exact h
 have hvp:=Lib.hid (show (Value.slice (some ⟨gpc,0,none⟩) n cpc).ownBlock≠some g7∧(Value.slice (some ⟨gpc,0,none⟩) n cpc).ownBlock≠some gm∧(Value.slice (some ⟨gpc,0,none⟩) n cpc).ownBlock≠some g8 from by
  refine⟨?_,?_,?_⟩ <;> (intro e;injection e with e;simp only at e;omega))
 rw[mdC_zero bl n ne]at hV
 have hW35:Bl W3 W5:=hb34.next hb5
 have hz35:W3.heap.size≤w4.heap.size:=hb34.size
 have hloW:lo≤W5.heap.size:=by have:=h7.lt;omega
 have hxo:W3.heap.size≤g7∧g7<gm∧gm<g8:=by omega
 have hgl:g8<W5.heap.size:=h8.lt
 clear hb5 hb34 hg8 hgm hg7 hmk y5 hlow4 hgpc
 go_loopw [29] (fun v wr=>∃(k:Nat) (vp:Value),k≤ne∧v=.int .i64 (k:Int)∧Blk wr g7 26 #[vp,.slice none 0 0]∧RowP (NotIn [g7,gm,g8]) lo wr.heap.size wr vp ((bpTo mq L bl k).map tp)∧Hid (vp.ownBlock≠some g7∧vp.ownBlock≠some gm∧vp.ownBlock≠some g8)∧Ow 3 wr gm (mdC bl n ne k)∧Blk wr g8 28 #[.slice (some ⟨gm,0,none⟩) ne ne]∧Bl W3 wr∧W5.heap.size≤wr.heap.size) (fun v _=>ne-(intOf v).toNat)
 case atStart=>exact⟨0,_,by omega,rfl,h7,hrow,hvp,hV,h8,hW35,Nat.le_refl _⟩
 case round=>
  clear h7 hrow hvp hV h8 hW35
  obtain⟨k,vp,hk,rfl,h7,hrow,hvp,hV,h8,hbw,hzr⟩:=hrel
  obtain⟨wo,rfl⟩:∃wo:World,wo=wr:=⟨_,rfl⟩
  by_cases hkn:k<ne
  ·have hki:(k:Int)<(ne:Int):=by omega
   have x0:=(hU.bl hbw).cell hkn
   have x8:wo.cell? ⟨g8,0,none⟩=some (.slice (some ⟨gm,0,none⟩) ne ne):=h8.cell 0
   have xv:=Ow.cell hV (k:=k) (by rw[mdC_len];exact hkn)
   have xf:=Ow.frozen hV k
   obtain⟨q,hq⟩:∃q,bgt bl k=q:=⟨_,rfl⟩
   rw[hq]at x0
   cases q
   ·have hM:=Lib.hid (mdC_no (n:=n) (ne:=ne) hq)
    have hP:=Lib.hid (bpTo_no mq L hq)
    clear hq
    go_wp2_with fail
    go_roundw
    case rel=>exact⟨k+1,vp,by omega,by go_num,h7.far (show g7≠gm by omega) _,by rw[hP.out];exact RowP.setX hrow (q:=⟨gm,k,none⟩) (by simp) hvp.out.2.1 _,hvp,by rw[←hM.out];exact Ow.set hV k (-1),h8.far (show g8≠gm by omega) _,Bl.set hbw (show W3.heap.size≤gm by omega) _,by simpa using hzr⟩
    case measure=>simp[intOf];omega
   ·have hM:=Lib.hid (mdC_yes (n:=n) (ne:=ne) hq)
    have hPm:=Lib.hid (bpM_yes mq L hq)
    clear hq
    obtain⟨Ap,cpv,rfl⟩:=RowG.shapeN hrow
    have hlen:((bpTo mq L bl k).map tp).length=n+(lsTo bl k).length:=by rw[List.length_map,bpTo_len,hn.out]
    have hlsl:=lsTo_len bl k
    obtain⟨np,hnp⟩:∃np,n+(lsTo bl k).length=np:=⟨_,rfl⟩
    rw[hnp]at hlen hM
    rw[hlen]at h7 hrow hvp
    have hnp2:np≤300:=by omega
    clear hlen hnp
    obtain⟨r0,r1⟩:=bx2 h7
    obtain⟨s0,s1⟩:=bx2 (h7.far (p:=⟨gm,k,none⟩) (show g7≠gm by omega) (.int .i64 (-1)))
    have x82:(wo.setCell ⟨gm,k,none⟩ (.int .i64 (-1))).cell? ⟨g8,0,none⟩=some (.slice (some ⟨gm,0,none⟩) ne ne):=(h8.far (p:=⟨gm,k,none⟩) (show g8≠gm by omega) (.int .i64 (-1))).cell 0
    have xv2:=Ow.cell (Ow.set hV k (-1)) (k:=k) (by rw[List.length_set,mdC_len];exact hkn)
    have xf2:=Ow.frozen (Ow.set hV k (-1)) k
    go_upto_region 11 with (fail)
    refine wp_gen (fun W=>Bl W3 W∧W5.heap.size≤W.heap.size∧Blk W g7 26 #[.slice Ap np cpv,.slice none 0 0]∧RowP (NotIn [g7,gm,g8]) lo W.heap.size W (.slice Ap np cpv) ((bpTo mq L bl k).map tp)∧Ow 3 W gm (mdC bl n ne (k+1))∧Blk W g8 28 #[.slice (some ⟨gm,0,none⟩) ne ne]) ⟨Bl.set (Bl.set hbw (show W3.heap.size≤gm by omega) _) (show W3.heap.size≤gm by omega) _,by simpa using hzr,(h7.far (show g7≠gm by omega) _).far (show g7≠gm by omega) _,RowP.setX (RowP.setX hrow (q:=⟨gm,k,none⟩) (by simp) hvp.out.2.1 _) (q:=⟨gm,k,none⟩) (by simp) hvp.out.2.1 _,by rw[←hM.out];exact Ow.set (Ow.set hV k (-1)) k _,(h8.far (show g8≠gm by omega) _).far (show g8≠gm by omega) _⟩ ?_
    clear r0 r1 s0 s1 x82 xv2 xf2 xv xf x8 x0 h7 hrow hV h8 hM hbw hzr
    rintro W ⟨hbW,hzr,h7,hrow,hV,h8⟩
    have hloW:lo≤W.heap.size:=by omega
    have hle:=hle (by omega)
    have hxl:∀b∈[g7,gm,g8],b<W.heap.size:=by intro b hb;simp at hb;omega
    obtain⟨xe0,xe1,_,_⟩:=eds_lit hes hkn
    obtain⟨⟨ha0,ha1⟩,hb0,hb1⟩:=hEI.out.at_ (k:=k) (by rw[hne.out];exact hkn)
    have hmd:mdP mq L (k:Int)=midQ (pix mq.pts (pix L k).a.toNat) (pix mq.pts (pix L k).b.toNat):=rfl
    obtain⟨ed,hed⟩:∃ed,pix L k=ed:=⟨_,rfl⟩
    rw[hed]at xe0 xe1 ha0 ha1 hb0 hb1 hmd
    clear hed
    obtain⟨ua,hea⟩:∃ua:Nat,ed.a=(ua:Int):=⟨ed.a.toNat,by omega⟩
    obtain⟨ub,heb⟩:∃ub:Nat,ed.b=(ub:Int):=⟨ed.b.toNat,by omega⟩
    rw[hea]at xe0 ha0 ha1 hmd
    rw[heb]at xe1 hb0 hb1 hmd
    rw[Int.toNat_natCast,Int.toNat_natCast]at hmd
    have hean:ua<n:=by omega
    have hebn:ub<n:=by omega
    have heai:(ua:Int)<(n:Int):=by omega
    have hebi:(ub:Int)<(n:Int):=by omega
    have hmid:=Lib.hid (show midP (tp (pix mq.pts ua)) (tp (pix mq.pts ub))=tp (mdP mq L (k:Int))by rw[hmd];exact midP_tp (hS.out ua (by rw[hn.out];exact hean)) (hS.out ub (by rw[hn.out];exact hebn)))
    clear hea heb hmd ha0 ha1 hb0 hb1
    obtain⟨sa,Aa,na,ca,Ba,ma,da,ta,Ca,ia,ea,Da,ja,fa,⟨xa0,xa1,xa2,xa3,xa4,xa5⟩,hXa,hYa⟩:=pts_lit hp3 (show ua<n by omega)
    rw[pix_map (by rw[hn.out];omega)]at hXa hYa
    obtain⟨sb,Ab,nb,cb,Bb,mb,db,tb,Cb,ib,eb,Db,jb,fb,⟨xb0,xb1,xb2,xb3,xb4,xb5⟩,hXb,hYb⟩:=pts_lit hp3 (show ub<n by omega)
    rw[pix_map (by rw[hn.out];omega)]at hXb hYb
    have hHeld:(fun w'=>(w'.cell? ⟨g7,0,none⟩=some (.slice Ap np cpv)∧w'.cell? ⟨g7,1,none⟩=some (.slice none 0 0))∧(w'.cell? ⟨w.heap.size,0,none⟩=some (.slice (some ⟨gp,0,none⟩) n cp)∧w'.cell? ⟨w.heap.size,1,none⟩=some (.slice (some ⟨gt,0,none⟩) m ct))∧w'.cell? ⟨g5,0,none⟩=some (.slice (some ⟨ge,0,none⟩) ne ce)∧w'.cell? ⟨ge,k*4,none⟩=some (.int .i64 (ua:Int))∧w'.cell? ⟨ge,k*4+1,none⟩=some (.int .i64 (ub:Int))∧(w'.cell? ⟨gp,ua*6,none⟩=some (.bool sa)∧w'.cell? ⟨gp,ua*6+1,none⟩=some (.slice Aa na ca)∧w'.cell? ⟨gp,ua*6+2,none⟩=some (.slice Ba ma da)∧w'.cell? ⟨gp,ua*6+3,none⟩=some (.bool ta)∧w'.cell? ⟨gp,ua*6+4,none⟩=some (.slice Ca ia ea)∧w'.cell? ⟨gp,ua*6+5,none⟩=some (.slice Da ja fa))∧(w'.cell? ⟨gp,ub*6,none⟩=some (.bool sb)∧w'.cell? ⟨gp,ub*6+1,none⟩=some (.slice Ab nb cb)∧w'.cell? ⟨gp,ub*6+2,none⟩=some (.slice Bb mb db)∧w'.cell? ⟨gp,ub*6+3,none⟩=some (.bool tb)∧w'.cell? ⟨gp,ub*6+4,none⟩=some (.slice Cb ib eb)∧w'.cell? ⟨gp,ub*6+5,none⟩=some (.slice Db jb fb))) (W.drew):=⟨bx2 (T:=26) (h7.bl slc),bx2 (T:=26) (h2.bl (show Bl W3 _ from slc)),(h5.bl (show Bl W3 _ from slc)).cell 0,(Bl.cellOf (w:=W3) (p:=⟨ge,k*4,none⟩) slc hle).trans xe0,(Bl.cellOf (w:=W3) (p:=⟨ge,k*4+1,none⟩) slc hle).trans xe1,⟨(Bl.cellOf (w:=W3) (p:=⟨gp,ua*6,none⟩) slc hlp).trans xa0,(Bl.cellOf (w:=W3) (p:=⟨gp,ua*6+1,none⟩) slc hlp).trans xa1,(Bl.cellOf (w:=W3) (p:=⟨gp,ua*6+2,none⟩) slc hlp).trans xa2,(Bl.cellOf (w:=W3) (p:=⟨gp,ua*6+3,none⟩) slc hlp).trans xa3,(Bl.cellOf (w:=W3) (p:=⟨gp,ua*6+4,none⟩) slc hlp).trans xa4,(Bl.cellOf (w:=W3) (p:=⟨gp,ua*6+5,none⟩) slc hlp).trans xa5⟩,⟨(Bl.cellOf (w:=W3) (p:=⟨gp,ub*6,none⟩) slc hlp).trans xb0,(Bl.cellOf (w:=W3) (p:=⟨gp,ub*6+1,none⟩) slc hlp).trans xb1,(Bl.cellOf (w:=W3) (p:=⟨gp,ub*6+2,none⟩) slc hlp).trans xb2,(Bl.cellOf (w:=W3) (p:=⟨gp,ub*6+3,none⟩) slc hlp).trans xb3,(Bl.cellOf (w:=W3) (p:=⟨gp,ub*6+4,none⟩) slc hlp).trans xb4,(Bl.cellOf (w:=W3) (p:=⟨gp,ub*6+5,none⟩) slc hlp).trans xb5⟩⟩
    refine wp_region_T 24 25 (fun w'=>(w'.cell? ⟨g7,0,none⟩=some (.slice Ap np cpv)∧w'.cell? ⟨g7,1,none⟩=some (.slice none 0 0))∧(w'.cell? ⟨w.heap.size,0,none⟩=some (.slice (some ⟨gp,0,none⟩) n cp)∧w'.cell? ⟨w.heap.size,1,none⟩=some (.slice (some ⟨gt,0,none⟩) m ct))∧w'.cell? ⟨g5,0,none⟩=some (.slice (some ⟨ge,0,none⟩) ne ce)∧w'.cell? ⟨ge,k*4,none⟩=some (.int .i64 (ua:Int))∧w'.cell? ⟨ge,k*4+1,none⟩=some (.int .i64 (ub:Int))∧(w'.cell? ⟨gp,ua*6,none⟩=some (.bool sa)∧w'.cell? ⟨gp,ua*6+1,none⟩=some (.slice Aa na ca)∧w'.cell? ⟨gp,ua*6+2,none⟩=some (.slice Ba ma da)∧w'.cell? ⟨gp,ua*6+3,none⟩=some (.bool ta)∧w'.cell? ⟨gp,ua*6+4,none⟩=some (.slice Ca ia ea)∧w'.cell? ⟨gp,ua*6+5,none⟩=some (.slice Da ja fa))∧(w'.cell? ⟨gp,ub*6,none⟩=some (.bool sb)∧w'.cell? ⟨gp,ub*6+1,none⟩=some (.slice Ab nb cb)∧w'.cell? ⟨gp,ub*6+2,none⟩=some (.slice Bb mb db)∧w'.cell? ⟨gp,ub*6+3,none⟩=some (.bool tb)∧w'.cell? ⟨gp,ub*6+4,none⟩=some (.slice Cb ib eb)∧w'.cell? ⟨gp,ub*6+5,none⟩=some (.slice Db jb fb))) rfl (by kernel_rfl) hHeld ?_
    refine wpAnyT_take (i:=0) (oi:=_) (v:=?_) (fuel:=24) rfl (by kernel_rfl) (by kernel_rfl) (by kernel_rfl) (by kernel_rfl) (fun _ _ _ h=>h) (by rfl) ?_ hHeld ?_
    rotate_left 1
    ·(intro w' hSw;(try dsimp only at hSw);go_simp <;> with_reducible rfl)
    refine wpAnyT_take (i:=1) (oi:=_) (v:=?_) (fuel:=23) rfl (by kernel_rfl) (by kernel_rfl) (by kernel_rfl) (by kernel_rfl) (fun _ _ _ h=>h) (by rfl) ?_ hHeld ?_
    rotate_left 1
    ·(intro w' hSw;(try dsimp only at hSw);go_simp <;> with_reducible rfl)
    refine wpAnyT_take (i:=2) (oi:=_) (v:=?_) (fuel:=22) rfl (by kernel_rfl) (by kernel_rfl) (by kernel_rfl) (by kernel_rfl) (fun _ _ _ h=>h) (by rfl) ?_ hHeld ?_
    rotate_left 1
    ·(intro w' hSw;(try dsimp only at hSw);go_simp <;> with_reducible rfl)
    refine wpAnyT_take (i:=3) (oi:=_) (v:=?_) (fuel:=21) rfl (by kernel_rfl) (by kernel_rfl) (by kernel_rfl) (by kernel_rfl) (fun _ _ _ h=>h) (by rfl) ?_ hHeld ?_
    rotate_left 1
    ·(intro w' hSw;(try dsimp only at hSw);go_simp <;> with_reducible rfl)
    refine wpAnyT_take (i:=4) (oi:=_) (v:=?_) (fuel:=20) rfl (by kernel_rfl) (by kernel_rfl) (by kernel_rfl) (by kernel_rfl) (fun _ _ _ h=>h) (by rfl) ?_ hHeld ?_
    rotate_left 1
    ·(intro w' hSw;(try dsimp only at hSw);go_simp <;> with_reducible rfl)
    refine wpAnyT_take (i:=5) (oi:=_) (v:=?_) (fuel:=19) rfl (by kernel_rfl) (by kernel_rfl) (by kernel_rfl) (by kernel_rfl) (fun _ _ _ h=>h) (by rfl) ?_ hHeld ?_
    rotate_left 1
    ·(intro w' hSw;(try dsimp only at hSw);go_simp <;> with_reducible rfl)
    refine wpAnyT_take (i:=6) (oi:=_) (v:=?_) (fuel:=18) rfl (by kernel_rfl) (by kernel_rfl) (by kernel_rfl) (by kernel_rfl) (fun _ _ _ h=>h) (by rfl) ?_ hHeld ?_
    rotate_left 1
    ·(intro w' hSw;(try dsimp only at hSw);go_simp <;> with_reducible rfl)
    refine wpAnyT_take (i:=7) (oi:=_) (v:=?_) (fuel:=17) rfl (by kernel_rfl) (by kernel_rfl) (by kernel_rfl) (by kernel_rfl) (fun _ _ _ h=>h) (by rfl) ?_ hHeld ?_
    rotate_left 1
    ·(intro w' hSw;(try dsimp only at hSw);go_simp <;> with_reducible rfl)
    refine wpAnyT_take (i:=8) (oi:=_) (v:=?_) (fuel:=16) rfl (by kernel_rfl) (by kernel_rfl) (by kernel_rfl) (by kernel_rfl) (fun _ _ _ h=>h) (by rfl) ?_ hHeld ?_
    rotate_left 1
    ·(intro w' hSw;(try dsimp only at hSw);go_simp <;> with_reducible rfl)
    refine wpAnyT_take (i:=9) (oi:=_) (v:=?_) (fuel:=15) rfl (by kernel_rfl) (by kernel_rfl) (by kernel_rfl) (by kernel_rfl) (fun _ _ _ h=>h) (by rfl) ?_ hHeld ?_
    rotate_left 1
    ·(intro w' hSw;(try dsimp only at hSw);go_simp <;> with_reducible rfl)
    refine wpAnyT_take (i:=10) (oi:=_) (v:=?_) (fuel:=14) rfl (by kernel_rfl) (by kernel_rfl) (by kernel_rfl) (by kernel_rfl) (fun _ _ _ h=>h) (by rfl) ?_ hHeld ?_
    rotate_left 1
    ·(intro w' hSw;(try dsimp only at hSw);go_simp <;> with_reducible rfl)
    refine wpAnyT_take (i:=11) (oi:=_) (v:=?_) (fuel:=13) rfl (by kernel_rfl) (by kernel_rfl) (by kernel_rfl) (by kernel_rfl) (fun _ _ _ h=>h) (by rfl) ?_ hHeld ?_
    rotate_left 1
    ·(intro w' hSw;(try dsimp only at hSw);go_simp <;> with_reducible rfl)
    refine wpAnyT_take (i:=12) (oi:=_) (v:=?_) (fuel:=12) rfl (by kernel_rfl) (by kernel_rfl) (by kernel_rfl) (by kernel_rfl) (fun _ _ _ h=>h) (by rfl) ?_ hHeld ?_
    rotate_left 1
    ·(intro w' hSw;(try dsimp only at hSw);go_simp <;> with_reducible rfl)
    refine wpAnyT_take (i:=13) (oi:=_) (v:=?_) (fuel:=11) rfl (by kernel_rfl) (by kernel_rfl) (by kernel_rfl) (by kernel_rfl) (fun _ _ _ h=>h) (by rfl) ?_ hHeld ?_
    rotate_left 1
    ·(intro w' hSw;(try dsimp only at hSw);go_simp <;> with_reducible rfl)
    refine wpAnyT_take (i:=14) (oi:=_) (v:=?_) (fuel:=10) rfl (by kernel_rfl) (by kernel_rfl) (by kernel_rfl) (by kernel_rfl) (fun _ _ _ h=>h) (by rfl) ?_ hHeld ?_
    rotate_left 1
    ·(intro w' hSw;(try dsimp only at hSw);go_simp <;> with_reducible rfl)
    refine wpAnyT_take (i:=15) (oi:=_) (v:=?_) (fuel:=9) rfl (by kernel_rfl) (by kernel_rfl) (by kernel_rfl) (by kernel_rfl) (fun _ _ _ h=>h) (by rfl) ?_ hHeld ?_
    rotate_left 1
    ·(intro w' hSw;(try dsimp only at hSw);go_simp <;> with_reducible rfl)
    refine wpAnyT_take (i:=16) (oi:=_) (v:=?_) (fuel:=8) rfl (by kernel_rfl) (by kernel_rfl) (by kernel_rfl) (by kernel_rfl) (fun _ _ _ h=>h) (by rfl) ?_ hHeld ?_
    rotate_left 1
    ·(intro w' hSw;(try dsimp only at hSw);go_simp <;> with_reducible rfl)
    refine wpAnyT_take (i:=17) (oi:=_) (v:=?_) (fuel:=7) rfl (by kernel_rfl) (by kernel_rfl) (by kernel_rfl) (by kernel_rfl) (fun _ _ _ h=>h) (by rfl) ?_ hHeld ?_
    rotate_left 1
    ·(intro w' hSw;(try dsimp only at hSw);go_simp <;> with_reducible rfl)
    refine wpAnyT_take (i:=18) (oi:=_) (v:=?_) (fuel:=6) rfl (by kernel_rfl) (by kernel_rfl) (by kernel_rfl) (by kernel_rfl) (fun _ _ _ h=>h) (by rfl) ?_ hHeld ?_
    rotate_left 1
    ·(intro w' hSw;(try dsimp only at hSw);go_simp <;> with_reducible rfl)
    refine wpAnyT_take (i:=19) (oi:=_) (v:=?_) (fuel:=5) rfl (by kernel_rfl) (by kernel_rfl) (by kernel_rfl) (by kernel_rfl) (fun _ _ _ h=>h) (by rfl) ?_ hHeld ?_
    rotate_left 1
    ·(intro w' hSw;(try dsimp only at hSw);go_simp <;> with_reducible rfl)
    clear hHeld
    simp only[Act.put,List.setIfInBounds_toArray]
    refine wpAnyT_step (i:=20) (o:=_) (fuel:=4) rfl (by kernel_rfl) (fun K hK=>?_)
    go_simp
    refine(Middle_any _ (hXa.bl slc) (hYa.bl slc) (hXb.bl slc) (hYb.bl slc)).mono ?_
    rintro e w6 ⟨s1,A1,n1,c1,B1,m1,d1,t1,C1,i1,e1,D1,j1,f1,rfl,hP,hb6⟩
    have hb6:Bl W w6:=(Bl.drew (Bl.refl W)).next hb6
    have hz6:W.heap.size≤w6.heap.size:=Bl.size hb6
    have hrow4:=RowG.bl (ptIn_keep 3) hrow (show Bl W w6 from slc)
    have hP4:OwPN (NotIn [g7,gm,g8]) 3 W.heap.size w6 s1 A1 n1 c1 B1 m1 d1 t1 C1 i1 e1 D1 j1 f1 _:=OwPN.notIn hP hxl
    have h7:=h7.bl (show Bl W w6 from slc)
    have h84:=h8.bl (show Bl W w6 from slc)
    have hV4:=Ow.bl hV (show Bl W w6 from slc)
    have hb36:Bl W3 w6:=hbW.next (show Bl W w6 from slc)
    refine hK.out _ _ (fun _=>⟨bx2 (T:=26) (h7.bl slc),bx2 (T:=26) (h2.bl (show Bl W3 _ from slc)),(h5.bl (show Bl W3 _ from slc)).cell 0,(Bl.cellOf (w:=W3) (p:=⟨ge,k*4,none⟩) slc hle).trans xe0,(Bl.cellOf (w:=W3) (p:=⟨ge,k*4+1,none⟩) slc hle).trans xe1,⟨(Bl.cellOf (w:=W3) (p:=⟨gp,ua*6,none⟩) slc hlp).trans xa0,(Bl.cellOf (w:=W3) (p:=⟨gp,ua*6+1,none⟩) slc hlp).trans xa1,(Bl.cellOf (w:=W3) (p:=⟨gp,ua*6+2,none⟩) slc hlp).trans xa2,(Bl.cellOf (w:=W3) (p:=⟨gp,ua*6+3,none⟩) slc hlp).trans xa3,(Bl.cellOf (w:=W3) (p:=⟨gp,ua*6+4,none⟩) slc hlp).trans xa4,(Bl.cellOf (w:=W3) (p:=⟨gp,ua*6+5,none⟩) slc hlp).trans xa5⟩,⟨(Bl.cellOf (w:=W3) (p:=⟨gp,ub*6,none⟩) slc hlp).trans xb0,(Bl.cellOf (w:=W3) (p:=⟨gp,ub*6+1,none⟩) slc hlp).trans xb1,(Bl.cellOf (w:=W3) (p:=⟨gp,ub*6+2,none⟩) slc hlp).trans xb2,(Bl.cellOf (w:=W3) (p:=⟨gp,ub*6+3,none⟩) slc hlp).trans xb3,(Bl.cellOf (w:=W3) (p:=⟨gp,ub*6+4,none⟩) slc hlp).trans xb4,(Bl.cellOf (w:=W3) (p:=⟨gp,ub*6+5,none⟩) slc hlp).trans xb5⟩⟩) ?_
    clear hK K
    try simp only[Act.put,List.setIfInBounds_toArray,List.set_cons_zero,List.set_cons_succ]
    refine wpAnyT_step (i:=21) (o:=_) (fuel:=3) rfl (by kernel_rfl) (fun K hK=>?_)
    go_simp
    refine hK.out _ _ (fun _=>⟨bx2 (T:=26) (h7.bl slc),bx2 (T:=26) (h2.bl (show Bl W3 _ from slc)),(h5.bl (show Bl W3 _ from slc)).cell 0,(Bl.cellOf (w:=W3) (p:=⟨ge,k*4,none⟩) slc hle).trans xe0,(Bl.cellOf (w:=W3) (p:=⟨ge,k*4+1,none⟩) slc hle).trans xe1,⟨(Bl.cellOf (w:=W3) (p:=⟨gp,ua*6,none⟩) slc hlp).trans xa0,(Bl.cellOf (w:=W3) (p:=⟨gp,ua*6+1,none⟩) slc hlp).trans xa1,(Bl.cellOf (w:=W3) (p:=⟨gp,ua*6+2,none⟩) slc hlp).trans xa2,(Bl.cellOf (w:=W3) (p:=⟨gp,ua*6+3,none⟩) slc hlp).trans xa3,(Bl.cellOf (w:=W3) (p:=⟨gp,ua*6+4,none⟩) slc hlp).trans xa4,(Bl.cellOf (w:=W3) (p:=⟨gp,ua*6+5,none⟩) slc hlp).trans xa5⟩,⟨(Bl.cellOf (w:=W3) (p:=⟨gp,ub*6,none⟩) slc hlp).trans xb0,(Bl.cellOf (w:=W3) (p:=⟨gp,ub*6+1,none⟩) slc hlp).trans xb1,(Bl.cellOf (w:=W3) (p:=⟨gp,ub*6+2,none⟩) slc hlp).trans xb2,(Bl.cellOf (w:=W3) (p:=⟨gp,ub*6+3,none⟩) slc hlp).trans xb3,(Bl.cellOf (w:=W3) (p:=⟨gp,ub*6+4,none⟩) slc hlp).trans xb4,(Bl.cellOf (w:=W3) (p:=⟨gp,ub*6+5,none⟩) slc hlp).trans xb5⟩⟩) ?_
    clear hK K
    try simp only[Act.put,List.setIfInBounds_toArray,List.set_cons_zero,List.set_cons_succ]
    refine wpAnyT_step (i:=22) (o:=_) (fuel:=2) rfl (by kernel_rfl) (fun K hK=>?_)
    refine step_append_ptS (appN_notIn [g7,gm,g8]) rfl (.tmp 45) (.tmp 65) rfl _ (by rfl) hrow4 hP4 (Nat.le_refl _) hloW 1 (by rfl) (by rw[List.length_map,bpTo_len];have:=lsTo_len bl k;have:=hn.out;omega) W3 hb36 hlo ?_
    intro v' w8 hrow' hb8' hoth
    obtain⟨A8,n8,c8,rfl⟩:=RowP.shape3 hrow'
    have h7:=h7.oth hoth.2 hvp.out.1
    have h88:=h84.oth hoth.2 hvp.out.2.2
    have hV8:=Ow.oth hV4 hoth.2 hvp.out.2.1
    have hvp8:=Lib.hid (show (Value.slice A8 n8 c8).ownBlock≠some g7∧(Value.slice A8 n8 c8).ownBlock≠some gm∧(Value.slice A8 n8 c8).ownBlock≠some g8 from ⟨(hoth.2 g7 (by omega) hvp.out.1).2,(hoth.2 gm (by omega) hvp.out.2.1).2,(hoth.2 g8 (by omega) hvp.out.2.2).2⟩)
    have hz8:=hoth.1
    refine hK.out _ _ (fun _=>⟨bx2 (T:=26) (h7.bl slc),bx2 (T:=26) (h2.bl (show Bl W3 _ from slc)),(h5.bl (show Bl W3 _ from slc)).cell 0,(Bl.cellOf (w:=W3) (p:=⟨ge,k*4,none⟩) slc hle).trans xe0,(Bl.cellOf (w:=W3) (p:=⟨ge,k*4+1,none⟩) slc hle).trans xe1,⟨(Bl.cellOf (w:=W3) (p:=⟨gp,ua*6,none⟩) slc hlp).trans xa0,(Bl.cellOf (w:=W3) (p:=⟨gp,ua*6+1,none⟩) slc hlp).trans xa1,(Bl.cellOf (w:=W3) (p:=⟨gp,ua*6+2,none⟩) slc hlp).trans xa2,(Bl.cellOf (w:=W3) (p:=⟨gp,ua*6+3,none⟩) slc hlp).trans xa3,(Bl.cellOf (w:=W3) (p:=⟨gp,ua*6+4,none⟩) slc hlp).trans xa4,(Bl.cellOf (w:=W3) (p:=⟨gp,ua*6+5,none⟩) slc hlp).trans xa5⟩,⟨(Bl.cellOf (w:=W3) (p:=⟨gp,ub*6,none⟩) slc hlp).trans xb0,(Bl.cellOf (w:=W3) (p:=⟨gp,ub*6+1,none⟩) slc hlp).trans xb1,(Bl.cellOf (w:=W3) (p:=⟨gp,ub*6+2,none⟩) slc hlp).trans xb2,(Bl.cellOf (w:=W3) (p:=⟨gp,ub*6+3,none⟩) slc hlp).trans xb3,(Bl.cellOf (w:=W3) (p:=⟨gp,ub*6+4,none⟩) slc hlp).trans xb4,(Bl.cellOf (w:=W3) (p:=⟨gp,ub*6+5,none⟩) slc hlp).trans xb5⟩⟩) ?_
    clear hK K
    try simp only[Act.put,List.setIfInBounds_toArray]
    refine wpAnyT_step (i:=23) (o:=_) (fuel:=1) rfl (by kernel_rfl) (fun K hK=>?_)
    go_simp
    refine hK.out _ _ (fun _=>⟨bx2 (T:=26) (h7.bl slc),bx2 (T:=26) (h2.bl (show Bl W3 _ from slc)),(h5.bl (show Bl W3 _ from slc)).cell 0,(Bl.cellOf (w:=W3) (p:=⟨ge,k*4,none⟩) slc hle).trans xe0,(Bl.cellOf (w:=W3) (p:=⟨ge,k*4+1,none⟩) slc hle).trans xe1,⟨(Bl.cellOf (w:=W3) (p:=⟨gp,ua*6,none⟩) slc hlp).trans xa0,(Bl.cellOf (w:=W3) (p:=⟨gp,ua*6+1,none⟩) slc hlp).trans xa1,(Bl.cellOf (w:=W3) (p:=⟨gp,ua*6+2,none⟩) slc hlp).trans xa2,(Bl.cellOf (w:=W3) (p:=⟨gp,ua*6+3,none⟩) slc hlp).trans xa3,(Bl.cellOf (w:=W3) (p:=⟨gp,ua*6+4,none⟩) slc hlp).trans xa4,(Bl.cellOf (w:=W3) (p:=⟨gp,ua*6+5,none⟩) slc hlp).trans xa5⟩,⟨(Bl.cellOf (w:=W3) (p:=⟨gp,ub*6,none⟩) slc hlp).trans xb0,(Bl.cellOf (w:=W3) (p:=⟨gp,ub*6+1,none⟩) slc hlp).trans xb1,(Bl.cellOf (w:=W3) (p:=⟨gp,ub*6+2,none⟩) slc hlp).trans xb2,(Bl.cellOf (w:=W3) (p:=⟨gp,ub*6+3,none⟩) slc hlp).trans xb3,(Bl.cellOf (w:=W3) (p:=⟨gp,ub*6+4,none⟩) slc hlp).trans xb4,(Bl.cellOf (w:=W3) (p:=⟨gp,ub*6+5,none⟩) slc hlp).trans xb5⟩⟩) ?_
    clear hK K
    try simp only[Act.put,List.setIfInBounds_toArray,List.set_cons_zero,List.set_cons_succ]
    obtain⟨z0',z1'⟩:=bx2 h7
    have zf:=h7.frozen 0
    refine wpAnyT_step (i:=24) (o:=_) (fuel:=0) rfl (by kernel_rfl) (fun K hK=>?_)
    go_simp
    refine hK.out _ _ (fun h=>absurd rfl h) ?_
    clear hK K
    try simp only[Act.put,List.setIfInBounds_toArray]
    refine wpAnyT_done (by kernel_rfl) ?_
    rw[hmid.out]at hrow'
    rw[hPm.out]at hrow'
    go_wp2_with fail
    go_roundw
    case rel=>exact⟨k+1,_,by omega,by go_num,by simpa using h7.set_ 0 _,RowP.setX hrow' (q:=⟨g7,0,none⟩) (by simp) hvp8.out.1 _,hvp8,Ow.setFar hV8 (show gm≠g7 by omega) _,h88.far (show g8≠g7 by omega) _,Bl.set hb8' (show W3.heap.size≤g7 by omega) _,by simp;omega⟩
    case measure=>simp[intOf];omega
  ·obtain rfl:k=ne:=by omega
   have hkm2:¬(k:Int)<(k:Int):=by omega
   have hres2:=Lib.hid (show bisM mq list=⟨bpTo mq L bl k,btTo mq.tris (midF L (mdTo bl n k)) m⟩by rw[hres.out];unfold bisL;rw[hne.out,hn.out,hm.out])
   have hbp:=bpTo_len mq L bl k
   have hlsl:=lsTo_len bl k
   rw[hn.out]at hbp
   obtain⟨gpo,cpo,rfl,hgpo,_⟩:=RowP.lit hrow (by rw[List.length_map];omega) (by rw[List.length_map];omega)
   obtain⟨np,hnp⟩:∃np,((bpTo mq L bl k).map tp).length=np:=⟨_,rfl⟩
   have hnp2:np≤300:=by rw[←hnp,List.length_map];omega
   rw[hnp]at h7 hvp hrow
   replace hnp:=Lib.hid hnp
   rw[mdC_all]at hV
   have hmdl:=Lib.hid (mdTo_len bl n k)
   obtain⟨md,hmd⟩:∃md,mdTo bl n k=md:=⟨_,rfl⟩
   rw[hmd]at hV hres2 hmdl
   clear hmd hbp hlsl hgpo hres
   obtain⟨mid,hmid⟩:∃mid,midF L md=mid:=⟨_,rfl⟩
   rw[hmid]at hres2
   replace hmid:=Lib.hid hmid
   obtain⟨W7,rfl⟩:∃W7:World,W7=wo:=⟨_,rfl⟩
   have hg7W:=h7.lt
   have h2w:=h2.bl hbw
   obtain⟨r0,r1⟩:=bx2 h2w
   have hzW7:=hbw.size
   go_wp2_with fail
   clear r0 r1 h2w
   go_loopw [73] (fun v wr=>∃(j:Nat) (vt:Value),j≤m∧v=.int .i64 (j:Int)∧Blk wr g7 26 #[.slice (some ⟨gpo,0,none⟩) np cpo,vt]∧OwT W7.heap.size wr vt (btTo mq.tris mid j)∧Ob [g7] W7 wr) (fun v _=>m-(intOf v).toNat)
   case atStart=>exact⟨0,.slice none 0 0,by omega,rfl,h7,World.ownsRow_nil _ _ _ _,Ob.refl _ _⟩
   case round=>
    clear h7
    obtain⟨j,vt,hj,rfl,h7,hT,hO⟩:=hrel
    obtain⟨wi,rfl⟩:∃wi:World,wi=wr:=⟨_,rfl⟩
    have hb37:=hbw
    have hb3:Bl W3 wi:=hbw.ob hO (fun b hb=>by simp at hb;omega)
    by_cases hjm:j<m
    ·have hji:(j:Int)<(m:Int):=by omega
     obtain⟨y0,y1,y2,y3,y4⟩:=trs_lit (RdTS.bl ht3 hb3) hjm
     have hlv : -1000≤(pix mq.tris j).level∧(pix mq.tris j).level≤998:=by have:=(hok.out.reg j (by rw[hm.out];exact hjm)).2;omega
     have hbs:=Lib.hid (btTo_succ mq.tris mid j)
     obtain⟨t,ht_⟩:∃t,pix mq.tris j=t:=⟨_,rfl⟩
     rw[ht_]at y0 y1 y2 y3 y4 hlv hbs
     clear ht_
     go_upto_region 17 with (fail)
     refine wp_gen (fun W=>Bl wi W∧∃g13,Blk W g13 58 #[.int .i64 t.a,.int .i64 t.b,.int .i64 t.c,.int .i64 t.region,.int .i64 t.level]∧g13=wi.heap.size) ⟨by exact slc,_,by exact bts,rfl⟩ ?_
     rintro W ⟨hbi,g13,h13,hg13⟩
     rw[←hg13]
     have hnt13:vt.ownBlock≠some g13:=fun e=>by have:=(hT.blk e).2;omega
     have h7:=h7.bl hbi
     have hT:=hT.bl hbi
     have hO:=hO.trans (Ob.of_bl hbi _)
     have hb3:=hb3.next hbi
     have hz7:W7.heap.size≤W.heap.size:=hO.size
     clear y0 y1 y2 y3 y4 hg13 hbi
     have hVw:=Ow.ob' hV hO (show gm≠g7 by omega)
     have h8w:=h8.ob hO (show g8∉[g7]by simp;omega)
     have hMid:MidAt W g5 g8 L md:=⟨ge,k,ce,gm,k,(h5.bl hb3).cell 0,h8w.cell 0,(h5.bl hb3).lt,h8w.lt,hes.bl hb3,by have h:=Ow.rd hVw (c:=k) (by rw[hmdl.out];omega) (by rw[hmdl.out];exact Nat.le_refl _);rw[hmdl.out]at h;exact h,by omega⟩
     have hbis:=fun (w:World) hM=>bisected2 (md:=md) (g5:=g5) (g8:=g8) hsrt.out w t hM hlv
     rw[hmid.out]at hbis
     have hHeld:(fun w'=>(w'.cell? ⟨g7,0,none⟩=some (.slice (some ⟨gpo,0,none⟩) np cpo)∧w'.cell? ⟨g7,1,none⟩=some (vt))∧(w'.cell? ⟨g13,0,none⟩=some (.int .i64 t.a)∧w'.cell? ⟨g13,1,none⟩=some (.int .i64 t.b)∧w'.cell? ⟨g13,2,none⟩=some (.int .i64 t.c)∧w'.cell? ⟨g13,3,none⟩=some (.int .i64 t.region)∧w'.cell? ⟨g13,4,none⟩=some (.int .i64 t.level))) (W.drew):=⟨bx2 (T:=26) (h7.bl slc),bx5 (T:=58) (h13.bl slc)⟩
     refine wp_region_T 7 8 (fun w'=>(w'.cell? ⟨g7,0,none⟩=some (.slice (some ⟨gpo,0,none⟩) np cpo)∧w'.cell? ⟨g7,1,none⟩=some (vt))∧(w'.cell? ⟨g13,0,none⟩=some (.int .i64 t.a)∧w'.cell? ⟨g13,1,none⟩=some (.int .i64 t.b)∧w'.cell? ⟨g13,2,none⟩=some (.int .i64 t.c)∧w'.cell? ⟨g13,3,none⟩=some (.int .i64 t.region)∧w'.cell? ⟨g13,4,none⟩=some (.int .i64 t.level))) rfl (by kernel_rfl) hHeld ?_
     refine wpAnyT_take (i:=0) (oi:=_) (v:=?_) (fuel:=7) rfl (by kernel_rfl) (by kernel_rfl) (by kernel_rfl) (by kernel_rfl) (fun _ _ _ h=>h) (by rfl) ?_ hHeld ?_
     rotate_left 1
     ·(intro w' hSw;(try dsimp only at hSw);go_simp <;> with_reducible rfl)
     refine wpAnyT_take (i:=1) (oi:=_) (v:=?_) (fuel:=6) rfl (by kernel_rfl) (by kernel_rfl) (by kernel_rfl) (by kernel_rfl) (fun _ _ _ h=>h) (by rfl) ?_ hHeld ?_
     rotate_left 1
     ·(intro w' hSw;(try dsimp only at hSw);go_simp <;> with_reducible rfl)
     refine wpAnyT_take (i:=2) (oi:=_) (v:=?_) (fuel:=5) rfl (by kernel_rfl) (by kernel_rfl) (by kernel_rfl) (by kernel_rfl) (fun _ _ _ h=>h) (by rfl) ?_ hHeld ?_
     rotate_left 1
     ·(intro w' hSw;(try dsimp only at hSw);go_simp <;> with_reducible rfl)
     refine wpAnyT_take (i:=3) (oi:=_) (v:=?_) (fuel:=4) rfl (by kernel_rfl) (by kernel_rfl) (by kernel_rfl) (by kernel_rfl) (fun _ _ _ h=>h) (by rfl) ?_ hHeld ?_
     rotate_left 1
     ·(intro w' hSw;(try dsimp only at hSw);go_simp <;> with_reducible rfl)
     clear hHeld
     simp only[Act.put,List.setIfInBounds_toArray]
     refine wpAnyT_step (i:=4) (o:=_) (fuel:=3) rfl (by kernel_rfl) (fun K hK=>?_)
     go_simp
     refine(hbis _ (hMid.bl (show Bl W _ from slc))).mono ?_
     rintro e w6 ⟨gB,cB,rfl,hB,hb6⟩
     have hb6:Bl W w6:=(show Bl W W.drew from slc).next hb6
     obtain⟨gB',cB',eB,_,hrB,_,_⟩:=hB.lit (fun e=>by cases e)
     cases eB
     have hT6:=hT.bl hb6
     have h7:=h7.bl hb6
     have h13:=h13.bl hb6
     have hb36:=hb3.next hb6
     have hz6:=hb6.size
     refine hK.out _ _ (fun _=>⟨bx2 (T:=26) (h7.bl slc),bx5 (T:=58) (h13.bl slc)⟩) ?_
     clear hK K
     try simp only[Act.put,List.setIfInBounds_toArray,List.set_cons_zero,List.set_cons_succ]
     refine wpAnyT_step (i:=5) (o:=_) (fuel:=2) rfl (by kernel_rfl) (fun K hK=>?_)
     refine step_append_tris rfl (.tmp 78) (.tmp 81) rfl _ (btTo mq.tris mid j) (by rfl) hT6 (show W7.heap.size≤w6.heap.size by omega) W3 hb36 (show W3.heap.size≤W7.heap.size from hb37.size) gB _ cB (by rfl) (bsT mid 2 t) hrB (by have:=btTo_len mq.tris mid j;omega) (by have:=bsT_len mid 2 t;omega) ?_
     intro v' w8 hT8 hnil hb8' hoth
     have hvn:v'≠.slice none 0 0:=fun e=>by have h1:=(hnil.1 e).2;have h2:=bsT_pos mid 2 t;omega
     obtain⟨g',c',rfl,hg',_,_,_⟩:=hT8.lit hvn
     have hnt:∀b,b<W7.heap.size→vt.ownBlock≠some b:=fun b hb e=>by have:=(hT6.blk e).1;omega
     have h7:=h7.oth hoth.2 (hnt g7 hg7W)
     have h13:=h13.oth hoth.2 (hnt13)
     have hO8:=Ob.app (hO.trans (Ob.of_bl hb6 _)) hb37 hb8' hoth.1 (fun b hb=>(hoth.2 b (by omega) (hnt b hb)).1)
     refine hK.out _ _ (fun _=>⟨bx2 (T:=26) (h7.bl slc),bx5 (T:=58) (h13.bl slc)⟩) ?_
     clear hK K
     try simp only[Act.put,List.setIfInBounds_toArray]
     refine wpAnyT_step (i:=6) (o:=_) (fuel:=1) rfl (by kernel_rfl) (fun K hK=>?_)
     go_simp
     refine hK.out _ _ (fun _=>⟨bx2 (T:=26) (h7.bl slc),bx5 (T:=58) (h13.bl slc)⟩) ?_
     clear hK K
     try simp only[Act.put,List.setIfInBounds_toArray,List.set_cons_zero,List.set_cons_succ]
     obtain⟨z0',z1'⟩:=bx2 h7
     have zf:=h7.frozen 1
     refine wpAnyT_step (i:=7) (o:=_) (fuel:=0) rfl (by kernel_rfl) (fun K hK=>?_)
     go_simp
     refine hK.out _ _ (fun h=>absurd rfl h) ?_
     clear hK K
     try simp only[Act.put,List.setIfInBounds_toArray]
     refine wpAnyT_done (by kernel_rfl) ?_
     go_wp2_with fail
     go_roundw
     case rel=>exact⟨j+1,_,by omega,by go_num,by simpa using h7.set_ 1 _,by rw[hbs.out];rw[List.length_append]at hT8;exact hT8.keep (fun b e=>Below.heap_setCell _ ⟨g7,1,none⟩ _ b (show b≠g7 by have:=(hT8.blk e).1;omega)),hO8.set (by simp) 1 _⟩
     case measure=>simp[intOf];omega
    ·obtain rfl:j=m:=by omega
     have hkm3:¬(j:Int)<(j:Int):=by omega
     have hbpos:=btTo_pos mq.tris mid j
     obtain⟨gto,cto,rfl,hgto,_,_,_⟩:=hT.lit (fun e=>by subst e;have h0:=OwT.nil0 hT;rw[h0]at hbpos;simp at hbpos;omega)
     have hrowF:=RowP.obX hrow hO (by simp) hvp.out.1
     have hr:=hr.bl hb3
     obtain⟨i0,i1⟩:=bx2 h7
     obtain⟨v0,x0⟩:=hr.val_ (i:=0) (by omega)
     obtain⟨v1,x1⟩:=hr.val_ (i:=1) (by omega)
     have hg:=hr.lt
     obtain⟨cs4,hB4,hc4⟩:=hr
     have hf0:=hB4.frozen 0
     have hf1:=hB4.frozen 1
     have hlow:w.heap.size+1<lo:=by omega
     have hloT:w.heap.size+1<W7.heap.size:=by omega
     clear hkm2
     go_wp2_with fail
     rw[hres2.out]
     have hTf:=(hT.keep (fun b e=>Below.heap_setCell _ ⟨w.heap.size+1,0,none⟩ (.slice (some ⟨gpo,0,none⟩) np cpo) b (by have:=(hT.blk e).1;simp;omega)))
     have hTf:=(hTf.keep (fun b e=>Below.heap_setCell _ ⟨w.heap.size+1,1,none⟩ (.slice (some ⟨gto,0,none⟩) (btTo mq.tris mid j).length cto) b (by have:=(hTf.blk e).1;simp;omega)))
     exact bodyPost_ret (v:=.agg #[.slice (some ⟨gpo,0,none⟩) np cpo,.slice (some ⟨gto,0,none⟩) (btTo mq.tris mid j).length cto]) (by simp[results,Tryz.results46,go_sem,x0,x1]) rfl ⟨_,rfl,MeOw.of (mq:=⟨bpTo mq L bl k,btTo mq.tris mid j⟩) (RowP.setLow (RowP.setLow hrowF (q:=⟨w.heap.size+1,0,none⟩) hlow _) (q:=⟨w.heap.size+1,1,none⟩) hlow _) hTf (by omega) (by omega) (by have h:=hnp.out;rw[List.length_map]at h;exact(show (bpTo mq L bl k).length≤1048576 by omega)),Bl.set (Bl.set (hbW.next hb3) (show w.heap.size≤w.heap.size+1 by omega) _) (show w.heap.size≤w.heap.size+1 by omega) _⟩
end
section
open Go.RowKit
def okM (m:MeQ):Bool :=
 decide ((3≤m.pts.length∧m.pts.length≤40)∧1≤m.tris.length∧m.tris.length≤48)&&(okP m.pts&&(decide (PlB m.pts.length (plXs m.pts m.pts.length) (plYs m.pts m.pts.length))&&okT m.pts.length (plXs m.pts m.pts.length) (plYs m.pts m.pts.length) m.tris))
theorem okM_ok {m:MeQ}(h:okM m=true):MeshOk m:=by
 unfold okM at h
 simp only[Bool.and_eq_true,decide_eq_true_eq]at h
 obtain⟨h1,h2,h3,h4⟩:=h
 exact MeshOk.of m.pts.length _ _ rfl rfl rfl h1 h2 h3 h4
def csQ0 (r:Int):MeQ:=⟨[(0,0),(2,0),(2,2),(0,2),(1,1)],[⟨4,0,1,0,0⟩,⟨4,1,2,0,0⟩,⟨4,2,3,1,0⟩,⟨4,3,0,r,0⟩]⟩
def csQ1 (r:Int):MeQ:=⟨[(0,0),(2,0),(2,1),(0,2)],[⟨1,2,0,0,0⟩,⟨3,0,2,r,0⟩]⟩
def csQ2:MeQ:=⟨[(0,0),(1,0),(2,0),(2,1),(1,1),(1,2),(0,2),(0,1)],[⟨1,4,0,0,0⟩,⟨7,0,4,0,0⟩,⟨3,4,2,0,0⟩,⟨1,2,4,1,0⟩,⟨7,4,6,0,0⟩,⟨5,6,4,2,0⟩]⟩
def csL:List MeQ:=[csQ0 0,csQ0 1,csQ1 0,csQ1 1,csQ1 2,csQ2]
instance (ts:List TriD) (L:List EdD):Decidable (EdHas ts L):=by unfold EdHas;infer_instance
def okF (m:MeQ):Bool:=okM m&&(decide (EdHas m.tris (edL m.tris))&&decide (∀k,k<m.pts.length→Sm2 (pix m.pts k)))
end
section
open Go.RowKit
structure FitM (m:MeQ):Prop where
 ok:MeshOk m
 has:EdHas m.tris (edL m.tris)
 sm:∀k,k<m.pts.length→Sm2 (pix m.pts k)
theorem fit_of {m:MeQ}(h:okF m=true):FitM m:=by
 unfold okF at h
 simp only[Bool.and_eq_true,decide_eq_true_eq]at h
 exact⟨okM_ok h.1,h.2.1,h.2.2⟩
theorem emA_len {ts:List TriD}(l:List Int) (h:ts.length≤48):(emA ts l).length≤200:=by
 have h1:=lsTo_len (emB ts (mkA l ts.length)) (emB ts (mkA l ts.length)).length
 have h2:(emB ts (mkA l ts.length)).length=(edL ts).length:=emTo_len _ _ _ _
 have h3:=edTo_len ts ts.length
 show (lsTo (emB ts (mkA l ts.length)) (emB ts (mkA l ts.length)).length).length≤200
 have h4:(edL ts).length≤3*ts.length:=h3
 omega
theorem EdgeMarks_yes (w:World) {v:Value}{mq:MeQ}(h:MeAt w v mq) (hf:FitM mq) {B:Option Addr}{kl dl:Nat}{list:List Int}(hl:RdI w B kl dl list) (hk:kl≤1048576) :
  Calls Tryz.prog 13 #[v,.slice B kl dl] w (IntsOw w (emA mq.tris list)):=by
 obtain⟨gp,n,cp,gt,m,ct,rfl,hp,ht⟩:=h
 replace hf:=Lib.hid hf
 have hm48:m≤10000:=by have:=hf.out.ok.t48;rw[ht.len]at this;omega
 go_enter Tryz.func13,Tryz.ntmps13
 go_wp2_with fail
 refine calls_gen (fun W=>Bl w W∧Blk W w.heap.size 26 #[.slice (some ⟨gp,0,none⟩) n cp,.slice (some ⟨gt,0,none⟩) m ct]) ⟨slc,bts⟩ ?_
 rintro W ⟨hbW,hM⟩
 refine(IsMesh_yes _ (RdPS.bl hp hbW) (RdTS.bl ht hbW) hf.out.ok).mono ?_
 rintro e w1 ⟨rfl,hb1⟩
 have hM:=hM.bl hb1
 have hbW:=hbW.next hb1
 clear hb1
 obtain⟨r0,r1⟩:=bx2 hM
 go_wp2_with fail
 refine(edgeMarks_any _ (RdTS.bl ht hbW) hm48 (hl.bl hbW) hk hf.out.has).mono ?_
 rintro e w2 ⟨A,k,c,rfl,hR,hb2⟩
 go_wp2_with fail
 go_ret
 exact⟨A,k,c,rfl,hR.mono hbW.size,hbW.next hb2⟩
def EdsRes (w:World) (L:List EdD) (e:Ending) (w':World):Prop:=∃g n c,e=.returned (.slice (some ⟨g,0,none⟩) n c)∧RdES w' (some ⟨g,0,none⟩) n c L∧Bl w w'
theorem EdgesOf_yes (w:World) {v:Value}{mq:MeQ}(h:MeAt w v mq) (hf:MeshOk mq) :
  Calls Tryz.prog 18 #[v] w (EdsRes w (edL mq.tris)):=by
 obtain⟨gp,n,cp,gt,m,ct,rfl,hp,ht⟩:=h
 replace hf:=Lib.hid hf
 have hm48:m≤10000:=by have:=hf.out.t48;rw[ht.len]at this;omega
 go_enter Tryz.func18,Tryz.ntmps18
 go_wp2_with fail
 refine calls_gen (fun W=>Bl w W∧Blk W w.heap.size 26 #[.slice (some ⟨gp,0,none⟩) n cp,.slice (some ⟨gt,0,none⟩) m ct]) ⟨slc,bts⟩ ?_
 rintro W ⟨hbW,hM⟩
 refine(IsMesh_yes _ (RdPS.bl hp hbW) (RdTS.bl ht hbW) hf.out).mono ?_
 rintro e w1 ⟨rfl,hb1⟩
 have hM:=hM.bl hb1
 have hbW:=hbW.next hb1
 clear hb1
 obtain⟨r0,r1⟩:=bx2 hM
 go_wp2_with fail
 refine(edges_any _ (RdTS.bl ht hbW) hm48).mono ?_
 rintro e w2 ⟨ge,k,c,rfl,hR,_,hb2⟩
 go_wp2_with fail
 go_ret
 exact⟨ge,k,c,rfl,hR,hbW.next hb2⟩
end
section
open Go.RowKit
instance:Inhabited MeQ:=⟨⟨[],[]⟩⟩
end
section
open Go.RowKit
def inB (m x:MeQ):List Bool:=(List.range (edL m.tris).length).map fun k:Nat=>x.pts.contains (mdP m (edL m.tris) (k:Int))
def rmL (m x:MeQ):List Int:=lsTo (inB m x) (edL m.tris).length
end
end Go.Proofs.YtmkcacgmnnlddaaGreat
