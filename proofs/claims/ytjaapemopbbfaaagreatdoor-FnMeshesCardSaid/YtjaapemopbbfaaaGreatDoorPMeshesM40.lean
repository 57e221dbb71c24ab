import Derived.Test.YtjaapemopbbfaaaGreatDoorPMeshesM39
namespace Go.Proofs.YtjaapemopbbfaaaGreatDoor
open Go.RowKit
set_option maxRecDepth 100000
set_option maxHeartbeats 32000000
theorem QB (w:World) {a lo hi:Int}(h1:lo<=a) (h2:a<=hi):Calls Tryz.prog 161 #[.int .i64 a,.int .i64 lo,.int .i64 hi] w λe w'=>e=.returned (.bool true)/\∃q,w'=w.drewN q:=by
 refine(jn w a lo hi).mono ?_
 rw[decide_eq_true h1,decide_eq_true h2]
 exact λe w' h=>h
theorem qaX (w:World) {a lo hi:Int}(h:¬(lo<=a/\a<=hi)):Calls Tryz.prog 161 #[.int .i64 a,.int .i64 lo,.int .i64 hi] w λe w'=>e=.returned (.bool false)/\∃q,w'=w.drewN q:=by
 refine(jn w a lo hi).mono ?_
 rw[<-Bool.decide_and,decide_eq_false h]
 exact λe w' h=>h
theorem Un (w:World) {A:Option Addr}{n c:Nat}{l:List Int}(h:RdI w A n c l) (hn:n<=1048576) (N:Nat) (hN:N<=1048576) :
  Calls Tryz.prog 206 #[.int .i64 (N:Int),.slice A n c] w λe w'=>∃g,e=.returned (.slice (some ⟨g,0,none⟩) N N)/\OwU w' g N (bgt (mkA l N))/\w.heap.size<=g/\Bl w w':=by
 have hl:=Lib.hid h.len
 obtain⟨N1,hN1⟩:∃z:Int,(N:Int)-1=z:=⟨_,rfl⟩
 have hb1 : -1<=N1:=by omega
 have hb2:N1<=1048576:=by omega
 go_enter Tryz.func206,Tryz.ntmps206
 have hmk:=λW:World=>QQ N hN W
 go_wp2_with fail
 refine qe (λW=>Bl w W/\∃gu,OwU W gu N (bgt (kb l N 0))/\gu=w.heap.size) ⟨by exact slc,_,OwU.made w N _ (λi=>Xy N i),rfl⟩ ?_
 rintro W ⟨hbW,gu,hU,hgu⟩
 rw[<-hgu]
 have hgu0:w.heap.size<=gu:=by omega
 clear hgu hmk
 go_loopw [12] (λv wr=>∃k:Nat,k<=n/\v=.int .i64 (k:Int)/\OwU wr gu N (bgt (kb l N k))/\Bl w wr) (λv _=>n-(intOf v).toNat)
 case atStart=>exact⟨0,by omega,rfl,hU,hbW⟩
 case round=>
  clear hU hbW
  obtain⟨k,hk,rfl,hU,hbw⟩:=hrel
  obtain⟨wo,rfl⟩:∃wo:World,wo=wr:=⟨_,rfl⟩
  by_cases hkn:k<n
  ·have hki:(k:Int)<(n:Int):=by omega
   obtain⟨ad,rfl,hlta,hca⟩:=(h.bl hbw).cells k hkn
   obtain⟨x,hx⟩:∃x,ix l k=x:=⟨_,rfl⟩
   rw[hx]at hca
   by_cases hin:0<=x/\x<=N1
   ·have hset:=Lib.hid (qaY (l:=l) (n:=N) (k:=k) (by omega) (by omega))
    rw[hx]at hset
    replace hx:=Lib.hid hx
    go_wp2_with fail
    refine(QB _ hin.1 hin.2).mono ?_
    rintro e w1 ⟨rfl,q1,rfl⟩
    have hb6:=(Bl.refl wo).drewN q1
    obtain⟨w6,hw6⟩:∃w6,wo.drewN q1=w6:=⟨_,rfl⟩
    rw[hw6]at hb6 ⊢
    clear hw6
    have hU:=hU.bl hb6
    have ux:=hU.cell (i:=x.toNat) (by omega)
    have uf:=hU.frozen x.toNat
    obtain⟨hx1,hx2⟩:=hin
    have hxN:x<(N:Int):=by omega
    clear hN1
    go_wp2_with fail
    go_roundw
    case rel=>exact⟨k+1,by omega,by go_num,(hU.set x.toNat true).congr (λi hi=>by rw[hset.out];exact YD (J1 l N k) true i hi),Bl.set (hbw.next hb6) hgu0 _⟩
    case measure=>simp[intOf];omega
   ·have hset:=Lib.hid (qbR (l:=l) (n:=N) (k:=k) (by rw[hx];omega))
    replace hx:=Lib.hid hx
    go_wp2_with fail
    refine(qaX _ hin).mono ?_
    rintro e w1 ⟨rfl,q1,rfl⟩
    have hb6:=(Bl.refl wo).drewN q1
    obtain⟨w6,hw6⟩:∃w6,wo.drewN q1=w6:=⟨_,rfl⟩
    rw[hw6]at hb6 ⊢
    clear hw6 hN1 hin
    go_wp2_with fail
    go_roundw
    case rel=>exact⟨k+1,by omega,by go_num,by rw[hset.out];exact hU.bl hb6,hbw.next hb6⟩
    case measure=>simp[intOf];omega
  ·obtain rfl:k=n:=by omega
   have hkm2:¬(k:Int)<(k:Int):=by omega
   go_wp2_with fail
   go_ret
   exact⟨gu,rfl,by unfold mkA;rw[hl.out];exact hU,hgu0,hbw⟩
theorem XR (w:World) {g n c:Nat}{bl:List Bool}(hU:OwU w g n (bgt bl)) (hl:bl.length=n) (hn:n<=1048576) :
  Calls Tryz.prog 163 #[.slice (some ⟨g,0,none⟩) n c] w (qbo w (lsA bl)):=by
 replace hl:=Lib.hid hl
 go_enter Tryz.func163,Tryz.ntmps163
 go_wp2_with fail
 refine qe (λW3=>Bl w W3/\∃v c,OwL 3 w.heap.size W3 v (JJ bl 0)/\v=.slice (some ⟨w.heap.size,0,none⟩) 0 c/\c=0) ⟨by exact slc,_,0,OwL.empty w (Nat.le_refl _) (by decide),rfl,rfl⟩ ?_
 rintro W3 ⟨hb3,v0,c0,hX,hv0,rfl⟩
 rw[<-hv0]
 clear hv0
 go_loopw [3,9] (λs v wr=>∃(i:Nat) (o:Value),i<=n/\v=.int .i64 (i:Int)/\o=s/\OwL 3 w.heap.size wr o (JJ bl i)/\Bl w wr) (λ_ v _=>n-(intOf v).toNat)
 case atStart=>exact⟨0,v0,by omega,rfl,rfl,hX,hb3⟩
 case round=>
  clear hX hb3
  obtain⟨i,o,hi,rfl,rfl,hX,hbi⟩:=hrel
  obtain⟨wj,rfl⟩:∃wj:World,wj=wr:=⟨_,rfl⟩
  by_cases hin:i<n
  ·have hii:(i:Int)<(n:Int):=by omega
   have x0:=(hU.bl hbi).cell hin
   have hSl:=Q0 bl i
   obtain⟨q,hq⟩:∃q,bgt bl i=q:=⟨_,rfl⟩
   rw[hq]at x0
   cases q
   ·have hS2:=Lib.hid (qcr hq)
    clear hq
    go_wp2_with fail
    go_roundw
    case rel=>exact⟨i+1,o,by omega,by go_num,rfl,by rw[hS2.out];exact hX,hbi⟩
    case measure=>simp[intOf];omega
   ·have hS2:=Lib.hid (qao hq)
    clear hq
    go_wp2_with ((refine zE (w0:=w) qn Tryz.underlying22 rfl (.tmp 15) (.tmp 17) rfl _ (JJ bl i) (by rfl) hX hbi 1 (by rfl) (by omega) ?_);intro vx7 w7 hX7 hb7 hoth)
    rw[<-hS2.out]at hX7
    go_roundw
    case rel=>exact⟨i+1,vx7,by omega,by go_num,rfl,hX7,hb7⟩
    case measure=>simp[intOf];omega
  ·obtain rfl:i=n:=by omega
   have hkm3:¬(i:Int)<(i:Int):=by omega
   have hSl:=Q0 bl i
   obtain⟨B,c,rfl,hR⟩:=hX.own (by omega)
   go_wp2_with fail
   go_ret
   exact⟨B,_,c,rfl,by unfold lsA;rw[hl.out];exact hR,hbi⟩
theorem Xg (w:World) {A:Option Addr}{n cp gt m ct:Nat}{ts:List qC}(ht:zx w (some ⟨gt,0,none⟩) m ct ts) (hm:m<=10000) {ge ne ce:Nat}{L:List EdD}(hes:Yn w (some ⟨ge,0,none⟩) ne ce L) (hs:Zr L) (hN:Xj L) (hnl:ne<=1048576) {B:Option Addr}{k d:Nat}{list:List Int}(hl:RdI w B k d list) (hk:k<=1048576) (hE:xy ts L) :
  Calls Tryz.prog 157 #[.agg #[.slice A n cp,.slice (some ⟨gt,0,none⟩) m ct],.slice (some ⟨ge,0,none⟩) ne ce,.slice B k d] w λe w'=>∃g,e=.returned (.slice (some ⟨g,0,none⟩) ne ne)/\OwU w' g ne (bgt (clF ts L (L.length+1) (mkA list L.length)))/\w.heap.size<=g/\Bl w w':=by
 replace hE:=Lib.hid hE
 replace hs:=Lib.hid hs
 have hlt:=Lib.hid ht.len
 have hne:=Lib.hid hes.len
 have hcpt:=ht.cap
 have hcpe:=hes.cap
 obtain⟨R,hR⟩:∃R,clF ts L (L.length+1) (mkA list L.length)=R:=⟨_,rfl⟩
 rw[hR]
 replace hR:=Lib.hid hR
 go_enter Tryz.func157,Tryz.ntmps157
 go_wp2_with fail
 refine qd (λW=>Bl w W/\Blk W w.heap.size 49 #[.slice A n cp,.slice (some ⟨gt,0,none⟩) m ct]) ⟨slc,bts⟩ ?_
 rintro W ⟨hbW,h3⟩
 have h3l:=h3.lt
 refine(Un _ (hl.bl hbW) hk ne hnl).mono ?_
 rintro e w1 ⟨gm,rfl,hU,hgm,hb1⟩
 have h3:=h3.bl hb1
 have hbW:=hbW.next hb1
 have h3g:w.heap.size<gm:=by omega
 clear hb1 hgm h3l
 go_wp2_with fail
 go_loopw [8] (λv wr=>∃(f:Nat) (bl:List Bool) (c:Bool),v=.bool c/\Hid (bl.length=ne)/\OwU wr gm ne (bgt bl)/\Blk wr w.heap.size 49 #[.slice A n cp,.slice (some ⟨gt,0,none⟩) m ct]/\Bl w wr/\Hid (XV ts L R f bl c)) (λv wr=>2*dnW wr gm ne+qeC v)
 case atStart=>exact⟨ne+1,mkA list ne,true,rfl,Lib.hid (Xn _ _),hU,h3,hbW,Lib.hid (by unfold XV;rw[if_pos rfl];have h:=hR.out;rw[hne.out]at h;exact⟨h,by have h2:=qdM (mkA list ne);rw[Xn]at h2;omega⟩)⟩
 case round=>
  clear hU h3 hbW
  obtain⟨f,bl,c,rfl,hbl,hU,h3,hbw,hinv⟩:=hrel
  obtain⟨wj,rfl⟩:∃wj:World,wj=wr:=⟨_,rfl⟩
  cases c
  ·go_wp2_with fail
   go_ret
   have e:bl=R:=hinv.out
   exact⟨gm,rfl,by rw[<-e];exact hU,by omega,hbw⟩
  ·have hdW:=Lib.hid (qbj hU hbl.out)
   obtain⟨r0,r1⟩:=bx2 h3
   go_wp2_with fail
   clear r0 r1
   go_loopw [8,20] (λs v wx=>∃(i:Nat) (x:List Bool × Bool),i<=m/\v=.int .i64 (i:Int)/\s=.bool x.2/\Hid (x=Xl ts L bl i)/\OwU wx gm ne (bgt x.1)/\Blk wx w.heap.size 49 #[.slice A n cp,.slice (some ⟨gt,0,none⟩) m ct]/\Bl w wx) (λ_ v _=>m-(intOf v).toNat)
   case atStart=>exact⟨0,(bl,false),by omega,rfl,rfl,Lib.hid rfl,hU,h3,hbw⟩
   case round=>
    clear hU h3 hbw
    obtain⟨i,x,hi,rfl,rfl,hx,hU,h3,hbx⟩:=hrel
    obtain⟨wx,rfl⟩:∃wx:World,wx=wr:=⟨_,rfl⟩
    by_cases him:i<m
    ·have hii:(i:Int)<(m:Int):=by omega
     have hnext:=Lib.hid (show Xl ts L bl (i+1)=clT L (pix ts i) x by rw[hx.out];rfl)
     have hxl:=Lib.hid (show x.1.length=ne by rw[hx.out,QU];exact hbl.out)
     obtain⟨y0,y1,y2,y3,y4⟩:=jO (zx.bl ht hbx) him
     obtain⟨hf0,hf1,hf2⟩:=hE.out i (by rw[hlt.out];exact him)
     obtain⟨t,ht_⟩:∃t,pix ts i=t:=⟨_,rfl⟩
     rw[ht_]at y0 y1 y2 y3 y4 hf0 hf1 hf2 hnext
     obtain⟨P0,hP0e⟩:∃P,zD (qS t.b t.c) L=P:=⟨_,rfl⟩
     obtain⟨P1,hP1e⟩:∃P,zD (qS t.a t.b) L=P:=⟨_,rfl⟩
     obtain⟨P2,hP2e⟩:∃P,zD (qS t.c t.a) L=P:=⟨_,rfl⟩
     have hP0:P0<ne:=by rw[<-hP0e,<-hne.out];exact Qp hf0
     have hP1:P1<ne:=by rw[<-hP1e,<-hne.out];exact Qp hf1
     have hP2:P2<ne:=by rw[<-hP2e,<-hne.out];exact Qp hf2
     have hP0i:(P0:Int)<(ne:Int):=by omega
     have hP1i:(P1:Int)<(ne:Int):=by omega
     have hP2i:(P2:Int)<(ne:Int):=by omega
     replace hP0e:=Lib.hid hP0e
     replace hP1e:=Lib.hid hP1e
     replace hP2e:=Lib.hid hP2e
     replace hf0:=Lib.hid hf0
     replace hf1:=Lib.hid hf1
     replace hf2:=Lib.hid hf2
     clear ht_
     go_upto_region 8 with (fail)
     refine qe (λW2=>Bl wx W2/\∃g10,Blk W2 g10 83 #[.int .i64 t.a,.int .i64 t.b,.int .i64 t.c,.int .i64 t.region,.int .i64 t.level]/\g10=wx.heap.size) ⟨by exact slc,_,by exact bts,rfl⟩ ?_
     rintro W2 ⟨hb2,g10,h10,hg10⟩
     rw[<-hg10]
     clear y0 y1 y2 y3 y4 hg10
     obtain⟨z0,z1,z2,z3,z4⟩:=bx5 h10
     obtain⟨W,rfl⟩:∃W:World,W=W2:=⟨_,rfl⟩
     go_wp2_with fail
     clear z0 z1 z2 z3 z4
     refine(zh _ (hes.bl (hbx.next (show Bl wx _ from slc))) hs.out hN hnl t.b t.c).mono ?_
     rw[Qc hf0.out]
     rw[hP0e.out]
     rintro e w0 ⟨rfl,hbq0⟩
     have hbv0:Bl wx w0:=slc
     have ux0:=(hU.bl hbv0).cell hP0
     have uz0:=(hU.bl hbv0).cell hP0
     have uf0:=(hU.bl hbv0).frozen P0
     have h10_0:=h10.bl hbq0
     clear hbq0
     obtain⟨z0,z1,z2,z3,z4⟩:=bx5 h10_0
     cases hq0:bgt x.1 P0
     ·rw[hq0]at ux0
      cases hq1:bgt x.1 P1
      ·cases hq2:bgt x.1 P2
       ·have hx2:=Lib.hid (hnext.out.trans (qbq hP0e.out hP1e.out hP2e.out (.inr ⟨hq1,hq2⟩)))
        clear uz0
        go_wp2_with fail
        clear ux0 uf0 z0 z1 z2 z3 z4
        refine(zh _ (hes.bl (hbx.next (show Bl wx _ from slc))) hs.out hN hnl t.a t.b).mono ?_
        rw[Qc hf1.out]
        rw[hP1e.out]
        rintro e w1 ⟨rfl,hbq1⟩
        have hbv1:Bl wx w1:=slc
        have ux1:=(hU.bl hbv1).cell hP1
        have uz1:=(hU.bl hbv1).cell hP0
        have uf1:=(hU.bl hbv1).frozen P0
        have h10_1:=h10_0.bl hbq1
        clear hbq1
        obtain⟨z0,z1,z2,z3,z4⟩:=bx5 h10_1
        rw[hq1]at ux1
        clear uz1
        go_wp2_with fail
        clear ux1 uf1 z0 z1 z2 z3 z4
        refine(zh _ (hes.bl (hbx.next (show Bl wx _ from slc))) hs.out hN hnl t.c t.a).mono ?_
        rw[Qc hf2.out]
        rw[hP2e.out]
        rintro e w2 ⟨rfl,hbq2⟩
        have hbv2:Bl wx w2:=slc
        have ux2:=(hU.bl hbv2).cell hP2
        have uz2:=(hU.bl hbv2).cell hP0
        have uf2:=(hU.bl hbv2).frozen P0
        have h10_2:=h10_1.bl hbq2
        clear hbq2
        obtain⟨z0,z1,z2,z3,z4⟩:=bx5 h10_2
        rw[hq2]at ux2
        clear uz2 hq0 hq1 hq2
        go_wp2_with fail
        go_roundw
        case rel=>exact⟨i+1,x,by omega,by go_num,rfl,Lib.hid hx2.out.symm,hU.bl hbv2,h3.bl hbv2,hbx.next hbv2⟩
        case measure=>simp[intOf];omega
       ·have hx2:=Lib.hid (hnext.out.trans (kr hP0e.out hP1e.out hP2e.out hq0 (.inr hq2)))
        clear uz0
        go_wp2_with fail
        clear ux0 uf0 z0 z1 z2 z3 z4
        refine(zh _ (hes.bl (hbx.next (show Bl wx _ from slc))) hs.out hN hnl t.a t.b).mono ?_
        rw[Qc hf1.out]
        rw[hP1e.out]
        rintro e w1 ⟨rfl,hbq1⟩
        have hbv1:Bl wx w1:=slc
        have ux1:=(hU.bl hbv1).cell hP1
        have uz1:=(hU.bl hbv1).cell hP0
        have uf1:=(hU.bl hbv1).frozen P0
        have h10_1:=h10_0.bl hbq1
        clear hbq1
        obtain⟨z0,z1,z2,z3,z4⟩:=bx5 h10_1
        rw[hq1]at ux1
        clear uz1
        go_wp2_with fail
        clear ux1 uf1 z0 z1 z2 z3 z4
        refine(zh _ (hes.bl (hbx.next (show Bl wx _ from slc))) hs.out hN hnl t.c t.a).mono ?_
        rw[Qc hf2.out]
        rw[hP2e.out]
        rintro e w2 ⟨rfl,hbq2⟩
        have hbv2:Bl wx w2:=slc
        have ux2:=(hU.bl hbv2).cell hP2
        have uz2:=(hU.bl hbv2).cell hP0
        have uf2:=(hU.bl hbv2).frozen P0
        have h10_2:=h10_1.bl hbq2
        clear hbq2
        obtain⟨z0,z1,z2,z3,z4⟩:=bx5 h10_2
        rw[hq2]at ux2
        rw[hq0]at uz2
        clear hq0 hq1 hq2
        go_wp2_with fail
        go_roundw
        case rel=>exact⟨i+1,(x.1.set P0 true,true),by omega,by go_num,rfl,Lib.hid hx2.out.symm,((hU.bl hbv2).set P0 true).congr (λj hj=>YD hxl.out true j hj),(h3.bl hbv2).far (by simp;omega) _,Bl.set (hbx.next hbv2) (by show w.heap.size<=gm;omega) _⟩
        case measure=>simp[intOf];omega
      ·have hx2:=Lib.hid (hnext.out.trans (kr hP0e.out hP1e.out hP2e.out hq0 (.inl hq1)))
       clear uz0
       go_wp2_with fail
       clear ux0 uf0 z0 z1 z2 z3 z4
       refine(zh _ (hes.bl (hbx.next (show Bl wx _ from slc))) hs.out hN hnl t.a t.b).mono ?_
       rw[Qc hf1.out]
       rw[hP1e.out]
       rintro e w1 ⟨rfl,hbq1⟩
       have hbv1:Bl wx w1:=slc
       have ux1:=(hU.bl hbv1).cell hP1
       have uz1:=(hU.bl hbv1).cell hP0
       have uf1:=(hU.bl hbv1).frozen P0
       have h10_1:=h10_0.bl hbq1
       clear hbq1
       obtain⟨z0,z1,z2,z3,z4⟩:=bx5 h10_1
       rw[hq1]at ux1
       rw[hq0]at uz1
       clear hq0 hq1
       go_wp2_with fail
       go_roundw
       case rel=>exact⟨i+1,(x.1.set P0 true,true),by omega,by go_num,rfl,Lib.hid hx2.out.symm,((hU.bl hbv1).set P0 true).congr (λj hj=>YD hxl.out true j hj),(h3.bl hbv1).far (by simp;omega) _,Bl.set (hbx.next hbv1) (by show w.heap.size<=gm;omega) _⟩
       case measure=>simp[intOf];omega
     ·have hx2:=Lib.hid (hnext.out.trans (qbq hP0e.out hP1e.out hP2e.out (.inl hq0)))
      rw[hq0]at ux0
      clear uz0 hq0
      go_wp2_with fail
      go_roundw
      case rel=>exact⟨i+1,x,by omega,by go_num,rfl,Lib.hid hx2.out.symm,hU.bl hbv0,h3.bl hbv0,hbx.next hbv0⟩
      case measure=>simp[intOf];omega
    ·obtain rfl:i=m:=by omega
     have hkm2:¬(i:Int)<(i:Int):=by omega
     have hx3:x=Xl ts L bl ts.length:=by rw[hlt.out];exact hx.out
     have hll:bl.length=L.length:=by rw[hne.out];exact hbl.out
     obtain⟨f2,hf2⟩:=hinv.out.step hx3 hll hE.out
     have hd:=uh hll hE.out ts.length (Nat.le_refl _)
     rw[<-hx3]at hd
     replace hd:=Lib.hid hd
     replace hf2:=Lib.hid hf2
     have hxl:=Lib.hid (show x.1.length=ne by rw[hx.out,QU];exact hbl.out)
     clear hx3 hll
     go_wp2_with fail
     go_roundw
     case rel=>exact⟨f2,x.1,x.2,rfl,hxl,hU,h3,hbx,hf2⟩
     case measure=>
      rw[qbj hU hxl.out,hdW.out]
      have h:=hd.out
      cases hc:x.2
      ·rw[hc,if_neg (by decide)]at h
       show 2*dnB x.1+0<2*dnB bl+1
       omega
      ·rw[hc,if_pos rfl]at h
       show 2*dnB x.1+1<2*dnB bl+1
       omega
end Go.Proofs.YtjaapemopbbfaaaGreatDoor
