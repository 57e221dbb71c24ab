import Derived.Test.YtjaapemopbbfaaaGreatDoorPMeshesM42
import Derived.Deep.RegionHeld
namespace Go.Proofs.YtjaapemopbbfaaaGreatDoor
open Go.RowKit
set_option maxRecDepth 100000
set_option maxHeartbeats 32000000
theorem Blk.mv {w W:World}{g:Nat}{T:TypeId}{cs:Array Value}(h:Blk w g T cs) (e:W.heap[g]?=w.heap[g]?):Blk W g T cs:=e.trans h
theorem KE {b0 lo:Nat}{w8 wj wA:World}(h1:∀b,b<w8.heap.size->wj.heap[b]?=w8.heap[b]?) (h2:∀b,lo<=b->b<wj.heap.size->wA.heap[b]?=wj.heap[b]?) (h3:lo<=b0) (h4:w8.heap.size<=wj.heap.size) (X2:World) (hk:∀b,b0<=b->b<w8.heap.size->X2.heap[b]?=wA.heap[b]?):∀b,b0<=b->b<w8.heap.size->X2.heap[b]?=w8.heap[b]?:=λb ha hb=>(hk b ha hb).trans ((h2 b (by omega) (by omega)).trans (h1 b hb))
theorem RdV.of {w:World}{s:Bool}{A:Option Addr}{n c:Nat}{B:Option Addr}{m d:Nat}{r:qH}(h:RdR w s A n c B m d r):RdV w (.bool s) (.slice A n c) (.slice B m d) r:=⟨_,_,_,_,_,_,_,rfl,rfl,rfl,h⟩
theorem XB (w:World) {gp n cp gt m ct:Nat}{mq:MeQ}(hp:qR w (some ⟨gp,0,none⟩) n cp (mq.pts.map tp)) (ht:zx w (some ⟨gt,0,none⟩) m ct mq.tris) (hs:SpM mq) :
  Calls Tryz.prog 160 #[.agg #[.slice (some ⟨gp,0,none⟩) n cp,.slice (some ⟨gt,0,none⟩) m ct]] w λe w'=>e=.returned (.bool true)/\Bl w w':=by
 have hn:=Lib.hid (show mq.pts.length=n by rw[<-hp.len,List.length_map])
 have hm:=Lib.hid ht.len
 have hm48:m<=48:=by rw[<-ht.len];exact hs.fit.ok.t48
 have hm1:1<=m:=by rw[<-ht.len];exact hs.fit.ok.t1
 have hn3:3<=n:=by rw[<-hn.out];exact hs.fit.ok.n3
 have hn40:n<=40:=by rw[<-hn.out];exact hs.fit.ok.n40
 have hcp:=hp.cap
 have hS:=Lib.hid hs
 have hsz:=Lib.hid hs.fit.ok.sz
 clear hs
 go_enter Tryz.func160,Tryz.ntmps160
 go_upto_region 1 with (fail)
 refine qe (λW=>Bl w W/\∃g1,Blk W g1 49 #[.slice (some ⟨gp,0,none⟩) n cp,.slice (some ⟨gt,0,none⟩) m ct]/\g1=w.heap.size) ⟨slc,_,by exact bts,rfl⟩ ?_
 rintro W ⟨hbW,g1,h1,hg1⟩
 rw[<-hg1]
 clear hg1
 have hp:=qR.bl hp hbW
 have ht:=zx.bl ht hbW
 obtain⟨r0,r1⟩:=bx2 h1
 go_wp2_with fail
 refine(QB _ (a:=(m:Int)) (lo:=1) (hi:=48) (by omega) (by omega)).mono ?_
 rintro e w1 ⟨rfl,hq1⟩
 have hb1:Bl W w1:=by obtain⟨q1,rfl⟩:=hq1;exact(Bl.refl _).drewN q1
 clear hq1
 obtain⟨r0,r1⟩:=bx2 (h1.bl hb1)
 go_wp2_with fail
 refine(Vd _ (qR.bl hp hb1) (zx.bl ht hb1) hS.out.fit).mono ?_
 rintro e w2 ⟨rfl,hb2⟩
 have hb12:=hb1.next hb2
 have h1:=h1.bl hb12
 have hp:=qR.bl hp hb12
 have ht:=zx.bl ht hb12
 have hbW:=hbW.next hb12
 clear r0 r1 hb1 hb2 hb12
 go_upto_region 5 with (fail)
 refine qe (λW3=>Bl w2 W3/\∃va vb hi,AB w2.heap.size hi W3 va vb [] []/\va=.slice (some ⟨w2.heap.size,0,none⟩) 0 0/\vb=.slice (some ⟨w2.heap.size+1,0,none⟩) 0 0/\w2.heap.size<=hi) ⟨by exact slc,_,_,_,AB.start w2 (Nat.le_refl _),rfl,rfl,by omega⟩ ?_
 rintro W3 ⟨hb0,va0,vb0,hi0,hX,hva,hvb,hl0⟩
 rw[<-hva,<-hvb]
 clear hva hvb
 obtain⟨r0,r1⟩:=bx2 (h1.bl hb0)
 go_wp2_with fail
 clear r0 r1
 go_loopw [3,4,29] (λsa sb v wr=>∃(k hi:Nat) (va vb:Value),k<=m/\v=.int .i64 (k:Int)/\va=sa/\vb=sb/\AB w2.heap.size hi wr va vb ((List.range k).map λj=>(cnQ mq j).map tp) ((List.range k).map λj=>bxA (cnQ mq j))/\w2.heap.size<=hi/\Bl w2 wr) (λ_ _ v _=>m-(intOf v).toNat)
 case atStart=>exact⟨0,hi0,va0,vb0,by omega,rfl,rfl,rfl,hX,hl0,hb0⟩
 case round=>
  clear hX hb0 hl0
  obtain⟨k,hi,va,vb,hk,rfl,rfl,rfl,hAB,hlo,hbi⟩:=hrel
  obtain⟨wk,rfl⟩:∃wk:World,wk=wr:=⟨_,rfl⟩
  by_cases hkm:k<m
  ·have hki:(k:Int)<(m:Int):=by omega
   have hkq:k<mq.tris.length:=by rw[hm.out];exact hkm
   obtain⟨y0,y1,y2,y3,y4⟩:=jO (zx.bl ht hbi) hkm
   have hrg:=hS.out.fit.ok.reg k hkq
   have hS3:=Lib.hid (show ∀j,j<(cnQ mq k).length->Sm2 (pix (cnQ mq k) j)from λj hj=>by
    obtain⟨s0,s1,s2⟩:=hS.out.fit.smC hkq
    rcases(show j=0\/j=1\/j=2 by simp[cnQ]at hj;omega)with rfl|rfl|rfl
    ·exact s0
    ·exact s1
    ·exact s2)
   obtain⟨t,ht_⟩:∃t,pix mq.tris k=t:=⟨_,rfl⟩
   rw[ht_]at y0 y1 y2 y3 y4 hrg
   clear ht_
   go_upto_region 8 with (fail)
   refine qe (λX=>Bl wk X/\∃g6,Blk X g6 83 #[.int .i64 t.a,.int .i64 t.b,.int .i64 t.c,.int .i64 t.region,.int .i64 t.level]/\g6=wk.heap.size) ⟨slc,_,by exact bts,rfl⟩ ?_
   rintro X ⟨hbX,g6,h6,hg6⟩
   rw[<-hg6]
   clear hg6 y0 y1 y2 y3 y4
   have hbX2:=hbi.next hbX
   have hAB:=hAB.bl hbX
   obtain⟨r0,r1⟩:=bx2 (h1.bl hbX2)
   go_wp2_with fail
   refine(Xr _ (x:=⟨mq.pts.map tp,mq.tris⟩) (k:Int) (qR.bl hp hbX2) (zx.bl ht hbX2) hsz.out).mono ?_
   rw[qaI hS.out.fit hkq]
   rintro e w5 ⟨A5,n5,c5,rfl,hF,hb5⟩
   have hn5:=hF.rd.len
   rw[List.length_map]at hn5
   obtain rfl:n5=3:=by rw[<-hn5];rfl
   obtain⟨g5,e5,hg5,hg5a⟩:∃ g,A5=some ⟨g,0,none⟩/\X.heap.size<=g/\g < w5.heap.size:=by
    rcases hF.1 with h|h
    ·omega
    ·exact h
   subst e5
   clear hn5 r0 r1
   go_wp2_with fail
   refine(jm _ hF.rd (Vx hS.out hkq)).mono ?_
   rw[Vx hS.out hkq]
   rintro e w6 ⟨rfl,hb6⟩
   obtain⟨z0,z1,z2,z3,z4⟩:=bx5 (h6.bl (hb5.next hb6))
   go_wp2_with fail
   have hb65:=hb5.next hb6
   refine(QB _ (a:=t.region) (lo:=0) (hi:=2) hrg.1.1 hrg.1.2).mono ?_
   rintro e w7 ⟨rfl,hq7⟩
   have hb67:Bl w6 w7:=by obtain⟨q7,rfl⟩:=hq7;exact(Bl.refl _).drewN q7
   clear hq7 z0 z1 z2 z3 z4
   obtain⟨z0,z1,z2,z3,z4⟩:=bx5 (h6.bl (hb65.next hb67))
   go_wp2_with fail
   refine(QB _ (a:=t.level) (lo:=0) (hi:=60) hrg.2.1 hrg.2.2).mono ?_
   rintro e w8 ⟨rfl,hq8⟩
   have hb8:Bl w5 w8:=by obtain⟨q8,rfl⟩:=hq8;exact(hb6.next hb67).drewN q8
   clear hq8 z0 z1 z2 z3 z4 hb6 hb67 hb65
   have hF:=hF.bl hb8
   have hg5l:g5<w8.heap.size:=Nat.lt_of_lt_of_le hg5a hb8.size
   have hb8:=hb5.next hb8
   clear hb5
   go_wp2_with fail
   refine(vS (FrF X.heap.size w8) _ (l:=cnQ mq k) hF.phi (by omega) hS3.out).mono ?_
   rintro e w9 ⟨u0,u1,u2,u3,u4,u5,u6,u7,u8,u9,u10,u11,rfl,hbx,hb9⟩
   obtain⟨hx0,hx1,hx2,hx3⟩:=hbx
   obtain⟨su0,Au0,nu0,cu0,Bu0,mu0,du0,e0,e1,e2,hRu0,hFu0⟩:=hx0
   subst e0 e1 e2
   obtain⟨su1,Au1,nu1,cu1,Bu1,mu1,du1,e0,e1,e2,hRu1,hFu1⟩:=hx1
   subst e0 e1 e2
   obtain⟨su2,Au2,nu2,cu2,Bu2,mu2,du2,e0,e1,e2,hRu2,hFu2⟩:=hx2
   subst e0 e1 e2
   obtain⟨su3,Au3,nu3,cu3,Bu3,mu3,du3,e0,e1,e2,hRu3,hFu3⟩:=hx3
   subst e0 e1 e2
   go_upto_region 12 with (fail)
   refine qe (λZ=>Bl w9 Z/\∃g8,Blk Z g8 204 #[(.bool su0),(.slice Au0 nu0 cu0),(.slice Bu0 mu0 du0),(.bool su1),(.slice Au1 nu1 cu1),(.slice Bu1 mu1 du1),(.bool su2),(.slice Au2 nu2 cu2),(.slice Bu2 mu2 du2),(.bool su3),(.slice Au3 nu3 cu3),(.slice Bu3 mu3 du3)]/\g8=w9.heap.size) ⟨slc,_,by exact bts,rfl⟩ ?_
   rintro Z ⟨hb9Z,g8,h8,hg8⟩
   rw[<-hg8]
   have hg8w:w9.heap.size<=g8:=by rw[hg8];exact Nat.le_refl _
   clear hg8
   have hb8Z:=hb9.next hb9Z
   have hbZ:=hb8.next hb8Z
   have hABZ:=hAB.bl hbZ
   have hlL:((List.range k).map λj=>(cnQ mq j).map tp).length=k:=by simp
   have hlB:((List.range k).map λj=>bxA (cnQ mq j)).length=k:=by simp
   obtain⟨Aa,ca,hva,hRa,ha0⟩:=qcP.rd hABZ.1 (by omega)
   obtain⟨Ab,cb,hvb,hRb,hb0⟩:=qcG.rd hABZ.2.1 (by omega)
   rw[hlL]at hva hRa ha0
   rw[hlB]at hvb hRb hb0
   subst hva hvb
   have hRa:=Lib.hid hRa;have hRb:=Lib.hid hRb
   have hFr:=(hF.bl hb8Z).rd
   have hRu0:=hRu0.bl hb9Z
   have hRu1:=hRu1.bl hb9Z
   have hRu2:=hRu2.bl hb9Z
   have hRu3:=hRu3.bl hb9Z
   have hsmk:=Lib.hid (show XK (bxA (cnQ mq k))from Yf hS3.out (by simp[cnQ]) 3 (by simp[cnQ]))
   go_wp2_with fail
   go_loopw [56] (λsi wr=>∃i:Nat,i<=k/\si=.int .i64 (i:Int)/\Bl Z wr) (λsi _=>k-(intOf si).toNat)
   case atStart=>exact⟨0,by omega,rfl,Bl.refl _⟩
   case round=>
    obtain⟨i,hi,rfl,hbi2⟩:=hrel
    obtain⟨wi,rfl⟩:∃wi:World,wi=wr:=⟨_,rfl⟩
    by_cases hik:i<k
    ·have hii:(i:Int)<(k:Int):=by omega
     obtain⟨gA,rfl⟩:∃g,Aa=some ⟨g,0,none⟩:=by rcases ha0 with h|h;omega;exact h
     obtain⟨gB,rfl⟩:∃g,Ab=some ⟨g,0,none⟩:=by rcases hb0 with h|h;omega;exact h
     obtain⟨⟨gl,nl,cl,ya,hRl⟩,hgA⟩:=qdl (RdS.bl (λh hp hb=>h.bl hp hb) hRa.out hbi2) hik
     obtain⟨⟨v0,v1,v2,v3,v4,v5,v6,v7,v8,v9,v10,v11,⟨y0,y1,y2,y3,y4,y5,y6,y7,y8,y9,y10,y11⟩,hr0,hr1,hr2,hr3⟩,hgB⟩:=qdK (RdS.bl (λh hp hb=>h.bl hp hb) hRb.out hbi2) hik
     rw[show pix ((List.range k).map λj=>(cnQ mq j).map tp) i=(cnQ mq i).map tp by simp[pix,hik]]at hRl
     rw[show pix ((List.range k).map λj=>bxA (cnQ mq j)) i=bxA (cnQ mq i)by simp[pix,hik]]at hr0 hr1 hr2 hr3
     obtain⟨sv0,Av0,nv0,cv0,Bv0,mv0,dv0,e0,e1,e2,hRv0⟩:=hr0
     subst e0 e1 e2
     obtain⟨sv1,Av1,nv1,cv1,Bv1,mv1,dv1,e0,e1,e2,hRv1⟩:=hr1
     subst e0 e1 e2
     obtain⟨sv2,Av2,nv2,cv2,Bv2,mv2,dv2,e0,e1,e2,hRv2⟩:=hr2
     subst e0 e1 e2
     obtain⟨sv3,Av3,nv3,cv3,Bv3,mv3,dv3,e0,e1,e2,hRv3⟩:=hr3
     subst e0 e1 e2
     have hsmi:=Lib.hid (show XK (bxA (cnQ mq i))from Yf (λj hj=>by
      obtain⟨s0,s1,s2⟩:=hS.out.fit.smC (k:=i) (by omega)
      rcases(show j=0\/j=1\/j=2 by simp[cnQ]at hj;omega)with rfl|rfl|rfl
      ·exact s0
      ·exact s1
      ·exact s2) (by simp[cnQ]) 3 (by simp[cnQ]))
     have hov:=Lib.hid (qeg hS.out hkq hik)
     have hpk:=Lib.hid (Vx hS.out hkq)
     have hpi:=Lib.hid (Vx hS.out (k:=i) (by omega))
     go_wp2_with fail
     obtain⟨fb,hfb⟩:∃fb,kc (bxA (cnQ mq k)) (bxA (cnQ mq i))=fb:=⟨_,rfl⟩
     have hfar:=Lib.hid hfb
     clear hfb
     cases fb
     ·go_region_held3 (λw'=>(w'.cell? ⟨g8,0,none⟩=some (.bool su0)/\w'.cell? ⟨g8,1,none⟩=some (.slice Au0 nu0 cu0)/\w'.cell? ⟨g8,2,none⟩=some (.slice Bu0 mu0 du0)/\w'.cell? ⟨g8,3,none⟩=some (.bool su1)/\w'.cell? ⟨g8,4,none⟩=some (.slice Au1 nu1 cu1)/\w'.cell? ⟨g8,5,none⟩=some (.slice Bu1 mu1 du1)/\w'.cell? ⟨g8,6,none⟩=some (.bool su2)/\w'.cell? ⟨g8,7,none⟩=some (.slice Au2 nu2 cu2)/\w'.cell? ⟨g8,8,none⟩=some (.slice Bu2 mu2 du2)/\w'.cell? ⟨g8,9,none⟩=some (.bool su3)/\w'.cell? ⟨g8,10,none⟩=some (.slice Au3 nu3 cu3)/\w'.cell? ⟨g8,11,none⟩=some (.slice Bu3 mu3 du3))/\(w'.cell? ⟨gB,i*12,none⟩=some (.bool sv0)/\w'.cell? ⟨gB,i*12+1,none⟩=some (.slice Av0 nv0 cv0)/\w'.cell? ⟨gB,i*12+2,none⟩=some (.slice Bv0 mv0 dv0)/\w'.cell? ⟨gB,i*12+3,none⟩=some (.bool sv1)/\w'.cell? ⟨gB,i*12+4,none⟩=some (.slice Av1 nv1 cv1)/\w'.cell? ⟨gB,i*12+5,none⟩=some (.slice Bv1 mv1 dv1)/\w'.cell? ⟨gB,i*12+6,none⟩=some (.bool sv2)/\w'.cell? ⟨gB,i*12+7,none⟩=some (.slice Av2 nv2 cv2)/\w'.cell? ⟨gB,i*12+8,none⟩=some (.slice Bv2 mv2 dv2)/\w'.cell? ⟨gB,i*12+9,none⟩=some (.bool sv3)/\w'.cell? ⟨gB,i*12+10,none⟩=some (.slice Av3 nv3 cv3)/\w'.cell? ⟨gB,i*12+11,none⟩=some (.slice Bv3 mv3 dv3))) (first|exact⟨yO (T:=204) (h8.bl slc),⟨(Bl.qeV (w:=wi) (p:=⟨gB,i*12,none⟩) slc hgB).trans y0,(Bl.qeV (w:=wi) (p:=⟨gB,i*12+1,none⟩) slc hgB).trans y1,(Bl.qeV (w:=wi) (p:=⟨gB,i*12+2,none⟩) slc hgB).trans y2,(Bl.qeV (w:=wi) (p:=⟨gB,i*12+3,none⟩) slc hgB).trans y3,(Bl.qeV (w:=wi) (p:=⟨gB,i*12+4,none⟩) slc hgB).trans y4,(Bl.qeV (w:=wi) (p:=⟨gB,i*12+5,none⟩) slc hgB).trans y5,(Bl.qeV (w:=wi) (p:=⟨gB,i*12+6,none⟩) slc hgB).trans y6,(Bl.qeV (w:=wi) (p:=⟨gB,i*12+7,none⟩) slc hgB).trans y7,(Bl.qeV (w:=wi) (p:=⟨gB,i*12+8,none⟩) slc hgB).trans y8,(Bl.qeV (w:=wi) (p:=⟨gB,i*12+9,none⟩) slc hgB).trans y9,(Bl.qeV (w:=wi) (p:=⟨gB,i*12+10,none⟩) slc hgB).trans y10,(Bl.qeV (w:=wi) (p:=⟨gB,i*12+11,none⟩) slc hgB).trans y11⟩⟩) (first |(go_at_call 213;with_reducible refine(vF _ ⟨RdV.of (hRu0.bl slc),RdV.of (hRu1.bl slc),RdV.of (hRu2.bl slc),RdV.of (hRu3.bl slc)⟩ ⟨RdV.of (hRv0.bl slc),RdV.of (hRv1.bl slc),RdV.of (hRv2.bl slc),RdV.of (hRv3.bl slc)⟩ hsmk.out hsmi.out).mono ?_;rw[hfar.out];rintro e wf ⟨rfl,hbf⟩) |(go_at_call 214;with_reducible refine(V4 _ (qR.bl hFr slc) (qR.bl hRl slc) hpk.out hpi.out).mono ?_;rw[hov.out];rintro e wo ⟨rfl,hbo⟩))
      all_goals (go_wp2_with fail)
      all_goals go_roundw
      all_goals first|exact⟨i+1,by omega,by go_num,slc⟩ |(simp[intOf];omega)
     ·skip
      refine wp_region_held_drew (S:=λw'=>(w'.cell? ⟨g8,0,none⟩=some (.bool su0)/\w'.cell? ⟨g8,1,none⟩=some (.slice Au0 nu0 cu0)/\w'.cell? ⟨g8,2,none⟩=some (.slice Bu0 mu0 du0)/\w'.cell? ⟨g8,3,none⟩=some (.bool su1)/\w'.cell? ⟨g8,4,none⟩=some (.slice Au1 nu1 cu1)/\w'.cell? ⟨g8,5,none⟩=some (.slice Bu1 mu1 du1)/\w'.cell? ⟨g8,6,none⟩=some (.bool su2)/\w'.cell? ⟨g8,7,none⟩=some (.slice Au2 nu2 cu2)/\w'.cell? ⟨g8,8,none⟩=some (.slice Bu2 mu2 du2)/\w'.cell? ⟨g8,9,none⟩=some (.bool su3)/\w'.cell? ⟨g8,10,none⟩=some (.slice Au3 nu3 cu3)/\w'.cell? ⟨g8,11,none⟩=some (.slice Bu3 mu3 du3))/\(w'.cell? ⟨gB,i*12,none⟩=some (.bool sv0)/\w'.cell? ⟨gB,i*12+1,none⟩=some (.slice Av0 nv0 cv0)/\w'.cell? ⟨gB,i*12+2,none⟩=some (.slice Bv0 mv0 dv0)/\w'.cell? ⟨gB,i*12+3,none⟩=some (.bool sv1)/\w'.cell? ⟨gB,i*12+4,none⟩=some (.slice Av1 nv1 cv1)/\w'.cell? ⟨gB,i*12+5,none⟩=some (.slice Bv1 mv1 dv1)/\w'.cell? ⟨gB,i*12+6,none⟩=some (.bool sv2)/\w'.cell? ⟨gB,i*12+7,none⟩=some (.slice Av2 nv2 cv2)/\w'.cell? ⟨gB,i*12+8,none⟩=some (.slice Bv2 mv2 dv2)/\w'.cell? ⟨gB,i*12+9,none⟩=some (.bool sv3)/\w'.cell? ⟨gB,i*12+10,none⟩=some (.slice Av3 nv3 cv3)/\w'.cell? ⟨gB,i*12+11,none⟩=some (.slice Bv3 mv3 dv3))) (by kernel_rfl) (by first|exact⟨yO (T:=204) (h8.bl slc),⟨(Bl.qeV (w:=wi) (p:=⟨gB,i*12,none⟩) slc hgB).trans y0,(Bl.qeV (w:=wi) (p:=⟨gB,i*12+1,none⟩) slc hgB).trans y1,(Bl.qeV (w:=wi) (p:=⟨gB,i*12+2,none⟩) slc hgB).trans y2,(Bl.qeV (w:=wi) (p:=⟨gB,i*12+3,none⟩) slc hgB).trans y3,(Bl.qeV (w:=wi) (p:=⟨gB,i*12+4,none⟩) slc hgB).trans y4,(Bl.qeV (w:=wi) (p:=⟨gB,i*12+5,none⟩) slc hgB).trans y5,(Bl.qeV (w:=wi) (p:=⟨gB,i*12+6,none⟩) slc hgB).trans y6,(Bl.qeV (w:=wi) (p:=⟨gB,i*12+7,none⟩) slc hgB).trans y7,(Bl.qeV (w:=wi) (p:=⟨gB,i*12+8,none⟩) slc hgB).trans y8,(Bl.qeV (w:=wi) (p:=⟨gB,i*12+9,none⟩) slc hgB).trans y9,(Bl.qeV (w:=wi) (p:=⟨gB,i*12+10,none⟩) slc hgB).trans y10,(Bl.qeV (w:=wi) (p:=⟨gB,i*12+11,none⟩) slc hgB).trans y11⟩⟩) (λhHeld=>?_)
      refine wpAnyH_take (i:=0) (oi:=_) (v:=?_) (fuel:=11) rfl (by kernel_rfl) (by kernel_rfl) (by kernel_rfl) (λ_ _ _ h=>h) (Or.inl ⟨by rfl,?_⟩) hHeld ?_
      rotate_left 1
      ·(intro w' hSw;(try dsimp only at hSw);go_simp <;> with_reducible rfl)
      simp only[Act.put,List.setIfInBounds_toArray]
      refine wpAnyH_take (i:=1) (oi:=_) (v:=?_) (fuel:=10) rfl (by kernel_rfl) (by kernel_rfl) (by kernel_rfl) (λ_ _ _ h=>h) (Or.inl ⟨by rfl,?_⟩) hHeld ?_
      rotate_left 1
      ·(intro w' hSw;(try dsimp only at hSw);go_simp <;> with_reducible rfl)
      simp only[Act.put]
      refine wpAnyH_take (i:=2) (oi:=_) (v:=?_) (fuel:=9) rfl (by kernel_rfl) (by kernel_rfl) (by kernel_rfl) (λ_ _ _ h=>h) (Or.inl ⟨by rfl,?_⟩) hHeld ?_
      rotate_left 1
      ·(intro w' hSw;(try dsimp only at hSw);go_simp <;> with_reducible rfl)
      simp only[Act.put]
      refine wpAnyH_take (i:=3) (oi:=_) (v:=?_) (fuel:=8) rfl (by kernel_rfl) (by kernel_rfl) (by kernel_rfl) (λ_ _ _ h=>h) (Or.inl ⟨by rfl,?_⟩) hHeld ?_
      rotate_left 1
      ·(intro w' hSw;(try dsimp only at hSw);go_simp <;> with_reducible rfl)
      simp only[Act.put]
      refine wpAnyH_take (i:=4) (oi:=_) (v:=?_) (fuel:=7) rfl (by kernel_rfl) (by kernel_rfl) (by kernel_rfl) (λ_ _ _ h=>h) (Or.inl ⟨by rfl,?_⟩) hHeld ?_
      rotate_left 1
      ·(intro w' hSw;(try dsimp only at hSw);go_simp <;> with_reducible rfl)
      simp only[Act.put]
      refine wpAnyH_ready (fuel:=6) (rs:=[5]) (by kernel_rfl) (by simp) ?_
      refine AllReadyH.cons (o:=_) rfl (λK hK=>?_) AllReadyH.nil
      go_simp
      with_reducible refine(vF _ ⟨RdV.of (hRu0.bl slc),RdV.of (hRu1.bl slc),RdV.of (hRu2.bl slc),RdV.of (hRu3.bl slc)⟩ ⟨RdV.of (hRv0.bl slc),RdV.of (hRv1.bl slc),RdV.of (hRv2.bl slc),RdV.of (hRv3.bl slc)⟩ hsmk.out hsmi.out).mono ?_
      rw[hfar.out]
      rintro e wf ⟨rfl,hbf⟩
      refine hK.out _ _ (by first|exact⟨yO (T:=204) (h8.bl slc),⟨(Bl.qeV (w:=wi) (p:=⟨gB,i*12,none⟩) slc hgB).trans y0,(Bl.qeV (w:=wi) (p:=⟨gB,i*12+1,none⟩) slc hgB).trans y1,(Bl.qeV (w:=wi) (p:=⟨gB,i*12+2,none⟩) slc hgB).trans y2,(Bl.qeV (w:=wi) (p:=⟨gB,i*12+3,none⟩) slc hgB).trans y3,(Bl.qeV (w:=wi) (p:=⟨gB,i*12+4,none⟩) slc hgB).trans y4,(Bl.qeV (w:=wi) (p:=⟨gB,i*12+5,none⟩) slc hgB).trans y5,(Bl.qeV (w:=wi) (p:=⟨gB,i*12+6,none⟩) slc hgB).trans y6,(Bl.qeV (w:=wi) (p:=⟨gB,i*12+7,none⟩) slc hgB).trans y7,(Bl.qeV (w:=wi) (p:=⟨gB,i*12+8,none⟩) slc hgB).trans y8,(Bl.qeV (w:=wi) (p:=⟨gB,i*12+9,none⟩) slc hgB).trans y9,(Bl.qeV (w:=wi) (p:=⟨gB,i*12+10,none⟩) slc hgB).trans y10,(Bl.qeV (w:=wi) (p:=⟨gB,i*12+11,none⟩) slc hgB).trans y11⟩⟩) (λhHeld=>?_)
      clear hK K
      try simp only[Act.put,List.setIfInBounds_toArray,List.set_cons_zero,List.set_cons_succ]
      refine wpAnyH_take (i:=6) (oi:=_) (v:=?_) (fuel:=5) rfl (by kernel_rfl) (by kernel_rfl) (by kernel_rfl) (λ_ _ _ h=>h) (Or.inl ⟨by rfl,?_⟩) hHeld ?_
      rotate_left 1
      ·(intro w' hSw;(try dsimp only at hSw);go_simp <;> with_reducible rfl)
      simp only[Act.put,List.setIfInBounds_toArray]
      refine wpAnyH_take (i:=7) (oi:=_) (v:=?_) (fuel:=4) rfl (by kernel_rfl) (by kernel_rfl) (by kernel_rfl) (λ_ _ _ h=>h) (Or.inl ⟨by rfl,?_⟩) hHeld ?_
      rotate_left 1
      ·(intro w' hSw;(try dsimp only at hSw);go_simp <;> with_reducible rfl)
      simp only[Act.put]
      refine wpAnyH_take (i:=8) (oi:=_) (v:=undef) (fuel:=3) rfl (by kernel_rfl) (by kernel_rfl) (by kernel_rfl) (λ_ _ _ h=>h) (Or.inr ⟨by rfl,rfl⟩) hHeld ?_
      simp only[Act.put]
      refine wpAnyH_take (i:=9) (oi:=_) (v:=undef) (fuel:=2) rfl (by kernel_rfl) (by kernel_rfl) (by kernel_rfl) (λ_ _ _ h=>h) (Or.inr ⟨by rfl,rfl⟩) hHeld ?_
      simp only[Act.put]
      refine wpAnyH_take (i:=10) (oi:=_) (v:=undef) (fuel:=1) rfl (by kernel_rfl) (by kernel_rfl) (by kernel_rfl) (λ_ _ _ h=>h) (Or.inr ⟨by rfl,rfl⟩) hHeld ?_
      simp only[Act.put]
      refine wpAnyH_take (i:=11) (oi:=_) (v:=?_) (fuel:=0) rfl (by kernel_rfl) (by kernel_rfl) (by kernel_rfl) (λ_ _ _ h=>h) (Or.inl ⟨by rfl,?_⟩) hHeld ?_
      rotate_left 1
      ·(intro w' hSw;(try dsimp only at hSw);go_simp <;> with_reducible rfl)
      simp only[Act.put]
      clear hHeld
      refine wpAnyH_done (by kernel_rfl) ?_ _
      all_goals (go_wp2_with fail)
      all_goals go_roundw
      all_goals first|exact⟨i+1,by omega,by go_num,slc⟩ |(simp[intOf];omega)
    ·obtain rfl:k=i:=by omega
     have hkk3:¬(k:Int)<(k:Int):=by omega
     go_wp2_with fail
     go_loopw [76] (λsj wr=>∃j:Nat,j<=3/\sj=.int .i64 (j:Int)/\Bl Z wr) (λsj _=>3-(intOf sj).toNat)
     case atStart=>exact⟨0,by omega,rfl,hbi2⟩
     case round=>
      obtain⟨j,hj,rfl,hbj⟩:=hrel
      obtain⟨wj,rfl⟩:∃wj:World,wj=wr:=⟨_,rfl⟩
      rcases(show j=0\/j=1\/j=2\/j=3 by omega)with rfl|rfl|rfl|rfl
      ·have e0:((0:Nat):Int)=0:=rfl
       rw[e0]
       clear e0 hj
       obtain⟨r0,r1⟩:=bx2 (h1.bl ((hbX2.next hbZ).next hbj))
       go_wp2_with fail
       clear r0 r1
       go_loopw [82] (λsp wr=>∃p:Nat,p<=n/\sp=.int .i64 (p:Int)/\Bl Z wr) (λsp _=>n-(intOf sp).toNat)
       case atStart=>exact⟨0,by omega,rfl,hbj⟩
       case round=>
        obtain⟨p,hpn,rfl,hbp⟩:=hrel
        obtain⟨wp,rfl⟩:∃wp:World,wp=wr:=⟨_,rfl⟩
        by_cases hpp:p<n
        ·have hpi:(p:Int)<(n:Int):=by omega
         have hpq:p<mq.pts.length:=by rw[hn.out];exact hpp
         obtain⟨s7,A7,n7,c7,B7,m7,d7,t7,C7,i7,e7,D7,j7,f7,⟨y0,y1,y2,y3,y4,y5⟩,hX7,hY7⟩:=zC (qR.bl hp ((hbX2.next hbZ).next hbp)) hpp
         rw[zv hpq]at hX7 hY7
         have hs7:=hS.out.fit.sm p hpq
         have hno:=hS.out.noins k hkq p hpq
         have hc3:=hS.out.fit.smC hkq
         go_upto_region 24 with (fail)
         refine qe (λZ2=>Bl wp Z2/\∃g13,Blk Z2 g13 28 #[.bool s7,.slice A7 n7 c7,.slice B7 m7 d7,.bool t7,.slice C7 i7 e7,.slice D7 j7 f7]/\g13=wp.heap.size) ⟨slc,_,by exact bts,rfl⟩ ?_
         rintro Z2 ⟨hbZ2,g13,h13,hg13⟩
         rw[<-hg13]
         clear y0 y1 y2 y3 y4 y5 hg13
         have hbZZ:=hbp.next hbZ2
         obtain⟨s8,A8,n8,c8,B8,m8,d8,t8,C8,i8,e8,D8,j8,f8,⟨y0,y1,y2,y3,y4,y5⟩,hX8,hY8⟩:YX Z2 ⟨g5,0,none⟩ (tp (c0 mq k)):=zC (qR.bl hFr hbZZ) (k:=0) (by omega)
         obtain⟨s9,A9,n9,c9,B9,m9,d9,t9,C9,i9,e9,D9,j9,f9,⟨z0,z1,z2,z3,z4,z5⟩,hX9,hY9⟩:YX Z2 ⟨g5,6,none⟩ (tp (c1 mq k)):=zC (qR.bl hFr hbZZ) (k:=1) (by omega)
         have hw1:IntKind.i64.wrap (0+1)=1:=by rfl
         have hw2:IntKind.i64.wrap 1=1:=by rfl
         have hw3:Int.tmod 1 3=1:=by rfl
         have hw4:IntKind.i64.wrap 1=1:=by rfl
         have hg5w:g5<Z2.heap.size:=Nat.lt_of_lt_of_le hg5l (Nat.le_trans (hb8Z.next hbZZ).size (Nat.le_refl _))
         have hX7:=hX7.bl hbZ2
         have hY7:=hY7.bl hbZ2
         go_region_held3 (λw'=>(w'.cell? ⟨g13,0,none⟩=some (.bool s7)/\w'.cell? ⟨g13,1,none⟩=some (.slice A7 n7 c7)/\w'.cell? ⟨g13,2,none⟩=some (.slice B7 m7 d7)/\w'.cell? ⟨g13,3,none⟩=some (.bool t7)/\w'.cell? ⟨g13,4,none⟩=some (.slice C7 i7 e7)/\w'.cell? ⟨g13,5,none⟩=some (.slice D7 j7 f7))/\(w'.cell? ⟨g5,0,none⟩=some (.bool s8)/\w'.cell? ⟨g5,1,none⟩=some (.slice A8 n8 c8)/\w'.cell? ⟨g5,2,none⟩=some (.slice B8 m8 d8)/\w'.cell? ⟨g5,3,none⟩=some (.bool t8)/\w'.cell? ⟨g5,4,none⟩=some (.slice C8 i8 e8)/\w'.cell? ⟨g5,5,none⟩=some (.slice D8 j8 f8))/\(w'.cell? ⟨g5,6,none⟩=some (.bool s9)/\w'.cell? ⟨g5,7,none⟩=some (.slice A9 n9 c9)/\w'.cell? ⟨g5,8,none⟩=some (.slice B9 m9 d9)/\w'.cell? ⟨g5,9,none⟩=some (.bool t9)/\w'.cell? ⟨g5,10,none⟩=some (.slice C9 i9 e9)/\w'.cell? ⟨g5,11,none⟩=some (.slice D9 j9 f9))) (first|exact⟨bx6 (T:=28) (h13.bl slc),⟨(Bl.qeV (w:=Z2) (p:=⟨g5,0,none⟩) slc hg5w).trans y0,(Bl.qeV (w:=Z2) (p:=⟨g5,1,none⟩) slc hg5w).trans y1,(Bl.qeV (w:=Z2) (p:=⟨g5,2,none⟩) slc hg5w).trans y2,(Bl.qeV (w:=Z2) (p:=⟨g5,3,none⟩) slc hg5w).trans y3,(Bl.qeV (w:=Z2) (p:=⟨g5,4,none⟩) slc hg5w).trans y4,(Bl.qeV (w:=Z2) (p:=⟨g5,5,none⟩) slc hg5w).trans y5⟩,⟨(Bl.qeV (w:=Z2) (p:=⟨g5,6,none⟩) slc hg5w).trans z0,(Bl.qeV (w:=Z2) (p:=⟨g5,7,none⟩) slc hg5w).trans z1,(Bl.qeV (w:=Z2) (p:=⟨g5,8,none⟩) slc hg5w).trans z2,(Bl.qeV (w:=Z2) (p:=⟨g5,9,none⟩) slc hg5w).trans z3,(Bl.qeV (w:=Z2) (p:=⟨g5,10,none⟩) slc hg5w).trans z4,(Bl.qeV (w:=Z2) (p:=⟨g5,11,none⟩) slc hg5w).trans z5⟩⟩) (first |(go_at_call 215;with_reducible refine(Qq _ (hX7.bl slc) (hY7.bl slc) (hX8.bl slc) (hY8.bl slc) (hX9.bl slc) (hY9.bl slc) hs7 hc3.1 hc3.2.1 hno.1).mono ?_;rintro e wq ⟨rfl,hbq⟩))
         all_goals (go_wp2_with fail)
         all_goals go_roundw
         all_goals first|exact⟨p+1,by omega,by go_num,slc⟩ |(simp[intOf];omega)
        ·obtain rfl:n=p:=by omega
         have hpp3:¬(n:Int)<(n:Int):=by omega
         go_wp2_with fail
         go_roundw
         case rel=>exact⟨1,by omega,rfl,hbp⟩
         case measure=>simp[intOf]
      ·have e0:((1:Nat):Int)=1:=rfl
       rw[e0]
       clear e0 hj
       obtain⟨r0,r1⟩:=bx2 (h1.bl ((hbX2.next hbZ).next hbj))
       go_wp2_with fail
       clear r0 r1
       go_loopw [82] (λsp wr=>∃p:Nat,p<=n/\sp=.int .i64 (p:Int)/\Bl Z wr) (λsp _=>n-(intOf sp).toNat)
       case atStart=>exact⟨0,by omega,rfl,hbj⟩
       case round=>
        obtain⟨p,hpn,rfl,hbp⟩:=hrel
        obtain⟨wp,rfl⟩:∃wp:World,wp=wr:=⟨_,rfl⟩
        by_cases hpp:p<n
        ·have hpi:(p:Int)<(n:Int):=by omega
         have hpq:p<mq.pts.length:=by rw[hn.out];exact hpp
         obtain⟨s7,A7,n7,c7,B7,m7,d7,t7,C7,i7,e7,D7,j7,f7,⟨y0,y1,y2,y3,y4,y5⟩,hX7,hY7⟩:=zC (qR.bl hp ((hbX2.next hbZ).next hbp)) hpp
         rw[zv hpq]at hX7 hY7
         have hs7:=hS.out.fit.sm p hpq
         have hno:=hS.out.noins k hkq p hpq
         have hc3:=hS.out.fit.smC hkq
         go_upto_region 24 with (fail)
         refine qe (λZ2=>Bl wp Z2/\∃g13,Blk Z2 g13 28 #[.bool s7,.slice A7 n7 c7,.slice B7 m7 d7,.bool t7,.slice C7 i7 e7,.slice D7 j7 f7]/\g13=wp.heap.size) ⟨slc,_,by exact bts,rfl⟩ ?_
         rintro Z2 ⟨hbZ2,g13,h13,hg13⟩
         rw[<-hg13]
         clear y0 y1 y2 y3 y4 y5 hg13
         have hbZZ:=hbp.next hbZ2
         obtain⟨s8,A8,n8,c8,B8,m8,d8,t8,C8,i8,e8,D8,j8,f8,⟨y0,y1,y2,y3,y4,y5⟩,hX8,hY8⟩:YX Z2 ⟨g5,6,none⟩ (tp (c1 mq k)):=zC (qR.bl hFr hbZZ) (k:=1) (by omega)
         obtain⟨s9,A9,n9,c9,B9,m9,d9,t9,C9,i9,e9,D9,j9,f9,⟨z0,z1,z2,z3,z4,z5⟩,hX9,hY9⟩:YX Z2 ⟨g5,12,none⟩ (tp (c2 mq k)):=zC (qR.bl hFr hbZZ) (k:=2) (by omega)
         have hw1:IntKind.i64.wrap (1+1)=2:=by rfl
         have hw2:IntKind.i64.wrap 2=2:=by rfl
         have hw3:Int.tmod 2 3=2:=by rfl
         have hw4:IntKind.i64.wrap 2=2:=by rfl
         have hg5w:g5<Z2.heap.size:=Nat.lt_of_lt_of_le hg5l (Nat.le_trans (hb8Z.next hbZZ).size (Nat.le_refl _))
         have hX7:=hX7.bl hbZ2
         have hY7:=hY7.bl hbZ2
         go_region_held3 (λw'=>(w'.cell? ⟨g13,0,none⟩=some (.bool s7)/\w'.cell? ⟨g13,1,none⟩=some (.slice A7 n7 c7)/\w'.cell? ⟨g13,2,none⟩=some (.slice B7 m7 d7)/\w'.cell? ⟨g13,3,none⟩=some (.bool t7)/\w'.cell? ⟨g13,4,none⟩=some (.slice C7 i7 e7)/\w'.cell? ⟨g13,5,none⟩=some (.slice D7 j7 f7))/\(w'.cell? ⟨g5,6,none⟩=some (.bool s8)/\w'.cell? ⟨g5,7,none⟩=some (.slice A8 n8 c8)/\w'.cell? ⟨g5,8,none⟩=some (.slice B8 m8 d8)/\w'.cell? ⟨g5,9,none⟩=some (.bool t8)/\w'.cell? ⟨g5,10,none⟩=some (.slice C8 i8 e8)/\w'.cell? ⟨g5,11,none⟩=some (.slice D8 j8 f8))/\(w'.cell? ⟨g5,12,none⟩=some (.bool s9)/\w'.cell? ⟨g5,13,none⟩=some (.slice A9 n9 c9)/\w'.cell? ⟨g5,14,none⟩=some (.slice B9 m9 d9)/\w'.cell? ⟨g5,15,none⟩=some (.bool t9)/\w'.cell? ⟨g5,16,none⟩=some (.slice C9 i9 e9)/\w'.cell? ⟨g5,17,none⟩=some (.slice D9 j9 f9))) (first|exact⟨bx6 (T:=28) (h13.bl slc),⟨(Bl.qeV (w:=Z2) (p:=⟨g5,6,none⟩) slc hg5w).trans y0,(Bl.qeV (w:=Z2) (p:=⟨g5,7,none⟩) slc hg5w).trans y1,(Bl.qeV (w:=Z2) (p:=⟨g5,8,none⟩) slc hg5w).trans y2,(Bl.qeV (w:=Z2) (p:=⟨g5,9,none⟩) slc hg5w).trans y3,(Bl.qeV (w:=Z2) (p:=⟨g5,10,none⟩) slc hg5w).trans y4,(Bl.qeV (w:=Z2) (p:=⟨g5,11,none⟩) slc hg5w).trans y5⟩,⟨(Bl.qeV (w:=Z2) (p:=⟨g5,12,none⟩) slc hg5w).trans z0,(Bl.qeV (w:=Z2) (p:=⟨g5,13,none⟩) slc hg5w).trans z1,(Bl.qeV (w:=Z2) (p:=⟨g5,14,none⟩) slc hg5w).trans z2,(Bl.qeV (w:=Z2) (p:=⟨g5,15,none⟩) slc hg5w).trans z3,(Bl.qeV (w:=Z2) (p:=⟨g5,16,none⟩) slc hg5w).trans z4,(Bl.qeV (w:=Z2) (p:=⟨g5,17,none⟩) slc hg5w).trans z5⟩⟩) (first |(go_at_call 215;with_reducible refine(Qq _ (hX7.bl slc) (hY7.bl slc) (hX8.bl slc) (hY8.bl slc) (hX9.bl slc) (hY9.bl slc) hs7 hc3.2.1 hc3.2.2 hno.2.1).mono ?_;rintro e wq ⟨rfl,hbq⟩))
         all_goals (go_wp2_with fail)
         all_goals go_roundw
         all_goals first|exact⟨p+1,by omega,by go_num,slc⟩ |(simp[intOf];omega)
        ·obtain rfl:n=p:=by omega
         have hpp3:¬(n:Int)<(n:Int):=by omega
         go_wp2_with fail
         go_roundw
         case rel=>exact⟨2,by omega,rfl,hbp⟩
         case measure=>simp[intOf]
      ·have e0:((2:Nat):Int)=2:=rfl
       rw[e0]
       clear e0 hj
       obtain⟨r0,r1⟩:=bx2 (h1.bl ((hbX2.next hbZ).next hbj))
       go_wp2_with fail
       clear r0 r1
       go_loopw [82] (λsp wr=>∃p:Nat,p<=n/\sp=.int .i64 (p:Int)/\Bl Z wr) (λsp _=>n-(intOf sp).toNat)
       case atStart=>exact⟨0,by omega,rfl,hbj⟩
       case round=>
        obtain⟨p,hpn,rfl,hbp⟩:=hrel
        obtain⟨wp,rfl⟩:∃wp:World,wp=wr:=⟨_,rfl⟩
        by_cases hpp:p<n
        ·have hpi:(p:Int)<(n:Int):=by omega
         have hpq:p<mq.pts.length:=by rw[hn.out];exact hpp
         obtain⟨s7,A7,n7,c7,B7,m7,d7,t7,C7,i7,e7,D7,j7,f7,⟨y0,y1,y2,y3,y4,y5⟩,hX7,hY7⟩:=zC (qR.bl hp ((hbX2.next hbZ).next hbp)) hpp
         rw[zv hpq]at hX7 hY7
         have hs7:=hS.out.fit.sm p hpq
         have hno:=hS.out.noins k hkq p hpq
         have hc3:=hS.out.fit.smC hkq
         go_upto_region 24 with (fail)
         refine qe (λZ2=>Bl wp Z2/\∃g13,Blk Z2 g13 28 #[.bool s7,.slice A7 n7 c7,.slice B7 m7 d7,.bool t7,.slice C7 i7 e7,.slice D7 j7 f7]/\g13=wp.heap.size) ⟨slc,_,by exact bts,rfl⟩ ?_
         rintro Z2 ⟨hbZ2,g13,h13,hg13⟩
         rw[<-hg13]
         clear y0 y1 y2 y3 y4 y5 hg13
         have hbZZ:=hbp.next hbZ2
         obtain⟨s8,A8,n8,c8,B8,m8,d8,t8,C8,i8,e8,D8,j8,f8,⟨y0,y1,y2,y3,y4,y5⟩,hX8,hY8⟩:YX Z2 ⟨g5,12,none⟩ (tp (c2 mq k)):=zC (qR.bl hFr hbZZ) (k:=2) (by omega)
         obtain⟨s9,A9,n9,c9,B9,m9,d9,t9,C9,i9,e9,D9,j9,f9,⟨z0,z1,z2,z3,z4,z5⟩,hX9,hY9⟩:YX Z2 ⟨g5,0,none⟩ (tp (c0 mq k)):=zC (qR.bl hFr hbZZ) (k:=0) (by omega)
         have hw1:IntKind.i64.wrap (2+1)=3:=by rfl
         have hw2:IntKind.i64.wrap 3=3:=by rfl
         have hw3:Int.tmod 3 3=0:=by rfl
         have hw4:IntKind.i64.wrap 0=0:=by rfl
         have hg5w:g5<Z2.heap.size:=Nat.lt_of_lt_of_le hg5l (Nat.le_trans (hb8Z.next hbZZ).size (Nat.le_refl _))
         have hX7:=hX7.bl hbZ2
         have hY7:=hY7.bl hbZ2
         go_region_held3 (λw'=>(w'.cell? ⟨g13,0,none⟩=some (.bool s7)/\w'.cell? ⟨g13,1,none⟩=some (.slice A7 n7 c7)/\w'.cell? ⟨g13,2,none⟩=some (.slice B7 m7 d7)/\w'.cell? ⟨g13,3,none⟩=some (.bool t7)/\w'.cell? ⟨g13,4,none⟩=some (.slice C7 i7 e7)/\w'.cell? ⟨g13,5,none⟩=some (.slice D7 j7 f7))/\(w'.cell? ⟨g5,12,none⟩=some (.bool s8)/\w'.cell? ⟨g5,13,none⟩=some (.slice A8 n8 c8)/\w'.cell? ⟨g5,14,none⟩=some (.slice B8 m8 d8)/\w'.cell? ⟨g5,15,none⟩=some (.bool t8)/\w'.cell? ⟨g5,16,none⟩=some (.slice C8 i8 e8)/\w'.cell? ⟨g5,17,none⟩=some (.slice D8 j8 f8))/\(w'.cell? ⟨g5,0,none⟩=some (.bool s9)/\w'.cell? ⟨g5,1,none⟩=some (.slice A9 n9 c9)/\w'.cell? ⟨g5,2,none⟩=some (.slice B9 m9 d9)/\w'.cell? ⟨g5,3,none⟩=some (.bool t9)/\w'.cell? ⟨g5,4,none⟩=some (.slice C9 i9 e9)/\w'.cell? ⟨g5,5,none⟩=some (.slice D9 j9 f9))) (first|exact⟨bx6 (T:=28) (h13.bl slc),⟨(Bl.qeV (w:=Z2) (p:=⟨g5,12,none⟩) slc hg5w).trans y0,(Bl.qeV (w:=Z2) (p:=⟨g5,13,none⟩) slc hg5w).trans y1,(Bl.qeV (w:=Z2) (p:=⟨g5,14,none⟩) slc hg5w).trans y2,(Bl.qeV (w:=Z2) (p:=⟨g5,15,none⟩) slc hg5w).trans y3,(Bl.qeV (w:=Z2) (p:=⟨g5,16,none⟩) slc hg5w).trans y4,(Bl.qeV (w:=Z2) (p:=⟨g5,17,none⟩) slc hg5w).trans y5⟩,⟨(Bl.qeV (w:=Z2) (p:=⟨g5,0,none⟩) slc hg5w).trans z0,(Bl.qeV (w:=Z2) (p:=⟨g5,1,none⟩) slc hg5w).trans z1,(Bl.qeV (w:=Z2) (p:=⟨g5,2,none⟩) slc hg5w).trans z2,(Bl.qeV (w:=Z2) (p:=⟨g5,3,none⟩) slc hg5w).trans z3,(Bl.qeV (w:=Z2) (p:=⟨g5,4,none⟩) slc hg5w).trans z4,(Bl.qeV (w:=Z2) (p:=⟨g5,5,none⟩) slc hg5w).trans z5⟩⟩) (first |(go_at_call 215;with_reducible refine(Qq _ (hX7.bl slc) (hY7.bl slc) (hX8.bl slc) (hY8.bl slc) (hX9.bl slc) (hY9.bl slc) hs7 hc3.2.2 hc3.1 hno.2.2).mono ?_;rintro e wq ⟨rfl,hbq⟩))
         all_goals (go_wp2_with fail)
         all_goals go_roundw
         all_goals first|exact⟨p+1,by omega,by go_num,slc⟩ |(simp[intOf];omega)
        ·obtain rfl:n=p:=by omega
         have hpp3:¬(n:Int)<(n:Int):=by omega
         go_wp2_with fail
         go_roundw
         case rel=>exact⟨3,by omega,rfl,hbp⟩
         case measure=>simp[intOf]
      ·have e0:((3:Nat):Int)=3:=rfl
       rw[e0]
       clear e0
       have hbwj:=(hbX2.next hbZ).next hbj
       have hz1:=hAB.hiLe
       have hz2:=hb8.size
       have hz3:=hb9.size
       have hz4:=(hb9Z.next hbj).size
       have h8j:=h8.bl hbj
       have hgl:=h8j.lt
       go_wp2_with (first |(refine Jj rfl (.tmp 100) (.tmp 102) rfl (by rfl) (hABZ.bl hbj) (hF.bl (hb8Z.next hbj)) hz1 hlo 1 (by rfl) (by rw[hlL];omega) w2 hbwj (Nat.le_refl _) ?_;intro va' wA gA gB gd hbA hzA hoA;have h8A:=Blk.mv h8j (hoA g8 (by omega) hgl).1;(obtain⟨z0,z1,z2,z3,z4,z5,z6,z7,z8,z9,z10,z11⟩:=yO h8A);have hkk:=KE (b0:=X.heap.size) (Below.block (hb8Z.next hbj)) (λb h1' h2'=>(hoA b h1' h2').1) hz1 (by omega)) |(refine Jc (x:=bxA (cnQ mq k)) (b0:=X.heap.size) (z:=w8.heap.size) rfl (.tmp 104) (.tmp 106) rfl (by rfl) gA gB gd (λX2 hs2 hk2=>⟨RdV.of (hFu0 X2 (by omega) (hkk X2 hk2)),RdV.of (hFu1 X2 (by omega) (hkk X2 hk2)),RdV.of (hFu2 X2 (by omega) (hkk X2 hk2)),RdV.of (hFu3 X2 (by omega) (hkk X2 hk2))⟩) (by omega) (λb h1' h2'=>(hoA b (by omega) (by omega)).2) hz1 hlo 1 (by rfl) (by rw[hlB];omega) w2 hbA (Nat.le_refl _) ?_;intro vb' wB gAB hbB hzB))
       go_roundw
       case rel=>
        refine⟨k+1,_,_,_,by omega,by go_num,rfl,rfl,?_,hbB.size,hbB⟩
        rw[List.range_succ,List.map_append,List.map_append]
        exact gAB
       case measure=>simp[intOf];omega
  ·obtain rfl:m=k:=by omega
   have hkm3:¬(m:Int)<(m:Int):=by omega
   go_wp2_with fail
   go_ret
   exact⟨rfl,hbW.next hbi⟩
end Go.Proofs.YtjaapemopbbfaaaGreatDoor
