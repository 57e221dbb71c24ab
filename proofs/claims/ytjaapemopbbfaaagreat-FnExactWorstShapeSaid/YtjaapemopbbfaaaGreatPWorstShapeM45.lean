/- Lemmas. -/
import Derived.Test.YtjaapemopbbfaaaGreatRows
import Derived.Test.YtjaapemopbbfaaaGreatPWorstShapeM37
import Derived.Test.YtjaapemopbbfaaaGreatPWorstShapeM43
import Derived.Test.YtjaapemopbbfaaaGreatPWorstShapeM42
import Derived.Test.YtjaapemopbbfaaaGreatPWorstShapeM44
import Derived.Test.YtjaapemopbbfaaaGreatPWorstShapeM32
import Derived.OrdersHeld
import Derived.Deep.RegionHeld
import Derived.Deep.Cut
import Derived.Deep.DeepCutAuto
namespace Go.Proofs.YtjaapemopbbfaaaGreat
section
open Go.RowKit

theorem Blk.mv {w W:World}{g:Nat}{T:TypeId}{cs:Array Value}(h:Blk w g T cs) (e:W.heap[g]?=w.heap[g]?):Blk W g T cs:=e.trans h
theorem keep_from {b0 lo:Nat}{w8 wj wA:World}(h1:∀ b,b < w8.heap.size→wj.heap[b]?=w8.heap[b]?) (h2:∀ b,lo≤b→b < wj.heap.size→wA.heap[b]?=wj.heap[b]?) (h3:lo≤b0) (h4:w8.heap.size≤wj.heap.size) (X2:World) (hk:∀ b,b0≤b→b < w8.heap.size→X2.heap[b]?=wA.heap[b]?):∀ b,b0≤b→b < w8.heap.size→X2.heap[b]?=w8.heap[b]?:=fun b ha hb =>(hk b ha hb).trans ((h2 b (by omega) (by omega)).trans (h1 b hb))
theorem RdV.of {w:World}{s:Bool}{A:Option Addr}{n c:Nat}{B:Option Addr}{m d:Nat}{r:RatD}(h:RdR w s A n c B m d r):RdV w (.bool s) (.slice A n c) (.slice B m d) r:=⟨_,_,_,_,_,_,_,rfl,rfl,rfl,h⟩

set_option maxRecDepth 100000 in
set_option maxHeartbeats 32000000 in
theorem sIsMesh_m (w:World) {gp n cp gt m ct:Nat}{mq:MeQ}(hp:RdPS w (some ⟨gp,0,none⟩) n cp (mq.pts.map tp)) (ht:RdTS w (some ⟨gt,0,none⟩) m ct mq.tris) (hps:PtsS (mq.pts.map tp) mq.tris m n) (hn3:3≤n) (hn40:n≤40) (hm1:1≤m) (hm48:m≤48) (hsz0:szL szP (mq.pts.map tp)≤1048576) :
    Calls Tryz.prog 15 #[.agg #[.slice (some ⟨gp,0,none⟩) n cp,.slice (some ⟨gt,0,none⟩) m ct]] w fun e w'=> YRes (MeS mq) w e w':=by
  have hn:=Lib.hid (show mq.pts.length=n by rw[← hp.len,List.length_map])
  have hm:=Lib.hid ht.len
  have hpsH:=Lib.hid hps
  have hft:=Lib.hid (usL_pts (by rw[hm.out];exact hps) hn.out).1
  have hfin := Lib.hid (fun (h : SpS mq m) => (by
    have h2:=hpsH.out
    rw[← hm.out] at h h2
    rw[← hn.out] at h2
    exact meS_of (by rw[hn.out];exact hn3) (by rw[hn.out];exact hn40) (by rw[hm.out];exact hm1) (by rw[hm.out];exact hm48) h2 h:MeS mq))
  have hcp:=hp.cap
  have hsz:=Lib.hid hsz0
  clear hps hsz0
  go_enter Tryz.func15,Tryz.ntmps15
  go_upto_region 1 with (fail)
  refine wp_gen (fun W=> Bl w W∧∃ g1,Blk W g1 36 #[.slice (some ⟨gp,0,none⟩) n cp,.slice (some ⟨gt,0,none⟩) m ct]∧g1=w.heap.size) ⟨slc,_,by exact bts,rfl⟩ ?_
  rintro W ⟨hbW,g1,h1,hg1⟩
  rw[← hg1]
  clear hg1
  have hp:=RdPS.bl hp hbW
  have ht:=RdTS.bl ht hbW
  obtain⟨r0,r1⟩:=bx2 h1
  go_wp2_with fail
  refine(l01In_yes _ (a:=(m:Int)) (lo:=1) (hi:=48) (by omega) (by omega)).mono ?_
  rintro e w1 ⟨rfl,hq1⟩
  have hb1:Bl W w1:=by obtain⟨q1,rfl⟩:=hq1;exact(Bl.refl _).drewN q1
  clear hq1
  obtain⟨r0,r1⟩:=bx2 (h1.bl hb1)
  go_wp2_with fail
  refine(l07Points_q _ (RdPS.bl hp hb1) (RdTS.bl ht hb1) hm48).mono ?_
  rintro e w2 ⟨bp,rfl,hbp,hb2⟩
  have hbpt:=hbp.2 ⟨hpsH.out,hn3,hn40⟩
  subst hbpt
  clear hbp
  have hb12:=hb1.next hb2
  have h1:=h1.bl hb12
  have hp:=RdPS.bl hp hb12
  have ht:=RdTS.bl ht hb12
  have hbW:=hbW.next hb12
  clear r0 r1 hb1 hb2 hb12
  go_upto_region 5 with (fail)
  refine wp_gen (fun W3=> Bl w2 W3∧∃ va vb hi,AB w2.heap.size hi W3 va vb [] []∧va=.slice (some ⟨w2.heap.size,0,none⟩) 0 0∧vb=.slice (some ⟨w2.heap.size+1,0,none⟩) 0 0∧w2.heap.size≤hi) ⟨by exact slc,_,_,_,AB.start w2 (Nat.le_refl _),rfl,rfl,by omega⟩ ?_
  rintro W3 ⟨hb0,va0,vb0,hi0,hX,hva,hvb,hl0⟩
  rw[← hva,← hvb]
  clear hva hvb
  obtain⟨r0,r1⟩:=bx2 (h1.bl hb0)
  go_wp2_with fail
  clear r0 r1
  go_loopw [3,4,29] (fun sa sb v wr=> ∃ (k hi:Nat) (va vb:Value),k≤m∧v=.int .i64 (k:Int)∧va=sa∧vb=sb∧AB w2.heap.size hi wr va vb ((List.range k).map fun j =>(cW mq j).map tp) ((List.range k).map fun j=> bxA (cW mq j))∧w2.heap.size≤hi∧Hid (SpS mq k)∧Bl w2 wr) (fun _ _ v _=> m - (intOf v).toNat)
  case atStart=> exact⟨0,hi0,va0,vb0,by omega,rfl,rfl,rfl,hX,hl0,Lib.hid (fun q hq=> by omega),hb0⟩
  case round =>
    clear hX hb0 hl0
    obtain⟨k,hi,va,vb,hk,rfl,rfl,rfl,hAB,hlo,hSp,hbi⟩:=hrel
    obtain⟨wk,rfl⟩:∃ wk:World,wk=wr:=⟨_,rfl⟩
    by_cases hkm:k < m
    · have hki:(k:Int) < (m:Int):=by omega
      have hkq:k < mq.tris.length:=by rw[hm.out];exact hkm
      obtain⟨y0,y1,y2,y3,y4⟩:=trs_lit (RdTS.bl ht hbi) hkm
      have hpc:=Lib.hid (fun (h:MeS mq)=> h.spS hkq)
      have hst:=Lib.hid (fun (h1:TriOkS (sgI mq) mq.pts.length (pix mq.tris k)) (h2:FarTo mq k k) (h3:NoeTo mq k 3)=> hSp.out.step h1 h2 h3)
      have hpx:=Lib.hid (fun (h:TrIx mq.pts.length (pix mq.tris k))=> prop_W hft.out h)
      have hcx:=Lib.hid (fun (h:TrIx mq.pts.length (pix mq.tris k))=> cornL_W h hkq)
      have hcn:=Lib.hid (fun (h:¬ TrIx mq.pts.length (pix mq.tris k))=> cornL_nil h)
      have hcf:=Lib.hid (fun (h:TrIx mq.pts.length (pix mq.tris k))=> cW_ft hft.out h)
      have hpv:=Lib.hid (fun (i:Nat) (hi:i < k) =>(hSp.out i hi).1)
      clear hSp
      obtain⟨t,ht_⟩:∃ t,pix mq.tris k=t:=⟨_,rfl⟩
      rw[ht_] at y0 y1 y2 y3 y4 hpc hst hpx hcx hcn hcf
      clear ht_
      go_upto_region 8 with (fail)
      refine wp_gen (fun X=> Bl wk X∧∃ g6,Blk X g6 69 #[.int .i64 t.a,.int .i64 t.b,.int .i64 t.c,.int .i64 t.region,.int .i64 t.level]∧g6=wk.heap.size) ⟨slc,_,by exact bts,rfl⟩ ?_
      rintro X ⟨hbX,g6,h6,hg6⟩
      rw[← hg6]
      clear hg6 y0 y1 y2 y3 y4
      have hbX2:=hbi.next hbX
      have hAB:=hAB.bl hbX
      obtain⟨r0,r1⟩:=bx2 (h1.bl hbX2)
      go_wp2_with fail
      refine(sCorners_fr _ (x:=⟨mq.pts.map tp,mq.tris⟩) (k:Int) (RdPS.bl hp hbX2) (RdTS.bl ht hbX2) hsz.out).mono ?_
      rintro e w5 ⟨A5,n5,c5,rfl,hF,hb5⟩
      by_cases hix:TrIx mq.pts.length t
      case neg =>
        rw[hcn.out hix] at hF
        have hn5:=hF.rd.len
        have hn5:n5=0:=by rw[← hn5];rfl
        have hbd:=Lib.hid (show ¬ MeS mq from fun h=> hix (hpc.out h).1.1)
        clear r0 r1 hpc hst hpx hcx hcn hcf hix
        go_wp2_with fail
        refine(sIsProper_len _ (by omega)).mono ?_
        rintro e w6 ⟨rfl,hb6⟩
        go_wp2_with fail
        go_ret
        exact yres_false hbd.out (hbW.next ((hbX2.next hb5).next hb6))
      rw[hcx.out hix] at hF
      have hn5:=hF.rd.len
      rw[List.length_map] at hn5
      obtain rfl:n5=3:=by rw[← hn5];rfl
      have hpx:=Lib.hid (hpx.out hix)
      have hS3:=Lib.hid (hcf.out hix)
      have hixH:=Lib.hid hix
      clear hcn hcx hcf hix
      obtain⟨g5,e5,hg5,hg5a⟩:∃ g,A5=some ⟨g,0,none⟩∧X.heap.size≤g∧g < w5.heap.size:=by
        rcases hF.1 with h | h
        · omega
        · exact h
      subst e5
      clear hn5 r0 r1
      go_wp2_with fail
      refine(sIsProper_any _ hF.rd).mono ?_
      rintro e w6 ⟨rfl,hb6⟩
      obtain⟨pv,hpvq⟩:∃ x,propB ((cW mq k).map tp)=x:=⟨_,rfl⟩
      rw[hpvq] at hpx ⊢
      have hpk:=Lib.hid hpvq
      clear hpvq
      cases pv
      · have hbd:=Lib.hid (show ¬ MeS mq from fun h=> Bool.noConfusion (hpx.out.2 (hpc.out h).1.2.2))
        clear hpx hpc hst
        go_wp2_with fail
        go_ret
        exact yres_false hbd.out (hbW.next ((hbX2.next hb5).next hb6))
      have hpos:=Lib.hid (hpx.out.1 rfl)
      clear hpx
      obtain⟨z0,z1,z2,z3,z4⟩:=bx5 (h6.bl (hb5.next hb6))
      go_wp2_with fail
      have hb65:=hb5.next hb6
      by_cases c0:0≤t.region∧t.region≤2
      case neg =>
        have hbd:=Lib.hid (show ¬ MeS mq from fun h=> c0 (hpc.out h).1.2.1.1)
        have c0:=Lib.hid c0;rename_i h_;clear h_
        clear hpc hst hpos
        refine(l01In_no _ (a:=t.region) (lo:=0) (hi:=2) c0.out).mono ?_
        rintro e w7 ⟨rfl,hq7⟩
        obtain⟨q7,rfl⟩:=hq7
        go_wp2_with fail
        go_ret
        exact yres_false hbd.out (Bl.drewN (hbW.next ((hbX2.next hb5).next hb6)) q7)
      refine(l01In_yes _ (a:=t.region) (lo:=0) (hi:=2) c0.1 c0.2).mono ?_
      have c0:=Lib.hid c0;rename_i h_;clear h_
      rintro e w7 ⟨rfl,hq7⟩
      have hb67:Bl w6 w7:=by obtain⟨q7,rfl⟩:=hq7;exact(Bl.refl _).drewN q7
      clear hq7 z0 z1 z2 z3 z4
      obtain⟨z0,z1,z2,z3,z4⟩:=bx5 (h6.bl (hb65.next hb67))
      go_wp2_with fail
      by_cases c1:0≤t.level∧t.level≤60
      case neg =>
        have hbd:=Lib.hid (show ¬ MeS mq from fun h=> c1 (hpc.out h).1.2.1.2)
        have c1:=Lib.hid c1;rename_i h_;clear h_
        clear hpc hst hpos
        refine(l01In_no _ (a:=t.level) (lo:=0) (hi:=60) c1.out).mono ?_
        rintro e w7 ⟨rfl,hq7⟩
        obtain⟨q7,rfl⟩:=hq7
        go_wp2_with fail
        go_ret
        exact yres_false hbd.out (Bl.drewN (hbW.next (hbX2.next (hb65.next hb67))) q7)
      refine(l01In_yes _ (a:=t.level) (lo:=0) (hi:=60) c1.1 c1.2).mono ?_
      have c1:=Lib.hid c1;rename_i h_;clear h_
      rintro e w8 ⟨rfl,hq8⟩
      have hb8:Bl w5 w8:=by obtain⟨q8,rfl⟩:=hq8;exact(hb6.next hb67).drewN q8
      clear hq8 z0 z1 z2 z3 z4 hb6 hb67 hb65
      have hst:=Lib.hid (hst.out ⟨hixH.out,⟨c0.out,c1.out⟩,hpos.out⟩)
      clear c0 c1 hixH
      have hF:=hF.bl hb8
      have hg5l:g5 < w8.heap.size:=Nat.lt_of_lt_of_le hg5a hb8.size
      have hb8:=hb5.next hb8
      clear hb5
      go_wp2_with fail
      refine(l07BoxOf_w (FrF X.heap.size w8) _ (l:=cW mq k) hF.phi (by omega) hS3.out).mono ?_
      rintro e w9 ⟨u0,u1,u2,u3,u4,u5,u6,u7,u8,u9,u10,u11,rfl,hbx,hb9⟩
      obtain⟨hx0,hx1,hx2,hx3⟩:=hbx
      obtain⟨su0,Au0,nu0,cu0,Bu0,mu0,du0,e0,e1,e2,hRu0,hFu0⟩:=hx0
      subst e0 e1 e2
      obtain⟨su1,Au1,nu1,cu1,Bu1,mu1,du1,e0,e1,e2,hRu1,hFu1⟩:=hx1
      subst e0 e1 e2
      obtain⟨su2,Au2,nu2,cu2,Bu2,mu2,du2,e0,e1,e2,hRu2,hFu2⟩:=hx2
      subst e0 e1 e2
      obtain⟨su3,Au3,nu3,cu3,Bu3,mu3,du3,e0,e1,e2,hRu3,hFu3⟩:=hx3
      subst e0 e1 e2
      go_upto_region 12 with (fail)
      refine wp_gen (fun Z=> Bl w9 Z∧∃ g8,Blk Z g8 72 #[(.bool su0),(.slice Au0 nu0 cu0),(.slice Bu0 mu0 du0),(.bool su1),(.slice Au1 nu1 cu1),(.slice Bu1 mu1 du1),(.bool su2),(.slice Au2 nu2 cu2),(.slice Bu2 mu2 du2),(.bool su3),(.slice Au3 nu3 cu3),(.slice Bu3 mu3 du3)]∧g8=w9.heap.size) ⟨slc,_,by exact bts,rfl⟩ ?_
      rintro Z ⟨hb9Z,g8,h8,hg8⟩
      rw[← hg8]
      have hg8w:w9.heap.size≤g8:=by rw[hg8];exact Nat.le_refl _
      clear hg8
      have hb8Z:=hb9.next hb9Z
      have hbZ:=hb8.next hb8Z
      have hABZ:=hAB.bl hbZ
      have hlL:((List.range k).map fun j =>(cW mq j).map tp).length=k:=by simp
      have hlB:((List.range k).map fun j=> bxA (cW mq j)).length=k:=by simp
      obtain⟨Aa,ca,hva,hRa,ha0⟩:=RowA.rd hABZ.1 (by omega)
      obtain⟨Ab,cb,hvb,hRb,hb0⟩:=RowB.rd hABZ.2.1 (by omega)
      rw[hlL] at hva hRa ha0
      rw[hlB] at hvb hRb hb0
      subst hva hvb
      have hRa:=Lib.hid hRa;have hRb:=Lib.hid hRb
      have hFr:=(hF.bl hb8Z).rd
      have hRu0:=hRu0.bl hb9Z
      have hRu1:=hRu1.bl hb9Z
      have hRu2:=hRu2.bl hb9Z
      have hRu3:=hRu3.bl hb9Z
      have hsmk:=Lib.hid (show BxSm (bxA (cW mq k)) from bxTo_sm hS3.out (by simp[cW]) 3 (by simp[cW]))
      go_wp2_with fail
      go_loopw [56] (fun si wr=> ∃ i:Nat,i≤k∧si=.int .i64 (i:Int)∧Hid (FarTo mq k i)∧Bl Z wr) (fun si _=> k - (intOf si).toNat)
      case atStart=> exact⟨0,by omega,rfl,Lib.hid (fun j hj=> by omega),Bl.refl _⟩
      case round =>
        obtain⟨i,hi,rfl,hfr,hbi2⟩:=hrel
        obtain⟨wi,rfl⟩:∃ wi:World,wi=wr:=⟨_,rfl⟩
        by_cases hik:i < k
        · have hii:(i:Int) < (k:Int):=by omega
          obtain⟨gA,rfl⟩:∃ g,Aa=some ⟨g,0,none⟩:=by rcases ha0 with h | h;omega;exact h
          obtain⟨gB,rfl⟩:∃ g,Ab=some ⟨g,0,none⟩:=by rcases hb0 with h | h;omega;exact h
          obtain⟨⟨gl,nl,cl,ya,hRl⟩,hgA⟩:=ps_lit (RdS.bl (fun h hp hb=> h.bl hp hb) hRa.out hbi2) hik
          obtain⟨⟨v0,v1,v2,v3,v4,v5,v6,v7,v8,v9,v10,v11,⟨y0,y1,y2,y3,y4,y5,y6,y7,y8,y9,y10,y11⟩,hr0,hr1,hr2,hr3⟩,hgB⟩:=bx_lit (RdS.bl (fun h hp hb=> h.bl hp hb) hRb.out hbi2) hik
          rw[show pix ((List.range k).map fun j =>(cW mq j).map tp) i=(cW mq i).map tp by simp[pix,hik]] at hRl
          rw[show pix ((List.range k).map fun j=> bxA (cW mq j)) i=bxA (cW mq i) by simp[pix,hik]] at hr0 hr1 hr2 hr3
          obtain⟨sv0,Av0,nv0,cv0,Bv0,mv0,dv0,e0,e1,e2,hRv0⟩:=hr0
          subst e0 e1 e2
          obtain⟨sv1,Av1,nv1,cv1,Bv1,mv1,dv1,e0,e1,e2,hRv1⟩:=hr1
          subst e0 e1 e2
          obtain⟨sv2,Av2,nv2,cv2,Bv2,mv2,dv2,e0,e1,e2,hRv2⟩:=hr2
          subst e0 e1 e2
          obtain⟨sv3,Av3,nv3,cv3,Bv3,mv3,dv3,e0,e1,e2,hRv3⟩:=hr3
          subst e0 e1 e2
          have hxi:=hpv.out i hik
          have hsmi:=Lib.hid (show BxSm (bxA (cW mq i)) from bxTo_sm (cW_ft hft.out hxi.1) (by simp[cW]) 3 (by simp[cW]))
          have hpi:=Lib.hid ((prop_W hft.out hxi.1).2 hxi.2.2)
          have hoi:=Lib.hid (ov_W hpk.out hpi.out)
          have hfs:=Lib.hid (fun h=> hfr.out.step h)
          have hfb0:=Lib.hid (fun (h:MeS mq) =>(hpc.out h).2.1 i hik)
          clear hfr hxi
          go_wp2_with fail
          obtain⟨fb,hfb⟩:∃ fb,farQ (bxA (cW mq k)) (bxA (cW mq i))=fb:=⟨_,rfl⟩
          have hfar:=Lib.hid hfb
          clear hfb
          have hfF:=Lib.hid (show FarS mq k i=fb from hfar.out)
          cases fb
          · obtain⟨bo,hbo⟩:∃ x,ovB ((cW mq k).map tp) ((cW mq i).map tp)=x:=⟨_,rfl⟩
            rw[hbo] at hoi
            have hov:=Lib.hid hbo
            clear hbo
            cases bo
            · have hfn:=Lib.hid (hfs.out (.inr (hoi.out.1 rfl)))
              clear hfs hoi hfb0 hfF
              go_region_held3 (fun w' =>(w'.cell? ⟨g8,0,none⟩=some (.bool su0)∧w'.cell? ⟨g8,1,none⟩=some (.slice Au0 nu0 cu0)∧w'.cell? ⟨g8,2,none⟩=some (.slice Bu0 mu0 du0)∧w'.cell? ⟨g8,3,none⟩=some (.bool su1)∧w'.cell? ⟨g8,4,none⟩=some (.slice Au1 nu1 cu1)∧w'.cell? ⟨g8,5,none⟩=some (.slice Bu1 mu1 du1)∧w'.cell? ⟨g8,6,none⟩=some (.bool su2)∧w'.cell? ⟨g8,7,none⟩=some (.slice Au2 nu2 cu2)∧w'.cell? ⟨g8,8,none⟩=some (.slice Bu2 mu2 du2)∧w'.cell? ⟨g8,9,none⟩=some (.bool su3)∧w'.cell? ⟨g8,10,none⟩=some (.slice Au3 nu3 cu3)∧w'.cell? ⟨g8,11,none⟩=some (.slice Bu3 mu3 du3))∧(w'.cell? ⟨gB,i * 12,none⟩=some (.bool sv0)∧w'.cell? ⟨gB,i * 12+1,none⟩=some (.slice Av0 nv0 cv0)∧w'.cell? ⟨gB,i * 12+2,none⟩=some (.slice Bv0 mv0 dv0)∧w'.cell? ⟨gB,i * 12+3,none⟩=some (.bool sv1)∧w'.cell? ⟨gB,i * 12+4,none⟩=some (.slice Av1 nv1 cv1)∧w'.cell? ⟨gB,i * 12+5,none⟩=some (.slice Bv1 mv1 dv1)∧w'.cell? ⟨gB,i * 12+6,none⟩=some (.bool sv2)∧w'.cell? ⟨gB,i * 12+7,none⟩=some (.slice Av2 nv2 cv2)∧w'.cell? ⟨gB,i * 12+8,none⟩=some (.slice Bv2 mv2 dv2)∧w'.cell? ⟨gB,i * 12+9,none⟩=some (.bool sv3)∧w'.cell? ⟨gB,i * 12+10,none⟩=some (.slice Av3 nv3 cv3)∧w'.cell? ⟨gB,i * 12+11,none⟩=some (.slice Bv3 mv3 dv3))) (first | exact⟨bx12 (T:=72) (h8.bl slc),⟨(Bl.cellOf (w:=wi) (p:=⟨gB,i * 12,none⟩) slc hgB).trans y0,(Bl.cellOf (w:=wi) (p:=⟨gB,i * 12+1,none⟩) slc hgB).trans y1,(Bl.cellOf (w:=wi) (p:=⟨gB,i * 12+2,none⟩) slc hgB).trans y2,(Bl.cellOf (w:=wi) (p:=⟨gB,i * 12+3,none⟩) slc hgB).trans y3,(Bl.cellOf (w:=wi) (p:=⟨gB,i * 12+4,none⟩) slc hgB).trans y4,(Bl.cellOf (w:=wi) (p:=⟨gB,i * 12+5,none⟩) slc hgB).trans y5,(Bl.cellOf (w:=wi) (p:=⟨gB,i * 12+6,none⟩) slc hgB).trans y6,(Bl.cellOf (w:=wi) (p:=⟨gB,i * 12+7,none⟩) slc hgB).trans y7,(Bl.cellOf (w:=wi) (p:=⟨gB,i * 12+8,none⟩) slc hgB).trans y8,(Bl.cellOf (w:=wi) (p:=⟨gB,i * 12+9,none⟩) slc hgB).trans y9,(Bl.cellOf (w:=wi) (p:=⟨gB,i * 12+10,none⟩) slc hgB).trans y10,(Bl.cellOf (w:=wi) (p:=⟨gB,i * 12+11,none⟩) slc hgB).trans y11⟩⟩) (first |(go_at_call 40;with_reducible refine(l07Far_yes _ ⟨RdV.of (hRu0.bl slc),RdV.of (hRu1.bl slc),RdV.of (hRu2.bl slc),RdV.of (hRu3.bl slc)⟩ ⟨RdV.of (hRv0.bl slc),RdV.of (hRv1.bl slc),RdV.of (hRv2.bl slc),RdV.of (hRv3.bl slc)⟩ hsmk.out hsmi.out).mono ?_;rw[hfar.out];rintro e wf ⟨rfl,hbf⟩) |(go_at_call 41;with_reducible refine(sOverlap_yes _ (RdPS.bl hFr slc) (RdPS.bl hRl slc) hpk.out hpi.out).mono ?_;rw[hov.out];rintro e wo ⟨rfl,hbo⟩))
              all_goals (go_wp2_with fail)
              all_goals go_roundw
              all_goals first | exact⟨i+1,by omega,by go_num,hfn,slc⟩ |(simp[intOf];omega)
            · have hbd:=Lib.hid (show ¬ MeS mq from fun h=> by
                rcases hfb0.out h with h2 | h2
                · exact Bool.noConfusion (hfF.out.symm.trans h2)
                · exact Bool.noConfusion (hoi.out.2 h2))
              clear hfs hoi hfb0 hfF hpc hst
              go_region_held3 (fun w' =>(w'.cell? ⟨g8,0,none⟩=some (.bool su0)∧w'.cell? ⟨g8,1,none⟩=some (.slice Au0 nu0 cu0)∧w'.cell? ⟨g8,2,none⟩=some (.slice Bu0 mu0 du0)∧w'.cell? ⟨g8,3,none⟩=some (.bool su1)∧w'.cell? ⟨g8,4,none⟩=some (.slice Au1 nu1 cu1)∧w'.cell? ⟨g8,5,none⟩=some (.slice Bu1 mu1 du1)∧w'.cell? ⟨g8,6,none⟩=some (.bool su2)∧w'.cell? ⟨g8,7,none⟩=some (.slice Au2 nu2 cu2)∧w'.cell? ⟨g8,8,none⟩=some (.slice Bu2 mu2 du2)∧w'.cell? ⟨g8,9,none⟩=some (.bool su3)∧w'.cell? ⟨g8,10,none⟩=some (.slice Au3 nu3 cu3)∧w'.cell? ⟨g8,11,none⟩=some (.slice Bu3 mu3 du3))∧(w'.cell? ⟨gB,i * 12,none⟩=some (.bool sv0)∧w'.cell? ⟨gB,i * 12+1,none⟩=some (.slice Av0 nv0 cv0)∧w'.cell? ⟨gB,i * 12+2,none⟩=some (.slice Bv0 mv0 dv0)∧w'.cell? ⟨gB,i * 12+3,none⟩=some (.bool sv1)∧w'.cell? ⟨gB,i * 12+4,none⟩=some (.slice Av1 nv1 cv1)∧w'.cell? ⟨gB,i * 12+5,none⟩=some (.slice Bv1 mv1 dv1)∧w'.cell? ⟨gB,i * 12+6,none⟩=some (.bool sv2)∧w'.cell? ⟨gB,i * 12+7,none⟩=some (.slice Av2 nv2 cv2)∧w'.cell? ⟨gB,i * 12+8,none⟩=some (.slice Bv2 mv2 dv2)∧w'.cell? ⟨gB,i * 12+9,none⟩=some (.bool sv3)∧w'.cell? ⟨gB,i * 12+10,none⟩=some (.slice Av3 nv3 cv3)∧w'.cell? ⟨gB,i * 12+11,none⟩=some (.slice Bv3 mv3 dv3))) (first | exact⟨bx12 (T:=72) (h8.bl slc),⟨(Bl.cellOf (w:=wi) (p:=⟨gB,i * 12,none⟩) slc hgB).trans y0,(Bl.cellOf (w:=wi) (p:=⟨gB,i * 12+1,none⟩) slc hgB).trans y1,(Bl.cellOf (w:=wi) (p:=⟨gB,i * 12+2,none⟩) slc hgB).trans y2,(Bl.cellOf (w:=wi) (p:=⟨gB,i * 12+3,none⟩) slc hgB).trans y3,(Bl.cellOf (w:=wi) (p:=⟨gB,i * 12+4,none⟩) slc hgB).trans y4,(Bl.cellOf (w:=wi) (p:=⟨gB,i * 12+5,none⟩) slc hgB).trans y5,(Bl.cellOf (w:=wi) (p:=⟨gB,i * 12+6,none⟩) slc hgB).trans y6,(Bl.cellOf (w:=wi) (p:=⟨gB,i * 12+7,none⟩) slc hgB).trans y7,(Bl.cellOf (w:=wi) (p:=⟨gB,i * 12+8,none⟩) slc hgB).trans y8,(Bl.cellOf (w:=wi) (p:=⟨gB,i * 12+9,none⟩) slc hgB).trans y9,(Bl.cellOf (w:=wi) (p:=⟨gB,i * 12+10,none⟩) slc hgB).trans y10,(Bl.cellOf (w:=wi) (p:=⟨gB,i * 12+11,none⟩) slc hgB).trans y11⟩⟩) (first |(go_at_call 40;with_reducible refine(l07Far_yes _ ⟨RdV.of (hRu0.bl slc),RdV.of (hRu1.bl slc),RdV.of (hRu2.bl slc),RdV.of (hRu3.bl slc)⟩ ⟨RdV.of (hRv0.bl slc),RdV.of (hRv1.bl slc),RdV.of (hRv2.bl slc),RdV.of (hRv3.bl slc)⟩ hsmk.out hsmi.out).mono ?_;rw[hfar.out];rintro e wf ⟨rfl,hbf⟩) |(go_at_call 41;with_reducible refine(sOverlap_yes _ (RdPS.bl hFr slc) (RdPS.bl hRl slc) hpk.out hpi.out).mono ?_;rw[hov.out];rintro e wo ⟨rfl,hbo⟩))
              all_goals (go_wp2_with fail)
              all_goals go_ret
              all_goals exact yres_false hbd.out (hbW.next ((hbX2.next hbZ).next slc))
          · have hfn:=Lib.hid (hfs.out (.inl hfF.out))
            clear hfs hoi hfb0 hfF
            refine wp_region_held_drew (S:=fun w' =>(w'.cell? ⟨g8,0,none⟩=some (.bool su0)∧w'.cell? ⟨g8,1,none⟩=some (.slice Au0 nu0 cu0)∧w'.cell? ⟨g8,2,none⟩=some (.slice Bu0 mu0 du0)∧w'.cell? ⟨g8,3,none⟩=some (.bool su1)∧w'.cell? ⟨g8,4,none⟩=some (.slice Au1 nu1 cu1)∧w'.cell? ⟨g8,5,none⟩=some (.slice Bu1 mu1 du1)∧w'.cell? ⟨g8,6,none⟩=some (.bool su2)∧w'.cell? ⟨g8,7,none⟩=some (.slice Au2 nu2 cu2)∧w'.cell? ⟨g8,8,none⟩=some (.slice Bu2 mu2 du2)∧w'.cell? ⟨g8,9,none⟩=some (.bool su3)∧w'.cell? ⟨g8,10,none⟩=some (.slice Au3 nu3 cu3)∧w'.cell? ⟨g8,11,none⟩=some (.slice Bu3 mu3 du3))∧(w'.cell? ⟨gB,i * 12,none⟩=some (.bool sv0)∧w'.cell? ⟨gB,i * 12+1,none⟩=some (.slice Av0 nv0 cv0)∧w'.cell? ⟨gB,i * 12+2,none⟩=some (.slice Bv0 mv0 dv0)∧w'.cell? ⟨gB,i * 12+3,none⟩=some (.bool sv1)∧w'.cell? ⟨gB,i * 12+4,none⟩=some (.slice Av1 nv1 cv1)∧w'.cell? ⟨gB,i * 12+5,none⟩=some (.slice Bv1 mv1 dv1)∧w'.cell? ⟨gB,i * 12+6,none⟩=some (.bool sv2)∧w'.cell? ⟨gB,i * 12+7,none⟩=some (.slice Av2 nv2 cv2)∧w'.cell? ⟨gB,i * 12+8,none⟩=some (.slice Bv2 mv2 dv2)∧w'.cell? ⟨gB,i * 12+9,none⟩=some (.bool sv3)∧w'.cell? ⟨gB,i * 12+10,none⟩=some (.slice Av3 nv3 cv3)∧w'.cell? ⟨gB,i * 12+11,none⟩=some (.slice Bv3 mv3 dv3))) (by kernel_rfl) (by first | exact⟨bx12 (T:=72) (h8.bl slc),⟨(Bl.cellOf (w:=wi) (p:=⟨gB,i * 12,none⟩) slc hgB).trans y0,(Bl.cellOf (w:=wi) (p:=⟨gB,i * 12+1,none⟩) slc hgB).trans y1,(Bl.cellOf (w:=wi) (p:=⟨gB,i * 12+2,none⟩) slc hgB).trans y2,(Bl.cellOf (w:=wi) (p:=⟨gB,i * 12+3,none⟩) slc hgB).trans y3,(Bl.cellOf (w:=wi) (p:=⟨gB,i * 12+4,none⟩) slc hgB).trans y4,(Bl.cellOf (w:=wi) (p:=⟨gB,i * 12+5,none⟩) slc hgB).trans y5,(Bl.cellOf (w:=wi) (p:=⟨gB,i * 12+6,none⟩) slc hgB).trans y6,(Bl.cellOf (w:=wi) (p:=⟨gB,i * 12+7,none⟩) slc hgB).trans y7,(Bl.cellOf (w:=wi) (p:=⟨gB,i * 12+8,none⟩) slc hgB).trans y8,(Bl.cellOf (w:=wi) (p:=⟨gB,i * 12+9,none⟩) slc hgB).trans y9,(Bl.cellOf (w:=wi) (p:=⟨gB,i * 12+10,none⟩) slc hgB).trans y10,(Bl.cellOf (w:=wi) (p:=⟨gB,i * 12+11,none⟩) slc hgB).trans y11⟩⟩) (fun hHeld=> ?_)
            refine wpAnyH_take (i:=0) (oi:=_) (v:=?_) (fuel:=11) rfl (by kernel_rfl) (by kernel_rfl) (by kernel_rfl) (fun _ _ _ h=> h) (Or.inl ⟨by rfl,?_⟩) hHeld ?_
            rotate_left 1
            · (intro w' hSw;(try dsimp only at hSw);go_simp <;> with_reducible rfl)
            simp only[Act.put,List.setIfInBounds_toArray]
            refine wpAnyH_take (i:=1) (oi:=_) (v:=?_) (fuel:=10) rfl (by kernel_rfl) (by kernel_rfl) (by kernel_rfl) (fun _ _ _ h=> h) (Or.inl ⟨by rfl,?_⟩) hHeld ?_
            rotate_left 1
            · (intro w' hSw;(try dsimp only at hSw);go_simp <;> with_reducible rfl)
            simp only[Act.put]
            refine wpAnyH_take (i:=2) (oi:=_) (v:=?_) (fuel:=9) rfl (by kernel_rfl) (by kernel_rfl) (by kernel_rfl) (fun _ _ _ h=> h) (Or.inl ⟨by rfl,?_⟩) hHeld ?_
            rotate_left 1
            · (intro w' hSw;(try dsimp only at hSw);go_simp <;> with_reducible rfl)
            simp only[Act.put]
            refine wpAnyH_take (i:=3) (oi:=_) (v:=?_) (fuel:=8) rfl (by kernel_rfl) (by kernel_rfl) (by kernel_rfl) (fun _ _ _ h=> h) (Or.inl ⟨by rfl,?_⟩) hHeld ?_
            rotate_left 1
            · (intro w' hSw;(try dsimp only at hSw);go_simp <;> with_reducible rfl)
            simp only[Act.put]
            refine wpAnyH_take (i:=4) (oi:=_) (v:=?_) (fuel:=7) rfl (by kernel_rfl) (by kernel_rfl) (by kernel_rfl) (fun _ _ _ h=> h) (Or.inl ⟨by rfl,?_⟩) hHeld ?_
            rotate_left 1
            · (intro w' hSw;(try dsimp only at hSw);go_simp <;> with_reducible rfl)
            simp only[Act.put]
            refine wpAnyH_ready (fuel:=6) (rs:=[5]) (by kernel_rfl) (by simp) ?_
            refine AllReadyH.cons (o:=_) rfl (fun K hK=> ?_) AllReadyH.nil
            go_simp
            with_reducible refine(l07Far_yes _ ⟨RdV.of (hRu0.bl slc),RdV.of (hRu1.bl slc),RdV.of (hRu2.bl slc),RdV.of (hRu3.bl slc)⟩ ⟨RdV.of (hRv0.bl slc),RdV.of (hRv1.bl slc),RdV.of (hRv2.bl slc),RdV.of (hRv3.bl slc)⟩ hsmk.out hsmi.out).mono ?_
            rw[hfar.out]
            rintro e wf ⟨rfl,hbf⟩
            refine hK.out _ _ (by first | exact⟨bx12 (T:=72) (h8.bl slc),⟨(Bl.cellOf (w:=wi) (p:=⟨gB,i * 12,none⟩) slc hgB).trans y0,(Bl.cellOf (w:=wi) (p:=⟨gB,i * 12+1,none⟩) slc hgB).trans y1,(Bl.cellOf (w:=wi) (p:=⟨gB,i * 12+2,none⟩) slc hgB).trans y2,(Bl.cellOf (w:=wi) (p:=⟨gB,i * 12+3,none⟩) slc hgB).trans y3,(Bl.cellOf (w:=wi) (p:=⟨gB,i * 12+4,none⟩) slc hgB).trans y4,(Bl.cellOf (w:=wi) (p:=⟨gB,i * 12+5,none⟩) slc hgB).trans y5,(Bl.cellOf (w:=wi) (p:=⟨gB,i * 12+6,none⟩) slc hgB).trans y6,(Bl.cellOf (w:=wi) (p:=⟨gB,i * 12+7,none⟩) slc hgB).trans y7,(Bl.cellOf (w:=wi) (p:=⟨gB,i * 12+8,none⟩) slc hgB).trans y8,(Bl.cellOf (w:=wi) (p:=⟨gB,i * 12+9,none⟩) slc hgB).trans y9,(Bl.cellOf (w:=wi) (p:=⟨gB,i * 12+10,none⟩) slc hgB).trans y10,(Bl.cellOf (w:=wi) (p:=⟨gB,i * 12+11,none⟩) slc hgB).trans y11⟩⟩) (fun hHeld=> ?_)
            clear hK K
            try simp only[Act.put,List.setIfInBounds_toArray,List.set_cons_zero,List.set_cons_succ]
            refine wpAnyH_take (i:=6) (oi:=_) (v:=?_) (fuel:=5) rfl (by kernel_rfl) (by kernel_rfl) (by kernel_rfl) (fun _ _ _ h=> h) (Or.inl ⟨by rfl,?_⟩) hHeld ?_
            rotate_left 1
            · (intro w' hSw;(try dsimp only at hSw);go_simp <;> with_reducible rfl)
            simp only[Act.put,List.setIfInBounds_toArray]
            refine wpAnyH_take (i:=7) (oi:=_) (v:=?_) (fuel:=4) rfl (by kernel_rfl) (by kernel_rfl) (by kernel_rfl) (fun _ _ _ h=> h) (Or.inl ⟨by rfl,?_⟩) hHeld ?_
            rotate_left 1
            · (intro w' hSw;(try dsimp only at hSw);go_simp <;> with_reducible rfl)
            simp only[Act.put]
            refine wpAnyH_take (i:=8) (oi:=_) (v:=undef) (fuel:=3) rfl (by kernel_rfl) (by kernel_rfl) (by kernel_rfl) (fun _ _ _ h=> h) (Or.inr ⟨by rfl,rfl⟩) hHeld ?_
            simp only[Act.put]
            refine wpAnyH_take (i:=9) (oi:=_) (v:=undef) (fuel:=2) rfl (by kernel_rfl) (by kernel_rfl) (by kernel_rfl) (fun _ _ _ h=> h) (Or.inr ⟨by rfl,rfl⟩) hHeld ?_
            simp only[Act.put]
            refine wpAnyH_take (i:=10) (oi:=_) (v:=undef) (fuel:=1) rfl (by kernel_rfl) (by kernel_rfl) (by kernel_rfl) (fun _ _ _ h=> h) (Or.inr ⟨by rfl,rfl⟩) hHeld ?_
            simp only[Act.put]
            refine wpAnyH_take (i:=11) (oi:=_) (v:=?_) (fuel:=0) rfl (by kernel_rfl) (by kernel_rfl) (by kernel_rfl) (fun _ _ _ h=> h) (Or.inl ⟨by rfl,?_⟩) hHeld ?_
            rotate_left 1
            · (intro w' hSw;(try dsimp only at hSw);go_simp <;> with_reducible rfl)
            simp only[Act.put]
            clear hHeld
            refine wpAnyH_done (by kernel_rfl) ?_ _
            all_goals (go_wp2_with fail)
            all_goals go_roundw
            all_goals first | exact⟨i+1,by omega,by go_num,hfn,slc⟩ |(simp[intOf];omega)
        · have hki2:k=i:=by omega
          have hfk:=Lib.hid (by rw[hki2] at hfr ⊢;exact hfr.out:FarTo mq k k)
          have hst:=Lib.hid (hst.out hfk.out)
          clear hfr hfk
          obtain rfl:k=i:=hki2
          have hkk3:¬ (k:Int) < (k:Int):=by omega
          go_wp2_with fail
          go_loopw [76] (fun sj wr=> ∃ j:Nat,j≤3∧sj=.int .i64 (j:Int)∧Hid (NoeTo mq k j)∧Bl Z wr) (fun sj _=> 3 - (intOf sj).toNat)
          case atStart=> exact⟨0,by omega,rfl,Lib.hid (fun i hi=> by omega),hbi2⟩
          case round =>
            obtain⟨j,hj,rfl,hne,hbj⟩:=hrel
            obtain⟨wj,rfl⟩:∃ wj:World,wj=wr:=⟨_,rfl⟩
            by_cases hj3:j < 3
            · have hji:(j:Int) < 3:=by omega
              obtain⟨hmd,hj23⟩:=nx3_mod hj3
              have hns:=Lib.hid (fun h=> hne.out.step h)
              have hnb:=Lib.hid (fun (h:MeS mq) =>(hpc.out h).2.2 j hj3)
              clear hne
              have hca:=Lib.hid (hS3.out j hj3)
              have hcb:=Lib.hid (hS3.out (nx3 j) hj23)
              obtain⟨qa,ea⟩:∃ x,pix (cW mq k) j=x:=⟨_,rfl⟩
              obtain⟨qb,eb⟩:∃ x,pix (cW mq k) (nx3 j)=x:=⟨_,rfl⟩
              have hpa:pix ((cW mq k).map tp) j=tp qa:=by rw[← ea];exact pix_map hj3
              have hpb:pix ((cW mq k).map tp) (nx3 j)=tp qb:=by rw[← eb];exact pix_map hj23
              rw[ea] at hns hnb hca
              rw[eb] at hns hnb hcb
              clear ea eb
              obtain⟨j2,ej⟩:∃ j2,nx3 j=j2:=⟨_,rfl⟩
              rw[ej] at hmd hj23 hpb
              clear ej
              obtain⟨q_,eq⟩:∃ q:Int,(j:Int)+1=q:=⟨_,rfl⟩
              have hq0:0≤q_∧q_≤3:=by omega
              have hw1:IntKind.i64.wrap ((j:Int)+1)=q_:=by rw[IntWalk.i64_in _ (by omega),eq]
              rw[eq] at hmd
              have hw2:IntKind.i64.wrap q_=q_:=IntWalk.i64_in _ (by omega)
              have hw3:IntKind.i64.wrap (j2:Int)=(j2:Int):=IntWalk.i64_in _ (by omega)
              have hqe:=Lib.hid eq
              have hpa:=Lib.hid hpa;rename_i h_;clear h_
              have hpb:=Lib.hid hpb;rename_i h_;clear h_
              clear eq
              obtain⟨r0,r1⟩:=bx2 (h1.bl ((hbX2.next hbZ).next hbj))
              go_wp2_with fail
              clear r0 r1
              go_loopw [82] (fun sp wr=> ∃ p:Nat,p≤n∧sp=.int .i64 (p:Int)∧Hid (NoPt mq qa qb p)∧Bl Z wr) (fun sp _=> n - (intOf sp).toNat)
              case atStart=> exact⟨0,by omega,rfl,Lib.hid (fun q hq=> by omega),hbj⟩
              case round =>
                obtain⟨p,hpn,rfl,hnp,hbp⟩:=hrel
                obtain⟨wp,rfl⟩:∃ wp:World,wp=wr:=⟨_,rfl⟩
                by_cases hpp:p < n
                · have hpi:(p:Int) < (n:Int):=by omega
                  have hpq:p < mq.pts.length:=by rw[hn.out];exact hpp
                  obtain⟨s7,A7,n7,c7,B7,m7,d7,t7,C7,i7,e7,D7,j7,f7,⟨y0,y1,y2,y3,y4,y5⟩,hX7,hY7⟩:=pts_lit (RdPS.bl hp ((hbX2.next hbZ).next hbp)) hpp
                  rw[pix_map hpq] at hX7 hY7
                  have hs7:=hft.out p hpq
                  have hnq:=Lib.hid (fun h=> hnp.out.step h)
                  have hnx:=Lib.hid (fun (h:MeS mq)=> hnb.out h p hpq)
                  clear hnp
                  go_upto_region 24 with (fail)
                  refine wp_gen (fun Z2=> Bl wp Z2∧∃ g13,Blk Z2 g13 76 #[.bool s7,.slice A7 n7 c7,.slice B7 m7 d7,.bool t7,.slice C7 i7 e7,.slice D7 j7 f7]∧g13=wp.heap.size) ⟨slc,_,by exact bts,rfl⟩ ?_
                  rintro Z2 ⟨hbZ2,g13,h13,hg13⟩
                  rw[← hg13]
                  clear y0 y1 y2 y3 y4 y5 hg13
                  have hbZZ:=hbp.next hbZ2
                  obtain⟨s8,A8,n8,c8,B8,m8,d8,t8,C8,i8,e8,D8,j8,f8,⟨y0,y1,y2,y3,y4,y5⟩,hX8,hY8⟩:PtAt Z2 ⟨g5,j * 6,none⟩ (tp qa):=by rw[← hpa.out];exact pts_lit (RdPS.bl hFr hbZZ) hj3
                  obtain⟨s9,A9,n9,c9,B9,m9,d9,t9,C9,i9,e9,D9,j9,f9,⟨z0,z1,z2,z3,z4,z5⟩,hX9,hY9⟩:PtAt Z2 ⟨g5,j2 * 6,none⟩ (tp qb):=by rw[← hpb.out];exact pts_lit (RdPS.bl hFr hbZZ) hj23
                  have hj2i:(j2:Int) < 3:=by omega
                  have hg5w:g5 < Z2.heap.size:=Nat.lt_of_lt_of_le hg5l (Nat.le_trans (hb8Z.next hbZZ).size (Nat.le_refl _))
                  have hX7:=hX7.bl hbZ2
                  have hY7:=hY7.bl hbZ2
                  go_cut [97] (fun s97 wx=> ∃ bq:Bool,s97=.bool bq∧(bq=true↔insS qa qb (pix mq.pts p))∧Bl Z2 wx)
                  case first =>
                    go_region_held3 (fun w' =>(w'.cell? ⟨g13,0,none⟩=some (.bool s7)∧w'.cell? ⟨g13,1,none⟩=some (.slice A7 n7 c7)∧w'.cell? ⟨g13,2,none⟩=some (.slice B7 m7 d7)∧w'.cell? ⟨g13,3,none⟩=some (.bool t7)∧w'.cell? ⟨g13,4,none⟩=some (.slice C7 i7 e7)∧w'.cell? ⟨g13,5,none⟩=some (.slice D7 j7 f7))∧(w'.cell? ⟨g5,j * 6,none⟩=some (.bool s8)∧w'.cell? ⟨g5,j * 6+1,none⟩=some (.slice A8 n8 c8)∧w'.cell? ⟨g5,j * 6+2,none⟩=some (.slice B8 m8 d8)∧w'.cell? ⟨g5,j * 6+3,none⟩=some (.bool t8)∧w'.cell? ⟨g5,j * 6+4,none⟩=some (.slice C8 i8 e8)∧w'.cell? ⟨g5,j * 6+5,none⟩=some (.slice D8 j8 f8))∧(w'.cell? ⟨g5,j2 * 6,none⟩=some (.bool s9)∧w'.cell? ⟨g5,j2 * 6+1,none⟩=some (.slice A9 n9 c9)∧w'.cell? ⟨g5,j2 * 6+2,none⟩=some (.slice B9 m9 d9)∧w'.cell? ⟨g5,j2 * 6+3,none⟩=some (.bool t9)∧w'.cell? ⟨g5,j2 * 6+4,none⟩=some (.slice C9 i9 e9)∧w'.cell? ⟨g5,j2 * 6+5,none⟩=some (.slice D9 j9 f9))) (first | exact⟨bx6 (T:=76) (h13.bl slc),⟨(Bl.cellOf (w:=Z2) (p:=⟨g5,j * 6,none⟩) slc hg5w).trans y0,(Bl.cellOf (w:=Z2) (p:=⟨g5,j * 6+1,none⟩) slc hg5w).trans y1,(Bl.cellOf (w:=Z2) (p:=⟨g5,j * 6+2,none⟩) slc hg5w).trans y2,(Bl.cellOf (w:=Z2) (p:=⟨g5,j * 6+3,none⟩) slc hg5w).trans y3,(Bl.cellOf (w:=Z2) (p:=⟨g5,j * 6+4,none⟩) slc hg5w).trans y4,(Bl.cellOf (w:=Z2) (p:=⟨g5,j * 6+5,none⟩) slc hg5w).trans y5⟩,⟨(Bl.cellOf (w:=Z2) (p:=⟨g5,j2 * 6,none⟩) slc hg5w).trans z0,(Bl.cellOf (w:=Z2) (p:=⟨g5,j2 * 6+1,none⟩) slc hg5w).trans z1,(Bl.cellOf (w:=Z2) (p:=⟨g5,j2 * 6+2,none⟩) slc hg5w).trans z2,(Bl.cellOf (w:=Z2) (p:=⟨g5,j2 * 6+3,none⟩) slc hg5w).trans z3,(Bl.cellOf (w:=Z2) (p:=⟨g5,j2 * 6+4,none⟩) slc hg5w).trans z4,(Bl.cellOf (w:=Z2) (p:=⟨g5,j2 * 6+5,none⟩) slc hg5w).trans z5⟩⟩) (first |(go_at_call 42;(with_reducible refine(l07Inside_q _ (hX7.bl slc) (hY7.bl slc) (hX8.bl slc) (hY8.bl slc) (hX9.bl slc) (hY9.bl slc) hs7 hca.out hcb.out).mono ?_);rintro e wq ⟨bq,rfl,hbq0,hbq⟩))
                    all_goals (go_wp2_with fail)
                    all_goals go_meet
                    all_goals exact⟨bq,rfl,hbq0,slc⟩
                  case rest =>
                    obtain⟨bq,rfl,hbq0,hbc⟩:=hcut
                    obtain⟨W6,rfl⟩:∃ W6:World,W6=wc:=⟨_,rfl⟩
                    cases bq
                    · have hnn:=Lib.hid (hnq.out (fun h=> Bool.noConfusion (hbq0.2 h)))
                      clear hbq0 hnq hnx
                      go_wp2_with fail
                      go_roundw
                      case rel=> exact⟨p+1,by omega,by go_num,hnn,hbZZ.next hbc⟩
                      case measure=> simp[intOf];omega
                    · have hbd:=Lib.hid (show ¬ MeS mq from fun h=> hnx.out h (hbq0.1 rfl))
                      clear hbq0 hnq hnx hpc hst hns hnb
                      go_wp2_with fail
                      go_ret
                      exact yres_false hbd.out (hbW.next ((hbX2.next hbZ).next (hbZZ.next hbc)))
                · have hpn2:p=n:=by omega
                  have hnn:=Lib.hid (hns.out (show NoS1 mq qa qb from fun q hq=> hnp.out q (by rw[hpn2,← hn.out];exact hq)))
                  clear hnp hns hnb
                  obtain rfl:n=p:=hpn2.symm
                  have hpp3:¬ (n:Int) < (n:Int):=by omega
                  go_wp2_with fail
                  go_roundw
                  case rel=> exact⟨j+1,by omega,(by rw[← hqe.out];rfl),hnn,hbp⟩
                  case measure=> have:=hqe.out;simp[intOf];omega
            · obtain rfl:j=3:=by omega
              have hspn:=Lib.hid (hst.out hne.out)
              clear hst hne hpc
              have e0:((3:Nat):Int)=3:=rfl
              rw[e0]
              clear e0
              have hbwj:=(hbX2.next hbZ).next hbj
              have hz1:=hAB.hiLe
              have hz2:=hb8.size
              have hz3:=hb9.size
              have hz4:=(hb9Z.next hbj).size
              have h8j:=h8.bl hbj
              have hgl:=h8j.lt
              go_wp2_with (first |(refine wpList_append_abA rfl (.tmp 100) (.tmp 102) rfl (by rfl) (hABZ.bl hbj) (hF.bl (hb8Z.next hbj)) hz1 hlo 1 (by rfl) (by rw[hlL];omega) w2 hbwj (Nat.le_refl _) ?_;intro va' wA gA gB gd hbA hzA hoA;have h8A:=Blk.mv h8j (hoA g8 (by omega) hgl).1;(obtain⟨z0,z1,z2,z3,z4,z5,z6,z7,z8,z9,z10,z11⟩:=bx12 h8A);have hkk:=keep_from (b0:=X.heap.size) (Below.block (hb8Z.next hbj)) (fun b h1' h2' =>(hoA b h1' h2').1) hz1 (by omega)) |(refine wpList_append_abB (x:=bxA (cW mq k)) (b0:=X.heap.size) (z:=w8.heap.size) rfl (.tmp 104) (.tmp 106) rfl (by rfl) gA gB gd (fun X2 hs2 hk2 =>⟨RdV.of (hFu0 X2 (by omega) (hkk X2 hk2)),RdV.of (hFu1 X2 (by omega) (hkk X2 hk2)),RdV.of (hFu2 X2 (by omega) (hkk X2 hk2)),RdV.of (hFu3 X2 (by omega) (hkk X2 hk2))⟩) (by omega) (fun b h1' h2' =>(hoA b (by omega) (by omega)).2) hz1 hlo 1 (by rfl) (by rw[hlB];omega) w2 hbA (Nat.le_refl _) ?_;intro vb' wB gAB hbB hzB))
              go_roundw
              case rel =>
                refine⟨k+1,_,_,_,by omega,by go_num,rfl,rfl,?_,hbB.size,hspn,hbB⟩
                rw[List.range_succ,List.map_append,List.map_append]
                exact gAB
              case measure=> simp[intOf];omega
    · have hmk:m=k:=by omega
      have hfk2:=Lib.hid (hfin.out (by rw[hmk];exact hSp.out))
      clear hSp hfin
      obtain rfl:m=k:=hmk
      have hkm3:¬ (m:Int) < (m:Int):=by omega
      go_wp2_with fail
      go_ret
      exact yres_true hfk2.out (hbW.next hbi)
end

end Go.Proofs.YtjaapemopbbfaaaGreat
