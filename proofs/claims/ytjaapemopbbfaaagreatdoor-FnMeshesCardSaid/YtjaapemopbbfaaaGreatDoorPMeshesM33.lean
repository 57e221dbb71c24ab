import Derived.Test.YtjaapemopbbfaaaGreatDoorPMeshesM32
namespace Go.Proofs.YtjaapemopbbfaaaGreatDoor
open Go.RowKit
set_option maxRecDepth 100000
set_option maxHeartbeats 32000000
def K6 (n:Nat) (l:List EdD):Prop:=∀e∈l,(0<=e.a/\e.a<n)/\0<=e.b/\e.b<n
theorem Je {f:EdD->EdD}:∀{l:List EdD}{p:Nat}{e:EdD},e∈l.modify p f->e∈l\/∃x,x∈l/\e=f x
 | [],p,e,h=>by simp at h
 | y::ys,0,e,h=>by
  rw[List.modify_zero_cons,List.mem_cons]at h
  rcases h with h|h
  ·exact .inr ⟨y,by simp,h⟩
  ·exact .inl (by simp[h])
 | y::ys,p+1,e,h=>by
  rw[List.modify_succ_cons,List.mem_cons]at h
  rcases h with h|h
  ·exact .inl (by simp[h])
  ·rcases Je h with h |⟨x,h1,h2⟩
   ·exact .inl (by simp[h])
   ·exact .inr ⟨x,by simp[h1],h2⟩
theorem K6.put {n:Nat}{l:List EdD}{a b k:Int}(h:K6 n l) (ha:0<=a/\a<n) (hb:0<=b/\b<n):K6 n (yX l a b k):=by
 have hn:((0:Int)<=(qS a b).a/\(qS a b).a < (n:Int))/\(0:Int)<=(qS a b).b/\(qS a b).b < (n:Int):=by
  show ((0:Int)<=min a b/\min a b<(n:Int))/\(0:Int)<=max a b/\max a b<(n:Int)
  omega
 have h2:K6 n (if yG (qS a b) l then l else vv (qS a b) l):=by
  by_cases hf:yG (qS a b) l=true
  ·rw[if_pos hf];exact h
  ·rw[if_neg hf]
   intro e he
   unfold vv at he
   rw[List.mem_append,List.mem_cons]at he
   rcases he with he|rfl|he
   ·exact h e (List.mem_of_mem_take he)
   ·exact hn
   ·exact h e (List.mem_of_mem_drop he)
 intro e he
 rcases Je he with he |⟨x,hx,rfl⟩
 ·exact h2 e he
 ·have:=h2 x hx
  unfold zo
  split <;> exact this
theorem ul {n:Nat}{ts:List qC}(h:Y7 n ts):∀{k:Nat},k<=ts.length->K6 n (yU ts k)
 | 0,_=>λe he=>by simp[yU]at he
 | k+1,hk=>by
  obtain⟨h1,h2,h3⟩:=h k (by omega)
  exact((K6.put (ul h (by omega)) h1 h2).put h2 h3).put h3 h1
theorem K6.at_ {n:Nat}{l:List EdD}(h:K6 n l) {k:Nat}(hk:k<l.length):(0<=(pix l k).a/\(pix l k).a<n)/\0<=(pix l k).b/\(pix l k).b<n:=by
 refine h _ ?_
 unfold pix
 rw[List.getD_eq_getElem?_getD,List.getElem?_eq_getElem hk]
 exact List.getElem_mem hk
def bdE (e:EdD):Bool:=decide (e.l<0)||decide (e.r<0)
def VW (l:List EdD):Nat->Nat->Bool
 | 0,_=>false
 | k+1,i=>VW l k i||(bdE (pix l k)&&(decide ((pix l k).a=i)||decide ((pix l k).b=i)))
theorem qbQ {l:List EdD}{k:Nat}{e:EdD}(he:pix l k=e) (h:bdE e=false) (i:Nat):VW l k i=VW l (k+1) i:=by
 show _=(VW l k i||(bdE (pix l k)&&_))
 rw[he,h,Bool.false_and,Bool.or_false]
theorem uY {l:List EdD}{k:Nat}{e:EdD}(he:pix l k=e) (h:bdE e=true) (ha:0<=e.a) (hb:0<=e.b) (i:Nat):(if i=e.b.toNat then true else if i=e.a.toNat then true else VW l k i)=VW l (k+1) i:=by
 show _=(VW l k i||(bdE (pix l k)&&(decide ((pix l k).a=i)||decide ((pix l k).b=i))))
 rw[he,h,Bool.true_and]
 by_cases h1:i=e.b.toNat
 ·rw[if_pos h1,decide_eq_true (show e.b=(i:Int)by omega),Bool.or_true,Bool.or_true]
 ·rw[if_neg h1,decide_eq_false (show ¬e.b=(i:Int)by omega),Bool.or_false]
  by_cases h2:i=e.a.toNat
  ·rw[if_pos h2,decide_eq_true (show e.a=(i:Int)by omega),Bool.or_true]
  ·rw[if_neg h2,decide_eq_false (show ¬e.a=(i:Int)by omega),Bool.or_false]
def jw (l:List EdD) (b:Bool) (k:Nat):List Int:=((List.range k).filter (λi=>VW l l.length i == b)).map (λi:Nat=>(i:Int))
theorem Uq (l:List EdD) (b:Bool) (k:Nat):jw l b (k+1)=if VW l l.length k == b then jw l b k++[(k:Int)]else jw l b k:=by
 unfold jw
 rw[List.range_succ,List.filter_append,List.map_append]
 by_cases h:(VW l l.length k == b)=true
 ·rw[if_pos h,List.filter_cons_of_pos (by simpa using h)];rfl
 ·rw[if_neg h,List.filter_cons_of_neg (by simpa using h)];simp
theorem Xh (l:List EdD) (b:Bool) (k:Nat):(jw l b k).length<=k:=by
 unfold jw
 rw[List.length_map]
 exact Nat.le_trans (List.length_filter_le _ _) (by simp)
theorem OwL.any {E:TypeId}{base:Nat}{w:World}{v:Value}{l:List Int}(h:OwL E base w v l) (hl:l.length<=9223372036854775807):∃A c,v=.slice A l.length c/\RdI w A l.length c l:=by
 obtain⟨A,c,e,ho⟩:=h.own hl
 exact⟨A,c,e,ho.rd⟩
def XF (w:World) (l:List Int) (en:Ending) (w':World):Prop:=∃A n c,en=.returned (.slice A n c)/\RdI w' A n c l/\Bl w w'
theorem Qu (w:World) {A:Option Addr}{n cp gt m ct:Nat}{ts:List qC}(b:Bool) (ht:zx w (some ⟨gt,0,none⟩) m ct ts) (hm:m<=10000) (hn:n<=1048576) (hix:Y7 n ts) :
  Calls Tryz.prog 73 #[.agg #[.slice A n cp,.slice (some ⟨gt,0,none⟩) m ct],.bool b] w (XF w (jw (edL ts) b n)):=by
 have hE:=Lib.hid (show K6 n (edL ts)from ul hix (Nat.le_refl _))
 have hlE:(edL ts).length<=30000:=by have h:=jh ts ts.length;rw[ht.len]at h;unfold edL;rw[ht.len];omega
 replace hix:=Lib.hid hix
 go_enter Tryz.func73,Tryz.ntmps73
 have hmk:=λW:World=>QQ n (by omega) W
 go_wp2_with fail
 refine qd (λW=>Bl w W/\∃gu,OwU W gu n (VW (edL ts) 0)/\gu=w.heap.size+1) ⟨by exact slc,_,by have:=OwU.made (w.alloc (.cells #[.slice A n cp,.slice (some ⟨gt,0,none⟩) m ct] 49)) n (VW (edL ts) 0) (λ_=>rfl);rw[World.size_alloc]at this;exact this,rfl⟩ ?_
 rintro W ⟨hbW,gu,hU,hgu⟩
 rw[<-hgu]
 have hgu0:w.heap.size<=gu:=by omega
 clear hgu hmk
 refine(xA _ (zx.bl ht hbW) hm).mono ?_
 rintro e w1 ⟨ge,ne,ce,rfl,hes,hge,hb1⟩
 have hgeu:ge≠gu:=by have:=hU.lt;omega
 have hU:=hU.bl hb1
 have hbW:=hbW.next hb1
 clear hb1
 have hne:=Lib.hid hes.len
 have hnl:ne<=30000:=by rw[<-hes.len];exact hlE
 have hcape:=hes.cap
 obtain⟨L,hL⟩:∃L,edL ts=L:=⟨_,rfl⟩
 rw[hL]at hU hes hne hE ⊢
 have hLe:=Lib.hid hL
 clear hL hlE
 go_wp2_with fail
 go_loopw [18] (λv wr=>∃k:Nat,k<=ne/\v=.int .i64 (k:Int)/\OwU wr gu n (VW L k)/\Yn wr (some ⟨ge,0,none⟩) ne ce L/\Bl w wr) (λv _=>ne-(intOf v).toNat)
 case atStart=>exact⟨0,by omega,rfl,hU,hes,hbW⟩
 case round=>
  clear hU hes hbW hge
  obtain⟨k,hk,rfl,hU,hes,hbw⟩:=hrel
  obtain⟨wo,rfl⟩:∃wo:World,wo=wr:=⟨_,rfl⟩
  by_cases hkn:k<ne
  ·have hki:(k:Int)<(ne:Int):=by omega
   obtain⟨c0,c1,c2,c3⟩:=zX hes hkn
   obtain⟨⟨ha0,ha1⟩,hb0,hb1⟩:=hE.out.at_ (k:=k) (by rw[hne.out];exact hkn)
   obtain⟨ed,hed⟩:∃ed,pix L k=ed:=⟨_,rfl⟩
   rw[hed]at c0 c1 c2 c3 ha0 ha1 hb0 hb1
   replace hed:=Lib.hid hed
   go_upto_region 5 with (fail)
   refine qe (λW2=>Bl wo W2/\∃g7,Blk W2 g7 152 #[.int .i64 ed.a,.int .i64 ed.b,.int .i64 ed.l,.int .i64 ed.r]/\g7=wo.heap.size) ⟨by exact slc,_,by exact bts,rfl⟩ ?_
   rintro W2 ⟨hb2,g7,h7,hg7⟩
   rw[<-hg7]
   have hg7u:gu≠g7:=by have:=hU.lt;omega
   have hU:=hU.bl hb2
   have hes:=hes.bl hb2
   have hbw:=hbw.next hb2
   clear c0 c1 c2 c3 hg7 hb2
   obtain⟨y0,y1,y2,y3⟩:=bx4 h7
   have h7l:=h7.lt
   have ux:=hU.cell (i:=ed.a.toNat) (by omega)
   have uf:=hU.frozen ed.a.toNat
   have vx:=hU.cell (i:=ed.b.toNat) (by omega)
   have vf_:=hU.frozen ed.b.toNat
   have vx2:=(hU.set ed.a.toNat true).cell (i:=ed.b.toNat) (by omega)
   have vf2:=(hU.set ed.a.toNat true).frozen ed.b.toNat
   have ux2:=(hU.set ed.b.toNat true).cell (i:=ed.a.toNat) (by omega)
   have uf2:=(hU.set ed.b.toNat true).frozen ed.a.toNat
   obtain⟨q1,hq1⟩:∃q,(if ed.b.toNat=ed.a.toNat then true else VW L k ed.b.toNat)=q:=⟨_,rfl⟩
   obtain⟨q2,hq2⟩:∃q,(if ed.a.toNat=ed.b.toNat then true else VW L k ed.a.toNat)=q:=⟨_,rfl⟩
   rw[hq1]at vx2
   rw[hq2]at ux2
   clear hq1 hq2
   obtain⟨ya0,ya1,ya2,ya3⟩:=bx4 (h7.far (p:=⟨gu,ed.a.toNat,none⟩) (Ne.symm hg7u) (.bool true))
   obtain⟨yb0,yb1,yb2,yb3⟩:=bx4 (h7.far (p:=⟨gu,ed.b.toNat,none⟩) (Ne.symm hg7u) (.bool true))
   by_cases hl:ed.l<0
   ·have hbd:bdE ed=true:=by unfold bdE;rw[decide_eq_true hl,Bool.true_or]
    replace hbd:=Lib.hid hbd
    go_wp2_with fail
    go_region
    all_goals go_wp2_with fail
    all_goals go_roundw
    case rel=>exact⟨k+1,by omega,by go_num,(((hU.set _ true).set _ true).congr (λi _=>uY hed.out hbd.out ha0 hb0 i)).bl (Bl.refl _).drew,((hes.setLit hgeu _).setLit hgeu _).bl (Bl.refl _).drew,(Bl.set (Bl.set hbw hgu0 _) hgu0 _).drew⟩
    case measure=>simp[intOf];omega
   ·by_cases hr:ed.r<0
    ·have hbd:bdE ed=true:=by unfold bdE;rw[decide_eq_true hr,Bool.or_true]
     replace hbd:=Lib.hid hbd
     go_wp2_with fail
     go_region
     all_goals go_wp2_with fail
     all_goals go_roundw
     case rel=>exact⟨k+1,by omega,by go_num,(((hU.set _ true).set _ true).congr (λi _=>uY hed.out hbd.out ha0 hb0 i)).bl (Bl.refl _).drew,((hes.setLit hgeu _).setLit hgeu _).bl (Bl.refl _).drew,(Bl.set (Bl.set hbw hgu0 _) hgu0 _).drew⟩
     case measure=>simp[intOf];omega
    ·have hbd:bdE ed=false:=by unfold bdE;rw[decide_eq_false hr,decide_eq_false hl];rfl
     replace hbd:=Lib.hid hbd
     go_wp2_with fail
     go_roundw
     case rel=>exact⟨k+1,by omega,by go_num,hU.congr (λi _=>qbQ hed.out hbd.out i),hes,hbw⟩
     case measure=>simp[intOf];omega
  ·obtain rfl:k=ne:=by omega
   have hkm2:¬(k:Int)<(k:Int):=by omega
   have hon:∀ i,i < n->wo.cell? ⟨gu,i,none⟩=some (.bool (VW L L.length i)):=by
    intro i hi
    rw[hU.cell hi,hne.out]
   replace hon:=Lib.hid hon
   have hgu2:=hU.lt
   go_wp2_with fail
   refine qe (λW3=>Bl wo W3/\∃v c,OwL 3 wo.heap.size W3 v (jw L b 0)/\v=.slice (some ⟨wo.heap.size,0,none⟩) 0 c/\c=0) ⟨by exact slc,_,0,OwL.empty wo (Nat.le_refl _) (by decide),rfl,rfl⟩ ?_
   rintro W3 ⟨hb3,v0,c,hX,hv0,rfl⟩
   rw[<-hv0]
   clear hv0
   go_loopw [8,42] (λs v wr=>∃(i:Nat) (o:Value),i<=n/\v=.int .i64 (i:Int)/\o=s/\OwL 3 wo.heap.size wr o (jw L b i)/\Bl wo wr) (λ_ v _=>n-(intOf v).toNat)
   case atStart=>exact⟨0,v0,by omega,rfl,rfl,hX,hb3⟩
   case round=>
    clear hX hb3
    obtain⟨i,o,hi,rfl,rfl,hX,hbi⟩:=hrel
    obtain⟨wj,rfl⟩:∃wj:World,wj=wr:=⟨_,rfl⟩
    by_cases hin:i<n
    ·have hii:(i:Int)<(n:Int):=by omega
     have x0:wj.cell? ⟨gu,i,none⟩=some (.bool (VW L L.length i)):=by rw[hbi.qeV (p:=⟨gu,i,none⟩) hgu2];exact hon.out i hin
     have hS:=Uq L b i
     have hSl:=Xh L b i
     obtain⟨q,hq⟩:∃q,VW L L.length i=q:=⟨_,rfl⟩
     rw[hq]at x0 hS
     clear hq
     by_cases hqb:q=b
     ·have hS1:jw L b (i+1)=jw L b i++[(i:Int)]:=by rw[hS,if_pos (by simpa using hqb)]
      have hS2:=Lib.hid hS1
      clear hS hS1
      subst hqb
      go_wp2_with ((refine zE (w0:=wo) qn Tryz.underlying22 rfl (.tmp 50) (.tmp 52) rfl _ (jw L q i) (by rfl) hX hbi 1 (by rfl) (by omega) ?_);intro vx7 w7 hX7 hb7 hoth)
      rw[<-hS2.out]at hX7
      go_roundw
      case rel=>exact⟨i+1,vx7,by omega,by go_num,rfl,hX7,hb7⟩
      case measure=>simp[intOf];omega
     ·have hS1:jw L b (i+1)=jw L b i:=by rw[hS,if_neg (by simpa using hqb)]
      have hS2:=Lib.hid hS1
      clear hS hS1
      rcases(show (q=true/\b=false)\/(q=false/\b=true)by cases q <;> cases b <;> simp at hqb ⊢)with ⟨rfl,rfl⟩ |⟨rfl,rfl⟩
      ·go_wp2_with fail
       go_roundw
       case rel=>exact⟨i+1,o,by omega,by go_num,rfl,by rw[hS2.out];exact hX,hbi⟩
       case measure=>simp[intOf];omega
      ·go_wp2_with fail
       go_roundw
       case rel=>exact⟨i+1,o,by omega,by go_num,rfl,by rw[hS2.out];exact hX,hbi⟩
       case measure=>simp[intOf];omega
    ·obtain rfl:i=n:=by omega
     have hkm3:¬(i:Int)<(i:Int):=by omega
     have hSl:=Xh L b i
     obtain⟨B,c,rfl,hR⟩:=hX.any (by omega)
     go_wp2_with fail
     go_ret
     exact⟨B,_,c,rfl,by rw[hLe.out];exact hR,hbw.next hbi⟩
def vO (w:World) (v:Value) (mq:MeQ):Prop:=∃gp n cp gt m ct,v=.agg #[.slice (some ⟨gp,0,none⟩) n cp,.slice (some ⟨gt,0,none⟩) m ct]/\qR w (some ⟨gp,0,none⟩) n cp (mq.pts.map tp)/\zx w (some ⟨gt,0,none⟩) m ct mq.tris
theorem vO.bl {w W:World}{v:Value}{mq:MeQ}(h:vO w v mq) (hb:Bl w W):vO W v mq:=by
 obtain⟨gp,n,cp,gt,m,ct,e,hp,ht⟩:=h
 exact⟨gp,n,cp,gt,m,ct,e,qR.bl hp hb,zx.bl ht hb⟩
def V5 (mq:MeQ):List Int:=jw (edL mq.tris) false mq.pts.length
def xR (mq:MeQ):List Int:=jw (edL mq.tris) true mq.pts.length
theorem ZW (w:World) {v:Value}{mq:MeQ}(h:vO w v mq) (hok:za mq) :
  Calls Tryz.prog 32 #[v] w (XF w (V5 mq)):=by
 obtain⟨gp,n,cp,gt,m,ct,rfl,hp,ht⟩:=h
 replace hok:=Lib.hid hok
 go_enter Tryz.func32,Tryz.ntmps32
 go_wp2_with fail
 refine qd (λW=>Bl w W/\Blk W w.heap.size 49 #[.slice (some ⟨gp,0,none⟩) n cp,.slice (some ⟨gt,0,none⟩) m ct]) ⟨slc,bts⟩ ?_
 rintro W ⟨hbW,hM⟩
 refine(jz _ (qR.bl hp hbW) (zx.bl ht hbW) hok.out).mono ?_
 rintro e w1 ⟨rfl,hb1⟩
 have hM:=hM.bl hb1
 have hbW:=hbW.next hb1
 clear hb1
 obtain⟨r0,r1⟩:=bx2 hM
 have hn:=Lib.hid (show mq.pts.length=n by rw[<-hp.len,List.length_map])
 have hn40:n<=1048576:=by have:=hok.out.n40;rw[hn.out]at this;omega
 have hm48:m<=10000:=by have:=hok.out.t48;rw[ht.len]at this;omega
 go_wp2_with fail
 refine(Qu _ false (zx.bl ht hbW) hm48 hn40 (by have:=hok.out.ixs;rw[hn.out]at this;exact this)).mono ?_
 rintro e w2 ⟨A,k,c,rfl,hR,hb2⟩
 rw[show jw (edL mq.tris) false n=V5 mq by unfold V5;rw[hn.out]]at hR
 go_wp2_with fail
 go_ret
 exact⟨A,k,c,rfl,hR,hbW.next hb2⟩
theorem za.pts {mq:MeQ}(h:za mq):∀k,k<mq.pts.length->OkP (pix (mq.pts.map tp) k):=λk hk=>by
 rw[zv hk]
 obtain⟨h1,h2⟩:=h.place.1 k hk
 exact⟨h1.fit.ok,h2.fit.ok⟩
theorem za.trs {mq:MeQ}(h:za mq):∀k,k<mq.tris.length->qaJ (pix mq.tris k):=λk hk=>by
 have h1:=h.ixs k hk
 have h2:=h.reg k hk
 have h3:=h.n40
 unfold qbP at h1
 unfold qaJ
 omega
theorem Q6 (w:World) {v:Value}{mq:MeQ}(h:vO w v mq) (hok:za mq) (hE:Env w) :
  Calls Tryz.prog 27 #[v] w λe w'=>e=.returned (.string (sb (VV (mq.pts.map tp) mq.tris)))/\Bl w w':=by
 obtain⟨gp,n,cp,gt,m,ct,rfl,hp,ht⟩:=h
 replace hok:=Lib.hid hok
 replace hE:=Lib.hid hE
 have hn:mq.pts.length=n:=by rw[<-hp.len,List.length_map]
 have hm:mq.tris.length=m:=ht.len
 replace hn:=Lib.hid hn
 replace hm:=Lib.hid hm
 go_enter Tryz.func27,Tryz.ntmps27
 go_wp2_with fail
 refine qd (λW=>Bl w W/\Blk W w.heap.size 49 #[.slice (some ⟨gp,0,none⟩) n cp,.slice (some ⟨gt,0,none⟩) m ct]) ⟨slc,bts⟩ ?_
 rintro W ⟨hbW,hM⟩
 refine(jz _ (qR.bl hp hbW) (zx.bl ht hbW) hok.out).mono ?_
 rintro e w1 ⟨rfl,hb1⟩
 have hM:=hM.bl hb1
 have hbW:=hbW.next hb1
 clear hb1
 obtain⟨r0,r1⟩:=bx2 hM
 go_wp2_with fail
 refine(Y9 _ (qR.bl hp hbW) (zx.bl ht hbW) (by rw[<-hn.out];exact hok.out.n40) (by rw[<-hm.out];exact hok.out.t48) (by rw[<-hn.out];exact hok.out.pts) (by rw[<-hm.out];exact hok.out.trs) (hE.out.bl hbW)).mono ?_
 rintro e w2 ⟨rfl,hb2⟩
 go_wp2_with fail
 go_ret
 exact⟨rfl,hbW.next hb2⟩
section
variable {b0 b1:Nat}{w W:World}{t:Bool}{A:Option Addr}{n c:Nat}{B:Option Addr}{m d:Nat}{r:qH}
end
open Classical in
noncomputable def ptB (l:List UInt8):Bool:=decide (PtT l)
open Classical in
noncomputable def ptV (l:List UInt8):PtD:=if PtT l then qp l else zP
theorem kG {l:List UInt8}(h:PtT l):ptB l=true:=by simp[ptB,h]
theorem qcR {l:List UInt8}(h:¬PtT l):ptB l=false:=by simp[ptB,h]
theorem vl (w:World) (s:ByteArray) (hs:s.size<=1048576) (hE:Env w) :
  Calls Tryz.prog 7 #[.string s] w λen w'=>∃s1 A1 n1 c1 B1 m1 d1 t1 C1 i1 e1 D1 j1 f1,en=.returned (.tuple #[.agg #[.bool s1,.slice A1 n1 c1,.slice B1 m1 d1,.bool t1,.slice C1 i1 e1,.slice D1 j1 f1],.bool (ptB (bl s))])/\OwP 3 w.heap.size w' s1 A1 n1 c1 B1 m1 d1 t1 C1 i1 e1 D1 j1 f1 (ptV (bl s))/\Bl w w':=by
 refine(Y4 w s hs hE).mono ?_
 rintro en w' ⟨(⟨h,s1,A1,n1,c1,B1,m1,d1,t1,C1,i1,e1,D1,j1,f1,rfl,hO⟩ |⟨h,rfl⟩),hb⟩
 ·refine⟨s1,A1,n1,c1,B1,m1,d1,t1,C1,i1,e1,D1,j1,f1,by rw[kG h],by unfold ptV;rw[if_pos h];exact hO,hb⟩
 ·exact⟨_,_,_,_,_,_,_,_,_,_,_,_,_,_,by rw[qcR h],by unfold ptV;rw[if_neg h];exact OwP.zero _ _ _,hb⟩
theorem kU {w W:World}{g i:Nat}(h:W.heap[g]?=w.heap[g]?):W.cell? ⟨g,i,none⟩=w.cell? ⟨g,i,none⟩:=by
 unfold World.cell?
 simp only[h]
theorem ur.keep {w W:World}{g n:Nat}{l:List (List UInt8)}(h:ur w (some ⟨g,0,none⟩) n l) (hs:w.heap.size<=W.heap.size) (e:W.heap[g]?=w.heap[g]?):ur W (some ⟨g,0,none⟩) n l :=
 ⟨h.1,λk hk=>by
  obtain⟨ad,e0,hlt,hc⟩:=h.2 k hk
  cases e0
  refine⟨_,rfl,Nat.lt_of_lt_of_le hlt hs,?_⟩
  rw[Addr.add_lit]at hc ⊢
  rw[kU e]
  exact hc⟩
theorem ur.lit {w:World}{g n:Nat}{l:List (List UInt8)}(h:ur w (some ⟨g,0,none⟩) n l) {k:Nat}(hk:k<n):w.cell? ⟨g,k,none⟩=some (.string (sb (l.getD k []))):=by
 obtain⟨_,e0,_,hc⟩:=h.2 k hk
 cases e0
 rw[Addr.add_lit,Nat.zero_add]at hc
 exact hc
theorem ur.tail {w:World}{g n:Nat}{x:List UInt8}{l:List (List UInt8)}(h:ur w (some ⟨g,0,none⟩) (n+1) (x::l)):ur w (some ⟨g,1,none⟩) n l :=
 ⟨by have:=h.1;rw[List.length_cons]at this;omega,λk hk=>by
  have hc:=h.lit (k:=k+1) (by omega)
  obtain⟨_,e0,hlt,_⟩:=h.2 0 (by omega)
  cases e0
  refine⟨_,rfl,hlt,?_⟩
  rw[Addr.add_lit,Nat.add_comm]
  exact hc⟩
theorem xI {α:Type} [Inhabited α] {l:List α}{k:Nat}(h:k<l.length):l.take (k+1)=l.take k++[pix l k]:=by
 rw[List.take_add_one,List.getElem?_eq_getElem h]
 simp[pix,h]
theorem MR.at_ {lo:Nat}{w:World}{vp vt:Value}{l:List PtD}{t:List qC}(h:MR lo w vp vt l t) (hl:0<l.length) (ht:0<t.length) (hl2:l.length<=1048576) (ht2:t.length<=1048576) :
  ∃gp c gt d,vp=.slice (some ⟨gp,0,none⟩) l.length c/\vt=.slice (some ⟨gt,0,none⟩) t.length d/\qR w (some ⟨gp,0,none⟩) l.length c l/\zx w (some ⟨gt,0,none⟩) t.length d t:=by
 obtain⟨gp,c,e1,_,hp⟩:=h.1.lit hl hl2
 have h2:=h.2.1
 obtain⟨cells',fs',s1,s2,s3,s4,s5,s6,s7⟩:=h2
 rcases s1.2 with ⟨rfl,h0⟩ |⟨g',cap',cur',rfl,hg',hh',hn',hcap',hcs',htk'⟩
 ·omega
 refine⟨gp,c,g',cap',e1,rfl,hp,rfl,hn',by omega,λk hk=>⟨_,rfl,qV hh',?_⟩⟩
 have h5:=(s4 k hk).1
 have hc:∀ j,j < 5->w.cell? ⟨g',k * 5+j,none⟩=cells'.toArray[k * 5+j]?:=by
  intro j hj
  rw[show w.cell? ⟨g',k*5+j,none⟩=cur'[k*5+j]? from Blk.cell (T:=83) hh' _,<-htk']
  have:k*5+j<t.length*5:=by omega
  simp[this]
 obtain⟨g0,g1,g2,g3,g4⟩:=h5
 rw[Addr.add_lit,Nat.zero_add]
 exact⟨(hc 0 (by omega)).trans g0,(hc 1 (by omega)).trans g1,(hc 2 (by omega)).trans g2,(hc 3 (by omega)).trans g3,(hc 4 (by omega)).trans g4⟩
theorem qef {L:List PtD}{ts:List qC}{k:Nat}(h:k<L.length):(lns L ts).getD k []=lP (pix L k):=by
 unfold lns
 rw[List.getD_eq_getElem?_getD,List.getElem?_append_left (by rw[List.length_map];exact h)]
 simp[pix,h]
theorem qeo {L:List PtD}{ts:List qC}{k:Nat}(h1:¬k<L.length) (h2:k-L.length<ts.length):(lns L ts).getD k []=lT (pix ts (k-L.length)):=by
 unfold lns
 rw[List.getD_eq_getElem?_getD,List.getElem?_append_right (by rw[List.length_map];omega)]
 simp[pix,h2]
theorem Ve (w:World) {mq:MeQ}(hok:za mq) (hE:Env w) :
  Calls Tryz.prog 26 #[.string (sb (VV (mq.pts.map tp) mq.tris))] w λe w'=>∃gp n cp gt m ct,e=.returned (.tuple #[.agg #[.slice (some ⟨gp,0,none⟩) n cp,.slice (some ⟨gt,0,none⟩) m ct],.bool true])/\qR w' (some ⟨gp,0,none⟩) n cp (mq.pts.map tp)/\zx w' (some ⟨gt,0,none⟩) m ct mq.tris/\Bl w w':=by
 have hfm:=λ(W:World) (v:Value) (h:vO W v mq) (hb:Bl w W)=>Q6 W h hok (hE.bl hb)
 replace hfm:=Lib.hid hfm
 have hpo:=Lib.hid hok.pts
 have hto:=Lib.hid hok.trs
 obtain⟨n3,n40,t1,t48,-,-,-,-,-,-,-,-⟩:=hok
 unfold vO at hfm
 obtain⟨L,hL⟩:∃L,mq.pts.map tp=L:=⟨_,rfl⟩
 have hln:L.length=mq.pts.length:=by rw[<-hL,List.length_map]
 obtain⟨ts,hts⟩:∃ts,mq.tris=ts:=⟨_,rfl⟩
 rw[hL,hts]at hfm
 rw[<-hln]at hpo n3 n40
 rw[hL]at hpo
 rw[hts]at hto t1 t48
 rw[hL,hts]
 clear hL hts hln
 obtain⟨n,hn⟩:∃n,L.length=n:=⟨_,rfl⟩
 obtain⟨m,hm⟩:∃m,ts.length=m:=⟨_,rfl⟩
 have hlenT:=Uh (L:=L) (ts:=ts) hpo.out hto.out n40 t48
 have hpcs:=qal (L:=L) (ts:=ts) hpo.out
 have hll:(lns L ts).length=n+m:=by unfold lns;rw[List.length_append,List.length_map,List.length_map,hn,hm]
 have hne:(sb (VV L ts)).toList.isEmpty=false:=by
  rw[jD]
  cases hq:VV L ts with
  | nil=>rw[hq,vL (by simp)]at hpcs;have:=congrArg List.length hpcs;rw[List.length_append,hll]at this;simp at this;omega
  | cons _ _=>rfl
 obtain⟨q,hqn⟩:∃q,n+m=q:=⟨_,rfl⟩
 rw[hqn]at hll
 have hsl:=λ(W:World) (hb:Bl w W)=>Y3 W hpcs (by omega) (by omega) (hE.bl hb)
 rw[hll]at hsl
 replace hsl:=Lib.hid hsl
 replace hE:=Lib.hid hE
 rw[hn]at hpo n3 n40
 rw[hm]at hto t1 t48
 replace hne:=Lib.hid hne
 have hnH:=Lib.hid hn
 have hmH:=Lib.hid hm
 clear hpcs hlenT hn hm
 obtain⟨tx,htx⟩:∃tx,VV L ts=tx:=⟨_,rfl⟩
 rw[htx]at hsl hne hfm ⊢
 clear htx
 go_enter Tryz.func26,Tryz.ntmps26
 go_upto_region 2 with (fail)
 refine qe (λW=>Bl w W/\∃g2 g4,Wk 2 49 g2 W/\Blk W g4 49 #[.slice none 0 0,.slice none 0 0]/\w.heap.size<=g2/\g2<g4/\g2=w.heap.size/\g4=w.heap.size+1) ⟨by exact slc,_,_,by exact bts,by exact bts,by omega,by omega,rfl,rfl⟩ ?_
 rintro W0 ⟨hb0,g2,g4,hk2,hg4,hw2,h24,e2,e4⟩
 rw[<-e4,<-e2]
 clear e2 e4
 have hg4l:=hg4.lt
 go_wp2_with (go_at_call 58;refine(hsl.out _ hb0).mono ?_;rintro e w1 ⟨gl,cl,rfl,hRl,hb1⟩)
 have hgl:gl<w1.heap.size:=by obtain⟨_,e0,hlt,_⟩:=hRl.2 0 (by omega);cases e0;exact hlt
 have hg41:=hg4.bl hb1
 have hk21:=hk2.bl hb1
 have hgl4:gl≠g4:=by
  intro e
  subst e
  have h1:=hRl.lit (k:=0) (by omega)
  rw[(hg4.bl hb1).cell 0]at h1
  cases h1
 have hcP:((sb [112]).toList == [112])=true:=by rw[jD];rfl
 have hcPT:((sb [116]).toList == [112])=false:=by rw[jD];rfl
 have hcT:((sb [116]).toList == [116])=true:=by rw[jD];rfl
 have hbw1:=hb0.next hb1
 have hs1:=hb1.size
 clear hg4 hk2
 go_loopw [15] (λv wr=>∃(k:Nat) (vp vt:Value),k<=q/\v=.int .i64 (k:Int)/\Blk wr g4 49 #[vp,vt]/\MR w1.heap.size wr vp vt (L.take k) (ts.take (k-n))/\Bl w wr/\w1.heap.size<=wr.heap.size/\(∀b,b<w1.heap.size->b≠g4->wr.heap[b]?=w1.heap[b]?)) (λv _=>q-(intOf v).toNat)
 case atStart=>exact⟨0,_,_,Nat.zero_le _,rfl,hg41,by rw[List.take_zero,Nat.zero_sub,List.take_zero];exact MR.nil _,hbw1,Nat.le_refl _,λ_ _ _=>rfl⟩
 case round=>
  clear hg41
  obtain⟨k,vp,vt,hk,rfl,hg4,hM,hbw,hsz,hkp⟩:=hrel
  obtain⟨wo,rfl⟩:∃wo:World,wo=wr:=⟨_,rfl⟩
  have hRo:=hRl.keep hsz (hkp gl hgl hgl4)
  by_cases hkn:k<n
  ·have hki:(k:Int)<(q:Int):=by omega
   have hline:=hRo.lit (k:=k) (by omega)
   rw[qef (by rw[hnH.out];exact hkn)]at hline
   have hOk:=Lib.hid (hpo.out k hkn)
   have hpl:=uq hOk.out
   obtain⟨hpt,hqp⟩:=qaj hOk.out
   have hpB:ptB (bl (sb (ptx (pix L k))))=true:=by rw[X7];exact kG hpt
   have hpV:ptV (bl (sb (ptx (pix L k))))=pix L k:=by rw[X7];unfold ptV;rw[if_pos hpt];exact hqp
   have hpp:=λ(W:World) (hb:Bl wo W)=>vl W (sb (ptx (pix L k))) (by rw[zt];omega) (hE.out.bl (hbw.next hb))
   rw[hpB,hpV]at hpp
   have hsp:=λ(W:World) (hb:Bl wo W)=>YF W 32 (lP (pix L k)) (by unfold lP;simp only[List.length_cons];omega) (hE.out.bl (hbw.next hb))
   rw[qdw hOk.out]at hsp
   replace hpp:=Lib.hid hpp
   replace hsp:=Lib.hid hsp
   have htk:=Lib.hid (xI (l:=L) (k:=k) (by rw[hnH.out];exact hkn))
   have htt:k+1-n=k-n:=by omega
   clear hpt hqp hpB hpV hpl hOk
   generalize lP (pix L k)=ln at hline hsp
   generalize ptx (pix L k)=px at hsp hpp
   generalize pix L k=p at hpp htk
   go_upto_region 6 with (go_at_call 59;refine(hsp.out _ (by exact slc)).mono ?_;rintro e w2 ⟨gw,rfl,hRw,hb2⟩)
   have hw0:=hRw.lit (k:=0) (by simp)
   have hw1:=hRw.lit (k:=1) (by simp)
   have hgw:gw<w2.heap.size:=by obtain⟨_,e0,hlt,_⟩:=hRw.2 0 (by simp);cases e0;exact hlt
   simp only[List.getD_cons_zero,List.getD_cons_succ]at hw0 hw1
   clear hRw hline
   have hb02:=hb2.size
   go_upto_region 9 with (fail)
   refine qe (λW=>Bl w2 W/\∃g9,Blk W g9 28 #[.bool false,.slice none 0 0,.slice none 0 0,.bool false,.slice none 0 0,.slice none 0 0]/\g9=w2.heap.size) ⟨by exact slc,_,by exact bts,rfl⟩ ?_
   rintro W3 ⟨hb3,g9,hg9,h9⟩
   rw[<-h9]
   have hle9:w2.heap.size<=g9:=Nat.le_of_eq h9.symm
   clear h9
   have hw1:=(Bl.qeV (p:=⟨gw,1,none⟩) hb3 hgw).trans hw1
   have hbo3:=hb2.next hb3
   clear hw0 hb2 hb3
   obtain⟨x0,x1,x2,x3,x4,x5⟩:=bx6 hg9
   have hg9l:=hg9.lt
   go_upto_region 10 with (go_at_call 7;refine(hpp.out _ hbo3).mono ?_;rintro e w4 ⟨s1,A1,n1,c1,B1,m1,d1,t1,C1,i1,e1,D1,j1,f1,rfl,hP,hb4⟩;have hg9:=hg9.bl hb4;have zf0:=hg9.frozen 0;have zf1:=hg9.frozen 1;have zf2:=hg9.frozen 2;have zf3:=hg9.frozen 3;have zf4:=hg9.frozen 4;have zf5:=hg9.frozen 5;obtain⟨y0,y1,y2,y3,y4,y5⟩:=bx6 hg9)
   refine qe (λW=>Bl wo W/\Blk W g9 28 #[.bool s1,.slice A1 n1 c1,.slice B1 m1 d1,.bool t1,.slice C1 i1 e1,.slice D1 j1 f1]/\OwP 3 wo.heap.size W s1 A1 n1 c1 B1 m1 d1 t1 C1 i1 e1 D1 j1 f1 p) ⟨?g1,?g2,?g3⟩ ?_
   case g1=>exact Bl.set (Bl.set (Bl.set (Bl.set (Bl.set (Bl.set (hbo3.next hb4) (by simp;omega) _) (by simp;omega) _) (by simp;omega) _) (by simp;omega) _) (by simp;omega) _) (by simp;omega) _
   case g2=>simpa using (((((hg9.set_ 0 (.bool s1)).set_ 1 (.slice A1 n1 c1)).set_ 2 (.slice B1 m1 d1)).set_ 3 (.bool t1)).set_ 4 (.slice C1 i1 e1)).set_ 5 (.slice D1 j1 f1)
   case g3=>exact OwP.low ((((((hP.far (q:=⟨g9,0,none⟩) hg9l _).far (q:=⟨g9,1,none⟩) hg9l _).far (q:=⟨g9,2,none⟩) hg9l _).far (q:=⟨g9,3,none⟩) hg9l _).far (q:=⟨g9,4,none⟩) hg9l _).far (q:=⟨g9,5,none⟩) hg9l _) hbo3.size
   clear y0 y1 y2 y3 y4 y5 zf0 zf1 zf2 zf3 zf4 zf5 hg9 hP hb4 x0 x1 x2 x3 x4 x5 hbo3
   rintro W5 ⟨hb5,hg9,hP⟩
   have hrow4:=qO.bl (qx 3) hM.1 hb5
   have hM4:=hM.bl hb5
   have hP4:=zw.sep (vt:=vt) hP (λg e=>(hM.2.1.lo e).2)
   have hg45:=hg4.bl hb5
   have hbw5:=hbw.next hb5
   obtain⟨x0,x1⟩:=bx2 hg45
   obtain⟨y0,y1,y2,y3,y4,y5⟩:=bx6 hg9
   have hl1:(L.take k).length=k:=by rw[List.length_take,hnH.out];omega
   have hl8:(L.take (k+1)).length=k+1:=by rw[List.length_take,hnH.out];omega
   have hlo:w.heap.size<=w1.heap.size:=hbw1.size
   obtain⟨At,ct,evt⟩:=qO.shapeN hM.2.1
   have hnt:(ts.take (k-n)).length<=48:=by rw[List.length_take,hmH.out];omega
   generalize (ts.take (k-n)).length=nt at evt hnt
   subst evt
   have d40:¬(40:Int)<(k:Int)+1:=by omega
   have d40':(k:Int)+1<=40:=by omega
   have d48:¬(48:Int)<(nt:Int):=by omega
   have d48':(nt:Int)<=48:=by omega
   have hlo9:∀g,vp.ownBlock=some g->w1.heap.size<=g:=λg e=>(hM.1.lo e).1
   go_wp2_with (at_builtin;(refine Z5 (Um _) rfl (.tmp 39) (.tmp 41) rfl _ (by rfl) hrow4 hP4 (Nat.le_refl _) hsz 1 (by rfl) (by rw[hl1];omega) w hbw5 hlo ?_);intro v' w8 hrow' hb8 hoth;rw[<-htk.out]at hrow';obtain⟨A8,c8,e8⟩:=qO.shapeN hrow';rw[hl8]at e8;subst e8;have hg48:=hg45.oth hoth.2 (λe=>by have:=hlo9 _ e;omega);have zf0:=hg48.frozen 0;obtain⟨z0,z1⟩:=bx2 hg48)
   go_roundw
   case rel=>exact⟨k+1,.slice A8 (k+1) c8,.slice At nt ct,by omega,by go_num,by simpa using hg48.set_ 0 (.slice A8 (k+1) c8),by rw[htt];exact(hM4.afterP hrow' hoth.2 hoth.1).set (q:=⟨g4,0,none⟩) (by show g4<w1.heap.size;omega) _,Bl.set hb8 (by show w.heap.size<=g4;omega) _,by have h1:=hoth.1;have h2:=hb5.size;simp;omega,λb h1 h2=>(Below.heap_setCell _ _ _ _ h2).trans ((hoth.2 b (by have:=hb5.size;omega) (λe=>by have:=hlo9 _ e;omega)).1.trans ((hb5.block b (by omega)).trans (hkp b h1 h2)))⟩
   case measure=>simp[intOf];omega
  ·by_cases hkq:k<q
   ·have hki:(k:Int)<(q:Int):=by omega
    have hline:=hRo.lit (k:=k) (by omega)
    rw[qeo (by rw[hnH.out];exact hkn) (by rw[hnH.out,hmH.out];omega),hnH.out]at hline
    have hTo:=Lib.hid (hto.out (k-n) (by omega))
    have hsp:∀W,Bl wo W->Calls Tryz.prog 59 #[.string (sb (lT (pix ts (k-n)))),.string (sb [32])] W λe w'=>∃g,e=.returned (.slice (some ⟨g,0,none⟩) 6 6)/\ur w' (some ⟨g,0,none⟩) (5+1) ([116]::(trN (pix ts (k-n))).map dD)/\Bl W w':=λW hb=>by
     have hlt:=um hTo.out
     have h:=YF W 32 (lT (pix ts (k-n))) (by unfold lnT at hlt;unfold lT;simp only[List.length_cons,List.length_append,List.length_nil]at hlt ⊢;omega) (hE.out.bl (hbw.next hb))
     rw[qdb]at h
     exact h
    replace hsp:=Lib.hid hsp
    have htk:=Lib.hid (xI (l:=ts) (k:=k-n) (by rw[hmH.out];omega))
    have htt:k+1-n=k-n+1:=by omega
    generalize lT (pix ts (k-n))=ln at hline hsp
    go_upto_region 6 with (go_at_call 59;refine(hsp.out _ (by exact slc)).mono ?_;rintro e w2 ⟨gw,rfl,hRw,hb2⟩)
    have hw0:=hRw.lit (k:=0) (by omega)
    simp only[List.getD_cons_zero]at hw0
    have hRt:=hRw.tail
    clear hRw hline
    go_upto_region 13 with (fail)
    refine qe (λW=>Bl w2 W/\∃g9,Blk W g9 83 #[.int .i64 0,.int .i64 0,.int .i64 0,.int .i64 0,.int .i64 0]/\g9=w2.heap.size) ⟨by exact slc,_,by exact bts,rfl⟩ ?_
    rintro W3 ⟨hb3,g9,hg9,h9⟩
    rw[<-h9]
    have hle9:w2.heap.size<=g9:=Nat.le_of_eq h9.symm
    clear h9
    have hRt:=hRt.bl hb3
    have hbo3:=hb2.next hb3
    have hzo2:=hb2.size
    clear hw0 hb2 hb3
    obtain⟨x0,x1,x2,x3,x4⟩:=bx5 hg9
    have hg9l:=hg9.lt
    go_upto_region 14 with (go_at_call 60;refine(ud _ hRt hTo.out (hE.out.bl (hbw.next hbo3))).mono ?_;rintro e w4 ⟨rfl,hb4⟩;have hg9:=hg9.bl hb4;have zf0:=hg9.frozen 0;have zf1:=hg9.frozen 1;have zf2:=hg9.frozen 2;have zf3:=hg9.frozen 3;have zf4:=hg9.frozen 4;obtain⟨y0,y1,y2,y3,y4⟩:=bx5 hg9)
    refine qe (λW=>Bl wo W/\Blk W g9 83 #[.int .i64 (pix ts (k-n)).a,.int .i64 (pix ts (k-n)).b,.int .i64 (pix ts (k-n)).c,.int .i64 (pix ts (k-n)).region,.int .i64 (pix ts (k-n)).level]) ⟨?g1,?g2⟩ ?_
    case g1=>exact Bl.set (Bl.set (Bl.set (Bl.set (Bl.set (hbo3.next hb4) (by simp;omega) _) (by simp;omega) _) (by simp;omega) _) (by simp;omega) _) (by simp;omega) _
    case g2=>simpa using ((((hg9.set_ 0 (.int .i64 (pix ts (k-n)).a)).set_ 1 (.int .i64 (pix ts (k-n)).b)).set_ 2 (.int .i64 (pix ts (k-n)).c)).set_ 3 (.int .i64 (pix ts (k-n)).region)).set_ 4 (.int .i64 (pix ts (k-n)).level)
    clear y0 y1 y2 y3 y4 zf0 zf1 zf2 zf3 zf4 hg9 hb4 x0 x1 x2 x3 x4 hbo3 hRt
    rintro W5 ⟨hb5,hg9⟩
    have hrow4:=qO.bl ZX hM.2.1 hb5
    have hM4:=hM.bl hb5
    have hg45:=hg4.bl hb5
    have hbw5:=hbw.next hb5
    obtain⟨x0,x1⟩:=bx2 hg45
    obtain⟨y0,y1,y2,y3,y4⟩:=bx5 hg9
    have hl1:(ts.take (k-n)).length=k-n:=by rw[List.length_take,hmH.out];omega
    have hl8:(ts.take (k-n+1)).length=k-n+1:=by rw[List.length_take,hmH.out];omega
    have hlo:w.heap.size<=w1.heap.size:=hbw1.size
    obtain⟨Ap,cp,evp⟩:=qO.shapeN hM.1
    have hnp:(L.take k).length<=40:=by rw[List.length_take,hnH.out];omega
    generalize hnpe:(L.take k).length=np at evp hnp
    subst evp
    obtain⟨j,hj⟩:∃j,k-n=j:=⟨_,rfl⟩
    rw[hj]at hl8 htk hl1 htt hrow4 hM4 hM
    have d40:¬(40:Int)<(np:Int):=by omega
    have d40':(np:Int)<=40:=by omega
    have d48:¬(48:Int)<(j:Int)+1:=by omega
    have d48':(j:Int)+1<=48:=by omega
    have hlo9:∀g,vt.ownBlock=some g->w1.heap.size<=g:=λg e=>(hM.2.1.lo e).1
    have hLk:L.take (k+1)=L.take k:=by rw[List.take_of_length_le (by rw[hnH.out];omega),List.take_of_length_le (by rw[hnH.out];omega)]
    go_wp2_with (at_builtin;(refine ZI rfl (.tmp 56) (.tmp 58) rfl _ (by rfl) hrow4 hsz 1 (by rfl) (by rw[hl1];omega) w hbw5 hlo ?_);intro v' w8 hrow' hb8 hoth;have hrow':qaK w1.heap.size w8.heap.size w8 v' (ts.take j++[pix ts j]):=(by rw[<-hj];rw[<-hj]at hrow';exact hrow');rw[<-htk.out]at hrow';obtain⟨A8,c8,e8⟩:=qO.shapeN hrow';rw[hl8]at e8;subst e8;have hg48:=hg45.oth hoth.2 (λe=>by have:=hlo9 _ e;omega);have zf1:=hg48.frozen 1;obtain⟨z0,z1⟩:=bx2 hg48)
    go_roundw
    case rel=>exact⟨k+1,.slice Ap np cp,.slice A8 (j+1) c8,by omega,by go_num,by simpa using hg48.set_ 1 (.slice A8 (j+1) c8),by rw[htt,hLk];exact(hM4.afterT hrow' hoth.2 hoth.1).set (q:=⟨g4,1,none⟩) (by show g4<w1.heap.size;omega) _,Bl.set hb8 (by show w.heap.size<=g4;omega) _,by have h1:=hoth.1;have h2:=hb5.size;simp;omega,λb h1 h2=>(Below.heap_setCell _ _ _ _ h2).trans ((hoth.2 b (by have:=hb5.size;omega) (λe=>by have:=hlo9 _ e;omega)).1.trans ((hb5.block b (by omega)).trans (hkp b h1 h2)))⟩
    case measure=>simp[intOf];omega
   ·obtain rfl:k=q:=by omega
    have hkm2:¬(k:Int)<(k:Int):=by omega
    rw[List.take_of_length_le (show L.length<=k by rw[hnH.out];omega),List.take_of_length_le (show ts.length<=k-n by rw[hmH.out];omega)]at hM
    obtain⟨gp,cp,gt,ct,rfl,rfl,hRp,hRt⟩:=hM.at_ (by rw[hnH.out];omega) (by rw[hmH.out];omega) (by rw[hnH.out];omega) (by rw[hmH.out];omega)
    rw[hnH.out]at hRp hg4
    rw[hmH.out]at hRt hg4
    obtain⟨cs2,hB2,hc2⟩:=hk21
    have hk2o:Wk 2 49 g2 wo:=⟨cs2,hB2.heap (hkp g2 (by omega) (by omega)),hc2⟩
    obtain⟨x0,x1⟩:=bx2 hg4
    rw[hnH.out,hmH.out]at hM
    have hMo:=Lib.hid hM
    clear hM
    go_upto_region 20 with (go_at_call 27;refine(hfm.out _ _ ⟨_,_,_,_,_,_,rfl,hRp,hRt⟩ hbw).mono ?_;rintro e w4 ⟨rfl,hb4⟩;obtain⟨y0,y1⟩:=bx2 (hg4.bl hb4);have hne9:=hne.out)
    have hk9:=hk2o.bl hb4
    obtain⟨v0,z0⟩:=hk9.val_ (i:=0) (by omega)
    obtain⟨v1,z1⟩:=hk9.val_ (i:=1) (by omega)
    have hB9:=hk9.blk
    have hf0:=hB9.frozen 0
    have hf1:=hB9.frozen 1
    have hgr:=hk9.lt
    clear hRp hRt
    go_wp2_with fail
    have hMf:=((hMo.out.bl hb4).set (q:=⟨g2,0,none⟩) (by show g2<w1.heap.size;omega) (.slice (some ⟨gp,0,none⟩) n cp)).set (q:=⟨g2,1,none⟩) (by show g2<w1.heap.size;omega) (.slice (some ⟨gt,0,none⟩) m ct)
    obtain⟨gp',cp',gt',ct',e1,e2,r1,r2⟩:=hMf.at_ (by rw[hnH.out];omega) (by rw[hmH.out];omega) (by rw[hnH.out];omega) (by rw[hmH.out];omega)
    rw[hnH.out]at e1 r1
    rw[hmH.out]at e2 r2
    cases e1
    cases e2
    refine bodyPost_ret (v:=.tuple #[.agg #[.slice (some ⟨gp,0,none⟩) n cp,.slice (some ⟨gt,0,none⟩) m ct],.bool true]) (by simp[results,Tryz.results26,go_sem,z0,z1]) rfl ⟨gp,n,cp,gt,m,ct,rfl,r1,r2,Bl.set (Bl.set (hbw.next hb4) (show w.heap.size<=g2 from hw2) _) (show w.heap.size<=g2 from hw2) _⟩
def okT (n:Nat) (xs ys:List Int) (ts:List qC):Bool :=
 decide (Y7 n ts) && (decide (∀ k, k < ts.length -> (0 <= (pix ts k).region /\ (pix ts k).region <= 2) /\ 0 <= (pix ts k).level /\ (pix ts k).level <= 60) &&
  (decide (∀ k, k < ts.length -> 0 < trn xs ys (pix ts k).a (pix ts k).b (pix ts k).c) &&
   (decide (∀ k, k < ts.length -> ∀ j, j < k -> JA xs ys (pix ts j) (pix ts k) = true \/ JA xs ys (pix ts k) (pix ts j) = true) &&
    (decide (∀k,k<n->zY ts ts.length k=true)&&decide (qa4 n xs ys ts)))))
theorem xZ {ts:List qC}{i:Nat}:∀{k:Nat},zY ts k i=true->∃j,j<k/\((pix ts j).a=i\/(pix ts j).b=i\/(pix ts j).c=i)
 | 0,h=>by cases h
 | k+1,h=>by
  unfold zY at h
  simp only[Bool.or_eq_true,decide_eq_true_eq]at h
  rcases h with h|h
  ·obtain⟨j,hj,h2⟩:=xZ h
   exact⟨j,by omega,h2⟩
  ·exact⟨k,by omega,h⟩
def okP (pts:List (Rat × Rat)):Bool :=
 decide (∀k,k<pts.length->∀j,j<k->pix pts k≠pix pts j)&&(decide (∀k,k<pts.length->SmQ (pix pts k).1/\SmQ (pix pts k).2)&&decide (∀k,k<pts.length->shS (VT pts k) (pix pts k).1.den<=268435456/\VT pts (k+1)<=268435456))
theorem za.of {m:MeQ}(n:Nat) (xs ys:List Int) (hn:m.pts.length=n) (hx:Qf m.pts n=xs) (hy:yZ m.pts n=ys) (h1:(3<=n/\n<=40)/\1<=m.tris.length/\m.tris.length<=48) (h2:okP m.pts=true) (h3:PlB n xs ys) (h4:okT n xs ys m.tris=true):za m:=by
 unfold okP at h2
 unfold okT at h4
 simp only[Bool.and_eq_true,decide_eq_true_eq]at h2 h4
 obtain⟨a1,a2,a3⟩:=h2
 obtain⟨b1,b2,b3,b4,b5,b6⟩:=h4
 subst hn
 subst hx
 subst hy
 exact⟨h1.1.1,h1.1.2,h1.2.1,h1.2.2,a1,⟨a2,a3,h3⟩,b1,b2,b3,b4,λk hk=>xZ (b5 k hk),b6⟩
def qp1 (x y:Nat):Rat × Rat:=(mkRat (x:Int) 1,mkRat (y:Int) 1)
end Go.Proofs.YtjaapemopbbfaaaGreatDoor
