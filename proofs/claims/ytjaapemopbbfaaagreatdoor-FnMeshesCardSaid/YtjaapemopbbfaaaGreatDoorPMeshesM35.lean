import Derived.Test.YtjaapemopbbfaaaGreatDoorPMeshesM34
namespace Go.Proofs.YtjaapemopbbfaaaGreatDoor
open Go.RowKit
set_option maxRecDepth 100000
set_option maxHeartbeats 32000000
def RdV (w:World) (v0 v1 v2:Value) (r:qH):Prop:=∃s A n c B m d,v0=.bool s/\v1=.slice A n c/\v2=.slice B m d/\RdR w s A n c B m d r
theorem RdV.bl {w W:World}{v0 v1 v2:Value}{r:qH}(h:RdV w v0 v1 v2 r) (hb:Bl w W):RdV W v0 v1 v2 r:=by
 obtain⟨s,A,n,c,B,m,d,h0,h1,h2,h⟩:=h
 exact⟨s,A,n,c,B,m,d,h0,h1,h2,h.bl hb⟩
def RdW (F:Bool->Option Addr->Nat->Nat->Option Addr->Nat->Nat->qH->Prop) (w:World) (v0 v1 v2:Value) (r:qH):Prop:=∃s A n c B m d,v0=.bool s/\v1=.slice A n c/\v2=.slice B m d/\RdR w s A n c B m d r/\F s A n c B m d r
theorem RdW.rd {F:Bool->Option Addr->Nat->Nat->Option Addr->Nat->Nat->qH->Prop}{w:World}{v0 v1 v2:Value}{r:qH}(h:RdW F w v0 v1 v2 r):RdV w v0 v1 v2 r:=by
 obtain⟨s,A,n,c,B,m,d,h0,h1,h2,h,_⟩:=h
 exact⟨s,A,n,c,B,m,d,h0,h1,h2,h⟩
def PtW (F:Bool->Option Addr->Nat->Nat->Option Addr->Nat->Nat->qH->Prop) (w:World) (p:Addr) (x:PtD):Prop :=
 ∃s A n c B m d t C i e D j f,(w.cell? p=some (.bool s)/\w.cell? ⟨p.block,p.off+1,none⟩=some (.slice A n c)/\w.cell? ⟨p.block,p.off+2,none⟩=some (.slice B m d)/\w.cell? ⟨p.block,p.off+3,none⟩=some (.bool t)/\w.cell? ⟨p.block,p.off+4,none⟩=some (.slice C i e)/\w.cell? ⟨p.block,p.off+5,none⟩=some (.slice D j f))/\(RdR w s A n c B m d x.x/\F s A n c B m d x.x)/\(RdR w t C i e D j f x.y/\F t C i e D j f x.y)
structure BxQ where
 l:Rat
 r:Rat
 lo:Rat
 hi:Rat
 deriving DecidableEq
def bx1 (b:BxQ) (p:Rat × Rat):BxQ:=⟨if p.1<b.l then p.1 else b.l,b.r,b.lo,b.hi⟩
def JE (b:BxQ) (p:Rat × Rat):BxQ:=⟨b.l,if b.r<p.1 then p.1 else b.r,b.lo,b.hi⟩
def Xq (b:BxQ) (p:Rat × Rat):BxQ:=⟨b.l,b.r,if p.2<b.lo then p.2 else b.lo,b.hi⟩
def qdP (b:BxQ) (p:Rat × Rat):BxQ:=⟨b.l,b.r,b.lo,if b.hi<p.2 then p.2 else b.hi⟩
def bxS (b:BxQ) (p:Rat × Rat):BxQ:=qdP (Xq (JE (bx1 b p) p) p) p
def Ui (l:List (Rat × Rat)):Nat->BxQ
 | 0=>⟨(pix l 0).1,(pix l 0).1,(pix l 0).2,(pix l 0).2⟩
 | k+1=>bxS (Ui l k) (pix l k)
def bxA (l:List (Rat × Rat)):BxQ:=Ui l l.length
def XK (b:BxQ):Prop:=(Bd 17 b.l/\Bd 17 b.r)/\Bd 17 b.lo/\Bd 17 b.hi
theorem XK.step {b:BxQ}{p:Rat × Rat}(h:XK b) (hp:Bd 17 p.1/\Bd 17 p.2):XK (bx1 b p)/\XK (JE b p)/\XK (Xq b p)/\XK (qdP b p):=by
 obtain⟨⟨h1,h2⟩,h3,h4⟩:=h
 refine⟨⟨⟨?_,h2⟩,h3,h4⟩,⟨⟨h1,?_⟩,h3,h4⟩,⟨⟨h1,h2⟩,?_,h4⟩,⟨⟨h1,h2⟩,h3,?_⟩⟩
 ·show Bd 17 (if p.1<b.l then p.1 else b.l)
  split
  ·exact hp.1
  ·exact h1
 ·show Bd 17 (if b.r<p.1 then p.1 else b.r)
  split
  ·exact hp.1
  ·exact h2
 ·show Bd 17 (if p.2<b.lo then p.2 else b.lo)
  split
  ·exact hp.2
  ·exact h3
 ·show Bd 17 (if b.hi<p.2 then p.2 else b.hi)
  split
  ·exact hp.2
  ·exact h4
theorem XK.all {b:BxQ}{p:Rat × Rat}(h:XK b) (hp:Bd 17 p.1/\Bd 17 p.2):XK (bxS b p):=((((h.step hp).1.step hp).2.1.step hp).2.2.1.step hp).2.2.2
theorem Yf {l:List (Rat × Rat)}(hs:∀k,k<l.length->Sm2 (pix l k)) (h0:0<l.length):∀k,k<=l.length->XK (Ui l k)
 | 0,_=>⟨⟨(hs 0 h0).1,(hs 0 h0).1⟩,(hs 0 h0).2,(hs 0 h0).2⟩
 | k+1,hk=>(Yf hs h0 k (by omega)).all (hs k (by omega))
theorem Qj {p q:Rat}(hp:Bd 17 p) (hq:Bd 17 q):(OkR (toR p)/\OkR (toR q))/\JL (toR p) (toR q)=if p<q then -1 else if q<p then 1 else 0 :=
 ⟨⟨(hp.fit (by decide)).ok,(hq.fit (by decide)).ok⟩,qa0 (hp.fit (by decide)) (hq.fit (by decide))⟩
theorem yO {w:World}{g:Nat}{T:TypeId}{v0 v1 v2 v3 v4 v5 v6 v7 v8 v9 v10 v11:Value}(h:Blk w g T #[v0,v1,v2,v3,v4,v5,v6,v7,v8,v9,v10,v11]):w.cell? ⟨g,0,none⟩=some v0/\w.cell? ⟨g,1,none⟩=some v1/\w.cell? ⟨g,2,none⟩=some v2/\w.cell? ⟨g,3,none⟩=some v3/\w.cell? ⟨g,4,none⟩=some v4/\w.cell? ⟨g,5,none⟩=some v5/\w.cell? ⟨g,6,none⟩=some v6/\w.cell? ⟨g,7,none⟩=some v7/\w.cell? ⟨g,8,none⟩=some v8/\w.cell? ⟨g,9,none⟩=some v9/\w.cell? ⟨g,10,none⟩=some v10/\w.cell? ⟨g,11,none⟩=some v11:=⟨h.cell 0,h.cell 1,h.cell 2,h.cell 3,h.cell 4,h.cell 5,h.cell 6,h.cell 7,h.cell 8,h.cell 9,h.cell 10,h.cell 11⟩
def qdu (F:Bool->Option Addr->Nat->Nat->Option Addr->Nat->Nat->qH->Prop) (w:World) (b:BxQ) (e:Ending) (w':World):Prop:=∃u0 u1 u2 u3 u4 u5 u6 u7 u8 u9 u10 u11,e=.returned (.agg #[u0,u1,u2,u3,u4,u5,u6,u7,u8,u9,u10,u11])/\(RdW F w' u0 u1 u2 (toR b.l)/\RdW F w' u3 u4 u5 (toR b.r)/\RdW F w' u6 u7 u8 (toR b.lo)/\RdW F w' u9 u10 u11 (toR b.hi))/\Bl w w'
def qep (w:World) (b:BxQ) (e:Ending) (w':World):Prop:=∃u0 u1 u2 u3 u4 u5 u6 u7 u8 u9 u10 u11,e=.returned (.agg #[u0,u1,u2,u3,u4,u5,u6,u7,u8,u9,u10,u11])/\(RdV w' u0 u1 u2 (toR b.l)/\RdV w' u3 u4 u5 (toR b.r)/\RdV w' u6 u7 u8 (toR b.lo)/\RdV w' u9 u10 u11 (toR b.hi))/\Bl w w'
theorem vS (F:Bool->Option Addr->Nat->Nat->Option Addr->Nat->Nat->qH->Prop) (w:World) {A:Option Addr}{n c:Nat}{l:List (Rat × Rat)}(h:RdS 6 (PtW F) w A n c (l.map tp)) (h0:0<n) (hs:∀k,k<l.length->Sm2 (pix l k)) :
  Calls Tryz.prog 212 #[.slice A n c] w (qdu F w (bxA l)):=by
 have hsm:=h.small
 have hln:=Lib.hid (show l.length=n by rw[<-h.len,List.length_map])
 have hsH:=Lib.hid hs
 have hbs:=Lib.hid (Yf hs (by rw[hln.out];exact h0))
 obtain⟨ad,rfl,hlt0,hca⟩:=h.cells 0 h0
 rw[zv (by rw[hln.out];exact h0),show ad.add (0*6)=ad by simp[Addr.add]]at hca
 obtain⟨sq,Aq,nq,cq,Bq,mq,dq,tq,Cq,iq,eq,Dq,jq,fq,⟨y0,y1,y2,y3,y4,y5⟩,hX0,hY0⟩:=hca
 have h0i:(0:Int)<(n:Int):=by omega
 clear hs
 go_enter Tryz.func212,Tryz.ntmps212
 go_upto_region 1 with (fail)
 refine qe (λW=>Bl w W/\∃g2,Wk 12 204 g2 W/\g2=w.heap.size) ⟨slc,_,by exact bts,rfl⟩ ?_
 rintro W ⟨hbW,g2,hr,hg2⟩
 rw[<-hg2]
 have hg2w:w.heap.size<=g2:=by rw[hg2];exact Nat.le_refl _
 have hg2W:=hr.lt
 clear hg2
 have hltW:ad.block<W.heap.size:=Nat.lt_of_lt_of_le hlt0 hbW.size
 replace y0:=(Bl.qeV hbW (by exact hlt0)).trans y0
 replace y1:=(Bl.qeV hbW (by exact hlt0)).trans y1
 replace y2:=(Bl.qeV hbW (by exact hlt0)).trans y2
 replace y3:=(Bl.qeV hbW (by exact hlt0)).trans y3
 replace y4:=(Bl.qeV hbW (by exact hlt0)).trans y4
 replace y5:=(Bl.qeV hbW (by exact hlt0)).trans y5
 go_cut [3] (λs3 wx=>∃g3 u0 u1 u2 u3 u4 u5 u6 u7 u8 u9 u10 u11,s3=.pointer (some ⟨g3,0,none⟩)/\Blk wx g3 204 #[u0,u1,u2,u3,u4,u5,u6,u7,u8,u9,u10,u11]/\(RdW F w u0 u1 u2 (toR (Ui l 0).l)/\RdW F w u3 u4 u5 (toR (Ui l 0).r)/\RdW F w u6 u7 u8 (toR (Ui l 0).lo)/\RdW F w u9 u10 u11 (toR (Ui l 0).hi))/\W.heap.size<=g3/\Bl W wx)
 case first=>
  go_region_held3 (λw'=>(w'.cell? ad=some (.bool sq)/\w'.cell? ⟨ad.block,ad.off+1,none⟩=some (.slice Aq nq cq)/\w'.cell? ⟨ad.block,ad.off+2,none⟩=some (.slice Bq mq dq)/\w'.cell? ⟨ad.block,ad.off+3,none⟩=some (.bool tq)/\w'.cell? ⟨ad.block,ad.off+4,none⟩=some (.slice Cq iq eq)/\w'.cell? ⟨ad.block,ad.off+5,none⟩=some (.slice Dq jq fq))) (first|exact⟨(Bl.qeV (w:=W) (p:=ad) slc (by exact hltW)).trans y0,(Bl.qeV (w:=W) (p:=⟨ad.block,ad.off+1,none⟩) slc (by exact hltW)).trans y1,(Bl.qeV (w:=W) (p:=⟨ad.block,ad.off+2,none⟩) slc (by exact hltW)).trans y2,(Bl.qeV (w:=W) (p:=⟨ad.block,ad.off+3,none⟩) slc (by exact hltW)).trans y3,(Bl.qeV (w:=W) (p:=⟨ad.block,ad.off+4,none⟩) slc (by exact hltW)).trans y4,(Bl.qeV (w:=W) (p:=⟨ad.block,ad.off+5,none⟩) slc (by exact hltW)).trans y5⟩) (fail)
  all_goals (go_wp2_with fail)
  all_goals go_meet
  exact⟨W.heap.size,_,_,_,_,_,_,_,_,_,_,_,_,rfl,by exact bts,⟨⟨_,_,_,_,_,_,_,rfl,rfl,rfl,hX0⟩,⟨_,_,_,_,_,_,_,rfl,rfl,rfl,hX0⟩,⟨_,_,_,_,_,_,_,rfl,rfl,rfl,hY0⟩,⟨_,_,_,_,_,_,_,rfl,rfl,rfl,hY0⟩⟩,Nat.le_refl _,slc⟩
 case rest=>
  clear y0 y1 y2 y3 y4 y5 hX0 hY0
  obtain⟨g3,u0,u1,u2,u3,u4,u5,u6,u7,u8,u9,u10,u11,rfl,h3,hbv,hg3,hbw⟩:=hcut
  obtain⟨W1,rfl⟩:∃W1:World,W1=wc:=⟨_,rfl⟩
  go_wp2_with fail
  go_loopw [25] (λsi wr=>∃(k:Nat) (u0 u1 u2 u3 u4 u5 u6 u7 u8 u9 u10 u11:Value),k<=n/\si=.int .i64 (k:Int)/\Blk wr g3 204 #[u0,u1,u2,u3,u4,u5,u6,u7,u8,u9,u10,u11]/\(RdW F w u0 u1 u2 (toR (Ui l k).l)/\RdW F w u3 u4 u5 (toR (Ui l k).r)/\RdW F w u6 u7 u8 (toR (Ui l k).lo)/\RdW F w u9 u10 u11 (toR (Ui l k).hi))/\Bl W wr) (λsi _=>n-(intOf si).toNat)
  case atStart=>exact⟨0,_,_,_,_,_,_,_,_,_,_,_,_,by omega,rfl,h3,hbv,hbw⟩
  case round=>
   clear h3 hbv hbw
   obtain⟨k,u0,u1,u2,u3,u4,u5,u6,u7,u8,u9,u10,u11,hk,rfl,h3,⟨hl_,hr_,hlo_,hhi_⟩,hbw⟩:=hrel
   by_cases hkn:k<n
   ·have hki:(k:Int)<(n:Int):=by omega
    obtain⟨_,e1,_,hca⟩:=h.cells k hkn
    cases e1
    rw[zv (by rw[hln.out];exact hkn)]at hca
    obtain⟨sq,Aq,nq,cq,Bq,mq,dq,tq,Cq,iq,eq,Dq,jq,fq,⟨y0,y1,y2,y3,y4,y5⟩,hX,hY⟩:=hca
    have hltk:(ad.add (k*6)).block<w.heap.size:=by rw[qQ];exact hlt0
    replace y0:=(Bl.qeV (hbW.next hbw) (by exact hltk)).trans y0
    replace y1:=(Bl.qeV (hbW.next hbw) (by exact hltk)).trans y1
    replace y2:=(Bl.qeV (hbW.next hbw) (by exact hltk)).trans y2
    replace y3:=(Bl.qeV (hbW.next hbw) (by exact hltk)).trans y3
    replace y4:=(Bl.qeV (hbW.next hbw) (by exact hltk)).trans y4
    replace y5:=(Bl.qeV (hbW.next hbw) (by exact hltk)).trans y5
    have hsp:=hsH.out k (by rw[hln.out];exact hkn)
    have hsb:=hbs.out k (by rw[hln.out];exact hk)
    have hg3l:=h3.lt
    go_upto_region 5 with (fail)
    refine qe (λX=>Bl wr X/\∃g5,Blk X g5 28 #[.bool sq,.slice Aq nq cq,.slice Bq mq dq,.bool tq,.slice Cq iq eq,.slice Dq jq fq]/\g5=wr.heap.size) ⟨slc,_,by exact bts,rfl⟩ ?_
    rintro X ⟨hbX,g5,h5,hg5⟩
    rw[<-hg5]
    have hg53:g5≠g3:=by omega
    have h3:=h3.bl hbX
    have hbw:=hbw.next hbX
    replace hX:RdR w sq Aq nq cq Bq mq dq (toR (pix l k).1)/\F sq Aq nq cq Bq mq dq (toR (pix l k).1):=hX
    replace hY:RdR w tq Cq iq eq Dq jq fq (toR (pix l k).2)/\F tq Cq iq eq Dq jq fq (toR (pix l k).2):=hY
    clear y0 y1 y2 y3 y4 y5 hg5 hbX hg3l
    obtain⟨B0,hB0⟩:∃B0,Ui l k=B0:=⟨_,rfl⟩
    obtain⟨p,hp⟩:∃p,pix l k=p:=⟨_,rfl⟩
    have hfin:=Lib.hid (show (qdP (Xq (JE (bx1 B0 p) p) p) p)=Ui l (k+1)by subst hB0 hp;rfl)
    rw[hp]at hsp hX hY
    rw[hB0]at hsb hl_ hr_ hlo_ hhi_
    clear hB0 hp
    obtain⟨sb,Ab,nb,cb,Bb,mb,db,e0,e1,e2,hRb⟩:=hl_
    subst e0 e1 e2
    have hco:=Qj (p:=p.1) (q:=B0.l) hsp.1 hsb.1.1
    obtain⟨z,hz⟩:∃z,JL (toR p.1) (toR B0.l)=z:=⟨_,rfl⟩
    have hzc:=Lib.hid (show z<0↔p.1<B0.l by rw[<-hz,hco.2];split <;> (try split) <;> grind)
    replace hz:=Lib.hid hz
    obtain⟨x0,x1,x2,x3,x4,x5⟩:=bx6 h5
    obtain⟨z0,z1,z2,z3,z4,z5,z6,z7,z8,z9,z10,z11⟩:=yO h3
    go_wp2_with fail
    refine(qz _ (hX.1.bl (hbW.next hbw)) (hRb.1.bl (hbW.next hbw)) hco.1).mono ?_
    rw[hz.out]
    rintro e w6 ⟨rfl,hb6⟩
    have h3:=h3.bl hb6
    have h5:=h5.bl hb6
    have hbw:=hbw.next hb6
    clear x0 x1 x2 x3 x4 x5 z0 z1 z2 z3 z4 z5 z6 z7 z8 z9 z10 z11 hb6 hco
    go_upto_if 34 with (fail)
    go_cut [] (λwx=>∃(u0 u1 u2 u3 u4 u5 u6 u7 u8 u9 u10 u11:Value),Blk wx g3 204 #[u0,u1,u2,u3,u4,u5,u6,u7,u8,u9,u10,u11]/\(RdW F w u0 u1 u2 (toR (bx1 B0 p).l)/\RdW F w u3 u4 u5 (toR (bx1 B0 p).r)/\RdW F w u6 u7 u8 (toR (bx1 B0 p).lo)/\RdW F w u9 u10 u11 (toR (bx1 B0 p).hi))/\Blk wx g5 28 #[.bool sq,.slice Aq nq cq,.slice Bq mq dq,.bool tq,.slice Cq iq eq,.slice Dq jq fq]/\Bl W wx)
    case first=>
     obtain⟨x0,x1,x2,x3,x4,x5⟩:=bx6 h5
     have zf0:=h3.frozen 0
     have zf1:=h3.frozen 1
     have zf2:=h3.frozen 2
     obtain⟨z0,z1,z2,z3,z4,z5,z6,z7,z8,z9,z10,z11⟩:=yO h3
     by_cases hlt:z<0
     ·skip
      go_wp2_with fail
      go_meet
      exact⟨_,_,_,_,_,_,_,_,_,_,_,_,by simpa using Blk.set_ (Blk.set_ (Blk.set_ h3 0 (.bool sq)) 1 (.slice Aq nq cq)) 2 (.slice Bq mq dq),⟨(by rw[show (bx1 B0 p).l=p.1 from if_pos (hzc.out.1 (show z<0 by omega))];exact⟨_,_,_,_,_,_,_,rfl,rfl,rfl,hX⟩),hr_,hlo_,hhi_⟩,Blk.far (p:=⟨g3,2,none⟩) (Blk.far (p:=⟨g3,1,none⟩) (Blk.far (p:=⟨g3,0,none⟩) h5 (show g5≠g3 by omega) _) (show g5≠g3 by omega) _) (show g5≠g3 by omega) _,Bl.set (Bl.set (Bl.set hbw (by exact hg3) _) (by exact hg3) _) (by exact hg3) _⟩
     ·skip
      go_wp2_with fail
      go_meet
      exact⟨_,_,_,_,_,_,_,_,_,_,_,_,h3,⟨(by rw[show (bx1 B0 p).l=B0.l from if_neg (λh=>absurd (hzc.out.2 h) (show ¬z<0 by omega))];exact⟨_,_,_,_,_,_,_,rfl,rfl,rfl,hRb⟩),hr_,hlo_,hhi_⟩,h5,hbw⟩
    case rest=>
     clear h3 h5 hbw hRb hr_ hlo_ hhi_ hz hzc
     obtain⟨u0,u1,u2,u3,u4,u5,u6,u7,u8,u9,u10,u11,h3,⟨hl_,hr_,hlo_,hhi_⟩,h5,hbw⟩:=hcut
     obtain⟨Y0,rfl⟩:∃Y:World,Y=wc:=⟨_,rfl⟩
     have hsb:=(hsb.step hsp).1
     obtain⟨sb,Ab,nb,cb,Bb,mb,db,e0,e1,e2,hRb⟩:=hr_
     subst e0 e1 e2
     have hco:=Qj (p:=p.1) (q:=(bx1 B0 p).r) hsp.1 hsb.1.2
     obtain⟨z,hz⟩:∃z,JL (toR p.1) (toR (bx1 B0 p).r)=z:=⟨_,rfl⟩
     have hzc:=Lib.hid (show 0<z↔(bx1 B0 p).r<p.1 by rw[<-hz,hco.2];split <;> (try split) <;> grind)
     replace hz:=Lib.hid hz
     obtain⟨x0,x1,x2,x3,x4,x5⟩:=bx6 h5
     obtain⟨z0,z1,z2,z3,z4,z5,z6,z7,z8,z9,z10,z11⟩:=yO h3
     go_wp2_with fail
     refine(qz _ (hX.1.bl (hbW.next hbw)) (hRb.1.bl (hbW.next hbw)) hco.1).mono ?_
     rw[hz.out]
     rintro e w6 ⟨rfl,hb6⟩
     have h3:=h3.bl hb6
     have h5:=h5.bl hb6
     have hbw:=hbw.next hb6
     clear x0 x1 x2 x3 x4 x5 z0 z1 z2 z3 z4 z5 z6 z7 z8 z9 z10 z11 hb6 hco
     go_upto_if 43 with (fail)
     go_cut [] (λwx=>∃(u0 u1 u2 u3 u4 u5 u6 u7 u8 u9 u10 u11:Value),Blk wx g3 204 #[u0,u1,u2,u3,u4,u5,u6,u7,u8,u9,u10,u11]/\(RdW F w u0 u1 u2 (toR (JE (bx1 B0 p) p).l)/\RdW F w u3 u4 u5 (toR (JE (bx1 B0 p) p).r)/\RdW F w u6 u7 u8 (toR (JE (bx1 B0 p) p).lo)/\RdW F w u9 u10 u11 (toR (JE (bx1 B0 p) p).hi))/\Blk wx g5 28 #[.bool sq,.slice Aq nq cq,.slice Bq mq dq,.bool tq,.slice Cq iq eq,.slice Dq jq fq]/\Bl W wx)
     case first=>
      obtain⟨x0,x1,x2,x3,x4,x5⟩:=bx6 h5
      have zf0:=h3.frozen 3
      have zf1:=h3.frozen 4
      have zf2:=h3.frozen 5
      obtain⟨z0,z1,z2,z3,z4,z5,z6,z7,z8,z9,z10,z11⟩:=yO h3
      by_cases hlt:0<z
      ·skip
       go_wp2_with fail
       go_meet
       exact⟨_,_,_,_,_,_,_,_,_,_,_,_,by simpa using Blk.set_ (Blk.set_ (Blk.set_ h3 3 (.bool sq)) 4 (.slice Aq nq cq)) 5 (.slice Bq mq dq),⟨hl_,(by rw[show (JE (bx1 B0 p) p).r=p.1 from if_pos (hzc.out.1 (show 0<z by omega))];exact⟨_,_,_,_,_,_,_,rfl,rfl,rfl,hX⟩),hlo_,hhi_⟩,Blk.far (p:=⟨g3,5,none⟩) (Blk.far (p:=⟨g3,4,none⟩) (Blk.far (p:=⟨g3,3,none⟩) h5 (show g5≠g3 by omega) _) (show g5≠g3 by omega) _) (show g5≠g3 by omega) _,Bl.set (Bl.set (Bl.set hbw (by exact hg3) _) (by exact hg3) _) (by exact hg3) _⟩
      ·skip
       go_wp2_with fail
       go_meet
       exact⟨_,_,_,_,_,_,_,_,_,_,_,_,h3,⟨hl_,(by rw[show (JE (bx1 B0 p) p).r=(bx1 B0 p).r from if_neg (λh=>absurd (hzc.out.2 h) (show ¬0<z by omega))];exact⟨_,_,_,_,_,_,_,rfl,rfl,rfl,hRb⟩),hlo_,hhi_⟩,h5,hbw⟩
     case rest=>
      clear h3 h5 hbw hRb hl_ hlo_ hhi_ hz hzc
      obtain⟨u0,u1,u2,u3,u4,u5,u6,u7,u8,u9,u10,u11,h3,⟨hl_,hr_,hlo_,hhi_⟩,h5,hbw⟩:=hcut
      obtain⟨Y1,rfl⟩:∃Y:World,Y=wc:=⟨_,rfl⟩
      have hsb:=(hsb.step hsp).2.1
      obtain⟨sb,Ab,nb,cb,Bb,mb,db,e0,e1,e2,hRb⟩:=hlo_
      subst e0 e1 e2
      have hco:=Qj (p:=p.2) (q:=(JE (bx1 B0 p) p).lo) hsp.2 hsb.2.1
      obtain⟨z,hz⟩:∃z,JL (toR p.2) (toR (JE (bx1 B0 p) p).lo)=z:=⟨_,rfl⟩
      have hzc:=Lib.hid (show z<0↔p.2<(JE (bx1 B0 p) p).lo by rw[<-hz,hco.2];split <;> (try split) <;> grind)
      replace hz:=Lib.hid hz
      obtain⟨x0,x1,x2,x3,x4,x5⟩:=bx6 h5
      obtain⟨z0,z1,z2,z3,z4,z5,z6,z7,z8,z9,z10,z11⟩:=yO h3
      go_wp2_with fail
      refine(qz _ (hY.1.bl (hbW.next hbw)) (hRb.1.bl (hbW.next hbw)) hco.1).mono ?_
      rw[hz.out]
      rintro e w6 ⟨rfl,hb6⟩
      have h3:=h3.bl hb6
      have h5:=h5.bl hb6
      have hbw:=hbw.next hb6
      clear x0 x1 x2 x3 x4 x5 z0 z1 z2 z3 z4 z5 z6 z7 z8 z9 z10 z11 hb6 hco
      go_upto_if 52 with (fail)
      go_cut [] (λwx=>∃(u0 u1 u2 u3 u4 u5 u6 u7 u8 u9 u10 u11:Value),Blk wx g3 204 #[u0,u1,u2,u3,u4,u5,u6,u7,u8,u9,u10,u11]/\(RdW F w u0 u1 u2 (toR (Xq (JE (bx1 B0 p) p) p).l)/\RdW F w u3 u4 u5 (toR (Xq (JE (bx1 B0 p) p) p).r)/\RdW F w u6 u7 u8 (toR (Xq (JE (bx1 B0 p) p) p).lo)/\RdW F w u9 u10 u11 (toR (Xq (JE (bx1 B0 p) p) p).hi))/\Blk wx g5 28 #[.bool sq,.slice Aq nq cq,.slice Bq mq dq,.bool tq,.slice Cq iq eq,.slice Dq jq fq]/\Bl W wx)
      case first=>
       obtain⟨x0,x1,x2,x3,x4,x5⟩:=bx6 h5
       have zf0:=h3.frozen 6
       have zf1:=h3.frozen 7
       have zf2:=h3.frozen 8
       obtain⟨z0,z1,z2,z3,z4,z5,z6,z7,z8,z9,z10,z11⟩:=yO h3
       by_cases hlt:z<0
       ·skip
        go_wp2_with fail
        go_meet
        exact⟨_,_,_,_,_,_,_,_,_,_,_,_,by simpa using Blk.set_ (Blk.set_ (Blk.set_ h3 6 (.bool tq)) 7 (.slice Cq iq eq)) 8 (.slice Dq jq fq),⟨hl_,hr_,(by rw[show (Xq (JE (bx1 B0 p) p) p).lo=p.2 from if_pos (hzc.out.1 (show z<0 by omega))];exact⟨_,_,_,_,_,_,_,rfl,rfl,rfl,hY⟩),hhi_⟩,Blk.far (p:=⟨g3,8,none⟩) (Blk.far (p:=⟨g3,7,none⟩) (Blk.far (p:=⟨g3,6,none⟩) h5 (show g5≠g3 by omega) _) (show g5≠g3 by omega) _) (show g5≠g3 by omega) _,Bl.set (Bl.set (Bl.set hbw (by exact hg3) _) (by exact hg3) _) (by exact hg3) _⟩
       ·skip
        go_wp2_with fail
        go_meet
        exact⟨_,_,_,_,_,_,_,_,_,_,_,_,h3,⟨hl_,hr_,(by rw[show (Xq (JE (bx1 B0 p) p) p).lo=(JE (bx1 B0 p) p).lo from if_neg (λh=>absurd (hzc.out.2 h) (show ¬z<0 by omega))];exact⟨_,_,_,_,_,_,_,rfl,rfl,rfl,hRb⟩),hhi_⟩,h5,hbw⟩
      case rest=>
       clear h3 h5 hbw hRb hl_ hr_ hhi_ hz hzc
       obtain⟨u0,u1,u2,u3,u4,u5,u6,u7,u8,u9,u10,u11,h3,⟨hl_,hr_,hlo_,hhi_⟩,h5,hbw⟩:=hcut
       obtain⟨Y2,rfl⟩:∃Y:World,Y=wc:=⟨_,rfl⟩
       have hsb:=(hsb.step hsp).2.2.1
       obtain⟨sb,Ab,nb,cb,Bb,mb,db,e0,e1,e2,hRb⟩:=hhi_
       subst e0 e1 e2
       have hco:=Qj (p:=p.2) (q:=(Xq (JE (bx1 B0 p) p) p).hi) hsp.2 hsb.2.2
       obtain⟨z,hz⟩:∃z,JL (toR p.2) (toR (Xq (JE (bx1 B0 p) p) p).hi)=z:=⟨_,rfl⟩
       have hzc:=Lib.hid (show 0<z↔(Xq (JE (bx1 B0 p) p) p).hi<p.2 by rw[<-hz,hco.2];split <;> (try split) <;> grind)
       replace hz:=Lib.hid hz
       obtain⟨x0,x1,x2,x3,x4,x5⟩:=bx6 h5
       obtain⟨z0,z1,z2,z3,z4,z5,z6,z7,z8,z9,z10,z11⟩:=yO h3
       go_wp2_with fail
       refine(qz _ (hY.1.bl (hbW.next hbw)) (hRb.1.bl (hbW.next hbw)) hco.1).mono ?_
       rw[hz.out]
       rintro e w6 ⟨rfl,hb6⟩
       have h3:=h3.bl hb6
       have h5:=h5.bl hb6
       have hbw:=hbw.next hb6
       clear x0 x1 x2 x3 x4 x5 z0 z1 z2 z3 z4 z5 z6 z7 z8 z9 z10 z11 hb6 hco
       obtain⟨x0,x1,x2,x3,x4,x5⟩:=bx6 h5
       have zf0:=h3.frozen 9
       have zf1:=h3.frozen 10
       have zf2:=h3.frozen 11
       obtain⟨z0,z1,z2,z3,z4,z5,z6,z7,z8,z9,z10,z11⟩:=yO h3
       by_cases hlt:0<z
       ·go_wp2_with fail
        go_roundw
        case rel=>exact⟨k+1,_,_,_,_,_,_,_,_,_,_,_,_,by omega,by go_num,by simpa using Blk.set_ (Blk.set_ (Blk.set_ h3 9 (.bool tq)) 10 (.slice Cq iq eq)) 11 (.slice Dq jq fq),by rw[<-hfin.out];exact⟨hl_,hr_,hlo_,(by rw[show (qdP (Xq (JE (bx1 B0 p) p) p) p).hi=p.2 from if_pos (hzc.out.1 (show 0<z by omega))];exact⟨_,_,_,_,_,_,_,rfl,rfl,rfl,hY⟩)⟩,Bl.set (Bl.set (Bl.set hbw (by exact hg3) _) (by exact hg3) _) (by exact hg3) _⟩
        case measure=>simp[intOf];omega
       ·go_wp2_with fail
        go_roundw
        case rel=>exact⟨k+1,_,_,_,_,_,_,_,_,_,_,_,_,by omega,by go_num,h3,by rw[<-hfin.out];exact⟨hl_,hr_,hlo_,(by rw[show (qdP (Xq (JE (bx1 B0 p) p) p) p).hi=(Xq (JE (bx1 B0 p) p) p).hi from if_neg (λh=>absurd (hzc.out.2 h) (show ¬0<z by omega))];exact⟨_,_,_,_,_,_,_,rfl,rfl,rfl,hRb⟩)⟩,hbw⟩
        case measure=>simp[intOf];omega
   ·obtain rfl:n=k:=by omega
    have hkm:¬(n:Int)<(n:Int):=by omega
    have hr:=hr.bl hbw
    obtain⟨sb0,Ab0,nb0,cb0,Bb0,mb0,db0,e0,e1,e2,hRb0⟩:=hl_
    subst e0 e1 e2
    obtain⟨sb1,Ab1,nb1,cb1,Bb1,mb1,db1,e0,e1,e2,hRb1⟩:=hr_
    subst e0 e1 e2
    obtain⟨sb2,Ab2,nb2,cb2,Bb2,mb2,db2,e0,e1,e2,hRb2⟩:=hlo_
    subst e0 e1 e2
    obtain⟨sb3,Ab3,nb3,cb3,Bb3,mb3,db3,e0,e1,e2,hRb3⟩:=hhi_
    subst e0 e1 e2
    have hbA:Ui l n=bxA l:=by unfold bxA;rw[hln.out]
    rw[hbA]at hRb0 hRb1 hRb2 hRb3
    clear hbA
    obtain⟨v0,x0⟩:=hr.val_ (i:=0) (by omega)
    obtain⟨v1,x1⟩:=hr.val_ (i:=1) (by omega)
    obtain⟨v2,x2⟩:=hr.val_ (i:=2) (by omega)
    obtain⟨v3,x3⟩:=hr.val_ (i:=3) (by omega)
    obtain⟨v4,x4⟩:=hr.val_ (i:=4) (by omega)
    obtain⟨v5,x5⟩:=hr.val_ (i:=5) (by omega)
    obtain⟨v6,x6⟩:=hr.val_ (i:=6) (by omega)
    obtain⟨v7,x7⟩:=hr.val_ (i:=7) (by omega)
    obtain⟨v8,x8⟩:=hr.val_ (i:=8) (by omega)
    obtain⟨v9,x9⟩:=hr.val_ (i:=9) (by omega)
    obtain⟨v10,x10⟩:=hr.val_ (i:=10) (by omega)
    obtain⟨v11,x11⟩:=hr.val_ (i:=11) (by omega)
    have hgr:=hr.lt
    obtain⟨cs4,hB4,hc4⟩:=hr
    have hf0:=hB4.frozen 0
    have hf1:=hB4.frozen 1
    have hf2:=hB4.frozen 2
    have hf3:=hB4.frozen 3
    have hf4:=hB4.frozen 4
    have hf5:=hB4.frozen 5
    have hf6:=hB4.frozen 6
    have hf7:=hB4.frozen 7
    have hf8:=hB4.frozen 8
    have hf9:=hB4.frozen 9
    have hf10:=hB4.frozen 10
    have hf11:=hB4.frozen 11
    obtain⟨z0,z1,z2,z3,z4,z5,z6,z7,z8,z9,z10,z11⟩:=yO h3
    go_wp2_with fail
    have hbz:=hbW.next hbw
    have hbf:=Bl.set (Bl.set (Bl.set (Bl.set (Bl.set (Bl.set (Bl.set (Bl.set (Bl.set (Bl.set (Bl.set (Bl.set (hbz) (p:=⟨g2,0,none⟩) (by exact hg2w) (.bool sb0)) (p:=⟨g2,1,none⟩) (by exact hg2w) (.slice Ab0 nb0 cb0)) (p:=⟨g2,2,none⟩) (by exact hg2w) (.slice Bb0 mb0 db0)) (p:=⟨g2,3,none⟩) (by exact hg2w) (.bool sb1)) (p:=⟨g2,4,none⟩) (by exact hg2w) (.slice Ab1 nb1 cb1)) (p:=⟨g2,5,none⟩) (by exact hg2w) (.slice Bb1 mb1 db1)) (p:=⟨g2,6,none⟩) (by exact hg2w) (.bool sb2)) (p:=⟨g2,7,none⟩) (by exact hg2w) (.slice Ab2 nb2 cb2)) (p:=⟨g2,8,none⟩) (by exact hg2w) (.slice Bb2 mb2 db2)) (p:=⟨g2,9,none⟩) (by exact hg2w) (.bool sb3)) (p:=⟨g2,10,none⟩) (by exact hg2w) (.slice Ab3 nb3 cb3)) (p:=⟨g2,11,none⟩) (by exact hg2w) (.slice Bb3 mb3 db3)
    exact bodyPost_ret (v:=.agg #[.bool sb0,.slice Ab0 nb0 cb0,.slice Bb0 mb0 db0,.bool sb1,.slice Ab1 nb1 cb1,.slice Bb1 mb1 db1,.bool sb2,.slice Ab2 nb2 cb2,.slice Bb2 mb2 db2,.bool sb3,.slice Ab3 nb3 cb3,.slice Bb3 mb3 db3]) (by simp[results,Tryz.results212,go_sem,x0,x1,x2,x3,x4,x5,x6,x7,x8,x9,x10,x11]) rfl ⟨_,_,_,_,_,_,_,_,_,_,_,_,rfl,⟨⟨_,_,_,_,_,_,_,rfl,rfl,rfl,hRb0.1.bl hbf,hRb0.2⟩,⟨_,_,_,_,_,_,_,rfl,rfl,rfl,hRb1.1.bl hbf,hRb1.2⟩,⟨_,_,_,_,_,_,_,rfl,rfl,rfl,hRb2.1.bl hbf,hRb2.2⟩,⟨_,_,_,_,_,_,_,rfl,rfl,rfl,hRb3.1.bl hbf,hRb3.2⟩⟩,hbf⟩
theorem V3 (w:World) {A:Option Addr}{n c:Nat}{l:List (Rat × Rat)}(h:qR w A n c (l.map tp)) (h0:0<n) (hs:∀k,k<l.length->Sm2 (pix l k)) :
  Calls Tryz.prog 212 #[.slice A n c] w (qep w (bxA l)):=by
 refine(vS (λ_ _ _ _ _ _ _ _=>True) w (l:=l) ⟨h.len,h.cap,h.small,λk hk=>?_⟩ h0 hs).mono ?_
 ·obtain⟨ad,e,hlt,hc⟩:=h.cells k hk
  obtain⟨s,A,n,c,B,m,d,t,C,i,e',D,j,f,h0,hX,hY⟩:=hc
  exact⟨ad,e,hlt,s,A,n,c,B,m,d,t,C,i,e',D,j,f,h0,⟨hX,trivial⟩,⟨hY,trivial⟩⟩
 ·rintro e w' ⟨u0,u1,u2,u3,u4,u5,u6,u7,u8,u9,u10,u11,rfl,⟨h0,h1,h2,h3⟩,hb⟩
  exact⟨_,_,_,_,_,_,_,_,_,_,_,_,rfl,⟨h0.rd,h1.rd,h2.rd,h3.rd⟩,hb⟩
section
variable {x0 y0 x1 y1 x2 y2:Rat}
end
end Go.Proofs.YtjaapemopbbfaaaGreatDoor
