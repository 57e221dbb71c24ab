import Derived.Test.YtjaapemopbbfaaaGreatDoorPMeshesM35
import Derived.Test.YtjaapemopbbfaaaGreatDoorPMeshesM24
namespace Go.Proofs.YtjaapemopbbfaaaGreatDoor
open Go.RowKit
set_option maxRecDepth 100000
set_option maxHeartbeats 32000000
def nQ (a b p:Rat × Rat):Rat:=(a.1-p.1)*(b.1-p.1)+(a.2-p.2)*(b.2-p.2)
def dQ (a b p:Rat × Rat):Rat:=K5 a.1 a.2 b.1 b.2 p.1 p.2
def qeF (x:BxQ) (p:Rat × Rat):Bool:=decide (p.1<x.l)||(decide (x.r<p.1)||(decide (p.2<x.lo)||decide (x.hi<p.2)))
def VH (p a b:Rat × Rat):Bool:=qeF (bxA [a,b]) p||(decide (dQ a b p≠0)||decide (0<=nQ a b p))
theorem qbi {a b p:Rat × Rat}(ha:Sm2 a) (hb:Sm2 b) (hp:Sm2 p):Yc (tp a) (tp b) (tp p)=toR (dQ a b p)/\Fit (dQ a b p):=by
 obtain⟨e,h⟩:=Vj ha.1 ha.2 hb.1 hb.2 hp.1 hp.2
 exact⟨e,h.fit (by decide)⟩
theorem qbc {a b p:Rat × Rat}(ha:Sm2 a) (hb:Sm2 b) (hp:Sm2 p):qd4 (K8 (tp a) (tp p)) (K8 (tp b) (tp p))=toR (nQ a b p)/\Fit (nQ a b p):=by
 obtain⟨e1,h1,h2⟩:=JY ha.1 ha.2 hp.1 hp.2
 obtain⟨e2,h3,h4⟩:=JY hb.1 hb.2 hp.1 hp.2
 have m1:=h1.mul h3
 have m2:=h2.mul h4
 have m3:=m1.add m2
 refine⟨?_,m3.fit (by decide)⟩
 rw[show tp a=toP a.1 a.2 from rfl,show tp b=toP b.1 b.2 from rfl,show tp p=toP p.1 p.2 from rfl,e1,e2]
 unfold qd4
 rw[show (toP (a.1-p.1) (a.2-p.2)).x=toR (a.1-p.1)from rfl,show (toP (a.1-p.1) (a.2-p.2)).y=toR (a.2-p.2)from rfl,show (toP (b.1-p.1) (b.2-p.2)).x=toR (b.1-p.1)from rfl,show (toP (b.1-p.1) (b.2-p.2)).y=toR (b.2-p.2)from rfl,
  yC (h1.fit (by decide)) (h3.fit (by decide)) (m1.fit (by decide)),yC (h2.fit (by decide)) (h4.fit (by decide)) (m2.fit (by decide)),Va (m1.fit (by decide)) (m2.fit (by decide)) (m3.fit (by decide))]
 rfl
theorem qaa {p a b:Rat × Rat}(h:VH p a b=true) (h0:¬p.1<(bxA [a,b]).l) (h1:¬(bxA [a,b]).r<p.1) (h2:¬p.2<(bxA [a,b]).lo) (h3:¬(bxA [a,b]).hi<p.2):dQ a b p≠0\/0<=nQ a b p:=by
 unfold VH qeF at h
 simp only[Bool.or_eq_true,decide_eq_true_eq]at h
 rcases h with (h|h|h|h)|h
 ·exact absurd h h0
 ·exact absurd h h1
 ·exact absurd h h2
 ·exact absurd h h3
 ·exact h
theorem qR.two {w:World}{g:Nat}{T:TypeId}{s8:Bool}{A8:Option Addr}{n8 c8:Nat}{B8:Option Addr}{m8 d8:Nat}{t8:Bool}{C8:Option Addr}{i8 e8:Nat}{D8:Option Addr}{j8 f8:Nat}{p:PtD}{s9:Bool}{A9:Option Addr}{n9 c9:Nat}{B9:Option Addr}{m9 d9:Nat}{t9:Bool}{C9:Option Addr}{i9 e9:Nat}{D9:Option Addr}{j9 f9:Nat}{q:PtD}(hb:Blk w g T #[.bool s8,.slice A8 n8 c8,.slice B8 m8 d8,.bool t8,.slice C8 i8 e8,.slice D8 j8 f8,.bool s9,.slice A9 n9 c9,.slice B9 m9 d9,.bool t9,.slice C9 i9 e9,.slice D9 j9 f9]) (h:RdR w s8 A8 n8 c8 B8 m8 d8 p.x) (k:RdR w t8 C8 i8 e8 D8 j8 f8 p.y) (h':RdR w s9 A9 n9 c9 B9 m9 d9 q.x) (k':RdR w t9 C9 i9 e9 D9 j9 f9 q.y):qR w (some ⟨g,0,none⟩) 2 2 [p,q]:=by
 refine⟨rfl,Nat.le_refl _,by omega,λi hi=>⟨_,rfl,hb.lt,?_⟩⟩
 rw[Addr.add_lit,Nat.zero_add]
 obtain⟨k0,k1,k2,k3,k4,k5,k6,k7,k8,k9,k10,k11⟩:=yO hb
 rcases(show i=0\/i=1 by omega)with rfl|rfl
 ·exact⟨_,_,_,_,_,_,_,_,_,_,_,_,_,_,⟨k0,k1,k2,k3,k4,k5⟩,h,k⟩
 ·exact⟨_,_,_,_,_,_,_,_,_,_,_,_,_,_,⟨k6,k7,k8,k9,k10,k11⟩,h',k'⟩
theorem Qq (w:World) {s7:Bool}{A7:Option Addr}{n7 c7:Nat}{B7:Option Addr}{m7 d7:Nat}{t7:Bool}{C7:Option Addr}{i7 e7:Nat}{D7:Option Addr}{j7 f7:Nat}{s8:Bool}{A8:Option Addr}{n8 c8:Nat}{B8:Option Addr}{m8 d8:Nat}{t8:Bool}{C8:Option Addr}{i8 e8:Nat}{D8:Option Addr}{j8 f8:Nat}{s9:Bool}{A9:Option Addr}{n9 c9:Nat}{B9:Option Addr}{m9 d9:Nat}{t9:Bool}{C9:Option Addr}{i9 e9:Nat}{D9:Option Addr}{j9 f9:Nat}{p a b:Rat × Rat}(hX7:RdR w s7 A7 n7 c7 B7 m7 d7 (tp p).x) (hY7:RdR w t7 C7 i7 e7 D7 j7 f7 (tp p).y) (hX8:RdR w s8 A8 n8 c8 B8 m8 d8 (tp a).x) (hY8:RdR w t8 C8 i8 e8 D8 j8 f8 (tp a).y) (hX9:RdR w s9 A9 n9 c9 B9 m9 d9 (tp b).x) (hY9:RdR w t9 C9 i9 e9 D9 j9 f9 (tp b).y) (hp:Sm2 p) (ha:Sm2 a) (hb:Sm2 b) (hni:VH p a b=true) :
  Calls Tryz.prog 215 #[.agg #[.bool s7,.slice A7 n7 c7,.slice B7 m7 d7,.bool t7,.slice C7 i7 e7,.slice D7 j7 f7],.agg #[.bool s8,.slice A8 n8 c8,.slice B8 m8 d8,.bool t8,.slice C8 i8 e8,.slice D8 j8 f8],.agg #[.bool s9,.slice A9 n9 c9,.slice B9 m9 d9,.bool t9,.slice C9 i9 e9,.slice D9 j9 f9]] w λe w'=>e=.returned (.bool false)/\Bl w w':=by
 have hsx:XK (bxA [a,b]):=Yf (l:=[a,b]) (λk hk=>by rcases(show k=0\/k=1 by simp at hk;omega)with rfl|rfl;exact ha;exact hb) (by simp) 2 (by simp)
 have hsp:Bd 17 p.1/\Bd 17 p.2:=hp
 have hx7:RdR w s7 A7 n7 c7 B7 m7 d7 (toR p.1):=hX7
 have hy7:RdR w t7 C7 i7 e7 D7 j7 f7 (toR p.2):=hY7
 have hnH:=Lib.hid hni
 have hdq:=Lib.hid (qbi ha hb hp).1
 have hfd:=Lib.hid (qbi ha hb hp).2
 have hnq:=Lib.hid (qbc ha hb hp).1
 have hfn:=Lib.hid (qbc ha hb hp).2
 have hokd:=Lib.hid (jU.2 hfd.out.ok)
 have hokn:=Lib.hid (jU.2 hfn.out.ok)
 have hsab:=Lib.hid (show ∀k,k < [a,b].length->Sm2 (pix [a,b] k)from λk hk=>by rcases(show k=0\/k=1 by simp at hk;omega)with rfl|rfl;exact ha;exact hb)
 clear hni
 go_enter Tryz.func215,Tryz.ntmps215
 go_upto_region 1 with (fail)
 refine qe (λW=>Bl w W/\∃g3 g4 g5,Blk W g3 28 #[.bool s7,.slice A7 n7 c7,.slice B7 m7 d7,.bool t7,.slice C7 i7 e7,.slice D7 j7 f7]/\Blk W g4 28 #[.bool s8,.slice A8 n8 c8,.slice B8 m8 d8,.bool t8,.slice C8 i8 e8,.slice D8 j8 f8]/\Blk W g5 28 #[.bool s9,.slice A9 n9 c9,.slice B9 m9 d9,.bool t9,.slice C9 i9 e9,.slice D9 j9 f9]/\g3=w.heap.size/\g4=w.heap.size+1/\g5=w.heap.size+1+1) ⟨slc,_,_,_,by exact bts,by exact bts,by exact bts,rfl,rfl,rfl⟩ ?_
 rintro W ⟨hbw,g3,g4,g5,h3,h4,h5,hg3,hg4,hg5⟩
 rw[<-hg5,<-hg4,<-hg3]
 clear hg3 hg4 hg5
 obtain⟨x0,x1,x2,x3,x4,x5⟩:=bx6 h4
 obtain⟨y0,y1,y2,y3,y4,y5⟩:=bx6 h5
 go_wp2_with fail
 refine qd (λY=>Bl W Y/\Blk Y W.heap.size 28 #[.bool s8,.slice A8 n8 c8,.slice B8 m8 d8,.bool t8,.slice C8 i8 e8,.slice D8 j8 f8,.bool s9,.slice A9 n9 c9,.slice B9 m9 d9,.bool t9,.slice C9 i9 e9,.slice D9 j9 f9]) ⟨slc,bts⟩ ?_
 rintro Y ⟨hbY,hs⟩
 have hbwY:=hbw.next hbY
 refine(V3 _ (l:=[a,b]) (qR.two hs (hX8.bl hbwY) (hY8.bl hbwY) (hX9.bl hbwY) (hY9.bl hbwY)) (by omega) hsab.out).mono ?_
 rintro e w2 ⟨u0,u1,u2,u3,u4,u5,u6,u7,u8,u9,u10,u11,rfl,hbx_,hb2⟩
 obtain⟨⟨sx0,Ax0,nx0,cx0,Bx0,mx0,dx0,e00,e01,e02,hRx0⟩,⟨sx1,Ax1,nx1,cx1,Bx1,mx1,dx1,e10,e11,e12,hRx1⟩,⟨sx2,Ax2,nx2,cx2,Bx2,mx2,dx2,e20,e21,e22,hRx2⟩,⟨sx3,Ax3,nx3,cx3,Bx3,mx3,dx3,e30,e31,e32,hRx3⟩⟩:=hbx_
 subst e00 e01 e02 e10 e11 e12 e20 e21 e22 e30 e31 e32
 go_upto_region 2 with (fail)
 refine qe (λX=>Bl w2 X/\∃g7,Blk X g7 204 #[.bool sx0,.slice Ax0 nx0 cx0,.slice Bx0 mx0 dx0,.bool sx1,.slice Ax1 nx1 cx1,.slice Bx1 mx1 dx1,.bool sx2,.slice Ax2 nx2 cx2,.slice Bx2 mx2 dx2,.bool sx3,.slice Ax3 nx3 cx3,.slice Bx3 mx3 dx3]/\g7=w2.heap.size) ⟨slc,_,by exact bts,rfl⟩ ?_
 rintro W3 ⟨hbx,g7,h7,hg7⟩
 rw[<-hg7]
 have hb3:=(hbY.next hb2).next hbx
 have h3:=h3.bl hb3
 have h4:=h4.bl hb3
 have h5:=h5.bl hb3
 have hbw:=hbw.next hb3
 clear hg7 hb3 hs hbY hbwY hb2 x0 x1 x2 x3 x4 x5 y0 y1 y2 y3 y4 y5
 obtain⟨x0,x1,x2,x3,x4,x5⟩:=bx6 h3
 obtain⟨y0,y1,y2,y3,y4,y5,y6,y7,y8,y9,y10,y11⟩:=yO h7
 have hco:=Lib.hid (Qj (p:=p.1) (q:=(bxA [a,b]).l) hsp.1 hsx.1.1)
 by_cases c0:p.1<(bxA [a,b]).l
 ·obtain⟨z,hz,hz2⟩:∃z,JL (toR p.1) (toR (bxA [a,b]).l)=z/\z<0:=⟨_,rfl,by rw[hco.out.2,if_pos c0];decide⟩
  have hz:=Lib.hid hz
  clear c0
  go_wp2_with fail
  refine(qz _ (hx7.bl hbw) (hRx0.bl hbx) hco.out.1).mono ?_
  rw[hz.out]
  rintro e w4 ⟨rfl,hb_⟩
  have h3:=h3.bl hb_
  have h4:=h4.bl hb_
  have h5:=h5.bl hb_
  have h7:=h7.bl hb_
  have hbw:=hbw.next hb_
  have hbx:=hbx.next hb_
  obtain⟨x0,x1,x2,x3,x4,x5⟩:=bx6 h3
  obtain⟨y0,y1,y2,y3,y4,y5,y6,y7,y8,y9,y10,y11⟩:=yO h7
  clear hb_
  go_wp2_with fail
  go_ret
  exact⟨rfl,slc⟩
 ·obtain⟨z0,hz,hz0⟩:∃z,JL (toR p.1) (toR (bxA [a,b]).l)=z/\¬z<0:=⟨_,rfl,by rw[hco.out.2,if_neg c0];split <;> (try split) <;> first|omega|contradiction⟩
  have hz:=Lib.hid hz
  go_wp2_with fail
  refine(qz _ (hx7.bl hbw) (hRx0.bl hbx) hco.out.1).mono ?_
  rw[hz.out]
  rintro e w4 ⟨rfl,hb_⟩
  have h3:=h3.bl hb_
  have h4:=h4.bl hb_
  have h5:=h5.bl hb_
  have h7:=h7.bl hb_
  have hbw:=hbw.next hb_
  have hbx:=hbx.next hb_
  obtain⟨x0,x1,x2,x3,x4,x5⟩:=bx6 h3
  obtain⟨y0,y1,y2,y3,y4,y5,y6,y7,y8,y9,y10,y11⟩:=yO h7
  clear hb_
  clear hco hz
  have hco:=Lib.hid (Qj (p:=p.1) (q:=(bxA [a,b]).r) hsp.1 hsx.1.2)
  by_cases c1:(bxA [a,b]).r<p.1
  ·obtain⟨z,hz,hz2⟩:∃z,JL (toR p.1) (toR (bxA [a,b]).r)=z/\0<z:=⟨_,rfl,by rw[hco.out.2,if_neg (by grind),if_pos c1];decide⟩
   have hz:=Lib.hid hz
   clear c0 c1
   go_wp2_with fail
   refine(qz _ (hx7.bl hbw) (hRx1.bl hbx) hco.out.1).mono ?_
   rw[hz.out]
   rintro e w5 ⟨rfl,hb_⟩
   have h3:=h3.bl hb_
   have h4:=h4.bl hb_
   have h5:=h5.bl hb_
   have h7:=h7.bl hb_
   have hbw:=hbw.next hb_
   have hbx:=hbx.next hb_
   obtain⟨x0,x1,x2,x3,x4,x5⟩:=bx6 h3
   obtain⟨y0,y1,y2,y3,y4,y5,y6,y7,y8,y9,y10,y11⟩:=yO h7
   clear hb_
   go_wp2_with fail
   go_ret
   exact⟨rfl,slc⟩
  ·obtain⟨z1,hz,hz1⟩:∃z,JL (toR p.1) (toR (bxA [a,b]).r)=z/\¬0<z:=⟨_,rfl,by rw[hco.out.2];split <;> (try split) <;> first|omega|contradiction⟩
   have hz:=Lib.hid hz
   go_wp2_with fail
   refine(qz _ (hx7.bl hbw) (hRx1.bl hbx) hco.out.1).mono ?_
   rw[hz.out]
   rintro e w5 ⟨rfl,hb_⟩
   have h3:=h3.bl hb_
   have h4:=h4.bl hb_
   have h5:=h5.bl hb_
   have h7:=h7.bl hb_
   have hbw:=hbw.next hb_
   have hbx:=hbx.next hb_
   obtain⟨x0,x1,x2,x3,x4,x5⟩:=bx6 h3
   obtain⟨y0,y1,y2,y3,y4,y5,y6,y7,y8,y9,y10,y11⟩:=yO h7
   clear hb_
   clear hco hz
   have hco:=Lib.hid (Qj (p:=p.2) (q:=(bxA [a,b]).lo) hsp.2 hsx.2.1)
   by_cases c2:p.2<(bxA [a,b]).lo
   ·obtain⟨z,hz,hz2⟩:∃z,JL (toR p.2) (toR (bxA [a,b]).lo)=z/\z<0:=⟨_,rfl,by rw[hco.out.2,if_pos c2];decide⟩
    have hz:=Lib.hid hz
    clear c0 c1 c2
    go_wp2_with fail
    refine(qz _ (hy7.bl hbw) (hRx2.bl hbx) hco.out.1).mono ?_
    rw[hz.out]
    rintro e w6 ⟨rfl,hb_⟩
    have h3:=h3.bl hb_
    have h4:=h4.bl hb_
    have h5:=h5.bl hb_
    have h7:=h7.bl hb_
    have hbw:=hbw.next hb_
    have hbx:=hbx.next hb_
    obtain⟨x0,x1,x2,x3,x4,x5⟩:=bx6 h3
    obtain⟨y0,y1,y2,y3,y4,y5,y6,y7,y8,y9,y10,y11⟩:=yO h7
    clear hb_
    go_wp2_with fail
    go_ret
    exact⟨rfl,slc⟩
   ·obtain⟨z2,hz,hz2⟩:∃z,JL (toR p.2) (toR (bxA [a,b]).lo)=z/\¬z<0:=⟨_,rfl,by rw[hco.out.2,if_neg c2];split <;> (try split) <;> first|omega|contradiction⟩
    have hz:=Lib.hid hz
    go_wp2_with fail
    refine(qz _ (hy7.bl hbw) (hRx2.bl hbx) hco.out.1).mono ?_
    rw[hz.out]
    rintro e w6 ⟨rfl,hb_⟩
    have h3:=h3.bl hb_
    have h4:=h4.bl hb_
    have h5:=h5.bl hb_
    have h7:=h7.bl hb_
    have hbw:=hbw.next hb_
    have hbx:=hbx.next hb_
    obtain⟨x0,x1,x2,x3,x4,x5⟩:=bx6 h3
    obtain⟨y0,y1,y2,y3,y4,y5,y6,y7,y8,y9,y10,y11⟩:=yO h7
    clear hb_
    clear hco hz
    have hco:=Lib.hid (Qj (p:=p.2) (q:=(bxA [a,b]).hi) hsp.2 hsx.2.2)
    by_cases c3:(bxA [a,b]).hi<p.2
    ·obtain⟨z,hz,hz2⟩:∃z,JL (toR p.2) (toR (bxA [a,b]).hi)=z/\0<z:=⟨_,rfl,by rw[hco.out.2,if_neg (by grind),if_pos c3];decide⟩
     have hz:=Lib.hid hz
     clear c0 c1 c2 c3
     go_wp2_with fail
     refine(qz _ (hy7.bl hbw) (hRx3.bl hbx) hco.out.1).mono ?_
     rw[hz.out]
     rintro e w7 ⟨rfl,hb_⟩
     have h3:=h3.bl hb_
     have h4:=h4.bl hb_
     have h5:=h5.bl hb_
     have h7:=h7.bl hb_
     have hbw:=hbw.next hb_
     have hbx:=hbx.next hb_
     obtain⟨x0,x1,x2,x3,x4,x5⟩:=bx6 h3
     obtain⟨y0,y1,y2,y3,y4,y5,y6,y7,y8,y9,y10,y11⟩:=yO h7
     clear hb_
     go_wp2_with fail
     go_ret
     exact⟨rfl,slc⟩
    ·obtain⟨z3,hz,hz3⟩:∃z,JL (toR p.2) (toR (bxA [a,b]).hi)=z/\¬0<z:=⟨_,rfl,by rw[hco.out.2];split <;> (try split) <;> first|omega|contradiction⟩
     have hz:=Lib.hid hz
     go_wp2_with fail
     refine(qz _ (hy7.bl hbw) (hRx3.bl hbx) hco.out.1).mono ?_
     rw[hz.out]
     rintro e w7 ⟨rfl,hb_⟩
     have h3:=h3.bl hb_
     have h4:=h4.bl hb_
     have h5:=h5.bl hb_
     have h7:=h7.bl hb_
     have hbw:=hbw.next hb_
     have hbx:=hbx.next hb_
     obtain⟨x0,x1,x2,x3,x4,x5⟩:=bx6 h3
     obtain⟨y0,y1,y2,y3,y4,y5,y6,y7,y8,y9,y10,y11⟩:=yO h7
     clear hb_
     clear hco hz
     have hni:=qaa hnH.out c0 c1 c2 c3
     clear c0 c1 c2 c3 hsx
     obtain⟨p0,p1,p2,p3,p4,p5⟩:=bx6 h4
     obtain⟨q0,q1,q2,q3,q4,q5⟩:=bx6 h5
     go_wp2_with fail
     refine(zK _ (hX8.bl hbw) (hY8.bl hbw) (hX9.bl hbw) (hY9.bl hbw) (hX7.bl hbw) (hY7.bl hbw)).mono ?_
     rintro e w8 ⟨sd,Ad,nd,cd,Bd,md,dd,rfl,hRd,hb8⟩
     go_upto_region 5 with (fail)
     refine qe (λX=>Bl w8 X/\∃g8,Blk X g8 26 #[.bool sd,.slice Ad nd cd,.slice Bd md dd]/\g8=w8.heap.size) ⟨slc,_,by exact bts,rfl⟩ ?_
     rintro W5 ⟨hb5,g8,h8,hg8⟩
     rw[<-hg8]
     have hRd:=hRd.rd.bl hb5
     have h3:=h3.bl (hb8.next hb5)
     have h4:=h4.bl (hb8.next hb5)
     have h5:=h5.bl (hb8.next hb5)
     have hbw:=hbw.next (hb8.next hb5)
     replace hX7:=hX7.bl hbw
     replace hY7:=hY7.bl hbw
     replace hX8:=hX8.bl hbw
     replace hY8:=hY8.bl hbw
     replace hX9:=hX9.bl hbw
     replace hY9:=hY9.bl hbw
     clear hg8 hb8 hb5
     go_cut [9] (λsl9 wx=>∃(g9:Nat) (sn:Bool) (An:Option Addr) (nn cn:Nat) (Bn:Option Addr) (mn dn:Nat),sl9=.pointer (some ⟨g9,0,none⟩)/\Blk wx g9 26 #[.bool sn,.slice An nn cn,.slice Bn mn dn]/\RdR wx sn An nn cn Bn mn dn (toR (nQ a b p))/\Bl W5 wx)
     case first=>
      go_region_held3 (λw'=>(w'.cell? ⟨g3,0,none⟩=some (.bool s7)/\w'.cell? ⟨g3,1,none⟩=some (.slice A7 n7 c7)/\w'.cell? ⟨g3,2,none⟩=some (.slice B7 m7 d7)/\w'.cell? ⟨g3,3,none⟩=some (.bool t7)/\w'.cell? ⟨g3,4,none⟩=some (.slice C7 i7 e7)/\w'.cell? ⟨g3,5,none⟩=some (.slice D7 j7 f7))/\(w'.cell? ⟨g4,0,none⟩=some (.bool s8)/\w'.cell? ⟨g4,1,none⟩=some (.slice A8 n8 c8)/\w'.cell? ⟨g4,2,none⟩=some (.slice B8 m8 d8)/\w'.cell? ⟨g4,3,none⟩=some (.bool t8)/\w'.cell? ⟨g4,4,none⟩=some (.slice C8 i8 e8)/\w'.cell? ⟨g4,5,none⟩=some (.slice D8 j8 f8))/\(w'.cell? ⟨g5,0,none⟩=some (.bool s9)/\w'.cell? ⟨g5,1,none⟩=some (.slice A9 n9 c9)/\w'.cell? ⟨g5,2,none⟩=some (.slice B9 m9 d9)/\w'.cell? ⟨g5,3,none⟩=some (.bool t9)/\w'.cell? ⟨g5,4,none⟩=some (.slice C9 i9 e9)/\w'.cell? ⟨g5,5,none⟩=some (.slice D9 j9 f9))) (first|exact⟨bx6 (T:=28) (h3.bl slc),bx6 (T:=28) (h4.bl slc),bx6 (T:=28) (h5.bl slc)⟩) (first |(go_at_call 252;(with_reducible refine(zp _ (hX8.bl slc) (hY8.bl slc) (hX7.bl slc) (hY7.bl slc)).mono ?_);rintro e w6 ⟨s1,A1,n1,c1,B1,m1,d1,t1,C1,i1,e1,D1,j1,f1,rfl,hP1,hb6⟩;(have hz6:W5.heap.size<=w6.heap.size:=Bl.size (by exact slc));(first|have hq:Wk 3 26 _ _:=jl hb6|have hq:Wk 3 26 _ _:=yE hb6|have hq:Wk 3 26 _ _:=Wk.bl hq hb6|skip)) |(go_at_call 252;(with_reducible refine(zp _ (hX9.bl slc) (hY9.bl slc) (hX7.bl slc) (hY7.bl slc)).mono ?_);rintro e w7 ⟨s2,A2,n2,c2,B2,m2,d2,t2,C2,i2,e2,D2,j2,f2,rfl,hP2,hb7⟩;(have hz7:W5.heap.size<=w7.heap.size:=Bl.size (by exact slc));(first|have hq:Wk 3 26 _ _:=jl hb7|have hq:Wk 3 26 _ _:=yE hb7|have hq:Wk 3 26 _ _:=Wk.bl hq hb7|skip)) |(go_at_call 251;(with_reducible refine(UR _ (hP1.rx.bl slc) (hP1.ry.bl slc) (hP2.rx.bl slc) (hP2.ry.bl slc)).mono ?_);rintro e w8 ⟨s8_,A8_,n8_,c8_,B8_,m8_,d8_,rfl,hR8,hb8⟩;(have hz8:W5.heap.size<=w8.heap.size:=Bl.size (by exact slc));(first|have hq:Wk 3 26 _ _:=jl hb8|have hq:Wk 3 26 _ _:=yE hb8|have hq:Wk 3 26 _ _:=Wk.bl hq hb8|skip);(try obtain⟨⟨q0,q1,q2⟩,fz0,fz1,fz2⟩:=hq.out3)))
      ·go_wp2_with fail
       go_meet
       exact⟨w8.heap.size,_,_,_,_,_,_,_,rfl,Blk.new _ _ _,by rw[<-hnq.out];exact hR8.rd.bl slc,slc⟩
      ·go_wp2_with fail
       go_meet
       exact⟨w7.heap.size,_,_,_,_,_,_,_,rfl,Wk.put3 hq _ _ _,by rw[<-hnq.out];exact(OwR.put3 (hR8.mono (Nat.zero_le _)) hq qbL _ _ _).rd,slc⟩
      ·go_wp2_with fail
       go_meet
       exact⟨w6.heap.size,_,_,_,_,_,_,_,rfl,Wk.put3 hq _ _ _,by rw[<-hnq.out];exact(OwR.put3 (hR8.mono (Nat.zero_le _)) hq qbL _ _ _).rd,slc⟩
      ·go_wp2_with fail
       go_meet
       exact⟨W5.heap.size,_,_,_,_,_,_,_,rfl,Wk.put3 hq _ _ _,by rw[<-hnq.out];exact(OwR.put3 (hR8.mono (Nat.zero_le _)) hq qbL _ _ _).rd,slc⟩
     case rest=>
      obtain⟨g9,sn,An,nn,cn,Bn,mn,dn,rfl,h9,hRn,hbc⟩:=hcut
      obtain⟨W6,rfl⟩:∃W6:World,W6=wc:=⟨_,rfl⟩
      have hbw:=hbw.next hbc
      have h8:=h8.bl hbc
      have hRd:=hRd.bl hbc
      rw[hdq.out]at hRd
      clear hbc
      obtain⟨x0,x1,x2⟩:=bx3 h8
      go_wp2_with fail
      refine(qw _ hRd).mono ?_
      rw[hokd.out]
      rintro e w9 ⟨rfl,hb9⟩
      obtain⟨x0,x1,x2⟩:=bx3 (h8.bl hb9)
      go_wp2_with fail
      refine(zI _ (hRd.bl hb9)).mono ?_
      by_cases hd0:dQ a b p=0
      ·have hs0:Zi (toR (dQ a b p))=0:=by rw[ZH hfd.out,hd0];simp
       rw[hs0]
       rintro e w10 ⟨rfl,hb10⟩
       have hn0:0<=nQ a b p:=by rcases hni with h|h;exact absurd hd0 h;exact h
       have hs1:Zi (toR (nQ a b p))=0\/Zi (toR (nQ a b p))=1:=by rw[ZH hfn.out,if_neg (by grind)];split;exact .inr rfl;exact .inl rfl
       have hb910:=hb9.next hb10
       obtain⟨y0,y1,y2⟩:=bx3 (h9.bl hb910)
       clear hd0 hs0 hn0
       go_wp2_with fail
       refine(qw _ (hRn.bl hb910)).mono ?_
       rw[hokn.out]
       rintro e w11 ⟨rfl,hb11⟩
       obtain⟨y0,y1,y2⟩:=bx3 (h9.bl (hb910.next hb11))
       go_wp2_with fail
       refine(zI _ (hRn.bl (hb910.next hb11))).mono ?_
       rcases hs1 with hs1|hs1
       all_goals
        rw[hs1]
        rintro e w12 ⟨rfl,hb12⟩
        go_wp2_with fail
        go_ret
        exact⟨rfl,slc⟩
      ·obtain⟨z9,hz9,hz90⟩:∃z,Zi (toR (dQ a b p))=z/\(z == 0)=false:=⟨_,rfl,by rw[ZH hfd.out];split;rfl;rw[if_pos (by grind)];rfl⟩
       rw[hz9]
       rintro e w10 ⟨rfl,hb10⟩
       clear hz9 hd0
       go_wp2_with fail
       go_ret
       exact⟨rfl,slc⟩
def qeG (a b c:Rat × Rat):Bool:=decide (0<dQ a b c)
def npQ (a b p:Rat × Rat):Bool:=!decide (0<dQ a b p)
def apE (a b d e f:Rat × Rat):Bool:=npQ a b d&&(npQ a b e&&npQ a b f)
def apQ (a b c d e f:Rat × Rat):Bool:=apE a b d e f||(apE b c d e f||apE c a d e f)
def c0 (m:MeQ) (k:Nat):Rat × Rat:=mc m (pix m.tris k).a
def c1 (m:MeQ) (k:Nat):Rat × Rat:=mc m (pix m.tris k).b
def c2 (m:MeQ) (k:Nat):Rat × Rat:=mc m (pix m.tris k).c
def cnQ (m:MeQ) (k:Nat):List (Rat × Rat):=[c0 m k,c1 m k,c2 m k]
structure SpM (m:MeQ):Prop where
 fit:KY m
 pos:∀k,k<m.tris.length->qeG (c0 m k) (c1 m k) (c2 m k)=true
 apart:∀k,k<m.tris.length->∀j,j<k->(apQ (c0 m k) (c1 m k) (c2 m k) (c0 m j) (c1 m j) (c2 m j)||apQ (c0 m j) (c1 m j) (c2 m j) (c0 m k) (c1 m k) (c2 m k))=true
 noins:∀k,k<m.tris.length->∀p,p<m.pts.length->VH (pix m.pts p) (c0 m k) (c1 m k)=true/\VH (pix m.pts p) (c1 m k) (c2 m k)=true/\VH (pix m.pts p) (c2 m k) (c0 m k)=true
def qev (m:MeQ):Bool :=
 decide (∀ k, k < m.tris.length -> qeG (c0 m k) (c1 m k) (c2 m k) = true /\ (∀ j, j < k -> (apQ (c0 m k) (c1 m k) (c2 m k) (c0 m j) (c1 m j) (c2 m j) || apQ (c0 m j) (c1 m j) (c2 m j) (c0 m k) (c1 m k) (c2 m k)) = true) /\
  ∀p,p<m.pts.length->VH (pix m.pts p) (c0 m k) (c1 m k)=true/\VH (pix m.pts p) (c1 m k) (c2 m k)=true/\VH (pix m.pts p) (c2 m k) (c0 m k)=true)
theorem SpM.of {m:MeQ}(h:KY m) (h2:qev m=true):SpM m:=by
 unfold qev at h2
 have h2:=of_decide_eq_true h2
 exact⟨h,λk hk=>(h2 k hk).1,λk hk=>(h2 k hk).2.1,λk hk=>(h2 k hk).2.2⟩
theorem KY.smC {m:MeQ}(h:KY m) {k:Nat}(hk:k<m.tris.length):Sm2 (c0 m k)/\Sm2 (c1 m k)/\Sm2 (c2 m k):=by
 obtain⟨⟨a0,a1⟩,⟨b0,b1⟩,d0,d1⟩:=h.ok.ixs k hk
 exact⟨h.sm _ (by omega),h.sm _ (by omega),h.sm _ (by omega)⟩
theorem qaI {m:MeQ}(h:KY m) {k:Nat}(hk:k<m.tris.length):QD ⟨m.pts.map tp,m.tris⟩ (k:Int)=(cnQ m k).map tp:=Uk h.ok.ixs hk
theorem Sm2.up {p:Rat × Rat}(h:Sm2 p):Bd 19652 p.1/\Bd 19652 p.2:=⟨h.1.mono (by decide),h.2.mono (by decide)⟩
theorem Vx {m:MeQ}(h:SpM m) {k:Nat}(hk:k<m.tris.length):Q5 ((cnQ m k).map tp)=true:=by
 obtain⟨s0,s1,s2⟩:=h.fit.smC hk
 exact kT s0.up.1 s0.up.2 s1.up.1 s1.up.2 s2.up.1 s2.up.2 (of_decide_eq_true (h.pos k hk))
theorem KL {a b p:Rat × Rat}(ha:Sm2 a) (hb:Sm2 b) (hp:Sm2 p) (h:npQ a b p=true):¬0<Zi (Yc (tp a) (tp b) (tp p)):=by
 obtain⟨e,hd⟩:=Vj ha.1 ha.2 hb.1 hb.2 hp.1 hp.2
 rw[show Yc (tp a) (tp b) (tp p)=toR (K5 a.1 a.2 b.1 b.2 p.1 p.2)from e,kF hd (by decide)]
 unfold npQ at h
 cases hc:decide (0<dQ a b p)with
 | true=>rw[hc]at h;cases h
 | false=>exact of_decide_eq_false hc
theorem KR {a b d e f:Rat × Rat}(ha:Sm2 a) (hb:Sm2 b) (hd:Sm2 d) (he:Sm2 e) (hf:Sm2 f) (h:apE a b d e f=true):Qn (tp a) (tp b) [tp d,tp e,tp f]:=by
 unfold apE at h
 simp only[Bool.and_eq_true]at h
 exact qdF (KL ha hb hd h.1) (KL ha hb he h.2.1) (KL ha hb hf h.2.2)
theorem kI {a b c d e f:Rat × Rat}(ha:Sm2 a) (hb:Sm2 b) (hc:Sm2 c) (hd:Sm2 d) (he:Sm2 e) (hf:Sm2 f) (h:apQ a b c d e f=true):U9 [tp a,tp b,tp c] [tp d,tp e,tp f]=true:=by
 unfold apQ at h
 simp only[Bool.or_eq_true]at h
 rcases h with h|h|h
 ·exact QX (.inl (KR ha hb hd he hf h))
 ·exact QX (.inr (.inl (KR hb hc hd he hf h)))
 ·exact QX (.inr (.inr (KR hc ha hd he hf h)))
theorem qeg {m:MeQ}(h:SpM m) {k j:Nat}(hk:k<m.tris.length) (hj:j<k):ovB ((cnQ m k).map tp) ((cnQ m j).map tp)=false:=by
 obtain⟨s0,s1,s2⟩:=h.fit.smC hk
 obtain⟨t0,t1,t2⟩:=h.fit.smC (k:=j) (by omega)
 have ha:=h.apart k hk j hj
 rw[Bool.or_eq_true]at ha
 unfold ovB
 rcases ha with ha|ha
 ·rw[show U9 ((cnQ m k).map tp) ((cnQ m j).map tp)=true from kI s0 s1 s2 t0 t1 t2 ha]
  simp
 ·rw[show U9 ((cnQ m j).map tp) ((cnQ m k).map tp)=true from kI t0 t1 t2 s0 s1 s2 ha]
  simp
def Xj (l:List EdD):Prop:=∀e∈l,e.a<=e.b
theorem qaN (a b:Int):(qS a b).a<=(qS a b).b:=by
 show min a b<=max a b
 omega
theorem Xj.put {l:List EdD}{a b k:Int}(h:Xj l):Xj (yX l a b k):=by
 have h2:Xj (if yG (qS a b) l then l else vv (qS a b) l):=by
  by_cases hf:yG (qS a b) l=true
  ·rw[if_pos hf];exact h
  ·rw[if_neg hf]
   intro e he
   unfold vv at he
   rw[List.mem_append,List.mem_cons]at he
   rcases he with he|rfl|he
   ·exact h e (List.mem_of_mem_take he)
   ·exact qaN a b
   ·exact h e (List.mem_of_mem_drop he)
 intro e he
 rcases Je he with he |⟨x,hx,rfl⟩
 ·exact h2 e he
 ·have:=h2 x hx
  unfold zo
  split <;> exact this
theorem Xj.tri {l:List EdD}{t:qC}{k:Int}(h:Xj l) (i:Nat):Xj (zy l t k i):=by
 unfold zy
 split
 ·exact h
 ·exact h.put
 ·exact h.put.put
 ·exact h.put.put.put
theorem Vc (ts:List qC):∀k,Xj (yU ts k)
 | 0=>λe he=>by simp[yU]at he
 | k+1=>(Vc ts k).tri 3
theorem Xj.at_ {l:List EdD}(h:Xj l) {k:Nat}(hk:k<l.length):(pix l k).a<=(pix l k).b:=by
 refine h _ ?_
 unfold pix
 rw[List.getD_eq_getElem?_getD,List.getElem?_eq_getElem hk]
 exact List.getElem_mem hk
def edI (L:List EdD) (a b:Int):Int:=if yG (qS a b) L=true then (zD (qS a b) L:Int)else -1
theorem JC {L:List EdD}{e:EdD}(hs:Zr L) {i:Nat}(hi:i<L.length) (h:Zz (pix L i) e=0):i=zD e L:=by
 rw[Qz]at h
 refine Jg hs (Nat.le_of_lt hi) (λk hk=>?_) (λk hk hk2=>?_)
 ·have:=hs k i hk hi
  rw[Qs]at this ⊢
  omega
 ·rw[Bool.eq_false_iff,Ne,Qs]
  rcases Nat.lt_or_eq_of_le hk with h2|h2
  ·have:=hs i k h2 hk2
   rw[Qs]at this
   omega
  ·subst h2
   omega
theorem qby {L:List EdD}{e:EdD}(hs:Zr L) {i:Nat}(hi:i<L.length) (h:Zz (pix L i) e=0):yG e L=true:=by
 have hp:=JC hs hi h
 unfold yG
 rw[<-hp,decide_eq_true hi,decide_eq_true h]
 rfl
theorem qc1 {L:List EdD}(hs:Zr L) {i:Nat}(hi:i<L.length) {a b:Int}(h:Zz (pix L i) (qS a b)=0):edI L a b=(i:Int):=by
 unfold edI
 rw[if_pos (qby hs hi h),<-JC hs hi h]
theorem qdI {L:List EdD}{a b:Int}(h:∀i,i<L.length->¬Zz (pix L i) (qS a b)=0):edI L a b=-1:=by
 unfold edI
 refine if_neg λhf=>?_
 unfold yG at hf
 simp only[Bool.and_eq_true,decide_eq_true_eq]at hf
 exact h _ hf.1 hf.2
theorem Qc {L:List EdD}{a b:Int}(h:yG (qS a b) L=true):edI L a b=(zD (qS a b) L:Int):=if_pos h
theorem mtE {x:EdD}(hx:x.a<=x.b) (a b:Int):(x.a=a/\x.b=b\/x.a=b/\x.b=a)↔Zz x (qS a b)=0:=by
 rw[Qz]
 show _↔x.a=min a b/\x.b=max a b
 omega
theorem qj {W:World}{ops:Array Oper}{rest:List Oper}{o:Oper}{a:Act}{Q:Exit->Act->World->Prop}(hgd:o.guard=none) (s x:Operand)
  (ho:o.op=.call { callee:=.builtin .append,args:=#[s,x],argTypes:=#[54,54] }) (v:Value) (l:List EdD) (hs:a.eval s=v) {base:Nat}(hown:zU base W v l) (hnil:v≠.slice none 0 0) (hbase:base<=W.heap.size) (w0:World) (hb:Bl w0 W) (h0:w0.heap.size<=base)
  (g q m c:Nat) (hx:a.eval x=.slice (some ⟨g,q,none⟩) m c) (ys:List EdD) (hl:ys.length=m) (hr:∀k,k<m->Us W ⟨g,q+k*4,none⟩ (pix ys k)) (hlen:l.length<=1048576) (hm:m<=1048576)
  (h:∀v' w',zU base w' v' (l++ys)->v'≠.slice none 0 0->Bl w0 w'->(W.heap.size<=w'.heap.size/\∀g,g<W.heap.size->v.ownBlock≠some g->w'.heap[g]?=W.heap[g]?/\v'.ownBlock≠some g)->wpList Tryz.prog ops Q rest (a.put o.dst v') w'):wpList Tryz.prog ops Q (o::rest) a W:=by
 obtain⟨i0,hi,hz0,hz1,hz2⟩:=info_parts ZF
 refine wpList_append_own_at _ hgd s x 54 ho base 152 i0 _ 4 32 Tryz.underlying54 hi hz0 hz1 hz2 rfl (by omega) v l.length (l.flatMap jC) hs hown ⟨g,q,none⟩ m c (ys.flatMap jC) hx (by rw[Yj,hl]) ?_ ?_ (by simp only[maxLen];omega) (by omega) hbase ?_
 ·intro j u hu
  have hj:j < ys.length * 4:=by
   rcases Nat.lt_or_ge j (ys.length*4)with h|h
   ·exact h
   ·rw[List.getElem?_eq_none (by rw[Yj];exact h)]at hu;simp at hu
  have hk:j / 4<ys.length:=by omega
  have e:j=j / 4*4+j % 4:=by omega
  rw[e,Vb ys hk (Nat.mod_lt _ (by omega))]at hu
  obtain⟨c0,c1,c2,c3⟩:=hr (j / 4) (by omega)
  rw[Addr.add_lit,e]
  have h5:j % 4<4:=Nat.mod_lt _ (by omega)
  generalize j % 4=r at hu h5 ⊢
  rw[<-Nat.add_assoc]
  rcases(show r=0\/r=1\/r=2\/r=3 by omega)with rfl|rfl|rfl|rfl
  ·exact c0.trans hu
  ·exact c1.trans hu
  ·exact c2.trans hu
  ·exact c3.trans hu
 ·intro u hu
  obtain⟨t,_,ht⟩:=List.mem_flatMap.1 hu
  exact Ji t u ht
 ·intro v' w' g1 g2 g3 g4
  refine h v' w' ?_ (λe=>hnil (g3.1 e).1) (hb.grown g2 λk hk=>by have:=(hown.blk hk).1;omega) ⟨g2.size,λb hb1 hb2=>⟨g2.block b hb1 (λe=>hb2 e.symm),λe=>?_⟩⟩
  ·unfold zU
   rw[List.length_append,hl,List.flatMap_append]
   exact g1
  ·rcases g4 with g4|g4
   ·rw[g4]at e;exact hb2 e
   ·rw[g4]at e;injection e with e;omega
theorem zh (w:World) {g n c:Nat}{L:List EdD}(h:Yn w (some ⟨g,0,none⟩) n c L) (hs:Zr L) (hN:Xj L) (hn:n<=1048576) (a b:Int) :
  Calls Tryz.prog 162 #[.slice (some ⟨g,0,none⟩) n c,.int .i64 a,.int .i64 b] w λe w'=>e=.returned (.int .i64 (edI L a b))/\Bl w w':=by
 replace hs:=Lib.hid hs
 replace hN:=Lib.hid hN
 have hl:=Lib.hid h.len
 go_enter Tryz.func162,Tryz.ntmps162
 go_wp2_with fail
 go_loopw [11] (λv wr=>∃i:Nat,i<=n/\v=.int .i64 (i:Int)/\Hid (∀k,k<i->¬Zz (pix L k) (qS a b)=0)/\Bl w wr) (λv _=>n-(intOf v).toNat)
 case atStart=>exact⟨0,by omega,rfl,Lib.hid (λk hk=>by omega),Bl.refl _⟩
 case round=>
  obtain⟨i,hi,rfl,hno,hbw⟩:=hrel
  obtain⟨wo,rfl⟩:∃wo:World,wo=wr:=⟨_,rfl⟩
  by_cases hin:i<n
  ·have hii:(i:Int)<(n:Int):=by omega
   obtain⟨c0,c1,c2,c3⟩:=zX (h.bl hbw) hin
   have hmt:=mtE (hN.out.at_ (k:=i) (by rw[hl.out];exact hin)) a b
   have hat:=Lib.hid (λh2=>qc1 (a:=a) (b:=b) hs.out (i:=i) (by rw[hl.out];exact hin) h2)
   have hstep:¬Zz (pix L i) (qS a b)=0->∀k,k<i+1->¬Zz (pix L k) (qS a b)=0:=λh2 k hk=>by
    rcases(show k<i\/k=i by omega)with h3|rfl
    ·exact hno.out k h3
    ·exact h2
   replace hstep:=Lib.hid hstep
   obtain⟨x,hx⟩:∃x,pix L i=x:=⟨_,rfl⟩
   rw[hx]at c0 c1 c2 c3 hmt hat hstep
   clear hx hno
   go_upto_region 4 with (fail)
   refine qe (λW2=>Bl wo W2/\∃g8,Blk W2 g8 152 #[.int .i64 x.a,.int .i64 x.b,.int .i64 x.l,.int .i64 x.r]/\g8=wo.heap.size) ⟨by exact slc,_,by exact bts,rfl⟩ ?_
   rintro W2 ⟨hb2,g8,h8,hg8⟩
   rw[<-hg8]
   clear c0 c1 c2 c3 hg8
   obtain⟨y0,y1,y2,y3⟩:=bx4 h8
   have hbw:=hbw.next hb2
   clear hb2 h8
   obtain⟨b0,hb0⟩:∃q,(x.a == a)=q:=⟨_,rfl⟩
   obtain⟨b1,hb1⟩:∃q,(x.b == b)=q:=⟨_,rfl⟩
   obtain⟨b2,hb2⟩:∃q,(x.a == b)=q:=⟨_,rfl⟩
   obtain⟨b3,hb3⟩:∃q,(x.b == a)=q:=⟨_,rfl⟩
   have hM:decide (Zz x (qS a b)=0)=(b0 && b1 || b2 && b3):=by
    rw[<-hb0,<-hb1,<-hb2,<-hb3,<-Bool.eq_iff_iff.2 (show decide (x.a=a/\x.b=b\/x.a=b/\x.b=a)=true↔decide (Zz x (qS a b)=0)=true by simpa using hmt)]
    rw[Bool.eq_iff_iff]
    simp
   replace hM:=Lib.hid hM
   clear hmt
   cases b0 <;> cases b1 <;> cases b2 <;> cases b3
   all_goals (go_wp2_with fail)
   all_goals first
    | (go_ret;exact⟨congrArg (λz=>Ending.returned (.int .i64 z)) (hat.out (of_decide_eq_true hM.out)).symm,hbw⟩)
    | go_roundw
   all_goals first
    | exact⟨i+1,by omega,by go_num,Lib.hid (hstep.out (of_decide_eq_false hM.out)),hbw⟩
    | (simp[intOf];omega)
  ·obtain rfl:i=n:=by omega
   have hkm2:¬(i:Int)<(i:Int):=by omega
   go_wp2_with fail
   go_ret
   exact⟨congrArg (λz=>Ending.returned (.int .i64 z)) (qdI (λk hk=>hno.out k (by rw[hl.out]at hk;exact hk))).symm,hbw⟩
end Go.Proofs.YtjaapemopbbfaaaGreatDoor
