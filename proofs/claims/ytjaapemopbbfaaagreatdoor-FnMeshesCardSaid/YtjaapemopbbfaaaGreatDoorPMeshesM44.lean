import Derived.Test.YtjaapemopbbfaaaGreatDoorPMeshesM43
namespace Go.Proofs.YtjaapemopbbfaaaGreatDoor
open Go.RowKit
set_option maxRecDepth 100000
set_option maxHeartbeats 32000000
def em1 (ts:List qC) (L:List EdD) (x:Nat):Nat->List Bool
 | 0=>List.replicate L.length false
 | _+1=>(List.replicate L.length false).set (zD (qS (pix ts x).b (pix ts x).c) L) true
theorem qcz (ts:List qC) (L:List EdD) (x:Nat):∀i,(em1 ts L x i).length=L.length
 | 0=>by simp[em1]
 | _+1=>by simp[em1]
theorem Ug {n x:Nat}(hx:x<n):∀k,k<=n->JJ ((List.replicate n false).set x true) k=if x<k then [(x:Int)]else []
 | 0,_=>by simp[JJ]
 | k+1,hk=>by
  rw[QK,Ug hx k (by omega),<-YD (n:=n) (by simp) true k (by omega),Xy]
  by_cases h:k=x
  ·subst h
   simp
  ·by_cases h2:x<k
   ·simp[h,h2]
    omega
   ·simp[h,h2]
    omega
theorem qcA {ts:List qC}{x:Nat}(hx:x<ts.length):emA ts [(x:Int)]=lsA (em1 ts (edL ts) x 1):=by
 have h1:mkA [(x:Int)] ts.length=(List.replicate ts.length false).set x true:=by
  show (if 0<=ix [(x:Int)] 0/\ix [(x:Int)] 0<=(ts.length:Int)-1 then (List.replicate ts.length false).set (ix [(x:Int)] 0).toNat true else _)=_
  rw[if_pos ⟨by show (0:Int)<=(x:Int);omega,by show (x:Int)<=_;omega⟩]
  rfl
 have h2:lsA (mkA [(x:Int)] ts.length)=[(x:Int)]:=by
  rw[h1]
  unfold lsA
  rw[List.length_set,List.length_replicate,Ug hx _ (Nat.le_refl _),if_pos hx]
 unfold emA emB
 rw[h2]
 rfl
theorem vj (w:World) {gp n cp gt m ct:Nat}{mq:MeQ}(hp:qR w (some ⟨gp,0,none⟩) n cp (mq.pts.map tp)) (ht0:zx w (some ⟨gt,0,none⟩) m ct mq.tris) (hsm:SpM mq) (hdd:∀k,k<mq.tris.length->(pix mq.tris k).a≠(pix mq.tris k).b/\(pix mq.tris k).b≠(pix mq.tris k).c/\(pix mq.tris k).c≠(pix mq.tris k).a) {B:Option Addr}{d:Nat}{x:Int}(hl:RdI w B 1 d [x]) (hx0:0<=x) (hx1:x<(m:Int)) :
  Calls Tryz.prog 118 #[.agg #[.slice (some ⟨gp,0,none⟩) n cp,.slice (some ⟨gt,0,none⟩) m ct],.slice B 1 d] w (qbo w (emA mq.tris [x])):=by
 obtain⟨xn,rfl⟩:∃xn:Nat,x=(xn:Int):=⟨x.toNat,by omega⟩
 have hxm:xn<m:=by omega
 have hm48:m<=48:=by rw[<-ht0.len];exact hsm.fit.ok.t48
 have hE:xy mq.tris (edL mq.tris):=hsm.fit.has
 have hsrt:=Lib.hid (show Zr (edL mq.tris)from jQ mq.tris _)
 have hnrm:=Lib.hid (show Xj (edL mq.tris)from Vc mq.tris _)
 have hlt:=Lib.hid ht0.len
 have hlE:(edL mq.tris).length<=30000:=by have h:=jh mq.tris mq.tris.length;rw[ht0.len]at h;unfold edL;rw[ht0.len];omega
 have hemA:=Lib.hid (qcA (ts:=mq.tris) (x:=xn) (by rw[ht0.len];exact hxm))
 replace hE:=Lib.hid hE
 replace hdd:=Lib.hid hdd
 replace hsm:=Lib.hid hsm
 have hp0:=hp
 have hcpt:=ht0.cap
 go_enter Tryz.func118,Tryz.ntmps118
 go_wp2_with fail
 refine qd (λW=>Bl w W/\Blk W w.heap.size 49 #[.slice (some ⟨gp,0,none⟩) n cp,.slice (some ⟨gt,0,none⟩) m ct]) ⟨slc,bts⟩ ?_
 rintro W ⟨hbW,h4⟩
 refine(XB _ (qR.bl hp hbW) (zx.bl ht0 hbW) hsm.out).mono ?_
 rintro e w0 ⟨rfl,hb0⟩
 have h4:=h4.bl hb0
 have hbW:=hbW.next hb0
 clear hb0
 obtain⟨r0,r1⟩:=bx2 h4
 go_wp2_with fail
 clear r0 r1
 refine(Ju _ (zx.bl ht0 hbW) (by omega) hdd.out).mono ?_
 rintro e w1 ⟨ge,ne,ce,rfl,hes,hge,hb1⟩
 have h4:=h4.bl hb1
 have hbW:=hbW.next hb1
 have hgeg:0<ne->ge<w1.heap.size:=λh=>by
  obtain⟨ad,e,hlt,_⟩:=hes.cells 0 h
  injection e with e
  rw[<-e]at hlt
  exact hlt
 clear hb1 hge
 obtain⟨ts,hts⟩:∃ts,mq.tris=ts:=⟨_,rfl⟩
 have ht:=ht0
 rw[hts]at hes hE hsrt hnrm hlt hemA ht hlE ⊢
 have hne:=Lib.hid hes.len
 have hnl3:ne<=30000:=by rw[<-hes.len];exact hlE
 have hnl:ne<=1048576:=by omega
 obtain⟨L,hL⟩:∃L,edL ts=L:=⟨_,rfl⟩
 rw[hL]at hes hne hE hemA hsrt hnrm
 clear hL hlE
 have hmk:=λW:World=>QQ ne hnl W
 obtain⟨r0,r1⟩:=bx2 (h4.alloc (Vq ne))
 go_wp2_with fail
 clear r0 r1
 refine qe (λW=>Bl w1 W/\∃gm,OwU W gm ne (bgt (em1 ts L xn 0))/\gm=w1.heap.size) ⟨by exact slc,_,OwU.made w1 ne _ (λi=>Xy _ i),rfl⟩ ?_
 rintro W2 ⟨hbW2,gm,hU,hgm⟩
 rw[<-hgm]
 clear hmk
 have h4l:=h4.lt
 have h4g:w.heap.size<gm:=by omega
 have h4:=h4.bl hbW2
 have hes:=hes.bl hbW2
 have hbW:=hbW.next hbW2
 rw[<-hgm]at hgeg
 clear hgm h4l
 have hlc:=hl.cap
 go_wp2_with fail
 go_loopw [19] (λv wr=>∃i:Nat,i<=1/\v=.int .i64 (i:Int)/\OwU wr gm ne (bgt (em1 ts L xn i))/\Yn wr (some ⟨ge,0,none⟩) ne ce L/\Blk wr w.heap.size 49 #[.slice (some ⟨gp,0,none⟩) n cp,.slice (some ⟨gt,0,none⟩) m ct]/\Bl w wr) (λv _=>1-(intOf v).toNat)
 case atStart=>exact⟨0,by omega,rfl,hU,hes,h4,hbW⟩
 case round=>
  clear hU hes h4 hbW
  obtain⟨i,hi,rfl,hU,hes,h4,hbw⟩:=hrel
  obtain⟨wj,rfl⟩:∃wj:World,wj=wr:=⟨_,rfl⟩
  rcases(show i=0\/i=1 by omega)with rfl|rfl
  ·have e0:((0:Nat):Int)=0:=rfl
   rw[e0]
   clear e0
   have hlj:=RdI.bl hl hbw
   obtain⟨ad,rfl,hlta,hca⟩:=hlj.cells 0 (by omega)
   rw[show ix [(xn:Int)] 0=(xn:Int)from rfl]at hca
   have hca:wj.cell? ad=some (.int .i64 (xn:Int)):=by have h:=hca;simp[Addr.add]at h;exact h
   obtain⟨r0,r1⟩:=bx2 h4
   go_wp2_with fail
   refine(QB _ (a:=(xn:Int)) (lo:=0) (hi:=(m:Int)-1) (by omega) (by omega)).mono ?_
   rintro e w7 ⟨rfl,hq7⟩
   have hb67:Bl wj w7:=by obtain⟨q7,rfl⟩:=hq7;exact(Bl.refl _).drewN q7
   clear hq7 r0 r1
   have hU:=hU.bl hb67
   have hes:=hes.bl hb67
   have h4:=h4.bl hb67
   have hbw:=hbw.next hb67
   clear hb67 hca hlta hlj
   obtain⟨wj,rfl⟩:∃wj:World,wj=w7:=⟨_,rfl⟩
   have hemS:=Lib.hid (show em1 ts L xn 1=(em1 ts L xn 0).set (zD (qS (pix ts xn).b (pix ts xn).c) L) true from rfl)
   have hem0:=Lib.hid (show (em1 ts L xn 0).length=L.length by simp[em1])
   rw[show (pix ts xn)=(pix ts xn)from rfl]at hemS
   have hxmi:(xn:Int)<(m:Int):=by omega
   have hEx:=(hE.out xn (by rw[hlt.out];exact hxm)).1
   obtain⟨y0,y1,y2,y3,y4⟩:=jO (zx.bl ht hbw) hxm
   have hgl:gt<wj.heap.size:=by obtain⟨ad2,e2,hlt2,_⟩:=(zx.bl ht hbw).cells xn hxm;injection e2 with e2;rw[<-e2]at hlt2;exact hlt2
   obtain⟨t,ht_⟩:∃t,pix ts xn=t:=⟨_,rfl⟩
   rw[ht_]at y1 y2 hEx hemS
   obtain⟨P,hPe⟩:∃P,zD (qS t.b t.c) L=P:=⟨_,rfl⟩
   have hPn:P<ne:=by rw[<-hPe,<-hne.out];exact Qp hEx
   have hPi:(P:Int)<(ne:Int):=by omega
   rw[hPe]at hemS
   replace hPe:=Lib.hid hPe
   have hfe:=Lib.hid hEx
   clear hEx ht_ y0 y3 y4
   go_wp2_with fail
   have hHeld:(λw'=>(w'.cell? ⟨w.heap.size,0,none⟩=some (.slice (some ⟨gp,0,none⟩) n cp)/\w'.cell? ⟨w.heap.size,1,none⟩=some (.slice (some ⟨gt,0,none⟩) m ct))/\w'.cell? ⟨gt,xn*5+1,none⟩=some (.int .i64 t.b)/\w'.cell? ⟨gt,xn*5+2,none⟩=some (.int .i64 t.c)) (wj.drew):=⟨bx2 (T:=49) (h4.bl slc),(Bl.qeV (w:=wj) (p:=⟨gt,xn*5+1,none⟩) slc hgl).trans y1,(Bl.qeV (w:=wj) (p:=⟨gt,xn*5+2,none⟩) slc hgl).trans y2⟩
   refine yp 16 17 (λw'=>(w'.cell? ⟨w.heap.size,0,none⟩=some (.slice (some ⟨gp,0,none⟩) n cp)/\w'.cell? ⟨w.heap.size,1,none⟩=some (.slice (some ⟨gt,0,none⟩) m ct))/\w'.cell? ⟨gt,xn*5+1,none⟩=some (.int .i64 t.b)/\w'.cell? ⟨gt,xn*5+2,none⟩=some (.int .i64 t.c)) rfl (by kernel_rfl) hHeld ?_
   refine qc (i:=0) (oi:=_) (v:=?_) (fuel:=16) rfl (by kernel_rfl) (by kernel_rfl) (by kernel_rfl) (by kernel_rfl) (λ_ _ _ h=>h) (by rfl) ?_ hHeld ?_
   rotate_left 1
   ·(intro w' hSw;(try dsimp only at hSw);go_simp <;> with_reducible rfl)
   refine qc (i:=1) (oi:=_) (v:=?_) (fuel:=15) rfl (by kernel_rfl) (by kernel_rfl) (by kernel_rfl) (by kernel_rfl) (λ_ _ _ h=>h) (by rfl) ?_ hHeld ?_
   rotate_left 1
   ·(intro w' hSw;(try dsimp only at hSw);go_simp <;> with_reducible rfl)
   refine qc (i:=2) (oi:=_) (v:=?_) (fuel:=14) rfl (by kernel_rfl) (by kernel_rfl) (by kernel_rfl) (by kernel_rfl) (λ_ _ _ h=>h) (by rfl) ?_ hHeld ?_
   rotate_left 1
   ·(intro w' hSw;(try dsimp only at hSw);go_simp <;> with_reducible rfl)
   refine qc (i:=3) (oi:=_) (v:=?_) (fuel:=13) rfl (by kernel_rfl) (by kernel_rfl) (by kernel_rfl) (by kernel_rfl) (λ_ _ _ h=>h) (by rfl) ?_ hHeld ?_
   rotate_left 1
   ·(intro w' hSw;(try dsimp only at hSw);go_simp <;> with_reducible rfl)
   refine qc (i:=4) (oi:=_) (v:=?_) (fuel:=12) rfl (by kernel_rfl) (by kernel_rfl) (by kernel_rfl) (by kernel_rfl) (λ_ _ _ h=>h) (by rfl) ?_ hHeld ?_
   rotate_left 1
   ·(intro w' hSw;(try dsimp only at hSw);go_simp <;> with_reducible rfl)
   refine qc (i:=5) (oi:=_) (v:=?_) (fuel:=11) rfl (by kernel_rfl) (by kernel_rfl) (by kernel_rfl) (by kernel_rfl) (λ_ _ _ h=>h) (by rfl) ?_ hHeld ?_
   rotate_left 1
   ·(intro w' hSw;(try dsimp only at hSw);go_simp <;> with_reducible rfl)
   refine qc (i:=6) (oi:=_) (v:=?_) (fuel:=10) rfl (by kernel_rfl) (by kernel_rfl) (by kernel_rfl) (by kernel_rfl) (λ_ _ _ h=>h) (by rfl) ?_ hHeld ?_
   rotate_left 1
   ·(intro w' hSw;(try dsimp only at hSw);go_simp <;> with_reducible rfl)
   refine qc (i:=7) (oi:=_) (v:=?_) (fuel:=9) rfl (by kernel_rfl) (by kernel_rfl) (by kernel_rfl) (by kernel_rfl) (λ_ _ _ h=>h) (by rfl) ?_ hHeld ?_
   rotate_left 1
   ·(intro w' hSw;(try dsimp only at hSw);go_simp <;> with_reducible rfl)
   refine qc (i:=8) (oi:=_) (v:=?_) (fuel:=8) rfl (by kernel_rfl) (by kernel_rfl) (by kernel_rfl) (by kernel_rfl) (λ_ _ _ h=>h) (by rfl) ?_ hHeld ?_
   rotate_left 1
   ·(intro w' hSw;(try dsimp only at hSw);go_simp <;> with_reducible rfl)
   refine qc (i:=9) (oi:=_) (v:=?_) (fuel:=7) rfl (by kernel_rfl) (by kernel_rfl) (by kernel_rfl) (by kernel_rfl) (λ_ _ _ h=>h) (by rfl) ?_ hHeld ?_
   rotate_left 1
   ·(intro w' hSw;(try dsimp only at hSw);go_simp <;> with_reducible rfl)
   refine qc (i:=10) (oi:=_) (v:=?_) (fuel:=6) rfl (by kernel_rfl) (by kernel_rfl) (by kernel_rfl) (by kernel_rfl) (λ_ _ _ h=>h) (by rfl) ?_ hHeld ?_
   rotate_left 1
   ·(intro w' hSw;(try dsimp only at hSw);go_simp <;> with_reducible rfl)
   refine qc (i:=11) (oi:=_) (v:=?_) (fuel:=5) rfl (by kernel_rfl) (by kernel_rfl) (by kernel_rfl) (by kernel_rfl) (λ_ _ _ h=>h) (by rfl) ?_ hHeld ?_
   rotate_left 1
   ·(intro w' hSw;(try dsimp only at hSw);go_simp <;> with_reducible rfl)
   refine qc (i:=12) (oi:=_) (v:=?_) (fuel:=4) rfl (by kernel_rfl) (by kernel_rfl) (by kernel_rfl) (by kernel_rfl) (λ_ _ _ h=>h) (by rfl) ?_ hHeld ?_
   rotate_left 1
   ·(intro w' hSw;(try dsimp only at hSw);go_simp <;> with_reducible rfl)
   refine qc (i:=13) (oi:=_) (v:=?_) (fuel:=3) rfl (by kernel_rfl) (by kernel_rfl) (by kernel_rfl) (by kernel_rfl) (λ_ _ _ h=>h) (by rfl) ?_ hHeld ?_
   rotate_left 1
   ·(intro w' hSw;(try dsimp only at hSw);go_simp <;> with_reducible rfl)
   clear hHeld
   simp only[Act.put,List.setIfInBounds_toArray]
   refine qG (i:=14) (o:=_) (fuel:=2) rfl (by kernel_rfl) (λK hK=>?_)
   go_simp
   refine(zh _ (hes.bl slc) hsrt.out hnrm.out hnl t.b t.c).mono ?_
   rw[Qc hfe.out]
   rw[hPe.out]
   rintro e w5 ⟨rfl,hb5⟩
   have hb5:Bl wj w5:=slc
   have hU5:=hU.bl hb5
   have ux:=hU5.cell hPn
   have uf:=hU5.frozen P
   refine hK.out _ _ (λ_=>⟨bx2 (T:=49) (h4.bl slc),(Bl.qeV (w:=wj) (p:=⟨gt,xn*5+1,none⟩) slc hgl).trans y1,(Bl.qeV (w:=wj) (p:=⟨gt,xn*5+2,none⟩) slc hgl).trans y2⟩) ?_
   clear hK K
   try simp only[Act.put,List.setIfInBounds_toArray,List.set_cons_zero,List.set_cons_succ]
   refine qG (i:=15) (o:=_) (fuel:=1) rfl (by kernel_rfl) (λK hK=>?_)
   go_simp
   refine hK.out _ _ (λ_=>⟨bx2 (T:=49) (h4.bl slc),(Bl.qeV (w:=wj) (p:=⟨gt,xn*5+1,none⟩) slc hgl).trans y1,(Bl.qeV (w:=wj) (p:=⟨gt,xn*5+2,none⟩) slc hgl).trans y2⟩) ?_
   clear hK K
   try simp only[Act.put,List.setIfInBounds_toArray,List.set_cons_zero,List.set_cons_succ]
   refine qG (i:=16) (o:=_) (fuel:=0) rfl (by kernel_rfl) (λK hK=>?_)
   go_simp
   refine hK.out _ _ (λh=>absurd rfl h) ?_
   clear hK K
   try simp only[Act.put,List.setIfInBounds_toArray]
   refine ym (by kernel_rfl) ?_
   go_wp2_with fail
   go_roundw
   case rel=>exact⟨1,by omega,rfl,(hU5.set P true).congr (λj hj=>by rw[hemS.out];exact YD (by rw[hem0.out,hne.out]) true j hj),(hes.bl hb5).setLit (show ge≠gm by have:=hgeg (by omega);omega) _,(h4.bl hb5).far (show w.heap.size≠gm by omega) _,Bl.set (hbw.next hb5) (by show w.heap.size<=gm;omega) _⟩
   case measure=>simp[intOf]
  ·have e0:((1:Nat):Int)=1:=rfl
   rw[e0]
   clear e0
   go_wp2_with fail
   refine(XR _ hU (by rw[qcz,hne.out]) hnl).mono ?_
   rintro e w6 ⟨B6,k6,d6,rfl,hR6,hb6⟩
   go_wp2_with fail
   go_ret
   exact⟨B6,k6,d6,rfl,by rw[hts,hemA.out];exact hR6.mono hbw.size,hbw.next hb6⟩
theorem vO.lit {w:World}{gp n cp gt m ct:Nat}{mq:MeQ}(h:vO w (.agg #[.slice (some ⟨gp,0,none⟩) n cp,.slice (some ⟨gt,0,none⟩) m ct]) mq):qR w (some ⟨gp,0,none⟩) n cp (mq.pts.map tp)/\zx w (some ⟨gt,0,none⟩) m ct mq.tris:=by
 obtain⟨gp',n',cp',gt',m',ct',e,hp,ht⟩:=h
 simp at e
 obtain⟨⟨rfl,rfl,rfl⟩,rfl,rfl,rfl⟩:=e
 exact⟨hp,ht⟩
def YR (b0 g3:Nat) (w:World) (v:Value) (mq:MeQ):Prop:=vO w v mq/\∀w',w.heap.size<=w'.heap.size->(∀b,b0<=b->b≠g3->b<w.heap.size->w'.heap[b]?=w.heap[b]?)->vO w' v mq
section
variable {b0 b1 g3:Nat}{w W:World}{v:Value}{mq:MeQ}
theorem YR.keep (h:YR b0 g3 w v mq) (hs:w.heap.size<=W.heap.size) (hk:∀b,b0<=b->b≠g3->b<w.heap.size->W.heap[b]?=w.heap[b]?):YR b0 g3 W v mq :=
 ⟨h.2 W hs hk,λw' hs2 hk2=>h.2 w' (Nat.le_trans hs hs2) λb h1 h2 h3=>(hk2 b h1 h2 (Nat.lt_of_lt_of_le h3 hs)).trans (hk b h1 h2 h3)⟩
theorem YR.bl (h:YR b0 g3 w v mq) (hb:Bl w W):YR b0 g3 W v mq:=h.keep hb.size λb _ _ h3=>Below.block hb b h3
theorem YR.ob {g:Nat}(h:YR b0 g3 w v mq) (ho:Ob [g] w W) (hg:g<b0):YR b0 g3 W v mq:=h.keep ho.size λb h1 _ h3=>ho.block b h3 (by simp;omega)
theorem YR.set3 (h:YR b0 g3 w v mq) (o:Nat) (u:Value):YR b0 g3 (w.setCell ⟨g3,o,none⟩ u) v mq:=h.keep (by simp) λb _ h2 _=>Below.heap_setCell w ⟨g3,o,none⟩ u b h2
theorem YR.of1 (h:Qo b0 w v mq) (hb:Bl w W) (hg:w.heap.size<=g3):YR b0 g3 W v mq :=
 have h2:YR b0 g3 w v mq:=⟨h.1,λw' hs hk=>h.2 w' hs λb h1 h3=>hk b h1 (by omega) h3⟩
 h2.bl hb
theorem YR.of2 (h:Qo b1 w v mq) (hg:g3<b1) (hb:b0<=b1):YR b0 g3 w v mq :=
 ⟨h.1,λw' hs hk=>h.2 w' hs λb h1 h3=>hk b (Nat.le_trans hb h1) (by omega) h3⟩
theorem YR.ow (h:YR b0 g3 w v mq):Qo b0 w v mq:=⟨h.1,λw' hs hk=>h.2 w' hs λb h1 _ h3=>hk b h1 h3⟩
end
def stM (m:MeQ) (k:Nat):MeQ:=qdW m (emA m.tris [(k:Int)])
def MkM (m0:MeQ):Nat->MeQ->Prop
 | 0,m=>m=m0
 | i+1,m=>∃x,MkM m0 i x/\∃k,k<x.tris.length/\m=stM x k
structure vB (m:MeQ):Prop where
 sp:SpM m
 ne:∀k,k<m.tris.length->(pix m.tris k).a≠(pix m.tris k).b/\(pix m.tris k).b≠(pix m.tris k).c/\(pix m.tris k).c≠(pix m.tris k).a
 spl:∀k,k<m.tris.length->∀j,j<m.tris.length->qbw (J2 (edL m.tris) (vo (clA m.tris (emA m.tris [(k:Int)])) m.pts.length (edL m.tris).length)) 2 (pix m.tris j)
def qeb (w:World) (l:List Int) (e:Ending) (w':World):Prop:=∃v i m,e=.returned v/\i<=2/\MkM (coM l) i m/\Qo w.heap.size w' v m/\Bl w w'
theorem qbH (W:World) (x:Int):RdI (W.alloc (.cells #[.int .i64 x] 3)) (some ⟨W.heap.size,0,none⟩) 1 1 [x] :=
 ⟨rfl,Nat.le_refl _,by omega,λk hk=>by
  obtain rfl:k=0:=by omega
  exact⟨_,rfl,by show W.heap.size<(W.alloc _).heap.size;simp,by rw[Addr.add_lit];exact(Blk.new W 3 #[.int .i64 x]).cell 0⟩⟩
theorem kJ (w:World) {g nn cc:Nat}{A:Option Addr}{l:List Int}{s0:Int × Int}(hC:Jo g w A nn cc l s0) (hst:∀i,i<=1->∀m,MkM (coF l s0).1 i m->vB m) :
  Calls Tryz.prog 56 #[.pointer (some ⟨g,0,none⟩)] w λe w'=>∃v i m,e=.returned v/\i<=2/\MkM (coF l s0).1 i m/\Qo w.heap.size w' v m/\Ob [g] w w':=by
 have hgw:=hC.lt
 have hAl:∀ad,A=Option.some ad->0<nn->ad.block<w.heap.size:=λad e h0=>by
  obtain⟨_,_,_,hR,_⟩:=hC
  obtain⟨_,e2,hl,_⟩:=hR.cells 0 h0
  rw[e]at e2
  cases e2
  exact hl
 replace hAl:=Lib.hid hAl
 obtain⟨m0,hm0⟩:∃m0,(coF l s0).1=m0:=⟨_,rfl⟩
 rw[hm0]at hst ⊢
 go_enter Tryz.func56,Tryz.ntmps56
 go_wp2_with fail
 refine qd (λW=>Wk 2 49 w.heap.size W/\Bl w W) ⟨bts,slc⟩ ?_
 rintro W ⟨hr,hbW⟩
 have hzW:=hr.lt
 refine(UO _ (hC.bl hbW)).mono ?_
 rintro e w1 ⟨v1,rfl,_,hM,hC,hO⟩
 rw[hm0]at hM
 replace hst:=Lib.hid hst
 have hr:=hr.ob hO (by simp;omega)
 have hO:=(Ob.of_bl hbW [g]).trans hO
 have hM:=hM.low (show w.heap.size+1<=W.heap.size from hzW)
 clear hm0
 obtain⟨s1,hs1⟩:∃s1,(coF l s0).2=s1:=⟨_,rfl⟩
 rw[hs1]at hC
 clear hs1 hbW
 have hrl1:=hr.lt
 obtain⟨gp,n,cp,gt,m,ct,rfl,_,_⟩:=hM.1
 go_upto_region 2 with (fail)
 refine qe (λW2=>Bl w1 W2/\∃g3,Blk W2 g3 49 #[.slice (some ⟨gp,0,none⟩) n cp,.slice (some ⟨gt,0,none⟩) m ct]/\g3=w1.heap.size) ⟨by exact slc,_,by exact bts,rfl⟩ ?_
 rintro W2 ⟨hb2,g3,h3,hg3⟩
 rw[<-hg3]
 have hM:=YR.of1 (g3:=g3) hM hb2 (by omega)
 have hr:=hr.bl hb2
 have hO:=hO.trans (Ob.of_bl hb2 _)
 have hC:=hC.bl hb2
 have hgr:w.heap.size<g3:=by omega
 clear hb2 hg3
 go_wp2_with fail
 refine(yM _ 3 (by omega) (by omega) hC).mono ?_
 rintro e w3 ⟨rfl,hx0,hx1,hC,hO3⟩
 obtain⟨bb,hbb⟩:∃bb,beF l s1 3=bb:=⟨_,rfl⟩
 rw[hbb]at hx0 hx1 hC ⊢
 obtain⟨x,s2⟩:=bb
 dsimp only at hx0 hx1 hC ⊢
 clear hbb
 have h3:=h3.ob hO3 (by simp;omega)
 have hr:=hr.ob hO3 (by simp;omega)
 have hM:=hM.ob hO3 (by omega)
 have hO:=hO.trans hO3
 clear hO3
 go_wp2_with fail
 go_loopw [4] (λv wr=>∃(x:Int) (i:Nat) (gp n cp gt m ct:Nat) (mq:MeQ) (s:Int × Int),v=.int .i64 x/\0<=x/\x+(i:Int)<=2/\MkM m0 i mq/\Blk wr g3 49 #[.slice (some ⟨gp,0,none⟩) n cp,.slice (some ⟨gt,0,none⟩) m ct]/\YR (w.heap.size+1) g3 wr (.agg #[.slice (some ⟨gp,0,none⟩) n cp,.slice (some ⟨gt,0,none⟩) m ct]) mq/\Jo g wr A nn cc l s/\Wk 2 49 w.heap.size wr/\Ob [g] w wr) (λv _=>(intOf v).toNat)
 case atStart=>exact⟨x,0,gp,n,cp,gt,m,ct,m0,s2,rfl,hx0,by omega,rfl,h3,hM,hC,hr,hO⟩
 case round=>
  clear h3 hM hC hr hO hx0 hx1
  obtain⟨x,i,gp,n,cp,gt,m,ct,mq,s,rfl,hx0,hxi,hmk,h3,hM,hC,hr,hO⟩:=hrel
  obtain⟨wo,rfl⟩:∃wo:World,wo=wr:=⟨_,rfl⟩
  obtain⟨r0,r1⟩:=bx2 h3
  have hml:=Lib.hid (show mq.tris.length=m from hM.1.lit.2.len)
  by_cases hxp:0<x
  ·have d0:decide (0<x)=true:=decide_eq_true hxp
   by_cases hm10:m<10
   ·have d1:decide ((m:Int)<10)=true:=by simp;omega
    have hst1:=Lib.hid (hst.out i (by omega) mq hmk)
    have ht48:=Lib.hid (show mq.tris.length<=48 from hst1.out.sp.fit.ok.t48)
    have hm1:1<=m:=by have:=hst1.out.sp.fit.ok.t1;rw[hml.out]at this;exact this
    go_upto_region 5 with (fail)
    refine qe (λW=>Bl wo W) (by exact slc) ?_
    intro W hb0
    have h3:=h3.bl hb0
    have hM:=hM.bl hb0
    have hC:=hC.bl hb0
    have hr:=hr.bl hb0
    have hO:=hO.trans (Ob.of_bl hb0 _)
    have h3l:=h3.lt
    have hst:=hst1
    clear hb0 r0 r1 d0 d1
    have hHeld:(λw'=>(w'.cell? ⟨g3,0,none⟩=some (.slice (some ⟨gp,0,none⟩) n cp)/\w'.cell? ⟨g3,1,none⟩=some (.slice (some ⟨gt,0,none⟩) m ct))) (W.drew):=bx2 (T:=49) (h3.bl slc)
    refine yp 10 11 (λw'=>(w'.cell? ⟨g3,0,none⟩=some (.slice (some ⟨gp,0,none⟩) n cp)/\w'.cell? ⟨g3,1,none⟩=some (.slice (some ⟨gt,0,none⟩) m ct))) rfl (by kernel_rfl) hHeld ?_
    refine qc (i:=0) (oi:=_) (v:=?_) (fuel:=10) rfl (by kernel_rfl) (by kernel_rfl) (by kernel_rfl) (by kernel_rfl) (λ_ _ _ h=>h) (by rfl) ?_ hHeld ?_
    rotate_left 1
    ·(intro w' hSw;(try dsimp only at hSw);go_simp <;> with_reducible rfl)
    refine qc (i:=1) (oi:=_) (v:=?_) (fuel:=9) rfl (by kernel_rfl) (by kernel_rfl) (by kernel_rfl) (by kernel_rfl) (λ_ _ _ h=>h) (by rfl) ?_ hHeld ?_
    rotate_left 1
    ·(intro w' hSw;(try dsimp only at hSw);go_simp <;> with_reducible rfl)
    refine qc (i:=2) (oi:=_) (v:=?_) (fuel:=8) rfl (by kernel_rfl) (by kernel_rfl) (by kernel_rfl) (by kernel_rfl) (λ_ _ _ h=>h) (by rfl) ?_ hHeld ?_
    rotate_left 1
    ·(intro w' hSw;(try dsimp only at hSw);go_simp <;> with_reducible rfl)
    refine qc (i:=3) (oi:=_) (v:=?_) (fuel:=7) rfl (by kernel_rfl) (by kernel_rfl) (by kernel_rfl) (by kernel_rfl) (λ_ _ _ h=>h) (by rfl) ?_ hHeld ?_
    rotate_left 1
    ·(intro w' hSw;(try dsimp only at hSw);go_simp <;> with_reducible rfl)
    refine qc (i:=4) (oi:=_) (v:=?_) (fuel:=6) rfl (by kernel_rfl) (by kernel_rfl) (by kernel_rfl) (by kernel_rfl) (λ_ _ _ h=>h) (by rfl) ?_ hHeld ?_
    rotate_left 1
    ·(intro w' hSw;(try dsimp only at hSw);go_simp <;> with_reducible rfl)
    refine qc (i:=5) (oi:=_) (v:=?_) (fuel:=5) rfl (by kernel_rfl) (by kernel_rfl) (by kernel_rfl) (by kernel_rfl) (λ_ _ _ h=>h) (by rfl) ?_ hHeld ?_
    rotate_left 1
    ·(intro w' hSw;(try dsimp only at hSw);go_simp <;> with_reducible rfl)
    clear hHeld
    simp only[Act.put,List.setIfInBounds_toArray]
    refine qG (i:=6) (o:=_) (fuel:=4) rfl (by kernel_rfl) (λK hK=>?_)
    go_simp
    refine(yM _ (m:Int) (by omega) (by omega) (hC.bl (show Bl W _ from slc))).mono ?_
    rintro e w4 ⟨rfl,hy0,hy1,hC,hO4⟩
    obtain⟨bb,hbb⟩:∃bb,beF l s (m:Int)=bb:=⟨_,rfl⟩
    rw[hbb]at hy0 hy1 hC ⊢
    obtain⟨y,s4⟩:=bb
    dsimp only at hy0 hy1 hC ⊢
    clear hbb
    have hO4:Ob [g] W w4:=(Ob.of_bl (show Bl W W.drew from slc) _).trans hO4
    have h3:=h3.ob hO4 (by simp;omega)
    have hr:=hr.ob hO4 (by simp;omega)
    have hM:=hM.ob hO4 (by omega)
    have hO:=hO.trans hO4
    obtain⟨k,rfl⟩:=Int.eq_ofNat_of_zero_le hy0
    have hkm:k<m:=by omega
    obtain⟨W,rfl⟩:∃W:World,W=w4:=⟨_,rfl⟩
    have h3w:=h3.lt
    have hOw:=hO.size
    refine hK.out _ _ (λ_=>bx2 (T:=49) (h3.bl slc)) ?_
    clear hK K
    try simp only[Act.put,List.setIfInBounds_toArray,List.set_cons_zero,List.set_cons_succ]
    refine qG (i:=7) (o:=_) (fuel:=3) rfl (by kernel_rfl) (λK hK=>?_)
    go_simp
    refine hK.out _ _ (λ_=>bx2 (T:=49) (h3.bl slc)) ?_
    clear hK K
    try simp only[Act.put,List.setIfInBounds_toArray,List.set_cons_zero,List.set_cons_succ]
    refine qG (i:=8) (o:=_) (fuel:=2) rfl (by kernel_rfl) (λK hK=>?_)
    go_simp
    refine(vj _ (hM.1.bl (show Bl W _ from slc)).lit.1 (hM.1.bl (show Bl W _ from slc)).lit.2 hst.out.sp hst.out.ne (qbH W (k:Int)) (by omega) (by omega)).mono ?_
    rintro e w5 ⟨B5,k5,d5,rfl,hR5,hb5⟩
    have hb5:Bl W w5:=((Bl.refl W).alloc _).next hb5
    have hk5:k5<=200:=by have h:=qbz (ts:=mq.tris) [(k:Int)] ht48.out;rw[hR5.rd.len]at h;exact h
    refine hK.out _ _ (λ_=>bx2 (T:=49) (h3.bl slc)) ?_
    clear hK K
    try simp only[Act.put,List.setIfInBounds_toArray,List.set_cons_zero,List.set_cons_succ]
    refine qG (i:=9) (o:=_) (fuel:=1) rfl (by kernel_rfl) (λK hK=>?_)
    go_simp
    refine(Vw _ (hM.1.bl hb5).lit.1 (hM.1.bl hb5).lit.2 hst.out.sp.fit hst.out.ne hR5.rd (by omega) (hst.out.spl k (by rw[hml.out];exact hkm))).mono ?_
    rintro e w6 ⟨v6,rfl,hM6,hb6⟩
    obtain⟨gp6,n6,cp6,gt6,m6,ct6,rfl,_,_⟩:=hM6.1
    have hb56:=hb5.next hb6
    have h3:=h3.bl hb56
    have hr:=hr.bl hb56
    have hC:=hC.bl hb56
    have hO:=hO.trans (Ob.of_bl hb56 _)
    have hM6:=YR.of2 (b0:=w.heap.size+1) (g3:=g3) hM6 (Nat.lt_of_lt_of_le h3w hb5.size) (by have:=hb5.size;omega)
    refine hK.out _ _ (λ_=>bx2 (T:=49) (h3.bl slc)) ?_
    clear hK K
    try simp only[Act.put,List.setIfInBounds_toArray,List.set_cons_zero,List.set_cons_succ]
    obtain⟨z0,z1⟩:=bx2 h3
    have zf0:=h3.frozen 0
    have zf1:=h3.frozen 1
    refine qG (i:=10) (o:=_) (fuel:=0) rfl (by kernel_rfl) (λK hK=>?_)
    go_simp
    refine hK.out _ _ (λh=>absurd rfl h) ?_
    clear hK K
    try simp only[Act.put,List.setIfInBounds_toArray]
    refine ym (by kernel_rfl) ?_
    go_wp2_with fail
    go_roundw
    case rel=>exact⟨x-1,i+1,gp6,n6,cp6,gt6,m6,ct6,stM mq k,s4,by go_num,by omega,by omega,⟨mq,hmk,k,by rw[hml.out];exact hkm,rfl⟩,by simpa using (h3.set_ 0 (.slice (some ⟨gp6,0,none⟩) n6 cp6)).set_ 1 (.slice (some ⟨gt6,0,none⟩) m6 ct6),(hM6.set3 0 _).set3 1 _,Jo.set (Jo.set hC (by omega) (λad e h0=>by have:=hAl.out ad e h0;omega) 0 _) (by omega) (λad e h0=>by have:=hAl.out ad e h0;omega) 1 _,(hr.far (p:=⟨g3,0,none⟩) (show w.heap.size≠g3 by omega) _).far (p:=⟨g3,1,none⟩) (show w.heap.size≠g3 by omega) _,Ob.far (Ob.far hO (by omega) 0 _) (by omega) 1 _⟩
    case measure=>simp[intOf];omega
   ·have d1:decide ((m:Int)<10)=false:=by simp;omega
    have hg4:=hr.lt
    obtain⟨v0,x0⟩:=hr.val_ (i:=0) (by omega)
    obtain⟨v1,x1⟩:=hr.val_ (i:=1) (by omega)
    have hOz:=hO.size
    obtain⟨cs4,hB4,hc4⟩:=hr
    have hf0:=hB4.frozen 0
    have hf1:=hB4.frozen 1
    go_wp2_with fail
    refine bodyPost_ret (v:=.agg #[.slice (some ⟨gp,0,none⟩) n cp,.slice (some ⟨gt,0,none⟩) m ct]) (by simp[results,Tryz.results56,go_sem,x0,x1]) rfl ?_
    first|exact⟨_,i,mq,rfl,by omega,hmk,((hM.ow.setLow (q:=⟨w.heap.size,0,none⟩) (show w.heap.size<w.heap.size+1 by omega) _).setLow (q:=⟨w.heap.size,1,none⟩) (show w.heap.size<w.heap.size+1 by omega) _).low (by omega),Ob.far (Ob.far hO (Nat.le_refl _) 0 _) (Nat.le_refl _) 1 _⟩|exact⟨_,rfl,i,by omega,mq,hmk,((hM.ow.setLow (q:=⟨w.heap.size,0,none⟩) (show w.heap.size<w.heap.size+1 by omega) _).setLow (q:=⟨w.heap.size,1,none⟩) (show w.heap.size<w.heap.size+1 by omega) _).low (by omega),Ob.far (Ob.far hO (Nat.le_refl _) 0 _) (Nat.le_refl _) 1 _⟩
  ·have d0:decide (0<x)=false:=by simp;omega
   have hg4:=hr.lt
   obtain⟨v0,x0⟩:=hr.val_ (i:=0) (by omega)
   obtain⟨v1,x1⟩:=hr.val_ (i:=1) (by omega)
   have hOz:=hO.size
   obtain⟨cs4,hB4,hc4⟩:=hr
   have hf0:=hB4.frozen 0
   have hf1:=hB4.frozen 1
   go_wp2_with fail
   refine bodyPost_ret (v:=.agg #[.slice (some ⟨gp,0,none⟩) n cp,.slice (some ⟨gt,0,none⟩) m ct]) (by simp[results,Tryz.results56,go_sem,x0,x1]) rfl ?_
   first|exact⟨_,i,mq,rfl,by omega,hmk,((hM.ow.setLow (q:=⟨w.heap.size,0,none⟩) (show w.heap.size<w.heap.size+1 by omega) _).setLow (q:=⟨w.heap.size,1,none⟩) (show w.heap.size<w.heap.size+1 by omega) _).low (by omega),Ob.far (Ob.far hO (Nat.le_refl _) 0 _) (Nat.le_refl _) 1 _⟩|exact⟨_,rfl,i,by omega,mq,hmk,((hM.ow.setLow (q:=⟨w.heap.size,0,none⟩) (show w.heap.size<w.heap.size+1 by omega) _).setLow (q:=⟨w.heap.size,1,none⟩) (show w.heap.size<w.heap.size+1 by omega) _).low (by omega),Ob.far (Ob.far hO (Nat.le_refl _) 0 _) (Nat.le_refl _) 1 _⟩
theorem UJ (w:World) {A:Option Addr}{n c:Nat}{l:List Int}(h:RdB w A n c l) (hst:∀i,i<=1->∀m,MkM (coM l) i m->vB m) :
  Calls Tryz.prog 25 #[.slice A n c] w (qeb w l):=by
 go_enter Tryz.func25,Tryz.ntmps25
 go_wp2_with fail
 refine qd (λW=>Bl w W/\Wk 2 49 w.heap.size W) ⟨slc,bts⟩ ?_
 rintro W ⟨hbW,hr⟩
 refine(qaG _ (h.bl hbW)).mono ?_
 rintro e w1 ⟨g,rfl,hg,hC,hb1⟩
 have hzW:w.heap.size<W.heap.size:=hr.lt
 have hr:=hr.bl hb1
 have hbW:=hbW.next hb1
 have hz1:=hr.lt
 have hz3:=hb1.size
 clear hb1
 go_wp2_with fail
 refine(kJ _ hC hst).mono ?_
 rintro e w2 ⟨_,i,m,rfl,hi,hm,hO,hob⟩
 obtain⟨gp2,n2,cp2,gt2,m2,ct2,rfl,hP2,hT2⟩:=hO.1
 have hr:=hr.ob hob (by simp;omega)
 have hbx:Bl w w2:=hbW.ob hob (λb hb=>by simp at hb;omega)
 obtain⟨v0,x0⟩:=hr.val_ (i:=0) (by omega)
 obtain⟨v1,x1⟩:=hr.val_ (i:=1) (by omega)
 have hgr:=hr.lt
 obtain⟨cs4,hB4,hc4⟩:=hr
 have hf0:=hB4.frozen 0
 have hf1:=hB4.frozen 1
 go_wp2_with fail
 exact bodyPost_ret (v:=.agg #[.slice (some ⟨gp2,0,none⟩) n2 cp2,.slice (some ⟨gt2,0,none⟩) m2 ct2]) (by simp[results,Tryz.results25,go_sem,x0,x1]) rfl ⟨_,i,m,rfl,hi,hm,Qo.low (Qo.setLow (Qo.setLow hO (q:=⟨w.heap.size,0,none⟩) hz1 _) (q:=⟨w.heap.size,1,none⟩) hz1 _) (by omega),Bl.set (Bl.set hbx (show w.heap.size<=w.heap.size by omega) _) (show w.heap.size<=w.heap.size by omega) _⟩
end Go.Proofs.YtjaapemopbbfaaaGreatDoor
