import Derived.Test.YtjaapemopbbfaaaGreatDoorPMeshesM23
import Derived.Test.YtjaapemopbbfaaaGreatDoorPMeshesM33
namespace Go.Proofs.YtjaapemopbbfaaaGreatDoor
open Go.RowKit
set_option maxRecDepth 100000
set_option maxHeartbeats 16000000
theorem Uc {α:Type} [Inhabited α] {f:α->Nat}{l:List α}{b:Nat}:∀{k:Nat},(∀i,i<k->f (pix l i)<=b)->VO f l k<=k*b
 | 0,_=>by simp[VO]
 | k+1,h=>by
  have h1:=Uc (k:=k) (λi hi=>h i (by omega))
  have h2:=h k (by omega)
  have h3:(k+1)*b=k*b+b:=Nat.succ_mul k b
  show VO f l k+f (pix l k)<=_
  omega
theorem za.sz {mq:MeQ}(h:za mq):szL szP (mq.pts.map tp)<=1048576:=by
 have h1:∀ i,i < (mq.pts.map tp).length->szP (pix (mq.pts.map tp) i)<=4:=by
  intro i hi
  rw[List.length_map]at hi
  rw[zv hi]
  obtain⟨s1,s2⟩:=h.place.1 i hi
  have a1:=s1.mag
  have a2:=s1.den
  have a3:=s2.mag
  have a4:=s2.den
  show ((toR (pix mq.pts i).1).mag.length+(toR (pix mq.pts i).1).den.length)+((toR (pix mq.pts i).2).mag.length+(toR (pix mq.pts i).2).den.length)<=4
  omega
 have h2:=Uc h1
 have h3:=h.n40
 unfold szL
 rw[List.length_map]at *
 omega
def mc (mq:MeQ) (x:Int):Rat × Rat:=pix mq.pts x.toNat
theorem Uk {mq:MeQ}(h:Y7 mq.pts.length mq.tris) {k:Nat}(hk:k<mq.tris.length):QD ⟨mq.pts.map tp,mq.tris⟩ (k:Int)=[tp (mc mq (pix mq.tris k).a),tp (mc mq (pix mq.tris k).b),tp (mc mq (pix mq.tris k).c)]:=by
 obtain⟨⟨a0,a1⟩,⟨b0,b1⟩,c0,c1⟩:=h k hk
 unfold QD
 rw[if_pos]
 ·show [pix (mq.pts.map tp) _,pix (mq.pts.map tp) _,pix (mq.pts.map tp) _]=_
  rw[Int.toNat_natCast]
  show [pix (mq.pts.map tp) (pix mq.tris k).a.toNat,pix (mq.pts.map tp) (pix mq.tris k).b.toNat,pix (mq.pts.map tp) (pix mq.tris k).c.toNat]=_
  rw[zv (by omega),zv (by omega),zv (by omega)]
  rfl
 ·refine⟨⟨by omega,by show (k:Int)<=(mq.tris.length:Int)-1;omega⟩,λj hj=>?_⟩
  rw[Int.toNat_natCast]
  show 0<=jE (pix mq.tris k) j/\jE (pix mq.tris k) j<=((mq.pts.map tp).length:Int)-1
  rw[List.length_map]
  rcases(show j=0\/j=1\/j=2 by omega)with rfl|rfl|rfl
  ·show 0<=(pix mq.tris k).a/\(pix mq.tris k).a<=_;omega
  ·show 0<=(pix mq.tris k).b/\(pix mq.tris k).b<=_;omega
  ·show 0<=(pix mq.tris k).c/\(pix mq.tris k).c<=_;omega
noncomputable def arK (mq:MeQ) (k:Nat):qH:=KJ (tp (mc mq (pix mq.tris k).a)) (tp (mc mq (pix mq.tris k).b)) (tp (mc mq (pix mq.tris k).c))
noncomputable def KA (mq:MeQ) (k:Nat):List qH:=(List.range k).map (arK mq)
theorem Ky (mq:MeQ) (k:Nat):KA mq (k+1)=KA mq k++[arK mq k]:=by unfold KA;rw[List.range_succ,List.map_append];rfl
theorem VG (mq:MeQ) (k:Nat):(KA mq k).length=k:=by simp[KA]
noncomputable def UX (mq:MeQ):qH:=qcK (KA mq mq.tris.length)
theorem qaE.lit3 {TI TP:TypeId}{lo hi:Nat}{w:World}{A:Option Addr}{n c:Nat}{p q r:PtD}(h:qaE TI TP lo hi w A n c [p,q,r]):∃g,A=some ⟨g,0,none⟩/\n=3:=by
 obtain⟨h1,h2,h3,h4⟩:=h
 rcases h4 with h4 |⟨g,cs,fs,rfl,_⟩
 ·subst h4;cases h1
 ·exact⟨g,rfl,h1.symm⟩
theorem xO (w:World) {v:Value}{mq:MeQ}(h:vO w v mq) (hok:za mq) :
  Calls Tryz.prog 33 #[v] w λe w'=>∃s1 A1 n1 c1 B1 m1 d1,e=.returned (.agg #[.bool s1,.slice A1 n1 c1,.slice B1 m1 d1])/\OwR 3 w.heap.size w' s1 A1 n1 c1 B1 m1 d1 (UX mq)/\Bl w w':=by
 obtain⟨gp,n,cp,gt,m,ct,rfl,hp,ht⟩:=h
 have hm48:m<=48:=by have:=hok.t48;rw[ht.len]at this;exact this
 have hn:=Lib.hid (show mq.pts.length=n by rw[<-hp.len,List.length_map])
 have hm:=Lib.hid ht.len
 replace hok:=Lib.hid hok
 go_enter Tryz.func33,Tryz.ntmps33
 go_wp2_with fail
 refine qd (λW=>Bl w W/\Blk W w.heap.size 49 #[.slice (some ⟨gp,0,none⟩) n cp,.slice (some ⟨gt,0,none⟩) m ct]/\Wk 3 26 (w.heap.size+1) W) ⟨slc,bts,bts⟩ ?_
 rintro W ⟨hbW,hM,hr⟩
 refine(jz _ (qR.bl hp hbW) (zx.bl ht hbW) hok.out).mono ?_
 rintro e w1 ⟨rfl,hb1⟩
 have hM:=hM.bl hb1
 have hr:=hr.bl hb1
 have hbW:=hbW.next hb1
 clear hb1
 obtain⟨r0,r1⟩:=bx2 hM
 have hMl:=hM.lt
 go_wp2_with fail
 refine qe (λW2=>Bl w1 W2/\∃v0 c0 hi,qcI List.Nodup w1.heap.size hi W2 v0 (KA mq 0)/\w1.heap.size<=hi/\hi<=W2.heap.size/\v0=.slice (some ⟨w1.heap.size,0,none⟩) 0 c0/\c0=0) ⟨by exact slc,_,0,_,qO.empty ye w1 (Nat.le_refl _),by omega,by simp,rfl,rfl⟩ ?_
 rintro W2 ⟨hb2,v0,c0,hi,hX,hlo,hhi,hv0,rfl⟩
 rw[<-hv0]
 clear hv0 r0 r1
 go_loopw [3,13] (λs v wr=>∃(k:Nat) (o:Value) (hi:Nat),k<=m/\v=.int .i64 (k:Int)/\o=s/\qcI List.Nodup w1.heap.size hi wr o (KA mq k)/\w1.heap.size<=hi/\hi<=wr.heap.size/\Bl w1 wr) (λ_ v _=>m-(intOf v).toNat)
 case atStart=>exact⟨0,v0,hi,by omega,rfl,rfl,hX,hlo,hhi,hb2⟩
 case round=>
  clear hX hlo hhi hb2
  obtain⟨k,o,hi,hk,rfl,rfl,hX,hlo,hhi,hbi⟩:=hrel
  obtain⟨wj,rfl⟩:∃wj:World,wj=wr:=⟨_,rfl⟩
  have hMj:=hM.bl hbi
  have hbj:=hbW.next hbi
  by_cases hkm:k<m
  ·have hki:(k:Int)<(m:Int):=by omega
   have hS:=Lib.hid (Ky mq k)
   obtain⟨r0,r1⟩:=bx2 hMj
   go_wp2_with fail
   refine(X1 (x:=⟨mq.pts.map tp,mq.tris⟩) _ (k:Int) (qR.bl hp hbj) (zx.bl ht hbj) hok.out.sz).mono ?_
   rw[Uk hok.out.ixs (by rw[hm.out];exact hkm)]
   rintro e w3 ⟨A3,n3,c3,rfl,hO3,hb3⟩
   obtain⟨g3,rfl,rfl⟩:=hO3.lit3
   clear r0 r1
   go_wp2_with fail
   refine(qar _ hO3.rd).mono ?_
   rintro e w4 ⟨s4,A4,n4,c4,B4,m4,d4,rfl,hR4,hb4⟩
   have hb34:=hb3.next hb4
   have hX4:=hX.bl (Yx 3) hb34
   have hsz3:=hb3.size
   have hb14:=hbi.next hb34
   go_wp2_with ((refine Jm rfl (.tmp 16) (.tmp 21) rfl _ (by rfl) hX4 hR4 (by omega) (by omega) 1 (by rfl) (by rw[VG];omega) w1 hb14 (Nat.le_refl _) ?_);intro v7 w7 hX7 hb7)
   go_roundw
   case rel=>exact⟨k+1,v7,_,by omega,by go_num,rfl,by rw[hS.out];exact hX7,hb7.size,Nat.le_refl _,hb7⟩
   case measure=>simp[intOf];omega
  ·obtain rfl:k=m:=by omega
   have hkm2:¬(k:Int)<(k:Int):=by omega
   have hr:=hr.bl hbi
   obtain⟨A5,c5,bs5,rfl,hF5,_⟩:=hX.ft (by rw[VG];omega)
   go_wp2_with fail
   refine(Kp _ hF5.rd).mono ?_
   rw[show qcK (KA mq k)=UX mq by unfold UX;rw[hm.out]]
   rintro e w6 ⟨s1,A1,n1,c1,B1,m1,d1,rfl,hR,hb6⟩
   have hz:=hr.lt
   have hr:=hr.bl hb6
   have hbW:=hbj.next hb6
   obtain⟨v0,x0⟩:=hr.val_ (i:=0) (by omega)
   obtain⟨v1,x1⟩:=hr.val_ (i:=1) (by omega)
   obtain⟨v2,x2⟩:=hr.val_ (i:=2) (by omega)
   have hg:=hr.lt
   obtain⟨cs4,hB4,hc4⟩:=hr
   have hf0:=hB4.frozen 0
   have hf1:=hB4.frozen 1
   have hf2:=hB4.frozen 2
   go_wp2_with fail
   exact bodyPost_ret (v:=.agg #[.bool s1,.slice A1 n1 c1,.slice B1 m1 d1]) (by simp[results,Tryz.results33,go_sem,x0,x1,x2]) rfl ⟨_,_,_,_,_,_,_,rfl,(((hR.far (by show _<_;omega) _).far (by show _<_;omega) _).far (by show _<_;omega) _).mono (by omega),slc⟩
theorem qdD {q:Rat}(h:SmQ q):(toR q).mag.length<=1048576/\(toR q).den.length<=1048576:=by
 have h1:=h.mag
 have h2:=h.den
 omega
theorem jK.rdN {N:List Nat->Prop}{lo hi:Nat}{w:World}{g n c:Nat}{l:List PtD}(h:jK N lo hi w (.slice (some ⟨g,0,none⟩) n c) l) (hl:l.length<=1048576):qR w (some ⟨g,0,none⟩) n c l:=by
 obtain⟨A,d,e,hr⟩:=jK.rd h hl
 injection e with q1 q2 q3
 subst q1 q2 q3
 exact hr
theorem ZC (x y:Nat) (hx:x<=8) (hy:y<=8):gpt x y=tp (qp1 x y):=by
 show (⟨qm (x:Int) 1,qm (y:Int) 1⟩:PtD)=⟨toR (mkRat (x:Int) 1),toR (mkRat (y:Int) 1)⟩
 rw[(xN (x:Int) 1 (by omega) (by omega) (by omega)).1,(xN (y:Int) 1 (by omega) (by omega) (by omega)).1]
def qbd (q:Nat->Rat):Nat->Rat
 | 0=>0
 | k+1=>qbd q k+q k
instance (N:Nat) (q:Rat):Decidable (Bd N q):=by unfold Bd;infer_instance
theorem Ue {l:List qH}{q:Nat->Rat}:∀{n:Nat},(∀k,k<n->pix l k=toR (q k)/\Fit (q k))->(∀k,k<=n->Fit (qbd q k))->qcg l n=toR (qbd q n)
 | 0,_,_=>by
  show qm 0 1=toR 0
  rw[Kf.1,Kf.2.2]
 | n+1,h1,h2=>by
  obtain⟨e,f⟩:=h1 n (by omega)
  show Z3 (qcg l n) (pix l n)=_
  rw[Ue (λk hk=>h1 k (by omega)) (λk hk=>h2 k (by omega)),e]
  exact Va (h2 n (by omega)) f (h2 (n+1) (by omega))
def aqK (m:MeQ) (k:Nat):Rat:=arQ (mc m (pix m.tris k).a).1 (mc m (pix m.tris k).a).2 (mc m (pix m.tris k).b).1 (mc m (pix m.tris k).b).2 (mc m (pix m.tris k).c).1 (mc m (pix m.tris k).c).2
def Sm2 (p:Rat × Rat):Prop:=Bd 17 p.1/\Bd 17 p.2
instance (p:Rat × Rat):Decidable (Sm2 p):=by unfold Sm2;infer_instance
def okA (m:MeQ) (s:Rat):Bool:=decide (∀k,k<m.tris.length->Sm2 (mc m (pix m.tris k).a)/\Sm2 (mc m (pix m.tris k).b)/\Sm2 (mc m (pix m.tris k).c))&&(decide (∀k,k<m.tris.length+1->Bd 446448476224 (qbd (aqK m) k))&&decide (qbd (aqK m) m.tris.length=s))
theorem Kw {m:MeQ}{s:Rat}(h:okA m s=true):UX m=toR s:=by
 unfold okA at h
 simp only[Bool.and_eq_true,decide_eq_true_eq]at h
 obtain⟨h1,h2,h3⟩:=h
 unfold UX qcK
 rw[VG,<-h3]
 refine Ue (λk hk=>?_) (λk hk=>(h2 k (by omega)).fit (by decide))
 obtain⟨⟨a1,a2⟩,⟨b1,b2⟩,c1,c2⟩:=h1 k hk
 obtain⟨e,hb⟩:=qaB (x0:=(mc m (pix m.tris k).a).1) (y0:=(mc m (pix m.tris k).a).2) (x1:=(mc m (pix m.tris k).b).1) (y1:=(mc m (pix m.tris k).b).2) (x2:=(mc m (pix m.tris k).c).1) (y2:=(mc m (pix m.tris k).c).2) ⟨a1,a2,b1,b2,c1,c2⟩
 refine⟨?_,hb.fit (by decide)⟩
 rw[show pix (KA m m.tris.length) k=arK m k by simp[pix,KA,hk]]
 exact e
def bgt (bl:List Bool) (i:Nat):Bool:=bl.getD i false
theorem YD {bl:List Bool}{n k:Nat}(hl:bl.length=n) (x:Bool) (i:Nat) (hi:i<n):(if i=k then x else bgt bl i)=bgt (bl.set k x) i:=by
 unfold bgt
 rw[List.getD_eq_getElem?_getD,List.getD_eq_getElem?_getD,List.getElem?_set]
 by_cases e:i=k
 ·subst e
  rw[if_pos rfl,if_pos rfl,if_pos (by omega)]
  rfl
 ·rw[if_neg e,if_neg (λh=>e h.symm)]
theorem Xy (n i:Nat):bgt (List.replicate n false) i=false:=by
 unfold bgt
 rw[List.getD_eq_getElem?_getD,List.getElem?_replicate]
 by_cases e:i<n
 ·rw[if_pos e];rfl
 ·rw[if_neg e];rfl
def kb (l:List Int) (n:Nat):Nat->List Bool
 | 0=>List.replicate n false
 | k+1=>if 0<=ix l k/\ix l k<=(n:Int)-1 then (kb l n k).set (ix l k).toNat true else kb l n k
def mkA (l:List Int) (n:Nat):List Bool:=kb l n l.length
theorem J1 (l:List Int) (n:Nat):∀k,(kb l n k).length=n
 | 0=>by simp[kb]
 | k+1=>by
  unfold kb
  split
  ·rw[List.length_set,J1 l n k]
  ·exact J1 l n k
theorem Xn (l:List Int) (n:Nat):(mkA l n).length=n:=J1 l n _
def JJ (bl:List Bool) (k:Nat):List Int:=((List.range k).filter (bgt bl)).map (λi:Nat=>(i:Int))
def lsA (bl:List Bool):List Int:=JJ bl bl.length
theorem QK (bl:List Bool) (k:Nat):JJ bl (k+1)=if bgt bl k=true then JJ bl k++[(k:Int)]else JJ bl k:=by
 unfold JJ
 rw[List.range_succ,List.filter_append,List.map_append]
 by_cases h:bgt bl k=true
 ·rw[if_pos h];simp[h]
 ·rw[if_neg h];simp[h]
theorem Q0 (bl:List Bool) (k:Nat):(JJ bl k).length<=k:=by
 unfold JJ
 rw[List.length_map]
 exact Nat.le_trans (List.length_filter_le _ _) (by simp)
def qc7 (ts:List qC) (L:List EdD) (ks:List Int):Nat->List Bool
 | 0=>List.replicate L.length false
 | k+1=>(qc7 ts L ks k).set (zD (qS (pix ts (ix ks k).toNat).b (pix ts (ix ks k).toNat).c) L) true
theorem uQ (ts:List qC) (L:List EdD) (ks:List Int):∀k,(qc7 ts L ks k).length=L.length
 | 0=>by simp[qc7]
 | k+1=>by unfold qc7;rw[List.length_set,uQ ts L ks k]
def emB (ts:List qC) (bl:List Bool):List Bool:=qc7 ts (edL ts) (lsA bl) (lsA bl).length
def emA (ts:List qC) (l:List Int):List Int:=lsA (emB ts (mkA l ts.length))
def xy (ts:List qC) (L:List EdD):Prop:=∀k,k<ts.length->yG (qS (pix ts k).b (pix ts k).c) L=true/\yG (qS (pix ts k).a (pix ts k).b) L=true/\yG (qS (pix ts k).c (pix ts k).a) L=true
theorem Qp {e:EdD}{L:List EdD}(h:yG e L=true):zD e L<L.length:=by
 unfold yG at h
 simp only[Bool.and_eq_true,decide_eq_true_eq]at h
 exact h.1
def clT (L:List EdD) (t:qC) (x:List Bool × Bool):List Bool × Bool :=
 if bgt x.1 (zD (qS t.b t.c) L)=false/\(bgt x.1 (zD (qS t.a t.b) L)=true\/bgt x.1 (zD (qS t.c t.a) L)=true)then (x.1.set (zD (qS t.b t.c) L) true,true)else x
def Xl (ts:List qC) (L:List EdD) (bl:List Bool):Nat->List Bool × Bool
 | 0=>(bl,false)
 | k+1=>clT L (pix ts k) (Xl ts L bl k)
theorem QU (ts:List qC) (L:List EdD) (bl:List Bool):∀k,(Xl ts L bl k).1.length=bl.length
 | 0=>rfl
 | k+1=>by
  have h:=QU ts L bl k
  unfold Xl clT
  split
  ·rw[List.length_set];exact h
  ·exact h
def dnB (bl:List Bool):Nat:=bl.count false
theorem qcE {bl:List Bool}{k:Nat}(hk:k<bl.length) (h:bgt bl k=false):dnB (bl.set k true)+1=dnB bl:=by
 unfold dnB
 have e:bl[k]=false:=by
  unfold bgt at h
  rwa [List.getD_eq_getElem?_getD,List.getElem?_eq_getElem hk]at h
 rw[List.count_set hk,e]
 have:0<bl.count false:=List.count_pos_iff.2 (e ▸ List.getElem_mem hk)
 simp
 omega
theorem uh {ts:List qC}{L:List EdD}{bl:List Bool}(hl:bl.length=L.length) (hE:xy ts L):∀k,k<=ts.length->dnB (Xl ts L bl k).1+(if (Xl ts L bl k).2=true then 1 else 0)<=dnB bl
 | 0,_=>by simp[Xl]
 | k+1,hk=>by
  have h:=uh hl hE k (by omega)
  have hlen:=QU ts L bl k
  unfold Xl clT
  split
  ·rename_i hc
   have:=qcE (bl:=(Xl ts L bl k).1) (k:=zD (qS (pix ts k).b (pix ts k).c) L) (by rw[hlen,hl];exact Qp (hE k (by omega)).1) hc.1
   show dnB ((Xl ts L bl k).1.set _ true)+1<=_
   omega
  ·exact h
def clF (ts:List qC) (L:List EdD):Nat->List Bool->List Bool
 | 0,bl=>bl
 | f+1,bl=>if (Xl ts L bl ts.length).2=true then clF ts L f (Xl ts L bl ts.length).1 else (Xl ts L bl ts.length).1
theorem kA (ts:List qC) (L:List EdD):∀f bl,(clF ts L f bl).length=bl.length
 | 0,_=>rfl
 | f+1,bl=>by
  unfold clF
  split
  ·rw[kA ts L f,QU]
  ·rw[QU]
def clA (ts:List qC) (l:List Int):List Bool:=clF ts (edL ts) ((edL ts).length+1) (mkA l (edL ts).length)
theorem qdM (bl:List Bool):dnB bl<=bl.length:=List.count_le_length
def hvA (t:qC) (m:Int):qC:=⟨m,t.a,t.b,t.region,t.level+1⟩
def hvB (t:qC) (m:Int):qC:=⟨m,t.c,t.a,t.region,t.level+1⟩
def bsT (mid:Int->Int->Int):Nat->qC->List qC
 | 0,t=>[t]
 | d+1,t=>if mid t.b t.c<0 then [t]else bsT mid d (hvA t (mid t.b t.c))++bsT mid d (hvB t (mid t.b t.c))
theorem Vn (mid:Int->Int->Int):∀d t,(bsT mid d t).length<=2 ^ d
 | 0,t=>by simp[bsT]
 | d+1,t=>by
  unfold bsT
  split
  ·have:=Nat.two_pow_pos (d+1)
   simp
   omega
  ·have h1:=Vn mid d (hvA t (mid t.b t.c))
   have h2:=Vn mid d (hvB t (mid t.b t.c))
   rw[List.length_append,Nat.pow_succ]
   omega
theorem ko (mid:Int->Int->Int):∀d t,1<=(bsT mid d t).length
 | 0,t=>by simp[bsT]
 | d+1,t=>by
  unfold bsT
  split
  ·simp
  ·have h1:=ko mid d (hvA t (mid t.b t.c))
   rw[List.length_append]
   omega
def vo (bl:List Bool) (n:Nat) (k:Nat):List Int:=(List.range k).map λi=>if bgt bl i=true then ((n+(JJ bl i).length:Nat):Int)else -1
def J2 (L:List EdD) (md:List Int) (a b:Int):Int:=if yG (qS a b) L=true then ix md (zD (qS a b) L)else -1
theorem vY (bl:List Bool) (n k:Nat):(vo bl n k).length=k:=by simp[vo]
def qd6 (p q:Rat × Rat):Rat × Rat:=(mkRat 1 2*(p.1+q.1),mkRat 1 2*(p.2+q.2))
theorem qca {p q:Rat × Rat}(hp:Sm2 p) (hq:Sm2 q):qdX (tp p) (tp q)=tp (qd6 p q):=by
 have h2:=Kd
 have b2:B10 1 (mkRat 1 2):=B10.of h2.2 (by decide)
 have a:=B10.of (k:=2) hp.1 (by decide)
 have b:=B10.of (k:=2) hp.2 (by decide)
 have c:=B10.of (k:=2) hq.1 (by decide)
 have d:=B10.of (k:=2) hq.2 (by decide)
 unfold qdX
 rw[h2.1]
 show qdU (toR (mkRat 1 2)) (qdY (toP p.1 p.2) (toP q.1 q.2))=_
 rw[qdk a b c d (by omega),qds b2 (a.add c) (b.add d) (by omega)]
 rfl
def mdP (mq:MeQ) (L:List EdD) (i:Int):Rat × Rat:=qd6 (mc mq (pix L i.toNat).a) (mc mq (pix L i.toNat).b)
def vc (mq:MeQ) (L:List EdD) (bl:List Bool) (k:Nat):List (Rat × Rat):=mq.pts++(JJ bl k).map (mdP mq L)
theorem Vz (mq:MeQ) (L:List EdD) (bl:List Bool) (k:Nat):(vc mq L bl k).length=mq.pts.length+(JJ bl k).length:=by unfold vc;rw[List.length_append,List.length_map]
theorem qat (mq:MeQ) (L:List EdD) {bl:List Bool}{k:Nat}(h:bgt bl k=true):vc mq L bl (k+1)=vc mq L bl k++[mdP mq L (k:Int)]:=by
 unfold vc
 rw[QK,if_pos h,List.map_append,<-List.append_assoc]
 rfl
theorem qcu (mq:MeQ) (L:List EdD) {bl:List Bool}{k:Nat}(h:bgt bl k=false):vc mq L bl (k+1)=vc mq L bl k:=by
 unfold vc
 rw[QK,if_neg (by rw[h];decide)]
def Up (ts:List qC) (mid:Int->Int->Int) (k:Nat):List qC:=(List.range k).flatMap λi=>bsT mid 2 (pix ts i)
theorem Yw (ts:List qC) (mid:Int->Int->Int) (k:Nat):Up ts mid (k+1)=Up ts mid k++bsT mid 2 (pix ts k):=by unfold Up;rw[List.range_succ,List.flatMap_append];simp
theorem uz (ts:List qC) (mid:Int->Int->Int):∀k,(Up ts mid k).length<=4*k
 | 0=>by simp[Up]
 | k+1=>by
  rw[Yw,List.length_append]
  have h1:=uz ts mid k
  have h2:=Vn mid 2 (pix ts k)
  omega
theorem uN (ts:List qC) (mid:Int->Int->Int):∀k,k<=(Up ts mid k).length
 | 0=>by simp
 | k+1=>by
  rw[Yw,List.length_append]
  have h1:=uN ts mid k
  have h2:=ko mid 2 (pix ts k)
  omega
def qed (mq:MeQ) (L:List EdD) (bl:List Bool):MeQ:=⟨vc mq L bl L.length,Up mq.tris (J2 L (vo bl mq.pts.length L.length)) mq.tris.length⟩
def qdW (mq:MeQ) (l:List Int):MeQ:=qed mq (edL mq.tris) (clA mq.tris l)
theorem qaY {l:List Int}{n k:Nat}(h1:0<=ix l k) (h2:ix l k<=(n:Int)-1):kb l n (k+1)=(kb l n k).set (ix l k).toNat true:=if_pos ⟨h1,h2⟩
theorem qbR {l:List Int}{n k:Nat}(h:¬(0<=ix l k/\ix l k<=(n:Int)-1)):kb l n (k+1)=kb l n k:=if_neg h
theorem qao {bl:List Bool}{k:Nat}(h:bgt bl k=true):JJ bl (k+1)=JJ bl k++[(k:Int)]:=by rw[QK,if_pos h]
theorem qcr {bl:List Bool}{k:Nat}(h:bgt bl k=false):JJ bl (k+1)=JJ bl k:=by rw[QK,if_neg (by rw[h];decide)]
def qbo (w:World) (l:List Int) (en:Ending) (w':World):Prop:=∃A n c,en=.returned (.slice A n c)/\OwI 3 w.heap.size w' A n c l/\Bl w w'
theorem qbq {L:List EdD}{t:qC}{x:List Bool × Bool}{P0 P1 P2:Nat}(e0:zD (qS t.b t.c) L=P0) (e1:zD (qS t.a t.b) L=P1) (e2:zD (qS t.c t.a) L=P2) (h:bgt x.1 P0=true\/(bgt x.1 P1=false/\bgt x.1 P2=false)):clT L t x=x:=by
 subst e0 e1 e2
 unfold clT
 refine if_neg λhc=>?_
 rcases h with h |⟨h1,h2⟩
 ·rw[h]at hc;exact absurd hc.1 (by decide)
 ·rw[h1,h2]at hc;rcases hc.2 with h|h <;> exact absurd h (by decide)
theorem kr {L:List EdD}{t:qC}{x:List Bool × Bool}{P0 P1 P2:Nat}(e0:zD (qS t.b t.c) L=P0) (e1:zD (qS t.a t.b) L=P1) (e2:zD (qS t.c t.a) L=P2) (h0:bgt x.1 P0=false) (h:bgt x.1 P1=true\/bgt x.1 P2=true):clT L t x=(x.1.set P0 true,true):=by
 subst e0 e1 e2
 unfold clT
 exact if_pos ⟨h0,h⟩
def qeD:Option Value->Bool
 | some (.bool false)=>true
 | _=>false
def dnW (w:World) (g n:Nat):Nat:=(List.range n).countP λi=>qeD (w.cell? ⟨g,i,none⟩)
theorem qbj {w:World}{g n:Nat}{bl:List Bool}(h:OwU w g n (bgt bl)) (hl:bl.length=n):dnW w g n=dnB bl:=by
 have e:bl=(List.range n).map (bgt bl):=by
  refine List.ext_getElem (by simp[hl]) λi h1 h2=>?_
  simp[bgt,h1]
 have h1:dnW w g n=(List.range n).countP λi=> bgt bl i == false:=by
  unfold dnW
  refine List.countP_congr λi hi=>?_
  rw[h.cell (List.mem_range.1 hi)]
  cases bgt bl i <;> simp[qeD]
 rw[h1]
 unfold dnB
 conv=>rhs;rw[e]
 rw[List.count_eq_countP,List.countP_map]
 rfl
def qeC:Value->Nat
 | .bool true=>1
 | _=>0
def XV (ts:List qC) (L:List EdD) (R:List Bool) (f:Nat) (bl:List Bool) (c:Bool):Prop:=if c=true then clF ts L f bl=R/\dnB bl<f else bl=R
theorem XV.step {ts:List qC}{L:List EdD}{R:List Bool}{f:Nat}{bl:List Bool}{x:List Bool × Bool}(h:XV ts L R f bl true) (hx:x=Xl ts L bl ts.length) (hl:bl.length=L.length) (hE:xy ts L):∃f',XV ts L R f' x.1 x.2:=by
 unfold XV at h
 rw[if_pos rfl]at h
 obtain⟨h1,h2⟩:=h
 have hd:=uh hl hE ts.length (Nat.le_refl _)
 rw[<-hx]at hd
 rcases f with _|f
 ·omega
 ·unfold clF at h1
  rw[<-hx]at h1
  refine⟨f,?_⟩
  unfold XV
  by_cases hc:x.2=true
  ·rw[if_pos hc]at h1 hd ⊢
   exact⟨h1,by omega⟩
  ·rw[if_neg hc]at h1 ⊢
   exact h1
theorem JK {W:World}{ops:Array Oper}{o:Oper}{a:Act}{K:Act->World->Prop}{Q:Exit->Act->World->Prop}{F:Prop}(hgd:o.guard=none) (s x:Operand)
  (ho:o.op=.call { callee:=.builtin .append,args:=#[s,x],argTypes:=#[47,47] }) (v:Value) (l:List qC) (hs:a.eval s=v) {base:Nat}(hown:OwT base W v l) (hbase:base<=W.heap.size) (w0:World) (hb:Bl w0 W) (h0:w0.heap.size<=base)
  (g m c:Nat) (hx:a.eval x=.slice (some ⟨g,0,none⟩) m c) (ys:List qC) (hr:zx W (some ⟨g,0,none⟩) m c ys) (hlen:l.length<=1048576) (hm:m<=1048576)
  (h:∀v' w',OwT base w' v' (l++ys)->(v'=.slice none 0 0↔v=.slice none 0 0/\m=0)->Bl w0 w'->(W.heap.size<=w'.heap.size/\∀g,g<W.heap.size->v.ownBlock≠some g->w'.heap[g]?=W.heap[g]?/\v'.ownBlock≠some g)->K (a.put o.dst v') w'):if Region.wanted o (yielded ops a.tmps)=true then Oper.wp Tryz.prog o a W K Q else F:=by
 have hw:Region.wanted o (yielded ops a.tmps)=true:=by simp[Region.wanted,hgd]
 rw[if_pos hw]
 obtain⟨i0,hi,hz0,hz1,hz2⟩:=info_parts VY
 obtain ⟨v', w', hrun, g1, g2, g3, g4⟩ := run_append_own_at (P := Tryz.prog) W base 47 o.type 83 i0 _ 5 40 Tryz.underlying47 hi hz0 hz1 hz2 rfl (by omega) v l.length (l.flatMap Kr) hown ⟨g, 0, none⟩ m c (ys.flatMap Kr) (by rw [J9, hr.len]) (by
  intro j u hu
  have hj:j < ys.length * 5:=by
   rcases Nat.lt_or_ge j (ys.length*5)with h|h
   ·exact h
   ·rw[List.getElem?_eq_none (by rw[J9];exact h)]at hu;simp at hu
  have hl:=hr.len
  have hk:j / 5<ys.length:=by omega
  have e:j=j / 5*5+j % 5:=by omega
  rw[e,Yi ys hk (Nat.mod_lt _ (by omega))]at hu
  obtain⟨c0,c1,c2,c3,c4⟩:=jO hr (show j / 5<m by omega)
  rw[Addr.add_lit,Nat.zero_add,e]
  have h5:j % 5<5:=Nat.mod_lt _ (by omega)
  generalize j % 5=q at hu h5 ⊢
  rcases(show q=0\/q=1\/q=2\/q=3\/q=4 by omega)with rfl|rfl|rfl|rfl|rfl
  ·exact c0.trans hu
  ·exact c1.trans hu
  ·exact c2.trans hu
  ·exact c3.trans hu
  ·exact c4.trans hu) (by
  intro u hu
  obtain⟨t,_,ht⟩:=List.mem_flatMap.1 hu
  exact qay ht) (by simp only[maxLen];omega) (by omega) hbase
 unfold Oper.wp execOp
 simp only[ho,resolve,invoke,builtin,Sem.run_bind,Sem.run_pure,Result.andThen_ok,List.map_toArray,List.map_cons,List.map_nil,hs,hx,hrun]
 have hws:=g2.size
 refine h v' w' ?_ g3 (hb.grown g2 λk hk=>by have:=(hown.blk hk).1;omega) ⟨hws,λb hb1 hb2=>⟨g2.block b hb1 (λe=>hb2 e.symm),λe=>?_⟩⟩
 ·unfold OwT
  rw[List.length_append,hr.len,List.flatMap_append]
  exact g1
 ·rcases g4 with g4|g4
  ·rw[g4]at e;exact hb2 e
  ·rw[g4]at e;injection e with e;omega
theorem OwT.one {base:Nat}(w:World) (t:qC) (hb:base<=w.heap.size):OwT base (w.alloc (.cells #[.int .i64 t.a,.int .i64 t.b,.int .i64 t.c,.int .i64 t.region,.int .i64 t.level] 83)) (.slice (some ⟨w.heap.size,0,none⟩) 1 1) [t] :=
 ⟨rfl,.inr ⟨w.heap.size,1,#[.int .i64 t.a,.int .i64 t.b,.int .i64 t.c,.int .i64 t.region,.int .i64 t.level],rfl,hb,heap_alloc_new w _,Nat.le_refl _,by unfold maxLen;omega,rfl,rfl⟩⟩
theorem qdt {mid:Int->Int->Int}{d:Nat}{t:qC}(h:mid t.b t.c<0):bsT mid d t=[t]:=by
 rcases d with _|d
 ·rfl
 ·unfold bsT;rw[if_pos h]
theorem qbI {mid:Int->Int->Int}{d:Nat}{t:qC}{x:Int}(e:mid t.b t.c=x) (h:¬x<0):bsT mid (d+1) t=bsT mid d (hvA t x)++bsT mid d (hvB t x):=by
 conv=>lhs;unfold bsT
 rw[e,if_neg h]
theorem OwT.nil0 {base:Nat}{w:World}{l:List qC}(h:OwT base w (.slice none 0 0) l):l=[]:=by
 rcases h.2 with ⟨_,h0⟩ |⟨g,cap,cur,hv,_⟩
 ·exact List.length_eq_zero_iff.1 h0
 ·cases hv
theorem qch (mq:MeQ) (L:List EdD) {bl:List Bool}{k:Nat}(h:bgt bl k=true):(vc mq L bl k).map tp++[tp (mdP mq L (k:Int))]=(vc mq L bl (k+1)).map tp:=by rw[qat mq L h,List.map_append];rfl
def Qo (b0:Nat) (w:World) (v:Value) (mq:MeQ):Prop:=vO w v mq/\∀w',w.heap.size<=w'.heap.size->(∀b,b0<=b->b<w.heap.size->w'.heap[b]?=w.heap[b]?)->vO w' v mq
section
variable {b0 b1:Nat}{w W:World}{v:Value}{mq:MeQ}
theorem Qo.low (h:Qo b1 w v mq) (hb:b0<=b1):Qo b0 w v mq:=⟨h.1,λw' hs hk=>h.2 w' hs λb h1 h2=>hk b (Nat.le_trans hb h1) h2⟩
theorem Qo.setLow (h:Qo b0 w v mq) {q:Addr}(hq:q.block<b0) (u:Value):Qo b0 (w.setCell q u) v mq :=
 ⟨h.2 _ (by simp) λb h1 _=>Below.heap_setCell w q u b (by omega),λw' hs hk=>h.2 w' (by simpa using hs) λb h1 h2=>(hk b h1 (by simpa using h2)).trans (Below.heap_setCell w q u b (by omega))⟩
theorem Qo.of {N:List Nat->Prop}{lo gp n c gt m ct:Nat}(hrow:jK N lo w.heap.size w (.slice (some ⟨gp,0,none⟩) n c) (mq.pts.map tp)) (hT:OwT b1 w (.slice (some ⟨gt,0,none⟩) m ct) mq.tris) (h1:b0<=lo) (h2:b0<=b1) (hlen:mq.pts.length<=1048576):Qo b0 w (.agg #[.slice (some ⟨gp,0,none⟩) n c,.slice (some ⟨gt,0,none⟩) m ct]) mq:=by
 have key:∀w',w.heap.size<=w'.heap.size->(∀b,b0<=b->b<w.heap.size->w'.heap[b]?=w.heap[b]?)->vO w' (.agg #[.slice (some ⟨gp,0,none⟩) n c,.slice (some ⟨gt,0,none⟩) m ct]) mq:=λw' hs hk=>by
  have hr:=qO.keep (qx 3) hrow hs λb h3 h4=>hk b (Nat.le_trans h1 h3) h4
  have ht:=hT.keep λg e=>hk g (Nat.le_trans h2 (hT.blk e).1) (hT.blk e).2
  obtain⟨gt',ct',e,_,hTr,_,_⟩:=ht.lit (λe=>by cases e)
  injection e with e1 e2 e3
  injection e1 with e1
  injection e1 with e1
  subst e1 e3
  rw[<-e2]at hTr
  exact⟨gp,n,c,gt,m,ct,rfl,jK.rdN hr (by rw[List.length_map];exact hlen),hTr⟩
 exact⟨key w (Nat.le_refl _) λ_ _ _=>rfl,key⟩
end
def qet (w:World) (mq:MeQ) (e:Ending) (w':World):Prop:=∃v2,e=.returned v2/\Qo w.heap.size w' v2 mq/\Bl w w'
def okM (m:MeQ):Bool :=
 decide ((3<=m.pts.length/\m.pts.length<=40)/\1<=m.tris.length/\m.tris.length<=48)&&(okP m.pts&&(decide (PlB m.pts.length (Qf m.pts m.pts.length) (yZ m.pts m.pts.length))&&okT m.pts.length (Qf m.pts m.pts.length) (yZ m.pts m.pts.length) m.tris))
theorem qdA {m:MeQ}(h:okM m=true):za m:=by
 unfold okM at h
 simp only[Bool.and_eq_true,decide_eq_true_eq]at h
 obtain⟨h1,h2,h3,h4⟩:=h
 exact za.of m.pts.length _ _ rfl rfl rfl h1 h2 h3 h4
def qa6 (r:Int):MeQ:=⟨[(0,0),(2,0),(2,2),(0,2),(1,1)],[⟨4,0,1,0,0⟩,⟨4,1,2,0,0⟩,⟨4,2,3,1,0⟩,⟨4,3,0,r,0⟩]⟩
def K7 (r:Int):MeQ:=⟨[(0,0),(2,0),(2,1),(0,2)],[⟨1,2,0,0,0⟩,⟨3,0,2,r,0⟩]⟩
def qbl:MeQ:=⟨[(0,0),(1,0),(2,0),(2,1),(1,1),(1,2),(0,2),(0,1)],[⟨1,4,0,0,0⟩,⟨7,0,4,0,0⟩,⟨3,4,2,0,0⟩,⟨1,2,4,1,0⟩,⟨7,4,6,0,0⟩,⟨5,6,4,2,0⟩]⟩
def csL:List MeQ:=[qa6 0,qa6 1,K7 0,K7 1,K7 2,qbl]
instance (ts:List qC) (L:List EdD):Decidable (xy ts L):=by unfold xy;infer_instance
def okF (m:MeQ):Bool:=okM m&&(decide (xy m.tris (edL m.tris))&&decide (∀k,k<m.pts.length->Sm2 (pix m.pts k)))
structure KY (m:MeQ):Prop where
 ok:za m
 has:xy m.tris (edL m.tris)
 sm:∀k,k<m.pts.length->Sm2 (pix m.pts k)
theorem qdx {m:MeQ}(h:okF m=true):KY m:=by
 unfold okF at h
 simp only[Bool.and_eq_true,decide_eq_true_eq]at h
 exact⟨qdA h.1,h.2.1,h.2.2⟩
theorem qbz {ts:List qC}(l:List Int) (h:ts.length<=48):(emA ts l).length<=200:=by
 have h1:=Q0 (emB ts (mkA l ts.length)) (emB ts (mkA l ts.length)).length
 have h2:(emB ts (mkA l ts.length)).length=(edL ts).length:=uQ _ _ _ _
 have h3:=jh ts ts.length
 show (JJ (emB ts (mkA l ts.length)) (emB ts (mkA l ts.length)).length).length<=200
 have h4:(edL ts).length<=3*ts.length:=h3
 omega
def qdh (w:World) (L:List EdD) (e:Ending) (w':World):Prop:=∃g n c,e=.returned (.slice (some ⟨g,0,none⟩) n c)/\Yn w' (some ⟨g,0,none⟩) n c L/\Bl w w'
theorem Xp (w:World) {v:Value}{mq:MeQ}(h:vO w v mq) (hf:za mq) :
  Calls Tryz.prog 28 #[v] w (qdh w (edL mq.tris)):=by
 obtain⟨gp,n,cp,gt,m,ct,rfl,hp,ht⟩:=h
 replace hf:=Lib.hid hf
 have hm48:m<=10000:=by have:=hf.out.t48;rw[ht.len]at this;omega
 go_enter Tryz.func28,Tryz.ntmps28
 go_wp2_with fail
 refine qd (λW=>Bl w W/\Blk W w.heap.size 49 #[.slice (some ⟨gp,0,none⟩) n cp,.slice (some ⟨gt,0,none⟩) m ct]) ⟨slc,bts⟩ ?_
 rintro W ⟨hbW,hM⟩
 refine(jz _ (qR.bl hp hbW) (zx.bl ht hbW) hf.out).mono ?_
 rintro e w1 ⟨rfl,hb1⟩
 have hM:=hM.bl hb1
 have hbW:=hbW.next hb1
 clear hb1
 obtain⟨r0,r1⟩:=bx2 hM
 go_wp2_with fail
 refine(xA _ (zx.bl ht hbW) hm48).mono ?_
 rintro e w2 ⟨ge,k,c,rfl,hR,_,hb2⟩
 go_wp2_with fail
 go_ret
 exact⟨ge,k,c,rfl,hR,hbW.next hb2⟩
instance:Inhabited MeQ:=⟨⟨[],[]⟩⟩
end Go.Proofs.YtjaapemopbbfaaaGreatDoor
