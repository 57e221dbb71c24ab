import Derived.Test.YtjaapemopbbfaaaGreatDoorPMeshesM26
import Derived.Test.YtjaapemopbbfaaaGreatDoorPMeshesM20
namespace Go.Proofs.YtjaapemopbbfaaaGreatDoor
open Go.RowKit
set_option maxRecDepth 100000
set_option maxHeartbeats 32000000
theorem Vb:∀(l:List EdD) {k j:Nat},k<l.length->j<4->(l.flatMap jC)[k*4+j]?=(jC (pix l k))[j]?
 | [],k,j,hk,_=>by simp at hk
 | x::xs,k,j,hk,hj=>by
  have h4:(jC x).length=4:=rfl
  rw[List.flatMap_cons]
  rcases k with _|k
  ·rw[List.getElem?_append_left (by omega),VB]
   congr 1
   omega
  ·rw[List.getElem?_append_right (by omega),h4,JX,show (k+1)*4+j-4=k*4+j by omega]
   exact Vb xs (by simpa using hk) hj
theorem jG (x:Int):∀(l:List EdD) (p:Nat),(l.modify p (λe=>⟨e.a,e.b,x,e.r⟩)).flatMap jC=(l.flatMap jC).set (p*4+2) (.int .i64 x)
 | [],p=>by simp
 | y::ys,p=>by
  have h4:(jC y).length=4:=rfl
  rcases p with _|p
  ·simp[jC]
  ·rw[List.modify_succ_cons,List.flatMap_cons,List.flatMap_cons,jG x ys p,List.set_append_right _ _ (by omega),h4,show (p+1)*4+2-4=p*4+2 by omega]
theorem jJ (x:Int):∀(l:List EdD) (p:Nat),(l.modify p (λe=>⟨e.a,e.b,e.l,x⟩)).flatMap jC=(l.flatMap jC).set (p*4+3) (.int .i64 x)
 | [],p=>by simp
 | y::ys,p=>by
  have h4:(jC y).length=4:=rfl
  rcases p with _|p
  ·simp[jC]
  ·rw[List.modify_succ_cons,List.flatMap_cons,List.flatMap_cons,jJ x ys p,List.set_append_right _ _ (by omega),h4,show (p+1)*4+3-4=p*4+3 by omega]
section
variable {base:Nat}{w W:World}{v:Value}{l:List EdD}
theorem zU.empty (w:World) (hb:base<=w.heap.size):zU base (w.alloc (.cells #[] 152)) (.slice (some ⟨w.heap.size,0,none⟩) 0 0) []:=World.ownsRow_made w #[] 0 hb (Nat.zero_le _) (by simp)
theorem zU.keep (h:zU base w v l) (h1:∀g,v.ownBlock=Option.some g->W.heap[g]?=w.heap[g]?):zU base W v l:=by
 refine⟨h.1,?_⟩
 rcases h.2 with h2 |⟨g,cap,cur,hv,hg,hh,r⟩
 ·exact .inl h2
 ·exact .inr ⟨g,cap,cur,hv,hg,(h1 g (by rw[hv];rfl)).trans hh,r⟩
theorem zU.blk (h:zU base w v l) {g:Nat}(hg:v.ownBlock=Option.some g):base<=g/\g<w.heap.size:=World.ownsRow.lt h g hg
theorem zU.bl (h:zU base w v l) (hb:Bl w W):zU base W v l:=h.keep λg e=>Below.block hb g (h.blk e).2
theorem zU.lit (h:zU base w v l) (hnil:v≠.slice none 0 0):∃g c,v=.slice (some ⟨g,0,none⟩) l.length c/\base<=g/\l.length<=c/\c<=9223372036854775807/\(∀k,k<l.length->Us w ⟨g,k*4,none⟩ (pix l k))/\g<w.heap.size/\(∀o,w.frozen? ⟨g,o,none⟩=false):=by
 obtain⟨hcl,⟨h,_⟩ |⟨g,cap,cur,rfl,hg,hh,hnc,hm,hcs,htk⟩⟩:=id h
 ·exact absurd h hnil
 refine⟨g,cap,rfl,hg,hnc,by unfold maxLen at hm;omega,λk hk=>?_,qV hh,λo=>by simp[World.frozen?,hh]⟩
 have hc:∀j u,j<4->(jC (pix l k))[j]?=some u->w.cell? ⟨g,k*4+j,none⟩=some u:=λj u hj hu=>ZD hh htk (by rw[Vb l hk hj];exact hu)
 exact⟨hc 0 _ (by omega) rfl,hc 1 _ (by omega) rfl,hc 2 _ (by omega) rfl,hc 3 _ (by omega) rfl⟩
theorem zU.setK {g n c:Nat}(h:zU base w (.slice (some ⟨g,0,none⟩) n c) l) {j:Nat}{u:Value}{l':List EdD}(hl:l'.length=l.length) (hf:l'.flatMap jC=(l.flatMap jC).set j u):zU base (w.setCell ⟨g,j,none⟩ u) (.slice (some ⟨g,0,none⟩) n c) l':=by
 obtain⟨hcl,⟨h,_⟩ |⟨g',cap,cur,h,hg,hh,hnc,hm,hcs,htk⟩⟩:=id h
 ·cases h
 injection h with q1 q2 q3
 injection q1 with q1
 injection q1 with q1
 subst q1
 unfold zU World.ownsRow
 rw[hl,hf]
 refine⟨by simpa using hcl,.inr ⟨g,cap,_,by rw[q2,q3],hg,Blk.set_ (T:=152) hh j u,hnc,hm,by simpa using hcs,?_⟩⟩
 rw[Array.toList_setIfInBounds,List.take_set,htk]
theorem zU.rd {g c:Nat}(h:zU base w (.slice (some ⟨g,0,none⟩) l.length c) l):Yn w (some ⟨g,0,none⟩) l.length c l:=by
 obtain⟨g',c',e,h1,h2,h3,h4,h5,h6⟩:=h.lit (λe=>by cases e)
 injection e with q1 q2 q3
 injection q1 with q1
 injection q1 with q1
 subst q1 q3
 exact⟨rfl,h2,by omega,λk hk=>⟨_,rfl,h5,by rw[Addr.add_lit,Nat.zero_add];exact h4 k hk⟩⟩
end
theorem Yn.setLit {w:World}{g n c:Nat}{l:List EdD}(h:Yn w (some ⟨g,0,none⟩) n c l) {p:Addr}(hp:g≠p.block) (u:Value):Yn (w.setCell p u) (some ⟨g,0,none⟩) n c l:=by
 refine⟨h.len,h.cap,h.small,λk hk=>?_⟩
 obtain⟨ad,e,hlt,c0,c1,c2,c3⟩:=h.cells k hk
 refine⟨ad,e,by simpa using hlt,?_⟩
 cases e
 rw[Addr.add_lit]at c0 c1 c2 c3 ⊢
 have hne:∀o,p≠(⟨g,o,none⟩:Addr):=λo e=>hp (by rw[e])
 exact⟨by rw[World.cell?_setCell_other (h:=hne _)];exact c0,by rw[World.cell?_setCell_other (h:=hne _)];exact c1,by rw[World.cell?_setCell_other (h:=hne _)];exact c2,by rw[World.cell?_setCell_other (h:=hne _)];exact c3⟩
def qdO (w:World) (ts:List qC) (en:Ending) (w':World):Prop:=∃g n c,en=.returned (.slice (some ⟨g,0,none⟩) n c)/\Yn w' (some ⟨g,0,none⟩) n c (edL ts)/\w.heap.size<=g/\Bl w w'
theorem xA (w:World) {A:Option Addr}{n cp gt m ct:Nat}{ts:List qC}(ht:zx w (some ⟨gt,0,none⟩) m ct ts) (hm:m<=10000) :
  Calls Tryz.prog 62 #[.agg #[.slice A n cp,.slice (some ⟨gt,0,none⟩) m ct]] w (qdO w ts):=by
 have hlt:=Lib.hid ht.len
 go_enter Tryz.func62,Tryz.ntmps62
 go_wp2_with fail
 refine qe (λW=>Bl w W/\∃go_,zU (w.heap.size+1) W (.slice (some ⟨go_,0,none⟩) 0 0) (yU ts 0)/\go_=w.heap.size+1/\Blk W w.heap.size 49 #[.slice A n cp,.slice (some ⟨gt,0,none⟩) m ct]) ⟨by exact slc,_,by have h:=zU.empty (base:=w.heap.size+1) (w.alloc (.cells #[.slice A n cp,.slice (some ⟨gt,0,none⟩) m ct] 49)) (by simp);rw[World.size_alloc]at h;exact h,rfl,by exact bts⟩ ?_
 rintro W ⟨hbW,go_,hO0,hgo,hMx⟩
 rw[<-hgo]
 clear hgo
 have hMl:=hMx.lt
 obtain⟨r0,r1⟩:=bx2 hMx
 go_wp2_with fail
 clear r0 r1
 go_loopw [3,17] (λs v wr=>∃(k:Nat) (out:Value),k<=m/\v=.int .i64 (k:Int)/\out=s/\zU (w.heap.size+1) wr out (yU ts k)/\out≠.slice none 0 0/\Bl w wr) (λ_ v _=>m-(intOf v).toNat)
 case atStart=>exact⟨0,_,by omega,rfl,rfl,hO0,(λe=>by cases e),hbW⟩
 case round=>
  clear hO0
  obtain⟨k,out,hk,rfl,rfl,hO,hnil,hbw⟩:=hrel
  obtain⟨wo,rfl⟩:∃wo:World,wo=wr:=⟨_,rfl⟩
  by_cases hkm:k<m
  ·have hki:(k:Int)<(m:Int):=by omega
   obtain⟨c0,c1,c2,c3,c4⟩:=jO (zx.bl ht hbw) hkm
   have hlast:=Lib.hid (λt (h:pix ts k=t)=>(by rw[<-h];rfl:zy (yU ts k) t (k:Int) 3=yU ts (k+1)))
   obtain⟨t,hte⟩:∃t,pix ts k=t:=⟨_,rfl⟩
   have hlast:=Lib.hid (hlast.out t hte)
   rw[hte]at c0 c1 c2 c3 c4
   clear hte
   go_wp2_with fail
   refine qd (λW2=>Bl wo W2) slc ?_
   intro W2 hb2
   clear c0 c1 c2 c3 c4
   refine(QT _ t).mono ?_
   rintro e w4 ⟨rfl,rfl⟩
   go_wp2_with fail
   refine qe (λW3=>Bl W2 W3/\∃g6,Blk W3 g6 96 #[.int .i64 t.a,.int .i64 t.b,.int .i64 t.c]/\g6=W2.heap.size+1+1) ⟨by exact slc,_,by exact bts,rfl⟩ ?_
   rintro W3 ⟨hb3,g6,h6,hg6⟩
   rw[<-hg6]
   have hb23:=hb2.next hb3
   have ho6:out.ownBlock≠Option.some g6:=λe=>by have:=(hO.blk e).2;have:=hb2.size;omega
   have hO:=hO.bl hb23
   have hbw3:=hbw.next hb23
   clear hg6 hb2 hb3 hb23
   go_loopw [3,25] (λs v wr=>∃(i:Nat) (out:Value),i<=3/\v=.int .i64 (i:Int)/\out=s/\zU (w.heap.size+1) wr out (zy (yU ts k) t (k:Int) i)/\out≠.slice none 0 0/\Blk wr g6 96 #[.int .i64 t.a,.int .i64 t.b,.int .i64 t.c]/\out.ownBlock≠Option.some g6/\Bl w wr) (λ_ v _=>3-(intOf v).toNat)
   case atStart=>exact⟨0,out,by omega,rfl,rfl,hO,hnil,h6,ho6,hbw3⟩
   case round=>
    clear hO hnil h6 ho6 hbw3
    obtain⟨i,out,hi,rfl,rfl,hO,hnil,h6,ho6,hbi⟩:=hrel
    rcases(show i=0\/i=1\/i=2\/i=3 by omega)with rfl|rfl|rfl|rfl
    ·skip
     have e0:((0:Nat):Int)=0:=rfl
     rw[e0]
     clear e0 hi
     obtain⟨wj,rfl⟩:∃wj:World,wj=wr:=⟨_,rfl⟩
     have hix:∀W:World,(Instr.index 96 (.agg #[.int .i64 t.a,.int .i64 t.b,.int .i64 t.c]) (.int .i64 0)).run Tryz.prog W=.ok (.int .i64 t.a) W:=λ_=>by kernel_rfl
     obtain⟨L,hL⟩:∃L,zy (yU ts k) t (k:Int) 0=L:=⟨_,rfl⟩
     rw[hL]at hO
     have hsrt:Zr L:=by rw[<-hL];exact ju (jQ ts k) 0
     have hlen:L.length<=3*k+3:=by rw[<-hL];have a1:=jh ts k;have a2:=jv (l:=yU ts k) (t:=t) (k:=(k:Int)) 0;omega
     have hnext:zy (yU ts k) t (k:Int) 1=yX L t.a t.b (k:Int):=by rw[<-hL];rfl
     replace hnext:=Lib.hid hnext
     replace hsrt:=Lib.hid hsrt
     clear hL
     obtain⟨go_,co,rfl,hgo,hlc,hc63,hcells,hgl,hfz⟩:=hO.lit hnil
     clear hcells hfz
     obtain⟨y0,y1,y2⟩:=bx3 h6
     have h6l:=h6.lt
     have hmn:min t.a t.b=(qS t.a t.b).a:=rfl
     have hmx:max t.a t.b=(qS t.a t.b).b:=rfl
     go_wp2_with fail
     refine qd (λW4=>Bl wj W4/\∃g10,Blk W4 g10 152 #[.int .i64 (qS t.a t.b).a,.int .i64 (qS t.a t.b).b,.int .i64 (-1),.int .i64 (-1)]/\g10=wj.heap.size) ⟨by exact slc,_,by exact bts,rfl⟩ ?_
     rintro W4 ⟨hb4,g10,hE,hg10⟩
     rw[<-hg10]
     clear y0 y1 y2 hg10 hmn hmx
     have hO:=hO.bl hb4
     obtain⟨P,hPe⟩:∃P,zD (qS t.a t.b) L=P:=⟨_,rfl⟩
     have hPl:P<=L.length:=by rw[<-hPe];exact Qd _ _
     refine(Zj _ hO.rd hsrt.out (qS t.a t.b) (by omega)).mono ?_
     by_cases hf:yG (qS t.a t.b) L=true
     ·have hP9:P<L.length:=by rw[<-hPe];unfold yG at hf;simp at hf;exact hf.1
      rw[hf,hPe]
      rintro e w5 ⟨rfl,hb5⟩
      replace hf:=Lib.hid hf
      replace hPe:=Lib.hid hPe
      have hO9:=hO.bl hb5
      have h69:=(h6.bl hb4).bl hb5
      have ho69:=ho6
      have hnil9:=hnil
      have hbx:=hbi.next (hb4.next hb5)
      clear hO h6 ho6 hnil
      obtain⟨g9,c9,he9,hg9,hlc9,hc93,hcells9,hgl9,hfz9⟩:=hO9.lit hnil9
      injection he9 with q1 q2 q3
      injection q1 with q1
      injection q1 with q1
      subst q1 q3
      clear q2
      obtain⟨x0,x1,x2,x3⟩:=hcells9 P hP9
      have z2:=hfz9 (P*4+2)
      have z3:=hfz9 (P*4+3)
      have hPi:(P:Int)<(L.length:Int):=by omega
      clear hcells9 hfz9
      by_cases hab:t.a<t.b
      ·have hset:zo t.a t.b (k:Int)=λe=>⟨e.a,e.b,(k:Int),e.r⟩:=by funext e;unfold zo;rw[if_pos hab]
       replace hset:=Lib.hid hset
       go_wp2_with fail
       go_roundw
       case rel=>exact⟨1,_,by omega,rfl,rfl,by rw[hnext.out];unfold yX;rw[if_pos hf.out,hPe.out,hset.out];exact zU.setK hO9 (by simp) (jG _ _ _),(λe=>by cases e),h69.far (by intro e;exact ho69 (congrArg Option.some e.symm)) _,ho69,Bl.set hbx (Nat.le_of_succ_le hg9) _⟩
       case measure=>simp[intOf]
      ·have hset:zo t.a t.b (k:Int)=λe=>⟨e.a,e.b,e.l,(k:Int)⟩:=by funext e;unfold zo;rw[if_neg hab]
       replace hset:=Lib.hid hset
       go_wp2_with fail
       go_roundw
       case rel=>exact⟨1,_,by omega,rfl,rfl,by rw[hnext.out];unfold yX;rw[if_pos hf.out,hPe.out,hset.out];exact zU.setK hO9 (by simp) (jJ _ _ _),(λe=>by cases e),h69.far (by intro e;exact ho69 (congrArg Option.some e.symm)) _,ho69,Bl.set hbx (Nat.le_of_succ_le hg9) _⟩
       case measure=>simp[intOf]
     ·have hf:yG (qS t.a t.b) L=false:=Bool.eq_false_iff.2 hf
      rw[hf,hPe]
      rintro e w5 ⟨rfl,hb5⟩
      replace hf:=Lib.hid hf
      have hO:=hO.bl hb5
      have hE:=hE.bl hb5
      have hEl:=hE.lt
      obtain⟨y0,y1,y2,y3⟩:=bx4 hE
      go_wp2_with fail
      refine qd (λW6=>Bl w5 W6/\∃gv,Blk W6 gv 152 #[.int .i64 (qS t.a t.b).a,.int .i64 (qS t.a t.b).b,.int .i64 (-1),.int .i64 (-1)]/\gv=w5.heap.size) ⟨by exact slc,_,by exact bts,rfl⟩ ?_
      rintro W6 ⟨hb6,gv,hV,hgv⟩
      have hV:Blk W6 gv 152 #[.int .i64 (qS t.a t.b).a,.int .i64 (qS t.a t.b).b,.int .i64 (qS t.a t.b).l,.int .i64 (qS t.a t.b).r]:=hV
      rw[<-hgv]
      have hgv5:go_≠gv:=by have:=(hO.blk (g:=go_) rfl).2;omega
      clear y0 y1 y2 y3 hgv hE
      have hbx6:=hbi.next ((hb4.next hb5).next hb6)
      refine(Zp _ (hO.bl hb6) hnil hV (λe=>hgv5 (by injection e)) (by have:=hbi.size;have:=hb4.size;have:=hb5.size;have:=hb6.size;omega) (by omega) hPl rfl).mono ?_
      rintro e w7 ⟨v9,rfl,hO9,hI⟩
      obtain⟨hI1,hI2,hI3,hnil9⟩:=hI
      have hins:L.take P++(qS t.a t.b)::L.drop P=vv (qS t.a t.b) L:=by rw[<-hPe];rfl
      rw[hins]at hO9
      have hP9:P<(vv (qS t.a t.b) L).length:=by rw[Zt];omega
      have h66:=((h6.bl hb4).bl hb5).bl hb6
      have h69:Blk w7 g6 96 #[.int .i64 t.a,.int .i64 t.b,.int .i64 t.c]:=(hI3 g6 h66.lt ho6).1.trans h66
      have ho69:=(hI3 g6 h66.lt ho6).2
      have hbx:Bl w w7:=Below.trans hbx6 (Below.mono hI1 (by omega))
      replace hPe:=Lib.hid hPe
      clear hO h6 ho6 hnil hins hI1 hI2 hI3 h66
      obtain⟨g99,c99,hv9,-⟩:=hO9.lit hnil9
      subst hv9
      obtain⟨g9,c9,he9,hg9,hlc9,hc93,hcells9,hgl9,hfz9⟩:=hO9.lit hnil9
      injection he9 with q1 q2 q3
      injection q1 with q1
      injection q1 with q1
      subst q1 q3
      clear q2
      obtain⟨x0,x1,x2,x3⟩:=hcells9 P hP9
      have z2:=hfz9 (P*4+2)
      have z3:=hfz9 (P*4+3)
      have hPi:(P:Int)<((vv (qS t.a t.b) L).length:Int):=by omega
      clear hcells9 hfz9
      by_cases hab:t.a<t.b
      ·have hset:zo t.a t.b (k:Int)=λe=>⟨e.a,e.b,(k:Int),e.r⟩:=by funext e;unfold zo;rw[if_pos hab]
       replace hset:=Lib.hid hset
       go_wp2_with fail
       go_roundw
       case rel=>exact⟨1,_,by omega,rfl,rfl,by rw[hnext.out];unfold yX;rw[if_neg (by rw[hf.out];decide),hPe.out,hset.out];exact zU.setK hO9 (by simp) (jG _ _ _),(λe=>by cases e),h69.far (by intro e;exact ho69 (congrArg Option.some e.symm)) _,ho69,Bl.set hbx (Nat.le_of_succ_le hg9) _⟩
       case measure=>simp[intOf]
      ·have hset:zo t.a t.b (k:Int)=λe=>⟨e.a,e.b,e.l,(k:Int)⟩:=by funext e;unfold zo;rw[if_neg hab]
       replace hset:=Lib.hid hset
       go_wp2_with fail
       go_roundw
       case rel=>exact⟨1,_,by omega,rfl,rfl,by rw[hnext.out];unfold yX;rw[if_neg (by rw[hf.out];decide),hPe.out,hset.out];exact zU.setK hO9 (by simp) (jJ _ _ _),(λe=>by cases e),h69.far (by intro e;exact ho69 (congrArg Option.some e.symm)) _,ho69,Bl.set hbx (Nat.le_of_succ_le hg9) _⟩
       case measure=>simp[intOf]
    ·skip
     have e0:((1:Nat):Int)=1:=rfl
     rw[e0]
     clear e0 hi
     obtain⟨wj,rfl⟩:∃wj:World,wj=wr:=⟨_,rfl⟩
     have hix:∀W:World,(Instr.index 96 (.agg #[.int .i64 t.a,.int .i64 t.b,.int .i64 t.c]) (.int .i64 1)).run Tryz.prog W=.ok (.int .i64 t.b) W:=λ_=>by kernel_rfl
     obtain⟨L,hL⟩:∃L,zy (yU ts k) t (k:Int) 1=L:=⟨_,rfl⟩
     rw[hL]at hO
     have hsrt:Zr L:=by rw[<-hL];exact ju (jQ ts k) 1
     have hlen:L.length<=3*k+3:=by rw[<-hL];have a1:=jh ts k;have a2:=jv (l:=yU ts k) (t:=t) (k:=(k:Int)) 1;omega
     have hnext:zy (yU ts k) t (k:Int) 2=yX L t.b t.c (k:Int):=by rw[<-hL];rfl
     replace hnext:=Lib.hid hnext
     replace hsrt:=Lib.hid hsrt
     clear hL
     obtain⟨go_,co,rfl,hgo,hlc,hc63,hcells,hgl,hfz⟩:=hO.lit hnil
     clear hcells hfz
     obtain⟨y0,y1,y2⟩:=bx3 h6
     have h6l:=h6.lt
     have hmn:min t.b t.c=(qS t.b t.c).a:=rfl
     have hmx:max t.b t.c=(qS t.b t.c).b:=rfl
     go_wp2_with fail
     refine qd (λW4=>Bl wj W4/\∃g10,Blk W4 g10 152 #[.int .i64 (qS t.b t.c).a,.int .i64 (qS t.b t.c).b,.int .i64 (-1),.int .i64 (-1)]/\g10=wj.heap.size) ⟨by exact slc,_,by exact bts,rfl⟩ ?_
     rintro W4 ⟨hb4,g10,hE,hg10⟩
     rw[<-hg10]
     clear y0 y1 y2 hg10 hmn hmx
     have hO:=hO.bl hb4
     obtain⟨P,hPe⟩:∃P,zD (qS t.b t.c) L=P:=⟨_,rfl⟩
     have hPl:P<=L.length:=by rw[<-hPe];exact Qd _ _
     refine(Zj _ hO.rd hsrt.out (qS t.b t.c) (by omega)).mono ?_
     by_cases hf:yG (qS t.b t.c) L=true
     ·have hP9:P<L.length:=by rw[<-hPe];unfold yG at hf;simp at hf;exact hf.1
      rw[hf,hPe]
      rintro e w5 ⟨rfl,hb5⟩
      replace hf:=Lib.hid hf
      replace hPe:=Lib.hid hPe
      have hO9:=hO.bl hb5
      have h69:=(h6.bl hb4).bl hb5
      have ho69:=ho6
      have hnil9:=hnil
      have hbx:=hbi.next (hb4.next hb5)
      clear hO h6 ho6 hnil
      obtain⟨g9,c9,he9,hg9,hlc9,hc93,hcells9,hgl9,hfz9⟩:=hO9.lit hnil9
      injection he9 with q1 q2 q3
      injection q1 with q1
      injection q1 with q1
      subst q1 q3
      clear q2
      obtain⟨x0,x1,x2,x3⟩:=hcells9 P hP9
      have z2:=hfz9 (P*4+2)
      have z3:=hfz9 (P*4+3)
      have hPi:(P:Int)<(L.length:Int):=by omega
      clear hcells9 hfz9
      by_cases hab:t.b<t.c
      ·have hset:zo t.b t.c (k:Int)=λe=>⟨e.a,e.b,(k:Int),e.r⟩:=by funext e;unfold zo;rw[if_pos hab]
       replace hset:=Lib.hid hset
       go_wp2_with fail
       go_roundw
       case rel=>exact⟨2,_,by omega,rfl,rfl,by rw[hnext.out];unfold yX;rw[if_pos hf.out,hPe.out,hset.out];exact zU.setK hO9 (by simp) (jG _ _ _),(λe=>by cases e),h69.far (by intro e;exact ho69 (congrArg Option.some e.symm)) _,ho69,Bl.set hbx (Nat.le_of_succ_le hg9) _⟩
       case measure=>simp[intOf]
      ·have hset:zo t.b t.c (k:Int)=λe=>⟨e.a,e.b,e.l,(k:Int)⟩:=by funext e;unfold zo;rw[if_neg hab]
       replace hset:=Lib.hid hset
       go_wp2_with fail
       go_roundw
       case rel=>exact⟨2,_,by omega,rfl,rfl,by rw[hnext.out];unfold yX;rw[if_pos hf.out,hPe.out,hset.out];exact zU.setK hO9 (by simp) (jJ _ _ _),(λe=>by cases e),h69.far (by intro e;exact ho69 (congrArg Option.some e.symm)) _,ho69,Bl.set hbx (Nat.le_of_succ_le hg9) _⟩
       case measure=>simp[intOf]
     ·have hf:yG (qS t.b t.c) L=false:=Bool.eq_false_iff.2 hf
      rw[hf,hPe]
      rintro e w5 ⟨rfl,hb5⟩
      replace hf:=Lib.hid hf
      have hO:=hO.bl hb5
      have hE:=hE.bl hb5
      have hEl:=hE.lt
      obtain⟨y0,y1,y2,y3⟩:=bx4 hE
      go_wp2_with fail
      refine qd (λW6=>Bl w5 W6/\∃gv,Blk W6 gv 152 #[.int .i64 (qS t.b t.c).a,.int .i64 (qS t.b t.c).b,.int .i64 (-1),.int .i64 (-1)]/\gv=w5.heap.size) ⟨by exact slc,_,by exact bts,rfl⟩ ?_
      rintro W6 ⟨hb6,gv,hV,hgv⟩
      have hV:Blk W6 gv 152 #[.int .i64 (qS t.b t.c).a,.int .i64 (qS t.b t.c).b,.int .i64 (qS t.b t.c).l,.int .i64 (qS t.b t.c).r]:=hV
      rw[<-hgv]
      have hgv5:go_≠gv:=by have:=(hO.blk (g:=go_) rfl).2;omega
      clear y0 y1 y2 y3 hgv hE
      have hbx6:=hbi.next ((hb4.next hb5).next hb6)
      refine(Zp _ (hO.bl hb6) hnil hV (λe=>hgv5 (by injection e)) (by have:=hbi.size;have:=hb4.size;have:=hb5.size;have:=hb6.size;omega) (by omega) hPl rfl).mono ?_
      rintro e w7 ⟨v9,rfl,hO9,hI⟩
      obtain⟨hI1,hI2,hI3,hnil9⟩:=hI
      have hins:L.take P++(qS t.b t.c)::L.drop P=vv (qS t.b t.c) L:=by rw[<-hPe];rfl
      rw[hins]at hO9
      have hP9:P<(vv (qS t.b t.c) L).length:=by rw[Zt];omega
      have h66:=((h6.bl hb4).bl hb5).bl hb6
      have h69:Blk w7 g6 96 #[.int .i64 t.a,.int .i64 t.b,.int .i64 t.c]:=(hI3 g6 h66.lt ho6).1.trans h66
      have ho69:=(hI3 g6 h66.lt ho6).2
      have hbx:Bl w w7:=Below.trans hbx6 (Below.mono hI1 (by omega))
      replace hPe:=Lib.hid hPe
      clear hO h6 ho6 hnil hins hI1 hI2 hI3 h66
      obtain⟨g99,c99,hv9,-⟩:=hO9.lit hnil9
      subst hv9
      obtain⟨g9,c9,he9,hg9,hlc9,hc93,hcells9,hgl9,hfz9⟩:=hO9.lit hnil9
      injection he9 with q1 q2 q3
      injection q1 with q1
      injection q1 with q1
      subst q1 q3
      clear q2
      obtain⟨x0,x1,x2,x3⟩:=hcells9 P hP9
      have z2:=hfz9 (P*4+2)
      have z3:=hfz9 (P*4+3)
      have hPi:(P:Int)<((vv (qS t.b t.c) L).length:Int):=by omega
      clear hcells9 hfz9
      by_cases hab:t.b<t.c
      ·have hset:zo t.b t.c (k:Int)=λe=>⟨e.a,e.b,(k:Int),e.r⟩:=by funext e;unfold zo;rw[if_pos hab]
       replace hset:=Lib.hid hset
       go_wp2_with fail
       go_roundw
       case rel=>exact⟨2,_,by omega,rfl,rfl,by rw[hnext.out];unfold yX;rw[if_neg (by rw[hf.out];decide),hPe.out,hset.out];exact zU.setK hO9 (by simp) (jG _ _ _),(λe=>by cases e),h69.far (by intro e;exact ho69 (congrArg Option.some e.symm)) _,ho69,Bl.set hbx (Nat.le_of_succ_le hg9) _⟩
       case measure=>simp[intOf]
      ·have hset:zo t.b t.c (k:Int)=λe=>⟨e.a,e.b,e.l,(k:Int)⟩:=by funext e;unfold zo;rw[if_neg hab]
       replace hset:=Lib.hid hset
       go_wp2_with fail
       go_roundw
       case rel=>exact⟨2,_,by omega,rfl,rfl,by rw[hnext.out];unfold yX;rw[if_neg (by rw[hf.out];decide),hPe.out,hset.out];exact zU.setK hO9 (by simp) (jJ _ _ _),(λe=>by cases e),h69.far (by intro e;exact ho69 (congrArg Option.some e.symm)) _,ho69,Bl.set hbx (Nat.le_of_succ_le hg9) _⟩
       case measure=>simp[intOf]
    ·skip
     have e0:((2:Nat):Int)=2:=rfl
     rw[e0]
     clear e0 hi
     obtain⟨wj,rfl⟩:∃wj:World,wj=wr:=⟨_,rfl⟩
     have hix:∀W:World,(Instr.index 96 (.agg #[.int .i64 t.a,.int .i64 t.b,.int .i64 t.c]) (.int .i64 2)).run Tryz.prog W=.ok (.int .i64 t.c) W:=λ_=>by kernel_rfl
     obtain⟨L,hL⟩:∃L,zy (yU ts k) t (k:Int) 2=L:=⟨_,rfl⟩
     rw[hL]at hO
     have hsrt:Zr L:=by rw[<-hL];exact ju (jQ ts k) 2
     have hlen:L.length<=3*k+3:=by rw[<-hL];have a1:=jh ts k;have a2:=jv (l:=yU ts k) (t:=t) (k:=(k:Int)) 2;omega
     have hnext:zy (yU ts k) t (k:Int) 3=yX L t.c t.a (k:Int):=by rw[<-hL];rfl
     replace hnext:=Lib.hid hnext
     replace hsrt:=Lib.hid hsrt
     clear hL
     obtain⟨go_,co,rfl,hgo,hlc,hc63,hcells,hgl,hfz⟩:=hO.lit hnil
     clear hcells hfz
     obtain⟨y0,y1,y2⟩:=bx3 h6
     have h6l:=h6.lt
     have hmn:min t.c t.a=(qS t.c t.a).a:=rfl
     have hmx:max t.c t.a=(qS t.c t.a).b:=rfl
     go_wp2_with fail
     refine qd (λW4=>Bl wj W4/\∃g10,Blk W4 g10 152 #[.int .i64 (qS t.c t.a).a,.int .i64 (qS t.c t.a).b,.int .i64 (-1),.int .i64 (-1)]/\g10=wj.heap.size) ⟨by exact slc,_,by exact bts,rfl⟩ ?_
     rintro W4 ⟨hb4,g10,hE,hg10⟩
     rw[<-hg10]
     clear y0 y1 y2 hg10 hmn hmx
     have hO:=hO.bl hb4
     obtain⟨P,hPe⟩:∃P,zD (qS t.c t.a) L=P:=⟨_,rfl⟩
     have hPl:P<=L.length:=by rw[<-hPe];exact Qd _ _
     refine(Zj _ hO.rd hsrt.out (qS t.c t.a) (by omega)).mono ?_
     by_cases hf:yG (qS t.c t.a) L=true
     ·have hP9:P<L.length:=by rw[<-hPe];unfold yG at hf;simp at hf;exact hf.1
      rw[hf,hPe]
      rintro e w5 ⟨rfl,hb5⟩
      replace hf:=Lib.hid hf
      replace hPe:=Lib.hid hPe
      have hO9:=hO.bl hb5
      have h69:=(h6.bl hb4).bl hb5
      have ho69:=ho6
      have hnil9:=hnil
      have hbx:=hbi.next (hb4.next hb5)
      clear hO h6 ho6 hnil
      obtain⟨g9,c9,he9,hg9,hlc9,hc93,hcells9,hgl9,hfz9⟩:=hO9.lit hnil9
      injection he9 with q1 q2 q3
      injection q1 with q1
      injection q1 with q1
      subst q1 q3
      clear q2
      obtain⟨x0,x1,x2,x3⟩:=hcells9 P hP9
      have z2:=hfz9 (P*4+2)
      have z3:=hfz9 (P*4+3)
      have hPi:(P:Int)<(L.length:Int):=by omega
      clear hcells9 hfz9
      by_cases hab:t.c<t.a
      ·have hset:zo t.c t.a (k:Int)=λe=>⟨e.a,e.b,(k:Int),e.r⟩:=by funext e;unfold zo;rw[if_pos hab]
       replace hset:=Lib.hid hset
       go_wp2_with fail
       go_roundw
       case rel=>exact⟨3,_,by omega,rfl,rfl,by rw[hnext.out];unfold yX;rw[if_pos hf.out,hPe.out,hset.out];exact zU.setK hO9 (by simp) (jG _ _ _),(λe=>by cases e),h69.far (by intro e;exact ho69 (congrArg Option.some e.symm)) _,ho69,Bl.set hbx (Nat.le_of_succ_le hg9) _⟩
       case measure=>simp[intOf]
      ·have hset:zo t.c t.a (k:Int)=λe=>⟨e.a,e.b,e.l,(k:Int)⟩:=by funext e;unfold zo;rw[if_neg hab]
       replace hset:=Lib.hid hset
       go_wp2_with fail
       go_roundw
       case rel=>exact⟨3,_,by omega,rfl,rfl,by rw[hnext.out];unfold yX;rw[if_pos hf.out,hPe.out,hset.out];exact zU.setK hO9 (by simp) (jJ _ _ _),(λe=>by cases e),h69.far (by intro e;exact ho69 (congrArg Option.some e.symm)) _,ho69,Bl.set hbx (Nat.le_of_succ_le hg9) _⟩
       case measure=>simp[intOf]
     ·have hf:yG (qS t.c t.a) L=false:=Bool.eq_false_iff.2 hf
      rw[hf,hPe]
      rintro e w5 ⟨rfl,hb5⟩
      replace hf:=Lib.hid hf
      have hO:=hO.bl hb5
      have hE:=hE.bl hb5
      have hEl:=hE.lt
      obtain⟨y0,y1,y2,y3⟩:=bx4 hE
      go_wp2_with fail
      refine qd (λW6=>Bl w5 W6/\∃gv,Blk W6 gv 152 #[.int .i64 (qS t.c t.a).a,.int .i64 (qS t.c t.a).b,.int .i64 (-1),.int .i64 (-1)]/\gv=w5.heap.size) ⟨by exact slc,_,by exact bts,rfl⟩ ?_
      rintro W6 ⟨hb6,gv,hV,hgv⟩
      have hV:Blk W6 gv 152 #[.int .i64 (qS t.c t.a).a,.int .i64 (qS t.c t.a).b,.int .i64 (qS t.c t.a).l,.int .i64 (qS t.c t.a).r]:=hV
      rw[<-hgv]
      have hgv5:go_≠gv:=by have:=(hO.blk (g:=go_) rfl).2;omega
      clear y0 y1 y2 y3 hgv hE
      have hbx6:=hbi.next ((hb4.next hb5).next hb6)
      refine(Zp _ (hO.bl hb6) hnil hV (λe=>hgv5 (by injection e)) (by have:=hbi.size;have:=hb4.size;have:=hb5.size;have:=hb6.size;omega) (by omega) hPl rfl).mono ?_
      rintro e w7 ⟨v9,rfl,hO9,hI⟩
      obtain⟨hI1,hI2,hI3,hnil9⟩:=hI
      have hins:L.take P++(qS t.c t.a)::L.drop P=vv (qS t.c t.a) L:=by rw[<-hPe];rfl
      rw[hins]at hO9
      have hP9:P<(vv (qS t.c t.a) L).length:=by rw[Zt];omega
      have h66:=((h6.bl hb4).bl hb5).bl hb6
      have h69:Blk w7 g6 96 #[.int .i64 t.a,.int .i64 t.b,.int .i64 t.c]:=(hI3 g6 h66.lt ho6).1.trans h66
      have ho69:=(hI3 g6 h66.lt ho6).2
      have hbx:Bl w w7:=Below.trans hbx6 (Below.mono hI1 (by omega))
      replace hPe:=Lib.hid hPe
      clear hO h6 ho6 hnil hins hI1 hI2 hI3 h66
      obtain⟨g99,c99,hv9,-⟩:=hO9.lit hnil9
      subst hv9
      obtain⟨g9,c9,he9,hg9,hlc9,hc93,hcells9,hgl9,hfz9⟩:=hO9.lit hnil9
      injection he9 with q1 q2 q3
      injection q1 with q1
      injection q1 with q1
      subst q1 q3
      clear q2
      obtain⟨x0,x1,x2,x3⟩:=hcells9 P hP9
      have z2:=hfz9 (P*4+2)
      have z3:=hfz9 (P*4+3)
      have hPi:(P:Int)<((vv (qS t.c t.a) L).length:Int):=by omega
      clear hcells9 hfz9
      by_cases hab:t.c<t.a
      ·have hset:zo t.c t.a (k:Int)=λe=>⟨e.a,e.b,(k:Int),e.r⟩:=by funext e;unfold zo;rw[if_pos hab]
       replace hset:=Lib.hid hset
       go_wp2_with fail
       go_roundw
       case rel=>exact⟨3,_,by omega,rfl,rfl,by rw[hnext.out];unfold yX;rw[if_neg (by rw[hf.out];decide),hPe.out,hset.out];exact zU.setK hO9 (by simp) (jG _ _ _),(λe=>by cases e),h69.far (by intro e;exact ho69 (congrArg Option.some e.symm)) _,ho69,Bl.set hbx (Nat.le_of_succ_le hg9) _⟩
       case measure=>simp[intOf]
      ·have hset:zo t.c t.a (k:Int)=λe=>⟨e.a,e.b,e.l,(k:Int)⟩:=by funext e;unfold zo;rw[if_neg hab]
       replace hset:=Lib.hid hset
       go_wp2_with fail
       go_roundw
       case rel=>exact⟨3,_,by omega,rfl,rfl,by rw[hnext.out];unfold yX;rw[if_neg (by rw[hf.out];decide),hPe.out,hset.out];exact zU.setK hO9 (by simp) (jJ _ _ _),(λe=>by cases e),h69.far (by intro e;exact ho69 (congrArg Option.some e.symm)) _,ho69,Bl.set hbx (Nat.le_of_succ_le hg9) _⟩
       case measure=>simp[intOf]
    ·have e0:((3:Nat):Int)=3:=rfl
     rw[e0]
     clear e0 hi
     rw[hlast.out]at hO
     go_wp2_with fail
     go_roundw
     case rel=>exact⟨k+1,out,by omega,by go_num,rfl,hO,hnil,hbi⟩
     case measure=>simp[intOf];omega
  ·obtain rfl:k=m:=by omega
   have hkm2:¬(k:Int)<(k:Int):=by omega
   obtain⟨go_,co,rfl,hgo,hlc,hc63,hcells,hgl,hfz⟩:=hO.lit hnil
   have hR:=hO.rd
   go_wp2_with fail
   go_ret
   exact⟨go_,_,_,rfl,by unfold edL;rw[hlt.out];exact hR,Nat.le_of_succ_le hgo,hbw⟩
def Kr (t:qC):List Value:=[.int .i64 t.a,.int .i64 t.b,.int .i64 t.c,.int .i64 t.region,.int .i64 t.level]
theorem J9:∀(l:List qC),(l.flatMap Kr).length=l.length*5
 | []=>rfl
 | x::xs=>by
  have h5:(Kr x).length=5:=rfl
  rw[List.flatMap_cons,List.length_append,J9 xs,h5,List.length_cons]
  omega
theorem Yi:∀(l:List qC) {k j:Nat},k<l.length->j<5->(l.flatMap Kr)[k*5+j]?=(Kr (pix l k))[j]?
 | [],k,j,hk,_=>by simp at hk
 | x::xs,k,j,hk,hj=>by
  have h4:(Kr x).length=5:=rfl
  rw[List.flatMap_cons]
  rcases k with _|k
  ·rw[List.getElem?_append_left (by omega),VB]
   congr 1
   omega
  ·rw[List.getElem?_append_right (by omega),h4,JX,show (k+1)*5+j-5=k*5+j by omega]
   exact Yi xs (by simpa using hk) hj
theorem qay {t:qC}{u:Value}(h:u∈Kr t):u.oneCell'=true:=by
 unfold Kr at h
 simp at h
 rcases h with rfl|rfl|rfl|rfl|rfl <;> rfl
def OwT (base:Nat) (w:World) (v:Value) (l:List qC):Prop:=w.ownsRow base 83 5 v l.length (l.flatMap Kr)
section
variable {base:Nat}{w W:World}{v:Value}{l:List qC}
theorem OwT.keep (h:OwT base w v l) (h1:∀g,v.ownBlock=Option.some g->W.heap[g]?=w.heap[g]?):OwT base W v l:=by
 refine⟨h.1,?_⟩
 rcases h.2 with h2 |⟨g,cap,cur,hv,hg,hh,r⟩
 ·exact .inl h2
 ·exact .inr ⟨g,cap,cur,hv,hg,(h1 g (by rw[hv];rfl)).trans hh,r⟩
theorem OwT.blk (h:OwT base w v l) {g:Nat}(hg:v.ownBlock=Option.some g):base<=g/\g<w.heap.size:=World.ownsRow.lt h g hg
theorem OwT.bl (h:OwT base w v l) (hb:Bl w W):OwT base W v l:=h.keep λg e=>Below.block hb g (h.blk e).2
theorem OwT.lit (h:OwT base w v l) (hnil:v≠.slice none 0 0):∃g c,v=.slice (some ⟨g,0,none⟩) l.length c/\base<=g/\zx w (some ⟨g,0,none⟩) l.length c l/\g<w.heap.size/\(∀o,w.frozen? ⟨g,o,none⟩=false):=by
 obtain⟨hcl,⟨h,_⟩ |⟨g,cap,cur,rfl,hg,hh,hnc,hm,hcs,htk⟩⟩:=id h
 ·exact absurd h hnil
 have hc:∀k j u,k<l.length->j<5->(Kr (pix l k))[j]?=some u->w.cell? ⟨g,k*5+j,none⟩=some u:=λk j u hk hj hu=>ZD hh htk (by rw[Yi l hk hj];exact hu)
 refine⟨g,cap,rfl,hg,⟨rfl,hnc,by unfold maxLen at hm;omega,λk hk=>⟨_,rfl,qV hh,?_⟩⟩,qV hh,λo=>by simp[World.frozen?,hh]⟩
 rw[Addr.add_lit,Nat.zero_add]
 exact⟨hc k 0 _ hk (by omega) rfl,hc k 1 _ hk (by omega) rfl,hc k 2 _ hk (by omega) rfl,hc k 3 _ hk (by omega) rfl,hc k 4 _ hk (by omega) rfl⟩
end
theorem zC {w:World}{g n c:Nat}{l:List PtD}(h:qR w (some ⟨g,0,none⟩) n c l) {k:Nat}(hk:k<n):YX w ⟨g,k*6,none⟩ (pix l k):=by
 obtain⟨_,e,_,hc⟩:=h.cells k hk
 cases e
 rw[Addr.add_lit,Nat.zero_add]at hc
 exact hc
def qdv (l:List PtD):Prop:=∀k,k<l.length->OkP (pix l k)/\∀j,j<k->eqP (pix l k) (pix l j)=false
theorem YY (w:World) {s1:Bool}{A1:Option Addr}{n1 c1:Nat}{B1:Option Addr}{m1 d1:Nat}{t1:Bool}{C1:Option Addr}{i1 e1:Nat}{D1:Option Addr}{j1 f1:Nat}{q:PtD}{gb:Nat}(qb:Blk w gb 28 #[.bool s1,.slice A1 n1 c1,.slice B1 m1 d1,.bool t1,.slice C1 i1 e1,.slice D1 j1 f1]) (hx1:RdR w s1 A1 n1 c1 B1 m1 d1 q.x) (hy1:RdR w t1 C1 i1 e1 D1 j1 f1 q.y) {s2:Bool}{A2:Option Addr}{n2 c2:Nat}{B2:Option Addr}{m2 d2:Nat}{t2:Bool}{C2:Option Addr}{i2 e2:Nat}{D2:Option Addr}{j2 f2:Nat}{p:PtD}(hx:RdR w s2 A2 n2 c2 B2 m2 d2 p.x) (hy:RdR w t2 C2 i2 e2 D2 j2 f2 p.y) :
  Calls Tryz.prog 127 #[.agg #[.bool s2,.slice A2 n2 c2,.slice B2 m2 d2,.bool t2,.slice C2 i2 e2,.slice D2 j2 f2],.pointer (some ⟨gb,0,none⟩)] w λen w'=>en=.returned (.bool (eqP q p))/\Bl w w':=by
 go_enter Tryz.func127,Tryz.ntmps127
 have eb:=qb.alloc (.cells #[.bool s2,.slice A2 n2 c2,.slice B2 m2 d2,.bool t2,.slice C2 i2 e2,.slice D2 j2 f2] 28)
 obtain⟨j0,j1,j2,j3,j4,j5⟩:=bx6 eb
 go_wp2_with fail
 refine(Qb _ (hx1.bl slc) (hy1.bl slc) (hx.bl slc) (hy.bl slc)).mono ?_
 rintro e w1 ⟨rfl,hb1⟩
 go_wp2_with fail
 go_ret
 exact⟨rfl,slc⟩
def qel (q:PtD) (l:List PtD):Prop:=∀k,k<l.length->eqP q (pix l k)=false
theorem U4 (w:World) {s1:Bool}{A1:Option Addr}{n1 c1:Nat}{B1:Option Addr}{m1 d1:Nat}{t1:Bool}{C1:Option Addr}{i1 e1:Nat}{D1:Option Addr}{j1 f1:Nat}{q:PtD}{gb:Nat}(qb:Blk w gb 28 #[.bool s1,.slice A1 n1 c1,.slice B1 m1 d1,.bool t1,.slice C1 i1 e1,.slice D1 j1 f1]) (hx1:RdR w s1 A1 n1 c1 B1 m1 d1 q.x) (hy1:RdR w t1 C1 i1 e1 D1 j1 f1 q.y) {g9 n9 c9:Nat}{l:List PtD}(hl9:qR w (some ⟨g9,0,none⟩) n9 c9 l) (hno:qel q l) :
  Calls Tryz.prog 173 #[.slice (some ⟨g9,0,none⟩) n9 c9,.func (.func 127) #[] #[.pointer (some ⟨gb,0,none⟩)]] w λe w'=>e=.returned (.int .i64 (-1))/\Bl w w':=by
 have hn:=hl9.small
 have hl:=Lib.hid hl9.len
 replace hno:=Lib.hid hno
 go_enter Tryz.func173,Tryz.ntmps173
 go_wp2_with fail
 go_loopw [8] (λi wr=>∃k:Nat,k<=n9/\i=.int .i64 (k:Int)/\Bl w wr) (λi _=>n9-(intOf i).toNat)
 case atStart=>exact⟨0,Nat.zero_le _,rfl,Bl.refl _⟩
 case round=>
  obtain⟨k9,hk,rfl,hbw⟩:=hrel
  by_cases hkn:k9<n9
  ·have hki:(k9:Int)<(n9:Int):=by omega
   obtain⟨s2,A2,n2,c2,B2,m2,d2,t2,C2,i2,e2,D2,j2,f2,⟨y0,y1,y2,y3,y4,y5⟩,hx,hy⟩:=zC (qR.bl hl9 hbw) hkn
   have ho:=Lib.hid (hno.out k9 (by rw[hl.out];exact hkn))
   go_wp2_with fail
   refine(YY _ (qb.bl hbw) (hx1.bl hbw) (hy1.bl hbw) hx hy).mono ?_
   rw[ho.out]
   rintro e w1 ⟨rfl,hb1⟩
   have hb2:Bl w w1:=slc
   clear hb1
   go_wp2_with fail
   go_roundw
   case rel=>exact⟨k9+1,by omega,by go_num,hb2⟩
   case measure=>simp[intOf];omega
  ·obtain rfl:k9=n9:=by omega
   have hkm2:¬(k9:Int)<(k9:Int):=by omega
   go_wp2_with fail
   go_ret
   exact⟨rfl,hbw⟩
theorem Vf (w:World) {s1:Bool}{A1:Option Addr}{n1 c1:Nat}{B1:Option Addr}{m1 d1:Nat}{t1:Bool}{C1:Option Addr}{i1 e1:Nat}{D1:Option Addr}{j1 f1:Nat}{q:PtD}{gb:Nat}(qb:Blk w gb 28 #[.bool s1,.slice A1 n1 c1,.slice B1 m1 d1,.bool t1,.slice C1 i1 e1,.slice D1 j1 f1]) (hx1:RdR w s1 A1 n1 c1 B1 m1 d1 q.x) (hy1:RdR w t1 C1 i1 e1 D1 j1 f1 q.y) {g9 n9 c9:Nat}{l:List PtD}(hl9:qR w (some ⟨g9,0,none⟩) n9 c9 l) (hno:qel q l) :
  Calls Tryz.prog 126 #[.slice (some ⟨g9,0,none⟩) n9 c9,.func (.func 127) #[] #[.pointer (some ⟨gb,0,none⟩)]] w λe w'=>e=.returned (.bool false)/\Bl w w':=by
 replace hno:=Lib.hid hno
 go_enter Tryz.func126,Tryz.ntmps126
 go_wp2_with fail
 refine(U4 _ qb hx1 hy1 hl9 hno.out).mono ?_
 rintro e w1 ⟨rfl,hb⟩
 go_wp2_with fail
 go_ret
 exact⟨rfl,hb⟩
theorem qaT {w:World}{g n c:Nat}{l:List PtD}(h:qR w (some ⟨g,0,none⟩) n c l) {k:Nat}(hk:k<=n):qR w (some ⟨g,0,none⟩) k c (l.take k):=by
 refine⟨?_,Nat.le_trans hk h.cap,Nat.le_trans hk h.small,λj hj=>?_⟩
 ·rw[List.length_take,h.len];omega
 ·obtain⟨ad,e,hlt,hc⟩:=h.cells j (by omega)
  refine⟨ad,e,hlt,?_⟩
  have:pix (l.take k) j=pix l j:=by unfold pix;rw[List.getD_eq_getElem?_getD,List.getD_eq_getElem?_getD,List.getElem?_take_of_lt hj]
  rw[this]
  exact hc
theorem VJ (w:World) {g9 n9 c9:Nat}{l:List PtD}(hl9:qR w (some ⟨g9,0,none⟩) n9 c9 l) (hok:qdv l) (h3:3<=n9) (h40:n9<=40) :
  Calls Tryz.prog 65 #[.slice (some ⟨g9,0,none⟩) n9 c9] w λe w'=>e=.returned (.bool true)/\Bl w w':=by
 have hl:=Lib.hid hl9.len
 have hcap:=hl9.cap
 replace hok:=Lib.hid hok
 go_enter Tryz.func65,Tryz.ntmps65
 go_wp2_with fail
 go_loopw [7] (λi wr=>∃k:Nat,k<=n9/\i=.int .i64 (k:Int)/\Bl w wr) (λi _=>n9-(intOf i).toNat)
 case atStart=>exact⟨0,Nat.zero_le _,rfl,Bl.refl _⟩
 case round=>
  obtain⟨k,hk,rfl,hbw⟩:=hrel
  obtain⟨wo,rfl⟩:∃wo:World,wo=wr:=⟨_,rfl⟩
  by_cases hkn:k<n9
  ·have hki:(k:Int)<(n9:Int):=by omega
   obtain⟨s1,A1,n1,c1,B1,m1,d1,t1,C1,i1,e1,D1,j1,f1,⟨y0,y1,y2,y3,y4,y5⟩,hx1,hy1⟩:=zC (qR.bl hl9 hbw) hkn
   have hop:=Lib.hid (hok.out k (by rw[hl.out];exact hkn)).1
   have hne:qel (pix l k) (l.take k):=by
    intro j hj
    rw[List.length_take]at hj
    have:pix (l.take k) j=pix l j:=by unfold pix;rw[List.getD_eq_getElem?_getD,List.getD_eq_getElem?_getD,List.getElem?_take_of_lt (by omega)]
    rw[this]
    exact(hok.out k (by rw[hl.out];exact hkn)).2 j (by omega)
   replace hne:=Lib.hid hne
   go_wp2_with fail
   refine qd (λW2=>Bl wo W2/\Blk W2 wo.heap.size 28 #[.bool s1,.slice A1 n1 c1,.slice B1 m1 d1,.bool t1,.slice C1 i1 e1,.slice D1 j1 f1]) ⟨slc,bts⟩ ?_
   rintro W2 ⟨hb2,qb⟩
   clear y0 y1 y2 y3 y4 y5
   refine(Ql _ (hx1.bl hb2) (hy1.bl hb2) hop.out).mono ?_
   rintro e w3 ⟨rfl,hb3⟩
   have qb:=qb.bl hb3
   have hb4:=hb2.next hb3
   obtain⟨j0,j1,j2,j3,j4,j5⟩:=bx6 qb
   go_wp2_with fail
   refine(Vf _ (by exact qb) (hx1.bl hb4) (hy1.bl hb4) (qaT (qR.bl hl9 (hbw.next hb4)) (by omega)) hne.out).mono ?_
   rintro e w5 ⟨rfl,hb5⟩
   go_wp2_with fail
   go_roundw
   case rel=>exact⟨k+1,by omega,by go_num,(hbw.next hb4).next hb5⟩
   case measure=>simp[intOf];omega
  ·obtain rfl:k=n9:=by omega
   have hkm2:¬(k:Int)<(k:Int):=by omega
   go_wp2_with fail
   refine(zc _ (show (3:Int)<=(k:Int)by omega) (show (k:Int)<=40 by omega)).mono ?_
   rintro e w1 ⟨rfl,q1,rfl⟩
   go_wp2_with fail
   go_ret
   exact⟨rfl,by exact slc⟩
theorem jK.setLow {N:List Nat->Prop}{lo:Nat}{w:World}{v:Value}{l:List PtD}(h:jK N lo w.heap.size w v l) {q:Addr}(hq:q.block<lo) (u:Value):jK N lo (w.setCell q u).heap.size (w.setCell q u) v l:=by
 have hs:(w.setCell q u).heap.size=w.heap.size:=by simp
 rw[hs]
 exact qO.keep (qx 3) h (by omega) λb h1 _=>Below.heap_setCell w q u b (by omega)
theorem jK.shape3 {N:List Nat->Prop}{lo hi:Nat}{w:World}{v:Value}{l:List PtD}(h:jK N lo hi w v l):∃A n c,v=.slice A n c:=by
 obtain⟨_,_,h1,_⟩:=h
 rcases h1.2 with ⟨rfl,_⟩ |⟨g,cap,cur,rfl,_⟩
 ·exact⟨_,_,_,rfl⟩
 ·exact⟨_,_,_,rfl⟩
theorem jK.lit {N:List Nat->Prop}{lo hi:Nat}{w:World}{v:Value}{l:List PtD}(h:jK N lo hi w v l) (hl:0<l.length) (hl2:l.length<=1048576):∃g c,v=.slice (some ⟨g,0,none⟩) l.length c/\lo<=g/\qR w (some ⟨g,0,none⟩) l.length c l:=by
 obtain⟨A,c,e,hr⟩:=jK.rd h hl2
 obtain⟨cells,fs,h1,_⟩:=h
 rcases h1.2 with ⟨rfl,h0⟩ |⟨g,cap,cur,rfl,hg,_⟩
 ·omega
 ·injection e with e1 e2 e3
  subst e1 e3
  exact⟨g,cap,rfl,hg,hr⟩
end Go.Proofs.YtjaapemopbbfaaaGreatDoor
