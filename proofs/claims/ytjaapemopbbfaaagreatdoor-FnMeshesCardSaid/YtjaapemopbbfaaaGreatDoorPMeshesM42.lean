import Derived.Test.YtjaapemopbbfaaaGreatDoorPMeshesM41
namespace Go.Proofs.YtjaapemopbbfaaaGreatDoor
open Go.RowKit
set_option maxRecDepth 100000
set_option maxHeartbeats 32000000
instance:Inhabited BxQ:=⟨⟨0,0,0,0⟩⟩
def PsE (w:World) (cs:Array Value) (i:Nat) (l:List PtD) (bs:List Nat):Prop :=
 ∃g n c,cs[i]?=some (.slice (some ⟨g,0,none⟩) n c)/\∀W:World,w.heap.size<=W.heap.size->(∀b∈bs,W.heap[b]?=w.heap[b]?)->qR W (some ⟨g,0,none⟩) n c l
theorem JV:JD 1 PsE:=by
 intro w W cs cs' i i' x bs h hc hs hb
 obtain⟨g,n,c,h0,h1⟩:=h
 exact⟨g,n,c,(hc 0 (by omega)).trans h0,λX hX hk=>h1 X (Nat.le_trans hs hX) λb hm=>(hk b hm).trans (hb b hm)⟩
def BxE (w:World) (cs:Array Value) (i:Nat) (x:BxQ) (bs:List Nat):Prop :=
 ∃u0 u1 u2 u3 u4 u5 u6 u7 u8 u9 u10 u11,(cs[i]?=some u0/\cs[i+1]?=some u1/\cs[i+2]?=some u2/\cs[i+3]?=some u3/\cs[i+4]?=some u4/\cs[i+5]?=some u5/\cs[i+6]?=some u6/\cs[i+7]?=some u7/\cs[i+8]?=some u8/\cs[i+9]?=some u9/\cs[i+10]?=some u10/\cs[i+11]?=some u11)/\∀W:World,w.heap.size<=W.heap.size->(∀b∈bs,W.heap[b]?=w.heap[b]?)->RdV W u0 u1 u2 (toR x.l)/\RdV W u3 u4 u5 (toR x.r)/\RdV W u6 u7 u8 (toR x.lo)/\RdV W u9 u10 u11 (toR x.hi)
theorem Vy:JD 12 BxE:=by
 intro w W cs cs' i i' x bs h hc hs hb
 obtain⟨u0,u1,u2,u3,u4,u5,u6,u7,u8,u9,u10,u11,⟨h0,h1,h2,h3,h4,h5,h6,h7,h8,h9,h10,h11⟩,hr⟩:=h
 exact⟨u0,u1,u2,u3,u4,u5,u6,u7,u8,u9,u10,u11,⟨(hc 0 (by omega)).trans h0,(hc 1 (by omega)).trans h1,(hc 2 (by omega)).trans h2,(hc 3 (by omega)).trans h3,(hc 4 (by omega)).trans h4,(hc 5 (by omega)).trans h5,(hc 6 (by omega)).trans h6,(hc 7 (by omega)).trans h7,(hc 8 (by omega)).trans h8,(hc 9 (by omega)).trans h9,(hc 10 (by omega)).trans h10,(hc 11 (by omega)).trans h11⟩,λX hX hk=>hr X (Nat.le_trans hs hX) λb hm=>(hk b hm).trans (hb b hm)⟩
def qcN (w:World) (p:Addr) (l:List PtD):Prop:=∃g n c,w.cell? p=some (.slice (some ⟨g,0,none⟩) n c)/\qR w (some ⟨g,0,none⟩) n c l
def qcJ (w:World) (p:Addr) (x:BxQ):Prop:=∃u0 u1 u2 u3 u4 u5 u6 u7 u8 u9 u10 u11,(w.cell? p=some u0/\w.cell? ⟨p.block,p.off+1,none⟩=some u1/\w.cell? ⟨p.block,p.off+2,none⟩=some u2/\w.cell? ⟨p.block,p.off+3,none⟩=some u3/\w.cell? ⟨p.block,p.off+4,none⟩=some u4/\w.cell? ⟨p.block,p.off+5,none⟩=some u5/\w.cell? ⟨p.block,p.off+6,none⟩=some u6/\w.cell? ⟨p.block,p.off+7,none⟩=some u7/\w.cell? ⟨p.block,p.off+8,none⟩=some u8/\w.cell? ⟨p.block,p.off+9,none⟩=some u9/\w.cell? ⟨p.block,p.off+10,none⟩=some u10/\w.cell? ⟨p.block,p.off+11,none⟩=some u11)/\RdV w u0 u1 u2 (toR x.l)/\RdV w u3 u4 u5 (toR x.r)/\RdV w u6 u7 u8 (toR x.lo)/\RdV w u9 u10 u11 (toR x.hi)
theorem qcN.bl {w W:World}{p:Addr}{l:List PtD}(h:qcN w p l) (hp:p.block<w.heap.size) (hb:Bl w W):qcN W p l:=by
 obtain⟨g,n,c,h0,h1⟩:=h
 exact⟨g,n,c,by rw[hb.qeV hp];exact h0,qR.bl h1 hb⟩
theorem qcJ.bl {w W:World}{p:Addr}{x:BxQ}(h:qcJ w p x) (hp:p.block<w.heap.size) (hb:Bl w W):qcJ W p x:=by
 obtain⟨u0,u1,u2,u3,u4,u5,u6,u7,u8,u9,u10,u11,⟨h0,h1,h2,h3,h4,h5,h6,h7,h8,h9,h10,h11⟩,r0,r1,r2,r3⟩:=h
 exact⟨u0,u1,u2,u3,u4,u5,u6,u7,u8,u9,u10,u11,⟨by rw[hb.qeV hp];exact h0,by rw[hb.qeV (p:=⟨p.block,p.off+1,none⟩) hp];exact h1,by rw[hb.qeV (p:=⟨p.block,p.off+2,none⟩) hp];exact h2,by rw[hb.qeV (p:=⟨p.block,p.off+3,none⟩) hp];exact h3,by rw[hb.qeV (p:=⟨p.block,p.off+4,none⟩) hp];exact h4,by rw[hb.qeV (p:=⟨p.block,p.off+5,none⟩) hp];exact h5,by rw[hb.qeV (p:=⟨p.block,p.off+6,none⟩) hp];exact h6,by rw[hb.qeV (p:=⟨p.block,p.off+7,none⟩) hp];exact h7,by rw[hb.qeV (p:=⟨p.block,p.off+8,none⟩) hp];exact h8,by rw[hb.qeV (p:=⟨p.block,p.off+9,none⟩) hp];exact h9,by rw[hb.qeV (p:=⟨p.block,p.off+10,none⟩) hp];exact h10,by rw[hb.qeV (p:=⟨p.block,p.off+11,none⟩) hp];exact h11⟩,r0.bl hb,r1.bl hb,r2.bl hb,r3.bl hb⟩
theorem qdl {w:World}{g n c:Nat}{L:List (List PtD)}(h:RdS 1 qcN w (some ⟨g,0,none⟩) n c L) {k:Nat}(hk:k<n):qcN w ⟨g,k,none⟩ (pix L k)/\g<w.heap.size:=by
 obtain⟨_,e,hl,hc⟩:=h.cells k hk
 cases e
 rw[Addr.add_lit,Nat.zero_add,Nat.mul_one]at hc
 exact⟨hc,hl⟩
theorem qdK {w:World}{g n c:Nat}{L:List BxQ}(h:RdS 12 qcJ w (some ⟨g,0,none⟩) n c L) {k:Nat}(hk:k<n):qcJ w ⟨g,k*12,none⟩ (pix L k)/\g<w.heap.size:=by
 obtain⟨_,e,hl,hc⟩:=h.cells k hk
 cases e
 rw[Addr.add_lit,Nat.zero_add]at hc
 exact⟨hc,hl⟩
def Nin (v:Value) (bs:List Nat):Prop:=∀g,v.ownBlock=Option.some g->g∉bs
theorem J3 (v:Value):uP (Nin v) :=
 ⟨λg _ hm=>by simp at hm,λa b h k _ g e hm=>by
  rcases List.mem_append.1 hm with hm|hm
  ·exact h g e hm
  ·exact k g e hm⟩
abbrev qcP (N:List Nat->Prop) (lo hi:Nat) (w:World) (v:Value) (L:List (List PtD)):Prop:=qO N 46 1 PsE lo hi w v L
abbrev qcG (N:List Nat->Prop) (lo hi:Nat) (w:World) (v:Value) (L:List BxQ):Prop:=qO N 204 12 BxE lo hi w v L
section
variable {N:List Nat->Prop}{lo hi:Nat}{w W:World}{v:Value}
theorem qcP.rd {L:List (List PtD)}(h:qcP N lo hi w v L) (hl:L.length<=1048576):∃A c,v=.slice A L.length c/\RdS 1 qcN w A L.length c L/\(L.length=0\/∃g,A=some ⟨g,0,none⟩):=by
 obtain⟨cells,fs,r1,r2,r3,r4,r5,r6,r7⟩:=h
 rcases r1.2 with ⟨rfl,h0⟩ |⟨g,cap,cur,rfl,hg,hh,hn,hcap,hcs,ht⟩
 ·have:L=[]:=List.length_eq_zero_iff.1 h0
  subst this
  exact⟨none,0,rfl,RdS.nil _ _ _,.inl rfl⟩
 ·refine⟨_,cap,rfl,⟨rfl,hn,by omega,λk hk=>⟨_,rfl,qV hh,?_⟩⟩,.inr ⟨_,rfl⟩⟩
  obtain⟨A,n,c,h0,h1⟩:=r4 k hk
  refine⟨A,n,c,?_,h1 w (Nat.le_refl _) λ_ _=>rfl⟩
  rw[Nat.mul_one,Addr.add_lit,Nat.zero_add]
  rw[Nat.mul_one]at h0
  refine(show World.cell? w ⟨g,k,none⟩=cur[k]? from Blk.cell (T:=46) hh k).trans ?_
  rw[<-h0,<-ht]
  simp[hk]
theorem qcG.rd {L:List BxQ}(h:qcG N lo hi w v L) (hl:L.length<=1048576):∃A c,v=.slice A L.length c/\RdS 12 qcJ w A L.length c L/\(L.length=0\/∃g,A=some ⟨g,0,none⟩):=by
 obtain⟨cells,fs,r1,r2,r3,r4,r5,r6,r7⟩:=h
 rcases r1.2 with ⟨rfl,h0⟩ |⟨g,cap,cur,rfl,hg,hh,hn,hcap,hcs,ht⟩
 ·have:L=[]:=List.length_eq_zero_iff.1 h0
  subst this
  exact⟨none,0,rfl,RdS.nil _ _ _,.inl rfl⟩
 ·refine⟨_,cap,rfl,⟨rfl,hn,by omega,λk hk=>⟨_,rfl,qV hh,?_⟩⟩,.inr ⟨_,rfl⟩⟩
  obtain⟨u0,u1,u2,u3,u4,u5,u6,u7,u8,u9,u10,u11,⟨h0,h1,h2,h3,h4,h5,h6,h7,h8,h9,h10,h11⟩,hr⟩:=r4 k hk
  have hc:∀j,j<12->World.cell? w ⟨g,k*12+j,none⟩=cells.toArray[k*12+j]?:=λj hj=>by
   refine(show World.cell? w ⟨g,k*12+j,none⟩=cur[k*12+j]? from Blk.cell (T:=204) hh _).trans ?_
   rw[<-ht]
   have:k*12+j<L.length*12:=by omega
   simp[this]
  rw[Addr.add_lit,Nat.zero_add]
  exact⟨u0,u1,u2,u3,u4,u5,u6,u7,u8,u9,u10,u11,⟨(hc 0 (by omega)).trans h0,(hc 1 (by omega)).trans h1,(hc 2 (by omega)).trans h2,(hc 3 (by omega)).trans h3,(hc 4 (by omega)).trans h4,(hc 5 (by omega)).trans h5,(hc 6 (by omega)).trans h6,(hc 7 (by omega)).trans h7,(hc 8 (by omega)).trans h8,(hc 9 (by omega)).trans h9,(hc 10 (by omega)).trans h10,(hc 11 (by omega)).trans h11⟩,hr w (Nat.le_refl _) λ_ _=>rfl⟩
end
def AB (lo hi:Nat) (w:World) (va vb:Value) (L:List (List PtD)) (B:List BxQ):Prop :=
 qcP (Nin vb) lo hi w va L/\qcG (Nin va) lo hi w vb B/\∀g,va.ownBlock=Option.some g->vb.ownBlock≠Option.some g
section
variable {lo hi hi':Nat}{w W:World}{va vb:Value}{L:List (List PtD)}{B:List BxQ}
theorem AB.start (w:World) (h:lo<=w.heap.size):AB lo (w.heap.size+1+1) ((w.alloc (.cells #[] 46)).alloc (.cells #[] 204)) (.slice (some ⟨w.heap.size,0,none⟩) 0 0) (.slice (some ⟨w.heap.size+1,0,none⟩) 0 0) [] []:=by
 have e:(w.alloc (.cells #[] 46)).heap.size=w.heap.size+1:=by simp
 refine⟨?_,?_,?_⟩
 ·exact(qO.bl JV (qO.empty (J3 _) w h) ((Bl.refl _).alloc _)).up (by omega) (by simp)
 ·have h1:=qO.empty (α:=BxQ) (N:=Nin (.slice (some ⟨w.heap.size,0,none⟩) 0 0)) (TP:=204) (size:=12) (lo:=lo) (El:=BxE) (J3 _) (w.alloc (.cells #[] 46)) (by rw[e];omega)
  rw[e]at h1
  exact h1
 ·intro g e e2
  have a:w.heap.size=g:=by injection e
  have b:w.heap.size+1=g:=by injection e2
  omega
theorem AB.bl (h:AB lo hi w va vb L B) (hb:Bl w W):AB lo hi W va vb L B:=⟨qO.bl JV h.1 hb,qO.bl Vy h.2.1 hb,h.2.2⟩
theorem AB.hiLe (h:AB lo hi w va vb L B):hi<=w.heap.size:=qO.hiLe h.1
end
theorem qbW:(Tryz.prog.info? 46).map (λi=>(i.zero,i.size,i.bytes))=some (some (.slice none 0 0),1,24):=by kernel_rfl
theorem yV {b0 z b:Nat}:b∈List.range' b0 (z-b0)->b0<=b/\b<z:=by
 intro h
 have:=List.mem_range'_1.1 h
 omega
theorem uU {b0 z b:Nat}(h1:b0<=b) (h2:b<z):b∈List.range' b0 (z-b0):=List.mem_range'_1.2 ⟨h1,by omega⟩
theorem Jj {W:World}{va vb:Value}{L:List (List PtD)}{B:List BxQ}{g n c:Nat}{l:List PtD}{lo hi b0:Nat}{ops:Array Oper}{rest:List Oper}{o:Oper}{a:Act}{Q:Exit->Act->World->Prop}(hgd:o.guard=none) (s1 x1:Operand)
  (ho:o.op=.call { callee:=.builtin .append,args:=#[s1,x1],argTypes:=#[201,201] }) (hs:a.eval s1=va) (hab:AB lo hi W va vb L B)
  (hf:vd b0 W (some ⟨g,0,none⟩) n c l) (hb0:hi<=b0) (hlh:lo<=hi) (c1:Nat) (hx:a.eval x1=.slice (some ⟨W.heap.size,0,none⟩) 1 c1) (hlen:L.length<=1048576) (w0:World) (hb:Bl w0 W) (h0:w0.heap.size<=lo)
  (h:∀va' w',qcP (Nin vb) lo w'.heap.size w' va' (L++[l])->qcG (Nin va') lo hi w' vb B->(∀g,va'.ownBlock=Option.some g->vb.ownBlock≠Option.some g)->Bl w0 w'->W.heap.size<=w'.heap.size->(∀b,hi<=b->b<W.heap.size->w'.heap[b]?=W.heap[b]?/\va'.ownBlock≠Option.some b)->wpList Tryz.prog ops Q rest (a.put o.dst va') w'):wpList Tryz.prog ops Q (o::rest) a (W.alloc (.cells #[.slice (some ⟨g,0,none⟩) n c] 46)):=by
 obtain⟨hA,hB,hd⟩:=hab
 refine zF (J3 vb) JV qbW (by rfl) (by omega) (by omega) Tryz.underlying201 hgd s1 x1 ho va hs hA (p:=l) (bs:=List.range' b0 (W.heap.size-b0)) ⟨g,n,c,rfl,λX hX hk=>hf.2 X hX λb h1 h2=>hk b (uU h1 h2)⟩ rfl (by simp[Value.oneCell']) (λb hm=>⟨Nat.le_trans hb0 (yV hm).1,(yV hm).2⟩) (λg e hm=>by have:=(qO.lo hB e).2;have:=(yV hm).1;omega) hlh c1 hx hlen w0 hb h0 ?_
 intro v' w' g1 g2 _ g4
 refine h v' w' g1 ?_ (λg e e2=>(g4.2 g (Nat.lt_of_lt_of_le (qO.lo hB e2).2 (qO.hiLe hB)) λe3=>hd g e3 e2).2 e) g2 g4.1 λb h1 h2=>g4.2 b h2 λe=>by have:=(qO.lo hA e).2;omega
 have hz:=qO.hiLe hB
 exact qO.keepX Vy hB g4.1 (λg e=>(g4.2 g (Nat.lt_of_lt_of_le (qO.lo hB e).2 hz) λe2=>hd g e2 e).1) λbs hn hbs=>⟨λb hm=>(g4.2 b (Nat.lt_of_lt_of_le (hbs b hm).2 hz) λe=>hn b e hm).1,λg e hm=>(g4.2 g (Nat.lt_of_lt_of_le (hbs g hm).2 hz) λe2=>hn g e2 hm).2 e⟩
theorem RdV.ones {w:World}{v0 v1 v2:Value}{r:qH}(h:RdV w v0 v1 v2 r):v0.oneCell'=true/\v1.oneCell'=true/\v2.oneCell'=true:=by
 obtain⟨s,A,n,c,B,m,d,rfl,rfl,rfl,h⟩:=h
 exact⟨rfl,rfl,rfl⟩
theorem qcs:(Tryz.prog.info? 204).map (λi=>(i.zero,i.size,i.bytes))=some (some (.agg #[.bool false,.slice none 0 0,.slice none 0 0,.bool false,.slice none 0 0,.slice none 0 0,.bool false,.slice none 0 0,.slice none 0 0,.bool false,.slice none 0 0,.slice none 0 0]),12,224):=by kernel_rfl
theorem Jc {W:World}{va vb:Value}{L:List (List PtD)}{B:List BxQ}{u0 u1 u2 u3 u4 u5 u6 u7 u8 u9 u10 u11:Value}{x:BxQ}{lo hi hiA b0 z:Nat}{ops:Array Oper}{rest:List Oper}{o:Oper}{a:Act}{Q:Exit->Act->World->Prop}(hgd:o.guard=none) (s1 x1:Operand)
  (ho:o.op=.call { callee:=.builtin .append,args:=#[s1,x1],argTypes:=#[202,202] }) (hs:a.eval s1=vb) (hA:qcP (Nin vb) lo hiA W va L) (hB:qcG (Nin va) lo hi W vb B) (hd:∀g,va.ownBlock=Option.some g->vb.ownBlock≠Option.some g)
  (hf:∀X:World,W.heap.size<=X.heap.size->(∀b,b0<=b->b<z->X.heap[b]?=W.heap[b]?)->RdV X u0 u1 u2 (toR x.l)/\RdV X u3 u4 u5 (toR x.r)/\RdV X u6 u7 u8 (toR x.lo)/\RdV X u9 u10 u11 (toR x.hi)) (hz:z<=W.heap.size) (hva:∀b,b0<=b->b<z->va.ownBlock≠Option.some b) (hb0:hi<=b0) (hlh:lo<=hi) (c1:Nat) (hx:a.eval x1=.slice (some ⟨W.heap.size,0,none⟩) 1 c1) (hlen:B.length<=1048576) (w0:World) (hb:Bl w0 W) (h0:w0.heap.size<=lo)
  (h:∀vb' w',AB lo w'.heap.size w' va vb' L (B++[x])->Bl w0 w'->W.heap.size<=w'.heap.size->wpList Tryz.prog ops Q rest (a.put o.dst vb') w'):wpList Tryz.prog ops Q (o::rest) a (W.alloc (.cells #[u0,u1,u2,u3,u4,u5,u6,u7,u8,u9,u10,u11] 204)):=by
 obtain⟨o0,o1,o2,o3⟩:=hf W (Nat.le_refl _) λ_ _ _=>rfl
 obtain⟨p0,p1,p2⟩:=o0.ones
 obtain⟨p3,p4,p5⟩:=o1.ones
 obtain⟨p6,p7,p8⟩:=o2.ones
 obtain⟨p9,p10,p11⟩:=o3.ones
 have hzB:=qO.hiLe hB
 have hzA:=qO.hiLe hA
 refine zF (J3 va) Vy qcs (by rfl) (by omega) (by omega) Tryz.underlying202 hgd s1 x1 ho vb hs hB (p:=x) (bs:=List.range' b0 (z-b0)) ⟨u0,u1,u2,u3,u4,u5,u6,u7,u8,u9,u10,u11,⟨rfl,rfl,rfl,rfl,rfl,rfl,rfl,rfl,rfl,rfl,rfl,rfl⟩,λX hX hk=>hf X hX λb h1 h2=>hk b (uU h1 h2)⟩ rfl (by simp[p0,p1,p2,p3,p4,p5,p6,p7,p8,p9,p10,p11]) (λb hm=>⟨Nat.le_trans hb0 (yV hm).1,Nat.lt_of_lt_of_le (yV hm).2 hz⟩) (λg e hm=>hva g (yV hm).1 (yV hm).2 e) hlh c1 hx hlen w0 hb h0 ?_
 intro v' w' g1 g2 _ g4
 refine h v' w' ⟨(qO.keepX JV hA g4.1 (λg e=>(g4.2 g (Nat.lt_of_lt_of_le (qO.lo hA e).2 hzA) λe2=>hd g e e2).1) λbs hn hbs=>⟨λb hm=>(g4.2 b (Nat.lt_of_lt_of_le (hbs b hm).2 hzA) λe=>hn b e hm).1,λg e hm=>(g4.2 g (Nat.lt_of_lt_of_le (hbs g hm).2 hzA) λe2=>hn g e2 hm).2 e⟩).up (Nat.le_trans hzA g4.1) (Nat.le_refl _),g1,λg e=>(g4.2 g (Nat.lt_of_lt_of_le (qO.lo hA e).2 hzA) λe2=>hd g e e2).2⟩ g2 g4.1
def FrF (b0:Nat) (w:World) (s:Bool) (A:Option Addr) (n c:Nat) (B:Option Addr) (m d:Nat) (r:qH):Prop :=
 ∀X:World,w.heap.size<=X.heap.size->(∀b,b0<=b->b<w.heap.size->X.heap[b]?=w.heap[b]?)->RdR X s A n c B m d r
theorem kN {w X:World}{g:Nat}(h:X.heap[g]?=w.heap[g]?) {p:Addr}(hp:p.block=g):X.cell? p=w.cell? p:=by
 subst hp
 unfold World.cell?
 rw[h]
theorem vd.phi {b0:Nat}{w:World}{A:Option Addr}{n c:Nat}{l:List PtD}(h:vd b0 w A n c l):RdS 6 (PtW (FrF b0 w)) w A n c l:=by
 have hr:=h.rd
 refine⟨hr.len,hr.cap,hr.small,λk hk=>?_⟩
 obtain⟨ad,e,hlt,s,A1,n1,c1,B1,m1,d1,t,C1,i1,e1,D1,j1,f1,⟨x0,x1,x2,x3,x4,x5⟩,hX,hY⟩:=hr.cells k hk
 obtain⟨g,e2,hg,hgs⟩:∃ g,A=some ⟨g,0,none⟩/\b0<=g/\g < w.heap.size:=by
  rcases h.1 with h|h
  ·omega
  ·exact h
 subst e
 injection e2 with e2
 subst e2
 have key:∀ X:World,w.heap.size<=X.heap.size->(∀ b,b0<=b->b < w.heap.size->X.heap[b]?=w.heap[b]?)->RdR X s A1 n1 c1 B1 m1 d1 (pix l k).x/\RdR X t C1 i1 e1 D1 j1 f1 (pix l k).y:=by
  intro X hs hb
  obtain⟨ad',e',_,s',A',n',c',B',m',d',t',C',i',e'',D',j',f',⟨y0,y1,y2,y3,y4,y5⟩,hX',hY'⟩:=(h.2 X hs hb).cells k hk
  injection e' with e'
  subst e'
  have hbl:∀q:Addr,q.block=g->X.cell? q=w.cell? q:=λq hq=>kN (hb g hg hgs) hq
  rw[hbl _ (by rw[qQ]),x0]at y0
  rw[hbl _ (by rw[qQ]),x1]at y1
  rw[hbl _ (by rw[qQ]),x2]at y2
  rw[hbl _ (by rw[qQ]),x3]at y3
  rw[hbl _ (by rw[qQ]),x4]at y4
  rw[hbl _ (by rw[qQ]),x5]at y5
  cases y0
  cases y1
  cases y2
  cases y3
  cases y4
  cases y5
  exact⟨hX',hY'⟩
 exact⟨_,rfl,hlt,s,A1,n1,c1,B1,m1,d1,t,C1,i1,e1,D1,j1,f1,⟨x0,x1,x2,x3,x4,x5⟩,⟨hX,λX hs hb=>(key X hs hb).1⟩,⟨hY,λX hs hb=>(key X hs hb).2⟩⟩
theorem qcW {p q:Rat × Rat}(h:tp p=tp q):p=q:=by
 have h1:=VA (congrArg PtD.x h)
 have h2:=VA (congrArg PtD.y h)
 exact Prod.ext h1 h2
theorem qaQ (w:World) (a b c:Int):RdI (w.alloc (.cells #[.int .i64 a,.int .i64 b,.int .i64 c] 3)) (some ⟨w.heap.size,0,none⟩) 3 3 [a,b,c] :=
 Ow.rd (T:=3) (l:=[a,b,c]) (Blk.new w 3 #[.int .i64 a,.int .i64 b,.int .i64 c]) (by simp) (by simp)
theorem U2 (w:World) {A:Option Addr}{n c:Nat}{l:List Int}(h:RdI w A n c l) {x:Int}(hx:x∈l) :
  Calls Tryz.prog 245 #[.slice A n c,.int .i64 x] w λe w'=>e=.returned (.bool true)/\Bl w w':=by
 have hn:=h.small
 have hl:=Lib.hid h.len
 have hxH:=Lib.hid hx
 clear hx
 go_enter Tryz.func245,Tryz.ntmps245
 go_wp2_with fail
 go_loopw [9] (λi wr=>∃k:Nat,k<=n/\i=.int .i64 (k:Int)/\Hid (∀j,j<k->ix l j≠x)/\Bl w wr) (λi _=>n-(intOf i).toNat)
 case atStart=>exact⟨0,Nat.zero_le _,rfl,Lib.hid (λj hj=>by omega),Bl.refl _⟩
 case round=>
  obtain⟨k,hk,rfl,hin,hbw⟩:=hrel
  by_cases hkn:k<n
  ·have hki:(k:Int)<(n:Int):=by omega
   obtain⟨ad,rfl,hlt,hc⟩:=(RdI.bl h hbw).at_ hkn
   by_cases ho:ix l k=x
   ·have hb:(ix l k == x)=true:=by simpa using ho
    clear ho hin
    go_wp2_with fail
    go_ret
    exact⟨rfl,slc⟩
   ·have hb:(ix l k == x)=false:=by simpa using ho
    have hin2:=Lib.hid (show ∀j,j<k+1->ix l j≠x from λj hj=>by
     rcases Nat.lt_succ_iff_lt_or_eq.1 hj with hj|rfl
     ·exact hin.out j hj
     ·exact ho)
    clear ho hin
    go_wp2_with fail
    go_roundw
    case rel=>exact⟨k+1,by omega,by go_num,hin2,hbw⟩
    case measure=>simp[intOf];omega
  ·obtain⟨i,hi,e⟩:=List.getElem_of_mem hxH.out
   exact absurd (show ix l i=x by simp[ix,hi,e]) (hin.out i (by rw[hl.out]at hi;omega))
def usL (ts:List qC) (k:Nat):List Int:=(List.range k).flatMap λi=>[(pix ts i).a,(pix ts i).b,(pix ts i).c]
theorem uH (ts:List qC) (k:Nat):usL ts (k+1)=usL ts k++[(pix ts k).a,(pix ts k).b,(pix ts k).c]:=by
 unfold usL
 rw[List.range_succ,List.flatMap_append]
 simp
theorem kR (ts:List qC):∀k,(usL ts k).length=3*k
 | 0=>rfl
 | k+1=>by
  rw[uH,List.length_append,kR ts k]
  simp
  omega
theorem qcy {ts:List qC}{i n:Nat}{x:Int}(hi:i<n) (h:(pix ts i).a=x\/(pix ts i).b=x\/(pix ts i).c=x):x∈usL ts n:=by
 unfold usL
 rw[List.mem_flatMap]
 refine⟨i,List.mem_range.2 hi,?_⟩
 rcases h with h|h|h <;> simp[h]
theorem Vd (w:World) {gp n cp gt m ct:Nat}{mq:MeQ}(hp:qR w (some ⟨gp,0,none⟩) n cp (mq.pts.map tp)) (ht:zx w (some ⟨gt,0,none⟩) m ct mq.tris) (hf:KY mq) :
  Calls Tryz.prog 209 #[.agg #[.slice (some ⟨gp,0,none⟩) n cp,.slice (some ⟨gt,0,none⟩) m ct]] w λe w'=>e=.returned (.bool true)/\Bl w w':=by
 have hn:=Lib.hid (show mq.pts.length=n by rw[<-hp.len,List.length_map])
 have hm:=Lib.hid ht.len
 have hm48:m<=48:=by rw[<-ht.len];exact hf.ok.t48
 have hn3:3<=n:=by rw[<-hn.out];exact hf.ok.n3
 have hn40:n<=40:=by rw[<-hn.out];exact hf.ok.n40
 have hcp:=hp.cap
 have hfH:=Lib.hid hf
 clear hf
 go_enter Tryz.func209,Tryz.ntmps209
 go_upto_region 1 with (fail)
 refine qe (λW=>Bl w W/\∃g1,Blk W g1 49 #[.slice (some ⟨gp,0,none⟩) n cp,.slice (some ⟨gt,0,none⟩) m ct]/\g1=w.heap.size) ⟨slc,_,by exact bts,rfl⟩ ?_
 rintro W ⟨hbW,g1,h1,hg1⟩
 rw[<-hg1]
 clear hg1
 have hp:=qR.bl hp hbW
 have ht:=zx.bl ht hbW
 go_upto_region 2 with (fail)
 refine qe (λW3=>Bl W W3/\∃v c,OwL 3 W.heap.size W3 v (usL mq.tris 0)/\v=.slice (some ⟨W.heap.size,0,none⟩) 0 c/\c=0) ⟨by exact slc,_,0,OwL.empty W (Nat.le_refl _) (by decide),rfl,rfl⟩ ?_
 rintro W3 ⟨hb0,v0,c0,hX,hv0,rfl⟩
 rw[<-hv0]
 clear hv0
 obtain⟨r0,r1⟩:=bx2 (h1.bl hb0)
 go_wp2_with fail
 clear r0 r1
 go_loopw [3,14] (λs v wr=>∃(i:Nat) (o:Value),i<=m/\v=.int .i64 (i:Int)/\o=s/\OwL 3 W.heap.size wr o (usL mq.tris i)/\Bl W wr) (λ_ v _=>m-(intOf v).toNat)
 case atStart=>exact⟨0,v0,by omega,rfl,rfl,hX,hb0⟩
 case round=>
  clear hX hb0
  obtain⟨i,o,hi,rfl,rfl,hX,hbi⟩:=hrel
  obtain⟨wj,rfl⟩:∃wj:World,wj=wr:=⟨_,rfl⟩
  have hSl:=Lib.hid (kR mq.tris i)
  by_cases hin:i<m
  ·have hii:(i:Int)<(m:Int):=by omega
   obtain⟨y0,y1,y2,y3,y4⟩:=jO (zx.bl ht hbi) hin
   have hS2:=uH mq.tris i
   obtain⟨t,ht_⟩:∃t,pix mq.tris i=t:=⟨_,rfl⟩
   rw[ht_]at y0 y1 y2 y3 y4 hS2
   have hS2:=Lib.hid hS2
   clear ht_
   go_upto_region 5 with (fail)
   refine qe (λX=>Bl wj X/\Blk X wj.heap.size 83 #[.int .i64 t.a,.int .i64 t.b,.int .i64 t.c,.int .i64 t.region,.int .i64 t.level]) ⟨slc,by exact bts⟩ ?_
   rintro X ⟨hbq,h7⟩
   have hX:=hX.bl hbq
   have hbX:=hbi.next hbq
   clear y0 y1 y2 y3 y4
   obtain⟨z0,z1,z2,z3,z4⟩:=bx5 h7
   go_wp2_with ((refine qK (w0:=W) qn Tryz.underlying22 rfl (.tmp 18) (.tmp 25) rfl _ (usL mq.tris i) (by rfl) (hX.alloc _) (hbX.alloc _) (some ⟨X.heap.size,0,none⟩) 3 3 (by rfl) [t.a,t.b,t.c] (qaQ X t.a t.b t.c) (by rw[hSl.out];omega) (by omega) ?_);intro vx7 w7 hX7 hb7)
   rw[<-hS2.out]at hX7
   go_roundw
   case rel=>exact⟨i+1,vx7,by omega,by go_num,rfl,hX7,hb7⟩
   case measure=>simp[intOf];omega
  ·obtain rfl:m=i:=by omega
   have hkm3:¬(m:Int)<(m:Int):=by omega
   obtain⟨B,c,rfl,hR⟩:=hX.own (by rw[hSl.out];omega)
   have hRd:=hR.rd
   have h1:=h1.bl hbi
   have hp:=qR.bl hp hbi
   have hbw:=hbW.next hbi
   clear hX hR
   obtain⟨r0,r1⟩:=bx2 h1
   go_wp2_with fail
   clear r0 r1
   go_loopw [31] (λsi wr=>∃k:Nat,k<=n/\si=.int .i64 (k:Int)/\Bl wj wr) (λsi _=>n-(intOf si).toNat)
   case atStart=>exact⟨0,by omega,rfl,Bl.refl _⟩
   case round=>
    obtain⟨k,hk,rfl,hbk⟩:=hrel
    obtain⟨wk,rfl⟩:∃wk:World,wk=wr:=⟨_,rfl⟩
    by_cases hkn:k<n
    ·have hki:(k:Int)<(n:Int):=by omega
     obtain⟨s7,A7,n7,c7,B7,m7,d7,t7,C7,i7,e7,D7,j7,f7,⟨y0,y1,y2,y3,y4,y5⟩,hX,hY⟩:=zC (qR.bl hp hbk) hkn
     have hpx:pix (mq.pts.map tp) k=tp (pix mq.pts k):=zv (by rw[hn.out];exact hkn)
     rw[hpx]at hX hY
     have hsm:=hfH.out.sm k (by rw[hn.out];exact hkn)
     have hok:OkP (tp (pix mq.pts k)):=⟨(hsm.1.fit (by decide)).ok,(hsm.2.fit (by decide)).ok⟩
     have hmem:=Lib.hid (show (k:Int)∈usL mq.tris m from by
      obtain⟨j,hj,h⟩:=hfH.out.ok.used k (by rw[hn.out];exact hkn)
      exact qcy (by rw[<-hm.out];exact hj) h)
     clear hpx
     go_upto_region 10 with (fail)
     refine qe (λX=>Bl wk X/\∃g7,Blk X g7 28 #[.bool s7,.slice A7 n7 c7,.slice B7 m7 d7,.bool t7,.slice C7 i7 e7,.slice D7 j7 f7]/\g7=wk.heap.size) ⟨slc,_,by exact bts,rfl⟩ ?_
     rintro X ⟨hbX,g7,h7,hg7⟩
     rw[<-hg7]
     have hbkX:=hbk.next hbX
     clear y0 y1 y2 y3 y4 y5 hg7
     obtain⟨x0,x1,x2,x3,x4,x5⟩:=bx6 h7
     go_wp2_with fail
     refine(qN _ (hX.bl hbX) (hY.bl hbX) hok).mono ?_
     rintro e w6 ⟨rfl,hb6⟩
     go_wp2_with fail
     refine(U2 _ (RdI.bl hRd (hbkX.next hb6)) hmem.out).mono ?_
     rintro e w7 ⟨rfl,hb7⟩
     have hb67:=hb6.next hb7
     have h7:=h7.bl hb67
     have hbk7:=hbkX.next hb67
     have hbX7:=hbX.next hb67
     clear x0 x1 x2 x3 x4 x5 hb6 hb7 hb67
     obtain⟨r0,r1⟩:=bx2 (h1.bl hbk7)
     have hkc:k<=cp:=by omega
     have hkl:(k:Int)<=(n:Int):=by omega
     have hkc2:(k:Int)<=(cp:Int):=by omega
     go_wp2_with fail
     clear r0 r1
     go_loopw [50] (λsj wr2=>∃j:Nat,j<=k/\sj=.int .i64 (j:Int)/\Bl w7 wr2) (λsj _=>k-(intOf sj).toNat)
     case atStart=>exact⟨0,by omega,rfl,Bl.refl _⟩
     case round=>
      obtain⟨j,hj,rfl,hbj⟩:=hrel
      obtain⟨wz,rfl⟩:∃wz:World,wz=wr:=⟨_,rfl⟩
      by_cases hjk:j<k
      ·have hji:(j:Int)<(k:Int):=by omega
       have hjn:j<n:=by omega
       obtain⟨s8,A8,n8,c8,B8,m8,d8,t8,C8,i8,e8,D8,j8,f8,⟨y0,y1,y2,y3,y4,y5⟩,hX2,hY2⟩:=zC (qR.bl hp (hbk7.next hbj)) hjn
       rw[zv (by rw[hn.out];exact hjn)]at hX2 hY2
       have hne:=Lib.hid (show eqP (tp (pix mq.pts k)) (tp (pix mq.pts j))=false from Ke (λe=>hfH.out.ok.diff k (by rw[hn.out];exact hkn) j hjk (qcW e)))
       go_upto_region 15 with (fail)
       refine qe (λX=>Bl wz X/\∃g9,Blk X g9 28 #[.bool s8,.slice A8 n8 c8,.slice B8 m8 d8,.bool t8,.slice C8 i8 e8,.slice D8 j8 f8]/\g9=wz.heap.size) ⟨slc,_,by exact bts,rfl⟩ ?_
       rintro X2 ⟨hbX2,g9,h9,hg9⟩
       rw[<-hg9]
       clear y0 y1 y2 y3 y4 y5 hg9
       obtain⟨x0,x1,x2,x3,x4,x5⟩:=bx6 (h7.bl (hbj.next hbX2))
       obtain⟨z0,z1,z2,z3,z4,z5⟩:=bx6 h9
       go_wp2_with fail
       refine(YS _ (hX.bl ((hbX7.next hbj).next hbX2)) (hY.bl ((hbX7.next hbj).next hbX2)) (hX2.bl hbX2) (hY2.bl hbX2)).mono ?_
       rw[hne.out]
       rintro e w8 ⟨rfl,hb8⟩
       go_wp2_with fail
       go_roundw
       case rel=>exact⟨j+1,by omega,by go_num,hbj.next (hbX2.next hb8)⟩
       case measure=>simp[intOf];omega
      ·obtain rfl:k=j:=by omega
       have hkm4:¬(k:Int)<(k:Int):=by omega
       go_wp2_with fail
       go_roundw
       case rel=>exact⟨k+1,by omega,by go_num,hbk7.next hbj⟩
       case measure=>simp[intOf];omega
    ·obtain rfl:n=k:=by omega
     have hkm4:¬(n:Int)<(n:Int):=by omega
     obtain⟨r0,r1⟩:=bx2 (h1.bl hbk)
     go_wp2_with fail
     refine(jn _ _ _ _).mono ?_
     rintro e w9 ⟨rfl,q9,hq9⟩
     have hb9:Bl wk w9:=by rw[hq9];exact(Bl.refl wk).drewN q9
     clear hq9
     go_wp2_with fail
     go_ret
     exact⟨by show Ending.returned (Value.bool (decide ((3:Int)<=(n:Int))&&decide ((n:Int)<=40)))=_;rw[decide_eq_true (by omega),decide_eq_true (by omega)];rfl,hbw.next (hbk.next hb9)⟩
def kc (a b:BxQ):Bool:=decide (a.r<=b.l)||(decide (b.r<=a.l)||(decide (a.hi<=b.lo)||decide (b.hi<=a.lo)))
theorem vF (w:World) {u0 u1 u2 u3 u4 u5 u6 u7 u8 u9 u10 u11 v0 v1 v2 v3 v4 v5 v6 v7 v8 v9 v10 v11:Value}{a b:BxQ}(ha:RdV w u0 u1 u2 (toR a.l)/\RdV w u3 u4 u5 (toR a.r)/\RdV w u6 u7 u8 (toR a.lo)/\RdV w u9 u10 u11 (toR a.hi)) (hb:RdV w v0 v1 v2 (toR b.l)/\RdV w v3 v4 v5 (toR b.r)/\RdV w v6 v7 v8 (toR b.lo)/\RdV w v9 v10 v11 (toR b.hi)) (hsa:XK a) (hsb:XK b) :
  Calls Tryz.prog 213 #[.agg #[u0,u1,u2,u3,u4,u5,u6,u7,u8,u9,u10,u11],.agg #[v0,v1,v2,v3,v4,v5,v6,v7,v8,v9,v10,v11]] w λe w'=>e=.returned (.bool (kc a b))/\Bl w w':=by
 obtain⟨⟨sa0,Aa0,na0,ca0,Ba0,ma0,da0,e00,e01,e02,hRa0⟩,⟨sa1,Aa1,na1,ca1,Ba1,ma1,da1,e10,e11,e12,hRa1⟩,⟨sa2,Aa2,na2,ca2,Ba2,ma2,da2,e20,e21,e22,hRa2⟩,⟨sa3,Aa3,na3,ca3,Ba3,ma3,da3,e30,e31,e32,hRa3⟩⟩:=ha
 subst e00 e01 e02 e10 e11 e12 e20 e21 e22 e30 e31 e32
 obtain⟨⟨sb0,Ab0,nb0,cb0,Bb0,mb0,db0,e00,e01,e02,hRb0⟩,⟨sb1,Ab1,nb1,cb1,Bb1,mb1,db1,e10,e11,e12,hRb1⟩,⟨sb2,Ab2,nb2,cb2,Bb2,mb2,db2,e20,e21,e22,hRb2⟩,⟨sb3,Ab3,nb3,cb3,Bb3,mb3,db3,e30,e31,e32,hRb3⟩⟩:=hb
 subst e00 e01 e02 e10 e11 e12 e20 e21 e22 e30 e31 e32
 go_enter Tryz.func213,Tryz.ntmps213
 go_upto_region 1 with (fail)
 refine qe (λW=>Bl w W/\∃g2 g3,Blk W g2 204 #[.bool sa0,.slice Aa0 na0 ca0,.slice Ba0 ma0 da0,.bool sa1,.slice Aa1 na1 ca1,.slice Ba1 ma1 da1,.bool sa2,.slice Aa2 na2 ca2,.slice Ba2 ma2 da2,.bool sa3,.slice Aa3 na3 ca3,.slice Ba3 ma3 da3]/\Blk W g3 204 #[.bool sb0,.slice Ab0 nb0 cb0,.slice Bb0 mb0 db0,.bool sb1,.slice Ab1 nb1 cb1,.slice Bb1 mb1 db1,.bool sb2,.slice Ab2 nb2 cb2,.slice Bb2 mb2 db2,.bool sb3,.slice Ab3 nb3 cb3,.slice Bb3 mb3 db3]/\g2=w.heap.size/\g3=w.heap.size+1) ⟨slc,_,_,by exact bts,by exact bts,rfl,rfl⟩ ?_
 rintro W ⟨hbw,g2,g3,hx,hy,hg2,hg3⟩
 rw[<-hg3,<-hg2]
 clear hg2 hg3
 obtain⟨x0,x1,x2,x3,x4,x5,x6,x7,x8,x9,x10,x11⟩:=yO hx
 obtain⟨y0,y1,y2,y3,y4,y5,y6,y7,y8,y9,y10,y11⟩:=yO hy
 have hco:=Lib.hid (Qj (p:=a.r) (q:=b.l) hsa.1.2 hsb.1.1)
 by_cases c0:a.r<=b.l
 ·obtain⟨z,hz,hz2⟩:∃z,JL (toR a.r) (toR b.l)=z/\z<=0:=⟨_,rfl,by rw[hco.out.2];split <;> (try split) <;> first|omega |(exfalso;grind)⟩
  have hz:=Lib.hid hz
  have hs:=Lib.hid (show kc a b=true by unfold kc;rw[decide_eq_true c0];simp)
  clear c0
  go_wp2_with fail
  refine(qz _ (hRa1.bl hbw) (hRb0.bl hbw) hco.out.1).mono ?_
  rw[hz.out]
  rintro e w2 ⟨rfl,hb_⟩
  have hx:=hx.bl hb_
  have hy:=hy.bl hb_
  have hbw:=hbw.next hb_
  obtain⟨x0,x1,x2,x3,x4,x5,x6,x7,x8,x9,x10,x11⟩:=yO hx
  obtain⟨y0,y1,y2,y3,y4,y5,y6,y7,y8,y9,y10,y11⟩:=yO hy
  clear hb_
  go_wp2_with fail
  go_ret
  exact⟨by rw[hs.out];rfl,slc⟩
 ·obtain⟨z0,hz,hz0⟩:∃z,JL (toR a.r) (toR b.l)=z/\¬z<=0:=⟨_,rfl,by rw[hco.out.2,if_neg (by grind),if_pos (by grind)];omega⟩
  have hz:=Lib.hid hz
  go_wp2_with fail
  refine(qz _ (hRa1.bl hbw) (hRb0.bl hbw) hco.out.1).mono ?_
  rw[hz.out]
  rintro e w2 ⟨rfl,hb_⟩
  have hx:=hx.bl hb_
  have hy:=hy.bl hb_
  have hbw:=hbw.next hb_
  obtain⟨x0,x1,x2,x3,x4,x5,x6,x7,x8,x9,x10,x11⟩:=yO hx
  obtain⟨y0,y1,y2,y3,y4,y5,y6,y7,y8,y9,y10,y11⟩:=yO hy
  clear hb_
  clear hco hz
  have hco:=Lib.hid (Qj (p:=b.r) (q:=a.l) hsb.1.2 hsa.1.1)
  by_cases c1:b.r<=a.l
  ·obtain⟨z,hz,hz2⟩:∃z,JL (toR b.r) (toR a.l)=z/\z<=0:=⟨_,rfl,by rw[hco.out.2];split <;> (try split) <;> first|omega |(exfalso;grind)⟩
   have hz:=Lib.hid hz
   have hs:=Lib.hid (show kc a b=true by unfold kc;rw[decide_eq_true c1];simp)
   clear c0 c1
   go_wp2_with fail
   refine(qz _ (hRb1.bl hbw) (hRa0.bl hbw) hco.out.1).mono ?_
   rw[hz.out]
   rintro e w3 ⟨rfl,hb_⟩
   have hx:=hx.bl hb_
   have hy:=hy.bl hb_
   have hbw:=hbw.next hb_
   obtain⟨x0,x1,x2,x3,x4,x5,x6,x7,x8,x9,x10,x11⟩:=yO hx
   obtain⟨y0,y1,y2,y3,y4,y5,y6,y7,y8,y9,y10,y11⟩:=yO hy
   clear hb_
   go_wp2_with fail
   go_ret
   exact⟨by rw[hs.out];rfl,slc⟩
  ·obtain⟨z1,hz,hz1⟩:∃z,JL (toR b.r) (toR a.l)=z/\¬z<=0:=⟨_,rfl,by rw[hco.out.2,if_neg (by grind),if_pos (by grind)];omega⟩
   have hz:=Lib.hid hz
   go_wp2_with fail
   refine(qz _ (hRb1.bl hbw) (hRa0.bl hbw) hco.out.1).mono ?_
   rw[hz.out]
   rintro e w3 ⟨rfl,hb_⟩
   have hx:=hx.bl hb_
   have hy:=hy.bl hb_
   have hbw:=hbw.next hb_
   obtain⟨x0,x1,x2,x3,x4,x5,x6,x7,x8,x9,x10,x11⟩:=yO hx
   obtain⟨y0,y1,y2,y3,y4,y5,y6,y7,y8,y9,y10,y11⟩:=yO hy
   clear hb_
   clear hco hz
   have hco:=Lib.hid (Qj (p:=a.hi) (q:=b.lo) hsa.2.2 hsb.2.1)
   by_cases c2:a.hi<=b.lo
   ·obtain⟨z,hz,hz2⟩:∃z,JL (toR a.hi) (toR b.lo)=z/\z<=0:=⟨_,rfl,by rw[hco.out.2];split <;> (try split) <;> first|omega |(exfalso;grind)⟩
    have hz:=Lib.hid hz
    have hs:=Lib.hid (show kc a b=true by unfold kc;rw[decide_eq_true c2];simp)
    clear c0 c1 c2
    go_wp2_with fail
    refine(qz _ (hRa3.bl hbw) (hRb2.bl hbw) hco.out.1).mono ?_
    rw[hz.out]
    rintro e w4 ⟨rfl,hb_⟩
    have hx:=hx.bl hb_
    have hy:=hy.bl hb_
    have hbw:=hbw.next hb_
    obtain⟨x0,x1,x2,x3,x4,x5,x6,x7,x8,x9,x10,x11⟩:=yO hx
    obtain⟨y0,y1,y2,y3,y4,y5,y6,y7,y8,y9,y10,y11⟩:=yO hy
    clear hb_
    go_wp2_with fail
    go_ret
    exact⟨by rw[hs.out];rfl,slc⟩
   ·obtain⟨z2,hz,hz2⟩:∃z,JL (toR a.hi) (toR b.lo)=z/\¬z<=0:=⟨_,rfl,by rw[hco.out.2,if_neg (by grind),if_pos (by grind)];omega⟩
    have hz:=Lib.hid hz
    go_wp2_with fail
    refine(qz _ (hRa3.bl hbw) (hRb2.bl hbw) hco.out.1).mono ?_
    rw[hz.out]
    rintro e w4 ⟨rfl,hb_⟩
    have hx:=hx.bl hb_
    have hy:=hy.bl hb_
    have hbw:=hbw.next hb_
    obtain⟨x0,x1,x2,x3,x4,x5,x6,x7,x8,x9,x10,x11⟩:=yO hx
    obtain⟨y0,y1,y2,y3,y4,y5,y6,y7,y8,y9,y10,y11⟩:=yO hy
    clear hb_
    clear hco hz
    have hco:=Lib.hid (Qj (p:=b.hi) (q:=a.lo) hsb.2.2 hsa.2.1)
    by_cases c3:b.hi<=a.lo
    ·obtain⟨z,hz,hz2⟩:∃z,JL (toR b.hi) (toR a.lo)=z/\z<=0:=⟨_,rfl,by rw[hco.out.2];split <;> (try split) <;> first|omega |(exfalso;grind)⟩
     have hz:=Lib.hid hz
     have hs:=Lib.hid (show kc a b=true by unfold kc;rw[decide_eq_true c3];simp)
     clear c0 c1 c2 c3
     go_wp2_with fail
     refine(qz _ (hRb3.bl hbw) (hRa2.bl hbw) hco.out.1).mono ?_
     rw[hz.out]
     rintro e w5 ⟨rfl,hb_⟩
     have hx:=hx.bl hb_
     have hy:=hy.bl hb_
     have hbw:=hbw.next hb_
     obtain⟨x0,x1,x2,x3,x4,x5,x6,x7,x8,x9,x10,x11⟩:=yO hx
     obtain⟨y0,y1,y2,y3,y4,y5,y6,y7,y8,y9,y10,y11⟩:=yO hy
     clear hb_
     go_wp2_with fail
     go_ret
     exact⟨by rw[hs.out];rfl,slc⟩
    ·obtain⟨z3,hz,hz3⟩:∃z,JL (toR b.hi) (toR a.lo)=z/\¬z<=0:=⟨_,rfl,by rw[hco.out.2,if_neg (by grind),if_pos (by grind)];omega⟩
     have hz:=Lib.hid hz
     have hd:decide (z3<=0)=false:=decide_eq_false hz3
     have hs:=Lib.hid (show kc a b=false by unfold kc;rw[decide_eq_false c0,decide_eq_false c1,decide_eq_false c2,decide_eq_false c3];rfl)
     go_wp2_with fail
     refine(qz _ (hRb3.bl hbw) (hRa2.bl hbw) hco.out.1).mono ?_
     rw[hz.out]
     rintro e w5 ⟨rfl,hb_⟩
     have hx:=hx.bl hb_
     have hy:=hy.bl hb_
     have hbw:=hbw.next hb_
     obtain⟨x0,x1,x2,x3,x4,x5,x6,x7,x8,x9,x10,x11⟩:=yO hx
     obtain⟨y0,y1,y2,y3,y4,y5,y6,y7,y8,y9,y10,y11⟩:=yO hy
     clear hb_
     go_wp2_with fail
     go_ret
     exact⟨by rw[hs.out];show Ending.returned (Value.bool (decide (z0<=0)||decide (z1<=0)||decide (z2<=0)))=_;rw[decide_eq_false (Int.not_le.2 hz0),decide_eq_false (Int.not_le.2 hz1),decide_eq_false (Int.not_le.2 hz2)];rfl,slc⟩
end Go.Proofs.YtjaapemopbbfaaaGreatDoor
