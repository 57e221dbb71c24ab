import Derived.Test.YtjaapemopbbfaaaGreatDoorPMeshesM30
namespace Go.Proofs.YtjaapemopbbfaaaGreatDoor
open Go.RowKit
set_option maxRecDepth 100000
set_option maxHeartbeats 32000000
theorem Blk.heap {w W:World}{g:Nat}{T:TypeId}{cs:Array Value}(h:Blk w g T cs) (e:W.heap[g]?=w.heap[g]?):Blk W g T cs:=e.trans h
theorem qdE {w:World}{g:Nat}{T:TypeId}{t:qC}(h:Blk w g T #[.int .i64 t.a,.int .i64 t.b,.int .i64 t.c,.int .i64 t.region,.int .i64 t.level]) (ht:qaJ t) {i:Nat}(hi:i<5):w.cell? ⟨g,i,none⟩=some (.int .i64 ((dx (trN t) i:Nat):Int)):=by
 obtain⟨h1,h2,h3,h4,h5⟩:=ht
 rw[h.cell i]
 rcases(show i=0\/i=1\/i=2\/i=3\/i=4 by omega)with rfl|rfl|rfl|rfl|rfl <;> simp[dx,trN] <;> omega
theorem Y9 (w:World) {gp n cp gt m ct:Nat}{L:List PtD}{ts:List qC}(hp:qR w (some ⟨gp,0,none⟩) n cp L) (ht:zx w (some ⟨gt,0,none⟩) m ct ts) (hn:n<=40) (hm:m<=48)
  (hok:∀k,k<n->OkP (pix L k)) (htr:∀k,k<m->qaJ (pix ts k)) (hE:Env w) :
  Calls Tryz.prog 61 #[.agg #[.slice (some ⟨gp,0,none⟩) n cp,.slice (some ⟨gt,0,none⟩) m ct]] w λe w'=>e=.returned (.string (sb (VV L ts)))/\Bl w w':=by
 have hlen:=Lib.hid (Uh (L:=L) (ts:=ts) (by rw[hp.len];exact hok) (by rw[ht.len];exact htr) (by rw[hp.len];exact hn) (by rw[ht.len];exact hm))
 have hLn:=Lib.hid hp.len
 have hTn:=Lib.hid ht.len
 replace hok:=Lib.hid hok
 replace htr:=Lib.hid htr
 replace hE:=Lib.hid hE
 go_enter Tryz.func61,Tryz.ntmps61
 go_upto_region 2 with (fail)
 refine qe (λW=>Bl w W/\∃g b,Blk W g 49 #[.slice (some ⟨gp,0,none⟩) n cp,.slice (some ⟨gt,0,none⟩) m ct]/\BdX b b [] [] W/\g=w.heap.size/\b=w.heap.size+1) ⟨slc,w.heap.size,(w.alloc (.cells #[.slice (some ⟨gp,0,none⟩) n cp,.slice (some ⟨gt,0,none⟩) m ct] 49)).heap.size,by exact bts,BdX.fresh (w.alloc (.cells #[.slice (some ⟨gp,0,none⟩) n cp,.slice (some ⟨gt,0,none⟩) m ct] 49)) [] (by simp),rfl,by simp⟩ ?_
 rintro W0 ⟨hb0,g,b,hg,hB,hge,hbe⟩
 rw[<-hbe,<-hge]
 have hgb:g<b:=by omega
 have hwb:w.heap.size<=b:=by omega
 clear hge hbe
 obtain⟨x0,x1⟩:=bx2 hg
 have hst:Hid (VV L ts=[]++(xT (L.drop 0)++Ym ts)):=Lib.hid rfl
 go_wp2_with fail
 clear x0 x1
 go_loopw [14] (λv wr=>∃(k:Nat) (tk:List UInt8),k<=n/\v=.int .i64 (k:Int)/\Hid (VV L ts=tk++(xT (L.drop k)++Ym ts))/\BdX b b tk [] wr/\Blk wr g 49 #[.slice (some ⟨gp,0,none⟩) n cp,.slice (some ⟨gt,0,none⟩) m ct]/\Bl w wr) (λv _=>n-(intOf v).toNat)
 case atStart=>exact⟨0,[],Nat.zero_le _,rfl,hst,hB,hg,hb0⟩
 case round=>
  clear hB hg hb0 hst
  obtain⟨k,tk,hk,rfl,he,hB,hg,hbw⟩:=hrel
  obtain⟨wo,rfl⟩:∃wo:World,wo=wr:=⟨_,rfl⟩
  have htl:tk.length<=200000:=by
   have h1:=congrArg List.length he.out
   have h2:=hlen.out
   rw[List.length_append]at h1
   omega
  have hbs:b<wo.heap.size:=hB.lt
  by_cases hkn:k<n
  ·have hki:(k:Int)<(n:Int):=by omega
   obtain⟨s1,A1,n1,c1,B1,m1,d1,t1,C1,i1,e1,D1,j1,f1,⟨z0,z1,z2,z3,z4,z5⟩,hx,hy⟩:=zC (qR.bl hp hbw) hkn
   have ho:=Lib.hid (hok.out k hkn)
   have he2:Hid (VV L ts=(tk++lnP (pix L k))++(xT (L.drop (k+1))++Ym ts)):=Lib.hid (by rw[he.out,UK (by rw[hLn.out];exact hkn),List.append_assoc,List.append_assoc])
   have hpl:=uq ho.out
   have hln:Hid (lnP (pix L k)=112::32::(ptx (pix L k)++[10])):=Lib.hid rfl
   have hfp:=λW hb=>Yl W (hx.bl hb) (hy.bl hb) ho.out (hE.out.bl (hbw.next (show Bl wo W from hb)))
   replace hfp:=Lib.hid hfp
   clear he hx hy ho
   generalize ptx (pix L k)=tx at hfp hpl hln
   have ha1:∀W,(Op.stringOp .add ⟨#[112,32]⟩ (sb tx)).run Tryz.prog W=.ok (.string (sb (112::32::tx))) W:=λW=>jf (P:=Tryz.prog) W [112,32] tx (by simp) (by omega)
   have ha2:∀W,(Op.stringOp .add (sb (112::32::tx)) ⟨#[10]⟩).run Tryz.prog W=.ok (.string (sb (112::32::(tx++[10])))) W:=λW=>jf (P:=Tryz.prog) W (112::32::tx) [10] (by simp;omega) (by simp)
   go_wp2_with (first
    | (go_at_call 12;with_reducible refine(hfp.out _ (by exact slc)).mono ?_;rintro en w1 ⟨rfl,hb1⟩;have hb1:Bl wo w1:=(show Bl wo w1 from slc);have hB1:=hB.bl hb1)
    | (go_at_call 121;with_reducible refine(zn b b tk (112::32::(tx++[10])) [] _ hB1 (by simp;omega) (by have:=hb1.size;omega) (by simp)).mono ?_;rintro en w2 ⟨rfl,hB2,hl2,_,_⟩))
   have hbw2:Bl w w2:=Below.trans (hbw.next hb1) (hl2.mono hwb)
   have hg2:Blk w2 g 49 #[.slice (some ⟨gp,0,none⟩) n cp,.slice (some ⟨gt,0,none⟩) m ct]:=(hg.bl hb1).heap (hl2.block _ hgb)
   clear ha1 ha2
   go_roundw
   case rel=>exact⟨k+1,tk++lnP (pix L k),by omega,by go_num,he2,by rw[hln.out];exact hB2,hg2,hbw2⟩
   case measure=>simp[intOf];omega
  ·obtain rfl:k=n:=by omega
   have hkm2:¬(k:Int)<(k:Int):=by omega
   have hd:Hid (VV L ts=tk++Ym (ts.drop 0)):=Lib.hid (by rw[he.out,List.drop_eq_nil_of_le (by rw[hLn.out];exact Nat.le_refl _)];rfl)
   clear he htl
   obtain⟨x0,x1⟩:=bx2 hg
   go_wp2_with fail
   clear x0 x1
   go_loopw [27] (λv wr=>∃(k:Nat) (tk:List UInt8),k<=m/\v=.int .i64 (k:Int)/\Hid (VV L ts=tk++Ym (ts.drop k))/\BdX b b tk [] wr/\Bl w wr) (λv _=>m-(intOf v).toNat)
   case atStart=>exact⟨0,tk,Nat.zero_le _,rfl,hd,hB,hbw⟩
   case round=>
    clear hB hg hbw hd
    obtain⟨k,tk,hk,rfl,he,hB,hbw⟩:=hrel
    obtain⟨wo,rfl⟩:∃wo:World,wo=wr:=⟨_,rfl⟩
    have htl:tk.length<=200000:=by
     have h1:=congrArg List.length he.out
     have h2:=hlen.out
     rw[List.length_append]at h1
     omega
    have hbs:b<wo.heap.size:=hB.lt
    by_cases hkm:k<m
    ·have hki:(k:Int)<(m:Int):=by omega
     obtain⟨y0,y1,y2,y3,y4⟩:=jO (zx.bl ht hbw) hkm
     have hS:=Lib.hid (htr.out k hkm)
     have he2:Hid (VV L ts=(tk++lnT (pix ts k))++Ym (ts.drop (k+1))):=Lib.hid (by rw[he.out,UD (by rw[hTn.out];exact hkm),List.append_assoc])
     clear he
     go_upto_region 10 with (fail)
     refine qe (λW=>Bl wo W/\∃q,Blk W q 83 #[.int .i64 (pix ts k).a,.int .i64 (pix ts k).b,.int .i64 (pix ts k).c,.int .i64 (pix ts k).region,.int .i64 (pix ts k).level]/\q=wo.heap.size) ⟨by exact slc,_,by exact bts,rfl⟩ ?_
     rintro W1 ⟨hb1,q,hq,hqe⟩
     rw[<-hqe]
     have hB1:BdX b b tk [q] W1:=(hB.sub λy hy=>by simp at hy;omega).bl hb1
     have hbq:b<q:=by omega
     clear hqe y0 y1 y2 y3 y4 hB
     have hbw1:=hbw.next hb1
     have hs1:=hb1.size
     have hql:=hq.lt
     have e0:(⟨#[116]⟩:ByteArray)=sb [116]:=rfl
     go_upto_region 11 with (go_at_call 121;with_reducible refine(zn b b tk [116] [q] _ hB1 (by simp;omega) (by omega) (by simp;omega)).mono ?_;rintro en w2 ⟨rfl,hB2,hl2,_,hx2⟩)
     have hq2:=hq.heap (hx2 q (by simp))
     have hbw2:Bl w w2:=Below.trans hbw1 (hl2.mono hwb)
     clear hB1 hq hx2 hb1 hbw hbw1
     obtain⟨y0,y1,y2,y3,y4⟩:=bx5 hq2
     have hbs2:=hB2.lt
     go_wp2_with fail
     refine qe (λW=>Bl w2 W/\∃r,Blk W r 3 #[.int .i64 (pix ts k).a,.int .i64 (pix ts k).b,.int .i64 (pix ts k).c,.int .i64 (pix ts k).region,.int .i64 (pix ts k).level]/\r=w2.heap.size) ⟨by exact slc,_,by exact bts,rfl⟩ ?_
     rintro W3 ⟨hb3,r,hr,hre⟩
     rw[<-hre]
     have hB3:BdX b b (tk++[116]) [r] W3:=(hB2.sub λy hy=>by simp at hy;omega).bl hb3
     have hbw3:=hbw2.next hb3
     have hrb:w.heap.size<=r:=by omega
     clear hre y0 y1 y2 y3 y4 hB2 hbw2 hq2 hb3
     have hl1:Hid (tk++lnT (pix ts k)=(tk++[116])++(fld ((trN (pix ts k)).drop 0)++[10])):=Lib.hid (by unfold lnT;simp)
     go_loopw [44] (λv wr=>∃(i:Nat) (ti:List UInt8),i<=5/\v=.int .i64 (i:Int)/\Hid (tk++lnT (pix ts k)=ti++(fld ((trN (pix ts k)).drop i)++[10]))/\BdX b b ti [r] wr/\Blk wr r 3 #[.int .i64 (pix ts k).a,.int .i64 (pix ts k).b,.int .i64 (pix ts k).c,.int .i64 (pix ts k).region,.int .i64 (pix ts k).level]/\Bl w wr) (λv _=>5-(intOf v).toNat)
     case atStart=>exact⟨0,_,Nat.zero_le _,rfl,hl1,hB3,hr,hbw3⟩
     case round=>
      clear hB3 hr hbw3 hl1
      obtain⟨i,ti,hi,rfl,hf,hB,hr,hbw⟩:=hrel
      obtain⟨wi,rfl⟩:∃wi:World,wi=wr:=⟨_,rfl⟩
      have hti:ti.length<=300000:=by
       have h1:=congrArg List.length hf.out
       have h2:=um hS.out
       rw[List.length_append,List.length_append]at h1
       omega
      have hbs:b<wi.heap.size:=hB.lt
      by_cases hi5:i<5
      ·have hki:(i:Int)<5:=by omega
       have hci:=qdE hr hS.out hi5
       have hxi:dx (trN (pix ts k)) i<=1000:=hS.out.le _ (by simp[dx,List.getD_eq_getElem?_getD,trN,hi5])
       have hf2:Hid (tk++lnT (pix ts k)=(ti++(32::dD (dx (trN (pix ts k)) i)))++(fld ((trN (pix ts k)).drop (i+1))++[10])):=Lib.hid (by rw[hf.out,qag (by simp[trN];exact hi5)];simp[List.append_assoc])
       have hdl:=yx (N:=dx (trN (pix ts k)) i) (by omega)
       clear hf
       generalize dx (trN (pix ts k)) i=N at hci hxi hf2 hdl
       have ha1:∀W,(Op.stringOp .add ⟨#[32]⟩ (sb (dD N))).run Tryz.prog W=.ok (.string (sb (32::dD N))) W:=λW=>jf (P:=Tryz.prog) W [32] (dD N) (by simp) (by omega)
       go_wp2_with (first
        | (go_at_call 77;refine(zu _ N (by omega) (hE.out.bl (hbw.next (by exact slc)))).mono ?_;rintro en w5 ⟨rfl,hb5⟩;have hB5:=hB.bl hb5)
        | (go_at_call 121;with_reducible refine(zn b b ti (32::dD N) [r] _ hB5 (by simp;omega) (by have:=hb5.size;omega) (by have:=hr.lt;have:=hb5.size;simp;omega)).mono ?_;rintro en w6 ⟨rfl,hB6,hl6,_,hx6⟩))
       have hr6:=(hr.bl hb5).heap (hx6 r (by simp))
       have hbw6:Bl w w6:=Below.trans (hbw.next hb5) (hl6.mono hwb)
       go_roundw
       case rel=>exact⟨i+1,_,by omega,by go_num,hf2,hB6,hr6,hbw6⟩
       case measure=>simp[intOf];omega
      ·obtain rfl:i=5:=by omega
       have hf2:Hid (tk++lnT (pix ts k)=ti++[10]):=Lib.hid (by rw[hf.out];rfl)
       have e5:((5:Nat):Int)=5:=rfl
       rw[e5]
       clear hf
       have hB0:BdX b b ti [] wi:=hB.sub (by simp)
       go_wp2_with (go_at_call 121;refine(zn b b ti [10] [] _ hB0 (by simp;omega) (by omega) (by simp)).mono ?_;rintro en w6 ⟨rfl,hB6,hl6,_,hx6⟩)
       go_roundw
       case rel=>exact⟨k+1,tk++lnT (pix ts k),by omega,by go_num,he2,by rw[hf2.out];exact hB6,Below.trans hbw (hl6.mono hwb)⟩
       case measure=>simp[intOf];omega
    ·obtain rfl:k=m:=by omega
     have hkm2:¬(k:Int)<(k:Int):=by omega
     have hd:Hid (VV L ts=tk):=Lib.hid (by rw[he.out,List.drop_eq_nil_of_le (by rw[hTn.out];exact Nat.le_refl _)];exact List.append_nil _)
     go_wp2_with (go_at_call 122;refine(Tryz.Builder_String_any_k b b tk _ (Lib.IsBuilderF.of hB.is) (by omega)).mono ?_;rintro e w9 ⟨rfl,_,hbl9,_⟩)
     go_ret
     exact⟨by rw[hd.out];rfl,Below.trans hbw (hbl9.mono hwb)⟩
def shS (s d:Nat):Nat:=s / Nat.gcd s d*d
def VT (pts:List (Rat × Rat)):Nat->Nat
 | 0=>1
 | k+1=>shS (shS (VT pts k) (pix pts k).1.den) (pix pts k).2.den
def plX (pts:List (Rat × Rat)) (S k:Nat):Int:=(pix pts k).1.num*((S / (pix pts k).1.den:Nat):Int)
def plY (pts:List (Rat × Rat)) (S k:Nat):Int:=(pix pts k).2.num*((S / (pix pts k).2.den:Nat):Int)
def Qf (pts:List (Rat × Rat)) (k:Nat):List Int:=(List.range k).map (plX pts (VT pts pts.length))
def yZ (pts:List (Rat × Rat)) (k:Nat):List Int:=(List.range k).map (plY pts (VT pts pts.length))
theorem Kz (pts:List (Rat × Rat)) (k:Nat):Qf pts (k+1)=Qf pts k++[plX pts (VT pts pts.length) k]:=by unfold Qf;rw[List.range_succ,List.map_append];rfl
theorem kt (pts:List (Rat × Rat)) (k:Nat):yZ pts (k+1)=yZ pts k++[plY pts (VT pts pts.length) k]:=by unfold yZ;rw[List.range_succ,List.map_append];rfl
theorem J0 (pts:List (Rat × Rat)) (k:Nat):(Qf pts k).length=k:=by simp[Qf]
theorem J6 (pts:List (Rat × Rat)) (k:Nat):(yZ pts k).length=k:=by simp[yZ]
theorem qcv (pts:List (Rat × Rat)) {k i:Nat}(h:i<k):ix (Qf pts k) i=plX pts (VT pts pts.length) i:=by simp[ix,Qf,h]
theorem qbA (pts:List (Rat × Rat)) {k i:Nat}(h:i<k):ix (yZ pts k) i=plY pts (VT pts pts.length) i:=by simp[ix,yZ,h]
def qcO (pts:List (Rat × Rat)):Prop :=
 (∀k,k<pts.length->SmQ (pix pts k).1/\SmQ (pix pts k).2)/\(∀k,k<pts.length->shS (VT pts k) (pix pts k).1.den<=268435456/\VT pts (k+1)<=268435456)/\PlB pts.length (Qf pts pts.length) (yZ pts pts.length)
instance (n:Nat) (xs ys:List Int):Decidable (PlB n xs ys):=by unfold PlB;infer_instance
instance (pts:List (Rat × Rat)):Decidable (qcO pts):=by unfold qcO;infer_instance
theorem Ka {pts:List (Rat × Rat)}(h:qcO pts) {k:Nat}(hk:k<=pts.length):VT pts k<=268435456:=by
 rcases k with _|k
 ·exact(by decide:(1:Nat)<=268435456)
 ·exact(h.2.1 k (by omega)).2
theorem RdI.setLit {w:World}{g n c:Nat}{l:List Int}(h:RdI w (some ⟨g,0,none⟩) n c l) {p:Addr}(hp:g≠p.block) (u:Value):RdI (w.setCell p u) (some ⟨g,0,none⟩) n c l:=by
 refine⟨h.len,h.cap,h.small,λk hk=>?_⟩
 obtain⟨ad,e,hlt,hc⟩:=h.cells k hk
 refine⟨ad,e,by simpa using hlt,?_⟩
 cases e
 rw[Addr.add_lit]at hc ⊢
 have hne:p≠(⟨g,0+k,none⟩:Addr):=λe=>hp (by rw[e])
 rw[World.cell?_setCell_other (h:=hne)]
 exact hc
theorem OwL.keepX {E:TypeId}{base:Nat}{w W:World}{v:Value}{l:List Int}(h:OwL E base w v l) (h1:∀g,v.ownBlock=Option.some g->W.heap[g]?=w.heap[g]?):OwL E base W v l:=by
 refine⟨h.1,?_⟩
 rcases h.2 with h2 |⟨g,cap,cur,hv,hg,hh,r⟩
 ·exact .inl h2
 ·exact .inr ⟨g,cap,cur,hv,hg,(h1 g (by rw[hv];rfl)).trans hh,r⟩
theorem OwL.lit {E:TypeId}{base:Nat}{w:World}{v:Value}{l:List Int}(h:OwL E base w v l) (h0:0<l.length) (hl:l.length<=9223372036854775807):∃g c,v=.slice (some ⟨g,0,none⟩) l.length c/\RdI w (some ⟨g,0,none⟩) l.length c l:=by
 rcases h.2 with ⟨rfl,h1⟩ |⟨g,cap,cur,rfl,hg,hh,hn,hm,hs,ht⟩
 ·omega
 ·obtain⟨A,c,e,ho⟩:=h.own hl
  injection e with e1 e2 e3
  subst e1 e3
  exact⟨g,cap,rfl,ho.rd⟩
theorem OwL.blk {E:TypeId}{base:Nat}{w:World}{v:Value}{l:List Int}(h:OwL E base w v l) {g:Nat}(hg:v.ownBlock=Option.some g):base<=g/\g<w.heap.size:=World.ownsRow.lt h g hg
theorem zE {P:Program}{E t:TypeId}(hinfo:(P.info? E).map (λi=>(i.zero,i.size,i.bytes))=some (some (.int .i64 0),1,8)) (ht:P.underlying t=some (.slice E))
  {w0 W:World}{x0:Int}{ops:Array Oper}{rest:List Oper}{o:Oper}{a:Act}{Q:Exit->Act->World->Prop}(hgd:o.guard=none) (s x:Operand)
  (ho:o.op=.call { callee:=.builtin .append,args:=#[s,x],argTypes:=#[t,t] }) (v:Value) (l:List Int) (hs:a.eval s=v) (hown:OwL E w0.heap.size W v l) (hb:Bl w0 W)
  (c:Nat) (hx:a.eval x=.slice (some ⟨W.heap.size,0,none⟩) 1 c) (hlen:l.length<=1099511627776)
  (h:∀v' w',OwL E w0.heap.size w' v' (l++[x0])->Bl w0 w'->(∀g,g<W.heap.size->v.ownBlock≠Option.some g->w'.heap[g]?=W.heap[g]?/\v'.ownBlock≠Option.some g)->wpList P ops Q rest (a.put o.dst v') w'):wpList P ops Q (o::rest) a (W.alloc (.cells #[.int .i64 x0] E)):=by
 obtain⟨i0,hi,hz0,hz1,hz2⟩:=info_parts hinfo
 have ho':=hown.alloc (.cells #[.int .i64 x0] E)
 have hbs:w0.heap.size<=(W.alloc (.cells #[.int .i64 x0] E)).heap.size:=by have:=hb.size;simp;omega
 have hsz2:(W.alloc (.cells #[.int .i64 x0] E)).heap.size=W.heap.size+1:=by simp
 refine wpList_append_own_at _ hgd s x t ho w0.heap.size E i0 (.int .i64 0) 1 8 ht hi hz0 hz1 hz2 rfl (by omega) v l.length (l.map (Value.int .i64)) hs ho' ⟨W.heap.size,0,none⟩ 1 c [.int .i64 x0] hx rfl (cell_one_new _ _ _) (by intro u hu;simp at hu;subst hu;rfl) (by simp only[maxLen];omega) (by omega) hbs ?_
 intro v' w' g1 g2 _ g4
 have hown':∀ b,v'.ownBlock=Option.some b->(v.ownBlock=Option.some b\/b=W.heap.size+1):=by
  intro b e
  rcases g4 with g4|g4
  ·exact .inl (by rw[<-g4];exact e)
  ·rw[g4]at e;injection e with e;right;omega
 refine h v' w' ?_ ((hb.alloc _).grown g2 ho'.blockLe) (λg hg hn=>⟨(g2.block g (by omega) (λe=>hn e.symm)).trans (Below.heap_alloc W _ g hg),λe=>by rcases hown' g e with e|e;exact hn e;omega⟩)
 unfold OwL
 simpa using g1
def qcU (pts:List (Rat × Rat)) (k:Nat):Nat->Nat
 | 0=>VT pts k
 | 1=>shS (VT pts k) (pix pts k).1.den
 | _=>VT pts (k+1)
def qek (w:World) (gp n cp:Nat) (pts:List (Rat × Rat)) (en:Ending) (w':World):Prop :=
 ∃gx cx gy cy,en=.returned (.agg #[.slice (some ⟨gp,0,none⟩) n cp,.slice (some ⟨gx,0,none⟩) n cx,.slice (some ⟨gy,0,none⟩) n cy])/\RdI w' (some ⟨gx,0,none⟩) n cx (Qf pts n)/\RdI w' (some ⟨gy,0,none⟩) n cy (yZ pts n)/\Bl w w'
theorem ke (w:World) {gp n cp:Nat}{pts:List (Rat × Rat)}(hp:qR w (some ⟨gp,0,none⟩) n cp (pts.map tp)) (hok:qcO pts) (h3:3<=n) (h40:n<=1048576) :
  Calls Tryz.prog 67 #[.slice (some ⟨gp,0,none⟩) n cp] w (qek w gp n cp pts):=by
 have hlen:=Lib.hid (show pts.length=n by rw[<-hp.len,List.length_map])
 replace hok:=Lib.hid hok
 go_enter Tryz.func67,Tryz.ntmps67
 go_wp2_with fail
 refine qe (λW=>Bl w W/\Wk 3 92 w.heap.size W/\Blk W (w.heap.size+1) 92 #[.slice (some ⟨gp,0,none⟩) n cp,.slice none 0 0,.slice none 0 0]) ⟨slc,bts,bts⟩ ?_
 rintro W ⟨hbW,hRs,hO⟩
 go_loopw [4,23] (λs i wr=>∃k:Nat,k<=n/\i=.int .i64 (k:Int)/\s=.int .i64 (VT pts k:Int)/\Bl W wr) (λ_ i _=>n-(intOf i).toNat)
 case atStart=>exact⟨0,by omega,rfl,rfl,Bl.refl _⟩
 case round=>
  obtain⟨k,hk,rfl,rfl,hbw⟩:=hrel
  obtain⟨wo,rfl⟩:∃wo:World,wo=wr:=⟨_,rfl⟩
  by_cases hkn:k<n
  ·have hki:(k:Int)<(n:Int):=by omega
   obtain⟨sq,Aq,nq,cq,Bq,mq,dq,tq,Cq,iq,eq,Dq,jq,fq,⟨y0,y1,y2,y3,y4,y5⟩,hR1,hR2⟩:=zC (qR.bl hp (hbW.next hbw)) hkn
   rw[zv (by rw[hlen.out];exact hkn)]at hR1 hR2
   have hsm1:=Lib.hid (hok.out.1 k (by rw[hlen.out];exact hkn)).1
   have hsm2:=Lib.hid (hok.out.1 k (by rw[hlen.out];exact hkn)).2
   have hl1:nq<=1:=by rw[<-hR1.mag.len];exact hsm1.out.mag
   have hl2:iq<=1:=by rw[<-hR2.mag.len];exact hsm2.out.mag
   obtain rfl:mq=1:=by rw[<-hR1.den.len];exact hsm1.out.den
   obtain rfl:jq=1:=by rw[<-hR2.den.len];exact hsm2.out.den
   go_wp2_with fail
   refine qe (λW2=>Bl wo W2/\∃gs,Blk W2 gs 26 #[.bool sq,.slice Aq nq cq,.slice Bq 1 dq,.bool tq,.slice Cq iq eq,.slice Dq 1 fq]/\gs=wo.heap.size+1) ⟨by exact slc,_,by exact bts,rfl⟩ ?_
   rintro W2 ⟨hb2,gs,hBs,hgs⟩
   rw[<-hgs]
   clear hgs y0 y1 y2 y3 y4 y5
   have hb2s:=hb2
   go_loopw [4,33] (λs i wr=>∃j:Nat,j<=2/\i=.int .i64 (j:Int)/\s=.int .i64 (qcU pts k j:Int)/\Bl W2 wr) (λ_ i _=>2-(intOf i).toNat)
   case atStart=>exact⟨0,by omega,rfl,rfl,Bl.refl _⟩
   case round=>
    obtain⟨j,hj,rfl,rfl,hbj⟩:=hrel
    rcases(show j=0\/j=1\/j=2 by omega)with rfl|rfl|rfl
    ·skip
     have e0:((0:Nat):Int)=0:=rfl
     rw[e0]
     clear e0 hj
     obtain⟨wj,rfl⟩:∃wj:World,wj=wr:=⟨_,rfl⟩
     obtain⟨y0,y1,y2,y3,y4,y5⟩:=bx6 (hBs.bl hbj)
     obtain⟨S,hS⟩:∃S,qcU pts k 0=S:=⟨_,rfl⟩
     rw[hS]
     obtain⟨D,hD⟩:∃D,(pix pts k).1.den=D:=⟨_,rfl⟩
     have hD0:0<D:=by rw[<-hD];exact(pix pts k).1.den_pos
     have hD1:D<1000000000:=by rw[<-hD];exact hsm1.out.2
     have hS1:S<=268435456:=by rw[<-hS];exact Ka hok.out (by rw[hlen.out];omega)
     have hP1:shS S D<=268435456:=by rw[<-hS,<-hD];exact(hok.out.2.1 k (by rw[hlen.out];exact hkn)).1
     have hPe:qcU pts k 1=shS S D:=by rw[<-hS,<-hD];rfl
     obtain⟨G,hG⟩:∃G,Nat.gcd S D=G:=⟨_,rfl⟩
     have hG0:0<G:=by rw[<-hG];exact Nat.gcd_pos_of_pos_right _ hD0
     unfold shS at hP1 hPe
     rw[hG]at hP1 hPe
     obtain⟨Q,hQ⟩:∃Q,S / G=Q:=⟨_,rfl⟩
     rw[hQ]at hP1 hPe
     obtain⟨R,hR⟩:∃R,Q*D=R:=⟨_,rfl⟩
     rw[hR]at hP1 hPe
     have e1:(S:Int) / (G:Int)=(Q:Int):=by rw[<-hQ];exact(Int.natCast_ediv S G).symm
     have e2:(Q:Int)*(D:Int)=(R:Int):=by rw[<-hR];exact(Int.natCast_mul Q D).symm
     have hQ1:Q<=268435456:=by rw[<-hQ];exact Nat.le_trans (Nat.div_le_self _ _) hS1
     replace hPe:=Lib.hid hPe
     have hGe:=Lib.hid hG
     clear hS hQ hR
     have hDe:=Lib.hid hD
     clear hD hG
     have hG2:(0:Int)<(G:Int):=by omega
     have hRle:¬(268435456:Int)<(R:Int):=by omega
     have hbb:=hb2.next hbj
     go_wp2_with fail
     refine qd (λW5=>Bl wj W5/\∃g8,Blk W5 g8 26 #[.bool sq,.slice Aq nq cq,.slice Bq 1 dq]/\g8=wj.heap.size) ⟨by exact slc,_,by exact bts,rfl⟩ ?_
     rintro W5 ⟨hb5,g8,h8,hg8⟩
     rw[<-hg8]
     clear hg8 y0 y1 y2 y3 y4 y5
     obtain⟨u0,u1,u2⟩:=bx3 h8
     have hg8:=h8.lt
     refine(zq _ hl1 rfl).mono ?_
     rintro e v0 ⟨rfl,hv0⟩
     have h8:=h8.bl hv0
     clear u0 u1 u2
     obtain⟨u0,u1,u2⟩:=bx3 h8
     have hb6:=hb5.next hv0
     clear hb5 hv0
     go_wp2_with fail
     refine(jp _ (RdR.bl hR1 (hb2s.next (hbj.next hb6))) hl1).mono ?_
     rintro e v1 ⟨rfl,hv1⟩
     rw[hDe.out]
     go_wp2_with fail
     refine(uv _ S D (by omega) (by omega)).mono ?_
     rw[hGe.out]
     rintro e v2 ⟨rfl,q2,rfl⟩
     go_wp2_with fail
     go_roundw
     case rel=>exact⟨1,by omega,rfl,by rw[hPe.out],by exact slc⟩
     case measure=>simp[intOf]
    ·skip
     have e0:((1:Nat):Int)=1:=rfl
     rw[e0]
     clear e0 hj
     obtain⟨wj,rfl⟩:∃wj:World,wj=wr:=⟨_,rfl⟩
     obtain⟨y0,y1,y2,y3,y4,y5⟩:=bx6 (hBs.bl hbj)
     obtain⟨S,hS⟩:∃S,qcU pts k 1=S:=⟨_,rfl⟩
     rw[hS]
     obtain⟨D,hD⟩:∃D,(pix pts k).2.den=D:=⟨_,rfl⟩
     have hD0:0<D:=by rw[<-hD];exact(pix pts k).2.den_pos
     have hD1:D<1000000000:=by rw[<-hD];exact hsm2.out.2
     have hS1:S<=268435456:=by rw[<-hS];exact(hok.out.2.1 k (by rw[hlen.out];exact hkn)).1
     have hP1:shS S D<=268435456:=by rw[<-hS,<-hD];exact(hok.out.2.1 k (by rw[hlen.out];exact hkn)).2
     have hPe:qcU pts k 2=shS S D:=by rw[<-hS,<-hD];rfl
     obtain⟨G,hG⟩:∃G,Nat.gcd S D=G:=⟨_,rfl⟩
     have hG0:0<G:=by rw[<-hG];exact Nat.gcd_pos_of_pos_right _ hD0
     unfold shS at hP1 hPe
     rw[hG]at hP1 hPe
     obtain⟨Q,hQ⟩:∃Q,S / G=Q:=⟨_,rfl⟩
     rw[hQ]at hP1 hPe
     obtain⟨R,hR⟩:∃R,Q*D=R:=⟨_,rfl⟩
     rw[hR]at hP1 hPe
     have e1:(S:Int) / (G:Int)=(Q:Int):=by rw[<-hQ];exact(Int.natCast_ediv S G).symm
     have e2:(Q:Int)*(D:Int)=(R:Int):=by rw[<-hR];exact(Int.natCast_mul Q D).symm
     have hQ1:Q<=268435456:=by rw[<-hQ];exact Nat.le_trans (Nat.div_le_self _ _) hS1
     replace hPe:=Lib.hid hPe
     have hGe:=Lib.hid hG
     clear hS hQ hR
     have hDe:=Lib.hid hD
     clear hD hG
     have hG2:(0:Int)<(G:Int):=by omega
     have hRle:¬(268435456:Int)<(R:Int):=by omega
     have hbb:=hb2.next hbj
     go_wp2_with fail
     refine qd (λW5=>Bl wj W5/\∃g8,Blk W5 g8 26 #[.bool tq,.slice Cq iq eq,.slice Dq 1 fq]/\g8=wj.heap.size) ⟨by exact slc,_,by exact bts,rfl⟩ ?_
     rintro W5 ⟨hb5,g8,h8,hg8⟩
     rw[<-hg8]
     clear hg8 y0 y1 y2 y3 y4 y5
     obtain⟨u0,u1,u2⟩:=bx3 h8
     have hg8:=h8.lt
     refine(zq _ hl2 rfl).mono ?_
     rintro e v0 ⟨rfl,hv0⟩
     have h8:=h8.bl hv0
     clear u0 u1 u2
     obtain⟨u0,u1,u2⟩:=bx3 h8
     have hb6:=hb5.next hv0
     clear hb5 hv0
     go_wp2_with fail
     refine(jp _ (RdR.bl hR2 (hb2s.next (hbj.next hb6))) hl2).mono ?_
     rintro e v1 ⟨rfl,hv1⟩
     rw[hDe.out]
     go_wp2_with fail
     refine(uv _ S D (by omega) (by omega)).mono ?_
     rw[hGe.out]
     rintro e v2 ⟨rfl,q2,rfl⟩
     go_wp2_with fail
     go_roundw
     case rel=>exact⟨2,by omega,rfl,by rw[hPe.out],by exact slc⟩
     case measure=>simp[intOf]
    ·have e0:((2:Nat):Int)=2:=rfl
     rw[e0]
     clear e0 hj
     go_wp2_with fail
     go_roundw
     case rel=>exact⟨k+1,by omega,by go_num,rfl,(hbw.next hb2).next hbj⟩
     case measure=>simp[intOf];omega
  ·obtain rfl:k=n:=by omega
   have hkm2:¬(k:Int)<(k:Int):=by omega
   go_wp2_with fail
   have hmsz:∀X:World,(X.alloc (.cells #[] 3)).heap.size=X.heap.size+1:=λX=>by simp
   refine qe (λW3=>Bl wo W3/\∃vx vy cx cy,OwL 3 wo.heap.size W3 vx []/\OwL 3 wo.heap.size W3 vy []/\vx=.slice (some ⟨wo.heap.size,0,none⟩) 0 cx/\vy=.slice (some ⟨wo.heap.size+1,0,none⟩) 0 cy/\cx=0/\cy=0) ⟨by exact slc,_,_,0,0,(OwL.empty wo (Nat.le_refl _) (by decide)).alloc _,OwL.empty (wo.alloc (.cells #[] 3)) (by simp) (by decide),rfl,by rw[hmsz];rfl,rfl,rfl⟩ ?_
   rintro W3 ⟨hb3,vx,vy,cx,cy,hX,hY,hvx,hvy,rfl,rfl⟩
   rw[<-hvx,<-hvy]
   have hxy:∀ g,vx.ownBlock=Option.some g->vy.ownBlock≠Option.some g:=by
    rw[hvx,hvy]
    intro g e1 e2
    injection e1 with e1
    injection e2 with e2
    simp only at e1 e2
    omega
   clear hvx hvy hmsz
   have hSe:Hid (VT pts k=VT pts pts.length):=Lib.hid (by rw[hlen.out])
   obtain⟨S,hS⟩:∃S,VT pts k=S:=⟨_,rfl⟩
   rw[hS]at hSe ⊢
   have hS1:S<=268435456:=by rw[<-hS];exact Ka hok.out (by rw[hlen.out];omega)
   clear hS
   go_loopw [11,12,62] (λsx sy v wr=>∃(i:Nat) (vx vy:Value),i<=k/\v=.int .i64 (i:Int)/\vx=sx/\vy=sy/\OwL 3 wo.heap.size wr vx (Qf pts i)/\OwL 3 wo.heap.size wr vy (yZ pts i)/\(∀g,vx.ownBlock=Option.some g->vy.ownBlock≠Option.some g)/\Bl wo wr) (λ_ _ v _=>k-(intOf v).toNat)
   case atStart=>exact⟨0,vx,vy,by omega,rfl,rfl,rfl,hX,hY,hxy,hb3⟩
   case round=>
    clear hX hY hxy hb3
    obtain⟨i,vx,vy,hi,rfl,rfl,rfl,hX,hY,hxy,hbi⟩:=hrel
    obtain⟨wj,rfl⟩:∃wj:World,wj=wr:=⟨_,rfl⟩
    have hbWj:=(hbW.next hbw).next hbi
    by_cases hin:i<k
    ·have hki:(i:Int)<(k:Int):=by omega
     obtain⟨sq,Aq,nq,cq,Bq,mq,dq,tq,Cq,iq,eq,Dq,jq,fq,⟨y0,y1,y2,y3,y4,y5⟩,hR1,hR2⟩:=zC (qR.bl hp hbWj) hin
     rw[zv (by rw[hlen.out];exact hin)]at hR1 hR2
     have hsm1:=Lib.hid (hok.out.1 i (by rw[hlen.out];exact hin)).1
     have hsm2:=Lib.hid (hok.out.1 i (by rw[hlen.out];exact hin)).2
     obtain⟨hbx0,hbx1,hby0,hby1⟩:=hok.out.2.2 i (by rw[hlen.out];exact hin)
     rw[qcv pts (by rw[hlen.out];exact hin),<-hSe.out]at hbx0 hbx1
     rw[qbA pts (by rw[hlen.out];exact hin),<-hSe.out]at hby0 hby1
     have hl1:nq<=1:=by rw[<-hR1.mag.len];exact hsm1.out.mag
     have hl2:iq<=1:=by rw[<-hR2.mag.len];exact hsm2.out.mag
     obtain rfl:mq=1:=by rw[<-hR1.den.len];exact hsm1.out.den
     obtain rfl:jq=1:=by rw[<-hR2.den.len];exact hsm2.out.den
     have hXs:=Kz pts i
     have hYs:=kt pts i
     rw[<-hSe.out]at hXs hYs
     obtain⟨Nx,hNx⟩:∃N,(pix pts i).1.num=N:=⟨_,rfl⟩
     obtain⟨Dx,hDx⟩:∃D,(pix pts i).1.den=D:=⟨_,rfl⟩
     obtain⟨Qx,hQx⟩:∃Q,S / Dx=Q:=⟨_,rfl⟩
     have hD0x:0<Dx:=by rw[<-hDx];exact(pix pts i).1.den_pos
     have hD1x:Dx<1000000000:=by rw[<-hDx];exact hsm1.out.2
     have hN1x:Nx.natAbs<1000000000:=by rw[<-hNx];exact hsm1.out.1
     have hQ1x:Qx<=268435456:=by rw[<-hQx];exact Nat.le_trans (Nat.div_le_self _ _) hS1
     have hplx:plX pts S i=Nx*(Qx:Int):=by unfold plX;rw[hNx,hDx,hQx]
     obtain⟨Zx,hZx⟩:∃Z,Nx*(Qx:Int)=Z:=⟨_,rfl⟩
     rw[hZx]at hplx
     rw[hplx]at hbx0 hbx1
     have t1x:Int.tdiv (S:Int) (Dx:Int)=(Qx:Int):=by rw[<-hQx];exact(Int.ofNat_tdiv S Dx).symm
     have t5x:(S:Int) / (Dx:Int)=(Qx:Int):=by rw[<-hQx];exact(Int.natCast_ediv S Dx).symm
     have t2x:IntKind.i64.wrap (Qx:Int)=(Qx:Int):=IntWalk.i64_in _ (by omega)
     have t3x:IntKind.i64.wrap (Nx*(Qx:Int))=Zx:=by rw[hZx];exact IntWalk.i64_in _ (by omega)
     have t4x:¬(Dx:Int)=0:=by omega
     replace hplx:=Lib.hid hplx
     have hNex:=Lib.hid hNx
     have hDex:=Lib.hid hDx
     clear hNx hDx hQx hZx
     obtain⟨Ny,hNy⟩:∃N,(pix pts i).2.num=N:=⟨_,rfl⟩
     obtain⟨Dy,hDy⟩:∃D,(pix pts i).2.den=D:=⟨_,rfl⟩
     obtain⟨Qy,hQy⟩:∃Q,S / Dy=Q:=⟨_,rfl⟩
     have hD0y:0<Dy:=by rw[<-hDy];exact(pix pts i).2.den_pos
     have hD1y:Dy<1000000000:=by rw[<-hDy];exact hsm2.out.2
     have hN1y:Ny.natAbs<1000000000:=by rw[<-hNy];exact hsm2.out.1
     have hQ1y:Qy<=268435456:=by rw[<-hQy];exact Nat.le_trans (Nat.div_le_self _ _) hS1
     have hply:plY pts S i=Ny*(Qy:Int):=by unfold plY;rw[hNy,hDy,hQy]
     obtain⟨Zy,hZy⟩:∃Z,Ny*(Qy:Int)=Z:=⟨_,rfl⟩
     rw[hZy]at hply
     rw[hply]at hby0 hby1
     have t1y:Int.tdiv (S:Int) (Dy:Int)=(Qy:Int):=by rw[<-hQy];exact(Int.ofNat_tdiv S Dy).symm
     have t5y:(S:Int) / (Dy:Int)=(Qy:Int):=by rw[<-hQy];exact(Int.natCast_ediv S Dy).symm
     have t2y:IntKind.i64.wrap (Qy:Int)=(Qy:Int):=IntWalk.i64_in _ (by omega)
     have t3y:IntKind.i64.wrap (Ny*(Qy:Int))=Zy:=by rw[hZy];exact IntWalk.i64_in _ (by omega)
     have t4y:¬(Dy:Int)=0:=by omega
     replace hply:=Lib.hid hply
     have hNey:=Lib.hid hNy
     have hDey:=Lib.hid hDy
     clear hNy hDy hQy hZy
     rw[hplx.out]at hXs
     rw[hply.out]at hYs
     replace hXs:=Lib.hid hXs
     replace hYs:=Lib.hid hYs
     go_wp2_with fail
     refine qd (λW5=>Bl wj W5/\∃g8,Blk W5 g8 28 #[.bool sq,.slice Aq nq cq,.slice Bq 1 dq,.bool tq,.slice Cq iq eq,.slice Dq 1 fq]/\g8=wj.heap.size) ⟨by exact slc,_,by exact bts,rfl⟩ ?_
     rintro W5 ⟨hb5,g8,h8,hg8⟩
     rw[<-hg8]
     clear hg8 y0 y1 y2 y3 y4 y5
     refine(jp _ (RdR.bl hR1 hb5) hl1).mono ?_
     rintro e v1 ⟨rfl,hv1⟩
     have h8:=h8.bl hv1
     obtain⟨u0,u1,u2,u3,u4,u5⟩:=bx6 h8
     have hb6:=hb5.next hv1
     clear hb5 hv1
     rw[hNex.out,hDex.out]
     go_wp2_with fail
     refine(jp _ (RdR.bl hR2 hb6) hl2).mono ?_
     rintro e v2 ⟨rfl,hv2⟩
     rw[hNey.out,hDey.out]
     have hb7:=hb6.next hv2
     clear u0 u1 u2 u3 u4 u5 h8 hb6 hv2
     go_wp2_with fail
     go_quiet (fail)
     go_upto_region 26 with (first |(go_at_call 66;(with_reducible refine(zc _ hbx0 hbx1).mono ?_);rintro e x1 ⟨rfl,q0,rfl⟩) |(go_at_call 66;(with_reducible refine(zc _ hby0 hby1).mono ?_);rintro e x2 ⟨rfl,q1,rfl⟩))
     refine qe (λW6=>Bl wj W6) (by exact slc) ?_
     intro W6 hb9
     have hX:=hX.bl hb9
     have hY:=hY.bl hb9
     have hbi:=hbi.next hb9
     go_wp2_with (first |((refine zE (w0:=wo) qn Tryz.underlying22 rfl (.tmp 97) (.tmp 99) rfl _ (Qf pts i) (by rfl) hX hbi 1 (by rfl) (by rw[J0];omega) ?_);intro vx7 w7 hX7 hb7 hoth;(have hY7:=OwL.keepX hY (λg e=>(hoth g (hY.blk e).2 (λe2=>hxy g e2 e)).1));(have hxy7:∀g,vx7.ownBlock=Option.some g->vy.ownBlock≠Option.some g:=λg e e2=>(hoth g (hY.blk e2).2 (λe3=>hxy g e3 e2)).2 e)) |((refine zE (w0:=wo) qn Tryz.underlying22 rfl (.tmp 101) (.tmp 103) rfl _ (yZ pts i) (by rfl) hY7 hb7 1 (by rfl) (by rw[J6];omega) ?_);intro vy8 w8 hY8 hb8 hoth2;(have hX8:=OwL.keepX hX7 (λg e=>(hoth2 g (hX7.blk e).2 (λe2=>hxy7 g e e2)).1));(have hxy8:∀g,vx7.ownBlock=Option.some g->vy8.ownBlock≠Option.some g:=λg e e2=>(hoth2 g (hX7.blk e).2 (λe3=>hxy7 g e e3)).2 e2)))
     rw[<-hXs.out]at hX8
     rw[<-hYs.out]at hY8
     go_roundw
     case rel=>exact⟨i+1,vx7,vy8,by omega,by go_num,rfl,rfl,hX8,hY8,hxy8,hb8⟩
     case measure=>simp[intOf];omega
    ·obtain rfl:i=k:=by omega
     have hkm2:¬(i:Int)<(i:Int):=by omega
     obtain⟨gx,cx,hvx,hXr⟩:=hX.lit (by rw[J0];omega) (by rw[J0];omega)
     obtain⟨gy,cy,hvy,hYr⟩:=hY.lit (by rw[J6];omega) (by rw[J6];omega)
     have hgx:=(hX.blk (g:=gx) (by rw[hvx];rfl)).1
     have hgy:=(hY.blk (g:=gy) (by rw[hvy];rfl)).1
     rw[J0]at hvx hXr
     rw[J6]at hvy hYr
     subst hvx hvy
     have hWs:=hbw.size
     have hO9:=hO.bl (hbw.next hbi)
     have hR9:=hRs.bl (hbw.next hbi)
     have hOl:=hO.lt
     clear hX hY hxy hS1 hSe
     obtain⟨o0,o1,o2⟩:=bx3 hO9
     have of1:=hO9.frozen 1
     have of2:=hO9.frozen 2
     obtain⟨v0,x0⟩:=hR9.val_ (i:=0) (by omega)
     obtain⟨v1,x1⟩:=hR9.val_ (i:=1) (by omega)
     obtain⟨v2,x2⟩:=hR9.val_ (i:=2) (by omega)
     obtain⟨cs4,hB4,hc4⟩:=hR9
     have hf0:=hB4.frozen 0
     have hf1:=hB4.frozen 1
     have hf2:=hB4.frozen 2
     go_wp2_with fail
     have hfx:∀(X:World) (b o:Nat) (u:Value),RdI X (some ⟨gx,0,none⟩) i cx (Qf pts i)->b<wo.heap.size->RdI (X.setCell ⟨b,o,none⟩ u) (some ⟨gx,0,none⟩) i cx (Qf pts i):=λX b o u h hb=>h.setLit (by simp;omega) u
     have hfy:∀(X:World) (b o:Nat) (u:Value),RdI X (some ⟨gy,0,none⟩) i cy (yZ pts i)->b<wo.heap.size->RdI (X.setCell ⟨b,o,none⟩ u) (some ⟨gy,0,none⟩) i cy (yZ pts i):=λX b o u h hb=>h.setLit (by simp;omega) u
     exact bodyPost_ret (v:=.agg #[.slice (some ⟨gp,0,none⟩) i cp,.slice (some ⟨gx,0,none⟩) i cx,.slice (some ⟨gy,0,none⟩) i cy]) (by simp[results,Tryz.results67,go_sem,x0,x1,x2]) rfl ⟨gx,cx,gy,cy,rfl,hfx _ _ _ _ (hfx _ _ _ _ (hfx _ _ _ _ (hfx _ _ _ _ (hfx _ _ _ _ hXr (by omega)) (by omega)) (by omega)) (by omega)) (by omega),hfy _ _ _ _ (hfy _ _ _ _ (hfy _ _ _ _ (hfy _ _ _ _ (hfy _ _ _ _ hYr (by omega)) (by omega)) (by omega)) (by omega)) (by omega),by exact slc⟩
structure MeQ where
 pts:List (Rat × Rat)
 tris:List qC
 deriving DecidableEq
structure za (m:MeQ):Prop where
 n3:3<=m.pts.length
 n40:m.pts.length<=40
 t1:1<=m.tris.length
 t48:m.tris.length<=48
 diff:∀k,k<m.pts.length->∀j,j<k->pix m.pts k≠pix m.pts j
 place:qcO m.pts
 ixs:Y7 m.pts.length m.tris
 reg:∀k,k<m.tris.length->(0<=(pix m.tris k).region/\(pix m.tris k).region<=2)/\0<=(pix m.tris k).level/\(pix m.tris k).level<=60
 pos:∀k,k<m.tris.length->0<trn (Qf m.pts m.pts.length) (yZ m.pts m.pts.length) (pix m.tris k).a (pix m.tris k).b (pix m.tris k).c
 sep:∀k,k<m.tris.length->∀j,j<k->JA (Qf m.pts m.pts.length) (yZ m.pts m.pts.length) (pix m.tris j) (pix m.tris k)=true\/JA (Qf m.pts m.pts.length) (yZ m.pts m.pts.length) (pix m.tris k) (pix m.tris j)=true
 used:∀k:Nat,k<m.pts.length->∃j,j<m.tris.length/\((pix m.tris j).a=k\/(pix m.tris j).b=k\/(pix m.tris j).c=k)
 noIn:qa4 m.pts.length (Qf m.pts m.pts.length) (yZ m.pts m.pts.length) m.tris
def zY (ts:List qC):Nat->Nat->Bool
 | 0,_=>false
 | k+1,i=>zY ts k i||(decide ((pix ts k).a=i)||(decide ((pix ts k).b=i)||decide ((pix ts k).c=i)))
theorem xr {ts:List qC}{i:Nat}:∀{k j:Nat},j<k->((pix ts j).a=i\/(pix ts j).b=i\/(pix ts j).c=i)->zY ts k i=true
 | k+1,j,hj,h=>by
  unfold zY
  rcases Nat.lt_succ_iff_lt_or_eq.1 hj with hj|rfl
  ·rw[xr hj h];rfl
  ·rcases h with h|h|h <;> simp[h]
def OwU (w:World) (g n:Nat) (b:Nat->Bool):Prop:=∃cs,Blk w g 4 cs/\cs.size=n/\∀i,i<n->cs[i]?=some (.bool (b i))
theorem OwU.bl {w W:World}{g n:Nat}{b:Nat->Bool}(h:OwU w g n b) (hb:Bl w W):OwU W g n b:=by
 obtain⟨cs,h1,h2⟩:=h
 exact⟨cs,h1.bl hb,h2⟩
theorem OwU.lt {w:World}{g n:Nat}{b:Nat->Bool}(h:OwU w g n b):g<w.heap.size:=by
 obtain⟨cs,h1,h2⟩:=h
 exact h1.lt
theorem OwU.cell {w:World}{g n:Nat}{b:Nat->Bool}(h:OwU w g n b) {i:Nat}(hi:i<n):w.cell? ⟨g,i,none⟩=some (.bool (b i)):=by
 obtain⟨cs,h1,_,h2⟩:=h
 exact(h1.cell i).trans (h2 i hi)
theorem OwU.frozen {w:World}{g n:Nat}{b:Nat->Bool}(h:OwU w g n b) (i:Nat):w.frozen? ⟨g,i,none⟩=false:=by
 obtain⟨cs,h1,_⟩:=h
 exact h1.frozen i
theorem OwU.set {w:World}{g n:Nat}{b:Nat->Bool}(h:OwU w g n b) (k:Nat) (x:Bool):OwU (w.setCell ⟨g,k,none⟩ (.bool x)) g n (λi=>if i=k then x else b i):=by
 obtain⟨cs,h1,h2,h3⟩:=h
 refine⟨_,h1.set_ k _,by simpa using h2,λi hi=>?_⟩
 show _=some (Value.bool (if i=k then x else b i))
 by_cases e:i=k
 ·subst e
  rw[if_pos rfl]
  simp[h2,hi]
 ·rw[if_neg e,Array.getElem?_setIfInBounds_ne (by omega)]
  exact h3 i hi
theorem OwU.congr {w:World}{g n:Nat}{b b':Nat->Bool}(h:OwU w g n b) (e:∀i,i<n->b i=b' i):OwU w g n b':=by
 obtain⟨cs,h1,h2,h3⟩:=h
 exact⟨cs,h1,h2,λi hi=>by rw[<-e i hi];exact h3 i hi⟩
theorem xX (w:World) {g n c:Nat}(hc:∀i,i<n->w.cell? ⟨g,i,none⟩=some (.bool true)) (hn:n<=1048576) :
  Calls Tryz.prog 129 #[.slice (some ⟨g,0,none⟩) n c,.bool false] w λe w'=>e=.returned (.int .i64 (-1))/\w'=w:=by
 replace hc:=Lib.hid hc
 go_enter Tryz.func129,Tryz.ntmps129
 go_wp2_with fail
 go_loop [8] (λi=>∃k:Nat,k<=n/\i=.int .i64 (k:Int)) (λi=>n-(intOf i).toNat)
 case atStart=>exact⟨0,Nat.zero_le _,rfl⟩
 case round=>
  obtain⟨k,hk,rfl⟩:=hrel
  by_cases hkn:k<n
  ·have hki:(k:Int)<(n:Int):=by omega
   have y0:=hc.out k hkn
   go_wp2_with fail
   go_round
   case rel=>exact⟨k+1,by omega,by go_num⟩
   case measure=>simp[intOf];omega
  ·obtain rfl:k=n:=by omega
   have hkm2:¬(k:Int)<(k:Int):=by omega
   go_wp2_with fail
   go_ret
   exact⟨rfl,rfl⟩
theorem YI (w:World) {g n c:Nat}(hc:∀i,i<n->w.cell? ⟨g,i,none⟩=some (.bool true)) (hn:n<=1048576) :
  Calls Tryz.prog 71 #[.slice (some ⟨g,0,none⟩) n c,.bool false] w λe w'=>e=.returned (.bool false)/\w'=w:=by
 replace hc:=Lib.hid hc
 go_enter Tryz.func71,Tryz.ntmps71
 go_wp2_with fail
 refine(xX _ hc.out hn).mono ?_
 rintro e w1 ⟨rfl,rfl⟩
 go_wp2_with fail
 go_ret
 exact⟨rfl,rfl⟩
end Go.Proofs.YtjaapemopbbfaaaGreatDoor
