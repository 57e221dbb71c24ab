import Derived.Test.YtmkcacgmnnlddaaGreatRows
import Derived.Test.YtmkcacgmnnlddaaGreatPClosureM27
import Derived.Test.YtmkcacgmnnlddaaGreatPClosureM07
import Derived.IntWalk
namespace Go.Proofs.YtmkcacgmnnlddaaGreat
set_option maxRecDepth 100000
set_option maxHeartbeats 16000000
section
open Go.RowKit
def shS (s d:Nat):Nat:=s / Nat.gcd s d*d
def shTo (pts:List (Rat × Rat)):Nat→Nat
 | 0=>1
 | k+1=>shS (shS (shTo pts k) (pix pts k).1.den) (pix pts k).2.den
def plX (pts:List (Rat × Rat)) (S k:Nat):Int:=(pix pts k).1.num*((S / (pix pts k).1.den:Nat):Int)
def plY (pts:List (Rat × Rat)) (S k:Nat):Int:=(pix pts k).2.num*((S / (pix pts k).2.den:Nat):Int)
def plXs (pts:List (Rat × Rat)) (k:Nat):List Int:=(List.range k).map (plX pts (shTo pts pts.length))
def plYs (pts:List (Rat × Rat)) (k:Nat):List Int:=(List.range k).map (plY pts (shTo pts pts.length))
theorem plXs_succ (pts:List (Rat × Rat)) (k:Nat):plXs pts (k+1)=plXs pts k++[plX pts (shTo pts pts.length) k]:=by unfold plXs;rw[List.range_succ,List.map_append];rfl
theorem plYs_succ (pts:List (Rat × Rat)) (k:Nat):plYs pts (k+1)=plYs pts k++[plY pts (shTo pts pts.length) k]:=by unfold plYs;rw[List.range_succ,List.map_append];rfl
theorem plXs_len (pts:List (Rat × Rat)) (k:Nat):(plXs pts k).length=k:=by simp[plXs]
theorem plYs_len (pts:List (Rat × Rat)) (k:Nat):(plYs pts k).length=k:=by simp[plYs]
theorem ix_plXs (pts:List (Rat × Rat)) {k i:Nat}(h:i<k):ix (plXs pts k) i=plX pts (shTo pts pts.length) i:=by simp[ix,plXs,h]
theorem ix_plYs (pts:List (Rat × Rat)) {k i:Nat}(h:i<k):ix (plYs pts k) i=plY pts (shTo pts pts.length) i:=by simp[ix,plYs,h]
def PlOk (pts:List (Rat × Rat)):Prop :=
 (∀k,k<pts.length→SmQ (pix pts k).1∧SmQ (pix pts k).2)∧(∀k,k<pts.length→shS (shTo pts k) (pix pts k).1.den≤268435456∧shTo pts (k+1)≤268435456)∧PlB pts.length (plXs pts pts.length) (plYs pts pts.length)
instance (n:Nat) (xs ys:List Int):Decidable (PlB n xs ys):=by unfold PlB;infer_instance
instance (pts:List (Rat × Rat)):Decidable (PlOk pts):=by unfold PlOk;infer_instance
theorem shTo_le {pts:List (Rat × Rat)}(h:PlOk pts) {k:Nat}(hk:k≤pts.length):shTo pts k≤268435456:=by
 rcases k with _|k
 ·exact(by decide:(1:Nat)≤268435456)
 ·exact(h.2.1 k (by omega)).2
theorem RdI.setLit {w:World}{g n c:Nat}{l:List Int}(h:RdI w (some ⟨g,0,none⟩) n c l) {p:Addr}(hp:g≠p.block) (u:Value):RdI (w.setCell p u) (some ⟨g,0,none⟩) n c l:=by
 refine⟨h.len,h.cap,h.small,fun k hk=>?_⟩
 obtain⟨ad,e,hlt,hc⟩:=h.cells k hk
 refine⟨ad,e,by simpa using hlt,?_⟩
 cases e
 rw[Addr.add_lit]at hc ⊢
 have hne:p≠(⟨g,0+k,none⟩:Addr):=fun e=>hp (by rw[e])
 rw[World.cell?_setCell_other (h:=hne)]
 exact hc
theorem OwL.keepX {E:TypeId}{base:Nat}{w W:World}{v:Value}{l:List Int}(h:OwL E base w v l) (h1:∀g,v.ownBlock=Option.some g→W.heap[g]?=w.heap[g]?):OwL E base W v l:=by
 refine⟨h.1,?_⟩
 rcases h.2 with h2 |⟨g,cap,cur,hv,hg,hh,r⟩
 ·exact .inl h2
 ·exact .inr ⟨g,cap,cur,hv,hg,(h1 g (by rw[hv];rfl)).trans hh,r⟩
theorem OwL.lit {E:TypeId}{base:Nat}{w:World}{v:Value}{l:List Int}(h:OwL E base w v l) (h0:0<l.length) (hl:l.length≤9223372036854775807):∃g c,v=.slice (some ⟨g,0,none⟩) l.length c∧RdI w (some ⟨g,0,none⟩) l.length c l:=by
 rcases h.2 with ⟨rfl,h1⟩ |⟨g,cap,cur,rfl,hg,hh,hn,hm,hs,ht⟩
 ·omega
 ·obtain⟨A,c,e,ho⟩:=h.own hl
  injection e with e1 e2 e3
  subst e1 e3
  exact⟨g,cap,rfl,ho.rd⟩
theorem OwL.blk {E:TypeId}{base:Nat}{w:World}{v:Value}{l:List Int}(h:OwL E base w v l) {g:Nat}(hg:v.ownBlock=Option.some g):base≤g∧g<w.heap.size:=World.ownsRow.lt h g hg
theorem wpList_append_intX {P:Program}{E t:TypeId}(hinfo:(P.info? E).map (fun i=>(i.zero,i.size,i.bytes))=some (some (.int .i64 0),1,8)) (ht:P.underlying t=some (.slice E))
  {w0 W:World}{x0:Int}{ops:Array Oper}{rest:List Oper}{o:Oper}{a:Act}{Q:Exit→Act→World→Prop}(hgd:o.guard=none) (s x:Operand)
  (ho:o.op=.call { callee:=.builtin .append,args:=#[s,x],argTypes:=#[t,t] }) (v:Value) (l:List Int) (hs:a.eval s=v) (hown:OwL E w0.heap.size W v l) (hb:Bl w0 W)
  (c:Nat) (hx:a.eval x=.slice (some ⟨W.heap.size,0,none⟩) 1 c) (hlen:l.length≤1099511627776)
  (h:∀v' w',OwL E w0.heap.size w' v' (l++[x0])→Bl w0 w'→(∀g,g<W.heap.size→v.ownBlock≠Option.some g→w'.heap[g]?=W.heap[g]?∧v'.ownBlock≠Option.some g)→wpList P ops Q rest (a.put o.dst v') w'):wpList P ops Q (o::rest) a (W.alloc (.cells #[.int .i64 x0] E)):=by
 obtain⟨i0,hi,hz0,hz1,hz2⟩:=info_parts hinfo
 have ho':=hown.alloc (.cells #[.int .i64 x0] E)
 have hbs:w0.heap.size≤(W.alloc (.cells #[.int .i64 x0] E)).heap.size:=by have:=hb.size;simp;omega
 have hsz2:(W.alloc (.cells #[.int .i64 x0] E)).heap.size=W.heap.size+1:=by simp
 refine wpList_append_own_at _ hgd s x t ho w0.heap.size E i0 (.int .i64 0) 1 8 ht hi hz0 hz1 hz2 rfl (by omega) v l.length (l.map (Value.int .i64)) hs ho' ⟨W.heap.size,0,none⟩ 1 c [.int .i64 x0] hx rfl (cell_one_new _ _ _) (by intro u hu;simp at hu;subst hu;rfl) (by simp only[maxLen];omega) (by omega) hbs ?_
 intro v' w' g1 g2 _ g4
 have hown':∀ b,v'.ownBlock=Option.some b→(v.ownBlock=Option.some b∨b=W.heap.size+1):=by
  intro b e
  rcases g4 with g4|g4
  ·exact .inl (by rw[←g4];exact e)
  ·rw[g4]at e;injection e with e;right;omega
 refine h v' w' ?_ ((hb.alloc _).grown g2 ho'.blockLe) (fun g hg hn=>⟨(g2.block g (by omega) (fun e=>hn e.symm)).trans (Below.heap_alloc W _ g hg),fun e=>by rcases hown' g e with e|e;exact hn e;omega⟩)
 unfold OwL
 simpa using g1
def shIn (pts:List (Rat × Rat)) (k:Nat):Nat→Nat
 | 0=>shTo pts k
 | 1=>shS (shTo pts k) (pix pts k).1.den
 | _=>shTo pts (k+1)
def PlRes (w:World) (gp n cp:Nat) (pts:List (Rat × Rat)) (en:Ending) (w':World):Prop :=
 ∃gx cx gy cy,en=.returned (.agg #[.slice (some ⟨gp,0,none⟩) n cp,.slice (some ⟨gx,0,none⟩) n cx,.slice (some ⟨gy,0,none⟩) n cy])∧RdI w' (some ⟨gx,0,none⟩) n cx (plXs pts n)∧RdI w' (some ⟨gy,0,none⟩) n cy (plYs pts n)∧Bl w w'
theorem place_yes (w:World) {gp n cp:Nat}{pts:List (Rat × Rat)}(hp:RdPS w (some ⟨gp,0,none⟩) n cp (pts.map tp)) (hok:PlOk pts) (h3:3≤n) (h40:n≤1048576) :
  Calls Tryz.prog 29 #[.slice (some ⟨gp,0,none⟩) n cp] w (PlRes w gp n cp pts):=by
 have hlen:=Lib.hid (show pts.length=n by rw[←hp.len,List.length_map])
 replace hok:=Lib.hid hok
 go_enter Tryz.func29,Tryz.ntmps29
 go_wp2_with fail
 refine wp_gen (fun W=>Bl w W∧Wk 3 62 w.heap.size W∧Blk W (w.heap.size+1) 62 #[.slice (some ⟨gp,0,none⟩) n cp,.slice none 0 0,.slice none 0 0]) ⟨slc,bts,bts⟩ ?_
 rintro W ⟨hbW,hRs,hO⟩
 go_loopw [4,23] (fun s i wr=>∃k:Nat,k≤n∧i=.int .i64 (k:Int)∧s=.int .i64 (shTo pts k:Int)∧Bl W wr) (fun _ i _=>n-(intOf i).toNat)
 case atStart=>exact⟨0,by omega,rfl,rfl,Bl.refl _⟩
 case round=>
  obtain⟨k,hk,rfl,rfl,hbw⟩:=hrel
  obtain⟨wo,rfl⟩:∃wo:World,wo=wr:=⟨_,rfl⟩
  by_cases hkn:k<n
  ·have hki:(k:Int)<(n:Int):=by omega
   obtain⟨sq,Aq,nq,cq,Bq,mq,dq,tq,Cq,iq,eq,Dq,jq,fq,⟨y0,y1,y2,y3,y4,y5⟩,hR1,hR2⟩:=pts_lit (RdPS.bl hp (hbW.next hbw)) hkn
   rw[pix_map (by rw[hlen.out];exact hkn)]at hR1 hR2
   have hsm1:=Lib.hid (hok.out.1 k (by rw[hlen.out];exact hkn)).1
   have hsm2:=Lib.hid (hok.out.1 k (by rw[hlen.out];exact hkn)).2
   have hl1:nq≤1:=by rw[←hR1.mag.len];exact hsm1.out.mag
   have hl2:iq≤1:=by rw[←hR2.mag.len];exact hsm2.out.mag
   obtain rfl:mq=1:=by rw[←hR1.den.len];exact hsm1.out.den
   obtain rfl:jq=1:=by rw[←hR2.den.len];exact hsm2.out.den
   go_wp2_with fail
   refine wp_gen (fun W2=>Bl wo W2∧∃gs,Blk W2 gs 54 #[.bool sq,.slice Aq nq cq,.slice Bq 1 dq,.bool tq,.slice Cq iq eq,.slice Dq 1 fq]∧gs=wo.heap.size+1) ⟨by exact slc,_,by exact bts,rfl⟩ ?_
   rintro W2 ⟨hb2,gs,hBs,hgs⟩
   rw[←hgs]
   clear hgs y0 y1 y2 y3 y4 y5
   have hb2s:=hb2
   go_loopw [4,33] (fun s i wr=>∃j:Nat,j≤2∧i=.int .i64 (j:Int)∧s=.int .i64 (shIn pts k j:Int)∧Bl W2 wr) (fun _ i _=>2-(intOf i).toNat)
   case atStart=>exact⟨0,by omega,rfl,rfl,Bl.refl _⟩
   case round=>
    obtain⟨j,hj,rfl,rfl,hbj⟩:=hrel
    rcases(show j=0∨j=1∨j=2 by omega)with rfl|rfl|rfl
    ·skip
     have e0:((0:Nat):Int)=0:=rfl
     rw[e0]
     clear e0 hj
     obtain⟨wj,rfl⟩:∃wj:World,wj=wr:=⟨_,rfl⟩
     obtain⟨y0,y1,y2,y3,y4,y5⟩:=bx6 (hBs.bl hbj)
     obtain⟨S,hS⟩:∃S,shIn pts k 0=S:=⟨_,rfl⟩
     rw[hS]
     obtain⟨D,hD⟩:∃D,(pix pts k).1.den=D:=⟨_,rfl⟩
     have hD0:0<D:=by rw[←hD];exact(pix pts k).1.den_pos
     have hD1:D<1000000000:=by rw[←hD];exact hsm1.out.2
     have hS1:S≤268435456:=by rw[←hS];exact shTo_le hok.out (by rw[hlen.out];omega)
     have hP1:shS S D≤268435456:=by rw[←hS,←hD];exact(hok.out.2.1 k (by rw[hlen.out];exact hkn)).1
     have hPe:shIn pts k 1=shS S D:=by rw[←hS,←hD];rfl
     obtain⟨G,hG⟩:∃G,Nat.gcd S D=G:=⟨_,rfl⟩
     have hG0:0<G:=by rw[←hG];exact Nat.gcd_pos_of_pos_right _ hD0
     unfold shS at hP1 hPe
     rw[hG]at hP1 hPe
     obtain⟨Q,hQ⟩:∃Q,S / G=Q:=⟨_,rfl⟩
     rw[hQ]at hP1 hPe
     obtain⟨R,hR⟩:∃R,Q*D=R:=⟨_,rfl⟩
     rw[hR]at hP1 hPe
     have e1:(S:Int) / (G:Int)=(Q:Int):=by rw[←hQ];exact(Int.natCast_ediv S G).symm
     have e2:(Q:Int)*(D:Int)=(R:Int):=by rw[←hR];exact(Int.natCast_mul Q D).symm
     have hQ1:Q≤268435456:=by rw[←hQ];exact Nat.le_trans (Nat.div_le_self _ _) hS1
     replace hPe:=Lib.hid hPe
     have hGe:=Lib.hid hG
     clear hS hQ hR
     have hDe:=Lib.hid hD
     clear hD hG
     have hG2:(0:Int)<(G:Int):=by omega
     have hRle:¬(268435456:Int)<(R:Int):=by omega
     have hbb:=hb2.next hbj
     go_wp2_with fail
     refine calls_gen (fun W5=>Bl wj W5∧∃g8,Blk W5 g8 54 #[.bool sq,.slice Aq nq cq,.slice Bq 1 dq]∧g8=wj.heap.size) ⟨by exact slc,_,by exact bts,rfl⟩ ?_
     rintro W5 ⟨hb5,g8,h8,hg8⟩
     rw[←hg8]
     clear hg8 y0 y1 y2 y3 y4 y5
     obtain⟨u0,u1,u2⟩:=bx3 h8
     have hg8:=h8.lt
     refine(isSmall_yes _ hl1 rfl).mono ?_
     rintro e v0 ⟨rfl,hv0⟩
     have h8:=h8.bl hv0
     clear u0 u1 u2
     obtain⟨u0,u1,u2⟩:=bx3 h8
     have hb6:=hb5.next hv0
     clear hb5 hv0
     go_wp2_with fail
     refine(small_any _ (RdR.bl hR1 (hb2s.next (hbj.next hb6))) hl1).mono ?_
     rintro e v1 ⟨rfl,hv1⟩
     rw[hDe.out]
     go_wp2_with fail
     refine(gcd_any _ S D (by omega) (by omega)).mono ?_
     rw[hGe.out]
     rintro e v2 ⟨rfl,q2,rfl⟩
     go_wp2_with fail
     go_roundw
     case rel=>exact⟨1,by omega,rfl,by rw[hPe.out],by exact slc⟩
     case measure=>simp[intOf]
    ·skip
     have e0:((1:Nat):Int)=1:=rfl
     rw[e0]
     clear e0 hj
     obtain⟨wj,rfl⟩:∃wj:World,wj=wr:=⟨_,rfl⟩
     obtain⟨y0,y1,y2,y3,y4,y5⟩:=bx6 (hBs.bl hbj)
     obtain⟨S,hS⟩:∃S,shIn pts k 1=S:=⟨_,rfl⟩
     rw[hS]
     obtain⟨D,hD⟩:∃D,(pix pts k).2.den=D:=⟨_,rfl⟩
     have hD0:0<D:=by rw[←hD];exact(pix pts k).2.den_pos
     have hD1:D<1000000000:=by rw[←hD];exact hsm2.out.2
     have hS1:S≤268435456:=by rw[←hS];exact(hok.out.2.1 k (by rw[hlen.out];exact hkn)).1
     have hP1:shS S D≤268435456:=by rw[←hS,←hD];exact(hok.out.2.1 k (by rw[hlen.out];exact hkn)).2
     have hPe:shIn pts k 2=shS S D:=by rw[←hS,←hD];rfl
     obtain⟨G,hG⟩:∃G,Nat.gcd S D=G:=⟨_,rfl⟩
     have hG0:0<G:=by rw[←hG];exact Nat.gcd_pos_of_pos_right _ hD0
     unfold shS at hP1 hPe
     rw[hG]at hP1 hPe
     obtain⟨Q,hQ⟩:∃Q,S / G=Q:=⟨_,rfl⟩
     rw[hQ]at hP1 hPe
     obtain⟨R,hR⟩:∃R,Q*D=R:=⟨_,rfl⟩
     rw[hR]at hP1 hPe
     have e1:(S:Int) / (G:Int)=(Q:Int):=by rw[←hQ];exact(Int.natCast_ediv S G).symm
     have e2:(Q:Int)*(D:Int)=(R:Int):=by rw[←hR];exact(Int.natCast_mul Q D).symm
     have hQ1:Q≤268435456:=by rw[←hQ];exact Nat.le_trans (Nat.div_le_self _ _) hS1
     replace hPe:=Lib.hid hPe
     have hGe:=Lib.hid hG
     clear hS hQ hR
     have hDe:=Lib.hid hD
     clear hD hG
     have hG2:(0:Int)<(G:Int):=by omega
     have hRle:¬(268435456:Int)<(R:Int):=by omega
     have hbb:=hb2.next hbj
     go_wp2_with fail
     refine calls_gen (fun W5=>Bl wj W5∧∃g8,Blk W5 g8 54 #[.bool tq,.slice Cq iq eq,.slice Dq 1 fq]∧g8=wj.heap.size) ⟨by exact slc,_,by exact bts,rfl⟩ ?_
     rintro W5 ⟨hb5,g8,h8,hg8⟩
     rw[←hg8]
     clear hg8 y0 y1 y2 y3 y4 y5
     obtain⟨u0,u1,u2⟩:=bx3 h8
     have hg8:=h8.lt
     refine(isSmall_yes _ hl2 rfl).mono ?_
     rintro e v0 ⟨rfl,hv0⟩
     have h8:=h8.bl hv0
     clear u0 u1 u2
     obtain⟨u0,u1,u2⟩:=bx3 h8
     have hb6:=hb5.next hv0
     clear hb5 hv0
     go_wp2_with fail
     refine(small_any _ (RdR.bl hR2 (hb2s.next (hbj.next hb6))) hl2).mono ?_
     rintro e v1 ⟨rfl,hv1⟩
     rw[hDe.out]
     go_wp2_with fail
     refine(gcd_any _ S D (by omega) (by omega)).mono ?_
     rw[hGe.out]
     rintro e v2 ⟨rfl,q2,rfl⟩
     go_wp2_with fail
     go_roundw
     case rel=>exact⟨2,by omega,rfl,by rw[hPe.out],by exact slc⟩
     case measure=>simp[intOf]
    ·have e0:((2:Nat):Int)=2:=rfl
     rw[e0]
     clear e0 hj
     go_wp2_with fail
     go_roundw
     case rel=>exact⟨k+1,by omega,by go_num,rfl,(hbw.next hb2).next hbj⟩
     case measure=>simp[intOf];omega
  ·obtain rfl:k=n:=by omega
   have hkm2:¬(k:Int)<(k:Int):=by omega
   go_wp2_with fail
   have hmsz:∀X:World,(X.alloc (.cells #[] 3)).heap.size=X.heap.size+1:=fun X=>by simp
   refine wp_gen (fun W3=>Bl wo W3∧∃vx vy cx cy,OwL 3 wo.heap.size W3 vx []∧OwL 3 wo.heap.size W3 vy []∧vx=.slice (some ⟨wo.heap.size,0,none⟩) 0 cx∧vy=.slice (some ⟨wo.heap.size+1,0,none⟩) 0 cy∧cx=0∧cy=0) ⟨by exact slc,_,_,0,0,(OwL.empty wo (Nat.le_refl _) (by decide)).alloc _,OwL.empty (wo.alloc (.cells #[] 3)) (by simp) (by decide),rfl,by rw[hmsz];rfl,rfl,rfl⟩ ?_
   rintro W3 ⟨hb3,vx,vy,cx,cy,hX,hY,hvx,hvy,rfl,rfl⟩
   rw[←hvx,←hvy]
   have hxy:∀ g,vx.ownBlock=Option.some g→vy.ownBlock≠Option.some g:=by
    rw[hvx,hvy]
    intro g e1 e2
    injection e1 with e1
    injection e2 with e2
    simp only at e1 e2
    omega
   clear hvx hvy hmsz
   have hSe:Hid (shTo pts k=shTo pts pts.length):=Lib.hid (by rw[hlen.out])
   obtain⟨S,hS⟩:∃S,shTo pts k=S:=⟨_,rfl⟩
   rw[hS]at hSe ⊢
   have hS1:S≤268435456:=by rw[←hS];exact shTo_le hok.out (by rw[hlen.out];omega)
   clear hS
   go_loopw [11,12,62] (fun sx sy v wr=>∃(i:Nat) (vx vy:Value),i≤k∧v=.int .i64 (i:Int)∧vx=sx∧vy=sy∧OwL 3 wo.heap.size wr vx (plXs pts i)∧OwL 3 wo.heap.size wr vy (plYs pts i)∧(∀g,vx.ownBlock=Option.some g→vy.ownBlock≠Option.some g)∧Bl wo wr) (fun _ _ v _=>k-(intOf v).toNat)
   case atStart=>exact⟨0,vx,vy,by omega,rfl,rfl,rfl,hX,hY,hxy,hb3⟩
   case round=>
    clear hX hY hxy hb3
    obtain⟨i,vx,vy,hi,rfl,rfl,rfl,hX,hY,hxy,hbi⟩:=hrel
    obtain⟨wj,rfl⟩:∃wj:World,wj=wr:=⟨_,rfl⟩
    have hbWj:=(hbW.next hbw).next hbi
    by_cases hin:i<k
    ·have hki:(i:Int)<(k:Int):=by omega
     obtain⟨sq,Aq,nq,cq,Bq,mq,dq,tq,Cq,iq,eq,Dq,jq,fq,⟨y0,y1,y2,y3,y4,y5⟩,hR1,hR2⟩:=pts_lit (RdPS.bl hp hbWj) hin
     rw[pix_map (by rw[hlen.out];exact hin)]at hR1 hR2
     have hsm1:=Lib.hid (hok.out.1 i (by rw[hlen.out];exact hin)).1
     have hsm2:=Lib.hid (hok.out.1 i (by rw[hlen.out];exact hin)).2
     obtain⟨hbx0,hbx1,hby0,hby1⟩:=hok.out.2.2 i (by rw[hlen.out];exact hin)
     rw[ix_plXs pts (by rw[hlen.out];exact hin),←hSe.out]at hbx0 hbx1
     rw[ix_plYs pts (by rw[hlen.out];exact hin),←hSe.out]at hby0 hby1
     have hl1:nq≤1:=by rw[←hR1.mag.len];exact hsm1.out.mag
     have hl2:iq≤1:=by rw[←hR2.mag.len];exact hsm2.out.mag
     obtain rfl:mq=1:=by rw[←hR1.den.len];exact hsm1.out.den
     obtain rfl:jq=1:=by rw[←hR2.den.len];exact hsm2.out.den
     have hXs:=plXs_succ pts i
     have hYs:=plYs_succ pts i
     rw[←hSe.out]at hXs hYs
     obtain⟨Nx,hNx⟩:∃N,(pix pts i).1.num=N:=⟨_,rfl⟩
     obtain⟨Dx,hDx⟩:∃D,(pix pts i).1.den=D:=⟨_,rfl⟩
     obtain⟨Qx,hQx⟩:∃Q,S / Dx=Q:=⟨_,rfl⟩
     have hD0x:0<Dx:=by rw[←hDx];exact(pix pts i).1.den_pos
     have hD1x:Dx<1000000000:=by rw[←hDx];exact hsm1.out.2
     have hN1x:Nx.natAbs<1000000000:=by rw[←hNx];exact hsm1.out.1
     have hQ1x:Qx≤268435456:=by rw[←hQx];exact Nat.le_trans (Nat.div_le_self _ _) hS1
     have hplx:plX pts S i=Nx*(Qx:Int):=by unfold plX;rw[hNx,hDx,hQx]
     obtain⟨Zx,hZx⟩:∃Z,Nx*(Qx:Int)=Z:=⟨_,rfl⟩
     rw[hZx]at hplx
     rw[hplx]at hbx0 hbx1
     have t1x:Int.tdiv (S:Int) (Dx:Int)=(Qx:Int):=by rw[←hQx];exact(Int.ofNat_tdiv S Dx).symm
     have t5x:(S:Int) / (Dx:Int)=(Qx:Int):=by rw[←hQx];exact(Int.natCast_ediv S Dx).symm
     have t2x:IntKind.i64.wrap (Qx:Int)=(Qx:Int):=IntWalk.i64_in _ (by omega)
     have t3x:IntKind.i64.wrap (Nx*(Qx:Int))=Zx:=by rw[hZx];exact IntWalk.i64_in _ (by omega)
     have t4x:¬(Dx:Int)=0:=by omega
     replace hplx:=Lib.hid hplx
     have hNex:=Lib.hid hNx
     have hDex:=Lib.hid hDx
     clear hNx hDx hQx hZx
     obtain⟨Ny,hNy⟩:∃N,(pix pts i).2.num=N:=⟨_,rfl⟩
     obtain⟨Dy,hDy⟩:∃D,(pix pts i).2.den=D:=⟨_,rfl⟩
     obtain⟨Qy,hQy⟩:∃Q,S / Dy=Q:=⟨_,rfl⟩
     have hD0y:0<Dy:=by rw[←hDy];exact(pix pts i).2.den_pos
     have hD1y:Dy<1000000000:=by rw[←hDy];exact hsm2.out.2
     have hN1y:Ny.natAbs<1000000000:=by rw[←hNy];exact hsm2.out.1
     have hQ1y:Qy≤268435456:=by rw[←hQy];exact Nat.le_trans (Nat.div_le_self _ _) hS1
     have hply:plY pts S i=Ny*(Qy:Int):=by unfold plY;rw[hNy,hDy,hQy]
     obtain⟨Zy,hZy⟩:∃Z,Ny*(Qy:Int)=Z:=⟨_,rfl⟩
     rw[hZy]at hply
     rw[hply]at hby0 hby1
     have t1y:Int.tdiv (S:Int) (Dy:Int)=(Qy:Int):=by rw[←hQy];exact(Int.ofNat_tdiv S Dy).symm
     have t5y:(S:Int) / (Dy:Int)=(Qy:Int):=by rw[←hQy];exact(Int.natCast_ediv S Dy).symm
     have t2y:IntKind.i64.wrap (Qy:Int)=(Qy:Int):=IntWalk.i64_in _ (by omega)
     have t3y:IntKind.i64.wrap (Ny*(Qy:Int))=Zy:=by rw[hZy];exact IntWalk.i64_in _ (by omega)
     have t4y:¬(Dy:Int)=0:=by omega
     replace hply:=Lib.hid hply
     have hNey:=Lib.hid hNy
     have hDey:=Lib.hid hDy
     clear hNy hDy hQy hZy
     rw[hplx.out]at hXs
     rw[hply.out]at hYs
     replace hXs:=Lib.hid hXs
     replace hYs:=Lib.hid hYs
     go_wp2_with fail
     refine calls_gen (fun W5=>Bl wj W5∧∃g8,Blk W5 g8 56 #[.bool sq,.slice Aq nq cq,.slice Bq 1 dq,.bool tq,.slice Cq iq eq,.slice Dq 1 fq]∧g8=wj.heap.size) ⟨by exact slc,_,by exact bts,rfl⟩ ?_
     rintro W5 ⟨hb5,g8,h8,hg8⟩
     rw[←hg8]
     clear hg8 y0 y1 y2 y3 y4 y5
     refine(small_any _ (RdR.bl hR1 hb5) hl1).mono ?_
     rintro e v1 ⟨rfl,hv1⟩
     have h8:=h8.bl hv1
     obtain⟨u0,u1,u2,u3,u4,u5⟩:=bx6 h8
     have hb6:=hb5.next hv1
     clear hb5 hv1
     rw[hNex.out,hDex.out]
     go_wp2_with fail
     refine(small_any _ (RdR.bl hR2 hb6) hl2).mono ?_
     rintro e v2 ⟨rfl,hv2⟩
     rw[hNey.out,hDey.out]
     have hb7:=hb6.next hv2
     clear u0 u1 u2 u3 u4 u5 h8 hb6 hv2
     go_wp2_with fail
     go_quiet (fail)
     go_upto_region 26 with (first |(go_at_call 24;(with_reducible refine(within_yes _ hbx0 hbx1).mono ?_);rintro e x1 ⟨rfl,q0,rfl⟩) |(go_at_call 24;(with_reducible refine(within_yes _ hby0 hby1).mono ?_);rintro e x2 ⟨rfl,q1,rfl⟩))
     refine wp_gen (fun W6=>Bl wj W6) (by exact slc) ?_
     intro W6 hb9
     have hX:=hX.bl hb9
     have hY:=hY.bl hb9
     have hbi:=hbi.next hb9
     go_wp2_with (first |((refine wpList_append_intX (w0:=wo) info_int Tryz.underlying28 rfl (.tmp 97) (.tmp 99) rfl _ (plXs pts i) (by rfl) hX hbi 1 (by rfl) (by rw[plXs_len];omega) ?_);intro vx7 w7 hX7 hb7 hoth;(have hY7:=OwL.keepX hY (fun g e=>(hoth g (hY.blk e).2 (fun e2=>hxy g e2 e)).1));(have hxy7:∀g,vx7.ownBlock=Option.some g→vy.ownBlock≠Option.some g:=fun g e e2=>(hoth g (hY.blk e2).2 (fun e3=>hxy g e3 e2)).2 e)) |((refine wpList_append_intX (w0:=wo) info_int Tryz.underlying28 rfl (.tmp 101) (.tmp 103) rfl _ (plYs pts i) (by rfl) hY7 hb7 1 (by rfl) (by rw[plYs_len];omega) ?_);intro vy8 w8 hY8 hb8 hoth2;(have hX8:=OwL.keepX hX7 (fun g e=>(hoth2 g (hX7.blk e).2 (fun e2=>hxy7 g e e2)).1));(have hxy8:∀g,vx7.ownBlock=Option.some g→vy8.ownBlock≠Option.some g:=fun g e e2=>(hoth2 g (hX7.blk e).2 (fun e3=>hxy7 g e e3)).2 e2)))
     rw[←hXs.out]at hX8
     rw[←hYs.out]at hY8
     go_roundw
     case rel=>exact⟨i+1,vx7,vy8,by omega,by go_num,rfl,rfl,hX8,hY8,hxy8,hb8⟩
     case measure=>simp[intOf];omega
    ·obtain rfl:i=k:=by omega
     have hkm2:¬(i:Int)<(i:Int):=by omega
     obtain⟨gx,cx,hvx,hXr⟩:=hX.lit (by rw[plXs_len];omega) (by rw[plXs_len];omega)
     obtain⟨gy,cy,hvy,hYr⟩:=hY.lit (by rw[plYs_len];omega) (by rw[plYs_len];omega)
     have hgx:=(hX.blk (g:=gx) (by rw[hvx];rfl)).1
     have hgy:=(hY.blk (g:=gy) (by rw[hvy];rfl)).1
     rw[plXs_len]at hvx hXr
     rw[plYs_len]at hvy hYr
     subst hvx hvy
     have hWs:=hbw.size
     have hO9:=hO.bl (hbw.next hbi)
     have hR9:=hRs.bl (hbw.next hbi)
     have hOl:=hO.lt
     clear hX hY hxy hS1 hSe
     obtain⟨o0,o1,o2⟩:=bx3 hO9
     have of1:=hO9.frozen 1
     have of2:=hO9.frozen 2
     obtain⟨v0,x0⟩:=hR9.val_ (i:=0) (by omega)
     obtain⟨v1,x1⟩:=hR9.val_ (i:=1) (by omega)
     obtain⟨v2,x2⟩:=hR9.val_ (i:=2) (by omega)
     obtain⟨cs4,hB4,hc4⟩:=hR9
     have hf0:=hB4.frozen 0
     have hf1:=hB4.frozen 1
     have hf2:=hB4.frozen 2
     go_wp2_with fail
     have hfx:∀(X:World) (b o:Nat) (u:Value),RdI X (some ⟨gx,0,none⟩) i cx (plXs pts i)→b<wo.heap.size→RdI (X.setCell ⟨b,o,none⟩ u) (some ⟨gx,0,none⟩) i cx (plXs pts i):=fun X b o u h hb=>h.setLit (by simp;omega) u
     have hfy:∀(X:World) (b o:Nat) (u:Value),RdI X (some ⟨gy,0,none⟩) i cy (plYs pts i)→b<wo.heap.size→RdI (X.setCell ⟨b,o,none⟩ u) (some ⟨gy,0,none⟩) i cy (plYs pts i):=fun X b o u h hb=>h.setLit (by simp;omega) u
     exact bodyPost_ret (v:=.agg #[.slice (some ⟨gp,0,none⟩) i cp,.slice (some ⟨gx,0,none⟩) i cx,.slice (some ⟨gy,0,none⟩) i cy]) (by simp[results,Tryz.results29,go_sem,x0,x1,x2]) rfl ⟨gx,cx,gy,cy,rfl,hfx _ _ _ _ (hfx _ _ _ _ (hfx _ _ _ _ (hfx _ _ _ _ (hfx _ _ _ _ hXr (by omega)) (by omega)) (by omega)) (by omega)) (by omega),hfy _ _ _ _ (hfy _ _ _ _ (hfy _ _ _ _ (hfy _ _ _ _ (hfy _ _ _ _ hYr (by omega)) (by omega)) (by omega)) (by omega)) (by omega),by exact slc⟩
end
section
open Go.RowKit
structure MeQ where
 pts:List (Rat × Rat)
 tris:List TriD
 deriving DecidableEq
structure MeshOk (m:MeQ):Prop where
 n3:3≤m.pts.length
 n40:m.pts.length≤40
 t1:1≤m.tris.length
 t48:m.tris.length≤48
 diff:∀k,k<m.pts.length→∀j,j<k→pix m.pts k≠pix m.pts j
 place:PlOk m.pts
 ixs:TrsIx m.pts.length m.tris
 reg:∀k,k<m.tris.length→(0≤(pix m.tris k).region∧(pix m.tris k).region≤2)∧0≤(pix m.tris k).level∧(pix m.tris k).level≤60
 pos:∀k,k<m.tris.length→0<trn (plXs m.pts m.pts.length) (plYs m.pts m.pts.length) (pix m.tris k).a (pix m.tris k).b (pix m.tris k).c
 sep:∀k,k<m.tris.length→∀j,j<k→sepI (plXs m.pts m.pts.length) (plYs m.pts m.pts.length) (pix m.tris j) (pix m.tris k)=true∨sepI (plXs m.pts m.pts.length) (plYs m.pts m.pts.length) (pix m.tris k) (pix m.tris j)=true
 used:∀k:Nat,k<m.pts.length→∃j,j<m.tris.length∧((pix m.tris j).a=k∨(pix m.tris j).b=k∨(pix m.tris j).c=k)
 noIn:NoIn m.pts.length (plXs m.pts m.pts.length) (plYs m.pts m.pts.length) m.tris
theorem MeshOk.ptsOk {m:MeQ}(h:MeshOk m):PtsOk (m.pts.map tp):=by
 intro k hk
 rw[List.length_map]at hk
 rw[pix_map hk]
 obtain⟨s1,s2⟩:=h.place.1 k hk
 refine⟨⟨s1.fit.ok,s2.fit.ok⟩,fun j hj=>?_⟩
 rw[pix_map (by omega)]
 refine eqP_no fun e=>h.diff k hk j hj ?_
 unfold tp at e
 injection e with e1 e2
 exact Prod.ext (toR_inj e1) (toR_inj e2)
def usedTo (ts:List TriD):Nat→Nat→Bool
 | 0,_=>false
 | k+1,i=>usedTo ts k i||(decide ((pix ts k).a=i)||(decide ((pix ts k).b=i)||decide ((pix ts k).c=i)))
theorem usedTo_of {ts:List TriD}{i:Nat}:∀{k j:Nat},j<k→((pix ts j).a=i∨(pix ts j).b=i∨(pix ts j).c=i)→usedTo ts k i=true
 | k+1,j,hj,h=>by
  unfold usedTo
  rcases Nat.lt_succ_iff_lt_or_eq.1 hj with hj|rfl
  ·rw[usedTo_of hj h];rfl
  ·rcases h with h|h|h <;> simp[h]
def OwU (w:World) (g n:Nat) (b:Nat→Bool):Prop:=∃cs,Blk w g 4 cs∧cs.size=n∧∀i,i<n→cs[i]?=some (.bool (b i))
theorem OwU.bl {w W:World}{g n:Nat}{b:Nat→Bool}(h:OwU w g n b) (hb:Bl w W):OwU W g n b:=by
 obtain⟨cs,h1,h2⟩:=h
 exact⟨cs,h1.bl hb,h2⟩
theorem OwU.lt {w:World}{g n:Nat}{b:Nat→Bool}(h:OwU w g n b):g<w.heap.size:=by
 obtain⟨cs,h1,h2⟩:=h
 exact h1.lt
theorem OwU.cell {w:World}{g n:Nat}{b:Nat→Bool}(h:OwU w g n b) {i:Nat}(hi:i<n):w.cell? ⟨g,i,none⟩=some (.bool (b i)):=by
 obtain⟨cs,h1,_,h2⟩:=h
 exact(h1.cell i).trans (h2 i hi)
theorem OwU.frozen {w:World}{g n:Nat}{b:Nat→Bool}(h:OwU w g n b) (i:Nat):w.frozen? ⟨g,i,none⟩=false:=by
 obtain⟨cs,h1,_⟩:=h
 exact h1.frozen i
theorem OwU.set {w:World}{g n:Nat}{b:Nat→Bool}(h:OwU w g n b) (k:Nat) (x:Bool):OwU (w.setCell ⟨g,k,none⟩ (.bool x)) g n (fun i=>if i=k then x else b i):=by
 obtain⟨cs,h1,h2,h3⟩:=h
 refine⟨_,h1.set_ k _,by simpa using h2,fun i hi=>?_⟩
 show _=some (Value.bool (if i=k then x else b i))
 by_cases e:i=k
 ·subst e
  rw[if_pos rfl]
  simp[h2,hi]
 ·rw[if_neg e,Array.getElem?_setIfInBounds_ne (by omega)]
  exact h3 i hi
theorem OwU.congr {w:World}{g n:Nat}{b b':Nat→Bool}(h:OwU w g n b) (e:∀i,i<n→b i=b' i):OwU w g n b':=by
 obtain⟨cs,h1,h2,h3⟩:=h
 exact⟨cs,h1,h2,fun i hi=>by rw[←e i hi];exact h3 i hi⟩
theorem IndexBool_no (w:World) {g n c:Nat}(hc:∀i,i<n→w.cell? ⟨g,i,none⟩=some (.bool true)) (hn:n≤1048576) :
  Calls Tryz.prog 64 #[.slice (some ⟨g,0,none⟩) n c,.bool false] w fun e w'=>e=.returned (.int .i64 (-1))∧w'=w:=by
 replace hc:=Lib.hid hc
 go_enter Tryz.func64,Tryz.ntmps64
 go_wp2_with fail
 go_loop [8] (fun i=>∃k:Nat,k≤n∧i=.int .i64 (k:Int)) (fun i=>n-(intOf i).toNat)
 case atStart=>exact⟨0,Nat.zero_le _,rfl⟩
 case round=>
  obtain⟨k,hk,rfl⟩:=hrel
  by_cases hkn:k<n
  ·have hki:(k:Int)<(n:Int):=by omega
   have y0:=hc.out k hkn
   go_wp2_with fail
   go_round
   case rel=>exact⟨k+1,by omega,by go_num⟩
   case measure=>simp[intOf];omega
  ·obtain rfl:k=n:=by omega
   have hkm2:¬(k:Int)<(k:Int):=by omega
   go_wp2_with fail
   go_ret
   exact⟨rfl,rfl⟩
theorem ContainsBool_no (w:World) {g n c:Nat}(hc:∀i,i<n→w.cell? ⟨g,i,none⟩=some (.bool true)) (hn:n≤1048576) :
  Calls Tryz.prog 33 #[.slice (some ⟨g,0,none⟩) n c,.bool false] w fun e w'=>e=.returned (.bool false)∧w'=w:=by
 replace hc:=Lib.hid hc
 go_enter Tryz.func33,Tryz.ntmps33
 go_wp2_with fail
 refine(IndexBool_no _ hc.out hn).mono ?_
 rintro e w1 ⟨rfl,rfl⟩
 go_wp2_with fail
 go_ret
 exact⟨rfl,rfl⟩
end
end Go.Proofs.YtmkcacgmnnlddaaGreat
