import Derived.Test.YtjaapemopbbfaaaGreatDoorPMeshesM36
namespace Go.Proofs.YtjaapemopbbfaaaGreatDoor
open Go.RowKit
set_option maxRecDepth 100000
set_option maxHeartbeats 32000000
theorem yk {W:World}{ops:Array Oper}{rest:List Oper}{o:Oper}{a:Act}{Q:Exit->Act->World->Prop}(hgd:o.guard=none) (s x:Operand)
  (ho:o.op=.call { callee:=.builtin .append,args:=#[s,x],argTypes:=#[47,47] }) (v:Value) (l:List qC) (hs:a.eval s=v) {base:Nat}(hown:OwT base W v l) (hbase:base<=W.heap.size) (w0:World) (hb:Bl w0 W) (h0:w0.heap.size<=base)
  (g m c:Nat) (hx:a.eval x=.slice (some ⟨g,0,none⟩) m c) (ys:List qC) (hr:zx W (some ⟨g,0,none⟩) m c ys) (hlen:l.length<=1048576) (hm:m<=1048576)
  (h:∀v' w',OwT base w' v' (l++ys)->(v'=.slice none 0 0↔v=.slice none 0 0/\m=0)->Bl w0 w'->(W.heap.size<=w'.heap.size/\∀g,g<W.heap.size->v.ownBlock≠some g->w'.heap[g]?=W.heap[g]?/\v'.ownBlock≠some g)->wpList Tryz.prog ops Q rest (a.put o.dst v') w'):wpList Tryz.prog ops Q (o::rest) a W:=by
 have hw:Region.wanted o (yielded ops a.tmps)=true:=by simp[Region.wanted,hgd]
 have h1:=JK (ops:=ops) (F:=True) (K:=wpList Tryz.prog ops Q rest) (Q:=Q) hgd s x ho v l hs hown hbase w0 hb h0 g m c hx ys hr hlen hm h
 rw[if_pos hw]at h1
 unfold wpList
 rw[if_pos hw]
 exact .inl h1
theorem KB (w:World) (t:qC):zx (w.alloc (.cells #[.int .i64 t.a,.int .i64 t.b,.int .i64 t.c,.int .i64 t.region,.int .i64 t.level] 83)) (some ⟨w.heap.size,0,none⟩) 1 1 [t]:=by
 obtain⟨g,c,hv,_,h,_,_⟩:=(OwT.one (base:=0) w t (Nat.zero_le _)).lit (λe=>by cases e)
 injection hv with e1 e2 e3
 injection e1 with e1
 injection e1 with e1
 subst e1 e3
 exact h
def qbw (mid:Int->Int->Int):Nat->qC->Prop
 | 0,t=>mid t.b t.c<0
 | d+1,t=>mid t.b t.c<0\/(qbw mid d (hvA t (mid t.b t.c))/\qbw mid d (hvB t (mid t.b t.c)))
def qdz (base:Nat) (w0 w:World) (v:Value) (l:List qC) (en:Ending) (w':World):Prop:=∃v',en=.returned v'/\OwT base w' v' l/\v'≠.slice none 0 0/\Bl w0 w'/\w.heap.size<=w'.heap.size/\∀g,g<w.heap.size->v.ownBlock≠some g->w'.heap[g]?=w.heap[g]?/\v'.ownBlock≠some g
theorem Ul {L:List EdD}{md:List Int}{a b:Int}(h:yG (qS a b) L=true):J2 L md a b=ix md (zD (qS a b) L):=if_pos h
theorem OwT.ownNe {base:Nat}{w:World}{v:Value}{l:List qC}(h:OwT base w v l) {g:Nat}(hg:w.heap.size<=g):v.ownBlock≠some g:=λe=>by have:=(h.blk e).2;omega
theorem Zu {w0:World}{ge ne ce gm dm:Nat}{L:List EdD}{md:List Int}(hes:Yn w0 (some ⟨ge,0,none⟩) ne ce L) (hmd:RdI w0 (some ⟨gm,0,none⟩) ne dm md) (hs:Zr L) (hN:Xj L) (hnl:ne<=1000) {base:Nat}(h0:w0.heap.size<=base) (d:Nat) (w:World) (t:qC) (v:Value) (l:List qC) (hleaf:J2 L md t.b t.c<0) (hown:OwT base w v l) (hlen:l.length<=10000) (hbase:base<=w.heap.size) (hb:Bl w0 w) :
  Calls Tryz.prog 159 #[v,.agg #[.int .i64 t.a,.int .i64 t.b,.int .i64 t.c,.int .i64 t.region,.int .i64 t.level],.slice (some ⟨ge,0,none⟩) ne ce,.slice (some ⟨gm,0,none⟩) ne dm] w (qdz base w0 w v (l++bsT (J2 L md) d t)):=by
 have hv:=Lib.hid (qdt (d:=d) hleaf)
 rw[hv.out]
 replace hs:=Lib.hid hs
 replace hN:=Lib.hid hN
 by_cases hf:yG (qS t.b t.c) L=true
 ·rw[Ul hf]at hleaf
  have hed:=Lib.hid (Qc hf)
  obtain⟨P,hP⟩:∃P,zD (qS t.b t.c) L=P:=⟨_,rfl⟩
  have hPn:P<ne:=by rw[<-hP,<-hes.len];exact Qp hf
  rw[hP]at hleaf hed
  obtain⟨x,hx⟩:∃x,ix md P=x:=⟨_,rfl⟩
  rw[hx]at hleaf
  obtain⟨_,ee,hlt,hc⟩:=hmd.cells P hPn
  cases ee
  rw[Addr.add_lit,Nat.zero_add,hx]at hc
  have hgm:gm<w0.heap.size:=hlt
  clear hf hP hx hlt
  go_enter Tryz.func159,Tryz.ntmps159
  go_wp2_with fail
  refine qd (λW=>Bl w W/\Blk W w.heap.size 83 #[.int .i64 t.a,.int .i64 t.b,.int .i64 t.c,.int .i64 t.region,.int .i64 t.level]) ⟨slc,bts⟩ ?_
  rintro W ⟨hbw,h5⟩
  refine(zh _ (hes.bl (hb.next hbw)) hs.out hN.out (by omega) t.b t.c).mono ?_
  rw[hed.out]
  rintro e w1 ⟨rfl,hb1⟩
  have hcx:=(Bl.qeV (w:=w0) (p:=⟨gm,P,none⟩) (hb.next (hbw.next hb1)) hgm).trans hc
  have h5:=h5.bl hb1
  have hbw:=hbw.next hb1
  obtain⟨y0,y1,y2,y3,y4⟩:=bx5 h5
  have hPi:(P:Int)<(ne:Int):=by omega
  have hP0:decide ((P:Int)<0)=false:=by simp
  have hx0:decide (x<0)=true:=decide_eq_true hleaf
  have hz8:=hbw.size
  clear hc hb1
  go_wp2_with (first |(refine yk rfl (.tmp 25) (.tmp 27) rfl _ l (by rfl) (hown.bl (show Bl w _ from slc)) (by simp;omega) w0 (hb.next (show Bl w _ from slc)) h0 _ 1 1 (by rfl) [t] (by exact KB _ t) (by omega) (by omega) ?_;intro v' w8 g1 g2 g3 g4))
  have hvn:v'≠.slice none 0 0:=λe=>by have:=(g2.1 e).2;omega
  go_ret
  exact⟨v',rfl,g1,hvn,g3,by have:=g4.1;simp at this;omega,λg hg hn=>⟨(g4.2 g (by simp;omega) hn).1.trans (Below.block (show Bl w _ from slc) g hg),(g4.2 g (by simp;omega) hn).2⟩⟩
 ·have hed:=Lib.hid (show edI L t.b t.c=-1 from if_neg hf)
  clear hf hleaf
  go_enter Tryz.func159,Tryz.ntmps159
  go_wp2_with fail
  refine qd (λW=>Bl w W/\Blk W w.heap.size 83 #[.int .i64 t.a,.int .i64 t.b,.int .i64 t.c,.int .i64 t.region,.int .i64 t.level]) ⟨slc,bts⟩ ?_
  rintro W ⟨hbw,h5⟩
  refine(zh _ (hes.bl (hb.next hbw)) hs.out hN.out (by omega) t.b t.c).mono ?_
  rw[hed.out]
  rintro e w1 ⟨rfl,hb1⟩
  have h5:=h5.bl hb1
  have hbw:=hbw.next hb1
  obtain⟨y0,y1,y2,y3,y4⟩:=bx5 h5
  have hz8:=hbw.size
  clear hb1
  go_wp2_with (first |(refine yk rfl (.tmp 25) (.tmp 27) rfl _ l (by rfl) (hown.bl (show Bl w _ from slc)) (by simp;omega) w0 (hb.next (show Bl w _ from slc)) h0 _ 1 1 (by rfl) [t] (by exact KB _ t) (by omega) (by omega) ?_;intro v' w8 g1 g2 g3 g4))
  have hvn:v'≠.slice none 0 0:=λe=>by have:=(g2.1 e).2;omega
  go_ret
  exact⟨v',rfl,g1,hvn,g3,by have:=g4.1;simp at this;omega,λg hg hn=>⟨(g4.2 g (by simp;omega) hn).1.trans (Below.block (show Bl w _ from slc) g hg),(g4.2 g (by simp;omega) hn).2⟩⟩
theorem xo {w0:World}{ge ne ce gm dm:Nat}{L:List EdD}{md:List Int}(hes:Yn w0 (some ⟨ge,0,none⟩) ne ce L) (hmd:RdI w0 (some ⟨gm,0,none⟩) ne dm md) (hs:Zr L) (hN:Xj L) (hnl:ne<=1000) {base:Nat}(h0:w0.heap.size<=base):∀(d:Nat),d<=10->∀(w:World) (t:qC) (v:Value) (l:List qC),qbw (J2 L md) d t->(-1000<=t.level/\t.level<=1000-d)->OwT base w v l->l.length+2 ^ d<=10000->base<=w.heap.size->Bl w0 w ->
  Calls Tryz.prog 159 #[v,.agg #[.int .i64 t.a,.int .i64 t.b,.int .i64 t.c,.int .i64 t.region,.int .i64 t.level],.slice (some ⟨ge,0,none⟩) ne ce,.slice (some ⟨gm,0,none⟩) ne dm] w (qdz base w0 w v (l++bsT (J2 L md) d t)):=by
 intro d
 induction d with
 | zero=>
  intro _ w t v l hT hlv hown hlen hbase hb
  exact Zu hes hmd hs hN hnl h0 0 w t v l hT hown (by omega) hbase hb
 | succ d ih=>
  intro hd w t v l hT hlv hown hlen hbase hb
  by_cases hleaf:J2 L md t.b t.c<0
  ·exact Zu hes hmd hs hN hnl h0 (d+1) w t v l hleaf hown (by have:=Nat.two_pow_pos (d+1);omega) hbase hb
  ·have ih:=ih (by omega)
   obtain⟨hTA,hTB⟩:=hT.resolve_left hleaf
   have hf:yG (qS t.b t.c) L=true:=by
    by_cases hf:yG (qS t.b t.c) L=true
    ·exact hf
    ·exact absurd (show J2 L md t.b t.c<0 by unfold J2;rw[if_neg hf];omega) hleaf
   obtain⟨x,hx⟩:∃x,J2 L md t.b t.c=x:=⟨_,rfl⟩
   have hv:=Lib.hid (qbI (d:=d) hx (by rw[<-hx];exact hleaf))
   rw[hv.out]
   rw[hx]at hTA hTB hleaf
   have hxm:=hx
   rw[Ul hf]at hxm
   have hed:=Lib.hid (Qc hf)
   obtain⟨P,hP⟩:∃P,zD (qS t.b t.c) L=P:=⟨_,rfl⟩
   have hPn:P<ne:=by rw[<-hP,<-hes.len];exact Qp hf
   rw[hP]at hxm hed
   obtain⟨_,ee,hlt,hc⟩:=hmd.cells P hPn
   cases ee
   rw[Addr.add_lit,Nat.zero_add,hxm]at hc
   have hgm:gm<w0.heap.size:=hlt
   obtain⟨mid,hmid⟩:∃mid,J2 L md=mid:=⟨_,rfl⟩
   rw[hmid]at ih hTA hTB hv ⊢
   have hsA:=Vn mid d (hvA t x)
   have hp2:2 ^ (d+1)=2 ^ d+2 ^ d:=by rw[Nat.pow_succ];omega
   have hp3:2 ^ d<=1024:=Nat.pow_le_pow_right (by omega) (show d<=10 by omega)
   obtain⟨tA,htA⟩:∃tA,hvA t x=tA:=⟨_,rfl⟩
   obtain⟨tB,htB⟩:∃tB,hvB t x=tB:=⟨_,rfl⟩
   have hlA : -1000<=tA.level/\tA.level<=1000-(d:Int):=by rw[<-htA];exact(show -1000<=t.level+1/\t.level+1<=1000-(d:Int)by omega)
   have hlB : -1000<=tB.level/\tB.level<=1000-(d:Int):=by rw[<-htB];exact(show -1000<=t.level+1/\t.level+1<=1000-(d:Int)by omega)
   have hAc:=Lib.hid (show (Value.agg #[.int .i64 tA.a,.int .i64 tA.b,.int .i64 tA.c,.int .i64 tA.region,.int .i64 tA.level])=.agg #[.int .i64 x,.int .i64 t.a,.int .i64 t.b,.int .i64 t.region,.int .i64 (t.level+1)]by rw[<-htA];rfl)
   have hBc:=Lib.hid (show (Value.agg #[.int .i64 tB.a,.int .i64 tB.b,.int .i64 tB.c,.int .i64 tB.region,.int .i64 tB.level])=.agg #[.int .i64 x,.int .i64 t.c,.int .i64 t.a,.int .i64 t.region,.int .i64 (t.level+1)]by rw[<-htB];rfl)
   have hwl:IntKind.i64.wrap (t.level+1)=t.level+1:=IntWalk.i64_in _ (by omega)
   rw[htA]at hTA hsA
   rw[htB]at hTB
   rw[htA,htB]
   clear hf hP hx hxm hlt htA htB hv
   replace hmid:=Lib.hid hmid
   replace hs:=Lib.hid hs
   replace hN:=Lib.hid hN
   replace hTA:=Lib.hid hTA
   replace hTB:=Lib.hid hTB
   go_enter Tryz.func159,Tryz.ntmps159
   go_wp2_with fail
   refine qd (λW=>Bl w W/\Blk W w.heap.size 83 #[.int .i64 t.a,.int .i64 t.b,.int .i64 t.c,.int .i64 t.region,.int .i64 t.level]) ⟨slc,bts⟩ ?_
   rintro W ⟨hbw,h5⟩
   refine(zh _ (hes.bl (hb.next hbw)) hs.out hN.out (by omega) t.b t.c).mono ?_
   rw[hed.out]
   rintro e w1 ⟨rfl,hb1⟩
   have hgm1:gm<w1.heap.size:=Nat.lt_of_lt_of_le hgm (hb.next (hbw.next hb1)).size
   have hcx:=(Bl.qeV (w:=w0) (p:=⟨gm,P,none⟩) (hb.next (hbw.next hb1)) hgm).trans hc
   have h5:=h5.bl hb1
   have hbw:=hbw.next hb1
   obtain⟨g5,hg5⟩:∃g,w.heap.size=g:=⟨_,rfl⟩
   rw[hg5]at h5 ⊢
   obtain⟨y0,y1,y2,y3,y4⟩:=bx5 h5
   have hPi:(P:Int)<(ne:Int):=by omega
   have hP0:decide ((P:Int)<0)=false:=by simp
   have hx0:decide (x<0)=false:=by simp;omega
   have hz1:=hbw.size
   have hc0:=hc
   have h5w:=h5
   clear hc hb1
   obtain⟨W1,rfl⟩:∃W1:World,W1=w1:=⟨_,rfl⟩
   go_upto_region 4 with (fail)
   have hHeld:(λw'=>(w'.cell? ⟨g5,0,none⟩=some (.int .i64 t.a)/\w'.cell? ⟨g5,1,none⟩=some (.int .i64 t.b)/\w'.cell? ⟨g5,2,none⟩=some (.int .i64 t.c)/\w'.cell? ⟨g5,3,none⟩=some (.int .i64 t.region)/\w'.cell? ⟨g5,4,none⟩=some (.int .i64 t.level))/\w'.cell? ⟨gm,P,none⟩=some (.int .i64 x)) (W1.drew):=⟨bx5 (T:=83) (h5.bl slc),(Bl.qeV (w:=W1) (p:=⟨gm,P,none⟩) slc hgm1).trans hcx⟩
   refine yp 18 19 (λw'=>(w'.cell? ⟨g5,0,none⟩=some (.int .i64 t.a)/\w'.cell? ⟨g5,1,none⟩=some (.int .i64 t.b)/\w'.cell? ⟨g5,2,none⟩=some (.int .i64 t.c)/\w'.cell? ⟨g5,3,none⟩=some (.int .i64 t.region)/\w'.cell? ⟨g5,4,none⟩=some (.int .i64 t.level))/\w'.cell? ⟨gm,P,none⟩=some (.int .i64 x)) rfl (by kernel_rfl) hHeld ?_
   refine qc (i:=0) (oi:=_) (v:=?_) (fuel:=18) rfl (by kernel_rfl) (by kernel_rfl) (by kernel_rfl) (by kernel_rfl) (λ_ _ _ h=>h) (by rfl) ?_ hHeld ?_
   rotate_left 1
   ·(intro w' hSw;(try dsimp only at hSw);go_simp <;> with_reducible rfl)
   refine qc (i:=1) (oi:=_) (v:=?_) (fuel:=17) rfl (by kernel_rfl) (by kernel_rfl) (by kernel_rfl) (by kernel_rfl) (λ_ _ _ h=>h) (by rfl) ?_ hHeld ?_
   rotate_left 1
   ·(intro w' hSw;(try dsimp only at hSw);go_simp <;> with_reducible rfl)
   refine qc (i:=2) (oi:=_) (v:=?_) (fuel:=16) rfl (by kernel_rfl) (by kernel_rfl) (by kernel_rfl) (by kernel_rfl) (λ_ _ _ h=>h) (by rfl) ?_ hHeld ?_
   rotate_left 1
   ·(intro w' hSw;(try dsimp only at hSw);go_simp <;> with_reducible rfl)
   refine qc (i:=3) (oi:=_) (v:=?_) (fuel:=15) rfl (by kernel_rfl) (by kernel_rfl) (by kernel_rfl) (by kernel_rfl) (λ_ _ _ h=>h) (by rfl) ?_ hHeld ?_
   rotate_left 1
   ·(intro w' hSw;(try dsimp only at hSw);go_simp <;> with_reducible rfl)
   refine qc (i:=4) (oi:=_) (v:=?_) (fuel:=14) rfl (by kernel_rfl) (by kernel_rfl) (by kernel_rfl) (by kernel_rfl) (λ_ _ _ h=>h) (by rfl) ?_ hHeld ?_
   rotate_left 1
   ·(intro w' hSw;(try dsimp only at hSw);go_simp <;> with_reducible rfl)
   refine qc (i:=5) (oi:=_) (v:=?_) (fuel:=13) rfl (by kernel_rfl) (by kernel_rfl) (by kernel_rfl) (by kernel_rfl) (λ_ _ _ h=>h) (by rfl) ?_ hHeld ?_
   rotate_left 1
   ·(intro w' hSw;(try dsimp only at hSw);go_simp <;> with_reducible rfl)
   refine qc (i:=6) (oi:=_) (v:=?_) (fuel:=12) rfl (by kernel_rfl) (by kernel_rfl) (by kernel_rfl) (by kernel_rfl) (λ_ _ _ h=>h) (by rfl) ?_ hHeld ?_
   rotate_left 1
   ·(intro w' hSw;(try dsimp only at hSw);go_simp <;> with_reducible rfl)
   refine qc (i:=7) (oi:=_) (v:=?_) (fuel:=11) rfl (by kernel_rfl) (by kernel_rfl) (by kernel_rfl) (by kernel_rfl) (λ_ _ _ h=>h) (by rfl) ?_ hHeld ?_
   rotate_left 1
   ·(intro w' hSw;(try dsimp only at hSw);go_simp <;> with_reducible rfl)
   refine qc (i:=8) (oi:=_) (v:=?_) (fuel:=10) rfl (by kernel_rfl) (by kernel_rfl) (by kernel_rfl) (by kernel_rfl) (λ_ _ _ h=>h) (by rfl) ?_ hHeld ?_
   rotate_left 1
   ·(intro w' hSw;(try dsimp only at hSw);go_simp <;> with_reducible rfl)
   refine qc (i:=9) (oi:=_) (v:=?_) (fuel:=9) rfl (by kernel_rfl) (by kernel_rfl) (by kernel_rfl) (by kernel_rfl) (λ_ _ _ h=>h) (by rfl) ?_ hHeld ?_
   rotate_left 1
   ·(intro w' hSw;(try dsimp only at hSw);go_simp <;> with_reducible rfl)
   refine qc (i:=10) (oi:=_) (v:=?_) (fuel:=8) rfl (by kernel_rfl) (by kernel_rfl) (by kernel_rfl) (by kernel_rfl) (λ_ _ _ h=>h) (by rfl) ?_ hHeld ?_
   rotate_left 1
   ·(intro w' hSw;(try dsimp only at hSw);go_simp <;> with_reducible rfl)
   refine qc (i:=11) (oi:=_) (v:=?_) (fuel:=7) rfl (by kernel_rfl) (by kernel_rfl) (by kernel_rfl) (by kernel_rfl) (λ_ _ _ h=>h) (by rfl) ?_ hHeld ?_
   rotate_left 1
   ·(intro w' hSw;(try dsimp only at hSw);go_simp <;> with_reducible rfl)
   refine qc (i:=12) (oi:=_) (v:=?_) (fuel:=6) rfl (by kernel_rfl) (by kernel_rfl) (by kernel_rfl) (by kernel_rfl) (λ_ _ _ h=>h) (by rfl) ?_ hHeld ?_
   rotate_left 1
   ·(intro w' hSw;(try dsimp only at hSw);go_simp <;> with_reducible rfl)
   refine qc (i:=13) (oi:=_) (v:=?_) (fuel:=5) rfl (by kernel_rfl) (by kernel_rfl) (by kernel_rfl) (by kernel_rfl) (λ_ _ _ h=>h) (by rfl) ?_ hHeld ?_
   rotate_left 1
   ·(intro w' hSw;(try dsimp only at hSw);go_simp <;> with_reducible rfl)
   refine qc (i:=14) (oi:=_) (v:=?_) (fuel:=4) rfl (by kernel_rfl) (by kernel_rfl) (by kernel_rfl) (by kernel_rfl) (λ_ _ _ h=>h) (by rfl) ?_ hHeld ?_
   rotate_left 1
   ·(intro w' hSw;(try dsimp only at hSw);go_simp <;> with_reducible rfl)
   refine qc (i:=15) (oi:=_) (v:=?_) (fuel:=3) rfl (by kernel_rfl) (by kernel_rfl) (by kernel_rfl) (by kernel_rfl) (λ_ _ _ h=>h) (by rfl) ?_ hHeld ?_
   rotate_left 1
   ·(intro w' hSw;(try dsimp only at hSw);go_simp <;> with_reducible rfl)
   refine qc (i:=16) (oi:=_) (v:=?_) (fuel:=2) rfl (by kernel_rfl) (by kernel_rfl) (by kernel_rfl) (by kernel_rfl) (λ_ _ _ h=>h) (by rfl) ?_ hHeld ?_
   rotate_left 1
   ·(intro w' hSw;(try dsimp only at hSw);go_simp <;> with_reducible rfl)
   clear hHeld
   simp only[Act.put,List.setIfInBounds_toArray]
   refine qG (i:=17) (o:=_) (fuel:=1) rfl (by kernel_rfl) (λK hK=>?_)
   go_simp
   rw[<-hAc.out]
   refine(ih _ tA v l hTA.out hlA (hown.bl (hbw.next (show Bl W1 _ from slc))) (by omega) (by exact Nat.le_trans hbase hz1) (hb.next (hbw.next (show Bl W1 _ from slc)))).mono ?_
   rintro e w2 ⟨v2,rfl,g1,g2,g3,g4,g6⟩
   have h5:Blk w2 g5 83 #[.int .i64 t.a,.int .i64 t.b,.int .i64 t.c,.int .i64 t.region,.int .i64 t.level]:=(g6 g5 h5.lt (hown.ownNe (by omega))).1.trans h5
   have hcx:=(Bl.qeV (w:=w0) (p:=⟨gm,P,none⟩) g3 hgm).trans hc0
   have hgm1:gm<w2.heap.size:=Nat.lt_of_lt_of_le hgm g3.size
   refine hK.out _ _ (λ_=>⟨bx5 (T:=83) h5,hcx⟩) ?_
   clear hK K
   try simp only[Act.put,List.setIfInBounds_toArray,List.set_cons_zero,List.set_cons_succ]
   refine qG (i:=18) (o:=_) (fuel:=0) rfl (by kernel_rfl) (λK hK=>?_)
   go_simp
   refine hK.out _ _ (λh=>absurd rfl h) ?_
   clear hK K
   try simp only[Act.put,List.setIfInBounds_toArray]
   refine ym (by kernel_rfl) ?_
   have hz2:base<=w2.heap.size:=Nat.le_trans (Nat.le_trans hbase hz1) g4
   obtain⟨W2,rfl⟩:∃W2:World,W2=w2:=⟨_,rfl⟩
   go_upto_region 5 with (fail)
   have hHeld:(λw'=>(w'.cell? ⟨g5,0,none⟩=some (.int .i64 t.a)/\w'.cell? ⟨g5,1,none⟩=some (.int .i64 t.b)/\w'.cell? ⟨g5,2,none⟩=some (.int .i64 t.c)/\w'.cell? ⟨g5,3,none⟩=some (.int .i64 t.region)/\w'.cell? ⟨g5,4,none⟩=some (.int .i64 t.level))/\w'.cell? ⟨gm,P,none⟩=some (.int .i64 x)) (W2.drew):=⟨bx5 (T:=83) (h5.bl slc),(Bl.qeV (w:=W2) (p:=⟨gm,P,none⟩) slc hgm1).trans hcx⟩
   refine yp 18 19 (λw'=>(w'.cell? ⟨g5,0,none⟩=some (.int .i64 t.a)/\w'.cell? ⟨g5,1,none⟩=some (.int .i64 t.b)/\w'.cell? ⟨g5,2,none⟩=some (.int .i64 t.c)/\w'.cell? ⟨g5,3,none⟩=some (.int .i64 t.region)/\w'.cell? ⟨g5,4,none⟩=some (.int .i64 t.level))/\w'.cell? ⟨gm,P,none⟩=some (.int .i64 x)) rfl (by kernel_rfl) hHeld ?_
   refine qc (i:=0) (oi:=_) (v:=?_) (fuel:=18) rfl (by kernel_rfl) (by kernel_rfl) (by kernel_rfl) (by kernel_rfl) (λ_ _ _ h=>h) (by rfl) ?_ hHeld ?_
   rotate_left 1
   ·(intro w' hSw;(try dsimp only at hSw);go_simp <;> with_reducible rfl)
   refine qc (i:=1) (oi:=_) (v:=?_) (fuel:=17) rfl (by kernel_rfl) (by kernel_rfl) (by kernel_rfl) (by kernel_rfl) (λ_ _ _ h=>h) (by rfl) ?_ hHeld ?_
   rotate_left 1
   ·(intro w' hSw;(try dsimp only at hSw);go_simp <;> with_reducible rfl)
   refine qc (i:=2) (oi:=_) (v:=?_) (fuel:=16) rfl (by kernel_rfl) (by kernel_rfl) (by kernel_rfl) (by kernel_rfl) (λ_ _ _ h=>h) (by rfl) ?_ hHeld ?_
   rotate_left 1
   ·(intro w' hSw;(try dsimp only at hSw);go_simp <;> with_reducible rfl)
   refine qc (i:=3) (oi:=_) (v:=?_) (fuel:=15) rfl (by kernel_rfl) (by kernel_rfl) (by kernel_rfl) (by kernel_rfl) (λ_ _ _ h=>h) (by rfl) ?_ hHeld ?_
   rotate_left 1
   ·(intro w' hSw;(try dsimp only at hSw);go_simp <;> with_reducible rfl)
   refine qc (i:=4) (oi:=_) (v:=?_) (fuel:=14) rfl (by kernel_rfl) (by kernel_rfl) (by kernel_rfl) (by kernel_rfl) (λ_ _ _ h=>h) (by rfl) ?_ hHeld ?_
   rotate_left 1
   ·(intro w' hSw;(try dsimp only at hSw);go_simp <;> with_reducible rfl)
   refine qc (i:=5) (oi:=_) (v:=?_) (fuel:=13) rfl (by kernel_rfl) (by kernel_rfl) (by kernel_rfl) (by kernel_rfl) (λ_ _ _ h=>h) (by rfl) ?_ hHeld ?_
   rotate_left 1
   ·(intro w' hSw;(try dsimp only at hSw);go_simp <;> with_reducible rfl)
   refine qc (i:=6) (oi:=_) (v:=?_) (fuel:=12) rfl (by kernel_rfl) (by kernel_rfl) (by kernel_rfl) (by kernel_rfl) (λ_ _ _ h=>h) (by rfl) ?_ hHeld ?_
   rotate_left 1
   ·(intro w' hSw;(try dsimp only at hSw);go_simp <;> with_reducible rfl)
   refine qc (i:=7) (oi:=_) (v:=?_) (fuel:=11) rfl (by kernel_rfl) (by kernel_rfl) (by kernel_rfl) (by kernel_rfl) (λ_ _ _ h=>h) (by rfl) ?_ hHeld ?_
   rotate_left 1
   ·(intro w' hSw;(try dsimp only at hSw);go_simp <;> with_reducible rfl)
   refine qc (i:=8) (oi:=_) (v:=?_) (fuel:=10) rfl (by kernel_rfl) (by kernel_rfl) (by kernel_rfl) (by kernel_rfl) (λ_ _ _ h=>h) (by rfl) ?_ hHeld ?_
   rotate_left 1
   ·(intro w' hSw;(try dsimp only at hSw);go_simp <;> with_reducible rfl)
   refine qc (i:=9) (oi:=_) (v:=?_) (fuel:=9) rfl (by kernel_rfl) (by kernel_rfl) (by kernel_rfl) (by kernel_rfl) (λ_ _ _ h=>h) (by rfl) ?_ hHeld ?_
   rotate_left 1
   ·(intro w' hSw;(try dsimp only at hSw);go_simp <;> with_reducible rfl)
   refine qc (i:=10) (oi:=_) (v:=?_) (fuel:=8) rfl (by kernel_rfl) (by kernel_rfl) (by kernel_rfl) (by kernel_rfl) (λ_ _ _ h=>h) (by rfl) ?_ hHeld ?_
   rotate_left 1
   ·(intro w' hSw;(try dsimp only at hSw);go_simp <;> with_reducible rfl)
   refine qc (i:=11) (oi:=_) (v:=?_) (fuel:=7) rfl (by kernel_rfl) (by kernel_rfl) (by kernel_rfl) (by kernel_rfl) (λ_ _ _ h=>h) (by rfl) ?_ hHeld ?_
   rotate_left 1
   ·(intro w' hSw;(try dsimp only at hSw);go_simp <;> with_reducible rfl)
   refine qc (i:=12) (oi:=_) (v:=?_) (fuel:=6) rfl (by kernel_rfl) (by kernel_rfl) (by kernel_rfl) (by kernel_rfl) (λ_ _ _ h=>h) (by rfl) ?_ hHeld ?_
   rotate_left 1
   ·(intro w' hSw;(try dsimp only at hSw);go_simp <;> with_reducible rfl)
   refine qc (i:=13) (oi:=_) (v:=?_) (fuel:=5) rfl (by kernel_rfl) (by kernel_rfl) (by kernel_rfl) (by kernel_rfl) (λ_ _ _ h=>h) (by rfl) ?_ hHeld ?_
   rotate_left 1
   ·(intro w' hSw;(try dsimp only at hSw);go_simp <;> with_reducible rfl)
   refine qc (i:=14) (oi:=_) (v:=?_) (fuel:=4) rfl (by kernel_rfl) (by kernel_rfl) (by kernel_rfl) (by kernel_rfl) (λ_ _ _ h=>h) (by rfl) ?_ hHeld ?_
   rotate_left 1
   ·(intro w' hSw;(try dsimp only at hSw);go_simp <;> with_reducible rfl)
   refine qc (i:=15) (oi:=_) (v:=?_) (fuel:=3) rfl (by kernel_rfl) (by kernel_rfl) (by kernel_rfl) (by kernel_rfl) (λ_ _ _ h=>h) (by rfl) ?_ hHeld ?_
   rotate_left 1
   ·(intro w' hSw;(try dsimp only at hSw);go_simp <;> with_reducible rfl)
   refine qc (i:=16) (oi:=_) (v:=?_) (fuel:=2) rfl (by kernel_rfl) (by kernel_rfl) (by kernel_rfl) (by kernel_rfl) (λ_ _ _ h=>h) (by rfl) ?_ hHeld ?_
   rotate_left 1
   ·(intro w' hSw;(try dsimp only at hSw);go_simp <;> with_reducible rfl)
   clear hHeld
   simp only[Act.put,List.setIfInBounds_toArray]
   refine qG (i:=17) (o:=_) (fuel:=1) rfl (by kernel_rfl) (λK hK=>?_)
   go_simp
   rw[<-hBc.out]
   refine(ih _ tB v2 (l++bsT mid d tA) hTB.out hlB (g1.bl (show Bl W2 _ from slc)) (by rw[List.length_append];omega) (by exact hz2) (g3.next (show Bl W2 _ from slc))).mono ?_
   rintro e w3 ⟨v3,rfl,k1,k2,k3,k4,k6⟩
   have h5:Blk w3 g5 83 #[.int .i64 t.a,.int .i64 t.b,.int .i64 t.c,.int .i64 t.region,.int .i64 t.level]:=(k6 g5 h5.lt (g6 g5 h5w.lt (hown.ownNe (by omega))).2).1.trans h5
   have hcx:=(Bl.qeV (w:=w0) (p:=⟨gm,P,none⟩) k3 hgm).trans hc0
   have hgm1:gm<w3.heap.size:=Nat.lt_of_lt_of_le hgm k3.size
   refine hK.out _ _ (λ_=>⟨bx5 (T:=83) h5,hcx⟩) ?_
   clear hK K
   try simp only[Act.put,List.setIfInBounds_toArray,List.set_cons_zero,List.set_cons_succ]
   refine qG (i:=18) (o:=_) (fuel:=0) rfl (by kernel_rfl) (λK hK=>?_)
   go_simp
   refine hK.out _ _ (λh=>absurd rfl h) ?_
   clear hK K
   try simp only[Act.put,List.setIfInBounds_toArray]
   refine ym (by kernel_rfl) ?_
   go_wp2_with fail
   go_ret
   exact⟨v3,rfl,by rw[<-List.append_assoc];exact k1,k2,k3,Nat.le_trans (Nat.le_trans hz1 g4) k4,λg hg hn=>by
    have q1:=g6 g (Nat.lt_of_lt_of_le hg hz1) hn
    have q2:=k6 g (Nat.lt_of_lt_of_le (Nat.lt_of_lt_of_le hg hz1) g4) q1.2
    exact⟨q2.1.trans (q1.1.trans (Below.block hbw g hg)),q2.2⟩⟩
def qc9 (mid:Int->Int->Int):Nat->qC->Bool
 | 0,t=>decide (mid t.b t.c<0)
 | d+1,t=>decide (mid t.b t.c<0)||(qc9 mid d (hvA t (mid t.b t.c))&&qc9 mid d (hvB t (mid t.b t.c)))
theorem XT {mid:Int->Int->Int}:∀{d:Nat}{t:qC},qc9 mid d t=true->qbw mid d t
 | 0,t,h=>(of_decide_eq_true (show decide (mid t.b t.c<0)=true from h):mid t.b t.c<0)
 | d+1,t,h=>by
  unfold qc9 at h
  simp only[Bool.or_eq_true,Bool.and_eq_true,decide_eq_true_eq]at h
  rcases h with h|h
  ·exact .inl h
  ·exact .inr ⟨XT h.1,XT h.2⟩
def qee (m:MeQ):Bool :=
 qev m && (decide (∀ k, k < m.tris.length -> (pix m.tris k).a ≠ (pix m.tris k).b /\ (pix m.tris k).b ≠ (pix m.tris k).c /\ (pix m.tris k).c ≠ (pix m.tris k).a) &&
  decide (∀k,k<m.tris.length->∀j,j<m.tris.length->qc9 (J2 (edL m.tris) (vo (clA m.tris (emA m.tris [(k:Int)])) m.pts.length (edL m.tris).length)) 2 (pix m.tris j)=true))
def qdS (b0:Nat) (w:World) (cs:Array Value) (ps:List PtD):Prop:=∀k,k<ps.length->∃s A n c B m d t C i e D j f,(cs[k*6]?=some (.bool s)/\cs[k*6+1]?=some (.slice A n c)/\cs[k*6+2]?=some (.slice B m d)/\cs[k*6+3]?=some (.bool t)/\cs[k*6+4]?=some (.slice C i e)/\cs[k*6+5]?=some (.slice D j f))/\zw YQ 3 b0 w s A n c B m d t C i e D j f (pix ps k)
def qei (cs:Array Value) (ts:List qC):Prop:=∀k,k<ts.length->cs[k*5]?=some (.int .i64 (pix ts k).a)/\cs[k*5+1]?=some (.int .i64 (pix ts k).b)/\cs[k*5+2]?=some (.int .i64 (pix ts k).c)/\cs[k*5+3]?=some (.int .i64 (pix ts k).region)/\cs[k*5+4]?=some (.int .i64 (pix ts k).level)
theorem zw.keepB {T:TypeId}{b0:Nat}{w W:World}{s:Bool}{A:Option Addr}{n c:Nat}{B:Option Addr}{m d:Nat}{t:Bool}{C:Option Addr}{i e:Nat}{D:Option Addr}{j f:Nat}{p:PtD}(h:zw YQ T b0 w s A n c B m d t C i e D j f p) (hs:w.heap.size<=W.heap.size) (hk:∀b,b0<=b->b<w.heap.size->W.heap[b]?=w.heap[b]?):zw YQ T b0 W s A n c B m d t C i e D j f p:=by
 obtain⟨c1,c2,h1,h2,hf,hn⟩:=h
 exact⟨c1,c2,h1.keep hs λb hb=>hk b (hf b (by simp[hb])).1 (hf b (by simp[hb])).2,h2.keep hs λb hb=>hk b (hf b (by simp[hb])).1 (hf b (by simp[hb])).2,λb hm=>⟨(hf b hm).1,Nat.lt_of_lt_of_le (hf b hm).2 hs⟩,hn⟩
theorem qdS.rd {b0:Nat}{w:World}{cs:Array Value}{ps:List PtD}(h:qdS b0 w cs ps) {g c:Nat}(hB:Blk w g 28 cs) (hc:ps.length<=c) (hl:ps.length<=1048576):qR w (some ⟨g,0,none⟩) ps.length c ps:=by
 refine⟨rfl,hc,by omega,λk hk=>⟨_,rfl,hB.lt,?_⟩⟩
 obtain⟨s,A,n,c,B,m,d,t,C,i,e,D,j,f,⟨h0,h1,h2,h3,h4,h5⟩,hP⟩:=h k hk
 rw[Addr.add_lit,Nat.zero_add]
 exact⟨_,_,_,_,_,_,_,_,_,_,_,_,_,_,⟨(hB.cell _).trans h0,(hB.cell _).trans h1,(hB.cell _).trans h2,(hB.cell _).trans h3,(hB.cell _).trans h4,(hB.cell _).trans h5⟩,hP.rdx.1,hP.rdx.2⟩
theorem qei.rd {w:World}{cs:Array Value}{ts:List qC}(h:qei cs ts) {g c:Nat}(hB:Blk w g 83 cs) (hc:ts.length<=c) (hl:ts.length<=1048576):zx w (some ⟨g,0,none⟩) ts.length c ts:=by
 refine⟨rfl,hc,by omega,λk hk=>⟨_,rfl,hB.lt,?_⟩⟩
 obtain⟨h0,h1,h2,h3,h4⟩:=h k hk
 rw[Addr.add_lit,Nat.zero_add]
 exact⟨(hB.cell _).trans h0,(hB.cell _).trans h1,(hB.cell _).trans h2,(hB.cell _).trans h3,(hB.cell _).trans h4⟩
theorem Qo.ofB {b0:Nat}{w:World}{gP gT nP nT:Nat}{cs cs2:Array Value}{mq:MeQ}(hB:Blk w gP 28 cs) (hB2:Blk w gT 83 cs2) (hP:qdS b0 w cs (mq.pts.map tp)) (hT:qei cs2 mq.tris) (h1:b0<=gP) (h2:b0<=gT) (hn:(mq.pts.map tp).length=nP) (hm:mq.tris.length=nT) (hn2:nP<=1048576) (hm2:nT<=1048576) :
  Qo b0 w (.agg #[.slice (some ⟨gP,0,none⟩) nP nP,.slice (some ⟨gT,0,none⟩) nT nT]) mq:=by
 subst hn hm
 have key:∀w',w.heap.size<=w'.heap.size->(∀b,b0<=b->b<w.heap.size->w'.heap[b]?=w.heap[b]?)->vO w' (.agg #[.slice (some ⟨gP,0,none⟩) (mq.pts.map tp).length (mq.pts.map tp).length,.slice (some ⟨gT,0,none⟩) mq.tris.length mq.tris.length]) mq:=λw' hs hk=>by
  have hP':qdS b0 w' cs (mq.pts.map tp):=λk hk2=>by
   obtain⟨s,A,n,c,B,m,d,t,C,i,e,D,j,f,hc,ho⟩:=hP k hk2
   exact⟨_,_,_,_,_,_,_,_,_,_,_,_,_,_,hc,ho.keepB hs hk⟩
  exact⟨gP,_,_,gT,_,_,rfl,hP'.rd ((hk gP h1 hB.lt).trans hB) (Nat.le_refl _) hn2,hT.rd ((hk gT h2 hB2.lt).trans hB2) (Nat.le_refl _) hm2⟩
 exact⟨key w (Nat.le_refl _) λ_ _ _=>rfl,key⟩
theorem Xt {α:Type}(a:Array α) (o:α) (f:α->α) {g:Nat}(hg:g<a.size):(a.modify g f).push o=(a.push o).modify g f:=by
 refine Array.ext_getElem? λi=>?_
 rw[Array.getElem?_push,Array.getElem?_modify,Array.getElem?_modify,Array.getElem?_push,Array.size_modify]
 by_cases h:i=a.size
 ·subst h
  rw[if_pos rfl,if_neg (by omega),if_pos rfl]
 ·rw[if_neg h,if_neg h]
theorem zd {W:World}{g i:Nat}(hg:g<W.heap.size) (o:Obj) (u:Value):(W.setCell ⟨g,i,none⟩ u).alloc o=(W.alloc o).setCell ⟨g,i,none⟩ u:=by
 unfold World.alloc World.setCell
 simp only
 rw[Xt _ _ _ hg]
theorem qcw:(⟨qm 0 1,qm 0 1⟩:PtD)=tp (0,0):=(ZC 0 0 (by omega) (by omega)).trans (congrArg tp (show qp1 0 0=(0,0)by decide +kernel))
theorem qew:(⟨qm 0 1,qm 1 1⟩:PtD)=tp (0,1):=(ZC 0 1 (by omega) (by omega)).trans (congrArg tp (show qp1 0 1=(0,1)by decide +kernel))
theorem qb2:(⟨qm 0 1,qm 2 1⟩:PtD)=tp (0,2):=(ZC 0 2 (by omega) (by omega)).trans (congrArg tp (show qp1 0 2=(0,2)by decide +kernel))
theorem qey:(⟨qm 1 1,qm 0 1⟩:PtD)=tp (1,0):=(ZC 1 0 (by omega) (by omega)).trans (congrArg tp (show qp1 1 0=(1,0)by decide +kernel))
theorem qdH:(⟨qm 1 1,qm 1 1⟩:PtD)=tp (1,1):=(ZC 1 1 (by omega) (by omega)).trans (congrArg tp (show qp1 1 1=(1,1)by decide +kernel))
theorem qeA:(⟨qm 1 1,qm 2 1⟩:PtD)=tp (1,2):=(ZC 1 2 (by omega) (by omega)).trans (congrArg tp (show qp1 1 2=(1,2)by decide +kernel))
theorem qcD:(⟨qm 2 1,qm 0 1⟩:PtD)=tp (2,0):=(ZC 2 0 (by omega) (by omega)).trans (congrArg tp (show qp1 2 0=(2,0)by decide +kernel))
theorem qdN:(⟨qm 2 1,qm 1 1⟩:PtD)=tp (2,1):=(ZC 2 1 (by omega) (by omega)).trans (congrArg tp (show qp1 2 1=(2,1)by decide +kernel))
theorem qeq:(⟨qm 2 1,qm 2 1⟩:PtD)=tp (2,2):=(ZC 2 2 (by omega) (by omega)).trans (congrArg tp (show qp1 2 2=(2,2)by decide +kernel))
theorem KP {r:Int}(h0:0<=r) (h1:r<2):qa6 r∈csL:=by
 rcases(show r=0\/r=1 by omega)with rfl|rfl <;> simp[csL]
theorem KN {r:Int}(h0:0<=r) (h1:r<3):K7 r∈csL:=by
 rcases(show r=0\/r=1\/r=2 by omega)with rfl|rfl|rfl <;> simp[csL]
theorem Ki:qbl∈csL:=by simp[csL]
end Go.Proofs.YtjaapemopbbfaaaGreatDoor
