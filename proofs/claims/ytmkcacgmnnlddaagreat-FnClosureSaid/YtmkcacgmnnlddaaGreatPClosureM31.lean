import Derived.Test.YtmkcacgmnnlddaaGreatRows
import Derived.Test.YtmkcacgmnnlddaaGreatPClosureM03
import Derived.Test.YtmkcacgmnnlddaaGreatPClosureM13
import Derived.Test.YtmkcacgmnnlddaaGreatPClosureM30
import Derived.Test.YtmkcacgmnnlddaaGreatPClosureM27
import Derived.Test.YtmkcacgmnnlddaaGreatPClosureM19
import Derived.Test.YtmkcacgmnnlddaaGreatPClosureM21
import Derived.Test.YtmkcacgmnnlddaaGreatPClosureM23
import Derived.Test.YtmkcacgmnnlddaaGreatPClosureM24
import Derived.Lib.MinMax
namespace Go.Proofs.YtmkcacgmnnlddaaGreat
set_option maxRecDepth 100000
set_option maxHeartbeats 16000000
section
open Go.RowKit
def encT (t:TriD):List Value:=[.int .i64 t.a,.int .i64 t.b,.int .i64 t.c,.int .i64 t.region,.int .i64 t.level]
theorem flatT_len:∀(l:List TriD),(l.flatMap encT).length=l.length*5
 | []=>rfl
 | x::xs=>by
  have h5:(encT x).length=5:=rfl
  rw[List.flatMap_cons,List.length_append,flatT_len xs,h5,List.length_cons]
  omega
theorem flatT_get:∀(l:List TriD) {k j:Nat},k<l.length→j<5→(l.flatMap encT)[k*5+j]?=(encT (pix l k))[j]?
 | [],k,j,hk,_=>by simp at hk
 | x::xs,k,j,hk,hj=>by
  have h4:(encT x).length=5:=rfl
  rw[List.flatMap_cons]
  rcases k with _|k
  ·rw[List.getElem?_append_left (by omega),pix_zero]
   congr 1
   omega
  ·rw[List.getElem?_append_right (by omega),h4,pix_succ,show (k+1)*5+j-5=k*5+j by omega]
   exact flatT_get xs (by simpa using hk) hj
theorem encT_one {t:TriD}{u:Value}(h:u∈encT t):u.oneCell'=true:=by
 unfold encT at h
 simp at h
 rcases h with rfl|rfl|rfl|rfl|rfl <;> rfl
def OwT (base:Nat) (w:World) (v:Value) (l:List TriD):Prop:=w.ownsRow base 58 5 v l.length (l.flatMap encT)
section
variable {base:Nat}{w W:World}{v:Value}{l:List TriD}
theorem OwT.empty (w:World) (hb:base≤w.heap.size):OwT base (w.alloc (.cells #[] 58)) (.slice (some ⟨w.heap.size,0,none⟩) 0 0) []:=World.ownsRow_made w #[] 0 hb (Nat.zero_le _) (by simp)
theorem OwT.keep (h:OwT base w v l) (h1:∀g,v.ownBlock=Option.some g→W.heap[g]?=w.heap[g]?):OwT base W v l:=by
 refine⟨h.1,?_⟩
 rcases h.2 with h2 |⟨g,cap,cur,hv,hg,hh,r⟩
 ·exact .inl h2
 ·exact .inr ⟨g,cap,cur,hv,hg,(h1 g (by rw[hv];rfl)).trans hh,r⟩
theorem OwT.blk (h:OwT base w v l) {g:Nat}(hg:v.ownBlock=Option.some g):base≤g∧g<w.heap.size:=World.ownsRow.lt h g hg
theorem OwT.bl (h:OwT base w v l) (hb:Bl w W):OwT base W v l:=h.keep fun g e=>Below.block hb g (h.blk e).2
theorem OwT.lit (h:OwT base w v l) (hnil:v≠.slice none 0 0):∃g c,v=.slice (some ⟨g,0,none⟩) l.length c∧base≤g∧RdTS w (some ⟨g,0,none⟩) l.length c l∧g<w.heap.size∧(∀o,w.frozen? ⟨g,o,none⟩=false):=by
 obtain⟨hcl,⟨h,_⟩ |⟨g,cap,cur,rfl,hg,hh,hnc,hm,hcs,htk⟩⟩:=id h
 ·exact absurd h hnil
 have hc:∀k j u,k<l.length→j<5→(encT (pix l k))[j]?=some u→w.cell? ⟨g,k*5+j,none⟩=some u:=fun k j u hk hj hu=>row_cell hh htk (by rw[flatT_get l hk hj];exact hu)
 refine⟨g,cap,rfl,hg,⟨rfl,hnc,by unfold maxLen at hm;omega,fun k hk=>⟨_,rfl,heap_lt hh,?_⟩⟩,heap_lt hh,fun o=>by simp[World.frozen?,hh]⟩
 rw[Addr.add_lit,Nat.zero_add]
 exact⟨hc k 0 _ hk (by omega) rfl,hc k 1 _ hk (by omega) rfl,hc k 2 _ hk (by omega) rfl,hc k 3 _ hk (by omega) rfl,hc k 4 _ hk (by omega) rfl⟩
end
theorem wpList_append_tris {w0 W:World}{ops:Array Oper}{rest:List Oper}{o:Oper}{a:Act}{Q:Exit→Act→World→Prop}(hgd:o.guard=none) (s x:Operand)
  (ho:o.op=.call { callee:=.builtin .append,args:=#[s,x],argTypes:=#[24,24] }) (v:Value) (l:List TriD) (hs:a.eval s=v) (hown:OwT w0.heap.size W v l) (hnil:v≠.slice none 0 0) (hb:Bl w0 W)
  (g m c:Nat) (hx:a.eval x=.slice (some ⟨g,0,none⟩) m c) (ys:List TriD) (hr:RdTS W (some ⟨g,0,none⟩) m c ys) (hlen:l.length≤1048576) (hm:m≤1048576)
  (h:∀v' w',OwT w0.heap.size w' v' (l++ys)→v'≠.slice none 0 0→Bl w0 w'→wpList Tryz.prog ops Q rest (a.put o.dst v') w'):wpList Tryz.prog ops Q (o::rest) a W:=by
 obtain⟨i0,hi,hz0,hz1,hz2⟩:=info_parts info_tri'
 refine wpList_append_own _ hgd s x 24 ho w0.heap.size 58 i0 _ 5 40 Tryz.underlying24 hi hz0 hz1 hz2 rfl (by omega) v l.length (l.flatMap encT) hs hown ⟨g,0,none⟩ m c (ys.flatMap encT) hx (by rw[flatT_len,hr.len]) ?_ ?_ (by simp only[maxLen];omega) (by omega) hb.size ?_
 ·intro j u hu
  have hj:j < ys.length * 5:=by
   rcases Nat.lt_or_ge j (ys.length*5)with h|h
   ·exact h
   ·rw[List.getElem?_eq_none (by rw[flatT_len];exact h)]at hu;simp at hu
  have hl:=hr.len
  have hk:j / 5<ys.length:=by omega
  have e:j=j / 5*5+j % 5:=by omega
  rw[e,flatT_get ys hk (Nat.mod_lt _ (by omega))]at hu
  obtain⟨c0,c1,c2,c3,c4⟩:=trs_lit hr (show j / 5<m by omega)
  rw[Addr.add_lit,Nat.zero_add,e]
  have h5:j % 5<5:=Nat.mod_lt _ (by omega)
  generalize j % 5=q at hu h5 ⊢
  rcases(show q=0∨q=1∨q=2∨q=3∨q=4 by omega)with rfl|rfl|rfl|rfl|rfl
  ·exact c0.trans hu
  ·exact c1.trans hu
  ·exact c2.trans hu
  ·exact c3.trans hu
  ·exact c4.trans hu
 ·intro u hu
  obtain⟨t,_,ht⟩:=List.mem_flatMap.1 hu
  exact encT_one ht
 ·intro v' w' h1 h2 h3
  refine h v' w' ?_ (fun e=>hnil (h3.1 e).1) (hb.grown h2 fun k hk=>(hown.blk hk).1)
  unfold OwT
  rw[List.length_append,hr.len,List.flatMap_append]
  exact h1
theorem CloneTri_any (w:World) {g n c:Nat}{l:List TriD}(h:RdTS w (some ⟨g,0,none⟩) n c l) (hn:n≤1048576) :
  Calls Tryz.prog 55 #[.slice (some ⟨g,0,none⟩) n c] w fun e w'=>∃g' c',e=.returned (.slice (some ⟨g',0,none⟩) n c')∧OwT w.heap.size w' (.slice (some ⟨g',0,none⟩) n c') l∧Bl w w':=by
 have he:∀W a n c,(binOp .eql 24 (.slice a n c) (.slice none 0 0)).run Tryz.prog W=.ok (.bool a.isNone) W:=fun W a n c=>Lib.run_eql_slice_nil W 24 58 a n c 0 0 Tryz.underlying24
 have hl:=Lib.hid h.len
 go_enter Tryz.func55,Tryz.ntmps55
 go_wp2_with (at_builtin;go_must (refine wpList_append_tris (w0:=w) rfl (.tmp 5) (.tmp 6) rfl _ [] rfl (OwT.empty w (Nat.le_refl _)) (fun e=>by cases e) ((Bl.refl w).alloc _) g n c rfl l (RdTS.bl h ((Bl.refl w).alloc _)) (by simp) (by omega) ?_);intro v' w1 hown1 hnil1 hbw1)
 rw[List.nil_append]at hown1
 obtain⟨g',c',hv,_,_,_,_⟩:=hown1.lit hnil1
 rw[hl.out]at hv
 subst hv
 go_ret
 exact⟨g',c',rfl,hown1,hbw1⟩
end
section
open Go.RowKit
theorem RowP.setLow {N:List Nat→Prop}{lo:Nat}{w:World}{v:Value}{l:List PtD}(h:RowP N lo w.heap.size w v l) {q:Addr}(hq:q.block<lo) (u:Value):RowP N lo (w.setCell q u).heap.size (w.setCell q u) v l:=by
 have hs:(w.setCell q u).heap.size=w.heap.size:=by simp
 rw[hs]
 exact RowG.keep (ptIn_keep 3) h (by omega) fun b h1 _=>Below.heap_setCell w q u b (by omega)
theorem RowP.shape3 {N:List Nat→Prop}{lo hi:Nat}{w:World}{v:Value}{l:List PtD}(h:RowP N lo hi w v l):∃A n c,v=.slice A n c:=by
 obtain⟨_,_,h1,_⟩:=h
 rcases h1.2 with ⟨rfl,_⟩ |⟨g,cap,cur,rfl,_⟩
 ·exact⟨_,_,_,rfl⟩
 ·exact⟨_,_,_,rfl⟩
theorem RowP.up2 {N:List Nat→Prop}{lo:Nat}{w W:World}{v:Value}{l:List PtD}(h:RowP N lo w.heap.size w v l) (hb:Bl w W):RowP N lo W.heap.size W v l:=(RowG.bl (ptIn_keep 3) h hb).up hb.size (Nat.le_refl _)
theorem RowP.lit {N:List Nat→Prop}{lo hi:Nat}{w:World}{v:Value}{l:List PtD}(h:RowP N lo hi w v l) (hl:0<l.length) (hl2:l.length≤1048576):∃g c,v=.slice (some ⟨g,0,none⟩) l.length c∧lo≤g∧RdPS w (some ⟨g,0,none⟩) l.length c l:=by
 obtain⟨A,c,e,hr⟩:=RowP.rd h hl2
 obtain⟨cells,fs,h1,_⟩:=h
 rcases h1.2 with ⟨rfl,h0⟩ |⟨g,cap,cur,rfl,hg,_⟩
 ·omega
 ·injection e with e1 e2 e3
  subst e1 e3
  exact⟨g,cap,rfl,hg,hr⟩
def cpTo (l:List PtD) (k:Nat):List PtD:=(List.range k).map (pix l)
theorem cpTo_len (l:List PtD) (k:Nat):(cpTo l k).length=k:=by simp[cpTo]
theorem cpTo_succ (l:List PtD) (k:Nat):cpTo l (k+1)=cpTo l k++[pix l k]:=by unfold cpTo;rw[List.range_succ,List.map_append];rfl
theorem cpTo_all {l:List PtD}:cpTo l l.length=l:=by
 refine List.ext_getElem (by simp[cpTo]) fun i h1 h2=>?_
 simp[cpTo,pix,h2]
theorem OwT.low {base b1:Nat}{w:World}{v:Value}{l:List TriD}(h:OwT b1 w v l) (hb:base≤b1):OwT base w v l:=by
 refine⟨h.1,?_⟩
 rcases h.2 with h2 |⟨g,cap,cur,hv,hg,r⟩
 ·exact .inl h2
 ·exact .inr ⟨g,cap,cur,hv,Nat.le_trans hb hg,r⟩
def CmRes (w:World) (l:List PtD) (ts:List TriD) (en:Ending) (w':World):Prop :=
 ∃lo gp n cp gt m ct,en=.returned (.agg #[.slice (some ⟨gp,0,none⟩) n cp,.slice (some ⟨gt,0,none⟩) m ct])∧n=l.length∧m=ts.length∧RowP List.Nodup lo w'.heap.size w' (.slice (some ⟨gp,0,none⟩) n cp) l∧OwT w.heap.size w' (.slice (some ⟨gt,0,none⟩) m ct) ts∧gt<lo∧w.heap.size≤lo∧Bl w w'
theorem copyMesh_any (w:World) {gp n cp gt m ct:Nat}{l:List PtD}{ts:List TriD}(hp:RdPS w (some ⟨gp,0,none⟩) n cp l) (ht:RdTS w (some ⟨gt,0,none⟩) m ct ts) (hn:0<n) (hn2:n≤1048576) (hm2:m≤1048576)
  (hsz:∀k,k<n→((pix l k).x.mag.length≤1048576∧(pix l k).x.den.length≤1048576)∧(pix l k).y.mag.length≤1048576∧(pix l k).y.den.length≤1048576) :
  Calls Tryz.prog 25 #[.agg #[.slice (some ⟨gp,0,none⟩) n cp,.slice (some ⟨gt,0,none⟩) m ct]] w (CmRes w l ts):=by
 have hln:=Lib.hid hp.len
 have hlm:=Lib.hid ht.len
 replace hsz:=Lib.hid hsz
 go_enter Tryz.func25,Tryz.ntmps25
 go_wp2_with fail
 refine calls_gen (fun W=>Bl w W∧Blk W w.heap.size 26 #[.slice (some ⟨gp,0,none⟩) n cp,.slice (some ⟨gt,0,none⟩) m ct]∧Wk 2 26 (w.heap.size+1) W) ⟨slc,bts,bts⟩ ?_
 rintro W ⟨hbW,hA,hr⟩
 refine(CloneTri_any _ (RdTS.bl ht hbW) hm2).mono ?_
 rintro e w1 ⟨gt',ct',rfl,hT,hb1⟩
 have hz0:=hr.lt
 have hA:=hA.bl hb1
 have hr:=hr.bl hb1
 have hbW:=hbW.next hb1
 have hgt:=hT.blk (g:=gt') rfl
 have hz1:=hr.lt
 clear hb1
 obtain⟨r0,r1⟩:=bx2 hA
 go_upto_region 2 with (fail)
 refine wp_gen (fun W2=>Bl w1 W2∧Blk W2 w1.heap.size 26 #[.slice none 0 0,.slice (some ⟨gt',0,none⟩) m ct']) ⟨slc,by exact bts⟩ ?_
 rintro W2 ⟨hb2,hm⟩
 have hA:=hA.bl hb2
 have hT:=hT.bl hb2
 have hr:=hr.bl hb2
 have hbW:=hbW.next hb2
 clear r0 r1
 obtain⟨r0,r1⟩:=bx2 hA
 go_wp2_with fail
 clear r0 r1 hA
 go_loopw [13] (fun i wr=>∃(k:Nat) (vp:Value),k≤n∧i=.int .i64 (k:Int)∧Blk wr w1.heap.size 26 #[vp,.slice (some ⟨gt',0,none⟩) m ct']∧RowP List.Nodup (w1.heap.size+1) wr.heap.size wr vp (cpTo l k)∧OwT W.heap.size wr (.slice (some ⟨gt',0,none⟩) m ct') ts∧Wk 2 26 (w.heap.size+1) wr∧Bl w wr) (fun i _=>n-(intOf i).toNat)
 case atStart=>exact⟨0,.slice none 0 0,by omega,rfl,hm,RowG.nil appN_nodup _ (Nat.le_refl _),hT,hr,hbW⟩
 case round=>
  clear hm hT hr hbW hb2
  obtain⟨k,vp,hk,rfl,hm,hrow,hT,hr,hbw⟩:=hrel
  by_cases hkn:k<n
  ·have hki:(k:Int)<(n:Int):=by omega
   obtain⟨sq,Aq,nq,cq,Bq,mq_,dq,tq,Cq,iq,eq,Dq,jq,fq,⟨y0,y1,y2,y3,y4,y5⟩,hR1,hR2⟩:=pts_lit (RdPS.bl hp hbw) hkn
   obtain⟨⟨sz1,sz2⟩,sz3,sz4⟩:=hsz.out k hkn
   have hn1:nq≤1048576:=by rw[←hR1.mag.len];exact sz1
   have hn3:mq_≤1048576:=by rw[←hR1.den.len];exact sz2
   have hn4:iq≤1048576:=by rw[←hR2.mag.len];exact sz3
   have hn5:jq≤1048576:=by rw[←hR2.den.len];exact sz4
   clear sz1 sz2 sz3 sz4
   have hml:=hm.lt
   have hvq:=hrow.ne (Nat.le_refl wr.heap.size)
   go_upto_region 5 with (fail)
   refine wp_gen (fun W=>Bl wr W∧wr.heap.size<W.heap.size∧Blk W wr.heap.size 56 #[.bool sq,.slice Aq nq cq,.slice Bq mq_ dq,.bool tq,.slice Cq iq eq,.slice Dq jq fq]) ⟨slc,by simp,by exact bts⟩ ?_
   rintro W ⟨hbq,hgw,hq⟩
   have hm:=hm.bl hbq
   have hrow:=RowP.up2 hrow hbq
   have hT:=hT.bl hbq
   have hr:=hr.bl hbq
   have hbW:=hbw.next hbq
   have hlo:(w1.heap.size+1)≤W.heap.size:=by omega
   clear y0 y1 y2 y3 y4 y5
   replace hR1:=hR1.bl hbq
   replace hR2:=hR2.bl hbq
   have hHeld:(fun w'=>(w'.cell? ⟨w1.heap.size,0,none⟩=some (vp)∧w'.cell? ⟨w1.heap.size,1,none⟩=some (.slice (some ⟨gt',0,none⟩) m ct'))∧(w'.cell? ⟨wr.heap.size,0,none⟩=some (.bool sq)∧w'.cell? ⟨wr.heap.size,1,none⟩=some (.slice Aq nq cq)∧w'.cell? ⟨wr.heap.size,2,none⟩=some (.slice Bq mq_ dq)∧w'.cell? ⟨wr.heap.size,3,none⟩=some (.bool tq)∧w'.cell? ⟨wr.heap.size,4,none⟩=some (.slice Cq iq eq)∧w'.cell? ⟨wr.heap.size,5,none⟩=some (.slice Dq jq fq))) (W.drew):=⟨bx2 (T:=26) (hm.bl slc),bx6 (T:=56) (hq.bl slc)⟩
   refine wp_region_T 7 8 (fun w'=>(w'.cell? ⟨w1.heap.size,0,none⟩=some (vp)∧w'.cell? ⟨w1.heap.size,1,none⟩=some (.slice (some ⟨gt',0,none⟩) m ct'))∧(w'.cell? ⟨wr.heap.size,0,none⟩=some (.bool sq)∧w'.cell? ⟨wr.heap.size,1,none⟩=some (.slice Aq nq cq)∧w'.cell? ⟨wr.heap.size,2,none⟩=some (.slice Bq mq_ dq)∧w'.cell? ⟨wr.heap.size,3,none⟩=some (.bool tq)∧w'.cell? ⟨wr.heap.size,4,none⟩=some (.slice Cq iq eq)∧w'.cell? ⟨wr.heap.size,5,none⟩=some (.slice Dq jq fq))) rfl (by kernel_rfl) hHeld ?_
   refine wpAnyT_take (i:=0) (oi:=_) (v:=?_) (fuel:=7) rfl (by kernel_rfl) (by kernel_rfl) (by kernel_rfl) (by kernel_rfl) (fun _ _ _ h=>h) (by rfl) ?_ hHeld ?_
   rotate_left 1
   ·(intro w' hSw;(try dsimp only at hSw);go_simp <;> with_reducible rfl)
   refine wpAnyT_take (i:=1) (oi:=_) (v:=?_) (fuel:=6) rfl (by kernel_rfl) (by kernel_rfl) (by kernel_rfl) (by kernel_rfl) (fun _ _ _ h=>h) (by rfl) ?_ hHeld ?_
   rotate_left 1
   ·(intro w' hSw;(try dsimp only at hSw);go_simp <;> with_reducible rfl)
   refine wpAnyT_take (i:=2) (oi:=_) (v:=?_) (fuel:=5) rfl (by kernel_rfl) (by kernel_rfl) (by kernel_rfl) (by kernel_rfl) (fun _ _ _ h=>h) (by rfl) ?_ hHeld ?_
   rotate_left 1
   ·(intro w' hSw;(try dsimp only at hSw);go_simp <;> with_reducible rfl)
   clear hHeld
   simp only[Act.put,List.setIfInBounds_toArray]
   refine wpAnyT_step (i:=3) (o:=_) (fuel:=4) rfl (by kernel_rfl) (fun K hK=>?_)
   go_simp
   refine(copyPoint_any _ (RdR.bl hR1 slc) (RdR.bl hR2 slc) (by omega) (by omega) (by omega) (by omega)).mono ?_
   rintro e w2 ⟨A1,n1,c1,B1,m1,d1,C1,i1',e1,D1,j1,f1,rfl,hP,hb2⟩
   have hrow4:=RowG.bl (ptIn_keep 3) hrow (show Bl W w2 from slc)
   have hP4:=OwPN.of hP
   have hm:=hm.bl (show Bl W w2 from slc)
   have hq:=hq.bl (show Bl W w2 from slc)
   have hT4:=hT.bl (show Bl W w2 from slc)
   have hr4:=hr.bl (show Bl W w2 from slc)
   have hbw4:Bl w w2:=hbW.next (show Bl W w2 from slc)
   refine hK.out _ _ (fun _=>⟨bx2 (T:=26) (hm.bl slc),bx6 (T:=56) (hq.bl slc)⟩) ?_
   clear hK K
   try simp only[Act.put,List.setIfInBounds_toArray,List.set_cons_zero,List.set_cons_succ]
   refine wpAnyT_step (i:=4) (o:=_) (fuel:=3) rfl (by kernel_rfl) (fun K hK=>?_)
   go_simp
   refine hK.out _ _ (fun _=>⟨bx2 (T:=26) (hm.bl slc),bx6 (T:=56) (hq.bl slc)⟩) ?_
   clear hK K
   try simp only[Act.put,List.setIfInBounds_toArray,List.set_cons_zero,List.set_cons_succ]
   refine wpAnyT_step (i:=5) (o:=_) (fuel:=2) rfl (by kernel_rfl) (fun K hK=>?_)
   refine step_append_ptX appN_nodup rfl (.tmp 18) (.tmp 21) rfl _ (by rfl) hrow4 hP4 (Nat.le_refl _) hlo 1 (by rfl) (by rw[cpTo_len];omega) w hbw4 (by omega) ?_
   intro v' w8 hrow' hb8' hoth
   obtain⟨A8,n8,c8,rfl⟩:=RowP.shape3 hrow'
   have hm:=hm.oth hoth (fun e=>by have:=hrow.lo e;omega)
   have hq:=hq.oth hoth hvq
   have hT8:=hT4.keep (fun g e=>(hoth g (hT4.blk e).2 (fun e2=>by have h1:=hrow.lo e2;injection e with e;simp only at e;omega)).1)
   obtain⟨cs5,hB5,hc5⟩:=hr4
   have hr8:Wk 2 26 (w.heap.size+1) w8:=⟨cs5,hB5.oth hoth (fun e=>by have:=hrow.lo e;omega),hc5⟩
   refine hK.out _ _ (fun _=>⟨bx2 (T:=26) (hm.bl slc),bx6 (T:=56) (hq.bl slc)⟩) ?_
   clear hK K
   try simp only[Act.put,List.setIfInBounds_toArray]
   refine wpAnyT_step (i:=6) (o:=_) (fuel:=1) rfl (by kernel_rfl) (fun K hK=>?_)
   go_simp
   refine hK.out _ _ (fun _=>⟨bx2 (T:=26) (hm.bl slc),bx6 (T:=56) (hq.bl slc)⟩) ?_
   clear hK K
   try simp only[Act.put,List.setIfInBounds_toArray,List.set_cons_zero,List.set_cons_succ]
   obtain⟨z0',z1'⟩:=bx2 hm
   have zf:=hm.frozen 0
   refine wpAnyT_step (i:=7) (o:=_) (fuel:=0) rfl (by kernel_rfl) (fun K hK=>?_)
   go_simp
   refine hK.out _ _ (fun h=>absurd rfl h) ?_
   clear hK K
   try simp only[Act.put,List.setIfInBounds_toArray]
   refine wpAnyT_done (by kernel_rfl) ?_
   go_wp2_with fail
   go_roundw
   case rel=>exact⟨k+1,_,by omega,by go_num,by simpa using hm.set_ 0 _,by rw[cpTo_succ];exact RowP.setLow hrow' (by simp) _,hT8.keep (fun g e=>Below.heap_setCell _ _ _ g (by injection e with e;simp only at e ⊢;omega)),hr8.far (by simp;omega) _,Bl.set hb8' (by simp;omega) _⟩
   case measure=>simp[intOf];omega
  ·obtain rfl:k=n:=by omega
   have hkm2:¬(k:Int)<(k:Int):=by omega
   rw[show cpTo l k=l by rw[←hln.out];exact cpTo_all]at hrow
   obtain⟨gp',cp',rfl,hgp,hRd⟩:=hrow.lit (by rw[hln.out];exact hn) (by rw[hln.out];exact hn2)
   obtain⟨v0,x0⟩:=hr.val_ (i:=0) (by omega)
   obtain⟨v1,x1⟩:=hr.val_ (i:=1) (by omega)
   have hg:=hr.lt
   obtain⟨cs4,hB4,hc4⟩:=hr
   have hf0:=hB4.frozen 0
   have hf1:=hB4.frozen 1
   rw[hln.out]at hm hrow hRd
   obtain⟨i0,i1⟩:=bx2 hm
   go_wp2_with fail
   exact bodyPost_ret (v:=.agg #[.slice (some ⟨gp',0,none⟩) k cp',.slice (some ⟨gt',0,none⟩) m ct']) (by simp[results,Tryz.results25,go_sem,x0,x1]) rfl ⟨(w1.heap.size+1),gp',_,cp',gt',_,ct',rfl,hln.out.symm,hlm.out.symm,RowP.setLow (RowP.setLow hrow (by simp;omega) _) (by simp;omega) _,(hT.keep (fun g e=>(Below.heap_setCell _ _ _ g (by injection e with e;simp only at e ⊢;omega)).trans (Below.heap_setCell _ _ _ g (by injection e with e;simp only at e ⊢;omega)))).low (by omega),by omega,by omega,slc⟩
end
section
open Go.RowKit
theorem OwT.setK {base:Nat}{w:World}{l:List TriD}{g n c:Nat}(h:OwT base w (.slice (some ⟨g,0,none⟩) n c) l) {j:Nat}{u:Value}{l':List TriD}(hl:l'.length=l.length) (hf:l'.flatMap encT=(l.flatMap encT).set j u):OwT base (w.setCell ⟨g,j,none⟩ u) (.slice (some ⟨g,0,none⟩) n c) l':=by
 obtain⟨hcl,⟨h,_⟩ |⟨g',cap,cur,h,hg,hh,hnc,hm,hcs,htk⟩⟩:=id h
 ·cases h
 injection h with q1 q2 q3
 injection q1 with q1
 injection q1 with q1
 subst q1
 unfold OwT World.ownsRow
 rw[hl,hf]
 refine⟨by simpa using hcl,.inr ⟨g,cap,_,by rw[q2,q3],hg,Blk.set_ (T:=58) hh j u,hnc,hm,by simpa using hcs,?_⟩⟩
 rw[Array.toList_setIfInBounds,List.take_set,htk]
theorem OwT.rd {base:Nat}{w:World}{l:List TriD}{g n c:Nat}(h:OwT base w (.slice (some ⟨g,0,none⟩) n c) l):RdTS w (some ⟨g,0,none⟩) n c l∧(∀o,w.frozen? ⟨g,o,none⟩=false):=by
 obtain⟨g',c',e,h1,h2,h3,h4⟩:=h.lit (fun e=>by cases e)
 injection e with q1 q2 q3
 injection q1 with q1
 injection q1 with q1
 subst q1 q2 q3
 exact⟨h2,h4⟩
theorem sm_sz {q:Rat}(h:SmQ q):(toR q).mag.length≤1048576∧(toR q).den.length≤1048576:=by
 have h1:=h.mag
 have h2:=h.den
 omega
theorem RowP.rdN {N:List Nat→Prop}{lo hi:Nat}{w:World}{g n c:Nat}{l:List PtD}(h:RowP N lo hi w (.slice (some ⟨g,0,none⟩) n c) l) (hl:l.length≤1048576):RdPS w (some ⟨g,0,none⟩) n c l:=by
 obtain⟨A,d,e,hr⟩:=RowP.rd h hl
 injection e with q1 q2 q3
 subst q1 q2 q3
 exact hr
end
section
open Go.RowKit
theorem gpt_tp (x y:Nat) (hx:x≤8) (hy:y≤8):gpt x y=tp (qp1 x y):=by
 show (⟨ofFrac (x:Int) 1,ofFrac (y:Int) 1⟩:PtD)=⟨toR (mkRat (x:Int) 1),toR (mkRat (y:Int) 1)⟩
 rw[(ofFrac_sm (x:Int) 1 (by omega) (by omega) (by omega)).1,(ofFrac_sm (y:Int) 1 (by omega) (by omega) (by omega)).1]
instance (N:Nat) (q:Rat):Decidable (Bd N q):=by unfold Bd;infer_instance
def Sm2 (p:Rat × Rat):Prop:=Bd 17 p.1∧Bd 17 p.2
instance (p:Rat × Rat):Decidable (Sm2 p):=by unfold Sm2;infer_instance
end
section
open Go.RowKit
def bgt (bl:List Bool) (i:Nat):Bool:=bl.getD i false
theorem bgt_set {bl:List Bool}{n k:Nat}(hl:bl.length=n) (x:Bool) (i:Nat) (hi:i<n):(if i=k then x else bgt bl i)=bgt (bl.set k x) i:=by
 unfold bgt
 rw[List.getD_eq_getElem?_getD,List.getD_eq_getElem?_getD,List.getElem?_set]
 by_cases e:i=k
 ·subst e
  rw[if_pos rfl,if_pos rfl,if_pos (by omega)]
  rfl
 ·rw[if_neg e,if_neg (fun h=>e h.symm)]
theorem bgt_rep (n i:Nat):bgt (List.replicate n false) i=false:=by
 unfold bgt
 rw[List.getD_eq_getElem?_getD,List.getElem?_replicate]
 by_cases e:i<n
 ·rw[if_pos e];rfl
 ·rw[if_neg e];rfl
def mkTo (l:List Int) (n:Nat):Nat→List Bool
 | 0=>List.replicate n false
 | k+1=>if 0≤ix l k∧ix l k≤(n:Int)-1 then (mkTo l n k).set (ix l k).toNat true else mkTo l n k
def mkA (l:List Int) (n:Nat):List Bool:=mkTo l n l.length
theorem mkTo_len (l:List Int) (n:Nat):∀k,(mkTo l n k).length=n
 | 0=>by simp[mkTo]
 | k+1=>by
  unfold mkTo
  split
  ·rw[List.length_set,mkTo_len l n k]
  ·exact mkTo_len l n k
theorem mkA_len (l:List Int) (n:Nat):(mkA l n).length=n:=mkTo_len l n _
def lsTo (bl:List Bool) (k:Nat):List Int:=((List.range k).filter (bgt bl)).map (fun i:Nat=>(i:Int))
def lsA (bl:List Bool):List Int:=lsTo bl bl.length
theorem lsTo_succ (bl:List Bool) (k:Nat):lsTo bl (k+1)=if bgt bl k=true then lsTo bl k++[(k:Int)]else lsTo bl k:=by
 unfold lsTo
 rw[List.range_succ,List.filter_append,List.map_append]
 by_cases h:bgt bl k=true
 ·rw[if_pos h];simp[h]
 ·rw[if_neg h];simp[h]
theorem lsTo_len (bl:List Bool) (k:Nat):(lsTo bl k).length≤k:=by
 unfold lsTo
 rw[List.length_map]
 exact Nat.le_trans (List.length_filter_le _ _) (by simp)
theorem lsTo_mem {bl:List Bool}{k:Nat}{x:Int}(h:x∈lsTo bl k):0≤x∧x<k:=by
 unfold lsTo at h
 obtain⟨i,hi,rfl⟩:=List.mem_map.1 h
 have:=List.mem_range.1 (List.mem_filter.1 hi).1
 omega
theorem ix_mem {l:List Int}{k:Nat}(h:k<l.length):ix l k∈l:=by
 unfold ix
 rw[List.getD_eq_getElem?_getD,List.getElem?_eq_getElem h]
 exact List.getElem_mem h
theorem lsA_ix {bl:List Bool}{k:Nat}(h:k<(lsA bl).length):0≤ix (lsA bl) k∧ix (lsA bl) k<bl.length:=lsTo_mem (ix_mem h)
def emTo (ts:List TriD) (L:List EdD) (ks:List Int):Nat→List Bool
 | 0=>List.replicate L.length false
 | k+1=>(emTo ts L ks k).set (posE (newE (pix ts (ix ks k).toNat).b (pix ts (ix ks k).toNat).c) L) true
theorem emTo_len (ts:List TriD) (L:List EdD) (ks:List Int):∀k,(emTo ts L ks k).length=L.length
 | 0=>by simp[emTo]
 | k+1=>by unfold emTo;rw[List.length_set,emTo_len ts L ks k]
def emB (ts:List TriD) (bl:List Bool):List Bool:=emTo ts (edL ts) (lsA bl) (lsA bl).length
def emA (ts:List TriD) (l:List Int):List Int:=lsA (emB ts (mkA l ts.length))
def EdHas (ts:List TriD) (L:List EdD):Prop:=∀k,k<ts.length→fndE (newE (pix ts k).b (pix ts k).c) L=true∧fndE (newE (pix ts k).a (pix ts k).b) L=true∧fndE (newE (pix ts k).c (pix ts k).a) L=true
theorem fndE_lt {e:EdD}{L:List EdD}(h:fndE e L=true):posE e L<L.length:=by
 unfold fndE at h
 simp only[Bool.and_eq_true,decide_eq_true_eq]at h
 exact h.1
def clT (L:List EdD) (t:TriD) (x:List Bool × Bool):List Bool × Bool :=
 if bgt x.1 (posE (newE t.b t.c) L)=false∧(bgt x.1 (posE (newE t.a t.b) L)=true∨bgt x.1 (posE (newE t.c t.a) L)=true)then (x.1.set (posE (newE t.b t.c) L) true,true)else x
def clTo (ts:List TriD) (L:List EdD) (bl:List Bool):Nat→List Bool × Bool
 | 0=>(bl,false)
 | k+1=>clT L (pix ts k) (clTo ts L bl k)
theorem clTo_len (ts:List TriD) (L:List EdD) (bl:List Bool):∀k,(clTo ts L bl k).1.length=bl.length
 | 0=>rfl
 | k+1=>by
  have h:=clTo_len ts L bl k
  unfold clTo clT
  split
  ·rw[List.length_set];exact h
  ·exact h
def dnB (bl:List Bool):Nat:=bl.count false
theorem dnB_set {bl:List Bool}{k:Nat}(hk:k<bl.length) (h:bgt bl k=false):dnB (bl.set k true)+1=dnB bl:=by
 unfold dnB
 have e:bl[k]=false:=by
  unfold bgt at h
  rwa [List.getD_eq_getElem?_getD,List.getElem?_eq_getElem hk]at h
 rw[List.count_set hk,e]
 have:0<bl.count false:=List.count_pos_iff.2 (e ▸ List.getElem_mem hk)
 simp
 omega
theorem clTo_dn {ts:List TriD}{L:List EdD}{bl:List Bool}(hl:bl.length=L.length) (hE:EdHas ts L):∀k,k≤ts.length→dnB (clTo ts L bl k).1+(if (clTo ts L bl k).2=true then 1 else 0)≤dnB bl
 | 0,_=>by simp[clTo]
 | k+1,hk=>by
  have h:=clTo_dn hl hE k (by omega)
  have hlen:=clTo_len ts L bl k
  unfold clTo clT
  split
  ·rename_i hc
   have:=dnB_set (bl:=(clTo ts L bl k).1) (k:=posE (newE (pix ts k).b (pix ts k).c) L) (by rw[hlen,hl];exact fndE_lt (hE k (by omega)).1) hc.1
   show dnB ((clTo ts L bl k).1.set _ true)+1≤_
   omega
  ·exact h
def clF (ts:List TriD) (L:List EdD):Nat→List Bool→List Bool
 | 0,bl=>bl
 | f+1,bl=>if (clTo ts L bl ts.length).2=true then clF ts L f (clTo ts L bl ts.length).1 else (clTo ts L bl ts.length).1
theorem clF_len (ts:List TriD) (L:List EdD):∀f bl,(clF ts L f bl).length=bl.length
 | 0,_=>rfl
 | f+1,bl=>by
  unfold clF
  split
  ·rw[clF_len ts L f,clTo_len]
  ·rw[clTo_len]
def clA (ts:List TriD) (l:List Int):List Bool:=clF ts (edL ts) ((edL ts).length+1) (mkA l (edL ts).length)
theorem clA_len (ts:List TriD) (l:List Int):(clA ts l).length=(edL ts).length:=by unfold clA;rw[clF_len,mkA_len]
theorem dnB_le (bl:List Bool):dnB bl≤bl.length:=List.count_le_length
def hvA (t:TriD) (m:Int):TriD:=⟨m,t.a,t.b,t.region,t.level+1⟩
def hvB (t:TriD) (m:Int):TriD:=⟨m,t.c,t.a,t.region,t.level+1⟩
def bsT (mid:Int→Int→Int):Nat→TriD→List TriD
 | 0,t=>[t]
 | d+1,t=>if mid t.b t.c<0 then [t]else bsT mid d (hvA t (mid t.b t.c))++bsT mid d (hvB t (mid t.b t.c))
theorem bsT_len (mid:Int→Int→Int):∀d t,(bsT mid d t).length≤2 ^ d
 | 0,t=>by simp[bsT]
 | d+1,t=>by
  unfold bsT
  split
  ·have:=Nat.two_pow_pos (d+1)
   simp
   omega
  ·have h1:=bsT_len mid d (hvA t (mid t.b t.c))
   have h2:=bsT_len mid d (hvB t (mid t.b t.c))
   rw[List.length_append,Nat.pow_succ]
   omega
theorem bsT_pos (mid:Int→Int→Int):∀d t,1≤(bsT mid d t).length
 | 0,t=>by simp[bsT]
 | d+1,t=>by
  unfold bsT
  split
  ·simp
  ·have h1:=bsT_pos mid d (hvA t (mid t.b t.c))
   rw[List.length_append]
   omega
def mdTo (bl:List Bool) (n:Nat) (k:Nat):List Int:=(List.range k).map fun i=>if bgt bl i=true then ((n+(lsTo bl i).length:Nat):Int)else -1
def midF (L:List EdD) (md:List Int) (a b:Int):Int:=if fndE (newE a b) L=true then ix md (posE (newE a b) L)else -1
theorem mdTo_len (bl:List Bool) (n k:Nat):(mdTo bl n k).length=k:=by simp[mdTo]
theorem ix_mdTo {bl:List Bool}{n k i:Nat}(h:i<k):ix (mdTo bl n k) i=if bgt bl i=true then ((n+(lsTo bl i).length:Nat):Int)else -1:=by simp[ix,mdTo,h]
def midQ (p q:Rat × Rat):Rat × Rat:=(mkRat 1 2*(p.1+q.1),mkRat 1 2*(p.2+q.2))
theorem midP_tp {p q:Rat × Rat}(hp:Sm2 p) (hq:Sm2 q):midP (tp p) (tp q)=tp (midQ p q):=by
 have h2:=half_sm
 have b2:B10 1 (mkRat 1 2):=B10.of h2.2 (by decide)
 have a:=B10.of (k:=2) hp.1 (by decide)
 have b:=B10.of (k:=2) hp.2 (by decide)
 have c:=B10.of (k:=2) hq.1 (by decide)
 have d:=B10.of (k:=2) hq.2 (by decide)
 unfold midP
 rw[h2.1]
 show sclP (toR (mkRat 1 2)) (addP (toP p.1 p.2) (toP q.1 q.2))=_
 rw[addP_b a b c d (by omega),sclP_b b2 (a.add c) (b.add d) (by omega)]
 rfl
def mdP (mq:MeQ) (L:List EdD) (i:Int):Rat × Rat:=midQ (mc mq (pix L i.toNat).a) (mc mq (pix L i.toNat).b)
def bpTo (mq:MeQ) (L:List EdD) (bl:List Bool) (k:Nat):List (Rat × Rat):=mq.pts++(lsTo bl k).map (mdP mq L)
theorem bpTo_len (mq:MeQ) (L:List EdD) (bl:List Bool) (k:Nat):(bpTo mq L bl k).length=mq.pts.length+(lsTo bl k).length:=by unfold bpTo;rw[List.length_append,List.length_map]
theorem bpTo_yes (mq:MeQ) (L:List EdD) {bl:List Bool}{k:Nat}(h:bgt bl k=true):bpTo mq L bl (k+1)=bpTo mq L bl k++[mdP mq L (k:Int)]:=by
 unfold bpTo
 rw[lsTo_succ,if_pos h,List.map_append,←List.append_assoc]
 rfl
theorem bpTo_no (mq:MeQ) (L:List EdD) {bl:List Bool}{k:Nat}(h:bgt bl k=false):bpTo mq L bl (k+1)=bpTo mq L bl k:=by
 unfold bpTo
 rw[lsTo_succ,if_neg (by rw[h];decide)]
def btTo (ts:List TriD) (mid:Int→Int→Int) (k:Nat):List TriD:=(List.range k).flatMap fun i=>bsT mid 2 (pix ts i)
theorem btTo_succ (ts:List TriD) (mid:Int→Int→Int) (k:Nat):btTo ts mid (k+1)=btTo ts mid k++bsT mid 2 (pix ts k):=by unfold btTo;rw[List.range_succ,List.flatMap_append];simp
theorem btTo_len (ts:List TriD) (mid:Int→Int→Int):∀k,(btTo ts mid k).length≤4*k
 | 0=>by simp[btTo]
 | k+1=>by
  rw[btTo_succ,List.length_append]
  have h1:=btTo_len ts mid k
  have h2:=bsT_len mid 2 (pix ts k)
  omega
theorem btTo_pos (ts:List TriD) (mid:Int→Int→Int):∀k,k≤(btTo ts mid k).length
 | 0=>by simp
 | k+1=>by
  rw[btTo_succ,List.length_append]
  have h1:=btTo_pos ts mid k
  have h2:=bsT_pos mid 2 (pix ts k)
  omega
def bisL (mq:MeQ) (L:List EdD) (bl:List Bool):MeQ:=⟨bpTo mq L bl L.length,btTo mq.tris (midF L (mdTo bl mq.pts.length L.length)) mq.tris.length⟩
def bisM (mq:MeQ) (l:List Int):MeQ:=bisL mq (edL mq.tris) (clA mq.tris l)
end
section
open Go.RowKit
theorem mkTo_yes {l:List Int}{n k:Nat}(h1:0≤ix l k) (h2:ix l k≤(n:Int)-1):mkTo l n (k+1)=(mkTo l n k).set (ix l k).toNat true:=if_pos ⟨h1,h2⟩
theorem mkTo_no {l:List Int}{n k:Nat}(h:¬(0≤ix l k∧ix l k≤(n:Int)-1)):mkTo l n (k+1)=mkTo l n k:=if_neg h
theorem lsTo_yes {bl:List Bool}{k:Nat}(h:bgt bl k=true):lsTo bl (k+1)=lsTo bl k++[(k:Int)]:=by rw[lsTo_succ,if_pos h]
theorem lsTo_no {bl:List Bool}{k:Nat}(h:bgt bl k=false):lsTo bl (k+1)=lsTo bl k:=by rw[lsTo_succ,if_neg (by rw[h];decide)]
def newZ (a b:Int):EdD:=⟨min a b,max a b,0,0⟩
theorem posE_z (a b:Int):∀l:List EdD,posE (newZ a b) l=posE (newE a b) l
 | []=>rfl
 | x::xs=>by
  have h:=posE_z a b xs
  unfold posE
  rw[h]
  rfl
theorem fndE_z (a b:Int) (l:List EdD):fndE (newZ a b) l=fndE (newE a b) l:=by
 unfold fndE
 rw[posE_z]
 rfl
def IntsOw (w:World) (l:List Int) (en:Ending) (w':World):Prop:=∃A n c,en=.returned (.slice A n c)∧OwI 3 w.heap.size w' A n c l∧Bl w w'
theorem markedOf_any (w:World) {A:Option Addr}{n c:Nat}{l:List Int}(h:RdI w A n c l) (hn:n≤1048576) (N:Nat) (hN:N≤1048576) :
  Calls Tryz.prog 68 #[.slice A n c,.int .i64 (N:Int)] w fun e w'=>∃g,e=.returned (.slice (some ⟨g,0,none⟩) N N)∧OwU w' g N (bgt (mkA l N))∧w.heap.size≤g∧Bl w w':=by
 have hl:=Lib.hid h.len
 obtain⟨N1,hN1⟩:∃z:Int,(N:Int)-1=z:=⟨_,rfl⟩
 have hb1 : -1≤N1:=by omega
 have hb2:N1≤1048576:=by omega
 go_enter Tryz.func68,Tryz.ntmps68
 have hmk:=fun W:World=>make_bools N hN W
 go_wp2_with fail
 refine wp_gen (fun W=>Bl w W∧∃gu,OwU W gu N (bgt (mkTo l N 0))∧gu=w.heap.size) ⟨by exact slc,_,OwU.made w N _ (fun i=>bgt_rep N i),rfl⟩ ?_
 rintro W ⟨hbW,gu,hU,hgu⟩
 rw[←hgu]
 have hgu0:w.heap.size≤gu:=by omega
 clear hgu hmk
 go_loopw [12] (fun v wr=>∃k:Nat,k≤n∧v=.int .i64 (k:Int)∧OwU wr gu N (bgt (mkTo l N k))∧Bl w wr) (fun v _=>n-(intOf v).toNat)
 case atStart=>exact⟨0,by omega,rfl,hU,hbW⟩
 case round=>
  clear hU hbW
  obtain⟨k,hk,rfl,hU,hbw⟩:=hrel
  obtain⟨wo,rfl⟩:∃wo:World,wo=wr:=⟨_,rfl⟩
  by_cases hkn:k<n
  ·have hki:(k:Int)<(n:Int):=by omega
   obtain⟨ad,rfl,hlta,hca⟩:=(h.bl hbw).cells k hkn
   obtain⟨x,hx⟩:∃x,ix l k=x:=⟨_,rfl⟩
   rw[hx]at hca
   by_cases hin:0≤x∧x≤N1
   ·have hset:=Lib.hid (mkTo_yes (l:=l) (n:=N) (k:=k) (by omega) (by omega))
    rw[hx]at hset
    replace hx:=Lib.hid hx
    go_wp2_with fail
    refine(within_yes _ hin.1 hin.2).mono ?_
    rintro e w1 ⟨rfl,q1,rfl⟩
    have hb6:=(Bl.refl wo).drewN q1
    obtain⟨w6,hw6⟩:∃w6,wo.drewN q1=w6:=⟨_,rfl⟩
    rw[hw6]at hb6 ⊢
    clear hw6
    have hU:=hU.bl hb6
    have ux:=hU.cell (i:=x.toNat) (by omega)
    have uf:=hU.frozen x.toNat
    obtain⟨hx1,hx2⟩:=hin
    have hxN:x<(N:Int):=by omega
    clear hN1
    go_wp2_with fail
    go_roundw
    case rel=>exact⟨k+1,by omega,by go_num,(hU.set x.toNat true).congr (fun i hi=>by rw[hset.out];exact bgt_set (mkTo_len l N k) true i hi),Bl.set (hbw.next hb6) hgu0 _⟩
    case measure=>simp[intOf];omega
   ·have hset:=Lib.hid (mkTo_no (l:=l) (n:=N) (k:=k) (by rw[hx];omega))
    replace hx:=Lib.hid hx
    go_wp2_with fail
    refine(within_no _ hin).mono ?_
    rintro e w1 ⟨rfl,q1,rfl⟩
    have hb6:=(Bl.refl wo).drewN q1
    obtain⟨w6,hw6⟩:∃w6,wo.drewN q1=w6:=⟨_,rfl⟩
    rw[hw6]at hb6 ⊢
    clear hw6 hN1 hin
    go_wp2_with fail
    go_roundw
    case rel=>exact⟨k+1,by omega,by go_num,by rw[hset.out];exact hU.bl hb6,hbw.next hb6⟩
    case measure=>simp[intOf];omega
  ·obtain rfl:k=n:=by omega
   have hkm2:¬(k:Int)<(k:Int):=by omega
   go_wp2_with fail
   go_ret
   exact⟨gu,rfl,by unfold mkA;rw[hl.out];exact hU,hgu0,hbw⟩
theorem listed_any (w:World) {g n c:Nat}{bl:List Bool}(hU:OwU w g n (bgt bl)) (hl:bl.length=n) (hn:n≤1048576) :
  Calls Tryz.prog 43 #[.slice (some ⟨g,0,none⟩) n c] w (IntsOw w (lsA bl)):=by
 replace hl:=Lib.hid hl
 go_enter Tryz.func43,Tryz.ntmps43
 go_wp2_with fail
 refine wp_gen (fun W3=>Bl w W3∧∃v c,OwL 3 w.heap.size W3 v (lsTo bl 0)∧v=.slice (some ⟨w.heap.size,0,none⟩) 0 c∧c=0) ⟨by exact slc,_,0,OwL.empty w (Nat.le_refl _) (by decide),rfl,rfl⟩ ?_
 rintro W3 ⟨hb3,v0,c0,hX,hv0,rfl⟩
 rw[←hv0]
 clear hv0
 go_loopw [3,9] (fun s v wr=>∃(i:Nat) (o:Value),i≤n∧v=.int .i64 (i:Int)∧o=s∧OwL 3 w.heap.size wr o (lsTo bl i)∧Bl w wr) (fun _ v _=>n-(intOf v).toNat)
 case atStart=>exact⟨0,v0,by omega,rfl,rfl,hX,hb3⟩
 case round=>
  clear hX hb3
  obtain⟨i,o,hi,rfl,rfl,hX,hbi⟩:=hrel
  obtain⟨wj,rfl⟩:∃wj:World,wj=wr:=⟨_,rfl⟩
  by_cases hin:i<n
  ·have hii:(i:Int)<(n:Int):=by omega
   have x0:=(hU.bl hbi).cell hin
   have hSl:=lsTo_len bl i
   obtain⟨q,hq⟩:∃q,bgt bl i=q:=⟨_,rfl⟩
   rw[hq]at x0
   cases q
   ·have hS2:=Lib.hid (lsTo_no hq)
    clear hq
    go_wp2_with fail
    go_roundw
    case rel=>exact⟨i+1,o,by omega,by go_num,rfl,by rw[hS2.out];exact hX,hbi⟩
    case measure=>simp[intOf];omega
   ·have hS2:=Lib.hid (lsTo_yes hq)
    clear hq
    go_wp2_with ((refine wpList_append_intX (w0:=w) info_int Tryz.underlying28 rfl (.tmp 15) (.tmp 17) rfl _ (lsTo bl i) (by rfl) hX hbi 1 (by rfl) (by omega) ?_);intro vx7 w7 hX7 hb7 hoth)
    rw[←hS2.out]at hX7
    go_roundw
    case rel=>exact⟨i+1,vx7,by omega,by go_num,rfl,hX7,hb7⟩
    case measure=>simp[intOf];omega
  ·obtain rfl:i=n:=by omega
   have hkm3:¬(i:Int)<(i:Int):=by omega
   have hSl:=lsTo_len bl i
   obtain⟨B,c,rfl,hR⟩:=hX.own (by omega)
   go_wp2_with fail
   go_ret
   exact⟨B,_,c,rfl,by unfold lsA;rw[hl.out];exact hR,hbi⟩
theorem edgeIndex_yes (w:World) {g n c:Nat}{l:List EdD}(h:RdES w (some ⟨g,0,none⟩) n c l) (hs:SrtE l) (hn:n≤1048576) (a b:Int) (hf:fndE (newE a b) l=true) :
  Calls Tryz.prog 69 #[.slice (some ⟨g,0,none⟩) n c,.int .i64 a,.int .i64 b] w fun e w'=>e=.returned (.int .i64 (posE (newE a b) l:Int))∧Bl w w':=by
 replace hs:=Lib.hid hs
 replace hf:=Lib.hid hf
 have hmn:min a b=(newZ a b).a:=rfl
 have hmx:max a b=(newZ a b).b:=rfl
 go_enter Tryz.func69,Tryz.ntmps69
 go_wp2_with fail
 refine(BSearch_any _ h hs.out (newZ a b) hn).mono ?_
 rw[fndE_z,posE_z,hf.out]
 rintro e w1 ⟨rfl,hb⟩
 clear hmn hmx
 go_wp2_with fail
 go_ret
 exact⟨rfl,hb⟩
theorem edgeIndex_no (w:World) {g n c:Nat}{l:List EdD}(h:RdES w (some ⟨g,0,none⟩) n c l) (hs:SrtE l) (hn:n≤1048576) (a b:Int) (hf:fndE (newE a b) l=false) :
  Calls Tryz.prog 69 #[.slice (some ⟨g,0,none⟩) n c,.int .i64 a,.int .i64 b] w fun e w'=>e=.returned (.int .i64 (-1))∧Bl w w':=by
 replace hs:=Lib.hid hs
 replace hf:=Lib.hid hf
 have hmn:min a b=(newZ a b).a:=rfl
 have hmx:max a b=(newZ a b).b:=rfl
 go_enter Tryz.func69,Tryz.ntmps69
 go_wp2_with fail
 refine(BSearch_any _ h hs.out (newZ a b) hn).mono ?_
 rw[fndE_z,posE_z,hf.out]
 rintro e w1 ⟨rfl,hb⟩
 clear hmn hmx
 go_wp2_with fail
 go_ret
 exact⟨rfl,hb⟩
end
end Go.Proofs.YtmkcacgmnnlddaaGreat
