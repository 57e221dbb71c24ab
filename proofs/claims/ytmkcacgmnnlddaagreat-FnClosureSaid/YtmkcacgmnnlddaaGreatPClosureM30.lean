import Derived.Test.YtmkcacgmnnlddaaGreatRows
import Derived.Test.YtmkcacgmnnlddaaGreatPClosureM28
import Derived.Test.YtmkcacgmnnlddaaGreatPClosureM21
import Derived.Test.YtmkcacgmnnlddaaGreatPClosureM22
import Derived.Test.YtmkcacgmnnlddaaGreatPClosureM27
import Derived.Lib.MinMax
import Derived.Test.YtmkcacgmnnlddaaGreatPClosureM29
import Derived.Test.YtmkcacgmnnlddaaGreatPClosureM23
import Derived.Test.YtmkcacgmnnlddaaGreatPClosureM20
import Derived.Test.YtmkcacgmnnlddaaGreatPClosureM12
namespace Go.Proofs.YtmkcacgmnnlddaaGreat
set_option maxRecDepth 100000
set_option maxHeartbeats 32000000
section
open Go.RowKit
def okT (n:Nat) (xs ys:List Int) (ts:List TriD):Bool :=
 decide (TrsIx n ts) && (decide (∀ k, k < ts.length → (0 ≤ (pix ts k).region ∧ (pix ts k).region ≤ 2) ∧ 0 ≤ (pix ts k).level ∧ (pix ts k).level ≤ 60) &&
  (decide (∀ k, k < ts.length → 0 < trn xs ys (pix ts k).a (pix ts k).b (pix ts k).c) &&
   (decide (∀ k, k < ts.length → ∀ j, j < k → sepI xs ys (pix ts j) (pix ts k) = true ∨ sepI xs ys (pix ts k) (pix ts j) = true) &&
    (decide (∀k,k<n→usedTo ts ts.length k=true)&&decide (NoIn n xs ys ts)))))
theorem usedTo_ex {ts:List TriD}{i:Nat}:∀{k:Nat},usedTo ts k i=true→∃j,j<k∧((pix ts j).a=i∨(pix ts j).b=i∨(pix ts j).c=i)
 | 0,h=>by cases h
 | k+1,h=>by
  unfold usedTo at h
  simp only[Bool.or_eq_true,decide_eq_true_eq]at h
  rcases h with h|h
  ·obtain⟨j,hj,h2⟩:=usedTo_ex h
   exact⟨j,by omega,h2⟩
  ·exact⟨k,by omega,h⟩
def okP (pts:List (Rat × Rat)):Bool :=
 decide (∀k,k<pts.length→∀j,j<k→pix pts k≠pix pts j)&&(decide (∀k,k<pts.length→SmQ (pix pts k).1∧SmQ (pix pts k).2)&&decide (∀k,k<pts.length→shS (shTo pts k) (pix pts k).1.den≤268435456∧shTo pts (k+1)≤268435456))
theorem MeshOk.of {m:MeQ}(n:Nat) (xs ys:List Int) (hn:m.pts.length=n) (hx:plXs m.pts n=xs) (hy:plYs m.pts n=ys) (h1:(3≤n∧n≤40)∧1≤m.tris.length∧m.tris.length≤48) (h2:okP m.pts=true) (h3:PlB n xs ys) (h4:okT n xs ys m.tris=true):MeshOk m:=by
 unfold okP at h2
 unfold okT at h4
 simp only[Bool.and_eq_true,decide_eq_true_eq]at h2 h4
 obtain⟨a1,a2,a3⟩:=h2
 obtain⟨b1,b2,b3,b4,b5,b6⟩:=h4
 subst hn
 subst hx
 subst hy
 exact⟨h1.1.1,h1.1.2,h1.2.1,h1.2.2,a1,⟨a2,a3,h3⟩,b1,b2,b3,b4,fun k hk=>usedTo_ex (b5 k hk),b6⟩
def qp1 (x y:Nat):Rat × Rat:=(mkRat (x:Int) 1,mkRat (y:Int) 1)
end
section
open Go.RowKit
theorem flat_get:∀(l:List EdD) {k j:Nat},k<l.length→j<4→(l.flatMap encE)[k*4+j]?=(encE (pix l k))[j]?
 | [],k,j,hk,_=>by simp at hk
 | x::xs,k,j,hk,hj=>by
  have h4:(encE x).length=4:=rfl
  rw[List.flatMap_cons]
  rcases k with _|k
  ·rw[List.getElem?_append_left (by omega),pix_zero]
   congr 1
   omega
  ·rw[List.getElem?_append_right (by omega),h4,pix_succ,show (k+1)*4+j-4=k*4+j by omega]
   exact flat_get xs (by simpa using hk) hj
theorem flat_setL (x:Int):∀(l:List EdD) (p:Nat),(l.modify p (fun e=>⟨e.a,e.b,x,e.r⟩)).flatMap encE=(l.flatMap encE).set (p*4+2) (.int .i64 x)
 | [],p=>by simp
 | y::ys,p=>by
  have h4:(encE y).length=4:=rfl
  rcases p with _|p
  ·simp[encE]
  ·rw[List.modify_succ_cons,List.flatMap_cons,List.flatMap_cons,flat_setL x ys p,List.set_append_right _ _ (by omega),h4,show (p+1)*4+2-4=p*4+2 by omega]
theorem flat_setR (x:Int):∀(l:List EdD) (p:Nat),(l.modify p (fun e=>⟨e.a,e.b,e.l,x⟩)).flatMap encE=(l.flatMap encE).set (p*4+3) (.int .i64 x)
 | [],p=>by simp
 | y::ys,p=>by
  have h4:(encE y).length=4:=rfl
  rcases p with _|p
  ·simp[encE]
  ·rw[List.modify_succ_cons,List.flatMap_cons,List.flatMap_cons,flat_setR x ys p,List.set_append_right _ _ (by omega),h4,show (p+1)*4+3-4=p*4+3 by omega]
section
variable {base:Nat}{w W:World}{v:Value}{l:List EdD}
theorem OwEd.empty (w:World) (hb:base≤w.heap.size):OwEd base (w.alloc (.cells #[] 114)) (.slice (some ⟨w.heap.size,0,none⟩) 0 0) []:=World.ownsRow_made w #[] 0 hb (Nat.zero_le _) (by simp)
theorem OwEd.keep (h:OwEd base w v l) (h1:∀g,v.ownBlock=Option.some g→W.heap[g]?=w.heap[g]?):OwEd base W v l:=by
 refine⟨h.1,?_⟩
 rcases h.2 with h2 |⟨g,cap,cur,hv,hg,hh,r⟩
 ·exact .inl h2
 ·exact .inr ⟨g,cap,cur,hv,hg,(h1 g (by rw[hv];rfl)).trans hh,r⟩
theorem OwEd.blk (h:OwEd base w v l) {g:Nat}(hg:v.ownBlock=Option.some g):base≤g∧g<w.heap.size:=World.ownsRow.lt h g hg
theorem OwEd.bl (h:OwEd base w v l) (hb:Bl w W):OwEd base W v l:=h.keep fun g e=>Below.block hb g (h.blk e).2
theorem OwEd.lit (h:OwEd base w v l) (hnil:v≠.slice none 0 0):∃g c,v=.slice (some ⟨g,0,none⟩) l.length c∧base≤g∧l.length≤c∧c≤9223372036854775807∧(∀k,k<l.length→EdAt w ⟨g,k*4,none⟩ (pix l k))∧g<w.heap.size∧(∀o,w.frozen? ⟨g,o,none⟩=false):=by
 obtain⟨hcl,⟨h,_⟩ |⟨g,cap,cur,rfl,hg,hh,hnc,hm,hcs,htk⟩⟩:=id h
 ·exact absurd h hnil
 refine⟨g,cap,rfl,hg,hnc,by unfold maxLen at hm;omega,fun k hk=>?_,heap_lt hh,fun o=>by simp[World.frozen?,hh]⟩
 have hc:∀j u,j<4→(encE (pix l k))[j]?=some u→w.cell? ⟨g,k*4+j,none⟩=some u:=fun j u hj hu=>row_cell hh htk (by rw[flat_get l hk hj];exact hu)
 exact⟨hc 0 _ (by omega) rfl,hc 1 _ (by omega) rfl,hc 2 _ (by omega) rfl,hc 3 _ (by omega) rfl⟩
theorem OwEd.setK {g n c:Nat}(h:OwEd base w (.slice (some ⟨g,0,none⟩) n c) l) {j:Nat}{u:Value}{l':List EdD}(hl:l'.length=l.length) (hf:l'.flatMap encE=(l.flatMap encE).set j u):OwEd base (w.setCell ⟨g,j,none⟩ u) (.slice (some ⟨g,0,none⟩) n c) l':=by
 obtain⟨hcl,⟨h,_⟩ |⟨g',cap,cur,h,hg,hh,hnc,hm,hcs,htk⟩⟩:=id h
 ·cases h
 injection h with q1 q2 q3
 injection q1 with q1
 injection q1 with q1
 subst q1
 unfold OwEd World.ownsRow
 rw[hl,hf]
 refine⟨by simpa using hcl,.inr ⟨g,cap,_,by rw[q2,q3],hg,Blk.set_ (T:=114) hh j u,hnc,hm,by simpa using hcs,?_⟩⟩
 rw[Array.toList_setIfInBounds,List.take_set,htk]
theorem OwEd.rd {g c:Nat}(h:OwEd base w (.slice (some ⟨g,0,none⟩) l.length c) l):RdES w (some ⟨g,0,none⟩) l.length c l:=by
 obtain⟨g',c',e,h1,h2,h3,h4,h5,h6⟩:=h.lit (fun e=>by cases e)
 injection e with q1 q2 q3
 injection q1 with q1
 injection q1 with q1
 subst q1 q3
 exact⟨rfl,h2,by omega,fun k hk=>⟨_,rfl,h5,by rw[Addr.add_lit,Nat.zero_add];exact h4 k hk⟩⟩
end
theorem RdES.setLit {w:World}{g n c:Nat}{l:List EdD}(h:RdES w (some ⟨g,0,none⟩) n c l) {p:Addr}(hp:g≠p.block) (u:Value):RdES (w.setCell p u) (some ⟨g,0,none⟩) n c l:=by
 refine⟨h.len,h.cap,h.small,fun k hk=>?_⟩
 obtain⟨ad,e,hlt,c0,c1,c2,c3⟩:=h.cells k hk
 refine⟨ad,e,by simpa using hlt,?_⟩
 cases e
 rw[Addr.add_lit]at c0 c1 c2 c3 ⊢
 have hne:∀o,p≠(⟨g,o,none⟩:Addr):=fun o e=>hp (by rw[e])
 exact⟨by rw[World.cell?_setCell_other (h:=hne _)];exact c0,by rw[World.cell?_setCell_other (h:=hne _)];exact c1,by rw[World.cell?_setCell_other (h:=hne _)];exact c2,by rw[World.cell?_setCell_other (h:=hne _)];exact c3⟩
def EdRes (w:World) (ts:List TriD) (en:Ending) (w':World):Prop:=∃g n c,en=.returned (.slice (some ⟨g,0,none⟩) n c)∧RdES w' (some ⟨g,0,none⟩) n c (edL ts)∧w.heap.size≤g∧Bl w w'
theorem edges_any (w:World) {A:Option Addr}{n cp gt m ct:Nat}{ts:List TriD}(ht:RdTS w (some ⟨gt,0,none⟩) m ct ts) (hm:m≤10000) :
  Calls Tryz.prog 45 #[.agg #[.slice A n cp,.slice (some ⟨gt,0,none⟩) m ct]] w (EdRes w ts):=by
 have hlt:=Lib.hid ht.len
 go_enter Tryz.func45,Tryz.ntmps45
 go_wp2_with fail
 refine wp_gen (fun W=>Bl w W∧∃go_,OwEd (w.heap.size+1) W (.slice (some ⟨go_,0,none⟩) 0 0) (edTo ts 0)∧go_=w.heap.size+1∧Blk W w.heap.size 26 #[.slice A n cp,.slice (some ⟨gt,0,none⟩) m ct]) ⟨by exact slc,_,by have h:=OwEd.empty (base:=w.heap.size+1) (w.alloc (.cells #[.slice A n cp,.slice (some ⟨gt,0,none⟩) m ct] 26)) (by simp);rw[World.size_alloc]at h;exact h,rfl,by exact bts⟩ ?_
 rintro W ⟨hbW,go_,hO0,hgo,hMx⟩
 rw[←hgo]
 clear hgo
 have hMl:=hMx.lt
 obtain⟨r0,r1⟩:=bx2 hMx
 go_wp2_with fail
 clear r0 r1
 go_loopw [3,17] (fun s v wr=>∃(k:Nat) (out:Value),k≤m∧v=.int .i64 (k:Int)∧out=s∧OwEd (w.heap.size+1) wr out (edTo ts k)∧out≠.slice none 0 0∧Bl w wr) (fun _ v _=>m-(intOf v).toNat)
 case atStart=>exact⟨0,_,by omega,rfl,rfl,hO0,(fun e=>by cases e),hbW⟩
 case round=>
  clear hO0
  obtain⟨k,out,hk,rfl,rfl,hO,hnil,hbw⟩:=hrel
  obtain⟨wo,rfl⟩:∃wo:World,wo=wr:=⟨_,rfl⟩
  by_cases hkm:k<m
  ·have hki:(k:Int)<(m:Int):=by omega
   obtain⟨c0,c1,c2,c3,c4⟩:=trs_lit (RdTS.bl ht hbw) hkm
   have hlast:=Lib.hid (fun t (h:pix ts k=t)=>(by rw[←h];rfl:putTri (edTo ts k) t (k:Int) 3=edTo ts (k+1)))
   obtain⟨t,hte⟩:∃t,pix ts k=t:=⟨_,rfl⟩
   have hlast:=Lib.hid (hlast.out t hte)
   rw[hte]at c0 c1 c2 c3 c4
   clear hte
   go_wp2_with fail
   refine calls_gen (fun W2=>Bl wo W2) slc ?_
   intro W2 hb2
   clear c0 c1 c2 c3 c4
   refine(corners_eq _ t).mono ?_
   rintro e w4 ⟨rfl,rfl⟩
   go_wp2_with fail
   refine wp_gen (fun W3=>Bl W2 W3∧∃g6,Blk W3 g6 66 #[.int .i64 t.a,.int .i64 t.b,.int .i64 t.c]∧g6=W2.heap.size+1+1) ⟨by exact slc,_,by exact bts,rfl⟩ ?_
   rintro W3 ⟨hb3,g6,h6,hg6⟩
   rw[←hg6]
   have hb23:=hb2.next hb3
   have ho6:out.ownBlock≠Option.some g6:=fun e=>by have:=(hO.blk e).2;have:=hb2.size;omega
   have hO:=hO.bl hb23
   have hbw3:=hbw.next hb23
   clear hg6 hb2 hb3 hb23
   go_loopw [3,25] (fun s v wr=>∃(i:Nat) (out:Value),i≤3∧v=.int .i64 (i:Int)∧out=s∧OwEd (w.heap.size+1) wr out (putTri (edTo ts k) t (k:Int) i)∧out≠.slice none 0 0∧Blk wr g6 66 #[.int .i64 t.a,.int .i64 t.b,.int .i64 t.c]∧out.ownBlock≠Option.some g6∧Bl w wr) (fun _ v _=>3-(intOf v).toNat)
   case atStart=>exact⟨0,out,by omega,rfl,rfl,hO,hnil,h6,ho6,hbw3⟩
   case round=>
    clear hO hnil h6 ho6 hbw3
    obtain⟨i,out,hi,rfl,rfl,hO,hnil,h6,ho6,hbi⟩:=hrel
    rcases(show i=0∨i=1∨i=2∨i=3 by omega)with rfl|rfl|rfl|rfl
    ·skip
     have e0:((0:Nat):Int)=0:=rfl
     rw[e0]
     clear e0 hi
     obtain⟨wj,rfl⟩:∃wj:World,wj=wr:=⟨_,rfl⟩
     have hix:∀W:World,(Instr.index 66 (.agg #[.int .i64 t.a,.int .i64 t.b,.int .i64 t.c]) (.int .i64 0)).run Tryz.prog W=.ok (.int .i64 t.a) W:=fun _=>by kernel_rfl
     obtain⟨L,hL⟩:∃L,putTri (edTo ts k) t (k:Int) 0=L:=⟨_,rfl⟩
     rw[hL]at hO
     have hsrt:SrtE L:=by rw[←hL];exact putTri_srt (edTo_srt ts k) 0
     have hlen:L.length≤3*k+3:=by rw[←hL];have a1:=edTo_len ts k;have a2:=putTri_len (l:=edTo ts k) (t:=t) (k:=(k:Int)) 0;omega
     have hnext:putTri (edTo ts k) t (k:Int) 1=putE L t.a t.b (k:Int):=by rw[←hL];rfl
     replace hnext:=Lib.hid hnext
     replace hsrt:=Lib.hid hsrt
     clear hL
     obtain⟨go_,co,rfl,hgo,hlc,hc63,hcells,hgl,hfz⟩:=hO.lit hnil
     clear hcells hfz
     obtain⟨y0,y1,y2⟩:=bx3 h6
     have h6l:=h6.lt
     have hmn:min t.a t.b=(newE t.a t.b).a:=rfl
     have hmx:max t.a t.b=(newE t.a t.b).b:=rfl
     go_wp2_with fail
     refine calls_gen (fun W4=>Bl wj W4∧∃g10,Blk W4 g10 114 #[.int .i64 (newE t.a t.b).a,.int .i64 (newE t.a t.b).b,.int .i64 (-1),.int .i64 (-1)]∧g10=wj.heap.size) ⟨by exact slc,_,by exact bts,rfl⟩ ?_
     rintro W4 ⟨hb4,g10,hE,hg10⟩
     rw[←hg10]
     clear y0 y1 y2 hg10 hmn hmx
     have hO:=hO.bl hb4
     obtain⟨P,hPe⟩:∃P,posE (newE t.a t.b) L=P:=⟨_,rfl⟩
     have hPl:P≤L.length:=by rw[←hPe];exact posE_le _ _
     refine(BSearch_any _ hO.rd hsrt.out (newE t.a t.b) (by omega)).mono ?_
     by_cases hf:fndE (newE t.a t.b) L=true
     ·have hP9:P<L.length:=by rw[←hPe];unfold fndE at hf;simp at hf;exact hf.1
      rw[hf,hPe]
      rintro e w5 ⟨rfl,hb5⟩
      replace hf:=Lib.hid hf
      replace hPe:=Lib.hid hPe
      have hO9:=hO.bl hb5
      have h69:=(h6.bl hb4).bl hb5
      have ho69:=ho6
      have hnil9:=hnil
      have hbx:=hbi.next (hb4.next hb5)
      clear hO h6 ho6 hnil
      obtain⟨g9,c9,he9,hg9,hlc9,hc93,hcells9,hgl9,hfz9⟩:=hO9.lit hnil9
      injection he9 with q1 q2 q3
      injection q1 with q1
      injection q1 with q1
      subst q1 q3
      clear q2
      obtain⟨x0,x1,x2,x3⟩:=hcells9 P hP9
      have z2:=hfz9 (P*4+2)
      have z3:=hfz9 (P*4+3)
      have hPi:(P:Int)<(L.length:Int):=by omega
      clear hcells9 hfz9
      by_cases hab:t.a<t.b
      ·have hset:setLR t.a t.b (k:Int)=fun e=>⟨e.a,e.b,(k:Int),e.r⟩:=by funext e;unfold setLR;rw[if_pos hab]
       replace hset:=Lib.hid hset
       go_wp2_with fail
       go_roundw
       case rel=>exact⟨1,_,by omega,rfl,rfl,by rw[hnext.out];unfold putE;rw[if_pos hf.out,hPe.out,hset.out];exact OwEd.setK hO9 (by simp) (flat_setL _ _ _),(fun e=>by cases e),h69.far (by intro e;exact ho69 (congrArg Option.some e.symm)) _,ho69,Bl.set hbx (Nat.le_of_succ_le hg9) _⟩
       case measure=>simp[intOf]
      ·have hset:setLR t.a t.b (k:Int)=fun e=>⟨e.a,e.b,e.l,(k:Int)⟩:=by funext e;unfold setLR;rw[if_neg hab]
       replace hset:=Lib.hid hset
       go_wp2_with fail
       go_roundw
       case rel=>exact⟨1,_,by omega,rfl,rfl,by rw[hnext.out];unfold putE;rw[if_pos hf.out,hPe.out,hset.out];exact OwEd.setK hO9 (by simp) (flat_setR _ _ _),(fun e=>by cases e),h69.far (by intro e;exact ho69 (congrArg Option.some e.symm)) _,ho69,Bl.set hbx (Nat.le_of_succ_le hg9) _⟩
       case measure=>simp[intOf]
     ·have hf:fndE (newE t.a t.b) L=false:=Bool.eq_false_iff.2 hf
      rw[hf,hPe]
      rintro e w5 ⟨rfl,hb5⟩
      replace hf:=Lib.hid hf
      have hO:=hO.bl hb5
      have hE:=hE.bl hb5
      have hEl:=hE.lt
      obtain⟨y0,y1,y2,y3⟩:=bx4 hE
      go_wp2_with fail
      refine calls_gen (fun W6=>Bl w5 W6∧∃gv,Blk W6 gv 114 #[.int .i64 (newE t.a t.b).a,.int .i64 (newE t.a t.b).b,.int .i64 (-1),.int .i64 (-1)]∧gv=w5.heap.size) ⟨by exact slc,_,by exact bts,rfl⟩ ?_
      rintro W6 ⟨hb6,gv,hV,hgv⟩
      have hV:Blk W6 gv 114 #[.int .i64 (newE t.a t.b).a,.int .i64 (newE t.a t.b).b,.int .i64 (newE t.a t.b).l,.int .i64 (newE t.a t.b).r]:=hV
      rw[←hgv]
      have hgv5:go_≠gv:=by have:=(hO.blk (g:=go_) rfl).2;omega
      clear y0 y1 y2 y3 hgv hE
      have hbx6:=hbi.next ((hb4.next hb5).next hb6)
      refine(Insert_edge _ (hO.bl hb6) hnil hV (fun e=>hgv5 (by injection e)) (by have:=hbi.size;have:=hb4.size;have:=hb5.size;have:=hb6.size;omega) (by omega) hPl rfl).mono ?_
      rintro e w7 ⟨v9,rfl,hO9,hI⟩
      obtain⟨hI1,hI2,hI3,hnil9⟩:=hI
      have hins:L.take P++(newE t.a t.b)::L.drop P=insE (newE t.a t.b) L:=by rw[←hPe];rfl
      rw[hins]at hO9
      have hP9:P<(insE (newE t.a t.b) L).length:=by rw[insE_len];omega
      have h66:=((h6.bl hb4).bl hb5).bl hb6
      have h69:Blk w7 g6 66 #[.int .i64 t.a,.int .i64 t.b,.int .i64 t.c]:=(hI3 g6 h66.lt ho6).1.trans h66
      have ho69:=(hI3 g6 h66.lt ho6).2
      have hbx:Bl w w7:=Below.trans hbx6 (Below.mono hI1 (by omega))
      replace hPe:=Lib.hid hPe
      clear hO h6 ho6 hnil hins hI1 hI2 hI3 h66
      obtain⟨g99,c99,hv9,-⟩:=hO9.lit hnil9
      subst hv9
      obtain⟨g9,c9,he9,hg9,hlc9,hc93,hcells9,hgl9,hfz9⟩:=hO9.lit hnil9
      injection he9 with q1 q2 q3
      injection q1 with q1
      injection q1 with q1
      subst q1 q3
      clear q2
      obtain⟨x0,x1,x2,x3⟩:=hcells9 P hP9
      have z2:=hfz9 (P*4+2)
      have z3:=hfz9 (P*4+3)
      have hPi:(P:Int)<((insE (newE t.a t.b) L).length:Int):=by omega
      clear hcells9 hfz9
      by_cases hab:t.a<t.b
      ·have hset:setLR t.a t.b (k:Int)=fun e=>⟨e.a,e.b,(k:Int),e.r⟩:=by funext e;unfold setLR;rw[if_pos hab]
       replace hset:=Lib.hid hset
       go_wp2_with fail
       go_roundw
       case rel=>exact⟨1,_,by omega,rfl,rfl,by rw[hnext.out];unfold putE;rw[if_neg (by rw[hf.out];decide),hPe.out,hset.out];exact OwEd.setK hO9 (by simp) (flat_setL _ _ _),(fun e=>by cases e),h69.far (by intro e;exact ho69 (congrArg Option.some e.symm)) _,ho69,Bl.set hbx (Nat.le_of_succ_le hg9) _⟩
       case measure=>simp[intOf]
      ·have hset:setLR t.a t.b (k:Int)=fun e=>⟨e.a,e.b,e.l,(k:Int)⟩:=by funext e;unfold setLR;rw[if_neg hab]
       replace hset:=Lib.hid hset
       go_wp2_with fail
       go_roundw
       case rel=>exact⟨1,_,by omega,rfl,rfl,by rw[hnext.out];unfold putE;rw[if_neg (by rw[hf.out];decide),hPe.out,hset.out];exact OwEd.setK hO9 (by simp) (flat_setR _ _ _),(fun e=>by cases e),h69.far (by intro e;exact ho69 (congrArg Option.some e.symm)) _,ho69,Bl.set hbx (Nat.le_of_succ_le hg9) _⟩
       case measure=>simp[intOf]
    ·skip
     have e0:((1:Nat):Int)=1:=rfl
     rw[e0]
     clear e0 hi
     obtain⟨wj,rfl⟩:∃wj:World,wj=wr:=⟨_,rfl⟩
     have hix:∀W:World,(Instr.index 66 (.agg #[.int .i64 t.a,.int .i64 t.b,.int .i64 t.c]) (.int .i64 1)).run Tryz.prog W=.ok (.int .i64 t.b) W:=fun _=>by kernel_rfl
     obtain⟨L,hL⟩:∃L,putTri (edTo ts k) t (k:Int) 1=L:=⟨_,rfl⟩
     rw[hL]at hO
     have hsrt:SrtE L:=by rw[←hL];exact putTri_srt (edTo_srt ts k) 1
     have hlen:L.length≤3*k+3:=by rw[←hL];have a1:=edTo_len ts k;have a2:=putTri_len (l:=edTo ts k) (t:=t) (k:=(k:Int)) 1;omega
     have hnext:putTri (edTo ts k) t (k:Int) 2=putE L t.b t.c (k:Int):=by rw[←hL];rfl
     replace hnext:=Lib.hid hnext
     replace hsrt:=Lib.hid hsrt
     clear hL
     obtain⟨go_,co,rfl,hgo,hlc,hc63,hcells,hgl,hfz⟩:=hO.lit hnil
     clear hcells hfz
     obtain⟨y0,y1,y2⟩:=bx3 h6
     have h6l:=h6.lt
     have hmn:min t.b t.c=(newE t.b t.c).a:=rfl
     have hmx:max t.b t.c=(newE t.b t.c).b:=rfl
     go_wp2_with fail
     refine calls_gen (fun W4=>Bl wj W4∧∃g10,Blk W4 g10 114 #[.int .i64 (newE t.b t.c).a,.int .i64 (newE t.b t.c).b,.int .i64 (-1),.int .i64 (-1)]∧g10=wj.heap.size) ⟨by exact slc,_,by exact bts,rfl⟩ ?_
     rintro W4 ⟨hb4,g10,hE,hg10⟩
     rw[←hg10]
     clear y0 y1 y2 hg10 hmn hmx
     have hO:=hO.bl hb4
     obtain⟨P,hPe⟩:∃P,posE (newE t.b t.c) L=P:=⟨_,rfl⟩
     have hPl:P≤L.length:=by rw[←hPe];exact posE_le _ _
     refine(BSearch_any _ hO.rd hsrt.out (newE t.b t.c) (by omega)).mono ?_
     by_cases hf:fndE (newE t.b t.c) L=true
     ·have hP9:P<L.length:=by rw[←hPe];unfold fndE at hf;simp at hf;exact hf.1
      rw[hf,hPe]
      rintro e w5 ⟨rfl,hb5⟩
      replace hf:=Lib.hid hf
      replace hPe:=Lib.hid hPe
      have hO9:=hO.bl hb5
      have h69:=(h6.bl hb4).bl hb5
      have ho69:=ho6
      have hnil9:=hnil
      have hbx:=hbi.next (hb4.next hb5)
      clear hO h6 ho6 hnil
      obtain⟨g9,c9,he9,hg9,hlc9,hc93,hcells9,hgl9,hfz9⟩:=hO9.lit hnil9
      injection he9 with q1 q2 q3
      injection q1 with q1
      injection q1 with q1
      subst q1 q3
      clear q2
      obtain⟨x0,x1,x2,x3⟩:=hcells9 P hP9
      have z2:=hfz9 (P*4+2)
      have z3:=hfz9 (P*4+3)
      have hPi:(P:Int)<(L.length:Int):=by omega
      clear hcells9 hfz9
      by_cases hab:t.b<t.c
      ·have hset:setLR t.b t.c (k:Int)=fun e=>⟨e.a,e.b,(k:Int),e.r⟩:=by funext e;unfold setLR;rw[if_pos hab]
       replace hset:=Lib.hid hset
       go_wp2_with fail
       go_roundw
       case rel=>exact⟨2,_,by omega,rfl,rfl,by rw[hnext.out];unfold putE;rw[if_pos hf.out,hPe.out,hset.out];exact OwEd.setK hO9 (by simp) (flat_setL _ _ _),(fun e=>by cases e),h69.far (by intro e;exact ho69 (congrArg Option.some e.symm)) _,ho69,Bl.set hbx (Nat.le_of_succ_le hg9) _⟩
       case measure=>simp[intOf]
      ·have hset:setLR t.b t.c (k:Int)=fun e=>⟨e.a,e.b,e.l,(k:Int)⟩:=by funext e;unfold setLR;rw[if_neg hab]
       replace hset:=Lib.hid hset
       go_wp2_with fail
       go_roundw
       case rel=>exact⟨2,_,by omega,rfl,rfl,by rw[hnext.out];unfold putE;rw[if_pos hf.out,hPe.out,hset.out];exact OwEd.setK hO9 (by simp) (flat_setR _ _ _),(fun e=>by cases e),h69.far (by intro e;exact ho69 (congrArg Option.some e.symm)) _,ho69,Bl.set hbx (Nat.le_of_succ_le hg9) _⟩
       case measure=>simp[intOf]
     ·have hf:fndE (newE t.b t.c) L=false:=Bool.eq_false_iff.2 hf
      rw[hf,hPe]
      rintro e w5 ⟨rfl,hb5⟩
      replace hf:=Lib.hid hf
      have hO:=hO.bl hb5
      have hE:=hE.bl hb5
      have hEl:=hE.lt
      obtain⟨y0,y1,y2,y3⟩:=bx4 hE
      go_wp2_with fail
      refine calls_gen (fun W6=>Bl w5 W6∧∃gv,Blk W6 gv 114 #[.int .i64 (newE t.b t.c).a,.int .i64 (newE t.b t.c).b,.int .i64 (-1),.int .i64 (-1)]∧gv=w5.heap.size) ⟨by exact slc,_,by exact bts,rfl⟩ ?_
      rintro W6 ⟨hb6,gv,hV,hgv⟩
      have hV:Blk W6 gv 114 #[.int .i64 (newE t.b t.c).a,.int .i64 (newE t.b t.c).b,.int .i64 (newE t.b t.c).l,.int .i64 (newE t.b t.c).r]:=hV
      rw[←hgv]
      have hgv5:go_≠gv:=by have:=(hO.blk (g:=go_) rfl).2;omega
      clear y0 y1 y2 y3 hgv hE
      have hbx6:=hbi.next ((hb4.next hb5).next hb6)
      refine(Insert_edge _ (hO.bl hb6) hnil hV (fun e=>hgv5 (by injection e)) (by have:=hbi.size;have:=hb4.size;have:=hb5.size;have:=hb6.size;omega) (by omega) hPl rfl).mono ?_
      rintro e w7 ⟨v9,rfl,hO9,hI⟩
      obtain⟨hI1,hI2,hI3,hnil9⟩:=hI
      have hins:L.take P++(newE t.b t.c)::L.drop P=insE (newE t.b t.c) L:=by rw[←hPe];rfl
      rw[hins]at hO9
      have hP9:P<(insE (newE t.b t.c) L).length:=by rw[insE_len];omega
      have h66:=((h6.bl hb4).bl hb5).bl hb6
      have h69:Blk w7 g6 66 #[.int .i64 t.a,.int .i64 t.b,.int .i64 t.c]:=(hI3 g6 h66.lt ho6).1.trans h66
      have ho69:=(hI3 g6 h66.lt ho6).2
      have hbx:Bl w w7:=Below.trans hbx6 (Below.mono hI1 (by omega))
      replace hPe:=Lib.hid hPe
      clear hO h6 ho6 hnil hins hI1 hI2 hI3 h66
      obtain⟨g99,c99,hv9,-⟩:=hO9.lit hnil9
      subst hv9
      obtain⟨g9,c9,he9,hg9,hlc9,hc93,hcells9,hgl9,hfz9⟩:=hO9.lit hnil9
      injection he9 with q1 q2 q3
      injection q1 with q1
      injection q1 with q1
      subst q1 q3
      clear q2
      obtain⟨x0,x1,x2,x3⟩:=hcells9 P hP9
      have z2:=hfz9 (P*4+2)
      have z3:=hfz9 (P*4+3)
      have hPi:(P:Int)<((insE (newE t.b t.c) L).length:Int):=by omega
      clear hcells9 hfz9
      by_cases hab:t.b<t.c
      ·have hset:setLR t.b t.c (k:Int)=fun e=>⟨e.a,e.b,(k:Int),e.r⟩:=by funext e;unfold setLR;rw[if_pos hab]
       replace hset:=Lib.hid hset
       go_wp2_with fail
       go_roundw
       case rel=>exact⟨2,_,by omega,rfl,rfl,by rw[hnext.out];unfold putE;rw[if_neg (by rw[hf.out];decide),hPe.out,hset.out];exact OwEd.setK hO9 (by simp) (flat_setL _ _ _),(fun e=>by cases e),h69.far (by intro e;exact ho69 (congrArg Option.some e.symm)) _,ho69,Bl.set hbx (Nat.le_of_succ_le hg9) _⟩
       case measure=>simp[intOf]
      ·have hset:setLR t.b t.c (k:Int)=fun e=>⟨e.a,e.b,e.l,(k:Int)⟩:=by funext e;unfold setLR;rw[if_neg hab]
       replace hset:=Lib.hid hset
       go_wp2_with fail
       go_roundw
       case rel=>exact⟨2,_,by omega,rfl,rfl,by rw[hnext.out];unfold putE;rw[if_neg (by rw[hf.out];decide),hPe.out,hset.out];exact OwEd.setK hO9 (by simp) (flat_setR _ _ _),(fun e=>by cases e),h69.far (by intro e;exact ho69 (congrArg Option.some e.symm)) _,ho69,Bl.set hbx (Nat.le_of_succ_le hg9) _⟩
       case measure=>simp[intOf]
    ·skip
     have e0:((2:Nat):Int)=2:=rfl
     rw[e0]
     clear e0 hi
     obtain⟨wj,rfl⟩:∃wj:World,wj=wr:=⟨_,rfl⟩
     have hix:∀W:World,(Instr.index 66 (.agg #[.int .i64 t.a,.int .i64 t.b,.int .i64 t.c]) (.int .i64 2)).run Tryz.prog W=.ok (.int .i64 t.c) W:=fun _=>by kernel_rfl
     obtain⟨L,hL⟩:∃L,putTri (edTo ts k) t (k:Int) 2=L:=⟨_,rfl⟩
     rw[hL]at hO
     have hsrt:SrtE L:=by rw[←hL];exact putTri_srt (edTo_srt ts k) 2
     have hlen:L.length≤3*k+3:=by rw[←hL];have a1:=edTo_len ts k;have a2:=putTri_len (l:=edTo ts k) (t:=t) (k:=(k:Int)) 2;omega
     have hnext:putTri (edTo ts k) t (k:Int) 3=putE L t.c t.a (k:Int):=by rw[←hL];rfl
     replace hnext:=Lib.hid hnext
     replace hsrt:=Lib.hid hsrt
     clear hL
     obtain⟨go_,co,rfl,hgo,hlc,hc63,hcells,hgl,hfz⟩:=hO.lit hnil
     clear hcells hfz
     obtain⟨y0,y1,y2⟩:=bx3 h6
     have h6l:=h6.lt
     have hmn:min t.c t.a=(newE t.c t.a).a:=rfl
     have hmx:max t.c t.a=(newE t.c t.a).b:=rfl
     go_wp2_with fail
     refine calls_gen (fun W4=>Bl wj W4∧∃g10,Blk W4 g10 114 #[.int .i64 (newE t.c t.a).a,.int .i64 (newE t.c t.a).b,.int .i64 (-1),.int .i64 (-1)]∧g10=wj.heap.size) ⟨by exact slc,_,by exact bts,rfl⟩ ?_
     rintro W4 ⟨hb4,g10,hE,hg10⟩
     rw[←hg10]
     clear y0 y1 y2 hg10 hmn hmx
     have hO:=hO.bl hb4
     obtain⟨P,hPe⟩:∃P,posE (newE t.c t.a) L=P:=⟨_,rfl⟩
     have hPl:P≤L.length:=by rw[←hPe];exact posE_le _ _
     refine(BSearch_any _ hO.rd hsrt.out (newE t.c t.a) (by omega)).mono ?_
     by_cases hf:fndE (newE t.c t.a) L=true
     ·have hP9:P<L.length:=by rw[←hPe];unfold fndE at hf;simp at hf;exact hf.1
      rw[hf,hPe]
      rintro e w5 ⟨rfl,hb5⟩
      replace hf:=Lib.hid hf
      replace hPe:=Lib.hid hPe
      have hO9:=hO.bl hb5
      have h69:=(h6.bl hb4).bl hb5
      have ho69:=ho6
      have hnil9:=hnil
      have hbx:=hbi.next (hb4.next hb5)
      clear hO h6 ho6 hnil
      obtain⟨g9,c9,he9,hg9,hlc9,hc93,hcells9,hgl9,hfz9⟩:=hO9.lit hnil9
      injection he9 with q1 q2 q3
      injection q1 with q1
      injection q1 with q1
      subst q1 q3
      clear q2
      obtain⟨x0,x1,x2,x3⟩:=hcells9 P hP9
      have z2:=hfz9 (P*4+2)
      have z3:=hfz9 (P*4+3)
      have hPi:(P:Int)<(L.length:Int):=by omega
      clear hcells9 hfz9
      by_cases hab:t.c<t.a
      ·have hset:setLR t.c t.a (k:Int)=fun e=>⟨e.a,e.b,(k:Int),e.r⟩:=by funext e;unfold setLR;rw[if_pos hab]
       replace hset:=Lib.hid hset
       go_wp2_with fail
       go_roundw
       case rel=>exact⟨3,_,by omega,rfl,rfl,by rw[hnext.out];unfold putE;rw[if_pos hf.out,hPe.out,hset.out];exact OwEd.setK hO9 (by simp) (flat_setL _ _ _),(fun e=>by cases e),h69.far (by intro e;exact ho69 (congrArg Option.some e.symm)) _,ho69,Bl.set hbx (Nat.le_of_succ_le hg9) _⟩
       case measure=>simp[intOf]
      ·have hset:setLR t.c t.a (k:Int)=fun e=>⟨e.a,e.b,e.l,(k:Int)⟩:=by funext e;unfold setLR;rw[if_neg hab]
       replace hset:=Lib.hid hset
       go_wp2_with fail
       go_roundw
       case rel=>exact⟨3,_,by omega,rfl,rfl,by rw[hnext.out];unfold putE;rw[if_pos hf.out,hPe.out,hset.out];exact OwEd.setK hO9 (by simp) (flat_setR _ _ _),(fun e=>by cases e),h69.far (by intro e;exact ho69 (congrArg Option.some e.symm)) _,ho69,Bl.set hbx (Nat.le_of_succ_le hg9) _⟩
       case measure=>simp[intOf]
     ·have hf:fndE (newE t.c t.a) L=false:=Bool.eq_false_iff.2 hf
      rw[hf,hPe]
      rintro e w5 ⟨rfl,hb5⟩
      replace hf:=Lib.hid hf
      have hO:=hO.bl hb5
      have hE:=hE.bl hb5
      have hEl:=hE.lt
      obtain⟨y0,y1,y2,y3⟩:=bx4 hE
      go_wp2_with fail
      refine calls_gen (fun W6=>Bl w5 W6∧∃gv,Blk W6 gv 114 #[.int .i64 (newE t.c t.a).a,.int .i64 (newE t.c t.a).b,.int .i64 (-1),.int .i64 (-1)]∧gv=w5.heap.size) ⟨by exact slc,_,by exact bts,rfl⟩ ?_
      rintro W6 ⟨hb6,gv,hV,hgv⟩
      have hV:Blk W6 gv 114 #[.int .i64 (newE t.c t.a).a,.int .i64 (newE t.c t.a).b,.int .i64 (newE t.c t.a).l,.int .i64 (newE t.c t.a).r]:=hV
      rw[←hgv]
      have hgv5:go_≠gv:=by have:=(hO.blk (g:=go_) rfl).2;omega
      clear y0 y1 y2 y3 hgv hE
      have hbx6:=hbi.next ((hb4.next hb5).next hb6)
      refine(Insert_edge _ (hO.bl hb6) hnil hV (fun e=>hgv5 (by injection e)) (by have:=hbi.size;have:=hb4.size;have:=hb5.size;have:=hb6.size;omega) (by omega) hPl rfl).mono ?_
      rintro e w7 ⟨v9,rfl,hO9,hI⟩
      obtain⟨hI1,hI2,hI3,hnil9⟩:=hI
      have hins:L.take P++(newE t.c t.a)::L.drop P=insE (newE t.c t.a) L:=by rw[←hPe];rfl
      rw[hins]at hO9
      have hP9:P<(insE (newE t.c t.a) L).length:=by rw[insE_len];omega
      have h66:=((h6.bl hb4).bl hb5).bl hb6
      have h69:Blk w7 g6 66 #[.int .i64 t.a,.int .i64 t.b,.int .i64 t.c]:=(hI3 g6 h66.lt ho6).1.trans h66
      have ho69:=(hI3 g6 h66.lt ho6).2
      have hbx:Bl w w7:=Below.trans hbx6 (Below.mono hI1 (by omega))
      replace hPe:=Lib.hid hPe
      clear hO h6 ho6 hnil hins hI1 hI2 hI3 h66
      obtain⟨g99,c99,hv9,-⟩:=hO9.lit hnil9
      subst hv9
      obtain⟨g9,c9,he9,hg9,hlc9,hc93,hcells9,hgl9,hfz9⟩:=hO9.lit hnil9
      injection he9 with q1 q2 q3
      injection q1 with q1
      injection q1 with q1
      subst q1 q3
      clear q2
      obtain⟨x0,x1,x2,x3⟩:=hcells9 P hP9
      have z2:=hfz9 (P*4+2)
      have z3:=hfz9 (P*4+3)
      have hPi:(P:Int)<((insE (newE t.c t.a) L).length:Int):=by omega
      clear hcells9 hfz9
      by_cases hab:t.c<t.a
      ·have hset:setLR t.c t.a (k:Int)=fun e=>⟨e.a,e.b,(k:Int),e.r⟩:=by funext e;unfold setLR;rw[if_pos hab]
       replace hset:=Lib.hid hset
       go_wp2_with fail
       go_roundw
       case rel=>exact⟨3,_,by omega,rfl,rfl,by rw[hnext.out];unfold putE;rw[if_neg (by rw[hf.out];decide),hPe.out,hset.out];exact OwEd.setK hO9 (by simp) (flat_setL _ _ _),(fun e=>by cases e),h69.far (by intro e;exact ho69 (congrArg Option.some e.symm)) _,ho69,Bl.set hbx (Nat.le_of_succ_le hg9) _⟩
       case measure=>simp[intOf]
      ·have hset:setLR t.c t.a (k:Int)=fun e=>⟨e.a,e.b,e.l,(k:Int)⟩:=by funext e;unfold setLR;rw[if_neg hab]
       replace hset:=Lib.hid hset
       go_wp2_with fail
       go_roundw
       case rel=>exact⟨3,_,by omega,rfl,rfl,by rw[hnext.out];unfold putE;rw[if_neg (by rw[hf.out];decide),hPe.out,hset.out];exact OwEd.setK hO9 (by simp) (flat_setR _ _ _),(fun e=>by cases e),h69.far (by intro e;exact ho69 (congrArg Option.some e.symm)) _,ho69,Bl.set hbx (Nat.le_of_succ_le hg9) _⟩
       case measure=>simp[intOf]
    ·have e0:((3:Nat):Int)=3:=rfl
     rw[e0]
     clear e0 hi
     rw[hlast.out]at hO
     go_wp2_with fail
     go_roundw
     case rel=>exact⟨k+1,out,by omega,by go_num,rfl,hO,hnil,hbi⟩
     case measure=>simp[intOf];omega
  ·obtain rfl:k=m:=by omega
   have hkm2:¬(k:Int)<(k:Int):=by omega
   obtain⟨go_,co,rfl,hgo,hlc,hc63,hcells,hgl,hfz⟩:=hO.lit hnil
   have hR:=hO.rd
   go_wp2_with fail
   go_ret
   exact⟨go_,_,_,rfl,by unfold edL;rw[hlt.out];exact hR,Nat.le_of_succ_le hgo,hbw⟩
end
section
open Go.RowKit
def EdIx (n:Nat) (l:List EdD):Prop:=∀e∈l,(0≤e.a∧e.a<n)∧0≤e.b∧e.b<n
theorem mem_modify {f:EdD→EdD}:∀{l:List EdD}{p:Nat}{e:EdD},e∈l.modify p f→e∈l∨∃x,x∈l∧e=f x
 | [],p,e,h=>by simp at h
 | y::ys,0,e,h=>by
  rw[List.modify_zero_cons,List.mem_cons]at h
  rcases h with h|h
  ·exact .inr ⟨y,by simp,h⟩
  ·exact .inl (by simp[h])
 | y::ys,p+1,e,h=>by
  rw[List.modify_succ_cons,List.mem_cons]at h
  rcases h with h|h
  ·exact .inl (by simp[h])
  ·rcases mem_modify h with h |⟨x,h1,h2⟩
   ·exact .inl (by simp[h])
   ·exact .inr ⟨x,by simp[h1],h2⟩
theorem EdIx.put {n:Nat}{l:List EdD}{a b k:Int}(h:EdIx n l) (ha:0≤a∧a<n) (hb:0≤b∧b<n):EdIx n (putE l a b k):=by
 have hn:((0:Int)≤(newE a b).a∧(newE a b).a < (n:Int))∧(0:Int)≤(newE a b).b∧(newE a b).b < (n:Int):=by
  show ((0:Int)≤min a b∧min a b<(n:Int))∧(0:Int)≤max a b∧max a b<(n:Int)
  omega
 have h2:EdIx n (if fndE (newE a b) l then l else insE (newE a b) l):=by
  by_cases hf:fndE (newE a b) l=true
  ·rw[if_pos hf];exact h
  ·rw[if_neg hf]
   intro e he
   unfold insE at he
   rw[List.mem_append,List.mem_cons]at he
   rcases he with he|rfl|he
   ·exact h e (List.mem_of_mem_take he)
   ·exact hn
   ·exact h e (List.mem_of_mem_drop he)
 intro e he
 rcases mem_modify he with he |⟨x,hx,rfl⟩
 ·exact h2 e he
 ·have:=h2 x hx
  unfold setLR
  split <;> exact this
theorem edTo_ix {n:Nat}{ts:List TriD}(h:TrsIx n ts):∀{k:Nat},k≤ts.length→EdIx n (edTo ts k)
 | 0,_=>fun e he=>by simp[edTo]at he
 | k+1,hk=>by
  obtain⟨h1,h2,h3⟩:=h k (by omega)
  exact((EdIx.put (edTo_ix h (by omega)) h1 h2).put h2 h3).put h3 h1
theorem EdIx.at_ {n:Nat}{l:List EdD}(h:EdIx n l) {k:Nat}(hk:k<l.length):(0≤(pix l k).a∧(pix l k).a<n)∧0≤(pix l k).b∧(pix l k).b<n:=by
 refine h _ ?_
 unfold pix
 rw[List.getD_eq_getElem?_getD,List.getElem?_eq_getElem hk]
 exact List.getElem_mem hk
theorem OwL.any {E:TypeId}{base:Nat}{w:World}{v:Value}{l:List Int}(h:OwL E base w v l) (hl:l.length≤9223372036854775807):∃A c,v=.slice A l.length c∧RdI w A l.length c l:=by
 obtain⟨A,c,e,ho⟩:=h.own hl
 exact⟨A,c,e,ho.rd⟩
def MeAt (w:World) (v:Value) (mq:MeQ):Prop:=∃gp n cp gt m ct,v=.agg #[.slice (some ⟨gp,0,none⟩) n cp,.slice (some ⟨gt,0,none⟩) m ct]∧RdPS w (some ⟨gp,0,none⟩) n cp (mq.pts.map tp)∧RdTS w (some ⟨gt,0,none⟩) m ct mq.tris
theorem MeAt.bl {w W:World}{v:Value}{mq:MeQ}(h:MeAt w v mq) (hb:Bl w W):MeAt W v mq:=by
 obtain⟨gp,n,cp,gt,m,ct,e,hp,ht⟩:=h
 exact⟨gp,n,cp,gt,m,ct,e,RdPS.bl hp hb,RdTS.bl ht hb⟩
end
section
open Go.RowKit
theorem sumTo_bd {α:Type} [Inhabited α] {f:α→Nat}{l:List α}{b:Nat}:∀{k:Nat},(∀i,i<k→f (pix l i)≤b)→sumTo f l k≤k*b
 | 0,_=>by simp[sumTo]
 | k+1,h=>by
  have h1:=sumTo_bd (k:=k) (fun i hi=>h i (by omega))
  have h2:=h k (by omega)
  have h3:(k+1)*b=k*b+b:=Nat.succ_mul k b
  show sumTo f l k+f (pix l k)≤_
  omega
theorem MeshOk.sz {mq:MeQ}(h:MeshOk mq):szL szP (mq.pts.map tp)≤1048576:=by
 have h1:∀ i,i < (mq.pts.map tp).length→szP (pix (mq.pts.map tp) i)≤4:=by
  intro i hi
  rw[List.length_map]at hi
  rw[pix_map hi]
  obtain⟨s1,s2⟩:=h.place.1 i hi
  have a1:=s1.mag
  have a2:=s1.den
  have a3:=s2.mag
  have a4:=s2.den
  show ((toR (pix mq.pts i).1).mag.length+(toR (pix mq.pts i).1).den.length)+((toR (pix mq.pts i).2).mag.length+(toR (pix mq.pts i).2).den.length)≤4
  omega
 have h2:=sumTo_bd h1
 have h3:=h.n40
 unfold szL
 rw[List.length_map]at *
 omega
def mc (mq:MeQ) (x:Int):Rat × Rat:=pix mq.pts x.toNat
theorem cornL_me {mq:MeQ}(h:TrsIx mq.pts.length mq.tris) {k:Nat}(hk:k<mq.tris.length):cornL ⟨mq.pts.map tp,mq.tris⟩ (k:Int)=[tp (mc mq (pix mq.tris k).a),tp (mc mq (pix mq.tris k).b),tp (mc mq (pix mq.tris k).c)]:=by
 obtain⟨⟨a0,a1⟩,⟨b0,b1⟩,c0,c1⟩:=h k hk
 unfold cornL
 rw[if_pos]
 ·show [pix (mq.pts.map tp) _,pix (mq.pts.map tp) _,pix (mq.pts.map tp) _]=_
  rw[Int.toNat_natCast]
  show [pix (mq.pts.map tp) (pix mq.tris k).a.toNat,pix (mq.pts.map tp) (pix mq.tris k).b.toNat,pix (mq.pts.map tp) (pix mq.tris k).c.toNat]=_
  rw[pix_map (by omega),pix_map (by omega),pix_map (by omega)]
  rfl
 ·refine⟨⟨by omega,by show (k:Int)≤(mq.tris.length:Int)-1;omega⟩,fun j hj=>?_⟩
  rw[Int.toNat_natCast]
  show 0≤triIx (pix mq.tris k) j∧triIx (pix mq.tris k) j≤((mq.pts.map tp).length:Int)-1
  rw[List.length_map]
  rcases(show j=0∨j=1∨j=2 by omega)with rfl|rfl|rfl
  ·show 0≤(pix mq.tris k).a∧(pix mq.tris k).a≤_;omega
  ·show 0≤(pix mq.tris k).b∧(pix mq.tris k).b≤_;omega
  ·show 0≤(pix mq.tris k).c∧(pix mq.tris k).c≤_;omega
end
end Go.Proofs.YtmkcacgmnnlddaaGreat
