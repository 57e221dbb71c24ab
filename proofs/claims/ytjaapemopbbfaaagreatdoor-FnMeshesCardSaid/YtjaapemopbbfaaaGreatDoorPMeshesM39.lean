import Derived.Test.YtjaapemopbbfaaaGreatDoorPMeshesM36
namespace Go.Proofs.YtjaapemopbbfaaaGreatDoor
open Go.RowKit
set_option maxRecDepth 100000
set_option maxHeartbeats 32000000
theorem vr {α:Type}(f:α->α) (y:α) (ys:List α):∀xs:List α,(xs++y::ys).modify xs.length f=xs++f y::ys
 | []=>rfl
 | x::xs=>by
  rw[List.cons_append,List.length_cons,List.modify_succ_cons,vr f y ys xs]
  rfl
theorem QR {L:List EdD}{a b k:Int}{z:EdD}{i:Nat}(hz:qS a b=z) (hf:yG z L=false) (hi:zD z L=i):yX L a b k=(L.take i++[zo a b k z])++L.drop i:=by
 have hp:=Qd z L
 unfold yX
 rw[hz,hf,hi]
 have h:=vr (zo a b k) z (L.drop i) (L.take i)
 rw[List.length_take,Nat.min_eq_left (by omega)]at h
 rw[if_neg (by decide)]
 unfold vv
 rw[hi,h]
 simp
theorem uR {L:List EdD}{a b k:Int}{z:EdD}{i:Nat}(hz:qS a b=z) (hf:yG z L=true) (hi:zD z L=i):yX L a b k=L.modify i (zo a b k):=by
 unfold yX
 rw[hz,hf,hi,if_pos rfl]
theorem JZ {L:List EdD}{z:EdD}{i:Nat}(hi:zD z L=i) (h:i<L.length->¬Zz (pix L i) z=0):yG z L=false:=by
 rw[Bool.eq_false_iff]
 intro hf
 unfold yG at hf
 simp only[Bool.and_eq_true,decide_eq_true_eq]at hf
 rw[hi]at hf
 exact h hf.1 hf.2
theorem Kn {L:List EdD}{z:EdD}{i:Nat}(hi:zD z L=i) (h1:i<L.length) (h:Zz (pix L i) z=0):yG z L=true:=by
 unfold yG
 rw[hi,decide_eq_true h1,decide_eq_true h]
 rfl
theorem zU.low {base b1:Nat}{w:World}{v:Value}{l:List EdD}(h:zU b1 w v l) (hb:base<=b1):zU base w v l:=by
 refine⟨h.1,?_⟩
 rcases h.2 with h2 |⟨g,cap,cur,hv,hg,r⟩
 ·exact .inl h2
 ·exact .inr ⟨g,cap,cur,hv,Nat.le_trans hb hg,r⟩
theorem yz {base:Nat}{w w':World}{v v':Value}{l:List EdD}(hb:Bl w w') (hbase:base<=w.heap.size) (h:zU w.heap.size w' v' l) (hn:v'≠.slice none 0 0):qd0 base w v v' w' :=
 ⟨Below.mono hb hbase,hb.size,λg hg _=>⟨Below.block hb g hg,λe=>by have:=(h.blk e).1;omega⟩,hn⟩
theorem uB {base:Nat}{w W:World}{g n c q:Nat}{u:Value}(hb:Bl w W) (hbase:base<=w.heap.size) (hg:base<=g):qd0 base w (.slice (some ⟨g,0,none⟩) n c) (.slice (some ⟨g,0,none⟩) n c) (W.setCell ⟨g,q,none⟩ u) :=
 ⟨Below.setCell (Below.mono hb hbase) hg u,by simpa using hb.size,λb hb2 hn=>⟨(Below.heap_setCell W ⟨g,q,none⟩ u b (λe=>hn (by rw[e];rfl))).trans (Below.block hb b hb2),hn⟩,λe=>by cases e⟩
theorem vq (w:World) {E:EdD}{a b l r:Int}(h:E.a=a/\E.b=b/\E.l=l/\E.r=r):∀k,k<1->Us (w.alloc (.cells #[.int .i64 a,.int .i64 b,.int .i64 l,.int .i64 r] 152)) ⟨w.heap.size,0+k*4,none⟩ (pix [E] k):=by
 intro k hk
 obtain rfl:k=0:=by omega
 obtain⟨h0,h1,h2,h3⟩:=h
 obtain⟨y0,y1,y2,y3⟩:=bx4 (Blk.new w 152 #[.int .i64 a,.int .i64 b,.int .i64 l,.int .i64 r])
 rw[VB]
 exact⟨by rw[h0];exact y0,by rw[h1];exact y1,by rw[h2];exact y2,by rw[h3];exact y3⟩
theorem QS {L:List EdD}{i j:Nat}(h:j<i):pix (L.take i) j=pix L j:=by
 unfold pix
 rw[List.getD_eq_getElem?_getD,List.getD_eq_getElem?_getD,List.getElem?_take_of_lt h]
theorem JU {L:List EdD}{i j:Nat}:pix (L.drop i) j=pix L (i+j):=by
 unfold pix
 rw[List.getD_eq_getElem?_getD,List.getD_eq_getElem?_getD,List.getElem?_drop]
theorem Z7 (w:World) {base:Nat}{v:Value}{L:List EdD}(hown:zU base w v L) (hnil:v≠.slice none 0 0) (hbase:base<=w.heap.size) (hlen:L.length<=10000) (hs:Zr L) (a b k:Int) (hab:a≠b) :
  Calls Tryz.prog 204 #[v,.int .i64 a,.int .i64 b,.int .i64 k] w (xf base w v (yX L a b k)):=by
 obtain⟨gl,c,rfl,hgl,hlc,hc63,_,hglt,hfz⟩:=hown.lit hnil
 have hrd:Yn w (some ⟨gl,0,none⟩) L.length c L:=zU.rd hown
 obtain⟨n,hn⟩:∃n,L.length=n:=⟨_,rfl⟩
 rw[hn]at hown hlc hlen hrd ⊢
 have hln:=Lib.hid hn
 clear hn
 replace hs:=Lib.hid hs
 obtain⟨z,hz⟩:∃z,qS a b=z:=⟨_,rfl⟩
 rcases Int.lt_or_gt_of_ne hab with h|h
 ·skip
  have hma:z.a=a:=by rw[<-hz];show min a b=_;omega
  have hmb:z.b=b:=by rw[<-hz];show max a b=_;omega
  have hzr:z.r=-1/\z.l=-1:=by rw[<-hz];exact⟨rfl,rfl⟩
  subst hma hmb
  replace hz:=Lib.hid hz
  have hset:=Lib.hid (show zo z.a z.b k=λe=>⟨e.a,e.b,k,e.r⟩by funext e;unfold zo;rw[if_pos h])
  obtain⟨E,hE⟩:∃E,zo z.a z.b k z=E:=⟨_,rfl⟩
  have hEc:E.a=z.a/\E.b=z.b/\E.l=k/\E.r=(-1):=by rw[<-hE,hset.out];exact⟨rfl,rfl,rfl,hzr.1⟩
  replace hEc:=Lib.hid hEc
  replace hE:=Lib.hid hE
  clear hzr hab
  have hng:¬z.b<z.a:=by omega
  go_enter Tryz.func204,Tryz.ntmps204
  go_wp2_with fail
  refine qe (λW=>Bl w W/\∃g9,Blk W g9 152 #[.int .i64 z.a,.int .i64 z.b,.int .i64 k,.int .i64 (-1)]/\g9=w.heap.size) ⟨by exact slc,_,by exact bts,rfl⟩ ?_
  rintro W ⟨hbW,g9,h9,hg9⟩
  rw[<-hg9]
  clear hg9 hng
  go_loopw [10] (λv wr=>∃i:Nat,i<=n/\v=.int .i64 (i:Int)/\Hid (∀j,j<i->ltE (pix L j) z=true)/\Bl W wr) (λv _=>n-(intOf v).toNat)
  case atStart=>exact⟨0,by omega,rfl,Lib.hid (λj hj=>by omega),Bl.refl _⟩
  case round=>
   obtain⟨i,hi,rfl,hno,hbv⟩:=hrel
   obtain⟨wo,rfl⟩:∃wo:World,wo=wr:=⟨_,rfl⟩
   have hbw:=hbW.next hbv
   have hbw':=hbw
   obtain⟨y0,y1,y2,y3⟩:=bx4 (h9.bl hbv)
   by_cases hin:i<n
   ·have hii:(i:Int)<(n:Int):=by omega
    obtain⟨c0,c1,c2,c3⟩:=zX (hrd.bl hbw) hin
    have hzc:Zz (pix L i) z=0↔(pix L i).a=z.a/\(pix L i).b=z.b:=Qz
    have hzl:ltE (pix L i) z=true↔(pix L i).a<z.a\/((pix L i).a=z.a/\(pix L i).b<z.b):=Qs
    have hstep:=Lib.hid (λ(h2:ltE (pix L i) z=true)=>(λj hj=>by
      rcases(show j<i\/j=i by omega)with h3|rfl
      ·exact hno.out j h3
      ·exact h2:∀j,j<i+1->ltE (pix L j) z=true))
    have hpos:=λ(h2:ltE (pix L i) z=false)=>(Jg hs.out (by rw[hln.out];omega) hno.out (qco hs.out h2)).symm
    replace hpos:=Lib.hid hpos
    have hcm:=Lib.hid (λ(h2:zD z L=i) (h3:¬Zz (pix L i) z=0)=>JZ h2 (λ_=>h3))
    have hcp:=Lib.hid (λ(h2:zD z L=i) (h3:Zz (pix L i) z=0)=>Kn h2 (by rw[hln.out];exact hin) h3)
    obtain⟨x,hx⟩:∃x,pix L i=x:=⟨_,rfl⟩
    rw[hx]at c0 c1 c2 c3 hzc hzl hstep hpos hcm hcp
    clear hx
    rcases Int.lt_trichotomy x.a z.a with q0|q0|q0
    ·have hl:=Lib.hid (hzl.2 (.inl q0))
     have d0:decide (x.a<z.a)=true:=decide_eq_true q0
     clear hzc hzl
     go_wp2_with fail
     go_quiet (fail)
     go_wp2_with fail
     go_roundw
     case rel=>exact⟨i+1,by omega,by go_num,Lib.hid (hstep.out hl.out),slc⟩
     case measure=>simp[intOf];omega
    ·have d0:decide (x.a<z.a)=false:=by simp;omega
     have d1:(x.a == z.a)=true:=by simp;omega
     rcases Int.lt_trichotomy x.b z.b with q1|q1|q1
     ·have hl:=Lib.hid (hzl.2 (.inr ⟨q0,q1⟩))
      have d2:decide (x.b<z.b)=true:=decide_eq_true q1
      clear hzc hzl
      go_wp2_with fail
      go_quiet (fail)
      go_wp2_with fail
      go_roundw
      case rel=>exact⟨i+1,by omega,by go_num,Lib.hid (hstep.out hl.out),slc⟩
      case measure=>simp[intOf];omega
     ·have d2:decide (x.b<z.b)=false:=by simp;omega
      have d3:(x.b == z.b)=true:=by simp;omega
      have hpos:=hpos.out (Bool.eq_false_iff.2 λh2=>by have:=hzl.1 h2;omega)
      have hf:=hcp.out hpos (hzc.2 ⟨q0,q1⟩)
      clear hzc hzl
      have hput:=Lib.hid (uR (k:=k) hz.out hf hpos)
      clear hf
      have zf2:=hfz (i*4+2)
      have zf3:=hfz (i*4+3)
      rw[<-hbw.frozenOf (p:=⟨gl,i*4+2,none⟩) hglt]at zf2
      rw[<-hbw.frozenOf (p:=⟨gl,i*4+3,none⟩) hglt]at zf3
      go_wp2_with fail
      go_quiet (fail)
      go_wp2_with fail
      go_quiet (fail)
      go_wp2_with fail
      go_ret
      exact⟨_,rfl,by rw[hput.out,hset.out];exact zU.setK (hown.bl hbw) (by simp) (jG _ _ _),uB (by exact slc) hbase hgl⟩
     ·have d2:decide (x.b<z.b)=false:=by simp;omega
      have d3:(x.b == z.b)=false:=by simp;omega
      have hpos:=hpos.out (Bool.eq_false_iff.2 λh2=>by have:=hzl.1 h2;omega)
      have hf:=hcm.out hpos (λh2=>by have:=hzc.1 h2;omega)
      clear hzc hzl
      go_wp2_with fail
      go_quiet (fail)
      have hput:=Lib.hid (QR (k:=k) hz.out hf hpos)
      rw[hE.out]at hput
      clear hf
      have hin2:(i:Int)<=(c:Int):=by omega
      have hinn:(i:Int)<=(n:Int):=by omega
      go_wp2_with fail
      go_quiet (fail)
      go_upto_region 12 with (fail)
      refine qe (λW4=>Bl wo W4) (by exact slc) ?_
      intro W4 hb4
      have hcb:∀j,j<n->Us W4 ⟨gl,j*4,none⟩ (pix L j):=λj hj=>zX (hrd.bl (hbw.next hb4)) hj
      have hbw4:=hbw.next hb4
      have h9:=h9.bl (hbv.next hb4)
      clear y0 y1 y2 y3
      have hz4:=hbw4.size
      have hgl4:gl<W4.heap.size:=Nat.lt_of_lt_of_le hglt hz4
      go_upto_region 13 with (refine qj rfl (.tmp 97) (.tmp 100) rfl _ [] (by rfl) (zU.empty W4 (Nat.le_refl _)) (λe=>by cases e) (by simp) W4 ((Bl.refl _).alloc _) (Nat.le_refl _) gl 0 i c (by rfl) (L.take i) (by rw[List.length_take,hln.out];omega) (λj hj=>by rw[QS hj,Nat.zero_add];exact(hcb j (by omega)).bl hgl4 ((Bl.refl _).alloc _)) (by simp) (by omega) ?_;intro v1 w1 g1 n1 hb1 ho1)
      obtain⟨y0,y1,y2,y3⟩:=bx4 (h9.bl hb1)
      have hz1:=hb1.size
      go_upto_region 14 with (refine qj rfl (.tmp 102) (.tmp 104) rfl _ ([]++L.take i) (by rfl) (g1.bl ((Bl.refl _).alloc _)) n1 (by simp;omega) W4 (hb1.alloc _) (Nat.le_refl _) w1.heap.size 0 1 1 (by rfl) [E] rfl (vq w1 hEc.out) (by simp;omega) (by omega) ?_;intro v2 w2 g2 n2 hb2 ho2)
      have hz2:=hb2.size
      go_wp2_with (refine qj rfl (.tmp 106) (.tmp 109) rfl _ ([]++L.take i++[E]) (by rfl) g2 n2 hz2 W4 hb2 (Nat.le_refl _) gl (i*4) (n-i) (c-i) (by rfl) (L.drop i) (by rw[List.length_drop,hln.out]) (λj hj=>by rw[JU];have h:=(hcb (i+j) (by omega)).bl hgl4 hb2;rw[Nat.add_mul]at h;exact h) (by simp;omega) (by omega) ?_;intro v3 w3 g3 n3 hb3 ho3)
      go_ret
      exact⟨v3,rfl,by rw[hput.out];exact(g3.low hz4).low hbase,yz (hbw4.next hb3) hbase (g3.low hz4) n3⟩
    ·have d0:decide (x.a<z.a)=false:=by simp;omega
     have d1:(x.a == z.a)=false:=by simp;omega
     have hpos:=hpos.out (Bool.eq_false_iff.2 λh2=>by have:=hzl.1 h2;omega)
     have hf:=hcm.out hpos (λh2=>by have:=hzc.1 h2;omega)
     clear hzc hzl
     go_wp2_with fail
     go_quiet (fail)
     have hput:=Lib.hid (QR (k:=k) hz.out hf hpos)
     rw[hE.out]at hput
     clear hf
     have hin2:(i:Int)<=(c:Int):=by omega
     have hinn:(i:Int)<=(n:Int):=by omega
     go_wp2_with fail
     go_quiet (fail)
     go_upto_region 12 with (fail)
     refine qe (λW4=>Bl wo W4) (by exact slc) ?_
     intro W4 hb4
     have hcb:∀j,j<n->Us W4 ⟨gl,j*4,none⟩ (pix L j):=λj hj=>zX (hrd.bl (hbw.next hb4)) hj
     have hbw4:=hbw.next hb4
     have h9:=h9.bl (hbv.next hb4)
     clear y0 y1 y2 y3
     have hz4:=hbw4.size
     have hgl4:gl<W4.heap.size:=Nat.lt_of_lt_of_le hglt hz4
     go_upto_region 13 with (refine qj rfl (.tmp 97) (.tmp 100) rfl _ [] (by rfl) (zU.empty W4 (Nat.le_refl _)) (λe=>by cases e) (by simp) W4 ((Bl.refl _).alloc _) (Nat.le_refl _) gl 0 i c (by rfl) (L.take i) (by rw[List.length_take,hln.out];omega) (λj hj=>by rw[QS hj,Nat.zero_add];exact(hcb j (by omega)).bl hgl4 ((Bl.refl _).alloc _)) (by simp) (by omega) ?_;intro v1 w1 g1 n1 hb1 ho1)
     obtain⟨y0,y1,y2,y3⟩:=bx4 (h9.bl hb1)
     have hz1:=hb1.size
     go_upto_region 14 with (refine qj rfl (.tmp 102) (.tmp 104) rfl _ ([]++L.take i) (by rfl) (g1.bl ((Bl.refl _).alloc _)) n1 (by simp;omega) W4 (hb1.alloc _) (Nat.le_refl _) w1.heap.size 0 1 1 (by rfl) [E] rfl (vq w1 hEc.out) (by simp;omega) (by omega) ?_;intro v2 w2 g2 n2 hb2 ho2)
     have hz2:=hb2.size
     go_wp2_with (refine qj rfl (.tmp 106) (.tmp 109) rfl _ ([]++L.take i++[E]) (by rfl) g2 n2 hz2 W4 hb2 (Nat.le_refl _) gl (i*4) (n-i) (c-i) (by rfl) (L.drop i) (by rw[List.length_drop,hln.out]) (λj hj=>by rw[JU];have h:=(hcb (i+j) (by omega)).bl hgl4 hb2;rw[Nat.add_mul]at h;exact h) (by simp;omega) (by omega) ?_;intro v3 w3 g3 n3 hb3 ho3)
     go_ret
     exact⟨v3,rfl,by rw[hput.out];exact(g3.low hz4).low hbase,yz (hbw4.next hb3) hbase (g3.low hz4) n3⟩
   ·obtain rfl:i=n:=by omega
    have hkm2:¬(i:Int)<(i:Int):=by omega
    have hpos:=(Jg hs.out (Nat.le_of_eq hln.out.symm) hno.out (λk h1 h2=>by rw[hln.out]at h2;omega)).symm
    have hf:=JZ hpos (λh2=>by rw[hln.out]at h2;omega)
    go_wp2_with fail
    go_quiet (fail)
    have hput:=Lib.hid (QR (k:=k) hz.out hf hpos)
    rw[hE.out]at hput
    clear hf
    have hin2:(i:Int)<=(c:Int):=by omega
    have hinn:(i:Int)<=(i:Int):=by omega
    go_wp2_with fail
    go_quiet (fail)
    go_upto_region 12 with (fail)
    refine qe (λW4=>Bl wo W4) (by exact slc) ?_
    intro W4 hb4
    have hcb:∀j,j<i->Us W4 ⟨gl,j*4,none⟩ (pix L j):=λj hj=>zX (hrd.bl (hbw.next hb4)) hj
    have hbw4:=hbw.next hb4
    have h9:=h9.bl (hbv.next hb4)
    clear y0 y1 y2 y3
    have hz4:=hbw4.size
    have hgl4:gl<W4.heap.size:=Nat.lt_of_lt_of_le hglt hz4
    go_upto_region 13 with (refine qj rfl (.tmp 97) (.tmp 100) rfl _ [] (by rfl) (zU.empty W4 (Nat.le_refl _)) (λe=>by cases e) (by simp) W4 ((Bl.refl _).alloc _) (Nat.le_refl _) gl 0 i c (by rfl) (L.take i) (by rw[List.length_take,hln.out];omega) (λj hj=>by rw[QS hj,Nat.zero_add];exact(hcb j (by omega)).bl hgl4 ((Bl.refl _).alloc _)) (by simp) (by omega) ?_;intro v1 w1 g1 n1 hb1 ho1)
    obtain⟨y0,y1,y2,y3⟩:=bx4 (h9.bl hb1)
    have hz1:=hb1.size
    go_upto_region 14 with (refine qj rfl (.tmp 102) (.tmp 104) rfl _ ([]++L.take i) (by rfl) (g1.bl ((Bl.refl _).alloc _)) n1 (by simp;omega) W4 (hb1.alloc _) (Nat.le_refl _) w1.heap.size 0 1 1 (by rfl) [E] rfl (vq w1 hEc.out) (by simp;omega) (by omega) ?_;intro v2 w2 g2 n2 hb2 ho2)
    have hz2:=hb2.size
    rcases Nat.lt_or_eq_of_le hlc with hlc2|hlc2
    ·have hlc3:¬c=i:=by omega
     have hlc4:(i:Int)<(c:Int):=by omega
     have hlc5:¬c-i=0:=by omega
     have hlc6:(c-i == 0)=false:=by simp;omega
     go_wp2_with (first |(refine qj rfl (.tmp 106) (.tmp 109) rfl _ ([]++L.take i++[E]) (by rfl) g2 n2 hz2 W4 hb2 (Nat.le_refl _) gl (i*4) 0 (c-i) (by rfl) (L.drop i) (by simp[hln.out]) (λj hj=>by omega) (by simp;omega) (by omega) ?_;intro v3 w3 g3 n3 hb3 ho3))
     go_ret
     exact⟨v3,rfl,by rw[hput.out];exact(g3.low hz4).low hbase,yz (hbw4.next hb3) hbase (g3.low hz4) n3⟩
    ·subst hlc2
     go_wp2_with (first |(refine qj rfl (.tmp 106) (.tmp 109) rfl _ ([]++L.take i++[E]) (by rfl) g2 n2 hz2 W4 hb2 (Nat.le_refl _) gl (i*4) 0 (0) (by rfl) (L.drop i) (by simp[hln.out]) (λj hj=>by omega) (by simp;omega) (by omega) ?_;intro v3 w3 g3 n3 hb3 ho3) |(refine qj rfl (.tmp 106) (.tmp 109) rfl _ ([]++L.take i++[E]) (by rfl) g2 n2 hz2 W4 hb2 (Nat.le_refl _) gl (0) 0 (0) (by rfl) (L.drop i) (by simp[hln.out]) (λj hj=>by omega) (by simp;omega) (by omega) ?_;intro v3 w3 g3 n3 hb3 ho3) |(refine qj rfl (.tmp 106) (.tmp 109) rfl _ ([]++L.take i++[E]) (by rfl) g2 n2 hz2 W4 hb2 (Nat.le_refl _) gl (i*4) 0 (i-i) (by rfl) (L.drop i) (by simp[hln.out]) (λj hj=>by omega) (by simp;omega) (by omega) ?_;intro v3 w3 g3 n3 hb3 ho3))
     go_ret
     exact⟨v3,rfl,by rw[hput.out];exact(g3.low hz4).low hbase,yz (hbw4.next hb3) hbase (g3.low hz4) n3⟩
 ·skip
  have hma:z.a=b:=by rw[<-hz];show min a b=_;omega
  have hmb:z.b=a:=by rw[<-hz];show max a b=_;omega
  have hzr:z.r=-1/\z.l=-1:=by rw[<-hz];exact⟨rfl,rfl⟩
  subst hma hmb
  replace hz:=Lib.hid hz
  have hset:=Lib.hid (show zo z.b z.a k=λe=>⟨e.a,e.b,e.l,k⟩by funext e;unfold zo;rw[if_neg (by omega)])
  obtain⟨E,hE⟩:∃E,zo z.b z.a k z=E:=⟨_,rfl⟩
  have hEc:E.a=z.a/\E.b=z.b/\E.l=(-1)/\E.r=k:=by rw[<-hE,hset.out];exact⟨rfl,rfl,hzr.2,rfl⟩
  replace hEc:=Lib.hid hEc
  replace hE:=Lib.hid hE
  clear hzr hab
  have hng:z.a<z.b:=by omega
  go_enter Tryz.func204,Tryz.ntmps204
  go_upto_region 2 with (fail)
  refine qe (λW=>Bl w W/\∃g9,Blk W g9 152 #[.int .i64 z.b,.int .i64 z.a,.int .i64 k,.int .i64 (-1)]/\g9=w.heap.size) ⟨by exact slc,_,by exact bts,rfl⟩ ?_
  rintro W ⟨hbW,g9,h9,hg9⟩
  rw[<-hg9]
  obtain⟨y0,y1,y2,y3⟩:=bx4 h9
  have zf0:=h9.frozen 0
  have zf1:=h9.frozen 1
  have zf2:=h9.frozen 2
  have zf3:=h9.frozen 3
  have hg9w:w.heap.size<=g9:=by omega
  clear hg9
  go_wp2_with fail
  refine qe (λW2=>Bl w W2/\∃cs,Blk W2 g9 152 cs/\cs=#[.int .i64 z.a,.int .i64 z.b,.int .i64 (-1),.int .i64 k]) ⟨by exact slc,_,Blk.set_ (Blk.set_ (Blk.set_ (Blk.set_ h9 0 (.int .i64 z.a)) 1 (.int .i64 z.b)) 2 (.int .i64 (-1))) 3 (.int .i64 k),by simp⟩ ?_
  rintro W2 ⟨hbW2,cs,h92,rfl⟩
  clear h9 hbW zf0 zf1 zf2 zf3 hg9w y0 y1 y2 y3
  obtain⟨W,rfl⟩:∃W3:World,W3=W2:=⟨_,rfl⟩
  have h9:=h92
  have hbW:=hbW2
  clear hng
  go_loopw [10] (λv wr=>∃i:Nat,i<=n/\v=.int .i64 (i:Int)/\Hid (∀j,j<i->ltE (pix L j) z=true)/\Bl W wr) (λv _=>n-(intOf v).toNat)
  case atStart=>exact⟨0,by omega,rfl,Lib.hid (λj hj=>by omega),Bl.refl _⟩
  case round=>
   obtain⟨i,hi,rfl,hno,hbv⟩:=hrel
   obtain⟨wo,rfl⟩:∃wo:World,wo=wr:=⟨_,rfl⟩
   have hbw:=hbW.next hbv
   have hbw':=hbw
   obtain⟨y0,y1,y2,y3⟩:=bx4 (h9.bl hbv)
   by_cases hin:i<n
   ·have hii:(i:Int)<(n:Int):=by omega
    obtain⟨c0,c1,c2,c3⟩:=zX (hrd.bl hbw) hin
    have hzc:Zz (pix L i) z=0↔(pix L i).a=z.a/\(pix L i).b=z.b:=Qz
    have hzl:ltE (pix L i) z=true↔(pix L i).a<z.a\/((pix L i).a=z.a/\(pix L i).b<z.b):=Qs
    have hstep:=Lib.hid (λ(h2:ltE (pix L i) z=true)=>(λj hj=>by
      rcases(show j<i\/j=i by omega)with h3|rfl
      ·exact hno.out j h3
      ·exact h2:∀j,j<i+1->ltE (pix L j) z=true))
    have hpos:=λ(h2:ltE (pix L i) z=false)=>(Jg hs.out (by rw[hln.out];omega) hno.out (qco hs.out h2)).symm
    replace hpos:=Lib.hid hpos
    have hcm:=Lib.hid (λ(h2:zD z L=i) (h3:¬Zz (pix L i) z=0)=>JZ h2 (λ_=>h3))
    have hcp:=Lib.hid (λ(h2:zD z L=i) (h3:Zz (pix L i) z=0)=>Kn h2 (by rw[hln.out];exact hin) h3)
    obtain⟨x,hx⟩:∃x,pix L i=x:=⟨_,rfl⟩
    rw[hx]at c0 c1 c2 c3 hzc hzl hstep hpos hcm hcp
    clear hx
    rcases Int.lt_trichotomy x.a z.a with q0|q0|q0
    ·have hl:=Lib.hid (hzl.2 (.inl q0))
     have d0:decide (x.a<z.a)=true:=decide_eq_true q0
     clear hzc hzl
     go_wp2_with fail
     go_quiet (fail)
     go_wp2_with fail
     go_roundw
     case rel=>exact⟨i+1,by omega,by go_num,Lib.hid (hstep.out hl.out),slc⟩
     case measure=>simp[intOf];omega
    ·have d0:decide (x.a<z.a)=false:=by simp;omega
     have d1:(x.a == z.a)=true:=by simp;omega
     rcases Int.lt_trichotomy x.b z.b with q1|q1|q1
     ·have hl:=Lib.hid (hzl.2 (.inr ⟨q0,q1⟩))
      have d2:decide (x.b<z.b)=true:=decide_eq_true q1
      clear hzc hzl
      go_wp2_with fail
      go_quiet (fail)
      go_wp2_with fail
      go_roundw
      case rel=>exact⟨i+1,by omega,by go_num,Lib.hid (hstep.out hl.out),slc⟩
      case measure=>simp[intOf];omega
     ·have d2:decide (x.b<z.b)=false:=by simp;omega
      have d3:(x.b == z.b)=true:=by simp;omega
      have hpos:=hpos.out (Bool.eq_false_iff.2 λh2=>by have:=hzl.1 h2;omega)
      have hf:=hcp.out hpos (hzc.2 ⟨q0,q1⟩)
      clear hzc hzl
      have hput:=Lib.hid (uR (k:=k) hz.out hf hpos)
      clear hf
      have zf2:=hfz (i*4+2)
      have zf3:=hfz (i*4+3)
      rw[<-hbw.frozenOf (p:=⟨gl,i*4+2,none⟩) hglt]at zf2
      rw[<-hbw.frozenOf (p:=⟨gl,i*4+3,none⟩) hglt]at zf3
      go_wp2_with fail
      go_quiet (fail)
      go_wp2_with fail
      go_quiet (fail)
      go_wp2_with fail
      go_ret
      exact⟨_,rfl,by rw[hput.out,hset.out];exact zU.setK (hown.bl hbw) (by simp) (jJ _ _ _),uB (by exact slc) hbase hgl⟩
     ·have d2:decide (x.b<z.b)=false:=by simp;omega
      have d3:(x.b == z.b)=false:=by simp;omega
      have hpos:=hpos.out (Bool.eq_false_iff.2 λh2=>by have:=hzl.1 h2;omega)
      have hf:=hcm.out hpos (λh2=>by have:=hzc.1 h2;omega)
      clear hzc hzl
      go_wp2_with fail
      go_quiet (fail)
      have hput:=Lib.hid (QR (k:=k) hz.out hf hpos)
      rw[hE.out]at hput
      clear hf
      have hin2:(i:Int)<=(c:Int):=by omega
      have hinn:(i:Int)<=(n:Int):=by omega
      go_wp2_with fail
      go_quiet (fail)
      go_upto_region 12 with (fail)
      refine qe (λW4=>Bl wo W4) (by exact slc) ?_
      intro W4 hb4
      have hcb:∀j,j<n->Us W4 ⟨gl,j*4,none⟩ (pix L j):=λj hj=>zX (hrd.bl (hbw.next hb4)) hj
      have hbw4:=hbw.next hb4
      have h9:=h9.bl (hbv.next hb4)
      clear y0 y1 y2 y3
      have hz4:=hbw4.size
      have hgl4:gl<W4.heap.size:=Nat.lt_of_lt_of_le hglt hz4
      go_upto_region 13 with (refine qj rfl (.tmp 97) (.tmp 100) rfl _ [] (by rfl) (zU.empty W4 (Nat.le_refl _)) (λe=>by cases e) (by simp) W4 ((Bl.refl _).alloc _) (Nat.le_refl _) gl 0 i c (by rfl) (L.take i) (by rw[List.length_take,hln.out];omega) (λj hj=>by rw[QS hj,Nat.zero_add];exact(hcb j (by omega)).bl hgl4 ((Bl.refl _).alloc _)) (by simp) (by omega) ?_;intro v1 w1 g1 n1 hb1 ho1)
      obtain⟨y0,y1,y2,y3⟩:=bx4 (h9.bl hb1)
      have hz1:=hb1.size
      go_upto_region 14 with (refine qj rfl (.tmp 102) (.tmp 104) rfl _ ([]++L.take i) (by rfl) (g1.bl ((Bl.refl _).alloc _)) n1 (by simp;omega) W4 (hb1.alloc _) (Nat.le_refl _) w1.heap.size 0 1 1 (by rfl) [E] rfl (vq w1 hEc.out) (by simp;omega) (by omega) ?_;intro v2 w2 g2 n2 hb2 ho2)
      have hz2:=hb2.size
      go_wp2_with (refine qj rfl (.tmp 106) (.tmp 109) rfl _ ([]++L.take i++[E]) (by rfl) g2 n2 hz2 W4 hb2 (Nat.le_refl _) gl (i*4) (n-i) (c-i) (by rfl) (L.drop i) (by rw[List.length_drop,hln.out]) (λj hj=>by rw[JU];have h:=(hcb (i+j) (by omega)).bl hgl4 hb2;rw[Nat.add_mul]at h;exact h) (by simp;omega) (by omega) ?_;intro v3 w3 g3 n3 hb3 ho3)
      go_ret
      exact⟨v3,rfl,by rw[hput.out];exact(g3.low hz4).low hbase,yz (hbw4.next hb3) hbase (g3.low hz4) n3⟩
    ·have d0:decide (x.a<z.a)=false:=by simp;omega
     have d1:(x.a == z.a)=false:=by simp;omega
     have hpos:=hpos.out (Bool.eq_false_iff.2 λh2=>by have:=hzl.1 h2;omega)
     have hf:=hcm.out hpos (λh2=>by have:=hzc.1 h2;omega)
     clear hzc hzl
     go_wp2_with fail
     go_quiet (fail)
     have hput:=Lib.hid (QR (k:=k) hz.out hf hpos)
     rw[hE.out]at hput
     clear hf
     have hin2:(i:Int)<=(c:Int):=by omega
     have hinn:(i:Int)<=(n:Int):=by omega
     go_wp2_with fail
     go_quiet (fail)
     go_upto_region 12 with (fail)
     refine qe (λW4=>Bl wo W4) (by exact slc) ?_
     intro W4 hb4
     have hcb:∀j,j<n->Us W4 ⟨gl,j*4,none⟩ (pix L j):=λj hj=>zX (hrd.bl (hbw.next hb4)) hj
     have hbw4:=hbw.next hb4
     have h9:=h9.bl (hbv.next hb4)
     clear y0 y1 y2 y3
     have hz4:=hbw4.size
     have hgl4:gl<W4.heap.size:=Nat.lt_of_lt_of_le hglt hz4
     go_upto_region 13 with (refine qj rfl (.tmp 97) (.tmp 100) rfl _ [] (by rfl) (zU.empty W4 (Nat.le_refl _)) (λe=>by cases e) (by simp) W4 ((Bl.refl _).alloc _) (Nat.le_refl _) gl 0 i c (by rfl) (L.take i) (by rw[List.length_take,hln.out];omega) (λj hj=>by rw[QS hj,Nat.zero_add];exact(hcb j (by omega)).bl hgl4 ((Bl.refl _).alloc _)) (by simp) (by omega) ?_;intro v1 w1 g1 n1 hb1 ho1)
     obtain⟨y0,y1,y2,y3⟩:=bx4 (h9.bl hb1)
     have hz1:=hb1.size
     go_upto_region 14 with (refine qj rfl (.tmp 102) (.tmp 104) rfl _ ([]++L.take i) (by rfl) (g1.bl ((Bl.refl _).alloc _)) n1 (by simp;omega) W4 (hb1.alloc _) (Nat.le_refl _) w1.heap.size 0 1 1 (by rfl) [E] rfl (vq w1 hEc.out) (by simp;omega) (by omega) ?_;intro v2 w2 g2 n2 hb2 ho2)
     have hz2:=hb2.size
     go_wp2_with (refine qj rfl (.tmp 106) (.tmp 109) rfl _ ([]++L.take i++[E]) (by rfl) g2 n2 hz2 W4 hb2 (Nat.le_refl _) gl (i*4) (n-i) (c-i) (by rfl) (L.drop i) (by rw[List.length_drop,hln.out]) (λj hj=>by rw[JU];have h:=(hcb (i+j) (by omega)).bl hgl4 hb2;rw[Nat.add_mul]at h;exact h) (by simp;omega) (by omega) ?_;intro v3 w3 g3 n3 hb3 ho3)
     go_ret
     exact⟨v3,rfl,by rw[hput.out];exact(g3.low hz4).low hbase,yz (hbw4.next hb3) hbase (g3.low hz4) n3⟩
   ·obtain rfl:i=n:=by omega
    have hkm2:¬(i:Int)<(i:Int):=by omega
    have hpos:=(Jg hs.out (Nat.le_of_eq hln.out.symm) hno.out (λk h1 h2=>by rw[hln.out]at h2;omega)).symm
    have hf:=JZ hpos (λh2=>by rw[hln.out]at h2;omega)
    go_wp2_with fail
    go_quiet (fail)
    have hput:=Lib.hid (QR (k:=k) hz.out hf hpos)
    rw[hE.out]at hput
    clear hf
    have hin2:(i:Int)<=(c:Int):=by omega
    have hinn:(i:Int)<=(i:Int):=by omega
    go_wp2_with fail
    go_quiet (fail)
    go_upto_region 12 with (fail)
    refine qe (λW4=>Bl wo W4) (by exact slc) ?_
    intro W4 hb4
    have hcb:∀j,j<i->Us W4 ⟨gl,j*4,none⟩ (pix L j):=λj hj=>zX (hrd.bl (hbw.next hb4)) hj
    have hbw4:=hbw.next hb4
    have h9:=h9.bl (hbv.next hb4)
    clear y0 y1 y2 y3
    have hz4:=hbw4.size
    have hgl4:gl<W4.heap.size:=Nat.lt_of_lt_of_le hglt hz4
    go_upto_region 13 with (refine qj rfl (.tmp 97) (.tmp 100) rfl _ [] (by rfl) (zU.empty W4 (Nat.le_refl _)) (λe=>by cases e) (by simp) W4 ((Bl.refl _).alloc _) (Nat.le_refl _) gl 0 i c (by rfl) (L.take i) (by rw[List.length_take,hln.out];omega) (λj hj=>by rw[QS hj,Nat.zero_add];exact(hcb j (by omega)).bl hgl4 ((Bl.refl _).alloc _)) (by simp) (by omega) ?_;intro v1 w1 g1 n1 hb1 ho1)
    obtain⟨y0,y1,y2,y3⟩:=bx4 (h9.bl hb1)
    have hz1:=hb1.size
    go_upto_region 14 with (refine qj rfl (.tmp 102) (.tmp 104) rfl _ ([]++L.take i) (by rfl) (g1.bl ((Bl.refl _).alloc _)) n1 (by simp;omega) W4 (hb1.alloc _) (Nat.le_refl _) w1.heap.size 0 1 1 (by rfl) [E] rfl (vq w1 hEc.out) (by simp;omega) (by omega) ?_;intro v2 w2 g2 n2 hb2 ho2)
    have hz2:=hb2.size
    rcases Nat.lt_or_eq_of_le hlc with hlc2|hlc2
    ·have hlc3:¬c=i:=by omega
     have hlc4:(i:Int)<(c:Int):=by omega
     have hlc5:¬c-i=0:=by omega
     have hlc6:(c-i == 0)=false:=by simp;omega
     go_wp2_with (first |(refine qj rfl (.tmp 106) (.tmp 109) rfl _ ([]++L.take i++[E]) (by rfl) g2 n2 hz2 W4 hb2 (Nat.le_refl _) gl (i*4) 0 (c-i) (by rfl) (L.drop i) (by simp[hln.out]) (λj hj=>by omega) (by simp;omega) (by omega) ?_;intro v3 w3 g3 n3 hb3 ho3))
     go_ret
     exact⟨v3,rfl,by rw[hput.out];exact(g3.low hz4).low hbase,yz (hbw4.next hb3) hbase (g3.low hz4) n3⟩
    ·subst hlc2
     go_wp2_with (first |(refine qj rfl (.tmp 106) (.tmp 109) rfl _ ([]++L.take i++[E]) (by rfl) g2 n2 hz2 W4 hb2 (Nat.le_refl _) gl (i*4) 0 (0) (by rfl) (L.drop i) (by simp[hln.out]) (λj hj=>by omega) (by simp;omega) (by omega) ?_;intro v3 w3 g3 n3 hb3 ho3) |(refine qj rfl (.tmp 106) (.tmp 109) rfl _ ([]++L.take i++[E]) (by rfl) g2 n2 hz2 W4 hb2 (Nat.le_refl _) gl (0) 0 (0) (by rfl) (L.drop i) (by simp[hln.out]) (λj hj=>by omega) (by simp;omega) (by omega) ?_;intro v3 w3 g3 n3 hb3 ho3) |(refine qj rfl (.tmp 106) (.tmp 109) rfl _ ([]++L.take i++[E]) (by rfl) g2 n2 hz2 W4 hb2 (Nat.le_refl _) gl (i*4) 0 (i-i) (by rfl) (L.drop i) (by simp[hln.out]) (λj hj=>by omega) (by simp;omega) (by omega) ?_;intro v3 w3 g3 n3 hb3 ho3))
     go_ret
     exact⟨v3,rfl,by rw[hput.out];exact(g3.low hz4).low hbase,yz (hbw4.next hb3) hbase (g3.low hz4) n3⟩
theorem Ju (w:World) {A:Option Addr}{n cp gt m ct:Nat}{ts:List qC}(ht:zx w (some ⟨gt,0,none⟩) m ct ts) (hm:m<=3000) (hd:∀k,k<ts.length->(pix ts k).a≠(pix ts k).b/\(pix ts k).b≠(pix ts k).c/\(pix ts k).c≠(pix ts k).a) :
  Calls Tryz.prog 155 #[.agg #[.slice A n cp,.slice (some ⟨gt,0,none⟩) m ct]] w (qdO w ts):=by
 have hlt:=Lib.hid ht.len
 replace hd:=Lib.hid hd
 go_enter Tryz.func155,Tryz.ntmps155
 go_wp2_with fail
 refine qe (λW=>Bl w W/\∃go_,zU (w.heap.size+1) W (.slice (some ⟨go_,0,none⟩) 0 0) (yU ts 0)/\go_=w.heap.size+1/\Blk W w.heap.size 49 #[.slice A n cp,.slice (some ⟨gt,0,none⟩) m ct]) ⟨by exact slc,_,by have h:=zU.empty (base:=w.heap.size+1) (w.alloc (.cells #[.slice A n cp,.slice (some ⟨gt,0,none⟩) m ct] 49)) (by simp);rw[World.size_alloc]at h;exact h,rfl,by exact bts⟩ ?_
 rintro W ⟨hbW,go_,hO0,hgo,hMx⟩
 rw[<-hgo]
 clear hgo
 have hMl:=hMx.lt
 obtain⟨r0,r1⟩:=bx2 hMx
 go_wp2_with fail
 clear r0 r1
 go_loopw [3,13] (λs v wr=>∃(k:Nat) (out:Value),k<=m/\v=.int .i64 (k:Int)/\out=s/\zU (w.heap.size+1) wr out (yU ts k)/\out≠.slice none 0 0/\Bl w wr/\w.heap.size+1<=wr.heap.size) (λ_ v _=>m-(intOf v).toNat)
 case atStart=>exact⟨0,_,by omega,rfl,rfl,hO0,(λe=>by cases e),hbW,hMl⟩
 case round=>
  clear hO0
  obtain⟨k,out,hk,rfl,rfl,hO,hnil,hbw,hzw⟩:=hrel
  obtain⟨wo,rfl⟩:∃wo:World,wo=wr:=⟨_,rfl⟩
  by_cases hkm:k<m
  ·have hki:(k:Int)<(m:Int):=by omega
   obtain⟨c0,c1,c2,c3,c4⟩:=jO (zx.bl ht hbw) hkm
   have hlast:=Lib.hid (λt (h:pix ts k=t)=>(by rw[<-h];rfl:zy (yU ts k) t (k:Int) 3=yU ts (k+1)))
   obtain⟨hd0,hd1,hd2⟩:=hd.out k (by rw[hlt.out];exact hkm)
   obtain⟨t,hte⟩:∃t,pix ts k=t:=⟨_,rfl⟩
   have hlast:=Lib.hid (hlast.out t hte)
   rw[hte]at c0 c1 c2 c3 c4 hd0 hd1 hd2
   clear hte
   go_upto_region 5 with (fail)
   refine qe (λW2=>Bl wo W2/\∃g5,Blk W2 g5 83 #[.int .i64 t.a,.int .i64 t.b,.int .i64 t.c,.int .i64 t.region,.int .i64 t.level]/\g5=wo.heap.size) ⟨by exact slc,_,by exact bts,rfl⟩ ?_
   rintro W2 ⟨hb2,g5,h5,hg5⟩
   rw[<-hg5]
   clear c0 c1 c2 c3 c4 hg5
   obtain⟨y0,y1,y2,y3,y4⟩:=bx5 h5
   go_wp2_with fail
   refine(vN _ t.a t.b t.c t.region t.level).mono ?_
   rintro e w4 ⟨g6,rfl,hg6,h6,hb4⟩
   clear y0 y1 y2 y3 y4 h5
   have hb24:=hb2.next hb4
   have ho6:out.ownBlock≠Option.some g6:=λe=>by have:=(hO.blk e).2;have:=hb2.size;omega
   have hO:=hO.bl hb24
   have hz4:w.heap.size+1<=w4.heap.size:=Nat.le_trans hzw hb24.size
   have hbw4:=hbw.next hb24
   clear hb2 hb4 hb24 hg6
   go_wp2_with fail
   go_loopw [3,22] (λs v wr=>∃(i:Nat) (out:Value),i<=3/\v=.int .i64 (i:Int)/\out=s/\zU (w.heap.size+1) wr out (zy (yU ts k) t (k:Int) i)/\out≠.slice none 0 0/\Blk wr g6 3 #[.int .i64 t.a,.int .i64 t.b,.int .i64 t.c]/\out.ownBlock≠Option.some g6/\Bl w wr/\w.heap.size+1<=wr.heap.size) (λ_ v _=>3-(intOf v).toNat)
   case atStart=>exact⟨0,out,by omega,rfl,rfl,hO,hnil,h6,ho6,hbw4,hz4⟩
   case round=>
    clear hO hnil h6 ho6 hbw4 hz4
    obtain⟨i,out,hi,rfl,rfl,hO,hnil,h6,ho6,hbi,hzi⟩:=hrel
    rcases(show i=0\/i=1\/i=2\/i=3 by omega)with rfl|rfl|rfl|rfl
    ·skip
     obtain⟨y0,y1,y2⟩:=bx3 h6
     have e0:((0:Nat):Int)=0:=rfl
     rw[e0]
     clear e0 hi
     obtain⟨wj,rfl⟩:∃wj:World,wj=wr:=⟨_,rfl⟩
     obtain⟨L,hL⟩:∃L,zy (yU ts k) t (k:Int) 0=L:=⟨_,rfl⟩
     rw[hL]at hO
     have hsrt:Zr L:=by rw[<-hL];exact ju (jQ ts k) 0
     have hlen:L.length<=3*k+3:=by rw[<-hL];have a1:=jh ts k;have a2:=jv (l:=yU ts k) (t:=t) (k:=(k:Int)) 0;omega
     have hnext:zy (yU ts k) t (k:Int) 1=yX L t.a t.b (k:Int):=by rw[<-hL];rfl
     replace hnext:=Lib.hid hnext
     replace hsrt:=Lib.hid hsrt
     clear hL
     have hw1:IntKind.i64.wrap (0+1)=1:=by rfl
     have hw3:Int.tmod 1 3=1:=by rfl
     have h6l:=h6.lt
     go_wp2_with fail
     refine(Z7 _ hO hnil hzi (by omega) hsrt.out t.a t.b (k:Int) hd0).mono ?_
     rintro e w7 ⟨v9,rfl,hO9,hI1,hI2,hI3,hnil9⟩
     have h69:Blk w7 g6 3 #[.int .i64 t.a,.int .i64 t.b,.int .i64 t.c]:=(hI3 g6 h6l ho6).1.trans h6
     have ho69:=(hI3 g6 h6l ho6).2
     have hbx:Bl w w7:=Below.trans hbi (Below.mono hI1 (by omega))
     rw[<-hnext.out]at hO9
     clear y0 y1 y2
     go_wp2_with fail
     go_roundw
     case rel=>exact⟨1,v9,by omega,rfl,rfl,hO9,hnil9,h69,ho69,hbx,Nat.le_trans hzi hI2⟩
     case measure=>simp[intOf]
    ·skip
     obtain⟨y0,y1,y2⟩:=bx3 h6
     have e0:((1:Nat):Int)=1:=rfl
     rw[e0]
     clear e0 hi
     obtain⟨wj,rfl⟩:∃wj:World,wj=wr:=⟨_,rfl⟩
     obtain⟨L,hL⟩:∃L,zy (yU ts k) t (k:Int) 1=L:=⟨_,rfl⟩
     rw[hL]at hO
     have hsrt:Zr L:=by rw[<-hL];exact ju (jQ ts k) 1
     have hlen:L.length<=3*k+3:=by rw[<-hL];have a1:=jh ts k;have a2:=jv (l:=yU ts k) (t:=t) (k:=(k:Int)) 1;omega
     have hnext:zy (yU ts k) t (k:Int) 2=yX L t.b t.c (k:Int):=by rw[<-hL];rfl
     replace hnext:=Lib.hid hnext
     replace hsrt:=Lib.hid hsrt
     clear hL
     have hw1:IntKind.i64.wrap (1+1)=2:=by rfl
     have hw3:Int.tmod 2 3=2:=by rfl
     have h6l:=h6.lt
     go_wp2_with fail
     refine(Z7 _ hO hnil hzi (by omega) hsrt.out t.b t.c (k:Int) hd1).mono ?_
     rintro e w7 ⟨v9,rfl,hO9,hI1,hI2,hI3,hnil9⟩
     have h69:Blk w7 g6 3 #[.int .i64 t.a,.int .i64 t.b,.int .i64 t.c]:=(hI3 g6 h6l ho6).1.trans h6
     have ho69:=(hI3 g6 h6l ho6).2
     have hbx:Bl w w7:=Below.trans hbi (Below.mono hI1 (by omega))
     rw[<-hnext.out]at hO9
     clear y0 y1 y2
     go_wp2_with fail
     go_roundw
     case rel=>exact⟨2,v9,by omega,rfl,rfl,hO9,hnil9,h69,ho69,hbx,Nat.le_trans hzi hI2⟩
     case measure=>simp[intOf]
    ·skip
     obtain⟨y0,y1,y2⟩:=bx3 h6
     have e0:((2:Nat):Int)=2:=rfl
     rw[e0]
     clear e0 hi
     obtain⟨wj,rfl⟩:∃wj:World,wj=wr:=⟨_,rfl⟩
     obtain⟨L,hL⟩:∃L,zy (yU ts k) t (k:Int) 2=L:=⟨_,rfl⟩
     rw[hL]at hO
     have hsrt:Zr L:=by rw[<-hL];exact ju (jQ ts k) 2
     have hlen:L.length<=3*k+3:=by rw[<-hL];have a1:=jh ts k;have a2:=jv (l:=yU ts k) (t:=t) (k:=(k:Int)) 2;omega
     have hnext:zy (yU ts k) t (k:Int) 3=yX L t.c t.a (k:Int):=by rw[<-hL];rfl
     replace hnext:=Lib.hid hnext
     replace hsrt:=Lib.hid hsrt
     clear hL
     have hw1:IntKind.i64.wrap (2+1)=3:=by rfl
     have hw3:Int.tmod 3 3=0:=by rfl
     have h6l:=h6.lt
     go_wp2_with fail
     refine(Z7 _ hO hnil hzi (by omega) hsrt.out t.c t.a (k:Int) hd2).mono ?_
     rintro e w7 ⟨v9,rfl,hO9,hI1,hI2,hI3,hnil9⟩
     have h69:Blk w7 g6 3 #[.int .i64 t.a,.int .i64 t.b,.int .i64 t.c]:=(hI3 g6 h6l ho6).1.trans h6
     have ho69:=(hI3 g6 h6l ho6).2
     have hbx:Bl w w7:=Below.trans hbi (Below.mono hI1 (by omega))
     rw[<-hnext.out]at hO9
     clear y0 y1 y2
     go_wp2_with fail
     go_roundw
     case rel=>exact⟨3,v9,by omega,rfl,rfl,hO9,hnil9,h69,ho69,hbx,Nat.le_trans hzi hI2⟩
     case measure=>simp[intOf]
    ·have e0:((3:Nat):Int)=3:=rfl
     rw[e0]
     clear e0 hi
     rw[hlast.out]at hO
     go_wp2_with fail
     go_roundw
     case rel=>exact⟨k+1,out,by omega,by go_num,rfl,hO,hnil,hbi,hzi⟩
     case measure=>simp[intOf];omega
  ·obtain rfl:k=m:=by omega
   have hkm2:¬(k:Int)<(k:Int):=by omega
   obtain⟨go_,co,rfl,hgo,hlc,hc63,hcells,hgl,hfz⟩:=hO.lit hnil
   have hR:=hO.rd
   go_wp2_with fail
   go_ret
   exact⟨go_,_,_,rfl,by unfold edL;rw[hlt.out];exact hR,Nat.le_of_succ_le hgo,hbw⟩
end Go.Proofs.YtjaapemopbbfaaaGreatDoor
