import Derived.Test.YtjaapemopbbfaaaGreatDoorPMeshesM28
import Derived.Lib.IndexMore
namespace Go.Proofs.YtjaapemopbbfaaaGreatDoor
open Go.RowKit
set_option maxRecDepth 100000
set_option maxHeartbeats 12800000
theorem qa3 (s:ByteArray):bl (s.extract 1 s.size)=(bl s).drop 1:=by
 unfold bl
 rw[Lib.extract_data,List.take_of_length_le (by rw[List.length_drop];have:=zZ s;unfold bl at this;omega)]
theorem qb8 {s:ByteArray}(h:0<s.size) (h45:bt s 0=45):mag (bl s)=bl (s.extract 1 s.size)/\(bl s).head?=some 45:=by
 have hh:=Kt h
 rw[h45]at hh
 refine⟨?_,hh⟩
 unfold mag
 rw[if_pos hh,qa3]
theorem K3 {s:ByteArray}(h:s.size=0\/bt s 0≠45):mag (bl s)=bl s/\(bl s).head?≠some 45:=by
 have hh:(bl s).head?≠some 45:=by
  rcases Nat.eq_zero_or_pos s.size with h0|h0
  ·have:bl s=[]:=List.length_eq_zero_iff.1 (by rw[zZ];exact h0)
   rw[this]
   decide
  ·rw[Kt h0]
   intro e
   injection e with e
   rcases h with h|h
   ·omega
   ·exact h e
 exact⟨by unfold mag;rw[if_neg hh],hh⟩
def qdo (w:World) (s:ByteArray) (e:Ending) (w':World):Prop :=
 ((yQ (bl s)=true/\∃A n c,e=.returned (.tuple #[.agg #[.bool (decide (vI (bl s)<0)),.slice A n c],.bool true])/\OwI 3 w.heap.size w' A n c (qu (dig (vI (bl s)).natAbs)))\/(yQ (bl s)=false/\e=.returned (.tuple #[.agg #[.bool false,.slice none 0 0],.bool false])))/\Bl w w'
theorem Wk.blk {k:Nat}{T:TypeId}{g:Nat}{W:World}(h:Wk k T g W):Blk W g T h.choose:=h.choose_spec.1
theorem KI {l d:List UInt8}(h:mag l=d) (hh:l.head?=some 45):yQ l=(Q4 d&&decide (vD d≠0))/\(vI l).natAbs=vD d/\(vD d≠0->vI l<0):=by
 refine⟨by unfold yQ;rw[h,hh];simp,by rw[vM,h],λh0=>?_⟩
 unfold vI
 rw[if_pos hh,h]
 omega
theorem xY {l d:List UInt8}(h:mag l=d) (hh:l.head?≠some 45):yQ l=Q4 d/\(vI l).natAbs=vD d/\¬vI l<0:=by
 refine⟨by unfold yQ;rw[h];simp[hh],by rw[vM,h],?_⟩
 unfold vI
 rw[if_neg hh]
 omega
theorem XW {s:Bool}{N:Nat}(h60:(dig N).length<=60) (h:s=true->N≠0):okB s (qu (dig N))=true :=
 yo ⟨⟨N,rfl,h60⟩,λe=>by rw[qg];exact ql.2 (by have:=h e;omega)⟩
theorem qai:okB true (qu (dig 0))=false:=YM λh=>by have:=h.2 rfl;rw[qX]at this;simp[qu]at this
theorem yd {l:List UInt8}(h:Q4 l=true):(dig (vD l)).length<=60:=by
 obtain⟨h1,h2⟩:=ZA.1 h
 have h3:vD l<10 ^ l.length:=qdr l (by rw[<-h1];exact qba _)
 have hk:∀k,k=60->(dig (vD l)).length<=k:=λk hk=>qr.2 (by rw[qbf];exact Nat.lt_of_lt_of_le h3 (Nat.pow_le_pow_right (by decide) (by rw[hk];exact h2)))
 exact hk 60 rfl
theorem QH (w:World) (s:ByteArray) (hs:s.size<=1048576) (hE:Env w) :
  Calls Tryz.prog 82 #[.string s] w (qdo w s):=by
 have hE:=Lib.hid hE;rename_i hE_;clear hE_
 have hbl:=yl s
 have hlen:=zZ s
 rcases Nat.eq_zero_or_pos s.size with h0|h0
 ·have he:s.toList.isEmpty=true:=by
   have hnil:bl s=[]:=List.length_eq_zero_iff.1 (by rw[hlen];exact h0)
   rw[hbl,hnil]
   rfl
  obtain⟨hm,hh⟩:=K3 (s:=s) (.inl h0)
  have hgi:=Lib.hid (xY hm hh)
  have h0i:¬(0:Int)<(s.size:Int):=by omega
  clear hbl hlen hm hh
  go_enter Tryz.func82,Tryz.ntmps82
  go_upto_region 1 with (fail)
  refine qe (λW=>Bl w W/\∃r,Wk 2 24 r W/\r=w.heap.size) ⟨slc,_,by exact bts,rfl⟩ ?_
  rintro W0 ⟨hbW,r,hr,hre⟩
  rw[<-hre]
  have hrw:w.heap.size<=r:=by omega
  clear hre
  go_wp2_with (go_at_call 83;refine(zO _ s (by omega) (hE.out.bl hbW)).mono ?_)
  rintro e w1 ⟨(⟨hg,A,n,c,rfl,hO⟩ |⟨hg,rfl⟩),hb1⟩
  ·have hl60:=yd hg
   have hI:Hid (yQ (bl s)=true):=Lib.hid (by rw[hgi.out.1];exact hg)
   have hneg:Hid (decide (vI (bl s)<0)=false):=Lib.hid (decide_eq_false (by have:=hgi.out.2.2;omega))
   have hab:=Lib.hid hgi.out.2.1
   clear hg
   have hok:=XW (s:=false) hl60 (λe=>by cases e)
   go_upto_region 7 with (fail)
   refine qe (λW=>Bl w1 W/\∃g,Blk W g 24 #[.bool false,.slice A n c]/\g=w1.heap.size) ⟨slc,_,by exact bts,rfl⟩ ?_
   rintro W1 ⟨hb2,g,hgx,hge⟩
   rw[<-hge]
   have hg1:w1.heap.size<=g:=by omega
   clear hge
   obtain⟨y0,y1⟩:=bx2 hgx
   go_wp2_with (go_at_call 102;refine(qF _ ((hO.rd.bl hb2))).mono ?_;rw[hok];rintro e w2 ⟨rfl,hb3⟩;have hgx2:=hgx.bl hb3;obtain⟨z0,z1⟩:=bx2 hgx2;have hbw2:=(hbW.next hb1).next (hb2.next hb3);have hr2:=hr.bl (hb1.next (hb2.next hb3));obtain⟨v0,x0⟩:=hr2.val_ (i:=0) (by omega);obtain⟨v1,x1⟩:=hr2.val_ (i:=1) (by omega);have hgr:=hr2.lt;have hB:=hr2.blk;have hf0:=hB.frozen 0;have hf1:=hB.frozen 1;have hO2:=hO.bl (hb2.next hb3);have hrg:r≠g:=by { have h1:=hr.lt;have h2:=hb1.size;omega })
   refine bodyPost_ret (v:=.tuple #[.agg #[.bool false,.slice A n c],.bool true]) (by simp[results,Tryz.results82,go_sem,x0,x1]) rfl (⟨.inl ⟨hI.out,_,_,_,by rw[hneg.out],by rw[hab.out];exact((((hO2).far (p:=⟨r,0,none⟩) (show r<W0.heap.size from hr.lt) _).far (p:=⟨r,1,none⟩) (show r<W0.heap.size from hr.lt) _).mono hbW.size)⟩,slc⟩)
  ·have hI:Hid (yQ (bl s)=false):=Lib.hid (by rw[hgi.out.1];exact hg)
   clear hg
   go_upto_region 7 with (fail)
   refine qe (λW=>Bl w1 W) slc ?_
   rintro W1 hb2
   have hrl:=hr.bl (hb1.next hb2)
   obtain⟨v0,x0⟩:=hrl.val_ (i:=0) (by omega)
   obtain⟨v1,x1⟩:=hrl.val_ (i:=1) (by omega)
   have hgr:=hrl.lt
   obtain⟨cs,hB,hcs⟩:=hrl
   have hf0:=hB.frozen 0
   have hf1:=hB.frozen 1
   go_wp2_with fail
   refine bodyPost_ret (v:=.tuple #[.agg #[.bool false,.slice none 0 0],.bool false]) (by simp[results,Tryz.results82,go_sem,x0,x1]) rfl (⟨.inr ⟨hI.out,rfl⟩,slc⟩)
 ·have he:s.toList.isEmpty=false:=by
   rw[hbl]
   cases hb:bl s with
   | nil=>rw[hb]at hlen;simp at hlen;omega
   | cons a t=>rfl
  have h0i:(0:Int)<(s.size:Int):=by omega
  have hx0:∀W,(Instr.index 9 (.string s) (.int .i64 0)).run Tryz.prog W=.ok (.int .u8 ((bt s 0).toNat:Int)) W:=λW=>kz (P:=Tryz.prog) (t:=9) W s 0 h0 Tryz.underlying9
  by_cases hz:bt s 0=45
  ·obtain⟨hm,hh⟩:=qb8 h0 hz
   have hgi:=Lib.hid (KI hm hh)
   have hz2:((bt s 0).toNat:Int)=45:=by rw[hz];rfl
   have h1i:(1:Int)<=(s.size:Int):=by omega
   clear hbl hlen hm hh hz
   go_enter Tryz.func82,Tryz.ntmps82
   go_upto_region 1 with (fail)
   refine qe (λW=>Bl w W/\∃r,Wk 2 24 r W/\r=w.heap.size) ⟨slc,_,by exact bts,rfl⟩ ?_
   rintro W0 ⟨hbW,r,hr,hre⟩
   rw[<-hre]
   have hrw:w.heap.size<=r:=by omega
   clear hre
   go_wp2_with (go_at_call 83;refine(zO _ (s.extract 1 s.size) (by rw[ByteArray.size_extract];omega) (hE.out.bl hbW)).mono ?_)
   rintro e w1 ⟨(⟨hg,A,n,c,rfl,hO⟩ |⟨hg,rfl⟩),hb1⟩
   ·have hl60:=yd hg
    by_cases hN:vD (bl (s.extract 1 s.size))=0
    ·have hI:Hid (yQ (bl s)=false):=Lib.hid (by rw[hgi.out.1,hN];simp)
     clear hg
     have hok:okB true (qu (dig (vD (bl (s.extract 1 s.size)))))=false:=by rw[hN];exact qai
     go_upto_region 7 with (fail)
     refine qe (λW=>Bl w1 W/\∃g,Blk W g 24 #[.bool true,.slice A n c]/\g=w1.heap.size) ⟨slc,_,by exact bts,rfl⟩ ?_
     rintro W1 ⟨hb2,g,hgx,hge⟩
     rw[<-hge]
     have hg1:w1.heap.size<=g:=by omega
     clear hge
     obtain⟨y0,y1⟩:=bx2 hgx
     go_wp2_with (go_at_call 102;refine(qF _ ((hO.rd.bl hb2))).mono ?_;rw[hok];rintro e w2 ⟨rfl,hb3⟩;have hgx2:=hgx.bl hb3;obtain⟨z0,z1⟩:=bx2 hgx2;have hbw2:=(hbW.next hb1).next (hb2.next hb3);have hr2:=hr.bl (hb1.next (hb2.next hb3));obtain⟨v0,x0⟩:=hr2.val_ (i:=0) (by omega);obtain⟨v1,x1⟩:=hr2.val_ (i:=1) (by omega);have hgr:=hr2.lt;have hB:=hr2.blk;have hf0:=hB.frozen 0;have hf1:=hB.frozen 1;have hO2:=hO.bl (hb2.next hb3);have hrg:r≠g:=by { have h1:=hr.lt;have h2:=hb1.size;omega })
     refine bodyPost_ret (v:=.tuple #[.agg #[.bool false,.slice none 0 0],.bool false]) (by simp[results,Tryz.results82,go_sem,x0,x1]) rfl (⟨.inr ⟨hI.out,rfl⟩,slc⟩)
    ·have hI:Hid (yQ (bl s)=true):=Lib.hid (by rw[hgi.out.1,hg];simp[hN])
     have hneg:Hid (decide (vI (bl s)<0)=true):=Lib.hid (decide_eq_true (hgi.out.2.2 hN))
     have hab:=Lib.hid hgi.out.2.1
     clear hg
     have hok:=XW (s:=true) hl60 (λ_=>hN)
     go_upto_region 7 with (fail)
     refine qe (λW=>Bl w1 W/\∃g,Blk W g 24 #[.bool true,.slice A n c]/\g=w1.heap.size) ⟨slc,_,by exact bts,rfl⟩ ?_
     rintro W1 ⟨hb2,g,hgx,hge⟩
     rw[<-hge]
     have hg1:w1.heap.size<=g:=by omega
     clear hge
     obtain⟨y0,y1⟩:=bx2 hgx
     go_wp2_with (go_at_call 102;refine(qF _ ((hO.rd.bl hb2))).mono ?_;rw[hok];rintro e w2 ⟨rfl,hb3⟩;have hgx2:=hgx.bl hb3;obtain⟨z0,z1⟩:=bx2 hgx2;have hbw2:=(hbW.next hb1).next (hb2.next hb3);have hr2:=hr.bl (hb1.next (hb2.next hb3));obtain⟨v0,x0⟩:=hr2.val_ (i:=0) (by omega);obtain⟨v1,x1⟩:=hr2.val_ (i:=1) (by omega);have hgr:=hr2.lt;have hB:=hr2.blk;have hf0:=hB.frozen 0;have hf1:=hB.frozen 1;have hO2:=hO.bl (hb2.next hb3);have hrg:r≠g:=by { have h1:=hr.lt;have h2:=hb1.size;omega })
     refine bodyPost_ret (v:=.tuple #[.agg #[.bool true,.slice A n c],.bool true]) (by simp[results,Tryz.results82,go_sem,x0,x1]) rfl (⟨.inl ⟨hI.out,_,_,_,by rw[hneg.out],by rw[hab.out];exact((((hO2).far (p:=⟨r,0,none⟩) (show r<W0.heap.size from hr.lt) _).far (p:=⟨r,1,none⟩) (show r<W0.heap.size from hr.lt) _).mono hbW.size)⟩,slc⟩)
   ·have hI:Hid (yQ (bl s)=false):=Lib.hid (by rw[hgi.out.1,hg];rfl)
    clear hg
    go_upto_region 7 with (fail)
    refine qe (λW=>Bl w1 W) slc ?_
    rintro W1 hb2
    have hrl:=hr.bl (hb1.next hb2)
    obtain⟨v0,x0⟩:=hrl.val_ (i:=0) (by omega)
    obtain⟨v1,x1⟩:=hrl.val_ (i:=1) (by omega)
    have hgr:=hrl.lt
    obtain⟨cs,hB,hcs⟩:=hrl
    have hf0:=hB.frozen 0
    have hf1:=hB.frozen 1
    go_wp2_with fail
    refine bodyPost_ret (v:=.tuple #[.agg #[.bool false,.slice none 0 0],.bool false]) (by simp[results,Tryz.results82,go_sem,x0,x1]) rfl (⟨.inr ⟨hI.out,rfl⟩,slc⟩)
  ·obtain⟨hm,hh⟩:=K3 (s:=s) (.inr hz)
   have hgi:=Lib.hid (xY hm hh)
   have hz2:((((bt s 0).toNat:Int)) == 45)=false:=by
    simp only[beq_eq_false_iff_ne,ne_eq]
    intro e
    exact hz (UInt8.toNat_inj.1 (by show (bt s 0).toNat=45;omega))
   clear hbl hlen hm hh hz
   go_enter Tryz.func82,Tryz.ntmps82
   go_upto_region 1 with (fail)
   refine qe (λW=>Bl w W/\∃r,Wk 2 24 r W/\r=w.heap.size) ⟨slc,_,by exact bts,rfl⟩ ?_
   rintro W0 ⟨hbW,r,hr,hre⟩
   rw[<-hre]
   have hrw:w.heap.size<=r:=by omega
   clear hre
   go_wp2_with (go_at_call 83;refine(zO _ s (by omega) (hE.out.bl hbW)).mono ?_)
   rintro e w1 ⟨(⟨hg,A,n,c,rfl,hO⟩ |⟨hg,rfl⟩),hb1⟩
   ·have hl60:=yd hg
    have hI:Hid (yQ (bl s)=true):=Lib.hid (by rw[hgi.out.1];exact hg)
    have hneg:Hid (decide (vI (bl s)<0)=false):=Lib.hid (decide_eq_false (by have:=hgi.out.2.2;omega))
    have hab:=Lib.hid hgi.out.2.1
    clear hg
    have hok:=XW (s:=false) hl60 (λe=>by cases e)
    go_upto_region 7 with (fail)
    refine qe (λW=>Bl w1 W/\∃g,Blk W g 24 #[.bool false,.slice A n c]/\g=w1.heap.size) ⟨slc,_,by exact bts,rfl⟩ ?_
    rintro W1 ⟨hb2,g,hgx,hge⟩
    rw[<-hge]
    have hg1:w1.heap.size<=g:=by omega
    clear hge
    obtain⟨y0,y1⟩:=bx2 hgx
    go_wp2_with (go_at_call 102;refine(qF _ ((hO.rd.bl hb2))).mono ?_;rw[hok];rintro e w2 ⟨rfl,hb3⟩;have hgx2:=hgx.bl hb3;obtain⟨z0,z1⟩:=bx2 hgx2;have hbw2:=(hbW.next hb1).next (hb2.next hb3);have hr2:=hr.bl (hb1.next (hb2.next hb3));obtain⟨v0,x0⟩:=hr2.val_ (i:=0) (by omega);obtain⟨v1,x1⟩:=hr2.val_ (i:=1) (by omega);have hgr:=hr2.lt;have hB:=hr2.blk;have hf0:=hB.frozen 0;have hf1:=hB.frozen 1;have hO2:=hO.bl (hb2.next hb3);have hrg:r≠g:=by { have h1:=hr.lt;have h2:=hb1.size;omega })
    refine bodyPost_ret (v:=.tuple #[.agg #[.bool false,.slice A n c],.bool true]) (by simp[results,Tryz.results82,go_sem,x0,x1]) rfl (⟨.inl ⟨hI.out,_,_,_,by rw[hneg.out],by rw[hab.out];exact((((hO2).far (p:=⟨r,0,none⟩) (show r<W0.heap.size from hr.lt) _).far (p:=⟨r,1,none⟩) (show r<W0.heap.size from hr.lt) _).mono hbW.size)⟩,slc⟩)
   ·have hI:Hid (yQ (bl s)=false):=Lib.hid (by rw[hgi.out.1];exact hg)
    clear hg
    go_upto_region 7 with (fail)
    refine qe (λW=>Bl w1 W) slc ?_
    rintro W1 hb2
    have hrl:=hr.bl (hb1.next hb2)
    obtain⟨v0,x0⟩:=hrl.val_ (i:=0) (by omega)
    obtain⟨v1,x1⟩:=hrl.val_ (i:=1) (by omega)
    have hgr:=hrl.lt
    obtain⟨cs,hB,hcs⟩:=hrl
    have hf0:=hB.frozen 0
    have hf1:=hB.frozen 1
    go_wp2_with fail
    refine bodyPost_ret (v:=.tuple #[.agg #[.bool false,.slice none 0 0],.bool false]) (by simp[results,Tryz.results82,go_sem,x0,x1]) rfl (⟨.inr ⟨hI.out,rfl⟩,slc⟩)
theorem yS {c:UInt8}:∀(l:List UInt8),(c∈l->Lib.index l [c]=((zH c l).length:Int))/\(c∉l->Lib.index l [c]=-1)
 | []=>⟨λh=>(by cases h),λ_=>rfl⟩
 | b::t=>by
  have ih:=yS (c:=c) t
  by_cases hb:b=c
  ·subst hb
   refine⟨λ_=>?_,λh=>absurd (List.mem_cons_self) h⟩
   have:zH b (b::t)=[]:=by simp[zH]
   rw[this]
   unfold Lib.index
   simp
  ·have hp:([c]:List UInt8).isPrefixOf (b :: t)=false:=by
    have:(c == b)=false:=by rw[beq_eq_false_iff_ne];exact λe=>hb e.symm
    simp[List.isPrefixOf,this]
   have hA:zH c (b::t)=b::zH c t:=by unfold zH;rw[List.takeWhile_cons,if_pos (by rw[bne_iff_ne];exact hb)]
   have hm:c∈b::t↔c∈t:=by simp only[List.mem_cons];exact⟨λh=>h.resolve_left (λe=>hb e.symm),.inr⟩
   unfold Lib.index
   rw[hp,hA,hm]
   refine⟨λh=>?_,λh=>?_⟩
   ·rw[ih.1 h]
    have:(((zH c t).length:Int) == -1)=false:=by rw[beq_eq_false_iff_ne];omega
    simp[this]
   ·rw[ih.2 h]
    simp
theorem KH (c:UInt8) (l:List UInt8):Lib.cut l [c]=if c∈l then (zH c l,yT c l,true)else (l,[],false):=by
 unfold Lib.cut
 by_cases h:c∈l
 ·have hj:=JW h
  rw[(yS l).1 h,if_pos h,if_pos (by omega)]
  simp only[Int.toNat_natCast,List.length_singleton]
  have e1:l.take (zH c l).length=zH c l:=by
   have:=congrArg (List.take (zH c l).length) hj
   rw[List.take_left]at this
   exact this
  have e2:l.drop ((zH c l).length+1)=yT c l:=by
   have:=congrArg (List.drop ((zH c l).length+1)) hj
   rw[this,<-List.drop_drop,List.drop_left]
   rfl
  rw[e1,e2]
 ·rw[(yS l).2 h,if_neg h,if_neg (by omega)]
def OkT (l:List UInt8):Prop:=∃x D,okR (raw x D)=true/\ftx x D=l
def qv (l:List UInt8):qH:=raw (vI (zH 47 l)) (vD (X8 l))
def qeI (l:List UInt8):List UInt8:=if 47∈l then zH 47 (yT 47 l)else [49]
theorem kf {N:Nat}(h:(dig N).length<=24):(dD N).length<=540:=QE (by omega)
theorem qc4 {N:Nat}(h:(dig N).length<=24):NTx (dD N) N:=⟨rfl,kf h⟩
theorem OkT.parts {l:List UInt8}(h:OkT l):yQ (zH 47 l)=true/\Q4 (X8 l)=true/\qeI l=X8 l/\okR (qv l)=true/\rtx (vI (zH 47 l)) (vD (X8 l))=l:=by
 obtain⟨x,D,ho,rfl⟩:=h
 obtain⟨h1,h2⟩:=xP x D
 obtain⟨_,_,_,h5,h6⟩:=(jU.1 ho).get
 rw[uF]at h5
 rw[Ub]at h6
 have e1:vI (zH 47 (ftx x D))=x:=by rw[h1,km]
 have e2:vD (X8 (ftx x D))=D:=by rw[h2,qaL]
 refine⟨by rw[h1];exact K1 (kf h5),by rw[h2];exact(qc4 h6).good,?_,by unfold qv;rw[e1,e2];exact ho,?_⟩
 ·unfold qeI X8
  by_cases hm:47∈ftx x D
  ·rw[if_pos hm,if_pos hm,(JT (kH rfl hm)).1]
  ·rw[if_neg hm,if_neg hm]
 ·rw[e1,e2]
  unfold rtx
  rw[if_pos ho]
theorem OkT.of {l:List UInt8}{x:Int}{D:Nat}(hg:yQ (zH 47 l)=true) (h:rtx x D=l):OkT l:=by
 have hl:l≠[]:=by
  intro e
  rw[e]at hg
  exact absurd hg (by decide)
 unfold rtx at h
 by_cases ho:okR (raw x D)=true
 ·rw[if_pos ho]at h
  exact⟨x,D,ho,h⟩
 ·rw[if_neg ho]at h
  exact absurd h.symm hl
theorem kg {c:UInt8}{l:List UInt8}(h:c∉l):zH c l=l:=(JT h).1
theorem qbJ (c:UInt8) (l:List UInt8):(zH c l).length<=l.length:=(List.takeWhile_sublist _).length_le
theorem Ku (c:UInt8) (l:List UInt8):(yT c l).length<=l.length:=by unfold yT;rw[List.length_drop];have:=(List.dropWhile_sublist (l:=l) (λb=>b != c)).length_le;omega
theorem kj (s:ByteArray) (c:UInt8):(sb (zH c (bl s))).size<=s.size:=by rw[zt,<-zZ];exact qbJ _ _
theorem jD (l:List UInt8):(sb l).toList=l:=by rw[yl,X7]
def qde (w:World) (s:ByteArray) (e:Ending) (w':World):Prop :=
 ((OkT (bl s)/\∃t A n c B m d,e=.returned (.tuple #[.agg #[.bool t,.slice A n c,.slice B m d],.bool true])/\OwR 3 w.heap.size w' t A n c B m d (qv (bl s)))\/(¬OkT (bl s)/\e=.returned (.tuple #[.agg #[.bool false,.slice none 0 0,.slice none 0 0],.bool false])))/\Bl w w'
theorem xm {l:List UInt8}(h:yQ l=true):(dig (vI l).natAbs).length<=60:=by
 rw[vM]
 unfold yQ at h
 simp only[Bool.and_eq_true]at h
 exact yd h.1
theorem jd (w:World) (s:ByteArray) (hs:s.size<=1048576) (hE:Env w) :
  Calls Tryz.prog 38 #[.string s] w (qde w s):=by
 obtain⟨mx,hmx⟩:=hE.2
 have hmx:=Lib.hid hmx;rename_i hmx_;clear hmx_
 have hE:=Lib.hid hE;rename_i hE_;clear hE_
 have hcut0:=KH 47 (bl s)
 have hnum:=Nat.le_trans (kj s 47) hs
 have hsz:=zZ s
 by_cases h47:47∈bl s
 ·rw[if_pos h47]at hcut0
  have hcut:Lib.cut s.data.toList (sb [47]).data.toList=(zH 47 (bl s),yT 47 (bl s),true):=hcut0
  have hden:(sb (yT 47 (bl s))).size<=1048576:=by rw[zt];have:=Ku 47 (bl s);omega
  have hdenT:Hid (X8 (bl s)=yT 47 (bl s)):=Lib.hid (by unfold X8;rw[if_pos h47])
  clear hcut0 h47 hsz
  go_enter Tryz.func38,Tryz.ntmps38
  go_upto_region 1 with (fail)
  refine qe (λW=>Bl w W/\∃r,Wk 3 26 r W/\r=w.heap.size) ⟨slc,_,by exact bts,rfl⟩ ?_
  rintro W0 ⟨hbW,r,hr,hre⟩
  rw[<-hre]
  have hrw:w.heap.size<=r:=by omega
  clear hre
  go_wp2_with (first
   | (go_at_call 37;refine(Tryz.strings_Cut s (sb [47]) mx _ (by omega) ((Bl.qeV hbW (YA hmx.out)).trans hmx.out)).mono ?_;rw[hcut];rintro e w1 ⟨rfl,q1,rfl⟩)
   | (go_at_call 82;refine(QH _ (sb (zH 47 (bl s))) hnum (hE.out.bl (by exact slc))).mono ?_))
  rintro e w2 ⟨(⟨hgI,A,n,c,rfl,hO⟩ |⟨hgI,rfl⟩),hb2⟩
  ·have hbr0:W0.heap.size<=W0.heap.size:=Nat.le_refl _
   go_upto_region 5 with (fail)
   refine qe (λW=>Bl w2 W/\∃g,Blk W g 24 #[.bool (decide (vI (bl (sb (zH 47 (bl s))))<0)),.slice A n c]/\g=w2.heap.size) ⟨slc,_,by exact bts,rfl⟩ ?_
   rintro W2 ⟨hb3,g,hgx,hge⟩
   rw[<-hge]
   have hgw:w2.heap.size<=g:=by omega
   clear hge
   have hbw2:Bl w W2:=(hbW.next (show Bl W0 w2 from slc)).next hb3
   have hbr2:Bl W0 W2:=(show Bl W0 w2 from slc).next hb3
   go_wp2_with (go_at_call 83;refine(zO _ (sb (yT 47 (bl s))) hden (hE.out.bl hbw2)).mono ?_)
   rintro e w4 ⟨(⟨hgN,B,m,d,rfl,hP⟩ |⟨hgN,rfl⟩),hb4⟩
   ·have hl1:=xm hgI
    have hl2:=yd hgN
    have hneg:decide (vI (bl (sb (zH 47 (bl s))))<0)=decide (vI (zH 47 (bl s))<0):=rfl
    obtain⟨x,hx⟩:∃x,vI (bl (sb (zH 47 (bl s))))=x:=⟨_,rfl⟩
    obtain⟨D,hD⟩:∃D,vD (bl (sb (yT 47 (bl s))))=D:=⟨_,rfl⟩
    rw[hx]at hO hl1 hgx ⊢
    rw[hD]at hP hl2
    have hxv:vI (zH 47 (bl s))=x:=hx
    have hDv:vD (X8 (bl s))=D:=by rw[<-hD];exact congrArg vD hdenT.out
    have hqv:Hid (qv (bl s)=raw x D):=Lib.hid (by unfold qv;rw[hxv,hDv])
    have hOk:Hid (rtx x D=bl s↔OkT (bl s)):=Lib.hid ⟨λh=>OkT.of hgI h,λh=>by have:=h.parts.2.2.2.2;rw[hxv,hDv]at this;exact this⟩
    have hcmp:((sb (rtx x D)).toList == s.toList)=decide (rtx x D=bl s):=by
     rw[jD,yl,Bool.eq_iff_iff,beq_iff_eq,decide_eq_true_eq]
    clear hgI hgN hx hD hxv hDv hneg
    obtain⟨y0,y1⟩:=bx2 (hgx.bl hb4)
    go_upto_region 7 with (fail)
    refine qe (λW=>Bl w4 W/\∃g',Blk W g' 26 #[.bool (decide (x<0)),.slice A n c,.slice B m d]/\g'=w4.heap.size) ⟨slc,_,by exact bts,rfl⟩ ?_
    rintro W4 ⟨hb5,g',hgy,hge⟩
    rw[<-hge]
    have hgw':w4.heap.size<=g':=by omega
    clear hge
    have hO4:=(hO.bl hb3).bl (hb4.next hb5)
    have hP4:=hP.bl hb5
    have hRd:IsR W4 (decide (x<0)) A n c B m d x D:=⟨rfl,hO4.rd,hP4.rd⟩
    have hn60:n<=60:=by have:=hO.rd.lenN;omega
    have hm60:m<=60:=by have:=hP.rd.lenN;omega
    have hbw4:=hbw2.next (hb4.next hb5)
    have hOwR:OwR 3 W0.heap.size W4 (decide (x<0)) A n c B m d (raw x D):=OwR.two ((hO.bl hb3).mono (by have h:=hbr0;exact h)) hP hb4 hbr2.size |>.bl hb5
    obtain⟨z0,z1,z2⟩:=bx3 hgy
    by_cases heq:rtx x D=bl s
    ·rw[decide_eq_true heq]at hcmp
     have hOkT:=Lib.hid (hOk.out.1 heq)
     clear heq hOk
     go_wp2_with (go_at_call 45;refine(zS _ hRd hn60 hm60 (hE.out.bl hbw4)).mono ?_;rintro e w5 ⟨rfl,hb6⟩;have hgy5:=hgy.bl hb6;obtain⟨u0,u1,u2⟩:=bx3 hgy5;have hr2:=hr.bl (hbr2.next ((hb4.next hb5).next hb6));obtain⟨v0,x0⟩:=hr2.val_ (i:=0) (by omega);obtain⟨v1,x1⟩:=hr2.val_ (i:=1) (by omega);obtain⟨v2,x2⟩:=hr2.val_ (i:=2) (by omega);have hgr:=hr2.lt;have hB:=hr2.blk;have hf0:=hB.frozen 0;have hf1:=hB.frozen 1;have hf2:=hB.frozen 2;have hOR:=hOwR.bl hb6;have hbw5:=hbw4.next hb6;have hrg:r≠g':=by { have h1:=hr.lt;have h2:=hbr2.size;have h3:=hb4.size;omega })
     refine bodyPost_ret (v:=.tuple #[.agg #[.bool (decide (x<0)),.slice A n c,.slice B m d],.bool true]) (by simp[results,Tryz.results38,go_sem,x0,x1,x2]) rfl ⟨.inl ⟨hOkT.out,_,_,_,_,_,_,_,rfl,by rw[hqv.out];exact(((hOR.far (p:=⟨r,0,none⟩) (show r<W0.heap.size from hr.lt) _).far (p:=⟨r,1,none⟩) (show r<W0.heap.size from hr.lt) _).far (p:=⟨r,2,none⟩) (show r<W0.heap.size from hr.lt) _).mono hbW.size⟩,slc⟩
    ·rw[decide_eq_false heq]at hcmp
     have hno:=Lib.hid (λh=>heq (hOk.out.2 h))
     clear heq hOk
     go_wp2_with (go_at_call 45;refine(zS _ hRd hn60 hm60 (hE.out.bl hbw4)).mono ?_;rintro e w5 ⟨rfl,hb6⟩;have hr2:=hr.bl (hbr2.next ((hb4.next hb5).next hb6));obtain⟨v0,x0⟩:=hr2.val_ (i:=0) (by omega);obtain⟨v1,x1⟩:=hr2.val_ (i:=1) (by omega);obtain⟨v2,x2⟩:=hr2.val_ (i:=2) (by omega);have hgr:=hr2.lt;have hB:=hr2.blk;have hf0:=hB.frozen 0;have hf1:=hB.frozen 1;have hf2:=hB.frozen 2;have hbw5:=hbw4.next hb6)
     refine bodyPost_ret (v:=.tuple #[.agg #[.bool false,.slice none 0 0,.slice none 0 0],.bool false]) (by simp[results,Tryz.results38,go_sem,x0,x1,x2]) rfl ⟨.inr ⟨hno.out,rfl⟩,slc⟩
   ·have hno:Hid (¬OkT (bl s)):=Lib.hid (λh=>by have h1:=h.parts.2.1;rw[hdenT.out]at h1;rw[show yT 47 (bl s)=bl (sb (yT 47 (bl s)))from rfl,hgN]at h1;cases h1)
    obtain⟨y0,y1⟩:=bx2 (hgx.bl hb4)
    go_upto_region 7 with (fail)
    refine qe (λW=>Bl w4 W) slc ?_
    rintro W4 hb5
    have hbw4:=hbw2.next (hb4.next hb5)
    have hr2:=hr.bl (hbr2.next (hb4.next hb5))
    obtain⟨v0,x0⟩:=hr2.val_ (i:=0) (by omega)
    obtain⟨v1,x1⟩:=hr2.val_ (i:=1) (by omega)
    obtain⟨v2,x2⟩:=hr2.val_ (i:=2) (by omega)
    have hgr:=hr2.lt
    have hB:=hr2.blk
    have hf0:=hB.frozen 0
    have hf1:=hB.frozen 1
    have hf2:=hB.frozen 2
    go_wp2_with fail
    refine bodyPost_ret (v:=.tuple #[.agg #[.bool false,.slice none 0 0,.slice none 0 0],.bool false]) (by simp[results,Tryz.results38,go_sem,x0,x1,x2]) rfl ⟨.inr ⟨hno.out,rfl⟩,slc⟩
  ·go_upto_region 5 with (fail)
   refine qe (λW=>Bl w2 W/\∃g,Blk W g 24 #[.bool false,.slice none 0 0]/\g=w2.heap.size) ⟨slc,_,by exact bts,rfl⟩ ?_
   rintro W2 ⟨hb3,g,hgx,hge⟩
   rw[<-hge]
   have hgw:w2.heap.size<=g:=by omega
   clear hge
   have hbw2:Bl w W2:=(hbW.next (show Bl W0 w2 from slc)).next hb3
   have hbr2:Bl W0 W2:=(show Bl W0 w2 from slc).next hb3
   go_wp2_with (go_at_call 83;refine(zO _ (sb (yT 47 (bl s))) hden (hE.out.bl hbw2)).mono ?_)
   rintro e w4 ⟨(⟨hgN,B,m,d,rfl,hP⟩ |⟨hgN,rfl⟩),hb4⟩
   ·have hno:Hid (¬OkT (bl s)):=Lib.hid (λh=>by have h1:=h.parts.1;rw[show zH 47 (bl s)=bl (sb (zH 47 (bl s)))from rfl,hgI]at h1;cases h1)
    obtain⟨y0,y1⟩:=bx2 (hgx.bl hb4)
    go_upto_region 7 with (fail)
    refine qe (λW=>Bl w4 W) slc ?_
    rintro W4 hb5
    have hbw4:=hbw2.next (hb4.next hb5)
    have hr2:=hr.bl (hbr2.next (hb4.next hb5))
    obtain⟨v0,x0⟩:=hr2.val_ (i:=0) (by omega)
    obtain⟨v1,x1⟩:=hr2.val_ (i:=1) (by omega)
    obtain⟨v2,x2⟩:=hr2.val_ (i:=2) (by omega)
    have hgr:=hr2.lt
    have hB:=hr2.blk
    have hf0:=hB.frozen 0
    have hf1:=hB.frozen 1
    have hf2:=hB.frozen 2
    go_wp2_with fail
    refine bodyPost_ret (v:=.tuple #[.agg #[.bool false,.slice none 0 0,.slice none 0 0],.bool false]) (by simp[results,Tryz.results38,go_sem,x0,x1,x2]) rfl ⟨.inr ⟨hno.out,rfl⟩,slc⟩
   ·have hno:Hid (¬OkT (bl s)):=Lib.hid (λh=>by have h1:=h.parts.1;rw[show zH 47 (bl s)=bl (sb (zH 47 (bl s)))from rfl,hgI]at h1;cases h1)
    obtain⟨y0,y1⟩:=bx2 (hgx.bl hb4)
    go_upto_region 7 with (fail)
    refine qe (λW=>Bl w4 W) slc ?_
    rintro W4 hb5
    have hbw4:=hbw2.next (hb4.next hb5)
    have hr2:=hr.bl (hbr2.next (hb4.next hb5))
    obtain⟨v0,x0⟩:=hr2.val_ (i:=0) (by omega)
    obtain⟨v1,x1⟩:=hr2.val_ (i:=1) (by omega)
    obtain⟨v2,x2⟩:=hr2.val_ (i:=2) (by omega)
    have hgr:=hr2.lt
    have hB:=hr2.blk
    have hf0:=hB.frozen 0
    have hf1:=hB.frozen 1
    have hf2:=hB.frozen 2
    go_wp2_with fail
    refine bodyPost_ret (v:=.tuple #[.agg #[.bool false,.slice none 0 0,.slice none 0 0],.bool false]) (by simp[results,Tryz.results38,go_sem,x0,x1,x2]) rfl ⟨.inr ⟨hno.out,rfl⟩,slc⟩
 ·rw[if_neg h47]at hcut0
  have hcut:Lib.cut s.data.toList (sb [47]).data.toList=(zH 47 (bl s),[],false):=by rw[kg h47];exact hcut0
  have hden:(sb [49]).size<=1048576:=by rw[zt];decide
  have hdenT:Hid (X8 (bl s)=[49]):=Lib.hid (by unfold X8;rw[if_neg h47])
  clear hcut0 h47 hsz
  go_enter Tryz.func38,Tryz.ntmps38
  go_upto_region 1 with (fail)
  refine qe (λW=>Bl w W/\∃r,Wk 3 26 r W/\r=w.heap.size) ⟨slc,_,by exact bts,rfl⟩ ?_
  rintro W0 ⟨hbW,r,hr,hre⟩
  rw[<-hre]
  have hrw:w.heap.size<=r:=by omega
  clear hre
  go_wp2_with (first
   | (go_at_call 37;refine(Tryz.strings_Cut s (sb [47]) mx _ (by omega) ((Bl.qeV hbW (YA hmx.out)).trans hmx.out)).mono ?_;rw[hcut];rintro e w1 ⟨rfl,q1,rfl⟩)
   | (go_at_call 82;refine(QH _ (sb (zH 47 (bl s))) hnum (hE.out.bl (by exact slc))).mono ?_))
  rintro e w2 ⟨(⟨hgI,A,n,c,rfl,hO⟩ |⟨hgI,rfl⟩),hb2⟩
  ·have hbr0:W0.heap.size<=W0.heap.size:=Nat.le_refl _
   go_upto_region 5 with (fail)
   refine qe (λW=>Bl w2 W/\∃g,Blk W g 24 #[.bool (decide (vI (bl (sb (zH 47 (bl s))))<0)),.slice A n c]/\g=w2.heap.size) ⟨slc,_,by exact bts,rfl⟩ ?_
   rintro W2 ⟨hb3,g,hgx,hge⟩
   rw[<-hge]
   have hgw:w2.heap.size<=g:=by omega
   clear hge
   have hbw2:Bl w W2:=(hbW.next (show Bl W0 w2 from slc)).next hb3
   have hbr2:Bl W0 W2:=(show Bl W0 w2 from slc).next hb3
   go_wp2_with (go_at_call 83;refine(zO _ (sb ([49])) hden (hE.out.bl hbw2)).mono ?_)
   rintro e w4 ⟨(⟨hgN,B,m,d,rfl,hP⟩ |⟨hgN,rfl⟩),hb4⟩
   ·have hl1:=xm hgI
    have hl2:=yd hgN
    have hneg:decide (vI (bl (sb (zH 47 (bl s))))<0)=decide (vI (zH 47 (bl s))<0):=rfl
    obtain⟨x,hx⟩:∃x,vI (bl (sb (zH 47 (bl s))))=x:=⟨_,rfl⟩
    obtain⟨D,hD⟩:∃D,vD (bl (sb ([49])))=D:=⟨_,rfl⟩
    rw[hx]at hO hl1 hgx ⊢
    rw[hD]at hP hl2
    have hxv:vI (zH 47 (bl s))=x:=hx
    have hDv:vD (X8 (bl s))=D:=by rw[<-hD];exact congrArg vD hdenT.out
    have hqv:Hid (qv (bl s)=raw x D):=Lib.hid (by unfold qv;rw[hxv,hDv])
    have hOk:Hid (rtx x D=bl s↔OkT (bl s)):=Lib.hid ⟨λh=>OkT.of hgI h,λh=>by have:=h.parts.2.2.2.2;rw[hxv,hDv]at this;exact this⟩
    have hcmp:((sb (rtx x D)).toList == s.toList)=decide (rtx x D=bl s):=by
     rw[jD,yl,Bool.eq_iff_iff,beq_iff_eq,decide_eq_true_eq]
    clear hgI hgN hx hD hxv hDv hneg
    obtain⟨y0,y1⟩:=bx2 (hgx.bl hb4)
    go_upto_region 7 with (fail)
    refine qe (λW=>Bl w4 W/\∃g',Blk W g' 26 #[.bool (decide (x<0)),.slice A n c,.slice B m d]/\g'=w4.heap.size) ⟨slc,_,by exact bts,rfl⟩ ?_
    rintro W4 ⟨hb5,g',hgy,hge⟩
    rw[<-hge]
    have hgw':w4.heap.size<=g':=by omega
    clear hge
    have hO4:=(hO.bl hb3).bl (hb4.next hb5)
    have hP4:=hP.bl hb5
    have hRd:IsR W4 (decide (x<0)) A n c B m d x D:=⟨rfl,hO4.rd,hP4.rd⟩
    have hn60:n<=60:=by have:=hO.rd.lenN;omega
    have hm60:m<=60:=by have:=hP.rd.lenN;omega
    have hbw4:=hbw2.next (hb4.next hb5)
    have hOwR:OwR 3 W0.heap.size W4 (decide (x<0)) A n c B m d (raw x D):=OwR.two ((hO.bl hb3).mono (by have h:=hbr0;exact h)) hP hb4 hbr2.size |>.bl hb5
    obtain⟨z0,z1,z2⟩:=bx3 hgy
    by_cases heq:rtx x D=bl s
    ·rw[decide_eq_true heq]at hcmp
     have hOkT:=Lib.hid (hOk.out.1 heq)
     clear heq hOk
     go_wp2_with (go_at_call 45;refine(zS _ hRd hn60 hm60 (hE.out.bl hbw4)).mono ?_;rintro e w5 ⟨rfl,hb6⟩;have hgy5:=hgy.bl hb6;obtain⟨u0,u1,u2⟩:=bx3 hgy5;have hr2:=hr.bl (hbr2.next ((hb4.next hb5).next hb6));obtain⟨v0,x0⟩:=hr2.val_ (i:=0) (by omega);obtain⟨v1,x1⟩:=hr2.val_ (i:=1) (by omega);obtain⟨v2,x2⟩:=hr2.val_ (i:=2) (by omega);have hgr:=hr2.lt;have hB:=hr2.blk;have hf0:=hB.frozen 0;have hf1:=hB.frozen 1;have hf2:=hB.frozen 2;have hOR:=hOwR.bl hb6;have hbw5:=hbw4.next hb6;have hrg:r≠g':=by { have h1:=hr.lt;have h2:=hbr2.size;have h3:=hb4.size;omega })
     refine bodyPost_ret (v:=.tuple #[.agg #[.bool (decide (x<0)),.slice A n c,.slice B m d],.bool true]) (by simp[results,Tryz.results38,go_sem,x0,x1,x2]) rfl ⟨.inl ⟨hOkT.out,_,_,_,_,_,_,_,rfl,by rw[hqv.out];exact(((hOR.far (p:=⟨r,0,none⟩) (show r<W0.heap.size from hr.lt) _).far (p:=⟨r,1,none⟩) (show r<W0.heap.size from hr.lt) _).far (p:=⟨r,2,none⟩) (show r<W0.heap.size from hr.lt) _).mono hbW.size⟩,slc⟩
    ·rw[decide_eq_false heq]at hcmp
     have hno:=Lib.hid (λh=>heq (hOk.out.2 h))
     clear heq hOk
     go_wp2_with (go_at_call 45;refine(zS _ hRd hn60 hm60 (hE.out.bl hbw4)).mono ?_;rintro e w5 ⟨rfl,hb6⟩;have hr2:=hr.bl (hbr2.next ((hb4.next hb5).next hb6));obtain⟨v0,x0⟩:=hr2.val_ (i:=0) (by omega);obtain⟨v1,x1⟩:=hr2.val_ (i:=1) (by omega);obtain⟨v2,x2⟩:=hr2.val_ (i:=2) (by omega);have hgr:=hr2.lt;have hB:=hr2.blk;have hf0:=hB.frozen 0;have hf1:=hB.frozen 1;have hf2:=hB.frozen 2;have hbw5:=hbw4.next hb6)
     refine bodyPost_ret (v:=.tuple #[.agg #[.bool false,.slice none 0 0,.slice none 0 0],.bool false]) (by simp[results,Tryz.results38,go_sem,x0,x1,x2]) rfl ⟨.inr ⟨hno.out,rfl⟩,slc⟩
   ·have hno:Hid (¬OkT (bl s)):=Lib.hid (λh=>by have h1:=h.parts.2.1;rw[hdenT.out]at h1;rw[show [49]=bl (sb ([49]))from rfl,hgN]at h1;cases h1)
    obtain⟨y0,y1⟩:=bx2 (hgx.bl hb4)
    go_upto_region 7 with (fail)
    refine qe (λW=>Bl w4 W) slc ?_
    rintro W4 hb5
    have hbw4:=hbw2.next (hb4.next hb5)
    have hr2:=hr.bl (hbr2.next (hb4.next hb5))
    obtain⟨v0,x0⟩:=hr2.val_ (i:=0) (by omega)
    obtain⟨v1,x1⟩:=hr2.val_ (i:=1) (by omega)
    obtain⟨v2,x2⟩:=hr2.val_ (i:=2) (by omega)
    have hgr:=hr2.lt
    have hB:=hr2.blk
    have hf0:=hB.frozen 0
    have hf1:=hB.frozen 1
    have hf2:=hB.frozen 2
    go_wp2_with fail
    refine bodyPost_ret (v:=.tuple #[.agg #[.bool false,.slice none 0 0,.slice none 0 0],.bool false]) (by simp[results,Tryz.results38,go_sem,x0,x1,x2]) rfl ⟨.inr ⟨hno.out,rfl⟩,slc⟩
  ·go_upto_region 5 with (fail)
   refine qe (λW=>Bl w2 W/\∃g,Blk W g 24 #[.bool false,.slice none 0 0]/\g=w2.heap.size) ⟨slc,_,by exact bts,rfl⟩ ?_
   rintro W2 ⟨hb3,g,hgx,hge⟩
   rw[<-hge]
   have hgw:w2.heap.size<=g:=by omega
   clear hge
   have hbw2:Bl w W2:=(hbW.next (show Bl W0 w2 from slc)).next hb3
   have hbr2:Bl W0 W2:=(show Bl W0 w2 from slc).next hb3
   go_wp2_with (go_at_call 83;refine(zO _ (sb ([49])) hden (hE.out.bl hbw2)).mono ?_)
   rintro e w4 ⟨(⟨hgN,B,m,d,rfl,hP⟩ |⟨hgN,rfl⟩),hb4⟩
   ·have hno:Hid (¬OkT (bl s)):=Lib.hid (λh=>by have h1:=h.parts.1;rw[show zH 47 (bl s)=bl (sb (zH 47 (bl s)))from rfl,hgI]at h1;cases h1)
    obtain⟨y0,y1⟩:=bx2 (hgx.bl hb4)
    go_upto_region 7 with (fail)
    refine qe (λW=>Bl w4 W) slc ?_
    rintro W4 hb5
    have hbw4:=hbw2.next (hb4.next hb5)
    have hr2:=hr.bl (hbr2.next (hb4.next hb5))
    obtain⟨v0,x0⟩:=hr2.val_ (i:=0) (by omega)
    obtain⟨v1,x1⟩:=hr2.val_ (i:=1) (by omega)
    obtain⟨v2,x2⟩:=hr2.val_ (i:=2) (by omega)
    have hgr:=hr2.lt
    have hB:=hr2.blk
    have hf0:=hB.frozen 0
    have hf1:=hB.frozen 1
    have hf2:=hB.frozen 2
    go_wp2_with fail
    refine bodyPost_ret (v:=.tuple #[.agg #[.bool false,.slice none 0 0,.slice none 0 0],.bool false]) (by simp[results,Tryz.results38,go_sem,x0,x1,x2]) rfl ⟨.inr ⟨hno.out,rfl⟩,slc⟩
   ·have hno:Hid (¬OkT (bl s)):=Lib.hid (λh=>by have h1:=h.parts.1;rw[show zH 47 (bl s)=bl (sb (zH 47 (bl s)))from rfl,hgI]at h1;cases h1)
    obtain⟨y0,y1⟩:=bx2 (hgx.bl hb4)
    go_upto_region 7 with (fail)
    refine qe (λW=>Bl w4 W) slc ?_
    rintro W4 hb5
    have hbw4:=hbw2.next (hb4.next hb5)
    have hr2:=hr.bl (hbr2.next (hb4.next hb5))
    obtain⟨v0,x0⟩:=hr2.val_ (i:=0) (by omega)
    obtain⟨v1,x1⟩:=hr2.val_ (i:=1) (by omega)
    obtain⟨v2,x2⟩:=hr2.val_ (i:=2) (by omega)
    have hgr:=hr2.lt
    have hB:=hr2.blk
    have hf0:=hB.frozen 0
    have hf1:=hB.frozen 1
    have hf2:=hB.frozen 2
    go_wp2_with fail
    refine bodyPost_ret (v:=.tuple #[.agg #[.bool false,.slice none 0 0,.slice none 0 0],.bool false]) (by simp[results,Tryz.results38,go_sem,x0,x1,x2]) rfl ⟨.inr ⟨hno.out,rfl⟩,slc⟩
end Go.Proofs.YtjaapemopbbfaaaGreatDoor
