import Derived.Test.YtjaapemopbbfaaaGreatDoorPMeshesM31
namespace Go.Proofs.YtjaapemopbbfaaaGreatDoor
open Go.RowKit
set_option maxRecDepth 100000
set_option maxHeartbeats 32000000
def qdZ (P:Prop) (w:World) (e:Ending) (w':World):Prop:=∃b,e=.returned (.bool b)/\(b=false↔P)/\Bl w w'
theorem ZV {P:Prop}{w w':World}(hn:¬P) (h:Bl w w'):qdZ P w (.returned (.bool true)) w':=⟨true,rfl,⟨(λh=>by cases h),λh=>absurd h hn⟩,h⟩
theorem vE {P:Prop}{w w':World}(hp:P) (h:Bl w w'):qdZ P w (.returned (.bool false)) w':=⟨false,rfl,⟨λ_=>hp,λ_=>rfl⟩,h⟩
theorem QN (w:World) {gp gx gy n cp cx cy:Nat}{xs ys:List Int}(hx:RdI w (some ⟨gx,0,none⟩) n cx xs) (hy:RdI w (some ⟨gy,0,none⟩) n cy ys) (hB:PlB n xs ys) (a b c:Int) (ha:0<=a) (ha2:a<n) (hb:0<=b) (hb2:b<n) (hc:0<=c) (hc2:c<n) :
  Calls Tryz.prog 130 #[.agg #[.slice (some ⟨gp,0,none⟩) n cp,.slice (some ⟨gx,0,none⟩) n cx,.slice (some ⟨gy,0,none⟩) n cy],.int .i64 a,.int .i64 b,.int .i64 c] w λe w'=>e=.returned (.bool (decide (VU xs ys a b c)))/\Bl w w':=by
 have hns:=hx.small
 by_cases h0:trn xs ys a b c=0
 ·replace h0:=Lib.hid h0
  go_enter Tryz.func130,Tryz.ntmps130
  go_wp2_with fail
  refine qd (λW=>Bl w W/\Blk W w.heap.size 92 #[.slice (some ⟨gp,0,none⟩) n cp,.slice (some ⟨gx,0,none⟩) n cx,.slice (some ⟨gy,0,none⟩) n cy]) ⟨slc,bts⟩ ?_
  rintro W ⟨hbW,hBx⟩
  refine(qy _ (hx.bl hbW) (hy.bl hbW) hB a b c ha ha2 hb hb2 hc hc2).mono ?_
  rw[h0.out]
  rintro e v0 ⟨rfl,hv0⟩
  have hbW:=hbW.next hv0
  have hBx:=hBx.bl hv0
  have xa:=jN (hx.bl hbW) (k:=a.toNat) (by omega)
  have ya:=jN (hy.bl hbW) (k:=a.toNat) (by omega)
  have xb:=jN (hx.bl hbW) (k:=b.toNat) (by omega)
  have yb:=jN (hy.bl hbW) (k:=b.toNat) (by omega)
  have xc:=jN (hx.bl hbW) (k:=c.toNat) (by omega)
  have yc:=jN (hy.bl hbW) (k:=c.toNat) (by omega)
  obtain⟨z0,z1,z2⟩:=bx3 hBx
  clear hB hx hy
  go_wp2_with fail
  have hdv:=Lib.hid (show VU xs ys a b c↔(min (ix xs a.toNat) (ix xs b.toNat)<=ix xs c.toNat/\ix xs c.toNat<=max (ix xs a.toNat) (ix xs b.toNat))/\(min (ix ys a.toNat) (ix ys b.toNat)<=ix ys c.toNat/\ix ys c.toNat<=max (ix ys a.toNat) (ix ys b.toNat))from ⟨λh=>h.2,λh=>⟨h0.out,h⟩⟩)
  by_cases hxr:(min (ix xs a.toNat) (ix xs b.toNat)<=ix xs c.toNat/\ix xs c.toNat<=max (ix xs a.toNat) (ix xs b.toNat))
  ·by_cases hyr:(min (ix ys a.toNat) (ix ys b.toNat)<=ix ys c.toNat/\ix ys c.toNat<=max (ix ys a.toNat) (ix ys b.toNat))
   ·have hv:=Lib.hid (decide_eq_true (hdv.out.2 ⟨hxr,hyr⟩))
    replace hxr:=Lib.hid hxr
    replace hyr:=Lib.hid hyr
    go_quiet ((first |(go_at_call 66;with_reducible exact Calls.quiet_of (zc _ hxr.out.1 hxr.out.2)) |(go_at_call 66;with_reducible exact Calls.quiet_of (zc _ hyr.out.1 hyr.out.2))))
    go_wp2_with fail
    go_ret
    rw[hv.out]
    exact⟨rfl,slc⟩
   ·have hv:=Lib.hid (decide_eq_false (λh=>hyr (hdv.out.1 h).2))
    replace hxr:=Lib.hid hxr
    replace hyr:=Lib.hid hyr
    go_quiet ((first |(go_at_call 66;with_reducible exact Calls.quiet_of (zc _ hxr.out.1 hxr.out.2)) |(go_at_call 66;with_reducible exact Calls.quiet_of (Xd _ hyr.out))))
    go_wp2_with fail
    go_ret
    rw[hv.out]
    exact⟨rfl,slc⟩
  ·have hv:=Lib.hid (decide_eq_false (λh=>hxr (hdv.out.1 h).1))
   replace hxr:=Lib.hid hxr
   go_quiet (((go_at_call 66;with_reducible exact Calls.quiet_of (Xd _ hxr.out))))
   go_wp2_with fail
   go_ret
   rw[hv.out]
   exact⟨rfl,slc⟩
 ·have hv:=Lib.hid (decide_eq_false (p:=VU xs ys a b c) (λh=>h0 h.1))
  have hd:decide (trn xs ys a b c=0)=false:=decide_eq_false h0
  go_enter Tryz.func130,Tryz.ntmps130
  go_wp2_with fail
  refine qd (λW=>Bl w W/\Blk W w.heap.size 92 #[.slice (some ⟨gp,0,none⟩) n cp,.slice (some ⟨gx,0,none⟩) n cx,.slice (some ⟨gy,0,none⟩) n cy]) ⟨slc,bts⟩ ?_
  rintro W ⟨hbW,hBx⟩
  refine(qy _ (hx.bl hbW) (hy.bl hbW) hB a b c ha ha2 hb hb2 hc hc2).mono ?_
  rintro e v0 ⟨rfl,hv0⟩
  go_wp2_with fail
  go_ret
  rw[hv.out]
  exact⟨rfl,hbW.next hv0⟩
theorem Xv (w:World) {gp gx gy n cp cx cy:Nat}{xs ys:List Int}(hx:RdI w (some ⟨gx,0,none⟩) n cx xs) (hy:RdI w (some ⟨gy,0,none⟩) n cy ys) (hB:PlB n xs ys) {gt m ct:Nat}{ts:List qC}(ht:zx w (some ⟨gt,0,none⟩) m ct ts) (hix0:Y7 n ts) (hn40:n<=1048576) :
  Calls Tryz.prog 72 #[.agg #[.slice (some ⟨gp,0,none⟩) n cp,.slice (some ⟨gx,0,none⟩) n cx,.slice (some ⟨gy,0,none⟩) n cy],.slice (some ⟨gt,0,none⟩) m ct] w λe w'=>qdZ (qa4 n xs ys ts) w e w':=by
 have hns:=hx.small
 have hms:=ht.small
 have hlen:=Lib.hid ht.len
 replace hix0:=Lib.hid hix0
 go_enter Tryz.func72,Tryz.ntmps72
 go_wp2_with fail
 refine qe (λW=>Bl w W/\Blk W w.heap.size 92 #[.slice (some ⟨gp,0,none⟩) n cp,.slice (some ⟨gx,0,none⟩) n cx,.slice (some ⟨gy,0,none⟩) n cy]) ⟨slc,bts⟩ ?_
 rintro W ⟨hbW,hBx⟩
 go_loopw [14] (λv wr=>∃k:Nat,k<=m/\v=.int .i64 (k:Int)/\Hid (∀q,q<k->yf n xs ys (pix ts q).a (pix ts q).b/\yf n xs ys (pix ts q).b (pix ts q).c/\yf n xs ys (pix ts q).c (pix ts q).a)/\Bl W wr) (λv _=>m-(intOf v).toNat)
 case atStart=>exact⟨0,by omega,rfl,Lib.hid (λq hq=>by omega),Bl.refl _⟩
 case round=>
  obtain⟨k,hk,rfl,hpre,hbw⟩:=hrel
  obtain⟨wo,rfl⟩:∃wo:World,wo=wr:=⟨_,rfl⟩
  by_cases hkm:k<m
  ·have hki:(k:Int)<(m:Int):=by omega
   obtain⟨c0,c1,c2,c3,c4⟩:=jO (zx.bl ht (hbW.next hbw)) hkm
   obtain⟨⟨ta0,ta1⟩,⟨tb0,tb1⟩,tc0,tc1⟩:=hix0.out k (by rw[hlen.out];exact hkm)
   have hnext:=Lib.hid (λ(h:yf n xs ys (pix ts k).a (pix ts k).b/\yf n xs ys (pix ts k).b (pix ts k).c/\yf n xs ys (pix ts k).c (pix ts k).a)=>(λq hq=>by
    rcases(show q<k\/q=k by omega)with h3|rfl
    ·exact hpre.out q h3
    ·exact h:∀q,q<k+1->yf n xs ys (pix ts q).a (pix ts q).b/\yf n xs ys (pix ts q).b (pix ts q).c/\yf n xs ys (pix ts q).c (pix ts q).a))
   have hni:=Lib.hid (λ(h:qa4 n xs ys ts)=>(h k (by rw[hlen.out];exact hkm):yf n xs ys (pix ts k).a (pix ts k).b/\yf n xs ys (pix ts k).b (pix ts k).c/\yf n xs ys (pix ts k).c (pix ts k).a))
   clear hpre
   obtain⟨t,hte⟩:∃t,pix ts k=t:=⟨_,rfl⟩
   rw[hte]at c0 c1 c2 c3 c4 ta0 ta1 tb0 tb1 tc0 tc1 hnext hni
   clear hte
   go_wp2_with fail
   refine qd (λW2=>Bl wo W2) slc ?_
   intro W2 hb2
   clear c0 c1 c2 c3 c4
   refine(QT _ t).mono ?_
   rintro e w4 ⟨rfl,rfl⟩
   go_wp2_with fail
   refine qe (λW3=>Bl W2 W3/\∃g7,Blk W3 g7 96 #[.int .i64 t.a,.int .i64 t.b,.int .i64 t.c]/\g7=W2.heap.size+1+1) ⟨by exact slc,_,by exact bts,rfl⟩ ?_
   rintro W3 ⟨hb3,g7,h7,hg7⟩
   rw[<-hg7]
   clear hg7
   have hbq:Bl wo W3:=hb2.next hb3
   have hBx:=hBx.bl (hbw.next hbq)
   go_loopw [21] (λv wi=>∃i:Nat,i<=3/\v=.int .i64 (i:Int)/\Hid ((0<i->yf n xs ys t.a t.b)/\(1<i->yf n xs ys t.b t.c)/\(2<i->yf n xs ys t.c t.a))/\Bl W3 wi) (λv _=>3-(intOf v).toNat)
   case atStart=>exact⟨0,by omega,rfl,Lib.hid ⟨λh=>by omega,λh=>by omega,λh=>by omega⟩,Bl.refl _⟩
   case round=>
    obtain⟨i,hi,rfl,hpi,hbi⟩:=hrel
    rcases(show i=0\/i=1\/i=2\/i=3 by omega)with rfl|rfl|rfl|rfl
    ·skip
     have e0:((0:Nat):Int)=0:=rfl
     rw[e0]
     clear e0 hi
     obtain⟨wj,rfl⟩:∃wj:World,wj=wr:=⟨_,rfl⟩
     have hix:∀W:World,(Instr.index 96 (.agg #[.int .i64 t.a,.int .i64 t.b,.int .i64 t.c]) (.int .i64 0)).run Tryz.prog W=.ok (.int .i64 t.a) W:=λ_=>by kernel_rfl
     have hBx2:=hBx.bl hbi
     obtain⟨r0,r1,r2⟩:=bx3 hBx2
     obtain⟨y0,y1,y2⟩:=bx3 (h7.bl hbi)
     have hb00:=(hbW.next hbw).next hbq
     have hb0:=hb00.next hbi
     go_wp2_with fail
     go_loopw [33] (λv wr=>∃c:Nat,c<=n/\v=.int .i64 (c:Int)/\Hid (∀q:Nat,q<c->(q:Int)≠t.a->(q:Int)≠t.b->¬VU xs ys t.a t.b q)/\Bl wj wr) (λv _=>n-(intOf v).toNat)
     case atStart=>exact⟨0,by omega,rfl,Lib.hid (λq hq=>by omega),Bl.refl _⟩
     case round=>
      clear r0 r1 r2 y0 y1 y2
      obtain⟨c,hc,rfl,hpc,hbc⟩:=hrel
      have hstep:=Lib.hid (λ(h:(c:Int)≠t.a->(c:Int)≠t.b->¬VU xs ys t.a t.b c)=>(λq hq=>by
       rcases(show q<c\/q=c by omega)with h3|rfl
       ·exact hpc.out q h3
       ·exact h:∀q:Nat,q<c+1->(q:Int)≠t.a->(q:Int)≠t.b->¬VU xs ys t.a t.b q))
      obtain⟨wp,rfl⟩:∃wp:World,wp=wr:=⟨_,rfl⟩
      obtain⟨r0,r1,r2⟩:=bx3 (hBx2.bl hbc)
      by_cases hcn:c<n
      ·have hci:(c:Int)<(n:Int):=by omega
       by_cases hca:(c:Int)=t.a
       ·have hda:decide ((c:Int)=t.a)=true:=by simp[hca]
        replace hca:=Lib.hid hca
        go_wp2_with fail
        go_roundw
        case rel=>exact⟨c+1,by omega,by go_num,Lib.hid (hstep.out (λh _=>absurd hca.out h)),hbc⟩
        case measure=>simp[intOf];omega
       ·have hda:decide ((c:Int)=t.a)=false:=by simp[hca]
        by_cases hcb:(c:Int)=t.b
        ·have hdb:decide ((c:Int)=t.b)=true:=by simp[hcb]
         replace hca:=Lib.hid hca
         replace hcb:=Lib.hid hcb
         go_wp2_with fail
         go_roundw
         case rel=>exact⟨c+1,by omega,by go_num,Lib.hid (hstep.out (λ_ h=>absurd hcb.out h)),hbc⟩
         case measure=>simp[intOf];omega
        ·have hdb:decide ((c:Int)=t.b)=false:=by simp[hcb]
         have hbb:=hb0.next hbc
         obtain⟨bi,hbi_⟩:∃bi,decide (VU xs ys t.a t.b (c:Int))=bi:=⟨_,rfl⟩
         have hbI:=Lib.hid hbi_;rename_i h_;clear h_
         have hcaH:=Lib.hid hca
         have hcbH:=Lib.hid hcb
         go_wp2_with (go_at_call 130;(with_reducible refine(QN _ (hx.bl slc) (hy.bl slc) hB t.a t.b (c:Int) ta0 ta1 tb0 tb1 (by omega) (by omega)).mono ?_);rw[hbI.out];rintro e v0 ⟨rfl,hv0⟩;cases bi)
         all_goals first
          | (exfalso;rename_i hx_;simp[hca,hcb]at hx_;done)
          | (go_ret;exact ZV (λh=>(hni.out h).1 c hcn hcaH.out hcbH.out (of_decide_eq_true hbI.out)) (hbb.next hv0))
          | go_roundw
         all_goals first
          | exact⟨c+1,by omega,by go_num,Lib.hid (hstep.out (λ_ _=>of_decide_eq_false hbI.out)),hbc.next hv0⟩
          | (simp[intOf];omega)
      ·obtain rfl:c=n:=by omega
       have hcn2:¬(c:Int)<(c:Int):=by omega
       have hno1:=Lib.hid (show yf c xs ys t.a t.b from hpc.out)
       go_wp2_with fail
       go_roundw
       case rel=>exact⟨1,by omega,rfl,Lib.hid ⟨λ_=>hno1.out,λh=>by omega,λh=>by omega⟩,hbi.next hbc⟩
       case measure=>simp[intOf]
    ·skip
     have e0:((1:Nat):Int)=1:=rfl
     rw[e0]
     clear e0 hi
     obtain⟨wj,rfl⟩:∃wj:World,wj=wr:=⟨_,rfl⟩
     have hix:∀W:World,(Instr.index 96 (.agg #[.int .i64 t.a,.int .i64 t.b,.int .i64 t.c]) (.int .i64 1)).run Tryz.prog W=.ok (.int .i64 t.b) W:=λ_=>by kernel_rfl
     have hBx2:=hBx.bl hbi
     obtain⟨r0,r1,r2⟩:=bx3 hBx2
     obtain⟨y0,y1,y2⟩:=bx3 (h7.bl hbi)
     have hb00:=(hbW.next hbw).next hbq
     have hb0:=hb00.next hbi
     go_wp2_with fail
     go_loopw [33] (λv wr=>∃c:Nat,c<=n/\v=.int .i64 (c:Int)/\Hid (∀q:Nat,q<c->(q:Int)≠t.b->(q:Int)≠t.c->¬VU xs ys t.b t.c q)/\Bl wj wr) (λv _=>n-(intOf v).toNat)
     case atStart=>exact⟨0,by omega,rfl,Lib.hid (λq hq=>by omega),Bl.refl _⟩
     case round=>
      clear r0 r1 r2 y0 y1 y2
      obtain⟨c,hc,rfl,hpc,hbc⟩:=hrel
      have hstep:=Lib.hid (λ(h:(c:Int)≠t.b->(c:Int)≠t.c->¬VU xs ys t.b t.c c)=>(λq hq=>by
       rcases(show q<c\/q=c by omega)with h3|rfl
       ·exact hpc.out q h3
       ·exact h:∀q:Nat,q<c+1->(q:Int)≠t.b->(q:Int)≠t.c->¬VU xs ys t.b t.c q))
      obtain⟨wp,rfl⟩:∃wp:World,wp=wr:=⟨_,rfl⟩
      obtain⟨r0,r1,r2⟩:=bx3 (hBx2.bl hbc)
      by_cases hcn:c<n
      ·have hci:(c:Int)<(n:Int):=by omega
       by_cases hca:(c:Int)=t.b
       ·have hda:decide ((c:Int)=t.b)=true:=by simp[hca]
        replace hca:=Lib.hid hca
        go_wp2_with fail
        go_roundw
        case rel=>exact⟨c+1,by omega,by go_num,Lib.hid (hstep.out (λh _=>absurd hca.out h)),hbc⟩
        case measure=>simp[intOf];omega
       ·have hda:decide ((c:Int)=t.b)=false:=by simp[hca]
        by_cases hcb:(c:Int)=t.c
        ·have hdb:decide ((c:Int)=t.c)=true:=by simp[hcb]
         replace hca:=Lib.hid hca
         replace hcb:=Lib.hid hcb
         go_wp2_with fail
         go_roundw
         case rel=>exact⟨c+1,by omega,by go_num,Lib.hid (hstep.out (λ_ h=>absurd hcb.out h)),hbc⟩
         case measure=>simp[intOf];omega
        ·have hdb:decide ((c:Int)=t.c)=false:=by simp[hcb]
         have hbb:=hb0.next hbc
         obtain⟨bi,hbi_⟩:∃bi,decide (VU xs ys t.b t.c (c:Int))=bi:=⟨_,rfl⟩
         have hbI:=Lib.hid hbi_;rename_i h_;clear h_
         have hcaH:=Lib.hid hca
         have hcbH:=Lib.hid hcb
         go_wp2_with (go_at_call 130;(with_reducible refine(QN _ (hx.bl slc) (hy.bl slc) hB t.b t.c (c:Int) tb0 tb1 tc0 tc1 (by omega) (by omega)).mono ?_);rw[hbI.out];rintro e v0 ⟨rfl,hv0⟩;cases bi)
         all_goals first
          | (exfalso;rename_i hx_;simp[hca,hcb]at hx_;done)
          | (go_ret;exact ZV (λh=>(hni.out h).2.1 c hcn hcaH.out hcbH.out (of_decide_eq_true hbI.out)) (hbb.next hv0))
          | go_roundw
         all_goals first
          | exact⟨c+1,by omega,by go_num,Lib.hid (hstep.out (λ_ _=>of_decide_eq_false hbI.out)),hbc.next hv0⟩
          | (simp[intOf];omega)
      ·obtain rfl:c=n:=by omega
       have hcn2:¬(c:Int)<(c:Int):=by omega
       have hno1:=Lib.hid (show yf c xs ys t.b t.c from hpc.out)
       go_wp2_with fail
       go_roundw
       case rel=>exact⟨2,by omega,rfl,Lib.hid ⟨λ_=>hpi.out.1 (by omega),λ_=>hno1.out,λh=>by omega⟩,hbi.next hbc⟩
       case measure=>simp[intOf]
    ·skip
     have e0:((2:Nat):Int)=2:=rfl
     rw[e0]
     clear e0 hi
     obtain⟨wj,rfl⟩:∃wj:World,wj=wr:=⟨_,rfl⟩
     have hix:∀W:World,(Instr.index 96 (.agg #[.int .i64 t.a,.int .i64 t.b,.int .i64 t.c]) (.int .i64 2)).run Tryz.prog W=.ok (.int .i64 t.c) W:=λ_=>by kernel_rfl
     have hBx2:=hBx.bl hbi
     obtain⟨r0,r1,r2⟩:=bx3 hBx2
     obtain⟨y0,y1,y2⟩:=bx3 (h7.bl hbi)
     have hb00:=(hbW.next hbw).next hbq
     have hb0:=hb00.next hbi
     go_wp2_with fail
     go_loopw [33] (λv wr=>∃c:Nat,c<=n/\v=.int .i64 (c:Int)/\Hid (∀q:Nat,q<c->(q:Int)≠t.c->(q:Int)≠t.a->¬VU xs ys t.c t.a q)/\Bl wj wr) (λv _=>n-(intOf v).toNat)
     case atStart=>exact⟨0,by omega,rfl,Lib.hid (λq hq=>by omega),Bl.refl _⟩
     case round=>
      clear r0 r1 r2 y0 y1 y2
      obtain⟨c,hc,rfl,hpc,hbc⟩:=hrel
      have hstep:=Lib.hid (λ(h:(c:Int)≠t.c->(c:Int)≠t.a->¬VU xs ys t.c t.a c)=>(λq hq=>by
       rcases(show q<c\/q=c by omega)with h3|rfl
       ·exact hpc.out q h3
       ·exact h:∀q:Nat,q<c+1->(q:Int)≠t.c->(q:Int)≠t.a->¬VU xs ys t.c t.a q))
      obtain⟨wp,rfl⟩:∃wp:World,wp=wr:=⟨_,rfl⟩
      obtain⟨r0,r1,r2⟩:=bx3 (hBx2.bl hbc)
      by_cases hcn:c<n
      ·have hci:(c:Int)<(n:Int):=by omega
       by_cases hca:(c:Int)=t.c
       ·have hda:decide ((c:Int)=t.c)=true:=by simp[hca]
        replace hca:=Lib.hid hca
        go_wp2_with fail
        go_roundw
        case rel=>exact⟨c+1,by omega,by go_num,Lib.hid (hstep.out (λh _=>absurd hca.out h)),hbc⟩
        case measure=>simp[intOf];omega
       ·have hda:decide ((c:Int)=t.c)=false:=by simp[hca]
        by_cases hcb:(c:Int)=t.a
        ·have hdb:decide ((c:Int)=t.a)=true:=by simp[hcb]
         replace hca:=Lib.hid hca
         replace hcb:=Lib.hid hcb
         go_wp2_with fail
         go_roundw
         case rel=>exact⟨c+1,by omega,by go_num,Lib.hid (hstep.out (λ_ h=>absurd hcb.out h)),hbc⟩
         case measure=>simp[intOf];omega
        ·have hdb:decide ((c:Int)=t.a)=false:=by simp[hcb]
         have hbb:=hb0.next hbc
         obtain⟨bi,hbi_⟩:∃bi,decide (VU xs ys t.c t.a (c:Int))=bi:=⟨_,rfl⟩
         have hbI:=Lib.hid hbi_;rename_i h_;clear h_
         have hcaH:=Lib.hid hca
         have hcbH:=Lib.hid hcb
         go_wp2_with (go_at_call 130;(with_reducible refine(QN _ (hx.bl slc) (hy.bl slc) hB t.c t.a (c:Int) tc0 tc1 ta0 ta1 (by omega) (by omega)).mono ?_);rw[hbI.out];rintro e v0 ⟨rfl,hv0⟩;cases bi)
         all_goals first
          | (exfalso;rename_i hx_;simp[hca,hcb]at hx_;done)
          | (go_ret;exact ZV (λh=>(hni.out h).2.2 c hcn hcaH.out hcbH.out (of_decide_eq_true hbI.out)) (hbb.next hv0))
          | go_roundw
         all_goals first
          | exact⟨c+1,by omega,by go_num,Lib.hid (hstep.out (λ_ _=>of_decide_eq_false hbI.out)),hbc.next hv0⟩
          | (simp[intOf];omega)
      ·obtain rfl:c=n:=by omega
       have hcn2:¬(c:Int)<(c:Int):=by omega
       have hno1:=Lib.hid (show yf c xs ys t.c t.a from hpc.out)
       go_wp2_with fail
       go_roundw
       case rel=>exact⟨3,by omega,rfl,Lib.hid ⟨λ_=>hpi.out.1 (by omega),λ_=>hpi.out.2.1 (by omega),λ_=>hno1.out⟩,hbi.next hbc⟩
       case measure=>simp[intOf]
    ·have e0:((3:Nat):Int)=3:=rfl
     rw[e0]
     clear e0 hi
     go_wp2_with fail
     go_roundw
     case rel=>exact⟨k+1,by omega,by go_num,Lib.hid (hnext.out ⟨hpi.out.1 (by omega),hpi.out.2.1 (by omega),hpi.out.2.2 (by omega)⟩),(hbw.next hbq).next hbi⟩
     case measure=>simp[intOf];omega
  ·obtain rfl:k=m:=by omega
   have hkm2:¬(k:Int)<(k:Int):=by omega
   go_wp2_with fail
   go_ret
   exact vE (λq hq=>hpre.out q (by rw[hlen.out]at hq;exact hq)) (hbW.next hbw)
theorem KF:(Tryz.prog.info? 4).map (λi=>(i.zero,i.size,i.bytes))=some (some (.bool false),1,1):=by kernel_rfl
def Vq (n:Nat):Obj:=.cells (madeCells #[.bool false] n) 4
theorem QQ (n:Nat) (hn:n<=1048576) (w:World) :
  (Instr.makeSlice 94 (.int .i64 (n:Int)) (.int .i64 (n:Int))).run Tryz.prog w=.ok (.slice (some ⟨w.heap.size,0,none⟩) n n) (w.alloc (Vq n)):=by
 obtain⟨i0,hi,hz0,hz1,hz2⟩:=info_parts KF
 have:=run_make (P:=Tryz.prog) w 94 4 i0 (.bool false) Tryz.underlying94 hi hz0 .i64 .i64 (n:Int) (n:Int) (by omega) (by omega) (by rw[hz2];omega) (by omega)
 rw[this,hz1]
 simp[Vq,Value.cells]
theorem OwU.made (w:World) (n:Nat) (b:Nat->Bool) (hb:∀i,b i=false):OwU (w.alloc (Vq n)) w.heap.size n b:=by
 refine⟨_,heap_alloc_new w _,by simp[size_madeCells],λi hi=>?_⟩
 ·rw[hb i,<-Array.getElem?_toList,toList_madeCells_one]
  simp[hi]
theorem qam (ts:List qC) {k:Nat}{t:qC}(h:pix ts k=t) (x:Nat):(zY ts k x||(decide (t.a=(x:Int))||(decide (t.b=(x:Int))||decide (t.c=(x:Int)))))=zY ts (k+1) x:=by
 subst h
 rfl
def Ze (ts:List qC) (k:Nat) (t:qC):Nat->Nat->Bool
 | 0,x=>zY ts k x
 | 1,x=>zY ts k x||decide (t.a=(x:Int))
 | 2,x=>zY ts k x||(decide (t.a=(x:Int))||decide (t.b=(x:Int)))
 | _,x=>zY ts k x||(decide (t.a=(x:Int))||(decide (t.b=(x:Int))||decide (t.c=(x:Int))))
theorem Xc (ts:List qC) (k:Nat) (t:qC) (x:Nat) (h:0<=t.a):(if x=t.a.toNat then true else Ze ts k t 0 x)=Ze ts k t 1 x:=by
 simp only[Ze]
 by_cases e:x=t.a.toNat
 ·rw[if_pos e,decide_eq_true (by omega),Bool.or_true]
 ·rw[if_neg e,decide_eq_false (by omega),Bool.or_false]
theorem xt (ts:List qC) (k:Nat) (t:qC) (x:Nat) (h:0<=t.b):(if x=t.b.toNat then true else Ze ts k t 1 x)=Ze ts k t 2 x:=by
 simp only[Ze]
 by_cases e:x=t.b.toNat
 ·rw[if_pos e,decide_eq_true (show t.b=(x:Int)by omega),Bool.or_true,Bool.or_true]
 ·rw[if_neg e,decide_eq_false (show ¬t.b=(x:Int)by omega),Bool.or_false]
theorem xB (ts:List qC) (k:Nat) (t:qC) (x:Nat) (h:0<=t.c):(if x=t.c.toNat then true else Ze ts k t 2 x)=Ze ts k t 3 x:=by
 simp only[Ze]
 by_cases e:x=t.c.toNat
 ·rw[if_pos e,decide_eq_true (show t.c=(x:Int)by omega),Bool.or_true,Bool.or_true,Bool.or_true]
 ·rw[if_neg e,decide_eq_false (show ¬t.c=(x:Int)by omega),Bool.or_false]
def qd9 (P:Prop) (w:World) (e:Ending) (w':World):Prop:=∃b,e=.returned (.bool b)/\(b=true↔P)/\Bl w w'
theorem kE {P:Prop}{w w':World}(hp:P) (h:Bl w w'):qd9 P w (.returned (.bool true)) w':=⟨true,rfl,⟨λ_=>hp,λ_=>rfl⟩,h⟩
theorem Ja {P:Prop}{w w':World}(hn:¬P) (h:Bl w w'):qd9 P w (.returned (.bool false)) w':=⟨false,rfl,⟨(λh=>by cases h),λh=>absurd h hn⟩,h⟩
structure vW (m:MeQ):Prop where
 n3:3<=m.pts.length
 n40:m.pts.length<=40
 t1:1<=m.tris.length
 t48:m.tris.length<=48
 diff:∀k,k<m.pts.length->∀j,j<k->pix m.pts k≠pix m.pts j
 place:qcO m.pts
 ixs:Y7 m.pts.length m.tris
 reg:∀k,k<m.tris.length->(0<=(pix m.tris k).region/\(pix m.tris k).region<=2)/\0<=(pix m.tris k).level/\(pix m.tris k).level<=60
 pos:∀k,k<m.tris.length->0<trn (Qf m.pts m.pts.length) (yZ m.pts m.pts.length) (pix m.tris k).a (pix m.tris k).b (pix m.tris k).c
theorem vW.ptsOk {m:MeQ}(h:vW m):qdv (m.pts.map tp):=by
 intro k hk
 rw[List.length_map]at hk
 rw[zv hk]
 obtain⟨s1,s2⟩:=h.place.1 k hk
 refine⟨⟨s1.fit.ok,s2.fit.ok⟩,λj hj=>?_⟩
 rw[zv (by omega)]
 refine Ke λe=>h.diff k hk j hj ?_
 unfold tp at e
 injection e with e1 e2
 exact Prod.ext (VA e1) (VA e2)
theorem xU {ts:List qC}{i:Nat}:∀{k:Nat},zY ts k i=true->∃j,j<k/\((pix ts j).a=i\/(pix ts j).b=i\/(pix ts j).c=i)
 | 0,h=>by cases h
 | k+1,h=>by
  unfold zY at h
  rw[Bool.or_eq_true,Bool.or_eq_true,Bool.or_eq_true,decide_eq_true_iff,decide_eq_true_iff,decide_eq_true_iff]at h
  rcases h with h|h
  ·obtain⟨j,hj,h⟩:=xU h
   exact⟨j,by omega,h⟩
  ·exact⟨k,by omega,h⟩
theorem KQ {mq:MeQ}{n m:Nat}(h:za mq) (hn:mq.pts.length=n) (hm:mq.tris.length=m):(∀i,i<n->zY mq.tris m i=true)/\qa4 n (Qf mq.pts n) (yZ mq.pts n) mq.tris:=by
 subst hn
 subst hm
 exact⟨λi hi=>by obtain⟨j,hj,e⟩:=h.used i hi;exact xr hj e,h.noIn⟩
theorem za.pre {m:MeQ}(h:za m):vW m:=⟨h.n3,h.n40,h.t1,h.t48,h.diff,h.place,h.ixs,h.reg,h.pos⟩
def KD (mq:MeQ) (n k:Nat):Prop:=∀q,q<k->∀j,j<q->JA (Qf mq.pts n) (yZ mq.pts n) (pix mq.tris j) (pix mq.tris q)=true\/JA (Qf mq.pts n) (yZ mq.pts n) (pix mq.tris q) (pix mq.tris j)=true
def Vs (mq:MeQ) (n:Nat) (t:qC) (j:Nat):Prop:=∀q,q<j->JA (Qf mq.pts n) (yZ mq.pts n) (pix mq.tris q) t=true\/JA (Qf mq.pts n) (yZ mq.pts n) t (pix mq.tris q)=true
theorem UW (mq:MeQ) (n:Nat):KD mq n 0:=λq hq=>by omega
theorem Uu (mq:MeQ) (n:Nat) (t:qC):Vs mq n t 0:=λq hq=>by omega
theorem U6 {mq:MeQ}{n k:Nat}{t:qC}(h:KD mq n k) (ht:pix mq.tris k=t) (hi:Vs mq n t k):KD mq n (k+1):=by
 subst ht
 intro q hq j hj
 rcases(show q<k\/q=k by omega)with h1|rfl
 ·exact h q h1 j hj
 ·exact hi j hj
theorem UN {mq:MeQ}{n j:Nat}{t s:qC}(h:Vs mq n t j) (hs:pix mq.tris j=s) (hi:JA (Qf mq.pts n) (yZ mq.pts n) s t=true\/JA (Qf mq.pts n) (yZ mq.pts n) t s=true):Vs mq n t (j+1):=by
 subst hs
 intro q hq
 rcases(show q<j\/q=j by omega)with h1|rfl
 ·exact h q h1
 ·exact hi
theorem qcT {mq:MeQ}{n k:Nat}{t:qC}(h:za mq) (hn:mq.pts.length=n) (hk:k<mq.tris.length) (ht:pix mq.tris k=t):Vs mq n t k:=by
 subst ht
 subst hn
 exact λq hq=>h.sep k hk q hq
theorem qaH {mq:MeQ}{n k j:Nat}{t s:qC}(h:Vs mq n t k) (hj:j<k) (hs:pix mq.tris j=s):JA (Qf mq.pts n) (yZ mq.pts n) s t=true\/JA (Qf mq.pts n) (yZ mq.pts n) t s=true:=by
 subst hs
 exact h j hj
def qc5 (n:Nat) (w:World) (e:Ending) (w':World):Prop:=∃r:Nat,e=.returned (.int .i64 (r:Int))/\r<n/\w'=w
theorem Vp (w:World) {g n c:Nat}{b:Nat->Bool}(hc:∀i,i<n->w.cell? ⟨g,i,none⟩=some (.bool (b i))) (hn:n<=1048576) (hno:¬∀i,i<n->b i=true) :
  Calls Tryz.prog 129 #[.slice (some ⟨g,0,none⟩) n c,.bool false] w λe w'=>qc5 n w e w':=by
 replace hc:=Lib.hid hc
 replace hno:=Lib.hid hno
 go_enter Tryz.func129,Tryz.ntmps129
 go_wp2_with fail
 go_loop [8] (λi=>∃k:Nat,k<=n/\i=.int .i64 (k:Int)/\Hid (∀q,q<k->b q=true)) (λi=>n-(intOf i).toNat)
 case atStart=>exact⟨0,Nat.zero_le _,rfl,Lib.hid (λq hq=>by omega)⟩
 case round=>
  obtain⟨k,hk,rfl,hpre⟩:=hrel
  by_cases hkn:k<n
  ·have hki:(k:Int)<(n:Int):=by omega
   have y0:=hc.out k hkn
   obtain⟨bk,hbk⟩:∃bk,b k=bk:=⟨_,rfl⟩
   rw[hbk]at y0
   replace hbk:=Lib.hid hbk
   cases bk
   ·go_wp2_with fail
    go_ret
    exact⟨k,rfl,hkn,rfl⟩
   ·go_wp2_with fail
    go_round
    case rel=>exact⟨k+1,by omega,by go_num,Lib.hid (λq hq=>by
     rcases(show q<k\/q=k by omega)with h1|rfl
     ·exact hpre.out q h1
     ·exact hbk.out)⟩
    case measure=>simp[intOf];omega
  ·obtain rfl:k=n:=by omega
   exact absurd hpre.out hno.out
theorem Y8 (w:World) {g n c:Nat}{b:Nat->Bool}(hc:∀i,i<n->w.cell? ⟨g,i,none⟩=some (.bool (b i))) (hn:n<=1048576) :
  Calls Tryz.prog 71 #[.slice (some ⟨g,0,none⟩) n c,.bool false] w λe w'=>qdZ (∀i,i<n->b i=true) w e w':=by
 by_cases hall:∀i,i<n->b i=true
 ·refine(YI w (λi hi=>by rw[hc i hi,hall i hi]) hn).mono ?_
  rintro e w1 ⟨rfl,rfl⟩
  exact vE hall (Bl.refl _)
 ·replace hc:=Lib.hid hc
  replace hall:=Lib.hid hall
  go_enter Tryz.func71,Tryz.ntmps71
  go_wp2_with fail
  refine(Vp _ hc.out hn hall.out).mono ?_
  rintro e w1 ⟨r,rfl,hr,rfl⟩
  have hr0:(0:Int)<=(r:Int):=by omega
  go_wp2_with fail
  go_ret
  exact ZV hall.out (Bl.refl _)
theorem qan (w:World) {gp n cp gt m ct:Nat}{mq:MeQ}(hp:qR w (some ⟨gp,0,none⟩) n cp (mq.pts.map tp)) (ht:zx w (some ⟨gt,0,none⟩) m ct mq.tris) (hok:vW mq) :
  Calls Tryz.prog 30 #[.agg #[.slice (some ⟨gp,0,none⟩) n cp,.slice (some ⟨gt,0,none⟩) m ct]] w λe w'=>qd9 (za mq) w e w':=by
 have hn:mq.pts.length=n:=by rw[<-hp.len,List.length_map]
 have hm:mq.tris.length=m:=ht.len
 obtain⟨n3,n40,t1,t48,hdiff,hpl,hixs,hreg,hpos⟩:=id hok
 have hfin := Lib.hid (λ(hs : KD mq n m) (hu : ∀ i, i < n -> zY mq.tris m i = true) (hi : qa4 n (Qf mq.pts n) (yZ mq.pts n) mq.tris) => (by
  rw[<-hn,<-hm]at hs
  rw[<-hn,<-hm]at hu
  rw[<-hn]at hi
  exact⟨hok.n3,hok.n40,hok.t1,hok.t48,hok.diff,hok.place,hok.ixs,hok.reg,hok.pos,hs,λk hk=>xU (hu k hk),hi⟩:za mq))
 rw[hn]at n3 n40 hixs hpos
 rw[hm]at t1 t48 hreg hpos
 have hB:PlB n (Qf mq.pts n) (yZ mq.pts n):=by have:=hpl.2.2;rw[hn]at this;exact this
 have hpo:=Lib.hid hok.ptsOk
 replace hpl:=Lib.hid hpl
 replace hixs:=Lib.hid hixs
 replace hreg:=Lib.hid hreg
 replace hpos:=Lib.hid hpos
 replace hn:=Lib.hid hn
 replace hm:=Lib.hid hm
 have hcapt:=ht.cap
 clear hdiff hok
 go_enter Tryz.func30,Tryz.ntmps30
 go_wp2_with fail
 refine qd (λW=>Bl w W/\Blk W w.heap.size 49 #[.slice (some ⟨gp,0,none⟩) n cp,.slice (some ⟨gt,0,none⟩) m ct]) ⟨slc,bts⟩ ?_
 rintro W ⟨hbW,hM⟩
 refine(VJ _ (qR.bl hp hbW) hpo.out (by omega) (by omega)).mono ?_
 rintro e w1 ⟨rfl,hb1⟩
 have hM:=hM.bl hb1
 have hbW:=hbW.next hb1
 clear hb1
 obtain⟨r0,r1⟩:=bx2 hM
 go_wp2_with fail
 refine(zc _ (show (1:Int)<=(m:Int)by omega) (show (m:Int)<=48 by omega)).mono ?_
 rintro e w2 ⟨rfl,q1,rfl⟩
 have hM:=hM.bl ((Bl.refl w1).drewN q1)
 have hbW:=hbW.next ((Bl.refl w1).drewN q1)
 obtain⟨w3,hw3⟩:∃w3,w1.drewN q1=w3:=⟨_,rfl⟩
 rw[hw3]at hM hbW ⊢
 clear r0 r1 hw3
 obtain⟨r0,r1⟩:=bx2 hM
 go_wp2_with fail
 refine(ke _ (qR.bl hp hbW) hpl.out (by omega) (by omega)).mono ?_
 rintro e w4 ⟨gx,cx,gy,cy,rfl,hx,hy,hb4⟩
 have hM:=hM.bl hb4
 have hbW:=hbW.next hb4
 have hMl:=hM.lt
 clear r0 r1 hb4
 obtain⟨r0,r1⟩:=bx2 hM
 have hmk:=λW:World=>QQ n (by omega) W
 go_wp2_with fail
 refine qe (λW5=>Bl w4 W5/\∃gb gu,Blk W5 gb 92 #[.slice (some ⟨gp,0,none⟩) n cp,.slice (some ⟨gx,0,none⟩) n cx,.slice (some ⟨gy,0,none⟩) n cy]/\OwU W5 gu n (zY mq.tris 0)/\gb=w4.heap.size/\gu=w4.heap.size+1) ⟨by exact slc,_,_,by exact bts,by have:=OwU.made (w4.alloc (.cells #[.slice (some ⟨gp,0,none⟩) n cp,.slice (some ⟨gx,0,none⟩) n cx,.slice (some ⟨gy,0,none⟩) n cy] 92)) n (zY mq.tris 0) (λ_=>rfl);rw[World.size_alloc]at this;exact this,rfl,rfl⟩ ?_
 rintro W5 ⟨hb5,gb,gu,hQ,hU,hgb,hgu⟩
 rw[<-hgu,<-hgb]
 have hgb4:w4.heap.size<=gb:=by omega
 have hgu4:w4.heap.size<=gu:=by omega
 have hbu:gb≠gu:=by omega
 clear hgb hgu hmk r0 r1
 go_loopw [32] (λv wr=>∃k:Nat,k<=m/\v=.int .i64 (k:Int)/\Hid (KD mq n k)/\OwU wr gu n (zY mq.tris k)/\Blk wr gb 92 #[.slice (some ⟨gp,0,none⟩) n cp,.slice (some ⟨gx,0,none⟩) n cx,.slice (some ⟨gy,0,none⟩) n cy]/\Bl w4 wr) (λv _=>m-(intOf v).toNat)
 case atStart=>exact⟨0,by omega,rfl,Lib.hid (UW mq n),hU,hQ,hb5⟩
 case round=>
  clear hU hQ hb5
  obtain⟨k,hk,rfl,hST,hU,hQ,hbw⟩:=hrel
  obtain⟨wo,rfl⟩:∃wo:World,wo=wr:=⟨_,rfl⟩
  by_cases hkm:k<m
  ·have hki:(k:Int)<(m:Int):=by omega
   have hbo:=hbW.next hbw
   obtain⟨c0,c1,c2,c3,c4⟩:=jO (zx.bl ht hbo) hkm
   have htx:=hixs.out k (by rw[hm.out];exact hkm)
   have htx2:=Lib.hid htx
   obtain⟨⟨ta0,ta1⟩,⟨tb0,tb1⟩,tc0,tc1⟩:=htx
   obtain⟨⟨hr0,hr1⟩,hl0,hl1⟩:=hreg.out k hkm
   have hps:=Lib.hid (hpos.out k hkm)
   obtain⟨t,hte⟩:∃t,pix mq.tris k=t:=⟨_,rfl⟩
   have husd:=Lib.hid (λx=>qam mq.tris hte x)
   have hsts:=Lib.hid (λ(h:Vs mq n t k)=>U6 hST.out hte h)
   have hspk:=Lib.hid (λ(hok:za mq)=>(qcT hok hn.out (by rw[hm.out];exact hkm) hte:Vs mq n t k))
   clear hST
   rw[hte]at c0 c1 c2 c3 c4 htx2 ta0 ta1 tb0 tb1 tc0 tc1 hr0 hr1 hl0 hl1 hps
   clear hte
   obtain⟨p0,p1,p2⟩:=bx3 hQ
   have hQl:=hQ.lt
   go_wp2_with fail
   refine qd (λW6=>Bl wo W6/\∃g6,Blk W6 g6 83 #[.int .i64 t.a,.int .i64 t.b,.int .i64 t.c,.int .i64 t.region,.int .i64 t.level]/\g6=wo.heap.size) ⟨by exact slc,_,by exact bts,rfl⟩ ?_
   rintro W6 ⟨hb6,g6,h6,hg6⟩
   rw[<-hg6]
   have hg64:w4.heap.size<=g6:=by have:=hbw.size;omega
   have hu6:gu≠g6:=by have:=hU.lt;omega
   clear c0 c1 c2 c3 c4 p0 p1 p2 hg6
   have hQ:=hQ.bl hb6
   have hU:=hU.bl hb6
   refine(YZ _ (hx.bl (hbw.next hb6)) (hy.bl (hbw.next hb6)) hB t htx2.out hr0 hr1 hl0 hl1 hps.out).mono ?_
   rintro e w7 ⟨rfl,hb7⟩
   have hQ:=hQ.bl hb7
   have hU:=hU.bl hb7
   have h6:=h6.bl hb7
   have hb67:=hb6.next hb7
   clear hb6 hb7
   obtain⟨c0,c1,c2,c3,c4⟩:=bx5 h6
   have h6l:=h6.lt
   go_wp2_with fail
   refine(Zl _ t).mono ?_
   rintro e w8 ⟨rfl,hb8⟩
   have hQ:=hQ.bl hb8
   have hU:=hU.bl hb8
   have h6:=h6.bl hb8
   have hb68:=hb67.next hb8
   clear hb67 hb8 c0 c1 c2 c3 c4
   have hb48:=hbw.next hb68
   go_wp2_with fail
   go_loopw [43] (λv wr=>∃i:Nat,i<=3/\v=.int .i64 (i:Int)/\OwU wr gu n (Ze mq.tris k t i)/\Blk wr gb 92 #[.slice (some ⟨gp,0,none⟩) n cp,.slice (some ⟨gx,0,none⟩) n cx,.slice (some ⟨gy,0,none⟩) n cy]/\Blk wr g6 83 #[.int .i64 t.a,.int .i64 t.b,.int .i64 t.c,.int .i64 t.region,.int .i64 t.level]/\Bl w4 wr) (λv _=>3-(intOf v).toNat)
   case atStart=>exact⟨0,by omega,rfl,hU,hQ,h6,hb48⟩
   case round=>
    clear hU hQ h6 hb48 hb68
    obtain⟨i,hi,rfl,hUi,hQ,h6,hbi⟩:=hrel
    rcases(show i=0\/i=1\/i=2\/i=3 by omega)with rfl|rfl|rfl|rfl
    ·skip
     have e0:((0:Nat):Int)=0:=rfl
     rw[e0]
     clear e0 hi
     obtain⟨wj,rfl⟩:∃wj:World,wj=wr:=⟨_,rfl⟩
     have hix:∀W:World,(Instr.index 96 (.agg #[.int .i64 t.a,.int .i64 t.b,.int .i64 t.c]) (.int .i64 0)).run Tryz.prog W=.ok (.int .i64 t.a) W:=λ_=>by kernel_rfl
     have ux:=hUi.cell (i:=t.a.toNat) (by omega)
     have uf:=hUi.frozen t.a.toNat
     go_wp2_with fail
     go_roundw
     case rel=>exact⟨1,by omega,rfl,(hUi.set t.a.toNat true).congr (λx hx=>Xc mq.tris k t x ta0),hQ.far hbu _,h6.far (Ne.symm hu6) _,Bl.set hbi hgu4 _⟩
     case measure=>simp[intOf]
    ·skip
     have e0:((1:Nat):Int)=1:=rfl
     rw[e0]
     clear e0 hi
     obtain⟨wj,rfl⟩:∃wj:World,wj=wr:=⟨_,rfl⟩
     have hix:∀W:World,(Instr.index 96 (.agg #[.int .i64 t.a,.int .i64 t.b,.int .i64 t.c]) (.int .i64 1)).run Tryz.prog W=.ok (.int .i64 t.b) W:=λ_=>by kernel_rfl
     have ux:=hUi.cell (i:=t.b.toNat) (by omega)
     have uf:=hUi.frozen t.b.toNat
     go_wp2_with fail
     go_roundw
     case rel=>exact⟨2,by omega,rfl,(hUi.set t.b.toNat true).congr (λx hx=>xt mq.tris k t x tb0),hQ.far hbu _,h6.far (Ne.symm hu6) _,Bl.set hbi hgu4 _⟩
     case measure=>simp[intOf]
    ·skip
     have e0:((2:Nat):Int)=2:=rfl
     rw[e0]
     clear e0 hi
     obtain⟨wj,rfl⟩:∃wj:World,wj=wr:=⟨_,rfl⟩
     have hix:∀W:World,(Instr.index 96 (.agg #[.int .i64 t.a,.int .i64 t.b,.int .i64 t.c]) (.int .i64 2)).run Tryz.prog W=.ok (.int .i64 t.c) W:=λ_=>by kernel_rfl
     have ux:=hUi.cell (i:=t.c.toNat) (by omega)
     have uf:=hUi.frozen t.c.toNat
     go_wp2_with fail
     go_roundw
     case rel=>exact⟨3,by omega,rfl,(hUi.set t.c.toNat true).congr (λx hx=>xB mq.tris k t x tc0),hQ.far hbu _,h6.far (Ne.symm hu6) _,Bl.set hbi hgu4 _⟩
     case measure=>simp[intOf]
    ·have e0:((3:Nat):Int)=3:=rfl
     rw[e0]
     clear e0 hi
     obtain⟨wj,rfl⟩:∃wj:World,wj=wr:=⟨_,rfl⟩
     have hMj:=hM.bl hbi
     have hMjl:=hMj.lt
     obtain⟨r0,r1⟩:=bx2 hMj
     go_wp2_with fail
     clear r0 r1
     go_loopw [55] (λv wr=>∃j:Nat,j<=k/\v=.int .i64 (j:Int)/\Hid (Vs mq n t j)/\Bl wj wr) (λv _=>k-(intOf v).toNat)
     case atStart=>exact⟨0,by omega,rfl,Lib.hid (Uu mq n t),Bl.refl _⟩
     case round=>
      obtain⟨j,hj,rfl,hSI,hbj⟩:=hrel
      obtain⟨wp,rfl⟩:∃wp:World,wp=wr:=⟨_,rfl⟩
      have hb4p:=hbi.next hbj
      by_cases hjk:j<k
      ·have hji:(j:Int)<(k:Int):=by omega
       obtain⟨c0,c1,c2,c3,c4⟩:=jO (zx.bl ht (hbW.next hb4p)) (show j<m by omega)
       have hsx:=Lib.hid (hixs.out j (by rw[hm.out];omega))
       obtain⟨s,hse⟩:∃s,pix mq.tris j=s:=⟨_,rfl⟩
       rw[hse]at c0 c1 c2 c3 c4 hsx
       have hsis:=Lib.hid (λ(h:JA (Qf mq.pts n) (yZ mq.pts n) s t=true\/JA (Qf mq.pts n) (yZ mq.pts n) t s=true)=>UN hSI.out hse h)
       have hbad:=Lib.hid (λ(hok:za mq)=>(qaH (hspk.out hok) hjk hse:JA (Qf mq.pts n) (yZ mq.pts n) s t=true\/JA (Qf mq.pts n) (yZ mq.pts n) t s=true))
       clear hSI
       clear hse
       have hQ2:=hQ.bl hbj
       have h62:=h6.bl hbj
       have hQl:=hQ2.lt
       have h6l:=h62.lt
       obtain⟨p0,p1,p2⟩:=bx3 hQ2
       obtain⟨d0,d1,d2,d3,d4⟩:=bx5 h62
       go_wp2_with fail
       refine qd (λW9=>Bl wp W9/\∃g9,Blk W9 g9 83 #[.int .i64 s.a,.int .i64 s.b,.int .i64 s.c,.int .i64 s.region,.int .i64 s.level]/\g9=wp.heap.size) ⟨by exact slc,_,by exact bts,rfl⟩ ?_
       rintro W9 ⟨hb9,g9,h9,hg9⟩
       rw[<-hg9]
       clear c0 c1 c2 c3 c4 p0 p1 p2 d0 d1 d2 d3 d4 hg9
       have hQ2:=hQ2.bl hb9
       have h62:=h62.bl hb9
       refine(ZJ _ (hx.bl (hb4p.next hb9)) (hy.bl (hb4p.next hb9)) hB s t hsx.out htx2.out).mono ?_
       by_cases h1:JA (Qf mq.pts n) (yZ mq.pts n) s t=true
       ·rw[h1]
        rintro e w10 ⟨rfl,hb10⟩
        replace h1:=Lib.hid h1
        go_wp2_with fail
        go_roundw
        case rel=>exact⟨j+1,by omega,by go_num,Lib.hid (hsis.out (.inl h1.out)),hbj.next (hb9.next hb10)⟩
        case measure=>simp[intOf];omega
       ·rw[Bool.eq_false_iff.2 h1]
        rintro e w10 ⟨rfl,hb10⟩
        replace h1:=Lib.hid h1
        obtain⟨b2,h2⟩:∃b2,JA (Qf mq.pts n) (yZ mq.pts n) t s=b2:=⟨_,rfl⟩
        replace h2:=Lib.hid h2
        have hQ2:=hQ2.bl hb10
        have h62:=h62.bl hb10
        have h92:=h9.bl hb10
        have hb910:=hb9.next hb10
        clear hb9 hb10
        have hQl:=hQ2.lt
        have h6l:=h62.lt
        have h9l:=h92.lt
        obtain⟨p0,p1,p2⟩:=bx3 hQ2
        obtain⟨d0,d1,d2,d3,d4⟩:=bx5 h62
        obtain⟨c0,c1,c2,c3,c4⟩:=bx5 h92
        go_wp2_with fail
        refine(ZJ _ (hx.bl (hb4p.next hb910)) (hy.bl (hb4p.next hb910)) hB t s htx2.out hsx.out).mono ?_
        rw[h2.out]
        rintro e w11 ⟨rfl,hb11⟩
        cases b2
        ·go_wp2_with fail
         go_ret
         exact Ja (λhok=>(hbad.out hok).elim h1.out (λh=>by rw[h2.out]at h;cases h)) (((hbW.next hb4p).next hb910).next hb11)
        ·go_wp2_with fail
         go_roundw
         case rel=>exact⟨j+1,by omega,by go_num,Lib.hid (hsis.out (.inr h2.out)),hbj.next (hb910.next hb11)⟩
         case measure=>simp[intOf];omega
      ·obtain rfl:j=k:=by omega
       have hkm2:¬(j:Int)<(j:Int):=by omega
       go_wp2_with fail
       go_roundw
       case rel=>exact⟨j+1,by omega,by go_num,Lib.hid (hsts.out hSI.out),(hUi.bl hbj).congr (λx _=>husd.out x),hQ.bl hbj,hb4p⟩
       case measure=>simp[intOf];omega
  ·obtain rfl:k=m:=by omega
   have hkm2:¬(k:Int)<(k:Int):=by omega
   have hcell:=Lib.hid (λi (hi:i<n)=>hU.cell hi)
   go_wp2_with fail
   refine(Y8 _ hcell.out (by omega)).mono ?_
   rintro e w9 ⟨bc,rfl,hbc,hb9⟩
   replace hbc:=Lib.hid hbc
   have hmO:=Lib.hid (λ(h:za mq)=>(KQ h hn.out hm.out:(∀i,i<n->zY mq.tris k i=true)/\qa4 n (Qf mq.pts n) (yZ mq.pts n) mq.tris))
   have hbw:=hbw.next hb9
   have hQ:=hQ.bl hb9
   clear hb9
   cases bc
   ·have hus:=Lib.hid (hbc.out.1 rfl)
    clear hbc
    obtain⟨p0,p1,p2⟩:=bx3 hQ
    obtain⟨r0,r1⟩:=bx2 (hM.bl hbw)
    go_wp2_with fail
    refine(Xv _ (hx.bl hbw) (hy.bl hbw) hB (zx.bl ht (hbW.next hbw)) hixs.out (by omega)).mono ?_
    rintro e w10 ⟨bh,rfl,hbh,hb10⟩
    replace hbh:=Lib.hid hbh
    cases bh
    ·have hall:=Lib.hid (hfin.out hST.out hus.out (hbh.out.1 rfl))
     go_wp2_with fail
     go_ret
     exact kE hall.out ((hbW.next hbw).next hb10)
    ·go_wp2_with fail
     go_ret
     exact Ja (λh=>by have:=hbh.out.2 (hmO.out h).2;cases this) ((hbW.next hbw).next hb10)
   ·go_wp2_with fail
    go_ret
    exact Ja (λh=>by have:=hbc.out.2 (hmO.out h).1;cases this) (hbW.next hbw)
theorem jz (w:World) {gp n cp gt m ct:Nat}{mq:MeQ}(hp:qR w (some ⟨gp,0,none⟩) n cp (mq.pts.map tp)) (ht:zx w (some ⟨gt,0,none⟩) m ct mq.tris) (hok:za mq) :
  Calls Tryz.prog 30 #[.agg #[.slice (some ⟨gp,0,none⟩) n cp,.slice (some ⟨gt,0,none⟩) m ct]] w λe w'=>e=.returned (.bool true)/\Bl w w':=by
 refine(qan w hp ht hok.pre).mono ?_
 rintro e w1 ⟨b,rfl,hb,h⟩
 rw[hb.2 hok]
 exact⟨rfl,h⟩
end Go.Proofs.YtjaapemopbbfaaaGreatDoor
