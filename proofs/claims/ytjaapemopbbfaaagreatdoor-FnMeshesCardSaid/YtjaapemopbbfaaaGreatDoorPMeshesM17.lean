import Derived.Test.YtjaapemopbbfaaaGreatDoorPMeshesM16
namespace Go.Proofs.YtjaapemopbbfaaaGreatDoor
open Go.RowKit
set_option maxRecDepth 100000
set_option maxHeartbeats 8000000
section
variable (w:World) {s:Bool}{A:Option Addr}{n c:Nat}{B:Option Addr}{m d:Nat}{r:qH}
theorem Ux (h:RdR w s A n c B m d r) (ho:¬OkR r) (ho':¬(OkB s r.mag/\OkN r.den/\0<m/\n<=24/\m<=24)) :
  Calls Tryz.prog 135 #[.agg #[.bool s,.slice A n c,.slice B m d]] w λe w'=>e=.returned (.bool (okR r))/\Bl w w':=by
 rw[yq ho]
 clear ho
 by_cases h1:OkB s r.mag
 ·have hB1:=yo h1
  by_cases h2:OkN r.den
  ·have hN1:=QA h2
   by_cases h3:0<m
   ·have h3i:((m:Int) == 0)=false:=by simp;omega
    by_cases h5:m<=24
    ·have h5i:decide ((24:Int)<(m:Int))=false:=by simp;omega
     have h4:¬n<=24:=λh4=>ho' ⟨h1,h2,h3,h4,h5⟩
     have h4i:decide ((24:Int)<(n:Int))=true:=by simp;omega
     clear ho' h1 h2 h3 h4 h5
     go_enter Tryz.func135,Tryz.ntmps135
     go_wp2_with fail
     refine(zg _ (h.mag.alloc _)).mono ?_
     rw[hB1]
     rintro e w1 ⟨rfl,hb1⟩
     obtain⟨k0,k1,k2⟩:=vR hb1
     have hb1:Bl w w1:=slc
     go_wp2_with fail
     refine(zB _ (h.den.bl hb1)).mono ?_
     rw[hN1]
     rintro e w2 ⟨rfl,q2,rfl⟩
     go_wp2_with fail
     go_ret
     exact⟨rfl,slc⟩
    ·have h5i:decide ((24:Int)<(m:Int))=true:=by simp;omega
     clear ho' h1 h2 h3 h5
     go_enter Tryz.func135,Tryz.ntmps135
     go_wp2_with fail
     refine(zg _ (h.mag.alloc _)).mono ?_
     rw[hB1]
     rintro e w1 ⟨rfl,hb1⟩
     obtain⟨k0,k1,k2⟩:=vR hb1
     have hb1:Bl w w1:=slc
     go_wp2_with fail
     refine(zB _ (h.den.bl hb1)).mono ?_
     rw[hN1]
     rintro e w2 ⟨rfl,q2,rfl⟩
     go_wp2_with fail
     go_ret
     exact⟨rfl,slc⟩
   ·obtain rfl:m=0:=by omega
    clear ho' h1 h2 h3
    go_enter Tryz.func135,Tryz.ntmps135
    go_wp2_with fail
    refine(zg _ (h.mag.alloc _)).mono ?_
    rw[hB1]
    rintro e w1 ⟨rfl,hb1⟩
    obtain⟨k0,k1,k2⟩:=vR hb1
    have hb1:Bl w w1:=slc
    go_wp2_with fail
    refine(zB _ (h.den.bl hb1)).mono ?_
    rw[hN1]
    rintro e w2 ⟨rfl,q2,rfl⟩
    go_wp2_with fail
    go_ret
    exact⟨rfl,slc⟩
  ·have hN0:=Zb h2
   clear ho' h1 h2
   go_enter Tryz.func135,Tryz.ntmps135
   go_wp2_with fail
   refine(zg _ (h.mag.alloc _)).mono ?_
   rw[hB1]
   rintro e w1 ⟨rfl,hb1⟩
   obtain⟨k0,k1,k2⟩:=vR hb1
   have hb1:Bl w w1:=slc
   go_wp2_with fail
   refine(zB _ (h.den.bl hb1)).mono ?_
   rw[hN0]
   rintro e w2 ⟨rfl,q2,rfl⟩
   go_wp2_with fail
   go_ret
   exact⟨rfl,slc⟩
 ·have hB0:=YM h1
  clear ho' h1
  go_enter Tryz.func135,Tryz.ntmps135
  go_wp2_with fail
  refine(zg _ (h.mag.alloc _)).mono ?_
  rw[hB0]
  rintro e w1 ⟨rfl,hb1⟩
  obtain⟨k0,k1,k2⟩:=vR hb1
  have hb1:Bl w w1:=slc
  go_wp2_with fail
  go_ret
  exact⟨rfl,slc⟩
theorem XM {x:Int}{D:Nat}(h:IsR w s A n c B m d x D) (hB1:okB s (raw x D).mag=true) (hN1:okN (raw x D).den=true) (h3:0<m) (h4:n<=24) (h5:m<=24) :
  Calls Tryz.prog 135 #[.agg #[.bool s,.slice A n c,.slice B m d]] w λe w'=>e=.returned (.bool (decide (Nat.gcd x.natAbs D=1)))/\Bl w w':=by
 have h3i:((m:Int) == 0)=false:=by simp;omega
 have h4i:decide ((24:Int)<(n:Int))=false:=by simp;omega
 have h5i:decide ((24:Int)<(m:Int))=false:=by simp;omega
 go_enter Tryz.func135,Tryz.ntmps135
 go_wp2_with fail
 refine(zg _ (h.mag.alloc _)).mono ?_
 rw[hB1]
 rintro e w1 ⟨rfl,hb1⟩
 obtain⟨k0,k1,k2⟩:=vR hb1
 have hb1:Bl w w1:=slc
 go_wp2_with fail
 refine(zB _ (h.den.bl hb1)).mono ?_
 rw[hN1]
 rintro e w2 ⟨rfl,q2,rfl⟩
 have hb3:Bl w (w1.drewN q2):=slc
 go_wp2_with fail
 refine(Jn _ (h.num.bl hb3) (h.dn.bl hb3) (by omega) (by omega)).mono ?_
 rintro e w4 ⟨A',n',c',rfl,hO,hb4⟩
 have hb4:Bl w w4:=slc
 by_cases hg:Nat.gcd x.natAbs D=1
 ·rw[hg]at hO
  have hd:=Lib.hid (show decide (Nat.gcd x.natAbs D=1)=true by simp[hg])
  clear hg
  go_wp2_with fail
  refine(jX _ hO.rd).mono ?_
  rintro e w5 ⟨rfl,q5,rfl⟩
  go_wp2_with fail
  go_ret
  exact⟨qq hd.out.symm,slc⟩
 ·have hd:=Lib.hid (show decide (Nat.gcd x.natAbs D=1)=false by simp[hg])
  replace hg:=Lib.hid hg
  go_wp2_with fail
  refine(yJ _ hO.rd hg.out).mono ?_
  rintro e w5 ⟨rfl,q5,rfl⟩
  go_wp2_with fail
  go_ret
  exact⟨qq hd.out.symm,slc⟩
theorem qw (h:RdR w s A n c B m d r) :
  Calls Tryz.prog 135 #[.agg #[.bool s,.slice A n c,.slice B m d]] w λe w'=>e=.returned (.bool (okR r))/\Bl w w':=by
 have hiff:=kB r
 rw[h.mag.len,h.den.len,<-h.neg]at hiff
 by_cases hg:OkB s r.mag/\OkN r.den/\0<m/\n<=24/\m<=24
 ·obtain⟨g1,g2,g3,g4,g5⟩:=hg
  have e1:=g1.1.nv.1
  have e2:=g2.nv.1
  have hn:(rn r).natAbs=nv r.mag:=by unfold rn;split <;> omega
  have hr:r=raw (rn r) (rd r):=by
   obtain⟨s',mag,den⟩:=r
   have hs:=h.neg
   simp only at hs
   subst hs
   unfold raw
   congr 1
   ·by_cases hs:s=true
    ·have:=g1.2 hs
     simp only at this e1
     rw[e1,qg]at this
     have:=ql.1 this
     subst hs
     simp[rn]
     omega
    ·have:s=false:=by simpa using hs
     subst this
     simp[rn]
   ·rw[hn];exact e1
  have hI:IsR w s A n c B m d (rn r) (rd r):=by
   have h2:=h
   rw[hr]at h2
   exact h2
  refine(XM w hI (by rw[<-hr];exact yo g1) (by rw[<-hr];exact QA g2) g3 g4 g5).mono ?_
  rintro e w' ⟨rfl,hb⟩
  refine⟨?_,hb⟩
  congr 2
  by_cases hk:Nat.gcd (nv r.mag) (nv r.den)=1
  ·rw[zM (hiff.2 ⟨g1,g2,g3,g4,g5,hk⟩),hn]
   simp[rd,hk]
  ·rw[yq (λho=>hk (hiff.1 ho).2.2.2.2.2),hn]
   simp[rd,hk]
 ·exact Ux w h (λho=>hg ⟨(hiff.1 ho).1,(hiff.1 ho).2.1,(hiff.1 ho).2.2.1,(hiff.1 ho).2.2.2.1,(hiff.1 ho).2.2.2.2.1⟩) hg
end
theorem zI (w:World) {s:Bool}{A:Option Addr}{n c:Nat}{B:Option Addr}{m d:Nat}{r:qH}(h:RdR w s A n c B m d r) :
  Calls Tryz.prog 248 #[.agg #[.bool s,.slice A n c,.slice B m d]] w λe w'=>e=.returned (.int .i64 (Zi r))/\Bl w w':=by
 by_cases ho:OkR r
 ·have hok:=zM ho
  have hv:Zi r=jF (rn r) 0:=by unfold Zi;rw[if_pos ho]
  rw[hv]
  have hI:=IsR.out h ho
  have hl:=hI.num.lenN
  have hs:=hI.sgn
  clear hv ho
  rcases Nat.eq_zero_or_pos n with h0|h0
  ·have hx:jF (rn r) 0=0:=by
    have:=Qe.1 (List.length_eq_zero_iff.1 (hl.trans h0))
    unfold jF
    rw[if_neg (by omega),if_neg (by omega)]
   rw[hx]
   subst h0
   clear hx hl hs
   go_enter Tryz.func248,Tryz.ntmps248
   go_wp2_with fail
   refine(qw _ (h.alloc _)).mono ?_
   rw[hok]
   rintro e w1 ⟨rfl,hb1⟩
   obtain⟨i0,i1,i2⟩:=vR hb1
   go_wp2_with fail
   go_ret
   exact⟨rfl,slc⟩
  ·have hne:((n:Int) == 0)=false:=by simp;omega
   have hpos:0<(rn r).natAbs:=ql.1 (by omega)
   rcases Int.lt_or_le (rn r) 0 with hx|hx
   ·have hc:jF (rn r) 0=-1:=by unfold jF;rw[if_pos hx]
    rw[hc]
    obtain rfl:s=true:=by rw[hs];simp[hx]
    clear hc hl hs hpos h0 hx hI
    go_enter Tryz.func248,Tryz.ntmps248
    go_wp2_with fail
    refine(qw _ (h.alloc _)).mono ?_
    rw[hok]
    rintro e w1 ⟨rfl,hb1⟩
    obtain⟨i0,i1,i2⟩:=vR hb1
    go_wp2_with fail
    go_ret
    exact⟨rfl,slc⟩
   ·have hc:jF (rn r) 0=1:=by unfold jF;rw[if_neg (by omega),if_pos (by omega)]
    rw[hc]
    obtain rfl:s=false:=by rw[hs];simp;omega
    clear hc hl hs hpos h0 hx hI
    go_enter Tryz.func248,Tryz.ntmps248
    go_wp2_with fail
    refine(qw _ (h.alloc _)).mono ?_
    rw[hok]
    rintro e w1 ⟨rfl,hb1⟩
    obtain⟨i0,i1,i2⟩:=vR hb1
    go_wp2_with fail
    go_ret
    exact⟨rfl,slc⟩
 ·have hok:=yq ho
  have hv:Zi r=0:=by unfold Zi;rw[if_neg ho]
  rw[hv]
  clear hv
  replace ho:=Lib.hid ho
  go_enter Tryz.func248,Tryz.ntmps248
  go_wp2_with fail
  refine(qw _ (h.alloc _)).mono ?_
  rw[hok]
  rintro e w1 ⟨rfl,hb1⟩
  go_wp2_with fail
  go_ret
  exact⟨rfl,slc⟩
theorem qdQ {x y:Int}{s t:Bool}(hs:s=decide (x<0)) (ht:t=decide (y<0)):sx (s != t) (x.natAbs*y.natAbs)=x*y:=by
 have hn:((x.natAbs*y.natAbs:Nat):Int)=(x.natAbs:Int)*(y.natAbs:Int):=Int.natCast_mul _ _
 unfold sx
 rw[hn]
 rcases Int.lt_or_le x 0 with hx|hx <;> rcases Int.lt_or_le y 0 with hy|hy
 ·have e1:(x.natAbs:Int)=-x:=by omega
  have e2:(y.natAbs:Int)=-y:=by omega
  rw[hs,ht,e1,e2];simp[hx,hy,Int.neg_mul,Int.mul_neg]
 ·have e1:(x.natAbs:Int)=-x:=by omega
  have e2:(y.natAbs:Int)=y:=by omega
  rw[hs,ht,e1,e2];simp[hx,show ¬y<0 by omega,Int.neg_mul]
 ·have e1:(x.natAbs:Int)=x:=by omega
  have e2:(y.natAbs:Int)=-y:=by omega
  rw[hs,ht,e1,e2];simp[hy,show ¬x<0 by omega,Int.mul_neg]
 ·have e1:(x.natAbs:Int)=x:=by omega
  have e2:(y.natAbs:Int)=y:=by omega
  rw[hs,ht,e1,e2];simp[show ¬x<0 by omega,show ¬y<0 by omega]
theorem UH (w:World) {s:Bool}{A:Option Addr}{n c:Nat}{B:Option Addr}{m d:Nat}{x:Int}{D:Nat}{s':Bool}{A':Option Addr}{n' c':Nat}{B':Option Addr}{m' d':Nat}{x':Int}{D':Nat}(h:IsR w s A n c B m d x D) (k:IsR w s' A' n' c' B' m' d' x' D') (hn:n<=262143) (hm:m<=262143) (hn':n'<=262143) (hm':m'<=262143) (hD:0<D) (hD':0<D') :
  Calls Tryz.prog 271 #[.agg #[.bool s,.slice A n c,.slice B m d],.agg #[.bool s',.slice A' n' c',.slice B' m' d']] w λe w'=>∃s1 A1 n1 c1 B1 m1 d1,e=.returned (.agg #[.bool s1,.slice A1 n1 c1,.slice B1 m1 d1])/\OwR 3 w.heap.size w' s1 A1 n1 c1 B1 m1 d1 (qm (x*x') (D*D'))/\Bl w w':=by
 have hval:=Lib.hid (show VR (s != s') (x.natAbs*x'.natAbs) (D*D')=qm (x*x') (D*D')by
  have:=Nat.mul_pos hD hD'
  unfold VR
  rw[if_neg (by omega),qdQ h.sgn k.sgn])
 have hl3:=Nat.le_trans (qM (Nat.le_of_eq h.num.lenN) (Nat.le_of_eq k.num.lenN)) (show n+n'<=1048570 by omega)
 have hlD:=Nat.le_trans (qM (Nat.le_of_eq h.dn.lenN) (Nat.le_of_eq k.dn.lenN)) (show m+m'<=1048570 by omega)
 go_enter Tryz.func271,Tryz.ntmps271
 go_wp2_with fail
 refine qe (λW=>Bl w W/\Blk W (w.heap.size) 26 #[.bool s,.slice A n c,.slice B m d]/\Blk W (w.heap.size+1) 26 #[.bool s',.slice A' n' c',.slice B' m' d']/\Wk 3 26 (w.heap.size+1+1) W) ⟨slc,bts,bts,bts⟩ ?_
 rintro W ⟨hbW,hx,hx',hr⟩
 have hz3:w.heap.size+1+1<W.heap.size:=hr.lt
 go_region_held3 (λw'=>(w'.cell? ⟨w.heap.size,0,none⟩=some (.bool s)/\w'.cell? ⟨w.heap.size,1,none⟩=some (.slice A n c)/\w'.cell? ⟨w.heap.size,2,none⟩=some (.slice B m d))/\(w'.cell? ⟨w.heap.size+1,0,none⟩=some (.bool s')/\w'.cell? ⟨w.heap.size+1,1,none⟩=some (.slice A' n' c')/\w'.cell? ⟨w.heap.size+1,2,none⟩=some (.slice B' m' d'))/\(w'.cell? ⟨w.heap.size+1+1,0,none⟩=some (qh w' (w.heap.size+1+1) 0)/\w'.cell? ⟨w.heap.size+1+1,1,none⟩=some (qh w' (w.heap.size+1+1) 1)/\w'.cell? ⟨w.heap.size+1+1,2,none⟩=some (qh w' (w.heap.size+1+1) 2))/\w'.frozen? ⟨w.heap.size+1+1,0,none⟩=false/\w'.frozen? ⟨w.heap.size+1+1,1,none⟩=false/\w'.frozen? ⟨w.heap.size+1+1,2,none⟩=false) (first|exact⟨bx3 (T:=26) bts,bx3 (T:=26) bts,Wk.out3 (T:=26) bts⟩) (first |(go_at_call 190;with_reducible refine(zT _ (h.num.bl slc) (k.num.bl slc) (by omega) (by omega)).mono ?_;rintro e w4 ⟨A4,n4,c4,rfl,hO,hb4⟩) |(go_at_call 190;with_reducible refine(zT _ (h.dn.bl slc) (k.dn.bl slc) (by omega) (by omega)).mono ?_;rintro e w5 ⟨A5,n5,c5,rfl,hO5,hb5⟩;(have hl4:n4<=1048570:=by rw[<-hO.rd.lenN];exact hl3);(have hl5:n5<=1048570:=by rw[<-hO5.rd.lenN];exact hlD);(have hO6:=RdI.bl hO.rd hb5)) |(go_at_call 188;refine(QP _ (s != s') hO6 hO5.rd hl4 hl5).mono ?_;rintro e w8 ⟨s1,A1,n1,c1,B1,m1,d1,rfl,hR,hb8⟩))
 have hz4:W.heap.size<=w4.heap.size:=(Bl.size hb4:W.drew.heap.size<=_)
 have hz5:w4.heap.size<=w5.heap.size:=Bl.size hb5
 have hr:=(show Wk 3 26 (w.heap.size+1+1) w8 from bts)
 have hbW:Bl w w8:=slc
 rw[hval.out]at hR
 have hR:=hR.mono (show w.heap.size+1+1+1<=w5.heap.size by omega)
 obtain⟨v0,x0⟩:=hr.val_ (i:=0) (by omega)
 obtain⟨v1,x1⟩:=hr.val_ (i:=1) (by omega)
 obtain⟨v2,x2⟩:=hr.val_ (i:=2) (by omega)
 have hg:=hr.lt
 obtain⟨cs4,hB4,hc4⟩:=hr
 have hf0:=hB4.frozen 0
 have hf1:=hB4.frozen 1
 have hf2:=hB4.frozen 2
 go_wp2_with fail
 exact bodyPost_ret (v:=.agg #[.bool s1,.slice A1 n1 c1,.slice B1 m1 d1]) (by simp[results,Tryz.results271,go_sem,x0,x1,x2]) rfl ⟨_,_,_,_,_,_,_,rfl,(((hR.far (by simp) _).far (by simp) _).far (by simp) _).mono (by omega),slc⟩
theorem jy (w:World) {s:Bool}{A:Option Addr}{n c:Nat}{B:Option Addr}{m d:Nat}{r:qH}{s':Bool}{A':Option Addr}{n' c':Nat}{B':Option Addr}{m' d':Nat}{r':qH}(h:RdR w s A n c B m d r) (k:RdR w s' A' n' c' B' m' d' r') :
  Calls Tryz.prog 243 #[.agg #[.bool s,.slice A n c,.slice B m d],.agg #[.bool s',.slice A' n' c',.slice B' m' d']] w λe w'=>∃s1 A1 n1 c1 B1 m1 d1,e=.returned (.agg #[.bool s1,.slice A1 n1 c1,.slice B1 m1 d1])/\OwR 3 w.heap.size w' s1 A1 n1 c1 B1 m1 d1 (Zs r r')/\Bl w w':=by
 by_cases ho:OkR r
 ·have hok:=zM ho
  by_cases ho':OkR r'
  ·have hok':=zM ho'
   have hI:=IsR.out h ho
   have hI':=IsR.out k ho'
   have hL:=OkR.lens h ho
   have hL':=OkR.lens k ho'
   have hval:=Lib.hid (show Zs r r'=qm (rn r*rn r') (rd r*rd r')by unfold Zs;rw[if_pos ⟨ho,ho'⟩])
   clear ho ho'
   go_enter Tryz.func243,Tryz.ntmps243
   go_wp2_with fail
   refine qd (λW=>Bl w W/\Blk W (w.heap.size) 26 #[.bool s,.slice A n c,.slice B m d]/\Blk W (w.heap.size+1) 26 #[.bool s',.slice A' n' c',.slice B' m' d']/\Wk 3 26 (w.heap.size+1+1) W) ⟨slc,bts,bts,bts⟩ ?_
   rintro W ⟨hbW,hx,hx',hr⟩
   refine(qw _ (h.bl hbW)).mono ?_
   rw[hok]
   rintro e w1 ⟨rfl,hb1⟩
   have hx:=hx.bl hb1
   have hx':=hx'.bl hb1
   have hr:=hr.bl hb1
   have hbW:=hbW.next hb1
   clear hb1
   obtain⟨i0,i1,i2⟩:=bx3 hx
   obtain⟨j0,j1,j2⟩:=bx3 hx'
   go_wp2_with fail
   refine(qw _ (k.bl hbW)).mono ?_
   rw[hok']
   rintro e w2 ⟨rfl,hb2⟩
   have hx:=hx.bl hb2
   have hx':=hx'.bl hb2
   have hr:=hr.bl hb2
   have hbW:=hbW.next hb2
   clear hb2
   obtain⟨i0,i1,i2⟩:=bx3 hx
   obtain⟨j0,j1,j2⟩:=bx3 hx'
   go_wp2_with fail
   refine(UH _ (RdR.bl hI hbW) (RdR.bl hI' hbW) (by omega) (by omega) (by omega) (by omega) hL.2.2 hL'.2.2).mono ?_
   rintro e w3 ⟨s1,A1,n1,c1,B1,m1,d1,rfl,hR,hb3⟩
   have hR:=hR.mono (show w.heap.size+1+1+1<=w2.heap.size from hr.lt)
   rw[<-hval.out]at hR
   have hx:=hx.bl hb3
   have hx':=hx'.bl hb3
   have hr:=hr.bl hb3
   have hbW:=hbW.next hb3
   clear hb3
   obtain⟨i0,i1,i2⟩:=bx3 hx
   obtain⟨j0,j1,j2⟩:=bx3 hx'
   obtain⟨v0,x0⟩:=hr.val_ (i:=0) (by omega)
   obtain⟨v1,x1⟩:=hr.val_ (i:=1) (by omega)
   obtain⟨v2,x2⟩:=hr.val_ (i:=2) (by omega)
   have hg:=hr.lt
   obtain⟨cs4,hB4,hc4⟩:=hr
   have hf0:=hB4.frozen 0
   have hf1:=hB4.frozen 1
   have hf2:=hB4.frozen 2
   go_wp2_with fail
   exact bodyPost_ret (v:=.agg #[.bool s1,.slice A1 n1 c1,.slice B1 m1 d1]) (by simp[results,Tryz.results243,go_sem,x0,x1,x2]) rfl ⟨_,_,_,_,_,_,_,rfl,(((hR.far (by simp) _).far (by simp) _).far (by simp) _).mono (by omega),slc⟩
  ·have hok':=yq ho'
   have hval:=Lib.hid (show Zs r r'=zR by unfold Zs;rw[if_neg (λhk=>ho' hk.2)])
   have ho':=Lib.hid ho';rename_i h_;clear h_
   clear ho
   go_enter Tryz.func243,Tryz.ntmps243
   go_wp2_with fail
   refine qd (λW=>Bl w W/\Blk W (w.heap.size) 26 #[.bool s,.slice A n c,.slice B m d]/\Blk W (w.heap.size+1) 26 #[.bool s',.slice A' n' c',.slice B' m' d']/\Wk 3 26 (w.heap.size+1+1) W) ⟨slc,bts,bts,bts⟩ ?_
   rintro W ⟨hbW,hx,hx',hr⟩
   refine(qw _ (h.bl hbW)).mono ?_
   rw[hok]
   rintro e w1 ⟨rfl,hb1⟩
   have hx:=hx.bl hb1
   have hx':=hx'.bl hb1
   have hr:=hr.bl hb1
   have hbW:=hbW.next hb1
   clear hb1
   obtain⟨i0,i1,i2⟩:=bx3 hx
   obtain⟨j0,j1,j2⟩:=bx3 hx'
   go_wp2_with fail
   refine(qw _ (k.bl hbW)).mono ?_
   rw[hok']
   rintro e w2 ⟨rfl,hb2⟩
   have hx:=hx.bl hb2
   have hx':=hx'.bl hb2
   have hr:=hr.bl hb2
   have hbW:=hbW.next hb2
   clear hb2
   obtain⟨i0,i1,i2⟩:=bx3 hx
   obtain⟨j0,j1,j2⟩:=bx3 hx'
   obtain⟨v0,x0⟩:=hr.val_ (i:=0) (by omega)
   obtain⟨v1,x1⟩:=hr.val_ (i:=1) (by omega)
   obtain⟨v2,x2⟩:=hr.val_ (i:=2) (by omega)
   have hg:=hr.lt
   obtain⟨cs4,hB4,hc4⟩:=hr
   have hf0:=hB4.frozen 0
   have hf1:=hB4.frozen 1
   have hf2:=hB4.frozen 2
   go_wp2_with fail
   exact bodyPost_ret (v:=.agg #[.bool false,.slice none 0 0,.slice none 0 0]) (by simp[results,Tryz.results243,go_sem,x0,x1,x2]) rfl ⟨_,_,_,_,_,_,_,rfl,by rw[hval.out];exact OwR.zero _ _ _,slc⟩
 ·have hok:=yq ho
  have hval:=Lib.hid (show Zs r r'=zR by unfold Zs;rw[if_neg (λhk=>ho hk.1)])
  replace ho:=Lib.hid ho
  go_enter Tryz.func243,Tryz.ntmps243
  go_wp2_with fail
  refine qd (λW=>Bl w W/\Blk W (w.heap.size) 26 #[.bool s,.slice A n c,.slice B m d]/\Blk W (w.heap.size+1) 26 #[.bool s',.slice A' n' c',.slice B' m' d']/\Wk 3 26 (w.heap.size+1+1) W) ⟨slc,bts,bts,bts⟩ ?_
  rintro W ⟨hbW,hx,hx',hr⟩
  refine(qw _ (h.bl hbW)).mono ?_
  rw[hok]
  rintro e w1 ⟨rfl,hb1⟩
  have hx:=hx.bl hb1
  have hx':=hx'.bl hb1
  have hr:=hr.bl hb1
  have hbW:=hbW.next hb1
  clear hb1
  obtain⟨i0,i1,i2⟩:=bx3 hx
  obtain⟨j0,j1,j2⟩:=bx3 hx'
  obtain⟨v0,x0⟩:=hr.val_ (i:=0) (by omega)
  obtain⟨v1,x1⟩:=hr.val_ (i:=1) (by omega)
  obtain⟨v2,x2⟩:=hr.val_ (i:=2) (by omega)
  have hg:=hr.lt
  obtain⟨cs4,hB4,hc4⟩:=hr
  have hf0:=hB4.frozen 0
  have hf1:=hB4.frozen 1
  have hf2:=hB4.frozen 2
  go_wp2_with fail
  exact bodyPost_ret (v:=.agg #[.bool false,.slice none 0 0,.slice none 0 0]) (by simp[results,Tryz.results243,go_sem,x0,x1,x2]) rfl ⟨_,_,_,_,_,_,_,rfl,by rw[hval.out];exact OwR.zero _ _ _,slc⟩
theorem OwI.grown {T:TypeId}{b0:Nat}{w w':World}{A:Option Addr}{n c:Nat}{l:List Int}{row:Option Nat}(h:OwI T b0 w A n c l) (hg:w.grownBy w' row) (hr:∀k,row=some k->k<b0):OwI T b0 w' A n c l:=by
 obtain⟨bs,h1,hf⟩:=FtI.of_own h
 have h2:FtI T w' A n c l bs:=h1.keep hg.size (λb hb=>hg.block b (hf.2 b hb).2 (by intro e;have:=hr b e.symm;have:=(hf.2 b hb).1;omega))
 refine⟨h2.1,?_⟩
 rcases h2.2 with ⟨h0,_⟩ |⟨g,cs,_,e,hh,hn,e2⟩
 ·exact .inl h0
 ·exact .inr ⟨g,cs,e,(hf.2 g (by rw[e2];simp)).1,hh,hn⟩
theorem ze {P:Program}{E t:TypeId}(hinfo:(P.info? E).map (λi=>(i.zero,i.size,i.bytes))=some (some (.int .i64 0),1,8)) (ht:P.underlying t=some (.slice E))
  {w0 W:World}{ops:Array Oper}{o:Oper}{a:Act}{K:Act->World->Prop}{Q:Exit->Act->World->Prop}{F:Prop}(hgd:o.guard=none) (s x:Operand)
  (ho:o.op=.call { callee:=.builtin .append,args:=#[s,x],argTypes:=#[t,t] }) (v:Value) (l:List Int) (hs:a.eval s=v) (hown:OwL E w0.heap.size W v l) (hb:Bl w0 W)
  (A:Option Addr) (m c:Nat) (hx:a.eval x=.slice A m c) (ys:List Int) (hr:RdI W A m c ys) (hlen:l.length<=1099511627776) (hm:m<=1099511627776)
  (h:∀v' w',OwL E w0.heap.size w' v' (l++ys)->Bl w0 w'->W.grownBy w' v.ownBlock->K (a.put o.dst v') w'):if Region.wanted o (yielded ops a.tmps)=true then Oper.wp P o a W K Q else F:=by
 have hw:Region.wanted o (yielded ops a.tmps)=true:=by simp[Region.wanted,hgd]
 rw[if_pos hw]
 obtain⟨i0,hi,hz0,hz1,hz2⟩:=info_parts hinfo
 rcases A with _|ad
 ·have hm0:m=0:=by
   rcases Nat.eq_zero_or_pos m with h0|h0
   ·exact h0
   ·obtain⟨_,e,_⟩:=hr.at_ h0
    cases e
  subst hm0
  have hy:ys=[]:=List.length_eq_zero_iff.1 hr.len
  subst hy
  have hrun:=Qv (P:=P) W w0.heap.size (ty:=o.type) ht hi hown c
  unfold Oper.wp execOp
  simp only[ho,resolve,invoke,builtin,Sem.run_bind,Sem.run_pure,Result.andThen_ok,List.map_toArray,List.map_cons,List.map_nil,hs,hx,hrun]
  exact h v W (by rw[List.append_nil];exact hown) hb (World.grownBy.refl W _)
 ·obtain ⟨v', w', hrun, h2, h3, _⟩ := run_append_own_at (P := P) W w0.heap.size t o.type E i0 (.int .i64 0) 1 8 ht hi hz0 hz1 hz2 rfl (by omega) v l.length (l.map (Value.int .i64)) hown ad m c (ys.map (Value.int .i64)) (by simp [hr.len]) (by
   intro j u hu
   rw[List.getElem?_map]at hu
   have hj:j < m:=by
    rcases Nat.lt_or_ge j ys.length with h|h
    ·rw[hr.len]at h;exact h
    ·rw[List.getElem?_eq_none h]at hu;simp at hu
   obtain⟨ad',e,_,hc⟩:=hr.at_ hj
   injection e with e
   subst e
   rw[hc]
   rw[List.getElem?_eq_getElem (by rw[hr.len];exact hj)]at hu
   simp at hu
   rw[<-hu]
   simp[ix,hr.len,hj]) (by intro u hu;simp at hu;obtain⟨z,_,rfl⟩:=hu;rfl) (by simp only[maxLen];omega) (by omega) hb.size
  unfold Oper.wp execOp
  simp only[ho,resolve,invoke,builtin,Sem.run_bind,Sem.run_pure,Result.andThen_ok,List.map_toArray,List.map_cons,List.map_nil,hs,hx,hrun]
  refine h v' w' ?_ (hb.grown h3 hown.blockLe) h3
  unfold OwL
  rw[List.length_append,hr.len]
  simpa using h2
theorem UF (w:World) {s:Bool}{A:Option Addr}{n c:Nat}{B:Option Addr}{m d:Nat}{x:Int}{D:Nat}(h:IsR w s A n c B m d x D) (hn:n<=60) (hm:m<=1048576) :
  Calls Tryz.prog 287 #[.agg #[.bool s,.slice A n c,.slice B m d]] w λe w'=>∃s1 A1 n1 c1 B1 m1 d1,e=.returned (.agg #[.bool s1,.slice A1 n1 c1,.slice B1 m1 d1])/\IsR w' s1 A1 n1 c1 B1 m1 d1 (-x) D/\Bl w w':=by
 have hs:=Lib.hid h.sgn
 have hl1:Hid ((([]:List Int)++qu (dig D)).length=m):=by have:=RdI.len h.dn;unfold Hid;simpa using this
 go_enter Tryz.func287,Tryz.ntmps287
 go_wp2_with fail
 refine qe (λW=>Bl w W/\Blk W (w.heap.size) 26 #[.bool s,.slice A n c,.slice B m d]/\Wk 3 26 (w.heap.size+1) W) ⟨slc,bts,bts⟩ ?_
 rintro W ⟨hbW,hx,hr⟩
 have hzW:=hr.lt
 go_region_held3 (λw'=>(w'.cell? ⟨w.heap.size,0,none⟩=some (.bool s)/\w'.cell? ⟨w.heap.size,1,none⟩=some (.slice A n c)/\w'.cell? ⟨w.heap.size,2,none⟩=some (.slice B m d))/\(w'.cell? ⟨w.heap.size+1,0,none⟩=some (qh w' (w.heap.size+1) 0)/\w'.cell? ⟨w.heap.size+1,1,none⟩=some (qh w' (w.heap.size+1) 1)/\w'.cell? ⟨w.heap.size+1,2,none⟩=some (qh w' (w.heap.size+1) 2))/\w'.frozen? ⟨w.heap.size+1,0,none⟩=false/\w'.frozen? ⟨w.heap.size+1,1,none⟩=false/\w'.frozen? ⟨w.heap.size+1,2,none⟩=false) (first|exact⟨bx3 (T:=26) bts,Wk.out3 (T:=26) bts⟩) (first |(go_at_call 189;refine(qJ _ _ (h.num.bl slc) hn).mono ?_;rintro e w4 ⟨s1,A1,n1,c1,rfl,hs1,hO1,hb4⟩;(have hz4:w.heap.size+1<w4.heap.size:=Wk.lt (k:=3) (T:=26) bts)) |(refine ze (w0:=w4) qn Tryz.underlying22 rfl (.tmp 11) (.tmp 13) rfl _ [] (by rfl) (OwL.empty w4 (Nat.le_refl _) (by simp)) ((Bl.refl w4).alloc _) B m d (by rfl) (qu (dig D)) (h.dn.bl slc) (by simp) (by omega) ?_;intro v1 w5 hown hb5 hgr;obtain⟨B1,d1,hv1,ho1⟩:=hown.own (by rw[hl1.out];omega);rw[hl1.out]at hv1 ho1;subst hv1) |(refine ze (w0:=W) qn Tryz.underlying22 rfl (.tmp 11) (.tmp 13) rfl _ [] (by rfl) (((OwL.empty W (Nat.le_refl _) (by simp)).drew).bl hb4) (Bl.next (((Bl.refl W).alloc _).drew) hb4) B m d (by rfl) (qu (dig D)) (h.dn.bl slc) (by simp) (by omega) ?_;intro v1 w5 hown hb5 hgr;obtain⟨B1,d1,hv1,ho1⟩:=hown.own (by rw[hl1.out];omega);rw[hl1.out]at hv1 ho1;subst hv1))
 ·have hz5:w4.heap.size<=w5.heap.size:=Bl.size hb5
  have hr:=(show Wk 3 26 (w.heap.size+1) w5 from bts)
  have hbW:Bl w w5:=slc
  have hO1:=(hO1.mono (show w.heap.size+1+1<=W.drew.heap.size from hzW)).bl hb5
  have ho1:=ho1.mono (show w.heap.size+1+1<=w4.heap.size from hz4)
  rw[List.nil_append]at ho1
  obtain⟨v0,x0⟩:=hr.val_ (i:=0) (by omega)
  obtain⟨v1,x1⟩:=hr.val_ (i:=1) (by omega)
  obtain⟨v2,x2⟩:=hr.val_ (i:=2) (by omega)
  have hg:=hr.lt
  obtain⟨cs4,hB4,hc4⟩:=hr
  have hf0:=hB4.frozen 0
  have hf1:=hB4.frozen 1
  have hf2:=hB4.frozen 2
  go_wp2_with fail
  refine bodyPost_ret (v:=.agg #[.bool s1,.slice A1 n1 c1,.slice B1 m d1]) (by simp[results,Tryz.results287,go_sem,x0,x1,x2]) rfl ⟨_,_,_,_,_,_,_,rfl,⟨?_,?_,?_⟩,slc⟩
  ·rw[hs1.out]
   refine jc (x:=-x) (by omega) λh0=>?_
   rw[hs.out]
   by_cases hx0:x<0
   ·simp[hx0];omega
   ·simp[hx0];omega
  ·show RdI _ A1 n1 c1 (qu (dig (-x).natAbs))
   rw[Int.natAbs_neg]
   exact(((hO1.far (by simp) _).far (by simp) _).far (by simp) _).rd
  ·exact(((ho1.far (by simp) _).far (by simp) _).far (by simp) _).rd
 ·have hr:=(show Wk 3 26 (w.heap.size+1) w5 from hr.bl hb5)
  have hbW:Bl w w5:=hbW.next hb5
  have hO1:=(hO1.grown hgr (by intro k hk;injection hk with hk;subst hk;simp)).mono (show w.heap.size+1+1<=_ by simp;omega)
  have ho1:=ho1.mono (show w.heap.size+1+1<=W.heap.size from hzW)
  rw[List.nil_append]at ho1
  obtain⟨v0,x0⟩:=hr.val_ (i:=0) (by omega)
  obtain⟨v1,x1⟩:=hr.val_ (i:=1) (by omega)
  obtain⟨v2,x2⟩:=hr.val_ (i:=2) (by omega)
  have hg:=hr.lt
  obtain⟨cs4,hB4,hc4⟩:=hr
  have hf0:=hB4.frozen 0
  have hf1:=hB4.frozen 1
  have hf2:=hB4.frozen 2
  go_wp2_with fail
  refine bodyPost_ret (v:=.agg #[.bool s1,.slice A1 n1 c1,.slice B1 m d1]) (by simp[results,Tryz.results287,go_sem,x0,x1,x2]) rfl ⟨_,_,_,_,_,_,_,rfl,⟨?_,?_,?_⟩,slc⟩
  ·rw[hs1.out]
   refine jc (x:=-x) (by omega) λh0=>?_
   rw[hs.out]
   by_cases hx0:x<0
   ·simp[hx0];omega
   ·simp[hx0];omega
  ·show RdI _ A1 n1 c1 (qu (dig (-x).natAbs))
   rw[Int.natAbs_neg]
   exact(((hO1.far (by simp) _).far (by simp) _).far (by simp) _).rd
  ·exact(((ho1.far (by simp) _).far (by simp) _).far (by simp) _).rd
theorem qbT (w:World) (o:Obj) (T:TypeId):IsN ((w.alloc o).alloc (.cells #[.int .i64 1] T)) (some ⟨w.heap.size+1,0,none⟩) 1 1 1:=by
 have hd:dig 1=[1]:=by rw[yn (by omega),show 1 / Bs=0 from by rw[qk],qX];rfl
 have hB:Ow T ((w.alloc o).alloc (.cells #[.int .i64 1] T)) (w.alloc o).heap.size [1]:=heap_alloc_new _ _
 rw[World.size_alloc]at hB
 have:=hB.rd (c:=1) (by decide) (by decide)
 show RdI _ _ _ _ (qu (dig 1))
 rw[hd]
 exact this
theorem QC {x:Int}{s:Bool}{D:Nat}(hs:s=decide (x<0)) (hD:0<D):(s&&decide (0<x.natAbs*D))=decide (x*(D:Int)<0):=by
 refine jc (x:=x*(D:Int)) (by rw[Int.natAbs_mul,Int.natAbs_natCast]) λ_=>?_
 rw[hs]
 refine decide_eq_decide.2 ⟨λh=>Int.mul_neg_of_neg_of_pos h (by omega),λh=>?_⟩
 rcases Int.lt_or_le x 0 with hx|hx
 ·exact hx
 ·have:=Int.mul_nonneg hx (show (0:Int)<=D by omega)
  omega
theorem ZR {x:Int}{s:Bool}{D:Nat}(hD:0<D) (hs:s=decide (x<0)):VR s x.natAbs D=qm x D:=by
 unfold VR
 rw[if_neg (by omega)]
 congr 1
 unfold sx
 rw[hs]
 by_cases h:x<0
 ·simp[h];omega
 ·simp[h];omega
theorem XC (w:World) {s:Bool}{A:Option Addr}{n c:Nat}{B:Option Addr}{m d:Nat}{x:Int}{D:Nat}{s':Bool}{A':Option Addr}{n' c':Nat}{B':Option Addr}{m' d':Nat}{x':Int}{D':Nat}(h:IsR w s A n c B m d x D) (k:IsR w s' A' n' c' B' m' d' x' D') (hn:n<=24) (hn':n'<=24) (h1:D=1) (h1':D'=1) :
  Calls Tryz.prog 143 #[.agg #[.bool s,.slice A n c,.slice B m d],.agg #[.bool s',.slice A' n' c',.slice B' m' d']] w λe w'=>∃s1 A1 n1 c1 B1 m1 d1,e=.returned (.agg #[.bool s1,.slice A1 n1 c1,.slice B1 m1 d1])/\OwR 3 w.heap.size w' s1 A1 n1 c1 B1 m1 d1 (qm (x*D'+x'*D) (D*D'))/\Bl w w':=by
 subst h1 h1'
 have hval:Hid (qm (x*((1:Nat):Int)+x'*((1:Nat):Int)) (1*1)=qm (x+x') 1):=by unfold Hid;simp
 have hlz:=Vu (Nat.le_of_eq h.num.lenN) (Nat.le_of_eq k.num.lenN)
 go_enter Tryz.func143,Tryz.ntmps143
 go_wp2_with fail
 refine qd (λW=>Bl w W/\Blk W (w.heap.size) 26 #[.bool s,.slice A n c,.slice B m d]/\Blk W (w.heap.size+1) 26 #[.bool s',.slice A' n' c',.slice B' m' d']/\Wk 3 26 (w.heap.size+1+1) W) ⟨slc,bts,bts,bts⟩ ?_
 rintro W ⟨hbW,hx,hx',hr⟩
 refine(jX _ (RdI.bl h.dn hbW)).mono ?_
 rintro e w1 ⟨rfl,q1,rfl⟩
 have hb1:Bl W (W.drewN q1):=(Bl.refl W).drewN q1
 have hx:=hx.bl hb1
 have hx':=hx'.bl hb1
 have hr:=hr.bl hb1
 have hbW:=hbW.next hb1
 clear hb1
 obtain⟨i0,i1,i2⟩:=bx3 hx
 obtain⟨j0,j1,j2⟩:=bx3 hx'
 go_wp2_with fail
 refine(jX _ (RdI.bl k.dn hbW)).mono ?_
 rintro e w2 ⟨rfl,q2,rfl⟩
 have hb2:Bl (W.drewN q1) ((W.drewN q1).drewN q2):=(Bl.refl _).drewN q2
 have hx:=hx.bl hb2
 have hx':=hx'.bl hb2
 have hr:=hr.bl hb2
 have hbW:=hbW.next hb2
 clear hb2
 obtain⟨i0,i1,i2⟩:=bx3 hx
 obtain⟨j0,j1,j2⟩:=bx3 hx'
 generalize (W.drewN q1).drewN q2=W2 at *
 go_wp2_with fail
 refine(vu _ (h.b.bl hbW) (k.b.bl hbW) (by omega) (by omega)).mono ?_
 rintro e w3 ⟨s3,A3,n3,c3,rfl,hO3,hb3⟩
 have hx:=hx.bl hb3
 have hx':=hx'.bl hb3
 have hr:=hr.bl hb3
 have hbW:=hbW.next hb3
 clear hb3
 obtain⟨i0,i1,i2⟩:=bx3 hx
 obtain⟨j0,j1,j2⟩:=bx3 hx'
 have hl3:n3<=1048570:=by rw[<-hO3.len];omega
 go_wp2_with fail
 refine qd (λW4=>Bl w W4/\Wk 3 26 (w.heap.size+1+1) W4/\IsB W4 s3 A3 n3 c3 (x+x')/\IsN W4 (some ⟨w3.heap.size+1,0,none⟩) 1 1 1) ⟨slc,bts,hO3.rd.bl slc,qbT _ _ _⟩ ?_
 rintro W4 ⟨hbW,hr,hB3,hone⟩
 refine(QP _ s3 hB3.mg hone hl3 (by omega)).mono ?_
 rintro e w5 ⟨s1,A1,n1,c1,B1,m1,d1,rfl,hR,hb5⟩
 have hR:=hR.mono (show w.heap.size+1+1+1<=W4.heap.size from hr.lt)
 rw[ZR (by omega) hB3.1,<-hval.out]at hR
 have hr:=hr.bl hb5
 have hbW:=hbW.next hb5
 obtain⟨v0,x0⟩:=hr.val_ (i:=0) (by omega)
 obtain⟨v1,x1⟩:=hr.val_ (i:=1) (by omega)
 obtain⟨v2,x2⟩:=hr.val_ (i:=2) (by omega)
 have hg:=hr.lt
 obtain⟨cs4,hB4,hc4⟩:=hr
 have hf0:=hB4.frozen 0
 have hf1:=hB4.frozen 1
 have hf2:=hB4.frozen 2
 go_wp2_with fail
 exact bodyPost_ret (v:=.agg #[.bool s1,.slice A1 n1 c1,.slice B1 m1 d1]) (by simp[results,Tryz.results143,go_sem,x0,x1,x2]) rfl ⟨_,_,_,_,_,_,_,rfl,(((hR.far (by simp) _).far (by simp) _).far (by simp) _).mono (by omega),slc⟩
end Go.Proofs.YtjaapemopbbfaaaGreatDoor
