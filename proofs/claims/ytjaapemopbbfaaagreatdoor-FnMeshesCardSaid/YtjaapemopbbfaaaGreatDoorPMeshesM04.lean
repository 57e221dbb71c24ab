import Derived.Test.YtjaapemopbbfaaaGreatDoorPMeshesM03
namespace Go.Proofs.YtjaapemopbbfaaaGreatDoor
open Go.RowKit
set_option maxRecDepth 100000
set_option maxHeartbeats 8000000
theorem Kx (a:Int) (w:World) :
  Calls Tryz.prog 222 #[.int .i64 a] w λe w'=>e=.returned (.bool false)/\∃q,w'=w.drewN q:=by
 go_enter Tryz.func222,Tryz.ntmps222
 go_wp2
 go_ret
 exact⟨by simp,0,rfl⟩
def je (a b:Int):Int:=if a<b then -1 else if b<a then 1 else 0
theorem Yy (a b:Int) (w:World) :
  Calls Tryz.prog 170 #[.int .i64 a,.int .i64 b] w λe w'=>e=.returned (.int .i64 (je a b))/\∃q,w'=w.drewN q:=by
 unfold je
 go_enter Tryz.func170,Tryz.ntmps170
 go_wp2_with (go_at_call 222;refine(Kx _ _).mono ?_;rintro e w' ⟨rfl,_,rfl⟩)
 all_goals (go_ret;exact⟨by simp[*],_,rfl⟩)
theorem Qi {a b:Int}(h:a<b):je a b=-1:=if_pos h
theorem Zm {a b:Int}(h:b<a):je a b=1:=by unfold je;rw[if_neg (by omega),if_pos h]
theorem qcn {a b:Int}(h:a=b):je a b=0:=by unfold je;rw[if_neg (by omega),if_neg (by omega)]
theorem kP {N M n m:Nat}(hn:(dig N).length=n) (hm:(dig M).length=m) (h:n≠m):je (n:Int) (m:Int)=je (N:Int) (M:Int):=by
 rcases Nat.lt_or_ge n m with hlt|hge
 ·have:N < M:=by
   rcases Nat.lt_or_ge N M with h1|h1
   ·exact h1
   ·have:=qE h1;omega
  rw[Qi (by omega),Qi (by omega)]
 ·have:M < N:=by
   rcases Nat.lt_or_ge M N with h1|h1
   ·exact h1
   ·have:=qE h1;omega
  rw[Zm (by omega),Zm (by omega)]
theorem qbn {f g:Nat->Nat}{k m:Nat}(hf:∀i,f i<Bs) (_hg:∀i,g i<Bs) (ha:∀j,k+1<=j->f j=g j) (h:f k<g k):vf f (k+1+m)<vf g (k+1+m):=by
 rw[JR f (k+1) m,JR g (k+1) m,show vf (λi=>f (k+1+i)) m=vf (λi=>g (k+1+i)) m from jW λi _=>ha _ (by omega)]
 have h1:=Q3 (f:=f) (k:=k) λi _=>hf i
 have h2:(f k+1)*Bs ^ k<=g k*Bs ^ k:=Nat.mul_le_mul_right _ h
 rw[Nat.add_mul]at h2
 simp only[vf]
 omega
theorem YJ {N M n k:Nat}(hn:(dig N).length=n) (hm:(dig M).length=n) (hk:k<n) (ha:∀j,k+1<=j->dx (dig N) j=dx (dig M) j) (h:dx (dig N) k≠dx (dig M) k):je (dx (dig N) k:Int) (dx (dig M) k:Int)=je (N:Int) (M:Int):=by
 obtain⟨m,rfl⟩:∃m,n=k+1+m:=⟨n-(k+1),by omega⟩
 have e1:vf (dx (dig N)) (k+1+m)=N:=by rw[qW (by omega),qB]
 have e2:vf (dx (dig M)) (k+1+m)=M:=by rw[qW (by omega),qB]
 rcases Nat.lt_or_ge (dx (dig N) k) (dx (dig M) k)with hlt|hge
 ·have:=qbn (m:=m) (qI (qs N)) (qI (qs M)) ha hlt
  rw[Qi (by omega),Qi (by omega)]
 ·have:=qbn (m:=m) (qI (qs M)) (qI (qs N)) (λj hj=>(ha j hj).symm) (show dx (dig M) k<dx (dig N) k by omega)
  rw[Zm (by omega),Zm (by omega)]
theorem Ua {N M n:Nat}(hn:(dig N).length=n) (hm:(dig M).length=n) (ha:∀j,0<=j->dx (dig N) j=dx (dig M) j):0=je (N:Int) (M:Int):=by
 have e1:vf (dx (dig N)) n=N:=by rw[qW (by omega),qB]
 have e2:vf (dx (dig M)) n=M:=by rw[qW (by omega),qB]
 have:vf (dx (dig N)) n=vf (dx (dig M)) n:=jW λi _=>ha i (Nat.zero_le _)
 exact(qcn (by omega)).symm
theorem jt (w:World) {A B:Option Addr}{n m c d N M:Nat}(ha:IsN w A n c N) (hb:IsN w B m d M) (hn:n<=2097152) (hm:m<=2097152) :
  Calls Tryz.prog 196 #[.slice A n c,.slice B m d] w λe w'=>e=.returned (.int .i64 (je N M))/\∃q,w'=w.drewN q:=by
 have hnl:=Lib.hid ha.lenN
 have hml:=Lib.hid hb.lenN
 by_cases hnm:n=m
 ·subst hnm
  go_enter Tryz.func196,Tryz.ntmps196
  go_wp2
  go_loopw [5] (λi wr=>∃k:Nat,k<=n/\i=.int .i64 ((k:Int)-1)/\Hid (∀j,k<=j->dx (dig N) j=dx (dig M) j)/\∃q,wr=w.drewN q) (λi _=>(intOf i+1).toNat)
  case atStart=>exact⟨n,Nat.le_refl _,rfl,λj hj=>by rw[qP (by rw[hnl.out];exact hj),qP (by rw[hml.out];exact hj)],0,rfl⟩
  case round=>
   obtain⟨k,hk,rfl,heq,q,rfl⟩:=hrel
   rcases k with _|k
   ·go_wp2
    go_ret
    exact⟨zb (Ua hnl.out hml.out heq.out),q,rfl⟩
   ·have hkn:k<n:=hk
    obtain⟨ad,rfl,hlta,hca⟩:=ha.atN (k:=k) (by omega)
    obtain⟨bd,rfl,hltb,hcb⟩:=hb.atN (k:=k) (by omega)
    rw[show (((k+1:Nat):Int)-1)=(k:Int)from by omega]
    by_cases he:dx (dig N) k=dx (dig M) k
    ·have hs:Hid (∀j,k<=j->dx (dig N) j=dx (dig M) j):=λj hj=>by
      rcases Nat.eq_or_lt_of_le hj with rfl|hlt
      ·exact he
      ·exact heq.out j hlt
     clear heq
     have hbeq:((dx (dig N) k:Int) != (dx (dig M) k:Int))=false:=by simp[he]
     clear he
     go_wp2
     go_quiet (fail)
     go_wp2
     go_roundw
     case rel=>exact⟨k,by omega,rfl,hs,_,rfl⟩
     case measure=>simp[intOf]
    ·have hs:=Lib.hid (YJ hnl.out hml.out hkn heq.out he);clear heq
     have hbeq:((dx (dig N) k:Int) != (dx (dig M) k:Int))=true:=by simp;omega
     clear he
     go_wp2
     go_quiet (fail)
     go_wp2
     go_quiet ((go_at_call 170;exact kQ (Yy _ _ _)))
     go_wp2
     go_ret
     exact⟨zb hs.out,qf (qf ⟨_,rfl⟩)⟩
 ·have heq:=Lib.hid (kP hnl.out hml.out hnm)
  have hne:((n:Int) != (m:Int))=true:=by simp;omega
  go_enter Tryz.func196,Tryz.ntmps196
  go_wp2_with (go_at_call 170;refine(Yy _ _ _).mono ?_;rintro e w' ⟨rfl,_,rfl⟩)
  go_ret
  exact⟨zb heq.out,_,rfl⟩
structure Qt (N d n k r:Nat) (o:List Nat):Prop where
 len:o.length=n
 digs:jL o
 small:r<d
 sum:val o*d+r*Bs ^ k+vf (dx (dig N)) k=N
 rest:∀j,j<k->dx o j=0
theorem Qt.start {N d n:Nat}(h:(dig N).length=n) (hd:0<d):Qt N d n n 0 (List.replicate n 0) :=
 ⟨by simp,zV _,hd,by rw[jT,qW (by omega),qB];omega,λj _=>yw _ _⟩
theorem Vh {r d a:Nat}(hr:r<d) (ha:a<Bs):(r*Bs+a) / d<Bs:=by
 rw[Nat.div_lt_iff_lt_mul (by omega)]
 have:=Nat.mul_le_mul_right Bs (show r+1<=d by omega)
 rw[Nat.add_mul]at this
 rw[Nat.mul_comm Bs d]
 omega
theorem Qt.step {N d n k r:Nat}{o:List Nat}(h:Qt N d n (k+1) r o) (hk:k<n) :
  Qt N d n k ((r*Bs+dx (dig N) k) % d) (o.set k ((r*Bs+dx (dig N) k) / d)):=by
 have hi:k<o.length:=by rw[h.len];exact hk
 have hd0:0<d:=by have:=h.small;omega
 refine⟨by rw[List.length_set];exact h.len,jB h.digs (Vh h.small (qI (qs N) k)) _,Nat.mod_lt _ hd0,?_,λj hj=>?_⟩
 ·have h1:=Yb hi ((r*Bs+dx (dig N) k) / d)
  rw[h.rest k (by omega)]at h1
  have h2:=h.sum
  have h3:=Nat.mod_add_div (r*Bs+dx (dig N) k) d
  simp only[vf]at h2
  rw[Nat.pow_succ]at h2
  generalize (r*Bs+dx (dig N) k) % d=s at *
  generalize (r*Bs+dx (dig N) k) / d=q at *
  have h4:(s+d*q)*Bs ^ k=(r*Bs+dx (dig N) k)*Bs ^ k:=by rw[h3]
  grind
 ·rw[jj hi,if_neg (by omega)]
  exact h.rest j (by omega)
theorem Qt.stop {N d n r:Nat}{o:List Nat}(h:Qt N d n 0 r o):val o=N / d/\r=N % d:=by
 have h1:=h.sum
 have h2:=h.small
 simp only[vf,Nat.pow_zero,Nat.mul_one,Nat.add_zero]at h1
 have h3:N / d=val o:=by
  rw[<-h1,Nat.mul_comm,Nat.mul_add_div (by omega),Nat.div_eq_of_lt h2];omega
 have h4:N % d=r:=by
  rw[<-h1,Nat.mul_comm,Nat.mul_add_mod,Nat.mod_eq_of_lt h2]
 exact⟨h3.symm,h4.symm⟩
theorem Jy (w:World) {A:Option Addr}{n c N d:Nat}(ha:IsN w A n c N) (hn:n<=1048576) (hd0:0<d) (hdB:d<1000000000) :
  Calls Tryz.prog 197 #[.slice A n c,.int .i64 (d:Int)] w λe w'=>∃A' n' c',e=.returned (.tuple #[.slice A' n' c',.int .i64 ((N % d:Nat):Int)])/\OwI 3 w.heap.size w' A' n' c' (qu (dig (N / d)))/\Bl w w':=by
 have hmk:=ji (P:=Tryz.prog) Tryz.underlying22 qn n n (Nat.le_refl _) (by omega)
 go_enter Tryz.func197,Tryz.ntmps197
 go_wp2_with fail
 clear hmk
 go_loopw [7,8] (λrv i wr=>∃(k r:Nat) (o:List Nat),k<=n/\i=.int .i64 ((k:Int)-1)/\rv=.int .i64 (r:Int)/\Qt N d n k r o/\Ow 3 wr w.heap.size (qu o)/\Bl w wr) (λ_ i _=>(intOf i+1).toNat)
 case atStart=>exact⟨n,0,List.replicate n 0,Nat.le_refl _,rfl,rfl,Qt.start ha.lenN hd0,by rw[zi];exact Ow.mk w n,(Bl.refl w).alloc _⟩
 case round=>
  obtain⟨k,r,o,hk,rfl,rfl,hrel,hO,hbw⟩:=hrel
  rcases k with _|k
  ·have hv:=Lib.hid hrel.stop
   have hlen:=hrel.len
   have hdg:=hrel.digs
   clear hrel
   go_wp2_with fail
   refine(zQ _ (l:=o) (RdI.of_ow hO (by rw[qg];exact hlen) (by omega)) hdg).mono ?_
   rintro e w1 ⟨m',rfl,hm',ht,hq⟩
   rw[hv.out.1]at ht
   have hO1:=(OwI.of_ow (c:=n) hO (Nat.le_refl _) (by rw[qg];exact hlen) (by omega) hm' ht).q hq
   have hbw1:=hbw.next (vV hq)
   go_wp2_with fail
   go_ret2
   exact⟨_,_,_,by rw[<-hv.out.2];rfl,hO1,hbw1⟩
  ·obtain⟨ad,rfl,hlta,hca⟩:=(ha.bl hbw).atN (k:=k) (by omega)
   have hki:(k:Int)<(n:Int):=by omega
   have hkn:k<n:=by omega
   rw[show (((k+1:Nat):Int)-1)=(k:Int)from by omega]
   have hcell:=hO.cell (k:=k) (by rw[qg,hrel.len];omega)
   rw[zN]at hcell
   have hfr:=hO.frozen k
   have bx:=qI (qs N) k
   have hq:=Vh hrel.small bx
   rw[qk]at bx
   have hr:=hrel.small
   have hst:=hrel.step hkn
   have hO1:=hO.set k (((r*Bs+dx (dig N) k) / d:Nat):Int)
   rw[<-qL]at hO1
   generalize dx (dig N) k=x at *
   have e1:((((r*Bs+x) / d:Nat):Int))=((r:Int)*1000000000+(x:Int)) / (d:Int):=by rw[qk];simp
   have e2:((((r*Bs+x) % d:Nat):Int))=((r:Int)*1000000000+(x:Int)) % (d:Int):=by rw[qk];simp
   rw[e1]at hO1
   have e2:=Lib.hid e2;rename_i e2o;clear e2o e1 hq
   go_wp2_with fail
   go_roundw
   case rel=>exact⟨k,_,_,by omega,rfl,by rw[e2.out],hst,hO1,hbw.set (Nat.le_refl _) _⟩
   case measure=>simp[intOf]
structure VN (N b n k c:Nat) (o:List Nat):Prop where
 len:o.length=n
 digs:jL o
 small:c<Bs
 sum:vf (dx o) k+c*Bs ^ k=b*vf (dx (dig N)) k
theorem VN.start (N b n:Nat):VN N b n 0 0 (List.replicate n 0):=⟨by simp,zV _,zj,by simp[vf]⟩
theorem VN.step {N b n k c:Nat}{o:List Nat}(h:VN N b n k c o) (hk:k<n) (hb:b<Bs) :
  VN N b n (k+1) ((c+dx (dig N) k*b) / Bs) (o.set k ((c+dx (dig N) k*b) % Bs)):=by
 have hi:k<o.length:=by rw[h.len];exact hk
 refine⟨by rw[List.length_set];exact h.len,jB h.digs (Nat.mod_lt _ zj) _,?_,?_⟩
 ·have:=xE (z:=0) zj (qI (qs N) k) hb h.small
  rw[Nat.zero_add,Nat.add_comm]at this
  exact this
 ·have h1:vf (dx (o.set k ((c+dx (dig N) k*b) % Bs))) k=vf (dx o) k:=jW λi hi'=>by rw[jj hi,if_neg (by omega)]
  have h2:=h.sum
  have h3:=Nat.mod_add_div (c+dx (dig N) k*b) Bs
  simp only[vf]
  rw[h1,jj hi,if_pos rfl,Nat.pow_succ]
  generalize (c+dx (dig N) k*b) % Bs=s at *
  generalize (c+dx (dig N) k*b) / Bs=q at *
  have h4:(s+Bs*q)*Bs ^ k=(c+dx (dig N) k*b)*Bs ^ k:=by rw[h3]
  grind
theorem VN.stop {N b n c:Nat}{o:List Nat}(h:VN N b n n c o) (hn:(dig N).length<=n) (hlt:b*N<Bs ^ n):val o=b*N:=by
 have h1:=h.sum
 rw[qW (by rw[h.len];exact Nat.le_refl _),qW hn,qB]at h1
 rcases Nat.eq_zero_or_pos c with h0|h0
 ·subst h0;omega
 ·have:=Nat.mul_le_mul_right (Bs ^ n) h0
  omega
theorem vz (w:World) {A:Option Addr}{n c N b s:Nat}(ha:IsN w A n c N) (hs:s<=1048577) (hb:b<1000000000) (hn:n<=s) (hlt:b*N<Bs ^ s) :
  Calls Tryz.prog 198 #[.slice A n c,.int .i64 (b:Int),.int .i64 (s:Int)] w λe w'=>∃g o,e=.returned (.slice (some ⟨g,0,none⟩) s s)/\w.heap.size<=g/\Ow 3 w' g (qu o)/\o.length=s/\jL o/\val o=b*N/\Bl w w':=by
 have hmk:=ji (P:=Tryz.prog) Tryz.underlying22 qn s s (Nat.le_refl _) (by omega)
 go_enter Tryz.func198,Tryz.ntmps198
 go_wp2_with fail
 clear hmk
 go_loopw [8,15] (λcv i wr=>∃(k c1:Nat) (o:List Nat),k<=s/\i=.int .i64 (k:Int)/\cv=.int .i64 (c1:Int)/\VN N b s k c1 o/\Ow 3 wr w.heap.size (qu o)/\Bl w wr) (λ_ i _=>s-(intOf i).toNat)
 case atStart=>exact⟨0,0,List.replicate s 0,Nat.zero_le _,rfl,rfl,VN.start _ _ _,by rw[zi];exact Ow.mk w s,(Bl.refl w).alloc _⟩
 case round=>
  obtain⟨k,c1,o,hk,rfl,rfl,hrel,hO,hbw⟩:=hrel
  by_cases hks:k<s
  ·have hki:(k:Int)<(s:Int):=by omega
   have hcell:=hO.cell (k:=k) (by rw[qg,hrel.len];exact hks)
   rw[zN]at hcell
   have hfr:=hO.frozen k
   have bx:=qI (qs N) k
   rw[qk]at bx
   have hc1:=hrel.small
   rw[qk]at hc1
   have hst:=hrel.step hks (by rw[qk];exact hb)
   have hO1:=hO.set k (((c1+dx (dig N) k*b) % Bs:Nat):Int)
   rw[<-qL]at hO1
   by_cases hkn:k<n
   ·obtain⟨ad,rfl,hlta,hca⟩:=(ha.bl hbw).atN hkn
    have hkj:(k:Int)<(n:Int):=by omega
    generalize dx (dig N) k=x at *
    have hxy0:(0:Int)<=(x:Int)*(b:Int):=by exact_mod_cast Nat.zero_le (x*b)
    have hxy:(x:Int) * (b:Int)<=999999998000000001:=by
     have:x*b<=999999999*999999999:=Nat.mul_le_mul (by omega) (by omega)
     have h2:((x*b:Nat):Int)<=999999998000000001:=by omega
     rwa [Int.natCast_mul]at h2
    have e1:((((c1+x*b) % Bs:Nat):Int))=((c1:Int)+(x:Int)*(b:Int)) % 1000000000:=by rw[qk,<-Int.natCast_mul];omega
    have e2:((((c1+x*b) / Bs:Nat):Int))=((c1:Int)+(x:Int)*(b:Int)) / 1000000000:=by rw[qk,<-Int.natCast_mul];omega
    rw[e1]at hO1
    have e2:=Lib.hid e2;rename_i e2o;clear e2o e1
    go_wp2_with fail
    go_roundw
    case rel=>exact⟨k+1,_,_,by omega,by go_num,by rw[e2.out],hst,hO1,hbw.set (Nat.le_refl _) _⟩
    case measure=>simp[intOf];omega
   ·have hz:dx (dig N) k=0:=qP (by rw[ha.lenN];omega)
    have hkj:¬(k:Int)<(n:Int):=by omega
    simp only[hz,Nat.zero_mul,Nat.add_zero]at hst hO1
    clear hz bx
    have e1:(((c1 % Bs:Nat):Int))=(c1:Int) % 1000000000:=by rw[qk];omega
    have e2:(((c1 / Bs:Nat):Int))=(c1:Int) / 1000000000:=by rw[qk];omega
    rw[e1]at hO1
    have e2:=Lib.hid e2;rename_i e2o;clear e2o e1
    go_wp2_with fail
    go_roundw
    case rel=>exact⟨k+1,_,_,by omega,by go_num,by rw[e2.out],hst,hO1,hbw.set (Nat.le_refl _) _⟩
    case measure=>simp[intOf];omega
  ·obtain rfl:k=s:=by omega
   have hv:=hrel.stop (by rw[ha.lenN];omega) hlt
   have hv:=Lib.hid hv;rename_i hvo;clear hvo
   have hl:=Lib.hid hrel.len
   have hdg:=hrel.digs
   go_wp2_with fail
   go_ret
   exact⟨_,o,rfl,Nat.le_refl _,hO,hl.out,hdg,hv.out,hbw⟩
def Og (g:Nat) (w w':World):Prop:=w.grownBy w' (some g)
section
variable {T:TypeId}{g g2:Nat}{w W w0:World}{l:List Int}
theorem Og.refl (g:Nat) (w:World):Og g w w:=World.grownBy.refl w _
theorem Og.set (h:Og g w W) (off:Nat) (u:Value):Og g w (W.setCell ⟨g,off,none⟩ u) :=
 ⟨h.os,h.tape,h.output,by simpa [World.setCell]using h.size,λk hk hne=>(Below.heap_setCell W _ u k (by intro e;exact hne (by rw[e]))).trans (h.block k hk hne)⟩
theorem Ow.og (h:Ow T w g2 l) (hne:g2≠g) (ho:Og g w W):Ow T W g2 l:=(ho.block g2 h.lt (by intro e;injection e with e;exact hne e)).trans h
theorem Bl.og (h:Bl w0 w) (ho:Og g w W) (hg:w0.heap.size<=g):Bl w0 W:=h.grown ho (λk hk=>by injection hk with hk;omega)
end
structure Vr (us v:List Nat) (off b k bw:Nat) (o:List Nat):Prop where
 len:o.length=us.length
 digs:jL o
 small:bw<Bs
 diff:vf (λi=>dx o (off+i)) k+b*vf (dx v) k=vf (λi=>dx us (off+i)) k+bw*Bs ^ k
 same:∀j,(j<off\/off+k<=j)->dx o j=dx us j
theorem Vr.start {us v:List Nat}(off b:Nat) (h:jL us):Vr us v off b 0 0 us:=⟨rfl,h,zj,by simp[vf],λ_ _=>rfl⟩
theorem Vr.step {us v o:List Nat}{off b k bw d bw':Nat}(h:Vr us v off b k bw o) (hk:off+k<us.length) (hd:d<Bs) (hb:bw' < Bs) (he:d+bw+dx v k*b=dx us (off+k)+bw'*Bs) :
  Vr us v off b (k+1) bw' (o.set (off+k) d):=by
 have hi:off+k<o.length:=by rw[h.len];exact hk
 refine⟨by rw[List.length_set];exact h.len,jB h.digs hd _,hb,?_,λj hj=>?_⟩
 ·have h1:vf (λi=>dx (o.set (off+k) d) (off+i)) k=vf (λi=>dx o (off+i)) k:=jW λi hi'=>by rw[jj hi,if_neg (by omega)]
  have h2:=h.diff
  simp only[vf]
  rw[h1,jj hi,if_pos rfl,Nat.pow_succ]
  have h3:(d+bw+dx v k*b)*Bs ^ k=(dx us (off+k)+bw'*Bs)*Bs ^ k:=by rw[he]
  grind
 ·rw[jj hi,if_neg (by omega)]
  exact h.same j (by omega)
theorem qcQ {z bw p:Nat}(h:bw+p<=z) (hz:z<Bs):z-bw-p<Bs/\(z-bw-p)+bw+p=z+0*Bs:=by omega
theorem qdC {z bw x b:Nat}(hz:z<Bs) (hw:bw<Bs) (hx:x<Bs) (hb:b<Bs) (h:z<bw+x*b) :
  (bw+x*b-z+Bs-1) / Bs<Bs/\z+((bw+x*b-z+Bs-1) / Bs)*Bs-(bw+x*b)<Bs /\
  (z+((bw+x*b-z+Bs-1) / Bs)*Bs-(bw+x*b))+bw+x*b=z+((bw+x*b-z+Bs-1) / Bs)*Bs:=by
 have hp:x*b<=(Bs-1)*(Bs-1):=Nat.mul_le_mul (by omega) (by omega)
 generalize x*b=p at *
 have h1:=Nat.mod_add_div (bw+p-z+Bs-1) Bs
 have h2:=Nat.mod_lt (bw+p-z+Bs-1) zj
 have h3:(bw+p - z+Bs - 1) / Bs < Bs:=by
  rw[Nat.div_lt_iff_lt_mul zj]
  rw[qk]at *
  omega
 rw[qk]at *
 omega
theorem qbO {z bw x b:Nat}(h:(z:Int)-(bw:Int)-(x:Int)*(b:Int)<0):(((bw+x*b-z+Bs-1) / Bs:Nat):Int)=(-((z:Int)-(bw:Int)-(x:Int)*(b:Int))+1000000000-1) / 1000000000:=by
 rw[<-Int.natCast_mul]at *
 rw[qk]
 generalize x*b=p at *
 omega
theorem qaq {z bw x b q:Nat}(h:bw+x*b<=z+q*Bs):((z+q*Bs-(bw+x*b):Nat):Int)=(z:Int)-(bw:Int)-(x:Int)*(b:Int)+(q:Int)*1000000000:=by
 rw[<-Int.natCast_mul]
 rw[qk]at *
 generalize x*b=p at *
 omega
theorem qaO {z bw x b:Nat}(h:¬(z:Int)-(bw:Int)-(x:Int)*(b:Int)<0):bw+x*b<=z/\((z-bw-x*b:Nat):Int)=(z:Int)-(bw:Int)-(x:Int)*(b:Int):=by
 rw[<-Int.natCast_mul]at *
 generalize x*b=p at *
 omega
theorem qem {z bw x b:Nat}(h:(z:Int)-(bw:Int)-(x:Int)*(b:Int)<0):z<bw+x*b:=by
 rw[<-Int.natCast_mul]at h
 generalize x*b=p at *
 omega
theorem Vr.stop {us v o:List Nat}{off b n bw d r:Nat}(h:Vr us v off b n bw o) (hv:v.length=n) (hk:off+n<us.length) (he:d+bw=dx us (off+n)+r*Bs) :
  vf (λi=>dx (o.set (off+n) d) (off+i)) (n+1)+b*val v=vf (λi=>dx us (off+i)) (n+1)+r*Bs ^ (n+1):=by
 have hi:off+n<o.length:=by rw[h.len];exact hk
 have h1:vf (λi=>dx (o.set (off+n) d) (off+i)) n=vf (λi=>dx o (off+i)) n:=jW λi hi'=>by rw[jj hi,if_neg (by omega)]
 have h2:=h.diff
 rw[qW (by omega)]at h2
 simp only[vf]
 rw[h1,jj hi,if_pos rfl,Nat.pow_succ]
 have h3:(d+bw)*Bs ^ n=(dx us (off+n)+r*Bs)*Bs ^ n:=by rw[he]
 rw[Nat.add_mul,Nat.add_mul]at h3
 have h4:r*(Bs ^ n*Bs)=r*Bs*Bs ^ n:=by rw[Nat.mul_comm (Bs ^ n) Bs,Nat.mul_assoc]
 omega
def qcf (T:TypeId) (w:World) (g off n b:Nat) (us v:List Nat) (e:Ending) (w':World):Prop :=
 ∃ (r : Nat) (o : List Nat), e = .returned (.int .i64 (r : Int)) /\ r <= 1 /\ Ow T w' g (qu o) /\ o.length = us.length /\ jL o /\
   vf (λi=>dx o (off+i)) (n+1)+b*val v=vf (λi=>dx us (off+i)) (n+1)+r*Bs ^ (n+1)/\(∀j,(j<off\/off+n<j)->dx o j=dx us j)/\Og g w w'
theorem yv (w:World) {g off c g2 n d b:Nat}{us v:List Nat}(hO:Ow 3 w g (qu us)) (hV:Ow 3 w g2 (qu v)) (hne:g2≠g) (hdu:jL us) (hdv:jL v) (hn:v.length=n) (hoff:off+(n+1)<=us.length)
  (hs:us.length<=2097152) (hb:b<1000000000) :
  Calls Tryz.prog 199 #[.slice (some ⟨g,off,none⟩) (n+1) c,.slice (some ⟨g2,0,none⟩) n d,.int .i64 (b:Int)] w (qcf 3 w g off n b us v):=by
 have hn:=Lib.hid hn;rename_i hno
 have hnb:n<=2097152:=by omega
 clear hno
 go_enter Tryz.func199,Tryz.ntmps199
 go_wp2_with fail
 go_loopw [7,14] (λcv i wr=>∃(k bw:Nat) (o:List Nat),k<=n/\i=.int .i64 (k:Int)/\cv=.int .i64 (bw:Int)/\Vr us v off b k bw o/\Ow 3 wr g (qu o)/\Og g w wr) (λ_ i _=>n-(intOf i).toNat)
 case atStart=>exact⟨0,0,us,Nat.zero_le _,rfl,rfl,Vr.start off b hdu,hO,Og.refl _ _⟩
 case round=>
  clear hO
  obtain⟨k,bw,o,hk,rfl,rfl,hrel,hO,hog⟩:=hrel
  by_cases hkn:k<n
  ·have hki:(k:Int)<(n:Int):=by omega
   have hki1:(k:Int)<(n:Int)+1:=by omega
   have hcell:=hO.cell (k:=off+k) (by rw[qg,hrel.len];omega)
   rw[zN,hrel.same _ (.inr (Nat.le_refl _))]at hcell
   have hfr:=hO.frozen (off+k)
   have hV1:=(hV.og hne hog).cell (k:=k) (by rw[qg,hn.out];exact hkn)
   rw[zN]at hV1
   have bx:=qI hdv k
   have bz:=qI hdu (off+k)
   have hw:=hrel.small
   have hst:=λd' bw' h1 h2 h3=>hrel.step (d:=d') (bw':=bw') (by omega) h1 h2 h3
   have hsp:=λh=>qcQ (z:=dx us (off+k)) (bw:=bw) (p:=dx v k*b) h bz
   have hsn:=λh=>qdC (z:=dx us (off+k)) (bw:=bw) (x:=dx v k) (b:=b) bz hw bx (by rw[qk];exact hb) h
   rw[qk]at bx bz hw
   generalize dx v k=x at *
   generalize dx us (off+k)=z at *
   have hxy0:(0:Int)<=(x:Int)*(b:Int):=by exact_mod_cast Nat.zero_le (x*b)
   have hxyn:((x*b:Nat):Int)=(x:Int)*(b:Int):=Int.natCast_mul _ _
   have hxy:(x:Int) * (b:Int)<=999999998000000001:=by
    have:x*b<=999999999*999999999:=Nat.mul_le_mul (by omega) (by omega)
    have h2:((x*b:Nat):Int)<=999999998000000001:=by omega
    rwa [Int.natCast_mul]at h2
   have hxyn:=Lib.hid hxyn;rename_i hxo;clear hxo
   have hsp:=Lib.hid hsp;rename_i hspo;clear hspo
   have hsn:=Lib.hid hsn;rename_i hsno;clear hsno
   have hst:=Lib.hid hst;rename_i hsto;clear hsto
   by_cases hneg:(z:Int)-(bw:Int)-(x:Int)*(b:Int)<0
   ·have hlt:=qem hneg
    obtain⟨q1,q2,q3⟩:=hsn.out hlt
    have hs1:=hst.out _ _ q2 q1 q3
    have e1:=qbO hneg
    have e2:=qaq (z:=z) (bw:=bw) (x:=x) (b:=b) (q:=(bw+x*b-z+Bs-1) / Bs) (by omega)
    rw[e1]at e2
    have hO1:=hO.set (off+k) ((z+((bw+x*b-z+Bs-1) / Bs)*Bs-(bw+x*b):Nat):Int)
    rw[<-qL,e2]at hO1
    have e1:=Lib.hid e1;rename_i e1o;clear e1o e2 q1 q2 q3 hlt
    have hs1:=Lib.hid hs1;rename_i hs1o;clear hs1o
    go_wp2_with fail
    go_roundw
    case rel=>exact⟨k+1,_,_,by omega,by go_num,by rw[e1.out],hs1.out,hO1,hog.set _ _⟩
    case measure=>simp[intOf];omega
   ·obtain⟨hle,e2⟩:=qaO hneg
    obtain⟨q1,q2⟩:=hsp.out hle
    have hs1:=hst.out _ 0 q1 zj q2
    have hO1:=hO.set (off+k) ((z-bw-x*b:Nat):Int)
    rw[<-qL,e2]at hO1
    clear e2 hle q1 q2
    go_wp2_with fail
    go_roundw
    case rel=>exact⟨k+1,0,_,by omega,by go_num,rfl,hs1,hO1,hog.set _ _⟩
    case measure=>simp[intOf];omega
  ·obtain rfl:k=n:=by omega
   have hcell:=hO.cell (k:=off+k) (by rw[qg,hrel.len];omega)
   rw[zN,hrel.same _ (.inr (Nat.le_refl _))]at hcell
   have hfr:=hO.frozen (off+k)
   have bz:=qI hdu (off+k)
   have hw:=hrel.small
   have hki1:(k:Int)<(k:Int)+1:=by omega
   have hst:=λd r h=>hrel.stop (d:=d) (r:=r) hn.out (by omega) h
   have hsm:=λd=>jB hrel.digs (v:=d)
   have hfar:∀d j,(j<off\/off+k<j)->dx (o.set (off+k) d) j=dx us j:=λd j hj=>by
    rw[jj (by rw[hrel.len];omega),if_neg (by omega)]
    exact hrel.same j (by omega)
   have hlo:=hrel.len
   rw[qk]at bz hw
   generalize dx us (off+k)=z at *
   have hst:=Lib.hid hst;rename_i hsto;clear hsto
   have hsm:=Lib.hid hsm;rename_i hsmo;clear hsmo
   have hfar:=Lib.hid hfar;rename_i hfaro;clear hfaro
   have hlo:=Lib.hid hlo;rename_i hloo;clear hloo
   by_cases hneg:(z:Int)-(bw:Int)<0
   ·have hd:((z+Bs-bw:Nat):Int)=(z:Int)-(bw:Int)+1000000000:=by rw[qk];omega
    have hO1:=(hO.set (off+k) ((z:Int)-(bw:Int))).set (off+k) ((z:Int)-(bw:Int)+1000000000)
    rw[List.set_set,show (qu o).set (off+k) ((z:Int)-(bw:Int)+1000000000)=qu (o.set (off+k) (z+Bs-bw))from by rw[qL,hd]]at hO1
    have h1:=Lib.hid (hst.out (z+Bs-bw) 1 (by rw[qk];omega))
    have h2:=Lib.hid (hsm.out (z+Bs-bw) (by rw[qk];omega) (off+k))
    clear hd
    go_wp2_with fail
    go_ret
    exact⟨1,_,rfl,by omega,hO1,by rw[List.length_set];exact hlo.out,h2.out,h1.out,hfar.out _,(hog.set _ _).set _ _⟩
   ·have hd:((z-bw:Nat):Int)=(z:Int)-(bw:Int):=by omega
    have hO1:=hO.set (off+k) ((z:Int)-(bw:Int))
    rw[show (qu o).set (off+k) ((z:Int)-(bw:Int))=qu (o.set (off+k) (z-bw))from by rw[qL,hd]]at hO1
    have h1:=Lib.hid (hst.out (z-bw) 0 (by omega))
    have h2:=Lib.hid (hsm.out (z-bw) (by rw[qk];omega) (off+k))
    clear hd
    go_wp2_with fail
    go_ret
    exact⟨0,_,rfl,by omega,hO1,by rw[List.length_set];exact hlo.out,h2.out,h1.out,hfar.out _,hog.set _ _⟩
structure XA (us v:List Nat) (off k c:Nat) (o:List Nat):Prop where
 len:o.length=us.length
 digs:jL o
 small:c<=1
 sum:vf (λi=>dx o (off+i)) k+c*Bs ^ k=vf (λi=>dx us (off+i)) k+vf (dx v) k
 same:∀j,(j<off\/off+k<=j)->dx o j=dx us j
theorem XA.start {us v:List Nat}(off:Nat) (h:jL us):XA us v off 0 0 us:=⟨rfl,h,by omega,by simp[vf],λ_ _=>rfl⟩
theorem XA.step {us v o:List Nat}{off k c:Nat}(h:XA us v off k c o) (hu:jL us) (hv:jL v) (hk:off+k<us.length) :
  XA us v off (k+1) ((dx us (off+k)+c+dx v k) / Bs) (o.set (off+k) ((dx us (off+k)+c+dx v k) % Bs)):=by
 have hi:off+k<o.length:=by rw[h.len];exact hk
 refine⟨by rw[List.length_set];exact h.len,jB h.digs (Nat.mod_lt _ zj) _,Yk (qI hu _) (qI hv _) h.small,?_,λj hj=>?_⟩
 ·have h1:vf (λi=>dx (o.set (off+k) ((dx us (off+k)+c+dx v k) % Bs)) (off+i)) k=vf (λi=>dx o (off+i)) k:=jW λi hi'=>by rw[jj hi,if_neg (by omega)]
  have h2:=h.sum
  have h3:=Nat.mod_add_div (dx us (off+k)+c+dx v k) Bs
  simp only[vf]
  rw[h1,jj hi,if_pos rfl,Nat.pow_succ]
  generalize (dx us (off+k)+c+dx v k) % Bs=s at *
  generalize (dx us (off+k)+c+dx v k) / Bs=q at *
  have h4:(s+Bs*q)*Bs ^ k=(dx us (off+k)+c+dx v k)*Bs ^ k:=by rw[h3]
  rw[Nat.add_mul,Nat.add_mul,Nat.add_mul]at h4
  have h5:q*(Bs ^ k*Bs)=Bs*q*Bs ^ k:=by rw[Nat.mul_comm (Bs ^ k) Bs,<-Nat.mul_assoc,Nat.mul_comm q Bs]
  omega
 ·rw[jj hi,if_neg (by omega)]
  exact h.same j (by omega)
theorem Qa (w:World) {g off c g2 n d:Nat}{us v:List Nat}(hO:Ow 3 w g (qu us)) (hV:Ow 3 w g2 (qu v)) (hne:g2≠g) (hdu:jL us) (hdv:jL v) (hn:v.length=n) (hoff:off+(n+1)<=us.length)
  (hs:us.length<=2097152) :
  Calls Tryz.prog 200 #[.slice (some ⟨g, off, none⟩) (n + 1) c, .slice (some ⟨g2, 0, none⟩) n d] w λe w' => e = .returned (.tuple #[]) /\ ∃ (o : List Nat) (c1 : Nat), Ow 3 w' g (qu o) /\ o.length = us.length /\ jL o /\
   vf (λi=>dx o (off+i)) (n+1)+c1*Bs ^ (n+1)=vf (λi=>dx us (off+i)) (n+1)+val v/\(∀j,(j<off\/off+n<j)->dx o j=dx us j)/\Og g w w':=by
 have hn:=Lib.hid hn;rename_i hno
 have hnb:n<=2097152:=by omega
 clear hno
 go_enter Tryz.func200,Tryz.ntmps200
 go_wp2_with fail
 go_loopw [4,9] (λcv i wr=>∃(k c1:Nat) (o:List Nat),k<=n+1/\i=.int .i64 (k:Int)/\cv=.int .i64 (c1:Int)/\XA us v off k c1 o/\Ow 3 wr g (qu o)/\Og g w wr) (λ_ i _=>n+1-(intOf i).toNat)
 case atStart=>exact⟨0,0,us,Nat.zero_le _,rfl,rfl,XA.start off hdu,hO,Og.refl _ _⟩
 case round=>
  clear hO
  obtain⟨k,c1,o,hk,rfl,rfl,hrel,hO,hog⟩:=hrel
  by_cases hkn:k<n+1
  ·have hki:(k:Int)<(n:Int)+1:=by omega
   have hcell:=hO.cell (k:=off+k) (by rw[qg,hrel.len];omega)
   rw[zN,hrel.same _ (.inr (Nat.le_refl _))]at hcell
   have hfr:=hO.frozen (off+k)
   have bx:=qI hdv k
   have bz:=qI hdu (off+k)
   rw[qk]at bx bz
   have hc1:=hrel.small
   have hst:=hrel.step hdu hdv (by omega)
   have hO1:=hO.set (off+k) (((dx us (off+k)+c1+dx v k) % Bs:Nat):Int)
   rw[<-qL]at hO1
   by_cases hkm:k<n
   ·have hkj:(k:Int)<(n:Int):=by omega
    have hV1:=(hV.og hne hog).cell (k:=k) (by rw[qg,hn.out];exact hkm)
    rw[zN]at hV1
    generalize dx v k=x at *
    generalize dx us (off+k)=z at *
    have e1:((((z+c1+x) % Bs:Nat):Int))=((z:Int)+(c1:Int)+(x:Int)) % 1000000000:=by rw[qk];omega
    have e2:((((z+c1+x) / Bs:Nat):Int))=((z:Int)+(c1:Int)+(x:Int)) / 1000000000:=by rw[qk];omega
    rw[e1]at hO1
    have e2:=Lib.hid e2;rename_i e2o;clear e2o e1
    go_wp2_with fail
    go_roundw
    case rel=>exact⟨k+1,_,_,by omega,by go_num,by rw[e2.out],hst,hO1,hog.set _ _⟩
    case measure=>simp[intOf];omega
   ·have hz:dx v k=0:=qP (by rw[hn.out];omega)
    have hkj:¬(k:Int)<(n:Int):=by omega
    simp only[hz,Nat.add_zero]at hst hO1
    clear hz bx
    generalize dx us (off+k)=z at *
    have e1:((((z+c1) % Bs:Nat):Int))=((z:Int)+(c1:Int)) % 1000000000:=by rw[qk];omega
    have e2:((((z+c1) / Bs:Nat):Int))=((z:Int)+(c1:Int)) / 1000000000:=by rw[qk];omega
    rw[e1]at hO1
    have e2:=Lib.hid e2;rename_i e2o;clear e2o e1
    go_wp2_with fail
    go_roundw
    case rel=>exact⟨k+1,_,_,by omega,by go_num,by rw[e2.out],hst,hO1,hog.set _ _⟩
    case measure=>simp[intOf];omega
  ·obtain rfl:k=n+1:=by omega
   have hsum:=hrel.sum
   rw[qW (l:=v) (by rw[hn.out];omega)]at hsum
   have hsum:=Lib.hid hsum;rename_i hsumo;clear hsumo
   have hl:=Lib.hid hrel.len
   have hdg:=hrel.digs
   have hfar:Hid (∀j,(j<off\/off+n<j)->dx o j=dx us j):=λj hj=>hrel.same j (by omega)
   clear hrel
   go_wp2_with fail
   go_end0
   exact⟨rfl,o,c1,hO,hl.out,hdg,hsum.out,hfar.out,hog⟩
section
variable {f:Nat->Nat}{v:List Nat}{p q rest:Nat}
theorem qak (hf:∀i,f i<Bs) (hv:v.length=p+2) (hv1:0<dx v (p+1)) (hW:vf f (p+3)<Bs*val v) (hV:0<val v) :
  vf f (p+3) / val v<=min (Bs-1) ((f (p+2)*Bs+f (p+1)) / dx v (p+1)):=by
 have e1:=XD f p
 have e2:val v=_:=(qW (l:=v) (k:=p+2) (by omega)).symm.trans (XH (dx v) p)
 have hlo:=Q3 (f:=f) (k:=p) λi _=>hf i
 have h1:=Nat.div_mul_le_self (vf f (p+3)) (val v)
 have h2:vf f (p+3) / val v<Bs:=by rw[Nat.div_lt_iff_lt_mul hV];exact hW
 generalize vf f (p+3) / val v=t at *
 rw[e1,e2]at h1
 have h3:=qcm (hf p) hlo h1
 exact Nat.le_min.2 ⟨by omega,(Nat.le_div_iff_mul_le hv1).2 h3⟩
theorem qcC (hf:∀i,f i<Bs) (hv:v.length=p+2) (hV:0<val v) (hr:rest+q*dx v (p+1)=f (p+2)*Bs+f (p+1)) (h:rest*Bs+f p<q*dx v p) :
  0<q/\vf f (p+3) / val v<=q-1/\rest+dx v (p+1)+(q-1)*dx v (p+1)=f (p+2)*Bs+f (p+1):=by
 have e1:=XD f p
 have e2:val v=_:=(qW (l:=v) (k:=p+2) (by omega)).symm.trans (XH (dx v) p)
 have hlo:=Q3 (f:=f) (k:=p) λi _=>hf i
 have hq:0 < q:=by
  rcases Nat.eq_zero_or_pos q with h0|h0
  ·rw[h0]at h;omega
  ·exact h0
 have h1:=qce (Vl:=vf (dx v) p) hr hlo h
 rw[<-e1,<-e2]at h1
 have h2:vf f (p+3) / val v<q:=by rw[Nat.div_lt_iff_lt_mul hV];exact h1
 refine⟨hq,by omega,?_⟩
 obtain⟨r,rfl⟩:∃r,q=r+1:=⟨q-1,by omega⟩
 rw[Nat.add_sub_cancel,<-hr,Nat.add_mul]
 omega
theorem qbX (hq:q<Bs) (hd:jL v) (hv:v.length=p+2) (hv1:0<dx v (p+1)) (hV:0<val v) (hr:rest+q*dx v (p+1)=f (p+2)*Bs+f (p+1)) (h:Bs<=rest\/q*dx v p<=rest*Bs+f p) :
  q<=vf f (p+3) / val v+1:=by
 have e1:=XD f p
 have e2:val v=_:=(qW (l:=v) (k:=p+2) (by omega)).symm.trans (XH (dx v) p)
 have hvl:=Q3 (f:=dx v) (k:=p) λi _=>qI hd i
 have h1:q * val v<=vf f (p+3)+val v:=by
  rw[e1,e2]
  rcases h with h|h
  ·exact qa2 hq hr (qI hd p) hvl h
  ·exact qa1 hq hr hv1 hvl h
 rw[<-Nat.add_div_right _ hV,Nat.le_div_iff_mul_le hV]
 exact h1
end
theorem qd8 {M p t:Nat}(hM:(dig M).length=p+1) (ht:t=dx (dig M) p):0<t/\0<Bs / (t+1)/\Bs / (t+1)<Bs/\(Bs / (t+1))*M<Bs ^ (p+1):=by
 have h0:=QV (jI M) (by intro h;rw[h]at hM;simp at hM)
 rw[hM,Nat.add_sub_cancel,<-ht]at h0
 have h1:=qI (qs M) p
 rw[<-ht]at h1
 have hle:=Nat.div_mul_le_self Bs (t+1)
 have hpos:0<Bs / (t+1):=Nat.div_pos (by omega) (by omega)
 have hlt:Bs / (t+1)<Bs:=Nat.div_lt_self zj (by omega)
 refine⟨by omega,hpos,hlt,?_⟩
 have hMv:M=vf (dx (dig M)) (p+1):=by rw[qW (by omega),qB]
 have hlow:=Q3 (f:=dx (dig M)) (k:=p) λi _=>qI (qs M) i
 have hM2:M < (t+1) * Bs ^ p:=by
  rw[Nat.add_mul,ht]
  simp only[vf]at hMv
  omega
 have h3:Bs / (t+1)*M<Bs / (t+1)*((t+1)*Bs ^ p):=Nat.mul_lt_mul_of_pos_left hM2 hpos
 have h4:Bs / (t+1)*(t+1)*Bs ^ p<=Bs*Bs ^ p:=Nat.mul_le_mul_right _ hle
 rw[Nat.mul_assoc]at h4
 rw[Nat.pow_succ,Nat.mul_comm (Bs ^ p)]
 omega
theorem qdq {b M p:Nat}{v:List Nat}(hv:v.length=p+1) (hd:jL v) (hval:val v=b*M) (hb:0<b) (hM:(dig M).length=p+1):0<dx v p:=by
 rcases Nat.eq_zero_or_pos (dx v p)with h0|h0
 ·have h1:=yg (jI M) (by intro h;rw[h]at hM;simp at hM)
  rw[hM,Nat.add_sub_cancel,qB]at h1
  have h2:vf (dx v) (p+1)=val v:=qW (by omega)
  simp only[vf]at h2
  rw[h0]at h2
  have h3:=Q3 (f:=dx v) (k:=p) λi _=>qI hd i
  have h4:=Nat.mul_le_mul_right M hb
  omega
 ·exact h0
def Zg (T:TypeId) (w:World) (N M:Nat) (e:Ending) (w':World):Prop :=
 ∃A1 n1 c1 A2 n2 c2,e=.returned (.tuple #[.slice A1 n1 c1,.slice A2 n2 c2])/\OwI T w.heap.size w' A1 n1 c1 (qu (dig (N / M)))/\OwI T w.heap.size w' A2 n2 c2 (qu (dig (N % M)))/\Bl w w'
theorem OwI.mono0 {T:TypeId}{w:World}{b0 b1:Nat}{A:Option Addr}{n c:Nat}{l:List Int}(h:OwI T b1 w A n c l) (hb:b0<=b1):OwI T b0 w A n c l :=
 ⟨h.1,h.2.imp id λ⟨g,cs,e,hg,r⟩=>⟨g,cs,e,by omega,r⟩⟩
theorem ut {M:Nat}(h:(dig M).length=1):dx (dig M) 0=M/\M<1000000000/\0<M:=by
 have h1:vf (dx (dig M)) 1=M:=by rw[qW (by omega),qB]
 simp only[vf,Nat.pow_zero,Nat.mul_one,Nat.zero_add]at h1
 have h2:=qI (qs M) 0
 have h3:=ql (n:=M)
 rw[qk]at h2
 omega
theorem uk (w:World) {A B:Option Addr}{n m c d N M:Nat}(ha:IsN w A n c N) (hb:IsN w B m d M) (hn:n<=1048576) (hm:m<=1048576) (hlt:N<M) :
  Calls Tryz.prog 153 #[.slice A n c,.slice B m d] w (Zg 3 w N M):=by
 have hq:Hid (N / M=0/\N % M=N):=⟨Nat.div_eq_of_lt hlt,Nat.mod_eq_of_lt hlt⟩
 have hc:je N M=-1:=Qi (by omega)
 clear hlt
 go_enter Tryz.func153,Tryz.ntmps153
 go_wp2_with fail
 refine(jt _ ha hb (by omega) (by omega)).mono ?_
 rw[hc]
 rintro e w1 ⟨rfl,q,rfl⟩
 go_wp2_with fail
 refine(yi _ ((ha.drewN q).alloc _) hn).mono ?_
 rintro e w2 ⟨A',n',c',rfl,hO,hb2⟩
 have hO2:OwI 3 w.heap.size w2 A' n' c' (qu (dig N)):=hO.mono0 (by simp)
 have hb2:Bl w w2:=Bl.next (((Bl.refl w).drewN q).alloc _) hb2
 go_wp2_with fail
 go_ret2
 exact⟨_,0,0,_,_,_,rfl,by rw[hq.out.1,qX];exact OwI.nil _ _ _ _,by rw[hq.out.2];exact hO2,hb2⟩
theorem UV (w:World) {A B:Option Addr}{n c d N M:Nat}(ha:IsN w A n c N) (hb:IsN w B 1 d M) (hn:n<=1048576) (hle:M<=N) :
  Calls Tryz.prog 153 #[.slice A n c,.slice B 1 d] w (Zg 3 w N M):=by
 obtain⟨h0,hM,hM0⟩:=ut hb.lenN
 have hc:0<=je N M:=by unfold je;split <;> (try split) <;> omega
 clear hle
 generalize hcc:je N M=cc at hc
 obtain⟨bd,rfl,hltb,hcb⟩:=hb.atN (k:=0) (by omega)
 rw[h0]at hcb
 have hcb:w.cell? bd=some (.int .i64 (M:Int)):=by rw[<-hcb,Addr.add_zero']
 clear h0
 go_enter Tryz.func153,Tryz.ntmps153
 go_wp2_with fail
 refine(jt _ ha hb (by omega) (by omega)).mono ?_
 rw[hcc]
 rintro e w1 ⟨rfl,q,rfl⟩
 clear hcc
 go_wp2_with fail
 refine(Jy _ (ha.drewN q) hn hM0 hM).mono ?_
 rintro e w2 ⟨A',n',c',rfl,hO,hb2⟩
 have hO2:OwI 3 w.heap.size w2 A' n' c' (qu (dig (N / M))):=hO.mono0 (by simp)
 have hb2:Bl w w2:=Bl.next ((Bl.refl w).drewN q) hb2
 have hr0:=Nat.mod_lt N hM0
 generalize hrr:N % M=r at *
 go_wp2_with fail
 refine(xD _ r (by omega)).mono ?_
 rintro e w3 ⟨A2,n2,c2,rfl,hO3,hb3⟩
 go_wp2_with fail
 go_ret2
 exact⟨_,_,_,_,_,_,rfl,hO2.bl hb3,by rw[hrr];exact hO3.mono0 hb2.size,hb2.next hb3⟩
end Go.Proofs.YtjaapemopbbfaaaGreatDoor
