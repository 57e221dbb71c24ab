import Derived.Test.YtjaapemopbbfaaaGreatDoorPMeshesM02
namespace Go.Proofs.YtjaapemopbbfaaaGreatDoor
open Go.RowKit
set_option maxRecDepth 100000
set_option maxHeartbeats 8000000
theorem qaA {o:List Nat}{k cr sx sy x y:Nat}(h:val o+cr*Bs ^ k=sx+sy) (hl:o.length=k) :
  val (o++[(x+cr+y) % Bs])+((x+cr+y) / Bs)*Bs ^ (k+1)=(sx+x*Bs ^ k)+(sy+y*Bs ^ k):=by
 rw[ZY,hl,Nat.pow_succ]
 have hdm:=Nat.mod_add_div (x+cr+y) Bs
 generalize (x+cr+y) % Bs=r at *
 generalize (x+cr+y) / Bs=q at *
 have:(r+Bs*q)*Bs ^ k=(x+cr+y)*Bs ^ k:=by rw[hdm]
 grind
theorem qcq {o:List Nat}{cr N M:Nat}(h:val o+cr*Bs ^ o.length=N+M) (hd:jL o) (hc:cr<Bs) (hl:(dig N).length=o.length):(if 0<cr then o++[cr]else o)=dig (N+M):=by
 split
 ·next hp=>
  rw[<-h,<-ZY]
  refine(Zf (jS (ZS hd hc) λ_=>?_)).symm
  rw[List.length_append]
  simp[dx];omega
 ·next hp=>
  obtain rfl:cr=0:=by omega
  have h':val o=N+M:=by simpa using h
  rw[<-h']
  refine(Zf (Za hd λe=>?_)).symm
  have hne:dig N≠[]:=by
   intro e'
   rw[e']at hl
   exact e (List.length_eq_zero_iff.1 hl.symm)
  have:=yg (jI N) hne
  rw[qB,hl]at this
  omega
theorem Yk {x y cr:Nat}(hx:x<Bs) (hy:y<Bs) (hc:cr<=1):(x+cr+y) / Bs<=1:=by
 rw[qk]at *;omega
structure jr (N M k c:Nat) (o:List Nat):Prop where
 len:o.length=k
 digs:jL o
 sum:val o+c*Bs ^ k=vf (dx (dig N)) k+vf (dx (dig M)) k
theorem jr.zero (N M:Nat):jr N M 0 0 []:=⟨rfl,(λd hd=>by cases hd),by simp[val,vf]⟩
theorem jr.step {N M k c:Nat}{o:List Nat}(h:jr N M k c o):jr N M (k+1) ((dx (dig N) k+c+dx (dig M) k) / Bs) (o++[(dx (dig N) k+c+dx (dig M) k) % Bs]) :=
 ⟨by simp[h.len],ZS h.digs (Nat.mod_lt _ zj),qaA h.sum h.len⟩
theorem jr.stop {N M k c:Nat}{o:List Nat}(h:jr N M k c o) (hn:(dig N).length=k) (hm:(dig M).length<=k) (hc:c<Bs):(if 0<c then o++[c]else o)=dig (N+M):=by
 have hs:=h.sum
 rw[qW (by omega),qW hm,qB,qB,<-h.len]at hs
 exact qcq hs h.digs hc (by rw[hn,h.len])
theorem vP (w:World) {A B:Option Addr}{n m c d N M:Nat}(ha:IsN w A n c N) (hb:IsN w B m d M) (hn:n<=1048576) (hm:m<=1048576) :
  Calls Tryz.prog 201 #[.slice A n c,.slice B m d] w λe w'=>∃A' n' c',e=.returned (.slice A' n' c')/\OwI 3 w.heap.size w' A' n' c' (qu (dig (N+M)))/\Bl w w':=by
 by_cases hnm:m<=n
 ·have hnmi:¬(n:Int)<(m:Int):=by omega
  have hmk:=ji (P:=Tryz.prog) Tryz.underlying22 qn 0 (n+1) (by omega) (by omega)
  rw[show (((n+1:Nat)):Int)=(n:Int)+1 from by omega,show ((0:Nat):Int)=0 from rfl]at hmk
  go_enter Tryz.func201,Tryz.ntmps201
  go_wp2_with fail
  clear hmk
  go_loopw [5,6,22] (λv cr i wr=>∃(k c:Nat) (o:List Nat),k<=n/\i=.int .i64 (k:Int)/\c<=1/\cr=.int .i64 (c:Int)/\jr N M k c o/\OwL 3 w.heap.size wr v (qu o)/\Bl w wr) (λ_ _ i _=>n-(intOf i).toNat)
  case atStart=>exact⟨0,0,[],Nat.zero_le _,rfl,by omega,rfl,jr.zero _ _,OwL.room w (n+1) (Nat.le_refl _) (by simp only[maxLen];omega),(Bl.refl w).alloc _⟩
  case round=>
   obtain⟨k,c1,o,hk,rfl,hc1,rfl,hrel,hown,hbw⟩:=hrel
   by_cases hkn:k<n
   ·obtain⟨ad,rfl,hlta,hca⟩:=(ha.bl hbw).atN hkn
    have hki:(k:Int)<(n:Int):=by omega
    have bx:=qI (qs N) k
    have by':=qI (qs M) k
    rw[qk]at bx by'
    have hlen:(qu o).length<=1099511627776:=by rw[qg,hrel.len];omega
    by_cases hkm:k<m
    ·obtain⟨bd,rfl,hltb,hcb⟩:=(hb.bl hbw).atN hkm
     have hkj:(k:Int)<(m:Int):=by omega
     have hs:=hrel.step
     go_wp2_with (at_builtin;go_must (refine qo (w0:=w) qn Tryz.underlying22 rfl (.tmp 42) (.tmp 45) rfl _ (qu o) rfl hown hbw 1 rfl hlen ?_);intro v' w1 hown1 hbw1)
     go_roundw
     case rel=>exact⟨k+1,(dx (dig N) k+c1+dx (dig M) k) / Bs,o++[(dx (dig N) k+c1+dx (dig M) k) % Bs],by omega,by go_num,Yk (qI (qs _) _) (qI (qs _) _) hc1,by rw[qk];go_num,hs,by rw[qD,qk];exact hown1,hbw1⟩
     case measure=>simp[intOf];omega
    ·have hz:dx (dig M) k=0:=qP (by rw[hb.lenN];omega)
     have hkj:¬(k:Int)<(m:Int):=by omega
     have hs:=hrel.step
     rw[hz]at hs by'
     clear hz
     go_wp2_with (at_builtin;go_must (refine qo (w0:=w) qn Tryz.underlying22 rfl (.tmp 42) (.tmp 45) rfl _ (qu o) rfl hown hbw 1 rfl hlen ?_);intro v' w1 hown1 hbw1)
     go_roundw
     case rel=>exact⟨k+1,(dx (dig N) k+c1) / Bs,o++[(dx (dig N) k+c1) % Bs],by omega,by go_num,by rw[qk];omega,by rw[qk];go_num,hs,by rw[qD,qk];exact hown1,hbw1⟩
     case measure=>simp[intOf];omega
   ·have hend:=Lib.hid (hrel.stop (by rw[ha.lenN];omega) (by rw[hb.lenN];omega) (by rw[qk];omega))
    have hlen:(qu o).length<=1099511627776:=by rw[qg,hrel.len];omega
    by_cases hc0:0<c1
    ·have hci:(0:Int)<(c1:Int):=by omega
     go_wp2_with (at_builtin;go_must (refine qo (w0:=w) qn Tryz.underlying22 rfl (.tmp 50) (.tmp 52) rfl _ (qu o) rfl hown hbw 1 rfl hlen ?_);intro v' w1 hown1 hbw1)
     obtain⟨A',c',hv,ho⟩:=hown1.own (by simp;omega)
     have e:qu o ++ [(c1:Int)]=qu (dig (N+M)):=by
      rw[<-hend.out,if_pos hc0,qD];rfl
     go_ret
     exact⟨A',_,c',congrArg Ending.returned hv,e ▸ ho,hbw1⟩
    ·have hci:¬(0:Int)<(c1:Int):=by omega
     have e:qu o=qu (dig (N+M)):=by
      rw[<-hend.out,if_neg hc0]
     obtain⟨A',c',hv,ho⟩:=hown.own (by omega)
     have hv:=Lib.hid hv;rename_i hvo;clear hvo
     have e:=Lib.hid e;rename_i eo;clear eo
     go_wp2
     go_ret
     exact⟨A',_,c',congrArg Ending.returned hv.out,e.out ▸ ho,hbw⟩
 ·have hnmi:(n:Int)<(m:Int):=by omega
  have hmk:=ji (P:=Tryz.prog) Tryz.underlying22 qn 0 (m+1) (by omega) (by omega)
  rw[show (((m+1:Nat)):Int)=(m:Int)+1 from by omega,show ((0:Nat):Int)=0 from rfl]at hmk
  go_enter Tryz.func201,Tryz.ntmps201
  go_wp2_with fail
  clear hmk
  go_loopw [5,6,22] (λv cr i wr=>∃(k c:Nat) (o:List Nat),k<=m/\i=.int .i64 (k:Int)/\c<=1/\cr=.int .i64 (c:Int)/\jr M N k c o/\OwL 3 w.heap.size wr v (qu o)/\Bl w wr) (λ_ _ i _=>m-(intOf i).toNat)
  case atStart=>exact⟨0,0,[],Nat.zero_le _,rfl,by omega,rfl,jr.zero _ _,OwL.room w (m+1) (Nat.le_refl _) (by simp only[maxLen];omega),(Bl.refl w).alloc _⟩
  case round=>
   obtain⟨k,c1,o,hk,rfl,hc1,rfl,hrel,hown,hbw⟩:=hrel
   by_cases hkn:k<m
   ·obtain⟨ad,rfl,hlta,hca⟩:=(hb.bl hbw).atN hkn
    have hki:(k:Int)<(m:Int):=by omega
    have bx:=qI (qs M) k
    have by':=qI (qs N) k
    rw[qk]at bx by'
    have hlen:(qu o).length<=1099511627776:=by rw[qg,hrel.len];omega
    by_cases hkm:k<n
    ·obtain⟨bd,rfl,hltb,hcb⟩:=(ha.bl hbw).atN hkm
     have hkj:(k:Int)<(n:Int):=by omega
     have hs:=hrel.step
     go_wp2_with (at_builtin;go_must (refine qo (w0:=w) qn Tryz.underlying22 rfl (.tmp 42) (.tmp 45) rfl _ (qu o) rfl hown hbw 1 rfl hlen ?_);intro v' w1 hown1 hbw1)
     go_roundw
     case rel=>exact⟨k+1,(dx (dig M) k+c1+dx (dig N) k) / Bs,o++[(dx (dig M) k+c1+dx (dig N) k) % Bs],by omega,by go_num,Yk (qI (qs _) _) (qI (qs _) _) hc1,by rw[qk];go_num,hs,by rw[qD,qk];exact hown1,hbw1⟩
     case measure=>simp[intOf];omega
    ·have hz:dx (dig N) k=0:=qP (by rw[ha.lenN];omega)
     have hkj:¬(k:Int)<(n:Int):=by omega
     have hs:=hrel.step
     rw[hz]at hs by'
     clear hz
     go_wp2_with (at_builtin;go_must (refine qo (w0:=w) qn Tryz.underlying22 rfl (.tmp 42) (.tmp 45) rfl _ (qu o) rfl hown hbw 1 rfl hlen ?_);intro v' w1 hown1 hbw1)
     go_roundw
     case rel=>exact⟨k+1,(dx (dig M) k+c1) / Bs,o++[(dx (dig M) k+c1) % Bs],by omega,by go_num,by rw[qk];omega,by rw[qk];go_num,hs,by rw[qD,qk];exact hown1,hbw1⟩
     case measure=>simp[intOf];omega
   ·have hend:=Lib.hid (hrel.stop (by rw[hb.lenN];omega) (by rw[ha.lenN];omega) (by rw[qk];omega))
    have hlen:(qu o).length<=1099511627776:=by rw[qg,hrel.len];omega
    by_cases hc0:0<c1
    ·have hci:(0:Int)<(c1:Int):=by omega
     go_wp2_with (at_builtin;go_must (refine qo (w0:=w) qn Tryz.underlying22 rfl (.tmp 50) (.tmp 52) rfl _ (qu o) rfl hown hbw 1 rfl hlen ?_);intro v' w1 hown1 hbw1)
     obtain⟨A',c',hv,ho⟩:=hown1.own (by simp;omega)
     have e:qu o ++ [(c1:Int)]=qu (dig (N+M)):=by
      rw[Nat.add_comm N M,<-hend.out,if_pos hc0,qD];rfl
     go_ret
     exact⟨A',_,c',congrArg Ending.returned hv,e ▸ ho,hbw1⟩
    ·have hci:¬(0:Int)<(c1:Int):=by omega
     have e:qu o=qu (dig (N+M)):=by
      rw[Nat.add_comm N M,<-hend.out,if_neg hc0]
     obtain⟨A',c',hv,ho⟩:=hown.own (by omega)
     have hv:=Lib.hid hv;rename_i hvo;clear hvo
     have e:=Lib.hid e;rename_i eo;clear eo
     go_wp2
     go_ret
     exact⟨A',_,c',congrArg Ending.returned hv.out,e.out ▸ ho,hbw⟩
structure ZB (N M n m k:Nat) (o:List Nat):Prop where
 len:o.length=n+m
 digs:jL o
 prod:val o=vf (dx (dig N)) k*M
 rest:∀j,k+m<=j->dx o j=0
theorem yw (n j:Nat):dx (List.replicate n 0) j=0:=by
 unfold dx
 rw[List.getD_eq_getElem?_getD,List.getElem?_replicate]
 split <;> rfl
theorem ZB.zero (N M n m:Nat):ZB N M n m 0 (List.replicate (n+m) 0) :=
 ⟨by simp,zV _,by rw[jT];simp[vf],λj _=>yw _ _⟩
structure YL (V x M n m k q c:Nat) (o:List Nat):Prop where
 len:o.length=n+m
 digs:jL o
 carry:c<Bs
 sum:val o+c*Bs ^ (k+q)=V+x*Bs ^ k*vf (dx (dig M)) q
 rest:∀j,k+m<=j->dx o j=0
 lim:x<Bs
theorem YL.zero {N M n m k:Nat}{o:List Nat}(h:ZB N M n m k o):YL (val o) (dx (dig N) k) M n m k 0 0 o :=
 ⟨h.len,h.digs,zj,by simp[vf],h.rest,qI (qs N) k⟩
theorem xE {z x y c:Nat}(hz:z<Bs) (hx:x<Bs) (hy:y<Bs) (hc:c<Bs):(z+x*y+c) / Bs<Bs:=by
 rw[Nat.div_lt_iff_lt_mul zj]
 have:x*y<=(Bs-1)*(Bs-1):=Nat.mul_le_mul (by omega) (by omega)
 rw[qk]at *
 omega
theorem Jz (z x y c:Nat):((((z+x*y+c) % Bs:Nat):Int))=((z:Int)+(x:Int)*(y:Int)+(c:Int)) % 1000000000:=by
 rw[qk,<-Int.natCast_mul];omega
theorem JB (z x y c:Nat):((((z+x*y+c) / Bs:Nat):Int))=((z:Int)+(x:Int)*(y:Int)+(c:Int)) / 1000000000:=by
 rw[qk,<-Int.natCast_mul];omega
theorem YL.step {V x M n m k q c:Nat}{o:List Nat}(h:YL V x M n m k q c o) (hq:q<m) (hk:k<n) :
  YL V x M n m k (q+1) ((dx o (k+q)+x*dx (dig M) q+c) / Bs) (o.set (k+q) ((dx o (k+q)+x*dx (dig M) q+c) % Bs)):=by
 have hi:k+q<o.length:=by rw[h.len];omega
 refine⟨by rw[List.length_set];exact h.len,jB h.digs (Nat.mod_lt _ zj) _,xE (qI h.digs _) h.lim (qI (qs M) q) h.carry,?_,λj hj=>?_,h.lim⟩
 ·have h1:=Yb hi ((dx o (k+q)+x*dx (dig M) q+c) % Bs)
  have h2:=h.sum
  have h3:=Nat.mod_add_div (dx o (k+q)+x*dx (dig M) q+c) Bs
  simp only[vf]
  rw[<-Nat.add_assoc,Nat.pow_succ]
  generalize (dx o (k+q)+x*dx (dig M) q+c) % Bs=r at *
  generalize (dx o (k+q)+x*dx (dig M) q+c) / Bs=t at *
  have hp:Bs ^ (k+q)=Bs ^ k*Bs ^ q:=Nat.pow_add _ _ _
  have h4:(r+Bs*t)*Bs ^ (k+q)=(dx o (k+q)+x*dx (dig M) q+c)*Bs ^ (k+q):=by rw[h3]
  rw[hp]at *
  grind
 ·rw[jj hi,if_neg (by omega)]
  exact h.rest j hj
theorem YL.stop {N M n m k c x:Nat}{o o':List Nat}(h:YL (val o) x M n m k m c o') (hx:vf (dx (dig N)) (k+1)=vf (dx (dig N)) k+x*Bs ^ k) (hm:(dig M).length=m) (hk:k<n) (ho:ZB N M n m k o):ZB N M n m (k+1) (o'.set (k+m) c):=by
 have hi:k+m<o'.length:=by rw[h.len];omega
 refine⟨by rw[List.length_set];exact h.len,jB h.digs h.carry _,?_,λj hj=>?_⟩
 ·have h1:=Yb hi c
  rw[h.rest _ (Nat.le_refl _)]at h1
  have h2:=h.sum
  rw[qW (by omega),qB]at h2
  have h3:=ho.prod
  rw[hx,Nat.add_mul]
  grind
 ·rw[jj hi,if_neg (by omega)]
  exact h.rest j (by omega)
theorem zk (w:World) {A B:Option Addr}{n m c d N M:Nat}(ha:IsN w A n c N) (hb:IsN w B m d M) (hn:n<=1048576) (hm:m<=1048576) :
  Calls Tryz.prog 115 #[.slice A n c,.slice B m d] w λe w'=>∃A' n' c',e=.returned (.slice A' n' c')/\OwI 3 w.heap.size w' A' n' c' (qu (dig (N*M)))/\Bl w w':=by
 have hmk:=ji (P:=Tryz.prog) Tryz.underlying22 qn (n+m) (n+m) (Nat.le_refl _) (by omega)
 rw[show ((n+m:Nat):Int)=(n:Int)+(m:Int)from by omega]at hmk
 go_enter Tryz.func115,Tryz.ntmps115
 go_wp2_with fail
 clear hmk
 go_loopw [20] (λi wr=>∃(k:Nat) (o:List Nat),k<=n/\i=.int .i64 (k:Int)/\ZB N M n m k o/\Ow 3 wr w.heap.size (qu o)/\Bl w wr) (λi _=>n-(intOf i).toNat)
 case atStart=>exact⟨0,List.replicate (n+m) 0,Nat.zero_le _,rfl,ZB.zero _ _ _ _,by rw[zi];exact Ow.mk w (n+m),(Bl.refl w).alloc _⟩
 case round=>
  obtain⟨k,o,hk,rfl,hmul,hO,hbw⟩:=hrel
  obtain⟨wo,hwo⟩:∃wo:World,wo=wr:=⟨_,rfl⟩
  subst hwo
  by_cases hkn:k<n
  ·obtain⟨ad,rfl,hlta,hca⟩:=(ha.bl hbw).atN hkn
   have hki:(k:Int)<(n:Int):=by omega
   have bx:=qI (qs N) k
   rw[qk]at bx
   have hin:=YL.zero hmul
   have hmul0:=Lib.hid hmul
   have hNk:=Lib.hid (show vf (dx (dig N)) (k+1)=vf (dx (dig N)) k+dx (dig N) k*Bs ^ k from rfl)
   generalize dx (dig N) k=x at *
   go_wp2_with fail
   go_loopw [8,27] (λcr i wr=>∃(q c1:Nat) (o':List Nat),q<=m/\i=.int .i64 (q:Int)/\cr=.int .i64 (c1:Int)/\YL (val o) x M n m k q c1 o'/\Ow 3 wr w.heap.size (qu o')/\Bl w wr) (λ_ i _=>m-(intOf i).toNat)
   case atStart=>exact⟨0,0,o,Nat.zero_le _,rfl,rfl,hin,hO,hbw⟩
   case round=>
    clear hin hO hbw hca hmul
    obtain⟨q,c1,o',hq,rfl,rfl,hin,hO,hbw⟩:=hrel
    have hc1:=hin.carry
    rw[qk]at hc1
    by_cases hqm:q<m
    ·obtain⟨bd,rfl,hltb,hcb⟩:=(hb.bl hbw).atN hqm
     have hqi:(q:Int)<(m:Int):=by omega
     have hkq:((k:Int)+(q:Int))<((n:Int)+(m:Int)):=by omega
     have hkq':k+q<n+m:=by omega
     have by':=qI (qs M) q
     rw[qk]at by'
     have hcell:=hO.cell (k:=k+q) (by rw[qg,hin.len];omega)
     rw[zN]at hcell
     have hfr:=hO.frozen (k+q)
     have bo:=qI hin.digs (k+q)
     rw[qk]at bo
     have hstep:=hin.step hqm hkn
     have hO1:=hO.set (k+q) (((dx o' (k+q)+x*dx (dig M) q+c1) % Bs:Nat):Int)
     rw[<-qL]at hO1
     generalize dx (dig M) q=y at *
     generalize dx o' (k+q)=z at *
     have hxy0:(0:Int)<=(x:Int)*(y:Int):=by exact_mod_cast Nat.zero_le (x*y)
     have hxy:(x:Int) * (y:Int)<=999999998000000001:=by
      have:x*y<=999999999*999999999:=Nat.mul_le_mul (by omega) (by omega)
      have h2:((x*y:Nat):Int)<=999999998000000001:=by omega
      rwa [Int.natCast_mul]at h2
     have e1:((((z+x*y+c1) % Bs:Nat):Int))=((z:Int)+(x:Int)*(y:Int)+(c1:Int)) % 1000000000:=Jz z x y c1
     have e2:((((z+x*y+c1) / Bs:Nat):Int))=((z:Int)+(x:Int)*(y:Int)+(c1:Int)) / 1000000000:=JB z x y c1
     rw[e1]at hO1
     have e2:=Lib.hid e2;rename_i e2o;clear e2o e1
     go_wp2_with fail
     go_roundw
     case rel=>exact⟨q+1,_,_,by omega,by go_num,by rw[e2.out],hstep,hO1,hbw.set (Nat.le_refl _) _⟩
     case measure=>simp[intOf];omega
    ·obtain rfl:q=m:=by omega
     have hkm:((k:Int)+(q:Int))<((n:Int)+(q:Int)):=by omega
     have hkm':k+q<n+q:=by omega
     have hcell:=hO.cell (k:=k+q) (by rw[qg,hin.len];omega)
     rw[zN,hin.rest _ (Nat.le_refl _)]at hcell
     have hfr:=hO.frozen (k+q)
     have hstop:=hin.stop hNk.out hb.lenN hkn hmul0.out
     have hO1:=hO.set (k+q) (c1:Int)
     rw[<-qL]at hO1
     go_wp2_with fail
     go_roundw
     case rel=>exact⟨k+1,_,by omega,by go_num,hstop,hO1,hbw.set (Nat.le_refl _) _⟩
     case measure=>simp[intOf];omega
  ·obtain rfl:k=n:=by omega
   have hv:=Lib.hid (show val o=N*M by rw[hmul.prod,qW (by rw[ha.lenN];omega),qB])
   have hlen:=hmul.len
   go_wp2_with fail
   refine(zQ _ (l:=o) (RdI.of_ow hO (by rw[qg];exact hlen) (by omega)) hmul.digs).mono ?_
   rintro e w1 ⟨m',rfl,hm',ht,hq⟩
   rw[hv.out]at ht
   have hO1:=(OwI.of_ow (c:=k+m) hO (Nat.le_refl _) (by rw[qg];exact hlen) (by omega) hm' ht).q hq
   have hbw1:=hbw.next (vV hq)
   go_wp2_with fail
   go_ret
   exact⟨_,_,_,rfl,hO1,hbw1⟩
theorem yI {P:Program}{E t:TypeId}(hinfo:(P.info? E).map (λi=>(i.zero,i.size,i.bytes))=some (some (.int .i64 0),1,8)) (ht:P.underlying t=some (.slice E))
  {w0 W:World}{ops:Array Oper}{rest:List Oper}{o:Oper}{a:Act}{Q:Exit->Act->World->Prop}(hgd:o.guard=none) (s x:Operand)
  (ho:o.op=.call { callee:=.builtin .append,args:=#[s,x],argTypes:=#[t,t] }) (v:Value) (l:List Int) (hs:a.eval s=v) (hown:OwL E w0.heap.size W v l) (hb:Bl w0 W)
  (ad:Addr) (m c:Nat) (hx:a.eval x=.slice (some ad) m c) (ys:List Int) (hr:RdI W (some ad) m c ys) (hlen:l.length<=1099511627776) (hm:m<=1099511627776)
  (h:∀v' w',OwL E w0.heap.size w' v' (l++ys)->Bl w0 w'->wpList P ops Q rest (a.put o.dst v') w'):wpList P ops Q (o::rest) a W:=by
 obtain⟨i0,hi,hz0,hz1,hz2⟩:=info_parts hinfo
 refine wpList_append_own _ hgd s x t ho w0.heap.size E i0 (.int .i64 0) 1 8 ht hi hz0 hz1 hz2 rfl (by omega) v l.length (l.map (Value.int .i64)) hs hown ad m c (ys.map (Value.int .i64)) hx (by simp[hr.len]) ?_ (by intro u hu;simp at hu;obtain⟨z,_,rfl⟩:=hu;rfl) (by simp only[maxLen];omega) (by omega) hb.size ?_
 ·intro j u hu
  rw[List.getElem?_map]at hu
  have hj:j < m:=by
   rcases Nat.lt_or_ge j ys.length with h|h
   ·rw[hr.len]at h;exact h
   ·rw[List.getElem?_eq_none h]at hu;simp at hu
  obtain⟨ad',e,_,hc⟩:=hr.at_ hj
  injection e with e
  subst e
  rw[hc]
  rw[List.getElem?_eq_getElem (by rw[hr.len];exact hj)]at hu
  simp at hu
  rw[<-hu]
  simp[ix,hr.len,hj]
 ·intro v' w' h1 h2 _
  refine h v' w' ?_ (hb.grown h2 hown.blockLe)
  unfold OwL
  rw[List.length_append,hr.len]
  simpa using h1
theorem yi (w:World) {A:Option Addr}{n c:Nat}{l:List Int}(h:RdI w A n c l) (hn:n<=1048576) :
  Calls Tryz.prog 108 #[.slice A n c] w λe w'=>∃A' n' c',e=.returned (.slice A' n' c')/\OwI 3 w.heap.size w' A' n' c' l/\Bl w w':=by
 have he:∀W a n c,(binOp .eql 22 (.slice a n c) (.slice none 0 0)).run Tryz.prog W=.ok (.bool a.isNone) W:=λW a n c=>Lib.run_eql_slice_nil W 22 3 a n c 0 0 Tryz.underlying22
 have hl:=Lib.hid h.len
 rcases A with _|ad
 ·have hn0:n=0:=by
   rcases Nat.eq_zero_or_pos n with h0|h0
   ·exact h0
   ·obtain⟨_,e,_⟩:=h.at_ h0
    cases e
  subst hn0
  have hl0:l=[]:=List.length_eq_zero_iff.1 hl.out
  subst hl0
  go_enter Tryz.func108,Tryz.ntmps108
  go_wp2
  go_ret
  exact⟨none,0,0,rfl,OwI.nil _ _ _ _,Bl.refl _⟩
 ·go_enter Tryz.func108,Tryz.ntmps108
  go_wp2_with (at_builtin;go_must (refine yI (w0:=w) qn Tryz.underlying22 rfl (.tmp 5) (.tmp 6) rfl _ [] rfl (OwL.empty w (Nat.le_refl _) (by simp)) ((Bl.refl w).alloc _) ad n c rfl l (h.alloc _) (by simp) (by omega) ?_);intro v' w1 hown1 hbw1)
  obtain⟨A',c',hv,ho⟩:=hown1.own (by have:=hl.out;simp;omega)
  go_ret
  exact⟨A',_,c',congrArg Ending.returned hv,ho,hbw1⟩
structure ZO (N M n k br:Nat) (o:List Nat):Prop where
 len:o.length=n
 digs:jL o
 small:br<=1
 diff:vf (dx o) k+vf (dx (dig M)) k=vf (dx (dig N)) k+br*Bs ^ k
 same:∀j,k<=j->dx o j=dx (dig N) j
theorem ZO.start {N M n:Nat}(h:(dig N).length=n):ZO N M n 0 0 (dig N):=⟨h,qs N,by omega,by simp[vf],λ_ _=>rfl⟩
theorem ZO.step {N M n k br d br':Nat}{o:List Nat}(h:ZO N M n k br o) (hk:k<n) (hd:d<Bs) (hb:br'<=1) (he:d+br+dx (dig M) k=dx (dig N) k+br'*Bs):ZO N M n (k+1) br' (o.set k d):=by
 have hi:k<o.length:=by rw[h.len];exact hk
 refine⟨by rw[List.length_set];exact h.len,jB h.digs hd _,hb,?_,λj hj=>?_⟩
 ·have h1:vf (dx (o.set k d)) k=vf (dx o) k:=jW λi hi'=>by rw[jj hi,if_neg (by omega)]
  have h2:=h.diff
  simp only[vf]
  rw[h1,jj hi,if_pos rfl,Nat.pow_succ]
  have h3:(d+br+dx (dig M) k)*Bs ^ k=(dx (dig N) k+br'*Bs)*Bs ^ k:=by rw[he]
  grind
 ·rw[jj hi,if_neg (by omega)]
  exact h.same j (by omega)
theorem ZO.stop {N M n br:Nat}{o:List Nat}(h:ZO N M n n br o) (hn:(dig N).length=n) (hm:(dig M).length<=n) (hle:M<=N):val o=N-M:=by
 have h1:=h.diff
 rw[qW (by rw[h.len];exact Nat.le_refl _),qW hm,qW (by omega),qB,qB]at h1
 have h2:=Uf h.digs
 rw[h.len]at h2
 have h3:=h.small
 rcases Nat.eq_zero_or_pos br with h0|h0
 ·subst h0;omega
 ·obtain rfl:br=1:=by omega
  omega
theorem qE {M N:Nat}(h:M<=N):(dig M).length<=(dig N).length:=by
 have:=Uf (qs N)
 rw[qB]at this
 exact qr.2 (by omega)
theorem qc6 {l:List Int}{k:Nat}(h:k<l.length) (x:Int):ix (l.set k x) k=x:=by simp[ix,h]
theorem Pre.drew1 {T:TypeId}{w:World}{g:Nat}{l:List Int}(h:Pre T w g l):Pre T w.drew g l:=h
theorem Q1 (w:World) {A B:Option Addr}{n m c d N M:Nat}(ha:IsN w A n c N) (hb:IsN w B m d M) (hn:n<=1048576) (hle:M<=N) :
  Calls Tryz.prog 202 #[.slice A n c,.slice B m d] w λe w'=>∃A' n' c',e=.returned (.slice A' n' c')/\OwI 3 w.heap.size w' A' n' c' (qu (dig (N-M)))/\Bl w w':=by
 have hm1:=qE hle
 rw[ha.lenN,hb.lenN]at hm1
 go_enter Tryz.func202,Tryz.ntmps202
 go_wp2_with fail
 refine(yi _ ha hn).mono ?_
 rintro e w1 ⟨A1,n1,c1,rfl,hown,hb1⟩
 obtain rfl:n1=n:=by have:=hown.rd.lenN;have:=ha.lenN;omega
 rcases Nat.eq_zero_or_pos n1 with h0|h0
 ·subst h0
  have hN:N=0:=by
   have:=ha.lenN
   exact Qe.1 (List.length_eq_zero_iff.1 this)
  have hv:=Lib.hid (show dig (N-M)=[]by rw[hN,Nat.zero_sub,qX])
  go_wp2_with fail
  go_loop [6,12] (λ_ i=>i=.int .i64 0) (λ_ _=>0)
  case atStart=>exact rfl
  case round=>
   obtain rfl:=hrel
   go_wp2_with fail
   refine(zQ _ (l:=[]) (RdI.nil _ A1 c1) (λd hd=>by cases hd)).mono ?_
   rintro e w2 ⟨m',rfl,hm',ht,hq⟩
   obtain rfl:m'=0:=by omega
   have hbw1:=hb1.next (vV hq)
   go_wp2_with fail
   go_ret
   exact⟨_,_,_,rfl,by rw[hv.out];exact OwI.nil _ _ _ _,hbw1⟩
 ·obtain⟨g,rfl,hg,hpre⟩:=hown.pre h0
  have hcap:=hown.rd.cap
  clear hown
  go_wp2_with fail
  go_loopw [6,12] (λb i wr=>∃(k br:Nat) (o:List Nat),k<=n1/\i=.int .i64 (k:Int)/\b=.int .i64 (br:Int)/\ZO N M n1 k br o/\Pre 3 wr g (qu o)/\Bl w wr) (λ_ i _=>n1-(intOf i).toNat)
  case atStart=>exact⟨0,0,dig N,Nat.zero_le _,rfl,rfl,ZO.start ha.lenN,hpre,hb1⟩
  case round=>
   clear hpre hb1
   obtain⟨k,br,o,hk,rfl,rfl,hrel,hpre,hbw⟩:=hrel
   by_cases hkn:k<n1
   ·have hki:(k:Int)<(n1:Int):=by omega
    have hbr:=hrel.small
    have hcell:=hpre.cell (k:=k) (by rw[qg,hrel.len];exact hkn)
    have hfr:=hpre.frozen k
    rw[zN,hrel.same k (Nat.le_refl _)]at hcell
    have bz:=qI (qs N) k
    have bz':=Lib.hid (rfl:dx (dig N) k=dx (dig N) k)
    have bym:=qI (qs M) k
    rw[qk]at bz bym
    have hst:=λd br' h1 h2 h3=>hrel.step (d:=d) (br':=br') hkn h1 h2 h3
    generalize dx (dig N) k=z at *
    obtain⟨y,hy⟩:∃y,y=dx (dig M) k:=⟨_,rfl⟩
    rw[<-hy]at hst bym
    have hy:=Lib.hid hy.symm;rename_i hyo;clear hyo
    by_cases hkm:k<m
    ·have hkj:(k:Int)<(m:Int):=by omega
     have hpre1:=hpre.set_ (k:=k) (by rw[qg,hrel.len];exact hkn) ((z:Int)-(br:Int))
     go_wp2_with fail
     refine qe (λW=>Bl w W/\Pre 3 W g ((qu o).set k ((z:Int)-(br:Int)))) ⟨slc,hpre1⟩ ?_
     rintro W ⟨hbW,hpW⟩
     have hcW:=hpW.cell (k:=k) (by rw[List.length_set,qg,hrel.len];exact hkn)
     rw[qc6 (by rw[qg,hrel.len];exact hkn)]at hcW
     have hfW:=hpW.frozen k
     obtain⟨bd,rfl,hltb,hcb⟩:=(hb.bl hbW).atN hkm
     rw[hy.out]at hcb
     have hpre2:=hpW.set_ (k:=k) (by rw[List.length_set,qg,hrel.len];exact hkn) ((z:Int)-(br:Int)-(y:Int))
     go_still_tail 10,(by kernel_rfl)
     go_wp2_with fail
     ·have ht:(z:Int)-(br:Int)-(y:Int)<0:=by first|assumption|omega
      have hd:((z+Bs-br-y:Nat):Int)=(z:Int)-(br:Int)-(y:Int)+1000000000:=by rw[qk]at *;omega
      have hs:=hst (z+Bs-br-y) 1 (by rw[qk];omega) (by omega) (by rw[qk];omega)
      have hp3:=(hpre2.set_ (k:=k) (by simp only[List.length_set,qg,hrel.len];exact hkn) ((z:Int)-(br:Int)-(y:Int)+1000000000)).drew1
      simp only[List.set_set]at hp3
      rw[show (qu o).set k ((z:Int)-(br:Int)-(y:Int)+1000000000)=qu (o.set k (z+Bs-br-y))from by rw[qL,hd]]at hp3
      go_roundw
      case rel=>exact⟨k+1,1,_,by omega,by go_num,rfl,hs,hp3,slc⟩
      case measure=>simp[intOf];omega
     ·have ht:¬(z:Int)-(br:Int)-(y:Int)<0:=by first|assumption|omega
      have hd:((z-br-y:Nat):Int)=(z:Int)-(br:Int)-(y:Int):=by omega
      have hs:=hst (z-br-y) 0 (by rw[qk];omega) (by omega) (by rw[qk];omega)
      have hp3:=hpre2.drew1
      try simp only[List.set_set]at hp3
      rw[show (qu o).set k ((z:Int)-(br:Int)-(y:Int))=qu (o.set k (z-br-y))from by rw[qL,hd]]at hp3
      go_roundw
      case rel=>exact⟨k+1,0,_,by omega,by go_num,rfl,hs,hp3,slc⟩
      case measure=>simp[intOf];omega
    ·have hy0:dx (dig M) k=0:=qP (by rw[hb.lenN];omega)
     have hkj:¬(k:Int)<(m:Int):=by omega
     have hyz:y=0:=by rw[<-hy.out];exact hy0
     clear hy hy0
     subst hyz
     have hpre1:=hpre.set_ (k:=k) (by rw[qg,hrel.len];exact hkn) ((z:Int)-(br:Int))
     go_wp2_with fail
     ·have ht:(z:Int)-(br:Int)<0:=by first|assumption|omega
      have hd:((z+Bs-br:Nat):Int)=(z:Int)-(br:Int)+1000000000:=by rw[qk]at *;omega
      have hs:=hst (z+Bs-br) 1 (by rw[qk];omega) (by omega) (by rw[qk];omega)
      have hp3:=(hpre1.set_ (k:=k) (by simp only[List.length_set,qg,hrel.len];exact hkn) ((z:Int)-(br:Int)+1000000000))
      simp only[List.set_set]at hp3
      rw[show (qu o).set k ((z:Int)-(br:Int)+1000000000)=qu (o.set k (z+Bs-br))from by rw[qL,hd]]at hp3
      go_roundw
      case rel=>exact⟨k+1,1,_,by omega,by go_num,rfl,hs,hp3,slc⟩
      case measure=>simp[intOf];omega
     ·have ht:¬(z:Int)-(br:Int)<0:=by first|assumption|omega
      have hd:((z-br:Nat):Int)=(z:Int)-(br:Int):=by omega
      have hs:=hst (z-br) 0 (by rw[qk];omega) (by omega) (by rw[qk];omega)
      have hp3:=hpre1
      try simp only[List.set_set]at hp3
      rw[show (qu o).set k ((z:Int)-(br:Int))=qu (o.set k (z-br))from by rw[qL,hd]]at hp3
      go_roundw
      case rel=>exact⟨k+1,0,_,by omega,by go_num,rfl,hs,hp3,slc⟩
      case measure=>simp[intOf];omega
   ·obtain rfl:k=n1:=by omega
    have hv:=Lib.hid (hrel.stop ha.lenN (by rw[hb.lenN];omega) hle)
    have hlen:=hrel.len
    have hdg:=hrel.digs
    clear hrel
    go_wp2_with fail
    refine(zQ _ (l:=o) (hpre.rd (c:=c1) (by rw[qg];exact hlen) (by omega) hcap) hdg).mono ?_
    rintro e w2 ⟨m',rfl,hm',ht,hq⟩
    rw[hv.out]at ht
    have hO1:=(hpre.cutN hg hlen (by omega) hcap hm' ht).q hq
    have hbw1:=hbw.next (vV hq)
    go_wp2_with fail
    go_ret
    exact⟨_,_,_,rfl,hO1,hbw1⟩
/-! The quotient's digit in a division by more than one limb: plain arithmetic over a base B; P is B^(n-2). -/
section
variable {B P v1 v2 Vl top u2 Wl q rest:Nat}
theorem qcm {t:Nat}(hu2:u2<B) (hWl:Wl<P) (h:t*(v1*(B*P)+v2*P+Vl)<=top*(B*P)+u2*P+Wl):t*v1<=top:=by
 have h1:(u2+1)*P<=B*P:=Nat.mul_le_mul_right P hu2
 have h2:t*(v1*(B*P))<=t*(v1*(B*P)+v2*P+Vl):=Nat.mul_le_mul_left t (by omega)
 rw[<-Nat.mul_assoc]at h2
 rw[Nat.add_mul]at h1
 rcases Nat.lt_or_ge top (t*v1)with hlt|hge
 ·have h3:(top+1)*(B*P)<=(t*v1)*(B*P):=Nat.mul_le_mul_right _ hlt
  rw[Nat.add_mul]at h3
  omega
 ·exact hge
theorem qce (hr:rest+q*v1=top) (hWl:Wl<P) (h:rest*B+u2<q*v2):top*(B*P)+u2*P+Wl<q*(v1*(B*P)+v2*P+Vl):=by
 have h1:(rest*B+u2+1)*P<=(q*v2)*P:=Nat.mul_le_mul_right P h
 rw[Nat.add_mul,Nat.add_mul,Nat.mul_assoc,Nat.mul_assoc]at h1
 rw[<-hr,Nat.add_mul,Nat.mul_add,Nat.mul_add,Nat.mul_assoc q v1]
 omega
theorem qa1 (hq:q<B) (hr:rest+q*v1=top) (hv1:0<v1) (hVl:Vl<P) (h:q*v2<=rest*B+u2):q*(v1*(B*P)+v2*P+Vl)<=(top*(B*P)+u2*P+Wl)+(v1*(B*P)+v2*P+Vl):=by
 have h1:(q*v2)*P<=(rest*B+u2)*P:=Nat.mul_le_mul_right P h
 rw[Nat.add_mul,Nat.mul_assoc,Nat.mul_assoc]at h1
 have h2:q*Vl<=B*P:=Nat.mul_le_mul (by omega) (by omega)
 have h3:1*(B*P)<=v1*(B*P):=Nat.mul_le_mul_right _ hv1
 rw[<-hr,Nat.add_mul,Nat.mul_add,Nat.mul_add,Nat.mul_assoc q v1]
 omega
theorem qa2 (hq:q<B) (hr:rest+q*v1=top) (hv2:v2<B) (hVl:Vl<P) (h:B<=rest):q*(v1*(B*P)+v2*P+Vl)<=(top*(B*P)+u2*P+Wl)+(v1*(B*P)+v2*P+Vl):=by
 have h1:(v2+1)*P<=B*P:=Nat.mul_le_mul_right P hv2
 rw[Nat.add_mul]at h1
 have h2:q*(v2*P+Vl)<=B*(B*P):=Nat.mul_le_mul (by omega) (by omega)
 have h3:B*(B*P)<=rest*(B*P):=Nat.mul_le_mul_right _ h
 rw[<-hr,Nat.add_mul,Nat.add_assoc (v1*(B*P)),Nat.mul_add,Nat.mul_assoc q v1]
 omega
end
theorem JR (f:Nat->Nat) (j m:Nat):vf f (j+m)=vf f j+Bs ^ j*vf (λi=>f (j+i)) m:=by
 induction m with
 | zero=>simp[vf]
 | succ m ih=>
  rw[<-Nat.add_assoc,vf,ih]
  simp only[vf]
  rw[Nat.mul_add,Nat.pow_add,Nat.add_assoc,<-Nat.mul_assoc,Nat.mul_comm (f (j+m)),Nat.mul_assoc]
theorem XD (f:Nat->Nat) (n:Nat):vf f (n+3)=(f (n+2)*Bs+f (n+1))*(Bs*Bs ^ n)+f n*Bs ^ n+vf f n:=by
 simp only[vf]
 have e1:Bs ^ (n+1)=Bs*Bs ^ n:=by rw[Nat.pow_succ,Nat.mul_comm]
 have e2:Bs ^ (n+2)=Bs*(Bs*Bs ^ n):=by rw[Nat.pow_succ,e1,Nat.mul_comm]
 rw[e2,e1,Nat.add_mul,Nat.mul_assoc (f (n+2)) Bs]
 omega
theorem XH (f:Nat->Nat) (n:Nat):vf f (n+2)=f (n+1)*(Bs*Bs ^ n)+f n*Bs ^ n+vf f n:=by
 simp only[vf]
 rw[Nat.pow_succ,Nat.mul_comm (Bs ^ n) Bs]
 omega
structure JF (N V n L K:Nat) (us os:List Nat):Prop where
 lenU:us.length=L+1
 lenO:os.length=L-n+1
 digU:jL us
 digO:jL os
 sum:val os*V+val us=N
 part:vf (λi=>dx us (K+i)) n<V
 high:∀j,K+n<=j->dx us j=0
 low:∀j,j<K->dx os j=0
theorem JF.window {N V n L K:Nat}{us os:List Nat}(h:JF N V n L (K+1) us os):vf (λi=>dx us (K+i)) (n+1)<Bs*V:=by
 have h1:vf (λi=> dx us (K+i)) (n+1)=dx us K+Bs * vf (λi=> dx us (K+1+i)) n:=by
  rw[uV]
  rw[Nat.add_zero]
  congr 2
  exact jW λi _=>by rw[Nat.add_assoc,Nat.add_comm 1 i]
 have h2:=h.part
 have h3:=qI h.digU K
 have h4:=Nat.mul_le_mul_left Bs (show vf (λi=>dx us (K+1+i)) n+1<=V from h2)
 rw[Nat.mul_add]at h4
 omega
theorem JF.step {N V n L K q:Nat}{us us' os:List Nat}(h:JF N V n L (K+1) us os) (hK:K+n<=L) (hVn:V<Bs ^ n) (hlen:us'.length=us.length) (hdig:jL us')
  (hq:q=vf (λi=>dx us (K+i)) (n+1) / V) (hw:vf (λi=>dx us' (K+i)) (n+1)=vf (λi=>dx us (K+i)) (n+1) % V) (hsame:∀j,(j<K\/K+n<j)->dx us' j=dx us j) (hn:n<=L) :
  JF N V n L K us' (os.set K q):=by
 have hwin:=h.window
 have hV0:0 < V:=by
  rcases Nat.eq_zero_or_pos V with h0|h0
  ·rw[h0]at hwin;omega
  ·exact h0
 have hqB:q<Bs:=by rw[hq,Nat.div_lt_iff_lt_mul hV0];exact hwin
 have hi:K<os.length:=by rw[h.lenO];omega
 have hmod:=Nat.mod_lt (vf (λi=>dx us (K+i)) (n+1)) hV0
 have htop:dx us' (K+n)=0:=by
  rcases Nat.eq_zero_or_pos (dx us' (K+n))with h0|h0
  ·exact h0
  ·have e1:vf (λi=>dx us' (K+i)) (n+1)=vf (λi=>dx us' (K+i)) n+dx us' (K+n)*Bs ^ n:=rfl
   have:=Nat.mul_le_mul_right (Bs ^ n) h0
   omega
 have hpart:vf (λi=> dx us' (K+i)) n=vf (λi=> dx us (K+i)) (n+1) % V:=by
  rw[<-hw]
  have e1:vf (λi=>dx us' (K+i)) (n+1)=vf (λi=>dx us' (K+i)) n+dx us' (K+n)*Bs ^ n:=rfl
  rw[e1,htop];omega
 refine⟨by rw[hlen];exact h.lenU,by rw[List.length_set];exact h.lenO,hdig,jB h.digO hqB _,?_,by rw[hpart];exact hmod,λj hj=>?_,λj hj=>?_⟩
 ·have h1:=Yb hi q
  rw[h.low K (by omega)]at h1
  have h2:=h.sum
  have split:∀w:List Nat,w.length=L+1->(∀j,K+n+1<=j->dx w j=0)->val w=vf (dx w) K+Bs ^ K*vf (λi=>dx w (K+i)) (n+1):=λw hl hz=>by
   rw[<-JR,<-qW (l:=w) (k:=L+1) (by omega)]
   exact VC (λi h1 _=>hz i (by omega)) (by omega)
  have s1:=split us h.lenU (λj hj=>h.high j (by omega))
  have s2:=split us' (by rw[hlen];exact h.lenU) (λj hj=>by rw[hsame j (by omega)];exact h.high j (by omega))
  have e1:vf (dx us') K=vf (dx us) K:=jW λi hi=>hsame i (by omega)
  have h3:=Nat.mod_add_div (vf (λi=>dx us (K+i)) (n+1)) V
  rw[<-hq,<-hw]at h3
  rw[s2,e1]
  rw[s1,<-h3,Nat.mul_add]at h2
  have h4:val (os.set K q) * V=val os * V+Bs ^ K * (V * q):=by
   have:val (os.set K q)=val os+q*Bs ^ K:=by omega
   rw[this,Nat.add_mul,Nat.mul_comm q (Bs ^ K),Nat.mul_assoc,Nat.mul_comm q V]
  omega
 ·rcases Nat.eq_or_lt_of_le hj with e|hlt
  ·rw[<-e];exact htop
  ·rw[hsame j (.inr hlt)];exact h.high j (by omega)
 ·rw[jj hi,if_neg (by omega)]
  exact h.low j (by omega)
theorem JF.stop {a b s n L:Nat}{us os:List Nat}(h:JF (s*a) (s*b) n L 0 us os) (hs:0<s):val os=a / b/\val us=s*(a % b)/\vf (dx us) n=val us:=by
 have h1:vf (dx us) n=val us:=by
  rcases Nat.lt_or_ge (L+1) n with hl|hl
  ·exact qW (by rw[h.lenU];omega)
  ·rw[<-qW (l:=us) (k:=L+1) (by rw[h.lenU];omega)]
   exact(VC (λi h1 _=>h.high i (by omega)) hl).symm
 have h2:=h.part
 simp only[Nat.zero_add]at h2
 have h3:vf (λi=>dx us i) n=vf (dx us) n:=rfl
 rw[h3,h1]at h2
 have h4:=h.sum
 have hb:0<s*b:=by omega
 have q1:s * a / (s * b)=val os:=by
  rw[<-h4,Nat.mul_comm (val os),Nat.mul_add_div hb,Nat.div_eq_of_lt h2];omega
 have q2:s * a % (s * b)=val us:=by
  rw[<-h4,Nat.mul_comm (val os),Nat.mul_add_mod,Nat.mod_eq_of_lt h2]
 rw[Nat.mul_div_mul_left _ _ hs]at q1
 rw[Nat.mul_mod_mul_left]at q2
 exact⟨q1.symm,q2.symm,h1⟩
theorem JF.start {a b s n L:Nat}{us:List Nat}(hU:us.length=L+1) (hd:jL us) (hv:val us=s*a) (ha:a<Bs ^ L) (hb:Bs ^ (n-1)<=b) (hs:0<s) (hn:0<n) (hnL:n<=L) :
  JF (s*a) (s*b) n L (L-n+1) us (List.replicate (L-n+1) 0):=by
 refine⟨hU,by simp,hd,zV _,by rw[jT,hv];omega,?_,λj hj=>qP (by rw[hU];omega),λj _=>yw _ _⟩
 have h1:val us=vf (dx us) (L - n+1)+Bs ^ (L - n+1) * vf (λi=> dx us (L - n+1+i)) n:=by
  rw[<-JR,yN,hU]
  congr 1
  omega
 rcases Nat.lt_or_ge (vf (λi=>dx us (L-n+1+i)) n) (s*b)with hlt|hge
 ·exact hlt
 ·have h2:=Nat.mul_le_mul_left (Bs ^ (L-n+1)) hge
  have h3:Bs ^ (L-n+1)*(s*Bs ^ (n-1))<=Bs ^ (L-n+1)*(s*b):=Nat.mul_le_mul_left _ (Nat.mul_le_mul_left _ hb)
  have h4:Bs ^ (L - n+1) * (s * Bs ^ (n - 1))=s * Bs ^ L:=by
   rw[<-Nat.mul_assoc,Nat.mul_comm _ s,Nat.mul_assoc,<-Nat.pow_add]
   congr 2
   omega
  have h5:s*(a+1)<=s*Bs ^ L:=Nat.mul_le_mul_left s ha
  rw[Nat.mul_add]at h5
  omega
theorem J5 {W W1 W2 V q r c n:Nat}(hV0:0<V) (hVn:V<Bs ^ n) (h1:W / V<=q) (h2:q<=W / V+1) (hs:W1+q*V=W+r*Bs ^ (n+1)) (hw1:W1<Bs ^ (n+1)) :
  (r=0->q=W / V/\W1=W % V)/\(r=1->q-1=W / V/\0<q/\(W2+c*Bs ^ (n+1)=W1+V->W2<Bs ^ (n+1)->W2=W % V)):=by
 have hbig:V < Bs ^ (n+1):=by
  rw[Nat.pow_succ]
  have:=Nat.mul_le_mul_left (Bs ^ n) zj
  omega
 generalize Bs ^ (n+1)=M at *
 have hdm:=Nat.mod_add_div W V
 have hlt:=Nat.mod_lt W hV0
 have hle:q*V<=(W / V+1)*V:=Nat.mul_le_mul_right V h2
 have hge:(W / V)*V<=q*V:=Nat.mul_le_mul_right V h1
 rw[Nat.add_mul]at hle
 rw[Nat.mul_comm V]at hdm
 constructor
 ·intro h0
  rw[h0,Nat.zero_mul]at hs
  have hq:q=W / V:=by
   rcases Nat.eq_or_lt_of_le h1 with e|hl
   ·exact e.symm
   ·have:(W / V+1)*V<=q*V:=Nat.mul_le_mul_right V hl
    rw[Nat.add_mul]at this
    omega
  refine⟨hq,?_⟩
  rw[hq]at hs
  omega
 ·intro h0
  rw[h0,Nat.one_mul]at hs
  have hq:q=W / V+1:=by
   rcases Nat.eq_or_lt_of_le h1 with e|hl
   ·have e2:(W / V)*V=q*V:=by rw[e]
    omega
   ·omega
  refine⟨by rw[hq,Nat.add_sub_cancel],by rw[hq];exact Nat.succ_pos _,λh3 h4=>?_⟩
  rw[hq,Nat.add_mul]at hs
  rcases Nat.lt_or_ge c 2 with hc|hc
  ·rcases Nat.eq_zero_or_pos c with h0|h0
   ·subst h0;omega
   ·obtain rfl:c=1:=by omega
    omega
  ·have:=Nat.mul_le_mul_right M hc
   omega
end Go.Proofs.YtjaapemopbbfaaaGreatDoor
