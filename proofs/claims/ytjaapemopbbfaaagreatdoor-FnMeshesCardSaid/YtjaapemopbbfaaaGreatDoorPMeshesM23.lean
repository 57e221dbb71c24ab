import Derived.Test.YtjaapemopbbfaaaGreatDoorPMeshesM22
namespace Go.Proofs.YtjaapemopbbfaaaGreatDoor
open Go.RowKit
set_option maxRecDepth 100000
set_option maxHeartbeats 16000000
def OwG (T:TypeId) (b0 g:Nat) (w:World) (s:Bool) (A:Option Addr) (n c:Nat) (B:Option Addr) (m d:Nat) (r:qH):Prop :=
 ∃bs,FtR T w s A n c B m d r bs/\Fp b0 w.heap.size bs/\g∉bs
section
variable {T:TypeId}{b0 b1 g:Nat}{w W:World}{s:Bool}{A:Option Addr}{n c:Nat}{B:Option Addr}{m d:Nat}{r:qH}
theorem OwG.rd (h:OwG T b0 g w s A n c B m d r):RdR w s A n c B m d r:=by
 obtain⟨bs,h,_⟩:=h
 exact h.rd
theorem OwG.ow (h:OwG T b0 g w s A n c B m d r):OwR T b0 w s A n c B m d r:=by
 obtain⟨bs,h,hf,_⟩:=h
 exact⟨bs,h,hf⟩
theorem OwG.set (h:OwG T b0 g w s A n c B m d r) (i:Nat) (u:Value):OwG T b0 g (w.setCell ⟨g,i,none⟩ u) s A n c B m d r:=by
 obtain⟨bs,h,hf,hg⟩:=h
 exact⟨bs,h.keep (by simp) (λb hb=>Below.heap_setCell w _ u b (by intro e;exact hg ((show b=g from e) ▸ hb))),hf.mono (Nat.le_refl _) (by simp),hg⟩
theorem OwR.exc (h:OwR T b0 w s A n c B m d r) (hb:Bl w W):OwG T b0 w.heap.size W s A n c B m d r:=by
 obtain⟨bs,h,hf⟩:=h
 exact⟨bs,h.bl hb,hf.mono (Nat.le_refl _) hb.size,λhm=>by have:=(hf.2 _ hm).2;omega⟩
theorem OwR.exc2 (h:OwR T b1 w s A n c B m d r) (hg:g<b1) (hb:b0<=b1):OwG T b0 g w s A n c B m d r:=by
 obtain⟨bs,h,hf⟩:=h
 exact⟨bs,h,hf.mono hb (Nat.le_refl _),λhm=>by have:=(hf.2 _ hm).1;omega⟩
theorem fz3 {a b c:Value}(h:Blk W g T #[a,b,c]):W.frozen? ⟨g,0,none⟩=false/\W.frozen? ⟨g,1,none⟩=false/\W.frozen? ⟨g,2,none⟩=false:=⟨h.frozen 0,h.frozen 1,h.frozen 2⟩
end
noncomputable def qcg (l:List qH):Nat->qH
 | 0=>qm 0 1
 | k+1=>Z3 (qcg l k) (pix l k)
noncomputable def qcK (l:List qH):qH:=qcg l l.length
theorem Kp (w:World) {A:Option Addr}{n c:Nat}{l:List qH}(ha:YP w A n c l) :
  Calls Tryz.prog 76 #[.slice A n c] w λe w'=>∃s1 A1 n1 c1 B1 m1 d1,e=.returned (.agg #[.bool s1,.slice A1 n1 c1,.slice B1 m1 d1])/\OwR 3 w.heap.size w' s1 A1 n1 c1 B1 m1 d1 (qcK l)/\Bl w w':=by
 have hna:=ha.small
 have hv:=Lib.hid (show qcK l=qcg l n by unfold qcK;rw[ha.len])
 go_enter Tryz.func76,Tryz.ntmps76
 go_wp2_with fail
 refine qd (λW=>Bl w W/\Wk 3 26 (w.heap.size) W) ⟨slc,bts⟩ ?_
 rintro W ⟨hbW,hr⟩
 refine(YU _ 0 (by omega) (by omega)).mono ?_
 rintro e w1 ⟨s0,A0,n0,c0,B0,m0,d0,rfl,hR0,hb1⟩
 have hz:=hr.lt
 have hr:=hr.bl hb1
 have hbW:=hbW.next hb1
 have hR0:=hR0.mono (show w.heap.size+1<=W.heap.size from hz)
 have hz1:w.heap.size<w1.heap.size:=hr.lt
 clear hb1
 go_wp2_with fail
 go_loopw [9] (λi wr=>∃(k:Nat) (s:Bool) (A1:Option Addr) (n1 c1:Nat) (B1:Option Addr) (m1 d1:Nat),k<=n/\i=.int .i64 (k:Int)/\Blk wr w1.heap.size 26 #[.bool s,.slice A1 n1 c1,.slice B1 m1 d1]/\OwG 3 (w.heap.size+1) w1.heap.size wr s A1 n1 c1 B1 m1 d1 (qcg l k)/\Wk 3 26 w.heap.size wr/\Bl w wr) (λi _=>n-(intOf i).toNat)
 case atStart=>exact⟨0,s0,A0,n0,c0,B0,m0,d0,Nat.zero_le _,rfl,Blk.new _ _ _,hR0.exc ((Bl.refl w1).alloc _),hr.alloc _,hbW.alloc _⟩
 case round=>
  clear hr hbW hR0 hz
  obtain⟨k,s,A1,n1,c1,B1,m1,d1,hk,rfl,hx,hO,hr,hbw⟩:=hrel
  by_cases hkn:k<n
  ·have hki:(k:Int)<(n:Int):=by omega
   obtain⟨ad,rfl,hlta,hca⟩:=ha.cells k hkn
   obtain⟨s3,A3,n3,c3,B3,m3,d3,⟨g0,g1,g2⟩,hu⟩:=hca.bl (by rw[qQ];exact hlta) hbw
   have hgl:=hx.lt
   have hacc:=hO.rd
   clear hO
   go_upto_region 5 with (fail)
   refine qe (λW=>Bl w W/\wr.heap.size<W.heap.size/\Blk W w1.heap.size 26 #[.bool s,.slice A1 n1 c1,.slice B1 m1 d1]/\Blk W wr.heap.size 26 #[.bool s3,.slice A3 n3 c3,.slice B3 m3 d3]/\Wk 3 26 w.heap.size W/\RdR W s A1 n1 c1 B1 m1 d1 (qcg l k)/\RdR W s3 A3 n3 c3 B3 m3 d3 (pix l k)) ⟨slc,by simp,hx.alloc _,Blk.new _ _ _,hr.alloc _,hacc.alloc _,hu.alloc _⟩ ?_
   clear g0 g1 g2 hacc hu hr hx hbw
   rintro W ⟨hbr,hgw,hx2,hx3,hr2,hacc,hu2⟩
   obtain⟨y0,y1,y2⟩:=bx3 hx2
   obtain⟨u0,u1,u2⟩:=bx3 hx3
   go_wp2_with fail
   refine(U0 _ hacc hu2).mono ?_
   rintro e w3 ⟨s5,A5,n5,c5,B5,m5,d5,rfl,hR5,hb3⟩
   have hx4:=hx2.bl hb3
   have hr4:=hr2.bl hb3
   have hb23:=hbr.next hb3
   have hz3:w1.heap.size<W.heap.size:=hx2.lt
   have hz4:w.heap.size<W.heap.size:=hr2.lt
   have hG:=OwR.exc2 hR5 hz3 (show w.heap.size+1<=W.heap.size by omega)
   clear y0 y1 y2 u0 u1 u2
   obtain⟨y0,y1,y2⟩:=bx3 hx4
   obtain⟨z0,z1,z2⟩:=fz3 hx4
   go_wp2_with fail
   go_roundw
   case rel=>exact⟨k+1,s5,A5,n5,c5,B5,m5,d5,by omega,by go_num,(Wk.of hx4 rfl).put3 _ _ _,((hG.set _ _).set _ _).set _ _,((hr4.far (by simp;omega) _).far (by simp;omega) _).far (by simp;omega) _,slc⟩
   case measure=>simp[intOf];omega
  ·obtain rfl:k=n:=by omega
   obtain⟨i0,i1,i2⟩:=bx3 hx
   rw[<-hv.out]at hO
   have hR:=hO.ow
   have hbW:=hbw
   obtain⟨v0,x0⟩:=hr.val_ (i:=0) (by omega)
   obtain⟨v1,x1⟩:=hr.val_ (i:=1) (by omega)
   obtain⟨v2,x2⟩:=hr.val_ (i:=2) (by omega)
   have hg:=hr.lt
   obtain⟨cs4,hB4,hc4⟩:=hr
   have hf0:=hB4.frozen 0
   have hf1:=hB4.frozen 1
   have hf2:=hB4.frozen 2
   go_wp2_with fail
   exact bodyPost_ret (v:=.agg #[.bool s,.slice A1 n1 c1,.slice B1 m1 d1]) (by simp[results,Tryz.results76,go_sem,x0,x1,x2]) rfl ⟨_,_,_,_,_,_,_,rfl,(((hR.far (by simp) _).far (by simp) _).far (by simp) _).mono (by omega),slc⟩
def jE (t:qC):Nat->Int
 | 0=>t.a
 | 1=>t.b
 | _+2=>t.c
def kd (n:Nat) (t:qC) (k:Nat):Prop:=∀j,j<k->0<=jE t j/\jE t j<=(n:Int)-1
def Q8 (l:List PtD) (t:qC) (k:Nat):List PtD:=(List.range k).map λj=>pix l (jE t j).toNat
theorem zA (l:List PtD) (t:qC) (k:Nat):(Q8 l t k).length=k:=by simp[Q8]
theorem jA (l:List PtD) (t:qC) (k:Nat):Q8 l t (k+1)=Q8 l t k++[pix l (jE t k).toNat]:=by unfold Q8;rw[List.range_succ,List.map_append];rfl
theorem kd.step {n:Nat}{t:qC}{k:Nat}(h:kd n t k) (h0:0<=jE t k/\jE t k<=(n:Int)-1):kd n t (k+1):=by
 intro j hj
 rcases Nat.lt_succ_iff_lt_or_eq.1 hj with hj|rfl
 ·exact h j hj
 ·exact h0
open Classical in
noncomputable def QD (x:MeD) (k:Int):List PtD :=
 if (0<=k/\k<=(x.tris.length:Int)-1)/\kd x.points.length (pix x.tris k.toNat) 3 then Q8 x.points (pix x.tris k.toNat) 3 else []
theorem vN (w:World) (a b c r v:Int) :
  Calls Tryz.prog 203 #[.agg #[.int .i64 a,.int .i64 b,.int .i64 c,.int .i64 r,.int .i64 v]] w λe w'=>∃g,e=.returned (.slice (some ⟨g,0,none⟩) 3 3)/\w.heap.size<=g/\Blk w' g 3 #[.int .i64 a,.int .i64 b,.int .i64 c]/\Bl w w':=by
 go_enter Tryz.func203,Tryz.ntmps203
 go_wp2_with fail
 go_ret
 exact⟨_,rfl,by omega,Blk.new1 _ _ _ _,slc⟩
theorem zw.far {T:TypeId}{b0:Nat}{w:World}{s:Bool}{A:Option Addr}{n c:Nat}{B:Option Addr}{m d:Nat}{t:Bool}{C:Option Addr}{i e:Nat}{D:Option Addr}{j f:Nat}{p:PtD}(h:zw YQ T b0 w s A n c B m d t C i e D j f p) {q:Addr}(hp:q.block<b0) (u:Value):zw YQ T b0 (w.setCell q u) s A n c B m d t C i e D j f p:=by
 obtain⟨b1,b2,h1,h2,hf,_⟩:=h
 exact⟨b1,b2,h1.keep (by simp) (λb hb=>Below.heap_setCell w q u b (by have:=(hf b (by simp[hb])).1;omega)),h2.keep (by simp) (λb hb=>Below.heap_setCell w q u b (by have:=(hf b (by simp[hb])).1;omega)),λb hb=>by have:=hf b hb;simpa using this,trivial⟩
theorem zw.low {N:List Nat->Prop}{T:TypeId}{b0 b1:Nat}{w:World}{s:Bool}{A:Option Addr}{n c:Nat}{B:Option Addr}{m d:Nat}{t:Bool}{C:Option Addr}{i e:Nat}{D:Option Addr}{j f:Nat}{p:PtD}(h:zw N T b1 w s A n c B m d t C i e D j f p) (hb:b0<=b1):zw N T b0 w s A n c B m d t C i e D j f p:=by
 obtain⟨c1,c2,h1,h2,hf,hn⟩:=h
 exact⟨c1,c2,h1,h2,λb hm=>⟨Nat.le_trans hb (hf b hm).1,(hf b hm).2⟩,hn⟩
theorem zw.twoQ {T:TypeId}{b0 b1:Nat}{w1 w:World}{s:Bool}{A:Option Addr}{n c:Nat}{B:Option Addr}{m d:Nat}{t:Bool}{C:Option Addr}{i e:Nat}{D:Option Addr}{j f:Nat}{p:PtD}(h:OwQ T b0 w1 s A n c B m d p.x) (k:OwQ T b1 w t C i e D j f p.y) (hb:Bl w1 w) (h1:b0<=b1):zw YQ T b0 w s A n c B m d t C i e D j f p:=by
 obtain⟨c1,f1,g1⟩:=h.bl hb
 obtain⟨c2,f2,g2⟩:=k
 refine⟨c1,c2,f1,f2,λb hm=>?_,trivial⟩
 rcases List.mem_append.1 hm with hm|hm
 ·exact g1 b hm
 ·exact⟨Nat.le_trans h1 (g2 b hm).1,(g2 b hm).2⟩
theorem Qh (w:World) {s:Bool}{A:Option Addr}{n c:Nat}{B:Option Addr}{m d:Nat}{t:Bool}{C:Option Addr}{i e:Nat}{D:Option Addr}{j f:Nat}{p:PtD}(h:RdR w s A n c B m d p.x) (k:RdR w t C i e D j f p.y) (hn:n<=1048576) (hm:m<=1048576) (hi:i<=1048576) (hj:j<=1048576) :
  Calls Tryz.prog 205 #[.agg #[.bool s,.slice A n c,.slice B m d,.bool t,.slice C i e,.slice D j f]] w λen w'=>∃s1 A1 n1 c1 B1 m1 d1 t1 C1 i1 e1 D1 j1 f1,en=.returned (.agg #[.bool s1,.slice A1 n1 c1,.slice B1 m1 d1,.bool t1,.slice C1 i1 e1,.slice D1 j1 f1])/\zw YQ 3 w.heap.size w' s1 A1 n1 c1 B1 m1 d1 t1 C1 i1 e1 D1 j1 f1 p/\Bl w w':=by
 go_enter Tryz.func205,Tryz.ntmps205
 go_wp2_with fail
 refine qe (λW=>Bl w W/\Blk W (w.heap.size) 28 #[.bool s,.slice A n c,.slice B m d,.bool t,.slice C i e,.slice D j f]/\Wk 6 28 (w.heap.size+1) W) ⟨slc,bts,bts⟩ ?_
 rintro W ⟨hbW,hx,hr⟩
 go_region_held3 (λw'=>(w'.cell? ⟨w.heap.size,0,none⟩=some (.bool s)/\w'.cell? ⟨w.heap.size,1,none⟩=some (.slice A n c)/\w'.cell? ⟨w.heap.size,2,none⟩=some (.slice B m d)/\w'.cell? ⟨w.heap.size,3,none⟩=some (.bool t)/\w'.cell? ⟨w.heap.size,4,none⟩=some (.slice C i e)/\w'.cell? ⟨w.heap.size,5,none⟩=some (.slice D j f))/\(w'.cell? ⟨w.heap.size+1,0,none⟩=some (qh w' (w.heap.size+1) 0)/\w'.cell? ⟨w.heap.size+1,1,none⟩=some (qh w' (w.heap.size+1) 1)/\w'.cell? ⟨w.heap.size+1,2,none⟩=some (qh w' (w.heap.size+1) 2)/\w'.cell? ⟨w.heap.size+1,3,none⟩=some (qh w' (w.heap.size+1) 3)/\w'.cell? ⟨w.heap.size+1,4,none⟩=some (qh w' (w.heap.size+1) 4)/\w'.cell? ⟨w.heap.size+1,5,none⟩=some (qh w' (w.heap.size+1) 5))/\w'.frozen? ⟨w.heap.size+1,0,none⟩=false/\w'.frozen? ⟨w.heap.size+1,1,none⟩=false/\w'.frozen? ⟨w.heap.size+1,2,none⟩=false/\w'.frozen? ⟨w.heap.size+1,3,none⟩=false/\w'.frozen? ⟨w.heap.size+1,4,none⟩=false/\w'.frozen? ⟨w.heap.size+1,5,none⟩=false) (first|exact⟨bx6 (T:=28) bts,Wk.out6 (T:=28) bts⟩) (first |(go_at_call 241;with_reducible refine(Yu _ (h.bl slc) hn hm).mono ?_;rintro en w2 ⟨s1,A1,n1,c1,B1,m1,d1,rfl,hR1,hb2⟩) |(go_at_call 241;with_reducible refine(Yu _ (k.bl slc) hi hj).mono ?_;rintro en w3 ⟨t1,C1,i1,e1,D1,j1,f1,rfl,hR2,hb3⟩))
 have hz:w.heap.size+1+1<=W.heap.size:=hr.lt
 have hz2:W.heap.size<=w2.heap.size:=(Bl.size hb2:W.drew.heap.size<=_)
 have hr:=(show Wk 6 28 (w.heap.size+1) w3 from bts)
 have hbW:Bl w w3:=slc
 have hX:=zw.low (zw.twoQ hR1 hR2 hb3 (Bl.size hb2)) (show w.heap.size+1+1<=W.drew.heap.size from hz)
 obtain⟨v0,x0⟩:=hr.val_ (i:=0) (by omega)
 obtain⟨v1,x1⟩:=hr.val_ (i:=1) (by omega)
 obtain⟨v2,x2⟩:=hr.val_ (i:=2) (by omega)
 obtain⟨v3,x3⟩:=hr.val_ (i:=3) (by omega)
 obtain⟨v4,x4⟩:=hr.val_ (i:=4) (by omega)
 obtain⟨v5,x5⟩:=hr.val_ (i:=5) (by omega)
 have hg:=hr.lt
 obtain⟨cs4,hB4,hc4⟩:=hr
 have hf0:=hB4.frozen 0
 have hf1:=hB4.frozen 1
 have hf2:=hB4.frozen 2
 have hf3:=hB4.frozen 3
 have hf4:=hB4.frozen 4
 have hf5:=hB4.frozen 5
 go_wp2_with fail
 exact bodyPost_ret (v:=.agg #[.bool s1,.slice A1 n1 c1,.slice B1 m1 d1,.bool t1,.slice C1 i1 e1,.slice D1 j1 f1]) (by simp[results,Tryz.results205,go_sem,x0,x1,x2,x3,x4,x5]) rfl ⟨_,_,_,_,_,_,_,_,_,_,_,_,_,_,rfl,((((((hX.far (by simp) _).far (by simp) _).far (by simp) _).far (by simp) _).far (by simp) _).far (by simp) _).low (by omega),slc⟩
theorem Blk.past2 {g:Nat}{T:TypeId}{cs:Array Value}{v v':Value}{W w':World}(h:Blk W g T cs) (ho:∀g,g<W.heap.size->v.ownBlock≠Option.some g->w'.heap[g]?=W.heap[g]?/\v'.ownBlock≠Option.some g) (hv:v.ownBlock≠Option.some g):Blk w' g T cs/\v'.ownBlock≠Option.some g :=
 ⟨(ho g h.lt hv).1.trans h,(ho g h.lt hv).2⟩
theorem X1 (w:World) {A:Option Addr}{n c:Nat}{B:Option Addr}{m d:Nat}{x:MeD}(k:Int) (h:qR w A n c x.points) (ht:zx w B m d x.tris) (hsz:szL szP x.points<=1048576) :
  Calls Tryz.prog 75 #[.agg #[.slice A n c,.slice B m d],.int .i64 k] w λe w'=>∃A1 n1 c1,e=.returned (.slice A1 n1 c1)/\qaE 3 28 w.heap.size w'.heap.size w' A1 n1 c1 (QD x k)/\Bl w w':=by
 have hn:=h.small
 have hm:=ht.small
 go_enter Tryz.func75,Tryz.ntmps75
 go_wp2_with fail
 refine(jx _ _ _ _).mono ?_
 by_cases hin:0<=k/\k<=(m:Int)-1
 ·skip
  rw[decide_eq_true hin.1,decide_eq_true hin.2]
  rintro e w1 ⟨rfl,hq1⟩
  have hb1:Bl (w.alloc (.cells #[.slice A n c,.slice B m d] 49)) w1:=by obtain⟨q1,rfl⟩:=hq1;exact(Bl.refl _).drewN q1
  clear hq1
  obtain⟨kk,rfl⟩:=Int.eq_ofNat_of_zero_le hin.1
  have hkk:kk<m:=by omega
  have hkk2:(kk:Int)<(m:Int):=by omega
  clear hin
  have hx0:Blk w1 w.heap.size 49 #[.slice A n c,.slice B m d]:=bts
  have hbc:Bl w w1:=slc
  have hgw:w.heap.size<w1.heap.size:=hx0.lt
  go_upto_region 4 with (fail)
  refine qe (λW=>jK List.Nodup w1.heap.size (w1.heap.size+1) W (.slice (some ⟨w1.heap.size,0,none⟩) 0 0) []/\Bl w1 W) ⟨qO.empty ye w1 (Nat.le_refl _),slc⟩ ?_
  rintro W ⟨hrow0,hbW⟩
  have hx1:=hx0.bl hbW
  have hgW:=qO.hiLe hrow0
  obtain⟨i0,i1⟩:=bx2 hx1
  obtain⟨ad,eB,hlt,hat⟩:=(zx.bl ht (hbc.next hbW)).cells kk hkk
  subst eB
  obtain⟨ta,hta⟩:∃y,y=(pix x.tris kk).a:=⟨_,rfl⟩
  obtain⟨tb,htb⟩:∃y,y=(pix x.tris kk).b:=⟨_,rfl⟩
  obtain⟨tc,htc⟩:∃y,y=(pix x.tris kk).c:=⟨_,rfl⟩
  obtain⟨tr,htr⟩:∃y,y=(pix x.tris kk).region:=⟨_,rfl⟩
  obtain⟨tv,htv⟩:∃y,y=(pix x.tris kk).level:=⟨_,rfl⟩
  have hst:Hid (pix x.tris kk=⟨ta,tb,tc,tr,tv⟩):=by rw[hta,htb,htc,htr,htv];exact rfl
  obtain⟨f0,f1,f2,f3,f4⟩:=hat
  rw[<-hta]at f0
  rw[<-htb]at f1
  rw[<-htc]at f2
  rw[<-htr]at f3
  rw[<-htv]at f4
  clear hta htb htc htr htv hb1 hx1
  go_wp2_with fail
  refine(Zl _ ⟨ta,tb,tc,tr,tv⟩).mono ?_
  rintro e w2 ⟨rfl,hb2⟩
  clear f0 f1 f2 f3 f4 i0 i1 hlt
  go_wp2_with fail
  go_loopw [5,22] (λv i wr=>∃(k hi:Nat),k<=3/\i=.int .i64 (k:Int)/\jK List.Nodup w1.heap.size hi wr v (Q8 x.points ⟨ta,tb,tc,tr,tv⟩ k)/\kd n ⟨ta,tb,tc,tr,tv⟩ k/\Bl w1 wr/\w1.heap.size<=hi) (λ_ i _=>3-(intOf i).toNat)
  case atStart=>exact⟨0,w1.heap.size+1,by omega,rfl,qO.bl (qx 3) hrow0 hb2,λj hj=>by omega,hbW.next hb2,by omega⟩
  case round=>
   clear hb2 hrow0 hgW hbW
   obtain⟨k,hi,hk,rfl,hrow,hok,hbw,hlh⟩:=hrel
   rcases(show k=0\/k=1\/k=2\/k=3 by omega)with rfl|rfl|rfl|rfl
   ·skip
    have e0:((0:Nat):Int)=0:=rfl
    rw[e0]
    clear e0 hk
    have hw:IntKind.i64.wrap 1=1:=by rfl
    have hhi0:=qO.hiLe hrow
    have hzo:=Bl.size hbw
    have hx:=hx0.bl hbw
    obtain⟨i0,i1⟩:=bx2 hx
    have hix:∀W:World,(Instr.index 96 (.agg #[.int .i64 ta,.int .i64 tb,.int .i64 tc]) (.int .i64 0)).run Tryz.prog W=.ok (.int .i64 ta) W:=λ_=>by kernel_rfl
    go_wp2_with fail
    refine(jx _ _ _ _).mono ?_
    by_cases hin:0<=ta/\ta<=(n:Int)-1
    ·skip
     rw[decide_eq_true hin.1,decide_eq_true hin.2]
     rintro e w2 ⟨rfl,hq2⟩
     have hb2:Bl wr w2:=by obtain⟨q2,rfl⟩:=hq2;exact slc
     clear hq2
     have hok':kd n ⟨ta,tb,tc,tr,tv⟩ 1:=hok.step hin
     clear hok
     obtain⟨ka,rfl⟩:=Int.eq_ofNat_of_zero_le hin.1
     have hka:ka<n:=by omega
     clear hin
     have hok':=Lib.hid hok';rename_i h_;clear h_
     have hka2:(ka:Int)<(n:Int):=by omega
     have hX2:=hx.bl hb2
     have hrow2:=qO.bl (qx 3) hrow hb2
     clear hx hrow i0 i1 hix
     obtain⟨i0,i1⟩:=bx2 hX2
     obtain⟨ad,eA,hlt,hat⟩:=(qR.bl h ((hbc.next hbw).next hb2)).cells ka hka
     have hpz:=vG szP x.points (k:=ka) (by rw[h.len];exact hka)
     have hcs:=Lib.hid (jA x.points ⟨(ka:Int),tb,tc,tr,tv⟩ 0)
     have hcs2:pix x.points (jE ⟨(ka:Int),tb,tc,tr,tv⟩ 0).toNat=pix x.points ka:=rfl
     rw[hcs2]at hcs
     clear hcs2
     generalize pix x.points ka=pk at hcs hat hpz
     subst eA
     obtain⟨s2,A2,n2,c2,B2,m2,d2,t2,C2,i2,e2,D2,j2,f2,⟨g0,g1,g2,g3,g4,g5⟩,hX,hY⟩:=hat
     have l1:=Lib.hid hX.mag.len;have l2:=Lib.hid hX.den.len;have l3:=Lib.hid hY.mag.len;have l4:=Lib.hid hY.den.len
     have hsm:n2<=1048576/\m2<=1048576/\i2<=1048576/\j2<=1048576:=by
      have a1:=l1.out;have a2:=l2.out;have a3:=l3.out;have a4:=l4.out
      simp only[szP,szR]at hpz
      omega
     clear hpz
     go_wp2_with fail
     refine(Qg _ hX hY hsm.1 hsm.2.1 hsm.2.2.1 hsm.2.2.2).mono ?_
     rintro e w3 ⟨A1,n1,c1,B1,m1,d1,C1,i1',e1,D1,j1,f1,rfl,hP,hb3⟩
     have hrow3:=qO.bl (qx 3) hrow2 hb3
     skip
     have hb4:=(hbw.next hb2).next hb3
     have hhi3:hi<=w2.heap.size:=Nat.le_trans hhi0 (Bl.size hb2)
     have hP:=zw.of hP
     clear hrow2 hX2
     go_wp2_with ((refine qT ye rfl (.tmp 32) (.tmp 39) rfl _ (by rfl) hrow3 hP hhi3 hlh 1 (by rfl) (by rw[zA];omega) w1 hb4 (Nat.le_refl _) ?_;intro v' w8 hrow' hb8' hoth;clear hrow3 hP))
     have hz8:=hb8'.size
     rw[<-hcs.out]at hrow'
     skip
     go_roundw
     case rel=>exact⟨1,_,by omega,rfl,hrow',hok'.out,hb8',hz8⟩
     case measure=>simp[intOf]
    ·skip
     have hnb:(decide (0<=ta) && decide (ta<=(n:Int) - 1))=false:=by
      rw[Bool.and_eq_false_iff]
      rcases Decidable.not_and_iff_or_not.1 hin with h'|h'
      ·exact .inl (decide_eq_false h')
      ·exact .inr (decide_eq_false h')
     rw[hnb]
     clear hnb
     rintro e w2 ⟨rfl,hq2⟩
     have hb2:Bl wr w2:=by obtain⟨q2,rfl⟩:=hq2;exact slc
     clear hq2
     have hv:=Lib.hid <| show QD x ((kk:Nat):Int)=[]from if_neg λha=>hin (by have this:0<=jE (pix x.tris kk) 0/\jE (pix x.tris kk) 0<=(x.points.length:Int)-1:=ha.2 0 (by omega);rw[hst.out,h.len]at this;exact this)
     replace hin:=Lib.hid hin
     clear hok
     go_wp2_with fail
     go_ret
     rw[hv.out]
     exact⟨_,_,_,rfl,⟨rfl,Nat.le_refl _,Nat.zero_le _,.inl rfl⟩,(hbc.next hbw).next hb2⟩
   ·skip
    have e0:((1:Nat):Int)=1:=rfl
    rw[e0]
    clear e0 hk
    have hw:IntKind.i64.wrap 2=2:=by rfl
    have hhi0:=qO.hiLe hrow
    have hzo:=Bl.size hbw
    have hx:=hx0.bl hbw
    obtain⟨i0,i1⟩:=bx2 hx
    have hix:∀W:World,(Instr.index 96 (.agg #[.int .i64 ta,.int .i64 tb,.int .i64 tc]) (.int .i64 1)).run Tryz.prog W=.ok (.int .i64 tb) W:=λ_=>by kernel_rfl
    go_wp2_with fail
    refine(jx _ _ _ _).mono ?_
    by_cases hin:0<=tb/\tb<=(n:Int)-1
    ·skip
     rw[decide_eq_true hin.1,decide_eq_true hin.2]
     rintro e w2 ⟨rfl,hq2⟩
     have hb2:Bl wr w2:=by obtain⟨q2,rfl⟩:=hq2;exact slc
     clear hq2
     have hok':kd n ⟨ta,tb,tc,tr,tv⟩ 2:=hok.step hin
     clear hok
     obtain⟨ka,rfl⟩:=Int.eq_ofNat_of_zero_le hin.1
     have hka:ka<n:=by omega
     clear hin
     have hok':=Lib.hid hok';rename_i h_;clear h_
     have hka2:(ka:Int)<(n:Int):=by omega
     have hX2:=hx.bl hb2
     have hrow2:=qO.bl (qx 3) hrow hb2
     clear hx hrow i0 i1 hix
     obtain⟨i0,i1⟩:=bx2 hX2
     obtain⟨ad,eA,hlt,hat⟩:=(qR.bl h ((hbc.next hbw).next hb2)).cells ka hka
     have hpz:=vG szP x.points (k:=ka) (by rw[h.len];exact hka)
     have hcs:=Lib.hid (jA x.points ⟨ta,(ka:Int),tc,tr,tv⟩ 1)
     have hcs2:pix x.points (jE ⟨ta,(ka:Int),tc,tr,tv⟩ 1).toNat=pix x.points ka:=rfl
     rw[hcs2]at hcs
     clear hcs2
     generalize pix x.points ka=pk at hcs hat hpz
     subst eA
     obtain⟨s2,A2,n2,c2,B2,m2,d2,t2,C2,i2,e2,D2,j2,f2,⟨g0,g1,g2,g3,g4,g5⟩,hX,hY⟩:=hat
     have l1:=Lib.hid hX.mag.len;have l2:=Lib.hid hX.den.len;have l3:=Lib.hid hY.mag.len;have l4:=Lib.hid hY.den.len
     have hsm:n2<=1048576/\m2<=1048576/\i2<=1048576/\j2<=1048576:=by
      have a1:=l1.out;have a2:=l2.out;have a3:=l3.out;have a4:=l4.out
      simp only[szP,szR]at hpz
      omega
     clear hpz
     go_wp2_with fail
     refine(Qg _ hX hY hsm.1 hsm.2.1 hsm.2.2.1 hsm.2.2.2).mono ?_
     rintro e w3 ⟨A1,n1,c1,B1,m1,d1,C1,i1',e1,D1,j1,f1,rfl,hP,hb3⟩
     have hrow3:=qO.bl (qx 3) hrow2 hb3
     skip
     have hb4:=(hbw.next hb2).next hb3
     have hhi3:hi<=w2.heap.size:=Nat.le_trans hhi0 (Bl.size hb2)
     have hP:=zw.of hP
     clear hrow2 hX2
     go_wp2_with ((refine qT ye rfl (.tmp 32) (.tmp 39) rfl _ (by rfl) hrow3 hP hhi3 hlh 1 (by rfl) (by rw[zA];omega) w1 hb4 (Nat.le_refl _) ?_;intro v' w8 hrow' hb8' hoth;clear hrow3 hP))
     have hz8:=hb8'.size
     rw[<-hcs.out]at hrow'
     skip
     go_roundw
     case rel=>exact⟨2,_,by omega,rfl,hrow',hok'.out,hb8',hz8⟩
     case measure=>simp[intOf]
    ·skip
     have hnb:(decide (0<=tb) && decide (tb<=(n:Int) - 1))=false:=by
      rw[Bool.and_eq_false_iff]
      rcases Decidable.not_and_iff_or_not.1 hin with h'|h'
      ·exact .inl (decide_eq_false h')
      ·exact .inr (decide_eq_false h')
     rw[hnb]
     clear hnb
     rintro e w2 ⟨rfl,hq2⟩
     have hb2:Bl wr w2:=by obtain⟨q2,rfl⟩:=hq2;exact slc
     clear hq2
     have hv:=Lib.hid <| show QD x ((kk:Nat):Int)=[]from if_neg λha=>hin (by have this:0<=jE (pix x.tris kk) 1/\jE (pix x.tris kk) 1<=(x.points.length:Int)-1:=ha.2 1 (by omega);rw[hst.out,h.len]at this;exact this)
     replace hin:=Lib.hid hin
     clear hok
     go_wp2_with fail
     go_ret
     rw[hv.out]
     exact⟨_,_,_,rfl,⟨rfl,Nat.le_refl _,Nat.zero_le _,.inl rfl⟩,(hbc.next hbw).next hb2⟩
   ·skip
    have e0:((2:Nat):Int)=2:=rfl
    rw[e0]
    clear e0 hk
    have hw:IntKind.i64.wrap 3=3:=by rfl
    have hhi0:=qO.hiLe hrow
    have hzo:=Bl.size hbw
    have hx:=hx0.bl hbw
    obtain⟨i0,i1⟩:=bx2 hx
    have hix:∀W:World,(Instr.index 96 (.agg #[.int .i64 ta,.int .i64 tb,.int .i64 tc]) (.int .i64 2)).run Tryz.prog W=.ok (.int .i64 tc) W:=λ_=>by kernel_rfl
    go_wp2_with fail
    refine(jx _ _ _ _).mono ?_
    by_cases hin:0<=tc/\tc<=(n:Int)-1
    ·skip
     rw[decide_eq_true hin.1,decide_eq_true hin.2]
     rintro e w2 ⟨rfl,hq2⟩
     have hb2:Bl wr w2:=by obtain⟨q2,rfl⟩:=hq2;exact slc
     clear hq2
     have hok':kd n ⟨ta,tb,tc,tr,tv⟩ 3:=hok.step hin
     clear hok
     obtain⟨ka,rfl⟩:=Int.eq_ofNat_of_zero_le hin.1
     have hka:ka<n:=by omega
     clear hin
     have hok':=Lib.hid hok';rename_i h_;clear h_
     have hka2:(ka:Int)<(n:Int):=by omega
     have hX2:=hx.bl hb2
     have hrow2:=qO.bl (qx 3) hrow hb2
     clear hx hrow i0 i1 hix
     obtain⟨i0,i1⟩:=bx2 hX2
     obtain⟨ad,eA,hlt,hat⟩:=(qR.bl h ((hbc.next hbw).next hb2)).cells ka hka
     have hpz:=vG szP x.points (k:=ka) (by rw[h.len];exact hka)
     have hcs:=Lib.hid (jA x.points ⟨ta,tb,(ka:Int),tr,tv⟩ 2)
     have hcs2:pix x.points (jE ⟨ta,tb,(ka:Int),tr,tv⟩ 2).toNat=pix x.points ka:=rfl
     rw[hcs2]at hcs
     clear hcs2
     generalize pix x.points ka=pk at hcs hat hpz
     subst eA
     obtain⟨s2,A2,n2,c2,B2,m2,d2,t2,C2,i2,e2,D2,j2,f2,⟨g0,g1,g2,g3,g4,g5⟩,hX,hY⟩:=hat
     have l1:=Lib.hid hX.mag.len;have l2:=Lib.hid hX.den.len;have l3:=Lib.hid hY.mag.len;have l4:=Lib.hid hY.den.len
     have hsm:n2<=1048576/\m2<=1048576/\i2<=1048576/\j2<=1048576:=by
      have a1:=l1.out;have a2:=l2.out;have a3:=l3.out;have a4:=l4.out
      simp only[szP,szR]at hpz
      omega
     clear hpz
     go_wp2_with fail
     refine(Qg _ hX hY hsm.1 hsm.2.1 hsm.2.2.1 hsm.2.2.2).mono ?_
     rintro e w3 ⟨A1,n1,c1,B1,m1,d1,C1,i1',e1,D1,j1,f1,rfl,hP,hb3⟩
     have hrow3:=qO.bl (qx 3) hrow2 hb3
     skip
     have hb4:=(hbw.next hb2).next hb3
     have hhi3:hi<=w2.heap.size:=Nat.le_trans hhi0 (Bl.size hb2)
     have hP:=zw.of hP
     clear hrow2 hX2
     go_wp2_with ((refine qT ye rfl (.tmp 32) (.tmp 39) rfl _ (by rfl) hrow3 hP hhi3 hlh 1 (by rfl) (by rw[zA];omega) w1 hb4 (Nat.le_refl _) ?_;intro v' w8 hrow' hb8' hoth;clear hrow3 hP))
     have hz8:=hb8'.size
     rw[<-hcs.out]at hrow'
     skip
     go_roundw
     case rel=>exact⟨3,_,by omega,rfl,hrow',hok'.out,hb8',hz8⟩
     case measure=>simp[intOf]
    ·skip
     have hnb:(decide (0<=tc) && decide (tc<=(n:Int) - 1))=false:=by
      rw[Bool.and_eq_false_iff]
      rcases Decidable.not_and_iff_or_not.1 hin with h'|h'
      ·exact .inl (decide_eq_false h')
      ·exact .inr (decide_eq_false h')
     rw[hnb]
     clear hnb
     rintro e w2 ⟨rfl,hq2⟩
     have hb2:Bl wr w2:=by obtain⟨q2,rfl⟩:=hq2;exact slc
     clear hq2
     have hv:=Lib.hid <| show QD x ((kk:Nat):Int)=[]from if_neg λha=>hin (by have this:0<=jE (pix x.tris kk) 2/\jE (pix x.tris kk) 2<=(x.points.length:Int)-1:=ha.2 2 (by omega);rw[hst.out,h.len]at this;exact this)
     replace hin:=Lib.hid hin
     clear hok
     go_wp2_with fail
     go_ret
     rw[hv.out]
     exact⟨_,_,_,rfl,⟨rfl,Nat.le_refl _,Nat.zero_le _,.inl rfl⟩,(hbc.next hbw).next hb2⟩
   ·skip
    have e0:((3:Nat):Int)=3:=rfl
    rw[e0]
    clear e0 hk
    have hv:QD x ((kk:Nat):Int)=Q8 x.points ⟨ta,tb,tc,tr,tv⟩ 3:=by
     unfold QD
     rw[show ((kk:Nat):Int).toNat=kk from rfl,hst.out,if_pos ⟨⟨by omega,by rw[ht.len];omega⟩,by rw[h.len];exact hok⟩]
    replace hv:=Lib.hid hv
    replace hok:=Lib.hid hok
    obtain⟨A1,c1,rfl,hZ⟩:=jK.own hrow (by rw[zA];omega)
    have hhi0:=qO.hiLe hrow
    rw[zA]at hZ ⊢
    clear hrow
    go_wp2_with fail
    go_ret
    rw[hv.out]
    exact⟨_,_,_,rfl,hZ.low (Bl.size hbc) hhi0,hbc.next hbw⟩
 ·skip
  have hnb:(decide (0<=k) && decide (k<=(m:Int) - 1))=false:=by
   rw[Bool.and_eq_false_iff]
   rcases Decidable.not_and_iff_or_not.1 hin with h'|h'
   ·exact .inl (decide_eq_false h')
   ·exact .inr (decide_eq_false h')
  rw[hnb]
  clear hnb
  rintro e w1 ⟨rfl,hq1⟩
  have hb1:Bl (w.alloc (.cells #[.slice A n c,.slice B m d] 49)) w1:=by obtain⟨q1,rfl⟩:=hq1;exact(Bl.refl _).drewN q1
  clear hq1
  have hv:=Lib.hid <| show QD x k=[]from if_neg λha=>hin (by have:=ha.1;rw[ht.len]at this;exact this)
  replace hin:=Lib.hid hin
  go_wp2_with fail
  go_ret
  rw[hv.out]
  exact⟨_,_,_,rfl,⟨rfl,Nat.le_refl _,Nat.zero_le _,.inl rfl⟩,slc⟩
section
variable {x0 y0 x1 y1 x2 y2:Rat}
theorem Kf:qm 0 1=toR (mkRat 0 1)/\Bd 1 (mkRat 0 1)/\mkRat 0 1=0:=by
 have hb:Bd 1 (mkRat 0 1):=UY (by omega) (by decide) (by omega)
 refine⟨?_,hb,by decide +kernel⟩
 rw[j6 0 (by omega),if_pos (hb.fit (by decide))]
end
theorem qz (w:World) {s:Bool}{A:Option Addr}{n c:Nat}{B:Option Addr}{m d:Nat}{r:qH}{s':Bool}{A':Option Addr}{n' c':Nat}{B':Option Addr}{m' d':Nat}{r':qH}(h:RdR w s A n c B m d r) (k:RdR w s' A' n' c' B' m' d' r') (ho:OkR r/\OkR r') :
  Calls Tryz.prog 249 #[.agg #[.bool s,.slice A n c,.slice B m d],.agg #[.bool s',.slice A' n' c',.slice B' m' d']] w λe w'=>e=.returned (.int .i64 (JL r r'))/\Bl w w':=by
 have hL:=OkR.lens h ho.1
 have hL':=OkR.lens k ho.2
 have hval:=Lib.hid (K9 ho)
 have h1:=Lib.hid (jU.2 ho.1)
 have h2:=Lib.hid (jU.2 ho.2)
 clear ho
 generalize hcz:jF (rn r*(rd r':Int)) (rn r'*(rd r:Int))=cz at *
 replace hcz:=Lib.hid hcz
 go_enter Tryz.func249,Tryz.ntmps249
 go_upto_region 1 with (fail)
 refine qe (λW=>Bl w W/\∃g2 g3,Blk W g2 26 #[.bool s,.slice A n c,.slice B m d]/\Blk W g3 26 #[.bool s',.slice A' n' c',.slice B' m' d']/\g2=w.heap.size/\g3=w.heap.size+1) ⟨slc,_,_,by exact bts,by exact bts,rfl,rfl⟩ ?_
 rintro W ⟨hbW,g2,g3,hx,hx',hg2,hg3⟩
 rw[<-hg3,<-hg2]
 clear hg2 hg3
 obtain⟨i0,i1,i2⟩:=bx3 hx
 go_wp2_with fail
 refine(qw _ (h.bl hbW)).mono ?_
 rw[h1.out]
 rintro e w1 ⟨rfl,hb1⟩
 have hx:=hx.bl hb1
 have hx':=hx'.bl hb1
 have hbW:=hbW.next hb1
 clear hb1 i0 i1 i2
 obtain⟨j0,j1,j2⟩:=bx3 hx'
 go_wp2_with fail
 refine(qw _ (k.bl hbW)).mono ?_
 rw[h2.out]
 rintro e w2 ⟨rfl,hb2⟩
 have hx:=hx.bl hb2
 have hx':=hx'.bl hb2
 have hbW:=hbW.next hb2
 clear hb2 j0 j1 j2
 obtain⟨i0,i1,i2⟩:=bx3 hx
 obtain⟨j0,j1,j2⟩:=bx3 hx'
 go_wp2_with fail
 refine(U3 _ (IsR.out (h.bl hbW) (jU.1 h1.out)) (IsR.out (k.bl hbW) (jU.1 h2.out)) (by omega) (by omega) (by omega) (by omega) hL.2.2 hL'.2.2).mono ?_
 rw[hcz.out]
 rintro e w3 ⟨rfl,hb3⟩
 go_wp2_with fail
 go_ret
 exact⟨by rw[hval.out];rfl,hbW.next hb3⟩
def Qn (a b:PtD) (l:List PtD):Prop:=∀k,k<l.length->¬0<Zi (Yc a b (pix l k))
def qcc (a b:PtD) (l:List PtD) (k:Nat):Prop:=∀j,j<k->¬0<Zi (Yc a b (pix l j))
theorem qcc.zero (a b:PtD) (l:List PtD):qcc a b l 0:=λj hj=>by omega
theorem qcc.step {a b:PtD}{l:List PtD}{k:Nat}(h:qcc a b l k) (h0:¬0<Zi (Yc a b (pix l k))):qcc a b l (k+1):=by
 intro j hj
 rcases Nat.lt_succ_iff_lt_or_eq.1 hj with hj|rfl
 ·exact h j hj
 ·exact h0
def KG (a b c:PtD) (m:List PtD) (k:Nat):Prop:=(0<k->¬Qn a b m)/\(1<k->¬Qn b c m)/\(2<k->¬Qn c a m)
def qeJ (l m:List PtD):Prop:=∃a b c,l=[a,b,c]/\(Qn a b m\/Qn b c m\/Qn c a m)
open Classical in
noncomputable def U9 (l m:List PtD):Bool:=decide (qeJ l m)
theorem QX {a b c:PtD}{m:List PtD}(h:Qn a b m\/Qn b c m\/Qn c a m):U9 [a,b,c] m=true:=by
 unfold U9
 simp only[decide_eq_true_eq]
 exact⟨a,b,c,rfl,h⟩
theorem qb6 {a b c:PtD}{m:List PtD}(h:KG a b c m 3):U9 [a,b,c] m=false:=by
 unfold U9
 simp only[decide_eq_false_iff_not]
 rintro ⟨a',b',c',e,hk⟩
 injection e with e1 e
 injection e with e2 e
 injection e with e3 e
 subst e1 e2 e3
 rcases hk with hk|hk|hk
 ·exact h.1 (by omega) hk
 ·exact h.2.1 (by omega) hk
 ·exact h.2.2 (by omega) hk
end Go.Proofs.YtjaapemopbbfaaaGreatDoor
