import Derived.Test.YtjaapemopbbfaaaGreatDoorPMeshesM21
namespace Go.Proofs.YtjaapemopbbfaaaGreatDoor
open Go.RowKit
set_option maxRecDepth 100000
set_option maxHeartbeats 8000000
theorem OwL.grown {E:TypeId}{base:Nat}{w w':World}{v:Value}{l:List Int}{row:Option Nat}(h:OwL E base w v l) (hg:w.grownBy w' row) (hr:∀k,row=some k->v.ownBlock≠some k):OwL E base w' v l:=by
 refine⟨h.1,?_⟩
 rcases h.2 with h2 |⟨g,cap,cur,hv,hgb,hh,r⟩
 ·exact .inl h2
 ·exact .inr ⟨g,cap,cur,hv,hgb,(hg.block g (qV hh) (by intro e;exact hr g e.symm (by rw[hv];rfl))).trans hh,r⟩
theorem OwI.past {T E:TypeId}{b0 k:Nat}{w w':World}{A:Option Addr}{n c:Nat}{l:List Int}(h:OwI T b0 w A n c l) (hg:w.grownBy w' (some k)) (hk:w.heap[k]?=some (.cells #[] E)):OwI T b0 w' A n c l:=by
 obtain⟨bs,h1,hf⟩:=FtI.of_own h
 have h2 : FtI T w' A n c l bs := h1.keep hg.size (λb hb => hg.block b (hf.2 b hb).2 (by
  intro e
  injection e with e
  subst e
  rcases h1.2 with ⟨_,e2⟩ |⟨g,cs,h0,_,hh,hn,e2⟩
  ·rw[e2]at hb;cases hb
  ·rw[e2]at hb
   simp at hb
   subst hb
   rw[hk]at hh
   injection hh with hh
   injection hh with hh
   subst hh
   simp at hn
   omega))
 refine⟨h2.1,?_⟩
 rcases h2.2 with ⟨h0,_⟩ |⟨g,cs,_,e,hh,hn,e2⟩
 ·exact .inl h0
 ·exact .inr ⟨g,cs,e,(hf.2 g (by rw[e2];simp)).1,hh,hn⟩
theorem OwL.empty1 {E:TypeId}{base:Nat}(W:World) (o:Obj) {cur:Array Value}(hb:base<=W.heap.size+1) (hm:cur.size<=maxLen):OwL E base ((W.alloc o).alloc (.cells cur E)) (.slice (some ⟨W.heap.size+1,0,none⟩) 0 cur.size) []:=by
 have h:=OwL.empty (E:=E) (base:=base) (W.alloc o) (cur:=cur) (by rw[World.size_alloc];exact hb) hm
 rwa [World.size_alloc]at h
def OwQ (T:TypeId) (b0:Nat) (w:World) (s:Bool) (A:Option Addr) (n c:Nat) (B:Option Addr) (m d:Nat) (r:qH):Prop :=
 ∃bs,FtR T w s A n c B m d r bs/\∀b∈bs,b0<=b/\b<w.heap.size
section
variable {T:TypeId}{b0 b1:Nat}{w W:World}{s:Bool}{A:Option Addr}{n c:Nat}{B:Option Addr}{m d:Nat}{r:qH}
theorem OwQ.two (hs:s=r.neg) (h:OwI T b0 w A n c r.mag) (k:OwI T b0 w B m d r.den):OwQ T b0 w s A n c B m d r:=by
 obtain⟨b1,h1,f1⟩:=FtI.of_own h
 obtain⟨b2,h2,f2⟩:=FtI.of_own k
 refine⟨b1++b2,⟨hs,b1,b2,h1,h2,rfl⟩,λb hb=>?_⟩
 rcases List.mem_append.1 hb with hb|hb
 ·exact f1.2 b hb
 ·exact f2.2 b hb
theorem OwQ.bl (h:OwQ T b0 w s A n c B m d r) (hb:Bl w W):OwQ T b0 W s A n c B m d r:=by
 obtain⟨bs,h,hf⟩:=h
 exact⟨bs,h.bl hb,λb hm=>⟨(hf b hm).1,Nat.lt_of_lt_of_le (hf b hm).2 hb.size⟩⟩
end
theorem Yu (w:World) {s:Bool}{A:Option Addr}{n c:Nat}{B:Option Addr}{m d:Nat}{r:qH}(h:RdR w s A n c B m d r) (hn:n<=1048576) (hm:m<=1048576) :
  Calls Tryz.prog 241 #[.agg #[.bool s,.slice A n c,.slice B m d]] w λe w'=>∃s1 A1 n1 c1 B1 m1 d1,e=.returned (.agg #[.bool s1,.slice A1 n1 c1,.slice B1 m1 d1])/\OwQ 3 w.heap.size w' s1 A1 n1 c1 B1 m1 d1 r/\Bl w w':=by
 have hs:=Lib.hid h.neg
 have hl1:Hid ((([]:List Int)++r.mag).length=n):=by have:=RdI.len h.mag;unfold Hid;simpa using this
 have hl2:Hid ((([]:List Int)++r.den).length=m):=by have:=RdI.len h.den;unfold Hid;simpa using this
 go_enter Tryz.func241,Tryz.ntmps241
 go_wp2_with fail
 refine qe (λW=>Bl w W/\Blk W (w.heap.size) 26 #[.bool s,.slice A n c,.slice B m d]/\Wk 3 26 (w.heap.size+1) W) ⟨slc,bts,bts⟩ ?_
 rintro W ⟨hbW,hx,hr⟩
 have hzW:=hr.lt
 go_region_held3 (λw'=>(w'.cell? ⟨w.heap.size,0,none⟩=some (.bool s)/\w'.cell? ⟨w.heap.size,1,none⟩=some (.slice A n c)/\w'.cell? ⟨w.heap.size,2,none⟩=some (.slice B m d))/\(w'.cell? ⟨w.heap.size+1,0,none⟩=some (qh w' (w.heap.size+1) 0)/\w'.cell? ⟨w.heap.size+1,1,none⟩=some (qh w' (w.heap.size+1) 1)/\w'.cell? ⟨w.heap.size+1,2,none⟩=some (qh w' (w.heap.size+1) 2))/\w'.frozen? ⟨w.heap.size+1,0,none⟩=false/\w'.frozen? ⟨w.heap.size+1,1,none⟩=false/\w'.frozen? ⟨w.heap.size+1,2,none⟩=false) (first|exact⟨bx3 (T:=26) bts,Wk.out3 (T:=26) bts⟩) (first |(refine ze (w0:=W) qn Tryz.underlying22 rfl (.tmp 6) (.tmp 9) rfl _ [] (by rfl) (OwL.empty W.drew (Nat.le_refl _) (by simp)) slc A n c (by rfl) r.mag (h.mag.bl slc) (by simp) (by omega) ?_;intro v1 w5 hown hb5 hg5;(obtain⟨A1,c1,hv,ho1⟩:=hown.own (by rw[hl1.out];omega));rw[hl1.out]at hv ho1;subst hv;rw[List.nil_append]at ho1) |(refine ze (w0:=W) qn Tryz.underlying22 rfl (.tmp 6) (.tmp 9) rfl _ [] (by rfl) ((OwL.empty W.drew (Nat.le_refl _) (by simp)).alloc _) slc A n c (by rfl) r.mag (h.mag.bl slc) (by simp) (by omega) ?_;intro v1 w5 hown hb5 hg5;(obtain⟨A1,c1,hv,ho1⟩:=hown.own (by rw[hl1.out];omega));rw[hl1.out]at hv ho1;subst hv;rw[List.nil_append]at ho1) |(refine ze (w0:=W) qn Tryz.underlying22 rfl (.tmp 6) (.tmp 9) rfl _ [] (by rfl) (OwL.empty1 W.drew _ (Nat.le_succ _) (by simp)) slc A n c (by rfl) r.mag (h.mag.bl slc) (by simp) (by omega) ?_;intro v1 w5 hown hb5 hg5;(obtain⟨A1,c1,hv,ho1⟩:=hown.own (by rw[hl1.out];omega));rw[hl1.out]at hv ho1;subst hv;rw[List.nil_append]at ho1) |(refine ze (w0:=w5) qn Tryz.underlying22 rfl (.tmp 12) (.tmp 14) rfl _ [] (by rfl) (OwL.empty w5 (Nat.le_refl _) (by simp)) slc B m d (by rfl) r.den (h.den.bl slc) (by simp) (by omega) ?_;intro v2 w6 hown hb6 hg6;(obtain⟨B1,d1,hv,ho2⟩:=hown.own (by rw[hl2.out];omega));rw[hl2.out]at hv ho2;subst hv;rw[List.nil_append]at ho2) |(refine ze (w0:=W) qn Tryz.underlying22 rfl (.tmp 12) (.tmp 14) rfl _ [] (by rfl) (((OwL.empty1 (base:=W.heap.size) W _ (Nat.le_succ _) (by simp)).drew).grown hg5 (by intro k hk;simp[Value.ownBlock]at hk ⊢;omega)) slc B m d (by rfl) r.den (h.den.bl slc) (by simp) (by omega) ?_;intro v2 w6 hown hb6 hg6;(obtain⟨B1,d1,hv,ho2⟩:=hown.own (by rw[hl2.out];omega));rw[hl2.out]at hv ho2;subst hv;rw[List.nil_append]at ho2) |(refine ze (w0:=W) qn Tryz.underlying22 rfl (.tmp 12) (.tmp 14) rfl _ [] (by rfl) ((((OwL.empty (base:=W.heap.size) W (Nat.le_refl _) (by simp)).alloc _).drew).grown hg5 (by intro k hk;simp[Value.ownBlock]at hk ⊢;omega)) slc B m d (by rfl) r.den (h.den.bl slc) (by simp) (by omega) ?_;intro v2 w6 hown hb6 hg6;(obtain⟨B1,d1,hv,ho2⟩:=hown.own (by rw[hl2.out];omega));rw[hl2.out]at hv ho2;subst hv;rw[List.nil_append]at ho2))
 ·have hz5:=hb5.size
  have hbW:Bl w w6:=(hbW.next hb5).next hb6
  have hr:=(hr.bl hb5).bl hb6
  have hA:=ho1.bl hb6
  have hB:=ho2
  obtain⟨v0,x0⟩:=hr.val_ (i:=0) (by omega)
  obtain⟨v1,x1⟩:=hr.val_ (i:=1) (by omega)
  obtain⟨v2,x2⟩:=hr.val_ (i:=2) (by omega)
  have hg:=hr.lt
  obtain⟨cs4,hB4,hc4⟩:=hr
  have hf0:=hB4.frozen 0
  have hf1:=hB4.frozen 1
  have hf2:=hB4.frozen 2
  go_wp2_with fail
  refine bodyPost_ret (v:=.agg #[.bool s,.slice A1 n c1,.slice B1 m d1]) (by simp[results,Tryz.results241,go_sem,x0,x1,x2]) rfl ⟨_,_,_,_,_,_,_,rfl,OwQ.two hs.out ?_ ?_,slc⟩
  ·exact(((hA.far (by simp;omega) _).far (by simp;omega) _).far (by simp;omega) _).mono (by omega)
  ·exact(((hB.far (by simp;omega) _).far (by simp;omega) _).far (by simp;omega) _).mono (by omega)
 ·have hbW:=hbW.next hb6
  have hr:=hr.bl hb6
  have hA:=ho1.past (E:=3) (k:=W.heap.size+1) hg6 ((hg5.block _ (by simp) (by simp[Value.ownBlock])).trans (by have:=heap_alloc_new (W.alloc (.cells #[] 3)) (.cells #[] 3);rwa [World.size_alloc]at this))
  have hB:=ho2
  obtain⟨v0,x0⟩:=hr.val_ (i:=0) (by omega)
  obtain⟨v1,x1⟩:=hr.val_ (i:=1) (by omega)
  obtain⟨v2,x2⟩:=hr.val_ (i:=2) (by omega)
  have hg:=hr.lt
  obtain⟨cs4,hB4,hc4⟩:=hr
  have hf0:=hB4.frozen 0
  have hf1:=hB4.frozen 1
  have hf2:=hB4.frozen 2
  go_wp2_with fail
  refine bodyPost_ret (v:=.agg #[.bool s,.slice A1 n c1,.slice B1 m d1]) (by simp[results,Tryz.results241,go_sem,x0,x1,x2]) rfl ⟨_,_,_,_,_,_,_,rfl,OwQ.two hs.out ?_ ?_,slc⟩
  ·exact(((hA.far (by simp;omega) _).far (by simp;omega) _).far (by simp;omega) _).mono (by omega)
  ·exact(((hB.far (by simp;omega) _).far (by simp;omega) _).far (by simp;omega) _).mono (by omega)
 ·have hbW:=hbW.next hb6
  have hr:=hr.bl hb6
  have hA:=ho1.past (E:=3) (k:=W.heap.size) hg6 ((hg5.block _ (by simp;omega) (by simp[Value.ownBlock])).trans (Blk.alloc (Blk.new W 3 #[]) _))
  have hB:=ho2
  obtain⟨v0,x0⟩:=hr.val_ (i:=0) (by omega)
  obtain⟨v1,x1⟩:=hr.val_ (i:=1) (by omega)
  obtain⟨v2,x2⟩:=hr.val_ (i:=2) (by omega)
  have hg:=hr.lt
  obtain⟨cs4,hB4,hc4⟩:=hr
  have hf0:=hB4.frozen 0
  have hf1:=hB4.frozen 1
  have hf2:=hB4.frozen 2
  go_wp2_with fail
  refine bodyPost_ret (v:=.agg #[.bool s,.slice A1 n c1,.slice B1 m d1]) (by simp[results,Tryz.results241,go_sem,x0,x1,x2]) rfl ⟨_,_,_,_,_,_,_,rfl,OwQ.two hs.out ?_ ?_,slc⟩
  ·exact(((hA.far (by simp;omega) _).far (by simp;omega) _).far (by simp;omega) _).mono (by omega)
  ·exact(((hB.far (by simp;omega) _).far (by simp;omega) _).far (by simp;omega) _).mono (by omega)
theorem Ur (w:World) {s:Bool}{A:Option Addr}{n c:Nat}{x:Int}{t:Bool}{B:Option Addr}{m d:Nat}{y:Int}(h:IsB w s A n c x) (k:IsB w t B m d y) (hn:n<=2097152) (hm:m<=2097152) :
  Calls Tryz.prog 286 #[.agg #[.bool s,.slice A n c],.agg #[.bool t,.slice B m d]] w λe w'=>e=.returned (.int .i64 (jF x y))/\Bl w w':=by
 have hs:=h.1
 have ht:=k.1
 cases s <;> cases t
 ·have hx:0<=x:=by have:=hs.symm;simp at this;omega
  have hy:0<=y:=by have:=ht.symm;simp at this;omega
  have hv:=Lib.hid (show jF x y=je (x.natAbs:Int) (y.natAbs:Int)by unfold jF je;split <;> (try split) <;> (try split) <;> (try split) <;> omega)
  clear hs ht hx hy
  go_enter Tryz.func286,Tryz.ntmps286
  go_wp2_with fail
  refine(zl _ (RdI.bl h.mg slc) (RdI.bl k.mg slc) hn hm).mono ?_
  rintro e w1 ⟨rfl,q1,rfl⟩
  go_wp2_with fail
  go_ret
  exact⟨zb hv.out.symm,slc⟩
 ·have hx:0<=x:=by have:=hs.symm;simp at this;omega
  have hy:y<0:=by have:=ht.symm;simpa using this
  have hv:=Lib.hid (show jF x y=1 by unfold jF;split <;> (try split) <;> (try split) <;> (try split) <;> omega)
  clear hs ht hx hy
  go_enter Tryz.func286,Tryz.ntmps286
  go_wp2_with fail
  go_ret
  exact⟨zb hv.out.symm,slc⟩
 ·have hx:x<0:=by have:=hs.symm;simpa using this
  have hy:0<=y:=by have:=ht.symm;simp at this;omega
  have hv:=Lib.hid (show jF x y=-1 by unfold jF;split <;> (try split) <;> (try split) <;> (try split) <;> omega)
  clear hs ht hx hy
  go_enter Tryz.func286,Tryz.ntmps286
  go_wp2_with fail
  go_ret
  exact⟨zb hv.out.symm,slc⟩
 ·have hx:x<0:=by have:=hs.symm;simpa using this
  have hy:y<0:=by have:=ht.symm;simpa using this
  have hv:=Lib.hid (show jF x y=je (y.natAbs:Int) (x.natAbs:Int)by unfold jF je;split <;> (try split) <;> (try split) <;> (try split) <;> omega)
  clear hs ht hx hy
  go_enter Tryz.func286,Tryz.ntmps286
  go_wp2_with fail
  refine(zl _ (RdI.bl k.mg slc) (RdI.bl h.mg slc) hm hn).mono ?_
  rintro e w1 ⟨rfl,q1,rfl⟩
  go_wp2_with fail
  go_ret
  exact⟨zb hv.out.symm,slc⟩
theorem U3 (w:World) {s:Bool}{A:Option Addr}{n c:Nat}{B:Option Addr}{m d:Nat}{x:Int}{D:Nat}{s':Bool}{A':Option Addr}{n' c':Nat}{B':Option Addr}{m' d':Nat}{x':Int}{D':Nat}(h:IsR w s A n c B m d x D) (k:IsR w s' A' n' c' B' m' d' x' D') (hn:n<=24) (hm:m<=24) (hn':n'<=24) (hm':m'<=24) (hD:0<D) (hD':0<D') :
  Calls Tryz.prog 274 #[.agg #[.bool s,.slice A n c,.slice B m d],.agg #[.bool s',.slice A' n' c',.slice B' m' d']] w λe w'=>e=.returned (.int .i64 (jF (x*(D':Int)) (x'*(D:Int))))/\Bl w w':=by
 have hm1:(dig (x.natAbs*D')).length<=59:=Nat.le_trans (qM (Nat.le_of_eq h.num.lenN) (Nat.le_of_eq k.dn.lenN)) (by omega)
 have hm2:(dig (x'.natAbs*D)).length<=59:=Nat.le_trans (qM (Nat.le_of_eq k.num.lenN) (Nat.le_of_eq h.dn.lenN)) (by omega)
 go_enter Tryz.func274,Tryz.ntmps274
 go_wp2_with fail
 refine qe (λW=>Bl w W/\Blk W (w.heap.size) 26 #[.bool s,.slice A n c,.slice B m d]/\Blk W (w.heap.size+1) 26 #[.bool s',.slice A' n' c',.slice B' m' d']) ⟨slc,bts,bts⟩ ?_
 rintro W ⟨hbW,hx,hx'⟩
 go_region_held3 (λw'=>(w'.cell? ⟨w.heap.size,0,none⟩=some (.bool s)/\w'.cell? ⟨w.heap.size,1,none⟩=some (.slice A n c)/\w'.cell? ⟨w.heap.size,2,none⟩=some (.slice B m d))/\(w'.cell? ⟨w.heap.size+1,0,none⟩=some (.bool s')/\w'.cell? ⟨w.heap.size+1,1,none⟩=some (.slice A' n' c')/\w'.cell? ⟨w.heap.size+1,2,none⟩=some (.slice B' m' d'))) (first|exact⟨bx3 (T:=26) bts,bx3 (T:=26) bts⟩) (first |(go_at_call 190;with_reducible refine(zT _ (h.num.bl slc) (k.dn.bl slc) (by omega) (by omega)).mono ?_;rintro e w4 ⟨A4,n4,c4,rfl,hO4,hb4⟩;(have hl4:n4<=59:=by rw[<-hO4.rd.lenN];exact hm1);(have hN4:IsN w4 A4 n4 c4 (x.natAbs*D'):=hO4.rd)) |(go_at_call 189;(with_reducible refine(qJ _ _ hN4 (by omega)).mono ?_);rintro e w5 ⟨s5,A5,n5,c5,rfl,hs5,hO5,hb5⟩;(have hB5:IsB w5 s5 A5 n5 c5 (x*(D':Int)):=⟨by rw[hs5.out];exact QC h.sgn hD',by rw[Int.natAbs_mul,Int.natAbs_natCast];exact hO5.rd⟩)) |(go_at_call 190;with_reducible refine(zT _ (k.num.bl slc) (h.dn.bl slc) (by omega) (by omega)).mono ?_;rintro e w6 ⟨A6,n6,c6,rfl,hO6,hb6⟩;(have hl6:n6<=59:=by rw[<-hO6.rd.lenN];exact hm2);(have hN6:IsN w6 A6 n6 c6 (x'.natAbs*D):=hO6.rd)) |(go_at_call 189;(with_reducible refine(qJ _ _ hN6 (by omega)).mono ?_);rintro e w7 ⟨s7,A7,n7,c7,rfl,hs7,hO7,hb7⟩;(have hB7:IsB w7 s7 A7 n7 c7 (x'*(D:Int)):=⟨by rw[hs7.out];exact QC k.sgn hD,by rw[Int.natAbs_mul,Int.natAbs_natCast];exact hO7.rd⟩);(have hl5:n5<=2097152:=by rw[<-hO5.rd.lenN];exact Nat.le_trans hm1 (by omega));(have hl7:n7<=2097152:=by rw[<-hO7.rd.lenN];exact Nat.le_trans hm2 (by omega))) |(go_at_call 286;refine(Ur _ (hB5.bl slc) hB7 hl5 hl7).mono ?_;rintro e w8 ⟨rfl,hb8⟩))
 go_wp2_with fail
 go_ret
 exact⟨rfl,slc⟩
noncomputable def qd4 (p q:PtD):qH:=Z3 (Zs p.x q.x) (Zs p.y q.y)
theorem UR (w:World) {s:Bool}{A:Option Addr}{n c:Nat}{B:Option Addr}{m d:Nat}{t:Bool}{C:Option Addr}{i e:Nat}{D:Option Addr}{j f:Nat}{p:PtD}{s':Bool}{A':Option Addr}{n' c':Nat}{B':Option Addr}{m' d':Nat}{t':Bool}{C':Option Addr}{i' e':Nat}{D':Option Addr}{j' f':Nat}{p':PtD}(h:RdR w s A n c B m d p.x) (k:RdR w t C i e D j f p.y) (h':RdR w s' A' n' c' B' m' d' p'.x) (k':RdR w t' C' i' e' D' j' f' p'.y) :
  Calls Tryz.prog 251 #[.agg #[.bool s,.slice A n c,.slice B m d,.bool t,.slice C i e,.slice D j f],.agg #[.bool s',.slice A' n' c',.slice B' m' d',.bool t',.slice C' i' e',.slice D' j' f']] w λen w'=>∃s1 A1 n1 c1 B1 m1 d1,en=.returned (.agg #[.bool s1,.slice A1 n1 c1,.slice B1 m1 d1])/\OwR 3 w.heap.size w' s1 A1 n1 c1 B1 m1 d1 (qd4 p p')/\Bl w w':=by
 go_enter Tryz.func251,Tryz.ntmps251
 go_wp2_with fail
 refine qe (λW=>Bl w W/\Blk W (w.heap.size) 28 #[.bool s,.slice A n c,.slice B m d,.bool t,.slice C i e,.slice D j f]/\Blk W (w.heap.size+1) 28 #[.bool s',.slice A' n' c',.slice B' m' d',.bool t',.slice C' i' e',.slice D' j' f']/\Wk 3 26 (w.heap.size+1+1) W) ⟨slc,bts,bts,bts⟩ ?_
 rintro W ⟨hbW,hx,hx',hr⟩
 go_region_held3 (λw'=>(w'.cell? ⟨w.heap.size,0,none⟩=some (.bool s)/\w'.cell? ⟨w.heap.size,1,none⟩=some (.slice A n c)/\w'.cell? ⟨w.heap.size,2,none⟩=some (.slice B m d)/\w'.cell? ⟨w.heap.size,3,none⟩=some (.bool t)/\w'.cell? ⟨w.heap.size,4,none⟩=some (.slice C i e)/\w'.cell? ⟨w.heap.size,5,none⟩=some (.slice D j f))/\(w'.cell? ⟨w.heap.size+1,0,none⟩=some (.bool s')/\w'.cell? ⟨w.heap.size+1,1,none⟩=some (.slice A' n' c')/\w'.cell? ⟨w.heap.size+1,2,none⟩=some (.slice B' m' d')/\w'.cell? ⟨w.heap.size+1,3,none⟩=some (.bool t')/\w'.cell? ⟨w.heap.size+1,4,none⟩=some (.slice C' i' e')/\w'.cell? ⟨w.heap.size+1,5,none⟩=some (.slice D' j' f'))/\(w'.cell? ⟨w.heap.size+1+1,0,none⟩=some (qh w' (w.heap.size+1+1) 0)/\w'.cell? ⟨w.heap.size+1+1,1,none⟩=some (qh w' (w.heap.size+1+1) 1)/\w'.cell? ⟨w.heap.size+1+1,2,none⟩=some (qh w' (w.heap.size+1+1) 2))/\w'.frozen? ⟨w.heap.size+1+1,0,none⟩=false/\w'.frozen? ⟨w.heap.size+1+1,1,none⟩=false/\w'.frozen? ⟨w.heap.size+1+1,2,none⟩=false) (first|exact⟨bx6 (T:=28) bts,bx6 (T:=28) bts,Wk.out3 (T:=26) bts⟩) (first |(go_at_call 243;with_reducible refine(jy _ (h.bl slc) (h'.bl slc)).mono ?_;rintro en w2 ⟨s2,A2,n2,c2,B2,m2,d2,rfl,hR2,hb2⟩) |(go_at_call 243;with_reducible refine(jy _ (k.bl slc) (k'.bl slc)).mono ?_;rintro en w3 ⟨s3,A3,n3,c3,B3,m3,d3,rfl,hR3,hb3⟩) |(go_at_call 93;refine(Zo _ (hR2.rd.bl hb3) hR3.rd).mono ?_;rintro en w4 ⟨s1,A1,n1,c1,B1,m1,d1,rfl,hR,hb4⟩))
 have hz:w.heap.size+1+1+1<=W.heap.size:=hr.lt
 have hz2:W.heap.size<=w2.heap.size:=(Bl.size hb2:W.drew.heap.size<=_)
 have hz3:w2.heap.size<=w3.heap.size:=Bl.size hb3
 have hr:=(show Wk 3 26 (w.heap.size+1+1) w4 from bts)
 have hbW:Bl w w4:=slc
 have hR:=hR.mono (show w.heap.size+1+1+1<=w3.heap.size by omega)
 obtain⟨v0,x0⟩:=hr.val_ (i:=0) (by omega)
 obtain⟨v1,x1⟩:=hr.val_ (i:=1) (by omega)
 obtain⟨v2,x2⟩:=hr.val_ (i:=2) (by omega)
 have hg:=hr.lt
 obtain⟨cs4,hB4,hc4⟩:=hr
 have hf0:=hB4.frozen 0
 have hf1:=hB4.frozen 1
 have hf2:=hB4.frozen 2
 go_wp2_with fail
 exact bodyPost_ret (v:=.agg #[.bool s1,.slice A1 n1 c1,.slice B1 m1 d1]) (by simp[results,Tryz.results251,go_sem,x0,x1,x2]) rfl ⟨_,_,_,_,_,_,_,rfl,(((hR.far (by simp) _).far (by simp) _).far (by simp) _).mono (by omega),slc⟩
section
variable {T:TypeId}{b0 g:Nat}{w W:World}{s:Bool}{A:Option Addr}{n c:Nat}{B:Option Addr}{m d:Nat}{r:qH}
end
theorem FtI.neT {T TP:TypeId}{w:World}{A:Option Addr}{n c k g:Nat}{l:List Int}{bs:List Nat}(h:FtI T w A n c l bs) (hk:Wk k TP g w) (hne:T≠TP):∀b∈bs,b≠g:=by
 intro b hm e
 subst e
 obtain⟨cs',h1,_⟩:=hk
 rcases h.2 with ⟨_,e2⟩ |⟨g',cs,_,_,hh,_,e2⟩
 ·rw[e2]at hm;cases hm
 ·rw[e2]at hm
  simp at hm
  subst hm
  have h3:w.heap[b]?=some (.cells cs' TP (0,0)):=h1
  rw[hh]at h3
  injection h3 with h3
  injection h3 with _ h3
  exact hne h3
theorem FtR.neT {T TP:TypeId}{w:World}{s:Bool}{A:Option Addr}{n c:Nat}{B:Option Addr}{m d k g:Nat}{r:qH}{bs:List Nat}(h:FtR T w s A n c B m d r bs) (hk:Wk k TP g w) (hne:T≠TP):∀b∈bs,b≠g:=by
 obtain⟨_,b1,b2,h1,h2,rfl⟩:=h
 intro b hb
 rcases List.mem_append.1 hb with hb|hb
 ·exact h1.neT hk hne b hb
 ·exact h2.neT hk hne b hb
theorem Wk.ob {k g:Nat}{T:TypeId}{w W:World}{bs:List Nat}(h:Wk k T g w) (ho:Ob bs w W) (hg:g∉bs):Wk k T g W:=by
 obtain⟨cs,h1,h2⟩:=h
 exact⟨cs,h1.ob ho hg,h2⟩
theorem xN (x:Int) (D:Nat) (hD:0<D) (hx:x.natAbs<=17) (hn:D<=17):qm x D=toR (mkRat x D)/\Bd 17 (mkRat x D):=by
 have hb:Bd 17 (mkRat x D):=UY hD hx hn
 rw[j6 x hD,if_pos (hb.fit (by decide))]
 exact⟨rfl,hb⟩
theorem zw.ob' {T:TypeId}{b0 g:Nat}{w W:World}{s:Bool}{A:Option Addr}{n c:Nat}{B:Option Addr}{m d:Nat}{t:Bool}{C:Option Addr}{i e:Nat}{D:Option Addr}{j f:Nat}{p:PtD}(h:zw YQ T b0 w s A n c B m d t C i e D j f p) (ho:Ob [g] w W) (hg:g<b0):zw YQ T b0 W s A n c B m d t C i e D j f p:=by
 obtain⟨c1,c2,h1,h2,hf,hn⟩:=h
 refine⟨c1,c2,h1.keep ho.size λb hb=>ho.block b (hf b (by simp[hb])).2 λhm=>?_,h2.keep ho.size λb hb=>ho.block b (hf b (by simp[hb])).2 λhm=>?_,λb hb=>⟨(hf b hb).1,Nat.lt_of_lt_of_le (hf b hb).2 ho.size⟩,hn⟩
 ·have:=(hf b (by simp[hb])).1;simp at hm;omega
 ·have:=(hf b (by simp[hb])).1;simp at hm;omega
theorem zw.bl' {T:TypeId}{b0:Nat}{w W:World}{s:Bool}{A:Option Addr}{n c:Nat}{B:Option Addr}{m d:Nat}{t:Bool}{C:Option Addr}{i e:Nat}{D:Option Addr}{j f:Nat}{p:PtD}(h:zw YQ T b0 w s A n c B m d t C i e D j f p) (hb:Bl w W):zw YQ T b0 W s A n c B m d t C i e D j f p:=by
 obtain⟨c1,c2,h1,h2,hf,hn⟩:=h
 exact⟨c1,c2,h1.bl hb,h2.bl hb,λb hm=>⟨(hf b hm).1,Nat.lt_of_lt_of_le (hf b hm).2 hb.size⟩,hn⟩
theorem zw.rdx {T:TypeId}{b0:Nat}{w:World}{s:Bool}{A:Option Addr}{n c:Nat}{B:Option Addr}{m d:Nat}{t:Bool}{C:Option Addr}{i e:Nat}{D:Option Addr}{j f:Nat}{p:PtD}(h:zw YQ T b0 w s A n c B m d t C i e D j f p):RdR w s A n c B m d p.x/\RdR w t C i e D j f p.y:=by
 obtain⟨c1,c2,h1,h2,hf,hn⟩:=h
 exact⟨h1.rd,h2.rd⟩
theorem zw.low' {T:TypeId}{b0 b1:Nat}{w:World}{s:Bool}{A:Option Addr}{n c:Nat}{B:Option Addr}{m d:Nat}{t:Bool}{C:Option Addr}{i e:Nat}{D:Option Addr}{j f:Nat}{p:PtD}(h:zw YQ T b1 w s A n c B m d t C i e D j f p) (hb:b0<=b1):zw YQ T b0 w s A n c B m d t C i e D j f p:=by
 obtain⟨c1,c2,h1,h2,hf,hn⟩:=h
 exact⟨c1,c2,h1,h2,λb hm=>⟨Nat.le_trans hb (hf b hm).1,(hf b hm).2⟩,hn⟩
theorem Ob.far {bs:List Nat}{w W:World}(h:Ob bs w W) {b:Nat}(hb:w.heap.size<=b) (o:Nat) (u:Value):Ob bs w (W.setCell ⟨b,o,none⟩ u):=by
 have k:=(h.mono (cs:=b::bs) (λx hx=>List.mem_cons_of_mem _ hx)).set (g:=b) (by simp) o u
 exact⟨k.os,k.tape,k.output,k.size,λx hx hn=>k.block x hx λhm=>by rcases List.mem_cons.1 hm with rfl|hm;omega;exact hn hm⟩
def toP (x y:Rat):PtD:=⟨toR x,toR y⟩
theorem uo {x y:Rat}(hx:Fit x) (hy:Fit y):ifP (toP x y)=toP x y:=by
 have e1:=(Vt (.inr hx.ok)).2 hx.ok
 have e2:=(Vt (.inr hy.ok)).2 hy.ok
 unfold ifP
 rw[if_neg]
 rintro (h|h)
 ·exact e1 h
 ·exact e2 h
theorem JY {x y u v:Rat}(hx:Bd 17 x) (hy:Bd 17 y) (hu:Bd 17 u) (hv:Bd 17 v):K8 (toP x y) (toP u v)=toP (x-u) (y-v)/\Bd 578 (x-u)/\Bd 578 (y-v):=by
 have h1:Bd 578 (x-u):=(hx.sub hu).mono (by decide)
 have h2:Bd 578 (y-v):=(hy.sub hv).mono (by decide)
 refine⟨?_,h1,h2⟩
 unfold K8
 rw[show (toP x y).x=toR x from rfl,show (toP u v).x=toR u from rfl,show (toP x y).y=toR y from rfl,show (toP u v).y=toR v from rfl,
  QW (hx.fit (by decide)) (hu.fit (by decide)) (h1.fit (by decide)),QW (hy.fit (by decide)) (hv.fit (by decide)) (h2.fit (by decide))]
 exact uo (h1.fit (by decide)) (h2.fit (by decide))
def K5 (x0 y0 x1 y1 x2 y2:Rat):Rat:=(x1-x0)*(y2-y0)-(y1-y0)*(x2-x0)
theorem Vj {x0 y0 x1 y1 x2 y2:Rat}(a0:Bd 17 x0) (b0:Bd 17 y0) (a1:Bd 17 x1) (b1:Bd 17 y1) (a2:Bd 17 x2) (b2:Bd 17 y2) :
  Yc (toP x0 y0) (toP x1 y1) (toP x2 y2)=toR (K5 x0 y0 x1 y1 x2 y2)/\Bd 223224238112 (K5 x0 y0 x1 y1 x2 y2):=by
 obtain⟨e1,h1,h2⟩:=JY a1 b1 a0 b0
 obtain⟨e2,h3,h4⟩:=JY a2 b2 a0 b0
 have m1:Bd 334084 ((x1-x0)*(y2-y0)):=(h1.mul h4).mono (by decide)
 have m2:Bd 334084 ((y1-y0)*(x2-x0)):=(h2.mul h3).mono (by decide)
 have m3:Bd 223224238112 (K5 x0 y0 x1 y1 x2 y2):=(m1.sub m2).mono (by decide)
 refine⟨?_,m3⟩
 unfold Yc
 rw[e1,e2]
 unfold xH
 rw[show (toP (x1-x0) (y1-y0)).x=toR (x1-x0)from rfl,show (toP (x1-x0) (y1-y0)).y=toR (y1-y0)from rfl,show (toP (x2-x0) (y2-y0)).x=toR (x2-x0)from rfl,show (toP (x2-x0) (y2-y0)).y=toR (y2-y0)from rfl,
  yC (h1.fit (by decide)) (h4.fit (by decide)) (m1.fit (by decide)),yC (h2.fit (by decide)) (h3.fit (by decide)) (m2.fit (by decide)),QW (m1.fit (by decide)) (m2.fit (by decide)) (m3.fit (by decide))]
 rfl
noncomputable def qdY (p q:PtD):PtD:=ifP ⟨Z3 p.x q.x,Z3 p.y q.y⟩
theorem K9 {r s:qH}(h:OkR r/\OkR s):JL r s=jF (rn r*(rd s:Int)) (rn s*(rd r:Int)):=if_pos h
noncomputable def qdU (r:qH) (p:PtD):PtD:=ifP ⟨Zs r p.x,Zs r p.y⟩
noncomputable def qdX (p q:PtD):PtD:=qdU (qm 1 2) (qdY p q)
def B10 (k:Nat) (q:Rat):Prop:=Bd (10 ^ k) q
theorem qdy {k:Nat}(hk:k<216):10 ^ k<Bs ^ 24:=by
 have h1:(10:Nat) ^ k<=10 ^ 215:=Nat.pow_le_pow_right (by omega) (by omega)
 exact Nat.lt_of_le_of_lt h1 (by decide)
section
variable {a b k:Nat}{p q:Rat}
theorem B10.fit (h:B10 k q) (hk:k<216):Fit q:=Bd.fit h (qdy hk)
theorem B10.of {N:Nat}(h:Bd N q) (hk:N<=10 ^ k):B10 k q:=Bd.mono h hk
theorem B10.add (h:B10 a p) (k:B10 b q):B10 (a+b+1) (p+q):=(Bd.add h k).mono (by rw[Nat.pow_succ,Nat.pow_add];omega)
theorem B10.mul (h:B10 a p) (k:B10 b q):B10 (a+b) (p*q):=(Bd.mul h k).mono (by rw[Nat.pow_add];exact Nat.le_refl _)
theorem qbg (h:B10 a p) (k:B10 b q) (hk:a+b+1<216):Z3 (toR p) (toR q)=toR (p+q):=Va (h.fit (by omega)) (k.fit (by omega)) ((h.add k).fit hk)
theorem qbu (h:B10 a p) (k:B10 b q) (hk:a+b<216):Zs (toR p) (toR q)=toR (p*q):=yC (h.fit (by omega)) (k.fit (by omega)) ((h.mul k).fit hk)
end
section
variable {a b c k:Nat}{x y u v p q:Rat}
theorem qc2 (hx:B10 a x) (hy:B10 a y) (hk:a<216):ifP (toP x y)=toP x y:=uo (hx.fit hk) (hy.fit hk)
theorem qdk (hx:B10 a x) (hy:B10 a y) (hu:B10 b u) (hv:B10 b v) (hk:a+b+1<216):qdY (toP x y) (toP u v)=toP (x+u) (y+v):=by
 show ifP ⟨Z3 (toR x) (toR u),Z3 (toR y) (toR v)⟩=_
 rw[qbg hx hu hk,qbg hy hv hk]
 exact qc2 (hx.add hu) (hy.add hv) hk
theorem qds (hq:B10 b q) (hx:B10 a x) (hy:B10 a y) (hk:b+a<216):qdU (toR q) (toP x y)=toP (q*x) (q*y):=by
 show ifP ⟨Zs (toR q) (toR x),Zs (toR q) (toR y)⟩=_
 rw[qbu hq hx hk,qbu hq hy hk]
 exact qc2 (hq.mul hx) (hq.mul hy) hk
end
section
variable {x0 y0 x1 y1 x2 y2:Rat}
def Sm6 (x0 y0 x1 y1 x2 y2:Rat):Prop:=Bd 17 x0/\Bd 17 y0/\Bd 17 x1/\Bd 17 y1/\Bd 17 x2/\Bd 17 y2
def arQ (x0 y0 x1 y1 x2 y2:Rat):Rat:=mkRat 1 2*K5 x0 y0 x1 y1 x2 y2
theorem Kd:qm 1 2=toR (mkRat 1 2)/\Bd 2 (mkRat 1 2):=by
 have hb:Bd 2 (mkRat 1 2):=UY (by omega) (by decide) (by omega)
 refine⟨?_,hb⟩
 rw[j6 1 (by omega),if_pos (hb.fit (by decide))]
theorem qaB (h:Sm6 x0 y0 x1 y1 x2 y2):KJ (toP x0 y0) (toP x1 y1) (toP x2 y2)=toR (arQ x0 y0 x1 y1 x2 y2)/\Bd 446448476224 (arQ x0 y0 x1 y1 x2 y2):=by
 obtain⟨a0,b0,a1,b1,a2,b2⟩:=h
 obtain⟨e,hd⟩:=Vj a0 b0 a1 b1 a2 b2
 obtain⟨e2,hh⟩:=Kd
 have ha:Bd 446448476224 (arQ x0 y0 x1 y1 x2 y2):=(hh.mul hd).mono (by decide)
 refine⟨?_,ha⟩
 unfold KJ
 rw[e,e2,yC (hh.fit (by decide)) (hd.fit (by decide)) (ha.fit (by decide))]
 rfl
end
theorem OwR.setT {T TP:TypeId}{b0 g k:Nat}{w:World}{s:Bool}{A:Option Addr}{n c:Nat}{B:Option Addr}{m d:Nat}{r:qH}(h:OwR T b0 w s A n c B m d r) (hk:Wk k TP g w) (hne:T≠TP) (i0:Nat) (u:Value):OwR T b0 (w.setCell ⟨g,i0,none⟩ u) s A n c B m d r:=by
 obtain⟨bs,h1,hf⟩:=h
 exact⟨bs,h1.keep (by simp) (λb hb=>Below.heap_setCell w _ u b (h1.neT hk hne b hb)),hf.mono (Nat.le_refl _) (by simp)⟩
theorem OwR.put3 {T TP:TypeId}{b0 g k:Nat}{w:World}{s:Bool}{A:Option Addr}{n c:Nat}{B:Option Addr}{m d:Nat}{r:qH}(h:OwR T b0 w s A n c B m d r) (hk:Wk k TP g w) (hne:T≠TP) (u0 u1 u2:Value) :
  OwR T b0 (((w.setCell ⟨g,0,none⟩ u0).setCell ⟨g,1,none⟩ u1).setCell ⟨g,2,none⟩ u2) s A n c B m d r :=
 ((h.setT hk hne 0 u0).setT (hk.set 0 u0) hne 1 u1).setT ((hk.set 0 u0).set 1 u1) hne 2 u2
theorem qbL:(3:TypeId)≠26:=by decide
theorem zF {P:Program}{α:Type} [Inhabited α] {N:List Nat->Prop}(hN:uP N) {size bytes:Nat}{El:World->Array Value->Nat->α->List Nat->Prop}(hk:JD size El) {TP t:TypeId}{z:Value}
  (hinfo:(P.info? TP).map (λi=>(i.zero,i.size,i.bytes))=some (some z,size,bytes)) (hzs:z.cells.size=size) (hsz:0<size) (hby:bytes<=4096) (ht:P.underlying t=some (.slice TP))
  {W:World}{news:Array Value}{p:α}{bs:List Nat}{lo hi:Nat}{l:List α}{ops:Array Oper}{rest:List Oper}{o:Oper}{a:Act}{Q:Exit->Act->World->Prop}(hgd:o.guard=none) (s x:Operand)
  (ho:o.op=.call { callee:=.builtin .append,args:=#[s,x],argTypes:=#[t,t] }) (v:Value) (hs:a.eval s=v) (hrow:qO N TP size El lo hi W v l)
  (hel:El W news 0 p bs) (hnl:news.size=size) (h1:∀u∈news.toList,u.oneCell'=true) (hbs:∀b∈bs,hi<=b/\b<W.heap.size) (hNb:N bs) (hlh:lo<=hi)
  (c:Nat) (hx:a.eval x=.slice (some ⟨W.heap.size,0,none⟩) 1 c) (hlen:l.length<=1048576) (w0:World) (hb:Bl w0 W) (h0:w0.heap.size<=lo)
  (h:∀v' w',qO N TP size El lo w'.heap.size w' v' (l++[p])->Bl w0 w'->(v'=.slice none 0 0->False)->(W.heap.size<=w'.heap.size/\∀g,g<W.heap.size->v.ownBlock≠some g->w'.heap[g]?=W.heap[g]?/\v'.ownBlock≠some g)->wpList P ops Q rest (a.put o.dst v') w'):wpList P ops Q (o::rest) a (W.alloc (.cells news TP)):=by
 obtain⟨i0,hi0,hz0,hz1,hz2⟩:=info_parts hinfo
 obtain⟨cells,fs,r1,r2,r3,r4,r5,r6,r7⟩:=hrow
 have ro:=World.ownsRow.alloc r1 (.cells news TP)
 have hnew:(W.alloc (.cells news TP)).heap[W.heap.size]?=some (.cells news TP (0,0)):=heap_alloc_new W _
 have hsz2:(W.alloc (.cells news TP)).heap.size=W.heap.size+1:=by simp
 have hm:(l.length+1)*bytes<=140737488355328:=Nat.le_trans (Nat.mul_le_mul (show l.length+1<=1048577 by omega) hby) (by omega)
 refine wpList_append_own_at _ hgd s x t ho lo TP i0 z size bytes ht hi0 hz0 hz1 hz2 hzs hsz v l.length cells hs ro ⟨W.heap.size,0,none⟩ 1 c news.toList hx (by simpa using hnl) (World.news_of_block hnew) h1 (by unfold maxLen;omega) hm (by omega) ?_
 intro v' w' g1 g2 g3 g4
 have hne:v'≠.slice none 0 0:=λe=>by have:=(g3.1 e).2;omega
 have hws:=g2.size
 have hold:∀b,b<W.heap.size->v.ownBlock≠some b->w'.heap[b]?=W.heap[b]?:=λb hb1 hb2=>(g2.block b (by omega) (λe=>hb2 e.symm)).trans (Below.heap_alloc W _ b hb1)
 have hown:∀ b,v'.ownBlock=some b->(v.ownBlock=some b\/b=W.heap.size+1):=by
  intro b e
  rcases g4 with g4|g4
  ·exact .inl (by rw[<-g4];exact e)
  ·rw[g4]at e;injection e with e;right;omega
 have hvl:∀b,v'.ownBlock=some b->lo<=b/\b<w'.heap.size:=λb e=>by have:=World.ownsRow.lt g1 b e;exact this
 refine h v' w' ⟨cells++news.toList,fs++[bs],by simpa using g1,λg e=>(hvl g e).2,by simp[r3],λi hi'=>?_,λb hm'=>?_,?_,Nat.le_refl _⟩ ((hb.alloc _).grown g2 (λk e=>by have:=(World.ownsRow.lt r1 k e).1;omega)) hne ⟨by omega,λg hg hn=>⟨hold g hg hn,λe=>by rcases hown g e with e|e;exact hn e;omega⟩⟩
 ·have hcl:=r1.1
  rw[List.length_append,List.length_singleton]at hi'
  rcases Nat.lt_succ_iff_lt_or_eq.1 hi' with hi'|rfl
  ·rw[q6 hi',q6 (by rw[r3];exact hi')]
   refine hk _ _ _ _ _ _ _ _ (r4 i hi') (λj hj=>?_) (by omega) λb hb'=>?_
   ·have:i * size+j < cells.length:=by
     rw[hcl]
     have:(i+1)*size<=l.length*size:=Nat.mul_le_mul_right _ hi'
     rw[Nat.succ_mul]at this
     omega
    simp[List.getElem?_append_left this]
   ·have:=r5 b (zL hb')
    exact hold b (by omega) this.2.2
  ·rw[jk,YK r3]
   refine hk _ _ _ _ _ _ _ _ hel (λj hj=>?_) (by omega) λb hb'=>?_
   ·have:(cells ++ news.toList)[l.length * size+j]?=news.toList[j]?:=by
     rw[List.getElem?_append_right (by rw[hcl];omega),hcl]
     congr 1;omega
    simpa using this
   ·have:=hbs b hb'
    exact hold b this.2 λe=>by have:=r2 b e;omega
 ·rw[List.flatten_append,List.mem_append]at hm'
  rcases hm' with hm'|hm'
  ·have:=r5 b hm'
   refine⟨this.1,by omega,λe=>?_⟩
   rcases hown b e with e|e
   ·exact this.2.2 e
   ·omega
  ·have:=hbs b (by simpa using hm')
   refine⟨by omega,by omega,λe=>?_⟩
   rcases hown b e with e|e
   ·have:=r2 b e;omega
   ·omega
 ·rw[List.flatten_append]
  refine hN.2 _ _ r6 (by simpa using hNb) λx hx' y hy e=>?_
  have a1:=r5 x hx'
  have a2:=hbs y (by simpa using hy)
  omega
theorem JG {P:Program}{α:Type} [Inhabited α] {N:List Nat->Prop}(hN:uP N) {size bytes:Nat}{El:World->Array Value->Nat->α->List Nat->Prop}(hk:JD size El) {TP t:TypeId}{z:Value}
  (hinfo:(P.info? TP).map (λi=>(i.zero,i.size,i.bytes))=some (some z,size,bytes)) (hzs:z.cells.size=size) (hsz:0<size) (hby:bytes<=4096) (ht:P.underlying t=some (.slice TP))
  {W:World}{news:Array Value}{p:α}{bs:List Nat}{lo hi:Nat}{l:List α}{ops:Array Oper}{o:Oper}{a:Act}{K:Act->World->Prop}{Q:Exit->Act->World->Prop}{F:Prop}(hgd:o.guard=none) (s x:Operand)
  (ho:o.op=.call { callee:=.builtin .append,args:=#[s,x],argTypes:=#[t,t] }) (v:Value) (hs:a.eval s=v) (hrow:qO N TP size El lo hi W v l)
  (hel:El W news 0 p bs) (hnl:news.size=size) (h1:∀u∈news.toList,u.oneCell'=true) (hbs:∀b∈bs,hi<=b/\b<W.heap.size) (hNb:N bs) (hlh:lo<=hi)
  (c:Nat) (hx:a.eval x=.slice (some ⟨W.heap.size,0,none⟩) 1 c) (hlen:l.length<=1048576) (w0:World) (hb:Bl w0 W) (h0:w0.heap.size<=lo)
  (h:∀v' w',qO N TP size El lo w'.heap.size w' v' (l++[p])->Bl w0 w'->(v'=.slice none 0 0->False)->(W.heap.size<=w'.heap.size/\∀g,g<W.heap.size->v.ownBlock≠some g->w'.heap[g]?=W.heap[g]?/\v'.ownBlock≠some g)->K (a.put o.dst v') w'):if Region.wanted o (yielded ops a.tmps)=true then Oper.wp P o a (W.alloc (.cells news TP)) K Q else F:=by
 have hw:Region.wanted o (yielded ops a.tmps)=true:=by simp[Region.wanted,hgd]
 rw[if_pos hw]
 obtain⟨i0,hi0,hz0,hz1,hz2⟩:=info_parts hinfo
 obtain⟨cells,fs,r1,r2,r3,r4,r5,r6,r7⟩:=hrow
 have ro:=World.ownsRow.alloc r1 (.cells news TP)
 have hnew:(W.alloc (.cells news TP)).heap[W.heap.size]?=some (.cells news TP (0,0)):=heap_alloc_new W _
 have hsz2:(W.alloc (.cells news TP)).heap.size=W.heap.size+1:=by simp
 have hm:(l.length+1)*bytes<=140737488355328:=Nat.le_trans (Nat.mul_le_mul (show l.length+1<=1048577 by omega) hby) (by omega)
 obtain⟨v',w',hrun,g1,g2,g3,g4⟩:=run_append_own_at (P:=P) (W.alloc (.cells news TP)) lo t o.type TP i0 z size bytes ht hi0 hz0 hz1 hz2 hzs hsz v l.length cells ro ⟨W.heap.size,0,none⟩ 1 c news.toList (by simpa using hnl) (World.news_of_block hnew) h1 (by unfold maxLen;omega) hm (by omega)
 unfold Oper.wp execOp
 simp only[ho,resolve,invoke,builtin,Sem.run_bind,Sem.run_pure,Result.andThen_ok,List.map_toArray,List.map_cons,List.map_nil,hs,hx,hrun]
 have hne:v'≠.slice none 0 0:=λe=>by have:=(g3.1 e).2;omega
 have hws:=g2.size
 have hold:∀b,b<W.heap.size->v.ownBlock≠some b->w'.heap[b]?=W.heap[b]?:=λb hb1 hb2=>(g2.block b (by omega) (λe=>hb2 e.symm)).trans (Below.heap_alloc W _ b hb1)
 have hown:∀ b,v'.ownBlock=some b->(v.ownBlock=some b\/b=W.heap.size+1):=by
  intro b e
  rcases g4 with g4|g4
  ·exact .inl (by rw[<-g4];exact e)
  ·rw[g4]at e;injection e with e;right;omega
 have hvl:∀b,v'.ownBlock=some b->lo<=b/\b<w'.heap.size:=λb e=>by have:=World.ownsRow.lt g1 b e;exact this
 refine h v' w' ⟨cells++news.toList,fs++[bs],by simpa using g1,λg e=>(hvl g e).2,by simp[r3],λi hi'=>?_,λb hm'=>?_,?_,Nat.le_refl _⟩ ((hb.alloc _).grown g2 (λk e=>by have:=(World.ownsRow.lt r1 k e).1;omega)) hne ⟨by omega,λg hg hn=>⟨hold g hg hn,λe=>by rcases hown g e with e|e;exact hn e;omega⟩⟩
 ·have hcl:=r1.1
  rw[List.length_append,List.length_singleton]at hi'
  rcases Nat.lt_succ_iff_lt_or_eq.1 hi' with hi'|rfl
  ·rw[q6 hi',q6 (by rw[r3];exact hi')]
   refine hk _ _ _ _ _ _ _ _ (r4 i hi') (λj hj=>?_) (by omega) λb hb'=>?_
   ·have:i * size+j < cells.length:=by
     rw[hcl]
     have:(i+1)*size<=l.length*size:=Nat.mul_le_mul_right _ hi'
     rw[Nat.succ_mul]at this
     omega
    simp[List.getElem?_append_left this]
   ·have:=r5 b (zL hb')
    exact hold b (by omega) this.2.2
  ·rw[jk,YK r3]
   refine hk _ _ _ _ _ _ _ _ hel (λj hj=>?_) (by omega) λb hb'=>?_
   ·have:(cells ++ news.toList)[l.length * size+j]?=news.toList[j]?:=by
     rw[List.getElem?_append_right (by rw[hcl];omega),hcl]
     congr 1;omega
    simpa using this
   ·have:=hbs b hb'
    exact hold b this.2 λe=>by have:=r2 b e;omega
 ·rw[List.flatten_append,List.mem_append]at hm'
  rcases hm' with hm'|hm'
  ·have:=r5 b hm'
   refine⟨this.1,by omega,λe=>?_⟩
   rcases hown b e with e|e
   ·exact this.2.2 e
   ·omega
  ·have:=hbs b (by simpa using hm')
   refine⟨by omega,by omega,λe=>?_⟩
   rcases hown b e with e|e
   ·have:=r2 b e;omega
   ·omega
 ·rw[List.flatten_append]
  refine hN.2 _ _ r6 (by simpa using hNb) λx hx' y hy e=>?_
  have a1:=r5 x hx'
  have a2:=hbs y (by simpa using hy)
  omega
theorem Z5 {N:List Nat->Prop}(hN:uP N) {W:World}{s:Bool}{A:Option Addr}{n c:Nat}{B:Option Addr}{m d:Nat}{t:Bool}{C:Option Addr}{i e:Nat}{D:Option Addr}{j f:Nat}{p:PtD}{lo hi b0:Nat}{l:List PtD}{ops:Array Oper}{rest:List Oper}{o:Oper}{a:Act}{Q:Exit->Act->World->Prop}(hgd:o.guard=none) (s1 x1:Operand)
  (ho:o.op=.call { callee:=.builtin .append,args:=#[s1,x1],argTypes:=#[46,46] }) (v:Value) (hs:a.eval s1=v) (hrow:jK N lo hi W v l)
  (hpt:zw N 3 b0 W s A n c B m d t C i e D j f p) (hb0:hi<=b0) (hlh:lo<=hi) (c1:Nat) (hx:a.eval x1=.slice (some ⟨W.heap.size,0,none⟩) 1 c1) (hlen:l.length<=1048576) (w0:World) (hb:Bl w0 W) (h0:w0.heap.size<=lo)
  (h:∀v' w',jK N lo w'.heap.size w' v' (l++[p])->Bl w0 w'->(W.heap.size<=w'.heap.size/\∀g,g<W.heap.size->v.ownBlock≠some g->w'.heap[g]?=W.heap[g]?/\v'.ownBlock≠some g)->wpList Tryz.prog ops Q rest (a.put o.dst v') w'):wpList Tryz.prog ops Q (o::rest) a (W.alloc (.cells #[.bool s,.slice A n c,.slice B m d,.bool t,.slice C i e,.slice D j f] 28)):=by
 obtain⟨b1,b2,f1,f2,f3,f4⟩:=hpt
 refine zF hN (qx 3) uu (by rfl) (by omega) (by omega) Tryz.underlying46 hgd s1 x1 ho v hs hrow (p:=p) (bs:=b1++b2) ⟨_,_,_,_,_,_,_,_,_,_,_,_,_,_,b1,b2,⟨rfl,rfl,rfl,rfl,rfl,rfl⟩,f1,f2,rfl⟩ rfl (by simp[Value.oneCell']) (λb hm=>⟨Nat.le_trans hb0 (f3 b hm).1,(f3 b hm).2⟩) f4 hlh c1 hx hlen w0 hb h0 λv' w' g1 g2 _ g4=>h v' w' g1 g2 g4
theorem Yz {N:List Nat->Prop}(hN:uP N) {W:World}{s:Bool}{A:Option Addr}{n c:Nat}{B:Option Addr}{m d:Nat}{t:Bool}{C:Option Addr}{i e:Nat}{D:Option Addr}{j f:Nat}{p:PtD}{lo hi b0:Nat}{l:List PtD}{ops:Array Oper}{o:Oper}{a:Act}{K:Act->World->Prop}{Q:Exit->Act->World->Prop}{F:Prop}(hgd:o.guard=none) (s1 x1:Operand)
  (ho:o.op=.call { callee:=.builtin .append,args:=#[s1,x1],argTypes:=#[46,46] }) (v:Value) (hs:a.eval s1=v) (hrow:jK N lo hi W v l)
  (hpt:zw N 3 b0 W s A n c B m d t C i e D j f p) (hb0:hi<=b0) (hlh:lo<=hi) (c1:Nat) (hx:a.eval x1=.slice (some ⟨W.heap.size,0,none⟩) 1 c1) (hlen:l.length<=1048576) (w0:World) (hb:Bl w0 W) (h0:w0.heap.size<=lo)
  (h:∀v' w',jK N lo w'.heap.size w' v' (l++[p])->Bl w0 w'->(W.heap.size<=w'.heap.size/\∀g,g<W.heap.size->v.ownBlock≠some g->w'.heap[g]?=W.heap[g]?/\v'.ownBlock≠some g)->K (a.put o.dst v') w'):if Region.wanted o (yielded ops a.tmps)=true then Oper.wp Tryz.prog o a (W.alloc (.cells #[.bool s,.slice A n c,.slice B m d,.bool t,.slice C i e,.slice D j f] 28)) K Q else F:=by
 obtain⟨b1,b2,f1,f2,f3,f4⟩:=hpt
 refine JG hN (qx 3) uu (by rfl) (by omega) (by omega) Tryz.underlying46 hgd s1 x1 ho v hs hrow (p:=p) (bs:=b1++b2) ⟨_,_,_,_,_,_,_,_,_,_,_,_,_,_,b1,b2,⟨rfl,rfl,rfl,rfl,rfl,rfl⟩,f1,f2,rfl⟩ rfl (by simp[Value.oneCell']) (λb hm=>⟨Nat.le_trans hb0 (f3 b hm).1,(f3 b hm).2⟩) f4 hlh c1 hx hlen w0 hb h0 λv' w' g1 g2 _ g4=>h v' w' g1 g2 g4
theorem ZI {W:World}{ta tb tc tr tv:Int}{lo hi:Nat}{l:List qC}{ops:Array Oper}{rest:List Oper}{o:Oper}{a:Act}{Q:Exit->Act->World->Prop}(hgd:o.guard=none) (s1 x1:Operand)
  (ho:o.op=.call { callee:=.builtin .append,args:=#[s1,x1],argTypes:=#[47,47] }) (v:Value) (hs:a.eval s1=v) (hrow:qaK lo hi W v l)
  (hlh:lo<=hi) (c1:Nat) (hx:a.eval x1=.slice (some ⟨W.heap.size,0,none⟩) 1 c1) (hlen:l.length<=1048576) (w0:World) (hb:Bl w0 W) (h0:w0.heap.size<=lo)
  (h:∀v' w',qaK lo w'.heap.size w' v' (l++[⟨ta,tb,tc,tr,tv⟩])->Bl w0 w'->(W.heap.size<=w'.heap.size/\∀g,g<W.heap.size->v.ownBlock≠some g->w'.heap[g]?=W.heap[g]?/\v'.ownBlock≠some g)->wpList Tryz.prog ops Q rest (a.put o.dst v') w'):wpList Tryz.prog ops Q (o::rest) a (W.alloc (.cells #[.int .i64 ta,.int .i64 tb,.int .i64 tc,.int .i64 tr,.int .i64 tv] 83)) :=
 zF yr ZX VY (by rfl) (by omega) (by omega) Tryz.underlying47 hgd s1 x1 ho v hs hrow (p:=⟨ta,tb,tc,tr,tv⟩) (bs:=[]) ⟨⟨rfl,rfl,rfl,rfl,rfl⟩,rfl⟩ rfl (by simp[Value.oneCell']) (λb hm=>by cases hm) trivial hlh c1 hx hlen w0 hb h0 λv' w' g1 g2 _ g4=>h v' w' g1 g2 g4
noncomputable def gpt (x y:Nat):PtD:=⟨qm (x:Int) 1,qm (y:Int) 1⟩
theorem qO.shapeN {α:Type} [Inhabited α] {N:List Nat->Prop}{TP:TypeId}{size lo hi:Nat}{El:World->Array Value->Nat->α->List Nat->Prop}{w:World}{v:Value}{l:List α}(h:qO N TP size El lo hi w v l):∃A c,v=.slice A l.length c:=by
 obtain⟨_,_,h1,_⟩:=h
 rcases h1.2 with ⟨rfl,h0⟩ |⟨g,cap,cur,rfl,_⟩
 ·exact⟨_,_,by rw[h0]⟩
 ·exact⟨_,_,rfl⟩
end Go.Proofs.YtjaapemopbbfaaaGreatDoor
