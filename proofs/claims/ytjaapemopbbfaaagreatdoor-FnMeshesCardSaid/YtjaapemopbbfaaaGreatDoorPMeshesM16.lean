import Derived.Test.YtjaapemopbbfaaaGreatDoorPMeshesM15
namespace Go.Proofs.YtjaapemopbbfaaaGreatDoor
open Go.RowKit
set_option maxRecDepth 100000
set_option maxHeartbeats 8000000
def sx (s:Bool) (N:Nat):Int:=if s=true then -(N:Int)else (N:Int)
theorem uE (s:Bool) (N:Nat):(sx s N).natAbs=N:=by unfold sx;split <;> omega
theorem qbr (s:Bool) (N:Nat):decide (sx s N<0)=(s&&decide (0<N)):=by
 unfold sx
 rcases s with _|_
 ·simp
 ·simp
def VR (s:Bool) (N D:Nat):qH:=if D=0 then zR else qm (sx s N) D
theorem VK {s:Bool}{N D:Nat}(hD:0<D):VR s N D=if (dig (N / Nat.gcd N D)).length<=24/\(dig (D / Nat.gcd N D)).length<=24 then ⟨s&&decide (0<N / Nat.gcd N D),qu (dig (N / Nat.gcd N D)),qu (dig (D / Nat.gcd N D))⟩else zR:=by
 unfold VR
 rw[if_neg (by omega)]
 unfold qm
 rw[uE]
 have hgN:Nat.gcd N D∣(sx s N).natAbs:=by rw[uE];exact Nat.gcd_dvd_left _ _
 have hg0:=yj (n:=N) hD
 have h1:=qZ (sx s N) _ hgN
 rw[uE]at h1
 have h2:=Jt (sx s N) _ hg0
 have h3:decide (sx s N / (Nat.gcd N D:Int) < 0)=(s && decide (0 < N / Nat.gcd N D)):=by
  rw[show decide (sx s N / (Nat.gcd N D:Int)<0)=decide (sx s N<0)from decide_eq_decide.2 h2,qbr]
  congr 1
  refine decide_eq_decide.2 ⟨λh=>Nat.div_pos (Nat.le_of_dvd h (Nat.gcd_dvd_left _ _)) hg0,λh=>?_⟩
  rcases Nat.eq_zero_or_pos N with h0|h0
  ·rw[h0]at h;simp at h
  ·exact h0
 unfold raw
 rw[h1,h3]
theorem Xx (w:World) (s:Bool) {A:Option Addr}{n c:Nat}{N:Nat}{B:Option Addr}{m d:Nat}{D:Nat}(ha:IsN w A n c N) (hb:IsN w B m d D) (_hn:n<=1048570) (_hm:m<=1048570) (h0:m=0) :
  Calls Tryz.prog 188 #[.bool s,.slice A n c,.slice B m d] w λe w'=>∃s' A' n' c' B' m' d',e=.returned (.agg #[.bool s',.slice A' n' c',.slice B' m' d'])/\OwR 3 w.heap.size w' s' A' n' c' B' m' d' (VR s N D)/\Bl w w':=by
 subst h0
 have hD:D=0:=Qe.1 (List.length_eq_zero_iff.1 hb.lenN)
 have hfin:=Lib.hid (show VR s N D=zR by unfold VR;rw[if_pos hD])
 clear hD
 go_enter Tryz.func188,Tryz.ntmps188
 go_wp2_with fail
 refine qd (λW=>Bl w W/\Wk 3 26 w.heap.size W) ⟨slc,bts⟩ ?_
 rintro W ⟨hbW,hr⟩
 refine(zJ _ (RdI.bl ha hbW)).mono ?_
 rintro e w1 ⟨rfl,q1,rfl⟩
 go_wp2_with fail
 refine(zJ _ (RdI.bl hb (hbW.drewN q1))).mono ?_
 rintro e w1 ⟨rfl,q2,rfl⟩
 have hbW:=(hbW.drewN q1).drewN q2
 have hr:=(hr.drewN q1).drewN q2
 generalize (W.drewN q1).drewN q2=W at *
 obtain⟨⟨x0,x1,x2⟩,hf0,hf1,hf2⟩:=hr.out3
 have hg:=hr.lt
 go_wp2_with fail
 exact bodyPost_ret (v:=.agg #[.bool false,.slice none 0 0,.slice none 0 0]) (by simp[results,Tryz.results188,go_sem,x0,x1,x2]) rfl ⟨_,_,_,_,_,_,_,rfl,by rw[hfin.out];exact OwR.zero _ _ _,slc⟩
theorem UB (w:World) (s:Bool) {A:Option Addr}{n c:Nat}{N:Nat}{B:Option Addr}{m d:Nat}{D:Nat}(ha:IsN w A n c N) (hb:IsN w B m d D) (hn:n<=1048570) (hm:m<=1048570) (h1:D=1) :
  Calls Tryz.prog 188 #[.bool s,.slice A n c,.slice B m d] w λe w'=>∃s' A' n' c' B' m' d',e=.returned (.agg #[.bool s',.slice A' n' c',.slice B' m' d'])/\OwR 3 w.heap.size w' s' A' n' c' B' m' d' (VR s N D)/\Bl w w':=by
 have hm0:0<m:=by rw[<-hb.lenN];exact ql.2 (by omega)
 have hne:((m:Int) == 0)=false:=by simp;omega
 have hval:=VK (s:=s) (N:=N) (D:=D) (by omega)
 rw[h1,Nat.gcd_one_right,Nat.div_one,Nat.div_one]at hval
 subst h1
 rw[ha.lenN,hb.lenN]at hval
 replace hval:=Lib.hid hval
 go_enter Tryz.func188,Tryz.ntmps188
 go_wp2_with fail
 refine qd (λW=>Bl w W/\Wk 3 26 w.heap.size W) ⟨slc,bts⟩ ?_
 rintro W ⟨hbW,hr⟩
 refine(zJ _ (RdI.bl ha hbW)).mono ?_
 rintro e w1 ⟨rfl,q1,rfl⟩
 go_wp2_with fail
 refine(zJ _ (RdI.bl hb (hbW.drewN q1))).mono ?_
 rintro e w1 ⟨rfl,q2,rfl⟩
 have hbW:=(hbW.drewN q1).drewN q2
 have hr:=(hr.drewN q1).drewN q2
 generalize (W.drewN q1).drewN q2=W at *
 go_wp2_with fail
 refine(jX _ (RdI.bl hb hbW)).mono ?_
 rintro e w1 ⟨rfl,q3,rfl⟩
 have hbW:=hbW.drewN q3
 have hr:=hr.drewN q3
 generalize W.drewN q3=W at *
 have hval:=hval.out
 by_cases hn24:n<=24
 ·have hi:decide ((24:Int)<(n:Int))=false:=by simp;omega
  by_cases hm24:m<=24
  ·have hj:decide ((24:Int)<(m:Int))=false:=by simp;omega
   rw[if_pos ⟨hn24,hm24⟩]at hval
   have hfin:=Lib.hid hval;clear hval
   go_wp2_with fail
   have hz:=hr.lt
   have hl1:Hid ((([]:List Int)++qu (dig (1))).length=m):=by have:=RdI.len (RdI.bl hb hbW);unfold Hid;simpa using this
   refine(qJ _ s (RdI.bl ha hbW) (by omega)).mono ?_
   rintro e w8 ⟨s8,A8,n8,c8,rfl,hs8,hO8,hb8⟩
   have hO8:=hO8.mono (show w.heap.size+1<=W.heap.size from hz)
   have hr8:=hr.bl hb8
   have hb9:=hbW.next hb8
   have hz8:w.heap.size+1<=w8.heap.size:=hr8.lt
   go_wp2_with (at_builtin;go_must (refine qK (w0:=w8) qn Tryz.underlying22 rfl (.tmp 51) (.tmp 52) rfl _ [] rfl (OwL.empty w8 (Nat.le_refl _) (by simp)) ((Bl.refl w8).alloc _) B m d rfl (qu (dig (1))) (RdI.alloc (RdI.bl (RdI.bl hb hbW) hb8) _) (by simp) (by omega) ?_);intro v1 w9 hown2 hb10;obtain⟨A9,c9,hv1,ho1⟩:=hown2.own (by rw[hl1.out];omega);rw[hl1.out]at hv1 ho1;subst hv1;obtain⟨⟨x0,x1,x2⟩,hf0,hf1,hf2⟩:=(hr8.bl hb10).out3)
   have hg:=(hr8.bl hb10).lt
   have hR:OwR 3 (w.heap.size+1) w9 s8 A8 n8 c8 A9 m c9 ⟨s8,qu (dig (N)),qu (dig (1))⟩:=OwR.two hO8 ho1 hb10 hz8
   rw[hs8.out,<-hfin.out]at hR
   have hs8':=hs8.out
   have hbz:=hb9.next hb10
   exact bodyPost_ret (v:=.agg #[.bool s8,.slice A8 n8 c8,.slice A9 m c9]) (by simp[results,Tryz.results188,go_sem,x0,x1,x2]) rfl ⟨_,_,_,_,_,_,_,rfl,by rw[hs8'];exact(((hR.far (by simp) _).far (by simp) _).far (by simp) _).mono (by omega),slc⟩
  ·have hj:decide ((24:Int)<(m:Int))=true:=by simp;omega
   rw[if_neg (λhh=>hm24 hh.2)]at hval
   have hfin:=Lib.hid hval;clear hval
   obtain⟨⟨x0,x1,x2⟩,hf0,hf1,hf2⟩:=hr.out3
   have hg:=hr.lt
   go_wp2_with fail
   exact bodyPost_ret (v:=.agg #[.bool false,.slice none 0 0,.slice none 0 0]) (by simp[results,Tryz.results188,go_sem,x0,x1,x2]) rfl ⟨_,_,_,_,_,_,_,rfl,by rw[hfin.out];exact OwR.zero _ _ _,slc⟩
 ·have hi:decide ((24:Int)<(n:Int))=true:=by simp;omega
  rw[if_neg (λhh=>hn24 hh.1)]at hval
  have hfin:=Lib.hid hval;clear hval
  obtain⟨⟨x0,x1,x2⟩,hf0,hf1,hf2⟩:=hr.out3
  have hg:=hr.lt
  go_wp2_with fail
  exact bodyPost_ret (v:=.agg #[.bool false,.slice none 0 0,.slice none 0 0]) (by simp[results,Tryz.results188,go_sem,x0,x1,x2]) rfl ⟨_,_,_,_,_,_,_,rfl,by rw[hfin.out];exact OwR.zero _ _ _,slc⟩
theorem xK (w:World) (s:Bool) {A:Option Addr}{n c:Nat}{N:Nat}{B:Option Addr}{m d:Nat}{D:Nat}(ha:IsN w A n c N) (hb:IsN w B m d D) (hn:n<=1048570) (hm:m<=1048570) (h0:0<D) (h1:D≠1) (hg1:Nat.gcd N D=1) :
  Calls Tryz.prog 188 #[.bool s,.slice A n c,.slice B m d] w λe w'=>∃s' A' n' c' B' m' d',e=.returned (.agg #[.bool s',.slice A' n' c',.slice B' m' d'])/\OwR 3 w.heap.size w' s' A' n' c' B' m' d' (VR s N D)/\Bl w w':=by
 have hm0:0<m:=by rw[<-hb.lenN];exact ql.2 h0
 have hne:((m:Int) == 0)=false:=by simp;omega
 have hval:=VK (s:=s) (N:=N) (D:=D) h0
 rw[hg1,Nat.div_one,Nat.div_one,ha.lenN,hb.lenN]at hval
 replace hval:=Lib.hid hval
 replace h1:=Lib.hid h1
 replace hg1:=Lib.hid hg1
 go_enter Tryz.func188,Tryz.ntmps188
 go_wp2_with fail
 refine qd (λW=>Bl w W/\Wk 3 26 w.heap.size W) ⟨slc,bts⟩ ?_
 rintro W ⟨hbW,hr⟩
 refine(zJ _ (RdI.bl ha hbW)).mono ?_
 rintro e w1 ⟨rfl,q1,rfl⟩
 go_wp2_with fail
 refine(zJ _ (RdI.bl hb (hbW.drewN q1))).mono ?_
 rintro e w1 ⟨rfl,q2,rfl⟩
 have hbW:=(hbW.drewN q1).drewN q2
 have hr:=(hr.drewN q1).drewN q2
 generalize (W.drewN q1).drewN q2=W at *
 go_wp2_with fail
 refine(yJ _ (RdI.bl hb hbW) h1.out).mono ?_
 rintro e w1 ⟨rfl,q3,rfl⟩
 have hbW:=hbW.drewN q3
 have hr:=hr.drewN q3
 generalize W.drewN q3=W at *
 go_wp2_with fail
 refine(Jn _ (RdI.bl ha hbW) (RdI.bl hb hbW) hn hm).mono ?_
 rintro e w3 ⟨A3,n3,c3,rfl,hG,hb3⟩
 rw[hg1.out]at hG
 have hbW:=hbW.next hb3
 have hr:=hr.bl hb3
 clear hb3
 obtain⟨W,rfl⟩:∃W,W=w3:=⟨_,rfl⟩
 go_wp2_with fail
 refine(jX _ hG.rd).mono ?_
 rintro e w1 ⟨rfl,q3,rfl⟩
 have hbW:=hbW.drewN q3
 have hr:=hr.drewN q3
 have hG:=hG.q ⟨q3,rfl⟩
 generalize W.drewN q3=W at *
 have hval:=hval.out
 by_cases hn24:n<=24
 ·have hi:decide ((24:Int)<(n:Int))=false:=by simp;omega
  by_cases hm24:m<=24
  ·have hj:decide ((24:Int)<(m:Int))=false:=by simp;omega
   rw[if_pos ⟨hn24,hm24⟩]at hval
   have hfin:=Lib.hid hval;clear hval
   go_wp2_with fail
   have hz:=hr.lt
   have hl1:Hid ((([]:List Int)++qu (dig (D))).length=m):=by have:=RdI.len (RdI.bl hb hbW);unfold Hid;simpa using this
   refine(qJ _ s (RdI.bl ha hbW) (by omega)).mono ?_
   rintro e w8 ⟨s8,A8,n8,c8,rfl,hs8,hO8,hb8⟩
   have hO8:=hO8.mono (show w.heap.size+1<=W.heap.size from hz)
   have hr8:=hr.bl hb8
   have hb9:=hbW.next hb8
   have hz8:w.heap.size+1<=w8.heap.size:=hr8.lt
   go_wp2_with (at_builtin;go_must (refine qK (w0:=w8) qn Tryz.underlying22 rfl (.tmp 51) (.tmp 52) rfl _ [] rfl (OwL.empty w8 (Nat.le_refl _) (by simp)) ((Bl.refl w8).alloc _) B m d rfl (qu (dig (D))) (RdI.alloc (RdI.bl (RdI.bl hb hbW) hb8) _) (by simp) (by omega) ?_);intro v1 w9 hown2 hb10;obtain⟨A9,c9,hv1,ho1⟩:=hown2.own (by rw[hl1.out];omega);rw[hl1.out]at hv1 ho1;subst hv1;obtain⟨⟨x0,x1,x2⟩,hf0,hf1,hf2⟩:=(hr8.bl hb10).out3)
   have hg:=(hr8.bl hb10).lt
   have hR:OwR 3 (w.heap.size+1) w9 s8 A8 n8 c8 A9 m c9 ⟨s8,qu (dig (N)),qu (dig (D))⟩:=OwR.two hO8 ho1 hb10 hz8
   rw[hs8.out,<-hfin.out]at hR
   have hs8':=hs8.out
   have hbz:=hb9.next hb10
   exact bodyPost_ret (v:=.agg #[.bool s8,.slice A8 n8 c8,.slice A9 m c9]) (by simp[results,Tryz.results188,go_sem,x0,x1,x2]) rfl ⟨_,_,_,_,_,_,_,rfl,by rw[hs8'];exact(((hR.far (by simp) _).far (by simp) _).far (by simp) _).mono (by omega),slc⟩
  ·have hj:decide ((24:Int)<(m:Int))=true:=by simp;omega
   rw[if_neg (λhh=>hm24 hh.2)]at hval
   have hfin:=Lib.hid hval;clear hval
   obtain⟨⟨x0,x1,x2⟩,hf0,hf1,hf2⟩:=hr.out3
   have hg:=hr.lt
   go_wp2_with fail
   exact bodyPost_ret (v:=.agg #[.bool false,.slice none 0 0,.slice none 0 0]) (by simp[results,Tryz.results188,go_sem,x0,x1,x2]) rfl ⟨_,_,_,_,_,_,_,rfl,by rw[hfin.out];exact OwR.zero _ _ _,slc⟩
 ·have hi:decide ((24:Int)<(n:Int))=true:=by simp;omega
  rw[if_neg (λhh=>hn24 hh.1)]at hval
  have hfin:=Lib.hid hval;clear hval
  obtain⟨⟨x0,x1,x2⟩,hf0,hf1,hf2⟩:=hr.out3
  have hg:=hr.lt
  go_wp2_with fail
  exact bodyPost_ret (v:=.agg #[.bool false,.slice none 0 0,.slice none 0 0]) (by simp[results,Tryz.results188,go_sem,x0,x1,x2]) rfl ⟨_,_,_,_,_,_,_,rfl,by rw[hfin.out];exact OwR.zero _ _ _,slc⟩
theorem Xo (w:World) (s:Bool) {A:Option Addr}{n c:Nat}{N:Nat}{B:Option Addr}{m d:Nat}{D:Nat}(ha:IsN w A n c N) (hb:IsN w B m d D) (hn:n<=1048570) (hm:m<=1048570) (h0:0<D) (h1:D≠1) (hg1:Nat.gcd N D≠1) :
  Calls Tryz.prog 188 #[.bool s,.slice A n c,.slice B m d] w λe w'=>∃s' A' n' c' B' m' d',e=.returned (.agg #[.bool s',.slice A' n' c',.slice B' m' d'])/\OwR 3 w.heap.size w' s' A' n' c' B' m' d' (VR s N D)/\Bl w w':=by
 have hm0:0<m:=by rw[<-hb.lenN];exact ql.2 h0
 have hne:((m:Int) == 0)=false:=by simp;omega
 have hval:=VK (s:=s) (N:=N) (D:=D) h0
 have hg0:=yj (n:=N) h0
 have hgl:=qE (Nat.le_of_dvd h0 (Nat.gcd_dvd_right N D))
 rw[hb.lenN]at hgl
 generalize hgd:Nat.gcd N D=g at *
 replace hval:=Lib.hid hval
 replace h1:=Lib.hid h1
 replace hg1:=Lib.hid hg1
 replace hgd:=Lib.hid hgd
 go_enter Tryz.func188,Tryz.ntmps188
 go_wp2_with fail
 refine qd (λW=>Bl w W/\Wk 3 26 w.heap.size W) ⟨slc,bts⟩ ?_
 rintro W ⟨hbW,hr⟩
 refine(zJ _ (RdI.bl ha hbW)).mono ?_
 rintro e w1 ⟨rfl,q1,rfl⟩
 go_wp2_with fail
 refine(zJ _ (RdI.bl hb (hbW.drewN q1))).mono ?_
 rintro e w1 ⟨rfl,q2,rfl⟩
 have hbW:=(hbW.drewN q1).drewN q2
 have hr:=(hr.drewN q1).drewN q2
 generalize (W.drewN q1).drewN q2=W at *
 go_wp2_with fail
 refine(yJ _ (RdI.bl hb hbW) h1.out).mono ?_
 rintro e w1 ⟨rfl,q3,rfl⟩
 have hbW:=hbW.drewN q3
 have hr:=hr.drewN q3
 generalize W.drewN q3=W at *
 go_wp2_with fail
 refine(Jn _ (RdI.bl ha hbW) (RdI.bl hb hbW) hn hm).mono ?_
 rintro e w3 ⟨A3,n3,c3,rfl,hG,hb3⟩
 rw[hgd.out]at hG
 have hn3:n3<=1048570:=by rw[hG.rd.lenN]at hgl;omega
 have hbW:=hbW.next hb3
 have hr:=hr.bl hb3
 clear hb3
 obtain⟨W,rfl⟩:∃W,W=w3:=⟨_,rfl⟩
 go_wp2_with fail
 refine(yJ _ hG.rd hg1.out).mono ?_
 rintro e w1 ⟨rfl,q3,rfl⟩
 have hbW:=hbW.drewN q3
 have hr:=hr.drewN q3
 have hG:=hG.rd.drewN q3
 generalize W.drewN q3=W at *
 go_wp2_with fail
 refine(QO _ (RdI.bl ha hbW) hG hn hn3 hg0).mono ?_
 rintro e w4 ⟨A4,n4,c4,A5,n5,c5,rfl,hQ,_,hb4⟩
 have hbW:=hbW.next hb4
 have hr:=hr.bl hb4
 have hG:=hG.bl hb4
 have hQ:=hQ.rd
 clear hb4
 obtain⟨W,rfl⟩:∃W,W=w4:=⟨_,rfl⟩
 go_wp2_with fail
 refine(QO _ (RdI.bl hb hbW) hG hm hn3 hg0).mono ?_
 rintro e w6 ⟨A6,n6,c6,A7,n7,c7,rfl,hQ2,_,hb6⟩
 have hbW:=hbW.next hb6
 have hr:=hr.bl hb6
 have hQ:=hQ.bl hb6
 have hQ2:=hQ2.rd
 clear hb6 hG
 have hsm4:=hQ.small
 have hsm6:=hQ2.small
 have hval:=hval.out
 rw[hQ.lenN,hQ2.lenN]at hval
 obtain⟨W,rfl⟩:∃W,W=w6:=⟨_,rfl⟩
 by_cases hn24:n4<=24
 ·have hi:decide ((24:Int)<(n4:Int))=false:=by simp;omega
  by_cases hm24:n6<=24
  ·have hj:decide ((24:Int)<(n6:Int))=false:=by simp;omega
   rw[if_pos ⟨hn24,hm24⟩]at hval
   have hfin:=Lib.hid hval;clear hval
   go_wp2_with fail
   have hz:=hr.lt
   have hl1:Hid ((([]:List Int)++qu (dig (D / g))).length=n6):=by have:=RdI.len hQ2;unfold Hid;simpa using this
   refine(qJ _ s hQ (by omega)).mono ?_
   rintro e w8 ⟨s8,A8,n8,c8,rfl,hs8,hO8,hb8⟩
   have hO8:=hO8.mono (show w.heap.size+1<=W.heap.size from hz)
   have hr8:=hr.bl hb8
   have hb9:=hbW.next hb8
   have hz8:w.heap.size+1<=w8.heap.size:=hr8.lt
   go_wp2_with (at_builtin;go_must (refine qK (w0:=w8) qn Tryz.underlying22 rfl (.tmp 51) (.tmp 52) rfl _ [] rfl (OwL.empty w8 (Nat.le_refl _) (by simp)) ((Bl.refl w8).alloc _) A6 n6 c6 rfl (qu (dig (D / g))) (RdI.alloc (RdI.bl hQ2 hb8) _) (by simp) (by omega) ?_);intro v1 w9 hown2 hb10;obtain⟨A9,c9,hv1,ho1⟩:=hown2.own (by rw[hl1.out];omega);rw[hl1.out]at hv1 ho1;subst hv1;obtain⟨⟨x0,x1,x2⟩,hf0,hf1,hf2⟩:=(hr8.bl hb10).out3)
   have hg:=(hr8.bl hb10).lt
   have hR:OwR 3 (w.heap.size+1) w9 s8 A8 n8 c8 A9 n6 c9 ⟨s8,qu (dig (N / g)),qu (dig (D / g))⟩:=OwR.two hO8 ho1 hb10 hz8
   rw[hs8.out,<-hfin.out]at hR
   have hs8':=hs8.out
   have hbz:=hb9.next hb10
   exact bodyPost_ret (v:=.agg #[.bool s8,.slice A8 n8 c8,.slice A9 n6 c9]) (by simp[results,Tryz.results188,go_sem,x0,x1,x2]) rfl ⟨_,_,_,_,_,_,_,rfl,by rw[hs8'];exact(((hR.far (by simp) _).far (by simp) _).far (by simp) _).mono (by omega),slc⟩
  ·have hj:decide ((24:Int)<(n6:Int))=true:=by simp;omega
   rw[if_neg (λhh=>hm24 hh.2)]at hval
   have hfin:=Lib.hid hval;clear hval
   obtain⟨⟨x0,x1,x2⟩,hf0,hf1,hf2⟩:=hr.out3
   have hg:=hr.lt
   go_wp2_with fail
   exact bodyPost_ret (v:=.agg #[.bool false,.slice none 0 0,.slice none 0 0]) (by simp[results,Tryz.results188,go_sem,x0,x1,x2]) rfl ⟨_,_,_,_,_,_,_,rfl,by rw[hfin.out];exact OwR.zero _ _ _,slc⟩
 ·have hi:decide ((24:Int)<(n4:Int))=true:=by simp;omega
  rw[if_neg (λhh=>hn24 hh.1)]at hval
  have hfin:=Lib.hid hval;clear hval
  obtain⟨⟨x0,x1,x2⟩,hf0,hf1,hf2⟩:=hr.out3
  have hg:=hr.lt
  go_wp2_with fail
  exact bodyPost_ret (v:=.agg #[.bool false,.slice none 0 0,.slice none 0 0]) (by simp[results,Tryz.results188,go_sem,x0,x1,x2]) rfl ⟨_,_,_,_,_,_,_,rfl,by rw[hfin.out];exact OwR.zero _ _ _,slc⟩
theorem QP (w:World) (s:Bool) {A:Option Addr}{n c:Nat}{N:Nat}{B:Option Addr}{m d:Nat}{D:Nat}(ha:IsN w A n c N) (hb:IsN w B m d D) (hn:n<=1048570) (hm:m<=1048570) :
  Calls Tryz.prog 188 #[.bool s,.slice A n c,.slice B m d] w λe w'=>∃s' A' n' c' B' m' d',e=.returned (.agg #[.bool s',.slice A' n' c',.slice B' m' d'])/\OwR 3 w.heap.size w' s' A' n' c' B' m' d' (VR s N D)/\Bl w w':=by
 rcases Nat.eq_zero_or_pos m with h0|h0
 ·exact Xx w s ha hb hn hm h0
 ·have hD:0<D:=ql.1 (by rw[hb.lenN];exact h0)
  by_cases h1:D=1
  ·exact UB w s ha hb hn hm h1
  ·by_cases hg:Nat.gcd N D=1
   ·exact xK w s ha hb hn hm hD h1 hg
   ·exact Xo w s ha hb hn hm hD h1 hg
theorem Xe (w:World) {s:Bool}{A:Option Addr}{n c:Nat}{B:Option Addr}{m d:Nat}{x:Int}{D:Nat}(h:IsR w s A n c B m d x D) :
  Calls Tryz.prog 50 #[.agg #[.bool s,.slice A n c,.slice B m d]] w λe w'=>∃s1,e=.returned (.agg #[.bool s1,.slice A n c,.slice B m d])/\IsR w' s1 A n c B m d (-x) D/\Bl w w':=by
 have hs:=Lib.hid h.sgn
 go_enter Tryz.func50,Tryz.ntmps50
 go_wp2_with fail
 refine qe (λW=>Bl w W/\Blk W (w.heap.size) 26 #[.bool s,.slice A n c,.slice B m d]/\Wk 3 26 (w.heap.size+1) W) ⟨slc,bts,bts⟩ ?_
 rintro W ⟨hbW,hx,hr⟩
 go_region_held3 (λw'=>(w'.cell? ⟨w.heap.size,0,none⟩=some (.bool s)/\w'.cell? ⟨w.heap.size,1,none⟩=some (.slice A n c)/\w'.cell? ⟨w.heap.size,2,none⟩=some (.slice B m d))/\(w'.cell? ⟨w.heap.size+1,0,none⟩=some (qh w' (w.heap.size+1) 0)/\w'.cell? ⟨w.heap.size+1,1,none⟩=some (qh w' (w.heap.size+1) 1)/\w'.cell? ⟨w.heap.size+1,2,none⟩=some (qh w' (w.heap.size+1) 2))/\w'.frozen? ⟨w.heap.size+1,0,none⟩=false/\w'.frozen? ⟨w.heap.size+1,1,none⟩=false/\w'.frozen? ⟨w.heap.size+1,2,none⟩=false) (first|exact⟨bx3 (T:=26) bts,Wk.out3 (T:=26) bts⟩) (first |(go_at_call 109;refine(zm _ _ (h.num.bl slc)).mono ?_;rintro e w4 ⟨s1,rfl,hs1,hb4⟩))
 have hr:=(show Wk 3 26 (w.heap.size+1) w4 from bts)
 have hbW:Bl w w4:=slc
 obtain⟨v0,x0⟩:=hr.val_ (i:=0) (by omega)
 obtain⟨v1,x1⟩:=hr.val_ (i:=1) (by omega)
 obtain⟨v2,x2⟩:=hr.val_ (i:=2) (by omega)
 have hg:=hr.lt
 obtain⟨cs4,hB4,hc4⟩:=hr
 have hf0:=hB4.frozen 0
 have hf1:=hB4.frozen 1
 have hf2:=hB4.frozen 2
 go_wp2_with fail
 refine bodyPost_ret (v:=.agg #[.bool s1,.slice A n c,.slice B m d]) (by simp[results,Tryz.results50,go_sem,x0,x1,x2]) rfl ⟨_,rfl,⟨?_,?_,?_⟩,slc⟩
 ·rw[hs1.out]
  refine jc (x:=-x) (by omega) λh0=>?_
  rw[hs.out]
  by_cases hx0:x<0
  ·simp[hx0];omega
  ·simp[hx0];omega
 ·show RdI _ A n c (qu (dig (-x).natAbs))
  rw[Int.natAbs_neg]
  exact h.num.bl slc
 ·exact h.dn.bl slc
theorem qaz (w:World) {s:Bool}{A:Option Addr}{n c:Nat}{B:Option Addr}{m d:Nat}{x:Int}{D:Nat}(h:IsR w s A n c B m d x D) :
  Calls Tryz.prog 54 #[.agg #[.bool s,.slice A n c,.slice B m d]] w λe w'=>e=.returned (.int .i64 (jF x 0))/\Bl w w':=by
 have hl:=h.num.lenN
 have hs:=h.sgn
 rcases Nat.eq_zero_or_pos n with h0|h0
 ·have hx:jF x 0=0:=by
   have:=Qe.1 (List.length_eq_zero_iff.1 (hl.trans h0))
   unfold jF
   rw[if_neg (by omega),if_neg (by omega)]
  rw[hx]
  subst h0
  clear hx hl hs
  go_enter Tryz.func54,Tryz.ntmps54
  go_wp2_with fail
  go_ret
  exact⟨rfl,slc⟩
 ·have hne:((n:Int) == 0)=false:=by simp;omega
  have hpos:0<x.natAbs:=ql.1 (by omega)
  rcases Int.lt_or_le x 0 with hx|hx
  ·have hc:jF x 0=-1:=by unfold jF;rw[if_pos hx]
   rw[hc]
   obtain rfl:s=true:=by rw[hs];simp[hx]
   clear hc hl hs hpos h0
   go_enter Tryz.func54,Tryz.ntmps54
   go_wp2_with fail
   go_ret
   exact⟨rfl,slc⟩
  ·have hc:jF x 0=1:=by unfold jF;rw[if_neg (by omega),if_pos (by omega)]
   rw[hc]
   obtain rfl:s=false:=by rw[hs];simp;omega
   clear hc hl hs hpos h0
   go_enter Tryz.func54,Tryz.ntmps54
   go_wp2_with fail
   go_ret
   exact⟨rfl,slc⟩
theorem XN (w:World) {s:Bool}{A:Option Addr}{n c:Nat}{B:Option Addr}{m d:Nat}{r:qH}(h:RdR w s A n c B m d r) :
  Calls Tryz.prog 20 #[.agg #[.bool s,.slice A n c,.slice B m d]] w λe w'=>e=.returned (.int .i64 (Zi r))/\Bl w w':=by
 by_cases ho:OkR r
 ·have hok:=zM ho
  have hv:Zi r=jF (rn r) 0:=by unfold Zi;rw[if_pos ho]
  rw[hv]
  have hI:=IsR.out h ho
  clear hv ho
  go_enter Tryz.func20,Tryz.ntmps20
  go_wp2_with fail
  refine(yK _ (h.alloc _)).mono ?_
  rw[hok]
  rintro e w1 ⟨rfl,hb1⟩
  obtain⟨i0,i1,i2⟩:=vR hb1
  have hb1:Bl w w1:=slc
  go_wp2_with fail
  refine(qaz _ (RdR.bl hI hb1)).mono ?_
  rintro e w2 ⟨rfl,hb2⟩
  go_wp2_with fail
  go_ret
  exact⟨rfl,slc⟩
 ·have hok:=yq ho
  have hv:Zi r=0:=by unfold Zi;rw[if_neg ho]
  rw[hv]
  clear hv
  replace ho:=Lib.hid ho
  go_enter Tryz.func20,Tryz.ntmps20
  go_wp2_with fail
  refine(yK _ (h.alloc _)).mono ?_
  rw[hok]
  rintro e w1 ⟨rfl,hb1⟩
  go_wp2_with fail
  go_ret
  exact⟨rfl,slc⟩
theorem OkR.lens {w:World}{s:Bool}{A:Option Addr}{n c:Nat}{B:Option Addr}{m d:Nat}{r:qH}(h:RdR w s A n c B m d r) (ho:OkR r):n<=24/\m<=24/\0<rd r:=by
 have hI:=IsR.out h ho
 have g:=ho.get
 have l1:=hI.num.lenN
 have l2:=hI.dn.lenN
 omega
theorem U0 (w:World) {s:Bool}{A:Option Addr}{n c:Nat}{B:Option Addr}{m d:Nat}{r:qH}{s':Bool}{A':Option Addr}{n' c':Nat}{B':Option Addr}{m' d':Nat}{r':qH}(h:RdR w s A n c B m d r) (k:RdR w s' A' n' c' B' m' d' r') :
  Calls Tryz.prog 53 #[.agg #[.bool s,.slice A n c,.slice B m d],.agg #[.bool s',.slice A' n' c',.slice B' m' d']] w λe w'=>∃s1 A1 n1 c1 B1 m1 d1,e=.returned (.agg #[.bool s1,.slice A1 n1 c1,.slice B1 m1 d1])/\OwR 3 w.heap.size w' s1 A1 n1 c1 B1 m1 d1 (Z3 r r')/\Bl w w':=by
 by_cases ho:OkR r/\OkR r'
 ·have hall:=Lib.hid (yh.2 ho)
  have hI:=IsR.out h ho.1
  have hI':=IsR.out k ho.2
  have hL:=OkR.lens h ho.1
  have hL':=OkR.lens k ho.2
  have hval:=Lib.hid (show Z3 r r'=qm (rn r*rd r'+rn r'*rd r) (rd r*rd r')by unfold Z3;rw[if_pos ho])
  clear ho
  go_enter Tryz.func53,Tryz.ntmps53
  go_wp2_with fail
  refine qd (λW=>Bl w W/\Blk W (w.heap.size) 26 #[.bool s,.slice A n c,.slice B m d]/\Blk W (w.heap.size+1) 26 #[.bool s',.slice A' n' c',.slice B' m' d']/\Wk 3 26 (w.heap.size+1+1) W/\Blk W (w.heap.size+1+1+1) 26 #[.bool s,.slice A n c,.slice B m d,.bool s',.slice A' n' c',.slice B' m' d']) ⟨slc,bts,bts,bts,Blk.new3 _ _ _ _ _ _⟩ ?_
  rintro W ⟨hbW,hx,hx',hr,hy⟩
  refine(js _ (YP.two hy (h.bl hbW) (k.bl hbW)) hall.out).mono ?_
  rintro e w1 ⟨rfl,hb1⟩
  clear hy
  have hx:=hx.bl hb1
  have hx':=hx'.bl hb1
  have hr:=hr.bl hb1
  have hbW:=hbW.next hb1
  clear hb1
  obtain⟨i0,i1,i2⟩:=bx3 hx
  obtain⟨j0,j1,j2⟩:=bx3 hx'
  go_wp2_with fail
  refine(uX _ (RdR.bl hI hbW) (RdR.bl hI' hbW) (by omega) (by omega) (by omega) (by omega) hL.2.2 hL'.2.2).mono ?_
  rintro e w2 ⟨s1,A1,n1,c1,B1,m1,d1,rfl,hR,hb2⟩
  have hR:=hR.mono (show w.heap.size+1+1+1<=w1.heap.size from hr.lt)
  rw[<-hval.out]at hR
  have hx:=hx.bl hb2
  have hx':=hx'.bl hb2
  have hr:=hr.bl hb2
  have hbW:=hbW.next hb2
  clear hb2
  obtain⟨i0,i1,i2⟩:=bx3 hx
  obtain⟨j0,j1,j2⟩:=bx3 hx'
  obtain⟨v0,x0⟩:=hr.val_ (i:=0) (by omega)
  obtain⟨v1,x1⟩:=hr.val_ (i:=1) (by omega)
  obtain⟨v2,x2⟩:=hr.val_ (i:=2) (by omega)
  have hg:=hr.lt
  obtain⟨cs4,hB4,hc4⟩:=hr
  have hf0:=hB4.frozen 0
  have hf1:=hB4.frozen 1
  have hf2:=hB4.frozen 2
  go_wp2_with fail
  exact bodyPost_ret (v:=.agg #[.bool s1,.slice A1 n1 c1,.slice B1 m1 d1]) (by simp[results,Tryz.results53,go_sem,x0,x1,x2]) rfl ⟨_,_,_,_,_,_,_,rfl,(((hR.far (by simp) _).far (by simp) _).far (by simp) _).mono (by omega),slc⟩
 ·have hall:=Lib.hid (λhk=>ho (yh.1 hk):¬ZK [r,r'])
  have hval:=Lib.hid (show Z3 r r'=zR by unfold Z3;rw[if_neg ho])
  replace ho:=Lib.hid ho
  go_enter Tryz.func53,Tryz.ntmps53
  go_wp2_with fail
  refine qd (λW=>Bl w W/\Blk W (w.heap.size) 26 #[.bool s,.slice A n c,.slice B m d]/\Blk W (w.heap.size+1) 26 #[.bool s',.slice A' n' c',.slice B' m' d']/\Wk 3 26 (w.heap.size+1+1) W/\Blk W (w.heap.size+1+1+1) 26 #[.bool s,.slice A n c,.slice B m d,.bool s',.slice A' n' c',.slice B' m' d']) ⟨slc,bts,bts,bts,Blk.new3 _ _ _ _ _ _⟩ ?_
  rintro W ⟨hbW,hx,hx',hr,hy⟩
  refine(Z6 _ (YP.two hy (h.bl hbW) (k.bl hbW)) hall.out).mono ?_
  rintro e w1 ⟨rfl,hb1⟩
  clear hy
  have hx:=hx.bl hb1
  have hx':=hx'.bl hb1
  have hr:=hr.bl hb1
  have hbW:=hbW.next hb1
  clear hb1
  obtain⟨i0,i1,i2⟩:=bx3 hx
  obtain⟨j0,j1,j2⟩:=bx3 hx'
  obtain⟨v0,x0⟩:=hr.val_ (i:=0) (by omega)
  obtain⟨v1,x1⟩:=hr.val_ (i:=1) (by omega)
  obtain⟨v2,x2⟩:=hr.val_ (i:=2) (by omega)
  have hg:=hr.lt
  obtain⟨cs4,hB4,hc4⟩:=hr
  have hf0:=hB4.frozen 0
  have hf1:=hB4.frozen 1
  have hf2:=hB4.frozen 2
  go_wp2_with fail
  exact bodyPost_ret (v:=.agg #[.bool false,.slice none 0 0,.slice none 0 0]) (by simp[results,Tryz.results53,go_sem,x0,x1,x2]) rfl ⟨_,_,_,_,_,_,_,rfl,by rw[hval.out];exact OwR.zero _ _ _,slc⟩
theorem Jh (w:World) {s:Bool}{A:Option Addr}{n c:Nat}{B:Option Addr}{m d:Nat}{r:qH}{s':Bool}{A':Option Addr}{n' c':Nat}{B':Option Addr}{m' d':Nat}{r':qH}(h:RdR w s A n c B m d r) (k:RdR w s' A' n' c' B' m' d' r') :
  Calls Tryz.prog 52 #[.agg #[.bool s,.slice A n c,.slice B m d],.agg #[.bool s',.slice A' n' c',.slice B' m' d']] w λe w'=>∃s1 A1 n1 c1 B1 m1 d1,e=.returned (.agg #[.bool s1,.slice A1 n1 c1,.slice B1 m1 d1])/\OwR 3 w.heap.size w' s1 A1 n1 c1 B1 m1 d1 (J4 r r')/\Bl w w':=by
 by_cases ho:OkR r/\OkR r'
 ·have hall:=Lib.hid (yh.2 ho)
  have hI:=IsR.out h ho.1
  have hI':=IsR.out k ho.2
  have hL:=OkR.lens h ho.1
  have hL':=OkR.lens k ho.2
  have hval:=Lib.hid (show J4 r r'=qm (rn r*rd r'-rn r'*rd r) (rd r*rd r')by unfold J4;rw[if_pos ho])
  clear ho
  go_enter Tryz.func52,Tryz.ntmps52
  go_wp2_with fail
  refine qd (λW=>Bl w W/\Blk W (w.heap.size) 26 #[.bool s,.slice A n c,.slice B m d]/\Blk W (w.heap.size+1) 26 #[.bool s',.slice A' n' c',.slice B' m' d']/\Wk 3 26 (w.heap.size+1+1) W/\Blk W (w.heap.size+1+1+1) 26 #[.bool s,.slice A n c,.slice B m d,.bool s',.slice A' n' c',.slice B' m' d']) ⟨slc,bts,bts,bts,Blk.new3 _ _ _ _ _ _⟩ ?_
  rintro W ⟨hbW,hx,hx',hr,hy⟩
  refine(js _ (YP.two hy (h.bl hbW) (k.bl hbW)) hall.out).mono ?_
  rintro e w1 ⟨rfl,hb1⟩
  clear hy
  have hx:=hx.bl hb1
  have hx':=hx'.bl hb1
  have hr:=hr.bl hb1
  have hbW:=hbW.next hb1
  clear hb1
  obtain⟨i0,i1,i2⟩:=bx3 hx
  obtain⟨j0,j1,j2⟩:=bx3 hx'
  go_wp2_with fail
  have hz1:=hr.lt
  go_region_held3 (λw'=>(w'.cell? ⟨w.heap.size,0,none⟩=some (.bool s)/\w'.cell? ⟨w.heap.size,1,none⟩=some (.slice A n c)/\w'.cell? ⟨w.heap.size,2,none⟩=some (.slice B m d))/\(w'.cell? ⟨w.heap.size+1,0,none⟩=some (.bool s')/\w'.cell? ⟨w.heap.size+1,1,none⟩=some (.slice A' n' c')/\w'.cell? ⟨w.heap.size+1,2,none⟩=some (.slice B' m' d'))/\(w'.cell? ⟨w.heap.size+1+1,0,none⟩=some (qh w' (w.heap.size+1+1) 0)/\w'.cell? ⟨w.heap.size+1+1,1,none⟩=some (qh w' (w.heap.size+1+1) 1)/\w'.cell? ⟨w.heap.size+1+1,2,none⟩=some (qh w' (w.heap.size+1+1) 2))/\w'.frozen? ⟨w.heap.size+1+1,0,none⟩=false/\w'.frozen? ⟨w.heap.size+1+1,1,none⟩=false/\w'.frozen? ⟨w.heap.size+1+1,2,none⟩=false) (first|exact⟨bx3 (T:=26) bts,bx3 (T:=26) bts,Wk.out3 (T:=26) bts⟩) (first |(go_at_call 50;refine(Xe _ (RdR.bl hI' slc)).mono ?_;rintro e w2 ⟨s2,rfl,hN,hb2⟩) |(go_at_call 111;refine(uX _ (RdR.bl hI slc) (RdR.bl hN slc) (by omega) (by omega) (by omega) (by omega) hL.2.2 hL'.2.2).mono ?_;rintro e w3 ⟨s1,A1,n1,c1,B1,m1,d1,rfl,hR,hb3⟩))
  have hz2:w1.heap.size<=w2.heap.size:=(Bl.size hb2:w1.drew.heap.size<=_)
  have hR:=hR.mono (show w.heap.size+1+1+1<=w2.heap.size from Nat.le_trans hz1 hz2)
  rw[show rn r*rd r'+-rn r'*rd r=rn r*rd r'-rn r'*rd r by rw[Int.neg_mul];omega,<-hval.out]at hR
  have hr:=(show Wk 3 26 (w.heap.size+1+1) w3 from bts)
  have hbW:Bl w w3:=slc
  obtain⟨v0,x0⟩:=hr.val_ (i:=0) (by omega)
  obtain⟨v1,x1⟩:=hr.val_ (i:=1) (by omega)
  obtain⟨v2,x2⟩:=hr.val_ (i:=2) (by omega)
  have hg:=hr.lt
  obtain⟨cs4,hB4,hc4⟩:=hr
  have hf0:=hB4.frozen 0
  have hf1:=hB4.frozen 1
  have hf2:=hB4.frozen 2
  go_wp2_with fail
  exact bodyPost_ret (v:=.agg #[.bool s1,.slice A1 n1 c1,.slice B1 m1 d1]) (by simp[results,Tryz.results52,go_sem,x0,x1,x2]) rfl ⟨_,_,_,_,_,_,_,rfl,(((hR.far (by simp) _).far (by simp) _).far (by simp) _).mono (by omega),slc⟩
 ·have hall:=Lib.hid (λhk=>ho (yh.1 hk):¬ZK [r,r'])
  have hval:=Lib.hid (show J4 r r'=zR by unfold J4;rw[if_neg ho])
  replace ho:=Lib.hid ho
  go_enter Tryz.func52,Tryz.ntmps52
  go_wp2_with fail
  refine qd (λW=>Bl w W/\Blk W (w.heap.size) 26 #[.bool s,.slice A n c,.slice B m d]/\Blk W (w.heap.size+1) 26 #[.bool s',.slice A' n' c',.slice B' m' d']/\Wk 3 26 (w.heap.size+1+1) W/\Blk W (w.heap.size+1+1+1) 26 #[.bool s,.slice A n c,.slice B m d,.bool s',.slice A' n' c',.slice B' m' d']) ⟨slc,bts,bts,bts,Blk.new3 _ _ _ _ _ _⟩ ?_
  rintro W ⟨hbW,hx,hx',hr,hy⟩
  refine(Z6 _ (YP.two hy (h.bl hbW) (k.bl hbW)) hall.out).mono ?_
  rintro e w1 ⟨rfl,hb1⟩
  clear hy
  have hx:=hx.bl hb1
  have hx':=hx'.bl hb1
  have hr:=hr.bl hb1
  have hbW:=hbW.next hb1
  clear hb1
  obtain⟨i0,i1,i2⟩:=bx3 hx
  obtain⟨j0,j1,j2⟩:=bx3 hx'
  obtain⟨v0,x0⟩:=hr.val_ (i:=0) (by omega)
  obtain⟨v1,x1⟩:=hr.val_ (i:=1) (by omega)
  obtain⟨v2,x2⟩:=hr.val_ (i:=2) (by omega)
  have hg:=hr.lt
  obtain⟨cs4,hB4,hc4⟩:=hr
  have hf0:=hB4.frozen 0
  have hf1:=hB4.frozen 1
  have hf2:=hB4.frozen 2
  go_wp2_with fail
  exact bodyPost_ret (v:=.agg #[.bool false,.slice none 0 0,.slice none 0 0]) (by simp[results,Tryz.results52,go_sem,x0,x1,x2]) rfl ⟨_,_,_,_,_,_,_,rfl,by rw[hval.out];exact OwR.zero _ _ _,slc⟩
end Go.Proofs.YtjaapemopbbfaaaGreatDoor
