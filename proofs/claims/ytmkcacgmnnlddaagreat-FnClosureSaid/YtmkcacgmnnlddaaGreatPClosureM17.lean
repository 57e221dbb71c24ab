import Derived.Test.YtmkcacgmnnlddaaGreatRows
import Derived.Test.YtmkcacgmnnlddaaGreatPClosureM16
import Derived.Test.YtmkcacgmnnlddaaGreatPClosureM10
namespace Go.Proofs.YtmkcacgmnnlddaaGreat
set_option maxRecDepth 100000
set_option maxHeartbeats 8000000
section
open Go.RowKit
def sx (s:Bool) (N:Nat):Int:=if s=true then -(N:Int)else (N:Int)
theorem sx_abs (s:Bool) (N:Nat):(sx s N).natAbs=N:=by unfold sx;split <;> omega
theorem sx_neg (s:Bool) (N:Nat):decide (sx s N<0)=(s&&decide (0<N)):=by
 unfold sx
 rcases s with _|_
 ·simp
 ·simp
def lowS (s:Bool) (N D:Nat):RatD:=if D=0 then zR else ofFrac (sx s N) D
theorem lowS_val {s:Bool}{N D:Nat}(hD:0<D):lowS s N D=if (dig (N / Nat.gcd N D)).length≤24∧(dig (D / Nat.gcd N D)).length≤24 then ⟨s&&decide (0<N / Nat.gcd N D),ints (dig (N / Nat.gcd N D)),ints (dig (D / Nat.gcd N D))⟩else zR:=by
 unfold lowS
 rw[if_neg (by omega)]
 unfold ofFrac
 rw[sx_abs]
 have hgN:Nat.gcd N D∣(sx s N).natAbs:=by rw[sx_abs];exact Nat.gcd_dvd_left _ _
 have hg0:=gcd_pos_den (n:=N) hD
 have h1:=natAbs_ediv_gcd (sx s N) _ hgN
 rw[sx_abs]at h1
 have h2:=ediv_neg_iff (sx s N) _ hg0
 have h3:decide (sx s N / (Nat.gcd N D:Int) < 0)=(s && decide (0 < N / Nat.gcd N D)):=by
  rw[show decide (sx s N / (Nat.gcd N D:Int)<0)=decide (sx s N<0)from decide_eq_decide.2 h2,sx_neg]
  congr 1
  refine decide_eq_decide.2 ⟨fun h=>Nat.div_pos (Nat.le_of_dvd h (Nat.gcd_dvd_left _ _)) hg0,fun h=>?_⟩
  rcases Nat.eq_zero_or_pos N with h0|h0
  ·rw[h0]at h;simp at h
  ·exact h0
 unfold raw
 rw[h1,h3]
theorem l04Low_zero (w:World) (s:Bool) {A:Option Addr}{n c:Nat}{N:Nat}{B:Option Addr}{m d:Nat}{D:Nat}(ha:IsN w A n c N) (hb:IsN w B m d D) (_hn:n≤1048570) (_hm:m≤1048570) (h0:m=0) :
  Calls Tryz.prog 175 #[.bool s,.slice A n c,.slice B m d] w fun e w'=>∃s' A' n' c' B' m' d',e=.returned (.agg #[.bool s',.slice A' n' c',.slice B' m' d'])∧OwR 3 w.heap.size w' s' A' n' c' B' m' d' (lowS s N D)∧Bl w w':=by
 subst h0
 have hD:D=0:=dig_nil.1 (List.length_eq_zero_iff.1 hb.lenN)
 have hfin:=Lib.hid (show lowS s N D=zR by unfold lowS;rw[if_pos hD])
 clear hD
 go_enter Tryz.func175,Tryz.ntmps175
 go_wp2_with fail
 refine calls_gen (fun W=>Bl w W∧Wk 3 54 w.heap.size W) ⟨slc,bts⟩ ?_
 rintro W ⟨hbW,hr⟩
 refine(l02Trim_num _ (RdI.bl ha hbW)).mono ?_
 rintro e w1 ⟨rfl,q1,rfl⟩
 go_wp2_with fail
 refine(l02Trim_num _ (RdI.bl hb (hbW.drewN q1))).mono ?_
 rintro e w1 ⟨rfl,q2,rfl⟩
 have hbW:=(hbW.drewN q1).drewN q2
 have hr:=(hr.drewN q1).drewN q2
 generalize (W.drewN q1).drewN q2=W at *
 obtain⟨⟨x0,x1,x2⟩,hf0,hf1,hf2⟩:=hr.out3
 have hg:=hr.lt
 go_wp2_with fail
 exact bodyPost_ret (v:=.agg #[.bool false,.slice none 0 0,.slice none 0 0]) (by simp[results,Tryz.results175,go_sem,x0,x1,x2]) rfl ⟨_,_,_,_,_,_,_,rfl,by rw[hfin.out];exact OwR.zero _ _ _,slc⟩
theorem l04Low_one (w:World) (s:Bool) {A:Option Addr}{n c:Nat}{N:Nat}{B:Option Addr}{m d:Nat}{D:Nat}(ha:IsN w A n c N) (hb:IsN w B m d D) (hn:n≤1048570) (hm:m≤1048570) (h1:D=1) :
  Calls Tryz.prog 175 #[.bool s,.slice A n c,.slice B m d] w fun e w'=>∃s' A' n' c' B' m' d',e=.returned (.agg #[.bool s',.slice A' n' c',.slice B' m' d'])∧OwR 3 w.heap.size w' s' A' n' c' B' m' d' (lowS s N D)∧Bl w w':=by
 have hm0:0<m:=by rw[←hb.lenN];exact dig_len_pos.2 (by omega)
 have hne:((m:Int) == 0)=false:=by simp;omega
 have hval:=lowS_val (s:=s) (N:=N) (D:=D) (by omega)
 rw[h1,Nat.gcd_one_right,Nat.div_one,Nat.div_one]at hval
 subst h1
 rw[ha.lenN,hb.lenN]at hval
 replace hval:=Lib.hid hval
 go_enter Tryz.func175,Tryz.ntmps175
 go_wp2_with fail
 refine calls_gen (fun W=>Bl w W∧Wk 3 54 w.heap.size W) ⟨slc,bts⟩ ?_
 rintro W ⟨hbW,hr⟩
 refine(l02Trim_num _ (RdI.bl ha hbW)).mono ?_
 rintro e w1 ⟨rfl,q1,rfl⟩
 go_wp2_with fail
 refine(l02Trim_num _ (RdI.bl hb (hbW.drewN q1))).mono ?_
 rintro e w1 ⟨rfl,q2,rfl⟩
 have hbW:=(hbW.drewN q1).drewN q2
 have hr:=(hr.drewN q1).drewN q2
 generalize (W.drewN q1).drewN q2=W at *
 go_wp2_with fail
 refine(l04One_yes _ (RdI.bl hb hbW)).mono ?_
 rintro e w1 ⟨rfl,q3,rfl⟩
 have hbW:=hbW.drewN q3
 have hr:=hr.drewN q3
 generalize W.drewN q3=W at *
 have hval:=hval.out
 by_cases hn24:n≤24
 ·have hi:decide ((24:Int)<(n:Int))=false:=by simp;omega
  by_cases hm24:m≤24
  ·have hj:decide ((24:Int)<(m:Int))=false:=by simp;omega
   rw[if_pos ⟨hn24,hm24⟩]at hval
   have hfin:=Lib.hid hval;clear hval
   go_wp2_with fail
   have hz:=hr.lt
   have hl1:Hid ((([]:List Int)++ints (dig (1))).length=m):=by have:=RdI.len (RdI.bl hb hbW);unfold Hid;simpa using this
   refine(l03Make_any _ s (RdI.bl ha hbW) (by omega)).mono ?_
   rintro e w8 ⟨s8,A8,n8,c8,rfl,hs8,hO8,hb8⟩
   have hO8:=hO8.mono (show w.heap.size+1≤W.heap.size from hz)
   have hr8:=hr.bl hb8
   have hb9:=hbW.next hb8
   have hz8:w.heap.size+1≤w8.heap.size:=hr8.lt
   go_wp2_with (at_builtin;go_must (refine wpList_append_x (w0:=w8) info_int Tryz.underlying28 rfl (.tmp 51) (.tmp 52) rfl _ [] rfl (OwL.empty w8 (Nat.le_refl _) (by simp)) ((Bl.refl w8).alloc _) B m d rfl (ints (dig (1))) (RdI.alloc (RdI.bl (RdI.bl hb hbW) hb8) _) (by simp) (by omega) ?_);intro v1 w9 hown2 hb10;obtain⟨A9,c9,hv1,ho1⟩:=hown2.own (by rw[hl1.out];omega);rw[hl1.out]at hv1 ho1;subst hv1;obtain⟨⟨x0,x1,x2⟩,hf0,hf1,hf2⟩:=(hr8.bl hb10).out3)
   have hg:=(hr8.bl hb10).lt
   have hR:OwR 3 (w.heap.size+1) w9 s8 A8 n8 c8 A9 m c9 ⟨s8,ints (dig (N)),ints (dig (1))⟩:=OwR.two hO8 ho1 hb10 hz8
   rw[hs8.out,←hfin.out]at hR
   have hs8':=hs8.out
   have hbz:=hb9.next hb10
   exact bodyPost_ret (v:=.agg #[.bool s8,.slice A8 n8 c8,.slice A9 m c9]) (by simp[results,Tryz.results175,go_sem,x0,x1,x2]) rfl ⟨_,_,_,_,_,_,_,rfl,by rw[hs8'];exact(((hR.far (by simp) _).far (by simp) _).far (by simp) _).mono (by omega),slc⟩
  ·have hj:decide ((24:Int)<(m:Int))=true:=by simp;omega
   rw[if_neg (fun hh=>hm24 hh.2)]at hval
   have hfin:=Lib.hid hval;clear hval
   obtain⟨⟨x0,x1,x2⟩,hf0,hf1,hf2⟩:=hr.out3
   have hg:=hr.lt
   go_wp2_with fail
   exact bodyPost_ret (v:=.agg #[.bool false,.slice none 0 0,.slice none 0 0]) (by simp[results,Tryz.results175,go_sem,x0,x1,x2]) rfl ⟨_,_,_,_,_,_,_,rfl,by rw[hfin.out];exact OwR.zero _ _ _,slc⟩
 ·have hi:decide ((24:Int)<(n:Int))=true:=by simp;omega
  rw[if_neg (fun hh=>hn24 hh.1)]at hval
  have hfin:=Lib.hid hval;clear hval
  obtain⟨⟨x0,x1,x2⟩,hf0,hf1,hf2⟩:=hr.out3
  have hg:=hr.lt
  go_wp2_with fail
  exact bodyPost_ret (v:=.agg #[.bool false,.slice none 0 0,.slice none 0 0]) (by simp[results,Tryz.results175,go_sem,x0,x1,x2]) rfl ⟨_,_,_,_,_,_,_,rfl,by rw[hfin.out];exact OwR.zero _ _ _,slc⟩
theorem l04Low_prime (w:World) (s:Bool) {A:Option Addr}{n c:Nat}{N:Nat}{B:Option Addr}{m d:Nat}{D:Nat}(ha:IsN w A n c N) (hb:IsN w B m d D) (hn:n≤1048570) (hm:m≤1048570) (h0:0<D) (h1:D≠1) (hg1:Nat.gcd N D=1) :
  Calls Tryz.prog 175 #[.bool s,.slice A n c,.slice B m d] w fun e w'=>∃s' A' n' c' B' m' d',e=.returned (.agg #[.bool s',.slice A' n' c',.slice B' m' d'])∧OwR 3 w.heap.size w' s' A' n' c' B' m' d' (lowS s N D)∧Bl w w':=by
 have hm0:0<m:=by rw[←hb.lenN];exact dig_len_pos.2 h0
 have hne:((m:Int) == 0)=false:=by simp;omega
 have hval:=lowS_val (s:=s) (N:=N) (D:=D) h0
 rw[hg1,Nat.div_one,Nat.div_one,ha.lenN,hb.lenN]at hval
 replace hval:=Lib.hid hval
 replace h1:=Lib.hid h1
 replace hg1:=Lib.hid hg1
 go_enter Tryz.func175,Tryz.ntmps175
 go_wp2_with fail
 refine calls_gen (fun W=>Bl w W∧Wk 3 54 w.heap.size W) ⟨slc,bts⟩ ?_
 rintro W ⟨hbW,hr⟩
 refine(l02Trim_num _ (RdI.bl ha hbW)).mono ?_
 rintro e w1 ⟨rfl,q1,rfl⟩
 go_wp2_with fail
 refine(l02Trim_num _ (RdI.bl hb (hbW.drewN q1))).mono ?_
 rintro e w1 ⟨rfl,q2,rfl⟩
 have hbW:=(hbW.drewN q1).drewN q2
 have hr:=(hr.drewN q1).drewN q2
 generalize (W.drewN q1).drewN q2=W at *
 go_wp2_with fail
 refine(l04One_no _ (RdI.bl hb hbW) h1.out).mono ?_
 rintro e w1 ⟨rfl,q3,rfl⟩
 have hbW:=hbW.drewN q3
 have hr:=hr.drewN q3
 generalize W.drewN q3=W at *
 go_wp2_with fail
 refine(l02Gcd_any _ (RdI.bl ha hbW) (RdI.bl hb hbW) hn hm).mono ?_
 rintro e w3 ⟨A3,n3,c3,rfl,hG,hb3⟩
 rw[hg1.out]at hG
 have hbW:=hbW.next hb3
 have hr:=hr.bl hb3
 clear hb3
 obtain⟨W,rfl⟩:∃W,W=w3:=⟨_,rfl⟩
 go_wp2_with fail
 refine(l04One_yes _ hG.rd).mono ?_
 rintro e w1 ⟨rfl,q3,rfl⟩
 have hbW:=hbW.drewN q3
 have hr:=hr.drewN q3
 have hG:=hG.q ⟨q3,rfl⟩
 generalize W.drewN q3=W at *
 have hval:=hval.out
 by_cases hn24:n≤24
 ·have hi:decide ((24:Int)<(n:Int))=false:=by simp;omega
  by_cases hm24:m≤24
  ·have hj:decide ((24:Int)<(m:Int))=false:=by simp;omega
   rw[if_pos ⟨hn24,hm24⟩]at hval
   have hfin:=Lib.hid hval;clear hval
   go_wp2_with fail
   have hz:=hr.lt
   have hl1:Hid ((([]:List Int)++ints (dig (D))).length=m):=by have:=RdI.len (RdI.bl hb hbW);unfold Hid;simpa using this
   refine(l03Make_any _ s (RdI.bl ha hbW) (by omega)).mono ?_
   rintro e w8 ⟨s8,A8,n8,c8,rfl,hs8,hO8,hb8⟩
   have hO8:=hO8.mono (show w.heap.size+1≤W.heap.size from hz)
   have hr8:=hr.bl hb8
   have hb9:=hbW.next hb8
   have hz8:w.heap.size+1≤w8.heap.size:=hr8.lt
   go_wp2_with (at_builtin;go_must (refine wpList_append_x (w0:=w8) info_int Tryz.underlying28 rfl (.tmp 51) (.tmp 52) rfl _ [] rfl (OwL.empty w8 (Nat.le_refl _) (by simp)) ((Bl.refl w8).alloc _) B m d rfl (ints (dig (D))) (RdI.alloc (RdI.bl (RdI.bl hb hbW) hb8) _) (by simp) (by omega) ?_);intro v1 w9 hown2 hb10;obtain⟨A9,c9,hv1,ho1⟩:=hown2.own (by rw[hl1.out];omega);rw[hl1.out]at hv1 ho1;subst hv1;obtain⟨⟨x0,x1,x2⟩,hf0,hf1,hf2⟩:=(hr8.bl hb10).out3)
   have hg:=(hr8.bl hb10).lt
   have hR:OwR 3 (w.heap.size+1) w9 s8 A8 n8 c8 A9 m c9 ⟨s8,ints (dig (N)),ints (dig (D))⟩:=OwR.two hO8 ho1 hb10 hz8
   rw[hs8.out,←hfin.out]at hR
   have hs8':=hs8.out
   have hbz:=hb9.next hb10
   exact bodyPost_ret (v:=.agg #[.bool s8,.slice A8 n8 c8,.slice A9 m c9]) (by simp[results,Tryz.results175,go_sem,x0,x1,x2]) rfl ⟨_,_,_,_,_,_,_,rfl,by rw[hs8'];exact(((hR.far (by simp) _).far (by simp) _).far (by simp) _).mono (by omega),slc⟩
  ·have hj:decide ((24:Int)<(m:Int))=true:=by simp;omega
   rw[if_neg (fun hh=>hm24 hh.2)]at hval
   have hfin:=Lib.hid hval;clear hval
   obtain⟨⟨x0,x1,x2⟩,hf0,hf1,hf2⟩:=hr.out3
   have hg:=hr.lt
   go_wp2_with fail
   exact bodyPost_ret (v:=.agg #[.bool false,.slice none 0 0,.slice none 0 0]) (by simp[results,Tryz.results175,go_sem,x0,x1,x2]) rfl ⟨_,_,_,_,_,_,_,rfl,by rw[hfin.out];exact OwR.zero _ _ _,slc⟩
 ·have hi:decide ((24:Int)<(n:Int))=true:=by simp;omega
  rw[if_neg (fun hh=>hn24 hh.1)]at hval
  have hfin:=Lib.hid hval;clear hval
  obtain⟨⟨x0,x1,x2⟩,hf0,hf1,hf2⟩:=hr.out3
  have hg:=hr.lt
  go_wp2_with fail
  exact bodyPost_ret (v:=.agg #[.bool false,.slice none 0 0,.slice none 0 0]) (by simp[results,Tryz.results175,go_sem,x0,x1,x2]) rfl ⟨_,_,_,_,_,_,_,rfl,by rw[hfin.out];exact OwR.zero _ _ _,slc⟩
theorem l04Low_more (w:World) (s:Bool) {A:Option Addr}{n c:Nat}{N:Nat}{B:Option Addr}{m d:Nat}{D:Nat}(ha:IsN w A n c N) (hb:IsN w B m d D) (hn:n≤1048570) (hm:m≤1048570) (h0:0<D) (h1:D≠1) (hg1:Nat.gcd N D≠1) :
  Calls Tryz.prog 175 #[.bool s,.slice A n c,.slice B m d] w fun e w'=>∃s' A' n' c' B' m' d',e=.returned (.agg #[.bool s',.slice A' n' c',.slice B' m' d'])∧OwR 3 w.heap.size w' s' A' n' c' B' m' d' (lowS s N D)∧Bl w w':=by
 have hm0:0<m:=by rw[←hb.lenN];exact dig_len_pos.2 h0
 have hne:((m:Int) == 0)=false:=by simp;omega
 have hval:=lowS_val (s:=s) (N:=N) (D:=D) h0
 have hg0:=gcd_pos_den (n:=N) h0
 have hgl:=dig_len_mono (Nat.le_of_dvd h0 (Nat.gcd_dvd_right N D))
 rw[hb.lenN]at hgl
 generalize hgd:Nat.gcd N D=g at *
 replace hval:=Lib.hid hval
 replace h1:=Lib.hid h1
 replace hg1:=Lib.hid hg1
 replace hgd:=Lib.hid hgd
 go_enter Tryz.func175,Tryz.ntmps175
 go_wp2_with fail
 refine calls_gen (fun W=>Bl w W∧Wk 3 54 w.heap.size W) ⟨slc,bts⟩ ?_
 rintro W ⟨hbW,hr⟩
 refine(l02Trim_num _ (RdI.bl ha hbW)).mono ?_
 rintro e w1 ⟨rfl,q1,rfl⟩
 go_wp2_with fail
 refine(l02Trim_num _ (RdI.bl hb (hbW.drewN q1))).mono ?_
 rintro e w1 ⟨rfl,q2,rfl⟩
 have hbW:=(hbW.drewN q1).drewN q2
 have hr:=(hr.drewN q1).drewN q2
 generalize (W.drewN q1).drewN q2=W at *
 go_wp2_with fail
 refine(l04One_no _ (RdI.bl hb hbW) h1.out).mono ?_
 rintro e w1 ⟨rfl,q3,rfl⟩
 have hbW:=hbW.drewN q3
 have hr:=hr.drewN q3
 generalize W.drewN q3=W at *
 go_wp2_with fail
 refine(l02Gcd_any _ (RdI.bl ha hbW) (RdI.bl hb hbW) hn hm).mono ?_
 rintro e w3 ⟨A3,n3,c3,rfl,hG,hb3⟩
 rw[hgd.out]at hG
 have hn3:n3≤1048570:=by rw[hG.rd.lenN]at hgl;omega
 have hbW:=hbW.next hb3
 have hr:=hr.bl hb3
 clear hb3
 obtain⟨W,rfl⟩:∃W,W=w3:=⟨_,rfl⟩
 go_wp2_with fail
 refine(l04One_no _ hG.rd hg1.out).mono ?_
 rintro e w1 ⟨rfl,q3,rfl⟩
 have hbW:=hbW.drewN q3
 have hr:=hr.drewN q3
 have hG:=hG.rd.drewN q3
 generalize W.drewN q3=W at *
 go_wp2_with fail
 refine(l02Div_any _ (RdI.bl ha hbW) hG hn hn3 hg0).mono ?_
 rintro e w4 ⟨A4,n4,c4,A5,n5,c5,rfl,hQ,_,hb4⟩
 have hbW:=hbW.next hb4
 have hr:=hr.bl hb4
 have hG:=hG.bl hb4
 have hQ:=hQ.rd
 clear hb4
 obtain⟨W,rfl⟩:∃W,W=w4:=⟨_,rfl⟩
 go_wp2_with fail
 refine(l02Div_any _ (RdI.bl hb hbW) hG hm hn3 hg0).mono ?_
 rintro e w6 ⟨A6,n6,c6,A7,n7,c7,rfl,hQ2,_,hb6⟩
 have hbW:=hbW.next hb6
 have hr:=hr.bl hb6
 have hQ:=hQ.bl hb6
 have hQ2:=hQ2.rd
 clear hb6 hG
 have hsm4:=hQ.small
 have hsm6:=hQ2.small
 have hval:=hval.out
 rw[hQ.lenN,hQ2.lenN]at hval
 obtain⟨W,rfl⟩:∃W,W=w6:=⟨_,rfl⟩
 by_cases hn24:n4≤24
 ·have hi:decide ((24:Int)<(n4:Int))=false:=by simp;omega
  by_cases hm24:n6≤24
  ·have hj:decide ((24:Int)<(n6:Int))=false:=by simp;omega
   rw[if_pos ⟨hn24,hm24⟩]at hval
   have hfin:=Lib.hid hval;clear hval
   go_wp2_with fail
   have hz:=hr.lt
   have hl1:Hid ((([]:List Int)++ints (dig (D / g))).length=n6):=by have:=RdI.len hQ2;unfold Hid;simpa using this
   refine(l03Make_any _ s hQ (by omega)).mono ?_
   rintro e w8 ⟨s8,A8,n8,c8,rfl,hs8,hO8,hb8⟩
   have hO8:=hO8.mono (show w.heap.size+1≤W.heap.size from hz)
   have hr8:=hr.bl hb8
   have hb9:=hbW.next hb8
   have hz8:w.heap.size+1≤w8.heap.size:=hr8.lt
   go_wp2_with (at_builtin;go_must (refine wpList_append_x (w0:=w8) info_int Tryz.underlying28 rfl (.tmp 51) (.tmp 52) rfl _ [] rfl (OwL.empty w8 (Nat.le_refl _) (by simp)) ((Bl.refl w8).alloc _) A6 n6 c6 rfl (ints (dig (D / g))) (RdI.alloc (RdI.bl hQ2 hb8) _) (by simp) (by omega) ?_);intro v1 w9 hown2 hb10;obtain⟨A9,c9,hv1,ho1⟩:=hown2.own (by rw[hl1.out];omega);rw[hl1.out]at hv1 ho1;subst hv1;obtain⟨⟨x0,x1,x2⟩,hf0,hf1,hf2⟩:=(hr8.bl hb10).out3)
   have hg:=(hr8.bl hb10).lt
   have hR:OwR 3 (w.heap.size+1) w9 s8 A8 n8 c8 A9 n6 c9 ⟨s8,ints (dig (N / g)),ints (dig (D / g))⟩:=OwR.two hO8 ho1 hb10 hz8
   rw[hs8.out,←hfin.out]at hR
   have hs8':=hs8.out
   have hbz:=hb9.next hb10
   exact bodyPost_ret (v:=.agg #[.bool s8,.slice A8 n8 c8,.slice A9 n6 c9]) (by simp[results,Tryz.results175,go_sem,x0,x1,x2]) rfl ⟨_,_,_,_,_,_,_,rfl,by rw[hs8'];exact(((hR.far (by simp) _).far (by simp) _).far (by simp) _).mono (by omega),slc⟩
  ·have hj:decide ((24:Int)<(n6:Int))=true:=by simp;omega
   rw[if_neg (fun hh=>hm24 hh.2)]at hval
   have hfin:=Lib.hid hval;clear hval
   obtain⟨⟨x0,x1,x2⟩,hf0,hf1,hf2⟩:=hr.out3
   have hg:=hr.lt
   go_wp2_with fail
   exact bodyPost_ret (v:=.agg #[.bool false,.slice none 0 0,.slice none 0 0]) (by simp[results,Tryz.results175,go_sem,x0,x1,x2]) rfl ⟨_,_,_,_,_,_,_,rfl,by rw[hfin.out];exact OwR.zero _ _ _,slc⟩
 ·have hi:decide ((24:Int)<(n4:Int))=true:=by simp;omega
  rw[if_neg (fun hh=>hn24 hh.1)]at hval
  have hfin:=Lib.hid hval;clear hval
  obtain⟨⟨x0,x1,x2⟩,hf0,hf1,hf2⟩:=hr.out3
  have hg:=hr.lt
  go_wp2_with fail
  exact bodyPost_ret (v:=.agg #[.bool false,.slice none 0 0,.slice none 0 0]) (by simp[results,Tryz.results175,go_sem,x0,x1,x2]) rfl ⟨_,_,_,_,_,_,_,rfl,by rw[hfin.out];exact OwR.zero _ _ _,slc⟩
theorem l04Low_any (w:World) (s:Bool) {A:Option Addr}{n c:Nat}{N:Nat}{B:Option Addr}{m d:Nat}{D:Nat}(ha:IsN w A n c N) (hb:IsN w B m d D) (hn:n≤1048570) (hm:m≤1048570) :
  Calls Tryz.prog 175 #[.bool s,.slice A n c,.slice B m d] w fun e w'=>∃s' A' n' c' B' m' d',e=.returned (.agg #[.bool s',.slice A' n' c',.slice B' m' d'])∧OwR 3 w.heap.size w' s' A' n' c' B' m' d' (lowS s N D)∧Bl w w':=by
 rcases Nat.eq_zero_or_pos m with h0|h0
 ·exact l04Low_zero w s ha hb hn hm h0
 ·have hD:0<D:=dig_len_pos.1 (by rw[hb.lenN];exact h0)
  by_cases h1:D=1
  ·exact l04Low_one w s ha hb hn hm h1
  ·by_cases hg:Nat.gcd N D=1
   ·exact l04Low_prime w s ha hb hn hm hD h1 hg
   ·exact l04Low_more w s ha hb hn hm hD h1 hg
end
section
open Go.RowKit
section
variable (w:World) {s:Bool}{A:Option Addr}{n c:Nat}{B:Option Addr}{m d:Nat}{r:RatD}
theorem sRatOk_bad (h:RdR w s A n c B m d r) (ho:¬OkR r) (ho':¬(OkB s r.mag∧OkN r.den∧0<m∧n≤24∧m≤24)) :
  Calls Tryz.prog 150 #[.agg #[.bool s,.slice A n c,.slice B m d]] w fun e w'=>e=.returned (.bool (okR r))∧Bl w w':=by
 rw[okR_no ho]
 clear ho
 by_cases h1:OkB s r.mag
 ·have hB1:=okB_yes h1
  by_cases h2:OkN r.den
  ·have hN1:=okN_of h2
   by_cases h3:0<m
   ·have h3i:((m:Int) == 0)=false:=by simp;omega
    by_cases h5:m≤24
    ·have h5i:decide ((24:Int)<(m:Int))=false:=by simp;omega
     have h4:¬n≤24:=fun h4=>ho' ⟨h1,h2,h3,h4,h5⟩
     have h4i:decide ((24:Int)<(n:Int))=true:=by simp;omega
     clear ho' h1 h2 h3 h4 h5
     go_enter Tryz.func150,Tryz.ntmps150
     go_wp2_with fail
     refine(sBigIntOk_any _ (h.mag.alloc _)).mono ?_
     rw[hB1]
     rintro e w1 ⟨rfl,hb1⟩
     obtain⟨k0,k1,k2⟩:=box3 hb1
     have hb1:Bl w w1:=slc
     go_wp2_with fail
     refine(sNatOk_any _ (h.den.bl hb1)).mono ?_
     rw[hN1]
     rintro e w2 ⟨rfl,q2,rfl⟩
     go_wp2_with fail
     go_ret
     exact⟨rfl,slc⟩
    ·have h5i:decide ((24:Int)<(m:Int))=true:=by simp;omega
     clear ho' h1 h2 h3 h5
     go_enter Tryz.func150,Tryz.ntmps150
     go_wp2_with fail
     refine(sBigIntOk_any _ (h.mag.alloc _)).mono ?_
     rw[hB1]
     rintro e w1 ⟨rfl,hb1⟩
     obtain⟨k0,k1,k2⟩:=box3 hb1
     have hb1:Bl w w1:=slc
     go_wp2_with fail
     refine(sNatOk_any _ (h.den.bl hb1)).mono ?_
     rw[hN1]
     rintro e w2 ⟨rfl,q2,rfl⟩
     go_wp2_with fail
     go_ret
     exact⟨rfl,slc⟩
   ·obtain rfl:m=0:=by omega
    clear ho' h1 h2 h3
    go_enter Tryz.func150,Tryz.ntmps150
    go_wp2_with fail
    refine(sBigIntOk_any _ (h.mag.alloc _)).mono ?_
    rw[hB1]
    rintro e w1 ⟨rfl,hb1⟩
    obtain⟨k0,k1,k2⟩:=box3 hb1
    have hb1:Bl w w1:=slc
    go_wp2_with fail
    refine(sNatOk_any _ (h.den.bl hb1)).mono ?_
    rw[hN1]
    rintro e w2 ⟨rfl,q2,rfl⟩
    go_wp2_with fail
    go_ret
    exact⟨rfl,slc⟩
  ·have hN0:=okN_no h2
   clear ho' h1 h2
   go_enter Tryz.func150,Tryz.ntmps150
   go_wp2_with fail
   refine(sBigIntOk_any _ (h.mag.alloc _)).mono ?_
   rw[hB1]
   rintro e w1 ⟨rfl,hb1⟩
   obtain⟨k0,k1,k2⟩:=box3 hb1
   have hb1:Bl w w1:=slc
   go_wp2_with fail
   refine(sNatOk_any _ (h.den.bl hb1)).mono ?_
   rw[hN0]
   rintro e w2 ⟨rfl,q2,rfl⟩
   go_wp2_with fail
   go_ret
   exact⟨rfl,slc⟩
 ·have hB0:=okB_no h1
  clear ho' h1
  go_enter Tryz.func150,Tryz.ntmps150
  go_wp2_with fail
  refine(sBigIntOk_any _ (h.mag.alloc _)).mono ?_
  rw[hB0]
  rintro e w1 ⟨rfl,hb1⟩
  obtain⟨k0,k1,k2⟩:=box3 hb1
  have hb1:Bl w w1:=slc
  go_wp2_with fail
  go_ret
  exact⟨rfl,slc⟩
theorem sRatOk_fine {x:Int}{D:Nat}(h:IsR w s A n c B m d x D) (hB1:okB s (raw x D).mag=true) (hN1:okN (raw x D).den=true) (h3:0<m) (h4:n≤24) (h5:m≤24) :
  Calls Tryz.prog 150 #[.agg #[.bool s,.slice A n c,.slice B m d]] w fun e w'=>e=.returned (.bool (decide (Nat.gcd x.natAbs D=1)))∧Bl w w':=by
 have h3i:((m:Int) == 0)=false:=by simp;omega
 have h4i:decide ((24:Int)<(n:Int))=false:=by simp;omega
 have h5i:decide ((24:Int)<(m:Int))=false:=by simp;omega
 go_enter Tryz.func150,Tryz.ntmps150
 go_wp2_with fail
 refine(sBigIntOk_any _ (h.mag.alloc _)).mono ?_
 rw[hB1]
 rintro e w1 ⟨rfl,hb1⟩
 obtain⟨k0,k1,k2⟩:=box3 hb1
 have hb1:Bl w w1:=slc
 go_wp2_with fail
 refine(sNatOk_any _ (h.den.bl hb1)).mono ?_
 rw[hN1]
 rintro e w2 ⟨rfl,q2,rfl⟩
 have hb3:Bl w (w1.drewN q2):=slc
 go_wp2_with fail
 refine(l02Gcd_any _ (h.num.bl hb3) (h.dn.bl hb3) (by omega) (by omega)).mono ?_
 rintro e w4 ⟨A',n',c',rfl,hO,hb4⟩
 have hb4:Bl w w4:=slc
 by_cases hg:Nat.gcd x.natAbs D=1
 ·rw[hg]at hO
  have hd:=Lib.hid (show decide (Nat.gcd x.natAbs D=1)=true by simp[hg])
  clear hg
  go_wp2_with fail
  refine(l04One_yes _ hO.rd).mono ?_
  rintro e w5 ⟨rfl,q5,rfl⟩
  go_wp2_with fail
  go_ret
  exact⟨ret_bool hd.out.symm,slc⟩
 ·have hd:=Lib.hid (show decide (Nat.gcd x.natAbs D=1)=false by simp[hg])
  replace hg:=Lib.hid hg
  go_wp2_with fail
  refine(l04One_no _ hO.rd hg.out).mono ?_
  rintro e w5 ⟨rfl,q5,rfl⟩
  go_wp2_with fail
  go_ret
  exact⟨ret_bool hd.out.symm,slc⟩
theorem sRatOk_any (h:RdR w s A n c B m d r) :
  Calls Tryz.prog 150 #[.agg #[.bool s,.slice A n c,.slice B m d]] w fun e w'=>e=.returned (.bool (okR r))∧Bl w w':=by
 have hiff:=okR_iff r
 rw[h.mag.len,h.den.len,←h.neg]at hiff
 by_cases hg:OkB s r.mag∧OkN r.den∧0<m∧n≤24∧m≤24
 ·obtain⟨g1,g2,g3,g4,g5⟩:=hg
  have e1:=g1.1.nv.1
  have e2:=g2.nv.1
  have hn:(rn r).natAbs=nv r.mag:=by unfold rn;split <;> omega
  have hr:r=raw (rn r) (rd r):=by
   obtain⟨s',mag,den⟩:=r
   have hs:=h.neg
   simp only at hs
   subst hs
   unfold raw
   congr 1
   ·by_cases hs:s=true
    ·have:=g1.2 hs
     simp only at this e1
     rw[e1,ints_len]at this
     have:=dig_len_pos.1 this
     subst hs
     simp[rn]
     omega
    ·have:s=false:=by simpa using hs
     subst this
     simp[rn]
   ·rw[hn];exact e1
  have hI:IsR w s A n c B m d (rn r) (rd r):=by
   have h2:=h
   rw[hr]at h2
   exact h2
  refine(sRatOk_fine w hI (by rw[←hr];exact okB_yes g1) (by rw[←hr];exact okN_of g2) g3 g4 g5).mono ?_
  rintro e w' ⟨rfl,hb⟩
  refine⟨?_,hb⟩
  congr 2
  by_cases hk:Nat.gcd (nv r.mag) (nv r.den)=1
  ·rw[okR_of (hiff.2 ⟨g1,g2,g3,g4,g5,hk⟩),hn]
   simp[rd,hk]
  ·rw[okR_no (fun ho=>hk (hiff.1 ho).2.2.2.2.2),hn]
   simp[rd,hk]
 ·exact sRatOk_bad w h (fun ho=>hg ⟨(hiff.1 ho).1,(hiff.1 ho).2.1,(hiff.1 ho).2.2.1,(hiff.1 ho).2.2.2.1,(hiff.1 ho).2.2.2.2.1⟩) hg
end
theorem sRatSign_any (w:World) {s:Bool}{A:Option Addr}{n c:Nat}{B:Option Addr}{m d:Nat}{r:RatD}(h:RdR w s A n c B m d r) :
  Calls Tryz.prog 151 #[.agg #[.bool s,.slice A n c,.slice B m d]] w fun e w'=>e=.returned (.int .i64 (sgnR r))∧Bl w w':=by
 by_cases ho:OkR r
 ·have hok:=okR_of ho
  have hv:sgnR r=cmpZ (rn r) 0:=by unfold sgnR;rw[if_pos ho]
  rw[hv]
  have hI:=IsR.out h ho
  have hl:=hI.num.lenN
  have hs:=hI.sgn
  clear hv ho
  rcases Nat.eq_zero_or_pos n with h0|h0
  ·have hx:cmpZ (rn r) 0=0:=by
    have:=dig_nil.1 (List.length_eq_zero_iff.1 (hl.trans h0))
    unfold cmpZ
    rw[if_neg (by omega),if_neg (by omega)]
   rw[hx]
   subst h0
   clear hx hl hs
   go_enter Tryz.func151,Tryz.ntmps151
   go_wp2_with fail
   refine(sRatOk_any _ (h.alloc _)).mono ?_
   rw[hok]
   rintro e w1 ⟨rfl,hb1⟩
   obtain⟨i0,i1,i2⟩:=box3 hb1
   go_wp2_with fail
   go_ret
   exact⟨rfl,slc⟩
  ·have hne:((n:Int) == 0)=false:=by simp;omega
   have hpos:0<(rn r).natAbs:=dig_len_pos.1 (by omega)
   rcases Int.lt_or_le (rn r) 0 with hx|hx
   ·have hc:cmpZ (rn r) 0=-1:=by unfold cmpZ;rw[if_pos hx]
    rw[hc]
    obtain rfl:s=true:=by rw[hs];simp[hx]
    clear hc hl hs hpos h0 hx hI
    go_enter Tryz.func151,Tryz.ntmps151
    go_wp2_with fail
    refine(sRatOk_any _ (h.alloc _)).mono ?_
    rw[hok]
    rintro e w1 ⟨rfl,hb1⟩
    obtain⟨i0,i1,i2⟩:=box3 hb1
    go_wp2_with fail
    go_ret
    exact⟨rfl,slc⟩
   ·have hc:cmpZ (rn r) 0=1:=by unfold cmpZ;rw[if_neg (by omega),if_pos (by omega)]
    rw[hc]
    obtain rfl:s=false:=by rw[hs];simp;omega
    clear hc hl hs hpos h0 hx hI
    go_enter Tryz.func151,Tryz.ntmps151
    go_wp2_with fail
    refine(sRatOk_any _ (h.alloc _)).mono ?_
    rw[hok]
    rintro e w1 ⟨rfl,hb1⟩
    obtain⟨i0,i1,i2⟩:=box3 hb1
    go_wp2_with fail
    go_ret
    exact⟨rfl,slc⟩
 ·have hok:=okR_no ho
  have hv:sgnR r=0:=by unfold sgnR;rw[if_neg ho]
  rw[hv]
  clear hv
  replace ho:=Lib.hid ho
  go_enter Tryz.func151,Tryz.ntmps151
  go_wp2_with fail
  refine(sRatOk_any _ (h.alloc _)).mono ?_
  rw[hok]
  rintro e w1 ⟨rfl,hb1⟩
  go_wp2_with fail
  go_ret
  exact⟨rfl,slc⟩
theorem sx_mul {x y:Int}{s t:Bool}(hs:s=decide (x<0)) (ht:t=decide (y<0)):sx (s != t) (x.natAbs*y.natAbs)=x*y:=by
 have hn:((x.natAbs*y.natAbs:Nat):Int)=(x.natAbs:Int)*(y.natAbs:Int):=Int.natCast_mul _ _
 unfold sx
 rw[hn]
 rcases Int.lt_or_le x 0 with hx|hx <;> rcases Int.lt_or_le y 0 with hy|hy
 ·have e1:(x.natAbs:Int)=-x:=by omega
  have e2:(y.natAbs:Int)=-y:=by omega
  rw[hs,ht,e1,e2];simp[hx,hy,Int.neg_mul,Int.mul_neg]
 ·have e1:(x.natAbs:Int)=-x:=by omega
  have e2:(y.natAbs:Int)=y:=by omega
  rw[hs,ht,e1,e2];simp[hx,show ¬y<0 by omega,Int.neg_mul]
 ·have e1:(x.natAbs:Int)=x:=by omega
  have e2:(y.natAbs:Int)=-y:=by omega
  rw[hs,ht,e1,e2];simp[hy,show ¬x<0 by omega,Int.mul_neg]
 ·have e1:(x.natAbs:Int)=x:=by omega
  have e2:(y.natAbs:Int)=y:=by omega
  rw[hs,ht,e1,e2];simp[show ¬x<0 by omega,show ¬y<0 by omega]
theorem l04Mul_any (w:World) {s:Bool}{A:Option Addr}{n c:Nat}{B:Option Addr}{m d:Nat}{x:Int}{D:Nat}{s':Bool}{A':Option Addr}{n' c':Nat}{B':Option Addr}{m' d':Nat}{x':Int}{D':Nat}(h:IsR w s A n c B m d x D) (k:IsR w s' A' n' c' B' m' d' x' D') (hn:n≤262143) (hm:m≤262143) (hn':n'≤262143) (hm':m'≤262143) (hD:0<D) (hD':0<D') :
  Calls Tryz.prog 173 #[.agg #[.bool s,.slice A n c,.slice B m d],.agg #[.bool s',.slice A' n' c',.slice B' m' d']] w fun e w'=>∃s1 A1 n1 c1 B1 m1 d1,e=.returned (.agg #[.bool s1,.slice A1 n1 c1,.slice B1 m1 d1])∧OwR 3 w.heap.size w' s1 A1 n1 c1 B1 m1 d1 (ofFrac (x*x') (D*D'))∧Bl w w':=by
 have hval:=Lib.hid (show lowS (s != s') (x.natAbs*x'.natAbs) (D*D')=ofFrac (x*x') (D*D')by
  have:=Nat.mul_pos hD hD'
  unfold lowS
  rw[if_neg (by omega),sx_mul h.sgn k.sgn])
 have hl3:=Nat.le_trans (dig_mul_len (Nat.le_of_eq h.num.lenN) (Nat.le_of_eq k.num.lenN)) (show n+n'≤1048570 by omega)
 have hlD:=Nat.le_trans (dig_mul_len (Nat.le_of_eq h.dn.lenN) (Nat.le_of_eq k.dn.lenN)) (show m+m'≤1048570 by omega)
 go_enter Tryz.func173,Tryz.ntmps173
 go_wp2_with fail
 refine wp_gen (fun W=>Bl w W∧Blk W (w.heap.size) 54 #[.bool s,.slice A n c,.slice B m d]∧Blk W (w.heap.size+1) 54 #[.bool s',.slice A' n' c',.slice B' m' d']∧Wk 3 54 (w.heap.size+1+1) W) ⟨slc,bts,bts,bts⟩ ?_
 rintro W ⟨hbW,hx,hx',hr⟩
 have hz3:w.heap.size+1+1<W.heap.size:=hr.lt
 go_region_held3 (fun w'=>(w'.cell? ⟨w.heap.size,0,none⟩=some (.bool s)∧w'.cell? ⟨w.heap.size,1,none⟩=some (.slice A n c)∧w'.cell? ⟨w.heap.size,2,none⟩=some (.slice B m d))∧(w'.cell? ⟨w.heap.size+1,0,none⟩=some (.bool s')∧w'.cell? ⟨w.heap.size+1,1,none⟩=some (.slice A' n' c')∧w'.cell? ⟨w.heap.size+1,2,none⟩=some (.slice B' m' d'))∧(w'.cell? ⟨w.heap.size+1+1,0,none⟩=some (cellD w' (w.heap.size+1+1) 0)∧w'.cell? ⟨w.heap.size+1+1,1,none⟩=some (cellD w' (w.heap.size+1+1) 1)∧w'.cell? ⟨w.heap.size+1+1,2,none⟩=some (cellD w' (w.heap.size+1+1) 2))∧w'.frozen? ⟨w.heap.size+1+1,0,none⟩=false∧w'.frozen? ⟨w.heap.size+1+1,1,none⟩=false∧w'.frozen? ⟨w.heap.size+1+1,2,none⟩=false) (first|exact⟨bx3 (T:=54) bts,bx3 (T:=54) bts,Wk.out3 (T:=54) bts⟩) (first |(go_at_call 191;with_reducible refine(l02Mul_any _ (h.num.bl slc) (k.num.bl slc) (by omega) (by omega)).mono ?_;rintro e w4 ⟨A4,n4,c4,rfl,hO,hb4⟩) |(go_at_call 191;with_reducible refine(l02Mul_any _ (h.dn.bl slc) (k.dn.bl slc) (by omega) (by omega)).mono ?_;rintro e w5 ⟨A5,n5,c5,rfl,hO5,hb5⟩;(have hl4:n4≤1048570:=by rw[←hO.rd.lenN];exact hl3);(have hl5:n5≤1048570:=by rw[←hO5.rd.lenN];exact hlD);(have hO6:=RdI.bl hO.rd hb5)) |(go_at_call 175;refine(l04Low_any _ (s != s') hO6 hO5.rd hl4 hl5).mono ?_;rintro e w8 ⟨s1,A1,n1,c1,B1,m1,d1,rfl,hR,hb8⟩))
 have hz4:W.heap.size≤w4.heap.size:=(Bl.size hb4:W.drew.heap.size≤_)
 have hz5:w4.heap.size≤w5.heap.size:=Bl.size hb5
 have hr:=(show Wk 3 54 (w.heap.size+1+1) w8 from bts)
 have hbW:Bl w w8:=slc
 rw[hval.out]at hR
 have hR:=hR.mono (show w.heap.size+1+1+1≤w5.heap.size by omega)
 obtain⟨v0,x0⟩:=hr.val_ (i:=0) (by omega)
 obtain⟨v1,x1⟩:=hr.val_ (i:=1) (by omega)
 obtain⟨v2,x2⟩:=hr.val_ (i:=2) (by omega)
 have hg:=hr.lt
 obtain⟨cs4,hB4,hc4⟩:=hr
 have hf0:=hB4.frozen 0
 have hf1:=hB4.frozen 1
 have hf2:=hB4.frozen 2
 go_wp2_with fail
 exact bodyPost_ret (v:=.agg #[.bool s1,.slice A1 n1 c1,.slice B1 m1 d1]) (by simp[results,Tryz.results173,go_sem,x0,x1,x2]) rfl ⟨_,_,_,_,_,_,_,rfl,(((hR.far (by simp) _).far (by simp) _).far (by simp) _).mono (by omega),slc⟩
theorem sRatMul_any (w:World) {s:Bool}{A:Option Addr}{n c:Nat}{B:Option Addr}{m d:Nat}{r:RatD}{s':Bool}{A':Option Addr}{n' c':Nat}{B':Option Addr}{m' d':Nat}{r':RatD}(h:RdR w s A n c B m d r) (k:RdR w s' A' n' c' B' m' d' r') :
  Calls Tryz.prog 143 #[.agg #[.bool s,.slice A n c,.slice B m d],.agg #[.bool s',.slice A' n' c',.slice B' m' d']] w fun e w'=>∃s1 A1 n1 c1 B1 m1 d1,e=.returned (.agg #[.bool s1,.slice A1 n1 c1,.slice B1 m1 d1])∧OwR 3 w.heap.size w' s1 A1 n1 c1 B1 m1 d1 (mulR r r')∧Bl w w':=by
 by_cases ho:OkR r
 ·have hok:=okR_of ho
  by_cases ho':OkR r'
  ·have hok':=okR_of ho'
   have hI:=IsR.out h ho
   have hI':=IsR.out k ho'
   have hL:=OkR.lens h ho
   have hL':=OkR.lens k ho'
   have hval:=Lib.hid (show mulR r r'=ofFrac (rn r*rn r') (rd r*rd r')by unfold mulR;rw[if_pos ⟨ho,ho'⟩])
   clear ho ho'
   go_enter Tryz.func143,Tryz.ntmps143
   go_wp2_with fail
   refine calls_gen (fun W=>Bl w W∧Blk W (w.heap.size) 54 #[.bool s,.slice A n c,.slice B m d]∧Blk W (w.heap.size+1) 54 #[.bool s',.slice A' n' c',.slice B' m' d']∧Wk 3 54 (w.heap.size+1+1) W) ⟨slc,bts,bts,bts⟩ ?_
   rintro W ⟨hbW,hx,hx',hr⟩
   refine(sRatOk_any _ (h.bl hbW)).mono ?_
   rw[hok]
   rintro e w1 ⟨rfl,hb1⟩
   have hx:=hx.bl hb1
   have hx':=hx'.bl hb1
   have hr:=hr.bl hb1
   have hbW:=hbW.next hb1
   clear hb1
   obtain⟨i0,i1,i2⟩:=bx3 hx
   obtain⟨j0,j1,j2⟩:=bx3 hx'
   go_wp2_with fail
   refine(sRatOk_any _ (k.bl hbW)).mono ?_
   rw[hok']
   rintro e w2 ⟨rfl,hb2⟩
   have hx:=hx.bl hb2
   have hx':=hx'.bl hb2
   have hr:=hr.bl hb2
   have hbW:=hbW.next hb2
   clear hb2
   obtain⟨i0,i1,i2⟩:=bx3 hx
   obtain⟨j0,j1,j2⟩:=bx3 hx'
   go_wp2_with fail
   refine(l04Mul_any _ (RdR.bl hI hbW) (RdR.bl hI' hbW) (by omega) (by omega) (by omega) (by omega) hL.2.2 hL'.2.2).mono ?_
   rintro e w3 ⟨s1,A1,n1,c1,B1,m1,d1,rfl,hR,hb3⟩
   have hR:=hR.mono (show w.heap.size+1+1+1≤w2.heap.size from hr.lt)
   rw[←hval.out]at hR
   have hx:=hx.bl hb3
   have hx':=hx'.bl hb3
   have hr:=hr.bl hb3
   have hbW:=hbW.next hb3
   clear hb3
   obtain⟨i0,i1,i2⟩:=bx3 hx
   obtain⟨j0,j1,j2⟩:=bx3 hx'
   obtain⟨v0,x0⟩:=hr.val_ (i:=0) (by omega)
   obtain⟨v1,x1⟩:=hr.val_ (i:=1) (by omega)
   obtain⟨v2,x2⟩:=hr.val_ (i:=2) (by omega)
   have hg:=hr.lt
   obtain⟨cs4,hB4,hc4⟩:=hr
   have hf0:=hB4.frozen 0
   have hf1:=hB4.frozen 1
   have hf2:=hB4.frozen 2
   go_wp2_with fail
   exact bodyPost_ret (v:=.agg #[.bool s1,.slice A1 n1 c1,.slice B1 m1 d1]) (by simp[results,Tryz.results143,go_sem,x0,x1,x2]) rfl ⟨_,_,_,_,_,_,_,rfl,(((hR.far (by simp) _).far (by simp) _).far (by simp) _).mono (by omega),slc⟩
  ·have hok':=okR_no ho'
   have hval:=Lib.hid (show mulR r r'=zR by unfold mulR;rw[if_neg (fun hk=>ho' hk.2)])
   have ho':=Lib.hid ho';rename_i h_;clear h_
   clear ho
   go_enter Tryz.func143,Tryz.ntmps143
   go_wp2_with fail
   refine calls_gen (fun W=>Bl w W∧Blk W (w.heap.size) 54 #[.bool s,.slice A n c,.slice B m d]∧Blk W (w.heap.size+1) 54 #[.bool s',.slice A' n' c',.slice B' m' d']∧Wk 3 54 (w.heap.size+1+1) W) ⟨slc,bts,bts,bts⟩ ?_
   rintro W ⟨hbW,hx,hx',hr⟩
   refine(sRatOk_any _ (h.bl hbW)).mono ?_
   rw[hok]
   rintro e w1 ⟨rfl,hb1⟩
   have hx:=hx.bl hb1
   have hx':=hx'.bl hb1
   have hr:=hr.bl hb1
   have hbW:=hbW.next hb1
   clear hb1
   obtain⟨i0,i1,i2⟩:=bx3 hx
   obtain⟨j0,j1,j2⟩:=bx3 hx'
   go_wp2_with fail
   refine(sRatOk_any _ (k.bl hbW)).mono ?_
   rw[hok']
   rintro e w2 ⟨rfl,hb2⟩
   have hx:=hx.bl hb2
   have hx':=hx'.bl hb2
   have hr:=hr.bl hb2
   have hbW:=hbW.next hb2
   clear hb2
   obtain⟨i0,i1,i2⟩:=bx3 hx
   obtain⟨j0,j1,j2⟩:=bx3 hx'
   obtain⟨v0,x0⟩:=hr.val_ (i:=0) (by omega)
   obtain⟨v1,x1⟩:=hr.val_ (i:=1) (by omega)
   obtain⟨v2,x2⟩:=hr.val_ (i:=2) (by omega)
   have hg:=hr.lt
   obtain⟨cs4,hB4,hc4⟩:=hr
   have hf0:=hB4.frozen 0
   have hf1:=hB4.frozen 1
   have hf2:=hB4.frozen 2
   go_wp2_with fail
   exact bodyPost_ret (v:=.agg #[.bool false,.slice none 0 0,.slice none 0 0]) (by simp[results,Tryz.results143,go_sem,x0,x1,x2]) rfl ⟨_,_,_,_,_,_,_,rfl,by rw[hval.out];exact OwR.zero _ _ _,slc⟩
 ·have hok:=okR_no ho
  have hval:=Lib.hid (show mulR r r'=zR by unfold mulR;rw[if_neg (fun hk=>ho hk.1)])
  replace ho:=Lib.hid ho
  go_enter Tryz.func143,Tryz.ntmps143
  go_wp2_with fail
  refine calls_gen (fun W=>Bl w W∧Blk W (w.heap.size) 54 #[.bool s,.slice A n c,.slice B m d]∧Blk W (w.heap.size+1) 54 #[.bool s',.slice A' n' c',.slice B' m' d']∧Wk 3 54 (w.heap.size+1+1) W) ⟨slc,bts,bts,bts⟩ ?_
  rintro W ⟨hbW,hx,hx',hr⟩
  refine(sRatOk_any _ (h.bl hbW)).mono ?_
  rw[hok]
  rintro e w1 ⟨rfl,hb1⟩
  have hx:=hx.bl hb1
  have hx':=hx'.bl hb1
  have hr:=hr.bl hb1
  have hbW:=hbW.next hb1
  clear hb1
  obtain⟨i0,i1,i2⟩:=bx3 hx
  obtain⟨j0,j1,j2⟩:=bx3 hx'
  obtain⟨v0,x0⟩:=hr.val_ (i:=0) (by omega)
  obtain⟨v1,x1⟩:=hr.val_ (i:=1) (by omega)
  obtain⟨v2,x2⟩:=hr.val_ (i:=2) (by omega)
  have hg:=hr.lt
  obtain⟨cs4,hB4,hc4⟩:=hr
  have hf0:=hB4.frozen 0
  have hf1:=hB4.frozen 1
  have hf2:=hB4.frozen 2
  go_wp2_with fail
  exact bodyPost_ret (v:=.agg #[.bool false,.slice none 0 0,.slice none 0 0]) (by simp[results,Tryz.results143,go_sem,x0,x1,x2]) rfl ⟨_,_,_,_,_,_,_,rfl,by rw[hval.out];exact OwR.zero _ _ _,slc⟩
theorem OwI.grown {T:TypeId}{b0:Nat}{w w':World}{A:Option Addr}{n c:Nat}{l:List Int}{row:Option Nat}(h:OwI T b0 w A n c l) (hg:w.grownBy w' row) (hr:∀k,row=some k→k<b0):OwI T b0 w' A n c l:=by
 obtain⟨bs,h1,hf⟩:=FtI.of_own h
 have h2:FtI T w' A n c l bs:=h1.keep hg.size (fun b hb=>hg.block b (hf.2 b hb).2 (by intro e;have:=hr b e.symm;have:=(hf.2 b hb).1;omega))
 refine⟨h2.1,?_⟩
 rcases h2.2 with ⟨h0,_⟩ |⟨g,cs,_,e,hh,hn,e2⟩
 ·exact .inl h0
 ·exact .inr ⟨g,cs,e,(hf.2 g (by rw[e2];simp)).1,hh,hn⟩
theorem step_append_x {P:Program}{E t:TypeId}(hinfo:(P.info? E).map (fun i=>(i.zero,i.size,i.bytes))=some (some (.int .i64 0),1,8)) (ht:P.underlying t=some (.slice E))
  {w0 W:World}{ops:Array Oper}{o:Oper}{a:Act}{K:Act→World→Prop}{Q:Exit→Act→World→Prop}{F:Prop}(hgd:o.guard=none) (s x:Operand)
  (ho:o.op=.call { callee:=.builtin .append,args:=#[s,x],argTypes:=#[t,t] }) (v:Value) (l:List Int) (hs:a.eval s=v) (hown:OwL E w0.heap.size W v l) (hb:Bl w0 W)
  (A:Option Addr) (m c:Nat) (hx:a.eval x=.slice A m c) (ys:List Int) (hr:RdI W A m c ys) (hlen:l.length≤1099511627776) (hm:m≤1099511627776)
  (h:∀v' w',OwL E w0.heap.size w' v' (l++ys)→Bl w0 w'→W.grownBy w' v.ownBlock→K (a.put o.dst v') w'):if Region.wanted o (yielded ops a.tmps)=true then Oper.wp P o a W K Q else F:=by
 have hw:Region.wanted o (yielded ops a.tmps)=true:=by simp[Region.wanted,hgd]
 rw[if_pos hw]
 obtain⟨i0,hi,hz0,hz1,hz2⟩:=info_parts hinfo
 rcases A with _|ad
 ·have hm0:m=0:=by
   rcases Nat.eq_zero_or_pos m with h0|h0
   ·exact h0
   ·obtain⟨_,e,_⟩:=hr.at_ h0
    cases e
  subst hm0
  have hy:ys=[]:=List.length_eq_zero_iff.1 hr.len
  subst hy
  have hrun:=run_append_nil' (P:=P) W w0.heap.size (ty:=o.type) ht hi hown c
  unfold Oper.wp execOp
  simp only[ho,resolve,invoke,builtin,Sem.run_bind,Sem.run_pure,Result.andThen_ok,List.map_toArray,List.map_cons,List.map_nil,hs,hx,hrun]
  exact h v W (by rw[List.append_nil];exact hown) hb (World.grownBy.refl W _)
 ·obtain ⟨v', w', hrun, h2, h3, _⟩ := run_append_own_at (P := P) W w0.heap.size t o.type E i0 (.int .i64 0) 1 8 ht hi hz0 hz1 hz2 rfl (by omega) v l.length (l.map (Value.int .i64)) hown ad m c (ys.map (Value.int .i64)) (by simp [hr.len]) (by
   intro j u hu
   rw[List.getElem?_map]at hu
   have hj:j < m:=by
    rcases Nat.lt_or_ge j ys.length with h|h
    ·rw[hr.len]at h;exact h
    ·rw[List.getElem?_eq_none h]at hu;simp at hu
   obtain⟨ad',e,_,hc⟩:=hr.at_ hj
   injection e with e
   subst e
   rw[hc]
   rw[List.getElem?_eq_getElem (by rw[hr.len];exact hj)]at hu
   simp at hu
   rw[←hu]
   simp[ix,hr.len,hj]) (by intro u hu;simp at hu;obtain⟨z,_,rfl⟩:=hu;rfl) (by simp only[maxLen];omega) (by omega) hb.size
  unfold Oper.wp execOp
  simp only[ho,resolve,invoke,builtin,Sem.run_bind,Sem.run_pure,Result.andThen_ok,List.map_toArray,List.map_cons,List.map_nil,hs,hx,hrun]
  refine h v' w' ?_ (hb.grown h3 hown.blockLe) h3
  unfold OwL
  rw[List.length_append,hr.len]
  simpa using h2
end
end Go.Proofs.YtmkcacgmnnlddaaGreat
