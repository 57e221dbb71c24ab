/- Lemmas. -/
import Derived.Test.YtjaapemopbbfaaaGreatRows
import Derived.Test.YtjaapemopbbfaaaGreatPWorstShapeM16
namespace Go.Proofs.YtjaapemopbbfaaaGreat
section
open Go.RowKit

/-- The signed number of a sign and a magnitude. -/
def sx (s:Bool) (N:Nat):Int:=if s=true then -(N:Int) else (N:Int)
theorem sx_abs (s:Bool) (N:Nat):(sx s N).natAbs=N:=by unfold sx;split <;> omega
theorem sx_neg (s:Bool) (N:Nat):decide (sx s N < 0)=(s && decide (0 < N)):=by
  unfold sx
  rcases s with _ | _
  · simp
  · simp
def lowS (s:Bool) (N D:Nat):RatD:=if D=0 then zR else ofFrac (sx s N) D
theorem lowS_val {s:Bool}{N D:Nat}(hD:0 < D):lowS s N D=if (dig (N / Nat.gcd N D)).length≤24∧(dig (D / Nat.gcd N D)).length≤24 then ⟨s && decide (0 < N / Nat.gcd N D),ints (dig (N / Nat.gcd N D)),ints (dig (D / Nat.gcd N D))⟩ else zR:=by
  unfold lowS
  rw[if_neg (by omega)]
  unfold ofFrac
  rw[sx_abs]
  have hgN:Nat.gcd N D ∣ (sx s N).natAbs:=by rw[sx_abs];exact Nat.gcd_dvd_left _ _
  have hg0:=gcd_pos_den (n:=N) hD
  have h1:=natAbs_ediv_gcd (sx s N) _ hgN
  rw[sx_abs] at h1
  have h2:=ediv_neg_iff (sx s N) _ hg0
  have h3:decide (sx s N / (Nat.gcd N D:Int) < 0)=(s && decide (0 < N / Nat.gcd N D)):=by
    rw[show decide (sx s N / (Nat.gcd N D:Int) < 0)=decide (sx s N < 0) from decide_eq_decide.2 h2,sx_neg]
    congr 1
    refine decide_eq_decide.2 ⟨fun h=> Nat.div_pos (Nat.le_of_dvd h (Nat.gcd_dvd_left _ _)) hg0,fun h=> ?_⟩
    rcases Nat.eq_zero_or_pos N with h0 | h0
    · rw[h0] at h;simp at h
    · exact h0
  unfold raw
  rw[h1,h3]
set_option maxRecDepth 100000 in
set_option maxHeartbeats 4000000 in
theorem l04Low_zero (w:World) (s:Bool) {A:Option Addr}{n c:Nat}{N:Nat}{B:Option Addr}{m d:Nat}{D:Nat}(ha:IsN w A n c N) (hb:IsN w B m d D) (_hn:n≤1048570) (_hm:m≤1048570) (h0:m=0) :
    Calls Tryz.prog 87 #[.bool s,.slice A n c,.slice B m d] w fun e w'=> ∃ s' A' n' c' B' m' d',e=.returned (.agg #[.bool s',.slice A' n' c',.slice B' m' d'])∧OwR 3 w.heap.size w' s' A' n' c' B' m' d' (lowS s N D)∧Bl w w':=by
  subst h0
  have hD:D=0:=dig_nil.1 (List.length_eq_zero_iff.1 hb.lenN)
  have hfin:=Lib.hid (show lowS s N D=zR by unfold lowS;rw[if_pos hD])
  clear hD
  go_enter Tryz.func87,Tryz.ntmps87
  go_wp2_with fail
  refine calls_gen (fun W=> Bl w W∧Wk 3 31 w.heap.size W) ⟨slc,bts⟩ ?_
  rintro W ⟨hbW,hr⟩
  refine(l02Trim_num _ (RdI.bl ha hbW)).mono ?_
  rintro e w1 ⟨rfl,q1,rfl⟩
  go_wp2_with fail
  refine(l02Trim_num _ (RdI.bl hb (hbW.drewN q1))).mono ?_
  rintro e w1 ⟨rfl,q2,rfl⟩
  have hbW:=(hbW.drewN q1).drewN q2
  have hr:=(hr.drewN q1).drewN q2
  generalize (W.drewN q1).drewN q2=W at *
  obtain⟨⟨x0,x1,x2⟩,hf0,hf1,hf2⟩:=hr.out3
  have hg:=hr.lt
  go_wp2_with fail
  exact bodyPost_ret (v:=.agg #[.bool false,.slice none 0 0,.slice none 0 0]) (by simp[results,Tryz.results87,go_sem,x0,x1,x2]) rfl ⟨_,_,_,_,_,_,_,rfl,by rw[hfin.out];exact OwR.zero _ _ _,slc⟩

set_option maxRecDepth 100000 in
set_option maxHeartbeats 8000000 in
theorem l04Low_one (w:World) (s:Bool) {A:Option Addr}{n c:Nat}{N:Nat}{B:Option Addr}{m d:Nat}{D:Nat}(ha:IsN w A n c N) (hb:IsN w B m d D) (hn:n≤1048570) (hm:m≤1048570) (h1:D=1) :
    Calls Tryz.prog 87 #[.bool s,.slice A n c,.slice B m d] w fun e w'=> ∃ s' A' n' c' B' m' d',e=.returned (.agg #[.bool s',.slice A' n' c',.slice B' m' d'])∧OwR 3 w.heap.size w' s' A' n' c' B' m' d' (lowS s N D)∧Bl w w':=by
  have hm0:0 < m:=by rw[← hb.lenN];exact dig_len_pos.2 (by omega)
  have hne:((m:Int) == 0)=false:=by simp;omega
  have hval:=lowS_val (s:=s) (N:=N) (D:=D) (by omega)
  rw[h1,Nat.gcd_one_right,Nat.div_one,Nat.div_one] at hval
  subst h1
  rw[ha.lenN,hb.lenN] at hval
  have hval:=Lib.hid hval;rename_i h_;clear h_
  go_enter Tryz.func87,Tryz.ntmps87
  go_wp2_with fail
  refine calls_gen (fun W=> Bl w W∧Wk 3 31 w.heap.size W) ⟨slc,bts⟩ ?_
  rintro W ⟨hbW,hr⟩
  refine(l02Trim_num _ (RdI.bl ha hbW)).mono ?_
  rintro e w1 ⟨rfl,q1,rfl⟩
  go_wp2_with fail
  refine(l02Trim_num _ (RdI.bl hb (hbW.drewN q1))).mono ?_
  rintro e w1 ⟨rfl,q2,rfl⟩
  have hbW:=(hbW.drewN q1).drewN q2
  have hr:=(hr.drewN q1).drewN q2
  generalize (W.drewN q1).drewN q2=W at *
  go_wp2_with fail
  refine(l04One_yes _ (RdI.bl hb hbW)).mono ?_
  rintro e w1 ⟨rfl,q3,rfl⟩
  have hbW:=hbW.drewN q3
  have hr:=hr.drewN q3
  generalize W.drewN q3=W at *
  have hval:=hval.out
  by_cases hn24:n≤24
  · have hi:decide ((24:Int) < (n:Int))=false:=by simp;omega
    by_cases hm24:m≤24
    · have hj:decide ((24:Int) < (m:Int))=false:=by simp;omega
      rw[if_pos ⟨hn24,hm24⟩] at hval
      have hfin:=Lib.hid hval;clear hval
      go_wp2_with fail
      have hz:=hr.lt
      have hl1:Hid ((([]:List Int) ++ ints (dig (1))).length=m):=by have:=RdI.len (RdI.bl hb hbW);unfold Hid;simpa using this
      refine(l03Make_any _ s (RdI.bl ha hbW) (by omega)).mono ?_
      rintro e w8 ⟨s8,A8,n8,c8,rfl,hs8,hO8,hb8⟩
      have hO8:=hO8.mono (show w.heap.size+1≤W.heap.size from hz)
      have hr8:=hr.bl hb8
      have hb9:=hbW.next hb8
      have hz8:w.heap.size+1≤w8.heap.size:=hr8.lt
      go_wp2_with (at_builtin;go_must (refine wpList_append_x (w0:=w8) info_int Tryz.underlying27 rfl (.tmp 51) (.tmp 52) rfl _ [] rfl (OwL.empty w8 (Nat.le_refl _) (by simp)) ((Bl.refl w8).alloc _) B m d rfl (ints (dig (1))) (RdI.alloc (RdI.bl (RdI.bl hb hbW) hb8) _) (by simp) (by omega) ?_);intro v1 w9 hown2 hb10;obtain⟨A9,c9,hv1,ho1⟩:=hown2.own (by rw[hl1.out];omega);rw[hl1.out] at hv1 ho1;subst hv1;obtain⟨⟨x0,x1,x2⟩,hf0,hf1,hf2⟩:=(hr8.bl hb10).out3)
      have hg:=(hr8.bl hb10).lt
      have hR:OwR 3 (w.heap.size+1) w9 s8 A8 n8 c8 A9 m c9 ⟨s8,ints (dig (N)),ints (dig (1))⟩:=OwR.two hO8 ho1 hb10 hz8
      rw[hs8.out,← hfin.out] at hR
      have hs8':=hs8.out
      have hbz:=hb9.next hb10
      exact bodyPost_ret (v:=.agg #[.bool s8,.slice A8 n8 c8,.slice A9 m c9]) (by simp[results,Tryz.results87,go_sem,x0,x1,x2]) rfl ⟨_,_,_,_,_,_,_,rfl,by rw[hs8'];exact(((hR.far (by simp) _).far (by simp) _).far (by simp) _).mono (by omega),slc⟩
    · have hj:decide ((24:Int) < (m:Int))=true:=by simp;omega
      rw[if_neg (fun hh=> hm24 hh.2)] at hval
      have hfin:=Lib.hid hval;clear hval
      obtain⟨⟨x0,x1,x2⟩,hf0,hf1,hf2⟩:=hr.out3
      have hg:=hr.lt
      go_wp2_with fail
      exact bodyPost_ret (v:=.agg #[.bool false,.slice none 0 0,.slice none 0 0]) (by simp[results,Tryz.results87,go_sem,x0,x1,x2]) rfl ⟨_,_,_,_,_,_,_,rfl,by rw[hfin.out];exact OwR.zero _ _ _,slc⟩
  · have hi:decide ((24:Int) < (n:Int))=true:=by simp;omega
    rw[if_neg (fun hh=> hn24 hh.1)] at hval
    have hfin:=Lib.hid hval;clear hval
    obtain⟨⟨x0,x1,x2⟩,hf0,hf1,hf2⟩:=hr.out3
    have hg:=hr.lt
    go_wp2_with fail
    exact bodyPost_ret (v:=.agg #[.bool false,.slice none 0 0,.slice none 0 0]) (by simp[results,Tryz.results87,go_sem,x0,x1,x2]) rfl ⟨_,_,_,_,_,_,_,rfl,by rw[hfin.out];exact OwR.zero _ _ _,slc⟩

set_option maxRecDepth 100000 in
set_option maxHeartbeats 8000000 in
theorem l04Low_prime (w:World) (s:Bool) {A:Option Addr}{n c:Nat}{N:Nat}{B:Option Addr}{m d:Nat}{D:Nat}(ha:IsN w A n c N) (hb:IsN w B m d D) (hn:n≤1048570) (hm:m≤1048570) (h0:0 < D) (h1:D≠1) (hg1:Nat.gcd N D=1) :
    Calls Tryz.prog 87 #[.bool s,.slice A n c,.slice B m d] w fun e w'=> ∃ s' A' n' c' B' m' d',e=.returned (.agg #[.bool s',.slice A' n' c',.slice B' m' d'])∧OwR 3 w.heap.size w' s' A' n' c' B' m' d' (lowS s N D)∧Bl w w':=by
  have hm0:0 < m:=by rw[← hb.lenN];exact dig_len_pos.2 h0
  have hne:((m:Int) == 0)=false:=by simp;omega
  have hval:=lowS_val (s:=s) (N:=N) (D:=D) h0
  rw[hg1,Nat.div_one,Nat.div_one,ha.lenN,hb.lenN] at hval
  have hval:=Lib.hid hval;rename_i h_;clear h_
  have h1:=Lib.hid h1;rename_i h_;clear h_
  have hg1:=Lib.hid hg1;rename_i h_;clear h_
  go_enter Tryz.func87,Tryz.ntmps87
  go_wp2_with fail
  refine calls_gen (fun W=> Bl w W∧Wk 3 31 w.heap.size W) ⟨slc,bts⟩ ?_
  rintro W ⟨hbW,hr⟩
  refine(l02Trim_num _ (RdI.bl ha hbW)).mono ?_
  rintro e w1 ⟨rfl,q1,rfl⟩
  go_wp2_with fail
  refine(l02Trim_num _ (RdI.bl hb (hbW.drewN q1))).mono ?_
  rintro e w1 ⟨rfl,q2,rfl⟩
  have hbW:=(hbW.drewN q1).drewN q2
  have hr:=(hr.drewN q1).drewN q2
  generalize (W.drewN q1).drewN q2=W at *
  go_wp2_with fail
  refine(l04One_no _ (RdI.bl hb hbW) h1.out).mono ?_
  rintro e w1 ⟨rfl,q3,rfl⟩
  have hbW:=hbW.drewN q3
  have hr:=hr.drewN q3
  generalize W.drewN q3=W at *
  go_wp2_with fail
  refine(l02Gcd_any _ (RdI.bl ha hbW) (RdI.bl hb hbW) hn hm).mono ?_
  rintro e w3 ⟨A3,n3,c3,rfl,hG,hb3⟩
  rw[hg1.out] at hG
  have hbW:=hbW.next hb3
  have hr:=hr.bl hb3
  clear hb3
  obtain⟨W,rfl⟩:∃ W,W=w3:=⟨_,rfl⟩
  go_wp2_with fail
  refine(l04One_yes _ hG.rd).mono ?_
  rintro e w1 ⟨rfl,q3,rfl⟩
  have hbW:=hbW.drewN q3
  have hr:=hr.drewN q3
  have hG:=hG.q ⟨q3,rfl⟩
  generalize W.drewN q3=W at *
  have hval:=hval.out
  by_cases hn24:n≤24
  · have hi:decide ((24:Int) < (n:Int))=false:=by simp;omega
    by_cases hm24:m≤24
    · have hj:decide ((24:Int) < (m:Int))=false:=by simp;omega
      rw[if_pos ⟨hn24,hm24⟩] at hval
      have hfin:=Lib.hid hval;clear hval
      go_wp2_with fail
      have hz:=hr.lt
      have hl1:Hid ((([]:List Int) ++ ints (dig (D))).length=m):=by have:=RdI.len (RdI.bl hb hbW);unfold Hid;simpa using this
      refine(l03Make_any _ s (RdI.bl ha hbW) (by omega)).mono ?_
      rintro e w8 ⟨s8,A8,n8,c8,rfl,hs8,hO8,hb8⟩
      have hO8:=hO8.mono (show w.heap.size+1≤W.heap.size from hz)
      have hr8:=hr.bl hb8
      have hb9:=hbW.next hb8
      have hz8:w.heap.size+1≤w8.heap.size:=hr8.lt
      go_wp2_with (at_builtin;go_must (refine wpList_append_x (w0:=w8) info_int Tryz.underlying27 rfl (.tmp 51) (.tmp 52) rfl _ [] rfl (OwL.empty w8 (Nat.le_refl _) (by simp)) ((Bl.refl w8).alloc _) B m d rfl (ints (dig (D))) (RdI.alloc (RdI.bl (RdI.bl hb hbW) hb8) _) (by simp) (by omega) ?_);intro v1 w9 hown2 hb10;obtain⟨A9,c9,hv1,ho1⟩:=hown2.own (by rw[hl1.out];omega);rw[hl1.out] at hv1 ho1;subst hv1;obtain⟨⟨x0,x1,x2⟩,hf0,hf1,hf2⟩:=(hr8.bl hb10).out3)
      have hg:=(hr8.bl hb10).lt
      have hR:OwR 3 (w.heap.size+1) w9 s8 A8 n8 c8 A9 m c9 ⟨s8,ints (dig (N)),ints (dig (D))⟩:=OwR.two hO8 ho1 hb10 hz8
      rw[hs8.out,← hfin.out] at hR
      have hs8':=hs8.out
      have hbz:=hb9.next hb10
      exact bodyPost_ret (v:=.agg #[.bool s8,.slice A8 n8 c8,.slice A9 m c9]) (by simp[results,Tryz.results87,go_sem,x0,x1,x2]) rfl ⟨_,_,_,_,_,_,_,rfl,by rw[hs8'];exact(((hR.far (by simp) _).far (by simp) _).far (by simp) _).mono (by omega),slc⟩
    · have hj:decide ((24:Int) < (m:Int))=true:=by simp;omega
      rw[if_neg (fun hh=> hm24 hh.2)] at hval
      have hfin:=Lib.hid hval;clear hval
      obtain⟨⟨x0,x1,x2⟩,hf0,hf1,hf2⟩:=hr.out3
      have hg:=hr.lt
      go_wp2_with fail
      exact bodyPost_ret (v:=.agg #[.bool false,.slice none 0 0,.slice none 0 0]) (by simp[results,Tryz.results87,go_sem,x0,x1,x2]) rfl ⟨_,_,_,_,_,_,_,rfl,by rw[hfin.out];exact OwR.zero _ _ _,slc⟩
  · have hi:decide ((24:Int) < (n:Int))=true:=by simp;omega
    rw[if_neg (fun hh=> hn24 hh.1)] at hval
    have hfin:=Lib.hid hval;clear hval
    obtain⟨⟨x0,x1,x2⟩,hf0,hf1,hf2⟩:=hr.out3
    have hg:=hr.lt
    go_wp2_with fail
    exact bodyPost_ret (v:=.agg #[.bool false,.slice none 0 0,.slice none 0 0]) (by simp[results,Tryz.results87,go_sem,x0,x1,x2]) rfl ⟨_,_,_,_,_,_,_,rfl,by rw[hfin.out];exact OwR.zero _ _ _,slc⟩

set_option maxRecDepth 100000 in
set_option maxHeartbeats 8000000 in
theorem l04Low_more (w:World) (s:Bool) {A:Option Addr}{n c:Nat}{N:Nat}{B:Option Addr}{m d:Nat}{D:Nat}(ha:IsN w A n c N) (hb:IsN w B m d D) (hn:n≤1048570) (hm:m≤1048570) (h0:0 < D) (h1:D≠1) (hg1:Nat.gcd N D≠1) :
    Calls Tryz.prog 87 #[.bool s,.slice A n c,.slice B m d] w fun e w'=> ∃ s' A' n' c' B' m' d',e=.returned (.agg #[.bool s',.slice A' n' c',.slice B' m' d'])∧OwR 3 w.heap.size w' s' A' n' c' B' m' d' (lowS s N D)∧Bl w w':=by
  have hm0:0 < m:=by rw[← hb.lenN];exact dig_len_pos.2 h0
  have hne:((m:Int) == 0)=false:=by simp;omega
  have hval:=lowS_val (s:=s) (N:=N) (D:=D) h0
  have hg0:=gcd_pos_den (n:=N) h0
  have hgl:=dig_len_mono (Nat.le_of_dvd h0 (Nat.gcd_dvd_right N D))
  rw[hb.lenN] at hgl
  generalize hgd:Nat.gcd N D=g at *
  have hval:=Lib.hid hval;rename_i h_;clear h_
  have h1:=Lib.hid h1;rename_i h_;clear h_
  have hg1:=Lib.hid hg1;rename_i h_;clear h_
  have hgd:=Lib.hid hgd;rename_i h_;clear h_
  go_enter Tryz.func87,Tryz.ntmps87
  go_wp2_with fail
  refine calls_gen (fun W=> Bl w W∧Wk 3 31 w.heap.size W) ⟨slc,bts⟩ ?_
  rintro W ⟨hbW,hr⟩
  refine(l02Trim_num _ (RdI.bl ha hbW)).mono ?_
  rintro e w1 ⟨rfl,q1,rfl⟩
  go_wp2_with fail
  refine(l02Trim_num _ (RdI.bl hb (hbW.drewN q1))).mono ?_
  rintro e w1 ⟨rfl,q2,rfl⟩
  have hbW:=(hbW.drewN q1).drewN q2
  have hr:=(hr.drewN q1).drewN q2
  generalize (W.drewN q1).drewN q2=W at *
  go_wp2_with fail
  refine(l04One_no _ (RdI.bl hb hbW) h1.out).mono ?_
  rintro e w1 ⟨rfl,q3,rfl⟩
  have hbW:=hbW.drewN q3
  have hr:=hr.drewN q3
  generalize W.drewN q3=W at *
  go_wp2_with fail
  refine(l02Gcd_any _ (RdI.bl ha hbW) (RdI.bl hb hbW) hn hm).mono ?_
  rintro e w3 ⟨A3,n3,c3,rfl,hG,hb3⟩
  rw[hgd.out] at hG
  have hn3:n3≤1048570:=by rw[hG.rd.lenN] at hgl;omega
  have hbW:=hbW.next hb3
  have hr:=hr.bl hb3
  clear hb3
  obtain⟨W,rfl⟩:∃ W,W=w3:=⟨_,rfl⟩
  go_wp2_with fail
  refine(l04One_no _ hG.rd hg1.out).mono ?_
  rintro e w1 ⟨rfl,q3,rfl⟩
  have hbW:=hbW.drewN q3
  have hr:=hr.drewN q3
  have hG:=hG.rd.drewN q3
  generalize W.drewN q3=W at *
  go_wp2_with fail
  refine(l02Div_any _ (RdI.bl ha hbW) hG hn hn3 hg0).mono ?_
  rintro e w4 ⟨A4,n4,c4,A5,n5,c5,rfl,hQ,_,hb4⟩
  have hbW:=hbW.next hb4
  have hr:=hr.bl hb4
  have hG:=hG.bl hb4
  have hQ:=hQ.rd
  clear hb4
  obtain⟨W,rfl⟩:∃ W,W=w4:=⟨_,rfl⟩
  go_wp2_with fail
  refine(l02Div_any _ (RdI.bl hb hbW) hG hm hn3 hg0).mono ?_
  rintro e w6 ⟨A6,n6,c6,A7,n7,c7,rfl,hQ2,_,hb6⟩
  have hbW:=hbW.next hb6
  have hr:=hr.bl hb6
  have hQ:=hQ.bl hb6
  have hQ2:=hQ2.rd
  clear hb6 hG
  have hsm4:=hQ.small
  have hsm6:=hQ2.small
  have hval:=hval.out
  rw[hQ.lenN,hQ2.lenN] at hval
  obtain⟨W,rfl⟩:∃ W,W=w6:=⟨_,rfl⟩
  by_cases hn24:n4≤24
  · have hi:decide ((24:Int) < (n4:Int))=false:=by simp;omega
    by_cases hm24:n6≤24
    · have hj:decide ((24:Int) < (n6:Int))=false:=by simp;omega
      rw[if_pos ⟨hn24,hm24⟩] at hval
      have hfin:=Lib.hid hval;clear hval
      go_wp2_with fail
      have hz:=hr.lt
      have hl1:Hid ((([]:List Int) ++ ints (dig (D / g))).length=n6):=by have:=RdI.len hQ2;unfold Hid;simpa using this
      refine(l03Make_any _ s hQ (by omega)).mono ?_
      rintro e w8 ⟨s8,A8,n8,c8,rfl,hs8,hO8,hb8⟩
      have hO8:=hO8.mono (show w.heap.size+1≤W.heap.size from hz)
      have hr8:=hr.bl hb8
      have hb9:=hbW.next hb8
      have hz8:w.heap.size+1≤w8.heap.size:=hr8.lt
      go_wp2_with (at_builtin;go_must (refine wpList_append_x (w0:=w8) info_int Tryz.underlying27 rfl (.tmp 51) (.tmp 52) rfl _ [] rfl (OwL.empty w8 (Nat.le_refl _) (by simp)) ((Bl.refl w8).alloc _) A6 n6 c6 rfl (ints (dig (D / g))) (RdI.alloc (RdI.bl hQ2 hb8) _) (by simp) (by omega) ?_);intro v1 w9 hown2 hb10;obtain⟨A9,c9,hv1,ho1⟩:=hown2.own (by rw[hl1.out];omega);rw[hl1.out] at hv1 ho1;subst hv1;obtain⟨⟨x0,x1,x2⟩,hf0,hf1,hf2⟩:=(hr8.bl hb10).out3)
      have hg:=(hr8.bl hb10).lt
      have hR:OwR 3 (w.heap.size+1) w9 s8 A8 n8 c8 A9 n6 c9 ⟨s8,ints (dig (N / g)),ints (dig (D / g))⟩:=OwR.two hO8 ho1 hb10 hz8
      rw[hs8.out,← hfin.out] at hR
      have hs8':=hs8.out
      have hbz:=hb9.next hb10
      exact bodyPost_ret (v:=.agg #[.bool s8,.slice A8 n8 c8,.slice A9 n6 c9]) (by simp[results,Tryz.results87,go_sem,x0,x1,x2]) rfl ⟨_,_,_,_,_,_,_,rfl,by rw[hs8'];exact(((hR.far (by simp) _).far (by simp) _).far (by simp) _).mono (by omega),slc⟩
    · have hj:decide ((24:Int) < (n6:Int))=true:=by simp;omega
      rw[if_neg (fun hh=> hm24 hh.2)] at hval
      have hfin:=Lib.hid hval;clear hval
      obtain⟨⟨x0,x1,x2⟩,hf0,hf1,hf2⟩:=hr.out3
      have hg:=hr.lt
      go_wp2_with fail
      exact bodyPost_ret (v:=.agg #[.bool false,.slice none 0 0,.slice none 0 0]) (by simp[results,Tryz.results87,go_sem,x0,x1,x2]) rfl ⟨_,_,_,_,_,_,_,rfl,by rw[hfin.out];exact OwR.zero _ _ _,slc⟩
  · have hi:decide ((24:Int) < (n4:Int))=true:=by simp;omega
    rw[if_neg (fun hh=> hn24 hh.1)] at hval
    have hfin:=Lib.hid hval;clear hval
    obtain⟨⟨x0,x1,x2⟩,hf0,hf1,hf2⟩:=hr.out3
    have hg:=hr.lt
    go_wp2_with fail
    exact bodyPost_ret (v:=.agg #[.bool false,.slice none 0 0,.slice none 0 0]) (by simp[results,Tryz.results87,go_sem,x0,x1,x2]) rfl ⟨_,_,_,_,_,_,_,rfl,by rw[hfin.out];exact OwR.zero _ _ _,slc⟩

theorem l04Low_any (w:World) (s:Bool) {A:Option Addr}{n c:Nat}{N:Nat}{B:Option Addr}{m d:Nat}{D:Nat}(ha:IsN w A n c N) (hb:IsN w B m d D) (hn:n≤1048570) (hm:m≤1048570) :
    Calls Tryz.prog 87 #[.bool s,.slice A n c,.slice B m d] w fun e w'=> ∃ s' A' n' c' B' m' d',e=.returned (.agg #[.bool s',.slice A' n' c',.slice B' m' d'])∧OwR 3 w.heap.size w' s' A' n' c' B' m' d' (lowS s N D)∧Bl w w':=by
  rcases Nat.eq_zero_or_pos m with h0 | h0
  · exact l04Low_zero w s ha hb hn hm h0
  · have hD:0 < D:=dig_len_pos.1 (by rw[hb.lenN];exact h0)
    by_cases h1:D=1
    · exact l04Low_one w s ha hb hn hm h1
    · by_cases hg:Nat.gcd N D=1
      · exact l04Low_prime w s ha hb hn hm hD h1 hg
      · exact l04Low_more w s ha hb hn hm hD h1 hg
end

end Go.Proofs.YtjaapemopbbfaaaGreat
