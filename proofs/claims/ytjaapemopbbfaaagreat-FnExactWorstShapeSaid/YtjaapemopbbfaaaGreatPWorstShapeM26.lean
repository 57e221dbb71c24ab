/- Lemmas. -/
import Derived.Test.YtjaapemopbbfaaaGreatRows
import Derived.Test.YtjaapemopbbfaaaGreatPWorstShapeM25
import Derived.Test.YtjaapemopbbfaaaGreatPWorstShapeM12
import Derived.Test.YtjaapemopbbfaaaGreatPWorstShapeM19
namespace Go.Proofs.YtjaapemopbbfaaaGreat
section
open Go.RowKit

theorem okB_of {w:World}{s:Bool}{A:Option Addr}{n c:Nat}{x:Int}(h:IsB w s A n c x) (hn:n≤60):okB s (ints (dig x.natAbs))=true:=by
  refine okB_yes ⟨⟨_,rfl,by rw[h.len];exact hn⟩,fun hs=> ?_⟩
  rw[ints_len]
  rw[h.1] at hs
  have:x < 0:=by simpa using hs
  exact dig_len_pos.2 (by omega)
set_option maxRecDepth 100000 in
set_option maxHeartbeats 8000000 in
theorem RatMake_any (w:World) {s:Bool}{A:Option Addr}{n c:Nat}{x:Int}{t:Bool}{B:Option Addr}{m d:Nat}{y:Int}(h:IsB w s A n c x) (k:IsB w t B m d y) (hn:n≤60) (hm:m≤60) (hy:y≠0) :
    Calls Tryz.prog 140 #[.agg #[.bool s,.slice A n c],.agg #[.bool t,.slice B m d]] w fun e w'=> ∃ s1 A1 n1 c1 B1 m1 d1,e=.returned (.agg #[.bool s1,.slice A1 n1 c1,.slice B1 m1 d1])∧OwR 3 w.heap.size w' s1 A1 n1 c1 B1 m1 d1 (lowS (s != t) x.natAbs y.natAbs)∧Bl w w':=by
  have hB:=okB_of h hn
  have hB':=okB_of k hm
  have hy0:0 < y.natAbs:=by omega
  have hm0:0 < m:=by rw[← k.len];exact dig_len_pos.2 hy0
  have hne:((m:Int) == 0)=false:=by simp;omega
  have hlow:=Lib.hid (show lowS (s != t) x.natAbs y.natAbs=ofFrac (sx (s != t) x.natAbs) y.natAbs by unfold lowS;rw[if_neg (by omega)])
  clear hy
  go_enter Tryz.func140,Tryz.ntmps140
  go_wp2_with fail
  refine calls_gen (fun W=> Bl w W∧Blk W (w.heap.size) 29 #[.bool s,.slice A n c]∧Blk W (w.heap.size+1) 29 #[.bool t,.slice B m d]∧Wk 3 31 (w.heap.size+1+1) W) ⟨slc,bts,bts,bts⟩ ?_
  rintro W ⟨hbW,hx,hx',hr⟩
  refine(BigIntOk_any _ (RdI.bl h.mg hbW)).mono ?_
  rw[hB]
  rintro e w1 ⟨rfl,hb1⟩
  have hx:=hx.bl hb1
  have hx':=hx'.bl hb1
  have hr:=hr.bl hb1
  have hbW:=hbW.next hb1
  clear hb1
  obtain⟨i0,i1⟩:=bx2 hx
  obtain⟨j0,j1⟩:=bx2 hx'
  go_wp2_with fail
  refine(BigIntOk_any _ (RdI.bl k.mg hbW)).mono ?_
  rw[hB']
  rintro e w2 ⟨rfl,hb2⟩
  have hx:=hx.bl hb2
  have hx':=hx'.bl hb2
  have hr:=hr.bl hb2
  have hbW:=hbW.next hb2
  clear hb2
  obtain⟨i0,i1⟩:=bx2 hx
  obtain⟨j0,j1⟩:=bx2 hx'
  have hz2:=hr.lt
  go_wp2_with fail
  go_region_held3 (fun w' =>(w'.cell? ⟨w.heap.size,0,none⟩=some (.bool s)∧w'.cell? ⟨w.heap.size,1,none⟩=some (.slice A n c))∧(w'.cell? ⟨w.heap.size+1,0,none⟩=some (.bool t)∧w'.cell? ⟨w.heap.size+1,1,none⟩=some (.slice B m d))∧(w'.cell? ⟨w.heap.size+1+1,0,none⟩=some (cellD w' (w.heap.size+1+1) 0)∧w'.cell? ⟨w.heap.size+1+1,1,none⟩=some (cellD w' (w.heap.size+1+1) 1)∧w'.cell? ⟨w.heap.size+1+1,2,none⟩=some (cellD w' (w.heap.size+1+1) 2))∧w'.frozen? ⟨w.heap.size+1+1,0,none⟩=false∧w'.frozen? ⟨w.heap.size+1+1,1,none⟩=false∧w'.frozen? ⟨w.heap.size+1+1,2,none⟩=false) (first | exact⟨bx2 (T:=29) bts,bx2 (T:=29) bts,Wk.out3 (T:=31) bts⟩) (first |(go_at_call 121;(with_reducible refine(Clone_any _ (RdI.bl h.mg slc) (by omega)).mono ?_);rintro e w3 ⟨A3,n3,c3,rfl,hO3,hb3⟩;(have hO3:OwI 3 (w.heap.size+1+1+1) w3 A3 n3 c3 _:=hO3.mono hz2)) |(go_at_call 154;refine(signed_any _ _ hO3.rd).mono ?_;rintro e w4 ⟨s4,rfl,hs4,hb4⟩) |(go_at_call 121;(with_reducible refine(Clone_any _ (RdI.bl k.mg slc) (by omega)).mono ?_);rintro e w5 ⟨A5,n5,c5,rfl,hO5,hb5⟩;(have hz4:w.heap.size+1+1+1≤w4.heap.size:=Wk.lt (k:=3) (T:=31) bts);(have hR5:OwR 3 (w.heap.size+1+1+1) w5 s4 A3 n3 c3 A5 n5 c5 (raw (sx (s != t) x.natAbs) y.natAbs):=OwR.two' (by show OwI _ _ _ _ _ _ (ints (dig (sx (s != t) x.natAbs).natAbs));rw[sx_abs];exact hO3.bl hb4) hO5 hb5 hz4 (by rw[hs4.out];exact(sx_neg _ _).symm));(have hz5:w.heap.size+1+1+1≤w5.heap.size:=Wk.lt (k:=3) (T:=31) bts);(have hl3:n3≤60:=by rw[← hO3.rd.lenN,h.len];exact hn);(have hl5:n5≤60:=by rw[← hO5.rd.lenN,k.len];exact hm)) |(go_at_call 146;refine(reduced_any _ hR5 hz5 (by omega) (by omega) hy0).mono ?_;rintro e w6 ⟨s1,A1,n1,c1,B1,m1,d1,rfl,hR,hb6⟩))
  have hr:=(show Wk 3 31 (w.heap.size+1+1) w6 from bts)
  have hbW:Bl w w6:=slc
  rw[← hlow.out] at hR
  obtain⟨v0,x0⟩:=hr.val_ (i:=0) (by omega)
  obtain⟨v1,x1⟩:=hr.val_ (i:=1) (by omega)
  obtain⟨v2,x2⟩:=hr.val_ (i:=2) (by omega)
  have hg:=hr.lt
  obtain⟨cs4,hB4,hc4⟩:=hr
  have hf0:=hB4.frozen 0
  have hf1:=hB4.frozen 1
  have hf2:=hB4.frozen 2
  go_wp2_with fail
  exact bodyPost_ret (v:=.agg #[.bool s1,.slice A1 n1 c1,.slice B1 m1 d1]) (by simp[results,Tryz.results140,go_sem,x0,x1,x2]) rfl ⟨_,_,_,_,_,_,_,rfl,(((hR.far (by simp) _).far (by simp) _).far (by simp) _).mono (by omega),slc⟩

theorem int_len {x:Int}(h1 : -9223372036854775808≤x) (h2:x≤9223372036854775807):(dig x.natAbs).length≤3:=dig_len_le.2 (by rw[Bs_eq];omega)
set_option maxRecDepth 100000 in
set_option maxHeartbeats 4000000 in
theorem RatOf_any (w:World) (x y:Int) (h1 : -9223372036854775808≤x) (h2:x≤9223372036854775807) (g1:0 < y) (g2:y≤9223372036854775807) :
    Calls Tryz.prog 109 #[.int .i64 x,.int .i64 y] w fun e w'=> ∃ s1 A1 n1 c1 B1 m1 d1,e=.returned (.agg #[.bool s1,.slice A1 n1 c1,.slice B1 m1 d1])∧OwR 3 w.heap.size w' s1 A1 n1 c1 B1 m1 d1 (ofFrac x y.natAbs)∧Bl w w':=by
  have hv:=Lib.hid (show lowS (decide (x < 0) != decide (y < 0)) x.natAbs y.natAbs=ofFrac x y.natAbs by
    rw[decide_eq_false (show ¬ y < 0 by omega),Bool.bne_false]
    exact lowS_self (by omega) rfl)
  have hlx:=int_len h1 h2
  have hly:=int_len (x:=y) (by omega) g2
  go_enter Tryz.func109,Tryz.ntmps109
  go_wp2_with fail
  refine calls_gen (fun W=> Bl w W∧Wk 3 31 (w.heap.size) W) ⟨slc,bts⟩ ?_
  rintro W ⟨hbW,hr⟩
  refine(BigIntOf_any _ x h1 h2).mono ?_
  rintro e w1 ⟨s1,A1,n1,c1,rfl,hO1,hb1⟩
  have hl1:n1≤3:=by rw[← hO1.len];exact hlx
  go_wp2_with fail
  refine(BigIntOf_any _ y (by omega) g2).mono ?_
  rintro e w2 ⟨s2,A2,n2,c2,rfl,hO2,hb2⟩
  have hl2:n2≤3:=by rw[← hO2.len];exact hly
  have hB1:=hO1.rd.bl hb2
  have q1:=Lib.hid hB1.1
  have q2:=Lib.hid hO2.1
  go_wp2_with fail
  refine(RatMake_any _ hB1 hO2.rd (by omega) (by omega) (by omega)).mono ?_
  rintro e w3 ⟨s3,A3,n3,c3,B3,m3,d3,rfl,hR,hb3⟩
  rw[q1.out,q2.out,hv.out] at hR
  have hr2:=(hr.bl hb1).bl hb2
  have hR:=hR.mono (show w.heap.size+1≤w2.heap.size from hr2.lt)
  have hr:=hr2.bl hb3
  have hbW:=((hbW.next hb1).next hb2).next hb3
  obtain⟨v0,x0⟩:=hr.val_ (i:=0) (by omega)
  obtain⟨v1,x1⟩:=hr.val_ (i:=1) (by omega)
  obtain⟨v2,x2⟩:=hr.val_ (i:=2) (by omega)
  have hg:=hr.lt
  obtain⟨cs4,hB4,hc4⟩:=hr
  have hf0:=hB4.frozen 0
  have hf1:=hB4.frozen 1
  have hf2:=hB4.frozen 2
  go_wp2_with fail
  exact bodyPost_ret (v:=.agg #[.bool s3,.slice A3 n3 c3,.slice B3 m3 d3]) (by simp[results,Tryz.results109,go_sem,x0,x1,x2]) rfl ⟨_,_,_,_,_,_,_,rfl,(((hR.far (by simp) _).far (by simp) _).far (by simp) _).mono (by omega),slc⟩

set_option maxHeartbeats 4000000 in
theorem RatFromInt_any (w:World) (x:Int) (h1 : -9223372036854775808≤x) (h2:x≤9223372036854775807) :
    Calls Tryz.prog 64 #[.int .i64 x] w fun e w'=> ∃ s1 A1 n1 c1 B1 m1 d1,e=.returned (.agg #[.bool s1,.slice A1 n1 c1,.slice B1 m1 d1])∧OwR 3 w.heap.size w' s1 A1 n1 c1 B1 m1 d1 (ofFrac x 1)∧Bl w w':=by
  go_enter Tryz.func64,Tryz.ntmps64
  go_wp2_with fail
  refine calls_gen (fun W=> Bl w W∧Wk 3 31 (w.heap.size) W) ⟨slc,bts⟩ ?_
  rintro W ⟨hbW,hr⟩
  refine(RatOf_any _ x 1 h1 h2 (by omega) (by omega)).mono ?_
  rintro e w3 ⟨s3,A3,n3,c3,B3,m3,d3,rfl,hR,hb3⟩
  have hR:OwR 3 (w.heap.size+1) w3 s3 A3 n3 c3 B3 m3 d3 (ofFrac x 1):=hR.mono (show w.heap.size+1≤W.heap.size from hr.lt)
  have hr:=hr.bl hb3
  have hbW:=hbW.next hb3
  obtain⟨v0,x0⟩:=hr.val_ (i:=0) (by omega)
  obtain⟨v1,x1⟩:=hr.val_ (i:=1) (by omega)
  obtain⟨v2,x2⟩:=hr.val_ (i:=2) (by omega)
  have hg:=hr.lt
  obtain⟨cs4,hB4,hc4⟩:=hr
  have hf0:=hB4.frozen 0
  have hf1:=hB4.frozen 1
  have hf2:=hB4.frozen 2
  go_wp2_with fail
  exact bodyPost_ret (v:=.agg #[.bool s3,.slice A3 n3 c3,.slice B3 m3 d3]) (by simp[results,Tryz.results64,go_sem,x0,x1,x2]) rfl ⟨_,_,_,_,_,_,_,rfl,(((hR.far (by simp) _).far (by simp) _).far (by simp) _).mono (by omega),slc⟩


theorem ofFrac_int {x:Int}(h1 : -9223372036854775808≤x) (h2:x≤9223372036854775807):ofFrac x 1=raw x 1:=by
  have hb:(dig 1).length≤24:=dig_len_le.2 (by decide)
  have ha:(dig x.natAbs).length≤24:=Nat.le_trans (int_len h1 h2) (by omega)
  rw[ofFrac_one (Nat.gcd_one_right _),if_pos ⟨ha,hb⟩]
set_option maxRecDepth 100000 in
set_option maxHeartbeats 4000000 in
theorem sRatAdd_any (w:World) {s:Bool}{A:Option Addr}{n c:Nat}{B:Option Addr}{m d:Nat}{r:RatD}{s':Bool}{A':Option Addr}{n' c':Nat}{B':Option Addr}{m' d':Nat}{r':RatD}(h:RdR w s A n c B m d r) (k:RdR w s' A' n' c' B' m' d' r') :
    Calls Tryz.prog 85 #[.agg #[.bool s,.slice A n c,.slice B m d],.agg #[.bool s',.slice A' n' c',.slice B' m' d']] w fun e w'=> ∃ s1 A1 n1 c1 B1 m1 d1,e=.returned (.agg #[.bool s1,.slice A1 n1 c1,.slice B1 m1 d1])∧OwR 3 w.heap.size w' s1 A1 n1 c1 B1 m1 d1 (addR r r')∧Bl w w':=by
  by_cases ho:OkR r
  · have hok:=okR_of ho
    by_cases ho':OkR r'
    · have hok':=okR_of ho'
      have hI:=IsR.out h ho
      have hI':=IsR.out k ho'
      have hL:=OkR.lens h ho
      have hL':=OkR.lens k ho'
      have hval:=Lib.hid (show addR r r'=ofFrac (rn r * rd r'+rn r' * rd r) (rd r * rd r') by unfold addR;rw[if_pos ⟨ho,ho'⟩])
      clear ho ho'
      go_enter Tryz.func85,Tryz.ntmps85
      go_wp2_with fail
      refine calls_gen (fun W=> Bl w W∧Blk W (w.heap.size) 31 #[.bool s,.slice A n c,.slice B m d]∧Blk W (w.heap.size+1) 31 #[.bool s',.slice A' n' c',.slice B' m' d']∧Wk 3 31 (w.heap.size+1+1) W) ⟨slc,bts,bts,bts⟩ ?_
      rintro W ⟨hbW,hx,hx',hr⟩
      refine(sRatOk_any _ (h.bl hbW)).mono ?_
      rw[hok]
      rintro e w1 ⟨rfl,hb1⟩
      have hx:=hx.bl hb1
      have hx':=hx'.bl hb1
      have hr:=hr.bl hb1
      have hbW:=hbW.next hb1
      clear hb1
      obtain⟨i0,i1,i2⟩:=bx3 hx
      obtain⟨j0,j1,j2⟩:=bx3 hx'
      go_wp2_with fail
      refine(sRatOk_any _ (k.bl hbW)).mono ?_
      rw[hok']
      rintro e w2 ⟨rfl,hb2⟩
      have hx:=hx.bl hb2
      have hx':=hx'.bl hb2
      have hr:=hr.bl hb2
      have hbW:=hbW.next hb2
      clear hb2
      obtain⟨i0,i1,i2⟩:=bx3 hx
      obtain⟨j0,j1,j2⟩:=bx3 hx'
      go_wp2_with fail
      refine(l04Add_any _ (RdR.bl hI hbW) (RdR.bl hI' hbW) (by omega) (by omega) (by omega) (by omega) hL.2.2 hL'.2.2).mono ?_
      rintro e w3 ⟨s1,A1,n1,c1,B1,m1,d1,rfl,hR,hb3⟩
      have hR:=hR.mono (show w.heap.size+1+1+1≤w2.heap.size from hr.lt)
      rw[← hval.out] at hR
      have hx:=hx.bl hb3
      have hx':=hx'.bl hb3
      have hr:=hr.bl hb3
      have hbW:=hbW.next hb3
      clear hb3
      obtain⟨i0,i1,i2⟩:=bx3 hx
      obtain⟨j0,j1,j2⟩:=bx3 hx'
      obtain⟨v0,x0⟩:=hr.val_ (i:=0) (by omega)
      obtain⟨v1,x1⟩:=hr.val_ (i:=1) (by omega)
      obtain⟨v2,x2⟩:=hr.val_ (i:=2) (by omega)
      have hg:=hr.lt
      obtain⟨cs4,hB4,hc4⟩:=hr
      have hf0:=hB4.frozen 0
      have hf1:=hB4.frozen 1
      have hf2:=hB4.frozen 2
      go_wp2_with fail
      exact bodyPost_ret (v:=.agg #[.bool s1,.slice A1 n1 c1,.slice B1 m1 d1]) (by simp[results,Tryz.results85,go_sem,x0,x1,x2]) rfl ⟨_,_,_,_,_,_,_,rfl,(((hR.far (by simp) _).far (by simp) _).far (by simp) _).mono (by omega),slc⟩
    · have hok':=okR_no ho'
      have hval:=Lib.hid (show addR r r'=zR by unfold addR;rw[if_neg (fun hk=> ho' hk.2)])
      have ho':=Lib.hid ho';rename_i h_;clear h_
      clear ho
      go_enter Tryz.func85,Tryz.ntmps85
      go_wp2_with fail
      refine calls_gen (fun W=> Bl w W∧Blk W (w.heap.size) 31 #[.bool s,.slice A n c,.slice B m d]∧Blk W (w.heap.size+1) 31 #[.bool s',.slice A' n' c',.slice B' m' d']∧Wk 3 31 (w.heap.size+1+1) W) ⟨slc,bts,bts,bts⟩ ?_
      rintro W ⟨hbW,hx,hx',hr⟩
      refine(sRatOk_any _ (h.bl hbW)).mono ?_
      rw[hok]
      rintro e w1 ⟨rfl,hb1⟩
      have hx:=hx.bl hb1
      have hx':=hx'.bl hb1
      have hr:=hr.bl hb1
      have hbW:=hbW.next hb1
      clear hb1
      obtain⟨i0,i1,i2⟩:=bx3 hx
      obtain⟨j0,j1,j2⟩:=bx3 hx'
      go_wp2_with fail
      refine(sRatOk_any _ (k.bl hbW)).mono ?_
      rw[hok']
      rintro e w2 ⟨rfl,hb2⟩
      have hx:=hx.bl hb2
      have hx':=hx'.bl hb2
      have hr:=hr.bl hb2
      have hbW:=hbW.next hb2
      clear hb2
      obtain⟨i0,i1,i2⟩:=bx3 hx
      obtain⟨j0,j1,j2⟩:=bx3 hx'
      obtain⟨v0,x0⟩:=hr.val_ (i:=0) (by omega)
      obtain⟨v1,x1⟩:=hr.val_ (i:=1) (by omega)
      obtain⟨v2,x2⟩:=hr.val_ (i:=2) (by omega)
      have hg:=hr.lt
      obtain⟨cs4,hB4,hc4⟩:=hr
      have hf0:=hB4.frozen 0
      have hf1:=hB4.frozen 1
      have hf2:=hB4.frozen 2
      go_wp2_with fail
      exact bodyPost_ret (v:=.agg #[.bool false,.slice none 0 0,.slice none 0 0]) (by simp[results,Tryz.results85,go_sem,x0,x1,x2]) rfl ⟨_,_,_,_,_,_,_,rfl,by rw[hval.out];exact OwR.zero _ _ _,slc⟩
  · have hok:=okR_no ho
    have hval:=Lib.hid (show addR r r'=zR by unfold addR;rw[if_neg (fun hk=> ho hk.1)])
    have ho:=Lib.hid ho;rename_i h_;clear h_
    go_enter Tryz.func85,Tryz.ntmps85
    go_wp2_with fail
    refine calls_gen (fun W=> Bl w W∧Blk W (w.heap.size) 31 #[.bool s,.slice A n c,.slice B m d]∧Blk W (w.heap.size+1) 31 #[.bool s',.slice A' n' c',.slice B' m' d']∧Wk 3 31 (w.heap.size+1+1) W) ⟨slc,bts,bts,bts⟩ ?_
    rintro W ⟨hbW,hx,hx',hr⟩
    refine(sRatOk_any _ (h.bl hbW)).mono ?_
    rw[hok]
    rintro e w1 ⟨rfl,hb1⟩
    have hx:=hx.bl hb1
    have hx':=hx'.bl hb1
    have hr:=hr.bl hb1
    have hbW:=hbW.next hb1
    clear hb1
    obtain⟨i0,i1,i2⟩:=bx3 hx
    obtain⟨j0,j1,j2⟩:=bx3 hx'
    obtain⟨v0,x0⟩:=hr.val_ (i:=0) (by omega)
    obtain⟨v1,x1⟩:=hr.val_ (i:=1) (by omega)
    obtain⟨v2,x2⟩:=hr.val_ (i:=2) (by omega)
    have hg:=hr.lt
    obtain⟨cs4,hB4,hc4⟩:=hr
    have hf0:=hB4.frozen 0
    have hf1:=hB4.frozen 1
    have hf2:=hB4.frozen 2
    go_wp2_with fail
    exact bodyPost_ret (v:=.agg #[.bool false,.slice none 0 0,.slice none 0 0]) (by simp[results,Tryz.results85,go_sem,x0,x1,x2]) rfl ⟨_,_,_,_,_,_,_,rfl,by rw[hval.out];exact OwR.zero _ _ _,slc⟩
end

section
open Go.RowKit

theorem RowG.lo {α:Type} [Inhabited α] {N:List Nat→Prop}{TP:TypeId}{size lo hi:Nat}{El:World→Array Value→Nat→α→List Nat→Prop}{w:World}{v:Value}{l:List α}(h:RowG N TP size El lo hi w v l) {g:Nat}(hg:v.ownBlock=Option.some g):lo≤g∧g < hi:=by
  obtain⟨_,_,h1,h2,_⟩:=h
  exact⟨(World.ownsRow.lt h1 g hg).1,h2 g hg⟩
theorem RowG.up {α:Type} [Inhabited α] {N:List Nat→Prop}{TP:TypeId}{size lo hi hi':Nat}{El:World→Array Value→Nat→α→List Nat→Prop}{w:World}{v:Value}{l:List α}(h:RowG N TP size El lo hi w v l) (h1:hi≤hi') (h2:hi'≤w.heap.size):RowG N TP size El lo hi' w v l:=by
  obtain⟨cells,fs,r1,r2,r3,r4,r5,r6,r7⟩:=h
  exact⟨cells,fs,r1,fun g e=> Nat.lt_of_lt_of_le (r2 g e) h1,r3,r4,fun b hm =>⟨(r5 b hm).1,Nat.lt_of_lt_of_le (r5 b hm).2.1 h1,(r5 b hm).2.2⟩,r6,h2⟩
/-- What stays where another row may have turned. -/
theorem RowG.keepX {α:Type} [Inhabited α] {N N':List Nat→Prop}{TP:TypeId}{size lo hi:Nat}{El:World→Array Value→Nat→α→List Nat→Prop}{w W:World}{v:Value}{l:List α}(hk:KeepE size El) (h:RowG N TP size El lo hi w v l) (hs:w.heap.size≤W.heap.size)
    (h1:∀ g,v.ownBlock=Option.some g→W.heap[g]?=w.heap[g]?) (h2:∀ bs:List Nat,N bs→(∀ b ∈ bs,lo≤b∧b < hi)→(∀ b ∈ bs,W.heap[b]?=w.heap[b]?)∧N' bs):RowG N' TP size El lo hi W v l:=by
  obtain⟨cells,fs,r1,r2,r3,r4,r5,r6,r7⟩:=h
  obtain⟨q1,q2⟩:=h2 fs.flatten r6 fun b hm =>⟨(r5 b hm).1,(r5 b hm).2.1⟩
  refine⟨cells,fs,⟨r1.1,?_⟩,r2,r3,fun i hi=> hk _ _ _ _ _ _ _ _ (r4 i hi) (fun _ _=> rfl) hs fun b hm=> q1 b (mem_flatten_pix hm),r5,q2,Nat.le_trans r7 hs⟩
  rcases r1.2 with h |⟨g,cap,cur,rfl,hg,hh,r⟩
  · exact .inl h
  · exact .inr ⟨g,cap,cur,rfl,hg,(h1 g rfl).trans hh,r⟩
section
variable {lo:Nat}{w W w':World}{vp vt vp' vt':Value}{l l':List PtD}{t t':List TriD}
end
end

section
open Go.RowKit
theorem wpList_append_rowS {P:Program}{α:Type} [Inhabited α] {N:List Nat→Prop}(hN:AppN N) {size bytes:Nat}{El:World→Array Value→Nat→α→List Nat→Prop}(hk:KeepE size El) {TP t:TypeId}{z:Value}
    (hinfo:(P.info? TP).map (fun i =>(i.zero,i.size,i.bytes))=some (some z,size,bytes)) (hzs:z.cells.size=size) (hsz:0 < size) (hby:bytes≤4096) (ht:P.underlying t=some (.slice TP))
    {W:World}{news:Array Value}{p:α}{bs:List Nat}{lo hi:Nat}{l:List α}{ops:Array Oper}{rest:List Oper}{o:Oper}{a:Act}{Q:Exit→Act→World→Prop}(hgd:o.guard=none) (s x:Operand)
    (ho:o.op=.call { callee:=.builtin .append,args:=#[s,x],argTypes:=#[t,t] }) (v:Value) (hs:a.eval s=v) (hrow:RowG N TP size El lo hi W v l)
    (hel:El W news 0 p bs) (hnl:news.size=size) (h1:∀ u ∈ news.toList,u.oneCell'=true) (hbs:∀ b ∈ bs,hi≤b∧b < W.heap.size) (hNb:N bs) (hlh:lo≤hi)
    (c:Nat) (hx:a.eval x=.slice (some ⟨W.heap.size,0,none⟩) 1 c) (hlen:l.length≤1048576) (w0:World) (hb:Bl w0 W) (h0:w0.heap.size≤lo)
    (h:∀ v' w',RowG N TP size El lo w'.heap.size w' v' (l ++ [p])→Bl w0 w'→(v'=.slice none 0 0→False)→(W.heap.size≤w'.heap.size∧∀ g,g < W.heap.size→v.ownBlock≠some g→w'.heap[g]?=W.heap[g]?∧v'.ownBlock≠some g)→wpList P ops Q rest (a.put o.dst v') w'):wpList P ops Q (o :: rest) a (W.alloc (.cells news TP)):=by
  obtain⟨i0,hi0,hz0,hz1,hz2⟩:=info_parts hinfo
  obtain⟨cells,fs,r1,r2,r3,r4,r5,r6,r7⟩:=hrow
  have ro:=World.ownsRow.alloc r1 (.cells news TP)
  have hnew:(W.alloc (.cells news TP)).heap[W.heap.size]?=some (.cells news TP (0,0)):=heap_alloc_new W _
  have hsz2:(W.alloc (.cells news TP)).heap.size=W.heap.size+1:=by simp
  have hm:(l.length+1) * bytes≤140737488355328:=Nat.le_trans (Nat.mul_le_mul (show l.length+1≤1048577 by omega) hby) (by omega)
  refine wpList_append_own_at _ hgd s x t ho lo TP i0 z size bytes ht hi0 hz0 hz1 hz2 hzs hsz v l.length cells hs ro ⟨W.heap.size,0,none⟩ 1 c news.toList hx (by simpa using hnl) (World.news_of_block hnew) h1 (by unfold maxLen;omega) hm (by omega) ?_
  intro v' w' g1 g2 g3 g4
  have hne:v'≠.slice none 0 0:=fun e=> by have:=(g3.1 e).2;omega
  have hws:=g2.size
  have hold:∀ b,b < W.heap.size→v.ownBlock≠some b→w'.heap[b]?=W.heap[b]?:=fun b hb1 hb2 =>(g2.block b (by omega) (fun e=> hb2 e.symm)).trans (Below.heap_alloc W _ b hb1)
  have hown:∀ b,v'.ownBlock=some b→(v.ownBlock=some b∨b=W.heap.size+1):=by
    intro b e
    rcases g4 with g4 | g4
    · exact .inl (by rw[← g4];exact e)
    · rw[g4] at e;injection e with e;right;omega
  have hvl:∀ b,v'.ownBlock=some b→lo≤b∧b < w'.heap.size:=fun b e=> by have:=World.ownsRow.lt g1 b e;exact this
  refine h v' w' ⟨cells ++ news.toList,fs ++ [bs],by simpa using g1,fun g e =>(hvl g e).2,by simp[r3],fun i hi'=> ?_,fun b hm'=> ?_,?_,Nat.le_refl _⟩ ((hb.alloc _).grown g2 (fun k e=> by have:=(World.ownsRow.lt r1 k e).1;omega)) hne ⟨by omega,fun g hg hn =>⟨hold g hg hn,fun e=> by rcases hown g e with e | e;exact hn e;omega⟩⟩
  · have hcl:=r1.1
    rw[List.length_append,List.length_singleton] at hi'
    rcases Nat.lt_succ_iff_lt_or_eq.1 hi' with hi' | rfl
    · rw[pix_append_left hi',pix_append_left (by rw[r3];exact hi')]
      refine hk _ _ _ _ _ _ _ _ (r4 i hi') (fun j hj=> ?_) (by omega) fun b hb'=> ?_
      · have:i * size+j < cells.length:=by
          rw[hcl]
          have:(i+1) * size≤l.length * size:=Nat.mul_le_mul_right _ hi'
          rw[Nat.succ_mul] at this
          omega
        simp[List.getElem?_append_left this]
      · have:=r5 b (mem_flatten_pix hb')
        exact hold b (by omega) this.2.2
    · rw[pix_append_last,pixs_last r3]
      refine hk _ _ _ _ _ _ _ _ hel (fun j hj=> ?_) (by omega) fun b hb'=> ?_
      · have:(cells ++ news.toList)[l.length * size+j]?=news.toList[j]?:=by
          rw[List.getElem?_append_right (by rw[hcl];omega),hcl]
          congr 1;omega
        simpa using this
      · have:=hbs b hb'
        exact hold b this.2 fun e=> by have:=r2 b e;omega
  · rw[List.flatten_append,List.mem_append] at hm'
    rcases hm' with hm' | hm'
    · have:=r5 b hm'
      refine⟨this.1,by omega,fun e=> ?_⟩
      rcases hown b e with e | e
      · exact this.2.2 e
      · omega
    · have:=hbs b (by simpa using hm')
      refine⟨by omega,by omega,fun e=> ?_⟩
      rcases hown b e with e | e
      · have:=r2 b e;omega
      · omega
  · rw[List.flatten_append]
    refine hN.2 _ _ r6 (by simpa using hNb) fun x hx' y hy e=> ?_
    have a1:=r5 x hx'
    have a2:=hbs y (by simpa using hy)
    omega
end

section
open Go.RowKit

def mnQ (p q:Rat):Rat:=if q < p then q else p
open Classical in
noncomputable def minR (r s:RatD):RatD:=if OkR r∧OkR s then (if cmpR r s≤0 then r else s) else zR
theorem minR_val {r r':RatD}(ho:OkR r∧OkR r'):minR r r'=if cmpZ (rn r * rd r') (rn r' * rd r)≤0 then r else r':=by
  unfold minR cmpR
  rw[if_pos ho,if_pos ho]
theorem minR_toR {p q:Rat}(hp:Fit p) (hq:Fit q):minR (toR p) (toR q)=toR (mnQ p q):=by
  unfold minR mnQ
  rw[if_pos ⟨hp.ok,hq.ok⟩,cmpR_toR hp hq]
  by_cases h1:p < q
  · rw[if_pos h1,if_pos (by omega),if_neg (by grind)]
  · rw[if_neg h1]
    by_cases h2:q < p
    · rw[if_pos h2,if_neg (by omega),if_pos h2]
    · rw[if_neg h2,if_pos (by omega),if_neg h2]
end

section
open Go.RowKit
set_option maxRecDepth 100000 in
set_option maxHeartbeats 4000000 in
theorem RatMin_any (w:World) {s:Bool}{A:Option Addr}{n c:Nat}{B:Option Addr}{m d:Nat}{r:RatD}{s':Bool}{A':Option Addr}{n' c':Nat}{B':Option Addr}{m' d':Nat}{r':RatD}(h:RdR w s A n c B m d r) (k:RdR w s' A' n' c' B' m' d' r') :
    Calls Tryz.prog 24 #[.agg #[.bool s,.slice A n c,.slice B m d],.agg #[.bool s',.slice A' n' c',.slice B' m' d']] w fun e w'=> ∃ s1 A1 n1 c1 B1 m1 d1,e=.returned (.agg #[.bool s1,.slice A1 n1 c1,.slice B1 m1 d1])∧OwR 3 w.heap.size w' s1 A1 n1 c1 B1 m1 d1 (minR r r')∧Bl w w':=by
  by_cases ho:OkR r∧OkR r'
  · have hall:=Lib.hid (allOk_two.2 ho)
    have hI:=IsR.out h ho.1
    have hI':=IsR.out k ho.2
    have hL:=OkR.lens h ho.1
    have hL':=OkR.lens k ho.2
    have hval:=minR_val ho
    clear ho
    generalize hcz:cmpZ (rn r * (rd r':Int)) (rn r' * (rd r:Int))=cz at *
    have hcz:=Lib.hid hcz;rename_i h_;clear h_
    by_cases hge:cz≤0
    · rw[if_pos hge] at hval
      have hval:=Lib.hid hval;rename_i h_;clear h_
      go_enter Tryz.func24,Tryz.ntmps24
      go_wp2_with fail
      refine calls_gen (fun W=> Bl w W∧Blk W (w.heap.size) 31 #[.bool s,.slice A n c,.slice B m d]∧Blk W (w.heap.size+1) 31 #[.bool s',.slice A' n' c',.slice B' m' d']∧Wk 3 31 (w.heap.size+1+1) W∧Blk W (w.heap.size+1+1+1) 31 #[.bool s,.slice A n c,.slice B m d,.bool s',.slice A' n' c',.slice B' m' d']) ⟨slc,bts,bts,bts,Blk.new3 _ _ _ _ _ _⟩ ?_
      rintro W ⟨hbW,hx,hx',hr,hy⟩
      refine(areRats_yes _ (RdRS.two hy (h.bl hbW) (k.bl hbW)) hall.out).mono ?_
      rintro e w1 ⟨rfl,hb1⟩
      clear hy
      have hx:=hx.bl hb1
      have hx':=hx'.bl hb1
      have hr:=hr.bl hb1
      have hbW:=hbW.next hb1
      clear hb1
      obtain⟨i0,i1,i2⟩:=bx3 hx
      obtain⟨j0,j1,j2⟩:=bx3 hx'
      go_wp2_with fail
      refine(rcompare_any _ (RdR.bl hI hbW) (RdR.bl hI' hbW) (by omega) (by omega) (by omega) (by omega)).mono ?_
      rw[hcz.out]
      rintro e w2 ⟨rfl,hb2⟩
      have hx:=hx.bl hb2
      have hx':=hx'.bl hb2
      have hr:=hr.bl hb2
      have hbW:=hbW.next hb2
      clear hb2
      obtain⟨i0,i1,i2⟩:=bx3 hx
      obtain⟨j0,j1,j2⟩:=bx3 hx'
      go_wp2_with fail
      refine(copyRat_any _ (h.bl hbW) (by omega) (by omega)).mono ?_
      rintro e w3 ⟨A1,n1,c1,B1,m1,d1,rfl,hR,hb3⟩
      have hR:=hR.mono (show w.heap.size+1+1+1≤w2.heap.size from hr.lt)
      rw[← hval.out] at hR
      have hx:=hx.bl hb3
      have hx':=hx'.bl hb3
      have hr:=hr.bl hb3
      have hbW:=hbW.next hb3
      clear hb3
      obtain⟨i0,i1,i2⟩:=bx3 hx
      obtain⟨j0,j1,j2⟩:=bx3 hx'
      obtain⟨v0,x0⟩:=hr.val_ (i:=0) (by omega)
      obtain⟨v1,x1⟩:=hr.val_ (i:=1) (by omega)
      obtain⟨v2,x2⟩:=hr.val_ (i:=2) (by omega)
      have hg:=hr.lt
      obtain⟨cs4,hB4,hc4⟩:=hr
      have hf0:=hB4.frozen 0
      have hf1:=hB4.frozen 1
      have hf2:=hB4.frozen 2
      go_wp2_with fail
      exact bodyPost_ret (v:=.agg #[.bool s,.slice A1 n1 c1,.slice B1 m1 d1]) (by simp[results,Tryz.results24,go_sem,x0,x1,x2]) rfl ⟨_,_,_,_,_,_,_,rfl,(((hR.far (by simp) _).far (by simp) _).far (by simp) _).mono (by omega),slc⟩
    · rw[if_neg hge] at hval
      have hval:=Lib.hid hval;rename_i h_;clear h_
      have hge:0 < cz:=by omega
      go_enter Tryz.func24,Tryz.ntmps24
      go_wp2_with fail
      refine calls_gen (fun W=> Bl w W∧Blk W (w.heap.size) 31 #[.bool s,.slice A n c,.slice B m d]∧Blk W (w.heap.size+1) 31 #[.bool s',.slice A' n' c',.slice B' m' d']∧Wk 3 31 (w.heap.size+1+1) W∧Blk W (w.heap.size+1+1+1) 31 #[.bool s,.slice A n c,.slice B m d,.bool s',.slice A' n' c',.slice B' m' d']) ⟨slc,bts,bts,bts,Blk.new3 _ _ _ _ _ _⟩ ?_
      rintro W ⟨hbW,hx,hx',hr,hy⟩
      refine(areRats_yes _ (RdRS.two hy (h.bl hbW) (k.bl hbW)) hall.out).mono ?_
      rintro e w1 ⟨rfl,hb1⟩
      clear hy
      have hx:=hx.bl hb1
      have hx':=hx'.bl hb1
      have hr:=hr.bl hb1
      have hbW:=hbW.next hb1
      clear hb1
      obtain⟨i0,i1,i2⟩:=bx3 hx
      obtain⟨j0,j1,j2⟩:=bx3 hx'
      go_wp2_with fail
      refine(rcompare_any _ (RdR.bl hI hbW) (RdR.bl hI' hbW) (by omega) (by omega) (by omega) (by omega)).mono ?_
      rw[hcz.out]
      rintro e w2 ⟨rfl,hb2⟩
      have hx:=hx.bl hb2
      have hx':=hx'.bl hb2
      have hr:=hr.bl hb2
      have hbW:=hbW.next hb2
      clear hb2
      obtain⟨i0,i1,i2⟩:=bx3 hx
      obtain⟨j0,j1,j2⟩:=bx3 hx'
      go_wp2_with fail
      refine(copyRat_any _ (k.bl hbW) (by omega) (by omega)).mono ?_
      rintro e w3 ⟨A1,n1,c1,B1,m1,d1,rfl,hR,hb3⟩
      have hR:=hR.mono (show w.heap.size+1+1+1≤w2.heap.size from hr.lt)
      rw[← hval.out] at hR
      have hx:=hx.bl hb3
      have hx':=hx'.bl hb3
      have hr:=hr.bl hb3
      have hbW:=hbW.next hb3
      clear hb3
      obtain⟨i0,i1,i2⟩:=bx3 hx
      obtain⟨j0,j1,j2⟩:=bx3 hx'
      obtain⟨v0,x0⟩:=hr.val_ (i:=0) (by omega)
      obtain⟨v1,x1⟩:=hr.val_ (i:=1) (by omega)
      obtain⟨v2,x2⟩:=hr.val_ (i:=2) (by omega)
      have hg:=hr.lt
      obtain⟨cs4,hB4,hc4⟩:=hr
      have hf0:=hB4.frozen 0
      have hf1:=hB4.frozen 1
      have hf2:=hB4.frozen 2
      go_wp2_with fail
      exact bodyPost_ret (v:=.agg #[.bool s',.slice A1 n1 c1,.slice B1 m1 d1]) (by simp[results,Tryz.results24,go_sem,x0,x1,x2]) rfl ⟨_,_,_,_,_,_,_,rfl,(((hR.far (by simp) _).far (by simp) _).far (by simp) _).mono (by omega),slc⟩
  · have hall:=Lib.hid (fun hk=> ho (allOk_two.1 hk):¬ AllOk [r,r'])
    have hval:=Lib.hid (show minR r r'=zR by unfold minR;rw[if_neg ho])
    have ho:=Lib.hid ho;rename_i h_;clear h_
    go_enter Tryz.func24,Tryz.ntmps24
    go_wp2_with fail
    refine calls_gen (fun W=> Bl w W∧Blk W (w.heap.size) 31 #[.bool s,.slice A n c,.slice B m d]∧Blk W (w.heap.size+1) 31 #[.bool s',.slice A' n' c',.slice B' m' d']∧Wk 3 31 (w.heap.size+1+1) W∧Blk W (w.heap.size+1+1+1) 31 #[.bool s,.slice A n c,.slice B m d,.bool s',.slice A' n' c',.slice B' m' d']) ⟨slc,bts,bts,bts,Blk.new3 _ _ _ _ _ _⟩ ?_
    rintro W ⟨hbW,hx,hx',hr,hy⟩
    refine(areRats_no _ (RdRS.two hy (h.bl hbW) (k.bl hbW)) hall.out).mono ?_
    rintro e w1 ⟨rfl,hb1⟩
    clear hy
    have hx:=hx.bl hb1
    have hx':=hx'.bl hb1
    have hr:=hr.bl hb1
    have hbW:=hbW.next hb1
    clear hb1
    obtain⟨i0,i1,i2⟩:=bx3 hx
    obtain⟨j0,j1,j2⟩:=bx3 hx'
    obtain⟨v0,x0⟩:=hr.val_ (i:=0) (by omega)
    obtain⟨v1,x1⟩:=hr.val_ (i:=1) (by omega)
    obtain⟨v2,x2⟩:=hr.val_ (i:=2) (by omega)
    have hg:=hr.lt
    obtain⟨cs4,hB4,hc4⟩:=hr
    have hf0:=hB4.frozen 0
    have hf1:=hB4.frozen 1
    have hf2:=hB4.frozen 2
    go_wp2_with fail
    exact bodyPost_ret (v:=.agg #[.bool false,.slice none 0 0,.slice none 0 0]) (by simp[results,Tryz.results24,go_sem,x0,x1,x2]) rfl ⟨_,_,_,_,_,_,_,rfl,by rw[hval.out];exact OwR.zero _ _ _,slc⟩
end

end Go.Proofs.YtjaapemopbbfaaaGreat
