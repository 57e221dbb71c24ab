import Derived.Test.YtmkcacgmnnlddaaGreatRows
import Derived.Test.YtmkcacgmnnlddaaGreatPClosureM18
import Derived.Test.YtmkcacgmnnlddaaGreatPClosureM11
import Derived.Test.YtmkcacgmnnlddaaGreatPClosureM12
import Derived.Test.YtmkcacgmnnlddaaGreatPClosureM13
namespace Go.Proofs.YtmkcacgmnnlddaaGreat
set_option maxRecDepth 100000
set_option maxHeartbeats 8000000
section
open Go.RowKit
theorem cell_al {w:World}{o:Obj}{a:Addr}(h:a.block<w.heap.size):(w.alloc o).cell? a=w.cell? a:=Bl.cellOf ((Bl.refl w).alloc o) h
theorem okB_of {w:World}{s:Bool}{A:Option Addr}{n c:Nat}{x:Int}(h:IsB w s A n c x) (hn:n≤60):okB s (ints (dig x.natAbs))=true:=by
 refine okB_yes ⟨⟨_,rfl,by rw[h.len];exact hn⟩,fun hs=>?_⟩
 rw[ints_len]
 rw[h.1]at hs
 have:x<0:=by simpa using hs
 exact dig_len_pos.2 (by omega)
theorem RatMake_any (w:World) {s:Bool}{A:Option Addr}{n c:Nat}{x:Int}{t:Bool}{B:Option Addr}{m d:Nat}{y:Int}(h:IsB w s A n c x) (k:IsB w t B m d y) (hn:n≤60) (hm:m≤60) (hy:y≠0) :
  Calls Tryz.prog 136 #[.agg #[.bool s,.slice A n c],.agg #[.bool t,.slice B m d]] w fun e w'=>∃s1 A1 n1 c1 B1 m1 d1,e=.returned (.agg #[.bool s1,.slice A1 n1 c1,.slice B1 m1 d1])∧OwR 3 w.heap.size w' s1 A1 n1 c1 B1 m1 d1 (lowS (s != t) x.natAbs y.natAbs)∧Bl w w':=by
 have hB:=okB_of h hn
 have hB':=okB_of k hm
 have hy0:0<y.natAbs:=by omega
 have hm0:0<m:=by rw[←k.len];exact dig_len_pos.2 hy0
 have hne:((m:Int) == 0)=false:=by simp;omega
 have hlow:=Lib.hid (show lowS (s != t) x.natAbs y.natAbs=ofFrac (sx (s != t) x.natAbs) y.natAbs by unfold lowS;rw[if_neg (by omega)])
 clear hy
 go_enter Tryz.func136,Tryz.ntmps136
 go_wp2_with fail
 refine calls_gen (fun W=>Bl w W∧Blk W (w.heap.size) 52 #[.bool s,.slice A n c]∧Blk W (w.heap.size+1) 52 #[.bool t,.slice B m d]∧Wk 3 54 (w.heap.size+1+1) W) ⟨slc,bts,bts,bts⟩ ?_
 rintro W ⟨hbW,hx,hx',hr⟩
 refine(BigIntOk_any _ (RdI.bl h.mg hbW)).mono ?_
 rw[hB]
 rintro e w1 ⟨rfl,hb1⟩
 have hx:=hx.bl hb1
 have hx':=hx'.bl hb1
 have hr:=hr.bl hb1
 have hbW:=hbW.next hb1
 clear hb1
 obtain⟨i0,i1⟩:=bx2 hx
 obtain⟨j0,j1⟩:=bx2 hx'
 go_wp2_with fail
 refine(BigIntOk_any _ (RdI.bl k.mg hbW)).mono ?_
 rw[hB']
 rintro e w2 ⟨rfl,hb2⟩
 have hx:=hx.bl hb2
 have hx':=hx'.bl hb2
 have hr:=hr.bl hb2
 have hbW:=hbW.next hb2
 clear hb2
 obtain⟨i0,i1⟩:=bx2 hx
 obtain⟨j0,j1⟩:=bx2 hx'
 have hz2:=hr.lt
 go_wp2_with fail
 go_region_held3 (fun w'=>(w'.cell? ⟨w.heap.size,0,none⟩=some (.bool s)∧w'.cell? ⟨w.heap.size,1,none⟩=some (.slice A n c))∧(w'.cell? ⟨w.heap.size+1,0,none⟩=some (.bool t)∧w'.cell? ⟨w.heap.size+1,1,none⟩=some (.slice B m d))∧(w'.cell? ⟨w.heap.size+1+1,0,none⟩=some (cellD w' (w.heap.size+1+1) 0)∧w'.cell? ⟨w.heap.size+1+1,1,none⟩=some (cellD w' (w.heap.size+1+1) 1)∧w'.cell? ⟨w.heap.size+1+1,2,none⟩=some (cellD w' (w.heap.size+1+1) 2))∧w'.frozen? ⟨w.heap.size+1+1,0,none⟩=false∧w'.frozen? ⟨w.heap.size+1+1,1,none⟩=false∧w'.frozen? ⟨w.heap.size+1+1,2,none⟩=false) (first|exact⟨bx2 (T:=52) bts,bx2 (T:=52) bts,Wk.out3 (T:=54) bts⟩) (first |(go_at_call 122;(with_reducible refine(Clone_any _ (RdI.bl h.mg slc) (by omega)).mono ?_);rintro e w3 ⟨A3,n3,c3,rfl,hO3,hb3⟩;(have hO3:OwI 3 (w.heap.size+1+1+1) w3 A3 n3 c3 _:=hO3.mono hz2)) |(go_at_call 169;refine(signed_any _ _ hO3.rd).mono ?_;rintro e w4 ⟨s4,rfl,hs4,hb4⟩) |(go_at_call 122;(with_reducible refine(Clone_any _ (RdI.bl k.mg slc) (by omega)).mono ?_);rintro e w5 ⟨A5,n5,c5,rfl,hO5,hb5⟩;(have hz4:w.heap.size+1+1+1≤w4.heap.size:=Wk.lt (k:=3) (T:=54) bts);(have hR5:OwR 3 (w.heap.size+1+1+1) w5 s4 A3 n3 c3 A5 n5 c5 (raw (sx (s != t) x.natAbs) y.natAbs):=OwR.two' (by show OwI _ _ _ _ _ _ (ints (dig (sx (s != t) x.natAbs).natAbs));rw[sx_abs];exact hO3.bl hb4) hO5 hb5 hz4 (by rw[hs4.out];exact(sx_neg _ _).symm));(have hz5:w.heap.size+1+1+1≤w5.heap.size:=Wk.lt (k:=3) (T:=54) bts);(have hl3:n3≤60:=by rw[←hO3.rd.lenN,h.len];exact hn);(have hl5:n5≤60:=by rw[←hO5.rd.lenN,k.len];exact hm)) |(go_at_call 167;refine(reduced_any _ hR5 hz5 (by omega) (by omega) hy0).mono ?_;rintro e w6 ⟨s1,A1,n1,c1,B1,m1,d1,rfl,hR,hb6⟩))
 have hr:=(show Wk 3 54 (w.heap.size+1+1) w6 from bts)
 have hbW:Bl w w6:=slc
 rw[←hlow.out]at hR
 obtain⟨v0,x0⟩:=hr.val_ (i:=0) (by omega)
 obtain⟨v1,x1⟩:=hr.val_ (i:=1) (by omega)
 obtain⟨v2,x2⟩:=hr.val_ (i:=2) (by omega)
 have hg:=hr.lt
 obtain⟨cs4,hB4,hc4⟩:=hr
 have hf0:=hB4.frozen 0
 have hf1:=hB4.frozen 1
 have hf2:=hB4.frozen 2
 go_wp2_with fail
 exact bodyPost_ret (v:=.agg #[.bool s1,.slice A1 n1 c1,.slice B1 m1 d1]) (by simp[results,Tryz.results136,go_sem,x0,x1,x2]) rfl ⟨_,_,_,_,_,_,_,rfl,(((hR.far (by simp) _).far (by simp) _).far (by simp) _).mono (by omega),slc⟩
theorem int_len {x:Int}(h1 : -9223372036854775808≤x) (h2:x≤9223372036854775807):(dig x.natAbs).length≤3:=dig_len_le.2 (by rw[Bs_eq];omega)
theorem RatOf_any (w:World) (x y:Int) (h1 : -9223372036854775808≤x) (h2:x≤9223372036854775807) (g1:0<y) (g2:y≤9223372036854775807) :
  Calls Tryz.prog 105 #[.int .i64 x,.int .i64 y] w fun e w'=>∃s1 A1 n1 c1 B1 m1 d1,e=.returned (.agg #[.bool s1,.slice A1 n1 c1,.slice B1 m1 d1])∧OwR 3 w.heap.size w' s1 A1 n1 c1 B1 m1 d1 (ofFrac x y.natAbs)∧Bl w w':=by
 have hv:=Lib.hid (show lowS (decide (x<0) != decide (y<0)) x.natAbs y.natAbs=ofFrac x y.natAbs by
  rw[decide_eq_false (show ¬y<0 by omega),Bool.bne_false]
  exact lowS_self (by omega) rfl)
 have hlx:=int_len h1 h2
 have hly:=int_len (x:=y) (by omega) g2
 go_enter Tryz.func105,Tryz.ntmps105
 go_wp2_with fail
 refine calls_gen (fun W=>Bl w W∧Wk 3 54 (w.heap.size) W) ⟨slc,bts⟩ ?_
 rintro W ⟨hbW,hr⟩
 refine(BigIntOf_any _ x h1 h2).mono ?_
 rintro e w1 ⟨s1,A1,n1,c1,rfl,hO1,hb1⟩
 have hl1:n1≤3:=by rw[←hO1.len];exact hlx
 go_wp2_with fail
 refine(BigIntOf_any _ y (by omega) g2).mono ?_
 rintro e w2 ⟨s2,A2,n2,c2,rfl,hO2,hb2⟩
 have hl2:n2≤3:=by rw[←hO2.len];exact hly
 have hB1:=hO1.rd.bl hb2
 have q1:=Lib.hid hB1.1
 have q2:=Lib.hid hO2.1
 go_wp2_with fail
 refine(RatMake_any _ hB1 hO2.rd (by omega) (by omega) (by omega)).mono ?_
 rintro e w3 ⟨s3,A3,n3,c3,B3,m3,d3,rfl,hR,hb3⟩
 rw[q1.out,q2.out,hv.out]at hR
 have hr2:=(hr.bl hb1).bl hb2
 have hR:=hR.mono (show w.heap.size+1≤w2.heap.size from hr2.lt)
 have hr:=hr2.bl hb3
 have hbW:=((hbW.next hb1).next hb2).next hb3
 obtain⟨v0,x0⟩:=hr.val_ (i:=0) (by omega)
 obtain⟨v1,x1⟩:=hr.val_ (i:=1) (by omega)
 obtain⟨v2,x2⟩:=hr.val_ (i:=2) (by omega)
 have hg:=hr.lt
 obtain⟨cs4,hB4,hc4⟩:=hr
 have hf0:=hB4.frozen 0
 have hf1:=hB4.frozen 1
 have hf2:=hB4.frozen 2
 go_wp2_with fail
 exact bodyPost_ret (v:=.agg #[.bool s3,.slice A3 n3 c3,.slice B3 m3 d3]) (by simp[results,Tryz.results105,go_sem,x0,x1,x2]) rfl ⟨_,_,_,_,_,_,_,rfl,(((hR.far (by simp) _).far (by simp) _).far (by simp) _).mono (by omega),slc⟩
theorem sBigIntOf_any (w:World) (x:Int) (h1 : -9223372036854775808<x) (h2:x≤9223372036854775807) :
  Calls Tryz.prog 107 #[.int .i64 x] w fun e w'=>∃s' A' n' c',e=.returned (.agg #[.bool s',.slice A' n' c'])∧OwB 3 w.heap.size w' s' A' n' c' x∧Bl w w':=by
 have hlx:=int_len (x:=x) (by omega) h2
 have hne:(x == -9223372036854775808)=false:=by simp;omega
 rcases Int.lt_or_le x 0 with hx|hx
 ·skip
  have hu:Hid (-x=((x.natAbs:Nat):Int)):=by unfold Hid;omega
  go_enter Tryz.func107,Tryz.ntmps107
  go_wp2_with fail
  refine calls_gen (fun W=>Bl w W∧Wk 2 52 (w.heap.size) W) ⟨slc,bts⟩ ?_
  rintro W ⟨hbW,hr⟩
  rw[hu.out]
  refine(sNatOf_any _ x.natAbs (by omega)).mono ?_
  rintro e w3 ⟨A1,k1,c1,rfl,hO,hb3⟩
  have hl:k1≤60:=by rw[←hO.rd.lenN];omega
  go_wp2_with fail
  refine(l03Make_any _ true hO.rd hl).mono ?_
  rintro e w4 ⟨s4,A4,n4,c4,rfl,hs4,hO4,hb4⟩
  have hr3:=hr.bl hb3
  have hO5:OwB 3 (w.heap.size+1) w4 s4 A4 n4 c4 x:=⟨by rw[hs4.out];exact signed_neg rfl (fun _=>(decide_eq_true hx).symm),hO4.mono (show w.heap.size+1≤w3.heap.size from hr3.lt)⟩
  have hr:=hr3.bl hb4
  have hbW:=(hbW.next hb3).next hb4
  obtain⟨⟨x0,x1⟩,hf0,hf1⟩:=hr.out2
  have hg:=hr.lt
  go_wp2_with fail
  exact bodyPost_ret (v:=.agg #[.bool s4,.slice A4 n4 c4]) (by simp[results,Tryz.results107,go_sem,x0,x1]) rfl ⟨_,_,_,_,rfl,((hO5.far (by simp) _).far (by simp) _).mono (by omega),slc⟩
 ·skip
  have hu:Hid (x=((x.natAbs:Nat):Int)):=by unfold Hid;omega
  go_enter Tryz.func107,Tryz.ntmps107
  go_wp2_with fail
  refine calls_gen (fun W=>Bl w W∧Wk 2 52 (w.heap.size) W) ⟨slc,bts⟩ ?_
  rintro W ⟨hbW,hr⟩
  rw[hu.out]
  refine(sNatOf_any _ x.natAbs (by omega)).mono ?_
  rintro e w3 ⟨A1,k1,c1,rfl,hO,hb3⟩
  have hl:k1≤60:=by rw[←hO.rd.lenN];omega
  go_wp2_with fail
  refine(l03Make_any _ false hO.rd hl).mono ?_
  rintro e w4 ⟨s4,A4,n4,c4,rfl,hs4,hO4,hb4⟩
  have hr3:=hr.bl hb3
  have hO5:OwB 3 (w.heap.size+1) w4 s4 A4 n4 c4 x:=⟨by rw[hs4.out];exact signed_neg rfl (fun _=>(decide_eq_false (by omega)).symm),hO4.mono (show w.heap.size+1≤w3.heap.size from hr3.lt)⟩
  have hr:=hr3.bl hb4
  have hbW:=(hbW.next hb3).next hb4
  obtain⟨⟨x0,x1⟩,hf0,hf1⟩:=hr.out2
  have hg:=hr.lt
  go_wp2_with fail
  exact bodyPost_ret (v:=.agg #[.bool s4,.slice A4 n4 c4]) (by simp[results,Tryz.results107,go_sem,x0,x1]) rfl ⟨_,_,_,_,rfl,((hO5.far (by simp) _).far (by simp) _).mono (by omega),slc⟩
theorem ofFrac_int {x:Int}(h1 : -9223372036854775808≤x) (h2:x≤9223372036854775807):ofFrac x 1=raw x 1:=by
 have hb:(dig 1).length≤24:=dig_len_le.2 (by decide)
 have ha:(dig x.natAbs).length≤24:=Nat.le_trans (int_len h1 h2) (by omega)
 rw[ofFrac_one (Nat.gcd_one_right _),if_pos ⟨ha,hb⟩]
theorem sRatAdd_any (w:World) {s:Bool}{A:Option Addr}{n c:Nat}{B:Option Addr}{m d:Nat}{r:RatD}{s':Bool}{A':Option Addr}{n' c':Nat}{B':Option Addr}{m' d':Nat}{r':RatD}(h:RdR w s A n c B m d r) (k:RdR w s' A' n' c' B' m' d' r') :
  Calls Tryz.prog 145 #[.agg #[.bool s,.slice A n c,.slice B m d],.agg #[.bool s',.slice A' n' c',.slice B' m' d']] w fun e w'=>∃s1 A1 n1 c1 B1 m1 d1,e=.returned (.agg #[.bool s1,.slice A1 n1 c1,.slice B1 m1 d1])∧OwR 3 w.heap.size w' s1 A1 n1 c1 B1 m1 d1 (addR r r')∧Bl w w':=by
 by_cases ho:OkR r
 ·have hok:=okR_of ho
  by_cases ho':OkR r'
  ·have hok':=okR_of ho'
   have hI:=IsR.out h ho
   have hI':=IsR.out k ho'
   have hL:=OkR.lens h ho
   have hL':=OkR.lens k ho'
   have hval:=Lib.hid (show addR r r'=ofFrac (rn r*rd r'+rn r'*rd r) (rd r*rd r')by unfold addR;rw[if_pos ⟨ho,ho'⟩])
   clear ho ho'
   go_enter Tryz.func145,Tryz.ntmps145
   go_wp2_with fail
   refine calls_gen (fun W=>Bl w W∧Blk W (w.heap.size) 54 #[.bool s,.slice A n c,.slice B m d]∧Blk W (w.heap.size+1) 54 #[.bool s',.slice A' n' c',.slice B' m' d']∧Wk 3 54 (w.heap.size+1+1) W) ⟨slc,bts,bts,bts⟩ ?_
   rintro W ⟨hbW,hx,hx',hr⟩
   refine(sRatOk_any _ (h.bl hbW)).mono ?_
   rw[hok]
   rintro e w1 ⟨rfl,hb1⟩
   have hx:=hx.bl hb1
   have hx':=hx'.bl hb1
   have hr:=hr.bl hb1
   have hbW:=hbW.next hb1
   clear hb1
   obtain⟨i0,i1,i2⟩:=bx3 hx
   obtain⟨j0,j1,j2⟩:=bx3 hx'
   go_wp2_with fail
   refine(sRatOk_any _ (k.bl hbW)).mono ?_
   rw[hok']
   rintro e w2 ⟨rfl,hb2⟩
   have hx:=hx.bl hb2
   have hx':=hx'.bl hb2
   have hr:=hr.bl hb2
   have hbW:=hbW.next hb2
   clear hb2
   obtain⟨i0,i1,i2⟩:=bx3 hx
   obtain⟨j0,j1,j2⟩:=bx3 hx'
   go_wp2_with fail
   refine(l04Add_any _ (RdR.bl hI hbW) (RdR.bl hI' hbW) (by omega) (by omega) (by omega) (by omega) hL.2.2 hL'.2.2).mono ?_
   rintro e w3 ⟨s1,A1,n1,c1,B1,m1,d1,rfl,hR,hb3⟩
   have hR:=hR.mono (show w.heap.size+1+1+1≤w2.heap.size from hr.lt)
   rw[←hval.out]at hR
   have hx:=hx.bl hb3
   have hx':=hx'.bl hb3
   have hr:=hr.bl hb3
   have hbW:=hbW.next hb3
   clear hb3
   obtain⟨i0,i1,i2⟩:=bx3 hx
   obtain⟨j0,j1,j2⟩:=bx3 hx'
   obtain⟨v0,x0⟩:=hr.val_ (i:=0) (by omega)
   obtain⟨v1,x1⟩:=hr.val_ (i:=1) (by omega)
   obtain⟨v2,x2⟩:=hr.val_ (i:=2) (by omega)
   have hg:=hr.lt
   obtain⟨cs4,hB4,hc4⟩:=hr
   have hf0:=hB4.frozen 0
   have hf1:=hB4.frozen 1
   have hf2:=hB4.frozen 2
   go_wp2_with fail
   exact bodyPost_ret (v:=.agg #[.bool s1,.slice A1 n1 c1,.slice B1 m1 d1]) (by simp[results,Tryz.results145,go_sem,x0,x1,x2]) rfl ⟨_,_,_,_,_,_,_,rfl,(((hR.far (by simp) _).far (by simp) _).far (by simp) _).mono (by omega),slc⟩
  ·have hok':=okR_no ho'
   have hval:=Lib.hid (show addR r r'=zR by unfold addR;rw[if_neg (fun hk=>ho' hk.2)])
   have ho':=Lib.hid ho';rename_i h_;clear h_
   clear ho
   go_enter Tryz.func145,Tryz.ntmps145
   go_wp2_with fail
   refine calls_gen (fun W=>Bl w W∧Blk W (w.heap.size) 54 #[.bool s,.slice A n c,.slice B m d]∧Blk W (w.heap.size+1) 54 #[.bool s',.slice A' n' c',.slice B' m' d']∧Wk 3 54 (w.heap.size+1+1) W) ⟨slc,bts,bts,bts⟩ ?_
   rintro W ⟨hbW,hx,hx',hr⟩
   refine(sRatOk_any _ (h.bl hbW)).mono ?_
   rw[hok]
   rintro e w1 ⟨rfl,hb1⟩
   have hx:=hx.bl hb1
   have hx':=hx'.bl hb1
   have hr:=hr.bl hb1
   have hbW:=hbW.next hb1
   clear hb1
   obtain⟨i0,i1,i2⟩:=bx3 hx
   obtain⟨j0,j1,j2⟩:=bx3 hx'
   go_wp2_with fail
   refine(sRatOk_any _ (k.bl hbW)).mono ?_
   rw[hok']
   rintro e w2 ⟨rfl,hb2⟩
   have hx:=hx.bl hb2
   have hx':=hx'.bl hb2
   have hr:=hr.bl hb2
   have hbW:=hbW.next hb2
   clear hb2
   obtain⟨i0,i1,i2⟩:=bx3 hx
   obtain⟨j0,j1,j2⟩:=bx3 hx'
   obtain⟨v0,x0⟩:=hr.val_ (i:=0) (by omega)
   obtain⟨v1,x1⟩:=hr.val_ (i:=1) (by omega)
   obtain⟨v2,x2⟩:=hr.val_ (i:=2) (by omega)
   have hg:=hr.lt
   obtain⟨cs4,hB4,hc4⟩:=hr
   have hf0:=hB4.frozen 0
   have hf1:=hB4.frozen 1
   have hf2:=hB4.frozen 2
   go_wp2_with fail
   exact bodyPost_ret (v:=.agg #[.bool false,.slice none 0 0,.slice none 0 0]) (by simp[results,Tryz.results145,go_sem,x0,x1,x2]) rfl ⟨_,_,_,_,_,_,_,rfl,by rw[hval.out];exact OwR.zero _ _ _,slc⟩
 ·have hok:=okR_no ho
  have hval:=Lib.hid (show addR r r'=zR by unfold addR;rw[if_neg (fun hk=>ho hk.1)])
  replace ho:=Lib.hid ho
  go_enter Tryz.func145,Tryz.ntmps145
  go_wp2_with fail
  refine calls_gen (fun W=>Bl w W∧Blk W (w.heap.size) 54 #[.bool s,.slice A n c,.slice B m d]∧Blk W (w.heap.size+1) 54 #[.bool s',.slice A' n' c',.slice B' m' d']∧Wk 3 54 (w.heap.size+1+1) W) ⟨slc,bts,bts,bts⟩ ?_
  rintro W ⟨hbW,hx,hx',hr⟩
  refine(sRatOk_any _ (h.bl hbW)).mono ?_
  rw[hok]
  rintro e w1 ⟨rfl,hb1⟩
  have hx:=hx.bl hb1
  have hx':=hx'.bl hb1
  have hr:=hr.bl hb1
  have hbW:=hbW.next hb1
  clear hb1
  obtain⟨i0,i1,i2⟩:=bx3 hx
  obtain⟨j0,j1,j2⟩:=bx3 hx'
  obtain⟨v0,x0⟩:=hr.val_ (i:=0) (by omega)
  obtain⟨v1,x1⟩:=hr.val_ (i:=1) (by omega)
  obtain⟨v2,x2⟩:=hr.val_ (i:=2) (by omega)
  have hg:=hr.lt
  obtain⟨cs4,hB4,hc4⟩:=hr
  have hf0:=hB4.frozen 0
  have hf1:=hB4.frozen 1
  have hf2:=hB4.frozen 2
  go_wp2_with fail
  exact bodyPost_ret (v:=.agg #[.bool false,.slice none 0 0,.slice none 0 0]) (by simp[results,Tryz.results145,go_sem,x0,x1,x2]) rfl ⟨_,_,_,_,_,_,_,rfl,by rw[hval.out];exact OwR.zero _ _ _,slc⟩
end
section
open Go.RowKit
theorem sRatFromInt_any (w:World) (x:Int) (h1 : -9223372036854775808<x) (h2:x≤9223372036854775807) :
  Calls Tryz.prog 78 #[.int .i64 x] w fun e w'=>∃s1 A1 n1 c1 B1 m1 d1,e=.returned (.agg #[.bool s1,.slice A1 n1 c1,.slice B1 m1 d1])∧OwR 3 w.heap.size w' s1 A1 n1 c1 B1 m1 d1 (ofFrac x 1)∧Bl w w':=by
 have hd:dig 1=[1]:=by rw[dig_pos (by omega),show 1 / Bs=0 from by rw[Bs_eq],dig_zero];rfl
 replace hd:=Lib.hid hd
 have hv:=Lib.hid (ofFrac_int (x:=x) (by omega) h2)
 go_enter Tryz.func78,Tryz.ntmps78
 go_wp2_with fail
 refine calls_gen (fun W=>Bl w W∧Wk 3 54 (w.heap.size) W) ⟨slc,bts⟩ ?_
 rintro W ⟨hbW,hr⟩
 refine(sBigIntOf_any _ x h1 h2).mono ?_
 rintro e w3 ⟨s3,A3,n3,c3,rfl,hO3,hb3⟩
 have hr3:=hr.bl hb3
 have hbW:=hbW.next hb3
 obtain⟨⟨x0,x1,x2⟩,hf0,hf1,hf2⟩:=hr3.out3
 have hg:=hr3.lt
 have hO3:=hO3.mono (show w.heap.size+1≤W.heap.size from hr.lt)
 have key:∀ V:World,V.heap.size=w3.heap.size→OwB 3 (w.heap.size+1) V s3 A3 n3 c3 x→OwR 3 (w.heap.size+1) (V.alloc (.cells #[.int .i64 1] 3)) s3 A3 n3 c3 (some ⟨w3.heap.size,0,none⟩) 1 1 (ofFrac x 1):=by
  intro V hV hO
  have hB:Ow 3 (V.alloc (.cells #[.int .i64 1] 3)) V.heap.size [1]:=heap_alloc_new _ _
  have hB:OwI 3 V.heap.size (V.alloc (.cells #[.int .i64 1] 3)) (some ⟨V.heap.size,0,none⟩) 1 1 (ints (dig 1)):=by
   rw[hd.out]
   exact hB.own (c:=1) (by decide) (Nat.le_refl _) (by decide)
  rw[hv.out,←hV]
  exact OwR.two' hO.2 hB ((Bl.refl V).alloc _) (by rw[hV];exact hg) hO.1
 go_wp2_with fail
 exact bodyPost_ret (v:=.agg #[.bool s3,.slice A3 n3 c3,.slice (some ⟨w3.heap.size,0,none⟩) 1 1]) (by simp[results,Tryz.results78,go_sem,x0,x1,x2,cell_al,hg]) rfl ⟨_,_,_,_,_,_,_,rfl,(key _ (by simp) (((hO3.far (by simp) _).far (by simp) _).far (by simp) _)).mono (by omega),slc⟩
end
section
open Go.RowKit
theorem sPointAt_any (w:World) (x y:Int) (hx1 : -1000000<x) (hx2:x≤1000000) (hy1 : -1000000<y) (hy2:y≤1000000) :
  Calls Tryz.prog 48 #[.int .i64 x,.int .i64 y] w fun en w'=>∃s1 A1 n1 c1 B1 m1 d1 t1 C1 i1 e1 D1 j1 f1,en=.returned (.agg #[.bool s1,.slice A1 n1 c1,.slice B1 m1 d1,.bool t1,.slice C1 i1 e1,.slice D1 j1 f1])∧OwP 3 w.heap.size w' s1 A1 n1 c1 B1 m1 d1 t1 C1 i1 e1 D1 j1 f1 ⟨ofFrac x 1,ofFrac y 1⟩∧Bl w w':=by
 go_enter Tryz.func48,Tryz.ntmps48
 go_wp2_with fail
 refine calls_gen (fun W=>Bl w W∧Wk 6 56 w.heap.size W) ⟨slc,bts⟩ ?_
 rintro W ⟨hbW,hr⟩
 refine(sRatFromInt_any _ x (by omega) (by omega)).mono ?_
 rintro e w2 ⟨s1,A1,n1,c1,B1,m1,d1,rfl,hR1,hb2⟩
 go_wp2_with fail
 refine(sRatFromInt_any _ y (by omega) (by omega)).mono ?_
 rintro e w3 ⟨t1,C1,i1,e1,D1,j1,f1,rfl,hR2,hb3⟩
 have hz:w.heap.size+1≤W.heap.size:=hr.lt
 have hz2:W.heap.size≤w2.heap.size:=Bl.size hb2
 have hr:=(hr.bl hb2).bl hb3
 have hbW:Bl w w3:=slc
 have hX:OwP 3 W.heap.size w3 s1 A1 n1 c1 B1 m1 d1 t1 C1 i1 e1 D1 j1 f1 ⟨ofFrac x 1,ofFrac y 1⟩:=OwP.two hR1 hR2 hb3 hz2
 have hX:=OwP.low hX hz
 obtain⟨v0,x0⟩:=hr.val_ (i:=0) (by omega)
 obtain⟨v1,x1⟩:=hr.val_ (i:=1) (by omega)
 obtain⟨v2,x2⟩:=hr.val_ (i:=2) (by omega)
 obtain⟨v3,x3⟩:=hr.val_ (i:=3) (by omega)
 obtain⟨v4,x4⟩:=hr.val_ (i:=4) (by omega)
 obtain⟨v5,x5⟩:=hr.val_ (i:=5) (by omega)
 have hg:=hr.lt
 obtain⟨cs4,hB4,hc4⟩:=hr
 have hf0:=hB4.frozen 0
 have hf1:=hB4.frozen 1
 have hf2:=hB4.frozen 2
 have hf3:=hB4.frozen 3
 have hf4:=hB4.frozen 4
 have hf5:=hB4.frozen 5
 go_wp2_with fail
 exact bodyPost_ret (v:=.agg #[.bool s1,.slice A1 n1 c1,.slice B1 m1 d1,.bool t1,.slice C1 i1 e1,.slice D1 j1 f1]) (by simp[results,Tryz.results48,go_sem,x0,x1,x2,x3,x4,x5]) rfl ⟨_,_,_,_,_,_,_,_,_,_,_,_,_,_,rfl,((((((hX.far (by simp) _).far (by simp) _).far (by simp) _).far (by simp) _).far (by simp) _).far (by simp) _).low (by omega),slc⟩
end
section
open Go.RowKit
def Sep (vt:Value) (bs:List Nat):Prop:=bs.Nodup∧∀g,vt.ownBlock=Option.some g→g∉bs
theorem appN_sep (vt:Value):AppN (Sep vt) :=
 ⟨⟨List.nodup_nil,fun g _=>by simp⟩,fun a b ha hb hd=>⟨List.nodup_append.2 ⟨ha.1,hb.1,hd⟩,fun g e hm=>by rcases List.mem_append.1 hm with h|h;exact ha.2 g e h;exact hb.2 g e h⟩⟩
theorem RowG.lo {α:Type} [Inhabited α] {N:List Nat→Prop}{TP:TypeId}{size lo hi:Nat}{El:World→Array Value→Nat→α→List Nat→Prop}{w:World}{v:Value}{l:List α}(h:RowG N TP size El lo hi w v l) {g:Nat}(hg:v.ownBlock=Option.some g):lo≤g∧g<hi:=by
 obtain⟨_,_,h1,h2,_⟩:=h
 exact⟨(World.ownsRow.lt h1 g hg).1,h2 g hg⟩
theorem RowG.up {α:Type} [Inhabited α] {N:List Nat→Prop}{TP:TypeId}{size lo hi hi':Nat}{El:World→Array Value→Nat→α→List Nat→Prop}{w:World}{v:Value}{l:List α}(h:RowG N TP size El lo hi w v l) (h1:hi≤hi') (h2:hi'≤w.heap.size):RowG N TP size El lo hi' w v l:=by
 obtain⟨cells,fs,r1,r2,r3,r4,r5,r6,r7⟩:=h
 exact⟨cells,fs,r1,fun g e=>Nat.lt_of_lt_of_le (r2 g e) h1,r3,r4,fun b hm=>⟨(r5 b hm).1,Nat.lt_of_lt_of_le (r5 b hm).2.1 h1,(r5 b hm).2.2⟩,r6,h2⟩
theorem RowG.keepX {α:Type} [Inhabited α] {N N':List Nat→Prop}{TP:TypeId}{size lo hi:Nat}{El:World→Array Value→Nat→α→List Nat→Prop}{w W:World}{v:Value}{l:List α}(hk:KeepE size El) (h:RowG N TP size El lo hi w v l) (hs:w.heap.size≤W.heap.size)
  (h1:∀g,v.ownBlock=Option.some g→W.heap[g]?=w.heap[g]?) (h2:∀bs:List Nat,N bs→(∀b∈bs,lo≤b∧b<hi)→(∀b∈bs,W.heap[b]?=w.heap[b]?)∧N' bs):RowG N' TP size El lo hi W v l:=by
 obtain⟨cells,fs,r1,r2,r3,r4,r5,r6,r7⟩:=h
 obtain⟨q1,q2⟩:=h2 fs.flatten r6 fun b hm=>⟨(r5 b hm).1,(r5 b hm).2.1⟩
 refine⟨cells,fs,⟨r1.1,?_⟩,r2,r3,fun i hi=>hk _ _ _ _ _ _ _ _ (r4 i hi) (fun _ _=>rfl) hs fun b hm=>q1 b (mem_flatten_pix hm),r5,q2,Nat.le_trans r7 hs⟩
 rcases r1.2 with h |⟨g,cap,cur,rfl,hg,hh,r⟩
 ·exact .inl h
 ·exact .inr ⟨g,cap,cur,rfl,hg,(h1 g rfl).trans hh,r⟩
theorem RowT.keep {lo hi:Nat}{w W:World}{v:Value}{l:List TriD}(h:RowT lo hi w v l) (hs:w.heap.size≤W.heap.size) (h1:∀g,v.ownBlock=Option.some g→W.heap[g]?=w.heap[g]?):RowT lo hi W v l:=by
 obtain⟨cells,fs,r1,r2,r3,r4,r5,r6,r7⟩:=h
 refine⟨cells,fs,⟨r1.1,?_⟩,r2,r3,fun i hi=>r4 i hi,r5,r6,Nat.le_trans r7 hs⟩
 rcases r1.2 with h |⟨g,cap,cur,rfl,hg,hh,r⟩
 ·exact .inl h
 ·exact .inr ⟨g,cap,cur,rfl,hg,(h1 g rfl).trans hh,r⟩
def MR (lo:Nat) (w:World) (vp vt:Value) (l:List PtD) (t:List TriD):Prop :=
 RowP (Sep vt) lo w.heap.size w vp l∧RowT lo w.heap.size w vt t∧∀g,vt.ownBlock=Option.some g→vp.ownBlock≠Option.some g
section
variable {lo:Nat}{w W w':World}{vp vt vp' vt':Value}{l l':List PtD}{t t':List TriD}
theorem MR.nil (w:World):MR lo w (.slice none 0 0) (.slice none 0 0) [] [] :=
 ⟨RowG.nil (appN_sep _) w (Nat.le_refl _),RowG.nil appN_any w (Nat.le_refl _),fun g e=>by cases e⟩
theorem MR.bl (h:MR lo w vp vt l t) (hb:Bl w W):MR lo W vp vt l t :=
 ⟨(RowG.bl (ptIn_keep 3) h.1 hb).up hb.size (Nat.le_refl _),(RowG.bl trIn_keep h.2.1 hb).up hb.size (Nat.le_refl _),h.2.2⟩
theorem MR.set (h:MR lo w vp vt l t) {q:Addr}(hq:q.block<lo) (u:Value):MR lo (w.setCell q u) vp vt l t:=by
 have hs:(w.setCell q u).heap.size=w.heap.size:=by simp
 refine⟨?_,?_,h.2.2⟩
 ·rw[hs]
  exact RowG.keep (ptIn_keep 3) h.1 (by omega) fun b h1 _=>Below.heap_setCell w q u b (by omega)
 ·rw[hs]
  exact RowG.keep trIn_keep h.2.1 (by omega) fun b h1 _=>Below.heap_setCell w q u b (by omega)
theorem MR.afterP (h:MR lo w vp vt l t) (h1:RowP (Sep vt) lo w'.heap.size w' vp' l') (ho:∀g,g<w.heap.size→vp.ownBlock≠Option.some g→w'.heap[g]?=w.heap[g]?∧vp'.ownBlock≠Option.some g) (hs:w.heap.size≤w'.heap.size):MR lo w' vp' vt l' t:=by
 exact⟨h1,(RowT.keep h.2.1 hs (fun g e=>(ho g (h.2.1.lo e).2 (h.2.2 g e)).1)).up hs (Nat.le_refl _),fun g e=>(ho g (h.2.1.lo e).2 (h.2.2 g e)).2⟩
theorem MR.out (h:MR lo w vp vt l t) (hl:0<l.length) (ht:0<t.length) (hl2:l.length≤1048576) (ht2:t.length≤1048576):∃A c B d,vp=.slice A l.length c∧vt=.slice B t.length d∧OwMZ lo w.heap.size w A l.length c B t.length d ⟨l,t⟩:=by
 obtain⟨h1,h2,h3⟩:=h
 obtain⟨cells,fs,r1,r2,r3,r4,r5,r6,r7⟩:=h1
 obtain⟨cells',fs',s1,s2,s3,s4,s5,s6,s7⟩:=h2
 rcases r1.2 with ⟨rfl,h0⟩ |⟨g,cap,cur,rfl,hg,hh,hn,hcap,hcs,htk⟩
 ·omega
 rcases s1.2 with ⟨rfl,h0⟩ |⟨g',cap',cur',rfl,hg',hh',hn',hcap',hcs',htk'⟩
 ·omega
 have hlen:l.length*6≤cur.size:=by rw[hcs];exact Nat.mul_le_mul_right _ hn
 have hlen':t.length*5≤cur'.size:=by rw[hcs'];exact Nat.mul_le_mul_right _ hn'
 have hgm:g∉fs.flatten:=fun hm=>(r5 g hm).2.2 rfl
 have hgm':g'∉fs.flatten:=r6.2 g' rfl
 have hne:g≠g':=fun e=>h3 g' rfl (by rw[e];rfl)
 refine⟨_,cap,_,cap',rfl,rfl,rfl,rfl,hn,hn',hl2,ht2,.inr ⟨g,g',cur,cur',fs,rfl,rfl,hh,hh',hlen,hlen',⟨r3,fun i hi=>?_⟩,fun i hi=>?_,List.nodup_cons.2 ⟨?_,List.nodup_cons.2 ⟨hgm',r6.1⟩⟩,fun b hb=>?_⟩⟩
 ·refine ptIn_keep _ _ _ _ _ _ _ _ _ (r4 i hi) (fun j hj=>?_) (Nat.le_refl _) fun _ _=>rfl
  rw[←htk]
  have:i*6+j<l.length*6:=by omega
  simp[this]
 ·have h5:=(s4 i hi).1
  have hc:∀ j,j < 5→cur'[i * 5+j]?=cells'.toArray[i * 5+j]?:=by
   intro j hj
   rw[←htk']
   have:i*5+j<t.length*5:=by omega
   simp[this]
  obtain⟨g0,g1,g2,g3,g4⟩:=h5
  exact⟨(hc 0 (by omega)).trans g0,(hc 1 (by omega)).trans g1,(hc 2 (by omega)).trans g2,(hc 3 (by omega)).trans g3,(hc 4 (by omega)).trans g4⟩
 ·intro hm
  rcases List.mem_cons.1 hm with e|hm
  ·exact hne e
  ·exact hgm hm
 ·rcases List.mem_cons.1 hb with rfl|hb
  ·exact⟨hg,r2 _ rfl⟩
  ·rcases List.mem_cons.1 hb with rfl|hb
   ·exact⟨hg',s2 _ rfl⟩
   ·exact⟨(r5 b hb).1,(r5 b hb).2.1⟩
theorem OwPN.sep {s:Bool}{A:Option Addr}{n c:Nat}{B:Option Addr}{m d:Nat}{t:Bool}{C:Option Addr}{i e:Nat}{D:Option Addr}{j f:Nat}{p:PtD}{b0:Nat}(h:OwP 3 b0 w s A n c B m d t C i e D j f p) (hv:∀g,vt.ownBlock=Option.some g→g<b0):OwPN (Sep vt) 3 b0 w s A n c B m d t C i e D j f p:=by
 obtain⟨b1,b2,h1,h2,hf⟩:=h
 exact⟨b1,b2,h1,h2,hf.2,hf.1,fun g e hm=>by have:=hv g e;have:=(hf.2 g hm).1;omega⟩
end
end
section
open Go.RowKit
def Prop3 (l:List PtD):Prop:=AllP l∧∃a b c,l=[a,b,c]∧0<sgnR (dblA a b c)
open Classical in
noncomputable def propB (l:List PtD):Bool:=decide (Prop3 l)
theorem propB_yes {l:List PtD}(h:Prop3 l):propB l=true:=by unfold propB;simp[h]
theorem propB_no {l:List PtD}(h:¬Prop3 l):propB l=false:=by unfold propB;simp[h]
end
end Go.Proofs.YtmkcacgmnnlddaaGreat
