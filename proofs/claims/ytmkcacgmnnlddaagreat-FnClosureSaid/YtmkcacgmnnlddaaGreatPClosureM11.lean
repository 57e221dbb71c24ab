import Derived.Test.YtmkcacgmnnlddaaGreatRows
import Derived.Test.YtmkcacgmnnlddaaGreatPClosureM10
import Derived.Test.YtmkcacgmnnlddaaGreatPClosureM07
import Derived.Test.YtmkcacgmnnlddaaGreatPClosureM02
namespace Go.Proofs.YtmkcacgmnnlddaaGreat
set_option maxRecDepth 100000
set_option maxHeartbeats 8000000
section
open Go.RowKit
theorem RatMul_bad (w:World) {s:Bool}{A:Option Addr}{n c:Nat}{B:Option Addr}{m d:Nat}{r:RatD}{s':Bool}{A':Option Addr}{n' c':Nat}{B':Option Addr}{m' d':Nat}{r':RatD}(h:RdR w s A n c B m d r) (k:RdR w s' A' n' c' B' m' d' r') (ho:¬(OkR r∧OkR r')) :
  Calls Tryz.prog 135 #[.agg #[.bool s,.slice A n c,.slice B m d],.agg #[.bool s',.slice A' n' c',.slice B' m' d']] w fun e w'=>∃s1 A1 n1 c1 B1 m1 d1,e=.returned (.agg #[.bool s1,.slice A1 n1 c1,.slice B1 m1 d1])∧OwR 3 w.heap.size w' s1 A1 n1 c1 B1 m1 d1 (mulR r r')∧Bl w w':=by
 have hall:=Lib.hid (fun hk=>ho (allOk_two.1 hk):¬AllOk [r,r'])
 have hval:=Lib.hid (show mulR r r'=zR by unfold mulR;rw[if_neg ho])
 replace ho:=Lib.hid ho
 go_enter Tryz.func135,Tryz.ntmps135
 go_wp2_with fail
 refine calls_gen (fun W=>Bl w W∧Blk W (w.heap.size) 54 #[.bool s,.slice A n c,.slice B m d]∧Blk W (w.heap.size+1) 54 #[.bool s',.slice A' n' c',.slice B' m' d']∧Wk 3 54 (w.heap.size+1+1) W∧Blk W (w.heap.size+1+1+1) 54 #[.bool s,.slice A n c,.slice B m d,.bool s',.slice A' n' c',.slice B' m' d']) ⟨slc,bts,bts,bts,Blk.new3 _ _ _ _ _ _⟩ ?_
 rintro W ⟨hbW,hx,hx',hr,hy⟩
 refine(areRats_no _ (RdRS.two hy (h.bl hbW) (k.bl hbW)) hall.out).mono ?_
 rintro e w1 ⟨rfl,hb1⟩
 clear hy
 have hx:=hx.bl hb1
 have hx':=hx'.bl hb1
 have hr:=hr.bl hb1
 have hbW:=hbW.next hb1
 clear hb1
 obtain⟨i0,i1,i2⟩:=bx3 hx
 obtain⟨j0,j1,j2⟩:=bx3 hx'
 obtain⟨v0,x0⟩:=hr.val_ (i:=0) (by omega)
 obtain⟨v1,x1⟩:=hr.val_ (i:=1) (by omega)
 obtain⟨v2,x2⟩:=hr.val_ (i:=2) (by omega)
 have hg:=hr.lt
 obtain⟨cs4,hB4,hc4⟩:=hr
 have hf0:=hB4.frozen 0
 have hf1:=hB4.frozen 1
 have hf2:=hB4.frozen 2
 go_wp2_with fail
 exact bodyPost_ret (v:=.agg #[.bool false,.slice none 0 0,.slice none 0 0]) (by simp[results,Tryz.results135,go_sem,x0,x1,x2]) rfl ⟨_,_,_,_,_,_,_,rfl,by rw[hval.out];exact OwR.zero _ _ _,slc⟩
theorem RatMul_small (w:World) {s:Bool}{A:Option Addr}{n c:Nat}{B:Option Addr}{m d:Nat}{x:Int}{D:Nat}{s':Bool}{A':Option Addr}{n' c':Nat}{B':Option Addr}{m' d':Nat}{x':Int}{D':Nat}(h:IsR w s A n c B m d x D) (k:IsR w s' A' n' c' B' m' d' x' D') (hall:Hid (AllOk [raw x D,raw x' D'])) (hn:n≤1) (hm:m=1) (hn':n'≤1) (hm':m'=1) :
  Calls Tryz.prog 135 #[.agg #[.bool s,.slice A n c,.slice B m d],.agg #[.bool s',.slice A' n' c',.slice B' m' d']] w fun e w'=>∃s1 A1 n1 c1 B1 m1 d1,e=.returned (.agg #[.bool s1,.slice A1 n1 c1,.slice B1 m1 d1])∧OwR 3 w.heap.size w' s1 A1 n1 c1 B1 m1 d1 (ofFrac (x*x') (D*D'))∧Bl w w':=by
 subst hm hm'
 have hx0:=small_le (N:=x.natAbs) (by rw[h.num.lenN];exact hn)
 have hx0':=small_le (N:=x'.natAbs) (by rw[k.num.lenN];exact hn')
 have hD:=(one_limb h.dn.lenN).2
 have hD':=(one_limb k.dn.lenN).2
 have l1 : -1000000000000000000≤x * x'∧x * x'≤1000000000000000000:=by
  rcases Int.le_total 0 x' with hp|hp
  ·exact mul_lim (by omega) (by omega) hp (by omega)
  ·have:=mul_lim (a:=x) (b:=-x') (by omega) (by omega) (by omega) (by omega)
   rw[Int.mul_neg]at this
   omega
 have l3:=mul_lim (a:=(D:Int)) (b:=(D':Int)) (by omega) (by omega) (by omega) (by omega)
 have hDD:0<D*D':=Nat.mul_pos hD.2 hD'.2
 generalize e1:x*x'=p1 at *
 have e3:(D:Int)*(D':Int)=((D*D':Nat):Int):=by rw[Int.natCast_mul]
 rw[e3]at l3
 generalize hP:D*D'=P at *
 replace hP:=Lib.hid hP
 clear hx0 hx0'
 go_enter Tryz.func135,Tryz.ntmps135
 go_wp2_with fail
 refine calls_gen (fun W=>Bl w W∧Blk W (w.heap.size) 54 #[.bool s,.slice A n c,.slice B 1 d]∧Blk W (w.heap.size+1) 54 #[.bool s',.slice A' n' c',.slice B' 1 d']∧Wk 3 54 (w.heap.size+1+1) W∧Blk W (w.heap.size+1+1+1) 54 #[.bool s,.slice A n c,.slice B 1 d,.bool s',.slice A' n' c',.slice B' 1 d']) ⟨slc,bts,bts,bts,Blk.new3 _ _ _ _ _ _⟩ ?_
 rintro W ⟨hbW,hx,hx',hr,hy⟩
 refine(areRats_yes _ (RdRS.two hy (h.bl hbW) (k.bl hbW)) hall.out).mono ?_
 rintro e w1 ⟨rfl,hb1⟩
 clear hy
 have hx:=hx.bl hb1
 have hx':=hx'.bl hb1
 have hr:=hr.bl hb1
 have hbW:=hbW.next hb1
 clear hb1
 obtain⟨i0,i1,i2⟩:=bx3 hx
 obtain⟨j0,j1,j2⟩:=bx3 hx'
 go_wp2_with fail
 refine(isSmall_yes _ hn rfl).mono ?_
 rintro e w3 ⟨rfl,hb3⟩
 have hx:=hx.bl hb3
 have hx':=hx'.bl hb3
 have hr:=hr.bl hb3
 have hbW:=hbW.next hb3
 clear hb3
 obtain⟨i0,i1,i2⟩:=bx3 hx
 obtain⟨j0,j1,j2⟩:=bx3 hx'
 go_wp2_with fail
 refine(isSmall_yes _ hn' rfl).mono ?_
 rintro e w4 ⟨rfl,hb4⟩
 have hx:=hx.bl hb4
 have hx':=hx'.bl hb4
 have hr:=hr.bl hb4
 have hbW:=hbW.next hb4
 clear hb4
 obtain⟨i0,i1,i2⟩:=bx3 hx
 obtain⟨j0,j1,j2⟩:=bx3 hx'
 go_wp2_with fail
 refine(small_any _ (h.bl hbW) hn).mono ?_
 rintro e w5 ⟨rfl,hb5⟩
 have hx:=hx.bl hb5
 have hx':=hx'.bl hb5
 have hr:=hr.bl hb5
 have hbW:=hbW.next hb5
 clear hb5
 obtain⟨i0,i1,i2⟩:=bx3 hx
 obtain⟨j0,j1,j2⟩:=bx3 hx'
 go_wp2_with fail
 refine(small_any _ (k.bl hbW) hn').mono ?_
 rintro e w6 ⟨rfl,hb6⟩
 have hx:=hx.bl hb6
 have hx':=hx'.bl hb6
 have hr:=hr.bl hb6
 have hbW:=hbW.next hb6
 clear hb6
 obtain⟨i0,i1,i2⟩:=bx3 hx
 obtain⟨j0,j1,j2⟩:=bx3 hx'
 go_wp2_with fail
 refine(ofInts_any _ p1 P (by omega) (by omega) hDD (by omega)).mono ?_
 rintro e w7 ⟨s1,A1,n1,c1,B1,m1,d1,rfl,hR,hb7⟩
 have hR:=hR.mono (show w.heap.size+1+1+1≤w6.heap.size from hr.lt)
 have hx:=hx.bl hb7
 have hx':=hx'.bl hb7
 have hr:=hr.bl hb7
 have hbW:=hbW.next hb7
 clear hb7
 obtain⟨i0,i1,i2⟩:=bx3 hx
 obtain⟨j0,j1,j2⟩:=bx3 hx'
 obtain⟨v0,x0⟩:=hr.val_ (i:=0) (by omega)
 obtain⟨v1,x1⟩:=hr.val_ (i:=1) (by omega)
 obtain⟨v2,x2⟩:=hr.val_ (i:=2) (by omega)
 have hg:=hr.lt
 obtain⟨cs4,hB4,hc4⟩:=hr
 have hf0:=hB4.frozen 0
 have hf1:=hB4.frozen 1
 have hf2:=hB4.frozen 2
 go_wp2_with fail
 exact bodyPost_ret (v:=.agg #[.bool s1,.slice A1 n1 c1,.slice B1 m1 d1]) (by simp[results,Tryz.results135,go_sem,x0,x1,x2]) rfl ⟨_,_,_,_,_,_,_,rfl,(((hR.far (by simp) _).far (by simp) _).far (by simp) _).mono (by omega),slc⟩
theorem RatMul_big_yes (w:World) {s:Bool}{A:Option Addr}{n c:Nat}{B:Option Addr}{m d:Nat}{x:Int}{D:Nat}{s':Bool}{A':Option Addr}{n' c':Nat}{B':Option Addr}{m' d':Nat}{x':Int}{D':Nat}(h:IsR w s A n c B m d x D) (k:IsR w s' A' n' c' B' m' d' x' D') (hall:Hid (AllOk [raw x D,raw x' D'])) (hn:n≤262143) (hm:m≤262143) (hn':n'≤262143) (hm':m'≤262143) (hD:0<D) (hD':0<D') (h1:n≤1∧m=1) (h2:¬(n'≤1∧m'=1)) :
  Calls Tryz.prog 135 #[.agg #[.bool s,.slice A n c,.slice B m d],.agg #[.bool s',.slice A' n' c',.slice B' m' d']] w fun e w'=>∃s1 A1 n1 c1 B1 m1 d1,e=.returned (.agg #[.bool s1,.slice A1 n1 c1,.slice B1 m1 d1])∧OwR 3 w.heap.size w' s1 A1 n1 c1 B1 m1 d1 (ofFrac (x*x') (D*D'))∧Bl w w':=by
 have q1:=h.num.lenN
 have q2:=h.dn.lenN
 have q3:=k.num.lenN
 have q4:=k.dn.lenN
 have hl3:(dig (x*x').natAbs).length≤1048576:=Nat.le_trans (imul_len (Nat.le_of_eq q1) (Nat.le_of_eq q3)) (by omega)
 have hlD:(dig (D*D')).length≤1048576:=Nat.le_trans (dig_mul_len (Nat.le_of_eq q2) (Nat.le_of_eq q4)) (by omega)
 have hDD:0<D*D':=Nat.mul_pos hD hD'
 clear q1 q2 q3 q4
 replace h1:=Lib.hid h1
 replace h2:=Lib.hid h2
 go_enter Tryz.func135,Tryz.ntmps135
 go_wp2_with fail
 refine calls_gen (fun W=>Bl w W∧Blk W (w.heap.size) 54 #[.bool s,.slice A n c,.slice B m d]∧Blk W (w.heap.size+1) 54 #[.bool s',.slice A' n' c',.slice B' m' d']∧Wk 3 54 (w.heap.size+1+1) W∧Blk W (w.heap.size+1+1+1) 54 #[.bool s,.slice A n c,.slice B m d,.bool s',.slice A' n' c',.slice B' m' d']) ⟨slc,bts,bts,bts,Blk.new3 _ _ _ _ _ _⟩ ?_
 rintro W ⟨hbW,hx,hx',hr,hy⟩
 refine(areRats_yes _ (RdRS.two hy (h.bl hbW) (k.bl hbW)) hall.out).mono ?_
 rintro e w1 ⟨rfl,hb1⟩
 clear hy
 have hx:=hx.bl hb1
 have hx':=hx'.bl hb1
 have hr:=hr.bl hb1
 have hbW:=hbW.next hb1
 clear hb1
 obtain⟨i0,i1,i2⟩:=bx3 hx
 obtain⟨j0,j1,j2⟩:=bx3 hx'
 go_wp2_with fail
 refine(isSmall_yes _ h1.out.1 h1.out.2).mono ?_
 rintro e w2 ⟨rfl,hb2⟩
 have hx:=hx.bl hb2
 have hx':=hx'.bl hb2
 have hr:=hr.bl hb2
 have hbW:=hbW.next hb2
 clear hb2
 obtain⟨i0,i1,i2⟩:=bx3 hx
 obtain⟨j0,j1,j2⟩:=bx3 hx'
 go_wp2_with fail
 refine(isSmall_no _ h2.out).mono ?_
 rintro e w3 ⟨rfl,hb3⟩
 have hx:=hx.bl hb3
 have hx':=hx'.bl hb3
 have hr:=hr.bl hb3
 have hbW:=hbW.next hb3
 clear hb3
 obtain⟨i0,i1,i2⟩:=bx3 hx
 obtain⟨j0,j1,j2⟩:=bx3 hx'
 go_wp2_with fail
 have hz3:w.heap.size+1+1<w3.heap.size:=hr.lt
 go_region_held3 (fun w'=>(w'.cell? ⟨w.heap.size,0,none⟩=some (.bool s)∧w'.cell? ⟨w.heap.size,1,none⟩=some (.slice A n c)∧w'.cell? ⟨w.heap.size,2,none⟩=some (.slice B m d))∧(w'.cell? ⟨w.heap.size+1,0,none⟩=some (.bool s')∧w'.cell? ⟨w.heap.size+1,1,none⟩=some (.slice A' n' c')∧w'.cell? ⟨w.heap.size+1,2,none⟩=some (.slice B' m' d'))∧(w'.cell? ⟨w.heap.size+1+1,0,none⟩=some (cellD w' (w.heap.size+1+1) 0)∧w'.cell? ⟨w.heap.size+1+1,1,none⟩=some (cellD w' (w.heap.size+1+1) 1)∧w'.cell? ⟨w.heap.size+1+1,2,none⟩=some (cellD w' (w.heap.size+1+1) 2))∧w'.frozen? ⟨w.heap.size+1+1,0,none⟩=false∧w'.frozen? ⟨w.heap.size+1+1,1,none⟩=false∧w'.frozen? ⟨w.heap.size+1+1,2,none⟩=false) (first|exact⟨bx3 (T:=54) bts,bx3 (T:=54) bts,Wk.out3 (T:=54) bts⟩) (first |(go_at_call 163;refine(bigMul_any _ (h.b.bl slc) (k.b.bl slc) (by omega) (by omega)).mono ?_;rintro e w4 ⟨s4,A4,n4,c4,rfl,hO,hb4⟩) |(go_at_call 168;refine(natMul_any _ (h.dn.bl slc) (k.dn.bl slc) (by omega) (by omega)).mono ?_;rintro e w5 ⟨A5,n5,c5,rfl,hO5,hb5⟩;(have hz4:w3.heap.size≤w4.heap.size:=(Bl.size hb4:w3.drew.heap.size≤_));(have hz5:w4.heap.size≤w5.heap.size:=Bl.size hb5);(have hR7:OwR 3 (w.heap.size+1+1+1) w5 s4 A4 n4 c4 A5 n5 c5 (raw (x*x') (D*D')):=(OwR.two' hO.2 hO5 hb5 hz4 hO.1).mono hz3);(have hl4:n4≤1048576:=by rw[←hO.len];exact hl3);(have hl5:n5≤1048576:=by rw[←hO5.rd.lenN];exact hlD);(have hz7:w.heap.size+1+1+1≤w5.heap.size:=by omega)) |(go_at_call 167;refine(reduced_any _ hR7 hz7 hl4 hl5 hDD).mono ?_;rintro e w8 ⟨s1,A1,n1,c1,B1,m1,d1,rfl,hR,hb8⟩))
 have hr:=(show Wk 3 54 (w.heap.size+1+1) w8 from bts)
 have hbW:Bl w w8:=slc
 obtain⟨v0,x0⟩:=hr.val_ (i:=0) (by omega)
 obtain⟨v1,x1⟩:=hr.val_ (i:=1) (by omega)
 obtain⟨v2,x2⟩:=hr.val_ (i:=2) (by omega)
 have hg:=hr.lt
 obtain⟨cs4,hB4,hc4⟩:=hr
 have hf0:=hB4.frozen 0
 have hf1:=hB4.frozen 1
 have hf2:=hB4.frozen 2
 go_wp2_with fail
 exact bodyPost_ret (v:=.agg #[.bool s1,.slice A1 n1 c1,.slice B1 m1 d1]) (by simp[results,Tryz.results135,go_sem,x0,x1,x2]) rfl ⟨_,_,_,_,_,_,_,rfl,(((hR.far (by simp) _).far (by simp) _).far (by simp) _).mono (by omega),slc⟩
theorem RatMul_big_no (w:World) {s:Bool}{A:Option Addr}{n c:Nat}{B:Option Addr}{m d:Nat}{x:Int}{D:Nat}{s':Bool}{A':Option Addr}{n' c':Nat}{B':Option Addr}{m' d':Nat}{x':Int}{D':Nat}(h:IsR w s A n c B m d x D) (k:IsR w s' A' n' c' B' m' d' x' D') (hall:Hid (AllOk [raw x D,raw x' D'])) (hn:n≤262143) (hm:m≤262143) (hn':n'≤262143) (hm':m'≤262143) (hD:0<D) (hD':0<D') (h1:¬(n≤1∧m=1)) :
  Calls Tryz.prog 135 #[.agg #[.bool s,.slice A n c,.slice B m d],.agg #[.bool s',.slice A' n' c',.slice B' m' d']] w fun e w'=>∃s1 A1 n1 c1 B1 m1 d1,e=.returned (.agg #[.bool s1,.slice A1 n1 c1,.slice B1 m1 d1])∧OwR 3 w.heap.size w' s1 A1 n1 c1 B1 m1 d1 (ofFrac (x*x') (D*D'))∧Bl w w':=by
 have q1:=h.num.lenN
 have q2:=h.dn.lenN
 have q3:=k.num.lenN
 have q4:=k.dn.lenN
 have hl3:(dig (x*x').natAbs).length≤1048576:=Nat.le_trans (imul_len (Nat.le_of_eq q1) (Nat.le_of_eq q3)) (by omega)
 have hlD:(dig (D*D')).length≤1048576:=Nat.le_trans (dig_mul_len (Nat.le_of_eq q2) (Nat.le_of_eq q4)) (by omega)
 have hDD:0<D*D':=Nat.mul_pos hD hD'
 clear q1 q2 q3 q4
 replace h1:=Lib.hid h1
 go_enter Tryz.func135,Tryz.ntmps135
 go_wp2_with fail
 refine calls_gen (fun W=>Bl w W∧Blk W (w.heap.size) 54 #[.bool s,.slice A n c,.slice B m d]∧Blk W (w.heap.size+1) 54 #[.bool s',.slice A' n' c',.slice B' m' d']∧Wk 3 54 (w.heap.size+1+1) W∧Blk W (w.heap.size+1+1+1) 54 #[.bool s,.slice A n c,.slice B m d,.bool s',.slice A' n' c',.slice B' m' d']) ⟨slc,bts,bts,bts,Blk.new3 _ _ _ _ _ _⟩ ?_
 rintro W ⟨hbW,hx,hx',hr,hy⟩
 refine(areRats_yes _ (RdRS.two hy (h.bl hbW) (k.bl hbW)) hall.out).mono ?_
 rintro e w1 ⟨rfl,hb1⟩
 clear hy
 have hx:=hx.bl hb1
 have hx':=hx'.bl hb1
 have hr:=hr.bl hb1
 have hbW:=hbW.next hb1
 clear hb1
 obtain⟨i0,i1,i2⟩:=bx3 hx
 obtain⟨j0,j1,j2⟩:=bx3 hx'
 go_wp2_with fail
 refine(isSmall_no _ h1.out).mono ?_
 rintro e w2 ⟨rfl,hb2⟩
 have hx:=hx.bl hb2
 have hx':=hx'.bl hb2
 have hr:=hr.bl hb2
 have hbW:=hbW.next hb2
 clear hb2
 obtain⟨i0,i1,i2⟩:=bx3 hx
 obtain⟨j0,j1,j2⟩:=bx3 hx'
 go_wp2_with fail
 have hz3:w.heap.size+1+1<w2.heap.size:=hr.lt
 go_region_held3 (fun w'=>(w'.cell? ⟨w.heap.size,0,none⟩=some (.bool s)∧w'.cell? ⟨w.heap.size,1,none⟩=some (.slice A n c)∧w'.cell? ⟨w.heap.size,2,none⟩=some (.slice B m d))∧(w'.cell? ⟨w.heap.size+1,0,none⟩=some (.bool s')∧w'.cell? ⟨w.heap.size+1,1,none⟩=some (.slice A' n' c')∧w'.cell? ⟨w.heap.size+1,2,none⟩=some (.slice B' m' d'))∧(w'.cell? ⟨w.heap.size+1+1,0,none⟩=some (cellD w' (w.heap.size+1+1) 0)∧w'.cell? ⟨w.heap.size+1+1,1,none⟩=some (cellD w' (w.heap.size+1+1) 1)∧w'.cell? ⟨w.heap.size+1+1,2,none⟩=some (cellD w' (w.heap.size+1+1) 2))∧w'.frozen? ⟨w.heap.size+1+1,0,none⟩=false∧w'.frozen? ⟨w.heap.size+1+1,1,none⟩=false∧w'.frozen? ⟨w.heap.size+1+1,2,none⟩=false) (first|exact⟨bx3 (T:=54) bts,bx3 (T:=54) bts,Wk.out3 (T:=54) bts⟩) (first |(go_at_call 163;refine(bigMul_any _ (h.b.bl slc) (k.b.bl slc) (by omega) (by omega)).mono ?_;rintro e w4 ⟨s4,A4,n4,c4,rfl,hO,hb4⟩) |(go_at_call 168;refine(natMul_any _ (h.dn.bl slc) (k.dn.bl slc) (by omega) (by omega)).mono ?_;rintro e w5 ⟨A5,n5,c5,rfl,hO5,hb5⟩;(have hz4:w2.heap.size≤w4.heap.size:=(Bl.size hb4:w2.drew.heap.size≤_));(have hz5:w4.heap.size≤w5.heap.size:=Bl.size hb5);(have hR7:OwR 3 (w.heap.size+1+1+1) w5 s4 A4 n4 c4 A5 n5 c5 (raw (x*x') (D*D')):=(OwR.two' hO.2 hO5 hb5 hz4 hO.1).mono hz3);(have hl4:n4≤1048576:=by rw[←hO.len];exact hl3);(have hl5:n5≤1048576:=by rw[←hO5.rd.lenN];exact hlD);(have hz7:w.heap.size+1+1+1≤w5.heap.size:=by omega)) |(go_at_call 167;refine(reduced_any _ hR7 hz7 hl4 hl5 hDD).mono ?_;rintro e w8 ⟨s1,A1,n1,c1,B1,m1,d1,rfl,hR,hb8⟩))
 have hr:=(show Wk 3 54 (w.heap.size+1+1) w8 from bts)
 have hbW:Bl w w8:=slc
 obtain⟨v0,x0⟩:=hr.val_ (i:=0) (by omega)
 obtain⟨v1,x1⟩:=hr.val_ (i:=1) (by omega)
 obtain⟨v2,x2⟩:=hr.val_ (i:=2) (by omega)
 have hg:=hr.lt
 obtain⟨cs4,hB4,hc4⟩:=hr
 have hf0:=hB4.frozen 0
 have hf1:=hB4.frozen 1
 have hf2:=hB4.frozen 2
 go_wp2_with fail
 exact bodyPost_ret (v:=.agg #[.bool s1,.slice A1 n1 c1,.slice B1 m1 d1]) (by simp[results,Tryz.results135,go_sem,x0,x1,x2]) rfl ⟨_,_,_,_,_,_,_,rfl,(((hR.far (by simp) _).far (by simp) _).far (by simp) _).mono (by omega),slc⟩
theorem RatMul_any (w:World) {s:Bool}{A:Option Addr}{n c:Nat}{B:Option Addr}{m d:Nat}{r:RatD}{s':Bool}{A':Option Addr}{n' c':Nat}{B':Option Addr}{m' d':Nat}{r':RatD}(h:RdR w s A n c B m d r) (k:RdR w s' A' n' c' B' m' d' r') :
  Calls Tryz.prog 135 #[.agg #[.bool s,.slice A n c,.slice B m d],.agg #[.bool s',.slice A' n' c',.slice B' m' d']] w fun e w'=>∃s1 A1 n1 c1 B1 m1 d1,e=.returned (.agg #[.bool s1,.slice A1 n1 c1,.slice B1 m1 d1])∧OwR 3 w.heap.size w' s1 A1 n1 c1 B1 m1 d1 (mulR r r')∧Bl w w':=by
 by_cases ho:OkR r∧OkR r'
 ·have hall:=Lib.hid (allOk_two.2 ho)
  have e1:=ho.1.get.1
  have e2:=ho.2.get.1
  have hI:=IsR.out h ho.1
  have hI':=IsR.out k ho.2
  have hL:=OkR.lens h ho.1
  have hL':=OkR.lens k ho.2
  rw[show mulR r r'=ofFrac (rn r*rn r') (rd r*rd r')by unfold mulR;rw[if_pos ho]]
  rw[e1,e2]at hall
  by_cases h1:n≤1∧m=1
  ·by_cases h2:n'≤1∧m'=1
   ·exact RatMul_small w hI hI' hall h1.1 h1.2 h2.1 h2.2
   ·exact RatMul_big_yes w hI hI' hall (by omega) (by omega) (by omega) (by omega) hL.2.2 hL'.2.2 h1 h2
  ·exact RatMul_big_no w hI hI' hall (by omega) (by omega) (by omega) (by omega) hL.2.2 hL'.2.2 h1
 ·exact RatMul_bad w h k ho
end
section
open Go.RowKit
theorem box6 {w W:World}{a b c a' b' c':Value}{T:TypeId}(h:Bl (w.alloc (.cells #[a,b,c,a',b',c'] T)) W) :
  W.cell? ⟨w.heap.size,0,none⟩=some a∧W.cell? ⟨w.heap.size,1,none⟩=some b∧W.cell? ⟨w.heap.size,2,none⟩=some c∧W.cell? ⟨w.heap.size,3,none⟩=some a'∧W.cell? ⟨w.heap.size,4,none⟩=some b'∧W.cell? ⟨w.heap.size,5,none⟩=some c':=by
 refine⟨?_,?_,?_,?_,?_,?_⟩ <;> (rw[h.cellOf (by simp)];simp[go_sem])
def Wr6 (T:TypeId) (g:Nat) (W:World):Prop:=∃cs,Blk W g T cs∧cs.size=6
theorem Wr6.bl {T:TypeId}{g:Nat}{w W:World}(h:Wr6 T g w) (hb:Bl w W):Wr6 T g W:=by
 obtain⟨cs,h1,h2⟩:=h
 exact⟨cs,h1.bl hb,h2⟩
theorem Wr6.set {T:TypeId}{g:Nat}{w:World}(h:Wr6 T g w) (i:Nat) (u:Value):Wr6 T g (w.setCell ⟨g,i,none⟩ u):=by
 obtain⟨cs,h1,h2⟩:=h
 exact⟨_,h1.set_ i u,by simp[h2]⟩
theorem Wr6.new2 (T:TypeId) (w:World) (o:Obj) (a b c a' b' c':Value):Wr6 T (w.heap.size+1) ((w.alloc o).alloc (.cells #[a,b,c,a',b',c'] T)):=by
 have:Wr6 T (w.alloc o).heap.size ((w.alloc o).alloc (.cells #[a,b,c,a',b',c'] T)):=⟨_,Blk.new _ _ _,rfl⟩
 rwa [World.size_alloc]at this
theorem Wr6.drew {T:TypeId}{g:Nat}{w:World}(h:Wr6 T g w):Wr6 T g w.drew:=h
theorem Wr6.out {T:TypeId}{g:Nat}{w:World}(h:Wr6 T g w):(w.cell? ⟨g,0,none⟩=some (cellD w g 0)∧w.cell? ⟨g,1,none⟩=some (cellD w g 1)∧w.cell? ⟨g,2,none⟩=some (cellD w g 2)∧w.cell? ⟨g,3,none⟩=some (cellD w g 3)∧w.cell? ⟨g,4,none⟩=some (cellD w g 4)∧w.cell? ⟨g,5,none⟩=some (cellD w g 5)) ∧
  w.frozen? ⟨g,0,none⟩=false∧w.frozen? ⟨g,1,none⟩=false∧w.frozen? ⟨g,2,none⟩=false∧w.frozen? ⟨g,3,none⟩=false∧w.frozen? ⟨g,4,none⟩=false∧w.frozen? ⟨g,5,none⟩=false:=by
 obtain⟨cs,h1,h2⟩:=h
 exact⟨⟨cellD_eq (h1.some (by omega)),cellD_eq (h1.some (by omega)),cellD_eq (h1.some (by omega)),cellD_eq (h1.some (by omega)),cellD_eq (h1.some (by omega)),cellD_eq (h1.some (by omega))⟩,h1.frozen 0,h1.frozen 1,h1.frozen 2,h1.frozen 3,h1.frozen 4,h1.frozen 5⟩
def OwP (T:TypeId) (b0:Nat) (w:World) (s:Bool) (A:Option Addr) (n c:Nat) (B:Option Addr) (m d:Nat) (t:Bool) (C:Option Addr) (i e:Nat) (D:Option Addr) (j f:Nat) (p:PtD):Prop :=
 ∃b1 b2,FtR T w s A n c B m d p.x b1∧FtR T w t C i e D j f p.y b2∧Fp b0 w.heap.size (b1++b2)
section
variable {T:TypeId}{b0 b1:Nat}{w w1 W:World}{s:Bool}{A:Option Addr}{n c:Nat}{B:Option Addr}{m d:Nat}{t:Bool}{C:Option Addr}{i e:Nat}{D:Option Addr}{j f:Nat}{p:PtD}
theorem OwP.two (h:OwR T b0 w1 s A n c B m d p.x) (k:OwR T w1.heap.size w t C i e D j f p.y) (hb:Bl w1 w) (h0:b0≤w1.heap.size):OwP T b0 w s A n c B m d t C i e D j f p:=by
 obtain⟨c1,h1,f1⟩:=h
 obtain⟨c2,h2,f2⟩:=k
 exact⟨c1,c2,h1.bl hb,h2,f1.app f2 (Nat.le_refl _) h0 hb.size⟩
theorem OwP.far (h:OwP T b0 w s A n c B m d t C i e D j f p) {q:Addr}(hp:q.block<b0) (u:Value):OwP T b0 (w.setCell q u) s A n c B m d t C i e D j f p:=by
 obtain⟨c1,c2,h1,h2,hf⟩:=h
 exact⟨c1,c2,h1.keep (by simp) (fun b hb=>Below.heap_setCell w q u b (by have:=(hf.2 b (by simp[hb])).1;omega)),h2.keep (by simp) (fun b hb=>Below.heap_setCell w q u b (by have:=(hf.2 b (by simp[hb])).1;omega)),hf.mono (Nat.le_refl _) (by simp)⟩
theorem OwP.low (h:OwP T b1 w s A n c B m d t C i e D j f p) (hb:b0≤b1):OwP T b0 w s A n c B m d t C i e D j f p:=by
 obtain⟨c1,c2,h1,h2,hf⟩:=h
 exact⟨c1,c2,h1,h2,hf.mono hb (Nat.le_refl _)⟩
end
theorem copyPoint_any (w:World) {s:Bool}{A:Option Addr}{n c:Nat}{B:Option Addr}{m d:Nat}{t:Bool}{C:Option Addr}{i e:Nat}{D:Option Addr}{j f:Nat}{p:PtD}(h:RdR w s A n c B m d p.x) (k:RdR w t C i e D j f p.y) (hn:n≤1048576) (hm:m≤1048576) (hi:i≤1048576) (hj:j≤1048576) :
  Calls Tryz.prog 56 #[.agg #[.bool s,.slice A n c,.slice B m d,.bool t,.slice C i e,.slice D j f]] w fun en w'=>∃A' n' c' B' m' d' C' i' e' D' j' f',en=.returned (.agg #[.bool s,.slice A' n' c',.slice B' m' d',.bool t,.slice C' i' e',.slice D' j' f'])∧OwP 3 w.heap.size w' s A' n' c' B' m' d' t C' i' e' D' j' f' p∧Bl w w':=by
 go_enter Tryz.func56,Tryz.ntmps56
 go_wp2_with fail
 go_region_held3 (fun w'=>(w'.cell? ⟨w.heap.size,0,none⟩=some (.bool s)∧w'.cell? ⟨w.heap.size,1,none⟩=some (.slice A n c)∧w'.cell? ⟨w.heap.size,2,none⟩=some (.slice B m d)∧w'.cell? ⟨w.heap.size,3,none⟩=some (.bool t)∧w'.cell? ⟨w.heap.size,4,none⟩=some (.slice C i e)∧w'.cell? ⟨w.heap.size,5,none⟩=some (.slice D j f))∧(w'.cell? ⟨w.heap.size+1,0,none⟩=some (cellD w' (w.heap.size+1) 0)∧w'.cell? ⟨w.heap.size+1,1,none⟩=some (cellD w' (w.heap.size+1) 1)∧w'.cell? ⟨w.heap.size+1,2,none⟩=some (cellD w' (w.heap.size+1) 2)∧w'.cell? ⟨w.heap.size+1,3,none⟩=some (cellD w' (w.heap.size+1) 3)∧w'.cell? ⟨w.heap.size+1,4,none⟩=some (cellD w' (w.heap.size+1) 4)∧w'.cell? ⟨w.heap.size+1,5,none⟩=some (cellD w' (w.heap.size+1) 5))∧w'.frozen? ⟨w.heap.size+1,0,none⟩=false∧w'.frozen? ⟨w.heap.size+1,1,none⟩=false∧w'.frozen? ⟨w.heap.size+1,2,none⟩=false∧w'.frozen? ⟨w.heap.size+1,3,none⟩=false∧w'.frozen? ⟨w.heap.size+1,4,none⟩=false∧w'.frozen? ⟨w.heap.size+1,5,none⟩=false) (first|exact⟨box6 slc,Wr6.out (T:=56) (by repeat (first|with_reducible exact Wr6.new2 _ _ _ _ _ _ _ _ _ |(with_reducible refine Wr6.drew ?_) |(with_reducible refine Wr6.set ?_ _ _) |(with_reducible refine Wr6.bl ?_ ‹Bl _ _›)))⟩) (first |(go_at_call 91;with_reducible refine(copyRat_any _ (h.bl slc) hn hm).mono ?_;rintro en w3 ⟨A1,k1,c1,A2,k2,c2,rfl,hO1,hb3⟩) |(go_at_call 91;with_reducible refine(copyRat_any _ (k.bl slc) hi hj).mono ?_;rintro en w4 ⟨A3,k3,c3,A4,k4,c4,rfl,hO2,hb4⟩))
 have hb1:Bl w w4:=slc
 have hz3:=hb3.size
 have hz4:=hb4.size
 have hsz:w.heap.size+2≤((w.alloc (.cells #[.bool s,.slice A n c,.slice B m d,.bool t,.slice C i e,.slice D j f] 56)).alloc (.cells #[.bool false,.slice none 0 0,.slice none 0 0,.bool false,.slice none 0 0,.slice none 0 0] 56)).heap.size:=by simp
 have hR:OwP 3 (w.heap.size+2) w4 s A1 k1 c1 A2 k2 c2 t A3 k3 c3 A4 k4 c4 p:=(OwP.two hO1 hO2 hb4 hz3).low hsz
 have hg:w.heap.size+1<w4.heap.size:=Nat.lt_of_lt_of_le (show w.heap.size+1<w.heap.size+2 by omega) (Nat.le_trans hsz (Nat.le_trans hz3 hz4))
 obtain⟨cs3,hB3,hcs3⟩:Wr6 56 (w.heap.size+1) w4:=((Wr6.new2 56 w _ _ _ _ _ _ _).drew.bl hb3).bl hb4
 obtain⟨v0,x0⟩:=hB3.some (i:=0) (by omega)
 obtain⟨v1,x1⟩:=hB3.some (i:=1) (by omega)
 obtain⟨v2,x2⟩:=hB3.some (i:=2) (by omega)
 obtain⟨v3,x3⟩:=hB3.some (i:=3) (by omega)
 obtain⟨v4,x4⟩:=hB3.some (i:=4) (by omega)
 obtain⟨v5,x5⟩:=hB3.some (i:=5) (by omega)
 go_wp2_with fail
 refine bodyPost_ret (v:=.agg #[.bool s,.slice A1 k1 c1,.slice A2 k2 c2,.bool t,.slice A3 k3 c3,.slice A4 k4 c4]) (by simp[results,Tryz.results56,go_sem,x0,x1,x2,x3,x4,x5]) rfl ⟨_,_,_,_,_,_,_,_,_,_,_,_,rfl,((((((hR.far (by simp) _).far (by simp) _).far (by simp) _).far (by simp) _).far (by simp) _).far (by simp) _).low (by omega),slc⟩
end
section
open Go.RowKit
def zP:PtD:=⟨zR,zR⟩
def ifP (p:PtD):PtD:=if p.x.den.length=0∨p.y.den.length=0 then zP else p
noncomputable def subP (p q:PtD):PtD:=ifP ⟨subR p.x q.x,subR p.y q.y⟩
noncomputable def crossP (p q:PtD):RatD:=subR (mulR p.x q.y) (mulR p.y q.x)
noncomputable def dblA (a b c:PtD):RatD:=crossP (subP b a) (subP c a)
def OkP (p:PtD):Prop:=OkR p.x∧OkR p.y
theorem RdR.zero (w:World):RdR w false none 0 0 none 0 0 zR:=⟨rfl,RdI.nil _ _ _,RdI.nil _ _ _⟩
theorem isRat_yes (w:World) {s:Bool}{A:Option Addr}{n c:Nat}{B:Option Addr}{m d:Nat}(hm:0<m) :
  Calls Tryz.prog 165 #[.agg #[.bool s,.slice A n c,.slice B m d]] w fun e w'=>e=.returned (.bool true)∧Bl w w':=by
 go_enter Tryz.func165,Tryz.ntmps165
 go_wp2_with fail
 go_ret
 exact⟨rfl,slc⟩
theorem isRat_no (w:World) {s:Bool}{A:Option Addr}{n c:Nat}{B:Option Addr}{m d:Nat}(hm:m=0) :
  Calls Tryz.prog 165 #[.agg #[.bool s,.slice A n c,.slice B m d]] w fun e w'=>e=.returned (.bool false)∧Bl w w':=by
 subst hm
 go_enter Tryz.func165,Tryz.ntmps165
 go_wp2_with fail
 go_ret
 exact⟨rfl,slc⟩
theorem ifPoint_yes (w:World) {s:Bool}{A:Option Addr}{n c:Nat}{B:Option Addr}{m d:Nat}{t:Bool}{C:Option Addr}{i e:Nat}{D:Option Addr}{j f:Nat}(hm:0<m) (hj:0<j) :
  Calls Tryz.prog 134 #[.agg #[.bool s,.slice A n c,.slice B m d,.bool t,.slice C i e,.slice D j f]] w fun en w'=>en=.returned (.agg #[.bool s,.slice A n c,.slice B m d,.bool t,.slice C i e,.slice D j f])∧Bl w w':=by
 go_enter Tryz.func134,Tryz.ntmps134
 go_wp2_with fail
 refine calls_gen (fun W=>Bl w W∧Blk W (w.heap.size) 56 #[.bool s,.slice A n c,.slice B m d,.bool t,.slice C i e,.slice D j f]∧Wk 6 56 (w.heap.size+1) W) ⟨slc,bts,bts⟩ ?_
 rintro W ⟨hbW,hx,hr⟩
 refine(isRat_yes _ hm).mono ?_
 rintro e1 w1 ⟨rfl,hb1⟩
 have hx:=hx.bl hb1
 have hr:=hr.bl hb1
 have hbW:=hbW.next hb1
 clear hb1
 obtain⟨i0,i1,i2,i3,i4,i5⟩:=bx6 hx
 go_wp2_with fail
 refine(isRat_yes _ hj).mono ?_
 rintro e2 w2 ⟨rfl,hb2⟩
 have hx:=hx.bl hb2
 have hr:=hr.bl hb2
 have hbW:=hbW.next hb2
 clear hb2
 obtain⟨i0,i1,i2,i3,i4,i5⟩:=bx6 hx
 obtain⟨v0,x0⟩:=hr.val_ (i:=0) (by omega)
 obtain⟨v1,x1⟩:=hr.val_ (i:=1) (by omega)
 obtain⟨v2,x2⟩:=hr.val_ (i:=2) (by omega)
 obtain⟨v3,x3⟩:=hr.val_ (i:=3) (by omega)
 obtain⟨v4,x4⟩:=hr.val_ (i:=4) (by omega)
 obtain⟨v5,x5⟩:=hr.val_ (i:=5) (by omega)
 have hg:=hr.lt
 obtain⟨cs4,hB4,hc4⟩:=hr
 have hf0:=hB4.frozen 0
 have hf1:=hB4.frozen 1
 have hf2:=hB4.frozen 2
 have hf3:=hB4.frozen 3
 have hf4:=hB4.frozen 4
 have hf5:=hB4.frozen 5
 go_wp2_with fail
 exact bodyPost_ret (v:=.agg #[.bool s,.slice A n c,.slice B m d,.bool t,.slice C i e,.slice D j f]) (by simp[results,Tryz.results134,go_sem,x0,x1,x2,x3,x4,x5]) rfl ⟨rfl,slc⟩
theorem ifPoint_no (w:World) {s:Bool}{A:Option Addr}{n c:Nat}{B:Option Addr}{m d:Nat}{t:Bool}{C:Option Addr}{i e:Nat}{D:Option Addr}{j f:Nat}(hmj:m=0∨j=0) :
  Calls Tryz.prog 134 #[.agg #[.bool s,.slice A n c,.slice B m d,.bool t,.slice C i e,.slice D j f]] w fun en w'=>en=.returned (.agg #[.bool false,.slice none 0 0,.slice none 0 0,.bool false,.slice none 0 0,.slice none 0 0])∧Bl w w':=by
 rcases Nat.eq_zero_or_pos m with h0|h0
 ·clear hmj
  replace h0:=Lib.hid h0
  go_enter Tryz.func134,Tryz.ntmps134
  go_wp2_with fail
  refine calls_gen (fun W=>Bl w W∧Blk W (w.heap.size) 56 #[.bool s,.slice A n c,.slice B m d,.bool t,.slice C i e,.slice D j f]∧Wk 6 56 (w.heap.size+1) W) ⟨slc,bts,bts⟩ ?_
  rintro W ⟨hbW,hx,hr⟩
  refine(isRat_no _ h0.out).mono ?_
  rintro e1 w1 ⟨rfl,hb1⟩
  have hx:=hx.bl hb1
  have hr:=hr.bl hb1
  have hbW:=hbW.next hb1
  clear hb1
  obtain⟨i0,i1,i2,i3,i4,i5⟩:=bx6 hx
  obtain⟨v0,x0⟩:=hr.val_ (i:=0) (by omega)
  obtain⟨v1,x1⟩:=hr.val_ (i:=1) (by omega)
  obtain⟨v2,x2⟩:=hr.val_ (i:=2) (by omega)
  obtain⟨v3,x3⟩:=hr.val_ (i:=3) (by omega)
  obtain⟨v4,x4⟩:=hr.val_ (i:=4) (by omega)
  obtain⟨v5,x5⟩:=hr.val_ (i:=5) (by omega)
  have hg:=hr.lt
  obtain⟨cs4,hB4,hc4⟩:=hr
  have hf0:=hB4.frozen 0
  have hf1:=hB4.frozen 1
  have hf2:=hB4.frozen 2
  have hf3:=hB4.frozen 3
  have hf4:=hB4.frozen 4
  have hf5:=hB4.frozen 5
  go_wp2_with fail
  exact bodyPost_ret (v:=.agg #[.bool false,.slice none 0 0,.slice none 0 0,.bool false,.slice none 0 0,.slice none 0 0]) (by simp[results,Tryz.results134,go_sem,x0,x1,x2,x3,x4,x5]) rfl ⟨rfl,slc⟩
 ·have h1:j=0:=by omega
  clear hmj
  replace h1:=Lib.hid h1
  go_enter Tryz.func134,Tryz.ntmps134
  go_wp2_with fail
  refine calls_gen (fun W=>Bl w W∧Blk W (w.heap.size) 56 #[.bool s,.slice A n c,.slice B m d,.bool t,.slice C i e,.slice D j f]∧Wk 6 56 (w.heap.size+1) W) ⟨slc,bts,bts⟩ ?_
  rintro W ⟨hbW,hx,hr⟩
  refine(isRat_yes _ h0).mono ?_
  rintro e1 w1 ⟨rfl,hb1⟩
  have hx:=hx.bl hb1
  have hr:=hr.bl hb1
  have hbW:=hbW.next hb1
  clear hb1
  obtain⟨i0,i1,i2,i3,i4,i5⟩:=bx6 hx
  go_wp2_with fail
  refine(isRat_no _ h1.out).mono ?_
  rintro e2 w2 ⟨rfl,hb2⟩
  have hx:=hx.bl hb2
  have hr:=hr.bl hb2
  have hbW:=hbW.next hb2
  clear hb2
  obtain⟨i0,i1,i2,i3,i4,i5⟩:=bx6 hx
  obtain⟨v0,x0⟩:=hr.val_ (i:=0) (by omega)
  obtain⟨v1,x1⟩:=hr.val_ (i:=1) (by omega)
  obtain⟨v2,x2⟩:=hr.val_ (i:=2) (by omega)
  obtain⟨v3,x3⟩:=hr.val_ (i:=3) (by omega)
  obtain⟨v4,x4⟩:=hr.val_ (i:=4) (by omega)
  obtain⟨v5,x5⟩:=hr.val_ (i:=5) (by omega)
  have hg:=hr.lt
  obtain⟨cs4,hB4,hc4⟩:=hr
  have hf0:=hB4.frozen 0
  have hf1:=hB4.frozen 1
  have hf2:=hB4.frozen 2
  have hf3:=hB4.frozen 3
  have hf4:=hB4.frozen 4
  have hf5:=hB4.frozen 5
  go_wp2_with fail
  exact bodyPost_ret (v:=.agg #[.bool false,.slice none 0 0,.slice none 0 0,.bool false,.slice none 0 0,.slice none 0 0]) (by simp[results,Tryz.results134,go_sem,x0,x1,x2,x3,x4,x5]) rfl ⟨rfl,slc⟩
theorem OwP.zero (T:TypeId) (b0:Nat) (w:World):OwP T b0 w false none 0 0 none 0 0 false none 0 0 none 0 0 zP :=
 ⟨[],[],⟨rfl,[],[],⟨RdI.nil _ _ _,.inl ⟨rfl,rfl⟩⟩,⟨RdI.nil _ _ _,.inl ⟨rfl,rfl⟩⟩,rfl⟩,⟨rfl,[],[],⟨RdI.nil _ _ _,.inl ⟨rfl,rfl⟩⟩,⟨RdI.nil _ _ _,.inl ⟨rfl,rfl⟩⟩,rfl⟩,Fp.nil _ _⟩
section
variable {T:TypeId}{b0:Nat}{w W:World}{s:Bool}{A:Option Addr}{n c:Nat}{B:Option Addr}{m d:Nat}{t:Bool}{C:Option Addr}{i e:Nat}{D:Option Addr}{j f:Nat}{p:PtD}
theorem OwP.bl (h:OwP T b0 w s A n c B m d t C i e D j f p) (hb:Bl w W):OwP T b0 W s A n c B m d t C i e D j f p:=by
 obtain⟨b1,b2,h1,h2,hf⟩:=h
 exact⟨b1,b2,h1.bl hb,h2.bl hb,hf.mono (Nat.le_refl _) hb.size⟩
theorem OwP.rx (h:OwP T b0 w s A n c B m d t C i e D j f p):RdR w s A n c B m d p.x:=by
 obtain⟨b1,b2,h1,h2,hf⟩:=h
 exact h1.rd
theorem OwP.ry (h:OwP T b0 w s A n c B m d t C i e D j f p):RdR w t C i e D j f p.y:=by
 obtain⟨b1,b2,h1,h2,hf⟩:=h
 exact h2.rd
end
theorem ifPoint_any (w:World) {b0:Nat}{s:Bool}{A:Option Addr}{n c:Nat}{B:Option Addr}{m d:Nat}{t:Bool}{C:Option Addr}{i e:Nat}{D:Option Addr}{j f:Nat}{p:PtD}(h:OwP 3 b0 w s A n c B m d t C i e D j f p) :
  Calls Tryz.prog 134 #[.agg #[.bool s,.slice A n c,.slice B m d,.bool t,.slice C i e,.slice D j f]] w fun en w'=>∃s1 A1 n1 c1 B1 m1 d1 t1 C1 i1 e1 D1 j1 f1,en=.returned (.agg #[.bool s1,.slice A1 n1 c1,.slice B1 m1 d1,.bool t1,.slice C1 i1 e1,.slice D1 j1 f1])∧OwP 3 b0 w' s1 A1 n1 c1 B1 m1 d1 t1 C1 i1 e1 D1 j1 f1 (ifP p)∧Bl w w':=by
 have l1:=h.rx.den.len
 have l2:=h.ry.den.len
 by_cases hz:m=0∨j=0
 ·have e:ifP p=zP:=by unfold ifP;rw[l1,l2,if_pos hz]
  rw[e]
  refine(ifPoint_no w hz).mono ?_
  rintro en w' ⟨rfl,hb⟩
  exact⟨_,_,_,_,_,_,_,_,_,_,_,_,_,_,rfl,OwP.zero _ _ _,hb⟩
 ·have e:ifP p=p:=by unfold ifP;rw[l1,l2,if_neg hz]
  rw[e]
  refine(ifPoint_yes w (by omega) (by omega)).mono ?_
  rintro en w' ⟨rfl,hb⟩
  exact⟨_,_,_,_,_,_,_,_,_,_,_,_,_,_,rfl,h.bl hb,hb⟩
end
section
open Go.RowKit
theorem IsValidPoint_yes (w:World) {s:Bool}{A:Option Addr}{n c:Nat}{B:Option Addr}{m d:Nat}{t:Bool}{C:Option Addr}{i e:Nat}{D:Option Addr}{j f:Nat}{p:PtD}(h:RdR w s A n c B m d p.x) (k:RdR w t C i e D j f p.y) (ho:OkP p) :
  Calls Tryz.prog 57 #[.agg #[.bool s,.slice A n c,.slice B m d,.bool t,.slice C i e,.slice D j f]] w fun en w'=>en=.returned (.bool true)∧Bl w w':=by
 have hall:=Lib.hid (allOk_two.2 ho)
 clear ho
 go_enter Tryz.func57,Tryz.ntmps57
 go_wp2_with fail
 refine(areRats_yes _ (RdRS.two (Blk.new1 _ _ _ _) (h.bl slc) (k.bl slc)) hall.out).mono ?_
 rintro e w1 ⟨rfl,hb1⟩
 go_wp2_with fail
 go_ret
 exact⟨rfl,slc⟩
def AllP (l:List PtD):Prop:=∀k,k<l.length→OkP (pix l k)
def PTo (l:List PtD) (k:Nat):Prop:=∀j,j<k→OkP (pix l j)
theorem PTo.zero (l:List PtD):PTo l 0:=fun j hj=>by omega
theorem PTo.step {l:List PtD}{k:Nat}(h:PTo l k) (h0:OkP (pix l k)):PTo l (k+1):=by
 intro j hj
 rcases Nat.lt_succ_iff_lt_or_eq.1 hj with hj|rfl
 ·exact h j hj
 ·exact h0
end
section
open Go.RowKit
def eqTo (a b:List Int):Nat→Bool
 | 0=>true
 | k+1=>eqTo a b k&&(ix a k == ix b k)
def eqL (a b:List Int):Bool:=a == b
theorem eqTo_step {xs ys:List Int}{k:Nat}(h:eqTo xs ys k=true) (he:ix xs k=ix ys k):eqTo xs ys (k+1)=true:=by simp[eqTo,h,he]
theorem eqTo_iff {xs ys:List Int}{k:Nat}:eqTo xs ys k=true↔∀i,i<k→ix xs i=ix ys i:=by
 induction k with
 | zero=>simp[eqTo]
 | succ k ih=>
  simp only[eqTo,Bool.and_eq_true,ih,beq_iff_eq]
  constructor
  ·rintro ⟨h1,h2⟩ i hi
   rcases Nat.lt_succ_iff_lt_or_eq.1 hi with h|rfl
   ·exact h1 i h
   ·exact h2
  ·intro h
   exact⟨fun i hi=>h i (by omega),h k (by omega)⟩
theorem eqL_same {xs ys:List Int}(h:xs.length=ys.length):eqL xs ys=eqTo xs ys xs.length:=by
 rw[Bool.eq_iff_iff,eqTo_iff]
 unfold eqL
 rw[beq_iff_eq]
 constructor
 ·rintro rfl i _;rfl
 ·intro hh
  apply List.ext_getElem h
  intro i h1 h2
  have:=hh i h1
  simpa [ix,h1,h2]using this
theorem eqL_no {xs ys:List Int}{k:Nat}(_h:xs.length=ys.length) (_hk:k<xs.length) (he:¬ix xs k=ix ys k):eqL xs ys=false:=by
 unfold eqL
 rw[beq_eq_false_iff_ne]
 rintro rfl
 exact he rfl
theorem eqL_len {xs ys:List Int}(h:¬xs.length=ys.length):eqL xs ys=false:=by
 unfold eqL
 rw[beq_eq_false_iff_ne]
 rintro rfl
 exact h rfl
theorem Equal_int (w:World) {A B:Option Addr}{n m c d:Nat}{xs ys:List Int}(ha:RdI w A n c xs) (hb:RdI w B m d ys) :
  Calls Tryz.prog 98 #[.slice A n c,.slice B m d] w fun e w'=>e=.returned (.bool (eqL xs ys))∧∃q,w'=w.drewN q:=by
 have hna:=ha.small
 have hnb:=hb.small
 by_cases hnm:n=m
 ·subst hnm
  have heq:=Lib.hid (eqL_same (ha.len.trans hb.len.symm));rw[ha.len]at heq
  go_enter Tryz.func98,Tryz.ntmps98
  go_wp2
  go_loopw [13] (fun i wr=>∃k:Nat,k≤n∧i=.int .i64 (k:Int)∧Hid (eqTo xs ys k=true)∧∃q,wr=w.drewN q) (fun i _=>n-(intOf i).toNat)
  case atStart=>exact⟨0,Nat.zero_le _,rfl,rfl,(by first|exact⟨_,rfl⟩|exact⟨0,rfl⟩|exact q_drewN ⟨_,rfl⟩|exact q_drewN (q_drewN ⟨_,rfl⟩))⟩
  case round=>
   obtain⟨k,hk,rfl,hto,q,rfl⟩:=hrel
   by_cases hkn:k<n
   ·obtain⟨ad,rfl,hlta,hca⟩:=ha.at_ hkn
    obtain⟨bd,rfl,hltb,hcb⟩:=hb.at_ hkn
    have hki:(k:Int)<(n:Int):=by omega
    by_cases he:ix xs k=ix ys k
    ·have hs:=Lib.hid (eqTo_step hto.out he);clear hto
     have hbeq:(ix xs k != ix ys k)=false:=by simp[he]
     clear he
     go_wp2
     go_quiet (fail)
     go_wp2
     go_roundw
     case rel=>exact⟨k+1,by omega,by go_num,hs,(by first|exact⟨_,rfl⟩|exact⟨0,rfl⟩|exact q_drewN ⟨_,rfl⟩|exact q_drewN (q_drewN ⟨_,rfl⟩))⟩
     case measure=>simp[intOf];omega
    ·have hs:=Lib.hid (eqL_no (by rw[ha.len,hb.len]) (by rw[ha.len];exact hkn) he);clear hto heq
     have hbeq:(ix xs k != ix ys k)=true:=by simp[he]
     clear he
     go_wp2
     go_quiet (fail)
     go_wp2
     go_ret
     exact⟨ret_bool hs.out.symm,(by first|exact⟨_,rfl⟩|exact⟨0,rfl⟩|exact q_drewN ⟨_,rfl⟩|exact q_drewN (q_drewN ⟨_,rfl⟩))⟩
   ·have hkk:k=n:=by omega
    have hs:=Lib.hid (heq.out.trans (hkk ▸ hto.out));clear hto heq hkk
    go_wp2
    go_ret
    exact⟨ret_bool hs.out.symm,(by first|exact⟨_,rfl⟩|exact⟨0,rfl⟩|exact q_drewN ⟨_,rfl⟩|exact q_drewN (q_drewN ⟨_,rfl⟩))⟩
 ·have hs:=Lib.hid (eqL_len (xs:=xs) (ys:=ys) (by rw[ha.len,hb.len];exact hnm))
  have hne:((n:Int) != (m:Int))=true:=by simp;omega
  go_enter Tryz.func98,Tryz.ntmps98
  go_wp2
  go_ret
  exact⟨ret_bool hs.out.symm,(by first|exact⟨_,rfl⟩|exact⟨0,rfl⟩|exact q_drewN ⟨_,rfl⟩|exact q_drewN (q_drewN ⟨_,rfl⟩))⟩
theorem l04List_any (w:World) {A B:Option Addr}{n m c d:Nat}{xs ys:List Int}(ha:RdI w A n c xs) (hb:RdI w B m d ys) :
  Calls Tryz.prog 194 #[.slice A n c,.slice B m d] w fun e w'=>e=.returned (.bool (eqL xs ys))∧∃q,w'=w.drewN q:=by
 have hna:=ha.small
 have hnb:=hb.small
 by_cases hnm:n=m
 ·subst hnm
  have heq:=Lib.hid (eqL_same (ha.len.trans hb.len.symm));rw[ha.len]at heq
  go_enter Tryz.func194,Tryz.ntmps194
  go_wp2
  go_loopw [13] (fun i wr=>∃k:Nat,k≤n∧i=.int .i64 (k:Int)∧Hid (eqTo xs ys k=true)∧∃q,wr=w.drewN q) (fun i _=>n-(intOf i).toNat)
  case atStart=>exact⟨0,Nat.zero_le _,rfl,rfl,(by first|exact⟨_,rfl⟩|exact⟨0,rfl⟩|exact q_drewN ⟨_,rfl⟩|exact q_drewN (q_drewN ⟨_,rfl⟩))⟩
  case round=>
   obtain⟨k,hk,rfl,hto,q,rfl⟩:=hrel
   by_cases hkn:k<n
   ·obtain⟨ad,rfl,hlta,hca⟩:=ha.at_ hkn
    obtain⟨bd,rfl,hltb,hcb⟩:=hb.at_ hkn
    have hki:(k:Int)<(n:Int):=by omega
    by_cases he:ix xs k=ix ys k
    ·have hs:=Lib.hid (eqTo_step hto.out he);clear hto
     have hbeq:(ix xs k != ix ys k)=false:=by simp[he]
     clear he
     go_wp2
     go_quiet (fail)
     go_wp2
     go_roundw
     case rel=>exact⟨k+1,by omega,by go_num,hs,(by first|exact⟨_,rfl⟩|exact⟨0,rfl⟩|exact q_drewN ⟨_,rfl⟩|exact q_drewN (q_drewN ⟨_,rfl⟩))⟩
     case measure=>simp[intOf];omega
    ·have hs:=Lib.hid (eqL_no (by rw[ha.len,hb.len]) (by rw[ha.len];exact hkn) he);clear hto heq
     have hbeq:(ix xs k != ix ys k)=true:=by simp[he]
     clear he
     go_wp2
     go_quiet (fail)
     go_wp2
     go_ret
     exact⟨ret_bool hs.out.symm,(by first|exact⟨_,rfl⟩|exact⟨0,rfl⟩|exact q_drewN ⟨_,rfl⟩|exact q_drewN (q_drewN ⟨_,rfl⟩))⟩
   ·have hkk:k=n:=by omega
    have hs:=Lib.hid (heq.out.trans (hkk ▸ hto.out));clear hto heq hkk
    go_wp2
    go_ret
    exact⟨ret_bool hs.out.symm,(by first|exact⟨_,rfl⟩|exact⟨0,rfl⟩|exact q_drewN ⟨_,rfl⟩|exact q_drewN (q_drewN ⟨_,rfl⟩))⟩
 ·have hs:=Lib.hid (eqL_len (xs:=xs) (ys:=ys) (by rw[ha.len,hb.len];exact hnm))
  have hne:((n:Int) != (m:Int))=true:=by simp;omega
  go_enter Tryz.func194,Tryz.ntmps194
  go_wp2
  go_ret
  exact⟨ret_bool hs.out.symm,(by first|exact⟨_,rfl⟩|exact⟨0,rfl⟩|exact q_drewN ⟨_,rfl⟩|exact q_drewN (q_drewN ⟨_,rfl⟩))⟩
end
end Go.Proofs.YtmkcacgmnnlddaaGreat
