/- Lemmas. -/
import Derived.Test.YtjaapemopbbfaaaGreatRows
import Derived.Test.YtjaapemopbbfaaaGreatPWorstShapeM11
import Derived.Test.YtjaapemopbbfaaaGreatPWorstShapeM07
namespace Go.Proofs.YtjaapemopbbfaaaGreat
section
open Go.RowKit

theorem cmpZ_sub (a b:Int):cmpZ (a - b) 0=cmpZ a b:=by
  unfold cmpZ
  split <;> (try split) <;> (try split) <;> (try split) <;> omega

set_option maxRecDepth 100000 in
set_option maxHeartbeats 4000000 in
theorem bigCmp_any (w:World) {s:Bool}{A:Option Addr}{n c:Nat}{x:Int}{t:Bool}{B:Option Addr}{m d:Nat}{y:Int}(h:IsB w s A n c x) (k:IsB w t B m d y) (hn:n≤2097152) (hm:m≤2097152) :
    Calls Tryz.prog 119 #[.agg #[.bool s,.slice A n c],.agg #[.bool t,.slice B m d]] w fun e w'=> e=.returned (.int .i64 (cmpZ x y))∧Bl w w':=by
  have hs:=h.1
  have ht:=k.1
  cases s <;> cases t
  · have hx:0≤x:=by have:=hs.symm;simp at this;omega
    have hy:0≤y:=by have:=ht.symm;simp at this;omega
    have hv:=Lib.hid (show cmpZ x y=cmpI (x.natAbs:Int) (y.natAbs:Int) by unfold cmpZ cmpI;split <;> (try split) <;> (try split) <;> (try split) <;> omega)
    clear hs ht hx hy
    go_enter Tryz.func119,Tryz.ntmps119
    go_wp2_with fail
    refine(natCmp_any _ (RdI.bl h.mg slc) (RdI.bl k.mg slc) hn hm).mono ?_
    rintro e w1 ⟨rfl,q1,rfl⟩
    go_wp2_with fail
    go_ret
    exact⟨ret_int hv.out.symm,slc⟩
  · have hx:0≤x:=by have:=hs.symm;simp at this;omega
    have hy:y < 0:=by have:=ht.symm;simpa using this
    have hv:=Lib.hid (show cmpZ x y=1 by unfold cmpZ;split <;> (try split) <;> (try split) <;> (try split) <;> omega)
    clear hs ht hx hy
    go_enter Tryz.func119,Tryz.ntmps119
    go_wp2_with fail
    go_ret
    exact⟨ret_int hv.out.symm,slc⟩
  · have hx:x < 0:=by have:=hs.symm;simpa using this
    have hy:0≤y:=by have:=ht.symm;simp at this;omega
    have hv:=Lib.hid (show cmpZ x y=-1 by unfold cmpZ;split <;> (try split) <;> (try split) <;> (try split) <;> omega)
    clear hs ht hx hy
    go_enter Tryz.func119,Tryz.ntmps119
    go_wp2_with fail
    go_ret
    exact⟨ret_int hv.out.symm,slc⟩
  · have hx:x < 0:=by have:=hs.symm;simpa using this
    have hy:y < 0:=by have:=ht.symm;simpa using this
    have hv:=Lib.hid (show cmpZ x y=cmpI (y.natAbs:Int) (x.natAbs:Int) by unfold cmpZ cmpI;split <;> (try split) <;> (try split) <;> (try split) <;> omega)
    clear hs ht hx hy
    go_enter Tryz.func119,Tryz.ntmps119
    go_wp2_with fail
    refine(natCmp_any _ (RdI.bl k.mg slc) (RdI.bl h.mg slc) hm hn).mono ?_
    rintro e w1 ⟨rfl,q1,rfl⟩
    go_wp2_with fail
    go_ret
    exact⟨ret_int hv.out.symm,slc⟩

theorem signOf_any (w:World) (v:Int):Calls Tryz.prog 118 #[.int .i64 v] w fun e w'=> e=.returned (.int .i64 (cmpZ v 0))∧Bl w w':=by
  rcases Int.lt_or_le v 0 with h | h
  · have hv:=Lib.hid (show cmpZ v 0=-1 by unfold cmpZ;rw[if_pos h])
    go_enter Tryz.func118,Tryz.ntmps118
    go_wp2_with fail
    go_ret
    exact⟨ret_int hv.out.symm,slc⟩
  · rcases Int.lt_or_le 0 v with h' | h'
    · have hv:=Lib.hid (show cmpZ v 0=1 by unfold cmpZ;rw[if_neg (by omega),if_pos h'])
      go_enter Tryz.func118,Tryz.ntmps118
      go_wp2_with fail
      go_ret
      exact⟨ret_int hv.out.symm,slc⟩
    · have hv:=Lib.hid (show cmpZ v 0=0 by unfold cmpZ;rw[if_neg (by omega),if_neg (by omega)])
      go_enter Tryz.func118,Tryz.ntmps118
      go_wp2_with fail
      go_ret
      exact⟨ret_int hv.out.symm,slc⟩

set_option maxRecDepth 100000 in
set_option maxHeartbeats 4000000 in
theorem compare_small (w:World) {s:Bool}{A:Option Addr}{n c:Nat}{B:Option Addr}{m d:Nat}{x:Int}{D:Nat}{s':Bool}{A':Option Addr}{n' c':Nat}{B':Option Addr}{m' d':Nat}{x':Int}{D':Nat}(h:IsR w s A n c B m d x D) (k:IsR w s' A' n' c' B' m' d' x' D') (hn:n≤1) (hm:m=1) (hn':n'≤1) (hm':m'=1) :
    Calls Tryz.prog 72 #[.agg #[.bool s,.slice A n c,.slice B m d],.agg #[.bool s',.slice A' n' c',.slice B' m' d']] w fun e w'=> e=.returned (.int .i64 (cmpZ (x * (D':Int)) (x' * (D:Int))))∧Bl w w':=by
  subst hm hm'
  have hx0:=small_le (N:=x.natAbs) (by rw[h.num.lenN];exact hn)
  have hx0':=small_le (N:=x'.natAbs) (by rw[k.num.lenN];exact hn')
  have hD:=(one_limb h.dn.lenN).2
  have hD':=(one_limb k.dn.lenN).2
  have l1:=mul_lim (a:=x) (b:=(D':Int)) (by omega) (by omega) (by omega) (by omega)
  have l2:=mul_lim (a:=x') (b:=(D:Int)) (by omega) (by omega) (by omega) (by omega)
  generalize e1:x * (D':Int)=p1 at *
  generalize e2:x' * (D:Int)=p2 at *
  have hv:=Lib.hid (cmpZ_sub p1 p2)
  clear hx0 hx0'
  go_enter Tryz.func72,Tryz.ntmps72
  go_wp2_with fail
  refine calls_gen (fun W=> Bl w W∧Blk W (w.heap.size) 31 #[.bool s,.slice A n c,.slice B 1 d]∧Blk W (w.heap.size+1) 31 #[.bool s',.slice A' n' c',.slice B' 1 d']) ⟨slc,bts,bts⟩ ?_
  rintro W ⟨hbW,hx,hx'⟩
  refine(isSmall_yes _ hn rfl).mono ?_
  rintro e w3 ⟨rfl,hb3⟩
  have hx:=hx.bl hb3
  have hx':=hx'.bl hb3
  have hbW:=hbW.next hb3
  clear hb3
  obtain⟨i0,i1,i2⟩:=bx3 hx
  obtain⟨j0,j1,j2⟩:=bx3 hx'
  go_wp2_with fail
  refine(isSmall_yes _ hn' rfl).mono ?_
  rintro e w4 ⟨rfl,hb4⟩
  have hx:=hx.bl hb4
  have hx':=hx'.bl hb4
  have hbW:=hbW.next hb4
  clear hb4
  obtain⟨i0,i1,i2⟩:=bx3 hx
  obtain⟨j0,j1,j2⟩:=bx3 hx'
  go_wp2_with fail
  refine(small_any _ (h.bl hbW) hn).mono ?_
  rintro e w5 ⟨rfl,hb5⟩
  have hx:=hx.bl hb5
  have hx':=hx'.bl hb5
  have hbW:=hbW.next hb5
  clear hb5
  obtain⟨i0,i1,i2⟩:=bx3 hx
  obtain⟨j0,j1,j2⟩:=bx3 hx'
  go_wp2_with fail
  refine(small_any _ (k.bl hbW) hn').mono ?_
  rintro e w6 ⟨rfl,hb6⟩
  have hx:=hx.bl hb6
  have hx':=hx'.bl hb6
  have hbW:=hbW.next hb6
  clear hb6
  obtain⟨i0,i1,i2⟩:=bx3 hx
  obtain⟨j0,j1,j2⟩:=bx3 hx'
  go_wp2_with fail
  refine(signOf_any _ (p1 - p2)).mono ?_
  rintro e w7 ⟨rfl,hb7⟩
  go_wp2_with fail
  go_ret
  exact⟨ret_int hv.out,hbW.next hb7⟩

set_option maxRecDepth 100000 in
set_option maxHeartbeats 4000000 in
theorem compare_yes (w:World) {s:Bool}{A:Option Addr}{n c:Nat}{B:Option Addr}{m d:Nat}{x:Int}{D:Nat}{s':Bool}{A':Option Addr}{n' c':Nat}{B':Option Addr}{m' d':Nat}{x':Int}{D':Nat}(h:IsR w s A n c B m d x D) (k:IsR w s' A' n' c' B' m' d' x' D') (hn:n≤262143) (hm:m≤262143) (hn':n'≤262143) (hm':m'≤262143) (h1:n≤1∧m=1) (h2:¬ (n'≤1∧m'=1)) :
    Calls Tryz.prog 72 #[.agg #[.bool s,.slice A n c,.slice B m d],.agg #[.bool s',.slice A' n' c',.slice B' m' d']] w fun e w'=> e=.returned (.int .i64 (cmpZ (x * (D':Int)) (x' * (D:Int))))∧Bl w w':=by
  have q1:=h.num.lenN
  have q2:=h.dn.lenN
  have q3:=k.num.lenN
  have q4:=k.dn.lenN
  have q2':(dig (D:Int).natAbs).length=m:=by rw[Int.natAbs_natCast];exact q2
  have q4':(dig (D':Int).natAbs).length=m':=by rw[Int.natAbs_natCast];exact q4
  have hl1:(dig x.natAbs).length+(dig (D':Int).natAbs).length≤1048576:=by omega
  have hl2:(dig x'.natAbs).length+(dig (D:Int).natAbs).length≤1048576:=by omega
  clear q1 q2 q3 q4 q2' q4'
  have h1:=Lib.hid h1;rename_i h_;clear h_
  have h2:=Lib.hid h2;rename_i h_;clear h_
  go_enter Tryz.func72,Tryz.ntmps72
  go_wp2_with fail
  refine calls_gen (fun W=> Bl w W∧Blk W (w.heap.size) 31 #[.bool s,.slice A n c,.slice B m d]∧Blk W (w.heap.size+1) 31 #[.bool s',.slice A' n' c',.slice B' m' d']) ⟨slc,bts,bts⟩ ?_
  rintro W ⟨hbW,hx,hx'⟩
  refine(isSmall_yes _ h1.out.1 h1.out.2).mono ?_
  rintro e w2 ⟨rfl,hb2⟩
  have hx:=hx.bl hb2
  have hx':=hx'.bl hb2
  have hbW:=hbW.next hb2
  clear hb2
  obtain⟨i0,i1,i2⟩:=bx3 hx
  obtain⟨j0,j1,j2⟩:=bx3 hx'
  go_wp2_with fail
  refine(isSmall_no _ h2.out).mono ?_
  rintro e w3 ⟨rfl,hb3⟩
  have hx:=hx.bl hb3
  have hx':=hx'.bl hb3
  have hbW:=hbW.next hb3
  clear hb3
  obtain⟨i0,i1,i2⟩:=bx3 hx
  obtain⟨j0,j1,j2⟩:=bx3 hx'
  go_wp2_with fail
  go_region_held3 (fun w' =>(w'.cell? ⟨w.heap.size,0,none⟩=some (.bool s)∧w'.cell? ⟨w.heap.size,1,none⟩=some (.slice A n c)∧w'.cell? ⟨w.heap.size,2,none⟩=some (.slice B m d))∧(w'.cell? ⟨w.heap.size+1,0,none⟩=some (.bool s')∧w'.cell? ⟨w.heap.size+1,1,none⟩=some (.slice A' n' c')∧w'.cell? ⟨w.heap.size+1,2,none⟩=some (.slice B' m' d'))) (first | exact⟨bx3 (T:=31) bts,bx3 (T:=31) bts⟩) (first |(go_at_call 120;with_reducible refine(bigMul_any _ (h.b.bl slc) (IsB.of (k.dn.bl slc)) (by omega) (by omega)).mono ?_;rintro e w4 ⟨s2,A2,n2,c2,rfl,hO1,hb4⟩) |(go_at_call 120;with_reducible refine(bigMul_any _ (k.b.bl slc) (IsB.of (h.dn.bl slc)) (by omega) (by omega)).mono ?_;rintro e w5 ⟨s3,A3,n3,c3,rfl,hO2,hb5⟩;(have hl4:n2≤2097152:=Nat.le_trans (bm_len hO1 hl1) (by omega));(have hl5:n3≤2097152:=Nat.le_trans (bm_len hO2 hl2) (by omega))) |(go_at_call 119;refine(bigCmp_any _ (hO1.rd.bl hb5) hO2.rd hl4 hl5).mono ?_;rintro e w6 ⟨rfl,hb6⟩))
  go_wp2_with fail
  go_ret
  exact⟨rfl,slc⟩

set_option maxRecDepth 100000 in
set_option maxHeartbeats 4000000 in
theorem compare_no (w:World) {s:Bool}{A:Option Addr}{n c:Nat}{B:Option Addr}{m d:Nat}{x:Int}{D:Nat}{s':Bool}{A':Option Addr}{n' c':Nat}{B':Option Addr}{m' d':Nat}{x':Int}{D':Nat}(h:IsR w s A n c B m d x D) (k:IsR w s' A' n' c' B' m' d' x' D') (hn:n≤262143) (hm:m≤262143) (hn':n'≤262143) (hm':m'≤262143) (h1:¬ (n≤1∧m=1)) :
    Calls Tryz.prog 72 #[.agg #[.bool s,.slice A n c,.slice B m d],.agg #[.bool s',.slice A' n' c',.slice B' m' d']] w fun e w'=> e=.returned (.int .i64 (cmpZ (x * (D':Int)) (x' * (D:Int))))∧Bl w w':=by
  have q1:=h.num.lenN
  have q2:=h.dn.lenN
  have q3:=k.num.lenN
  have q4:=k.dn.lenN
  have q2':(dig (D:Int).natAbs).length=m:=by rw[Int.natAbs_natCast];exact q2
  have q4':(dig (D':Int).natAbs).length=m':=by rw[Int.natAbs_natCast];exact q4
  have hl1:(dig x.natAbs).length+(dig (D':Int).natAbs).length≤1048576:=by omega
  have hl2:(dig x'.natAbs).length+(dig (D:Int).natAbs).length≤1048576:=by omega
  clear q1 q2 q3 q4 q2' q4'
  have h1:=Lib.hid h1;rename_i h_;clear h_
  go_enter Tryz.func72,Tryz.ntmps72
  go_wp2_with fail
  refine calls_gen (fun W=> Bl w W∧Blk W (w.heap.size) 31 #[.bool s,.slice A n c,.slice B m d]∧Blk W (w.heap.size+1) 31 #[.bool s',.slice A' n' c',.slice B' m' d']) ⟨slc,bts,bts⟩ ?_
  rintro W ⟨hbW,hx,hx'⟩
  refine(isSmall_no _ h1.out).mono ?_
  rintro e w2 ⟨rfl,hb2⟩
  have hx:=hx.bl hb2
  have hx':=hx'.bl hb2
  have hbW:=hbW.next hb2
  clear hb2
  obtain⟨i0,i1,i2⟩:=bx3 hx
  obtain⟨j0,j1,j2⟩:=bx3 hx'
  go_wp2_with fail
  go_region_held3 (fun w' =>(w'.cell? ⟨w.heap.size,0,none⟩=some (.bool s)∧w'.cell? ⟨w.heap.size,1,none⟩=some (.slice A n c)∧w'.cell? ⟨w.heap.size,2,none⟩=some (.slice B m d))∧(w'.cell? ⟨w.heap.size+1,0,none⟩=some (.bool s')∧w'.cell? ⟨w.heap.size+1,1,none⟩=some (.slice A' n' c')∧w'.cell? ⟨w.heap.size+1,2,none⟩=some (.slice B' m' d'))) (first | exact⟨bx3 (T:=31) bts,bx3 (T:=31) bts⟩) (first |(go_at_call 120;with_reducible refine(bigMul_any _ (h.b.bl slc) (IsB.of (k.dn.bl slc)) (by omega) (by omega)).mono ?_;rintro e w4 ⟨s2,A2,n2,c2,rfl,hO1,hb4⟩) |(go_at_call 120;with_reducible refine(bigMul_any _ (k.b.bl slc) (IsB.of (h.dn.bl slc)) (by omega) (by omega)).mono ?_;rintro e w5 ⟨s3,A3,n3,c3,rfl,hO2,hb5⟩;(have hl4:n2≤2097152:=Nat.le_trans (bm_len hO1 hl1) (by omega));(have hl5:n3≤2097152:=Nat.le_trans (bm_len hO2 hl2) (by omega))) |(go_at_call 119;refine(bigCmp_any _ (hO1.rd.bl hb5) hO2.rd hl4 hl5).mono ?_;rintro e w6 ⟨rfl,hb6⟩))
  go_wp2_with fail
  go_ret
  exact⟨rfl,slc⟩

theorem rcompare_any (w:World) {s:Bool}{A:Option Addr}{n c:Nat}{B:Option Addr}{m d:Nat}{x:Int}{D:Nat}{s':Bool}{A':Option Addr}{n' c':Nat}{B':Option Addr}{m' d':Nat}{x':Int}{D':Nat}(h:IsR w s A n c B m d x D) (k:IsR w s' A' n' c' B' m' d' x' D') (hn:n≤262143) (hm:m≤262143) (hn':n'≤262143) (hm':m'≤262143) :
    Calls Tryz.prog 72 #[.agg #[.bool s,.slice A n c,.slice B m d],.agg #[.bool s',.slice A' n' c',.slice B' m' d']] w fun e w'=> e=.returned (.int .i64 (cmpZ (x * (D':Int)) (x' * (D:Int))))∧Bl w w':=by
  by_cases h1:n≤1∧m=1
  · by_cases h2:n'≤1∧m'=1
    · exact compare_small w h k h1.1 h1.2 h2.1 h2.2
    · exact compare_yes w h k hn hm hn' hm' h1 h2
  · exact compare_no w h k hn hm hn' hm' h1

theorem maxR_val {r r':RatD}(ho:OkR r∧OkR r'):maxR r r'=if 0≤cmpZ (rn r * rd r') (rn r' * rd r) then r else r':=by
  unfold maxR cmpR
  rw[if_pos ho,if_pos ho]
set_option maxRecDepth 100000 in
set_option maxHeartbeats 4000000 in
theorem RatMax_any (w:World) {s:Bool}{A:Option Addr}{n c:Nat}{B:Option Addr}{m d:Nat}{r:RatD}{s':Bool}{A':Option Addr}{n' c':Nat}{B':Option Addr}{m' d':Nat}{r':RatD}(h:RdR w s A n c B m d r) (k:RdR w s' A' n' c' B' m' d' r') :
    Calls Tryz.prog 66 #[.agg #[.bool s,.slice A n c,.slice B m d],.agg #[.bool s',.slice A' n' c',.slice B' m' d']] w fun e w'=> ∃ s1 A1 n1 c1 B1 m1 d1,e=.returned (.agg #[.bool s1,.slice A1 n1 c1,.slice B1 m1 d1])∧OwR 3 w.heap.size w' s1 A1 n1 c1 B1 m1 d1 (maxR r r')∧Bl w w':=by
  by_cases ho:OkR r∧OkR r'
  · have hall:=Lib.hid (allOk_two.2 ho)
    have hI:=IsR.out h ho.1
    have hI':=IsR.out k ho.2
    have hL:=OkR.lens h ho.1
    have hL':=OkR.lens k ho.2
    have hval:=maxR_val ho
    clear ho
    generalize hcz:cmpZ (rn r * (rd r':Int)) (rn r' * (rd r:Int))=cz at *
    have hcz:=Lib.hid hcz;rename_i h_;clear h_
    by_cases hge:0≤cz
    · rw[if_pos hge] at hval
      have hval:=Lib.hid hval;rename_i h_;clear h_
      go_enter Tryz.func66,Tryz.ntmps66
      go_wp2_with fail
      refine calls_gen (fun W=> Bl w W∧Blk W (w.heap.size) 31 #[.bool s,.slice A n c,.slice B m d]∧Blk W (w.heap.size+1) 31 #[.bool s',.slice A' n' c',.slice B' m' d']∧Wk 3 31 (w.heap.size+1+1) W∧Blk W (w.heap.size+1+1+1) 31 #[.bool s,.slice A n c,.slice B m d,.bool s',.slice A' n' c',.slice B' m' d']) ⟨slc,bts,bts,bts,Blk.new3 _ _ _ _ _ _⟩ ?_
      rintro W ⟨hbW,hx,hx',hr,hy⟩
      refine(areRats_yes _ (RdRS.two hy (h.bl hbW) (k.bl hbW)) hall.out).mono ?_
      rintro e w1 ⟨rfl,hb1⟩
      clear hy
      have hx:=hx.bl hb1
      have hx':=hx'.bl hb1
      have hr:=hr.bl hb1
      have hbW:=hbW.next hb1
      clear hb1
      obtain⟨i0,i1,i2⟩:=bx3 hx
      obtain⟨j0,j1,j2⟩:=bx3 hx'
      go_wp2_with fail
      refine(rcompare_any _ (RdR.bl hI hbW) (RdR.bl hI' hbW) (by omega) (by omega) (by omega) (by omega)).mono ?_
      rw[hcz.out]
      rintro e w2 ⟨rfl,hb2⟩
      have hx:=hx.bl hb2
      have hx':=hx'.bl hb2
      have hr:=hr.bl hb2
      have hbW:=hbW.next hb2
      clear hb2
      obtain⟨i0,i1,i2⟩:=bx3 hx
      obtain⟨j0,j1,j2⟩:=bx3 hx'
      go_wp2_with fail
      refine(copyRat_any _ (h.bl hbW) (by omega) (by omega)).mono ?_
      rintro e w3 ⟨A1,n1,c1,B1,m1,d1,rfl,hR,hb3⟩
      have hR:=hR.mono (show w.heap.size+1+1+1≤w2.heap.size from hr.lt)
      rw[← hval.out] at hR
      have hx:=hx.bl hb3
      have hx':=hx'.bl hb3
      have hr:=hr.bl hb3
      have hbW:=hbW.next hb3
      clear hb3
      obtain⟨i0,i1,i2⟩:=bx3 hx
      obtain⟨j0,j1,j2⟩:=bx3 hx'
      obtain⟨v0,x0⟩:=hr.val_ (i:=0) (by omega)
      obtain⟨v1,x1⟩:=hr.val_ (i:=1) (by omega)
      obtain⟨v2,x2⟩:=hr.val_ (i:=2) (by omega)
      have hg:=hr.lt
      obtain⟨cs4,hB4,hc4⟩:=hr
      have hf0:=hB4.frozen 0
      have hf1:=hB4.frozen 1
      have hf2:=hB4.frozen 2
      go_wp2_with fail
      exact bodyPost_ret (v:=.agg #[.bool s,.slice A1 n1 c1,.slice B1 m1 d1]) (by simp[results,Tryz.results66,go_sem,x0,x1,x2]) rfl ⟨_,_,_,_,_,_,_,rfl,(((hR.far (by simp) _).far (by simp) _).far (by simp) _).mono (by omega),slc⟩
    · rw[if_neg hge] at hval
      have hval:=Lib.hid hval;rename_i h_;clear h_
      have hge:cz < 0:=by omega
      go_enter Tryz.func66,Tryz.ntmps66
      go_wp2_with fail
      refine calls_gen (fun W=> Bl w W∧Blk W (w.heap.size) 31 #[.bool s,.slice A n c,.slice B m d]∧Blk W (w.heap.size+1) 31 #[.bool s',.slice A' n' c',.slice B' m' d']∧Wk 3 31 (w.heap.size+1+1) W∧Blk W (w.heap.size+1+1+1) 31 #[.bool s,.slice A n c,.slice B m d,.bool s',.slice A' n' c',.slice B' m' d']) ⟨slc,bts,bts,bts,Blk.new3 _ _ _ _ _ _⟩ ?_
      rintro W ⟨hbW,hx,hx',hr,hy⟩
      refine(areRats_yes _ (RdRS.two hy (h.bl hbW) (k.bl hbW)) hall.out).mono ?_
      rintro e w1 ⟨rfl,hb1⟩
      clear hy
      have hx:=hx.bl hb1
      have hx':=hx'.bl hb1
      have hr:=hr.bl hb1
      have hbW:=hbW.next hb1
      clear hb1
      obtain⟨i0,i1,i2⟩:=bx3 hx
      obtain⟨j0,j1,j2⟩:=bx3 hx'
      go_wp2_with fail
      refine(rcompare_any _ (RdR.bl hI hbW) (RdR.bl hI' hbW) (by omega) (by omega) (by omega) (by omega)).mono ?_
      rw[hcz.out]
      rintro e w2 ⟨rfl,hb2⟩
      have hx:=hx.bl hb2
      have hx':=hx'.bl hb2
      have hr:=hr.bl hb2
      have hbW:=hbW.next hb2
      clear hb2
      obtain⟨i0,i1,i2⟩:=bx3 hx
      obtain⟨j0,j1,j2⟩:=bx3 hx'
      go_wp2_with fail
      refine(copyRat_any _ (k.bl hbW) (by omega) (by omega)).mono ?_
      rintro e w3 ⟨A1,n1,c1,B1,m1,d1,rfl,hR,hb3⟩
      have hR:=hR.mono (show w.heap.size+1+1+1≤w2.heap.size from hr.lt)
      rw[← hval.out] at hR
      have hx:=hx.bl hb3
      have hx':=hx'.bl hb3
      have hr:=hr.bl hb3
      have hbW:=hbW.next hb3
      clear hb3
      obtain⟨i0,i1,i2⟩:=bx3 hx
      obtain⟨j0,j1,j2⟩:=bx3 hx'
      obtain⟨v0,x0⟩:=hr.val_ (i:=0) (by omega)
      obtain⟨v1,x1⟩:=hr.val_ (i:=1) (by omega)
      obtain⟨v2,x2⟩:=hr.val_ (i:=2) (by omega)
      have hg:=hr.lt
      obtain⟨cs4,hB4,hc4⟩:=hr
      have hf0:=hB4.frozen 0
      have hf1:=hB4.frozen 1
      have hf2:=hB4.frozen 2
      go_wp2_with fail
      exact bodyPost_ret (v:=.agg #[.bool s',.slice A1 n1 c1,.slice B1 m1 d1]) (by simp[results,Tryz.results66,go_sem,x0,x1,x2]) rfl ⟨_,_,_,_,_,_,_,rfl,(((hR.far (by simp) _).far (by simp) _).far (by simp) _).mono (by omega),slc⟩
  · have hall:=Lib.hid (fun hk=> ho (allOk_two.1 hk):¬ AllOk [r,r'])
    have hval:=Lib.hid (show maxR r r'=zR by unfold maxR;rw[if_neg ho])
    have ho:=Lib.hid ho;rename_i h_;clear h_
    go_enter Tryz.func66,Tryz.ntmps66
    go_wp2_with fail
    refine calls_gen (fun W=> Bl w W∧Blk W (w.heap.size) 31 #[.bool s,.slice A n c,.slice B m d]∧Blk W (w.heap.size+1) 31 #[.bool s',.slice A' n' c',.slice B' m' d']∧Wk 3 31 (w.heap.size+1+1) W∧Blk W (w.heap.size+1+1+1) 31 #[.bool s,.slice A n c,.slice B m d,.bool s',.slice A' n' c',.slice B' m' d']) ⟨slc,bts,bts,bts,Blk.new3 _ _ _ _ _ _⟩ ?_
    rintro W ⟨hbW,hx,hx',hr,hy⟩
    refine(areRats_no _ (RdRS.two hy (h.bl hbW) (k.bl hbW)) hall.out).mono ?_
    rintro e w1 ⟨rfl,hb1⟩
    clear hy
    have hx:=hx.bl hb1
    have hx':=hx'.bl hb1
    have hr:=hr.bl hb1
    have hbW:=hbW.next hb1
    clear hb1
    obtain⟨i0,i1,i2⟩:=bx3 hx
    obtain⟨j0,j1,j2⟩:=bx3 hx'
    obtain⟨v0,x0⟩:=hr.val_ (i:=0) (by omega)
    obtain⟨v1,x1⟩:=hr.val_ (i:=1) (by omega)
    obtain⟨v2,x2⟩:=hr.val_ (i:=2) (by omega)
    have hg:=hr.lt
    obtain⟨cs4,hB4,hc4⟩:=hr
    have hf0:=hB4.frozen 0
    have hf1:=hB4.frozen 1
    have hf2:=hB4.frozen 2
    go_wp2_with fail
    exact bodyPost_ret (v:=.agg #[.bool false,.slice none 0 0,.slice none 0 0]) (by simp[results,Tryz.results66,go_sem,x0,x1,x2]) rfl ⟨_,_,_,_,_,_,_,rfl,by rw[hval.out];exact OwR.zero _ _ _,slc⟩

theorem divR_inv {r r':RatD}(ho:OkR r) (ho':OkR r') (hx:rn r'≠0):mulR r ⟨r'.neg,r'.den,r'.mag⟩=divR r r':=by
  have g:=ho'.get
  have hD:(0:Int) < (rd r':Int):=by have:=g.2.1;omega
  generalize hX:rn r'=X at *
  generalize hE:rd r'=E at *
  have hq:r'=raw X E:=by rw[← hX,← hE];have:=g.1;rw[hX,hE] at *;exact this
  have e:(⟨r'.neg,r'.den,r'.mag⟩:RatD)=raw ((E:Int) * (if X < 0 then -1 else 1)) X.natAbs:=by
    rw[hq]
    unfold raw
    rcases Int.lt_or_le X 0 with h | h
    · rw[if_pos h]
      have e1:decide ((E:Int) * -1 < 0)=decide (X < 0):=by rw[decide_eq_decide];omega
      have e2:((E:Int) * -1).natAbs=E:=by omega
      rw[e1,e2]
    · rw[if_neg (by omega)]
      have e1:decide ((E:Int) * 1 < 0)=decide (X < 0):=by rw[decide_eq_decide];omega
      have e2:((E:Int) * 1).natAbs=E:=by omega
      rw[e1,e2]
  have e3:((E:Int) * (if X < 0 then -1 else 1)).natAbs=E:=by split <;> omega
  have ok:OkR (raw ((E:Int) * (if X < 0 then -1 else 1)) X.natAbs):=⟨_,_,rfl,by omega,by rw[e3,Nat.gcd_comm];exact g.2.2.1,by rw[e3];exact g.2.2.2.2,g.2.2.2.1⟩
  rw[e]
  have a1:∀ q,OkR q→mulR r q=ofFrac (rn r * rn q) (rd r * rd q):=fun q hq=> by unfold mulR;exact if_pos ⟨ho,hq⟩
  have a2:divR r r'=ofFrac (rn r * rd r' * (if rn r' < 0 then -1 else 1)) (rd r * (rn r').natAbs):=by unfold divR;exact if_pos ⟨ho,ho',by rw[hX];exact hx⟩
  rw[a1 _ ok,a2,rn_raw,rd_raw,hX,hE,Int.mul_assoc]
set_option maxRecDepth 100000 in
set_option maxHeartbeats 4000000 in
theorem RatDiv_any (w:World) {s:Bool}{A:Option Addr}{n c:Nat}{B:Option Addr}{m d:Nat}{r:RatD}{s':Bool}{A':Option Addr}{n' c':Nat}{B':Option Addr}{m' d':Nat}{r':RatD}(h:RdR w s A n c B m d r) (k:RdR w s' A' n' c' B' m' d' r') :
    Calls Tryz.prog 68 #[.agg #[.bool s,.slice A n c,.slice B m d],.agg #[.bool s',.slice A' n' c',.slice B' m' d']] w fun e w'=> ∃ s1 A1 n1 c1 B1 m1 d1,e=.returned (.agg #[.bool s1,.slice A1 n1 c1,.slice B1 m1 d1])∧OwR 3 w.heap.size w' s1 A1 n1 c1 B1 m1 d1 (divR r r')∧Bl w w':=by
  by_cases ho:OkR r∧OkR r'
  · have hall:=Lib.hid (allOk_two.2 ho)
    have hI':=IsR.out k ho.2
    have hln:=hI'.num.lenN
    by_cases hx0:rn r'=0
    · have hval:=Lib.hid (show divR r r'=zR by unfold divR;rw[if_neg (fun hk=> hk.2.2 hx0)])
      have hn0:n'=0:=by rw[← hln,hx0];exact List.length_eq_zero_iff.2 (dig_nil.2 rfl)
      have hne:((n':Int) == 0)=true:=by simp[hn0]
      clear ho hI' hln hx0 hn0
      go_enter Tryz.func68,Tryz.ntmps68
      go_wp2_with fail
      refine calls_gen (fun W=> Bl w W∧Blk W (w.heap.size) 31 #[.bool s,.slice A n c,.slice B m d]∧Blk W (w.heap.size+1) 31 #[.bool s',.slice A' n' c',.slice B' m' d']∧Wk 3 31 (w.heap.size+1+1) W∧Blk W (w.heap.size+1+1+1) 31 #[.bool s,.slice A n c,.slice B m d,.bool s',.slice A' n' c',.slice B' m' d']) ⟨slc,bts,bts,bts,Blk.new3 _ _ _ _ _ _⟩ ?_
      rintro W ⟨hbW,hx,hx',hr,hy⟩
      refine(areRats_yes _ (RdRS.two hy (h.bl hbW) (k.bl hbW)) hall.out).mono ?_
      rintro e w1 ⟨rfl,hb1⟩
      clear hy
      have hx:=hx.bl hb1
      have hx':=hx'.bl hb1
      have hr:=hr.bl hb1
      have hbW:=hbW.next hb1
      clear hb1
      obtain⟨i0,i1,i2⟩:=bx3 hx
      obtain⟨j0,j1,j2⟩:=bx3 hx'
      obtain⟨v0,x0⟩:=hr.val_ (i:=0) (by omega)
      obtain⟨v1,x1⟩:=hr.val_ (i:=1) (by omega)
      obtain⟨v2,x2⟩:=hr.val_ (i:=2) (by omega)
      have hg:=hr.lt
      obtain⟨cs4,hB4,hc4⟩:=hr
      have hf0:=hB4.frozen 0
      have hf1:=hB4.frozen 1
      have hf2:=hB4.frozen 2
      go_wp2_with fail
      exact bodyPost_ret (v:=.agg #[.bool false,.slice none 0 0,.slice none 0 0]) (by simp[results,Tryz.results68,go_sem,x0,x1,x2]) rfl ⟨_,_,_,_,_,_,_,rfl,by rw[hval.out];exact OwR.zero _ _ _,slc⟩
    · have hval:=Lib.hid (divR_inv ho.1 ho.2 hx0)
      have hpos:0 < n':=by rw[← hln];exact dig_len_pos.2 (by omega)
      have hne:((n':Int) == 0)=false:=by simp;omega
      have hinv:RdR w s' B' m' d' A' n' c' ⟨r'.neg,r'.den,r'.mag⟩:=⟨k.neg,k.den,k.mag⟩
      clear ho hI' hln
      have hx0:=Lib.hid hx0;rename_i h_;clear h_
      go_enter Tryz.func68,Tryz.ntmps68
      go_wp2_with fail
      refine calls_gen (fun W=> Bl w W∧Blk W (w.heap.size) 31 #[.bool s,.slice A n c,.slice B m d]∧Blk W (w.heap.size+1) 31 #[.bool s',.slice A' n' c',.slice B' m' d']∧Wk 3 31 (w.heap.size+1+1) W∧Blk W (w.heap.size+1+1+1) 31 #[.bool s,.slice A n c,.slice B m d,.bool s',.slice A' n' c',.slice B' m' d']) ⟨slc,bts,bts,bts,Blk.new3 _ _ _ _ _ _⟩ ?_
      rintro W ⟨hbW,hx,hx',hr,hy⟩
      refine(areRats_yes _ (RdRS.two hy (h.bl hbW) (k.bl hbW)) hall.out).mono ?_
      rintro e w1 ⟨rfl,hb1⟩
      clear hy
      have hx:=hx.bl hb1
      have hx':=hx'.bl hb1
      have hr:=hr.bl hb1
      have hbW:=hbW.next hb1
      clear hb1
      obtain⟨i0,i1,i2⟩:=bx3 hx
      obtain⟨j0,j1,j2⟩:=bx3 hx'
      go_wp2_with fail
      refine(RatMul_any _ (h.bl hbW) (hinv.bl hbW)).mono ?_
      rintro e w2 ⟨s1,A1,n1,c1,B1,m1,d1,rfl,hR,hb2⟩
      have hR:=hR.mono (show w.heap.size+1+1+1≤w1.heap.size from hr.lt)
      rw[hval.out] at hR
      have hx:=hx.bl hb2
      have hx':=hx'.bl hb2
      have hr:=hr.bl hb2
      have hbW:=hbW.next hb2
      clear hb2
      obtain⟨i0,i1,i2⟩:=bx3 hx
      obtain⟨j0,j1,j2⟩:=bx3 hx'
      obtain⟨v0,x0⟩:=hr.val_ (i:=0) (by omega)
      obtain⟨v1,x1⟩:=hr.val_ (i:=1) (by omega)
      obtain⟨v2,x2⟩:=hr.val_ (i:=2) (by omega)
      have hg:=hr.lt
      obtain⟨cs4,hB4,hc4⟩:=hr
      have hf0:=hB4.frozen 0
      have hf1:=hB4.frozen 1
      have hf2:=hB4.frozen 2
      go_wp2_with fail
      exact bodyPost_ret (v:=.agg #[.bool s1,.slice A1 n1 c1,.slice B1 m1 d1]) (by simp[results,Tryz.results68,go_sem,x0,x1,x2]) rfl ⟨_,_,_,_,_,_,_,rfl,(((hR.far (by simp) _).far (by simp) _).far (by simp) _).mono (by omega),slc⟩
  · have hall:=Lib.hid (fun hk=> ho (allOk_two.1 hk):¬ AllOk [r,r'])
    have hval:=Lib.hid (show divR r r'=zR by unfold divR;rw[if_neg (fun hk=> ho ⟨hk.1,hk.2.1⟩)])
    have ho:=Lib.hid ho;rename_i h_;clear h_
    go_enter Tryz.func68,Tryz.ntmps68
    go_wp2_with fail
    refine calls_gen (fun W=> Bl w W∧Blk W (w.heap.size) 31 #[.bool s,.slice A n c,.slice B m d]∧Blk W (w.heap.size+1) 31 #[.bool s',.slice A' n' c',.slice B' m' d']∧Wk 3 31 (w.heap.size+1+1) W∧Blk W (w.heap.size+1+1+1) 31 #[.bool s,.slice A n c,.slice B m d,.bool s',.slice A' n' c',.slice B' m' d']) ⟨slc,bts,bts,bts,Blk.new3 _ _ _ _ _ _⟩ ?_
    rintro W ⟨hbW,hx,hx',hr,hy⟩
    refine(areRats_no _ (RdRS.two hy (h.bl hbW) (k.bl hbW)) hall.out).mono ?_
    rintro e w1 ⟨rfl,hb1⟩
    clear hy
    have hx:=hx.bl hb1
    have hx':=hx'.bl hb1
    have hr:=hr.bl hb1
    have hbW:=hbW.next hb1
    clear hb1
    obtain⟨i0,i1,i2⟩:=bx3 hx
    obtain⟨j0,j1,j2⟩:=bx3 hx'
    obtain⟨v0,x0⟩:=hr.val_ (i:=0) (by omega)
    obtain⟨v1,x1⟩:=hr.val_ (i:=1) (by omega)
    obtain⟨v2,x2⟩:=hr.val_ (i:=2) (by omega)
    have hg:=hr.lt
    obtain⟨cs4,hB4,hc4⟩:=hr
    have hf0:=hB4.frozen 0
    have hf1:=hB4.frozen 1
    have hf2:=hB4.frozen 2
    go_wp2_with fail
    exact bodyPost_ret (v:=.agg #[.bool false,.slice none 0 0,.slice none 0 0]) (by simp[results,Tryz.results68,go_sem,x0,x1,x2]) rfl ⟨_,_,_,_,_,_,_,rfl,by rw[hval.out];exact OwR.zero _ _ _,slc⟩
end

section
open Go.RowKit

theorem box6 {w W:World}{a b c a' b' c':Value}{T:TypeId}(h:Bl (w.alloc (.cells #[a,b,c,a',b',c'] T)) W) :
    W.cell? ⟨w.heap.size,0,none⟩=some a∧W.cell? ⟨w.heap.size,1,none⟩=some b∧W.cell? ⟨w.heap.size,2,none⟩=some c∧W.cell? ⟨w.heap.size,3,none⟩=some a'∧W.cell? ⟨w.heap.size,4,none⟩=some b'∧W.cell? ⟨w.heap.size,5,none⟩=some c':=by
  refine⟨?_,?_,?_,?_,?_,?_⟩ <;> (rw[h.cellOf (by simp)];simp[go_sem])
/-- Block g has six cells that may be written. -/
def Wr6 (T:TypeId) (g:Nat) (W:World):Prop:=∃ cs,Blk W g T cs∧cs.size=6
theorem Wr6.bl {T:TypeId}{g:Nat}{w W:World}(h:Wr6 T g w) (hb:Bl w W):Wr6 T g W:=by
  obtain⟨cs,h1,h2⟩:=h
  exact⟨cs,h1.bl hb,h2⟩
theorem Wr6.set {T:TypeId}{g:Nat}{w:World}(h:Wr6 T g w) (i:Nat) (u:Value):Wr6 T g (w.setCell ⟨g,i,none⟩ u):=by
  obtain⟨cs,h1,h2⟩:=h
  exact⟨_,h1.set_ i u,by simp[h2]⟩
theorem Wr6.new2 (T:TypeId) (w:World) (o:Obj) (a b c a' b' c':Value):Wr6 T (w.heap.size+1) ((w.alloc o).alloc (.cells #[a,b,c,a',b',c'] T)):=by
  have:Wr6 T (w.alloc o).heap.size ((w.alloc o).alloc (.cells #[a,b,c,a',b',c'] T)):=⟨_,Blk.new _ _ _,rfl⟩
  rwa [World.size_alloc] at this
theorem Wr6.drew {T:TypeId}{g:Nat}{w:World}(h:Wr6 T g w):Wr6 T g w.drew:=h
theorem Wr6.out {T:TypeId}{g:Nat}{w:World}(h:Wr6 T g w):(w.cell? ⟨g,0,none⟩=some (cellD w g 0)∧w.cell? ⟨g,1,none⟩=some (cellD w g 1)∧w.cell? ⟨g,2,none⟩=some (cellD w g 2)∧w.cell? ⟨g,3,none⟩=some (cellD w g 3)∧w.cell? ⟨g,4,none⟩=some (cellD w g 4)∧w.cell? ⟨g,5,none⟩=some (cellD w g 5)) ∧
    w.frozen? ⟨g,0,none⟩=false∧w.frozen? ⟨g,1,none⟩=false∧w.frozen? ⟨g,2,none⟩=false∧w.frozen? ⟨g,3,none⟩=false∧w.frozen? ⟨g,4,none⟩=false∧w.frozen? ⟨g,5,none⟩=false:=by
  obtain⟨cs,h1,h2⟩:=h
  exact⟨⟨cellD_eq (h1.some (by omega)),cellD_eq (h1.some (by omega)),cellD_eq (h1.some (by omega)),cellD_eq (h1.some (by omega)),cellD_eq (h1.some (by omega)),cellD_eq (h1.some (by omega))⟩,h1.frozen 0,h1.frozen 1,h1.frozen 2,h1.frozen 3,h1.frozen 4,h1.frozen 5⟩
/-- A point in memory of its own from block b0 on. -/
def OwP (T:TypeId) (b0:Nat) (w:World) (s:Bool) (A:Option Addr) (n c:Nat) (B:Option Addr) (m d:Nat) (t:Bool) (C:Option Addr) (i e:Nat) (D:Option Addr) (j f:Nat) (p:PtD):Prop :=
  ∃ b1 b2,FtR T w s A n c B m d p.x b1∧FtR T w t C i e D j f p.y b2∧Fp b0 w.heap.size (b1 ++ b2)
section
variable {T:TypeId}{b0 b1:Nat}{w w1 W:World}{s:Bool}{A:Option Addr}{n c:Nat}{B:Option Addr}{m d:Nat}{t:Bool}{C:Option Addr}{i e:Nat}{D:Option Addr}{j f:Nat}{p:PtD}
theorem OwP.two (h:OwR T b0 w1 s A n c B m d p.x) (k:OwR T w1.heap.size w t C i e D j f p.y) (hb:Bl w1 w) (h0:b0≤w1.heap.size):OwP T b0 w s A n c B m d t C i e D j f p:=by
  obtain⟨c1,h1,f1⟩:=h
  obtain⟨c2,h2,f2⟩:=k
  exact⟨c1,c2,h1.bl hb,h2,f1.app f2 (Nat.le_refl _) h0 hb.size⟩
theorem OwP.far (h:OwP T b0 w s A n c B m d t C i e D j f p) {q:Addr}(hp:q.block < b0) (u:Value):OwP T b0 (w.setCell q u) s A n c B m d t C i e D j f p:=by
  obtain⟨c1,c2,h1,h2,hf⟩:=h
  exact⟨c1,c2,h1.keep (by simp) (fun b hb=> Below.heap_setCell w q u b (by have:=(hf.2 b (by simp[hb])).1;omega)),h2.keep (by simp) (fun b hb=> Below.heap_setCell w q u b (by have:=(hf.2 b (by simp[hb])).1;omega)),hf.mono (Nat.le_refl _) (by simp)⟩
theorem OwP.low (h:OwP T b1 w s A n c B m d t C i e D j f p) (hb:b0≤b1):OwP T b0 w s A n c B m d t C i e D j f p:=by
  obtain⟨c1,c2,h1,h2,hf⟩:=h
  exact⟨c1,c2,h1,h2,hf.mono hb (Nat.le_refl _)⟩
end

set_option maxRecDepth 100000 in
set_option maxHeartbeats 8000000 in
theorem copyPoint_any (w:World) {s:Bool}{A:Option Addr}{n c:Nat}{B:Option Addr}{m d:Nat}{t:Bool}{C:Option Addr}{i e:Nat}{D:Option Addr}{j f:Nat}{p:PtD}(h:RdR w s A n c B m d p.x) (k:RdR w t C i e D j f p.y) (hn:n≤1048576) (hm:m≤1048576) (hi:i≤1048576) (hj:j≤1048576) :
    Calls Tryz.prog 70 #[.agg #[.bool s,.slice A n c,.slice B m d,.bool t,.slice C i e,.slice D j f]] w fun en w'=> ∃ A' n' c' B' m' d' C' i' e' D' j' f',en=.returned (.agg #[.bool s,.slice A' n' c',.slice B' m' d',.bool t,.slice C' i' e',.slice D' j' f'])∧OwP 3 w.heap.size w' s A' n' c' B' m' d' t C' i' e' D' j' f' p∧Bl w w':=by
  go_enter Tryz.func70,Tryz.ntmps70
  go_wp2_with fail
  go_region_held3 (fun w' =>(w'.cell? ⟨w.heap.size,0,none⟩=some (.bool s)∧w'.cell? ⟨w.heap.size,1,none⟩=some (.slice A n c)∧w'.cell? ⟨w.heap.size,2,none⟩=some (.slice B m d)∧w'.cell? ⟨w.heap.size,3,none⟩=some (.bool t)∧w'.cell? ⟨w.heap.size,4,none⟩=some (.slice C i e)∧w'.cell? ⟨w.heap.size,5,none⟩=some (.slice D j f))∧(w'.cell? ⟨w.heap.size+1,0,none⟩=some (cellD w' (w.heap.size+1) 0)∧w'.cell? ⟨w.heap.size+1,1,none⟩=some (cellD w' (w.heap.size+1) 1)∧w'.cell? ⟨w.heap.size+1,2,none⟩=some (cellD w' (w.heap.size+1) 2)∧w'.cell? ⟨w.heap.size+1,3,none⟩=some (cellD w' (w.heap.size+1) 3)∧w'.cell? ⟨w.heap.size+1,4,none⟩=some (cellD w' (w.heap.size+1) 4)∧w'.cell? ⟨w.heap.size+1,5,none⟩=some (cellD w' (w.heap.size+1) 5))∧w'.frozen? ⟨w.heap.size+1,0,none⟩=false∧w'.frozen? ⟨w.heap.size+1,1,none⟩=false∧w'.frozen? ⟨w.heap.size+1,2,none⟩=false∧w'.frozen? ⟨w.heap.size+1,3,none⟩=false∧w'.frozen? ⟨w.heap.size+1,4,none⟩=false∧w'.frozen? ⟨w.heap.size+1,5,none⟩=false) (first | exact⟨box6 slc,Wr6.out (T:=76) (by repeat (first | with_reducible exact Wr6.new2 _ _ _ _ _ _ _ _ _ |(with_reducible refine Wr6.drew ?_) |(with_reducible refine Wr6.set ?_ _ _) |(with_reducible refine Wr6.bl ?_ ‹Bl _ _›)))⟩) (first |(go_at_call 73;with_reducible refine(copyRat_any _ (h.bl slc) hn hm).mono ?_;rintro en w3 ⟨A1,k1,c1,A2,k2,c2,rfl,hO1,hb3⟩) |(go_at_call 73;with_reducible refine(copyRat_any _ (k.bl slc) hi hj).mono ?_;rintro en w4 ⟨A3,k3,c3,A4,k4,c4,rfl,hO2,hb4⟩))
  have hb1:Bl w w4:=slc
  have hz3:=hb3.size
  have hz4:=hb4.size
  have hsz:w.heap.size+2≤((w.alloc (.cells #[.bool s,.slice A n c,.slice B m d,.bool t,.slice C i e,.slice D j f] 76)).alloc (.cells #[.bool false,.slice none 0 0,.slice none 0 0,.bool false,.slice none 0 0,.slice none 0 0] 76)).heap.size:=by simp
  have hR:OwP 3 (w.heap.size+2) w4 s A1 k1 c1 A2 k2 c2 t A3 k3 c3 A4 k4 c4 p:=(OwP.two hO1 hO2 hb4 hz3).low hsz
  have hg:w.heap.size+1 < w4.heap.size:=Nat.lt_of_lt_of_le (show w.heap.size+1 < w.heap.size+2 by omega) (Nat.le_trans hsz (Nat.le_trans hz3 hz4))
  obtain⟨cs3,hB3,hcs3⟩:Wr6 76 (w.heap.size+1) w4:=((Wr6.new2 76 w _ _ _ _ _ _ _).drew.bl hb3).bl hb4
  obtain⟨v0,x0⟩:=hB3.some (i:=0) (by omega)
  obtain⟨v1,x1⟩:=hB3.some (i:=1) (by omega)
  obtain⟨v2,x2⟩:=hB3.some (i:=2) (by omega)
  obtain⟨v3,x3⟩:=hB3.some (i:=3) (by omega)
  obtain⟨v4,x4⟩:=hB3.some (i:=4) (by omega)
  obtain⟨v5,x5⟩:=hB3.some (i:=5) (by omega)
  go_wp2_with fail
  refine bodyPost_ret (v:=.agg #[.bool s,.slice A1 k1 c1,.slice A2 k2 c2,.bool t,.slice A3 k3 c3,.slice A4 k4 c4]) (by simp[results,Tryz.results70,go_sem,x0,x1,x2,x3,x4,x5]) rfl ⟨_,_,_,_,_,_,_,_,_,_,_,_,rfl,((((((hR.far (by simp) _).far (by simp) _).far (by simp) _).far (by simp) _).far (by simp) _).far (by simp) _).low (by omega),slc⟩
end

end Go.Proofs.YtjaapemopbbfaaaGreat
