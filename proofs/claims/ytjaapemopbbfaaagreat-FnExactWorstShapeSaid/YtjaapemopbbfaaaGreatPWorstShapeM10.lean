/- Lemmas. -/
import Derived.Test.YtjaapemopbbfaaaGreatRows
import Derived.Test.YtjaapemopbbfaaaGreatPWorstShapeM09
namespace Go.Proofs.YtjaapemopbbfaaaGreat
section
open Go.RowKit

theorem dig_mul_len {N M a b:Nat}(h1:(dig N).length≤a) (h2:(dig M).length≤b):(dig (N * M)).length≤a+b:=by
  rw[dig_len_le] at *
  rw[Nat.pow_add]
  exact Nat.mul_lt_mul'' h1 h2
theorem bm_len {T:TypeId}{b0:Nat}{w:World}{s:Bool}{A:Option Addr}{n c:Nat}{x y:Int}(h:OwB T b0 w s A n c (x * y)) (hl:(dig x.natAbs).length+(dig y.natAbs).length≤1048576):n≤1048576:=by
  rw[← h.len,Int.natAbs_mul]
  exact Nat.le_trans (dig_mul_len (Nat.le_refl _) (Nat.le_refl _)) hl
theorem mul_lim {a b:Int}(h1 : -1000000000 < a) (h2:a < 1000000000) (h3:0≤b) (h4:b < 1000000000) : -1000000000000000000≤a * b∧a * b≤1000000000000000000:=by
  have e1:a * b≤1000000000 * b:=Int.mul_le_mul_of_nonneg_right (by omega) h3
  have e2 : -1000000000 * b≤a * b:=Int.mul_le_mul_of_nonneg_right (by omega) h3
  omega
set_option maxRecDepth 100000 in
set_option maxHeartbeats 4000000 in
theorem plus_small (w:World) {s:Bool}{A:Option Addr}{n c:Nat}{B:Option Addr}{m d:Nat}{x:Int}{D:Nat}{s':Bool}{A':Option Addr}{n' c':Nat}{B':Option Addr}{m' d':Nat}{x':Int}{D':Nat}(h:IsR w s A n c B m d x D) (k:IsR w s' A' n' c' B' m' d' x' D') (hn:n≤1) (hm:m=1) (hn':n'≤1) (hm':m'=1) :
    Calls Tryz.prog 143 #[.agg #[.bool s,.slice A n c,.slice B m d],.agg #[.bool s',.slice A' n' c',.slice B' m' d']] w fun e w'=> ∃ s1 A1 n1 c1 B1 m1 d1,e=.returned (.agg #[.bool s1,.slice A1 n1 c1,.slice B1 m1 d1])∧OwR 3 w.heap.size w' s1 A1 n1 c1 B1 m1 d1 (ofFrac (x * D'+x' * D) (D * D'))∧Bl w w':=by
  subst hm hm'
  have hx0:=small_le (N:=x.natAbs) (by rw[h.num.lenN];exact hn)
  have hx0':=small_le (N:=x'.natAbs) (by rw[k.num.lenN];exact hn')
  have hD:=(one_limb h.dn.lenN).2
  have hD':=(one_limb k.dn.lenN).2
  have l1:=mul_lim (a:=x) (b:=(D':Int)) (by omega) (by omega) (by omega) (by omega)
  have l2:=mul_lim (a:=x') (b:=(D:Int)) (by omega) (by omega) (by omega) (by omega)
  have l3:=mul_lim (a:=(D:Int)) (b:=(D':Int)) (by omega) (by omega) (by omega) (by omega)
  have hDD:0 < D * D':=Nat.mul_pos hD.2 hD'.2
  have hfin:Hid (ofFrac (x * D'+x' * D) (D * D')=ofFrac (x * D'+x' * D) (D * D')):=rfl
  generalize e1:x * (D':Int)=p1 at *
  generalize e2:x' * (D:Int)=p2 at *
  have e3:(D:Int) * (D':Int)=((D * D':Nat):Int):=by rw[Int.natCast_mul]
  rw[e3] at l3
  generalize hP:D * D'=P at *
  have hP:=Lib.hid hP;rename_i h_;clear h_
  clear hx0 hx0'
  go_enter Tryz.func143,Tryz.ntmps143
  go_wp2_with fail
  refine calls_gen (fun W=> Bl w W∧Blk W (w.heap.size) 31 #[.bool s,.slice A n c,.slice B 1 d]∧Blk W (w.heap.size+1) 31 #[.bool s',.slice A' n' c',.slice B' 1 d']∧Wk 3 31 (w.heap.size+1+1) W) ⟨slc,bts,bts,bts⟩ ?_
  rintro W ⟨hbW,hx,hx',hr⟩
  refine(isSmall_yes _ hn rfl).mono ?_
  rintro e w3 ⟨rfl,hb3⟩
  have hx:=hx.bl hb3
  have hx':=hx'.bl hb3
  have hr:=hr.bl hb3
  have hbW:=hbW.next hb3
  clear hb3
  obtain⟨i0,i1,i2⟩:=bx3 hx
  obtain⟨j0,j1,j2⟩:=bx3 hx'
  go_wp2_with fail
  refine(isSmall_yes _ hn' rfl).mono ?_
  rintro e w4 ⟨rfl,hb4⟩
  have hx:=hx.bl hb4
  have hx':=hx'.bl hb4
  have hr:=hr.bl hb4
  have hbW:=hbW.next hb4
  clear hb4
  obtain⟨i0,i1,i2⟩:=bx3 hx
  obtain⟨j0,j1,j2⟩:=bx3 hx'
  go_wp2_with fail
  refine(small_any _ (h.bl hbW) hn).mono ?_
  rintro e w5 ⟨rfl,hb5⟩
  have hx:=hx.bl hb5
  have hx':=hx'.bl hb5
  have hr:=hr.bl hb5
  have hbW:=hbW.next hb5
  clear hb5
  obtain⟨i0,i1,i2⟩:=bx3 hx
  obtain⟨j0,j1,j2⟩:=bx3 hx'
  go_wp2_with fail
  refine(small_any _ (k.bl hbW) hn').mono ?_
  rintro e w6 ⟨rfl,hb6⟩
  have hx:=hx.bl hb6
  have hx':=hx'.bl hb6
  have hr:=hr.bl hb6
  have hbW:=hbW.next hb6
  clear hb6
  obtain⟨i0,i1,i2⟩:=bx3 hx
  obtain⟨j0,j1,j2⟩:=bx3 hx'
  go_wp2_with fail
  refine(ofInts_any _ (p1+p2) P (by omega) (by omega) hDD (by omega)).mono ?_
  rintro e w7 ⟨s1,A1,n1,c1,B1,m1,d1,rfl,hR,hb7⟩
  have hR:=hR.mono (show w.heap.size+1+1+1≤w6.heap.size from hr.lt)
  have hx:=hx.bl hb7
  have hx':=hx'.bl hb7
  have hr:=hr.bl hb7
  have hbW:=hbW.next hb7
  clear hb7
  obtain⟨i0,i1,i2⟩:=bx3 hx
  obtain⟨j0,j1,j2⟩:=bx3 hx'
  obtain⟨v0,x0⟩:=hr.val_ (i:=0) (by omega)
  obtain⟨v1,x1⟩:=hr.val_ (i:=1) (by omega)
  obtain⟨v2,x2⟩:=hr.val_ (i:=2) (by omega)
  have hg:=hr.lt
  obtain⟨cs4,hB4,hc4⟩:=hr
  have hf0:=hB4.frozen 0
  have hf1:=hB4.frozen 1
  have hf2:=hB4.frozen 2
  go_wp2_with fail
  exact bodyPost_ret (v:=.agg #[.bool s1,.slice A1 n1 c1,.slice B1 m1 d1]) (by simp[results,Tryz.results143,go_sem,x0,x1,x2]) rfl ⟨_,_,_,_,_,_,_,rfl,(((hR.far (by simp) _).far (by simp) _).far (by simp) _).mono (by omega),slc⟩


theorem add_len {x y:Int}{a b:Nat}(h1:(dig x.natAbs).length≤a) (h2:(dig y.natAbs).length≤b):(dig (x+y).natAbs).length≤a+b+1:=by
  rw[dig_len_le] at *
  have e:(x+y).natAbs≤x.natAbs+y.natAbs:=Int.natAbs_add_le x y
  have p1:Bs ^ a≤Bs ^ (a+b):=Nat.pow_le_pow_right Bs_pos (by omega)
  have p2:Bs ^ b≤Bs ^ (a+b):=Nat.pow_le_pow_right Bs_pos (by omega)
  rw[Nat.pow_succ,Bs_eq] at *
  omega
theorem imul_len {x y:Int}{a b:Nat}(h1:(dig x.natAbs).length≤a) (h2:(dig y.natAbs).length≤b):(dig (x * y).natAbs).length≤a+b:=by
  rw[Int.natAbs_mul];exact dig_mul_len h1 h2

set_option maxRecDepth 100000 in
set_option maxHeartbeats 16000000 in
theorem plus_big_yes (w:World) {s:Bool}{A:Option Addr}{n c:Nat}{B:Option Addr}{m d:Nat}{x:Int}{D:Nat}{s':Bool}{A':Option Addr}{n' c':Nat}{B':Option Addr}{m' d':Nat}{x':Int}{D':Nat}(h:IsR w s A n c B m d x D) (k:IsR w s' A' n' c' B' m' d' x' D') (hn:n≤262143) (hm:m≤262143) (hn':n'≤262143) (hm':m'≤262143) (hD:0 < D) (hD':0 < D') (h1:n≤1∧m=1) (h2:¬ (n'≤1∧m'=1)) :
    Calls Tryz.prog 143 #[.agg #[.bool s,.slice A n c,.slice B m d],.agg #[.bool s',.slice A' n' c',.slice B' m' d']] w fun e w'=> ∃ s1 A1 n1 c1 B1 m1 d1,e=.returned (.agg #[.bool s1,.slice A1 n1 c1,.slice B1 m1 d1])∧OwR 3 w.heap.size w' s1 A1 n1 c1 B1 m1 d1 (ofFrac (x * D'+x' * D) (D * D'))∧Bl w w':=by
  have q1:=h.num.lenN
  have q2:=h.dn.lenN
  have q3:=k.num.lenN
  have q4:=k.dn.lenN
  have q2':(dig (D:Int).natAbs).length=m:=by rw[Int.natAbs_natCast];exact q2
  have q4':(dig (D':Int).natAbs).length=m':=by rw[Int.natAbs_natCast];exact q4
  have hl1:(dig x.natAbs).length+(dig (D':Int).natAbs).length≤1048576:=by omega
  have hl2:(dig x'.natAbs).length+(dig (D:Int).natAbs).length≤1048576:=by omega
  have hl3:(dig (x * D'+x' * D).natAbs).length≤1048576:=Nat.le_trans (add_len (imul_len (Nat.le_of_eq q1) (Nat.le_of_eq q4')) (imul_len (Nat.le_of_eq q3) (Nat.le_of_eq q2'))) (by omega)
  have hlD:(dig (D * D')).length≤1048576:=Nat.le_trans (dig_mul_len (Nat.le_of_eq q2) (Nat.le_of_eq q4)) (by omega)
  have hDD:0 < D * D':=Nat.mul_pos hD hD'
  clear q1 q2 q3 q4 q2' q4'
  have h1:=Lib.hid h1;rename_i h_;clear h_
  have h2:=Lib.hid h2;rename_i h_;clear h_
  go_enter Tryz.func143,Tryz.ntmps143
  go_wp2_with fail
  refine calls_gen (fun W=> Bl w W∧Blk W (w.heap.size) 31 #[.bool s,.slice A n c,.slice B m d]∧Blk W (w.heap.size+1) 31 #[.bool s',.slice A' n' c',.slice B' m' d']∧Wk 3 31 (w.heap.size+1+1) W) ⟨slc,bts,bts,bts⟩ ?_
  rintro W ⟨hbW,hx,hx',hr⟩
  refine(isSmall_yes _ h1.out.1 h1.out.2).mono ?_
  rintro e w2 ⟨rfl,hb2⟩
  have hx:=hx.bl hb2
  have hx':=hx'.bl hb2
  have hr:=hr.bl hb2
  have hbW:=hbW.next hb2
  clear hb2
  obtain⟨i0,i1,i2⟩:=bx3 hx
  obtain⟨j0,j1,j2⟩:=bx3 hx'
  go_wp2_with fail
  refine(isSmall_no _ h2.out).mono ?_
  rintro e w3 ⟨rfl,hb3⟩
  have hx:=hx.bl hb3
  have hx':=hx'.bl hb3
  have hr:=hr.bl hb3
  have hbW:=hbW.next hb3
  clear hb3
  obtain⟨i0,i1,i2⟩:=bx3 hx
  obtain⟨j0,j1,j2⟩:=bx3 hx'
  go_wp2_with fail
  have hz3:w.heap.size+1+1 < w3.heap.size:=hr.lt
  go_region_held3 (fun w' =>(w'.cell? ⟨w.heap.size,0,none⟩=some (.bool s)∧w'.cell? ⟨w.heap.size,1,none⟩=some (.slice A n c)∧w'.cell? ⟨w.heap.size,2,none⟩=some (.slice B m d))∧(w'.cell? ⟨w.heap.size+1,0,none⟩=some (.bool s')∧w'.cell? ⟨w.heap.size+1,1,none⟩=some (.slice A' n' c')∧w'.cell? ⟨w.heap.size+1,2,none⟩=some (.slice B' m' d'))∧(w'.cell? ⟨w.heap.size+1+1,0,none⟩=some (cellD w' (w.heap.size+1+1) 0)∧w'.cell? ⟨w.heap.size+1+1,1,none⟩=some (cellD w' (w.heap.size+1+1) 1)∧w'.cell? ⟨w.heap.size+1+1,2,none⟩=some (cellD w' (w.heap.size+1+1) 2))∧w'.frozen? ⟨w.heap.size+1+1,0,none⟩=false∧w'.frozen? ⟨w.heap.size+1+1,1,none⟩=false∧w'.frozen? ⟨w.heap.size+1+1,2,none⟩=false) (first | exact⟨bx3 (T:=31) bts,bx3 (T:=31) bts,Wk.out3 (T:=31) bts⟩) (first |(go_at_call 120;with_reducible refine(bigMul_any _ (h.b.bl slc) (IsB.of (k.dn.bl slc)) (by omega) (by omega)).mono ?_;rintro e w4 ⟨s2,A2,n2,c2,rfl,hO1,hb4⟩;(have hz4:w.heap.size+1+1 < w4.heap.size:=Wk.lt (k:=3) (T:=31) bts);(first | have hq:Wk 2 29 _ _:=wk_newd hb4 | have hq:Wk 2 29 _ _:=wk_new hb4 | have hq:=Wk.bl hq hb4 | skip)) |(go_at_call 120;with_reducible refine(bigMul_any _ (k.b.bl slc) (IsB.of (h.dn.bl slc)) (by omega) (by omega)).mono ?_;rintro e w5 ⟨s3,A3,n3,c3,rfl,hO2,hb5⟩;(have hz5:w.heap.size+1+1 < w5.heap.size:=Wk.lt (k:=3) (T:=31) bts);(first | have hq:Wk 2 29 _ _:=wk_newd hb5 | have hq:Wk 2 29 _ _:=wk_new hb5 | have hq:=Wk.bl hq hb5 | skip)) |(go_at_call 163;with_reducible refine(bigAdd_any _ (hO1.rd.bl slc) (hO2.rd.bl slc) (bm_len hO1 hl1) (bm_len hO2 hl2)).mono ?_;rintro e w6 ⟨s4,A4,n4,c4,rfl,hO3,hb6⟩;(have hz6:w.heap.size+1+1 < w6.heap.size:=Wk.lt (k:=3) (T:=31) bts);(first | have hq:Wk 2 29 _ _:=wk_newd hb6 | have hq:Wk 2 29 _ _:=wk_new hb6 | have hq:=Wk.bl hq hb6 | skip);(try obtain⟨⟨y0,y1⟩,y2,y3⟩:=hq.out2)))
  · skip
    have hl4:n4≤1048576:=by rw[← hO3.len];exact hl3
    go_wp2_with fail
    refine wp_gen (fun W2=> Bl w W2∧Blk W2 (w6.heap.size) 29 #[.bool s4,.slice A4 n4 c4]∧Blk W2 (w.heap.size) 31 #[.bool s,.slice A n c,.slice B m d]∧Blk W2 (w.heap.size+1) 31 #[.bool s',.slice A' n' c',.slice B' m' d']∧Wk 3 31 (w.heap.size+1+1) W2∧OwB 3 (w.heap.size+1+1+1) W2 s4 A4 n4 c4 (x * D'+x' * D)) ⟨slc,Blk.new _ _ _,bts,bts,bts,(hO3.bl slc).mono (by omega)⟩ ?_
    rintro W2 ⟨hbV,hN,hy,hy',hs,hO⟩
    clear hb4 hb5 hb6 hO1 hO2 hO3 hx hx' hr hbW
    go_region_held3 (fun w' =>(w'.cell? ⟨w6.heap.size,0,none⟩=some (.bool s4)∧w'.cell? ⟨w6.heap.size,1,none⟩=some (.slice A4 n4 c4))∧(w'.cell? ⟨w.heap.size,0,none⟩=some (.bool s)∧w'.cell? ⟨w.heap.size,1,none⟩=some (.slice A n c)∧w'.cell? ⟨w.heap.size,2,none⟩=some (.slice B m d))∧(w'.cell? ⟨w.heap.size+1,0,none⟩=some (.bool s')∧w'.cell? ⟨w.heap.size+1,1,none⟩=some (.slice A' n' c')∧w'.cell? ⟨w.heap.size+1,2,none⟩=some (.slice B' m' d'))∧(w'.cell? ⟨w.heap.size+1+1,0,none⟩=some (cellD w' (w.heap.size+1+1) 0)∧w'.cell? ⟨w.heap.size+1+1,1,none⟩=some (cellD w' (w.heap.size+1+1) 1)∧w'.cell? ⟨w.heap.size+1+1,2,none⟩=some (cellD w' (w.heap.size+1+1) 2))∧w'.frozen? ⟨w.heap.size+1+1,0,none⟩=false∧w'.frozen? ⟨w.heap.size+1+1,1,none⟩=false∧w'.frozen? ⟨w.heap.size+1+1,2,none⟩=false) (first | exact⟨bx2 (T:=29) bts,bx3 (T:=31) bts,bx3 (T:=31) bts,Wk.out3 (T:=31) bts⟩) (first |(go_at_call 147;refine(natMul_any _ (h.dn.bl slc) (k.dn.bl slc) (by omega) (by omega)).mono ?_;rintro e w7 ⟨A5,n5,c5,rfl,hO5,hb7⟩;(have hR7:OwR 3 (w.heap.size+1+1+1) w7 s4 A4 n4 c4 A5 n5 c5 (raw (x * D'+x' * D) (D * D')):=OwR.two' (hO.bl (Bl.drew (Bl.refl _))).2 hO5 hb7 hs.lt hO.1);(have hz7:w.heap.size+1+1 < w7.heap.size:=Wk.lt (k:=3) (T:=31) bts);(have hl5:n5≤1048576:=by rw[← hO5.rd.lenN];exact hlD)) |(go_at_call 146;refine(reduced_any _ hR7 hz7 hl4 hl5 hDD).mono ?_;rintro e w8 ⟨s1,A1,n1,c1,B1,m1,d1,rfl,hR,hb8⟩))
    have hr:=(show Wk 3 31 (w.heap.size+1+1) w8 from bts)
    have hbW:Bl w w8:=slc
    obtain⟨v0,x0⟩:=hr.val_ (i:=0) (by omega)
    obtain⟨v1,x1⟩:=hr.val_ (i:=1) (by omega)
    obtain⟨v2,x2⟩:=hr.val_ (i:=2) (by omega)
    have hg:=hr.lt
    obtain⟨cs4,hB4,hc4⟩:=hr
    have hf0:=hB4.frozen 0
    have hf1:=hB4.frozen 1
    have hf2:=hB4.frozen 2
    go_wp2_with fail
    exact bodyPost_ret (v:=.agg #[.bool s1,.slice A1 n1 c1,.slice B1 m1 d1]) (by simp[results,Tryz.results143,go_sem,x0,x1,x2]) rfl ⟨_,_,_,_,_,_,_,rfl,(((hR.far (by simp) _).far (by simp) _).far (by simp) _).mono (by omega),slc⟩
  · skip
    have hl4:n4≤1048576:=by rw[← hO3.len];exact hl3
    go_wp2_with fail
    refine wp_gen (fun W2=> Bl w W2∧Blk W2 (w5.heap.size) 29 #[.bool s4,.slice A4 n4 c4]∧Blk W2 (w.heap.size) 31 #[.bool s,.slice A n c,.slice B m d]∧Blk W2 (w.heap.size+1) 31 #[.bool s',.slice A' n' c',.slice B' m' d']∧Wk 3 31 (w.heap.size+1+1) W2∧OwB 3 (w.heap.size+1+1+1) W2 s4 A4 n4 c4 (x * D'+x' * D)) ⟨slc,Wk.put2 hq _ _,bts,bts,bts,((hO3.far (by have:=hb4.size;have:=hb5.size;simp at * <;> omega) _).far (by have:=hb4.size;have:=hb5.size;simp at * <;> omega) _).mono (by have:=hb4.size;have:=hb5.size;simp at * <;> omega)⟩ ?_
    rintro W2 ⟨hbV,hN,hy,hy',hs,hO⟩
    clear hb4 hb5 hb6 hO1 hO2 hO3 hx hx' hr hbW
    go_region_held3 (fun w' =>(w'.cell? ⟨w5.heap.size,0,none⟩=some (.bool s4)∧w'.cell? ⟨w5.heap.size,1,none⟩=some (.slice A4 n4 c4))∧(w'.cell? ⟨w.heap.size,0,none⟩=some (.bool s)∧w'.cell? ⟨w.heap.size,1,none⟩=some (.slice A n c)∧w'.cell? ⟨w.heap.size,2,none⟩=some (.slice B m d))∧(w'.cell? ⟨w.heap.size+1,0,none⟩=some (.bool s')∧w'.cell? ⟨w.heap.size+1,1,none⟩=some (.slice A' n' c')∧w'.cell? ⟨w.heap.size+1,2,none⟩=some (.slice B' m' d'))∧(w'.cell? ⟨w.heap.size+1+1,0,none⟩=some (cellD w' (w.heap.size+1+1) 0)∧w'.cell? ⟨w.heap.size+1+1,1,none⟩=some (cellD w' (w.heap.size+1+1) 1)∧w'.cell? ⟨w.heap.size+1+1,2,none⟩=some (cellD w' (w.heap.size+1+1) 2))∧w'.frozen? ⟨w.heap.size+1+1,0,none⟩=false∧w'.frozen? ⟨w.heap.size+1+1,1,none⟩=false∧w'.frozen? ⟨w.heap.size+1+1,2,none⟩=false) (first | exact⟨bx2 (T:=29) bts,bx3 (T:=31) bts,bx3 (T:=31) bts,Wk.out3 (T:=31) bts⟩) (first |(go_at_call 147;refine(natMul_any _ (h.dn.bl slc) (k.dn.bl slc) (by omega) (by omega)).mono ?_;rintro e w7 ⟨A5,n5,c5,rfl,hO5,hb7⟩;(have hR7:OwR 3 (w.heap.size+1+1+1) w7 s4 A4 n4 c4 A5 n5 c5 (raw (x * D'+x' * D) (D * D')):=OwR.two' (hO.bl (Bl.drew (Bl.refl _))).2 hO5 hb7 hs.lt hO.1);(have hz7:w.heap.size+1+1 < w7.heap.size:=Wk.lt (k:=3) (T:=31) bts);(have hl5:n5≤1048576:=by rw[← hO5.rd.lenN];exact hlD)) |(go_at_call 146;refine(reduced_any _ hR7 hz7 hl4 hl5 hDD).mono ?_;rintro e w8 ⟨s1,A1,n1,c1,B1,m1,d1,rfl,hR,hb8⟩))
    have hr:=(show Wk 3 31 (w.heap.size+1+1) w8 from bts)
    have hbW:Bl w w8:=slc
    obtain⟨v0,x0⟩:=hr.val_ (i:=0) (by omega)
    obtain⟨v1,x1⟩:=hr.val_ (i:=1) (by omega)
    obtain⟨v2,x2⟩:=hr.val_ (i:=2) (by omega)
    have hg:=hr.lt
    obtain⟨cs4,hB4,hc4⟩:=hr
    have hf0:=hB4.frozen 0
    have hf1:=hB4.frozen 1
    have hf2:=hB4.frozen 2
    go_wp2_with fail
    exact bodyPost_ret (v:=.agg #[.bool s1,.slice A1 n1 c1,.slice B1 m1 d1]) (by simp[results,Tryz.results143,go_sem,x0,x1,x2]) rfl ⟨_,_,_,_,_,_,_,rfl,(((hR.far (by simp) _).far (by simp) _).far (by simp) _).mono (by omega),slc⟩
  · skip
    have hl4:n4≤1048576:=by rw[← hO3.len];exact hl3
    go_wp2_with fail
    refine wp_gen (fun W2=> Bl w W2∧Blk W2 (w4.heap.size) 29 #[.bool s4,.slice A4 n4 c4]∧Blk W2 (w.heap.size) 31 #[.bool s,.slice A n c,.slice B m d]∧Blk W2 (w.heap.size+1) 31 #[.bool s',.slice A' n' c',.slice B' m' d']∧Wk 3 31 (w.heap.size+1+1) W2∧OwB 3 (w.heap.size+1+1+1) W2 s4 A4 n4 c4 (x * D'+x' * D)) ⟨slc,Wk.put2 hq _ _,bts,bts,bts,((hO3.far (by have:=hb4.size;have:=hb5.size;simp at * <;> omega) _).far (by have:=hb4.size;have:=hb5.size;simp at * <;> omega) _).mono (by have:=hb4.size;have:=hb5.size;simp at * <;> omega)⟩ ?_
    rintro W2 ⟨hbV,hN,hy,hy',hs,hO⟩
    clear hb4 hb5 hb6 hO1 hO2 hO3 hx hx' hr hbW
    go_region_held3 (fun w' =>(w'.cell? ⟨w4.heap.size,0,none⟩=some (.bool s4)∧w'.cell? ⟨w4.heap.size,1,none⟩=some (.slice A4 n4 c4))∧(w'.cell? ⟨w.heap.size,0,none⟩=some (.bool s)∧w'.cell? ⟨w.heap.size,1,none⟩=some (.slice A n c)∧w'.cell? ⟨w.heap.size,2,none⟩=some (.slice B m d))∧(w'.cell? ⟨w.heap.size+1,0,none⟩=some (.bool s')∧w'.cell? ⟨w.heap.size+1,1,none⟩=some (.slice A' n' c')∧w'.cell? ⟨w.heap.size+1,2,none⟩=some (.slice B' m' d'))∧(w'.cell? ⟨w.heap.size+1+1,0,none⟩=some (cellD w' (w.heap.size+1+1) 0)∧w'.cell? ⟨w.heap.size+1+1,1,none⟩=some (cellD w' (w.heap.size+1+1) 1)∧w'.cell? ⟨w.heap.size+1+1,2,none⟩=some (cellD w' (w.heap.size+1+1) 2))∧w'.frozen? ⟨w.heap.size+1+1,0,none⟩=false∧w'.frozen? ⟨w.heap.size+1+1,1,none⟩=false∧w'.frozen? ⟨w.heap.size+1+1,2,none⟩=false) (first | exact⟨bx2 (T:=29) bts,bx3 (T:=31) bts,bx3 (T:=31) bts,Wk.out3 (T:=31) bts⟩) (first |(go_at_call 147;refine(natMul_any _ (h.dn.bl slc) (k.dn.bl slc) (by omega) (by omega)).mono ?_;rintro e w7 ⟨A5,n5,c5,rfl,hO5,hb7⟩;(have hR7:OwR 3 (w.heap.size+1+1+1) w7 s4 A4 n4 c4 A5 n5 c5 (raw (x * D'+x' * D) (D * D')):=OwR.two' (hO.bl (Bl.drew (Bl.refl _))).2 hO5 hb7 hs.lt hO.1);(have hz7:w.heap.size+1+1 < w7.heap.size:=Wk.lt (k:=3) (T:=31) bts);(have hl5:n5≤1048576:=by rw[← hO5.rd.lenN];exact hlD)) |(go_at_call 146;refine(reduced_any _ hR7 hz7 hl4 hl5 hDD).mono ?_;rintro e w8 ⟨s1,A1,n1,c1,B1,m1,d1,rfl,hR,hb8⟩))
    have hr:=(show Wk 3 31 (w.heap.size+1+1) w8 from bts)
    have hbW:Bl w w8:=slc
    obtain⟨v0,x0⟩:=hr.val_ (i:=0) (by omega)
    obtain⟨v1,x1⟩:=hr.val_ (i:=1) (by omega)
    obtain⟨v2,x2⟩:=hr.val_ (i:=2) (by omega)
    have hg:=hr.lt
    obtain⟨cs4,hB4,hc4⟩:=hr
    have hf0:=hB4.frozen 0
    have hf1:=hB4.frozen 1
    have hf2:=hB4.frozen 2
    go_wp2_with fail
    exact bodyPost_ret (v:=.agg #[.bool s1,.slice A1 n1 c1,.slice B1 m1 d1]) (by simp[results,Tryz.results143,go_sem,x0,x1,x2]) rfl ⟨_,_,_,_,_,_,_,rfl,(((hR.far (by simp) _).far (by simp) _).far (by simp) _).mono (by omega),slc⟩
  · skip
    have hl4:n4≤1048576:=by rw[← hO3.len];exact hl3
    go_wp2_with fail
    refine wp_gen (fun W2=> Bl w W2∧Blk W2 (w3.heap.size) 29 #[.bool s4,.slice A4 n4 c4]∧Blk W2 (w.heap.size) 31 #[.bool s,.slice A n c,.slice B m d]∧Blk W2 (w.heap.size+1) 31 #[.bool s',.slice A' n' c',.slice B' m' d']∧Wk 3 31 (w.heap.size+1+1) W2∧OwB 3 (w.heap.size+1+1+1) W2 s4 A4 n4 c4 (x * D'+x' * D)) ⟨slc,Wk.put2 hq _ _,bts,bts,bts,((hO3.far (by have:=hb4.size;have:=hb5.size;simp at * <;> omega) _).far (by have:=hb4.size;have:=hb5.size;simp at * <;> omega) _).mono (by have:=hb4.size;have:=hb5.size;simp at * <;> omega)⟩ ?_
    rintro W2 ⟨hbV,hN,hy,hy',hs,hO⟩
    clear hb4 hb5 hb6 hO1 hO2 hO3 hx hx' hr hbW
    go_region_held3 (fun w' =>(w'.cell? ⟨w3.heap.size,0,none⟩=some (.bool s4)∧w'.cell? ⟨w3.heap.size,1,none⟩=some (.slice A4 n4 c4))∧(w'.cell? ⟨w.heap.size,0,none⟩=some (.bool s)∧w'.cell? ⟨w.heap.size,1,none⟩=some (.slice A n c)∧w'.cell? ⟨w.heap.size,2,none⟩=some (.slice B m d))∧(w'.cell? ⟨w.heap.size+1,0,none⟩=some (.bool s')∧w'.cell? ⟨w.heap.size+1,1,none⟩=some (.slice A' n' c')∧w'.cell? ⟨w.heap.size+1,2,none⟩=some (.slice B' m' d'))∧(w'.cell? ⟨w.heap.size+1+1,0,none⟩=some (cellD w' (w.heap.size+1+1) 0)∧w'.cell? ⟨w.heap.size+1+1,1,none⟩=some (cellD w' (w.heap.size+1+1) 1)∧w'.cell? ⟨w.heap.size+1+1,2,none⟩=some (cellD w' (w.heap.size+1+1) 2))∧w'.frozen? ⟨w.heap.size+1+1,0,none⟩=false∧w'.frozen? ⟨w.heap.size+1+1,1,none⟩=false∧w'.frozen? ⟨w.heap.size+1+1,2,none⟩=false) (first | exact⟨bx2 (T:=29) bts,bx3 (T:=31) bts,bx3 (T:=31) bts,Wk.out3 (T:=31) bts⟩) (first |(go_at_call 147;refine(natMul_any _ (h.dn.bl slc) (k.dn.bl slc) (by omega) (by omega)).mono ?_;rintro e w7 ⟨A5,n5,c5,rfl,hO5,hb7⟩;(have hR7:OwR 3 (w.heap.size+1+1+1) w7 s4 A4 n4 c4 A5 n5 c5 (raw (x * D'+x' * D) (D * D')):=OwR.two' (hO.bl (Bl.drew (Bl.refl _))).2 hO5 hb7 hs.lt hO.1);(have hz7:w.heap.size+1+1 < w7.heap.size:=Wk.lt (k:=3) (T:=31) bts);(have hl5:n5≤1048576:=by rw[← hO5.rd.lenN];exact hlD)) |(go_at_call 146;refine(reduced_any _ hR7 hz7 hl4 hl5 hDD).mono ?_;rintro e w8 ⟨s1,A1,n1,c1,B1,m1,d1,rfl,hR,hb8⟩))
    have hr:=(show Wk 3 31 (w.heap.size+1+1) w8 from bts)
    have hbW:Bl w w8:=slc
    obtain⟨v0,x0⟩:=hr.val_ (i:=0) (by omega)
    obtain⟨v1,x1⟩:=hr.val_ (i:=1) (by omega)
    obtain⟨v2,x2⟩:=hr.val_ (i:=2) (by omega)
    have hg:=hr.lt
    obtain⟨cs4,hB4,hc4⟩:=hr
    have hf0:=hB4.frozen 0
    have hf1:=hB4.frozen 1
    have hf2:=hB4.frozen 2
    go_wp2_with fail
    exact bodyPost_ret (v:=.agg #[.bool s1,.slice A1 n1 c1,.slice B1 m1 d1]) (by simp[results,Tryz.results143,go_sem,x0,x1,x2]) rfl ⟨_,_,_,_,_,_,_,rfl,(((hR.far (by simp) _).far (by simp) _).far (by simp) _).mono (by omega),slc⟩

set_option maxRecDepth 100000 in
set_option maxHeartbeats 16000000 in
theorem plus_big_no (w:World) {s:Bool}{A:Option Addr}{n c:Nat}{B:Option Addr}{m d:Nat}{x:Int}{D:Nat}{s':Bool}{A':Option Addr}{n' c':Nat}{B':Option Addr}{m' d':Nat}{x':Int}{D':Nat}(h:IsR w s A n c B m d x D) (k:IsR w s' A' n' c' B' m' d' x' D') (hn:n≤262143) (hm:m≤262143) (hn':n'≤262143) (hm':m'≤262143) (hD:0 < D) (hD':0 < D') (h1:¬ (n≤1∧m=1)) :
    Calls Tryz.prog 143 #[.agg #[.bool s,.slice A n c,.slice B m d],.agg #[.bool s',.slice A' n' c',.slice B' m' d']] w fun e w'=> ∃ s1 A1 n1 c1 B1 m1 d1,e=.returned (.agg #[.bool s1,.slice A1 n1 c1,.slice B1 m1 d1])∧OwR 3 w.heap.size w' s1 A1 n1 c1 B1 m1 d1 (ofFrac (x * D'+x' * D) (D * D'))∧Bl w w':=by
  have q1:=h.num.lenN
  have q2:=h.dn.lenN
  have q3:=k.num.lenN
  have q4:=k.dn.lenN
  have q2':(dig (D:Int).natAbs).length=m:=by rw[Int.natAbs_natCast];exact q2
  have q4':(dig (D':Int).natAbs).length=m':=by rw[Int.natAbs_natCast];exact q4
  have hl1:(dig x.natAbs).length+(dig (D':Int).natAbs).length≤1048576:=by omega
  have hl2:(dig x'.natAbs).length+(dig (D:Int).natAbs).length≤1048576:=by omega
  have hl3:(dig (x * D'+x' * D).natAbs).length≤1048576:=Nat.le_trans (add_len (imul_len (Nat.le_of_eq q1) (Nat.le_of_eq q4')) (imul_len (Nat.le_of_eq q3) (Nat.le_of_eq q2'))) (by omega)
  have hlD:(dig (D * D')).length≤1048576:=Nat.le_trans (dig_mul_len (Nat.le_of_eq q2) (Nat.le_of_eq q4)) (by omega)
  have hDD:0 < D * D':=Nat.mul_pos hD hD'
  clear q1 q2 q3 q4 q2' q4'
  have h1:=Lib.hid h1;rename_i h_;clear h_

  go_enter Tryz.func143,Tryz.ntmps143
  go_wp2_with fail
  refine calls_gen (fun W=> Bl w W∧Blk W (w.heap.size) 31 #[.bool s,.slice A n c,.slice B m d]∧Blk W (w.heap.size+1) 31 #[.bool s',.slice A' n' c',.slice B' m' d']∧Wk 3 31 (w.heap.size+1+1) W) ⟨slc,bts,bts,bts⟩ ?_
  rintro W ⟨hbW,hx,hx',hr⟩
  refine(isSmall_no _ h1.out).mono ?_
  rintro e w2 ⟨rfl,hb2⟩
  have hx:=hx.bl hb2
  have hx':=hx'.bl hb2
  have hr:=hr.bl hb2
  have hbW:=hbW.next hb2
  clear hb2
  obtain⟨i0,i1,i2⟩:=bx3 hx
  obtain⟨j0,j1,j2⟩:=bx3 hx'
  go_wp2_with fail
  have hz3:w.heap.size+1+1 < w2.heap.size:=hr.lt
  go_region_held3 (fun w' =>(w'.cell? ⟨w.heap.size,0,none⟩=some (.bool s)∧w'.cell? ⟨w.heap.size,1,none⟩=some (.slice A n c)∧w'.cell? ⟨w.heap.size,2,none⟩=some (.slice B m d))∧(w'.cell? ⟨w.heap.size+1,0,none⟩=some (.bool s')∧w'.cell? ⟨w.heap.size+1,1,none⟩=some (.slice A' n' c')∧w'.cell? ⟨w.heap.size+1,2,none⟩=some (.slice B' m' d'))∧(w'.cell? ⟨w.heap.size+1+1,0,none⟩=some (cellD w' (w.heap.size+1+1) 0)∧w'.cell? ⟨w.heap.size+1+1,1,none⟩=some (cellD w' (w.heap.size+1+1) 1)∧w'.cell? ⟨w.heap.size+1+1,2,none⟩=some (cellD w' (w.heap.size+1+1) 2))∧w'.frozen? ⟨w.heap.size+1+1,0,none⟩=false∧w'.frozen? ⟨w.heap.size+1+1,1,none⟩=false∧w'.frozen? ⟨w.heap.size+1+1,2,none⟩=false) (first | exact⟨bx3 (T:=31) bts,bx3 (T:=31) bts,Wk.out3 (T:=31) bts⟩) (first |(go_at_call 120;with_reducible refine(bigMul_any _ (h.b.bl slc) (IsB.of (k.dn.bl slc)) (by omega) (by omega)).mono ?_;rintro e w4 ⟨s2,A2,n2,c2,rfl,hO1,hb4⟩;(have hz4:w.heap.size+1+1 < w4.heap.size:=Wk.lt (k:=3) (T:=31) bts);(first | have hq:Wk 2 29 _ _:=wk_newd hb4 | have hq:Wk 2 29 _ _:=wk_new hb4 | have hq:=Wk.bl hq hb4 | skip)) |(go_at_call 120;with_reducible refine(bigMul_any _ (k.b.bl slc) (IsB.of (h.dn.bl slc)) (by omega) (by omega)).mono ?_;rintro e w5 ⟨s3,A3,n3,c3,rfl,hO2,hb5⟩;(have hz5:w.heap.size+1+1 < w5.heap.size:=Wk.lt (k:=3) (T:=31) bts);(first | have hq:Wk 2 29 _ _:=wk_newd hb5 | have hq:Wk 2 29 _ _:=wk_new hb5 | have hq:=Wk.bl hq hb5 | skip)) |(go_at_call 163;with_reducible refine(bigAdd_any _ (hO1.rd.bl slc) (hO2.rd.bl slc) (bm_len hO1 hl1) (bm_len hO2 hl2)).mono ?_;rintro e w6 ⟨s4,A4,n4,c4,rfl,hO3,hb6⟩;(have hz6:w.heap.size+1+1 < w6.heap.size:=Wk.lt (k:=3) (T:=31) bts);(first | have hq:Wk 2 29 _ _:=wk_newd hb6 | have hq:Wk 2 29 _ _:=wk_new hb6 | have hq:=Wk.bl hq hb6 | skip);(try obtain⟨⟨y0,y1⟩,y2,y3⟩:=hq.out2)))
  · skip
    have hl4:n4≤1048576:=by rw[← hO3.len];exact hl3
    go_wp2_with fail
    refine wp_gen (fun W2=> Bl w W2∧Blk W2 (w6.heap.size) 29 #[.bool s4,.slice A4 n4 c4]∧Blk W2 (w.heap.size) 31 #[.bool s,.slice A n c,.slice B m d]∧Blk W2 (w.heap.size+1) 31 #[.bool s',.slice A' n' c',.slice B' m' d']∧Wk 3 31 (w.heap.size+1+1) W2∧OwB 3 (w.heap.size+1+1+1) W2 s4 A4 n4 c4 (x * D'+x' * D)) ⟨slc,Blk.new _ _ _,bts,bts,bts,(hO3.bl slc).mono (by omega)⟩ ?_
    rintro W2 ⟨hbV,hN,hy,hy',hs,hO⟩
    clear hb4 hb5 hb6 hO1 hO2 hO3 hx hx' hr hbW
    go_region_held3 (fun w' =>(w'.cell? ⟨w6.heap.size,0,none⟩=some (.bool s4)∧w'.cell? ⟨w6.heap.size,1,none⟩=some (.slice A4 n4 c4))∧(w'.cell? ⟨w.heap.size,0,none⟩=some (.bool s)∧w'.cell? ⟨w.heap.size,1,none⟩=some (.slice A n c)∧w'.cell? ⟨w.heap.size,2,none⟩=some (.slice B m d))∧(w'.cell? ⟨w.heap.size+1,0,none⟩=some (.bool s')∧w'.cell? ⟨w.heap.size+1,1,none⟩=some (.slice A' n' c')∧w'.cell? ⟨w.heap.size+1,2,none⟩=some (.slice B' m' d'))∧(w'.cell? ⟨w.heap.size+1+1,0,none⟩=some (cellD w' (w.heap.size+1+1) 0)∧w'.cell? ⟨w.heap.size+1+1,1,none⟩=some (cellD w' (w.heap.size+1+1) 1)∧w'.cell? ⟨w.heap.size+1+1,2,none⟩=some (cellD w' (w.heap.size+1+1) 2))∧w'.frozen? ⟨w.heap.size+1+1,0,none⟩=false∧w'.frozen? ⟨w.heap.size+1+1,1,none⟩=false∧w'.frozen? ⟨w.heap.size+1+1,2,none⟩=false) (first | exact⟨bx2 (T:=29) bts,bx3 (T:=31) bts,bx3 (T:=31) bts,Wk.out3 (T:=31) bts⟩) (first |(go_at_call 147;refine(natMul_any _ (h.dn.bl slc) (k.dn.bl slc) (by omega) (by omega)).mono ?_;rintro e w7 ⟨A5,n5,c5,rfl,hO5,hb7⟩;(have hR7:OwR 3 (w.heap.size+1+1+1) w7 s4 A4 n4 c4 A5 n5 c5 (raw (x * D'+x' * D) (D * D')):=OwR.two' (hO.bl (Bl.drew (Bl.refl _))).2 hO5 hb7 hs.lt hO.1);(have hz7:w.heap.size+1+1 < w7.heap.size:=Wk.lt (k:=3) (T:=31) bts);(have hl5:n5≤1048576:=by rw[← hO5.rd.lenN];exact hlD)) |(go_at_call 146;refine(reduced_any _ hR7 hz7 hl4 hl5 hDD).mono ?_;rintro e w8 ⟨s1,A1,n1,c1,B1,m1,d1,rfl,hR,hb8⟩))
    have hr:=(show Wk 3 31 (w.heap.size+1+1) w8 from bts)
    have hbW:Bl w w8:=slc
    obtain⟨v0,x0⟩:=hr.val_ (i:=0) (by omega)
    obtain⟨v1,x1⟩:=hr.val_ (i:=1) (by omega)
    obtain⟨v2,x2⟩:=hr.val_ (i:=2) (by omega)
    have hg:=hr.lt
    obtain⟨cs4,hB4,hc4⟩:=hr
    have hf0:=hB4.frozen 0
    have hf1:=hB4.frozen 1
    have hf2:=hB4.frozen 2
    go_wp2_with fail
    exact bodyPost_ret (v:=.agg #[.bool s1,.slice A1 n1 c1,.slice B1 m1 d1]) (by simp[results,Tryz.results143,go_sem,x0,x1,x2]) rfl ⟨_,_,_,_,_,_,_,rfl,(((hR.far (by simp) _).far (by simp) _).far (by simp) _).mono (by omega),slc⟩
  · skip
    have hl4:n4≤1048576:=by rw[← hO3.len];exact hl3
    go_wp2_with fail
    refine wp_gen (fun W2=> Bl w W2∧Blk W2 (w5.heap.size) 29 #[.bool s4,.slice A4 n4 c4]∧Blk W2 (w.heap.size) 31 #[.bool s,.slice A n c,.slice B m d]∧Blk W2 (w.heap.size+1) 31 #[.bool s',.slice A' n' c',.slice B' m' d']∧Wk 3 31 (w.heap.size+1+1) W2∧OwB 3 (w.heap.size+1+1+1) W2 s4 A4 n4 c4 (x * D'+x' * D)) ⟨slc,Wk.put2 hq _ _,bts,bts,bts,((hO3.far (by have:=hb4.size;have:=hb5.size;simp at * <;> omega) _).far (by have:=hb4.size;have:=hb5.size;simp at * <;> omega) _).mono (by have:=hb4.size;have:=hb5.size;simp at * <;> omega)⟩ ?_
    rintro W2 ⟨hbV,hN,hy,hy',hs,hO⟩
    clear hb4 hb5 hb6 hO1 hO2 hO3 hx hx' hr hbW
    go_region_held3 (fun w' =>(w'.cell? ⟨w5.heap.size,0,none⟩=some (.bool s4)∧w'.cell? ⟨w5.heap.size,1,none⟩=some (.slice A4 n4 c4))∧(w'.cell? ⟨w.heap.size,0,none⟩=some (.bool s)∧w'.cell? ⟨w.heap.size,1,none⟩=some (.slice A n c)∧w'.cell? ⟨w.heap.size,2,none⟩=some (.slice B m d))∧(w'.cell? ⟨w.heap.size+1,0,none⟩=some (.bool s')∧w'.cell? ⟨w.heap.size+1,1,none⟩=some (.slice A' n' c')∧w'.cell? ⟨w.heap.size+1,2,none⟩=some (.slice B' m' d'))∧(w'.cell? ⟨w.heap.size+1+1,0,none⟩=some (cellD w' (w.heap.size+1+1) 0)∧w'.cell? ⟨w.heap.size+1+1,1,none⟩=some (cellD w' (w.heap.size+1+1) 1)∧w'.cell? ⟨w.heap.size+1+1,2,none⟩=some (cellD w' (w.heap.size+1+1) 2))∧w'.frozen? ⟨w.heap.size+1+1,0,none⟩=false∧w'.frozen? ⟨w.heap.size+1+1,1,none⟩=false∧w'.frozen? ⟨w.heap.size+1+1,2,none⟩=false) (first | exact⟨bx2 (T:=29) bts,bx3 (T:=31) bts,bx3 (T:=31) bts,Wk.out3 (T:=31) bts⟩) (first |(go_at_call 147;refine(natMul_any _ (h.dn.bl slc) (k.dn.bl slc) (by omega) (by omega)).mono ?_;rintro e w7 ⟨A5,n5,c5,rfl,hO5,hb7⟩;(have hR7:OwR 3 (w.heap.size+1+1+1) w7 s4 A4 n4 c4 A5 n5 c5 (raw (x * D'+x' * D) (D * D')):=OwR.two' (hO.bl (Bl.drew (Bl.refl _))).2 hO5 hb7 hs.lt hO.1);(have hz7:w.heap.size+1+1 < w7.heap.size:=Wk.lt (k:=3) (T:=31) bts);(have hl5:n5≤1048576:=by rw[← hO5.rd.lenN];exact hlD)) |(go_at_call 146;refine(reduced_any _ hR7 hz7 hl4 hl5 hDD).mono ?_;rintro e w8 ⟨s1,A1,n1,c1,B1,m1,d1,rfl,hR,hb8⟩))
    have hr:=(show Wk 3 31 (w.heap.size+1+1) w8 from bts)
    have hbW:Bl w w8:=slc
    obtain⟨v0,x0⟩:=hr.val_ (i:=0) (by omega)
    obtain⟨v1,x1⟩:=hr.val_ (i:=1) (by omega)
    obtain⟨v2,x2⟩:=hr.val_ (i:=2) (by omega)
    have hg:=hr.lt
    obtain⟨cs4,hB4,hc4⟩:=hr
    have hf0:=hB4.frozen 0
    have hf1:=hB4.frozen 1
    have hf2:=hB4.frozen 2
    go_wp2_with fail
    exact bodyPost_ret (v:=.agg #[.bool s1,.slice A1 n1 c1,.slice B1 m1 d1]) (by simp[results,Tryz.results143,go_sem,x0,x1,x2]) rfl ⟨_,_,_,_,_,_,_,rfl,(((hR.far (by simp) _).far (by simp) _).far (by simp) _).mono (by omega),slc⟩
  · skip
    have hl4:n4≤1048576:=by rw[← hO3.len];exact hl3
    go_wp2_with fail
    refine wp_gen (fun W2=> Bl w W2∧Blk W2 (w4.heap.size) 29 #[.bool s4,.slice A4 n4 c4]∧Blk W2 (w.heap.size) 31 #[.bool s,.slice A n c,.slice B m d]∧Blk W2 (w.heap.size+1) 31 #[.bool s',.slice A' n' c',.slice B' m' d']∧Wk 3 31 (w.heap.size+1+1) W2∧OwB 3 (w.heap.size+1+1+1) W2 s4 A4 n4 c4 (x * D'+x' * D)) ⟨slc,Wk.put2 hq _ _,bts,bts,bts,((hO3.far (by have:=hb4.size;have:=hb5.size;simp at * <;> omega) _).far (by have:=hb4.size;have:=hb5.size;simp at * <;> omega) _).mono (by have:=hb4.size;have:=hb5.size;simp at * <;> omega)⟩ ?_
    rintro W2 ⟨hbV,hN,hy,hy',hs,hO⟩
    clear hb4 hb5 hb6 hO1 hO2 hO3 hx hx' hr hbW
    go_region_held3 (fun w' =>(w'.cell? ⟨w4.heap.size,0,none⟩=some (.bool s4)∧w'.cell? ⟨w4.heap.size,1,none⟩=some (.slice A4 n4 c4))∧(w'.cell? ⟨w.heap.size,0,none⟩=some (.bool s)∧w'.cell? ⟨w.heap.size,1,none⟩=some (.slice A n c)∧w'.cell? ⟨w.heap.size,2,none⟩=some (.slice B m d))∧(w'.cell? ⟨w.heap.size+1,0,none⟩=some (.bool s')∧w'.cell? ⟨w.heap.size+1,1,none⟩=some (.slice A' n' c')∧w'.cell? ⟨w.heap.size+1,2,none⟩=some (.slice B' m' d'))∧(w'.cell? ⟨w.heap.size+1+1,0,none⟩=some (cellD w' (w.heap.size+1+1) 0)∧w'.cell? ⟨w.heap.size+1+1,1,none⟩=some (cellD w' (w.heap.size+1+1) 1)∧w'.cell? ⟨w.heap.size+1+1,2,none⟩=some (cellD w' (w.heap.size+1+1) 2))∧w'.frozen? ⟨w.heap.size+1+1,0,none⟩=false∧w'.frozen? ⟨w.heap.size+1+1,1,none⟩=false∧w'.frozen? ⟨w.heap.size+1+1,2,none⟩=false) (first | exact⟨bx2 (T:=29) bts,bx3 (T:=31) bts,bx3 (T:=31) bts,Wk.out3 (T:=31) bts⟩) (first |(go_at_call 147;refine(natMul_any _ (h.dn.bl slc) (k.dn.bl slc) (by omega) (by omega)).mono ?_;rintro e w7 ⟨A5,n5,c5,rfl,hO5,hb7⟩;(have hR7:OwR 3 (w.heap.size+1+1+1) w7 s4 A4 n4 c4 A5 n5 c5 (raw (x * D'+x' * D) (D * D')):=OwR.two' (hO.bl (Bl.drew (Bl.refl _))).2 hO5 hb7 hs.lt hO.1);(have hz7:w.heap.size+1+1 < w7.heap.size:=Wk.lt (k:=3) (T:=31) bts);(have hl5:n5≤1048576:=by rw[← hO5.rd.lenN];exact hlD)) |(go_at_call 146;refine(reduced_any _ hR7 hz7 hl4 hl5 hDD).mono ?_;rintro e w8 ⟨s1,A1,n1,c1,B1,m1,d1,rfl,hR,hb8⟩))
    have hr:=(show Wk 3 31 (w.heap.size+1+1) w8 from bts)
    have hbW:Bl w w8:=slc
    obtain⟨v0,x0⟩:=hr.val_ (i:=0) (by omega)
    obtain⟨v1,x1⟩:=hr.val_ (i:=1) (by omega)
    obtain⟨v2,x2⟩:=hr.val_ (i:=2) (by omega)
    have hg:=hr.lt
    obtain⟨cs4,hB4,hc4⟩:=hr
    have hf0:=hB4.frozen 0
    have hf1:=hB4.frozen 1
    have hf2:=hB4.frozen 2
    go_wp2_with fail
    exact bodyPost_ret (v:=.agg #[.bool s1,.slice A1 n1 c1,.slice B1 m1 d1]) (by simp[results,Tryz.results143,go_sem,x0,x1,x2]) rfl ⟨_,_,_,_,_,_,_,rfl,(((hR.far (by simp) _).far (by simp) _).far (by simp) _).mono (by omega),slc⟩
  · skip
    have hl4:n4≤1048576:=by rw[← hO3.len];exact hl3
    go_wp2_with fail
    refine wp_gen (fun W2=> Bl w W2∧Blk W2 (w2.heap.size) 29 #[.bool s4,.slice A4 n4 c4]∧Blk W2 (w.heap.size) 31 #[.bool s,.slice A n c,.slice B m d]∧Blk W2 (w.heap.size+1) 31 #[.bool s',.slice A' n' c',.slice B' m' d']∧Wk 3 31 (w.heap.size+1+1) W2∧OwB 3 (w.heap.size+1+1+1) W2 s4 A4 n4 c4 (x * D'+x' * D)) ⟨slc,Wk.put2 hq _ _,bts,bts,bts,((hO3.far (by have:=hb4.size;have:=hb5.size;simp at * <;> omega) _).far (by have:=hb4.size;have:=hb5.size;simp at * <;> omega) _).mono (by have:=hb4.size;have:=hb5.size;simp at * <;> omega)⟩ ?_
    rintro W2 ⟨hbV,hN,hy,hy',hs,hO⟩
    clear hb4 hb5 hb6 hO1 hO2 hO3 hx hx' hr hbW
    go_region_held3 (fun w' =>(w'.cell? ⟨w2.heap.size,0,none⟩=some (.bool s4)∧w'.cell? ⟨w2.heap.size,1,none⟩=some (.slice A4 n4 c4))∧(w'.cell? ⟨w.heap.size,0,none⟩=some (.bool s)∧w'.cell? ⟨w.heap.size,1,none⟩=some (.slice A n c)∧w'.cell? ⟨w.heap.size,2,none⟩=some (.slice B m d))∧(w'.cell? ⟨w.heap.size+1,0,none⟩=some (.bool s')∧w'.cell? ⟨w.heap.size+1,1,none⟩=some (.slice A' n' c')∧w'.cell? ⟨w.heap.size+1,2,none⟩=some (.slice B' m' d'))∧(w'.cell? ⟨w.heap.size+1+1,0,none⟩=some (cellD w' (w.heap.size+1+1) 0)∧w'.cell? ⟨w.heap.size+1+1,1,none⟩=some (cellD w' (w.heap.size+1+1) 1)∧w'.cell? ⟨w.heap.size+1+1,2,none⟩=some (cellD w' (w.heap.size+1+1) 2))∧w'.frozen? ⟨w.heap.size+1+1,0,none⟩=false∧w'.frozen? ⟨w.heap.size+1+1,1,none⟩=false∧w'.frozen? ⟨w.heap.size+1+1,2,none⟩=false) (first | exact⟨bx2 (T:=29) bts,bx3 (T:=31) bts,bx3 (T:=31) bts,Wk.out3 (T:=31) bts⟩) (first |(go_at_call 147;refine(natMul_any _ (h.dn.bl slc) (k.dn.bl slc) (by omega) (by omega)).mono ?_;rintro e w7 ⟨A5,n5,c5,rfl,hO5,hb7⟩;(have hR7:OwR 3 (w.heap.size+1+1+1) w7 s4 A4 n4 c4 A5 n5 c5 (raw (x * D'+x' * D) (D * D')):=OwR.two' (hO.bl (Bl.drew (Bl.refl _))).2 hO5 hb7 hs.lt hO.1);(have hz7:w.heap.size+1+1 < w7.heap.size:=Wk.lt (k:=3) (T:=31) bts);(have hl5:n5≤1048576:=by rw[← hO5.rd.lenN];exact hlD)) |(go_at_call 146;refine(reduced_any _ hR7 hz7 hl4 hl5 hDD).mono ?_;rintro e w8 ⟨s1,A1,n1,c1,B1,m1,d1,rfl,hR,hb8⟩))
    have hr:=(show Wk 3 31 (w.heap.size+1+1) w8 from bts)
    have hbW:Bl w w8:=slc
    obtain⟨v0,x0⟩:=hr.val_ (i:=0) (by omega)
    obtain⟨v1,x1⟩:=hr.val_ (i:=1) (by omega)
    obtain⟨v2,x2⟩:=hr.val_ (i:=2) (by omega)
    have hg:=hr.lt
    obtain⟨cs4,hB4,hc4⟩:=hr
    have hf0:=hB4.frozen 0
    have hf1:=hB4.frozen 1
    have hf2:=hB4.frozen 2
    go_wp2_with fail
    exact bodyPost_ret (v:=.agg #[.bool s1,.slice A1 n1 c1,.slice B1 m1 d1]) (by simp[results,Tryz.results143,go_sem,x0,x1,x2]) rfl ⟨_,_,_,_,_,_,_,rfl,(((hR.far (by simp) _).far (by simp) _).far (by simp) _).mono (by omega),slc⟩

theorem plus_any (w:World) {s:Bool}{A:Option Addr}{n c:Nat}{B:Option Addr}{m d:Nat}{x:Int}{D:Nat}{s':Bool}{A':Option Addr}{n' c':Nat}{B':Option Addr}{m' d':Nat}{x':Int}{D':Nat}(h:IsR w s A n c B m d x D) (k:IsR w s' A' n' c' B' m' d' x' D') (hn:n≤262143) (hm:m≤262143) (hn':n'≤262143) (hm':m'≤262143) (hD:0 < D) (hD':0 < D') :
    Calls Tryz.prog 143 #[.agg #[.bool s,.slice A n c,.slice B m d],.agg #[.bool s',.slice A' n' c',.slice B' m' d']] w fun e w'=> ∃ s1 A1 n1 c1 B1 m1 d1,e=.returned (.agg #[.bool s1,.slice A1 n1 c1,.slice B1 m1 d1])∧OwR 3 w.heap.size w' s1 A1 n1 c1 B1 m1 d1 (ofFrac (x * D'+x' * D) (D * D'))∧Bl w w':=by
  by_cases h1:n≤1∧m=1
  · by_cases h2:n'≤1∧m'=1
    · exact plus_small w h k h1.1 h1.2 h2.1 h2.2
    · exact plus_big_yes w h k hn hm hn' hm' hD hD' h1 h2
  · exact plus_big_no w h k hn hm hn' hm' hD hD' h1
end

end Go.Proofs.YtjaapemopbbfaaaGreat
