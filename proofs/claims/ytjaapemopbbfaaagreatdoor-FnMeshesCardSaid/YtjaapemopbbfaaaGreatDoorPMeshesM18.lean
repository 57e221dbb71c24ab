import Derived.Test.YtjaapemopbbfaaaGreatDoorPMeshesM17
import Derived.Deep.Cut
import Derived.Deep.DeepCutAuto
import Derived.Test.YtjaapemopbbfaaaGreatDoorPMeshesM10
namespace Go.Proofs.YtjaapemopbbfaaaGreatDoor
open Go.RowKit
set_option maxRecDepth 100000
set_option maxHeartbeats 32000000
theorem kY (w:World) {s:Bool}{A:Option Addr}{n c:Nat}{B:Option Addr}{m d:Nat}{x:Int}{D:Nat}{s':Bool}{A':Option Addr}{n' c':Nat}{B':Option Addr}{m' d':Nat}{x':Int}{D':Nat}(h:IsR w s A n c B m d x D) (k:IsR w s' A' n' c' B' m' d' x' D') (hn:n<=24) (hm:m<=24) (hn':n'<=24) (hm':m'<=24) (hD:0<D) (hD':0<D') (h12:¬(D=1/\D'=1)) :
  Calls Tryz.prog 143 #[.agg #[.bool s,.slice A n c,.slice B m d],.agg #[.bool s',.slice A' n' c',.slice B' m' d']] w λe w'=>∃s1 A1 n1 c1 B1 m1 d1,e=.returned (.agg #[.bool s1,.slice A1 n1 c1,.slice B1 m1 d1])/\OwR 3 w.heap.size w' s1 A1 n1 c1 B1 m1 d1 (qm (x*D'+x'*D) (D*D'))/\Bl w w':=by
 have hm1:(dig (x.natAbs*D')).length<=59:=Nat.le_trans (qM (Nat.le_of_eq h.num.lenN) (Nat.le_of_eq k.dn.lenN)) (by omega)
 have hm2:(dig (x'.natAbs*D)).length<=59:=Nat.le_trans (qM (Nat.le_of_eq k.num.lenN) (Nat.le_of_eq h.dn.lenN)) (by omega)
 have hlD:(dig (D*D')).length<=1048570:=Nat.le_trans (qM (Nat.le_of_eq h.dn.lenN) (Nat.le_of_eq k.dn.lenN)) (by omega)
 have hlz:(dig (x * (D':Int)+x' * (D:Int)).natAbs).length<=1048570:=by
  have e1:(dig (x*(D':Int)).natAbs).length<=59:=by rw[Int.natAbs_mul,Int.natAbs_natCast];exact hm1
  have e2:(dig (x'*(D:Int)).natAbs).length<=59:=by rw[Int.natAbs_mul,Int.natAbs_natCast];exact hm2
  exact Nat.le_trans (Vu e1 e2) (by omega)
 have hDD:0<D*D':=Nat.mul_pos hD hD'
 go_enter Tryz.func143,Tryz.ntmps143
 go_upto_region 1 with (fail)
 refine qe (λW=>Bl w W/\Blk W (w.heap.size) 26 #[.bool s,.slice A n c,.slice B m d]/\Blk W (w.heap.size+1) 26 #[.bool s',.slice A' n' c',.slice B' m' d']/\Wk 3 26 (w.heap.size+1+1) W) ⟨slc,bts,bts,bts⟩ ?_
 rintro W ⟨hbW,hx,hx',hr⟩
 go_cut [16] (λs16 wx=>s16=.bool false/\Bl W wx)
 case first=>
  obtain⟨i0,i1,i2⟩:=bx3 hx
  obtain⟨j0,j1,j2⟩:=bx3 hx'
  by_cases h1:D=1
  ·have h2:=Lib.hid (λh2:D'=1=>h12 ⟨h1,h2⟩)
   replace h1:=Lib.hid h1
   clear h12
   go_wp2_with fail
   refine(jX _ (h1.out ▸ RdI.bl h.dn hbW)).mono ?_
   rintro e w1 ⟨rfl,q1,rfl⟩
   have hb1:Bl W (W.drewN q1):=(Bl.refl W).drewN q1
   obtain⟨i0,i1,i2⟩:=bx3 (hx.bl hb1)
   obtain⟨j0,j1,j2⟩:=bx3 (hx'.bl hb1)
   go_wp2_with fail
   refine(yJ _ (RdI.bl k.dn (hbW.next hb1)) h2.out).mono ?_
   rintro e w2 ⟨rfl,q2,rfl⟩
   have hb2:=hb1.drewN q2
   go_wp2_with fail
   go_meet
   exact⟨rfl,(Bl.refl W).drewN _⟩
  ·replace h1:=Lib.hid h1
   clear h12
   go_wp2_with fail
   refine(yJ _ (RdI.bl h.dn hbW) h1.out).mono ?_
   rintro e w1 ⟨rfl,q1,rfl⟩
   have hb1:Bl W (W.drewN q1):=(Bl.refl W).drewN q1
   go_wp2_with fail
   go_meet
   exact⟨rfl,hb1⟩
 case rest=>
  obtain⟨rfl,hb1⟩:=hcut
  obtain⟨W1,rfl⟩:∃W1:World,W1=wc:=⟨_,rfl⟩
  have hx:=hx.bl hb1
  have hx':=hx'.bl hb1
  have hr:=hr.bl hb1
  have hbW:=hbW.next hb1
  clear hb1 h12
  have hz1:=hr.lt
  go_wp2_with fail
  go_cut [6] (λs6 wx=>∃(g6:Nat) (s5:Bool) (A5:Option Addr) (n5 c5:Nat),s6=.pointer (some ⟨g6,0,none⟩)/\Blk wx g6 24 #[.bool s5,.slice A5 n5 c5]/\OwB 3 (w.heap.size+1+1+1) wx s5 A5 n5 c5 (x*(D':Int))/\n5<=59/\Bl w wx/\Bl W1 wx)
  case first=>
   go_region_held3 (λw'=>(w'.cell? ⟨w.heap.size,0,none⟩=some (.bool s)/\w'.cell? ⟨w.heap.size,1,none⟩=some (.slice A n c)/\w'.cell? ⟨w.heap.size,2,none⟩=some (.slice B m d))/\(w'.cell? ⟨w.heap.size+1,0,none⟩=some (.bool s')/\w'.cell? ⟨w.heap.size+1,1,none⟩=some (.slice A' n' c')/\w'.cell? ⟨w.heap.size+1,2,none⟩=some (.slice B' m' d'))) (first|exact⟨bx3 (T:=26) bts,bx3 (T:=26) bts⟩) (first |(go_at_call 190;refine(zT _ (h.num.bl slc) (k.dn.bl slc) (by omega) (by omega)).mono ?_;rintro e w4 ⟨A4,n4,c4,rfl,hO4,hb4⟩;(have hz4:w.heap.size+1+1<w4.heap.size:=Wk.lt (k:=3) (T:=26) bts);(first|have hy4:W1.heap.size+1<=w4.heap.size:=(by have:=Bl.size hb4;first|omega |(simp at this;omega))|have hy4:W1.heap.size<=w4.heap.size:=(by have:=Bl.size hb4;first|omega |(simp at this;omega)));(first|have hq:Wk 2 24 _ _:=jl hb4|have hq:Wk 2 24 _ _:=yE hb4|have hq:=Wk.bl hq hb4|skip);(have hl4:n4<=59:=by rw[<-hO4.rd.lenN];exact hm1)) |(go_at_call 189;refine(qJ _ _ (RdI.bl hO4.rd slc) (by omega)).mono ?_;rintro e w5 ⟨s5,A5,n5,c5,rfl,hs5,hO5,hb5⟩;(have hz5:w.heap.size+1+1<w5.heap.size:=Wk.lt (k:=3) (T:=26) bts);(first|have hy5:w4.heap.size+1<=w5.heap.size:=(by have:=Bl.size hb5;first|omega |(simp at this;omega))|have hy5:w4.heap.size<=w5.heap.size:=(by have:=Bl.size hb5;first|omega |(simp at this;omega)));(first|have hq:Wk 2 24 _ _:=jl hb5|have hq:Wk 2 24 _ _:=yE hb5|have hq:=Wk.bl hq hb5|skip);(have hl5:n5<=59:=by rw[<-hO5.rd.lenN];exact hm1);(try obtain⟨⟨y0,y1⟩,y2,y3⟩:=hq.out2)))
   ·skip
    have hOa5:OwB 3 _ w5 s5 A5 n5 c5 (x*(D':Int)):=⟨by rw[hs5.out];exact QC h.sgn hD',by rw[Int.natAbs_mul,Int.natAbs_natCast];exact hO5⟩
    go_wp2_with fail
    go_meet
    exact⟨w5.heap.size,s5,A5,n5,c5,rfl,Blk.new _ _ _,(hOa5.bl slc).mono (by first|omega |(simp;omega) |(simp;done)),hl5,slc,slc⟩
   ·skip
    have hOa5:OwB 3 _ w5 s5 A5 n5 c5 (x*(D':Int)):=⟨by rw[hs5.out];exact QC h.sgn hD',by rw[Int.natAbs_mul,Int.natAbs_natCast];exact hO5⟩
    go_wp2_with fail
    go_meet
    exact⟨w4.heap.size,s5,A5,n5,c5,rfl,Wk.put2 hq _ _,((hOa5.far (by have:=hy4;have:=hy5;first|omega |(simp;omega) |(simp;done)) _).far (by have:=hy4;have:=hy5;first|omega |(simp;omega) |(simp;done)) _).mono (by first|omega |(simp;omega) |(simp;done)),hl5,slc,slc⟩
   ·skip
    have hOa5:OwB 3 _ w5 s5 A5 n5 c5 (x*(D':Int)):=⟨by rw[hs5.out];exact QC h.sgn hD',by rw[Int.natAbs_mul,Int.natAbs_natCast];exact hO5⟩
    go_wp2_with fail
    go_meet
    exact⟨W1.heap.size,s5,A5,n5,c5,rfl,Wk.put2 hq _ _,((hOa5.far (by have:=hy4;have:=hy5;first|omega |(simp;omega) |(simp;done)) _).far (by have:=hy4;have:=hy5;first|omega |(simp;omega) |(simp;done)) _).mono (by first|omega |(simp;omega) |(simp;done)),hl5,slc,slc⟩
  case rest=>
   obtain⟨g6,s5,A5,n5,c5,rfl,hN,hOa,hl5,hb2,hb12⟩:=hcut
   obtain⟨W2,rfl⟩:∃W2:World,W2=wc:=⟨_,rfl⟩
   have hx:=hx.bl hb12
   have hx':=hx'.bl hb12
   have hr:=hr.bl hb12
   clear hb12 hbW
   have hzW2:=hr.lt
   have hzN:=hN.lt
   go_upto_region 5 with (fail)
   go_cut [7] (λs7 wx=>∃(g7:Nat) (s7':Bool) (A7:Option Addr) (n7 c7:Nat),s7=.pointer (some ⟨g7,0,none⟩)/\Blk wx g7 24 #[.bool s7',.slice A7 n7 c7]/\OwB 3 (w.heap.size+1+1+1) wx s7' A7 n7 c7 (x'*(D:Int))/\n7<=59/\Bl w wx/\Bl W2 wx)
   case first=>
    go_region_held3 (λw'=>(w'.cell? ⟨w.heap.size,0,none⟩=some (.bool s)/\w'.cell? ⟨w.heap.size,1,none⟩=some (.slice A n c)/\w'.cell? ⟨w.heap.size,2,none⟩=some (.slice B m d))/\(w'.cell? ⟨w.heap.size+1,0,none⟩=some (.bool s')/\w'.cell? ⟨w.heap.size+1,1,none⟩=some (.slice A' n' c')/\w'.cell? ⟨w.heap.size+1,2,none⟩=some (.slice B' m' d'))) (first|exact⟨bx3 (T:=26) bts,bx3 (T:=26) bts⟩) (first |(go_at_call 190;refine(zT _ (k.num.bl slc) (h.dn.bl slc) (by omega) (by omega)).mono ?_;rintro e w6 ⟨A6,n6,c6,rfl,hO6,hb6⟩;(have hz6:w.heap.size+1+1<w6.heap.size:=Wk.lt (k:=3) (T:=26) bts);(first|have hy6:W2.heap.size+1<=w6.heap.size:=(by have:=Bl.size hb6;first|omega |(simp at this;omega))|have hy6:W2.heap.size<=w6.heap.size:=(by have:=Bl.size hb6;first|omega |(simp at this;omega)));(first|have hq:Wk 2 24 _ _:=jl hb6|have hq:Wk 2 24 _ _:=yE hb6|have hq:=Wk.bl hq hb6|skip);(have hl6:n6<=59:=by rw[<-hO6.rd.lenN];exact hm2)) |(go_at_call 189;refine(qJ _ _ (RdI.bl hO6.rd slc) (by omega)).mono ?_;rintro e w7 ⟨s7,A7,n7,c7,rfl,hs7,hO7,hb7⟩;(have hz7:w.heap.size+1+1<w7.heap.size:=Wk.lt (k:=3) (T:=26) bts);(first|have hy7:w6.heap.size+1<=w7.heap.size:=(by have:=Bl.size hb7;first|omega |(simp at this;omega))|have hy7:w6.heap.size<=w7.heap.size:=(by have:=Bl.size hb7;first|omega |(simp at this;omega)));(first|have hq:Wk 2 24 _ _:=jl hb7|have hq:Wk 2 24 _ _:=yE hb7|have hq:=Wk.bl hq hb7|skip);(have hl7:n7<=59:=by rw[<-hO7.rd.lenN];exact hm2);(try obtain⟨⟨y0,y1⟩,y2,y3⟩:=hq.out2)))
    ·skip
     have hOb7:OwB 3 _ w7 s7 A7 n7 c7 (x'*(D:Int)):=⟨by rw[hs7.out];exact QC k.sgn hD,by rw[Int.natAbs_mul,Int.natAbs_natCast];exact hO7⟩
     go_wp2_with fail
     go_meet
     exact⟨w7.heap.size,s7,A7,n7,c7,rfl,Blk.new _ _ _,(hOb7.bl slc).mono (by first|omega |(simp;omega) |(simp;done)),hl7,slc,slc⟩
    ·skip
     have hOb7:OwB 3 _ w7 s7 A7 n7 c7 (x'*(D:Int)):=⟨by rw[hs7.out];exact QC k.sgn hD,by rw[Int.natAbs_mul,Int.natAbs_natCast];exact hO7⟩
     go_wp2_with fail
     go_meet
     exact⟨w6.heap.size,s7,A7,n7,c7,rfl,Wk.put2 hq _ _,((hOb7.far (by have:=hy6;have:=hy7;first|omega |(simp;omega) |(simp;done)) _).far (by have:=hy6;have:=hy7;first|omega |(simp;omega) |(simp;done)) _).mono (by first|omega |(simp;omega) |(simp;done)),hl7,slc,slc⟩
    ·skip
     have hOb7:OwB 3 _ w7 s7 A7 n7 c7 (x'*(D:Int)):=⟨by rw[hs7.out];exact QC k.sgn hD,by rw[Int.natAbs_mul,Int.natAbs_natCast];exact hO7⟩
     go_wp2_with fail
     go_meet
     exact⟨W2.heap.size,s7,A7,n7,c7,rfl,Wk.put2 hq _ _,((hOb7.far (by have:=hy6;have:=hy7;first|omega |(simp;omega) |(simp;done)) _).far (by have:=hy6;have:=hy7;first|omega |(simp;omega) |(simp;done)) _).mono (by first|omega |(simp;omega) |(simp;done)),hl7,slc,slc⟩
   case rest=>
    obtain⟨g7,s7,A7,n7,c7,rfl,hN',hOb,hl7,hb3,hb23⟩:=hcut
    obtain⟨W3,rfl⟩:∃W3:World,W3=wc:=⟨_,rfl⟩
    have hx:=hx.bl hb23
    have hx':=hx'.bl hb23
    have hr:=hr.bl hb23
    have hN:=hN.bl hb23
    have hOa:=hOa.bl hb23
    clear hb23 hb2
    go_upto_region 6 with (fail)
    obtain⟨i0,i1⟩:=bx2 hN
    obtain⟨j0,j1⟩:=bx2 hN'
    go_wp2_with fail
    refine(vu _ hOa.rd hOb.rd (by omega) (by omega)).mono ?_
    rintro e w8 ⟨s8,A8,n8,c8,rfl,hO8,hb8⟩
    have hr8:=hr.bl hb8
    have hz8:w.heap.size+1+1<w8.heap.size:=hr8.lt
    have hx8:=hx.bl hb8
    have hx8':=hx'.bl hb8
    have hb9:=hb3.next hb8
    have hO8:=hO8.mono (show w.heap.size+1+1+1<=W3.heap.size from hr.lt)
    have hl8:n8<=1048570:=by rw[<-hO8.len];exact hlz
    clear i0 i1 j0 j1 hx hx' hr hb3 hOa hOb hN hN' hb8
    go_wp2_with fail
    refine qe (λW4=>Bl w W4/\Blk W4 w8.heap.size 24 #[.bool s8,.slice A8 n8 c8]/\Blk W4 (w.heap.size) 26 #[.bool s,.slice A n c,.slice B m d]/\Blk W4 (w.heap.size+1) 26 #[.bool s',.slice A' n' c',.slice B' m' d']/\Wk 3 26 (w.heap.size+1+1) W4/\OwB 3 (w.heap.size+1+1+1) W4 s8 A8 n8 c8 (x*(D':Int)+x'*(D:Int))) ⟨slc,Blk.new _ _ _,hx8.alloc _,hx8'.alloc _,hr8.alloc _,hO8.bl slc⟩ ?_
    rintro W4 ⟨hbW,hN,hx,hx',hr,hO⟩
    go_region_held3 (λw'=>(w'.cell? ⟨w8.heap.size,0,none⟩=some (.bool s8)/\w'.cell? ⟨w8.heap.size,1,none⟩=some (.slice A8 n8 c8))/\(w'.cell? ⟨w.heap.size,0,none⟩=some (.bool s)/\w'.cell? ⟨w.heap.size,1,none⟩=some (.slice A n c)/\w'.cell? ⟨w.heap.size,2,none⟩=some (.slice B m d))/\(w'.cell? ⟨w.heap.size+1,0,none⟩=some (.bool s')/\w'.cell? ⟨w.heap.size+1,1,none⟩=some (.slice A' n' c')/\w'.cell? ⟨w.heap.size+1,2,none⟩=some (.slice B' m' d'))/\(w'.cell? ⟨w.heap.size+1+1,0,none⟩=some (qh w' (w.heap.size+1+1) 0)/\w'.cell? ⟨w.heap.size+1+1,1,none⟩=some (qh w' (w.heap.size+1+1) 1)/\w'.cell? ⟨w.heap.size+1+1,2,none⟩=some (qh w' (w.heap.size+1+1) 2))/\w'.frozen? ⟨w.heap.size+1+1,0,none⟩=false/\w'.frozen? ⟨w.heap.size+1+1,1,none⟩=false/\w'.frozen? ⟨w.heap.size+1+1,2,none⟩=false) (first|exact⟨bx2 (T:=24) bts,bx3 (T:=26) bts,bx3 (T:=26) bts,Wk.out3 (T:=26) bts⟩) (first |(go_at_call 190;refine(zT _ (h.dn.bl slc) (k.dn.bl slc) (by omega) (by omega)).mono ?_;rintro e w9 ⟨A9,n9,c9,rfl,hO9,hb9⟩;(have hl9:n9<=1048570:=by rw[<-hO9.rd.lenN];exact hlD);(have hO10:=hO.rd.mg.bl (Bl.next (Bl.drew (Bl.refl _)) hb9))) |(go_at_call 188;refine(QP _ s8 hO10 hO9.rd hl8 hl9).mono ?_;rintro e w10 ⟨s1,A1,n1,c1,B1,m1,d1,rfl,hR,hb10⟩))
    have hz9:W4.heap.size<=w9.heap.size:=(Bl.size hb9:W4.drew.heap.size<=_)
    have hzr:w.heap.size+1+1+1<=W4.heap.size:=hr.lt
    have hr:=(show Wk 3 26 (w.heap.size+1+1) w10 from bts)
    have hbW:Bl w w10:=slc
    rw[ZR hDD hO.1]at hR
    have hR:=hR.mono (show w.heap.size+1+1+1<=w9.heap.size by omega)
    obtain⟨v0,x0⟩:=hr.val_ (i:=0) (by omega)
    obtain⟨v1,x1⟩:=hr.val_ (i:=1) (by omega)
    obtain⟨v2,x2⟩:=hr.val_ (i:=2) (by omega)
    have hg:=hr.lt
    obtain⟨cs4,hB4,hc4⟩:=hr
    have hf0:=hB4.frozen 0
    have hf1:=hB4.frozen 1
    have hf2:=hB4.frozen 2
    go_wp2_with fail
    exact bodyPost_ret (v:=.agg #[.bool s1,.slice A1 n1 c1,.slice B1 m1 d1]) (by simp[results,Tryz.results143,go_sem,x0,x1,x2]) rfl ⟨_,_,_,_,_,_,_,rfl,(((hR.far (by simp) _).far (by simp) _).far (by simp) _).mono (by omega),slc⟩
theorem vU (w:World) {s:Bool}{A:Option Addr}{n c:Nat}{B:Option Addr}{m d:Nat}{x:Int}{D:Nat}{s':Bool}{A':Option Addr}{n' c':Nat}{B':Option Addr}{m' d':Nat}{x':Int}{D':Nat}(h:IsR w s A n c B m d x D) (k:IsR w s' A' n' c' B' m' d' x' D') (hn:n<=24) (hm:m<=24) (hn':n'<=24) (hm':m'<=24) (hD:0<D) (hD':0<D') :
  Calls Tryz.prog 143 #[.agg #[.bool s,.slice A n c,.slice B m d],.agg #[.bool s',.slice A' n' c',.slice B' m' d']] w λe w'=>∃s1 A1 n1 c1 B1 m1 d1,e=.returned (.agg #[.bool s1,.slice A1 n1 c1,.slice B1 m1 d1])/\OwR 3 w.heap.size w' s1 A1 n1 c1 B1 m1 d1 (qm (x*D'+x'*D) (D*D'))/\Bl w w':=by
 by_cases h12:D=1/\D'=1
 ·exact XC w h k hn hn' h12.1 h12.2
 ·exact kY w h k hn hm hn' hm' hD hD' h12
theorem Zk (w:World) {s:Bool}{A:Option Addr}{n c:Nat}{B:Option Addr}{m d:Nat}{r:qH}{s':Bool}{A':Option Addr}{n' c':Nat}{B':Option Addr}{m' d':Nat}{r':qH}(h:RdR w s A n c B m d r) (k:RdR w s' A' n' c' B' m' d' r') :
  Calls Tryz.prog 275 #[.agg #[.bool s,.slice A n c,.slice B m d],.agg #[.bool s',.slice A' n' c',.slice B' m' d']] w λe w'=>∃s1 A1 n1 c1 B1 m1 d1,e=.returned (.agg #[.bool s1,.slice A1 n1 c1,.slice B1 m1 d1])/\OwR 3 w.heap.size w' s1 A1 n1 c1 B1 m1 d1 (J4 r r')/\Bl w w':=by
 by_cases ho:OkR r
 ·have hok:=zM ho
  by_cases ho':OkR r'
  ·have hok':=zM ho'
   have hI:=IsR.out h ho
   have hI':=IsR.out k ho'
   have hL:=OkR.lens h ho
   have hL':=OkR.lens k ho'
   have hval:=Lib.hid (show J4 r r'=qm (rn r*rd r'-rn r'*rd r) (rd r*rd r')by unfold J4;rw[if_pos ⟨ho,ho'⟩])
   clear ho ho'
   go_enter Tryz.func275,Tryz.ntmps275
   go_wp2_with fail
   refine qd (λW=>Bl w W/\Blk W (w.heap.size) 26 #[.bool s,.slice A n c,.slice B m d]/\Blk W (w.heap.size+1) 26 #[.bool s',.slice A' n' c',.slice B' m' d']/\Wk 3 26 (w.heap.size+1+1) W) ⟨slc,bts,bts,bts⟩ ?_
   rintro W ⟨hbW,hx,hx',hr⟩
   refine(qw _ (h.bl hbW)).mono ?_
   rw[hok]
   rintro e w1 ⟨rfl,hb1⟩
   have hx:=hx.bl hb1
   have hx':=hx'.bl hb1
   have hr:=hr.bl hb1
   have hbW:=hbW.next hb1
   clear hb1
   obtain⟨i0,i1,i2⟩:=bx3 hx
   obtain⟨j0,j1,j2⟩:=bx3 hx'
   go_wp2_with fail
   refine(qw _ (k.bl hbW)).mono ?_
   rw[hok']
   rintro e w2 ⟨rfl,hb2⟩
   have hx:=hx.bl hb2
   have hx':=hx'.bl hb2
   have hr:=hr.bl hb2
   have hbW:=hbW.next hb2
   clear hb2
   obtain⟨i0,i1,i2⟩:=bx3 hx
   obtain⟨j0,j1,j2⟩:=bx3 hx'
   go_wp2_with fail
   have hz2:=hr.lt
   go_region_held3 (λw'=>(w'.cell? ⟨w.heap.size,0,none⟩=some (.bool s)/\w'.cell? ⟨w.heap.size,1,none⟩=some (.slice A n c)/\w'.cell? ⟨w.heap.size,2,none⟩=some (.slice B m d))/\(w'.cell? ⟨w.heap.size+1,0,none⟩=some (.bool s')/\w'.cell? ⟨w.heap.size+1,1,none⟩=some (.slice A' n' c')/\w'.cell? ⟨w.heap.size+1,2,none⟩=some (.slice B' m' d'))/\(w'.cell? ⟨w.heap.size+1+1,0,none⟩=some (qh w' (w.heap.size+1+1) 0)/\w'.cell? ⟨w.heap.size+1+1,1,none⟩=some (qh w' (w.heap.size+1+1) 1)/\w'.cell? ⟨w.heap.size+1+1,2,none⟩=some (qh w' (w.heap.size+1+1) 2))/\w'.frozen? ⟨w.heap.size+1+1,0,none⟩=false/\w'.frozen? ⟨w.heap.size+1+1,1,none⟩=false/\w'.frozen? ⟨w.heap.size+1+1,2,none⟩=false) (first|exact⟨bx3 (T:=26) bts,bx3 (T:=26) bts,Wk.out3 (T:=26) bts⟩) (first |(go_at_call 287;refine(UF _ (RdR.bl hI' slc) (by omega) (by omega)).mono ?_;rintro e w3 ⟨s3,A3,n3,c3,B3,m3,d3,rfl,hN,hb3⟩;(have hl3:n3<=24:=by rw[<-hN.num.lenN,Int.natAbs_neg,hI'.num.lenN];omega);(have hl4:m3<=24:=by rw[<-hN.dn.lenN,hI'.dn.lenN];omega)) |(go_at_call 143;refine(vU _ (RdR.bl hI slc) hN (by omega) (by omega) hl3 hl4 hL.2.2 hL'.2.2).mono ?_;rintro e w4 ⟨s1,A1,n1,c1,B1,m1,d1,rfl,hR,hb4⟩))
   have hz3:w2.heap.size<=w3.heap.size:=(Bl.size hb3:w2.drew.heap.size<=_)
   have hR:=hR.mono (show w.heap.size+1+1+1<=w3.heap.size from Nat.le_trans hz2 hz3)
   rw[show rn r*rd r'+-rn r'*rd r=rn r*rd r'-rn r'*rd r by rw[Int.neg_mul];omega,<-hval.out]at hR
   have hr:=(show Wk 3 26 (w.heap.size+1+1) w4 from bts)
   have hbW:Bl w w4:=slc
   obtain⟨v0,x0⟩:=hr.val_ (i:=0) (by omega)
   obtain⟨v1,x1⟩:=hr.val_ (i:=1) (by omega)
   obtain⟨v2,x2⟩:=hr.val_ (i:=2) (by omega)
   have hg:=hr.lt
   obtain⟨cs4,hB4,hc4⟩:=hr
   have hf0:=hB4.frozen 0
   have hf1:=hB4.frozen 1
   have hf2:=hB4.frozen 2
   go_wp2_with fail
   exact bodyPost_ret (v:=.agg #[.bool s1,.slice A1 n1 c1,.slice B1 m1 d1]) (by simp[results,Tryz.results275,go_sem,x0,x1,x2]) rfl ⟨_,_,_,_,_,_,_,rfl,(((hR.far (by simp) _).far (by simp) _).far (by simp) _).mono (by omega),slc⟩
  ·have hok':=yq ho'
   have hval:=Lib.hid (show J4 r r'=zR by unfold J4;rw[if_neg (λhk=>ho' hk.2)])
   have ho':=Lib.hid ho';rename_i h_;clear h_
   clear ho
   go_enter Tryz.func275,Tryz.ntmps275
   go_wp2_with fail
   refine qd (λW=>Bl w W/\Blk W (w.heap.size) 26 #[.bool s,.slice A n c,.slice B m d]/\Blk W (w.heap.size+1) 26 #[.bool s',.slice A' n' c',.slice B' m' d']/\Wk 3 26 (w.heap.size+1+1) W) ⟨slc,bts,bts,bts⟩ ?_
   rintro W ⟨hbW,hx,hx',hr⟩
   refine(qw _ (h.bl hbW)).mono ?_
   rw[hok]
   rintro e w1 ⟨rfl,hb1⟩
   have hx:=hx.bl hb1
   have hx':=hx'.bl hb1
   have hr:=hr.bl hb1
   have hbW:=hbW.next hb1
   clear hb1
   obtain⟨i0,i1,i2⟩:=bx3 hx
   obtain⟨j0,j1,j2⟩:=bx3 hx'
   go_wp2_with fail
   refine(qw _ (k.bl hbW)).mono ?_
   rw[hok']
   rintro e w2 ⟨rfl,hb2⟩
   have hx:=hx.bl hb2
   have hx':=hx'.bl hb2
   have hr:=hr.bl hb2
   have hbW:=hbW.next hb2
   clear hb2
   obtain⟨i0,i1,i2⟩:=bx3 hx
   obtain⟨j0,j1,j2⟩:=bx3 hx'
   obtain⟨v0,x0⟩:=hr.val_ (i:=0) (by omega)
   obtain⟨v1,x1⟩:=hr.val_ (i:=1) (by omega)
   obtain⟨v2,x2⟩:=hr.val_ (i:=2) (by omega)
   have hg:=hr.lt
   obtain⟨cs4,hB4,hc4⟩:=hr
   have hf0:=hB4.frozen 0
   have hf1:=hB4.frozen 1
   have hf2:=hB4.frozen 2
   go_wp2_with fail
   exact bodyPost_ret (v:=.agg #[.bool false,.slice none 0 0,.slice none 0 0]) (by simp[results,Tryz.results275,go_sem,x0,x1,x2]) rfl ⟨_,_,_,_,_,_,_,rfl,by rw[hval.out];exact OwR.zero _ _ _,slc⟩
 ·have hok:=yq ho
  have hval:=Lib.hid (show J4 r r'=zR by unfold J4;rw[if_neg (λhk=>ho hk.1)])
  replace ho:=Lib.hid ho
  go_enter Tryz.func275,Tryz.ntmps275
  go_wp2_with fail
  refine qd (λW=>Bl w W/\Blk W (w.heap.size) 26 #[.bool s,.slice A n c,.slice B m d]/\Blk W (w.heap.size+1) 26 #[.bool s',.slice A' n' c',.slice B' m' d']/\Wk 3 26 (w.heap.size+1+1) W) ⟨slc,bts,bts,bts⟩ ?_
  rintro W ⟨hbW,hx,hx',hr⟩
  refine(qw _ (h.bl hbW)).mono ?_
  rw[hok]
  rintro e w1 ⟨rfl,hb1⟩
  have hx:=hx.bl hb1
  have hx':=hx'.bl hb1
  have hr:=hr.bl hb1
  have hbW:=hbW.next hb1
  clear hb1
  obtain⟨i0,i1,i2⟩:=bx3 hx
  obtain⟨j0,j1,j2⟩:=bx3 hx'
  obtain⟨v0,x0⟩:=hr.val_ (i:=0) (by omega)
  obtain⟨v1,x1⟩:=hr.val_ (i:=1) (by omega)
  obtain⟨v2,x2⟩:=hr.val_ (i:=2) (by omega)
  have hg:=hr.lt
  obtain⟨cs4,hB4,hc4⟩:=hr
  have hf0:=hB4.frozen 0
  have hf1:=hB4.frozen 1
  have hf2:=hB4.frozen 2
  go_wp2_with fail
  exact bodyPost_ret (v:=.agg #[.bool false,.slice none 0 0,.slice none 0 0]) (by simp[results,Tryz.results275,go_sem,x0,x1,x2]) rfl ⟨_,_,_,_,_,_,_,rfl,by rw[hval.out];exact OwR.zero _ _ _,slc⟩
theorem qbN {w:World}{o:Obj}{a:Addr}(h:a.block<w.heap.size):(w.alloc o).cell? a=w.cell? a:=Bl.qeV ((Bl.refl w).alloc o) h
theorem uI {w:World}{s:Bool}{A:Option Addr}{n c:Nat}{x:Int}(h:IsB w s A n c x) (hn:n<=60):okB s (qu (dig x.natAbs))=true:=by
 refine yo ⟨⟨_,rfl,by rw[h.len];exact hn⟩,λhs=>?_⟩
 rw[qg]
 rw[h.1]at hs
 have:x<0:=by simpa using hs
 exact ql.2 (by omega)
theorem un (w:World) {s:Bool}{A:Option Addr}{n c:Nat}{x:Int}{t:Bool}{B:Option Addr}{m d:Nat}{y:Int}(h:IsB w s A n c x) (k:IsB w t B m d y) (hn:n<=60) (hm:m<=60) (hy:y≠0) :
  Calls Tryz.prog 100 #[.agg #[.bool s,.slice A n c],.agg #[.bool t,.slice B m d]] w λe w'=>∃s1 A1 n1 c1 B1 m1 d1,e=.returned (.agg #[.bool s1,.slice A1 n1 c1,.slice B1 m1 d1])/\OwR 3 w.heap.size w' s1 A1 n1 c1 B1 m1 d1 (VR (s != t) x.natAbs y.natAbs)/\Bl w w':=by
 have hB:=uI h hn
 have hB':=uI k hm
 have hy0:0<y.natAbs:=by omega
 have hm0:0<m:=by rw[<-k.len];exact ql.2 hy0
 have hne:((m:Int) == 0)=false:=by simp;omega
 have hlow:=Lib.hid (show VR (s != t) x.natAbs y.natAbs=qm (sx (s != t) x.natAbs) y.natAbs by unfold VR;rw[if_neg (by omega)])
 clear hy
 go_enter Tryz.func100,Tryz.ntmps100
 go_wp2_with fail
 refine qd (λW=>Bl w W/\Blk W (w.heap.size) 24 #[.bool s,.slice A n c]/\Blk W (w.heap.size+1) 24 #[.bool t,.slice B m d]/\Wk 3 26 (w.heap.size+1+1) W) ⟨slc,bts,bts,bts⟩ ?_
 rintro W ⟨hbW,hx,hx',hr⟩
 refine(qF _ (RdI.bl h.mg hbW)).mono ?_
 rw[hB]
 rintro e w1 ⟨rfl,hb1⟩
 have hx:=hx.bl hb1
 have hx':=hx'.bl hb1
 have hr:=hr.bl hb1
 have hbW:=hbW.next hb1
 clear hb1
 obtain⟨i0,i1⟩:=bx2 hx
 obtain⟨j0,j1⟩:=bx2 hx'
 go_wp2_with fail
 refine(qF _ (RdI.bl k.mg hbW)).mono ?_
 rw[hB']
 rintro e w2 ⟨rfl,hb2⟩
 have hx:=hx.bl hb2
 have hx':=hx'.bl hb2
 have hr:=hr.bl hb2
 have hbW:=hbW.next hb2
 clear hb2
 obtain⟨i0,i1⟩:=bx2 hx
 obtain⟨j0,j1⟩:=bx2 hx'
 have hz2:=hr.lt
 go_wp2_with fail
 go_region_held3 (λw'=>(w'.cell? ⟨w.heap.size,0,none⟩=some (.bool s)/\w'.cell? ⟨w.heap.size,1,none⟩=some (.slice A n c))/\(w'.cell? ⟨w.heap.size+1,0,none⟩=some (.bool t)/\w'.cell? ⟨w.heap.size+1,1,none⟩=some (.slice B m d))/\(w'.cell? ⟨w.heap.size+1+1,0,none⟩=some (qh w' (w.heap.size+1+1) 0)/\w'.cell? ⟨w.heap.size+1+1,1,none⟩=some (qh w' (w.heap.size+1+1) 1)/\w'.cell? ⟨w.heap.size+1+1,2,none⟩=some (qh w' (w.heap.size+1+1) 2))/\w'.frozen? ⟨w.heap.size+1+1,0,none⟩=false/\w'.frozen? ⟨w.heap.size+1+1,1,none⟩=false/\w'.frozen? ⟨w.heap.size+1+1,2,none⟩=false) (first|exact⟨bx2 (T:=24) bts,bx2 (T:=24) bts,Wk.out3 (T:=26) bts⟩) (first |(go_at_call 108;(with_reducible refine(yi _ (RdI.bl h.mg slc) (by omega)).mono ?_);rintro e w3 ⟨A3,n3,c3,rfl,hO3,hb3⟩;(have hO3:OwI 3 (w.heap.size+1+1+1) w3 A3 n3 c3 _:=hO3.mono hz2)) |(go_at_call 109;refine(zm _ _ hO3.rd).mono ?_;rintro e w4 ⟨s4,rfl,hs4,hb4⟩) |(go_at_call 108;(with_reducible refine(yi _ (RdI.bl k.mg slc) (by omega)).mono ?_);rintro e w5 ⟨A5,n5,c5,rfl,hO5,hb5⟩;(have hz4:w.heap.size+1+1+1<=w4.heap.size:=Wk.lt (k:=3) (T:=26) bts);(have hR5:OwR 3 (w.heap.size+1+1+1) w5 s4 A3 n3 c3 A5 n5 c5 (raw (sx (s != t) x.natAbs) y.natAbs):=OwR.two' (by show OwI _ _ _ _ _ _ (qu (dig (sx (s != t) x.natAbs).natAbs));rw[uE];exact hO3.bl hb4) hO5 hb5 hz4 (by rw[hs4.out];exact(qbr _ _).symm));(have hz5:w.heap.size+1+1+1<=w5.heap.size:=Wk.lt (k:=3) (T:=26) bts);(have hl3:n3<=60:=by rw[<-hO3.rd.lenN,h.len];exact hn);(have hl5:n5<=60:=by rw[<-hO5.rd.lenN,k.len];exact hm)) |(go_at_call 113;refine(qY _ hR5 hz5 (by omega) (by omega) hy0).mono ?_;rintro e w6 ⟨s1,A1,n1,c1,B1,m1,d1,rfl,hR,hb6⟩))
 have hr:=(show Wk 3 26 (w.heap.size+1+1) w6 from bts)
 have hbW:Bl w w6:=slc
 rw[<-hlow.out]at hR
 obtain⟨v0,x0⟩:=hr.val_ (i:=0) (by omega)
 obtain⟨v1,x1⟩:=hr.val_ (i:=1) (by omega)
 obtain⟨v2,x2⟩:=hr.val_ (i:=2) (by omega)
 have hg:=hr.lt
 obtain⟨cs4,hB4,hc4⟩:=hr
 have hf0:=hB4.frozen 0
 have hf1:=hB4.frozen 1
 have hf2:=hB4.frozen 2
 go_wp2_with fail
 exact bodyPost_ret (v:=.agg #[.bool s1,.slice A1 n1 c1,.slice B1 m1 d1]) (by simp[results,Tryz.results100,go_sem,x0,x1,x2]) rfl ⟨_,_,_,_,_,_,_,rfl,(((hR.far (by simp) _).far (by simp) _).far (by simp) _).mono (by omega),slc⟩
theorem Jd {x:Int}(h1 : -9223372036854775808<=x) (h2:x<=9223372036854775807):(dig x.natAbs).length<=3:=qr.2 (by rw[qk];omega)
theorem xk (w:World) (x y:Int) (h1 : -9223372036854775808<=x) (h2:x<=9223372036854775807) (g1:0<y) (g2:y<=9223372036854775807) :
  Calls Tryz.prog 46 #[.int .i64 x,.int .i64 y] w λe w'=>∃s1 A1 n1 c1 B1 m1 d1,e=.returned (.agg #[.bool s1,.slice A1 n1 c1,.slice B1 m1 d1])/\OwR 3 w.heap.size w' s1 A1 n1 c1 B1 m1 d1 (qm x y.natAbs)/\Bl w w':=by
 have hv:=Lib.hid (show VR (decide (x<0) != decide (y<0)) x.natAbs y.natAbs=qm x y.natAbs by
  rw[decide_eq_false (show ¬y<0 by omega),Bool.bne_false]
  exact ZR (by omega) rfl)
 have hlx:=Jd h1 h2
 have hly:=Jd (x:=y) (by omega) g2
 go_enter Tryz.func46,Tryz.ntmps46
 go_wp2_with fail
 refine qd (λW=>Bl w W/\Wk 3 26 (w.heap.size) W) ⟨slc,bts⟩ ?_
 rintro W ⟨hbW,hr⟩
 refine(yu _ x h1 h2).mono ?_
 rintro e w1 ⟨s1,A1,n1,c1,rfl,hO1,hb1⟩
 have hl1:n1<=3:=by rw[<-hO1.len];exact hlx
 go_wp2_with fail
 refine(yu _ y (by omega) g2).mono ?_
 rintro e w2 ⟨s2,A2,n2,c2,rfl,hO2,hb2⟩
 have hl2:n2<=3:=by rw[<-hO2.len];exact hly
 have hB1:=hO1.rd.bl hb2
 have q1:=Lib.hid hB1.1
 have q2:=Lib.hid hO2.1
 go_wp2_with fail
 refine(un _ hB1 hO2.rd (by omega) (by omega) (by omega)).mono ?_
 rintro e w3 ⟨s3,A3,n3,c3,B3,m3,d3,rfl,hR,hb3⟩
 rw[q1.out,q2.out,hv.out]at hR
 have hr2:=(hr.bl hb1).bl hb2
 have hR:=hR.mono (show w.heap.size+1<=w2.heap.size from hr2.lt)
 have hr:=hr2.bl hb3
 have hbW:=((hbW.next hb1).next hb2).next hb3
 obtain⟨v0,x0⟩:=hr.val_ (i:=0) (by omega)
 obtain⟨v1,x1⟩:=hr.val_ (i:=1) (by omega)
 obtain⟨v2,x2⟩:=hr.val_ (i:=2) (by omega)
 have hg:=hr.lt
 obtain⟨cs4,hB4,hc4⟩:=hr
 have hf0:=hB4.frozen 0
 have hf1:=hB4.frozen 1
 have hf2:=hB4.frozen 2
 go_wp2_with fail
 exact bodyPost_ret (v:=.agg #[.bool s3,.slice A3 n3 c3,.slice B3 m3 d3]) (by simp[results,Tryz.results46,go_sem,x0,x1,x2]) rfl ⟨_,_,_,_,_,_,_,rfl,(((hR.far (by simp) _).far (by simp) _).far (by simp) _).mono (by omega),slc⟩
theorem YU (w:World) (x:Int) (h1 : -9223372036854775808<=x) (h2:x<=9223372036854775807) :
  Calls Tryz.prog 22 #[.int .i64 x] w λe w'=>∃s1 A1 n1 c1 B1 m1 d1,e=.returned (.agg #[.bool s1,.slice A1 n1 c1,.slice B1 m1 d1])/\OwR 3 w.heap.size w' s1 A1 n1 c1 B1 m1 d1 (qm x 1)/\Bl w w':=by
 go_enter Tryz.func22,Tryz.ntmps22
 go_wp2_with fail
 refine qd (λW=>Bl w W/\Wk 3 26 (w.heap.size) W) ⟨slc,bts⟩ ?_
 rintro W ⟨hbW,hr⟩
 refine(xk _ x 1 h1 h2 (by omega) (by omega)).mono ?_
 rintro e w3 ⟨s3,A3,n3,c3,B3,m3,d3,rfl,hR,hb3⟩
 have hR:OwR 3 (w.heap.size+1) w3 s3 A3 n3 c3 B3 m3 d3 (qm x 1):=hR.mono (show w.heap.size+1<=W.heap.size from hr.lt)
 have hr:=hr.bl hb3
 have hbW:=hbW.next hb3
 obtain⟨v0,x0⟩:=hr.val_ (i:=0) (by omega)
 obtain⟨v1,x1⟩:=hr.val_ (i:=1) (by omega)
 obtain⟨v2,x2⟩:=hr.val_ (i:=2) (by omega)
 have hg:=hr.lt
 obtain⟨cs4,hB4,hc4⟩:=hr
 have hf0:=hB4.frozen 0
 have hf1:=hB4.frozen 1
 have hf2:=hB4.frozen 2
 go_wp2_with fail
 exact bodyPost_ret (v:=.agg #[.bool s3,.slice A3 n3 c3,.slice B3 m3 d3]) (by simp[results,Tryz.results22,go_sem,x0,x1,x2]) rfl ⟨_,_,_,_,_,_,_,rfl,(((hR.far (by simp) _).far (by simp) _).far (by simp) _).mono (by omega),slc⟩
theorem yY (w:World) (x:Int) (h1 : -9223372036854775808<x) (h2:x<=9223372036854775807) :
  Calls Tryz.prog 145 #[.int .i64 x] w λe w'=>∃s' A' n' c',e=.returned (.agg #[.bool s',.slice A' n' c'])/\OwB 3 w.heap.size w' s' A' n' c' x/\Bl w w':=by
 have hlx:=Jd (x:=x) (by omega) h2
 have hne:(x == -9223372036854775808)=false:=by simp;omega
 rcases Int.lt_or_le x 0 with hx|hx
 ·skip
  have hu:Hid (-x=((x.natAbs:Nat):Int)):=by unfold Hid;omega
  go_enter Tryz.func145,Tryz.ntmps145
  go_wp2_with fail
  refine qd (λW=>Bl w W/\Wk 2 24 (w.heap.size) W) ⟨slc,bts⟩ ?_
  rintro W ⟨hbW,hr⟩
  rw[hu.out]
  refine(jZ _ x.natAbs (by omega)).mono ?_
  rintro e w3 ⟨A1,k1,c1,rfl,hO,hb3⟩
  have hl:k1<=60:=by rw[<-hO.rd.lenN];omega
  go_wp2_with fail
  refine(qJ _ true hO.rd hl).mono ?_
  rintro e w4 ⟨s4,A4,n4,c4,rfl,hs4,hO4,hb4⟩
  have hr3:=hr.bl hb3
  have hO5:OwB 3 (w.heap.size+1) w4 s4 A4 n4 c4 x:=⟨by rw[hs4.out];exact jc rfl (λ_=>(decide_eq_true hx).symm),hO4.mono (show w.heap.size+1<=w3.heap.size from hr3.lt)⟩
  have hr:=hr3.bl hb4
  have hbW:=(hbW.next hb3).next hb4
  obtain⟨⟨x0,x1⟩,hf0,hf1⟩:=hr.out2
  have hg:=hr.lt
  go_wp2_with fail
  exact bodyPost_ret (v:=.agg #[.bool s4,.slice A4 n4 c4]) (by simp[results,Tryz.results145,go_sem,x0,x1]) rfl ⟨_,_,_,_,rfl,((hO5.far (by simp) _).far (by simp) _).mono (by omega),slc⟩
 ·skip
  have hu:Hid (x=((x.natAbs:Nat):Int)):=by unfold Hid;omega
  go_enter Tryz.func145,Tryz.ntmps145
  go_wp2_with fail
  refine qd (λW=>Bl w W/\Wk 2 24 (w.heap.size) W) ⟨slc,bts⟩ ?_
  rintro W ⟨hbW,hr⟩
  rw[hu.out]
  refine(jZ _ x.natAbs (by omega)).mono ?_
  rintro e w3 ⟨A1,k1,c1,rfl,hO,hb3⟩
  have hl:k1<=60:=by rw[<-hO.rd.lenN];omega
  go_wp2_with fail
  refine(qJ _ false hO.rd hl).mono ?_
  rintro e w4 ⟨s4,A4,n4,c4,rfl,hs4,hO4,hb4⟩
  have hr3:=hr.bl hb3
  have hO5:OwB 3 (w.heap.size+1) w4 s4 A4 n4 c4 x:=⟨by rw[hs4.out];exact jc rfl (λ_=>(decide_eq_false (by omega)).symm),hO4.mono (show w.heap.size+1<=w3.heap.size from hr3.lt)⟩
  have hr:=hr3.bl hb4
  have hbW:=(hbW.next hb3).next hb4
  obtain⟨⟨x0,x1⟩,hf0,hf1⟩:=hr.out2
  have hg:=hr.lt
  go_wp2_with fail
  exact bodyPost_ret (v:=.agg #[.bool s4,.slice A4 n4 c4]) (by simp[results,Tryz.results145,go_sem,x0,x1]) rfl ⟨_,_,_,_,rfl,((hO5.far (by simp) _).far (by simp) _).mono (by omega),slc⟩
theorem Uo {x:Int}(h1 : -9223372036854775808<=x) (h2:x<=9223372036854775807):qm x 1=raw x 1:=by
 have hb:(dig 1).length<=24:=qr.2 (by decide)
 have ha:(dig x.natAbs).length<=24:=Nat.le_trans (Jd h1 h2) (by omega)
 rw[vT (Nat.gcd_one_right _),if_pos ⟨ha,hb⟩]
theorem Zo (w:World) {s:Bool}{A:Option Addr}{n c:Nat}{B:Option Addr}{m d:Nat}{r:qH}{s':Bool}{A':Option Addr}{n' c':Nat}{B':Option Addr}{m' d':Nat}{r':qH}(h:RdR w s A n c B m d r) (k:RdR w s' A' n' c' B' m' d' r') :
  Calls Tryz.prog 93 #[.agg #[.bool s,.slice A n c,.slice B m d],.agg #[.bool s',.slice A' n' c',.slice B' m' d']] w λe w'=>∃s1 A1 n1 c1 B1 m1 d1,e=.returned (.agg #[.bool s1,.slice A1 n1 c1,.slice B1 m1 d1])/\OwR 3 w.heap.size w' s1 A1 n1 c1 B1 m1 d1 (Z3 r r')/\Bl w w':=by
 by_cases ho:OkR r
 ·have hok:=zM ho
  by_cases ho':OkR r'
  ·have hok':=zM ho'
   have hI:=IsR.out h ho
   have hI':=IsR.out k ho'
   have hL:=OkR.lens h ho
   have hL':=OkR.lens k ho'
   have hval:=Lib.hid (show Z3 r r'=qm (rn r*rd r'+rn r'*rd r) (rd r*rd r')by unfold Z3;rw[if_pos ⟨ho,ho'⟩])
   clear ho ho'
   go_enter Tryz.func93,Tryz.ntmps93
   go_wp2_with fail
   refine qd (λW=>Bl w W/\Blk W (w.heap.size) 26 #[.bool s,.slice A n c,.slice B m d]/\Blk W (w.heap.size+1) 26 #[.bool s',.slice A' n' c',.slice B' m' d']/\Wk 3 26 (w.heap.size+1+1) W) ⟨slc,bts,bts,bts⟩ ?_
   rintro W ⟨hbW,hx,hx',hr⟩
   refine(qw _ (h.bl hbW)).mono ?_
   rw[hok]
   rintro e w1 ⟨rfl,hb1⟩
   have hx:=hx.bl hb1
   have hx':=hx'.bl hb1
   have hr:=hr.bl hb1
   have hbW:=hbW.next hb1
   clear hb1
   obtain⟨i0,i1,i2⟩:=bx3 hx
   obtain⟨j0,j1,j2⟩:=bx3 hx'
   go_wp2_with fail
   refine(qw _ (k.bl hbW)).mono ?_
   rw[hok']
   rintro e w2 ⟨rfl,hb2⟩
   have hx:=hx.bl hb2
   have hx':=hx'.bl hb2
   have hr:=hr.bl hb2
   have hbW:=hbW.next hb2
   clear hb2
   obtain⟨i0,i1,i2⟩:=bx3 hx
   obtain⟨j0,j1,j2⟩:=bx3 hx'
   go_wp2_with fail
   refine(vU _ (RdR.bl hI hbW) (RdR.bl hI' hbW) (by omega) (by omega) (by omega) (by omega) hL.2.2 hL'.2.2).mono ?_
   rintro e w3 ⟨s1,A1,n1,c1,B1,m1,d1,rfl,hR,hb3⟩
   have hR:=hR.mono (show w.heap.size+1+1+1<=w2.heap.size from hr.lt)
   rw[<-hval.out]at hR
   have hx:=hx.bl hb3
   have hx':=hx'.bl hb3
   have hr:=hr.bl hb3
   have hbW:=hbW.next hb3
   clear hb3
   obtain⟨i0,i1,i2⟩:=bx3 hx
   obtain⟨j0,j1,j2⟩:=bx3 hx'
   obtain⟨v0,x0⟩:=hr.val_ (i:=0) (by omega)
   obtain⟨v1,x1⟩:=hr.val_ (i:=1) (by omega)
   obtain⟨v2,x2⟩:=hr.val_ (i:=2) (by omega)
   have hg:=hr.lt
   obtain⟨cs4,hB4,hc4⟩:=hr
   have hf0:=hB4.frozen 0
   have hf1:=hB4.frozen 1
   have hf2:=hB4.frozen 2
   go_wp2_with fail
   exact bodyPost_ret (v:=.agg #[.bool s1,.slice A1 n1 c1,.slice B1 m1 d1]) (by simp[results,Tryz.results93,go_sem,x0,x1,x2]) rfl ⟨_,_,_,_,_,_,_,rfl,(((hR.far (by simp) _).far (by simp) _).far (by simp) _).mono (by omega),slc⟩
  ·have hok':=yq ho'
   have hval:=Lib.hid (show Z3 r r'=zR by unfold Z3;rw[if_neg (λhk=>ho' hk.2)])
   have ho':=Lib.hid ho';rename_i h_;clear h_
   clear ho
   go_enter Tryz.func93,Tryz.ntmps93
   go_wp2_with fail
   refine qd (λW=>Bl w W/\Blk W (w.heap.size) 26 #[.bool s,.slice A n c,.slice B m d]/\Blk W (w.heap.size+1) 26 #[.bool s',.slice A' n' c',.slice B' m' d']/\Wk 3 26 (w.heap.size+1+1) W) ⟨slc,bts,bts,bts⟩ ?_
   rintro W ⟨hbW,hx,hx',hr⟩
   refine(qw _ (h.bl hbW)).mono ?_
   rw[hok]
   rintro e w1 ⟨rfl,hb1⟩
   have hx:=hx.bl hb1
   have hx':=hx'.bl hb1
   have hr:=hr.bl hb1
   have hbW:=hbW.next hb1
   clear hb1
   obtain⟨i0,i1,i2⟩:=bx3 hx
   obtain⟨j0,j1,j2⟩:=bx3 hx'
   go_wp2_with fail
   refine(qw _ (k.bl hbW)).mono ?_
   rw[hok']
   rintro e w2 ⟨rfl,hb2⟩
   have hx:=hx.bl hb2
   have hx':=hx'.bl hb2
   have hr:=hr.bl hb2
   have hbW:=hbW.next hb2
   clear hb2
   obtain⟨i0,i1,i2⟩:=bx3 hx
   obtain⟨j0,j1,j2⟩:=bx3 hx'
   obtain⟨v0,x0⟩:=hr.val_ (i:=0) (by omega)
   obtain⟨v1,x1⟩:=hr.val_ (i:=1) (by omega)
   obtain⟨v2,x2⟩:=hr.val_ (i:=2) (by omega)
   have hg:=hr.lt
   obtain⟨cs4,hB4,hc4⟩:=hr
   have hf0:=hB4.frozen 0
   have hf1:=hB4.frozen 1
   have hf2:=hB4.frozen 2
   go_wp2_with fail
   exact bodyPost_ret (v:=.agg #[.bool false,.slice none 0 0,.slice none 0 0]) (by simp[results,Tryz.results93,go_sem,x0,x1,x2]) rfl ⟨_,_,_,_,_,_,_,rfl,by rw[hval.out];exact OwR.zero _ _ _,slc⟩
 ·have hok:=yq ho
  have hval:=Lib.hid (show Z3 r r'=zR by unfold Z3;rw[if_neg (λhk=>ho hk.1)])
  replace ho:=Lib.hid ho
  go_enter Tryz.func93,Tryz.ntmps93
  go_wp2_with fail
  refine qd (λW=>Bl w W/\Blk W (w.heap.size) 26 #[.bool s,.slice A n c,.slice B m d]/\Blk W (w.heap.size+1) 26 #[.bool s',.slice A' n' c',.slice B' m' d']/\Wk 3 26 (w.heap.size+1+1) W) ⟨slc,bts,bts,bts⟩ ?_
  rintro W ⟨hbW,hx,hx',hr⟩
  refine(qw _ (h.bl hbW)).mono ?_
  rw[hok]
  rintro e w1 ⟨rfl,hb1⟩
  have hx:=hx.bl hb1
  have hx':=hx'.bl hb1
  have hr:=hr.bl hb1
  have hbW:=hbW.next hb1
  clear hb1
  obtain⟨i0,i1,i2⟩:=bx3 hx
  obtain⟨j0,j1,j2⟩:=bx3 hx'
  obtain⟨v0,x0⟩:=hr.val_ (i:=0) (by omega)
  obtain⟨v1,x1⟩:=hr.val_ (i:=1) (by omega)
  obtain⟨v2,x2⟩:=hr.val_ (i:=2) (by omega)
  have hg:=hr.lt
  obtain⟨cs4,hB4,hc4⟩:=hr
  have hf0:=hB4.frozen 0
  have hf1:=hB4.frozen 1
  have hf2:=hB4.frozen 2
  go_wp2_with fail
  exact bodyPost_ret (v:=.agg #[.bool false,.slice none 0 0,.slice none 0 0]) (by simp[results,Tryz.results93,go_sem,x0,x1,x2]) rfl ⟨_,_,_,_,_,_,_,rfl,by rw[hval.out];exact OwR.zero _ _ _,slc⟩
theorem Qw (w:World) (x:Int) (h1 : -9223372036854775808<x) (h2:x<=9223372036854775807) :
  Calls Tryz.prog 142 #[.int .i64 x] w λe w'=>∃s1 A1 n1 c1 B1 m1 d1,e=.returned (.agg #[.bool s1,.slice A1 n1 c1,.slice B1 m1 d1])/\OwR 3 w.heap.size w' s1 A1 n1 c1 B1 m1 d1 (qm x 1)/\Bl w w':=by
 have hd:dig 1=[1]:=by rw[yn (by omega),show 1 / Bs=0 from by rw[qk],qX];rfl
 replace hd:=Lib.hid hd
 have hv:=Lib.hid (Uo (x:=x) (by omega) h2)
 go_enter Tryz.func142,Tryz.ntmps142
 go_wp2_with fail
 refine qd (λW=>Bl w W/\Wk 3 26 (w.heap.size) W) ⟨slc,bts⟩ ?_
 rintro W ⟨hbW,hr⟩
 refine(yY _ x h1 h2).mono ?_
 rintro e w3 ⟨s3,A3,n3,c3,rfl,hO3,hb3⟩
 have hr3:=hr.bl hb3
 have hbW:=hbW.next hb3
 obtain⟨⟨x0,x1,x2⟩,hf0,hf1,hf2⟩:=hr3.out3
 have hg:=hr3.lt
 have hO3:=hO3.mono (show w.heap.size+1<=W.heap.size from hr.lt)
 have key:∀ V:World,V.heap.size=w3.heap.size->OwB 3 (w.heap.size+1) V s3 A3 n3 c3 x->OwR 3 (w.heap.size+1) (V.alloc (.cells #[.int .i64 1] 3)) s3 A3 n3 c3 (some ⟨w3.heap.size,0,none⟩) 1 1 (qm x 1):=by
  intro V hV hO
  have hB:Ow 3 (V.alloc (.cells #[.int .i64 1] 3)) V.heap.size [1]:=heap_alloc_new _ _
  have hB:OwI 3 V.heap.size (V.alloc (.cells #[.int .i64 1] 3)) (some ⟨V.heap.size,0,none⟩) 1 1 (qu (dig 1)):=by
   rw[hd.out]
   exact hB.own (c:=1) (by decide) (Nat.le_refl _) (by decide)
  rw[hv.out,<-hV]
  exact OwR.two' hO.2 hB ((Bl.refl V).alloc _) (by rw[hV];exact hg) hO.1
 go_wp2_with fail
 exact bodyPost_ret (v:=.agg #[.bool s3,.slice A3 n3 c3,.slice (some ⟨w3.heap.size,0,none⟩) 1 1]) (by simp[results,Tryz.results142,go_sem,x0,x1,x2,qbN,hg]) rfl ⟨_,_,_,_,_,_,_,rfl,(key _ (by simp) (((hO3.far (by simp) _).far (by simp) _).far (by simp) _)).mono (by omega),slc⟩
theorem qA (w:World) (x y:Int) (hx1 : -1000000<x) (hx2:x<=1000000) (hy1 : -1000000<y) (hy2:y<=1000000) :
  Calls Tryz.prog 90 #[.int .i64 x,.int .i64 y] w λen w'=>∃s1 A1 n1 c1 B1 m1 d1 t1 C1 i1 e1 D1 j1 f1,en=.returned (.agg #[.bool s1,.slice A1 n1 c1,.slice B1 m1 d1,.bool t1,.slice C1 i1 e1,.slice D1 j1 f1])/\OwP 3 w.heap.size w' s1 A1 n1 c1 B1 m1 d1 t1 C1 i1 e1 D1 j1 f1 ⟨qm x 1,qm y 1⟩/\Bl w w':=by
 go_enter Tryz.func90,Tryz.ntmps90
 go_wp2_with fail
 refine qd (λW=>Bl w W/\Wk 6 28 w.heap.size W) ⟨slc,bts⟩ ?_
 rintro W ⟨hbW,hr⟩
 refine(Qw _ x (by omega) (by omega)).mono ?_
 rintro e w2 ⟨s1,A1,n1,c1,B1,m1,d1,rfl,hR1,hb2⟩
 go_wp2_with fail
 refine(Qw _ y (by omega) (by omega)).mono ?_
 rintro e w3 ⟨t1,C1,i1,e1,D1,j1,f1,rfl,hR2,hb3⟩
 have hz:w.heap.size+1<=W.heap.size:=hr.lt
 have hz2:W.heap.size<=w2.heap.size:=Bl.size hb2
 have hr:=(hr.bl hb2).bl hb3
 have hbW:Bl w w3:=slc
 have hX:OwP 3 W.heap.size w3 s1 A1 n1 c1 B1 m1 d1 t1 C1 i1 e1 D1 j1 f1 ⟨qm x 1,qm y 1⟩:=OwP.two hR1 hR2 hb3 hz2
 have hX:=OwP.low hX hz
 obtain⟨v0,x0⟩:=hr.val_ (i:=0) (by omega)
 obtain⟨v1,x1⟩:=hr.val_ (i:=1) (by omega)
 obtain⟨v2,x2⟩:=hr.val_ (i:=2) (by omega)
 obtain⟨v3,x3⟩:=hr.val_ (i:=3) (by omega)
 obtain⟨v4,x4⟩:=hr.val_ (i:=4) (by omega)
 obtain⟨v5,x5⟩:=hr.val_ (i:=5) (by omega)
 have hg:=hr.lt
 obtain⟨cs4,hB4,hc4⟩:=hr
 have hf0:=hB4.frozen 0
 have hf1:=hB4.frozen 1
 have hf2:=hB4.frozen 2
 have hf3:=hB4.frozen 3
 have hf4:=hB4.frozen 4
 have hf5:=hB4.frozen 5
 go_wp2_with fail
 exact bodyPost_ret (v:=.agg #[.bool s1,.slice A1 n1 c1,.slice B1 m1 d1,.bool t1,.slice C1 i1 e1,.slice D1 j1 f1]) (by simp[results,Tryz.results90,go_sem,x0,x1,x2,x3,x4,x5]) rfl ⟨_,_,_,_,_,_,_,_,_,_,_,_,_,_,rfl,((((((hX.far (by simp) _).far (by simp) _).far (by simp) _).far (by simp) _).far (by simp) _).far (by simp) _).low (by omega),slc⟩
end Go.Proofs.YtjaapemopbbfaaaGreatDoor
