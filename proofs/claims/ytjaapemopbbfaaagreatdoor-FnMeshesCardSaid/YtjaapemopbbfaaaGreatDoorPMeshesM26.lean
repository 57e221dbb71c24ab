import Derived.Test.YtjaapemopbbfaaaGreatDoorPMeshesM10
import Derived.IntWalk
import Derived.Lib.MinMax
import Derived.Deep.Cut
import Derived.Deep.DeepCutAuto
namespace Go.Proofs.YtjaapemopbbfaaaGreatDoor
open Go.RowKit
set_option maxRecDepth 100000
set_option maxHeartbeats 16000000
theorem qaV (w:World) (v:Int):Calls Tryz.prog 174 #[.int .i64 v] w λe w'=>e=.returned (.int .i64 (jF v 0))/\w'=w:=by
 rcases Int.lt_or_le v 0 with h|h
 ·have hv:=Lib.hid (show jF v 0=-1 by unfold jF;rw[if_pos h])
  go_enter Tryz.func174,Tryz.ntmps174
  go_wp2_with fail
  go_ret
  exact⟨zb hv.out.symm,rfl⟩
 ·rcases Int.lt_or_le 0 v with h'|h'
  ·have hv:=Lib.hid (show jF v 0=1 by unfold jF;rw[if_neg (by omega),if_pos h'])
   go_enter Tryz.func174,Tryz.ntmps174
   go_wp2_with fail
   go_ret
   exact⟨zb hv.out.symm,rfl⟩
  ·have hv:=Lib.hid (show jF v 0=0 by unfold jF;rw[if_neg (by omega),if_neg (by omega)])
   go_enter Tryz.func174,Tryz.ntmps174
   go_wp2_with fail
   go_ret
   exact⟨zb hv.out.symm,rfl⟩
theorem qy (w:World) {gp gx gy np cp n cx cy:Nat}{xs ys:List Int}(hx:RdI w (some ⟨gx,0,none⟩) n cx xs) (hy:RdI w (some ⟨gy,0,none⟩) n cy ys) (hB:PlB n xs ys) (a b c:Int) (ha:0<=a) (ha2:a<n) (hb:0<=b) (hb2:b<n) (hc:0<=c) (hc2:c<n) :
  Calls Tryz.prog 128 #[.agg #[.slice (some ⟨gp,0,none⟩) np cp,.slice (some ⟨gx,0,none⟩) n cx,.slice (some ⟨gy,0,none⟩) n cy],.int .i64 a,.int .i64 b,.int .i64 c] w λe w'=>e=.returned (.int .i64 (trn xs ys a b c))/\Bl w w':=by
 have hns:=hx.small
 obtain⟨h1,h2,h3,h4⟩:=hB a.toNat (by omega)
 obtain⟨h5,h6,h7,h8⟩:=hB b.toNat (by omega)
 obtain⟨h9,h10,h11,h12⟩:=hB c.toNat (by omega)
 obtain⟨r,hr⟩:∃r,trn xs ys a b c=r:=⟨_,rfl⟩
 rw[hr]
 unfold trn at hr
 obtain⟨d1,e1⟩:∃d,ix xs b.toNat-ix xs a.toNat=d:=⟨_,rfl⟩
 obtain⟨d2,e2⟩:∃d,ix ys c.toNat-ix ys a.toNat=d:=⟨_,rfl⟩
 obtain⟨d3,e3⟩:∃d,ix ys b.toNat-ix ys a.toNat=d:=⟨_,rfl⟩
 obtain⟨d4,e4⟩:∃d,ix xs c.toNat-ix xs a.toNat=d:=⟨_,rfl⟩
 rw[e1,e2,e3,e4]at hr
 obtain⟨m1,m2⟩:=qbt (a:=d1) (b:=d2) (by omega) (by omega) (by omega) (by omega)
 obtain⟨m3,m4⟩:=qbt (a:=d3) (b:=d4) (by omega) (by omega) (by omega) (by omega)
 obtain⟨p1,e5⟩:∃d,d1*d2=d:=⟨_,rfl⟩
 obtain⟨p2,e6⟩:∃d,d3*d4=d:=⟨_,rfl⟩
 rw[e5,e6]at hr
 rw[e5]at m1 m2
 rw[e6]at m3 m4
 replace hr:=Lib.hid hr
 have f1:IntKind.i64.wrap (ix xs b.toNat-ix xs a.toNat)=d1:=by rw[IntWalk.i64_in _ (by omega),e1]
 have f2:IntKind.i64.wrap (ix ys c.toNat-ix ys a.toNat)=d2:=by rw[IntWalk.i64_in _ (by omega),e2]
 have f3:IntKind.i64.wrap (ix ys b.toNat-ix ys a.toNat)=d3:=by rw[IntWalk.i64_in _ (by omega),e3]
 have f4:IntKind.i64.wrap (ix xs c.toNat-ix xs a.toNat)=d4:=by rw[IntWalk.i64_in _ (by omega),e4]
 have f5:IntKind.i64.wrap (d1*d2)=p1:=by rw[IntWalk.i64_in _ (by omega),e5]
 have f6:IntKind.i64.wrap (d3*d4)=p2:=by rw[IntWalk.i64_in _ (by omega),e6]
 have f7:IntKind.i64.wrap (p1-p2)=p1-p2:=IntWalk.i64_in _ (by omega)
 clear e1 e2 e3 e4 e5 e6
 go_enter Tryz.func128,Tryz.ntmps128
 go_wp2_with fail
 refine qe (λW=>Bl w W/\Blk W w.heap.size 92 #[.slice (some ⟨gp,0,none⟩) np cp,.slice (some ⟨gx,0,none⟩) n cx,.slice (some ⟨gy,0,none⟩) n cy]) ⟨slc,bts⟩ ?_
 rintro W ⟨hbW,hBx⟩
 have xa:=jN (hx.bl hbW) (k:=a.toNat) (by omega)
 have ya:=jN (hy.bl hbW) (k:=a.toNat) (by omega)
 have xb:=jN (hx.bl hbW) (k:=b.toNat) (by omega)
 have yb:=jN (hy.bl hbW) (k:=b.toNat) (by omega)
 have xc:=jN (hx.bl hbW) (k:=c.toNat) (by omega)
 have yc:=jN (hy.bl hbW) (k:=c.toNat) (by omega)
 obtain⟨z0,z1,z2⟩:=bx3 hBx
 clear hB hx hy
 go_quiet ((go_at_call 174;exact Calls.quiet_of_same (qaV _ _)))
 go_wp2_with fail
 go_ret
 exact⟨zb (by rw[<-hr.out]),slc⟩
def qbP (n:Nat) (t:qC):Prop:=(0<=t.a/\t.a<n)/\(0<=t.b/\t.b<n)/\0<=t.c/\t.c<n
instance (n:Nat) (t:qC):Decidable (qbP n t):=by unfold qbP;infer_instance
def sd (xs ys:List Int) (t:qC) (a b:Int):Bool:=decide (trn xs ys a b t.a<=0)&&(decide (trn xs ys a b t.b<=0)&&decide (trn xs ys a b t.c<=0))
def JA (xs ys:List Int) (s t:qC):Bool:=sd xs ys t s.a s.b||(sd xs ys t s.b s.c||sd xs ys t s.c s.a)
def vg (xs ys:List Int) (s t:qC):Nat->Bool
 | 0=>false
 | 1=>sd xs ys t s.a s.b
 | 2=>sd xs ys t s.a s.b||sd xs ys t s.b s.c
 | _=>JA xs ys s t
theorem Blk.new4 (w:World) (o0 o1 o2 o3:Obj) (T:TypeId) (cs:Array Value):Blk (((((w.alloc o0).alloc o1).alloc o2).alloc o3).alloc (.cells cs T)) (w.heap.size+1+1+1+1) T cs:=by
 have h:=heap_alloc_new ((((w.alloc o0).alloc o1).alloc o2).alloc o3) (.cells cs T)
 have e:((((w.alloc o0).alloc o1).alloc o2).alloc o3).heap.size=w.heap.size+1+1+1+1:=by simp
 rw[e]at h
 exact h
theorem Blk.new5 (w:World) (o0 o1 o2 o3 o4:Obj) (T:TypeId) (cs:Array Value):Blk ((((((w.alloc o0).alloc o1).alloc o2).alloc o3).alloc o4).alloc (.cells cs T)) (w.heap.size+1+1+1+1+1) T cs:=by
 have h:=heap_alloc_new (((((w.alloc o0).alloc o1).alloc o2).alloc o3).alloc o4) (.cells cs T)
 have e:(((((w.alloc o0).alloc o1).alloc o2).alloc o3).alloc o4).heap.size=w.heap.size+1+1+1+1+1:=by simp
 rw[e]at h
 exact h
theorem b45 {P:Prop}(h:P:=by repeat (first|with_reducible assumption|with_reducible exact Blk.new _ _ _|with_reducible exact Blk.new1 _ _ _ _|with_reducible exact Blk.new2 _ _ _ _ _|with_reducible exact Blk.new3 _ _ _ _ _ _|with_reducible exact Blk.new4 _ _ _ _ _ _ _|with_reducible exact Blk.new5 _ _ _ _ _ _ _ _|with_reducible refine Blk.drew ?_|with_reducible refine Blk.alloc ?_ _)):P:=h
theorem QT (w:World) (t:qC) :
  Calls Tryz.prog 69 #[.agg #[.int .i64 t.a,.int .i64 t.b,.int .i64 t.c,.int .i64 t.region,.int .i64 t.level]] w λe w'=>e=.returned (.agg #[.int .i64 t.a,.int .i64 t.b,.int .i64 t.c])/\w'=(w.alloc (.cells #[.int .i64 t.a,.int .i64 t.b,.int .i64 t.c,.int .i64 t.region,.int .i64 t.level] 83)).alloc (.cells #[.int .i64 t.a,.int .i64 t.b,.int .i64 t.c] 96):=by
 go_enter Tryz.func69,Tryz.ntmps69
 go_wp2
 refine bodyPost_ret (v:=.agg #[.int .i64 t.a,.int .i64 t.b,.int .i64 t.c]) (by simp[results,Tryz.results69,go_sem]) rfl ⟨rfl,rfl⟩
theorem ZJ (w:World) {gp gx gy np cp n cx cy:Nat}{xs ys:List Int}(hx:RdI w (some ⟨gx,0,none⟩) n cx xs) (hy:RdI w (some ⟨gy,0,none⟩) n cy ys) (hB:PlB n xs ys) (s t:qC) (hs:qbP n s) (ht:qbP n t) :
  Calls Tryz.prog 70 #[.agg #[.slice (some ⟨gp,0,none⟩) np cp,.slice (some ⟨gx,0,none⟩) n cx,.slice (some ⟨gy,0,none⟩) n cy],.agg #[.int .i64 s.a,.int .i64 s.b,.int .i64 s.c,.int .i64 s.region,.int .i64 s.level],.agg #[.int .i64 t.a,.int .i64 t.b,.int .i64 t.c,.int .i64 t.region,.int .i64 t.level]] w λe w'=>e=.returned (.bool (JA xs ys s t))/\Bl w w':=by
 go_enter Tryz.func70,Tryz.ntmps70
 go_wp2_with fail
 go_cut [7,8] (λs7 s8 wx=>∃(g7 g8:Nat),s7=.pointer (some ⟨g7,0,none⟩)/\s8=.pointer (some ⟨g8,0,none⟩)/\Blk wx g7 96 #[.int .i64 s.a,.int .i64 s.b,.int .i64 s.c]/\Blk wx g8 96 #[.int .i64 t.a,.int .i64 t.b,.int .i64 t.c]/\Blk wx w.heap.size 92 #[.slice (some ⟨gp,0,none⟩) np cp,.slice (some ⟨gx,0,none⟩) n cx,.slice (some ⟨gy,0,none⟩) n cy]/\Bl w wx)
 case first=>
  refine qe (λW=>Bl w W/\Blk W w.heap.size 92 #[.slice (some ⟨gp,0,none⟩) np cp,.slice (some ⟨gx,0,none⟩) n cx,.slice (some ⟨gy,0,none⟩) n cy]/\Blk W (w.heap.size+1) 83 #[.int .i64 s.a,.int .i64 s.b,.int .i64 s.c,.int .i64 s.region,.int .i64 s.level]/\Blk W (w.heap.size+1+1) 83 #[.int .i64 t.a,.int .i64 t.b,.int .i64 t.c,.int .i64 t.region,.int .i64 t.level]) ⟨slc,bts,bts,bts⟩ ?_
  rintro W ⟨hbW,hBx,hBs,hBt⟩
  clear hx hy hB hs ht
  go_region_held3 (λw'=>(w'.cell? ⟨(w.heap.size+1),0,none⟩=some (.int .i64 s.a)/\w'.cell? ⟨(w.heap.size+1),1,none⟩=some (.int .i64 s.b)/\w'.cell? ⟨(w.heap.size+1),2,none⟩=some (.int .i64 s.c)/\w'.cell? ⟨(w.heap.size+1),3,none⟩=some (.int .i64 s.region)/\w'.cell? ⟨(w.heap.size+1),4,none⟩=some (.int .i64 s.level))/\(w'.cell? ⟨(w.heap.size+1+1),0,none⟩=some (.int .i64 t.a)/\w'.cell? ⟨(w.heap.size+1+1),1,none⟩=some (.int .i64 t.b)/\w'.cell? ⟨(w.heap.size+1+1),2,none⟩=some (.int .i64 t.c)/\w'.cell? ⟨(w.heap.size+1+1),3,none⟩=some (.int .i64 t.region)/\w'.cell? ⟨(w.heap.size+1+1),4,none⟩=some (.int .i64 t.level))) (first|exact⟨bx5 (T:=83) (hBs.bl slc),bx5 (T:=83) (hBt.bl slc)⟩) (first |(go_at_call 69;(with_reducible refine(QT _ s).mono ?_);rintro e v1 ⟨rfl,rfl⟩) |(go_at_call 69;(with_reducible refine(QT _ t).mono ?_);rintro e v2 ⟨rfl,rfl⟩))
  all_goals
   go_wp2_with fail
   go_meet
   refine⟨_,_,rfl,rfl,?_,?_,?_,?_⟩
   ·exact b45
   ·exact b45
   ·exact bts
   ·exact slc
 case rest=>
  obtain⟨⟨sa0,sa1⟩,⟨sb0,sb1⟩,sc0,sc1⟩:=hs
  obtain⟨⟨ta0,ta1⟩,⟨tb0,tb1⟩,tc0,tc1⟩:=ht
  obtain⟨g7,g8,rfl,rfl,h7,h8,hBx,hbc⟩:=hcut
  obtain⟨wa,rfl⟩:∃wa:World,wa=wc:=⟨_,rfl⟩
  obtain⟨y0,y1,y2⟩:=bx3 h7
  go_wp2_with fail
  clear y0 y1 y2
  go_loopw [17] (λv wr=>∃k:Nat,k<=3/\v=.int .i64 (k:Int)/\Hid (vg xs ys s t k=false)/\Bl wa wr) (λv _=>3-(intOf v).toNat)
  case atStart=>exact⟨0,by omega,rfl,Lib.hid rfl,Bl.refl _⟩
  case round=>
   obtain⟨k,hk,rfl,hprev,hbw⟩:=hrel
   rcases(show k=0\/k=1\/k=2\/k=3 by omega)with rfl|rfl|rfl|rfl
   ·skip
    have e0:((0:Nat):Int)=0:=rfl
    rw[e0]
    clear e0 hk
    obtain⟨wo,rfl⟩:∃wo:World,wo=wr:=⟨_,rfl⟩
    obtain⟨r0,r1,r2⟩:=bx3 (hBx.bl hbw)
    obtain⟨y0,y1,y2⟩:=bx3 (h7.bl hbw)
    obtain⟨z0,z1,z2⟩:=bx3 (h8.bl hbw)
    have hg7:=(h7.bl hbw).lt
    have hg8:=(h8.bl hbw).lt
    have hgb:=(hBx.bl hbw).lt
    have hbw0:=hbc.next hbw
    have hix:∀W:World,(Instr.index 96 (.agg #[.int .i64 s.a,.int .i64 s.b,.int .i64 s.c]) (.int .i64 0)).run Tryz.prog W=.ok (.int .i64 s.a) W:=λ_=>by kernel_rfl
    by_cases p0:trn xs ys s.a s.b t.a<=0
    ·by_cases p1:trn xs ys s.a s.b t.b<=0
     ·by_cases p2:trn xs ys s.a s.b t.c<=0
      ·skip
       go_wp2_with (first |(go_at_call 128;(with_reducible refine(qy _ (hx.bl slc) (hy.bl slc) hB s.a s.b t.a sa0 sa1 sb0 sb1 ta0 ta1).mono ?_);rintro e v0 ⟨rfl,hv0⟩;(obtain⟨hc0,hf0⟩:=zr hv0);(have hz0:=hv0.size);(have hy70:g7<v0.heap.size:=by omega);(have hy80:g8<v0.heap.size:=by omega);(have hyb0:w.heap.size<v0.heap.size:=by omega)) |(go_at_call 128;(with_reducible refine(qy _ (hx.bl slc) (hy.bl slc) hB s.a s.b t.b sa0 sa1 sb0 sb1 tb0 tb1).mono ?_);rintro e v1 ⟨rfl,hv1⟩;(obtain⟨hc1,hf1⟩:=zr hv1);(have hz1:=hv1.size);(have hy71:g7<v1.heap.size:=by omega);(have hy81:g8<v1.heap.size:=by omega);(have hyb1:w.heap.size<v1.heap.size:=by omega)) |(go_at_call 128;(with_reducible refine(qy _ (hx.bl slc) (hy.bl slc) hB s.a s.b t.c sa0 sa1 sb0 sb1 tc0 tc1).mono ?_);rintro e v2 ⟨rfl,hv2⟩;(obtain⟨hc2,hf2⟩:=zr hv2);(have hz2:=hv2.size);(have hy72:g7<v2.heap.size:=by omega);(have hy82:g8<v2.heap.size:=by omega);(have hyb2:w.heap.size<v2.heap.size:=by omega)))
       go_ret
       exact⟨qq (by unfold JA sd;simp[*]),hbc.next (((hbw.next hv0).next hv1).next hv2)⟩
      ·skip
       go_wp2_with (first |(go_at_call 128;(with_reducible refine(qy _ (hx.bl slc) (hy.bl slc) hB s.a s.b t.a sa0 sa1 sb0 sb1 ta0 ta1).mono ?_);rintro e v0 ⟨rfl,hv0⟩;(obtain⟨hc0,hf0⟩:=zr hv0);(have hz0:=hv0.size);(have hy70:g7<v0.heap.size:=by omega);(have hy80:g8<v0.heap.size:=by omega);(have hyb0:w.heap.size<v0.heap.size:=by omega)) |(go_at_call 128;(with_reducible refine(qy _ (hx.bl slc) (hy.bl slc) hB s.a s.b t.b sa0 sa1 sb0 sb1 tb0 tb1).mono ?_);rintro e v1 ⟨rfl,hv1⟩;(obtain⟨hc1,hf1⟩:=zr hv1);(have hz1:=hv1.size);(have hy71:g7<v1.heap.size:=by omega);(have hy81:g8<v1.heap.size:=by omega);(have hyb1:w.heap.size<v1.heap.size:=by omega)) |(go_at_call 128;(with_reducible refine(qy _ (hx.bl slc) (hy.bl slc) hB s.a s.b t.c sa0 sa1 sb0 sb1 tc0 tc1).mono ?_);rintro e v2 ⟨rfl,hv2⟩;(obtain⟨hc2,hf2⟩:=zr hv2);(have hz2:=hv2.size);(have hy72:g7<v2.heap.size:=by omega);(have hy82:g8<v2.heap.size:=by omega);(have hyb2:w.heap.size<v2.heap.size:=by omega)))
       go_roundw
       case rel=>exact⟨1,by omega,rfl,Lib.hid (by have q0:=hprev.out;revert q0;unfold vg;simp[sd, *]),(((hbw.next hv0).next hv1).next hv2)⟩
       case measure=>simp[intOf]
     ·skip
      go_wp2_with (first |(go_at_call 128;(with_reducible refine(qy _ (hx.bl slc) (hy.bl slc) hB s.a s.b t.a sa0 sa1 sb0 sb1 ta0 ta1).mono ?_);rintro e v0 ⟨rfl,hv0⟩;(obtain⟨hc0,hf0⟩:=zr hv0);(have hz0:=hv0.size);(have hy70:g7<v0.heap.size:=by omega);(have hy80:g8<v0.heap.size:=by omega);(have hyb0:w.heap.size<v0.heap.size:=by omega)) |(go_at_call 128;(with_reducible refine(qy _ (hx.bl slc) (hy.bl slc) hB s.a s.b t.b sa0 sa1 sb0 sb1 tb0 tb1).mono ?_);rintro e v1 ⟨rfl,hv1⟩;(obtain⟨hc1,hf1⟩:=zr hv1);(have hz1:=hv1.size);(have hy71:g7<v1.heap.size:=by omega);(have hy81:g8<v1.heap.size:=by omega);(have hyb1:w.heap.size<v1.heap.size:=by omega)) |(go_at_call 128;(with_reducible refine(qy _ (hx.bl slc) (hy.bl slc) hB s.a s.b t.c sa0 sa1 sb0 sb1 tc0 tc1).mono ?_);rintro e v2 ⟨rfl,hv2⟩;(obtain⟨hc2,hf2⟩:=zr hv2);(have hz2:=hv2.size);(have hy72:g7<v2.heap.size:=by omega);(have hy82:g8<v2.heap.size:=by omega);(have hyb2:w.heap.size<v2.heap.size:=by omega)))
      go_roundw
      case rel=>exact⟨1,by omega,rfl,Lib.hid (by have q0:=hprev.out;revert q0;unfold vg;simp[sd, *]),((hbw.next hv0).next hv1)⟩
      case measure=>simp[intOf]
    ·skip
     go_wp2_with (first |(go_at_call 128;(with_reducible refine(qy _ (hx.bl slc) (hy.bl slc) hB s.a s.b t.a sa0 sa1 sb0 sb1 ta0 ta1).mono ?_);rintro e v0 ⟨rfl,hv0⟩;(obtain⟨hc0,hf0⟩:=zr hv0);(have hz0:=hv0.size);(have hy70:g7<v0.heap.size:=by omega);(have hy80:g8<v0.heap.size:=by omega);(have hyb0:w.heap.size<v0.heap.size:=by omega)) |(go_at_call 128;(with_reducible refine(qy _ (hx.bl slc) (hy.bl slc) hB s.a s.b t.b sa0 sa1 sb0 sb1 tb0 tb1).mono ?_);rintro e v1 ⟨rfl,hv1⟩;(obtain⟨hc1,hf1⟩:=zr hv1);(have hz1:=hv1.size);(have hy71:g7<v1.heap.size:=by omega);(have hy81:g8<v1.heap.size:=by omega);(have hyb1:w.heap.size<v1.heap.size:=by omega)) |(go_at_call 128;(with_reducible refine(qy _ (hx.bl slc) (hy.bl slc) hB s.a s.b t.c sa0 sa1 sb0 sb1 tc0 tc1).mono ?_);rintro e v2 ⟨rfl,hv2⟩;(obtain⟨hc2,hf2⟩:=zr hv2);(have hz2:=hv2.size);(have hy72:g7<v2.heap.size:=by omega);(have hy82:g8<v2.heap.size:=by omega);(have hyb2:w.heap.size<v2.heap.size:=by omega)))
     go_roundw
     case rel=>exact⟨1,by omega,rfl,Lib.hid (by have q0:=hprev.out;revert q0;unfold vg;simp[sd, *]),(hbw.next hv0)⟩
     case measure=>simp[intOf]
   ·skip
    have e0:((1:Nat):Int)=1:=rfl
    rw[e0]
    clear e0 hk
    obtain⟨wo,rfl⟩:∃wo:World,wo=wr:=⟨_,rfl⟩
    obtain⟨r0,r1,r2⟩:=bx3 (hBx.bl hbw)
    obtain⟨y0,y1,y2⟩:=bx3 (h7.bl hbw)
    obtain⟨z0,z1,z2⟩:=bx3 (h8.bl hbw)
    have hg7:=(h7.bl hbw).lt
    have hg8:=(h8.bl hbw).lt
    have hgb:=(hBx.bl hbw).lt
    have hbw0:=hbc.next hbw
    have hix:∀W:World,(Instr.index 96 (.agg #[.int .i64 s.a,.int .i64 s.b,.int .i64 s.c]) (.int .i64 1)).run Tryz.prog W=.ok (.int .i64 s.b) W:=λ_=>by kernel_rfl
    by_cases p0:trn xs ys s.b s.c t.a<=0
    ·by_cases p1:trn xs ys s.b s.c t.b<=0
     ·by_cases p2:trn xs ys s.b s.c t.c<=0
      ·skip
       go_wp2_with (first |(go_at_call 128;(with_reducible refine(qy _ (hx.bl slc) (hy.bl slc) hB s.b s.c t.a sb0 sb1 sc0 sc1 ta0 ta1).mono ?_);rintro e v0 ⟨rfl,hv0⟩;(obtain⟨hc0,hf0⟩:=zr hv0);(have hz0:=hv0.size);(have hy70:g7<v0.heap.size:=by omega);(have hy80:g8<v0.heap.size:=by omega);(have hyb0:w.heap.size<v0.heap.size:=by omega)) |(go_at_call 128;(with_reducible refine(qy _ (hx.bl slc) (hy.bl slc) hB s.b s.c t.b sb0 sb1 sc0 sc1 tb0 tb1).mono ?_);rintro e v1 ⟨rfl,hv1⟩;(obtain⟨hc1,hf1⟩:=zr hv1);(have hz1:=hv1.size);(have hy71:g7<v1.heap.size:=by omega);(have hy81:g8<v1.heap.size:=by omega);(have hyb1:w.heap.size<v1.heap.size:=by omega)) |(go_at_call 128;(with_reducible refine(qy _ (hx.bl slc) (hy.bl slc) hB s.b s.c t.c sb0 sb1 sc0 sc1 tc0 tc1).mono ?_);rintro e v2 ⟨rfl,hv2⟩;(obtain⟨hc2,hf2⟩:=zr hv2);(have hz2:=hv2.size);(have hy72:g7<v2.heap.size:=by omega);(have hy82:g8<v2.heap.size:=by omega);(have hyb2:w.heap.size<v2.heap.size:=by omega)))
       go_ret
       exact⟨qq (by unfold JA sd;simp[*]),hbc.next (((hbw.next hv0).next hv1).next hv2)⟩
      ·skip
       go_wp2_with (first |(go_at_call 128;(with_reducible refine(qy _ (hx.bl slc) (hy.bl slc) hB s.b s.c t.a sb0 sb1 sc0 sc1 ta0 ta1).mono ?_);rintro e v0 ⟨rfl,hv0⟩;(obtain⟨hc0,hf0⟩:=zr hv0);(have hz0:=hv0.size);(have hy70:g7<v0.heap.size:=by omega);(have hy80:g8<v0.heap.size:=by omega);(have hyb0:w.heap.size<v0.heap.size:=by omega)) |(go_at_call 128;(with_reducible refine(qy _ (hx.bl slc) (hy.bl slc) hB s.b s.c t.b sb0 sb1 sc0 sc1 tb0 tb1).mono ?_);rintro e v1 ⟨rfl,hv1⟩;(obtain⟨hc1,hf1⟩:=zr hv1);(have hz1:=hv1.size);(have hy71:g7<v1.heap.size:=by omega);(have hy81:g8<v1.heap.size:=by omega);(have hyb1:w.heap.size<v1.heap.size:=by omega)) |(go_at_call 128;(with_reducible refine(qy _ (hx.bl slc) (hy.bl slc) hB s.b s.c t.c sb0 sb1 sc0 sc1 tc0 tc1).mono ?_);rintro e v2 ⟨rfl,hv2⟩;(obtain⟨hc2,hf2⟩:=zr hv2);(have hz2:=hv2.size);(have hy72:g7<v2.heap.size:=by omega);(have hy82:g8<v2.heap.size:=by omega);(have hyb2:w.heap.size<v2.heap.size:=by omega)))
       go_roundw
       case rel=>exact⟨2,by omega,rfl,Lib.hid (by have q0:=hprev.out;revert q0;unfold vg;simp[sd, *]),(((hbw.next hv0).next hv1).next hv2)⟩
       case measure=>simp[intOf]
     ·skip
      go_wp2_with (first |(go_at_call 128;(with_reducible refine(qy _ (hx.bl slc) (hy.bl slc) hB s.b s.c t.a sb0 sb1 sc0 sc1 ta0 ta1).mono ?_);rintro e v0 ⟨rfl,hv0⟩;(obtain⟨hc0,hf0⟩:=zr hv0);(have hz0:=hv0.size);(have hy70:g7<v0.heap.size:=by omega);(have hy80:g8<v0.heap.size:=by omega);(have hyb0:w.heap.size<v0.heap.size:=by omega)) |(go_at_call 128;(with_reducible refine(qy _ (hx.bl slc) (hy.bl slc) hB s.b s.c t.b sb0 sb1 sc0 sc1 tb0 tb1).mono ?_);rintro e v1 ⟨rfl,hv1⟩;(obtain⟨hc1,hf1⟩:=zr hv1);(have hz1:=hv1.size);(have hy71:g7<v1.heap.size:=by omega);(have hy81:g8<v1.heap.size:=by omega);(have hyb1:w.heap.size<v1.heap.size:=by omega)) |(go_at_call 128;(with_reducible refine(qy _ (hx.bl slc) (hy.bl slc) hB s.b s.c t.c sb0 sb1 sc0 sc1 tc0 tc1).mono ?_);rintro e v2 ⟨rfl,hv2⟩;(obtain⟨hc2,hf2⟩:=zr hv2);(have hz2:=hv2.size);(have hy72:g7<v2.heap.size:=by omega);(have hy82:g8<v2.heap.size:=by omega);(have hyb2:w.heap.size<v2.heap.size:=by omega)))
      go_roundw
      case rel=>exact⟨2,by omega,rfl,Lib.hid (by have q0:=hprev.out;revert q0;unfold vg;simp[sd, *]),((hbw.next hv0).next hv1)⟩
      case measure=>simp[intOf]
    ·skip
     go_wp2_with (first |(go_at_call 128;(with_reducible refine(qy _ (hx.bl slc) (hy.bl slc) hB s.b s.c t.a sb0 sb1 sc0 sc1 ta0 ta1).mono ?_);rintro e v0 ⟨rfl,hv0⟩;(obtain⟨hc0,hf0⟩:=zr hv0);(have hz0:=hv0.size);(have hy70:g7<v0.heap.size:=by omega);(have hy80:g8<v0.heap.size:=by omega);(have hyb0:w.heap.size<v0.heap.size:=by omega)) |(go_at_call 128;(with_reducible refine(qy _ (hx.bl slc) (hy.bl slc) hB s.b s.c t.b sb0 sb1 sc0 sc1 tb0 tb1).mono ?_);rintro e v1 ⟨rfl,hv1⟩;(obtain⟨hc1,hf1⟩:=zr hv1);(have hz1:=hv1.size);(have hy71:g7<v1.heap.size:=by omega);(have hy81:g8<v1.heap.size:=by omega);(have hyb1:w.heap.size<v1.heap.size:=by omega)) |(go_at_call 128;(with_reducible refine(qy _ (hx.bl slc) (hy.bl slc) hB s.b s.c t.c sb0 sb1 sc0 sc1 tc0 tc1).mono ?_);rintro e v2 ⟨rfl,hv2⟩;(obtain⟨hc2,hf2⟩:=zr hv2);(have hz2:=hv2.size);(have hy72:g7<v2.heap.size:=by omega);(have hy82:g8<v2.heap.size:=by omega);(have hyb2:w.heap.size<v2.heap.size:=by omega)))
     go_roundw
     case rel=>exact⟨2,by omega,rfl,Lib.hid (by have q0:=hprev.out;revert q0;unfold vg;simp[sd, *]),(hbw.next hv0)⟩
     case measure=>simp[intOf]
   ·skip
    have e0:((2:Nat):Int)=2:=rfl
    rw[e0]
    clear e0 hk
    obtain⟨wo,rfl⟩:∃wo:World,wo=wr:=⟨_,rfl⟩
    obtain⟨r0,r1,r2⟩:=bx3 (hBx.bl hbw)
    obtain⟨y0,y1,y2⟩:=bx3 (h7.bl hbw)
    obtain⟨z0,z1,z2⟩:=bx3 (h8.bl hbw)
    have hg7:=(h7.bl hbw).lt
    have hg8:=(h8.bl hbw).lt
    have hgb:=(hBx.bl hbw).lt
    have hbw0:=hbc.next hbw
    have hix:∀W:World,(Instr.index 96 (.agg #[.int .i64 s.a,.int .i64 s.b,.int .i64 s.c]) (.int .i64 2)).run Tryz.prog W=.ok (.int .i64 s.c) W:=λ_=>by kernel_rfl
    by_cases p0:trn xs ys s.c s.a t.a<=0
    ·by_cases p1:trn xs ys s.c s.a t.b<=0
     ·by_cases p2:trn xs ys s.c s.a t.c<=0
      ·skip
       go_wp2_with (first |(go_at_call 128;(with_reducible refine(qy _ (hx.bl slc) (hy.bl slc) hB s.c s.a t.a sc0 sc1 sa0 sa1 ta0 ta1).mono ?_);rintro e v0 ⟨rfl,hv0⟩;(obtain⟨hc0,hf0⟩:=zr hv0);(have hz0:=hv0.size);(have hy70:g7<v0.heap.size:=by omega);(have hy80:g8<v0.heap.size:=by omega);(have hyb0:w.heap.size<v0.heap.size:=by omega)) |(go_at_call 128;(with_reducible refine(qy _ (hx.bl slc) (hy.bl slc) hB s.c s.a t.b sc0 sc1 sa0 sa1 tb0 tb1).mono ?_);rintro e v1 ⟨rfl,hv1⟩;(obtain⟨hc1,hf1⟩:=zr hv1);(have hz1:=hv1.size);(have hy71:g7<v1.heap.size:=by omega);(have hy81:g8<v1.heap.size:=by omega);(have hyb1:w.heap.size<v1.heap.size:=by omega)) |(go_at_call 128;(with_reducible refine(qy _ (hx.bl slc) (hy.bl slc) hB s.c s.a t.c sc0 sc1 sa0 sa1 tc0 tc1).mono ?_);rintro e v2 ⟨rfl,hv2⟩;(obtain⟨hc2,hf2⟩:=zr hv2);(have hz2:=hv2.size);(have hy72:g7<v2.heap.size:=by omega);(have hy82:g8<v2.heap.size:=by omega);(have hyb2:w.heap.size<v2.heap.size:=by omega)))
       go_ret
       exact⟨qq (by unfold JA sd;simp[*]),hbc.next (((hbw.next hv0).next hv1).next hv2)⟩
      ·skip
       go_wp2_with (first |(go_at_call 128;(with_reducible refine(qy _ (hx.bl slc) (hy.bl slc) hB s.c s.a t.a sc0 sc1 sa0 sa1 ta0 ta1).mono ?_);rintro e v0 ⟨rfl,hv0⟩;(obtain⟨hc0,hf0⟩:=zr hv0);(have hz0:=hv0.size);(have hy70:g7<v0.heap.size:=by omega);(have hy80:g8<v0.heap.size:=by omega);(have hyb0:w.heap.size<v0.heap.size:=by omega)) |(go_at_call 128;(with_reducible refine(qy _ (hx.bl slc) (hy.bl slc) hB s.c s.a t.b sc0 sc1 sa0 sa1 tb0 tb1).mono ?_);rintro e v1 ⟨rfl,hv1⟩;(obtain⟨hc1,hf1⟩:=zr hv1);(have hz1:=hv1.size);(have hy71:g7<v1.heap.size:=by omega);(have hy81:g8<v1.heap.size:=by omega);(have hyb1:w.heap.size<v1.heap.size:=by omega)) |(go_at_call 128;(with_reducible refine(qy _ (hx.bl slc) (hy.bl slc) hB s.c s.a t.c sc0 sc1 sa0 sa1 tc0 tc1).mono ?_);rintro e v2 ⟨rfl,hv2⟩;(obtain⟨hc2,hf2⟩:=zr hv2);(have hz2:=hv2.size);(have hy72:g7<v2.heap.size:=by omega);(have hy82:g8<v2.heap.size:=by omega);(have hyb2:w.heap.size<v2.heap.size:=by omega)))
       go_roundw
       case rel=>exact⟨3,by omega,rfl,Lib.hid (by have q0:=hprev.out;revert q0;unfold vg;simp[JA,sd, *]),(((hbw.next hv0).next hv1).next hv2)⟩
       case measure=>simp[intOf]
     ·skip
      go_wp2_with (first |(go_at_call 128;(with_reducible refine(qy _ (hx.bl slc) (hy.bl slc) hB s.c s.a t.a sc0 sc1 sa0 sa1 ta0 ta1).mono ?_);rintro e v0 ⟨rfl,hv0⟩;(obtain⟨hc0,hf0⟩:=zr hv0);(have hz0:=hv0.size);(have hy70:g7<v0.heap.size:=by omega);(have hy80:g8<v0.heap.size:=by omega);(have hyb0:w.heap.size<v0.heap.size:=by omega)) |(go_at_call 128;(with_reducible refine(qy _ (hx.bl slc) (hy.bl slc) hB s.c s.a t.b sc0 sc1 sa0 sa1 tb0 tb1).mono ?_);rintro e v1 ⟨rfl,hv1⟩;(obtain⟨hc1,hf1⟩:=zr hv1);(have hz1:=hv1.size);(have hy71:g7<v1.heap.size:=by omega);(have hy81:g8<v1.heap.size:=by omega);(have hyb1:w.heap.size<v1.heap.size:=by omega)) |(go_at_call 128;(with_reducible refine(qy _ (hx.bl slc) (hy.bl slc) hB s.c s.a t.c sc0 sc1 sa0 sa1 tc0 tc1).mono ?_);rintro e v2 ⟨rfl,hv2⟩;(obtain⟨hc2,hf2⟩:=zr hv2);(have hz2:=hv2.size);(have hy72:g7<v2.heap.size:=by omega);(have hy82:g8<v2.heap.size:=by omega);(have hyb2:w.heap.size<v2.heap.size:=by omega)))
      go_roundw
      case rel=>exact⟨3,by omega,rfl,Lib.hid (by have q0:=hprev.out;revert q0;unfold vg;simp[JA,sd, *]),((hbw.next hv0).next hv1)⟩
      case measure=>simp[intOf]
    ·skip
     go_wp2_with (first |(go_at_call 128;(with_reducible refine(qy _ (hx.bl slc) (hy.bl slc) hB s.c s.a t.a sc0 sc1 sa0 sa1 ta0 ta1).mono ?_);rintro e v0 ⟨rfl,hv0⟩;(obtain⟨hc0,hf0⟩:=zr hv0);(have hz0:=hv0.size);(have hy70:g7<v0.heap.size:=by omega);(have hy80:g8<v0.heap.size:=by omega);(have hyb0:w.heap.size<v0.heap.size:=by omega)) |(go_at_call 128;(with_reducible refine(qy _ (hx.bl slc) (hy.bl slc) hB s.c s.a t.b sc0 sc1 sa0 sa1 tb0 tb1).mono ?_);rintro e v1 ⟨rfl,hv1⟩;(obtain⟨hc1,hf1⟩:=zr hv1);(have hz1:=hv1.size);(have hy71:g7<v1.heap.size:=by omega);(have hy81:g8<v1.heap.size:=by omega);(have hyb1:w.heap.size<v1.heap.size:=by omega)) |(go_at_call 128;(with_reducible refine(qy _ (hx.bl slc) (hy.bl slc) hB s.c s.a t.c sc0 sc1 sa0 sa1 tc0 tc1).mono ?_);rintro e v2 ⟨rfl,hv2⟩;(obtain⟨hc2,hf2⟩:=zr hv2);(have hz2:=hv2.size);(have hy72:g7<v2.heap.size:=by omega);(have hy82:g8<v2.heap.size:=by omega);(have hyb2:w.heap.size<v2.heap.size:=by omega)))
     go_roundw
     case rel=>exact⟨3,by omega,rfl,Lib.hid (by have q0:=hprev.out;revert q0;unfold vg;simp[JA,sd, *]),(hbw.next hv0)⟩
     case measure=>simp[intOf]
   ·have e0:((3:Nat):Int)=3:=rfl
    rw[e0]
    clear e0 hk
    go_wp2_with fail
    go_ret
    exact⟨qq hprev.out.symm,hbc.next hbw⟩
theorem zc (w:World) {a lo hi:Int}(h1:lo<=a) (h2:a<=hi) :
  Calls Tryz.prog 66 #[.int .i64 a,.int .i64 lo,.int .i64 hi] w λe w'=>e=.returned (.bool true)/\∃q,w'=w.drewN q:=by
 refine(jx w a lo hi).mono ?_
 rw[decide_eq_true h1,decide_eq_true h2]
 exact λ_ _ h=>h
theorem Xd (w:World) {a lo hi:Int}(h:¬(lo<=a/\a<=hi)) :
  Calls Tryz.prog 66 #[.int .i64 a,.int .i64 lo,.int .i64 hi] w λe w'=>e=.returned (.bool false)/\∃q,w'=w.drewN q:=by
 refine(jx w a lo hi).mono ?_
 have e:(decide (lo<=a) && decide (a<=hi))=false:=by
  by_cases h1:lo<=a
  ·rw[decide_eq_false (λh2:a<=hi=>h ⟨h1,h2⟩),Bool.and_false]
  ·rw[decide_eq_false h1,Bool.false_and]
 rw[e]
 exact λ_ _ h=>h
def VU (xs ys:List Int) (a b c:Int):Prop :=
 trn xs ys a b c=0/\(min (ix xs a.toNat) (ix xs b.toNat)<=ix xs c.toNat/\ix xs c.toNat<=max (ix xs a.toNat) (ix xs b.toNat))/\min (ix ys a.toNat) (ix ys b.toNat)<=ix ys c.toNat/\ix ys c.toNat<=max (ix ys a.toNat) (ix ys b.toNat)
instance (xs ys:List Int) (a b c:Int):Decidable (VU xs ys a b c):=by unfold VU;infer_instance
theorem YZ (w:World) {gp gx gy n cp cx cy:Nat}{xs ys:List Int}(hx:RdI w (some ⟨gx,0,none⟩) n cx xs) (hy:RdI w (some ⟨gy,0,none⟩) n cy ys) (hB:PlB n xs ys) (t:qC) (ht:qbP n t) (hr0:0<=t.region) (hr1:t.region<=2) (hl0:0<=t.level) (hl1:t.level<=60) (hpos:0<trn xs ys t.a t.b t.c) :
  Calls Tryz.prog 68 #[.agg #[.slice (some ⟨gp,0,none⟩) n cp,.slice (some ⟨gx,0,none⟩) n cx,.slice (some ⟨gy,0,none⟩) n cy],.agg #[.int .i64 t.a,.int .i64 t.b,.int .i64 t.c,.int .i64 t.region,.int .i64 t.level]] w λe w'=>e=.returned (.bool true)/\Bl w w':=by
 have hns:=hx.small
 obtain⟨⟨ta0,ta1⟩,⟨tb0,tb1⟩,tc0,tc1⟩:=ht
 go_enter Tryz.func68,Tryz.ntmps68
 go_wp2_with fail
 refine qd (λW=>Bl w W/\Blk W w.heap.size 92 #[.slice (some ⟨gp,0,none⟩) n cp,.slice (some ⟨gx,0,none⟩) n cx,.slice (some ⟨gy,0,none⟩) n cy]/\Blk W (w.heap.size+1) 83 #[.int .i64 t.a,.int .i64 t.b,.int .i64 t.c,.int .i64 t.region,.int .i64 t.level]) ⟨slc,bts,bts⟩ ?_
 rintro W ⟨hbW,hBx,hBt⟩
 refine(Zl _ t).mono ?_
 rintro e wa ⟨rfl,hv0⟩
 have hbW:=hbW.next hv0
 have hBx:=hBx.bl hv0
 have hBt:=hBt.bl hv0
 clear hv0
 have hix0:∀W:World,(Instr.index 96 (.agg #[.int .i64 t.a,.int .i64 t.b,.int .i64 t.c]) (.int .i64 0)).run Tryz.prog W=.ok (.int .i64 t.a) W:=λ_=>by kernel_rfl
 have hix1:∀W:World,(Instr.index 96 (.agg #[.int .i64 t.a,.int .i64 t.b,.int .i64 t.c]) (.int .i64 1)).run Tryz.prog W=.ok (.int .i64 t.b) W:=λ_=>by kernel_rfl
 have hix2:∀W:World,(Instr.index 96 (.agg #[.int .i64 t.a,.int .i64 t.b,.int .i64 t.c]) (.int .i64 2)).run Tryz.prog W=.ok (.int .i64 t.c) W:=λ_=>by kernel_rfl
 go_wp2_with fail
 go_loopw [9] (λv wr=>∃k:Nat,k<=3/\v=.int .i64 (k:Int)/\Bl wa wr) (λv _=>3-(intOf v).toNat)
 case atStart=>exact⟨0,by omega,rfl,Bl.refl _⟩
 case round=>
  obtain⟨k,hk,rfl,hbw⟩:=hrel
  obtain⟨wo,rfl⟩:∃wo:World,wo=wr:=⟨_,rfl⟩
  rcases(show k=0\/k=1\/k=2\/k=3 by omega)with rfl|rfl|rfl|rfl
  ·have e0:((0:Nat):Int)=0:=rfl
   rw[e0]
   clear e0 hk
   obtain⟨r0,r1,r2⟩:=bx3 (hBx.bl hbw)
   go_wp2_with ((go_at_call 66;(with_reducible refine(zc _ (show 0<=t.a by omega) (show t.a<=(n:Int)-1 by omega)).mono ?_);rintro e v0 ⟨rfl,q0,rfl⟩))
   go_roundw
   case rel=>exact⟨1,by omega,rfl,by exact slc⟩
   case measure=>simp[intOf]
  ·have e0:((1:Nat):Int)=1:=rfl
   rw[e0]
   clear e0 hk
   obtain⟨r0,r1,r2⟩:=bx3 (hBx.bl hbw)
   go_wp2_with ((go_at_call 66;(with_reducible refine(zc _ (show 0<=t.b by omega) (show t.b<=(n:Int)-1 by omega)).mono ?_);rintro e v0 ⟨rfl,q0,rfl⟩))
   go_roundw
   case rel=>exact⟨2,by omega,rfl,by exact slc⟩
   case measure=>simp[intOf]
  ·have e0:((2:Nat):Int)=2:=rfl
   rw[e0]
   clear e0 hk
   obtain⟨r0,r1,r2⟩:=bx3 (hBx.bl hbw)
   go_wp2_with ((go_at_call 66;(with_reducible refine(zc _ (show 0<=t.c by omega) (show t.c<=(n:Int)-1 by omega)).mono ?_);rintro e v0 ⟨rfl,q0,rfl⟩))
   go_roundw
   case rel=>exact⟨3,by omega,rfl,by exact slc⟩
   case measure=>simp[intOf]
  ·have e0:((3:Nat):Int)=3:=rfl
   rw[e0]
   clear e0 hk
   obtain⟨r0,r1,r2⟩:=bx3 (hBx.bl hbw)
   obtain⟨y0,y1,y2,y3,y4⟩:=bx5 (hBt.bl hbw)
   have hbw0:=hbW.next hbw
   go_wp2_with (first |(go_at_call 66;(with_reducible refine(zc _ hr0 hr1).mono ?_);rintro e v0 ⟨rfl,q0,rfl⟩) |(go_at_call 66;(with_reducible refine(zc _ hl0 hl1).mono ?_);rintro e v1 ⟨rfl,q1,rfl⟩) |(go_at_call 128;(with_reducible refine(qy _ (hx.bl slc) (hy.bl slc) hB t.a t.b t.c ta0 ta1 tb0 tb1 tc0 tc1).mono ?_);rintro e v2 ⟨rfl,hv2⟩))
   go_ret
   exact⟨rfl,by exact slc⟩
def Y7 (n:Nat) (ts:List qC):Prop:=∀k,k<ts.length->qbP n (pix ts k)
instance (n:Nat) (ts:List qC):Decidable (Y7 n ts):=by unfold Y7;infer_instance
def yf (n:Nat) (xs ys:List Int) (a b:Int):Prop:=∀c:Nat,c<n->(c:Int)≠a->(c:Int)≠b->¬VU xs ys a b c
instance (n:Nat) (xs ys:List Int) (a b:Int):Decidable (yf n xs ys a b):=by unfold yf;infer_instance
def qa4 (n:Nat) (xs ys:List Int) (ts:List qC):Prop:=∀k,k<ts.length->yf n xs ys (pix ts k).a (pix ts k).b/\yf n xs ys (pix ts k).b (pix ts k).c/\yf n xs ys (pix ts k).c (pix ts k).a
instance (n:Nat) (xs ys:List Int) (ts:List qC):Decidable (qa4 n xs ys ts):=by unfold qa4;infer_instance
theorem jO {w:World}{g n c:Nat}{l:List qC}(h:zx w (some ⟨g,0,none⟩) n c l) {k:Nat}(hk:k<n) :
  w.cell? ⟨g, k * 5, none⟩ = some (.int .i64 (pix l k).a) /\ w.cell? ⟨g, k * 5 + 1, none⟩ = some (.int .i64 (pix l k).b) /\ w.cell? ⟨g, k * 5 + 2, none⟩ = some (.int .i64 (pix l k).c) /\
   w.cell? ⟨g,k*5+3,none⟩=some (.int .i64 (pix l k).region)/\w.cell? ⟨g,k*5+4,none⟩=some (.int .i64 (pix l k).level):=by
 obtain⟨_,e,_,hc⟩:=h.cells k hk
 cases e
 rw[Addr.add_lit,Nat.zero_add]at hc
 exact hc
end Go.Proofs.YtjaapemopbbfaaaGreatDoor
