import Derived.Test.YtmkcacgmnnlddaaGreatRows
import Derived.Test.YtmkcacgmnnlddaaGreatPClosureM08
import Derived.IntWalk
import Derived.Lib.MinMax
import Derived.Deep.Cut
import Derived.Deep.DeepCutAuto
import Derived.Test.YtmkcacgmnnlddaaGreatPClosureM11
import Derived.Test.YtmkcacgmnnlddaaGreatPClosureM12
namespace Go.Proofs.YtmkcacgmnnlddaaGreat
set_option maxRecDepth 100000
set_option maxHeartbeats 16000000
section
open Go.RowKit
theorem signOf_q (w:World) (v:Int):Calls Tryz.prog 94 #[.int .i64 v] w fun e w'=>e=.returned (.int .i64 (cmpZ v 0))∧w'=w:=by
 rcases Int.lt_or_le v 0 with h|h
 ·have hv:=Lib.hid (show cmpZ v 0=-1 by unfold cmpZ;rw[if_pos h])
  go_enter Tryz.func94,Tryz.ntmps94
  go_wp2_with fail
  go_ret
  exact⟨ret_int hv.out.symm,rfl⟩
 ·rcases Int.lt_or_le 0 v with h'|h'
  ·have hv:=Lib.hid (show cmpZ v 0=1 by unfold cmpZ;rw[if_neg (by omega),if_pos h'])
   go_enter Tryz.func94,Tryz.ntmps94
   go_wp2_with fail
   go_ret
   exact⟨ret_int hv.out.symm,rfl⟩
  ·have hv:=Lib.hid (show cmpZ v 0=0 by unfold cmpZ;rw[if_neg (by omega),if_neg (by omega)])
   go_enter Tryz.func94,Tryz.ntmps94
   go_wp2_with fail
   go_ret
   exact⟨ret_int hv.out.symm,rfl⟩
theorem turn_any (w:World) {gp gx gy np cp n cx cy:Nat}{xs ys:List Int}(hx:RdI w (some ⟨gx,0,none⟩) n cx xs) (hy:RdI w (some ⟨gy,0,none⟩) n cy ys) (hB:PlB n xs ys) (a b c:Int) (ha:0≤a) (ha2:a<n) (hb:0≤b) (hb2:b<n) (hc:0≤c) (hc2:c<n) :
  Calls Tryz.prog 63 #[.agg #[.slice (some ⟨gp,0,none⟩) np cp,.slice (some ⟨gx,0,none⟩) n cx,.slice (some ⟨gy,0,none⟩) n cy],.int .i64 a,.int .i64 b,.int .i64 c] w fun e w'=>e=.returned (.int .i64 (trn xs ys a b c))∧Bl w w':=by
 have hns:=hx.small
 obtain⟨h1,h2,h3,h4⟩:=hB a.toNat (by omega)
 obtain⟨h5,h6,h7,h8⟩:=hB b.toNat (by omega)
 obtain⟨h9,h10,h11,h12⟩:=hB c.toNat (by omega)
 obtain⟨r,hr⟩:∃r,trn xs ys a b c=r:=⟨_,rfl⟩
 rw[hr]
 unfold trn at hr
 obtain⟨d1,e1⟩:∃d,ix xs b.toNat-ix xs a.toNat=d:=⟨_,rfl⟩
 obtain⟨d2,e2⟩:∃d,ix ys c.toNat-ix ys a.toNat=d:=⟨_,rfl⟩
 obtain⟨d3,e3⟩:∃d,ix ys b.toNat-ix ys a.toNat=d:=⟨_,rfl⟩
 obtain⟨d4,e4⟩:∃d,ix xs c.toNat-ix xs a.toNat=d:=⟨_,rfl⟩
 rw[e1,e2,e3,e4]at hr
 obtain⟨m1,m2⟩:=mul_bd (a:=d1) (b:=d2) (by omega) (by omega) (by omega) (by omega)
 obtain⟨m3,m4⟩:=mul_bd (a:=d3) (b:=d4) (by omega) (by omega) (by omega) (by omega)
 obtain⟨p1,e5⟩:∃d,d1*d2=d:=⟨_,rfl⟩
 obtain⟨p2,e6⟩:∃d,d3*d4=d:=⟨_,rfl⟩
 rw[e5,e6]at hr
 rw[e5]at m1 m2
 rw[e6]at m3 m4
 replace hr:=Lib.hid hr
 have f1:IntKind.i64.wrap (ix xs b.toNat-ix xs a.toNat)=d1:=by rw[IntWalk.i64_in _ (by omega),e1]
 have f2:IntKind.i64.wrap (ix ys c.toNat-ix ys a.toNat)=d2:=by rw[IntWalk.i64_in _ (by omega),e2]
 have f3:IntKind.i64.wrap (ix ys b.toNat-ix ys a.toNat)=d3:=by rw[IntWalk.i64_in _ (by omega),e3]
 have f4:IntKind.i64.wrap (ix xs c.toNat-ix xs a.toNat)=d4:=by rw[IntWalk.i64_in _ (by omega),e4]
 have f5:IntKind.i64.wrap (d1*d2)=p1:=by rw[IntWalk.i64_in _ (by omega),e5]
 have f6:IntKind.i64.wrap (d3*d4)=p2:=by rw[IntWalk.i64_in _ (by omega),e6]
 have f7:IntKind.i64.wrap (p1-p2)=p1-p2:=IntWalk.i64_in _ (by omega)
 clear e1 e2 e3 e4 e5 e6
 go_enter Tryz.func63,Tryz.ntmps63
 go_wp2_with fail
 refine wp_gen (fun W=>Bl w W∧Blk W w.heap.size 62 #[.slice (some ⟨gp,0,none⟩) np cp,.slice (some ⟨gx,0,none⟩) n cx,.slice (some ⟨gy,0,none⟩) n cy]) ⟨slc,bts⟩ ?_
 rintro W ⟨hbW,hBx⟩
 have xa:=rdi_lit (hx.bl hbW) (k:=a.toNat) (by omega)
 have ya:=rdi_lit (hy.bl hbW) (k:=a.toNat) (by omega)
 have xb:=rdi_lit (hx.bl hbW) (k:=b.toNat) (by omega)
 have yb:=rdi_lit (hy.bl hbW) (k:=b.toNat) (by omega)
 have xc:=rdi_lit (hx.bl hbW) (k:=c.toNat) (by omega)
 have yc:=rdi_lit (hy.bl hbW) (k:=c.toNat) (by omega)
 obtain⟨z0,z1,z2⟩:=bx3 hBx
 clear hB hx hy
 go_quiet ((go_at_call 94;exact Calls.quiet_of_same (signOf_q _ _)))
 go_wp2_with fail
 go_ret
 exact⟨ret_int (by rw[←hr.out]),slc⟩
end
section
open Go.RowKit
def TrIx (n:Nat) (t:TriD):Prop:=(0≤t.a∧t.a<n)∧(0≤t.b∧t.b<n)∧0≤t.c∧t.c<n
instance (n:Nat) (t:TriD):Decidable (TrIx n t):=by unfold TrIx;infer_instance
def sd (xs ys:List Int) (t:TriD) (a b:Int):Bool:=decide (trn xs ys a b t.a≤0)&&(decide (trn xs ys a b t.b≤0)&&decide (trn xs ys a b t.c≤0))
def sepI (xs ys:List Int) (s t:TriD):Bool:=sd xs ys t s.a s.b||(sd xs ys t s.b s.c||sd xs ys t s.c s.a)
def sepTo (xs ys:List Int) (s t:TriD):Nat→Bool
 | 0=>false
 | 1=>sd xs ys t s.a s.b
 | 2=>sd xs ys t s.a s.b||sd xs ys t s.b s.c
 | _=>sepI xs ys s t
theorem Blk.new4 (w:World) (o0 o1 o2 o3:Obj) (T:TypeId) (cs:Array Value):Blk (((((w.alloc o0).alloc o1).alloc o2).alloc o3).alloc (.cells cs T)) (w.heap.size+1+1+1+1) T cs:=by
 have h:=heap_alloc_new ((((w.alloc o0).alloc o1).alloc o2).alloc o3) (.cells cs T)
 have e:((((w.alloc o0).alloc o1).alloc o2).alloc o3).heap.size=w.heap.size+1+1+1+1:=by simp
 rw[e]at h
 exact h
theorem Blk.new5 (w:World) (o0 o1 o2 o3 o4:Obj) (T:TypeId) (cs:Array Value):Blk ((((((w.alloc o0).alloc o1).alloc o2).alloc o3).alloc o4).alloc (.cells cs T)) (w.heap.size+1+1+1+1+1) T cs:=by
 have h:=heap_alloc_new (((((w.alloc o0).alloc o1).alloc o2).alloc o3).alloc o4) (.cells cs T)
 have e:(((((w.alloc o0).alloc o1).alloc o2).alloc o3).alloc o4).heap.size=w.heap.size+1+1+1+1+1:=by simp
 rw[e]at h
 exact h
theorem b45 {P:Prop}(h:P:=by repeat (first|with_reducible assumption|with_reducible exact Blk.new _ _ _|with_reducible exact Blk.new1 _ _ _ _|with_reducible exact Blk.new2 _ _ _ _ _|with_reducible exact Blk.new3 _ _ _ _ _ _|with_reducible exact Blk.new4 _ _ _ _ _ _ _|with_reducible exact Blk.new5 _ _ _ _ _ _ _ _|with_reducible refine Blk.drew ?_|with_reducible refine Blk.alloc ?_ _)):P:=h
theorem corners_eq (w:World) (t:TriD) :
  Calls Tryz.prog 31 #[.agg #[.int .i64 t.a,.int .i64 t.b,.int .i64 t.c,.int .i64 t.region,.int .i64 t.level]] w fun e w'=>e=.returned (.agg #[.int .i64 t.a,.int .i64 t.b,.int .i64 t.c])∧w'=(w.alloc (.cells #[.int .i64 t.a,.int .i64 t.b,.int .i64 t.c,.int .i64 t.region,.int .i64 t.level] 58)).alloc (.cells #[.int .i64 t.a,.int .i64 t.b,.int .i64 t.c] 66):=by
 go_enter Tryz.func31,Tryz.ntmps31
 go_wp2
 refine bodyPost_ret (v:=.agg #[.int .i64 t.a,.int .i64 t.b,.int .i64 t.c]) (by simp[results,Tryz.results31,go_sem]) rfl ⟨rfl,rfl⟩
theorem separates_any (w:World) {gp gx gy np cp n cx cy:Nat}{xs ys:List Int}(hx:RdI w (some ⟨gx,0,none⟩) n cx xs) (hy:RdI w (some ⟨gy,0,none⟩) n cy ys) (hB:PlB n xs ys) (s t:TriD) (hs:TrIx n s) (ht:TrIx n t) :
  Calls Tryz.prog 32 #[.agg #[.slice (some ⟨gp,0,none⟩) np cp,.slice (some ⟨gx,0,none⟩) n cx,.slice (some ⟨gy,0,none⟩) n cy],.agg #[.int .i64 s.a,.int .i64 s.b,.int .i64 s.c,.int .i64 s.region,.int .i64 s.level],.agg #[.int .i64 t.a,.int .i64 t.b,.int .i64 t.c,.int .i64 t.region,.int .i64 t.level]] w fun e w'=>e=.returned (.bool (sepI xs ys s t))∧Bl w w':=by
 go_enter Tryz.func32,Tryz.ntmps32
 go_wp2_with fail
 go_cut [7,8] (fun s7 s8 wx=>∃(g7 g8:Nat),s7=.pointer (some ⟨g7,0,none⟩)∧s8=.pointer (some ⟨g8,0,none⟩)∧Blk wx g7 66 #[.int .i64 s.a,.int .i64 s.b,.int .i64 s.c]∧Blk wx g8 66 #[.int .i64 t.a,.int .i64 t.b,.int .i64 t.c]∧Blk wx w.heap.size 62 #[.slice (some ⟨gp,0,none⟩) np cp,.slice (some ⟨gx,0,none⟩) n cx,.slice (some ⟨gy,0,none⟩) n cy]∧Bl w wx)
 case first=>
  refine wp_gen (fun W=>Bl w W∧Blk W w.heap.size 62 #[.slice (some ⟨gp,0,none⟩) np cp,.slice (some ⟨gx,0,none⟩) n cx,.slice (some ⟨gy,0,none⟩) n cy]∧Blk W (w.heap.size+1) 58 #[.int .i64 s.a,.int .i64 s.b,.int .i64 s.c,.int .i64 s.region,.int .i64 s.level]∧Blk W (w.heap.size+1+1) 58 #[.int .i64 t.a,.int .i64 t.b,.int .i64 t.c,.int .i64 t.region,.int .i64 t.level]) ⟨slc,bts,bts,bts⟩ ?_
  rintro W ⟨hbW,hBx,hBs,hBt⟩
  clear hx hy hB hs ht
  go_region_held3 (fun w'=>(w'.cell? ⟨(w.heap.size+1),0,none⟩=some (.int .i64 s.a)∧w'.cell? ⟨(w.heap.size+1),1,none⟩=some (.int .i64 s.b)∧w'.cell? ⟨(w.heap.size+1),2,none⟩=some (.int .i64 s.c)∧w'.cell? ⟨(w.heap.size+1),3,none⟩=some (.int .i64 s.region)∧w'.cell? ⟨(w.heap.size+1),4,none⟩=some (.int .i64 s.level))∧(w'.cell? ⟨(w.heap.size+1+1),0,none⟩=some (.int .i64 t.a)∧w'.cell? ⟨(w.heap.size+1+1),1,none⟩=some (.int .i64 t.b)∧w'.cell? ⟨(w.heap.size+1+1),2,none⟩=some (.int .i64 t.c)∧w'.cell? ⟨(w.heap.size+1+1),3,none⟩=some (.int .i64 t.region)∧w'.cell? ⟨(w.heap.size+1+1),4,none⟩=some (.int .i64 t.level))) (first|exact⟨bx5 (T:=58) (hBs.bl slc),bx5 (T:=58) (hBt.bl slc)⟩) (first |(go_at_call 31;(with_reducible refine(corners_eq _ s).mono ?_);rintro e v1 ⟨rfl,rfl⟩) |(go_at_call 31;(with_reducible refine(corners_eq _ t).mono ?_);rintro e v2 ⟨rfl,rfl⟩))
  all_goals
   go_wp2_with fail
   go_meet
   refine⟨_,_,rfl,rfl,?_,?_,?_,?_⟩
   ·exact b45
   ·exact b45
   ·exact bts
   ·exact slc
 case rest=>
  obtain⟨⟨sa0,sa1⟩,⟨sb0,sb1⟩,sc0,sc1⟩:=hs
  obtain⟨⟨ta0,ta1⟩,⟨tb0,tb1⟩,tc0,tc1⟩:=ht
  obtain⟨g7,g8,rfl,rfl,h7,h8,hBx,hbc⟩:=hcut
  obtain⟨wa,rfl⟩:∃wa:World,wa=wc:=⟨_,rfl⟩
  obtain⟨y0,y1,y2⟩:=bx3 h7
  go_wp2_with fail
  clear y0 y1 y2
  go_loopw [17] (fun v wr=>∃k:Nat,k≤3∧v=.int .i64 (k:Int)∧Hid (sepTo xs ys s t k=false)∧Bl wa wr) (fun v _=>3-(intOf v).toNat)
  case atStart=>exact⟨0,by omega,rfl,Lib.hid rfl,Bl.refl _⟩
  case round=>
   obtain⟨k,hk,rfl,hprev,hbw⟩:=hrel
   rcases(show k=0∨k=1∨k=2∨k=3 by omega)with rfl|rfl|rfl|rfl
   ·skip
    have e0:((0:Nat):Int)=0:=rfl
    rw[e0]
    clear e0 hk
    obtain⟨wo,rfl⟩:∃wo:World,wo=wr:=⟨_,rfl⟩
    obtain⟨r0,r1,r2⟩:=bx3 (hBx.bl hbw)
    obtain⟨y0,y1,y2⟩:=bx3 (h7.bl hbw)
    obtain⟨z0,z1,z2⟩:=bx3 (h8.bl hbw)
    have hg7:=(h7.bl hbw).lt
    have hg8:=(h8.bl hbw).lt
    have hgb:=(hBx.bl hbw).lt
    have hbw0:=hbc.next hbw
    have hix:∀W:World,(Instr.index 66 (.agg #[.int .i64 s.a,.int .i64 s.b,.int .i64 s.c]) (.int .i64 0)).run Tryz.prog W=.ok (.int .i64 s.a) W:=fun _=>by kernel_rfl
    by_cases p0:trn xs ys s.a s.b t.a≤0
    ·by_cases p1:trn xs ys s.a s.b t.b≤0
     ·by_cases p2:trn xs ys s.a s.b t.c≤0
      ·skip
       go_wp2_with (first |(go_at_call 63;(with_reducible refine(turn_any _ (hx.bl slc) (hy.bl slc) hB s.a s.b t.a sa0 sa1 sb0 sb1 ta0 ta1).mono ?_);rintro e v0 ⟨rfl,hv0⟩;(obtain⟨hc0,hf0⟩:=bcell hv0);(have hz0:=hv0.size);(have hy70:g7<v0.heap.size:=by omega);(have hy80:g8<v0.heap.size:=by omega);(have hyb0:w.heap.size<v0.heap.size:=by omega)) |(go_at_call 63;(with_reducible refine(turn_any _ (hx.bl slc) (hy.bl slc) hB s.a s.b t.b sa0 sa1 sb0 sb1 tb0 tb1).mono ?_);rintro e v1 ⟨rfl,hv1⟩;(obtain⟨hc1,hf1⟩:=bcell hv1);(have hz1:=hv1.size);(have hy71:g7<v1.heap.size:=by omega);(have hy81:g8<v1.heap.size:=by omega);(have hyb1:w.heap.size<v1.heap.size:=by omega)) |(go_at_call 63;(with_reducible refine(turn_any _ (hx.bl slc) (hy.bl slc) hB s.a s.b t.c sa0 sa1 sb0 sb1 tc0 tc1).mono ?_);rintro e v2 ⟨rfl,hv2⟩;(obtain⟨hc2,hf2⟩:=bcell hv2);(have hz2:=hv2.size);(have hy72:g7<v2.heap.size:=by omega);(have hy82:g8<v2.heap.size:=by omega);(have hyb2:w.heap.size<v2.heap.size:=by omega)))
       go_ret
       exact⟨ret_bool (by unfold sepI sd;simp[*]),hbc.next (((hbw.next hv0).next hv1).next hv2)⟩
      ·skip
       go_wp2_with (first |(go_at_call 63;(with_reducible refine(turn_any _ (hx.bl slc) (hy.bl slc) hB s.a s.b t.a sa0 sa1 sb0 sb1 ta0 ta1).mono ?_);rintro e v0 ⟨rfl,hv0⟩;(obtain⟨hc0,hf0⟩:=bcell hv0);(have hz0:=hv0.size);(have hy70:g7<v0.heap.size:=by omega);(have hy80:g8<v0.heap.size:=by omega);(have hyb0:w.heap.size<v0.heap.size:=by omega)) |(go_at_call 63;(with_reducible refine(turn_any _ (hx.bl slc) (hy.bl slc) hB s.a s.b t.b sa0 sa1 sb0 sb1 tb0 tb1).mono ?_);rintro e v1 ⟨rfl,hv1⟩;(obtain⟨hc1,hf1⟩:=bcell hv1);(have hz1:=hv1.size);(have hy71:g7<v1.heap.size:=by omega);(have hy81:g8<v1.heap.size:=by omega);(have hyb1:w.heap.size<v1.heap.size:=by omega)) |(go_at_call 63;(with_reducible refine(turn_any _ (hx.bl slc) (hy.bl slc) hB s.a s.b t.c sa0 sa1 sb0 sb1 tc0 tc1).mono ?_);rintro e v2 ⟨rfl,hv2⟩;(obtain⟨hc2,hf2⟩:=bcell hv2);(have hz2:=hv2.size);(have hy72:g7<v2.heap.size:=by omega);(have hy82:g8<v2.heap.size:=by omega);(have hyb2:w.heap.size<v2.heap.size:=by omega)))
       go_roundw
       case rel=>exact⟨1,by omega,rfl,Lib.hid (by have q0:=hprev.out;revert q0;unfold sepTo;simp[sd, *]),(((hbw.next hv0).next hv1).next hv2)⟩
       case measure=>simp[intOf]
     ·skip
      go_wp2_with (first |(go_at_call 63;(with_reducible refine(turn_any _ (hx.bl slc) (hy.bl slc) hB s.a s.b t.a sa0 sa1 sb0 sb1 ta0 ta1).mono ?_);rintro e v0 ⟨rfl,hv0⟩;(obtain⟨hc0,hf0⟩:=bcell hv0);(have hz0:=hv0.size);(have hy70:g7<v0.heap.size:=by omega);(have hy80:g8<v0.heap.size:=by omega);(have hyb0:w.heap.size<v0.heap.size:=by omega)) |(go_at_call 63;(with_reducible refine(turn_any _ (hx.bl slc) (hy.bl slc) hB s.a s.b t.b sa0 sa1 sb0 sb1 tb0 tb1).mono ?_);rintro e v1 ⟨rfl,hv1⟩;(obtain⟨hc1,hf1⟩:=bcell hv1);(have hz1:=hv1.size);(have hy71:g7<v1.heap.size:=by omega);(have hy81:g8<v1.heap.size:=by omega);(have hyb1:w.heap.size<v1.heap.size:=by omega)) |(go_at_call 63;(with_reducible refine(turn_any _ (hx.bl slc) (hy.bl slc) hB s.a s.b t.c sa0 sa1 sb0 sb1 tc0 tc1).mono ?_);rintro e v2 ⟨rfl,hv2⟩;(obtain⟨hc2,hf2⟩:=bcell hv2);(have hz2:=hv2.size);(have hy72:g7<v2.heap.size:=by omega);(have hy82:g8<v2.heap.size:=by omega);(have hyb2:w.heap.size<v2.heap.size:=by omega)))
      go_roundw
      case rel=>exact⟨1,by omega,rfl,Lib.hid (by have q0:=hprev.out;revert q0;unfold sepTo;simp[sd, *]),((hbw.next hv0).next hv1)⟩
      case measure=>simp[intOf]
    ·skip
     go_wp2_with (first |(go_at_call 63;(with_reducible refine(turn_any _ (hx.bl slc) (hy.bl slc) hB s.a s.b t.a sa0 sa1 sb0 sb1 ta0 ta1).mono ?_);rintro e v0 ⟨rfl,hv0⟩;(obtain⟨hc0,hf0⟩:=bcell hv0);(have hz0:=hv0.size);(have hy70:g7<v0.heap.size:=by omega);(have hy80:g8<v0.heap.size:=by omega);(have hyb0:w.heap.size<v0.heap.size:=by omega)) |(go_at_call 63;(with_reducible refine(turn_any _ (hx.bl slc) (hy.bl slc) hB s.a s.b t.b sa0 sa1 sb0 sb1 tb0 tb1).mono ?_);rintro e v1 ⟨rfl,hv1⟩;(obtain⟨hc1,hf1⟩:=bcell hv1);(have hz1:=hv1.size);(have hy71:g7<v1.heap.size:=by omega);(have hy81:g8<v1.heap.size:=by omega);(have hyb1:w.heap.size<v1.heap.size:=by omega)) |(go_at_call 63;(with_reducible refine(turn_any _ (hx.bl slc) (hy.bl slc) hB s.a s.b t.c sa0 sa1 sb0 sb1 tc0 tc1).mono ?_);rintro e v2 ⟨rfl,hv2⟩;(obtain⟨hc2,hf2⟩:=bcell hv2);(have hz2:=hv2.size);(have hy72:g7<v2.heap.size:=by omega);(have hy82:g8<v2.heap.size:=by omega);(have hyb2:w.heap.size<v2.heap.size:=by omega)))
     go_roundw
     case rel=>exact⟨1,by omega,rfl,Lib.hid (by have q0:=hprev.out;revert q0;unfold sepTo;simp[sd, *]),(hbw.next hv0)⟩
     case measure=>simp[intOf]
   ·skip
    have e0:((1:Nat):Int)=1:=rfl
    rw[e0]
    clear e0 hk
    obtain⟨wo,rfl⟩:∃wo:World,wo=wr:=⟨_,rfl⟩
    obtain⟨r0,r1,r2⟩:=bx3 (hBx.bl hbw)
    obtain⟨y0,y1,y2⟩:=bx3 (h7.bl hbw)
    obtain⟨z0,z1,z2⟩:=bx3 (h8.bl hbw)
    have hg7:=(h7.bl hbw).lt
    have hg8:=(h8.bl hbw).lt
    have hgb:=(hBx.bl hbw).lt
    have hbw0:=hbc.next hbw
    have hix:∀W:World,(Instr.index 66 (.agg #[.int .i64 s.a,.int .i64 s.b,.int .i64 s.c]) (.int .i64 1)).run Tryz.prog W=.ok (.int .i64 s.b) W:=fun _=>by kernel_rfl
    by_cases p0:trn xs ys s.b s.c t.a≤0
    ·by_cases p1:trn xs ys s.b s.c t.b≤0
     ·by_cases p2:trn xs ys s.b s.c t.c≤0
      ·skip
       go_wp2_with (first |(go_at_call 63;(with_reducible refine(turn_any _ (hx.bl slc) (hy.bl slc) hB s.b s.c t.a sb0 sb1 sc0 sc1 ta0 ta1).mono ?_);rintro e v0 ⟨rfl,hv0⟩;(obtain⟨hc0,hf0⟩:=bcell hv0);(have hz0:=hv0.size);(have hy70:g7<v0.heap.size:=by omega);(have hy80:g8<v0.heap.size:=by omega);(have hyb0:w.heap.size<v0.heap.size:=by omega)) |(go_at_call 63;(with_reducible refine(turn_any _ (hx.bl slc) (hy.bl slc) hB s.b s.c t.b sb0 sb1 sc0 sc1 tb0 tb1).mono ?_);rintro e v1 ⟨rfl,hv1⟩;(obtain⟨hc1,hf1⟩:=bcell hv1);(have hz1:=hv1.size);(have hy71:g7<v1.heap.size:=by omega);(have hy81:g8<v1.heap.size:=by omega);(have hyb1:w.heap.size<v1.heap.size:=by omega)) |(go_at_call 63;(with_reducible refine(turn_any _ (hx.bl slc) (hy.bl slc) hB s.b s.c t.c sb0 sb1 sc0 sc1 tc0 tc1).mono ?_);rintro e v2 ⟨rfl,hv2⟩;(obtain⟨hc2,hf2⟩:=bcell hv2);(have hz2:=hv2.size);(have hy72:g7<v2.heap.size:=by omega);(have hy82:g8<v2.heap.size:=by omega);(have hyb2:w.heap.size<v2.heap.size:=by omega)))
       go_ret
       exact⟨ret_bool (by unfold sepI sd;simp[*]),hbc.next (((hbw.next hv0).next hv1).next hv2)⟩
      ·skip
       go_wp2_with (first |(go_at_call 63;(with_reducible refine(turn_any _ (hx.bl slc) (hy.bl slc) hB s.b s.c t.a sb0 sb1 sc0 sc1 ta0 ta1).mono ?_);rintro e v0 ⟨rfl,hv0⟩;(obtain⟨hc0,hf0⟩:=bcell hv0);(have hz0:=hv0.size);(have hy70:g7<v0.heap.size:=by omega);(have hy80:g8<v0.heap.size:=by omega);(have hyb0:w.heap.size<v0.heap.size:=by omega)) |(go_at_call 63;(with_reducible refine(turn_any _ (hx.bl slc) (hy.bl slc) hB s.b s.c t.b sb0 sb1 sc0 sc1 tb0 tb1).mono ?_);rintro e v1 ⟨rfl,hv1⟩;(obtain⟨hc1,hf1⟩:=bcell hv1);(have hz1:=hv1.size);(have hy71:g7<v1.heap.size:=by omega);(have hy81:g8<v1.heap.size:=by omega);(have hyb1:w.heap.size<v1.heap.size:=by omega)) |(go_at_call 63;(with_reducible refine(turn_any _ (hx.bl slc) (hy.bl slc) hB s.b s.c t.c sb0 sb1 sc0 sc1 tc0 tc1).mono ?_);rintro e v2 ⟨rfl,hv2⟩;(obtain⟨hc2,hf2⟩:=bcell hv2);(have hz2:=hv2.size);(have hy72:g7<v2.heap.size:=by omega);(have hy82:g8<v2.heap.size:=by omega);(have hyb2:w.heap.size<v2.heap.size:=by omega)))
       go_roundw
       case rel=>exact⟨2,by omega,rfl,Lib.hid (by have q0:=hprev.out;revert q0;unfold sepTo;simp[sd, *]),(((hbw.next hv0).next hv1).next hv2)⟩
       case measure=>simp[intOf]
     ·skip
      go_wp2_with (first |(go_at_call 63;(with_reducible refine(turn_any _ (hx.bl slc) (hy.bl slc) hB s.b s.c t.a sb0 sb1 sc0 sc1 ta0 ta1).mono ?_);rintro e v0 ⟨rfl,hv0⟩;(obtain⟨hc0,hf0⟩:=bcell hv0);(have hz0:=hv0.size);(have hy70:g7<v0.heap.size:=by omega);(have hy80:g8<v0.heap.size:=by omega);(have hyb0:w.heap.size<v0.heap.size:=by omega)) |(go_at_call 63;(with_reducible refine(turn_any _ (hx.bl slc) (hy.bl slc) hB s.b s.c t.b sb0 sb1 sc0 sc1 tb0 tb1).mono ?_);rintro e v1 ⟨rfl,hv1⟩;(obtain⟨hc1,hf1⟩:=bcell hv1);(have hz1:=hv1.size);(have hy71:g7<v1.heap.size:=by omega);(have hy81:g8<v1.heap.size:=by omega);(have hyb1:w.heap.size<v1.heap.size:=by omega)) |(go_at_call 63;(with_reducible refine(turn_any _ (hx.bl slc) (hy.bl slc) hB s.b s.c t.c sb0 sb1 sc0 sc1 tc0 tc1).mono ?_);rintro e v2 ⟨rfl,hv2⟩;(obtain⟨hc2,hf2⟩:=bcell hv2);(have hz2:=hv2.size);(have hy72:g7<v2.heap.size:=by omega);(have hy82:g8<v2.heap.size:=by omega);(have hyb2:w.heap.size<v2.heap.size:=by omega)))
      go_roundw
      case rel=>exact⟨2,by omega,rfl,Lib.hid (by have q0:=hprev.out;revert q0;unfold sepTo;simp[sd, *]),((hbw.next hv0).next hv1)⟩
      case measure=>simp[intOf]
    ·skip
     go_wp2_with (first |(go_at_call 63;(with_reducible refine(turn_any _ (hx.bl slc) (hy.bl slc) hB s.b s.c t.a sb0 sb1 sc0 sc1 ta0 ta1).mono ?_);rintro e v0 ⟨rfl,hv0⟩;(obtain⟨hc0,hf0⟩:=bcell hv0);(have hz0:=hv0.size);(have hy70:g7<v0.heap.size:=by omega);(have hy80:g8<v0.heap.size:=by omega);(have hyb0:w.heap.size<v0.heap.size:=by omega)) |(go_at_call 63;(with_reducible refine(turn_any _ (hx.bl slc) (hy.bl slc) hB s.b s.c t.b sb0 sb1 sc0 sc1 tb0 tb1).mono ?_);rintro e v1 ⟨rfl,hv1⟩;(obtain⟨hc1,hf1⟩:=bcell hv1);(have hz1:=hv1.size);(have hy71:g7<v1.heap.size:=by omega);(have hy81:g8<v1.heap.size:=by omega);(have hyb1:w.heap.size<v1.heap.size:=by omega)) |(go_at_call 63;(with_reducible refine(turn_any _ (hx.bl slc) (hy.bl slc) hB s.b s.c t.c sb0 sb1 sc0 sc1 tc0 tc1).mono ?_);rintro e v2 ⟨rfl,hv2⟩;(obtain⟨hc2,hf2⟩:=bcell hv2);(have hz2:=hv2.size);(have hy72:g7<v2.heap.size:=by omega);(have hy82:g8<v2.heap.size:=by omega);(have hyb2:w.heap.size<v2.heap.size:=by omega)))
     go_roundw
     case rel=>exact⟨2,by omega,rfl,Lib.hid (by have q0:=hprev.out;revert q0;unfold sepTo;simp[sd, *]),(hbw.next hv0)⟩
     case measure=>simp[intOf]
   ·skip
    have e0:((2:Nat):Int)=2:=rfl
    rw[e0]
    clear e0 hk
    obtain⟨wo,rfl⟩:∃wo:World,wo=wr:=⟨_,rfl⟩
    obtain⟨r0,r1,r2⟩:=bx3 (hBx.bl hbw)
    obtain⟨y0,y1,y2⟩:=bx3 (h7.bl hbw)
    obtain⟨z0,z1,z2⟩:=bx3 (h8.bl hbw)
    have hg7:=(h7.bl hbw).lt
    have hg8:=(h8.bl hbw).lt
    have hgb:=(hBx.bl hbw).lt
    have hbw0:=hbc.next hbw
    have hix:∀W:World,(Instr.index 66 (.agg #[.int .i64 s.a,.int .i64 s.b,.int .i64 s.c]) (.int .i64 2)).run Tryz.prog W=.ok (.int .i64 s.c) W:=fun _=>by kernel_rfl
    by_cases p0:trn xs ys s.c s.a t.a≤0
    ·by_cases p1:trn xs ys s.c s.a t.b≤0
     ·by_cases p2:trn xs ys s.c s.a t.c≤0
      ·skip
       go_wp2_with (first |(go_at_call 63;(with_reducible refine(turn_any _ (hx.bl slc) (hy.bl slc) hB s.c s.a t.a sc0 sc1 sa0 sa1 ta0 ta1).mono ?_);rintro e v0 ⟨rfl,hv0⟩;(obtain⟨hc0,hf0⟩:=bcell hv0);(have hz0:=hv0.size);(have hy70:g7<v0.heap.size:=by omega);(have hy80:g8<v0.heap.size:=by omega);(have hyb0:w.heap.size<v0.heap.size:=by omega)) |(go_at_call 63;(with_reducible refine(turn_any _ (hx.bl slc) (hy.bl slc) hB s.c s.a t.b sc0 sc1 sa0 sa1 tb0 tb1).mono ?_);rintro e v1 ⟨rfl,hv1⟩;(obtain⟨hc1,hf1⟩:=bcell hv1);(have hz1:=hv1.size);(have hy71:g7<v1.heap.size:=by omega);(have hy81:g8<v1.heap.size:=by omega);(have hyb1:w.heap.size<v1.heap.size:=by omega)) |(go_at_call 63;(with_reducible refine(turn_any _ (hx.bl slc) (hy.bl slc) hB s.c s.a t.c sc0 sc1 sa0 sa1 tc0 tc1).mono ?_);rintro e v2 ⟨rfl,hv2⟩;(obtain⟨hc2,hf2⟩:=bcell hv2);(have hz2:=hv2.size);(have hy72:g7<v2.heap.size:=by omega);(have hy82:g8<v2.heap.size:=by omega);(have hyb2:w.heap.size<v2.heap.size:=by omega)))
       go_ret
       exact⟨ret_bool (by unfold sepI sd;simp[*]),hbc.next (((hbw.next hv0).next hv1).next hv2)⟩
      ·skip
       go_wp2_with (first |(go_at_call 63;(with_reducible refine(turn_any _ (hx.bl slc) (hy.bl slc) hB s.c s.a t.a sc0 sc1 sa0 sa1 ta0 ta1).mono ?_);rintro e v0 ⟨rfl,hv0⟩;(obtain⟨hc0,hf0⟩:=bcell hv0);(have hz0:=hv0.size);(have hy70:g7<v0.heap.size:=by omega);(have hy80:g8<v0.heap.size:=by omega);(have hyb0:w.heap.size<v0.heap.size:=by omega)) |(go_at_call 63;(with_reducible refine(turn_any _ (hx.bl slc) (hy.bl slc) hB s.c s.a t.b sc0 sc1 sa0 sa1 tb0 tb1).mono ?_);rintro e v1 ⟨rfl,hv1⟩;(obtain⟨hc1,hf1⟩:=bcell hv1);(have hz1:=hv1.size);(have hy71:g7<v1.heap.size:=by omega);(have hy81:g8<v1.heap.size:=by omega);(have hyb1:w.heap.size<v1.heap.size:=by omega)) |(go_at_call 63;(with_reducible refine(turn_any _ (hx.bl slc) (hy.bl slc) hB s.c s.a t.c sc0 sc1 sa0 sa1 tc0 tc1).mono ?_);rintro e v2 ⟨rfl,hv2⟩;(obtain⟨hc2,hf2⟩:=bcell hv2);(have hz2:=hv2.size);(have hy72:g7<v2.heap.size:=by omega);(have hy82:g8<v2.heap.size:=by omega);(have hyb2:w.heap.size<v2.heap.size:=by omega)))
       go_roundw
       case rel=>exact⟨3,by omega,rfl,Lib.hid (by have q0:=hprev.out;revert q0;unfold sepTo;simp[sepI,sd, *]),(((hbw.next hv0).next hv1).next hv2)⟩
       case measure=>simp[intOf]
     ·skip
      go_wp2_with (first |(go_at_call 63;(with_reducible refine(turn_any _ (hx.bl slc) (hy.bl slc) hB s.c s.a t.a sc0 sc1 sa0 sa1 ta0 ta1).mono ?_);rintro e v0 ⟨rfl,hv0⟩;(obtain⟨hc0,hf0⟩:=bcell hv0);(have hz0:=hv0.size);(have hy70:g7<v0.heap.size:=by omega);(have hy80:g8<v0.heap.size:=by omega);(have hyb0:w.heap.size<v0.heap.size:=by omega)) |(go_at_call 63;(with_reducible refine(turn_any _ (hx.bl slc) (hy.bl slc) hB s.c s.a t.b sc0 sc1 sa0 sa1 tb0 tb1).mono ?_);rintro e v1 ⟨rfl,hv1⟩;(obtain⟨hc1,hf1⟩:=bcell hv1);(have hz1:=hv1.size);(have hy71:g7<v1.heap.size:=by omega);(have hy81:g8<v1.heap.size:=by omega);(have hyb1:w.heap.size<v1.heap.size:=by omega)) |(go_at_call 63;(with_reducible refine(turn_any _ (hx.bl slc) (hy.bl slc) hB s.c s.a t.c sc0 sc1 sa0 sa1 tc0 tc1).mono ?_);rintro e v2 ⟨rfl,hv2⟩;(obtain⟨hc2,hf2⟩:=bcell hv2);(have hz2:=hv2.size);(have hy72:g7<v2.heap.size:=by omega);(have hy82:g8<v2.heap.size:=by omega);(have hyb2:w.heap.size<v2.heap.size:=by omega)))
      go_roundw
      case rel=>exact⟨3,by omega,rfl,Lib.hid (by have q0:=hprev.out;revert q0;unfold sepTo;simp[sepI,sd, *]),((hbw.next hv0).next hv1)⟩
      case measure=>simp[intOf]
    ·skip
     go_wp2_with (first |(go_at_call 63;(with_reducible refine(turn_any _ (hx.bl slc) (hy.bl slc) hB s.c s.a t.a sc0 sc1 sa0 sa1 ta0 ta1).mono ?_);rintro e v0 ⟨rfl,hv0⟩;(obtain⟨hc0,hf0⟩:=bcell hv0);(have hz0:=hv0.size);(have hy70:g7<v0.heap.size:=by omega);(have hy80:g8<v0.heap.size:=by omega);(have hyb0:w.heap.size<v0.heap.size:=by omega)) |(go_at_call 63;(with_reducible refine(turn_any _ (hx.bl slc) (hy.bl slc) hB s.c s.a t.b sc0 sc1 sa0 sa1 tb0 tb1).mono ?_);rintro e v1 ⟨rfl,hv1⟩;(obtain⟨hc1,hf1⟩:=bcell hv1);(have hz1:=hv1.size);(have hy71:g7<v1.heap.size:=by omega);(have hy81:g8<v1.heap.size:=by omega);(have hyb1:w.heap.size<v1.heap.size:=by omega)) |(go_at_call 63;(with_reducible refine(turn_any _ (hx.bl slc) (hy.bl slc) hB s.c s.a t.c sc0 sc1 sa0 sa1 tc0 tc1).mono ?_);rintro e v2 ⟨rfl,hv2⟩;(obtain⟨hc2,hf2⟩:=bcell hv2);(have hz2:=hv2.size);(have hy72:g7<v2.heap.size:=by omega);(have hy82:g8<v2.heap.size:=by omega);(have hyb2:w.heap.size<v2.heap.size:=by omega)))
     go_roundw
     case rel=>exact⟨3,by omega,rfl,Lib.hid (by have q0:=hprev.out;revert q0;unfold sepTo;simp[sepI,sd, *]),(hbw.next hv0)⟩
     case measure=>simp[intOf]
   ·have e0:((3:Nat):Int)=3:=rfl
    rw[e0]
    clear e0 hk
    go_wp2_with fail
    go_ret
    exact⟨ret_bool hprev.out.symm,hbc.next hbw⟩
end
section
open Go.RowKit
theorem within_yes (w:World) {a lo hi:Int}(h1:lo≤a) (h2:a≤hi) :
  Calls Tryz.prog 24 #[.int .i64 a,.int .i64 lo,.int .i64 hi] w fun e w'=>e=.returned (.bool true)∧∃q,w'=w.drewN q:=by
 refine(within_any w a lo hi).mono ?_
 rw[decide_eq_true h1,decide_eq_true h2]
 exact fun _ _ h=>h
theorem within_no (w:World) {a lo hi:Int}(h:¬(lo≤a∧a≤hi)) :
  Calls Tryz.prog 24 #[.int .i64 a,.int .i64 lo,.int .i64 hi] w fun e w'=>e=.returned (.bool false)∧∃q,w'=w.drewN q:=by
 refine(within_any w a lo hi).mono ?_
 have e:(decide (lo≤a) && decide (a≤hi))=false:=by
  by_cases h1:lo≤a
  ·rw[decide_eq_false (fun h2:a≤hi=>h ⟨h1,h2⟩),Bool.and_false]
  ·rw[decide_eq_false h1,Bool.false_and]
 rw[e]
 exact fun _ _ h=>h
def insI (xs ys:List Int) (a b c:Int):Prop :=
 trn xs ys a b c=0∧(min (ix xs a.toNat) (ix xs b.toNat)≤ix xs c.toNat∧ix xs c.toNat≤max (ix xs a.toNat) (ix xs b.toNat))∧min (ix ys a.toNat) (ix ys b.toNat)≤ix ys c.toNat∧ix ys c.toNat≤max (ix ys a.toNat) (ix ys b.toNat)
instance (xs ys:List Int) (a b c:Int):Decidable (insI xs ys a b c):=by unfold insI;infer_instance
theorem triangleOk_yes (w:World) {gp gx gy n cp cx cy:Nat}{xs ys:List Int}(hx:RdI w (some ⟨gx,0,none⟩) n cx xs) (hy:RdI w (some ⟨gy,0,none⟩) n cy ys) (hB:PlB n xs ys) (t:TriD) (ht:TrIx n t) (hr0:0≤t.region) (hr1:t.region≤2) (hl0:0≤t.level) (hl1:t.level≤60) (hpos:0<trn xs ys t.a t.b t.c) :
  Calls Tryz.prog 30 #[.agg #[.slice (some ⟨gp,0,none⟩) n cp,.slice (some ⟨gx,0,none⟩) n cx,.slice (some ⟨gy,0,none⟩) n cy],.agg #[.int .i64 t.a,.int .i64 t.b,.int .i64 t.c,.int .i64 t.region,.int .i64 t.level]] w fun e w'=>e=.returned (.bool true)∧Bl w w':=by
 have hns:=hx.small
 obtain⟨⟨ta0,ta1⟩,⟨tb0,tb1⟩,tc0,tc1⟩:=ht
 go_enter Tryz.func30,Tryz.ntmps30
 go_wp2_with fail
 refine calls_gen (fun W=>Bl w W∧Blk W w.heap.size 62 #[.slice (some ⟨gp,0,none⟩) n cp,.slice (some ⟨gx,0,none⟩) n cx,.slice (some ⟨gy,0,none⟩) n cy]∧Blk W (w.heap.size+1) 58 #[.int .i64 t.a,.int .i64 t.b,.int .i64 t.c,.int .i64 t.region,.int .i64 t.level]) ⟨slc,bts,bts⟩ ?_
 rintro W ⟨hbW,hBx,hBt⟩
 refine(corners_any _ t).mono ?_
 rintro e wa ⟨rfl,hv0⟩
 have hbW:=hbW.next hv0
 have hBx:=hBx.bl hv0
 have hBt:=hBt.bl hv0
 clear hv0
 have hix0:∀W:World,(Instr.index 66 (.agg #[.int .i64 t.a,.int .i64 t.b,.int .i64 t.c]) (.int .i64 0)).run Tryz.prog W=.ok (.int .i64 t.a) W:=fun _=>by kernel_rfl
 have hix1:∀W:World,(Instr.index 66 (.agg #[.int .i64 t.a,.int .i64 t.b,.int .i64 t.c]) (.int .i64 1)).run Tryz.prog W=.ok (.int .i64 t.b) W:=fun _=>by kernel_rfl
 have hix2:∀W:World,(Instr.index 66 (.agg #[.int .i64 t.a,.int .i64 t.b,.int .i64 t.c]) (.int .i64 2)).run Tryz.prog W=.ok (.int .i64 t.c) W:=fun _=>by kernel_rfl
 go_wp2_with fail
 go_loopw [9] (fun v wr=>∃k:Nat,k≤3∧v=.int .i64 (k:Int)∧Bl wa wr) (fun v _=>3-(intOf v).toNat)
 case atStart=>exact⟨0,by omega,rfl,Bl.refl _⟩
 case round=>
  obtain⟨k,hk,rfl,hbw⟩:=hrel
  obtain⟨wo,rfl⟩:∃wo:World,wo=wr:=⟨_,rfl⟩
  rcases(show k=0∨k=1∨k=2∨k=3 by omega)with rfl|rfl|rfl|rfl
  ·have e0:((0:Nat):Int)=0:=rfl
   rw[e0]
   clear e0 hk
   obtain⟨r0,r1,r2⟩:=bx3 (hBx.bl hbw)
   go_wp2_with ((go_at_call 24;(with_reducible refine(within_yes _ (show 0≤t.a by omega) (show t.a≤(n:Int)-1 by omega)).mono ?_);rintro e v0 ⟨rfl,q0,rfl⟩))
   go_roundw
   case rel=>exact⟨1,by omega,rfl,by exact slc⟩
   case measure=>simp[intOf]
  ·have e0:((1:Nat):Int)=1:=rfl
   rw[e0]
   clear e0 hk
   obtain⟨r0,r1,r2⟩:=bx3 (hBx.bl hbw)
   go_wp2_with ((go_at_call 24;(with_reducible refine(within_yes _ (show 0≤t.b by omega) (show t.b≤(n:Int)-1 by omega)).mono ?_);rintro e v0 ⟨rfl,q0,rfl⟩))
   go_roundw
   case rel=>exact⟨2,by omega,rfl,by exact slc⟩
   case measure=>simp[intOf]
  ·have e0:((2:Nat):Int)=2:=rfl
   rw[e0]
   clear e0 hk
   obtain⟨r0,r1,r2⟩:=bx3 (hBx.bl hbw)
   go_wp2_with ((go_at_call 24;(with_reducible refine(within_yes _ (show 0≤t.c by omega) (show t.c≤(n:Int)-1 by omega)).mono ?_);rintro e v0 ⟨rfl,q0,rfl⟩))
   go_roundw
   case rel=>exact⟨3,by omega,rfl,by exact slc⟩
   case measure=>simp[intOf]
  ·have e0:((3:Nat):Int)=3:=rfl
   rw[e0]
   clear e0 hk
   obtain⟨r0,r1,r2⟩:=bx3 (hBx.bl hbw)
   obtain⟨y0,y1,y2,y3,y4⟩:=bx5 (hBt.bl hbw)
   have hbw0:=hbW.next hbw
   go_wp2_with (first |(go_at_call 24;(with_reducible refine(within_yes _ hr0 hr1).mono ?_);rintro e v0 ⟨rfl,q0,rfl⟩) |(go_at_call 24;(with_reducible refine(within_yes _ hl0 hl1).mono ?_);rintro e v1 ⟨rfl,q1,rfl⟩) |(go_at_call 63;(with_reducible refine(turn_any _ (hx.bl slc) (hy.bl slc) hB t.a t.b t.c ta0 ta1 tb0 tb1 tc0 tc1).mono ?_);rintro e v2 ⟨rfl,hv2⟩))
   go_ret
   exact⟨rfl,by exact slc⟩
end
section
open Go.RowKit
def TrsIx (n:Nat) (ts:List TriD):Prop:=∀k,k<ts.length→TrIx n (pix ts k)
instance (n:Nat) (ts:List TriD):Decidable (TrsIx n ts):=by unfold TrsIx;infer_instance
def NoIn1 (n:Nat) (xs ys:List Int) (a b:Int):Prop:=∀c:Nat,c<n→(c:Int)≠a→(c:Int)≠b→¬insI xs ys a b c
instance (n:Nat) (xs ys:List Int) (a b:Int):Decidable (NoIn1 n xs ys a b):=by unfold NoIn1;infer_instance
def NoIn (n:Nat) (xs ys:List Int) (ts:List TriD):Prop:=∀k,k<ts.length→NoIn1 n xs ys (pix ts k).a (pix ts k).b∧NoIn1 n xs ys (pix ts k).b (pix ts k).c∧NoIn1 n xs ys (pix ts k).c (pix ts k).a
instance (n:Nat) (xs ys:List Int) (ts:List TriD):Decidable (NoIn n xs ys ts):=by unfold NoIn;infer_instance
theorem trs_lit {w:World}{g n c:Nat}{l:List TriD}(h:RdTS w (some ⟨g,0,none⟩) n c l) {k:Nat}(hk:k<n) :
  w.cell? ⟨g, k * 5, none⟩ = some (.int .i64 (pix l k).a) ∧ w.cell? ⟨g, k * 5 + 1, none⟩ = some (.int .i64 (pix l k).b) ∧ w.cell? ⟨g, k * 5 + 2, none⟩ = some (.int .i64 (pix l k).c) ∧
   w.cell? ⟨g,k*5+3,none⟩=some (.int .i64 (pix l k).region)∧w.cell? ⟨g,k*5+4,none⟩=some (.int .i64 (pix l k).level):=by
 obtain⟨_,e,_,hc⟩:=h.cells k hk
 cases e
 rw[Addr.add_lit,Nat.zero_add]at hc
 exact hc
end
section
open Go.RowKit
theorem pts_lit {w:World}{g n c:Nat}{l:List PtD}(h:RdPS w (some ⟨g,0,none⟩) n c l) {k:Nat}(hk:k<n):PtAt w ⟨g,k*6,none⟩ (pix l k):=by
 obtain⟨_,e,_,hc⟩:=h.cells k hk
 cases e
 rw[Addr.add_lit,Nat.zero_add]at hc
 exact hc
def PtsOk (l:List PtD):Prop:=∀k,k<l.length→OkP (pix l k)∧∀j,j<k→eqP (pix l k) (pix l j)=false
theorem arePointsF_any (w:World) {s1:Bool}{A1:Option Addr}{n1 c1:Nat}{B1:Option Addr}{m1 d1:Nat}{t1:Bool}{C1:Option Addr}{i1 e1:Nat}{D1:Option Addr}{j1 f1:Nat}{q:PtD}{gb:Nat}(qb:Blk w gb 56 #[.bool s1,.slice A1 n1 c1,.slice B1 m1 d1,.bool t1,.slice C1 i1 e1,.slice D1 j1 f1]) (hx1:RdR w s1 A1 n1 c1 B1 m1 d1 q.x) (hy1:RdR w t1 C1 i1 e1 D1 j1 f1 q.y) {s2:Bool}{A2:Option Addr}{n2 c2:Nat}{B2:Option Addr}{m2 d2:Nat}{t2:Bool}{C2:Option Addr}{i2 e2:Nat}{D2:Option Addr}{j2 f2:Nat}{p:PtD}(hx:RdR w s2 A2 n2 c2 B2 m2 d2 p.x) (hy:RdR w t2 C2 i2 e2 D2 j2 f2 p.y) :
  Calls Tryz.prog 59 #[.agg #[.bool s2,.slice A2 n2 c2,.slice B2 m2 d2,.bool t2,.slice C2 i2 e2,.slice D2 j2 f2],.pointer (some ⟨gb,0,none⟩)] w fun en w'=>en=.returned (.bool (eqP q p))∧Bl w w':=by
 go_enter Tryz.func59,Tryz.ntmps59
 have eb:=qb.alloc (.cells #[.bool s2,.slice A2 n2 c2,.slice B2 m2 d2,.bool t2,.slice C2 i2 e2,.slice D2 j2 f2] 56)
 obtain⟨j0,j1,j2,j3,j4,j5⟩:=bx6 eb
 go_wp2_with fail
 refine(SamePoint_any _ (hx1.bl slc) (hy1.bl slc) (hx.bl slc) (hy.bl slc)).mono ?_
 rintro e w1 ⟨rfl,hb1⟩
 go_wp2_with fail
 go_ret
 exact⟨rfl,slc⟩
def NoEq (q:PtD) (l:List PtD):Prop:=∀k,k<l.length→eqP q (pix l k)=false
theorem IndexEq_no (w:World) {s1:Bool}{A1:Option Addr}{n1 c1:Nat}{B1:Option Addr}{m1 d1:Nat}{t1:Bool}{C1:Option Addr}{i1 e1:Nat}{D1:Option Addr}{j1 f1:Nat}{q:PtD}{gb:Nat}(qb:Blk w gb 56 #[.bool s1,.slice A1 n1 c1,.slice B1 m1 d1,.bool t1,.slice C1 i1 e1,.slice D1 j1 f1]) (hx1:RdR w s1 A1 n1 c1 B1 m1 d1 q.x) (hy1:RdR w t1 C1 i1 e1 D1 j1 f1 q.y) {g9 n9 c9:Nat}{l:List PtD}(hl9:RdPS w (some ⟨g9,0,none⟩) n9 c9 l) (hno:NoEq q l) :
  Calls Tryz.prog 93 #[.slice (some ⟨g9,0,none⟩) n9 c9,.func (.func 59) #[] #[.pointer (some ⟨gb,0,none⟩)]] w fun e w'=>e=.returned (.int .i64 (-1))∧Bl w w':=by
 have hn:=hl9.small
 have hl:=Lib.hid hl9.len
 replace hno:=Lib.hid hno
 go_enter Tryz.func93,Tryz.ntmps93
 go_wp2_with fail
 go_loopw [8] (fun i wr=>∃k:Nat,k≤n9∧i=.int .i64 (k:Int)∧Bl w wr) (fun i _=>n9-(intOf i).toNat)
 case atStart=>exact⟨0,Nat.zero_le _,rfl,Bl.refl _⟩
 case round=>
  obtain⟨k9,hk,rfl,hbw⟩:=hrel
  by_cases hkn:k9<n9
  ·have hki:(k9:Int)<(n9:Int):=by omega
   obtain⟨s2,A2,n2,c2,B2,m2,d2,t2,C2,i2,e2,D2,j2,f2,⟨y0,y1,y2,y3,y4,y5⟩,hx,hy⟩:=pts_lit (RdPS.bl hl9 hbw) hkn
   have ho:=Lib.hid (hno.out k9 (by rw[hl.out];exact hkn))
   go_wp2_with fail
   refine(arePointsF_any _ (qb.bl hbw) (hx1.bl hbw) (hy1.bl hbw) hx hy).mono ?_
   rw[ho.out]
   rintro e w1 ⟨rfl,hb1⟩
   have hb2:Bl w w1:=slc
   clear hb1
   go_wp2_with fail
   go_roundw
   case rel=>exact⟨k9+1,by omega,by go_num,hb2⟩
   case measure=>simp[intOf];omega
  ·obtain rfl:k9=n9:=by omega
   have hkm2:¬(k9:Int)<(k9:Int):=by omega
   go_wp2_with fail
   go_ret
   exact⟨rfl,hbw⟩
theorem ContainsEq_no (w:World) {s1:Bool}{A1:Option Addr}{n1 c1:Nat}{B1:Option Addr}{m1 d1:Nat}{t1:Bool}{C1:Option Addr}{i1 e1:Nat}{D1:Option Addr}{j1 f1:Nat}{q:PtD}{gb:Nat}(qb:Blk w gb 56 #[.bool s1,.slice A1 n1 c1,.slice B1 m1 d1,.bool t1,.slice C1 i1 e1,.slice D1 j1 f1]) (hx1:RdR w s1 A1 n1 c1 B1 m1 d1 q.x) (hy1:RdR w t1 C1 i1 e1 D1 j1 f1 q.y) {g9 n9 c9:Nat}{l:List PtD}(hl9:RdPS w (some ⟨g9,0,none⟩) n9 c9 l) (hno:NoEq q l) :
  Calls Tryz.prog 58 #[.slice (some ⟨g9,0,none⟩) n9 c9,.func (.func 59) #[] #[.pointer (some ⟨gb,0,none⟩)]] w fun e w'=>e=.returned (.bool false)∧Bl w w':=by
 replace hno:=Lib.hid hno
 go_enter Tryz.func58,Tryz.ntmps58
 go_wp2_with fail
 refine(IndexEq_no _ qb hx1 hy1 hl9 hno.out).mono ?_
 rintro e w1 ⟨rfl,hb⟩
 go_wp2_with fail
 go_ret
 exact⟨rfl,hb⟩
theorem pts_take {w:World}{g n c:Nat}{l:List PtD}(h:RdPS w (some ⟨g,0,none⟩) n c l) {k:Nat}(hk:k≤n):RdPS w (some ⟨g,0,none⟩) k c (l.take k):=by
 refine⟨?_,Nat.le_trans hk h.cap,Nat.le_trans hk h.small,fun j hj=>?_⟩
 ·rw[List.length_take,h.len];omega
 ·obtain⟨ad,e,hlt,hc⟩:=h.cells j (by omega)
  refine⟨ad,e,hlt,?_⟩
  have:pix (l.take k) j=pix l j:=by unfold pix;rw[List.getD_eq_getElem?_getD,List.getD_eq_getElem?_getD,List.getElem?_take_of_lt hj]
  rw[this]
  exact hc
theorem arePoints_yes (w:World) {g9 n9 c9:Nat}{l:List PtD}(hl9:RdPS w (some ⟨g9,0,none⟩) n9 c9 l) (hok:PtsOk l) (h3:3≤n9) (h40:n9≤40) :
  Calls Tryz.prog 28 #[.slice (some ⟨g9,0,none⟩) n9 c9] w fun e w'=>e=.returned (.bool true)∧Bl w w':=by
 have hl:=Lib.hid hl9.len
 have hcap:=hl9.cap
 replace hok:=Lib.hid hok
 go_enter Tryz.func28,Tryz.ntmps28
 go_wp2_with fail
 go_loopw [7] (fun i wr=>∃k:Nat,k≤n9∧i=.int .i64 (k:Int)∧Bl w wr) (fun i _=>n9-(intOf i).toNat)
 case atStart=>exact⟨0,Nat.zero_le _,rfl,Bl.refl _⟩
 case round=>
  obtain⟨k,hk,rfl,hbw⟩:=hrel
  obtain⟨wo,rfl⟩:∃wo:World,wo=wr:=⟨_,rfl⟩
  by_cases hkn:k<n9
  ·have hki:(k:Int)<(n9:Int):=by omega
   obtain⟨s1,A1,n1,c1,B1,m1,d1,t1,C1,i1,e1,D1,j1,f1,⟨y0,y1,y2,y3,y4,y5⟩,hx1,hy1⟩:=pts_lit (RdPS.bl hl9 hbw) hkn
   have hop:=Lib.hid (hok.out k (by rw[hl.out];exact hkn)).1
   have hne:NoEq (pix l k) (l.take k):=by
    intro j hj
    rw[List.length_take]at hj
    have:pix (l.take k) j=pix l j:=by unfold pix;rw[List.getD_eq_getElem?_getD,List.getD_eq_getElem?_getD,List.getElem?_take_of_lt (by omega)]
    rw[this]
    exact(hok.out k (by rw[hl.out];exact hkn)).2 j (by omega)
   replace hne:=Lib.hid hne
   go_wp2_with fail
   refine calls_gen (fun W2=>Bl wo W2∧Blk W2 wo.heap.size 56 #[.bool s1,.slice A1 n1 c1,.slice B1 m1 d1,.bool t1,.slice C1 i1 e1,.slice D1 j1 f1]) ⟨slc,bts⟩ ?_
   rintro W2 ⟨hb2,qb⟩
   clear y0 y1 y2 y3 y4 y5
   refine(IsValidPoint_yes _ (hx1.bl hb2) (hy1.bl hb2) hop.out).mono ?_
   rintro e w3 ⟨rfl,hb3⟩
   have qb:=qb.bl hb3
   have hb4:=hb2.next hb3
   obtain⟨j0,j1,j2,j3,j4,j5⟩:=bx6 qb
   go_wp2_with fail
   refine(ContainsEq_no _ (by exact qb) (hx1.bl hb4) (hy1.bl hb4) (pts_take (RdPS.bl hl9 (hbw.next hb4)) (by omega)) hne.out).mono ?_
   rintro e w5 ⟨rfl,hb5⟩
   go_wp2_with fail
   go_roundw
   case rel=>exact⟨k+1,by omega,by go_num,(hbw.next hb4).next hb5⟩
   case measure=>simp[intOf];omega
  ·obtain rfl:k=n9:=by omega
   have hkm2:¬(k:Int)<(k:Int):=by omega
   go_wp2_with fail
   refine(within_yes _ (show (3:Int)≤(k:Int)by omega) (show (k:Int)≤40 by omega)).mono ?_
   rintro e w1 ⟨rfl,q1,rfl⟩
   go_wp2_with fail
   go_ret
   exact⟨rfl,by exact slc⟩
end
end Go.Proofs.YtmkcacgmnnlddaaGreat
