import Derived.Test.YtmkcacgmnnlddaaGreatRows
import Derived.Test.YtmkcacgmnnlddaaGreatPClosureM12
import Derived.Test.YtmkcacgmnnlddaaGreatPClosureM22
import Derived.Test.YtmkcacgmnnlddaaGreatPClosureM03
import Derived.Deep.Cut
import Derived.Deep.DeepCutAuto
import Derived.Test.YtmkcacgmnnlddaaGreatPClosureM19
import Derived.Test.YtmkcacgmnnlddaaGreatPClosureM21
import Derived.Test.YtmkcacgmnnlddaaGreatPClosureM08
import Derived.Test.YtmkcacgmnnlddaaGreatPClosureM11
import Derived.Test.YtmkcacgmnnlddaaGreatPClosureM18
import Derived.Test.YtmkcacgmnnlddaaGreatPClosureM20
import Derived.Test.YtmkcacgmnnlddaaGreatPClosureM13
namespace Go.Proofs.YtmkcacgmnnlddaaGreat
set_option maxRecDepth 100000
set_option maxHeartbeats 8000000
section
open Go.RowKit
def triIx (t:TriD):Nat→Int
 | 0=>t.a
 | 1=>t.b
 | _+2=>t.c
def OkIx (n:Nat) (t:TriD) (k:Nat):Prop:=∀j,j<k→0≤triIx t j∧triIx t j≤(n:Int)-1
def cornTo (l:List PtD) (t:TriD) (k:Nat):List PtD:=(List.range k).map fun j=>pix l (triIx t j).toNat
theorem cornTo_len (l:List PtD) (t:TriD) (k:Nat):(cornTo l t k).length=k:=by simp[cornTo]
theorem cornTo_succ (l:List PtD) (t:TriD) (k:Nat):cornTo l t (k+1)=cornTo l t k++[pix l (triIx t k).toNat]:=by unfold cornTo;rw[List.range_succ,List.map_append];rfl
theorem OkIx.step {n:Nat}{t:TriD}{k:Nat}(h:OkIx n t k) (h0:0≤triIx t k∧triIx t k≤(n:Int)-1):OkIx n t (k+1):=by
 intro j hj
 rcases Nat.lt_succ_iff_lt_or_eq.1 hj with hj|rfl
 ·exact h j hj
 ·exact h0
open Classical in
noncomputable def cornL (x:MeD) (k:Int):List PtD :=
 if (0≤k∧k≤(x.tris.length:Int)-1)∧OkIx x.points.length (pix x.tris k.toNat) 3 then cornTo x.points (pix x.tris k.toNat) 3 else []
theorem l07Tri_any (w:World) (a b c r v:Int) :
  Calls Tryz.prog 108 #[.agg #[.int .i64 a,.int .i64 b,.int .i64 c,.int .i64 r,.int .i64 v]] w fun e w'=>∃g,e=.returned (.slice (some ⟨g,0,none⟩) 3 3)∧w.heap.size≤g∧Blk w' g 3 #[.int .i64 a,.int .i64 b,.int .i64 c]∧Bl w w':=by
 go_enter Tryz.func108,Tryz.ntmps108
 go_wp2_with fail
 go_ret
 exact⟨_,rfl,by omega,Blk.new1 _ _ _ _,slc⟩
theorem OwPN.far {T:TypeId}{b0:Nat}{w:World}{s:Bool}{A:Option Addr}{n c:Nat}{B:Option Addr}{m d:Nat}{t:Bool}{C:Option Addr}{i e:Nat}{D:Option Addr}{j f:Nat}{p:PtD}(h:OwPN AnyN T b0 w s A n c B m d t C i e D j f p) {q:Addr}(hp:q.block<b0) (u:Value):OwPN AnyN T b0 (w.setCell q u) s A n c B m d t C i e D j f p:=by
 obtain⟨b1,b2,h1,h2,hf,_⟩:=h
 exact⟨b1,b2,h1.keep (by simp) (fun b hb=>Below.heap_setCell w q u b (by have:=(hf b (by simp[hb])).1;omega)),h2.keep (by simp) (fun b hb=>Below.heap_setCell w q u b (by have:=(hf b (by simp[hb])).1;omega)),fun b hb=>by have:=hf b hb;simpa using this,trivial⟩
theorem OwPN.low {N:List Nat→Prop}{T:TypeId}{b0 b1:Nat}{w:World}{s:Bool}{A:Option Addr}{n c:Nat}{B:Option Addr}{m d:Nat}{t:Bool}{C:Option Addr}{i e:Nat}{D:Option Addr}{j f:Nat}{p:PtD}(h:OwPN N T b1 w s A n c B m d t C i e D j f p) (hb:b0≤b1):OwPN N T b0 w s A n c B m d t C i e D j f p:=by
 obtain⟨c1,c2,h1,h2,hf,hn⟩:=h
 exact⟨c1,c2,h1,h2,fun b hm=>⟨Nat.le_trans hb (hf b hm).1,(hf b hm).2⟩,hn⟩
theorem OwPN.bl {N:List Nat→Prop}{T:TypeId}{b0:Nat}{w W:World}{s:Bool}{A:Option Addr}{n c:Nat}{B:Option Addr}{m d:Nat}{t:Bool}{C:Option Addr}{i e:Nat}{D:Option Addr}{j f:Nat}{p:PtD}(h:OwPN N T b0 w s A n c B m d t C i e D j f p) (hb:Bl w W):OwPN N T b0 W s A n c B m d t C i e D j f p:=by
 obtain⟨c1,c2,h1,h2,hf,hn⟩:=h
 exact⟨c1,c2,h1.bl hb,h2.bl hb,fun b hm=>⟨(hf b hm).1,Nat.lt_of_lt_of_le (hf b hm).2 hb.size⟩,hn⟩
theorem OwPN.twoQ {T:TypeId}{b0 b1:Nat}{w1 w:World}{s:Bool}{A:Option Addr}{n c:Nat}{B:Option Addr}{m d:Nat}{t:Bool}{C:Option Addr}{i e:Nat}{D:Option Addr}{j f:Nat}{p:PtD}(h:OwQ T b0 w1 s A n c B m d p.x) (k:OwQ T b1 w t C i e D j f p.y) (hb:Bl w1 w) (h1:b0≤b1):OwPN AnyN T b0 w s A n c B m d t C i e D j f p:=by
 obtain⟨c1,f1,g1⟩:=h.bl hb
 obtain⟨c2,f2,g2⟩:=k
 refine⟨c1,c2,f1,f2,fun b hm=>?_,trivial⟩
 rcases List.mem_append.1 hm with hm|hm
 ·exact g1 b hm
 ·exact⟨Nat.le_trans h1 (g2 b hm).1,(g2 b hm).2⟩
theorem l05Copy_any (w:World) {s:Bool}{A:Option Addr}{n c:Nat}{B:Option Addr}{m d:Nat}{t:Bool}{C:Option Addr}{i e:Nat}{D:Option Addr}{j f:Nat}{p:PtD}(h:RdR w s A n c B m d p.x) (k:RdR w t C i e D j f p.y) (hn:n≤1048576) (hm:m≤1048576) (hi:i≤1048576) (hj:j≤1048576) :
  Calls Tryz.prog 110 #[.agg #[.bool s,.slice A n c,.slice B m d,.bool t,.slice C i e,.slice D j f]] w fun en w'=>∃s1 A1 n1 c1 B1 m1 d1 t1 C1 i1 e1 D1 j1 f1,en=.returned (.agg #[.bool s1,.slice A1 n1 c1,.slice B1 m1 d1,.bool t1,.slice C1 i1 e1,.slice D1 j1 f1])∧OwPN AnyN 3 w.heap.size w' s1 A1 n1 c1 B1 m1 d1 t1 C1 i1 e1 D1 j1 f1 p∧Bl w w':=by
 go_enter Tryz.func110,Tryz.ntmps110
 go_wp2_with fail
 refine wp_gen (fun W=>Bl w W∧Blk W (w.heap.size) 56 #[.bool s,.slice A n c,.slice B m d,.bool t,.slice C i e,.slice D j f]∧Wk 6 56 (w.heap.size+1) W) ⟨slc,bts,bts⟩ ?_
 rintro W ⟨hbW,hx,hr⟩
 go_region_held3 (fun w'=>(w'.cell? ⟨w.heap.size,0,none⟩=some (.bool s)∧w'.cell? ⟨w.heap.size,1,none⟩=some (.slice A n c)∧w'.cell? ⟨w.heap.size,2,none⟩=some (.slice B m d)∧w'.cell? ⟨w.heap.size,3,none⟩=some (.bool t)∧w'.cell? ⟨w.heap.size,4,none⟩=some (.slice C i e)∧w'.cell? ⟨w.heap.size,5,none⟩=some (.slice D j f))∧(w'.cell? ⟨w.heap.size+1,0,none⟩=some (cellD w' (w.heap.size+1) 0)∧w'.cell? ⟨w.heap.size+1,1,none⟩=some (cellD w' (w.heap.size+1) 1)∧w'.cell? ⟨w.heap.size+1,2,none⟩=some (cellD w' (w.heap.size+1) 2)∧w'.cell? ⟨w.heap.size+1,3,none⟩=some (cellD w' (w.heap.size+1) 3)∧w'.cell? ⟨w.heap.size+1,4,none⟩=some (cellD w' (w.heap.size+1) 4)∧w'.cell? ⟨w.heap.size+1,5,none⟩=some (cellD w' (w.heap.size+1) 5))∧w'.frozen? ⟨w.heap.size+1,0,none⟩=false∧w'.frozen? ⟨w.heap.size+1,1,none⟩=false∧w'.frozen? ⟨w.heap.size+1,2,none⟩=false∧w'.frozen? ⟨w.heap.size+1,3,none⟩=false∧w'.frozen? ⟨w.heap.size+1,4,none⟩=false∧w'.frozen? ⟨w.heap.size+1,5,none⟩=false) (first|exact⟨bx6 (T:=56) bts,Wk.out6 (T:=56) bts⟩) (first |(go_at_call 141;with_reducible refine(l04Copy_any _ (h.bl slc) hn hm).mono ?_;rintro en w2 ⟨s1,A1,n1,c1,B1,m1,d1,rfl,hR1,hb2⟩) |(go_at_call 141;with_reducible refine(l04Copy_any _ (k.bl slc) hi hj).mono ?_;rintro en w3 ⟨t1,C1,i1,e1,D1,j1,f1,rfl,hR2,hb3⟩))
 have hz:w.heap.size+1+1≤W.heap.size:=hr.lt
 have hz2:W.heap.size≤w2.heap.size:=(Bl.size hb2:W.drew.heap.size≤_)
 have hr:=(show Wk 6 56 (w.heap.size+1) w3 from bts)
 have hbW:Bl w w3:=slc
 have hX:=OwPN.low (OwPN.twoQ hR1 hR2 hb3 (Bl.size hb2)) (show w.heap.size+1+1≤W.drew.heap.size from hz)
 obtain⟨v0,x0⟩:=hr.val_ (i:=0) (by omega)
 obtain⟨v1,x1⟩:=hr.val_ (i:=1) (by omega)
 obtain⟨v2,x2⟩:=hr.val_ (i:=2) (by omega)
 obtain⟨v3,x3⟩:=hr.val_ (i:=3) (by omega)
 obtain⟨v4,x4⟩:=hr.val_ (i:=4) (by omega)
 obtain⟨v5,x5⟩:=hr.val_ (i:=5) (by omega)
 have hg:=hr.lt
 obtain⟨cs4,hB4,hc4⟩:=hr
 have hf0:=hB4.frozen 0
 have hf1:=hB4.frozen 1
 have hf2:=hB4.frozen 2
 have hf3:=hB4.frozen 3
 have hf4:=hB4.frozen 4
 have hf5:=hB4.frozen 5
 go_wp2_with fail
 exact bodyPost_ret (v:=.agg #[.bool s1,.slice A1 n1 c1,.slice B1 m1 d1,.bool t1,.slice C1 i1 e1,.slice D1 j1 f1]) (by simp[results,Tryz.results110,go_sem,x0,x1,x2,x3,x4,x5]) rfl ⟨_,_,_,_,_,_,_,_,_,_,_,_,_,_,rfl,((((((hX.far (by simp) _).far (by simp) _).far (by simp) _).far (by simp) _).far (by simp) _).far (by simp) _).low (by omega),slc⟩
end
section
open Go.RowKit
theorem Blk.past2 {g:Nat}{T:TypeId}{cs:Array Value}{v v':Value}{W w':World}(h:Blk W g T cs) (ho:∀g,g<W.heap.size→v.ownBlock≠Option.some g→w'.heap[g]?=W.heap[g]?∧v'.ownBlock≠Option.some g) (hv:v.ownBlock≠Option.some g):Blk w' g T cs∧v'.ownBlock≠Option.some g :=
 ⟨(ho g h.lt hv).1.trans h,(ho g h.lt hv).2⟩
end
section
open Go.RowKit
def cA:Nat→Int
 | 0=>1
 | 1=>7
 | 2=>3
 | 3=>1
 | 4=>7
 | _=>5
def cB:Nat→Int
 | 0=>4
 | 1=>0
 | 2=>4
 | 3=>2
 | 4=>4
 | _=>6
end
section
open Go.RowKit
theorem and255 (x:Int):0≤bits .and .i64 x 255∧bits .and .i64 x 255≤255:=by
 rw[bits.eq_1]
 have h:(BitVec.ofInt IntKind.i64.bits x &&& BitVec.ofInt IntKind.i64.bits 255).toNat≤255:=by
  rw[BitVec.toNat_and]
  exact Nat.le_trans Nat.and_le_right (by decide)
 rw[IntKind.wrap_i64]
 omega
def ByteAt (w:World) (p:Addr) (x:Int):Prop:=w.cell? p=some (.int .u8 x)∧0≤x∧x≤255
abbrev RdB:=RdS 1 ByteAt
theorem RdB.bl {w W:World}{A:Option Addr}{n c:Nat}{l:List Int}(h:RdB w A n c l) (hb:Bl w W):RdB W A n c l:=RdS.bl (fun h hp hb=>⟨by rw[hb.cellOf hp];exact h.1,h.2⟩) h hb
theorem RdB.ob {w W:World}{A:Option Addr}{n c g:Nat}{l:List Int}(h:RdB w A n c l) (hg:∀ad,A=Option.some ad→0<n→ad.block≠g) (hb:Ob [g] w W):RdB W A n c l :=
 ⟨h.len,h.cap,h.small,fun k hk=>by
  obtain⟨ad,e,hlt,hc,hx⟩:=h.cells k hk
  refine⟨ad,e,Nat.lt_of_lt_of_le hlt hb.size,?_,hx⟩
  exact(World.cell?_of_block (w:=w) (hb.block (ad.add (k*1)).block (by rw[block_add];exact hlt) (by rw[block_add];simpa using hg ad e (by omega)))).trans hc⟩
def Cur (g:Nat) (w:World) (A:Option Addr) (n c:Nat) (l:List Int):Prop :=
 ∃i h:Int,Blk w g 89 #[.slice A n c,.int .i64 i,.int .i64 h]∧0≤i∧i≤n∧RdB w A n c l∧∀ad,A=Option.some ad→0<n→ad.block≠g
theorem Cur.bl {g n c:Nat}{w W:World}{A:Option Addr}{l:List Int}(h:Cur g w A n c l) (hb:Bl w W):Cur g W A n c l:=by
 obtain⟨i,k,h1,h2,h3,h4,h5⟩:=h
 exact⟨i,k,h1.bl hb,h2,h3,h4.bl hb,h5⟩
theorem Cur.lt {g n c:Nat}{w:World}{A:Option Addr}{l:List Int}(h:Cur g w A n c l):g<w.heap.size:=by
 obtain⟨i,k,h1,_⟩:=h
 exact h1.lt
theorem l01Byte_any (w:World) {g n c:Nat}{A:Option Addr}{l:List Int}(hC:Cur g w A n c l) :
  Calls Tryz.prog 70 #[.pointer (some ⟨g,0,none⟩)] w fun e w'=>∃x:Int,e=.returned (.int .i64 x)∧0≤x∧x≤255∧Cur g w' A n c l∧Ob [g] w w':=by
 obtain⟨i,h,hB,hi0,hin,hR,hne⟩:=hC
 have hs:=hR.small
 obtain⟨x0,x1,x2⟩:=bx3 hB
 have f1:=hB.frozen 1
 have f2:=hB.frozen 2
 have hg:=hB.lt
 by_cases hlt:i<(n:Int)
 ·obtain⟨k,rfl⟩:=Int.eq_ofNat_of_zero_le hi0
  have hkn:k<n:=by omega
  obtain⟨ad,rfl,_⟩:=hR.cells k hkn
  have hna:=hne ad rfl (by omega)
  go_enter Tryz.func70,Tryz.ntmps70
  go_wp2_with fail
  refine wp_gen (fun W=>∃h',Blk W g 89 #[.slice (some ad) n c,.int .i64 (k:Int),.int .i64 h']∧Ob [g] w W) ⟨_,by simpa using hB.set_ 2 _,(Ob.refl _ w).set (by simp) _ _⟩ ?_
  clear x0 x1 x2 f1 f2 hB
  rintro W ⟨h',hB,hO⟩
  have hR:=hR.ob hne hO
  go_region_held3 (fun w'=>(w'.cell? ⟨g,0,none⟩=some (.slice (some ad) n c)∧w'.cell? ⟨g,1,none⟩=some (.int .i64 (k:Int))∧w'.cell? ⟨g,2,none⟩=some (.int .i64 h'))) (first|exact bx3 (T:=89) (hB.bl slc)) (fail)
  obtain⟨hx0,hx1⟩:=and255 (bits .xor .i64 (h' / 8589934592) (h' / 35184372088832))
  generalize bits .and .i64 (bits .xor .i64 (h' / 8589934592) (h' / 35184372088832)) 255=x at *
  go_wp2_with fail
  go_region_held3 (fun w'=>(w'.cell? ⟨g,0,none⟩=some (.slice (some ad) n c)∧w'.cell? ⟨g,1,none⟩=some (.int .i64 (k:Int))∧w'.cell? ⟨g,2,none⟩=some (.int .i64 h'))) (first|exact bx3 (T:=89) (hB.bl slc)) (fail)
  obtain⟨_,e,hlt2,hc,hb0,hb1⟩:=hR.cells k hkn
  cases e
  rw[Nat.mul_one]at hc
  generalize pix l k=y at hc hb0 hb1
  have hlt3:(ad.add k).block<W.heap.size:=by rw[block_add];exact hlt2
  go_wp2_with fail
  go_region_held3 (fun w'=>(w'.cell? ⟨g,0,none⟩=some (.slice (some ad) n c)∧w'.cell? ⟨g,1,none⟩=some (.int .i64 (k:Int))∧w'.cell? ⟨g,2,none⟩=some (.int .i64 h'))∧w'.cell? (ad.add k)=some (.int .u8 y)) (first|exact⟨bx3 (T:=89) (hB.bl slc),(Bl.cellOf (w:=W) (p:=ad.add k) slc hlt3).trans hc⟩) (fail)
  obtain⟨hz0,hz1⟩:=and255 (IntKind.i64.wrap (x+IntKind.i64.wrap y))
  generalize bits .and .i64 (IntKind.i64.wrap (x+IntKind.i64.wrap y)) 255=z at *
  obtain⟨x0,x1,x2⟩:=bx3 hB
  have f1:=hB.frozen 1
  go_wp2_with fail
  go_ret
  have hC2:Cur g (W.setCell ⟨g,1,none⟩ (.int .i64 ((k:Int)+1))) (some ad) n c l:=⟨(k:Int)+1,h',by simpa using hB.set_ 1 (.int .i64 ((k:Int)+1)),by omega,by omega,hR.ob hne ((Ob.refl [g] W).set (by simp) _ _),hne⟩
  have hO2:=hO.set (g:=g) (by simp) 1 (.int .i64 ((k:Int)+1))
  exact⟨z,rfl,hz0,hz1,hC2.bl slc,hO2.trans (Ob.of_bl slc _)⟩
 ·have hnlt:¬i<(n:Int):=hlt
  go_enter Tryz.func70,Tryz.ntmps70
  go_wp2_with fail
  refine wp_gen (fun W=>∃h',Blk W g 89 #[.slice A n c,.int .i64 i,.int .i64 h']∧Ob [g] w W) ⟨_,by simpa using hB.set_ 2 _,(Ob.refl _ w).set (by simp) _ _⟩ ?_
  clear x0 x1 x2 f1 f2 hB
  rintro W ⟨h',hB,hO⟩
  have hR:=hR.ob hne hO
  go_region_held3 (fun w'=>(w'.cell? ⟨g,0,none⟩=some (.slice A n c)∧w'.cell? ⟨g,1,none⟩=some (.int .i64 i)∧w'.cell? ⟨g,2,none⟩=some (.int .i64 h'))) (first|exact bx3 (T:=89) (hB.bl slc)) (fail)
  obtain⟨hx0,hx1⟩:=and255 (bits .xor .i64 (h' / 8589934592) (h' / 35184372088832))
  generalize bits .and .i64 (bits .xor .i64 (h' / 8589934592) (h' / 35184372088832)) 255=x at *
  go_wp2_with fail
  go_region_held3 (fun w'=>(w'.cell? ⟨g,0,none⟩=some (.slice A n c)∧w'.cell? ⟨g,1,none⟩=some (.int .i64 i)∧w'.cell? ⟨g,2,none⟩=some (.int .i64 h'))) (first|exact bx3 (T:=89) (hB.bl slc)) (fail)
  go_wp2_with fail
  go_ret
  exact⟨x,rfl,hx0,hx1,(show Cur g W A n c l from ⟨i,h',hB,hi0,hin,hR,hne⟩).bl slc,hO.trans (Ob.of_bl slc _)⟩
theorem l01Below_any (w:World) {g n c:Nat}{A:Option Addr}{l:List Int}(m:Int) (hm0:0<m) (hm1:m≤256) (hC:Cur g w A n c l) :
  Calls Tryz.prog 42 #[.pointer (some ⟨g,0,none⟩),.int .i64 m] w fun e w'=>∃x:Int,e=.returned (.int .i64 x)∧0≤x∧x<m∧Cur g w' A n c l∧Ob [g] w w':=by
 have hm2:¬m≤0:=by omega
 have hm3:¬m=0:=by omega
 go_enter Tryz.func42,Tryz.ntmps42
 go_wp2_with fail
 refine(l01Byte_any _ hC).mono ?_
 rintro e w1 ⟨x,rfl,hx0,hx1,hC1,hO⟩
 have ht:x.tmod m=x % m:=by rw[Int.tmod_eq_emod_of_nonneg hx0]
 have hx2:=Int.emod_nonneg x (show m≠0 by omega)
 have hx3:=Int.emod_lt_of_pos x hm0
 go_wp2_with fail
 go_ret
 exact⟨x % m,rfl,hx2,hx3,hC1,hO⟩
theorem l01New_any (w:World) {A:Option Addr}{n c:Nat}{l:List Int}(h:RdB w A n c l) :
  Calls Tryz.prog 21 #[.slice A n c] w fun e w'=>∃g,e=.returned (.pointer (some ⟨g,0,none⟩))∧w.heap.size≤g∧Cur g w' A n c l∧Bl w w':=by
 have hn:=h.small
 go_enter Tryz.func21,Tryz.ntmps21
 go_wp2_with fail
 go_loopw [3,4] (fun v i wr=>∃(k:Nat) (z:Int),k≤n∧k≤4000∧i=.int .i64 (k:Int)∧v=.int .i64 z∧Bl w wr) (fun _ i _=>n-(intOf i).toNat)
 case atStart=>exact⟨0,_,Nat.zero_le _,Nat.zero_le _,rfl,rfl,Bl.refl _⟩
 case round=>
  obtain⟨k,z,hk,hk4,rfl,rfl,hbw⟩:=hrel
  by_cases hkn:k<n
  ·have hki:(k:Int)<(n:Int):=by omega
   by_cases hk5:k<4000
   ·have hki2:(k:Int)<4000:=by omega
    obtain⟨ad,rfl,hlt,hc,hb0,hb1⟩:=(RdB.bl h hbw).cells k hkn
    rw[Nat.mul_one]at hc
    go_wp2_with fail
    go_roundw
    case rel=>exact⟨k+1,_,by omega,by omega,by go_num,rfl,slc⟩
    case measure=>simp[intOf];omega
   ·have hd1:decide ((k:Int)<4000)=false:=by simp;omega
    go_wp2_with fail
    go_ret
    exact⟨wr.heap.size,rfl,hbw.size,⟨0,z,Blk.new _ _ _,by omega,by omega,RdB.bl h (hbw.alloc _),fun ad e hn0=>by subst e;obtain⟨_,e,hl,_⟩:=h.cells 0 hn0;cases e;have:=hbw.size;omega⟩,slc⟩
  ·have hd2:decide ((k:Int)<(n:Int))=false:=by simp;omega
   go_wp2_with fail
   go_ret
   exact⟨wr.heap.size,rfl,hbw.size,⟨0,z,Blk.new _ _ _,by omega,by omega,RdB.bl h (hbw.alloc _),fun ad e hn0=>by subst e;obtain⟨_,e,hl,_⟩:=h.cells 0 hn0;cases e;have:=hbw.size;omega⟩,slc⟩
theorem l31New_any (w:World) {A:Option Addr}{n c:Nat}{l:List Int}(m:Nat) (hm:m≤1000) (h:RdB w A n c l) :
  Calls Tryz.prog 41 #[.slice A n c,.int .i64 (m:Int)] w fun e w'=>∃g,e=.returned (.pointer (some ⟨g,0,none⟩))∧w.heap.size≤g∧Cur g w' A n c l∧Bl w w':=by
 go_enter Tryz.func41,Tryz.ntmps41
 go_wp2_with fail
 refine(l01New_any _ h).mono ?_
 rintro e w1 ⟨g,rfl,hg,hC,hb1⟩
 go_wp2_with fail
 go_loopw [6] (fun i wr=>∃k:Nat,k≤m∧i=.int .i64 (k:Int)∧Cur g wr A n c l∧Bl w wr) (fun i _=>m-(intOf i).toNat)
 case atStart=>exact⟨0,Nat.zero_le _,rfl,hC,hb1⟩
 case round=>
  clear hC hb1
  obtain⟨k,hk,rfl,hC,hbw⟩:=hrel
  by_cases hkm:k<m
  ·have hki:(k:Int)<(m:Int):=by omega
   go_wp2_with fail
   refine(l01Byte_any _ hC).mono ?_
   rintro e w2 ⟨x,rfl,-,-,hC2,hO⟩
   have hb2:=hbw.ob hO (fun b hb=>by simp at hb;omega)
   go_wp2_with fail
   go_roundw
   case rel=>exact⟨k+1,by omega,by go_num,hC2,hb2⟩
   case measure=>simp[intOf];omega
  ·obtain rfl:k=m:=by omega
   go_wp2_with fail
   go_ret
   exact⟨g,rfl,hg,hC,hbw⟩
end
section
open Go.RowKit
theorem l03Cmp_any (w:World) {s:Bool}{A:Option Addr}{n c:Nat}{x:Int}{t:Bool}{B:Option Addr}{m d:Nat}{y:Int}(h:IsB w s A n c x) (k:IsB w t B m d y) (hn:n≤2097152) (hm:m≤2097152) :
  Calls Tryz.prog 197 #[.agg #[.bool s,.slice A n c],.agg #[.bool t,.slice B m d]] w fun e w'=>e=.returned (.int .i64 (cmpZ x y))∧Bl w w':=by
 have hs:=h.1
 have ht:=k.1
 cases s <;> cases t
 ·have hx:0≤x:=by have:=hs.symm;simp at this;omega
  have hy:0≤y:=by have:=ht.symm;simp at this;omega
  have hv:=Lib.hid (show cmpZ x y=cmpI (x.natAbs:Int) (y.natAbs:Int)by unfold cmpZ cmpI;split <;> (try split) <;> (try split) <;> (try split) <;> omega)
  clear hs ht hx hy
  go_enter Tryz.func197,Tryz.ntmps197
  go_wp2_with fail
  refine(l02Cmp_any _ (RdI.bl h.mg slc) (RdI.bl k.mg slc) hn hm).mono ?_
  rintro e w1 ⟨rfl,q1,rfl⟩
  go_wp2_with fail
  go_ret
  exact⟨ret_int hv.out.symm,slc⟩
 ·have hx:0≤x:=by have:=hs.symm;simp at this;omega
  have hy:y<0:=by have:=ht.symm;simpa using this
  have hv:=Lib.hid (show cmpZ x y=1 by unfold cmpZ;split <;> (try split) <;> (try split) <;> (try split) <;> omega)
  clear hs ht hx hy
  go_enter Tryz.func197,Tryz.ntmps197
  go_wp2_with fail
  go_ret
  exact⟨ret_int hv.out.symm,slc⟩
 ·have hx:x<0:=by have:=hs.symm;simpa using this
  have hy:0≤y:=by have:=ht.symm;simp at this;omega
  have hv:=Lib.hid (show cmpZ x y=-1 by unfold cmpZ;split <;> (try split) <;> (try split) <;> (try split) <;> omega)
  clear hs ht hx hy
  go_enter Tryz.func197,Tryz.ntmps197
  go_wp2_with fail
  go_ret
  exact⟨ret_int hv.out.symm,slc⟩
 ·have hx:x<0:=by have:=hs.symm;simpa using this
  have hy:y<0:=by have:=ht.symm;simpa using this
  have hv:=Lib.hid (show cmpZ x y=cmpI (y.natAbs:Int) (x.natAbs:Int)by unfold cmpZ cmpI;split <;> (try split) <;> (try split) <;> (try split) <;> omega)
  clear hs ht hx hy
  go_enter Tryz.func197,Tryz.ntmps197
  go_wp2_with fail
  refine(l02Cmp_any _ (RdI.bl k.mg slc) (RdI.bl h.mg slc) hm hn).mono ?_
  rintro e w1 ⟨rfl,q1,rfl⟩
  go_wp2_with fail
  go_ret
  exact⟨ret_int hv.out.symm,slc⟩
theorem l04Cmp_any (w:World) {s:Bool}{A:Option Addr}{n c:Nat}{B:Option Addr}{m d:Nat}{x:Int}{D:Nat}{s':Bool}{A':Option Addr}{n' c':Nat}{B':Option Addr}{m' d':Nat}{x':Int}{D':Nat}(h:IsR w s A n c B m d x D) (k:IsR w s' A' n' c' B' m' d' x' D') (hn:n≤24) (hm:m≤24) (hn':n'≤24) (hm':m'≤24) (hD:0<D) (hD':0<D') :
  Calls Tryz.prog 182 #[.agg #[.bool s,.slice A n c,.slice B m d],.agg #[.bool s',.slice A' n' c',.slice B' m' d']] w fun e w'=>e=.returned (.int .i64 (cmpZ (x*(D':Int)) (x'*(D:Int))))∧Bl w w':=by
 have hm1:(dig (x.natAbs*D')).length≤59:=Nat.le_trans (dig_mul_len (Nat.le_of_eq h.num.lenN) (Nat.le_of_eq k.dn.lenN)) (by omega)
 have hm2:(dig (x'.natAbs*D)).length≤59:=Nat.le_trans (dig_mul_len (Nat.le_of_eq k.num.lenN) (Nat.le_of_eq h.dn.lenN)) (by omega)
 go_enter Tryz.func182,Tryz.ntmps182
 go_wp2_with fail
 refine wp_gen (fun W=>Bl w W∧Blk W (w.heap.size) 54 #[.bool s,.slice A n c,.slice B m d]∧Blk W (w.heap.size+1) 54 #[.bool s',.slice A' n' c',.slice B' m' d']) ⟨slc,bts,bts⟩ ?_
 rintro W ⟨hbW,hx,hx'⟩
 go_region_held3 (fun w'=>(w'.cell? ⟨w.heap.size,0,none⟩=some (.bool s)∧w'.cell? ⟨w.heap.size,1,none⟩=some (.slice A n c)∧w'.cell? ⟨w.heap.size,2,none⟩=some (.slice B m d))∧(w'.cell? ⟨w.heap.size+1,0,none⟩=some (.bool s')∧w'.cell? ⟨w.heap.size+1,1,none⟩=some (.slice A' n' c')∧w'.cell? ⟨w.heap.size+1,2,none⟩=some (.slice B' m' d'))) (first|exact⟨bx3 (T:=54) bts,bx3 (T:=54) bts⟩) (first |(go_at_call 191;with_reducible refine(l02Mul_any _ (h.num.bl slc) (k.dn.bl slc) (by omega) (by omega)).mono ?_;rintro e w4 ⟨A4,n4,c4,rfl,hO4,hb4⟩;(have hl4:n4≤59:=by rw[←hO4.rd.lenN];exact hm1);(have hN4:IsN w4 A4 n4 c4 (x.natAbs*D'):=hO4.rd)) |(go_at_call 139;(with_reducible refine(l03Make_any _ _ hN4 (by omega)).mono ?_);rintro e w5 ⟨s5,A5,n5,c5,rfl,hs5,hO5,hb5⟩;(have hB5:IsB w5 s5 A5 n5 c5 (x*(D':Int)):=⟨by rw[hs5.out];exact mk_sign h.sgn hD',by rw[Int.natAbs_mul,Int.natAbs_natCast];exact hO5.rd⟩)) |(go_at_call 191;with_reducible refine(l02Mul_any _ (k.num.bl slc) (h.dn.bl slc) (by omega) (by omega)).mono ?_;rintro e w6 ⟨A6,n6,c6,rfl,hO6,hb6⟩;(have hl6:n6≤59:=by rw[←hO6.rd.lenN];exact hm2);(have hN6:IsN w6 A6 n6 c6 (x'.natAbs*D):=hO6.rd)) |(go_at_call 139;(with_reducible refine(l03Make_any _ _ hN6 (by omega)).mono ?_);rintro e w7 ⟨s7,A7,n7,c7,rfl,hs7,hO7,hb7⟩;(have hB7:IsB w7 s7 A7 n7 c7 (x'*(D:Int)):=⟨by rw[hs7.out];exact mk_sign k.sgn hD,by rw[Int.natAbs_mul,Int.natAbs_natCast];exact hO7.rd⟩);(have hl5:n5≤2097152:=by rw[←hO5.rd.lenN];exact Nat.le_trans hm1 (by omega));(have hl7:n7≤2097152:=by rw[←hO7.rd.lenN];exact Nat.le_trans hm2 (by omega))) |(go_at_call 197;refine(l03Cmp_any _ (hB5.bl slc) hB7 hl5 hl7).mono ?_;rintro e w8 ⟨rfl,hb8⟩))
 go_wp2_with fail
 go_ret
 exact⟨rfl,slc⟩
end
section
open Go.RowKit
noncomputable def innP (p q:PtD):RatD:=addR (mulR p.x q.x) (mulR p.y q.y)
theorem sInner_any (w:World) {s:Bool}{A:Option Addr}{n c:Nat}{B:Option Addr}{m d:Nat}{t:Bool}{C:Option Addr}{i e:Nat}{D:Option Addr}{j f:Nat}{p:PtD}{s':Bool}{A':Option Addr}{n' c':Nat}{B':Option Addr}{m' d':Nat}{t':Bool}{C':Option Addr}{i' e':Nat}{D':Option Addr}{j' f':Nat}{p':PtD}(h:RdR w s A n c B m d p.x) (k:RdR w t C i e D j f p.y) (h':RdR w s' A' n' c' B' m' d' p'.x) (k':RdR w t' C' i' e' D' j' f' p'.y) :
  Calls Tryz.prog 154 #[.agg #[.bool s,.slice A n c,.slice B m d,.bool t,.slice C i e,.slice D j f],.agg #[.bool s',.slice A' n' c',.slice B' m' d',.bool t',.slice C' i' e',.slice D' j' f']] w fun en w'=>∃s1 A1 n1 c1 B1 m1 d1,en=.returned (.agg #[.bool s1,.slice A1 n1 c1,.slice B1 m1 d1])∧OwR 3 w.heap.size w' s1 A1 n1 c1 B1 m1 d1 (innP p p')∧Bl w w':=by
 go_enter Tryz.func154,Tryz.ntmps154
 go_wp2_with fail
 refine wp_gen (fun W=>Bl w W∧Blk W (w.heap.size) 56 #[.bool s,.slice A n c,.slice B m d,.bool t,.slice C i e,.slice D j f]∧Blk W (w.heap.size+1) 56 #[.bool s',.slice A' n' c',.slice B' m' d',.bool t',.slice C' i' e',.slice D' j' f']∧Wk 3 54 (w.heap.size+1+1) W) ⟨slc,bts,bts,bts⟩ ?_
 rintro W ⟨hbW,hx,hx',hr⟩
 go_region_held3 (fun w'=>(w'.cell? ⟨w.heap.size,0,none⟩=some (.bool s)∧w'.cell? ⟨w.heap.size,1,none⟩=some (.slice A n c)∧w'.cell? ⟨w.heap.size,2,none⟩=some (.slice B m d)∧w'.cell? ⟨w.heap.size,3,none⟩=some (.bool t)∧w'.cell? ⟨w.heap.size,4,none⟩=some (.slice C i e)∧w'.cell? ⟨w.heap.size,5,none⟩=some (.slice D j f))∧(w'.cell? ⟨w.heap.size+1,0,none⟩=some (.bool s')∧w'.cell? ⟨w.heap.size+1,1,none⟩=some (.slice A' n' c')∧w'.cell? ⟨w.heap.size+1,2,none⟩=some (.slice B' m' d')∧w'.cell? ⟨w.heap.size+1,3,none⟩=some (.bool t')∧w'.cell? ⟨w.heap.size+1,4,none⟩=some (.slice C' i' e')∧w'.cell? ⟨w.heap.size+1,5,none⟩=some (.slice D' j' f'))∧(w'.cell? ⟨w.heap.size+1+1,0,none⟩=some (cellD w' (w.heap.size+1+1) 0)∧w'.cell? ⟨w.heap.size+1+1,1,none⟩=some (cellD w' (w.heap.size+1+1) 1)∧w'.cell? ⟨w.heap.size+1+1,2,none⟩=some (cellD w' (w.heap.size+1+1) 2))∧w'.frozen? ⟨w.heap.size+1+1,0,none⟩=false∧w'.frozen? ⟨w.heap.size+1+1,1,none⟩=false∧w'.frozen? ⟨w.heap.size+1+1,2,none⟩=false) (first|exact⟨bx6 (T:=56) bts,bx6 (T:=56) bts,Wk.out3 (T:=54) bts⟩) (first |(go_at_call 143;with_reducible refine(sRatMul_any _ (h.bl slc) (h'.bl slc)).mono ?_;rintro en w2 ⟨s2,A2,n2,c2,B2,m2,d2,rfl,hR2,hb2⟩) |(go_at_call 143;with_reducible refine(sRatMul_any _ (k.bl slc) (k'.bl slc)).mono ?_;rintro en w3 ⟨s3,A3,n3,c3,B3,m3,d3,rfl,hR3,hb3⟩) |(go_at_call 145;refine(sRatAdd_any _ (hR2.rd.bl hb3) hR3.rd).mono ?_;rintro en w4 ⟨s1,A1,n1,c1,B1,m1,d1,rfl,hR,hb4⟩))
 have hz:w.heap.size+1+1+1≤W.heap.size:=hr.lt
 have hz2:W.heap.size≤w2.heap.size:=(Bl.size hb2:W.drew.heap.size≤_)
 have hz3:w2.heap.size≤w3.heap.size:=Bl.size hb3
 have hr:=(show Wk 3 54 (w.heap.size+1+1) w4 from bts)
 have hbW:Bl w w4:=slc
 have hR:=hR.mono (show w.heap.size+1+1+1≤w3.heap.size by omega)
 obtain⟨v0,x0⟩:=hr.val_ (i:=0) (by omega)
 obtain⟨v1,x1⟩:=hr.val_ (i:=1) (by omega)
 obtain⟨v2,x2⟩:=hr.val_ (i:=2) (by omega)
 have hg:=hr.lt
 obtain⟨cs4,hB4,hc4⟩:=hr
 have hf0:=hB4.frozen 0
 have hf1:=hB4.frozen 1
 have hf2:=hB4.frozen 2
 go_wp2_with fail
 exact bodyPost_ret (v:=.agg #[.bool s1,.slice A1 n1 c1,.slice B1 m1 d1]) (by simp[results,Tryz.results154,go_sem,x0,x1,x2]) rfl ⟨_,_,_,_,_,_,_,rfl,(((hR.far (by simp) _).far (by simp) _).far (by simp) _).mono (by omega),slc⟩
end
section
open Go.RowKit
def OwE (T:TypeId) (g:Nat) (w:World) (s:Bool) (A:Option Addr) (n c:Nat) (B:Option Addr) (m d:Nat) (r:RatD):Prop :=
 ∃bs,FtR T w s A n c B m d r bs∧∀b∈bs,b≠g
section
variable {T:TypeId}{b0 g:Nat}{w W:World}{s:Bool}{A:Option Addr}{n c:Nat}{B:Option Addr}{m d:Nat}{r:RatD}
theorem OwE.rd (h:OwE T g w s A n c B m d r):RdR w s A n c B m d r:=by
 obtain⟨bs,h,_⟩:=h
 exact h.rd
theorem OwE.bl (h:OwE T g w s A n c B m d r) (hb:Bl w W):OwE T g W s A n c B m d r:=by
 obtain⟨bs,h,hf⟩:=h
 exact⟨bs,h.bl hb,hf⟩
theorem OwE.set (h:OwE T g w s A n c B m d r) (i:Nat) (u:Value):OwE T g (w.setCell ⟨g,i,none⟩ u) s A n c B m d r:=by
 obtain⟨bs,h,hf⟩:=h
 exact⟨bs,h.keep (by simp) (fun b hb=>Below.heap_setCell w _ u b (hf b hb)),hf⟩
theorem Blk.fz3 {a b c:Value}{T:TypeId}(h:Blk W g T #[a,b,c]):W.frozen? ⟨g,0,none⟩=false∧W.frozen? ⟨g,1,none⟩=false∧W.frozen? ⟨g,2,none⟩=false:=⟨h.frozen 0,h.frozen 1,h.frozen 2⟩
end
theorem Wk.put6 {W:World}{g:Nat}{T:TypeId}(h:Wk 6 T g W) (a b c a' b' c':Value):Blk ((((((W.setCell ⟨g,0,none⟩ a).setCell ⟨g,1,none⟩ b).setCell ⟨g,2,none⟩ c).setCell ⟨g,3,none⟩ a').setCell ⟨g,4,none⟩ b').setCell ⟨g,5,none⟩ c') g T #[a,b,c,a',b',c']:=by
 obtain⟨⟨l⟩,h1,h2⟩:=h
 have h3:=(((((h1.set_ 0 a).set_ 1 b).set_ 2 c).set_ 3 a').set_ 4 b').set_ 5 c'
 rcases l with _ |⟨u,_ |⟨v,_ |⟨x,_ |⟨y,_ |⟨z,_ |⟨t,_ |⟨q,l⟩⟩⟩⟩⟩⟩⟩ <;> simp at h2
 exact h3
end
section
open Go.RowKit
theorem FtI.neT {T TP:TypeId}{w:World}{A:Option Addr}{n c k g:Nat}{l:List Int}{bs:List Nat}(h:FtI T w A n c l bs) (hk:Wk k TP g w) (hne:T≠TP):∀b∈bs,b≠g:=by
 intro b hm e
 subst e
 obtain⟨cs',h1,_⟩:=hk
 rcases h.2 with ⟨_,e2⟩ |⟨g',cs,_,_,hh,_,e2⟩
 ·rw[e2]at hm;cases hm
 ·rw[e2]at hm
  simp at hm
  subst hm
  have h3:w.heap[b]?=some (.cells cs' TP (0,0)):=h1
  rw[hh]at h3
  injection h3 with h3
  injection h3 with _ h3
  exact hne h3
theorem FtR.neT {T TP:TypeId}{w:World}{s:Bool}{A:Option Addr}{n c:Nat}{B:Option Addr}{m d k g:Nat}{r:RatD}{bs:List Nat}(h:FtR T w s A n c B m d r bs) (hk:Wk k TP g w) (hne:T≠TP):∀b∈bs,b≠g:=by
 obtain⟨_,b1,b2,h1,h2,rfl⟩:=h
 intro b hb
 rcases List.mem_append.1 hb with hb|hb
 ·exact h1.neT hk hne b hb
 ·exact h2.neT hk hne b hb
theorem OwP.setT {T TP:TypeId}{b0 g k:Nat}{w:World}{s:Bool}{A:Option Addr}{n c:Nat}{B:Option Addr}{m d:Nat}{t:Bool}{C:Option Addr}{i e:Nat}{D:Option Addr}{j f:Nat}{p:PtD}(h:OwP T b0 w s A n c B m d t C i e D j f p) (hk:Wk k TP g w) (hne:T≠TP) (i0:Nat) (u:Value):OwP T b0 (w.setCell ⟨g,i0,none⟩ u) s A n c B m d t C i e D j f p:=by
 obtain⟨c1,c2,h1,h2,hf⟩:=h
 exact⟨c1,c2,h1.keep (by simp) (fun b hb=>Below.heap_setCell w _ u b (h1.neT hk hne b hb)),h2.keep (by simp) (fun b hb=>Below.heap_setCell w _ u b (h2.neT hk hne b hb)),hf.mono (Nat.le_refl _) (by simp)⟩
theorem OwP.put6 {T TP:TypeId}{b0 g k:Nat}{w:World}{s:Bool}{A:Option Addr}{n c:Nat}{B:Option Addr}{m d:Nat}{t:Bool}{C:Option Addr}{i e:Nat}{D:Option Addr}{j f:Nat}{p:PtD}(h:OwP T b0 w s A n c B m d t C i e D j f p) (hk:Wk k TP g w) (hne:T≠TP) (u0 u1 u2 u3 u4 u5:Value) :
  OwP T b0 ((((((w.setCell ⟨g,0,none⟩ u0).setCell ⟨g,1,none⟩ u1).setCell ⟨g,2,none⟩ u2).setCell ⟨g,3,none⟩ u3).setCell ⟨g,4,none⟩ u4).setCell ⟨g,5,none⟩ u5) s A n c B m d t C i e D j f p :=
 (((((h.setT hk hne 0 u0).setT (hk.set 0 u0) hne 1 u1).setT ((hk.set 0 u0).set 1 u1) hne 2 u2).setT (((hk.set 0 u0).set 1 u1).set 2 u2) hne 3 u3).setT ((((hk.set 0 u0).set 1 u1).set 2 u2).set 3 u3) hne 4 u4).setT (((((hk.set 0 u0).set 1 u1).set 2 u2).set 3 u3).set 4 u4) hne 5 u5
theorem ne_ip:(3:TypeId)≠56:=by decide
noncomputable def gradR (D:RatD) (j k:PtD):PtD:=⟨divR (subR j.y k.y) D,divR (subR k.x j.x) D⟩
noncomputable def grad3 (p0 p1 p2:PtD):Nat→PtD
 | 0=>gradR (dblA p0 p1 p2) p1 p2
 | 1=>gradR (dblA p0 p1 p2) p2 p0
 | _+2=>gradR (dblA p0 p1 p2) p0 p1
def GradOk (p0 p1 p2:PtD) (k:Nat):Prop:=∀j,j<k→OkP (grad3 p0 p1 p2 j)
theorem GradOk.step {p0 p1 p2:PtD}{k:Nat}(h:GradOk p0 p1 p2 k) (h0:OkP (grad3 p0 p1 p2 k)):GradOk p0 p1 p2 (k+1):=by
 intro j hj
 rcases Nat.lt_succ_iff_lt_or_eq.1 hj with hj|rfl
 ·exact h j hj
 ·exact h0
end
section
open Go.RowKit
theorem Wk.ob {k g:Nat}{T:TypeId}{w W:World}{bs:List Nat}(h:Wk k T g w) (ho:Ob bs w W) (hg:g∉bs):Wk k T g W:=by
 obtain⟨cs,h1,h2⟩:=h
 exact⟨cs,h1.ob ho hg,h2⟩
theorem ofFrac_sm (x:Int) (D:Nat) (hD:0<D) (hx:x.natAbs≤17) (hn:D≤17):ofFrac x D=toR (mkRat x D)∧Bd 17 (mkRat x D):=by
 have hb:Bd 17 (mkRat x D):=bd_mk hD hx hn
 rw[ofFrac_toR x hD,if_pos (hb.fit (by decide))]
 exact⟨rfl,hb⟩
theorem OwPN.ob' {T:TypeId}{b0 g:Nat}{w W:World}{s:Bool}{A:Option Addr}{n c:Nat}{B:Option Addr}{m d:Nat}{t:Bool}{C:Option Addr}{i e:Nat}{D:Option Addr}{j f:Nat}{p:PtD}(h:OwPN AnyN T b0 w s A n c B m d t C i e D j f p) (ho:Ob [g] w W) (hg:g<b0):OwPN AnyN T b0 W s A n c B m d t C i e D j f p:=by
 obtain⟨c1,c2,h1,h2,hf,hn⟩:=h
 refine⟨c1,c2,h1.keep ho.size fun b hb=>ho.block b (hf b (by simp[hb])).2 fun hm=>?_,h2.keep ho.size fun b hb=>ho.block b (hf b (by simp[hb])).2 fun hm=>?_,fun b hb=>⟨(hf b hb).1,Nat.lt_of_lt_of_le (hf b hb).2 ho.size⟩,hn⟩
 ·have:=(hf b (by simp[hb])).1;simp at hm;omega
 ·have:=(hf b (by simp[hb])).1;simp at hm;omega
theorem OwPN.bl' {T:TypeId}{b0:Nat}{w W:World}{s:Bool}{A:Option Addr}{n c:Nat}{B:Option Addr}{m d:Nat}{t:Bool}{C:Option Addr}{i e:Nat}{D:Option Addr}{j f:Nat}{p:PtD}(h:OwPN AnyN T b0 w s A n c B m d t C i e D j f p) (hb:Bl w W):OwPN AnyN T b0 W s A n c B m d t C i e D j f p:=by
 obtain⟨c1,c2,h1,h2,hf,hn⟩:=h
 exact⟨c1,c2,h1.bl hb,h2.bl hb,fun b hm=>⟨(hf b hm).1,Nat.lt_of_lt_of_le (hf b hm).2 hb.size⟩,hn⟩
theorem OwPN.rdx {T:TypeId}{b0:Nat}{w:World}{s:Bool}{A:Option Addr}{n c:Nat}{B:Option Addr}{m d:Nat}{t:Bool}{C:Option Addr}{i e:Nat}{D:Option Addr}{j f:Nat}{p:PtD}(h:OwPN AnyN T b0 w s A n c B m d t C i e D j f p):RdR w s A n c B m d p.x∧RdR w t C i e D j f p.y:=by
 obtain⟨c1,c2,h1,h2,hf,hn⟩:=h
 exact⟨h1.rd,h2.rd⟩
theorem OwPN.low' {T:TypeId}{b0 b1:Nat}{w:World}{s:Bool}{A:Option Addr}{n c:Nat}{B:Option Addr}{m d:Nat}{t:Bool}{C:Option Addr}{i e:Nat}{D:Option Addr}{j f:Nat}{p:PtD}(h:OwPN AnyN T b1 w s A n c B m d t C i e D j f p) (hb:b0≤b1):OwPN AnyN T b0 w s A n c B m d t C i e D j f p:=by
 obtain⟨c1,c2,h1,h2,hf,hn⟩:=h
 exact⟨c1,c2,h1,h2,fun b hm=>⟨Nat.le_trans hb (hf b hm).1,(hf b hm).2⟩,hn⟩
theorem OwPN.setT {T TP:TypeId}{b0 g k:Nat}{w:World}{s:Bool}{A:Option Addr}{n c:Nat}{B:Option Addr}{m d:Nat}{t:Bool}{C:Option Addr}{i e:Nat}{D:Option Addr}{j f:Nat}{p:PtD}(h:OwPN AnyN T b0 w s A n c B m d t C i e D j f p) (hk:Wk k TP g w) (hne:T≠TP) (i0:Nat) (u:Value):OwPN AnyN T b0 (w.setCell ⟨g,i0,none⟩ u) s A n c B m d t C i e D j f p:=by
 obtain⟨c1,c2,h1,h2,hf,hn⟩:=h
 exact⟨c1,c2,h1.keep (by simp) (fun b hb=>Below.heap_setCell w _ u b (h1.neT hk hne b hb)),h2.keep (by simp) (fun b hb=>Below.heap_setCell w _ u b (h2.neT hk hne b hb)),fun b hb=>by simpa using hf b hb,hn⟩
theorem Cur.set {g n c:Nat}{w:World}{A:Option Addr}{l:List Int}(h:Cur g w A n c l) {b:Nat}(hq:b≠g) (hq2:∀ad,A=Option.some ad→0<n→ad.block≠b) (o:Nat) (u:Value):Cur g (w.setCell ⟨b,o,none⟩ u) A n c l:=by
 obtain⟨i,k,h1,h2,h3,h4,h5⟩:=h
 exact⟨i,k,h1.far (Ne.symm hq) u,h2,h3,h4.ob (g:=b) hq2 ((Ob.refl [b] w).set (by simp) _ _),h5⟩
theorem Ob.far {bs:List Nat}{w W:World}(h:Ob bs w W) {b:Nat}(hb:w.heap.size≤b) (o:Nat) (u:Value):Ob bs w (W.setCell ⟨b,o,none⟩ u):=by
 have k:=(h.mono (cs:=b::bs) (fun x hx=>List.mem_cons_of_mem _ hx)).set (g:=b) (by simp) o u
 exact⟨k.os,k.tape,k.output,k.size,fun x hx hn=>k.block x hx fun hm=>by rcases List.mem_cons.1 hm with rfl|hm;omega;exact hn hm⟩
end
section
open Go.RowKit
def toP (x y:Rat):PtD:=⟨toR x,toR y⟩
theorem ifP_toP {x y:Rat}(hx:Fit x) (hy:Fit y):ifP (toP x y)=toP x y:=by
 have e1:=(okR_den (.inr hx.ok)).2 hx.ok
 have e2:=(okR_den (.inr hy.ok)).2 hy.ok
 unfold ifP
 rw[if_neg]
 rintro (h|h)
 ·exact e1 h
 ·exact e2 h
theorem subP_toP {x y u v:Rat}(hx:Bd 17 x) (hy:Bd 17 y) (hu:Bd 17 u) (hv:Bd 17 v):subP (toP x y) (toP u v)=toP (x-u) (y-v)∧Bd 578 (x-u)∧Bd 578 (y-v):=by
 have h1:Bd 578 (x-u):=(hx.sub hu).mono (by decide)
 have h2:Bd 578 (y-v):=(hy.sub hv).mono (by decide)
 refine⟨?_,h1,h2⟩
 unfold subP
 rw[show (toP x y).x=toR x from rfl,show (toP u v).x=toR u from rfl,show (toP x y).y=toR y from rfl,show (toP u v).y=toR v from rfl,
  subR_toR (hx.fit (by decide)) (hu.fit (by decide)) (h1.fit (by decide)),subR_toR (hy.fit (by decide)) (hv.fit (by decide)) (h2.fit (by decide))]
 exact ifP_toP (h1.fit (by decide)) (h2.fit (by decide))
def detQ (x0 y0 x1 y1 x2 y2:Rat):Rat:=(x1-x0)*(y2-y0)-(y1-y0)*(x2-x0)
theorem dblA_toP {x0 y0 x1 y1 x2 y2:Rat}(a0:Bd 17 x0) (b0:Bd 17 y0) (a1:Bd 17 x1) (b1:Bd 17 y1) (a2:Bd 17 x2) (b2:Bd 17 y2) :
  dblA (toP x0 y0) (toP x1 y1) (toP x2 y2)=toR (detQ x0 y0 x1 y1 x2 y2)∧Bd 223224238112 (detQ x0 y0 x1 y1 x2 y2):=by
 obtain⟨e1,h1,h2⟩:=subP_toP a1 b1 a0 b0
 obtain⟨e2,h3,h4⟩:=subP_toP a2 b2 a0 b0
 have m1:Bd 334084 ((x1-x0)*(y2-y0)):=(h1.mul h4).mono (by decide)
 have m2:Bd 334084 ((y1-y0)*(x2-x0)):=(h2.mul h3).mono (by decide)
 have m3:Bd 223224238112 (detQ x0 y0 x1 y1 x2 y2):=(m1.sub m2).mono (by decide)
 refine⟨?_,m3⟩
 unfold dblA
 rw[e1,e2]
 unfold crossP
 rw[show (toP (x1-x0) (y1-y0)).x=toR (x1-x0)from rfl,show (toP (x1-x0) (y1-y0)).y=toR (y1-y0)from rfl,show (toP (x2-x0) (y2-y0)).x=toR (x2-x0)from rfl,show (toP (x2-x0) (y2-y0)).y=toR (y2-y0)from rfl,
  mulR_toR (h1.fit (by decide)) (h4.fit (by decide)) (m1.fit (by decide)),mulR_toR (h2.fit (by decide)) (h3.fit (by decide)) (m2.fit (by decide)),subR_toR (m1.fit (by decide)) (m2.fit (by decide)) (m3.fit (by decide))]
 rfl
end
section
open Go.RowKit
theorem Ob.bl {bs:List Nat}{w W W2:World}(h:Ob bs w W) (hb:Bl W W2):Ob bs w W2:=h.trans (Ob.of_bl hb _)
end
section
open Go.RowKit
def SqTo (L:List (List RatD)) (k:Nat):Prop:=∀i,i<k→AllOk (pix L i)
theorem SqTo.step {L:List (List RatD)}{k:Nat}(h:SqTo L k) (h0:AllOk (pix L k)):SqTo L (k+1):=by
 intro j hj
 rcases Nat.lt_succ_iff_lt_or_eq.1 hj with hj|rfl
 ·exact h j hj
 ·exact h0
end
section
open Go.RowKit
section
variable {x0 y0 x1 y1 x2 y2:Rat}
theorem half_sm:ofFrac 1 2=toR (mkRat 1 2)∧Bd 2 (mkRat 1 2):=by
 have hb:Bd 2 (mkRat 1 2):=bd_mk (by omega) (by decide) (by omega)
 refine⟨?_,hb⟩
 rw[ofFrac_toR 1 (by omega),if_pos (hb.fit (by decide))]
end
end
section
open Go.RowKit
section
variable {x0 y0 x1 y1 x2 y2:Rat}
end
end
section
open Go.RowKit
noncomputable def addP (p q:PtD):PtD:=ifP ⟨addR p.x q.x,addR p.y q.y⟩
theorem AddPoints_any (w:World) {s:Bool}{A:Option Addr}{n c:Nat}{B:Option Addr}{m d:Nat}{t:Bool}{C:Option Addr}{i e:Nat}{D:Option Addr}{j f:Nat}{p:PtD}{s':Bool}{A':Option Addr}{n' c':Nat}{B':Option Addr}{m' d':Nat}{t':Bool}{C':Option Addr}{i' e':Nat}{D':Option Addr}{j' f':Nat}{p':PtD}(h:RdR w s A n c B m d p.x) (k:RdR w t C i e D j f p.y) (h':RdR w s' A' n' c' B' m' d' p'.x) (k':RdR w t' C' i' e' D' j' f' p'.y) :
  Calls Tryz.prog 106 #[.agg #[.bool s,.slice A n c,.slice B m d,.bool t,.slice C i e,.slice D j f],.agg #[.bool s',.slice A' n' c',.slice B' m' d',.bool t',.slice C' i' e',.slice D' j' f']] w fun en w'=>∃s1 A1 n1 c1 B1 m1 d1 t1 C1 i1 e1 D1 j1 f1,en=.returned (.agg #[.bool s1,.slice A1 n1 c1,.slice B1 m1 d1,.bool t1,.slice C1 i1 e1,.slice D1 j1 f1])∧OwP 3 w.heap.size w' s1 A1 n1 c1 B1 m1 d1 t1 C1 i1 e1 D1 j1 f1 (addP p p')∧Bl w w':=by
 go_enter Tryz.func106,Tryz.ntmps106
 go_wp2_with fail
 refine wp_gen (fun W=>Bl w W∧Blk W (w.heap.size) 56 #[.bool s,.slice A n c,.slice B m d,.bool t,.slice C i e,.slice D j f]∧Blk W (w.heap.size+1) 56 #[.bool s',.slice A' n' c',.slice B' m' d',.bool t',.slice C' i' e',.slice D' j' f']∧Wk 6 56 (w.heap.size+1+1) W) ⟨slc,bts,bts,bts⟩ ?_
 rintro W ⟨hbW,hx,hx',hr⟩
 go_region_held3 (fun w'=>(w'.cell? ⟨w.heap.size,0,none⟩=some (.bool s)∧w'.cell? ⟨w.heap.size,1,none⟩=some (.slice A n c)∧w'.cell? ⟨w.heap.size,2,none⟩=some (.slice B m d)∧w'.cell? ⟨w.heap.size,3,none⟩=some (.bool t)∧w'.cell? ⟨w.heap.size,4,none⟩=some (.slice C i e)∧w'.cell? ⟨w.heap.size,5,none⟩=some (.slice D j f))∧(w'.cell? ⟨w.heap.size+1,0,none⟩=some (.bool s')∧w'.cell? ⟨w.heap.size+1,1,none⟩=some (.slice A' n' c')∧w'.cell? ⟨w.heap.size+1,2,none⟩=some (.slice B' m' d')∧w'.cell? ⟨w.heap.size+1,3,none⟩=some (.bool t')∧w'.cell? ⟨w.heap.size+1,4,none⟩=some (.slice C' i' e')∧w'.cell? ⟨w.heap.size+1,5,none⟩=some (.slice D' j' f'))∧(w'.cell? ⟨w.heap.size+1+1,0,none⟩=some (cellD w' (w.heap.size+1+1) 0)∧w'.cell? ⟨w.heap.size+1+1,1,none⟩=some (cellD w' (w.heap.size+1+1) 1)∧w'.cell? ⟨w.heap.size+1+1,2,none⟩=some (cellD w' (w.heap.size+1+1) 2)∧w'.cell? ⟨w.heap.size+1+1,3,none⟩=some (cellD w' (w.heap.size+1+1) 3)∧w'.cell? ⟨w.heap.size+1+1,4,none⟩=some (cellD w' (w.heap.size+1+1) 4)∧w'.cell? ⟨w.heap.size+1+1,5,none⟩=some (cellD w' (w.heap.size+1+1) 5))∧w'.frozen? ⟨w.heap.size+1+1,0,none⟩=false∧w'.frozen? ⟨w.heap.size+1+1,1,none⟩=false∧w'.frozen? ⟨w.heap.size+1+1,2,none⟩=false∧w'.frozen? ⟨w.heap.size+1+1,3,none⟩=false∧w'.frozen? ⟨w.heap.size+1+1,4,none⟩=false∧w'.frozen? ⟨w.heap.size+1+1,5,none⟩=false) (first|exact⟨bx6 (T:=56) bts,bx6 (T:=56) bts,Wk.out6 (T:=56) bts⟩) (first |(go_at_call 138;with_reducible refine(RatAdd_any _ (h.bl slc) (h'.bl slc)).mono ?_;rintro en w2 ⟨s2,A2,n2,c2,B2,m2,d2,rfl,hR2,hb2⟩) |(go_at_call 138;with_reducible refine(RatAdd_any _ (k.bl slc) (k'.bl slc)).mono ?_;rintro en w3 ⟨s3,A3,n3,c3,B3,m3,d3,rfl,hR3,hb3⟩) |(go_at_call 134;refine(ifPoint_any (p:=⟨addR p.x p'.x,addR p.y p'.y⟩) _ (OwP.two hR2 hR3 hb3 (Bl.size hb2))).mono ?_;rintro en w4 ⟨s1,A1,n1,c1,B1,m1,d1,t1,C1,i1,e1,D1,j1,f1,rfl,hX,hb4⟩))
 have hz:w.heap.size+1+1+1≤W.heap.size:=hr.lt
 have hr:=(show Wk 6 56 (w.heap.size+1+1) w4 from bts)
 have hbW:Bl w w4:=slc
 have hX:=hX.low (show w.heap.size+1+1+1≤W.drew.heap.size from hz)
 obtain⟨v0,x0⟩:=hr.val_ (i:=0) (by omega)
 obtain⟨v1,x1⟩:=hr.val_ (i:=1) (by omega)
 obtain⟨v2,x2⟩:=hr.val_ (i:=2) (by omega)
 obtain⟨v3,x3⟩:=hr.val_ (i:=3) (by omega)
 obtain⟨v4,x4⟩:=hr.val_ (i:=4) (by omega)
 obtain⟨v5,x5⟩:=hr.val_ (i:=5) (by omega)
 have hg:=hr.lt
 obtain⟨cs4,hB4,hc4⟩:=hr
 have hf0:=hB4.frozen 0
 have hf1:=hB4.frozen 1
 have hf2:=hB4.frozen 2
 have hf3:=hB4.frozen 3
 have hf4:=hB4.frozen 4
 have hf5:=hB4.frozen 5
 go_wp2_with fail
 exact bodyPost_ret (v:=.agg #[.bool s1,.slice A1 n1 c1,.slice B1 m1 d1,.bool t1,.slice C1 i1 e1,.slice D1 j1 f1]) (by simp[results,Tryz.results106,go_sem,x0,x1,x2,x3,x4,x5]) rfl ⟨_,_,_,_,_,_,_,_,_,_,_,_,_,_,rfl,((((((hX.far (by simp) _).far (by simp) _).far (by simp) _).far (by simp) _).far (by simp) _).far (by simp) _).low (by omega),slc⟩
theorem cmpR_val {r s:RatD}(h:OkR r∧OkR s):cmpR r s=cmpZ (rn r*(rd s:Int)) (rn s*(rd r:Int)):=if_pos h
end
end Go.Proofs.YtmkcacgmnnlddaaGreat
