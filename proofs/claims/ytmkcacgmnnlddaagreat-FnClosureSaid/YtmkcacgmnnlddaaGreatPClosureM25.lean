import Derived.Test.YtmkcacgmnnlddaaGreatRows
import Derived.Test.YtmkcacgmnnlddaaGreatPClosureM23
import Derived.Test.YtmkcacgmnnlddaaGreatPClosureM20
import Derived.Test.YtmkcacgmnnlddaaGreatPClosureM24
import Derived.Test.YtmkcacgmnnlddaaGreatPClosureM19
import Derived.Deep.Cut
import Derived.Deep.DeepCutAuto
namespace Go.Proofs.YtmkcacgmnnlddaaGreat
set_option maxRecDepth 100000
set_option maxHeartbeats 16000000
section
open Go.RowKit
def CurX (g:Nat) (w:World) (A:Option Addr) (n c:Nat) (l:List Int) (s:Int × Int):Prop :=
 Blk w g 89 #[.slice A n c,.int .i64 s.1,.int .i64 s.2]∧0≤s.1∧s.1≤n∧RdB w A n c l∧∀ad,A=Option.some ad→0<n→ad.block≠g
theorem CurX.cur {g n c:Nat}{w:World}{A:Option Addr}{l:List Int}{s:Int × Int}(h:CurX g w A n c l s):Cur g w A n c l:=⟨s.1,s.2,h.1,h.2⟩
theorem CurX.bl {g n c:Nat}{w W:World}{A:Option Addr}{l:List Int}{s:Int × Int}(h:CurX g w A n c l s) (hb:Bl w W):CurX g W A n c l s:=by
 obtain⟨h1,h2,h3,h4,h5⟩:=h
 exact⟨h1.bl hb,h2,h3,h4.bl hb,h5⟩
theorem CurX.lt {g n c:Nat}{w:World}{A:Option Addr}{l:List Int}{s:Int × Int}(h:CurX g w A n c l s):g<w.heap.size:=h.1.lt
def lcgH (h:Int):Int:=wrap64 (wrap64 (h*6364136223846793005)+1442695040888963407)
def lcgX (h:Int):Int:=bits .and .i64 (bits .xor .i64 (h / 8589934592) (h / 35184372088832)) 255
def byF (l:List Int) (s:Int × Int):Int × (Int × Int) :=
 if s.1<(l.length:Int)then (bits .and .i64 (IntKind.i64.wrap (lcgX (lcgH s.2)+IntKind.i64.wrap (pix l s.1.toNat))) 255,(s.1+1,lcgH s.2))else (lcgX (lcgH s.2),(s.1,lcgH s.2))
def beF (l:List Int) (s:Int × Int) (m:Int):Int × (Int × Int):=((byF l s).1 % m,(byF l s).2)
def hsS (h b:Int):Int:=bits .and .i64 (wrap64 (wrap64 (wrap64 (h*67)+b)+7)) 1073741823
def hsTo (l:List Int):Nat→Int
 | 0=>wrap64 (1949+(l.length:Int))
 | k+1=>hsS (hsTo l k) (pix l k)
def nwS (l:List Int):Int × Int:=(0,hsTo l (min l.length 4000))
theorem l01Byte_x (w:World) {g n c:Nat}{A:Option Addr}{l:List Int}{s:Int × Int}(hC:CurX g w A n c l s) :
  Calls Tryz.prog 70 #[.pointer (some ⟨g,0,none⟩)] w fun e w'=>e=.returned (.int .i64 (byF l s).1)∧0≤(byF l s).1∧(byF l s).1≤255∧CurX g w' A n c l (byF l s).2∧Ob [g] w w':=by
 obtain⟨i,h⟩:=s
 obtain⟨hB,hi0,hin,hR,hne⟩:=hC
 dsimp only at hB hi0 hin
 have hln:=hR.len
 have hs:=hR.small
 obtain⟨x0,x1,x2⟩:=bx3 hB
 have f1:=hB.frozen 1
 have f2:=hB.frozen 2
 have hg:=hB.lt
 have hv:byF l (i,h)=(if i<(l.length:Int)then (bits .and .i64 (IntKind.i64.wrap (lcgX (lcgH h)+IntKind.i64.wrap (pix l i.toNat))) 255,(i+1,lcgH h))else (lcgX (lcgH h),(i,lcgH h))):=rfl
 replace hv:=Lib.hid hv
 by_cases hlt:i<(n:Int)
 ·obtain⟨k,rfl⟩:=Int.eq_ofNat_of_zero_le hi0
  have hkn:k<n:=by omega
  obtain⟨ad,rfl,_⟩:=hR.cells k hkn
  have hna:=hne ad rfl (by omega)
  go_enter Tryz.func70,Tryz.ntmps70
  go_wp2_with fail
  refine wp_gen (fun W=>∃h',h'=lcgH h∧Blk W g 89 #[.slice (some ad) n c,.int .i64 (k:Int),.int .i64 h']∧Ob [g] w W) ⟨lcgH h,rfl,by simpa [lcgH]using hB.set_ 2 (.int .i64 (lcgH h)),(Ob.refl _ w).set (by simp) _ _⟩ ?_
  clear x0 x1 x2 f1 f2 hB
  rintro W ⟨h',hh,hB,hO⟩
  replace hh:=Lib.hid hh
  have hR:=hR.ob hne hO
  go_region_held3 (fun w'=>(w'.cell? ⟨g,0,none⟩=some (.slice (some ad) n c)∧w'.cell? ⟨g,1,none⟩=some (.int .i64 (k:Int))∧w'.cell? ⟨g,2,none⟩=some (.int .i64 h'))) (first|exact bx3 (T:=89) (hB.bl slc)) (fail)
  obtain⟨hx0,hx1⟩:=and255 (bits .xor .i64 (h' / 8589934592) (h' / 35184372088832))
  have hx:=Lib.hid (show lcgX h'=bits .and .i64 (bits .xor .i64 (h' / 8589934592) (h' / 35184372088832)) 255 from rfl)
  generalize bits .and .i64 (bits .xor .i64 (h' / 8589934592) (h' / 35184372088832)) 255=x at *
  go_wp2_with fail
  go_region_held3 (fun w'=>(w'.cell? ⟨g,0,none⟩=some (.slice (some ad) n c)∧w'.cell? ⟨g,1,none⟩=some (.int .i64 (k:Int))∧w'.cell? ⟨g,2,none⟩=some (.int .i64 h'))) (first|exact bx3 (T:=89) (hB.bl slc)) (fail)
  obtain⟨_,e,hlt2,hc,hb0,hb1⟩:=hR.cells k hkn
  cases e
  rw[Nat.mul_one]at hc
  have hy:=Lib.hid (show pix l ((k:Int)).toNat=pix l k from rfl)
  generalize pix l k=y at hc hb0 hb1 hy
  have hlt3:(ad.add k).block<W.heap.size:=by rw[block_add];exact hlt2
  go_wp2_with fail
  go_region_held3 (fun w'=>(w'.cell? ⟨g,0,none⟩=some (.slice (some ad) n c)∧w'.cell? ⟨g,1,none⟩=some (.int .i64 (k:Int))∧w'.cell? ⟨g,2,none⟩=some (.int .i64 h'))∧w'.cell? (ad.add k)=some (.int .u8 y)) (first|exact⟨bx3 (T:=89) (hB.bl slc),(Bl.cellOf (w:=W) (p:=ad.add k) slc hlt3).trans hc⟩) (fail)
  obtain⟨hz0,hz1⟩:=and255 (IntKind.i64.wrap (x+IntKind.i64.wrap y))
  have hz:=Lib.hid (show bits .and .i64 (IntKind.i64.wrap (x+IntKind.i64.wrap y)) 255=bits .and .i64 (IntKind.i64.wrap (x+IntKind.i64.wrap y)) 255 from rfl)
  generalize hzz:bits .and .i64 (IntKind.i64.wrap (x+IntKind.i64.wrap y)) 255=z at *
  replace hzz:=Lib.hid hzz
  obtain⟨x0,x1,x2⟩:=bx3 hB
  have f1:=hB.frozen 1
  go_wp2_with fail
  go_ret
  have hC2:CurX g (W.setCell ⟨g,1,none⟩ (.int .i64 ((k:Int)+1))) (some ad) n c l ((k:Int)+1,h'):=⟨by simpa using hB.set_ 1 (.int .i64 ((k:Int)+1)),by simp only;omega,by simp only;omega,hR.ob hne ((Ob.refl [g] W).set (by simp) _ _),hne⟩
  have hO2:=hO.set (g:=g) (by simp) 1 (.int .i64 ((k:Int)+1))
  have hv:=hv.out
  rw[if_pos (by rw[hln];exact hlt),←hh.out,hx.out,hy.out,hzz.out]at hv
  rw[hv]
  exact⟨rfl,hz0,hz1,hC2.bl slc,hO2.trans (Ob.of_bl slc _)⟩
 ·have hnlt:¬i<(n:Int):=hlt
  go_enter Tryz.func70,Tryz.ntmps70
  go_wp2_with fail
  refine wp_gen (fun W=>∃h',h'=lcgH h∧Blk W g 89 #[.slice A n c,.int .i64 i,.int .i64 h']∧Ob [g] w W) ⟨lcgH h,rfl,by simpa [lcgH]using hB.set_ 2 (.int .i64 (lcgH h)),(Ob.refl _ w).set (by simp) _ _⟩ ?_
  clear x0 x1 x2 f1 f2 hB
  rintro W ⟨h',hh,hB,hO⟩
  replace hh:=Lib.hid hh
  have hR:=hR.ob hne hO
  go_region_held3 (fun w'=>(w'.cell? ⟨g,0,none⟩=some (.slice A n c)∧w'.cell? ⟨g,1,none⟩=some (.int .i64 i)∧w'.cell? ⟨g,2,none⟩=some (.int .i64 h'))) (first|exact bx3 (T:=89) (hB.bl slc)) (fail)
  obtain⟨hx0,hx1⟩:=and255 (bits .xor .i64 (h' / 8589934592) (h' / 35184372088832))
  have hx:=Lib.hid (show lcgX h'=bits .and .i64 (bits .xor .i64 (h' / 8589934592) (h' / 35184372088832)) 255 from rfl)
  generalize bits .and .i64 (bits .xor .i64 (h' / 8589934592) (h' / 35184372088832)) 255=x at *
  go_wp2_with fail
  go_region_held3 (fun w'=>(w'.cell? ⟨g,0,none⟩=some (.slice A n c)∧w'.cell? ⟨g,1,none⟩=some (.int .i64 i)∧w'.cell? ⟨g,2,none⟩=some (.int .i64 h'))) (first|exact bx3 (T:=89) (hB.bl slc)) (fail)
  go_wp2_with fail
  go_ret
  have hv:=hv.out
  rw[if_neg (by rw[hln];omega),←hh.out,hx.out]at hv
  rw[hv]
  exact⟨rfl,hx0,hx1,(show CurX g W A n c l (i,h')from ⟨hB,hi0,hin,hR,hne⟩).bl slc,hO.trans (Ob.of_bl slc _)⟩
theorem l01Below_x (w:World) {g n c:Nat}{A:Option Addr}{l:List Int}{s:Int × Int}(m:Int) (hm0:0<m) (hm1:m≤256) (hC:CurX g w A n c l s) :
  Calls Tryz.prog 42 #[.pointer (some ⟨g,0,none⟩),.int .i64 m] w fun e w'=>e=.returned (.int .i64 (beF l s m).1)∧0≤(beF l s m).1∧(beF l s m).1<m∧CurX g w' A n c l (beF l s m).2∧Ob [g] w w':=by
 have hm2:¬m≤0:=by omega
 have hm3:¬m=0:=by omega
 go_enter Tryz.func42,Tryz.ntmps42
 go_wp2_with fail
 have hv:=Lib.hid (show beF l s m=((byF l s).1 % m,(byF l s).2)from rfl)
 refine(l01Byte_x _ hC).mono ?_
 rintro e w1 ⟨rfl,hx0,hx1,hC1,hO⟩
 generalize (byF l s).1=x at hv hx0 hx1 ⊢
 have ht:x.tmod m=x % m:=by rw[Int.tmod_eq_emod_of_nonneg hx0]
 have hx2:=Int.emod_nonneg x (show m≠0 by omega)
 have hx3:=Int.emod_lt_of_pos x hm0
 go_wp2_with fail
 go_ret
 rw[hv.out]
 exact⟨rfl,hx2,hx3,hC1,hO⟩
theorem l01New_x (w:World) {A:Option Addr}{n c:Nat}{l:List Int}(h:RdB w A n c l) :
  Calls Tryz.prog 21 #[.slice A n c] w fun e w'=>∃g,e=.returned (.pointer (some ⟨g,0,none⟩))∧w.heap.size≤g∧CurX g w' A n c l (nwS l)∧Bl w w':=by
 have hn:=h.small
 have hln:=Lib.hid h.len
 go_enter Tryz.func21,Tryz.ntmps21
 go_wp2_with fail
 go_loopw [3,4] (fun v i wr=>∃(k:Nat) (z:Int),k≤n∧k≤4000∧i=.int .i64 (k:Int)∧v=.int .i64 z∧Hid (z=hsTo l k)∧Bl w wr) (fun _ i _=>n-(intOf i).toNat)
 case atStart=>exact⟨0,_,Nat.zero_le _,Nat.zero_le _,rfl,rfl,Lib.hid (by rw[←hln.out];rfl),Bl.refl _⟩
 case round=>
  obtain⟨k,z,hk,hk4,rfl,rfl,hz,hbw⟩:=hrel
  by_cases hkn:k<n
  ·have hki:(k:Int)<(n:Int):=by omega
   by_cases hk5:k<4000
   ·have hki2:(k:Int)<4000:=by omega
    obtain⟨ad,rfl,hlt,hc,hb0,hb1⟩:=(RdB.bl h hbw).cells k hkn
    rw[Nat.mul_one]at hc
    have hs1:=Lib.hid (show hsTo l (k+1)=hsS z (pix l k)by rw[hz.out];rfl)
    unfold hsS at hs1
    clear hz
    go_wp2_with fail
    go_roundw
    case rel=>exact⟨k+1,_,by omega,by omega,by go_num,rfl,Lib.hid hs1.out.symm,slc⟩
    case measure=>simp[intOf];omega
   ·have hd1:decide ((k:Int)<4000)=false:=by simp;omega
    have hnw:=Lib.hid (show nwS l=(0,z)by unfold nwS;rw[hz.out,hln.out,show min n 4000=k by omega])
    go_wp2_with fail
    go_ret
    exact⟨wr.heap.size,rfl,hbw.size,⟨by rw[hnw.out];exact Blk.new _ _ _,by simp[nwS],by simp[nwS],RdB.bl h (hbw.alloc _),fun ad e hn0=>by subst e;obtain⟨_,e,hl,_⟩:=h.cells 0 hn0;cases e;have:=hbw.size;omega⟩,slc⟩
  ·have hd2:decide ((k:Int)<(n:Int))=false:=by simp;omega
   have hnw:=Lib.hid (show nwS l=(0,z)by unfold nwS;rw[hz.out,hln.out,show min n 4000=k by omega])
   go_wp2_with fail
   go_ret
   exact⟨wr.heap.size,rfl,hbw.size,⟨by rw[hnw.out];exact Blk.new _ _ _,by simp[nwS],by simp[nwS],RdB.bl h (hbw.alloc _),fun ad e hn0=>by subst e;obtain⟨_,e,hl,_⟩:=h.cells 0 hn0;cases e;have:=hbw.size;omega⟩,slc⟩
end
section
open Go.RowKit
theorem addR_ok (r s:RatD):addR r s=zR∨OkR (addR r s):=by
 unfold addR
 split
 ·rename_i h
  exact ofFrac_ok (Nat.mul_pos h.1.get.2.1 h.2.get.2.1)
 ·exact .inl rfl
theorem mulR_ok (r s:RatD):mulR r s=zR∨OkR (mulR r s):=by
 unfold mulR
 split
 ·rename_i h
  exact ofFrac_ok (Nat.mul_pos h.1.get.2.1 h.2.get.2.1)
 ·exact .inl rfl
theorem sAddPoints_any (w:World) {s:Bool}{A:Option Addr}{n c:Nat}{B:Option Addr}{m d:Nat}{t:Bool}{C:Option Addr}{i e:Nat}{D:Option Addr}{j f:Nat}{p:PtD}{s':Bool}{A':Option Addr}{n' c':Nat}{B':Option Addr}{m' d':Nat}{t':Bool}{C':Option Addr}{i' e':Nat}{D':Option Addr}{j' f':Nat}{p':PtD}(h:RdR w s A n c B m d p.x) (k:RdR w t C i e D j f p.y) (h':RdR w s' A' n' c' B' m' d' p'.x) (k':RdR w t' C' i' e' D' j' f' p'.y) :
  Calls Tryz.prog 114 #[.agg #[.bool s,.slice A n c,.slice B m d,.bool t,.slice C i e,.slice D j f],.agg #[.bool s',.slice A' n' c',.slice B' m' d',.bool t',.slice C' i' e',.slice D' j' f']] w fun en w'=>∃s1 A1 n1 c1 B1 m1 d1 t1 C1 i1 e1 D1 j1 f1,en=.returned (.agg #[.bool s1,.slice A1 n1 c1,.slice B1 m1 d1,.bool t1,.slice C1 i1 e1,.slice D1 j1 f1])∧OwP 3 w.heap.size w' s1 A1 n1 c1 B1 m1 d1 t1 C1 i1 e1 D1 j1 f1 (addP p p')∧Bl w w':=by
 go_enter Tryz.func114,Tryz.ntmps114
 go_wp2_with fail
 refine wp_gen (fun W=>Bl w W∧Blk W (w.heap.size) 56 #[.bool s,.slice A n c,.slice B m d,.bool t,.slice C i e,.slice D j f]∧Blk W (w.heap.size+1) 56 #[.bool s',.slice A' n' c',.slice B' m' d',.bool t',.slice C' i' e',.slice D' j' f']∧Wk 6 56 (w.heap.size+1+1) W) ⟨slc,bts,bts,bts⟩ ?_
 rintro W ⟨hbW,hx,hx',hr⟩
 go_region_held3 (fun w'=>(w'.cell? ⟨w.heap.size,0,none⟩=some (.bool s)∧w'.cell? ⟨w.heap.size,1,none⟩=some (.slice A n c)∧w'.cell? ⟨w.heap.size,2,none⟩=some (.slice B m d)∧w'.cell? ⟨w.heap.size,3,none⟩=some (.bool t)∧w'.cell? ⟨w.heap.size,4,none⟩=some (.slice C i e)∧w'.cell? ⟨w.heap.size,5,none⟩=some (.slice D j f))∧(w'.cell? ⟨w.heap.size+1,0,none⟩=some (.bool s')∧w'.cell? ⟨w.heap.size+1,1,none⟩=some (.slice A' n' c')∧w'.cell? ⟨w.heap.size+1,2,none⟩=some (.slice B' m' d')∧w'.cell? ⟨w.heap.size+1,3,none⟩=some (.bool t')∧w'.cell? ⟨w.heap.size+1,4,none⟩=some (.slice C' i' e')∧w'.cell? ⟨w.heap.size+1,5,none⟩=some (.slice D' j' f'))∧(w'.cell? ⟨w.heap.size+1+1,0,none⟩=some (cellD w' (w.heap.size+1+1) 0)∧w'.cell? ⟨w.heap.size+1+1,1,none⟩=some (cellD w' (w.heap.size+1+1) 1)∧w'.cell? ⟨w.heap.size+1+1,2,none⟩=some (cellD w' (w.heap.size+1+1) 2)∧w'.cell? ⟨w.heap.size+1+1,3,none⟩=some (cellD w' (w.heap.size+1+1) 3)∧w'.cell? ⟨w.heap.size+1+1,4,none⟩=some (cellD w' (w.heap.size+1+1) 4)∧w'.cell? ⟨w.heap.size+1+1,5,none⟩=some (cellD w' (w.heap.size+1+1) 5))∧w'.frozen? ⟨w.heap.size+1+1,0,none⟩=false∧w'.frozen? ⟨w.heap.size+1+1,1,none⟩=false∧w'.frozen? ⟨w.heap.size+1+1,2,none⟩=false∧w'.frozen? ⟨w.heap.size+1+1,3,none⟩=false∧w'.frozen? ⟨w.heap.size+1+1,4,none⟩=false∧w'.frozen? ⟨w.heap.size+1+1,5,none⟩=false) (first|exact⟨bx6 (T:=56) bts,bx6 (T:=56) bts,Wk.out6 (T:=56) bts⟩) (first |(go_at_call 145;with_reducible refine(sRatAdd_any _ (h.bl slc) (h'.bl slc)).mono ?_;rintro en w2 ⟨s2,A2,n2,c2,B2,m2,d2,rfl,hR2,hb2⟩) |(go_at_call 145;with_reducible refine(sRatAdd_any _ (k.bl slc) (k'.bl slc)).mono ?_;rintro en w3 ⟨s3,A3,n3,c3,B3,m3,d3,rfl,hR3,hb3⟩) |(go_at_call 142;refine(l05Valid_any (p:=⟨addR p.x p'.x,addR p.y p'.y⟩) _ (OwP.two hR2 hR3 hb3 (Bl.size hb2)) (Nat.le_trans (Bl.size hb2) (Bl.size hb3)) (addR_ok _ _) (addR_ok _ _)).mono ?_;rintro en w4 ⟨s1,A1,n1,c1,B1,m1,d1,t1,C1,i1,e1,D1,j1,f1,rfl,hX,hb4⟩))
 have hz:w.heap.size+1+1+1≤W.heap.size:=hr.lt
 have hr:=(show Wk 6 56 (w.heap.size+1+1) w4 from bts)
 have hbW:Bl w w4:=slc
 have hX:=hX.low (show w.heap.size+1+1+1≤W.drew.heap.size from hz)
 obtain⟨v0,x0⟩:=hr.val_ (i:=0) (by omega)
 obtain⟨v1,x1⟩:=hr.val_ (i:=1) (by omega)
 obtain⟨v2,x2⟩:=hr.val_ (i:=2) (by omega)
 obtain⟨v3,x3⟩:=hr.val_ (i:=3) (by omega)
 obtain⟨v4,x4⟩:=hr.val_ (i:=4) (by omega)
 obtain⟨v5,x5⟩:=hr.val_ (i:=5) (by omega)
 have hg:=hr.lt
 obtain⟨cs4,hB4,hc4⟩:=hr
 have hf0:=hB4.frozen 0
 have hf1:=hB4.frozen 1
 have hf2:=hB4.frozen 2
 have hf3:=hB4.frozen 3
 have hf4:=hB4.frozen 4
 have hf5:=hB4.frozen 5
 go_wp2_with fail
 exact bodyPost_ret (v:=.agg #[.bool s1,.slice A1 n1 c1,.slice B1 m1 d1,.bool t1,.slice C1 i1 e1,.slice D1 j1 f1]) (by simp[results,Tryz.results114,go_sem,x0,x1,x2,x3,x4,x5]) rfl ⟨_,_,_,_,_,_,_,_,_,_,_,_,_,_,rfl,((((((hX.far (by simp) _).far (by simp) _).far (by simp) _).far (by simp) _).far (by simp) _).far (by simp) _).low (by omega),slc⟩
theorem sScalePoint_any (w:World) {s:Bool}{A:Option Addr}{n c:Nat}{B:Option Addr}{m d:Nat}{r:RatD}{s':Bool}{A':Option Addr}{n' c':Nat}{B':Option Addr}{m' d':Nat}{t':Bool}{C':Option Addr}{i' e':Nat}{D':Option Addr}{j' f':Nat}{p':PtD}(h:RdR w s A n c B m d r) (h':RdR w s' A' n' c' B' m' d' p'.x) (k':RdR w t' C' i' e' D' j' f' p'.y) :
  Calls Tryz.prog 112 #[.agg #[.bool s,.slice A n c,.slice B m d],.agg #[.bool s',.slice A' n' c',.slice B' m' d',.bool t',.slice C' i' e',.slice D' j' f']] w fun en w'=>∃s1 A1 n1 c1 B1 m1 d1 t1 C1 i1 e1 D1 j1 f1,en=.returned (.agg #[.bool s1,.slice A1 n1 c1,.slice B1 m1 d1,.bool t1,.slice C1 i1 e1,.slice D1 j1 f1])∧OwP 3 w.heap.size w' s1 A1 n1 c1 B1 m1 d1 t1 C1 i1 e1 D1 j1 f1 (sclP r p')∧Bl w w':=by
 go_enter Tryz.func112,Tryz.ntmps112
 go_wp2_with fail
 refine wp_gen (fun W=>Bl w W∧Blk W (w.heap.size) 54 #[.bool s,.slice A n c,.slice B m d]∧Blk W (w.heap.size+1) 56 #[.bool s',.slice A' n' c',.slice B' m' d',.bool t',.slice C' i' e',.slice D' j' f']∧Wk 6 56 (w.heap.size+1+1) W) ⟨slc,bts,bts,bts⟩ ?_
 rintro W ⟨hbW,hx,hx',hr⟩
 go_region_held3 (fun w'=>(w'.cell? ⟨w.heap.size,0,none⟩=some (.bool s)∧w'.cell? ⟨w.heap.size,1,none⟩=some (.slice A n c)∧w'.cell? ⟨w.heap.size,2,none⟩=some (.slice B m d))∧(w'.cell? ⟨w.heap.size+1,0,none⟩=some (.bool s')∧w'.cell? ⟨w.heap.size+1,1,none⟩=some (.slice A' n' c')∧w'.cell? ⟨w.heap.size+1,2,none⟩=some (.slice B' m' d')∧w'.cell? ⟨w.heap.size+1,3,none⟩=some (.bool t')∧w'.cell? ⟨w.heap.size+1,4,none⟩=some (.slice C' i' e')∧w'.cell? ⟨w.heap.size+1,5,none⟩=some (.slice D' j' f'))∧(w'.cell? ⟨w.heap.size+1+1,0,none⟩=some (cellD w' (w.heap.size+1+1) 0)∧w'.cell? ⟨w.heap.size+1+1,1,none⟩=some (cellD w' (w.heap.size+1+1) 1)∧w'.cell? ⟨w.heap.size+1+1,2,none⟩=some (cellD w' (w.heap.size+1+1) 2)∧w'.cell? ⟨w.heap.size+1+1,3,none⟩=some (cellD w' (w.heap.size+1+1) 3)∧w'.cell? ⟨w.heap.size+1+1,4,none⟩=some (cellD w' (w.heap.size+1+1) 4)∧w'.cell? ⟨w.heap.size+1+1,5,none⟩=some (cellD w' (w.heap.size+1+1) 5))∧w'.frozen? ⟨w.heap.size+1+1,0,none⟩=false∧w'.frozen? ⟨w.heap.size+1+1,1,none⟩=false∧w'.frozen? ⟨w.heap.size+1+1,2,none⟩=false∧w'.frozen? ⟨w.heap.size+1+1,3,none⟩=false∧w'.frozen? ⟨w.heap.size+1+1,4,none⟩=false∧w'.frozen? ⟨w.heap.size+1+1,5,none⟩=false) (first|exact⟨bx3 (T:=54) bts,bx6 (T:=56) bts,Wk.out6 (T:=56) bts⟩) (first |(go_at_call 143;with_reducible refine(sRatMul_any _ (h.bl slc) (h'.bl slc)).mono ?_;rintro en w2 ⟨s2,A2,n2,c2,B2,m2,d2,rfl,hR2,hb2⟩) |(go_at_call 143;with_reducible refine(sRatMul_any _ (h.bl slc) (k'.bl slc)).mono ?_;rintro en w3 ⟨s3,A3,n3,c3,B3,m3,d3,rfl,hR3,hb3⟩) |(go_at_call 142;refine(l05Valid_any (p:=⟨mulR r p'.x,mulR r p'.y⟩) _ (OwP.two hR2 hR3 hb3 (Bl.size hb2)) (Nat.le_trans (Bl.size hb2) (Bl.size hb3)) (mulR_ok _ _) (mulR_ok _ _)).mono ?_;rintro en w4 ⟨s1,A1,n1,c1,B1,m1,d1,t1,C1,i1,e1,D1,j1,f1,rfl,hX,hb4⟩))
 have hz:w.heap.size+1+1+1≤W.heap.size:=hr.lt
 have hr:=(show Wk 6 56 (w.heap.size+1+1) w4 from bts)
 have hbW:Bl w w4:=slc
 have hX:=hX.low (show w.heap.size+1+1+1≤W.drew.heap.size from hz)
 obtain⟨v0,x0⟩:=hr.val_ (i:=0) (by omega)
 obtain⟨v1,x1⟩:=hr.val_ (i:=1) (by omega)
 obtain⟨v2,x2⟩:=hr.val_ (i:=2) (by omega)
 obtain⟨v3,x3⟩:=hr.val_ (i:=3) (by omega)
 obtain⟨v4,x4⟩:=hr.val_ (i:=4) (by omega)
 obtain⟨v5,x5⟩:=hr.val_ (i:=5) (by omega)
 have hg:=hr.lt
 obtain⟨cs4,hB4,hc4⟩:=hr
 have hf0:=hB4.frozen 0
 have hf1:=hB4.frozen 1
 have hf2:=hB4.frozen 2
 have hf3:=hB4.frozen 3
 have hf4:=hB4.frozen 4
 have hf5:=hB4.frozen 5
 go_wp2_with fail
 exact bodyPost_ret (v:=.agg #[.bool s1,.slice A1 n1 c1,.slice B1 m1 d1,.bool t1,.slice C1 i1 e1,.slice D1 j1 f1]) (by simp[results,Tryz.results112,go_sem,x0,x1,x2,x3,x4,x5]) rfl ⟨_,_,_,_,_,_,_,_,_,_,_,_,_,_,rfl,((((((hX.far (by simp) _).far (by simp) _).far (by simp) _).far (by simp) _).far (by simp) _).far (by simp) _).low (by omega),slc⟩
theorem sMiddle_any (w:World) {s:Bool}{A:Option Addr}{n c:Nat}{B:Option Addr}{m d:Nat}{t:Bool}{C:Option Addr}{i e:Nat}{D:Option Addr}{j f:Nat}{p:PtD}{s':Bool}{A':Option Addr}{n' c':Nat}{B':Option Addr}{m' d':Nat}{t':Bool}{C':Option Addr}{i' e':Nat}{D':Option Addr}{j' f':Nat}{p':PtD}(h:RdR w s A n c B m d p.x) (k:RdR w t C i e D j f p.y) (h':RdR w s' A' n' c' B' m' d' p'.x) (k':RdR w t' C' i' e' D' j' f' p'.y) :
  Calls Tryz.prog 82 #[.agg #[.bool s,.slice A n c,.slice B m d,.bool t,.slice C i e,.slice D j f],.agg #[.bool s',.slice A' n' c',.slice B' m' d',.bool t',.slice C' i' e',.slice D' j' f']] w fun en w'=>∃s1 A1 n1 c1 B1 m1 d1 t1 C1 i1 e1 D1 j1 f1,en=.returned (.agg #[.bool s1,.slice A1 n1 c1,.slice B1 m1 d1,.bool t1,.slice C1 i1 e1,.slice D1 j1 f1])∧OwP 3 w.heap.size w' s1 A1 n1 c1 B1 m1 d1 t1 C1 i1 e1 D1 j1 f1 (midP p p')∧Bl w w':=by
 go_enter Tryz.func82,Tryz.ntmps82
 go_wp2_with fail
 refine wp_gen (fun W=>Bl w W∧Blk W (w.heap.size) 56 #[.bool s,.slice A n c,.slice B m d,.bool t,.slice C i e,.slice D j f]∧Blk W (w.heap.size+1) 56 #[.bool s',.slice A' n' c',.slice B' m' d',.bool t',.slice C' i' e',.slice D' j' f']∧Wk 6 56 (w.heap.size+1+1) W) ⟨slc,bts,bts,bts⟩ ?_
 rintro W ⟨hbW,hx,hx',hr⟩
 go_region_held3 (fun w'=>(w'.cell? ⟨w.heap.size,0,none⟩=some (.bool s)∧w'.cell? ⟨w.heap.size,1,none⟩=some (.slice A n c)∧w'.cell? ⟨w.heap.size,2,none⟩=some (.slice B m d)∧w'.cell? ⟨w.heap.size,3,none⟩=some (.bool t)∧w'.cell? ⟨w.heap.size,4,none⟩=some (.slice C i e)∧w'.cell? ⟨w.heap.size,5,none⟩=some (.slice D j f))∧(w'.cell? ⟨w.heap.size+1,0,none⟩=some (.bool s')∧w'.cell? ⟨w.heap.size+1,1,none⟩=some (.slice A' n' c')∧w'.cell? ⟨w.heap.size+1,2,none⟩=some (.slice B' m' d')∧w'.cell? ⟨w.heap.size+1,3,none⟩=some (.bool t')∧w'.cell? ⟨w.heap.size+1,4,none⟩=some (.slice C' i' e')∧w'.cell? ⟨w.heap.size+1,5,none⟩=some (.slice D' j' f'))∧(w'.cell? ⟨w.heap.size+1+1,0,none⟩=some (cellD w' (w.heap.size+1+1) 0)∧w'.cell? ⟨w.heap.size+1+1,1,none⟩=some (cellD w' (w.heap.size+1+1) 1)∧w'.cell? ⟨w.heap.size+1+1,2,none⟩=some (cellD w' (w.heap.size+1+1) 2)∧w'.cell? ⟨w.heap.size+1+1,3,none⟩=some (cellD w' (w.heap.size+1+1) 3)∧w'.cell? ⟨w.heap.size+1+1,4,none⟩=some (cellD w' (w.heap.size+1+1) 4)∧w'.cell? ⟨w.heap.size+1+1,5,none⟩=some (cellD w' (w.heap.size+1+1) 5))∧w'.frozen? ⟨w.heap.size+1+1,0,none⟩=false∧w'.frozen? ⟨w.heap.size+1+1,1,none⟩=false∧w'.frozen? ⟨w.heap.size+1+1,2,none⟩=false∧w'.frozen? ⟨w.heap.size+1+1,3,none⟩=false∧w'.frozen? ⟨w.heap.size+1+1,4,none⟩=false∧w'.frozen? ⟨w.heap.size+1+1,5,none⟩=false) (first|exact⟨bx6 (T:=56) bts,bx6 (T:=56) bts,Wk.out6 (T:=56) bts⟩) (first |(go_at_call 113;with_reducible refine(sRatOf_any _ 1 2 (by omega) (by omega) (by omega) (by omega)).mono ?_;rintro en w2 ⟨s2,A2,n2,c2,B2,m2,d2,rfl,hR2,hb2⟩) |(go_at_call 114;with_reducible refine(sAddPoints_any _ (h.bl slc) (k.bl slc) (h'.bl slc) (k'.bl slc)).mono ?_;rintro en w3 ⟨s3,A3,n3,c3,B3,m3,d3,t3,C3,i3,e3,D3,j3,f3,rfl,hP3,hb3⟩) |(go_at_call 112;refine(sScalePoint_any _ (hR2.rd.bl slc) (hP3.rx.bl slc) (hP3.ry.bl slc)).mono ?_;rintro en w4 ⟨s1,A1,n1,c1,B1,m1,d1,t1,C1,i1,e1,D1,j1,f1,rfl,hX,hb4⟩;replace hX:=hX.low (show W.drew.heap.size≤_ from Bl.size (by exact slc))))
 have hz:w.heap.size+1+1+1≤W.heap.size:=hr.lt
 have hr:=(show Wk 6 56 (w.heap.size+1+1) w4 from bts)
 have hbW:Bl w w4:=slc
 have hX:=hX.low (show w.heap.size+1+1+1≤W.drew.heap.size from hz)
 obtain⟨v0,x0⟩:=hr.val_ (i:=0) (by omega)
 obtain⟨v1,x1⟩:=hr.val_ (i:=1) (by omega)
 obtain⟨v2,x2⟩:=hr.val_ (i:=2) (by omega)
 obtain⟨v3,x3⟩:=hr.val_ (i:=3) (by omega)
 obtain⟨v4,x4⟩:=hr.val_ (i:=4) (by omega)
 obtain⟨v5,x5⟩:=hr.val_ (i:=5) (by omega)
 have hg:=hr.lt
 obtain⟨cs4,hB4,hc4⟩:=hr
 have hf0:=hB4.frozen 0
 have hf1:=hB4.frozen 1
 have hf2:=hB4.frozen 2
 have hf3:=hB4.frozen 3
 have hf4:=hB4.frozen 4
 have hf5:=hB4.frozen 5
 go_wp2_with fail
 exact bodyPost_ret (v:=.agg #[.bool s1,.slice A1 n1 c1,.slice B1 m1 d1,.bool t1,.slice C1 i1 e1,.slice D1 j1 f1]) (by simp[results,Tryz.results82,go_sem,x0,x1,x2,x3,x4,x5]) rfl ⟨_,_,_,_,_,_,_,_,_,_,_,_,_,_,rfl,((((((hX.far (by simp) _).far (by simp) _).far (by simp) _).far (by simp) _).far (by simp) _).far (by simp) _).low (by omega),slc⟩
end
section
open Go.RowKit
def FrPS (lo:Nat) (w:World) (A:Option Addr) (n c:Nat) (l:List PtD):Prop :=
 (n=0∨∃g,A=some ⟨g,0,none⟩∧lo≤g∧g<w.heap.size)∧∀W:World,w.heap.size≤W.heap.size→(∀b,lo≤b→b<w.heap.size→W.heap[b]?=w.heap[b]?)→RdPS W A n c l
section
variable {lo lo':Nat}{w W:World}{A:Option Addr}{n c:Nat}{l:List PtD}
theorem FrPS.rd (h:FrPS lo w A n c l):RdPS w A n c l:=h.2 w (Nat.le_refl _) fun _ _ _=>rfl
theorem FrPS.nil (lo:Nat) (w:World) (A:Option Addr) (c:Nat):FrPS lo w A 0 c []:=⟨.inl rfl,fun _ _ _=>RdS.nil _ _ _⟩
theorem FrPS.low (h:FrPS lo w A n c l) (h1:lo'≤lo):FrPS lo' w A n c l:=by
 refine⟨?_,fun W hs hb=>h.2 W hs fun b h2 h3=>hb b (by omega) h3⟩
 rcases h.1 with h0 |⟨g,e,h2,h3⟩
 ·exact .inl h0
 ·exact .inr ⟨g,e,by omega,h3⟩
theorem FrPS.bl (h:FrPS lo w A n c l) (hb:Bl w W):FrPS lo W A n c l:=by
 have hz:=hb.size
 refine⟨?_,fun X hs hk=>h.2 X (by omega) fun b h2 h3=>(hk b h2 (by omega)).trans (Below.block hb b h3)⟩
 rcases h.1 with h0 |⟨g,e,h2,h3⟩
 ·exact .inl h0
 ·exact .inr ⟨g,e,h2,by omega⟩
theorem FrPS.of_row {N:List Nat→Prop}{hi:Nat}{v:Value}(h:RowP N lo hi w v l) (hl:l.length≤1048576):∃A c,v=.slice A l.length c∧FrPS lo w A l.length c l:=by
 obtain⟨A,c,hv,hr⟩:=RowP.rd h hl
 subst hv
 refine⟨A,c,rfl,?_,fun W hs hb=>?_⟩
 ·rcases RowP.out h with ⟨e,h0⟩ |⟨g,c',cs,fs,e,h1,h2,h3,h4,h5,_⟩
  ·exact .inl (by rw[h0];rfl)
  ·injection e with e1 e2 e3
   have hg:=h5 g (by simp)
   exact .inr ⟨g,e1,hg.1,h2.lt⟩
 ·obtain⟨A',c',e,h'⟩:=RowP.rd (RowG.keep (ptIn_keep 3) h hs fun b h1 h2=>hb b h1 (Nat.lt_of_lt_of_le h2 (RowG.hiLe h))) hl
  injection e with e1 e2 e3
  subst e1 e3
  exact h'
end
theorem sCorners_fr (w:World) {A:Option Addr}{n c:Nat}{B:Option Addr}{m d:Nat}{x:MeD}(k:Int) (h:RdPS w A n c x.points) (ht:RdTS w B m d x.tris) (hsz:szL szP x.points≤1048576) :
  Calls Tryz.prog 116 #[.agg #[.slice A n c,.slice B m d],.int .i64 k] w fun e w'=>∃A1 n1 c1,e=.returned (.slice A1 n1 c1)∧FrPS w.heap.size w' A1 n1 c1 (cornL x k)∧Bl w w':=by
 have hn:=h.small
 have hm:=ht.small
 go_enter Tryz.func116,Tryz.ntmps116
 go_wp2_with fail
 refine(l01In_any _ _ _ _).mono ?_
 by_cases hin:0≤k∧k≤(m:Int)-1
 ·skip
  rw[decide_eq_true hin.1,decide_eq_true hin.2]
  rintro e w1 ⟨rfl,hq1⟩
  have hb1:Bl (w.alloc (.cells #[.slice A n c,.slice B m d] 26)) w1:=by obtain⟨q1,rfl⟩:=hq1;exact(Bl.refl _).drewN q1
  clear hq1
  obtain⟨kk,rfl⟩:=Int.eq_ofNat_of_zero_le hin.1
  have hkk:kk<m:=by omega
  have hkk2:(kk:Int)<(m:Int):=by omega
  clear hin
  have hx0:Blk w1 w.heap.size 26 #[.slice A n c,.slice B m d]:=bts
  have hbc:Bl w w1:=slc
  have hgw:w.heap.size<w1.heap.size:=hx0.lt
  go_upto_region 4 with (fail)
  refine wp_gen (fun W=>RowP AnyN w1.heap.size (w1.heap.size+1) W (.slice (some ⟨w1.heap.size,0,none⟩) 0 0) []∧Bl w1 W) ⟨RowG.empty appN_any w1 (Nat.le_refl _),slc⟩ ?_
  rintro W ⟨hrow0,hbW⟩
  have hx1:=hx0.bl hbW
  have hgW:=RowG.hiLe hrow0
  obtain⟨i0,i1⟩:=bx2 hx1
  obtain⟨ad,eB,hlt,hat⟩:=(RdTS.bl ht (hbc.next hbW)).cells kk hkk
  subst eB
  obtain⟨ta,hta⟩:∃y,y=(pix x.tris kk).a:=⟨_,rfl⟩
  obtain⟨tb,htb⟩:∃y,y=(pix x.tris kk).b:=⟨_,rfl⟩
  obtain⟨tc,htc⟩:∃y,y=(pix x.tris kk).c:=⟨_,rfl⟩
  obtain⟨tr,htr⟩:∃y,y=(pix x.tris kk).region:=⟨_,rfl⟩
  obtain⟨tv,htv⟩:∃y,y=(pix x.tris kk).level:=⟨_,rfl⟩
  have hst:Hid (pix x.tris kk=⟨ta,tb,tc,tr,tv⟩):=by rw[hta,htb,htc,htr,htv];exact rfl
  obtain⟨f0,f1,f2,f3,f4⟩:=hat
  rw[←hta]at f0
  rw[←htb]at f1
  rw[←htc]at f2
  rw[←htr]at f3
  rw[←htv]at f4
  clear hta htb htc htr htv hb1 hx1
  go_wp2_with fail
  refine(l07Tri_any _ ta tb tc tr tv).mono ?_
  rintro e w2 ⟨gq,rfl,hgq,hq0,hb2⟩
  clear f0 f1 f2 f3 f4 i0 i1 hlt
  go_wp2_with fail
  go_loopw [5,23] (fun v i wr=>∃(k hi:Nat),k≤3∧i=.int .i64 (k:Int)∧RowP AnyN w1.heap.size hi wr v (cornTo x.points ⟨ta,tb,tc,tr,tv⟩ k)∧OkIx n ⟨ta,tb,tc,tr,tv⟩ k∧Bl w1 wr∧w1.heap.size≤hi∧Blk wr gq 3 #[.int .i64 ta,.int .i64 tb,.int .i64 tc]∧v.ownBlock≠some gq) (fun _ i _=>3-(intOf i).toNat)
  case atStart=>exact⟨0,w1.heap.size+1,by omega,rfl,RowG.bl (ptIn_keep 3) hrow0 hb2,fun j hj=>by omega,hbW.next hb2,by omega,hq0,fun e=>by injection e with e;simp only at e;omega⟩
  case round=>
   clear hb2 hrow0 hgW hbW hq0 hgq
   obtain⟨k,hi,hk,rfl,hrow,hok,hbw,hlh,hq,hvq⟩:=hrel
   rcases(show k=0∨k=1∨k=2∨k=3 by omega)with rfl|rfl|rfl|rfl
   ·skip
    have e0:((0:Nat):Int)=0:=rfl
    rw[e0]
    clear e0 hk
    have hw:IntKind.i64.wrap 1=1:=by rfl
    have hhi0:=RowG.hiLe hrow
    have hzo:=Bl.size hbw
    have hx:=hx0.bl hbw
    obtain⟨i0,i1⟩:=bx2 hx
    obtain⟨y0,y1,y2⟩:=bx3 hq
    go_wp2_with fail
    refine(l01In_any _ _ _ _).mono ?_
    by_cases hin:0≤ta∧ta≤(n:Int)-1
    ·skip
     rw[decide_eq_true hin.1,decide_eq_true hin.2]
     rintro e w2 ⟨rfl,hq2⟩
     have hb2:Bl wr w2:=by obtain⟨q2,rfl⟩:=hq2;exact slc
     clear hq2
     have hok':OkIx n ⟨ta,tb,tc,tr,tv⟩ 1:=hok.step hin
     clear hok
     obtain⟨ka,rfl⟩:=Int.eq_ofNat_of_zero_le hin.1
     have hka:ka<n:=by omega
     clear hin
     have hok':=Lib.hid hok';rename_i h_;clear h_
     have hka2:(ka:Int)<(n:Int):=by omega
     have hX2:=hx.bl hb2
     have hrow2:=RowG.bl (ptIn_keep 3) hrow hb2
     clear hx hrow i0 i1
     obtain⟨i0,i1⟩:=bx2 hX2
     obtain⟨ad,eA,hlt,hat⟩:=(RdPS.bl h ((hbc.next hbw).next hb2)).cells ka hka
     have hpz:=szL_at szP x.points (k:=ka) (by rw[h.len];exact hka)
     have hcs:=Lib.hid (cornTo_succ x.points ⟨(ka:Int),tb,tc,tr,tv⟩ 0)
     have hcs2:pix x.points (triIx ⟨(ka:Int),tb,tc,tr,tv⟩ 0).toNat=pix x.points ka:=rfl
     rw[hcs2]at hcs
     clear hcs2
     generalize pix x.points ka=pk at hcs hat hpz
     subst eA
     obtain⟨s2,A2,n2,c2,B2,m2,d2,t2,C2,i2,e2,D2,j2,f2,⟨g0,g1,g2,g3,g4,g5⟩,hX,hY⟩:=hat
     have l1:=Lib.hid hX.mag.len;have l2:=Lib.hid hX.den.len;have l3:=Lib.hid hY.mag.len;have l4:=Lib.hid hY.den.len
     have hsm:n2≤1048576∧m2≤1048576∧i2≤1048576∧j2≤1048576:=by
      have a1:=l1.out;have a2:=l2.out;have a3:=l3.out;have a4:=l4.out
      simp only[szP,szR]at hpz
      omega
     clear hpz
     go_wp2_with fail
     refine(l05Copy_any _ hX hY hsm.1 hsm.2.1 hsm.2.2.1 hsm.2.2.2).mono ?_
     rintro e w3 ⟨s1,A1,n1,c1,B1,m1,d1,t1,C1,i1',e1,D1,j1,f1,rfl,hP,hb3⟩
     have hrow3:=RowG.bl (ptIn_keep 3) hrow2 hb3
     have hq3:=(hq.bl hb2).bl hb3
     have hb4:=(hbw.next hb2).next hb3
     have hhi3:hi≤w2.heap.size:=Nat.le_trans hhi0 (Bl.size hb2)
     skip
     clear hrow2 hX2
     go_wp2_with ((refine wpList_append_ptX appN_any rfl (.tmp 34) (.tmp 41) rfl _ (by rfl) hrow3 hP hhi3 hlh 1 (by rfl) (by rw[cornTo_len];omega) w1 hb4 (Nat.le_refl _) ?_;intro v' w8 hrow' hb8' hoth;clear hrow3 hP))
     have hz8:=hb8'.size
     rw[←hcs.out]at hrow'
     have hq8:=hq3.past2 hoth hvq
     go_roundw
     case rel=>exact⟨1,_,by omega,rfl,hrow',hok'.out,hb8',hz8,hq8.1,hq8.2⟩
     case measure=>simp[intOf]
    ·skip
     have hnb:(decide (0≤ta) && decide (ta≤(n:Int) - 1))=false:=by
      rw[Bool.and_eq_false_iff]
      rcases Decidable.not_and_iff_or_not.1 hin with h'|h'
      ·exact .inl (decide_eq_false h')
      ·exact .inr (decide_eq_false h')
     rw[hnb]
     clear hnb
     rintro e w2 ⟨rfl,hq2⟩
     have hb2:Bl wr w2:=by obtain⟨q2,rfl⟩:=hq2;exact slc
     clear hq2
     have hv:=Lib.hid <| show cornL x ((kk:Nat):Int)=[]from if_neg fun ha=>hin (by have this:0≤triIx (pix x.tris kk) 0∧triIx (pix x.tris kk) 0≤(x.points.length:Int)-1:=ha.2 0 (by omega);rw[hst.out,h.len]at this;exact this)
     replace hin:=Lib.hid hin
     clear hok
     go_wp2_with fail
     go_ret
     rw[hv.out]
     exact⟨_,_,_,rfl,FrPS.nil _ _ _ _,(hbc.next hbw).next hb2⟩
   ·skip
    have e0:((1:Nat):Int)=1:=rfl
    rw[e0]
    clear e0 hk
    have hw:IntKind.i64.wrap 2=2:=by rfl
    have hhi0:=RowG.hiLe hrow
    have hzo:=Bl.size hbw
    have hx:=hx0.bl hbw
    obtain⟨i0,i1⟩:=bx2 hx
    obtain⟨y0,y1,y2⟩:=bx3 hq
    go_wp2_with fail
    refine(l01In_any _ _ _ _).mono ?_
    by_cases hin:0≤tb∧tb≤(n:Int)-1
    ·skip
     rw[decide_eq_true hin.1,decide_eq_true hin.2]
     rintro e w2 ⟨rfl,hq2⟩
     have hb2:Bl wr w2:=by obtain⟨q2,rfl⟩:=hq2;exact slc
     clear hq2
     have hok':OkIx n ⟨ta,tb,tc,tr,tv⟩ 2:=hok.step hin
     clear hok
     obtain⟨ka,rfl⟩:=Int.eq_ofNat_of_zero_le hin.1
     have hka:ka<n:=by omega
     clear hin
     have hok':=Lib.hid hok';rename_i h_;clear h_
     have hka2:(ka:Int)<(n:Int):=by omega
     have hX2:=hx.bl hb2
     have hrow2:=RowG.bl (ptIn_keep 3) hrow hb2
     clear hx hrow i0 i1
     obtain⟨i0,i1⟩:=bx2 hX2
     obtain⟨ad,eA,hlt,hat⟩:=(RdPS.bl h ((hbc.next hbw).next hb2)).cells ka hka
     have hpz:=szL_at szP x.points (k:=ka) (by rw[h.len];exact hka)
     have hcs:=Lib.hid (cornTo_succ x.points ⟨ta,(ka:Int),tc,tr,tv⟩ 1)
     have hcs2:pix x.points (triIx ⟨ta,(ka:Int),tc,tr,tv⟩ 1).toNat=pix x.points ka:=rfl
     rw[hcs2]at hcs
     clear hcs2
     generalize pix x.points ka=pk at hcs hat hpz
     subst eA
     obtain⟨s2,A2,n2,c2,B2,m2,d2,t2,C2,i2,e2,D2,j2,f2,⟨g0,g1,g2,g3,g4,g5⟩,hX,hY⟩:=hat
     have l1:=Lib.hid hX.mag.len;have l2:=Lib.hid hX.den.len;have l3:=Lib.hid hY.mag.len;have l4:=Lib.hid hY.den.len
     have hsm:n2≤1048576∧m2≤1048576∧i2≤1048576∧j2≤1048576:=by
      have a1:=l1.out;have a2:=l2.out;have a3:=l3.out;have a4:=l4.out
      simp only[szP,szR]at hpz
      omega
     clear hpz
     go_wp2_with fail
     refine(l05Copy_any _ hX hY hsm.1 hsm.2.1 hsm.2.2.1 hsm.2.2.2).mono ?_
     rintro e w3 ⟨s1,A1,n1,c1,B1,m1,d1,t1,C1,i1',e1,D1,j1,f1,rfl,hP,hb3⟩
     have hrow3:=RowG.bl (ptIn_keep 3) hrow2 hb3
     have hq3:=(hq.bl hb2).bl hb3
     have hb4:=(hbw.next hb2).next hb3
     have hhi3:hi≤w2.heap.size:=Nat.le_trans hhi0 (Bl.size hb2)
     skip
     clear hrow2 hX2
     go_wp2_with ((refine wpList_append_ptX appN_any rfl (.tmp 34) (.tmp 41) rfl _ (by rfl) hrow3 hP hhi3 hlh 1 (by rfl) (by rw[cornTo_len];omega) w1 hb4 (Nat.le_refl _) ?_;intro v' w8 hrow' hb8' hoth;clear hrow3 hP))
     have hz8:=hb8'.size
     rw[←hcs.out]at hrow'
     have hq8:=hq3.past2 hoth hvq
     go_roundw
     case rel=>exact⟨2,_,by omega,rfl,hrow',hok'.out,hb8',hz8,hq8.1,hq8.2⟩
     case measure=>simp[intOf]
    ·skip
     have hnb:(decide (0≤tb) && decide (tb≤(n:Int) - 1))=false:=by
      rw[Bool.and_eq_false_iff]
      rcases Decidable.not_and_iff_or_not.1 hin with h'|h'
      ·exact .inl (decide_eq_false h')
      ·exact .inr (decide_eq_false h')
     rw[hnb]
     clear hnb
     rintro e w2 ⟨rfl,hq2⟩
     have hb2:Bl wr w2:=by obtain⟨q2,rfl⟩:=hq2;exact slc
     clear hq2
     have hv:=Lib.hid <| show cornL x ((kk:Nat):Int)=[]from if_neg fun ha=>hin (by have this:0≤triIx (pix x.tris kk) 1∧triIx (pix x.tris kk) 1≤(x.points.length:Int)-1:=ha.2 1 (by omega);rw[hst.out,h.len]at this;exact this)
     replace hin:=Lib.hid hin
     clear hok
     go_wp2_with fail
     go_ret
     rw[hv.out]
     exact⟨_,_,_,rfl,FrPS.nil _ _ _ _,(hbc.next hbw).next hb2⟩
   ·skip
    have e0:((2:Nat):Int)=2:=rfl
    rw[e0]
    clear e0 hk
    have hw:IntKind.i64.wrap 3=3:=by rfl
    have hhi0:=RowG.hiLe hrow
    have hzo:=Bl.size hbw
    have hx:=hx0.bl hbw
    obtain⟨i0,i1⟩:=bx2 hx
    obtain⟨y0,y1,y2⟩:=bx3 hq
    go_wp2_with fail
    refine(l01In_any _ _ _ _).mono ?_
    by_cases hin:0≤tc∧tc≤(n:Int)-1
    ·skip
     rw[decide_eq_true hin.1,decide_eq_true hin.2]
     rintro e w2 ⟨rfl,hq2⟩
     have hb2:Bl wr w2:=by obtain⟨q2,rfl⟩:=hq2;exact slc
     clear hq2
     have hok':OkIx n ⟨ta,tb,tc,tr,tv⟩ 3:=hok.step hin
     clear hok
     obtain⟨ka,rfl⟩:=Int.eq_ofNat_of_zero_le hin.1
     have hka:ka<n:=by omega
     clear hin
     have hok':=Lib.hid hok';rename_i h_;clear h_
     have hka2:(ka:Int)<(n:Int):=by omega
     have hX2:=hx.bl hb2
     have hrow2:=RowG.bl (ptIn_keep 3) hrow hb2
     clear hx hrow i0 i1
     obtain⟨i0,i1⟩:=bx2 hX2
     obtain⟨ad,eA,hlt,hat⟩:=(RdPS.bl h ((hbc.next hbw).next hb2)).cells ka hka
     have hpz:=szL_at szP x.points (k:=ka) (by rw[h.len];exact hka)
     have hcs:=Lib.hid (cornTo_succ x.points ⟨ta,tb,(ka:Int),tr,tv⟩ 2)
     have hcs2:pix x.points (triIx ⟨ta,tb,(ka:Int),tr,tv⟩ 2).toNat=pix x.points ka:=rfl
     rw[hcs2]at hcs
     clear hcs2
     generalize pix x.points ka=pk at hcs hat hpz
     subst eA
     obtain⟨s2,A2,n2,c2,B2,m2,d2,t2,C2,i2,e2,D2,j2,f2,⟨g0,g1,g2,g3,g4,g5⟩,hX,hY⟩:=hat
     have l1:=Lib.hid hX.mag.len;have l2:=Lib.hid hX.den.len;have l3:=Lib.hid hY.mag.len;have l4:=Lib.hid hY.den.len
     have hsm:n2≤1048576∧m2≤1048576∧i2≤1048576∧j2≤1048576:=by
      have a1:=l1.out;have a2:=l2.out;have a3:=l3.out;have a4:=l4.out
      simp only[szP,szR]at hpz
      omega
     clear hpz
     go_wp2_with fail
     refine(l05Copy_any _ hX hY hsm.1 hsm.2.1 hsm.2.2.1 hsm.2.2.2).mono ?_
     rintro e w3 ⟨s1,A1,n1,c1,B1,m1,d1,t1,C1,i1',e1,D1,j1,f1,rfl,hP,hb3⟩
     have hrow3:=RowG.bl (ptIn_keep 3) hrow2 hb3
     have hq3:=(hq.bl hb2).bl hb3
     have hb4:=(hbw.next hb2).next hb3
     have hhi3:hi≤w2.heap.size:=Nat.le_trans hhi0 (Bl.size hb2)
     skip
     clear hrow2 hX2
     go_wp2_with ((refine wpList_append_ptX appN_any rfl (.tmp 34) (.tmp 41) rfl _ (by rfl) hrow3 hP hhi3 hlh 1 (by rfl) (by rw[cornTo_len];omega) w1 hb4 (Nat.le_refl _) ?_;intro v' w8 hrow' hb8' hoth;clear hrow3 hP))
     have hz8:=hb8'.size
     rw[←hcs.out]at hrow'
     have hq8:=hq3.past2 hoth hvq
     go_roundw
     case rel=>exact⟨3,_,by omega,rfl,hrow',hok'.out,hb8',hz8,hq8.1,hq8.2⟩
     case measure=>simp[intOf]
    ·skip
     have hnb:(decide (0≤tc) && decide (tc≤(n:Int) - 1))=false:=by
      rw[Bool.and_eq_false_iff]
      rcases Decidable.not_and_iff_or_not.1 hin with h'|h'
      ·exact .inl (decide_eq_false h')
      ·exact .inr (decide_eq_false h')
     rw[hnb]
     clear hnb
     rintro e w2 ⟨rfl,hq2⟩
     have hb2:Bl wr w2:=by obtain⟨q2,rfl⟩:=hq2;exact slc
     clear hq2
     have hv:=Lib.hid <| show cornL x ((kk:Nat):Int)=[]from if_neg fun ha=>hin (by have this:0≤triIx (pix x.tris kk) 2∧triIx (pix x.tris kk) 2≤(x.points.length:Int)-1:=ha.2 2 (by omega);rw[hst.out,h.len]at this;exact this)
     replace hin:=Lib.hid hin
     clear hok
     go_wp2_with fail
     go_ret
     rw[hv.out]
     exact⟨_,_,_,rfl,FrPS.nil _ _ _ _,(hbc.next hbw).next hb2⟩
   ·skip
    have e0:((3:Nat):Int)=3:=rfl
    rw[e0]
    clear e0 hk
    have hv:cornL x ((kk:Nat):Int)=cornTo x.points ⟨ta,tb,tc,tr,tv⟩ 3:=by
     unfold cornL
     rw[show ((kk:Nat):Int).toNat=kk from rfl,hst.out,if_pos ⟨⟨by omega,by rw[ht.len];omega⟩,by rw[h.len];exact hok⟩]
    replace hv:=Lib.hid hv
    replace hok:=Lib.hid hok
    obtain⟨A1,c1,rfl,hZ⟩:=FrPS.of_row hrow (by rw[cornTo_len];omega)
    have hhi0:=RowG.hiLe hrow
    rw[cornTo_len]at hZ ⊢
    clear hrow
    go_wp2_with fail
    go_ret
    rw[hv.out]
    exact⟨_,_,_,rfl,hZ.low (Bl.size hbc),hbc.next hbw⟩
 ·skip
  have hnb:(decide (0≤k) && decide (k≤(m:Int) - 1))=false:=by
   rw[Bool.and_eq_false_iff]
   rcases Decidable.not_and_iff_or_not.1 hin with h'|h'
   ·exact .inl (decide_eq_false h')
   ·exact .inr (decide_eq_false h')
  rw[hnb]
  clear hnb
  rintro e w1 ⟨rfl,hq1⟩
  have hb1:Bl (w.alloc (.cells #[.slice A n c,.slice B m d] 26)) w1:=by obtain⟨q1,rfl⟩:=hq1;exact(Bl.refl _).drewN q1
  clear hq1
  have hv:=Lib.hid <| show cornL x k=[]from if_neg fun ha=>hin (by have:=ha.1;rw[ht.len]at this;exact this)
  replace hin:=Lib.hid hin
  go_wp2_with fail
  go_ret
  rw[hv.out]
  exact⟨_,_,_,rfl,FrPS.nil _ _ _ _,slc⟩
end
end Go.Proofs.YtmkcacgmnnlddaaGreat
