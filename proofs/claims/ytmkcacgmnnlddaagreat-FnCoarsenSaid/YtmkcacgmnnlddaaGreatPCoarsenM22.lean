/- Lemmas. -/
import Derived.Test.YtmkcacgmnnlddaaGreatRows
import Derived.Test.YtmkcacgmnnlddaaGreatPCoarsenM20
import Derived.Test.YtmkcacgmnnlddaaGreatPCoarsenM18
import Derived.Test.YtmkcacgmnnlddaaGreatPCoarsenM17
namespace Go.Proofs.YtmkcacgmnnlddaaGreat
section
open Go.RowKit

/-- A cursor in block g that stands at i with the number h: s = (i, h). -/
def CurX (g:Nat) (w:World) (A:Option Addr) (n c:Nat) (l:List Int) (s:Int × Int):Prop :=
  Blk w g 89 #[.slice A n c,.int .i64 s.1,.int .i64 s.2]∧0≤s.1∧s.1≤n∧RdB w A n c l∧∀ ad,A=Option.some ad→0 < n→ad.block≠g
theorem CurX.cur {g n c:Nat}{w:World}{A:Option Addr}{l:List Int}{s:Int × Int}(h:CurX g w A n c l s):Cur g w A n c l:=⟨s.1,s.2,h.1,h.2⟩
theorem CurX.bl {g n c:Nat}{w W:World}{A:Option Addr}{l:List Int}{s:Int × Int}(h:CurX g w A n c l s) (hb:Bl w W):CurX g W A n c l s:=by
  obtain⟨h1,h2,h3,h4,h5⟩:=h
  exact⟨h1.bl hb,h2,h3,h4.bl hb,h5⟩
theorem CurX.lt {g n c:Nat}{w:World}{A:Option Addr}{l:List Int}{s:Int × Int}(h:CurX g w A n c l s):g < w.heap.size:=h.1.lt
def lcgH (h:Int):Int:=wrap64 (wrap64 (h * 6364136223846793005)+1442695040888963407)
def lcgX (h:Int):Int:=bits .and .i64 (bits .xor .i64 (h / 8589934592) (h / 35184372088832)) 255
/-- The byte that a cursor yields, and its state behind it. -/
def byF (l:List Int) (s:Int × Int):Int × (Int × Int) :=
  if s.1 < (l.length:Int) then (bits .and .i64 (IntKind.i64.wrap (lcgX (lcgH s.2)+IntKind.i64.wrap (pix l s.1.toNat))) 255,(s.1+1,lcgH s.2)) else (lcgX (lcgH s.2),(s.1,lcgH s.2))
def beF (l:List Int) (s:Int × Int) (m:Int):Int × (Int × Int):=((byF l s).1 % m,(byF l s).2)
def hsS (h b:Int):Int:=bits .and .i64 (wrap64 (wrap64 (wrap64 (h * 67)+b)+7)) 1073741823
/-- The number that a code starts with. -/
def hsTo (l:List Int):Nat→Int
  | 0=> wrap64 (1949+(l.length:Int))
  | k+1=> hsS (hsTo l k) (pix l k)
def nwS (l:List Int):Int × Int:=(0,hsTo l (min l.length 4000))
set_option maxRecDepth 100000 in
set_option maxHeartbeats 4000000 in
theorem l01Byte_x (w:World) {g n c:Nat}{A:Option Addr}{l:List Int}{s:Int × Int}(hC:CurX g w A n c l s) :
    Calls Tryz.prog 70 #[.pointer (some ⟨g,0,none⟩)] w fun e w'=> e=.returned (.int .i64 (byF l s).1)∧0≤(byF l s).1∧(byF l s).1≤255∧CurX g w' A n c l (byF l s).2∧Ob [g] w w':=by
  obtain⟨i,h⟩:=s
  obtain⟨hB,hi0,hin,hR,hne⟩:=hC
  dsimp only at hB hi0 hin
  have hln:=hR.len
  have hs:=hR.small
  obtain⟨x0,x1,x2⟩:=bx3 hB
  have f1:=hB.frozen 1
  have f2:=hB.frozen 2
  have hg:=hB.lt
  have hv:byF l (i,h)=(if i < (l.length:Int) then (bits .and .i64 (IntKind.i64.wrap (lcgX (lcgH h)+IntKind.i64.wrap (pix l i.toNat))) 255,(i+1,lcgH h)) else (lcgX (lcgH h),(i,lcgH h))):=rfl
  have hv:=Lib.hid hv;rename_i h_;clear h_
  by_cases hlt:i < (n:Int)
  · obtain⟨k,rfl⟩:=Int.eq_ofNat_of_zero_le hi0
    have hkn:k < n:=by omega
    obtain⟨ad,rfl,_⟩:=hR.cells k hkn
    have hna:=hne ad rfl (by omega)
    go_enter Tryz.func70,Tryz.ntmps70
    go_wp2_with fail
    refine wp_gen (fun W=> ∃ h',h'=lcgH h∧Blk W g 89 #[.slice (some ad) n c,.int .i64 (k:Int),.int .i64 h']∧Ob [g] w W) ⟨lcgH h,rfl,by simpa [lcgH] using hB.set_ 2 (.int .i64 (lcgH h)),(Ob.refl _ w).set (by simp) _ _⟩ ?_
    clear x0 x1 x2 f1 f2 hB
    rintro W ⟨h',hh,hB,hO⟩
    have hh:=Lib.hid hh;rename_i h_;clear h_
    have hR:=hR.ob hne hO
    go_region_held3 (fun w' =>(w'.cell? ⟨g,0,none⟩=some (.slice (some ad) n c)∧w'.cell? ⟨g,1,none⟩=some (.int .i64 (k:Int))∧w'.cell? ⟨g,2,none⟩=some (.int .i64 h'))) (first | exact bx3 (T:=89) (hB.bl slc)) (fail)
    obtain⟨hx0,hx1⟩:=and255 (bits .xor .i64 (h' / 8589934592) (h' / 35184372088832))
    have hx:=Lib.hid (show lcgX h'=bits .and .i64 (bits .xor .i64 (h' / 8589934592) (h' / 35184372088832)) 255 from rfl)
    generalize bits .and .i64 (bits .xor .i64 (h' / 8589934592) (h' / 35184372088832)) 255=x at *
    go_wp2_with fail
    go_region_held3 (fun w' =>(w'.cell? ⟨g,0,none⟩=some (.slice (some ad) n c)∧w'.cell? ⟨g,1,none⟩=some (.int .i64 (k:Int))∧w'.cell? ⟨g,2,none⟩=some (.int .i64 h'))) (first | exact bx3 (T:=89) (hB.bl slc)) (fail)
    obtain⟨_,e,hlt2,hc,hb0,hb1⟩:=hR.cells k hkn
    cases e
    rw[Nat.mul_one] at hc
    have hy:=Lib.hid (show pix l ((k:Int)).toNat=pix l k from rfl)
    generalize pix l k=y at hc hb0 hb1 hy
    have hlt3:(ad.add k).block < W.heap.size:=by rw[block_add];exact hlt2
    go_wp2_with fail
    go_region_held3 (fun w' =>(w'.cell? ⟨g,0,none⟩=some (.slice (some ad) n c)∧w'.cell? ⟨g,1,none⟩=some (.int .i64 (k:Int))∧w'.cell? ⟨g,2,none⟩=some (.int .i64 h'))∧w'.cell? (ad.add k)=some (.int .u8 y)) (first | exact⟨bx3 (T:=89) (hB.bl slc),(Bl.cellOf (w:=W) (p:=ad.add k) slc hlt3).trans hc⟩) (fail)
    obtain⟨hz0,hz1⟩:=and255 (IntKind.i64.wrap (x+IntKind.i64.wrap y))
    have hz:=Lib.hid (show bits .and .i64 (IntKind.i64.wrap (x+IntKind.i64.wrap y)) 255=bits .and .i64 (IntKind.i64.wrap (x+IntKind.i64.wrap y)) 255 from rfl)
    generalize hzz:bits .and .i64 (IntKind.i64.wrap (x+IntKind.i64.wrap y)) 255=z at *
    have hzz:=Lib.hid hzz;rename_i h_;clear h_
    obtain⟨x0,x1,x2⟩:=bx3 hB
    have f1:=hB.frozen 1
    go_wp2_with fail
    go_ret
    have hC2:CurX g (W.setCell ⟨g,1,none⟩ (.int .i64 ((k:Int)+1))) (some ad) n c l ((k:Int)+1,h'):=⟨by simpa using hB.set_ 1 (.int .i64 ((k:Int)+1)),by simp only;omega,by simp only;omega,hR.ob hne ((Ob.refl [g] W).set (by simp) _ _),hne⟩
    have hO2:=hO.set (g:=g) (by simp) 1 (.int .i64 ((k:Int)+1))
    have hv:=hv.out
    rw[if_pos (by rw[hln];exact hlt),← hh.out,hx.out,hy.out,hzz.out] at hv
    rw[hv]
    exact⟨rfl,hz0,hz1,hC2.bl slc,hO2.trans (Ob.of_bl slc _)⟩
  · have hnlt:¬ i < (n:Int):=hlt
    go_enter Tryz.func70,Tryz.ntmps70
    go_wp2_with fail
    refine wp_gen (fun W=> ∃ h',h'=lcgH h∧Blk W g 89 #[.slice A n c,.int .i64 i,.int .i64 h']∧Ob [g] w W) ⟨lcgH h,rfl,by simpa [lcgH] using hB.set_ 2 (.int .i64 (lcgH h)),(Ob.refl _ w).set (by simp) _ _⟩ ?_
    clear x0 x1 x2 f1 f2 hB
    rintro W ⟨h',hh,hB,hO⟩
    have hh:=Lib.hid hh;rename_i h_;clear h_
    have hR:=hR.ob hne hO
    go_region_held3 (fun w' =>(w'.cell? ⟨g,0,none⟩=some (.slice A n c)∧w'.cell? ⟨g,1,none⟩=some (.int .i64 i)∧w'.cell? ⟨g,2,none⟩=some (.int .i64 h'))) (first | exact bx3 (T:=89) (hB.bl slc)) (fail)
    obtain⟨hx0,hx1⟩:=and255 (bits .xor .i64 (h' / 8589934592) (h' / 35184372088832))
    have hx:=Lib.hid (show lcgX h'=bits .and .i64 (bits .xor .i64 (h' / 8589934592) (h' / 35184372088832)) 255 from rfl)
    generalize bits .and .i64 (bits .xor .i64 (h' / 8589934592) (h' / 35184372088832)) 255=x at *
    go_wp2_with fail
    go_region_held3 (fun w' =>(w'.cell? ⟨g,0,none⟩=some (.slice A n c)∧w'.cell? ⟨g,1,none⟩=some (.int .i64 i)∧w'.cell? ⟨g,2,none⟩=some (.int .i64 h'))) (first | exact bx3 (T:=89) (hB.bl slc)) (fail)
    go_wp2_with fail
    go_ret
    have hv:=hv.out
    rw[if_neg (by rw[hln];omega),← hh.out,hx.out] at hv
    rw[hv]
    exact⟨rfl,hx0,hx1,(show CurX g W A n c l (i,h') from ⟨hB,hi0,hin,hR,hne⟩).bl slc,hO.trans (Ob.of_bl slc _)⟩
set_option maxHeartbeats 4000000 in
theorem l01Below_x (w:World) {g n c:Nat}{A:Option Addr}{l:List Int}{s:Int × Int}(m:Int) (hm0:0 < m) (hm1:m≤256) (hC:CurX g w A n c l s) :
    Calls Tryz.prog 42 #[.pointer (some ⟨g,0,none⟩),.int .i64 m] w fun e w'=> e=.returned (.int .i64 (beF l s m).1)∧0≤(beF l s m).1∧(beF l s m).1 < m∧CurX g w' A n c l (beF l s m).2∧Ob [g] w w':=by
  have hm2:¬ m≤0:=by omega
  have hm3:¬ m=0:=by omega
  go_enter Tryz.func42,Tryz.ntmps42
  go_wp2_with fail
  have hv:=Lib.hid (show beF l s m=((byF l s).1 % m,(byF l s).2) from rfl)
  refine(l01Byte_x _ hC).mono ?_
  rintro e w1 ⟨rfl,hx0,hx1,hC1,hO⟩
  generalize (byF l s).1=x at hv hx0 hx1 ⊢
  have ht:x.tmod m=x % m:=by rw[Int.tmod_eq_emod_of_nonneg hx0]
  have hx2:=Int.emod_nonneg x (show m≠0 by omega)
  have hx3:=Int.emod_lt_of_pos x hm0
  go_wp2_with fail
  go_ret
  rw[hv.out]
  exact⟨rfl,hx2,hx3,hC1,hO⟩
set_option maxHeartbeats 4000000 in
theorem l01New_x (w:World) {A:Option Addr}{n c:Nat}{l:List Int}(h:RdB w A n c l) :
    Calls Tryz.prog 21 #[.slice A n c] w fun e w'=> ∃ g,e=.returned (.pointer (some ⟨g,0,none⟩))∧w.heap.size≤g∧CurX g w' A n c l (nwS l)∧Bl w w':=by
  have hn:=h.small
  have hln:=Lib.hid h.len
  go_enter Tryz.func21,Tryz.ntmps21
  go_wp2_with fail
  go_loopw [3,4] (fun v i wr=> ∃ (k:Nat) (z:Int),k≤n∧k≤4000∧i=.int .i64 (k:Int)∧v=.int .i64 z∧Hid (z=hsTo l k)∧Bl w wr) (fun _ i _=> n - (intOf i).toNat)
  case atStart=> exact⟨0,_,Nat.zero_le _,Nat.zero_le _,rfl,rfl,Lib.hid (by rw[← hln.out];rfl),Bl.refl _⟩
  case round =>
    obtain⟨k,z,hk,hk4,rfl,rfl,hz,hbw⟩:=hrel
    by_cases hkn:k < n
    · have hki:(k:Int) < (n:Int):=by omega
      by_cases hk5:k < 4000
      · have hki2:(k:Int) < 4000:=by omega
        obtain⟨ad,rfl,hlt,hc,hb0,hb1⟩:=(RdB.bl h hbw).cells k hkn
        rw[Nat.mul_one] at hc
        have hs1:=Lib.hid (show hsTo l (k+1)=hsS z (pix l k) by rw[hz.out];rfl)
        unfold hsS at hs1
        clear hz
        go_wp2_with fail
        go_roundw
        case rel=> exact⟨k+1,_,by omega,by omega,by go_num,rfl,Lib.hid hs1.out.symm,slc⟩
        case measure=> simp[intOf];omega
      · have hd1:decide ((k:Int) < 4000)=false:=by simp;omega
        have hnw:=Lib.hid (show nwS l=(0,z) by unfold nwS;rw[hz.out,hln.out,show min n 4000=k by omega])
        go_wp2_with fail
        go_ret
        exact⟨wr.heap.size,rfl,hbw.size,⟨by rw[hnw.out];exact Blk.new _ _ _,by simp[nwS],by simp[nwS],RdB.bl h (hbw.alloc _),fun ad e hn0=> by subst e;obtain⟨_,e,hl,_⟩:=h.cells 0 hn0;cases e;have:=hbw.size;omega⟩,slc⟩
    · have hd2:decide ((k:Int) < (n:Int))=false:=by simp;omega
      have hnw:=Lib.hid (show nwS l=(0,z) by unfold nwS;rw[hz.out,hln.out,show min n 4000=k by omega])
      go_wp2_with fail
      go_ret
      exact⟨wr.heap.size,rfl,hbw.size,⟨by rw[hnw.out];exact Blk.new _ _ _,by simp[nwS],by simp[nwS],RdB.bl h (hbw.alloc _),fun ad e hn0=> by subst e;obtain⟨_,e,hl,_⟩:=h.cells 0 hn0;cases e;have:=hbw.size;omega⟩,slc⟩
end

section
open Go.RowKit

theorem addR_ok (r s:RatD):addR r s=zR∨OkR (addR r s):=by
  unfold addR
  split
  · rename_i h
    exact ofFrac_ok (Nat.mul_pos h.1.get.2.1 h.2.get.2.1)
  · exact .inl rfl
theorem mulR_ok (r s:RatD):mulR r s=zR∨OkR (mulR r s):=by
  unfold mulR
  split
  · rename_i h
    exact ofFrac_ok (Nat.mul_pos h.1.get.2.1 h.2.get.2.1)
  · exact .inl rfl
set_option maxRecDepth 100000 in
set_option maxHeartbeats 8000000 in
theorem sAddPoints_any (w:World) {s:Bool}{A:Option Addr}{n c:Nat}{B:Option Addr}{m d:Nat}{t:Bool}{C:Option Addr}{i e:Nat}{D:Option Addr}{j f:Nat}{p:PtD}{s':Bool}{A':Option Addr}{n' c':Nat}{B':Option Addr}{m' d':Nat}{t':Bool}{C':Option Addr}{i' e':Nat}{D':Option Addr}{j' f':Nat}{p':PtD}(h:RdR w s A n c B m d p.x) (k:RdR w t C i e D j f p.y) (h':RdR w s' A' n' c' B' m' d' p'.x) (k':RdR w t' C' i' e' D' j' f' p'.y) :
    Calls Tryz.prog 114 #[.agg #[.bool s,.slice A n c,.slice B m d,.bool t,.slice C i e,.slice D j f],.agg #[.bool s',.slice A' n' c',.slice B' m' d',.bool t',.slice C' i' e',.slice D' j' f']] w fun en w'=> ∃ s1 A1 n1 c1 B1 m1 d1 t1 C1 i1 e1 D1 j1 f1,en=.returned (.agg #[.bool s1,.slice A1 n1 c1,.slice B1 m1 d1,.bool t1,.slice C1 i1 e1,.slice D1 j1 f1])∧OwP 3 w.heap.size w' s1 A1 n1 c1 B1 m1 d1 t1 C1 i1 e1 D1 j1 f1 (addP p p')∧Bl w w':=by
  go_enter Tryz.func114,Tryz.ntmps114
  go_wp2_with fail
  refine wp_gen (fun W=> Bl w W∧Blk W (w.heap.size) 56 #[.bool s,.slice A n c,.slice B m d,.bool t,.slice C i e,.slice D j f]∧Blk W (w.heap.size+1) 56 #[.bool s',.slice A' n' c',.slice B' m' d',.bool t',.slice C' i' e',.slice D' j' f']∧Wk 6 56 (w.heap.size+1+1) W) ⟨slc,bts,bts,bts⟩ ?_
  rintro W ⟨hbW,hx,hx',hr⟩
  go_region_held3 (fun w' =>(w'.cell? ⟨w.heap.size,0,none⟩=some (.bool s)∧w'.cell? ⟨w.heap.size,1,none⟩=some (.slice A n c)∧w'.cell? ⟨w.heap.size,2,none⟩=some (.slice B m d)∧w'.cell? ⟨w.heap.size,3,none⟩=some (.bool t)∧w'.cell? ⟨w.heap.size,4,none⟩=some (.slice C i e)∧w'.cell? ⟨w.heap.size,5,none⟩=some (.slice D j f))∧(w'.cell? ⟨w.heap.size+1,0,none⟩=some (.bool s')∧w'.cell? ⟨w.heap.size+1,1,none⟩=some (.slice A' n' c')∧w'.cell? ⟨w.heap.size+1,2,none⟩=some (.slice B' m' d')∧w'.cell? ⟨w.heap.size+1,3,none⟩=some (.bool t')∧w'.cell? ⟨w.heap.size+1,4,none⟩=some (.slice C' i' e')∧w'.cell? ⟨w.heap.size+1,5,none⟩=some (.slice D' j' f'))∧(w'.cell? ⟨w.heap.size+1+1,0,none⟩=some (cellD w' (w.heap.size+1+1) 0)∧w'.cell? ⟨w.heap.size+1+1,1,none⟩=some (cellD w' (w.heap.size+1+1) 1)∧w'.cell? ⟨w.heap.size+1+1,2,none⟩=some (cellD w' (w.heap.size+1+1) 2)∧w'.cell? ⟨w.heap.size+1+1,3,none⟩=some (cellD w' (w.heap.size+1+1) 3)∧w'.cell? ⟨w.heap.size+1+1,4,none⟩=some (cellD w' (w.heap.size+1+1) 4)∧w'.cell? ⟨w.heap.size+1+1,5,none⟩=some (cellD w' (w.heap.size+1+1) 5))∧w'.frozen? ⟨w.heap.size+1+1,0,none⟩=false∧w'.frozen? ⟨w.heap.size+1+1,1,none⟩=false∧w'.frozen? ⟨w.heap.size+1+1,2,none⟩=false∧w'.frozen? ⟨w.heap.size+1+1,3,none⟩=false∧w'.frozen? ⟨w.heap.size+1+1,4,none⟩=false∧w'.frozen? ⟨w.heap.size+1+1,5,none⟩=false) (first | exact⟨bx6 (T:=56) bts,bx6 (T:=56) bts,Wk.out6 (T:=56) bts⟩) (first |(go_at_call 145;with_reducible refine(sRatAdd_any _ (h.bl slc) (h'.bl slc)).mono ?_;rintro en w2 ⟨s2,A2,n2,c2,B2,m2,d2,rfl,hR2,hb2⟩) |(go_at_call 145;with_reducible refine(sRatAdd_any _ (k.bl slc) (k'.bl slc)).mono ?_;rintro en w3 ⟨s3,A3,n3,c3,B3,m3,d3,rfl,hR3,hb3⟩) |(go_at_call 142;refine(l05Valid_any (p:=⟨addR p.x p'.x,addR p.y p'.y⟩) _ (OwP.two hR2 hR3 hb3 (Bl.size hb2)) (Nat.le_trans (Bl.size hb2) (Bl.size hb3)) (addR_ok _ _) (addR_ok _ _)).mono ?_;rintro en w4 ⟨s1,A1,n1,c1,B1,m1,d1,t1,C1,i1,e1,D1,j1,f1,rfl,hX,hb4⟩))
  have hz:w.heap.size+1+1+1≤W.heap.size:=hr.lt
  have hr:=(show Wk 6 56 (w.heap.size+1+1) w4 from bts)
  have hbW:Bl w w4:=slc
  have hX:=hX.low (show w.heap.size+1+1+1≤W.drew.heap.size from hz)
  obtain⟨v0,x0⟩:=hr.val_ (i:=0) (by omega)
  obtain⟨v1,x1⟩:=hr.val_ (i:=1) (by omega)
  obtain⟨v2,x2⟩:=hr.val_ (i:=2) (by omega)
  obtain⟨v3,x3⟩:=hr.val_ (i:=3) (by omega)
  obtain⟨v4,x4⟩:=hr.val_ (i:=4) (by omega)
  obtain⟨v5,x5⟩:=hr.val_ (i:=5) (by omega)
  have hg:=hr.lt
  obtain⟨cs4,hB4,hc4⟩:=hr
  have hf0:=hB4.frozen 0
  have hf1:=hB4.frozen 1
  have hf2:=hB4.frozen 2
  have hf3:=hB4.frozen 3
  have hf4:=hB4.frozen 4
  have hf5:=hB4.frozen 5
  go_wp2_with fail
  exact bodyPost_ret (v:=.agg #[.bool s1,.slice A1 n1 c1,.slice B1 m1 d1,.bool t1,.slice C1 i1 e1,.slice D1 j1 f1]) (by simp[results,Tryz.results114,go_sem,x0,x1,x2,x3,x4,x5]) rfl ⟨_,_,_,_,_,_,_,_,_,_,_,_,_,_,rfl,((((((hX.far (by simp) _).far (by simp) _).far (by simp) _).far (by simp) _).far (by simp) _).far (by simp) _).low (by omega),slc⟩
set_option maxRecDepth 100000 in
set_option maxHeartbeats 8000000 in
theorem sScalePoint_any (w:World) {s:Bool}{A:Option Addr}{n c:Nat}{B:Option Addr}{m d:Nat}{r:RatD}{s':Bool}{A':Option Addr}{n' c':Nat}{B':Option Addr}{m' d':Nat}{t':Bool}{C':Option Addr}{i' e':Nat}{D':Option Addr}{j' f':Nat}{p':PtD}(h:RdR w s A n c B m d r) (h':RdR w s' A' n' c' B' m' d' p'.x) (k':RdR w t' C' i' e' D' j' f' p'.y) :
    Calls Tryz.prog 112 #[.agg #[.bool s,.slice A n c,.slice B m d],.agg #[.bool s',.slice A' n' c',.slice B' m' d',.bool t',.slice C' i' e',.slice D' j' f']] w fun en w'=> ∃ s1 A1 n1 c1 B1 m1 d1 t1 C1 i1 e1 D1 j1 f1,en=.returned (.agg #[.bool s1,.slice A1 n1 c1,.slice B1 m1 d1,.bool t1,.slice C1 i1 e1,.slice D1 j1 f1])∧OwP 3 w.heap.size w' s1 A1 n1 c1 B1 m1 d1 t1 C1 i1 e1 D1 j1 f1 (sclP r p')∧Bl w w':=by
  go_enter Tryz.func112,Tryz.ntmps112
  go_wp2_with fail
  refine wp_gen (fun W=> Bl w W∧Blk W (w.heap.size) 54 #[.bool s,.slice A n c,.slice B m d]∧Blk W (w.heap.size+1) 56 #[.bool s',.slice A' n' c',.slice B' m' d',.bool t',.slice C' i' e',.slice D' j' f']∧Wk 6 56 (w.heap.size+1+1) W) ⟨slc,bts,bts,bts⟩ ?_
  rintro W ⟨hbW,hx,hx',hr⟩
  go_region_held3 (fun w' =>(w'.cell? ⟨w.heap.size,0,none⟩=some (.bool s)∧w'.cell? ⟨w.heap.size,1,none⟩=some (.slice A n c)∧w'.cell? ⟨w.heap.size,2,none⟩=some (.slice B m d))∧(w'.cell? ⟨w.heap.size+1,0,none⟩=some (.bool s')∧w'.cell? ⟨w.heap.size+1,1,none⟩=some (.slice A' n' c')∧w'.cell? ⟨w.heap.size+1,2,none⟩=some (.slice B' m' d')∧w'.cell? ⟨w.heap.size+1,3,none⟩=some (.bool t')∧w'.cell? ⟨w.heap.size+1,4,none⟩=some (.slice C' i' e')∧w'.cell? ⟨w.heap.size+1,5,none⟩=some (.slice D' j' f'))∧(w'.cell? ⟨w.heap.size+1+1,0,none⟩=some (cellD w' (w.heap.size+1+1) 0)∧w'.cell? ⟨w.heap.size+1+1,1,none⟩=some (cellD w' (w.heap.size+1+1) 1)∧w'.cell? ⟨w.heap.size+1+1,2,none⟩=some (cellD w' (w.heap.size+1+1) 2)∧w'.cell? ⟨w.heap.size+1+1,3,none⟩=some (cellD w' (w.heap.size+1+1) 3)∧w'.cell? ⟨w.heap.size+1+1,4,none⟩=some (cellD w' (w.heap.size+1+1) 4)∧w'.cell? ⟨w.heap.size+1+1,5,none⟩=some (cellD w' (w.heap.size+1+1) 5))∧w'.frozen? ⟨w.heap.size+1+1,0,none⟩=false∧w'.frozen? ⟨w.heap.size+1+1,1,none⟩=false∧w'.frozen? ⟨w.heap.size+1+1,2,none⟩=false∧w'.frozen? ⟨w.heap.size+1+1,3,none⟩=false∧w'.frozen? ⟨w.heap.size+1+1,4,none⟩=false∧w'.frozen? ⟨w.heap.size+1+1,5,none⟩=false) (first | exact⟨bx3 (T:=54) bts,bx6 (T:=56) bts,Wk.out6 (T:=56) bts⟩) (first |(go_at_call 143;with_reducible refine(sRatMul_any _ (h.bl slc) (h'.bl slc)).mono ?_;rintro en w2 ⟨s2,A2,n2,c2,B2,m2,d2,rfl,hR2,hb2⟩) |(go_at_call 143;with_reducible refine(sRatMul_any _ (h.bl slc) (k'.bl slc)).mono ?_;rintro en w3 ⟨s3,A3,n3,c3,B3,m3,d3,rfl,hR3,hb3⟩) |(go_at_call 142;refine(l05Valid_any (p:=⟨mulR r p'.x,mulR r p'.y⟩) _ (OwP.two hR2 hR3 hb3 (Bl.size hb2)) (Nat.le_trans (Bl.size hb2) (Bl.size hb3)) (mulR_ok _ _) (mulR_ok _ _)).mono ?_;rintro en w4 ⟨s1,A1,n1,c1,B1,m1,d1,t1,C1,i1,e1,D1,j1,f1,rfl,hX,hb4⟩))
  have hz:w.heap.size+1+1+1≤W.heap.size:=hr.lt
  have hr:=(show Wk 6 56 (w.heap.size+1+1) w4 from bts)
  have hbW:Bl w w4:=slc
  have hX:=hX.low (show w.heap.size+1+1+1≤W.drew.heap.size from hz)
  obtain⟨v0,x0⟩:=hr.val_ (i:=0) (by omega)
  obtain⟨v1,x1⟩:=hr.val_ (i:=1) (by omega)
  obtain⟨v2,x2⟩:=hr.val_ (i:=2) (by omega)
  obtain⟨v3,x3⟩:=hr.val_ (i:=3) (by omega)
  obtain⟨v4,x4⟩:=hr.val_ (i:=4) (by omega)
  obtain⟨v5,x5⟩:=hr.val_ (i:=5) (by omega)
  have hg:=hr.lt
  obtain⟨cs4,hB4,hc4⟩:=hr
  have hf0:=hB4.frozen 0
  have hf1:=hB4.frozen 1
  have hf2:=hB4.frozen 2
  have hf3:=hB4.frozen 3
  have hf4:=hB4.frozen 4
  have hf5:=hB4.frozen 5
  go_wp2_with fail
  exact bodyPost_ret (v:=.agg #[.bool s1,.slice A1 n1 c1,.slice B1 m1 d1,.bool t1,.slice C1 i1 e1,.slice D1 j1 f1]) (by simp[results,Tryz.results112,go_sem,x0,x1,x2,x3,x4,x5]) rfl ⟨_,_,_,_,_,_,_,_,_,_,_,_,_,_,rfl,((((((hX.far (by simp) _).far (by simp) _).far (by simp) _).far (by simp) _).far (by simp) _).far (by simp) _).low (by omega),slc⟩

set_option maxRecDepth 100000 in
set_option maxHeartbeats 8000000 in
theorem sMiddle_any (w:World) {s:Bool}{A:Option Addr}{n c:Nat}{B:Option Addr}{m d:Nat}{t:Bool}{C:Option Addr}{i e:Nat}{D:Option Addr}{j f:Nat}{p:PtD}{s':Bool}{A':Option Addr}{n' c':Nat}{B':Option Addr}{m' d':Nat}{t':Bool}{C':Option Addr}{i' e':Nat}{D':Option Addr}{j' f':Nat}{p':PtD}(h:RdR w s A n c B m d p.x) (k:RdR w t C i e D j f p.y) (h':RdR w s' A' n' c' B' m' d' p'.x) (k':RdR w t' C' i' e' D' j' f' p'.y) :
    Calls Tryz.prog 82 #[.agg #[.bool s,.slice A n c,.slice B m d,.bool t,.slice C i e,.slice D j f],.agg #[.bool s',.slice A' n' c',.slice B' m' d',.bool t',.slice C' i' e',.slice D' j' f']] w fun en w'=> ∃ s1 A1 n1 c1 B1 m1 d1 t1 C1 i1 e1 D1 j1 f1,en=.returned (.agg #[.bool s1,.slice A1 n1 c1,.slice B1 m1 d1,.bool t1,.slice C1 i1 e1,.slice D1 j1 f1])∧OwP 3 w.heap.size w' s1 A1 n1 c1 B1 m1 d1 t1 C1 i1 e1 D1 j1 f1 (midP p p')∧Bl w w':=by
  go_enter Tryz.func82,Tryz.ntmps82
  go_wp2_with fail
  refine wp_gen (fun W=> Bl w W∧Blk W (w.heap.size) 56 #[.bool s,.slice A n c,.slice B m d,.bool t,.slice C i e,.slice D j f]∧Blk W (w.heap.size+1) 56 #[.bool s',.slice A' n' c',.slice B' m' d',.bool t',.slice C' i' e',.slice D' j' f']∧Wk 6 56 (w.heap.size+1+1) W) ⟨slc,bts,bts,bts⟩ ?_
  rintro W ⟨hbW,hx,hx',hr⟩
  go_region_held3 (fun w' =>(w'.cell? ⟨w.heap.size,0,none⟩=some (.bool s)∧w'.cell? ⟨w.heap.size,1,none⟩=some (.slice A n c)∧w'.cell? ⟨w.heap.size,2,none⟩=some (.slice B m d)∧w'.cell? ⟨w.heap.size,3,none⟩=some (.bool t)∧w'.cell? ⟨w.heap.size,4,none⟩=some (.slice C i e)∧w'.cell? ⟨w.heap.size,5,none⟩=some (.slice D j f))∧(w'.cell? ⟨w.heap.size+1,0,none⟩=some (.bool s')∧w'.cell? ⟨w.heap.size+1,1,none⟩=some (.slice A' n' c')∧w'.cell? ⟨w.heap.size+1,2,none⟩=some (.slice B' m' d')∧w'.cell? ⟨w.heap.size+1,3,none⟩=some (.bool t')∧w'.cell? ⟨w.heap.size+1,4,none⟩=some (.slice C' i' e')∧w'.cell? ⟨w.heap.size+1,5,none⟩=some (.slice D' j' f'))∧(w'.cell? ⟨w.heap.size+1+1,0,none⟩=some (cellD w' (w.heap.size+1+1) 0)∧w'.cell? ⟨w.heap.size+1+1,1,none⟩=some (cellD w' (w.heap.size+1+1) 1)∧w'.cell? ⟨w.heap.size+1+1,2,none⟩=some (cellD w' (w.heap.size+1+1) 2)∧w'.cell? ⟨w.heap.size+1+1,3,none⟩=some (cellD w' (w.heap.size+1+1) 3)∧w'.cell? ⟨w.heap.size+1+1,4,none⟩=some (cellD w' (w.heap.size+1+1) 4)∧w'.cell? ⟨w.heap.size+1+1,5,none⟩=some (cellD w' (w.heap.size+1+1) 5))∧w'.frozen? ⟨w.heap.size+1+1,0,none⟩=false∧w'.frozen? ⟨w.heap.size+1+1,1,none⟩=false∧w'.frozen? ⟨w.heap.size+1+1,2,none⟩=false∧w'.frozen? ⟨w.heap.size+1+1,3,none⟩=false∧w'.frozen? ⟨w.heap.size+1+1,4,none⟩=false∧w'.frozen? ⟨w.heap.size+1+1,5,none⟩=false) (first | exact⟨bx6 (T:=56) bts,bx6 (T:=56) bts,Wk.out6 (T:=56) bts⟩) (first |(go_at_call 113;with_reducible refine(sRatOf_any _ 1 2 (by omega) (by omega) (by omega) (by omega)).mono ?_;rintro en w2 ⟨s2,A2,n2,c2,B2,m2,d2,rfl,hR2,hb2⟩) |(go_at_call 114;with_reducible refine(sAddPoints_any _ (h.bl slc) (k.bl slc) (h'.bl slc) (k'.bl slc)).mono ?_;rintro en w3 ⟨s3,A3,n3,c3,B3,m3,d3,t3,C3,i3,e3,D3,j3,f3,rfl,hP3,hb3⟩) |(go_at_call 112;refine(sScalePoint_any _ (hR2.rd.bl slc) (hP3.rx.bl slc) (hP3.ry.bl slc)).mono ?_;rintro en w4 ⟨s1,A1,n1,c1,B1,m1,d1,t1,C1,i1,e1,D1,j1,f1,rfl,hX,hb4⟩;replace hX:=hX.low (show W.drew.heap.size≤_ from Bl.size (by exact slc))))
  have hz:w.heap.size+1+1+1≤W.heap.size:=hr.lt
  have hr:=(show Wk 6 56 (w.heap.size+1+1) w4 from bts)
  have hbW:Bl w w4:=slc
  have hX:=hX.low (show w.heap.size+1+1+1≤W.drew.heap.size from hz)
  obtain⟨v0,x0⟩:=hr.val_ (i:=0) (by omega)
  obtain⟨v1,x1⟩:=hr.val_ (i:=1) (by omega)
  obtain⟨v2,x2⟩:=hr.val_ (i:=2) (by omega)
  obtain⟨v3,x3⟩:=hr.val_ (i:=3) (by omega)
  obtain⟨v4,x4⟩:=hr.val_ (i:=4) (by omega)
  obtain⟨v5,x5⟩:=hr.val_ (i:=5) (by omega)
  have hg:=hr.lt
  obtain⟨cs4,hB4,hc4⟩:=hr
  have hf0:=hB4.frozen 0
  have hf1:=hB4.frozen 1
  have hf2:=hB4.frozen 2
  have hf3:=hB4.frozen 3
  have hf4:=hB4.frozen 4
  have hf5:=hB4.frozen 5
  go_wp2_with fail
  exact bodyPost_ret (v:=.agg #[.bool s1,.slice A1 n1 c1,.slice B1 m1 d1,.bool t1,.slice C1 i1 e1,.slice D1 j1 f1]) (by simp[results,Tryz.results82,go_sem,x0,x1,x2,x3,x4,x5]) rfl ⟨_,_,_,_,_,_,_,_,_,_,_,_,_,_,rfl,((((((hX.far (by simp) _).far (by simp) _).far (by simp) _).far (by simp) _).far (by simp) _).far (by simp) _).low (by omega),slc⟩
end

end Go.Proofs.YtmkcacgmnnlddaaGreat
