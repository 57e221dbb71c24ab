/- Lemmas. -/
import Derived.Test.YtmkcacgmnnlddaaGreatRows
import Derived.Test.YtmkcacgmnnlddaaGreatPCoarsenM20
import Derived.Test.YtmkcacgmnnlddaaGreatPCoarsenM21
import Derived.Test.YtmkcacgmnnlddaaGreatPCoarsenM28
import Derived.Test.YtmkcacgmnnlddaaGreatPCoarsenM33
import Derived.Deep.Cut
import Derived.Deep.DeepCutAuto
namespace Go.Proofs.YtmkcacgmnnlddaaGreat
section
open Go.RowKit

theorem SmQ.of {q:Rat}{k:Nat}(h:B10 k q) (hk:k≤8):SmQ q :=
  have h1:10 ^ k≤10 ^ 8:=Nat.pow_le_pow_right (by omega) hk
  ⟨Nat.lt_of_le_of_lt (Nat.le_trans h.1 h1) (by decide),Nat.lt_of_le_of_lt (Nat.le_trans h.2 h1) (by decide)⟩
theorem SmQ.ln {q:Rat}(h:SmQ q) {w:World}{s:Bool}{A:Option Addr}{n c:Nat}{B:Option Addr}{m d:Nat}(hr:RdR w s A n c B m d (toR q)):n≤1∧m=1:=⟨by rw[← hr.mag.len];exact h.mag,by rw[← hr.den.len];exact h.den⟩
theorem Sm2.q {u:Rat × Rat}(h:Sm2 u):SmQ u.1∧SmQ u.2:=⟨SmQ.of (k:=2) (B10.of h.1 (by decide)) (by omega),SmQ.of (k:=2) (B10.of h.2 (by decide)) (by omega)⟩
theorem sm_two {u:Rat × Rat}(h:Sm2 u) {w:World}{s:Bool}{A:Option Addr}{n c:Nat}{B:Option Addr}{m d:Nat}{t:Bool}{C:Option Addr}{i e:Nat}{D:Option Addr}{j f:Nat}(hx:RdR w s A n c B m d (tp u).x) (hy:RdR w t C i e D j f (tp u).y):(n≤1∧m=1)∧i≤1∧j=1:=⟨h.q.1.ln hx,h.q.2.ln hy⟩
theorem sm_ok {u:Rat × Rat}(h:Sm2 u):OkR (tp u).x∧OkR (tp u).y:=⟨h.q.1.fit.ok,h.q.2.fit.ok⟩
theorem sm_add {u v:Rat × Rat}(hu:Sm2 u) (hv:Sm2 v):∃ x y:Rat,SmQ x∧SmQ y∧addP (tp u) (tp v)=toP x y:=by
  have a:=B10.of (k:=2) hu.1 (by decide)
  have b:=B10.of (k:=2) hu.2 (by decide)
  have c:=B10.of (k:=2) hv.1 (by decide)
  have d:=B10.of (k:=2) hv.2 (by decide)
  exact⟨u.1+v.1,u.2+v.2,SmQ.of (a.add c) (by omega),SmQ.of (b.add d) (by omega),addP_b a b c d (by omega)⟩
theorem half_q:SmQ (mkRat 1 2):=SmQ.of (k:=2) (B10.of half_sm.2 (by decide)) (by omega)
theorem sm_hx {z:PtD}(h:∃ x y:Rat,SmQ x∧SmQ y∧z=toP x y):Hid (OkR (ofFrac 1 2)∧OkR z.x)∧Hid (OkR (ofFrac 1 2)∧OkR z.y):=by
  obtain⟨x,y,hx,hy,rfl⟩:=h
  rw[half_sm.1]
  exact⟨⟨half_q.fit.ok,hx.fit.ok⟩,⟨half_q.fit.ok,hy.fit.ok⟩⟩
theorem sm_lx {z:PtD}(h:∃ x y:Rat,SmQ x∧SmQ y∧z=toP x y) {w w':World}{s0:Bool}{A0:Option Addr}{n0 c0:Nat}{B0:Option Addr}{m0 d0:Nat}(hr:RdR w s0 A0 n0 c0 B0 m0 d0 (ofFrac 1 2)) {s:Bool}{A:Option Addr}{n c:Nat}{B:Option Addr}{m d:Nat}{t:Bool}{C:Option Addr}{i e:Nat}{D:Option Addr}{j f:Nat}(hx:RdR w' s A n c B m d z.x) (hy:RdR w' t C i e D j f z.y):Hid ((n0≤1∧m0=1)∧n≤1∧m=1)∧Hid ((n0≤1∧m0=1)∧i≤1∧j=1):=by
  obtain⟨x,y,qx,qy,rfl⟩:=h
  rw[half_sm.1] at hr
  exact⟨⟨half_q.ln hr,qx.ln hx⟩,⟨half_q.ln hr,qy.ln hy⟩⟩
set_option maxRecDepth 100000 in
set_option maxHeartbeats 4000000 in
theorem RatAdd_sm (w:World) {s:Bool}{A:Option Addr}{n c:Nat}{B:Option Addr}{m d:Nat}{r:RatD}{s':Bool}{A':Option Addr}{n' c':Nat}{B':Option Addr}{m' d':Nat}{r':RatD}(h:RdR w s A n c B m d r) (k:RdR w s' A' n' c' B' m' d' r') (ho:OkR r∧OkR r') (hs:Hid ((n≤1∧m=1)∧n'≤1∧m'=1)) :
    Calls Tryz.prog 138 #[.agg #[.bool s,.slice A n c,.slice B m d],.agg #[.bool s',.slice A' n' c',.slice B' m' d']] w fun e w'=> ∃ s1 A1 n1 c1 B1 m1 d1,e=.returned (.agg #[.bool s1,.slice A1 n1 c1,.slice B1 m1 d1])∧OwR 3 w.heap.size w' s1 A1 n1 c1 B1 m1 d1 (addR r r')∧Bl w w':=by
  have hall:=Lib.hid (allOk_two.2 ho)
  have hI:=IsR.out h ho.1
  have hI':=IsR.out k ho.2
  have hval:=Lib.hid (show addR r r'=ofFrac (rn r * rd r'+rn r' * rd r) (rd r * rd r') by unfold addR;rw[if_pos ho])
  clear ho
  go_enter Tryz.func138,Tryz.ntmps138
  go_wp2_with fail
  refine calls_gen (fun W=> Bl w W∧Blk W (w.heap.size) 54 #[.bool s,.slice A n c,.slice B m d]∧Blk W (w.heap.size+1) 54 #[.bool s',.slice A' n' c',.slice B' m' d']∧Wk 3 54 (w.heap.size+1+1) W∧Blk W (w.heap.size+1+1+1) 54 #[.bool s,.slice A n c,.slice B m d,.bool s',.slice A' n' c',.slice B' m' d']) ⟨slc,bts,bts,bts,Blk.new3 _ _ _ _ _ _⟩ ?_
  rintro W ⟨hbW,hx,hx',hr,hy⟩
  refine(areRats_yes _ (RdRS.two hy (h.bl hbW) (k.bl hbW)) hall.out).mono ?_
  rintro e w1 ⟨rfl,hb1⟩
  clear hy
  have hx:=hx.bl hb1
  have hx':=hx'.bl hb1
  have hr:=hr.bl hb1
  have hbW:=hbW.next hb1
  clear hb1
  obtain⟨i0,i1,i2⟩:=bx3 hx
  obtain⟨j0,j1,j2⟩:=bx3 hx'
  go_wp2_with fail
  refine(plus_small _ (RdR.bl hI hbW) (RdR.bl hI' hbW) hs.out.1.1 hs.out.1.2 hs.out.2.1 hs.out.2.2).mono ?_
  rintro e w2 ⟨s1,A1,n1,c1,B1,m1,d1,rfl,hR,hb2⟩
  have hR:=hR.mono (show w.heap.size+1+1+1≤w1.heap.size from hr.lt)
  rw[← hval.out] at hR
  have hx:=hx.bl hb2
  have hx':=hx'.bl hb2
  have hr:=hr.bl hb2
  have hbW:=hbW.next hb2
  clear hb2
  obtain⟨i0,i1,i2⟩:=bx3 hx
  obtain⟨j0,j1,j2⟩:=bx3 hx'
  obtain⟨v0,x0⟩:=hr.val_ (i:=0) (by omega)
  obtain⟨v1,x1⟩:=hr.val_ (i:=1) (by omega)
  obtain⟨v2,x2⟩:=hr.val_ (i:=2) (by omega)
  have hg:=hr.lt
  obtain⟨cs4,hB4,hc4⟩:=hr
  have hf0:=hB4.frozen 0
  have hf1:=hB4.frozen 1
  have hf2:=hB4.frozen 2
  go_wp2_with fail
  exact bodyPost_ret (v:=.agg #[.bool s1,.slice A1 n1 c1,.slice B1 m1 d1]) (by simp[results,Tryz.results138,go_sem,x0,x1,x2]) rfl ⟨_,_,_,_,_,_,_,rfl,(((hR.far (by simp) _).far (by simp) _).far (by simp) _).mono (by omega),slc⟩
theorem RatMul_sm (w:World) {s:Bool}{A:Option Addr}{n c:Nat}{B:Option Addr}{m d:Nat}{r:RatD}{s':Bool}{A':Option Addr}{n' c':Nat}{B':Option Addr}{m' d':Nat}{r':RatD}(h:RdR w s A n c B m d r) (k:RdR w s' A' n' c' B' m' d' r') (ho:OkR r∧OkR r') (hs:Hid ((n≤1∧m=1)∧n'≤1∧m'=1)) :
    Calls Tryz.prog 135 #[.agg #[.bool s,.slice A n c,.slice B m d],.agg #[.bool s',.slice A' n' c',.slice B' m' d']] w fun e w'=> ∃ s1 A1 n1 c1 B1 m1 d1,e=.returned (.agg #[.bool s1,.slice A1 n1 c1,.slice B1 m1 d1])∧OwR 3 w.heap.size w' s1 A1 n1 c1 B1 m1 d1 (mulR r r')∧Bl w w':=by
  have hall:=Lib.hid (allOk_two.2 ho)
  have e1:=ho.1.get.1
  have e2:=ho.2.get.1
  have hI:=IsR.out h ho.1
  have hI':=IsR.out k ho.2
  rw[show mulR r r'=ofFrac (rn r * rn r') (rd r * rd r') by unfold mulR;rw[if_pos ho]]
  rw[e1,e2] at hall
  exact RatMul_small w hI hI' hall hs.out.1.1 hs.out.1.2 hs.out.2.1 hs.out.2.2

set_option maxRecDepth 100000 in
set_option maxHeartbeats 8000000 in
theorem AddPoints_sm (w:World) {s:Bool}{A:Option Addr}{n c:Nat}{B:Option Addr}{m d:Nat}{t:Bool}{C:Option Addr}{i e:Nat}{D:Option Addr}{j f:Nat}{p:PtD}{s':Bool}{A':Option Addr}{n' c':Nat}{B':Option Addr}{m' d':Nat}{t':Bool}{C':Option Addr}{i' e':Nat}{D':Option Addr}{j' f':Nat}{p':PtD}(h:RdR w s A n c B m d p.x) (k:RdR w t C i e D j f p.y) (h':RdR w s' A' n' c' B' m' d' p'.x) (k':RdR w t' C' i' e' D' j' f' p'.y) (ox:Hid (OkR p.x∧OkR p'.x)) (oy:Hid (OkR p.y∧OkR p'.y)) (lx:Hid ((n≤1∧m=1)∧n'≤1∧m'=1)) (ly:Hid ((i≤1∧j=1)∧i'≤1∧j'=1)) :
    Calls Tryz.prog 106 #[.agg #[.bool s,.slice A n c,.slice B m d,.bool t,.slice C i e,.slice D j f],.agg #[.bool s',.slice A' n' c',.slice B' m' d',.bool t',.slice C' i' e',.slice D' j' f']] w fun en w'=> ∃ s1 A1 n1 c1 B1 m1 d1 t1 C1 i1 e1 D1 j1 f1,en=.returned (.agg #[.bool s1,.slice A1 n1 c1,.slice B1 m1 d1,.bool t1,.slice C1 i1 e1,.slice D1 j1 f1])∧OwP 3 w.heap.size w' s1 A1 n1 c1 B1 m1 d1 t1 C1 i1 e1 D1 j1 f1 (addP p p')∧Bl w w':=by
  go_enter Tryz.func106,Tryz.ntmps106
  go_wp2_with fail
  refine wp_gen (fun W=> Bl w W∧Blk W (w.heap.size) 56 #[.bool s,.slice A n c,.slice B m d,.bool t,.slice C i e,.slice D j f]∧Blk W (w.heap.size+1) 56 #[.bool s',.slice A' n' c',.slice B' m' d',.bool t',.slice C' i' e',.slice D' j' f']∧Wk 6 56 (w.heap.size+1+1) W) ⟨slc,bts,bts,bts⟩ ?_
  rintro W ⟨hbW,hx,hx',hr⟩
  go_region_held3 (fun w' =>(w'.cell? ⟨w.heap.size,0,none⟩=some (.bool s)∧w'.cell? ⟨w.heap.size,1,none⟩=some (.slice A n c)∧w'.cell? ⟨w.heap.size,2,none⟩=some (.slice B m d)∧w'.cell? ⟨w.heap.size,3,none⟩=some (.bool t)∧w'.cell? ⟨w.heap.size,4,none⟩=some (.slice C i e)∧w'.cell? ⟨w.heap.size,5,none⟩=some (.slice D j f))∧(w'.cell? ⟨w.heap.size+1,0,none⟩=some (.bool s')∧w'.cell? ⟨w.heap.size+1,1,none⟩=some (.slice A' n' c')∧w'.cell? ⟨w.heap.size+1,2,none⟩=some (.slice B' m' d')∧w'.cell? ⟨w.heap.size+1,3,none⟩=some (.bool t')∧w'.cell? ⟨w.heap.size+1,4,none⟩=some (.slice C' i' e')∧w'.cell? ⟨w.heap.size+1,5,none⟩=some (.slice D' j' f'))∧(w'.cell? ⟨w.heap.size+1+1,0,none⟩=some (cellD w' (w.heap.size+1+1) 0)∧w'.cell? ⟨w.heap.size+1+1,1,none⟩=some (cellD w' (w.heap.size+1+1) 1)∧w'.cell? ⟨w.heap.size+1+1,2,none⟩=some (cellD w' (w.heap.size+1+1) 2)∧w'.cell? ⟨w.heap.size+1+1,3,none⟩=some (cellD w' (w.heap.size+1+1) 3)∧w'.cell? ⟨w.heap.size+1+1,4,none⟩=some (cellD w' (w.heap.size+1+1) 4)∧w'.cell? ⟨w.heap.size+1+1,5,none⟩=some (cellD w' (w.heap.size+1+1) 5))∧w'.frozen? ⟨w.heap.size+1+1,0,none⟩=false∧w'.frozen? ⟨w.heap.size+1+1,1,none⟩=false∧w'.frozen? ⟨w.heap.size+1+1,2,none⟩=false∧w'.frozen? ⟨w.heap.size+1+1,3,none⟩=false∧w'.frozen? ⟨w.heap.size+1+1,4,none⟩=false∧w'.frozen? ⟨w.heap.size+1+1,5,none⟩=false) (first | exact⟨bx6 (T:=56) bts,bx6 (T:=56) bts,Wk.out6 (T:=56) bts⟩) (first |(go_at_call 138;with_reducible refine(RatAdd_sm _ (h.bl slc) (h'.bl slc) ox.out lx).mono ?_;rintro en w2 ⟨s2,A2,n2,c2,B2,m2,d2,rfl,hR2,hb2⟩) |(go_at_call 138;with_reducible refine(RatAdd_sm _ (k.bl slc) (k'.bl slc) oy.out ly).mono ?_;rintro en w3 ⟨s3,A3,n3,c3,B3,m3,d3,rfl,hR3,hb3⟩) |(go_at_call 134;refine(ifPoint_any (p:=⟨addR p.x p'.x,addR p.y p'.y⟩) _ (OwP.two hR2 hR3 hb3 (Bl.size hb2))).mono ?_;rintro en w4 ⟨s1,A1,n1,c1,B1,m1,d1,t1,C1,i1,e1,D1,j1,f1,rfl,hX,hb4⟩))
  have hz:w.heap.size+1+1+1≤W.heap.size:=hr.lt
  have hr:=(show Wk 6 56 (w.heap.size+1+1) w4 from bts)
  have hbW:Bl w w4:=slc
  have hX:=hX.low (show w.heap.size+1+1+1≤W.drew.heap.size from hz)
  obtain⟨v0,x0⟩:=hr.val_ (i:=0) (by omega)
  obtain⟨v1,x1⟩:=hr.val_ (i:=1) (by omega)
  obtain⟨v2,x2⟩:=hr.val_ (i:=2) (by omega)
  obtain⟨v3,x3⟩:=hr.val_ (i:=3) (by omega)
  obtain⟨v4,x4⟩:=hr.val_ (i:=4) (by omega)
  obtain⟨v5,x5⟩:=hr.val_ (i:=5) (by omega)
  have hg:=hr.lt
  obtain⟨cs4,hB4,hc4⟩:=hr
  have hf0:=hB4.frozen 0
  have hf1:=hB4.frozen 1
  have hf2:=hB4.frozen 2
  have hf3:=hB4.frozen 3
  have hf4:=hB4.frozen 4
  have hf5:=hB4.frozen 5
  go_wp2_with fail
  exact bodyPost_ret (v:=.agg #[.bool s1,.slice A1 n1 c1,.slice B1 m1 d1,.bool t1,.slice C1 i1 e1,.slice D1 j1 f1]) (by simp[results,Tryz.results106,go_sem,x0,x1,x2,x3,x4,x5]) rfl ⟨_,_,_,_,_,_,_,_,_,_,_,_,_,_,rfl,((((((hX.far (by simp) _).far (by simp) _).far (by simp) _).far (by simp) _).far (by simp) _).far (by simp) _).low (by omega),slc⟩



set_option maxRecDepth 100000 in
set_option maxHeartbeats 8000000 in
theorem ScalePoint_sm (w:World) {s:Bool}{A:Option Addr}{n c:Nat}{B:Option Addr}{m d:Nat}{r:RatD}{s':Bool}{A':Option Addr}{n' c':Nat}{B':Option Addr}{m' d':Nat}{t':Bool}{C':Option Addr}{i' e':Nat}{D':Option Addr}{j' f':Nat}{p':PtD}(h:RdR w s A n c B m d r) (h':RdR w s' A' n' c' B' m' d' p'.x) (k':RdR w t' C' i' e' D' j' f' p'.y) (ox:Hid (OkR r∧OkR p'.x)) (oy:Hid (OkR r∧OkR p'.y)) (lx:Hid ((n≤1∧m=1)∧n'≤1∧m'=1)) (ly:Hid ((n≤1∧m=1)∧i'≤1∧j'=1)) :
    Calls Tryz.prog 104 #[.agg #[.bool s,.slice A n c,.slice B m d],.agg #[.bool s',.slice A' n' c',.slice B' m' d',.bool t',.slice C' i' e',.slice D' j' f']] w fun en w'=> ∃ s1 A1 n1 c1 B1 m1 d1 t1 C1 i1 e1 D1 j1 f1,en=.returned (.agg #[.bool s1,.slice A1 n1 c1,.slice B1 m1 d1,.bool t1,.slice C1 i1 e1,.slice D1 j1 f1])∧OwP 3 w.heap.size w' s1 A1 n1 c1 B1 m1 d1 t1 C1 i1 e1 D1 j1 f1 (sclP r p')∧Bl w w':=by
  go_enter Tryz.func104,Tryz.ntmps104
  go_wp2_with fail
  refine wp_gen (fun W=> Bl w W∧Blk W (w.heap.size) 54 #[.bool s,.slice A n c,.slice B m d]∧Blk W (w.heap.size+1) 56 #[.bool s',.slice A' n' c',.slice B' m' d',.bool t',.slice C' i' e',.slice D' j' f']∧Wk 6 56 (w.heap.size+1+1) W) ⟨slc,bts,bts,bts⟩ ?_
  rintro W ⟨hbW,hx,hx',hr⟩
  go_region_held3 (fun w' =>(w'.cell? ⟨w.heap.size,0,none⟩=some (.bool s)∧w'.cell? ⟨w.heap.size,1,none⟩=some (.slice A n c)∧w'.cell? ⟨w.heap.size,2,none⟩=some (.slice B m d))∧(w'.cell? ⟨w.heap.size+1,0,none⟩=some (.bool s')∧w'.cell? ⟨w.heap.size+1,1,none⟩=some (.slice A' n' c')∧w'.cell? ⟨w.heap.size+1,2,none⟩=some (.slice B' m' d')∧w'.cell? ⟨w.heap.size+1,3,none⟩=some (.bool t')∧w'.cell? ⟨w.heap.size+1,4,none⟩=some (.slice C' i' e')∧w'.cell? ⟨w.heap.size+1,5,none⟩=some (.slice D' j' f'))∧(w'.cell? ⟨w.heap.size+1+1,0,none⟩=some (cellD w' (w.heap.size+1+1) 0)∧w'.cell? ⟨w.heap.size+1+1,1,none⟩=some (cellD w' (w.heap.size+1+1) 1)∧w'.cell? ⟨w.heap.size+1+1,2,none⟩=some (cellD w' (w.heap.size+1+1) 2)∧w'.cell? ⟨w.heap.size+1+1,3,none⟩=some (cellD w' (w.heap.size+1+1) 3)∧w'.cell? ⟨w.heap.size+1+1,4,none⟩=some (cellD w' (w.heap.size+1+1) 4)∧w'.cell? ⟨w.heap.size+1+1,5,none⟩=some (cellD w' (w.heap.size+1+1) 5))∧w'.frozen? ⟨w.heap.size+1+1,0,none⟩=false∧w'.frozen? ⟨w.heap.size+1+1,1,none⟩=false∧w'.frozen? ⟨w.heap.size+1+1,2,none⟩=false∧w'.frozen? ⟨w.heap.size+1+1,3,none⟩=false∧w'.frozen? ⟨w.heap.size+1+1,4,none⟩=false∧w'.frozen? ⟨w.heap.size+1+1,5,none⟩=false) (first | exact⟨bx3 (T:=54) bts,bx6 (T:=56) bts,Wk.out6 (T:=56) bts⟩) (first |(go_at_call 135;with_reducible refine(RatMul_sm _ (h.bl slc) (h'.bl slc) ox.out lx).mono ?_;rintro en w2 ⟨s2,A2,n2,c2,B2,m2,d2,rfl,hR2,hb2⟩) |(go_at_call 135;with_reducible refine(RatMul_sm _ (h.bl slc) (k'.bl slc) oy.out ly).mono ?_;rintro en w3 ⟨s3,A3,n3,c3,B3,m3,d3,rfl,hR3,hb3⟩) |(go_at_call 134;refine(ifPoint_any (p:=⟨mulR r p'.x,mulR r p'.y⟩) _ (OwP.two hR2 hR3 hb3 (Bl.size hb2))).mono ?_;rintro en w4 ⟨s1,A1,n1,c1,B1,m1,d1,t1,C1,i1,e1,D1,j1,f1,rfl,hX,hb4⟩))
  have hz:w.heap.size+1+1+1≤W.heap.size:=hr.lt
  have hr:=(show Wk 6 56 (w.heap.size+1+1) w4 from bts)
  have hbW:Bl w w4:=slc
  have hX:=hX.low (show w.heap.size+1+1+1≤W.drew.heap.size from hz)
  obtain⟨v0,x0⟩:=hr.val_ (i:=0) (by omega)
  obtain⟨v1,x1⟩:=hr.val_ (i:=1) (by omega)
  obtain⟨v2,x2⟩:=hr.val_ (i:=2) (by omega)
  obtain⟨v3,x3⟩:=hr.val_ (i:=3) (by omega)
  obtain⟨v4,x4⟩:=hr.val_ (i:=4) (by omega)
  obtain⟨v5,x5⟩:=hr.val_ (i:=5) (by omega)
  have hg:=hr.lt
  obtain⟨cs4,hB4,hc4⟩:=hr
  have hf0:=hB4.frozen 0
  have hf1:=hB4.frozen 1
  have hf2:=hB4.frozen 2
  have hf3:=hB4.frozen 3
  have hf4:=hB4.frozen 4
  have hf5:=hB4.frozen 5
  go_wp2_with fail
  exact bodyPost_ret (v:=.agg #[.bool s1,.slice A1 n1 c1,.slice B1 m1 d1,.bool t1,.slice C1 i1 e1,.slice D1 j1 f1]) (by simp[results,Tryz.results104,go_sem,x0,x1,x2,x3,x4,x5]) rfl ⟨_,_,_,_,_,_,_,_,_,_,_,_,_,_,rfl,((((((hX.far (by simp) _).far (by simp) _).far (by simp) _).far (by simp) _).far (by simp) _).far (by simp) _).low (by omega),slc⟩


set_option maxRecDepth 100000 in
set_option maxHeartbeats 8000000 in
theorem Middle_sm (w:World) {s:Bool}{A:Option Addr}{n c:Nat}{B:Option Addr}{m d:Nat}{t:Bool}{C:Option Addr}{i e:Nat}{D:Option Addr}{j f:Nat}{p:PtD}{s':Bool}{A':Option Addr}{n' c':Nat}{B':Option Addr}{m' d':Nat}{t':Bool}{C':Option Addr}{i' e':Nat}{D':Option Addr}{j' f':Nat}{p':PtD}(h:RdR w s A n c B m d p.x) (k:RdR w t C i e D j f p.y) (h':RdR w s' A' n' c' B' m' d' p'.x) (k':RdR w t' C' i' e' D' j' f' p'.y) {u v:Rat × Rat}(hu:Sm2 u) (hv:Sm2 v) (eu:p=tp u) (ev:p'=tp v) :
    Calls Tryz.prog 74 #[.agg #[.bool s,.slice A n c,.slice B m d,.bool t,.slice C i e,.slice D j f],.agg #[.bool s',.slice A' n' c',.slice B' m' d',.bool t',.slice C' i' e',.slice D' j' f']] w fun en w'=> ∃ s1 A1 n1 c1 B1 m1 d1 t1 C1 i1 e1 D1 j1 f1,en=.returned (.agg #[.bool s1,.slice A1 n1 c1,.slice B1 m1 d1,.bool t1,.slice C1 i1 e1,.slice D1 j1 f1])∧OwP 3 w.heap.size w' s1 A1 n1 c1 B1 m1 d1 t1 C1 i1 e1 D1 j1 f1 (midP p p')∧Bl w w':=by
  subst eu ev
  obtain⟨l1,l2⟩:=sm_two hu h k
  obtain⟨l3,l4⟩:=sm_two hv h' k'
  have lx:=Lib.hid (And.intro l1 l3)
  have ly:=Lib.hid (And.intro l2 l4)
  obtain⟨o1,o2⟩:=sm_ok hu
  obtain⟨o3,o4⟩:=sm_ok hv
  have ox:=Lib.hid (And.intro o1 o3)
  have oy:=Lib.hid (And.intro o2 o4)
  have hadd:=Lib.hid (sm_add hu hv)
  clear l1 l2 l3 l4 o1 o2 o3 o4 hu hv
  go_enter Tryz.func74,Tryz.ntmps74
  go_wp2_with fail
  refine wp_gen (fun W=> Bl w W∧Blk W (w.heap.size) 56 #[.bool s,.slice A n c,.slice B m d,.bool t,.slice C i e,.slice D j f]∧Blk W (w.heap.size+1) 56 #[.bool s',.slice A' n' c',.slice B' m' d',.bool t',.slice C' i' e',.slice D' j' f']∧Wk 6 56 (w.heap.size+1+1) W) ⟨slc,bts,bts,bts⟩ ?_
  rintro W ⟨hbW,hx,hx',hr⟩
  go_region_held3 (fun w' =>(w'.cell? ⟨w.heap.size,0,none⟩=some (.bool s)∧w'.cell? ⟨w.heap.size,1,none⟩=some (.slice A n c)∧w'.cell? ⟨w.heap.size,2,none⟩=some (.slice B m d)∧w'.cell? ⟨w.heap.size,3,none⟩=some (.bool t)∧w'.cell? ⟨w.heap.size,4,none⟩=some (.slice C i e)∧w'.cell? ⟨w.heap.size,5,none⟩=some (.slice D j f))∧(w'.cell? ⟨w.heap.size+1,0,none⟩=some (.bool s')∧w'.cell? ⟨w.heap.size+1,1,none⟩=some (.slice A' n' c')∧w'.cell? ⟨w.heap.size+1,2,none⟩=some (.slice B' m' d')∧w'.cell? ⟨w.heap.size+1,3,none⟩=some (.bool t')∧w'.cell? ⟨w.heap.size+1,4,none⟩=some (.slice C' i' e')∧w'.cell? ⟨w.heap.size+1,5,none⟩=some (.slice D' j' f'))∧(w'.cell? ⟨w.heap.size+1+1,0,none⟩=some (cellD w' (w.heap.size+1+1) 0)∧w'.cell? ⟨w.heap.size+1+1,1,none⟩=some (cellD w' (w.heap.size+1+1) 1)∧w'.cell? ⟨w.heap.size+1+1,2,none⟩=some (cellD w' (w.heap.size+1+1) 2)∧w'.cell? ⟨w.heap.size+1+1,3,none⟩=some (cellD w' (w.heap.size+1+1) 3)∧w'.cell? ⟨w.heap.size+1+1,4,none⟩=some (cellD w' (w.heap.size+1+1) 4)∧w'.cell? ⟨w.heap.size+1+1,5,none⟩=some (cellD w' (w.heap.size+1+1) 5))∧w'.frozen? ⟨w.heap.size+1+1,0,none⟩=false∧w'.frozen? ⟨w.heap.size+1+1,1,none⟩=false∧w'.frozen? ⟨w.heap.size+1+1,2,none⟩=false∧w'.frozen? ⟨w.heap.size+1+1,3,none⟩=false∧w'.frozen? ⟨w.heap.size+1+1,4,none⟩=false∧w'.frozen? ⟨w.heap.size+1+1,5,none⟩=false) (first | exact⟨bx6 (T:=56) bts,bx6 (T:=56) bts,Wk.out6 (T:=56) bts⟩) (first |(go_at_call 105;with_reducible refine(RatOf_any _ 1 2 (by omega) (by omega) (by omega) (by omega)).mono ?_;rintro en w2 ⟨s2,A2,n2,c2,B2,m2,d2,rfl,hR2,hb2⟩) |(go_at_call 106;with_reducible refine(AddPoints_sm _ (h.bl slc) (k.bl slc) (h'.bl slc) (k'.bl slc) ox oy lx ly).mono ?_;rintro en w3 ⟨s3,A3,n3,c3,B3,m3,d3,t3,C3,i3,e3,D3,j3,f3,rfl,hP3,hb3⟩) |(go_at_call 104;refine(ScalePoint_sm _ (hR2.rd.bl slc) (hP3.rx.bl slc) (hP3.ry.bl slc) (sm_hx hadd.out).1 (sm_hx hadd.out).2 (sm_lx hadd.out hR2.rd hP3.rx hP3.ry).1 (sm_lx hadd.out hR2.rd hP3.rx hP3.ry).2).mono ?_;rintro en w4 ⟨s1,A1,n1,c1,B1,m1,d1,t1,C1,i1,e1,D1,j1,f1,rfl,hX,hb4⟩;replace hX:=hX.low (show W.drew.heap.size≤_ from Bl.size (by exact slc))))
  have hz:w.heap.size+1+1+1≤W.heap.size:=hr.lt
  have hr:=(show Wk 6 56 (w.heap.size+1+1) w4 from bts)
  have hbW:Bl w w4:=slc
  have hX:=hX.low (show w.heap.size+1+1+1≤W.drew.heap.size from hz)
  obtain⟨v0,x0⟩:=hr.val_ (i:=0) (by omega)
  obtain⟨v1,x1⟩:=hr.val_ (i:=1) (by omega)
  obtain⟨v2,x2⟩:=hr.val_ (i:=2) (by omega)
  obtain⟨v3,x3⟩:=hr.val_ (i:=3) (by omega)
  obtain⟨v4,x4⟩:=hr.val_ (i:=4) (by omega)
  obtain⟨v5,x5⟩:=hr.val_ (i:=5) (by omega)
  have hg:=hr.lt
  obtain⟨cs4,hB4,hc4⟩:=hr
  have hf0:=hB4.frozen 0
  have hf1:=hB4.frozen 1
  have hf2:=hB4.frozen 2
  have hf3:=hB4.frozen 3
  have hf4:=hB4.frozen 4
  have hf5:=hB4.frozen 5
  go_wp2_with fail
  exact bodyPost_ret (v:=.agg #[.bool s1,.slice A1 n1 c1,.slice B1 m1 d1,.bool t1,.slice C1 i1 e1,.slice D1 j1 f1]) (by simp[results,Tryz.results74,go_sem,x0,x1,x2,x3,x4,x5]) rfl ⟨_,_,_,_,_,_,_,_,_,_,_,_,_,_,rfl,((((((hX.far (by simp) _).far (by simp) _).far (by simp) _).far (by simp) _).far (by simp) _).far (by simp) _).low (by omega),slc⟩
end

section
open Go.RowKit

theorem run_eql_tri (W:World) (x y:TriD):(binOp .eql 58 (.agg #[.int .i64 x.a,.int .i64 x.b,.int .i64 x.c,.int .i64 x.region,.int .i64 x.level]) (.agg #[.int .i64 y.a,.int .i64 y.b,.int .i64 y.c,.int .i64 y.region,.int .i64 y.level])).run Tryz.prog W=.ok (.bool (decide (x=y))) W:=by
  have h:decide (x=y)=((x.a == y.a) && ((x.b == y.b) && ((x.c == y.c) && ((x.region == y.region) && (x.level == y.level))))):=by
    cases x
    cases y
    rw[Bool.eq_iff_iff]
    simp
  rw[h]
  go_simp
  clear h
  repeat' split
  all_goals simp_all
theorem prB_eq {m:MeQ}{k l:Nat}{s t A B:TriD}(hs:pix m.tris k=s) (ht:pix m.tris l=t) (hA:hvA (prT s t) s.a=A) (hB:hvB (prT s t) s.a=B) :
    prB m k l=(decide ((l:Int)=(k:Int)+1) && (decide (0 < s.level) && (decide (A=s) && (decide (B=t) && decide (midQ (mc m s.c) (mc m t.b)=mc m s.a))))):=by
  unfold prB
  rw[Int.toNat_natCast,Int.toNat_natCast,hs,ht,hA,hB]
theorem eqP_mid {p q r:Rat × Rat}(hp:Sm2 p) (hq:Sm2 q):decide (midQ p q=r)=eqP (midP (tp p) (tp q)) (tp r):=by
  rw[midP_tp hp hq,Bool.eq_iff_iff,decide_eq_true_eq,eqP_iff]
  exact⟨fun h=> by rw[h],tp_inj⟩

set_option maxRecDepth 100000 in
set_option maxHeartbeats 32000000 in
theorem isPair_any (w:World) {gp n cp gt m ct:Nat}{mq:MeQ}(hp:RdPS w (some ⟨gp,0,none⟩) n cp (mq.pts.map tp)) (ht:RdTS w (some ⟨gt,0,none⟩) m ct mq.tris) (hf:FitM mq) (k l:Nat) (hk:k < m) (hl:l < m) :
    Calls Tryz.prog 54 #[.agg #[.slice (some ⟨gp,0,none⟩) n cp,.slice (some ⟨gt,0,none⟩) m ct],.int .i64 (k:Int),.int .i64 (l:Int)] w fun e w'=> e=.returned (.bool (prB mq k l))∧Bl w w':=by
  have hn:=Lib.hid (show mq.pts.length=n by rw[← hp.len,List.length_map])
  have hm48:m≤48:=by rw[← ht.len];exact hf.ok.t48
  have hrk:=hf.ok.reg k (by rw[ht.len];exact hk)
  have hrl:=hf.ok.reg l (by rw[ht.len];exact hl)
  have hik:=hf.ok.ixs k (by rw[ht.len];exact hk)
  have hil:=hf.ok.ixs l (by rw[ht.len];exact hl)
  rw[hn.out] at hik hil
  have hfH:=Lib.hid hf
  clear hf
  go_enter Tryz.func54,Tryz.ntmps54
  go_upto_region 1 with (fail)
  refine wp_gen (fun W=> Bl w W∧∃ g3,Blk W g3 26 #[.slice (some ⟨gp,0,none⟩) n cp,.slice (some ⟨gt,0,none⟩) m ct]∧g3=w.heap.size) ⟨slc,_,by exact bts,rfl⟩ ?_
  rintro W ⟨hbW,g3,h3,hg3⟩
  rw[← hg3]
  clear hg3
  have hp:=RdPS.bl hp hbW
  have ht:=RdTS.bl ht hbW
  obtain⟨y0,y1,y2,y3,y4⟩:=trs_lit ht hk
  obtain⟨z0,z1,z2,z3,z4⟩:=trs_lit ht hl
  obtain⟨_,egt,hgt,_⟩:=ht.cells k hk
  cases egt
  obtain⟨s,hs_⟩:∃ s,pix mq.tris k=s:=⟨_,rfl⟩
  obtain⟨t,ht_⟩:∃ t,pix mq.tris l=t:=⟨_,rfl⟩
  rw[hs_] at y0 y1 y2 y3 y4 hrk hik
  rw[ht_] at z0 z1 z2 z3 z4 hrl hil
  obtain⟨_,hv0,hv1⟩:=hrk
  have hki:(k:Int) < (m:Int):=by omega
  have hli:(l:Int) < (m:Int):=by omega
  go_cut [7,8] (fun s7 s8 wx=> ∃ g7 g8:Nat,s7=.pointer (some ⟨g7,0,none⟩)∧s8=.pointer (some ⟨g8,0,none⟩)∧Blk wx g7 58 #[.int .i64 s.a,.int .i64 s.b,.int .i64 s.c,.int .i64 s.region,.int .i64 s.level]∧Blk wx g8 58 #[.int .i64 t.a,.int .i64 t.b,.int .i64 t.c,.int .i64 t.region,.int .i64 t.level]∧Bl W wx)
  case first =>
    go_region_held3 (fun w' =>(w'.cell? ⟨g3,0,none⟩=some ((.slice (some ⟨gp,0,none⟩) n cp))∧w'.cell? ⟨g3,1,none⟩=some ((.slice (some ⟨gt,0,none⟩) m ct)))∧(w'.cell? ⟨gt,k * 5,none⟩=some (.int .i64 s.a)∧w'.cell? ⟨gt,k * 5+1,none⟩=some (.int .i64 s.b)∧w'.cell? ⟨gt,k * 5+2,none⟩=some (.int .i64 s.c)∧w'.cell? ⟨gt,k * 5+3,none⟩=some (.int .i64 s.region)∧w'.cell? ⟨gt,k * 5+4,none⟩=some (.int .i64 s.level))∧(w'.cell? ⟨gt,l * 5,none⟩=some (.int .i64 t.a)∧w'.cell? ⟨gt,l * 5+1,none⟩=some (.int .i64 t.b)∧w'.cell? ⟨gt,l * 5+2,none⟩=some (.int .i64 t.c)∧w'.cell? ⟨gt,l * 5+3,none⟩=some (.int .i64 t.region)∧w'.cell? ⟨gt,l * 5+4,none⟩=some (.int .i64 t.level))) (first | exact⟨bx2 (T:=26) (h3.bl slc),⟨(Bl.cellOf (w:=W) (p:=⟨gt,k * 5,none⟩) slc hgt).trans y0,(Bl.cellOf (w:=W) (p:=⟨gt,k * 5+1,none⟩) slc hgt).trans y1,(Bl.cellOf (w:=W) (p:=⟨gt,k * 5+2,none⟩) slc hgt).trans y2,(Bl.cellOf (w:=W) (p:=⟨gt,k * 5+3,none⟩) slc hgt).trans y3,(Bl.cellOf (w:=W) (p:=⟨gt,k * 5+4,none⟩) slc hgt).trans y4⟩,⟨(Bl.cellOf (w:=W) (p:=⟨gt,l * 5,none⟩) slc hgt).trans z0,(Bl.cellOf (w:=W) (p:=⟨gt,l * 5+1,none⟩) slc hgt).trans z1,(Bl.cellOf (w:=W) (p:=⟨gt,l * 5+2,none⟩) slc hgt).trans z2,(Bl.cellOf (w:=W) (p:=⟨gt,l * 5+3,none⟩) slc hgt).trans z3,(Bl.cellOf (w:=W) (p:=⟨gt,l * 5+4,none⟩) slc hgt).trans z4⟩⟩) (fail)
    · go_wp2_with fail
      go_meet
      exact⟨W.heap.size,W.heap.size+1,rfl,rfl,by exact bts,by exact bts,slc⟩
    · go_wp2_with fail
      go_meet
      exact⟨W.heap.size+1,W.heap.size,rfl,rfl,by exact bts,by exact bts,slc⟩
  case rest =>
    obtain⟨g7,g8,rfl,rfl,h7,h8,hbc⟩:=hcut
    obtain⟨W2,rfl⟩:∃ W2:World,W2=wc:=⟨_,rfl⟩
    have h3:=h3.bl hbc
    have hp:=RdPS.bl hp hbc
    have hbw:=hbW.next hbc
    clear y0 y1 y2 y3 y4 z0 z1 z2 z3 z4 hbc hgt
    obtain⟨y0,y1,y2,y3,y4⟩:=bx5 h7
    obtain⟨z0,z1,z2,z3,z4⟩:=bx5 h8
    go_wp2_with fail
    refine(halves_any _ (prT s t) s.a (by show -1000000≤s.level - 1;omega) (by show s.level - 1≤1000000;omega)).mono ?_
    rintro e w4 ⟨he,hb4⟩
    obtain⟨A,hA⟩:∃ A,hvA (prT s t) s.a=A:=⟨_,rfl⟩
    obtain⟨B,hB⟩:∃ B,hvB (prT s t) s.a=B:=⟨_,rfl⟩
    have hpr:=prB_eq hs_ ht_ hA hB
    rw[hA,hB] at he
    unfold trV at he
    subst he
    clear y0 y1 y2 y3 y4 z0 z1 z2 z3 z4
    have h3:=h3.bl hb4
    have h7:=h7.bl hb4
    have h8:=h8.bl hb4
    have hp:=RdPS.bl hp hb4
    have hbw:=hbw.next hb4
    go_upto_region 3 with (fail)
    refine wp_gen (fun W=> Bl w4 W∧∃ g9 g10,Blk W g9 58 #[.int .i64 A.a,.int .i64 A.b,.int .i64 A.c,.int .i64 A.region,.int .i64 A.level]∧Blk W g10 58 #[.int .i64 B.a,.int .i64 B.b,.int .i64 B.c,.int .i64 B.region,.int .i64 B.level]∧g9=w4.heap.size∧g10=w4.heap.size+1) ⟨slc,_,_,by exact bts,by exact bts,rfl,rfl⟩ ?_
    rintro W ⟨hbW3,g9,g10,h9,h10,hg9,hg10⟩
    rw[← hg10,← hg9]
    have h3:=h3.bl hbW3
    have h7:=h7.bl hbW3
    have h8:=h8.bl hbW3
    have hp:=RdPS.bl hp hbW3
    have hbw:=hbw.next hbW3
    clear hg9 hg10 hbW3 hb4 hbW hs_ ht_ hA hB
    have hw1:IntKind.i64.wrap ((k:Int)+1)=(k:Int)+1:=by rw[IntKind.wrap_i64];omega
    have hsv:=Lib.hid hpr
    clear hpr
    obtain⟨x30,x31⟩:=bx2 h3
    obtain⟨x70,x71,x72,x73,x74⟩:=bx5 h7
    obtain⟨x80,x81,x82,x83,x84⟩:=bx5 h8
    obtain⟨x90,x91,x92,x93,x94⟩:=bx5 h9
    obtain⟨x00,x01,x02,x03,x04⟩:=bx5 h10
    by_cases c1:(l:Int)=(k:Int)+1
    · have f1:((l:Int) == (k:Int)+1)=true:=by simpa using c1
      by_cases c2:0 < s.level
      · by_cases c3:A=s
        · have f3:∀ W,Sem.run Tryz.prog (binOp BinOp.eql 58 (.agg #[.int .i64 A.a,.int .i64 A.b,.int .i64 A.c,.int .i64 A.region,.int .i64 A.level]) (.agg #[.int .i64 s.a,.int .i64 s.b,.int .i64 s.c,.int .i64 s.region,.int .i64 s.level])) W=.ok (.bool true) W:=fun W=> by rw[run_eql_tri,decide_eq_true c3]
          by_cases c4:B=t
          · have f4:∀ W,Sem.run Tryz.prog (binOp BinOp.eql 58 (.agg #[.int .i64 B.a,.int .i64 B.b,.int .i64 B.c,.int .i64 B.region,.int .i64 B.level]) (.agg #[.int .i64 t.a,.int .i64 t.b,.int .i64 t.c,.int .i64 t.region,.int .i64 t.level])) W=.ok (.bool true) W:=fun W=> by rw[run_eql_tri,decide_eq_true c4]
            have hs:=Lib.hid (show prB mq k l=decide (midQ (mc mq s.c) (mc mq t.b)=mc mq s.a) by rw[hsv.out,decide_eq_true c1,decide_eq_true c2,decide_eq_true c3,decide_eq_true c4];simp)
            obtain⟨⟨ha0,ha1⟩,_,hc0,hc1⟩:=hik
            obtain⟨_,⟨hb0,hb1⟩,_⟩:=hil
            obtain⟨ua,hua⟩:∃ ua:Nat,s.a=(ua:Int):=⟨s.a.toNat,by omega⟩
            obtain⟨uc,huc⟩:∃ uc:Nat,s.c=(uc:Int):=⟨s.c.toNat,by omega⟩
            obtain⟨ub,hub⟩:∃ ub:Nat,t.b=(ub:Int):=⟨t.b.toNat,by omega⟩
            rw[hua] at ha0 ha1
            rw[huc] at hc0 hc1
            rw[hub] at hb0 hb1
            have la:ua < n:=by omega
            have lb:ub < n:=by omega
            have lc:uc < n:=by omega
            have hmid:=Lib.hid (show decide (midQ (mc mq s.c) (mc mq t.b)=mc mq s.a)=eqP (midP (tp (pix mq.pts uc)) (tp (pix mq.pts ub))) (tp (pix mq.pts ua)) by unfold mc;rw[hua,hub,huc,Int.toNat_natCast,Int.toNat_natCast,Int.toNat_natCast];exact eqP_mid (hfH.out.sm _ (by rw[hn.out];exact lc)) (hfH.out.sm _ (by rw[hn.out];exact lb)))
            have hsc:=Lib.hid (hfH.out.sm uc (by rw[hn.out];exact lc))
            have hsb:=Lib.hid (hfH.out.sm ub (by rw[hn.out];exact lb))
            have hx7:=pix_map (l:=mq.pts) (k:=uc) (by rw[hn.out];exact lc)
            have hx8:=pix_map (l:=mq.pts) (k:=ub) (by rw[hn.out];exact lb)
            have hx9:=pix_map (l:=mq.pts) (k:=ua) (by rw[hn.out];exact la)
            obtain⟨s7,A7,n7,c7,B7,m7,d7,t7,C7,i7,e7,D7,j7,f7,⟨xa0,xa1,xa2,xa3,xa4,xa5⟩,hXa,hYa⟩:=pts_lit hp lc
            obtain⟨s8,A8,n8,c8,B8,m8,d8,t8,C8,i8,e8,D8,j8,f8,⟨xb0,xb1,xb2,xb3,xb4,xb5⟩,hXb,hYb⟩:=pts_lit hp lb
            obtain⟨s9,A9,n9,c9,B9,m9,d9,t9,C9,i9,e9,D9,j9,f9,⟨xc0,xc1,xc2,xc3,xc4,xc5⟩,hXc,hYc⟩:=pts_lit hp la
            rw[hx7] at hXa hYa
            rw[hx8] at hXb hYb
            rw[hx9] at hXc hYc
            obtain⟨_,egp,hgp,_⟩:=hp.cells uc lc
            cases egp
            rw[hua,huc] at h7 f3
            rw[hub] at h8 f4
            clear x30 x31 x70 x71 x72 x73 x74 x80 x81 x82 x83 x84 x90 x91 x92 x93 x94 x00 x01 x02 x03 x04 hx7 hx8 hx9 c3 c4 hua huc hub
            go_region_held3 (fun w' =>(w'.cell? ⟨g3,0,none⟩=some ((.slice (some ⟨gp,0,none⟩) n cp))∧w'.cell? ⟨g3,1,none⟩=some ((.slice (some ⟨gt,0,none⟩) m ct)))∧(w'.cell? ⟨g7,0,none⟩=some ((.int .i64 (ua:Int)))∧w'.cell? ⟨g7,1,none⟩=some (.int .i64 s.b)∧w'.cell? ⟨g7,2,none⟩=some ((.int .i64 (uc:Int)))∧w'.cell? ⟨g7,3,none⟩=some (.int .i64 s.region)∧w'.cell? ⟨g7,4,none⟩=some (.int .i64 s.level))∧(w'.cell? ⟨g8,0,none⟩=some (.int .i64 t.a)∧w'.cell? ⟨g8,1,none⟩=some ((.int .i64 (ub:Int)))∧w'.cell? ⟨g8,2,none⟩=some (.int .i64 t.c)∧w'.cell? ⟨g8,3,none⟩=some (.int .i64 t.region)∧w'.cell? ⟨g8,4,none⟩=some (.int .i64 t.level))∧(w'.cell? ⟨g9,0,none⟩=some (.int .i64 A.a)∧w'.cell? ⟨g9,1,none⟩=some (.int .i64 A.b)∧w'.cell? ⟨g9,2,none⟩=some (.int .i64 A.c)∧w'.cell? ⟨g9,3,none⟩=some (.int .i64 A.region)∧w'.cell? ⟨g9,4,none⟩=some (.int .i64 A.level))∧(w'.cell? ⟨g10,0,none⟩=some (.int .i64 B.a)∧w'.cell? ⟨g10,1,none⟩=some (.int .i64 B.b)∧w'.cell? ⟨g10,2,none⟩=some (.int .i64 B.c)∧w'.cell? ⟨g10,3,none⟩=some (.int .i64 B.region)∧w'.cell? ⟨g10,4,none⟩=some (.int .i64 B.level))∧(w'.cell? ⟨gp,uc * 6,none⟩=some (.bool s7)∧w'.cell? ⟨gp,uc * 6+1,none⟩=some (.slice A7 n7 c7)∧w'.cell? ⟨gp,uc * 6+2,none⟩=some (.slice B7 m7 d7)∧w'.cell? ⟨gp,uc * 6+3,none⟩=some (.bool t7)∧w'.cell? ⟨gp,uc * 6+4,none⟩=some (.slice C7 i7 e7)∧w'.cell? ⟨gp,uc * 6+5,none⟩=some (.slice D7 j7 f7))∧(w'.cell? ⟨gp,ub * 6,none⟩=some (.bool s8)∧w'.cell? ⟨gp,ub * 6+1,none⟩=some (.slice A8 n8 c8)∧w'.cell? ⟨gp,ub * 6+2,none⟩=some (.slice B8 m8 d8)∧w'.cell? ⟨gp,ub * 6+3,none⟩=some (.bool t8)∧w'.cell? ⟨gp,ub * 6+4,none⟩=some (.slice C8 i8 e8)∧w'.cell? ⟨gp,ub * 6+5,none⟩=some (.slice D8 j8 f8))∧(w'.cell? ⟨gp,ua * 6,none⟩=some (.bool s9)∧w'.cell? ⟨gp,ua * 6+1,none⟩=some (.slice A9 n9 c9)∧w'.cell? ⟨gp,ua * 6+2,none⟩=some (.slice B9 m9 d9)∧w'.cell? ⟨gp,ua * 6+3,none⟩=some (.bool t9)∧w'.cell? ⟨gp,ua * 6+4,none⟩=some (.slice C9 i9 e9)∧w'.cell? ⟨gp,ua * 6+5,none⟩=some (.slice D9 j9 f9))) (first | exact⟨bx2 (T:=26) (h3.bl slc),bx5 (T:=58) (h7.bl slc),bx5 (T:=58) (h8.bl slc),bx5 (T:=58) (h9.bl slc),bx5 (T:=58) (h10.bl slc),⟨(Bl.cellOf (w:=W) (p:=⟨gp,uc * 6,none⟩) slc hgp).trans xa0,(Bl.cellOf (w:=W) (p:=⟨gp,uc * 6+1,none⟩) slc hgp).trans xa1,(Bl.cellOf (w:=W) (p:=⟨gp,uc * 6+2,none⟩) slc hgp).trans xa2,(Bl.cellOf (w:=W) (p:=⟨gp,uc * 6+3,none⟩) slc hgp).trans xa3,(Bl.cellOf (w:=W) (p:=⟨gp,uc * 6+4,none⟩) slc hgp).trans xa4,(Bl.cellOf (w:=W) (p:=⟨gp,uc * 6+5,none⟩) slc hgp).trans xa5⟩,⟨(Bl.cellOf (w:=W) (p:=⟨gp,ub * 6,none⟩) slc hgp).trans xb0,(Bl.cellOf (w:=W) (p:=⟨gp,ub * 6+1,none⟩) slc hgp).trans xb1,(Bl.cellOf (w:=W) (p:=⟨gp,ub * 6+2,none⟩) slc hgp).trans xb2,(Bl.cellOf (w:=W) (p:=⟨gp,ub * 6+3,none⟩) slc hgp).trans xb3,(Bl.cellOf (w:=W) (p:=⟨gp,ub * 6+4,none⟩) slc hgp).trans xb4,(Bl.cellOf (w:=W) (p:=⟨gp,ub * 6+5,none⟩) slc hgp).trans xb5⟩,⟨(Bl.cellOf (w:=W) (p:=⟨gp,ua * 6,none⟩) slc hgp).trans xc0,(Bl.cellOf (w:=W) (p:=⟨gp,ua * 6+1,none⟩) slc hgp).trans xc1,(Bl.cellOf (w:=W) (p:=⟨gp,ua * 6+2,none⟩) slc hgp).trans xc2,(Bl.cellOf (w:=W) (p:=⟨gp,ua * 6+3,none⟩) slc hgp).trans xc3,(Bl.cellOf (w:=W) (p:=⟨gp,ua * 6+4,none⟩) slc hgp).trans xc4,(Bl.cellOf (w:=W) (p:=⟨gp,ua * 6+5,none⟩) slc hgp).trans xc5⟩⟩) (first |(go_at_call 74;(with_reducible refine(Middle_sm _ (hXa.bl slc) (hYa.bl slc) (hXb.bl slc) (hYb.bl slc) hsc.out hsb.out rfl rfl).mono ?_);rintro e w6 ⟨s5,A5,n5,c5,B5,m5,d5,t5,C5,i5,e5,D5,j5,f5,rfl,hP6,hb6⟩) |(go_at_call 37;(with_reducible refine(SamePoint_any _ (hP6.rx.bl slc) (hP6.ry.bl slc) (hXc.bl slc) (hYc.bl slc)).mono ?_);rintro e w7 ⟨rfl,hb7⟩))
            all_goals (go_wp2_with fail)
            all_goals go_ret
            all_goals exact⟨by rw[hs.out,hmid.out];rfl,slc⟩
          · have f4:∀ W,Sem.run Tryz.prog (binOp BinOp.eql 58 (.agg #[.int .i64 B.a,.int .i64 B.b,.int .i64 B.c,.int .i64 B.region,.int .i64 B.level]) (.agg #[.int .i64 t.a,.int .i64 t.b,.int .i64 t.c,.int .i64 t.region,.int .i64 t.level])) W=.ok (.bool false) W:=fun W=> by rw[run_eql_tri,decide_eq_false c4]
            have hs:=Lib.hid (show prB mq k l=false by rw[hsv.out,decide_eq_false c4];simp)
            clear c3 c4
            go_wp2_with fail
            go_quiet (fail)
            all_goals (go_wp2_with fail)
            all_goals go_ret
            all_goals exact⟨by rw[hs.out];rfl,slc⟩
        · have f3:∀ W,Sem.run Tryz.prog (binOp BinOp.eql 58 (.agg #[.int .i64 A.a,.int .i64 A.b,.int .i64 A.c,.int .i64 A.region,.int .i64 A.level]) (.agg #[.int .i64 s.a,.int .i64 s.b,.int .i64 s.c,.int .i64 s.region,.int .i64 s.level])) W=.ok (.bool false) W:=fun W=> by rw[run_eql_tri,decide_eq_false c3]
          have hs:=Lib.hid (show prB mq k l=false by rw[hsv.out,decide_eq_false c3];simp)
          clear c3
          go_wp2_with fail
          go_quiet (fail)
          all_goals (go_wp2_with fail)
          all_goals go_ret
          all_goals exact⟨by rw[hs.out];rfl,slc⟩
      · have f2:decide (0 < s.level)=false:=decide_eq_false c2
        have hs:=Lib.hid (show prB mq k l=false by rw[hsv.out,decide_eq_false c2];simp)
        clear c2
        go_wp2_with fail
        go_quiet (fail)
        all_goals (go_wp2_with fail)
        all_goals go_ret
        all_goals exact⟨by rw[hs.out];rfl,slc⟩
    · have f1:((l:Int) == (k:Int)+1)=false:=by simpa using c1
      have hs:=Lib.hid (show prB mq k l=false by rw[hsv.out,decide_eq_false c1];simp)
      clear c1
      go_wp2_with fail
      go_quiet (fail)
      all_goals (go_wp2_with fail)
      all_goals go_ret
      all_goals exact⟨by rw[hs.out];rfl,slc⟩
end

end Go.Proofs.YtmkcacgmnnlddaaGreat
