import Derived.Test.YtmkcacgmnnlddaaGreatRows
import Derived.Test.YtmkcacgmnnlddaaGreatPClosureM23
import Derived.Test.YtmkcacgmnnlddaaGreatPClosureM19
import Derived.Deep.Cut
import Derived.Deep.DeepCutAuto
import Derived.Test.YtmkcacgmnnlddaaGreatPClosureM12
import Derived.Test.YtmkcacgmnnlddaaGreatPClosureM11
import Derived.Test.YtmkcacgmnnlddaaGreatPClosureM20
namespace Go.Proofs.YtmkcacgmnnlddaaGreat
set_option maxRecDepth 100000
set_option maxHeartbeats 16000000
section
open Go.RowKit
noncomputable def sclP (r:RatD) (p:PtD):PtD:=ifP ⟨mulR r p.x,mulR r p.y⟩
theorem ScalePoint_any (w:World) {s:Bool}{A:Option Addr}{n c:Nat}{B:Option Addr}{m d:Nat}{r:RatD}{s':Bool}{A':Option Addr}{n' c':Nat}{B':Option Addr}{m' d':Nat}{t':Bool}{C':Option Addr}{i' e':Nat}{D':Option Addr}{j' f':Nat}{p':PtD}(h:RdR w s A n c B m d r) (h':RdR w s' A' n' c' B' m' d' p'.x) (k':RdR w t' C' i' e' D' j' f' p'.y) :
  Calls Tryz.prog 104 #[.agg #[.bool s,.slice A n c,.slice B m d],.agg #[.bool s',.slice A' n' c',.slice B' m' d',.bool t',.slice C' i' e',.slice D' j' f']] w fun en w'=>∃s1 A1 n1 c1 B1 m1 d1 t1 C1 i1 e1 D1 j1 f1,en=.returned (.agg #[.bool s1,.slice A1 n1 c1,.slice B1 m1 d1,.bool t1,.slice C1 i1 e1,.slice D1 j1 f1])∧OwP 3 w.heap.size w' s1 A1 n1 c1 B1 m1 d1 t1 C1 i1 e1 D1 j1 f1 (sclP r p')∧Bl w w':=by
 go_enter Tryz.func104,Tryz.ntmps104
 go_wp2_with fail
 refine wp_gen (fun W=>Bl w W∧Blk W (w.heap.size) 54 #[.bool s,.slice A n c,.slice B m d]∧Blk W (w.heap.size+1) 56 #[.bool s',.slice A' n' c',.slice B' m' d',.bool t',.slice C' i' e',.slice D' j' f']∧Wk 6 56 (w.heap.size+1+1) W) ⟨slc,bts,bts,bts⟩ ?_
 rintro W ⟨hbW,hx,hx',hr⟩
 go_region_held3 (fun w'=>(w'.cell? ⟨w.heap.size,0,none⟩=some (.bool s)∧w'.cell? ⟨w.heap.size,1,none⟩=some (.slice A n c)∧w'.cell? ⟨w.heap.size,2,none⟩=some (.slice B m d))∧(w'.cell? ⟨w.heap.size+1,0,none⟩=some (.bool s')∧w'.cell? ⟨w.heap.size+1,1,none⟩=some (.slice A' n' c')∧w'.cell? ⟨w.heap.size+1,2,none⟩=some (.slice B' m' d')∧w'.cell? ⟨w.heap.size+1,3,none⟩=some (.bool t')∧w'.cell? ⟨w.heap.size+1,4,none⟩=some (.slice C' i' e')∧w'.cell? ⟨w.heap.size+1,5,none⟩=some (.slice D' j' f'))∧(w'.cell? ⟨w.heap.size+1+1,0,none⟩=some (cellD w' (w.heap.size+1+1) 0)∧w'.cell? ⟨w.heap.size+1+1,1,none⟩=some (cellD w' (w.heap.size+1+1) 1)∧w'.cell? ⟨w.heap.size+1+1,2,none⟩=some (cellD w' (w.heap.size+1+1) 2)∧w'.cell? ⟨w.heap.size+1+1,3,none⟩=some (cellD w' (w.heap.size+1+1) 3)∧w'.cell? ⟨w.heap.size+1+1,4,none⟩=some (cellD w' (w.heap.size+1+1) 4)∧w'.cell? ⟨w.heap.size+1+1,5,none⟩=some (cellD w' (w.heap.size+1+1) 5))∧w'.frozen? ⟨w.heap.size+1+1,0,none⟩=false∧w'.frozen? ⟨w.heap.size+1+1,1,none⟩=false∧w'.frozen? ⟨w.heap.size+1+1,2,none⟩=false∧w'.frozen? ⟨w.heap.size+1+1,3,none⟩=false∧w'.frozen? ⟨w.heap.size+1+1,4,none⟩=false∧w'.frozen? ⟨w.heap.size+1+1,5,none⟩=false) (first|exact⟨bx3 (T:=54) bts,bx6 (T:=56) bts,Wk.out6 (T:=56) bts⟩) (first |(go_at_call 135;with_reducible refine(RatMul_any _ (h.bl slc) (h'.bl slc)).mono ?_;rintro en w2 ⟨s2,A2,n2,c2,B2,m2,d2,rfl,hR2,hb2⟩) |(go_at_call 135;with_reducible refine(RatMul_any _ (h.bl slc) (k'.bl slc)).mono ?_;rintro en w3 ⟨s3,A3,n3,c3,B3,m3,d3,rfl,hR3,hb3⟩) |(go_at_call 134;refine(ifPoint_any (p:=⟨mulR r p'.x,mulR r p'.y⟩) _ (OwP.two hR2 hR3 hb3 (Bl.size hb2))).mono ?_;rintro en w4 ⟨s1,A1,n1,c1,B1,m1,d1,t1,C1,i1,e1,D1,j1,f1,rfl,hX,hb4⟩))
 have hz:w.heap.size+1+1+1≤W.heap.size:=hr.lt
 have hr:=(show Wk 6 56 (w.heap.size+1+1) w4 from bts)
 have hbW:Bl w w4:=slc
 have hX:=hX.low (show w.heap.size+1+1+1≤W.drew.heap.size from hz)
 obtain⟨v0,x0⟩:=hr.val_ (i:=0) (by omega)
 obtain⟨v1,x1⟩:=hr.val_ (i:=1) (by omega)
 obtain⟨v2,x2⟩:=hr.val_ (i:=2) (by omega)
 obtain⟨v3,x3⟩:=hr.val_ (i:=3) (by omega)
 obtain⟨v4,x4⟩:=hr.val_ (i:=4) (by omega)
 obtain⟨v5,x5⟩:=hr.val_ (i:=5) (by omega)
 have hg:=hr.lt
 obtain⟨cs4,hB4,hc4⟩:=hr
 have hf0:=hB4.frozen 0
 have hf1:=hB4.frozen 1
 have hf2:=hB4.frozen 2
 have hf3:=hB4.frozen 3
 have hf4:=hB4.frozen 4
 have hf5:=hB4.frozen 5
 go_wp2_with fail
 exact bodyPost_ret (v:=.agg #[.bool s1,.slice A1 n1 c1,.slice B1 m1 d1,.bool t1,.slice C1 i1 e1,.slice D1 j1 f1]) (by simp[results,Tryz.results104,go_sem,x0,x1,x2,x3,x4,x5]) rfl ⟨_,_,_,_,_,_,_,_,_,_,_,_,_,_,rfl,((((((hX.far (by simp) _).far (by simp) _).far (by simp) _).far (by simp) _).far (by simp) _).far (by simp) _).low (by omega),slc⟩
noncomputable def midP (p q:PtD):PtD:=sclP (ofFrac 1 2) (addP p q)
theorem Middle_any (w:World) {s:Bool}{A:Option Addr}{n c:Nat}{B:Option Addr}{m d:Nat}{t:Bool}{C:Option Addr}{i e:Nat}{D:Option Addr}{j f:Nat}{p:PtD}{s':Bool}{A':Option Addr}{n' c':Nat}{B':Option Addr}{m' d':Nat}{t':Bool}{C':Option Addr}{i' e':Nat}{D':Option Addr}{j' f':Nat}{p':PtD}(h:RdR w s A n c B m d p.x) (k:RdR w t C i e D j f p.y) (h':RdR w s' A' n' c' B' m' d' p'.x) (k':RdR w t' C' i' e' D' j' f' p'.y) :
  Calls Tryz.prog 74 #[.agg #[.bool s,.slice A n c,.slice B m d,.bool t,.slice C i e,.slice D j f],.agg #[.bool s',.slice A' n' c',.slice B' m' d',.bool t',.slice C' i' e',.slice D' j' f']] w fun en w'=>∃s1 A1 n1 c1 B1 m1 d1 t1 C1 i1 e1 D1 j1 f1,en=.returned (.agg #[.bool s1,.slice A1 n1 c1,.slice B1 m1 d1,.bool t1,.slice C1 i1 e1,.slice D1 j1 f1])∧OwP 3 w.heap.size w' s1 A1 n1 c1 B1 m1 d1 t1 C1 i1 e1 D1 j1 f1 (midP p p')∧Bl w w':=by
 go_enter Tryz.func74,Tryz.ntmps74
 go_wp2_with fail
 refine wp_gen (fun W=>Bl w W∧Blk W (w.heap.size) 56 #[.bool s,.slice A n c,.slice B m d,.bool t,.slice C i e,.slice D j f]∧Blk W (w.heap.size+1) 56 #[.bool s',.slice A' n' c',.slice B' m' d',.bool t',.slice C' i' e',.slice D' j' f']∧Wk 6 56 (w.heap.size+1+1) W) ⟨slc,bts,bts,bts⟩ ?_
 rintro W ⟨hbW,hx,hx',hr⟩
 go_region_held3 (fun w'=>(w'.cell? ⟨w.heap.size,0,none⟩=some (.bool s)∧w'.cell? ⟨w.heap.size,1,none⟩=some (.slice A n c)∧w'.cell? ⟨w.heap.size,2,none⟩=some (.slice B m d)∧w'.cell? ⟨w.heap.size,3,none⟩=some (.bool t)∧w'.cell? ⟨w.heap.size,4,none⟩=some (.slice C i e)∧w'.cell? ⟨w.heap.size,5,none⟩=some (.slice D j f))∧(w'.cell? ⟨w.heap.size+1,0,none⟩=some (.bool s')∧w'.cell? ⟨w.heap.size+1,1,none⟩=some (.slice A' n' c')∧w'.cell? ⟨w.heap.size+1,2,none⟩=some (.slice B' m' d')∧w'.cell? ⟨w.heap.size+1,3,none⟩=some (.bool t')∧w'.cell? ⟨w.heap.size+1,4,none⟩=some (.slice C' i' e')∧w'.cell? ⟨w.heap.size+1,5,none⟩=some (.slice D' j' f'))∧(w'.cell? ⟨w.heap.size+1+1,0,none⟩=some (cellD w' (w.heap.size+1+1) 0)∧w'.cell? ⟨w.heap.size+1+1,1,none⟩=some (cellD w' (w.heap.size+1+1) 1)∧w'.cell? ⟨w.heap.size+1+1,2,none⟩=some (cellD w' (w.heap.size+1+1) 2)∧w'.cell? ⟨w.heap.size+1+1,3,none⟩=some (cellD w' (w.heap.size+1+1) 3)∧w'.cell? ⟨w.heap.size+1+1,4,none⟩=some (cellD w' (w.heap.size+1+1) 4)∧w'.cell? ⟨w.heap.size+1+1,5,none⟩=some (cellD w' (w.heap.size+1+1) 5))∧w'.frozen? ⟨w.heap.size+1+1,0,none⟩=false∧w'.frozen? ⟨w.heap.size+1+1,1,none⟩=false∧w'.frozen? ⟨w.heap.size+1+1,2,none⟩=false∧w'.frozen? ⟨w.heap.size+1+1,3,none⟩=false∧w'.frozen? ⟨w.heap.size+1+1,4,none⟩=false∧w'.frozen? ⟨w.heap.size+1+1,5,none⟩=false) (first|exact⟨bx6 (T:=56) bts,bx6 (T:=56) bts,Wk.out6 (T:=56) bts⟩) (first |(go_at_call 105;with_reducible refine(RatOf_any _ 1 2 (by omega) (by omega) (by omega) (by omega)).mono ?_;rintro en w2 ⟨s2,A2,n2,c2,B2,m2,d2,rfl,hR2,hb2⟩) |(go_at_call 106;with_reducible refine(AddPoints_any _ (h.bl slc) (k.bl slc) (h'.bl slc) (k'.bl slc)).mono ?_;rintro en w3 ⟨s3,A3,n3,c3,B3,m3,d3,t3,C3,i3,e3,D3,j3,f3,rfl,hP3,hb3⟩) |(go_at_call 104;refine(ScalePoint_any _ (hR2.rd.bl slc) (hP3.rx.bl slc) (hP3.ry.bl slc)).mono ?_;rintro en w4 ⟨s1,A1,n1,c1,B1,m1,d1,t1,C1,i1,e1,D1,j1,f1,rfl,hX,hb4⟩;replace hX:=hX.low (show W.drew.heap.size≤_ from Bl.size (by exact slc))))
 have hz:w.heap.size+1+1+1≤W.heap.size:=hr.lt
 have hr:=(show Wk 6 56 (w.heap.size+1+1) w4 from bts)
 have hbW:Bl w w4:=slc
 have hX:=hX.low (show w.heap.size+1+1+1≤W.drew.heap.size from hz)
 obtain⟨v0,x0⟩:=hr.val_ (i:=0) (by omega)
 obtain⟨v1,x1⟩:=hr.val_ (i:=1) (by omega)
 obtain⟨v2,x2⟩:=hr.val_ (i:=2) (by omega)
 obtain⟨v3,x3⟩:=hr.val_ (i:=3) (by omega)
 obtain⟨v4,x4⟩:=hr.val_ (i:=4) (by omega)
 obtain⟨v5,x5⟩:=hr.val_ (i:=5) (by omega)
 have hg:=hr.lt
 obtain⟨cs4,hB4,hc4⟩:=hr
 have hf0:=hB4.frozen 0
 have hf1:=hB4.frozen 1
 have hf2:=hB4.frozen 2
 have hf3:=hB4.frozen 3
 have hf4:=hB4.frozen 4
 have hf5:=hB4.frozen 5
 go_wp2_with fail
 exact bodyPost_ret (v:=.agg #[.bool s1,.slice A1 n1 c1,.slice B1 m1 d1,.bool t1,.slice C1 i1 e1,.slice D1 j1 f1]) (by simp[results,Tryz.results74,go_sem,x0,x1,x2,x3,x4,x5]) rfl ⟨_,_,_,_,_,_,_,_,_,_,_,_,_,_,rfl,((((((hX.far (by simp) _).far (by simp) _).far (by simp) _).far (by simp) _).far (by simp) _).far (by simp) _).low (by omega),slc⟩
end
section
open Go.RowKit
def B10 (k:Nat) (q:Rat):Prop:=Bd (10 ^ k) q
theorem ten_lt {k:Nat}(hk:k<216):10 ^ k<Bs ^ 24:=by
 have h1:(10:Nat) ^ k≤10 ^ 215:=Nat.pow_le_pow_right (by omega) (by omega)
 exact Nat.lt_of_le_of_lt h1 (by decide)
section
variable {a b k:Nat}{p q:Rat}
theorem B10.fit (h:B10 k q) (hk:k<216):Fit q:=Bd.fit h (ten_lt hk)
theorem B10.mono (h:B10 a q) (hk:a≤b):B10 b q:=Bd.mono h (Nat.pow_le_pow_right (by omega) hk)
theorem B10.of {N:Nat}(h:Bd N q) (hk:N≤10 ^ k):B10 k q:=Bd.mono h hk
theorem B10.add (h:B10 a p) (k:B10 b q):B10 (a+b+1) (p+q):=(Bd.add h k).mono (by rw[Nat.pow_succ,Nat.pow_add];omega)
theorem B10.sub (h:B10 a p) (k:B10 b q):B10 (a+b+1) (p-q):=(Bd.sub h k).mono (by rw[Nat.pow_succ,Nat.pow_add];omega)
theorem B10.mul (h:B10 a p) (k:B10 b q):B10 (a+b) (p*q):=(Bd.mul h k).mono (by rw[Nat.pow_add];exact Nat.le_refl _)
theorem B10.neg (h:B10 a p):B10 a (-p):=Bd.neg h
theorem addR_b (h:B10 a p) (k:B10 b q) (hk:a+b+1<216):addR (toR p) (toR q)=toR (p+q):=addR_toR (h.fit (by omega)) (k.fit (by omega)) ((h.add k).fit hk)
theorem mulR_b (h:B10 a p) (k:B10 b q) (hk:a+b<216):mulR (toR p) (toR q)=toR (p*q):=mulR_toR (h.fit (by omega)) (k.fit (by omega)) ((h.mul k).fit hk)
end
section
variable {a b c k:Nat}{x y u v p q:Rat}
theorem ifP_b (hx:B10 a x) (hy:B10 a y) (hk:a<216):ifP (toP x y)=toP x y:=ifP_toP (hx.fit hk) (hy.fit hk)
theorem addP_b (hx:B10 a x) (hy:B10 a y) (hu:B10 b u) (hv:B10 b v) (hk:a+b+1<216):addP (toP x y) (toP u v)=toP (x+u) (y+v):=by
 show ifP ⟨addR (toR x) (toR u),addR (toR y) (toR v)⟩=_
 rw[addR_b hx hu hk,addR_b hy hv hk]
 exact ifP_b (hx.add hu) (hy.add hv) hk
theorem sclP_b (hq:B10 b q) (hx:B10 a x) (hy:B10 a y) (hk:b+a<216):sclP (toR q) (toP x y)=toP (q*x) (q*y):=by
 show ifP ⟨mulR (toR q) (toR x),mulR (toR q) (toR y)⟩=_
 rw[mulR_b hq hx hk,mulR_b hq hy hk]
 exact ifP_b (hq.mul hx) (hq.mul hy) hk
end
end
section
open Go.RowKit
theorem sRatCmp_yes (w:World) {s:Bool}{A:Option Addr}{n c:Nat}{B:Option Addr}{m d:Nat}{r:RatD}{s':Bool}{A':Option Addr}{n' c':Nat}{B':Option Addr}{m' d':Nat}{r':RatD}(h:RdR w s A n c B m d r) (k:RdR w s' A' n' c' B' m' d' r') (ho:OkR r∧OkR r') :
  Calls Tryz.prog 152 #[.agg #[.bool s,.slice A n c,.slice B m d],.agg #[.bool s',.slice A' n' c',.slice B' m' d']] w fun e w'=>e=.returned (.int .i64 (cmpR r r'))∧Bl w w':=by
 have hL:=OkR.lens h ho.1
 have hL':=OkR.lens k ho.2
 have hval:=Lib.hid (cmpR_val ho)
 have h1:=Lib.hid (okR_true.2 ho.1)
 have h2:=Lib.hid (okR_true.2 ho.2)
 clear ho
 generalize hcz:cmpZ (rn r*(rd r':Int)) (rn r'*(rd r:Int))=cz at *
 replace hcz:=Lib.hid hcz
 go_enter Tryz.func152,Tryz.ntmps152
 go_upto_region 1 with (fail)
 refine wp_gen (fun W=>Bl w W∧∃g2 g3,Blk W g2 54 #[.bool s,.slice A n c,.slice B m d]∧Blk W g3 54 #[.bool s',.slice A' n' c',.slice B' m' d']∧g2=w.heap.size∧g3=w.heap.size+1) ⟨slc,_,_,by exact bts,by exact bts,rfl,rfl⟩ ?_
 rintro W ⟨hbW,g2,g3,hx,hx',hg2,hg3⟩
 rw[←hg3,←hg2]
 clear hg2 hg3
 obtain⟨i0,i1,i2⟩:=bx3 hx
 go_wp2_with fail
 refine(sRatOk_any _ (h.bl hbW)).mono ?_
 rw[h1.out]
 rintro e w1 ⟨rfl,hb1⟩
 have hx:=hx.bl hb1
 have hx':=hx'.bl hb1
 have hbW:=hbW.next hb1
 clear hb1 i0 i1 i2
 obtain⟨j0,j1,j2⟩:=bx3 hx'
 go_wp2_with fail
 refine(sRatOk_any _ (k.bl hbW)).mono ?_
 rw[h2.out]
 rintro e w2 ⟨rfl,hb2⟩
 have hx:=hx.bl hb2
 have hx':=hx'.bl hb2
 have hbW:=hbW.next hb2
 clear hb2 j0 j1 j2
 obtain⟨i0,i1,i2⟩:=bx3 hx
 obtain⟨j0,j1,j2⟩:=bx3 hx'
 go_wp2_with fail
 refine(l04Cmp_any _ (IsR.out (h.bl hbW) (okR_true.1 h1.out)) (IsR.out (k.bl hbW) (okR_true.1 h2.out)) (by omega) (by omega) (by omega) (by omega) hL.2.2 hL'.2.2).mono ?_
 rw[hcz.out]
 rintro e w3 ⟨rfl,hb3⟩
 go_wp2_with fail
 go_ret
 exact⟨by rw[hval.out];rfl,hbW.next hb3⟩
end
section
open Go.RowKit
theorem OwR.setT {T TP:TypeId}{b0 g k:Nat}{w:World}{s:Bool}{A:Option Addr}{n c:Nat}{B:Option Addr}{m d:Nat}{r:RatD}(h:OwR T b0 w s A n c B m d r) (hk:Wk k TP g w) (hne:T≠TP) (i0:Nat) (u:Value):OwR T b0 (w.setCell ⟨g,i0,none⟩ u) s A n c B m d r:=by
 obtain⟨bs,h1,hf⟩:=h
 exact⟨bs,h1.keep (by simp) (fun b hb=>Below.heap_setCell w _ u b (h1.neT hk hne b hb)),hf.mono (Nat.le_refl _) (by simp)⟩
theorem OwR.put3 {T TP:TypeId}{b0 g k:Nat}{w:World}{s:Bool}{A:Option Addr}{n c:Nat}{B:Option Addr}{m d:Nat}{r:RatD}(h:OwR T b0 w s A n c B m d r) (hk:Wk k TP g w) (hne:T≠TP) (u0 u1 u2:Value) :
  OwR T b0 (((w.setCell ⟨g,0,none⟩ u0).setCell ⟨g,1,none⟩ u1).setCell ⟨g,2,none⟩ u2) s A n c B m d r :=
 ((h.setT hk hne 0 u0).setT (hk.set 0 u0) hne 1 u1).setT ((hk.set 0 u0).set 1 u1) hne 2 u2
theorem ne_ir:(3:TypeId)≠54:=by decide
end
section
open Go.RowKit
def NoPos (a b:PtD) (l:List PtD):Prop:=∀k,k<l.length→¬0<sgnR (dblA a b (pix l k))
def NoTo (a b:PtD) (l:List PtD) (k:Nat):Prop:=∀j,j<k→¬0<sgnR (dblA a b (pix l j))
theorem NoTo.zero (a b:PtD) (l:List PtD):NoTo a b l 0:=fun j hj=>by omega
theorem NoTo.step {a b:PtD}{l:List PtD}{k:Nat}(h:NoTo a b l k) (h0:¬0<sgnR (dblA a b (pix l k))):NoTo a b l (k+1):=by
 intro j hj
 rcases Nat.lt_succ_iff_lt_or_eq.1 hj with hj|rfl
 ·exact h j hj
 ·exact h0
end
section
open Go.RowKit
def SepTo (a b c:PtD) (m:List PtD) (k:Nat):Prop:=(0<k→¬NoPos a b m)∧(1<k→¬NoPos b c m)∧(2<k→¬NoPos c a m)
def Sep3 (l m:List PtD):Prop:=∃a b c,l=[a,b,c]∧(NoPos a b m∨NoPos b c m∨NoPos c a m)
open Classical in
noncomputable def sepB (l m:List PtD):Bool:=decide (Sep3 l m)
theorem sepB_yes {a b c:PtD}{m:List PtD}(h:NoPos a b m∨NoPos b c m∨NoPos c a m):sepB [a,b,c] m=true:=by
 unfold sepB
 simp only[decide_eq_true_eq]
 exact⟨a,b,c,rfl,h⟩
theorem sepB_no {a b c:PtD}{m:List PtD}(h:SepTo a b c m 3):sepB [a,b,c] m=false:=by
 unfold sepB
 simp only[decide_eq_false_iff_not]
 rintro ⟨a',b',c',e,hk⟩
 injection e with e1 e
 injection e with e2 e
 injection e with e3 e
 subst e1 e2 e3
 rcases hk with hk|hk|hk
 ·exact h.1 (by omega) hk
 ·exact h.2.1 (by omega) hk
 ·exact h.2.2 (by omega) hk
end
section
open Go.RowKit
open Classical in
noncomputable def noB (a b:PtD) (l:List PtD) (k:Nat):Bool:=decide (NoTo a b l k)
theorem noB_zero (a b:PtD) (l:List PtD):noB a b l 0=true:=by unfold noB;simp only[decide_eq_true_eq];exact NoTo.zero _ _ _
theorem noB_yes {a b:PtD}{l:List PtD}{k:Nat}(h:noB a b l k=true):noB a b l (k+1)=decide (sgnR (dblA a b (pix l k))≤0):=by
 unfold noB at h ⊢
 simp only[decide_eq_true_eq]at h
 rw[decide_eq_decide]
 exact⟨fun hk=>Int.not_lt.1 (hk k (by omega)),fun hk=>h.step (Int.not_lt.2 hk)⟩
theorem noB_no {a b:PtD}{l:List PtD}{k:Nat}(h:noB a b l k=false):noB a b l (k+1)=false:=by
 unfold noB at h ⊢
 simp only[decide_eq_false_iff_not]at h ⊢
 exact fun hk=>h fun j hj=>hk j (by omega)
theorem noB_all {a b:PtD}{l:List PtD}{n:Nat}(hl:l.length=n):noB a b l n=true↔NoPos a b l:=by
 unfold noB
 simp only[decide_eq_true_eq]
 subst hl
 exact Iff.rfl
theorem l06Apart_three (w:World) {g c0:Nat}{p0 p1 p2:PtD}(h:RdPS w (some ⟨g,0,none⟩) 3 c0 [p0,p1,p2]) {A9:Option Addr}{n9 c9:Nat}{m9:List PtD}(hl9:RdPS w A9 n9 c9 m9) :
  Calls Tryz.prog 153 #[.slice (some ⟨g,0,none⟩) 3 c0,.slice A9 n9 c9] w fun e w'=>e=.returned (.bool (sepB [p0,p1,p2] m9))∧Bl w w':=by
 obtain⟨_,e0,hg,hc0⟩:=h.cells 0 (by omega)
 cases e0
 rw[Addr.add_lit]at hc0
 obtain⟨s,A,n,c,B,m,d,t,C,i,e,D,j,f,⟨x0,x1,x2,x3,x4,x5⟩,hX0,hY0⟩:=(show PtAt w ⟨g,0,none⟩ p0 from hc0)
 have x0:w.cell? ⟨g,0,none⟩=some (.bool s):=x0
 have x1:w.cell? ⟨g,1,none⟩=some (.slice A n c):=x1
 have x2:w.cell? ⟨g,2,none⟩=some (.slice B m d):=x2
 have x3:w.cell? ⟨g,3,none⟩=some (.bool t):=x3
 have x4:w.cell? ⟨g,4,none⟩=some (.slice C i e):=x4
 have x5:w.cell? ⟨g,5,none⟩=some (.slice D j f):=x5
 obtain⟨_,e0,hg,hc1⟩:=h.cells 1 (by omega)
 cases e0
 rw[Addr.add_lit]at hc1
 obtain⟨s',A',n',c',B',m',d',t',C',i',e',D',j',f',⟨y0,y1,y2,y3,y4,y5⟩,hX1,hY1⟩:=(show PtAt w ⟨g,6,none⟩ p1 from hc1)
 have y0:w.cell? ⟨g,6,none⟩=some (.bool s'):=y0
 have y1:w.cell? ⟨g,7,none⟩=some (.slice A' n' c'):=y1
 have y2:w.cell? ⟨g,8,none⟩=some (.slice B' m' d'):=y2
 have y3:w.cell? ⟨g,9,none⟩=some (.bool t'):=y3
 have y4:w.cell? ⟨g,10,none⟩=some (.slice C' i' e'):=y4
 have y5:w.cell? ⟨g,11,none⟩=some (.slice D' j' f'):=y5
 obtain⟨_,e0,hg,hc2⟩:=h.cells 2 (by omega)
 cases e0
 rw[Addr.add_lit]at hc2
 obtain⟨s2,A2,n2,c2,B2,m2,d2,t2,C2,i2,e2,D2,j2,f2,⟨z0,z1,z2,z3,z4,z5⟩,hX2,hY2⟩:=(show PtAt w ⟨g,12,none⟩ p2 from hc2)
 have z0:w.cell? ⟨g,12,none⟩=some (.bool s2):=z0
 have z1:w.cell? ⟨g,13,none⟩=some (.slice A2 n2 c2):=z1
 have z2:w.cell? ⟨g,14,none⟩=some (.slice B2 m2 d2):=z2
 have z3:w.cell? ⟨g,15,none⟩=some (.bool t2):=z3
 have z4:w.cell? ⟨g,16,none⟩=some (.slice C2 i2 e2):=z4
 have z5:w.cell? ⟨g,17,none⟩=some (.slice D2 j2 f2):=z5
 clear hc0 hc1 hc2
 have hsm:=hl9.small
 go_enter Tryz.func153,Tryz.ntmps153
 go_wp2_with fail
 go_loopw [12] (fun i wr=>∃k:Nat,k≤3∧i=.int .i64 (k:Int)∧SepTo p0 p1 p2 m9 k∧Bl w wr) (fun i _=>3-(intOf i).toNat)
 case atStart=>exact⟨0,by omega,rfl,⟨fun h=>by omega,fun h=>by omega,fun h=>by omega⟩,Bl.refl _⟩
 case round=>
  obtain⟨k,hk,rfl,hin,hbw⟩:=hrel
  rcases(show k=0∨k=1∨k=2∨k=3 by omega)with rfl|rfl|rfl|rfl
  ·skip
   have e0:((0:Nat):Int)=0:=rfl
   rw[e0]
   clear e0 hk
   replace hin:=Lib.hid hin
   obtain⟨wo,rfl⟩:∃wo:World,wo=wr:=⟨_,rfl⟩
   have x0':wo.cell? ⟨g,0,none⟩=some (.bool s):=(Bl.cellOf (w:=w) (p:=⟨g,0,none⟩) hbw hg).trans x0
   have x1':wo.cell? ⟨g,1,none⟩=some (.slice A n c):=(Bl.cellOf (w:=w) (p:=⟨g,1,none⟩) hbw hg).trans x1
   have x2':wo.cell? ⟨g,2,none⟩=some (.slice B m d):=(Bl.cellOf (w:=w) (p:=⟨g,2,none⟩) hbw hg).trans x2
   have x3':wo.cell? ⟨g,3,none⟩=some (.bool t):=(Bl.cellOf (w:=w) (p:=⟨g,3,none⟩) hbw hg).trans x3
   have x4':wo.cell? ⟨g,4,none⟩=some (.slice C i e):=(Bl.cellOf (w:=w) (p:=⟨g,4,none⟩) hbw hg).trans x4
   have x5':wo.cell? ⟨g,5,none⟩=some (.slice D j f):=(Bl.cellOf (w:=w) (p:=⟨g,5,none⟩) hbw hg).trans x5
   go_wp2_with fail
   refine wp_gen (fun W=>Bl w W∧Blk W wo.heap.size 56 #[.bool s,.slice A n c,.slice B m d,.bool t,.slice C i e,.slice D j f]) ⟨slc,bts⟩ ?_
   clear x0' x1' x2' x3' x4' x5'
   rintro W ⟨hbW,qa⟩
   go_loopw [7,19] (fun b i wr=>∃k:Nat,k≤n9∧i=.int .i64 (k:Int)∧b=.bool (noB p0 p1 m9 k)∧Bl W wr) (fun _ i _=>n9-(intOf i).toNat)
   case atStart=>exact⟨0,Nat.zero_le _,rfl,by rw[noB_zero],Bl.refl _⟩
   case round=>
    obtain⟨k,hk,rfl,rfl,hbi⟩:=hrel
    have qi:=qa.bl hbi
    have hbwi:=hbW.next hbi
    by_cases hkn:k<n9
    ·have hki:(k:Int)<(n9:Int):=by omega
     obtain⟨ad,rfl,hlta,hca⟩:=(RdPS.bl hl9 hbwi).cells k hkn
     obtain⟨s5,A5,n5,c5,B5,m5,d5,t5,C5,i5,e5,D5,j5,f5,⟨g0,g1,g2,g3,g4,g5⟩,hx,hy⟩:=hca
     cases hb:noB p0 p1 m9 k
     ·have hnx:=Lib.hid (noB_no hb)
      replace hb:=Lib.hid hb
      go_wp2_with fail
      go_quiet (fail)
      go_wp2_with fail
      go_roundw
      case rel=>exact⟨k+1,by omega,by go_num,by rw[hnx.out],slc⟩
      case measure=>simp[intOf];omega
     ·have hnx:=Lib.hid (noB_yes hb)
      replace hb:=Lib.hid hb
      have hw:IntKind.i64.wrap 1=1:=by rfl
      go_wp2_with fail
      go_region_held3 (fun w'=>(w'.cell? ⟨wo.heap.size,0,none⟩=some (.bool s)∧w'.cell? ⟨wo.heap.size,1,none⟩=some (.slice A n c)∧w'.cell? ⟨wo.heap.size,2,none⟩=some (.slice B m d)∧w'.cell? ⟨wo.heap.size,3,none⟩=some (.bool t)∧w'.cell? ⟨wo.heap.size,4,none⟩=some (.slice C i e)∧w'.cell? ⟨wo.heap.size,5,none⟩=some (.slice D j f))∧(w'.cell? ⟨g,6,none⟩=some (.bool s')∧w'.cell? ⟨g,7,none⟩=some (.slice A' n' c')∧w'.cell? ⟨g,8,none⟩=some (.slice B' m' d')∧w'.cell? ⟨g,9,none⟩=some (.bool t')∧w'.cell? ⟨g,10,none⟩=some (.slice C' i' e')∧w'.cell? ⟨g,11,none⟩=some (.slice D' j' f'))∧(w'.cell? ⟨wr.heap.size,0,none⟩=some (.bool s5)∧w'.cell? ⟨wr.heap.size,1,none⟩=some (.slice A5 n5 c5)∧w'.cell? ⟨wr.heap.size,2,none⟩=some (.slice B5 m5 d5)∧w'.cell? ⟨wr.heap.size,3,none⟩=some (.bool t5)∧w'.cell? ⟨wr.heap.size,4,none⟩=some (.slice C5 i5 e5)∧w'.cell? ⟨wr.heap.size,5,none⟩=some (.slice D5 j5 f5))) (first|exact⟨bx6 (T:=56) (qi.bl slc),⟨(Bl.cellOf (w:=w) (p:=⟨g,6,none⟩) slc hg).trans y0,(Bl.cellOf (w:=w) (p:=⟨g,7,none⟩) slc hg).trans y1,(Bl.cellOf (w:=w) (p:=⟨g,8,none⟩) slc hg).trans y2,(Bl.cellOf (w:=w) (p:=⟨g,9,none⟩) slc hg).trans y3,(Bl.cellOf (w:=w) (p:=⟨g,10,none⟩) slc hg).trans y4,(Bl.cellOf (w:=w) (p:=⟨g,11,none⟩) slc hg).trans y5⟩,bx6 (T:=56) bts⟩) (first |(go_at_call 149;refine(sDoubleArea_any _ (hX0.bl slc) (hY0.bl slc) (hX1.bl slc) (hY1.bl slc) (hx.bl slc) (hy.bl slc)).mono ?_;rintro en w2 ⟨s3,A3,n3,c3,B3,m3,d3,rfl,hR,hb2⟩) |(go_at_call 151;refine(sRatSign_any _ hR.rd).mono ?_;rintro en w3 ⟨rfl,hb3⟩))
      go_wp2_with fail
      go_roundw
      case rel=>exact⟨k+1,by omega,by go_num,by rw[hnx.out],slc⟩
      case measure=>simp[intOf];omega
    ·obtain rfl:k=n9:=by omega
     have hall:=Lib.hid (noB_all (a:=p0) (b:=p1) hl9.len)
     cases hb:noB p0 p1 m9 k
     ·have hz:¬NoPos p0 p1 m9:=fun h=>by have:=hall.out.2 h;rw[hb]at this;cases this
      have hin':SepTo p0 p1 p2 m9 1:=⟨fun _=>hz,fun h=>by omega,fun h=>by omega⟩
      have hin':=Lib.hid hin';rename_i h_;clear h_
      replace hz:=Lib.hid hz
      replace hb:=Lib.hid hb
      go_wp2_with fail
      go_roundw
      case rel=>exact⟨1,by omega,rfl,hin'.out,hbwi⟩
      case measure=>simp[intOf]
     ·have hz:NoPos p0 p1 m9:=hall.out.1 hb
      have hv:=Lib.hid (sepB_yes (a:=p0) (b:=p1) (c:=p2) (m:=m9) (.inl hz))
      replace hz:=Lib.hid hz
      replace hb:=Lib.hid hb
      go_wp2_with fail
      go_ret
      exact⟨ret_bool hv.out.symm,hbwi⟩
  ·skip
   have e0:((1:Nat):Int)=1:=rfl
   rw[e0]
   clear e0 hk
   replace hin:=Lib.hid hin
   obtain⟨wo,rfl⟩:∃wo:World,wo=wr:=⟨_,rfl⟩
   have y0':wo.cell? ⟨g,6,none⟩=some (.bool s'):=(Bl.cellOf (w:=w) (p:=⟨g,6,none⟩) hbw hg).trans y0
   have y1':wo.cell? ⟨g,7,none⟩=some (.slice A' n' c'):=(Bl.cellOf (w:=w) (p:=⟨g,7,none⟩) hbw hg).trans y1
   have y2':wo.cell? ⟨g,8,none⟩=some (.slice B' m' d'):=(Bl.cellOf (w:=w) (p:=⟨g,8,none⟩) hbw hg).trans y2
   have y3':wo.cell? ⟨g,9,none⟩=some (.bool t'):=(Bl.cellOf (w:=w) (p:=⟨g,9,none⟩) hbw hg).trans y3
   have y4':wo.cell? ⟨g,10,none⟩=some (.slice C' i' e'):=(Bl.cellOf (w:=w) (p:=⟨g,10,none⟩) hbw hg).trans y4
   have y5':wo.cell? ⟨g,11,none⟩=some (.slice D' j' f'):=(Bl.cellOf (w:=w) (p:=⟨g,11,none⟩) hbw hg).trans y5
   go_wp2_with fail
   refine wp_gen (fun W=>Bl w W∧Blk W wo.heap.size 56 #[.bool s',.slice A' n' c',.slice B' m' d',.bool t',.slice C' i' e',.slice D' j' f']) ⟨slc,bts⟩ ?_
   clear y0' y1' y2' y3' y4' y5'
   rintro W ⟨hbW,qa⟩
   go_loopw [7,19] (fun b i wr=>∃k:Nat,k≤n9∧i=.int .i64 (k:Int)∧b=.bool (noB p1 p2 m9 k)∧Bl W wr) (fun _ i _=>n9-(intOf i).toNat)
   case atStart=>exact⟨0,Nat.zero_le _,rfl,by rw[noB_zero],Bl.refl _⟩
   case round=>
    obtain⟨k,hk,rfl,rfl,hbi⟩:=hrel
    have qi:=qa.bl hbi
    have hbwi:=hbW.next hbi
    by_cases hkn:k<n9
    ·have hki:(k:Int)<(n9:Int):=by omega
     obtain⟨ad,rfl,hlta,hca⟩:=(RdPS.bl hl9 hbwi).cells k hkn
     obtain⟨s5,A5,n5,c5,B5,m5,d5,t5,C5,i5,e5,D5,j5,f5,⟨g0,g1,g2,g3,g4,g5⟩,hx,hy⟩:=hca
     cases hb:noB p1 p2 m9 k
     ·have hnx:=Lib.hid (noB_no hb)
      replace hb:=Lib.hid hb
      go_wp2_with fail
      go_quiet (fail)
      go_wp2_with fail
      go_roundw
      case rel=>exact⟨k+1,by omega,by go_num,by rw[hnx.out],slc⟩
      case measure=>simp[intOf];omega
     ·have hnx:=Lib.hid (noB_yes hb)
      replace hb:=Lib.hid hb
      have hw:IntKind.i64.wrap 2=2:=by rfl
      go_wp2_with fail
      go_region_held3 (fun w'=>(w'.cell? ⟨wo.heap.size,0,none⟩=some (.bool s')∧w'.cell? ⟨wo.heap.size,1,none⟩=some (.slice A' n' c')∧w'.cell? ⟨wo.heap.size,2,none⟩=some (.slice B' m' d')∧w'.cell? ⟨wo.heap.size,3,none⟩=some (.bool t')∧w'.cell? ⟨wo.heap.size,4,none⟩=some (.slice C' i' e')∧w'.cell? ⟨wo.heap.size,5,none⟩=some (.slice D' j' f'))∧(w'.cell? ⟨g,12,none⟩=some (.bool s2)∧w'.cell? ⟨g,13,none⟩=some (.slice A2 n2 c2)∧w'.cell? ⟨g,14,none⟩=some (.slice B2 m2 d2)∧w'.cell? ⟨g,15,none⟩=some (.bool t2)∧w'.cell? ⟨g,16,none⟩=some (.slice C2 i2 e2)∧w'.cell? ⟨g,17,none⟩=some (.slice D2 j2 f2))∧(w'.cell? ⟨wr.heap.size,0,none⟩=some (.bool s5)∧w'.cell? ⟨wr.heap.size,1,none⟩=some (.slice A5 n5 c5)∧w'.cell? ⟨wr.heap.size,2,none⟩=some (.slice B5 m5 d5)∧w'.cell? ⟨wr.heap.size,3,none⟩=some (.bool t5)∧w'.cell? ⟨wr.heap.size,4,none⟩=some (.slice C5 i5 e5)∧w'.cell? ⟨wr.heap.size,5,none⟩=some (.slice D5 j5 f5))) (first|exact⟨bx6 (T:=56) (qi.bl slc),⟨(Bl.cellOf (w:=w) (p:=⟨g,12,none⟩) slc hg).trans z0,(Bl.cellOf (w:=w) (p:=⟨g,13,none⟩) slc hg).trans z1,(Bl.cellOf (w:=w) (p:=⟨g,14,none⟩) slc hg).trans z2,(Bl.cellOf (w:=w) (p:=⟨g,15,none⟩) slc hg).trans z3,(Bl.cellOf (w:=w) (p:=⟨g,16,none⟩) slc hg).trans z4,(Bl.cellOf (w:=w) (p:=⟨g,17,none⟩) slc hg).trans z5⟩,bx6 (T:=56) bts⟩) (first |(go_at_call 149;refine(sDoubleArea_any _ (hX1.bl slc) (hY1.bl slc) (hX2.bl slc) (hY2.bl slc) (hx.bl slc) (hy.bl slc)).mono ?_;rintro en w2 ⟨s3,A3,n3,c3,B3,m3,d3,rfl,hR,hb2⟩) |(go_at_call 151;refine(sRatSign_any _ hR.rd).mono ?_;rintro en w3 ⟨rfl,hb3⟩))
      go_wp2_with fail
      go_roundw
      case rel=>exact⟨k+1,by omega,by go_num,by rw[hnx.out],slc⟩
      case measure=>simp[intOf];omega
    ·obtain rfl:k=n9:=by omega
     have hall:=Lib.hid (noB_all (a:=p1) (b:=p2) hl9.len)
     cases hb:noB p1 p2 m9 k
     ·have hz:¬NoPos p1 p2 m9:=fun h=>by have:=hall.out.2 h;rw[hb]at this;cases this
      have hin':SepTo p0 p1 p2 m9 2:=⟨fun _=>hin.out.1 (by omega),fun _=>hz,fun h=>by omega⟩
      have hin':=Lib.hid hin';rename_i h_;clear h_
      replace hz:=Lib.hid hz
      replace hb:=Lib.hid hb
      go_wp2_with fail
      go_roundw
      case rel=>exact⟨2,by omega,rfl,hin'.out,hbwi⟩
      case measure=>simp[intOf]
     ·have hz:NoPos p1 p2 m9:=hall.out.1 hb
      have hv:=Lib.hid (sepB_yes (a:=p0) (b:=p1) (c:=p2) (m:=m9) (.inr (.inl hz)))
      replace hz:=Lib.hid hz
      replace hb:=Lib.hid hb
      go_wp2_with fail
      go_ret
      exact⟨ret_bool hv.out.symm,hbwi⟩
  ·skip
   have e0:((2:Nat):Int)=2:=rfl
   rw[e0]
   clear e0 hk
   replace hin:=Lib.hid hin
   obtain⟨wo,rfl⟩:∃wo:World,wo=wr:=⟨_,rfl⟩
   have z0':wo.cell? ⟨g,12,none⟩=some (.bool s2):=(Bl.cellOf (w:=w) (p:=⟨g,12,none⟩) hbw hg).trans z0
   have z1':wo.cell? ⟨g,13,none⟩=some (.slice A2 n2 c2):=(Bl.cellOf (w:=w) (p:=⟨g,13,none⟩) hbw hg).trans z1
   have z2':wo.cell? ⟨g,14,none⟩=some (.slice B2 m2 d2):=(Bl.cellOf (w:=w) (p:=⟨g,14,none⟩) hbw hg).trans z2
   have z3':wo.cell? ⟨g,15,none⟩=some (.bool t2):=(Bl.cellOf (w:=w) (p:=⟨g,15,none⟩) hbw hg).trans z3
   have z4':wo.cell? ⟨g,16,none⟩=some (.slice C2 i2 e2):=(Bl.cellOf (w:=w) (p:=⟨g,16,none⟩) hbw hg).trans z4
   have z5':wo.cell? ⟨g,17,none⟩=some (.slice D2 j2 f2):=(Bl.cellOf (w:=w) (p:=⟨g,17,none⟩) hbw hg).trans z5
   go_wp2_with fail
   refine wp_gen (fun W=>Bl w W∧Blk W wo.heap.size 56 #[.bool s2,.slice A2 n2 c2,.slice B2 m2 d2,.bool t2,.slice C2 i2 e2,.slice D2 j2 f2]) ⟨slc,bts⟩ ?_
   clear z0' z1' z2' z3' z4' z5'
   rintro W ⟨hbW,qa⟩
   go_loopw [7,19] (fun b i wr=>∃k:Nat,k≤n9∧i=.int .i64 (k:Int)∧b=.bool (noB p2 p0 m9 k)∧Bl W wr) (fun _ i _=>n9-(intOf i).toNat)
   case atStart=>exact⟨0,Nat.zero_le _,rfl,by rw[noB_zero],Bl.refl _⟩
   case round=>
    obtain⟨k,hk,rfl,rfl,hbi⟩:=hrel
    have qi:=qa.bl hbi
    have hbwi:=hbW.next hbi
    by_cases hkn:k<n9
    ·have hki:(k:Int)<(n9:Int):=by omega
     obtain⟨ad,rfl,hlta,hca⟩:=(RdPS.bl hl9 hbwi).cells k hkn
     obtain⟨s5,A5,n5,c5,B5,m5,d5,t5,C5,i5,e5,D5,j5,f5,⟨g0,g1,g2,g3,g4,g5⟩,hx,hy⟩:=hca
     cases hb:noB p2 p0 m9 k
     ·have hnx:=Lib.hid (noB_no hb)
      replace hb:=Lib.hid hb
      go_wp2_with fail
      go_quiet (fail)
      go_wp2_with fail
      go_roundw
      case rel=>exact⟨k+1,by omega,by go_num,by rw[hnx.out],slc⟩
      case measure=>simp[intOf];omega
     ·have hnx:=Lib.hid (noB_yes hb)
      replace hb:=Lib.hid hb
      have hw:IntKind.i64.wrap 3=3:=by rfl
      go_wp2_with fail
      go_region_held3 (fun w'=>(w'.cell? ⟨wo.heap.size,0,none⟩=some (.bool s2)∧w'.cell? ⟨wo.heap.size,1,none⟩=some (.slice A2 n2 c2)∧w'.cell? ⟨wo.heap.size,2,none⟩=some (.slice B2 m2 d2)∧w'.cell? ⟨wo.heap.size,3,none⟩=some (.bool t2)∧w'.cell? ⟨wo.heap.size,4,none⟩=some (.slice C2 i2 e2)∧w'.cell? ⟨wo.heap.size,5,none⟩=some (.slice D2 j2 f2))∧(w'.cell? ⟨g,0,none⟩=some (.bool s)∧w'.cell? ⟨g,1,none⟩=some (.slice A n c)∧w'.cell? ⟨g,2,none⟩=some (.slice B m d)∧w'.cell? ⟨g,3,none⟩=some (.bool t)∧w'.cell? ⟨g,4,none⟩=some (.slice C i e)∧w'.cell? ⟨g,5,none⟩=some (.slice D j f))∧(w'.cell? ⟨wr.heap.size,0,none⟩=some (.bool s5)∧w'.cell? ⟨wr.heap.size,1,none⟩=some (.slice A5 n5 c5)∧w'.cell? ⟨wr.heap.size,2,none⟩=some (.slice B5 m5 d5)∧w'.cell? ⟨wr.heap.size,3,none⟩=some (.bool t5)∧w'.cell? ⟨wr.heap.size,4,none⟩=some (.slice C5 i5 e5)∧w'.cell? ⟨wr.heap.size,5,none⟩=some (.slice D5 j5 f5))) (first|exact⟨bx6 (T:=56) (qi.bl slc),⟨(Bl.cellOf (w:=w) (p:=⟨g,0,none⟩) slc hg).trans x0,(Bl.cellOf (w:=w) (p:=⟨g,1,none⟩) slc hg).trans x1,(Bl.cellOf (w:=w) (p:=⟨g,2,none⟩) slc hg).trans x2,(Bl.cellOf (w:=w) (p:=⟨g,3,none⟩) slc hg).trans x3,(Bl.cellOf (w:=w) (p:=⟨g,4,none⟩) slc hg).trans x4,(Bl.cellOf (w:=w) (p:=⟨g,5,none⟩) slc hg).trans x5⟩,bx6 (T:=56) bts⟩) (first |(go_at_call 149;refine(sDoubleArea_any _ (hX2.bl slc) (hY2.bl slc) (hX0.bl slc) (hY0.bl slc) (hx.bl slc) (hy.bl slc)).mono ?_;rintro en w2 ⟨s3,A3,n3,c3,B3,m3,d3,rfl,hR,hb2⟩) |(go_at_call 151;refine(sRatSign_any _ hR.rd).mono ?_;rintro en w3 ⟨rfl,hb3⟩))
      go_wp2_with fail
      go_roundw
      case rel=>exact⟨k+1,by omega,by go_num,by rw[hnx.out],slc⟩
      case measure=>simp[intOf];omega
    ·obtain rfl:k=n9:=by omega
     have hall:=Lib.hid (noB_all (a:=p2) (b:=p0) hl9.len)
     cases hb:noB p2 p0 m9 k
     ·have hz:¬NoPos p2 p0 m9:=fun h=>by have:=hall.out.2 h;rw[hb]at this;cases this
      have hin':SepTo p0 p1 p2 m9 3:=⟨fun _=>hin.out.1 (by omega),fun _=>hin.out.2.1 (by omega),fun _=>hz⟩
      have hin':=Lib.hid hin';rename_i h_;clear h_
      replace hz:=Lib.hid hz
      replace hb:=Lib.hid hb
      go_wp2_with fail
      go_roundw
      case rel=>exact⟨3,by omega,rfl,hin'.out,hbwi⟩
      case measure=>simp[intOf]
     ·have hz:NoPos p2 p0 m9:=hall.out.1 hb
      have hv:=Lib.hid (sepB_yes (a:=p0) (b:=p1) (c:=p2) (m:=m9) (.inr (.inr hz)))
      replace hz:=Lib.hid hz
      replace hb:=Lib.hid hb
      go_wp2_with fail
      go_ret
      exact⟨ret_bool hv.out.symm,hbwi⟩
  ·have e0:((3:Nat):Int)=3:=rfl
   rw[e0]
   clear e0 hk
   have hv:=Lib.hid (sepB_no hin)
   clear hin
   go_wp2_with fail
   go_ret
   exact⟨ret_bool hv.out.symm,hbw⟩
noncomputable def ovB (l m:List PtD):Bool:=propB l&&propB m&&!sepB l m&&!sepB m l
end
section
open Go.RowKit
section
variable {x0 y0 x1 y1 x2 y2:Rat}
theorem subP_gen {x y u v:Rat}(hx:Bd 19652 x) (hy:Bd 19652 y) (hu:Bd 19652 u) (hv:Bd 19652 v):subP (toP x y) (toP u v)=toP (x-u) (y-v)∧Bd 772402208 (x-u)∧Bd 772402208 (y-v):=by
 have h1:Bd 772402208 (x-u):=(hx.sub hu).mono (by decide)
 have h2:Bd 772402208 (y-v):=(hy.sub hv).mono (by decide)
 refine⟨?_,h1,h2⟩
 unfold subP
 rw[show (toP x y).x=toR x from rfl,show (toP u v).x=toR u from rfl,show (toP x y).y=toR y from rfl,show (toP u v).y=toR v from rfl,
  subR_toR (hx.fit (by decide)) (hu.fit (by decide)) (h1.fit (by decide)),subR_toR (hy.fit (by decide)) (hv.fit (by decide)) (h2.fit (by decide))]
 exact ifP_toP (h1.fit (by decide)) (h2.fit (by decide))
theorem dblA_gen {x0 y0 x1 y1 x2 y2:Rat}(a0:Bd 19652 x0) (b0:Bd 19652 y0) (a1:Bd 19652 x1) (b1:Bd 19652 y1) (a2:Bd 19652 x2) (b2:Bd 19652 y2) :
  dblA (toP x0 y0) (toP x1 y1) (toP x2 y2)=toR (detQ x0 y0 x1 y1 x2 y2)∧Bd 711875459944780985046933946228539392 (detQ x0 y0 x1 y1 x2 y2):=by
 obtain⟨e1,h1,h2⟩:=subP_gen a1 b1 a0 b0
 obtain⟨e2,h3,h4⟩:=subP_gen a2 b2 a0 b0
 have m1:Bd 596605170923275264 ((x1-x0)*(y2-y0)):=(h1.mul h4).mono (by decide)
 have m2:Bd 596605170923275264 ((y1-y0)*(x2-x0)):=(h2.mul h3).mono (by decide)
 have m3:Bd 711875459944780985046933946228539392 (detQ x0 y0 x1 y1 x2 y2):=(m1.sub m2).mono (by decide)
 refine⟨?_,m3⟩
 unfold dblA
 rw[e1,e2]
 unfold crossP
 rw[show (toP (x1-x0) (y1-y0)).x=toR (x1-x0)from rfl,show (toP (x1-x0) (y1-y0)).y=toR (y1-y0)from rfl,show (toP (x2-x0) (y2-y0)).x=toR (x2-x0)from rfl,show (toP (x2-x0) (y2-y0)).y=toR (y2-y0)from rfl,
  mulR_toR (h1.fit (by decide)) (h4.fit (by decide)) (m1.fit (by decide)),mulR_toR (h2.fit (by decide)) (h3.fit (by decide)) (m2.fit (by decide)),subR_toR (m1.fit (by decide)) (m2.fit (by decide)) (m3.fit (by decide))]
 rfl
theorem sgn_toR {N:Nat}{q:Rat}(h:Bd N q) (hN:N<Bs ^ 24):(0<sgnR (toR q))↔0<q:=by
 rw[sgnR_toR (h.fit hN)]
 by_cases h1:q<0
 ·rw[if_pos h1]
  constructor
  ·intro h;omega
  ·intro h;exfalso;grind
 ·rw[if_neg h1]
  by_cases h2:0<q
  ·rw[if_pos h2];exact⟨fun _=>h2,fun _=>by omega⟩
  ·rw[if_neg h2];exact⟨fun h=>by omega,fun h=>absurd h h2⟩
theorem okP_toP {N:Nat}{x y:Rat}(hx:Bd N x) (hy:Bd N y) (hN:N<Bs ^ 24):OkP (toP x y):=⟨(hx.fit hN).ok,(hy.fit hN).ok⟩
theorem propB_gen {x0 y0 x1 y1 x2 y2:Rat}(a0:Bd 19652 x0) (b0:Bd 19652 y0) (a1:Bd 19652 x1) (b1:Bd 19652 y1) (a2:Bd 19652 x2) (b2:Bd 19652 y2) (h:0<detQ x0 y0 x1 y1 x2 y2):propB [toP x0 y0,toP x1 y1,toP x2 y2]=true:=by
 obtain⟨e,hd⟩:=dblA_gen a0 b0 a1 b1 a2 b2
 refine propB_yes ⟨?_,_,_,_,rfl,by rw[e];exact(sgn_toR hd (by decide)).2 h⟩
 intro k hk
 simp only[List.length_cons,List.length_nil]at hk
 rcases(show k=0∨k=1∨k=2 by omega)with rfl|rfl|rfl
 ·exact okP_toP a0 b0 (by decide)
 ·exact okP_toP a1 b1 (by decide)
 ·exact okP_toP a2 b2 (by decide)
theorem noPos3 {a b c d e:PtD}(h0:¬0<sgnR (dblA a b c)) (h1:¬0<sgnR (dblA a b d)) (h2:¬0<sgnR (dblA a b e)):NoPos a b [c,d,e]:=by
 intro k hk
 simp only[List.length_cons,List.length_nil]at hk
 rcases(show k=0∨k=1∨k=2 by omega)with rfl|rfl|rfl
 ·exact h0
 ·exact h1
 ·exact h2
end
end
end Go.Proofs.YtmkcacgmnnlddaaGreat
