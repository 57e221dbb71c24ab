import Derived.Test.YtmkcacgmnnlddaaGreatRows
import Derived.Test.YtmkcacgmnnlddaaGreatPClosureM20
import Derived.Test.YtmkcacgmnnlddaaGreatPClosureM24
import Derived.Test.YtmkcacgmnnlddaaGreatPClosureM11
import Derived.Test.YtmkcacgmnnlddaaGreatPClosureM12
import Derived.Deep.Cut
import Derived.Deep.DeepCutAuto
import Derived.Test.YtmkcacgmnnlddaaGreatPClosureM21
import Derived.OrdersHeld
import Derived.RegionTactic
import Derived.Test.YtmkcacgmnnlddaaGreatPClosureM23
import Derived.ProofKit
import Derived.Deep.Slices
namespace Go.Proofs.YtmkcacgmnnlddaaGreat
set_option maxRecDepth 100000
set_option maxHeartbeats 8000000
section
open Go.RowKit
theorem sIsProper_yes (w:World) {g n c0:Nat}{l:List PtD}(h:RdPS w (some ⟨g,0,none⟩) n c0 l) (hp:propB l=true) :
  Calls Tryz.prog 117 #[.slice (some ⟨g,0,none⟩) n c0] w fun e w'=>e=.returned (.bool (propB l))∧Bl w w':=by
 obtain⟨_,p0,p1,p2,q1,_⟩:=propB_out hp
 subst q1
 obtain rfl:3=n:=h.len
 obtain⟨v0,v1,v2,hs⟩:=propB_three (Classical.byContradiction fun hk=>by rw[propB_no hk]at hp;cases hp)
 exact sIsProper_4 w h v0 v1 v2 (okR_of (sgn_pos_ok hs)) (by unfold Hid;rw[hp];simp[hs])
theorem sOverlap_yes (w:World) {g n c g' n' c':Nat}{l m:List PtD}(ha:RdPS w (some ⟨g,0,none⟩) n c l) (hb:RdPS w (some ⟨g',0,none⟩) n' c' m) (e1:propB l=true) (e2:propB m=true) :
  Calls Tryz.prog 120 #[.slice (some ⟨g,0,none⟩) n c,.slice (some ⟨g',0,none⟩) n' c'] w fun e w'=>e=.returned (.bool (ovB l m))∧Bl w w':=by
 have hbb:=Bl.refl w
 obtain⟨_,p0,p1,p2,q1,_⟩:=propB_out e1
 obtain⟨_,q0,q1',q2,q2',_⟩:=propB_out e2
 subst q1
 subst q2'
 obtain rfl:3=n:=ha.len
 obtain rfl:3=n':=hb.len
 cases e3:sepB [p0,p1,p2] [q0,q1',q2]
 ·cases e4:sepB [q0,q1',q2] [p0,p1,p2]
  all_goals
   replace e1:=Lib.hid e1
   replace e2:=Lib.hid e2
   replace e3:=Lib.hid e3
   replace e4:=Lib.hid e4
   go_enter Tryz.func120,Tryz.ntmps120
   go_wp2_with fail
   refine(sIsProper_yes _ (RdPS.bl ha hbb) e1.out).mono ?_
   rw[e1.out]
   rintro e w1 ⟨rfl,hb1⟩
   replace hbb:=hbb.next hb1
   clear hb1
   go_wp2_with fail
   refine(sIsProper_yes _ (RdPS.bl hb hbb) e2.out).mono ?_
   rw[e2.out]
   rintro e w1 ⟨rfl,hb1⟩
   replace hbb:=hbb.next hb1
   clear hb1
   go_wp2_with fail
   refine(l06Apart_three _ (RdPS.bl ha hbb) (RdPS.bl hb hbb)).mono ?_
   rw[e3.out]
   rintro e w1 ⟨rfl,hb1⟩
   replace hbb:=hbb.next hb1
   clear hb1
   go_wp2_with fail
   refine(l06Apart_three _ (RdPS.bl hb hbb) (RdPS.bl ha hbb)).mono ?_
   rw[e4.out]
   rintro e w1 ⟨rfl,hb1⟩
   replace hbb:=hbb.next hb1
   clear hb1
   go_wp2_with fail
   go_ret
   exact⟨ret_bool (by unfold ovB;simp[e1.out,e2.out,e3.out,e4.out]),hbb⟩
 ·replace e1:=Lib.hid e1
  replace e2:=Lib.hid e2
  replace e3:=Lib.hid e3
  go_enter Tryz.func120,Tryz.ntmps120
  go_wp2_with fail
  refine(sIsProper_yes _ (RdPS.bl ha hbb) e1.out).mono ?_
  rw[e1.out]
  rintro e w1 ⟨rfl,hb1⟩
  replace hbb:=hbb.next hb1
  clear hb1
  go_wp2_with fail
  refine(sIsProper_yes _ (RdPS.bl hb hbb) e2.out).mono ?_
  rw[e2.out]
  rintro e w1 ⟨rfl,hb1⟩
  replace hbb:=hbb.next hb1
  clear hb1
  go_wp2_with fail
  refine(l06Apart_three _ (RdPS.bl ha hbb) (RdPS.bl hb hbb)).mono ?_
  rw[e3.out]
  rintro e w1 ⟨rfl,hb1⟩
  replace hbb:=hbb.next hb1
  clear hb1
  go_wp2_with fail
  go_ret
  exact⟨ret_bool (by unfold ovB;simp[e1.out,e2.out,e3.out]),hbb⟩
end
section
open Go.RowKit
theorem refF_any (w:World) {g12:Nat}{s1:Bool}{A1:Option Addr}{n1 c1:Nat}{B1:Option Addr}{m1 d1:Nat}{t1:Bool}{C1:Option Addr}{i1 e1:Nat}{D1:Option Addr}{j1 f1:Nat}{s2:Bool}{A2:Option Addr}{n2 c2:Nat}{B2:Option Addr}{m2 d2:Nat}{t2:Bool}{C2:Option Addr}{i2 e2:Nat}{D2:Option Addr}{j2 f2:Nat}{p q:PtD}(h12:Blk w g12 56 #[.bool s2,.slice A2 n2 c2,.slice B2 m2 d2,.bool t2,.slice C2 i2 e2,.slice D2 j2 f2]) (hqx:RdR w s2 A2 n2 c2 B2 m2 d2 q.x) (hqy:RdR w t2 C2 i2 e2 D2 j2 f2 q.y) (hx:RdR w s1 A1 n1 c1 B1 m1 d1 p.x) (hy:RdR w t1 C1 i1 e1 D1 j1 f1 p.y) :
  Calls Tryz.prog 77 #[.agg #[.bool s1,.slice A1 n1 c1,.slice B1 m1 d1,.bool t1,.slice C1 i1 e1,.slice D1 j1 f1],.pointer (some ⟨g12,0,none⟩)] w fun en w'=>en=.returned (.bool (eqP p q))∧Bl w w':=by
 go_enter Tryz.func77,Tryz.ntmps77
 go_upto_region 1 with (fail)
 refine wp_gen (fun W=>Bl w W∧∃g,Blk W g 56 #[.bool s1,.slice A1 n1 c1,.slice B1 m1 d1,.bool t1,.slice C1 i1 e1,.slice D1 j1 f1]∧g=w.heap.size) ⟨by exact slc,_,by exact bts,rfl⟩ ?_
 rintro W ⟨hbW,g,h1,hg⟩
 rw[←hg]
 clear hg
 obtain⟨x0,x1,x2,x3,x4,x5⟩:=bx6 h1
 obtain⟨y0,y1,y2,y3,y4,y5⟩:=bx6 (h12.bl hbW)
 go_wp2_with fail
 refine(SamePoint_any _ (hx.bl slc) (hy.bl slc) (hqx.bl slc) (hqy.bl slc)).mono ?_
 rintro e w1 ⟨rfl,hb1⟩
 go_wp2_with fail
 go_ret
 exact⟨rfl,slc⟩
def NoP (q:PtD) (l:List PtD) (k:Nat):Prop:=∀j,j<k→pix l j≠q
theorem NoP.step {q:PtD}{l:List PtD}{k:Nat}(h:NoP q l k) (h0:pix l k≠q):NoP q l (k+1):=by
 intro j hj
 rcases Nat.lt_succ_iff_lt_or_eq.1 hj with hj|rfl
 ·exact h j hj
 ·exact h0
theorem IndexRf_any (w:World) {A0:Option Addr}{n0 c0:Nat}{l:List PtD}(h:RdPS w A0 n0 c0 l) {g12:Nat}{s2:Bool}{A2:Option Addr}{n2 c2:Nat}{B2:Option Addr}{m2 d2:Nat}{t2:Bool}{C2:Option Addr}{i2 e2:Nat}{D2:Option Addr}{j2 f2:Nat}{q:PtD}(h12:Blk w g12 56 #[.bool s2,.slice A2 n2 c2,.slice B2 m2 d2,.bool t2,.slice C2 i2 e2,.slice D2 j2 f2]) (hqx:RdR w s2 A2 n2 c2 B2 m2 d2 q.x) (hqy:RdR w t2 C2 i2 e2 D2 j2 f2 q.y) :
  Calls Tryz.prog 93 #[.slice A0 n0 c0,.func (.func 77) #[] #[.pointer (some ⟨g12,0,none⟩)]] w (IdxPostB (NoP q l l.length) w):=by
 have hn:=h.small
 have hl:=Lib.hid h.len
 go_enter Tryz.func93,Tryz.ntmps93
 go_wp2_with fail
 go_loopw [8] (fun i wr=>∃k:Nat,k≤n0∧i=.int .i64 (k:Int)∧NoP q l k∧Bl w wr) (fun i _=>n0-(intOf i).toNat)
 case atStart=>exact⟨0,Nat.zero_le _,rfl,fun j hj=>by omega,Bl.refl _⟩
 case round=>
  obtain⟨k,hk,rfl,hin,hbw⟩:=hrel
  by_cases hkn:k<n0
  ·have hki:(k:Int)<(n0:Int):=by omega
   obtain⟨ad,rfl,hlta,hca⟩:=(RdPS.bl h hbw).cells k hkn
   obtain⟨s1,A1,n1,c1,B1,m1,d1,t1,C1,i1,e1,D1,j1,f1,⟨z0,z1,z2,z3,z4,z5⟩,hx,hy⟩:=hca
   by_cases ho:pix l k=q
   ·have hno:¬NoP q l l.length:=fun ha=>ha k (by rw[hl.out];exact hkn) ho
    have hno2:=Lib.hid hno
    have he:=Lib.hid (eqP_iff.2 ho)
    clear hno ho hin
    go_wp2_with fail
    refine(refF_any _ (h12.bl hbw) (hqx.bl hbw) (hqy.bl hbw) hx hy).mono ?_
    rw[he.out]
    rintro e w1 ⟨rfl,hb1⟩
    have hb2:Bl w w1:=hbw.next hb1
    clear hb1
    go_wp2_with fail
    go_ret
    exact⟨_,rfl,fun ha=>absurd ha hno2.out,fun _=>by omega,hb2⟩
   ·have hin':=Lib.hid (hin.step ho)
    have he:=Lib.hid (eqP_no ho)
    clear hin ho
    go_wp2_with fail
    refine(refF_any _ (h12.bl hbw) (hqx.bl hbw) (hqy.bl hbw) hx hy).mono ?_
    rw[he.out]
    rintro e w1 ⟨rfl,hb1⟩
    have hb2:Bl w w1:=hbw.next hb1
    clear hb1
    go_wp2_with fail
    go_roundw
    case rel=>exact⟨k+1,by omega,by go_num,hin'.out,hb2⟩
    case measure=>simp[intOf];omega
  ·have hall:NoP q l l.length:=fun j hj=>hin j (by rw[hl.out]at hj;omega)
   have hall2:=Lib.hid hall
   clear hall
   go_wp2_with fail
   go_ret
   exact⟨_,rfl,fun _=>rfl,fun hno=>absurd hall2.out hno,hbw⟩
theorem ContainsRf_any (w:World) {A0:Option Addr}{n0 c0:Nat}{l:List PtD}(h:RdPS w A0 n0 c0 l) {g12:Nat}{s2:Bool}{A2:Option Addr}{n2 c2:Nat}{B2:Option Addr}{m2 d2:Nat}{t2:Bool}{C2:Option Addr}{i2 e2:Nat}{D2:Option Addr}{j2 f2:Nat}{q:PtD}(h12:Blk w g12 56 #[.bool s2,.slice A2 n2 c2,.slice B2 m2 d2,.bool t2,.slice C2 i2 e2,.slice D2 j2 f2]) (hqx:RdR w s2 A2 n2 c2 B2 m2 d2 q.x) (hqy:RdR w t2 C2 i2 e2 D2 j2 f2 q.y) {b:Bool}(hb:l.contains q=b) :
  Calls Tryz.prog 58 #[.slice A0 n0 c0,.func (.func 77) #[] #[.pointer (some ⟨g12,0,none⟩)]] w fun e w'=>e=.returned (.bool b)∧Bl w w':=by
 have hP:NoP q l l.length↔b=false:=by
  rw[←hb,←Bool.not_eq_true,List.contains_iff_mem]
  constructor
  ·intro h1 hm
   obtain⟨i,hi,e⟩:=List.getElem_of_mem hm
   exact h1 i hi (by unfold pix;rw[List.getD_eq_getElem?_getD,List.getElem?_eq_getElem hi];exact e)
  ·intro h1 j hj e
   refine h1 ?_
   rw[←e]
   unfold pix
   rw[List.getD_eq_getElem?_getD,List.getElem?_eq_getElem hj]
   exact List.getElem_mem hj
 cases b with
 | true=>
  have hP2:=Lib.hid (show ¬NoP q l l.length by rw[hP];simp)
  clear hP hb
  go_enter Tryz.func58,Tryz.ntmps58
  go_wp2_with fail
  refine(IndexRf_any _ h h12 hqx hqy).mono ?_
  rintro e w1 ⟨i,rfl,_,h1,hb⟩
  have h1:=h1 hP2.out
  go_wp2_with fail
  go_ret
  exact⟨rfl,hb⟩
 | false=>
  have hP2:=Lib.hid (hP.2 rfl)
  clear hP hb
  go_enter Tryz.func58,Tryz.ntmps58
  go_wp2_with fail
  refine(IndexRf_any _ h h12 hqx hqy).mono ?_
  rintro e w1 ⟨i,rfl,h1,_,hb⟩
  have h1:=h1 hP2.out
  subst h1
  go_wp2_with fail
  go_ret
  exact⟨rfl,hb⟩
end
section
open Go.RowKit
theorem tri_diff {x y:TriD}(h:¬x=y):(x.a == y.a)=false∨((x.a == y.a)=true∧(x.b == y.b)=false)∨((x.a == y.a)=true∧(x.b == y.b)=true∧(x.c == y.c)=false) ∨
  ((x.a == y.a)=true∧(x.b == y.b)=true∧(x.c == y.c)=true∧(x.region == y.region)=false)∨((x.a == y.a)=true∧(x.b == y.b)=true∧(x.c == y.c)=true∧(x.region == y.region)=true∧(x.level == y.level)=false):=by
 cases x;cases y
 simp only[TriD.mk.injEq,not_and]at h
 simp only[beq_iff_eq,beq_eq_false_iff_ne]
 grind
theorem EqualTri_any (w:World) {A B:Option Addr}{n m c d:Nat}{l l':List TriD}(ha:RdTS w A n c l) (hb:RdTS w B m d l') :
  Calls Tryz.prog 38 #[.slice A n c,.slice B m d] w fun e w'=>e=.returned (.bool (Same l l'))∧Bl w w':=by
 have hna:=ha.small
 have hnb:=hb.small
 by_cases hnm:n=m
 ·subst hnm
  have hl:=Lib.hid ha.len
  have hl':=Lib.hid hb.len
  go_enter Tryz.func38,Tryz.ntmps38
  go_wp2
  go_loopw [13] (fun i wr=>∃k:Nat,k≤n∧i=.int .i64 (k:Int)∧Agree l l' k∧Bl w wr) (fun i _=>n-(intOf i).toNat)
  case atStart=>exact⟨0,Nat.zero_le _,rfl,Agree.zero _ _,Bl.refl _⟩
  case round=>
   obtain⟨k,hk,rfl,hag,hbw⟩:=hrel
   by_cases hkn:k<n
   ·obtain⟨ad,rfl,hlta,hca⟩:=(ha.bl hbw).cells k hkn
    obtain⟨bd,rfl,hltb,hcb⟩:=(hb.bl hbw).cells k hkn
    obtain⟨g0,g1,g2,g3,g4⟩:=hca
    obtain⟨p0,p1,p2,p3,p4⟩:=hcb
    have hki:(k:Int)<(n:Int):=by omega
    by_cases heq:pix l k=pix l' k
    ·rw[←heq]at p0 p1 p2 p3 p4
     have heq':=Lib.hid heq
     clear heq
     go_wp2_with fail
     go_quiet (fail)
     go_wp2
     go_roundw
     case rel=>exact⟨k+1,by omega,by go_num,hag.step heq'.out,slc⟩
     case measure=>simp[intOf];omega
    ·have hs:=Lib.hid (same_no (a:=l) (b:=l') (fun e=>heq (by rw[e])))
     rcases tri_diff heq with f1 |⟨f1,f2⟩ |⟨f1,f2,f3⟩ |⟨f1,f2,f3,f4⟩ |⟨f1,f2,f3,f4,f5⟩
     all_goals
      clear heq
      go_wp2_with fail
      go_quiet (fail)
      go_wp2
      go_ret
      exact⟨ret_bool hs.out.symm,slc⟩
   ·have hs := Lib.hid (same_yes ((by
                     obtain rfl : k = n := by omega
                     exact hag.all hl.out hl'.out):l=l'))
    go_wp2_with fail
    go_ret
    exact⟨ret_bool hs.out.symm,hbw⟩
 ·have hs:=Lib.hid (same_no (a:=l) (b:=l') (fun e=>hnm (by rw[←ha.len,←hb.len,e])))
  have hne:((n:Int) != (m:Int))=true:=by simp;omega
  go_enter Tryz.func38,Tryz.ntmps38
  go_wp2
  go_ret
  exact⟨ret_bool hs.out.symm,Bl.refl _⟩
def sameM (a b:MeD):Bool:=Same a.points b.points&&Same a.tris b.tris
theorem sameM_tris {a b:MeD}(h:Same a.points b.points=true):sameM a b=Same a.tris b.tris:=by unfold sameM;rw[h];rfl
theorem sameM_points {a b:MeD}(h:Same a.points b.points=false):sameM a b=false:=by unfold sameM;rw[h];rfl
theorem SameMesh_any (w:World) {A B A' B':Option Addr}{n m c d n' m' c' d':Nat}{x y:MeD}(h:RdPS w A n c x.points) (k:RdTS w B m d x.tris) (h':RdPS w A' n' c' y.points) (k':RdTS w B' m' d' y.tris) :
  Calls Tryz.prog 11 #[.agg #[.slice A n c,.slice B m d],.agg #[.slice A' n' c',.slice B' m' d']] w fun e w'=>e=.returned (.bool (sameM x y))∧Bl w w':=by
 by_cases e0:Same x.points y.points=true
 ·have hs:=Lib.hid (sameM_tris e0)
  go_enter Tryz.func11,Tryz.ntmps11
  go_wp2_with fail
  refine(EqualFunc_any _ (h.bl slc) (h'.bl slc)).mono ?_
  rintro e w1 ⟨rfl,hb⟩
  obtain⟨hc,hf⟩:=bcell hb
  have hb1:Bl w w1:=slc
  go_wp2_with fail
  refine(EqualTri_any _ (k.bl hb1) (k'.bl hb1)).mono ?_
  rintro e w2 ⟨rfl,hb2⟩
  go_wp2_with fail
  go_ret
  exact⟨ret_bool hs.out.symm,slc⟩
 ·have e0:Same x.points y.points=false:=by simpa using e0
  have hs:=Lib.hid (sameM_points e0)
  go_enter Tryz.func11,Tryz.ntmps11
  go_wp2_with fail
  refine(EqualFunc_any _ (h.bl slc) (h'.bl slc)).mono ?_
  rintro e w1 ⟨rfl,hb⟩
  have hb1:Bl w w1:=slc
  go_wp2_with fail
  go_ret
  exact⟨ret_bool hs.out.symm,slc⟩
end
section
open Go.RowKit
section
variable {P:Program}{ops:Array Oper}{Q:Exit→Act→World→Prop}{md:Region.Mode}{S:World→Prop}{late:Nat→Bool}
def ClR (md:Region.Mode) (ops:Array Oper) (listed:Array Bool):Prop:=∀j oj,ops[j]?=some oj→listed.getD j false=true→∀e∈oj.after,Region.binds md e=true→listed.getD e.on false=true
theorem ClR.start (k:Nat):ClR md ops (Array.replicate k false):=fun j _ _ h=>by
 rcases Nat.lt_or_ge j k with hj|hj
 ·simp[hj]at h
 ·simp[hj]at h
theorem ClR.step {listed:Array Bool}{i:Nat}(h:ClR md ops listed) (hi:i∈Region.ready md ops listed):ClR md ops (listed.setIfInBounds i true):=by
 intro j oj hj hl e he hb
 by_cases hji:j=i
 ·subst hji
  obtain⟨_,o,ho,hall⟩:=mem_ready.1 hi
  rw[hj]at ho
  cases ho
  exact getD_set_true (hall e he hb)
 ·rw[getD_set_ne false (Ne.symm hji)]at hl
  exact getD_set_true (h j oj hj hl e he hb)
end
end
section
open Go.RowKit Go.ChangeShapes
open Go.Deep (open_slice open_slice1 choose_lt)
theorem cells_u8:Tryz.prog.cellsOf 5=1:=by kernel_rfl
theorem open_by {H:Type}{enc:TypeId × Value→H}{w:World}{fuel:Nat}{cs:List Value}{x:DataW H × List MemPlace}{spare:Nat→Bool}{base:Nat}{held:Bool}(h:DataW.trod enc Tryz.prog w base spare held fuel 22 cs=some x):∃A n c l,cs=[.slice A n c]∧RdB w A n c l:=by
 rcases open_slice1 Tryz.underlying22 cells_u8 h with ⟨rfl,_⟩ |⟨a,len,cap,m,k,V,D,Pl,rfl,hb,hl,hm,hmm,_,hx⟩
 ·exact⟨none,0,0,[],rfl,RdS.nil w _ _⟩
 ·have hm':cap≤9223372036854775807:=by simpa [maxLen]using hm
  have hlm:len≤m:=by rw[hmm];split <;> omega
  refine⟨some a,len,cap,(List.range len).map fun i=>intOf (V i),rfl,by simp,hl,by omega,fun i hi=>?_⟩
  obtain⟨hc,ht⟩:=hx i (by omega)
  obtain⟨z,e,_,hwf⟩:=DataW.trod_int Tryz.underlying5 ht
  injection e with e
  have hlt:a.block < w.heap.size:=by
   have:=World.block_lt_of_cell? w _ hc
   rwa [block_add]at this
  have hz:0≤z∧z≤255:=by
   have h1:IntKind.u8.min=0:=by decide
   have h2:IntKind.u8.max=255:=by decide
   simp only[Lit.wf,h1,h2,Bool.and_eq_true,decide_eq_true_eq]at hwf
   exact hwf
  refine⟨a,rfl,hlt,?_⟩
  have hpx:pix ((List.range len).map fun i=>intOf (V i)) i=z:=by simp[pix,hi,e,intOf]
  rw[hpx,Nat.mul_one]
  exact⟨by rw[hc,e],hz⟩
end
end Go.Proofs.YtmkcacgmnnlddaaGreat
