import Derived.Test.YtjaapemopbbfaaaGreatDoorPMeshesM10
import Derived.Lib.AppendZerosOnto
import Derived.Lib.Overlaps
import Derived.Laws.CopyRow
import Derived.Laws.NewBlocks
import Derived.Laws.CopyOwn
import Derived.Shelf.RegionOpenPlain
namespace Go.Proofs.YtjaapemopbbfaaaGreatDoor
open Go.RowKit
set_option maxRecDepth 100000
set_option maxHeartbeats 16000000
theorem XI (w:World) (x:Int):Calls Tryz.prog 222 #[.int .i64 x] w λe w'=>e=.returned (.bool false)/\w'=w:=by
 go_enter Tryz.func222,Tryz.ntmps222
 go_wp2_with fail
 go_ret
 exact⟨rfl,rfl⟩
theorem Xa (w:World) (x y:Int):Calls Tryz.prog 170 #[.int .i64 x,.int .i64 y] w λe w'=>e=.returned (.int .i64 (jF x y))/\w'=w:=by
 rcases Int.lt_trichotomy x y with h|h|h
 ·have hv:=Lib.hid (show jF x y=-1 by unfold jF;rw[if_pos h])
  have h2:¬y<x:=by omega
  go_enter Tryz.func170,Tryz.ntmps170
  go_wp2_with (go_at_call 222;refine(XI _ _).mono ?_;rintro e w' ⟨rfl,rfl⟩)
  go_ret
  exact⟨zb hv.out.symm,rfl⟩
 ·have hv:=Lib.hid (show jF x y=0 by unfold jF;rw[if_neg (by omega),if_neg (by omega)])
  have h1:¬x<y:=by omega
  have h2:¬y<x:=by omega
  replace h:=Lib.hid h
  go_enter Tryz.func170,Tryz.ntmps170
  go_wp2_with (go_at_call 222;refine(XI _ _).mono ?_;rintro e w' ⟨rfl,rfl⟩)
  go_ret
  exact⟨zb hv.out.symm,rfl⟩
 ·have hv:=Lib.hid (show jF x y=1 by unfold jF;rw[if_neg (by omega),if_pos h])
  have h2:¬x<y:=by omega
  go_enter Tryz.func170,Tryz.ntmps170
  go_wp2_with (go_at_call 222;refine(XI _ _).mono ?_;rintro e w' ⟨rfl,rfl⟩)
  go_ret
  exact⟨zb hv.out.symm,rfl⟩
def orZ (x y:Int):Int:=if x=0 then y else x
theorem qeN (w:World) {g c:Nat}{x y:Int}(h0:w.cell? ⟨g,0,none⟩=some (.int .i64 x)) (h1:w.cell? ⟨g,1,none⟩=some (.int .i64 y)) :
  Calls Tryz.prog 169 #[.slice (some ⟨g,0,none⟩) 2 c] w λe w'=>e=.returned (.int .i64 (orZ x y))/\w'=w:=by
 unfold orZ
 by_cases hx:x=0
 ·subst hx
  rw[if_pos rfl]
  by_cases hy:y=0
  ·subst hy
   go_enter Tryz.func169,Tryz.ntmps169
   go_wp2_with fail
   go_loop [8] (λi=>∃k:Nat,k<=2/\i=.int .i64 (k:Int)) (λi=>2-(intOf i).toNat)
   case atStart=>exact⟨0,by omega,rfl⟩
   case round=>
    obtain⟨k,hk,rfl⟩:=hrel
    rcases(show k=0\/k=1\/k=2 by omega)with rfl|rfl|rfl
    ·have e0:((0:Nat):Int)=0:=rfl
     rw[e0]
     clear e0 hk
     go_wp2_with fail
     go_round
     case rel=>exact⟨1,by omega,rfl⟩
     case measure=>simp[intOf]
    ·have e0:((1:Nat):Int)=1:=rfl
     rw[e0]
     clear e0 hk
     go_wp2_with fail
     go_round
     case rel=>exact⟨2,by omega,rfl⟩
     case measure=>simp[intOf]
    ·have e0:((2:Nat):Int)=2:=rfl
     rw[e0]
     clear e0 hk
     go_wp2_with fail
     go_ret
     exact⟨rfl,rfl⟩
  ·have hd:decide (y=0)=false:=decide_eq_false hy
   go_enter Tryz.func169,Tryz.ntmps169
   go_wp2_with fail
   go_loop [8] (λi=>∃k:Nat,k<=1/\i=.int .i64 (k:Int)) (λi=>2-(intOf i).toNat)
   case atStart=>exact⟨0,by omega,rfl⟩
   case round=>
    obtain⟨k,hk,rfl⟩:=hrel
    rcases(show k=0\/k=1 by omega)with rfl|rfl
    ·have e0:((0:Nat):Int)=0:=rfl
     rw[e0]
     clear e0 hk
     go_wp2_with fail
     go_round
     case rel=>exact⟨1,by omega,rfl⟩
     case measure=>simp[intOf]
    ·have e0:((1:Nat):Int)=1:=rfl
     rw[e0]
     clear e0 hk
     go_wp2_with fail
     go_ret
     exact⟨rfl,rfl⟩
 ·rw[if_neg hx]
  have hd:decide (x=0)=false:=decide_eq_false hx
  go_enter Tryz.func169,Tryz.ntmps169
  go_wp2_with fail
  go_loop [8] (λi=>i=.int .i64 0) (λi=>2-(intOf i).toNat)
  case atStart=>rfl
  case round=>
   subst hrel
   go_wp2_with fail
   go_ret
   exact⟨rfl,rfl⟩
theorem jM (w:World) (x y:EdD) :
  Calls Tryz.prog 124 #[.agg #[.int .i64 x.a,.int .i64 x.b,.int .i64 x.l,.int .i64 x.r],.agg #[.int .i64 y.a,.int .i64 y.b,.int .i64 y.l,.int .i64 y.r]] w λe w'=>e=.returned (.int .i64 (Zz x y))/\Bl w w':=by
 go_enter Tryz.func124,Tryz.ntmps124
 go_wp2_with fail
 refine qe (λW=>Bl w W/\Blk W w.heap.size 152 #[.int .i64 x.a,.int .i64 x.b,.int .i64 x.l,.int .i64 x.r]/\Blk W (w.heap.size+1) 152 #[.int .i64 y.a,.int .i64 y.b,.int .i64 y.l,.int .i64 y.r]) ⟨slc,bts,bts⟩ ?_
 rintro W ⟨hbW,h1,h2⟩
 go_region_held3 (λw'=>(w'.cell? ⟨w.heap.size,0,none⟩=some (.int .i64 x.a)/\w'.cell? ⟨w.heap.size,1,none⟩=some (.int .i64 x.b)/\w'.cell? ⟨w.heap.size,2,none⟩=some (.int .i64 x.l)/\w'.cell? ⟨w.heap.size,3,none⟩=some (.int .i64 x.r))/\(w'.cell? ⟨(w.heap.size+1),0,none⟩=some (.int .i64 y.a)/\w'.cell? ⟨(w.heap.size+1),1,none⟩=some (.int .i64 y.b)/\w'.cell? ⟨(w.heap.size+1),2,none⟩=some (.int .i64 y.l)/\w'.cell? ⟨(w.heap.size+1),3,none⟩=some (.int .i64 y.r))) (first|exact⟨bx4 (T:=152) (h1.bl slc),bx4 (T:=152) (h2.bl slc)⟩) (first |(go_at_call 170;(with_reducible refine(Xa _ x.a y.a).mono ?_);rintro e w1 ⟨rfl,rfl⟩) |(go_at_call 170;(with_reducible refine(Xa _ x.b y.b).mono ?_);rintro e w1 ⟨rfl,rfl⟩) |(go_at_call 169;(refine(qeN (x:=jF x.a y.a) (y:=jF x.b y.b) _ (by exact((Blk.new _ _ _).cell 0).trans rfl) (by exact((Blk.new _ _ _).cell 1).trans rfl)).mono ?_);rintro e w1 ⟨rfl,rfl⟩))
 go_wp2_with fail
 go_ret
 exact⟨zb rfl,slc⟩
theorem qeL {l:List EdD}{x:EdD}{m:Nat}(hs:Zr l) (hm:m<l.length) (hc:ltE (pix l m) x=true):∀k,k<m+1->ltE (pix l k) x=true:=by
 intro k hk
 rcases Nat.lt_succ_iff_lt_or_eq.1 hk with hk|rfl
 ·exact ZE (hs k m hk hm) hc
 ·exact hc
theorem qco {l:List EdD}{x:EdD}{m:Nat}(hs:Zr l) (hc:ltE (pix l m) x=false):∀k,m<=k->k<l.length->ltE (pix l k) x=false:=by
 intro k hk hkl
 rcases Nat.lt_or_eq_of_le hk with hk|rfl
 ·rw[Bool.eq_false_iff]at hc ⊢
  exact λe=>hc (ZE (hs m k hk hkl) e)
 ·exact hc
theorem KZ {x y:EdD}:(Zz x y<0)↔ltE x y=true:=by unfold ltE;rw[decide_eq_true_iff]
theorem Zj (w:World) {g n c:Nat}{l:List EdD}(h:Yn w (some ⟨g,0,none⟩) n c l) (hs:Zr l) (x:EdD) (hn:n<=1048576) :
  Calls Tryz.prog 123 #[.slice (some ⟨g,0,none⟩) n c,.agg #[.int .i64 x.a,.int .i64 x.b,.int .i64 x.l,.int .i64 x.r],.func (.func 124) #[] #[]] w λe w'=>e=.returned (.tuple #[.int .i64 (zD x l:Int),.bool (yG x l)])/\Bl w w':=by
 have hl:=Lib.hid h.len
 replace hs:=Lib.hid hs
 go_enter Tryz.func123,Tryz.ntmps123
 go_wp2_with fail
 refine qe (λW=>Bl w W/\Blk W w.heap.size 152 #[.int .i64 x.a,.int .i64 x.b,.int .i64 x.l,.int .i64 x.r]) ⟨slc,bts⟩ ?_
 rintro W ⟨hbW,hX⟩
 go_loopw [9,10] (λa b wr=>∃i j:Nat,i<=j/\j<=n/\a=.int .i64 (i:Int)/\b=.int .i64 (j:Int)/\Hid (∀k,k<i->ltE (pix l k) x=true)/\Hid (∀k,j<=k->k<n->ltE (pix l k) x=false)/\Bl W wr) (λa b _=>(intOf b).toNat-(intOf a).toNat)
 case atStart=>exact⟨0,n,by omega,by omega,rfl,rfl,Lib.hid (λk hk=>by omega),Lib.hid (λk h1 h2=>by omega),Bl.refl _⟩
 case round=>
  obtain⟨i,j,hij,hj,rfl,rfl,hA,hZ,hbw⟩:=hrel
  obtain⟨wo,rfl⟩:∃wo:World,wo=wr:=⟨_,rfl⟩
  have hX:=hX.bl hbw
  have hXl:=hX.lt
  obtain⟨u0,u1,u2,u3⟩:=bx4 hX
  by_cases hlt:i<j
  ·have hli:(i:Int)<(j:Int):=by omega
   obtain⟨m,hm⟩:∃m:Nat,(i+j) / 2=m:=⟨_,rfl⟩
   have hm1:i<=m:=by omega
   have hm2:m<j:=by omega
   have hmi0:(0:Int)<=(m:Int):=by omega
   have hmi1:(m:Int)<(n:Int):=by omega
   have hm3:((i:Int)+(j:Int)) / 2=(m:Int):=by omega
   replace hm:=Lib.hid hm
   obtain⟨y0,y1,y2,y3⟩:=zX (Yn.bl h (hbW.next hbw)) (show m<n by omega)
   go_wp2_with fail
   clear y0 y1 y2 y3 u0 u1 u2 u3
   by_cases hc:ltE (pix l m) x=true
   ·have hd:decide (Zz (pix l m) x<0)=true:=decide_eq_true (KZ.2 hc)
    have hA2:=Lib.hid (qeL hs.out (by rw[hl.out];omega) hc)
    replace hc:=Lib.hid hc
    go_region_held3 (λw'=>(w'.cell? ⟨g,m*4,none⟩=some (.int .i64 (pix l m).a)/\w'.cell? ⟨g,m*4+1,none⟩=some (.int .i64 (pix l m).b)/\w'.cell? ⟨g,m*4+2,none⟩=some (.int .i64 (pix l m).l)/\w'.cell? ⟨g,m*4+3,none⟩=some (.int .i64 (pix l m).r))/\(w'.cell? ⟨w.heap.size,0,none⟩=some (.int .i64 x.a)/\w'.cell? ⟨w.heap.size,1,none⟩=some (.int .i64 x.b)/\w'.cell? ⟨w.heap.size,2,none⟩=some (.int .i64 x.l)/\w'.cell? ⟨w.heap.size,3,none⟩=some (.int .i64 x.r))) (first|exact⟨zX (Yn.bl h ((hbW.next hbw).next slc)) (show m<n by omega),bx4 (T:=152) (hX.bl slc)⟩) ((go_at_call 124;(with_reducible refine(jM _ (pix l m) x).mono ?_);rintro e w2 ⟨rfl,hb2⟩))
    have hb3:Bl wo w2:=slc
    go_wp2_with fail
    go_roundw
    case rel=>exact⟨m+1,j,by omega,hj,by go_num,rfl,hA2,hZ,hbw.next hb3⟩
    case measure=>simp[intOf];omega
   ·have hd:decide (Zz (pix l m) x<0)=false:=decide_eq_false (λh=>hc (KZ.1 h))
    have hZ2:=Lib.hid (λk (h1:m<=k) (h2:k<n)=>qco hs.out (Bool.eq_false_iff.2 hc) k h1 (by rw[hl.out];exact h2))
    replace hc:=Lib.hid hc
    go_region_held3 (λw'=>(w'.cell? ⟨g,m*4,none⟩=some (.int .i64 (pix l m).a)/\w'.cell? ⟨g,m*4+1,none⟩=some (.int .i64 (pix l m).b)/\w'.cell? ⟨g,m*4+2,none⟩=some (.int .i64 (pix l m).l)/\w'.cell? ⟨g,m*4+3,none⟩=some (.int .i64 (pix l m).r))/\(w'.cell? ⟨w.heap.size,0,none⟩=some (.int .i64 x.a)/\w'.cell? ⟨w.heap.size,1,none⟩=some (.int .i64 x.b)/\w'.cell? ⟨w.heap.size,2,none⟩=some (.int .i64 x.l)/\w'.cell? ⟨w.heap.size,3,none⟩=some (.int .i64 x.r))) (first|exact⟨zX (Yn.bl h ((hbW.next hbw).next slc)) (show m<n by omega),bx4 (T:=152) (hX.bl slc)⟩) ((go_at_call 124;(with_reducible refine(jM _ (pix l m) x).mono ?_);rintro e w2 ⟨rfl,hb2⟩))
    have hb3:Bl wo w2:=slc
    go_wp2_with fail
    go_roundw
    case rel=>exact⟨i,m,by omega,by omega,rfl,rfl,hA,hZ2,hbw.next hb3⟩
    case measure=>simp[intOf];omega
  ·obtain rfl:i=j:=by omega
   have hkm2:¬(i:Int)<(i:Int):=by omega
   have hpos:i=zD x l:=Jg hs.out (by rw[hl.out];exact hj) hA.out (λk h1 h2=>hZ.out k h1 (by rw[hl.out]at h2;exact h2))
   by_cases hin:i<n
   ·have hii:(i:Int)<(n:Int):=by omega
    have hfe:yG x l=decide (Zz (pix l i) x=0):=by unfold yG;rw[<-hpos,hl.out,decide_eq_true hin,Bool.true_and]
    replace hpos:=Lib.hid hpos
    replace hfe:=Lib.hid hfe
    go_wp2_with fail
    clear u0 u1 u2 u3
    go_region_held3 (λw'=>(w'.cell? ⟨g,i*4,none⟩=some (.int .i64 (pix l i).a)/\w'.cell? ⟨g,i*4+1,none⟩=some (.int .i64 (pix l i).b)/\w'.cell? ⟨g,i*4+2,none⟩=some (.int .i64 (pix l i).l)/\w'.cell? ⟨g,i*4+3,none⟩=some (.int .i64 (pix l i).r))/\(w'.cell? ⟨w.heap.size,0,none⟩=some (.int .i64 x.a)/\w'.cell? ⟨w.heap.size,1,none⟩=some (.int .i64 x.b)/\w'.cell? ⟨w.heap.size,2,none⟩=some (.int .i64 x.l)/\w'.cell? ⟨w.heap.size,3,none⟩=some (.int .i64 x.r))) (first|exact⟨zX (Yn.bl h ((hbW.next hbw).next slc)) (show i<n by omega),bx4 (T:=152) (hX.bl slc)⟩) ((go_at_call 124;(with_reducible refine(jM _ (pix l i) x).mono ?_);rintro e w2 ⟨rfl,hb2⟩))
    have hb3:Bl wo w2:=slc
    go_wp2_with fail
    go_ret2
    exact⟨by rw[<-hpos.out,hfe.out];rfl,by exact slc⟩
   ·have hii:¬(i:Int)<(n:Int):=by omega
    have hfe:yG x l=false:=by unfold yG;rw[<-hpos,hl.out,decide_eq_false hin,Bool.false_and]
    replace hpos:=Lib.hid hpos
    replace hfe:=Lib.hid hfe
    go_wp2_with fail
    go_quiet (fail)
    go_wp2_with fail
    go_ret2
    exact⟨by rw[<-hpos.out,hfe.out];rfl,by exact slc⟩
theorem jR {P:Program}(w:World) (dT sT ty elem:TypeId) (g o dLen dCap:Nat) (a:Addr) (sLen sCap:Nat) (cur:Array Value) (t:TypeId) (cs:List Value) (K k:Nat)
  (hu:P.underlying dT=some (.slice elem)) (hs:(P.info? elem).map (·.size)=some K) (hg:w.heap[g]?=some (.cells cur t (0,0))) (hk:k=Nat.min sLen dLen) (hn:cs.length=k*K)
  (hsrc:∀j v,cs[j]?=some v->w.cell? (a.add j)=some v) (hfit:o+cs.length<=cur.size) (h1:∀v∈cs,v.oneCell'=true) :
  (Builtin.copy_ #[dT, sT] ty #[.slice (some ⟨g, o, none⟩) dLen dCap, .slice (some a) sLen sCap]).run P w =
   .ok (goInt k) (w.setRow g (cur.toList.take o++cs++cur.toList.drop (o+cs.length)).toArray):=by
 have hl:=run_loadCells_list (P:=P) w a cs hsrc
 have hst:=run_storeCells_at P g o t cs 0 cur w hg (by simpa using hfit) h1
 cases hq:P.info? elem with
 | none=>simp[hq]at hs
 | some i=>
  have hi:i.size=K:=by simpa [hq]using hs
  simp[Builtin.copy_,run_underlying hu,Builtin.lenOf,Builtin.firstCells,sizeOf,typeInfo,hq,hi,<-hk,<-hn,hl,hst]
theorem xj {P:Program}(w:World) {o:Oper}{a:Act}{K:Act->World->Prop}{Q:Exit->Act->World->Prop}(d s:Operand) (t t':TypeId)
  (ho:o.op=.call { callee:=.builtin .copy,args:=#[d,s],argTypes:=#[t,t'] }) (v u:Value) (hd:a.eval d=v) (hs:a.eval s=u) {v':Value}{w':World}
  (hr:(Builtin.copy_ #[t,t'] o.type #[v,u]).run P w=.ok v' w') (h:K (a.put o.dst v') w'):o.wp P a w K Q:=by
 unfold Oper.wp execOp
 simp only[ho,resolve,invoke,builtin,Sem.run_bind,Sem.run_pure,Result.andThen_ok,List.map_toArray,List.map_cons,List.map_nil,hd,hs,hr]
 exact h
theorem Qm {P:Program}(w:World) {ops:Array Oper}{rest:List Oper}{o:Oper}{a:Act}{Q:Exit->Act->World->Prop}(hgd:o.guard=none) (d s:Operand) (t t':TypeId)
  (ho:o.op=.call { callee:=.builtin .copy,args:=#[d,s],argTypes:=#[t,t'] }) (v u:Value) (hd:a.eval d=v) (hs:a.eval s=u) {v':Value}{w':World}
  (hr:(Builtin.copy_ #[t,t'] o.type #[v,u]).run P w=.ok v' w') (h:wpList P ops Q rest (a.put o.dst v') w'):wpList P ops Q (o::rest) a w :=
 wpList_plain hgd λ_ hK=>xj w d s t t' ho v u hd hs hr (hK _ _ h)
theorem Q7 {P:Program}{ops:Array Oper}{o:Oper}{a:Act}{w:World}{K:Act->World->Prop}{Q:Exit->Act->World->Prop}{E:Prop}
  (hg:o.guard=none) (d x:Operand) (dT sT:TypeId) (hop:o.op=Op.call { callee:=Callee.builtin Builtin.copy,args:=#[d,x],argTypes:=#[dT,sT] })
  (v u:Value) (hd:a.eval d=v) (hx:a.eval x=u) {v':Value}{w':World}(hr:(Builtin.copy_ #[dT,sT] o.type #[v,u]).run P w=.ok v' w') (hK:K (a.put o.dst v') w') :
  if Region.wanted o (yielded ops a.tmps)=true then Oper.wp P o a w K Q else E:=by
 have hw:Region.wanted o (yielded ops a.tmps)=true:=by simp[Region.wanted,hg]
 rw[if_pos hw]
 unfold Oper.wp
 simp[execOp,hop,resolve,invoke,builtin,hd,hx,hr,Result.andThen]
 exact hK
def jC (e:EdD):List Value:=[.int .i64 e.a,.int .i64 e.b,.int .i64 e.l,.int .i64 e.r]
theorem ZF:(Tryz.prog.info? 152).map (λi=>(i.zero,i.size,i.bytes))=some (some (.agg #[.int .i64 0,.int .i64 0,.int .i64 0,.int .i64 0]),4,32):=by kernel_rfl
def zU (base:Nat) (w:World) (v:Value) (l:List EdD):Prop:=w.ownsRow base 152 4 v l.length (l.flatMap jC)
def qd0 (base:Nat) (w:World) (v v':Value) (w':World):Prop :=
 Below base w w'/\w.heap.size<=w'.heap.size/\(∀g,g<w.heap.size->v.ownBlock≠Option.some g->w'.heap[g]?=w.heap[g]?/\v'.ownBlock≠Option.some g)/\v'≠.slice none 0 0
def xf (base:Nat) (w:World) (v:Value) (l:List EdD) (en:Ending) (w':World):Prop:=∃v',en=.returned v'/\zU base w' v' l/\qd0 base w v v' w'
theorem Ji (e:EdD):∀u∈jC e,u.oneCell'=true:=by
 intro u hu
 simp[jC]at hu
 rcases hu with rfl|rfl|rfl|rfl <;> rfl
theorem Yj:∀l:List EdD,(l.flatMap jC).length=l.length*4
 | []=>rfl
 | x::xs=>by
  rw[List.flatMap_cons,List.length_append,Yj xs,List.length_cons]
  have:(jC x).length=4:=rfl
  omega
theorem KS {base n:Nat}{w w':World}{v v':Value}{xs:List Value}(hown:w.ownsRow base 152 4 v n xs) (hbase:base<=w.heap.size) (g2:w.grownBy w' v.ownBlock) (h3:v'≠.slice none 0 0) (g4:v'.ownBlock=v.ownBlock\/v'.ownBlock=some w.heap.size):qd0 base w v v' w':=by
 refine⟨Below.grown (Below.refl base w) g2 hbase (λk e=>(World.ownsRow.lt hown k e).1),g2.size,λg hg hn=>⟨g2.block g hg (λe=>hn e.symm),λe=>?_⟩,h3⟩
 rcases g4 with g4|g4
 ·exact hn (by rw[<-g4];exact e)
 ·rw[g4]at e
  injection e with e
  omega
theorem Ko {base n:Nat}{w:World}{v:Value}{l:List EdD}{e:EdD}(hn:l.length=n) (h:w.ownsRow base 152 4 v (n+1) (l.flatMap jC++jC e)):zU base w v (l++[e]):=by
 unfold zU
 rw[List.length_append,List.flatMap_append,hn]
 simpa using h
theorem UE (w:World) {base b c gv:Nat}{l:List EdD}{e:EdD}(hown:zU base w (.slice (some ⟨b,0,none⟩) l.length c) l) (hv:Blk w gv 152 #[.int .i64 e.a,.int .i64 e.b,.int .i64 e.l,.int .i64 e.r]) (hbase:base<=w.heap.size) (hlen:l.length<=100000) :
  Calls Tryz.prog 125 #[.slice (some ⟨b,0,none⟩) l.length c,.int .i64 (l.length:Int),.slice (some ⟨gv,0,none⟩) 1 1] w (xf base w (.slice (some ⟨b,0,none⟩) l.length c) (l++[e])):=by
 obtain⟨i0,hi0,hz0,hz1,hz2⟩:=info_parts ZF
 have hcap:l.length<=c:=by
  rcases hown.2 with ⟨h,_⟩ |⟨g,cap,cur,h,_,_,hn,_⟩
  ·cases h
  ·injection h with _ _ h;omega
 have hc63:c<=9223372036854775807:=by
  rcases hown.2 with ⟨h,_⟩ |⟨g,cap,cur,h,_,_,hn,hm,_⟩
  ·cases h
  ·injection h with _ _ h;unfold maxLen at hm;omega
 obtain⟨n,hn⟩:∃n,l.length=n:=⟨_,rfl⟩
 have hn2:=Lib.hid hn
 rw[hn]at hown hlen hcap ⊢
 have hown:w.ownsRow base 152 4 (.slice (some ⟨b,0,none⟩) n c) n (l.flatMap jC):=by have h:=hown;unfold zU at h;rw[hn]at h;exact h
 clear hn
 have hci:(n:Int)<=(c:Int):=by omega
 by_cases hcn:c=n
 ·obtain rfl:n=c:=hcn.symm
  go_enter Tryz.func125,Tryz.ntmps125
  go_wp2_with (refine wpList_append_own_at _ rfl (.tmp 23) (.tmp 24) 54 rfl base 152 i0 _ 4 32 Tryz.underlying54 hi0 hz0 hz1 hz2 (by rfl) (by omega) _ n (l.flatMap jC) (by rfl) hown ⟨gv,0,none⟩ 1 1 (jC e) (by rfl) rfl (World.news_of_block hv) (Ji e) (by unfold maxLen;omega) (by omega) hbase ?_;intro v' w' g1 g2 g3 g4)
  go_ret
  exact⟨v',rfl,Ko hn2.out g1,KS hown hbase g2 (λe=>by have:=(g3.1 e).2;omega) g4⟩
 ·go_enter Tryz.func125,Tryz.ntmps125
  go_wp2_with (refine wpList_append_own_at _ rfl (.tmp 23) (.tmp 24) 54 rfl base 152 i0 _ 4 32 Tryz.underlying54 hi0 hz0 hz1 hz2 (by rfl) (by omega) _ n (l.flatMap jC) (by rfl) hown ⟨gv,0,none⟩ 1 1 (jC e) (by rfl) rfl (World.news_of_block hv) (Ji e) (by unfold maxLen;omega) (by omega) hbase ?_;intro v' w' g1 g2 g3 g4)
  go_ret
  exact⟨v',rfl,Ko hn2.out g1,KS hown hbase g2 (λe=>by have:=(g3.1 e).2;omega) g4⟩
theorem xC (l:List EdD):∀i,(l.take i).flatMap jC=(l.flatMap jC).take (i*4):=by
 induction l with
 | nil=>intro i;simp
 | cons x xs ih=>
  intro i
  rcases i with _|i
  ·simp
  ·rw[List.take_succ_cons,List.flatMap_cons,List.flatMap_cons,ih i]
   have h4:(jC x).length=4:=rfl
   rw[List.take_append,List.take_of_length_le (l:=jC x) (by omega),h4,show (i+1)*4-4=i*4 by omega]
theorem xw (l:List EdD):∀i,(l.drop i).flatMap jC=(l.flatMap jC).drop (i*4):=by
 induction l with
 | nil=>intro i;simp
 | cons x xs ih=>
  intro i
  rcases i with _|i
  ·simp
  ·rw[List.drop_succ_cons,List.flatMap_cons,ih i]
   have h4:(jC x).length=4:=rfl
   rw[List.drop_append,List.drop_of_length_le (l:=jC x) (by omega),h4,show (i+1)*4-4=i*4 by omega,List.nil_append]
theorem uZ (l:List EdD):∀u∈l.flatMap jC,u.oneCell'=true:=by
 intro u hu
 obtain⟨x,_,hx⟩:=List.mem_flatMap.1 hu
 exact Ji x u hx
theorem ZD {w:World}{b:Nat}{cur:Array Value}{T:TypeId}{cs:List Value}{k:Nat}(hg:w.heap[b]?=some (.cells cur T (0,0))) (ht:cur.toList.take k=cs) {j:Nat}{u:Value}(h:cs[j]?=some u):w.cell? ⟨b,j,none⟩=some u:=by
 rw[cell_of_row w b j cur T (0,0) hg]
 rw[<-ht,List.getElem?_take]at h
 split at h
 ·rw[<-Array.getElem?_toList];exact h
 ·cases h
theorem QY {w:World}{b:Nat}{cur cur':Array Value}{T:TypeId}(hg:w.heap[b]?=some (.cells cur T (0,0))):(w.setRow b cur').heap[b]?=some (.cells cur' T (0,0)):=setRow_heap w b _ _ T _ hg
theorem qah {cur cs vs:List Value}{i n c:Nat}(h1:cur.length=c*4) (h2:cur.take (n*4)=cs) (h3:cs.length=n*4) (hi:i<n) (hc:n+1<=c) (hv:vs.length=4) :
  ((cur.take ((i+1)*4)++cs.drop (i*4)++cur.drop ((i+1)*4+(cs.drop (i*4)).length)).take (i*4)++vs++(cur.take ((i+1)*4)++cs.drop (i*4)++cur.drop ((i+1)*4+(cs.drop (i*4)).length)).drop (i*4+vs.length)).take ((n+1)*4)=cs.take (i*4)++(vs++cs.drop (i*4)):=by
 have e1:(cur.take ((i+1) * 4) ++ cs.drop (i * 4) ++ cur.drop ((i+1) * 4+(cs.drop (i * 4)).length)).take (i * 4)=cs.take (i * 4):=by
  rw[List.append_assoc,List.take_append_of_le_length (by rw[List.length_take];omega),List.take_take,<-h2,List.take_take]
  congr 1
  omega
 have e2:(cur.take ((i+1) * 4) ++ cs.drop (i * 4) ++ cur.drop ((i+1) * 4+(cs.drop (i * 4)).length)).drop (i * 4+vs.length)=cs.drop (i * 4) ++ cur.drop ((i+1) * 4+(cs.drop (i * 4)).length):=by
  rw[List.append_assoc]
  have hl:(cur.take ((i+1)*4)).length=i*4+vs.length:=by rw[List.length_take];omega
  rw[<-hl,List.drop_left]
 rw[e1,e2,List.append_assoc,<-List.append_assoc vs,<-List.append_assoc (cs.take (i*4))]
 have hl:(cs.take (i*4)++(vs++cs.drop (i*4))).length=(n+1)*4:=by simp[h3,hv];omega
 rw[<-hl,List.take_left]
theorem Xu (w:World) {base b c gv i:Nat}{l:List EdD}{e:EdD}(hown:zU base w (.slice (some ⟨b,0,none⟩) l.length c) l) (hv:Blk w gv 152 #[.int .i64 e.a,.int .i64 e.b,.int .i64 e.l,.int .i64 e.r]) (hne:gv≠b) (hlen:l.length<=100000) (hi:i<l.length) (hroom:l.length+1<=c) :
  Calls Tryz.prog 125 #[.slice (some ⟨b,0,none⟩) l.length c,.int .i64 (i:Int),.slice (some ⟨gv,0,none⟩) 1 1] w (xf base w (.slice (some ⟨b,0,none⟩) l.length c) (l.take i++e::l.drop i)):=by
 have hsz4:(Tryz.prog.info? 152).map (·.size)=some 4:=by
  obtain⟨i0,hi0,hz0,hz1,hz2⟩:=info_parts ZF
  rw[hi0];simp[hz1]
 obtain⟨hcl,⟨h,_⟩ |⟨g,cap,cur,h,hg,hh,hnc,hm,hcs,htk⟩⟩:=id hown
 ·cases h
 injection h with q1 q2 q3
 injection q1 with q1
 injection q1 with q1
 subst q1 q3
 have hc63:c<=9223372036854775807:=by unfold maxLen at hm;omega
 obtain⟨cs,hcse⟩:∃cs,l.flatMap jC=cs:=⟨_,rfl⟩
 have hone:=uZ l
 have hft:=xC l i
 have hfd:=xw l i
 have hbl:=qV hh
 rw[hcse]at hcl htk hone hft hfd
 obtain⟨n,hn⟩:∃n,l.length=n:=⟨_,rfl⟩
 have hn2:=Lib.hid hn
 rw[hn]at hlen hi hroom hcl hnc htk ⊢
 clear hn hown hcse
 have hdl:(cs.drop (i*4)).length=(n-i)*4:=by rw[List.length_drop,hcl];omega
 have hov:∀lb cb,(callFunc 171 #[.slice (some ⟨gv,0,none⟩) 1 1,.slice (some ⟨b,(i+1)*4,none⟩) lb cb]).run Tryz.prog w=.ok (.value (.bool false)) w:=λlb cb=>by
  rw[run_callFunc_extern Tryz.func171 (by kernel_rfl) (by kernel_rfl) (by kernel_rfl) (e:=Extern.SlicesOverlaps.overlaps #[54,54] #[4]) (by kernel_rfl),
   Go.Lib.run_overlaps_apart w 54 4 152 Tryz.underlying54 4 Tryz.sizeOf152 ⟨gv,0,none⟩ ⟨b,(i+1)*4,none⟩ 1 1 lb cb hne 152 152 4 (c*4) (by rw[World.shape?,hv];rfl) (by rw[World.shape?,hh];show some (_,cur.size)=_;rw[hcs]) (by omega) (by rw[World.frozen?,hv];rfl) (by rw[World.frozen?,hv];rfl)]
  rfl
 have hcu1:cur.toList.length=c*4:=by simp[hcs]
 have hcp1:∀ty dc sc,(Builtin.copy_ #[54,54] ty #[.slice (some ⟨b,(i+1)*4,none⟩) (n-i) dc,.slice (some ⟨b,i*4,none⟩) (n+1-i) sc]).run Tryz.prog w.drew=.ok (goInt ((n-i:Nat):Int)) (w.drew.setRow b (cur.toList.take ((i+1)*4)++cs.drop (i*4)++cur.toList.drop ((i+1)*4+(cs.drop (i*4)).length)).toArray):=λty dc sc=>
  jR w.drew _ _ ty 152 b ((i + 1) * 4) (n - i) dc ⟨b, i * 4, none⟩ (n + 1 - i) sc cur 152 (cs.drop (i * 4)) 4 (n - i) Tryz.underlying54 hsz4 hh (by simp only [Nat.min_def]; split <;> omega) hdl
   (λj u hj=>by rw[Addr.add_lit];rw[List.getElem?_drop]at hj;exact ZD (w:=w.drew) hh htk hj) (by rw[hdl,hcs];omega) (λu hu=>hone u (List.mem_of_mem_drop hu))
 have hb2:¬(c=i+1):=by omega
 have hb4:¬(c=i):=by omega
 have hz2:¬((i:Int)=(n:Int)):=by omega
 have hb5:(n:Int)+1<=(c:Int):=by omega
 have hii:(i:Int)<(n:Int):=by omega
 have hw1:IntKind.i64.wrap ((i:Int)+1)=(i:Int)+1:=by rw[IntKind.wrap_i64];omega
 have hb1:(0:Int)<=(i:Int)+1:=by omega
 have hin:i<=n:=by omega
 have mixed:Tryz.prog.follows Departure.mixedOrders=true:=by kernel_rfl
 have htn:((i:Int)+1).toNat=i+1:=by omega
 have hb3:(i:Int)<=(n:Int)+1:=by omega
 obtain⟨cur1,hc1⟩:∃cur1,(cur.toList.take ((i+1)*4)++cs.drop (i*4)++cur.toList.drop ((i+1)*4+(cs.drop (i*4)).length)).toArray=cur1:=⟨_,rfl⟩
 rw[hc1]at hcp1
 have hs1:cur1.size=c*4:=by rw[<-hc1];simp[hcu1,hdl];omega
 have hh1:(w.drew.setRow b cur1).heap[b]?=some (.cells cur1 152 (0,0)):=QY (w:=w.drew) hh
 have hvv:∀ j u,(jC e)[j]?=some u->(w.drew.setRow b cur1).cell? ⟨gv,0+j,none⟩=some u:=by
  intro j u hj
  have hv2:Blk (w.drew.setRow b cur1) gv 152 #[.int .i64 e.a,.int .i64 e.b,.int .i64 e.l,.int .i64 e.r]:=(setRow_other w.drew b gv cur1 hne).trans hv
  rw[Nat.zero_add,hv2.cell j,<-hj,<-Array.getElem?_toList]
  rfl
 obtain⟨cur2,hc2⟩:∃cur2,(cur1.toList.take (i*4)++jC e++cur1.toList.drop (i*4+(jC e).length)).toArray=cur2:=⟨_,rfl⟩
 have hcp2:∀ty dc,(Builtin.copy_ #[54,54] ty #[.slice (some ⟨b,i*4,none⟩) (n+1-i) dc,.slice (some ⟨gv,0,none⟩) 1 1]).run Tryz.prog (w.drew.setRow b cur1)=.ok (goInt ((1:Nat):Int)) ((w.drew.setRow b cur1).setRow b cur2):=λty dc=>by
  rw[<-hc2]
  exact jR (w.drew.setRow b cur1) _ _ ty 152 b (i * 4) (n + 1 - i) dc ⟨gv, 0, none⟩ 1 1 cur1 152 (jC e) 4 1 Tryz.underlying54 hsz4 hh1 (by simp only [Nat.min_def]; split <;> omega) rfl
   (λj u hj=>by rw[Addr.add_lit];exact hvv j u hj) (by rw[hs1];show i*4+4<=c*4;omega) (Ji e)
 have hc2h:=Lib.hid hc2
 have hc1h:=Lib.hid hc1
 clear hc1 hc2
 go_enter Tryz.func125,Tryz.ntmps125
 go_wp2_with (simp only[hov])
 clear hov
 go_region_law_o (refine Q7 rfl _ _ 54 54 rfl _ _ (by simp[Act.eval,Act.put]) (by simp[Act.eval,Act.put]) (hcp1 _ _ _) ?_)
 go_wp2_with (at_builtin;refine Qm _ rfl _ _ 54 54 rfl _ _ rfl rfl (hcp2 _ _) ?_)
 go_ret
 have hc1:=hc1h.out
 have hc2:=hc2h.out
 have hv4:(jC e).length=4:=rfl
 have hlen2:(l.take i++e::l.drop i).length=n+1:=by simp[hn2.out];omega
 have hfl:(l.take i++e::l.drop i).flatMap jC=cs.take (i*4)++(jC e++cs.drop (i*4)):=by rw[List.flatMap_append,List.flatMap_cons,hft,hfd]
 have hct:cur1.toList=cur.toList.take ((i+1)*4)++cs.drop (i*4)++cur.toList.drop ((i+1)*4+(cs.drop (i*4)).length):=by rw[<-hc1]
 have hh2:=QY (cur':=cur2) hh1
 refine⟨_,rfl,?_,?_,?_,λg hgs hn=>⟨?_,?_⟩,λe=>by cases e⟩
 ·unfold zU World.ownsRow
  rw[hlen2,hfl]
  refine⟨?_,.inr ⟨b,c,_,rfl,hg,hh2,by omega,hm,?_,?_⟩⟩
  ·simp[hcl];omega
  ·rw[<-hc2];simp[hs1];omega
  ·rw[<-hc2,hct]
   exact qah hcu1 htk hcl hi hroom hv4
 ·exact below_setRow (below_setRow (Below.drew (Below.refl base w)) hg _) hg _
 ·simp[World.setRow]
 ·have hgb:g≠b:=λe=>hn (by rw[e];rfl)
  rw[setRow_other _ _ _ _ hgb,setRow_other _ _ _ _ hgb]
  rfl
 ·intro e
  exact hn e
theorem Kh {row cs vs:List Value}{i n:Nat}(h2:row.take (i*4)=cs.take (i*4)) (h3:cs.length=n*4) (hi:i<n) (hv:vs.length=4) :
  ((row.take (i*4)++vs++row.drop (i*4+vs.length)).take ((i+1)*4)++cs.drop (i*4)++(row.take (i*4)++vs++row.drop (i*4+vs.length)).drop ((i+1)*4+(cs.drop (i*4)).length)).take ((n+1)*4)=cs.take (i*4)++(vs++cs.drop (i*4)):=by
 have e1:(row.take (i * 4) ++ vs ++ row.drop (i * 4+vs.length)).take ((i+1) * 4)=cs.take (i * 4) ++ vs:=by
  have hl:(cs.take (i*4)++vs).length=(i+1)*4:=by simp[h3,hv];omega
  rw[h2,<-hl,List.take_left]
 rw[e1,List.append_assoc,List.append_assoc,<-List.append_assoc vs,<-List.append_assoc (cs.take (i*4))]
 have hl:(cs.take (i*4)++(vs++cs.drop (i*4))).length=(n+1)*4:=by simp[h3,hv];omega
 rw[<-hl,List.take_left]
theorem X3 (w:World) {base b c gv i:Nat}{l:List EdD}{e:EdD}(hown:zU base w (.slice (some ⟨b,0,none⟩) l.length c) l) (hv:Blk w gv 152 #[.int .i64 e.a,.int .i64 e.b,.int .i64 e.l,.int .i64 e.r]) (hbase:base<=w.heap.size) (hlen:l.length<=100000) (hi:i<l.length) (hroom:c<l.length+1) :
  Calls Tryz.prog 125 #[.slice (some ⟨b,0,none⟩) l.length c,.int .i64 (i:Int),.slice (some ⟨gv,0,none⟩) 1 1] w (xf base w (.slice (some ⟨b,0,none⟩) l.length c) (l.take i++e::l.drop i)):=by
 obtain⟨i0,hi0,hz0,hz1,hz2⟩:=info_parts ZF
 have hsz4:(Tryz.prog.info? 152).map (·.size)=some 4:=by rw[hi0];simp[hz1]
 obtain⟨hcl,⟨h,_⟩ |⟨g,cap,cur,h,hg,hh,hnc,hm,hcs,htk⟩⟩:=id hown
 ·cases h
 injection h with q1 q2 q3
 injection q1 with q1
 injection q1 with q1
 subst q1 q3
 have hc63:c<=9223372036854775807:=by unfold maxLen at hm;omega
 obtain⟨cs,hcse⟩:∃cs,l.flatMap jC=cs:=⟨_,rfl⟩
 have hone:=uZ l
 have hft:=xC l i
 have hfd:=xw l i
 have hbl:=qV hh
 rw[hcse]at hcl htk hone hft hfd
 obtain⟨n,hn⟩:∃n,l.length=n:=⟨_,rfl⟩
 have hn2:=Lib.hid hn
 rw[hn]at hlen hi hroom hcl hnc htk ⊢
 clear hn hown hcse
 obtain rfl:n=c:=by omega
 have hdl:(cs.drop (i*4)).length=(n-i)*4:=by rw[List.length_drop,hcl];omega
 have htl:(cs.take (i*4)).length=i*4:=by rw[List.length_take,hcl];omega
 have hold:(Builtin.firstCells i0.size i (.slice (some ⟨b,0,none⟩) i n)).run Tryz.prog w.drew=.ok (cs.take (i * 4)).toArray w.drew:=by
  rw[hz1]
  exact run_firstCells_some w.drew 4 i ⟨b,0,none⟩ i n (cs.take (i*4)) htl (λj u hj=>by
   rw[Addr.add_lit,Nat.zero_add]
   rw[List.getElem?_take]at hj
   split at hj
   ·exact ZD (w:=w.drew) hh htk hj
   ·cases hj)
 have hik:i+(n+1-i)=n+1:=by omega
 have hkk:(n:Int)+1-(i:Int)=((n+1-i:Nat):Int):=by omega
 have hrz : ∀ ty, (Builtin.append_ #[54, 3] ty #[.slice (some ⟨b, 0, none⟩) i n, .int .i64 ((n : Int) + 1 - (i : Int))]).run Tryz.prog w =
   .ok (.slice (some ⟨w.heap.size,0,none⟩) (n+1) (grownCap w (n+1) n 152)) (w.drew.alloc (.cells ((cs.take (i*4)).toArray++Builtin.zeroCells (.agg #[.int .i64 0,.int .i64 0,.int .i64 0,.int .i64 0]:Value).cells (n+1-i)++Builtin.zeroCells (.agg #[.int .i64 0,.int .i64 0,.int .i64 0,.int .i64 0]:Value).cells (grownCap w (n+1) n 152-(n+1))) 152)):=λty=>by
  have h:=Go.Lib.run_append_grow_zeros w 54 3 ty 152 i0 _ .i64 .i64 Tryz.underlying54 Tryz.underlying3 hi0 hz0 (some ⟨b,0,none⟩) i n (cs.take (i*4)) hold (n+1-i) (by omega) (by omega) (by omega) (by omega) (by rw[hz2];omega) (by rw[hz2,hik];exact growslice_fits (by omega) (by omega))
  rw[hik]at h
  rw[hkk]
  exact h
 obtain⟨G,hG⟩:∃G,G=grownCap w (n+1) n 152:=⟨_,rfl⟩
 obtain⟨ROW,hROW⟩:∃ROW:Array Value,ROW=(cs.take (i*4)).toArray++Builtin.zeroCells (.agg #[.int .i64 0,.int .i64 0,.int .i64 0,.int .i64 0]:Value).cells (n+1-i)++Builtin.zeroCells (.agg #[.int .i64 0,.int .i64 0,.int .i64 0,.int .i64 0]:Value).cells (G-(n+1)):=⟨_,rfl⟩
 rw[<-hG]at hrz
 rw[<-hROW]at hrz
 have hGn:n+1<=G:=by rw[hG];exact grownCap_ge w _ _ _
 have hGm:G<=maxLen:=by rw[hG];exact grownCap_le_maxLen w _ _ _ (by unfold maxLen;omega)
 have hG63:G<=9223372036854775807:=by unfold maxLen at hGm;omega
 have hrs:ROW.size=G * 4:=by
  rw[hROW]
  simp[Builtin.zeroCells,Value.cells,htl]
  omega
 have hrt:ROW.toList.take (i * 4)=cs.take (i * 4):=by
  rw[hROW,Array.append_assoc,Array.toList_append,<-htl]
  simp
 obtain⟨cur1,hc1⟩:∃cur1,(ROW.toList.take (i*4)++jC e++ROW.toList.drop (i*4+(jC e).length)).toArray=cur1:=⟨_,rfl⟩
 have hv4:(jC e).length=4:=rfl
 have hs1:cur1.size=G*4:=by rw[<-hc1];simp[hrs];rw[hv4];omega
 obtain⟨cur2,hc2⟩:∃cur2,(cur1.toList.take ((i+1)*4)++cs.drop (i*4)++cur1.toList.drop ((i+1)*4+(cs.drop (i*4)).length)).toArray=cur2:=⟨_,rfl⟩
 have hvl:=hv.lt
 have hN:(w.alloc (.cells ROW 152)).heap[w.heap.size]?=some (.cells ROW 152 (0,0)):=heap_alloc_new w _
 have hcell:∀(W X:World) (p:Addr),W.heap[p.block]?=X.heap[p.block]?->W.cell? p=X.cell? p:=λW X p h=>by simp only[World.cell?,h]
 have hcpA:∀(W:World),W.heap=(w.alloc (.cells ROW 152)).heap->∀ty dc,(Builtin.copy_ #[54,54] ty #[.slice (some ⟨w.heap.size,i*4,none⟩) (n+1-i) dc,.slice (some ⟨gv,0,none⟩) 1 1]).run Tryz.prog W=.ok (goInt ((1:Nat):Int)) (W.setRow w.heap.size cur1):=λW hW ty dc=>by
  rw[<-hc1]
  exact jR W _ _ ty 152 w.heap.size (i * 4) (n + 1 - i) dc ⟨gv, 0, none⟩ 1 1 ROW 152 (jC e) 4 1 Tryz.underlying54 hsz4 (by rw [hW]; exact hN) (by simp only [Nat.min_def]; split <;> omega) rfl
   (λj u hj=>by
    rw[Addr.add_lit,hcell W w _ (by rw[hW];exact Below.heap_alloc w _ gv hvl),Nat.zero_add,hv.cell j,<-hj,<-Array.getElem?_toList]
    rfl) (by rw[hrs];show i*4+4<=G*4;omega) (Ji e)
 have hN1:((w.alloc (.cells ROW 152)).setRow w.heap.size cur1).heap[w.heap.size]?=some (.cells cur1 152 (0,0)):=QY hN
 have hcpB:∀(W:World),W.heap=((w.alloc (.cells ROW 152)).setRow w.heap.size cur1).heap->∀ty dc sc,(Builtin.copy_ #[54,54] ty #[.slice (some ⟨w.heap.size,(i+1)*4,none⟩) (n-i) dc,.slice (some ⟨b,i*4,none⟩) (n-i) sc]).run Tryz.prog W=.ok (goInt ((n-i:Nat):Int)) (W.setRow w.heap.size cur2):=λW hW ty dc sc=>by
  rw[<-hc2]
  exact jR W _ _ ty 152 w.heap.size ((i + 1) * 4) (n - i) dc ⟨b, i * 4, none⟩ (n - i) sc cur1 152 (cs.drop (i * 4)) 4 (n - i) Tryz.underlying54 hsz4 (by rw [hW]; exact hN1) (by simp only [Nat.min_def]; split <;> omega) hdl
   (λj u hj=>by
    rw[Addr.add_lit,hcell W w _ (by rw[hW,setRow_other _ _ _ _ (show b≠w.heap.size by omega)];exact Below.heap_alloc w _ b hbl)]
    rw[List.getElem?_drop]at hj
    exact ZD hh htk hj) (by rw[hdl,hs1];omega) (λu hu=>hone u (List.mem_of_mem_drop hu))
 have hz2:¬((i:Int)=(n:Int)):=by omega
 have hz3:(n:Int)<(n:Int)+1:=by omega
 have hb2:¬(G=i+1):=by omega
 have hb4:¬(G=i):=by omega
 have hb6:¬(n=i):=by omega
 have hw1:IntKind.i64.wrap ((i:Int)+1)=(i:Int)+1:=by rw[IntKind.wrap_i64];omega
 have hb1:(0:Int)<=(i:Int)+1:=by omega
 have hin:i<=n:=by omega
 have mixed:Tryz.prog.follows Departure.mixedOrders=true:=by kernel_rfl
 have htn:((i:Int)+1).toNat=i+1:=by omega
 have hb3:(i:Int)<=(n:Int):=by omega
 have hcpB2:=hcpB (((w.alloc (.cells ROW 152)).drew.setRow w.heap.size cur1).drew) rfl
 clear hcpB
 have hc2h:=Lib.hid hc2
 have hc1h:=Lib.hid hc1
 clear hc1 hc2 hkk hik hold hROW hG
 go_enter Tryz.func125,Tryz.ntmps125
 go_wp2_with (first
  | (at_builtin;refine Go.Lib.wpList_append_run _ rfl _ _ _ _ rfl _ _ rfl rfl _ _ (hrz _) ?_)
  | (refine Qm _ rfl _ _ 54 54 rfl _ _ rfl rfl (hcpA ((w.alloc (.cells ROW 152)).drew) rfl _ _) ?_))
 go_region_law_o (refine Q7 rfl _ _ 54 54 rfl (.slice (some ⟨w.heap.size,(i+1)*4,none⟩) (n-i) (G-(i+1))) (.slice (some ⟨b,i*4,none⟩) (n-i) (n-i)) (by simp[Act.eval,Act.put]) (by simp[Act.eval,Act.put]) (hcpB2 _ _ _) ?_)
 go_wp2
 go_ret
 have hc1:=hc1h.out
 have hc2:=hc2h.out
 have hlen2:(l.take i++e::l.drop i).length=n+1:=by simp[hn2.out];omega
 have hfl:(l.take i++e::l.drop i).flatMap jC=cs.take (i*4)++(jC e++cs.drop (i*4)):=by rw[List.flatMap_append,List.flatMap_cons,hft,hfd]
 have hct:cur1.toList=ROW.toList.take (i*4)++jC e++ROW.toList.drop (i*4+(jC e).length):=by rw[<-hc1]
 have hh2:=QY (cur':=cur2) hN1
 refine⟨_,rfl,?_,?_,?_,λg hgs hn=>⟨?_,?_⟩,λe=>by cases e⟩
 ·unfold zU World.ownsRow
  rw[hlen2,hfl]
  refine⟨?_,.inr ⟨w.heap.size,G,_,rfl,hbase,hh2,by omega,hGm,?_,?_⟩⟩
  ·simp[hcl];omega
  ·rw[<-hc2];simp[hs1];omega
  ·rw[<-hc2,hct]
   exact Kh hrt hcl hi hv4
 ·exact below_setRow (Below.drew (below_setRow (Below.drew (Below.alloc (Below.refl base w) hbase _)) hbase _)) hbase _
 ·simp[World.setRow]
 ·rw[setRow_other _ _ _ _ (show g≠w.heap.size by omega)]
  refine(setRow_other (w.alloc (.cells ROW 152)).drew w.heap.size g cur1 (show g≠w.heap.size by omega)).trans ?_
  exact Below.heap_alloc w _ g hgs
 ·intro e
  injection e with e
  simp only at e
  omega
theorem Zp (w:World) {base c gv i:Nat}{v:Value}{l:List EdD}{e:EdD}(hown:zU base w v l) (hnil:v≠.slice none 0 0) (hv:Blk w gv 152 #[.int .i64 e.a,.int .i64 e.b,.int .i64 e.l,.int .i64 e.r]) (hne:v.ownBlock≠Option.some gv) (hbase:base<=w.heap.size) (hlen:l.length<=100000) (hi:i<=l.length) (hc:c=1) :
  Calls Tryz.prog 125 #[v,.int .i64 (i:Int),.slice (some ⟨gv,0,none⟩) 1 c] w (xf base w v (l.take i++e::l.drop i)):=by
 subst hc
 obtain⟨_,⟨h,_⟩ |⟨g,cap,cur,rfl,hg,hh,hnc,hm,hcs,htk⟩⟩:=id hown
 ·exact absurd h hnil
 rcases Nat.lt_or_eq_of_le hi with hlt|rfl
 ·by_cases hr:l.length+1<=cap
  ·exact Xu w hown hv (λe=>hne (by rw[e];rfl)) hlen hlt hr
  ·exact X3 w hown hv hbase hlen hlt (by omega)
 ·have h:=UE w hown hv hbase hlen
  rw[List.take_length,List.drop_length]
  exact h
section
variable {lo hi:Nat}{w W:World}{A:Option Addr}{n c:Nat}{B:Option Addr}{m d:Nat}{x:MeD}
end
end Go.Proofs.YtjaapemopbbfaaaGreatDoor
