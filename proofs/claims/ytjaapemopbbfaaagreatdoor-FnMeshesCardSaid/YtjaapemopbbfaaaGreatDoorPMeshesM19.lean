import Derived.Test.YtjaapemopbbfaaaGreatDoorPMeshesM11
import Derived.Test.YtjaapemopbbfaaaGreatDoorPMeshesM18
namespace Go.Proofs.YtjaapemopbbfaaaGreatDoor
open Go.RowKit
set_option maxRecDepth 100000
set_option maxHeartbeats 8000000
def Sep (vt:Value) (bs:List Nat):Prop:=bs.Nodup/\∀g,vt.ownBlock=Option.some g->g∉bs
theorem Um (vt:Value):uP (Sep vt) :=
 ⟨⟨List.nodup_nil,λg _=>by simp⟩,λa b ha hb hd=>⟨List.nodup_append.2 ⟨ha.1,hb.1,hd⟩,λg e hm=>by rcases List.mem_append.1 hm with h|h;exact ha.2 g e h;exact hb.2 g e h⟩⟩
theorem qO.lo {α:Type} [Inhabited α] {N:List Nat->Prop}{TP:TypeId}{size lo hi:Nat}{El:World->Array Value->Nat->α->List Nat->Prop}{w:World}{v:Value}{l:List α}(h:qO N TP size El lo hi w v l) {g:Nat}(hg:v.ownBlock=Option.some g):lo<=g/\g<hi:=by
 obtain⟨_,_,h1,h2,_⟩:=h
 exact⟨(World.ownsRow.lt h1 g hg).1,h2 g hg⟩
theorem qO.up {α:Type} [Inhabited α] {N:List Nat->Prop}{TP:TypeId}{size lo hi hi':Nat}{El:World->Array Value->Nat->α->List Nat->Prop}{w:World}{v:Value}{l:List α}(h:qO N TP size El lo hi w v l) (h1:hi<=hi') (h2:hi'<=w.heap.size):qO N TP size El lo hi' w v l:=by
 obtain⟨cells,fs,r1,r2,r3,r4,r5,r6,r7⟩:=h
 exact⟨cells,fs,r1,λg e=>Nat.lt_of_lt_of_le (r2 g e) h1,r3,r4,λb hm=>⟨(r5 b hm).1,Nat.lt_of_lt_of_le (r5 b hm).2.1 h1,(r5 b hm).2.2⟩,r6,h2⟩
theorem qO.keepX {α:Type} [Inhabited α] {N N':List Nat->Prop}{TP:TypeId}{size lo hi:Nat}{El:World->Array Value->Nat->α->List Nat->Prop}{w W:World}{v:Value}{l:List α}(hk:JD size El) (h:qO N TP size El lo hi w v l) (hs:w.heap.size<=W.heap.size)
  (h1:∀g,v.ownBlock=Option.some g->W.heap[g]?=w.heap[g]?) (h2:∀bs:List Nat,N bs->(∀b∈bs,lo<=b/\b<hi)->(∀b∈bs,W.heap[b]?=w.heap[b]?)/\N' bs):qO N' TP size El lo hi W v l:=by
 obtain⟨cells,fs,r1,r2,r3,r4,r5,r6,r7⟩:=h
 obtain⟨q1,q2⟩:=h2 fs.flatten r6 λb hm=>⟨(r5 b hm).1,(r5 b hm).2.1⟩
 refine⟨cells,fs,⟨r1.1,?_⟩,r2,r3,λi hi=>hk _ _ _ _ _ _ _ _ (r4 i hi) (λ_ _=>rfl) hs λb hm=>q1 b (zL hm),r5,q2,Nat.le_trans r7 hs⟩
 rcases r1.2 with h |⟨g,cap,cur,rfl,hg,hh,r⟩
 ·exact .inl h
 ·exact .inr ⟨g,cap,cur,rfl,hg,(h1 g rfl).trans hh,r⟩
theorem qaK.keep {lo hi:Nat}{w W:World}{v:Value}{l:List qC}(h:qaK lo hi w v l) (hs:w.heap.size<=W.heap.size) (h1:∀g,v.ownBlock=Option.some g->W.heap[g]?=w.heap[g]?):qaK lo hi W v l:=by
 obtain⟨cells,fs,r1,r2,r3,r4,r5,r6,r7⟩:=h
 refine⟨cells,fs,⟨r1.1,?_⟩,r2,r3,λi hi=>r4 i hi,r5,r6,Nat.le_trans r7 hs⟩
 rcases r1.2 with h |⟨g,cap,cur,rfl,hg,hh,r⟩
 ·exact .inl h
 ·exact .inr ⟨g,cap,cur,rfl,hg,(h1 g rfl).trans hh,r⟩
def MR (lo:Nat) (w:World) (vp vt:Value) (l:List PtD) (t:List qC):Prop :=
 jK (Sep vt) lo w.heap.size w vp l/\qaK lo w.heap.size w vt t/\∀g,vt.ownBlock=Option.some g->vp.ownBlock≠Option.some g
section
variable {lo:Nat}{w W w':World}{vp vt vp' vt':Value}{l l':List PtD}{t t':List qC}
theorem MR.nil (w:World):MR lo w (.slice none 0 0) (.slice none 0 0) [] [] :=
 ⟨qO.nil (Um _) w (Nat.le_refl _),qO.nil yr w (Nat.le_refl _),λg e=>by cases e⟩
theorem MR.bl (h:MR lo w vp vt l t) (hb:Bl w W):MR lo W vp vt l t :=
 ⟨(qO.bl (qx 3) h.1 hb).up hb.size (Nat.le_refl _),(qO.bl ZX h.2.1 hb).up hb.size (Nat.le_refl _),h.2.2⟩
theorem MR.set (h:MR lo w vp vt l t) {q:Addr}(hq:q.block<lo) (u:Value):MR lo (w.setCell q u) vp vt l t:=by
 have hs:(w.setCell q u).heap.size=w.heap.size:=by simp
 refine⟨?_,?_,h.2.2⟩
 ·rw[hs]
  exact qO.keep (qx 3) h.1 (by omega) λb h1 _=>Below.heap_setCell w q u b (by omega)
 ·rw[hs]
  exact qO.keep ZX h.2.1 (by omega) λb h1 _=>Below.heap_setCell w q u b (by omega)
theorem MR.afterP (h:MR lo w vp vt l t) (h1:jK (Sep vt) lo w'.heap.size w' vp' l') (ho:∀g,g<w.heap.size->vp.ownBlock≠Option.some g->w'.heap[g]?=w.heap[g]?/\vp'.ownBlock≠Option.some g) (hs:w.heap.size<=w'.heap.size):MR lo w' vp' vt l' t:=by
 exact⟨h1,(qaK.keep h.2.1 hs (λg e=>(ho g (h.2.1.lo e).2 (h.2.2 g e)).1)).up hs (Nat.le_refl _),λg e=>(ho g (h.2.1.lo e).2 (h.2.2 g e)).2⟩
theorem MR.afterT (h:MR lo w vp vt l t) (h1:qaK lo w'.heap.size w' vt' t') (ho:∀g,g<w.heap.size->vt.ownBlock≠Option.some g->w'.heap[g]?=w.heap[g]?/\vt'.ownBlock≠Option.some g) (hs:w.heap.size<=w'.heap.size):MR lo w' vp vt' l t':=by
 refine⟨(qO.keepX (qx 3) h.1 hs (λg e=>(ho g (h.1.lo e).2 λe2=>h.2.2 g e2 e).1) λbs hn hb=>⟨λb hm=>(ho b (hb b hm).2 λe=>hn.2 b e hm).1,hn.1,λg e hm=>(ho g (hb g hm).2 λe2=>hn.2 g e2 hm).2 e⟩).up hs (Nat.le_refl _),h1,λg e e2=>(ho g (h.1.lo e2).2 λe3=>h.2.2 g e3 e2).2 e⟩
theorem zw.sep {s:Bool}{A:Option Addr}{n c:Nat}{B:Option Addr}{m d:Nat}{t:Bool}{C:Option Addr}{i e:Nat}{D:Option Addr}{j f:Nat}{p:PtD}{b0:Nat}(h:OwP 3 b0 w s A n c B m d t C i e D j f p) (hv:∀g,vt.ownBlock=Option.some g->g<b0):zw (Sep vt) 3 b0 w s A n c B m d t C i e D j f p:=by
 obtain⟨b1,b2,h1,h2,hf⟩:=h
 exact⟨b1,b2,h1,h2,hf.2,hf.1,λg e hm=>by have:=hv g e;have:=(hf.2 g hm).1;omega⟩
end
section
variable {P:Program}{ops:Array Oper}{Q:Exit->Act->World->Prop}{md:Region.Mode}{S:World->Prop}{last:Nat}
def Zd (P:Program) (md:Region.Mode) (ops:Array Oper) (Q:Exit->Act->World->Prop) (S:World->Prop) (last:Nat):Nat->Array Bool->Act->World->Prop
 | 0,listed,a,w=>Region.ready md ops listed=[]/\Q .normal a w
 | fuel+1,listed,a,w=>
  (Region.ready md ops listed=[]->Q .normal a w) /\
  ∀i∈Region.ready md ops listed,wpOp P ops Q i (λa' w'=>(i≠last->S w')/\Zd P md ops Q S last fuel (listed.setIfInBounds i true) a' w') a w
theorem vw:∀(fuel:Nat) (listed:Array Bool) (a:Act) (w:World),Zd P md ops Q S last fuel listed a w->wpAny P md ops Q fuel listed a w
 | 0,_,_,_,h=>h
 | fuel+1,_,_,_,h=>⟨h.1,λi hi=>wpOp_mono (λa' w' h'=>vw fuel _ a' w' h'.2) (h.2 i hi)⟩
def qaR (md:Region.Mode) (ops:Array Oper) (last i:Nat):Bool :=
 match ops[last]? with
 | some ol=>ol.after.any (λe=>Region.binds md e&&e.on == i)
 | none=>false
theorem UI {i:Nat}(h:qaR md ops last i=true):∀oj,ops[last]?=some oj->¬∀e∈oj.after,Region.binds md e=true->e.on≠i:=by
 intro oj hj hno
 unfold qaR at h
 rw[hj]at h
 obtain⟨k,hk,hx⟩:=Array.any_eq_true.1 h
 have h1:=Bool.and_eq_true_iff.1 hx
 exact hno _ (Array.getElem_mem hk) h1.1 (by simpa using h1.2)
theorem xW {i:Nat}{oi:Oper}{v:Value}(hi:ops[i]?=some oi) (hsel:∀(j:Nat) (o:Oper) cs b,ops[j]?=some o->o.op≠.select cs b)
  (hQ:∀c a w,Q (.panic c) (a.put oi.dst v) w->Q (.panic c) a w) (hw:qaR md ops last i=true) :
  ∀(fuel:Nat) (listed:Array Bool) (a:Act) (w:World),
   (∀j oj,ops[j]?=some oj->j≠i->listed.getD j true=false->(∀e∈oj.after,Region.binds md e=true->e.on≠i)->oi.apart ops oj=true) ->
   i∈Region.ready md ops listed->YieldsIf P ops S oi v a->S w ->
   Zd P md ops Q S last fuel (listed.setIfInBounds i true) (a.put oi.dst v) w->Zd P md ops Q S last (fuel+1) listed a w:=by
 intro fuel
 induction fuel with
 | zero=>
  intro listed a w _ hr hy hS H
  refine⟨λh=>(by rw[h]at hr;cases hr),λj hj=>?_⟩
  by_cases hji:j=i
  ·subst hji;exact hy.wpOp hi hS ⟨λ_=>hS,H⟩
  ·have:=ready_mono hj hji
   rw[H.1]at this
   cases this
 | succ fuel ih=>
  intro listed a w hfree hr hy hS H
  refine⟨λh=>(by rw[h]at hr;cases hr),λj hj=>?_⟩
  by_cases hji:j=i
  ·subst hji;exact hy.wpOp hi hS ⟨λ_=>hS,H⟩
  ·have h1:=H.2 j (ready_mono hj hji)
   obtain⟨hjun,oj,hoj,hall⟩:=mem_ready.1 hj
   have hnot:∀e∈oj.after,Region.binds md e=true->e.on≠i:=λe he hb heq=>by
    have h1:=hall e he hb
    have h0:=(mem_ready.1 hr).1
    rw[heq]at h1
    rcases Nat.lt_or_ge i listed.size with h'|h'
    ·simp[h']at h0 h1;rw[h0]at h1;cases h1
    ·simp[Array.getElem?_eq_none h']at h1
   have hjl:j≠last:=λe=>by subst e;exact UI hw oj hoj hnot
   have h2:=wpOp_putIf hoj (hfree j oj hoj hji hjun hnot) (λcs b=>hsel i oi cs b hi) (λcs b=>hsel j oj cs b hoj) hQ hy h1
   have hfree' : ∀ k ok, ops[k]? = some ok -> k ≠ i -> (listed.setIfInBounds j true).getD k true = false ->
     (∀e∈ok.after,Region.binds md e=true->e.on≠i)->oi.apart ops ok=true:=λk ok hk hki hun hno=>by
    refine hfree k ok hk hki ?_ hno
    by_cases hjk:j=k
    ·subst hjk;exact hjun
    ·rw[getD_set_ne true hjk]at hun;exact hun
   refine wpOp_mono (λa' w' h3=>⟨λ_=>h3.2.1 hjl,ih (listed.setIfInBounds j true) a' w' hfree' (ready_mono hr (Ne.symm hji)) h3.1 (h3.2.1 hjl) ?_⟩) h2
   rw[Array.setIfInBounds_comm _ _ hji]
   exact h3.2.2
theorem qc {i:Nat}{oi:Oper}{v:Value}{fuel:Nat}{listed:Array Bool}{a:Act}{w:World}(hi:ops[i]?=some oi)
  (hs:Region.noSelect ops=true) (hf:Region.free md ops listed i=true) (hr:(Region.ready md ops listed).contains i=true) (hl:qaR md ops last i=true)
  (hQ:∀c a w,Q (.panic c) (a.put oi.dst v) w->Q (.panic c) a w) (hw:Region.wanted oi (yielded ops a.tmps)=true) (hy:∀w,S w->(execOp a.eval oi).run P w=.ok (.value v) w) (hS:S w)
  (h:Zd P md ops Q S last fuel (listed.setIfInBounds i true) (a.put oi.dst v) w):Zd P md ops Q S last (fuel+1) listed a w :=
 xW hi (Region.noSelect_spec hs) hQ hl fuel listed a w (Region.free_spec hi hf) (by simpa using hr) (.inl ⟨hw,hy⟩) hS h
theorem qG {i:Nat}{o:Oper}{fuel:Nat}{listed:Array Bool}{a:Act}{w:World}(ho:ops[i]?=some o) (hr:Region.ready md ops listed=[i])
  (h:∀K':Act->World->Prop,Shut (∀a w,(i≠last->S w)->Zd P md ops Q S last fuel (listed.setIfInBounds i true) a w->K' a w)->if Region.wanted o (yielded ops a.tmps)=true then Oper.wp P o a w K' Q else K' (a.put o.dst undef) w):Zd P md ops Q S last (fuel+1) listed a w:=by
 refine⟨λh0=>(by rw[hr]at h0;cases h0),λj hj=>?_⟩
 rw[hr]at hj
 obtain rfl:j=i:=by simpa using hj
 exact wpOp_step ho (λK' hK=>h K' (λa w hS hW=>hK a w ⟨hS,hW⟩))
theorem ym {listed:Array Bool}{a:Act}{w:World}(hr:Region.ready md ops listed=[]) (h:Q .normal a w):Zd P md ops Q S last 0 listed a w:=⟨hr,h⟩
theorem yp {id:Nat}{a:Act}{w:World}(last n:Nat) (S:World->Prop) (hn:ops.size=n) (hm:P.follows .mixedOrders=true) (_hS:S w.drew)
  (h:Zd P .any ops Q S last n (Array.replicate n false) a w.drew):(Code.region id ops true).wp P Q a w:=by
 subst hn
 exact wp_region_any hm (vw _ _ _ _ h)
end
theorem U1 (w:World) {s:Bool}{A:Option Addr}{n c:Nat}{B:Option Addr}{m d:Nat}{r:qH}{s':Bool}{A':Option Addr}{n' c':Nat}{B':Option Addr}{m' d':Nat}{r':qH}(h:RdR w s A n c B m d r) (k:RdR w s' A' n' c' B' m' d' r') (ho:¬(OkR r/\OkR r')) :
  Calls Tryz.prog 55 #[.agg #[.bool s,.slice A n c,.slice B m d],.agg #[.bool s',.slice A' n' c',.slice B' m' d']] w λe w'=>∃s1 A1 n1 c1 B1 m1 d1,e=.returned (.agg #[.bool s1,.slice A1 n1 c1,.slice B1 m1 d1])/\OwR 3 w.heap.size w' s1 A1 n1 c1 B1 m1 d1 (Zs r r')/\Bl w w':=by
 have hall:=Lib.hid (λhk=>ho (yh.1 hk):¬ZK [r,r'])
 have hval:=Lib.hid (show Zs r r'=zR by unfold Zs;rw[if_neg ho])
 replace ho:=Lib.hid ho
 go_enter Tryz.func55,Tryz.ntmps55
 go_wp2_with fail
 refine qd (λW=>Bl w W/\Blk W (w.heap.size) 26 #[.bool s,.slice A n c,.slice B m d]/\Blk W (w.heap.size+1) 26 #[.bool s',.slice A' n' c',.slice B' m' d']/\Wk 3 26 (w.heap.size+1+1) W/\Blk W (w.heap.size+1+1+1) 26 #[.bool s,.slice A n c,.slice B m d,.bool s',.slice A' n' c',.slice B' m' d']) ⟨slc,bts,bts,bts,Blk.new3 _ _ _ _ _ _⟩ ?_
 rintro W ⟨hbW,hx,hx',hr,hy⟩
 refine(Z6 _ (YP.two hy (h.bl hbW) (k.bl hbW)) hall.out).mono ?_
 rintro e w1 ⟨rfl,hb1⟩
 clear hy
 have hx:=hx.bl hb1
 have hx':=hx'.bl hb1
 have hr:=hr.bl hb1
 have hbW:=hbW.next hb1
 clear hb1
 obtain⟨i0,i1,i2⟩:=bx3 hx
 obtain⟨j0,j1,j2⟩:=bx3 hx'
 obtain⟨v0,x0⟩:=hr.val_ (i:=0) (by omega)
 obtain⟨v1,x1⟩:=hr.val_ (i:=1) (by omega)
 obtain⟨v2,x2⟩:=hr.val_ (i:=2) (by omega)
 have hg:=hr.lt
 obtain⟨cs4,hB4,hc4⟩:=hr
 have hf0:=hB4.frozen 0
 have hf1:=hB4.frozen 1
 have hf2:=hB4.frozen 2
 go_wp2_with fail
 exact bodyPost_ret (v:=.agg #[.bool false,.slice none 0 0,.slice none 0 0]) (by simp[results,Tryz.results55,go_sem,x0,x1,x2]) rfl ⟨_,_,_,_,_,_,_,rfl,by rw[hval.out];exact OwR.zero _ _ _,slc⟩
theorem xp (w:World) {s:Bool}{A:Option Addr}{n c:Nat}{B:Option Addr}{m d:Nat}{x:Int}{D:Nat}{s':Bool}{A':Option Addr}{n' c':Nat}{B':Option Addr}{m' d':Nat}{x':Int}{D':Nat}(h:IsR w s A n c B m d x D) (k:IsR w s' A' n' c' B' m' d' x' D') (hall:Hid (ZK [raw x D,raw x' D'])) (hn:n<=1) (hm:m=1) (hn':n'<=1) (hm':m'=1) :
  Calls Tryz.prog 55 #[.agg #[.bool s,.slice A n c,.slice B m d],.agg #[.bool s',.slice A' n' c',.slice B' m' d']] w λe w'=>∃s1 A1 n1 c1 B1 m1 d1,e=.returned (.agg #[.bool s1,.slice A1 n1 c1,.slice B1 m1 d1])/\OwR 3 w.heap.size w' s1 A1 n1 c1 B1 m1 d1 (qm (x*x') (D*D'))/\Bl w w':=by
 subst hm hm'
 have hx0:=ZN (N:=x.natAbs) (by rw[h.num.lenN];exact hn)
 have hx0':=ZN (N:=x'.natAbs) (by rw[k.num.lenN];exact hn')
 have hD:=(jV h.dn.lenN).2
 have hD':=(jV k.dn.lenN).2
 have l1 : -1000000000000000000<=x * x'/\x * x'<=1000000000000000000:=by
  rcases Int.le_total 0 x' with hp|hp
  ·exact Jk (by omega) (by omega) hp (by omega)
  ·have:=Jk (a:=x) (b:=-x') (by omega) (by omega) (by omega) (by omega)
   rw[Int.mul_neg]at this
   omega
 have l3:=Jk (a:=(D:Int)) (b:=(D':Int)) (by omega) (by omega) (by omega) (by omega)
 have hDD:0<D*D':=Nat.mul_pos hD.2 hD'.2
 generalize e1:x*x'=p1 at *
 have e3:(D:Int)*(D':Int)=((D*D':Nat):Int):=by rw[Int.natCast_mul]
 rw[e3]at l3
 generalize hP:D*D'=P at *
 replace hP:=Lib.hid hP
 clear hx0 hx0'
 go_enter Tryz.func55,Tryz.ntmps55
 go_wp2_with fail
 refine qd (λW=>Bl w W/\Blk W (w.heap.size) 26 #[.bool s,.slice A n c,.slice B 1 d]/\Blk W (w.heap.size+1) 26 #[.bool s',.slice A' n' c',.slice B' 1 d']/\Wk 3 26 (w.heap.size+1+1) W/\Blk W (w.heap.size+1+1+1) 26 #[.bool s,.slice A n c,.slice B 1 d,.bool s',.slice A' n' c',.slice B' 1 d']) ⟨slc,bts,bts,bts,Blk.new3 _ _ _ _ _ _⟩ ?_
 rintro W ⟨hbW,hx,hx',hr,hy⟩
 refine(js _ (YP.two hy (h.bl hbW) (k.bl hbW)) hall.out).mono ?_
 rintro e w1 ⟨rfl,hb1⟩
 clear hy
 have hx:=hx.bl hb1
 have hx':=hx'.bl hb1
 have hr:=hr.bl hb1
 have hbW:=hbW.next hb1
 clear hb1
 obtain⟨i0,i1,i2⟩:=bx3 hx
 obtain⟨j0,j1,j2⟩:=bx3 hx'
 go_wp2_with fail
 refine(zq _ hn rfl).mono ?_
 rintro e w3 ⟨rfl,hb3⟩
 have hx:=hx.bl hb3
 have hx':=hx'.bl hb3
 have hr:=hr.bl hb3
 have hbW:=hbW.next hb3
 clear hb3
 obtain⟨i0,i1,i2⟩:=bx3 hx
 obtain⟨j0,j1,j2⟩:=bx3 hx'
 go_wp2_with fail
 refine(zq _ hn' rfl).mono ?_
 rintro e w4 ⟨rfl,hb4⟩
 have hx:=hx.bl hb4
 have hx':=hx'.bl hb4
 have hr:=hr.bl hb4
 have hbW:=hbW.next hb4
 clear hb4
 obtain⟨i0,i1,i2⟩:=bx3 hx
 obtain⟨j0,j1,j2⟩:=bx3 hx'
 go_wp2_with fail
 refine(jp _ (h.bl hbW) hn).mono ?_
 rintro e w5 ⟨rfl,hb5⟩
 have hx:=hx.bl hb5
 have hx':=hx'.bl hb5
 have hr:=hr.bl hb5
 have hbW:=hbW.next hb5
 clear hb5
 obtain⟨i0,i1,i2⟩:=bx3 hx
 obtain⟨j0,j1,j2⟩:=bx3 hx'
 go_wp2_with fail
 refine(jp _ (k.bl hbW) hn').mono ?_
 rintro e w6 ⟨rfl,hb6⟩
 have hx:=hx.bl hb6
 have hx':=hx'.bl hb6
 have hr:=hr.bl hb6
 have hbW:=hbW.next hb6
 clear hb6
 obtain⟨i0,i1,i2⟩:=bx3 hx
 obtain⟨j0,j1,j2⟩:=bx3 hx'
 go_wp2_with fail
 refine(vJ _ p1 P (by omega) (by omega) hDD (by omega)).mono ?_
 rintro e w7 ⟨s1,A1,n1,c1,B1,m1,d1,rfl,hR,hb7⟩
 have hR:=hR.mono (show w.heap.size+1+1+1<=w6.heap.size from hr.lt)
 have hx:=hx.bl hb7
 have hx':=hx'.bl hb7
 have hr:=hr.bl hb7
 have hbW:=hbW.next hb7
 clear hb7
 obtain⟨i0,i1,i2⟩:=bx3 hx
 obtain⟨j0,j1,j2⟩:=bx3 hx'
 obtain⟨v0,x0⟩:=hr.val_ (i:=0) (by omega)
 obtain⟨v1,x1⟩:=hr.val_ (i:=1) (by omega)
 obtain⟨v2,x2⟩:=hr.val_ (i:=2) (by omega)
 have hg:=hr.lt
 obtain⟨cs4,hB4,hc4⟩:=hr
 have hf0:=hB4.frozen 0
 have hf1:=hB4.frozen 1
 have hf2:=hB4.frozen 2
 go_wp2_with fail
 exact bodyPost_ret (v:=.agg #[.bool s1,.slice A1 n1 c1,.slice B1 m1 d1]) (by simp[results,Tryz.results55,go_sem,x0,x1,x2]) rfl ⟨_,_,_,_,_,_,_,rfl,(((hR.far (by simp) _).far (by simp) _).far (by simp) _).mono (by omega),slc⟩
theorem YW (w:World) {s:Bool}{A:Option Addr}{n c:Nat}{B:Option Addr}{m d:Nat}{x:Int}{D:Nat}{s':Bool}{A':Option Addr}{n' c':Nat}{B':Option Addr}{m' d':Nat}{x':Int}{D':Nat}(h:IsR w s A n c B m d x D) (k:IsR w s' A' n' c' B' m' d' x' D') (hall:Hid (ZK [raw x D,raw x' D'])) (hn:n<=262143) (hm:m<=262143) (hn':n'<=262143) (hm':m'<=262143) (hD:0<D) (hD':0<D') (h1:n<=1/\m=1) (h2:¬(n'<=1/\m'=1)) :
  Calls Tryz.prog 55 #[.agg #[.bool s,.slice A n c,.slice B m d],.agg #[.bool s',.slice A' n' c',.slice B' m' d']] w λe w'=>∃s1 A1 n1 c1 B1 m1 d1,e=.returned (.agg #[.bool s1,.slice A1 n1 c1,.slice B1 m1 d1])/\OwR 3 w.heap.size w' s1 A1 n1 c1 B1 m1 d1 (qm (x*x') (D*D'))/\Bl w w':=by
 have q1:=h.num.lenN
 have q2:=h.dn.lenN
 have q3:=k.num.lenN
 have q4:=k.dn.lenN
 have hl3:(dig (x*x').natAbs).length<=1048576:=Nat.le_trans (QZ (Nat.le_of_eq q1) (Nat.le_of_eq q3)) (by omega)
 have hlD:(dig (D*D')).length<=1048576:=Nat.le_trans (qM (Nat.le_of_eq q2) (Nat.le_of_eq q4)) (by omega)
 have hDD:0<D*D':=Nat.mul_pos hD hD'
 clear q1 q2 q3 q4
 replace h1:=Lib.hid h1
 replace h2:=Lib.hid h2
 go_enter Tryz.func55,Tryz.ntmps55
 go_wp2_with fail
 refine qd (λW=>Bl w W/\Blk W (w.heap.size) 26 #[.bool s,.slice A n c,.slice B m d]/\Blk W (w.heap.size+1) 26 #[.bool s',.slice A' n' c',.slice B' m' d']/\Wk 3 26 (w.heap.size+1+1) W/\Blk W (w.heap.size+1+1+1) 26 #[.bool s,.slice A n c,.slice B m d,.bool s',.slice A' n' c',.slice B' m' d']) ⟨slc,bts,bts,bts,Blk.new3 _ _ _ _ _ _⟩ ?_
 rintro W ⟨hbW,hx,hx',hr,hy⟩
 refine(js _ (YP.two hy (h.bl hbW) (k.bl hbW)) hall.out).mono ?_
 rintro e w1 ⟨rfl,hb1⟩
 clear hy
 have hx:=hx.bl hb1
 have hx':=hx'.bl hb1
 have hr:=hr.bl hb1
 have hbW:=hbW.next hb1
 clear hb1
 obtain⟨i0,i1,i2⟩:=bx3 hx
 obtain⟨j0,j1,j2⟩:=bx3 hx'
 go_wp2_with fail
 refine(zq _ h1.out.1 h1.out.2).mono ?_
 rintro e w2 ⟨rfl,hb2⟩
 have hx:=hx.bl hb2
 have hx':=hx'.bl hb2
 have hr:=hr.bl hb2
 have hbW:=hbW.next hb2
 clear hb2
 obtain⟨i0,i1,i2⟩:=bx3 hx
 obtain⟨j0,j1,j2⟩:=bx3 hx'
 go_wp2_with fail
 refine(yR _ h2.out).mono ?_
 rintro e w3 ⟨rfl,hb3⟩
 have hx:=hx.bl hb3
 have hx':=hx'.bl hb3
 have hr:=hr.bl hb3
 have hbW:=hbW.next hb3
 clear hb3
 obtain⟨i0,i1,i2⟩:=bx3 hx
 obtain⟨j0,j1,j2⟩:=bx3 hx'
 go_wp2_with fail
 have hz3:w.heap.size+1+1<w3.heap.size:=hr.lt
 go_region_held3 (λw'=>(w'.cell? ⟨w.heap.size,0,none⟩=some (.bool s)/\w'.cell? ⟨w.heap.size,1,none⟩=some (.slice A n c)/\w'.cell? ⟨w.heap.size,2,none⟩=some (.slice B m d))/\(w'.cell? ⟨w.heap.size+1,0,none⟩=some (.bool s')/\w'.cell? ⟨w.heap.size+1,1,none⟩=some (.slice A' n' c')/\w'.cell? ⟨w.heap.size+1,2,none⟩=some (.slice B' m' d'))/\(w'.cell? ⟨w.heap.size+1+1,0,none⟩=some (qh w' (w.heap.size+1+1) 0)/\w'.cell? ⟨w.heap.size+1+1,1,none⟩=some (qh w' (w.heap.size+1+1) 1)/\w'.cell? ⟨w.heap.size+1+1,2,none⟩=some (qh w' (w.heap.size+1+1) 2))/\w'.frozen? ⟨w.heap.size+1+1,0,none⟩=false/\w'.frozen? ⟨w.heap.size+1+1,1,none⟩=false/\w'.frozen? ⟨w.heap.size+1+1,2,none⟩=false) (first|exact⟨bx3 (T:=26) bts,bx3 (T:=26) bts,Wk.out3 (T:=26) bts⟩) (first |(go_at_call 114;refine(jY _ (h.b.bl slc) (k.b.bl slc) (by omega) (by omega)).mono ?_;rintro e w4 ⟨s4,A4,n4,c4,rfl,hO,hb4⟩) |(go_at_call 115;refine(zk _ (h.dn.bl slc) (k.dn.bl slc) (by omega) (by omega)).mono ?_;rintro e w5 ⟨A5,n5,c5,rfl,hO5,hb5⟩;(have hz4:w3.heap.size<=w4.heap.size:=(Bl.size hb4:w3.drew.heap.size<=_));(have hz5:w4.heap.size<=w5.heap.size:=Bl.size hb5);(have hR7:OwR 3 (w.heap.size+1+1+1) w5 s4 A4 n4 c4 A5 n5 c5 (raw (x*x') (D*D')):=(OwR.two' hO.2 hO5 hb5 hz4 hO.1).mono hz3);(have hl4:n4<=1048576:=by rw[<-hO.len];exact hl3);(have hl5:n5<=1048576:=by rw[<-hO5.rd.lenN];exact hlD);(have hz7:w.heap.size+1+1+1<=w5.heap.size:=by omega)) |(go_at_call 113;refine(qY _ hR7 hz7 hl4 hl5 hDD).mono ?_;rintro e w8 ⟨s1,A1,n1,c1,B1,m1,d1,rfl,hR,hb8⟩))
 have hr:=(show Wk 3 26 (w.heap.size+1+1) w8 from bts)
 have hbW:Bl w w8:=slc
 obtain⟨v0,x0⟩:=hr.val_ (i:=0) (by omega)
 obtain⟨v1,x1⟩:=hr.val_ (i:=1) (by omega)
 obtain⟨v2,x2⟩:=hr.val_ (i:=2) (by omega)
 have hg:=hr.lt
 obtain⟨cs4,hB4,hc4⟩:=hr
 have hf0:=hB4.frozen 0
 have hf1:=hB4.frozen 1
 have hf2:=hB4.frozen 2
 go_wp2_with fail
 exact bodyPost_ret (v:=.agg #[.bool s1,.slice A1 n1 c1,.slice B1 m1 d1]) (by simp[results,Tryz.results55,go_sem,x0,x1,x2]) rfl ⟨_,_,_,_,_,_,_,rfl,(((hR.far (by simp) _).far (by simp) _).far (by simp) _).mono (by omega),slc⟩
theorem Vv (w:World) {s:Bool}{A:Option Addr}{n c:Nat}{B:Option Addr}{m d:Nat}{x:Int}{D:Nat}{s':Bool}{A':Option Addr}{n' c':Nat}{B':Option Addr}{m' d':Nat}{x':Int}{D':Nat}(h:IsR w s A n c B m d x D) (k:IsR w s' A' n' c' B' m' d' x' D') (hall:Hid (ZK [raw x D,raw x' D'])) (hn:n<=262143) (hm:m<=262143) (hn':n'<=262143) (hm':m'<=262143) (hD:0<D) (hD':0<D') (h1:¬(n<=1/\m=1)) :
  Calls Tryz.prog 55 #[.agg #[.bool s,.slice A n c,.slice B m d],.agg #[.bool s',.slice A' n' c',.slice B' m' d']] w λe w'=>∃s1 A1 n1 c1 B1 m1 d1,e=.returned (.agg #[.bool s1,.slice A1 n1 c1,.slice B1 m1 d1])/\OwR 3 w.heap.size w' s1 A1 n1 c1 B1 m1 d1 (qm (x*x') (D*D'))/\Bl w w':=by
 have q1:=h.num.lenN
 have q2:=h.dn.lenN
 have q3:=k.num.lenN
 have q4:=k.dn.lenN
 have hl3:(dig (x*x').natAbs).length<=1048576:=Nat.le_trans (QZ (Nat.le_of_eq q1) (Nat.le_of_eq q3)) (by omega)
 have hlD:(dig (D*D')).length<=1048576:=Nat.le_trans (qM (Nat.le_of_eq q2) (Nat.le_of_eq q4)) (by omega)
 have hDD:0<D*D':=Nat.mul_pos hD hD'
 clear q1 q2 q3 q4
 replace h1:=Lib.hid h1
 go_enter Tryz.func55,Tryz.ntmps55
 go_wp2_with fail
 refine qd (λW=>Bl w W/\Blk W (w.heap.size) 26 #[.bool s,.slice A n c,.slice B m d]/\Blk W (w.heap.size+1) 26 #[.bool s',.slice A' n' c',.slice B' m' d']/\Wk 3 26 (w.heap.size+1+1) W/\Blk W (w.heap.size+1+1+1) 26 #[.bool s,.slice A n c,.slice B m d,.bool s',.slice A' n' c',.slice B' m' d']) ⟨slc,bts,bts,bts,Blk.new3 _ _ _ _ _ _⟩ ?_
 rintro W ⟨hbW,hx,hx',hr,hy⟩
 refine(js _ (YP.two hy (h.bl hbW) (k.bl hbW)) hall.out).mono ?_
 rintro e w1 ⟨rfl,hb1⟩
 clear hy
 have hx:=hx.bl hb1
 have hx':=hx'.bl hb1
 have hr:=hr.bl hb1
 have hbW:=hbW.next hb1
 clear hb1
 obtain⟨i0,i1,i2⟩:=bx3 hx
 obtain⟨j0,j1,j2⟩:=bx3 hx'
 go_wp2_with fail
 refine(yR _ h1.out).mono ?_
 rintro e w2 ⟨rfl,hb2⟩
 have hx:=hx.bl hb2
 have hx':=hx'.bl hb2
 have hr:=hr.bl hb2
 have hbW:=hbW.next hb2
 clear hb2
 obtain⟨i0,i1,i2⟩:=bx3 hx
 obtain⟨j0,j1,j2⟩:=bx3 hx'
 go_wp2_with fail
 have hz3:w.heap.size+1+1<w2.heap.size:=hr.lt
 go_region_held3 (λw'=>(w'.cell? ⟨w.heap.size,0,none⟩=some (.bool s)/\w'.cell? ⟨w.heap.size,1,none⟩=some (.slice A n c)/\w'.cell? ⟨w.heap.size,2,none⟩=some (.slice B m d))/\(w'.cell? ⟨w.heap.size+1,0,none⟩=some (.bool s')/\w'.cell? ⟨w.heap.size+1,1,none⟩=some (.slice A' n' c')/\w'.cell? ⟨w.heap.size+1,2,none⟩=some (.slice B' m' d'))/\(w'.cell? ⟨w.heap.size+1+1,0,none⟩=some (qh w' (w.heap.size+1+1) 0)/\w'.cell? ⟨w.heap.size+1+1,1,none⟩=some (qh w' (w.heap.size+1+1) 1)/\w'.cell? ⟨w.heap.size+1+1,2,none⟩=some (qh w' (w.heap.size+1+1) 2))/\w'.frozen? ⟨w.heap.size+1+1,0,none⟩=false/\w'.frozen? ⟨w.heap.size+1+1,1,none⟩=false/\w'.frozen? ⟨w.heap.size+1+1,2,none⟩=false) (first|exact⟨bx3 (T:=26) bts,bx3 (T:=26) bts,Wk.out3 (T:=26) bts⟩) (first |(go_at_call 114;refine(jY _ (h.b.bl slc) (k.b.bl slc) (by omega) (by omega)).mono ?_;rintro e w4 ⟨s4,A4,n4,c4,rfl,hO,hb4⟩) |(go_at_call 115;refine(zk _ (h.dn.bl slc) (k.dn.bl slc) (by omega) (by omega)).mono ?_;rintro e w5 ⟨A5,n5,c5,rfl,hO5,hb5⟩;(have hz4:w2.heap.size<=w4.heap.size:=(Bl.size hb4:w2.drew.heap.size<=_));(have hz5:w4.heap.size<=w5.heap.size:=Bl.size hb5);(have hR7:OwR 3 (w.heap.size+1+1+1) w5 s4 A4 n4 c4 A5 n5 c5 (raw (x*x') (D*D')):=(OwR.two' hO.2 hO5 hb5 hz4 hO.1).mono hz3);(have hl4:n4<=1048576:=by rw[<-hO.len];exact hl3);(have hl5:n5<=1048576:=by rw[<-hO5.rd.lenN];exact hlD);(have hz7:w.heap.size+1+1+1<=w5.heap.size:=by omega)) |(go_at_call 113;refine(qY _ hR7 hz7 hl4 hl5 hDD).mono ?_;rintro e w8 ⟨s1,A1,n1,c1,B1,m1,d1,rfl,hR,hb8⟩))
 have hr:=(show Wk 3 26 (w.heap.size+1+1) w8 from bts)
 have hbW:Bl w w8:=slc
 obtain⟨v0,x0⟩:=hr.val_ (i:=0) (by omega)
 obtain⟨v1,x1⟩:=hr.val_ (i:=1) (by omega)
 obtain⟨v2,x2⟩:=hr.val_ (i:=2) (by omega)
 have hg:=hr.lt
 obtain⟨cs4,hB4,hc4⟩:=hr
 have hf0:=hB4.frozen 0
 have hf1:=hB4.frozen 1
 have hf2:=hB4.frozen 2
 go_wp2_with fail
 exact bodyPost_ret (v:=.agg #[.bool s1,.slice A1 n1 c1,.slice B1 m1 d1]) (by simp[results,Tryz.results55,go_sem,x0,x1,x2]) rfl ⟨_,_,_,_,_,_,_,rfl,(((hR.far (by simp) _).far (by simp) _).far (by simp) _).mono (by omega),slc⟩
theorem Jf (w:World) {s:Bool}{A:Option Addr}{n c:Nat}{B:Option Addr}{m d:Nat}{r:qH}{s':Bool}{A':Option Addr}{n' c':Nat}{B':Option Addr}{m' d':Nat}{r':qH}(h:RdR w s A n c B m d r) (k:RdR w s' A' n' c' B' m' d' r') :
  Calls Tryz.prog 55 #[.agg #[.bool s,.slice A n c,.slice B m d],.agg #[.bool s',.slice A' n' c',.slice B' m' d']] w λe w'=>∃s1 A1 n1 c1 B1 m1 d1,e=.returned (.agg #[.bool s1,.slice A1 n1 c1,.slice B1 m1 d1])/\OwR 3 w.heap.size w' s1 A1 n1 c1 B1 m1 d1 (Zs r r')/\Bl w w':=by
 by_cases ho:OkR r/\OkR r'
 ·have hall:=Lib.hid (yh.2 ho)
  have e1:=ho.1.get.1
  have e2:=ho.2.get.1
  have hI:=IsR.out h ho.1
  have hI':=IsR.out k ho.2
  have hL:=OkR.lens h ho.1
  have hL':=OkR.lens k ho.2
  rw[show Zs r r'=qm (rn r*rn r') (rd r*rd r')by unfold Zs;rw[if_pos ho]]
  rw[e1,e2]at hall
  by_cases h1:n<=1/\m=1
  ·by_cases h2:n'<=1/\m'=1
   ·exact xp w hI hI' hall h1.1 h1.2 h2.1 h2.2
   ·exact YW w hI hI' hall (by omega) (by omega) (by omega) (by omega) hL.2.2 hL'.2.2 h1 h2
  ·exact Vv w hI hI' hall (by omega) (by omega) (by omega) (by omega) hL.2.2 hL'.2.2 h1
 ·exact U1 w h k ho
def zP:PtD:=⟨zR,zR⟩
def ifP (p:PtD):PtD:=if p.x.den.length=0\/p.y.den.length=0 then zP else p
noncomputable def K8 (p q:PtD):PtD:=ifP ⟨J4 p.x q.x,J4 p.y q.y⟩
noncomputable def xH (p q:PtD):qH:=J4 (Zs p.x q.y) (Zs p.y q.x)
noncomputable def Yc (a b c:PtD):qH:=xH (K8 b a) (K8 c a)
def OkP (p:PtD):Prop:=OkR p.x/\OkR p.y
theorem Ya (w:World) {s:Bool}{A:Option Addr}{n c:Nat}{B:Option Addr}{m d:Nat}(hm:0<m) :
  Calls Tryz.prog 110 #[.agg #[.bool s,.slice A n c,.slice B m d]] w λe w'=>e=.returned (.bool true)/\Bl w w':=by
 go_enter Tryz.func110,Tryz.ntmps110
 go_wp2_with fail
 go_ret
 exact⟨rfl,slc⟩
theorem uT (w:World) {s:Bool}{A:Option Addr}{n c:Nat}{B:Option Addr}{m d:Nat}(hm:m=0) :
  Calls Tryz.prog 110 #[.agg #[.bool s,.slice A n c,.slice B m d]] w λe w'=>e=.returned (.bool false)/\Bl w w':=by
 subst hm
 go_enter Tryz.func110,Tryz.ntmps110
 go_wp2_with fail
 go_ret
 exact⟨rfl,slc⟩
theorem XU (w:World) {s:Bool}{A:Option Addr}{n c:Nat}{B:Option Addr}{m d:Nat}{t:Bool}{C:Option Addr}{i e:Nat}{D:Option Addr}{j f:Nat}(hm:0<m) (hj:0<j) :
  Calls Tryz.prog 51 #[.agg #[.bool s,.slice A n c,.slice B m d,.bool t,.slice C i e,.slice D j f]] w λen w'=>en=.returned (.agg #[.bool s,.slice A n c,.slice B m d,.bool t,.slice C i e,.slice D j f])/\Bl w w':=by
 go_enter Tryz.func51,Tryz.ntmps51
 go_wp2_with fail
 refine qd (λW=>Bl w W/\Blk W (w.heap.size) 28 #[.bool s,.slice A n c,.slice B m d,.bool t,.slice C i e,.slice D j f]/\Wk 6 28 (w.heap.size+1) W) ⟨slc,bts,bts⟩ ?_
 rintro W ⟨hbW,hx,hr⟩
 refine(Ya _ hm).mono ?_
 rintro e1 w1 ⟨rfl,hb1⟩
 have hx:=hx.bl hb1
 have hr:=hr.bl hb1
 have hbW:=hbW.next hb1
 clear hb1
 obtain⟨i0,i1,i2,i3,i4,i5⟩:=bx6 hx
 go_wp2_with fail
 refine(Ya _ hj).mono ?_
 rintro e2 w2 ⟨rfl,hb2⟩
 have hx:=hx.bl hb2
 have hr:=hr.bl hb2
 have hbW:=hbW.next hb2
 clear hb2
 obtain⟨i0,i1,i2,i3,i4,i5⟩:=bx6 hx
 obtain⟨v0,x0⟩:=hr.val_ (i:=0) (by omega)
 obtain⟨v1,x1⟩:=hr.val_ (i:=1) (by omega)
 obtain⟨v2,x2⟩:=hr.val_ (i:=2) (by omega)
 obtain⟨v3,x3⟩:=hr.val_ (i:=3) (by omega)
 obtain⟨v4,x4⟩:=hr.val_ (i:=4) (by omega)
 obtain⟨v5,x5⟩:=hr.val_ (i:=5) (by omega)
 have hg:=hr.lt
 obtain⟨cs4,hB4,hc4⟩:=hr
 have hf0:=hB4.frozen 0
 have hf1:=hB4.frozen 1
 have hf2:=hB4.frozen 2
 have hf3:=hB4.frozen 3
 have hf4:=hB4.frozen 4
 have hf5:=hB4.frozen 5
 go_wp2_with fail
 exact bodyPost_ret (v:=.agg #[.bool s,.slice A n c,.slice B m d,.bool t,.slice C i e,.slice D j f]) (by simp[results,Tryz.results51,go_sem,x0,x1,x2,x3,x4,x5]) rfl ⟨rfl,slc⟩
theorem UU (w:World) {s:Bool}{A:Option Addr}{n c:Nat}{B:Option Addr}{m d:Nat}{t:Bool}{C:Option Addr}{i e:Nat}{D:Option Addr}{j f:Nat}(hmj:m=0\/j=0) :
  Calls Tryz.prog 51 #[.agg #[.bool s,.slice A n c,.slice B m d,.bool t,.slice C i e,.slice D j f]] w λen w'=>en=.returned (.agg #[.bool false,.slice none 0 0,.slice none 0 0,.bool false,.slice none 0 0,.slice none 0 0])/\Bl w w':=by
 rcases Nat.eq_zero_or_pos m with h0|h0
 ·clear hmj
  replace h0:=Lib.hid h0
  go_enter Tryz.func51,Tryz.ntmps51
  go_wp2_with fail
  refine qd (λW=>Bl w W/\Blk W (w.heap.size) 28 #[.bool s,.slice A n c,.slice B m d,.bool t,.slice C i e,.slice D j f]/\Wk 6 28 (w.heap.size+1) W) ⟨slc,bts,bts⟩ ?_
  rintro W ⟨hbW,hx,hr⟩
  refine(uT _ h0.out).mono ?_
  rintro e1 w1 ⟨rfl,hb1⟩
  have hx:=hx.bl hb1
  have hr:=hr.bl hb1
  have hbW:=hbW.next hb1
  clear hb1
  obtain⟨i0,i1,i2,i3,i4,i5⟩:=bx6 hx
  obtain⟨v0,x0⟩:=hr.val_ (i:=0) (by omega)
  obtain⟨v1,x1⟩:=hr.val_ (i:=1) (by omega)
  obtain⟨v2,x2⟩:=hr.val_ (i:=2) (by omega)
  obtain⟨v3,x3⟩:=hr.val_ (i:=3) (by omega)
  obtain⟨v4,x4⟩:=hr.val_ (i:=4) (by omega)
  obtain⟨v5,x5⟩:=hr.val_ (i:=5) (by omega)
  have hg:=hr.lt
  obtain⟨cs4,hB4,hc4⟩:=hr
  have hf0:=hB4.frozen 0
  have hf1:=hB4.frozen 1
  have hf2:=hB4.frozen 2
  have hf3:=hB4.frozen 3
  have hf4:=hB4.frozen 4
  have hf5:=hB4.frozen 5
  go_wp2_with fail
  exact bodyPost_ret (v:=.agg #[.bool false,.slice none 0 0,.slice none 0 0,.bool false,.slice none 0 0,.slice none 0 0]) (by simp[results,Tryz.results51,go_sem,x0,x1,x2,x3,x4,x5]) rfl ⟨rfl,slc⟩
 ·have h1:j=0:=by omega
  clear hmj
  replace h1:=Lib.hid h1
  go_enter Tryz.func51,Tryz.ntmps51
  go_wp2_with fail
  refine qd (λW=>Bl w W/\Blk W (w.heap.size) 28 #[.bool s,.slice A n c,.slice B m d,.bool t,.slice C i e,.slice D j f]/\Wk 6 28 (w.heap.size+1) W) ⟨slc,bts,bts⟩ ?_
  rintro W ⟨hbW,hx,hr⟩
  refine(Ya _ h0).mono ?_
  rintro e1 w1 ⟨rfl,hb1⟩
  have hx:=hx.bl hb1
  have hr:=hr.bl hb1
  have hbW:=hbW.next hb1
  clear hb1
  obtain⟨i0,i1,i2,i3,i4,i5⟩:=bx6 hx
  go_wp2_with fail
  refine(uT _ h1.out).mono ?_
  rintro e2 w2 ⟨rfl,hb2⟩
  have hx:=hx.bl hb2
  have hr:=hr.bl hb2
  have hbW:=hbW.next hb2
  clear hb2
  obtain⟨i0,i1,i2,i3,i4,i5⟩:=bx6 hx
  obtain⟨v0,x0⟩:=hr.val_ (i:=0) (by omega)
  obtain⟨v1,x1⟩:=hr.val_ (i:=1) (by omega)
  obtain⟨v2,x2⟩:=hr.val_ (i:=2) (by omega)
  obtain⟨v3,x3⟩:=hr.val_ (i:=3) (by omega)
  obtain⟨v4,x4⟩:=hr.val_ (i:=4) (by omega)
  obtain⟨v5,x5⟩:=hr.val_ (i:=5) (by omega)
  have hg:=hr.lt
  obtain⟨cs4,hB4,hc4⟩:=hr
  have hf0:=hB4.frozen 0
  have hf1:=hB4.frozen 1
  have hf2:=hB4.frozen 2
  have hf3:=hB4.frozen 3
  have hf4:=hB4.frozen 4
  have hf5:=hB4.frozen 5
  go_wp2_with fail
  exact bodyPost_ret (v:=.agg #[.bool false,.slice none 0 0,.slice none 0 0,.bool false,.slice none 0 0,.slice none 0 0]) (by simp[results,Tryz.results51,go_sem,x0,x1,x2,x3,x4,x5]) rfl ⟨rfl,slc⟩
theorem OwP.zero (T:TypeId) (b0:Nat) (w:World):OwP T b0 w false none 0 0 none 0 0 false none 0 0 none 0 0 zP :=
 ⟨[],[],⟨rfl,[],[],⟨RdI.nil _ _ _,.inl ⟨rfl,rfl⟩⟩,⟨RdI.nil _ _ _,.inl ⟨rfl,rfl⟩⟩,rfl⟩,⟨rfl,[],[],⟨RdI.nil _ _ _,.inl ⟨rfl,rfl⟩⟩,⟨RdI.nil _ _ _,.inl ⟨rfl,rfl⟩⟩,rfl⟩,Fp.nil _ _⟩
section
variable {T:TypeId}{b0:Nat}{w W:World}{s:Bool}{A:Option Addr}{n c:Nat}{B:Option Addr}{m d:Nat}{t:Bool}{C:Option Addr}{i e:Nat}{D:Option Addr}{j f:Nat}{p:PtD}
theorem OwP.bl (h:OwP T b0 w s A n c B m d t C i e D j f p) (hb:Bl w W):OwP T b0 W s A n c B m d t C i e D j f p:=by
 obtain⟨b1,b2,h1,h2,hf⟩:=h
 exact⟨b1,b2,h1.bl hb,h2.bl hb,hf.mono (Nat.le_refl _) hb.size⟩
theorem OwP.rx (h:OwP T b0 w s A n c B m d t C i e D j f p):RdR w s A n c B m d p.x:=by
 obtain⟨b1,b2,h1,h2,hf⟩:=h
 exact h1.rd
theorem OwP.ry (h:OwP T b0 w s A n c B m d t C i e D j f p):RdR w t C i e D j f p.y:=by
 obtain⟨b1,b2,h1,h2,hf⟩:=h
 exact h2.rd
end
theorem XZ (w:World) {b0:Nat}{s:Bool}{A:Option Addr}{n c:Nat}{B:Option Addr}{m d:Nat}{t:Bool}{C:Option Addr}{i e:Nat}{D:Option Addr}{j f:Nat}{p:PtD}(h:OwP 3 b0 w s A n c B m d t C i e D j f p) :
  Calls Tryz.prog 51 #[.agg #[.bool s,.slice A n c,.slice B m d,.bool t,.slice C i e,.slice D j f]] w λen w'=>∃s1 A1 n1 c1 B1 m1 d1 t1 C1 i1 e1 D1 j1 f1,en=.returned (.agg #[.bool s1,.slice A1 n1 c1,.slice B1 m1 d1,.bool t1,.slice C1 i1 e1,.slice D1 j1 f1])/\OwP 3 b0 w' s1 A1 n1 c1 B1 m1 d1 t1 C1 i1 e1 D1 j1 f1 (ifP p)/\Bl w w':=by
 have l1:=h.rx.den.len
 have l2:=h.ry.den.len
 by_cases hz:m=0\/j=0
 ·have e:ifP p=zP:=by unfold ifP;rw[l1,l2,if_pos hz]
  rw[e]
  refine(UU w hz).mono ?_
  rintro en w' ⟨rfl,hb⟩
  exact⟨_,_,_,_,_,_,_,_,_,_,_,_,_,_,rfl,OwP.zero _ _ _,hb⟩
 ·have e:ifP p=p:=by unfold ifP;rw[l1,l2,if_neg hz]
  rw[e]
  refine(XU w (by omega) (by omega)).mono ?_
  rintro en w' ⟨rfl,hb⟩
  exact⟨_,_,_,_,_,_,_,_,_,_,_,_,_,_,rfl,h.bl hb,hb⟩
theorem yt (w:World) {s:Bool}{A:Option Addr}{n c:Nat}{B:Option Addr}{m d:Nat}{t:Bool}{C:Option Addr}{i e:Nat}{D:Option Addr}{j f:Nat}{p:PtD}{s':Bool}{A':Option Addr}{n' c':Nat}{B':Option Addr}{m' d':Nat}{t':Bool}{C':Option Addr}{i' e':Nat}{D':Option Addr}{j' f':Nat}{p':PtD}(h:RdR w s A n c B m d p.x) (k:RdR w t C i e D j f p.y) (h':RdR w s' A' n' c' B' m' d' p'.x) (k':RdR w t' C' i' e' D' j' f' p'.y) :
  Calls Tryz.prog 18 #[.agg #[.bool s,.slice A n c,.slice B m d,.bool t,.slice C i e,.slice D j f],.agg #[.bool s',.slice A' n' c',.slice B' m' d',.bool t',.slice C' i' e',.slice D' j' f']] w λen w'=>∃s1 A1 n1 c1 B1 m1 d1 t1 C1 i1 e1 D1 j1 f1,en=.returned (.agg #[.bool s1,.slice A1 n1 c1,.slice B1 m1 d1,.bool t1,.slice C1 i1 e1,.slice D1 j1 f1])/\OwP 3 w.heap.size w' s1 A1 n1 c1 B1 m1 d1 t1 C1 i1 e1 D1 j1 f1 (K8 p p')/\Bl w w':=by
 go_enter Tryz.func18,Tryz.ntmps18
 go_wp2_with fail
 refine qe (λW=>Bl w W/\Blk W (w.heap.size) 28 #[.bool s,.slice A n c,.slice B m d,.bool t,.slice C i e,.slice D j f]/\Blk W (w.heap.size+1) 28 #[.bool s',.slice A' n' c',.slice B' m' d',.bool t',.slice C' i' e',.slice D' j' f']/\Wk 6 28 (w.heap.size+1+1) W) ⟨slc,bts,bts,bts⟩ ?_
 rintro W ⟨hbW,hx,hx',hr⟩
 go_region_held3 (λw'=>(w'.cell? ⟨w.heap.size,0,none⟩=some (.bool s)/\w'.cell? ⟨w.heap.size,1,none⟩=some (.slice A n c)/\w'.cell? ⟨w.heap.size,2,none⟩=some (.slice B m d)/\w'.cell? ⟨w.heap.size,3,none⟩=some (.bool t)/\w'.cell? ⟨w.heap.size,4,none⟩=some (.slice C i e)/\w'.cell? ⟨w.heap.size,5,none⟩=some (.slice D j f))/\(w'.cell? ⟨w.heap.size+1,0,none⟩=some (.bool s')/\w'.cell? ⟨w.heap.size+1,1,none⟩=some (.slice A' n' c')/\w'.cell? ⟨w.heap.size+1,2,none⟩=some (.slice B' m' d')/\w'.cell? ⟨w.heap.size+1,3,none⟩=some (.bool t')/\w'.cell? ⟨w.heap.size+1,4,none⟩=some (.slice C' i' e')/\w'.cell? ⟨w.heap.size+1,5,none⟩=some (.slice D' j' f'))/\(w'.cell? ⟨w.heap.size+1+1,0,none⟩=some (qh w' (w.heap.size+1+1) 0)/\w'.cell? ⟨w.heap.size+1+1,1,none⟩=some (qh w' (w.heap.size+1+1) 1)/\w'.cell? ⟨w.heap.size+1+1,2,none⟩=some (qh w' (w.heap.size+1+1) 2)/\w'.cell? ⟨w.heap.size+1+1,3,none⟩=some (qh w' (w.heap.size+1+1) 3)/\w'.cell? ⟨w.heap.size+1+1,4,none⟩=some (qh w' (w.heap.size+1+1) 4)/\w'.cell? ⟨w.heap.size+1+1,5,none⟩=some (qh w' (w.heap.size+1+1) 5))/\w'.frozen? ⟨w.heap.size+1+1,0,none⟩=false/\w'.frozen? ⟨w.heap.size+1+1,1,none⟩=false/\w'.frozen? ⟨w.heap.size+1+1,2,none⟩=false/\w'.frozen? ⟨w.heap.size+1+1,3,none⟩=false/\w'.frozen? ⟨w.heap.size+1+1,4,none⟩=false/\w'.frozen? ⟨w.heap.size+1+1,5,none⟩=false) (first|exact⟨bx6 (T:=28) bts,bx6 (T:=28) bts,Wk.out6 (T:=28) bts⟩) (first |(go_at_call 52;with_reducible refine(Jh _ (h.bl slc) (h'.bl slc)).mono ?_;rintro en w2 ⟨s2,A2,n2,c2,B2,m2,d2,rfl,hR2,hb2⟩) |(go_at_call 52;with_reducible refine(Jh _ (k.bl slc) (k'.bl slc)).mono ?_;rintro en w3 ⟨s3,A3,n3,c3,B3,m3,d3,rfl,hR3,hb3⟩) |(go_at_call 51;refine(XZ (p:=⟨J4 p.x p'.x,J4 p.y p'.y⟩) _ (OwP.two hR2 hR3 hb3 (Bl.size hb2))).mono ?_;rintro en w4 ⟨s1,A1,n1,c1,B1,m1,d1,t1,C1,i1,e1,D1,j1,f1,rfl,hX,hb4⟩))
 have hz:w.heap.size+1+1+1<=W.heap.size:=hr.lt
 have hr:=(show Wk 6 28 (w.heap.size+1+1) w4 from bts)
 have hbW:Bl w w4:=slc
 have hX:=hX.low (show w.heap.size+1+1+1<=W.drew.heap.size from hz)
 obtain⟨v0,x0⟩:=hr.val_ (i:=0) (by omega)
 obtain⟨v1,x1⟩:=hr.val_ (i:=1) (by omega)
 obtain⟨v2,x2⟩:=hr.val_ (i:=2) (by omega)
 obtain⟨v3,x3⟩:=hr.val_ (i:=3) (by omega)
 obtain⟨v4,x4⟩:=hr.val_ (i:=4) (by omega)
 obtain⟨v5,x5⟩:=hr.val_ (i:=5) (by omega)
 have hg:=hr.lt
 obtain⟨cs4,hB4,hc4⟩:=hr
 have hf0:=hB4.frozen 0
 have hf1:=hB4.frozen 1
 have hf2:=hB4.frozen 2
 have hf3:=hB4.frozen 3
 have hf4:=hB4.frozen 4
 have hf5:=hB4.frozen 5
 go_wp2_with fail
 exact bodyPost_ret (v:=.agg #[.bool s1,.slice A1 n1 c1,.slice B1 m1 d1,.bool t1,.slice C1 i1 e1,.slice D1 j1 f1]) (by simp[results,Tryz.results18,go_sem,x0,x1,x2,x3,x4,x5]) rfl ⟨_,_,_,_,_,_,_,_,_,_,_,_,_,_,rfl,((((((hX.far (by simp) _).far (by simp) _).far (by simp) _).far (by simp) _).far (by simp) _).far (by simp) _).low (by omega),slc⟩
end Go.Proofs.YtjaapemopbbfaaaGreatDoor
