import Derived.Test.YtmkcacgmnnlddaaGreatRows
import Derived.Test.YtmkcacgmnnlddaaGreatPClosureM13
import Derived.Test.YtmkcacgmnnlddaaGreatPClosureM02
import Derived.Test.YtmkcacgmnnlddaaGreatPClosureM20
import Derived.Test.YtmkcacgmnnlddaaGreatPClosureM03
import Derived.Test.YtmkcacgmnnlddaaGreatPClosureM19
import Derived.Test.YtmkcacgmnnlddaaGreatPClosureM11
import Derived.Test.YtmkcacgmnnlddaaGreatPClosureM08
namespace Go.Proofs.YtmkcacgmnnlddaaGreat
set_option maxRecDepth 100000
set_option maxHeartbeats 16000000
section
open Go.RowKit
theorem wpList_append_rowS {P:Program}{α:Type} [Inhabited α] {N:List Nat→Prop}(hN:AppN N) {size bytes:Nat}{El:World→Array Value→Nat→α→List Nat→Prop}(hk:KeepE size El) {TP t:TypeId}{z:Value}
  (hinfo:(P.info? TP).map (fun i=>(i.zero,i.size,i.bytes))=some (some z,size,bytes)) (hzs:z.cells.size=size) (hsz:0<size) (hby:bytes≤4096) (ht:P.underlying t=some (.slice TP))
  {W:World}{news:Array Value}{p:α}{bs:List Nat}{lo hi:Nat}{l:List α}{ops:Array Oper}{rest:List Oper}{o:Oper}{a:Act}{Q:Exit→Act→World→Prop}(hgd:o.guard=none) (s x:Operand)
  (ho:o.op=.call { callee:=.builtin .append,args:=#[s,x],argTypes:=#[t,t] }) (v:Value) (hs:a.eval s=v) (hrow:RowG N TP size El lo hi W v l)
  (hel:El W news 0 p bs) (hnl:news.size=size) (h1:∀u∈news.toList,u.oneCell'=true) (hbs:∀b∈bs,hi≤b∧b<W.heap.size) (hNb:N bs) (hlh:lo≤hi)
  (c:Nat) (hx:a.eval x=.slice (some ⟨W.heap.size,0,none⟩) 1 c) (hlen:l.length≤1048576) (w0:World) (hb:Bl w0 W) (h0:w0.heap.size≤lo)
  (h:∀v' w',RowG N TP size El lo w'.heap.size w' v' (l++[p])→Bl w0 w'→(v'=.slice none 0 0→False)→(W.heap.size≤w'.heap.size∧∀g,g<W.heap.size→v.ownBlock≠some g→w'.heap[g]?=W.heap[g]?∧v'.ownBlock≠some g)→wpList P ops Q rest (a.put o.dst v') w'):wpList P ops Q (o::rest) a (W.alloc (.cells news TP)):=by
 obtain⟨i0,hi0,hz0,hz1,hz2⟩:=info_parts hinfo
 obtain⟨cells,fs,r1,r2,r3,r4,r5,r6,r7⟩:=hrow
 have ro:=World.ownsRow.alloc r1 (.cells news TP)
 have hnew:(W.alloc (.cells news TP)).heap[W.heap.size]?=some (.cells news TP (0,0)):=heap_alloc_new W _
 have hsz2:(W.alloc (.cells news TP)).heap.size=W.heap.size+1:=by simp
 have hm:(l.length+1)*bytes≤140737488355328:=Nat.le_trans (Nat.mul_le_mul (show l.length+1≤1048577 by omega) hby) (by omega)
 refine wpList_append_own_at _ hgd s x t ho lo TP i0 z size bytes ht hi0 hz0 hz1 hz2 hzs hsz v l.length cells hs ro ⟨W.heap.size,0,none⟩ 1 c news.toList hx (by simpa using hnl) (World.news_of_block hnew) h1 (by unfold maxLen;omega) hm (by omega) ?_
 intro v' w' g1 g2 g3 g4
 have hne:v'≠.slice none 0 0:=fun e=>by have:=(g3.1 e).2;omega
 have hws:=g2.size
 have hold:∀b,b<W.heap.size→v.ownBlock≠some b→w'.heap[b]?=W.heap[b]?:=fun b hb1 hb2=>(g2.block b (by omega) (fun e=>hb2 e.symm)).trans (Below.heap_alloc W _ b hb1)
 have hown:∀ b,v'.ownBlock=some b→(v.ownBlock=some b∨b=W.heap.size+1):=by
  intro b e
  rcases g4 with g4|g4
  ·exact .inl (by rw[←g4];exact e)
  ·rw[g4]at e;injection e with e;right;omega
 have hvl:∀b,v'.ownBlock=some b→lo≤b∧b<w'.heap.size:=fun b e=>by have:=World.ownsRow.lt g1 b e;exact this
 refine h v' w' ⟨cells++news.toList,fs++[bs],by simpa using g1,fun g e=>(hvl g e).2,by simp[r3],fun i hi'=>?_,fun b hm'=>?_,?_,Nat.le_refl _⟩ ((hb.alloc _).grown g2 (fun k e=>by have:=(World.ownsRow.lt r1 k e).1;omega)) hne ⟨by omega,fun g hg hn=>⟨hold g hg hn,fun e=>by rcases hown g e with e|e;exact hn e;omega⟩⟩
 ·have hcl:=r1.1
  rw[List.length_append,List.length_singleton]at hi'
  rcases Nat.lt_succ_iff_lt_or_eq.1 hi' with hi'|rfl
  ·rw[pix_append_left hi',pix_append_left (by rw[r3];exact hi')]
   refine hk _ _ _ _ _ _ _ _ (r4 i hi') (fun j hj=>?_) (by omega) fun b hb'=>?_
   ·have:i * size+j < cells.length:=by
     rw[hcl]
     have:(i+1)*size≤l.length*size:=Nat.mul_le_mul_right _ hi'
     rw[Nat.succ_mul]at this
     omega
    simp[List.getElem?_append_left this]
   ·have:=r5 b (mem_flatten_pix hb')
    exact hold b (by omega) this.2.2
  ·rw[pix_append_last,pixs_last r3]
   refine hk _ _ _ _ _ _ _ _ hel (fun j hj=>?_) (by omega) fun b hb'=>?_
   ·have:(cells ++ news.toList)[l.length * size+j]?=news.toList[j]?:=by
     rw[List.getElem?_append_right (by rw[hcl];omega),hcl]
     congr 1;omega
    simpa using this
   ·have:=hbs b hb'
    exact hold b this.2 fun e=>by have:=r2 b e;omega
 ·rw[List.flatten_append,List.mem_append]at hm'
  rcases hm' with hm'|hm'
  ·have:=r5 b hm'
   refine⟨this.1,by omega,fun e=>?_⟩
   rcases hown b e with e|e
   ·exact this.2.2 e
   ·omega
  ·have:=hbs b (by simpa using hm')
   refine⟨by omega,by omega,fun e=>?_⟩
   rcases hown b e with e|e
   ·have:=r2 b e;omega
   ·omega
 ·rw[List.flatten_append]
  refine hN.2 _ _ r6 (by simpa using hNb) fun x hx' y hy e=>?_
  have a1:=r5 x hx'
  have a2:=hbs y (by simpa using hy)
  omega
theorem step_append_rowS {P:Program}{α:Type} [Inhabited α] {N:List Nat→Prop}(hN:AppN N) {size bytes:Nat}{El:World→Array Value→Nat→α→List Nat→Prop}(hk:KeepE size El) {TP t:TypeId}{z:Value}
  (hinfo:(P.info? TP).map (fun i=>(i.zero,i.size,i.bytes))=some (some z,size,bytes)) (hzs:z.cells.size=size) (hsz:0<size) (hby:bytes≤4096) (ht:P.underlying t=some (.slice TP))
  {W:World}{news:Array Value}{p:α}{bs:List Nat}{lo hi:Nat}{l:List α}{ops:Array Oper}{o:Oper}{a:Act}{K:Act→World→Prop}{Q:Exit→Act→World→Prop}{F:Prop}(hgd:o.guard=none) (s x:Operand)
  (ho:o.op=.call { callee:=.builtin .append,args:=#[s,x],argTypes:=#[t,t] }) (v:Value) (hs:a.eval s=v) (hrow:RowG N TP size El lo hi W v l)
  (hel:El W news 0 p bs) (hnl:news.size=size) (h1:∀u∈news.toList,u.oneCell'=true) (hbs:∀b∈bs,hi≤b∧b<W.heap.size) (hNb:N bs) (hlh:lo≤hi)
  (c:Nat) (hx:a.eval x=.slice (some ⟨W.heap.size,0,none⟩) 1 c) (hlen:l.length≤1048576) (w0:World) (hb:Bl w0 W) (h0:w0.heap.size≤lo)
  (h:∀v' w',RowG N TP size El lo w'.heap.size w' v' (l++[p])→Bl w0 w'→(v'=.slice none 0 0→False)→(W.heap.size≤w'.heap.size∧∀g,g<W.heap.size→v.ownBlock≠some g→w'.heap[g]?=W.heap[g]?∧v'.ownBlock≠some g)→K (a.put o.dst v') w'):if Region.wanted o (yielded ops a.tmps)=true then Oper.wp P o a (W.alloc (.cells news TP)) K Q else F:=by
 have hw:Region.wanted o (yielded ops a.tmps)=true:=by simp[Region.wanted,hgd]
 rw[if_pos hw]
 obtain⟨i0,hi0,hz0,hz1,hz2⟩:=info_parts hinfo
 obtain⟨cells,fs,r1,r2,r3,r4,r5,r6,r7⟩:=hrow
 have ro:=World.ownsRow.alloc r1 (.cells news TP)
 have hnew:(W.alloc (.cells news TP)).heap[W.heap.size]?=some (.cells news TP (0,0)):=heap_alloc_new W _
 have hsz2:(W.alloc (.cells news TP)).heap.size=W.heap.size+1:=by simp
 have hm:(l.length+1)*bytes≤140737488355328:=Nat.le_trans (Nat.mul_le_mul (show l.length+1≤1048577 by omega) hby) (by omega)
 obtain⟨v',w',hrun,g1,g2,g3,g4⟩:=run_append_own_at (P:=P) (W.alloc (.cells news TP)) lo t o.type TP i0 z size bytes ht hi0 hz0 hz1 hz2 hzs hsz v l.length cells ro ⟨W.heap.size,0,none⟩ 1 c news.toList (by simpa using hnl) (World.news_of_block hnew) h1 (by unfold maxLen;omega) hm (by omega)
 unfold Oper.wp execOp
 simp only[ho,resolve,invoke,builtin,Sem.run_bind,Sem.run_pure,Result.andThen_ok,List.map_toArray,List.map_cons,List.map_nil,hs,hx,hrun]
 have hne:v'≠.slice none 0 0:=fun e=>by have:=(g3.1 e).2;omega
 have hws:=g2.size
 have hold:∀b,b<W.heap.size→v.ownBlock≠some b→w'.heap[b]?=W.heap[b]?:=fun b hb1 hb2=>(g2.block b (by omega) (fun e=>hb2 e.symm)).trans (Below.heap_alloc W _ b hb1)
 have hown:∀ b,v'.ownBlock=some b→(v.ownBlock=some b∨b=W.heap.size+1):=by
  intro b e
  rcases g4 with g4|g4
  ·exact .inl (by rw[←g4];exact e)
  ·rw[g4]at e;injection e with e;right;omega
 have hvl:∀b,v'.ownBlock=some b→lo≤b∧b<w'.heap.size:=fun b e=>by have:=World.ownsRow.lt g1 b e;exact this
 refine h v' w' ⟨cells++news.toList,fs++[bs],by simpa using g1,fun g e=>(hvl g e).2,by simp[r3],fun i hi'=>?_,fun b hm'=>?_,?_,Nat.le_refl _⟩ ((hb.alloc _).grown g2 (fun k e=>by have:=(World.ownsRow.lt r1 k e).1;omega)) hne ⟨by omega,fun g hg hn=>⟨hold g hg hn,fun e=>by rcases hown g e with e|e;exact hn e;omega⟩⟩
 ·have hcl:=r1.1
  rw[List.length_append,List.length_singleton]at hi'
  rcases Nat.lt_succ_iff_lt_or_eq.1 hi' with hi'|rfl
  ·rw[pix_append_left hi',pix_append_left (by rw[r3];exact hi')]
   refine hk _ _ _ _ _ _ _ _ (r4 i hi') (fun j hj=>?_) (by omega) fun b hb'=>?_
   ·have:i * size+j < cells.length:=by
     rw[hcl]
     have:(i+1)*size≤l.length*size:=Nat.mul_le_mul_right _ hi'
     rw[Nat.succ_mul]at this
     omega
    simp[List.getElem?_append_left this]
   ·have:=r5 b (mem_flatten_pix hb')
    exact hold b (by omega) this.2.2
  ·rw[pix_append_last,pixs_last r3]
   refine hk _ _ _ _ _ _ _ _ hel (fun j hj=>?_) (by omega) fun b hb'=>?_
   ·have:(cells ++ news.toList)[l.length * size+j]?=news.toList[j]?:=by
     rw[List.getElem?_append_right (by rw[hcl];omega),hcl]
     congr 1;omega
    simpa using this
   ·have:=hbs b hb'
    exact hold b this.2 fun e=>by have:=r2 b e;omega
 ·rw[List.flatten_append,List.mem_append]at hm'
  rcases hm' with hm'|hm'
  ·have:=r5 b hm'
   refine⟨this.1,by omega,fun e=>?_⟩
   rcases hown b e with e|e
   ·exact this.2.2 e
   ·omega
  ·have:=hbs b (by simpa using hm')
   refine⟨by omega,by omega,fun e=>?_⟩
   rcases hown b e with e|e
   ·have:=r2 b e;omega
   ·omega
 ·rw[List.flatten_append]
  refine hN.2 _ _ r6 (by simpa using hNb) fun x hx' y hy e=>?_
  have a1:=r5 x hx'
  have a2:=hbs y (by simpa using hy)
  omega
theorem step_append_ptS {N:List Nat→Prop}(hN:AppN N) {W:World}{s:Bool}{A:Option Addr}{n c:Nat}{B:Option Addr}{m d:Nat}{t:Bool}{C:Option Addr}{i e:Nat}{D:Option Addr}{j f:Nat}{p:PtD}{lo hi b0:Nat}{l:List PtD}{ops:Array Oper}{o:Oper}{a:Act}{K:Act→World→Prop}{Q:Exit→Act→World→Prop}{F:Prop}(hgd:o.guard=none) (s1 x1:Operand)
  (ho:o.op=.call { callee:=.builtin .append,args:=#[s1,x1],argTypes:=#[23,23] }) (v:Value) (hs:a.eval s1=v) (hrow:RowP N lo hi W v l)
  (hpt:OwPN N 3 b0 W s A n c B m d t C i e D j f p) (hb0:hi≤b0) (hlh:lo≤hi) (c1:Nat) (hx:a.eval x1=.slice (some ⟨W.heap.size,0,none⟩) 1 c1) (hlen:l.length≤1048576) (w0:World) (hb:Bl w0 W) (h0:w0.heap.size≤lo)
  (h:∀v' w',RowP N lo w'.heap.size w' v' (l++[p])→Bl w0 w'→(W.heap.size≤w'.heap.size∧∀g,g<W.heap.size→v.ownBlock≠some g→w'.heap[g]?=W.heap[g]?∧v'.ownBlock≠some g)→K (a.put o.dst v') w'):if Region.wanted o (yielded ops a.tmps)=true then Oper.wp Tryz.prog o a (W.alloc (.cells #[.bool s,.slice A n c,.slice B m d,.bool t,.slice C i e,.slice D j f] 56)) K Q else F:=by
 obtain⟨b1,b2,f1,f2,f3,f4⟩:=hpt
 refine step_append_rowS hN (ptIn_keep 3) info_pt (by rfl) (by omega) (by omega) Tryz.underlying23 hgd s1 x1 ho v hs hrow (p:=p) (bs:=b1++b2) ⟨_,_,_,_,_,_,_,_,_,_,_,_,_,_,b1,b2,⟨rfl,rfl,rfl,rfl,rfl,rfl⟩,f1,f2,rfl⟩ rfl (by simp[Value.oneCell']) (fun b hm=>⟨Nat.le_trans hb0 (f3 b hm).1,(f3 b hm).2⟩) f4 hlh c1 hx hlen w0 hb h0 fun v' w' g1 g2 _ g4=>h v' w' g1 g2 g4
end
section
open Go.RowKit
section
variable {P:Program}{ops:Array Oper}{Q:Exit→Act→World→Prop}{md:Region.Mode}{S:World→Prop}{last:Nat}
def wpAnyT (P:Program) (md:Region.Mode) (ops:Array Oper) (Q:Exit→Act→World→Prop) (S:World→Prop) (last:Nat):Nat→Array Bool→Act→World→Prop
 | 0,listed,a,w=>Region.ready md ops listed=[]∧Q .normal a w
 | fuel+1,listed,a,w=>
  (Region.ready md ops listed=[]→Q .normal a w) ∧
  ∀i∈Region.ready md ops listed,wpOp P ops Q i (fun a' w'=>(i≠last→S w')∧wpAnyT P md ops Q S last fuel (listed.setIfInBounds i true) a' w') a w
theorem wpAny_of_T:∀(fuel:Nat) (listed:Array Bool) (a:Act) (w:World),wpAnyT P md ops Q S last fuel listed a w→wpAny P md ops Q fuel listed a w
 | 0,_,_,_,h=>h
 | fuel+1,_,_,_,h=>⟨h.1,fun i hi=>wpOp_mono (fun a' w' h'=>wpAny_of_T fuel _ a' w' h'.2) (h.2 i hi)⟩
def waits (md:Region.Mode) (ops:Array Oper) (last i:Nat):Bool :=
 match ops[last]? with
 | some ol=>ol.after.any (fun e=>Region.binds md e&&e.on == i)
 | none=>false
theorem waits_spec {i:Nat}(h:waits md ops last i=true):∀oj,ops[last]?=some oj→¬∀e∈oj.after,Region.binds md e=true→e.on≠i:=by
 intro oj hj hno
 unfold waits at h
 rw[hj]at h
 obtain⟨k,hk,hx⟩:=Array.any_eq_true.1 h
 have h1:=Bool.and_eq_true_iff.1 hx
 exact hno _ (Array.getElem_mem hk) h1.1 (by simpa using h1.2)
theorem wpAnyT_first {i:Nat}{oi:Oper}{v:Value}(hi:ops[i]?=some oi) (hsel:∀(j:Nat) (o:Oper) cs b,ops[j]?=some o→o.op≠.select cs b)
  (hQ:∀c a w,Q (.panic c) (a.put oi.dst v) w→Q (.panic c) a w) (hw:waits md ops last i=true) :
  ∀(fuel:Nat) (listed:Array Bool) (a:Act) (w:World),
   (∀j oj,ops[j]?=some oj→j≠i→listed.getD j true=false→(∀e∈oj.after,Region.binds md e=true→e.on≠i)→oi.apart ops oj=true) →
   i∈Region.ready md ops listed→YieldsIf P ops S oi v a→S w →
   wpAnyT P md ops Q S last fuel (listed.setIfInBounds i true) (a.put oi.dst v) w→wpAnyT P md ops Q S last (fuel+1) listed a w:=by
 intro fuel
 induction fuel with
 | zero=>
  intro listed a w _ hr hy hS H
  refine⟨fun h=>(by rw[h]at hr;cases hr),fun j hj=>?_⟩
  by_cases hji:j=i
  ·subst hji;exact hy.wpOp hi hS ⟨fun _=>hS,H⟩
  ·have:=ready_mono hj hji
   rw[H.1]at this
   cases this
 | succ fuel ih=>
  intro listed a w hfree hr hy hS H
  refine⟨fun h=>(by rw[h]at hr;cases hr),fun j hj=>?_⟩
  by_cases hji:j=i
  ·subst hji;exact hy.wpOp hi hS ⟨fun _=>hS,H⟩
  ·have h1:=H.2 j (ready_mono hj hji)
   obtain⟨hjun,oj,hoj,hall⟩:=mem_ready.1 hj
   have hnot:∀e∈oj.after,Region.binds md e=true→e.on≠i:=fun e he hb heq=>by
    have h1:=hall e he hb
    have h0:=(mem_ready.1 hr).1
    rw[heq]at h1
    rcases Nat.lt_or_ge i listed.size with h'|h'
    ·simp[h']at h0 h1;rw[h0]at h1;cases h1
    ·simp[Array.getElem?_eq_none h']at h1
   have hjl:j≠last:=fun e=>by subst e;exact waits_spec hw oj hoj hnot
   have h2:=wpOp_putIf hoj (hfree j oj hoj hji hjun hnot) (fun cs b=>hsel i oi cs b hi) (fun cs b=>hsel j oj cs b hoj) hQ hy h1
   have hfree' : ∀ k ok, ops[k]? = some ok → k ≠ i → (listed.setIfInBounds j true).getD k true = false →
     (∀e∈ok.after,Region.binds md e=true→e.on≠i)→oi.apart ops ok=true:=fun k ok hk hki hun hno=>by
    refine hfree k ok hk hki ?_ hno
    by_cases hjk:j=k
    ·subst hjk;exact hjun
    ·rw[getD_set_ne true hjk]at hun;exact hun
   refine wpOp_mono (fun a' w' h3=>⟨fun _=>h3.2.1 hjl,ih (listed.setIfInBounds j true) a' w' hfree' (ready_mono hr (Ne.symm hji)) h3.1 (h3.2.1 hjl) ?_⟩) h2
   rw[Array.setIfInBounds_comm _ _ hji]
   exact h3.2.2
theorem wpAnyT_take {i:Nat}{oi:Oper}{v:Value}{fuel:Nat}{listed:Array Bool}{a:Act}{w:World}(hi:ops[i]?=some oi)
  (hs:Region.noSelect ops=true) (hf:Region.free md ops listed i=true) (hr:(Region.ready md ops listed).contains i=true) (hl:waits md ops last i=true)
  (hQ:∀c a w,Q (.panic c) (a.put oi.dst v) w→Q (.panic c) a w) (hw:Region.wanted oi (yielded ops a.tmps)=true) (hy:∀w,S w→(execOp a.eval oi).run P w=.ok (.value v) w) (hS:S w)
  (h:wpAnyT P md ops Q S last fuel (listed.setIfInBounds i true) (a.put oi.dst v) w):wpAnyT P md ops Q S last (fuel+1) listed a w :=
 wpAnyT_first hi (Region.noSelect_spec hs) hQ hl fuel listed a w (Region.free_spec hi hf) (by simpa using hr) (.inl ⟨hw,hy⟩) hS h
theorem wpAnyT_step {i:Nat}{o:Oper}{fuel:Nat}{listed:Array Bool}{a:Act}{w:World}(ho:ops[i]?=some o) (hr:Region.ready md ops listed=[i])
  (h:∀K':Act→World→Prop,Shut (∀a w,(i≠last→S w)→wpAnyT P md ops Q S last fuel (listed.setIfInBounds i true) a w→K' a w)→if Region.wanted o (yielded ops a.tmps)=true then Oper.wp P o a w K' Q else K' (a.put o.dst undef) w):wpAnyT P md ops Q S last (fuel+1) listed a w:=by
 refine⟨fun h0=>(by rw[hr]at h0;cases h0),fun j hj=>?_⟩
 rw[hr]at hj
 obtain rfl:j=i:=by simpa using hj
 exact wpOp_step ho (fun K' hK=>h K' (fun a w hS hW=>hK a w ⟨hS,hW⟩))
theorem wpAnyT_done {listed:Array Bool}{a:Act}{w:World}(hr:Region.ready md ops listed=[]) (h:Q .normal a w):wpAnyT P md ops Q S last 0 listed a w:=⟨hr,h⟩
theorem wp_region_T {id:Nat}{a:Act}{w:World}(last n:Nat) (S:World→Prop) (hn:ops.size=n) (hm:P.follows .mixedOrders=true) (_hS:S w.drew)
  (h:wpAnyT P .any ops Q S last n (Array.replicate n false) a w.drew):(Code.region id ops true).wp P Q a w:=by
 subst hn
 exact wp_region_any hm (wpAny_of_T _ _ _ _ h)
end
end
section
open Go.RowKit
def rg (a y x:Nat):Nat→Int
 | 0=>(y:Int)*((a:Int)+1)+x
 | 1=>(y:Int)*((a:Int)+1)+x+1
 | 2=>(y:Int)*((a:Int)+1)+x+a+2
 | 3=>(y:Int)*((a:Int)+1)+x+a+1
 | _=>(y:Int)*((a:Int)+1)+x
noncomputable def gpt (x y:Nat):PtD:=⟨ofFrac (x:Int) 1,ofFrac (y:Int) 1⟩
noncomputable def hpt (x y:Nat):PtD:=⟨ofFrac (2*(x:Int)+1) 2,ofFrac (2*(y:Int)+1) 2⟩
def ctr (a y x:Nat):Nat:=(a+1)*(a+1)+y*a+x
def tri (a y x j:Nat):TriD:=⟨(ctr a y x:Nat),rg a y x j,rg a y x (j+1),0,0⟩
theorem RowG.shapeN {α:Type} [Inhabited α] {N:List Nat→Prop}{TP:TypeId}{size lo hi:Nat}{El:World→Array Value→Nat→α→List Nat→Prop}{w:World}{v:Value}{l:List α}(h:RowG N TP size El lo hi w v l):∃A c,v=.slice A l.length c:=by
 obtain⟨_,_,h1,_⟩:=h
 rcases h1.2 with ⟨rfl,h0⟩ |⟨g,cap,cur,rfl,_⟩
 ·exact⟨_,_,by rw[h0]⟩
 ·exact⟨_,_,rfl⟩
theorem OwMZ.nil (lo hi:Nat) (w:World):OwMZ lo hi w none 0 0 none 0 0 ⟨[],[]⟩:=⟨rfl,rfl,Nat.le_refl _,Nat.le_refl _,Nat.zero_le _,Nat.zero_le _,.inl ⟨rfl,rfl⟩⟩
def pairsA (gr:Nat):Array Value:=#[.slice (some ⟨gr+0,0,none⟩) 2 2,.slice (some ⟨gr+1,0,none⟩) 2 2,.slice (some ⟨gr+2,0,none⟩) 2 2,.slice (some ⟨gr+3,0,none⟩) 2 2]
def LitQ (a y x gr:Nat) (W:World):Prop:=Blk W (gr+4) 28 (pairsA gr)∧∀k,k<4→Blk W (gr+k) 3 #[.int .i64 (rg a y x k),.int .i64 (rg a y x (k+1))]
theorem LitQ.keep {a y x gr:Nat}{w W:World}(h:LitQ a y x gr w) (hk:∀g,gr≤g→g≤gr+4→W.heap[g]?=w.heap[g]?):LitQ a y x gr W :=
 ⟨(hk _ (by omega) (by omega)).trans h.1,fun k hk2=>(hk _ (by omega) (by omega)).trans (h.2 k hk2)⟩
end
section
open Go.RowKit
def OwG (T:TypeId) (b0 g:Nat) (w:World) (s:Bool) (A:Option Addr) (n c:Nat) (B:Option Addr) (m d:Nat) (r:RatD):Prop :=
 ∃bs,FtR T w s A n c B m d r bs∧Fp b0 w.heap.size bs∧g∉bs
section
variable {T:TypeId}{b0 b1 g:Nat}{w W:World}{s:Bool}{A:Option Addr}{n c:Nat}{B:Option Addr}{m d:Nat}{r:RatD}
theorem OwG.rd (h:OwG T b0 g w s A n c B m d r):RdR w s A n c B m d r:=by
 obtain⟨bs,h,_⟩:=h
 exact h.rd
theorem OwG.ow (h:OwG T b0 g w s A n c B m d r):OwR T b0 w s A n c B m d r:=by
 obtain⟨bs,h,hf,_⟩:=h
 exact⟨bs,h,hf⟩
theorem OwG.set (h:OwG T b0 g w s A n c B m d r) (i:Nat) (u:Value):OwG T b0 g (w.setCell ⟨g,i,none⟩ u) s A n c B m d r:=by
 obtain⟨bs,h,hf,hg⟩:=h
 exact⟨bs,h.keep (by simp) (fun b hb=>Below.heap_setCell w _ u b (by intro e;exact hg ((show b=g from e) ▸ hb))),hf.mono (Nat.le_refl _) (by simp),hg⟩
theorem fz3 {a b c:Value}(h:Blk W g T #[a,b,c]):W.frozen? ⟨g,0,none⟩=false∧W.frozen? ⟨g,1,none⟩=false∧W.frozen? ⟨g,2,none⟩=false:=⟨h.frozen 0,h.frozen 1,h.frozen 2⟩
end
end
section
open Go.RowKit
structure EdD where
 a:Int
 b:Int
 l:Int
 r:Int
 deriving DecidableEq,Inhabited
def cmpE (x y:EdD):Int:=if cmpZ x.a y.a=0 then cmpZ x.b y.b else cmpZ x.a y.a
def ltE (x y:EdD):Bool:=decide (cmpE x y<0)
theorem ltE_iff {x y:EdD}:ltE x y=true↔x.a<y.a∨(x.a=y.a∧x.b<y.b):=by
 unfold ltE cmpE cmpZ
 rw[decide_eq_true_iff]
 by_cases h1:x.a<y.a
 ·simp[h1]
 ·by_cases h2:y.a<x.a
  ·simp[h1,h2];omega
  ·have h3:x.a=y.a:=by omega
   simp only[h3,Int.lt_irrefl,if_false,if_true,true_and,false_or]
   by_cases h4:x.b<y.b
   ·simp[h4]
   ·by_cases h5:y.b<x.b <;> simp[h4,h5]
theorem cmpE_zero {x y:EdD}:cmpE x y=0↔x.a=y.a∧x.b=y.b:=by
 unfold cmpE cmpZ
 by_cases h1:x.a<y.a
 ·simp[h1];omega
 ·by_cases h2:y.a<x.a
  ·simp[h1,h2];omega
  ·have h3:x.a=y.a:=by omega
   simp only[h3,Int.lt_irrefl,if_false,if_true,true_and]
   by_cases h4:x.b<y.b
   ·simp[h4];omega
   ·by_cases h5:y.b<x.b
    ·simp[h4,h5];omega
    ·simp[h4,h5];omega
def posE (e:EdD):List EdD→Nat
 | []=>0
 | x::xs=>if ltE x e then posE e xs+1 else 0
theorem posE_le (e:EdD):∀l:List EdD,posE e l≤l.length
 | []=>Nat.le_refl _
 | x::xs=>by
  unfold posE
  split
  ·have:=posE_le e xs;simp;omega
  ·simp
theorem pix_zero {α:Type} [Inhabited α] (x:α) (xs:List α):pix (x::xs) 0=x:=rfl
theorem pix_succ {α:Type} [Inhabited α] (x:α) (xs:List α) (k:Nat):pix (x::xs) (k+1)=pix xs k:=by simp[pix]
theorem posE_lt (e:EdD):∀(l:List EdD) {k:Nat},k<posE e l→ltE (pix l k) e=true
 | [],k,h=>by simp[posE]at h
 | x::xs,k,h=>by
  unfold posE at h
  by_cases hx:ltE x e=true
  ·rw[if_pos hx]at h
   rcases k with _|k
   ·exact hx
   ·rw[pix_succ];exact posE_lt e xs (by omega)
  ·rw[if_neg hx]at h;omega
theorem posE_at (e:EdD):∀(l:List EdD),posE e l<l.length→ltE (pix l (posE e l)) e=false
 | [],h=>by simp at h
 | x::xs,h=>by
  unfold posE at h ⊢
  by_cases hx:ltE x e=true
  ·rw[if_pos hx]at h ⊢
   rw[pix_succ]
   exact posE_at e xs (by simpa using h)
  ·rw[if_neg hx]
   exact Bool.eq_false_iff.2 hx
def SrtE (l:List EdD):Prop:=∀i j,i<j→j<l.length→ltE (pix l i) (pix l j)=true
theorem ltE_trans {x y z:EdD}(h:ltE x y=true) (k:ltE y z=true):ltE x z=true:=by
 rw[ltE_iff]at *
 omega
theorem posE_ge {e:EdD}{l:List EdD}(hs:SrtE l) {k:Nat}(h:posE e l≤k) (hk:k<l.length):ltE (pix l k) e=false:=by
 have h0:=posE_at e l (by omega)
 rcases Nat.lt_or_eq_of_le h with h|h
 ·have h1:=hs _ _ h hk
  rw[Bool.eq_false_iff]at h0 ⊢
  exact fun h2=>h0 (ltE_trans h1 h2)
 ·rw[←h];exact h0
theorem posE_of {e:EdD}{l:List EdD}(hs:SrtE l) {i:Nat}(hi:i≤l.length) (h1:∀k,k<i→ltE (pix l k) e=true) (h2:∀k,i≤k→k<l.length→ltE (pix l k) e=false):i=posE e l:=by
 have h0:=posE_le e l
 rcases Nat.lt_trichotomy i (posE e l)with h|h|h
 ·have a:=posE_lt e l h
  have b:=h2 i (Nat.le_refl _) (by omega)
  rw[a]at b;cases b
 ·exact h
 ·have a:=h1 _ h
  have b:=posE_ge hs (Nat.le_refl _) (show posE e l<l.length by omega)
  rw[a]at b;cases b
def fndE (e:EdD) (l:List EdD):Bool:=decide (posE e l<l.length)&&decide (cmpE (pix l (posE e l)) e=0)
def insE (e:EdD) (l:List EdD):List EdD:=l.take (posE e l)++e::l.drop (posE e l)
theorem insE_len (e:EdD) (l:List EdD):(insE e l).length=l.length+1:=by
 have:=posE_le e l
 unfold insE
 simp
 omega
theorem pix_insE {e:EdD}{l:List EdD}{k:Nat}:pix (insE e l) k=if k<posE e l then pix l k else if k=posE e l then e else pix l (k-1):=by
 have h0:=posE_le e l
 unfold insE
 by_cases h1:k<posE e l
 ·rw[if_pos h1,pix_append_left (by simp;omega)]
  unfold pix
  rw[List.getD_eq_getElem?_getD,List.getD_eq_getElem?_getD,List.getElem?_take_of_lt h1]
 ·rw[if_neg h1]
  unfold pix
  rw[List.getD_eq_getElem?_getD,List.getElem?_append_right (by simp;omega),List.length_take,Nat.min_eq_left h0]
  by_cases h2:k=posE e l
  ·rw[if_pos h2,h2,Nat.sub_self];rfl
  ·rw[if_neg h2,List.getD_eq_getElem?_getD]
   obtain⟨j,rfl⟩:∃j,k=posE e l+j+1:=⟨k-posE e l-1,by omega⟩
   rw[show posE e l+j+1-posE e l=j+1 by omega,show posE e l+j+1-1=posE e l+j by omega,List.getElem?_cons_succ,List.getElem?_drop]
theorem insE_srt {e:EdD}{l:List EdD}(hs:SrtE l) (hn:fndE e l=false):SrtE (insE e l):=by
 intro i j hij hj
 rw[insE_len]at hj
 have h0:=posE_le e l
 have hgt:∀ k,posE e l≤k→k < l.length→ltE e (pix l k)=true:=by
  intro k hk hk2
  have h1:=posE_at e l (by omega)
  have h2:¬ cmpE (pix l (posE e l)) e=0:=by
   intro h3
   unfold fndE at hn
   rw[decide_eq_true (show posE e l<l.length by omega),decide_eq_true h3]at hn
   cases hn
  have h3:ltE e (pix l (posE e l))=true:=by
   rw[cmpE_zero]at h2
   rw[Bool.eq_false_iff,Ne,ltE_iff]at h1
   rw[ltE_iff]
   omega
  rcases Nat.lt_or_eq_of_le hk with h|h
  ·exact ltE_trans h3 (hs _ _ h hk2)
  ·rw[←h];exact h3
 rw[pix_insE,pix_insE]
 by_cases h1:j<posE e l
 ·rw[if_pos h1,if_pos (by omega)]
  exact hs _ _ hij (by omega)
 ·rw[if_neg h1]
  by_cases h2:j=posE e l
  ·rw[if_pos h2,if_pos (by omega)]
   exact posE_lt e l (by omega)
  ·rw[if_neg h2]
   by_cases h3:i<posE e l
   ·rw[if_pos h3]
    exact hs _ _ (by omega) (by omega)
   ·rw[if_neg h3]
    by_cases h4:i=posE e l
    ·rw[if_pos h4]
     exact hgt _ (by omega) (by omega)
    ·rw[if_neg h4]
     exact hs _ _ (by omega) (by omega)
def setLR (a b k:Int) (e:EdD):EdD:=if a<b then ⟨e.a,e.b,k,e.r⟩else ⟨e.a,e.b,e.l,k⟩
def newE (a b:Int):EdD:=⟨min a b,max a b,-1,-1⟩
def putE (l:List EdD) (a b k:Int):List EdD :=
 (if fndE (newE a b) l then l else insE (newE a b) l).modify (posE (newE a b) l) (setLR a b k)
def putTri (l:List EdD) (t:TriD) (k:Int):Nat→List EdD
 | 0=>l
 | 1=>putE l t.a t.b k
 | 2=>putE (putE l t.a t.b k) t.b t.c k
 | _=>putE (putE (putE l t.a t.b k) t.b t.c k) t.c t.a k
def edTo (ts:List TriD):Nat→List EdD
 | 0=>[]
 | k+1=>putTri (edTo ts k) (pix ts k) k 3
def edL (ts:List TriD):List EdD:=edTo ts ts.length
theorem setLR_lt (a b k:Int) (e x:EdD):ltE (setLR a b k e) x=ltE e x∧ltE x (setLR a b k e)=ltE x e:=by
 unfold setLR
 split <;> exact⟨rfl,rfl⟩
theorem pix_modify {l:List EdD}{f:EdD→EdD}{p k:Nat}(hk:k<l.length):pix (l.modify p f) k=if k=p then f (pix l k)else pix l k:=by
 unfold pix
 rw[List.getD_eq_getElem?_getD,List.getD_eq_getElem?_getD,List.getElem?_modify]
 by_cases h:p=k
 ·rw[if_pos h.symm];simp[h,hk]
 ·rw[if_neg (fun e=>h e.symm)];simp[h]
theorem modify_srt {l:List EdD}{a b k:Int}{p:Nat}(hs:SrtE l):SrtE (l.modify p (setLR a b k)):=by
 intro i j hij hj
 rw[List.length_modify]at hj
 have h:=hs i j hij hj
 rw[pix_modify (by omega),pix_modify hj]
 by_cases h1:i=p <;> by_cases h2:j=p
 ·omega
 ·rw[if_pos h1,if_neg h2,(setLR_lt a b k _ _).1];exact h
 ·rw[if_neg h1,if_pos h2,(setLR_lt a b k _ _).2];exact h
 ·rw[if_neg h1,if_neg h2];exact h
theorem putE_srt {l:List EdD}{a b k:Int}(hs:SrtE l):SrtE (putE l a b k):=by
 unfold putE
 refine modify_srt ?_
 by_cases h:fndE (newE a b) l=true
 ·rw[if_pos h];exact hs
 ·rw[if_neg h];exact insE_srt hs (Bool.eq_false_iff.2 h)
theorem putE_len (l:List EdD) (a b k:Int):l.length≤(putE l a b k).length∧(putE l a b k).length≤l.length+1:=by
 unfold putE
 rw[List.length_modify]
 split
 ·omega
 ·rw[insE_len];omega
theorem putTri_srt {l:List EdD}{t:TriD}{k:Int}(hs:SrtE l) (i:Nat):SrtE (putTri l t k i):=by
 unfold putTri
 split
 ·exact hs
 ·exact putE_srt hs
 ·exact putE_srt (putE_srt hs)
 ·exact putE_srt (putE_srt (putE_srt hs))
theorem putTri_len {l:List EdD}{t:TriD}{k:Int}(i:Nat):l.length≤(putTri l t k i).length∧(putTri l t k i).length≤l.length+3:=by
 unfold putTri
 have h1:=putE_len l t.a t.b k
 have h2:=putE_len (putE l t.a t.b k) t.b t.c k
 have h3:=putE_len (putE (putE l t.a t.b k) t.b t.c k) t.c t.a k
 split <;> omega
theorem edTo_srt (ts:List TriD):∀k,SrtE (edTo ts k)
 | 0=>fun i j _ hj=>by simp[edTo]at hj
 | k+1=>putTri_srt (edTo_srt ts k) 3
theorem edTo_len (ts:List TriD):∀k,(edTo ts k).length≤3*k
 | 0=>by simp[edTo]
 | k+1=>by
  have h1:=edTo_len ts k
  have h2:=putTri_len (l:=edTo ts k) (t:=pix ts k) (k:=(k:Int)) 3
  show (putTri (edTo ts k) (pix ts k) k 3).length≤_
  omega
def EdAt (w:World) (p:Addr) (e:EdD):Prop :=
 w.cell? p=some (.int .i64 e.a)∧w.cell? ⟨p.block,p.off+1,none⟩=some (.int .i64 e.b)∧w.cell? ⟨p.block,p.off+2,none⟩=some (.int .i64 e.l)∧w.cell? ⟨p.block,p.off+3,none⟩=some (.int .i64 e.r)
theorem EdAt.bl {w W:World}{p:Addr}{e:EdD}(h:EdAt w p e) (hp:p.block<w.heap.size) (hb:Bl w W):EdAt W p e:=by
 obtain⟨h0,h1,h2,h3⟩:=h
 refine⟨?_,?_,?_,?_⟩
 ·rw[hb.cellOf hp];exact h0
 ·rw[hb.cellOf (p:=⟨p.block,p.off+1,none⟩) hp];exact h1
 ·rw[hb.cellOf (p:=⟨p.block,p.off+2,none⟩) hp];exact h2
 ·rw[hb.cellOf (p:=⟨p.block,p.off+3,none⟩) hp];exact h3
abbrev RdES:=RdS 4 EdAt
theorem RdES.bl {w W:World}{A:Option Addr}{n c:Nat}{l:List EdD}(h:RdES w A n c l) (hb:Bl w W):RdES W A n c l:=RdS.bl (fun h hp hb=>h.bl hp hb) h hb
theorem eds_lit {w:World}{g n c:Nat}{l:List EdD}(h:RdES w (some ⟨g,0,none⟩) n c l) {k:Nat}(hk:k<n) :
  w.cell? ⟨g,k*4,none⟩=some (.int .i64 (pix l k).a)∧w.cell? ⟨g,k*4+1,none⟩=some (.int .i64 (pix l k).b)∧w.cell? ⟨g,k*4+2,none⟩=some (.int .i64 (pix l k).l)∧w.cell? ⟨g,k*4+3,none⟩=some (.int .i64 (pix l k).r):=by
 obtain⟨_,e,_,hc⟩:=h.cells k hk
 cases e
 rw[Addr.add_lit,Nat.zero_add]at hc
 exact hc
theorem bx4 {W:World}{g:Nat}{T:TypeId}{a b c d:Value}(h:Blk W g T #[a,b,c,d]):W.cell? ⟨g,0,none⟩=some a∧W.cell? ⟨g,1,none⟩=some b∧W.cell? ⟨g,2,none⟩=some c∧W.cell? ⟨g,3,none⟩=some d:=⟨h.cell 0,h.cell 1,h.cell 2,h.cell 3⟩
end
section
open Go.RowKit
theorem isNaN_q (w:World) (x:Int):Calls Tryz.prog 132 #[.int .i64 x] w fun e w'=>e=.returned (.bool false)∧w'=w:=by
 go_enter Tryz.func132,Tryz.ntmps132
 go_wp2_with fail
 go_ret
 exact⟨rfl,rfl⟩
theorem Compare_q (w:World) (x y:Int):Calls Tryz.prog 101 #[.int .i64 x,.int .i64 y] w fun e w'=>e=.returned (.int .i64 (cmpZ x y))∧w'=w:=by
 rcases Int.lt_trichotomy x y with h|h|h
 ·have hv:=Lib.hid (show cmpZ x y=-1 by unfold cmpZ;rw[if_pos h])
  have h2:¬y<x:=by omega
  go_enter Tryz.func101,Tryz.ntmps101
  go_wp2_with (go_at_call 132;refine(isNaN_q _ _).mono ?_;rintro e w' ⟨rfl,rfl⟩)
  go_ret
  exact⟨ret_int hv.out.symm,rfl⟩
 ·have hv:=Lib.hid (show cmpZ x y=0 by unfold cmpZ;rw[if_neg (by omega),if_neg (by omega)])
  have h1:¬x<y:=by omega
  have h2:¬y<x:=by omega
  replace h:=Lib.hid h
  go_enter Tryz.func101,Tryz.ntmps101
  go_wp2_with (go_at_call 132;refine(isNaN_q _ _).mono ?_;rintro e w' ⟨rfl,rfl⟩)
  go_ret
  exact⟨ret_int hv.out.symm,rfl⟩
 ·have hv:=Lib.hid (show cmpZ x y=1 by unfold cmpZ;rw[if_neg (by omega),if_pos h])
  have h2:¬x<y:=by omega
  go_enter Tryz.func101,Tryz.ntmps101
  go_wp2_with (go_at_call 132;refine(isNaN_q _ _).mono ?_;rintro e w' ⟨rfl,rfl⟩)
  go_ret
  exact⟨ret_int hv.out.symm,rfl⟩
def orZ (x y:Int):Int:=if x=0 then y else x
theorem Or_q (w:World) {g c:Nat}{x y:Int}(h0:w.cell? ⟨g,0,none⟩=some (.int .i64 x)) (h1:w.cell? ⟨g,1,none⟩=some (.int .i64 y)) :
  Calls Tryz.prog 100 #[.slice (some ⟨g,0,none⟩) 2 c] w fun e w'=>e=.returned (.int .i64 (orZ x y))∧w'=w:=by
 unfold orZ
 by_cases hx:x=0
 ·subst hx
  rw[if_pos rfl]
  by_cases hy:y=0
  ·subst hy
   go_enter Tryz.func100,Tryz.ntmps100
   go_wp2_with fail
   go_loop [8] (fun i=>∃k:Nat,k≤2∧i=.int .i64 (k:Int)) (fun i=>2-(intOf i).toNat)
   case atStart=>exact⟨0,by omega,rfl⟩
   case round=>
    obtain⟨k,hk,rfl⟩:=hrel
    rcases(show k=0∨k=1∨k=2 by omega)with rfl|rfl|rfl
    ·have e0:((0:Nat):Int)=0:=rfl
     rw[e0]
     clear e0 hk
     go_wp2_with fail
     go_round
     case rel=>exact⟨1,by omega,rfl⟩
     case measure=>simp[intOf]
    ·have e0:((1:Nat):Int)=1:=rfl
     rw[e0]
     clear e0 hk
     go_wp2_with fail
     go_round
     case rel=>exact⟨2,by omega,rfl⟩
     case measure=>simp[intOf]
    ·have e0:((2:Nat):Int)=2:=rfl
     rw[e0]
     clear e0 hk
     go_wp2_with fail
     go_ret
     exact⟨rfl,rfl⟩
  ·have hd:decide (y=0)=false:=decide_eq_false hy
   go_enter Tryz.func100,Tryz.ntmps100
   go_wp2_with fail
   go_loop [8] (fun i=>∃k:Nat,k≤1∧i=.int .i64 (k:Int)) (fun i=>2-(intOf i).toNat)
   case atStart=>exact⟨0,by omega,rfl⟩
   case round=>
    obtain⟨k,hk,rfl⟩:=hrel
    rcases(show k=0∨k=1 by omega)with rfl|rfl
    ·have e0:((0:Nat):Int)=0:=rfl
     rw[e0]
     clear e0 hk
     go_wp2_with fail
     go_round
     case rel=>exact⟨1,by omega,rfl⟩
     case measure=>simp[intOf]
    ·have e0:((1:Nat):Int)=1:=rfl
     rw[e0]
     clear e0 hk
     go_wp2_with fail
     go_ret
     exact⟨rfl,rfl⟩
 ·rw[if_neg hx]
  have hd:decide (x=0)=false:=decide_eq_false hx
  go_enter Tryz.func100,Tryz.ntmps100
  go_wp2_with fail
  go_loop [8] (fun i=>i=.int .i64 0) (fun i=>2-(intOf i).toNat)
  case atStart=>rfl
  case round=>
   subst hrel
   go_wp2_with fail
   go_ret
   exact⟨rfl,rfl⟩
theorem compareEdges_any (w:World) (x y:EdD) :
  Calls Tryz.prog 72 #[.agg #[.int .i64 x.a,.int .i64 x.b,.int .i64 x.l,.int .i64 x.r],.agg #[.int .i64 y.a,.int .i64 y.b,.int .i64 y.l,.int .i64 y.r]] w fun e w'=>e=.returned (.int .i64 (cmpE x y))∧Bl w w':=by
 go_enter Tryz.func72,Tryz.ntmps72
 go_wp2_with fail
 refine wp_gen (fun W=>Bl w W∧Blk W w.heap.size 114 #[.int .i64 x.a,.int .i64 x.b,.int .i64 x.l,.int .i64 x.r]∧Blk W (w.heap.size+1) 114 #[.int .i64 y.a,.int .i64 y.b,.int .i64 y.l,.int .i64 y.r]) ⟨slc,bts,bts⟩ ?_
 rintro W ⟨hbW,h1,h2⟩
 go_region_held3 (fun w'=>(w'.cell? ⟨w.heap.size,0,none⟩=some (.int .i64 x.a)∧w'.cell? ⟨w.heap.size,1,none⟩=some (.int .i64 x.b)∧w'.cell? ⟨w.heap.size,2,none⟩=some (.int .i64 x.l)∧w'.cell? ⟨w.heap.size,3,none⟩=some (.int .i64 x.r))∧(w'.cell? ⟨(w.heap.size+1),0,none⟩=some (.int .i64 y.a)∧w'.cell? ⟨(w.heap.size+1),1,none⟩=some (.int .i64 y.b)∧w'.cell? ⟨(w.heap.size+1),2,none⟩=some (.int .i64 y.l)∧w'.cell? ⟨(w.heap.size+1),3,none⟩=some (.int .i64 y.r))) (first|exact⟨bx4 (T:=114) (h1.bl slc),bx4 (T:=114) (h2.bl slc)⟩) (first |(go_at_call 101;(with_reducible refine(Compare_q _ x.a y.a).mono ?_);rintro e w1 ⟨rfl,rfl⟩) |(go_at_call 101;(with_reducible refine(Compare_q _ x.b y.b).mono ?_);rintro e w1 ⟨rfl,rfl⟩) |(go_at_call 100;(refine(Or_q (x:=cmpZ x.a y.a) (y:=cmpZ x.b y.b) _ (by exact((Blk.new _ _ _).cell 0).trans rfl) (by exact((Blk.new _ _ _).cell 1).trans rfl)).mono ?_);rintro e w1 ⟨rfl,rfl⟩))
 go_wp2_with fail
 go_ret
 exact⟨ret_int rfl,slc⟩
end
section
open Go.RowKit
theorem lowE {l:List EdD}{x:EdD}{m:Nat}(hs:SrtE l) (hm:m<l.length) (hc:ltE (pix l m) x=true):∀k,k<m+1→ltE (pix l k) x=true:=by
 intro k hk
 rcases Nat.lt_succ_iff_lt_or_eq.1 hk with hk|rfl
 ·exact ltE_trans (hs k m hk hm) hc
 ·exact hc
theorem highE {l:List EdD}{x:EdD}{m:Nat}(hs:SrtE l) (hc:ltE (pix l m) x=false):∀k,m≤k→k<l.length→ltE (pix l k) x=false:=by
 intro k hk hkl
 rcases Nat.lt_or_eq_of_le hk with hk|rfl
 ·rw[Bool.eq_false_iff]at hc ⊢
  exact fun e=>hc (ltE_trans (hs m k hk hkl) e)
 ·exact hc
theorem cmpE_lt {x y:EdD}:(cmpE x y<0)↔ltE x y=true:=by unfold ltE;rw[decide_eq_true_iff]
theorem BSearch_any (w:World) {g n c:Nat}{l:List EdD}(h:RdES w (some ⟨g,0,none⟩) n c l) (hs:SrtE l) (x:EdD) (hn:n≤1048576) :
  Calls Tryz.prog 71 #[.slice (some ⟨g,0,none⟩) n c,.agg #[.int .i64 x.a,.int .i64 x.b,.int .i64 x.l,.int .i64 x.r],.func (.func 72) #[] #[]] w fun e w'=>e=.returned (.tuple #[.int .i64 (posE x l:Int),.bool (fndE x l)])∧Bl w w':=by
 have hl:=Lib.hid h.len
 replace hs:=Lib.hid hs
 go_enter Tryz.func71,Tryz.ntmps71
 go_wp2_with fail
 refine wp_gen (fun W=>Bl w W∧Blk W w.heap.size 114 #[.int .i64 x.a,.int .i64 x.b,.int .i64 x.l,.int .i64 x.r]) ⟨slc,bts⟩ ?_
 rintro W ⟨hbW,hX⟩
 go_loopw [9,10] (fun a b wr=>∃i j:Nat,i≤j∧j≤n∧a=.int .i64 (i:Int)∧b=.int .i64 (j:Int)∧Hid (∀k,k<i→ltE (pix l k) x=true)∧Hid (∀k,j≤k→k<n→ltE (pix l k) x=false)∧Bl W wr) (fun a b _=>(intOf b).toNat-(intOf a).toNat)
 case atStart=>exact⟨0,n,by omega,by omega,rfl,rfl,Lib.hid (fun k hk=>by omega),Lib.hid (fun k h1 h2=>by omega),Bl.refl _⟩
 case round=>
  obtain⟨i,j,hij,hj,rfl,rfl,hA,hZ,hbw⟩:=hrel
  obtain⟨wo,rfl⟩:∃wo:World,wo=wr:=⟨_,rfl⟩
  have hX:=hX.bl hbw
  have hXl:=hX.lt
  obtain⟨u0,u1,u2,u3⟩:=bx4 hX
  by_cases hlt:i<j
  ·have hli:(i:Int)<(j:Int):=by omega
   obtain⟨m,hm⟩:∃m:Nat,(i+j) / 2=m:=⟨_,rfl⟩
   have hm1:i≤m:=by omega
   have hm2:m<j:=by omega
   have hmi0:(0:Int)≤(m:Int):=by omega
   have hmi1:(m:Int)<(n:Int):=by omega
   have hm3:((i:Int)+(j:Int)) / 2=(m:Int):=by omega
   replace hm:=Lib.hid hm
   obtain⟨y0,y1,y2,y3⟩:=eds_lit (RdES.bl h (hbW.next hbw)) (show m<n by omega)
   go_wp2_with fail
   clear y0 y1 y2 y3 u0 u1 u2 u3
   by_cases hc:ltE (pix l m) x=true
   ·have hd:decide (cmpE (pix l m) x<0)=true:=decide_eq_true (cmpE_lt.2 hc)
    have hA2:=Lib.hid (lowE hs.out (by rw[hl.out];omega) hc)
    replace hc:=Lib.hid hc
    go_region_held3 (fun w'=>(w'.cell? ⟨g,m*4,none⟩=some (.int .i64 (pix l m).a)∧w'.cell? ⟨g,m*4+1,none⟩=some (.int .i64 (pix l m).b)∧w'.cell? ⟨g,m*4+2,none⟩=some (.int .i64 (pix l m).l)∧w'.cell? ⟨g,m*4+3,none⟩=some (.int .i64 (pix l m).r))∧(w'.cell? ⟨w.heap.size,0,none⟩=some (.int .i64 x.a)∧w'.cell? ⟨w.heap.size,1,none⟩=some (.int .i64 x.b)∧w'.cell? ⟨w.heap.size,2,none⟩=some (.int .i64 x.l)∧w'.cell? ⟨w.heap.size,3,none⟩=some (.int .i64 x.r))) (first|exact⟨eds_lit (RdES.bl h ((hbW.next hbw).next slc)) (show m<n by omega),bx4 (T:=114) (hX.bl slc)⟩) ((go_at_call 72;(with_reducible refine(compareEdges_any _ (pix l m) x).mono ?_);rintro e w2 ⟨rfl,hb2⟩))
    have hb3:Bl wo w2:=slc
    go_wp2_with fail
    go_roundw
    case rel=>exact⟨m+1,j,by omega,hj,by go_num,rfl,hA2,hZ,hbw.next hb3⟩
    case measure=>simp[intOf];omega
   ·have hd:decide (cmpE (pix l m) x<0)=false:=decide_eq_false (fun h=>hc (cmpE_lt.1 h))
    have hZ2:=Lib.hid (fun k (h1:m≤k) (h2:k<n)=>highE hs.out (Bool.eq_false_iff.2 hc) k h1 (by rw[hl.out];exact h2))
    replace hc:=Lib.hid hc
    go_region_held3 (fun w'=>(w'.cell? ⟨g,m*4,none⟩=some (.int .i64 (pix l m).a)∧w'.cell? ⟨g,m*4+1,none⟩=some (.int .i64 (pix l m).b)∧w'.cell? ⟨g,m*4+2,none⟩=some (.int .i64 (pix l m).l)∧w'.cell? ⟨g,m*4+3,none⟩=some (.int .i64 (pix l m).r))∧(w'.cell? ⟨w.heap.size,0,none⟩=some (.int .i64 x.a)∧w'.cell? ⟨w.heap.size,1,none⟩=some (.int .i64 x.b)∧w'.cell? ⟨w.heap.size,2,none⟩=some (.int .i64 x.l)∧w'.cell? ⟨w.heap.size,3,none⟩=some (.int .i64 x.r))) (first|exact⟨eds_lit (RdES.bl h ((hbW.next hbw).next slc)) (show m<n by omega),bx4 (T:=114) (hX.bl slc)⟩) ((go_at_call 72;(with_reducible refine(compareEdges_any _ (pix l m) x).mono ?_);rintro e w2 ⟨rfl,hb2⟩))
    have hb3:Bl wo w2:=slc
    go_wp2_with fail
    go_roundw
    case rel=>exact⟨i,m,by omega,by omega,rfl,rfl,hA,hZ2,hbw.next hb3⟩
    case measure=>simp[intOf];omega
  ·obtain rfl:i=j:=by omega
   have hkm2:¬(i:Int)<(i:Int):=by omega
   have hpos:i=posE x l:=posE_of hs.out (by rw[hl.out];exact hj) hA.out (fun k h1 h2=>hZ.out k h1 (by rw[hl.out]at h2;exact h2))
   by_cases hin:i<n
   ·have hii:(i:Int)<(n:Int):=by omega
    have hfe:fndE x l=decide (cmpE (pix l i) x=0):=by unfold fndE;rw[←hpos,hl.out,decide_eq_true hin,Bool.true_and]
    replace hpos:=Lib.hid hpos
    replace hfe:=Lib.hid hfe
    go_wp2_with fail
    clear u0 u1 u2 u3
    go_region_held3 (fun w'=>(w'.cell? ⟨g,i*4,none⟩=some (.int .i64 (pix l i).a)∧w'.cell? ⟨g,i*4+1,none⟩=some (.int .i64 (pix l i).b)∧w'.cell? ⟨g,i*4+2,none⟩=some (.int .i64 (pix l i).l)∧w'.cell? ⟨g,i*4+3,none⟩=some (.int .i64 (pix l i).r))∧(w'.cell? ⟨w.heap.size,0,none⟩=some (.int .i64 x.a)∧w'.cell? ⟨w.heap.size,1,none⟩=some (.int .i64 x.b)∧w'.cell? ⟨w.heap.size,2,none⟩=some (.int .i64 x.l)∧w'.cell? ⟨w.heap.size,3,none⟩=some (.int .i64 x.r))) (first|exact⟨eds_lit (RdES.bl h ((hbW.next hbw).next slc)) (show i<n by omega),bx4 (T:=114) (hX.bl slc)⟩) ((go_at_call 72;(with_reducible refine(compareEdges_any _ (pix l i) x).mono ?_);rintro e w2 ⟨rfl,hb2⟩))
    have hb3:Bl wo w2:=slc
    go_wp2_with fail
    go_ret2
    exact⟨by rw[←hpos.out,hfe.out];rfl,by exact slc⟩
   ·have hii:¬(i:Int)<(n:Int):=by omega
    have hfe:fndE x l=false:=by unfold fndE;rw[←hpos,hl.out,decide_eq_false hin,Bool.false_and]
    replace hpos:=Lib.hid hpos
    replace hfe:=Lib.hid hfe
    go_wp2_with fail
    go_quiet (fail)
    go_wp2_with fail
    go_ret2
    exact⟨by rw[←hpos.out,hfe.out];rfl,by exact slc⟩
end
end Go.Proofs.YtmkcacgmnnlddaaGreat
