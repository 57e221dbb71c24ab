import Derived.Test.YtmkcacgmnnlddaaGreatRows
import Derived.Test.YtmkcacgmnnlddaaGreatPClosureM12
namespace Go.Proofs.YtmkcacgmnnlddaaGreat
section
open Go.RowKit
theorem step_append_rowX {P:Program}{α:Type} [Inhabited α] {N:List Nat→Prop}(hN:AppN N) {size bytes:Nat}{El:World→Array Value→Nat→α→List Nat→Prop}(hk:KeepE size El) {TP t:TypeId}{z:Value}
  (hinfo:(P.info? TP).map (fun i=>(i.zero,i.size,i.bytes))=some (some z,size,bytes)) (hzs:z.cells.size=size) (hsz:0<size) (hby:bytes≤4096) (ht:P.underlying t=some (.slice TP))
  {W:World}{news:Array Value}{p:α}{bs:List Nat}{lo hi:Nat}{l:List α}{ops:Array Oper}{o:Oper}{a:Act}{K:Act→World→Prop}{Q:Exit→Act→World→Prop}{F:Prop}(hgd:o.guard=none) (s x:Operand)
  (ho:o.op=.call { callee:=.builtin .append,args:=#[s,x],argTypes:=#[t,t] }) (v:Value) (hs:a.eval s=v) (hrow:RowG N TP size El lo hi W v l)
  (hel:El W news 0 p bs) (hnl:news.size=size) (h1:∀u∈news.toList,u.oneCell'=true) (hbs:∀b∈bs,hi≤b∧b<W.heap.size) (hNb:N bs) (hlh:lo≤hi)
  (c:Nat) (hx:a.eval x=.slice (some ⟨W.heap.size,0,none⟩) 1 c) (hlen:l.length≤1048576) (w0:World) (hb:Bl w0 W) (h0:w0.heap.size≤lo)
  (h:∀v' w',RowG N TP size El lo w'.heap.size w' v' (l++[p])→Bl w0 w'→(v'=.slice none 0 0→False)→(∀g,g<W.heap.size→v.ownBlock≠some g→w'.heap[g]?=W.heap[g]?∧v'.ownBlock≠some g)→K (a.put o.dst v') w'):if Region.wanted o (yielded ops a.tmps)=true then Oper.wp P o a (W.alloc (.cells news TP)) K Q else F:=by
 have hw:Region.wanted o (yielded ops a.tmps)=true:=by simp[Region.wanted,hgd]
 rw[if_pos hw]
 obtain⟨i0,hi0,hz0,hz1,hz2⟩:=info_parts hinfo
 obtain⟨cells,fs,r1,r2,r3,r4,r5,r6,r7⟩:=hrow
 have ro:=World.ownsRow.alloc r1 (.cells news TP)
 have hnew:(W.alloc (.cells news TP)).heap[W.heap.size]?=some (.cells news TP (0,0)):=heap_alloc_new W _
 have hsz2:(W.alloc (.cells news TP)).heap.size=W.heap.size+1:=by simp
 have hm:(l.length+1)*bytes≤140737488355328:=Nat.le_trans (Nat.mul_le_mul (show l.length+1≤1048577 by omega) hby) (by omega)
 obtain⟨v',w',hrun,g1,g2,g3,g4⟩:=run_append_own_at (P:=P) (W.alloc (.cells news TP)) lo t o.type TP i0 z size bytes ht hi0 hz0 hz1 hz2 hzs hsz v l.length cells ro ⟨W.heap.size,0,none⟩ 1 c news.toList (by simpa using hnl) (World.news_of_block hnew) h1 (by unfold maxLen;omega) hm (by omega)
 unfold Oper.wp execOp
 simp only[ho,resolve,invoke,builtin,Sem.run_bind,Sem.run_pure,Result.andThen_ok,List.map_toArray,List.map_cons,List.map_nil,hs,hx,hrun]
 have hne:v'≠.slice none 0 0:=fun e=>by have:=(g3.1 e).2;omega
 have hws:=g2.size
 have hold:∀b,b<W.heap.size→v.ownBlock≠some b→w'.heap[b]?=W.heap[b]?:=fun b hb1 hb2=>(g2.block b (by omega) (fun e=>hb2 e.symm)).trans (Below.heap_alloc W _ b hb1)
 have hown:∀ b,v'.ownBlock=some b→(v.ownBlock=some b∨b=W.heap.size+1):=by
  intro b e
  rcases g4 with g4|g4
  ·exact .inl (by rw[←g4];exact e)
  ·rw[g4]at e;injection e with e;right;omega
 have hvl:∀b,v'.ownBlock=some b→lo≤b∧b<w'.heap.size:=fun b e=>by have:=World.ownsRow.lt g1 b e;exact this
 refine h v' w' ⟨cells++news.toList,fs++[bs],by simpa using g1,fun g e=>(hvl g e).2,by simp[r3],fun i hi'=>?_,fun b hm'=>?_,?_,Nat.le_refl _⟩ ((hb.alloc _).grown g2 (fun k e=>by have:=(World.ownsRow.lt r1 k e).1;omega)) hne (fun g hg hn=>⟨hold g hg hn,fun e=>by rcases hown g e with e|e;exact hn e;omega⟩)
 ·have hcl:=r1.1
  rw[List.length_append,List.length_singleton]at hi'
  rcases Nat.lt_succ_iff_lt_or_eq.1 hi' with hi'|rfl
  ·rw[pix_append_left hi',pix_append_left (by rw[r3];exact hi')]
   refine hk _ _ _ _ _ _ _ _ (r4 i hi') (fun j hj=>?_) (by omega) fun b hb'=>?_
   ·have:i * size+j < cells.length:=by
     rw[hcl]
     have:(i+1)*size≤l.length*size:=Nat.mul_le_mul_right _ hi'
     rw[Nat.succ_mul]at this
     omega
    simp[List.getElem?_append_left this]
   ·have:=r5 b (mem_flatten_pix hb')
    exact hold b (by omega) this.2.2
  ·rw[pix_append_last,pixs_last r3]
   refine hk _ _ _ _ _ _ _ _ hel (fun j hj=>?_) (by omega) fun b hb'=>?_
   ·have:(cells ++ news.toList)[l.length * size+j]?=news.toList[j]?:=by
     rw[List.getElem?_append_right (by rw[hcl];omega),hcl]
     congr 1;omega
    simpa using this
   ·have:=hbs b hb'
    exact hold b this.2 fun e=>by have:=r2 b e;omega
 ·rw[List.flatten_append,List.mem_append]at hm'
  rcases hm' with hm'|hm'
  ·have:=r5 b hm'
   refine⟨this.1,by omega,fun e=>?_⟩
   rcases hown b e with e|e
   ·exact this.2.2 e
   ·omega
  ·have:=hbs b (by simpa using hm')
   refine⟨by omega,by omega,fun e=>?_⟩
   rcases hown b e with e|e
   ·have:=r2 b e;omega
   ·omega
 ·rw[List.flatten_append]
  refine hN.2 _ _ r6 (by simpa using hNb) fun x hx' y hy e=>?_
  have a1:=r5 x hx'
  have a2:=hbs y (by simpa using hy)
  omega
theorem step_append_ptX {N:List Nat→Prop}(hN:AppN N) {W:World}{s:Bool}{A:Option Addr}{n c:Nat}{B:Option Addr}{m d:Nat}{t:Bool}{C:Option Addr}{i e:Nat}{D:Option Addr}{j f:Nat}{p:PtD}{lo hi b0:Nat}{l:List PtD}{ops:Array Oper}{o:Oper}{a:Act}{K:Act→World→Prop}{Q:Exit→Act→World→Prop}{F:Prop}(hgd:o.guard=none) (s1 x1:Operand)
  (ho:o.op=.call { callee:=.builtin .append,args:=#[s1,x1],argTypes:=#[23,23] }) (v:Value) (hs:a.eval s1=v) (hrow:RowP N lo hi W v l)
  (hpt:OwPN N 3 b0 W s A n c B m d t C i e D j f p) (hb0:hi≤b0) (hlh:lo≤hi) (c1:Nat) (hx:a.eval x1=.slice (some ⟨W.heap.size,0,none⟩) 1 c1) (hlen:l.length≤1048576) (w0:World) (hb:Bl w0 W) (h0:w0.heap.size≤lo)
  (h:∀v' w',RowP N lo w'.heap.size w' v' (l++[p])→Bl w0 w'→(∀g,g<W.heap.size→v.ownBlock≠some g→w'.heap[g]?=W.heap[g]?∧v'.ownBlock≠some g)→K (a.put o.dst v') w'):if Region.wanted o (yielded ops a.tmps)=true then Oper.wp Tryz.prog o a (W.alloc (.cells #[.bool s,.slice A n c,.slice B m d,.bool t,.slice C i e,.slice D j f] 56)) K Q else F:=by
 obtain⟨b1,b2,f1,f2,f3,f4⟩:=hpt
 refine step_append_rowX hN (ptIn_keep 3) info_pt (by rfl) (by omega) (by omega) Tryz.underlying23 hgd s1 x1 ho v hs hrow (p:=p) (bs:=b1++b2) ⟨_,_,_,_,_,_,_,_,_,_,_,_,_,_,b1,b2,⟨rfl,rfl,rfl,rfl,rfl,rfl⟩,f1,f2,rfl⟩ rfl (by simp[Value.oneCell']) (fun b hm=>⟨Nat.le_trans hb0 (f3 b hm).1,(f3 b hm).2⟩) f4 hlh c1 hx hlen w0 hb h0 fun v' w' g1 g2 _ g4=>h v' w' g1 g2 g4
def TrsE (_:World) (cs:Array Value) (i:Nat) (t:TriD) (bs:List Nat):Prop:=TrIn cs i t∧bs=[]
theorem trIn_keep:KeepE 5 TrsE:=by
 intro w W cs cs' i i' x bs h hc hs hb
 obtain⟨⟨h0,h1,h2,h3,h4⟩,e⟩:=h
 exact⟨⟨(hc 0 (by omega)).trans h0,(hc 1 (by omega)).trans h1,(hc 2 (by omega)).trans h2,(hc 3 (by omega)).trans h3,(hc 4 (by omega)).trans h4⟩,e⟩
abbrev RowT (lo hi:Nat) (w:World) (v:Value) (l:List TriD):Prop:=RowG AnyN 58 5 TrsE lo hi w v l
theorem info_tri':(Tryz.prog.info? 58).map (fun i=>(i.zero,i.size,i.bytes))=some (some (.agg #[.int .i64 0,.int .i64 0,.int .i64 0,.int .i64 0,.int .i64 0]),5,40):=by kernel_rfl
theorem RowG.ne {α:Type} [Inhabited α] {N:List Nat→Prop}{TP:TypeId}{size lo hi:Nat}{El:World→Array Value→Nat→α→List Nat→Prop}{w:World}{v:Value}{l:List α}(h:RowG N TP size El lo hi w v l) {g:Nat}(hg:hi≤g):v.ownBlock≠Option.some g:=by
 obtain⟨_,_,_,h2,_⟩:=h
 intro e
 have:=h2 g e
 omega
theorem Blk.oth {g:Nat}{T:TypeId}{cs:Array Value}{v v':Value}{W w':World}(h:Blk W g T cs) (ho:∀g,g<W.heap.size→v.ownBlock≠Option.some g→w'.heap[g]?=W.heap[g]?∧v'.ownBlock≠Option.some g) (hv:v.ownBlock≠Option.some g):Blk w' g T cs :=
 (ho g h.lt hv).1.trans h
end
end Go.Proofs.YtmkcacgmnnlddaaGreat
