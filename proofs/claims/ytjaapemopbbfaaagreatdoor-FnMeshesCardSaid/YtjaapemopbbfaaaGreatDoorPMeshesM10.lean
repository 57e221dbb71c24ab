import Derived.Test.YtjaapemopbbfaaaGreatDoorPMeshesM09
namespace Go.Proofs.YtjaapemopbbfaaaGreatDoor
open Go.RowKit
set_option maxRecDepth 100000
set_option maxHeartbeats 8000000
theorem qd1 {w W:World}{a b c a' b' c':Value}{T:TypeId}(h:Bl (w.alloc (.cells #[a,b,c,a',b',c'] T)) W) :
  W.cell? ⟨w.heap.size,0,none⟩=some a/\W.cell? ⟨w.heap.size,1,none⟩=some b/\W.cell? ⟨w.heap.size,2,none⟩=some c/\W.cell? ⟨w.heap.size,3,none⟩=some a'/\W.cell? ⟨w.heap.size,4,none⟩=some b'/\W.cell? ⟨w.heap.size,5,none⟩=some c':=by
 refine⟨?_,?_,?_,?_,?_,?_⟩ <;> (rw[h.qeV (by simp)];simp[go_sem])
def Wr6 (T:TypeId) (g:Nat) (W:World):Prop:=∃cs,Blk W g T cs/\cs.size=6
theorem Wr6.bl {T:TypeId}{g:Nat}{w W:World}(h:Wr6 T g w) (hb:Bl w W):Wr6 T g W:=by
 obtain⟨cs,h1,h2⟩:=h
 exact⟨cs,h1.bl hb,h2⟩
theorem Wr6.set {T:TypeId}{g:Nat}{w:World}(h:Wr6 T g w) (i:Nat) (u:Value):Wr6 T g (w.setCell ⟨g,i,none⟩ u):=by
 obtain⟨cs,h1,h2⟩:=h
 exact⟨_,h1.set_ i u,by simp[h2]⟩
theorem Wr6.new2 (T:TypeId) (w:World) (o:Obj) (a b c a' b' c':Value):Wr6 T (w.heap.size+1) ((w.alloc o).alloc (.cells #[a,b,c,a',b',c'] T)):=by
 have:Wr6 T (w.alloc o).heap.size ((w.alloc o).alloc (.cells #[a,b,c,a',b',c'] T)):=⟨_,Blk.new _ _ _,rfl⟩
 rwa [World.size_alloc]at this
theorem Wr6.drew {T:TypeId}{g:Nat}{w:World}(h:Wr6 T g w):Wr6 T g w.drew:=h
theorem Wr6.out {T:TypeId}{g:Nat}{w:World}(h:Wr6 T g w):(w.cell? ⟨g,0,none⟩=some (qh w g 0)/\w.cell? ⟨g,1,none⟩=some (qh w g 1)/\w.cell? ⟨g,2,none⟩=some (qh w g 2)/\w.cell? ⟨g,3,none⟩=some (qh w g 3)/\w.cell? ⟨g,4,none⟩=some (qh w g 4)/\w.cell? ⟨g,5,none⟩=some (qh w g 5)) /\
  w.frozen? ⟨g,0,none⟩=false/\w.frozen? ⟨g,1,none⟩=false/\w.frozen? ⟨g,2,none⟩=false/\w.frozen? ⟨g,3,none⟩=false/\w.frozen? ⟨g,4,none⟩=false/\w.frozen? ⟨g,5,none⟩=false:=by
 obtain⟨cs,h1,h2⟩:=h
 exact⟨⟨qU (h1.some (by omega)),qU (h1.some (by omega)),qU (h1.some (by omega)),qU (h1.some (by omega)),qU (h1.some (by omega)),qU (h1.some (by omega))⟩,h1.frozen 0,h1.frozen 1,h1.frozen 2,h1.frozen 3,h1.frozen 4,h1.frozen 5⟩
def OwP (T:TypeId) (b0:Nat) (w:World) (s:Bool) (A:Option Addr) (n c:Nat) (B:Option Addr) (m d:Nat) (t:Bool) (C:Option Addr) (i e:Nat) (D:Option Addr) (j f:Nat) (p:PtD):Prop :=
 ∃b1 b2,FtR T w s A n c B m d p.x b1/\FtR T w t C i e D j f p.y b2/\Fp b0 w.heap.size (b1++b2)
section
variable {T:TypeId}{b0 b1:Nat}{w w1 W:World}{s:Bool}{A:Option Addr}{n c:Nat}{B:Option Addr}{m d:Nat}{t:Bool}{C:Option Addr}{i e:Nat}{D:Option Addr}{j f:Nat}{p:PtD}
theorem OwP.two (h:OwR T b0 w1 s A n c B m d p.x) (k:OwR T w1.heap.size w t C i e D j f p.y) (hb:Bl w1 w) (h0:b0<=w1.heap.size):OwP T b0 w s A n c B m d t C i e D j f p:=by
 obtain⟨c1,h1,f1⟩:=h
 obtain⟨c2,h2,f2⟩:=k
 exact⟨c1,c2,h1.bl hb,h2,f1.app f2 (Nat.le_refl _) h0 hb.size⟩
theorem OwP.far (h:OwP T b0 w s A n c B m d t C i e D j f p) {q:Addr}(hp:q.block<b0) (u:Value):OwP T b0 (w.setCell q u) s A n c B m d t C i e D j f p:=by
 obtain⟨c1,c2,h1,h2,hf⟩:=h
 exact⟨c1,c2,h1.keep (by simp) (λb hb=>Below.heap_setCell w q u b (by have:=(hf.2 b (by simp[hb])).1;omega)),h2.keep (by simp) (λb hb=>Below.heap_setCell w q u b (by have:=(hf.2 b (by simp[hb])).1;omega)),hf.mono (Nat.le_refl _) (by simp)⟩
theorem OwP.low (h:OwP T b1 w s A n c B m d t C i e D j f p) (hb:b0<=b1):OwP T b0 w s A n c B m d t C i e D j f p:=by
 obtain⟨c1,c2,h1,h2,hf⟩:=h
 exact⟨c1,c2,h1,h2,hf.mono hb (Nat.le_refl _)⟩
end
theorem Qg (w:World) {s:Bool}{A:Option Addr}{n c:Nat}{B:Option Addr}{m d:Nat}{t:Bool}{C:Option Addr}{i e:Nat}{D:Option Addr}{j f:Nat}{p:PtD}(h:RdR w s A n c B m d p.x) (k:RdR w t C i e D j f p.y) (hn:n<=1048576) (hm:m<=1048576) (hi:i<=1048576) (hj:j<=1048576) :
  Calls Tryz.prog 131 #[.agg #[.bool s,.slice A n c,.slice B m d,.bool t,.slice C i e,.slice D j f]] w λen w'=>∃A' n' c' B' m' d' C' i' e' D' j' f',en=.returned (.agg #[.bool s,.slice A' n' c',.slice B' m' d',.bool t,.slice C' i' e',.slice D' j' f'])/\OwP 3 w.heap.size w' s A' n' c' B' m' d' t C' i' e' D' j' f' p/\Bl w w':=by
 go_enter Tryz.func131,Tryz.ntmps131
 go_wp2_with fail
 go_region_held3 (λw'=>(w'.cell? ⟨w.heap.size,0,none⟩=some (.bool s)/\w'.cell? ⟨w.heap.size,1,none⟩=some (.slice A n c)/\w'.cell? ⟨w.heap.size,2,none⟩=some (.slice B m d)/\w'.cell? ⟨w.heap.size,3,none⟩=some (.bool t)/\w'.cell? ⟨w.heap.size,4,none⟩=some (.slice C i e)/\w'.cell? ⟨w.heap.size,5,none⟩=some (.slice D j f))/\(w'.cell? ⟨w.heap.size+1,0,none⟩=some (qh w' (w.heap.size+1) 0)/\w'.cell? ⟨w.heap.size+1,1,none⟩=some (qh w' (w.heap.size+1) 1)/\w'.cell? ⟨w.heap.size+1,2,none⟩=some (qh w' (w.heap.size+1) 2)/\w'.cell? ⟨w.heap.size+1,3,none⟩=some (qh w' (w.heap.size+1) 3)/\w'.cell? ⟨w.heap.size+1,4,none⟩=some (qh w' (w.heap.size+1) 4)/\w'.cell? ⟨w.heap.size+1,5,none⟩=some (qh w' (w.heap.size+1) 5))/\w'.frozen? ⟨w.heap.size+1,0,none⟩=false/\w'.frozen? ⟨w.heap.size+1,1,none⟩=false/\w'.frozen? ⟨w.heap.size+1,2,none⟩=false/\w'.frozen? ⟨w.heap.size+1,3,none⟩=false/\w'.frozen? ⟨w.heap.size+1,4,none⟩=false/\w'.frozen? ⟨w.heap.size+1,5,none⟩=false) (first|exact⟨qd1 slc,Wr6.out (T:=28) (by repeat (first|with_reducible exact Wr6.new2 _ _ _ _ _ _ _ _ _ |(with_reducible refine Wr6.drew ?_) |(with_reducible refine Wr6.set ?_ _ _) |(with_reducible refine Wr6.bl ?_ ‹Bl _ _›)))⟩) (first |(go_at_call 49;with_reducible refine(Yd _ (h.bl slc) hn hm).mono ?_;rintro en w3 ⟨A1,k1,c1,A2,k2,c2,rfl,hO1,hb3⟩) |(go_at_call 49;with_reducible refine(Yd _ (k.bl slc) hi hj).mono ?_;rintro en w4 ⟨A3,k3,c3,A4,k4,c4,rfl,hO2,hb4⟩))
 have hb1:Bl w w4:=slc
 have hz3:=hb3.size
 have hz4:=hb4.size
 have hsz:w.heap.size+2<=((w.alloc (.cells #[.bool s,.slice A n c,.slice B m d,.bool t,.slice C i e,.slice D j f] 28)).alloc (.cells #[.bool false,.slice none 0 0,.slice none 0 0,.bool false,.slice none 0 0,.slice none 0 0] 28)).heap.size:=by simp
 have hR:OwP 3 (w.heap.size+2) w4 s A1 k1 c1 A2 k2 c2 t A3 k3 c3 A4 k4 c4 p:=(OwP.two hO1 hO2 hb4 hz3).low hsz
 have hg:w.heap.size+1<w4.heap.size:=Nat.lt_of_lt_of_le (show w.heap.size+1<w.heap.size+2 by omega) (Nat.le_trans hsz (Nat.le_trans hz3 hz4))
 obtain⟨cs3,hB3,hcs3⟩:Wr6 28 (w.heap.size+1) w4:=((Wr6.new2 28 w _ _ _ _ _ _ _).drew.bl hb3).bl hb4
 obtain⟨v0,x0⟩:=hB3.some (i:=0) (by omega)
 obtain⟨v1,x1⟩:=hB3.some (i:=1) (by omega)
 obtain⟨v2,x2⟩:=hB3.some (i:=2) (by omega)
 obtain⟨v3,x3⟩:=hB3.some (i:=3) (by omega)
 obtain⟨v4,x4⟩:=hB3.some (i:=4) (by omega)
 obtain⟨v5,x5⟩:=hB3.some (i:=5) (by omega)
 go_wp2_with fail
 refine bodyPost_ret (v:=.agg #[.bool s,.slice A1 k1 c1,.slice A2 k2 c2,.bool t,.slice A3 k3 c3,.slice A4 k4 c4]) (by simp[results,Tryz.results131,go_sem,x0,x1,x2,x3,x4,x5]) rfl ⟨_,_,_,_,_,_,_,_,_,_,_,_,rfl,((((((hR.far (by simp) _).far (by simp) _).far (by simp) _).far (by simp) _).far (by simp) _).far (by simp) _).low (by omega),slc⟩
def JD {α:Type}(size:Nat) (El:World->Array Value->Nat->α->List Nat->Prop):Prop :=
 ∀(w W:World) (cs cs':Array Value) (i i':Nat) (x:α) (bs:List Nat),El w cs i x bs->(∀j,j<size->cs'[i'+j]?=cs[i+j]?)->w.heap.size<=W.heap.size->(∀b∈bs,W.heap[b]?=w.heap[b]?)->El W cs' i' x bs
def uP (N:List Nat->Prop):Prop:=N []/\∀a b,N a->N b->(∀x∈a,∀y∈b,x≠y)->N (a++b)
theorem ye:uP List.Nodup:=⟨List.nodup_nil,λ_ _ h k d=>List.nodup_append.2 ⟨h,k,d⟩⟩
def YQ (_:List Nat):Prop:=True
theorem yr:uP YQ:=⟨trivial,λ_ _ _ _ _=>trivial⟩
def qO {α:Type} [Inhabited α] (N:List Nat->Prop) (TP:TypeId) (size:Nat) (El:World->Array Value->Nat->α->List Nat->Prop) (lo hi:Nat) (w:World) (v:Value) (l:List α):Prop :=
 ∃ cells fs, w.ownsRow lo TP size v l.length cells /\ (∀ g, v.ownBlock = some g -> g < hi) /\ fs.length = l.length /\ (∀ i, i < l.length -> El w cells.toArray (i * size) (pix l i) (pix fs i)) /\
  (∀b∈fs.flatten,lo<=b/\b<hi/\v.ownBlock≠some b)/\N fs.flatten/\hi<=w.heap.size
section
variable {α:Type} [Inhabited α] {N:List Nat->Prop}{TP:TypeId}{size lo hi:Nat}{El:World->Array Value->Nat->α->List Nat->Prop}{w W:World}{v:Value}{l:List α}
theorem qO.nil (hN:uP N) (w:World) (h2:hi<=w.heap.size):qO N TP size El lo hi w (.slice none 0 0) ([]:List α) :=
 ⟨[],[],World.ownsRow_nil _ _ _ _,(λg h=>by cases h),rfl,(λi hi=>by simp at hi),(λb hb=>by simp at hb),hN.1,h2⟩
theorem qO.empty (hN:uP N) (w:World) (h1:lo<=w.heap.size):qO N TP size El lo (w.heap.size+1) (w.alloc (.cells #[] TP)) (.slice (some ⟨w.heap.size,0,none⟩) 0 0) ([]:List α) :=
 ⟨[],[],World.ownsRow_made w #[] 0 h1 (Nat.zero_le _) (by simp),(λg h=>by injection h with h;simp only at h;omega),rfl,(λi hi=>by simp at hi),(λb hb=>by simp at hb),hN.1,by simp⟩
theorem qO.keep (hk:JD size El) (h:qO N TP size El lo hi w v l) (hs:w.heap.size<=W.heap.size) (hb:∀b,lo<=b->b<hi->W.heap[b]?=w.heap[b]?):qO N TP size El lo hi W v l:=by
 obtain⟨cells,fs,h1,h2,h3,h4,h5,h6,h7⟩:=h
 refine⟨cells,fs,⟨h1.1,?_⟩,h2,h3,λi hi=>hk _ _ _ _ _ _ _ _ (h4 i hi) (λ_ _=>rfl) hs λb hm=>?_,h5,h6,Nat.le_trans h7 hs⟩
 ·rcases h1.2 with h |⟨g,cap,cur,rfl,hg,hh,r⟩
  ·exact .inl h
  ·exact .inr ⟨g,cap,cur,rfl,hg,(hb g hg (h2 g rfl)).trans hh,r⟩
 ·have:=h5 b (zL hm)
  exact hb b this.1 this.2.1
theorem qO.bl (hk:JD size El) (h:qO N TP size El lo hi w v l) (hb:Bl w W):qO N TP size El lo hi W v l :=
 h.keep hk hb.size λb _ h2=>Below.block hb b (Nat.lt_of_lt_of_le h2 (by obtain⟨_,_,_,_,_,_,_,_,h7⟩:=h;exact h7))
theorem qO.hiLe (h:qO N TP size El lo hi w v l):hi<=w.heap.size:=by
 obtain⟨_,_,_,_,_,_,_,_,h7⟩:=h
 exact h7
end
theorem YK {fs:List (List Nat)}{bs:List Nat}{n:Nat}(h:fs.length=n):pix (fs++[bs]) n=bs:=by subst h;exact jk
theorem yy {P:Program}{α:Type} [Inhabited α] {N:List Nat->Prop}(hN:uP N) {size bytes:Nat}{El:World->Array Value->Nat->α->List Nat->Prop}(hk:JD size El) {TP t:TypeId}{z:Value}
  (hinfo:(P.info? TP).map (λi=>(i.zero,i.size,i.bytes))=some (some z,size,bytes)) (hzs:z.cells.size=size) (hsz:0<size) (hby:bytes<=4096) (ht:P.underlying t=some (.slice TP))
  {W:World}{news:Array Value}{p:α}{bs:List Nat}{lo hi:Nat}{l:List α}{ops:Array Oper}{rest:List Oper}{o:Oper}{a:Act}{Q:Exit->Act->World->Prop}(hgd:o.guard=none) (s x:Operand)
  (ho:o.op=.call { callee:=.builtin .append,args:=#[s,x],argTypes:=#[t,t] }) (v:Value) (hs:a.eval s=v) (hrow:qO N TP size El lo hi W v l)
  (hel:El W news 0 p bs) (hnl:news.size=size) (h1:∀u∈news.toList,u.oneCell'=true) (hbs:∀b∈bs,hi<=b/\b<W.heap.size) (hNb:N bs) (hlh:lo<=hi)
  (c:Nat) (hx:a.eval x=.slice (some ⟨W.heap.size,0,none⟩) 1 c) (hlen:l.length<=1048576) (w0:World) (hb:Bl w0 W) (h0:w0.heap.size<=lo)
  (h:∀v' w',qO N TP size El lo w'.heap.size w' v' (l++[p])->Bl w0 w'->(v'=.slice none 0 0->False)->(∀g,g<W.heap.size->v.ownBlock≠some g->w'.heap[g]?=W.heap[g]?/\v'.ownBlock≠some g)->wpList P ops Q rest (a.put o.dst v') w'):wpList P ops Q (o::rest) a (W.alloc (.cells news TP)):=by
 obtain⟨i0,hi0,hz0,hz1,hz2⟩:=info_parts hinfo
 obtain⟨cells,fs,r1,r2,r3,r4,r5,r6,r7⟩:=hrow
 have ro:=World.ownsRow.alloc r1 (.cells news TP)
 have hnew:(W.alloc (.cells news TP)).heap[W.heap.size]?=some (.cells news TP (0,0)):=heap_alloc_new W _
 have hsz2:(W.alloc (.cells news TP)).heap.size=W.heap.size+1:=by simp
 have hm:(l.length+1)*bytes<=140737488355328:=Nat.le_trans (Nat.mul_le_mul (show l.length+1<=1048577 by omega) hby) (by omega)
 refine wpList_append_own_at _ hgd s x t ho lo TP i0 z size bytes ht hi0 hz0 hz1 hz2 hzs hsz v l.length cells hs ro ⟨W.heap.size,0,none⟩ 1 c news.toList hx (by simpa using hnl) (World.news_of_block hnew) h1 (by unfold maxLen;omega) hm (by omega) ?_
 intro v' w' g1 g2 g3 g4
 have hne:v'≠.slice none 0 0:=λe=>by have:=(g3.1 e).2;omega
 have hws:=g2.size
 have hold:∀b,b<W.heap.size->v.ownBlock≠some b->w'.heap[b]?=W.heap[b]?:=λb hb1 hb2=>(g2.block b (by omega) (λe=>hb2 e.symm)).trans (Below.heap_alloc W _ b hb1)
 have hown:∀ b,v'.ownBlock=some b->(v.ownBlock=some b\/b=W.heap.size+1):=by
  intro b e
  rcases g4 with g4|g4
  ·exact .inl (by rw[<-g4];exact e)
  ·rw[g4]at e;injection e with e;right;omega
 have hvl:∀b,v'.ownBlock=some b->lo<=b/\b<w'.heap.size:=λb e=>by have:=World.ownsRow.lt g1 b e;exact this
 refine h v' w' ⟨cells++news.toList,fs++[bs],by simpa using g1,λg e=>(hvl g e).2,by simp[r3],λi hi'=>?_,λb hm'=>?_,?_,Nat.le_refl _⟩ ((hb.alloc _).grown g2 (λk e=>by have:=(World.ownsRow.lt r1 k e).1;omega)) hne (λg hg hn=>⟨hold g hg hn,λe=>by rcases hown g e with e|e;exact hn e;omega⟩)
 ·have hcl:=r1.1
  rw[List.length_append,List.length_singleton]at hi'
  rcases Nat.lt_succ_iff_lt_or_eq.1 hi' with hi'|rfl
  ·rw[q6 hi',q6 (by rw[r3];exact hi')]
   refine hk _ _ _ _ _ _ _ _ (r4 i hi') (λj hj=>?_) (by omega) λb hb'=>?_
   ·have:i * size+j < cells.length:=by
     rw[hcl]
     have:(i+1)*size<=l.length*size:=Nat.mul_le_mul_right _ hi'
     rw[Nat.succ_mul]at this
     omega
    simp[List.getElem?_append_left this]
   ·have:=r5 b (zL hb')
    exact hold b (by omega) this.2.2
  ·rw[jk,YK r3]
   refine hk _ _ _ _ _ _ _ _ hel (λj hj=>?_) (by omega) λb hb'=>?_
   ·have:(cells ++ news.toList)[l.length * size+j]?=news.toList[j]?:=by
     rw[List.getElem?_append_right (by rw[hcl];omega),hcl]
     congr 1;omega
    simpa using this
   ·have:=hbs b hb'
    exact hold b this.2 λe=>by have:=r2 b e;omega
 ·rw[List.flatten_append,List.mem_append]at hm'
  rcases hm' with hm'|hm'
  ·have:=r5 b hm'
   refine⟨this.1,by omega,λe=>?_⟩
   rcases hown b e with e|e
   ·exact this.2.2 e
   ·omega
  ·have:=hbs b (by simpa using hm')
   refine⟨by omega,by omega,λe=>?_⟩
   rcases hown b e with e|e
   ·have:=r2 b e;omega
   ·omega
 ·rw[List.flatten_append]
  refine hN.2 _ _ r6 (by simpa using hNb) λx hx' y hy e=>?_
  have a1:=r5 x hx'
  have a2:=hbs y (by simpa using hy)
  omega
theorem Jb {P:Program}{α:Type} [Inhabited α] {N:List Nat->Prop}(hN:uP N) {size bytes:Nat}{El:World->Array Value->Nat->α->List Nat->Prop}(hk:JD size El) {TP t:TypeId}{z:Value}
  (hinfo:(P.info? TP).map (λi=>(i.zero,i.size,i.bytes))=some (some z,size,bytes)) (hzs:z.cells.size=size) (hsz:0<size) (hby:bytes<=4096) (ht:P.underlying t=some (.slice TP))
  {W:World}{news:Array Value}{p:α}{bs:List Nat}{lo hi:Nat}{l:List α}{ops:Array Oper}{rest:List Oper}{o:Oper}{a:Act}{Q:Exit->Act->World->Prop}(hgd:o.guard=none) (s x:Operand)
  (ho:o.op=.call { callee:=.builtin .append,args:=#[s,x],argTypes:=#[t,t] }) (v:Value) (hs:a.eval s=v) (hrow:qO N TP size El lo hi W v l)
  (hel:El W news 0 p bs) (hnl:news.size=size) (h1:∀u∈news.toList,u.oneCell'=true) (hbs:∀b∈bs,hi<=b/\b<W.heap.size) (hNb:N bs) (hlh:lo<=hi)
  (c:Nat) (hx:a.eval x=.slice (some ⟨W.heap.size,0,none⟩) 1 c) (hlen:l.length<=1048576) (w0:World) (hb:Bl w0 W) (h0:w0.heap.size<=lo)
  (h:∀v' w',qO N TP size El lo w'.heap.size w' v' (l++[p])->Bl w0 w'->(v'=.slice none 0 0->False)->wpList P ops Q rest (a.put o.dst v') w'):wpList P ops Q (o::rest) a (W.alloc (.cells news TP)) :=
 yy hN hk hinfo hzs hsz hby ht hgd s x ho v hs hrow hel hnl h1 hbs hNb hlh c hx hlen w0 hb h0 λv' w' g1 g2 g3 _=>h v' w' g1 g2 g3
theorem qx (T:TypeId):JD 6 (qdg T):=by
 intro w W cs cs' i i' x bs h hc hs hb
 obtain⟨s,A,n,c,B,m,d,t,C,j,e,D,k,f,b1,b2,⟨h0,h1,h2,h3,h4,h5⟩,hx,hy,rfl⟩:=h
 refine⟨s,A,n,c,B,m,d,t,C,j,e,D,k,f,b1,b2,⟨?_,?_,?_,?_,?_,?_⟩,hx.keep hs λb hm=>hb b (by simp[hm]),hy.keep hs λb hm=>hb b (by simp[hm]),rfl⟩
 ·rw[<-h0];exact hc 0 (by omega)
 ·rw[<-h1];exact hc 1 (by omega)
 ·rw[<-h2];exact hc 2 (by omega)
 ·rw[<-h3];exact hc 3 (by omega)
 ·rw[<-h4];exact hc 4 (by omega)
 ·rw[<-h5];exact hc 5 (by omega)
theorem Yx (T:TypeId):JD 3 (qdn T):=by
 intro w W cs cs' i i' x bs h hc hs hb
 obtain⟨s,A,n,c,B,m,d,⟨h0,h1,h2⟩,hx⟩:=h
 refine⟨s,A,n,c,B,m,d,⟨?_,?_,?_⟩,hx.keep hs hb⟩
 ·rw[<-h0];exact hc 0 (by omega)
 ·rw[<-h1];exact hc 1 (by omega)
 ·rw[<-h2];exact hc 2 (by omega)
abbrev jK (N:List Nat->Prop) (lo hi:Nat) (w:World) (v:Value) (l:List PtD):Prop:=qO N 28 6 (qdg 3) lo hi w v l
section
variable {N:List Nat->Prop}{lo hi:Nat}{w W:World}{v:Value}{l:List PtD}
theorem jK.out (h:jK N lo hi w v l):(v=.slice none 0 0/\l=[])\/∃g c cs fs,v=.slice (some ⟨g,0,none⟩) l.length c/\l.length<=c/\Blk w g 28 cs/\l.length*6<=cs.size/\qaf 3 w cs l l.length fs/\(∀b∈g::fs.flatten,lo<=b/\b<hi)/\g∉fs.flatten/\N fs.flatten:=by
 obtain⟨cells,fs,r1,r2,r3,r4,r5,r6,r7⟩:=h
 rcases r1.2 with ⟨rfl,h0⟩ |⟨g,cap,cur,rfl,hg,hh,hn,hcap,hcs,ht⟩
 ·exact .inl ⟨rfl,List.length_eq_zero_iff.1 h0⟩
 ·have hlen:l.length*6<=cur.size:=by rw[hcs];exact Nat.mul_le_mul_right _ hn
  refine .inr ⟨g,cap,cur,fs,rfl,hn,hh,hlen,⟨r3,λi hi=>?_⟩,λb hb=>?_,λhm=>(r5 g hm).2.2 rfl,r6⟩
  ·refine qx _ _ _ _ _ _ _ _ _ (r4 i hi) (λj hj=>?_) (Nat.le_refl _) λ_ _=>rfl
   rw[<-ht]
   have:i*6+j<l.length*6:=by omega
   simp[this]
  ·rcases List.mem_cons.1 hb with rfl|hb
   ·exact⟨hg,r2 _ rfl⟩
   ·exact⟨(r5 b hb).1,(r5 b hb).2.1⟩
theorem jK.rd (h:jK N lo hi w v l) (hl:l.length<=1048576):∃A c,v=.slice A l.length c/\qR w A l.length c l:=by
 rcases jK.out h with ⟨rfl,rfl⟩ |⟨g,c,cs,fs,rfl,h1,h2,h3,h4,_⟩
 ·exact⟨none,0,rfl,RdS.nil _ _ _⟩
 ·exact⟨_,c,rfl,h4.rd h2 rfl (by omega) h1⟩
theorem jK.own (h:jK List.Nodup lo hi w v l) (hl:l.length<=1048576):∃A c,v=.slice A l.length c/\qaE 3 28 lo hi w A l.length c l:=by
 rcases jK.out h with ⟨rfl,rfl⟩ |⟨g,c,cs,fs,rfl,h1,h2,h3,h4,h5,h6,h7⟩
 ·exact⟨none,0,rfl,rfl,Nat.le_refl _,Nat.zero_le _,.inl rfl⟩
 ·exact⟨_,c,rfl,rfl,h1,hl,.inr ⟨g,cs,fs,rfl,h2,h3,h4,List.nodup_cons.2 ⟨h6,h7⟩,h5⟩⟩
end
def zw (N:List Nat->Prop) (T:TypeId) (b0:Nat) (w:World) (s:Bool) (A:Option Addr) (n c:Nat) (B:Option Addr) (m d:Nat) (t:Bool) (C:Option Addr) (i e:Nat) (D:Option Addr) (j f:Nat) (p:PtD):Prop :=
 ∃b1 b2,FtR T w s A n c B m d p.x b1/\FtR T w t C i e D j f p.y b2/\(∀b∈b1++b2,b0<=b/\b<w.heap.size)/\N (b1++b2)
theorem zw.of {T:TypeId}{b0:Nat}{w:World}{s:Bool}{A:Option Addr}{n c:Nat}{B:Option Addr}{m d:Nat}{t:Bool}{C:Option Addr}{i e:Nat}{D:Option Addr}{j f:Nat}{p:PtD}(h:OwP T b0 w s A n c B m d t C i e D j f p):zw List.Nodup T b0 w s A n c B m d t C i e D j f p:=by
 obtain⟨b1,b2,h1,h2,hf⟩:=h
 exact⟨b1,b2,h1,h2,hf.2,hf.1⟩
theorem zw.q {T:TypeId}{b0:Nat}{w:World}{s:Bool}{A:Option Addr}{n c:Nat}{B:Option Addr}{m d:Nat}{t:Bool}{C:Option Addr}{i e:Nat}{D:Option Addr}{j f:Nat}{p:PtD}(h:OwP T b0 w s A n c B m d t C i e D j f p):zw YQ T b0 w s A n c B m d t C i e D j f p:=by
 obtain⟨b1,b2,h1,h2,hf⟩:=h
 exact⟨b1,b2,h1,h2,hf.2,trivial⟩
theorem qT {N:List Nat->Prop}(hN:uP N) {W:World}{s:Bool}{A:Option Addr}{n c:Nat}{B:Option Addr}{m d:Nat}{t:Bool}{C:Option Addr}{i e:Nat}{D:Option Addr}{j f:Nat}{p:PtD}{lo hi b0:Nat}{l:List PtD}{ops:Array Oper}{rest:List Oper}{o:Oper}{a:Act}{Q:Exit->Act->World->Prop}(hgd:o.guard=none) (s1 x1:Operand)
  (ho:o.op=.call { callee:=.builtin .append,args:=#[s1,x1],argTypes:=#[46,46] }) (v:Value) (hs:a.eval s1=v) (hrow:jK N lo hi W v l)
  (hpt:zw N 3 b0 W s A n c B m d t C i e D j f p) (hb0:hi<=b0) (hlh:lo<=hi) (c1:Nat) (hx:a.eval x1=.slice (some ⟨W.heap.size,0,none⟩) 1 c1) (hlen:l.length<=1048576) (w0:World) (hb:Bl w0 W) (h0:w0.heap.size<=lo)
  (h:∀v' w',jK N lo w'.heap.size w' v' (l++[p])->Bl w0 w'->(∀g,g<W.heap.size->v.ownBlock≠some g->w'.heap[g]?=W.heap[g]?/\v'.ownBlock≠some g)->wpList Tryz.prog ops Q rest (a.put o.dst v') w'):wpList Tryz.prog ops Q (o::rest) a (W.alloc (.cells #[.bool s,.slice A n c,.slice B m d,.bool t,.slice C i e,.slice D j f] 28)):=by
 obtain⟨b1,b2,f1,f2,f3,f4⟩:=hpt
 refine yy hN (qx 3) uu (by rfl) (by omega) (by omega) Tryz.underlying46 hgd s1 x1 ho v hs hrow (p:=p) (bs:=b1++b2) ⟨_,_,_,_,_,_,_,_,_,_,_,_,_,_,b1,b2,⟨rfl,rfl,rfl,rfl,rfl,rfl⟩,f1,f2,rfl⟩ rfl (by simp[Value.oneCell']) (λb hm=>⟨Nat.le_trans hb0 (f3 b hm).1,(f3 b hm).2⟩) f4 hlh c1 hx hlen w0 hb h0 λv' w' g1 g2 _ g4=>h v' w' g1 g2 g4
theorem qac:(Tryz.prog.info? 26).map (λi=>(i.zero,i.size,i.bytes))=some (some (.agg #[.bool false,.slice none 0 0,.slice none 0 0]),3,56):=by kernel_rfl
def qer (TI TR:TypeId) (w:World) (A:Option Addr) (n c:Nat) (l:List qH) (bs:List Nat):Prop :=
 l.length=n/\n<=c/\n<=1048576/\((n=0/\bs=[])\/∃g cs fs,A=some ⟨g,0,none⟩/\Blk w g TR cs/\n*3<=cs.size/\qbx TI w cs l n fs/\bs=g::fs.flatten)
section
variable {TI TR TS:TypeId}{w W:World}{A:Option Addr}{n c i lo hi lo' hi':Nat}{cs cs':Array Value}{l:List qH}{L:List (List qH)}{bs xs:List Nat}
theorem qer.rd (h:qer TI TR w A n c l bs):YP w A n c l:=by
 obtain⟨h1,h2,h3,h4⟩:=h
 rcases h4 with ⟨h4,_⟩ |⟨g,cs,fs,rfl,hB,hc,hP,_⟩
 ·subst h4
  obtain rfl:=List.length_eq_zero_iff.1 h1
  exact RdS.nil _ _ _
 ·exact hP.rd hB h1 (by omega) h2
end
abbrev qcI (N:List Nat->Prop) (lo hi:Nat) (w:World) (v:Value) (l:List qH):Prop:=qO N 26 3 (qdn 3) lo hi w v l
section
variable {N:List Nat->Prop}{lo hi:Nat}{w W:World}{v:Value}{l:List qH}{L:List (List qH)}
theorem qcI.ft (h:qcI List.Nodup lo hi w v l) (hl:l.length<=1048576):∃A c bs,v=.slice A l.length c/\qer 3 26 w A l.length c l bs/\bs.Nodup/\∀b∈bs,lo<=b/\b<hi:=by
 obtain⟨cells,fs,r1,r2,r3,r4,r5,r6,r7⟩:=h
 rcases r1.2 with ⟨rfl,h0⟩ |⟨g,cap,cur,rfl,hg,hh,hn,hcap,hcs,ht⟩
 ·exact⟨none,0,[],by rw[h0],⟨rfl,by rw[h0];exact Nat.le_refl _,hl,.inl ⟨h0,rfl⟩⟩,List.nodup_nil,λb hb=>by cases hb⟩
 ·have hlen:l.length*3<=cur.size:=by rw[hcs];exact Nat.mul_le_mul_right _ hn
  have hgm:g∉fs.flatten:=λhm=>(r5 g hm).2.2 rfl
  refine⟨_,cap,g::fs.flatten,rfl,⟨rfl,hn,hl,.inr ⟨g,cur,fs,rfl,hh,hlen,⟨r3,λi hi=>?_⟩,rfl⟩⟩,List.nodup_cons.2 ⟨hgm,r6⟩,λb hb=>?_⟩
  ·refine Yx _ _ _ _ _ _ _ _ _ (r4 i hi) (λj hj=>?_) (Nat.le_refl _) λ_ _=>rfl
   rw[<-ht]
   have:i*3+j<l.length*3:=by omega
   simp[this]
  ·rcases List.mem_cons.1 hb with rfl|hb
   ·exact⟨hg,r2 _ rfl⟩
   ·exact⟨(r5 b hb).1,(r5 b hb).2.1⟩
end
theorem Jm {W:World}{s:Bool}{A:Option Addr}{n c:Nat}{B:Option Addr}{m d:Nat}{p:qH}{lo hi b0:Nat}{l:List qH}{ops:Array Oper}{rest:List Oper}{o:Oper}{a:Act}{Q:Exit->Act->World->Prop}(hgd:o.guard=none) (s1 x1:Operand)
  (ho:o.op=.call { callee:=.builtin .append,args:=#[s1,x1],argTypes:=#[102,102] }) (v:Value) (hs:a.eval s1=v) (hrow:qcI List.Nodup lo hi W v l)
  (hpt:OwR 3 b0 W s A n c B m d p) (hb0:hi<=b0) (hlh:lo<=hi) (c1:Nat) (hx:a.eval x1=.slice (some ⟨W.heap.size,0,none⟩) 1 c1) (hlen:l.length<=1048576) (w0:World) (hb:Bl w0 W) (h0:w0.heap.size<=lo)
  (h:∀v' w',qcI List.Nodup lo w'.heap.size w' v' (l++[p])->Bl w0 w'->wpList Tryz.prog ops Q rest (a.put o.dst v') w'):wpList Tryz.prog ops Q (o::rest) a (W.alloc (.cells #[.bool s,.slice A n c,.slice B m d] 26)):=by
 obtain⟨bs,f1,f2⟩:=hpt
 exact Jb ye (Yx 3) qac (by rfl) (by omega) (by omega) Tryz.underlying102 hgd s1 x1 ho v hs hrow (p:=p) (bs:=bs) ⟨_,_,_,_,_,_,_,⟨rfl,rfl,rfl⟩,f1⟩ rfl (by simp[Value.oneCell']) (λb hm=>⟨Nat.le_trans hb0 (f2.2 b hm).1,(f2.2 b hm).2⟩) f2.1 hlh c1 hx hlen w0 hb h0 λv' w' g1 g2 _=>h v' w' g1 g2
def qeH (_:World) (cs:Array Value) (i:Nat) (t:qC) (bs:List Nat):Prop:=qeQ cs i t/\bs=[]
theorem ZX:JD 5 qeH:=by
 intro w W cs cs' i i' x bs h hc hs hb
 obtain⟨⟨h0,h1,h2,h3,h4⟩,e⟩:=h
 exact⟨⟨(hc 0 (by omega)).trans h0,(hc 1 (by omega)).trans h1,(hc 2 (by omega)).trans h2,(hc 3 (by omega)).trans h3,(hc 4 (by omega)).trans h4⟩,e⟩
abbrev qaK (lo hi:Nat) (w:World) (v:Value) (l:List qC):Prop:=qO YQ 83 5 qeH lo hi w v l
theorem VY:(Tryz.prog.info? 83).map (λi=>(i.zero,i.size,i.bytes))=some (some (.agg #[.int .i64 0,.int .i64 0,.int .i64 0,.int .i64 0,.int .i64 0]),5,40):=by kernel_rfl
theorem Blk.oth {g:Nat}{T:TypeId}{cs:Array Value}{v v':Value}{W w':World}(h:Blk W g T cs) (ho:∀g,g<W.heap.size->v.ownBlock≠Option.some g->w'.heap[g]?=W.heap[g]?/\v'.ownBlock≠Option.some g) (hv:v.ownBlock≠Option.some g):Blk w' g T cs :=
 (ho g h.lt hv).1.trans h
def toR (q:Rat):qH:=raw q.num q.den
def Fit (q:Rat):Prop:=q.num.natAbs<Bs ^ 24/\q.den<Bs ^ 24
theorem Fit.ok {q:Rat}(h:Fit q):OkR (toR q):=⟨q.num,q.den,rfl,q.den_pos,q.reduced,qr.2 h.1,qr.2 h.2⟩
theorem QI (q:Rat):rn (toR q)=q.num:=uF _ _
theorem Zc (q:Rat):rd (toR q)=q.den:=Ub _ _
theorem VA {p q:Rat}(h:toR p=toR q):p=q:=by
 refine Rat.ext ?_ ?_
 ·rw[<-QI,h,QI]
 ·rw[<-Zc,h,Zc]
open Classical in
theorem j6 (x:Int) {D:Nat}(hD:0<D):qm x D=if Fit (mkRat x D)then toR (mkRat x D)else zR:=by
 have h1:(mkRat x D).num=x / (Nat.gcd x.natAbs D:Int):=by
  rw[Rat.num_mkRat,if_neg (by omega),Nat.gcd_comm]
 have h2:(mkRat x D).den=D / Nat.gcd x.natAbs D:=by
  rw[Rat.den_mkRat,if_neg (by omega),Nat.gcd_comm]
 have h3:(mkRat x D).num.natAbs=x.natAbs / Nat.gcd x.natAbs D:=by
  rw[h1,qZ _ _ (Nat.gcd_dvd_left _ _)]
 unfold qm Fit toR
 rw[h3,h2,h1]
 by_cases h:x.natAbs / Nat.gcd x.natAbs D<Bs ^ 24/\D / Nat.gcd x.natAbs D<Bs ^ 24
 ·rw[if_pos h,if_pos ⟨qr.2 h.1,qr.2 h.2⟩]
 ·rw[if_neg h,if_neg (λhk=>h ⟨qr.1 hk.1,qr.1 hk.2⟩)]
theorem Va {p q:Rat}(hp:Fit p) (hq:Fit q) (h:Fit (p+q)):Z3 (toR p) (toR q)=toR (p+q):=by
 unfold Z3
 rw[if_pos ⟨hp.ok,hq.ok⟩,QI,QI,Zc,Zc,j6 _ (Nat.mul_pos p.den_pos q.den_pos),<-Rat.add_def',if_pos h]
theorem QW {p q:Rat}(hp:Fit p) (hq:Fit q) (h:Fit (p-q)):J4 (toR p) (toR q)=toR (p-q):=by
 unfold J4
 rw[if_pos ⟨hp.ok,hq.ok⟩,QI,QI,Zc,Zc,j6 _ (Nat.mul_pos p.den_pos q.den_pos),<-Rat.sub_def',if_pos h]
theorem yC {p q:Rat}(hp:Fit p) (hq:Fit q) (h:Fit (p*q)):Zs (toR p) (toR q)=toR (p*q):=by
 unfold Zs
 rw[if_pos ⟨hp.ok,hq.ok⟩,QI,QI,Zc,Zc,j6 _ (Nat.mul_pos p.den_pos q.den_pos),<-Rat.mul_def',if_pos h]
theorem qa0 {p q:Rat}(hp:Fit p) (hq:Fit q):JL (toR p) (toR q)=if p<q then -1 else if q<p then 1 else 0:=by
 unfold JL jF
 rw[if_pos ⟨hp.ok,hq.ok⟩,QI,QI,Zc,Zc]
 simp only[Rat.lt_iff]
theorem ZH {p:Rat}(hp:Fit p):Zi (toR p)=if p<0 then -1 else if 0<p then 1 else 0:=by
 unfold Zi jF
 rw[if_pos hp.ok,QI]
 simp[Rat.lt_iff]
def Bd (N:Nat) (q:Rat):Prop:=q.num.natAbs<=N/\q.den<=N
theorem Bd.fit {N:Nat}{q:Rat}(h:Bd N q) (hN:N<Bs ^ 24):Fit q:=⟨Nat.lt_of_le_of_lt h.1 hN,Nat.lt_of_le_of_lt h.2 hN⟩
theorem Bd.mono {M N:Nat}{q:Rat}(h:Bd M q) (hN:M<=N):Bd N q:=⟨Nat.le_trans h.1 hN,Nat.le_trans h.2 hN⟩
theorem UY {x:Int}{D N:Nat}(hD:0<D) (hx:x.natAbs<=N) (hn:D<=N):Bd N (mkRat x D):=by
 refine⟨?_,?_⟩
 ·rw[Rat.num_mkRat,if_neg (by omega),Nat.gcd_comm,qZ _ _ (Nat.gcd_dvd_left _ _)]
  exact Nat.le_trans (Nat.div_le_self _ _) hx
 ·rw[Rat.den_mkRat,if_neg (by omega)]
  exact Nat.le_trans (Nat.div_le_self _ _) hn
section
variable {M N:Nat}{p q:Rat}
theorem jg {a b:Int}(ha:a.natAbs<=M) (hb:b.natAbs<=N):(a*b).natAbs<=M*N:=by
 rw[Int.natAbs_mul];exact Nat.mul_le_mul ha hb
theorem Bd.add (h:Bd M p) (k:Bd N q):Bd (2*(M*N)) (p+q):=by
 rw[Rat.add_def']
 refine UY (Nat.mul_pos p.den_pos q.den_pos) ?_ (Nat.le_trans (Nat.mul_le_mul h.2 k.2) (by omega))
 have h1:(p.num*(q.den:Int)).natAbs<=M*N:=jg h.1 k.2
 have h2:(q.num*(p.den:Int)).natAbs<=N*M:=jg k.1 h.2
 rw[Nat.mul_comm N M]at h2
 omega
theorem Bd.sub (h:Bd M p) (k:Bd N q):Bd (2*(M*N)) (p-q):=by
 rw[Rat.sub_def']
 refine UY (Nat.mul_pos p.den_pos q.den_pos) ?_ (Nat.le_trans (Nat.mul_le_mul h.2 k.2) (by omega))
 have h1:(p.num*(q.den:Int)).natAbs<=M*N:=jg h.1 k.2
 have h2:(q.num*(p.den:Int)).natAbs<=N*M:=jg k.1 h.2
 rw[Nat.mul_comm N M]at h2
 omega
theorem Bd.mul (h:Bd M p) (k:Bd N q):Bd (M*N) (p*q):=by
 rw[Rat.mul_def']
 exact UY (Nat.mul_pos p.den_pos q.den_pos) (jg h.1 k.1) (Nat.mul_le_mul h.2 k.2)
end
instance:Inhabited (Rat × Rat):=⟨(0,0)⟩
def tp (p:Rat × Rat):PtD:=⟨toR p.1,toR p.2⟩
theorem zv {l:List (Rat × Rat)}{k:Nat}(h:k<l.length):pix (l.map tp) k=tp (pix l k):=by simp[pix,h]
def SmQ (q:Rat):Prop:=q.num.natAbs<1000000000/\q.den<1000000000
instance (q:Rat):Decidable (SmQ q):=by unfold SmQ;infer_instance
theorem SmQ.mag {q:Rat}(h:SmQ q):(toR q).mag.length<=1:=by
 show (qu (dig q.num.natAbs)).length<=1
 rw[qg]
 exact qr.2 (by simpa [Bs]using h.1)
theorem SmQ.den {q:Rat}(h:SmQ q):(toR q).den.length=1:=by
 show (qu (dig q.den)).length=1
 rw[qg]
 have h1:(dig q.den).length<=1:=qr.2 (by simpa [Bs]using h.2)
 have h2:0<(dig q.den).length:=ql.2 q.den_pos
 omega
theorem SmQ.fit {q:Rat}(h:SmQ q):Fit q:=⟨Nat.lt_trans h.1 (by decide),Nat.lt_trans h.2 (by decide)⟩
def trn (xs ys:List Int) (a b c:Int):Int :=
 jF ((ix xs b.toNat-ix xs a.toNat)*(ix ys c.toNat-ix ys a.toNat)-(ix ys b.toNat-ix ys a.toNat)*(ix xs c.toNat-ix xs a.toNat)) 0
def PlB (n:Nat) (xs ys:List Int):Prop:=∀k,k<n->-536870912<=ix xs k/\ix xs k<=536870912/\-536870912<=ix ys k/\ix ys k<=536870912
theorem qbt {a b:Int}(h1 : -1073741824<=a) (h2:a<=1073741824) (h3 : -1073741824<=b) (h4:b<=1073741824) : -1152921504606846976<=a*b/\a*b<=1152921504606846976:=by
 have h:(a * b).natAbs<=1073741824 * 1073741824:=by
  rw[Int.natAbs_mul]
  exact Nat.mul_le_mul (by omega) (by omega)
 omega
theorem jN {w:World}{g n c:Nat}{l:List Int}(h:RdI w (some ⟨g,0,none⟩) n c l) {k:Nat}(hk:k<n):w.cell? ⟨g,k,none⟩=some (.int .i64 (ix l k)):=by
 obtain⟨_,e,_,hc⟩:=h.cells k hk
 cases e
 rw[Addr.add_lit,Nat.zero_add]at hc
 exact hc
theorem bx5 {W:World}{g:Nat}{T:TypeId}{a b c d e:Value}(h:Blk W g T #[a,b,c,d,e]):W.cell? ⟨g,0,none⟩=some a/\W.cell? ⟨g,1,none⟩=some b/\W.cell? ⟨g,2,none⟩=some c/\W.cell? ⟨g,3,none⟩=some d/\W.cell? ⟨g,4,none⟩=some e:=⟨h.cell 0,h.cell 1,h.cell 2,h.cell 3,h.cell 4⟩
structure EdD where
 a:Int
 b:Int
 l:Int
 r:Int
 deriving DecidableEq,Inhabited
def Zz (x y:EdD):Int:=if jF x.a y.a=0 then jF x.b y.b else jF x.a y.a
def ltE (x y:EdD):Bool:=decide (Zz x y<0)
theorem Qs {x y:EdD}:ltE x y=true↔x.a<y.a\/(x.a=y.a/\x.b<y.b):=by
 unfold ltE Zz jF
 rw[decide_eq_true_iff]
 by_cases h1:x.a<y.a
 ·simp[h1]
 ·by_cases h2:y.a<x.a
  ·simp[h1,h2];omega
  ·have h3:x.a=y.a:=by omega
   simp only[h3,Int.lt_irrefl,if_false,if_true,true_and,false_or]
   by_cases h4:x.b<y.b
   ·simp[h4]
   ·by_cases h5:y.b<x.b <;> simp[h4,h5]
theorem Qz {x y:EdD}:Zz x y=0↔x.a=y.a/\x.b=y.b:=by
 unfold Zz jF
 by_cases h1:x.a<y.a
 ·simp[h1];omega
 ·by_cases h2:y.a<x.a
  ·simp[h1,h2];omega
  ·have h3:x.a=y.a:=by omega
   simp only[h3,Int.lt_irrefl,if_false,if_true,true_and]
   by_cases h4:x.b<y.b
   ·simp[h4];omega
   ·by_cases h5:y.b<x.b
    ·simp[h4,h5];omega
    ·simp[h4,h5];omega
def zD (e:EdD):List EdD->Nat
 | []=>0
 | x::xs=>if ltE x e then zD e xs+1 else 0
theorem Qd (e:EdD):∀l:List EdD,zD e l<=l.length
 | []=>Nat.le_refl _
 | x::xs=>by
  unfold zD
  split
  ·have:=Qd e xs;simp;omega
  ·simp
theorem VB {α:Type} [Inhabited α] (x:α) (xs:List α):pix (x::xs) 0=x:=rfl
theorem JX {α:Type} [Inhabited α] (x:α) (xs:List α) (k:Nat):pix (x::xs) (k+1)=pix xs k:=by simp[pix]
theorem Xz (e:EdD):∀(l:List EdD) {k:Nat},k<zD e l->ltE (pix l k) e=true
 | [],k,h=>by simp[zD]at h
 | x::xs,k,h=>by
  unfold zD at h
  by_cases hx:ltE x e=true
  ·rw[if_pos hx]at h
   rcases k with _|k
   ·exact hx
   ·rw[JX];exact Xz e xs (by omega)
  ·rw[if_neg hx]at h;omega
theorem XP (e:EdD):∀(l:List EdD),zD e l<l.length->ltE (pix l (zD e l)) e=false
 | [],h=>by simp at h
 | x::xs,h=>by
  unfold zD at h ⊢
  by_cases hx:ltE x e=true
  ·rw[if_pos hx]at h ⊢
   rw[JX]
   exact XP e xs (by simpa using h)
  ·rw[if_neg hx]
   exact Bool.eq_false_iff.2 hx
def Zr (l:List EdD):Prop:=∀i j,i<j->j<l.length->ltE (pix l i) (pix l j)=true
theorem ZE {x y z:EdD}(h:ltE x y=true) (k:ltE y z=true):ltE x z=true:=by
 rw[Qs]at *
 omega
theorem qcj {e:EdD}{l:List EdD}(hs:Zr l) {k:Nat}(h:zD e l<=k) (hk:k<l.length):ltE (pix l k) e=false:=by
 have h0:=XP e l (by omega)
 rcases Nat.lt_or_eq_of_le h with h|h
 ·have h1:=hs _ _ h hk
  rw[Bool.eq_false_iff]at h0 ⊢
  exact λh2=>h0 (ZE h1 h2)
 ·rw[<-h];exact h0
theorem Jg {e:EdD}{l:List EdD}(hs:Zr l) {i:Nat}(hi:i<=l.length) (h1:∀k,k<i->ltE (pix l k) e=true) (h2:∀k,i<=k->k<l.length->ltE (pix l k) e=false):i=zD e l:=by
 have h0:=Qd e l
 rcases Nat.lt_trichotomy i (zD e l)with h|h|h
 ·have a:=Xz e l h
  have b:=h2 i (Nat.le_refl _) (by omega)
  rw[a]at b;cases b
 ·exact h
 ·have a:=h1 _ h
  have b:=qcj hs (Nat.le_refl _) (show zD e l<l.length by omega)
  rw[a]at b;cases b
def yG (e:EdD) (l:List EdD):Bool:=decide (zD e l<l.length)&&decide (Zz (pix l (zD e l)) e=0)
def vv (e:EdD) (l:List EdD):List EdD:=l.take (zD e l)++e::l.drop (zD e l)
theorem Zt (e:EdD) (l:List EdD):(vv e l).length=l.length+1:=by
 have:=Qd e l
 unfold vv
 simp
 omega
theorem uO {e:EdD}{l:List EdD}{k:Nat}:pix (vv e l) k=if k<zD e l then pix l k else if k=zD e l then e else pix l (k-1):=by
 have h0:=Qd e l
 unfold vv
 by_cases h1:k<zD e l
 ·rw[if_pos h1,q6 (by simp;omega)]
  unfold pix
  rw[List.getD_eq_getElem?_getD,List.getD_eq_getElem?_getD,List.getElem?_take_of_lt h1]
 ·rw[if_neg h1]
  unfold pix
  rw[List.getD_eq_getElem?_getD,List.getElem?_append_right (by simp;omega),List.length_take,Nat.min_eq_left h0]
  by_cases h2:k=zD e l
  ·rw[if_pos h2,h2,Nat.sub_self];rfl
  ·rw[if_neg h2,List.getD_eq_getElem?_getD]
   obtain⟨j,rfl⟩:∃j,k=zD e l+j+1:=⟨k-zD e l-1,by omega⟩
   rw[show zD e l+j+1-zD e l=j+1 by omega,show zD e l+j+1-1=zD e l+j by omega,List.getElem?_cons_succ,List.getElem?_drop]
theorem qap {e:EdD}{l:List EdD}(hs:Zr l) (hn:yG e l=false):Zr (vv e l):=by
 intro i j hij hj
 rw[Zt]at hj
 have h0:=Qd e l
 have hgt:∀ k,zD e l<=k->k < l.length->ltE e (pix l k)=true:=by
  intro k hk hk2
  have h1:=XP e l (by omega)
  have h2:¬ Zz (pix l (zD e l)) e=0:=by
   intro h3
   unfold yG at hn
   rw[decide_eq_true (show zD e l<l.length by omega),decide_eq_true h3]at hn
   cases hn
  have h3:ltE e (pix l (zD e l))=true:=by
   rw[Qz]at h2
   rw[Bool.eq_false_iff,Ne,Qs]at h1
   rw[Qs]
   omega
  rcases Nat.lt_or_eq_of_le hk with h|h
  ·exact ZE h3 (hs _ _ h hk2)
  ·rw[<-h];exact h3
 rw[uO,uO]
 by_cases h1:j<zD e l
 ·rw[if_pos h1,if_pos (by omega)]
  exact hs _ _ hij (by omega)
 ·rw[if_neg h1]
  by_cases h2:j=zD e l
  ·rw[if_pos h2,if_pos (by omega)]
   exact Xz e l (by omega)
  ·rw[if_neg h2]
   by_cases h3:i<zD e l
   ·rw[if_pos h3]
    exact hs _ _ (by omega) (by omega)
   ·rw[if_neg h3]
    by_cases h4:i=zD e l
    ·rw[if_pos h4]
     exact hgt _ (by omega) (by omega)
    ·rw[if_neg h4]
     exact hs _ _ (by omega) (by omega)
def zo (a b k:Int) (e:EdD):EdD:=if a<b then ⟨e.a,e.b,k,e.r⟩else ⟨e.a,e.b,e.l,k⟩
def qS (a b:Int):EdD:=⟨min a b,max a b,-1,-1⟩
def yX (l:List EdD) (a b k:Int):List EdD :=
 (if yG (qS a b) l then l else vv (qS a b) l).modify (zD (qS a b) l) (zo a b k)
def zy (l:List EdD) (t:qC) (k:Int):Nat->List EdD
 | 0=>l
 | 1=>yX l t.a t.b k
 | 2=>yX (yX l t.a t.b k) t.b t.c k
 | _=>yX (yX (yX l t.a t.b k) t.b t.c k) t.c t.a k
def yU (ts:List qC):Nat->List EdD
 | 0=>[]
 | k+1=>zy (yU ts k) (pix ts k) k 3
def edL (ts:List qC):List EdD:=yU ts ts.length
theorem uM (a b k:Int) (e x:EdD):ltE (zo a b k e) x=ltE e x/\ltE x (zo a b k e)=ltE x e:=by
 unfold zo
 split <;> exact⟨rfl,rfl⟩
theorem vC {l:List EdD}{f:EdD->EdD}{p k:Nat}(hk:k<l.length):pix (l.modify p f) k=if k=p then f (pix l k)else pix l k:=by
 unfold pix
 rw[List.getD_eq_getElem?_getD,List.getD_eq_getElem?_getD,List.getElem?_modify]
 by_cases h:p=k
 ·rw[if_pos h.symm];simp[h,hk]
 ·rw[if_neg (λe=>h e.symm)];simp[h]
theorem U7 {l:List EdD}{a b k:Int}{p:Nat}(hs:Zr l):Zr (l.modify p (zo a b k)):=by
 intro i j hij hj
 rw[List.length_modify]at hj
 have h:=hs i j hij hj
 rw[vC (by omega),vC hj]
 by_cases h1:i=p <;> by_cases h2:j=p
 ·omega
 ·rw[if_pos h1,if_neg h2,(uM a b k _ _).1];exact h
 ·rw[if_neg h1,if_pos h2,(uM a b k _ _).2];exact h
 ·rw[if_neg h1,if_neg h2];exact h
theorem Q2 {l:List EdD}{a b k:Int}(hs:Zr l):Zr (yX l a b k):=by
 unfold yX
 refine U7 ?_
 by_cases h:yG (qS a b) l=true
 ·rw[if_pos h];exact hs
 ·rw[if_neg h];exact qap hs (Bool.eq_false_iff.2 h)
theorem VS (l:List EdD) (a b k:Int):l.length<=(yX l a b k).length/\(yX l a b k).length<=l.length+1:=by
 unfold yX
 rw[List.length_modify]
 split
 ·omega
 ·rw[Zt];omega
theorem ju {l:List EdD}{t:qC}{k:Int}(hs:Zr l) (i:Nat):Zr (zy l t k i):=by
 unfold zy
 split
 ·exact hs
 ·exact Q2 hs
 ·exact Q2 (Q2 hs)
 ·exact Q2 (Q2 (Q2 hs))
theorem jv {l:List EdD}{t:qC}{k:Int}(i:Nat):l.length<=(zy l t k i).length/\(zy l t k i).length<=l.length+3:=by
 unfold zy
 have h1:=VS l t.a t.b k
 have h2:=VS (yX l t.a t.b k) t.b t.c k
 have h3:=VS (yX (yX l t.a t.b k) t.b t.c k) t.c t.a k
 split <;> omega
theorem jQ (ts:List qC):∀k,Zr (yU ts k)
 | 0=>λi j _ hj=>by simp[yU]at hj
 | k+1=>ju (jQ ts k) 3
theorem jh (ts:List qC):∀k,(yU ts k).length<=3*k
 | 0=>by simp[yU]
 | k+1=>by
  have h1:=jh ts k
  have h2:=jv (l:=yU ts k) (t:=pix ts k) (k:=(k:Int)) 3
  show (zy (yU ts k) (pix ts k) k 3).length<=_
  omega
def Us (w:World) (p:Addr) (e:EdD):Prop :=
 w.cell? p=some (.int .i64 e.a)/\w.cell? ⟨p.block,p.off+1,none⟩=some (.int .i64 e.b)/\w.cell? ⟨p.block,p.off+2,none⟩=some (.int .i64 e.l)/\w.cell? ⟨p.block,p.off+3,none⟩=some (.int .i64 e.r)
theorem Us.bl {w W:World}{p:Addr}{e:EdD}(h:Us w p e) (hp:p.block<w.heap.size) (hb:Bl w W):Us W p e:=by
 obtain⟨h0,h1,h2,h3⟩:=h
 refine⟨?_,?_,?_,?_⟩
 ·rw[hb.qeV hp];exact h0
 ·rw[hb.qeV (p:=⟨p.block,p.off+1,none⟩) hp];exact h1
 ·rw[hb.qeV (p:=⟨p.block,p.off+2,none⟩) hp];exact h2
 ·rw[hb.qeV (p:=⟨p.block,p.off+3,none⟩) hp];exact h3
abbrev Yn:=RdS 4 Us
theorem Yn.bl {w W:World}{A:Option Addr}{n c:Nat}{l:List EdD}(h:Yn w A n c l) (hb:Bl w W):Yn W A n c l:=RdS.bl (λh hp hb=>h.bl hp hb) h hb
theorem zX {w:World}{g n c:Nat}{l:List EdD}(h:Yn w (some ⟨g,0,none⟩) n c l) {k:Nat}(hk:k<n) :
  w.cell? ⟨g,k*4,none⟩=some (.int .i64 (pix l k).a)/\w.cell? ⟨g,k*4+1,none⟩=some (.int .i64 (pix l k).b)/\w.cell? ⟨g,k*4+2,none⟩=some (.int .i64 (pix l k).l)/\w.cell? ⟨g,k*4+3,none⟩=some (.int .i64 (pix l k).r):=by
 obtain⟨_,e,_,hc⟩:=h.cells k hk
 cases e
 rw[Addr.add_lit,Nat.zero_add]at hc
 exact hc
theorem bx4 {W:World}{g:Nat}{T:TypeId}{a b c d:Value}(h:Blk W g T #[a,b,c,d]):W.cell? ⟨g,0,none⟩=some a/\W.cell? ⟨g,1,none⟩=some b/\W.cell? ⟨g,2,none⟩=some c/\W.cell? ⟨g,3,none⟩=some d:=⟨h.cell 0,h.cell 1,h.cell 2,h.cell 3⟩
end Go.Proofs.YtjaapemopbbfaaaGreatDoor
