import Derived.OrdersHeld
import Derived.RegionTactic
import Derived.OrdersIn
import Derived.RangeFuncNested
import Derived.RangeFuncBound
import Derived.RangeFuncCalls
import Derived.RangeFuncLeaves
import Derived.Shelf.Abstract
import Derived.Shelf.RegionOpen
import Derived.OwnWalkIn
import Derived.TacticsInMore
import Derived.LoopNIn
import Derived.LoopIn
import Derived.Test.YtjaapemopbbfaaaGreatDoorPMeshesM27
import Derived.Lib.ConvBytes
namespace Go.Proofs.YtjaapemopbbfaaaGreatDoor
open Go.RowKit
set_option maxRecDepth 100000
set_option maxHeartbeats 32000000
section
open Go.RowKit
attribute [local go_sem] Oper.semAt_some
theorem Bl.others {w w':World}(h:Bl w w'):KeepsOthers w w':=⟨h.size,λk _ hk _=>(h.block k (qV hk)).trans hk⟩
def Kps (ys:List Nat) (A B:World):Prop:=∀x∈ys,B.heap[x]?=A.heap[x]?
theorem Kps.refl (ys:List Nat) (A:World):Kps ys A A:=λ_ _=>rfl
theorem Kps.trans {ys:List Nat}{A B C:World}(h:Kps ys A B) (k:Kps ys B C):Kps ys A C:=λx hx=>(k x hx).trans (h x hx)
theorem Kps.cell {ys:List Nat}{A B:World}(h:Kps ys A B) {p:Addr}(hx:p.block∈ys):B.cell? p=A.cell? p:=World.cell?_of_block (h _ hx)
def qbk (n:Nat) (P:Program) (g:Nat) (lb:Array Value) (encs:Nat->Array Value) (ys:List Nat) (N:Nat) (w:World):Prop :=
 ∀ (l : Nat) (J Jx : Nat -> World -> Prop) (W : World), Below w.heap.size w W -> (∀ k A B, J k A -> Ob [] A B -> J k B) ->
  (∀k W1,J k W1->k<N->YieldAt Fence.wide (n-1) P l (encs k) W1 λe W'=>(e=.returned (.bool true)/\J (k+1) W'/\Kps ys W1 W')\/(e=.returned (.bool false)/\Jx (k+1) W')) ->
  J 0 W->CallsIn Fence.wide n P g (#[.func (.yield l) #[] #[]]++lb) W λe W'=>(∃v,e=.returned v)/\(J N W'\/∃k,Jx k W')
def qbK (ys:List Nat) (I:Nat->World->Prop) (Ix:Code->Nat->World->Prop) (k:Nat) (W:World):Exit->Act->World->Prop
 | .normal,_,W'=>KeepsOthers W W'/\Kps ys W W'/\I k W'
 | .ret,_,W'=>KeepsOthers W W'/\Ix .ret k W'
 | .exit i,_,W'=>KeepsOthers W W'/\Ix (.exit i) k W'
 | .goto t,_,W'=>KeepsOthers W W'/\Ix (.goto t) k W'
 | .panic _,_,_=>False
 | .outgrown,_,_=>False
theorem ui {n:Nat}{P:Program}{g:Operand}{ps:Array Tmp}{assign body:Code}{Q:Exit->Act->World->Prop}{a:Act}{w:World}(h1:1<=n) {gf:Nat}{lb:Array Value}
  (hg:a.eval g=.func (.func gf) #[] lb) (eg:∀args w,(callFunc gf args).run P w=.ok (.enter gf args) w) {encs:Nat->Array Value}{ys:List Nat}{N:Nat}(hseq:qbk (n-1) P gf lb encs ys N w) (hys:∀y∈ys,y<w.heap.size) (hps:∀k,(encs k).size=ps.size)
  (I:Nat->World->Prop) (Ix:Code->Nat->World->Prop) (hI:∀k A B,I k A->Ob [w.heap.size,w.heap.size+1] A B->I k B) (hIx:∀c k A B,Ix c k A->Ob [w.heap.size,w.heap.size+1] A B->Ix c k B) (h0:I 0 w) (f:Nat->Act->Act)
  (hassign:∀(l k:Nat) (W:World) (K:Act->World->Prop),K (f k a) W->assign.wpIn (Fence.wide.inRound l) (n-1-1) P (Exit.then K (λ_ _ _=>False)) { tmps:=(ps.zip (encs k)).foldl (λt (p,v)=>t.setIfInBounds p v) a.tmps,defers:=[] } W)
  (hbody:∀(l k:Nat) (W:World),w.heap.size+2<=W.heap.size->I k W->k<N->body.wpIn (Fence.wide.inRound l) (n-1-1) P (qbK ys I Ix (k+1) W) (f k a) W)
  (hdone:∀(D:Nat) (W:World),D=w.heap.size->I N W->W.heap[D]?=some (.deferred (some []))->Q .normal { a with defers:={ target:=.collected D,args:=#[] }::a.defers } W)
  (hstop:∀(D:Nat) (c:Code) (k:Nat) (W:World),D=w.heap.size->Ix c k W->W.heap[D]?=some (.deferred (some []))->c.wpIn Fence.wide n P Q { a with defers:={ target:=.collected D,args:=#[] }::a.defers } W) :
  (Code.rangeFunc g ps assign body).wpIn Fence.wide n P Q a w:=by
 have hput:∀(A:World) (o:Obj),Ob [w.heap.size,w.heap.size+1] A (A.putObj (w.heap.size+1) o):=λA o=>⟨rfl,rfl,rfl,by simp,λk _ hn=>World.putObj_heap_other (λe=>hn (by rw[e];simp))⟩
 have hkp:∀(A:World) (o:Obj),Kps ys A (A.putObj (w.heap.size+1) o):=λA o x hx=>World.putObj_heap_other (by have:=hys x hx;omega)
 refine wpIn_rangeFunc ?_
 intro fn hfn
 rw[show Fence.wide.round=none from rfl]
 obtain⟨rec,hrec⟩:∃rec:LoopState->Option Code->Loop,rec=λst pe=>{ state:=st,pending:=pe,fn,tmps:=a.tmps,params:=ps,assign,body,defers:=w.heap.size }:=⟨_,rfl⟩
 obtain⟨V,hV⟩:∃V,(w.alloc (.deferred (some []))).alloc (.loop (rec .ready none))=V:=⟨_,rfl⟩
 have hL:V.heap[w.heap.size+1]?=some (.loop (rec .ready none)):=by
  have h:=World.alloc_heap_new (w.alloc (.deferred (some []))) (.loop (rec .ready none))
  rw[World.size_alloc,hV]at h
  exact h
 have hK:V.heap[w.heap.size]?=some (.deferred (some [])):=by rw[<-hV];exact(Below.heap_alloc _ _ _ (by simp)).trans (World.alloc_heap_new w _)
 have hIV:I 0 V:=by rw[<-hV];exact hI 0 w _ h0 (Ob.of_bl (((Bl.refl w).alloc _).alloc _) _)
 have hBV:Below w.heap.size w V:=by rw[<-hV];exact((Below.refl _ w).alloc (Nat.le_refl _) _).alloc (by simp) _
 refine⟨w.heap.size+1,[{ target:=.collected w.heap.size,args:=#[] }],V,{ target:=.fn (.func gf) lb,args:=#[.func (.yield (w.heap.size+1)) #[] #[]] },V,gf,#[.func (.yield (w.heap.size+1)) #[] #[]]++lb,V,?_,?_,?_,?_,λ_=>h1,?_⟩
 ·rw[<-hV,hrec]
  exact run_enterLoop_outer _ _ _ _ _
 ·simp only[resolve,hg]
  simp[go_sem]
 ·intro f hf
  simp[Target.leads]at hf
  subst hf
  trivial
 ·simp[invoke,go_sem,eg]
 ·refine (hseq (w.heap.size + 1) (λk W => I k W /\ W.heap[w.heap.size + 1]? = some (.loop (rec .ready none)) /\ W.heap[w.heap.size]? = some (.deferred (some [])))
   (λk W=>∃c,Ix c k W/\W.heap[w.heap.size+1]?=some (.loop (rec .done (some c)))/\W.heap[w.heap.size]?=some (.deferred (some []))) V hBV ?_ ?_ ⟨hIV,hL,hK⟩).mono ?_
  ·exact λk A B hs ho=>⟨hI k A B hs.1 (ho.mono (by simp)),(ho.block _ (qV hs.2.1) (by simp)).trans hs.2.1,(ho.block _ (qV hs.2.2) (by simp)).trans hs.2.2⟩
  ·rintro k W ⟨hi,hl,hk⟩ hkN
   have hlt:=qV hl
   have hy:=run_yield (P:=P) (args:=encs k) hl (by rw[hrec];exact hps k)
   rw[hrec]at hy
   refine⟨fn,_,assign,body,hy,roundIn_of_wpIn hfn (hassign _ k W _ ⟨_,run_beginRound hl (by rw[hrec]),?_⟩)⟩
   obtain⟨B,hB⟩:∃B,W.putObj (w.heap.size+1) (.loop { rec .ready none with state:=.busy })=B:=⟨_,rfl⟩
   have hl2:B.heap[w.heap.size+1]?=some (.loop { rec .ready none with state:=.busy }):=by rw[<-hB];exact World.putObj_heap_same hlt
   have hk2:B.heap[w.heap.size]?=some (.deferred (some [])):=by rw[<-hB];exact(World.putObj_heap_other (by omega)).trans hk
   have hw2:Kps ys W B:=by rw[<-hB];exact hkp _ _
   have hsB:w.heap.size+2<=B.heap.size:=by rw[<-hB];simp;omega
   have hiB:I k B:=by rw[<-hB];exact hI k _ _ hi (hput _ _)
   subst hB
   refine wpIn_mono (hbody _ k _ hsB hiB hkN) ?_
   have fin : ∀ (j : Option Code) (U : World), KeepsOthers (W.putObj (w.heap.size + 1) (.loop { rec .ready none with state := .busy })) U -> (Instr.endRound (w.heap.size + 1) j).run P U = .ok (.bool j.isNone) (U.putObj (w.heap.size + 1) (.loop (rec (if j.isNone then .ready else .done) j))) /\ U.heap[w.heap.size + 1]? = some (.loop { rec .ready none with state := .busy }) /\
     (U.putObj (w.heap.size+1) (.loop (rec (if j.isNone then .ready else .done) j))).heap[w.heap.size+1]?=some (.loop (rec (if j.isNone then .ready else .done) j))/\(U.putObj (w.heap.size+1) (.loop (rec (if j.isNone then .ready else .done) j))).heap[w.heap.size]?=some (.deferred (some [])):=λj U hU=>by
    have h3:=hU.same _ _ hl2 rfl
    have h4:=run_endRound (P:=P) j h3
    rw[hrec]at h3 h4 ⊢
    exact⟨h4,h3,World.putObj_heap_same (qV h3),(World.putObj_heap_other (by omega)).trans (hU.same _ _ hk2 rfl)⟩
   have stop : ∀ (c : Code) (U : World), KeepsOthers (W.putObj (w.heap.size + 1) (.loop { rec .ready none with state := .busy })) U -> Ix c (k + 1) U -> ∃ c', Ix c' (k + 1) (U.putObj (w.heap.size + 1) (.loop (rec (if (some c).isNone then .ready else .done) (some c)))) /\ (U.putObj (w.heap.size + 1) (.loop (rec (if (some c).isNone then .ready else .done) (some c)))).heap[w.heap.size + 1]? = some (.loop (rec .done (some c'))) /\
     (U.putObj (w.heap.size+1) (.loop (rec (if (some c).isNone then .ready else .done) (some c)))).heap[w.heap.size]?=some (.deferred (some [])):=λc U hU hx=>by
    obtain⟨_,_,h4,h5⟩:=fin (some c) U hU
    exact⟨c,hIx c _ _ _ hx (hput _ _),h4,h5⟩
   rintro e a3 U hp
   cases e with
   | normal=>
    obtain⟨hU,hb,hi3⟩:=hp
    obtain⟨hr,_,h4,h5⟩:=fin none U hU
    exact⟨_,_,hr,.inl ⟨rfl,⟨hI _ _ _ hi3 (hput _ _),h4,h5⟩,(hw2.trans hb).trans (hkp _ _)⟩⟩
   | ret=>exact⟨_,_,(fin (some .ret) U hp.1).1,.inr ⟨rfl,stop _ U hp.1 hp.2⟩⟩
   | exit i=>exact⟨_,_,(fin (some (.exit i)) U hp.1).1,.inr ⟨rfl,stop _ U hp.1 hp.2⟩⟩
   | goto t=>exact⟨_,_,(fin (some (.goto t)) U hp.1).1,.inr ⟨rfl,stop _ U hp.1 hp.2⟩⟩
   | panic c=>exact hp.elim
   | outgrown=>exact hp.elim
  ·rintro e U ⟨⟨v,rfl⟩,(⟨hi,hl,hk⟩ |⟨k,c,hi,hl,hk⟩)⟩
   ·have h:=run_endLoop (P:=P) hl (by rw[hrec];simp)
    rw[hrec]at h
    exact⟨none,_,h,hdone _ _ rfl (hI _ _ _ hi (hput _ _)) ((World.putObj_heap_other (by omega)).trans hk)⟩
   ·have h:=run_endLoop (P:=P) hl (by rw[hrec];simp)
    rw[hrec]at h
    exact⟨some c,_,h,hstop _ c k _ rfl (hIx c _ _ _ hi (hput _ _)) ((World.putObj_heap_other (by omega)).trans hk)⟩
section
variable {P:Program}{ops:Array Oper}{Q:Exit->Act->World->Prop}{md:Region.Mode}{S:World->Prop}
end
theorem xv (w:World) (a:Option Addr) (len cap:Nat) :
  Calls Tryz.prog 148 #[.slice a len cap] w λe w'=>e=.returned (.func (.func 193) #[] #[.pointer (some ⟨w.heap.size,0,none⟩)])/\Bl w w'/\Blk w' w.heap.size 22 #[.slice a len cap]:=by
 go_enter Tryz.func148,Tryz.ntmps148
 go_wp2_with fail
 go_ret
 exact⟨rfl,slc,bts⟩
end
section
open Go.RowKit
attribute [local go_sem] Oper.semAt_some
theorem Vm (n:Nat) (hn:1<=n) {Bx b len cap:Nat}{a:Option Addr}{zs:List Int}{w:World}(h:RdI w a len cap zs) (hb:∀ad,a=some ad->ad.block=b) (hBs:Bx<w.heap.size) (hlen:len<=1000000) (hB:w.cell? ⟨Bx,0,none⟩=some (.slice a len cap)) :
  qbk n Tryz.prog 193 #[.pointer (some ⟨Bx,0,none⟩)] (λk=>#[.int .i64 ((len-1-k:Nat):Int),.int .i64 (ix zs (len-1-k))]) [Bx,b] len w:=λl J Jx W hW hA hY h0=>by
 have hB:=(hW.cell (p:=⟨Bx,0,none⟩) hBs).trans hB
 have h:=h.bl hW
 refine callsIn_of_wp Tryz.func193 rfl trivial ?_ rfl
 simp only[Tryz.ntmps193,List.size_toArray,List.length_cons,List.length_nil,Nat.reduceAdd,Nat.reduceSub,Array.replicate_succ,Array.replicate_zero,List.push_toArray,List.append_toArray,List.nil_append,List.cons_append]
 gi_wp2
 gi_loopw [3] (λi wr=>∃k j:Nat,k+j=len/\i=.int .i64 ((j:Int)-1)/\J k wr/\Kps [Bx,b] W wr) (λi _=>(intOf i+1).toNat)
 case atStart=>exact⟨0,len,by omega,rfl,h0,Kps.refl _ _⟩
 case round=>
  obtain⟨k,j,hkj,rfl,hJ,hnx⟩:=hrel
  have hB:=(hnx.cell (p:=⟨Bx,0,none⟩) (by simp)).trans hB
  rcases Nat.eq_zero_or_pos j with rfl|hj
  ·have hm1:¬(0:Int)<=((0:Nat):Int)-1:=by omega
   gi_wp2
   go_end0
   exact⟨⟨_,rfl⟩,.inl (by rw[<-hkj];exact hJ)⟩
  ·obtain⟨i,rfl⟩:∃i,j=i+1:=⟨j-1,by omega⟩
   obtain⟨ad,rfl,_,hc⟩:=h.at_ (k:=i) (by omega)
   have hci:=(hnx.cell (p:=ad.add i) (by rw[qQ,hb ad rfl];simp)).trans hc
   obtain⟨fn,tmps,assign,body,hy,hR⟩:=hY k wr hJ (by omega)
   rw[show len-1-k=i by omega]at hy
   rw[show (((i+1:Nat):Int)-1)=(i:Int)by omega]
   have hi0:(0:Int)<=(i:Int):=by omega
   have hil:(i:Int)<(len:Int):=by omega
   gi_wp2
   refine hR.mono ?_
   rintro e W3 (⟨rfl,hJ3,hk3⟩ |⟨rfl,hJx3⟩)
   ·gi_wp2
    go_roundw
    case rel=>exact⟨k+1,i,by omega,by go_num,hJ3,hnx.trans hk3⟩
    case measure=>simp[intOf]
   ·gi_wp2
    refine bodyPost_ret (results_none rfl _ _ _) rfl ?_
    exact⟨⟨_,rfl⟩,.inr ⟨_,hJx3⟩⟩
theorem jo (w:World) {A:Option Addr}{n c N:Nat}(h:IsN w A n c N) (hn:n<=60) (hE:Env w) :
  Calls Tryz.prog 99 #[.slice A n c] w λe w'=>e=.returned (.string (sb (dD N)))/\Bl w w':=by
 have hl:=h.lenN
 have hlH:=Lib.hid hl
 have hok:=qck (N:=N) (by rw[hl];exact hn)
 have hcap:=h.cap
 have h540:=Lib.hid (QE (N:=N) (by rw[hl];exact hn))
 have hE:=Lib.hid hE;rename_i hE_;clear hE_
 rcases Nat.eq_zero_or_pos n with rfl|hpos
 ·obtain rfl:N=0:=Qe.1 (List.length_eq_zero_iff.1 hl)
  have h0:Hid (dD 0=[48]):=Lib.hid (by rw[zG (by omega)];rfl)
  clear hl
  go_enter Tryz.func99,Tryz.ntmps99
  go_wp2_with (go_at_call 103;refine(zz _ h).mono ?_;rw[hok];rintro e w1 ⟨rfl,q1,rfl⟩)
  go_ret
  exact⟨by rw[h0.out];rfl,slc⟩
 ·have hN0:0<N:=ql.1 (by rw[hl];exact hpos)
  have hjoin:Hid (dD N=dD (dx (dig N) (n-1))++xh ((dig N).take (n-1))):=Lib.hid (by rw[<-hl];exact qcS hN0)
  clear hl
  obtain⟨ad,rfl,hlt,hc⟩:=h.atN (k:=n-1) (by omega)
  have hx:=V0 N (n-1)
  obtain⟨m,rfl⟩:∃m,n=m+1:=⟨n-1,by omega⟩
  have hn0:¬((m+1:Nat):Int)=0:=by omega
  have e1:((m+1:Nat):Int)-1=(m:Int):=by omega
  rw[Nat.add_sub_cancel]at hc hx hjoin
  have hmm:(m:Int)<((m+1:Nat):Int):=by omega
  have hmc:(m:Int)<=(c:Int):=by omega
  have hmle:m<=c:=by omega
  refine(callsIn_wide (n:=5)).1 ?_
  refine callsIn_of_wp_marks Tryz.func99 rfl trivial ?_ rfl
  simp only[Tryz.ntmps99,List.size_toArray,List.length_cons,List.length_nil,Nat.reduceAdd,Nat.reduceSub,Array.replicate_succ,Array.replicate_zero,List.push_toArray,List.append_toArray,List.nil_append,List.cons_append]
  refine wpIn_wide.2 ?_
  go_upto_region 6 with (go_at_call 103;refine(zz _ h).mono ?_;rw[hok];rintro e w1 ⟨rfl,hq1⟩;have hb1:Bl w w1:=vV hq1;clear hq1)
  have hsz1:=hb1.size
  refine qe (λW=>Bl w W/\∃b,BdX w1.heap.size b [] [] W/\b=w1.heap.size) ⟨slc,_,BdX.fresh w1 [] (by simp),rfl⟩ ?_
  rintro W0 ⟨hb0,b,hBd,hbe⟩
  rw[<-hbe]
  have hbw:w.heap.size<=b:=by omega
  clear hbe
  have hc0:=(Bl.qeV hb0 (p:=ad.add m) (by rw[qQ];exact hlt)).trans hc
  have hdl:=yx (N:=dx (dig N) m) (by omega)
  have hsz0:=hb0.size
  have hsz01:w1.heap.size<=W0.heap.size:=by have:=hBd.lt;have:=hBd.le;omega
  go_upto_region 8 with (first |(go_at_call 77;refine(zu _ (dx (dig N) m) (by omega) (hE.out.bl hb0)).mono ?_;rintro e w2 ⟨rfl,hb2⟩;have hbW:=hb0.next hb2;have hBd2:=hBd.bl hb2) |(go_at_call 121;refine(zn w1.heap.size b [] (dD (dx (dig N) m)) [] _ hBd2 (by simp;omega) (Nat.le_trans hsz01 hb2.size) (by simp)).mono ?_;rintro e w3 ⟨rfl,hBd3,hB3,_,_⟩;have hb3:Bl w w3:=Below.trans hbW (hB3.mono hsz1)))
  clear hc0 hBd hBd2 hB3
  have hmr:(m:Int)<=((m+1:Nat):Int):=by omega
  go_wp2_with (go_at_call 148;refine(xv _ _ _ _).mono ?_;rintro e w6 ⟨rfl,hb6,hBox⟩)
  have hb36:=hb3.next hb6
  have hsz3:=hb3.size
  have hsz6:=hb6.size
  have hbx6:=hBox.lt
  have hRd:=(h.cut (m:=m) (by omega)).bl hb36
  have hBd6:BdX w1.heap.size b (dD (dx (dig N) m)) [w3.heap.size,w6.heap.size,w6.heap.size+1] w6:=(hBd3.sub λy hy=>by simp at hy;omega).bl hb6
  have hb1le:=hBd6.le
  have hblt:=hBd3.lt
  have hm60:m<=60:=by omega
  have htop:Hid (dD N=dD (dx (dig N) m)++xh ((dig N).take (m-0))):=by rw[Nat.sub_zero];exact hjoin
  refine(wpIn_wide (n:=5)).1 ?_
  refine ui (by omega) (gf := 193) (lb := #[.pointer (some ⟨w3.heap.size, 0, none⟩)]) rfl (enters_of Tryz.func193 (by kernel_rfl) rfl)
   (Vm 4 (by omega) hRd (b:=ad.block) (λad' e=>by cases e;rfl) hbx6 (by omega) (hBox.cell 0)) (by simp;omega) (λ_=>rfl)
   (λk W=>∃t,Hid (dD N=t++xh ((dig N).take (m-k)))/\BdX w1.heap.size b t [w3.heap.size,w6.heap.size,w6.heap.size+1] W/\Bl w W) (λ_ _ _=>False)
   (λk A B hs ho=>by
    obtain⟨t,h1,h2,h3⟩:=hs
    exact⟨t,h1,h2.ob (ho.mono (by intro b hb;simp at hb ⊢;omega)),Bl.ob h3 ho (by intro b hb;simp at hb;omega)⟩) (λ_ _ _ _ h _=>h)
   ⟨_,htop,hBd6,hb36⟩ (λk a=>{ tmps:=((a.tmps.setIfInBounds 27 (.int .i64 ((m-1-k:Nat):Int))).setIfInBounds 28 (.int .i64 (ix (qu ((dig N).take m)) (m-1-k)))).setIfInBounds 6 (.int .i64 (ix (qu ((dig N).take m)) (m-1-k))),defers:=[] }) ?assign ?body ?done ?stop
  case assign=>
   intro l k W K hK
   gi_wp2
   exact hK
  case body=>
   rintro l k W hWs ⟨t,he,hB,hbW⟩ hk
   have htl:t.length<=540:=by
    have h1:=congrArg List.length he.out
    have h2:=h540.out
    rw[List.length_append]at h1
    omega
   obtain⟨j,hj⟩:∃j,m-k=j+1:=⟨m-k-1,by omega⟩
   have hxk:=V0 N j
   have hpl:(Xi (dD (dx (dig N) j)) 9).length<=100:=by
    have:=yx (N:=dx (dig N) j) (by omega)
    unfold Xi;rw[List.length_append,List.length_replicate];omega
   have hdl2:=yx (N:=dx (dig N) j) (by omega)
   have he2:Hid (dD N=(t++Xi (dD (dx (dig N) j)) 9)++xh ((dig N).take (m-(k+1)))):=Lib.hid (by rw[he.out,hj,kp (by rw[hlH.out];omega),List.append_assoc,show m-(k+1)=j by omega])
   have hx0:ix (qu ((dig N).take m)) (m-1-k)=((dx (dig N) j:Nat):Int):=by rw[zN,show m-1-k=j by omega,X5 (by omega)]
   rw[hx0]
   have hzW:=hbW.size
   clear he hj hx0
   gi_wp2_with (first
    | (refine⟨trivial,?_⟩;gi_at_call 77;refine(CallsIn.inRound l (callsIn_wide.2 (zu W (dx (dig N) j) (by omega) (hE.out.bl hbW)))).mono ?_;rintro e w7 ⟨rfl,hb7⟩;have hB7:=hB.bl hb7)
    | (refine⟨trivial,?_⟩;gi_at_call 149;refine(CallsIn.inRound l (callsIn_wide.2 (VZ w7 (dD (dx (dig N) j)) 9 (by omega) (by omega)))).mono ?_;rintro e w8 ⟨rfl,hb8⟩;have hB8:=hB7.bl hb8)
    | (refine⟨trivial,?_⟩;gi_at_call 121;refine(CallsIn.inRound l (callsIn_wide.2 (zn w1.heap.size b t (Xi (dD (dx (dig N) j)) 9) [w3.heap.size,w6.heap.size,w6.heap.size+1] w8 hB8 (by omega) (by have:=hb7.size;have:=hb8.size;omega) (λx hx=>by simp at hx;have:=hb7.size;have:=hb8.size;omega)))).mono ?_;rintro e w9 ⟨rfl,hB9,hbl9,hko9,hkp9⟩))
   have h78:Bl W w8:=hb7.next hb8
   have hs8:=h78.size
   refine⟨(Bl.others h78).trans hko9,?_,⟨_,he2,hB9,Below.trans (hbW.next h78) (hbl9.mono hsz1)⟩⟩
   intro x hx
   simp only[List.mem_cons,List.not_mem_nil,or_false]at hx
   rcases hx with rfl|rfl
   ·exact(hkp9 _ (by simp)).trans (h78.block _ (by omega))
   ·exact(hbl9.block _ (by omega)).trans (h78.block _ (by omega))
  case done=>
   rintro D W hD ⟨t,he,hB,hbW⟩ hK
   subst hD
   rw[Nat.sub_self,List.take_zero,xh,List.append_nil]at he
   have hBz:w1.heap.size<=W.heap.size:=by have:=hB.le;have:=hB.lt;omega
   have hbD:b≠w6.heap.size:=by omega
   go_wp2_with (go_at_call 122;refine(Tryz.Builder_String_any_k w1.heap.size b t _ (Lib.IsBuilderF.of hB.is) hBz).mono ?_;rintro e w9 ⟨rfl,_,hbl9,hO9⟩)
   have hK9:=hO9 _ _ hK (by intro e;cases e;exact hbD rfl) (by intro c fz e;cases e)
   refine⟨by simp,.inl ⟨_,_,rfl,run_takeDeferred hK9,?_⟩⟩
   have hbw9:Bl w w9:=Below.trans hbW (hbl9.mono hsz1)
   have hO:Ob [w6.heap.size] w9 (w9.putObj w6.heap.size (.deferred none)):=⟨rfl,rfl,rfl,by simp,λk _ hn=>World.putObj_heap_other (λe=>hn (by rw[e];simp))⟩
   exact⟨.string (sb (dD N)),by rw[he.out];simp[results,Tryz.results99,go_sem,sb],⟨rfl,Bl.ob hbw9 hO (by intro b hb;simp at hb;omega)⟩⟩
  case stop=>
   rintro D c k W _ h _
   exact h.elim
end
theorem qb3 {s:Bool}{x:Int}(hs:s=decide (x<0)) (h:(dig x.natAbs).length<=60):okB s (qu (dig x.natAbs))=true:=by
 refine yo ⟨⟨_,rfl,h⟩,λe=>?_⟩
 rw[qg]
 rw[hs]at e
 exact ql.2 (by have:=of_decide_eq_true e;omega)
theorem kD {x:Int}(h:(dig x.natAbs).length<=60):(itx x).length<=541:=by
 have:=QE h
 unfold itx
 split
 ·rw[List.length_cons];omega
 ·omega
open Classical in
noncomputable def rtx (x:Int) (D:Nat):List UInt8:=if okR (raw x D)=true then ftx x D else []
theorem Qk (w:World) {s:Bool}{A:Option Addr}{n c:Nat}{x:Int}(h:IsB w s A n c x) (hn:n<=60) (hE:Env w) :
  Calls Tryz.prog 98 #[.agg #[.bool s,.slice A n c]] w λe w'=>e=.returned (.string (sb (itx x)))/\Bl w w':=by
 have hE:=Lib.hid hE;rename_i hE_;clear hE_
 have hl:=h.2.lenN
 have h60:(dig x.natAbs).length<=60:=by rw[hl];exact hn
 have hok:=qb3 h.1 h60
 have hsz:=Lib.hid (QE h60)
 clear hl h60
 rcases Int.lt_or_le x 0 with hx|hx
 ·obtain rfl:s=true:=by rw[h.1];exact decide_eq_true hx
  have hi:Hid (itx x=[45]++dD x.natAbs):=Lib.hid (by unfold itx;rw[if_pos hx];rfl)
  have hadd:∀W,(Op.stringOp .add ⟨#[45]⟩ (sb (dD x.natAbs))).run Tryz.prog W=.ok (.string (sb ([45]++dD x.natAbs))) W:=λW=>jf (P:=Tryz.prog) W [45] (dD x.natAbs) (by simp) (by have:=hsz.out;omega)
  go_enter Tryz.func98,Tryz.ntmps98
  go_upto_region 1 with (fail)
  refine qe (λW=>Bl w W/\∃g,Blk W g 24 #[.bool true,.slice A n c]/\g=w.heap.size) ⟨slc,_,by exact bts,rfl⟩ ?_
  rintro W0 ⟨hb0,g,hg,hge⟩
  rw[<-hge]
  clear hge
  obtain⟨r0,r1⟩:=bx2 hg
  go_wp2_with (first
   | (go_at_call 102;refine(qF _ (h.2.bl hb0)).mono ?_;rw[hok];rintro e w1 ⟨rfl,hb1⟩;obtain⟨y0,y1⟩:=bx2 (hg.bl hb1);have hbw1:=hb0.next hb1)
   | (go_at_call 99;refine(jo _ (h.2.bl hbw1) hn (hE.out.bl hbw1)).mono ?_;rintro e w2 ⟨rfl,hb2⟩))
  go_ret
  exact⟨by rw[hi.out];rfl,slc⟩
 ·obtain rfl:s=false:=by rw[h.1];exact decide_eq_false (by omega)
  have hi:Hid (itx x=dD x.natAbs):=Lib.hid (by unfold itx;rw[if_neg (by omega)])
  go_enter Tryz.func98,Tryz.ntmps98
  go_upto_region 1 with (fail)
  refine qe (λW=>Bl w W/\∃g,Blk W g 24 #[.bool false,.slice A n c]/\g=w.heap.size) ⟨slc,_,by exact bts,rfl⟩ ?_
  rintro W0 ⟨hb0,g,hg,hge⟩
  rw[<-hge]
  clear hge
  obtain⟨r0,r1⟩:=bx2 hg
  go_wp2_with (first
   | (go_at_call 102;refine(qF _ (h.2.bl hb0)).mono ?_;rw[hok];rintro e w1 ⟨rfl,hb1⟩;obtain⟨y0,y1⟩:=bx2 (hg.bl hb1);have hbw1:=hb0.next hb1)
   | (go_at_call 99;refine(jo _ (h.2.bl hbw1) hn (hE.out.bl hbw1)).mono ?_;rintro e w2 ⟨rfl,hb2⟩))
  go_ret
  exact⟨by rw[hi.out];rfl,slc⟩
theorem zS (w:World) {s:Bool}{A:Option Addr}{n c:Nat}{B:Option Addr}{m d:Nat}{x:Int}{D:Nat}(h:IsR w s A n c B m d x D) (hn:n<=60) (hm:m<=60) (hE:Env w) :
  Calls Tryz.prog 45 #[.agg #[.bool s,.slice A n c,.slice B m d]] w λe w'=>e=.returned (.string (sb (rtx x D)))/\Bl w w':=by
 have hE:=Lib.hid hE;rename_i hE_;clear hE_
 cases hok:okR (raw x D)with
 | false=>
  have hr:Hid (rtx x D=[]):=Lib.hid (by unfold rtx;rw[if_neg (by rw[hok];decide)])
  go_enter Tryz.func45,Tryz.ntmps45
  go_upto_region 1 with (fail)
  refine qe (λW=>Bl w W/\∃g,Blk W g 26 #[.bool s,.slice A n c,.slice B m d]/\g=w.heap.size) ⟨slc,_,by exact bts,rfl⟩ ?_
  rintro W0 ⟨hb0,g,hg,hge⟩
  rw[<-hge]
  clear hge
  obtain⟨r0,r1,r2⟩:=bx3 hg
  go_wp2_with (go_at_call 48;refine(yK (r:=raw x D) _ (RdR.bl h hb0)).mono ?_;rw[hok];rintro e w1 ⟨rfl,hb1⟩)
  go_ret
  exact⟨by rw[hr.out];rfl,slc⟩
 | true=>
  by_cases hD:D=1
  ·have hr:Hid (rtx x D=itx x):=Lib.hid (by unfold rtx;rw[if_pos hok];unfold ftx;rw[if_pos hD])
   subst hD
   go_enter Tryz.func45,Tryz.ntmps45
   go_upto_region 1 with (fail)
   refine qe (λW=>Bl w W/\∃g,Blk W g 26 #[.bool s,.slice A n c,.slice B m d]/\g=w.heap.size) ⟨slc,_,by exact bts,rfl⟩ ?_
   rintro W0 ⟨hb0,g,hg,hge⟩
   rw[<-hge]
   clear hge
   obtain⟨r0,r1,r2⟩:=bx3 hg
   go_wp2_with (first
    | (go_at_call 48;refine(yK (r:=raw x 1) _ (RdR.bl h hb0)).mono ?_;rw[hok];rintro e w1 ⟨rfl,hb1⟩;have hg1:=hg.bl hb1;obtain⟨y0,y1,y2⟩:=bx3 hg1;have hbw1:=hb0.next hb1)
    | (go_at_call 97;refine(QF _ (RdI.bl h.den hbw1)).mono ?_;rintro e w2 ⟨rfl,hq2⟩;have hb2:=vV hq2;clear hq2;obtain⟨z0,z1,z2⟩:=bx3 (hg1.bl hb2);have hbw2:=hbw1.next hb2)
    | (go_at_call 98;refine(Qk _ (IsB.bl (IsR.b h) hbw2) hn (hE.out.bl hbw2)).mono ?_;rintro e w3 ⟨rfl,hb3⟩))
   go_ret
   exact⟨by rw[hr.out];rfl,slc⟩
  ·have hr:Hid (rtx x D=itx x++47::dD D):=Lib.hid (by unfold rtx;rw[if_pos hok];unfold ftx;rw[if_neg hD])
   have hlen1:=kD (x:=x) (by have:=h.num.lenN;omega)
   have hlen2:=QE (N:=D) (by have:=h.dn.lenN;omega)
   have hadd1:∀W,(Op.stringOp .add (sb (itx x)) ⟨#[47]⟩).run Tryz.prog W=.ok (.string (sb (itx x++[47]))) W:=λW=>jf (P:=Tryz.prog) W (itx x) [47] (by omega) (by simp)
   have hadd2:=λW=>jf (P:=Tryz.prog) W (itx x++[47]) (dD D) (by rw[List.length_append,List.length_singleton];omega) (by omega)
   go_enter Tryz.func45,Tryz.ntmps45
   go_upto_region 1 with (fail)
   refine qe (λW=>Bl w W/\∃g,Blk W g 26 #[.bool s,.slice A n c,.slice B m d]/\g=w.heap.size) ⟨slc,_,by exact bts,rfl⟩ ?_
   rintro W0 ⟨hb0,g,hg,hge⟩
   rw[<-hge]
   clear hge
   obtain⟨r0,r1,r2⟩:=bx3 hg
   go_wp2_with (first
    | (go_at_call 48;refine(yK (r:=raw x D) _ (RdR.bl h hb0)).mono ?_;rw[hok];rintro e w1 ⟨rfl,hb1⟩;have hg1:=hg.bl hb1;obtain⟨y0,y1,y2⟩:=bx3 hg1;have hbw1:=hb0.next hb1)
    | (go_at_call 97;refine(Vk _ (RdI.bl h.den hbw1) hD).mono ?_;rintro e w2 ⟨rfl,hq2⟩;have hb2:=vV hq2;clear hq2))
   have hg:=hg1.bl hb2
   have hbw2:=hbw1.next hb2
   clear r0 r1 r2 y0 y1 y2 hg1 hb0 hb1 hb2 hbw1 hD hok
   go_region_held3 (λw'=>(w'.cell? ⟨g,0,none⟩=some (.bool s)/\w'.cell? ⟨g,1,none⟩=some (.slice A n c)/\w'.cell? ⟨g,2,none⟩=some (.slice B m d))) (first|exact(bx3 (T:=26) bts)) (first |(go_at_call 98;refine(Qk _ (IsB.bl (IsR.b h) (show Bl w _ from slc)) hn (hE.out.bl (show Bl w _ from slc))).mono ?_;rintro e w3 ⟨rfl,hb3⟩) |(go_at_call 99;refine(jo _ (RdI.bl h.den (show Bl w _ from slc)) hm (hE.out.bl (show Bl w _ from slc))).mono ?_;rintro e w4 ⟨rfl,hb4⟩))
   all_goals (go_wp2_with fail)
   all_goals go_ret
   all_goals exact⟨by rw[hr.out];rfl,slc⟩
theorem Ks (w:World) (s:ByteArray) {f e:Nat}(hfe:f<=e) (hes:e<=s.size) :
  ∃(cap:Nat) (W:World),(convert 9 34 (.string (s.extract f e))).run Tryz.prog w=.ok (.slice (some ⟨w.heap.size,0,none⟩) (e-f) cap) W/\Bl w W/\w.heap.size<W.heap.size/\∀j,j<e-f->W.cell? ⟨w.heap.size,j,none⟩=some (.int .u8 ((bt s (f+j)).toNat:Int)):=by
 have hsz:(s.extract f e).size=e-f:=by rw[ByteArray.size_extract];omega
 have hr:=Lib.run_convert_string_bytes (P:=Tryz.prog) w 9 34 5 (s.extract f e) Tryz.underlying9 Tryz.underlying34 Tryz.underlying5
 rw[hsz]at hr
 refine⟨_,_,hr,⟨rfl,rfl,rfl,by rw[Lib.bytesWorld_size];omega,λk hk=>Lib.bytesWorld_at_old w 5 _ k hk⟩,by rw[Lib.bytesWorld_size];omega,λj hj=>?_⟩
 rw[Lib.bytesWorld_cell w 5 _ j (by rw[hsz];exact hj),Lib.extract_data]
 congr 3
 unfold bt
 rw[List.getD_eq_getElem?_getD,List.getD_eq_getElem?_getD,List.getElem?_take,if_pos hj,List.getElem?_drop]
theorem XE {s:ByteArray}{f k:Nat}(hi:f+k<s.size):vD (sg (bl s) f (f+(k+1)))=10*vD (sg (bl s) f (f+k))+((bt s (f+k)).toNat-48):=US (s:=s) (f:=f) (i:=f+k) (Nat.le_add_right _ _) hi
theorem zO (w:World) (s:ByteArray) (hs:s.size<=1048576) (hE:Env w) :
  Calls Tryz.prog 83 #[.string s] w (qc0 w s):=by
 have hE:=Lib.hid hE;rename_i hE_;clear hE_
 cases hd:yH (bl s)with
 | false=>
  have hg:Hid (Q4 (bl s)=false):=Lib.hid (by unfold Q4;rw[hd];rfl)
  go_enter Tryz.func83,Tryz.ntmps83
  go_wp2_with (go_at_call 140;refine(QM _ _ (by omega)).mono ?_;rw[hd];rintro e w1 ⟨rfl,q1,rfl⟩)
  go_ret2
  exact⟨.inr ⟨hg.out,rfl⟩,slc⟩
 | true=>
  have hpos:=Kj hd
  have hall:=Lib.hid (K2 hd)
  by_cases h540:s.size<=540
  ·have h5:¬(540:Int)<(s.size:Int):=by omega
   go_enter Tryz.func83,Tryz.ntmps83
   go_wp2_with (go_at_call 140;refine(QM _ _ (by omega)).mono ?_;rw[hd];rintro e w1 ⟨rfl,hq1⟩;have hb1:Bl w w1:=vV hq1;clear hq1)
   go_loopw [4,5] (λv E wr=>∃(E':Int) (d:List Nat),E=.int .i64 E'/\kV (bl s) E' d/\OwL 3 w.heap.size wr v (qu d)/\Bl w wr) (λ_ E _=>(intOf E).toNat)
   case atStart=>exact⟨_,[],rfl,by have:=kV.start (bl s);rw[zZ]at this;exact this,OwL.empty (cur:=#[]) w1 hb1.size (Nat.zero_le _),slc⟩
   case round=>
    obtain⟨E',d,rfl,hP,hown,hb⟩:=hrel
    have hlo:=hP.lo
    have hle:=hP.len
    rw[zZ]at hle
    have hdl:=hP.short (by rw[zZ];exact h540)
    have hlen:(qu d).length<=1099511627776:=by rw[qg];omega
    rcases Int.lt_or_le 0 E' with hE'|hE'
    ·obtain⟨e,rfl⟩:∃e:Nat,E'=(e:Int):=⟨E'.toNat,by omega⟩
     have he0:0<e:=by omega
     have hes:e<=s.size:=by omega
     have hbls:=zZ s
     obtain⟨f,hf⟩:∃f,f=e-9:=⟨_,rfl⟩
     have hmax:max (0:Int) ((e:Int)-9)=(f:Int):=by omega
     have hfe:(f:Int)<=(e:Int):=by omega
     have hei:(e:Int)<=(s.size:Int):=by omega
     have hstep:=hP.step he0 hall.out (f:=f) (by omega)
     have hf:=Lib.hid hf;rename_i hf_;clear hf_
     clear hP
     obtain⟨cap,Wc,hcv,hbc,hgc,hcc⟩:=Ks wr s (f:=f) (e:=e) (by omega) hes
     have hbW:=hb.next hbc
     have hownc:=hown.bl hbc
     obtain⟨g,hg⟩:∃g,wr.heap.size=g:=⟨_,rfl⟩
     rw[hg]at hcv hcc hgc
     obtain⟨n,hn⟩:∃n,e-f=n:=⟨_,rfl⟩
     rw[hn]at hcv hcc
     have hn9:n<=9:=by have:=hf.out;omega
     have hfn:f+n=e:=by omega
     obtain⟨wo,hwo⟩:∃wo:World,wo=Wc:=⟨_,rfl⟩
     subst hwo
     clear hg hn hown
     go_wp2_with fail
     clear hcv
     go_loopw [6,32] (λx i w2=>∃k:Nat,x=.int .i64 ((vD (sg (bl s) f (f+k)):Nat):Int)/\i=.int .i64 (k:Int)/\k<=n/\w2=wo) (λ_ i _=>n-(intOf i).toNat)
     case atStart=>exact⟨0,by rw[Nat.add_zero,qcX];rfl,rfl,by omega,rfl⟩
     case round=>
      obtain⟨k,rfl,rfl,hkn,rfl⟩:=hrel
      have hx9:=uK hall.out (l:=bl s) (a:=f) (b:=f+k) (by omega) (by omega)
      rcases Nat.lt_or_ge k n with hk|hk
      ·have hkI:(k:Int)<(n:Int):=by omega
       have hck:=hcc k hk
       have hdg:=qab (i:=f+k) hall.out (by omega)
       have hst:=XE (s:=s) (f:=f) (k:=k) (by omega)
       obtain⟨x,hx⟩:∃x:Nat,(bt s (f+k)).toNat=x:=⟨_,rfl⟩
       obtain⟨y,hy⟩:∃y:Nat,vD (sg (bl s) f (f+k))=y:=⟨_,rfl⟩
       obtain⟨z,hz3⟩:∃z:Nat,vD (sg (bl s) f (f+(k+1)))=z:=⟨_,rfl⟩
       rw[hx]at hck hdg hst
       rw[hy]at hst hx9 ⊢
       rw[hz3]at hst
       have hz4:=Lib.hid hz3
       have hst2:=Lib.hid hst
       clear hx hy hz3 hst hcc
       go_wp2_with fail
       go_roundw
       case rel=>exact⟨k+1,by rw[hz4.out];have:=hst2.out;go_num,by go_num,by omega,by simp⟩
       case measure=>simp[intOf];omega
      ·obtain rfl:k=n:=by omega
       obtain⟨y,hy⟩:∃y:Nat,vD (sg (bl s) f e)=y:=⟨_,rfl⟩
       have hfn2:=Lib.hid hfn
       rw[hfn,hy]
       rw[hfn,hy]at hx9
       rw[hy]at hstep
       clear hy hfn hcc
       go_wp2_with (at_builtin;go_must (refine qo (w0:=w) qn Tryz.underlying22 rfl (.tmp 43) (.tmp 45) rfl _ (qu d) rfl hownc hbW 1 rfl hlen ?_);intro v' w1 hown1 hb1)
       go_roundw
       case rel=>exact⟨(e:Int)-9,d++[y],by first|rfl|go_num,hstep,by rw[qD];exact hown1,hb1⟩
       case measure=>simp[intOf];omega
    ·have hv:=Lib.hid (hP.stop hE')
     have hE0:¬(0:Int)<E':=by omega
     obtain⟨A,c,hvv,ho⟩:=hown.own (by rw[qg];omega)
     subst hvv
     have hdg:=hP.digs
     clear hP
     have hcmp:((sb (dD (vD (bl s)))).toList == s.toList)=Q4 (bl s):=by
      rw[Bool.eq_iff_iff,ZA,yl,yl,X7,beq_iff_eq]
      exact⟨λh=>⟨h,by rw[zZ];exact h540⟩,λh=>h.1⟩
     cases hg:Q4 (bl s)with
     | true=>
      rw[hg]at hcmp
      have hg:=Lib.hid hg;rename_i hg_;clear hg_
      go_wp2_with (first |(go_at_call 141;refine(zQ _ (OwI.rd ho) hdg).mono ?_;rintro e w1 ⟨m,rfl,hm,ht,hq⟩;have ho1:OwI 3 w.heap.size w1 A m c (qu (dig (vD (bl s)))):=by { rw[hv.out];exact(OwI.q ho hq).cutN hm ht };have hbt:=hb.next (vV hq);clear hq) |(go_at_call 99;refine(jo _ ho1.rd (by rw[qg]at hm;omega) (hE.out.bl hbt)).mono ?_;rintro e w2 ⟨rfl,hb2⟩))
      go_ret2
      exact⟨.inl ⟨hg.out,_,_,_,rfl,ho1.bl hb2⟩,hbt.next hb2⟩
     | false=>
      rw[hg]at hcmp
      have hg:=Lib.hid hg;rename_i hg_;clear hg_
      go_wp2_with (first |(go_at_call 141;refine(zQ _ (OwI.rd ho) hdg).mono ?_;rintro e w1 ⟨m,rfl,hm,ht,hq⟩;have ho1:OwI 3 w.heap.size w1 A m c (qu (dig (vD (bl s)))):=by { rw[hv.out];exact(OwI.q ho hq).cutN hm ht };have hbt:=hb.next (vV hq);clear hq) |(go_at_call 99;refine(jo _ ho1.rd (by rw[qg]at hm;omega) (hE.out.bl hbt)).mono ?_;rintro e w2 ⟨rfl,hb2⟩))
      go_ret2
      exact⟨.inr ⟨hg.out,rfl⟩,hbt.next hb2⟩
  ·have hg:Hid (Q4 (bl s)=false):=Lib.hid (by unfold Q4;rw[hd,zZ];simp[h540])
   have h5:(540:Int)<(s.size:Int):=by omega
   go_enter Tryz.func83,Tryz.ntmps83
   go_wp2_with (go_at_call 140;refine(QM _ _ (by omega)).mono ?_;rw[hd];rintro e w1 ⟨rfl,q1,rfl⟩)
   go_ret2
   exact⟨.inr ⟨hg.out,rfl⟩,slc⟩
end Go.Proofs.YtjaapemopbbfaaaGreatDoor
