/- Lemmas. -/
import Derived.OrdersHeld
import Derived.RegionTactic
import Derived.OrdersIn
import Derived.RangeFuncNested
import Derived.RangeFuncBound
import Derived.RangeFuncCalls
import Derived.RangeFuncLeaves
import Derived.Shelf.Abstract
import Derived.Shelf.RegionOpen
import Derived.WalkKit
import Derived.OwnWalkIn
import Derived.TacticsInMore
import Derived.LoopNIn
import Derived.LoopIn
import Derived.Test.YtmkcacgmnnlddaaGreatRows
import Derived.Test.YtmkcacgmnnlddaaGreatPCoarsenM10
import Derived.Test.YtmkcacgmnnlddaaGreatPCoarsenM08
import Derived.Test.YtmkcacgmnnlddaaGreatPCoarsenM27
import Derived.Lib.MinMax
import Derived.Test.YtmkcacgmnnlddaaGreatPCoarsenM29
import Derived.Test.YtmkcacgmnnlddaaGreatPCoarsenM28
import Derived.Deep.Cut
import Derived.Deep.DeepCutAuto
import Derived.Test.YtmkcacgmnnlddaaGreatPCoarsenM03
namespace Go.Proofs.YtmkcacgmnnlddaaGreat
section
open Go.RowKit
attribute [local go_sem] Oper.semAt_some

theorem Bl.others {w w':World}(h:Bl w w'):KeepsOthers w w':=⟨h.size,fun k _ hk _ =>(h.block k (heap_lt hk)).trans hk⟩
/-- The blocks ys are kept. -/
def Kps (ys:List Nat) (A B:World):Prop:=∀ x ∈ ys,B.heap[x]?=A.heap[x]?
theorem Kps.refl (ys:List Nat) (A:World):Kps ys A A:=fun _ _=> rfl
theorem Kps.trans {ys:List Nat}{A B C:World}(h:Kps ys A B) (k:Kps ys B C):Kps ys A C:=fun x hx =>(k x hx).trans (h x hx)
theorem Kps.cell {ys:List Nat}{A B:World}(h:Kps ys A B) {p:Addr}(hx:p.block ∈ ys):B.cell? p=A.cell? p:=World.cell?_of_block (h _ hx)
theorem Kps.of_ob {ys xs:List Nat}{A B:World}(h:Ob xs A B) (hy:∀ y ∈ ys,y < A.heap.size∧y ∉ xs):Kps ys A B:=fun x hx=> h.block x (hy x hx).1 (hy x hx).2
/-- An iterator that hands N rounds, the k-th one the values encs k; its rounds keep the blocks ys. -/
def CntSeq (n:Nat) (P:Program) (g:Nat) (lb:Array Value) (encs:Nat→Array Value) (ys:List Nat) (N:Nat) (w:World):Prop :=
  ∀ (l : Nat) (J Jx : Nat → World → Prop) (W : World), Below w.heap.size w W → (∀ k A B, J k A → Ob [] A B → J k B) →
    (∀ k W1,J k W1→k < N→YieldAt Fence.wide (n - 1) P l (encs k) W1 fun e W' =>(e=.returned (.bool true)∧J (k+1) W'∧Kps ys W1 W')∨(e=.returned (.bool false)∧Jx (k+1) W')) →
    J 0 W→CallsIn Fence.wide n P g (#[.func (.yield l) #[] #[]] ++ lb) W fun e W' =>(∃ v,e=.returned v)∧(J N W'∨∃ k,Jx k W')
/-- What a round leaves. -/
def cntPost (ys:List Nat) (I:Nat→World→Prop) (Ix:Code→Nat→World→Prop) (k:Nat) (W:World):Exit→Act→World→Prop
  | .normal,_,W'=> KeepsOthers W W'∧Kps ys W W'∧I k W'
  | .ret,_,W'=> KeepsOthers W W'∧Ix .ret k W'
  | .exit i,_,W'=> KeepsOthers W W'∧Ix (.exit i) k W'
  | .goto t,_,W'=> KeepsOthers W W'∧Ix (.goto t) k W'
  | .panic _,_,_=> False
  | .outgrown,_,_=> False
/-- A range over such an iterator. (The book-keeping is the library's own, of wpIn_rangeFunc_ownF; here the rounds are counted, so that the body knows which value it is handed.) -/
theorem wp_rangeCnt {n:Nat}{P:Program}{g:Operand}{ps:Array Tmp}{assign body:Code}{Q:Exit→Act→World→Prop}{a:Act}{w:World}(h1:1≤n) {gf:Nat}{lb:Array Value}
    (hg:a.eval g=.func (.func gf) #[] lb) (eg:∀ args w,(callFunc gf args).run P w=.ok (.enter gf args) w) {encs:Nat→Array Value}{ys:List Nat}{N:Nat}(hseq:CntSeq (n - 1) P gf lb encs ys N w) (hys:∀ y ∈ ys,y < w.heap.size) (hps:∀ k,(encs k).size=ps.size)
    (I:Nat→World→Prop) (Ix:Code→Nat→World→Prop) (hI:∀ k A B,I k A→Ob [w.heap.size,w.heap.size+1] A B→I k B) (hIx:∀ c k A B,Ix c k A→Ob [w.heap.size,w.heap.size+1] A B→Ix c k B) (h0:I 0 w) (f:Nat→Act→Act)
    (hassign:∀ (l k:Nat) (W:World) (K:Act→World→Prop),K (f k a) W→assign.wpIn (Fence.wide.inRound l) (n - 1 - 1) P (Exit.then K (fun _ _ _=> False)) { tmps:=(ps.zip (encs k)).foldl (fun t (p,v)=> t.setIfInBounds p v) a.tmps,defers:=[] } W)
    (hbody:∀ (l k:Nat) (W:World),w.heap.size+2≤W.heap.size→I k W→k < N→body.wpIn (Fence.wide.inRound l) (n - 1 - 1) P (cntPost ys I Ix (k+1) W) (f k a) W)
    (hdone:∀ (D:Nat) (W:World),D=w.heap.size→I N W→W.heap[D]?=some (.deferred (some []))→Q .normal { a with defers:={ target:=.collected D,args:=#[] } :: a.defers } W)
    (hstop:∀ (D:Nat) (c:Code) (k:Nat) (W:World),D=w.heap.size→Ix c k W→W.heap[D]?=some (.deferred (some []))→c.wpIn Fence.wide n P Q { a with defers:={ target:=.collected D,args:=#[] } :: a.defers } W) :
    (Code.rangeFunc g ps assign body).wpIn Fence.wide n P Q a w:=by
  have hput:∀ (A:World) (o:Obj),Ob [w.heap.size,w.heap.size+1] A (A.putObj (w.heap.size+1) o):=fun A o =>⟨rfl,rfl,rfl,by simp,fun k _ hn=> World.putObj_heap_other (fun e=> hn (by rw[e];simp))⟩
  have hkp:∀ (A:World) (o:Obj),Kps ys A (A.putObj (w.heap.size+1) o):=fun A o x hx=> World.putObj_heap_other (by have:=hys x hx;omega)
  refine wpIn_rangeFunc ?_
  intro fn hfn
  rw[show Fence.wide.round=none from rfl]
  obtain⟨rec,hrec⟩:∃ rec:LoopState→Option Code→Loop,rec=fun st pe=> { state:=st,pending:=pe,fn,tmps:=a.tmps,params:=ps,assign,body,defers:=w.heap.size }:=⟨_,rfl⟩
  obtain⟨V,hV⟩:∃ V,(w.alloc (.deferred (some []))).alloc (.loop (rec .ready none))=V:=⟨_,rfl⟩
  have hL:V.heap[w.heap.size+1]?=some (.loop (rec .ready none)):=by
    have h:=World.alloc_heap_new (w.alloc (.deferred (some []))) (.loop (rec .ready none))
    rw[World.size_alloc,hV] at h
    exact h
  have hK:V.heap[w.heap.size]?=some (.deferred (some [])):=by rw[← hV];exact(Below.heap_alloc _ _ _ (by simp)).trans (World.alloc_heap_new w _)
  have hIV:I 0 V:=by rw[← hV];exact hI 0 w _ h0 (Ob.of_bl (((Bl.refl w).alloc _).alloc _) _)
  have hBV:Below w.heap.size w V:=by rw[← hV];exact((Below.refl _ w).alloc (Nat.le_refl _) _).alloc (by simp) _
  refine⟨w.heap.size+1,[{ target:=.collected w.heap.size,args:=#[] }],V,{ target:=.fn (.func gf) lb,args:=#[.func (.yield (w.heap.size+1)) #[] #[]] },V,gf,#[.func (.yield (w.heap.size+1)) #[] #[]] ++ lb,V,?_,?_,?_,?_,fun _=> h1,?_⟩
  · rw[← hV,hrec]
    exact run_enterLoop_outer _ _ _ _ _
  · simp only[resolve,hg]
    simp[go_sem]
  · intro f hf
    simp[Target.leads] at hf
    subst hf
    trivial
  · simp[invoke,go_sem,eg]
  · refine (hseq (w.heap.size + 1) (fun k W => I k W ∧ W.heap[w.heap.size + 1]? = some (.loop (rec .ready none)) ∧ W.heap[w.heap.size]? = some (.deferred (some [])))
      (fun k W=> ∃ c,Ix c k W∧W.heap[w.heap.size+1]?=some (.loop (rec .done (some c)))∧W.heap[w.heap.size]?=some (.deferred (some []))) V hBV ?_ ?_ ⟨hIV,hL,hK⟩).mono ?_
    · exact fun k A B hs ho =>⟨hI k A B hs.1 (ho.mono (by simp)),(ho.block _ (heap_lt hs.2.1) (by simp)).trans hs.2.1,(ho.block _ (heap_lt hs.2.2) (by simp)).trans hs.2.2⟩
    · rintro k W ⟨hi,hl,hk⟩ hkN
      have hlt:=heap_lt hl
      have hy:=run_yield (P:=P) (args:=encs k) hl (by rw[hrec];exact hps k)
      rw[hrec] at hy
      refine⟨fn,_,assign,body,hy,roundIn_of_wpIn hfn (hassign _ k W _ ⟨_,run_beginRound hl (by rw[hrec]),?_⟩)⟩
      obtain⟨B,hB⟩:∃ B,W.putObj (w.heap.size+1) (.loop { rec .ready none with state:=.busy })=B:=⟨_,rfl⟩
      have hl2:B.heap[w.heap.size+1]?=some (.loop { rec .ready none with state:=.busy }):=by rw[← hB];exact World.putObj_heap_same hlt
      have hk2:B.heap[w.heap.size]?=some (.deferred (some [])):=by rw[← hB];exact(World.putObj_heap_other (by omega)).trans hk
      have hw2:Kps ys W B:=by rw[← hB];exact hkp _ _
      have hsB:w.heap.size+2≤B.heap.size:=by rw[← hB];simp;omega
      have hiB:I k B:=by rw[← hB];exact hI k _ _ hi (hput _ _)
      subst hB
      refine wpIn_mono (hbody _ k _ hsB hiB hkN) ?_
      have fin : ∀ (j : Option Code) (U : World), KeepsOthers (W.putObj (w.heap.size + 1) (.loop { rec .ready none with state := .busy })) U → (Instr.endRound (w.heap.size + 1) j).run P U = .ok (.bool j.isNone) (U.putObj (w.heap.size + 1) (.loop (rec (if j.isNone then .ready else .done) j))) ∧ U.heap[w.heap.size + 1]? = some (.loop { rec .ready none with state := .busy }) ∧
          (U.putObj (w.heap.size+1) (.loop (rec (if j.isNone then .ready else .done) j))).heap[w.heap.size+1]?=some (.loop (rec (if j.isNone then .ready else .done) j))∧(U.putObj (w.heap.size+1) (.loop (rec (if j.isNone then .ready else .done) j))).heap[w.heap.size]?=some (.deferred (some [])):=fun j U hU=> by
        have h3:=hU.same _ _ hl2 rfl
        have h4:=run_endRound (P:=P) j h3
        rw[hrec] at h3 h4 ⊢
        exact⟨h4,h3,World.putObj_heap_same (heap_lt h3),(World.putObj_heap_other (by omega)).trans (hU.same _ _ hk2 rfl)⟩
      have stop : ∀ (c : Code) (U : World), KeepsOthers (W.putObj (w.heap.size + 1) (.loop { rec .ready none with state := .busy })) U → Ix c (k + 1) U → ∃ c', Ix c' (k + 1) (U.putObj (w.heap.size + 1) (.loop (rec (if (some c).isNone then .ready else .done) (some c)))) ∧ (U.putObj (w.heap.size + 1) (.loop (rec (if (some c).isNone then .ready else .done) (some c)))).heap[w.heap.size + 1]? = some (.loop (rec .done (some c'))) ∧
          (U.putObj (w.heap.size+1) (.loop (rec (if (some c).isNone then .ready else .done) (some c)))).heap[w.heap.size]?=some (.deferred (some [])):=fun c U hU hx=> by
        obtain⟨_,_,h4,h5⟩:=fin (some c) U hU
        exact⟨c,hIx c _ _ _ hx (hput _ _),h4,h5⟩
      rintro e a3 U hp
      cases e with
      | normal =>
        obtain⟨hU,hb,hi3⟩:=hp
        obtain⟨hr,_,h4,h5⟩:=fin none U hU
        exact⟨_,_,hr,.inl ⟨rfl,⟨hI _ _ _ hi3 (hput _ _),h4,h5⟩,(hw2.trans hb).trans (hkp _ _)⟩⟩
      | ret=> exact⟨_,_,(fin (some .ret) U hp.1).1,.inr ⟨rfl,stop _ U hp.1 hp.2⟩⟩
      | exit i=> exact⟨_,_,(fin (some (.exit i)) U hp.1).1,.inr ⟨rfl,stop _ U hp.1 hp.2⟩⟩
      | goto t=> exact⟨_,_,(fin (some (.goto t)) U hp.1).1,.inr ⟨rfl,stop _ U hp.1 hp.2⟩⟩
      | panic c=> exact hp.elim
      | outgrown=> exact hp.elim
    · rintro e U ⟨⟨v,rfl⟩,(⟨hi,hl,hk⟩ |⟨k,c,hi,hl,hk⟩)⟩
      · have h:=run_endLoop (P:=P) hl (by rw[hrec];simp)
        rw[hrec] at h
        exact⟨none,_,h,hdone _ _ rfl (hI _ _ _ hi (hput _ _)) ((World.putObj_heap_other (by omega)).trans hk)⟩
      · have h:=run_endLoop (P:=P) hl (by rw[hrec];simp)
        rw[hrec] at h
        exact⟨some c,_,h,hstop _ c k _ rfl (hIx c _ _ _ hi (hput _ _)) ((World.putObj_heap_other (by omega)).trans hk)⟩

section
variable {P:Program}{ops:Array Oper}{Q:Exit→Act→World→Prop}{md:Region.Mode}{S:World→Prop}
/-- No operation is a 'defer'. -/
def noDefer (ops:Array Oper):Bool:=ops.toList.all fun o=> match o.op with | .defer _=> false | _=> true
theorem noDefer_at (h:noDefer ops=true) {i:Nat}{o:Oper}(ho:ops[i]?=some o):∀ c,o.op≠.defer c:=by
  intro c e
  unfold noDefer at h
  obtain⟨hi,rfl⟩:=Array.getElem?_eq_some_iff.1 ho
  have h1:=List.all_eq_true.1 h ops[i] (Array.getElem_mem_toList hi)
  rw[e] at h1
  cases h1
/-- An operation in a round: as everywhere. -/
theorem oper_in_round {l n:Nat}{o:Oper}{a:Act}{w:World}{K K':Act→World→Prop}(hd:∀ c,o.op≠.defer c) (hL:¬ LetsOut Q) (hK:∀ a w,K a w→K' a w) (h:o.wp P a w K Q):o.wpIn (Fence.wide.inRound l) n P a w K' Q:=by
  refine⟨fun _ _=> trivial,?_⟩
  rw[show (Fence.wide.inRound l).round=some l from rfl,Oper.semAt_some l _ _ hd]
  unfold Oper.wp at h
  generalize (execOp a.eval o).run P w=r at h ⊢
  cases r with
  | ok x w' =>
    cases x with
    | value v=> exact hK _ _ h
    | skip=> exact hK _ _ h
    | defer d=> exact hK _ _ h
    | enter f args =>
      refine⟨fun e =>(by cases e),CallsIn.inRound l (callsIn_wide.2 (Calls.mono h ?_))⟩
      rintro e w'' he
      cases e with
      | returned v=> exact hK _ _ he
      | panicked c=> exact he
      | outgrown=> exact absurd he hL
    | row row args =>
      refine⟨fun e =>(by cases e),fun c cs _=> ?_⟩
      obtain⟨v,w'',r,s⟩:=h c cs
      exact⟨v,w'',hK _ _ r,stepsIn_wide.2 s⟩
    | _=> exact h.elim
  | halt x w'=> cases x <;> exact h
theorem any_in_round {l n:Nat}(hL:¬ LetsOut Q) (hd:noDefer ops=true):∀ (fuel:Nat) (listed:Array Bool) (a:Act) (w:World),wpAny P md ops Q fuel listed a w→wpAnyIn (Fence.wide.inRound l) n P md ops Q fuel listed a w
  | 0,_,_,_,h=> h
  | fuel+1,listed,a,w,h=> by
    refine⟨h.1,fun i hi=> ?_⟩
    have h2:=h.2 i hi
    unfold wpOp at h2
    unfold wpOpIn
    cases ho:ops[i]? with
    | none =>
      rw[ho] at h2
      exact any_in_round hL hd fuel _ _ _ h2
    | some o =>
      rw[ho] at h2
      dsimp only at h2 ⊢
      split
      · rename_i hw
        rw[if_pos hw] at h2
        rcases h2 with h2 | h2
        · exact oper_in_round (noDefer_at hd ho) hL (fun a w=> any_in_round hL hd fuel _ a w) h2
        · exact absurd h2.2 hL
      · rename_i hw
        rw[if_neg hw] at h2
        exact⟨fun _ _=> trivial,any_in_round hL hd fuel _ _ _ h2⟩
/-- A region in a round that draws its order, walked as everywhere. -/
theorem wp_region_round {l n id:Nat}{a:Act}{w:World}(k:Nat) (S:World→Prop) (hn:ops.size=k) (hm:P.follows .mixedOrders=true) (hL:¬ LetsOut Q) (hd:noDefer ops=true)
    (h:wpAnyH P .any ops Q S k (Array.replicate k false) a w.drew):(Code.region id ops true).wpIn (Fence.wide.inRound l) n P Q a w:=by
  subst hn
  exact wpIn_region_any hm (any_in_round hL hd _ _ _ _ (wpAny_of_held _ _ _ _ h))
theorem wpAnyH_step {i:Nat}{o:Oper}{fuel:Nat}{listed:Array Bool}{a:Act}{w:World}(ho:ops[i]?=some o) (hr:Region.ready md ops listed=[i])
    (h:∀ K':Act→World→Prop,Shut (∀ a w,S w→wpAnyH P md ops Q S fuel (listed.setIfInBounds i true) a w→K' a w)→if Region.wanted o (yielded ops a.tmps)=true then Oper.wp P o a w K' Q else K' (a.put o.dst undef) w):wpAnyH P md ops Q S (fuel+1) listed a w:=by
  refine⟨fun h0 =>(by rw[hr] at h0;cases h0),fun j hj=> ?_⟩
  rw[hr] at hj
  obtain rfl:j=i:=by simpa using hj
  exact wpOp_step ho (fun K' hK=> h K' (fun a w hS hW=> hK a w ⟨hS,hW⟩))
end

set_option maxRecDepth 100000 in
set_option maxHeartbeats 16000000 in
theorem Backward1_cnt (n:Nat) (hn:1≤n) {Bs b len cap:Nat}{a:Option Addr}(ha:0 < len→a=some ⟨b,0,none⟩) {zs:List Int}{w:World}(hb:b < w.heap.size) (hBs:Bs < w.heap.size) (hlen:len≤1000000) (hB:w.cell? ⟨Bs,0,none⟩=some (.slice a len cap)) (hc:∀ j,j < len→w.cell? ⟨b,j,none⟩=some (.int .i64 (ix zs j))) :
    CntSeq n Tryz.prog 99 #[.pointer (some ⟨Bs,0,none⟩)] (fun k=> #[.int .i64 ((len - 1 - k:Nat):Int),.int .i64 (ix zs (len - 1 - k))]) [Bs,b] len w:=fun l J Jx W hW hA hY h0=> by
  have hB:=(hW.cell (p:=⟨Bs,0,none⟩) hBs).trans hB
  have hc:∀ j,j < len→W.cell? ⟨b,j,none⟩=some (.int .i64 (ix zs j)):=fun j hj =>(hW.cell (p:=⟨b,j,none⟩) hb).trans (hc j hj)
  refine callsIn_of_wp Tryz.func99 rfl trivial ?_ rfl
  simp only[Tryz.ntmps99,List.size_toArray,List.length_cons,List.length_nil,Nat.reduceAdd,Nat.reduceSub,Array.replicate_succ,Array.replicate_zero,List.push_toArray,List.append_toArray,List.nil_append,List.cons_append]
  gi_wp2
  gi_loopw [3] (fun i wr=> ∃ k j:Nat,k+j=len∧i=.int .i64 ((j:Int) - 1)∧J k wr∧Kps [Bs,b] W wr) (fun i _ =>(intOf i+1).toNat)
  case atStart=> exact⟨0,len,by omega,rfl,h0,Kps.refl _ _⟩
  case round =>
    obtain⟨k,j,hkj,rfl,hJ,hnx⟩:=hrel
    have hB:=(hnx.cell (p:=⟨Bs,0,none⟩) (by simp)).trans hB
    rcases Nat.eq_zero_or_pos j with rfl | hj
    · have hm1:¬ (0:Int)≤((0:Nat):Int) - 1:=by omega
      gi_wp2
      go_end0
      exact⟨⟨_,rfl⟩,.inl (by rw[← hkj];exact hJ)⟩
    · obtain rfl:=ha (by omega)
      obtain⟨i,rfl⟩:∃ i,j=i+1:=⟨j - 1,by omega⟩
      have hci:=(hnx.cell (p:=⟨b,i,none⟩) (by simp)).trans (hc i (by omega))
      obtain⟨fn,tmps,assign,body,hy,hR⟩:=hY k wr hJ (by omega)
      rw[show len - 1 - k=i by omega] at hy
      rw[show (((i+1:Nat):Int) - 1)=(i:Int) by omega]
      have hi0:(0:Int)≤(i:Int):=by omega
      have hil:(i:Int) < (len:Int):=by omega
      gi_wp2
      refine hR.mono ?_
      rintro e W3 (⟨rfl,hJ3,hk3⟩ |⟨rfl,hJx3⟩)
      · gi_wp2
        go_roundw
        case rel=> exact⟨k+1,i,by omega,by go_num,hJ3,hnx.trans hk3⟩
        case measure=> simp[intOf]
      · gi_wp2
        refine bodyPost_ret (results_none rfl _ _ _) rfl ?_
        exact⟨⟨_,rfl⟩,.inr ⟨_,hJx3⟩⟩
set_option maxHeartbeats 4000000 in
theorem Backward_any (w:World) (a:Option Addr) (len cap:Nat) :
    Calls Tryz.prog 67 #[.slice a len cap] w fun e w'=> e=.returned (.func (.func 99) #[] #[.pointer (some ⟨w.heap.size,0,none⟩)])∧Bl w w'∧Blk w' w.heap.size 28 #[.slice a len cap]:=by
  go_enter Tryz.func67,Tryz.ntmps67
  go_wp2_with fail
  go_ret
  exact⟨rfl,slc,bts⟩
set_option maxRecDepth 100000 in
set_option maxHeartbeats 16000000 in
theorem Chunk1_cnt (n:Nat) (hn:1≤n) {Bs Bn b N cap:Nat}{w:World}(hBs:Bs < w.heap.size) (hBn:Bn < w.heap.size) (hN:N≤1000) (hcap:2 * N≤cap) (hB:w.cell? ⟨Bs,0,none⟩=some (.slice (some ⟨b,0,none⟩) (2 * N) cap)) (hM:w.cell? ⟨Bn,0,none⟩=some (.int .i64 2)) :
    CntSeq n Tryz.prog 89 #[.pointer (some ⟨Bs,0,none⟩),.pointer (some ⟨Bn,0,none⟩)] (fun k=> #[.slice (some ⟨b,2 * k,none⟩) 2 2]) [Bs,Bn] N w:=fun l J Jx W hW hA hY h0=> by
  have hB:=(hW.cell (p:=⟨Bs,0,none⟩) hBs).trans hB
  have hM:=(hW.cell (p:=⟨Bn,0,none⟩) hBn).trans hM
  refine callsIn_of_wp Tryz.func89 rfl trivial ?_ rfl
  simp only[Tryz.ntmps89,List.size_toArray,List.length_cons,List.length_nil,Nat.reduceAdd,Nat.reduceSub,Array.replicate_succ,Array.replicate_zero,List.push_toArray,List.append_toArray,List.nil_append,List.cons_append]
  gi_wp2
  gi_loopw [4] (fun i wr=> ∃ k:Nat,k≤N∧i=.int .i64 (2 * (k:Int))∧J k wr∧Kps [Bs,Bn] W wr) (fun i _=> 2 * N - (intOf i).toNat)
  case atStart=> exact⟨0,by omega,rfl,h0,Kps.refl _ _⟩
  case round =>
    obtain⟨k,hk,rfl,hJ,hnx⟩:=hrel
    have hB:=(hnx.cell (p:=⟨Bs,0,none⟩) (by simp)).trans hB
    have hM:=(hnx.cell (p:=⟨Bn,0,none⟩) (by simp)).trans hM
    by_cases hkN:k < N
    · have hJd:J k wr.drew:=hA k wr wr.drew hJ ⟨rfl,rfl,rfl,Nat.le_refl _,fun _ _ _=> rfl⟩
      obtain⟨fn,tmps,assign,body,hy,hR⟩:=hY k wr.drew hJd hkN
      have h1:2 * (k:Int) < ((2 * N:Nat):Int):=by omega
      have h2:2 * (k:Int)≤((2 * N:Nat):Int):=by omega
      have hne:¬ (cap=2 * k):=by omega
      have htn:(2 * (k:Int)).toNat=2 * k:=by omega
      have h0:(0:Int)≤2 * (k:Int):=by omega
      have hkc:2 * k≤cap:=by omega
      gi_wp2
      refine wpIn_wide.2 ?_
      go_region
      rw[show min (2:Int) ((2 * N - 2 * k:Nat):Int)=2 by omega]
      have hc2:2 * (k:Int)+2≤((2 * N:Nat):Int):=by omega
      have hcc:2 * (k:Int)+2≤(cap:Int):=by omega
      gi_wp2
      refine hR.mono ?_
      rintro e W3 (⟨rfl,hJ3,hk3⟩ |⟨rfl,hJx3⟩)
      · have hM:=(hk3.cell (p:=⟨Bn,0,none⟩) (by simp)).trans hM
        gi_wp2
        go_roundw
        case rel=> exact⟨k+1,by omega,by go_num,hJ3,hnx.trans ((show Kps [Bs,Bn] wr wr.drew from fun _ _=> rfl).trans hk3)⟩
        case measure=> simp[intOf];omega
      · gi_wp2
        refine bodyPost_ret (results_none rfl _ _ _) rfl ?_
        exact⟨⟨_,rfl⟩,.inr ⟨_,hJx3⟩⟩
    · obtain rfl:N=k:=by omega
      have hm1:¬ 2 * (N:Int) < ((2 * N:Nat):Int):=by omega
      gi_wp2
      go_end0
      exact⟨⟨_,rfl⟩,.inl hJ⟩
set_option maxHeartbeats 4000000 in
theorem Chunk_any (w:World) (a:Option Addr) (len cap:Nat) :
    Calls Tryz.prog 53 #[.slice a len cap,.int .i64 2] w fun e w'=> e=.returned (.func (.func 89) #[] #[.pointer (some ⟨w.heap.size,0,none⟩),.pointer (some ⟨w.heap.size+1,0,none⟩)])∧Bl w w'∧Blk w' w.heap.size 28 #[.slice a len cap]∧Blk w' (w.heap.size+1) 3 #[.int .i64 2]:=by
  go_enter Tryz.func53,Tryz.ntmps53
  go_wp2_with fail
  go_ret
  exact⟨rfl,slc,bts,bts⟩
end

section
open Go.RowKit

theorem hasP_iff {t:TriD}{p:Int}:hasP t p=true↔t.a=p∨t.b=p∨t.c=p:=by
  unfold hasP
  simp only[Bool.or_eq_true,decide_eq_true_eq]
set_option maxRecDepth 100000 in
set_option maxHeartbeats 16000000 in
theorem trianglesAt_any (w:World) {gp n cp gt m ct:Nat}{mq:MeQ}(ht:RdTS w (some ⟨gt,0,none⟩) m ct mq.tris) (hm:m≤1048576) (p:Int) :
    Calls Tryz.prog 35 #[.agg #[.slice (some ⟨gp,0,none⟩) n cp,.slice (some ⟨gt,0,none⟩) m ct],.int .i64 p] w (IntsOw w (atA mq.tris p)):=by
  have hlm:=Lib.hid ht.len
  go_enter Tryz.func35,Tryz.ntmps35
  go_upto_region 1 with (fail)
  refine wp_gen (fun W=> Bl w W∧Blk W w.heap.size 26 #[.slice (some ⟨gp,0,none⟩) n cp,.slice (some ⟨gt,0,none⟩) m ct]) ⟨slc,by exact bts⟩ ?_
  rintro W1 ⟨hb1,h2⟩
  go_upto_region 2 with (fail)
  refine wp_gen (fun W3=> Bl W1 W3∧∃ v c,OwL 3 w.heap.size W3 v (atTo mq.tris p 0)∧v=.slice (some ⟨W1.heap.size,0,none⟩) 0 c∧c=0) ⟨by exact slc,_,0,OwL.empty W1 hb1.size (by decide),rfl,rfl⟩ ?_
  rintro W3 ⟨hb3,v0,c0,hX,hv0,rfl⟩
  rw[← hv0]
  have h2:=h2.bl hb3
  have hbw:=hb1.next hb3
  clear hv0 hb1 hb3
  obtain⟨r0,r1⟩:=bx2 h2
  go_wp2_with fail
  clear r0 r1 h2
  go_loopw [5,12] (fun s v wr=> ∃ (i:Nat) (o:Value),i≤m∧v=.int .i64 (i:Int)∧o=s∧OwL 3 w.heap.size wr o (atTo mq.tris p i)∧Bl w wr) (fun _ v _=> m - (intOf v).toNat)
  case atStart=> exact⟨0,v0,by omega,rfl,rfl,hX,hbw⟩
  case round =>
    clear hX hbw
    obtain⟨i,o,hi,rfl,rfl,hX,hbi⟩:=hrel
    obtain⟨wj,rfl⟩:∃ wj:World,wj=wr:=⟨_,rfl⟩
    have hSl:=atTo_len mq.tris p i
    by_cases hin:i < m
    · have hii:(i:Int) < (m:Int):=by omega
      obtain⟨y0,y1,y2,y3,y4⟩:=trs_lit (RdTS.bl ht hbi) hin
      obtain⟨t,ht_⟩:∃ t,pix mq.tris i=t:=⟨_,rfl⟩
      rw[ht_] at y0 y1 y2 y3 y4
      go_upto_region 5 with (fail)
      refine wp_gen (fun W=> Bl wj W∧Blk W wj.heap.size 58 #[.int .i64 t.a,.int .i64 t.b,.int .i64 t.c,.int .i64 t.region,.int .i64 t.level]) ⟨slc,by exact bts⟩ ?_
      rintro W ⟨hbq,h7⟩
      have hX:=hX.bl hbq
      have hbW:=hbi.next hbq
      clear y0 y1 y2 y3 y4
      obtain⟨z0,z1,z2,z3,z4⟩:=bx5 h7
      by_cases ha:t.a=p
      · have hS2:=Lib.hid (atTo_yes (ts:=mq.tris) (p:=p) (k:=i) (by rw[ht_,hasP_iff];exact .inl ha))
        have hb0:(t.a == p)=true:=by simpa using ha
        go_wp2_with ((refine wpList_append_intX (w0:=w) info_int Tryz.underlying28 rfl (.tmp 33) (.tmp 35) rfl _ (atTo mq.tris p i) (by rfl) hX hbW 1 (by rfl) (by omega) ?_);intro vx7 w7 hX7 hb7 hoth)
        rw[← hS2.out] at hX7
        go_roundw
        case rel=> exact⟨i+1,vx7,by omega,by go_num,rfl,hX7,hb7⟩
        case measure=> simp[intOf];omega
      · have hb0:(t.a == p)=false:=by simpa using ha
        by_cases hb:t.b=p
        · have hS2:=Lib.hid (atTo_yes (ts:=mq.tris) (p:=p) (k:=i) (by rw[ht_,hasP_iff];exact .inr (.inl hb)))
          have hb1:(t.b == p)=true:=by simpa using hb
          go_wp2_with ((refine wpList_append_intX (w0:=w) info_int Tryz.underlying28 rfl (.tmp 33) (.tmp 35) rfl _ (atTo mq.tris p i) (by rfl) hX hbW 1 (by rfl) (by omega) ?_);intro vx7 w7 hX7 hb7 hoth)
          rw[← hS2.out] at hX7
          go_roundw
          case rel=> exact⟨i+1,vx7,by omega,by go_num,rfl,hX7,hb7⟩
          case measure=> simp[intOf];omega
        · have hb1:(t.b == p)=false:=by simpa using hb
          by_cases hc:t.c=p
          · have hS2:=Lib.hid (atTo_yes (ts:=mq.tris) (p:=p) (k:=i) (by rw[ht_,hasP_iff];exact .inr (.inr hc)))
            have hb2:(t.c == p)=true:=by simpa using hc
            go_wp2_with ((refine wpList_append_intX (w0:=w) info_int Tryz.underlying28 rfl (.tmp 33) (.tmp 35) rfl _ (atTo mq.tris p i) (by rfl) hX hbW 1 (by rfl) (by omega) ?_);intro vx7 w7 hX7 hb7 hoth)
            rw[← hS2.out] at hX7
            go_roundw
            case rel=> exact⟨i+1,vx7,by omega,by go_num,rfl,hX7,hb7⟩
            case measure=> simp[intOf];omega
          · have hb2:(t.c == p)=false:=by simpa using hc
            have hS2:=Lib.hid (atTo_no (ts:=mq.tris) (p:=p) (k:=i) (by rw[ht_];cases hh:hasP t p with | false=> rfl | true=> rcases hasP_iff.1 hh with h | h | h <;> contradiction))
            go_wp2_with fail
            go_roundw
            case rel=> exact⟨i+1,o,by omega,by go_num,rfl,by rw[hS2.out];exact hX,hbW⟩
            case measure=> simp[intOf];omega
    · obtain rfl:m=i:=by omega
      have hkm3:¬ (m:Int) < (m:Int):=by omega
      obtain⟨B,c,rfl,hR⟩:=hX.own (by omega)
      go_wp2_with fail
      go_ret
      exact⟨B,_,c,rfl,by unfold atA;rw[hlm.out];exact hR,hbi⟩
theorem lwI_yes {i p:Int}(h:p < i):lwI i p=i - 1:=if_pos h
theorem lwI_no {i p:Int}(h:¬ p < i):lwI i p=i:=if_neg h
set_option maxHeartbeats 4000000 in
theorem lowered_any (w:World) (i p:Int) (h0 : -1000000≤i) (h1:i≤1000000) :
    Calls Tryz.prog 27 #[.int .i64 i,.int .i64 p] w fun e w'=> e=.returned (.int .i64 (lwI i p))∧Bl w w':=by
  by_cases h:p < i
  · have ee:=Lib.hid (lwI_yes h)
    go_enter Tryz.func27,Tryz.ntmps27
    go_wp2_with fail
    go_ret
    exact⟨by rw[ee.out];go_num,slc⟩
  · have ee:=Lib.hid (lwI_no h)
    go_enter Tryz.func27,Tryz.ntmps27
    go_wp2_with fail
    go_ret
    exact⟨by rw[ee.out];rfl,slc⟩
end

section
open Go.RowKit
end

section
open Go.RowKit

theorem tp_inj {p q:Rat × Rat}(h:tp p=tp q):p=q:=by
  have h1:=toR_inj (congrArg PtD.x h)
  have h2:=toR_inj (congrArg PtD.y h)
  exact Prod.ext h1 h2
end

end Go.Proofs.YtmkcacgmnnlddaaGreat
