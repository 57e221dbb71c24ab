/- Lemmas. -/
import Derived.Test.YtmkcacgmnnlddaaGreatRows
import Derived.Test.YtmkcacgmnnlddaaGreatPCoarsenM32
import Derived.Test.YtmkcacgmnnlddaaGreatPCoarsenM35
import Derived.Test.YtmkcacgmnnlddaaGreatPCoarsenM33
import Derived.Test.YtmkcacgmnnlddaaGreatPCoarsenM28
import Derived.Test.YtmkcacgmnnlddaaGreatPCoarsenM27
import Derived.Test.YtmkcacgmnnlddaaGreatPCoarsenM10
import Derived.Lib.SliceRun
import Derived.Deep.RegionLaw
import Derived.Deep.Cut
import Derived.Deep.DeepCutAuto
namespace Go.Proofs.YtmkcacgmnnlddaaGreat
section
open Go.RowKit

set_option maxRecDepth 100000 in
set_option maxHeartbeats 16000000 in
theorem Removable_yes (w:World) {v:Value}{mq:MeQ}(h:MeAt w v mq) (hf:FitM mq) :
    Calls Tryz.prog 7 #[v] w (IntsOw w (rmvL mq)):=by
  obtain⟨gp,n,cp,gt,m,ct,rfl,hp,ht⟩:=h
  have hn:=Lib.hid (show mq.pts.length=n by rw[← hp.len,List.length_map])
  have hn40:n≤40:=by rw[← hn.out];exact hf.ok.n40
  have hn3:3≤n:=by rw[← hn.out];exact hf.ok.n3
  have hm48:m≤48:=by rw[← ht.len];exact hf.ok.t48
  have hfH:=Lib.hid hf
  clear hf
  go_enter Tryz.func7,Tryz.ntmps7
  go_wp2_with fail
  refine calls_gen (fun W=> Bl w W∧Blk W w.heap.size 26 #[.slice (some ⟨gp,0,none⟩) n cp,.slice (some ⟨gt,0,none⟩) m ct]) ⟨slc,bts⟩ ?_
  rintro W ⟨hbW,h1⟩
  refine(IsMesh_yes _ (RdPS.bl hp hbW) (RdTS.bl ht hbW) hfH.out.ok).mono ?_
  rintro e w1 ⟨rfl,hb1⟩
  have h1:=h1.bl hb1
  have hbW:=hbW.next hb1
  clear hb1
  have h1l:=h1.lt
  go_upto_region 4 with (fail)
  refine wp_gen (fun W2=> Bl w1 W2∧∃ v c,OwL 3 w1.heap.size W2 v (rmvTo mq 0)∧v=.slice (some ⟨w1.heap.size,0,none⟩) 0 c∧c=0) ⟨by exact slc,_,0,OwL.empty (cur:=#[]) w1 (Nat.le_refl _) (by decide),rfl,rfl⟩ ?_
  rintro W2 ⟨hb2,v0,c0,hX,hv0,rfl⟩
  rw[← hv0]
  clear hv0
  obtain⟨r0,r1⟩:=bx2 (h1.bl hb2)
  go_wp2_with fail
  clear r0 r1
  go_loopw [3,12] (fun s v wr=> ∃ (i:Nat) (o:Value),i≤n∧v=.int .i64 (i:Int)∧o=s∧OwL 3 w1.heap.size wr o (rmvTo mq i)∧Bl w1 wr) (fun _ v _=> n - (intOf v).toNat)
  case atStart=> exact⟨0,v0,by omega,rfl,rfl,hX,hb2⟩
  case round =>
    clear hX hb2
    obtain⟨i,o,hi,rfl,rfl,hX,hbi⟩:=hrel
    obtain⟨wj,rfl⟩:∃ wj:World,wj=wr:=⟨_,rfl⟩
    by_cases hin:i < n
    · have hii:(i:Int) < (n:Int):=by omega
      have h1j:=h1.bl hbi
      obtain⟨r0,r1⟩:=bx2 h1j
      have hSl:=rmvTo_len mq i
      go_wp2_with fail
      refine(isRemovable_any _ (RdPS.bl hp (hbW.next hbi)) (RdTS.bl ht (hbW.next hbi)) hfH.out (i:Int)).mono ?_
      rintro e w2 ⟨rfl,hb2⟩
      have hX:=hX.bl hb2
      have hbi:=hbi.next hb2
      clear r0 r1 h1j
      obtain⟨q,hq⟩:∃ q,remB mq (i:Int)=q:=⟨_,rfl⟩
      rw[hq]
      cases q
      · have hS2:=Lib.hid (rmvTo_no hq)
        clear hq
        go_wp2_with fail
        go_roundw
        case rel=> exact⟨i+1,o,by omega,by go_num,rfl,by rw[hS2.out];exact hX,hbi⟩
        case measure=> simp[intOf];omega
      · have hS2:=Lib.hid (rmvTo_yes hq)
        clear hq
        go_wp2_with ((refine wpList_append_intX (w0:=w1) info_int Tryz.underlying28 rfl (.tmp 18) (.tmp 20) rfl _ (rmvTo mq i) (by rfl) hX hbi 1 (by rfl) (by omega) ?_);intro vx7 w7 hX7 hb7 hoth)
        rw[← hS2.out] at hX7
        go_roundw
        case rel=> exact⟨i+1,vx7,by omega,by go_num,rfl,hX7,hb7⟩
        case measure=> simp[intOf];omega
    · obtain rfl:i=n:=by omega
      have hkm3:¬ (i:Int) < (i:Int):=by omega
      have hSl:=rmvTo_len mq i
      obtain⟨B,c,rfl,hR⟩:=hX.own (by omega)
      have hfin:=Lib.hid (show rmvL mq=rmvTo mq i by unfold rmvL;rw[hn.out])
      go_wp2_with fail
      go_ret
      exact⟨B,_,c,rfl,by rw[hfin.out];exact hR.mono hbW.size,hbW.next hbi⟩
set_option maxRecDepth 100000 in
set_option maxHeartbeats 16000000 in
theorem PointTriangles_yes (w:World) {v:Value}{mq:MeQ}(h:MeAt w v mq) (hf:FitM mq) (p:Nat) (hpl:p < mq.pts.length) :
    Calls Tryz.prog 10 #[v,.int .i64 (p:Int)] w (IntsOw w (atA mq.tris (p:Int))):=by
  obtain⟨gp,n,cp,gt,m,ct,rfl,hp,ht⟩:=h
  have hn:=Lib.hid (show mq.pts.length=n by rw[← hp.len,List.length_map])
  have hn40:n≤40:=by rw[← hn.out];exact hf.ok.n40
  have hn3:3≤n:=by rw[← hn.out];exact hf.ok.n3
  have hm48:m≤48:=by rw[← ht.len];exact hf.ok.t48
  have hfH:=Lib.hid hf
  clear hf
  rw[hn.out] at hpl
  go_enter Tryz.func10,Tryz.ntmps10
  go_wp2_with fail
  refine calls_gen (fun W=> Bl w W∧Blk W w.heap.size 26 #[.slice (some ⟨gp,0,none⟩) n cp,.slice (some ⟨gt,0,none⟩) m ct]) ⟨slc,bts⟩ ?_
  rintro W ⟨hbW,h1⟩
  refine(IsMesh_yes _ (RdPS.bl hp hbW) (RdTS.bl ht hbW) hfH.out.ok).mono ?_
  rintro e w1 ⟨rfl,hb1⟩
  have h1:=h1.bl hb1
  have hbW:=hbW.next hb1
  clear hb1
  obtain⟨r0,r1⟩:=bx2 h1
  have hw1:IntKind.i64.wrap ((n:Int) - 1)=(n:Int) - 1:=IntWalk.i64_in _ (by omega)
  go_wp2_with fail
  refine(within_yes _ (show (0:Int)≤(p:Int) by omega) (show (p:Int)≤(n:Int) - 1 by omega)).mono ?_
  rintro e w2 ⟨rfl,q2,rfl⟩
  have hb2:=(Bl.refl w1).drewN q2
  obtain⟨w3,hw3⟩:∃ w3,w1.drewN q2=w3:=⟨_,rfl⟩
  rw[hw3] at hb2 ⊢
  clear hw3 r0 r1
  have h1:=h1.bl hb2
  have hbW:=hbW.next hb2
  obtain⟨r0,r1⟩:=bx2 h1
  go_wp2_with fail
  refine(trianglesAt_any _ (mq:=mq) (RdTS.bl ht hbW) (by omega) (p:Int)).mono ?_
  rintro e w4 ⟨B,k,d,rfl,hR,hb4⟩
  clear r0 r1
  go_wp2_with fail
  go_ret
  exact⟨B,k,d,rfl,hR.mono hbW.size,hbW.next hb4⟩
end

section
open Go.RowKit

/-- The cells vs, written from o on. -/
def setL (cs:Array Value):Nat→List Value→Array Value
  | _,[]=> cs
  | o,v :: r=> setL (cs.setIfInBounds o v) (o+1) r
termination_by structural _ l=> l
theorem setL_size (cs:Array Value):∀ (vs:List Value) (o:Nat),(setL cs o vs).size=cs.size
  | [],_=> rfl
  | v :: r,o=> by
    show (setL (cs.setIfInBounds o v) (o+1) r).size=_
    rw[setL_size _ r]
    simp
termination_by structural l=> l
theorem setL_get:∀ (vs:List Value) (cs:Array Value) (o j:Nat),j < cs.size→(setL cs o vs)[j]?=if o≤j∧j < o+vs.length then vs[j - o]? else cs[j]?
  | [],cs,o,j,_=> by
    rw[if_neg (by simp only[List.length_nil];omega)]
    rfl
  | v :: r,cs,o,j,hj=> by
    show (setL (cs.setIfInBounds o v) (o+1) r)[j]?=_
    rw[setL_get r _ _ _ (by simpa using hj)]
    by_cases h1:o+1≤j∧j < o+1+r.length
    · rw[if_pos h1,if_pos ⟨by omega,by simp;omega⟩,show j - o=(j - (o+1))+1 by omega,List.getElem?_cons_succ]
    · rw[if_neg h1]
      by_cases h2:j=o
      · subst h2
        rw[if_pos ⟨Nat.le_refl _,by simp⟩,Nat.sub_self]
        simp[hj]
      · rw[if_neg (by simp only[List.length_cons];omega),Array.getElem?_setIfInBounds_ne (by omega)]
theorem Blk.sets {g:Nat}{T:TypeId}:∀ (vs:List Value) (o:Nat) {w:World}{cs:Array Value},Blk w g T cs→Blk (w.setCells g o vs) g T (setL cs o vs)
  | [],_,_,_,h=> h
  | v :: r,o,_,_,h=> Blk.sets r (o+1) (h.set_ o v)
theorem Ob.sets {bs:List Nat}{g:Nat}(hg:g ∈ bs) {w:World}:∀ (vs:List Value) (o:Nat) {W:World},Ob bs w W→Ob bs w (W.setCells g o vs)
  | [],_,_,h=> h
  | v :: r,o,_,h=> Ob.sets hg r (o+1) (h.set hg o v)
def zPt:List Value:=[.bool false,.slice none 0 0,.slice none 0 0,.bool false,.slice none 0 0,.slice none 0 0]
theorem run_clear_pt (w:World) (ty:TypeId) (b o c:Nat) (hc:∀ j,j < 6→(w.cell? ⟨b,o+j,none⟩).isSome=true) (hf:∀ j,j < 6→w.frozen? ⟨b,o+j,none⟩=false) :
    (Builtin.clear_ #[23] ty #[.slice (some ⟨b,o,none⟩) 1 c]).run Tryz.prog w=.ok (.tuple #[]) (w.setCells b o zPt):=by
  have hv:∀ w,(zeroValue 56).run Tryz.prog w=.ok (.agg #[.bool false,.slice none 0 0,.slice none 0 0,.bool false,.slice none 0 0,.slice none 0 0]) w:=fun _=> by kernel_rfl
  have hzc:(Builtin.zeroCells (Value.agg #[.bool false,.slice none 0 0,.slice none 0 0,.bool false,.slice none 0 0,.slice none 0 0]).cells 1).toList=zPt:=by kernel_rfl
  have hst:=run_storeCells_cells (P:=Tryz.prog) b o zPt 0 w (by simpa [zPt] using hc) (by simpa [zPt] using hf) (by intro v hv;simp only[zPt,List.mem_cons,List.not_mem_nil,or_false] at hv;rcases hv with rfl | rfl | rfl | rfl | rfl | rfl <;> rfl)
  simp only[Nat.add_zero] at hst
  simp[Builtin.clear_,run_underlying Tryz.underlying23,hv,hzc,hst]
theorem ptIn_one {w:World}{cs:Array Value}{i:Nat}{p:PtD}{bs:List Nat}(h:PtIn 3 w cs i p bs) {j:Nat}(hj:j < 6):∃ u,cs[i+j]?=some u∧u.oneCell'=true:=by
  obtain⟨s,A,n,c,B,m,d,t,C,k,e,D,k',f,b1,b2,⟨h0,h1,h2,h3,h4,h5⟩,_⟩:=h
  rcases(show j=0∨j=1∨j=2∨j=3∨j=4∨j=5 by omega) with rfl | rfl | rfl | rfl | rfl | rfl
  · exact⟨_,h0,rfl⟩
  · exact⟨_,h1,rfl⟩
  · exact⟨_,h2,rfl⟩
  · exact⟨_,h3,rfl⟩
  · exact⟨_,h4,rfl⟩
  · exact⟨_,h5,rfl⟩
theorem pix_erase {α:Type} [Inhabited α] {l:List α}{p i:Nat}:pix (l.eraseIdx p) i=pix l (if i < p then i else i+1):=by
  unfold pix
  rw[List.getD_eq_getElem?_getD,List.getD_eq_getElem?_getD,List.getElem?_eraseIdx]
  split <;> rfl
theorem flat_erase:∀ (fs:List (List Nat)) (p:Nat),(fs.eraseIdx p).flatten.Sublist fs.flatten
  | [],_=> List.Sublist.refl _
  | a :: fs,0=> by
    simp only[List.eraseIdx_cons_zero,List.flatten_cons]
    exact List.sublist_append_right a _
  | a :: fs,p+1=> by
    simp only[List.eraseIdx_cons_succ,List.flatten_cons]
    exact List.Sublist.append (List.Sublist.refl a) (flat_erase fs p)
theorem rowP_erase {lo:Nat}{w W:World}{g n c p:Nat}{l:List PtD}{cur:Array Value}{cells:List Value}{fs:List (List Nat)}
    (hcl:cells.length=l.length * 6) (h4:∀ i,i < l.length→PtIn 3 w cells.toArray (i * 6) (pix l i) (pix fs i)) (h3:fs.length=l.length) (h5:∀ b ∈ fs.flatten,lo≤b∧b < w.heap.size∧g≠b) (h6:fs.flatten.Nodup)
    (hO:Ob [g] w W) (hg:lo≤g) (hB:Blk W g 56 cur) (hcs:cur.size=c * 6) (hc:c≤maxLen) (hnc:l.length≤c) (hp:p < l.length) (hn:n=l.length - 1)
    (hk:∀ j,j < n * 6→cur[j]?=cells[if j < p * 6 then j else j+6]?):RowP List.Nodup lo W.heap.size W (.slice (some ⟨g,0,none⟩) n c) (l.eraseIdx p):=by
  have hle:(l.eraseIdx p).length=n:=by rw[List.length_eraseIdx_of_lt hp,hn]
  refine⟨cur.toList.take (n * 6),fs.eraseIdx p,⟨by rw[hle,List.length_take,Array.length_toList,hcs];omega,.inr ⟨g,c,cur,by rw[hle],hg,hB,by omega,hc,hcs,by rw[hle]⟩⟩,fun x e=> ?_,by rw[List.length_eraseIdx_of_lt (by omega),hle,h3,hn],fun i hi=> ?_,fun b hb=> ?_,?_,Nat.le_refl _⟩
  · injection e with e
    simp only at e
    subst e
    exact hB.lt
  · rw[hle] at hi
    rw[pix_erase,pix_erase]
    refine ptIn_keep 3 _ _ _ _ _ _ _ _ (h4 (if i < p then i else i+1) (by split <;> omega)) (fun j hj=> ?_) hO.size fun b hb=> ?_
    · rw[List.getElem?_toArray,List.getElem?_toArray,List.getElem?_take,if_pos (by omega),Array.getElem?_toList,hk _ (by omega)]
      by_cases h:i < p
      · rw[if_pos h,if_pos (by omega)]
      · rw[if_neg h,if_neg (by omega)]
        congr 1
        omega
    · have:=h5 b (mem_flatten_pix hb)
      exact hO.block b this.2.1 (by simp;omega)
  · have:=h5 b ((flat_erase fs p).subset hb)
    exact⟨this.1,Nat.lt_of_lt_of_le this.2.1 hO.size,fun e=> by injection e with e;simp only at e;omega⟩
  · exact List.Sublist.nodup (flat_erase fs p) h6

set_option maxRecDepth 100000 in
set_option maxHeartbeats 32000000 in
theorem Delete_any (w:World) {lo g n c p:Nat}{l:List PtD}(hrow:RowP List.Nodup lo w.heap.size w (.slice (some ⟨g,0,none⟩) n c) l) (hn:n≤1048576) (hp:p < n) :
    Calls Tryz.prog 26 #[.slice (some ⟨g,0,none⟩) n c,.int .i64 (p:Int),.int .i64 ((p:Int)+1)] w fun e w'=> e=.returned (.slice (some ⟨g,0,none⟩) (n - 1) c)∧RowP List.Nodup lo w'.heap.size w' (.slice (some ⟨g,0,none⟩) (n - 1) c) (l.eraseIdx p)∧Ob [g] w w':=by
  obtain⟨cells,fs,⟨hcl,⟨h,_⟩ |⟨g',cap,cur,h,hg,hh,hnc,hm,hcs,htk⟩⟩,_,h3,h4,h5,h6,_⟩:=hrow
  · cases h
  injection h with q1 q2 q3
  injection q1 with q1
  injection q1 with q1
  subst q1 q2 q3
  obtain⟨i0,hi0,hz0,hz1,hz2⟩:=info_parts info_pt
  have hc63:c≤9223372036854775807:=by unfold maxLen at hm;omega
  have hB:Blk w g 56 cur:=hh
  have hone:∀ j,j < l.length * 6→∃ u,cells[j]?=some u∧u.oneCell'=true:=fun j hj=> by
    obtain⟨u,h1,h2⟩:=ptIn_one (h4 (j / 6) (by omega)) (j:=j % 6) (by omega)
    rw[List.getElem?_toArray,show j / 6 * 6+j % 6=j by omega] at h1
    exact⟨u,h1,h2⟩
  have hcur:∀ j,j < l.length * 6→cur[j]?=cells[j]?:=fun j hj=> by
    rw[← htk,List.getElem?_take,if_pos hj,Array.getElem?_toList]
  obtain⟨news,hnews⟩:∃ news,news=cells.drop ((p+1) * 6):=⟨_,rfl⟩
  have hnl:news.length=(l.length - (p+1)) * 6:=by rw[hnews,List.length_drop,hcl];omega
  have hget:∀ t,news[t]?=cells[(p+1) * 6+t]?:=fun t=> by rw[hnews,List.getElem?_drop]
  obtain⟨A,hA,hsrc⟩:∃ A:Addr,(if c=p+1 then some (⟨g,0,none⟩:Addr) else some ⟨g,(p+1) * 6,none⟩)=some A∧Hid (∀ t u,news[t]?=some u→w.drew.cell? (A.add t)=some u):=by
    by_cases h:c=p+1
    · refine⟨⟨g,0,none⟩,by simp[h],fun t u hu=> ?_⟩
      have h0:news.length=0:=by rw[hnl];omega
      rw[List.length_eq_zero_iff.1 h0] at hu
      simp at hu
    · refine⟨⟨g,(p+1) * 6,none⟩,by simp[h],fun t u hu=> ?_⟩
      have ht:=(List.getElem?_eq_some_iff.1 hu).1
      rw[hnl] at ht
      rw[Addr.add_lit]
      show w.cell? ⟨g,(p+1) * 6+t,none⟩=some u
      rw[hB.cell,hcur _ (by omega),← hget,hu]
  have s1:Hid (news.length=(l.length - (p+1)) * 6):=hnl
  have s2:Hid (∀ u ∈ news,u.oneCell'=true):=by
    intro u hu
    obtain⟨t,ht⟩:=List.getElem?_of_mem hu
    have hlt:=(List.getElem?_eq_some_iff.1 ht).1
    obtain⟨u',e1,e2⟩:=hone ((p+1) * 6+t) (by omega)
    rw[hget,e1] at ht
    injection ht with ht
    rw[← ht]
    exact e2
  have s3:Hid (∀ t,t < news.length→(w.drew.cell? ⟨g,0+p * 6+t,none⟩).isSome=true∧w.drew.frozen? ⟨g,0+p * 6+t,none⟩=false):=by
    intro t ht
    rw[hnl] at ht
    refine⟨?_,hB.frozen _⟩
    show (w.cell? ⟨g,0+p * 6+t,none⟩).isSome=true
    have hj:0+p * 6+t < l.length * 6:=by omega
    obtain⟨u,e1,_⟩:=hone _ hj
    rw[hB.cell,hcur _ hj,e1]
    rfl
  obtain⟨W1,hW1⟩:∃ W1,W1=w.drew.setCells g (0+p * 6) news:=⟨_,rfl⟩
  have hB1:Blk W1 g 56 (setL cur (0+p * 6) news):=by rw[hW1];exact Blk.sets _ _ (w:=w.drew) hB
  have hO1:Ob [g] w W1:=by rw[hW1];exact Ob.sets (by simp) _ _ (Ob.of_bl slc _)
  have hcl2:∀ ty d,(Builtin.clear_ #[23] ty #[.slice (some ⟨g,(l.length - 1) * 6,none⟩) 1 d]).run Tryz.prog W1=.ok (.tuple #[]) (W1.setCells g ((l.length - 1) * 6) zPt):=fun ty d =>
    run_clear_pt W1 ty g _ d (fun j hj=> by
      rw[hB1.cell,setL_get _ _ _ _ (by rw[hcs];omega)]
      obtain⟨u,e1,_⟩:=hone ((l.length - 1) * 6+j) (by omega)
      split
      · rw[hget,List.getElem?_eq_getElem (by rw[hcl];omega)]
        rfl
      · rw[hcur _ (by omega),e1]
        rfl) fun j hj=> hB1.frozen _
  have hW:Hid (W1=w.drew.setCells g (0+p * 6) news):=hW1
  have hfin:Hid (RowP List.Nodup lo (W1.setCells g ((l.length - 1) * 6) zPt).heap.size (W1.setCells g ((l.length - 1) * 6) zPt) (.slice (some ⟨g,0,none⟩) (l.length - 1) c) (l.eraseIdx p)∧Ob [g] w (W1.setCells g ((l.length - 1) * 6) zPt)):=by
    have hO2:Ob [g] w (W1.setCells g ((l.length - 1) * 6) zPt):=Ob.sets (by simp) _ _ hO1
    refine⟨rowP_erase hcl h4 h3 (fun b hb=> ?_) h6 hO2 hg (Blk.sets _ _ hB1) (by rw[setL_size,setL_size];exact hcs) hm hnc hp rfl fun j hj=> ?_,hO2⟩
    · have:=h5 b hb
      exact⟨this.1,this.2.1,fun e=> this.2.2 (by rw[← e];rfl)⟩
    · rw[setL_get _ _ _ _ (by rw[setL_size,hcs];omega),if_neg (by omega),setL_get _ _ _ _ (by rw[hcs];omega)]
      by_cases hj2:j < p * 6
      · rw[if_neg (by omega),if_pos hj2,hcur _ (by omega)]
      · rw[if_pos ⟨by omega,by rw[hnl];omega⟩,if_neg hj2,hget]
        congr 1
        omega
  obtain⟨k,hk⟩:∃ k,l.length=k:=⟨_,rfl⟩
  rw[hk] at hn hp hnc s1 hcl2 hfin ⊢
  have ek:Hid (p+(k - (p+1))=k - 1):=by show p+(k - (p+1))=k - 1;omega
  have hcl3:∀ ty d,(Builtin.clear_ #[23] ty #[.slice (some ⟨g,(p+(k - (p+1))) * 6,none⟩) (k - (p+(k - (p+1)))) d]).run Tryz.prog W1=.ok (.tuple #[]) (W1.setCells g ((k - 1) * 6) zPt):=fun ty d=> by
    rw[ek.out,show k - (k - 1)=1 by omega]
    exact hcl2 ty d
  clear hcl2
  have mixed:Tryz.prog.follows Departure.mixedOrders=true:=by kernel_rfl
  have hpi:(p:Int)+1≤(k:Int):=by omega
  have hpc:(p:Int)+1≤(c:Int):=by omega
  have hne:¬ ((p:Int)=(p:Int)+1):=by omega
  have htn:((p:Int)+1).toNat=p+1:=by omega
  have hpc2:p≤c:=by omega
  have hp0:(0:Int)≤(p:Int)+1:=by omega
  have hic:p+1≤c:=by omega
  have hb4:¬ (c=k - 1):=by omega
  clear hW1 hB1 hO1 hB hcur hone hget hnews hnl h4 h5 h6 h3 hcl htk hh
  go_enter Tryz.func26,Tryz.ntmps26
  go_wp2_with fail
  go_region_law_o (refine step_append_room rfl (.tmp 22) (.tmp 25) 23 rfl 56 i0 6 Tryz.underlying23 hi0 hz1 g 0 p c (by simp[Act.eval,Act.put]) A (k - (p+1)) (c - (p+1)) news (by simp[Act.eval,Act.put]) s1.out hsrc.out s2.out (by omega) s3.out ?_;rw[← hW.out])
  go_wp2_with fail
  go_ret
  obtain⟨f1,f2⟩:=hfin.out
  exact⟨by rw[ek.out];rfl,f1,f2⟩
end

end Go.Proofs.YtmkcacgmnnlddaaGreat
