/- Lemmas. -/
import Derived.OrdersHeld
import Derived.RegionTactic
import Derived.OrdersIn
import Derived.RangeFuncNested
import Derived.RangeFuncBound
import Derived.RangeFuncCalls
import Derived.RangeFuncLeaves
import Derived.Shelf.Abstract
import Derived.Shelf.RegionOpen
import Derived.WalkKit
import Derived.OwnWalkIn
import Derived.TacticsInMore
import Derived.LoopNIn
import Derived.LoopIn
import Derived.Test.YtmkcacgmnnlddaaGreatRows
import Derived.Test.YtmkcacgmnnlddaaGreatPCoarsenM37
import Derived.Deep.Cut
import Derived.Deep.DeepCutAuto
import Derived.Test.YtmkcacgmnnlddaaGreatPCoarsenM28
import Derived.Test.YtmkcacgmnnlddaaGreatPCoarsenM20
namespace Go.Proofs.YtmkcacgmnnlddaaGreat
section
open Go.RowKit
attribute [local go_sem] Oper.semAt_some

/-- The mesh lies in memory made since block b0, apart from the blocks xs. -/
def MeOff (xs:List Nat) (b0:Nat) (W:World) (v:Value) (m:MeQ):Prop:=∀ X,W.heap.size≤X.heap.size→(∀ b,b0≤b→b < W.heap.size→b ∉ xs→X.heap[b]?=W.heap[b]?)→MeAt X v m
section
variable {xs:List Nat}{b0 b1:Nat}{W X W1:World}{v:Value}{m:MeQ}
theorem MeOff.at (h:MeOff xs b0 W v m):MeAt W v m:=h W (Nat.le_refl _) fun _ _ _ _=> rfl
theorem MeOff.ob (h:MeOff xs b0 W v m) (ho:Ob xs W X):MeOff xs b0 X v m :=
  fun Y hs hy=> h Y (Nat.le_trans ho.size hs) fun b h1 h2 h3 =>(hy b h1 (Nat.lt_of_lt_of_le h2 ho.size) h3).trans (ho.block b h2 h3)
theorem MeOff.of_ow (h:MeOw b1 W1 v m) (hb:Bl W1 W) (h0:b0≤b1) (hx:∀ x ∈ xs,x < b1∨W1.heap.size≤x):MeOff xs b0 W v m :=
  fun Y hs hy=> h.2 Y (Nat.le_trans hb.size hs) fun b h1 h2 =>(hy b (Nat.le_trans h0 h1) (Nat.lt_of_lt_of_le h2 hb.size) (fun hm=> by have:=hx b hm;omega)).trans (Below.block hb b h2)
theorem MeOff.ow (h:MeOff xs b0 W v m) (ho:Ob xs W X):MeOw b0 X v m :=
  ⟨(h.ob ho).at,fun Y hs hy=> h.ob ho Y hs fun b h1 h2 _=> hy b h1 h2⟩
end
/-- What CoarsenMesh has after k points. -/
def crT (m:MeQ) (l:List Int) (k:Nat):MeQ × Nat:=((crL m l).take k).foldl crS (m,0)
theorem crT_succ {m:MeQ}{l:List Int}{k:Nat}(hk:k < (crL m l).length):crT m l (k+1)=crS (crT m l k) (ix (crL m l) k):=by
  unfold crT
  rw[List.take_add_one,List.foldl_append,List.getElem?_eq_getElem hk]
  simp[ix,hk]
theorem crT_all (m:MeQ) (l:List Int):crT m l (crL m l).length=crA m l:=by unfold crT crA;rw[List.take_length]
theorem crT_ok {m:MeQ}{l:List Int}(hc:crC (m,0) (crL m l)=true) {k:Nat}(hk:k < (crL m l).length):okS (crT m l k).1 (ix (crL m l) k)=true:=by
  refine crC_at (ps:=(crL m l).drop (k+1)) (x:=(m,0)) (pre:=(crL m l).take k) ?_
  rw[show ix (crL m l) k=(crL m l)[k] by simp[ix,hk],List.getElem_cons_drop,List.take_append_drop]
  exact hc
theorem crT_fit {m:MeQ}{l:List Int}(hf:FitM m) (hc:crC (m,0) (crL m l)=true) (k:Nat):FitM (crT m l k).1 :=
  crC_fit (x:=(m,0)) hf hc (pre:=(crL m l).take k) (suf:=(crL m l).drop k) (List.take_append_drop _ _).symm
theorem okS_at {m:MeQ}{p:Int}(h:okS m p=true):(0≤p∧p < m.pts.length)∧(remB m p=true→FitM (rmM m p)∧rvC m p=true):=by
  unfold okS at h
  simp only[Bool.and_eq_true,decide_eq_true_eq,Bool.or_eq_true,Bool.not_eq_true'] at h
  refine⟨h.1,fun hr=> ?_⟩
  rcases h.2 with h2 | h2
  · rw[hr] at h2
    cases h2
  · exact⟨fit_of h2.1,h2.2⟩
theorem crT_len {m:MeQ}{l:List Int}:∀ k,(crT m l k).2≤k:=by
  intro k
  induction k with
  | zero=> exact Nat.le_refl _
  | succ k ih =>
    by_cases hk:k < (crL m l).length
    · rw[crT_succ hk]
      unfold crS
      split
      · exact Nat.succ_le_succ ih
      · omega
    · have e:crT m l (k+1)=crT m l k:=by unfold crT;rw[List.take_of_length_le (by omega),List.take_of_length_le (by omega)]
      rw[e]
      omega
/-- RemovePoint, in one. -/
theorem RemovePoint_yes (w:World) {v:Value}{x:MeQ × Nat}(h:MeAt w v x.1) (hf:FitM x.1) (p:Nat) (hp:p < x.1.pts.length) (hr:remB x.1 (p:Int)=true→FitM (rmM x.1 (p:Int))∧rvC x.1 (p:Int)=true) {b:Bool}(hb:remB x.1 (p:Int)=b) :
    Calls Tryz.prog 8 #[v,.int .i64 (p:Int)] w (RmRes w (crS x (p:Int)).1 b):=by
  cases b with
  | true =>
    obtain⟨h1,h2⟩:=hr hb
    unfold crS
    rw[if_pos hb]
    exact RemovePoint_rm w h hf p hp hb h1 h2
  | false =>
    unfold crS
    rw[if_neg (by rw[hb];decide)]
    exact RemovePoint_no w h hf p hp hb
def CrRes (w:World) (x:MeQ × Nat) (e:Ending) (w':World):Prop:=∃ v2,e=.returned (.tuple #[v2,.int .i64 (x.2:Int)])∧MeOw w.heap.size w' v2 x.1∧Bl w w'

set_option maxRecDepth 100000 in
set_option maxHeartbeats 32000000 in
theorem CoarsenMesh_yes (w:World) {v:Value}{mq:MeQ}(h:MeAt w v mq) (hf:FitM mq) {B:Option Addr}{kl dl:Nat}{list:List Int}(hl:RdI w B kl dl list) (hk:kl≤1048576) (hc:crC (mq,0) (crL mq list)=true) :
    Calls Tryz.prog 39 #[v,.slice B kl dl] w (CrRes w (crA mq list)):=by
  obtain⟨gp,n,cp,gt,m,ct,rfl,hp,ht⟩:=h
  have hn:=Lib.hid (show mq.pts.length=n by rw[← hp.len,List.length_map])
  have hm:=Lib.hid ht.len
  have hm48:m≤48:=by rw[← ht.len];exact hf.ok.t48
  have hn3:3≤n:=by rw[← hn.out];exact hf.ok.n3
  have hn40:n≤40:=by rw[← hn.out];exact hf.ok.n40
  have hcl:(crL mq list).length≤n:=by unfold crL lsA;rw[List.length_reverse];have h1:=lsTo_len (mkA list mq.pts.length) (mkA list mq.pts.length).length;rw[mkA_len] at h1 ⊢;rw[hn.out] at h1 ⊢;exact h1
  have hfH:=Lib.hid hf
  have hcH:=Lib.hid hc
  clear hf hc
  refine(callsIn_wide (n:=5)).1 ?_
  refine callsIn_of_wp_marks Tryz.func39 rfl trivial ?_ rfl
  simp only[Tryz.ntmps39,List.size_toArray,List.length_cons,List.length_nil,Nat.reduceAdd,Nat.reduceSub,Array.replicate_succ,Array.replicate_zero,List.push_toArray,List.append_toArray,List.nil_append,List.cons_append]
  refine wpIn_wide.2 ?_
  go_upto_region 1 with (fail)
  refine wp_gen (fun W=> Bl w W∧∃ g2 g4,Blk W g2 26 #[.slice (some ⟨gp,0,none⟩) n cp,.slice (some ⟨gt,0,none⟩) m ct]∧Wk 2 26 g4 W∧g2=w.heap.size∧g4=w.heap.size+1) ⟨slc,_,_,by exact bts,by exact bts,rfl,rfl⟩ ?_
  rintro W0 ⟨hbW,g2,g4,h2,hr,hg2,hg4⟩
  rw[← hg4,← hg2]
  have hz0:=hr.lt
  have hg4w:w.heap.size≤g4:=by rw[hg4];omega
  clear hg2 hg4
  have hp:=RdPS.bl hp hbW
  have ht:=RdTS.bl ht hbW
  have hl:=RdI.bl hl hbW
  obtain⟨r0,r1⟩:=bx2 h2
  go_wp2_with fail
  refine(copyMesh_any _ hp ht (by omega) (by omega) (by omega) (fun i hi=> by rw[pix_map (by rw[hn.out];exact hi)];exact⟨sm_sz (hfH.out.ok.place.1 i (by rw[hn.out];exact hi)).1,sm_sz (hfH.out.ok.place.1 i (by rw[hn.out];exact hi)).2⟩)).mono ?_
  rintro e w1 ⟨lo,gp1,n1,cp1,gt1,m1,ct1,rfl,hn',hm',hrow,hT,hgl,hlo,hb1⟩
  obtain rfl:n1=n:=by rw[hn',List.length_map,hn.out]
  obtain rfl:m1=m:=by rw[hm',hm.out]
  have hM1:MeOw W0.heap.size w1 (.agg #[.slice (some ⟨gp1,0,none⟩) n1 cp1,.slice (some ⟨gt1,0,none⟩) m1 ct1]) mq:=MeOw.of hrow hT hlo (Nat.le_refl _) (by rw[hn.out];omega)
  clear r0 r1 hn' hm' hrow hT hgl hlo
  go_upto_region 2 with (fail)
  refine wp_gen (fun W=> Bl w1 W∧∃ g6,Blk W g6 26 #[.slice (some ⟨gp1,0,none⟩) n1 cp1,.slice (some ⟨gt1,0,none⟩) m1 ct1]∧g6=w1.heap.size) ⟨slc,_,by exact bts,rfl⟩ ?_
  rintro W1 ⟨hb2,g6,h6,hg6⟩
  rw[← hg6]
  have hb02:=hb1.next hb2
  have h2:=h2.bl hb02
  have hg61:w1.heap.size≤g6:=by rw[hg6];exact Nat.le_refl _
  have hg6z:=h6.lt
  clear hg6
  obtain⟨r0,r1⟩:=bx2 h2
  go_wp2_with fail
  refine(IsMesh_yes _ (RdPS.bl hp hb02) (RdTS.bl ht hb02) hfH.out.ok).mono ?_
  rintro e w2 ⟨rfl,hb3⟩
  have h2:=h2.bl hb3
  have h6:=h6.bl hb3
  have hb03:=hb02.next hb3
  clear r0 r1
  go_upto_region 5 with (fail)
  refine wp_gen (fun W=> Bl w2 W∧∃ g7,Blk W g7 3 #[.int .i64 0]∧g7=w2.heap.size) ⟨slc,_,by exact bts,rfl⟩ ?_
  rintro W3 ⟨hb4,g7,h7,hg7⟩
  rw[← hg7]
  have h2:=h2.bl hb4
  have h6:=h6.bl hb4
  have hb04:=hb03.next hb4
  have hb14:=(hb2.next hb3).next hb4
  have hg7z:w1.heap.size≤g7:=by rw[hg7];exact(hb2.next hb3).size
  have hg67:g6 < g7:=by rw[hg7];exact Nat.lt_of_lt_of_le hg6z hb3.size
  clear hg7 hb2 hb3 hb4 hb02 hb03
  obtain⟨r0,r1⟩:=bx2 h2
  go_wp2_with fail
  refine(markedOf_any _ (RdI.bl hl hb04) (by omega) n1 (by omega)).mono ?_
  rintro e w4 ⟨ga,rfl,hU,hga,hb5⟩
  have h2:=h2.bl hb5
  have hb05:=hb04.next hb5
  clear r0 r1
  go_wp2_with fail
  refine(listed_any _ hU (mkA_len _ _) (by omega)).mono ?_
  rintro e w5 ⟨Al,nl,cl,rfl,hO,hb6⟩
  go_wp2_with fail
  refine(Backward_any _ _ _ _).mono ?_
  rintro e w6 ⟨rfl,hb7,hBs⟩
  go_wp2_with fail
  have hb17:=((hb14.next hb5).next hb6).next hb7
  have hb37:=(hb5.next hb6).next hb7
  have hL:crL mq list=(lsA (mkA list n1)).reverse:=by unfold crL;rw[hn.out]
  have hLl:(crL mq list).length=nl:=by rw[hL,List.length_reverse];exact hO.rd.len
  have hix:∀ k,k < nl→ix (lsA (mkA list n1)) (nl - 1 - k)=ix (crL mq list) k:=fun k hk=> by
    have hl2:(lsA (mkA list n1)).length=nl:=hO.rd.len
    rw[hL]
    unfold ix
    rw[List.getD_eq_getElem?_getD,List.getD_eq_getElem?_getD,List.getElem?_reverse (by omega),hl2]
  obtain⟨gb,hAl,hgb⟩:∃ gb,(0 < nl→Al=some ⟨gb,0,none⟩)∧w4.heap.size≤gb∧gb < w6.heap.size:=by
    rcases hO.2 with h |⟨g,cs,e,h1,h2,_⟩
    · exact⟨w4.heap.size,fun h0=> by omega,Nat.le_refl _,by have:=hb6.size;have:=hBs.lt;omega⟩
    · exact⟨g,fun _=> e,h1,Nat.lt_of_lt_of_le (heap_lt h2) hb7.size⟩
  have hLr:=RdI.bl hO.rd hb7
  have hcells:∀ j,j < nl→w6.cell? ⟨gb,j,none⟩=some (.int .i64 (ix (lsA (mkA list n1)) j)):=fun j hj=> by
    have e0:=hAl (by omega)
    subst e0
    obtain⟨_,e1,_,h1⟩:=hLr.at_ hj
    cases e1
    rw[Addr.add_lit,Nat.zero_add] at h1
    exact h1
  have hz46:=(hb6.next hb7).size
  have hz01:=hb1.size
  have hz34:=hb5.size
  have hz13:=hb14.size
  have hg7W:=h7.lt
  have hbs:=hBs.lt
  have hz45:=hb6.size
  have hbsg:w4.heap.size≤w5.heap.size:=hb6.size
  have hbw6:=hbW.next ((hb05.next hb6).next hb7)
  have h6':=h6.bl hb37
  have h7':=h7.bl hb37
  have hr6:=hr.bl ((hb05.next hb6).next hb7)
  have hcT:∀ k,(crT mq list k).2≤k:=fun k=> crT_len k
  have hfin:Hid (crT mq list nl=crA mq list):=by have h:=crT_all mq list;rw[hLl] at h;exact h
  have hM0:MeOff [g4,g6,g7,w6.heap.size,w6.heap.size+1] w.heap.size w6 (.agg #[.slice (some ⟨gp1,0,none⟩) n1 cp1,.slice (some ⟨gt1,0,none⟩) m1 ct1]) mq:=MeOff.of_ow hM1 hb17 hbW.size (fun x hx=> by simp at hx;omega)
  have hnl40:nl≤40:=by omega
  refine(wpIn_wide (n:=5)).1 ?_
  refine wp_rangeCnt (by omega) (gf := 99) (lb := #[.pointer (some ⟨w5.heap.size, 0, none⟩)]) rfl (enters_of Tryz.func99 (by kernel_rfl) rfl)
    (Backward1_cnt 4 (by omega) hAl hgb.2 hbs (by omega) (hBs.cell 0) hcells) (by simp;omega) (fun _=> rfl)
    (fun k W=> ∃ gp2 n2 cp2 gt2 m2 ct2,Blk W g6 26 #[.slice (some ⟨gp2,0,none⟩) n2 cp2,.slice (some ⟨gt2,0,none⟩) m2 ct2]∧MeOff [g4,g6,g7,w6.heap.size,w6.heap.size+1] w.heap.size W (.agg #[.slice (some ⟨gp2,0,none⟩) n2 cp2,.slice (some ⟨gt2,0,none⟩) m2 ct2]) (crT mq list k).1∧Blk W g7 3 #[.int .i64 ((crT mq list k).2:Int)]∧Wk 2 26 g4 W∧Ob [g4,g6,g7,w6.heap.size,w6.heap.size+1] w6 W) (fun _ _ _=> False)
    (fun k A B hs ho=> by
      obtain⟨gp2,n2,cp2,gt2,m2,ct2,h6,hM,h7,hW4,hOb⟩:=hs
      have ho2:Ob [g4,g6,g7,w6.heap.size,w6.heap.size+1] A B:=ho.mono (by intro b hb;simp at hb ⊢;omega)
      exact⟨gp2,n2,cp2,gt2,m2,ct2,(ho.block g6 h6.lt (by simp;omega)).trans h6,hM.ob ho2,(ho.block g7 h7.lt (by simp;omega)).trans h7,hW4.ob ho (by simp;omega),hOb.trans ho2⟩) (fun _ _ _ _ h _=> h)
    ⟨gp1,n1,cp1,gt1,m1,ct1,h6',hM0,h7',hr6,Ob.refl _ _⟩ (fun k a=> { tmps:=((a.tmps.setIfInBounds 25 (.int .i64 ((nl - 1 - k:Nat):Int))).setIfInBounds 26 (.int .i64 (ix (lsA (mkA list n1)) (nl - 1 - k)))).setIfInBounds 9 (.int .i64 (ix (lsA (mkA list n1)) (nl - 1 - k))),defers:=[] }) ?assign ?body ?done ?stop
  case assign =>
    intro l k W K hK
    gi_wp2
    exact hK
  case body =>
    rintro l k W hWs ⟨gp2,n2,cp2,gt2,m2,ct2,h6,hM,h7,hW4,hOb⟩ hk
    have hkk:k < (crL mq list).length:=by rw[hLl];exact hk
    obtain⟨⟨hp0,hp1⟩,hrm⟩:=okS_at (crT_ok hcH.out hkk)
    have hfit:=Lib.hid (crT_fit hfH.out hcH.out k)
    have hsu:=crT_succ hkk
    have e1:=hix k hk
    obtain⟨u,hu⟩:∃ u:Nat,ix (crL mq list) k=(u:Int):=⟨(ix (crL mq list) k).toNat,by omega⟩
    rw[hu] at hp0 hp1 hrm hsu e1
    dsimp only
    rw[e1]
    have hsu:=Lib.hid hsu
    have hrm:=Lib.hid hrm
    have hup:u < (crT mq list k).1.pts.length:=by omega
    have hck:=hcT k
    obtain⟨c,hcc⟩:∃ c,(crT mq list k).2=c:=⟨_,rfl⟩
    rw[hcc] at h7 hck
    have hccH:=Lib.hid hcc
    have hc40:c≤40:=by omega
    obtain⟨x60,x61⟩:=bx2 h6
    have hzW:=hOb.size
    clear hix hcells hu e1 hcc
    cases hb:remB (crT mq list k).1 (u:Int) with
    | true =>
      gi_wp2_with (refine⟨trivial,?_⟩;gi_at_call 8;refine(CallsIn.inRound l (callsIn_wide.2 (RemovePoint_yes (x:=crT mq list k) W hM.at hfit.out u hup hrm.out hb))).mono ?_;rintro e w' ⟨_,rfl,hM',hb'⟩;obtain⟨gp3,n3,cp3,gt3,m3,ct3,rfl,_,_⟩:=hM'.1;have h6w:=h6.bl hb';have h7w:=h7.bl hb';obtain⟨y60,y61⟩:=bx2 h6w;have y7:w'.cell? ⟨g7,0,none⟩=some (.int .i64 (c:Int)):=h7w.cell 0;have zf7:=h7w.frozen 0;have zf60:=h6w.frozen 0;have zf61:=h6w.frozen 1;have hl6:=h6w.lt;have hl7:=h7w.lt)
      have e2:(crT mq list (k+1)).2=c+1:=by rw[hsu.out];unfold crS;rw[if_pos hb];show (crT mq list k).2+1=c+1;rw[hccH.out]
      have e3:(crT mq list (k+1)).1=(crS (crT mq list k) (u:Int)).1:=by rw[hsu.out]
      refine⟨((((Bl.others (by exact slc)).trans (KeepsOthers.setCell w' _ _)).trans (KeepsOthers.setCell _ _ _)).trans (KeepsOthers.setCell _ _ _)).trans (KeepsOthers.alloc _ _),?_,?_⟩
      · refine Kps.of_ob (xs:=[g6,g7]) (Ob.trans (Ob.set (g:=g6) (Ob.set (g:=g6) (Ob.set (g:=g7) (Ob.of_bl (show Bl W w' from slc) _) (by simp) _ _) (by simp) _ _) (by simp) _ _) (Ob.of_bl ((Bl.refl _).alloc _) _)) (fun y hy=> ?_)
        simp only[List.mem_cons,List.not_mem_nil,or_false] at hy ⊢
        rcases hy with rfl | rfl <;> constructor <;> omega
      · refine⟨gp3,n3,cp3,gt3,m3,ct3,?_,?_,?_,?_,hOb.trans (Ob.trans (Ob.set (g:=g6) (Ob.set (g:=g6) (Ob.set (g:=g7) (Ob.of_bl (show Bl W w' from slc) _) (by simp) _ _) (by simp) _ _) (by simp) _ _) (Ob.of_bl ((Bl.refl _).alloc _) _))⟩
        · simpa using Blk.alloc (Blk.set_ (Blk.set_ (Blk.far (p:=⟨g7,0,none⟩) h6w (show g6≠g7 by omega) _) 0 (.slice (some ⟨gp3,0,none⟩) n3 cp3)) 1 (.slice (some ⟨gt3,0,none⟩) m3 ct3)) _
        · rw[e3]
          exact(MeOff.of_ow hM' (Bl.refl _) (Nat.le_trans hbw6.size hzW) (fun x hx=> by simp at hx;omega)).ob (Ob.trans (Ob.set (g:=g6) (Ob.set (g:=g6) (Ob.set (g:=g7) (Ob.refl _ w') (by simp) _ _) (by simp) _ _) (by simp) _ _) (Ob.of_bl ((Bl.refl _).alloc _) _))
        · rw[e2]
          simpa using Blk.alloc (Blk.far (p:=⟨g6,1,none⟩) (Blk.far (p:=⟨g6,0,none⟩) (Blk.set_ h7w 0 (.int .i64 ((c:Int)+1))) (show g7≠g6 by omega) _) (show g7≠g6 by omega) _) _
        · exact Wk.alloc (Wk.far (p:=⟨g6,1,none⟩) (Wk.far (p:=⟨g6,0,none⟩) (Wk.far (p:=⟨g7,0,none⟩) (hW4.bl (show Bl W w' from slc)) (show g4≠g7 by omega) _) (show g4≠g6 by omega) _) (show g4≠g6 by omega) _) _
    | false =>
      gi_wp2_with (refine⟨trivial,?_⟩;gi_at_call 8;refine(CallsIn.inRound l (callsIn_wide.2 (RemovePoint_yes (x:=crT mq list k) W hM.at hfit.out u hup hrm.out hb))).mono ?_;rintro e w' ⟨_,rfl,hM',hb'⟩;obtain⟨gp3,n3,cp3,gt3,m3,ct3,rfl,_,_⟩:=hM'.1;have h6w:=h6.bl hb';have h7w:=h7.bl hb';obtain⟨y60,y61⟩:=bx2 h6w;have y7:w'.cell? ⟨g7,0,none⟩=some (.int .i64 (c:Int)):=h7w.cell 0;have zf7:=h7w.frozen 0;have zf60:=h6w.frozen 0;have zf61:=h6w.frozen 1;have hl6:=h6w.lt;have hl7:=h7w.lt)
      have e2:(crT mq list (k+1)).2=c:=by rw[hsu.out];unfold crS;rw[if_neg (by rw[hb];decide)];exact hccH.out
      have e3:(crT mq list (k+1)).1=(crS (crT mq list k) (u:Int)).1:=by rw[hsu.out]
      refine⟨(((Bl.others (by exact slc)).trans (KeepsOthers.setCell w' _ _)).trans (KeepsOthers.setCell _ _ _)).trans (KeepsOthers.alloc _ _),?_,?_⟩
      · refine Kps.of_ob (xs:=[g6,g7]) (Ob.trans (Ob.set (g:=g6) (Ob.set (g:=g6) (Ob.of_bl (show Bl W w' from slc) _) (by simp) _ _) (by simp) _ _) (Ob.of_bl ((Bl.refl _).alloc _) _)) (fun y hy=> ?_)
        simp only[List.mem_cons,List.not_mem_nil,or_false] at hy ⊢
        rcases hy with rfl | rfl <;> constructor <;> omega
      · refine⟨gp3,n3,cp3,gt3,m3,ct3,?_,?_,?_,?_,hOb.trans (Ob.trans (Ob.set (g:=g6) (Ob.set (g:=g6) (Ob.of_bl (show Bl W w' from slc) _) (by simp) _ _) (by simp) _ _) (Ob.of_bl ((Bl.refl _).alloc _) _))⟩
        · simpa using Blk.alloc (Blk.set_ (Blk.set_ h6w 0 (.slice (some ⟨gp3,0,none⟩) n3 cp3)) 1 (.slice (some ⟨gt3,0,none⟩) m3 ct3)) _
        · rw[e3]
          exact(MeOff.of_ow hM' (Bl.refl _) (Nat.le_trans hbw6.size hzW) (fun x hx=> by simp at hx;omega)).ob (Ob.trans (Ob.set (g:=g6) (Ob.set (g:=g6) (Ob.refl _ w') (by simp) _ _) (by simp) _ _) (Ob.of_bl ((Bl.refl _).alloc _) _))
        · rw[e2]
          exact Blk.alloc (Blk.far (p:=⟨g6,1,none⟩) (Blk.far (p:=⟨g6,0,none⟩) h7w (show g7≠g6 by omega) _) (show g7≠g6 by omega) _) _
        · exact Wk.alloc (Wk.far (p:=⟨g6,1,none⟩) (Wk.far (p:=⟨g6,0,none⟩) (hW4.bl (show Bl W w' from slc)) (show g4≠g6 by omega) _) (show g4≠g6 by omega) _) _
  case done =>
    rintro D W hD ⟨gp2,n2,cp2,gt2,m2,ct2,h6,hM,h7,hOb4,hOb⟩ hK
    have hg4l:=hr6.lt
    subst hD
    have hr:Wk 2 26 g4 W:=hOb4
    have hn1:¬ g4=g7:=by omega
    have hn2:¬ g4=g6:=by omega
    have hn3:¬ g7=g4:=by omega
    have hn4:¬ g6=g4:=by omega
    obtain⟨v0,x0⟩:=hr.val_ (i:=0) (by omega)
    obtain⟨v1,x1⟩:=hr.val_ (i:=1) (by omega)
    have hgr:=hr.lt
    obtain⟨cs4,hB4,hc4⟩:=hr
    have hf0:=hB4.frozen 0
    have hf1:=hB4.frozen 1
    obtain⟨x60,x61⟩:=bx2 h6
    have x7:W.cell? ⟨g7,0,none⟩=some (.int .i64 ((crT mq list nl).2:Int)):=h7.cell 0
    go_upto_region 11 with (fail)
    go_region
    go_wp2_with fail
    have hK':=(((KeepsOthers.setCell W ⟨g4,0,none⟩ (.slice (some ⟨gp2,0,none⟩) n2 cp2)).trans (KeepsOthers.setCell _ ⟨g4,1,none⟩ (.slice (some ⟨gt2,0,none⟩) m2 ct2))).trans (KeepsOthers.drew _)).same _ _ hK rfl
    have hq0:Wk 2 26 g4 W:=⟨cs4,hB4,hc4⟩
    have hq1:=(Wk.put2 hq0 (.slice (some ⟨gp2,0,none⟩) n2 cp2) (.slice (some ⟨gt2,0,none⟩) m2 ct2))
    refine⟨by simp,.inl ⟨_,_,rfl,run_takeDeferred hK',?_⟩⟩
    have hd0:=cell_kept (show (((W.setCell ⟨g4,0,none⟩ (.slice (some ⟨gp2,0,none⟩) n2 cp2)).setCell ⟨g4,1,none⟩ (.slice (some ⟨gt2,0,none⟩) m2 ct2)).drew).cell? ⟨g4,0,none⟩=some (.slice (some ⟨gp2,0,none⟩) n2 cp2) from hq1.cell 0) (grownBy_putObj' _ w6.heap.size (.deferred none)) (fun r e=> by cases e;exact⟨_,hK',rfl⟩)
    have hd1:=cell_kept (show (((W.setCell ⟨g4,0,none⟩ (.slice (some ⟨gp2,0,none⟩) n2 cp2)).setCell ⟨g4,1,none⟩ (.slice (some ⟨gt2,0,none⟩) m2 ct2)).drew).cell? ⟨g4,1,none⟩=some (.slice (some ⟨gt2,0,none⟩) m2 ct2) from hq1.cell 1) (grownBy_putObj' _ w6.heap.size (.deferred none)) (fun r e=> by cases e;exact⟨_,hK',rfl⟩)
    have hO9:Ob [g4,g6,g7,w6.heap.size,w6.heap.size+1] W ((((W.setCell ⟨g4,0,none⟩ (.slice (some ⟨gp2,0,none⟩) n2 cp2)).setCell ⟨g4,1,none⟩ (.slice (some ⟨gt2,0,none⟩) m2 ct2)).drew).putObj w6.heap.size (.deferred none)) :=
      Ob.trans (Ob.trans (Ob.set (g:=g4) (Ob.set (g:=g4) (Ob.refl _ _) (by simp) _ _) (by simp) _ _) (Ob.of_bl (Bl.refl _).drew _)) ⟨rfl,rfl,rfl,by simp,fun k _ hn=> World.putObj_heap_other (fun e=> hn (by rw[e];simp))⟩
    have hbz:=hbw6.size
    exact⟨.tuple #[.agg #[.slice (some ⟨gp2,0,none⟩) n2 cp2,.slice (some ⟨gt2,0,none⟩) m2 ct2],.int .i64 ((crT mq list nl).2:Int)],by simp[results,Tryz.results39,go_sem,hd0,hd1],⟨_,by rw[← hfin.out],by rw[← hfin.out];exact hM.ow hO9,Bl.ob hbw6 (hOb.trans hO9) (by intro b hb;simp at hb;omega)⟩⟩
  case stop =>
    rintro D c k W _ h _
    exact h.elim
end

section
open Go.RowKit

/-- The cells of a block are points with memory of their own since b0. -/
def PtsB (b0:Nat) (w:World) (cs:Array Value) (ps:List PtD):Prop:=∀ k,k < ps.length→∃ s A n c B m d t C i e D j f,(cs[k * 6]?=some (.bool s)∧cs[k * 6+1]?=some (.slice A n c)∧cs[k * 6+2]?=some (.slice B m d)∧cs[k * 6+3]?=some (.bool t)∧cs[k * 6+4]?=some (.slice C i e)∧cs[k * 6+5]?=some (.slice D j f))∧OwPN AnyN 3 b0 w s A n c B m d t C i e D j f (pix ps k)
def TrsB (cs:Array Value) (ts:List TriD):Prop:=∀ k,k < ts.length→cs[k * 5]?=some (.int .i64 (pix ts k).a)∧cs[k * 5+1]?=some (.int .i64 (pix ts k).b)∧cs[k * 5+2]?=some (.int .i64 (pix ts k).c)∧cs[k * 5+3]?=some (.int .i64 (pix ts k).region)∧cs[k * 5+4]?=some (.int .i64 (pix ts k).level)
theorem OwPN.keepB {T:TypeId}{b0:Nat}{w W:World}{s:Bool}{A:Option Addr}{n c:Nat}{B:Option Addr}{m d:Nat}{t:Bool}{C:Option Addr}{i e:Nat}{D:Option Addr}{j f:Nat}{p:PtD}(h:OwPN AnyN T b0 w s A n c B m d t C i e D j f p) (hs:w.heap.size≤W.heap.size) (hk:∀ b,b0≤b→b < w.heap.size→W.heap[b]?=w.heap[b]?):OwPN AnyN T b0 W s A n c B m d t C i e D j f p:=by
  obtain⟨c1,c2,h1,h2,hf,hn⟩:=h
  exact⟨c1,c2,h1.keep hs fun b hb=> hk b (hf b (by simp[hb])).1 (hf b (by simp[hb])).2,h2.keep hs fun b hb=> hk b (hf b (by simp[hb])).1 (hf b (by simp[hb])).2,fun b hm =>⟨(hf b hm).1,Nat.lt_of_lt_of_le (hf b hm).2 hs⟩,hn⟩
theorem PtsB.rd {b0:Nat}{w:World}{cs:Array Value}{ps:List PtD}(h:PtsB b0 w cs ps) {g c:Nat}(hB:Blk w g 56 cs) (hc:ps.length≤c) (hl:ps.length≤1048576):RdPS w (some ⟨g,0,none⟩) ps.length c ps:=by
  refine⟨rfl,hc,by omega,fun k hk =>⟨_,rfl,hB.lt,?_⟩⟩
  obtain⟨s,A,n,c,B,m,d,t,C,i,e,D,j,f,⟨h0,h1,h2,h3,h4,h5⟩,hP⟩:=h k hk
  rw[Addr.add_lit,Nat.zero_add]
  exact⟨_,_,_,_,_,_,_,_,_,_,_,_,_,_,⟨(hB.cell _).trans h0,(hB.cell _).trans h1,(hB.cell _).trans h2,(hB.cell _).trans h3,(hB.cell _).trans h4,(hB.cell _).trans h5⟩,hP.rdx.1,hP.rdx.2⟩
theorem TrsB.rd {w:World}{cs:Array Value}{ts:List TriD}(h:TrsB cs ts) {g c:Nat}(hB:Blk w g 58 cs) (hc:ts.length≤c) (hl:ts.length≤1048576):RdTS w (some ⟨g,0,none⟩) ts.length c ts:=by
  refine⟨rfl,hc,by omega,fun k hk =>⟨_,rfl,hB.lt,?_⟩⟩
  obtain⟨h0,h1,h2,h3,h4⟩:=h k hk
  rw[Addr.add_lit,Nat.zero_add]
  exact⟨(hB.cell _).trans h0,(hB.cell _).trans h1,(hB.cell _).trans h2,(hB.cell _).trans h3,(hB.cell _).trans h4⟩
theorem MeOw.ofB {b0:Nat}{w:World}{gP gT nP nT:Nat}{cs cs2:Array Value}{mq:MeQ}(hB:Blk w gP 56 cs) (hB2:Blk w gT 58 cs2) (hP:PtsB b0 w cs (mq.pts.map tp)) (hT:TrsB cs2 mq.tris) (h1:b0≤gP) (h2:b0≤gT) (hn:(mq.pts.map tp).length=nP) (hm:mq.tris.length=nT) (hn2:nP≤1048576) (hm2:nT≤1048576) :
    MeOw b0 w (.agg #[.slice (some ⟨gP,0,none⟩) nP nP,.slice (some ⟨gT,0,none⟩) nT nT]) mq:=by
  subst hn hm
  have key:∀ w',w.heap.size≤w'.heap.size→(∀ b,b0≤b→b < w.heap.size→w'.heap[b]?=w.heap[b]?)→MeAt w' (.agg #[.slice (some ⟨gP,0,none⟩) (mq.pts.map tp).length (mq.pts.map tp).length,.slice (some ⟨gT,0,none⟩) mq.tris.length mq.tris.length]) mq:=fun w' hs hk=> by
    have hP':PtsB b0 w' cs (mq.pts.map tp):=fun k hk2=> by
      obtain⟨s,A,n,c,B,m,d,t,C,i,e,D,j,f,hc,ho⟩:=hP k hk2
      exact⟨_,_,_,_,_,_,_,_,_,_,_,_,_,_,hc,ho.keepB hs hk⟩
    exact⟨gP,_,_,gT,_,_,rfl,hP'.rd ((hk gP h1 hB.lt).trans hB) (Nat.le_refl _) hn2,hT.rd ((hk gT h2 hB2.lt).trans hB2) (Nat.le_refl _) hm2⟩
  exact⟨key w (Nat.le_refl _) fun _ _ _=> rfl,key⟩
theorem push_modify {α:Type}(a:Array α) (o:α) (f:α→α) {g:Nat}(hg:g < a.size):(a.modify g f).push o=(a.push o).modify g f:=by
  refine Array.ext_getElem? fun i=> ?_
  rw[Array.getElem?_push,Array.getElem?_modify,Array.getElem?_modify,Array.getElem?_push,Array.size_modify]
  by_cases h:i=a.size
  · subst h
    rw[if_pos rfl,if_neg (by omega),if_pos rfl]
  · rw[if_neg h,if_neg h]
theorem setCell_alloc {W:World}{g i:Nat}(hg:g < W.heap.size) (o:Obj) (u:Value):(W.setCell ⟨g,i,none⟩ u).alloc o=(W.alloc o).setCell ⟨g,i,none⟩ u:=by
  unfold World.alloc World.setCell
  simp only
  rw[push_modify _ _ _ hg]
theorem MeOw.ob {b0 g:Nat}{w W:World}{v:Value}{mq:MeQ}(h:MeOw b0 w v mq) (ho:Ob [g] w W) (hg:g < b0):MeOw b0 W v mq :=
  ⟨h.2 _ ho.size fun b h1 h2=> ho.block b h2 (by simp;omega),fun w' hs hk=> h.2 w' (Nat.le_trans ho.size hs) fun b h1 h2 =>(hk b h1 (Nat.lt_of_lt_of_le h2 ho.size)).trans (ho.block b h2 (by simp;omega))⟩
theorem cp_00:(⟨ofFrac 0 1,ofFrac 0 1⟩:PtD)=tp (0,0):=(gpt_tp 0 0 (by omega) (by omega)).trans (congrArg tp (show qp1 0 0=(0,0) by decide +kernel))
theorem cp_01:(⟨ofFrac 0 1,ofFrac 1 1⟩:PtD)=tp (0,1):=(gpt_tp 0 1 (by omega) (by omega)).trans (congrArg tp (show qp1 0 1=(0,1) by decide +kernel))
theorem cp_02:(⟨ofFrac 0 1,ofFrac 2 1⟩:PtD)=tp (0,2):=(gpt_tp 0 2 (by omega) (by omega)).trans (congrArg tp (show qp1 0 2=(0,2) by decide +kernel))
theorem cp_10:(⟨ofFrac 1 1,ofFrac 0 1⟩:PtD)=tp (1,0):=(gpt_tp 1 0 (by omega) (by omega)).trans (congrArg tp (show qp1 1 0=(1,0) by decide +kernel))
theorem cp_11:(⟨ofFrac 1 1,ofFrac 1 1⟩:PtD)=tp (1,1):=(gpt_tp 1 1 (by omega) (by omega)).trans (congrArg tp (show qp1 1 1=(1,1) by decide +kernel))
theorem cp_12:(⟨ofFrac 1 1,ofFrac 2 1⟩:PtD)=tp (1,2):=(gpt_tp 1 2 (by omega) (by omega)).trans (congrArg tp (show qp1 1 2=(1,2) by decide +kernel))
theorem cp_20:(⟨ofFrac 2 1,ofFrac 0 1⟩:PtD)=tp (2,0):=(gpt_tp 2 0 (by omega) (by omega)).trans (congrArg tp (show qp1 2 0=(2,0) by decide +kernel))
theorem cp_21:(⟨ofFrac 2 1,ofFrac 1 1⟩:PtD)=tp (2,1):=(gpt_tp 2 1 (by omega) (by omega)).trans (congrArg tp (show qp1 2 1=(2,1) by decide +kernel))
theorem cp_22:(⟨ofFrac 2 1,ofFrac 2 1⟩:PtD)=tp (2,2):=(gpt_tp 2 2 (by omega) (by omega)).trans (congrArg tp (show qp1 2 2=(2,2) by decide +kernel))
end

section
open Go.RowKit

theorem cs0_mem {r:Int}(h0:0≤r) (h1:r < 2):csQ0 r ∈ csL:=by
  rcases(show r=0∨r=1 by omega) with rfl | rfl <;> simp[csL]
theorem cs1_mem {r:Int}(h0:0≤r) (h1:r < 3):csQ1 r ∈ csL:=by
  rcases(show r=0∨r=1∨r=2 by omega) with rfl | rfl | rfl <;> simp[csL]
theorem cs2_mem:csQ2 ∈ csL:=by simp[csL]
end

end Go.Proofs.YtmkcacgmnnlddaaGreat
