/- Lemmas. -/
import Derived.Test.YtmkcacgmnnlddaaGreatRows
import Derived.Test.YtmkcacgmnnlddaaGreatPCoarsenM34
import Derived.Deep.Cut
import Derived.Deep.DeepCutAuto
import Derived.OrdersHeld
import Derived.RegionTactic
import Derived.OrdersIn
import Derived.RangeFuncNested
import Derived.RangeFuncBound
import Derived.RangeFuncCalls
import Derived.RangeFuncLeaves
import Derived.Shelf.Abstract
import Derived.Shelf.RegionOpen
import Derived.WalkKit
import Derived.OwnWalkIn
import Derived.TacticsInMore
import Derived.LoopNIn
import Derived.LoopIn
import Derived.Test.YtmkcacgmnnlddaaGreatPCoarsenM33
namespace Go.Proofs.YtmkcacgmnnlddaaGreat
section
open Go.RowKit

set_option maxRecDepth 100000 in
set_option maxHeartbeats 4000000 in
theorem remF_any (w:World) {g2 g3 gt m ct:Nat}{ts:List TriD}{p:Int}(h2:w.cell? ⟨g2,1,none⟩=some (.slice (some ⟨gt,0,none⟩) m ct)) (h3:w.cell? ⟨g3,0,none⟩=some (.int .i64 p)) (ht:RdTS w (some ⟨gt,0,none⟩) m ct ts) (k:Nat) (hk:k < m) {b:Bool}(hb:((pix ts k).a == p)=b) :
    Calls Tryz.prog 52 #[.int .i64 (k:Int),.pointer (some ⟨g2,0,none⟩),.pointer (some ⟨g3,0,none⟩)] w fun e w'=> e=.returned (.bool (!b))∧Bl w w':=by
  obtain⟨y0,_⟩:=trs_lit ht hk
  have hki:(k:Int) < (m:Int):=by omega
  obtain⟨x,hx⟩:∃ x,(pix ts k).a=x:=⟨_,rfl⟩
  rw[hx] at y0 hb
  clear hx
  have hne:(x != p)=!b:=by rw[← hb];rfl
  cases b
  all_goals
    go_enter Tryz.func52,Tryz.ntmps52
    go_wp2_with fail
    go_quiet (fail)
    all_goals (go_wp2_with fail)
    all_goals go_ret
    all_goals exact⟨rfl,slc⟩
/-- Every triangle of a list begins at p. -/
def AtA (ts:List TriD) (p:Int) (l:List Int) (k:Nat):Prop:=∀ j,j < k→(pix ts (ix l j).toNat).a=p
theorem AtA.step {ts:List TriD}{p:Int}{l:List Int}{k:Nat}(h:AtA ts p l k) (h0:(pix ts (ix l k).toNat).a=p):AtA ts p l (k+1):=by
  intro j hj
  rcases Nat.lt_succ_iff_lt_or_eq.1 hj with hj | rfl
  · exact h j hj
  · exact h0
set_option maxRecDepth 100000 in
set_option maxHeartbeats 4000000 in
theorem IndexAt_any (w:World) {g2 g3 gt m ct:Nat}{ts:List TriD}{p:Int}(h2:w.cell? ⟨g2,1,none⟩=some (.slice (some ⟨gt,0,none⟩) m ct)) (hg2:g2 < w.heap.size) (h3:w.cell? ⟨g3,0,none⟩=some (.int .i64 p)) (hg3:g3 < w.heap.size) (ht:RdTS w (some ⟨gt,0,none⟩) m ct ts) {A:Option Addr}{n c:Nat}{l:List Int}(h:RdI w A n c l) (hl:∀ x ∈ l,0≤x∧x < m) :
    Calls Tryz.prog 88 #[.slice A n c,(.func (.func 52) #[] #[.pointer (some ⟨g2,0,none⟩),.pointer (some ⟨g3,0,none⟩)])] w (IdxPostB (AtA ts p l l.length) w):=by
  have hn:=h.small
  have hln:=Lib.hid h.len
  go_enter Tryz.func88,Tryz.ntmps88
  go_wp2_with fail
  go_loopw [8] (fun i wr=> ∃ k:Nat,k≤n∧i=.int .i64 (k:Int)∧AtA ts p l k∧Bl w wr) (fun i _=> n - (intOf i).toNat)
  case atStart=> exact⟨0,Nat.zero_le _,rfl,fun j hj=> by omega,Bl.refl _⟩
  case round =>
    obtain⟨k,hk,rfl,hin,hbw⟩:=hrel
    by_cases hkn:k < n
    · have hki:(k:Int) < (n:Int):=by omega
      obtain⟨ad,rfl,hlt,hc⟩:=(RdI.bl h hbw).at_ hkn
      obtain⟨hx0,hx1⟩:=hl _ (ix_mem (l:=l) (k:=k) (by rw[hln.out];exact hkn))
      obtain⟨u,hu⟩:∃ u:Nat,ix l k=(u:Int):=⟨(ix l k).toNat,by omega⟩
      have hxk:=AtA.step (k:=k) hin
      rw[hu] at hc hx0 hx1 hxk
      rw[Int.toNat_natCast] at hxk
      have hum:u < m:=by omega
      have e2:=(Bl.cellOf (w:=w) (p:=⟨g2,1,none⟩) hbw hg2).trans h2
      have e3:=(Bl.cellOf (w:=w) (p:=⟨g3,0,none⟩) hbw hg3).trans h3
      have hz:=hbw.size
      by_cases ho:(pix ts u).a=p
      · have hin':=Lib.hid (hxk ho)
        have hbb:((pix ts u).a == p)=true:=by simpa using ho
        have hbb:=Lib.hid hbb
        clear hin ho hxk
        go_wp2_with fail
        refine(remF_any _ e2 e3 (RdTS.bl ht hbw) u hum hbb.out).mono ?_
        rintro e w1 ⟨rfl,hb1⟩
        have hb2:Bl w w1:=hbw.next hb1
        clear hb1
        go_wp2_with fail
        go_roundw
        case rel=> exact⟨k+1,by omega,by go_num,hin'.out,hb2⟩
        case measure=> simp[intOf];omega
      · have hno2:=Lib.hid (show ¬ AtA ts p l l.length from fun ha=> ho (by have h1:=ha k (by rw[hln.out];exact hkn);rw[hu,Int.toNat_natCast] at h1;exact h1))
        have hbb:((pix ts u).a == p)=false:=by simpa using ho
        have hbb:=Lib.hid hbb
        clear hin ho hxk
        go_wp2_with fail
        refine(remF_any _ e2 e3 (RdTS.bl ht hbw) u hum hbb.out).mono ?_
        rintro e w1 ⟨rfl,hb1⟩
        have hb2:Bl w w1:=hbw.next hb1
        clear hb1
        go_wp2_with fail
        go_ret
        exact⟨_,rfl,fun ha=> absurd ha hno2.out,fun _=> by omega,hb2⟩
    · have hall2:=Lib.hid (show AtA ts p l l.length from fun j hj=> hin j (by rw[hln.out] at hj;omega))
      go_wp2_with fail
      go_ret
      exact⟨_,rfl,fun _=> rfl,fun hno=> absurd hall2.out hno,hbw⟩
theorem AtA_iff {ts:List TriD}{p:Int}{l:List Int}:AtA ts p l l.length↔(l.all fun k=> decide ((pix ts k.toNat).a=p))=true:=by
  rw[List.all_eq_true]
  constructor
  · intro h x hx
    obtain⟨i,hi,rfl⟩:=List.getElem_of_mem hx
    have h1:=h i hi
    rw[show ix l i=l[i] by simp[ix,hi]] at h1
    simpa using h1
  · intro h j hj
    simpa using h _ (ix_mem hj)
set_option maxRecDepth 100000 in
theorem ContainsAt_any (w:World) {g2 g3 gt m ct:Nat}{ts:List TriD}{p:Int}(h2:w.cell? ⟨g2,1,none⟩=some (.slice (some ⟨gt,0,none⟩) m ct)) (hg2:g2 < w.heap.size) (h3:w.cell? ⟨g3,0,none⟩=some (.int .i64 p)) (hg3:g3 < w.heap.size) (ht:RdTS w (some ⟨gt,0,none⟩) m ct ts) {A:Option Addr}{n c:Nat}{l:List Int}(h:RdI w A n c l) (hl:∀ x ∈ l,0≤x∧x < m) {b:Bool}(hb:(l.all fun k=> decide ((pix ts k.toNat).a=p))=b) :
    Calls Tryz.prog 51 #[.slice A n c,(.func (.func 52) #[] #[.pointer (some ⟨g2,0,none⟩),.pointer (some ⟨g3,0,none⟩)])] w fun e w'=> e=.returned (.bool (!b))∧Bl w w':=by
  cases b with
  | true =>
    have hP2:=Lib.hid (AtA_iff.2 hb)
    clear hb
    go_enter Tryz.func51,Tryz.ntmps51
    go_wp2_with fail
    refine(IndexAt_any _ h2 hg2 h3 hg3 ht h hl).mono ?_
    rintro e w1 ⟨i,rfl,h1,_,hb⟩
    have h1:=h1 hP2.out
    subst h1
    go_wp2_with fail
    go_ret
    exact⟨rfl,hb⟩
  | false =>
    have hP2:=Lib.hid (show ¬ AtA ts p l l.length from fun ha=> by rw[AtA_iff.1 ha] at hb;cases hb)
    clear hb
    go_enter Tryz.func51,Tryz.ntmps51
    go_wp2_with fail
    refine(IndexAt_any _ h2 hg2 h3 hg3 ht h hl).mono ?_
    rintro e w1 ⟨i,rfl,_,h1,hb⟩
    have h1:=h1 hP2.out
    go_wp2_with fail
    go_ret
    exact⟨rfl,hb⟩
end

section
open Go.RowKit
attribute [local go_sem] Oper.semAt_some

theorem bodyPostM_ret {F:Fence}{n:Nat}{P:Program}{fn:Func}{R:Ending→World→Prop}{a:Act}{w:World}{v:Value}(hd:a.defers=[]) (h:(results fn a.tmps).run P w=.ok v w) (hR:R (.returned v) w):bodyPostM F n P fn R .ret a w:=by
  show LeavesInM F n P fn a.tmps R a.defers .returning w
  rw[hd]
  exact⟨v,h,hR⟩
theorem remB_no1 {m:MeQ}{p:Int}(h2:(atA m.tris p).length≠2) (h4:(atA m.tris p).length≠4):remB m p=false:=by
  unfold remB
  rw[decide_eq_false h2,decide_eq_false h4]
  rfl
theorem remB_no2 {m:MeQ}{p:Int}(h:((atA m.tris p).all fun k=> decide ((pix m.tris k.toNat).a=p))=false):remB m p=false:=by
  unfold remB
  rw[h,Bool.false_and,Bool.and_false]
theorem remB_yes {m:MeQ}{p:Int}{N:Nat}(hN:(atA m.tris p).length=2 * N) (h24:(atA m.tris p).length=2∨(atA m.tris p).length=4) (h:((atA m.tris p).all fun k=> decide ((pix m.tris k.toNat).a=p))=true):remB m p=prsB m (atA m.tris p) N:=by
  unfold remB
  rw[h,Bool.true_and,hN,show 2 * N / 2=N by omega]
  rcases h24 with h | h
  · rw[decide_eq_true (show 2 * N=2 by rw[← hN,h])]
    simp
  · rw[decide_eq_true (show 2 * N=4 by rw[← hN,h])]
    simp
theorem prsB_no {m:MeQ}{l:List Int}:∀ {N k:Nat},k < N→prB m (ix l (2 * k)) (ix l (2 * k+1))=false→prsB m l N=false
  | 0,k,h,_=> by omega
  | N+1,k,h,hp=> by
    unfold prsB
    rcases Nat.lt_succ_iff_lt_or_eq.1 h with h | rfl
    · rw[prsB_no h hp,Bool.false_and]
    · rw[hp,Bool.and_false]
set_option maxRecDepth 100000 in
set_option maxHeartbeats 32000000 in
theorem isRemovable_any (w:World) {gp n cp gt m ct:Nat}{mq:MeQ}(hp:RdPS w (some ⟨gp,0,none⟩) n cp (mq.pts.map tp)) (ht:RdTS w (some ⟨gt,0,none⟩) m ct mq.tris) (hf:FitM mq) (p:Int) :
    Calls Tryz.prog 23 #[.agg #[.slice (some ⟨gp,0,none⟩) n cp,.slice (some ⟨gt,0,none⟩) m ct],.int .i64 p] w fun e w'=> e=.returned (.bool (remB mq p))∧Bl w w':=by
  have hm48:m≤48:=by rw[← ht.len];exact hf.ok.t48
  have hmem:∀ x ∈ atA mq.tris p,0≤x∧x < m:=fun x hx=> by have:=atTo_mem hx;rw[ht.len] at this;exact this
  have hlen:(atA mq.tris p).length≤48:=by have h1:=atTo_len mq.tris p mq.tris.length;have h2:=hf.ok.t48;exact Nat.le_trans h1 h2
  have hfH:=Lib.hid hf
  clear hf
  refine(callsIn_wide (n:=5)).1 ?_
  refine callsIn_of_wp_marks Tryz.func23 rfl trivial ?_ rfl
  simp only[Tryz.ntmps23,List.size_toArray,List.length_cons,List.length_nil,Nat.reduceAdd,Nat.reduceSub,Array.replicate_succ,Array.replicate_zero,List.push_toArray,List.append_toArray,List.nil_append,List.cons_append]
  refine wpIn_wide.2 ?_
  go_upto_region 1 with (fail)
  refine wp_gen (fun W=> Bl w W∧∃ g2 g3 g4,Blk W g2 26 #[.slice (some ⟨gp,0,none⟩) n cp,.slice (some ⟨gt,0,none⟩) m ct]∧Blk W g3 3 #[.int .i64 p]∧Blk W g4 4 #[.bool false]∧g2=w.heap.size∧g3=w.heap.size+1∧g4=w.heap.size+1+1) ⟨slc,_,_,_,by exact bts,by exact bts,by exact bts,rfl,rfl,rfl⟩ ?_
  rintro W ⟨hbW,g2,g3,g4,h2,h3,h4,hg2,hg3,hg4⟩
  rw[← hg4,← hg3,← hg2]
  have hp:=RdPS.bl hp hbW
  have ht:=RdTS.bl ht hbW
  obtain⟨x20,x21⟩:=bx2 h2
  have x3:W.cell? ⟨g3,0,none⟩=some (.int .i64 p):=h3.cell 0
  have hgz0:=Lib.hid hg4
  clear hg2 hg3 hg4
  go_wp2_with fail
  refine(trianglesAt_any _ ht (by omega) p).mono ?_
  rintro e w1 ⟨Al,nl,cl,rfl,hO,hb1⟩
  have hll:=hO.rd.len
  have h2:=h2.bl hb1
  have h3:=h3.bl hb1
  have h4:=h4.bl hb1
  have hp:=RdPS.bl hp hb1
  have ht:=RdTS.bl ht hb1
  have hbw:=hbW.next hb1
  have hbz:w.heap.size≤W.heap.size:=hbW.size
  have hgz:w.heap.size≤g4:=by rw[hgz0.out];omega
  clear x20 x21 x3 hb1 hbW hgz0
  have x4:w1.cell? ⟨g4,0,none⟩=some (.bool false):=h4.cell 0
  have zf:=h4.frozen 0
  by_cases c24:nl=2∨nl=4
  · rcases c24 with rfl | rfl
    · cases hc:(atA mq.tris p).all fun k=> decide ((pix mq.tris k.toNat).a=p) with
      | false =>
        have hs:=Lib.hid (remB_no2 hc)
        have hcn:=Lib.hid (ContainsAt_any (b:=false) w1 (h2.cell 1) h2.lt (h3.cell 0) h3.lt ht hO.rd hmem hc)
        clear hc
        go_wp2_with fail
        refine hcn.out.mono ?_
        rintro e w2 ⟨rfl,hb2⟩
        have x4:w2.cell? ⟨g4,0,none⟩=some (.bool false):=(h4.bl hb2).cell 0
        have zf:=(h4.bl hb2).frozen 0
        go_wp2_with fail
        exact bodyPostM_ret (v:=.bool false) rfl (by simp[results,Tryz.results23,go_sem,x4]) ⟨by rw[hs.out],Bl.set (hbw.next hb2) hgz _⟩
      | true =>
        have hs:=Lib.hid (remB_yes (N:=1) (by rw[hll]) (by rw[hll];omega) hc)
        have hcn:=Lib.hid (ContainsAt_any (b:=true) w1 (h2.cell 1) h2.lt (h3.cell 0) h3.lt ht hO.rd hmem hc)
        clear hc
        go_wp2_with fail
        refine hcn.out.mono ?_
        rintro e w2 ⟨rfl,hb2⟩
        go_wp2_with fail
        refine(Chunk_any _ _ _ _).mono ?_
        rintro e w3 ⟨rfl,hb3,hBs,hBn⟩
        go_wp2_with fail
        have hs2:remB mq p=prsB mq (atA mq.tris p) 1:=hs.out
        have hL1:=hO.rd
        obtain⟨gb,cs,hAl,hgb,hheap,_⟩:∃ gb cs,Al=some ⟨gb,0,none⟩∧w.heap.size≤gb∧w1.heap[gb]?=some (.cells cs 3 (0,0))∧2 * 1≤cs.size:=by
          rcases hO.2 with h |⟨g,cs,e,h1,h2,h3⟩
          · omega
          · exact⟨g,cs,e,Nat.le_trans hbz h1,h2,h3⟩
        subst hAl
        have hb13:Bl w1 w3:=hb2.next hb3
        have hgb1:gb < w1.heap.size:=heap_lt hheap
        have h2w:=h2.bl hb13
        have h4w:=h4.bl hb13
        have hpw:=RdPS.bl hp hb13
        have htw:=RdTS.bl ht hb13
        have hLw:=RdI.bl hL1 hb13
        have hbw3:=hbw.next hb13
        have hcl:=hL1.cap
        have hz3:=hb3.size
        have hz13:=hb13.size
        have hg43:g4 < w3.heap.size:=h4w.lt
        have hzw3:w.heap.size≤w3.heap.size:=hbw3.size
        have hbs:=hBs.lt
        have hbn:=hBn.lt
        have hys:∀ y ∈ [w2.heap.size,w2.heap.size+1],y < w3.heap.size:=by simp;exact⟨hbs,hbn⟩
        refine(wpIn_wide (n:=5)).1 ?_
        refine wp_rangeCnt (by omega) (gf := 89) (lb := #[.pointer (some ⟨w2.heap.size, 0, none⟩), .pointer (some ⟨w2.heap.size + 1, 0, none⟩)]) rfl (enters_of Tryz.func89 (by kernel_rfl) rfl)
          (Chunk1_cnt 4 (by omega) (N:=1) hbs hbn (by omega) hcl (hBs.cell 0) (hBn.cell 0)) hys (fun _=> rfl)
          (fun k W=> Bl w3 W∧prsB mq (atA mq.tris p) k=true) (fun c _ W =>(c=.ret∧prsB mq (atA mq.tris p) 1=false∧W.cell? ⟨g4,0,none⟩=some (.bool false))∧Bl w W)
          (fun k A B hs ho =>⟨hs.1.ob ho (by simp),hs.2⟩)
          (fun c k A B hs ho =>⟨⟨hs.1.1,hs.1.2.1,(World.cell?_of_block (a:=⟨g4,0,none⟩) (ho.block g4 (World.block_lt_of_cell? _ _ hs.1.2.2) (by simp;omega))).trans hs.1.2.2⟩,hs.2.ob ho (by simp;omega)⟩)
          ⟨Bl.refl _,rfl⟩ (fun k a=> { tmps:=(a.tmps.setIfInBounds 25 (.slice (some ⟨gb,2 * k,none⟩) 2 2)).setIfInBounds 6 (.slice (some ⟨gb,2 * k,none⟩) 2 2),defers:=[] }) ?assign ?body ?done ?stop
        case assign =>
          intro l k W K hK
          gi_wp2
          exact hK
        case body =>
          rintro l k W _ ⟨hbW,hpk⟩ hk
          have hW2:=h2w.bl hbW
          have hP:=RdPS.bl hpw hbW
          have hT:=RdTS.bl htw hbW
          have hLW:=RdI.bl hLw hbW
          obtain⟨_,e0,_,hc0⟩:=hLW.at_ (k:=2 * k) (by omega)
          obtain⟨_,e1,_,hc1⟩:=hLW.at_ (k:=2 * k+1) (by omega)
          cases e0
          cases e1
          rw[Addr.add_lit,Nat.zero_add] at hc0 hc1
          have hm0:=hmem _ (ix_mem (l:=atA mq.tris p) (k:=2 * k) (by omega))
          have hm1:=hmem _ (ix_mem (l:=atA mq.tris p) (k:=2 * k+1) (by omega))
          have hprs:prsB mq (atA mq.tris p) (k+1)=(prsB mq (atA mq.tris p) k && prB mq (ix (atA mq.tris p) (2 * k)) (ix (atA mq.tris p) (2 * k+1))):=rfl
          obtain⟨u,hu⟩:∃ u:Nat,ix (atA mq.tris p) (2 * k)=(u:Int):=⟨(ix (atA mq.tris p) (2 * k)).toNat,by omega⟩
          obtain⟨v,hv⟩:∃ v:Nat,ix (atA mq.tris p) (2 * k+1)=(v:Int):=⟨(ix (atA mq.tris p) (2 * k+1)).toNat,by omega⟩
          rw[hpk,Bool.true_and,hu,hv] at hprs
          have hno:=fun hb=> Lib.hid (prsB_no (m:=mq) (l:=atA mq.tris p) hk (by rw[hu,hv];exact hb))
          rw[hu] at hc0 hm0
          rw[hv] at hc1 hm1
          have hum:u < m:=by omega
          have hvm:v < m:=by omega
          have hprs:=Lib.hid hprs
          obtain⟨r0,r1⟩:=bx2 hW2
          have x4:W.cell? ⟨g4,0,none⟩=some (.bool false):=(h4w.bl hbW).cell 0
          have zf:=(h4w.bl hbW).frozen 0
          have hg4:=(h4w.bl hbW).lt
          have hzW:=hbW.size
          have hmx:Tryz.prog.follows .mixedOrders=true:=by kernel_rfl
          have hgbW:gb < W.heap.size:=by omega
          clear hu hv hm0 hm1 hLW
          cases hb:prB mq (u:Int) (v:Int) with
          | true =>
            clear hno
            rw[hb] at hprs
            gi_wp2
            have hHeld:(fun w' =>((w'.cell? ⟨g2,0,none⟩=some ((.slice (some ⟨gp,0,none⟩) n cp))∧w'.cell? ⟨g2,1,none⟩=some ((.slice (some ⟨gt,0,none⟩) m ct))))∧w'.cell? ⟨gb,2 * k,none⟩=some (.int .i64 (u:Int))∧w'.cell? ⟨gb,2 * k+1,none⟩=some (.int .i64 (v:Int))) (W.drew):=⟨bx2 (T:=26) (hW2.bl slc),(Bl.cellOf (w:=W) (p:=⟨gb,2 * k,none⟩) slc hgbW).trans hc0,(Bl.cellOf (w:=W) (p:=⟨gb,2 * k+1,none⟩) slc hgbW).trans hc1⟩
            refine wp_region_round 9 (fun w' =>((w'.cell? ⟨g2,0,none⟩=some ((.slice (some ⟨gp,0,none⟩) n cp))∧w'.cell? ⟨g2,1,none⟩=some ((.slice (some ⟨gt,0,none⟩) m ct))))∧w'.cell? ⟨gb,2 * k,none⟩=some (.int .i64 (u:Int))∧w'.cell? ⟨gb,2 * k+1,none⟩=some (.int .i64 (v:Int))) rfl (by kernel_rfl) (fun ⟨_,_,h⟩=> h) (by rfl) ?_
            refine wpAnyH_take (i:=0) (oi:=_) (v:=?_) (fuel:=8) rfl (by kernel_rfl) (by kernel_rfl) (by kernel_rfl) (fun _ _ _ h=> h) (Or.inl ⟨by rfl,?_⟩) hHeld ?_
            rotate_left 1
            · (intro w' hSw;(try dsimp only at hSw);go_simp <;> with_reducible rfl)
            refine wpAnyH_take (i:=1) (oi:=_) (v:=?_) (fuel:=7) rfl (by kernel_rfl) (by kernel_rfl) (by kernel_rfl) (fun _ _ _ h=> h) (Or.inl ⟨by rfl,?_⟩) hHeld ?_
            rotate_left 1
            · (intro w' hSw;(try dsimp only at hSw);go_simp <;> with_reducible rfl)
            refine wpAnyH_take (i:=2) (oi:=_) (v:=?_) (fuel:=6) rfl (by kernel_rfl) (by kernel_rfl) (by kernel_rfl) (fun _ _ _ h=> h) (Or.inl ⟨by rfl,?_⟩) hHeld ?_
            rotate_left 1
            · (intro w' hSw;(try dsimp only at hSw);go_simp <;> with_reducible rfl)
            refine wpAnyH_take (i:=3) (oi:=_) (v:=?_) (fuel:=5) rfl (by kernel_rfl) (by kernel_rfl) (by kernel_rfl) (fun _ _ _ h=> h) (Or.inl ⟨by rfl,?_⟩) hHeld ?_
            rotate_left 1
            · (intro w' hSw;(try dsimp only at hSw);go_simp <;> with_reducible rfl)
            refine wpAnyH_take (i:=4) (oi:=_) (v:=?_) (fuel:=4) rfl (by kernel_rfl) (by kernel_rfl) (by kernel_rfl) (fun _ _ _ h=> h) (Or.inl ⟨by rfl,?_⟩) hHeld ?_
            rotate_left 1
            · (intro w' hSw;(try dsimp only at hSw);go_simp <;> with_reducible rfl)
            refine wpAnyH_take (i:=5) (oi:=_) (v:=?_) (fuel:=3) rfl (by kernel_rfl) (by kernel_rfl) (by kernel_rfl) (fun _ _ _ h=> h) (Or.inl ⟨by rfl,?_⟩) hHeld ?_
            rotate_left 1
            · (intro w' hSw;(try dsimp only at hSw);go_simp <;> with_reducible rfl)
            refine wpAnyH_take (i:=6) (oi:=_) (v:=?_) (fuel:=2) rfl (by kernel_rfl) (by kernel_rfl) (by kernel_rfl) (fun _ _ _ h=> h) (Or.inl ⟨by rfl,?_⟩) hHeld ?_
            rotate_left 1
            · (intro w' hSw;(try dsimp only at hSw);go_simp <;> with_reducible rfl)
            clear hHeld
            simp only[Act.put,List.setIfInBounds_toArray]
            refine wpAnyH_step (i:=7) (o:=_) (fuel:=1) rfl (by kernel_rfl) (fun K hK=> ?_)
            go_simp
            refine(isPair_any _ (RdPS.bl hP slc) (RdTS.bl hT slc) hfH.out u v hum hvm).mono ?_
            rw[hb]
            rintro e w6 ⟨rfl,hb6⟩
            have hb6:Bl W w6:=(show Bl W W.drew from slc).next hb6
            refine hK.out _ _ (⟨bx2 (T:=26) (hW2.bl slc),(Bl.cellOf (w:=W) (p:=⟨gb,2 * k,none⟩) slc hgbW).trans hc0,(Bl.cellOf (w:=W) (p:=⟨gb,2 * k+1,none⟩) slc hgbW).trans hc1⟩) ?_
            clear hK K
            try simp only[Act.put,List.setIfInBounds_toArray,List.set_cons_zero,List.set_cons_succ]
            have hHeld:(fun w' =>((w'.cell? ⟨g2,0,none⟩=some ((.slice (some ⟨gp,0,none⟩) n cp))∧w'.cell? ⟨g2,1,none⟩=some ((.slice (some ⟨gt,0,none⟩) m ct))))∧w'.cell? ⟨gb,2 * k,none⟩=some (.int .i64 (u:Int))∧w'.cell? ⟨gb,2 * k+1,none⟩=some (.int .i64 (v:Int))) w6:=⟨bx2 (T:=26) (hW2.bl slc),(Bl.cellOf (w:=W) (p:=⟨gb,2 * k,none⟩) slc hgbW).trans hc0,(Bl.cellOf (w:=W) (p:=⟨gb,2 * k+1,none⟩) slc hgbW).trans hc1⟩
            refine wpAnyH_take (i:=8) (oi:=_) (v:=?_) (fuel:=0) rfl (by kernel_rfl) (by kernel_rfl) (by kernel_rfl) (fun _ _ _ h=> h) (Or.inl ⟨by rfl,?_⟩) hHeld ?_
            rotate_left 1
            · (intro w' hSw;(try dsimp only at hSw);go_simp <;> with_reducible rfl)
            refine wpAnyH_done (by kernel_rfl) ?_ _
            gi_wp2
            exact⟨(show Bl W w6 from slc).others,Kps.of_ob (xs:=[]) (Ob.of_bl (show Bl W w6 from slc) _) (fun y hy =>⟨Nat.lt_of_lt_of_le (hys y hy) hzW,by simp⟩),slc,hprs.out⟩
          | false =>
            have hno:=hno hb
            gi_wp2
            have hHeld:(fun w' =>((w'.cell? ⟨g2,0,none⟩=some ((.slice (some ⟨gp,0,none⟩) n cp))∧w'.cell? ⟨g2,1,none⟩=some ((.slice (some ⟨gt,0,none⟩) m ct))))∧w'.cell? ⟨gb,2 * k,none⟩=some (.int .i64 (u:Int))∧w'.cell? ⟨gb,2 * k+1,none⟩=some (.int .i64 (v:Int))) (W.drew):=⟨bx2 (T:=26) (hW2.bl slc),(Bl.cellOf (w:=W) (p:=⟨gb,2 * k,none⟩) slc hgbW).trans hc0,(Bl.cellOf (w:=W) (p:=⟨gb,2 * k+1,none⟩) slc hgbW).trans hc1⟩
            refine wp_region_round 9 (fun w' =>((w'.cell? ⟨g2,0,none⟩=some ((.slice (some ⟨gp,0,none⟩) n cp))∧w'.cell? ⟨g2,1,none⟩=some ((.slice (some ⟨gt,0,none⟩) m ct))))∧w'.cell? ⟨gb,2 * k,none⟩=some (.int .i64 (u:Int))∧w'.cell? ⟨gb,2 * k+1,none⟩=some (.int .i64 (v:Int))) rfl (by kernel_rfl) (fun ⟨_,_,h⟩=> h) (by rfl) ?_
            refine wpAnyH_take (i:=0) (oi:=_) (v:=?_) (fuel:=8) rfl (by kernel_rfl) (by kernel_rfl) (by kernel_rfl) (fun _ _ _ h=> h) (Or.inl ⟨by rfl,?_⟩) hHeld ?_
            rotate_left 1
            · (intro w' hSw;(try dsimp only at hSw);go_simp <;> with_reducible rfl)
            refine wpAnyH_take (i:=1) (oi:=_) (v:=?_) (fuel:=7) rfl (by kernel_rfl) (by kernel_rfl) (by kernel_rfl) (fun _ _ _ h=> h) (Or.inl ⟨by rfl,?_⟩) hHeld ?_
            rotate_left 1
            · (intro w' hSw;(try dsimp only at hSw);go_simp <;> with_reducible rfl)
            refine wpAnyH_take (i:=2) (oi:=_) (v:=?_) (fuel:=6) rfl (by kernel_rfl) (by kernel_rfl) (by kernel_rfl) (fun _ _ _ h=> h) (Or.inl ⟨by rfl,?_⟩) hHeld ?_
            rotate_left 1
            · (intro w' hSw;(try dsimp only at hSw);go_simp <;> with_reducible rfl)
            refine wpAnyH_take (i:=3) (oi:=_) (v:=?_) (fuel:=5) rfl (by kernel_rfl) (by kernel_rfl) (by kernel_rfl) (fun _ _ _ h=> h) (Or.inl ⟨by rfl,?_⟩) hHeld ?_
            rotate_left 1
            · (intro w' hSw;(try dsimp only at hSw);go_simp <;> with_reducible rfl)
            refine wpAnyH_take (i:=4) (oi:=_) (v:=?_) (fuel:=4) rfl (by kernel_rfl) (by kernel_rfl) (by kernel_rfl) (fun _ _ _ h=> h) (Or.inl ⟨by rfl,?_⟩) hHeld ?_
            rotate_left 1
            · (intro w' hSw;(try dsimp only at hSw);go_simp <;> with_reducible rfl)
            refine wpAnyH_take (i:=5) (oi:=_) (v:=?_) (fuel:=3) rfl (by kernel_rfl) (by kernel_rfl) (by kernel_rfl) (fun _ _ _ h=> h) (Or.inl ⟨by rfl,?_⟩) hHeld ?_
            rotate_left 1
            · (intro w' hSw;(try dsimp only at hSw);go_simp <;> with_reducible rfl)
            refine wpAnyH_take (i:=6) (oi:=_) (v:=?_) (fuel:=2) rfl (by kernel_rfl) (by kernel_rfl) (by kernel_rfl) (fun _ _ _ h=> h) (Or.inl ⟨by rfl,?_⟩) hHeld ?_
            rotate_left 1
            · (intro w' hSw;(try dsimp only at hSw);go_simp <;> with_reducible rfl)
            clear hHeld
            simp only[Act.put,List.setIfInBounds_toArray]
            refine wpAnyH_step (i:=7) (o:=_) (fuel:=1) rfl (by kernel_rfl) (fun K hK=> ?_)
            go_simp
            refine(isPair_any _ (RdPS.bl hP slc) (RdTS.bl hT slc) hfH.out u v hum hvm).mono ?_
            rw[hb]
            rintro e w6 ⟨rfl,hb6⟩
            have hb6:Bl W w6:=(show Bl W W.drew from slc).next hb6
            refine hK.out _ _ (⟨bx2 (T:=26) (hW2.bl slc),(Bl.cellOf (w:=W) (p:=⟨gb,2 * k,none⟩) slc hgbW).trans hc0,(Bl.cellOf (w:=W) (p:=⟨gb,2 * k+1,none⟩) slc hgbW).trans hc1⟩) ?_
            clear hK K
            try simp only[Act.put,List.setIfInBounds_toArray,List.set_cons_zero,List.set_cons_succ]
            have hHeld:(fun w' =>((w'.cell? ⟨g2,0,none⟩=some ((.slice (some ⟨gp,0,none⟩) n cp))∧w'.cell? ⟨g2,1,none⟩=some ((.slice (some ⟨gt,0,none⟩) m ct))))∧w'.cell? ⟨gb,2 * k,none⟩=some (.int .i64 (u:Int))∧w'.cell? ⟨gb,2 * k+1,none⟩=some (.int .i64 (v:Int))) w6:=⟨bx2 (T:=26) (hW2.bl slc),(Bl.cellOf (w:=W) (p:=⟨gb,2 * k,none⟩) slc hgbW).trans hc0,(Bl.cellOf (w:=W) (p:=⟨gb,2 * k+1,none⟩) slc hgbW).trans hc1⟩
            refine wpAnyH_take (i:=8) (oi:=_) (v:=?_) (fuel:=0) rfl (by kernel_rfl) (by kernel_rfl) (by kernel_rfl) (fun _ _ _ h=> h) (Or.inl ⟨by rfl,?_⟩) hHeld ?_
            rotate_left 1
            · (intro w' hSw;(try dsimp only at hSw);go_simp <;> with_reducible rfl)
            refine wpAnyH_done (by kernel_rfl) ?_ _
            have zf:=(h4w.bl (hbW.next hb6)).frozen 0
            have x4:w6.cell? ⟨g4,0,none⟩=some (.bool false):=(h4w.bl (hbW.next hb6)).cell 0
            gi_wp2
            exact⟨(show Bl W w6 from slc).others.trans (KeepsOthers.setCell _ _ _),⟨rfl,hno.out,World.cell?_setCell_same' _ _ _ (by rw[x4];rfl)⟩,Bl.set (hbw3.next (hbW.next hb6)) hgz _⟩
        case done =>
          rintro D W hD ⟨hbW,hpk⟩ hK
          have zf:=(h4w.bl hbW).frozen 0
          have x4:W.cell? ⟨g4,0,none⟩=some (.bool false):=(h4w.bl hbW).cell 0
          have hbX:=Bl.set (hbw3.next hbW) (p:=⟨g4,0,none⟩) hgz (.bool true)
          go_wp2_with fail
          have hK':=(KeepsOthers.setCell W ⟨g4,0,none⟩ (.bool true)).same D _ hK rfl
          refine⟨by simp,.inl ⟨_,_,rfl,run_takeDeferred hK',?_⟩⟩
          have hc5:=cell_kept (World.cell?_setCell_same' W ⟨g4,0,none⟩ (.bool true) (by rw[x4];rfl)) (grownBy_putObj' _ D (.deferred none)) (fun r e=> by cases e;exact⟨_,hK',rfl⟩)
          exact⟨.bool true,by simp[results,Tryz.results23,go_sem,hc5],by rw[hs2,hpk],Below.trans hbX (belowK_b (w:=w) (Nat.le_refl _) _ D _ _ (by omega) hK' rfl rfl)⟩
        case stop =>
          rintro D c k W hD ⟨⟨rfl,hpf,hc4⟩,hbW⟩ hK
          gi_wp2
          refine⟨by simp,.inl ⟨_,_,rfl,run_takeDeferred hK,?_⟩⟩
          have hc5:=cell_kept hc4 (grownBy_putObj' _ D (.deferred none)) (fun r e=> by cases e;exact⟨_,hK,rfl⟩)
          exact⟨.bool false,by simp[results,Tryz.results23,go_sem,hc5],by rw[hs2,hpf],Below.trans hbW (belowK_b (w:=w) (Nat.le_refl _) _ D _ _ (by omega) hK rfl rfl)⟩
    · cases hc:(atA mq.tris p).all fun k=> decide ((pix mq.tris k.toNat).a=p) with
      | false =>
        have hs:=Lib.hid (remB_no2 hc)
        have hcn:=Lib.hid (ContainsAt_any (b:=false) w1 (h2.cell 1) h2.lt (h3.cell 0) h3.lt ht hO.rd hmem hc)
        clear hc
        go_wp2_with fail
        refine hcn.out.mono ?_
        rintro e w2 ⟨rfl,hb2⟩
        have x4:w2.cell? ⟨g4,0,none⟩=some (.bool false):=(h4.bl hb2).cell 0
        have zf:=(h4.bl hb2).frozen 0
        go_wp2_with fail
        exact bodyPostM_ret (v:=.bool false) rfl (by simp[results,Tryz.results23,go_sem,x4]) ⟨by rw[hs.out],Bl.set (hbw.next hb2) hgz _⟩
      | true =>
        have hs:=Lib.hid (remB_yes (N:=2) (by rw[hll]) (by rw[hll];omega) hc)
        have hcn:=Lib.hid (ContainsAt_any (b:=true) w1 (h2.cell 1) h2.lt (h3.cell 0) h3.lt ht hO.rd hmem hc)
        clear hc
        go_wp2_with fail
        refine hcn.out.mono ?_
        rintro e w2 ⟨rfl,hb2⟩
        go_wp2_with fail
        refine(Chunk_any _ _ _ _).mono ?_
        rintro e w3 ⟨rfl,hb3,hBs,hBn⟩
        go_wp2_with fail
        have hs2:remB mq p=prsB mq (atA mq.tris p) 2:=hs.out
        have hL1:=hO.rd
        obtain⟨gb,cs,hAl,hgb,hheap,_⟩:∃ gb cs,Al=some ⟨gb,0,none⟩∧w.heap.size≤gb∧w1.heap[gb]?=some (.cells cs 3 (0,0))∧2 * 2≤cs.size:=by
          rcases hO.2 with h |⟨g,cs,e,h1,h2,h3⟩
          · omega
          · exact⟨g,cs,e,Nat.le_trans hbz h1,h2,h3⟩
        subst hAl
        have hb13:Bl w1 w3:=hb2.next hb3
        have hgb1:gb < w1.heap.size:=heap_lt hheap
        have h2w:=h2.bl hb13
        have h4w:=h4.bl hb13
        have hpw:=RdPS.bl hp hb13
        have htw:=RdTS.bl ht hb13
        have hLw:=RdI.bl hL1 hb13
        have hbw3:=hbw.next hb13
        have hcl:=hL1.cap
        have hz3:=hb3.size
        have hz13:=hb13.size
        have hg43:g4 < w3.heap.size:=h4w.lt
        have hzw3:w.heap.size≤w3.heap.size:=hbw3.size
        have hbs:=hBs.lt
        have hbn:=hBn.lt
        have hys:∀ y ∈ [w2.heap.size,w2.heap.size+1],y < w3.heap.size:=by simp;exact⟨hbs,hbn⟩
        refine(wpIn_wide (n:=5)).1 ?_
        refine wp_rangeCnt (by omega) (gf := 89) (lb := #[.pointer (some ⟨w2.heap.size, 0, none⟩), .pointer (some ⟨w2.heap.size + 1, 0, none⟩)]) rfl (enters_of Tryz.func89 (by kernel_rfl) rfl)
          (Chunk1_cnt 4 (by omega) (N:=2) hbs hbn (by omega) hcl (hBs.cell 0) (hBn.cell 0)) hys (fun _=> rfl)
          (fun k W=> Bl w3 W∧prsB mq (atA mq.tris p) k=true) (fun c _ W =>(c=.ret∧prsB mq (atA mq.tris p) 2=false∧W.cell? ⟨g4,0,none⟩=some (.bool false))∧Bl w W)
          (fun k A B hs ho =>⟨hs.1.ob ho (by simp),hs.2⟩)
          (fun c k A B hs ho =>⟨⟨hs.1.1,hs.1.2.1,(World.cell?_of_block (a:=⟨g4,0,none⟩) (ho.block g4 (World.block_lt_of_cell? _ _ hs.1.2.2) (by simp;omega))).trans hs.1.2.2⟩,hs.2.ob ho (by simp;omega)⟩)
          ⟨Bl.refl _,rfl⟩ (fun k a=> { tmps:=(a.tmps.setIfInBounds 25 (.slice (some ⟨gb,2 * k,none⟩) 2 2)).setIfInBounds 6 (.slice (some ⟨gb,2 * k,none⟩) 2 2),defers:=[] }) ?assign ?body ?done ?stop
        case assign =>
          intro l k W K hK
          gi_wp2
          exact hK
        case body =>
          rintro l k W _ ⟨hbW,hpk⟩ hk
          have hW2:=h2w.bl hbW
          have hP:=RdPS.bl hpw hbW
          have hT:=RdTS.bl htw hbW
          have hLW:=RdI.bl hLw hbW
          obtain⟨_,e0,_,hc0⟩:=hLW.at_ (k:=2 * k) (by omega)
          obtain⟨_,e1,_,hc1⟩:=hLW.at_ (k:=2 * k+1) (by omega)
          cases e0
          cases e1
          rw[Addr.add_lit,Nat.zero_add] at hc0 hc1
          have hm0:=hmem _ (ix_mem (l:=atA mq.tris p) (k:=2 * k) (by omega))
          have hm1:=hmem _ (ix_mem (l:=atA mq.tris p) (k:=2 * k+1) (by omega))
          have hprs:prsB mq (atA mq.tris p) (k+1)=(prsB mq (atA mq.tris p) k && prB mq (ix (atA mq.tris p) (2 * k)) (ix (atA mq.tris p) (2 * k+1))):=rfl
          obtain⟨u,hu⟩:∃ u:Nat,ix (atA mq.tris p) (2 * k)=(u:Int):=⟨(ix (atA mq.tris p) (2 * k)).toNat,by omega⟩
          obtain⟨v,hv⟩:∃ v:Nat,ix (atA mq.tris p) (2 * k+1)=(v:Int):=⟨(ix (atA mq.tris p) (2 * k+1)).toNat,by omega⟩
          rw[hpk,Bool.true_and,hu,hv] at hprs
          have hno:=fun hb=> Lib.hid (prsB_no (m:=mq) (l:=atA mq.tris p) hk (by rw[hu,hv];exact hb))
          rw[hu] at hc0 hm0
          rw[hv] at hc1 hm1
          have hum:u < m:=by omega
          have hvm:v < m:=by omega
          have hprs:=Lib.hid hprs
          obtain⟨r0,r1⟩:=bx2 hW2
          have x4:W.cell? ⟨g4,0,none⟩=some (.bool false):=(h4w.bl hbW).cell 0
          have zf:=(h4w.bl hbW).frozen 0
          have hg4:=(h4w.bl hbW).lt
          have hzW:=hbW.size
          have hmx:Tryz.prog.follows .mixedOrders=true:=by kernel_rfl
          have hgbW:gb < W.heap.size:=by omega
          clear hu hv hm0 hm1 hLW
          cases hb:prB mq (u:Int) (v:Int) with
          | true =>
            clear hno
            rw[hb] at hprs
            gi_wp2
            have hHeld:(fun w' =>((w'.cell? ⟨g2,0,none⟩=some ((.slice (some ⟨gp,0,none⟩) n cp))∧w'.cell? ⟨g2,1,none⟩=some ((.slice (some ⟨gt,0,none⟩) m ct))))∧w'.cell? ⟨gb,2 * k,none⟩=some (.int .i64 (u:Int))∧w'.cell? ⟨gb,2 * k+1,none⟩=some (.int .i64 (v:Int))) (W.drew):=⟨bx2 (T:=26) (hW2.bl slc),(Bl.cellOf (w:=W) (p:=⟨gb,2 * k,none⟩) slc hgbW).trans hc0,(Bl.cellOf (w:=W) (p:=⟨gb,2 * k+1,none⟩) slc hgbW).trans hc1⟩
            refine wp_region_round 9 (fun w' =>((w'.cell? ⟨g2,0,none⟩=some ((.slice (some ⟨gp,0,none⟩) n cp))∧w'.cell? ⟨g2,1,none⟩=some ((.slice (some ⟨gt,0,none⟩) m ct))))∧w'.cell? ⟨gb,2 * k,none⟩=some (.int .i64 (u:Int))∧w'.cell? ⟨gb,2 * k+1,none⟩=some (.int .i64 (v:Int))) rfl (by kernel_rfl) (fun ⟨_,_,h⟩=> h) (by rfl) ?_
            refine wpAnyH_take (i:=0) (oi:=_) (v:=?_) (fuel:=8) rfl (by kernel_rfl) (by kernel_rfl) (by kernel_rfl) (fun _ _ _ h=> h) (Or.inl ⟨by rfl,?_⟩) hHeld ?_
            rotate_left 1
            · (intro w' hSw;(try dsimp only at hSw);go_simp <;> with_reducible rfl)
            refine wpAnyH_take (i:=1) (oi:=_) (v:=?_) (fuel:=7) rfl (by kernel_rfl) (by kernel_rfl) (by kernel_rfl) (fun _ _ _ h=> h) (Or.inl ⟨by rfl,?_⟩) hHeld ?_
            rotate_left 1
            · (intro w' hSw;(try dsimp only at hSw);go_simp <;> with_reducible rfl)
            refine wpAnyH_take (i:=2) (oi:=_) (v:=?_) (fuel:=6) rfl (by kernel_rfl) (by kernel_rfl) (by kernel_rfl) (fun _ _ _ h=> h) (Or.inl ⟨by rfl,?_⟩) hHeld ?_
            rotate_left 1
            · (intro w' hSw;(try dsimp only at hSw);go_simp <;> with_reducible rfl)
            refine wpAnyH_take (i:=3) (oi:=_) (v:=?_) (fuel:=5) rfl (by kernel_rfl) (by kernel_rfl) (by kernel_rfl) (fun _ _ _ h=> h) (Or.inl ⟨by rfl,?_⟩) hHeld ?_
            rotate_left 1
            · (intro w' hSw;(try dsimp only at hSw);go_simp <;> with_reducible rfl)
            refine wpAnyH_take (i:=4) (oi:=_) (v:=?_) (fuel:=4) rfl (by kernel_rfl) (by kernel_rfl) (by kernel_rfl) (fun _ _ _ h=> h) (Or.inl ⟨by rfl,?_⟩) hHeld ?_
            rotate_left 1
            · (intro w' hSw;(try dsimp only at hSw);go_simp <;> with_reducible rfl)
            refine wpAnyH_take (i:=5) (oi:=_) (v:=?_) (fuel:=3) rfl (by kernel_rfl) (by kernel_rfl) (by kernel_rfl) (fun _ _ _ h=> h) (Or.inl ⟨by rfl,?_⟩) hHeld ?_
            rotate_left 1
            · (intro w' hSw;(try dsimp only at hSw);go_simp <;> with_reducible rfl)
            refine wpAnyH_take (i:=6) (oi:=_) (v:=?_) (fuel:=2) rfl (by kernel_rfl) (by kernel_rfl) (by kernel_rfl) (fun _ _ _ h=> h) (Or.inl ⟨by rfl,?_⟩) hHeld ?_
            rotate_left 1
            · (intro w' hSw;(try dsimp only at hSw);go_simp <;> with_reducible rfl)
            clear hHeld
            simp only[Act.put,List.setIfInBounds_toArray]
            refine wpAnyH_step (i:=7) (o:=_) (fuel:=1) rfl (by kernel_rfl) (fun K hK=> ?_)
            go_simp
            refine(isPair_any _ (RdPS.bl hP slc) (RdTS.bl hT slc) hfH.out u v hum hvm).mono ?_
            rw[hb]
            rintro e w6 ⟨rfl,hb6⟩
            have hb6:Bl W w6:=(show Bl W W.drew from slc).next hb6
            refine hK.out _ _ (⟨bx2 (T:=26) (hW2.bl slc),(Bl.cellOf (w:=W) (p:=⟨gb,2 * k,none⟩) slc hgbW).trans hc0,(Bl.cellOf (w:=W) (p:=⟨gb,2 * k+1,none⟩) slc hgbW).trans hc1⟩) ?_
            clear hK K
            try simp only[Act.put,List.setIfInBounds_toArray,List.set_cons_zero,List.set_cons_succ]
            have hHeld:(fun w' =>((w'.cell? ⟨g2,0,none⟩=some ((.slice (some ⟨gp,0,none⟩) n cp))∧w'.cell? ⟨g2,1,none⟩=some ((.slice (some ⟨gt,0,none⟩) m ct))))∧w'.cell? ⟨gb,2 * k,none⟩=some (.int .i64 (u:Int))∧w'.cell? ⟨gb,2 * k+1,none⟩=some (.int .i64 (v:Int))) w6:=⟨bx2 (T:=26) (hW2.bl slc),(Bl.cellOf (w:=W) (p:=⟨gb,2 * k,none⟩) slc hgbW).trans hc0,(Bl.cellOf (w:=W) (p:=⟨gb,2 * k+1,none⟩) slc hgbW).trans hc1⟩
            refine wpAnyH_take (i:=8) (oi:=_) (v:=?_) (fuel:=0) rfl (by kernel_rfl) (by kernel_rfl) (by kernel_rfl) (fun _ _ _ h=> h) (Or.inl ⟨by rfl,?_⟩) hHeld ?_
            rotate_left 1
            · (intro w' hSw;(try dsimp only at hSw);go_simp <;> with_reducible rfl)
            refine wpAnyH_done (by kernel_rfl) ?_ _
            gi_wp2
            exact⟨(show Bl W w6 from slc).others,Kps.of_ob (xs:=[]) (Ob.of_bl (show Bl W w6 from slc) _) (fun y hy =>⟨Nat.lt_of_lt_of_le (hys y hy) hzW,by simp⟩),slc,hprs.out⟩
          | false =>
            have hno:=hno hb
            gi_wp2
            have hHeld:(fun w' =>((w'.cell? ⟨g2,0,none⟩=some ((.slice (some ⟨gp,0,none⟩) n cp))∧w'.cell? ⟨g2,1,none⟩=some ((.slice (some ⟨gt,0,none⟩) m ct))))∧w'.cell? ⟨gb,2 * k,none⟩=some (.int .i64 (u:Int))∧w'.cell? ⟨gb,2 * k+1,none⟩=some (.int .i64 (v:Int))) (W.drew):=⟨bx2 (T:=26) (hW2.bl slc),(Bl.cellOf (w:=W) (p:=⟨gb,2 * k,none⟩) slc hgbW).trans hc0,(Bl.cellOf (w:=W) (p:=⟨gb,2 * k+1,none⟩) slc hgbW).trans hc1⟩
            refine wp_region_round 9 (fun w' =>((w'.cell? ⟨g2,0,none⟩=some ((.slice (some ⟨gp,0,none⟩) n cp))∧w'.cell? ⟨g2,1,none⟩=some ((.slice (some ⟨gt,0,none⟩) m ct))))∧w'.cell? ⟨gb,2 * k,none⟩=some (.int .i64 (u:Int))∧w'.cell? ⟨gb,2 * k+1,none⟩=some (.int .i64 (v:Int))) rfl (by kernel_rfl) (fun ⟨_,_,h⟩=> h) (by rfl) ?_
            refine wpAnyH_take (i:=0) (oi:=_) (v:=?_) (fuel:=8) rfl (by kernel_rfl) (by kernel_rfl) (by kernel_rfl) (fun _ _ _ h=> h) (Or.inl ⟨by rfl,?_⟩) hHeld ?_
            rotate_left 1
            · (intro w' hSw;(try dsimp only at hSw);go_simp <;> with_reducible rfl)
            refine wpAnyH_take (i:=1) (oi:=_) (v:=?_) (fuel:=7) rfl (by kernel_rfl) (by kernel_rfl) (by kernel_rfl) (fun _ _ _ h=> h) (Or.inl ⟨by rfl,?_⟩) hHeld ?_
            rotate_left 1
            · (intro w' hSw;(try dsimp only at hSw);go_simp <;> with_reducible rfl)
            refine wpAnyH_take (i:=2) (oi:=_) (v:=?_) (fuel:=6) rfl (by kernel_rfl) (by kernel_rfl) (by kernel_rfl) (fun _ _ _ h=> h) (Or.inl ⟨by rfl,?_⟩) hHeld ?_
            rotate_left 1
            · (intro w' hSw;(try dsimp only at hSw);go_simp <;> with_reducible rfl)
            refine wpAnyH_take (i:=3) (oi:=_) (v:=?_) (fuel:=5) rfl (by kernel_rfl) (by kernel_rfl) (by kernel_rfl) (fun _ _ _ h=> h) (Or.inl ⟨by rfl,?_⟩) hHeld ?_
            rotate_left 1
            · (intro w' hSw;(try dsimp only at hSw);go_simp <;> with_reducible rfl)
            refine wpAnyH_take (i:=4) (oi:=_) (v:=?_) (fuel:=4) rfl (by kernel_rfl) (by kernel_rfl) (by kernel_rfl) (fun _ _ _ h=> h) (Or.inl ⟨by rfl,?_⟩) hHeld ?_
            rotate_left 1
            · (intro w' hSw;(try dsimp only at hSw);go_simp <;> with_reducible rfl)
            refine wpAnyH_take (i:=5) (oi:=_) (v:=?_) (fuel:=3) rfl (by kernel_rfl) (by kernel_rfl) (by kernel_rfl) (fun _ _ _ h=> h) (Or.inl ⟨by rfl,?_⟩) hHeld ?_
            rotate_left 1
            · (intro w' hSw;(try dsimp only at hSw);go_simp <;> with_reducible rfl)
            refine wpAnyH_take (i:=6) (oi:=_) (v:=?_) (fuel:=2) rfl (by kernel_rfl) (by kernel_rfl) (by kernel_rfl) (fun _ _ _ h=> h) (Or.inl ⟨by rfl,?_⟩) hHeld ?_
            rotate_left 1
            · (intro w' hSw;(try dsimp only at hSw);go_simp <;> with_reducible rfl)
            clear hHeld
            simp only[Act.put,List.setIfInBounds_toArray]
            refine wpAnyH_step (i:=7) (o:=_) (fuel:=1) rfl (by kernel_rfl) (fun K hK=> ?_)
            go_simp
            refine(isPair_any _ (RdPS.bl hP slc) (RdTS.bl hT slc) hfH.out u v hum hvm).mono ?_
            rw[hb]
            rintro e w6 ⟨rfl,hb6⟩
            have hb6:Bl W w6:=(show Bl W W.drew from slc).next hb6
            refine hK.out _ _ (⟨bx2 (T:=26) (hW2.bl slc),(Bl.cellOf (w:=W) (p:=⟨gb,2 * k,none⟩) slc hgbW).trans hc0,(Bl.cellOf (w:=W) (p:=⟨gb,2 * k+1,none⟩) slc hgbW).trans hc1⟩) ?_
            clear hK K
            try simp only[Act.put,List.setIfInBounds_toArray,List.set_cons_zero,List.set_cons_succ]
            have hHeld:(fun w' =>((w'.cell? ⟨g2,0,none⟩=some ((.slice (some ⟨gp,0,none⟩) n cp))∧w'.cell? ⟨g2,1,none⟩=some ((.slice (some ⟨gt,0,none⟩) m ct))))∧w'.cell? ⟨gb,2 * k,none⟩=some (.int .i64 (u:Int))∧w'.cell? ⟨gb,2 * k+1,none⟩=some (.int .i64 (v:Int))) w6:=⟨bx2 (T:=26) (hW2.bl slc),(Bl.cellOf (w:=W) (p:=⟨gb,2 * k,none⟩) slc hgbW).trans hc0,(Bl.cellOf (w:=W) (p:=⟨gb,2 * k+1,none⟩) slc hgbW).trans hc1⟩
            refine wpAnyH_take (i:=8) (oi:=_) (v:=?_) (fuel:=0) rfl (by kernel_rfl) (by kernel_rfl) (by kernel_rfl) (fun _ _ _ h=> h) (Or.inl ⟨by rfl,?_⟩) hHeld ?_
            rotate_left 1
            · (intro w' hSw;(try dsimp only at hSw);go_simp <;> with_reducible rfl)
            refine wpAnyH_done (by kernel_rfl) ?_ _
            have zf:=(h4w.bl (hbW.next hb6)).frozen 0
            have x4:w6.cell? ⟨g4,0,none⟩=some (.bool false):=(h4w.bl (hbW.next hb6)).cell 0
            gi_wp2
            exact⟨(show Bl W w6 from slc).others.trans (KeepsOthers.setCell _ _ _),⟨rfl,hno.out,World.cell?_setCell_same' _ _ _ (by rw[x4];rfl)⟩,Bl.set (hbw3.next (hbW.next hb6)) hgz _⟩
        case done =>
          rintro D W hD ⟨hbW,hpk⟩ hK
          have zf:=(h4w.bl hbW).frozen 0
          have x4:W.cell? ⟨g4,0,none⟩=some (.bool false):=(h4w.bl hbW).cell 0
          have hbX:=Bl.set (hbw3.next hbW) (p:=⟨g4,0,none⟩) hgz (.bool true)
          go_wp2_with fail
          have hK':=(KeepsOthers.setCell W ⟨g4,0,none⟩ (.bool true)).same D _ hK rfl
          refine⟨by simp,.inl ⟨_,_,rfl,run_takeDeferred hK',?_⟩⟩
          have hc5:=cell_kept (World.cell?_setCell_same' W ⟨g4,0,none⟩ (.bool true) (by rw[x4];rfl)) (grownBy_putObj' _ D (.deferred none)) (fun r e=> by cases e;exact⟨_,hK',rfl⟩)
          exact⟨.bool true,by simp[results,Tryz.results23,go_sem,hc5],by rw[hs2,hpk],Below.trans hbX (belowK_b (w:=w) (Nat.le_refl _) _ D _ _ (by omega) hK' rfl rfl)⟩
        case stop =>
          rintro D c k W hD ⟨⟨rfl,hpf,hc4⟩,hbW⟩ hK
          gi_wp2
          refine⟨by simp,.inl ⟨_,_,rfl,run_takeDeferred hK,?_⟩⟩
          have hc5:=cell_kept hc4 (grownBy_putObj' _ D (.deferred none)) (fun r e=> by cases e;exact⟨_,hK,rfl⟩)
          exact⟨.bool false,by simp[results,Tryz.results23,go_sem,hc5],by rw[hs2,hpf],Below.trans hbW (belowK_b (w:=w) (Nat.le_refl _) _ D _ _ (by omega) hK rfl rfl)⟩
  · have hs:=Lib.hid (remB_no1 (m:=mq) (p:=p) (by rw[hll];omega) (by rw[hll];omega))
    have q2:((nl:Int) != 2)=true:=by simp;omega
    have q4:((nl:Int) != 4)=true:=by simp;omega
    clear c24
    go_wp2_with fail
    exact bodyPostM_ret (v:=.bool false) rfl (by simp[results,Tryz.results23,go_sem,x4]) ⟨by rw[hs.out],Bl.set hbw hgz _⟩
end

end Go.Proofs.YtmkcacgmnnlddaaGreat
