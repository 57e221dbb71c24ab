/- Lemmas. -/
import Derived.Test.YtmkcacgmnnlddaaGreatRows
import Derived.Test.YtmkcacgmnnlddaaGreatPCoarsenM35
import Derived.Test.YtmkcacgmnnlddaaGreatPCoarsenM36
import Derived.Test.YtmkcacgmnnlddaaGreatPCoarsenM28
import Derived.Test.YtmkcacgmnnlddaaGreatPCoarsenM27
import Derived.Test.YtmkcacgmnnlddaaGreatPCoarsenM21
import Derived.Deep.Cut
import Derived.Deep.DeepCutAuto
namespace Go.Proofs.YtmkcacgmnnlddaaGreat
section
open Go.RowKit

theorem wpList_append_trisR {W:World}{ops:Array Oper}{rest:List Oper}{o:Oper}{a:Act}{Q:Exit→Act→World→Prop}(hgd:o.guard=none) (s x:Operand)
    (ho:o.op=.call { callee:=.builtin .append,args:=#[s,x],argTypes:=#[24,24] }) (v:Value) (l:List TriD) (hs:a.eval s=v) {base:Nat}(hown:OwT base W v l) (hbase:base≤W.heap.size) (w0:World) (hb:Bl w0 W) (h0:w0.heap.size≤base)
    (g m c:Nat) (hx:a.eval x=.slice (some ⟨g,0,none⟩) m c) (ys:List TriD) (hr:RdTS W (some ⟨g,0,none⟩) m c ys) (hlen:l.length≤1048576) (hm:m≤1048576)
    (h:∀ v' w',OwT base w' v' (l ++ ys)→(v'=.slice none 0 0↔v=.slice none 0 0∧m=0)→Bl w0 w'→(W.heap.size≤w'.heap.size∧∀ g,g < W.heap.size→v.ownBlock≠some g→w'.heap[g]?=W.heap[g]?∧v'.ownBlock≠some g)→wpList Tryz.prog ops Q rest (a.put o.dst v') w'):wpList Tryz.prog ops Q (o :: rest) a W:=by
  have hw:Region.wanted o (yielded ops a.tmps)=true:=by simp[Region.wanted,hgd]
  have h1:=step_append_tris (ops:=ops) (F:=True) (K:=wpList Tryz.prog ops Q rest) (Q:=Q) hgd s x ho v l hs hown hbase w0 hb h0 g m c hx ys hr hlen hm h
  rw[if_pos hw] at h1
  unfold wpList
  rw[if_pos hw]
  exact .inl h1
theorem rd_one (w:World) (t:TriD):RdTS (w.alloc (.cells #[.int .i64 t.a,.int .i64 t.b,.int .i64 t.c,.int .i64 t.region,.int .i64 t.level] 58)) (some ⟨w.heap.size,0,none⟩) 1 1 [t]:=(OwT.one (base:=0) w t (Nat.zero_le _)).rd.1
theorem pts_erase (m:MeQ) (p:Nat):(m.pts.map tp).eraseIdx p=(rmM m (p:Int)).pts.map tp:=by
  unfold rmM
  rw[Int.toNat_natCast]
  apply List.ext_getElem?
  intro i
  simp only[List.getElem?_eraseIdx,List.getElem?_map]
  split <;> rfl
def RmRes (w:World) (mq:MeQ) (b:Bool) (e:Ending) (w':World):Prop:=∃ v2,e=.returned (.tuple #[v2,.bool b])∧MeOw w.heap.size w' v2 mq∧Bl w w'

set_option maxRecDepth 100000 in
set_option maxHeartbeats 32000000 in
theorem RemovePoint_no (w:World) {v:Value}{mq:MeQ}(h:MeAt w v mq) (hf:FitM mq) (p:Nat) (hpn:p < mq.pts.length) (hb:remB mq (p:Int)=false) :
    Calls Tryz.prog 8 #[v,.int .i64 (p:Int)] w (RmRes w mq false):=by
  have hMe:=h
  obtain⟨gp,n,cp,gt,m,ct,rfl,hp,ht⟩:=h
  have hn:=Lib.hid (show mq.pts.length=n by rw[← hp.len,List.length_map])
  have hm:=Lib.hid ht.len
  have hm48:m≤48:=by rw[← ht.len];exact hf.ok.t48
  have hm0:1≤m:=by rw[← ht.len];exact hf.ok.t1
  have hn3:3≤n:=by rw[← hn.out];exact hf.ok.n3
  have hn40:n≤40:=by rw[← hn.out];exact hf.ok.n40
  rw[hn.out] at hpn
  have hfH:=Lib.hid hf
  have hbH:=Lib.hid hb
  clear hf hb hMe
  go_enter Tryz.func8,Tryz.ntmps8
  go_upto_region 1 with (fail)
  refine wp_gen (fun W=> Bl w W∧∃ g2 g4,Blk W g2 26 #[.slice (some ⟨gp,0,none⟩) n cp,.slice (some ⟨gt,0,none⟩) m ct]∧Wk 2 26 g4 W∧g2=w.heap.size∧g4=w.heap.size+1) ⟨slc,_,_,by exact bts,by exact bts,rfl,rfl⟩ ?_
  rintro W0 ⟨hbW,g2,g4,h2,hr,hg2,hg4⟩
  rw[← hg4,← hg2]
  have hz0:=hr.lt
  have hg4w:w.heap.size≤g4:=by rw[hg4];omega
  clear hg2 hg4
  have hp:=RdPS.bl hp hbW
  have ht:=RdTS.bl ht hbW
  obtain⟨r0,r1⟩:=bx2 h2
  go_wp2_with fail
  refine(IsMesh_yes _ hp ht hfH.out.ok).mono ?_
  rintro e w1 ⟨rfl,hb1⟩
  have hx1:=(bx2 (h2.bl hb1)).1
  have hx2:=(bx2 (h2.bl hb1)).2
  have hni:(n:Int) - 1=((n - 1:Nat):Int):=by omega
  clear r0 r1
  go_wp2_with fail
  refine(within_yes _ (show (0:Int)≤(p:Int) by omega) (show (p:Int)≤((n - 1:Nat):Int) by omega)).mono ?_
  rintro e w2 ⟨rfl,q1,hq1⟩
  have hb2:Bl w1 w2:=by rw[hq1];exact(Bl.refl w1).drewN q1
  have hb02:=hb1.next hb2
  clear hq1 hx1 hx2 hb1 hb2
  have h2:=h2.bl hb02
  obtain⟨r0,r1⟩:=bx2 h2
  go_wp2_with fail
  refine(isRemovable_any _ (RdPS.bl hp hb02) (RdTS.bl ht hb02) hfH.out (p:Int)).mono ?_
  rw[hbH.out]
  rintro e w3 ⟨rfl,hb3⟩
  have hb03:=hb02.next hb3
  have h2:=h2.bl hb3
  have hr:=hr.bl hb03
  have hp:=RdPS.bl hp hb03
  have ht:=RdTS.bl ht hb03
  have hbw:=hbW.next hb03
  have hz3:=hb03.size
  clear r0 r1 hb02 hb3
  obtain⟨r0,r1⟩:=bx2 h2
  go_wp2_with fail
  refine(copyMesh_any _ hp ht (by omega) (by omega) (by omega) (fun i hi=> by rw[pix_map (by rw[hn.out];exact hi)];exact⟨sm_sz (hfH.out.ok.place.1 i (by rw[hn.out];exact hi)).1,sm_sz (hfH.out.ok.place.1 i (by rw[hn.out];exact hi)).2⟩)).mono ?_
  rintro e w4 ⟨lo,gp',n',cp',gt',m',ct',rfl,hn',hm',hrow,hT,hgl,hlo,hb4⟩
  obtain rfl:n'=n:=by rw[hn',List.length_map,hn.out]
  obtain rfl:m'=m:=by rw[hm',hm.out]
  clear hn' hm' r0 r1
  have hr:=hr.bl hb4
  have hbw:=hbw.next hb4
  have hM:MeOw W0.heap.size w4 (.agg #[.slice (some ⟨gp',0,none⟩) n' cp',.slice (some ⟨gt',0,none⟩) m' ct']) mq:=MeOw.of hrow hT (Nat.le_trans hz3 hlo) hz3 (by rw[hn.out];omega)
  obtain⟨v0,x0⟩:=hr.val_ (i:=0) (by omega)
  obtain⟨v1,x1⟩:=hr.val_ (i:=1) (by omega)
  have hgr:=hr.lt
  obtain⟨cs4,hB4,hc4⟩:=hr
  have hf0:=hB4.frozen 0
  have hf1:=hB4.frozen 1
  go_wp2_with fail
  exact bodyPost_ret (v:=.tuple #[.agg #[.slice (some ⟨gp',0,none⟩) n' cp',.slice (some ⟨gt',0,none⟩) m' ct'],.bool false]) (by simp[results,Tryz.results8,go_sem,x0,x1]) rfl ⟨_,rfl,MeOw.low (MeOw.setLow (MeOw.setLow hM (q:=⟨g4,0,none⟩) (by exact hz0) _) (q:=⟨g4,1,none⟩) (by exact hz0) _) hbW.size,Bl.set (Bl.set hbw (by exact hg4w) _) (by exact hg4w) _⟩

set_option maxRecDepth 100000 in
set_option maxHeartbeats 32000000 in
theorem RemovePoint_rm (w:World) {v:Value}{mq:MeQ}(h:MeAt w v mq) (hf:FitM mq) (p:Nat) (hpn:p < mq.pts.length) (hb:remB mq (p:Int)=true) (hrf:FitM (rmM mq (p:Int))) (hrc:rvC mq (p:Int)=true) :
    Calls Tryz.prog 8 #[v,.int .i64 (p:Int)] w (RmRes w (rmM mq (p:Int)) true):=by
  have hMe:=h
  obtain⟨gp,n,cp,gt,m,ct,rfl,hp,ht⟩:=h
  have hn:=Lib.hid (show mq.pts.length=n by rw[← hp.len,List.length_map])
  have hm:=Lib.hid ht.len
  have hm48:m≤48:=by rw[← ht.len];exact hf.ok.t48
  have hm0:1≤m:=by rw[← ht.len];exact hf.ok.t1
  have hn3:3≤n:=by rw[← hn.out];exact hf.ok.n3
  have hn40:n≤40:=by rw[← hn.out];exact hf.ok.n40
  rw[hn.out] at hpn
  have hfH:=Lib.hid hf
  have hbH:=Lib.hid hb
  clear hf hb hMe
  go_enter Tryz.func8,Tryz.ntmps8
  go_upto_region 1 with (fail)
  refine wp_gen (fun W=> Bl w W∧∃ g2 g4,Blk W g2 26 #[.slice (some ⟨gp,0,none⟩) n cp,.slice (some ⟨gt,0,none⟩) m ct]∧Wk 2 26 g4 W∧g2=w.heap.size∧g4=w.heap.size+1) ⟨slc,_,_,by exact bts,by exact bts,rfl,rfl⟩ ?_
  rintro W0 ⟨hbW,g2,g4,h2,hr,hg2,hg4⟩
  rw[← hg4,← hg2]
  have hz0:=hr.lt
  have hg4w:w.heap.size≤g4:=by rw[hg4];omega
  clear hg2 hg4
  have hp:=RdPS.bl hp hbW
  have ht:=RdTS.bl ht hbW
  obtain⟨r0,r1⟩:=bx2 h2
  go_wp2_with fail
  refine(IsMesh_yes _ hp ht hfH.out.ok).mono ?_
  rintro e w1 ⟨rfl,hb1⟩
  have hx1:=(bx2 (h2.bl hb1)).1
  have hx2:=(bx2 (h2.bl hb1)).2
  have hni:(n:Int) - 1=((n - 1:Nat):Int):=by omega
  clear r0 r1
  go_wp2_with fail
  refine(within_yes _ (show (0:Int)≤(p:Int) by omega) (show (p:Int)≤((n - 1:Nat):Int) by omega)).mono ?_
  rintro e w2 ⟨rfl,q1,hq1⟩
  have hb2:Bl w1 w2:=by rw[hq1];exact(Bl.refl w1).drewN q1
  have hb02:=hb1.next hb2
  clear hq1 hx1 hx2 hb1 hb2
  have h2:=h2.bl hb02
  obtain⟨r0,r1⟩:=bx2 h2
  go_wp2_with fail
  refine(isRemovable_any _ (RdPS.bl hp hb02) (RdTS.bl ht hb02) hfH.out (p:Int)).mono ?_
  rw[hbH.out]
  rintro e w3 ⟨rfl,hb3⟩
  have hb03:=hb02.next hb3
  have h2:=h2.bl hb3
  have hr:=hr.bl hb03
  have hp:=RdPS.bl hp hb03
  have ht:=RdTS.bl ht hb03
  have hbw:=hbW.next hb03
  have hz3:=hb03.size
  clear r0 r1 hb02 hb3
  obtain⟨r0,r1⟩:=bx2 h2
  go_wp2_with fail
  refine(copyMesh_any _ hp ht (by omega) (by omega) (by omega) (fun i hi=> by rw[pix_map (by rw[hn.out];exact hi)];exact⟨sm_sz (hfH.out.ok.place.1 i (by rw[hn.out];exact hi)).1,sm_sz (hfH.out.ok.place.1 i (by rw[hn.out];exact hi)).2⟩)).mono ?_
  rintro e w4 ⟨lo,gp',n',cp',gt',m',ct',rfl,hn',hm',hrow,hT,hgl,hlo,hb4⟩
  obtain rfl:n'=n:=by rw[hn',List.length_map,hn.out]
  obtain rfl:m'=m:=by rw[hm',hm.out]
  clear hn' hm' r0 r1
  have hlo0:W0.heap.size≤lo:=Nat.le_trans hz3 hlo
  have hgp:=hrow.lo (g:=gp') rfl
  have hlo0:W0.heap.size≤lo:=Nat.le_trans hz3 hlo
  have hrfH:=Lib.hid hrf
  clear hT hgl hp hrf
  have hfl:Sem.run Tryz.prog (Instr.field 26 (.agg #[.slice (some ⟨gp',0,none⟩) n' cp',.slice (some ⟨gt',0,none⟩) m' ct']) 0) w4=.ok (.slice (some ⟨gp',0,none⟩) n' cp') w4:=by kernel_rfl
  go_wp2_with fail
  clear hfl
  refine(Delete_any _ hrow (by omega) hpn).mono ?_
  rintro e w5 ⟨rfl,hrow,hO⟩
  have hb35:=hb4.ob hO (by simp;omega)
  have hbw:=hbw.next hb35
  have h2:=h2.bl hb35
  have hr:=hr.bl hb35
  have ht:=RdTS.bl ht hb35
  have hb05:=hb03.next hb35
  have hz5:=hb05.size
  rw[pts_erase] at hrow
  clear hb4 hO hb35 hb03 hz3 hlo hgp
  go_upto_region 4 with (fail)
  refine wp_gen (fun W=> Bl w5 W∧Blk W w5.heap.size 26 #[.slice (some ⟨gp',0,none⟩) (n' - 1) cp',.slice none 0 0]) ⟨slc,by exact bts⟩ ?_
  rintro W1 ⟨hb5,h6⟩
  have h21:=h2.bl hb5
  have hz6:=h6.lt
  obtain⟨r0,r1⟩:=bx2 h21
  go_wp2_with fail
  clear r0 r1 h21
  go_loopw [7,41] (fun s7 si wr=> ∃ (k:Nat) (f:Bool) (vt:Value),k≤m'∧si=.int .i64 (k:Int)∧s7=.bool f∧(rvTo mq.tris p k).2=f∧Blk wr w5.heap.size 26 #[.slice (some ⟨gp',0,none⟩) (n' - 1) cp',vt]∧OwT (w5.heap.size+1) wr vt (rvTo mq.tris p k).1∧Bl w5 wr) (fun _ si _=> m' - (intOf si).toNat)
  case atStart=> exact⟨0,true,_,by omega,rfl,rfl,rfl,h6,⟨rfl,.inl ⟨rfl,rfl⟩⟩,hb5⟩
  case round =>
    clear h6 hb5 hz6
    obtain⟨k,f,vt,hk,rfl,rfl,hf,h6,hT,hbj⟩:=hrel
    obtain⟨wr,rfl⟩:∃ wj:World,wj=wr:=⟨_,rfl⟩
    have hrl:=rvTo_len mq.tris p k
    have hz6:=h6.lt
    have h2r:=h2.bl hbj
    have htr:=RdTS.bl ht hbj
    by_cases hkm:k < m'
    · have hki:(k:Int) < (m':Int):=by omega
      obtain⟨y0,y1,y2,y3,y4⟩:=trs_lit htr hkm
      have hix:=hfH.out.ok.ixs k (by rw[hm.out];exact hkm)
      have hrg:=hfH.out.ok.reg k (by rw[hm.out];exact hkm)
      rw[hn.out] at hix
      obtain⟨t,ht_⟩:∃ t,pix mq.tris k=t:=⟨_,rfl⟩
      have htH:=Lib.hid ht_
      rw[ht_] at y0 y1 y2 y3 y4 hix hrg
      obtain⟨⟨a0,a1⟩,⟨b0,b1⟩,c0,c1⟩:=hix
      go_upto_region 8 with (fail)
      refine wp_gen (fun W=> Bl wr W∧Blk W wr.heap.size 58 #[.int .i64 t.a,.int .i64 t.b,.int .i64 t.c,.int .i64 t.region,.int .i64 t.level]) ⟨slc,by exact bts⟩ ?_
      rintro W ⟨hbq,h9⟩
      clear y0 y1 y2 y3 y4
      obtain⟨z0,z1,z2,z3,z4⟩:=bx5 h9
      by_cases ha:t.a=(p:Int)
      · have hab:(t.a == (p:Int))=true:=by simpa using ha
        cases f with
        | true =>
          have hk1:=rvC_at hrc (by rw[hm.out];exact hkm) (by rw[htH.out];exact ha) hf
          rw[hm.out] at hk1
          have hnew:=Lib.hid (rvTo_one (by rw[htH.out];exact ha) hf)
          rw[htH.out] at hnew
          obtain⟨_,y1,_,_,_⟩:=trs_lit (RdTS.bl htr hbq) hk1
          obtain⟨_,eg,hgt,_⟩:=htr.cells k hkm
          cases eg
          have hix2:=(hfH.out.ok.ixs (k+1) (by rw[hm.out];exact hk1)).2.1
          rw[hn.out] at hix2
          obtain⟨t2,ht2⟩:∃ t2,pix mq.tris (k+1)=t2:=⟨_,rfl⟩
          rw[ht2] at y1 hix2 hnew
          obtain⟨d0,d1⟩:=hix2
          obtain⟨_,lv0,lv1⟩:=hrg
          have h2W:=h2r.bl hbq
          obtain⟨r0,r1⟩:=bx2 h2W
          have hk1i:(k:Int)+1 < (m':Int):=by omega
          have hk10:(0:Int)≤(k:Int)+1:=by omega
          have hw1:IntKind.i64.wrap ((k:Int)+1)=(k:Int)+1:=by rw[IntKind.wrap_i64];omega
          have hw2:IntKind.i64.wrap (t.level - 1)=t.level - 1:=by rw[IntKind.wrap_i64];omega
          have htn:((k:Int)+1).toNat=k+1:=by omega
          have zf0:=h9.frozen 0
          have zf1:=h9.frozen 1
          have zf2:=h9.frozen 2
          have zf3:=h9.frozen 3
          have zf4:=h9.frozen 4
          clear ht_ ht2
          go_upto_region 11 with (fail)
          have hHeld:(fun w' =>(w'.cell? ⟨wr.heap.size,0,none⟩=some (.int .i64 t.a)∧w'.cell? ⟨wr.heap.size,1,none⟩=some (.int .i64 t.b)∧w'.cell? ⟨wr.heap.size,2,none⟩=some (.int .i64 t.c)∧w'.cell? ⟨wr.heap.size,3,none⟩=some (.int .i64 t.region)∧w'.cell? ⟨wr.heap.size,4,none⟩=some (.int .i64 t.level))∧(w'.cell? ⟨g2,0,none⟩=some ((.slice (some ⟨gp,0,none⟩) n' cp))∧w'.cell? ⟨g2,1,none⟩=some ((.slice (some ⟨gt,0,none⟩) m' ct)))∧w'.cell? ⟨gt,(k+1) * 5+1,none⟩=some (.int .i64 t2.b)) (W.drew):=⟨bx5 (T:=58) (h9.bl slc),bx2 (T:=26) (h2W.bl slc),y1⟩
          refine wp_region_T 17 18 (fun w' =>(w'.cell? ⟨wr.heap.size,0,none⟩=some (.int .i64 t.a)∧w'.cell? ⟨wr.heap.size,1,none⟩=some (.int .i64 t.b)∧w'.cell? ⟨wr.heap.size,2,none⟩=some (.int .i64 t.c)∧w'.cell? ⟨wr.heap.size,3,none⟩=some (.int .i64 t.region)∧w'.cell? ⟨wr.heap.size,4,none⟩=some (.int .i64 t.level))∧(w'.cell? ⟨g2,0,none⟩=some ((.slice (some ⟨gp,0,none⟩) n' cp))∧w'.cell? ⟨g2,1,none⟩=some ((.slice (some ⟨gt,0,none⟩) m' ct)))∧w'.cell? ⟨gt,(k+1) * 5+1,none⟩=some (.int .i64 t2.b)) rfl (by kernel_rfl) hHeld ?_
          refine wpAnyT_take (i:=0) (oi:=_) (v:=?_) (fuel:=17) rfl (by kernel_rfl) (by kernel_rfl) (by kernel_rfl) (by kernel_rfl) (fun _ _ _ h=> h) (by rfl) ?_ hHeld ?_
          rotate_left 1
          · (intro w' hSw;(try dsimp only at hSw);go_simp <;> with_reducible rfl)
          refine wpAnyT_take (i:=1) (oi:=_) (v:=?_) (fuel:=16) rfl (by kernel_rfl) (by kernel_rfl) (by kernel_rfl) (by kernel_rfl) (fun _ _ _ h=> h) (by rfl) ?_ hHeld ?_
          rotate_left 1
          · (intro w' hSw;(try dsimp only at hSw);go_simp <;> with_reducible rfl)
          refine wpAnyT_take (i:=2) (oi:=_) (v:=?_) (fuel:=15) rfl (by kernel_rfl) (by kernel_rfl) (by kernel_rfl) (by kernel_rfl) (fun _ _ _ h=> h) (by rfl) ?_ hHeld ?_
          rotate_left 1
          · (intro w' hSw;(try dsimp only at hSw);go_simp <;> with_reducible rfl)
          refine wpAnyT_take (i:=3) (oi:=_) (v:=?_) (fuel:=14) rfl (by kernel_rfl) (by kernel_rfl) (by kernel_rfl) (by kernel_rfl) (fun _ _ _ h=> h) (by rfl) ?_ hHeld ?_
          rotate_left 1
          · (intro w' hSw;(try dsimp only at hSw);go_simp <;> with_reducible rfl)
          refine wpAnyT_take (i:=4) (oi:=_) (v:=?_) (fuel:=13) rfl (by kernel_rfl) (by kernel_rfl) (by kernel_rfl) (by kernel_rfl) (fun _ _ _ h=> h) (by rfl) ?_ hHeld ?_
          rotate_left 1
          · (intro w' hSw;(try dsimp only at hSw);go_simp <;> with_reducible rfl)
          refine wpAnyT_take (i:=5) (oi:=_) (v:=?_) (fuel:=12) rfl (by kernel_rfl) (by kernel_rfl) (by kernel_rfl) (by kernel_rfl) (fun _ _ _ h=> h) (by rfl) ?_ hHeld ?_
          rotate_left 1
          · (intro w' hSw;(try dsimp only at hSw);go_simp <;> with_reducible rfl)
          refine wpAnyT_take (i:=6) (oi:=_) (v:=?_) (fuel:=11) rfl (by kernel_rfl) (by kernel_rfl) (by kernel_rfl) (by kernel_rfl) (fun _ _ _ h=> h) (by rfl) ?_ hHeld ?_
          rotate_left 1
          · (intro w' hSw;(try dsimp only at hSw);go_simp <;> with_reducible rfl)
          refine wpAnyT_take (i:=7) (oi:=_) (v:=?_) (fuel:=10) rfl (by kernel_rfl) (by kernel_rfl) (by kernel_rfl) (by kernel_rfl) (fun _ _ _ h=> h) (by rfl) ?_ hHeld ?_
          rotate_left 1
          · (intro w' hSw;(try dsimp only at hSw);go_simp <;> with_reducible rfl)
          refine wpAnyT_take (i:=8) (oi:=_) (v:=?_) (fuel:=9) rfl (by kernel_rfl) (by kernel_rfl) (by kernel_rfl) (by kernel_rfl) (fun _ _ _ h=> h) (by rfl) ?_ hHeld ?_
          rotate_left 1
          · (intro w' hSw;(try dsimp only at hSw);go_simp <;> with_reducible rfl)
          refine wpAnyT_take (i:=9) (oi:=_) (v:=?_) (fuel:=8) rfl (by kernel_rfl) (by kernel_rfl) (by kernel_rfl) (by kernel_rfl) (fun _ _ _ h=> h) (by rfl) ?_ hHeld ?_
          rotate_left 1
          · (intro w' hSw;(try dsimp only at hSw);go_simp <;> with_reducible rfl)
          refine wpAnyT_take (i:=10) (oi:=_) (v:=?_) (fuel:=7) rfl (by kernel_rfl) (by kernel_rfl) (by kernel_rfl) (by kernel_rfl) (fun _ _ _ h=> h) (by rfl) ?_ hHeld ?_
          rotate_left 1
          · (intro w' hSw;(try dsimp only at hSw);go_simp <;> with_reducible rfl)
          refine wpAnyT_take (i:=11) (oi:=_) (v:=?_) (fuel:=6) rfl (by kernel_rfl) (by kernel_rfl) (by kernel_rfl) (by kernel_rfl) (fun _ _ _ h=> h) (by rfl) ?_ hHeld ?_
          rotate_left 1
          · (intro w' hSw;(try dsimp only at hSw);go_simp <;> with_reducible rfl)
          refine wpAnyT_take (i:=12) (oi:=_) (v:=?_) (fuel:=5) rfl (by kernel_rfl) (by kernel_rfl) (by kernel_rfl) (by kernel_rfl) (fun _ _ _ h=> h) (by rfl) ?_ hHeld ?_
          rotate_left 1
          · (intro w' hSw;(try dsimp only at hSw);go_simp <;> with_reducible rfl)
          refine wpAnyT_take (i:=13) (oi:=_) (v:=?_) (fuel:=4) rfl (by kernel_rfl) (by kernel_rfl) (by kernel_rfl) (by kernel_rfl) (fun _ _ _ h=> h) (by rfl) ?_ hHeld ?_
          rotate_left 1
          · (intro w' hSw;(try dsimp only at hSw);go_simp <;> with_reducible rfl)
          refine wpAnyT_take (i:=14) (oi:=_) (v:=?_) (fuel:=3) rfl (by kernel_rfl) (by kernel_rfl) (by kernel_rfl) (by kernel_rfl) (fun _ _ _ h=> h) (by rfl) ?_ hHeld ?_
          rotate_left 1
          · (intro w' hSw;(try dsimp only at hSw);go_simp <;> with_reducible rfl)
          refine wpAnyT_take (i:=15) (oi:=_) (v:=?_) (fuel:=2) rfl (by kernel_rfl) (by kernel_rfl) (by kernel_rfl) (by kernel_rfl) (fun _ _ _ h=> h) (by rfl) ?_ hHeld ?_
          rotate_left 1
          · (intro w' hSw;(try dsimp only at hSw);go_simp <;> with_reducible rfl)
          refine wpAnyT_take (i:=16) (oi:=_) (v:=?_) (fuel:=1) rfl (by kernel_rfl) (by kernel_rfl) (by kernel_rfl) (by kernel_rfl) (fun _ _ _ h=> h) (by rfl) ?_ hHeld ?_
          rotate_left 1
          · (intro w' hSw;(try dsimp only at hSw);go_simp <;> with_reducible rfl)
          clear hHeld
          simp only[Act.put,List.setIfInBounds_toArray]
          refine wpAnyT_step (i:=17) (o:=_) (fuel:=0) rfl (by kernel_rfl) (fun K hK=> ?_)
          go_simp
          refine hK.out _ _ (fun h=> absurd rfl h) ?_
          clear hK K
          try simp only[Act.put,List.setIfInBounds_toArray]
          refine wpAnyT_done (by kernel_rfl) ?_
          go_upto_region 12 with (fail)
          refine wp_gen (fun X=> Bl wr X∧∃ cs,Blk X wr.heap.size 58 cs∧cs=#[.int .i64 (prT t t2).a,.int .i64 (prT t t2).b,.int .i64 (prT t t2).c,.int .i64 (prT t t2).region,.int .i64 (prT t t2).level]) ⟨Bl.set (Bl.set (Bl.set (Bl.set (Bl.set (show Bl wr W.drew from slc) (by exact Nat.le_refl _) _) (by exact Nat.le_refl _) _) (by exact Nat.le_refl _) _) (by exact Nat.le_refl _) _) (by exact Nat.le_refl _) _,_,Blk.set_ (Blk.set_ (Blk.set_ (Blk.set_ (Blk.set_ (Blk.drew h9) _ _) _ _) _ _) _ _) _ _,by simp[prT]⟩ ?_
          clear zf0 zf1 zf2 zf3 zf4 z0 z1 z2 z3 z4 r0 r1 y1 h9 hbq h2W
          rintro W ⟨hbq,cs,h9,rfl⟩
          have hbb:(0≤(prT t t2).a∧(prT t t2).a < n')∧(0≤(prT t t2).b∧(prT t t2).b < n')∧0≤(prT t t2).c∧(prT t t2).c < n':=⟨⟨b0,b1⟩,⟨c0,c1⟩,⟨d0,d1⟩⟩
          obtain⟨t',ht'⟩:∃ t',prT t t2=t':=⟨_,rfl⟩
          rw[ht'] at h9 hbb hnew
          obtain⟨z0,z1,z2,z3,z4⟩:=bx5 h9
          clear ht' a0 a1 b0 b1 c0 c1 d0 d1 ha hab
          obtain⟨⟨a0,a1⟩,⟨b0,b1⟩,c0,c1⟩:=hbb
          clear z0 z1 z2 z3 z4
          go_cut [] (fun wx =>(∃ cs,Blk wx wr.heap.size 58 cs∧cs=#[.int .i64 (lwI t'.a p),.int .i64 (lwI t'.b p),.int .i64 (lwI t'.c p),.int .i64 t'.region,.int .i64 t'.level])∧Bl wr wx)
          case first =>
            have hHeld:(fun w' =>(w'.cell? ⟨wr.heap.size,0,none⟩=some (.int .i64 t'.a)∧w'.cell? ⟨wr.heap.size,1,none⟩=some (.int .i64 t'.b)∧w'.cell? ⟨wr.heap.size,2,none⟩=some (.int .i64 t'.c)∧w'.cell? ⟨wr.heap.size,3,none⟩=some (.int .i64 t'.region)∧w'.cell? ⟨wr.heap.size,4,none⟩=some (.int .i64 t'.level))) (W.drew):=bx5 (T:=58) (h9.bl slc)
            refine wp_region_M (fun i=> decide (13≤i)) 18 (fun w' =>(w'.cell? ⟨wr.heap.size,0,none⟩=some (.int .i64 t'.a)∧w'.cell? ⟨wr.heap.size,1,none⟩=some (.int .i64 t'.b)∧w'.cell? ⟨wr.heap.size,2,none⟩=some (.int .i64 t'.c)∧w'.cell? ⟨wr.heap.size,3,none⟩=some (.int .i64 t'.region)∧w'.cell? ⟨wr.heap.size,4,none⟩=some (.int .i64 t'.level))) rfl (by kernel_rfl) ?_
            refine wpAnyM_take (i:=0) (oi:=_) (v:=?_) (fuel:=17) rfl (by kernel_rfl) (by kernel_rfl) (by kernel_rfl) (by kernel_rfl) (fun _ _ _ h=> h) (by rfl) ?_ hHeld ?_
            rotate_left 1
            · (intro w' hSw;(try dsimp only at hSw);go_simp <;> with_reducible rfl)
            refine wpAnyM_take (i:=1) (oi:=_) (v:=?_) (fuel:=16) rfl (by kernel_rfl) (by kernel_rfl) (by kernel_rfl) (by kernel_rfl) (fun _ _ _ h=> h) (by rfl) ?_ hHeld ?_
            rotate_left 1
            · (intro w' hSw;(try dsimp only at hSw);go_simp <;> with_reducible rfl)
            refine wpAnyM_take (i:=2) (oi:=_) (v:=?_) (fuel:=15) rfl (by kernel_rfl) (by kernel_rfl) (by kernel_rfl) (by kernel_rfl) (fun _ _ _ h=> h) (by rfl) ?_ hHeld ?_
            rotate_left 1
            · (intro w' hSw;(try dsimp only at hSw);go_simp <;> with_reducible rfl)
            refine wpAnyM_take (i:=4) (oi:=_) (v:=?_) (fuel:=14) rfl (by kernel_rfl) (by kernel_rfl) (by kernel_rfl) (by kernel_rfl) (fun _ _ _ h=> h) (by rfl) ?_ hHeld ?_
            rotate_left 1
            · (intro w' hSw;(try dsimp only at hSw);go_simp <;> with_reducible rfl)
            refine wpAnyM_take (i:=5) (oi:=_) (v:=?_) (fuel:=13) rfl (by kernel_rfl) (by kernel_rfl) (by kernel_rfl) (by kernel_rfl) (fun _ _ _ h=> h) (by rfl) ?_ hHeld ?_
            rotate_left 1
            · (intro w' hSw;(try dsimp only at hSw);go_simp <;> with_reducible rfl)
            refine wpAnyM_take (i:=6) (oi:=_) (v:=?_) (fuel:=12) rfl (by kernel_rfl) (by kernel_rfl) (by kernel_rfl) (by kernel_rfl) (fun _ _ _ h=> h) (by rfl) ?_ hHeld ?_
            rotate_left 1
            · (intro w' hSw;(try dsimp only at hSw);go_simp <;> with_reducible rfl)
            refine wpAnyM_take (i:=8) (oi:=_) (v:=?_) (fuel:=11) rfl (by kernel_rfl) (by kernel_rfl) (by kernel_rfl) (by kernel_rfl) (fun _ _ _ h=> h) (by rfl) ?_ hHeld ?_
            rotate_left 1
            · (intro w' hSw;(try dsimp only at hSw);go_simp <;> with_reducible rfl)
            refine wpAnyM_take (i:=9) (oi:=_) (v:=?_) (fuel:=10) rfl (by kernel_rfl) (by kernel_rfl) (by kernel_rfl) (by kernel_rfl) (fun _ _ _ h=> h) (by rfl) ?_ hHeld ?_
            rotate_left 1
            · (intro w' hSw;(try dsimp only at hSw);go_simp <;> with_reducible rfl)
            refine wpAnyM_take (i:=10) (oi:=_) (v:=?_) (fuel:=9) rfl (by kernel_rfl) (by kernel_rfl) (by kernel_rfl) (by kernel_rfl) (fun _ _ _ h=> h) (by rfl) ?_ hHeld ?_
            rotate_left 1
            · (intro w' hSw;(try dsimp only at hSw);go_simp <;> with_reducible rfl)
            clear hHeld
            try simp only[Act.put,List.setIfInBounds_toArray]
            refine wpAnyM_step (i:=3) (o:=_) (fuel:=8) rfl (by kernel_rfl) (fun K hK=> ?_)
            go_simp
            refine(lowered_any _ _ _ (by omega) (by omega)).mono ?_
            rintro e w6 ⟨rfl,hb6⟩
            have hb6:Bl W w6:=(show Bl W W.drew from slc).next hb6
            refine hK.out _ _ (fun _=> bx5 (T:=58) (h9.bl slc)) ?_
            clear hK K
            try simp only[Act.put,List.setIfInBounds_toArray,List.set_cons_zero,List.set_cons_succ]
            have hHeld:(fun w' =>(w'.cell? ⟨wr.heap.size,0,none⟩=some (.int .i64 t'.a)∧w'.cell? ⟨wr.heap.size,1,none⟩=some (.int .i64 t'.b)∧w'.cell? ⟨wr.heap.size,2,none⟩=some (.int .i64 t'.c)∧w'.cell? ⟨wr.heap.size,3,none⟩=some (.int .i64 t'.region)∧w'.cell? ⟨wr.heap.size,4,none⟩=some (.int .i64 t'.level))) w6:=bx5 (T:=58) (h9.bl slc)
            refine wpAnyM_take (i:=12) (oi:=_) (v:=?_) (fuel:=7) rfl (by kernel_rfl) (by kernel_rfl) (by kernel_rfl) (by kernel_rfl) (fun _ _ _ h=> h) (by rfl) ?_ hHeld ?_
            rotate_left 1
            · (intro w' hSw;(try dsimp only at hSw);go_simp <;> with_reducible rfl)
            clear hHeld
            try simp only[Act.put,List.setIfInBounds_toArray]
            refine wpAnyM_step (i:=7) (o:=_) (fuel:=6) rfl (by kernel_rfl) (fun K hK=> ?_)
            go_simp
            refine(lowered_any _ _ _ (by omega) (by omega)).mono ?_
            rintro e w7 ⟨rfl,hb7⟩
            have hb7:Bl W w7:=hb6.next hb7
            refine hK.out _ _ (fun _=> bx5 (T:=58) (h9.bl slc)) ?_
            clear hK K
            try simp only[Act.put,List.setIfInBounds_toArray,List.set_cons_zero,List.set_cons_succ]
            try simp only[Act.put,List.setIfInBounds_toArray]
            refine wpAnyM_step (i:=11) (o:=_) (fuel:=5) rfl (by kernel_rfl) (fun K hK=> ?_)
            go_simp
            refine(lowered_any _ _ _ (by omega) (by omega)).mono ?_
            rintro e w8 ⟨rfl,hb8⟩
            have hb8:Bl W w8:=hb7.next hb8
            refine hK.out _ _ (fun _=> bx5 (T:=58) (h9.bl slc)) ?_
            clear hK K
            try simp only[Act.put,List.setIfInBounds_toArray,List.set_cons_zero,List.set_cons_succ]
            have h9:=h9.bl hb8
            obtain⟨z0',z1',z2',z3',z4'⟩:=bx5 h9
            have zf0:=h9.frozen 0
            have zf1:=h9.frozen 1
            have zf2:=h9.frozen 2
            try simp only[Act.put,List.setIfInBounds_toArray]
            refine wpAnyM_step (i:=13) (o:=_) (fuel:=4) rfl (by kernel_rfl) (fun K hK=> ?_)
            go_simp
            refine hK.out _ _ (fun h=> absurd h (by decide)) ?_
            clear hK K
            try simp only[Act.put,List.setIfInBounds_toArray,List.set_cons_zero,List.set_cons_succ]
            try simp only[Act.put,List.setIfInBounds_toArray]
            refine wpAnyM_step (i:=14) (o:=_) (fuel:=3) rfl (by kernel_rfl) (fun K hK=> ?_)
            go_simp
            refine hK.out _ _ (fun h=> absurd h (by decide)) ?_
            clear hK K
            try simp only[Act.put,List.setIfInBounds_toArray,List.set_cons_zero,List.set_cons_succ]
            try simp only[Act.put,List.setIfInBounds_toArray]
            refine wpAnyM_step (i:=15) (o:=_) (fuel:=2) rfl (by kernel_rfl) (fun K hK=> ?_)
            go_simp
            refine hK.out _ _ (fun h=> absurd h (by decide)) ?_
            clear hK K
            try simp only[Act.put,List.setIfInBounds_toArray,List.set_cons_zero,List.set_cons_succ]
            try simp only[Act.put,List.setIfInBounds_toArray]
            refine wpAnyM_step (i:=16) (o:=_) (fuel:=1) rfl (by kernel_rfl) (fun K hK=> ?_)
            go_simp
            refine hK.out _ _ (fun h=> absurd h (by decide)) ?_
            clear hK K
            try simp only[Act.put,List.setIfInBounds_toArray,List.set_cons_zero,List.set_cons_succ]
            try simp only[Act.put,List.setIfInBounds_toArray]
            refine wpAnyM_step (i:=17) (o:=_) (fuel:=0) rfl (by kernel_rfl) (fun K hK=> ?_)
            go_simp
            refine hK.out _ _ (fun h=> absurd h (by decide)) ?_
            clear hK K
            try simp only[Act.put,List.setIfInBounds_toArray,List.set_cons_zero,List.set_cons_succ]
            refine wpAnyM_done (by kernel_rfl) ?_
            go_wp2_with fail
            go_meet
            exact⟨⟨_,Blk.set_ (Blk.set_ (Blk.set_ h9 _ _) _ _) _ _,by simp⟩,Bl.set (Bl.set (Bl.set (hbq.next hb8) (by exact Nat.le_refl _) _) (by exact Nat.le_refl _) _) (by exact Nat.le_refl _) _⟩
          case rest =>
            obtain⟨⟨cs,h9,rfl⟩,hbx⟩:=hcut
            obtain⟨W2,rfl⟩:∃ W2:World,W2=wc:=⟨_,rfl⟩
            have h6:=h6.bl hbx
            have hT:=hT.bl hbx
            have hbj:=hbj.next hbx
            clear hbx
            obtain⟨i0,i1⟩:=bx2 h6
            obtain⟨z0,z1,z2,z3,z4⟩:=bx5 h9
            have hz2:=h6.lt
            have hq6:=Blk.bl h6 (show Bl W2 (W2.alloc (.cells #[.int .i64 (lwI t'.a p),.int .i64 (lwI t'.b p),.int .i64 (lwI t'.c p),.int .i64 t'.region,.int .i64 t'.level] 58)) from slc)
            go_wp2_with ((refine wpList_append_trisR rfl (.tmp 86) (.tmp 88) rfl _ (rvTo mq.tris p k).1 (by rfl) (OwT.bl hT (show Bl W2 _ from slc)) (by simp;omega) w5 (hbj.next (show Bl W2 _ from slc)) (by omega) W2.heap.size 1 1 (by rfl) [lwT t' p] (rd_one W2 (lwT t' p)) (by omega) (by omega) ?_);intro v' w7 hT7 hnil hb7 hoth;obtain⟨g',c',rfl,_,_,_,_⟩:=hT7.lit (fun e=> by have:=(hnil.1 e).2;cases this);rw[List.length_append,List.length_singleton] at hT7;have h6':Blk w7 w5.heap.size 26 #[.slice (some ⟨gp',0,none⟩) (n' - 1) cp',vt]:=((hoth.2 _ hq6.lt (fun e=> by have:=(hT.blk e).1;omega)).1).trans hq6;obtain⟨j0,j1⟩:=bx2 h6';have zf6:=h6'.frozen 1)
            go_roundw
            case rel=> exact⟨k+1,false,.slice (some ⟨g',0,none⟩) _ c',by omega,by go_num,rfl,by rw[hnew.out],by simpa using h6'.set_ 1 _,by rw[hnew.out];exact hT7.keep (fun g e=> Below.heap_setCell w7 ⟨w5.heap.size,1,none⟩ _ g (fun e2=> by have h:=(hT7.blk e).1;have e3:g=w5.heap.size:=e2;omega)),Bl.set hb7 (by exact Nat.le_refl _) _⟩
            case measure=> simp[intOf];omega
        | false =>
          have hnew:=Lib.hid (rvTo_two (by rw[htH.out];exact ha) hf)
          clear ht_
          go_wp2_with fail
          go_roundw
          case rel=> exact⟨k+1,true,vt,by omega,by go_num,rfl,by rw[hnew.out],h6.bl hbq,by rw[hnew.out];exact hT.bl hbq,hbj.next hbq⟩
          case measure=> simp[intOf];omega
      · have hab:(t.a == (p:Int))=false:=by simpa using ha
        have hnew:=Lib.hid (rvTo_far (k:=k) (ts:=mq.tris) (p:=(p:Int)) (by rw[htH.out];exact ha))
        rw[htH.out] at hnew
        clear ht_
        go_upto_region 12 with (fail)
        clear z0 z1 z2 z3 z4
        go_cut [] (fun wx =>(∃ cs,Blk wx wr.heap.size 58 cs∧cs=#[.int .i64 (lwI t.a p),.int .i64 (lwI t.b p),.int .i64 (lwI t.c p),.int .i64 t.region,.int .i64 t.level])∧Bl wr wx)
        case first =>
          have hHeld:(fun w' =>(w'.cell? ⟨wr.heap.size,0,none⟩=some (.int .i64 t.a)∧w'.cell? ⟨wr.heap.size,1,none⟩=some (.int .i64 t.b)∧w'.cell? ⟨wr.heap.size,2,none⟩=some (.int .i64 t.c)∧w'.cell? ⟨wr.heap.size,3,none⟩=some (.int .i64 t.region)∧w'.cell? ⟨wr.heap.size,4,none⟩=some (.int .i64 t.level))) (W.drew):=bx5 (T:=58) (h9.bl slc)
          refine wp_region_M (fun i=> decide (13≤i)) 18 (fun w' =>(w'.cell? ⟨wr.heap.size,0,none⟩=some (.int .i64 t.a)∧w'.cell? ⟨wr.heap.size,1,none⟩=some (.int .i64 t.b)∧w'.cell? ⟨wr.heap.size,2,none⟩=some (.int .i64 t.c)∧w'.cell? ⟨wr.heap.size,3,none⟩=some (.int .i64 t.region)∧w'.cell? ⟨wr.heap.size,4,none⟩=some (.int .i64 t.level))) rfl (by kernel_rfl) ?_
          refine wpAnyM_take (i:=0) (oi:=_) (v:=?_) (fuel:=17) rfl (by kernel_rfl) (by kernel_rfl) (by kernel_rfl) (by kernel_rfl) (fun _ _ _ h=> h) (by rfl) ?_ hHeld ?_
          rotate_left 1
          · (intro w' hSw;(try dsimp only at hSw);go_simp <;> with_reducible rfl)
          refine wpAnyM_take (i:=1) (oi:=_) (v:=?_) (fuel:=16) rfl (by kernel_rfl) (by kernel_rfl) (by kernel_rfl) (by kernel_rfl) (fun _ _ _ h=> h) (by rfl) ?_ hHeld ?_
          rotate_left 1
          · (intro w' hSw;(try dsimp only at hSw);go_simp <;> with_reducible rfl)
          refine wpAnyM_take (i:=2) (oi:=_) (v:=?_) (fuel:=15) rfl (by kernel_rfl) (by kernel_rfl) (by kernel_rfl) (by kernel_rfl) (fun _ _ _ h=> h) (by rfl) ?_ hHeld ?_
          rotate_left 1
          · (intro w' hSw;(try dsimp only at hSw);go_simp <;> with_reducible rfl)
          refine wpAnyM_take (i:=4) (oi:=_) (v:=?_) (fuel:=14) rfl (by kernel_rfl) (by kernel_rfl) (by kernel_rfl) (by kernel_rfl) (fun _ _ _ h=> h) (by rfl) ?_ hHeld ?_
          rotate_left 1
          · (intro w' hSw;(try dsimp only at hSw);go_simp <;> with_reducible rfl)
          refine wpAnyM_take (i:=5) (oi:=_) (v:=?_) (fuel:=13) rfl (by kernel_rfl) (by kernel_rfl) (by kernel_rfl) (by kernel_rfl) (fun _ _ _ h=> h) (by rfl) ?_ hHeld ?_
          rotate_left 1
          · (intro w' hSw;(try dsimp only at hSw);go_simp <;> with_reducible rfl)
          refine wpAnyM_take (i:=6) (oi:=_) (v:=?_) (fuel:=12) rfl (by kernel_rfl) (by kernel_rfl) (by kernel_rfl) (by kernel_rfl) (fun _ _ _ h=> h) (by rfl) ?_ hHeld ?_
          rotate_left 1
          · (intro w' hSw;(try dsimp only at hSw);go_simp <;> with_reducible rfl)
          refine wpAnyM_take (i:=8) (oi:=_) (v:=?_) (fuel:=11) rfl (by kernel_rfl) (by kernel_rfl) (by kernel_rfl) (by kernel_rfl) (fun _ _ _ h=> h) (by rfl) ?_ hHeld ?_
          rotate_left 1
          · (intro w' hSw;(try dsimp only at hSw);go_simp <;> with_reducible rfl)
          refine wpAnyM_take (i:=9) (oi:=_) (v:=?_) (fuel:=10) rfl (by kernel_rfl) (by kernel_rfl) (by kernel_rfl) (by kernel_rfl) (fun _ _ _ h=> h) (by rfl) ?_ hHeld ?_
          rotate_left 1
          · (intro w' hSw;(try dsimp only at hSw);go_simp <;> with_reducible rfl)
          refine wpAnyM_take (i:=10) (oi:=_) (v:=?_) (fuel:=9) rfl (by kernel_rfl) (by kernel_rfl) (by kernel_rfl) (by kernel_rfl) (fun _ _ _ h=> h) (by rfl) ?_ hHeld ?_
          rotate_left 1
          · (intro w' hSw;(try dsimp only at hSw);go_simp <;> with_reducible rfl)
          clear hHeld
          try simp only[Act.put,List.setIfInBounds_toArray]
          refine wpAnyM_step (i:=3) (o:=_) (fuel:=8) rfl (by kernel_rfl) (fun K hK=> ?_)
          go_simp
          refine(lowered_any _ _ _ (by omega) (by omega)).mono ?_
          rintro e w6 ⟨rfl,hb6⟩
          have hb6:Bl W w6:=(show Bl W W.drew from slc).next hb6
          refine hK.out _ _ (fun _=> bx5 (T:=58) (h9.bl slc)) ?_
          clear hK K
          try simp only[Act.put,List.setIfInBounds_toArray,List.set_cons_zero,List.set_cons_succ]
          have hHeld:(fun w' =>(w'.cell? ⟨wr.heap.size,0,none⟩=some (.int .i64 t.a)∧w'.cell? ⟨wr.heap.size,1,none⟩=some (.int .i64 t.b)∧w'.cell? ⟨wr.heap.size,2,none⟩=some (.int .i64 t.c)∧w'.cell? ⟨wr.heap.size,3,none⟩=some (.int .i64 t.region)∧w'.cell? ⟨wr.heap.size,4,none⟩=some (.int .i64 t.level))) w6:=bx5 (T:=58) (h9.bl slc)
          refine wpAnyM_take (i:=12) (oi:=_) (v:=?_) (fuel:=7) rfl (by kernel_rfl) (by kernel_rfl) (by kernel_rfl) (by kernel_rfl) (fun _ _ _ h=> h) (by rfl) ?_ hHeld ?_
          rotate_left 1
          · (intro w' hSw;(try dsimp only at hSw);go_simp <;> with_reducible rfl)
          clear hHeld
          try simp only[Act.put,List.setIfInBounds_toArray]
          refine wpAnyM_step (i:=7) (o:=_) (fuel:=6) rfl (by kernel_rfl) (fun K hK=> ?_)
          go_simp
          refine(lowered_any _ _ _ (by omega) (by omega)).mono ?_
          rintro e w7 ⟨rfl,hb7⟩
          have hb7:Bl W w7:=hb6.next hb7
          refine hK.out _ _ (fun _=> bx5 (T:=58) (h9.bl slc)) ?_
          clear hK K
          try simp only[Act.put,List.setIfInBounds_toArray,List.set_cons_zero,List.set_cons_succ]
          try simp only[Act.put,List.setIfInBounds_toArray]
          refine wpAnyM_step (i:=11) (o:=_) (fuel:=5) rfl (by kernel_rfl) (fun K hK=> ?_)
          go_simp
          refine(lowered_any _ _ _ (by omega) (by omega)).mono ?_
          rintro e w8 ⟨rfl,hb8⟩
          have hb8:Bl W w8:=hb7.next hb8
          refine hK.out _ _ (fun _=> bx5 (T:=58) (h9.bl slc)) ?_
          clear hK K
          try simp only[Act.put,List.setIfInBounds_toArray,List.set_cons_zero,List.set_cons_succ]
          have h9:=h9.bl hb8
          obtain⟨z0',z1',z2',z3',z4'⟩:=bx5 h9
          have zf0:=h9.frozen 0
          have zf1:=h9.frozen 1
          have zf2:=h9.frozen 2
          try simp only[Act.put,List.setIfInBounds_toArray]
          refine wpAnyM_step (i:=13) (o:=_) (fuel:=4) rfl (by kernel_rfl) (fun K hK=> ?_)
          go_simp
          refine hK.out _ _ (fun h=> absurd h (by decide)) ?_
          clear hK K
          try simp only[Act.put,List.setIfInBounds_toArray,List.set_cons_zero,List.set_cons_succ]
          try simp only[Act.put,List.setIfInBounds_toArray]
          refine wpAnyM_step (i:=14) (o:=_) (fuel:=3) rfl (by kernel_rfl) (fun K hK=> ?_)
          go_simp
          refine hK.out _ _ (fun h=> absurd h (by decide)) ?_
          clear hK K
          try simp only[Act.put,List.setIfInBounds_toArray,List.set_cons_zero,List.set_cons_succ]
          try simp only[Act.put,List.setIfInBounds_toArray]
          refine wpAnyM_step (i:=15) (o:=_) (fuel:=2) rfl (by kernel_rfl) (fun K hK=> ?_)
          go_simp
          refine hK.out _ _ (fun h=> absurd h (by decide)) ?_
          clear hK K
          try simp only[Act.put,List.setIfInBounds_toArray,List.set_cons_zero,List.set_cons_succ]
          try simp only[Act.put,List.setIfInBounds_toArray]
          refine wpAnyM_step (i:=16) (o:=_) (fuel:=1) rfl (by kernel_rfl) (fun K hK=> ?_)
          go_simp
          refine hK.out _ _ (fun h=> absurd h (by decide)) ?_
          clear hK K
          try simp only[Act.put,List.setIfInBounds_toArray,List.set_cons_zero,List.set_cons_succ]
          try simp only[Act.put,List.setIfInBounds_toArray]
          refine wpAnyM_step (i:=17) (o:=_) (fuel:=0) rfl (by kernel_rfl) (fun K hK=> ?_)
          go_simp
          refine hK.out _ _ (fun h=> absurd h (by decide)) ?_
          clear hK K
          try simp only[Act.put,List.setIfInBounds_toArray,List.set_cons_zero,List.set_cons_succ]
          refine wpAnyM_done (by kernel_rfl) ?_
          go_wp2_with fail
          go_meet
          exact⟨⟨_,Blk.set_ (Blk.set_ (Blk.set_ h9 _ _) _ _) _ _,by simp⟩,Bl.set (Bl.set (Bl.set (hbq.next hb8) (by exact Nat.le_refl _) _) (by exact Nat.le_refl _) _) (by exact Nat.le_refl _) _⟩
        case rest =>
          obtain⟨⟨cs,h9,rfl⟩,hbx⟩:=hcut
          obtain⟨W2,rfl⟩:∃ W2:World,W2=wc:=⟨_,rfl⟩
          have h6:=h6.bl hbx
          have hT:=hT.bl hbx
          have hbj:=hbj.next hbx
          clear hbx
          obtain⟨i0,i1⟩:=bx2 h6
          obtain⟨z0,z1,z2,z3,z4⟩:=bx5 h9
          have hz2:=h6.lt
          have hq6:=Blk.bl h6 (show Bl W2 (W2.alloc (.cells #[.int .i64 (lwI t.a p),.int .i64 (lwI t.b p),.int .i64 (lwI t.c p),.int .i64 t.region,.int .i64 t.level] 58)) from slc)
          go_wp2_with ((refine wpList_append_trisR rfl (.tmp 86) (.tmp 88) rfl _ (rvTo mq.tris p k).1 (by rfl) (OwT.bl hT (show Bl W2 _ from slc)) (by simp;omega) w5 (hbj.next (show Bl W2 _ from slc)) (by omega) W2.heap.size 1 1 (by rfl) [lwT t p] (rd_one W2 (lwT t p)) (by omega) (by omega) ?_);intro v' w7 hT7 hnil hb7 hoth;obtain⟨g',c',rfl,_,_,_,_⟩:=hT7.lit (fun e=> by have:=(hnil.1 e).2;cases this);rw[List.length_append,List.length_singleton] at hT7;have h6':Blk w7 w5.heap.size 26 #[.slice (some ⟨gp',0,none⟩) (n' - 1) cp',vt]:=((hoth.2 _ hq6.lt (fun e=> by have:=(hT.blk e).1;omega)).1).trans hq6;obtain⟨j0,j1⟩:=bx2 h6';have zf6:=h6'.frozen 1)
          go_roundw
          case rel=> exact⟨k+1,f,.slice (some ⟨g',0,none⟩) _ c',by omega,by go_num,rfl,by rw[hnew.out];exact hf,by simpa using h6'.set_ 1 _,by rw[hnew.out];exact hT7.keep (fun g e=> Below.heap_setCell w7 ⟨w5.heap.size,1,none⟩ _ g (fun e2=> by have h:=(hT7.blk e).1;have e3:g=w5.heap.size:=e2;omega)),Bl.set hb7 (by exact Nat.le_refl _) _⟩
          case measure=> simp[intOf];omega
    · obtain rfl:m'=k:=by omega
      have hkm2:¬ (m':Int) < (m':Int):=by omega
      have hTr:OwT (w5.heap.size+1) wr vt (rmM mq (p:Int)).tris:=by rw[← hm.out] at hT;exact hT
      have ht1:=hrfH.out.ok.t1
      have hvn:vt≠.slice none 0 0:=fun e=> by subst e;rw[hTr.nil0] at ht1;simp at ht1
      obtain⟨gt2,ct2,rfl,hg2,hRd,_,_⟩:=hTr.lit hvn
      have hrow2:=RowP.up2 hrow hbj
      have hpl:(rmM mq (p:Int)).pts.length≤1048576:=by have:=hrfH.out.ok.n40;omega
      have hpH:=Lib.hid hpl
      obtain⟨i0,i1⟩:=bx2 h6
      have hr:=hr.bl hbj
      have hbw:=hbw.next hbj
      clear hT hf hrl h2r htr ht1 hvn
      go_wp2_with fail
      refine(IsMesh_yes _ (RowP.rdN hrow2 (by rw[List.length_map];exact hpH.out)) hRd hrfH.out.ok).mono ?_
      rintro e w9 ⟨rfl,hb9⟩
      have h6:=h6.bl hb9
      have hr:=hr.bl hb9
      have hbw:=hbw.next hb9
      have hM:MeOw W0.heap.size w9 (.agg #[.slice (some ⟨gp',0,none⟩) (n' - 1) cp',.slice (some ⟨gt2,0,none⟩) (rmM mq (p:Int)).tris.length ct2]) (rmM mq (p:Int)):=MeOw.of (RowP.up2 hrow2 hb9) (hTr.bl hb9) hlo0 (by omega) hpH.out
      clear i0 i1
      obtain⟨i0,i1⟩:=bx2 h6
      obtain⟨v0,x0⟩:=hr.val_ (i:=0) (by omega)
      obtain⟨v1,x1⟩:=hr.val_ (i:=1) (by omega)
      have hgr:=hr.lt
      obtain⟨cs4,hB4,hc4⟩:=hr
      have hf0:=hB4.frozen 0
      have hf1:=hB4.frozen 1
      go_wp2_with fail
      exact bodyPost_ret (v:=.tuple #[.agg #[.slice (some ⟨gp',0,none⟩) (n' - 1) cp',.slice (some ⟨gt2,0,none⟩) (rmM mq (p:Int)).tris.length ct2],.bool true]) (by simp[results,Tryz.results8,go_sem,x0,x1]) rfl ⟨_,rfl,MeOw.low (MeOw.setLow (MeOw.setLow hM (q:=⟨g4,0,none⟩) (by exact hz0) _) (q:=⟨g4,1,none⟩) (by exact hz0) _) hbW.size,Bl.set (Bl.set hbw (by exact hg4w) _) (by exact hg4w) _⟩
end

end Go.Proofs.YtmkcacgmnnlddaaGreat
