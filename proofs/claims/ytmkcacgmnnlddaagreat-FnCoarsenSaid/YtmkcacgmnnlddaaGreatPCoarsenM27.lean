/- Lemmas. -/
import Derived.Test.YtmkcacgmnnlddaaGreatRows
import Derived.Test.YtmkcacgmnnlddaaGreatPCoarsenM26
import Derived.Test.YtmkcacgmnnlddaaGreatPCoarsenM19
import Derived.Test.YtmkcacgmnnlddaaGreatPCoarsenM20
import Derived.Test.YtmkcacgmnnlddaaGreatPCoarsenM18
import Derived.Test.YtmkcacgmnnlddaaGreatPCoarsenM11
import Derived.Test.YtmkcacgmnnlddaaGreatPCoarsenM03
import Derived.Test.YtmkcacgmnnlddaaGreatPCoarsenM25
import Derived.Test.YtmkcacgmnnlddaaGreatPCoarsenM17
namespace Go.Proofs.YtmkcacgmnnlddaaGreat
section
open Go.RowKit

theorem info_bool:(Tryz.prog.info? 4).map (fun i =>(i.zero,i.size,i.bytes))=some (some (.bool false),1,1):=by kernel_rfl
def mkBools (n:Nat):Obj:=.cells (madeCells #[.bool false] n) 4
theorem make_bools (n:Nat) (hn:n≤1048576) (w:World) :
    (Instr.makeSlice 64 (.int .i64 (n:Int)) (.int .i64 (n:Int))).run Tryz.prog w=.ok (.slice (some ⟨w.heap.size,0,none⟩) n n) (w.alloc (mkBools n)):=by
  obtain⟨i0,hi,hz0,hz1,hz2⟩:=info_parts info_bool
  have:=run_make (P:=Tryz.prog) w 64 4 i0 (.bool false) Tryz.underlying64 hi hz0 .i64 .i64 (n:Int) (n:Int) (by omega) (by omega) (by rw[hz2];omega) (by omega)
  rw[this,hz1]
  simp[mkBools,Value.cells]
theorem OwU.made (w:World) (n:Nat) (b:Nat→Bool) (hb:∀ i,b i=false):OwU (w.alloc (mkBools n)) w.heap.size n b:=by
  refine⟨_,heap_alloc_new w _,by simp[size_madeCells],fun i hi=> ?_⟩
  · rw[hb i,← Array.getElem?_toList,toList_madeCells_one]
    simp[hi]

theorem usedLast (ts:List TriD) {k:Nat}{t:TriD}(h:pix ts k=t) (x:Nat):(usedTo ts k x || (decide (t.a=(x:Int)) || (decide (t.b=(x:Int)) || decide (t.c=(x:Int)))))=usedTo ts (k+1) x:=by
  subst h
  rfl
def usedIn (ts:List TriD) (k:Nat) (t:TriD):Nat→Nat→Bool
  | 0,x=> usedTo ts k x
  | 1,x=> usedTo ts k x || decide (t.a=(x:Int))
  | 2,x=> usedTo ts k x || (decide (t.a=(x:Int)) || decide (t.b=(x:Int)))
  | _,x=> usedTo ts k x || (decide (t.a=(x:Int)) || (decide (t.b=(x:Int)) || decide (t.c=(x:Int))))
theorem usedIn_step0 (ts:List TriD) (k:Nat) (t:TriD) (x:Nat) (h:0≤t.a):(if x=t.a.toNat then true else usedIn ts k t 0 x)=usedIn ts k t 1 x:=by
  simp only[usedIn]
  by_cases e:x=t.a.toNat
  · rw[if_pos e,decide_eq_true (by omega),Bool.or_true]
  · rw[if_neg e,decide_eq_false (by omega),Bool.or_false]
theorem usedIn_step1 (ts:List TriD) (k:Nat) (t:TriD) (x:Nat) (h:0≤t.b):(if x=t.b.toNat then true else usedIn ts k t 1 x)=usedIn ts k t 2 x:=by
  simp only[usedIn]
  by_cases e:x=t.b.toNat
  · rw[if_pos e,decide_eq_true (show t.b=(x:Int) by omega),Bool.or_true,Bool.or_true]
  · rw[if_neg e,decide_eq_false (show ¬ t.b=(x:Int) by omega),Bool.or_false]
theorem usedIn_step2 (ts:List TriD) (k:Nat) (t:TriD) (x:Nat) (h:0≤t.c):(if x=t.c.toNat then true else usedIn ts k t 2 x)=usedIn ts k t 3 x:=by
  simp only[usedIn]
  by_cases e:x=t.c.toNat
  · rw[if_pos e,decide_eq_true (show t.c=(x:Int) by omega),Bool.or_true,Bool.or_true,Bool.or_true]
  · rw[if_neg e,decide_eq_false (show ¬ t.c=(x:Int) by omega),Bool.or_false]
set_option maxRecDepth 100000 in
set_option maxHeartbeats 32000000 in
theorem IsMesh_yes (w:World) {gp n cp gt m ct:Nat}{mq:MeQ}(hp:RdPS w (some ⟨gp,0,none⟩) n cp (mq.pts.map tp)) (ht:RdTS w (some ⟨gt,0,none⟩) m ct mq.tris) (hok:MeshOk mq) :
    Calls Tryz.prog 9 #[.agg #[.slice (some ⟨gp,0,none⟩) n cp,.slice (some ⟨gt,0,none⟩) m ct]] w fun e w'=> e=.returned (.bool true)∧Bl w w':=by
  have hn:mq.pts.length=n:=by rw[← hp.len,List.length_map]
  have hm:mq.tris.length=m:=ht.len
  obtain⟨n3,n40,t1,t48,hdiff,hpl,hixs,hreg,hpos,hsep,hused,hno⟩:=id hok
  rw[hn] at n3 n40 hixs hpos hsep hused hno
  rw[hm] at t1 t48 hreg hpos hsep
  have hB:PlB n (plXs mq.pts n) (plYs mq.pts n):=by have:=hpl.2.2;rw[hn] at this;exact this
  have hpo:=Lib.hid hok.ptsOk
  have hpl:=Lib.hid hpl;rename_i h_;clear h_
  have hixs:=Lib.hid hixs;rename_i h_;clear h_
  have hreg:=Lib.hid hreg;rename_i h_;clear h_
  have hpos:=Lib.hid hpos;rename_i h_;clear h_
  have hsep:=Lib.hid hsep;rename_i h_;clear h_
  have hused:=Lib.hid hused;rename_i h_;clear h_
  have hno:=Lib.hid hno;rename_i h_;clear h_
  have hn:=Lib.hid hn;rename_i h_;clear h_
  have hm:=Lib.hid hm;rename_i h_;clear h_
  have hcapt:=ht.cap
  clear hdiff hok
  go_enter Tryz.func9,Tryz.ntmps9
  go_wp2_with fail
  refine calls_gen (fun W=> Bl w W∧Blk W w.heap.size 26 #[.slice (some ⟨gp,0,none⟩) n cp,.slice (some ⟨gt,0,none⟩) m ct]) ⟨slc,bts⟩ ?_
  rintro W ⟨hbW,hM⟩
  refine(arePoints_yes _ (RdPS.bl hp hbW) hpo.out (by omega) (by omega)).mono ?_
  rintro e w1 ⟨rfl,hb1⟩
  have hM:=hM.bl hb1
  have hbW:=hbW.next hb1
  clear hb1
  obtain⟨r0,r1⟩:=bx2 hM
  go_wp2_with fail
  refine(within_yes _ (show (1:Int)≤(m:Int) by omega) (show (m:Int)≤48 by omega)).mono ?_
  rintro e w2 ⟨rfl,q1,rfl⟩
  have hM:=hM.bl ((Bl.refl w1).drewN q1)
  have hbW:=hbW.next ((Bl.refl w1).drewN q1)
  obtain⟨w3,hw3⟩:∃ w3,w1.drewN q1=w3:=⟨_,rfl⟩
  rw[hw3] at hM hbW ⊢
  clear r0 r1 hw3
  obtain⟨r0,r1⟩:=bx2 hM
  go_wp2_with fail
  refine(place_yes _ (RdPS.bl hp hbW) hpl.out (by omega) (by omega)).mono ?_
  rintro e w4 ⟨gx,cx,gy,cy,rfl,hx,hy,hb4⟩
  have hM:=hM.bl hb4
  have hbW:=hbW.next hb4
  have hMl:=hM.lt
  clear r0 r1 hb4
  obtain⟨r0,r1⟩:=bx2 hM
  have hmk:=fun W:World=> make_bools n (by omega) W
  go_wp2_with fail
  refine wp_gen (fun W5=> Bl w4 W5∧∃ gb gu,Blk W5 gb 62 #[.slice (some ⟨gp,0,none⟩) n cp,.slice (some ⟨gx,0,none⟩) n cx,.slice (some ⟨gy,0,none⟩) n cy]∧OwU W5 gu n (usedTo mq.tris 0)∧gb=w4.heap.size∧gu=w4.heap.size+1) ⟨by exact slc,_,_,by exact bts,by have:=OwU.made (w4.alloc (.cells #[.slice (some ⟨gp,0,none⟩) n cp,.slice (some ⟨gx,0,none⟩) n cx,.slice (some ⟨gy,0,none⟩) n cy] 62)) n (usedTo mq.tris 0) (fun _=> rfl);rw[World.size_alloc] at this;exact this,rfl,rfl⟩ ?_
  rintro W5 ⟨hb5,gb,gu,hQ,hU,hgb,hgu⟩
  rw[← hgu,← hgb]
  have hgb4:w4.heap.size≤gb:=by omega
  have hgu4:w4.heap.size≤gu:=by omega
  have hbu:gb≠gu:=by omega
  clear hgb hgu hmk r0 r1
  go_loopw [32] (fun v wr=> ∃ k:Nat,k≤m∧v=.int .i64 (k:Int)∧OwU wr gu n (usedTo mq.tris k)∧Blk wr gb 62 #[.slice (some ⟨gp,0,none⟩) n cp,.slice (some ⟨gx,0,none⟩) n cx,.slice (some ⟨gy,0,none⟩) n cy]∧Bl w4 wr) (fun v _=> m - (intOf v).toNat)
  case atStart=> exact⟨0,by omega,rfl,hU,hQ,hb5⟩
  case round =>
    clear hU hQ hb5
    obtain⟨k,hk,rfl,hU,hQ,hbw⟩:=hrel
    obtain⟨wo,rfl⟩:∃ wo:World,wo=wr:=⟨_,rfl⟩
    by_cases hkm:k < m
    · have hki:(k:Int) < (m:Int):=by omega
      have hbo:=hbW.next hbw
      obtain⟨c0,c1,c2,c3,c4⟩:=trs_lit (RdTS.bl ht hbo) hkm
      have htx:=hixs.out k (by rw[hm.out];exact hkm)
      have htx2:=Lib.hid htx
      obtain⟨⟨ta0,ta1⟩,⟨tb0,tb1⟩,tc0,tc1⟩:=htx
      obtain⟨⟨hr0,hr1⟩,hl0,hl1⟩:=hreg.out k hkm
      have hps:=Lib.hid (hpos.out k hkm)
      have hsp:=Lib.hid (hsep.out k hkm)
      obtain⟨t,hte⟩:∃ t,pix mq.tris k=t:=⟨_,rfl⟩
      have husd:=Lib.hid (fun x=> usedLast mq.tris hte x)
      rw[hte] at c0 c1 c2 c3 c4 htx2 ta0 ta1 tb0 tb1 tc0 tc1 hr0 hr1 hl0 hl1 hps hsp
      clear hte
      obtain⟨p0,p1,p2⟩:=bx3 hQ
      have hQl:=hQ.lt
      go_wp2_with fail
      refine calls_gen (fun W6=> Bl wo W6∧∃ g6,Blk W6 g6 58 #[.int .i64 t.a,.int .i64 t.b,.int .i64 t.c,.int .i64 t.region,.int .i64 t.level]∧g6=wo.heap.size) ⟨by exact slc,_,by exact bts,rfl⟩ ?_
      rintro W6 ⟨hb6,g6,h6,hg6⟩
      rw[← hg6]
      have hg64:w4.heap.size≤g6:=by have:=hbw.size;omega
      have hu6:gu≠g6:=by have:=hU.lt;omega
      clear c0 c1 c2 c3 c4 p0 p1 p2 hg6
      have hQ:=hQ.bl hb6
      have hU:=hU.bl hb6
      refine(triangleOk_yes _ (hx.bl (hbw.next hb6)) (hy.bl (hbw.next hb6)) hB t htx2.out hr0 hr1 hl0 hl1 hps.out).mono ?_
      rintro e w7 ⟨rfl,hb7⟩
      have hQ:=hQ.bl hb7
      have hU:=hU.bl hb7
      have h6:=h6.bl hb7
      have hb67:=hb6.next hb7
      clear hb6 hb7
      obtain⟨c0,c1,c2,c3,c4⟩:=bx5 h6
      have h6l:=h6.lt
      go_wp2_with fail
      refine(corners_any _ t).mono ?_
      rintro e w8 ⟨rfl,hb8⟩
      have hQ:=hQ.bl hb8
      have hU:=hU.bl hb8
      have h6:=h6.bl hb8
      have hb68:=hb67.next hb8
      clear hb67 hb8 c0 c1 c2 c3 c4
      have hb48:=hbw.next hb68
      go_wp2_with fail
      go_loopw [43] (fun v wr=> ∃ i:Nat,i≤3∧v=.int .i64 (i:Int)∧OwU wr gu n (usedIn mq.tris k t i)∧Blk wr gb 62 #[.slice (some ⟨gp,0,none⟩) n cp,.slice (some ⟨gx,0,none⟩) n cx,.slice (some ⟨gy,0,none⟩) n cy]∧Blk wr g6 58 #[.int .i64 t.a,.int .i64 t.b,.int .i64 t.c,.int .i64 t.region,.int .i64 t.level]∧Bl w4 wr) (fun v _=> 3 - (intOf v).toNat)
      case atStart=> exact⟨0,by omega,rfl,hU,hQ,h6,hb48⟩
      case round =>
        clear hU hQ h6 hb48 hb68
        obtain⟨i,hi,rfl,hUi,hQ,h6,hbi⟩:=hrel
        rcases(show i=0∨i=1∨i=2∨i=3 by omega) with rfl | rfl | rfl | rfl
        · skip
          have e0:((0:Nat):Int)=0:=rfl
          rw[e0]
          clear e0 hi
          obtain⟨wj,rfl⟩:∃ wj:World,wj=wr:=⟨_,rfl⟩
          have hix:∀ W:World,(Instr.index 66 (.agg #[.int .i64 t.a,.int .i64 t.b,.int .i64 t.c]) (.int .i64 0)).run Tryz.prog W=.ok (.int .i64 t.a) W:=fun _=> by kernel_rfl
          have ux:=hUi.cell (i:=t.a.toNat) (by omega)
          have uf:=hUi.frozen t.a.toNat
          go_wp2_with fail
          go_roundw
          case rel=> exact⟨1,by omega,rfl,(hUi.set t.a.toNat true).congr (fun x hx=> usedIn_step0 mq.tris k t x ta0),hQ.far hbu _,h6.far (Ne.symm hu6) _,Bl.set hbi hgu4 _⟩
          case measure=> simp[intOf]
        · skip
          have e0:((1:Nat):Int)=1:=rfl
          rw[e0]
          clear e0 hi
          obtain⟨wj,rfl⟩:∃ wj:World,wj=wr:=⟨_,rfl⟩
          have hix:∀ W:World,(Instr.index 66 (.agg #[.int .i64 t.a,.int .i64 t.b,.int .i64 t.c]) (.int .i64 1)).run Tryz.prog W=.ok (.int .i64 t.b) W:=fun _=> by kernel_rfl
          have ux:=hUi.cell (i:=t.b.toNat) (by omega)
          have uf:=hUi.frozen t.b.toNat
          go_wp2_with fail
          go_roundw
          case rel=> exact⟨2,by omega,rfl,(hUi.set t.b.toNat true).congr (fun x hx=> usedIn_step1 mq.tris k t x tb0),hQ.far hbu _,h6.far (Ne.symm hu6) _,Bl.set hbi hgu4 _⟩
          case measure=> simp[intOf]
        · skip
          have e0:((2:Nat):Int)=2:=rfl
          rw[e0]
          clear e0 hi
          obtain⟨wj,rfl⟩:∃ wj:World,wj=wr:=⟨_,rfl⟩
          have hix:∀ W:World,(Instr.index 66 (.agg #[.int .i64 t.a,.int .i64 t.b,.int .i64 t.c]) (.int .i64 2)).run Tryz.prog W=.ok (.int .i64 t.c) W:=fun _=> by kernel_rfl
          have ux:=hUi.cell (i:=t.c.toNat) (by omega)
          have uf:=hUi.frozen t.c.toNat
          go_wp2_with fail
          go_roundw
          case rel=> exact⟨3,by omega,rfl,(hUi.set t.c.toNat true).congr (fun x hx=> usedIn_step2 mq.tris k t x tc0),hQ.far hbu _,h6.far (Ne.symm hu6) _,Bl.set hbi hgu4 _⟩
          case measure=> simp[intOf]
        · have e0:((3:Nat):Int)=3:=rfl
          rw[e0]
          clear e0 hi
          obtain⟨wj,rfl⟩:∃ wj:World,wj=wr:=⟨_,rfl⟩
          have hMj:=hM.bl hbi
          have hMjl:=hMj.lt
          obtain⟨r0,r1⟩:=bx2 hMj
          go_wp2_with fail
          clear r0 r1
          go_loopw [55] (fun v wr=> ∃ j:Nat,j≤k∧v=.int .i64 (j:Int)∧Bl wj wr) (fun v _=> k - (intOf v).toNat)
          case atStart=> exact⟨0,by omega,rfl,Bl.refl _⟩
          case round =>
            obtain⟨j,hj,rfl,hbj⟩:=hrel
            obtain⟨wp,rfl⟩:∃ wp:World,wp=wr:=⟨_,rfl⟩
            have hb4p:=hbi.next hbj
            by_cases hjk:j < k
            · have hji:(j:Int) < (k:Int):=by omega
              obtain⟨c0,c1,c2,c3,c4⟩:=trs_lit (RdTS.bl ht (hbW.next hb4p)) (show j < m by omega)
              have hsx:=Lib.hid (hixs.out j (by rw[hm.out];omega))
              have hsj:=Lib.hid (hsp.out j hjk)
              obtain⟨s,hse⟩:∃ s,pix mq.tris j=s:=⟨_,rfl⟩
              rw[hse] at c0 c1 c2 c3 c4 hsx hsj
              clear hse
              have hQ2:=hQ.bl hbj
              have h62:=h6.bl hbj
              have hQl:=hQ2.lt
              have h6l:=h62.lt
              obtain⟨p0,p1,p2⟩:=bx3 hQ2
              obtain⟨d0,d1,d2,d3,d4⟩:=bx5 h62
              go_wp2_with fail
              refine calls_gen (fun W9=> Bl wp W9∧∃ g9,Blk W9 g9 58 #[.int .i64 s.a,.int .i64 s.b,.int .i64 s.c,.int .i64 s.region,.int .i64 s.level]∧g9=wp.heap.size) ⟨by exact slc,_,by exact bts,rfl⟩ ?_
              rintro W9 ⟨hb9,g9,h9,hg9⟩
              rw[← hg9]
              clear c0 c1 c2 c3 c4 p0 p1 p2 d0 d1 d2 d3 d4 hg9
              have hQ2:=hQ2.bl hb9
              have h62:=h62.bl hb9
              refine(separates_any _ (hx.bl (hb4p.next hb9)) (hy.bl (hb4p.next hb9)) hB s t hsx.out htx2.out).mono ?_
              by_cases h1:sepI (plXs mq.pts n) (plYs mq.pts n) s t=true
              · rw[h1]
                rintro e w10 ⟨rfl,hb10⟩
                have h1:=Lib.hid h1;rename_i h_;clear h_
                go_wp2_with fail
                go_roundw
                case rel=> exact⟨j+1,by omega,by go_num,hbj.next (hb9.next hb10)⟩
                case measure=> simp[intOf];omega
              · have h2:sepI (plXs mq.pts n) (plYs mq.pts n) t s=true:=hsj.out.resolve_left h1
                rw[Bool.eq_false_iff.2 h1]
                rintro e w10 ⟨rfl,hb10⟩
                have h1:=Lib.hid h1;rename_i h_;clear h_
                have h2:=Lib.hid h2;rename_i h_;clear h_
                have hQ2:=hQ2.bl hb10
                have h62:=h62.bl hb10
                have h92:=h9.bl hb10
                have hb910:=hb9.next hb10
                clear hb9 hb10
                have hQl:=hQ2.lt
                have h6l:=h62.lt
                have h9l:=h92.lt
                obtain⟨p0,p1,p2⟩:=bx3 hQ2
                obtain⟨d0,d1,d2,d3,d4⟩:=bx5 h62
                obtain⟨c0,c1,c2,c3,c4⟩:=bx5 h92
                go_wp2_with fail
                refine(separates_any _ (hx.bl (hb4p.next hb910)) (hy.bl (hb4p.next hb910)) hB t s htx2.out hsx.out).mono ?_
                rw[h2.out]
                rintro e w11 ⟨rfl,hb11⟩
                go_wp2_with fail
                go_roundw
                case rel=> exact⟨j+1,by omega,by go_num,hbj.next (hb910.next hb11)⟩
                case measure=> simp[intOf];omega
            · obtain rfl:j=k:=by omega
              have hkm2:¬ (j:Int) < (j:Int):=by omega
              go_wp2_with fail
              go_roundw
              case rel=> exact⟨j+1,by omega,by go_num,(hUi.bl hbj).congr (fun x _=> husd.out x),hQ.bl hbj,hb4p⟩
              case measure=> simp[intOf];omega
    · obtain rfl:k=m:=by omega
      have hkm2:¬ (k:Int) < (k:Int):=by omega
      have hall:∀ i,i < n→wo.cell? ⟨gu,i,none⟩=some (.bool true):=by
        intro i hi
        obtain⟨j,hj,h⟩:=hused.out i hi
        rw[hU.cell hi,usedTo_of (by rw[hm.out] at hj;exact hj) h]
      have hall:=Lib.hid hall;rename_i h_;clear h_
      go_wp2_with fail
      refine(ContainsBool_no _ hall.out (by omega)).mono ?_
      rintro e w9 ⟨rfl,rfl⟩
      obtain⟨p0,p1,p2⟩:=bx3 hQ
      obtain⟨r0,r1⟩:=bx2 (hM.bl hbw)
      go_wp2_with fail
      refine(hasInside_no _ (hx.bl hbw) (hy.bl hbw) hB (RdTS.bl ht (hbW.next hbw)) hixs.out hno.out (by omega)).mono ?_
      rintro e w10 ⟨rfl,hb10⟩
      go_wp2_with fail
      go_ret
      exact⟨rfl,(hbW.next hbw).next hb10⟩
end

section
open Go.RowKit

def EdIx (n:Nat) (l:List EdD):Prop:=∀ e ∈ l,(0≤e.a∧e.a < n)∧0≤e.b∧e.b < n
theorem mem_modify {f:EdD→EdD}:∀ {l:List EdD}{p:Nat}{e:EdD},e ∈ l.modify p f→e ∈ l∨∃ x,x ∈ l∧e=f x
  | [],p,e,h=> by simp at h
  | y :: ys,0,e,h=> by
    rw[List.modify_zero_cons,List.mem_cons] at h
    rcases h with h | h
    · exact .inr ⟨y,by simp,h⟩
    · exact .inl (by simp[h])
  | y :: ys,p+1,e,h=> by
    rw[List.modify_succ_cons,List.mem_cons] at h
    rcases h with h | h
    · exact .inl (by simp[h])
    · rcases mem_modify h with h |⟨x,h1,h2⟩
      · exact .inl (by simp[h])
      · exact .inr ⟨x,by simp[h1],h2⟩
theorem EdIx.put {n:Nat}{l:List EdD}{a b k:Int}(h:EdIx n l) (ha:0≤a∧a < n) (hb:0≤b∧b < n):EdIx n (putE l a b k):=by
  have hn:((0:Int)≤(newE a b).a∧(newE a b).a < (n:Int))∧(0:Int)≤(newE a b).b∧(newE a b).b < (n:Int):=by
    show ((0:Int)≤min a b∧min a b < (n:Int))∧(0:Int)≤max a b∧max a b < (n:Int)
    omega
  have h2:EdIx n (if fndE (newE a b) l then l else insE (newE a b) l):=by
    by_cases hf:fndE (newE a b) l=true
    · rw[if_pos hf];exact h
    · rw[if_neg hf]
      intro e he
      unfold insE at he
      rw[List.mem_append,List.mem_cons] at he
      rcases he with he | rfl | he
      · exact h e (List.mem_of_mem_take he)
      · exact hn
      · exact h e (List.mem_of_mem_drop he)
  intro e he
  rcases mem_modify he with he |⟨x,hx,rfl⟩
  · exact h2 e he
  · have:=h2 x hx
    unfold setLR
    split <;> exact this
theorem edTo_ix {n:Nat}{ts:List TriD}(h:TrsIx n ts):∀ {k:Nat},k≤ts.length→EdIx n (edTo ts k)
  | 0,_=> fun e he=> by simp[edTo] at he
  | k+1,hk=> by
    obtain⟨h1,h2,h3⟩:=h k (by omega)
    exact((EdIx.put (edTo_ix h (by omega)) h1 h2).put h2 h3).put h3 h1
theorem EdIx.at_ {n:Nat}{l:List EdD}(h:EdIx n l) {k:Nat}(hk:k < l.length):(0≤(pix l k).a∧(pix l k).a < n)∧0≤(pix l k).b∧(pix l k).b < n:=by
  refine h _ ?_
  unfold pix
  rw[List.getD_eq_getElem?_getD,List.getElem?_eq_getElem hk]
  exact List.getElem_mem hk
theorem OwL.any {E:TypeId}{base:Nat}{w:World}{v:Value}{l:List Int}(h:OwL E base w v l) (hl:l.length≤9223372036854775807):∃ A c,v=.slice A l.length c∧RdI w A l.length c l:=by
  obtain⟨A,c,e,ho⟩:=h.own hl
  exact⟨A,c,e,ho.rd⟩

/-- A mesh in memory. -/
def MeAt (w:World) (v:Value) (mq:MeQ):Prop:=∃ gp n cp gt m ct,v=.agg #[.slice (some ⟨gp,0,none⟩) n cp,.slice (some ⟨gt,0,none⟩) m ct]∧RdPS w (some ⟨gp,0,none⟩) n cp (mq.pts.map tp)∧RdTS w (some ⟨gt,0,none⟩) m ct mq.tris
theorem MeAt.bl {w W:World}{v:Value}{mq:MeQ}(h:MeAt w v mq) (hb:Bl w W):MeAt W v mq:=by
  obtain⟨gp,n,cp,gt,m,ct,e,hp,ht⟩:=h
  exact⟨gp,n,cp,gt,m,ct,e,RdPS.bl hp hb,RdTS.bl ht hb⟩
end

section
open Go.RowKit

theorem sumTo_bd {α:Type} [Inhabited α] {f:α→Nat}{l:List α}{b:Nat}:∀ {k:Nat},(∀ i,i < k→f (pix l i)≤b)→sumTo f l k≤k * b
  | 0,_=> by simp[sumTo]
  | k+1,h=> by
    have h1:=sumTo_bd (k:=k) (fun i hi=> h i (by omega))
    have h2:=h k (by omega)
    have h3:(k+1) * b=k * b+b:=Nat.succ_mul k b
    show sumTo f l k+f (pix l k)≤_
    omega
theorem MeshOk.sz {mq:MeQ}(h:MeshOk mq):szL szP (mq.pts.map tp)≤1048576:=by
  have h1:∀ i,i < (mq.pts.map tp).length→szP (pix (mq.pts.map tp) i)≤4:=by
    intro i hi
    rw[List.length_map] at hi
    rw[pix_map hi]
    obtain⟨s1,s2⟩:=h.place.1 i hi
    have a1:=s1.mag
    have a2:=s1.den
    have a3:=s2.mag
    have a4:=s2.den
    show ((toR (pix mq.pts i).1).mag.length+(toR (pix mq.pts i).1).den.length)+((toR (pix mq.pts i).2).mag.length+(toR (pix mq.pts i).2).den.length)≤4
    omega
  have h2:=sumTo_bd h1
  have h3:=h.n40
  unfold szL
  rw[List.length_map] at *
  omega
/-- The corners of triangle k. -/
def mc (mq:MeQ) (x:Int):Rat × Rat:=pix mq.pts x.toNat
theorem cornL_me {mq:MeQ}(h:TrsIx mq.pts.length mq.tris) {k:Nat}(hk:k < mq.tris.length):cornL ⟨mq.pts.map tp,mq.tris⟩ (k:Int)=[tp (mc mq (pix mq.tris k).a),tp (mc mq (pix mq.tris k).b),tp (mc mq (pix mq.tris k).c)]:=by
  obtain⟨⟨a0,a1⟩,⟨b0,b1⟩,c0,c1⟩:=h k hk
  unfold cornL
  rw[if_pos]
  · show [pix (mq.pts.map tp) _,pix (mq.pts.map tp) _,pix (mq.pts.map tp) _]=_
    rw[Int.toNat_natCast]
    show [pix (mq.pts.map tp) (pix mq.tris k).a.toNat,pix (mq.pts.map tp) (pix mq.tris k).b.toNat,pix (mq.pts.map tp) (pix mq.tris k).c.toNat]=_
    rw[pix_map (by omega),pix_map (by omega),pix_map (by omega)]
    rfl
  · refine⟨⟨by omega,by show (k:Int)≤(mq.tris.length:Int) - 1;omega⟩,fun j hj=> ?_⟩
    rw[Int.toNat_natCast]
    show 0≤triIx (pix mq.tris k) j∧triIx (pix mq.tris k) j≤((mq.pts.map tp).length:Int) - 1
    rw[List.length_map]
    rcases(show j=0∨j=1∨j=2 by omega) with rfl | rfl | rfl
    · show 0≤(pix mq.tris k).a∧(pix mq.tris k).a≤_;omega
    · show 0≤(pix mq.tris k).b∧(pix mq.tris k).b≤_;omega
    · show 0≤(pix mq.tris k).c∧(pix mq.tris k).c≤_;omega
end

section
open Go.RowKit

def encT (t:TriD):List Value:=[.int .i64 t.a,.int .i64 t.b,.int .i64 t.c,.int .i64 t.region,.int .i64 t.level]
theorem flatT_len:∀ (l:List TriD),(l.flatMap encT).length=l.length * 5
  | []=> rfl
  | x :: xs=> by
    have h5:(encT x).length=5:=rfl
    rw[List.flatMap_cons,List.length_append,flatT_len xs,h5,List.length_cons]
    omega
theorem flatT_get:∀ (l:List TriD) {k j:Nat},k < l.length→j < 5→(l.flatMap encT)[k * 5+j]?=(encT (pix l k))[j]?
  | [],k,j,hk,_=> by simp at hk
  | x :: xs,k,j,hk,hj=> by
    have h4:(encT x).length=5:=rfl
    rw[List.flatMap_cons]
    rcases k with _ | k
    · rw[List.getElem?_append_left (by omega),pix_zero]
      congr 1
      omega
    · rw[List.getElem?_append_right (by omega),h4,pix_succ,show (k+1) * 5+j - 5=k * 5+j by omega]
      exact flatT_get xs (by simpa using hk) hj
theorem encT_one {t:TriD}{u:Value}(h:u ∈ encT t):u.oneCell'=true:=by
  unfold encT at h
  simp at h
  rcases h with rfl | rfl | rfl | rfl | rfl <;> rfl
/-- A row of triangles in memory of one's own. -/
def OwT (base:Nat) (w:World) (v:Value) (l:List TriD):Prop:=w.ownsRow base 58 5 v l.length (l.flatMap encT)
section
variable {base:Nat}{w W:World}{v:Value}{l:List TriD}
theorem OwT.empty (w:World) (hb:base≤w.heap.size):OwT base (w.alloc (.cells #[] 58)) (.slice (some ⟨w.heap.size,0,none⟩) 0 0) []:=World.ownsRow_made w #[] 0 hb (Nat.zero_le _) (by simp)
theorem OwT.keep (h:OwT base w v l) (h1:∀ g,v.ownBlock=Option.some g→W.heap[g]?=w.heap[g]?):OwT base W v l:=by
  refine⟨h.1,?_⟩
  rcases h.2 with h2 |⟨g,cap,cur,hv,hg,hh,r⟩
  · exact .inl h2
  · exact .inr ⟨g,cap,cur,hv,hg,(h1 g (by rw[hv];rfl)).trans hh,r⟩
theorem OwT.blk (h:OwT base w v l) {g:Nat}(hg:v.ownBlock=Option.some g):base≤g∧g < w.heap.size:=World.ownsRow.lt h g hg
theorem OwT.bl (h:OwT base w v l) (hb:Bl w W):OwT base W v l:=h.keep fun g e=> Below.block hb g (h.blk e).2
/-- The row, opened. -/
theorem OwT.lit (h:OwT base w v l) (hnil:v≠.slice none 0 0):∃ g c,v=.slice (some ⟨g,0,none⟩) l.length c∧base≤g∧RdTS w (some ⟨g,0,none⟩) l.length c l∧g < w.heap.size∧(∀ o,w.frozen? ⟨g,o,none⟩=false):=by
  obtain⟨hcl,⟨h,_⟩ |⟨g,cap,cur,rfl,hg,hh,hnc,hm,hcs,htk⟩⟩:=id h
  · exact absurd h hnil
  have hc:∀ k j u,k < l.length→j < 5→(encT (pix l k))[j]?=some u→w.cell? ⟨g,k * 5+j,none⟩=some u:=fun k j u hk hj hu=> row_cell hh htk (by rw[flatT_get l hk hj];exact hu)
  refine⟨g,cap,rfl,hg,⟨rfl,hnc,by unfold maxLen at hm;omega,fun k hk =>⟨_,rfl,heap_lt hh,?_⟩⟩,heap_lt hh,fun o=> by simp[World.frozen?,hh]⟩
  rw[Addr.add_lit,Nat.zero_add]
  exact⟨hc k 0 _ hk (by omega) rfl,hc k 1 _ hk (by omega) rfl,hc k 2 _ hk (by omega) rfl,hc k 3 _ hk (by omega) rfl,hc k 4 _ hk (by omega) rfl⟩
end

theorem wpList_append_tris {w0 W:World}{ops:Array Oper}{rest:List Oper}{o:Oper}{a:Act}{Q:Exit→Act→World→Prop}(hgd:o.guard=none) (s x:Operand)
    (ho:o.op=.call { callee:=.builtin .append,args:=#[s,x],argTypes:=#[24,24] }) (v:Value) (l:List TriD) (hs:a.eval s=v) (hown:OwT w0.heap.size W v l) (hnil:v≠.slice none 0 0) (hb:Bl w0 W)
    (g m c:Nat) (hx:a.eval x=.slice (some ⟨g,0,none⟩) m c) (ys:List TriD) (hr:RdTS W (some ⟨g,0,none⟩) m c ys) (hlen:l.length≤1048576) (hm:m≤1048576)
    (h:∀ v' w',OwT w0.heap.size w' v' (l ++ ys)→v'≠.slice none 0 0→Bl w0 w'→wpList Tryz.prog ops Q rest (a.put o.dst v') w'):wpList Tryz.prog ops Q (o :: rest) a W:=by
  obtain⟨i0,hi,hz0,hz1,hz2⟩:=info_parts info_tri'
  refine wpList_append_own _ hgd s x 24 ho w0.heap.size 58 i0 _ 5 40 Tryz.underlying24 hi hz0 hz1 hz2 rfl (by omega) v l.length (l.flatMap encT) hs hown ⟨g,0,none⟩ m c (ys.flatMap encT) hx (by rw[flatT_len,hr.len]) ?_ ?_ (by simp only[maxLen];omega) (by omega) hb.size ?_
  · intro j u hu
    have hj:j < ys.length * 5:=by
      rcases Nat.lt_or_ge j (ys.length * 5) with h | h
      · exact h
      · rw[List.getElem?_eq_none (by rw[flatT_len];exact h)] at hu;simp at hu
    have hl:=hr.len
    have hk:j / 5 < ys.length:=by omega
    have e:j=j / 5 * 5+j % 5:=by omega
    rw[e,flatT_get ys hk (Nat.mod_lt _ (by omega))] at hu
    obtain⟨c0,c1,c2,c3,c4⟩:=trs_lit hr (show j / 5 < m by omega)
    rw[Addr.add_lit,Nat.zero_add,e]
    have h5:j % 5 < 5:=Nat.mod_lt _ (by omega)
    generalize j % 5=q at hu h5 ⊢
    rcases(show q=0∨q=1∨q=2∨q=3∨q=4 by omega) with rfl | rfl | rfl | rfl | rfl
    · exact c0.trans hu
    · exact c1.trans hu
    · exact c2.trans hu
    · exact c3.trans hu
    · exact c4.trans hu
  · intro u hu
    obtain⟨t,_,ht⟩:=List.mem_flatMap.1 hu
    exact encT_one ht
  · intro v' w' h1 h2 h3
    refine h v' w' ?_ (fun e=> hnil (h3.1 e).1) (hb.grown h2 fun k hk =>(hown.blk hk).1)
    unfold OwT
    rw[List.length_append,hr.len,List.flatMap_append]
    exact h1
set_option maxHeartbeats 1600000 in
theorem CloneTri_any (w:World) {g n c:Nat}{l:List TriD}(h:RdTS w (some ⟨g,0,none⟩) n c l) (hn:n≤1048576) :
    Calls Tryz.prog 55 #[.slice (some ⟨g,0,none⟩) n c] w fun e w'=> ∃ g' c',e=.returned (.slice (some ⟨g',0,none⟩) n c')∧OwT w.heap.size w' (.slice (some ⟨g',0,none⟩) n c') l∧Bl w w':=by
  have he:∀ W a n c,(binOp .eql 24 (.slice a n c) (.slice none 0 0)).run Tryz.prog W=.ok (.bool a.isNone) W:=fun W a n c=> Lib.run_eql_slice_nil W 24 58 a n c 0 0 Tryz.underlying24
  have hl:=Lib.hid h.len
  go_enter Tryz.func55,Tryz.ntmps55
  go_wp2_with (at_builtin;go_must (refine wpList_append_tris (w0:=w) rfl (.tmp 5) (.tmp 6) rfl _ [] rfl (OwT.empty w (Nat.le_refl _)) (fun e=> by cases e) ((Bl.refl w).alloc _) g n c rfl l (RdTS.bl h ((Bl.refl w).alloc _)) (by simp) (by omega) ?_);intro v' w1 hown1 hnil1 hbw1)
  rw[List.nil_append] at hown1
  obtain⟨g',c',hv,_,_,_,_⟩:=hown1.lit hnil1
  rw[hl.out] at hv
  subst hv
  go_ret
  exact⟨g',c',rfl,hown1,hbw1⟩
end

section
open Go.RowKit

theorem RowP.setLow {N:List Nat→Prop}{lo:Nat}{w:World}{v:Value}{l:List PtD}(h:RowP N lo w.heap.size w v l) {q:Addr}(hq:q.block < lo) (u:Value):RowP N lo (w.setCell q u).heap.size (w.setCell q u) v l:=by
  have hs:(w.setCell q u).heap.size=w.heap.size:=by simp
  rw[hs]
  exact RowG.keep (ptIn_keep 3) h (by omega) fun b h1 _=> Below.heap_setCell w q u b (by omega)
theorem RowP.shape3 {N:List Nat→Prop}{lo hi:Nat}{w:World}{v:Value}{l:List PtD}(h:RowP N lo hi w v l):∃ A n c,v=.slice A n c:=by
  obtain⟨_,_,h1,_⟩:=h
  rcases h1.2 with ⟨rfl,_⟩ |⟨g,cap,cur,rfl,_⟩
  · exact⟨_,_,_,rfl⟩
  · exact⟨_,_,_,rfl⟩
theorem RowP.up2 {N:List Nat→Prop}{lo:Nat}{w W:World}{v:Value}{l:List PtD}(h:RowP N lo w.heap.size w v l) (hb:Bl w W):RowP N lo W.heap.size W v l:=(RowG.bl (ptIn_keep 3) h hb).up hb.size (Nat.le_refl _)
theorem RowP.lit {N:List Nat→Prop}{lo hi:Nat}{w:World}{v:Value}{l:List PtD}(h:RowP N lo hi w v l) (hl:0 < l.length) (hl2:l.length≤1048576):∃ g c,v=.slice (some ⟨g,0,none⟩) l.length c∧lo≤g∧RdPS w (some ⟨g,0,none⟩) l.length c l:=by
  obtain⟨A,c,e,hr⟩:=RowP.rd h hl2
  obtain⟨cells,fs,h1,_⟩:=h
  rcases h1.2 with ⟨rfl,h0⟩ |⟨g,cap,cur,rfl,hg,_⟩
  · omega
  · injection e with e1 e2 e3
    subst e1 e3
    exact⟨g,cap,rfl,hg,hr⟩
def cpTo (l:List PtD) (k:Nat):List PtD:=(List.range k).map (pix l)
theorem cpTo_len (l:List PtD) (k:Nat):(cpTo l k).length=k:=by simp[cpTo]
theorem cpTo_succ (l:List PtD) (k:Nat):cpTo l (k+1)=cpTo l k ++ [pix l k]:=by unfold cpTo;rw[List.range_succ,List.map_append];rfl
theorem cpTo_all {l:List PtD}:cpTo l l.length=l:=by
  refine List.ext_getElem (by simp[cpTo]) fun i h1 h2=> ?_
  simp[cpTo,pix,h2]
theorem OwT.low {base b1:Nat}{w:World}{v:Value}{l:List TriD}(h:OwT b1 w v l) (hb:base≤b1):OwT base w v l:=by
  refine⟨h.1,?_⟩
  rcases h.2 with h2 |⟨g,cap,cur,hv,hg,r⟩
  · exact .inl h2
  · exact .inr ⟨g,cap,cur,hv,Nat.le_trans hb hg,r⟩
/-- A mesh in memory of one's own; its triangles lie apart from its points. -/
def CmRes (w:World) (l:List PtD) (ts:List TriD) (en:Ending) (w':World):Prop :=
  ∃ lo gp n cp gt m ct,en=.returned (.agg #[.slice (some ⟨gp,0,none⟩) n cp,.slice (some ⟨gt,0,none⟩) m ct])∧n=l.length∧m=ts.length∧RowP List.Nodup lo w'.heap.size w' (.slice (some ⟨gp,0,none⟩) n cp) l∧OwT w.heap.size w' (.slice (some ⟨gt,0,none⟩) m ct) ts∧gt < lo∧w.heap.size≤lo∧Bl w w'

set_option maxRecDepth 100000 in
set_option maxHeartbeats 16000000 in
theorem copyMesh_any (w:World) {gp n cp gt m ct:Nat}{l:List PtD}{ts:List TriD}(hp:RdPS w (some ⟨gp,0,none⟩) n cp l) (ht:RdTS w (some ⟨gt,0,none⟩) m ct ts) (hn:0 < n) (hn2:n≤1048576) (hm2:m≤1048576)
    (hsz:∀ k,k < n→((pix l k).x.mag.length≤1048576∧(pix l k).x.den.length≤1048576)∧(pix l k).y.mag.length≤1048576∧(pix l k).y.den.length≤1048576) :
    Calls Tryz.prog 25 #[.agg #[.slice (some ⟨gp,0,none⟩) n cp,.slice (some ⟨gt,0,none⟩) m ct]] w (CmRes w l ts):=by
  have hln:=Lib.hid hp.len
  have hlm:=Lib.hid ht.len
  have hsz:=Lib.hid hsz;rename_i h_;clear h_
  go_enter Tryz.func25,Tryz.ntmps25
  go_wp2_with fail
  refine calls_gen (fun W=> Bl w W∧Blk W w.heap.size 26 #[.slice (some ⟨gp,0,none⟩) n cp,.slice (some ⟨gt,0,none⟩) m ct]∧Wk 2 26 (w.heap.size+1) W) ⟨slc,bts,bts⟩ ?_
  rintro W ⟨hbW,hA,hr⟩
  refine(CloneTri_any _ (RdTS.bl ht hbW) hm2).mono ?_
  rintro e w1 ⟨gt',ct',rfl,hT,hb1⟩
  have hz0:=hr.lt
  have hA:=hA.bl hb1
  have hr:=hr.bl hb1
  have hbW:=hbW.next hb1
  have hgt:=hT.blk (g:=gt') rfl
  have hz1:=hr.lt
  clear hb1
  obtain⟨r0,r1⟩:=bx2 hA
  go_upto_region 2 with (fail)
  refine wp_gen (fun W2=> Bl w1 W2∧Blk W2 w1.heap.size 26 #[.slice none 0 0,.slice (some ⟨gt',0,none⟩) m ct']) ⟨slc,by exact bts⟩ ?_
  rintro W2 ⟨hb2,hm⟩
  have hA:=hA.bl hb2
  have hT:=hT.bl hb2
  have hr:=hr.bl hb2
  have hbW:=hbW.next hb2
  clear r0 r1
  obtain⟨r0,r1⟩:=bx2 hA
  go_wp2_with fail
  clear r0 r1 hA
  go_loopw [13] (fun i wr=> ∃ (k:Nat) (vp:Value),k≤n∧i=.int .i64 (k:Int)∧Blk wr w1.heap.size 26 #[vp,.slice (some ⟨gt',0,none⟩) m ct']∧RowP List.Nodup (w1.heap.size+1) wr.heap.size wr vp (cpTo l k)∧OwT W.heap.size wr (.slice (some ⟨gt',0,none⟩) m ct') ts∧Wk 2 26 (w.heap.size+1) wr∧Bl w wr) (fun i _=> n - (intOf i).toNat)
  case atStart=> exact⟨0,.slice none 0 0,by omega,rfl,hm,RowG.nil appN_nodup _ (Nat.le_refl _),hT,hr,hbW⟩
  case round =>
    clear hm hT hr hbW hb2
    obtain⟨k,vp,hk,rfl,hm,hrow,hT,hr,hbw⟩:=hrel
    by_cases hkn:k < n
    · have hki:(k:Int) < (n:Int):=by omega
      obtain⟨sq,Aq,nq,cq,Bq,mq_,dq,tq,Cq,iq,eq,Dq,jq,fq,⟨y0,y1,y2,y3,y4,y5⟩,hR1,hR2⟩:=pts_lit (RdPS.bl hp hbw) hkn
      obtain⟨⟨sz1,sz2⟩,sz3,sz4⟩:=hsz.out k hkn
      have hn1:nq≤1048576:=by rw[← hR1.mag.len];exact sz1
      have hn3:mq_≤1048576:=by rw[← hR1.den.len];exact sz2
      have hn4:iq≤1048576:=by rw[← hR2.mag.len];exact sz3
      have hn5:jq≤1048576:=by rw[← hR2.den.len];exact sz4
      clear sz1 sz2 sz3 sz4
      have hml:=hm.lt
      have hvq:=hrow.ne (Nat.le_refl wr.heap.size)
      go_upto_region 5 with (fail)
      refine wp_gen (fun W=> Bl wr W∧wr.heap.size < W.heap.size∧Blk W wr.heap.size 56 #[.bool sq,.slice Aq nq cq,.slice Bq mq_ dq,.bool tq,.slice Cq iq eq,.slice Dq jq fq]) ⟨slc,by simp,by exact bts⟩ ?_
      rintro W ⟨hbq,hgw,hq⟩
      have hm:=hm.bl hbq
      have hrow:=RowP.up2 hrow hbq
      have hT:=hT.bl hbq
      have hr:=hr.bl hbq
      have hbW:=hbw.next hbq
      have hlo:(w1.heap.size+1)≤W.heap.size:=by omega
      clear y0 y1 y2 y3 y4 y5
      replace hR1:=hR1.bl hbq
      replace hR2:=hR2.bl hbq
      have hHeld:(fun w' =>(w'.cell? ⟨w1.heap.size,0,none⟩=some (vp)∧w'.cell? ⟨w1.heap.size,1,none⟩=some (.slice (some ⟨gt',0,none⟩) m ct'))∧(w'.cell? ⟨wr.heap.size,0,none⟩=some (.bool sq)∧w'.cell? ⟨wr.heap.size,1,none⟩=some (.slice Aq nq cq)∧w'.cell? ⟨wr.heap.size,2,none⟩=some (.slice Bq mq_ dq)∧w'.cell? ⟨wr.heap.size,3,none⟩=some (.bool tq)∧w'.cell? ⟨wr.heap.size,4,none⟩=some (.slice Cq iq eq)∧w'.cell? ⟨wr.heap.size,5,none⟩=some (.slice Dq jq fq))) (W.drew):=⟨bx2 (T:=26) (hm.bl slc),bx6 (T:=56) (hq.bl slc)⟩
      refine wp_region_T 7 8 (fun w' =>(w'.cell? ⟨w1.heap.size,0,none⟩=some (vp)∧w'.cell? ⟨w1.heap.size,1,none⟩=some (.slice (some ⟨gt',0,none⟩) m ct'))∧(w'.cell? ⟨wr.heap.size,0,none⟩=some (.bool sq)∧w'.cell? ⟨wr.heap.size,1,none⟩=some (.slice Aq nq cq)∧w'.cell? ⟨wr.heap.size,2,none⟩=some (.slice Bq mq_ dq)∧w'.cell? ⟨wr.heap.size,3,none⟩=some (.bool tq)∧w'.cell? ⟨wr.heap.size,4,none⟩=some (.slice Cq iq eq)∧w'.cell? ⟨wr.heap.size,5,none⟩=some (.slice Dq jq fq))) rfl (by kernel_rfl) hHeld ?_
      refine wpAnyT_take (i:=0) (oi:=_) (v:=?_) (fuel:=7) rfl (by kernel_rfl) (by kernel_rfl) (by kernel_rfl) (by kernel_rfl) (fun _ _ _ h=> h) (by rfl) ?_ hHeld ?_
      rotate_left 1
      · (intro w' hSw;(try dsimp only at hSw);go_simp <;> with_reducible rfl)
      refine wpAnyT_take (i:=1) (oi:=_) (v:=?_) (fuel:=6) rfl (by kernel_rfl) (by kernel_rfl) (by kernel_rfl) (by kernel_rfl) (fun _ _ _ h=> h) (by rfl) ?_ hHeld ?_
      rotate_left 1
      · (intro w' hSw;(try dsimp only at hSw);go_simp <;> with_reducible rfl)
      refine wpAnyT_take (i:=2) (oi:=_) (v:=?_) (fuel:=5) rfl (by kernel_rfl) (by kernel_rfl) (by kernel_rfl) (by kernel_rfl) (fun _ _ _ h=> h) (by rfl) ?_ hHeld ?_
      rotate_left 1
      · (intro w' hSw;(try dsimp only at hSw);go_simp <;> with_reducible rfl)
      clear hHeld
      simp only[Act.put,List.setIfInBounds_toArray]
      refine wpAnyT_step (i:=3) (o:=_) (fuel:=4) rfl (by kernel_rfl) (fun K hK=> ?_)
      go_simp
      refine(copyPoint_any _ (RdR.bl hR1 slc) (RdR.bl hR2 slc) (by omega) (by omega) (by omega) (by omega)).mono ?_
      rintro e w2 ⟨A1,n1,c1,B1,m1,d1,C1,i1',e1,D1,j1,f1,rfl,hP,hb2⟩
      have hrow4:=RowG.bl (ptIn_keep 3) hrow (show Bl W w2 from slc)
      have hP4:=OwPN.of hP
      have hm:=hm.bl (show Bl W w2 from slc)
      have hq:=hq.bl (show Bl W w2 from slc)
      have hT4:=hT.bl (show Bl W w2 from slc)
      have hr4:=hr.bl (show Bl W w2 from slc)
      have hbw4:Bl w w2:=hbW.next (show Bl W w2 from slc)
      refine hK.out _ _ (fun _ =>⟨bx2 (T:=26) (hm.bl slc),bx6 (T:=56) (hq.bl slc)⟩) ?_
      clear hK K
      try simp only[Act.put,List.setIfInBounds_toArray,List.set_cons_zero,List.set_cons_succ]
      refine wpAnyT_step (i:=4) (o:=_) (fuel:=3) rfl (by kernel_rfl) (fun K hK=> ?_)
      go_simp
      refine hK.out _ _ (fun _ =>⟨bx2 (T:=26) (hm.bl slc),bx6 (T:=56) (hq.bl slc)⟩) ?_
      clear hK K
      try simp only[Act.put,List.setIfInBounds_toArray,List.set_cons_zero,List.set_cons_succ]
      refine wpAnyT_step (i:=5) (o:=_) (fuel:=2) rfl (by kernel_rfl) (fun K hK=> ?_)
      refine step_append_ptX appN_nodup rfl (.tmp 18) (.tmp 21) rfl _ (by rfl) hrow4 hP4 (Nat.le_refl _) hlo 1 (by rfl) (by rw[cpTo_len];omega) w hbw4 (by omega) ?_
      intro v' w8 hrow' hb8' hoth
      obtain⟨A8,n8,c8,rfl⟩:=RowP.shape3 hrow'
      have hm:=hm.oth hoth (fun e=> by have:=hrow.lo e;omega)
      have hq:=hq.oth hoth hvq
      have hT8:=hT4.keep (fun g e =>(hoth g (hT4.blk e).2 (fun e2=> by have h1:=hrow.lo e2;injection e with e;simp only at e;omega)).1)
      obtain⟨cs5,hB5,hc5⟩:=hr4
      have hr8:Wk 2 26 (w.heap.size+1) w8:=⟨cs5,hB5.oth hoth (fun e=> by have:=hrow.lo e;omega),hc5⟩
      refine hK.out _ _ (fun _ =>⟨bx2 (T:=26) (hm.bl slc),bx6 (T:=56) (hq.bl slc)⟩) ?_
      clear hK K
      try simp only[Act.put,List.setIfInBounds_toArray]
      refine wpAnyT_step (i:=6) (o:=_) (fuel:=1) rfl (by kernel_rfl) (fun K hK=> ?_)
      go_simp
      refine hK.out _ _ (fun _ =>⟨bx2 (T:=26) (hm.bl slc),bx6 (T:=56) (hq.bl slc)⟩) ?_
      clear hK K
      try simp only[Act.put,List.setIfInBounds_toArray,List.set_cons_zero,List.set_cons_succ]
      obtain⟨z0',z1'⟩:=bx2 hm
      have zf:=hm.frozen 0
      refine wpAnyT_step (i:=7) (o:=_) (fuel:=0) rfl (by kernel_rfl) (fun K hK=> ?_)
      go_simp
      refine hK.out _ _ (fun h=> absurd rfl h) ?_
      clear hK K
      try simp only[Act.put,List.setIfInBounds_toArray]
      refine wpAnyT_done (by kernel_rfl) ?_
      go_wp2_with fail
      go_roundw
      case rel=> exact⟨k+1,_,by omega,by go_num,by simpa using hm.set_ 0 _,by rw[cpTo_succ];exact RowP.setLow hrow' (by simp) _,hT8.keep (fun g e=> Below.heap_setCell _ _ _ g (by injection e with e;simp only at e ⊢;omega)),hr8.far (by simp;omega) _,Bl.set hb8' (by simp;omega) _⟩
      case measure=> simp[intOf];omega
    · obtain rfl:k=n:=by omega
      have hkm2:¬ (k:Int) < (k:Int):=by omega
      rw[show cpTo l k=l by rw[← hln.out];exact cpTo_all] at hrow
      obtain⟨gp',cp',rfl,hgp,hRd⟩:=hrow.lit (by rw[hln.out];exact hn) (by rw[hln.out];exact hn2)
      obtain⟨v0,x0⟩:=hr.val_ (i:=0) (by omega)
      obtain⟨v1,x1⟩:=hr.val_ (i:=1) (by omega)
      have hg:=hr.lt
      obtain⟨cs4,hB4,hc4⟩:=hr
      have hf0:=hB4.frozen 0
      have hf1:=hB4.frozen 1
      rw[hln.out] at hm hrow hRd
      obtain⟨i0,i1⟩:=bx2 hm
      go_wp2_with fail
      exact bodyPost_ret (v:=.agg #[.slice (some ⟨gp',0,none⟩) k cp',.slice (some ⟨gt',0,none⟩) m ct']) (by simp[results,Tryz.results25,go_sem,x0,x1]) rfl ⟨(w1.heap.size+1),gp',_,cp',gt',_,ct',rfl,hln.out.symm,hlm.out.symm,RowP.setLow (RowP.setLow hrow (by simp;omega) _) (by simp;omega) _,(hT.keep (fun g e =>(Below.heap_setCell _ _ _ g (by injection e with e;simp only at e ⊢;omega)).trans (Below.heap_setCell _ _ _ g (by injection e with e;simp only at e ⊢;omega)))).low (by omega),by omega,by omega,slc⟩
end

section
open Go.RowKit

theorem OwT.setK {base:Nat}{w:World}{l:List TriD}{g n c:Nat}(h:OwT base w (.slice (some ⟨g,0,none⟩) n c) l) {j:Nat}{u:Value}{l':List TriD}(hl:l'.length=l.length) (hf:l'.flatMap encT=(l.flatMap encT).set j u):OwT base (w.setCell ⟨g,j,none⟩ u) (.slice (some ⟨g,0,none⟩) n c) l':=by
  obtain⟨hcl,⟨h,_⟩ |⟨g',cap,cur,h,hg,hh,hnc,hm,hcs,htk⟩⟩:=id h
  · cases h
  injection h with q1 q2 q3
  injection q1 with q1
  injection q1 with q1
  subst q1
  unfold OwT World.ownsRow
  rw[hl,hf]
  refine⟨by simpa using hcl,.inr ⟨g,cap,_,by rw[q2,q3],hg,Blk.set_ (T:=58) hh j u,hnc,hm,by simpa using hcs,?_⟩⟩
  rw[Array.toList_setIfInBounds,List.take_set,htk]
theorem OwT.rd {base:Nat}{w:World}{l:List TriD}{g n c:Nat}(h:OwT base w (.slice (some ⟨g,0,none⟩) n c) l):RdTS w (some ⟨g,0,none⟩) n c l∧(∀ o,w.frozen? ⟨g,o,none⟩=false):=by
  obtain⟨g',c',e,h1,h2,h3,h4⟩:=h.lit (fun e=> by cases e)
  injection e with q1 q2 q3
  injection q1 with q1
  injection q1 with q1
  subst q1 q2 q3
  exact⟨h2,h4⟩
theorem sm_sz {q:Rat}(h:SmQ q):(toR q).mag.length≤1048576∧(toR q).den.length≤1048576:=by
  have h1:=h.mag
  have h2:=h.den
  omega
theorem RowP.rdN {N:List Nat→Prop}{lo hi:Nat}{w:World}{g n c:Nat}{l:List PtD}(h:RowP N lo hi w (.slice (some ⟨g,0,none⟩) n c) l) (hl:l.length≤1048576):RdPS w (some ⟨g,0,none⟩) n c l:=by
  obtain⟨A,d,e,hr⟩:=RowP.rd h hl
  injection e with q1 q2 q3
  subst q1 q2 q3
  exact hr
end

section
open Go.RowKit

theorem gpt_tp (x y:Nat) (hx:x≤8) (hy:y≤8):gpt x y=tp (qp1 x y):=by
  show (⟨ofFrac (x:Int) 1,ofFrac (y:Int) 1⟩:PtD)=⟨toR (mkRat (x:Int) 1),toR (mkRat (y:Int) 1)⟩
  rw[(ofFrac_sm (x:Int) 1 (by omega) (by omega) (by omega)).1,(ofFrac_sm (y:Int) 1 (by omega) (by omega) (by omega)).1]
instance (N:Nat) (q:Rat):Decidable (Bd N q):=by unfold Bd;infer_instance
def Sm2 (p:Rat × Rat):Prop:=Bd 17 p.1∧Bd 17 p.2
instance (p:Rat × Rat):Decidable (Sm2 p):=by unfold Sm2;infer_instance
end

end Go.Proofs.YtmkcacgmnnlddaaGreat
