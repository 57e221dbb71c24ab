/- Lemmas. -/
import Derived.Test.YtjaapemopbbfaaaGreatRows
import Derived.Test.YtjaapemopbbfaaaGreatPWorstShapeM19
import Derived.Test.YtjaapemopbbfaaaGreatPWorstShapeM20
import Derived.Test.YtjaapemopbbfaaaGreatPWorstShapeM35
import Derived.Deep.Cut
import Derived.Deep.DeepCutAuto
import Derived.Test.YtjaapemopbbfaaaGreatPWorstShapeM07
import Derived.IntWalk
import Derived.Test.YtjaapemopbbfaaaGreatPWorstShapeM26
namespace Go.Proofs.YtjaapemopbbfaaaGreat
section
open Go.RowKit

/-- Three values that read as a fraction. -/
def RdV (w:World) (v0 v1 v2:Value) (r:RatD):Prop:=∃ s A n c B m d,v0=.bool s∧v1=.slice A n c∧v2=.slice B m d∧RdR w s A n c B m d r
theorem RdV.bl {w W:World}{v0 v1 v2:Value}{r:RatD}(h:RdV w v0 v1 v2 r) (hb:Bl w W):RdV W v0 v1 v2 r:=by
  obtain⟨s,A,n,c,B,m,d,h0,h1,h2,h⟩:=h
  exact⟨s,A,n,c,B,m,d,h0,h1,h2,h.bl hb⟩
/-- Three values that read as a fraction, and of which F holds. -/
def RdW (F:Bool→Option Addr→Nat→Nat→Option Addr→Nat→Nat→RatD→Prop) (w:World) (v0 v1 v2:Value) (r:RatD):Prop:=∃ s A n c B m d,v0=.bool s∧v1=.slice A n c∧v2=.slice B m d∧RdR w s A n c B m d r∧F s A n c B m d r
theorem RdW.rd {F:Bool→Option Addr→Nat→Nat→Option Addr→Nat→Nat→RatD→Prop}{w:World}{v0 v1 v2:Value}{r:RatD}(h:RdW F w v0 v1 v2 r):RdV w v0 v1 v2 r:=by
  obtain⟨s,A,n,c,B,m,d,h0,h1,h2,h,_⟩:=h
  exact⟨s,A,n,c,B,m,d,h0,h1,h2,h⟩
/-- A point in six cells, and F holds of its two fractions. -/
def PtW (F:Bool→Option Addr→Nat→Nat→Option Addr→Nat→Nat→RatD→Prop) (w:World) (p:Addr) (x:PtD):Prop :=
  ∃ s A n c B m d t C i e D j f,(w.cell? p=some (.bool s)∧w.cell? ⟨p.block,p.off+1,none⟩=some (.slice A n c)∧w.cell? ⟨p.block,p.off+2,none⟩=some (.slice B m d)∧w.cell? ⟨p.block,p.off+3,none⟩=some (.bool t)∧w.cell? ⟨p.block,p.off+4,none⟩=some (.slice C i e)∧w.cell? ⟨p.block,p.off+5,none⟩=some (.slice D j f))∧(RdR w s A n c B m d x.x∧F s A n c B m d x.x)∧(RdR w t C i e D j f x.y∧F t C i e D j f x.y)
def BxSm (b:BxQ):Prop:=(Fit b.l∧Fit b.r)∧Fit b.lo∧Fit b.hi
theorem BxSm.step {b:BxQ}{p:Rat × Rat}(h:BxSm b) (hp:Fit p.1∧Fit p.2):BxSm (bx1 b p)∧BxSm (bx2' b p)∧BxSm (bx3' b p)∧BxSm (bx4' b p):=by
  obtain⟨⟨h1,h2⟩,h3,h4⟩:=h
  refine⟨⟨⟨?_,h2⟩,h3,h4⟩,⟨⟨h1,?_⟩,h3,h4⟩,⟨⟨h1,h2⟩,?_,h4⟩,⟨⟨h1,h2⟩,h3,?_⟩⟩
  · show Fit (if p.1 < b.l then p.1 else b.l)
    split
    · exact hp.1
    · exact h1
  · show Fit (if b.r < p.1 then p.1 else b.r)
    split
    · exact hp.1
    · exact h2
  · show Fit (if p.2 < b.lo then p.2 else b.lo)
    split
    · exact hp.2
    · exact h3
  · show Fit (if b.hi < p.2 then p.2 else b.hi)
    split
    · exact hp.2
    · exact h4
theorem BxSm.all {b:BxQ}{p:Rat × Rat}(h:BxSm b) (hp:Fit p.1∧Fit p.2):BxSm (bxS b p):=((((h.step hp).1.step hp).2.1.step hp).2.2.1.step hp).2.2.2
theorem bxTo_sm {l:List (Rat × Rat)}(hs:∀ k,k < l.length→FtP (pix l k)) (h0:0 < l.length):∀ k,k≤l.length→BxSm (bxTo l k)
  | 0,_ =>⟨⟨(hs 0 h0).1,(hs 0 h0).1⟩,(hs 0 h0).2,(hs 0 h0).2⟩
  | k+1,hk =>(bxTo_sm hs h0 k (by omega)).all (hs k (by omega))
theorem cmp_lt {p q:Rat}(hp:Fit p) (hq:Fit q):(OkR (toR p)∧OkR (toR q))∧cmpR (toR p) (toR q)=if p < q then -1 else if q < p then 1 else 0 :=
  ⟨⟨hp.ok,hq.ok⟩,cmpR_toR hp hq⟩
theorem bx12 {w:World}{g:Nat}{T:TypeId}{v0 v1 v2 v3 v4 v5 v6 v7 v8 v9 v10 v11:Value}(h:Blk w g T #[v0,v1,v2,v3,v4,v5,v6,v7,v8,v9,v10,v11]):w.cell? ⟨g,0,none⟩=some v0∧w.cell? ⟨g,1,none⟩=some v1∧w.cell? ⟨g,2,none⟩=some v2∧w.cell? ⟨g,3,none⟩=some v3∧w.cell? ⟨g,4,none⟩=some v4∧w.cell? ⟨g,5,none⟩=some v5∧w.cell? ⟨g,6,none⟩=some v6∧w.cell? ⟨g,7,none⟩=some v7∧w.cell? ⟨g,8,none⟩=some v8∧w.cell? ⟨g,9,none⟩=some v9∧w.cell? ⟨g,10,none⟩=some v10∧w.cell? ⟨g,11,none⟩=some v11:=⟨h.cell 0,h.cell 1,h.cell 2,h.cell 3,h.cell 4,h.cell 5,h.cell 6,h.cell 7,h.cell 8,h.cell 9,h.cell 10,h.cell 11⟩
def BxResW (F:Bool→Option Addr→Nat→Nat→Option Addr→Nat→Nat→RatD→Prop) (w:World) (b:BxQ) (e:Ending) (w':World):Prop:=∃ u0 u1 u2 u3 u4 u5 u6 u7 u8 u9 u10 u11,e=.returned (.agg #[u0,u1,u2,u3,u4,u5,u6,u7,u8,u9,u10,u11])∧(RdW F w' u0 u1 u2 (toR b.l)∧RdW F w' u3 u4 u5 (toR b.r)∧RdW F w' u6 u7 u8 (toR b.lo)∧RdW F w' u9 u10 u11 (toR b.hi))∧Bl w w'
def BxRes (w:World) (b:BxQ) (e:Ending) (w':World):Prop:=∃ u0 u1 u2 u3 u4 u5 u6 u7 u8 u9 u10 u11,e=.returned (.agg #[u0,u1,u2,u3,u4,u5,u6,u7,u8,u9,u10,u11])∧(RdV w' u0 u1 u2 (toR b.l)∧RdV w' u3 u4 u5 (toR b.r)∧RdV w' u6 u7 u8 (toR b.lo)∧RdV w' u9 u10 u11 (toR b.hi))∧Bl w w'

set_option maxRecDepth 100000 in
set_option maxHeartbeats 32000000 in
theorem l07BoxOf_w (F:Bool→Option Addr→Nat→Nat→Option Addr→Nat→Nat→RatD→Prop) (w:World) {A:Option Addr}{n c:Nat}{l:List (Rat × Rat)}(h:RdS 6 (PtW F) w A n c (l.map tp)) (h0:0 < n) (hs:∀ k,k < l.length→FtP (pix l k)) :
    Calls Tryz.prog 39 #[.slice A n c] w (BxResW F w (bxA l)):=by
  have hsm:=h.small
  have hln:=Lib.hid (show l.length=n by rw[← h.len,List.length_map])
  have hsH:=Lib.hid hs
  have hbs:=Lib.hid (bxTo_sm hs (by rw[hln.out];exact h0))
  obtain⟨ad,rfl,hlt0,hca⟩:=h.cells 0 h0
  rw[pix_map (by rw[hln.out];exact h0),show ad.add (0 * 6)=ad by simp[Addr.add]] at hca
  obtain⟨sq,Aq,nq,cq,Bq,mq,dq,tq,Cq,iq,eq,Dq,jq,fq,⟨y0,y1,y2,y3,y4,y5⟩,hX0,hY0⟩:=hca
  have h0i:(0:Int) < (n:Int):=by omega
  clear hs
  go_enter Tryz.func39,Tryz.ntmps39
  go_upto_region 1 with (fail)
  refine wp_gen (fun W=> Bl w W∧∃ g2,Wk 12 72 g2 W∧g2=w.heap.size) ⟨slc,_,by exact bts,rfl⟩ ?_
  rintro W ⟨hbW,g2,hr,hg2⟩
  rw[← hg2]
  have hg2w:w.heap.size≤g2:=by rw[hg2];exact Nat.le_refl _
  have hg2W:=hr.lt
  clear hg2
  have hltW:ad.block < W.heap.size:=Nat.lt_of_lt_of_le hlt0 hbW.size
  replace y0:=(Bl.cellOf hbW (by exact hlt0)).trans y0
  replace y1:=(Bl.cellOf hbW (by exact hlt0)).trans y1
  replace y2:=(Bl.cellOf hbW (by exact hlt0)).trans y2
  replace y3:=(Bl.cellOf hbW (by exact hlt0)).trans y3
  replace y4:=(Bl.cellOf hbW (by exact hlt0)).trans y4
  replace y5:=(Bl.cellOf hbW (by exact hlt0)).trans y5
  go_cut [3] (fun s3 wx=> ∃ g3 u0 u1 u2 u3 u4 u5 u6 u7 u8 u9 u10 u11,s3=.pointer (some ⟨g3,0,none⟩)∧Blk wx g3 72 #[u0,u1,u2,u3,u4,u5,u6,u7,u8,u9,u10,u11]∧(RdW F w u0 u1 u2 (toR (bxTo l 0).l)∧RdW F w u3 u4 u5 (toR (bxTo l 0).r)∧RdW F w u6 u7 u8 (toR (bxTo l 0).lo)∧RdW F w u9 u10 u11 (toR (bxTo l 0).hi))∧W.heap.size≤g3∧Bl W wx)
  case first =>
    go_region_held3 (fun w' =>(w'.cell? ad=some (.bool sq)∧w'.cell? ⟨ad.block,ad.off+1,none⟩=some (.slice Aq nq cq)∧w'.cell? ⟨ad.block,ad.off+2,none⟩=some (.slice Bq mq dq)∧w'.cell? ⟨ad.block,ad.off+3,none⟩=some (.bool tq)∧w'.cell? ⟨ad.block,ad.off+4,none⟩=some (.slice Cq iq eq)∧w'.cell? ⟨ad.block,ad.off+5,none⟩=some (.slice Dq jq fq))) (first | exact⟨(Bl.cellOf (w:=W) (p:=ad) slc (by exact hltW)).trans y0,(Bl.cellOf (w:=W) (p:=⟨ad.block,ad.off+1,none⟩) slc (by exact hltW)).trans y1,(Bl.cellOf (w:=W) (p:=⟨ad.block,ad.off+2,none⟩) slc (by exact hltW)).trans y2,(Bl.cellOf (w:=W) (p:=⟨ad.block,ad.off+3,none⟩) slc (by exact hltW)).trans y3,(Bl.cellOf (w:=W) (p:=⟨ad.block,ad.off+4,none⟩) slc (by exact hltW)).trans y4,(Bl.cellOf (w:=W) (p:=⟨ad.block,ad.off+5,none⟩) slc (by exact hltW)).trans y5⟩) (fail)
    all_goals (go_wp2_with fail)
    all_goals go_meet
    exact⟨W.heap.size,_,_,_,_,_,_,_,_,_,_,_,_,rfl,by exact bts,⟨⟨_,_,_,_,_,_,_,rfl,rfl,rfl,hX0⟩,⟨_,_,_,_,_,_,_,rfl,rfl,rfl,hX0⟩,⟨_,_,_,_,_,_,_,rfl,rfl,rfl,hY0⟩,⟨_,_,_,_,_,_,_,rfl,rfl,rfl,hY0⟩⟩,Nat.le_refl _,slc⟩
  case rest =>
    clear y0 y1 y2 y3 y4 y5 hX0 hY0
    obtain⟨g3,u0,u1,u2,u3,u4,u5,u6,u7,u8,u9,u10,u11,rfl,h3,hbv,hg3,hbw⟩:=hcut
    obtain⟨W1,rfl⟩:∃ W1:World,W1=wc:=⟨_,rfl⟩
    go_wp2_with fail
    go_loopw [25] (fun si wr=> ∃ (k:Nat) (u0 u1 u2 u3 u4 u5 u6 u7 u8 u9 u10 u11:Value),k≤n∧si=.int .i64 (k:Int)∧Blk wr g3 72 #[u0,u1,u2,u3,u4,u5,u6,u7,u8,u9,u10,u11]∧(RdW F w u0 u1 u2 (toR (bxTo l k).l)∧RdW F w u3 u4 u5 (toR (bxTo l k).r)∧RdW F w u6 u7 u8 (toR (bxTo l k).lo)∧RdW F w u9 u10 u11 (toR (bxTo l k).hi))∧Bl W wr) (fun si _=> n - (intOf si).toNat)
    case atStart=> exact⟨0,_,_,_,_,_,_,_,_,_,_,_,_,by omega,rfl,h3,hbv,hbw⟩
    case round =>
      clear h3 hbv hbw
      obtain⟨k,u0,u1,u2,u3,u4,u5,u6,u7,u8,u9,u10,u11,hk,rfl,h3,⟨hl_,hr_,hlo_,hhi_⟩,hbw⟩:=hrel
      by_cases hkn:k < n
      · have hki:(k:Int) < (n:Int):=by omega
        obtain⟨_,e1,_,hca⟩:=h.cells k hkn
        cases e1
        rw[pix_map (by rw[hln.out];exact hkn)] at hca
        obtain⟨sq,Aq,nq,cq,Bq,mq,dq,tq,Cq,iq,eq,Dq,jq,fq,⟨y0,y1,y2,y3,y4,y5⟩,hX,hY⟩:=hca
        have hltk:(ad.add (k * 6)).block < w.heap.size:=by rw[block_add];exact hlt0
        replace y0:=(Bl.cellOf (hbW.next hbw) (by exact hltk)).trans y0
        replace y1:=(Bl.cellOf (hbW.next hbw) (by exact hltk)).trans y1
        replace y2:=(Bl.cellOf (hbW.next hbw) (by exact hltk)).trans y2
        replace y3:=(Bl.cellOf (hbW.next hbw) (by exact hltk)).trans y3
        replace y4:=(Bl.cellOf (hbW.next hbw) (by exact hltk)).trans y4
        replace y5:=(Bl.cellOf (hbW.next hbw) (by exact hltk)).trans y5
        have hsp:=hsH.out k (by rw[hln.out];exact hkn)
        have hsb:=hbs.out k (by rw[hln.out];exact hk)
        have hg3l:=h3.lt
        go_upto_region 5 with (fail)
        refine wp_gen (fun X=> Bl wr X∧∃ g5,Blk X g5 76 #[.bool sq,.slice Aq nq cq,.slice Bq mq dq,.bool tq,.slice Cq iq eq,.slice Dq jq fq]∧g5=wr.heap.size) ⟨slc,_,by exact bts,rfl⟩ ?_
        rintro X ⟨hbX,g5,h5,hg5⟩
        rw[← hg5]
        have hg53:g5≠g3:=by omega
        have h3:=h3.bl hbX
        have hbw:=hbw.next hbX
        replace hX:RdR w sq Aq nq cq Bq mq dq (toR (pix l k).1)∧F sq Aq nq cq Bq mq dq (toR (pix l k).1):=hX
        replace hY:RdR w tq Cq iq eq Dq jq fq (toR (pix l k).2)∧F tq Cq iq eq Dq jq fq (toR (pix l k).2):=hY
        clear y0 y1 y2 y3 y4 y5 hg5 hbX hg3l
        obtain⟨B0,hB0⟩:∃ B0,bxTo l k=B0:=⟨_,rfl⟩
        obtain⟨p,hp⟩:∃ p,pix l k=p:=⟨_,rfl⟩
        have hfin:=Lib.hid (show (bx4' (bx3' (bx2' (bx1 B0 p) p) p) p)=bxTo l (k+1) by subst hB0 hp;rfl)
        rw[hp] at hsp hX hY
        rw[hB0] at hsb hl_ hr_ hlo_ hhi_
        clear hB0 hp
        obtain⟨sb,Ab,nb,cb,Bb,mb,db,e0,e1,e2,hRb⟩:=hl_
        subst e0 e1 e2
        have hco:=cmp_lt (p:=p.1) (q:=B0.l) hsp.1 hsb.1.1
        obtain⟨z,hz⟩:∃ z,cmpR (toR p.1) (toR B0.l)=z:=⟨_,rfl⟩
        have hzc:=Lib.hid (show z < 0↔p.1 < B0.l by rw[← hz,hco.2];split <;> (try split) <;> grind)
        have hz:=Lib.hid hz;rename_i h_;clear h_
        obtain⟨x0,x1,x2,x3,x4,x5⟩:=bx6 h5
        obtain⟨z0,z1,z2,z3,z4,z5,z6,z7,z8,z9,z10,z11⟩:=bx12 h3
        go_wp2_with fail
        refine(sRatCmp_yes _ (hX.1.bl (hbW.next hbw)) (hRb.1.bl (hbW.next hbw)) hco.1).mono ?_
        rw[hz.out]
        rintro e w6 ⟨rfl,hb6⟩
        have h3:=h3.bl hb6
        have h5:=h5.bl hb6
        have hbw:=hbw.next hb6
        clear x0 x1 x2 x3 x4 x5 z0 z1 z2 z3 z4 z5 z6 z7 z8 z9 z10 z11 hb6 hco
        go_upto_if 34 with (fail)
        go_cut [] (fun wx=> ∃ (u0 u1 u2 u3 u4 u5 u6 u7 u8 u9 u10 u11:Value),Blk wx g3 72 #[u0,u1,u2,u3,u4,u5,u6,u7,u8,u9,u10,u11]∧(RdW F w u0 u1 u2 (toR (bx1 B0 p).l)∧RdW F w u3 u4 u5 (toR (bx1 B0 p).r)∧RdW F w u6 u7 u8 (toR (bx1 B0 p).lo)∧RdW F w u9 u10 u11 (toR (bx1 B0 p).hi))∧Blk wx g5 76 #[.bool sq,.slice Aq nq cq,.slice Bq mq dq,.bool tq,.slice Cq iq eq,.slice Dq jq fq]∧Bl W wx)
        case first =>
          obtain⟨x0,x1,x2,x3,x4,x5⟩:=bx6 h5
          have zf0:=h3.frozen 0
          have zf1:=h3.frozen 1
          have zf2:=h3.frozen 2
          obtain⟨z0,z1,z2,z3,z4,z5,z6,z7,z8,z9,z10,z11⟩:=bx12 h3
          by_cases hlt:z < 0
          · skip
            go_wp2_with fail
            go_meet
            exact⟨_,_,_,_,_,_,_,_,_,_,_,_,by simpa using Blk.set_ (Blk.set_ (Blk.set_ h3 0 (.bool sq)) 1 (.slice Aq nq cq)) 2 (.slice Bq mq dq),⟨(by rw[show (bx1 B0 p).l=p.1 from if_pos (hzc.out.1 (show z < 0 by omega))];exact⟨_,_,_,_,_,_,_,rfl,rfl,rfl,hX⟩),hr_,hlo_,hhi_⟩,Blk.far (p:=⟨g3,2,none⟩) (Blk.far (p:=⟨g3,1,none⟩) (Blk.far (p:=⟨g3,0,none⟩) h5 (show g5≠g3 by omega) _) (show g5≠g3 by omega) _) (show g5≠g3 by omega) _,Bl.set (Bl.set (Bl.set hbw (by exact hg3) _) (by exact hg3) _) (by exact hg3) _⟩
          · skip
            go_wp2_with fail
            go_meet
            exact⟨_,_,_,_,_,_,_,_,_,_,_,_,h3,⟨(by rw[show (bx1 B0 p).l=B0.l from if_neg (fun h=> absurd (hzc.out.2 h) (show ¬ z < 0 by omega))];exact⟨_,_,_,_,_,_,_,rfl,rfl,rfl,hRb⟩),hr_,hlo_,hhi_⟩,h5,hbw⟩
        case rest =>
          clear h3 h5 hbw hRb hr_ hlo_ hhi_ hz hzc
          obtain⟨u0,u1,u2,u3,u4,u5,u6,u7,u8,u9,u10,u11,h3,⟨hl_,hr_,hlo_,hhi_⟩,h5,hbw⟩:=hcut
          obtain⟨Y0,rfl⟩:∃ Y:World,Y=wc:=⟨_,rfl⟩
          have hsb:=(hsb.step hsp).1
          obtain⟨sb,Ab,nb,cb,Bb,mb,db,e0,e1,e2,hRb⟩:=hr_
          subst e0 e1 e2
          have hco:=cmp_lt (p:=p.1) (q:=(bx1 B0 p).r) hsp.1 hsb.1.2
          obtain⟨z,hz⟩:∃ z,cmpR (toR p.1) (toR (bx1 B0 p).r)=z:=⟨_,rfl⟩
          have hzc:=Lib.hid (show 0 < z↔(bx1 B0 p).r < p.1 by rw[← hz,hco.2];split <;> (try split) <;> grind)
          have hz:=Lib.hid hz;rename_i h_;clear h_
          obtain⟨x0,x1,x2,x3,x4,x5⟩:=bx6 h5
          obtain⟨z0,z1,z2,z3,z4,z5,z6,z7,z8,z9,z10,z11⟩:=bx12 h3
          go_wp2_with fail
          refine(sRatCmp_yes _ (hX.1.bl (hbW.next hbw)) (hRb.1.bl (hbW.next hbw)) hco.1).mono ?_
          rw[hz.out]
          rintro e w6 ⟨rfl,hb6⟩
          have h3:=h3.bl hb6
          have h5:=h5.bl hb6
          have hbw:=hbw.next hb6
          clear x0 x1 x2 x3 x4 x5 z0 z1 z2 z3 z4 z5 z6 z7 z8 z9 z10 z11 hb6 hco
          go_upto_if 43 with (fail)
          go_cut [] (fun wx=> ∃ (u0 u1 u2 u3 u4 u5 u6 u7 u8 u9 u10 u11:Value),Blk wx g3 72 #[u0,u1,u2,u3,u4,u5,u6,u7,u8,u9,u10,u11]∧(RdW F w u0 u1 u2 (toR (bx2' (bx1 B0 p) p).l)∧RdW F w u3 u4 u5 (toR (bx2' (bx1 B0 p) p).r)∧RdW F w u6 u7 u8 (toR (bx2' (bx1 B0 p) p).lo)∧RdW F w u9 u10 u11 (toR (bx2' (bx1 B0 p) p).hi))∧Blk wx g5 76 #[.bool sq,.slice Aq nq cq,.slice Bq mq dq,.bool tq,.slice Cq iq eq,.slice Dq jq fq]∧Bl W wx)
          case first =>
            obtain⟨x0,x1,x2,x3,x4,x5⟩:=bx6 h5
            have zf0:=h3.frozen 3
            have zf1:=h3.frozen 4
            have zf2:=h3.frozen 5
            obtain⟨z0,z1,z2,z3,z4,z5,z6,z7,z8,z9,z10,z11⟩:=bx12 h3
            by_cases hlt:0 < z
            · skip
              go_wp2_with fail
              go_meet
              exact⟨_,_,_,_,_,_,_,_,_,_,_,_,by simpa using Blk.set_ (Blk.set_ (Blk.set_ h3 3 (.bool sq)) 4 (.slice Aq nq cq)) 5 (.slice Bq mq dq),⟨hl_,(by rw[show (bx2' (bx1 B0 p) p).r=p.1 from if_pos (hzc.out.1 (show 0 < z by omega))];exact⟨_,_,_,_,_,_,_,rfl,rfl,rfl,hX⟩),hlo_,hhi_⟩,Blk.far (p:=⟨g3,5,none⟩) (Blk.far (p:=⟨g3,4,none⟩) (Blk.far (p:=⟨g3,3,none⟩) h5 (show g5≠g3 by omega) _) (show g5≠g3 by omega) _) (show g5≠g3 by omega) _,Bl.set (Bl.set (Bl.set hbw (by exact hg3) _) (by exact hg3) _) (by exact hg3) _⟩
            · skip
              go_wp2_with fail
              go_meet
              exact⟨_,_,_,_,_,_,_,_,_,_,_,_,h3,⟨hl_,(by rw[show (bx2' (bx1 B0 p) p).r=(bx1 B0 p).r from if_neg (fun h=> absurd (hzc.out.2 h) (show ¬ 0 < z by omega))];exact⟨_,_,_,_,_,_,_,rfl,rfl,rfl,hRb⟩),hlo_,hhi_⟩,h5,hbw⟩
          case rest =>
            clear h3 h5 hbw hRb hl_ hlo_ hhi_ hz hzc
            obtain⟨u0,u1,u2,u3,u4,u5,u6,u7,u8,u9,u10,u11,h3,⟨hl_,hr_,hlo_,hhi_⟩,h5,hbw⟩:=hcut
            obtain⟨Y1,rfl⟩:∃ Y:World,Y=wc:=⟨_,rfl⟩
            have hsb:=(hsb.step hsp).2.1
            obtain⟨sb,Ab,nb,cb,Bb,mb,db,e0,e1,e2,hRb⟩:=hlo_
            subst e0 e1 e2
            have hco:=cmp_lt (p:=p.2) (q:=(bx2' (bx1 B0 p) p).lo) hsp.2 hsb.2.1
            obtain⟨z,hz⟩:∃ z,cmpR (toR p.2) (toR (bx2' (bx1 B0 p) p).lo)=z:=⟨_,rfl⟩
            have hzc:=Lib.hid (show z < 0↔p.2 < (bx2' (bx1 B0 p) p).lo by rw[← hz,hco.2];split <;> (try split) <;> grind)
            have hz:=Lib.hid hz;rename_i h_;clear h_
            obtain⟨x0,x1,x2,x3,x4,x5⟩:=bx6 h5
            obtain⟨z0,z1,z2,z3,z4,z5,z6,z7,z8,z9,z10,z11⟩:=bx12 h3
            go_wp2_with fail
            refine(sRatCmp_yes _ (hY.1.bl (hbW.next hbw)) (hRb.1.bl (hbW.next hbw)) hco.1).mono ?_
            rw[hz.out]
            rintro e w6 ⟨rfl,hb6⟩
            have h3:=h3.bl hb6
            have h5:=h5.bl hb6
            have hbw:=hbw.next hb6
            clear x0 x1 x2 x3 x4 x5 z0 z1 z2 z3 z4 z5 z6 z7 z8 z9 z10 z11 hb6 hco
            go_upto_if 52 with (fail)
            go_cut [] (fun wx=> ∃ (u0 u1 u2 u3 u4 u5 u6 u7 u8 u9 u10 u11:Value),Blk wx g3 72 #[u0,u1,u2,u3,u4,u5,u6,u7,u8,u9,u10,u11]∧(RdW F w u0 u1 u2 (toR (bx3' (bx2' (bx1 B0 p) p) p).l)∧RdW F w u3 u4 u5 (toR (bx3' (bx2' (bx1 B0 p) p) p).r)∧RdW F w u6 u7 u8 (toR (bx3' (bx2' (bx1 B0 p) p) p).lo)∧RdW F w u9 u10 u11 (toR (bx3' (bx2' (bx1 B0 p) p) p).hi))∧Blk wx g5 76 #[.bool sq,.slice Aq nq cq,.slice Bq mq dq,.bool tq,.slice Cq iq eq,.slice Dq jq fq]∧Bl W wx)
            case first =>
              obtain⟨x0,x1,x2,x3,x4,x5⟩:=bx6 h5
              have zf0:=h3.frozen 6
              have zf1:=h3.frozen 7
              have zf2:=h3.frozen 8
              obtain⟨z0,z1,z2,z3,z4,z5,z6,z7,z8,z9,z10,z11⟩:=bx12 h3
              by_cases hlt:z < 0
              · skip
                go_wp2_with fail
                go_meet
                exact⟨_,_,_,_,_,_,_,_,_,_,_,_,by simpa using Blk.set_ (Blk.set_ (Blk.set_ h3 6 (.bool tq)) 7 (.slice Cq iq eq)) 8 (.slice Dq jq fq),⟨hl_,hr_,(by rw[show (bx3' (bx2' (bx1 B0 p) p) p).lo=p.2 from if_pos (hzc.out.1 (show z < 0 by omega))];exact⟨_,_,_,_,_,_,_,rfl,rfl,rfl,hY⟩),hhi_⟩,Blk.far (p:=⟨g3,8,none⟩) (Blk.far (p:=⟨g3,7,none⟩) (Blk.far (p:=⟨g3,6,none⟩) h5 (show g5≠g3 by omega) _) (show g5≠g3 by omega) _) (show g5≠g3 by omega) _,Bl.set (Bl.set (Bl.set hbw (by exact hg3) _) (by exact hg3) _) (by exact hg3) _⟩
              · skip
                go_wp2_with fail
                go_meet
                exact⟨_,_,_,_,_,_,_,_,_,_,_,_,h3,⟨hl_,hr_,(by rw[show (bx3' (bx2' (bx1 B0 p) p) p).lo=(bx2' (bx1 B0 p) p).lo from if_neg (fun h=> absurd (hzc.out.2 h) (show ¬ z < 0 by omega))];exact⟨_,_,_,_,_,_,_,rfl,rfl,rfl,hRb⟩),hhi_⟩,h5,hbw⟩
            case rest =>
              clear h3 h5 hbw hRb hl_ hr_ hhi_ hz hzc
              obtain⟨u0,u1,u2,u3,u4,u5,u6,u7,u8,u9,u10,u11,h3,⟨hl_,hr_,hlo_,hhi_⟩,h5,hbw⟩:=hcut
              obtain⟨Y2,rfl⟩:∃ Y:World,Y=wc:=⟨_,rfl⟩
              have hsb:=(hsb.step hsp).2.2.1
              obtain⟨sb,Ab,nb,cb,Bb,mb,db,e0,e1,e2,hRb⟩:=hhi_
              subst e0 e1 e2
              have hco:=cmp_lt (p:=p.2) (q:=(bx3' (bx2' (bx1 B0 p) p) p).hi) hsp.2 hsb.2.2
              obtain⟨z,hz⟩:∃ z,cmpR (toR p.2) (toR (bx3' (bx2' (bx1 B0 p) p) p).hi)=z:=⟨_,rfl⟩
              have hzc:=Lib.hid (show 0 < z↔(bx3' (bx2' (bx1 B0 p) p) p).hi < p.2 by rw[← hz,hco.2];split <;> (try split) <;> grind)
              have hz:=Lib.hid hz;rename_i h_;clear h_
              obtain⟨x0,x1,x2,x3,x4,x5⟩:=bx6 h5
              obtain⟨z0,z1,z2,z3,z4,z5,z6,z7,z8,z9,z10,z11⟩:=bx12 h3
              go_wp2_with fail
              refine(sRatCmp_yes _ (hY.1.bl (hbW.next hbw)) (hRb.1.bl (hbW.next hbw)) hco.1).mono ?_
              rw[hz.out]
              rintro e w6 ⟨rfl,hb6⟩
              have h3:=h3.bl hb6
              have h5:=h5.bl hb6
              have hbw:=hbw.next hb6
              clear x0 x1 x2 x3 x4 x5 z0 z1 z2 z3 z4 z5 z6 z7 z8 z9 z10 z11 hb6 hco
              obtain⟨x0,x1,x2,x3,x4,x5⟩:=bx6 h5
              have zf0:=h3.frozen 9
              have zf1:=h3.frozen 10
              have zf2:=h3.frozen 11
              obtain⟨z0,z1,z2,z3,z4,z5,z6,z7,z8,z9,z10,z11⟩:=bx12 h3
              by_cases hlt:0 < z
              · go_wp2_with fail
                go_roundw
                case rel=> exact⟨k+1,_,_,_,_,_,_,_,_,_,_,_,_,by omega,by go_num,by simpa using Blk.set_ (Blk.set_ (Blk.set_ h3 9 (.bool tq)) 10 (.slice Cq iq eq)) 11 (.slice Dq jq fq),by rw[← hfin.out];exact⟨hl_,hr_,hlo_,(by rw[show (bx4' (bx3' (bx2' (bx1 B0 p) p) p) p).hi=p.2 from if_pos (hzc.out.1 (show 0 < z by omega))];exact⟨_,_,_,_,_,_,_,rfl,rfl,rfl,hY⟩)⟩,Bl.set (Bl.set (Bl.set hbw (by exact hg3) _) (by exact hg3) _) (by exact hg3) _⟩
                case measure=> simp[intOf];omega
              · go_wp2_with fail
                go_roundw
                case rel=> exact⟨k+1,_,_,_,_,_,_,_,_,_,_,_,_,by omega,by go_num,h3,by rw[← hfin.out];exact⟨hl_,hr_,hlo_,(by rw[show (bx4' (bx3' (bx2' (bx1 B0 p) p) p) p).hi=(bx3' (bx2' (bx1 B0 p) p) p).hi from if_neg (fun h=> absurd (hzc.out.2 h) (show ¬ 0 < z by omega))];exact⟨_,_,_,_,_,_,_,rfl,rfl,rfl,hRb⟩)⟩,hbw⟩
                case measure=> simp[intOf];omega
      · obtain rfl:n=k:=by omega
        have hkm:¬ (n:Int) < (n:Int):=by omega
        have hr:=hr.bl hbw
        obtain⟨sb0,Ab0,nb0,cb0,Bb0,mb0,db0,e0,e1,e2,hRb0⟩:=hl_
        subst e0 e1 e2
        obtain⟨sb1,Ab1,nb1,cb1,Bb1,mb1,db1,e0,e1,e2,hRb1⟩:=hr_
        subst e0 e1 e2
        obtain⟨sb2,Ab2,nb2,cb2,Bb2,mb2,db2,e0,e1,e2,hRb2⟩:=hlo_
        subst e0 e1 e2
        obtain⟨sb3,Ab3,nb3,cb3,Bb3,mb3,db3,e0,e1,e2,hRb3⟩:=hhi_
        subst e0 e1 e2
        have hbA:bxTo l n=bxA l:=by unfold bxA;rw[hln.out]
        rw[hbA] at hRb0 hRb1 hRb2 hRb3
        clear hbA
        obtain⟨v0,x0⟩:=hr.val_ (i:=0) (by omega)
        obtain⟨v1,x1⟩:=hr.val_ (i:=1) (by omega)
        obtain⟨v2,x2⟩:=hr.val_ (i:=2) (by omega)
        obtain⟨v3,x3⟩:=hr.val_ (i:=3) (by omega)
        obtain⟨v4,x4⟩:=hr.val_ (i:=4) (by omega)
        obtain⟨v5,x5⟩:=hr.val_ (i:=5) (by omega)
        obtain⟨v6,x6⟩:=hr.val_ (i:=6) (by omega)
        obtain⟨v7,x7⟩:=hr.val_ (i:=7) (by omega)
        obtain⟨v8,x8⟩:=hr.val_ (i:=8) (by omega)
        obtain⟨v9,x9⟩:=hr.val_ (i:=9) (by omega)
        obtain⟨v10,x10⟩:=hr.val_ (i:=10) (by omega)
        obtain⟨v11,x11⟩:=hr.val_ (i:=11) (by omega)
        have hgr:=hr.lt
        obtain⟨cs4,hB4,hc4⟩:=hr
        have hf0:=hB4.frozen 0
        have hf1:=hB4.frozen 1
        have hf2:=hB4.frozen 2
        have hf3:=hB4.frozen 3
        have hf4:=hB4.frozen 4
        have hf5:=hB4.frozen 5
        have hf6:=hB4.frozen 6
        have hf7:=hB4.frozen 7
        have hf8:=hB4.frozen 8
        have hf9:=hB4.frozen 9
        have hf10:=hB4.frozen 10
        have hf11:=hB4.frozen 11
        obtain⟨z0,z1,z2,z3,z4,z5,z6,z7,z8,z9,z10,z11⟩:=bx12 h3
        go_wp2_with fail
        have hbz:=hbW.next hbw
        have hbf:=Bl.set (Bl.set (Bl.set (Bl.set (Bl.set (Bl.set (Bl.set (Bl.set (Bl.set (Bl.set (Bl.set (Bl.set (hbz) (p:=⟨g2,0,none⟩) (by exact hg2w) (.bool sb0)) (p:=⟨g2,1,none⟩) (by exact hg2w) (.slice Ab0 nb0 cb0)) (p:=⟨g2,2,none⟩) (by exact hg2w) (.slice Bb0 mb0 db0)) (p:=⟨g2,3,none⟩) (by exact hg2w) (.bool sb1)) (p:=⟨g2,4,none⟩) (by exact hg2w) (.slice Ab1 nb1 cb1)) (p:=⟨g2,5,none⟩) (by exact hg2w) (.slice Bb1 mb1 db1)) (p:=⟨g2,6,none⟩) (by exact hg2w) (.bool sb2)) (p:=⟨g2,7,none⟩) (by exact hg2w) (.slice Ab2 nb2 cb2)) (p:=⟨g2,8,none⟩) (by exact hg2w) (.slice Bb2 mb2 db2)) (p:=⟨g2,9,none⟩) (by exact hg2w) (.bool sb3)) (p:=⟨g2,10,none⟩) (by exact hg2w) (.slice Ab3 nb3 cb3)) (p:=⟨g2,11,none⟩) (by exact hg2w) (.slice Bb3 mb3 db3)
        exact bodyPost_ret (v:=.agg #[.bool sb0,.slice Ab0 nb0 cb0,.slice Bb0 mb0 db0,.bool sb1,.slice Ab1 nb1 cb1,.slice Bb1 mb1 db1,.bool sb2,.slice Ab2 nb2 cb2,.slice Bb2 mb2 db2,.bool sb3,.slice Ab3 nb3 cb3,.slice Bb3 mb3 db3]) (by simp[results,Tryz.results39,go_sem,x0,x1,x2,x3,x4,x5,x6,x7,x8,x9,x10,x11]) rfl ⟨_,_,_,_,_,_,_,_,_,_,_,_,rfl,⟨⟨_,_,_,_,_,_,_,rfl,rfl,rfl,hRb0.1.bl hbf,hRb0.2⟩,⟨_,_,_,_,_,_,_,rfl,rfl,rfl,hRb1.1.bl hbf,hRb1.2⟩,⟨_,_,_,_,_,_,_,rfl,rfl,rfl,hRb2.1.bl hbf,hRb2.2⟩,⟨_,_,_,_,_,_,_,rfl,rfl,rfl,hRb3.1.bl hbf,hRb3.2⟩⟩,hbf⟩

theorem l07BoxOf_yes (w:World) {A:Option Addr}{n c:Nat}{l:List (Rat × Rat)}(h:RdPS w A n c (l.map tp)) (h0:0 < n) (hs:∀ k,k < l.length→FtP (pix l k)) :
    Calls Tryz.prog 39 #[.slice A n c] w (BxRes w (bxA l)):=by
  refine(l07BoxOf_w (fun _ _ _ _ _ _ _ _=> True) w (l:=l) ⟨h.len,h.cap,h.small,fun k hk=> ?_⟩ h0 hs).mono ?_
  · obtain⟨ad,e,hlt,hc⟩:=h.cells k hk
    obtain⟨s,A,n,c,B,m,d,t,C,i,e',D,j,f,h0,hX,hY⟩:=hc
    exact⟨ad,e,hlt,s,A,n,c,B,m,d,t,C,i,e',D,j,f,h0,⟨hX,trivial⟩,⟨hY,trivial⟩⟩
  · rintro e w' ⟨u0,u1,u2,u3,u4,u5,u6,u7,u8,u9,u10,u11,rfl,⟨h0,h1,h2,h3⟩,hb⟩
    exact⟨_,_,_,_,_,_,_,_,_,_,_,_,rfl,⟨h0.rd,h1.rd,h2.rd,h3.rd⟩,hb⟩
end

section
open Go.RowKit

def shS (s d:Nat):Nat:=s / Nat.gcd s d * d
/-- The common denominator of the first k points. -/
def shTo (pts:List (Rat × Rat)):Nat→Nat
  | 0=> 1
  | k+1=> shS (shS (shTo pts k) (pix pts k).1.den) (pix pts k).2.den
def plX (pts:List (Rat × Rat)) (S k:Nat):Int:=(pix pts k).1.num * ((S / (pix pts k).1.den:Nat):Int)
def plY (pts:List (Rat × Rat)) (S k:Nat):Int:=(pix pts k).2.num * ((S / (pix pts k).2.den:Nat):Int)
def plXs (pts:List (Rat × Rat)) (k:Nat):List Int:=(List.range k).map (plX pts (shTo pts pts.length))
def plYs (pts:List (Rat × Rat)) (k:Nat):List Int:=(List.range k).map (plY pts (shTo pts pts.length))
theorem plXs_succ (pts:List (Rat × Rat)) (k:Nat):plXs pts (k+1)=plXs pts k ++ [plX pts (shTo pts pts.length) k]:=by unfold plXs;rw[List.range_succ,List.map_append];rfl
theorem plYs_succ (pts:List (Rat × Rat)) (k:Nat):plYs pts (k+1)=plYs pts k ++ [plY pts (shTo pts pts.length) k]:=by unfold plYs;rw[List.range_succ,List.map_append];rfl
theorem plXs_len (pts:List (Rat × Rat)) (k:Nat):(plXs pts k).length=k:=by simp[plXs]
theorem plYs_len (pts:List (Rat × Rat)) (k:Nat):(plYs pts k).length=k:=by simp[plYs]
theorem ix_plXs (pts:List (Rat × Rat)) {k i:Nat}(h:i < k):ix (plXs pts k) i=plX pts (shTo pts pts.length) i:=by simp[ix,plXs,h]
theorem ix_plYs (pts:List (Rat × Rat)) {k i:Nat}(h:i < k):ix (plYs pts k) i=plY pts (shTo pts pts.length) i:=by simp[ix,plYs,h]
/-- Points that can be placed by small integers. -/
def PlOk (pts:List (Rat × Rat)):Prop :=
  (∀ k,k < pts.length→SmQ (pix pts k).1∧SmQ (pix pts k).2)∧(∀ k,k < pts.length→shS (shTo pts k) (pix pts k).1.den≤268435456∧shTo pts (k+1)≤268435456)∧PlB pts.length (plXs pts pts.length) (plYs pts pts.length)
instance (n:Nat) (xs ys:List Int):Decidable (PlB n xs ys):=by unfold PlB;infer_instance
instance (pts:List (Rat × Rat)):Decidable (PlOk pts):=by unfold PlOk;infer_instance
theorem RdI.setLit {w:World}{g n c:Nat}{l:List Int}(h:RdI w (some ⟨g,0,none⟩) n c l) {p:Addr}(hp:g≠p.block) (u:Value):RdI (w.setCell p u) (some ⟨g,0,none⟩) n c l:=by
  refine⟨h.len,h.cap,h.small,fun k hk=> ?_⟩
  obtain⟨ad,e,hlt,hc⟩:=h.cells k hk
  refine⟨ad,e,by simpa using hlt,?_⟩
  cases e
  rw[Addr.add_lit] at hc ⊢
  have hne:p≠(⟨g,0+k,none⟩:Addr):=fun e=> hp (by rw[e])
  rw[World.cell?_setCell_other (h:=hne)]
  exact hc
theorem OwL.keepX {E:TypeId}{base:Nat}{w W:World}{v:Value}{l:List Int}(h:OwL E base w v l) (h1:∀ g,v.ownBlock=Option.some g→W.heap[g]?=w.heap[g]?):OwL E base W v l:=by
  refine⟨h.1,?_⟩
  rcases h.2 with h2 |⟨g,cap,cur,hv,hg,hh,r⟩
  · exact .inl h2
  · exact .inr ⟨g,cap,cur,hv,hg,(h1 g (by rw[hv];rfl)).trans hh,r⟩
theorem OwL.lit {E:TypeId}{base:Nat}{w:World}{v:Value}{l:List Int}(h:OwL E base w v l) (h0:0 < l.length) (hl:l.length≤9223372036854775807):∃ g c,v=.slice (some ⟨g,0,none⟩) l.length c∧RdI w (some ⟨g,0,none⟩) l.length c l:=by
  rcases h.2 with ⟨rfl,h1⟩ |⟨g,cap,cur,rfl,hg,hh,hn,hm,hs,ht⟩
  · omega
  · obtain⟨A,c,e,ho⟩:=h.own hl
    injection e with e1 e2 e3
    subst e1 e3
    exact⟨g,cap,rfl,ho.rd⟩
theorem OwL.blk {E:TypeId}{base:Nat}{w:World}{v:Value}{l:List Int}(h:OwL E base w v l) {g:Nat}(hg:v.ownBlock=Option.some g):base≤g∧g < w.heap.size:=World.ownsRow.lt h g hg
theorem wpList_append_intX {P:Program}{E t:TypeId}(hinfo:(P.info? E).map (fun i =>(i.zero,i.size,i.bytes))=some (some (.int .i64 0),1,8)) (ht:P.underlying t=some (.slice E))
    {w0 W:World}{x0:Int}{ops:Array Oper}{rest:List Oper}{o:Oper}{a:Act}{Q:Exit→Act→World→Prop}(hgd:o.guard=none) (s x:Operand)
    (ho:o.op=.call { callee:=.builtin .append,args:=#[s,x],argTypes:=#[t,t] }) (v:Value) (l:List Int) (hs:a.eval s=v) (hown:OwL E w0.heap.size W v l) (hb:Bl w0 W)
    (c:Nat) (hx:a.eval x=.slice (some ⟨W.heap.size,0,none⟩) 1 c) (hlen:l.length≤1099511627776)
    (h:∀ v' w',OwL E w0.heap.size w' v' (l ++ [x0])→Bl w0 w'→(∀ g,g < W.heap.size→v.ownBlock≠Option.some g→w'.heap[g]?=W.heap[g]?∧v'.ownBlock≠Option.some g)→wpList P ops Q rest (a.put o.dst v') w'):wpList P ops Q (o :: rest) a (W.alloc (.cells #[.int .i64 x0] E)):=by
  obtain⟨i0,hi,hz0,hz1,hz2⟩:=info_parts hinfo
  have ho':=hown.alloc (.cells #[.int .i64 x0] E)
  have hbs:w0.heap.size≤(W.alloc (.cells #[.int .i64 x0] E)).heap.size:=by have:=hb.size;simp;omega
  have hsz2:(W.alloc (.cells #[.int .i64 x0] E)).heap.size=W.heap.size+1:=by simp
  refine wpList_append_own_at _ hgd s x t ho w0.heap.size E i0 (.int .i64 0) 1 8 ht hi hz0 hz1 hz2 rfl (by omega) v l.length (l.map (Value.int .i64)) hs ho' ⟨W.heap.size,0,none⟩ 1 c [.int .i64 x0] hx rfl (cell_one_new _ _ _) (by intro u hu;simp at hu;subst hu;rfl) (by simp only[maxLen];omega) (by omega) hbs ?_
  intro v' w' g1 g2 _ g4
  have hown':∀ b,v'.ownBlock=Option.some b→(v.ownBlock=Option.some b∨b=W.heap.size+1):=by
    intro b e
    rcases g4 with g4 | g4
    · exact .inl (by rw[← g4];exact e)
    · rw[g4] at e;injection e with e;right;omega
  refine h v' w' ?_ ((hb.alloc _).grown g2 ho'.blockLe) (fun g hg hn =>⟨(g2.block g (by omega) (fun e=> hn e.symm)).trans (Below.heap_alloc W _ g hg),fun e=> by rcases hown' g e with e | e;exact hn e;omega⟩)
  unfold OwL
  simpa using g1

def shIn (pts:List (Rat × Rat)) (k:Nat):Nat→Nat
  | 0=> shTo pts k
  | 1=> shS (shTo pts k) (pix pts k).1.den
  | _=> shTo pts (k+1)
def PlRes (w:World) (gp n cp:Nat) (pts:List (Rat × Rat)) (en:Ending) (w':World):Prop :=
  ∃ gx cx gy cy,en=.returned (.agg #[.slice (some ⟨gp,0,none⟩) n cp,.slice (some ⟨gx,0,none⟩) n cx,.slice (some ⟨gy,0,none⟩) n cy])∧RdI w' (some ⟨gx,0,none⟩) n cx (plXs pts n)∧RdI w' (some ⟨gy,0,none⟩) n cy (plYs pts n)∧Bl w w'
end

section
open Go.RowKit

section
variable {lo:Nat}{w W w':World}{vp vm vp' vm':Value}{L L':List (List Int)}{M M':List Int}
end
end

end Go.Proofs.YtjaapemopbbfaaaGreat
