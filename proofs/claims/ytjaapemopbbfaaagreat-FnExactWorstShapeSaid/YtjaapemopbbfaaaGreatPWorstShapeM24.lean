/- Lemmas. -/
import Derived.Test.YtjaapemopbbfaaaGreatRows
import Derived.Test.YtjaapemopbbfaaaGreatPWorstShapeM23
import Derived.Deep.Cut
import Derived.Deep.DeepCutAuto
import Derived.Test.YtjaapemopbbfaaaGreatPWorstShapeM22
namespace Go.Proofs.YtjaapemopbbfaaaGreat
section
open Go.RowKit

theorem Blk.past2 {g:Nat}{T:TypeId}{cs:Array Value}{v v':Value}{W w':World}(h:Blk W g T cs) (ho:∀ g,g < W.heap.size→v.ownBlock≠Option.some g→w'.heap[g]?=W.heap[g]?∧v'.ownBlock≠Option.some g) (hv:v.ownBlock≠Option.some g):Blk w' g T cs∧v'.ownBlock≠Option.some g :=
  ⟨(ho g h.lt hv).1.trans h,(ho g h.lt hv).2⟩

set_option maxRecDepth 100000 in
set_option maxHeartbeats 16000000 in
theorem Corners_any (w:World) {A:Option Addr}{n c:Nat}{B:Option Addr}{m d:Nat}{x:MeD}(k:Int) (h:RdPS w A n c x.points) (ht:RdTS w B m d x.tris) (hsz:szL szP x.points≤1048576) :
    Calls Tryz.prog 23 #[.agg #[.slice A n c,.slice B m d],.int .i64 k] w fun e w'=> ∃ A1 n1 c1,e=.returned (.slice A1 n1 c1)∧OwPZ 3 76 w.heap.size w'.heap.size w' A1 n1 c1 (cornL x k)∧Bl w w':=by
  have hn:=h.small
  have hm:=ht.small
  go_enter Tryz.func23,Tryz.ntmps23
  go_wp2_with fail
  refine(within_any _ _ _ _).mono ?_
  by_cases hin:0≤k∧k≤(m:Int) - 1
  · skip
    rw[decide_eq_true hin.1,decide_eq_true hin.2]
    rintro e w1 ⟨rfl,hq1⟩
    have hb1:Bl (w.alloc (.cells #[.slice A n c,.slice B m d] 36)) w1:=by obtain⟨q1,rfl⟩:=hq1;exact(Bl.refl _).drewN q1
    clear hq1
    obtain⟨kk,rfl⟩:=Int.eq_ofNat_of_zero_le hin.1
    have hkk:kk < m:=by omega
    have hkk2:(kk:Int) < (m:Int):=by omega
    clear hin
    have hx0:Blk w1 w.heap.size 36 #[.slice A n c,.slice B m d]:=bts
    have hbc:Bl w w1:=slc
    have hgw:w.heap.size < w1.heap.size:=hx0.lt
    go_upto_region 4 with (fail)
    refine wp_gen (fun W=> RowP List.Nodup w1.heap.size (w1.heap.size+1) W (.slice (some ⟨w1.heap.size,0,none⟩) 0 0) []∧Bl w1 W) ⟨RowG.empty appN_nodup w1 (Nat.le_refl _),slc⟩ ?_
    rintro W ⟨hrow0,hbW⟩
    have hx1:=hx0.bl hbW
    have hgW:=RowG.hiLe hrow0
    obtain⟨i0,i1⟩:=bx2 hx1
    obtain⟨ad,eB,hlt,hat⟩:=(RdTS.bl ht (hbc.next hbW)).cells kk hkk
    subst eB
    obtain⟨ta,hta⟩:∃ y,y=(pix x.tris kk).a:=⟨_,rfl⟩
    obtain⟨tb,htb⟩:∃ y,y=(pix x.tris kk).b:=⟨_,rfl⟩
    obtain⟨tc,htc⟩:∃ y,y=(pix x.tris kk).c:=⟨_,rfl⟩
    obtain⟨tr,htr⟩:∃ y,y=(pix x.tris kk).region:=⟨_,rfl⟩
    obtain⟨tv,htv⟩:∃ y,y=(pix x.tris kk).level:=⟨_,rfl⟩
    have hst:Hid (pix x.tris kk=⟨ta,tb,tc,tr,tv⟩):=by rw[hta,htb,htc,htr,htv];exact rfl
    obtain⟨f0,f1,f2,f3,f4⟩:=hat
    rw[← hta] at f0
    rw[← htb] at f1
    rw[← htc] at f2
    rw[← htr] at f3
    rw[← htv] at f4
    clear hta htb htc htr htv hb1 hx1
    go_wp2_with fail
    refine(corners_any _ ⟨ta,tb,tc,tr,tv⟩).mono ?_
    rintro e w2 ⟨rfl,hb2⟩
    clear f0 f1 f2 f3 f4 i0 i1 hlt
    go_wp2_with fail
    go_loopw [5,22] (fun v i wr=> ∃ (k hi:Nat),k≤3∧i=.int .i64 (k:Int)∧RowP List.Nodup w1.heap.size hi wr v (cornTo x.points ⟨ta,tb,tc,tr,tv⟩ k)∧OkIx n ⟨ta,tb,tc,tr,tv⟩ k∧Bl w1 wr∧w1.heap.size≤hi) (fun _ i _=> 3 - (intOf i).toNat)
    case atStart=> exact⟨0,w1.heap.size+1,by omega,rfl,RowG.bl (ptIn_keep 3) hrow0 hb2,fun j hj=> by omega,hbW.next hb2,by omega⟩
    case round =>
      clear hb2 hrow0 hgW hbW
      obtain⟨k,hi,hk,rfl,hrow,hok,hbw,hlh⟩:=hrel
      rcases(show k=0∨k=1∨k=2∨k=3 by omega) with rfl | rfl | rfl | rfl
      · skip
        have e0:((0:Nat):Int)=0:=rfl
        rw[e0]
        clear e0 hk
        have hw:IntKind.i64.wrap 1=1:=by rfl
        have hhi0:=RowG.hiLe hrow
        have hzo:=Bl.size hbw
        have hx:=hx0.bl hbw
        obtain⟨i0,i1⟩:=bx2 hx
        have hix:∀ W:World,(Instr.index 94 (.agg #[.int .i64 ta,.int .i64 tb,.int .i64 tc]) (.int .i64 0)).run Tryz.prog W=.ok (.int .i64 ta) W:=fun _=> by kernel_rfl
        go_wp2_with fail
        refine(within_any _ _ _ _).mono ?_
        by_cases hin:0≤ta∧ta≤(n:Int) - 1
        · skip
          rw[decide_eq_true hin.1,decide_eq_true hin.2]
          rintro e w2 ⟨rfl,hq2⟩
          have hb2:Bl wr w2:=by obtain⟨q2,rfl⟩:=hq2;exact slc
          clear hq2
          have hok':OkIx n ⟨ta,tb,tc,tr,tv⟩ 1:=hok.step hin
          clear hok
          obtain⟨ka,rfl⟩:=Int.eq_ofNat_of_zero_le hin.1
          have hka:ka < n:=by omega
          clear hin
          have hok':=Lib.hid hok';rename_i h_;clear h_
          have hka2:(ka:Int) < (n:Int):=by omega
          have hX2:=hx.bl hb2
          have hrow2:=RowG.bl (ptIn_keep 3) hrow hb2
          clear hx hrow i0 i1 hix
          obtain⟨i0,i1⟩:=bx2 hX2
          obtain⟨ad,eA,hlt,hat⟩:=(RdPS.bl h ((hbc.next hbw).next hb2)).cells ka hka
          have hpz:=szL_at szP x.points (k:=ka) (by rw[h.len];exact hka)
          have hcs:=Lib.hid (cornTo_succ x.points ⟨(ka:Int),tb,tc,tr,tv⟩ 0)
          have hcs2:pix x.points (triIx ⟨(ka:Int),tb,tc,tr,tv⟩ 0).toNat=pix x.points ka:=rfl
          rw[hcs2] at hcs
          clear hcs2
          generalize pix x.points ka=pk at hcs hat hpz
          subst eA
          obtain⟨s2,A2,n2,c2,B2,m2,d2,t2,C2,i2,e2,D2,j2,f2,⟨g0,g1,g2,g3,g4,g5⟩,hX,hY⟩:=hat
          have l1:=Lib.hid hX.mag.len;have l2:=Lib.hid hX.den.len;have l3:=Lib.hid hY.mag.len;have l4:=Lib.hid hY.den.len
          have hsm:n2≤1048576∧m2≤1048576∧i2≤1048576∧j2≤1048576:=by
            have a1:=l1.out;have a2:=l2.out;have a3:=l3.out;have a4:=l4.out
            simp only[szP,szR] at hpz
            omega
          clear hpz
          go_wp2_with fail
          refine(copyPoint_any _ hX hY hsm.1 hsm.2.1 hsm.2.2.1 hsm.2.2.2).mono ?_
          rintro e w3 ⟨A1,n1,c1,B1,m1,d1,C1,i1',e1,D1,j1,f1,rfl,hP,hb3⟩
          have hrow3:=RowG.bl (ptIn_keep 3) hrow2 hb3
          skip
          have hb4:=(hbw.next hb2).next hb3
          have hhi3:hi≤w2.heap.size:=Nat.le_trans hhi0 (Bl.size hb2)
          have hP:=OwPN.of hP
          clear hrow2 hX2
          go_wp2_with ((refine wpList_append_ptX appN_nodup rfl (.tmp 32) (.tmp 39) rfl _ (by rfl) hrow3 hP hhi3 hlh 1 (by rfl) (by rw[cornTo_len];omega) w1 hb4 (Nat.le_refl _) ?_;intro v' w8 hrow' hb8' hoth;clear hrow3 hP))
          have hz8:=hb8'.size
          rw[← hcs.out] at hrow'
          skip
          go_roundw
          case rel=> exact⟨1,_,by omega,rfl,hrow',hok'.out,hb8',hz8⟩
          case measure=> simp[intOf]
        · skip
          have hnb:(decide (0≤ta) && decide (ta≤(n:Int) - 1))=false:=by
            rw[Bool.and_eq_false_iff]
            rcases Decidable.not_and_iff_or_not.1 hin with h' | h'
            · exact .inl (decide_eq_false h')
            · exact .inr (decide_eq_false h')
          rw[hnb]
          clear hnb
          rintro e w2 ⟨rfl,hq2⟩
          have hb2:Bl wr w2:=by obtain⟨q2,rfl⟩:=hq2;exact slc
          clear hq2
          have hv:=Lib.hid <| show cornL x ((kk:Nat):Int)=[] from if_neg fun ha=> hin (by have this:0≤triIx (pix x.tris kk) 0∧triIx (pix x.tris kk) 0≤(x.points.length:Int) - 1:=ha.2 0 (by omega);rw[hst.out,h.len] at this;exact this)
          have hin:=Lib.hid hin;rename_i h_;clear h_
          clear hok
          go_wp2_with fail
          go_ret
          rw[hv.out]
          exact⟨_,_,_,rfl,⟨rfl,Nat.le_refl _,Nat.zero_le _,.inl rfl⟩,(hbc.next hbw).next hb2⟩
      · skip
        have e0:((1:Nat):Int)=1:=rfl
        rw[e0]
        clear e0 hk
        have hw:IntKind.i64.wrap 2=2:=by rfl
        have hhi0:=RowG.hiLe hrow
        have hzo:=Bl.size hbw
        have hx:=hx0.bl hbw
        obtain⟨i0,i1⟩:=bx2 hx
        have hix:∀ W:World,(Instr.index 94 (.agg #[.int .i64 ta,.int .i64 tb,.int .i64 tc]) (.int .i64 1)).run Tryz.prog W=.ok (.int .i64 tb) W:=fun _=> by kernel_rfl
        go_wp2_with fail
        refine(within_any _ _ _ _).mono ?_
        by_cases hin:0≤tb∧tb≤(n:Int) - 1
        · skip
          rw[decide_eq_true hin.1,decide_eq_true hin.2]
          rintro e w2 ⟨rfl,hq2⟩
          have hb2:Bl wr w2:=by obtain⟨q2,rfl⟩:=hq2;exact slc
          clear hq2
          have hok':OkIx n ⟨ta,tb,tc,tr,tv⟩ 2:=hok.step hin
          clear hok
          obtain⟨ka,rfl⟩:=Int.eq_ofNat_of_zero_le hin.1
          have hka:ka < n:=by omega
          clear hin
          have hok':=Lib.hid hok';rename_i h_;clear h_
          have hka2:(ka:Int) < (n:Int):=by omega
          have hX2:=hx.bl hb2
          have hrow2:=RowG.bl (ptIn_keep 3) hrow hb2
          clear hx hrow i0 i1 hix
          obtain⟨i0,i1⟩:=bx2 hX2
          obtain⟨ad,eA,hlt,hat⟩:=(RdPS.bl h ((hbc.next hbw).next hb2)).cells ka hka
          have hpz:=szL_at szP x.points (k:=ka) (by rw[h.len];exact hka)
          have hcs:=Lib.hid (cornTo_succ x.points ⟨ta,(ka:Int),tc,tr,tv⟩ 1)
          have hcs2:pix x.points (triIx ⟨ta,(ka:Int),tc,tr,tv⟩ 1).toNat=pix x.points ka:=rfl
          rw[hcs2] at hcs
          clear hcs2
          generalize pix x.points ka=pk at hcs hat hpz
          subst eA
          obtain⟨s2,A2,n2,c2,B2,m2,d2,t2,C2,i2,e2,D2,j2,f2,⟨g0,g1,g2,g3,g4,g5⟩,hX,hY⟩:=hat
          have l1:=Lib.hid hX.mag.len;have l2:=Lib.hid hX.den.len;have l3:=Lib.hid hY.mag.len;have l4:=Lib.hid hY.den.len
          have hsm:n2≤1048576∧m2≤1048576∧i2≤1048576∧j2≤1048576:=by
            have a1:=l1.out;have a2:=l2.out;have a3:=l3.out;have a4:=l4.out
            simp only[szP,szR] at hpz
            omega
          clear hpz
          go_wp2_with fail
          refine(copyPoint_any _ hX hY hsm.1 hsm.2.1 hsm.2.2.1 hsm.2.2.2).mono ?_
          rintro e w3 ⟨A1,n1,c1,B1,m1,d1,C1,i1',e1,D1,j1,f1,rfl,hP,hb3⟩
          have hrow3:=RowG.bl (ptIn_keep 3) hrow2 hb3
          skip
          have hb4:=(hbw.next hb2).next hb3
          have hhi3:hi≤w2.heap.size:=Nat.le_trans hhi0 (Bl.size hb2)
          have hP:=OwPN.of hP
          clear hrow2 hX2
          go_wp2_with ((refine wpList_append_ptX appN_nodup rfl (.tmp 32) (.tmp 39) rfl _ (by rfl) hrow3 hP hhi3 hlh 1 (by rfl) (by rw[cornTo_len];omega) w1 hb4 (Nat.le_refl _) ?_;intro v' w8 hrow' hb8' hoth;clear hrow3 hP))
          have hz8:=hb8'.size
          rw[← hcs.out] at hrow'
          skip
          go_roundw
          case rel=> exact⟨2,_,by omega,rfl,hrow',hok'.out,hb8',hz8⟩
          case measure=> simp[intOf]
        · skip
          have hnb:(decide (0≤tb) && decide (tb≤(n:Int) - 1))=false:=by
            rw[Bool.and_eq_false_iff]
            rcases Decidable.not_and_iff_or_not.1 hin with h' | h'
            · exact .inl (decide_eq_false h')
            · exact .inr (decide_eq_false h')
          rw[hnb]
          clear hnb
          rintro e w2 ⟨rfl,hq2⟩
          have hb2:Bl wr w2:=by obtain⟨q2,rfl⟩:=hq2;exact slc
          clear hq2
          have hv:=Lib.hid <| show cornL x ((kk:Nat):Int)=[] from if_neg fun ha=> hin (by have this:0≤triIx (pix x.tris kk) 1∧triIx (pix x.tris kk) 1≤(x.points.length:Int) - 1:=ha.2 1 (by omega);rw[hst.out,h.len] at this;exact this)
          have hin:=Lib.hid hin;rename_i h_;clear h_
          clear hok
          go_wp2_with fail
          go_ret
          rw[hv.out]
          exact⟨_,_,_,rfl,⟨rfl,Nat.le_refl _,Nat.zero_le _,.inl rfl⟩,(hbc.next hbw).next hb2⟩
      · skip
        have e0:((2:Nat):Int)=2:=rfl
        rw[e0]
        clear e0 hk
        have hw:IntKind.i64.wrap 3=3:=by rfl
        have hhi0:=RowG.hiLe hrow
        have hzo:=Bl.size hbw
        have hx:=hx0.bl hbw
        obtain⟨i0,i1⟩:=bx2 hx
        have hix:∀ W:World,(Instr.index 94 (.agg #[.int .i64 ta,.int .i64 tb,.int .i64 tc]) (.int .i64 2)).run Tryz.prog W=.ok (.int .i64 tc) W:=fun _=> by kernel_rfl
        go_wp2_with fail
        refine(within_any _ _ _ _).mono ?_
        by_cases hin:0≤tc∧tc≤(n:Int) - 1
        · skip
          rw[decide_eq_true hin.1,decide_eq_true hin.2]
          rintro e w2 ⟨rfl,hq2⟩
          have hb2:Bl wr w2:=by obtain⟨q2,rfl⟩:=hq2;exact slc
          clear hq2
          have hok':OkIx n ⟨ta,tb,tc,tr,tv⟩ 3:=hok.step hin
          clear hok
          obtain⟨ka,rfl⟩:=Int.eq_ofNat_of_zero_le hin.1
          have hka:ka < n:=by omega
          clear hin
          have hok':=Lib.hid hok';rename_i h_;clear h_
          have hka2:(ka:Int) < (n:Int):=by omega
          have hX2:=hx.bl hb2
          have hrow2:=RowG.bl (ptIn_keep 3) hrow hb2
          clear hx hrow i0 i1 hix
          obtain⟨i0,i1⟩:=bx2 hX2
          obtain⟨ad,eA,hlt,hat⟩:=(RdPS.bl h ((hbc.next hbw).next hb2)).cells ka hka
          have hpz:=szL_at szP x.points (k:=ka) (by rw[h.len];exact hka)
          have hcs:=Lib.hid (cornTo_succ x.points ⟨ta,tb,(ka:Int),tr,tv⟩ 2)
          have hcs2:pix x.points (triIx ⟨ta,tb,(ka:Int),tr,tv⟩ 2).toNat=pix x.points ka:=rfl
          rw[hcs2] at hcs
          clear hcs2
          generalize pix x.points ka=pk at hcs hat hpz
          subst eA
          obtain⟨s2,A2,n2,c2,B2,m2,d2,t2,C2,i2,e2,D2,j2,f2,⟨g0,g1,g2,g3,g4,g5⟩,hX,hY⟩:=hat
          have l1:=Lib.hid hX.mag.len;have l2:=Lib.hid hX.den.len;have l3:=Lib.hid hY.mag.len;have l4:=Lib.hid hY.den.len
          have hsm:n2≤1048576∧m2≤1048576∧i2≤1048576∧j2≤1048576:=by
            have a1:=l1.out;have a2:=l2.out;have a3:=l3.out;have a4:=l4.out
            simp only[szP,szR] at hpz
            omega
          clear hpz
          go_wp2_with fail
          refine(copyPoint_any _ hX hY hsm.1 hsm.2.1 hsm.2.2.1 hsm.2.2.2).mono ?_
          rintro e w3 ⟨A1,n1,c1,B1,m1,d1,C1,i1',e1,D1,j1,f1,rfl,hP,hb3⟩
          have hrow3:=RowG.bl (ptIn_keep 3) hrow2 hb3
          skip
          have hb4:=(hbw.next hb2).next hb3
          have hhi3:hi≤w2.heap.size:=Nat.le_trans hhi0 (Bl.size hb2)
          have hP:=OwPN.of hP
          clear hrow2 hX2
          go_wp2_with ((refine wpList_append_ptX appN_nodup rfl (.tmp 32) (.tmp 39) rfl _ (by rfl) hrow3 hP hhi3 hlh 1 (by rfl) (by rw[cornTo_len];omega) w1 hb4 (Nat.le_refl _) ?_;intro v' w8 hrow' hb8' hoth;clear hrow3 hP))
          have hz8:=hb8'.size
          rw[← hcs.out] at hrow'
          skip
          go_roundw
          case rel=> exact⟨3,_,by omega,rfl,hrow',hok'.out,hb8',hz8⟩
          case measure=> simp[intOf]
        · skip
          have hnb:(decide (0≤tc) && decide (tc≤(n:Int) - 1))=false:=by
            rw[Bool.and_eq_false_iff]
            rcases Decidable.not_and_iff_or_not.1 hin with h' | h'
            · exact .inl (decide_eq_false h')
            · exact .inr (decide_eq_false h')
          rw[hnb]
          clear hnb
          rintro e w2 ⟨rfl,hq2⟩
          have hb2:Bl wr w2:=by obtain⟨q2,rfl⟩:=hq2;exact slc
          clear hq2
          have hv:=Lib.hid <| show cornL x ((kk:Nat):Int)=[] from if_neg fun ha=> hin (by have this:0≤triIx (pix x.tris kk) 2∧triIx (pix x.tris kk) 2≤(x.points.length:Int) - 1:=ha.2 2 (by omega);rw[hst.out,h.len] at this;exact this)
          have hin:=Lib.hid hin;rename_i h_;clear h_
          clear hok
          go_wp2_with fail
          go_ret
          rw[hv.out]
          exact⟨_,_,_,rfl,⟨rfl,Nat.le_refl _,Nat.zero_le _,.inl rfl⟩,(hbc.next hbw).next hb2⟩
      · skip
        have e0:((3:Nat):Int)=3:=rfl
        rw[e0]
        clear e0 hk
        have hv:cornL x ((kk:Nat):Int)=cornTo x.points ⟨ta,tb,tc,tr,tv⟩ 3:=by
          unfold cornL
          rw[show ((kk:Nat):Int).toNat=kk from rfl,hst.out,if_pos ⟨⟨by omega,by rw[ht.len];omega⟩,by rw[h.len];exact hok⟩]
        have hv:=Lib.hid hv;rename_i h_;clear h_
        have hok:=Lib.hid hok;rename_i h_;clear h_
        obtain⟨A1,c1,rfl,hZ⟩:=RowP.own hrow (by rw[cornTo_len];omega)
        have hhi0:=RowG.hiLe hrow
        rw[cornTo_len] at hZ ⊢
        clear hrow
        go_wp2_with fail
        go_ret
        rw[hv.out]
        exact⟨_,_,_,rfl,hZ.low (Bl.size hbc) hhi0,hbc.next hbw⟩
  · skip
    have hnb:(decide (0≤k) && decide (k≤(m:Int) - 1))=false:=by
      rw[Bool.and_eq_false_iff]
      rcases Decidable.not_and_iff_or_not.1 hin with h' | h'
      · exact .inl (decide_eq_false h')
      · exact .inr (decide_eq_false h')
    rw[hnb]
    clear hnb
    rintro e w1 ⟨rfl,hq1⟩
    have hb1:Bl (w.alloc (.cells #[.slice A n c,.slice B m d] 36)) w1:=by obtain⟨q1,rfl⟩:=hq1;exact(Bl.refl _).drewN q1
    clear hq1
    have hv:=Lib.hid <| show cornL x k=[] from if_neg fun ha=> hin (by have:=ha.1;rw[ht.len] at this;exact this)
    have hin:=Lib.hid hin;rename_i h_;clear h_
    go_wp2_with fail
    go_ret
    rw[hv.out]
    exact⟨_,_,_,rfl,⟨rfl,Nat.le_refl _,Nat.zero_le _,.inl rfl⟩,slc⟩
end

section
open Go.RowKit

/-- A list of points in memory made from lo on: it reads the same wherever that memory is kept. -/
def FrPS (lo:Nat) (w:World) (A:Option Addr) (n c:Nat) (l:List PtD):Prop :=
  (n=0∨∃ g,A=some ⟨g,0,none⟩∧lo≤g∧g < w.heap.size)∧∀ W:World,w.heap.size≤W.heap.size→(∀ b,lo≤b→b < w.heap.size→W.heap[b]?=w.heap[b]?)→RdPS W A n c l
section
variable {lo lo':Nat}{w W:World}{A:Option Addr}{n c:Nat}{l:List PtD}
theorem FrPS.rd (h:FrPS lo w A n c l):RdPS w A n c l:=h.2 w (Nat.le_refl _) fun _ _ _=> rfl
theorem FrPS.nil (lo:Nat) (w:World) (A:Option Addr) (c:Nat):FrPS lo w A 0 c []:=⟨.inl rfl,fun _ _ _=> RdS.nil _ _ _⟩
theorem FrPS.low (h:FrPS lo w A n c l) (h1:lo'≤lo):FrPS lo' w A n c l:=by
  refine⟨?_,fun W hs hb=> h.2 W hs fun b h2 h3=> hb b (by omega) h3⟩
  rcases h.1 with h0 |⟨g,e,h2,h3⟩
  · exact .inl h0
  · exact .inr ⟨g,e,by omega,h3⟩
theorem FrPS.bl (h:FrPS lo w A n c l) (hb:Bl w W):FrPS lo W A n c l:=by
  have hz:=hb.size
  refine⟨?_,fun X hs hk=> h.2 X (by omega) fun b h2 h3 =>(hk b h2 (by omega)).trans (Below.block hb b h3)⟩
  rcases h.1 with h0 |⟨g,e,h2,h3⟩
  · exact .inl h0
  · exact .inr ⟨g,e,h2,by omega⟩
theorem FrPS.of_row {N:List Nat→Prop}{hi:Nat}{v:Value}(h:RowP N lo hi w v l) (hl:l.length≤1048576):∃ A c,v=.slice A l.length c∧FrPS lo w A l.length c l:=by
  obtain⟨A,c,hv,hr⟩:=RowP.rd h hl
  subst hv
  refine⟨A,c,rfl,?_,fun W hs hb=> ?_⟩
  · rcases RowP.out h with ⟨e,h0⟩ |⟨g,c',cs,fs,e,h1,h2,h3,h4,h5,_⟩
    · exact .inl (by rw[h0];rfl)
    · injection e with e1 e2 e3
      have hg:=h5 g (by simp)
      exact .inr ⟨g,e1,hg.1,h2.lt⟩
  · obtain⟨A',c',e,h'⟩:=RowP.rd (RowG.keep (ptIn_keep 3) h hs fun b h1 h2=> hb b h1 (Nat.lt_of_lt_of_le h2 (RowG.hiLe h))) hl
    injection e with e1 e2 e3
    subst e1 e3
    exact h'
end

set_option maxRecDepth 100000 in
set_option maxHeartbeats 16000000 in
theorem sCorners_fr (w:World) {A:Option Addr}{n c:Nat}{B:Option Addr}{m d:Nat}{x:MeD}(k:Int) (h:RdPS w A n c x.points) (ht:RdTS w B m d x.tris) (hsz:szL szP x.points≤1048576) :
    Calls Tryz.prog 17 #[.agg #[.slice A n c,.slice B m d],.int .i64 k] w fun e w'=> ∃ A1 n1 c1,e=.returned (.slice A1 n1 c1)∧FrPS w.heap.size w' A1 n1 c1 (cornL x k)∧Bl w w':=by
  have hn:=h.small
  have hm:=ht.small
  go_enter Tryz.func17,Tryz.ntmps17
  go_wp2_with fail
  refine(l01In_any _ _ _ _).mono ?_
  by_cases hin:0≤k∧k≤(m:Int) - 1
  · skip
    rw[decide_eq_true hin.1,decide_eq_true hin.2]
    rintro e w1 ⟨rfl,hq1⟩
    have hb1:Bl (w.alloc (.cells #[.slice A n c,.slice B m d] 36)) w1:=by obtain⟨q1,rfl⟩:=hq1;exact(Bl.refl _).drewN q1
    clear hq1
    obtain⟨kk,rfl⟩:=Int.eq_ofNat_of_zero_le hin.1
    have hkk:kk < m:=by omega
    have hkk2:(kk:Int) < (m:Int):=by omega
    clear hin
    have hx0:Blk w1 w.heap.size 36 #[.slice A n c,.slice B m d]:=bts
    have hbc:Bl w w1:=slc
    have hgw:w.heap.size < w1.heap.size:=hx0.lt
    go_upto_region 4 with (fail)
    refine wp_gen (fun W=> RowP AnyN w1.heap.size (w1.heap.size+1) W (.slice (some ⟨w1.heap.size,0,none⟩) 0 0) []∧Bl w1 W) ⟨RowG.empty appN_any w1 (Nat.le_refl _),slc⟩ ?_
    rintro W ⟨hrow0,hbW⟩
    have hx1:=hx0.bl hbW
    have hgW:=RowG.hiLe hrow0
    obtain⟨i0,i1⟩:=bx2 hx1
    obtain⟨ad,eB,hlt,hat⟩:=(RdTS.bl ht (hbc.next hbW)).cells kk hkk
    subst eB
    obtain⟨ta,hta⟩:∃ y,y=(pix x.tris kk).a:=⟨_,rfl⟩
    obtain⟨tb,htb⟩:∃ y,y=(pix x.tris kk).b:=⟨_,rfl⟩
    obtain⟨tc,htc⟩:∃ y,y=(pix x.tris kk).c:=⟨_,rfl⟩
    obtain⟨tr,htr⟩:∃ y,y=(pix x.tris kk).region:=⟨_,rfl⟩
    obtain⟨tv,htv⟩:∃ y,y=(pix x.tris kk).level:=⟨_,rfl⟩
    have hst:Hid (pix x.tris kk=⟨ta,tb,tc,tr,tv⟩):=by rw[hta,htb,htc,htr,htv];exact rfl
    obtain⟨f0,f1,f2,f3,f4⟩:=hat
    rw[← hta] at f0
    rw[← htb] at f1
    rw[← htc] at f2
    rw[← htr] at f3
    rw[← htv] at f4
    clear hta htb htc htr htv hb1 hx1
    go_wp2_with fail
    refine(l07Tri_any _ ta tb tc tr tv).mono ?_
    rintro e w2 ⟨gq,rfl,hgq,hq0,hb2⟩
    clear f0 f1 f2 f3 f4 i0 i1 hlt
    go_wp2_with fail
    go_loopw [5,23] (fun v i wr=> ∃ (k hi:Nat),k≤3∧i=.int .i64 (k:Int)∧RowP AnyN w1.heap.size hi wr v (cornTo x.points ⟨ta,tb,tc,tr,tv⟩ k)∧OkIx n ⟨ta,tb,tc,tr,tv⟩ k∧Bl w1 wr∧w1.heap.size≤hi∧Blk wr gq 3 #[.int .i64 ta,.int .i64 tb,.int .i64 tc]∧v.ownBlock≠some gq) (fun _ i _=> 3 - (intOf i).toNat)
    case atStart=> exact⟨0,w1.heap.size+1,by omega,rfl,RowG.bl (ptIn_keep 3) hrow0 hb2,fun j hj=> by omega,hbW.next hb2,by omega,hq0,fun e=> by injection e with e;simp only at e;omega⟩
    case round =>
      clear hb2 hrow0 hgW hbW hq0 hgq
      obtain⟨k,hi,hk,rfl,hrow,hok,hbw,hlh,hq,hvq⟩:=hrel
      rcases(show k=0∨k=1∨k=2∨k=3 by omega) with rfl | rfl | rfl | rfl
      · skip
        have e0:((0:Nat):Int)=0:=rfl
        rw[e0]
        clear e0 hk
        have hw:IntKind.i64.wrap 1=1:=by rfl
        have hhi0:=RowG.hiLe hrow
        have hzo:=Bl.size hbw
        have hx:=hx0.bl hbw
        obtain⟨i0,i1⟩:=bx2 hx
        obtain⟨y0,y1,y2⟩:=bx3 hq
        go_wp2_with fail
        refine(l01In_any _ _ _ _).mono ?_
        by_cases hin:0≤ta∧ta≤(n:Int) - 1
        · skip
          rw[decide_eq_true hin.1,decide_eq_true hin.2]
          rintro e w2 ⟨rfl,hq2⟩
          have hb2:Bl wr w2:=by obtain⟨q2,rfl⟩:=hq2;exact slc
          clear hq2
          have hok':OkIx n ⟨ta,tb,tc,tr,tv⟩ 1:=hok.step hin
          clear hok
          obtain⟨ka,rfl⟩:=Int.eq_ofNat_of_zero_le hin.1
          have hka:ka < n:=by omega
          clear hin
          have hok':=Lib.hid hok';rename_i h_;clear h_
          have hka2:(ka:Int) < (n:Int):=by omega
          have hX2:=hx.bl hb2
          have hrow2:=RowG.bl (ptIn_keep 3) hrow hb2
          clear hx hrow i0 i1
          obtain⟨i0,i1⟩:=bx2 hX2
          obtain⟨ad,eA,hlt,hat⟩:=(RdPS.bl h ((hbc.next hbw).next hb2)).cells ka hka
          have hpz:=szL_at szP x.points (k:=ka) (by rw[h.len];exact hka)
          have hcs:=Lib.hid (cornTo_succ x.points ⟨(ka:Int),tb,tc,tr,tv⟩ 0)
          have hcs2:pix x.points (triIx ⟨(ka:Int),tb,tc,tr,tv⟩ 0).toNat=pix x.points ka:=rfl
          rw[hcs2] at hcs
          clear hcs2
          generalize pix x.points ka=pk at hcs hat hpz
          subst eA
          obtain⟨s2,A2,n2,c2,B2,m2,d2,t2,C2,i2,e2,D2,j2,f2,⟨g0,g1,g2,g3,g4,g5⟩,hX,hY⟩:=hat
          have l1:=Lib.hid hX.mag.len;have l2:=Lib.hid hX.den.len;have l3:=Lib.hid hY.mag.len;have l4:=Lib.hid hY.den.len
          have hsm:n2≤1048576∧m2≤1048576∧i2≤1048576∧j2≤1048576:=by
            have a1:=l1.out;have a2:=l2.out;have a3:=l3.out;have a4:=l4.out
            simp only[szP,szR] at hpz
            omega
          clear hpz
          go_wp2_with fail
          refine(l05Copy_any _ hX hY hsm.1 hsm.2.1 hsm.2.2.1 hsm.2.2.2).mono ?_
          rintro e w3 ⟨s1,A1,n1,c1,B1,m1,d1,t1,C1,i1',e1,D1,j1,f1,rfl,hP,hb3⟩
          have hrow3:=RowG.bl (ptIn_keep 3) hrow2 hb3
          have hq3:=(hq.bl hb2).bl hb3
          have hb4:=(hbw.next hb2).next hb3
          have hhi3:hi≤w2.heap.size:=Nat.le_trans hhi0 (Bl.size hb2)
          skip
          clear hrow2 hX2
          go_wp2_with ((refine wpList_append_ptX appN_any rfl (.tmp 34) (.tmp 41) rfl _ (by rfl) hrow3 hP hhi3 hlh 1 (by rfl) (by rw[cornTo_len];omega) w1 hb4 (Nat.le_refl _) ?_;intro v' w8 hrow' hb8' hoth;clear hrow3 hP))
          have hz8:=hb8'.size
          rw[← hcs.out] at hrow'
          have hq8:=hq3.past2 hoth hvq
          go_roundw
          case rel=> exact⟨1,_,by omega,rfl,hrow',hok'.out,hb8',hz8,hq8.1,hq8.2⟩
          case measure=> simp[intOf]
        · skip
          have hnb:(decide (0≤ta) && decide (ta≤(n:Int) - 1))=false:=by
            rw[Bool.and_eq_false_iff]
            rcases Decidable.not_and_iff_or_not.1 hin with h' | h'
            · exact .inl (decide_eq_false h')
            · exact .inr (decide_eq_false h')
          rw[hnb]
          clear hnb
          rintro e w2 ⟨rfl,hq2⟩
          have hb2:Bl wr w2:=by obtain⟨q2,rfl⟩:=hq2;exact slc
          clear hq2
          have hv:=Lib.hid <| show cornL x ((kk:Nat):Int)=[] from if_neg fun ha=> hin (by have this:0≤triIx (pix x.tris kk) 0∧triIx (pix x.tris kk) 0≤(x.points.length:Int) - 1:=ha.2 0 (by omega);rw[hst.out,h.len] at this;exact this)
          have hin:=Lib.hid hin;rename_i h_;clear h_
          clear hok
          go_wp2_with fail
          go_ret
          rw[hv.out]
          exact⟨_,_,_,rfl,FrPS.nil _ _ _ _,(hbc.next hbw).next hb2⟩
      · skip
        have e0:((1:Nat):Int)=1:=rfl
        rw[e0]
        clear e0 hk
        have hw:IntKind.i64.wrap 2=2:=by rfl
        have hhi0:=RowG.hiLe hrow
        have hzo:=Bl.size hbw
        have hx:=hx0.bl hbw
        obtain⟨i0,i1⟩:=bx2 hx
        obtain⟨y0,y1,y2⟩:=bx3 hq
        go_wp2_with fail
        refine(l01In_any _ _ _ _).mono ?_
        by_cases hin:0≤tb∧tb≤(n:Int) - 1
        · skip
          rw[decide_eq_true hin.1,decide_eq_true hin.2]
          rintro e w2 ⟨rfl,hq2⟩
          have hb2:Bl wr w2:=by obtain⟨q2,rfl⟩:=hq2;exact slc
          clear hq2
          have hok':OkIx n ⟨ta,tb,tc,tr,tv⟩ 2:=hok.step hin
          clear hok
          obtain⟨ka,rfl⟩:=Int.eq_ofNat_of_zero_le hin.1
          have hka:ka < n:=by omega
          clear hin
          have hok':=Lib.hid hok';rename_i h_;clear h_
          have hka2:(ka:Int) < (n:Int):=by omega
          have hX2:=hx.bl hb2
          have hrow2:=RowG.bl (ptIn_keep 3) hrow hb2
          clear hx hrow i0 i1
          obtain⟨i0,i1⟩:=bx2 hX2
          obtain⟨ad,eA,hlt,hat⟩:=(RdPS.bl h ((hbc.next hbw).next hb2)).cells ka hka
          have hpz:=szL_at szP x.points (k:=ka) (by rw[h.len];exact hka)
          have hcs:=Lib.hid (cornTo_succ x.points ⟨ta,(ka:Int),tc,tr,tv⟩ 1)
          have hcs2:pix x.points (triIx ⟨ta,(ka:Int),tc,tr,tv⟩ 1).toNat=pix x.points ka:=rfl
          rw[hcs2] at hcs
          clear hcs2
          generalize pix x.points ka=pk at hcs hat hpz
          subst eA
          obtain⟨s2,A2,n2,c2,B2,m2,d2,t2,C2,i2,e2,D2,j2,f2,⟨g0,g1,g2,g3,g4,g5⟩,hX,hY⟩:=hat
          have l1:=Lib.hid hX.mag.len;have l2:=Lib.hid hX.den.len;have l3:=Lib.hid hY.mag.len;have l4:=Lib.hid hY.den.len
          have hsm:n2≤1048576∧m2≤1048576∧i2≤1048576∧j2≤1048576:=by
            have a1:=l1.out;have a2:=l2.out;have a3:=l3.out;have a4:=l4.out
            simp only[szP,szR] at hpz
            omega
          clear hpz
          go_wp2_with fail
          refine(l05Copy_any _ hX hY hsm.1 hsm.2.1 hsm.2.2.1 hsm.2.2.2).mono ?_
          rintro e w3 ⟨s1,A1,n1,c1,B1,m1,d1,t1,C1,i1',e1,D1,j1,f1,rfl,hP,hb3⟩
          have hrow3:=RowG.bl (ptIn_keep 3) hrow2 hb3
          have hq3:=(hq.bl hb2).bl hb3
          have hb4:=(hbw.next hb2).next hb3
          have hhi3:hi≤w2.heap.size:=Nat.le_trans hhi0 (Bl.size hb2)
          skip
          clear hrow2 hX2
          go_wp2_with ((refine wpList_append_ptX appN_any rfl (.tmp 34) (.tmp 41) rfl _ (by rfl) hrow3 hP hhi3 hlh 1 (by rfl) (by rw[cornTo_len];omega) w1 hb4 (Nat.le_refl _) ?_;intro v' w8 hrow' hb8' hoth;clear hrow3 hP))
          have hz8:=hb8'.size
          rw[← hcs.out] at hrow'
          have hq8:=hq3.past2 hoth hvq
          go_roundw
          case rel=> exact⟨2,_,by omega,rfl,hrow',hok'.out,hb8',hz8,hq8.1,hq8.2⟩
          case measure=> simp[intOf]
        · skip
          have hnb:(decide (0≤tb) && decide (tb≤(n:Int) - 1))=false:=by
            rw[Bool.and_eq_false_iff]
            rcases Decidable.not_and_iff_or_not.1 hin with h' | h'
            · exact .inl (decide_eq_false h')
            · exact .inr (decide_eq_false h')
          rw[hnb]
          clear hnb
          rintro e w2 ⟨rfl,hq2⟩
          have hb2:Bl wr w2:=by obtain⟨q2,rfl⟩:=hq2;exact slc
          clear hq2
          have hv:=Lib.hid <| show cornL x ((kk:Nat):Int)=[] from if_neg fun ha=> hin (by have this:0≤triIx (pix x.tris kk) 1∧triIx (pix x.tris kk) 1≤(x.points.length:Int) - 1:=ha.2 1 (by omega);rw[hst.out,h.len] at this;exact this)
          have hin:=Lib.hid hin;rename_i h_;clear h_
          clear hok
          go_wp2_with fail
          go_ret
          rw[hv.out]
          exact⟨_,_,_,rfl,FrPS.nil _ _ _ _,(hbc.next hbw).next hb2⟩
      · skip
        have e0:((2:Nat):Int)=2:=rfl
        rw[e0]
        clear e0 hk
        have hw:IntKind.i64.wrap 3=3:=by rfl
        have hhi0:=RowG.hiLe hrow
        have hzo:=Bl.size hbw
        have hx:=hx0.bl hbw
        obtain⟨i0,i1⟩:=bx2 hx
        obtain⟨y0,y1,y2⟩:=bx3 hq
        go_wp2_with fail
        refine(l01In_any _ _ _ _).mono ?_
        by_cases hin:0≤tc∧tc≤(n:Int) - 1
        · skip
          rw[decide_eq_true hin.1,decide_eq_true hin.2]
          rintro e w2 ⟨rfl,hq2⟩
          have hb2:Bl wr w2:=by obtain⟨q2,rfl⟩:=hq2;exact slc
          clear hq2
          have hok':OkIx n ⟨ta,tb,tc,tr,tv⟩ 3:=hok.step hin
          clear hok
          obtain⟨ka,rfl⟩:=Int.eq_ofNat_of_zero_le hin.1
          have hka:ka < n:=by omega
          clear hin
          have hok':=Lib.hid hok';rename_i h_;clear h_
          have hka2:(ka:Int) < (n:Int):=by omega
          have hX2:=hx.bl hb2
          have hrow2:=RowG.bl (ptIn_keep 3) hrow hb2
          clear hx hrow i0 i1
          obtain⟨i0,i1⟩:=bx2 hX2
          obtain⟨ad,eA,hlt,hat⟩:=(RdPS.bl h ((hbc.next hbw).next hb2)).cells ka hka
          have hpz:=szL_at szP x.points (k:=ka) (by rw[h.len];exact hka)
          have hcs:=Lib.hid (cornTo_succ x.points ⟨ta,tb,(ka:Int),tr,tv⟩ 2)
          have hcs2:pix x.points (triIx ⟨ta,tb,(ka:Int),tr,tv⟩ 2).toNat=pix x.points ka:=rfl
          rw[hcs2] at hcs
          clear hcs2
          generalize pix x.points ka=pk at hcs hat hpz
          subst eA
          obtain⟨s2,A2,n2,c2,B2,m2,d2,t2,C2,i2,e2,D2,j2,f2,⟨g0,g1,g2,g3,g4,g5⟩,hX,hY⟩:=hat
          have l1:=Lib.hid hX.mag.len;have l2:=Lib.hid hX.den.len;have l3:=Lib.hid hY.mag.len;have l4:=Lib.hid hY.den.len
          have hsm:n2≤1048576∧m2≤1048576∧i2≤1048576∧j2≤1048576:=by
            have a1:=l1.out;have a2:=l2.out;have a3:=l3.out;have a4:=l4.out
            simp only[szP,szR] at hpz
            omega
          clear hpz
          go_wp2_with fail
          refine(l05Copy_any _ hX hY hsm.1 hsm.2.1 hsm.2.2.1 hsm.2.2.2).mono ?_
          rintro e w3 ⟨s1,A1,n1,c1,B1,m1,d1,t1,C1,i1',e1,D1,j1,f1,rfl,hP,hb3⟩
          have hrow3:=RowG.bl (ptIn_keep 3) hrow2 hb3
          have hq3:=(hq.bl hb2).bl hb3
          have hb4:=(hbw.next hb2).next hb3
          have hhi3:hi≤w2.heap.size:=Nat.le_trans hhi0 (Bl.size hb2)
          skip
          clear hrow2 hX2
          go_wp2_with ((refine wpList_append_ptX appN_any rfl (.tmp 34) (.tmp 41) rfl _ (by rfl) hrow3 hP hhi3 hlh 1 (by rfl) (by rw[cornTo_len];omega) w1 hb4 (Nat.le_refl _) ?_;intro v' w8 hrow' hb8' hoth;clear hrow3 hP))
          have hz8:=hb8'.size
          rw[← hcs.out] at hrow'
          have hq8:=hq3.past2 hoth hvq
          go_roundw
          case rel=> exact⟨3,_,by omega,rfl,hrow',hok'.out,hb8',hz8,hq8.1,hq8.2⟩
          case measure=> simp[intOf]
        · skip
          have hnb:(decide (0≤tc) && decide (tc≤(n:Int) - 1))=false:=by
            rw[Bool.and_eq_false_iff]
            rcases Decidable.not_and_iff_or_not.1 hin with h' | h'
            · exact .inl (decide_eq_false h')
            · exact .inr (decide_eq_false h')
          rw[hnb]
          clear hnb
          rintro e w2 ⟨rfl,hq2⟩
          have hb2:Bl wr w2:=by obtain⟨q2,rfl⟩:=hq2;exact slc
          clear hq2
          have hv:=Lib.hid <| show cornL x ((kk:Nat):Int)=[] from if_neg fun ha=> hin (by have this:0≤triIx (pix x.tris kk) 2∧triIx (pix x.tris kk) 2≤(x.points.length:Int) - 1:=ha.2 2 (by omega);rw[hst.out,h.len] at this;exact this)
          have hin:=Lib.hid hin;rename_i h_;clear h_
          clear hok
          go_wp2_with fail
          go_ret
          rw[hv.out]
          exact⟨_,_,_,rfl,FrPS.nil _ _ _ _,(hbc.next hbw).next hb2⟩
      · skip
        have e0:((3:Nat):Int)=3:=rfl
        rw[e0]
        clear e0 hk
        have hv:cornL x ((kk:Nat):Int)=cornTo x.points ⟨ta,tb,tc,tr,tv⟩ 3:=by
          unfold cornL
          rw[show ((kk:Nat):Int).toNat=kk from rfl,hst.out,if_pos ⟨⟨by omega,by rw[ht.len];omega⟩,by rw[h.len];exact hok⟩]
        have hv:=Lib.hid hv;rename_i h_;clear h_
        have hok:=Lib.hid hok;rename_i h_;clear h_
        obtain⟨A1,c1,rfl,hZ⟩:=FrPS.of_row hrow (by rw[cornTo_len];omega)
        have hhi0:=RowG.hiLe hrow
        rw[cornTo_len] at hZ ⊢
        clear hrow
        go_wp2_with fail
        go_ret
        rw[hv.out]
        exact⟨_,_,_,rfl,hZ.low (Bl.size hbc),hbc.next hbw⟩
  · skip
    have hnb:(decide (0≤k) && decide (k≤(m:Int) - 1))=false:=by
      rw[Bool.and_eq_false_iff]
      rcases Decidable.not_and_iff_or_not.1 hin with h' | h'
      · exact .inl (decide_eq_false h')
      · exact .inr (decide_eq_false h')
    rw[hnb]
    clear hnb
    rintro e w1 ⟨rfl,hq1⟩
    have hb1:Bl (w.alloc (.cells #[.slice A n c,.slice B m d] 36)) w1:=by obtain⟨q1,rfl⟩:=hq1;exact(Bl.refl _).drewN q1
    clear hq1
    have hv:=Lib.hid <| show cornL x k=[] from if_neg fun ha=> hin (by have:=ha.1;rw[ht.len] at this;exact this)
    have hin:=Lib.hid hin;rename_i h_;clear h_
    go_wp2_with fail
    go_ret
    rw[hv.out]
    exact⟨_,_,_,rfl,FrPS.nil _ _ _ _,slc⟩
end

section
open Go.RowKit

def mkT (k:Int):TriD:=⟨k,k+1,k+1+1,k+1+1+1,k+1+1+1+1⟩
def mkTL (k:Int) (n:Nat):List TriD:=(List.range n).map fun i:Nat=> mkT (k+5 * (i:Int))
theorem pix_mkTL (k:Int) {n i:Nat}(h:i < n):pix (mkTL k n) i=mkT (k+5 * (i:Int)):=by simp[pix,mkTL,h]
set_option maxHeartbeats 4000000 in
theorem markTriS_any {TT:TypeId}(w:World) {g n c:Nat}{cs:Array Value}{k0:Int}(hB:Blk w g TT cs) (hcs:cs.size=n * 5) (hn:n≤1048576) (h0:0≤k0) (h1:k0≤1099511627776) :
    Calls Tryz.prog 30 #[.slice (some ⟨g,0,none⟩) n c,.int .i64 k0] w fun e w'=> e=.returned (.int .i64 (k0+5 * (n:Int)))∧∃ cs',Blk w' g TT cs'∧cs'.size=n * 5∧TrsIn cs' (mkTL k0 n) n∧Ob [g] w w':=by
  go_enter Tryz.func30,Tryz.ntmps30
  go_wp2_with fail
  go_loopw [1,5] (fun v i wr=> ∃ (k:Nat) (cs':Array Value),k≤n∧i=.int .i64 (k:Int)∧v=.int .i64 (k0+5 * (k:Int))∧Blk wr g TT cs'∧cs'.size=n * 5∧TrsIn cs' (mkTL k0 n) k∧Ob [g] w wr) (fun _ i _=> n - (intOf i).toNat)
  case atStart=> exact⟨0,cs,Nat.zero_le _,rfl,by simp,hB,hcs,fun i hi=> by omega,Ob.refl _ _⟩
  case round =>
    clear hB hcs
    obtain⟨k,cs',hk,rfl,rfl,hB,hs,hM,hO⟩:=hrel
    have hs:=Lib.hid hs;rename_i h_;clear h_
    by_cases hkn:k < n
    · have hki:(k:Int) < (n:Int):=by omega
      have hfr:=hB.frozen
      have hlt:=hB.lt
      obtain⟨v0,x0⟩:=hB.some (i:=k * 5) (by have:=hs.out;omega)
      obtain⟨v1,x1⟩:=hB.some (i:=k * 5+1) (by have:=hs.out;omega)
      obtain⟨v2,x2⟩:=hB.some (i:=k * 5+2) (by have:=hs.out;omega)
      obtain⟨v3,x3⟩:=hB.some (i:=k * 5+3) (by have:=hs.out;omega)
      obtain⟨v4,x4⟩:=hB.some (i:=k * 5+4) (by have:=hs.out;omega)
      have hst:=hM.step (n:=n) hs.out hkn
      rw[pix_mkTL _ hkn] at hst
      have hnx:Hid (k0+5 * (k:Int)+1+1+1+1+1=k0+5 * ((k+1:Nat):Int)):=by unfold Hid;omega
      have hkb:k0+5 * (k:Int)≤1099521627776:=by omega
      have hk0:0≤k0+5 * (k:Int):=by omega
      generalize k0+5 * (k:Int)=ks at *
      have hst:=Lib.hid hst;rename_i h_;clear h_
      have hM:=Lib.hid hM;rename_i h_;clear h_
      go_wp2_with fail
      go_roundw
      case rel=> exact⟨k+1,_,by omega,by go_num,by rw[hnx.out],((((hB.set_ _ _).set_ _ _).set_ _ _).set_ _ _).set_ _ _,by simp[hs.out],hst.out,((((hO.set (by simp) _ _).set (by simp) _ _).set (by simp) _ _).set (by simp) _ _).set (by simp) _ _⟩
      case measure=> simp[intOf];omega
    · obtain rfl:k=n:=by omega
      go_wp2_with fail
      go_ret
      exact⟨rfl,cs',hB,hs.out,hM,hO⟩
end

end Go.Proofs.YtjaapemopbbfaaaGreat
