/- Lemmas. -/
import Derived.Test.YtjaapemopbbfaaaGreatRows
import Derived.Test.YtjaapemopbbfaaaGreatPWorstShapeM36
import Derived.Deep.Cut
import Derived.Deep.DeepCutAuto
namespace Go.Proofs.YtjaapemopbbfaaaGreat
section
open Go.RowKit

set_option maxRecDepth 100000 in
set_option maxHeartbeats 32000000 in
theorem l07Far_yes (w:World) {u0 u1 u2 u3 u4 u5 u6 u7 u8 u9 u10 u11 v0 v1 v2 v3 v4 v5 v6 v7 v8 v9 v10 v11:Value}{a b:BxQ}(ha:RdV w u0 u1 u2 (toR a.l)∧RdV w u3 u4 u5 (toR a.r)∧RdV w u6 u7 u8 (toR a.lo)∧RdV w u9 u10 u11 (toR a.hi)) (hb:RdV w v0 v1 v2 (toR b.l)∧RdV w v3 v4 v5 (toR b.r)∧RdV w v6 v7 v8 (toR b.lo)∧RdV w v9 v10 v11 (toR b.hi)) (hsa:BxSm a) (hsb:BxSm b) :
    Calls Tryz.prog 40 #[.agg #[u0,u1,u2,u3,u4,u5,u6,u7,u8,u9,u10,u11],.agg #[v0,v1,v2,v3,v4,v5,v6,v7,v8,v9,v10,v11]] w fun e w'=> e=.returned (.bool (farQ a b))∧Bl w w':=by
  obtain⟨⟨sa0,Aa0,na0,ca0,Ba0,ma0,da0,e00,e01,e02,hRa0⟩,⟨sa1,Aa1,na1,ca1,Ba1,ma1,da1,e10,e11,e12,hRa1⟩,⟨sa2,Aa2,na2,ca2,Ba2,ma2,da2,e20,e21,e22,hRa2⟩,⟨sa3,Aa3,na3,ca3,Ba3,ma3,da3,e30,e31,e32,hRa3⟩⟩:=ha
  subst e00 e01 e02 e10 e11 e12 e20 e21 e22 e30 e31 e32
  obtain⟨⟨sb0,Ab0,nb0,cb0,Bb0,mb0,db0,e00,e01,e02,hRb0⟩,⟨sb1,Ab1,nb1,cb1,Bb1,mb1,db1,e10,e11,e12,hRb1⟩,⟨sb2,Ab2,nb2,cb2,Bb2,mb2,db2,e20,e21,e22,hRb2⟩,⟨sb3,Ab3,nb3,cb3,Bb3,mb3,db3,e30,e31,e32,hRb3⟩⟩:=hb
  subst e00 e01 e02 e10 e11 e12 e20 e21 e22 e30 e31 e32
  go_enter Tryz.func40,Tryz.ntmps40
  go_upto_region 1 with (fail)
  refine wp_gen (fun W=> Bl w W∧∃ g2 g3,Blk W g2 72 #[.bool sa0,.slice Aa0 na0 ca0,.slice Ba0 ma0 da0,.bool sa1,.slice Aa1 na1 ca1,.slice Ba1 ma1 da1,.bool sa2,.slice Aa2 na2 ca2,.slice Ba2 ma2 da2,.bool sa3,.slice Aa3 na3 ca3,.slice Ba3 ma3 da3]∧Blk W g3 72 #[.bool sb0,.slice Ab0 nb0 cb0,.slice Bb0 mb0 db0,.bool sb1,.slice Ab1 nb1 cb1,.slice Bb1 mb1 db1,.bool sb2,.slice Ab2 nb2 cb2,.slice Bb2 mb2 db2,.bool sb3,.slice Ab3 nb3 cb3,.slice Bb3 mb3 db3]∧g2=w.heap.size∧g3=w.heap.size+1) ⟨slc,_,_,by exact bts,by exact bts,rfl,rfl⟩ ?_
  rintro W ⟨hbw,g2,g3,hx,hy,hg2,hg3⟩
  rw[← hg3,← hg2]
  clear hg2 hg3
  obtain⟨x0,x1,x2,x3,x4,x5,x6,x7,x8,x9,x10,x11⟩:=bx12 hx
  obtain⟨y0,y1,y2,y3,y4,y5,y6,y7,y8,y9,y10,y11⟩:=bx12 hy
  have hco:=Lib.hid (cmp_lt (p:=a.r) (q:=b.l) hsa.1.2 hsb.1.1)
  by_cases c0:a.r≤b.l
  · obtain⟨z,hz,hz2⟩:∃ z,cmpR (toR a.r) (toR b.l)=z∧z≤0:=⟨_,rfl,by rw[hco.out.2];split <;> (try split) <;> first | omega |(exfalso;grind)⟩
    have hz:=Lib.hid hz
    have hs:=Lib.hid (show farQ a b=true by unfold farQ;rw[decide_eq_true c0];simp)
    clear c0
    go_wp2_with fail
    refine(sRatCmp_yes _ (hRa1.bl hbw) (hRb0.bl hbw) hco.out.1).mono ?_
    rw[hz.out]
    rintro e w2 ⟨rfl,hb_⟩
    have hx:=hx.bl hb_
    have hy:=hy.bl hb_
    have hbw:=hbw.next hb_
    obtain⟨x0,x1,x2,x3,x4,x5,x6,x7,x8,x9,x10,x11⟩:=bx12 hx
    obtain⟨y0,y1,y2,y3,y4,y5,y6,y7,y8,y9,y10,y11⟩:=bx12 hy
    clear hb_
    go_wp2_with fail
    go_ret
    exact⟨by rw[hs.out];rfl,slc⟩
  · obtain⟨z0,hz,hz0⟩:∃ z,cmpR (toR a.r) (toR b.l)=z∧¬ z≤0:=⟨_,rfl,by rw[hco.out.2,if_neg (by grind),if_pos (by grind)];omega⟩
    have hz:=Lib.hid hz
    go_wp2_with fail
    refine(sRatCmp_yes _ (hRa1.bl hbw) (hRb0.bl hbw) hco.out.1).mono ?_
    rw[hz.out]
    rintro e w2 ⟨rfl,hb_⟩
    have hx:=hx.bl hb_
    have hy:=hy.bl hb_
    have hbw:=hbw.next hb_
    obtain⟨x0,x1,x2,x3,x4,x5,x6,x7,x8,x9,x10,x11⟩:=bx12 hx
    obtain⟨y0,y1,y2,y3,y4,y5,y6,y7,y8,y9,y10,y11⟩:=bx12 hy
    clear hb_
    clear hco hz
    have hco:=Lib.hid (cmp_lt (p:=b.r) (q:=a.l) hsb.1.2 hsa.1.1)
    by_cases c1:b.r≤a.l
    · obtain⟨z,hz,hz2⟩:∃ z,cmpR (toR b.r) (toR a.l)=z∧z≤0:=⟨_,rfl,by rw[hco.out.2];split <;> (try split) <;> first | omega |(exfalso;grind)⟩
      have hz:=Lib.hid hz
      have hs:=Lib.hid (show farQ a b=true by unfold farQ;rw[decide_eq_true c1];simp)
      clear c0 c1
      go_wp2_with fail
      refine(sRatCmp_yes _ (hRb1.bl hbw) (hRa0.bl hbw) hco.out.1).mono ?_
      rw[hz.out]
      rintro e w3 ⟨rfl,hb_⟩
      have hx:=hx.bl hb_
      have hy:=hy.bl hb_
      have hbw:=hbw.next hb_
      obtain⟨x0,x1,x2,x3,x4,x5,x6,x7,x8,x9,x10,x11⟩:=bx12 hx
      obtain⟨y0,y1,y2,y3,y4,y5,y6,y7,y8,y9,y10,y11⟩:=bx12 hy
      clear hb_
      go_wp2_with fail
      go_ret
      exact⟨by rw[hs.out];rfl,slc⟩
    · obtain⟨z1,hz,hz1⟩:∃ z,cmpR (toR b.r) (toR a.l)=z∧¬ z≤0:=⟨_,rfl,by rw[hco.out.2,if_neg (by grind),if_pos (by grind)];omega⟩
      have hz:=Lib.hid hz
      go_wp2_with fail
      refine(sRatCmp_yes _ (hRb1.bl hbw) (hRa0.bl hbw) hco.out.1).mono ?_
      rw[hz.out]
      rintro e w3 ⟨rfl,hb_⟩
      have hx:=hx.bl hb_
      have hy:=hy.bl hb_
      have hbw:=hbw.next hb_
      obtain⟨x0,x1,x2,x3,x4,x5,x6,x7,x8,x9,x10,x11⟩:=bx12 hx
      obtain⟨y0,y1,y2,y3,y4,y5,y6,y7,y8,y9,y10,y11⟩:=bx12 hy
      clear hb_
      clear hco hz
      have hco:=Lib.hid (cmp_lt (p:=a.hi) (q:=b.lo) hsa.2.2 hsb.2.1)
      by_cases c2:a.hi≤b.lo
      · obtain⟨z,hz,hz2⟩:∃ z,cmpR (toR a.hi) (toR b.lo)=z∧z≤0:=⟨_,rfl,by rw[hco.out.2];split <;> (try split) <;> first | omega |(exfalso;grind)⟩
        have hz:=Lib.hid hz
        have hs:=Lib.hid (show farQ a b=true by unfold farQ;rw[decide_eq_true c2];simp)
        clear c0 c1 c2
        go_wp2_with fail
        refine(sRatCmp_yes _ (hRa3.bl hbw) (hRb2.bl hbw) hco.out.1).mono ?_
        rw[hz.out]
        rintro e w4 ⟨rfl,hb_⟩
        have hx:=hx.bl hb_
        have hy:=hy.bl hb_
        have hbw:=hbw.next hb_
        obtain⟨x0,x1,x2,x3,x4,x5,x6,x7,x8,x9,x10,x11⟩:=bx12 hx
        obtain⟨y0,y1,y2,y3,y4,y5,y6,y7,y8,y9,y10,y11⟩:=bx12 hy
        clear hb_
        go_wp2_with fail
        go_ret
        exact⟨by rw[hs.out];rfl,slc⟩
      · obtain⟨z2,hz,hz2⟩:∃ z,cmpR (toR a.hi) (toR b.lo)=z∧¬ z≤0:=⟨_,rfl,by rw[hco.out.2,if_neg (by grind),if_pos (by grind)];omega⟩
        have hz:=Lib.hid hz
        go_wp2_with fail
        refine(sRatCmp_yes _ (hRa3.bl hbw) (hRb2.bl hbw) hco.out.1).mono ?_
        rw[hz.out]
        rintro e w4 ⟨rfl,hb_⟩
        have hx:=hx.bl hb_
        have hy:=hy.bl hb_
        have hbw:=hbw.next hb_
        obtain⟨x0,x1,x2,x3,x4,x5,x6,x7,x8,x9,x10,x11⟩:=bx12 hx
        obtain⟨y0,y1,y2,y3,y4,y5,y6,y7,y8,y9,y10,y11⟩:=bx12 hy
        clear hb_
        clear hco hz
        have hco:=Lib.hid (cmp_lt (p:=b.hi) (q:=a.lo) hsb.2.2 hsa.2.1)
        by_cases c3:b.hi≤a.lo
        · obtain⟨z,hz,hz2⟩:∃ z,cmpR (toR b.hi) (toR a.lo)=z∧z≤0:=⟨_,rfl,by rw[hco.out.2];split <;> (try split) <;> first | omega |(exfalso;grind)⟩
          have hz:=Lib.hid hz
          have hs:=Lib.hid (show farQ a b=true by unfold farQ;rw[decide_eq_true c3];simp)
          clear c0 c1 c2 c3
          go_wp2_with fail
          refine(sRatCmp_yes _ (hRb3.bl hbw) (hRa2.bl hbw) hco.out.1).mono ?_
          rw[hz.out]
          rintro e w5 ⟨rfl,hb_⟩
          have hx:=hx.bl hb_
          have hy:=hy.bl hb_
          have hbw:=hbw.next hb_
          obtain⟨x0,x1,x2,x3,x4,x5,x6,x7,x8,x9,x10,x11⟩:=bx12 hx
          obtain⟨y0,y1,y2,y3,y4,y5,y6,y7,y8,y9,y10,y11⟩:=bx12 hy
          clear hb_
          go_wp2_with fail
          go_ret
          exact⟨by rw[hs.out];rfl,slc⟩
        · obtain⟨z3,hz,hz3⟩:∃ z,cmpR (toR b.hi) (toR a.lo)=z∧¬ z≤0:=⟨_,rfl,by rw[hco.out.2,if_neg (by grind),if_pos (by grind)];omega⟩
          have hz:=Lib.hid hz
          have hd:decide (z3≤0)=false:=decide_eq_false hz3
          have hs:=Lib.hid (show farQ a b=false by unfold farQ;rw[decide_eq_false c0,decide_eq_false c1,decide_eq_false c2,decide_eq_false c3];rfl)
          go_wp2_with fail
          refine(sRatCmp_yes _ (hRb3.bl hbw) (hRa2.bl hbw) hco.out.1).mono ?_
          rw[hz.out]
          rintro e w5 ⟨rfl,hb_⟩
          have hx:=hx.bl hb_
          have hy:=hy.bl hb_
          have hbw:=hbw.next hb_
          obtain⟨x0,x1,x2,x3,x4,x5,x6,x7,x8,x9,x10,x11⟩:=bx12 hx
          obtain⟨y0,y1,y2,y3,y4,y5,y6,y7,y8,y9,y10,y11⟩:=bx12 hy
          clear hb_
          go_wp2_with fail
          go_ret
          exact⟨by rw[hs.out];show Ending.returned (Value.bool (decide (z0≤0) || decide (z1≤0) || decide (z2≤0)))=_;rw[decide_eq_false (Int.not_le.2 hz0),decide_eq_false (Int.not_le.2 hz1),decide_eq_false (Int.not_le.2 hz2)];rfl,slc⟩
end

end Go.Proofs.YtjaapemopbbfaaaGreat
