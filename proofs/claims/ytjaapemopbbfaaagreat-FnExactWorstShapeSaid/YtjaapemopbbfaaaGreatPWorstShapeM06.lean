/- Lemmas. -/
import Derived.Test.YtjaapemopbbfaaaGreatRows
import Derived.Test.YtjaapemopbbfaaaGreatPWorstShapeM05
namespace Go.Proofs.YtjaapemopbbfaaaGreat
section
open Go.RowKit

/-- A value with u's limbs at cell k. -/
theorem Ow.atD {T:TypeId}{w:World}{g k:Nat}{l:List Nat}(h:Ow T w g (ints l)) (hk:k < l.length):w.cell? ⟨g,k,none⟩=some (.int .i64 ((dx l k:Nat):Int)):=by
  rw[h.cell (by rw[ints_len];exact hk),ix_ints]
theorem Ow.drewQ {T:TypeId}{w:World}{g:Nat}{l:List Int}(h:Ow T w g l) (q:Nat):Ow T (w.drewN q) g l:=h

set_option maxRecDepth 100000 in
set_option maxHeartbeats 8000000 in
theorem natDiv_long (w:World) {A B:Option Addr}{n m c d N M p t:Nat}(ha:IsN w A n c N) (hb:IsN w B m d M) (hn:n≤1048576) (hle:M≤N) (hmp:m=p+2) (hnt:n=m+t) :
    Calls Tryz.prog 164 #[.slice A n c,.slice B m d] w (DivPost 3 w N M):=by
  have hc:0≤cmpI N M:=by unfold cmpI;split <;> (try split) <;> omega
  have hle:=Lib.hid hle;rename_i hleo;clear hleo
  generalize hcc:cmpI N M=cc at hc
  have hm1:((m:Int) == 1)=false:=by simp;omega
  obtain⟨m1,em1⟩:∃ m1:Nat,m1=p+1:=⟨_,rfl⟩
  have e1:(m:Int) - 1=(m1:Int):=by omega
  have e2:(m:Int) - 2=(p:Int):=by omega
  have e3:(n:Int) - (m:Int)=(t:Int):=by omega
  obtain⟨bd,rfl,hltb,hcb⟩:=hb.atN (k:=m1) (by omega)
  have hby:=kv_by (M:=M) (p:=m1) (t:=dx (dig M) m1) (by rw[hb.lenN];omega) rfl
  have bx:=dx_lt (digs_dig M) m1
  rw[Bs_eq] at bx
  generalize dx (dig M) m1=x at *
  obtain⟨hx0,hb0,hbB,hbM⟩:=hby
  have hbe:1000000000 / ((x:Int)+1)=(((Bs / (x+1):Nat):Int)):=by rw[Bs_eq];simp
  have hbm1:m1+1=m:=by omega
  rw[hbm1] at hbM
  generalize Bs / (x+1)=b at *
  rw[Bs_eq] at hbB
  have hNM:b * N < Bs ^ (n+1):=by
    have h1:N < Bs ^ n:=dig_len_le.1 (by rw[ha.lenN];exact Nat.le_refl _)
    have h2:b * N < b * Bs ^ n:=Nat.mul_lt_mul_of_pos_left h1 hb0
    have h3:b * Bs ^ n≤Bs * Bs ^ n:=Nat.mul_le_mul_right _ (by rw[Bs_eq];omega)
    rw[Nat.pow_succ,Nat.mul_comm (Bs ^ n)]
    omega
  have hV0:0 < b * M:=Nat.mul_pos hb0 (dig_len_pos.1 (by rw[hb.lenN];omega))
  have hNl:N < Bs ^ n:=dig_len_le.1 (by rw[ha.lenN];exact Nat.le_refl _)
  have hMl:Bs ^ (m - 1)≤M:=by
    have:=canon_lower (canon_dig M) (by intro h;have:=hb.lenN;rw[h] at this;simp at this;omega)
    rwa [hb.lenN,val_dig] at this
  have hML:=hb.lenN
  have hmk:=make_ints (P:=Tryz.prog) Tryz.underlying27 info_int (t+1) (t+1) (Nat.le_refl _) (by omega)
  rw[show ((t+1:Nat):Int)=(t:Int)+1 from by omega] at hmk
  have hmn:m≤n:=by omega
  have hm2:2≤m:=by omega
  have hm1m:m1 < m:=by omega
  have htn:t < n:=by omega
  have hV0:=Lib.hid hV0;rename_i h_;clear h_
  have hNl:=Lib.hid hNl;rename_i h_;clear h_
  have hMl:=Lib.hid hMl;rename_i h_;clear h_
  have hML:=Lib.hid hML;rename_i h_;clear h_
  have hmp:=Lib.hid hmp;rename_i h_;clear h_
  have hnt:=Lib.hid hnt;rename_i h_;clear h_
  have em1:=Lib.hid em1;rename_i h_;clear h_
  have hbM:=Lib.hid hbM;rename_i h_;clear h_
  have hNM:=Lib.hid hNM;rename_i h_;clear h_
  have e2:=Lib.hid e2;rename_i h_;clear h_
  have hbm1:=Lib.hid hbm1;rename_i h_;clear h_
  go_enter Tryz.func164,Tryz.ntmps164
  go_wp2_with fail
  refine(natCmp_any _ ha hb (by omega) (by omega)).mono ?_
  rw[hcc]
  rintro e w1 ⟨rfl,q,rfl⟩
  clear hcc
  have hcb1:(w.drewN q).cell? (bd.add m1)=some (.int .i64 (x:Int)):=hcb
  go_wp2_with fail
  rw[show (n:Int)+1=((n+1:Nat):Int) from by omega]
  refine(scaled_any _ (ha.drewN q) (by omega) hbB (by omega) hNM.out).mono ?_
  rintro e w1 ⟨gU,u0,rfl,hgU,hU,hul,hud,huv,hb1⟩
  have hul:=Lib.hid hul;rename_i h_;clear h_
  have huv:=Lib.hid huv;rename_i h_;clear h_
  have hb1:Bl w w1:=Bl.next ((Bl.refl w).drewN q) hb1
  have hgU:w.heap.size≤gU:=hgU
  go_wp2_with fail
  refine(scaled_any _ (hb.bl hb1) (by omega) hbB (by omega) hbM.out).mono ?_
  rintro e w2 ⟨gV,v,rfl,hgV,hV,hvl,hvd,hvv,hb2⟩
  have hvl:=Lib.hid hvl;rename_i h_;clear h_
  have hvv:=Lib.hid hvv;rename_i h_;clear h_
  have hUV:gV≠gU:=by have:=hU.lt;omega
  have hgV:w.heap.size≤gV:=by have:=hb1.size;omega
  have hU:=hU.bl hb2
  have hUl:=hU.lt
  have hVl:=hV.lt
  have hb2:Bl w w2:=hb1.next hb2
  go_wp2_with fail
  clear hmk
  go_loopw [13] (fun i wr=> ∃ (K:Nat) (us os:List Nat),K≤t+1∧i=.int .i64 ((K:Int) - 1)∧LdRel (b * N) (val v) m n K us os∧Ow 3 wr gU (ints us)∧Ow 3 wr gV (ints v)∧Ow 3 wr w2.heap.size (ints os)∧Bl w wr) (fun i _ =>(intOf i+1).toNat)
  case atStart =>
    have hst:=LdRel.start (n:=m) (L:=n) hul.out hud huv.out hNl.out hMl.out hb0 (by omega) hmn
    rw[show n - m+1=t+1 from by omega,← hvv.out] at hst
    exact⟨t+1,u0,_,Nat.le_refl _,by go_num,hst,hU.alloc _,hV.alloc _,by rw[ints_replicate];exact Ow.mk w2 (t+1),hb2.alloc _⟩
  case round =>
    clear hU hV hul huv hud
    obtain⟨K,us,os,hK,rfl,hrel,hU,hV,hO,hbw⟩:=hrel
    obtain⟨wo,hwo⟩:∃ wo:World,wo=wr:=⟨_,rfl⟩
    subst hwo
    rcases K with _ | k
    · obtain⟨hs1,hs2,hs3⟩:=(show LdRel (b * N) (b * M) m n 0 us os by rw[← hvv.out];exact hrel).stop hb0
      have hus:=hrel.lenU
      have hdu:=hrel.digU
      have hos:=hrel.lenO
      have hdo:=hrel.digO
      clear hrel
      have hrd:=(RdI.of_ow (n:=n+1) (c:=n+1) hU (by rw[ints_len];exact hus) (by omega)).cut (m:=m) (by omega)
      have hval:Hid (val (us.take m)=b * (N % M)):=by unfold Hid;rw[← vf_take,hs3,hs2]
      have hs1:=Lib.hid hs1;rename_i h_;clear h_
      clear hs2 hs3
      have hos:=Lib.hid hos;rename_i h_;clear h_
      have hus:=Lib.hid hus;rename_i h_;clear h_
      go_wp2_with fail
      refine(trimmed_any _ hrd (digs_take hdu _)).mono ?_
      rintro e w3 ⟨m',rfl,hm',ht,q3,rfl⟩
      rw[hval.out] at ht
      have hrd2:=(hrd.drewN q3).cut hm'
      rw[ht] at hrd2
      clear ht
      go_wp2_with fail
      refine(divSmall_any _ hrd2 (by omega) hb0 hbB).mono ?_
      rintro e w4 ⟨A',n',c',rfl,hO4,hb4⟩
      rw[Nat.mul_div_cancel_left _ hb0] at hO4
      have hb3:Bl w (wo.drewN q3):=hbw.drewN q3
      have hO4:=hO4.mono0 (show w.heap.size≤_ from hb3.size)
      have hOs:=(hO.drewQ q3).bl hb4
      have hb4:=hb3.next hb4
      go_wp2_with fail
      refine(trimmed_any _ (l:=os) (RdI.of_ow (n:=t+1) (c:=t+1) hOs (by rw[ints_len,hos.out];have:=hnt.out;omega) (by omega)) hdo).mono ?_
      rintro e w5 ⟨m2,rfl,hm2',ht2,q5,rfl⟩
      rw[hs1.out] at ht2
      have hO5:=(OwI.of_ow (b0:=w.heap.size) (n:=t+1) (c:=t+1) hOs (by have:=hb2.size;omega) (by rw[ints_len,hos.out];have:=hnt.out;omega) (by omega) hm2' ht2).q ⟨q5,rfl⟩
      go_wp2_with fail
      go_ret2
      exact⟨_,_,_,_,_,_,rfl,hO5,hO4.q ⟨q5,rfl⟩,hb4.drewN q5⟩
    · have hvm:dx v m1=dx v (p+1):=by rw[em1.out]
      have hv1:0 < dx v m1:=kv_top (M:=M) (b:=b) (p:=m1) (by rw[hvl.out,hbm1.out]) hvd hvv.out (Nat.pos_of_mul_pos_right hV0.out) (by rw[hML.out,hbm1.out])
      have hvl2:v.length=p+2:=by rw[hvl.out,hmp.out]
      have hwin:=hrel.window
      rw[← hvv.out] at hV0
      have hwin':vf (fun i=> dx us (k+i)) (p+3) < Bs * val v:=by rw[show p+3=m+1 from by rw[hmp.out]];exact hwin
      have hus:=hrel.lenU
      have hdu:=hrel.digU
      obtain⟨i0,hi0⟩:∃ i0:Nat,i0=k+m:=⟨_,rfl⟩
      obtain⟨i1,hi1⟩:∃ i1:Nat,i1=k+m1:=⟨_,rfl⟩
      obtain⟨i2,hi2⟩:∃ i2:Nat,i2=k+p:=⟨_,rfl⟩
      have k0:k+(p+2)=i0:=by rw[hi0,hmp.out]
      have k1:k+(p+1)=i1:=by rw[hi1,em1.out]
      have hqs:=kq_start (f:=fun i=> dx us (k+i)) (fun i=> dx_lt hdu _) hvl2 (by rw[← hvm];exact hv1) hwin' hV0.out
      have hqn:=fun (q rest:Nat)=> kq_step (q:=q) (rest:=rest) (f:=fun i=> dx us (k+i)) (fun i=> dx_lt hdu _) hvl2 hV0.out
      have hqe:=fun (q rest:Nat) hq=> kq_exit (q:=q) (rest:=rest) (f:=fun i=> dx us (k+i)) hq hvd hvl2 (by rw[← hvm];exact hv1) hV0.out
      have hp3:p+3=m+1:=by rw[hmp.out]
      simp only[k0,k1,← hi2,← hvm,hp3] at hqs hqn hqe
      have hcv1:wo.cell? ⟨gV,m1,none⟩=_:=hV.atD (by rw[hvl.out];exact hm1m)
      have hcv2:wo.cell? ⟨gV,p,none⟩=_:=hV.atD (by rw[hvl2];omega)
      have hcu0:wo.cell? ⟨gU,i0,none⟩=_:=hU.atD (by rw[hus];have:=hnt.out;omega)
      have hcu1:wo.cell? ⟨gU,i1,none⟩=_:=hU.atD (by rw[hus];have:=hnt.out;omega)
      have hcu2:wo.cell? ⟨gU,i2,none⟩=_:=hU.atD (by rw[hus];have:=hnt.out;have:=hmp.out;omega)
      have b0:=dx_lt hdu i0
      have b1:=dx_lt hdu i1
      have b2:=dx_lt hdu i2
      have bv1:=dx_lt hvd m1
      have bv2:=dx_lt hvd p
      rw[Bs_eq] at b0 b1 b2 bv1 bv2
      generalize dx us i0=y0 at *
      generalize dx us i1=y1 at *
      generalize dx us i2=y2 at *
      generalize dx v m1=v1 at *
      generalize dx v p=v2 at *
      have ei0:(k:Int)+(m:Int)=(i0:Int):=by omega
      have ei1:(i0:Int) - 1=(i1:Int):=by have:=em1.out;have:=hmp.out;omega
      have ei2:(i0:Int) - 2=(i2:Int):=by have:=em1.out;have:=hmp.out;omega
      have e2:=e2.out
      have hi0n:i0 < n+1:=by have:=hnt.out;omega
      have hi1n:i1 < n+1:=by omega
      have hi2n:i2 < n+1:=by omega
      have hpm:p < m:=by have:=hmp.out;omega
      obtain⟨top,htop⟩:∃ top:Nat,top=y0 * Bs+y1:=⟨_,rfl⟩
      rw[← htop] at hqs hqn hqe
      rw[Bs_eq] at htop
      have etop:(y0:Int) * 1000000000+(y1:Int)=(top:Int):=by omega
      have htopb:top < 1000000000000000000:=by omega
      have hqs:=Lib.hid hqs;rename_i h_;clear h_
      have hqn:=Lib.hid hqn;rename_i h_;clear h_
      have hqe:=Lib.hid hqe;rename_i h_;clear h_
      have hwin:=Lib.hid hwin;rename_i h_;clear h_
      have hus:=Lib.hid hus;rename_i h_;clear h_
      have k0:=Lib.hid k0;rename_i h_;clear h_
      have k1:=Lib.hid k1;rename_i h_;clear h_
      have hi0:=Lib.hid hi0;rename_i h_;clear h_
      have hi1:=Lib.hid hi1;rename_i h_;clear h_
      have hi2:=Lib.hid hi2;rename_i h_;clear h_
      have htop:=Lib.hid htop;rename_i h_;clear h_
      clear hwin' hvl2 hvm
      have hVn:Hid (val v < Bs ^ m):=by unfold Hid;rw[hvv.out];exact hbM.out
      have hKt:k < t+1:=by omega
      obtain⟨d1,hd1⟩:∃ d1:Nat,d1=top / v1:=⟨_,rfl⟩
      have ed1:(top:Int) / (v1:Int)=(d1:Int):=by rw[hd1,Int.natCast_ediv]
      have hd1b:d1≤top:=by rw[hd1];exact Nat.div_le_self _ _
      have hd1p:d1 * v1≤top:=by rw[hd1];exact Nat.div_mul_le_self _ _
      have hqs:=hqs.out
      rw[← hd1,Bs_eq] at hqs
      have hd1:=Lib.hid hd1;rename_i h_;clear h_
      rcases Nat.lt_or_ge d1 999999999 with h9 | h9
      · rw[Nat.min_eq_right (by omega)] at hqs
        have hqs:=Lib.hid hqs;rename_i h_;clear h_
        obtain⟨pr,hpr⟩:∃ pr:Nat,pr=d1 * v1:=⟨_,rfl⟩
        rw[← hpr] at hd1p
        have epr:(d1:Int) * (v1:Int)=(pr:Int):=by rw[hpr,Int.natCast_mul]
        have hpr:=Lib.hid hpr;rename_i h_;clear h_
        go_wp2_with fail
        go_quiet (fail)
        go_wp2_with fail
        go_loopw [15,16] (fun qv rv wr=> ∃ q rest x:Nat,qv=.int .i64 (q:Int)∧rv=.int .i64 (rest:Int)∧Hid (q < Bs∧rest+q * v1=top∧vf (fun i=> dx us (k+i)) (m+1) / val v≤q)∧wr=wo.drewN x) (fun qv _ _ =>(intOf qv).toNat)
        case atStart=> exact⟨d1,top - pr,_,by go_num,by go_num,⟨by rw[Bs_eq];omega,by rw[← hpr.out];omega,hqs.out⟩,rfl⟩
        case round =>
          obtain⟨q,rest,x,rfl,rfl,hqq,rfl⟩:=hrel
          have hrt:rest≤top:=by have:=hqq.out.2.1;omega
          have hqB:q < 1000000000:=by have:=hqq.out.1;rwa [Bs_eq] at this
          have hq2:q * v2≤999999999 * 999999999:=Nat.mul_le_mul (by omega) (by omega)
          obtain⟨pr2,hpr2⟩:∃ pr2:Nat,pr2=q * v2:=⟨_,rfl⟩
          have epr2:(q:Int) * (v2:Int)=(pr2:Int):=by rw[hpr2,Int.natCast_mul]
          rw[← hpr2] at hq2
          by_cases hg:rest < 1000000000∧rest * 1000000000+y2 < pr2
          · obtain⟨hg1,hg2⟩:=hg
            have hnx:=hqn.out q rest hqq.out.2.1 (by rw[Bs_eq,← hpr2];exact hg2)
            obtain⟨hq0,hnx⟩:=hnx
            have hnx:=Lib.hid hnx;rename_i h_;clear h_
            have hpr2:=Lib.hid hpr2;rename_i h_;clear h_
            have hgi1:(rest:Int) < 1000000000:=by omega
            have hgi2:(rest:Int) * 1000000000+(y2:Int) < (pr2:Int):=by omega
            clear hg1 hg2
            go_wp2_with fail
            go_quiet (fail)
            go_wp2_with fail
            go_roundw
            case rel=> exact⟨q - 1,rest+v1,_,by go_num,by go_num,⟨by have:=hqq.out.1;omega,hnx.out.2,hnx.out.1⟩,rfl⟩
            case measure=> simp[intOf];omega
          · have hex:Bs≤rest∨q * v2≤rest * Bs+y2:=by rw[Bs_eq,← hpr2];omega
            have hge:=hqe.out q rest hqq.out.1 hqq.out.2.1 hex
            have hge:=Lib.hid hge;rename_i h_;clear h_
            clear hex
            have hpr2:=Lib.hid hpr2;rename_i h_;clear h_
            by_cases hg1:rest < 1000000000
            · have hg2:¬ (rest * 1000000000+y2 < pr2):=fun h=> hg ⟨hg1,h⟩
              have hgi1:(rest:Int) < 1000000000:=by omega
              have hgi2:decide ((rest:Int) * 1000000000+(y2:Int) < (pr2:Int))=false:=by simp;omega
              clear hg1 hg2 hg
              go_wp2_with fail
              go_quiet (fail)
              go_wp2_with fail
              rw[show i0+1 - k=m+1 from by have:=hi0.out;omega]
              have hoff:k+(m+1)≤us.length:=by rw[hus.out];have:=hi0.out;omega
              refine(subtract_any _ (hU.drewQ _) (hV.drewQ _) hUV hdu hvd hvl.out hoff (by rw[hus.out];omega) hqB).mono ?_
              rintro e w3 ⟨r,o,rfl,hr1,hU3,hol,hod,hsub,hfar,hog⟩
              have hog:Og gU wo w3:=⟨hog.os,hog.tape,hog.output,hog.size,hog.block⟩
              have hO3:=hO.og (show w2.heap.size≠gU by omega) hog
              have hV3:=hV.og hUV hog
              have hbw3:=hbw.og hog hgU
              have hkd:=fun c2 W2=> kn_digit (W:=vf (fun i=> dx us (k+i)) (m+1)) (n:=m) (c:=c2) (W2:=W2) hV0.out hVn.out hqq.out.2.2 hge.out hsub (vf_lt fun i _=> dx_lt hod _)
              have hsl:=fun q' u' hl hd hq hw hs=> hrel.step (q:=q') (us':=u') (by have:=hnt.out;omega) hVn.out hl hd hq hw hs hmn
              have hkd:=Lib.hid hkd;rename_i h_;clear h_
              have hsl:=Lib.hid hsl;rename_i h_;clear h_
              have hsub:=Lib.hid hsub;rename_i h_;clear h_
              have hoff:=Lib.hid hoff;rename_i h_;clear h_
              have hol:=Lib.hid (hol.trans hus.out);rename_i h_;clear h_
              obtain rfl | rfl:r=0∨r=1:=by omega
              · have hstep:=hsl.out q o (by rw[hol.out,hus.out]) hod ((hkd.out 0 0).1 rfl).1 ((hkd.out 0 0).1 rfl).2 hfar
                have hO1:=hO3.set k (q:Int)
                rw[← ints_set] at hO1
                have hfr:=hO3.frozen k
                have hOl:=hO3.lt
                have hlo:k < (ints os).length:=by rw[ints_len,hrel.lenO];have:=hnt.out;omega
                have hcell:=hO3.cell (k:=k) hlo
                clear hkd hsl hsub hfar hlo
                go_wp2_with fail
                go_roundw
                case rel=> exact⟨k,o,_,by omega,by go_num,hstep,hU3.setFar (by simp;omega) _,hV3.setFar (by simp;omega) _,hO1,hbw3.set (show _≤w2.heap.size from hb2.size) _⟩
                case measure=> simp[intOf]
              · have hnd:=fun c2 W2 =>(hkd.out c2 W2).2 rfl
                have hq1:=(hnd 0 0).1
                have hq2:=(hnd 0 0).2.1
                have hmend:=fun c2 W2 =>(hnd c2 W2).2.2
                clear hnd
                have hmend:=Lib.hid hmend;rename_i h_;clear h_
                have hq1:=Lib.hid hq1;rename_i h_;clear h_
                clear hkd
                go_wp2_with fail
                rw[show i0+1 - k=m+1 from by have:=hi0.out;omega]
                refine(addBack_any _ hU3 hV3 hUV hod hvd hvl.out (by rw[hol.out];have:=hi0.out;omega) (by rw[hol.out];omega)).mono ?_
                rintro e w4 ⟨rfl,o2,c1,hU4,hol2,hod2,hadd,hfar2,hog2⟩
                have hO4:=hO3.og (show w2.heap.size≠gU by omega) hog2
                have hV4:=hV3.og hUV hog2
                have hbw4:=hbw3.og hog2 hgU
                have hw2:=hmend.out _ _ hadd (vf_lt fun i _=> dx_lt hod2 _)
                have hstep:=hsl.out (q - 1) o2 (by rw[hol2,hol.out,hus.out]) hod2 hq1.out hw2 (fun j hj =>(hfar2 j hj).trans (hfar j hj))
                have eq1:((q - 1:Nat):Int)=(q:Int) - 1:=by omega
                have hO1:=hO4.set k ((q - 1:Nat):Int)
                rw[← ints_set,eq1] at hO1
                have hfr:=hO4.frozen k
                have hOl:=hO4.lt
                have hlo:k < (ints os).length:=by rw[ints_len,hrel.lenO];have:=hnt.out;omega
                have hcell:=hO4.cell (k:=k) hlo
                clear hsl hsub hfar hfar2 hadd hw2 hmend eq1 hlo
                go_wp2_with fail
                go_roundw
                case rel=> exact⟨k,o2,_,by omega,by go_num,hstep,hU4.setFar (by simp;omega) _,hV4.setFar (by simp;omega) _,hO1,hbw4.set (show _≤w2.heap.size from hb2.size) _⟩
                case measure=> simp[intOf]
            · have hgi1:decide ((rest:Int) < 1000000000)=false:=by simp;omega
              clear hg1 hg
              go_wp2_with fail
              go_quiet (fail)
              go_wp2_with fail
              rw[show i0+1 - k=m+1 from by have:=hi0.out;omega]
              have hoff:k+(m+1)≤us.length:=by rw[hus.out];have:=hi0.out;omega
              refine(subtract_any _ (hU.drewQ _) (hV.drewQ _) hUV hdu hvd hvl.out hoff (by rw[hus.out];omega) hqB).mono ?_
              rintro e w3 ⟨r,o,rfl,hr1,hU3,hol,hod,hsub,hfar,hog⟩
              have hog:Og gU wo w3:=⟨hog.os,hog.tape,hog.output,hog.size,hog.block⟩
              have hO3:=hO.og (show w2.heap.size≠gU by omega) hog
              have hV3:=hV.og hUV hog
              have hbw3:=hbw.og hog hgU
              have hkd:=fun c2 W2=> kn_digit (W:=vf (fun i=> dx us (k+i)) (m+1)) (n:=m) (c:=c2) (W2:=W2) hV0.out hVn.out hqq.out.2.2 hge.out hsub (vf_lt fun i _=> dx_lt hod _)
              have hsl:=fun q' u' hl hd hq hw hs=> hrel.step (q:=q') (us':=u') (by have:=hnt.out;omega) hVn.out hl hd hq hw hs hmn
              have hkd:=Lib.hid hkd;rename_i h_;clear h_
              have hsl:=Lib.hid hsl;rename_i h_;clear h_
              have hsub:=Lib.hid hsub;rename_i h_;clear h_
              have hoff:=Lib.hid hoff;rename_i h_;clear h_
              have hol:=Lib.hid (hol.trans hus.out);rename_i h_;clear h_
              obtain rfl | rfl:r=0∨r=1:=by omega
              · have hstep:=hsl.out q o (by rw[hol.out,hus.out]) hod ((hkd.out 0 0).1 rfl).1 ((hkd.out 0 0).1 rfl).2 hfar
                have hO1:=hO3.set k (q:Int)
                rw[← ints_set] at hO1
                have hfr:=hO3.frozen k
                have hOl:=hO3.lt
                have hlo:k < (ints os).length:=by rw[ints_len,hrel.lenO];have:=hnt.out;omega
                have hcell:=hO3.cell (k:=k) hlo
                clear hkd hsl hsub hfar hlo
                go_wp2_with fail
                go_roundw
                case rel=> exact⟨k,o,_,by omega,by go_num,hstep,hU3.setFar (by simp;omega) _,hV3.setFar (by simp;omega) _,hO1,hbw3.set (show _≤w2.heap.size from hb2.size) _⟩
                case measure=> simp[intOf]
              · have hnd:=fun c2 W2 =>(hkd.out c2 W2).2 rfl
                have hq1:=(hnd 0 0).1
                have hq2:=(hnd 0 0).2.1
                have hmend:=fun c2 W2 =>(hnd c2 W2).2.2
                clear hnd
                have hmend:=Lib.hid hmend;rename_i h_;clear h_
                have hq1:=Lib.hid hq1;rename_i h_;clear h_
                clear hkd
                go_wp2_with fail
                rw[show i0+1 - k=m+1 from by have:=hi0.out;omega]
                refine(addBack_any _ hU3 hV3 hUV hod hvd hvl.out (by rw[hol.out];have:=hi0.out;omega) (by rw[hol.out];omega)).mono ?_
                rintro e w4 ⟨rfl,o2,c1,hU4,hol2,hod2,hadd,hfar2,hog2⟩
                have hO4:=hO3.og (show w2.heap.size≠gU by omega) hog2
                have hV4:=hV3.og hUV hog2
                have hbw4:=hbw3.og hog2 hgU
                have hw2:=hmend.out _ _ hadd (vf_lt fun i _=> dx_lt hod2 _)
                have hstep:=hsl.out (q - 1) o2 (by rw[hol2,hol.out,hus.out]) hod2 hq1.out hw2 (fun j hj =>(hfar2 j hj).trans (hfar j hj))
                have eq1:((q - 1:Nat):Int)=(q:Int) - 1:=by omega
                have hO1:=hO4.set k ((q - 1:Nat):Int)
                rw[← ints_set,eq1] at hO1
                have hfr:=hO4.frozen k
                have hOl:=hO4.lt
                have hlo:k < (ints os).length:=by rw[ints_len,hrel.lenO];have:=hnt.out;omega
                have hcell:=hO4.cell (k:=k) hlo
                clear hsl hsub hfar hfar2 hadd hw2 hmend eq1 hlo
                go_wp2_with fail
                go_roundw
                case rel=> exact⟨k,o2,_,by omega,by go_num,hstep,hU4.setFar (by simp;omega) _,hV4.setFar (by simp;omega) _,hO1,hbw4.set (show _≤w2.heap.size from hb2.size) _⟩
                case measure=> simp[intOf]
      · rw[Nat.min_eq_left (by omega)] at hqs
        have hqs:=Lib.hid hqs;rename_i h_;clear h_
        have h9v:999999999 * v1≤top:=Nat.le_trans (Nat.mul_le_mul_right v1 h9) hd1p
        clear hd1p
        go_wp2_with fail
        go_quiet (fail)
        go_wp2_with fail
        go_loopw [15,16] (fun qv rv wr=> ∃ q rest x:Nat,qv=.int .i64 (q:Int)∧rv=.int .i64 (rest:Int)∧Hid (q < Bs∧rest+q * v1=top∧vf (fun i=> dx us (k+i)) (m+1) / val v≤q)∧wr=wo.drewN x) (fun qv _ _ =>(intOf qv).toNat)
        case atStart=> exact⟨999999999,top - 999999999 * v1,_,by go_num,by go_num,⟨by rw[Bs_eq];omega,by omega,hqs.out⟩,rfl⟩
        case round =>
          obtain⟨q,rest,x,rfl,rfl,hqq,rfl⟩:=hrel
          have hrt:rest≤top:=by have:=hqq.out.2.1;omega
          have hqB:q < 1000000000:=by have:=hqq.out.1;rwa [Bs_eq] at this
          have hq2:q * v2≤999999999 * 999999999:=Nat.mul_le_mul (by omega) (by omega)
          obtain⟨pr2,hpr2⟩:∃ pr2:Nat,pr2=q * v2:=⟨_,rfl⟩
          have epr2:(q:Int) * (v2:Int)=(pr2:Int):=by rw[hpr2,Int.natCast_mul]
          rw[← hpr2] at hq2
          by_cases hg:rest < 1000000000∧rest * 1000000000+y2 < pr2
          · obtain⟨hg1,hg2⟩:=hg
            have hnx:=hqn.out q rest hqq.out.2.1 (by rw[Bs_eq,← hpr2];exact hg2)
            obtain⟨hq0,hnx⟩:=hnx
            have hnx:=Lib.hid hnx;rename_i h_;clear h_
            have hpr2:=Lib.hid hpr2;rename_i h_;clear h_
            have hgi1:(rest:Int) < 1000000000:=by omega
            have hgi2:(rest:Int) * 1000000000+(y2:Int) < (pr2:Int):=by omega
            clear hg1 hg2
            go_wp2_with fail
            go_quiet (fail)
            go_wp2_with fail
            go_roundw
            case rel=> exact⟨q - 1,rest+v1,_,by go_num,by go_num,⟨by have:=hqq.out.1;omega,hnx.out.2,hnx.out.1⟩,rfl⟩
            case measure=> simp[intOf];omega
          · have hex:Bs≤rest∨q * v2≤rest * Bs+y2:=by rw[Bs_eq,← hpr2];omega
            have hge:=hqe.out q rest hqq.out.1 hqq.out.2.1 hex
            have hge:=Lib.hid hge;rename_i h_;clear h_
            clear hex
            have hpr2:=Lib.hid hpr2;rename_i h_;clear h_
            by_cases hg1:rest < 1000000000
            · have hg2:¬ (rest * 1000000000+y2 < pr2):=fun h=> hg ⟨hg1,h⟩
              have hgi1:(rest:Int) < 1000000000:=by omega
              have hgi2:decide ((rest:Int) * 1000000000+(y2:Int) < (pr2:Int))=false:=by simp;omega
              clear hg1 hg2 hg
              go_wp2_with fail
              go_quiet (fail)
              go_wp2_with fail
              rw[show i0+1 - k=m+1 from by have:=hi0.out;omega]
              have hoff:k+(m+1)≤us.length:=by rw[hus.out];have:=hi0.out;omega
              refine(subtract_any _ (hU.drewQ _) (hV.drewQ _) hUV hdu hvd hvl.out hoff (by rw[hus.out];omega) hqB).mono ?_
              rintro e w3 ⟨r,o,rfl,hr1,hU3,hol,hod,hsub,hfar,hog⟩
              have hog:Og gU wo w3:=⟨hog.os,hog.tape,hog.output,hog.size,hog.block⟩
              have hO3:=hO.og (show w2.heap.size≠gU by omega) hog
              have hV3:=hV.og hUV hog
              have hbw3:=hbw.og hog hgU
              have hkd:=fun c2 W2=> kn_digit (W:=vf (fun i=> dx us (k+i)) (m+1)) (n:=m) (c:=c2) (W2:=W2) hV0.out hVn.out hqq.out.2.2 hge.out hsub (vf_lt fun i _=> dx_lt hod _)
              have hsl:=fun q' u' hl hd hq hw hs=> hrel.step (q:=q') (us':=u') (by have:=hnt.out;omega) hVn.out hl hd hq hw hs hmn
              have hkd:=Lib.hid hkd;rename_i h_;clear h_
              have hsl:=Lib.hid hsl;rename_i h_;clear h_
              have hsub:=Lib.hid hsub;rename_i h_;clear h_
              have hoff:=Lib.hid hoff;rename_i h_;clear h_
              have hol:=Lib.hid (hol.trans hus.out);rename_i h_;clear h_
              obtain rfl | rfl:r=0∨r=1:=by omega
              · have hstep:=hsl.out q o (by rw[hol.out,hus.out]) hod ((hkd.out 0 0).1 rfl).1 ((hkd.out 0 0).1 rfl).2 hfar
                have hO1:=hO3.set k (q:Int)
                rw[← ints_set] at hO1
                have hfr:=hO3.frozen k
                have hOl:=hO3.lt
                have hlo:k < (ints os).length:=by rw[ints_len,hrel.lenO];have:=hnt.out;omega
                have hcell:=hO3.cell (k:=k) hlo
                clear hkd hsl hsub hfar hlo
                go_wp2_with fail
                go_roundw
                case rel=> exact⟨k,o,_,by omega,by go_num,hstep,hU3.setFar (by simp;omega) _,hV3.setFar (by simp;omega) _,hO1,hbw3.set (show _≤w2.heap.size from hb2.size) _⟩
                case measure=> simp[intOf]
              · have hnd:=fun c2 W2 =>(hkd.out c2 W2).2 rfl
                have hq1:=(hnd 0 0).1
                have hq2:=(hnd 0 0).2.1
                have hmend:=fun c2 W2 =>(hnd c2 W2).2.2
                clear hnd
                have hmend:=Lib.hid hmend;rename_i h_;clear h_
                have hq1:=Lib.hid hq1;rename_i h_;clear h_
                clear hkd
                go_wp2_with fail
                rw[show i0+1 - k=m+1 from by have:=hi0.out;omega]
                refine(addBack_any _ hU3 hV3 hUV hod hvd hvl.out (by rw[hol.out];have:=hi0.out;omega) (by rw[hol.out];omega)).mono ?_
                rintro e w4 ⟨rfl,o2,c1,hU4,hol2,hod2,hadd,hfar2,hog2⟩
                have hO4:=hO3.og (show w2.heap.size≠gU by omega) hog2
                have hV4:=hV3.og hUV hog2
                have hbw4:=hbw3.og hog2 hgU
                have hw2:=hmend.out _ _ hadd (vf_lt fun i _=> dx_lt hod2 _)
                have hstep:=hsl.out (q - 1) o2 (by rw[hol2,hol.out,hus.out]) hod2 hq1.out hw2 (fun j hj =>(hfar2 j hj).trans (hfar j hj))
                have eq1:((q - 1:Nat):Int)=(q:Int) - 1:=by omega
                have hO1:=hO4.set k ((q - 1:Nat):Int)
                rw[← ints_set,eq1] at hO1
                have hfr:=hO4.frozen k
                have hOl:=hO4.lt
                have hlo:k < (ints os).length:=by rw[ints_len,hrel.lenO];have:=hnt.out;omega
                have hcell:=hO4.cell (k:=k) hlo
                clear hsl hsub hfar hfar2 hadd hw2 hmend eq1 hlo
                go_wp2_with fail
                go_roundw
                case rel=> exact⟨k,o2,_,by omega,by go_num,hstep,hU4.setFar (by simp;omega) _,hV4.setFar (by simp;omega) _,hO1,hbw4.set (show _≤w2.heap.size from hb2.size) _⟩
                case measure=> simp[intOf]
            · have hgi1:decide ((rest:Int) < 1000000000)=false:=by simp;omega
              clear hg1 hg
              go_wp2_with fail
              go_quiet (fail)
              go_wp2_with fail
              rw[show i0+1 - k=m+1 from by have:=hi0.out;omega]
              have hoff:k+(m+1)≤us.length:=by rw[hus.out];have:=hi0.out;omega
              refine(subtract_any _ (hU.drewQ _) (hV.drewQ _) hUV hdu hvd hvl.out hoff (by rw[hus.out];omega) hqB).mono ?_
              rintro e w3 ⟨r,o,rfl,hr1,hU3,hol,hod,hsub,hfar,hog⟩
              have hog:Og gU wo w3:=⟨hog.os,hog.tape,hog.output,hog.size,hog.block⟩
              have hO3:=hO.og (show w2.heap.size≠gU by omega) hog
              have hV3:=hV.og hUV hog
              have hbw3:=hbw.og hog hgU
              have hkd:=fun c2 W2=> kn_digit (W:=vf (fun i=> dx us (k+i)) (m+1)) (n:=m) (c:=c2) (W2:=W2) hV0.out hVn.out hqq.out.2.2 hge.out hsub (vf_lt fun i _=> dx_lt hod _)
              have hsl:=fun q' u' hl hd hq hw hs=> hrel.step (q:=q') (us':=u') (by have:=hnt.out;omega) hVn.out hl hd hq hw hs hmn
              have hkd:=Lib.hid hkd;rename_i h_;clear h_
              have hsl:=Lib.hid hsl;rename_i h_;clear h_
              have hsub:=Lib.hid hsub;rename_i h_;clear h_
              have hoff:=Lib.hid hoff;rename_i h_;clear h_
              have hol:=Lib.hid (hol.trans hus.out);rename_i h_;clear h_
              obtain rfl | rfl:r=0∨r=1:=by omega
              · have hstep:=hsl.out q o (by rw[hol.out,hus.out]) hod ((hkd.out 0 0).1 rfl).1 ((hkd.out 0 0).1 rfl).2 hfar
                have hO1:=hO3.set k (q:Int)
                rw[← ints_set] at hO1
                have hfr:=hO3.frozen k
                have hOl:=hO3.lt
                have hlo:k < (ints os).length:=by rw[ints_len,hrel.lenO];have:=hnt.out;omega
                have hcell:=hO3.cell (k:=k) hlo
                clear hkd hsl hsub hfar hlo
                go_wp2_with fail
                go_roundw
                case rel=> exact⟨k,o,_,by omega,by go_num,hstep,hU3.setFar (by simp;omega) _,hV3.setFar (by simp;omega) _,hO1,hbw3.set (show _≤w2.heap.size from hb2.size) _⟩
                case measure=> simp[intOf]
              · have hnd:=fun c2 W2 =>(hkd.out c2 W2).2 rfl
                have hq1:=(hnd 0 0).1
                have hq2:=(hnd 0 0).2.1
                have hmend:=fun c2 W2 =>(hnd c2 W2).2.2
                clear hnd
                have hmend:=Lib.hid hmend;rename_i h_;clear h_
                have hq1:=Lib.hid hq1;rename_i h_;clear h_
                clear hkd
                go_wp2_with fail
                rw[show i0+1 - k=m+1 from by have:=hi0.out;omega]
                refine(addBack_any _ hU3 hV3 hUV hod hvd hvl.out (by rw[hol.out];have:=hi0.out;omega) (by rw[hol.out];omega)).mono ?_
                rintro e w4 ⟨rfl,o2,c1,hU4,hol2,hod2,hadd,hfar2,hog2⟩
                have hO4:=hO3.og (show w2.heap.size≠gU by omega) hog2
                have hV4:=hV3.og hUV hog2
                have hbw4:=hbw3.og hog2 hgU
                have hw2:=hmend.out _ _ hadd (vf_lt fun i _=> dx_lt hod2 _)
                have hstep:=hsl.out (q - 1) o2 (by rw[hol2,hol.out,hus.out]) hod2 hq1.out hw2 (fun j hj =>(hfar2 j hj).trans (hfar j hj))
                have eq1:((q - 1:Nat):Int)=(q:Int) - 1:=by omega
                have hO1:=hO4.set k ((q - 1:Nat):Int)
                rw[← ints_set,eq1] at hO1
                have hfr:=hO4.frozen k
                have hOl:=hO4.lt
                have hlo:k < (ints os).length:=by rw[ints_len,hrel.lenO];have:=hnt.out;omega
                have hcell:=hO4.cell (k:=k) hlo
                clear hsl hsub hfar hfar2 hadd hw2 hmend eq1 hlo
                go_wp2_with fail
                go_roundw
                case rel=> exact⟨k,o2,_,by omega,by go_num,hstep,hU4.setFar (by simp;omega) _,hV4.setFar (by simp;omega) _,hO1,hbw4.set (show _≤w2.heap.size from hb2.size) _⟩
                case measure=> simp[intOf]
end

section
open Go.RowKit

theorem natDiv_any (w:World) {A B:Option Addr}{n m c d N M:Nat}(ha:IsN w A n c N) (hb:IsN w B m d M) (hn:n≤1048576) (hm:m≤1048576) (h0:0 < M) :
    Calls Tryz.prog 164 #[.slice A n c,.slice B m d] w (DivPost 3 w N M):=by
  rcases Nat.lt_or_ge N M with hlt | hle
  · exact natDiv_less w ha hb hn hm hlt
  · have hm0:=dig_len_pos.2 h0
    have hnm:=dig_len_mono hle
    rw[hb.lenN] at hm0 hnm
    rw[ha.lenN] at hnm
    by_cases h1:m=1
    · subst h1
      exact natDiv_one w ha hb hn hle
    · exact natDiv_long w (p:=m - 2) (t:=n - m) ha hb hn hle (by omega) (by omega)

theorem RdI.inj {w:World}{A:Option Addr}{n c:Nat}{l l':List Int}(h:RdI w A n c l) (h':RdI w A n c l'):l=l':=by
  apply List.ext_getElem (by rw[h.len,h'.len])
  intro i h1 h2
  obtain⟨ad,e,_,hc⟩:=h.at_ (k:=i) (by rw[← h.len];exact h1)
  obtain⟨ad',e',_,hc'⟩:=h'.at_ (k:=i) (by rw[← h'.len];exact h2)
  rw[e] at e'
  injection e' with e'
  subst e'
  rw[hc] at hc'
  have:ix l i=ix l' i:=by simpa using hc'
  simpa [ix,h1,h2] using this
theorem IsN.inj {w:World}{A:Option Addr}{n c N M:Nat}(h:IsN w A n c N) (h':IsN w A n c M):N=M:=by
  have:=ints_inj (RdI.inj h h')
  rw[← val_dig N,this,val_dig]
open Classical in
/-- The number that a slice reads as. -/
noncomputable def numAt (w:World) (v:Value):Nat:=if h:∃ N,match v with | .slice A n c=> IsN w A n c N | _=> False then h.choose else 0
theorem numAt_eq {w:World}{A:Option Addr}{n c N:Nat}(h:IsN w A n c N):numAt w (.slice A n c)=N:=by
  have hx:∃ M,IsN w A n c M:=⟨N,h⟩
  unfold numAt
  simp only[]
  rw[dif_pos hx]
  exact IsN.inj hx.choose_spec h

set_option maxHeartbeats 4000000 in
theorem natGcd_any (w:World) {A B:Option Addr}{n m c d N M:Nat}(ha:IsN w A n c N) (hb:IsN w B m d M) (hn:n≤1048576) (hm:m≤1048576) :
    Calls Tryz.prog 152 #[.slice A n c,.slice B m d] w fun e w'=> ∃ A' n' c',e=.returned (.slice A' n' c')∧OwI 3 w.heap.size w' A' n' c' (ints (dig (Nat.gcd N M)))∧Bl w w':=by
  go_enter Tryz.func152,Tryz.ntmps152
  go_wp2_with fail
  go_loopw [0,1] (fun x y wr=> ∃ (A1 B1:Option Addr) (n1 c1 m1 d1 N1 M1:Nat),x=.slice A1 n1 c1∧y=.slice B1 m1 d1∧IsN wr A1 n1 c1 N1∧IsN wr B1 m1 d1 M1∧n1≤1048576∧m1≤1048576∧Hid (Nat.gcd N1 M1=Nat.gcd N M)∧Bl w wr) (fun _ y wr=> numAt wr y)
  case atStart=> exact⟨A,B,n,c,m,d,N,M,rfl,rfl,ha,hb,hn,hm,rfl,Bl.refl w⟩
  case round =>
    obtain⟨A1,B1,n1,c1,m1,d1,N1,M1,rfl,rfl,ha1,hb1,hn1,hm1,hg,hbw⟩:=hrel
    have hml:=Lib.hid hb1.lenN
    by_cases h0:m1=0
    · subst h0
      have hM:M1=0:=by
        have:=dig_len_pos (n:=M1)
        rw[hml.out] at this
        omega
      have hN:Hid (N1=Nat.gcd N M):=by unfold Hid;rw[← hg.out,hM,Nat.gcd_zero_right]
      clear hM
      go_wp2_with fail
      refine(Clone_any _ ha1 hn1).mono ?_
      rintro e w2 ⟨A',n',c',rfl,hO,hb2⟩
      rw[hN.out] at hO
      have hb3:=hbw.next hb2
      have hO:=hO.mono0 (show w.heap.size≤_ from hbw.size)
      go_wp2_with fail
      go_ret
      exact⟨_,_,_,rfl,hO,hb3⟩
    · have hM:0 < M1:=by
        have:=dig_len_pos (n:=M1)
        rw[hml.out] at this
        omega
      have h0i:0 < (m1:Int):=by omega
      have hgn:Hid (Nat.gcd M1 (N1 % M1)=Nat.gcd N M):=by unfold Hid;rw[← hg.out,Nat.gcd_comm N1 M1,Nat.gcd_rec M1 N1,Nat.gcd_comm]
      have hmd:=Nat.mod_lt N1 hM
      have hnm:=numAt_eq hb1
      go_wp2_with fail
      refine(natDiv_any _ ha1 hb1 hn1 hm1 hM).mono ?_
      rintro e w2 ⟨A2,n2,c2,A3,n3,c3,rfl,hO2,hO3,hb2⟩
      have hb3:=hbw.next hb2
      have hn3:n3≤1048576:=by
        have h1:=dig_len_mono (Nat.le_of_lt hmd)
        rw[hO3.rd.lenN,hml.out] at h1
        omega
      have hnm3:=numAt_eq hO3.rd
      have hb1':=hb1.bl hb2
      go_wp2_with fail
      go_roundw
      case rel=> exact⟨_,_,_,_,_,_,_,_,rfl,rfl,hb1',hO3.rd,hm1,hn3,hgn,hb3⟩
      case measure=> rw[hnm,hnm3];exact hmd
end

end Go.Proofs.YtjaapemopbbfaaaGreat
