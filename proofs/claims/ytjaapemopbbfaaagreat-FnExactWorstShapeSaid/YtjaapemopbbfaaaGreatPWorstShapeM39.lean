/- Lemmas. -/
import Derived.Test.YtjaapemopbbfaaaGreatRows
import Derived.Test.YtjaapemopbbfaaaGreatPWorstShapeM36
import Derived.Test.YtjaapemopbbfaaaGreatPWorstShapeM35
import Derived.IntWalk
import Derived.Deep.Cut
import Derived.Deep.DeepCutAuto
namespace Go.Proofs.YtjaapemopbbfaaaGreat
section
open Go.RowKit

/-- The first k points are small, and so are their denominators. -/
def PlA (pts:List (Rat × Rat)) (k:Nat):Prop:=(∀ i,i < k→SmQ (pix pts i).1∧SmQ (pix pts i).2)∧∀ i,i < k→shS (shTo pts i) (pix pts i).1.den≤268435456∧shTo pts (i+1)≤268435456
def PlJ (pts:List (Rat × Rat)) (k j:Nat):Prop:=(1≤j→SmQ (pix pts k).1∧shS (shTo pts k) (pix pts k).1.den≤268435456)∧(2≤j→SmQ (pix pts k).2∧shTo pts (k+1)≤268435456)
def PlZ (pts:List (Rat × Rat)) (k:Nat):Prop:=∀ i,i < k→(-536870912≤plX pts (shTo pts pts.length) i∧plX pts (shTo pts pts.length) i≤536870912)∧-536870912≤plY pts (shTo pts pts.length) i∧plY pts (shTo pts pts.length) i≤536870912
theorem PlA.le {pts:List (Rat × Rat)}{k:Nat}(h:PlA pts k):shTo pts k≤268435456:=by
  rcases k with _ | k
  · exact(by decide:(1:Nat)≤268435456)
  · exact(h.2 k (by omega)).2
theorem PlA.step {pts:List (Rat × Rat)}{k:Nat}(h:PlA pts k) (hj:PlJ pts k 2):PlA pts (k+1):=by
  obtain⟨h1,h2⟩:=h
  obtain⟨a,b⟩:=hj
  have a:=a (by omega)
  have b:=b (by omega)
  refine⟨fun i hi=> ?_,fun i hi=> ?_⟩
  · rcases(show i < k∨i=k by omega) with h | rfl
    · exact h1 i h
    · exact⟨a.1,b.1⟩
  · rcases(show i < k∨i=k by omega) with h | rfl
    · exact h2 i h
    · exact⟨a.2,b.2⟩
theorem PlA.ok {pts:List (Rat × Rat)}(h:PlA pts pts.length) (hz:PlZ pts pts.length):PlOk pts:=by
  refine⟨h.1,h.2,fun i hi=> ?_⟩
  rw[ix_plXs pts hi,ix_plYs pts hi]
  obtain⟨⟨a,b⟩,c,d⟩:=hz i hi
  exact⟨a,b,c,d⟩
def rjQ (pts:List (Rat × Rat)) (k:Nat):Nat→Rat
  | 0 =>(pix pts k).1
  | _ =>(pix pts k).2
theorem shIn_le {pts:List (Rat × Rat)}{k j:Nat}(h:PlA pts k) (hj:PlJ pts k j) (h2:j < 2):shIn pts k j≤268435456:=by
  rcases(show j=0∨j=1 by omega) with rfl | rfl
  · exact h.le
  · exact(hj.1 (by omega)).2
theorem shIn_succ (pts:List (Rat × Rat)) (k:Nat) {j:Nat}(h2:j < 2):shIn pts k (j+1)=shS (shIn pts k j) (rjQ pts k j).den:=by
  rcases(show j=0∨j=1 by omega) with rfl | rfl <;> rfl
theorem PlJ.step {pts:List (Rat × Rat)}{k j:Nat}(hj:PlJ pts k j) (h2:j < 2) (hs:SmQ (rjQ pts k j)) (hl:shIn pts k (j+1)≤268435456):PlJ pts k (j+1):=by
  rcases(show j=0∨j=1 by omega) with rfl | rfl
  · exact⟨fun _ =>⟨hs,hl⟩,fun h=> by omega⟩
  · exact⟨fun _=> hj.1 (by omega),fun _ =>⟨hs,hl⟩⟩
theorem smQ_of {q:Rat}(h1:(toR q).mag.length≤1) (h2:(toR q).den.length=1):SmQ q:=by
  have h1:(ints (dig q.num.natAbs)).length≤1:=h1
  have h2:(ints (dig q.den)).length=1:=h2
  rw[ints_len] at h1 h2
  have a:=dig_len_le.1 h1
  have b:=dig_len_le.1 (show (dig q.den).length≤1 by omega)
  rw[Nat.pow_one,Bs_eq] at a b
  exact⟨a,b⟩
theorem PlZ.step {pts:List (Rat × Rat)}{i:Nat}(h:PlZ pts i) (hx : -536870912≤plX pts (shTo pts pts.length) i∧plX pts (shTo pts pts.length) i≤536870912) (hy : -536870912≤plY pts (shTo pts pts.length) i∧plY pts (shTo pts pts.length) i≤536870912):PlZ pts (i+1):=by
  intro j hj
  rcases(show j < i∨j=i by omega) with h1 | rfl
  · exact h j h1
  · exact⟨hx,hy⟩

def PlQ (w:World) (gp n cp:Nat) (pts:List (Rat × Rat)) (en:Ending) (w':World):Prop :=
  (PlOk pts∧PlRes w gp n cp pts en w')∨(en=.returned (.agg #[.slice (some ⟨gp,0,none⟩) n cp,.slice none 0 0,.slice none 0 0])∧Bl w w')
set_option maxRecDepth 100000 in
set_option maxHeartbeats 32000000 in
theorem place_q (w:World) {gp n cp:Nat}{pts:List (Rat × Rat)}(hp:RdPS w (some ⟨gp,0,none⟩) n cp (pts.map tp)) (h3:3≤n) (h40:n≤1048576) :
    Calls Tryz.prog 57 #[.slice (some ⟨gp,0,none⟩) n cp] w (PlQ w gp n cp pts):=by
  have hlen:=Lib.hid (show pts.length=n by rw[← hp.len,List.length_map])
  go_enter Tryz.func57,Tryz.ntmps57
  go_wp2_with fail
  refine wp_gen (fun W=> Bl w W∧Wk 3 90 w.heap.size W∧Blk W (w.heap.size+1) 90 #[.slice (some ⟨gp,0,none⟩) n cp,.slice none 0 0,.slice none 0 0]) ⟨slc,bts,bts⟩ ?_
  rintro W ⟨hbW,hRs,hO⟩
  have hRl:=hRs.lt
  have hOl:=hO.lt
  go_loopw [4,23] (fun s i wr=> ∃ k:Nat,k≤n∧i=.int .i64 (k:Int)∧s=.int .i64 (shTo pts k:Int)∧Hid (PlA pts k)∧Bl W wr) (fun _ i _=> n - (intOf i).toNat)
  case atStart=> exact⟨0,by omega,rfl,rfl,Lib.hid ⟨fun i hi=> by omega,fun i hi=> by omega⟩,Bl.refl _⟩
  case round =>
    obtain⟨k,hk,rfl,rfl,hpre,hbw⟩:=hrel
    obtain⟨wo,rfl⟩:∃ wo:World,wo=wr:=⟨_,rfl⟩
    by_cases hkn:k < n
    · have hki:(k:Int) < (n:Int):=by omega
      obtain⟨sq,Aq,nq,cq,Bq,mq,dq,tq,Cq,iq,eq,Dq,jq,fq,⟨y0,y1,y2,y3,y4,y5⟩,hR1,hR2⟩:=pts_lit (RdPS.bl hp (hbW.next hbw)) hkn
      rw[pix_map (by rw[hlen.out];exact hkn)] at hR1 hR2
      go_wp2_with fail
      refine wp_gen (fun W2=> Bl wo W2∧∃ gs,Blk W2 gs 31 #[.bool sq,.slice Aq nq cq,.slice Bq mq dq,.bool tq,.slice Cq iq eq,.slice Dq jq fq]∧gs=wo.heap.size+1) ⟨by exact slc,_,by exact bts,rfl⟩ ?_
      rintro W2 ⟨hb2,gs,hBs,hgs⟩
      rw[← hgs]
      clear hgs y0 y1 y2 y3 y4 y5
      have hb2s:=hb2
      go_loopw [4,33] (fun s i wr=> ∃ j:Nat,j≤2∧i=.int .i64 (j:Int)∧s=.int .i64 (shIn pts k j:Int)∧Hid (PlJ pts k j)∧Bl W2 wr) (fun _ i _=> 2 - (intOf i).toNat)
      case atStart=> exact⟨0,by omega,rfl,rfl,Lib.hid ⟨fun h=> by omega,fun h=> by omega⟩,Bl.refl _⟩
      case round =>
        obtain⟨j,hj,rfl,rfl,hpj,hbj⟩:=hrel
        by_cases hj2:j < 2
        · have hji:(j:Int) < 2:=by omega
          obtain⟨wj,rfl⟩:∃ wj:World,wj=wr:=⟨_,rfl⟩
          have hcell:∃ (s:Bool) (A:Option Addr) (n1 c:Nat) (B:Option Addr) (m d:Nat),(wj.cell? ⟨gs,j * 3,none⟩=some (.bool s)∧wj.cell? ⟨gs,j * 3+1,none⟩=some (.slice A n1 c)∧wj.cell? ⟨gs,j * 3+2,none⟩=some (.slice B m d))∧RdR wj s A n1 c B m d (toR (rjQ pts k j)):=by
            obtain⟨y0,y1,y2,y3,y4,y5⟩:=bx6 (hBs.bl hbj)
            rcases(show j=0∨j=1 by omega) with rfl | rfl
            · exact⟨_,_,_,_,_,_,_,⟨y0,y1,y2⟩,RdR.bl hR1 (hb2s.next hbj)⟩
            · exact⟨_,_,_,_,_,_,_,⟨y3,y4,y5⟩,RdR.bl hR2 (hb2s.next hbj)⟩
          obtain⟨sr,Ar,nr,cr,Br,mr,dr,⟨y0,y1,y2⟩,hR⟩:=hcell
          have hsu:=Lib.hid (shIn_succ pts k hj2)
          have hSl:=Lib.hid (shIn_le hpre.out hpj.out hj2)
          have hpst:=Lib.hid (fun h1 h2=> hpj.out.step hj2 h1 h2)
          clear hpj
          obtain⟨r,hr⟩:∃ r,rjQ pts k j=r:=⟨_,rfl⟩
          rw[hr] at hR hsu hpst
          clear hr
          have hbb:=(hbw.next hb2).next hbj
          by_cases hsm:nr≤1∧mr=1
          · obtain⟨hl1,rfl⟩:=hsm
            have hsq:=Lib.hid (smQ_of (by rw[hR.mag.len];exact hl1) hR.den.len)
            have hpst:=Lib.hid (hpst.out hsq.out)
            obtain⟨S,hS⟩:∃ S,shIn pts k j=S:=⟨_,rfl⟩
            rw[hS] at hsu hSl ⊢
            have hS1:S≤268435456:=hSl.out
            obtain⟨D,hD⟩:∃ D,r.den=D:=⟨_,rfl⟩
            have hD0:0 < D:=by rw[← hD];exact r.den_pos
            have hD1:D < 1000000000:=by rw[← hD];exact hsq.out.2
            have hPe:=hsu.out
            rw[hD] at hPe
            obtain⟨G,hG⟩:∃ G,Nat.gcd S D=G:=⟨_,rfl⟩
            have hG0:0 < G:=by rw[← hG];exact Nat.gcd_pos_of_pos_right _ hD0
            unfold shS at hPe
            rw[hG] at hPe
            obtain⟨Q,hQ⟩:∃ Q,S / G=Q:=⟨_,rfl⟩
            rw[hQ] at hPe
            obtain⟨R,hRR⟩:∃ R,Q * D=R:=⟨_,rfl⟩
            rw[hRR] at hPe
            have e1:(S:Int) / (G:Int)=(Q:Int):=by rw[← hQ];exact(Int.natCast_ediv S G).symm
            have e2:(Q:Int) * (D:Int)=(R:Int):=by rw[← hRR];exact(Int.natCast_mul Q D).symm
            have hQ1:Q≤268435456:=by rw[← hQ];exact Nat.le_trans (Nat.div_le_self _ _) hS1
            have hR1:R≤268435456 * 1000000000:=by rw[← hRR];exact Nat.mul_le_mul hQ1 (by omega)
            have hPe:=Lib.hid hPe;rename_i h_;clear h_
            have hGe:=Lib.hid hG
            clear hS hQ hRR hsu hSl
            have hDe:=Lib.hid hD
            clear hD hG
            have hG2:(0:Int) < (G:Int):=by omega
            go_wp2_with fail
            refine calls_gen (fun W5=> Bl wj W5∧∃ g8,Blk W5 g8 31 #[.bool sr,.slice Ar nr cr,.slice Br 1 dr]∧g8=wj.heap.size) ⟨by exact slc,_,by exact bts,rfl⟩ ?_
            rintro W5 ⟨hb5,g8,h8,hg8⟩
            rw[← hg8]
            clear hg8 y0 y1 y2
            refine(isSmall_yes _ hl1 rfl).mono ?_
            rintro e v0 ⟨rfl,hv0⟩
            have h8:=h8.bl hv0
            obtain⟨u0,u1,u2⟩:=bx3 h8
            have hg8l:=h8.lt
            have hb6:=hb5.next hv0
            clear hb5 hv0
            go_wp2_with fail
            refine(small_any _ (RdR.bl hR hb6) hl1).mono ?_
            rintro e v1 ⟨rfl,hv1⟩
            rw[hDe.out]
            have hb7:=hb6.next hv1
            clear hb6 hv1 u0 u1 u2
            go_wp2_with fail
            refine(gcd_any _ S D (by omega) (by omega)).mono ?_
            rw[hGe.out]
            rintro e v2 ⟨rfl,q2,rfl⟩
            have hb8:Bl wj (v1.drewN q2):=hb7.drewN q2
            clear hb7
            generalize v1.drewN q2=v3 at hb8 ⊢
            by_cases hRle:R≤268435456
            · have hRl2:¬ (268435456:Int) < (R:Int):=by omega
              have hpn:=Lib.hid (hpst.out (by rw[hPe.out];exact hRle))
              clear hpst
              go_wp2_with fail
              go_roundw
              case rel=> exact⟨j+1,by omega,by go_num,by rw[hPe.out],hpn,hbj.next hb8⟩
              case measure=> simp[intOf];omega
            · have hRl2:(268435456:Int) < (R:Int):=by omega
              have hblF:=hbb.next hb8
              clear hpst
              have hO9:=hO.bl hblF
              have hR9:=hRs.bl hblF
              obtain⟨o0,o1,o2⟩:=bx3 hO9
              obtain⟨v0_,x0⟩:=hR9.val_ (i:=0) (by omega)
              obtain⟨v1_,x1⟩:=hR9.val_ (i:=1) (by omega)
              obtain⟨v2_,x2⟩:=hR9.val_ (i:=2) (by omega)
              obtain⟨cs4,hB4,hc4⟩:=hR9
              have hf0:=hB4.frozen 0
              have hf1:=hB4.frozen 1
              have hf2:=hB4.frozen 2
              go_wp2_with fail
              exact bodyPost_ret (v:=.agg #[.slice (some ⟨gp,0,none⟩) n cp,.slice none 0 0,.slice none 0 0]) (by simp[results,Tryz.results57,go_sem,x0,x1,x2]) rfl (.inr ⟨rfl,by exact slc⟩)

          · have hsm:=Lib.hid hsm;rename_i h_;clear h_
            go_wp2_with fail
            refine calls_gen (fun W5=> Bl wj W5) slc ?_
            intro W5 hb5
            clear y0 y1 y2
            refine(isSmall_no _ hsm.out).mono ?_
            rintro e v0 ⟨rfl,hv0⟩
            have hblF:=hbb.next (hb5.next hv0)
            have hO9:=hO.bl hblF
            have hR9:=hRs.bl hblF
            obtain⟨o0,o1,o2⟩:=bx3 hO9
            obtain⟨v0_,x0⟩:=hR9.val_ (i:=0) (by omega)
            obtain⟨v1_,x1⟩:=hR9.val_ (i:=1) (by omega)
            obtain⟨v2_,x2⟩:=hR9.val_ (i:=2) (by omega)
            obtain⟨cs4,hB4,hc4⟩:=hR9
            have hf0:=hB4.frozen 0
            have hf1:=hB4.frozen 1
            have hf2:=hB4.frozen 2
            go_wp2_with fail
            exact bodyPost_ret (v:=.agg #[.slice (some ⟨gp,0,none⟩) n cp,.slice none 0 0,.slice none 0 0]) (by simp[results,Tryz.results57,go_sem,x0,x1,x2]) rfl (.inr ⟨rfl,by exact slc⟩)
        · obtain rfl:j=2:=by omega
          have e0:((2:Nat):Int)=2:=rfl
          rw[e0]
          clear e0 hj
          have hpn:=Lib.hid (hpre.out.step hpj.out)
          clear hpj
          go_wp2_with fail
          go_roundw
          case rel=> exact⟨k+1,by omega,by go_num,rfl,hpn,(hbw.next hb2).next hbj⟩
          case measure=> simp[intOf];omega
    · obtain rfl:k=n:=by omega
      have hkm2:¬ (k:Int) < (k:Int):=by omega
      go_wp2_with fail
      have hmsz:∀ X:World,(X.alloc (.cells #[] 3)).heap.size=X.heap.size+1:=fun X=> by simp
      refine wp_gen (fun W3=> Bl wo W3∧∃ vx vy cx cy,OwL 3 wo.heap.size W3 vx []∧OwL 3 wo.heap.size W3 vy []∧vx=.slice (some ⟨wo.heap.size,0,none⟩) 0 cx∧vy=.slice (some ⟨wo.heap.size+1,0,none⟩) 0 cy∧cx=0∧cy=0) ⟨by exact slc,_,_,0,0,(OwL.empty wo (Nat.le_refl _) (by decide)).alloc _,OwL.empty (wo.alloc (.cells #[] 3)) (by simp) (by decide),rfl,by rw[hmsz];rfl,rfl,rfl⟩ ?_
      rintro W3 ⟨hb3,vx,vy,cx,cy,hX,hY,hvx,hvy,rfl,rfl⟩
      rw[← hvx,← hvy]
      have hxy:∀ g,vx.ownBlock=Option.some g→vy.ownBlock≠Option.some g:=by
        rw[hvx,hvy]
        intro g e1 e2
        injection e1 with e1
        injection e2 with e2
        simp only at e1 e2
        omega
      clear hvx hvy hmsz
      have hSe:Hid (shTo pts k=shTo pts pts.length):=Lib.hid (by rw[hlen.out])
      obtain⟨S,hS⟩:∃ S,shTo pts k=S:=⟨_,rfl⟩
      rw[hS] at hSe ⊢
      have hS1:S≤268435456:=by rw[← hS];exact hpre.out.le
      clear hS
      go_loopw [11,12,62] (fun sx sy v wr=> ∃ (i:Nat) (vx vy:Value),i≤k∧v=.int .i64 (i:Int)∧vx=sx∧vy=sy∧OwL 3 wo.heap.size wr vx (plXs pts i)∧OwL 3 wo.heap.size wr vy (plYs pts i)∧(∀ g,vx.ownBlock=Option.some g→vy.ownBlock≠Option.some g)∧Hid (PlZ pts i)∧Bl wo wr) (fun _ _ v _=> k - (intOf v).toNat)
      case atStart=> exact⟨0,vx,vy,by omega,rfl,rfl,rfl,hX,hY,hxy,Lib.hid (fun i hi=> by omega),hb3⟩
      case round =>
        clear hX hY hxy hb3
        obtain⟨i,vx,vy,hi,rfl,rfl,rfl,hX,hY,hxy,hpz,hbi⟩:=hrel
        obtain⟨wj,rfl⟩:∃ wj:World,wj=wr:=⟨_,rfl⟩
        have hbWj:=(hbW.next hbw).next hbi
        by_cases hin:i < k
        · have hki:(i:Int) < (k:Int):=by omega
          obtain⟨sq,Aq,nq,cq,Bq,mq,dq,tq,Cq,iq,eq,Dq,jq,fq,⟨y0,y1,y2,y3,y4,y5⟩,hR1,hR2⟩:=pts_lit (RdPS.bl hp hbWj) hin
          rw[pix_map (by rw[hlen.out];exact hin)] at hR1 hR2
          have hsm1:=Lib.hid (hpre.out.1 i hin).1
          have hsm2:=Lib.hid (hpre.out.1 i hin).2
          have hzs:=hpz.out.step
          rw[← hSe.out] at hzs
          have hzs:=Lib.hid hzs;rename_i h_;clear h_
          clear hpz
          have hl1:nq≤1:=by rw[← hR1.mag.len];exact hsm1.out.mag
          have hl2:iq≤1:=by rw[← hR2.mag.len];exact hsm2.out.mag
          obtain rfl:mq=1:=by rw[← hR1.den.len];exact hsm1.out.den
          obtain rfl:jq=1:=by rw[← hR2.den.len];exact hsm2.out.den
          have hXs:=plXs_succ pts i
          have hYs:=plYs_succ pts i
          rw[← hSe.out] at hXs hYs
          obtain⟨Nx,hNx⟩:∃ N,(pix pts i).1.num=N:=⟨_,rfl⟩
          obtain⟨Dx,hDx⟩:∃ D,(pix pts i).1.den=D:=⟨_,rfl⟩
          obtain⟨Qx,hQx⟩:∃ Q,S / Dx=Q:=⟨_,rfl⟩
          have hD0x:0 < Dx:=by rw[← hDx];exact(pix pts i).1.den_pos
          have hD1x:Dx < 1000000000:=by rw[← hDx];exact hsm1.out.2
          have hN1x:Nx.natAbs < 1000000000:=by rw[← hNx];exact hsm1.out.1
          have hQ1x:Qx≤268435456:=by rw[← hQx];exact Nat.le_trans (Nat.div_le_self _ _) hS1
          have hplx:plX pts S i=Nx * (Qx:Int):=by unfold plX;rw[hNx,hDx,hQx]
          obtain⟨Zx,hZx⟩:∃ Z,Nx * (Qx:Int)=Z:=⟨_,rfl⟩
          rw[hZx] at hplx
          have hzbx:(Nx * (Qx:Int)).natAbs≤1000000000 * 268435456:=by rw[Int.natAbs_mul];exact Nat.mul_le_mul (by omega) (by omega)
          rw[hZx] at hzbx
          have t1x:Int.tdiv (S:Int) (Dx:Int)=(Qx:Int):=by rw[← hQx];exact(Int.ofNat_tdiv S Dx).symm
          have t5x:(S:Int) / (Dx:Int)=(Qx:Int):=by rw[← hQx];exact(Int.natCast_ediv S Dx).symm
          have t2x:IntKind.i64.wrap (Qx:Int)=(Qx:Int):=IntWalk.i64_in _ (by omega)
          have t3x:IntKind.i64.wrap (Nx * (Qx:Int))=Zx:=by rw[hZx];exact IntWalk.i64_in _ (by omega)
          have t4x:¬ (Dx:Int)=0:=by omega
          have hplx:=Lib.hid hplx;rename_i h_;clear h_
          have hNex:=Lib.hid hNx
          have hDex:=Lib.hid hDx
          clear hNx hDx hQx hZx
          obtain⟨Ny,hNy⟩:∃ N,(pix pts i).2.num=N:=⟨_,rfl⟩
          obtain⟨Dy,hDy⟩:∃ D,(pix pts i).2.den=D:=⟨_,rfl⟩
          obtain⟨Qy,hQy⟩:∃ Q,S / Dy=Q:=⟨_,rfl⟩
          have hD0y:0 < Dy:=by rw[← hDy];exact(pix pts i).2.den_pos
          have hD1y:Dy < 1000000000:=by rw[← hDy];exact hsm2.out.2
          have hN1y:Ny.natAbs < 1000000000:=by rw[← hNy];exact hsm2.out.1
          have hQ1y:Qy≤268435456:=by rw[← hQy];exact Nat.le_trans (Nat.div_le_self _ _) hS1
          have hply:plY pts S i=Ny * (Qy:Int):=by unfold plY;rw[hNy,hDy,hQy]
          obtain⟨Zy,hZy⟩:∃ Z,Ny * (Qy:Int)=Z:=⟨_,rfl⟩
          rw[hZy] at hply
          have hzby:(Ny * (Qy:Int)).natAbs≤1000000000 * 268435456:=by rw[Int.natAbs_mul];exact Nat.mul_le_mul (by omega) (by omega)
          rw[hZy] at hzby
          have t1y:Int.tdiv (S:Int) (Dy:Int)=(Qy:Int):=by rw[← hQy];exact(Int.ofNat_tdiv S Dy).symm
          have t5y:(S:Int) / (Dy:Int)=(Qy:Int):=by rw[← hQy];exact(Int.natCast_ediv S Dy).symm
          have t2y:IntKind.i64.wrap (Qy:Int)=(Qy:Int):=IntWalk.i64_in _ (by omega)
          have t3y:IntKind.i64.wrap (Ny * (Qy:Int))=Zy:=by rw[hZy];exact IntWalk.i64_in _ (by omega)
          have t4y:¬ (Dy:Int)=0:=by omega
          have hply:=Lib.hid hply;rename_i h_;clear h_
          have hNey:=Lib.hid hNy
          have hDey:=Lib.hid hDy
          clear hNy hDy hQy hZy
          rw[hplx.out] at hXs
          rw[hply.out] at hYs
          have hXs:=Lib.hid hXs;rename_i h_;clear h_
          have hYs:=Lib.hid hYs;rename_i h_;clear h_
          go_wp2_with fail
          refine calls_gen (fun W5=> Bl wj W5∧∃ g8,Blk W5 g8 76 #[.bool sq,.slice Aq nq cq,.slice Bq 1 dq,.bool tq,.slice Cq iq eq,.slice Dq 1 fq]∧g8=wj.heap.size) ⟨by exact slc,_,by exact bts,rfl⟩ ?_
          rintro W5 ⟨hb5,g8,h8,hg8⟩
          rw[← hg8]
          clear hg8 y0 y1 y2 y3 y4 y5
          refine(small_any _ (RdR.bl hR1 hb5) hl1).mono ?_
          rintro e v1 ⟨rfl,hv1⟩
          have h8:=h8.bl hv1
          obtain⟨u0,u1,u2,u3,u4,u5⟩:=bx6 h8
          have hb6:=hb5.next hv1
          clear hb5 hv1
          rw[hNex.out,hDex.out]
          go_wp2_with fail
          refine(small_any _ (RdR.bl hR2 hb6) hl2).mono ?_
          rintro e v2 ⟨rfl,hv2⟩
          rw[hNey.out,hDey.out]
          have hb7:=hb6.next hv2
          clear u0 u1 u2 u3 u4 u5 h8 hb6 hv2
          go_wp2_with fail
          go_quiet (fail)
          by_cases hbx : -536870912≤Zx∧Zx≤536870912
          · by_cases hby : -536870912≤Zy∧Zy≤536870912
            · have hzn:=Lib.hid (hzs.out (by rw[hplx.out];exact hbx) (by rw[hply.out];exact hby))
              have hbx:=Lib.hid hbx;rename_i h_;clear h_
              have hby:=Lib.hid hby;rename_i h_;clear h_
              clear hzs
              go_upto_region 26 with (first |(go_at_call 56;(with_reducible refine(within_yes _ hbx.out.1 hbx.out.2).mono ?_);rintro e x0 ⟨rfl,q0,rfl⟩) |(go_at_call 56;(with_reducible refine(within_yes _ hby.out.1 hby.out.2).mono ?_);rintro e x1 ⟨rfl,q1,rfl⟩))
              refine wp_gen (fun W6=> Bl wj W6) (by exact slc) ?_
              intro W6 hb9
              have hX:=hX.bl hb9
              have hY:=hY.bl hb9
              have hbi:=hbi.next hb9
              go_wp2_with (first |((refine wpList_append_intX (w0:=wo) info_int Tryz.underlying27 rfl (.tmp 97) (.tmp 99) rfl _ (plXs pts i) (by rfl) hX hbi 1 (by rfl) (by rw[plXs_len];omega) ?_);intro vx7 w7 hX7 hb7 hoth;(have hY7:=OwL.keepX hY (fun g e =>(hoth g (hY.blk e).2 (fun e2=> hxy g e2 e)).1));(have hxy7:∀ g,vx7.ownBlock=Option.some g→vy.ownBlock≠Option.some g:=fun g e e2 =>(hoth g (hY.blk e2).2 (fun e3=> hxy g e3 e2)).2 e)) |((refine wpList_append_intX (w0:=wo) info_int Tryz.underlying27 rfl (.tmp 101) (.tmp 103) rfl _ (plYs pts i) (by rfl) hY7 hb7 1 (by rfl) (by rw[plYs_len];omega) ?_);intro vy8 w8 hY8 hb8 hoth2;(have hX8:=OwL.keepX hX7 (fun g e =>(hoth2 g (hX7.blk e).2 (fun e2=> hxy7 g e e2)).1));(have hxy8:∀ g,vx7.ownBlock=Option.some g→vy8.ownBlock≠Option.some g:=fun g e e2 =>(hoth2 g (hX7.blk e).2 (fun e3=> hxy7 g e e3)).2 e2)))
              rw[← hXs.out] at hX8
              rw[← hYs.out] at hY8
              go_roundw
              case rel=> exact⟨i+1,vx7,vy8,by omega,by go_num,rfl,rfl,hX8,hY8,hxy8,hzn,hb8⟩
              case measure=> simp[intOf];omega
            · have hbx:=Lib.hid hbx;rename_i h_;clear h_
              have hby:=Lib.hid hby;rename_i h_;clear h_
              clear hzs hX hY hxy
              have hblF:=(hbw.next hbi).next hb7
              have hO9:=hO.bl hblF
              have hR9:=hRs.bl hblF
              obtain⟨o0,o1,o2⟩:=bx3 hO9
              obtain⟨v0_,x0⟩:=hR9.val_ (i:=0) (by omega)
              obtain⟨v1_,x1⟩:=hR9.val_ (i:=1) (by omega)
              obtain⟨v2_,x2⟩:=hR9.val_ (i:=2) (by omega)
              obtain⟨cs4,hB4,hc4⟩:=hR9
              have hf0:=hB4.frozen 0
              have hf1:=hB4.frozen 1
              have hf2:=hB4.frozen 2
              go_wp2_with (first |(go_at_call 56;(with_reducible refine(within_yes _ hbx.out.1 hbx.out.2).mono ?_);rintro e x0 ⟨rfl,q0,rfl⟩) |(go_at_call 56;(with_reducible refine(within_no _ hby.out).mono ?_);rintro e x1 ⟨rfl,q1,rfl⟩))
              exact bodyPost_ret (v:=.agg #[.slice (some ⟨gp,0,none⟩) k cp,.slice none 0 0,.slice none 0 0]) (by simp[results,Tryz.results57,go_sem,x0,x1,x2]) rfl (.inr ⟨rfl,by exact slc⟩)
          · have hbx:=Lib.hid hbx;rename_i h_;clear h_
            clear hzs hX hY hxy
            have hblF:=(hbw.next hbi).next hb7
            have hO9:=hO.bl hblF
            have hR9:=hRs.bl hblF
            obtain⟨o0,o1,o2⟩:=bx3 hO9
            obtain⟨v0_,x0⟩:=hR9.val_ (i:=0) (by omega)
            obtain⟨v1_,x1⟩:=hR9.val_ (i:=1) (by omega)
            obtain⟨v2_,x2⟩:=hR9.val_ (i:=2) (by omega)
            obtain⟨cs4,hB4,hc4⟩:=hR9
            have hf0:=hB4.frozen 0
            have hf1:=hB4.frozen 1
            have hf2:=hB4.frozen 2
            go_wp2_with (go_at_call 56;(with_reducible refine(within_no _ hbx.out).mono ?_);rintro e x0 ⟨rfl,q0,rfl⟩)
            exact bodyPost_ret (v:=.agg #[.slice (some ⟨gp,0,none⟩) k cp,.slice none 0 0,.slice none 0 0]) (by simp[results,Tryz.results57,go_sem,x0,x1,x2]) rfl (.inr ⟨rfl,by exact slc⟩)
        · obtain rfl:i=k:=by omega
          have hkm2:¬ (i:Int) < (i:Int):=by omega
          have hpok:=Lib.hid (PlA.ok (by rw[hlen.out];exact hpre.out) (by rw[hlen.out];exact hpz.out))
          clear hpz
          obtain⟨gx,cx,hvx,hXr⟩:=hX.lit (by rw[plXs_len];omega) (by rw[plXs_len];omega)
          obtain⟨gy,cy,hvy,hYr⟩:=hY.lit (by rw[plYs_len];omega) (by rw[plYs_len];omega)
          have hgx:=(hX.blk (g:=gx) (by rw[hvx];rfl)).1
          have hgy:=(hY.blk (g:=gy) (by rw[hvy];rfl)).1
          rw[plXs_len] at hvx hXr
          rw[plYs_len] at hvy hYr
          subst hvx hvy
          have hWs:=hbw.size
          have hO9:=hO.bl (hbw.next hbi)
          have hR9:=hRs.bl (hbw.next hbi)
          have hOl:=hO.lt
          clear hX hY hxy hS1 hSe
          obtain⟨o0,o1,o2⟩:=bx3 hO9
          have of1:=hO9.frozen 1
          have of2:=hO9.frozen 2
          obtain⟨v0,x0⟩:=hR9.val_ (i:=0) (by omega)
          obtain⟨v1,x1⟩:=hR9.val_ (i:=1) (by omega)
          obtain⟨v2,x2⟩:=hR9.val_ (i:=2) (by omega)
          obtain⟨cs4,hB4,hc4⟩:=hR9
          have hf0:=hB4.frozen 0
          have hf1:=hB4.frozen 1
          have hf2:=hB4.frozen 2
          go_wp2_with fail
          have hfx:∀ (X:World) (b o:Nat) (u:Value),RdI X (some ⟨gx,0,none⟩) i cx (plXs pts i)→b < wo.heap.size→RdI (X.setCell ⟨b,o,none⟩ u) (some ⟨gx,0,none⟩) i cx (plXs pts i):=fun X b o u h hb=> h.setLit (by simp;omega) u
          have hfy:∀ (X:World) (b o:Nat) (u:Value),RdI X (some ⟨gy,0,none⟩) i cy (plYs pts i)→b < wo.heap.size→RdI (X.setCell ⟨b,o,none⟩ u) (some ⟨gy,0,none⟩) i cy (plYs pts i):=fun X b o u h hb=> h.setLit (by simp;omega) u
          exact bodyPost_ret (v:=.agg #[.slice (some ⟨gp,0,none⟩) i cp,.slice (some ⟨gx,0,none⟩) i cx,.slice (some ⟨gy,0,none⟩) i cy]) (by simp[results,Tryz.results57,go_sem,x0,x1,x2]) rfl (.inl ⟨hpok.out,gx,cx,gy,cy,rfl,hfx _ _ _ _ (hfx _ _ _ _ (hfx _ _ _ _ (hfx _ _ _ _ (hfx _ _ _ _ hXr (by omega)) (by omega)) (by omega)) (by omega)) (by omega),hfy _ _ _ _ (hfy _ _ _ _ (hfy _ _ _ _ (hfy _ _ _ _ (hfy _ _ _ _ hYr (by omega)) (by omega)) (by omega)) (by omega)) (by omega),by exact slc⟩)
end

section
open Go.RowKit

def TurnC (w:World) (vp vx vy:Value) (n:Nat) (σ:Int→Int→Int→Int):Prop :=
  ∀ W,Bl w W→∀ a b c:Int,(0≤a∧a < n)→(0≤b∧b < n)→(0≤c∧c < n)→Calls Tryz.prog 104 #[.agg #[vp,vx,vy],.int .i64 a,.int .i64 b,.int .i64 c] W fun e w'=> e=.returned (.int .i64 (σ a b c))∧Bl W w'
theorem TurnC.bl {w W:World}{vp vx vy:Value}{n:Nat}{σ:Int→Int→Int→Int}(h:TurnC w vp vx vy n σ) (hb:Bl w W):TurnC W vp vx vy n σ:=fun X hX=> h X (hb.next hX)
theorem TurnC.at_ {w:World}{vp vx vy:Value}{n:Nat}{σ:Int→Int→Int→Int}(h:TurnC w vp vx vy n σ) (W:World) (hb:Bl w W) (a b c:Int) (h1:0≤a∧a < n) (h2:0≤b∧b < n) (h3:0≤c∧c < n):Calls Tryz.prog 104 #[.agg #[vp,vx,vy],.int .i64 a,.int .i64 b,.int .i64 c] W fun e w'=> e=.returned (.int .i64 (σ a b c))∧Bl W w':=h W hb a b c h1 h2 h3
def sdS (σ:Int→Int→Int→Int) (t:TriD) (a b:Int):Bool:=decide (σ a b t.a≤0) && (decide (σ a b t.b≤0) && decide (σ a b t.c≤0))
def sepS (σ:Int→Int→Int→Int) (s t:TriD):Bool:=sdS σ t s.a s.b || (sdS σ t s.b s.c || sdS σ t s.c s.a)
def sepST (σ:Int→Int→Int→Int) (s t:TriD):Nat→Bool
  | 0=> false
  | 1=> sdS σ t s.a s.b
  | 2=> sdS σ t s.a s.b || sdS σ t s.b s.c
  | _=> sepS σ s t
/-- Corner k of a triangle and the next one. -/
def cor2 (t:TriD):Nat→Int
  | 0=> t.b
  | 1=> t.c
  | _=> t.a
def nx3:Nat→Nat
  | 0=> 1
  | 1=> 2
  | _=> 0
theorem cor_ix {n:Nat}{t:TriD}(h:TrIx n t) (k:Nat):(0≤cor t k∧cor t k < n)∧(0≤cor2 t k∧cor2 t k < n):=by
  obtain⟨ha,hb,hc⟩:=h
  match k with
  | 0=> exact⟨ha,hb⟩
  | 1=> exact⟨hb,hc⟩
  | _+2=> exact⟨hc,ha⟩
theorem cor_index (t:TriD) {k:Nat}(hk:k < 3) (W:World):(Instr.index 94 (.agg #[.int .i64 t.a,.int .i64 t.b,.int .i64 t.c]) (.int .i64 (k:Int))).run Tryz.prog W=.ok (.int .i64 (cor t k)) W:=by
  rcases(show k=0∨k=1∨k=2 by omega) with rfl | rfl | rfl
  · kernel_rfl
  · kernel_rfl
  · kernel_rfl
theorem cor_cell {W:World}{g:Nat}{T:TypeId}{t:TriD}(h:Blk W g T #[.int .i64 t.a,.int .i64 t.b,.int .i64 t.c]) {k:Nat}(hk:k < 3):W.cell? ⟨g,nx3 k,none⟩=some (.int .i64 (cor2 t k)):=by
  rcases(show k=0∨k=1∨k=2 by omega) with rfl | rfl | rfl
  · exact h.cell 1
  · exact h.cell 2
  · exact h.cell 0
theorem nx3_mod {k:Nat}(hk:k < 3):Int.tmod ((k:Int)+1) 3=(nx3 k:Int)∧nx3 k < 3:=by
  rcases(show k=0∨k=1∨k=2 by omega) with rfl | rfl | rfl <;> exact⟨rfl,by decide⟩
theorem sepST_succ (σ:Int→Int→Int→Int) (s t:TriD) {k:Nat}(hk:k < 3):sepST σ s t (k+1)=(sepST σ s t k || sdS σ t (cor s k) (cor2 s k)):=by
  rcases(show k=0∨k=1∨k=2 by omega) with rfl | rfl | rfl
  · simp[sepST,cor,cor2]
  · rfl
  · simp[sepST,sepS,cor,cor2,Bool.or_assoc]
theorem sepST_yes {σ:Int→Int→Int→Int}{s t:TriD}{k:Nat}(hk:k < 3) (h:sdS σ t (cor s k) (cor2 s k)=true):sepS σ s t=true:=by
  rcases(show k=0∨k=1∨k=2 by omega) with rfl | rfl | rfl
  · unfold sepS;rw[show sdS σ t s.a s.b=true from h];rfl
  · unfold sepS;rw[show sdS σ t s.b s.c=true from h];simp
  · unfold sepS;rw[show sdS σ t s.c s.a=true from h];simp

set_option maxRecDepth 100000 in
set_option maxHeartbeats 16000000 in
theorem separates_g (w:World) {vp vx vy:Value}{n:Nat}{σ:Int→Int→Int→Int}(hT:TurnC w vp vx vy n σ) (s t:TriD) (hs:TrIx n s) (ht:TrIx n t) :
    Calls Tryz.prog 60 #[.agg #[vp,vx,vy],.agg #[.int .i64 s.a,.int .i64 s.b,.int .i64 s.c,.int .i64 s.region,.int .i64 s.level],.agg #[.int .i64 t.a,.int .i64 t.b,.int .i64 t.c,.int .i64 t.region,.int .i64 t.level]] w fun e w'=> e=.returned (.bool (sepS σ s t))∧Bl w w':=by
  go_enter Tryz.func60,Tryz.ntmps60
  go_wp2_with fail
  go_cut [7,8] (fun s7 s8 wx=> ∃ (g7 g8:Nat),s7=.pointer (some ⟨g7,0,none⟩)∧s8=.pointer (some ⟨g8,0,none⟩)∧Blk wx g7 94 #[.int .i64 s.a,.int .i64 s.b,.int .i64 s.c]∧Blk wx g8 94 #[.int .i64 t.a,.int .i64 t.b,.int .i64 t.c]∧Blk wx w.heap.size 90 #[vp,vx,vy]∧Bl w wx)
  case first =>
    refine wp_gen (fun W=> Bl w W∧Blk W w.heap.size 90 #[vp,vx,vy]∧Blk W (w.heap.size+1) 69 #[.int .i64 s.a,.int .i64 s.b,.int .i64 s.c,.int .i64 s.region,.int .i64 s.level]∧Blk W (w.heap.size+1+1) 69 #[.int .i64 t.a,.int .i64 t.b,.int .i64 t.c,.int .i64 t.region,.int .i64 t.level]) ⟨slc,bts,bts,bts⟩ ?_
    rintro W ⟨hbW,hBx,hBs,hBt⟩
    clear hT hs ht
    go_region_held3 (fun w' =>(w'.cell? ⟨(w.heap.size+1),0,none⟩=some (.int .i64 s.a)∧w'.cell? ⟨(w.heap.size+1),1,none⟩=some (.int .i64 s.b)∧w'.cell? ⟨(w.heap.size+1),2,none⟩=some (.int .i64 s.c)∧w'.cell? ⟨(w.heap.size+1),3,none⟩=some (.int .i64 s.region)∧w'.cell? ⟨(w.heap.size+1),4,none⟩=some (.int .i64 s.level))∧(w'.cell? ⟨(w.heap.size+1+1),0,none⟩=some (.int .i64 t.a)∧w'.cell? ⟨(w.heap.size+1+1),1,none⟩=some (.int .i64 t.b)∧w'.cell? ⟨(w.heap.size+1+1),2,none⟩=some (.int .i64 t.c)∧w'.cell? ⟨(w.heap.size+1+1),3,none⟩=some (.int .i64 t.region)∧w'.cell? ⟨(w.heap.size+1+1),4,none⟩=some (.int .i64 t.level))) (first | exact⟨bx5 (T:=69) (hBs.bl slc),bx5 (T:=69) (hBt.bl slc)⟩) (first |(go_at_call 59;(with_reducible refine(corners_eq _ s).mono ?_);rintro e v1 ⟨rfl,rfl⟩) |(go_at_call 59;(with_reducible refine(corners_eq _ t).mono ?_);rintro e v2 ⟨rfl,rfl⟩))
    all_goals
      go_wp2_with fail
      go_meet
      refine⟨_,_,rfl,rfl,?_,?_,?_,?_⟩
      · exact b45
      · exact b45
      · exact bts
      · exact slc
  case rest =>
    obtain⟨hta,htb,htc⟩:=id ht
    obtain⟨g7,g8,rfl,rfl,h7,h8,hBx,hbc⟩:=hcut
    obtain⟨wa,rfl⟩:∃ wa:World,wa=wc:=⟨_,rfl⟩
    obtain⟨y0,y1,y2⟩:=bx3 h7
    go_wp2_with fail
    clear y0 y1 y2
    go_loopw [17] (fun v wr=> ∃ k:Nat,k≤3∧v=.int .i64 (k:Int)∧Hid (sepST σ s t k=false)∧Bl wa wr) (fun v _=> 3 - (intOf v).toNat)
    case atStart=> exact⟨0,by omega,rfl,Lib.hid rfl,Bl.refl _⟩
    case round =>
      obtain⟨k,hk,rfl,hprev,hbw⟩:=hrel
      by_cases hk3:k < 3
      · have hki:(k:Int) < 3:=by omega
        obtain⟨wo,rfl⟩:∃ wo:World,wo=wr:=⟨_,rfl⟩
        obtain⟨ha0,hb0⟩:=cor_ix hs k
        have hix:=fun W=> cor_index s hk3 W
        have hcj:=cor_cell (h7.bl hbw) hk3
        obtain⟨hmd,hj3⟩:=nx3_mod hk3
        have hsu:=Lib.hid (sepST_succ σ s t hk3)
        obtain⟨a0,ea⟩:∃ a,cor s k=a:=⟨_,rfl⟩
        obtain⟨b0,eb⟩:∃ b,cor2 s k=b:=⟨_,rfl⟩
        have hab:=Lib.hid (And.intro ea eb)
        rw[ea] at ha0 hix hsu
        rw[eb] at hb0 hcj hsu
        clear ea eb
        obtain⟨j,ej⟩:∃ j,nx3 k=j:=⟨_,rfl⟩
        rw[ej] at hcj hmd hj3
        clear ej
        obtain⟨q,eq⟩:∃ q:Int,(k:Int)+1=q:=⟨_,rfl⟩
        have hq0:0≤q∧q≤3:=by omega
        have hw1:IntKind.i64.wrap ((k:Int)+1)=q:=by rw[IntWalk.i64_in _ (by omega),eq]
        rw[eq] at hmd
        have hw2:IntKind.i64.wrap q=q:=IntWalk.i64_in _ (by omega)
        have hw3:IntKind.i64.wrap (j:Int)=(j:Int):=IntWalk.i64_in _ (by omega)
        have hqe:=Lib.hid eq
        clear eq
        obtain⟨r0,r1,r2⟩:=bx3 (hBx.bl hbw)
        obtain⟨y0,y1,y2⟩:=bx3 (h7.bl hbw)
        obtain⟨z0,z1,z2⟩:=bx3 (h8.bl hbw)
        have hg7:=(h7.bl hbw).lt
        have hg8:=(h8.bl hbw).lt
        have hgb:=(hBx.bl hbw).lt
        have hbw0:=hbc.next hbw
        obtain⟨p0,hz0⟩:∃ p,σ a0 b0 t.a=p:=⟨_,rfl⟩
        obtain⟨p1,hz1⟩:∃ p,σ a0 b0 t.b=p:=⟨_,rfl⟩
        obtain⟨p2,hz2⟩:∃ p,σ a0 b0 t.c=p:=⟨_,rfl⟩
        have hz0:=Lib.hid hz0;rename_i h_;clear h_
        have hz1:=Lib.hid hz1;rename_i h_;clear h_
        have hz2:=Lib.hid hz2;rename_i h_;clear h_
        by_cases c0:p0≤0
        · by_cases c1:p1≤0
          · by_cases c2:p2≤0
            · skip
              go_wp2_with (first |((go_at_call 104;(with_reducible refine(hT.at_ _ slc a0 b0 t.a ha0 hb0 hta).mono ?_);rw[hz0.out];rintro e v0 ⟨rfl,hv0⟩;(obtain⟨hc0,hf0⟩:=bcell hv0);(have hs0:=hv0.size);(have hy80:g8 < v0.heap.size:=by omega);(have hyb0:w.heap.size < v0.heap.size:=by omega))) |((go_at_call 104;(with_reducible refine(hT.at_ _ slc a0 b0 t.b ha0 hb0 htb).mono ?_);rw[hz1.out];rintro e v1 ⟨rfl,hv1⟩;(obtain⟨hc1,hf1⟩:=bcell hv1);(have hs1:=hv1.size);(have hy81:g8 < v1.heap.size:=by omega);(have hyb1:w.heap.size < v1.heap.size:=by omega))) |((go_at_call 104;(with_reducible refine(hT.at_ _ slc a0 b0 t.c ha0 hb0 htc).mono ?_);rw[hz2.out];rintro e v2 ⟨rfl,hv2⟩;(obtain⟨hc2,hf2⟩:=bcell hv2);(have hs2:=hv2.size);(have hy82:g8 < v2.heap.size:=by omega);(have hyb2:w.heap.size < v2.heap.size:=by omega))))
              go_ret
              exact⟨ret_bool (by rw[sepST_yes hk3 (show sdS σ t (cor s k) (cor2 s k)=true by rw[hab.out.1,hab.out.2];unfold sdS;rw[hz0.out,hz1.out,hz2.out];simp[*])]),hbc.next (((hbw.next hv0).next hv1).next hv2)⟩
            · skip
              go_wp2_with (first |((go_at_call 104;(with_reducible refine(hT.at_ _ slc a0 b0 t.a ha0 hb0 hta).mono ?_);rw[hz0.out];rintro e v0 ⟨rfl,hv0⟩;(obtain⟨hc0,hf0⟩:=bcell hv0);(have hs0:=hv0.size);(have hy80:g8 < v0.heap.size:=by omega);(have hyb0:w.heap.size < v0.heap.size:=by omega))) |((go_at_call 104;(with_reducible refine(hT.at_ _ slc a0 b0 t.b ha0 hb0 htb).mono ?_);rw[hz1.out];rintro e v1 ⟨rfl,hv1⟩;(obtain⟨hc1,hf1⟩:=bcell hv1);(have hs1:=hv1.size);(have hy81:g8 < v1.heap.size:=by omega);(have hyb1:w.heap.size < v1.heap.size:=by omega))) |((go_at_call 104;(with_reducible refine(hT.at_ _ slc a0 b0 t.c ha0 hb0 htc).mono ?_);rw[hz2.out];rintro e v2 ⟨rfl,hv2⟩;(obtain⟨hc2,hf2⟩:=bcell hv2);(have hs2:=hv2.size);(have hy82:g8 < v2.heap.size:=by omega);(have hyb2:w.heap.size < v2.heap.size:=by omega))))
              go_roundw
              case rel=> exact⟨k+1,by omega,(by rw[← hqe.out];rfl),Lib.hid (by rw[hsu.out,hprev.out,Bool.false_or];unfold sdS;rw[hz0.out,hz1.out,hz2.out];simp[*]),(((hbw.next hv0).next hv1).next hv2)⟩
              case measure=> have:=hqe.out;simp[intOf];omega
          · skip
            go_wp2_with (first |((go_at_call 104;(with_reducible refine(hT.at_ _ slc a0 b0 t.a ha0 hb0 hta).mono ?_);rw[hz0.out];rintro e v0 ⟨rfl,hv0⟩;(obtain⟨hc0,hf0⟩:=bcell hv0);(have hs0:=hv0.size);(have hy80:g8 < v0.heap.size:=by omega);(have hyb0:w.heap.size < v0.heap.size:=by omega))) |((go_at_call 104;(with_reducible refine(hT.at_ _ slc a0 b0 t.b ha0 hb0 htb).mono ?_);rw[hz1.out];rintro e v1 ⟨rfl,hv1⟩;(obtain⟨hc1,hf1⟩:=bcell hv1);(have hs1:=hv1.size);(have hy81:g8 < v1.heap.size:=by omega);(have hyb1:w.heap.size < v1.heap.size:=by omega))))
            go_roundw
            case rel=> exact⟨k+1,by omega,(by rw[← hqe.out];rfl),Lib.hid (by rw[hsu.out,hprev.out,Bool.false_or];unfold sdS;rw[hz0.out,hz1.out,hz2.out];simp[*]),((hbw.next hv0).next hv1)⟩
            case measure=> have:=hqe.out;simp[intOf];omega
        · skip
          go_wp2_with (((go_at_call 104;(with_reducible refine(hT.at_ _ slc a0 b0 t.a ha0 hb0 hta).mono ?_);rw[hz0.out];rintro e v0 ⟨rfl,hv0⟩;(obtain⟨hc0,hf0⟩:=bcell hv0);(have hs0:=hv0.size);(have hy80:g8 < v0.heap.size:=by omega);(have hyb0:w.heap.size < v0.heap.size:=by omega))))
          go_roundw
          case rel=> exact⟨k+1,by omega,(by rw[← hqe.out];rfl),Lib.hid (by rw[hsu.out,hprev.out,Bool.false_or];unfold sdS;rw[hz0.out,hz1.out,hz2.out];simp[*]),(hbw.next hv0)⟩
          case measure=> have:=hqe.out;simp[intOf];omega
      · obtain rfl:k=3:=by omega
        have e0:((3:Nat):Int)=3:=rfl
        rw[e0]
        clear e0 hk
        go_wp2_with fail
        go_ret
        exact⟨ret_bool hprev.out.symm,hbc.next hbw⟩
end

end Go.Proofs.YtjaapemopbbfaaaGreat
