/- Lemmas. -/
import Derived.Test.YtjaapemopbbfaaaGreatRows
import Derived.Test.YtjaapemopbbfaaaGreatPWorstShapeM35
import Derived.Test.YtjaapemopbbfaaaGreatPWorstShapeM39
import Derived.Test.YtjaapemopbbfaaaGreatPWorstShapeM36
import Derived.Test.YtjaapemopbbfaaaGreatPWorstShapeM20
namespace Go.Proofs.YtjaapemopbbfaaaGreat
section
open Go.RowKit
/-- a yes-or-no answer that denies P -/
def BRes (P:Prop) (w:World) (e:Ending) (w':World):Prop:=∃ b,e=.returned (.bool b)∧(b=false↔P)∧Bl w w'
theorem bres_true {P:Prop}{w w':World}(hn:¬ P) (h:Bl w w'):BRes P w (.returned (.bool true)) w':=⟨true,rfl,⟨(fun h=> by cases h),fun h=> absurd h hn⟩,h⟩
theorem bres_false {P:Prop}{w w':World}(hp:P) (h:Bl w w'):BRes P w (.returned (.bool false)) w':=⟨false,rfl,⟨fun _=> hp,fun _=> rfl⟩,h⟩
set_option maxRecDepth 100000 in
set_option maxHeartbeats 16000000 in
theorem isInside_any (w:World) {gp gx gy n cp cx cy:Nat}{xs ys:List Int}(hx:RdI w (some ⟨gx,0,none⟩) n cx xs) (hy:RdI w (some ⟨gy,0,none⟩) n cy ys) (hB:PlB n xs ys) (a b c:Int) (ha:0≤a) (ha2:a < n) (hb:0≤b) (hb2:b < n) (hc:0≤c) (hc2:c < n) :
    Calls Tryz.prog 106 #[.agg #[.slice (some ⟨gp,0,none⟩) n cp,.slice (some ⟨gx,0,none⟩) n cx,.slice (some ⟨gy,0,none⟩) n cy],.int .i64 a,.int .i64 b,.int .i64 c] w fun e w'=> e=.returned (.bool (decide (insI xs ys a b c)))∧Bl w w':=by
  have hns:=hx.small
  by_cases h0:trn xs ys a b c=0
  · have h0:=Lib.hid h0;rename_i h_;clear h_
    go_enter Tryz.func106,Tryz.ntmps106
    go_wp2_with fail
    refine calls_gen (fun W=> Bl w W∧Blk W w.heap.size 90 #[.slice (some ⟨gp,0,none⟩) n cp,.slice (some ⟨gx,0,none⟩) n cx,.slice (some ⟨gy,0,none⟩) n cy]) ⟨slc,bts⟩ ?_
    rintro W ⟨hbW,hBx⟩
    refine(turn_any _ (hx.bl hbW) (hy.bl hbW) hB a b c ha ha2 hb hb2 hc hc2).mono ?_
    rw[h0.out]
    rintro e v0 ⟨rfl,hv0⟩
    have hbW:=hbW.next hv0
    have hBx:=hBx.bl hv0
    have xa:=rdi_lit (hx.bl hbW) (k:=a.toNat) (by omega)
    have ya:=rdi_lit (hy.bl hbW) (k:=a.toNat) (by omega)
    have xb:=rdi_lit (hx.bl hbW) (k:=b.toNat) (by omega)
    have yb:=rdi_lit (hy.bl hbW) (k:=b.toNat) (by omega)
    have xc:=rdi_lit (hx.bl hbW) (k:=c.toNat) (by omega)
    have yc:=rdi_lit (hy.bl hbW) (k:=c.toNat) (by omega)
    obtain⟨z0,z1,z2⟩:=bx3 hBx
    clear hB hx hy
    go_wp2_with fail
    have hdv:=Lib.hid (show insI xs ys a b c↔(min (ix xs a.toNat) (ix xs b.toNat)≤ix xs c.toNat∧ix xs c.toNat≤max (ix xs a.toNat) (ix xs b.toNat))∧(min (ix ys a.toNat) (ix ys b.toNat)≤ix ys c.toNat∧ix ys c.toNat≤max (ix ys a.toNat) (ix ys b.toNat)) from ⟨fun h=> h.2,fun h =>⟨h0.out,h⟩⟩)
    by_cases hxr:(min (ix xs a.toNat) (ix xs b.toNat)≤ix xs c.toNat∧ix xs c.toNat≤max (ix xs a.toNat) (ix xs b.toNat))
    · by_cases hyr:(min (ix ys a.toNat) (ix ys b.toNat)≤ix ys c.toNat∧ix ys c.toNat≤max (ix ys a.toNat) (ix ys b.toNat))
      · have hv:=Lib.hid (decide_eq_true (hdv.out.2 ⟨hxr,hyr⟩))
        have hxr:=Lib.hid hxr;rename_i h_;clear h_
        have hyr:=Lib.hid hyr;rename_i h_;clear h_
        go_quiet ((first |(go_at_call 56;with_reducible exact Calls.quiet_of (within_yes _ hxr.out.1 hxr.out.2)) |(go_at_call 56;with_reducible exact Calls.quiet_of (within_yes _ hyr.out.1 hyr.out.2))))
        go_wp2_with fail
        go_ret
        rw[hv.out]
        exact⟨rfl,slc⟩
      · have hv:=Lib.hid (decide_eq_false (fun h=> hyr (hdv.out.1 h).2))
        have hxr:=Lib.hid hxr;rename_i h_;clear h_
        have hyr:=Lib.hid hyr;rename_i h_;clear h_
        go_quiet ((first |(go_at_call 56;with_reducible exact Calls.quiet_of (within_yes _ hxr.out.1 hxr.out.2)) |(go_at_call 56;with_reducible exact Calls.quiet_of (within_no _ hyr.out))))
        go_wp2_with fail
        go_ret
        rw[hv.out]
        exact⟨rfl,slc⟩
    · have hv:=Lib.hid (decide_eq_false (fun h=> hxr (hdv.out.1 h).1))
      have hxr:=Lib.hid hxr;rename_i h_;clear h_
      go_quiet (((go_at_call 56;with_reducible exact Calls.quiet_of (within_no _ hxr.out))))
      go_wp2_with fail
      go_ret
      rw[hv.out]
      exact⟨rfl,slc⟩
  · have hv:=Lib.hid (decide_eq_false (p:=insI xs ys a b c) (fun h=> h0 h.1))
    have hd:decide (trn xs ys a b c=0)=false:=decide_eq_false h0
    go_enter Tryz.func106,Tryz.ntmps106
    go_wp2_with fail
    refine calls_gen (fun W=> Bl w W∧Blk W w.heap.size 90 #[.slice (some ⟨gp,0,none⟩) n cp,.slice (some ⟨gx,0,none⟩) n cx,.slice (some ⟨gy,0,none⟩) n cy]) ⟨slc,bts⟩ ?_
    rintro W ⟨hbW,hBx⟩
    refine(turn_any _ (hx.bl hbW) (hy.bl hbW) hB a b c ha ha2 hb hb2 hc hc2).mono ?_
    rintro e v0 ⟨rfl,hv0⟩
    go_wp2_with fail
    go_ret
    rw[hv.out]
    exact⟨rfl,hbW.next hv0⟩
end

section
open Go.RowKit

def InsC (w:World) (vp vx vy:Value) (n:Nat) (ι:Int→Int→Int→Bool):Prop :=
  ∀ W,Bl w W→∀ a b c:Int,(0≤a∧a < n)→(0≤b∧b < n)→(0≤c∧c < n)→Calls Tryz.prog 106 #[.agg #[vp,vx,vy],.int .i64 a,.int .i64 b,.int .i64 c] W fun e w'=> e=.returned (.bool (ι a b c))∧Bl W w'
theorem InsC.bl {w W:World}{vp vx vy:Value}{n:Nat}{ι:Int→Int→Int→Bool}(h:InsC w vp vx vy n ι) (hb:Bl w W):InsC W vp vx vy n ι:=fun X hX=> h X (hb.next hX)
theorem InsC.at_ {w:World}{vp vx vy:Value}{n:Nat}{ι:Int→Int→Int→Bool}(h:InsC w vp vx vy n ι) (W:World) (hb:Bl w W) (a b c:Int) (h1:0≤a∧a < n) (h2:0≤b∧b < n) (h3:0≤c∧c < n):Calls Tryz.prog 106 #[.agg #[vp,vx,vy],.int .i64 a,.int .i64 b,.int .i64 c] W fun e w'=> e=.returned (.bool (ι a b c))∧Bl W w':=h W hb a b c h1 h2 h3
def NoE1 (ι:Int→Int→Int→Bool) (a b:Int) (k:Nat):Prop:=∀ c:Nat,c < k→(c:Int)≠a→(c:Int)≠b→ι a b c=false
def NoE (n:Nat) (ι:Int→Int→Int→Bool) (ts:List TriD):Prop:=∀ k,k < ts.length→∀ i,i < 3→NoE1 ι (cor (pix ts k) i) (cor2 (pix ts k) i) n
def NoET (n:Nat) (ι:Int→Int→Int→Bool) (ts:List TriD) (k:Nat):Prop:=∀ q,q < k→∀ i,i < 3→NoE1 ι (cor (pix ts q) i) (cor2 (pix ts q) i) n
def NoEI (n:Nat) (ι:Int→Int→Int→Bool) (t:TriD) (i:Nat):Prop:=∀ j,j < i→NoE1 ι (cor t j) (cor2 t j) n
set_option maxRecDepth 100000 in
set_option maxHeartbeats 16000000 in
theorem hasInside_g (w:World) {gp n cp:Nat}{vx vy:Value}{ι:Int→Int→Int→Bool}(hI:InsC w (.slice (some ⟨gp,0,none⟩) n cp) vx vy n ι) (hn:n≤1048576) {gt m ct:Nat}{ts:List TriD}(ht:RdTS w (some ⟨gt,0,none⟩) m ct ts) (hix0:TrsIx n ts) :
    Calls Tryz.prog 62 #[.agg #[.slice (some ⟨gp,0,none⟩) n cp,vx,vy],.slice (some ⟨gt,0,none⟩) m ct] w fun e w'=> BRes (NoE n ι ts) w e w':=by
  have hms:=ht.small
  have hlen:=Lib.hid ht.len
  have hix0:=Lib.hid hix0;rename_i h_;clear h_
  go_enter Tryz.func62,Tryz.ntmps62
  go_wp2_with fail
  refine wp_gen (fun W=> Bl w W∧Blk W w.heap.size 90 #[.slice (some ⟨gp,0,none⟩) n cp,vx,vy]) ⟨slc,bts⟩ ?_
  rintro W ⟨hbW,hBx⟩
  go_loopw [14] (fun v wr=> ∃ k:Nat,k≤m∧v=.int .i64 (k:Int)∧Hid (NoET n ι ts k)∧Bl W wr) (fun v _=> m - (intOf v).toNat)
  case atStart=> exact⟨0,by omega,rfl,Lib.hid (fun q hq=> by omega),Bl.refl _⟩
  case round =>
    obtain⟨k,hk,rfl,hpre,hbw⟩:=hrel
    obtain⟨wo,rfl⟩:∃ wo:World,wo=wr:=⟨_,rfl⟩
    by_cases hkm:k < m
    · have hki:(k:Int) < (m:Int):=by omega
      obtain⟨c0,c1,c2,c3,c4⟩:=trs_lit (RdTS.bl ht (hbW.next hbw)) hkm
      have htx:=Lib.hid (hix0.out k (by rw[hlen.out];exact hkm))
      have hnext:=Lib.hid (fun (h:NoEI n ι (pix ts k) 3) =>(fun q hq=> by
        rcases(show q < k∨q=k by omega) with h3 | rfl
        · exact hpre.out q h3
        · exact h:NoET n ι ts (k+1)))
      have hbad:=Lib.hid (fun (h:NoE n ι ts) =>(h k (by rw[hlen.out];exact hkm):NoEI n ι (pix ts k) 3))
      clear hpre
      obtain⟨t,hte⟩:∃ t,pix ts k=t:=⟨_,rfl⟩
      rw[hte] at c0 c1 c2 c3 c4 htx hnext hbad
      clear hte
      go_wp2_with fail
      refine calls_gen (fun W2=> Bl wo W2) slc ?_
      intro W2 hb2
      clear c0 c1 c2 c3 c4
      refine(corners_eq _ t).mono ?_
      rintro e w4 ⟨rfl,rfl⟩
      go_wp2_with fail
      refine wp_gen (fun W3=> Bl W2 W3∧∃ g7,Blk W3 g7 94 #[.int .i64 t.a,.int .i64 t.b,.int .i64 t.c]∧g7=W2.heap.size+1+1) ⟨by exact slc,_,by exact bts,rfl⟩ ?_
      rintro W3 ⟨hb3,g7,h7,hg7⟩
      rw[← hg7]
      clear hg7
      have hbq:Bl wo W3:=hb2.next hb3
      have hBx:=hBx.bl (hbw.next hbq)
      go_loopw [21] (fun v wi=> ∃ i:Nat,i≤3∧v=.int .i64 (i:Int)∧Hid (NoEI n ι t i)∧Bl W3 wi) (fun v _=> 3 - (intOf v).toNat)
      case atStart=> exact⟨0,by omega,rfl,Lib.hid (fun j hj=> by omega),Bl.refl _⟩
      case round =>
        obtain⟨i,hi,rfl,hpi,hbi⟩:=hrel
        by_cases hi3:i < 3
        · have hii:(i:Int) < 3:=by omega
          obtain⟨wj,rfl⟩:∃ wj:World,wj=wr:=⟨_,rfl⟩
          obtain⟨ha0,hb0⟩:=cor_ix htx.out i
          have hix:=fun W=> cor_index t hi3 W
          have hcj:=cor_cell (h7.bl hbi) hi3
          obtain⟨hmd,hj3⟩:=nx3_mod hi3
          have hni:=Lib.hid (fun (h:NoE1 ι (cor t i) (cor2 t i) n) =>(fun j hj=> by
            rcases(show j < i∨j=i by omega) with h3 | rfl
            · exact hpi.out j h3
            · exact h:NoEI n ι t (i+1)))
          have hbd:=Lib.hid (fun (h:NoE n ι ts) =>(hbad.out h i hi3:NoE1 ι (cor t i) (cor2 t i) n))
          clear hpi
          obtain⟨a0,ea⟩:∃ a,cor t i=a:=⟨_,rfl⟩
          obtain⟨b0,eb⟩:∃ b,cor2 t i=b:=⟨_,rfl⟩
          rw[ea] at ha0 hix hni hbd
          rw[eb] at hb0 hcj hni hbd
          clear ea eb
          obtain⟨j,ej⟩:∃ j,nx3 i=j:=⟨_,rfl⟩
          rw[ej] at hcj hmd hj3
          clear ej
          obtain⟨q,eq⟩:∃ q:Int,(i:Int)+1=q:=⟨_,rfl⟩
          have hq0:0≤q∧q≤3:=by omega
          have hw1:IntKind.i64.wrap ((i:Int)+1)=q:=by rw[IntWalk.i64_in _ (by omega),eq]
          rw[eq] at hmd
          have hw2:IntKind.i64.wrap q=q:=IntWalk.i64_in _ (by omega)
          have hw3:IntKind.i64.wrap (j:Int)=(j:Int):=IntWalk.i64_in _ (by omega)
          have hqe:=Lib.hid eq
          clear eq
          have hBx2:=hBx.bl hbi
          obtain⟨r0,r1,r2⟩:=bx3 hBx2
          obtain⟨y0,y1,y2⟩:=bx3 (h7.bl hbi)
          have hb00:=(hbW.next hbw).next hbq
          have hb0':=hb00.next hbi
          go_wp2_with fail
          clear hcj hix
          go_loopw [33] (fun v wr=> ∃ c:Nat,c≤n∧v=.int .i64 (c:Int)∧Hid (NoE1 ι a0 b0 c)∧Bl wj wr) (fun v _=> n - (intOf v).toNat)
          case atStart=> exact⟨0,by omega,rfl,Lib.hid (fun q hq=> by omega),Bl.refl _⟩
          case round =>
            clear r0 r1 r2 y0 y1 y2
            obtain⟨c,hc,rfl,hpc,hbc⟩:=hrel
            have hstep:=Lib.hid (fun (h:(c:Int)≠a0→(c:Int)≠b0→ι a0 b0 c=false) =>(fun q hq=> by
              rcases(show q < c∨q=c by omega) with h3 | rfl
              · exact hpc.out q h3
              · exact h:NoE1 ι a0 b0 (c+1)))
            have hfin:=Lib.hid (fun (e:c=n) =>(by rw[e] at hpc;exact hni.out hpc.out:NoEI n ι t (i+1)))
            clear hpc
            obtain⟨wp,rfl⟩:∃ wp:World,wp=wr:=⟨_,rfl⟩
            obtain⟨r0,r1,r2⟩:=bx3 (hBx2.bl hbc)
            by_cases hcn:c < n
            · have hci:(c:Int) < (n:Int):=by omega
              by_cases hca:(c:Int)=a0
              · have hda:decide ((c:Int)=a0)=true:=by simp[hca]
                have hst:=Lib.hid (hstep.out (fun h=> absurd hca h))
                clear hstep hfin
                have hca:=Lib.hid hca;rename_i h_;clear h_
                go_wp2_with fail
                go_roundw
                case rel=> exact⟨c+1,by omega,by go_num,hst,hbc⟩
                case measure=> simp[intOf];omega
              · have hda:decide ((c:Int)=a0)=false:=by simp[hca]
                by_cases hcb:(c:Int)=b0
                · have hdb:decide ((c:Int)=b0)=true:=by simp[hcb]
                  have hst:=Lib.hid (hstep.out (fun _ h=> absurd hcb h))
                  clear hstep hfin
                  have hca:=Lib.hid hca;rename_i h_;clear h_
                  have hcb:=Lib.hid hcb;rename_i h_;clear h_
                  go_wp2_with fail
                  go_roundw
                  case rel=> exact⟨c+1,by omega,by go_num,hst,hbc⟩
                  case measure=> simp[intOf];omega
                · have hdb:decide ((c:Int)=b0)=false:=by simp[hcb]
                  obtain⟨bi,hbi2⟩:∃ bi,ι a0 b0 (c:Int)=bi:=⟨_,rfl⟩
                  have hstE:=Lib.hid (fun (h:ι a0 b0 (c:Int)=false)=> hstep.out (fun _ _=> h))
                  have hbT:=Lib.hid (show ι a0 b0 (c:Int)=true→¬ NoE n ι ts from fun h hN=> Bool.noConfusion (h.symm.trans (hbd.out hN c hcn hca hcb)))
                  have hbi2:=Lib.hid hbi2;rename_i h_;clear h_
                  clear hstep hfin
                  have hbcc:=hb0'.next hbc
                  have hc0:(0:Int)≤(c:Int):=by omega
                  go_wp2_with ((go_at_call 106;(with_reducible refine(hI.at_ _ slc a0 b0 (c:Int) ha0 hb0 ⟨hc0,hci⟩).mono ?_);rw[hbi2.out];rintro e v0 ⟨rfl,hv0⟩;cases bi))
                  all_goals first
                    | (exfalso;rename_i hx_;simp[hca,hcb] at hx_;done)
                    | (go_ret;exact bres_true (hbT.out hbi2.out) (hbcc.next hv0))
                    | go_roundw
                  all_goals first
                    | exact⟨c+1,by omega,by go_num,Lib.hid (hstE.out hbi2.out),hbc.next hv0⟩
                    | (simp[intOf];omega)
            · have hcn2:c=n:=by omega
              have hni2:=Lib.hid (hfin.out hcn2)
              clear hfin hstep
              obtain rfl:c=n:=hcn2
              have hkm2:¬ (c:Int) < (c:Int):=by omega
              go_wp2_with fail
              go_roundw
              case rel=> exact⟨i+1,by omega,(by rw[← hqe.out];rfl),hni2,hbi.next hbc⟩
              case measure=> have:=hqe.out;simp[intOf];omega
        · obtain rfl:i=3:=by omega
          have e0:((3:Nat):Int)=3:=rfl
          rw[e0]
          clear e0 hi
          have hnx:=Lib.hid (hnext.out hpi.out)
          clear hnext hpi hbad
          go_wp2_with fail
          go_roundw
          case rel=> exact⟨k+1,by omega,by go_num,hnx,(hbw.next hbq).next hbi⟩
          case measure=> simp[intOf];omega
    · have hkn2:k=m:=by omega
      have hall:=Lib.hid (show NoE n ι ts from fun q hq=> hpre.out q (by rw[hkn2,← hlen.out];exact hq))
      clear hpre
      obtain rfl:k=m:=hkn2
      have hkm2:¬ (k:Int) < (k:Int):=by omega
      go_wp2_with fail
      go_ret
      exact bres_false hall.out (hbW.next hbw)
end

section
open Go.RowKit

structure MeQ where
  pts:List (Rat × Rat)
  tris:List TriD
  deriving DecidableEq
/-- Which points the first k triangles use. -/
def usedTo (ts:List TriD):Nat→Nat→Bool
  | 0,_=> false
  | k+1,i=> usedTo ts k i || (decide ((pix ts k).a=i) || (decide ((pix ts k).b=i) || decide ((pix ts k).c=i)))
theorem usedTo_of {ts:List TriD}{i:Nat}:∀ {k j:Nat},j < k→((pix ts j).a=i∨(pix ts j).b=i∨(pix ts j).c=i)→usedTo ts k i=true
  | k+1,j,hj,h=> by
    unfold usedTo
    rcases Nat.lt_succ_iff_lt_or_eq.1 hj with hj | rfl
    · rw[usedTo_of hj h];rfl
    · rcases h with h | h | h <;> simp[h]
/-- Block g holds the truth values b 0, .., b (n - 1). -/
def OwU (w:World) (g n:Nat) (b:Nat→Bool):Prop:=∃ cs,Blk w g 4 cs∧cs.size=n∧∀ i,i < n→cs[i]?=some (.bool (b i))
theorem OwU.bl {w W:World}{g n:Nat}{b:Nat→Bool}(h:OwU w g n b) (hb:Bl w W):OwU W g n b:=by
  obtain⟨cs,h1,h2⟩:=h
  exact⟨cs,h1.bl hb,h2⟩
theorem OwU.lt {w:World}{g n:Nat}{b:Nat→Bool}(h:OwU w g n b):g < w.heap.size:=by
  obtain⟨cs,h1,h2⟩:=h
  exact h1.lt
theorem OwU.cell {w:World}{g n:Nat}{b:Nat→Bool}(h:OwU w g n b) {i:Nat}(hi:i < n):w.cell? ⟨g,i,none⟩=some (.bool (b i)):=by
  obtain⟨cs,h1,_,h2⟩:=h
  exact(h1.cell i).trans (h2 i hi)
theorem OwU.frozen {w:World}{g n:Nat}{b:Nat→Bool}(h:OwU w g n b) (i:Nat):w.frozen? ⟨g,i,none⟩=false:=by
  obtain⟨cs,h1,_⟩:=h
  exact h1.frozen i
theorem OwU.set {w:World}{g n:Nat}{b:Nat→Bool}(h:OwU w g n b) (k:Nat) (x:Bool):OwU (w.setCell ⟨g,k,none⟩ (.bool x)) g n (fun i=> if i=k then x else b i):=by
  obtain⟨cs,h1,h2,h3⟩:=h
  refine⟨_,h1.set_ k _,by simpa using h2,fun i hi=> ?_⟩
  show _=some (Value.bool (if i=k then x else b i))
  by_cases e:i=k
  · subst e
    rw[if_pos rfl]
    simp[h2,hi]
  · rw[if_neg e,Array.getElem?_setIfInBounds_ne (by omega)]
    exact h3 i hi
theorem OwU.congr {w:World}{g n:Nat}{b b':Nat→Bool}(h:OwU w g n b) (e:∀ i,i < n→b i=b' i):OwU w g n b':=by
  obtain⟨cs,h1,h2,h3⟩:=h
  exact⟨cs,h1,h2,fun i hi=> by rw[← e i hi];exact h3 i hi⟩

theorem IndexBool_no (w:World) {g n c:Nat}(hc:∀ i,i < n→w.cell? ⟨g,i,none⟩=some (.bool true)) (hn:n≤1048576) :
    Calls Tryz.prog 105 #[.slice (some ⟨g,0,none⟩) n c,.bool false] w fun e w'=> e=.returned (.int .i64 (-1))∧w'=w:=by
  have hc:=Lib.hid hc;rename_i h_;clear h_
  go_enter Tryz.func105,Tryz.ntmps105
  go_wp2_with fail
  go_loop [8] (fun i=> ∃ k:Nat,k≤n∧i=.int .i64 (k:Int)) (fun i=> n - (intOf i).toNat)
  case atStart=> exact⟨0,Nat.zero_le _,rfl⟩
  case round =>
    obtain⟨k,hk,rfl⟩:=hrel
    by_cases hkn:k < n
    · have hki:(k:Int) < (n:Int):=by omega
      have y0:=hc.out k hkn
      go_wp2_with fail
      go_round
      case rel=> exact⟨k+1,by omega,by go_num⟩
      case measure=> simp[intOf];omega
    · obtain rfl:k=n:=by omega
      have hkm2:¬ (k:Int) < (k:Int):=by omega
      go_wp2_with fail
      go_ret
      exact⟨rfl,rfl⟩
theorem ContainsBool_no (w:World) {g n c:Nat}(hc:∀ i,i < n→w.cell? ⟨g,i,none⟩=some (.bool true)) (hn:n≤1048576) :
    Calls Tryz.prog 61 #[.slice (some ⟨g,0,none⟩) n c,.bool false] w fun e w'=> e=.returned (.bool false)∧w'=w:=by
  have hc:=Lib.hid hc;rename_i h_;clear h_
  go_enter Tryz.func61,Tryz.ntmps61
  go_wp2_with fail
  refine(IndexBool_no _ hc.out hn).mono ?_
  rintro e w1 ⟨rfl,rfl⟩
  go_wp2_with fail
  go_ret
  exact⟨rfl,rfl⟩
end

section
open Go.RowKit
theorem info_bool:(Tryz.prog.info? 4).map (fun i =>(i.zero,i.size,i.bytes))=some (some (.bool false),1,1):=by kernel_rfl
def mkBools (n:Nat):Obj:=.cells (madeCells #[.bool false] n) 4
theorem make_bools (n:Nat) (hn:n≤1048576) (w:World) :
    (Instr.makeSlice 92 (.int .i64 (n:Int)) (.int .i64 (n:Int))).run Tryz.prog w=.ok (.slice (some ⟨w.heap.size,0,none⟩) n n) (w.alloc (mkBools n)):=by
  obtain⟨i0,hi,hz0,hz1,hz2⟩:=info_parts info_bool
  have:=run_make (P:=Tryz.prog) w 92 4 i0 (.bool false) Tryz.underlying92 hi hz0 .i64 .i64 (n:Int) (n:Int) (by omega) (by omega) (by rw[hz2];omega) (by omega)
  rw[this,hz1]
  simp[mkBools,Value.cells]
theorem OwU.made (w:World) (n:Nat) (b:Nat→Bool) (hb:∀ i,b i=false):OwU (w.alloc (mkBools n)) w.heap.size n b:=by
  refine⟨_,heap_alloc_new w _,by simp[size_madeCells],fun i hi=> ?_⟩
  · rw[hb i,← Array.getElem?_toList,toList_madeCells_one]
    simp[hi]

theorem usedLast (ts:List TriD) {k:Nat}{t:TriD}(h:pix ts k=t) (x:Nat):(usedTo ts k x || (decide (t.a=(x:Int)) || (decide (t.b=(x:Int)) || decide (t.c=(x:Int)))))=usedTo ts (k+1) x:=by
  subst h
  rfl
def usedIn (ts:List TriD) (k:Nat) (t:TriD):Nat→Nat→Bool
  | 0,x=> usedTo ts k x
  | 1,x=> usedTo ts k x || decide (t.a=(x:Int))
  | 2,x=> usedTo ts k x || (decide (t.a=(x:Int)) || decide (t.b=(x:Int)))
  | _,x=> usedTo ts k x || (decide (t.a=(x:Int)) || (decide (t.b=(x:Int)) || decide (t.c=(x:Int))))
theorem usedIn_step0 (ts:List TriD) (k:Nat) (t:TriD) (x:Nat) (h:0≤t.a):(if x=t.a.toNat then true else usedIn ts k t 0 x)=usedIn ts k t 1 x:=by
  simp only[usedIn]
  by_cases e:x=t.a.toNat
  · rw[if_pos e,decide_eq_true (by omega),Bool.or_true]
  · rw[if_neg e,decide_eq_false (by omega),Bool.or_false]
theorem usedIn_step1 (ts:List TriD) (k:Nat) (t:TriD) (x:Nat) (h:0≤t.b):(if x=t.b.toNat then true else usedIn ts k t 1 x)=usedIn ts k t 2 x:=by
  simp only[usedIn]
  by_cases e:x=t.b.toNat
  · rw[if_pos e,decide_eq_true (show t.b=(x:Int) by omega),Bool.or_true,Bool.or_true]
  · rw[if_neg e,decide_eq_false (show ¬ t.b=(x:Int) by omega),Bool.or_false]
theorem usedIn_step2 (ts:List TriD) (k:Nat) (t:TriD) (x:Nat) (h:0≤t.c):(if x=t.c.toNat then true else usedIn ts k t 2 x)=usedIn ts k t 3 x:=by
  simp only[usedIn]
  by_cases e:x=t.c.toNat
  · rw[if_pos e,decide_eq_true (show t.c=(x:Int) by omega),Bool.or_true,Bool.or_true,Bool.or_true]
  · rw[if_neg e,decide_eq_false (show ¬ t.c=(x:Int) by omega),Bool.or_false]
/-- a yes-or-no answer to P -/
def YRes (P:Prop) (w:World) (e:Ending) (w':World):Prop:=∃ b,e=.returned (.bool b)∧(b=true↔P)∧Bl w w'
theorem yres_true {P:Prop}{w w':World}(hp:P) (h:Bl w w'):YRes P w (.returned (.bool true)) w':=⟨true,rfl,⟨fun _=> hp,fun _=> rfl⟩,h⟩
theorem yres_false {P:Prop}{w w':World}(hn:¬ P) (h:Bl w w'):YRes P w (.returned (.bool false)) w':=⟨false,rfl,⟨(fun h=> by cases h),fun h=> absurd h hn⟩,h⟩
theorem of_usedTo {ts:List TriD}{i:Nat}:∀ {k:Nat},usedTo ts k i=true→∃ j,j < k∧((pix ts j).a=i∨(pix ts j).b=i∨(pix ts j).c=i)
  | 0,h=> by cases h
  | k+1,h=> by
    unfold usedTo at h
    rw[Bool.or_eq_true,Bool.or_eq_true,Bool.or_eq_true,decide_eq_true_iff,decide_eq_true_iff,decide_eq_true_iff] at h
    rcases h with h | h
    · obtain⟨j,hj,h⟩:=of_usedTo h
      exact⟨j,by omega,h⟩
    · exact⟨k,by omega,h⟩
def IdxRes (n:Nat) (w:World) (e:Ending) (w':World):Prop:=∃ r:Nat,e=.returned (.int .i64 (r:Int))∧r < n∧w'=w
theorem IndexBool_yes (w:World) {g n c:Nat}{b:Nat→Bool}(hc:∀ i,i < n→w.cell? ⟨g,i,none⟩=some (.bool (b i))) (hn:n≤1048576) (hno:¬ ∀ i,i < n→b i=true) :
    Calls Tryz.prog 105 #[.slice (some ⟨g,0,none⟩) n c,.bool false] w fun e w'=> IdxRes n w e w':=by
  have hc:=Lib.hid hc;rename_i h_;clear h_
  have hno:=Lib.hid hno;rename_i h_;clear h_
  go_enter Tryz.func105,Tryz.ntmps105
  go_wp2_with fail
  go_loop [8] (fun i=> ∃ k:Nat,k≤n∧i=.int .i64 (k:Int)∧Hid (∀ q,q < k→b q=true)) (fun i=> n - (intOf i).toNat)
  case atStart=> exact⟨0,Nat.zero_le _,rfl,Lib.hid (fun q hq=> by omega)⟩
  case round =>
    obtain⟨k,hk,rfl,hpre⟩:=hrel
    by_cases hkn:k < n
    · have hki:(k:Int) < (n:Int):=by omega
      have y0:=hc.out k hkn
      obtain⟨bk,hbk⟩:∃ bk,b k=bk:=⟨_,rfl⟩
      rw[hbk] at y0
      have hbk:=Lib.hid hbk;rename_i h_;clear h_
      cases bk
      · go_wp2_with fail
        go_ret
        exact⟨k,rfl,hkn,rfl⟩
      · go_wp2_with fail
        go_round
        case rel=> exact⟨k+1,by omega,by go_num,Lib.hid (fun q hq=> by
          rcases(show q < k∨q=k by omega) with h1 | rfl
          · exact hpre.out q h1
          · exact hbk.out)⟩
        case measure=> simp[intOf];omega
    · obtain rfl:k=n:=by omega
      exact absurd hpre.out hno.out
theorem ContainsBool_q (w:World) {g n c:Nat}{b:Nat→Bool}(hc:∀ i,i < n→w.cell? ⟨g,i,none⟩=some (.bool (b i))) (hn:n≤1048576) :
    Calls Tryz.prog 61 #[.slice (some ⟨g,0,none⟩) n c,.bool false] w fun e w'=> BRes (∀ i,i < n→b i=true) w e w':=by
  by_cases hall:∀ i,i < n→b i=true
  · refine(ContainsBool_no w (fun i hi=> by rw[hc i hi,hall i hi]) hn).mono ?_
    rintro e w1 ⟨rfl,rfl⟩
    exact bres_false hall (Bl.refl _)
  · have hc:=Lib.hid hc;rename_i h_;clear h_
    have hall:=Lib.hid hall;rename_i h_;clear h_
    go_enter Tryz.func61,Tryz.ntmps61
    go_wp2_with fail
    refine(IndexBool_yes _ hc.out hn hall.out).mono ?_
    rintro e w1 ⟨r,rfl,hr,rfl⟩
    have hr0:(0:Int)≤(r:Int):=by omega
    go_wp2_with fail
    go_ret
    exact bres_true hall.out (Bl.refl _)
end

section
open Go.RowKit

/-- What triangleOk asks. -/
def TriOkS (σ:Int→Int→Int→Int) (n:Nat) (t:TriD):Prop:=TrIx n t∧((0≤t.region∧t.region≤2)∧0≤t.level∧t.level≤60)∧0 < σ t.a t.b t.c
def CorTo (n:Nat) (t:TriD) (k:Nat):Prop:=∀ i,i < k→0≤cor t i∧cor t i < n
theorem cor_trIx {n:Nat}{t:TriD}(h:CorTo n t 3):TrIx n t:=⟨h 0 (by omega),h 1 (by omega),h 2 (by omega)⟩
theorem trIx_cor {n:Nat}{t:TriD}(h:TrIx n t) (k:Nat):0≤cor t k∧cor t k < n:=(cor_ix h k).1
set_option maxRecDepth 100000 in
set_option maxHeartbeats 16000000 in
theorem triangleOk_g (w:World) {gp n cp:Nat}{vx vy:Value}{σ:Int→Int→Int→Int}(hT:TurnC w (.slice (some ⟨gp,0,none⟩) n cp) vx vy n σ) (hn:n≤1048576) (t:TriD) :
    Calls Tryz.prog 58 #[.agg #[.slice (some ⟨gp,0,none⟩) n cp,vx,vy],.agg #[.int .i64 t.a,.int .i64 t.b,.int .i64 t.c,.int .i64 t.region,.int .i64 t.level]] w fun e w'=> YRes (TriOkS σ n t) w e w':=by
  go_enter Tryz.func58,Tryz.ntmps58
  go_wp2_with fail
  refine calls_gen (fun W=> Bl w W∧Blk W w.heap.size 90 #[.slice (some ⟨gp,0,none⟩) n cp,vx,vy]∧Blk W (w.heap.size+1) 69 #[.int .i64 t.a,.int .i64 t.b,.int .i64 t.c,.int .i64 t.region,.int .i64 t.level]) ⟨slc,bts,bts⟩ ?_
  rintro W ⟨hbW,hBx,hBt⟩
  refine(corners_any _ t).mono ?_
  rintro e wa ⟨rfl,hv0⟩
  have hbW:=hbW.next hv0
  have hBx:=hBx.bl hv0
  have hBt:=hBt.bl hv0
  clear hv0
  go_wp2_with fail
  go_loopw [9] (fun v wr=> ∃ k:Nat,k≤3∧v=.int .i64 (k:Int)∧Hid (CorTo n t k)∧Bl wa wr) (fun v _=> 3 - (intOf v).toNat)
  case atStart=> exact⟨0,by omega,rfl,Lib.hid (fun i hi=> by omega),Bl.refl _⟩
  case round =>
    obtain⟨k,hk,rfl,hpre,hbw⟩:=hrel
    obtain⟨wo,rfl⟩:∃ wo:World,wo=wr:=⟨_,rfl⟩
    obtain⟨r0,r1,r2⟩:=bx3 (hBx.bl hbw)
    by_cases hk3:k < 3
    · have hki:(k:Int) < 3:=by omega
      have hix:=fun W=> cor_index t hk3 W
      have hst:=Lib.hid (fun (h:0≤cor t k∧cor t k < n) =>(fun i hi=> by
        rcases(show i < k∨i=k by omega) with h3 | rfl
        · exact hpre.out i h3
        · exact h:CorTo n t (k+1)))
      have hbad:=Lib.hid (fun (h:TriOkS σ n t)=> trIx_cor h.1 k)
      obtain⟨a0,ea⟩:∃ a,cor t k=a:=⟨_,rfl⟩
      rw[ea] at hix hst hbad
      clear ea
      by_cases ho:0≤a0∧a0 < n
      · obtain⟨o1,o2⟩:=ho
        go_wp2_with ((go_at_call 56;(with_reducible refine(within_yes _ o1 (show a0≤(n:Int) - 1 by omega)).mono ?_);rintro e v0 ⟨rfl,q0,rfl⟩))
        go_roundw
        case rel=> exact⟨k+1,by omega,by go_num,Lib.hid (hst.out ⟨o1,o2⟩),by exact slc⟩
        case measure=> simp[intOf];omega
      · have hno:¬ (0≤a0∧a0≤(n:Int) - 1):=by omega
        have hno:=Lib.hid hno;rename_i h_;clear h_
        have hbd:=Lib.hid (fun h=> ho (hbad.out h))
        clear ho hbad
        have hbw0:=hbW.next hbw
        go_wp2_with ((go_at_call 56;(with_reducible refine(within_no _ hno.out).mono ?_);rintro e v0 ⟨rfl,q0,rfl⟩))
        go_ret
        exact yres_false hbd.out slc
    · obtain rfl:k=3:=by omega
      have e0:((3:Nat):Int)=3:=rfl
      rw[e0]
      clear e0 hk
      have hti:=cor_trIx hpre.out
      have htx:=Lib.hid hti
      obtain⟨ta,tb,tc⟩:=hti
      obtain⟨y0,y1,y2,y3,y4⟩:=bx5 (hBt.bl hbw)
      have hbw0:=hbW.next hbw
      obtain⟨z,hz⟩:∃ z,σ t.a t.b t.c=z:=⟨_,rfl⟩
      have hz:=Lib.hid hz;rename_i h_;clear h_
      clear hpre
      by_cases c0:0≤t.region∧t.region≤2
      · by_cases c1:0≤t.level∧t.level≤60
        · have hres:=Lib.hid (show TriOkS σ n t↔0 < z from ⟨fun h=> by rw[← hz.out];exact h.2.2,fun h =>⟨htx.out,⟨c0,c1⟩,by rw[hz.out];exact h⟩⟩)
          have c0:=Lib.hid c0;rename_i h_;clear h_
          have c1:=Lib.hid c1;rename_i h_;clear h_
          go_wp2_with (first |(go_at_call 56;(with_reducible refine(within_yes _ c0.out.1 c0.out.2).mono ?_);rintro e v0 ⟨rfl,q0,rfl⟩) |(go_at_call 56;(with_reducible refine(within_yes _ c1.out.1 c1.out.2).mono ?_);rintro e v1 ⟨rfl,q1,rfl⟩) |(go_at_call 104;(with_reducible refine(hT.at_ _ slc t.a t.b t.c ta tb tc).mono ?_);rw[hz.out];rintro e v2 ⟨rfl,hv2⟩))
          go_ret
          exact⟨_,rfl,decide_eq_true_iff.trans hres.out.symm,by exact slc⟩
        · have hbd:=Lib.hid (fun (h:TriOkS σ n t)=> c1 h.2.1.2)
          have c0:=Lib.hid c0;rename_i h_;clear h_
          have c1:=Lib.hid c1;rename_i h_;clear h_
          go_wp2_with (first |(go_at_call 56;(with_reducible refine(within_yes _ c0.out.1 c0.out.2).mono ?_);rintro e v0 ⟨rfl,q0,rfl⟩) |(go_at_call 56;(with_reducible refine(within_no _ c1.out).mono ?_);rintro e v1 ⟨rfl,q1,rfl⟩))
          go_ret
          exact yres_false hbd.out slc
      · have hbd:=Lib.hid (fun (h:TriOkS σ n t)=> c0 h.2.1.1)
        have c0:=Lib.hid c0;rename_i h_;clear h_
        go_wp2_with ((go_at_call 56;(with_reducible refine(within_no _ c0.out).mono ?_);rintro e v0 ⟨rfl,q0,rfl⟩))
        go_ret
        exact yres_false hbd.out slc
end

section
open Go.RowKit

def mcW (m:MeQ) (x:Int):Rat × Rat:=pix m.pts x.toNat
def kA (m:MeQ) (k:Nat):Rat × Rat:=mcW m (pix m.tris k).a
def kB (m:MeQ) (k:Nat):Rat × Rat:=mcW m (pix m.tris k).b
def kC (m:MeQ) (k:Nat):Rat × Rat:=mcW m (pix m.tris k).c

/-- What both sides ask. -/
structure MeC (m:MeQ):Prop where
  n3:3≤m.pts.length
  n40:m.pts.length≤40
  t1:1≤m.tris.length
  t48:m.tris.length≤48
  fit:∀ k,k < m.pts.length→FtP (pix m.pts k)
  diff:∀ k,k < m.pts.length→∀ j,j < k→pix m.pts k≠pix m.pts j
  ixs:TrsIx m.pts.length m.tris
  reg:∀ k,k < m.tris.length→(0≤(pix m.tris k).region∧(pix m.tris k).region≤2)∧0≤(pix m.tris k).level∧(pix m.tris k).level≤60
  pos:∀ k,k < m.tris.length→0 < sgW (kA m k) (kB m k) (kC m k)
  used:∀ k:Nat,k < m.pts.length→∃ j,j < m.tris.length∧((pix m.tris j).a=k∨(pix m.tris j).b=k∨(pix m.tris j).c=k)
def ApI (m:MeQ) (k j:Nat):Prop:=apG (kA m k) (kB m k) (kC m k) (kA m j) (kB m j) (kC m j)
/-- No point lies inside an edge, as the program sees it. -/
def NoI1 (m:MeQ) (a b:Int):Prop:=∀ c:Nat,c < m.pts.length→(c:Int)≠a→(c:Int)≠b→¬ insG (mcW m a) (mcW m b) (pix m.pts c)
structure MeI (m:MeQ):Prop extends MeC m where
  sep:∀ k,k < m.tris.length→∀ j,j < k→ApI m j k∨ApI m k j
  noIn:∀ k,k < m.tris.length→NoI1 m (pix m.tris k).a (pix m.tris k).b∧NoI1 m (pix m.tris k).b (pix m.tris k).c∧NoI1 m (pix m.tris k).c (pix m.tris k).a
def FarS (m:MeQ) (k j:Nat):Bool:=farQ (bxA [kA m k,kB m k,kC m k]) (bxA [kA m j,kB m j,kC m j])
def NoS1 (m:MeQ) (a b:Rat × Rat):Prop:=∀ p:Nat,p < m.pts.length→¬ insS a b (pix m.pts p)
structure MeS (m:MeQ):Prop extends MeC m where
  apart:∀ k,k < m.tris.length→∀ j,j < k→FarS m k j=true∨ApI m k j∨ApI m j k
  noIns:∀ k,k < m.tris.length→NoS1 m (kA m k) (kB m k)∧NoS1 m (kB m k) (kC m k)∧NoS1 m (kC m k) (kA m k)
theorem MeC.at {m:MeQ}(h:MeC m) {k:Nat}(hk:k < m.tris.length):FtP (kA m k)∧FtP (kB m k)∧FtP (kC m k):=by
  obtain⟨⟨a0,a1⟩,⟨b0,b1⟩,c0,c1⟩:=h.ixs k hk
  exact⟨h.fit _ (by omega),h.fit _ (by omega),h.fit _ (by omega)⟩
theorem MeC.ne {m:MeQ}(h:MeC m) {i j:Nat}(hi:i < m.pts.length) (hj:j < m.pts.length) (hn:i≠j):pix m.pts i≠pix m.pts j:=by
  rcases Nat.lt_or_gt_of_ne hn with h1 | h1
  · exact fun e=> h.diff j hj i h1 e.symm
  · exact h.diff i hi j h1
theorem edge_is {m:MeQ}(h:MeC m) {a b:Int}(ha:0≤a∧a < m.pts.length) (hb:0≤b∧b < m.pts.length) (hs:NoS1 m (mcW m a) (mcW m b)):NoI1 m a b:=by
  intro c hc h1 h2 hi
  refine hs c hc ((ins_other (h.fit _ (by omega)) (h.fit _ (by omega)) (h.fit _ hc) ?_ ?_).1 hi)
  · exact h.ne hc (by omega) (by omega)
  · exact h.ne hc (by omega) (by omega)
theorem edge_si {m:MeQ}(h:MeC m) {a b:Int}(ha:0≤a∧a < m.pts.length) (hb:0≤b∧b < m.pts.length) (hi:NoI1 m a b) (hn:¬ NoS1 m (mcW m a) (mcW m b)):BadE (mcW m a) (mcW m b):=by
  by_cases hB:BadE (mcW m a) (mcW m b)
  · exact hB
  exfalso
  refine hn fun p hp hs=> ?_
  by_cases e1:(p:Int)=a
  · refine hB (insS_a ?_)
    rw[show mcW m a=pix m.pts p by unfold mcW;rw[← e1];rfl] at hs ⊢
    exact hs
  · by_cases e2:(p:Int)=b
    · refine hB (insS_b ?_)
      rw[show mcW m b=pix m.pts p by unfold mcW;rw[← e2];rfl] at hs ⊢
      exact hs
    · refine hi p hp e1 e2 ((ins_other (h.fit _ (by omega)) (h.fit _ (by omega)) (h.fit _ hp) ?_ ?_).2 hs)
      · exact h.ne hp (by omega) (by omega)
      · exact h.ne hp (by omega) (by omega)
/-- What the reference calls valid, the program calls valid. -/
theorem MeS.toI {m:MeQ}(h:MeS m):MeI m:=by
  refine⟨h.toMeC,fun k hk j hj=> ?_,fun k hk=> ?_⟩
  · have hj':j < m.tris.length:=by omega
    obtain⟨a1,a2,a3⟩:=h.toMeC.at hk
    obtain⟨b1,b2,b3⟩:=h.toMeC.at hj'
    rcases h.apart k hk j hj with h1 | h1 | h1
    · have hk0:=((sgW_pos a1 a2 a3).1 (h.pos k hk)).2
      have hj0:=((sgW_pos b1 b2 b3).1 (h.pos j hj')).2
      rcases far_ap hk0 hj0 h1 with h2 | h2
      · exact .inr (apG_of a1 a2 a3 b1 b2 b3 h2)
      · exact .inl (apG_of b1 b2 b3 a1 a2 a3 h2)
    · exact .inr h1
    · exact .inl h1
  · obtain⟨ha,hb,hc⟩:=h.ixs k hk
    obtain⟨h1,h2,h3⟩:=h.noIns k hk
    exact⟨edge_is h.toMeC ha hb h1,edge_is h.toMeC hb hc h2,edge_is h.toMeC hc ha h3⟩
/-- What the program calls valid and the reference does not, has an edge that is too large. -/
theorem MeI.toS {m:MeQ}(h:MeI m) (hn:¬ MeS m):∃ k,k < m.tris.length∧(BadE (kA m k) (kB m k)∨BadE (kB m k) (kC m k)∨BadE (kC m k) (kA m k)):=by
  apply Classical.byContradiction
  intro hx
  refine hn ⟨h.toMeC,fun k hk j hj=> .inr (h.sep k hk j hj).symm,fun k hk=> ?_⟩
  obtain⟨ha,hb,hc⟩:=h.ixs k hk
  obtain⟨h1,h2,h3⟩:=h.noIn k hk
  refine⟨?_,?_,?_⟩
  · exact Classical.byContradiction fun hy=> hx ⟨k,hk,.inl (edge_si h.toMeC ha hb h1 hy)⟩
  · exact Classical.byContradiction fun hy=> hx ⟨k,hk,.inr (.inl (edge_si h.toMeC hb hc h2 hy))⟩
  · exact Classical.byContradiction fun hy=> hx ⟨k,hk,.inr (.inr (edge_si h.toMeC hc ha h3 hy))⟩
end

end Go.Proofs.YtjaapemopbbfaaaGreat
