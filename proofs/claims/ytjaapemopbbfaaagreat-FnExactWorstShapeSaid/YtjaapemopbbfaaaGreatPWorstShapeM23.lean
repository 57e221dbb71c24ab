/- Lemmas. -/
import Derived.Test.YtjaapemopbbfaaaGreatRows
import Derived.Test.YtjaapemopbbfaaaGreatPWorstShapeM02
import Derived.Test.YtjaapemopbbfaaaGreatPWorstShapeM22
import Derived.Test.YtjaapemopbbfaaaGreatPWorstShapeM12
import Derived.Test.YtjaapemopbbfaaaGreatPWorstShapeM07
import Derived.Test.YtjaapemopbbfaaaGreatPWorstShapeM18
import Derived.Test.YtjaapemopbbfaaaGreatPWorstShapeM03
namespace Go.Proofs.YtjaapemopbbfaaaGreat
section
open Go.RowKit

/-- What is left of a budget: -1 once it is spent. -/
def lft (left:Int) (t:Nat):Int:=if (t:Int)≤left then left - t else -1
theorem lft_yes {left:Int}{t:Nat}(h:(t:Int)≤left):lft left t=left - t:=if_pos h
theorem lft_no {left:Int}{t:Nat}(h:¬ (t:Int)≤left):lft left t=-1:=if_neg h
set_option maxHeartbeats 1600000 in
theorem szIntS_any (w:World) {A:Option Addr}{n c:Nat}{l:List Int}(h:RdI w A n c l) {left:Int}(h0:0≤left) (h1:left≤1099511627776) :
    Calls Tryz.prog 123 #[.slice A n c,.int .i64 left] w fun e w'=> e=.returned (.int .i64 (lft left l.length))∧Bl w w':=by
  have hn:=h.small
  have hl:=Lib.hid h.len
  by_cases hc:(n:Int)≤left
  · have hs:=Lib.hid (lft_yes hc)
    go_enter Tryz.func123,Tryz.ntmps123
    go_wp2
    go_ret
    exact⟨ret_int (by rw[hl.out];exact hs.out.symm),Bl.refl _⟩
  · have hs:=Lib.hid (lft_no hc)
    go_enter Tryz.func123,Tryz.ntmps123
    go_wp2
    go_ret
    exact⟨ret_int (by rw[hl.out];exact hs.out.symm),Bl.refl _⟩


set_option maxHeartbeats 4000000 in
theorem szBigInt_any (w:World) {s:Bool}{A:Option Addr}{n c:Nat}{l:List Int}(h:RdI w A n c l) {left:Int}(h0:0≤left) (h1:left≤1099511627776) :
    Calls Tryz.prog 122 #[.agg #[.bool s,.slice A n c],.int .i64 left] w fun e w'=> e=.returned (.int .i64 (lft left (l.length)))∧Bl w w':=by
  by_cases c0:((l.length:Nat):Int)≤left
  · have e0:lft (left) (l.length)=left - ((l.length:Nat):Int):=lft_yes c0
    have hs:Hid (lft left (l.length)=left - ((l.length:Nat):Int)):=by show _=_;skip;unfold lft;split <;> omega
    go_enter Tryz.func122,Tryz.ntmps122
    go_wp2_with fail
    refine(szIntS_any _ (h.alloc _) (by omega) (by omega)).mono ?_
    rintro e w1 ⟨rfl,hb⟩
    rw[e0]
    have hb1:Bl w w1:=slc
    obtain⟨hc,hf⟩:=bcell hb
    have hz1:=hb.size
    simp only[World.size_alloc] at hz1
    clear hb
    go_wp2_with fail
    go_ret
    exact⟨ret_int hs.out.symm,hb1⟩
  · have e0:lft (left) (l.length)=-1:=lft_no c0
    have hs:Hid (lft left (l.length)=-1):=by show _=_;skip;unfold lft;split <;> omega
    go_enter Tryz.func122,Tryz.ntmps122
    go_wp2_with fail
    refine(szIntS_any _ (h.alloc _) (by omega) (by omega)).mono ?_
    rintro e w1 ⟨rfl,hb⟩
    rw[e0]
    have hb1:Bl w w1:=slc
    obtain⟨hc,hf⟩:=bcell hb
    have hz1:=hb.size
    simp only[World.size_alloc] at hz1
    clear hb
    go_wp2_with fail
    go_ret
    exact⟨ret_int hs.out.symm,hb1⟩

set_option maxHeartbeats 4000000 in
theorem szRat_any (w:World) {s:Bool}{A:Option Addr}{n c:Nat}{B:Option Addr}{m d:Nat}{r:RatD}(h:RdR w s A n c B m d r) {left:Int}(h0:0≤left) (h1:left≤1099511627776) :
    Calls Tryz.prog 76 #[.agg #[.bool s,.slice A n c,.slice B m d],.int .i64 left] w fun e w'=> e=.returned (.int .i64 (lft left (szR r)))∧Bl w w':=by
  by_cases c0:((r.mag.length:Nat):Int)≤left
  · have e0:lft (left) (r.mag.length)=left - ((r.mag.length:Nat):Int):=lft_yes c0
    by_cases c1:((r.den.length:Nat):Int)≤left - ((r.mag.length:Nat):Int)
    · have e1:lft (left - ((r.mag.length:Nat):Int)) (r.den.length)=left - ((r.mag.length:Nat):Int) - ((r.den.length:Nat):Int):=lft_yes c1
      have hs:Hid (lft left (szR r)=left - ((r.mag.length:Nat):Int) - ((r.den.length:Nat):Int)):=by show _=_;unfold szR;unfold lft;split <;> omega
      go_enter Tryz.func76,Tryz.ntmps76
      go_wp2_with fail
      refine(szBigInt_any _ (h.mag.alloc _) (by omega) (by omega)).mono ?_
      rintro e w1 ⟨rfl,hb⟩
      rw[e0]
      have hb1:Bl w w1:=slc
      obtain⟨hc,hf⟩:=bcell hb
      have hz1:=hb.size
      simp only[World.size_alloc] at hz1
      clear hb
      go_wp2_with fail
      refine(szIntS_any _ (h.den.bl hb1) (by omega) (by omega)).mono ?_
      rintro e w2 ⟨rfl,hb⟩
      rw[e1]
      have hb2:Bl w w2:=slc
      obtain⟨hc,hf⟩:=bcell hb
      have hz2:=hb.size
      clear hb
      go_wp2_with fail
      go_ret
      exact⟨ret_int hs.out.symm,hb2⟩
    · have e1:lft (left - ((r.mag.length:Nat):Int)) (r.den.length)=-1:=lft_no c1
      have hs:Hid (lft left (szR r)=-1):=by show _=_;unfold szR;unfold lft;split <;> omega
      go_enter Tryz.func76,Tryz.ntmps76
      go_wp2_with fail
      refine(szBigInt_any _ (h.mag.alloc _) (by omega) (by omega)).mono ?_
      rintro e w1 ⟨rfl,hb⟩
      rw[e0]
      have hb1:Bl w w1:=slc
      obtain⟨hc,hf⟩:=bcell hb
      have hz1:=hb.size
      simp only[World.size_alloc] at hz1
      clear hb
      go_wp2_with fail
      refine(szIntS_any _ (h.den.bl hb1) (by omega) (by omega)).mono ?_
      rintro e w2 ⟨rfl,hb⟩
      rw[e1]
      have hb2:Bl w w2:=slc
      obtain⟨hc,hf⟩:=bcell hb
      have hz2:=hb.size
      clear hb
      go_wp2_with fail
      go_ret
      exact⟨ret_int hs.out.symm,hb2⟩
  · have e0:lft (left) (r.mag.length)=-1:=lft_no c0
    have hs:Hid (lft left (szR r)=-1):=by show _=_;unfold szR;unfold lft;split <;> omega
    go_enter Tryz.func76,Tryz.ntmps76
    go_wp2_with fail
    refine(szBigInt_any _ (h.mag.alloc _) (by omega) (by omega)).mono ?_
    rintro e w1 ⟨rfl,hb⟩
    rw[e0]
    have hb1:Bl w w1:=slc
    obtain⟨hc,hf⟩:=bcell hb
    have hz1:=hb.size
    simp only[World.size_alloc] at hz1
    clear hb
    go_wp2_with fail
    go_ret
    exact⟨ret_int hs.out.symm,hb1⟩

set_option maxHeartbeats 4000000 in
theorem szPoint_any (w:World) {s:Bool}{A:Option Addr}{n c:Nat}{B:Option Addr}{m d:Nat}{t:Bool}{C:Option Addr}{i e:Nat}{D:Option Addr}{j f:Nat}{p:PtD}(h:RdR w s A n c B m d p.x) (k:RdR w t C i e D j f p.y) {left:Int}(h0:0≤left) (h1:left≤1099511627776) :
    Calls Tryz.prog 35 #[.agg #[.bool s,.slice A n c,.slice B m d,.bool t,.slice C i e,.slice D j f],.int .i64 left] w fun e w'=> e=.returned (.int .i64 (lft left (szP p)))∧Bl w w':=by
  by_cases c0:((szR p.x:Nat):Int)≤left
  · have e0:lft (left) (szR p.x)=left - ((szR p.x:Nat):Int):=lft_yes c0
    by_cases c1:((szR p.y:Nat):Int)≤left - ((szR p.x:Nat):Int)
    · have e1:lft (left - ((szR p.x:Nat):Int)) (szR p.y)=left - ((szR p.x:Nat):Int) - ((szR p.y:Nat):Int):=lft_yes c1
      have hs:Hid (lft left (szP p)=left - ((szR p.x:Nat):Int) - ((szR p.y:Nat):Int)):=by show _=_;unfold szP;unfold lft;split <;> omega
      go_enter Tryz.func35,Tryz.ntmps35
      go_wp2_with fail
      refine(szRat_any _ (h.alloc _) (by omega) (by omega)).mono ?_
      rintro e w1 ⟨rfl,hb⟩
      rw[e0]
      have hb1:Bl w w1:=slc
      obtain⟨hc,hf⟩:=bcell hb
      have hz1:=hb.size
      simp only[World.size_alloc] at hz1
      clear hb
      go_wp2_with fail
      refine(szRat_any _ (k.bl hb1) (by omega) (by omega)).mono ?_
      rintro e w2 ⟨rfl,hb⟩
      rw[e1]
      have hb2:Bl w w2:=slc
      obtain⟨hc,hf⟩:=bcell hb
      have hz2:=hb.size
      clear hb
      go_wp2_with fail
      go_ret
      exact⟨ret_int hs.out.symm,hb2⟩
    · have e1:lft (left - ((szR p.x:Nat):Int)) (szR p.y)=-1:=lft_no c1
      have hs:Hid (lft left (szP p)=-1):=by show _=_;unfold szP;unfold lft;split <;> omega
      go_enter Tryz.func35,Tryz.ntmps35
      go_wp2_with fail
      refine(szRat_any _ (h.alloc _) (by omega) (by omega)).mono ?_
      rintro e w1 ⟨rfl,hb⟩
      rw[e0]
      have hb1:Bl w w1:=slc
      obtain⟨hc,hf⟩:=bcell hb
      have hz1:=hb.size
      simp only[World.size_alloc] at hz1
      clear hb
      go_wp2_with fail
      refine(szRat_any _ (k.bl hb1) (by omega) (by omega)).mono ?_
      rintro e w2 ⟨rfl,hb⟩
      rw[e1]
      have hb2:Bl w w2:=slc
      obtain⟨hc,hf⟩:=bcell hb
      have hz2:=hb.size
      clear hb
      go_wp2_with fail
      go_ret
      exact⟨ret_int hs.out.symm,hb2⟩
  · have e0:lft (left) (szR p.x)=-1:=lft_no c0
    have hs:Hid (lft left (szP p)=-1):=by show _=_;unfold szP;unfold lft;split <;> omega
    go_enter Tryz.func35,Tryz.ntmps35
    go_wp2_with fail
    refine(szRat_any _ (h.alloc _) (by omega) (by omega)).mono ?_
    rintro e w1 ⟨rfl,hb⟩
    rw[e0]
    have hb1:Bl w w1:=slc
    obtain⟨hc,hf⟩:=bcell hb
    have hz1:=hb.size
    simp only[World.size_alloc] at hz1
    clear hb
    go_wp2_with fail
    go_ret
    exact⟨ret_int hs.out.symm,hb1⟩

set_option maxHeartbeats 4000000 in
theorem szPointS_any (w:World) {A:Option Addr}{n c:Nat}{l:List PtD}(h:RdS 6 PtAt w A n c l) {left:Int}(h0:0≤left) (h1:left≤1099511627776) :
    Calls Tryz.prog 13 #[.slice A n c,.int .i64 left] w fun e w'=> e=.returned (.int .i64 (lft left (szL szP l)))∧Bl w w':=by
  have hn:=h.small
  have hl:=Lib.hid h.len
  by_cases hc:(n:Int)≤left
  · go_enter Tryz.func13,Tryz.ntmps13
    go_wp2
    go_loopw [1,5] (fun v i wr=> ∃ k:Nat,k≤n∧i=.int .i64 (k:Int)∧(((n+sumTo szP l k:Nat):Int)≤left)∧v=.int .i64 (left - ((n+sumTo szP l k:Nat):Int))∧Bl w wr) (fun _ i _=> n - (intOf i).toNat)
    case atStart=> exact⟨0,Nat.zero_le _,rfl,by simp[sumTo];omega,by simp[sumTo],Bl.refl _⟩
    case round =>
      obtain⟨k,hk,rfl,hle,rfl,hbw⟩:=hrel
      have hin:0≤left - ((n+sumTo szP l k:Nat):Int):=by omega
      have hin2:left - ((n+sumTo szP l k:Nat):Int)≤1099511627776:=by omega
      generalize hGo:left - ((n+sumTo szP l k:Nat):Int)=G at *
      have hG:=Lib.hid hGo;clear hGo
      by_cases hkn:k < n
      · obtain⟨ad,rfl,hlt,hat⟩:=(h.cells k hkn)
        obtain⟨s,A,n',c',B,m,d,t,C,i,e,D,j,f,⟨g0,g1,g2,g3,g4,g5⟩,hx,hy⟩:=hat.bl (by rw[block_add];exact hlt) hbw
        have hms:=sumTo_le szP l (show k+1≤n from hkn)
        by_cases hfit:((szP (pix l k):Nat):Int)≤G
        · have he:=lft_yes hfit
          go_wp2_with fail
          refine(szPoint_any _ hx hy (by omega) (by omega)).mono ?_
          rintro e w1 ⟨rfl,hb⟩
          rw[he];clear he
          have hb1:Bl w w1:=slc
          go_wp2_with fail
          go_roundw
          case rel=> exact⟨k+1,by omega,by go_num,by have:=hG.out;simp only[sumTo];omega,by rw[show left - ((n+sumTo szP l (k+1):Nat):Int)=G - ((szP (pix l k):Nat):Int) from by have:=hG.out;simp only[sumTo];omega],hb1⟩
          case measure=> simp[intOf];omega
        · have he:=lft_no hfit
          have hs:=Lib.hid (show lft left (szL szP l)=-1 from lft_no (by have:=hG.out;simp only[sumTo] at hms;unfold szL;rw[hl.out];omega))
          go_wp2_with fail
          refine(szPoint_any _ hx hy (by omega) (by omega)).mono ?_
          rintro e w1 ⟨rfl,hb⟩
          rw[he];clear he
          have hb1:Bl w w1:=slc
          go_wp2_with fail
          go_ret
          exact⟨ret_int hs.out.symm,hb1⟩
      · have hs:=Lib.hid (show lft left (szL szP l)=G by have:=hG.out;rw[lft_yes (by unfold szL;rw[hl.out,show n=k from by omega];rw[show n=k from by omega] at hle;exact hle),← this];unfold szL;rw[hl.out,show k=n from by omega])
        go_wp2_with fail
        go_ret
        exact⟨ret_int hs.out.symm,hbw⟩
  · have hs:=Lib.hid (show lft left (szL szP l)=-1 from lft_no (by unfold szL;rw[hl.out];omega))
    go_enter Tryz.func13,Tryz.ntmps13
    go_wp2
    go_ret
    exact⟨ret_int hs.out.symm,Bl.refl _⟩
end

section
open Go.RowKit

set_option maxHeartbeats 1600000 in
theorem eqIntS_any (w:World) {A B:Option Addr}{n c d:Nat}{xs:List Int}(ha:RdI w A n c xs) (hb:RdI w B n d xs) :
    Calls Tryz.prog 26 #[.slice A n c,.slice B n d] w fun e w'=> e=.returned (.bool true)∧∃ q,w'=w.drewN q:=by
  have hna:=ha.small
  go_enter Tryz.func26,Tryz.ntmps26
  go_wp2
  go_loopw [5] (fun i wr=> ∃ k:Nat,k≤n∧i=.int .i64 (k:Int)∧∃ q,wr=w.drewN q) (fun i _=> n - (intOf i).toNat)
  case atStart=> exact⟨0,Nat.zero_le _,rfl,(by first | exact⟨_,rfl⟩ | exact⟨0,rfl⟩ | exact q_drewN ⟨_,rfl⟩ | exact q_drewN (q_drewN ⟨_,rfl⟩))⟩
  case round =>
    obtain⟨k,hk,rfl,q,rfl⟩:=hrel
    by_cases hkn:k < n
    · obtain⟨ad,rfl,hlta,hca⟩:=ha.at_ hkn
      obtain⟨bd,rfl,hltb,hcb⟩:=hb.at_ hkn
      have hki:(k:Int) < (n:Int):=by omega
      go_wp2
      go_quiet (fail)
      go_wp2
      go_roundw
      case rel=> exact⟨k+1,by omega,by go_num,(by first | exact⟨_,rfl⟩ | exact⟨0,rfl⟩ | exact q_drewN ⟨_,rfl⟩ | exact q_drewN (q_drewN ⟨_,rfl⟩))⟩
      case measure=> simp[intOf];omega
    · go_wp2
      go_ret
      exact⟨rfl,(by first | exact⟨_,rfl⟩ | exact⟨0,rfl⟩ | exact q_drewN ⟨_,rfl⟩ | exact q_drewN (q_drewN ⟨_,rfl⟩))⟩

set_option maxHeartbeats 4000000 in
theorem eqBigInt_any (w:World) {s:Bool}{A A':Option Addr}{n c c':Nat}{l:List Int}(h:RdI w A n c l) (h':RdI w A' n c' l) :
    Calls Tryz.prog 25 #[.agg #[.bool s,.slice A n c],.agg #[.bool s,.slice A' n c']] w fun e w'=> e=.returned (.bool true)∧Bl w w':=by
  have hse:(s != s)=false:=by simp
  go_enter Tryz.func25,Tryz.ntmps25
  go_wp2_with fail
  refine(eqIntS_any _ (h.bl slc) (h'.bl slc)).mono ?_
  rintro e w1 ⟨rfl,hq⟩
  have hb:Bl _ w1:=q_bl hq
  clear hq
  have hb1:Bl w w1:=slc
  clear hb
  go_wp2_with fail
  go_ret
  exact⟨rfl,hb1⟩

set_option maxHeartbeats 4000000 in
theorem eqRat_any (w:World) {s s':Bool}{A:Option Addr}{n c:Nat}{B:Option Addr}{m d:Nat}{A':Option Addr}{n' c':Nat}{B':Option Addr}{m' d':Nat}{r:RatD}(h:RdR w s A n c B m d r) (h':RdR w s' A' n' c' B' m' d' r) :
    Calls Tryz.prog 8 #[.agg #[.bool s,.slice A n c,.slice B m d],.agg #[.bool s',.slice A' n' c',.slice B' m' d']] w fun e w'=> e=.returned (.bool true)∧Bl w w':=by
  obtain rfl:=h.neg.trans h'.neg.symm
  obtain rfl:=h.mag.len.symm.trans h'.mag.len
  obtain rfl:=h.den.len.symm.trans h'.den.len
  go_enter Tryz.func8,Tryz.ntmps8
  go_wp2_with fail
  refine(eqBigInt_any _ (h.mag.bl slc) (h'.mag.bl slc)).mono ?_
  rintro e w1 ⟨rfl,hb⟩
  have hb1:Bl w w1:=slc
  obtain⟨hc,hf⟩:=bcell hb
  clear hb
  go_wp2_with fail
  refine(eqIntS_any _ (h.den.bl slc) (h'.den.bl slc)).mono ?_
  rintro e w2 ⟨rfl,hq⟩
  have hb:Bl _ w2:=q_bl hq
  clear hq
  have hb2:Bl w w2:=slc
  clear hb
  go_wp2_with fail
  go_ret
  exact⟨rfl,hb2⟩

set_option maxHeartbeats 4000000 in
theorem eqPoint_any (w:World) {s s':Bool}{A:Option Addr}{n c:Nat}{B:Option Addr}{m d:Nat}{A':Option Addr}{n' c':Nat}{B':Option Addr}{m' d':Nat}{t t':Bool}{C:Option Addr}{i e:Nat}{D:Option Addr}{j f:Nat}{C':Option Addr}{i' e':Nat}{D':Option Addr}{j' f':Nat}{p:PtD}(h:RdR w s A n c B m d p.x) (k:RdR w t C i e D j f p.y) (h':RdR w s' A' n' c' B' m' d' p.x) (k':RdR w t' C' i' e' D' j' f' p.y) :
    Calls Tryz.prog 74 #[.agg #[.bool s,.slice A n c,.slice B m d,.bool t,.slice C i e,.slice D j f],.agg #[.bool s',.slice A' n' c',.slice B' m' d',.bool t',.slice C' i' e',.slice D' j' f']] w fun e w'=> e=.returned (.bool true)∧Bl w w':=by
  go_enter Tryz.func74,Tryz.ntmps74
  go_wp2_with fail
  refine(eqRat_any _ (h.bl slc) (h'.bl slc)).mono ?_
  rintro e w1 ⟨rfl,hb⟩
  have hb1:Bl w w1:=slc
  obtain⟨hc,hf⟩:=bcell hb
  clear hb
  go_wp2_with fail
  refine(eqRat_any _ (k.bl slc) (k'.bl slc)).mono ?_
  rintro e w2 ⟨rfl,hb⟩
  have hb2:Bl w w2:=slc
  clear hb
  go_wp2_with fail
  go_ret
  exact⟨rfl,hb2⟩

set_option maxRecDepth 100000 in
set_option maxHeartbeats 4000000 in
theorem eqPointS_any (w:World) {A B:Option Addr}{n c d:Nat}{l:List PtD}(ha:RdPS w A n c l) (hb:RdPS w B n d l) :
    Calls Tryz.prog 27 #[.slice A n c,.slice B n d] w fun e w'=> e=.returned (.bool true)∧Bl w w':=by
  have hna:=ha.small
  go_enter Tryz.func27,Tryz.ntmps27
  go_wp2
  go_loopw [5] (fun i wr=> ∃ k:Nat,k≤n∧i=.int .i64 (k:Int)∧Bl w wr) (fun i _=> n - (intOf i).toNat)
  case atStart=> exact⟨0,Nat.zero_le _,rfl,Bl.refl _⟩
  case round =>
    obtain⟨k,hk,rfl,hbw⟩:=hrel
    by_cases hkn:k < n
    · obtain⟨ad,rfl,hlta,hca⟩:=(ha.bl hbw).cells k hkn
      obtain⟨bd,rfl,hltb,hcb⟩:=(hb.bl hbw).cells k hkn
      obtain⟨s,A,n',c',B,m,d',t,C,i,e,D,j,f,⟨g0,g1,g2,g3,g4,g5⟩,hx,hy⟩:=hca
      obtain⟨s',A',n'',c'',B',m',d'',t',C',i',e',D',j',f',⟨p0,p1,p2,p3,p4,p5⟩,hx',hy'⟩:=hcb
      have hki:(k:Int) < (n:Int):=by omega
      go_wp2
      go_still_tail 8,(by kernel_rfl)
      go_wp2_with fail
      refine(eqPoint_any _ hx.drew hy.drew hx'.drew hy'.drew).mono ?_
      rintro e w1 ⟨rfl,hb1⟩
      have hb2:Bl w w1:=slc
      go_wp2_with fail
      go_roundw
      case rel=> exact⟨k+1,by omega,by go_num,hb2⟩
      case measure=> simp[intOf];omega
    · go_wp2
      go_ret
      exact⟨rfl,slc⟩
end

section
open Go.RowKit
theorem len24_ofFrac (x:Int) (D:Nat):(ofFrac x D).mag.length≤24∧(ofFrac x D).den.length≤24:=by
  unfold ofFrac
  split
  · rename_i h
    refine⟨?_,by show (ints _).length≤24;rw[ints_len];exact h.2⟩
    show (ints (dig (x / ((Nat.gcd x.natAbs D:Nat):Int)).natAbs)).length≤24
    rw[ints_len]
    have e:(x / ((Nat.gcd x.natAbs D:Nat):Int)).natAbs=x.natAbs / Nat.gcd x.natAbs D:=by
      rw[Int.natAbs_ediv_of_dvd (Int.ofNat_dvd_left.2 (Nat.gcd_dvd_left _ _))]
      rfl
    rw[e]
    exact h.1
  · exact⟨by decide,by decide⟩
theorem len24_zR:zR.mag.length≤24∧zR.den.length≤24:=⟨by decide,by decide⟩
/-- A fraction in the blocks from lo to hi. -/
def OwX (T:TypeId) (lo hi:Nat) (w:World) (s:Bool) (A:Option Addr) (n c:Nat) (B:Option Addr) (m d:Nat) (r:RatD):Prop :=
  ∃ bs,FtR T w s A n c B m d r bs∧Fp lo hi bs
section
variable {T:TypeId}{lo hi b0:Nat}{w W:World}{s:Bool}{A:Option Addr}{n c:Nat}{B:Option Addr}{m d:Nat}{r:RatD}{bs:List Nat}
theorem OwX.of (h:OwR T b0 w s A n c B m d r):OwX T b0 w.heap.size w s A n c B m d r:=h
theorem OwX.rd (h:OwX T lo hi w s A n c B m d r):RdR w s A n c B m d r:=by
  obtain⟨bs,h,_⟩:=h
  exact h.rd
theorem OwX.bl (h:OwX T lo hi w s A n c B m d r) (hb:Bl w W):OwX T lo hi W s A n c B m d r:=by
  obtain⟨bs,h,hf⟩:=h
  exact⟨bs,h.bl hb,hf⟩
theorem OwX.ob (h:OwX T lo hi w s A n c B m d r) (ho:Ob bs w W) (hd:∀ b ∈ bs,b < lo∨hi≤b):OwX T lo hi W s A n c B m d r:=by
  obtain⟨cs,h,hf⟩:=h
  refine⟨cs,h.keep ho.size fun b hb=> ho.block b (h.lt b hb) fun hm=> ?_,hf⟩
  have h1:=hf.2 b hb
  have h2:=hd b hm
  omega
end

/-- A list of points in the blocks from lo to hi. -/
def OwPZ (TI TP:TypeId) (lo hi:Nat) (w:World) (A:Option Addr) (n c:Nat) (l:List PtD):Prop :=
  l.length=n∧n≤c∧n≤1048576∧(n=0∨∃ g cs fs,A=some ⟨g,0,none⟩∧Blk w g TP cs∧n * 6≤cs.size∧PtsIn TI w cs l n fs∧Fp lo hi (g :: fs.flatten))
section
variable {TI TP:TypeId}{lo hi lo' hi':Nat}{w W:World}{A:Option Addr}{n c:Nat}{l:List PtD}{bs:List Nat}
theorem OwPZ.rd (h:OwPZ TI TP lo hi w A n c l):RdPS w A n c l:=by
  obtain⟨h1,h2,h3,h4⟩:=h
  rcases h4 with h4 |⟨g,cs,fs,rfl,hB,hc,hP,hF⟩
  · subst h4
    obtain rfl:=List.length_eq_zero_iff.1 h1
    exact RdS.nil _ _ _
  · exact hP.rd hB h1 (by omega) h2
theorem OwPZ.low (h:OwPZ TI TP lo hi w A n c l) (h1:lo'≤lo) (h2:hi≤hi'):OwPZ TI TP lo' hi' w A n c l:=by
  obtain⟨a1,a2,a3,a4⟩:=h
  refine⟨a1,a2,a3,?_⟩
  rcases a4 with h4 |⟨g,cs,fs,rfl,hB,hc,hP,hF⟩
  · exact .inl h4
  · exact .inr ⟨g,cs,fs,rfl,hB,hc,hP,hF.mono h1 h2⟩
end
end

section
open Go.RowKit

/-- What is kept where the cells and the blocks of the footprint are the same. -/
def KeepE {α:Type}(size:Nat) (El:World→Array Value→Nat→α→List Nat→Prop):Prop :=
  ∀ (w W:World) (cs cs':Array Value) (i i':Nat) (x:α) (bs:List Nat),El w cs i x bs→(∀ j,j < size→cs'[i'+j]?=cs[i+j]?)→w.heap.size≤W.heap.size→(∀ b ∈ bs,W.heap[b]?=w.heap[b]?)→El W cs' i' x bs
/-- A property of footprints that holds of two that have no block in common, if it holds of each. -/
def AppN (N:List Nat→Prop):Prop:=N []∧∀ a b,N a→N b→(∀ x ∈ a,∀ y ∈ b,x≠y)→N (a ++ b)
theorem appN_nodup:AppN List.Nodup:=⟨List.nodup_nil,fun _ _ h k d=> List.nodup_append.2 ⟨h,k,d⟩⟩
def AnyN (_:List Nat):Prop:=True
theorem appN_any:AppN AnyN:=⟨trivial,fun _ _ _ _ _=> trivial⟩
/-- The slice value v is the call's own; its elements read as l; all its blocks lie from lo to hi; N holds of the elements' blocks. -/
def RowG {α:Type} [Inhabited α] (N:List Nat→Prop) (TP:TypeId) (size:Nat) (El:World→Array Value→Nat→α→List Nat→Prop) (lo hi:Nat) (w:World) (v:Value) (l:List α):Prop :=
  ∃ cells fs, w.ownsRow lo TP size v l.length cells ∧ (∀ g, v.ownBlock = some g → g < hi) ∧ fs.length = l.length ∧ (∀ i, i < l.length → El w cells.toArray (i * size) (pix l i) (pix fs i)) ∧
    (∀ b ∈ fs.flatten,lo≤b∧b < hi∧v.ownBlock≠some b)∧N fs.flatten∧hi≤w.heap.size
section
variable {α:Type} [Inhabited α] {N:List Nat→Prop}{TP:TypeId}{size lo hi:Nat}{El:World→Array Value→Nat→α→List Nat→Prop}{w W:World}{v:Value}{l:List α}
theorem RowG.empty (hN:AppN N) (w:World) (h1:lo≤w.heap.size):RowG N TP size El lo (w.heap.size+1) (w.alloc (.cells #[] TP)) (.slice (some ⟨w.heap.size,0,none⟩) 0 0) ([]:List α) :=
  ⟨[],[],World.ownsRow_made w #[] 0 h1 (Nat.zero_le _) (by simp),(fun g h=> by injection h with h;simp only at h;omega),rfl,(fun i hi=> by simp at hi),(fun b hb=> by simp at hb),hN.1,by simp⟩
theorem RowG.keep (hk:KeepE size El) (h:RowG N TP size El lo hi w v l) (hs:w.heap.size≤W.heap.size) (hb:∀ b,lo≤b→b < hi→W.heap[b]?=w.heap[b]?):RowG N TP size El lo hi W v l:=by
  obtain⟨cells,fs,h1,h2,h3,h4,h5,h6,h7⟩:=h
  refine⟨cells,fs,⟨h1.1,?_⟩,h2,h3,fun i hi=> hk _ _ _ _ _ _ _ _ (h4 i hi) (fun _ _=> rfl) hs fun b hm=> ?_,h5,h6,Nat.le_trans h7 hs⟩
  · rcases h1.2 with h |⟨g,cap,cur,rfl,hg,hh,r⟩
    · exact .inl h
    · exact .inr ⟨g,cap,cur,rfl,hg,(hb g hg (h2 g rfl)).trans hh,r⟩
  · have:=h5 b (mem_flatten_pix hm)
    exact hb b this.1 this.2.1
theorem RowG.bl (hk:KeepE size El) (h:RowG N TP size El lo hi w v l) (hb:Bl w W):RowG N TP size El lo hi W v l :=
  h.keep hk hb.size fun b _ h2=> Below.block hb b (Nat.lt_of_lt_of_le h2 (by obtain⟨_,_,_,_,_,_,_,_,h7⟩:=h;exact h7))
theorem RowG.hiLe (h:RowG N TP size El lo hi w v l):hi≤w.heap.size:=by
  obtain⟨_,_,_,_,_,_,_,_,h7⟩:=h
  exact h7
end
theorem pixs_last {fs:List (List Nat)}{bs:List Nat}{n:Nat}(h:fs.length=n):pix (fs ++ [bs]) n=bs:=by subst h;exact pix_append_last
/-- append of one element, laid by the call itself. -/
theorem wpList_append_rowX {P:Program}{α:Type} [Inhabited α] {N:List Nat→Prop}(hN:AppN N) {size bytes:Nat}{El:World→Array Value→Nat→α→List Nat→Prop}(hk:KeepE size El) {TP t:TypeId}{z:Value}
    (hinfo:(P.info? TP).map (fun i =>(i.zero,i.size,i.bytes))=some (some z,size,bytes)) (hzs:z.cells.size=size) (hsz:0 < size) (hby:bytes≤4096) (ht:P.underlying t=some (.slice TP))
    {W:World}{news:Array Value}{p:α}{bs:List Nat}{lo hi:Nat}{l:List α}{ops:Array Oper}{rest:List Oper}{o:Oper}{a:Act}{Q:Exit→Act→World→Prop}(hgd:o.guard=none) (s x:Operand)
    (ho:o.op=.call { callee:=.builtin .append,args:=#[s,x],argTypes:=#[t,t] }) (v:Value) (hs:a.eval s=v) (hrow:RowG N TP size El lo hi W v l)
    (hel:El W news 0 p bs) (hnl:news.size=size) (h1:∀ u ∈ news.toList,u.oneCell'=true) (hbs:∀ b ∈ bs,hi≤b∧b < W.heap.size) (hNb:N bs) (hlh:lo≤hi)
    (c:Nat) (hx:a.eval x=.slice (some ⟨W.heap.size,0,none⟩) 1 c) (hlen:l.length≤1048576) (w0:World) (hb:Bl w0 W) (h0:w0.heap.size≤lo)
    (h:∀ v' w',RowG N TP size El lo w'.heap.size w' v' (l ++ [p])→Bl w0 w'→(v'=.slice none 0 0→False)→(∀ g,g < W.heap.size→v.ownBlock≠some g→w'.heap[g]?=W.heap[g]?∧v'.ownBlock≠some g)→wpList P ops Q rest (a.put o.dst v') w'):wpList P ops Q (o :: rest) a (W.alloc (.cells news TP)):=by
  obtain⟨i0,hi0,hz0,hz1,hz2⟩:=info_parts hinfo
  obtain⟨cells,fs,r1,r2,r3,r4,r5,r6,r7⟩:=hrow
  have ro:=World.ownsRow.alloc r1 (.cells news TP)
  have hnew:(W.alloc (.cells news TP)).heap[W.heap.size]?=some (.cells news TP (0,0)):=heap_alloc_new W _
  have hsz2:(W.alloc (.cells news TP)).heap.size=W.heap.size+1:=by simp
  have hm:(l.length+1) * bytes≤140737488355328:=Nat.le_trans (Nat.mul_le_mul (show l.length+1≤1048577 by omega) hby) (by omega)
  refine wpList_append_own_at _ hgd s x t ho lo TP i0 z size bytes ht hi0 hz0 hz1 hz2 hzs hsz v l.length cells hs ro ⟨W.heap.size,0,none⟩ 1 c news.toList hx (by simpa using hnl) (World.news_of_block hnew) h1 (by unfold maxLen;omega) hm (by omega) ?_
  intro v' w' g1 g2 g3 g4
  have hne:v'≠.slice none 0 0:=fun e=> by have:=(g3.1 e).2;omega
  have hws:=g2.size
  have hold:∀ b,b < W.heap.size→v.ownBlock≠some b→w'.heap[b]?=W.heap[b]?:=fun b hb1 hb2 =>(g2.block b (by omega) (fun e=> hb2 e.symm)).trans (Below.heap_alloc W _ b hb1)
  have hown:∀ b,v'.ownBlock=some b→(v.ownBlock=some b∨b=W.heap.size+1):=by
    intro b e
    rcases g4 with g4 | g4
    · exact .inl (by rw[← g4];exact e)
    · rw[g4] at e;injection e with e;right;omega
  have hvl:∀ b,v'.ownBlock=some b→lo≤b∧b < w'.heap.size:=fun b e=> by have:=World.ownsRow.lt g1 b e;exact this
  refine h v' w' ⟨cells ++ news.toList,fs ++ [bs],by simpa using g1,fun g e =>(hvl g e).2,by simp[r3],fun i hi'=> ?_,fun b hm'=> ?_,?_,Nat.le_refl _⟩ ((hb.alloc _).grown g2 (fun k e=> by have:=(World.ownsRow.lt r1 k e).1;omega)) hne (fun g hg hn =>⟨hold g hg hn,fun e=> by rcases hown g e with e | e;exact hn e;omega⟩)
  · have hcl:=r1.1
    rw[List.length_append,List.length_singleton] at hi'
    rcases Nat.lt_succ_iff_lt_or_eq.1 hi' with hi' | rfl
    · rw[pix_append_left hi',pix_append_left (by rw[r3];exact hi')]
      refine hk _ _ _ _ _ _ _ _ (r4 i hi') (fun j hj=> ?_) (by omega) fun b hb'=> ?_
      · have:i * size+j < cells.length:=by
          rw[hcl]
          have:(i+1) * size≤l.length * size:=Nat.mul_le_mul_right _ hi'
          rw[Nat.succ_mul] at this
          omega
        simp[List.getElem?_append_left this]
      · have:=r5 b (mem_flatten_pix hb')
        exact hold b (by omega) this.2.2
    · rw[pix_append_last,pixs_last r3]
      refine hk _ _ _ _ _ _ _ _ hel (fun j hj=> ?_) (by omega) fun b hb'=> ?_
      · have:(cells ++ news.toList)[l.length * size+j]?=news.toList[j]?:=by
          rw[List.getElem?_append_right (by rw[hcl];omega),hcl]
          congr 1;omega
        simpa using this
      · have:=hbs b hb'
        exact hold b this.2 fun e=> by have:=r2 b e;omega
  · rw[List.flatten_append,List.mem_append] at hm'
    rcases hm' with hm' | hm'
    · have:=r5 b hm'
      refine⟨this.1,by omega,fun e=> ?_⟩
      rcases hown b e with e | e
      · exact this.2.2 e
      · omega
    · have:=hbs b (by simpa using hm')
      refine⟨by omega,by omega,fun e=> ?_⟩
      rcases hown b e with e | e
      · have:=r2 b e;omega
      · omega
  · rw[List.flatten_append]
    refine hN.2 _ _ r6 (by simpa using hNb) fun x hx' y hy e=> ?_
    have a1:=r5 x hx'
    have a2:=hbs y (by simpa using hy)
    omega
theorem ptIn_keep (T:TypeId):KeepE 6 (PtIn T):=by
  intro w W cs cs' i i' x bs h hc hs hb
  obtain⟨s,A,n,c,B,m,d,t,C,j,e,D,k,f,b1,b2,⟨h0,h1,h2,h3,h4,h5⟩,hx,hy,rfl⟩:=h
  refine⟨s,A,n,c,B,m,d,t,C,j,e,D,k,f,b1,b2,⟨?_,?_,?_,?_,?_,?_⟩,hx.keep hs fun b hm=> hb b (by simp[hm]),hy.keep hs fun b hm=> hb b (by simp[hm]),rfl⟩
  · rw[← h0];exact hc 0 (by omega)
  · rw[← h1];exact hc 1 (by omega)
  · rw[← h2];exact hc 2 (by omega)
  · rw[← h3];exact hc 3 (by omega)
  · rw[← h4];exact hc 4 (by omega)
  · rw[← h5];exact hc 5 (by omega)
/-- A row of points. -/
abbrev RowP (N:List Nat→Prop) (lo hi:Nat) (w:World) (v:Value) (l:List PtD):Prop:=RowG N 76 6 (PtIn 3) lo hi w v l
section
variable {N:List Nat→Prop}{lo hi:Nat}{w W:World}{v:Value}{l:List PtD}
theorem RowP.out (h:RowP N lo hi w v l):(v=.slice none 0 0∧l=[])∨∃ g c cs fs,v=.slice (some ⟨g,0,none⟩) l.length c∧l.length≤c∧Blk w g 76 cs∧l.length * 6≤cs.size∧PtsIn 3 w cs l l.length fs∧(∀ b ∈ g :: fs.flatten,lo≤b∧b < hi)∧g ∉ fs.flatten∧N fs.flatten:=by
  obtain⟨cells,fs,r1,r2,r3,r4,r5,r6,r7⟩:=h
  rcases r1.2 with ⟨rfl,h0⟩ |⟨g,cap,cur,rfl,hg,hh,hn,hcap,hcs,ht⟩
  · exact .inl ⟨rfl,List.length_eq_zero_iff.1 h0⟩
  · have hlen:l.length * 6≤cur.size:=by rw[hcs];exact Nat.mul_le_mul_right _ hn
    refine .inr ⟨g,cap,cur,fs,rfl,hn,hh,hlen,⟨r3,fun i hi=> ?_⟩,fun b hb=> ?_,fun hm =>(r5 g hm).2.2 rfl,r6⟩
    · refine ptIn_keep _ _ _ _ _ _ _ _ _ (r4 i hi) (fun j hj=> ?_) (Nat.le_refl _) fun _ _=> rfl
      rw[← ht]
      have:i * 6+j < l.length * 6:=by omega
      simp[this]
    · rcases List.mem_cons.1 hb with rfl | hb
      · exact⟨hg,r2 _ rfl⟩
      · exact⟨(r5 b hb).1,(r5 b hb).2.1⟩
theorem RowP.rd (h:RowP N lo hi w v l) (hl:l.length≤1048576):∃ A c,v=.slice A l.length c∧RdPS w A l.length c l:=by
  rcases RowP.out h with ⟨rfl,rfl⟩ |⟨g,c,cs,fs,rfl,h1,h2,h3,h4,_⟩
  · exact⟨none,0,rfl,RdS.nil _ _ _⟩
  · exact⟨_,c,rfl,h4.rd h2 rfl (by omega) h1⟩
theorem RowP.own (h:RowP List.Nodup lo hi w v l) (hl:l.length≤1048576):∃ A c,v=.slice A l.length c∧OwPZ 3 76 lo hi w A l.length c l:=by
  rcases RowP.out h with ⟨rfl,rfl⟩ |⟨g,c,cs,fs,rfl,h1,h2,h3,h4,h5,h6,h7⟩
  · exact⟨none,0,rfl,rfl,Nat.le_refl _,Nat.zero_le _,.inl rfl⟩
  · exact⟨_,c,rfl,rfl,h1,hl,.inr ⟨g,cs,fs,rfl,h2,h3,h4,List.nodup_cons.2 ⟨h6,h7⟩,h5⟩⟩
end
/-- A point by value, in memory of its own. -/
def OwPN (N:List Nat→Prop) (T:TypeId) (b0:Nat) (w:World) (s:Bool) (A:Option Addr) (n c:Nat) (B:Option Addr) (m d:Nat) (t:Bool) (C:Option Addr) (i e:Nat) (D:Option Addr) (j f:Nat) (p:PtD):Prop :=
  ∃ b1 b2,FtR T w s A n c B m d p.x b1∧FtR T w t C i e D j f p.y b2∧(∀ b ∈ b1 ++ b2,b0≤b∧b < w.heap.size)∧N (b1 ++ b2)
theorem OwPN.of {T:TypeId}{b0:Nat}{w:World}{s:Bool}{A:Option Addr}{n c:Nat}{B:Option Addr}{m d:Nat}{t:Bool}{C:Option Addr}{i e:Nat}{D:Option Addr}{j f:Nat}{p:PtD}(h:OwP T b0 w s A n c B m d t C i e D j f p):OwPN List.Nodup T b0 w s A n c B m d t C i e D j f p:=by
  obtain⟨b1,b2,h1,h2,hf⟩:=h
  exact⟨b1,b2,h1,h2,hf.2,hf.1⟩
theorem wpList_append_ptX {N:List Nat→Prop}(hN:AppN N) {W:World}{s:Bool}{A:Option Addr}{n c:Nat}{B:Option Addr}{m d:Nat}{t:Bool}{C:Option Addr}{i e:Nat}{D:Option Addr}{j f:Nat}{p:PtD}{lo hi b0:Nat}{l:List PtD}{ops:Array Oper}{rest:List Oper}{o:Oper}{a:Act}{Q:Exit→Act→World→Prop}(hgd:o.guard=none) (s1 x1:Operand)
    (ho:o.op=.call { callee:=.builtin .append,args:=#[s1,x1],argTypes:=#[33,33] }) (v:Value) (hs:a.eval s1=v) (hrow:RowP N lo hi W v l)
    (hpt:OwPN N 3 b0 W s A n c B m d t C i e D j f p) (hb0:hi≤b0) (hlh:lo≤hi) (c1:Nat) (hx:a.eval x1=.slice (some ⟨W.heap.size,0,none⟩) 1 c1) (hlen:l.length≤1048576) (w0:World) (hb:Bl w0 W) (h0:w0.heap.size≤lo)
    (h:∀ v' w',RowP N lo w'.heap.size w' v' (l ++ [p])→Bl w0 w'→(∀ g,g < W.heap.size→v.ownBlock≠some g→w'.heap[g]?=W.heap[g]?∧v'.ownBlock≠some g)→wpList Tryz.prog ops Q rest (a.put o.dst v') w'):wpList Tryz.prog ops Q (o :: rest) a (W.alloc (.cells #[.bool s,.slice A n c,.slice B m d,.bool t,.slice C i e,.slice D j f] 76)):=by
  obtain⟨b1,b2,f1,f2,f3,f4⟩:=hpt
  refine wpList_append_rowX hN (ptIn_keep 3) info_pt (by rfl) (by omega) (by omega) Tryz.underlying33 hgd s1 x1 ho v hs hrow (p:=p) (bs:=b1 ++ b2) ⟨_,_,_,_,_,_,_,_,_,_,_,_,_,_,b1,b2,⟨rfl,rfl,rfl,rfl,rfl,rfl⟩,f1,f2,rfl⟩ rfl (by simp[Value.oneCell']) (fun b hm =>⟨Nat.le_trans hb0 (f3 b hm).1,(f3 b hm).2⟩) f4 hlh c1 hx hlen w0 hb h0 fun v' w' g1 g2 _ g4=> h v' w' g1 g2 g4
end

section
open Go.RowKit

/-- The indices of a triangle's corners. -/
def triIx (t:TriD):Nat→Int
  | 0=> t.a
  | 1=> t.b
  | _+2=> t.c
def OkIx (n:Nat) (t:TriD) (k:Nat):Prop:=∀ j,j < k→0≤triIx t j∧triIx t j≤(n:Int) - 1
def cornTo (l:List PtD) (t:TriD) (k:Nat):List PtD:=(List.range k).map fun j=> pix l (triIx t j).toNat
theorem cornTo_len (l:List PtD) (t:TriD) (k:Nat):(cornTo l t k).length=k:=by simp[cornTo]
theorem cornTo_succ (l:List PtD) (t:TriD) (k:Nat):cornTo l t (k+1)=cornTo l t k ++ [pix l (triIx t k).toNat]:=by unfold cornTo;rw[List.range_succ,List.map_append];rfl
theorem OkIx.step {n:Nat}{t:TriD}{k:Nat}(h:OkIx n t k) (h0:0≤triIx t k∧triIx t k≤(n:Int) - 1):OkIx n t (k+1):=by
  intro j hj
  rcases Nat.lt_succ_iff_lt_or_eq.1 hj with hj | rfl
  · exact h j hj
  · exact h0
open Classical in
/-- The corners of triangle k of a mesh. -/
noncomputable def cornL (x:MeD) (k:Int):List PtD :=
  if (0≤k∧k≤(x.tris.length:Int) - 1)∧OkIx x.points.length (pix x.tris k.toNat) 3 then cornTo x.points (pix x.tris k.toNat) 3 else []
set_option maxHeartbeats 1600000 in
theorem l07Tri_any (w:World) (a b c r v:Int) :
    Calls Tryz.prog 48 #[.agg #[.int .i64 a,.int .i64 b,.int .i64 c,.int .i64 r,.int .i64 v]] w fun e w'=> ∃ g,e=.returned (.slice (some ⟨g,0,none⟩) 3 3)∧w.heap.size≤g∧Blk w' g 3 #[.int .i64 a,.int .i64 b,.int .i64 c]∧Bl w w':=by
  go_enter Tryz.func48,Tryz.ntmps48
  go_wp2_with fail
  go_ret
  exact⟨_,rfl,by omega,Blk.new1 _ _ _ _,slc⟩
theorem OwPN.far {T:TypeId}{b0:Nat}{w:World}{s:Bool}{A:Option Addr}{n c:Nat}{B:Option Addr}{m d:Nat}{t:Bool}{C:Option Addr}{i e:Nat}{D:Option Addr}{j f:Nat}{p:PtD}(h:OwPN AnyN T b0 w s A n c B m d t C i e D j f p) {q:Addr}(hp:q.block < b0) (u:Value):OwPN AnyN T b0 (w.setCell q u) s A n c B m d t C i e D j f p:=by
  obtain⟨b1,b2,h1,h2,hf,_⟩:=h
  exact⟨b1,b2,h1.keep (by simp) (fun b hb=> Below.heap_setCell w q u b (by have:=(hf b (by simp[hb])).1;omega)),h2.keep (by simp) (fun b hb=> Below.heap_setCell w q u b (by have:=(hf b (by simp[hb])).1;omega)),fun b hb=> by have:=hf b hb;simpa using this,trivial⟩
theorem OwPN.low {N:List Nat→Prop}{T:TypeId}{b0 b1:Nat}{w:World}{s:Bool}{A:Option Addr}{n c:Nat}{B:Option Addr}{m d:Nat}{t:Bool}{C:Option Addr}{i e:Nat}{D:Option Addr}{j f:Nat}{p:PtD}(h:OwPN N T b1 w s A n c B m d t C i e D j f p) (hb:b0≤b1):OwPN N T b0 w s A n c B m d t C i e D j f p:=by
  obtain⟨c1,c2,h1,h2,hf,hn⟩:=h
  exact⟨c1,c2,h1,h2,fun b hm =>⟨Nat.le_trans hb (hf b hm).1,(hf b hm).2⟩,hn⟩
theorem OwPN.twoQ {T:TypeId}{b0 b1:Nat}{w1 w:World}{s:Bool}{A:Option Addr}{n c:Nat}{B:Option Addr}{m d:Nat}{t:Bool}{C:Option Addr}{i e:Nat}{D:Option Addr}{j f:Nat}{p:PtD}(h:OwQ T b0 w1 s A n c B m d p.x) (k:OwQ T b1 w t C i e D j f p.y) (hb:Bl w1 w) (h1:b0≤b1):OwPN AnyN T b0 w s A n c B m d t C i e D j f p:=by
  obtain⟨c1,f1,g1⟩:=h.bl hb
  obtain⟨c2,f2,g2⟩:=k
  refine⟨c1,c2,f1,f2,fun b hm=> ?_,trivial⟩
  rcases List.mem_append.1 hm with hm | hm
  · exact g1 b hm
  · exact⟨Nat.le_trans h1 (g2 b hm).1,(g2 b hm).2⟩
set_option maxRecDepth 100000 in
set_option maxHeartbeats 4000000 in
theorem l05Copy_any (w:World) {s:Bool}{A:Option Addr}{n c:Nat}{B:Option Addr}{m d:Nat}{t:Bool}{C:Option Addr}{i e:Nat}{D:Option Addr}{j f:Nat}{p:PtD}(h:RdR w s A n c B m d p.x) (k:RdR w t C i e D j f p.y) (hn:n≤1048576) (hm:m≤1048576) (hi:i≤1048576) (hj:j≤1048576) :
    Calls Tryz.prog 49 #[.agg #[.bool s,.slice A n c,.slice B m d,.bool t,.slice C i e,.slice D j f]] w fun en w'=> ∃ s1 A1 n1 c1 B1 m1 d1 t1 C1 i1 e1 D1 j1 f1,en=.returned (.agg #[.bool s1,.slice A1 n1 c1,.slice B1 m1 d1,.bool t1,.slice C1 i1 e1,.slice D1 j1 f1])∧OwPN AnyN 3 w.heap.size w' s1 A1 n1 c1 B1 m1 d1 t1 C1 i1 e1 D1 j1 f1 p∧Bl w w':=by
  go_enter Tryz.func49,Tryz.ntmps49
  go_wp2_with fail
  refine wp_gen (fun W=> Bl w W∧Blk W (w.heap.size) 76 #[.bool s,.slice A n c,.slice B m d,.bool t,.slice C i e,.slice D j f]∧Wk 6 76 (w.heap.size+1) W) ⟨slc,bts,bts⟩ ?_
  rintro W ⟨hbW,hx,hr⟩
  go_region_held3 (fun w' =>(w'.cell? ⟨w.heap.size,0,none⟩=some (.bool s)∧w'.cell? ⟨w.heap.size,1,none⟩=some (.slice A n c)∧w'.cell? ⟨w.heap.size,2,none⟩=some (.slice B m d)∧w'.cell? ⟨w.heap.size,3,none⟩=some (.bool t)∧w'.cell? ⟨w.heap.size,4,none⟩=some (.slice C i e)∧w'.cell? ⟨w.heap.size,5,none⟩=some (.slice D j f))∧(w'.cell? ⟨w.heap.size+1,0,none⟩=some (cellD w' (w.heap.size+1) 0)∧w'.cell? ⟨w.heap.size+1,1,none⟩=some (cellD w' (w.heap.size+1) 1)∧w'.cell? ⟨w.heap.size+1,2,none⟩=some (cellD w' (w.heap.size+1) 2)∧w'.cell? ⟨w.heap.size+1,3,none⟩=some (cellD w' (w.heap.size+1) 3)∧w'.cell? ⟨w.heap.size+1,4,none⟩=some (cellD w' (w.heap.size+1) 4)∧w'.cell? ⟨w.heap.size+1,5,none⟩=some (cellD w' (w.heap.size+1) 5))∧w'.frozen? ⟨w.heap.size+1,0,none⟩=false∧w'.frozen? ⟨w.heap.size+1,1,none⟩=false∧w'.frozen? ⟨w.heap.size+1,2,none⟩=false∧w'.frozen? ⟨w.heap.size+1,3,none⟩=false∧w'.frozen? ⟨w.heap.size+1,4,none⟩=false∧w'.frozen? ⟨w.heap.size+1,5,none⟩=false) (first | exact⟨bx6 (T:=76) bts,Wk.out6 (T:=76) bts⟩) (first |(go_at_call 52;with_reducible refine(l04Copy_any _ (h.bl slc) hn hm).mono ?_;rintro en w2 ⟨s1,A1,n1,c1,B1,m1,d1,rfl,hR1,hb2⟩) |(go_at_call 52;with_reducible refine(l04Copy_any _ (k.bl slc) hi hj).mono ?_;rintro en w3 ⟨t1,C1,i1,e1,D1,j1,f1,rfl,hR2,hb3⟩))
  have hz:w.heap.size+1+1≤W.heap.size:=hr.lt
  have hz2:W.heap.size≤w2.heap.size:=(Bl.size hb2:W.drew.heap.size≤_)
  have hr:=(show Wk 6 76 (w.heap.size+1) w3 from bts)
  have hbW:Bl w w3:=slc
  have hX:=OwPN.low (OwPN.twoQ hR1 hR2 hb3 (Bl.size hb2)) (show w.heap.size+1+1≤W.drew.heap.size from hz)
  obtain⟨v0,x0⟩:=hr.val_ (i:=0) (by omega)
  obtain⟨v1,x1⟩:=hr.val_ (i:=1) (by omega)
  obtain⟨v2,x2⟩:=hr.val_ (i:=2) (by omega)
  obtain⟨v3,x3⟩:=hr.val_ (i:=3) (by omega)
  obtain⟨v4,x4⟩:=hr.val_ (i:=4) (by omega)
  obtain⟨v5,x5⟩:=hr.val_ (i:=5) (by omega)
  have hg:=hr.lt
  obtain⟨cs4,hB4,hc4⟩:=hr
  have hf0:=hB4.frozen 0
  have hf1:=hB4.frozen 1
  have hf2:=hB4.frozen 2
  have hf3:=hB4.frozen 3
  have hf4:=hB4.frozen 4
  have hf5:=hB4.frozen 5
  go_wp2_with fail
  exact bodyPost_ret (v:=.agg #[.bool s1,.slice A1 n1 c1,.slice B1 m1 d1,.bool t1,.slice C1 i1 e1,.slice D1 j1 f1]) (by simp[results,Tryz.results49,go_sem,x0,x1,x2,x3,x4,x5]) rfl ⟨_,_,_,_,_,_,_,_,_,_,_,_,_,_,rfl,((((((hX.far (by simp) _).far (by simp) _).far (by simp) _).far (by simp) _).far (by simp) _).far (by simp) _).low (by omega),slc⟩
end

end Go.Proofs.YtjaapemopbbfaaaGreat
